/- Parts of a proof that a law of the program holds: what the program computes, and why that is right. -/
import Derived.Test.YteognanhfpbghaaGreatProg
import Derived.Test.YteognanhfpbghaaGreatZFnBodies2
section
set_option linter.unusedVariables false
set_option linter.unusedSimpArgs false
set_option linter.unnecessarySimpa false
namespace Go.Sp
def su (f : Nat → Nat) : Nat → Nat
  | 0 => 0
  | n + 1 => su f n + f n
theorem su_congr {f g : Nat → Nat} : ∀ n, (∀ i, i < n → f i = g i) → su f n = su g n
  | 0, _ => rfl
  | n + 1, h => by
    show su f n + f n = su g n + g n
    rw [su_congr n fun i hi => h i (by omega), h n (by omega)]
theorem su_le {f g : Nat → Nat} : ∀ n, (∀ i, i < n → f i ≤ g i) → su f n ≤ su g n
  | 0, _ => Nat.le_refl _
  | n + 1, h => by
    have h1 := su_le n fun i hi => h i (by omega)
    have h2 := h n (by omega)
    show su f n + f n ≤ su g n + g n
    omega
theorem su_add (f g : Nat → Nat) : ∀ n, su (fun i => f i + g i) n = su f n + su g n
  | 0 => rfl
  | n + 1 => by
    show su (fun i => f i + g i) n + (f n + g n) = (su f n + f n) + (su g n + g n)
    rw [su_add f g n]
    omega
theorem su_zero {f : Nat → Nat} : ∀ n, (∀ i, i < n → f i = 0) → su f n = 0
  | 0, _ => rfl
  | n + 1, h => by
    show su f n + f n = 0
    rw [su_zero n fun i hi => h i (by omega), h n (by omega)]
theorem su_bump {f g : Nat → Nat} {j c : Nat} : ∀ n, j < n → g j = f j + c → (∀ i, i < n → i ≠ j → g i = f i) → su g n = su f n + c
  | 0, hj, _, _ => by omega
  | n + 1, hj, h1, h2 => by
    show su g n + g n = su f n + f n + c
    by_cases hjn : j = n
    · subst hjn
      rw [su_congr j fun i hi => h2 i (by omega) (by omega), h1]
      omega
    · rw [su_bump n (by omega) h1 fun i hi hne => h2 i (by omega) hne, h2 n (by omega) (fun e => hjn e.symm)]
      omega
theorem su_lt {f g : Nat → Nat} {j : Nat} : ∀ n, (∀ i, i < n → f i ≤ g i) → j < n → f j < g j → su f n < su g n
  | 0, _, hj, _ => by omega
  | n + 1, h, hj, h1 => by
    show su f n + f n < su g n + g n
    by_cases hjn : j = n
    · subst hjn
      have := su_le j fun i hi => h i (by omega)
      omega
    · have := su_lt n (fun i hi => h i (by omega)) (by omega : j < n) h1
      have := h n (by omega)
      omega
theorem su_pos {f : Nat → Nat} : ∀ n, 0 < su f n → ∃ i, i < n ∧ 0 < f i
  | 0, h => by simp [su] at h
  | n + 1, h => by
    change 0 < su f n + f n at h
    by_cases h1 : 0 < f n
    · exact ⟨n, by omega, h1⟩
    · obtain ⟨i, hi, h2⟩ := su_pos n (by omega : 0 < su f n)
      exact ⟨i, by omega, h2⟩
theorem su_one {f : Nat → Nat} {j : Nat} {n : Nat} (hj : j < n) : f j ≤ su f n := by
  have : su (fun i => if i = j then f j else 0) n = 0 + f j := by
    have := su_bump (f := fun _ => 0) (g := fun i => if i = j then f j else 0) (c := f j) n hj (by simp) (fun i _ hne => by simp [hne])
    rw [this, su_zero n fun _ _ => rfl]
  have h2 := su_le (f := fun i => if i = j then f j else 0) (g := f) n fun i _ => by
    show (if i = j then f j else 0) ≤ f i
    split
    · rename_i h; subst h; exact Nat.le_refl _
    · exact Nat.zero_le _
  omega
def inn (X : Nat → Bool) (i : Nat) : Bool := X (i / 8) && X (i % 8)
def size (X : Nat → Bool) : Nat := su (fun v => if X v then 1 else 0) 8
def span (I : Nat → Nat) (X : Nat → Bool) : Nat := su (fun i => if inn X i then I i else 0) 64
def card (I : Nat → Nat) : Nat := su I 64
def cap (X Y : Nat → Bool) (v : Nat) : Bool := X v && Y v
def cup (X Y : Nat → Bool) (v : Nat) : Bool := X v || Y v
def add1 (I : Nat → Nat) (e i : Nat) : Nat := if i = e then I i + 1 else I i
def sub1 (I : Nat → Nat) (e i : Nat) : Nat := if i = e then I i - 1 else I i
theorem inn_cap (X Y : Nat → Bool) (i : Nat) : inn (cap X Y) i = (inn X i && inn Y i) := by
  unfold inn cap
  cases X (i / 8) <;> cases X (i % 8) <;> cases Y (i / 8) <;> cases Y (i % 8) <;> rfl
theorem inn_cup {X Y : Nat → Bool} {i : Nat} (h : inn X i = true ∨ inn Y i = true) : inn (cup X Y) i = true := by
  unfold inn cup at *
  revert h
  cases X (i / 8) <;> cases X (i % 8) <;> cases Y (i / 8) <;> cases Y (i % 8) <;> simp
theorem size_cc (X Y : Nat → Bool) : size (cap X Y) + size (cup X Y) = size X + size Y := by
  unfold size
  rw [← su_add, ← su_add]
  refine su_congr 8 fun v _ => ?_
  unfold cap cup
  cases X v <;> cases Y v <;> rfl
theorem span_cc (I : Nat → Nat) (X Y : Nat → Bool) : span I X + span I Y ≤ span I (cap X Y) + span I (cup X Y) := by
  unfold span
  rw [← su_add, ← su_add]
  refine su_le 64 fun i _ => ?_
  show (if inn X i then I i else 0) + (if inn Y i then I i else 0) ≤ (if inn (cap X Y) i then I i else 0) + (if inn (cup X Y) i then I i else 0)
  rw [inn_cap]
  cases hx : inn X i <;> cases hy : inn Y i
  · simp
  · rw [inn_cup (.inr hy)]; simp
  · rw [inn_cup (.inl hx)]; simp
  · rw [inn_cup (.inl hx)]; simp
theorem size_two {X : Nat → Bool} {a b : Nat} (ha : a < 8) (hb : b < 8) (hab : a ≠ b) (xa : X a = true) (xb : X b = true) : 2 ≤ size X := by
  unfold size
  have h1 : su (fun v => if v = a then 1 else 0) 8 = 1 := by
    have := su_bump (f := fun _ => 0) (g := fun v => if v = a then 1 else 0) (c := 1) 8 ha (by simp) (fun i _ hne => by simp [hne])
    rw [this, su_zero 8 fun _ _ => rfl]
  have h2 : su (fun v => if v = b then 1 else 0) 8 = 1 := by
    have := su_bump (f := fun _ => 0) (g := fun v => if v = b then 1 else 0) (c := 1) 8 hb (by simp) (fun i _ hne => by simp [hne])
    rw [this, su_zero 8 fun _ _ => rfl]
  have h3 := su_le (f := fun v => (if v = a then 1 else 0) + (if v = b then 1 else 0)) (g := fun v => if X v then 1 else 0) 8 fun v _ => by
    show (if v = a then 1 else 0) + (if v = b then 1 else 0) ≤ (if X v then 1 else 0)
    by_cases h1 : v = a
    · subst h1
      rw [if_pos rfl, if_neg hab, xa]
      simp
    · by_cases h2 : v = b
      · subst h2
        rw [if_neg h1, if_pos rfl, xb]
        simp
      · rw [if_neg h1, if_neg h2]
        exact Nat.zero_le _
  rw [su_add, h1, h2] at h3
  exact h3
theorem size_inn {X : Nat → Bool} {i : Nat} (hi : i < 64) (hne : i / 8 ≠ i % 8) (h : inn X i = true) : 2 ≤ size X := by
  unfold inn at h
  rw [Bool.and_eq_true] at h
  exact size_two (by omega) (by omega) hne h.1 h.2
theorem span_add1 (I : Nat → Nat) {e : Nat} (he : e < 64) (X : Nat → Bool) : span (add1 I e) X = span I X + if inn X e then 1 else 0 := by
  unfold span
  refine su_bump (j := e) 64 he ?_ (fun i _ hne => ?_)
  · show (if inn X e then add1 I e e else 0) = (if inn X e then I e else 0) + _
    unfold add1
    cases inn X e <;> simp
  · show (if inn X i then add1 I e i else 0) = (if inn X i then I i else 0)
    unfold add1
    rw [if_neg hne]
theorem span_sub1 {I : Nat → Nat} {e : Nat} (he : e < 64) (hp : 0 < I e) (X : Nat → Bool) : span (sub1 I e) X + (if inn X e then 1 else 0) = span I X := by
  have h : span I X = span (add1 (sub1 I e) e) X := by
    unfold span
    refine su_congr 64 fun i _ => ?_
    have : add1 (sub1 I e) e i = I i := by
      unfold add1 sub1
      by_cases h : i = e
      · subst h
        simp
        omega
      · simp [h]
    rw [this]
  rw [h, span_add1 _ he]
theorem card_add1 (I : Nat → Nat) {e : Nat} (he : e < 64) : card (add1 I e) = card I + 1 :=
  su_bump (j := e) 64 he (by simp [add1]) (fun i _ hne => by simp [add1, hne])
theorem card_sub1 {I : Nat → Nat} {e : Nat} (he : e < 64) (hp : 0 < I e) : card (sub1 I e) + 1 = card I :=
  (su_bump (f := sub1 I e) (g := I) (j := e) 64 he (by simp [sub1]; omega) (fun i _ hne => by simp [sub1, hne])).symm
theorem span_mono {I J : Nat → Nat} (h : ∀ i, i < 64 → I i ≤ J i) (X : Nat → Bool) : span I X ≤ span J X :=
  su_le 64 fun i hi => by
    show (if inn X i then I i else 0) ≤ (if inn X i then J i else 0)
    split
    · exact h i hi
    · exact Nat.le_refl _
theorem span_congr {I J : Nat → Nat} (h : ∀ i, i < 64 → I i = J i) (X : Nat → Bool) : span I X = span J X :=
  su_congr 64 fun i hi => by rw [h i hi]
structure Sparse (k l : Nat) (I : Nat → Nat) : Prop where
  sp : ∀ X, 0 < span I X → span I X + l ≤ k * size X
  ll : ∀ i, i < 64 → 0 < I i → i / 8 ≠ i % 8
def tight (k l : Nat) (I : Nat → Nat) (X : Nat → Bool) : Prop := span I X + l = k * size X
section
variable {k l : Nat} {I J : Nat → Nat}
theorem Sparse.congr (h : Sparse k l I) (e : ∀ i, i < 64 → I i = J i) : Sparse k l J :=
  ⟨fun X hX => by rw [← span_congr e X] at hX ⊢; exact h.sp X hX, fun i hi hp => h.ll i hi (by rw [e i hi]; exact hp)⟩
theorem Sparse.sub (h : Sparse k l I) (e : ∀ i, i < 64 → J i ≤ I i) : Sparse k l J :=
  ⟨fun X hX => by
    have h1 := span_mono e X
    have := h.sp X (by omega)
    omega, fun i hi hp => h.ll i hi (by have := e i hi; omega)⟩
theorem Sparse.bound (hl : l < 2 * k) (h : Sparse k l I) {X : Nat → Bool} (h2 : 2 ≤ size X) : span I X + l ≤ k * size X := by
  by_cases h0 : 0 < span I X
  · exact h.sp X h0
  · have : 2 * k ≤ k * size X := by rw [Nat.mul_comm]; exact Nat.mul_le_mul_left _ h2
    omega
theorem tight_cc (hl : l < 2 * k) (h : Sparse k l I) {X Y : Nat → Bool} (hX : tight k l I X) (hY : tight k l I Y) (h2 : 2 ≤ size (cap X Y)) : tight k l I (cap X Y) ∧ tight k l I (cup X Y) := by
  have h1 := size_cc X Y
  have h3 := span_cc I X Y
  have hsz : size (cap X Y) ≤ size (cup X Y) := su_le 8 fun v _ => by
    show (if cap X Y v then 1 else 0) ≤ (if cup X Y v then 1 else 0)
    unfold cap cup
    cases X v <;> cases Y v <;> simp
  have h4 := h.bound hl h2
  have h5 := h.bound hl (X := cup X Y) (by omega)
  unfold tight at *
  have h6 : k * size (cap X Y) + k * size (cup X Y) = k * size X + k * size Y := by rw [← Nat.mul_add, ← Nat.mul_add, h1]
  omega
theorem not_add (hl : l < 2 * k) (h : Sparse k l I) {e : Nat} (he : e < 64) (hne : e / 8 ≠ e % 8) (hn : ¬ Sparse k l (add1 I e)) : ∃ X, inn X e = true ∧ tight k l I X := by
  apply Classical.byContradiction
  intro hno
  refine hn ⟨fun X hX => ?_, fun i hi hp => ?_⟩
  · rw [span_add1 I he] at hX ⊢
    cases hx : inn X e with
    | false =>
      rw [hx] at hX
      simp only [Bool.false_eq_true, if_false, Nat.add_zero] at hX ⊢
      exact h.sp X hX
    | true =>
      have h2 := size_inn he hne hx
      have h3 := h.bound hl h2
      by_cases ht : tight k l I X
      · exact absurd ⟨X, hx, ht⟩ hno
      · unfold tight at ht
        simp only [if_true]
        omega
  · unfold add1 at hp
    by_cases hie : i = e
    · rw [hie]; exact hne
    · rw [if_neg hie] at hp
      exact h.ll i hi hp
theorem tight_no {e : Nat} (he : e < 64) {X : Nat → Bool} (hx : inn X e = true) (ht : k * size X ≤ span I X + l) : ¬ Sparse k l (add1 I e) := fun h => by
  have := h.sp X (by rw [span_add1 I he, hx]; simp)
  rw [span_add1 I he, hx] at this
  simp only [if_true] at this
  omega
theorem least_tight {e : Nat} : ∀ n, (∃ X, size X ≤ n ∧ inn X e = true ∧ tight k l I X) → ∃ X, inn X e = true ∧ tight k l I X ∧ ∀ Y, inn Y e = true → tight k l I Y → size X ≤ size Y
  | 0, ⟨X, h0, h1, h2⟩ => ⟨X, h1, h2, fun Y _ _ => by omega⟩
  | n + 1, ⟨X, h0, h1, h2⟩ => by
    by_cases h : ∃ Y, size Y ≤ n ∧ inn Y e = true ∧ tight k l I Y
    · exact least_tight n h
    · refine ⟨X, h1, h2, fun Y h3 h4 => ?_⟩
      apply Classical.byContradiction
      intro h5
      exact h ⟨Y, by omega, h3, h4⟩
theorem cap_less {X Y : Nat → Bool} {f : Nat} (hf : f < 64) (hX : inn X f = true) (hY : inn Y f = false) : size (cap X Y) < size X := by
  unfold inn at hX hY
  rw [Bool.and_eq_true] at hX
  have : ∃ v, v < 8 ∧ X v = true ∧ Y v = false := by
    cases h1 : Y (f / 8) with
    | false => exact ⟨f / 8, by omega, hX.1, h1⟩
    | true =>
      rw [h1, Bool.true_and] at hY
      exact ⟨f % 8, by omega, hX.2, hY⟩
  obtain ⟨v, hv, h1, h2⟩ := this
  refine su_lt 8 (fun v _ => ?_) hv ?_
  · show (if cap X Y v then 1 else 0) ≤ (if X v then 1 else 0)
    unfold cap
    cases X v <;> cases Y v <;> simp
  · show (if cap X Y v then 1 else 0) < (if X v then 1 else 0)
    unfold cap
    rw [h1, h2]
    simp
theorem exch (hl : l < 2 * k) : ∀ n (I J : Nat → Nat), Sparse k l I → Sparse k l J → su (fun i => J i - I i) 64 ≤ n → card I < card J → ∃ e, e < 64 ∧ I e < J e ∧ Sparse k l (add1 I e) := by
  intro n
  induction n with
  | zero =>
    intro I J hI hJ hn hc
    have : card J ≤ card I := su_le 64 fun i hi => by
      have : J i - I i ≤ su (fun i => J i - I i) 64 := su_one (f := fun i => J i - I i) hi
      omega
    omega
  | succ n ih =>
    intro I J hI hJ hn hc
    apply Classical.byContradiction
    intro hno
    have hnot : ∀ e, e < 64 → I e < J e → ¬ Sparse k l (add1 I e) := fun e h1 h2 h3 => hno ⟨e, h1, h2, h3⟩
    -- a bar of J more
    have : ∃ e, e < 64 ∧ I e < J e := by
      apply Classical.byContradiction
      intro hx
      have : card J ≤ card I := su_le 64 fun i hi => by
        apply Classical.byContradiction
        intro h
        exact hx ⟨i, hi, by omega⟩
      omega
    obtain ⟨e, he, hle⟩ := this
    have hne := hJ.ll e he (by omega)
    obtain ⟨X0, hx0, ht0⟩ := not_add hl hI he hne (hnot e he hle)
    obtain ⟨X, hx, ht, hmin⟩ := least_tight (size X0) ⟨X0, Nat.le_refl _, hx0, ht0⟩
    -- a bar of I more, in X
    have : ∃ f, f < 64 ∧ inn X f = true ∧ J f < I f := by
      apply Classical.byContradiction
      intro hno2
      have h1 : span I X < span J X := su_lt (j := e) 64 (fun i hi => by
        show (if inn X i then I i else 0) ≤ (if inn X i then J i else 0)
        cases hxi : inn X i with
        | false => exact Nat.le_refl _
        | true =>
          simp only [if_true]
          apply Classical.byContradiction
          intro h
          exact hno2 ⟨i, hi, hxi, by omega⟩) he (by
        show (if inn X e then I e else 0) < (if inn X e then J e else 0)
        rw [hx]
        exact hle)
      have h2 := hJ.sp X (by omega)
      unfold tight at ht
      omega
    obtain ⟨f, hf, hxf, hlf⟩ := this
    have hfe : f ≠ e := fun h => by subst h; omega
    have hfne := hI.ll f hf (by omega)
    have hpf : 0 < add1 I e f := by unfold add1; rw [if_neg hfe]; omega
    -- the exchange
    have hspan : ∀ Y, span (sub1 (add1 I e) f) Y + (if inn Y f then 1 else 0) = span I Y + (if inn Y e then 1 else 0) := fun Y => by
      rw [span_sub1 hf hpf, span_add1 I he]
    have hI' : Sparse k l (sub1 (add1 I e) f) := by
      refine ⟨fun Y hY => ?_, fun i hi hp => ?_⟩
      · have hs := hspan Y
        obtain ⟨i, hi, hpi⟩ := su_pos 64 hY
        have hyi : inn Y i = true := by
          cases h : inn Y i with
          | true => rfl
          | false => rw [h] at hpi; simp at hpi
        have hine : i / 8 ≠ i % 8 := by
          rw [hyi] at hpi
          simp only [if_true] at hpi
          unfold sub1 add1 at hpi
          by_cases hie : i = e
          · rw [hie]; exact hne
          · by_cases hif : i = f
            · rw [hif]; exact hfne
            · rw [if_neg hif, if_neg hie] at hpi
              exact hI.ll i hi hpi
        have h2 := size_inn hi hine hyi
        have hb := hI.bound hl h2
        cases hye : inn Y e with
        | false =>
          rw [hye] at hs
          simp only [Bool.false_eq_true, if_false] at hs
          omega
        | true =>
          cases hyf : inn Y f with
          | true =>
            rw [hye, hyf] at hs
            simp only [if_true] at hs
            omega
          | false =>
            rw [hye, hyf] at hs
            simp only [if_true, Bool.false_eq_true, if_false] at hs
            by_cases hty : tight k l I Y
            · have hc2 : inn (cap X Y) e = true := by rw [inn_cap, hx, hye]; rfl
              have h3 := size_inn he hne hc2
              have h4 := (tight_cc hl hI ht hty h3).1
              have h5 := hmin _ hc2 h4
              have h6 := cap_less hf hxf hyf
              omega
            · unfold tight at hty
              omega
      · unfold sub1 add1 at hp
        by_cases hie : i = e
        · rw [hie]; exact hne
        · by_cases hif : i = f
          · rw [hif]; exact hfne
          · rw [if_neg hif, if_neg hie] at hp
            exact hI.ll i hi hp
    have hcard : card (sub1 (add1 I e) f) = card I := by
      have h1 := card_sub1 hf hpf
      have h2 := card_add1 I he
      omega
    have hdist : su (fun i => J i - sub1 (add1 I e) f i) 64 ≤ n := by
      have h1 := su_bump (f := fun i => J i - sub1 (add1 I e) f i) (g := fun i => J i - I i) (j := e) (c := 1) 64 he (by
        show J e - I e = J e - sub1 (add1 I e) f e + 1
        unfold sub1 add1
        rw [if_neg (Ne.symm hfe), if_pos rfl]
        omega) (fun i _ hie => by
        show J i - I i = J i - sub1 (add1 I e) f i
        unfold sub1 add1
        by_cases hif : i = f
        · subst hif
          rw [if_pos rfl, if_neg hie]
          omega
        · rw [if_neg hif, if_neg hie])
      omega
    obtain ⟨e', he', hle', hs'⟩ := ih _ J hI' hJ hdist (by omega)
    have hef : e' ≠ f := fun h => by
      subst h
      unfold sub1 add1 at hle'
      rw [if_pos rfl, if_neg hfe] at hle'
      omega
    have hlI : I e' < J e' := by
      unfold sub1 add1 at hle'
      rw [if_neg hef] at hle'
      by_cases h : e' = e
      · rw [if_pos h] at hle'
        omega
      · rw [if_neg h] at hle'
        exact hle'
    obtain ⟨X', hx', ht'⟩ := not_add hl hI he' (hJ.ll e' he' (by omega)) (hnot e' he' hlI)
    cases hxf' : inn X' f with
    | false =>
      have hs := hspan X'
      rw [hxf'] at hs
      simp only [Bool.false_eq_true, if_false] at hs
      refine tight_no he' hx' ?_ hs'
      unfold tight at ht'
      omega
    | true =>
      have hc2 : inn (cap X X') f = true := by rw [inn_cap, hxf, hxf']; rfl
      have h4 := (tight_cc hl hI ht ht' (size_inn hf hfne hc2)).2
      have hs := hspan (cup X X')
      rw [inn_cup (.inl hx), inn_cup (.inl hxf)] at hs
      simp only [if_true] at hs
      refine tight_no (X := cup X X') he' (inn_cup (.inr hx')) ?_ hs'
      unfold tight at h4
      omega
structure IsRank (k l : Nat) (M : Nat → Nat) (r : Nat) : Prop where
  ex : ∃ I, (∀ i, i < 64 → I i ≤ M i) ∧ Sparse k l I ∧ card I = r
  mx : ∀ J, (∀ i, i < 64 → J i ≤ M i) → Sparse k l J → card J ≤ r
variable {M N : Nat → Nat} {r s : Nat}
theorem IsRank.mono (h : IsRank k l M r) (h2 : IsRank k l N s) (hMN : ∀ i, i < 64 → M i ≤ N i) : r ≤ s := by
  obtain ⟨I, h3, h4, h5⟩ := h.ex
  have := h2.mx I (fun i hi => Nat.le_trans (h3 i hi) (hMN i hi)) h4
  omega
theorem IsRank.of_max (hl : l < 2 * k) (hI : Sparse k l I) (h1 : ∀ i, i < 64 → I i ≤ M i) (h2 : ∀ e, e < 64 → I e < M e → ¬ Sparse k l (add1 I e)) : IsRank k l M (card I) :=
  ⟨⟨I, h1, hI, rfl⟩, fun J hJ hs => by
    apply Classical.byContradiction
    intro h
    obtain ⟨e, he, hlt, hsp⟩ := exch hl _ I J hI hs (Nat.le_refl _) (by omega)
    exact h2 e he (Nat.lt_of_lt_of_le hlt (hJ e he)) hsp⟩
theorem IsRank.extend (hl : l < 2 * k) (h : IsRank k l M r) : ∀ n (I : Nat → Nat), Sparse k l I → (∀ i, i < 64 → I i ≤ M i) → card I + n = r → ∃ I', (∀ i, i < 64 → I i ≤ I' i) ∧ (∀ i, i < 64 → I' i ≤ M i) ∧ Sparse k l I' ∧ card I' = r := by
  intro n
  induction n with
  | zero => intro I hI h1 h2; exact ⟨I, fun _ _ => Nat.le_refl _, h1, hI, by omega⟩
  | succ n ih =>
    intro I hI h1 h2
    obtain ⟨B, b1, b2, b3⟩ := h.ex
    obtain ⟨e, he, hlt, hsp⟩ := exch hl _ I B hI b2 (Nat.le_refl _) (by omega)
    obtain ⟨I', c1, c2, c3, c4⟩ := ih (add1 I e) hsp (fun i hi => by
      unfold add1
      by_cases hie : i = e
      · rw [if_pos hie]
        subst hie
        have := b1 i hi
        omega
      · rw [if_neg hie]
        exact h1 i hi) (by rw [card_add1 I he]; omega)
    refine ⟨I', fun i hi => ?_, c2, c3, c4⟩
    have := c1 i hi
    unfold add1 at this
    split at this <;> omega
theorem IsRank.fill (hl : l < 2 * k) (h : IsRank k l M r) (hI : Sparse k l I) (h1 : ∀ i, i < 64 → I i ≤ M i) {S : Nat → Bool} (ht : tight k l I S) (hMN : ∀ i, i < 64 → M i ≤ N i) (hS : ∀ i, i < 64 → M i < N i → inn S i = true) : IsRank k l N r := by
  have hc := h.mx I h1 hI
  obtain ⟨I', c1, c2, c3, c4⟩ := h.extend hl (r - card I) I hI h1 (by omega)
  have : IsRank k l N (card I') := IsRank.of_max hl c3 (fun i hi => Nat.le_trans (c2 i hi) (hMN i hi)) fun e he hlt => by
    by_cases hM : I' e < M e
    · intro hsp
      have := h.mx (add1 I' e) (fun i hi => by
        unfold add1
        by_cases hie : i = e
        · rw [if_pos hie]; subst hie; omega
        · rw [if_neg hie]; exact c2 i hi) hsp
      rw [card_add1 I' he] at this
      omega
    · have hin := hS e he (by have := c2 e he; omega)
      refine tight_no he hin ?_
      have := span_mono c1 S
      unfold tight at ht
      omega
  rw [c4] at this
  exact this
theorem IsRank.add (h : IsRank k l M r) {e : Nat} (he : e < 64) (h2 : IsRank k l (add1 M e) s) : r ≤ s ∧ s ≤ r + 1 := by
  refine ⟨h.mono h2 fun i hi => by unfold add1; split <;> omega, ?_⟩
  obtain ⟨I, h3, h4, h5⟩ := h2.ex
  by_cases hle : I e ≤ M e
  · have := h.mx I (fun i hi => by
      have := h3 i hi
      unfold add1 at this
      by_cases hie : i = e
      · subst hie; exact hle
      · rw [if_neg hie] at this; exact this) h4
    omega
  · have hp : 0 < I e := by omega
    have := h.mx (sub1 I e) (fun i hi => by
      have := h3 i hi
      unfold add1 at this
      unfold sub1
      by_cases hie : i = e
      · rw [if_pos hie] at this ⊢; omega
      · rw [if_neg hie] at this ⊢; exact this) (h4.sub fun i hi => by unfold sub1; split <;> omega)
    have := card_sub1 he hp
    omega
theorem IsRank.split (h : IsRank k l M r) {A B : Nat → Nat} {a b : Nat} (hA : IsRank k l A a) (hB : IsRank k l B b) (hM : ∀ i, i < 64 → M i ≤ A i + B i) : r ≤ a + b := by
  obtain ⟨I, h3, h4, h5⟩ := h.ex
  have h6 := hA.mx (fun i => min (I i) (A i)) (fun i _ => Nat.min_le_right _ _) (h4.sub fun i _ => Nat.min_le_left _ _)
  have h7 := hB.mx (fun i => I i - A i) (fun i hi => by have := h3 i hi; have := hM i hi; omega) (h4.sub fun i _ => Nat.sub_le _ _)
  have h8 : card I = card (fun i => min (I i) (A i)) + card (fun i => I i - A i) := by
    unfold card
    rw [← su_add]
    exact su_congr 64 fun i _ => by omega
  omega
end
end Go.Sp
end
section
set_option linter.unusedVariables false
set_option linter.unusedSimpArgs false
set_option linter.unnecessarySimpa false
open Go Go.Fw Go.Sp
namespace Go.Proofs.YteognanhfpbghaaGreat
def codeB (x : TBar) : Nat := x.A.toNat * 8 + x.B.toNat
def mult : List TBar → Nat → Nat
  | [], _ => 0
  | x :: L, i => add1 (mult L) (codeB x) i
structure OkB (x : TBar) : Prop where
  a0 : 0 ≤ x.A
  a8 : x.A < 8
  b0 : 0 ≤ x.B
  b8 : x.B < 8
  ab : x.A ≠ x.B
theorem OkB.lt {x : TBar} (h : OkB x) : codeB x < 64 := by
  have := h.a0; have := h.a8; have := h.b0; have := h.b8
  unfold codeB
  omega
theorem OkB.dm {x : TBar} (h : OkB x) : codeB x / 8 = x.A.toNat ∧ codeB x % 8 = x.B.toNat := by
  have := h.a0; have := h.a8; have := h.b0; have := h.b8
  unfold codeB
  omega
theorem OkB.ne {x : TBar} (h : OkB x) : codeB x / 8 ≠ codeB x % 8 := by
  have := h.a0; have := h.a8; have := h.b0; have := h.b8; have := h.ab
  rw [h.dm.1, h.dm.2]
  omega
theorem OkB.inn {x : TBar} (h : OkB x) (X : Nat → Bool) : Sp.inn X (codeB x) = (X x.A.toNat && X x.B.toNat) := by
  unfold Sp.inn
  rw [h.dm.1, h.dm.2]
theorem mult_append (L L' : List TBar) (i : Nat) : mult (L ++ L') i = mult L i + mult L' i := by
  induction L with
  | nil => simp [mult]
  | cons x L ih =>
    simp only [List.cons_append, mult, add1]
    split <;> omega
theorem mult_snoc (L : List TBar) (x : TBar) (i : Nat) : mult (L ++ [x]) i = add1 (mult L) (codeB x) i := by
  rw [mult_append]
  simp only [mult, add1]
  split <;> omega
theorem span_mult {L : List TBar} (h : ∀ x ∈ L, OkB x) (X : Nat → Bool) : span (mult L) X = L.countP fun x => X x.A.toNat && X x.B.toNat := by
  induction L with
  | nil =>
    refine su_zero 64 fun i _ => ?_
    show (if inn X i then 0 else 0) = 0
    split <;> rfl
  | cons x L ih =>
    have hx := h x (List.mem_cons_self ..)
    show span (add1 (mult L) (codeB x)) X = _
    rw [span_add1 _ hx.lt, hx.inn, ih fun y hy => h y (List.mem_cons_of_mem _ hy), List.countP_cons]
theorem su_mul (c : Nat) (f : Nat → Nat) : ∀ n, su (fun i => c * f i) n = c * su f n
  | 0 => by simp [su]
  | n + 1 => by
    show su (fun i => c * f i) n + c * f n = c * (su f n + f n)
    rw [su_mul c f n, Nat.mul_add]
theorem su_at (f : Nat → Nat) {j n : Nat} (hj : j < n) : su (fun i => if i = j then f j else 0) n = f j := by
  have := su_bump (f := fun _ => 0) (g := fun i => if i = j then f j else 0) (c := f j) n hj (by simp) (fun i _ hne => by simp [hne])
  rw [this, su_zero n fun _ _ => rfl]
  omega
theorem su_pair (f : Nat → Nat) {a b n : Nat} (ha : a < n) (hb : b < n) (hab : a ≠ b) : f a + f b ≤ su f n := by
  have h3 := su_le (f := fun v => (if v = a then f a else 0) + (if v = b then f b else 0)) (g := f) n fun v _ => by
    show (if v = a then f a else 0) + (if v = b then f b else 0) ≤ f v
    by_cases h1 : v = a
    · subst h1
      rw [if_pos rfl, if_neg hab]
      exact Nat.le_refl _
    · by_cases h2 : v = b
      · subst h2
        rw [if_neg h1, if_pos rfl]
        omega
      · rw [if_neg h1, if_neg h2]
        exact Nat.zero_le _
  rw [su_add, su_at f ha, su_at f hb] at h3
  exact h3
theorem tails_sum (X : Nat → Bool) : ∀ T : List Int, (∀ t ∈ T, 0 ≤ t ∧ t < 8) → su (fun v => if X v then T.count (v : Int) else 0) 8 = T.countP fun t => X t.toNat
  | [], _ => by
    refine su_zero 8 fun v _ => ?_
    show (if X v then ([] : List Int).count (v : Int) else 0) = 0
    split <;> rfl
  | t :: T, h => by
    have ht := h t (List.mem_cons_self ..)
    rw [List.countP_cons, ← tails_sum X T fun s hs => h s (List.mem_cons_of_mem _ hs)]
    refine su_bump (j := t.toNat) 8 (by omega) ?_ (fun i _ hne => ?_)
    · show (if X t.toNat then (t :: T).count ((t.toNat : Nat) : Int) else 0) = _
      rw [Int.toNat_of_nonneg ht.1, List.count_cons_self]
      cases X t.toNat <;> simp
    · show (if X i then (t :: T).count (i : Int) else 0) = (if X i then T.count (i : Int) else 0)
      rw [List.count_cons_of_ne (by omega)]
theorem countP_le2 {α β : Type} {p : α → Bool} {q : β → Bool} : ∀ (L : List α) (T : List β), L.length = T.length → (∀ (i : Nat) x t, L[i]? = some x → T[i]? = some t → p x = true → q t = true) → L.countP p ≤ T.countP q
  | [], _, _, _ => by simp
  | x :: L, [], h, _ => by simp at h
  | x :: L, t :: T, h, hh => by
    have h1 := countP_le2 L T (by simpa using h) fun i x t hx ht => hh (i + 1) x t (by simpa using hx) (by simpa using ht)
    have h2 := hh 0 x t rfl rfl
    rw [List.countP_cons, List.countP_cons]
    cases hp : p x with
    | false => simp; split <;> omega
    | true => rw [h2 hp]; simp; exact h1
section
variable {P : Int} {bars : List TBar} {k : Int} {m : Nat} {p : TPebbles}
def plc (bars : List TBar) (p : TPebbles) : List TBar := (List.range p.Placed.length).map (pbar bars p)
theorem GB.ok (hg : GB P bars) {i : Nat} {x : TBar} (h : bars[i]? = some x) : OkB x := by
  have := hg.p8
  exact ⟨hg.a0 h, by have := hg.ap h; omega, hg.b0 h, by have := hg.bp h; omega, hg.ab h⟩
theorem plc_len : (plc bars p).length = p.Placed.length := by simp [plc]
theorem plc_get {i : Nat} {x : TBar} (h : (plc bars p)[i]? = some x) : i < p.Placed.length ∧ x = pbar bars p i := by
  unfold plc at h
  rw [List.getElem?_map] at h
  cases hr : (List.range p.Placed.length)[i]? with
  | none => rw [hr] at h; cases h
  | some j =>
    rw [hr] at h
    have hj := List.getElem?_eq_some_iff.1 hr
    obtain ⟨h1, h2⟩ := hj
    simp at h1 h2 h
    subst h2
    exact ⟨h1, h.symm⟩
theorem PB.plc_ok (hg : GB P bars) (hp : PB P bars k m p) : ∀ x ∈ plc bars p, OkB x := fun x hx => by
  obtain ⟨i, hi⟩ := List.getElem?_of_mem hx
  obtain ⟨h1, rfl⟩ := plc_get hi
  obtain ⟨_, _, _, h2⟩ := hp.bar hg h1
  exact hg.ok h2
theorem plc_congr {p' : TPebbles} (h : p'.Placed = p.Placed) : plc bars p' = plc bars p := by
  unfold plc
  rw [h]
  refine List.map_congr_left fun i _ => ?_
  unfold pbar
  rw [h]
theorem plc_snoc {F T : List Int} {x : TBar} (hx : bars[m]? = some x) : plc bars ⟨F, T, p.Placed ++ [(m : Int)]⟩ = plc bars p ++ [x] := by
  unfold plc
  simp only [List.length_append, List.length_singleton]
  rw [List.range_succ, List.map_append]
  congr 1
  · refine List.map_congr_left fun i hi => ?_
    rw [List.mem_range] at hi
    unfold pbar
    simp only
    rw [List.getElem?_append_left hi]
  · simp only [List.map_cons, List.map_nil]
    unfold pbar
    simp only
    rw [List.getElem?_append_right (Nat.le_refl _), Nat.sub_self]
    simp [hx]
theorem PB.tail_in (hg : GB P bars) (hp : PB P bars k m p) {i : Nat} {t : Int} (h : p.Tails[i]? = some t) : i < p.Placed.length ∧ 0 ≤ t ∧ t < P := by
  have hi := (List.getElem?_eq_some_iff.1 h).1
  have htl := hp.tl
  have := hp.pbar_ok hg (i := i) (by omega)
  rcases hp.ends h with rfl | rfl
  · exact ⟨by omega, by omega, by omega⟩
  · exact ⟨by omega, by omega, by omega⟩
def inP (P : Int) (X : Nat → Bool) (v : Nat) : Bool := X v && decide ((v : Int) < P)
def freeOf (p : TPebbles) (v : Nat) : Nat := ((p.Free[v]?).getD 0).toNat
theorem PB.sum (hg : GB P bars) (hp : PB P bars k m p) (X : Nat → Bool) : su (fun v => if inP P X v then freeOf p v else 0) 8 + p.Tails.countP (fun t => X t.toNat) = k.toNat * size (inP P X) := by
  have h8 := hg.p8
  rw [← tails_sum X p.Tails fun t ht => by
    obtain ⟨i, hi⟩ := List.getElem?_of_mem ht
    have := hp.tail_in hg hi
    omega]
  unfold size
  rw [← su_mul, ← su_add]
  refine su_congr 8 fun v hv => ?_
  show (if inP P X v then freeOf p v else 0) + (if X v then p.Tails.count (v : Int) else 0) = k.toNat * (if inP P X v then 1 else 0)
  unfold inP
  cases hx : X v with
  | false => simp
  | true =>
    by_cases hvP : (v : Int) < P
    · obtain ⟨f, hf, _, f0, fk⟩ := hp.free_in (v := (v : Int)) (by omega) hvP
      rw [Int.toNat_natCast] at hf
      have := hp.fr hf
      unfold freeOf
      rw [hf, decide_eq_true hvP]
      simp
      omega
    · have : p.Tails.count (v : Int) = 0 := by
        rw [List.count_eq_zero]
        intro hm
        obtain ⟨i, hi⟩ := List.getElem?_of_mem hm
        have := hp.tail_in hg hi
        omega
      rw [this, decide_eq_false hvP]
      simp
theorem size_inP (X : Nat → Bool) : size (inP P X) ≤ size X := su_le 8 fun v _ => by
  show (if inP P X v then 1 else 0) ≤ (if X v then 1 else 0)
  unfold inP
  cases X v <;> simp
  split <;> omega
theorem PB.span_tails (hg : GB P bars) (hp : PB P bars k m p) (X : Nat → Bool) : span (mult (plc bars p)) X ≤ p.Tails.countP fun t => X t.toNat := by
  rw [span_mult (hp.plc_ok hg)]
  refine countP_le2 _ _ (by rw [plc_len, hp.tl]) fun i x t hx ht h => ?_
  obtain ⟨h1, rfl⟩ := plc_get hx
  rw [Bool.and_eq_true] at h
  rcases hp.ends ht with rfl | rfl
  · exact h.1
  · exact h.2
theorem PB.tails_span (hg : GB P bars) (hp : PB P bars k m p) {X : Nat → Bool} (hc : ∀ (i : Nat) (t : Int), p.Tails[i]? = some t → X t.toNat = true → X (otherE (pbar bars p i) t).toNat = true) : p.Tails.countP (fun t => X t.toNat) ≤ span (mult (plc bars p)) X := by
  rw [span_mult (hp.plc_ok hg)]
  refine countP_le2 _ _ (by rw [plc_len, hp.tl]) fun i t x ht hx h => ?_
  obtain ⟨h1, rfl⟩ := plc_get hx
  have h2 := hc i t ht h
  have h3 := hp.pbar_ok hg h1
  rw [Bool.and_eq_true]
  unfold otherE at h2
  rcases hp.ends ht with rfl | rfl
  · simp only [beq_self_eq_true, cond_true] at h2
    exact ⟨h, h2⟩
  · have e : ((pbar bars p i).A == (pbar bars p i).B) = false := by simp; exact h3.2.2.1
    rw [e, cond_false] at h2
    exact ⟨h2, h⟩
theorem PB.span_le (hg : GB P bars) (hp : PB P bars k m p) {a b : Int} (a0 : 0 ≤ a) (a1 : a < P) (b0 : 0 ≤ b) (b1 : b < P) (hab : a ≠ b) {X : Nat → Bool} (xa : X a.toNat = true) (xb : X b.toNat = true) : span (mult (plc bars p)) X + (two p a b).toNat ≤ k.toNat * size X := by
  have h8 := hg.p8
  have h1 := hp.sum hg X
  have h2 := hp.span_tails hg X
  have h3 : k.toNat * size (inP P X) ≤ k.toNat * size X := Nat.mul_le_mul_left _ (size_inP X)
  have h4 := su_pair (fun v => if inP P X v then freeOf p v else 0) (a := a.toNat) (b := b.toNat) (n := 8) (by omega) (by omega) (by omega)
  have ia : inP P X a.toNat = true := by unfold inP; rw [xa]; simp; omega
  have ib : inP P X b.toNat = true := by unfold inP; rw [xb]; simp; omega
  simp only [ia, ib, if_true] at h4
  obtain ⟨fa, ha, _, fa0, _⟩ := hp.free_in a0 a1
  obtain ⟨fb, hb, _, fb0, _⟩ := hp.free_in b0 b1
  unfold freeOf at h1 h4
  unfold two
  rw [ha, hb] at h4 ⊢
  simp only [Option.getD_some] at h4 ⊢
  omega
theorem PB.blocked (hg : GB P bars) (hp : PB P bars k m p) {a b : Int} (hab : a ≠ b) {q q' : List Int} (hq : Reach P bars p a b q) (hq' : Reach P bars p b a q') : ∃ X : Nat → Bool, X a.toNat = true ∧ X b.toNat = true ∧ k.toNat * size X ≤ span (mult (plc bars p)) X + (two p a b).toNat := by
  have h8 := hg.p8
  obtain ⟨a0, a1⟩ := hq.rng a hq.fst
  obtain ⟨b0, b1⟩ := hq'.rng b hq'.fst
  have hX : ∀ v : Int, 0 ≤ v → (decide (((v.toNat : Nat) : Int) ∈ q ∨ ((v.toNat : Nat) : Int) ∈ q') = true ↔ (v ∈ q ∨ v ∈ q')) := fun v hv => by rw [decide_eq_true_eq, Int.toNat_of_nonneg hv]
  refine ⟨fun v => decide ((v : Int) ∈ q ∨ (v : Int) ∈ q'), (hX a a0).2 (.inl hq.fst), (hX b b0).2 (.inr hq'.fst), ?_⟩
  generalize hXd : (fun v : Nat => decide ((v : Int) ∈ q ∨ (v : Int) ∈ q')) = X
  have hXe : ∀ v : Nat, X v = true ↔ ((v : Int) ∈ q ∨ (v : Int) ∈ q') := fun v => by rw [← hXd]; exact decide_eq_true_iff
  have hin : ∀ v, inP P X v = X v := fun v => by
    unfold inP
    cases hx : X v with
    | false => rfl
    | true =>
      have : (v : Int) < P := by
        rcases (hXe v).1 hx with h | h
        · exact (hq.rng _ h).2
        · exact (hq'.rng _ h).2
      simp [this]
  have h1 := hp.sum hg X
  rw [show inP P X = X from funext hin] at h1
  have h2 := hp.tails_span hg (X := X) fun i t ht hx => by
    obtain ⟨hi, t0, t1⟩ := hp.tail_in hg ht
    have ho := (other_ok (hp.pbar_ok hg hi) (hp.ends ht)).1
    rw [hXe, Int.toNat_of_nonneg t0] at hx
    rw [hXe, Int.toNat_of_nonneg ho]
    rcases hx with h | h
    · exact .inl (hq.clo i t ht h)
    · exact .inr (hq'.clo i t ht h)
  have h3 := su_le (f := fun v => if X v then freeOf p v else 0) (g := fun v => (if v = a.toNat then freeOf p a.toNat else 0) + (if v = b.toNat then freeOf p b.toNat else 0)) 8 fun v _ => by
    show (if X v then freeOf p v else 0) ≤ (if v = a.toNat then freeOf p a.toNat else 0) + (if v = b.toNat then freeOf p b.toNat else 0)
    by_cases hva : v = a.toNat
    · subst hva
      rw [if_pos rfl]
      split <;> omega
    · by_cases hvb : v = b.toNat
      · subst hvb
        rw [if_pos rfl]
        split <;> omega
      · rw [if_neg hva, if_neg hvb]
        cases hx : X v with
        | false => simp
        | true =>
          have h0 : p.Free[v]? = some 0 := by
            rcases (hXe v).1 hx with h | h
            · have := hq.zero _ h (by omega) (by omega)
              rwa [Int.toNat_natCast] at this
            · have := hq'.zero _ h (by omega) (by omega)
              rwa [Int.toNat_natCast] at this
          unfold freeOf
          rw [h0]
          simp
  rw [su_add, su_at (freeOf p) (show a.toNat < 8 by omega), su_at (freeOf p) (show b.toNat < 8 by omega)] at h3
  obtain ⟨fa, ha, _, fa0, _⟩ := hp.free_in a0 a1
  obtain ⟨fb, hb, _, fb0, _⟩ := hp.free_in b0 b1
  unfold freeOf at h3 h1
  unfold two
  rw [ha, hb] at h3 ⊢
  simp only [Option.getD_some] at h3 ⊢
  omega
theorem place_info {l : Int} (hg : GB P bars) (hp : PB P bars k m p) (hml : m < bars.length) (hl : 0 ≤ l ∧ l ≤ 2 * k - 1) {x : TBar} (hx : bars[m]? = some x) :
    (∃ p' F T, PB P bars k m p' ∧ p'.Placed = p.Placed ∧ l + 1 ≤ two p' x.A x.B ∧ placeI bars l p m = ⟨F, T, p.Placed ++ [(m : Int)]⟩) ∨
      (placeI bars l p m = p ∧ ∃ p' q q', PB P bars k m p' ∧ p'.Placed = p.Placed ∧ two p' x.A x.B < l + 1 ∧ Reach P bars p' x.A x.B q ∧ Reach P bars p' x.B x.A q') := by
  have hlen := hg.len
  have k3 := hp.k3
  have k1 := hp.k1
  have hxi := idx_of (k := m) hx
  have hw : w64 (l + 1) = l + 1 := w64_small (by omega) (by omega)
  rcases gather_both hg hp (by omega) (g := ⟨P, bars⟩) rfl rfl (hg.a0 hx) (hg.ap hx) (hg.b0 hx) (hg.bp hx) (hg.ab hx) (want := l + 1) (by omega) with ⟨p', s1, i1, hp', hpl, htwo⟩ | ⟨p', s1, i1, hp', hpl, hlt, ⟨q, hq⟩, q', hq'⟩
  · obtain ⟨fa, hfa, hia, fa0, fak⟩ := hp'.free_in (hg.a0 hx) (hg.ap hx)
    obtain ⟨fb, hfb, hib, fb0, fbk⟩ := hp'.free_in (hg.b0 hx) (hg.bp hx)
    have htwo2 := htwo
    unfold two at htwo
    rw [hfa, hfb] at htwo
    simp only [Option.getD_some] at htwo
    have hpll := hp'.pl
    have htl := hp'.tl
    obtain ⟨t, f, hte, htf, hti, hpos, hfk, htail⟩ : ∃ t f, (t = x.A ∨ t = x.B) ∧ p'.Free[t.toNat]? = some f ∧ idx p'.Free t = some f ∧ 0 < f ∧ f ≤ k ∧ (bif fa == 0 then some x.B else some x.A : Option Int) = some t := by
      by_cases h0 : fa = 0
      · exact ⟨x.B, fb, .inr rfl, hfb, hib, by omega, fbk, by simp [h0]⟩
      · have : (fa == 0) = false := by simp [h0]
        exact ⟨x.A, fa, .inl rfl, hfa, hia, by omega, fak, by simp [this]⟩
    have hI : m_impl_place bars l p (m : Int) = some (true, ⟨p'.Free.set t.toNat (f - 1), p'.Tails ++ [t], p'.Placed ++ [(m : Int)]⟩) := by
      unfold m_impl_place
      simp only [hxi, hw, i1, hia, htail, hti, Option.bind_some, Bool.not_true, cond_false, lim_ok (show p'.Tails.length + ([t] : List Int).length ≤ 2147483648 by simp; omega), lim_ok (show p'.Placed.length + ([(m : Int)] : List Int).length ≤ 2147483648 by simp; omega), w64_small (n := f - 1) (show -4611686018427387904 ≤ f - 1 by omega) (by omega)]
    refine .inl ⟨p', p'.Free.set t.toNat (f - 1), p'.Tails ++ [t], hp', hpl, htwo2, ?_⟩
    unfold placeI
    rw [hI, ← hpl]
  · have hI : m_impl_place bars l p (m : Int) = some (false, p') := by
      unfold m_impl_place
      simp only [hxi, hw, i1, Option.bind_some, Bool.not_false, cond_true]
    refine .inr ⟨?_, p', q, q', hp', hpl, hlt, hq, hq'⟩
    unfold placeI
    rw [hI]
structure Game (bars : List TBar) (k l : Int) (m : Nat) (p : TPebbles) : Prop where
  sp : Sparse k.toNat l.toNat (mult (plc bars p))
  rej : ∃ R : List TBar, (∀ i, mult (bars.take m) i = mult (plc bars p) i + mult R i) ∧ ∀ x ∈ R, OkB x ∧ ∃ X, Sp.inn X (codeB x) = true ∧ k.toNat * size X ≤ span (mult (plc bars p)) X + l.toNat
theorem sparse_nil {a b : Nat} : Sparse a b (mult []) := ⟨fun X hX => by
  have : span (mult []) X = 0 := span_mult (L := []) (fun _ h => by cases h) X
  omega, fun i _ h => by simp [mult] at h⟩
theorem played_game {l : Int} (hg : GB P bars) (k1 : 1 ≤ k) (k3 : k ≤ 3) (hl : 0 ≤ l ∧ l ≤ 2 * k - 1) : ∀ n, n ≤ bars.length → Game bars k l n (played P bars k l n)
  | 0, _ => ⟨sparse_nil, [], fun i => by simp [played, iter, plc, mult], fun x h => by cases h⟩
  | n + 1, h => by
    have hG := played_game hg k1 k3 hl n (by omega)
    have hp := played_PB hg k1 k3 hl n (by omega)
    have hx := List.getElem?_eq_getElem (show n < bars.length by omega)
    generalize bars[n] = x at hx
    have hok := hg.ok hx
    have htk : bars.take (n + 1) = bars.take n ++ [x] := by rw [List.take_add_one, hx]; rfl
    show Game bars k l (n + 1) (placeI bars l (played P bars k l n) n)
    obtain ⟨R, hR1, hR2⟩ := hG.rej
    rcases place_info hg hp (by omega) hl hx with ⟨p', F, T, hp', hpl, htwo, he⟩ | ⟨he, p', q, q', hp', hpl, hlt, hq, hq'⟩
    · rw [he]
      have hplc : plc bars ⟨F, T, (played P bars k l n).Placed ++ [(n : Int)]⟩ = plc bars (played P bars k l n) ++ [x] := plc_snoc hx
      have hm : ∀ i, i < 64 → add1 (mult (plc bars (played P bars k l n))) (codeB x) i = mult (plc bars ⟨F, T, (played P bars k l n).Placed ++ [(n : Int)]⟩) i := fun i _ => by rw [hplc, mult_snoc]
      refine ⟨Sparse.congr ⟨fun X hX => ?_, fun i hi h0 => ?_⟩ hm, R, fun i => ?_, fun y hy => ?_⟩
      · rw [span_add1 _ hok.lt] at hX ⊢
        cases hin : Sp.inn X (codeB x) with
        | false =>
          rw [hin] at hX
          simp only [Bool.false_eq_true, if_false, Nat.add_zero] at hX ⊢
          exact hG.sp.sp X hX
        | true =>
          rw [hok.inn, Bool.and_eq_true] at hin
          have := hp'.span_le hg (hg.a0 hx) (hg.ap hx) (hg.b0 hx) (hg.bp hx) (hg.ab hx) (X := X) hin.1 hin.2
          rw [plc_congr hpl] at this
          simp only [if_true]
          omega
      · unfold add1 at h0
        by_cases hie : i = codeB x
        · rw [hie]; exact hok.ne
        · rw [if_neg hie] at h0
          exact hG.sp.ll i hi h0
      · rw [htk, mult_append, hplc, mult_append, hR1]
        omega
      · obtain ⟨h1, X, h2, h3⟩ := hR2 y hy
        refine ⟨h1, X, h2, ?_⟩
        rw [hplc]
        have := span_mono (I := mult (plc bars (played P bars k l n))) (J := mult (plc bars (played P bars k l n) ++ [x])) (fun i _ => by rw [mult_append]; omega) X
        omega
    · rw [he]
      refine ⟨hG.sp, R ++ [x], fun i => ?_, fun y hy => ?_⟩
      · rw [htk, mult_append, mult_append, hR1]
        omega
      · rcases List.mem_append.1 hy with hy | hy
        · exact hR2 y hy
        · rw [List.mem_singleton] at hy
          subst hy
          obtain ⟨X, xa, xb, hX⟩ := hp'.blocked hg hok.ab hq hq'
          refine ⟨hok, X, by rw [hok.inn, xa, xb]; rfl, ?_⟩
          rw [plc_congr hpl] at hX
          omega
end
end Go.Proofs.YteognanhfpbghaaGreat
end
section
set_option linter.unusedVariables false
set_option linter.unusedSimpArgs false
set_option linter.unnecessarySimpa false
open Go Go.Fw Go.Sp
namespace Go.Proofs.YteognanhfpbghaaGreat
def insB (x : TBar) : List TBar → List TBar
  | [] => [x]
  | y :: L => bif barGt y x then x :: y :: L else y :: insB x L
theorem insB_perm (x : TBar) : ∀ L, (insB x L).Perm (x :: L)
  | [] => List.Perm.refl _
  | y :: L => by
    unfold insB
    cases barGt y x with
    | true => exact List.Perm.refl _
    | false => exact ((insB_perm x L).cons y).trans (List.Perm.swap ..)
theorem insB_len (x : TBar) (L : List TBar) : (insB x L).length = L.length + 1 := (insB_perm x L).length_eq
theorem insB_split (x : TBar) : ∀ L : List TBar, (∃ j, j < L.length ∧ insB x L = L.take j ++ x :: L.drop j ∧ (∀ (i : Nat) (y : TBar), i < j → L[i]? = some y → barGt y x = false) ∧ ∀ y : TBar, L[j]? = some y → barGt y x = true) ∨ (insB x L = L ++ [x] ∧ ∀ (i : Nat) (y : TBar), L[i]? = some y → barGt y x = false)
  | [] => .inr ⟨rfl, fun i y h => by simp at h⟩
  | y :: L => by
    unfold insB
    cases hy : barGt y x with
    | true => exact .inl ⟨0, by simp, by simp, (fun i z h => by omega), fun z hz => by simp at hz; subst hz; exact hy⟩
    | false =>
      rcases insB_split x L with ⟨j, h1, h2, h3, h4⟩ | ⟨h1, h2⟩
      · refine .inl ⟨j + 1, by simpa using h1, by simp [h2], fun i z hi hz => ?_, fun z hz => h4 z (by simpa using hz)⟩
        cases i with
        | zero => simp at hz; subst hz; exact hy
        | succ i => exact h3 i z (by omega) (by simpa using hz)
      · refine .inr ⟨by simp [h1], fun i z hz => ?_⟩
        cases i with
        | zero => simp at hz; subst hz; exact hy
        | succ i => exact h2 i z (by simpa using hz)
theorem l2Put_eq (g : TGraph) (x : TBar) (h : g.Bars.length ≤ 1048576) : m_spec_l2Put g x = some ⟨g.Points, insB x g.Bars⟩ := by
  have hb : ∀ (k : Nat) (pl : Bool) (out : List TBar), k < g.Bars.length → out.length ≤ k + 1 → ∀ y, g.Bars[k]? = some y → m_spec_l2Put_L1 g x (pl, (k : Int), out) = some (.inl (bif !pl && barGt y x then (true, ((k + 1 : Nat) : Int), out ++ [x] ++ [y]) else (pl, ((k + 1 : Nat) : Int), out ++ [y]))) := fun k pl out hk ho y hy => by
    unfold m_spec_l2Put_L1
    simp only
    rw [decide_eq_true (show (k : Int) < (g.Bars.length : Int) by omega), cond_true]
    simp only [idx_of hy, l2After_eq, Option.bind_some, w64_succ (show k ≤ 1099511627776 by omega), Bool.not_not]
    rw [lim_ok (show out.length + [x].length ≤ 2147483648 by simp; omega)]
    cases pl with
    | true =>
      simp only [Bool.not_true, cond_false, Option.bind_some, Bool.false_and]
      rw [lim_ok (by simp; omega)]
      rfl
    | false =>
      cases barGt y x with
      | true =>
        simp only [Bool.not_false, cond_true, Option.bind_some, Bool.true_and]
        rw [lim_ok (by simp; omega)]
        rfl
      | false =>
        simp only [Bool.not_false, cond_true, Option.bind_some, Bool.and_false, cond_false]
        rw [lim_ok (by simp; omega)]
        rfl
  have he : ∀ (pl : Bool) (out : List TBar), m_spec_l2Put_L1 g x (pl, (g.Bars.length : Int), out) = some (.inr (pl, out)) := fun pl out => by
    unfold m_spec_l2Put_L1
    rw [decide_eq_false (by simp only; omega)]
    rfl
  unfold m_spec_l2Put
  rcases insB_split x g.Bars with ⟨j, h1, h2, h3, h4⟩ | ⟨h1, h2⟩
  · have hL : loopM (m_spec_l2Put_L1 g x) BIG (false, 0, []) = some (true, g.Bars.take j ++ x :: g.Bars.drop j) := by
      refine loopM_run (fun k => (decide (j < k), (k : Int), if j < k then g.Bars.take j ++ x :: (g.Bars.drop j).take (k - j) else g.Bars.take k)) g.Bars.length (by omega) (by simp) (fun k hk => ?_) ?_
      · have hy := List.getElem?_eq_getElem hk
        have htk : ∀ m, k = j + m → (g.Bars.drop j).take (m + 1) = (g.Bars.drop j).take m ++ [g.Bars[k]] := fun m hm => by
          subst hm
          rw [List.take_add_one, List.getElem?_drop, hy]
          rfl
        by_cases hjk : j < k
        · rw [decide_eq_true hjk, if_pos hjk, hb k true _ hk (by simp; omega) _ hy]
          simp only [Bool.not_true, Bool.false_and, cond_false]
          rw [decide_eq_true (show j < k + 1 by omega), if_pos (show j < k + 1 by omega), show k + 1 - j = (k - j) + 1 by omega, htk (k - j) (by omega)]
          simp
        · rw [decide_eq_false hjk, if_neg hjk, hb k false _ hk (by simp; omega) _ hy]
          by_cases hkj : k = j
          · subst hkj
            rw [h4 _ hy]
            simp only [Bool.not_false, Bool.true_and, cond_true]
            rw [decide_eq_true (show k < k + 1 by omega), if_pos (show k < k + 1 by omega), Nat.add_sub_cancel_left, htk 0 (by omega)]
            simp
          · rw [h3 k _ (by omega) hy]
            simp only [Bool.not_false, Bool.and_false, cond_false]
            rw [decide_eq_false (show ¬ j < k + 1 by omega), if_neg (show ¬ j < k + 1 by omega), take_get hk]
      · rw [decide_eq_true h1, if_pos h1, he, List.take_of_length_le (l := g.Bars.drop j) (by simp)]
    rw [hL, h2]
    rfl
  · have hL : loopM (m_spec_l2Put_L1 g x) BIG (false, 0, []) = some (false, g.Bars) := by
      refine loopM_run (fun k => (false, (k : Int), g.Bars.take k)) g.Bars.length (by omega) (by simp) (fun k hk => ?_) (by rw [he, List.take_length])
      have hy := List.getElem?_eq_getElem hk
      rw [hb k false _ hk (by simp; omega) _ hy, h2 k _ hy, take_get hk]
      rfl
    rw [hL, h1]
    simp only [Option.bind_some, Bool.not_false, cond_true]
    rw [lim_ok (by simp; omega)]
    rfl
def pr (P : Int) (L : List TBar) : Nat := (played P L 2 3 L.length).Placed.length
theorem GB.congr {P : Int} {L L' : List TBar} (h : GB P L) (h2 : ∀ x ∈ L', x ∈ L) (hl : L'.length ≤ 1000) : GB P L' := by
  have hm : ∀ {k : Nat} {x : TBar}, L'[k]? = some x → ∃ j, L[j]? = some x := fun hk => List.getElem?_of_mem (h2 _ (List.mem_of_getElem? hk))
  exact ⟨h.p1, h.p8, hl, fun hk => (hm hk).elim fun _ hj => h.a0 hj, fun hk => (hm hk).elim fun _ hj => h.ab hj, fun hk => (hm hk).elim fun _ hj => h.b0 hj, fun hk => (hm hk).elim fun _ hj => h.ap hj, fun hk => (hm hk).elim fun _ hj => h.bp hj⟩
structure InB (P : Int) (x : TBar) : Prop where
  a0 : 0 ≤ x.A
  ab : x.A ≠ x.B
  b0 : 0 ≤ x.B
  ap : x.A < P
  bp : x.B < P
theorem GB.of {P : Int} {L : List TBar} (p1 : 1 ≤ P) (p8 : P ≤ 8) (hl : L.length ≤ 1000) (h : ∀ x ∈ L, InB P x) : GB P L :=
  ⟨p1, p8, hl, fun hk => (h _ (List.mem_of_getElem? hk)).a0, fun hk => (h _ (List.mem_of_getElem? hk)).ab, fun hk => (h _ (List.mem_of_getElem? hk)).b0, fun hk => (h _ (List.mem_of_getElem? hk)).ap, fun hk => (h _ (List.mem_of_getElem? hk)).bp⟩
theorem GB.inb {P : Int} {L : List TBar} (h : GB P L) : ∀ x ∈ L, InB P x := fun x hx => by
  obtain ⟨j, hj⟩ := List.getElem?_of_mem hx
  exact ⟨h.a0 hj, h.ab hj, h.b0 hj, h.ap hj, h.bp hj⟩
def nrm (a b : Int) : TBar := ⟨if b < a then b else a, if a < b then b else a⟩
theorem GB.snoc {P : Int} {L : List TBar} (h : GB P L) {x : TBar} (hx : InB P x) (hl : L.length ≤ 999) : GB P (L ++ [x]) := GB.of h.p1 h.p8 (by simp; omega) fun y hy => by
  rcases List.mem_append.1 hy with h1 | h1
  · exact h.inb y h1
  · rw [List.mem_singleton] at h1; subst h1; exact hx
theorem GB.ins {P : Int} {L : List TBar} (h : GB P L) {x : TBar} (hx : InB P x) (hl : L.length ≤ 999) : GB P (insB x L) := GB.of h.p1 h.p8 (by rw [insB_len]; omega) fun y hy => by
  rcases List.mem_cons.1 ((insB_perm x L).mem_iff.1 hy) with h1 | h1
  · subst h1; exact hx
  · exact h.inb y h1
end Go.Proofs.YteognanhfpbghaaGreat
end
section
set_option linter.unusedVariables false
set_option linter.unusedSimpArgs false
set_option linter.unnecessarySimpa false
open Go Go.Fw Go.Sp
namespace Go.Proofs.YteognanhfpbghaaGreat
theorem barGt_iff (x y : TBar) : barGt x y = false ↔ x.A < y.A ∨ (x.A = y.A ∧ x.B ≤ y.B) := by
  unfold barGt
  simp only [Bool.or_eq_false_iff, Bool.and_eq_false_iff, decide_eq_false_iff_not, beq_eq_false_iff_ne]
  omega
theorem VG.pair {g : TGraph} (h : VG g) : g.Bars.Pairwise fun x y => barGt x y = false := by
  rw [List.pairwise_iff_getElem]
  intro i j hi hj hij
  obtain ⟨d, rfl⟩ : ∃ d, j = i + 1 + d := ⟨j - (i + 1), by omega⟩
  clear hij
  induction d with
  | zero => exact h.srt (List.getElem?_eq_getElem hi) (List.getElem?_eq_getElem hj)
  | succ d ih =>
    have h1 := (barGt_iff _ _).1 (ih (by omega))
    have h2 := (barGt_iff _ _).1 (h.srt (k := i + 1 + d) (List.getElem?_eq_getElem (by omega)) (List.getElem?_eq_getElem hj))
    exact (barGt_iff _ _).2 (by omega)
theorem vG_mk {g : TGraph} (p1 : 1 ≤ g.Points) (p8 : g.Points ≤ 8) (hl : g.Bars.length ≤ 24) (hb : ∀ x ∈ g.Bars, 0 ≤ x.A ∧ x.A < x.B ∧ x.B < g.Points) (hs : g.Bars.Pairwise fun x y => barGt x y = false) : vG g = true := by
  unfold vG
  rw [decide_eq_true p1, decide_eq_true p8, decide_eq_false (by omega)]
  have : (List.range' 0 g.Bars.length).any (badBar g) = false := any_range_false.2 fun k _ hk => by
    have hk : k < g.Bars.length := by omega
    have hx := List.getElem?_eq_getElem hk
    obtain ⟨h1, h2, h3⟩ := hb _ (List.getElem_mem hk)
    unfold badBar
    rw [hx]
    simp only
    rw [decide_eq_false (by omega), decide_eq_false (by omega), decide_eq_false (by omega)]
    by_cases hk0 : 0 < k
    · have hy : g.Bars[k - 1]? = some (g.Bars[k - 1]'(by omega)) := List.getElem?_eq_getElem (by omega)
      have := List.pairwise_iff_getElem.1 hs (k - 1) k (by omega) hk (by omega)
      rw [decide_eq_true hk0, hy]
      simp only [this]
      rfl
    · rw [decide_eq_false hk0]; rfl
  rw [this]
  rfl
end Go.Proofs.YteognanhfpbghaaGreat
end
section
set_option linter.unusedVariables false
set_option linter.unusedSimpArgs false
set_option linter.unnecessarySimpa false
open Go Go.Fw
namespace Go.Proofs.YteognanhfpbghaaGreat
theorem filter_next {n : Int} : ∀ {K : List Int}, K.Pairwise (fun a b => a < b) → K.filter (fun e => decide (e < n + 1)) = K.filter (fun e => decide (e < n)) ++ (bif hasI K n then [n] else [])
  | [], _ => rfl
  | x :: K, h => by
    obtain ⟨h1, h2⟩ := List.pairwise_cons.1 h
    have ih := filter_next (n := n) h2
    have hc : hasI (x :: K) n = (x == n || hasI K n) := rfl
    rw [hc]
    rcases Int.lt_trichotomy x n with hx | hx | hx
    · rw [List.filter_cons_of_pos (by simp; omega), List.filter_cons_of_pos (by simp; omega), ih, show (x == n) = false from by simp; omega]
      rfl
    · subst hx
      have e1 : K.filter (fun e => decide (e < x + 1)) = [] := List.filter_eq_nil_iff.2 fun e he => by have := h1 e he; simp; omega
      have e2 : K.filter (fun e => decide (e < x)) = [] := List.filter_eq_nil_iff.2 fun e he => by have := h1 e he; simp; omega
      rw [List.filter_cons_of_pos (by simp; omega), List.filter_cons_of_neg (by simp), e1, e2]
      simp
    · have e1 : K.filter (fun e => decide (e < n + 1)) = [] := List.filter_eq_nil_iff.2 fun e he => by have := h1 e he; simp; omega
      have e2 : K.filter (fun e => decide (e < n)) = [] := List.filter_eq_nil_iff.2 fun e he => by have := h1 e he; simp; omega
      have e3 : hasI K n = false := by
        cases hh : hasI K n with
        | false => rfl
        | true => have := h1 n (hasI_mem.1 hh); omega
      rw [List.filter_cons_of_neg (by simp; omega), List.filter_cons_of_neg (by simp; omega), e1, e2, e3, show (x == n) = false from by simp; omega]
      rfl
theorem only_pieces {g : TGraph} {K : List Int} (hK : K.Pairwise fun a b => a < b) (h0 : ∀ e ∈ K, 0 ≤ e) : ∀ n, n ≤ g.Bars.length → pieces (fun k => match g.Bars[k]? with | some x => bif hasI K k then [x] else [] | none => []) n = tr g (K.filter fun e => decide (e < (n : Int)))
  | 0, _ => by
    have : K.filter (fun e => decide (e < ((0 : Nat) : Int))) = [] := List.filter_eq_nil_iff.2 fun e he => by have := h0 e he; simp; omega
    rw [this]
    rfl
  | n + 1, hn => by
    have hx := List.getElem?_eq_getElem (show n < g.Bars.length by omega)
    have e := filter_next (n := (n : Int)) hK
    have e' : K.filter (fun e => decide (e < ((n + 1 : Nat) : Int))) = K.filter (fun e => decide (e < (n : Int) + 1)) := rfl
    show pieces _ n ++ (match g.Bars[n]? with | some x => bif hasI K n then [x] else [] | none => []) = _
    rw [only_pieces hK h0 n (by omega), e', e, hx]
    unfold tr
    rw [List.map_append]
    cases hasI K (n : Int)
    · rfl
    · simp [hx]
theorem only_eq {g : TGraph} {K : List Int} (hK : K.Pairwise fun a b => a < b) (h0 : ∀ e ∈ K, 0 ≤ e ∧ e < (g.Bars.length : Int)) : (only g K).Bars = tr g K := by
  have := only_pieces (g := g) hK (fun e he => (h0 e he).1) g.Bars.length (Nat.le_refl _)
  rw [List.filter_eq_self.2 fun e he => by have := h0 e he; simp; omega] at this
  rw [← this]
  exact pieces_congr _ fun k hk => by simp only [List.getElem?_eq_getElem hk]
theorem acc_inc (g : TGraph) (k l : Int) : (acc g k l).Pairwise fun a b => a < b := by
  unfold acc runP
  cases hv : vG g && ((decide (1 ≤ k) && decide (k ≤ 3)) && (decide (0 ≤ l) && decide (l ≤ 2 * k - 1))) with
  | false => exact List.Pairwise.nil
  | true =>
    simp only [Bool.and_eq_true, decide_eq_true_eq] at hv
    have hV := vG_VG hv.1
    have hP := played_PB hV.gb hv.2.1.1 hv.2.1.2 hv.2.2 g.Bars.length (Nat.le_refl _)
    refine List.pairwise_iff_getElem.2 fun i j hi hj hij => ?_
    exact inc_lt hP.inc (j - (i + 1)) i _ _ (List.getElem?_eq_getElem hi) (by rw [show i + 1 + (j - (i + 1)) = j by omega]; exact List.getElem?_eq_getElem hj)
theorem full_fo {g : TGraph} : ∀ (r e : Nat) (a b c a' b' c' : List Int), fo g a = true → fo g b = true → fo g c = true → full g r e a b c = some (a', b', c') → (fo g a' = true ∧ fo g b' = true ∧ fo g c' = true) ∧ a'.length + b'.length + c'.length = a.length + b.length + c.length + r
  | 0, e, a, b, c, a', b', c', ha, hb, hc, h => by
    injection h with h
    injection h with h1 h
    injection h with h2 h3
    subst h1 h2 h3
    exact ⟨⟨ha, hb, hc⟩, rfl⟩
  | r + 1, e, a, b, c, a', b', c', ha, hb, hc, h => by
    have hf : full g (r + 1) e a b c = orElse (bif fo g (a ++ [(e : Int)]) then full g r (e + 1) (a ++ [(e : Int)]) b c else none) (orElse (bif fo g (b ++ [(e : Int)]) then full g r (e + 1) a (b ++ [(e : Int)]) c else none) (bif fo g (c ++ [(e : Int)]) then full g r (e + 1) a b (c ++ [(e : Int)]) else none)) := rfl
    rw [hf] at h
    cases hA : (bif fo g (a ++ [(e : Int)]) then full g r (e + 1) (a ++ [(e : Int)]) b c else none) with
    | some q =>
      rw [hA] at h
      have h : some q = some (a', b', c') := h
      rw [h] at hA
      cases hfo : fo g (a ++ [(e : Int)]) with
      | false => rw [hfo] at hA; cases hA
      | true =>
        rw [hfo] at hA
        obtain ⟨i1, i2⟩ := full_fo r (e + 1) _ _ _ _ _ _ hfo hb hc hA
        rw [List.length_append, List.length_singleton] at i2
        exact ⟨i1, by omega⟩
    | none =>
      rw [hA] at h
      cases hB : (bif fo g (b ++ [(e : Int)]) then full g r (e + 1) a (b ++ [(e : Int)]) c else none) with
      | some q =>
        rw [hB] at h
        have h : some q = some (a', b', c') := h
        rw [h] at hB
        cases hfo : fo g (b ++ [(e : Int)]) with
        | false => rw [hfo] at hB; cases hB
        | true =>
          rw [hfo] at hB
          obtain ⟨i1, i2⟩ := full_fo r (e + 1) _ _ _ _ _ _ ha hfo hc hB
          rw [List.length_append, List.length_singleton] at i2
          exact ⟨i1, by omega⟩
      | none =>
        rw [hB] at h
        have hC : (bif fo g (c ++ [(e : Int)]) then full g r (e + 1) a b (c ++ [(e : Int)]) else none) = some (a', b', c') := h
        cases hfo : fo g (c ++ [(e : Int)]) with
        | false => rw [hfo] at hC; cases hC
        | true =>
          rw [hfo] at hC
          obtain ⟨i1, i2⟩ := full_fo r (e + 1) _ _ _ _ _ _ ha hb hfo hC
          rw [List.length_append, List.length_singleton] at i2
          exact ⟨i1, by omega⟩
def checkLen (P : Nat) (L : List TBar) : Bool := match m_impl_isForest (P : Int) L with
  | some b => !b || Nat.ble (L.length + 1) P
  | none => true
theorem tableLen : ([0, 1, 2, 3].all fun n => [1, 2, 3].all fun P => (lists P n).all (checkLen P)) = true := by decide +kernel
theorem forest_len {P : Int} {L : List TBar} (p1 : 1 ≤ P) (p4 : P ≤ 4) (hl : L.length ≤ 3) (hx : ∀ x ∈ L, 0 ≤ x.A ∧ x.A < x.B ∧ x.B < P) (hf : forest P L = true) : (L.length : Int) + 1 ≤ P := by
  by_cases h4 : P = 4
  · omega
  · obtain ⟨p, rfl⟩ : ∃ p : Nat, P = (p : Int) := ⟨P.toNat, by omega⟩
    have ht := tableLen
    rw [List.all_eq_true] at ht
    have hn : L.length ∈ [0, 1, 2, 3] := by
      have : L.length = 0 ∨ L.length = 1 ∨ L.length = 2 ∨ L.length = 3 := by omega
      rcases this with h | h | h | h <;> rw [h] <;> decide
    have h1 := ht _ hn
    rw [List.all_eq_true] at h1
    have hp : p ∈ [1, 2, 3] := by
      have : p = 1 ∨ p = 2 ∨ p = 3 := by omega
      rcases this with h | h | h <;> rw [h] <;> decide
    have h2 := h1 _ hp
    rw [List.all_eq_true] at h2
    have h3 := h2 L (lists_mem (fun _ => True) _ L rfl hx)
    unfold checkLen at h3
    unfold forest at hf
    cases hi : m_impl_isForest (p : Int) L with
    | none => rw [hi] at hf; cases hf
    | some b =>
      rw [hi] at h3 hf
      rw [Option.getD_some] at hf
      rw [hf] at h3
      have := Nat.le_of_ble_eq_true (show Nat.ble (L.length + 1) p = true from h3)
      omega
theorem fo_nil {g : TGraph} (p1 : 1 ≤ g.Points) (p4 : g.Points ≤ 4) : fo g [] = true := by
  have h : g.Points = 1 ∨ g.Points = 2 ∨ g.Points = 3 ∨ g.Points = 4 := by omega
  unfold fo
  show forest g.Points [] = true
  rcases h with h | h | h | h <;> rw [h] <;> decide +kernel
end Go.Proofs.YteognanhfpbghaaGreat
end
section
set_option linter.unusedVariables false
set_option linter.unusedSimpArgs false
set_option linter.unnecessarySimpa false
open Go Go.Fw
namespace Go.Proofs.YteognanhfpbghaaGreat
def wt (x : TBar) : Nat := ([0, 1, 2, 4, 0, 0, 8, 16, 0, 0, 0, 32][x.A.toNat * 4 + x.B.toNat]?).getD 0
def fq : List Nat → Bool
  | [] => true
  | [_] => true
  | [x, y] => !(Nat.beq x y)
  | [x, y, z] => !(Nat.beq x y) && (!(Nat.beq x z) && (!(Nat.beq y z) && (!(Nat.beq (x + y + z) 11) && (!(Nat.beq (x + y + z) 21) && (!(Nat.beq (x + y + z) 38) && !(Nat.beq (x + y + z) 56))))))
  | _ => false
def checkQ (P : Nat) (L : List TBar) : Bool := match m_impl_isForest (P : Int) L with
  | some b => b == fq (L.map wt)
  | none => false
theorem tableQ : ([0, 1, 2, 3, 4].all fun n => [1, 2, 3, 4].all fun P => (lists P n).all (checkQ P)) = true := by decide +kernel
def fullq : List Nat → List Nat → List Nat → List Nat → Bool
  | [], _, _, _ => true
  | x :: r, a, b, c => (fq (a ++ [x]) && fullq r (a ++ [x]) b c) || ((fq (b ++ [x]) && fullq r a (b ++ [x]) c) || (fq (c ++ [x]) && fullq r a b (c ++ [x])))
structure Vec where
  a : Nat
  b : Nat
  c : Nat
  d : Nat
  e : Nat
  f : Nat
def barsOf (v : Vec) : List TBar := List.replicate v.a ⟨0, 1⟩ ++ (List.replicate v.b ⟨0, 2⟩ ++ (List.replicate v.c ⟨0, 3⟩ ++ (List.replicate v.d ⟨1, 2⟩ ++ (List.replicate v.e ⟨1, 3⟩ ++ List.replicate v.f ⟨2, 3⟩))))
def good (P : Nat) (v : Vec) : Bool := Nat.beq (v.a + v.b + v.c + v.d + v.e + v.f) (3 * (P - 1)) && (Nat.ble (v.a + v.b + v.d) 6 && (Nat.ble (v.a + v.c + v.e) 6 && (Nat.ble (v.b + v.c + v.f) 6 && (Nat.ble (v.d + v.e + v.f) 6 &&
  ((Nat.ble 4 P || (Nat.beq v.c 0 && (Nat.beq v.e 0 && Nat.beq v.f 0))) && ((Nat.ble 3 P || (Nat.beq v.b 0 && Nat.beq v.d 0)) && (Nat.ble 2 P || Nat.beq v.a 0)))))))
def fine (P : Nat) (v : Vec) : Bool := !(good P v) || fullq ((barsOf v).map wt) [] [] []
def fourT (P : Nat) (p : Vec → Bool) : Bool := [0, 1, 2, 3].all fun a => [0, 1, 2, 3].all fun b => [0, 1, 2, 3].all fun c => [0, 1, 2, 3].all fun d => [0, 1, 2, 3].all fun e => [0, 1, 2, 3].all fun f => p ⟨a, b, c, d, e, f⟩
theorem tableP : ([1, 2, 3, 4].all fun P => fourT P (fine P)) = true := by decide +kernel
end Go.Proofs.YteognanhfpbghaaGreat
end
section
set_option linter.unusedVariables false
set_option linter.unusedSimpArgs false
set_option linter.unnecessarySimpa false
open Go Go.Fw Go.Sp
namespace Go.Proofs.YteognanhfpbghaaGreat
theorem forest_fq {P : Int} {L : List TBar} (p1 : 1 ≤ P) (p4 : P ≤ 4) (hl : L.length ≤ 4) (hx : ∀ x ∈ L, 0 ≤ x.A ∧ x.A < x.B ∧ x.B < P) : forest P L = fq (L.map wt) := by
  obtain ⟨p, rfl⟩ : ∃ p : Nat, P = (p : Int) := ⟨P.toNat, by omega⟩
  have ht := tableQ
  rw [List.all_eq_true] at ht
  have hn : L.length ∈ [0, 1, 2, 3, 4] := by
    have : L.length = 0 ∨ L.length = 1 ∨ L.length = 2 ∨ L.length = 3 ∨ L.length = 4 := by omega
    rcases this with h | h | h | h | h <;> rw [h] <;> decide
  have h1 := ht _ hn
  rw [List.all_eq_true] at h1
  have hp : p ∈ [1, 2, 3, 4] := by
    have : p = 1 ∨ p = 2 ∨ p = 3 ∨ p = 4 := by omega
    rcases this with h | h | h | h <;> rw [h] <;> decide
  have h2 := h1 _ hp
  rw [List.all_eq_true] at h2
  have h3 := h2 L (lists_mem (fun _ => True) _ L rfl hx)
  unfold checkQ at h3
  unfold forest
  cases hi : m_impl_isForest (p : Int) L with
  | none => rw [hi] at h3; cases h3
  | some b => rw [hi] at h3; exact beq_iff_eq.1 h3
theorem fo_fq {g : TGraph} (hV : VG g) (p4 : g.Points ≤ 4) {n : Nat} {S : List Int} (h : Small3 g n S) {x : TBar} (hx : g.Bars[n]? = some x) : fo g (S ++ [(n : Int)]) = fq ((tr g S).map wt ++ [wt x]) := by
  have hn : n < g.Bars.length := (List.getElem?_eq_some_iff.1 hx).1
  have hall := (tr_of (g := g) (n := n + 1) (by omega) h.inc.snoc).all hV
  have ht := h.tl
  unfold fo
  rw [tr_snoc hx] at hall ⊢
  rw [forest_fq hV.p1 p4 (by rw [List.length_append, List.length_singleton]; omega) hall, List.map_append]
  rfl
theorem full_fullq {g : TGraph} (hV : VG g) (p4 : g.Points ≤ 4) : ∀ (r e : Nat) (a b c : List Int), e + r = g.Bars.length → Small3 g e a → Small3 g e b → Small3 g e c → (full g r e a b c).isSome = fullq ((g.Bars.drop e).map wt) ((tr g a).map wt) ((tr g b).map wt) ((tr g c).map wt)
  | 0, e, a, b, c, he, _, _, _ => by
    rw [List.drop_eq_nil_of_le (by omega)]
    rfl
  | r + 1, e, a, b, c, he, ha, hb, hc => by
    have hx : g.Bars[e]? = some (g.Bars[e]'(by omega)) := List.getElem?_eq_getElem (by omega)
    rw [List.drop_eq_getElem_cons (show e < g.Bars.length by omega)]
    generalize g.Bars[e]'(by omega) = x at hx ⊢
    have fa := fo_fq hV p4 ha hx
    have fb := fo_fq hV p4 hb hx
    have fc := fo_fq hV p4 hc hx
    obtain ⟨_, na⟩ := ha.next hV p4 hx
    obtain ⟨_, nb⟩ := hb.next hV p4 hx
    obtain ⟨_, nc⟩ := hc.next hV p4 hx
    have mp : ∀ S : List Int, (tr g (S ++ [(e : Int)])).map wt = (tr g S).map wt ++ [wt x] := fun S => by rw [tr_snoc hx, List.map_append]; rfl
    have kA : (fo g (a ++ [(e : Int)]) && (full g r (e + 1) (a ++ [(e : Int)]) b c).isSome) = (fq ((tr g a).map wt ++ [wt x]) && fullq ((g.Bars.drop (e + 1)).map wt) ((tr g a).map wt ++ [wt x]) ((tr g b).map wt) ((tr g c).map wt)) := by
      rw [← fa]
      cases hfo : fo g (a ++ [(e : Int)]) with
      | false => rfl
      | true => rw [full_fullq hV p4 r (e + 1) _ _ _ (by omega) (na hfo) hb.weak hc.weak, mp]
    have kB : (fo g (b ++ [(e : Int)]) && (full g r (e + 1) a (b ++ [(e : Int)]) c).isSome) = (fq ((tr g b).map wt ++ [wt x]) && fullq ((g.Bars.drop (e + 1)).map wt) ((tr g a).map wt) ((tr g b).map wt ++ [wt x]) ((tr g c).map wt)) := by
      rw [← fb]
      cases hfo : fo g (b ++ [(e : Int)]) with
      | false => rfl
      | true => rw [full_fullq hV p4 r (e + 1) _ _ _ (by omega) ha.weak (nb hfo) hc.weak, mp]
    have kC : (fo g (c ++ [(e : Int)]) && (full g r (e + 1) a b (c ++ [(e : Int)])).isSome) = (fq ((tr g c).map wt ++ [wt x]) && fullq ((g.Bars.drop (e + 1)).map wt) ((tr g a).map wt) ((tr g b).map wt) ((tr g c).map wt ++ [wt x])) := by
      rw [← fc]
      cases hfo : fo g (c ++ [(e : Int)]) with
      | false => rfl
      | true => rw [full_fullq hV p4 r (e + 1) _ _ _ (by omega) ha.weak hb.weak (nc hfo), mp]
    simp only [full, orElse_some, bif_some, kA, kB, kC]
    rfl
instance barDec : DecidableEq TBar := fun x y => if h : x.A = y.A ∧ x.B = y.B then .isTrue (by obtain ⟨a, b⟩ := x; obtain ⟨c, d⟩ := y; simp only at h; rw [h.1, h.2]) else .isFalse fun e => h (by rw [e]; exact ⟨rfl, rfl⟩)
def six : List TBar := [⟨0, 1⟩, ⟨0, 2⟩, ⟨0, 3⟩, ⟨1, 2⟩, ⟨1, 3⟩, ⟨2, 3⟩]
theorem six_mem {x : TBar} (h0 : 0 ≤ x.A) (h1 : x.A < x.B) (h2 : x.B < 4) : x ∈ six := by
  obtain ⟨a, b⟩ := x
  simp only at h0 h1 h2
  have ha : a = 0 ∨ a = 1 ∨ a = 2 := by omega
  have hb : b = 1 ∨ b = 2 ∨ b = 3 := by omega
  rcases ha with rfl | rfl | rfl <;> rcases hb with rfl | rfl | rfl <;> first | (exfalso; omega) | decide
def vecOf (L : List TBar) : Vec := ⟨L.count ⟨0, 1⟩, L.count ⟨0, 2⟩, L.count ⟨0, 3⟩, L.count ⟨1, 2⟩, L.count ⟨1, 3⟩, L.count ⟨2, 3⟩⟩
theorem barsOf_mem {v : Vec} {x : TBar} (h : x ∈ barsOf v) : x ∈ six := by
  unfold barsOf at h
  simp only [List.mem_append, List.mem_replicate] at h
  rcases h with ⟨_, h⟩ | ⟨_, h⟩ | ⟨_, h⟩ | ⟨_, h⟩ | ⟨_, h⟩ | ⟨_, h⟩ <;> rw [h] <;> decide
theorem barsOf_count (v : Vec) : (barsOf v).count ⟨0, 1⟩ = v.a ∧ (barsOf v).count ⟨0, 2⟩ = v.b ∧ (barsOf v).count ⟨0, 3⟩ = v.c ∧ (barsOf v).count ⟨1, 2⟩ = v.d ∧ (barsOf v).count ⟨1, 3⟩ = v.e ∧ (barsOf v).count ⟨2, 3⟩ = v.f := by
  unfold barsOf
  simp only [List.count_append, List.count_replicate]
  refine ⟨?_, ?_, ?_, ?_, ?_, ?_⟩ <;> simp
theorem barsOf_sorted (v : Vec) : (barsOf v).Pairwise fun x y => barGt x y = false := by
  unfold barsOf
  have r : ∀ (n : Nat) (x : TBar), (List.replicate n x).Pairwise fun x y => barGt x y = false := fun n x => List.pairwise_replicate.2 (.inr (by rw [barGt_iff]; omega))
  have s : ∀ (n : Nat) (x y z : TBar), x ∈ List.replicate n z → barGt z y = false → barGt x y = false := fun n x y z h h2 => by rw [(List.mem_replicate.1 h).2]; exact h2
  refine List.pairwise_append.2 ⟨r _ _, List.pairwise_append.2 ⟨r _ _, List.pairwise_append.2 ⟨r _ _, List.pairwise_append.2 ⟨r _ _, List.pairwise_append.2 ⟨r _ _, r _ _, ?_⟩, ?_⟩, ?_⟩, ?_⟩, ?_⟩ <;> intro x hx y hy <;> refine s _ _ _ _ hx ?_ <;> simp only [List.mem_append, List.mem_replicate] at hy
  · rw [hy.2]; decide
  · rcases hy with ⟨_, h⟩ | ⟨_, h⟩ <;> rw [h] <;> decide
  · rcases hy with ⟨_, h⟩ | ⟨_, h⟩ | ⟨_, h⟩ <;> rw [h] <;> decide
  · rcases hy with ⟨_, h⟩ | ⟨_, h⟩ | ⟨_, h⟩ | ⟨_, h⟩ <;> rw [h] <;> decide
  · rcases hy with ⟨_, h⟩ | ⟨_, h⟩ | ⟨_, h⟩ | ⟨_, h⟩ | ⟨_, h⟩ <;> rw [h] <;> decide
theorem sorted_eq {L : List TBar} (hs : L.Pairwise fun x y => barGt x y = false) (hx : ∀ x ∈ L, x ∈ six) : L = barsOf (vecOf L) := by
  refine List.Perm.eq_of_pairwise (le := fun x y => barGt x y = false) (fun x y _ _ h1 h2 => ?_) hs (barsOf_sorted _) (List.perm_iff_count.2 fun x => ?_)
  · rw [barGt_iff] at h1 h2
    obtain ⟨a, b⟩ := x
    obtain ⟨c, d⟩ := y
    simp only at h1 h2
    have e1 : a = c := by omega
    have e2 : b = d := by omega
    rw [e1, e2]
  · obtain ⟨e1, e2, e3, e4, e5, e6⟩ := barsOf_count (vecOf L)
    by_cases h6 : x ∈ six
    · unfold six at h6
      simp only [List.mem_cons, List.not_mem_nil, or_false] at h6
      rcases h6 with rfl | rfl | rfl | rfl | rfl | rfl
      · exact e1.symm
      · exact e2.symm
      · exact e3.symm
      · exact e4.symm
      · exact e5.symm
      · exact e6.symm
    · rw [List.count_eq_zero.2 fun h => h6 (hx x h), List.count_eq_zero.2 fun h => h6 (barsOf_mem h)]
def X2 (a b : Nat) (v : Nat) : Bool := Nat.beq v a || Nat.beq v b
def X3 (a b c : Nat) (v : Nat) : Bool := Nat.beq v a || (Nat.beq v b || Nat.beq v c)
theorem sparse_le {L : List TBar} (hok : ∀ x ∈ L, OkB x) (hsp : Sparse 3 3 (mult L)) (X : Nat → Bool) : L.countP (fun x => X x.A.toNat && X x.B.toNat) = 0 ∨ L.countP (fun x => X x.A.toNat && X x.B.toNat) + 3 ≤ 3 * size X := by
  have h := hsp.sp X
  rw [span_mult hok] at h
  omega
theorem barsOf_countP (v : Vec) (p : TBar → Bool) : (barsOf v).countP p = (bif p ⟨0, 1⟩ then v.a else 0) + ((bif p ⟨0, 2⟩ then v.b else 0) + ((bif p ⟨0, 3⟩ then v.c else 0) + ((bif p ⟨1, 2⟩ then v.d else 0) + ((bif p ⟨1, 3⟩ then v.e else 0) + (bif p ⟨2, 3⟩ then v.f else 0))))) := by
  unfold barsOf
  have r : ∀ (n : Nat) (x : TBar), (List.replicate n x).countP p = bif p x then n else 0 := fun n x => by
    rw [List.countP_replicate]
    cases p x <;> rfl
  simp only [List.countP_append, r]
theorem barsOf_len (v : Vec) : (barsOf v).length = v.a + v.b + v.c + v.d + v.e + v.f := by
  unfold barsOf
  simp only [List.length_append, List.length_replicate]
  omega
theorem good_of {P : Int} {v : Vec} (p1 : 1 ≤ P) (p4 : P ≤ 4) (hin : ∀ x ∈ barsOf v, 0 ≤ x.A ∧ x.A < x.B ∧ x.B < P) (hl : (barsOf v).length = 3 * (P.toNat - 1)) (hsp : Sparse 3 3 (mult (barsOf v))) : good P.toNat v = true ∧ (v.a ≤ 3 ∧ v.b ≤ 3 ∧ v.c ≤ 3) ∧ v.d ≤ 3 ∧ v.e ≤ 3 ∧ v.f ≤ 3 := by
  have hok : ∀ x ∈ barsOf v, OkB x := fun x hx => by
    obtain ⟨a, b, c⟩ := hin x hx
    exact ⟨a, by omega, by omega, by omega, by omega⟩
  have key := fun X => sparse_le hok hsp X
  simp only [barsOf_countP] at key
  have k01 : v.a ≤ 3 := by have := key (X2 0 1); simp only [show size (X2 0 1) = 2 from by decide] at this; simp [X2] at this; omega
  have k02 : v.b ≤ 3 := by have := key (X2 0 2); simp only [show size (X2 0 2) = 2 from by decide] at this; simp [X2] at this; omega
  have k03 : v.c ≤ 3 := by have := key (X2 0 3); simp only [show size (X2 0 3) = 2 from by decide] at this; simp [X2] at this; omega
  have k12 : v.d ≤ 3 := by have := key (X2 1 2); simp only [show size (X2 1 2) = 2 from by decide] at this; simp [X2] at this; omega
  have k13 : v.e ≤ 3 := by have := key (X2 1 3); simp only [show size (X2 1 3) = 2 from by decide] at this; simp [X2] at this; omega
  have k23 : v.f ≤ 3 := by have := key (X2 2 3); simp only [show size (X2 2 3) = 2 from by decide] at this; simp [X2] at this; omega
  have t1 : v.a + v.b + v.d ≤ 6 := by have := key (X3 0 1 2); simp only [show size (X3 0 1 2) = 3 from by decide] at this; simp [X3] at this; omega
  have t2 : v.a + v.c + v.e ≤ 6 := by have := key (X3 0 1 3); simp only [show size (X3 0 1 3) = 3 from by decide] at this; simp [X3] at this; omega
  have t3 : v.b + v.c + v.f ≤ 6 := by have := key (X3 0 2 3); simp only [show size (X3 0 2 3) = 3 from by decide] at this; simp [X3] at this; omega
  have t4 : v.d + v.e + v.f ≤ 6 := by have := key (X3 1 2 3); simp only [show size (X3 1 2 3) = 3 from by decide] at this; simp [X3] at this; omega
  obtain ⟨e1, e2, e3, e4, e5, e6⟩ := barsOf_count v
  have out : ∀ (x : TBar) (n : Nat), (barsOf v).count x = n → P ≤ x.B → n = 0 := fun x n hn hP => by
    by_cases h0 : n = 0
    · exact h0
    · have := List.count_pos_iff.1 (show 0 < (barsOf v).count x by omega)
      have := hin x this
      omega
  have o3 : P ≤ 3 → v.c = 0 ∧ v.e = 0 ∧ v.f = 0 := fun h => ⟨out _ _ e3 h, out _ _ e5 h, out _ _ e6 h⟩
  have o2 : P ≤ 2 → v.b = 0 ∧ v.d = 0 := fun h => ⟨out _ _ e2 h, out _ _ e4 h⟩
  have o1 : P ≤ 1 → v.a = 0 := fun h => out _ _ e1 h
  rw [barsOf_len] at hl
  refine ⟨?_, ⟨k01, k02, k03⟩, k12, k13, k23⟩
  unfold good
  simp only [Bool.and_eq_true, Bool.or_eq_true, Nat.beq_eq, Nat.ble_eq]
  refine ⟨hl, t1, t2, t3, t4, ?_, ?_, ?_⟩
  · by_cases h : 4 ≤ P.toNat
    · exact .inl h
    · exact .inr (o3 (by omega))
  · by_cases h : 3 ≤ P.toNat
    · exact .inl h
    · exact .inr (o2 (by omega))
  · by_cases h : 2 ≤ P.toNat
    · exact .inl h
    · exact .inr (o1 (by omega))
theorem fourT_of {P : Nat} {p : Vec → Bool} (h : fourT P p = true) {v : Vec} (ha : v.a ≤ 3) (hb : v.b ≤ 3) (hc : v.c ≤ 3) (hd : v.d ≤ 3) (he : v.e ≤ 3) (hf : v.f ≤ 3) : p v = true := by
  have m : ∀ n, n ≤ 3 → n ∈ [0, 1, 2, 3] := fun n hn => by
    have : n = 0 ∨ n = 1 ∨ n = 2 ∨ n = 3 := by omega
    rcases this with h | h | h | h <;> rw [h] <;> decide
  unfold fourT at h
  simp only [List.all_eq_true] at h
  exact h _ (m _ ha) _ (m _ hb) _ (m _ hc) _ (m _ hd) _ (m _ he) _ (m _ hf)
theorem pack_found {g : TGraph} (hv : vG g = true) (p4 : g.Points ≤ 4) (hl : g.Bars.length = 3 * (g.Points.toNat - 1)) (hsp : Sparse 3 3 (mult g.Bars)) : ∃ q, found g = some q ∧ good g.Points.toNat (vecOf g.Bars) = true ∧ g.Bars = barsOf (vecOf g.Bars) := by
  have hV := vG_VG hv
  have p1 := hV.p1
  have hin : ∀ x ∈ g.Bars, 0 ≤ x.A ∧ x.A < x.B ∧ x.B < g.Points := fun x hx => by
    obtain ⟨k, hk, rfl⟩ := List.getElem_of_mem hx
    have := List.getElem?_eq_getElem hk
    exact ⟨hV.a0 this, hV.ab this, hV.bp this⟩
  have he := sorted_eq hV.pair fun x hx => by
    obtain ⟨a, b, c⟩ := hin x hx
    exact six_mem a b (by omega)
  obtain ⟨hg, ⟨ka, kb, kc⟩, kd, ke, kf⟩ := good_of (v := vecOf g.Bars) p1 p4 (by rw [← he]; exact hin) (by rw [← he]; exact hl) (by rw [← he]; exact hsp)
  have ht := tableP
  rw [List.all_eq_true] at ht
  have hp : g.Points.toNat ∈ [1, 2, 3, 4] := by
    have : g.Points.toNat = 1 ∨ g.Points.toNat = 2 ∨ g.Points.toNat = 3 ∨ g.Points.toNat = 4 := by omega
    rcases this with h | h | h | h <;> rw [h] <;> decide
  have hf := fourT_of (ht _ hp) ka kb kc kd ke kf
  unfold fine at hf
  rw [hg, ← he, Bool.not_true, Bool.false_or] at hf
  have := full_fullq hV p4 g.Bars.length 0 [] [] [] (by omega) (small0 g) (small0 g) (small0 g)
  rw [List.drop_zero] at this
  have hs : (found g).isSome = true := by
    unfold found
    rw [this]
    exact hf
  cases hq : found g with
  | none => rw [hq] at hs; cases hs
  | some q => exact ⟨q, rfl, hg, he⟩
end Go.Proofs.YteognanhfpbghaaGreat
end
section
set_option linter.unusedVariables false
set_option linter.unusedSimpArgs false
set_option linter.unnecessarySimpa false
open Go Go.Fw
namespace Go.Proofs.YteognanhfpbghaaGreat
def fineT (P : Nat) (v : Vec) : Bool := !(good P v) || (match m_impl_IsTight ⟨(P : Int), barsOf v⟩ 3 3 with | some b => b | none => false)
def threeT (a b : Nat) (p : Vec → Bool) : Bool := [0, 1, 2, 3].all fun c => [0, 1, 2, 3].all fun d => [0, 1, 2, 3].all fun e => [0, 1, 2, 3].all fun f => p ⟨a, b, c, d, e, f⟩
theorem tight1 : ([1, 2, 3].all fun P => fourT P (fineT P)) = true := by decide +kernel
theorem tight00 : threeT 0 0 (fineT 4) = true := by decide +kernel
theorem tight01 : threeT 0 1 (fineT 4) = true := by decide +kernel
theorem tight02 : threeT 0 2 (fineT 4) = true := by decide +kernel
theorem tight03 : threeT 0 3 (fineT 4) = true := by decide +kernel
theorem tight10 : threeT 1 0 (fineT 4) = true := by decide +kernel
theorem tight11 : threeT 1 1 (fineT 4) = true := by decide +kernel
theorem tight12 : threeT 1 2 (fineT 4) = true := by decide +kernel
theorem tight13 : threeT 1 3 (fineT 4) = true := by decide +kernel
theorem tight20 : threeT 2 0 (fineT 4) = true := by decide +kernel
theorem tight21 : threeT 2 1 (fineT 4) = true := by decide +kernel
theorem tight22 : threeT 2 2 (fineT 4) = true := by decide +kernel
theorem tight23 : threeT 2 3 (fineT 4) = true := by decide +kernel
theorem tight30 : threeT 3 0 (fineT 4) = true := by decide +kernel
theorem tight31 : threeT 3 1 (fineT 4) = true := by decide +kernel
theorem tight32 : threeT 3 2 (fineT 4) = true := by decide +kernel
theorem tight33 : threeT 3 3 (fineT 4) = true := by decide +kernel
theorem tight4 : fourT 4 (fineT 4) = true := by
  have e : fourT 4 (fineT 4) = ([0, 1, 2, 3].all fun a => [0, 1, 2, 3].all fun b => threeT a b (fineT 4)) := rfl
  rw [e]
  simp only [List.all_cons, List.all_nil, tight00, tight01, tight02, tight03, tight10, tight11, tight12, tight13, tight20, tight21, tight22, tight23, tight30, tight31, tight32, tight33, Bool.and_self]
theorem tableT : ([1, 2, 3, 4].all fun P => fourT P (fineT P)) = true := by
  have h := tight1
  simp only [List.all_cons, List.all_nil, Bool.and_true, Bool.and_eq_true] at h ⊢
  exact ⟨h.1, h.2.1, h.2.2, tight4⟩
end Go.Proofs.YteognanhfpbghaaGreat
end
section
set_option linter.unusedVariables false
set_option linter.unusedSimpArgs false
set_option linter.unnecessarySimpa false
open Go Go.Fw Go.Sp
namespace Go.Proofs.YteognanhfpbghaaGreat
theorem plc_tr (g : TGraph) (p : TPebbles) : plc g.Bars p = tr g p.Placed := by
  apply List.ext_getElem?
  intro i
  unfold plc tr
  rw [List.getElem?_map, List.getElem?_map]
  by_cases hi : i < p.Placed.length
  · rw [List.getElem?_range hi, List.getElem?_eq_getElem hi]
    simp only [Option.map_some, pbar, List.getElem?_eq_getElem hi, Option.bind_some]
  · rw [List.getElem?_eq_none (by rw [List.length_range]; omega), List.getElem?_eq_none (by omega)]
    rfl
theorem tr_sorted {g : TGraph} (hV : VG g) {K : List Int} (hK : K.Pairwise fun a b => a < b) (h0 : ∀ e ∈ K, 0 ≤ e ∧ e < (g.Bars.length : Int)) : (tr g K).Pairwise fun x y => barGt x y = false := by
  unfold tr
  rw [List.pairwise_map]
  refine hK.imp_of_mem fun {a b} ha hb hab => ?_
  obtain ⟨a0, a1⟩ := h0 a ha
  obtain ⟨b0, b1⟩ := h0 b hb
  rw [List.getElem?_eq_getElem (show a.toNat < g.Bars.length by omega), List.getElem?_eq_getElem (show b.toNat < g.Bars.length by omega)]
  exact List.pairwise_iff_getElem.1 hV.pair a.toNat b.toNat (by omega) (by omega) (by omega)
theorem tr_in {g : TGraph} (hV : VG g) {K : List Int} (h0 : ∀ e ∈ K, 0 ≤ e ∧ e < (g.Bars.length : Int)) : ∀ x ∈ tr g K, 0 ≤ x.A ∧ x.A < x.B ∧ x.B < g.Points := fun x hx => by
  unfold tr at hx
  obtain ⟨e, he, rfl⟩ := List.mem_map.1 hx
  obtain ⟨e0, e1⟩ := h0 e he
  have hb := List.getElem?_eq_getElem (show e.toNat < g.Bars.length by omega)
  rw [hb]
  exact ⟨hV.a0 hb, hV.ab hb, hV.bp hb⟩
theorem span_of {g : TGraph} (hv : vG g = true) (p4 : g.Points ≤ 4) {K : List Int} (hK : K.Pairwise fun a b => a < b) (h0 : ∀ e ∈ K, 0 ≤ e ∧ e < (g.Bars.length : Int)) {S : List Int} (hS : Small3 (only g K) K.length S) (hf : fo (only g K) S = true) (hl : (S.length : Int) = g.Points - 1) :
    m_spec_IsSpanningTree g (reNames K S) = some true := by
  have hV := vG_VG hv
  have p1 := hV.p1
  have ob := only_eq hK h0
  have rk : ∀ {x : Int}, x ∈ S → ∃ (hx : x.toNat < K.length), reName K x = K[x.toNat] ∧ 0 ≤ x := fun {x} hx => by
    obtain ⟨x0, x1⟩ := hS.inc.rng x hx
    have : x.toNat < K.length := by omega
    refine ⟨this, ?_, x0⟩
    unfold reName
    rw [List.getElem?_eq_getElem this]
    rfl
  have inc : Inc g.Bars.length (reNames K S) := by
    refine ⟨fun e he => ?_, ?_⟩
    · obtain ⟨x, hx, rfl⟩ := List.mem_map.1 he
      obtain ⟨h1, h2, _⟩ := rk hx
      rw [h2]
      exact h0 _ (List.getElem_mem h1)
    · unfold reNames
      rw [List.pairwise_map]
      refine hS.inc.inc.imp_of_mem fun {a b} ha hb hab => ?_
      obtain ⟨h1, h2, h3⟩ := rk ha
      obtain ⟨h4, h5, h6⟩ := rk hb
      rw [h2, h5]
      exact List.pairwise_iff_getElem.1 hK _ _ h1 h4 (by omega)
  have ofs : Of g (reNames K S) (tr (only g K) S) := by
    refine ⟨by unfold reNames tr; simp, fun k e he => ?_⟩
    unfold reNames at he
    rw [List.getElem?_map] at he
    cases hk : S[k]? with
    | none => rw [hk] at he; cases he
    | some x =>
      rw [hk] at he
      injection he with he
      obtain ⟨h1, h2, h3⟩ := rk (List.mem_of_getElem? hk)
      obtain ⟨k0, k1⟩ := h0 _ (List.getElem_mem h1)
      rw [← he, h2]
      refine ⟨k0, ?_⟩
      unfold tr
      rw [List.getElem?_map, hk]
      simp only [Option.map_some]
      rw [ob]
      unfold tr
      rw [List.getElem?_map, List.getElem?_eq_getElem h1]
      simp only [Option.map_some, Option.getD_some]
      rw [List.getElem?_eq_getElem (show K[x.toNat].toNat < g.Bars.length by omega)]
      rfl
  have ht := hS.tl
  have := forestS hv p4 (Nat.le_refl _) inc ofs (by omega)
  have hf' : forest g.Points (tr (only g K) S) = true := hf
  unfold m_spec_IsSpanningTree
  rw [this, hf']
  have hlen : (reNames K S).length = S.length := by unfold reNames; simp
  simp only [Option.bind_some, cond_true, hlen, hl]
  rw [w64_small (by omega) (by omega), beq_self_eq_true]
theorem body_facts {g : TGraph} (h : g.Bars.length ≤ 1048576) (hr : bodyFr g = 0) (p4 : g.Points ≤ 4) : ∃ L : List (List Int), m_spec_BodyTrees g = some (L, true) ∧ m_impl_BodyTrees g = some (L, true) ∧ L.length = 3 ∧ (∀ r ∈ L, r.length ≤ 3) ∧ ∀ r ∈ L, m_spec_IsSpanningTree g r = some true := by
  have hs : SM g.Bars.length := by show _ ≤ _; omega
  have hi : m_impl_IsBodyRigid g = some true := by unfold m_impl_IsBodyRigid; rw [bodyFrI_eq g hs, hr]; rfl
  have hsp : m_spec_IsBodyRigid g = some true := by unfold m_spec_IsBodyRigid; rw [bodyFrS_eq g hs, hr]; rfl
  unfold bodyFr at hr
  cases hv : vG g with
  | false => rw [hv] at hr; simp at hr
  | true =>
    have hV := vG_VG hv
    have p1 := hV.p1
    have hrng := rk_rng g 3 3
    rw [hv, cond_true, w64_small (n := 3 * g.Points) (by omega) (by omega), w64_small (n := 3 * g.Points - 3) (by omega) (by omega), w64_small (by omega) (by omega)] at hr
    have hacc := acc_ok g 3 3
    have hK := acc_inc g 3 3
    have hks := runP_sm g hs 3 3
    have hrk : rk g 3 3 = ((acc g 3 3).length : Int) := by unfold rk acc runP; rw [hv]; rfl
    have hsparse : Sparse 3 3 (mult (tr g (acc g 3 3))) := by
      have := (played_game hV.gb (k := 3) (l := 3) (by omega) (by omega) (by omega) g.Bars.length (Nat.le_refl _)).sp
      rw [plc_tr] at this
      have e : acc g 3 3 = (played g.Points g.Bars 3 3 g.Bars.length).Placed := by unfold acc runP; rw [hv]; rfl
      rw [e]
      exact this
    have ob := only_eq hK hacc.rng
    have hlenK : (acc g 3 3).length = 3 * (g.Points.toNat - 1) := by omega
    have hlb : (only g (acc g 3 3)).Bars.length = 3 * (g.Points.toNat - 1) := by rw [only_len hacc.nd hacc.rng]; exact hlenK
    have hvh : vG (only g (acc g 3 3)) = true := vG_mk p1 hV.p8 (by omega) (by rw [ob]; exact tr_in hV hacc.rng) (by rw [ob]; exact tr_sorted hV hK hacc.rng)
    have hVh := vG_VG hvh
    obtain ⟨q, hq, hgood, hbars⟩ := pack_found hvh (show g.Points ≤ 4 from p4) hlb (by rw [ob]; exact hsparse)
    obtain ⟨a, b, c⟩ := q
    have htight : m_impl_IsTight (only g (acc g 3 3)) 3 3 = some true := by
      have ht := tableT
      rw [List.all_eq_true] at ht
      have hp : g.Points.toNat ∈ [1, 2, 3, 4] := by
        have : g.Points.toNat = 1 ∨ g.Points.toNat = 2 ∨ g.Points.toNat = 3 ∨ g.Points.toNat = 4 := by omega
        rcases this with h | h | h | h <;> rw [h] <;> decide
      obtain ⟨_, ⟨ka, kb, kc⟩, kd, ke, kf⟩ := good_of (P := g.Points) (v := vecOf (only g (acc g 3 3)).Bars) p1 p4 (by rw [← hbars, ob]; exact tr_in hV hacc.rng) (by rw [← hbars]; exact hlb) (by rw [← hbars, ob]; exact hsparse)
      have hf := fourT_of (ht _ hp) ka kb kc kd ke kf
      unfold fineT at hf
      have hg2 : good g.Points.toNat (vecOf (only g (acc g 3 3)).Bars) = true := hgood
      rw [hg2, ← hbars, Bool.not_true, Bool.false_or] at hf
      have eg : (⟨((g.Points.toNat : Nat) : Int), (only g (acc g 3 3)).Bars⟩ : TGraph) = only g (acc g 3 3) := by
        rw [show ((g.Points.toNat : Nat) : Int) = g.Points by omega]
        rfl
      rw [eg] at hf
      cases ht' : m_impl_IsTight (only g (acc g 3 3)) 3 3 with
      | none => rw [ht'] at hf; cases hf
      | some b => rw [ht'] at hf; have hf : b = true := hf; rw [hf]
    obtain ⟨w, t1, t2, t3⟩ := both_IsTight (only g (acc g 3 3)) 3 3 (by omega)
    rw [htight] at t2
    injection t2 with t2
    subst t2
    obtain ⟨e1, l, e2⟩ := pack_with (only g (acc g 3 3)) (by omega) p4 t1 htight t3
    have hpk : packed (only g (acc g 3 3)) = ([a, b, c], true) := by unfold packed; rw [hq]
    rw [cond_true, hpk] at e1 e2
    obtain ⟨sa, sb, sc⟩ := full_ok hVh p4 _ 0 _ _ _ a b c (by omega) (small0 _) (small0 _) (small0 _) hq
    obtain ⟨⟨fa, fb, fc⟩, hsum⟩ := full_fo (g := only g (acc g 3 3)) _ 0 _ _ _ a b c (fo_nil (g := only g (acc g 3 3)) p1 p4) (fo_nil (g := only g (acc g 3 3)) p1 p4) (fo_nil (g := only g (acc g 3 3)) p1 p4) hq
    have key : ∀ {S : List Int}, Small3 (only g (acc g 3 3)) (only g (acc g 3 3)).Bars.length S → InK (acc g 3 3) S := fun {S} hS => ⟨fun x hx => by have := hS.inc.rng x hx; omega, hS.len⟩
    have hle : ∀ {S : List Int}, Small3 (only g (acc g 3 3)) (only g (acc g 3 3)).Bars.length S → fo (only g (acc g 3 3)) S = true → (S.length : Int) + 1 ≤ g.Points := fun {S} hS hf => by
      have := forest_len (P := g.Points) (L := tr (only g (acc g 3 3)) S) p1 p4 hS.tl (Of.all hVh (tr_of (Nat.le_refl _) hS.inc)) hf
      unfold tr at this
      rw [List.length_map] at this
      exact this
    have la := hle sa fa
    have lb := hle sb fb
    have lc := hle sc fc
    simp only [List.length_nil] at hsum
    have castS : ∀ {S : List Int}, Small3 (only g (acc g 3 3)) (only g (acc g 3 3)).Bars.length S → Small3 (only g (acc g 3 3)) (acc g 3 3).length S := fun {S} hS => by rw [hlb] at hS; rw [hlenK]; exact hS
    have na : (a.length : Int) = g.Points - 1 := by omega
    have nb : (b.length : Int) = g.Points - 1 := by omega
    have nc : (c.length : Int) = g.Points - 1 := by omega
    refine ⟨[reNames (acc g 3 3) a, reNames (acc g 3 3) b, reNames (acc g 3 3) c], ?_, ?_, rfl, ?_, ?_⟩
    · unfold m_spec_BodyTrees
      rw [hsp, decide_eq_false (show ¬ 4 < g.Points by omega)]
      simp only [Option.bind_some, Bool.not_true, cond_false, accS_eq g hs, onlyS_eq g hs _ hks, e1]
      rw [treesS3 (key sa) (key sb) (key sc)]
      rfl
    · unfold m_impl_BodyTrees
      rw [hi, decide_eq_false (show ¬ 4 < g.Points by omega)]
      simp only [Option.bind_some, Bool.not_true, cond_false, accI_eq g hs, onlyI_eq g hs _ hks, e2]
      have := treesI3 (key sa) (key sb) (key sc)
      rw [show ((([a, b, c] : List (List Int)).length : Nat) : Int) = 3 from rfl, this]
      rfl
    · intro r hr
      simp only [List.mem_cons, List.not_mem_nil, or_false] at hr
      unfold reNames at hr
      rcases hr with rfl | rfl | rfl <;> rw [List.length_map]
      · exact sa.len
      · exact sb.len
      · exact sc.len
    · intro r hr
      simp only [List.mem_cons, List.not_mem_nil, or_false] at hr
      rcases hr with rfl | rfl | rfl
      · exact span_of hv p4 hK hacc.rng (castS sa) fa na
      · exact span_of hv p4 hK hacc.rng (castS sb) fb nb
      · exact span_of hv p4 hK hacc.rng (castS sc) fc nc
theorem body_none {g : TGraph} (h : g.Bars.length ≤ 1048576) (hr : ¬ bodyFr g = 0 ∨ 4 < g.Points) : m_spec_BodyTrees g = some ([], false) ∧ m_impl_BodyTrees g = some ([], false) := by
  have hs : SM g.Bars.length := by show _ ≤ _; omega
  have hi : m_impl_IsBodyRigid g = some (bodyFr g == 0) := by unfold m_impl_IsBodyRigid; rw [bodyFrI_eq g hs]; rfl
  have hsp : m_spec_IsBodyRigid g = some (bodyFr g == 0) := by unfold m_spec_IsBodyRigid; rw [bodyFrS_eq g hs]; rfl
  unfold m_spec_BodyTrees m_impl_BodyTrees
  rw [hi, hsp]
  simp only [Option.bind_some]
  by_cases h0 : bodyFr g = 0
  · have h4 : 4 < g.Points := by rcases hr with hr | hr; exact (hr h0).elim; exact hr
    rw [h0, decide_eq_true h4]
    exact ⟨rfl, rfl⟩
  · rw [beq_eq_false_iff_ne.2 h0]
    exact ⟨rfl, rfl⟩
end Go.Proofs.YteognanhfpbghaaGreat
end
section
set_option linter.unusedVariables false
set_option linter.unusedSimpArgs false
set_option linter.unnecessarySimpa false
open Go Go.Fw
namespace Go.Proofs.YteognanhfpbghaaGreat
def Ex {α : Type} (o : Option α) (Q : α → Prop) : Prop := ∃ r, o = some r ∧ Q r
section
variable {α β : Type} {o x y : Option α} {f : α → Option β} {Q Q' : α → Prop} {R : β → Prop} {b : Bool}
theorem Ex.bind (h : Ex o Q) (hf : ∀ r, Q r → Ex (f r) R) : Ex (o.bind f) R := by
  obtain ⟨r, rfl, hq⟩ := h
  exact hf r hq
theorem Ex.ret {r : α} (h : Q r) : Ex (some r) Q := ⟨r, rfl, h⟩
theorem Ex.bif (h1 : b = true → Ex x Q) (h2 : b = false → Ex y Q) : Ex (bif b then x else y) Q := by
  cases b
  · exact h2 rfl
  · exact h1 rfl
theorem Ex.mono (h : Ex o Q) (hq : ∀ r, Q r → Q' r) : Ex o Q' := by
  obtain ⟨r, e, hr⟩ := h
  exact ⟨r, e, hq r hr⟩
theorem Ex.lim {n : Nat} {f : Unit → Option β} (hn : n ≤ 2147483648) (hf : Ex (f ()) R) : Ex ((Fw.lim n).bind f) R := by
  rw [lim_ok hn]
  exact hf
theorem Ex.nz {n : Int} {f : Unit → Option β} (hn : n ≠ 0) (hf : Ex (f ()) R) : Ex ((Fw.nz n).bind f) R := by
  unfold Fw.nz
  rw [if_pos hn]
  exact hf
theorem Ex.idx {l : List α} {i : Int} (h0 : 0 ≤ i) (h1 : i < (l.length : Int)) (hf : ∀ v, v ∈ l → Ex (f v) R) : Ex ((Fw.idx l i).bind f) R := by
  unfold Fw.idx
  rw [if_pos h0, List.getElem?_eq_getElem (by omega)]
  exact hf _ (List.getElem_mem _)
end
structure CO (c : Tl1Cur) : Prop where
  b : c.b.length ≤ 1048576
  i0 : 0 ≤ c.i
  i1 : c.i ≤ 1048576
theorem and255 (z : Int) : 0 ≤ bits .and .i64 z 255 ∧ bits .and .i64 z 255 ≤ 255 := by
  have h : (BitVec.ofInt 64 z &&& BitVec.ofInt 64 255).toNat ≤ 255 := by
    rw [BitVec.toNat_and]
    exact Nat.le_trans Nat.and_le_right (by decide)
  have e : bits .and .i64 z 255 = ((BitVec.ofInt 64 z &&& BitVec.ofInt 64 255).toNat : Int) := by
    show w64 ((BitVec.ofInt 64 z &&& BitVec.ofInt 64 255).toNat : Int) = _
    exact w64_small (by omega) (by omega)
  rw [e]
  omega
theorem new_ex {code : List Int} (h : code.length ≤ 1048576) : Ex (m_spec_l1New code) CO := by
  have hb : ∀ (k : Nat) (hh : Int), k < 4000 → k < code.length → ∃ h', m_spec_l1New_L1 code (hh, (k : Int)) = some (.inl (h', ((k + 1 : Nat) : Int))) := fun k hh h4 hk => by
    unfold m_spec_l1New_L1
    rw [decide_eq_true (by simp only; omega), decide_eq_true (by simp only; omega)]
    simp only [cond_true, Option.bind_some, idx_at hk, w64_succ (show k ≤ 1099511627776 by omega)]
    exact ⟨_, rfl⟩
  obtain ⟨r, hr, _⟩ := loop_inv (b := m_spec_l1New_L1 code) (s := (w64 (10101 + (code.length : Int)), 0)) (fun k s => s.2 = (k : Int)) (fun _ => True) (min code.length 4000) (by omega) rfl (fun k s hk hs => by
    obtain ⟨hh, i⟩ := s
    simp only at hs
    subst hs
    obtain ⟨h', e⟩ := hb k hh (by omega) (by omega)
    exact .inl ⟨_, e, rfl⟩) (fun s hs => by
    obtain ⟨hh, i⟩ := s
    simp only at hs
    subst hs
    refine ⟨hh, ?_, trivial⟩
    unfold m_spec_l1New_L1
    by_cases h4 : code.length < 4000
    · rw [decide_eq_false (by simp only; omega)]
      rfl
    · rw [decide_eq_false (show ¬ (hh, ((min code.length 4000 : Nat) : Int)).2 < 4000 by simp only; omega)]
      cases decide ((hh, ((min code.length 4000 : Nat) : Int)).2 < (code.length : Int)) <;> rfl)
  unfold m_spec_l1New
  rw [hr]
  exact ⟨_, rfl, h, Int.le_refl _, by simp⟩
theorem byte_ex {c : Tl1Cur} (h : CO c) : Ex (m_spec_l1Byte c) fun r => CO r.2 ∧ 0 ≤ r.1 ∧ r.1 ≤ 255 := by
  have hb := h.b
  have h0 := h.i0
  have h1 := h.i1
  unfold m_spec_l1Byte
  refine Ex.bind (Q := fun j => 0 ≤ j.1 ∧ j.1 ≤ 255 ∧ 0 ≤ j.2 ∧ j.2 ≤ 1048576) (Ex.bif (fun hd => ?_) (fun hd => ?_)) fun j hj => ?_
  · rw [decide_eq_true_eq] at hd
    refine Ex.idx h0 hd fun v _ => Ex.ret ?_
    have := and255 (w64 ((bits .and .i64 (bits .xor .i64 (shrI (w64 ((w64 (c.h * 6364136223846793005)) + 1442695040888963407)) 33) (shrI (w64 ((w64 (c.h * 6364136223846793005)) + 1442695040888963407)) 45)) 255) + (w64 v)))
    refine ⟨this.1, this.2, ?_, ?_⟩
    · simp only
      rw [w64_small (by omega) (by omega)]
      omega
    · simp only
      rw [w64_small (by omega) (by omega)]
      omega
  · have := and255 (bits .xor .i64 (shrI (w64 ((w64 (c.h * 6364136223846793005)) + 1442695040888963407)) 33) (shrI (w64 ((w64 (c.h * 6364136223846793005)) + 1442695040888963407)) 45))
    exact Ex.ret ⟨this.1, this.2, h0, h1⟩
  · exact Ex.ret ⟨⟨hb, hj.2.2.1, hj.2.2.2⟩, hj.1, hj.2.1⟩
theorem tmod_rng {x n : Int} (hx : 0 ≤ x) (hn : 0 < n) : 0 ≤ Int.tmod x n ∧ Int.tmod x n < n := ⟨Int.tmod_nonneg _ hx, Int.tmod_lt_of_pos _ hn⟩
theorem below_ex0 {c : Tl1Cur} (h : CO c) (n : Int) : Ex (m_spec_l1Below c n) fun r => CO r.2 ∧ 0 ≤ r.1 ∧ (0 < n → r.1 < n) ∧ (n ≤ 0 → r.1 = 0) := by
  unfold m_spec_l1Below
  refine Ex.bif (fun hd => Ex.ret ⟨h, Int.le_refl _, fun hn => ?_, fun _ => rfl⟩) (fun hd => ?_)
  · rw [decide_eq_true_eq] at hd
    omega
  · rw [decide_eq_false_iff_not] at hd
    refine Ex.bif (fun _ => ?_) (fun _ => ?_)
    · refine (byte_ex h).bind fun r hr => Ex.nz (by omega) (Ex.ret ⟨hr.1, ?_, fun hn => ?_, fun hn => absurd hn hd⟩)
      · exact (tmod_rng hr.2.1 (by omega)).1
      · exact (tmod_rng hr.2.1 hn).2
    · refine (byte_ex h).bind fun r1 h1 => (byte_ex h1.1).bind fun r2 h2 => (byte_ex h2.1).bind fun r3 h3 => (byte_ex h3.1).bind fun r4 h4 => Ex.nz (by omega) (Ex.ret ?_)
      obtain ⟨_, a0, a1⟩ := h1
      obtain ⟨_, b0, b1⟩ := h2
      obtain ⟨_, c0, c1⟩ := h3
      obtain ⟨h5, d0, d1⟩ := h4
      have e : w64 (w64 (w64 (w64 (r1.1 * 16777216) + w64 (r2.1 * 65536)) + w64 (r3.1 * 256)) + r4.1) = r1.1 * 16777216 + r2.1 * 65536 + r3.1 * 256 + r4.1 := by
        rw [w64_small (n := r1.1 * 16777216) (by omega) (by omega), w64_small (n := r2.1 * 65536) (by omega) (by omega), w64_small (n := r3.1 * 256) (by omega) (by omega), w64_small (n := r1.1 * 16777216 + r2.1 * 65536) (by omega) (by omega), w64_small (n := r1.1 * 16777216 + r2.1 * 65536 + r3.1 * 256) (by omega) (by omega), w64_small (by omega) (by omega)]
      have := tmod_rng (x := r1.1 * 16777216 + r2.1 * 65536 + r3.1 * 256 + r4.1) (n := n) (by omega) (by omega)
      simp only [e]
      exact ⟨h5, this.1, fun _ => this.2, fun hn => absurd hn hd⟩
theorem below_ex {c : Tl1Cur} (h : CO c) (n : Int) : Ex (m_spec_l1Below c n) fun r => CO r.2 ∧ 0 ≤ r.1 ∧ (0 < n → r.1 < n) := (below_ex0 h n).mono fun r hr => ⟨hr.1, hr.2.1, hr.2.2.1⟩
theorem once_ex {c : Tl1Cur} (h : CO c) (n : Int) : Ex (m_spec_l1Once c n) fun r => CO r.2 := by
  unfold m_spec_l1Once
  exact (below_ex h n).bind fun r hr => Ex.ret hr.1
theorem pick_ex {c : Tl1Cur} (h : CO c) (l : List Int) (hl : 0 < l.length) : Ex (m_spec_l1PickInt c l) fun r => CO r.2 ∧ r.1 ∈ l := by
  unfold m_spec_l1PickInt
  refine (below_ex h _).bind fun r hr => Ex.idx hr.2.1 (hr.2.2 (by omega)) fun v hv => Ex.ret ⟨hr.1, hv⟩
def InR (P : Int) (x : TBar) : Prop := 0 ≤ x.A ∧ x.A < P ∧ 0 ≤ x.B ∧ x.B < P
structure GI (g : TGraph) : Prop where
  p0 : 0 ≤ g.Points
  p8 : g.Points ≤ 8
  len : g.Bars.length ≤ 100
  inr : ∀ x ∈ g.Bars, InR g.Points x
theorem simple_ex {c : Tl1Cur} (h : CO c) {n : Int} (n0 : 0 ≤ n) (n8 : n ≤ 8) (odd : Int) : Ex (m_spec_l2Simple c n odd) fun r => CO r.2 ∧ GI r.1 ∧ r.1.Points = n ∧ r.1.Bars.length ≤ 24 := by
  let J : Tl1Cur → List TBar → Prop := fun c l => CO c ∧ l.length ≤ 24 ∧ ∀ x ∈ l, InR n x
  have hin : ∀ (a : Nat) (s1 : Int × List Int × Int × Int × List TBar), s1.1 = (a : Int) → (a : Int) < n → J ⟨s1.2.1, s1.2.2.1, s1.2.2.2.1⟩ s1.2.2.2.2 →
      Ex (loopM (m_spec_l2Simple_L4 n odd s1) BIG ((w64 (s1.1 + 1)), s1.2.1, s1.2.2.1, s1.2.2.2.1, s1.2.2.2.2)) fun r => r.1 = (a : Int) ∧ J ⟨r.2.1, r.2.2.1, r.2.2.2.1⟩ r.2.2.2.2 := by
    intro a s1 hs ha hJ
    refine loop_inv (fun k s => s.1 = ((a + 1 + k : Nat) : Int) ∧ J ⟨s.2.1, s.2.2.1, s.2.2.2.1⟩ s.2.2.2.2) _ (n.toNat - (a + 1)) (by omega) ⟨by simp only; rw [hs, w64_succ (by omega)], hJ⟩ (fun k s hk hI => ?_) (fun s hI => ?_)
    · obtain ⟨i, b, ci, hh, l⟩ := s
      obtain ⟨rfl, hc, hl, hr⟩ := hI
      change l.length ≤ 24 at hl
      change ∀ x ∈ l, InR n x at hr
      obtain ⟨r, hr1, hr2⟩ := below_ex hc 10
      left
      unfold m_spec_l2Simple_L4
      rw [decide_eq_true (by simp only; omega), cond_true]
      simp only [hr1, Option.bind_some]
      have hnew : ∀ x ∈ l ++ [(⟨s1.1, ((a + 1 + k : Nat) : Int)⟩ : TBar)], InR n x := fun x hx => by
        rcases List.mem_append.1 hx with h1 | h1
        · exact hr x h1
        · rw [List.mem_singleton] at h1
          subst h1
          rw [hs]
          exact ⟨by simp only; omega, by simp only; omega, by simp only; omega, by simp only; omega⟩
      rw [lim_ok (show l.length + [(⟨s1.1, ((a + 1 + k : Nat) : Int)⟩ : TBar)].length ≤ 2147483648 by simp; omega), w64_succ (show a + 1 + k ≤ 1099511627776 by omega)]
      cases h1 : decide (r.1 < odd) with
      | false => exact ⟨_, rfl, rfl, hr2.1, hl, hr⟩
      | true =>
        simp only [cond_true, Option.bind_some]
        cases h2 : decide ((l.length : Int) < 24) with
        | false => exact ⟨_, rfl, rfl, hr2.1, hl, hr⟩
        | true =>
          rw [decide_eq_true_eq] at h2
          exact ⟨_, rfl, rfl, hr2.1, by simp; omega, hnew⟩
    · obtain ⟨i, b, ci, hh, l⟩ := s
      obtain ⟨rfl, hJ⟩ := hI
      refine ⟨(s1.1, b, ci, hh, l), ?_, hs, hJ⟩
      unfold m_spec_l2Simple_L4
      rw [decide_eq_false (by simp only; omega)]
      rfl
  unfold m_spec_l2Simple
  refine Ex.bind (Q := fun r => J ⟨r.1, r.2.1, r.2.2.1⟩ r.2.2.2) ?_ fun r hr => Ex.ret ⟨hr.1, ⟨n0, n8, Nat.le_trans hr.2.1 (by omega), hr.2.2⟩, rfl, hr.2.1⟩
  refine loop_inv (fun k s => s.1 = (k : Int) ∧ J ⟨s.2.1, s.2.2.1, s.2.2.2.1⟩ s.2.2.2.2) _ n.toNat (by omega) ⟨rfl, h, by simp, fun x hx => by cases hx⟩ (fun k s hk hI => ?_) (fun s hI => ?_)
  · obtain ⟨r, hr1, hr2, hr3⟩ := hin k s hI.1 (by omega) hI.2
    left
    unfold m_spec_l2Simple_L3
    rw [decide_eq_true (by rw [hI.1]; omega), cond_true, hr1]
    simp only [Option.bind_some]
    exact ⟨_, rfl, by simp only; rw [hr2, w64_succ (by omega)], hr3⟩
  · refine ⟨_, ?_, hI.2⟩
    unfold m_spec_l2Simple_L3
    rw [decide_eq_false (by rw [hI.1]; omega)]
    rfl
def addB (g : TGraph) (a b : Int) : TGraph := bif vG g && decide (0 ≤ a) && decide (0 ≤ b) && decide (a < g.Points) && decide (b < g.Points) && !(a == b) && decide (g.Bars.length < 24) then ⟨g.Points, insB (nrm a b) g.Bars⟩ else g
def addOk (g : TGraph) (a b : Int) : Bool := vG g && decide (0 ≤ a) && decide (0 ≤ b) && decide (a < g.Points) && decide (b < g.Points) && !(a == b) && decide (g.Bars.length < 24)
theorem addS_eq (g : TGraph) (h : g.Bars.length ≤ 1048576) (a b : Int) : m_spec_AddBar g a b = some (addB g a b, addOk g a b) := by
  unfold m_spec_AddBar addB addOk
  rw [isGraphS_eq g (by omega), l2Copy_eq g (by omega), show TBar.mk (if b < a then b else a) (if a < b then b else a) = nrm a b from rfl, l2Put_eq g _ h]
  have e1 : ∀ x : Int, decide (x < 0) = !decide (0 ≤ x) := fun x => by rw [← decide_not, decide_eq_decide]; omega
  have e2 : ∀ x : Int, decide (g.Points ≤ x) = !decide (x < g.Points) := fun x => by rw [← decide_not, decide_eq_decide]; omega
  have e3 : decide (24 ≤ (g.Bars.length : Int)) = !decide (g.Bars.length < 24) := by rw [← decide_not, decide_eq_decide]; omega
  rw [e1 a, e1 b, e2 a, e2 b, e3]
  cases vG g
  · rfl
  · cases decide (0 ≤ a)
    · rfl
    · cases decide (0 ≤ b)
      · rfl
      · cases decide (a < g.Points)
        · rfl
        · cases decide (b < g.Points)
          · rfl
          · cases a == b
            · cases decide (g.Bars.length < 24) <;> rfl
            · rfl
theorem addB_pts (g : TGraph) (a b : Int) : (addB g a b).Points = g.Points := by
  unfold addB
  cases vG g && decide (0 ≤ a) && decide (0 ≤ b) && decide (a < g.Points) && decide (b < g.Points) && !(a == b) && decide (g.Bars.length < 24) <;> rfl
theorem addB_len (g : TGraph) (a b : Int) : (addB g a b).Bars.length ≤ g.Bars.length + 1 ∧ g.Bars.length ≤ (addB g a b).Bars.length := by
  unfold addB
  cases vG g && decide (0 ≤ a) && decide (0 ≤ b) && decide (a < g.Points) && decide (b < g.Points) && !(a == b) && decide (g.Bars.length < 24)
  · exact ⟨by simp, by simp⟩
  · simp only [cond_true, insB_len]
    omega
theorem addB_inr {g : TGraph} (h : ∀ x ∈ g.Bars, InR g.Points x) (a b : Int) : ∀ x ∈ (addB g a b).Bars, InR g.Points x := by
  unfold addB
  cases hb : vG g && decide (0 ≤ a) && decide (0 ≤ b) && decide (a < g.Points) && decide (b < g.Points) && !(a == b) && decide (g.Bars.length < 24)
  · exact h
  · simp only [Bool.and_eq_true, decide_eq_true_eq] at hb
    intro x hx
    rcases List.mem_cons.1 ((insB_perm _ _).mem_iff.1 hx) with rfl | h1
    · unfold nrm InR
      simp only
      refine ⟨?_, ?_, ?_, ?_⟩ <;> split <;> omega
    · exact h x h1
def Gs (g : TGraph) : Prop := g.Bars.length ≤ 200
theorem graph_ex {c : Tl1Cur} (h : CO c) : Ex (m_spec_l2Graph c) fun r => CO r.2 ∧ GI r.1 := by
  unfold m_spec_l2Graph
  refine (below_ex h 5).bind fun r1 h1 => (below_ex h1.1 4).bind fun r2 h2 => ?_
  have a1 := h1.2.2 (by omega)
  have a2 := h2.2.2 (by omega)
  have a3 := h1.2.1
  rw [w64_small (n := 2 + r1.1) (by omega) (by omega)]
  refine (simple_ex h2.1 (by omega) (by omega) _).bind fun r3 h3 => (below_ex h3.1 3).bind fun r4 h4 => (below_ex h4.1 2).bind fun r5 h5 => ?_
  have b1 := h4.2.2 (by omega)
  have b2 := h5.2.2 (by omega)
  have b3 := h4.2.1
  have b4 := h5.2.1
  have hm : 0 ≤ r4.1 * r5.1 ∧ r4.1 * r5.1 ≤ 2 := by
    have : r5.1 = 0 ∨ r5.1 = 1 := by omega
    rcases this with e | e <;> rw [e] <;> omega
  rw [w64_small (n := r4.1 * r5.1) (by omega) (by omega)]
  refine Ex.bind (Q := fun b => CO ⟨b.1, b.2.1, b.2.2.1⟩ ∧ GI ⟨b.2.2.2.2, b.2.2.2.1⟩) ?_ fun b hb => Ex.ret hb
  refine loop_inv (fun k s => s.1 = r4.1 * r5.1 - (k : Int) ∧ CO ⟨s.2.1, s.2.2.1, s.2.2.2.1⟩ ∧ s.2.2.2.2.1 = r3.1.Points ∧ s.2.2.2.2.2.length ≤ 24 + k ∧ ∀ x ∈ s.2.2.2.2.2, InR r3.1.Points x) _ (r4.1 * r5.1).toNat (by omega) ⟨by simp only; omega, h5.1, rfl, by have := h3.2.2.2; simp only; omega, h3.2.1.inr⟩ (fun k s hk hI => ?_) (fun s hI => ?_)
  · obtain ⟨n, b, i, hh, p, l⟩ := s
    obtain ⟨rfl, hc, rfl, hl, hin⟩ := hI
    obtain ⟨u, hu1, hu2⟩ := below_ex hc r3.1.Points
    obtain ⟨v, hv1, hv2⟩ := below_ex hu2.1 r3.1.Points
    have hal := addB_len ⟨r3.1.Points, l⟩ u.1 v.1
    have hai := addB_inr (g := ⟨r3.1.Points, l⟩) hin u.1 v.1
    left
    unfold m_spec_l2Graph_L1
    rw [decide_eq_true (by simp only; omega), cond_true]
    simp only [hu1, hv1, addS_eq ⟨r3.1.Points, l⟩ (show l.length ≤ 1048576 by simp only at hl; omega), Option.bind_some]
    refine ⟨_, rfl, ?_, hv2.1, addB_pts _ _ _, ?_, hai⟩
    · simp only
      rw [w64_small (by omega) (by omega)]
      omega
    · simp only at hl hal ⊢
      omega
  · obtain ⟨n, b, i, hh, p, l⟩ := s
    obtain ⟨rfl, hc, rfl, hl, hin⟩ := hI
    refine ⟨(b, i, hh, l, r3.1.Points), ?_, hc, h3.2.1.p0, h3.2.1.p8, ?_, hin⟩
    · unfold m_spec_l2Graph_L1
      rw [decide_eq_false (by simp only; omega)]
      rfl
    · simp only at hl ⊢
      omega
theorem any2_ex {c : Tl1Cur} (h : CO c) : Ex (m_spec_l2Any c) fun r => CO r.2 ∧ Gs r.1 := by
  unfold m_spec_l2Any
  refine (graph_ex h).bind fun r1 h1 => (below_ex h1.1 16).bind fun r2 h2 => ?_
  have hl := h1.2.len
  refine Ex.bind (Q := fun j => CO ⟨j.1, j.2.1, j.2.2.1⟩ ∧ j.2.2.2.2.length ≤ 200) ?_ fun j hj => Ex.ret ⟨hj.1, hj.2⟩
  refine Ex.bif (fun _ => ?_) (fun _ => Ex.bif (fun _ => ?_) (fun _ => ?_))
  · exact (pick_ex h2.1 _ (by simp)).bind fun r hr => Ex.ret ⟨hr.1, by simp only; omega⟩
  · refine (below_ex h2.1 3).bind fun r3 h3 => (below_ex h3.1 9).bind fun r4 h4 => Ex.lim (by simp; omega) (Ex.ret ⟨h4.1, by simp; omega⟩)
  · exact Ex.ret ⟨h2.1, by simp only; omega⟩
end Go.Proofs.YteognanhfpbghaaGreat
end
section
set_option linter.unusedVariables false
set_option linter.unusedSimpArgs false
set_option linter.unnecessarySimpa false
open Go Go.Fw
namespace Go.Proofs.YteognanhfpbghaaGreat
theorem Ex.if {α : Type} {b : Prop} [Decidable b] {x y : Option α} {Q : α → Prop} (h1 : b → Ex x Q) (h2 : ¬ b → Ex y Q) : Ex (if b then x else y) Q := by
  split
  · exact h1 ‹_›
  · exact h2 ‹_›
end Go.Proofs.YteognanhfpbghaaGreat
end
section
set_option linter.unusedVariables false
set_option linter.unusedSimpArgs false
set_option linter.unnecessarySimpa false
set_option maxRecDepth 100000
open Go Go.Fw
namespace Go.Proofs.YteognanhfpbghaaGreat
def ringLen (w : Option (TGraph × Bool)) : Bool := match w with | some w => Nat.ble w.1.Bars.length 8 | none => false
theorem ringLen_some {w : Option (TGraph × Bool)} (h : ringLen w = true) : ∃ v, w = some v ∧ v.1.Bars.length ≤ 8 := by
  cases w with
  | none => cases h
  | some v => exact ⟨v, rfl, Nat.le_of_ble_eq_true h⟩
theorem ring_same (n : Int) (h : 2 ≤ n) (h2 : n ≤ 8) : m_impl_RingOf n = m_spec_RingOf n ∧ ∃ w, m_spec_RingOf n = some w ∧ w.1.Bars.length ≤ 8 := by
  have : n = 2 ∨ n = 3 ∨ n = 4 ∨ n = 5 ∨ n = 6 ∨ n = 7 ∨ n = 8 := by omega
  rcases this with rfl | rfl | rfl | rfl | rfl | rfl | rfl <;> exact ⟨by kernel_rfl, ringLen_some (by kernel_rfl)⟩
theorem both_RingOf (n : Int) : ∃ w, m_spec_RingOf n = some w ∧ m_impl_RingOf n = some w ∧ SM w.1.Bars.length := by
  by_cases h : 2 ≤ n ∧ n ≤ 8
  · obtain ⟨h1, w, h2, h3⟩ := ring_same n h.1 h.2
    exact ⟨w, h2, h1.trans h2, by omega⟩
  · have hw : (decide (2 ≤ n) && decide (n ≤ 8)) = false := by
      rw [← Bool.not_eq_true]
      simp only [Bool.and_eq_true, decide_eq_true_eq]
      exact h
    refine ⟨(⟨0, []⟩, false), ?_, ?_, by simp⟩
    · unfold m_spec_RingOf
      rw [l1In_eq, hw]
      rfl
    · unfold m_impl_RingOf
      rw [within_eq, hw]
      rfl
end Go.Proofs.YteognanhfpbghaaGreat
end
section
set_option linter.unusedVariables false
set_option linter.unusedSimpArgs false
set_option linter.unnecessarySimpa false
open Go Go.Fw
namespace Go.Proofs.YteognanhfpbghaaGreat
def eqL {α : Type} (e : α → α → Bool) : List α → List α → Bool
  | [], [] => true
  | x :: a, y :: b => e x y && eqL e a b
  | _, _ => false
theorem eqL_iff {α : Type} {e : α → α → Bool} (he : ∀ x y, e x y = true ↔ x = y) : ∀ a b : List α, eqL e a b = true ↔ a = b
  | [], [] => by simp [eqL]
  | [], y :: b => by simp [eqL]
  | x :: a, [] => by simp [eqL]
  | x :: a, y :: b => by
    unfold eqL
    rw [Bool.and_eq_true, he, eqL_iff he a b, List.cons.injEq]
theorem eqL_range {α : Type} {e : α → α → Bool} : ∀ (a b : List α), a.length = b.length → (List.range' 0 a.length).any (fun k => match a[k]?, b[k]? with | some x, some y => !e x y | _, _ => false) = !eqL e a b
  | [], [], _ => rfl
  | [], y :: b, h => by simp at h
  | x :: a, [], h => by simp at h
  | x :: a, y :: b, h => by
    have ih := eqL_range (e := e) a b (by simpa using h)
    rw [List.length_cons, List.range'_succ, List.any_cons]
    unfold eqL
    rw [Bool.not_and, ← ih, List.range'_eq_map_range, List.range'_eq_map_range, List.any_map, List.any_map]
    congr 1
    congr 1
    funext k
    simp [Function.comp, Nat.add_comm]
theorem eqL_loop {α : Type} {b : Int → Option (Int ⊕ (Unit ⊕ Bool))} (e : α → α → Bool) (a c : List α) (ha : SM a.length) (hl : a.length = c.length) (h : ∀ (k : Nat) x y, k < a.length → a[k]? = some x → c[k]? = some y → b k = bif !e x y then some (.inr (.inr false)) else some (.inl (w64 ((k : Int) + 1)))) (hr : b a.length = some (.inr (.inl ()))) :
    ((loopM b BIG 0).bind (Sum.elim (fun _ => some true) (fun r => some r))) = some (eqL e a c) := by
  have h1 := any_loop0 (b := b) (fun k => match a[k]?, c[k]? with | some x, some y => !e x y | _, _ => false) false a.length (by omega) (fun k hk => by
    rw [h k a[k] (c[k]'(by omega)) hk (List.getElem?_eq_getElem hk) (List.getElem?_eq_getElem (by omega)), List.getElem?_eq_getElem hk, List.getElem?_eq_getElem (by omega)]) hr
  rw [h1, eqL_range a c hl]
  cases eqL e a c <;> rfl
theorem eqL_len {α : Type} {e : α → α → Bool} : ∀ {a b : List α}, eqL e a b = true → a.length = b.length
  | [], [], _ => rfl
  | [], y :: b, h => by simp [eqL] at h
  | x :: a, [], h => by simp [eqL] at h
  | x :: a, y :: b, h => by
    unfold eqL at h
    rw [Bool.and_eq_true] at h
    simp [eqL_len h.2]
def eBar (x y : TBar) : Bool := eqI [x.A, x.B] [y.A, y.B]
theorem eqI_two {a b c d : Int} : eqI [a, b] [c, d] = true ↔ a = c ∧ b = d := by
  rw [eqI_eq, decide_eq_true_eq]
  simp
theorem eBar_iff (x y : TBar) : eBar x y = true ↔ x = y := by
  unfold eBar
  rw [eqI_two]
  cases x; cases y
  simp
def eqG (a b : TGraph) : Bool := (a.Points == b.Points) && eqL eBar a.Bars b.Bars
theorem eqG_iff (a b : TGraph) : eqG a b = true ↔ a = b := by
  unfold eqG
  rw [Bool.and_eq_true, beq_iff_eq, eqL_iff eBar_iff]
  cases a; cases b
  simp
theorem bne_len {α : Type} {a b : List α} (h : ¬ a.length = b.length) : ((a.length : Int) != (b.length : Int)) = true := by simp; omega
theorem eqL_false {α : Type} {e : α → α → Bool} {a b : List α} (h : ¬ a.length = b.length) : eqL e a b = false := by
  rw [← Bool.not_eq_true]
  exact fun h2 => h (eqL_len h2)
theorem eqGS_eq (a b : TGraph) (ha : SM a.Bars.length) : m_spec_EqualGraphs a b = some (eqG a b) := by
  unfold m_spec_EqualGraphs eqG
  rw [show (a.Points != b.Points) = !(a.Points == b.Points) from rfl]
  cases a.Points == b.Points
  · rfl
  · simp only [Bool.not_true, cond_false, Option.bind_some, Bool.true_and]
    by_cases hl : a.Bars.length = b.Bars.length
    · rw [bne_int.2 (by rw [hl]), cond_false]
      refine eqL_loop eBar a.Bars b.Bars ha hl (fun k x y hk hx hy => ?_) (by simp [m_spec_EqualGraphs_L1])
      unfold m_spec_EqualGraphs_L1
      rw [decide_eq_true (by omega), cond_true, idx_of hx, idx_of hy, Option.bind_some, Option.bind_some]
      rfl
    · rw [bne_len hl, eqL_false hl]
      rfl
end Go.Proofs.YteognanhfpbghaaGreat
end
section
set_option linter.unusedVariables false
set_option linter.unusedSimpArgs false
set_option linter.unnecessarySimpa false
open Go Go.Fw
namespace Go.Proofs.YteognanhfpbghaaGreat
theorem sameInts_refl (l : List Int) (h : l.length ≤ 100000) : m_laws_sameInts l l = some true := by
  unfold m_laws_sameInts
  rw [bne_self_eq_false, cond_false]
  have := any_loop0 (b := m_laws_sameInts_L1 l l) (fun _ => false) false l.length (by omega) (fun k hk => by
    unfold m_laws_sameInts_L1
    rw [decide_eq_true (by omega), cond_true, idx_at hk, Option.bind_some, Option.bind_some, bne_self_eq_false]) (by simp [m_laws_sameInts_L1])
  rw [this, any_range_false.2 fun _ _ _ => rfl]
  rfl
theorem sameSets_refl (l : List (List Int)) (h : l.length ≤ 100000) (hr : ∀ r ∈ l, r.length ≤ 100000) : m_laws_sameSets l l = some true := by
  unfold m_laws_sameSets
  rw [bne_self_eq_false, cond_false]
  have := any_loop0 (b := m_laws_sameSets_L1 l l) (fun _ => false) false l.length (by omega) (fun k hk => by
    unfold m_laws_sameSets_L1
    rw [decide_eq_true (by omega), cond_true, idx_at hk, Option.bind_some, Option.bind_some, sameInts_refl _ (hr _ (List.getElem_mem hk))]
    rfl) (by simp [m_laws_sameSets_L1])
  rw [this, any_range_false.2 fun _ _ _ => rfl]
  rfl
end Go.Proofs.YteognanhfpbghaaGreat
end
section
set_option linter.unusedVariables false
set_option linter.unusedSimpArgs false
set_option linter.unnecessarySimpa false
open Go Go.Fw Go.Sp
namespace Go.Proofs.YteognanhfpbghaaGreat
theorem bodies18_ex {c : Tl1Cur} (h : CO c) : Ex (m_spec_l18Bodies c) fun r => CO r.2 ∧ r.1.Bars.length ≤ 300 := by
  unfold m_spec_l18Bodies
  refine Ex.bind (once_ex h 8) fun r1 h1 => Ex.bif (fun _ => ?_) (fun _ => ?_)
  · refine (any2_ex h1).bind fun r2 h2 => Ex.ret ⟨h2.1, ?_⟩
    have : r2.1.Bars.length ≤ 200 := h2.2
    simp only
    omega
  · refine (below_ex h1 4).bind fun r4 h4 => ?_
    have a4 := h4.2.2 (by omega)
    have b4 := h4.2.1
    have e4 : w64 (1 + r4.1) = 1 + r4.1 := w64_small (by omega) (by omega)
    have e5 : w64 (w64 (3 * w64 (1 + r4.1)) + 2) = 3 * (1 + r4.1) + 2 := by rw [e4, w64_small (n := 3 * (1 + r4.1)) (by omega) (by omega), w64_small (by omega) (by omega)]
    rw [e5, e4]
    refine (below_ex h4.1 _).bind fun r5 h5 => ?_
    have a5 := h5.2.2 (by omega)
    have b5 := h5.2.1
    refine Ex.bind (Q := fun b => CO ⟨b.1, b.2.1, b.2.2.1⟩ ∧ b.2.2.2.1.length ≤ 300) ?_ fun b hb => Ex.ret hb
    refine loop_inv (fun k s => s.1 = r5.1 - (k : Int) ∧ CO ⟨s.2.1, s.2.2.1, s.2.2.2.1⟩ ∧ s.2.2.2.2.2.length ≤ 100 + k) _ r5.1.toNat (by omega) ⟨by simp only; omega, h5.1, by simp⟩ (fun k s hk hI => ?_) (fun s hI => ?_)
    · obtain ⟨n, b, i, hh, p, l⟩ := s
      obtain ⟨hn, hc, hll⟩ := hI
      change n = r5.1 - (k : Int) at hn
      subst hn
      change l.length ≤ 100 + k at hll
      unfold m_spec_l18Bodies_L1
      rw [decide_eq_true (by simp only; omega), cond_true, e4]
      by_cases h14 : 1 < 1 + r4.1
      · have key : Ex ((m_spec_l1Below (Tl1Cur.mk b i hh) (1 + r4.1)).bind fun r28 => (m_spec_l1Below r28.2 (w64 (1 + r4.1 - 1))).bind fun r29 => (Fw.nz (1 + r4.1)).bind fun _ => (m_spec_l2Put (TGraph.mk p l) (TBar.mk (if (Int.tmod (w64 ((w64 (r28.1 + 1)) + r29.1)) (1 + r4.1)) < r28.1 then (Int.tmod (w64 ((w64 (r28.1 + 1)) + r29.1)) (1 + r4.1)) else r28.1) (if r28.1 < (Int.tmod (w64 ((w64 (r28.1 + 1)) + r29.1)) (1 + r4.1)) then (Int.tmod (w64 ((w64 (r28.1 + 1)) + r29.1)) (1 + r4.1)) else r28.1))).bind fun r31 =>
            (some (.inl (w64 (r5.1 - (k : Int) - 1), r29.2.b, r29.2.i, r29.2.h, r31.Points, r31.Bars)) : Option ((Int × (List Int) × Int × Int × Int × (List TBar)) ⊕ ((List Int) × Int × Int × (List TBar) × Int)))) fun r => ∃ t, r = .inl t ∧ t.1 = r5.1 - ((k + 1 : Nat) : Int) ∧ CO ⟨t.2.1, t.2.2.1, t.2.2.2.1⟩ ∧ t.2.2.2.2.2.length ≤ 100 + (k + 1) := by
          refine (below_ex hc _).bind fun u hu => (below_ex hu.1 _).bind fun v hv => Ex.nz (by omega) ?_
          rw [l2Put_eq ⟨p, l⟩ _ (show l.length ≤ _ by omega), Option.bind_some]
          refine Ex.ret ⟨_, rfl, ?_, hv.1, ?_⟩
          · simp only
            rw [w64_small (by omega) (by omega)]
            omega
          · simp only
            rw [insB_len]
            omega
        obtain ⟨r, e, t, rfl, ht⟩ := key
        rw [decide_eq_true h14]
        exact .inl ⟨t, e, ht⟩
      · rw [decide_eq_false h14]
        exact .inr ⟨(b, i, hh, l, p), rfl, hc, by simp only; omega⟩
    · obtain ⟨n, b, i, hh, p, l⟩ := s
      obtain ⟨hn, hc, hll⟩ := hI
      change n = r5.1 - ((r5.1.toNat : Nat) : Int) at hn
      change l.length ≤ _ at hll
      refine ⟨(b, i, hh, l, p), ?_, hc, by simp only; omega⟩
      unfold m_spec_l18Bodies_L1
      rw [decide_eq_false (by simp only; omega)]
      rfl
theorem drawBody_ex {code : List Int} (h : code.length ≤ 1048576) : Ex (m_spec_DrawBodyTrees code) fun g => g.Bars.length ≤ 300 := by
  unfold m_spec_DrawBodyTrees
  exact (new_ex h).bind fun c hc => (bodies18_ex hc).bind fun r hr => Ex.ret hr.2
theorem drawRing_ex {code : List Int} (h : code.length ≤ 1048576) : Ex (m_spec_DrawRingOf code) fun n => -1 ≤ n ∧ n ≤ 9 := by
  unfold m_spec_DrawRingOf
  refine (new_ex h).bind fun c hc => (below_ex hc 11).bind fun r hr => Ex.ret ?_
  have a := hr.2.2 (by omega)
  have b := hr.2.1
  rw [w64_small (by omega) (by omega)]
  omega
theorem drawHinge_ex {code : List Int} (h : code.length ≤ 1048576) : Ex (m_spec_DrawHingeGraph code) fun g => g.Bars.length ≤ 300 := by
  unfold m_spec_DrawHingeGraph
  refine (new_ex h).bind fun c hc => (any2_ex hc).bind fun r hr => Ex.ret ?_
  have : r.1.Bars.length ≤ 200 := hr.2
  omega
def ringT (n : Int) : Bool := match m_impl_RingOf n with
  | some w => !w.2 || (match m_impl_HingeFreedom w.1 with | some r => r == (if 0 < w64 (n - 3) then w64 (n - 3) else 0) | none => false)
  | none => false
theorem rings : ([-1, 0, 1, 2, 3, 4, 5, 6, 7, 8, 9].all ringT) = true := by decide +kernel
theorem ring_free {n : Int} (h0 : -1 ≤ n) (h9 : n ≤ 9) {w : TGraph × Bool} (hw : m_impl_RingOf n = some w) (h2 : w.2 = true) : m_impl_HingeFreedom w.1 = some (if 0 < w64 (n - 3) then w64 (n - 3) else 0) := by
  have h := rings
  rw [List.all_eq_true] at h
  have hm : n ∈ ([-1, 0, 1, 2, 3, 4, 5, 6, 7, 8, 9] : List Int) := by
    have : n = -1 ∨ n = 0 ∨ n = 1 ∨ n = 2 ∨ n = 3 ∨ n = 4 ∨ n = 5 ∨ n = 6 ∨ n = 7 ∨ n = 8 ∨ n = 9 := by omega
    rcases this with h | h | h | h | h | h | h | h | h | h | h <;> rw [h] <;> decide
  have h := h n hm
  unfold ringT at h
  rw [hw] at h
  simp only [h2, Bool.not_true, Bool.false_or] at h
  cases hf : m_impl_HingeFreedom w.1 with
  | none => rw [hf] at h; cases h
  | some r => rw [hf] at h; rw [beq_iff_eq.1 h]
theorem trees_loop {g : TGraph} {r5 : List (List Int) × Bool} (h3 : r5.1.length = 3) (hs : ∀ r ∈ r5.1, m_spec_IsSpanningTree g r = some true) : loopM (m_laws_FnBodies_L2 g r5) BIG 0 = some (.inl r5.1) := by
  refine loopM_run (fun k => (k : Int)) 3 (by omega) rfl (fun k hk => ?_) ?_
  · unfold m_laws_FnBodies_L2
    rw [decide_eq_true (by omega), cond_true]
    simp only [idx_at (show k < r5.1.length by omega), Option.bind_some, hs _ (List.getElem_mem (show k < r5.1.length by omega)), Bool.not_true, cond_false, w64_succ (show k ≤ 1099511627776 by omega)]
  · unfold m_laws_FnBodies_L2
    rw [decide_eq_false (by omega)]
    rfl
theorem law_FnBodies (code : List Int) : m_laws_FnBodies code = some true := by
  unfold m_laws_FnBodies m_laws_big
  rw [Option.bind_some]
  by_cases hbig : (1048576 : Int) < (code.length : Int)
  · rw [decide_eq_true hbig]
    rfl
  · rw [decide_eq_false hbig, cond_false]
    obtain ⟨g, hg, hgl⟩ := drawBody_ex (code := code) (by omega)
    obtain ⟨n, hn, n0, n9⟩ := drawRing_ex (code := code) (by omega)
    obtain ⟨q, hq, hql⟩ := drawHinge_ex (code := code) (by omega)
    have hs : SM g.Bars.length := by show _ ≤ _; omega
    obtain ⟨w, ws, wi, wl⟩ := both_RingOf n
    have hring := fun h2 => ring_free n0 n9 wi h2
    obtain ⟨z, zs, zi⟩ := both_HingeFreedom q (by omega)
    have hrig : m_impl_IsBodyRigid g = some (bodyFr g == 0) := by unfold m_impl_IsBodyRigid; rw [bodyFrI_eq g hs]; rfl
    have trees : ∃ L : List (List Int), ∃ b : Bool, m_spec_BodyTrees g = some (L, b) ∧ m_impl_BodyTrees g = some (L, b) ∧ m_laws_sameSets L L = some true ∧ (bif bodyFr g == 0 then (b != decide (g.Points ≤ 4)) else (b != false)) = false ∧ (b = true → L.length = 3 ∧ ∀ r ∈ L, m_spec_IsSpanningTree g r = some true) := by
      by_cases hc : bodyFr g = 0 ∧ g.Points ≤ 4
      · obtain ⟨L, e1, e2, e3, e4, e5⟩ := body_facts (by omega) hc.1 hc.2
        refine ⟨L, true, e1, e2, sameSets_refl L (by omega) (fun r hr => by have := e4 r hr; omega), ?_, fun _ => ⟨e3, e5⟩⟩
        rw [hc.1, decide_eq_true hc.2]
        rfl
      · obtain ⟨e1, e2⟩ := body_none (g := g) (by omega) (by
          by_cases h0 : bodyFr g = 0
          · exact .inr (by have : ¬ g.Points ≤ 4 := fun h => hc ⟨h0, h⟩; omega)
          · exact .inl h0)
        refine ⟨[], false, e1, e2, sameSets_refl [] (by simp) (fun r hr => by cases hr), ?_, fun h => by cases h⟩
        by_cases h0 : bodyFr g = 0
        · rw [h0, decide_eq_false (fun h => hc ⟨h0, h⟩)]
          rfl
        · rw [beq_eq_false_iff_ne.2 h0]
          rfl
    obtain ⟨L, b, t1, t2, t3, t4, t5⟩ := trees
    have t4' : ((bif bodyFr g == 0 then some (b != decide (g.Points ≤ 4)) else some (b != false)) : Option Bool) = some false := by
      have e : ∀ c x y : Bool, ((bif c then some x else some y) : Option Bool) = some (bif c then x else y) := fun c x y => by cases c <;> rfl
      rw [e, t4]
    simp only [hg, Option.bind_some, t1, t2, bodyFrI_eq g hs, bodyFrS_eq g hs, bne_self_eq_false, cond_false, t3, Bool.not_true, bodyRankI_eq g hs, bodyRankS_eq g hs, hrig, t4']
    have loopP : ((bif b then (loopM (m_laws_FnBodies_L2 g (L, b)) BIG 0).bind (Sum.elim (fun b54 => (bif ((b54.length : Int) != 3) then some (.inr false) else some (.inl ()))) (fun r => some (.inr r))) else some (.inl ())) : Option (Unit ⊕ Bool)) = some (.inl ()) := by
      cases hb : b with
      | false => rfl
      | true =>
        obtain ⟨l3, l4⟩ := t5 hb
        rw [cond_true, trees_loop (r5 := (L, true)) l3 l4]
        simp only [Option.bind_some, Sum.elim_inl, l3]
        rfl
    rw [loopP]
    have hf : ((bif w.2 then (m_impl_HingeFreedom w.1).bind fun r73 => some (r73 != (if 0 < w64 (n - 3) then w64 (n - 3) else 0)) else some false) : Option Bool) = some false := by
      cases h2 : w.2 with
      | false => rfl
      | true => rw [cond_true, hring h2, Option.bind_some, bne_self_eq_false]
    simp only [Option.bind_some, Sum.elim_inl, hn, ws, wi, bne_self_eq_false, cond_false, eqGS_eq _ _ wl, (eqG_iff _ _).2 rfl, Bool.not_true, hf, hq, hingeI_eq q (by omega), hingeS_eq q (by omega), beq_self_eq_true, cond_true, eqGS_eq _ _ (hingeG_sm q (by omega)), zs, zi]
end Go.Proofs.YteognanhfpbghaaGreat
end
section
set_option linter.unusedVariables false
set_option linter.unusedSimpArgs false
set_option linter.unnecessarySimpa false
set_option maxRecDepth 100000
set_option maxHeartbeats 8000000
open Go Go.Fw
namespace Go.Proofs.YteognanhfpbghaaGreat
theorem Q {α : Type} {a : α} : a = a := rfl
theorem J : True := trivial
theorem K {n m : Nat} (h : n.ble m = true) : n ≤ m := Nat.le_of_ble_eq_true h
def gdv (ops : Array Oper) (σ : Slots) (o : Oper) : Option (Bool × Bool) := match o.guard with
  | none => none
  | some (j, want) => ((ops[j]?).bind (·.dst)).bind fun d => match lk σ d with
    | some (.s (.c (.pv (.sc (.bool c))))) => some (c, want)
    | some (.tup []) => some (!want, want)
    | _ => none
theorem gH {ops : Array Oper} {σ : Slots} {o : Oper} {c c0 want b : Bool} (hc : c = c0) (h : gdv ops σ o = some (c, want)) (hb : b = (c0 == want)) : GuardIs ops σ o b := by
  subst hc hb
  unfold gdv at h
  unfold GuardIs
  cases hg : o.guard with
  | none => rw [hg] at h; cases h
  | some p =>
    obtain ⟨j, wt⟩ := p
    rw [hg] at h
    dsimp only at h
    cases hd : (ops[j]?).bind (·.dst) with
    | none => rw [hd] at h; cases h
    | some d =>
      rw [hd] at h
      refine ⟨d, hd, ?_⟩
      simp only [Option.bind_some] at h
      split at h
      · rename_i cc hl; injection h with h; injection h with h1 h2; subst h1 h2; exact .inl ⟨cc, hl, rfl⟩
      · rename_i hl; injection h with h; injection h with h1 h2; subst h1 h2; exact .inr ⟨hl, by cases wt <;> rfl⟩
      · cases h
theorem poolN2 {P : Program} {C : Fw.Ctx} {σ : Slots} {mm : Mem} {α : Type} {enc : α → List PV} {n p c : Nat} {e e2 : TypeId} {els : List (List CV)} (hn : lk mm n = some (.row e els)) (he : els = List.replicate c [.pv (.sc nilV)]) (hd : (!Nat.beq n p && !C.pn.elem p) = true) :
    Ent P C σ mm (junkSl [p] σ) ((p, .pool e2 (rowsOf enc (List.replicate c ([] : List α)))) :: (n, .trow e p (lensOf (List.replicate c ([] : List α)))) :: junkM [p] mm) := Ent.poolN (by rw [hn, he]) hd
theorem gS {ops : Array Oper} {σ : Slots} {o : Oper} {c want b : Bool} (h : gdv ops σ o = some (c, want)) (hb : b = (c == want)) : GuardIs ops σ o b := gH rfl h hb
theorem z1 {α0 : Type} {a0 : α0} : a0 = a0 ∧ True := ⟨rfl, trivial⟩
theorem z2 {α0 α1 : Type} {a0 : α0} {a1 : α1} : a0 = a0 ∧ a1 = a1 ∧ True := ⟨rfl, rfl, trivial⟩
theorem y2 {α0 α1 : Type} {a0 : α0} {a1 : α1} : a0 = a0 ∧ a1 = a1 := ⟨rfl, rfl⟩
theorem z3 {α0 α1 α2 : Type} {a0 : α0} {a1 : α1} {a2 : α2} : a0 = a0 ∧ a1 = a1 ∧ a2 = a2 ∧ True := ⟨rfl, rfl, rfl, trivial⟩
theorem z4 {α0 α1 α2 α3 : Type} {a0 : α0} {a1 : α1} {a2 : α2} {a3 : α3} : a0 = a0 ∧ a1 = a1 ∧ a2 = a2 ∧ a3 = a3 ∧ True := ⟨rfl, rfl, rfl, rfl, trivial⟩
theorem z5 {α0 α1 α2 α3 α4 : Type} {a0 : α0} {a1 : α1} {a2 : α2} {a3 : α3} {a4 : α4} : a0 = a0 ∧ a1 = a1 ∧ a2 = a2 ∧ a3 = a3 ∧ a4 = a4 ∧ True := ⟨rfl, rfl, rfl, rfl, rfl, trivial⟩
theorem z6 {α0 α1 α2 α3 α4 α5 : Type} {a0 : α0} {a1 : α1} {a2 : α2} {a3 : α3} {a4 : α4} {a5 : α5} : a0 = a0 ∧ a1 = a1 ∧ a2 = a2 ∧ a3 = a3 ∧ a4 = a4 ∧ a5 = a5 ∧ True := ⟨rfl, rfl, rfl, rfl, rfl, rfl, trivial⟩
theorem z7 {α0 α1 α2 α3 α4 α5 α6 : Type} {a0 : α0} {a1 : α1} {a2 : α2} {a3 : α3} {a4 : α4} {a5 : α5} {a6 : α6} : a0 = a0 ∧ a1 = a1 ∧ a2 = a2 ∧ a3 = a3 ∧ a4 = a4 ∧ a5 = a5 ∧ a6 = a6 ∧ True := ⟨rfl, rfl, rfl, rfl, rfl, rfl, rfl, trivial⟩
theorem z8 {α0 α1 α2 α3 α4 α5 α6 α7 : Type} {a0 : α0} {a1 : α1} {a2 : α2} {a3 : α3} {a4 : α4} {a5 : α5} {a6 : α6} {a7 : α7} : a0 = a0 ∧ a1 = a1 ∧ a2 = a2 ∧ a3 = a3 ∧ a4 = a4 ∧ a5 = a5 ∧ a6 = a6 ∧ a7 = a7 ∧ True := ⟨rfl, rfl, rfl, rfl, rfl, rfl, rfl, rfl, trivial⟩
theorem z9 {α0 α1 α2 α3 α4 α5 α6 α7 α8 : Type} {a0 : α0} {a1 : α1} {a2 : α2} {a3 : α3} {a4 : α4} {a5 : α5} {a6 : α6} {a7 : α7} {a8 : α8} : a0 = a0 ∧ a1 = a1 ∧ a2 = a2 ∧ a3 = a3 ∧ a4 = a4 ∧ a5 = a5 ∧ a6 = a6 ∧ a7 = a7 ∧ a8 = a8 ∧ True := ⟨rfl, rfl, rfl, rfl, rfl, rfl, rfl, rfl, rfl, trivial⟩
theorem z10 {α0 α1 α2 α3 α4 α5 α6 α7 α8 α9 : Type} {a0 : α0} {a1 : α1} {a2 : α2} {a3 : α3} {a4 : α4} {a5 : α5} {a6 : α6} {a7 : α7} {a8 : α8} {a9 : α9} : a0 = a0 ∧ a1 = a1 ∧ a2 = a2 ∧ a3 = a3 ∧ a4 = a4 ∧ a5 = a5 ∧ a6 = a6 ∧ a7 = a7 ∧ a8 = a8 ∧ a9 = a9 ∧ True := ⟨rfl, rfl, rfl, rfl, rfl, rfl, rfl, rfl, rfl, rfl, trivial⟩
theorem z11 {α0 α1 α2 α3 α4 α5 α6 α7 α8 α9 α10 : Type} {a0 : α0} {a1 : α1} {a2 : α2} {a3 : α3} {a4 : α4} {a5 : α5} {a6 : α6} {a7 : α7} {a8 : α8} {a9 : α9} {a10 : α10} : a0 = a0 ∧ a1 = a1 ∧ a2 = a2 ∧ a3 = a3 ∧ a4 = a4 ∧ a5 = a5 ∧ a6 = a6 ∧ a7 = a7 ∧ a8 = a8 ∧ a9 = a9 ∧ a10 = a10 ∧ True := ⟨rfl, rfl, rfl, rfl, rfl, rfl, rfl, rfl, rfl, rfl, rfl, trivial⟩
theorem z12 {α0 α1 α2 α3 α4 α5 α6 α7 α8 α9 α10 α11 : Type} {a0 : α0} {a1 : α1} {a2 : α2} {a3 : α3} {a4 : α4} {a5 : α5} {a6 : α6} {a7 : α7} {a8 : α8} {a9 : α9} {a10 : α10} {a11 : α11} : a0 = a0 ∧ a1 = a1 ∧ a2 = a2 ∧ a3 = a3 ∧ a4 = a4 ∧ a5 = a5 ∧ a6 = a6 ∧ a7 = a7 ∧ a8 = a8 ∧ a9 = a9 ∧ a10 = a10 ∧ a11 = a11 ∧ True := ⟨rfl, rfl, rfl, rfl, rfl, rfl, rfl, rfl, rfl, rfl, rfl, rfl, trivial⟩
theorem z13 {α0 α1 α2 α3 α4 α5 α6 α7 α8 α9 α10 α11 α12 : Type} {a0 : α0} {a1 : α1} {a2 : α2} {a3 : α3} {a4 : α4} {a5 : α5} {a6 : α6} {a7 : α7} {a8 : α8} {a9 : α9} {a10 : α10} {a11 : α11} {a12 : α12} : a0 = a0 ∧ a1 = a1 ∧ a2 = a2 ∧ a3 = a3 ∧ a4 = a4 ∧ a5 = a5 ∧ a6 = a6 ∧ a7 = a7 ∧ a8 = a8 ∧ a9 = a9 ∧ a10 = a10 ∧ a11 = a11 ∧ a12 = a12 ∧ True := ⟨rfl, rfl, rfl, rfl, rfl, rfl, rfl, rfl, rfl, rfl, rfl, rfl, rfl, trivial⟩
theorem ag22 : agB Tryz.prog 22 = some false := by kernel_rfl
theorem ag24 : agB Tryz.prog 24 = some false := by kernel_rfl
theorem ag26 : agB Tryz.prog 26 = some true := by kernel_rfl
theorem ag28 : agB Tryz.prog 28 = some false := by kernel_rfl
theorem ag3 : agB Tryz.prog 3 = some false := by kernel_rfl
theorem ag4 : agB Tryz.prog 4 = some false := by kernel_rfl
theorem ag40 : agB Tryz.prog 40 = some true := by kernel_rfl
theorem ag44 : agB Tryz.prog 44 = some false := by kernel_rfl
theorem ag5 : agB Tryz.prog 5 = some false := by kernel_rfl
theorem ag74 : agB Tryz.prog 74 = some false := by kernel_rfl
theorem ag78 : agB Tryz.prog 78 = some true := by kernel_rfl
theorem ag85 : agB Tryz.prog 85 = some false := by kernel_rfl
theorem cb100 : callB Tryz.prog 100 = true := by kernel_rfl
theorem cb101 : callB Tryz.prog 101 = true := by kernel_rfl
theorem cb102 : callB Tryz.prog 102 = true := by kernel_rfl
theorem cb103 : callB Tryz.prog 103 = true := by kernel_rfl
theorem cb104 : callB Tryz.prog 104 = true := by kernel_rfl
theorem cb105 : callB Tryz.prog 105 = true := by kernel_rfl
theorem cb106 : callB Tryz.prog 106 = true := by kernel_rfl
theorem cb109 : callB Tryz.prog 109 = true := by kernel_rfl
theorem cb110 : callB Tryz.prog 110 = true := by kernel_rfl
theorem cb111 : callB Tryz.prog 111 = true := by kernel_rfl
theorem cb112 : callB Tryz.prog 112 = true := by kernel_rfl
theorem cb113 : callB Tryz.prog 113 = true := by kernel_rfl
theorem cb114 : callB Tryz.prog 114 = true := by kernel_rfl
theorem cb115 : callB Tryz.prog 115 = true := by kernel_rfl
theorem cb116 : callB Tryz.prog 116 = true := by kernel_rfl
theorem cb117 : callB Tryz.prog 117 = true := by kernel_rfl
theorem cb118 : callB Tryz.prog 118 = true := by kernel_rfl
theorem cb119 : callB Tryz.prog 119 = true := by kernel_rfl
theorem cb120 : callB Tryz.prog 120 = true := by kernel_rfl
theorem cb121 : callB Tryz.prog 121 = true := by kernel_rfl
theorem cb129 : callB Tryz.prog 129 = true := by kernel_rfl
theorem cb130 : callB Tryz.prog 130 = true := by kernel_rfl
theorem cb131 : callB Tryz.prog 131 = true := by kernel_rfl
theorem cb132 : callB Tryz.prog 132 = true := by kernel_rfl
theorem cb133 : callB Tryz.prog 133 = true := by kernel_rfl
theorem cb134 : callB Tryz.prog 134 = true := by kernel_rfl
theorem cb135 : callB Tryz.prog 135 = true := by kernel_rfl
theorem cb136 : callB Tryz.prog 136 = true := by kernel_rfl
theorem cb137 : callB Tryz.prog 137 = true := by kernel_rfl
theorem cb14 : callB Tryz.prog 14 = true := by kernel_rfl
theorem cb142 : callB Tryz.prog 142 = true := by kernel_rfl
theorem cb143 : callB Tryz.prog 143 = true := by kernel_rfl
theorem cb144 : callB Tryz.prog 144 = true := by kernel_rfl
theorem cb145 : callB Tryz.prog 145 = true := by kernel_rfl
theorem cb146 : callB Tryz.prog 146 = true := by kernel_rfl
theorem cb147 : callB Tryz.prog 147 = true := by kernel_rfl
theorem cb148 : callB Tryz.prog 148 = true := by kernel_rfl
theorem cb150 : callB Tryz.prog 150 = true := by kernel_rfl
theorem cb151 : callB Tryz.prog 151 = true := by kernel_rfl
theorem cb21 : callB Tryz.prog 21 = true := by kernel_rfl
theorem cb28 : callB Tryz.prog 28 = true := by kernel_rfl
theorem cb29 : callB Tryz.prog 29 = true := by kernel_rfl
theorem cb30 : callB Tryz.prog 30 = true := by kernel_rfl
theorem cb31 : callB Tryz.prog 31 = true := by kernel_rfl
theorem cb32 : callB Tryz.prog 32 = true := by kernel_rfl
theorem cb33 : callB Tryz.prog 33 = true := by kernel_rfl
theorem cb34 : callB Tryz.prog 34 = true := by kernel_rfl
theorem cb35 : callB Tryz.prog 35 = true := by kernel_rfl
theorem cb36 : callB Tryz.prog 36 = true := by kernel_rfl
theorem cb37 : callB Tryz.prog 37 = true := by kernel_rfl
theorem cb38 : callB Tryz.prog 38 = true := by kernel_rfl
theorem cb39 : callB Tryz.prog 39 = true := by kernel_rfl
theorem cb40 : callB Tryz.prog 40 = true := by kernel_rfl
theorem cb41 : callB Tryz.prog 41 = true := by kernel_rfl
theorem cb42 : callB Tryz.prog 42 = true := by kernel_rfl
theorem cb43 : callB Tryz.prog 43 = true := by kernel_rfl
theorem cb44 : callB Tryz.prog 44 = true := by kernel_rfl
theorem cb45 : callB Tryz.prog 45 = true := by kernel_rfl
theorem cb46 : callB Tryz.prog 46 = true := by kernel_rfl
theorem cb48 : callB Tryz.prog 48 = true := by kernel_rfl
theorem cb49 : callB Tryz.prog 49 = true := by kernel_rfl
theorem cb5 : callB Tryz.prog 5 = true := by kernel_rfl
theorem cb50 : callB Tryz.prog 50 = true := by kernel_rfl
theorem cb53 : callB Tryz.prog 53 = true := by kernel_rfl
theorem cb55 : callB Tryz.prog 55 = true := by kernel_rfl
theorem cb56 : callB Tryz.prog 56 = true := by kernel_rfl
theorem cb57 : callB Tryz.prog 57 = true := by kernel_rfl
theorem cb59 : callB Tryz.prog 59 = true := by kernel_rfl
theorem cb61 : callB Tryz.prog 61 = true := by kernel_rfl
theorem cb62 : callB Tryz.prog 62 = true := by kernel_rfl
theorem cb64 : callB Tryz.prog 64 = true := by kernel_rfl
theorem cb65 : callB Tryz.prog 65 = true := by kernel_rfl
theorem cb67 : callB Tryz.prog 67 = true := by kernel_rfl
theorem cb68 : callB Tryz.prog 68 = true := by kernel_rfl
theorem cb69 : callB Tryz.prog 69 = true := by kernel_rfl
theorem cb72 : callB Tryz.prog 72 = true := by kernel_rfl
theorem cb73 : callB Tryz.prog 73 = true := by kernel_rfl
theorem cb74 : callB Tryz.prog 74 = true := by kernel_rfl
theorem cb75 : callB Tryz.prog 75 = true := by kernel_rfl
theorem cb76 : callB Tryz.prog 76 = true := by kernel_rfl
theorem cb77 : callB Tryz.prog 77 = true := by kernel_rfl
theorem cb78 : callB Tryz.prog 78 = true := by kernel_rfl
theorem cb79 : callB Tryz.prog 79 = true := by kernel_rfl
theorem cb80 : callB Tryz.prog 80 = true := by kernel_rfl
theorem cb81 : callB Tryz.prog 81 = true := by kernel_rfl
theorem cb82 : callB Tryz.prog 82 = true := by kernel_rfl
theorem cb83 : callB Tryz.prog 83 = true := by kernel_rfl
theorem cb89 : callB Tryz.prog 89 = true := by kernel_rfl
theorem cb9 : callB Tryz.prog 9 = true := by kernel_rfl
theorem cb91 : callB Tryz.prog 91 = true := by kernel_rfl
theorem cb92 : callB Tryz.prog 92 = true := by kernel_rfl
theorem cb93 : callB Tryz.prog 93 = true := by kernel_rfl
theorem cb94 : callB Tryz.prog 94 = true := by kernel_rfl
theorem cb95 : callB Tryz.prog 95 = true := by kernel_rfl
theorem cb96 : callB Tryz.prog 96 = true := by kernel_rfl
theorem cb97 : callB Tryz.prog 97 = true := by kernel_rfl
theorem cb98 : callB Tryz.prog 98 = true := by kernel_rfl
theorem cb99 : callB Tryz.prog 99 = true := by kernel_rfl
theorem el127 : elB Tryz.prog 127 = some 4 := by kernel_rfl
theorem el22 : elB Tryz.prog 22 = some 5 := by kernel_rfl
theorem el24 : elB Tryz.prog 24 = some 40 := by kernel_rfl
theorem el28 : elB Tryz.prog 28 = some 3 := by kernel_rfl
theorem el44 : elB Tryz.prog 44 = some 28 := by kernel_rfl
theorem el85 : elB Tryz.prog 85 = some 24 := by kernel_rfl
theorem fo26_0 : foB Tryz.prog 26 0 = some 0 := by kernel_rfl
theorem fo26_1 : foB Tryz.prog 26 1 = some 1 := by kernel_rfl
theorem fo40_0 : foB Tryz.prog 40 0 = some 0 := by kernel_rfl
theorem fo40_1 : foB Tryz.prog 40 1 = some 1 := by kernel_rfl
theorem fo69_0 : foB Tryz.prog 69 0 = some 0 := by kernel_rfl
theorem fo69_1 : foB Tryz.prog 69 1 = some 1 := by kernel_rfl
theorem fo69_2 : foB Tryz.prog 69 2 = some 2 := by kernel_rfl
theorem fo78_0 : foB Tryz.prog 78 0 = some 0 := by kernel_rfl
theorem fo78_1 : foB Tryz.prog 78 1 = some 1 := by kernel_rfl
theorem fo78_2 : foB Tryz.prog 78 2 = some 2 := by kernel_rfl
theorem inf24 : (Tryz.prog.info? 24).isSome = true := by kernel_rfl
theorem inf26 : (Tryz.prog.info? 26).isSome = true := by kernel_rfl
theorem inf28 : (Tryz.prog.info? 28).isSome = true := by kernel_rfl
theorem inf3 : (Tryz.prog.info? 3).isSome = true := by kernel_rfl
theorem inf4 : (Tryz.prog.info? 4).isSome = true := by kernel_rfl
theorem inf40 : (Tryz.prog.info? 40).isSome = true := by kernel_rfl
theorem inf44 : (Tryz.prog.info? 44).isSome = true := by kernel_rfl
theorem inf74 : (Tryz.prog.info? 74).isSome = true := by kernel_rfl
theorem inf78 : (Tryz.prog.info? 78).isSome = true := by kernel_rfl
theorem inf85 : (Tryz.prog.info? 85).isSome = true := by kernel_rfl
theorem ist40 : istB Tryz.prog 40 = some 2 := by kernel_rfl
theorem map137 : mapB Tryz.prog 137 = some (3, 3) := by kernel_rfl
theorem mixed : Tryz.prog.follows .mixedOrders = true := by kernel_rfl
theorem pl26 : plB Tryz.prog 26 = some [(0, 1), (1, 1)] := by kernel_rfl
theorem pl40 : plB Tryz.prog 40 = some [(0, 1), (1, 1)] := by kernel_rfl
theorem pl69 : plB Tryz.prog 69 = some [(0, 1), (1, 1), (2, 1)] := by kernel_rfl
theorem pl78 : plB Tryz.prog 78 = some [(0, 1), (1, 1), (2, 1)] := by kernel_rfl
theorem sz24 : szP Tryz.prog 24 = 1 := by kernel_rfl
theorem sz26 : szP Tryz.prog 26 = 2 := by kernel_rfl
theorem sz28 : szP Tryz.prog 28 = 1 := by kernel_rfl
theorem sz3 : szP Tryz.prog 3 = 1 := by kernel_rfl
theorem sz4 : szP Tryz.prog 4 = 1 := by kernel_rfl
theorem sz40 : szP Tryz.prog 40 = 2 := by kernel_rfl
theorem sz44 : szP Tryz.prog 44 = 1 := by kernel_rfl
theorem sz5 : szP Tryz.prog 5 = 1 := by kernel_rfl
theorem sz69 : szP Tryz.prog 69 = 3 := by kernel_rfl
theorem sz74 : szP Tryz.prog 74 = 1 := by kernel_rfl
theorem sz78 : szP Tryz.prog 78 = 3 := by kernel_rfl
theorem sz85 : szP Tryz.prog 85 = 1 := by kernel_rfl
theorem ti24 : TI Tryz.prog 24 (.slice none 0 0) 1 24 := by unfold TI; kernel_rfl
theorem ti26 : TI Tryz.prog 26 (.agg #[(.int .i64 0), (.slice none 0 0)]) 2 32 := by unfold TI; kernel_rfl
theorem ti28 : TI Tryz.prog 28 (.slice none 0 0) 1 24 := by unfold TI; kernel_rfl
theorem ti3 : TI Tryz.prog 3 (.int .i64 0) 1 8 := by unfold TI; kernel_rfl
theorem ti4 : TI Tryz.prog 4 (.bool false) 1 1 := by unfold TI; kernel_rfl
theorem ti40 : TI Tryz.prog 40 (.agg #[(.int .i64 0), (.int .i64 0)]) 2 16 := by unfold TI; kernel_rfl
theorem ti44 : TI Tryz.prog 44 (.slice none 0 0) 1 24 := by unfold TI; kernel_rfl
theorem ti69 : TI Tryz.prog 69 (.agg #[(.slice none 0 0), (.int .i64 0), (.int .i64 0)]) 3 40 := by unfold TI; kernel_rfl
theorem ti74 : TI Tryz.prog 74 .nilFunc 1 8 := by unfold TI; kernel_rfl
theorem ti78 : TI Tryz.prog 78 (.agg #[(.slice none 0 0), (.slice none 0 0), (.slice none 0 0)]) 3 72 := by unfold TI; kernel_rfl
theorem ti85 : TI Tryz.prog 85 (.slice none 0 0) 1 24 := by unfold TI; kernel_rfl
theorem und127 : Tryz.prog.underlying 127 = some (.slice 4) := by kernel_rfl
theorem und22 : Tryz.prog.underlying 22 = some (.slice 5) := by kernel_rfl
theorem und24 : Tryz.prog.underlying 24 = some (.slice 40) := by kernel_rfl
theorem und28 : Tryz.prog.underlying 28 = some (.slice 3) := by kernel_rfl
theorem und3 : Tryz.prog.underlying 3 = some (.int .i64) := by kernel_rfl
theorem und4 : Tryz.prog.underlying 4 = some .bool := by kernel_rfl
theorem und44 : Tryz.prog.underlying 44 = some (.slice 28) := by kernel_rfl
theorem und5 : Tryz.prog.underlying 5 = some (.int .u8) := by kernel_rfl
theorem und85 : Tryz.prog.underlying 85 = some (.slice 24) := by kernel_rfl
theorem und9 : Tryz.prog.underlying 9 = some .string := by kernel_rfl
theorem und95 : Tryz.prog.underlying 95 = some (.int .u64) := by kernel_rfl
theorem undS113 : (Tryz.prog.underlying 113).isSome = true := by kernel_rfl
theorem undS3 : (Tryz.prog.underlying 3).isSome = true := by kernel_rfl
theorem undS5 : (Tryz.prog.underlying 5).isSome = true := by kernel_rfl
end Go.Proofs.YteognanhfpbghaaGreat
end
section
set_option linter.unusedVariables false
set_option linter.unusedSimpArgs false
set_option linter.unnecessarySimpa false
set_option maxRecDepth 100000
set_option maxHeartbeats 8000000
open Go Go.Fw
namespace Go.Proofs.YteognanhfpbghaaGreat
theorem w_laws_big (code : (List Int)) : ∀ t,m_laws_big code = some t → Fw.Fn Tryz.prog 5 [(.c (xF encInt_u8 code))] [] (.s (.c (bC t))) [] [] [] := by
 refine Fw.Fn.of (P := Tryz.prog) (X := []) (pn := []) (rs := (fun (t : Bool) => [(.c (bC t))])) (dfs := (fun (t : Bool) => [])) Tryz.func5 Q Tryz.ntmps5 (K Q) Q ?_
 intro w0 U0 R0 g0
 unfold m_laws_big
 refine Ws (Wr ?_)
 refine asg (Bv false) Q y2 Q Q (On (Ws (Wr ?_)))
 refine mv (Cc (xF encInt_u8 code)) Q Q Q Q (Op10 (LT.tlenRO Q und22) Q Q Q (Op20 (LT.gtr Q) Q y2 Q Q (asg (Bv (decide (1048576 < (code.length : Int)))) Q Q Q Q (On (AWR.ret (FPost.mk (.inr Q) z1 J Q ⟨PermP.sc,J⟩ J))))))
theorem w_spec_l1New (code : (List Int)) : ∀ t,m_spec_l1New code = some t → Fw.Fn Tryz.prog 48 [(.c (xT encInt_u8 code))] [] (.s (.c (.pl 0 0))) [(0,(.row 69 [[(xT encInt_u8 t.b),(iC t.i),(iC t.h)]]))] [] [0] := by
 refine Fw.Fn.of (P := Tryz.prog) (X := [0]) (pn := []) (rs := (fun (t : Tl1Cur) => [(.c (.pl 0 0))])) (dfs := (fun (t : Tl1Cur) => [(0,(.row 69 [[(xT encInt_u8 t.b),(iC t.i),(iC t.h)]]))])) Tryz.func48 Q Tryz.ntmps48 (K Q) Q ?_
 intro w0 U0 R0 g0
 unfold m_spec_l1New
 refine Ws (Wr ?_)
 refine asg (Cc (sC (.pointer none))) Q y2 Q Q (On (Ws (Wr ?_)))
 refine mv (Cc (xT encInt_u8 code)) Q Q Q Q (Op10 (LT.tlenRO Q und22) Q Q Q (Op20 (LT.add Q) y2 Q Q Q (asg (Iv (w64 (10101 + (code.length : Int)))) Q Q Q Q (On (Ws (Ws (Wr ?_)))))))
 refine asg (Iv 0) Q y2 Q Q (On (AWR.block ?_))
 refine AWR.loop1 (id := 0) (m_spec_l1New_L1 code) (fun s1 => ([(0,(Cc (xT encInt_u8 code))),(3,(Iv s1.1)),(4,(Iv s1.2))],[])) (fun b12 => ([(0,(Cc (xT encInt_u8 code))),(3,(Iv b12))],[])) ?_ (Ent.of z3 J) Q (fun b12 _ => ?_)
 ·intro s1
  unfold m_spec_l1New_L1
  refine Ws (Ws ?_)
  refine AWR.joinK (fun j14 => ([(0,(Cc (xT encInt_u8 code))),(3,(Iv s1.1)),(4,(Iv s1.2)),(15,(Bv j14))],[])) ?_ (fun j14 _ => ?_)
  ·refine Wr (mv (Iv s1.2) Q Q Q Q (mv (Cc (xT encInt_u8 code)) Q Q Q Q (Op10 (LT.tlenRO Q und22) Q Q Q (Op20 (LT.lss Q) Q Q Q Q (mv (Bv (decide (s1.2 < (code.length : Int)))) Q Q Q Q (AOR.split (fun hb15 => ?_) (fun hb15 => ?_)))))))
   ·refine mv (Iv s1.2) Q Q (gH hb15 Q Q) Q (Op20 (LT.lss Q) Q y2 (gH hb15 Q Q) Q (Op20 (LT.pickT (v := (Bv (decide (s1.2 < 4000)))) Q hb15) Q Q Q Q (On (AWR.nil ⟨Q,Ent.of z4 J⟩))))
   ·refine Ok Q Q Q (by rw [hb15]; rfl) Q (Ok Q Q Q (by rw [hb15]; rfl) Q (Op20 (LT.pickF (v := (Bv false)) Q hb15) Q y2 Q Q (On (AWR.nil ⟨Q,Ent.of z4 J⟩))))
  ·refine AWR.cond Q (fun hc16 => ?_) (fun hc16 => ?_)
   ·refine AWR.skip (Ws (AWR.block (Wr ?_)))
    refine mv (Iv s1.1) Q Q Q Q (Op20 (LT.mul Q) Q y2 Q Q (mv (Cc (xT encInt_u8 code)) Q Q Q Q (mv (Iv s1.2) Q Q Q Q (Ob' fun x17 hx17 => (Op20 (LT.tindexRO (enc := encInt_u8) Q el22 hx17 sz5) Q Q Q Q (Op10 (LT.loadPx1 Q ag5) Q Q Q (Op10 (LT.convInt Q undS5 und3) Q Q Q (Op20 (LT.add Q) Q Q Q Q (Op20 (LT.add Q) Q y2 Q Q (Op20 (LT.and Q) Q y2 Q Q (asg (Iv (bits .and .i64 (w64 ((w64 ((w64 (s1.1 * 131)) + (w64 x17))) + 7)) 1073741823)) Q Q Q Q ?_)))))))))))
    refine On (AWR.blk ?_)
    refine en [(0,(Cc (xT encInt_u8 code))),(3,(Iv (bits .and .i64 (w64 ((w64 ((w64 (s1.1 * 131)) + (w64 x17))) + 7)) 1073741823))),(4,(Iv s1.2))] [] z3 J (Wr (mv (Iv s1.2) Q Q Q Q (Op20 (LT.add Q) Q y2 Q Q (asg (Iv (w64 (s1.2 + 1))) Q Q Q Q (On (AWR.nil ⟨Q,Ent.of z3 J⟩))))))
   ·refine AWR.exit_end Q ⟨Q,Ent.of z2 J⟩
 ·refine Ws (Wr ?_)
  refine mv (Cc (xT encInt_u8 code)) Q Q Q Q (mv (Iv b12) Q Q Q Q (Op20 (LT.build [(0,.tmp 28,(.c (xT encInt_u8 code))),(2,.tmp 29,(.c (iC b12)))] Q Q pl69 ti69 Q Q Q) Q Q Q Q (Os10 (LT.box (n := 21) (v := (.agg [(xT encInt_u8 code),(iC 0),(iC b12)])) Q sz69 (by exact Q)) Q Q Q (asg (Cc (.pl 21 0)) Q Q Q Q (On (en [(2,(Cc (.pl 21 0)))] [(21,(.row 69 [[(xT encInt_u8 code),(iC 0),(iC b12)]]))] z1 z1 (AWR.ent (Ent.mv 21 0 Q Q) (en [(2,(Cc (.pl 0 0)))] [(0,(.row 69 [[(xT encInt_u8 code),(iC 0),(iC b12)]]))] z1 z1 (AWR.ret (FPost.mk (.inr Q) z1 z1 Q ⟨J,J⟩ ⟨PermO.row1 ⟨(permC_xs perm_encInt_u8),PermP.sc,PermP.sc,J⟩,J⟩))))))))))
theorem w_spec_l1Byte (c : Tl1Cur) : ∀ t,m_spec_l1Byte c = some t → Fw.Fn Tryz.prog 92 [(.c (.pl 0 0))] [(0,(.row 69 [[(xT encInt_u8 c.b),(iC c.i),(iC c.h)]]))] (.s (.c (iC t.1))) [(0,(.row 69 [[(xT encInt_u8 t.2.b),(iC t.2.i),(iC t.2.h)]]))] [0] [] := by
 refine Fw.Fn.of (P := Tryz.prog) (X := []) (pn := [0]) (rs := (fun (t : (Int × Tl1Cur)) => [(.c (iC t.1))])) (dfs := (fun (t : (Int × Tl1Cur)) => [(0,(.row 69 [[(xT encInt_u8 t.2.b),(iC t.2.i),(iC t.2.h)]]))])) Tryz.func92 Q Tryz.ntmps92 (K Q) Q ?_
 intro w0 U0 R0 g0
 unfold m_spec_l1Byte
 refine Ws (Wr ?_)
 refine asg (Iv 0) Q y2 Q Q (On (Ws (Wr ?_)))
 refine mv (Cc (.pl 0 0)) Q Q Q Q (mv (Cc (.pl 0 0)) Q Q Q Q (Op10 (LT.nilPl Q) Q Q Q (Op10 (LT.fieldPl Q fo69_2) Q Q Q (Op11 (LT.bload1 (c := (iC c.h)) Q ag3 (by exact Q)) Q Q Q Q (Op20 (LT.mul Q) Q y2 Q Q (Op20 (LT.add Q) Q y2 Q Q (Op10 (LT.nilPl Q) Q Q Q (Op10 (LT.fieldPl Q fo69_2) Q Q Q (Os21 (LT.bstore (v := (.c (iC (w64 ((w64 (c.h * 6364136223846793005)) + 1442695040888963407))))) (out := [(xT encInt_u8 c.b),(iC c.i),(iC (w64 ((w64 (c.h * 6364136223846793005)) + 1442695040888963407)))]) Q Q (infS inf3) sz3 (by exact Q) (by exact K Q) (by exact Q)) Q Q Q Q Q (On (Ws ?_)))))))))))
 refine en [(0,(Cc (.pl 0 0)))] [(0,(.row 69 [[(xT encInt_u8 c.b),(iC c.i),(iC (w64 ((w64 (c.h * 6364136223846793005)) + 1442695040888963407)))]]))] z1 z1 (AWR.draw mixed (Dp10 (LT.move (v := (Cc (.pl 0 0))) Q) Q Q Q (Dp10 (LT.nilPl Q) Q Q Q (Dp10 (LT.fieldPl Q fo69_2) Q Q Q (Dp11 (LT.bload1 (c := (iC (w64 ((w64 (c.h * 6364136223846793005)) + 1442695040888963407)))) Q ag3 (by exact Q)) Q Q Q Q (Dp20 (LT.shr Q (by decide)) Q y2 Q Q (Dp10 (LT.move (v := (Cc (.pl 0 0))) Q) Q Q Q (Dp10 (LT.nilPl Q) Q Q Q (Dp10 (LT.fieldPl Q fo69_2) Q Q Q (Dp11 (LT.bload1 (c := (iC (w64 ((w64 (c.h * 6364136223846793005)) + 1442695040888963407)))) Q ag3 (by exact Q)) Q Q Q Q (Dp20 (LT.shr Q (by decide)) Q y2 Q Q ?_)))))))))))
 refine Dp20 (LT.xor Q) Q Q Q Q (Dp20 (LT.and Q) Q y2 Q Q (Dp10 (LT.assign (v := (Iv (bits .and .i64 (bits .xor .i64 (shrI (w64 ((w64 (c.h * 6364136223846793005)) + 1442695040888963407)) 33) (shrI (w64 ((w64 (c.h * 6364136223846793005)) + 1442695040888963407)) 45)) 255))) Q) Q Q Q (AOD.nil (by kernel_rfl) (Ws (Ws ?_)))))
 refine en [(0,(Cc (.pl 0 0))),(3,(Iv (bits .and .i64 (bits .xor .i64 (shrI (w64 ((w64 (c.h * 6364136223846793005)) + 1442695040888963407)) 33) (shrI (w64 ((w64 (c.h * 6364136223846793005)) + 1442695040888963407)) 45)) 255)))] [(0,(.row 69 [[(xT encInt_u8 c.b),(iC c.i),(iC (w64 ((w64 (c.h * 6364136223846793005)) + 1442695040888963407)))]]))] z2 z1 (AWR.draw mixed (Dp10 (LT.move (v := (Cc (.pl 0 0))) Q) Q Q Q (Dp10 (LT.nilPl Q) Q Q Q (Dp10 (LT.fieldPl Q fo69_1) Q Q Q (Dp11 (LT.bload1 (c := (iC c.i)) Q ag3 (by exact Q)) Q Q Q Q (Dp10 (LT.move (v := (Cc (.pl 0 0))) Q) Q Q Q (Dp10 (LT.nilPl Q) Q Q Q (Dp10 (LT.fieldPl Q fo69_0) Q Q Q (Dp11 (LT.bload1 (c := (xT encInt_u8 c.b)) Q ag22 (by exact Q)) Q Q Q Q (Dp10 (LT.tlenRO Q und22) Q Q Q (Dp20 (LT.lss Q) Q Q Q Q ?_)))))))))))
 refine AOD.nil (by kernel_rfl) (AWR.joinK (fun j3 => ([(3,(Iv j3.1))],[(0,(.row 69 [[(xT encInt_u8 c.b),(iC j3.2),(iC (w64 ((w64 (c.h * 6364136223846793005)) + 1442695040888963407)))]]))])) ?_ (fun j3 _ => ?_))
 ·refine AWR.cond Q (fun hc4 => ?_) (fun hc4 => ?_)
  ·refine Ws (AWR.draw mixed ?_)
   refine Dp10 (LT.move (v := (Iv (bits .and .i64 (bits .xor .i64 (shrI (w64 ((w64 (c.h * 6364136223846793005)) + 1442695040888963407)) 33) (shrI (w64 ((w64 (c.h * 6364136223846793005)) + 1442695040888963407)) 45)) 255))) Q) Q Q Q (Dp10 (LT.move (v := (Cc (.pl 0 0))) Q) Q Q Q (Dp10 (LT.nilPl Q) Q Q Q (Dp10 (LT.fieldPl Q fo69_0) Q Q Q (Dp11 (LT.bload1 (c := (xT encInt_u8 c.b)) Q ag22 (by exact Q)) Q Q Q Q (Dp10 (LT.move (v := (Cc (.pl 0 0))) Q) Q Q Q (Dp10 (LT.nilPl Q) Q Q Q (Dp10 (LT.fieldPl Q fo69_1) Q Q Q (Dp11 (LT.bload1 (c := (iC c.i)) Q ag3 (by exact Q)) Q Q Q Q (AOD.bind fun x5 hx5 => (Dp20 (LT.tindexRO (enc := encInt_u8) Q el22 hx5 sz5) Q Q Q Q (Dp10 (LT.loadPx1 Q ag5) Q Q Q ?_)))))))))))
   refine Dp10 (LT.convInt Q undS5 und3) Q Q Q (Dp20 (LT.add Q) Q Q Q Q (Dp20 (LT.and Q) Q y2 Q Q (Dp10 (LT.assign (v := (Iv (bits .and .i64 (w64 ((bits .and .i64 (bits .xor .i64 (shrI (w64 ((w64 (c.h * 6364136223846793005)) + 1442695040888963407)) 33) (shrI (w64 ((w64 (c.h * 6364136223846793005)) + 1442695040888963407)) 45)) 255) + (w64 x5))) 255))) Q) Q Q Q (AOD.nil (by kernel_rfl) (en [(0,(Cc (.pl 0 0))),(3,(Iv (bits .and .i64 (w64 ((bits .and .i64 (bits .xor .i64 (shrI (w64 ((w64 (c.h * 6364136223846793005)) + 1442695040888963407)) 33) (shrI (w64 ((w64 (c.h * 6364136223846793005)) + 1442695040888963407)) 45)) 255) + (w64 x5))) 255)))] [(0,(.row 69 [[(xT encInt_u8 c.b),(iC c.i),(iC (w64 ((w64 (c.h * 6364136223846793005)) + 1442695040888963407)))]]))] z2 z1 (Wr (mv (Cc (.pl 0 0)) Q Q Q Q (mv (Cc (.pl 0 0)) Q Q Q Q (Op10 (LT.nilPl Q) Q Q Q (Op10 (LT.fieldPl Q fo69_1) Q Q Q (Op11 (LT.bload1 (c := (iC c.i)) Q ag3 (by exact Q)) Q Q Q Q ?_)))))))))))
   refine Op20 (LT.add Q) Q y2 Q Q (Op10 (LT.nilPl Q) Q Q Q (Op10 (LT.fieldPl Q fo69_1) Q Q Q (Os21 (LT.bstore (v := (.c (iC (w64 (c.i + 1))))) (out := [(xT encInt_u8 c.b),(iC (w64 (c.i + 1))),(iC (w64 ((w64 (c.h * 6364136223846793005)) + 1442695040888963407)))]) Q Q (infS inf3) sz3 (by exact Q) (by exact K Q) (by exact Q)) Q Q Q Q Q (On (AWR.nil ⟨Q,Ent.of z1 z1⟩)))))
  ·refine AWR.skip (AWR.nil ⟨Q,Ent.of z1 z1⟩)
 ·refine Ws (Wr ?_)
  refine mv (Iv j3.1) Q Q Q Q (asg (Iv j3.1) Q Q Q Q (On (AWR.ret (FPost.mk (.inr Q) z1 z1 Q ⟨PermP.sc,J⟩ ⟨PermO.row1 ⟨(permC_xs perm_encInt_u8),PermP.sc,PermP.sc,J⟩,J⟩))))
theorem w_spec_l1Below (c : Tl1Cur) (n : Int) : ∀ t,m_spec_l1Below c n = some t → Fw.Fn Tryz.prog 67 [(.c (.pl 0 0)),(.c (iC n))] [(0,(.row 69 [[(xT encInt_u8 c.b),(iC c.i),(iC c.h)]]))] (.s (.c (iC t.1))) [(0,(.row 69 [[(xT encInt_u8 t.2.b),(iC t.2.i),(iC t.2.h)]]))] [0] [] := by
 refine Fw.Fn.of (P := Tryz.prog) (X := []) (pn := [0]) (rs := (fun (t : (Int × Tl1Cur)) => [(.c (iC t.1))])) (dfs := (fun (t : (Int × Tl1Cur)) => [(0,(.row 69 [[(xT encInt_u8 t.2.b),(iC t.2.i),(iC t.2.h)]]))])) Tryz.func67 Q Tryz.ntmps67 (K Q) Q ?_
 intro w0 U0 R0 g0
 unfold m_spec_l1Below
 refine Ws (Wr ?_)
 refine asg (Iv 0) Q y2 Q Q (On (Ws (Ws (Wr ?_))))
 refine mv (Iv n) Q Q Q Q (Op20 (LT.leq Q) Q y2 Q Q (On (AWR.cond Q (fun hc1 => ?_) (fun hc1 => ?_))))
 ·refine Ws (Wr ?_)
  refine asg (Iv 0) Q y2 Q Q (On (AWR.ret (FPost.mk (.inr Q) z1 z1 Q ⟨PermP.sc,J⟩ ⟨PermO.row1 ⟨(permC_xs perm_encInt_u8),PermP.sc,PermP.sc,J⟩,J⟩)))
 ·refine AWR.skip (Ws (Ws (Wr ?_)))
  refine mv (Iv n) Q Q Q Q (Op20 (LT.leq Q) Q y2 Q Q (On (AWR.cond Q (fun hc2 => ?_) (fun hc2 => ?_))))
  ·refine Ws (Wr ?_)
   refine mv (Cc (.pl 0 0)) Q Q Q Q (Ob' fun r3 hr3 => (AOR.step (@LT.callF Tryz.prog _ _ 92 _ _ [(.c (.pl 0 0))] _ _ [] _ _ _ _ ((show Fw.Fn Tryz.prog 92 [(.c (.pl 0 0))] [(0,(.row 69 [[(xT encInt_u8 c.b),(iC c.i),(iC c.h)]]))] (Iv r3.1) [(0,(.row 69 [[(xT encInt_u8 r3.2.b),(iC r3.2.i),(iC r3.2.h)]]))] [0] [] from Fw.Fn.ren [(0,0)] (w_spec_l1Byte c r3 hr3) Q)) Q cb92 (.cons (.c (.same Q)) .nil) Q Q z1) z2 z1 Q Q (mv (Iv n) Q Q Q Q (Ob' fun u4 hu4 => (Op20 (LT.rem Q (nz_ne hu4)) Q Q Q Q (asg (Iv (Int.tmod r3.1 n)) Q Q Q Q (On (AWR.ret (FPost.mk (.inr Q) z1 z1 Q ⟨PermP.sc,J⟩ ⟨PermO.row1 ⟨(permC_xs perm_encInt_u8),PermP.sc,PermP.sc,J⟩,J⟩)))))))))
  ·refine AWR.skip (Ws (Wr ?_))
   refine mv (Cc (.pl 0 0)) Q Q Q Q (Ob' fun r5 hr5 => (AOR.step (@LT.callF Tryz.prog _ _ 92 _ _ [(.c (.pl 0 0))] _ _ [] _ _ _ _ ((show Fw.Fn Tryz.prog 92 [(.c (.pl 0 0))] [(0,(.row 69 [[(xT encInt_u8 c.b),(iC c.i),(iC c.h)]]))] (Iv r5.1) [(0,(.row 69 [[(xT encInt_u8 r5.2.b),(iC r5.2.i),(iC r5.2.h)]]))] [0] [] from Fw.Fn.ren [(0,0)] (w_spec_l1Byte c r5 hr5) Q)) Q cb92 (.cons (.c (.same Q)) .nil) Q Q z1) z2 z1 Q Q (asg (Iv r5.1) Q Q Q Q (On (Ws (Wr ?_))))))
   refine mv (Cc (.pl 0 0)) Q Q Q Q (Ob' fun r6 hr6 => (AOR.step (@LT.callF Tryz.prog _ _ 92 _ _ [(.c (.pl 0 0))] _ _ [] _ _ _ _ ((show Fw.Fn Tryz.prog 92 [(.c (.pl 0 0))] [(0,(.row 69 [[(xT encInt_u8 r5.2.b),(iC r5.2.i),(iC r5.2.h)]]))] (Iv r6.1) [(0,(.row 69 [[(xT encInt_u8 r6.2.b),(iC r6.2.i),(iC r6.2.h)]]))] [0] [] from Fw.Fn.ren [(0,0)] (w_spec_l1Byte r5.2 r6 hr6) Q)) Q cb92 (.cons (.c (.same Q)) .nil) Q Q z1) z2 z1 Q Q (asg (Iv r6.1) Q Q Q Q (On (Ws ?_)))))
   refine en [(0,(Cc (.pl 0 0))),(1,(Iv n)),(5,(Iv r5.1)),(6,(Iv r6.1))] [(0,(.row 69 [[(xT encInt_u8 r6.2.b),(iC r6.2.i),(iC r6.2.h)]]))] z4 z1 (Wr (mv (Cc (.pl 0 0)) Q Q Q Q (Ob' fun r7 hr7 => (AOR.step (@LT.callF Tryz.prog _ _ 92 _ _ [(.c (.pl 0 0))] _ _ [] _ _ _ _ ((show Fw.Fn Tryz.prog 92 [(.c (.pl 0 0))] [(0,(.row 69 [[(xT encInt_u8 r6.2.b),(iC r6.2.i),(iC r6.2.h)]]))] (Iv r7.1) [(0,(.row 69 [[(xT encInt_u8 r7.2.b),(iC r7.2.i),(iC r7.2.h)]]))] [0] [] from Fw.Fn.ren [(0,0)] (w_spec_l1Byte r6.2 r7 hr7) Q)) Q cb92 (.cons (.c (.same Q)) .nil) Q Q z1) z2 z1 Q Q (asg (Iv r7.1) Q Q Q Q (On (Ws (Wr ?_))))))))
   refine mv (Cc (.pl 0 0)) Q Q Q Q (Ob' fun r8 hr8 => (AOR.step (@LT.callF Tryz.prog _ _ 92 _ _ [(.c (.pl 0 0))] _ _ [] _ _ _ _ ((show Fw.Fn Tryz.prog 92 [(.c (.pl 0 0))] [(0,(.row 69 [[(xT encInt_u8 r7.2.b),(iC r7.2.i),(iC r7.2.h)]]))] (Iv r8.1) [(0,(.row 69 [[(xT encInt_u8 r8.2.b),(iC r8.2.i),(iC r8.2.h)]]))] [0] [] from Fw.Fn.ren [(0,0)] (w_spec_l1Byte r7.2 r8 hr8) Q)) Q cb92 (.cons (.c (.same Q)) .nil) Q Q z1) z2 z1 Q Q (asg (Iv r8.1) Q Q Q Q (On (Ws (Wr ?_))))))
   refine mv (Iv r5.1) Q Q Q Q (Op20 (LT.mul Q) Q y2 Q Q (mv (Iv r6.1) Q Q Q Q (Op20 (LT.mul Q) Q y2 Q Q (Op20 (LT.add Q) Q Q Q Q (mv (Iv r7.1) Q Q Q Q (Op20 (LT.mul Q) Q y2 Q Q (Op20 (LT.add Q) Q Q Q Q (mv (Iv r8.1) Q Q Q Q (Op20 (LT.add Q) Q Q Q Q (mv (Iv n) Q Q Q Q (Ob' fun u9 hu9 => ?_)))))))))))
   refine Op20 (LT.rem Q (nz_ne hu9)) Q Q Q Q (asg (Iv (Int.tmod (w64 ((w64 ((w64 ((w64 (r5.1 * 16777216)) + (w64 (r6.1 * 65536)))) + (w64 (r7.1 * 256)))) + r8.1)) n)) Q Q Q Q (On (AWR.ret (FPost.mk (.inr Q) z1 z1 Q ⟨PermP.sc,J⟩ ⟨PermO.row1 ⟨(permC_xs perm_encInt_u8),PermP.sc,PermP.sc,J⟩,J⟩))))
theorem w_spec_l2Simple (c : Tl1Cur) (n : Int) (odd : Int) : ∀ t,m_spec_l2Simple c n odd = some t → Fw.Fn Tryz.prog 115 [(.c (.pl 0 0)),(.c (iC n)),(.c (iC odd))] [(0,(.row 69 [[(xT encInt_u8 c.b),(iC c.i),(iC c.h)]]))] (.s (.agg [(iC t.1.Points),(lo 1 t.1.Bars.length)])) [(0,(.row 69 [[(xT encInt_u8 t.2.b),(iC t.2.i),(iC t.2.h)]])),(1,(pR 40 encTBar t.1.Bars))] [0] [1] := by
 refine Fw.Fn.of (P := Tryz.prog) (X := [1]) (pn := [0]) (rs := (fun (t : (TGraph × Tl1Cur)) => [(.agg [(iC t.1.Points),(lo 1 t.1.Bars.length)])])) (dfs := (fun (t : (TGraph × Tl1Cur)) => [(0,(.row 69 [[(xT encInt_u8 t.2.b),(iC t.2.i),(iC t.2.h)]])),(1,(pR 40 encTBar t.1.Bars))])) Tryz.func115 Q Tryz.ntmps115 (K Q) Q ?_
 intro w0 U0 R0 g0
 unfold m_spec_l2Simple
 refine Ws (Wr ?_)
 refine Os00 (LT.alloc (n := 21) (cells := [(iC 0),(sC nilV)]) Q ti26 Q Q Q) Q Q (On (Ws (Wr ?_)))
 refine mv (Iv n) Q Q Q Q (Os00 (LT.tbuildSlice (n := 22) (enc := encTBar) [] ([] : List TBar) Q Q und24 ti40 Q Q Q Q (by decide) (fun _ => Q) Q) Q Q (Op20 (LT.build [(0,.tmp 10,(.c (iC n))),(1,.tmp 11,(.c (lo 22 (([] : List TBar).length))))] Q Q pl26 ti26 Q Q Q) Q Q Q Q (Os00 (LT.alloc (n := 23) (cells := [(iC 0),(sC nilV)]) Q ti26 Q Q Q) Q Q (Os21 (LT.bstore (v := (.agg [(iC n),(lo 22 (([] : List TBar).length))])) (out := [(iC n),(lo 22 (([] : List TBar).length))]) Q Q (infS inf26) sz26 (by exact Q) (by exact K Q) (by exact Q)) Q Q Q Q Q (On (Ws (Ws ?_)))))))
 refine en [(0,(Cc (.pl 0 0))),(1,(Iv n)),(2,(Iv odd)),(6,(Cc (.pl 21 0))),(7,(Cc (.pl 23 0)))] [(0,(.row 69 [[(xT encInt_u8 c.b),(iC c.i),(iC c.h)]])),(21,(.row 26 [[(iC 0),(sC nilV)]])),(22,(pR 40 encTBar ([] : List TBar))),(23,(.row 26 [[(iC n),(lo 22 (([] : List TBar).length))]]))] z5 z4 (Wr (asg (Iv 0) Q y2 Q Q (On (AWR.block ?_))))
 refine AWR.loop1 (id := 0) (m_spec_l2Simple_L3 n odd) (fun s1 => ([(0,(Cc (.pl 0 0))),(1,(Iv n)),(2,(Iv odd)),(6,(Cc (.pl 21 0))),(7,(Cc (.pl 23 0))),(8,(Iv s1.1))],[(0,(.row 69 [[(xT encInt_u8 s1.2.1),(iC s1.2.2.1),(iC s1.2.2.2.1)]])),(21,(.row 26 [[(iC 0),(sC nilV)]])),(22,(pR 40 encTBar s1.2.2.2.2)),(23,(.row 26 [[(iC n),(lo 22 s1.2.2.2.2.length)]]))])) (fun b52 => ([(6,(Cc (.pl 21 0))),(7,(Cc (.pl 23 0)))],[(0,(.row 69 [[(xT encInt_u8 b52.1),(iC b52.2.1),(iC b52.2.2.1)]])),(21,(.row 26 [[(iC 0),(sC nilV)]])),(22,(pR 40 encTBar b52.2.2.2)),(23,(.row 26 [[(iC n),(lo 22 b52.2.2.2.length)]]))])) ?_ (Ent.of z6 z4) Q (fun b52 _ => ?_)
 ·intro s1
  unfold m_spec_l2Simple_L3
  refine Ws (Ws (Wr ?_))
  refine mv (Iv s1.1) Q Q Q Q (mv (Iv n) Q Q Q Q (Op20 (LT.lss Q) Q Q Q Q (On (AWR.cond Q (fun hc53 => ?_) (fun hc53 => ?_)))))
  ·refine AWR.skip (Ws (AWR.block (Ws (Wr ?_))))
   refine mv (Iv s1.1) Q Q Q Q (Op20 (LT.add Q) Q y2 Q Q (asg (Iv (w64 (s1.1 + 1))) Q Q Q Q (On (AWR.block ?_))))
   refine AWR.loop1 (id := 2) (m_spec_l2Simple_L4 n odd s1) (fun s54 => ([(0,(Cc (.pl 0 0))),(1,(Iv n)),(2,(Iv odd)),(6,(Cc (.pl 21 0))),(7,(Cc (.pl 23 0))),(8,(Iv s1.1)),(9,(Iv s54.1))],[(0,(.row 69 [[(xT encInt_u8 s54.2.1),(iC s54.2.2.1),(iC s54.2.2.2.1)]])),(21,(.row 26 [[(iC 0),(sC nilV)]])),(22,(pR 40 encTBar s54.2.2.2.2)),(23,(.row 26 [[(iC n),(lo 22 s54.2.2.2.2.length)]]))])) (fun b77 => ([(0,(Cc (.pl 0 0))),(1,(Iv n)),(2,(Iv odd)),(6,(Cc (.pl 21 0))),(7,(Cc (.pl 23 0))),(8,(Iv b77.1))],[(0,(.row 69 [[(xT encInt_u8 b77.2.1),(iC b77.2.2.1),(iC b77.2.2.2.1)]])),(21,(.row 26 [[(iC 0),(sC nilV)]])),(22,(pR 40 encTBar b77.2.2.2.2)),(23,(.row 26 [[(iC n),(lo 22 b77.2.2.2.2.length)]]))])) ?_ (Ent.of z7 z4) Q (fun b77 _ => ?_)
   ·intro s54
    unfold m_spec_l2Simple_L4
    refine Ws (Ws (Wr ?_))
    refine mv (Iv s54.1) Q Q Q Q (mv (Iv n) Q Q Q Q (Op20 (LT.lss Q) Q Q Q Q (On (AWR.cond Q (fun hc78 => ?_) (fun hc78 => ?_)))))
    ·refine AWR.skip (Ws (AWR.block (Ws ?_)))
     refine AWR.joinK (fun j81 => ([(0,(Cc (.pl 0 0))),(1,(Iv n)),(2,(Iv odd)),(6,(Cc (.pl 21 0))),(7,(Cc (.pl 23 0))),(8,(Iv s1.1)),(9,(Iv s54.1)),(34,(Bv j81.1))],[(0,(.row 69 [[(xT encInt_u8 j81.2.1),(iC j81.2.2.1),(iC j81.2.2.2)]])),(21,(.row 26 [[(iC 0),(sC nilV)]])),(22,(pR 40 encTBar s54.2.2.2.2)),(23,(.row 26 [[(iC n),(lo 22 s54.2.2.2.2.length)]]))])) ?_ (fun j81 _ => ?_)
     ·refine Wr (mv (Cc (.pl 0 0)) Q Q Q Q (Ob' fun r82 hr82 => (AOR.step (@LT.callF Tryz.prog _ _ 67 _ _ [(.c (.pl 0 0)),(.c (iC 10))] _ _ [] _ _ _ _ ((show Fw.Fn Tryz.prog 67 [(.c (.pl 0 0)),(.c (iC 10))] [(0,(.row 69 [[(xT encInt_u8 s54.2.1),(iC s54.2.2.1),(iC s54.2.2.2.1)]]))] (Iv r82.1) [(0,(.row 69 [[(xT encInt_u8 r82.2.b),(iC r82.2.i),(iC r82.2.h)]]))] [0] [] from Fw.Fn.ren [(0,0)] (w_spec_l1Below (Tl1Cur.mk s54.2.1 s54.2.2.1 s54.2.2.2.1) 10 r82 hr82) Q)) Q cb67 (.cons (.c (.same Q)) (.cons (.c (.same Q)) .nil)) Q Q z1) ⟨Q,Q,y2,J⟩ z1 Q Q (mv (Iv odd) Q Q Q Q (Op20 (LT.lss Q) Q Q Q Q (mv (Bv (decide (r82.1 < odd))) Q Q Q Q (AOR.split (fun hb83 => ?_) (fun hb83 => ?_))))))))
      ·refine Op10 (LT.fieldPl Q fo26_1) Q (gH hb83 Q Q) Q (Op11 (LT.bload1 (c := (lo 22 s54.2.2.2.2.length)) Q ag24 (by exact Q)) Q Q (gH hb83 Q Q) Q (Op10 (LT.lenLoc Q und24) Q (gH hb83 Q Q) Q (Op20 (LT.lss Q) Q y2 (gH hb83 Q Q) Q (Op20 (LT.pickT (v := (Bv (decide ((s54.2.2.2.2.length : Int) < 24)))) Q hb83) Q Q Q Q (On (AWR.nil ⟨Q,Ent.of z8 z4⟩))))))
      ·refine Ok Q Q Q (by rw [hb83]; rfl) Q (Ok Q Q Q (by rw [hb83]; rfl) Q (Ok Q Q Q (by rw [hb83]; rfl) Q (Ok Q Q Q (by rw [hb83]; rfl) Q (Op20 (LT.pickF (v := (Bv false)) Q hb83) Q y2 Q Q (On (AWR.nil ⟨Q,Ent.of z8 z4⟩))))))
     ·refine AWR.joinK (fun j86 => ([(0,(Cc (.pl 0 0))),(1,(Iv n)),(2,(Iv odd)),(6,(Cc (.pl 21 0))),(7,(Cc (.pl 23 0))),(8,(Iv s1.1)),(9,(Iv s54.1))],[(0,(.row 69 [[(xT encInt_u8 j81.2.1),(iC j81.2.2.1),(iC j81.2.2.2)]])),(21,(.row 26 [[(iC 0),(sC nilV)]])),(22,(pR 40 encTBar j86)),(23,(.row 26 [[(iC n),(lo 22 j86.length)]]))])) ?_ (fun j86 _ => ?_)
      ·refine AWR.cond Q (fun hc87 => ?_) (fun hc87 => ?_)
       ·refine Wr (Op10 (LT.fieldPl Q fo26_1) Q Q Q (Op11 (LT.bload1 (c := (lo 22 s54.2.2.2.2.length)) Q ag24 (by exact Q)) Q Q Q Q (mv (Iv s1.1) Q Q Q Q (mv (Iv s54.1) Q Q Q Q (Op20 (LT.build [(0,.tmp 37,(.c (iC s1.1))),(1,.tmp 38,(.c (iC s54.1)))] Q Q pl40 ti40 Q Q Q) Q Q Q Q (Os10 (LT.tbuildSlice (n := 25) (enc := encTBar) [(0,.tmp 39,(.agg [(iC s1.1),(iC s54.1)]))] [(TBar.mk s1.1 s54.1)] Q Q und24 ti40 Q Q Q Q (by decide) (fun _ => Q) Q) Q Q Q (Ob' fun u88 hu88 => (Os22 (LT.tappP (enc := encTBar) Q Q Q und24 ti40 Q (by decide) (by decide) (fun _ => Q) (lim_le hu88)) Q Q Q Q Q Q (Op10 (LT.fieldPl Q fo26_1) Q Q Q (Os21 (LT.bstore (v := (.c (lo 22 ((s54.2.2.2.2 ++ [(TBar.mk s1.1 s54.1)]).length)))) (out := [(iC n),(lo 22 ((s54.2.2.2.2 ++ [(TBar.mk s1.1 s54.1)]).length))]) Q Q (infS inf24) sz24 (by exact Q) (by exact K Q) (by exact Q)) Q Q Q Q Q (On ?_)))))))))))
        refine AWR.nil ⟨Q,Ent.of z7 z4⟩
       ·refine AWR.skip (AWR.nil ⟨Q,Ent.of z7 z4⟩)
      ·refine AWR.blk (Wr ?_)
       refine mv (Iv s54.1) Q Q Q Q (Op20 (LT.add Q) Q y2 Q Q (asg (Iv (w64 (s54.1 + 1))) Q Q Q Q (On (AWR.nil ⟨Q,Ent.of z7 z4⟩))))
    ·refine AWR.exit_end Q ⟨Q,Ent.of z6 z4⟩
   ·refine AWR.blk (Wr ?_)
    refine mv (Iv b77.1) Q Q Q Q (Op20 (LT.add Q) Q y2 Q Q (asg (Iv (w64 (b77.1 + 1))) Q Q Q Q (On (AWR.nil ⟨Q,Ent.of z6 z4⟩))))
  ·refine AWR.exit_end Q ⟨Q,Ent.of z2 z4⟩
 ·refine Ws (Wr ?_)
  refine Op11 (LT.bloadN (out := [(iC n),(lo 22 b52.2.2.2.length)]) Q ag26 (infS inf26) sz26 (by exact Q) (by exact Q)) Q Q Q Q (Os21 (LT.bstore (v := (.agg [(iC n),(lo 22 b52.2.2.2.length)])) (out := [(iC n),(lo 22 b52.2.2.2.length)]) Q Q (infS inf26) sz26 (by exact Q) (by exact K Q) (by exact Q)) Q Q Q Q Q (On (en [(6,(Cc (.pl 21 0)))] [(0,(.row 69 [[(xT encInt_u8 b52.1),(iC b52.2.1),(iC b52.2.2.1)]])),(21,(.row 26 [[(iC n),(lo 22 b52.2.2.2.length)]])),(22,(pR 40 encTBar b52.2.2.2))] z1 z3 (AWR.ent (Ent.mv 22 1 Q Q) (en [(6,(Cc (.pl 21 0)))] [(0,(.row 69 [[(xT encInt_u8 b52.1),(iC b52.2.1),(iC b52.2.2.1)]])),(1,(pR 40 encTBar b52.2.2.2)),(21,(.row 26 [[(iC n),(lo 1 b52.2.2.2.length)]]))] z1 z3 (AWR.ret (FPost.mk (.inr Q) ⟨⟨_,_,_,Q,Q,Q,ag26,sz26,_,(infS inf26)⟩,J⟩ z2 Q ⟨⟨PermP.sc,J,J⟩,J⟩ ⟨PermO.row1 ⟨(permC_xs perm_encInt_u8),PermP.sc,PermP.sc,J⟩,PermO.prow' perm_encTBar,J⟩)))))))
theorem w_spec_l1In (x : Int) (low : Int) (high : Int) : ∀ t,m_spec_l1In x low high = some t → Fw.Fn Tryz.prog 55 [(.c (iC x)),(.c (iC low)),(.c (iC high))] [] (.s (.c (bC t))) [] [] [] := by
 refine Fw.Fn.of (P := Tryz.prog) (X := []) (pn := []) (rs := (fun (t : Bool) => [(.c (bC t))])) (dfs := (fun (t : Bool) => [])) Tryz.func55 Q Tryz.ntmps55 (K Q) Q ?_
 intro w0 U0 R0 g0
 unfold m_spec_l1In
 refine Ws (Wr ?_)
 refine asg (Bv false) Q y2 Q Q (On (Ws ?_))
 refine AWR.joinK (fun j2 => ([(6,(Bv j2))],[])) ?_ (fun j2 _ => ?_)
 ·refine Wr (mv (Iv x) Q Q Q Q (mv (Iv low) Q Q Q Q (Op20 (LT.geq Q) Q Q Q Q (mv (Bv (decide (low ≤ x))) Q Q Q Q (AOR.split (fun hb3 => ?_) (fun hb3 => ?_))))))
  ·refine mv (Iv x) Q Q (gH hb3 Q Q) Q (mv (Iv high) Q Q (gH hb3 Q Q) Q (Op20 (LT.leq Q) Q Q (gH hb3 Q Q) Q (Op20 (LT.pickT (v := (Bv (decide (x ≤ high)))) Q hb3) Q Q Q Q (asg (Bv (decide (x ≤ high))) Q Q Q Q (On (AWR.nil ⟨Q,Ent.of z1 J⟩))))))
  ·refine Ok Q Q Q (by rw [hb3]; rfl) Q (Ok Q Q Q (by rw [hb3]; rfl) Q (Ok Q Q Q (by rw [hb3]; rfl) Q (Op20 (LT.pickF (v := (Bv false)) Q hb3) Q y2 Q Q (asg (Bv false) Q Q Q Q (On (AWR.nil ⟨Q,Ent.of z1 J⟩))))))
 ·refine AWR.ret (FPost.mk (.inr Q) z1 J Q ⟨PermP.sc,J⟩ J)
theorem w_spec_l2After (a : TBar) (b : TBar) : ∀ t,m_spec_l2After a b = some t → Fw.Fn Tryz.prog 56 [(.agg [(iC a.A),(iC a.B)]),(.agg [(iC b.A),(iC b.B)])] [] (.s (.c (bC t))) [] [] [] := by
 refine Fw.Fn.of (P := Tryz.prog) (X := []) (pn := []) (rs := (fun (t : Bool) => [(.c (bC t))])) (dfs := (fun (t : Bool) => [])) Tryz.func56 Q Tryz.ntmps56 (K Q) Q ?_
 intro w0 U0 R0 g0
 unfold m_spec_l2After
 refine Ws (Wr ?_)
 refine Os10 (LT.box (n := 21) (v := (.agg [(iC a.A),(iC a.B)])) Q sz40 (by exact Q)) Q Q Q (Os10 (LT.box (n := 22) (v := (.agg [(iC b.A),(iC b.B)])) Q sz40 (by exact Q)) Q Q Q (asg (Bv false) Q y2 Q Q (On (Ws ?_))))
 refine AWR.joinK (fun j3 => ([(4,(Bv j3))],[])) ?_ (fun j3 _ => ?_)
 ·refine Wr (Op10 (LT.fieldPl Q fo40_0) Q Q Q (Op11 (LT.bload1 (c := (iC a.A)) Q ag3 (by exact Q)) Q Q Q Q (Op10 (LT.fieldPl Q fo40_0) Q Q Q (Op11 (LT.bload1 (c := (iC b.A)) Q ag3 (by exact Q)) Q Q Q Q (Op20 (LT.lss Q) Q Q Q Q (mv (Bv (decide (a.A < b.A))) Q Q Q Q (AOR.split (fun hb4 => ?_) (fun hb4 => ?_))))))))
  ·refine Ok Q Q Q (by rw [hb4]; rfl) Q (Ok Q Q Q (by rw [hb4]; rfl) Q (Ok Q Q Q (by rw [hb4]; rfl) Q (Ok Q Q Q (by rw [hb4]; rfl) Q (Ok Q Q Q (by rw [hb4]; rfl) Q (Ok Q Q Q (by rw [hb4]; rfl) Q (Oj Q Q Q Q (Oj Q Q Q Q (Oj Q Q Q Q (Oj Q Q Q Q (Oj Q Q Q Q (Ok Q Q Q (by rw [hb4]; rfl) Q ?_)))))))))))
   refine Op20 (LT.pickT (v := (Bv true)) Q hb4) Q y2 Q Q (asg (Bv true) Q Q Q Q (On (AWR.nil ⟨Q,Ent.of z1 J⟩)))
  ·refine Op10 (LT.fieldPl Q fo40_0) Q (gH hb4 Q Q) Q (Op11 (LT.bload1 (c := (iC a.A)) Q ag3 (by exact Q)) Q Q (gH hb4 Q Q) Q (Op10 (LT.fieldPl Q fo40_0) Q (gH hb4 Q Q) Q (Op11 (LT.bload1 (c := (iC b.A)) Q ag3 (by exact Q)) Q Q (gH hb4 Q Q) Q (Op20 (LT.eql Q) Q Q (gH hb4 Q Q) Q (mv (Bv (a.A == b.A)) Q Q (gH hb4 Q Q) Q (AOR.split (fun hb5 => ?_) (fun hb5 => ?_)))))))
   ·refine Op10 (LT.fieldPl Q fo40_1) Q (gH hb5 Q Q) Q (Op11 (LT.bload1 (c := (iC a.B)) Q ag3 (by exact Q)) Q Q (gH hb5 Q Q) Q (Op10 (LT.fieldPl Q fo40_1) Q (gH hb5 Q Q) Q (Op11 (LT.bload1 (c := (iC b.B)) Q ag3 (by exact Q)) Q Q (gH hb5 Q Q) Q (Op20 (LT.leq Q) Q Q (gH hb5 Q Q) Q (Op20 (LT.pickT (v := (Bv (decide (a.B ≤ b.B)))) Q hb5) Q Q (gH hb4 Q Q) Q (Op20 (LT.pickF (v := (Bv (decide (a.B ≤ b.B)))) Q hb4) Q Q Q Q (asg (Bv (decide (a.B ≤ b.B))) Q Q Q Q (On (AWR.nil ⟨Q,Ent.of z1 J⟩)))))))))
   ·refine Ok Q Q Q (by rw [hb5]; rfl) Q (Ok Q Q Q (by rw [hb5]; rfl) Q (Ok Q Q Q (by rw [hb5]; rfl) Q (Ok Q Q Q (by rw [hb5]; rfl) Q (Ok Q Q Q (by rw [hb5]; rfl) Q (Op20 (LT.pickF (v := (Bv false)) Q hb5) Q y2 (gH hb4 Q Q) Q (Op20 (LT.pickF (v := (Bv false)) Q hb4) Q Q Q Q (asg (Bv false) Q Q Q Q (On (AWR.nil ⟨Q,Ent.of z1 J⟩)))))))))
 ·refine AWR.ret (FPost.mk (.inr Q) z1 J Q ⟨PermP.sc,J⟩ J)
theorem w_spec_IsGraph (g : TGraph) : ∀ t,m_spec_IsGraph g = some t → Fw.Fn Tryz.prog 14 [(.agg [(iC g.Points),(xF encTBar g.Bars)])] [] (.s (.c (bC t))) [] [] [] := by
 refine Fw.Fn.of (P := Tryz.prog) (X := []) (pn := []) (rs := (fun (t : Bool) => [(.c (bC t))])) (dfs := (fun (t : Bool) => [])) Tryz.func14 Q Tryz.ntmps14 (K Q) Q ?_
 intro w0 U0 R0 g0
 unfold m_spec_IsGraph
 refine Ws (Wr ?_)
 refine Os10 (LT.box (n := 21) (v := (.agg [(iC g.Points),(xF encTBar g.Bars)])) Q sz26 (by exact Q)) Q Q Q (asg (Bv false) Q y2 Q Q (On (Ws (Ws ?_))))
 refine AWR.joinK (fun j3 => ([(1,(Cc (.pl 21 0))),(14,(Bv j3))],[(21,(.row 26 [[(iC g.Points),(xF encTBar g.Bars)]]))])) ?_ (fun j3 _ => ?_)
 ·refine Wr (Op10 (LT.fieldPl Q fo26_0) Q Q Q (Op11 (LT.bload1 (c := (iC g.Points)) Q ag3 (by exact Q)) Q Q Q Q (Ob' fun r4 hr4 => (AOR.pure (@LT.callF Tryz.prog _ _ 55 _ _ [(.c (iC g.Points)),(.c (iC 1)),(.c (iC 8))] _ _ [] _ _ _ _ (w_spec_l1In g.Points 1 8 r4 hr4) Q cb55 (.cons (.c (.same Q)) (.cons (.c (.same Q)) (.cons (.c (.same Q)) .nil))) Q Q J) ⟨Q,Q,y2,y2,J⟩ J Q Q (Op10 (LT.not Q) Q Q Q (mv (Bv (!r4)) Q Q Q Q (AOR.split (fun hb5 => ?_) (fun hb5 => ?_))))))))
  ·refine Ok Q Q Q (by rw [hb5]; rfl) Q (Ok Q Q Q (by rw [hb5]; rfl) Q (Ok Q Q Q (by rw [hb5]; rfl) Q (Ok Q Q Q (by rw [hb5]; rfl) Q (Op20 (LT.pickT (v := (Bv true)) Q hb5) Q y2 Q Q (On (AWR.nil ⟨Q,Ent.of z2 z1⟩))))))
  ·refine Op10 (LT.fieldPl Q fo26_1) Q (gH hb5 Q Q) Q (Op11 (LT.bload1 (c := (xF encTBar g.Bars)) Q ag24 (by exact Q)) Q Q (gH hb5 Q Q) Q (Op10 (LT.tlenRO Q und24) Q (gH hb5 Q Q) Q (Op20 (LT.gtr Q) Q y2 (gH hb5 Q Q) Q (Op20 (LT.pickF (v := (Bv (decide (24 < (g.Bars.length : Int))))) Q hb5) Q Q Q Q (On (AWR.nil ⟨Q,Ent.of z2 z1⟩))))))
 ·refine AWR.cond Q (fun hc6 => ?_) (fun hc6 => ?_)
  ·refine Ws (Wr ?_)
   refine asg (Bv false) Q y2 Q Q (On (AWR.ret (FPost.mk (.inr Q) z1 J Q ⟨PermP.sc,J⟩ J)))
  ·refine AWR.skip (Ws (Ws (Wr ?_)))
   refine asg (Iv 0) Q y2 Q Q (On (AWR.block ?_))
   refine AWR.loopR (id := 0) (m_spec_IsGraph_L1 g) (fun s7 => ([(1,(Cc (.pl 21 0))),(3,(Iv s7))],[(21,(.row 26 [[(iC g.Points),(xF encTBar g.Bars)]]))])) (fun b40 => ([],[])) (FPost Tryz.prog Tryz.f14.results.toList [] [] (fun (t : Bool) => [(.c (bC t))]) (fun (t : Bool) => [])) ?_ (Ent.of z2 z1) Q (fun b40 _ => ?_) (by intro r t σ m ht hk; injection ht with ht; subst ht; exact hk)
   ·intro s7
    unfold m_spec_IsGraph_L1
    refine Ws (Ws (Wr ?_))
    refine mv (Iv s7) Q Q Q Q (Op10 (LT.fieldPl Q fo26_1) Q Q Q (Op11 (LT.bload1 (c := (xF encTBar g.Bars)) Q ag24 (by exact Q)) Q Q Q Q (Op10 (LT.tlenRO Q und24) Q Q Q (Op20 (LT.lss Q) Q Q Q Q (On (AWR.cond Q (fun hc41 => ?_) (fun hc41 => ?_)))))))
    ·refine AWR.skip (Ws (AWR.block (Ws (Wr ?_))))
     refine Op10 (LT.fieldPl Q fo26_1) Q Q Q (Op11 (LT.bload1 (c := (xF encTBar g.Bars)) Q ag24 (by exact Q)) Q Q Q Q (mv (Iv s7) Q Q Q Q (Ob' fun x42 hx42 => (Op20 (LT.tindexRO (enc := encTBar) Q el24 hx42 sz40) Q Q Q Q (Op10 (LT.loadPxN Q ag40 (infS inf40) (by exact sz40.symm)) Q Q Q (Os00 (LT.alloc (n := 23) (cells := [(iC 0),(iC 0)]) Q ti40 Q Q Q) Q Q (Os21 (LT.bstore (v := (.agg [(iC x42.A),(iC x42.B)])) (out := [(iC x42.A),(iC x42.B)]) Q Q (infS inf40) sz40 (by exact Q) (by exact K Q) (by exact Q)) Q Q Q Q Q (On (Ws ?_)))))))))
     refine AWR.joinK (fun j49 => ([(1,(Cc (.pl 21 0))),(3,(Iv s7)),(58,(Bv j49))],[(21,(.row 26 [[(iC g.Points),(xF encTBar g.Bars)]]))])) ?_ (fun j49 _ => ?_)
     ·refine en [(1,(Cc (.pl 21 0))),(3,(Iv s7)),(4,(Cc (.pl 23 0)))] [(21,(.row 26 [[(iC g.Points),(xF encTBar g.Bars)]])),(23,(.row 40 [[(iC x42.A),(iC x42.B)]]))] z3 z2 (AWR.draw mixed (Dp10 (LT.fieldPl Q fo40_0) Q Q Q (Dp11 (LT.bload1 (c := (iC x42.A)) Q ag3 (by exact Q)) Q Q Q Q (Dp20 (LT.lss Q) Q y2 Q Q (Dp10 (LT.move (v := (Bv (decide (x42.A < 0)))) Q) Q Q Q (AOD.split (fun hb50 => ?_) (fun hb50 => ?_)))))))
      ·refine AOD.skip (gH hb50 Q Q) Q (AOD.skip (gH hb50 Q Q) Q (AOD.skip (gH hb50 Q Q) Q (AOD.skip (gH hb50 Q Q) Q (AOD.skip (gH hb50 Q Q) Q (Dp20 (LT.pickT (v := (Bv true)) Q hb50) Q y2 Q Q (Dp10 (LT.move (v := (Bv true)) Q) Q Q Q (AOD.skip (gS Q Q) Q (AOD.skip (gS Q Q) Q (AOD.skip (gS Q Q) Q (AOD.skip (gS Q Q) Q (AOD.skip (gS Q Q) Q ?_)))))))))))
       refine Dp20 (LT.pickT (v := (Bv true)) Q Q) Q y2 Q Q (Dp10 (LT.move (v := (Bv true)) Q) Q Q Q (AOD.skip (gS Q Q) Q (AOD.skip (gS Q Q) Q (AOD.skip (gS Q Q) Q (AOD.skip (gS Q Q) Q (AOD.skip (gS Q Q) Q (AOD.skip (gS Q Q) Q (AOD.skip (gS Q Q) Q (AOD.skip (gS Q Q) Q (AOD.skip (gS Q Q) Q (AOD.skip (gS Q Q) Q ?_)))))))))))
       refine AOD.skip (gS Q Q) Q (AOD.skip (gS Q Q) Q (AOD.skip (gS Q Q) Q (Dp20 (LT.pickT (v := (Bv true)) Q Q) Q y2 Q Q (AOD.nil (by kernel_rfl) (AWR.nil ⟨Q,Ent.of z3 z1⟩)))))
      ·refine Dp10 (LT.fieldPl Q fo40_0) Q (gH hb50 Q Q) Q (Dp11 (LT.bload1 (c := (iC x42.A)) Q ag3 (by exact Q)) Q Q (gH hb50 Q Q) Q (Dp10 (LT.fieldPl Q fo40_1) Q (gH hb50 Q Q) Q (Dp11 (LT.bload1 (c := (iC x42.B)) Q ag3 (by exact Q)) Q Q (gH hb50 Q Q) Q (Dp20 (LT.geq Q) Q Q (gH hb50 Q Q) Q (Dp20 (LT.pickF (v := (Bv (decide (x42.B ≤ x42.A)))) Q hb50) Q Q Q Q (Dp10 (LT.move (v := (Bv (decide (x42.B ≤ x42.A)))) Q) Q Q Q (AOD.split (fun hb51 => ?_) (fun hb51 => ?_))))))))
       ·refine AOD.skip (gH hb51 Q Q) Q (AOD.skip (gH hb51 Q Q) Q (AOD.skip (gH hb51 Q Q) Q (AOD.skip (gH hb51 Q Q) Q (AOD.skip (gH hb51 Q Q) Q (Dp20 (LT.pickT (v := (Bv true)) Q hb51) Q y2 Q Q (Dp10 (LT.move (v := (Bv true)) Q) Q Q Q (AOD.skip (gS Q Q) Q (AOD.skip (gS Q Q) Q (AOD.skip (gS Q Q) Q (AOD.skip (gS Q Q) Q (AOD.skip (gS Q Q) Q ?_)))))))))))
        refine AOD.skip (gS Q Q) Q (AOD.skip (gS Q Q) Q (AOD.skip (gS Q Q) Q (AOD.skip (gS Q Q) Q (AOD.skip (gS Q Q) Q (AOD.skip (gS Q Q) Q (AOD.skip (gS Q Q) Q (AOD.skip (gS Q Q) Q (Dp20 (LT.pickT (v := (Bv true)) Q Q) Q y2 Q Q (AOD.nil (by kernel_rfl) (AWR.nil ⟨Q,Ent.of z3 z1⟩))))))))))
       ·refine Dp10 (LT.fieldPl Q fo40_1) Q (gH hb51 Q Q) Q (Dp11 (LT.bload1 (c := (iC x42.B)) Q ag3 (by exact Q)) Q Q (gH hb51 Q Q) Q (Dp10 (LT.fieldPl Q fo26_0) Q (gH hb51 Q Q) Q (Dp11 (LT.bload1 (c := (iC g.Points)) Q ag3 (by exact Q)) Q Q (gH hb51 Q Q) Q (Dp20 (LT.geq Q) Q Q (gH hb51 Q Q) Q (Dp20 (LT.pickF (v := (Bv (decide (g.Points ≤ x42.B)))) Q hb51) Q Q Q Q (Dp10 (LT.move (v := (Bv (decide (g.Points ≤ x42.B)))) Q) Q Q Q (AOD.split (fun hb52 => ?_) (fun hb52 => ?_))))))))
        ·refine AOD.skip (gH hb52 Q Q) Q (AOD.skip (gH hb52 Q Q) Q (AOD.skip (gH hb52 Q Q) Q (AOD.skip (gS Q Q) Q (AOD.skip (gS Q Q) Q (AOD.skip (gS Q Q) Q (AOD.skip (gS Q Q) Q (AOD.skip (gS Q Q) Q (AOD.skip (gS Q Q) Q (AOD.skip (gS Q Q) Q (AOD.skip (gS Q Q) Q (AOD.skip (gS Q Q) Q ?_)))))))))))
         refine AOD.skip (gH hb52 Q Q) Q (Dp20 (LT.pickT (v := (Bv true)) Q hb52) Q y2 Q Q (AOD.nil (by kernel_rfl) (AWR.nil ⟨Q,Ent.of z3 z1⟩)))
        ·refine Dp10 (LT.move (v := (Iv s7)) Q) Q (gH hb52 Q Q) Q (Dp20 (LT.gtr Q) Q y2 (gH hb52 Q Q) Q (Dp10 (LT.move (v := (Bv (decide (0 < s7)))) Q) Q (gH hb52 Q Q) Q (AOD.split (fun hb53 => ?_) (fun hb53 => ?_))))
         ·refine Dp10 (LT.fieldPl Q fo26_1) Q (gH hb53 Q Q) Q (Dp11 (LT.bload1 (c := (xF encTBar g.Bars)) Q ag24 (by exact Q)) Q Q (gH hb53 Q Q) Q (Dp10 (LT.move (v := (Iv s7)) Q) Q (gH hb53 Q Q) Q (Dp20 (LT.sub Q) Q y2 (gH hb53 Q Q) Q (AOD.bind fun x54 hx54 => (Dp20 (LT.tindexRO (enc := encTBar) Q el24 hx54 sz40) Q Q (gH hb53 Q Q) Q (Dp10 (LT.loadPxN Q ag40 (infS inf40) (by exact sz40.symm)) Q (gH hb53 Q Q) Q (Dp11 (LT.bloadN (out := [(iC x42.A),(iC x42.B)]) Q ag40 (infS inf40) sz40 (by exact Q) (by exact Q)) Q Q (gH hb53 Q Q) Q (AOD.bind fun r55 hr55 => (AOD.pure (@LT.callF Tryz.prog _ _ 56 _ _ [(.agg [(iC x54.A),(iC x54.B)]),(.agg [(iC x42.A),(iC x42.B)])] _ _ [] _ _ _ _ (w_spec_l2After x54 x42 r55 hr55) Q cb56 (.cons (.agg (.cons (.same Q) (.cons (.same Q) .nil))) (.cons (.agg (.cons (.same Q) (.cons (.same Q) .nil))) .nil)) Q Q J) z3 J (gH hb53 Q Q) Q (Dp10 (LT.not Q) Q (gH hb53 Q Q) Q (Dp20 (LT.pickT (v := (Bv (!r55))) Q hb53) Q Q (gH hb52 Q Q) Q ?_)))))))))))
          refine Dp20 (LT.pickF (v := (Bv (!r55))) Q hb52) Q Q Q Q (AOD.nil (by kernel_rfl) (AWR.nil ⟨Q,Ent.of z3 z1⟩))
         ·refine AOD.skip (gH hb53 Q Q) Q (AOD.skip (gH hb53 Q Q) Q (AOD.skip (gH hb53 Q Q) Q (AOD.skip (gH hb53 Q Q) Q (AOD.skip (gH hb53 Q Q) Q (AOD.skip (gH hb53 Q Q) Q (AOD.skip (gH hb53 Q Q) Q (AOD.skip (gH hb53 Q Q) Q (AOD.skip (gH hb53 Q Q) Q (Dp20 (LT.pickF (v := (Bv false)) Q hb53) Q y2 (gH hb52 Q Q) Q (Dp20 (LT.pickF (v := (Bv false)) Q hb52) Q Q Q Q (AOD.nil (by kernel_rfl) ?_)))))))))))
          refine AWR.nil ⟨Q,Ent.of z3 z1⟩
     ·refine AWR.cond Q (fun hc56 => ?_) (fun hc56 => ?_)
      ·refine Ws (Wr ?_)
       refine asg (Bv false) Q y2 Q Q (On (AWR.ret ⟨Q,FPost.mk (.inr Q) z1 J Q ⟨PermP.sc,J⟩ J⟩))
      ·refine AWR.skip (AWR.blk (Wr ?_))
       refine mv (Iv s7) Q Q Q Q (Op20 (LT.add Q) Q y2 Q Q (asg (Iv (w64 (s7 + 1))) Q Q Q Q (On (AWR.nil ⟨Q,Ent.of z2 z1⟩))))
    ·refine AWR.exit_end Q ⟨Q,Ent.of J J⟩
   ·refine Ws (Wr ?_)
    refine asg (Bv true) Q y2 Q Q (On (AWR.ret (FPost.mk (.inr Q) z1 J Q ⟨PermP.sc,J⟩ J)))
end Go.Proofs.YteognanhfpbghaaGreat
end
section
set_option linter.unusedVariables false
set_option linter.unusedSimpArgs false
set_option linter.unnecessarySimpa false
set_option maxRecDepth 100000
set_option maxHeartbeats 8000000
open Go Go.Fw
namespace Go.Proofs.YteognanhfpbghaaGreat
theorem w_spec_l2Copy (g : TGraph) : ∀ t,m_spec_l2Copy g = some t → Fw.Fn Tryz.prog 62 [(.agg [(iC g.Points),(xF encTBar g.Bars)])] [] (.s (.agg [(iC t.Points),(lo 0 t.Bars.length)])) [(0,(pR 40 encTBar t.Bars))] [] [0] := by
 refine Fw.Fn.of (P := Tryz.prog) (X := [0]) (pn := []) (rs := (fun (t : TGraph) => [(.agg [(iC t.Points),(lo 0 t.Bars.length)])])) (dfs := (fun (t : TGraph) => [(0,(pR 40 encTBar t.Bars))])) Tryz.func62 Q Tryz.ntmps62 (K Q) Q ?_
 intro w0 U0 R0 g0
 unfold m_spec_l2Copy
 refine Ws (Wr ?_)
 refine Os10 (LT.box (n := 21) (v := (.agg [(iC g.Points),(xF encTBar g.Bars)])) Q sz26 (by exact Q)) Q Q Q (Os00 (LT.alloc (n := 22) (cells := [(iC 0),(sC nilV)]) Q ti26 Q Q Q) Q Q (On (Ws (AWR.draw mixed ?_))))
 refine Dp10 (LT.fieldPl Q fo26_0) Q Q Q (Dp11 (LT.bload1 (c := (iC g.Points)) Q ag3 (by exact Q)) Q Q Q Q (Ds00 (LT.tbuildSlice (n := 23) (enc := encTBar) [] ([] : List TBar) Q Q und24 ti40 Q Q Q Q (by decide) (fun _ => Q) Q) Q Q (Dp10 (LT.fieldPl Q fo26_1) Q Q Q (Dp11 (LT.bload1 (c := (xF encTBar g.Bars)) Q ag24 (by exact Q)) Q Q Q Q (AOD.bind fun u1 hu1 => (Ds21 (LT.tappRO (enc := encTBar) Q  Q und24 ti40 Q (by decide) (by decide) (fun _ => Q) (lim_le hu1)) Q Q Q Q Q (Dp20 (LT.build [(0,.tmp 4,(.c (iC g.Points))),(1,.tmp 8,(.c (lo 23 ((([] : List TBar) ++ g.Bars).length))))] Q Q pl26 ti26 Q Q Q) Q Q Q Q (Ds21 (LT.bstore (v := (.agg [(iC g.Points),(lo 23 ((([] : List TBar) ++ g.Bars).length))])) (out := [(iC g.Points),(lo 23 ((([] : List TBar) ++ g.Bars).length))]) Q Q (infS inf26) sz26 (by exact Q) (by exact K Q) (by exact Q)) Q Q Q Q Q (AOD.nil (by kernel_rfl) (en [(2,(Cc (.pl 22 0)))] [(22,(.row 26 [[(iC g.Points),(lo 23 ((([] : List TBar) ++ g.Bars).length))]])),(23,(pR 40 encTBar (([] : List TBar) ++ g.Bars)))] z1 z2 (AWR.ent (Ent.mv 23 0 Q Q) ?_)))))))))))
 refine en [(2,(Cc (.pl 22 0)))] [(0,(pR 40 encTBar (([] : List TBar) ++ g.Bars))),(22,(.row 26 [[(iC g.Points),(lo 0 ((([] : List TBar) ++ g.Bars).length))]]))] z1 z2 (AWR.ret (FPost.mk (.inr Q) ⟨⟨_,_,_,Q,Q,Q,ag26,sz26,_,(infS inf26)⟩,J⟩ z1 Q ⟨⟨PermP.sc,J,J⟩,J⟩ ⟨PermO.prow' perm_encTBar,J⟩))
theorem w_spec_l2Put (g : TGraph) (x : TBar) : ∀ t,m_spec_l2Put g x = some t → Fw.Fn Tryz.prog 64 [(.agg [(iC g.Points),(xF encTBar g.Bars)]),(.agg [(iC x.A),(iC x.B)])] [] (.s (.agg [(iC t.Points),(lo 0 t.Bars.length)])) [(0,(pR 40 encTBar t.Bars))] [] [0] := by
 refine Fw.Fn.of (P := Tryz.prog) (X := [0]) (pn := []) (rs := (fun (t : TGraph) => [(.agg [(iC t.Points),(lo 0 t.Bars.length)])])) (dfs := (fun (t : TGraph) => [(0,(pR 40 encTBar t.Bars))])) Tryz.func64 Q Tryz.ntmps64 (K Q) Q ?_
 intro w0 U0 R0 g0
 unfold m_spec_l2Put
 refine Ws (Wr ?_)
 refine Os10 (LT.box (n := 21) (v := (.agg [(iC g.Points),(xF encTBar g.Bars)])) Q sz26 (by exact Q)) Q Q Q (Os10 (LT.box (n := 22) (v := (.agg [(iC x.A),(iC x.B)])) Q sz40 (by exact Q)) Q Q Q (Os00 (LT.alloc (n := 23) (cells := [(iC 0),(sC nilV)]) Q ti26 Q Q Q) Q Q (On (Ws (Wr ?_)))))
 refine Op10 (LT.fieldPl Q fo26_0) Q Q Q (Op11 (LT.bload1 (c := (iC g.Points)) Q ag3 (by exact Q)) Q Q Q Q (Os00 (LT.tbuildSlice (n := 24) (enc := encTBar) [] ([] : List TBar) Q Q und24 ti40 Q Q Q Q (by decide) (fun _ => Q) Q) Q Q (Op20 (LT.build [(0,.tmp 9,(.c (iC g.Points))),(1,.tmp 10,(.c (lo 24 (([] : List TBar).length))))] Q Q pl26 ti26 Q Q Q) Q Q Q Q (Os00 (LT.alloc (n := 25) (cells := [(iC 0),(sC nilV)]) Q ti26 Q Q Q) Q Q (Os21 (LT.bstore (v := (.agg [(iC g.Points),(lo 24 (([] : List TBar).length))])) (out := [(iC g.Points),(lo 24 (([] : List TBar).length))]) Q Q (infS inf26) sz26 (by exact Q) (by exact K Q) (by exact Q)) Q Q Q Q Q (On (Ws ?_)))))))
 refine en [(2,(Cc (.pl 21 0))),(3,(Cc (.pl 22 0))),(4,(Cc (.pl 23 0))),(5,(Cc (.pl 25 0)))] [(21,(.row 26 [[(iC g.Points),(xF encTBar g.Bars)]])),(22,(.row 40 [[(iC x.A),(iC x.B)]])),(23,(.row 26 [[(iC 0),(sC nilV)]])),(24,(pR 40 encTBar ([] : List TBar))),(25,(.row 26 [[(iC g.Points),(lo 24 (([] : List TBar).length))]]))] z4 z5 (Wr (asg (Bv false) Q y2 Q Q (On (Ws (Ws (Wr ?_))))))
 refine asg (Iv 0) Q y2 Q Q (On (AWR.block ?_))
 refine AWR.loop1 (id := 0) (m_spec_l2Put_L1 g x) (fun s1 => ([(2,(Cc (.pl 21 0))),(3,(Cc (.pl 22 0))),(4,(Cc (.pl 23 0))),(5,(Cc (.pl 25 0))),(6,(Bv s1.1)),(7,(Iv s1.2.1))],[(21,(.row 26 [[(iC g.Points),(xF encTBar g.Bars)]])),(22,(.row 40 [[(iC x.A),(iC x.B)]])),(23,(.row 26 [[(iC 0),(sC nilV)]])),(24,(pR 40 encTBar s1.2.2)),(25,(.row 26 [[(iC g.Points),(lo 24 s1.2.2.length)]]))])) (fun b29 => ([(3,(Cc (.pl 22 0))),(4,(Cc (.pl 23 0))),(5,(Cc (.pl 25 0))),(6,(Bv b29.1))],[(22,(.row 40 [[(iC x.A),(iC x.B)]])),(23,(.row 26 [[(iC 0),(sC nilV)]])),(24,(pR 40 encTBar b29.2)),(25,(.row 26 [[(iC g.Points),(lo 24 b29.2.length)]]))])) ?_ (Ent.of z6 z5) Q (fun b29 _ => ?_)
 ·intro s1
  unfold m_spec_l2Put_L1
  refine Ws (Ws (Wr ?_))
  refine mv (Iv s1.2.1) Q Q Q Q (Op10 (LT.fieldPl Q fo26_1) Q Q Q (Op11 (LT.bload1 (c := (xF encTBar g.Bars)) Q ag24 (by exact Q)) Q Q Q Q (Op10 (LT.tlenRO Q und24) Q Q Q (Op20 (LT.lss Q) Q Q Q Q (On (AWR.cond Q (fun hc30 => ?_) (fun hc30 => ?_)))))))
  ·refine AWR.skip (Ws (AWR.block (Ws (Ws ?_))))
   refine AWR.joinK (fun j34 => ([(2,(Cc (.pl 21 0))),(3,(Cc (.pl 22 0))),(4,(Cc (.pl 23 0))),(5,(Cc (.pl 25 0))),(6,(Bv s1.1)),(7,(Iv s1.2.1)),(30,(Bv j34))],[(21,(.row 26 [[(iC g.Points),(xF encTBar g.Bars)]])),(22,(.row 40 [[(iC x.A),(iC x.B)]])),(23,(.row 26 [[(iC 0),(sC nilV)]])),(24,(pR 40 encTBar s1.2.2)),(25,(.row 26 [[(iC g.Points),(lo 24 s1.2.2.length)]]))])) ?_ (fun j34 _ => ?_)
   ·refine AWR.draw mixed (Dp10 (LT.move (v := (Bv s1.1)) Q) Q Q Q (Dp10 (LT.not Q) Q Q Q (Dp10 (LT.move (v := (Bv (!s1.1))) Q) Q Q Q (AOD.split (fun hb35 => ?_) (fun hb35 => ?_)))))
    ·refine Dp10 (LT.fieldPl Q fo26_1) Q (gH hb35 Q Q) Q (Dp11 (LT.bload1 (c := (xF encTBar g.Bars)) Q ag24 (by exact Q)) Q Q (gH hb35 Q Q) Q (Dp10 (LT.move (v := (Iv s1.2.1)) Q) Q (gH hb35 Q Q) Q (AOD.bind fun x36 hx36 => (Dp20 (LT.tindexRO (enc := encTBar) Q el24 hx36 sz40) Q Q (gH hb35 Q Q) Q (Dp10 (LT.loadPxN Q ag40 (infS inf40) (by exact sz40.symm)) Q (gH hb35 Q Q) Q (Dp11 (LT.bloadN (out := [(iC x.A),(iC x.B)]) Q ag40 (infS inf40) sz40 (by exact Q) (by exact Q)) Q Q (gH hb35 Q Q) Q (AOD.bind fun r37 hr37 => (AOD.pure (@LT.callF Tryz.prog _ _ 56 _ _ [(.agg [(iC x36.A),(iC x36.B)]),(.agg [(iC x.A),(iC x.B)])] _ _ [] _ _ _ _ (w_spec_l2After x36 x r37 hr37) Q cb56 (.cons (.agg (.cons (.same Q) (.cons (.same Q) .nil))) (.cons (.agg (.cons (.same Q) (.cons (.same Q) .nil))) .nil)) Q Q J) z3 J (gH hb35 Q Q) Q (Dp10 (LT.not Q) Q (gH hb35 Q Q) Q (Dp20 (LT.pickT (v := (Bv (!r37))) Q hb35) Q Q Q Q (AOD.nil (by kernel_rfl) ?_)))))))))))
     refine AWR.nil ⟨Q,Ent.of z7 z5⟩
    ·refine AOD.skip (gH hb35 Q Q) Q (AOD.skip (gH hb35 Q Q) Q (AOD.skip (gH hb35 Q Q) Q (AOD.skip (gH hb35 Q Q) Q (AOD.skip (gH hb35 Q Q) Q (AOD.skip (gH hb35 Q Q) Q (AOD.skip (gH hb35 Q Q) Q (AOD.skip (gH hb35 Q Q) Q (Dp20 (LT.pickF (v := (Bv false)) Q hb35) Q y2 Q Q (AOD.nil (by kernel_rfl) (AWR.nil ⟨Q,Ent.of z7 z5⟩))))))))))
   ·refine AWR.joinK (fun j40 => ([(2,(Cc (.pl 21 0))),(3,(Cc (.pl 22 0))),(4,(Cc (.pl 23 0))),(5,(Cc (.pl 25 0))),(6,(Bv j40.1)),(7,(Iv s1.2.1))],[(21,(.row 26 [[(iC g.Points),(xF encTBar g.Bars)]])),(22,(.row 40 [[(iC x.A),(iC x.B)]])),(23,(.row 26 [[(iC 0),(sC nilV)]])),(24,(pR 40 encTBar j40.2)),(25,(.row 26 [[(iC g.Points),(lo 24 j40.2.length)]]))])) ?_ (fun j40 _ => ?_)
    ·refine AWR.cond Q (fun hc41 => ?_) (fun hc41 => ?_)
     ·refine Ws (Wr ?_)
      refine Op10 (LT.fieldPl Q fo26_1) Q Q Q (Op11 (LT.bload1 (c := (lo 24 s1.2.2.length)) Q ag24 (by exact Q)) Q Q Q Q (Op11 (LT.bloadN (out := [(iC x.A),(iC x.B)]) Q ag40 (infS inf40) sz40 (by exact Q) (by exact Q)) Q Q Q Q (Os10 (LT.tbuildSlice (n := 27) (enc := encTBar) [(0,.tmp 33,(.agg [(iC x.A),(iC x.B)]))] [x] Q Q und24 ti40 Q Q Q Q (by decide) (fun _ => Q) Q) Q Q Q (Ob' fun u42 hu42 => (Os22 (LT.tappP (enc := encTBar) Q Q Q und24 ti40 Q (by decide) (by decide) (fun _ => Q) (lim_le hu42)) Q Q Q Q Q Q (Op10 (LT.fieldPl Q fo26_1) Q Q Q (Os21 (LT.bstore (v := (.c (lo 24 ((s1.2.2 ++ [x]).length)))) (out := [(iC g.Points),(lo 24 ((s1.2.2 ++ [x]).length))]) Q Q (infS inf24) sz24 (by exact Q) (by exact K Q) (by exact Q)) Q Q Q Q Q (On (en [(2,(Cc (.pl 21 0))),(3,(Cc (.pl 22 0))),(4,(Cc (.pl 23 0))),(5,(Cc (.pl 25 0))),(7,(Iv s1.2.1))] [(21,(.row 26 [[(iC g.Points),(xF encTBar g.Bars)]])),(22,(.row 40 [[(iC x.A),(iC x.B)]])),(23,(.row 26 [[(iC 0),(sC nilV)]])),(24,(pR 40 encTBar (s1.2.2 ++ [x]))),(25,(.row 26 [[(iC g.Points),(lo 24 ((s1.2.2 ++ [x]).length))]]))] z5 z5 (Wr (asg (Bv true) Q y2 Q Q ?_)))))))))))
      refine On (AWR.nil ⟨Q,Ent.of z6 z5⟩)
     ·refine AWR.skip (AWR.nil ⟨Q,Ent.of z6 z5⟩)
    ·refine AWR.draw mixed (Dp10 (LT.fieldPl Q fo26_1) Q Q Q (Dp11 (LT.bload1 (c := (lo 24 j40.2.length)) Q ag24 (by exact Q)) Q Q Q Q (Dp10 (LT.fieldPl Q fo26_1) Q Q Q (Dp11 (LT.bload1 (c := (xF encTBar g.Bars)) Q ag24 (by exact Q)) Q Q Q Q (Dp10 (LT.move (v := (Iv s1.2.1)) Q) Q Q Q (AOD.bind fun x43 hx43 => (Dp20 (LT.tindexRO (enc := encTBar) Q el24 hx43 sz40) Q Q Q Q (Dp10 (LT.loadPxN Q ag40 (infS inf40) (by exact sz40.symm)) Q Q Q (Ds10 (LT.tbuildSlice (n := 28) (enc := encTBar) [(0,.tmp 43,(.agg [(iC x43.A),(iC x43.B)]))] [x43] Q Q und24 ti40 Q Q Q Q (by decide) (fun _ => Q) Q) Q Q Q (AOD.bind fun u44 hu44 => (Ds22 (LT.tappP (enc := encTBar) Q Q Q und24 ti40 Q (by decide) (by decide) (fun _ => Q) (lim_le hu44)) Q Q Q Q Q Q ?_)))))))))))
     refine Dp10 (LT.fieldPl Q fo26_1) Q Q Q (Ds21 (LT.bstore (v := (.c (lo 24 ((j40.2 ++ [x43]).length)))) (out := [(iC g.Points),(lo 24 ((j40.2 ++ [x43]).length))]) Q Q (infS inf24) sz24 (by exact Q) (by exact K Q) (by exact Q)) Q Q Q Q Q (AOD.nil (by kernel_rfl) (AWR.blk (en [(2,(Cc (.pl 21 0))),(3,(Cc (.pl 22 0))),(4,(Cc (.pl 23 0))),(5,(Cc (.pl 25 0))),(6,(Bv j40.1)),(7,(Iv s1.2.1))] [(21,(.row 26 [[(iC g.Points),(xF encTBar g.Bars)]])),(22,(.row 40 [[(iC x.A),(iC x.B)]])),(23,(.row 26 [[(iC 0),(sC nilV)]])),(24,(pR 40 encTBar (j40.2 ++ [x43]))),(25,(.row 26 [[(iC g.Points),(lo 24 ((j40.2 ++ [x43]).length))]]))] z6 z5 (Wr (mv (Iv s1.2.1) Q Q Q Q (Op20 (LT.add Q) Q y2 Q Q (asg (Iv (w64 (s1.2.1 + 1))) Q Q Q Q (On (AWR.nil ⟨Q,Ent.of z6 z5⟩))))))))))
  ·refine AWR.exit_end Q ⟨Q,Ent.of z4 z4⟩
 ·refine Ws (Ws (Wr ?_))
  refine mv (Bv b29.1) Q Q Q Q (Op10 (LT.not Q) Q Q Q (On (AWR.joinK (fun j47 => ([(4,(Cc (.pl 23 0))),(5,(Cc (.pl 25 0)))],[(23,(.row 26 [[(iC 0),(sC nilV)]])),(24,(pR 40 encTBar j47)),(25,(.row 26 [[(iC g.Points),(lo 24 j47.length)]]))])) ?_ (fun j47 _ => ?_))))
  ·refine AWR.cond Q (fun hc48 => ?_) (fun hc48 => ?_)
   ·refine Wr (Op10 (LT.fieldPl Q fo26_1) Q Q Q (Op11 (LT.bload1 (c := (lo 24 b29.2.length)) Q ag24 (by exact Q)) Q Q Q Q (Op11 (LT.bloadN (out := [(iC x.A),(iC x.B)]) Q ag40 (infS inf40) sz40 (by exact Q) (by exact Q)) Q Q Q Q (Os10 (LT.tbuildSlice (n := 29) (enc := encTBar) [(0,.tmp 51,(.agg [(iC x.A),(iC x.B)]))] [x] Q Q und24 ti40 Q Q Q Q (by decide) (fun _ => Q) Q) Q Q Q (Ob' fun u49 hu49 => (Os22 (LT.tappP (enc := encTBar) Q Q Q und24 ti40 Q (by decide) (by decide) (fun _ => Q) (lim_le hu49)) Q Q Q Q Q Q (Op10 (LT.fieldPl Q fo26_1) Q Q Q (Os21 (LT.bstore (v := (.c (lo 24 ((b29.2 ++ [x]).length)))) (out := [(iC g.Points),(lo 24 ((b29.2 ++ [x]).length))]) Q Q (infS inf24) sz24 (by exact Q) (by exact K Q) (by exact Q)) Q Q Q Q Q (On (AWR.nil ⟨Q,Ent.of z2 z3⟩))))))))))
   ·refine AWR.skip (AWR.nil ⟨Q,Ent.of z2 z3⟩)
  ·refine Ws (Wr ?_)
   refine Op11 (LT.bloadN (out := [(iC g.Points),(lo 24 j47.length)]) Q ag26 (infS inf26) sz26 (by exact Q) (by exact Q)) Q Q Q Q (Os21 (LT.bstore (v := (.agg [(iC g.Points),(lo 24 j47.length)])) (out := [(iC g.Points),(lo 24 j47.length)]) Q Q (infS inf26) sz26 (by exact Q) (by exact K Q) (by exact Q)) Q Q Q Q Q (On (en [(4,(Cc (.pl 23 0)))] [(23,(.row 26 [[(iC g.Points),(lo 24 j47.length)]])),(24,(pR 40 encTBar j47))] z1 z2 (AWR.ent (Ent.mv 24 0 Q Q) (en [(4,(Cc (.pl 23 0)))] [(0,(pR 40 encTBar j47)),(23,(.row 26 [[(iC g.Points),(lo 0 j47.length)]]))] z1 z2 (AWR.ret (FPost.mk (.inr Q) ⟨⟨_,_,_,Q,Q,Q,ag26,sz26,_,(infS inf26)⟩,J⟩ z1 Q ⟨⟨PermP.sc,J,J⟩,J⟩ ⟨PermO.prow' perm_encTBar,J⟩)))))))
theorem w_spec_AddBar (g : TGraph) (a : Int) (b : Int) : ∀ t,m_spec_AddBar g a b = some t → Fw.Fn Tryz.prog 21 [(.agg [(iC g.Points),(xF encTBar g.Bars)]),(.c (iC a)),(.c (iC b))] [] (resA [(.agg [(iC t.1.Points),(lo 0 t.1.Bars.length)]),(.c (bC t.2))]) [(0,(pR 40 encTBar t.1.Bars))] [] [0] := by
 refine Fw.Fn.of (P := Tryz.prog) (X := [0]) (pn := []) (rs := (fun (t : (TGraph × Bool)) => [(.agg [(iC t.1.Points),(lo 0 t.1.Bars.length)]),(.c (bC t.2))])) (dfs := (fun (t : (TGraph × Bool)) => [(0,(pR 40 encTBar t.1.Bars))])) Tryz.func21 Q Tryz.ntmps21 (K Q) Q ?_
 intro w0 U0 R0 g0
 unfold m_spec_AddBar
 refine Ws (Wr ?_)
 refine Os10 (LT.box (n := 21) (v := (.agg [(iC g.Points),(xF encTBar g.Bars)])) Q sz26 (by exact Q)) Q Q Q (Os00 (LT.alloc (n := 22) (cells := [(iC 0),(sC nilV)]) Q ti26 Q Q Q) Q Q (asg (Bv false) Q y2 Q Q (On (Ws (Ws ?_)))))
 refine AWR.joinK (fun j8 => ([(1,(Iv a)),(2,(Iv b)),(3,(Cc (.pl 21 0))),(6,(Cc (.pl 22 0))),(41,(Bv j8))],[(21,(.row 26 [[(iC g.Points),(xF encTBar g.Bars)]])),(22,(.row 26 [[(iC 0),(sC nilV)]]))])) ?_ (fun j8 _ => ?_)
 ·refine Wr (Op11 (LT.bloadN (out := [(iC g.Points),(xF encTBar g.Bars)]) Q ag26 (infS inf26) sz26 (by exact Q) (by exact Q)) Q Q Q Q (Ob' fun r9 hr9 => (AOR.pure (@LT.callF Tryz.prog _ _ 14 _ _ [(.agg [(iC g.Points),(xF encTBar g.Bars)])] _ _ [] _ _ _ _ (w_spec_IsGraph g r9 hr9) Q cb14 (.cons (.agg (.cons (.same Q) (.cons (.same Q) .nil))) .nil) Q Q J) z2 J Q Q (Op10 (LT.not Q) Q Q Q (mv (Bv (!r9)) Q Q Q Q (AOR.split (fun hb10 => ?_) (fun hb10 => ?_)))))))
  ·refine Ok Q Q Q (by rw [hb10]; rfl) Q (Ok Q Q Q (by rw [hb10]; rfl) Q (Op20 (LT.pickT (v := (Bv true)) Q hb10) Q y2 Q Q (mv (Bv true) Q Q Q Q (Ok Q Q Q Q Q (Ok Q Q Q Q Q (Op20 (LT.pickT (v := (Bv true)) Q Q) Q y2 Q Q (mv (Bv true) Q Q Q Q (Ok Q Q Q Q Q (Ok Q Q Q Q Q (Ok Q Q Q Q Q (Ok Q Q Q Q Q ?_)))))))))))
   refine Op20 (LT.pickT (v := (Bv true)) Q Q) Q y2 Q Q (mv (Bv true) Q Q Q Q (Ok Q Q Q Q Q (Ok Q Q Q Q Q (Ok Q Q Q Q Q (Ok Q Q Q Q Q (Op20 (LT.pickT (v := (Bv true)) Q Q) Q y2 Q Q (mv (Bv true) Q Q Q Q (Ok Q Q Q Q Q (Ok Q Q Q Q Q (Ok Q Q Q Q Q (Op20 (LT.pickT (v := (Bv true)) Q Q) Q y2 Q Q ?_)))))))))))
   refine mv (Bv true) Q Q Q Q (Ok Q Q Q Q Q (Ok Q Q Q Q Q (Ok Q Q Q Q Q (Ok Q Q Q Q Q (Op20 (LT.pickT (v := (Bv true)) Q Q) Q y2 Q Q (On (AWR.nil ⟨Q,Ent.of z5 z2⟩)))))))
  ·refine mv (Iv a) Q Q (gH hb10 Q Q) Q (Op20 (LT.lss Q) Q y2 (gH hb10 Q Q) Q (Op20 (LT.pickF (v := (Bv (decide (a < 0)))) Q hb10) Q Q Q Q (mv (Bv (decide (a < 0))) Q Q Q Q (AOR.split (fun hb11 => ?_) (fun hb11 => ?_)))))
   ·refine Ok Q Q Q (by rw [hb11]; rfl) Q (Ok Q Q Q (by rw [hb11]; rfl) Q (Op20 (LT.pickT (v := (Bv true)) Q hb11) Q y2 Q Q (mv (Bv true) Q Q Q Q (Ok Q Q Q Q Q (Ok Q Q Q Q Q (Ok Q Q Q Q Q (Ok Q Q Q Q Q (Op20 (LT.pickT (v := (Bv true)) Q Q) Q y2 Q Q (mv (Bv true) Q Q Q Q (Ok Q Q Q Q Q (Ok Q Q Q Q Q ?_)))))))))))
    refine Ok Q Q Q Q Q (Ok Q Q Q Q Q (Op20 (LT.pickT (v := (Bv true)) Q Q) Q y2 Q Q (mv (Bv true) Q Q Q Q (Ok Q Q Q Q Q (Ok Q Q Q Q Q (Ok Q Q Q Q Q (Op20 (LT.pickT (v := (Bv true)) Q Q) Q y2 Q Q (mv (Bv true) Q Q Q Q (Ok Q Q Q Q Q (Ok Q Q Q Q Q (Ok Q Q Q Q Q ?_)))))))))))
    refine Ok Q Q Q Q Q (Op20 (LT.pickT (v := (Bv true)) Q Q) Q y2 Q Q (On (AWR.nil ⟨Q,Ent.of z5 z2⟩)))
   ·refine mv (Iv b) Q Q (gH hb11 Q Q) Q (Op20 (LT.lss Q) Q y2 (gH hb11 Q Q) Q (Op20 (LT.pickF (v := (Bv (decide (b < 0)))) Q hb11) Q Q Q Q (mv (Bv (decide (b < 0))) Q Q Q Q (AOR.split (fun hb12 => ?_) (fun hb12 => ?_)))))
    ·refine Ok Q Q Q (by rw [hb12]; rfl) Q (Ok Q Q Q (by rw [hb12]; rfl) Q (Ok Q Q Q (by rw [hb12]; rfl) Q (Ok Q Q Q (by rw [hb12]; rfl) Q (Op20 (LT.pickT (v := (Bv true)) Q hb12) Q y2 Q Q (mv (Bv true) Q Q Q Q (Ok Q Q Q Q Q (Ok Q Q Q Q Q (Ok Q Q Q Q Q (Ok Q Q Q Q Q (Op20 (LT.pickT (v := (Bv true)) Q Q) Q y2 Q Q (mv (Bv true) Q Q Q Q ?_)))))))))))
     refine Ok Q Q Q Q Q (Ok Q Q Q Q Q (Ok Q Q Q Q Q (Op20 (LT.pickT (v := (Bv true)) Q Q) Q y2 Q Q (mv (Bv true) Q Q Q Q (Ok Q Q Q Q Q (Ok Q Q Q Q Q (Ok Q Q Q Q Q (Ok Q Q Q Q Q (Op20 (LT.pickT (v := (Bv true)) Q Q) Q y2 Q Q (On (AWR.nil ⟨Q,Ent.of z5 z2⟩)))))))))))
    ·refine mv (Iv a) Q Q (gH hb12 Q Q) Q (Op10 (LT.fieldPl Q fo26_0) Q (gH hb12 Q Q) Q (Op11 (LT.bload1 (c := (iC g.Points)) Q ag3 (by exact Q)) Q Q (gH hb12 Q Q) Q (Op20 (LT.geq Q) Q Q (gH hb12 Q Q) Q (Op20 (LT.pickF (v := (Bv (decide (g.Points ≤ a)))) Q hb12) Q Q Q Q (mv (Bv (decide (g.Points ≤ a))) Q Q Q Q (AOR.split (fun hb13 => ?_) (fun hb13 => ?_)))))))
     ·refine Ok Q Q Q (by rw [hb13]; rfl) Q (Ok Q Q Q (by rw [hb13]; rfl) Q (Ok Q Q Q (by rw [hb13]; rfl) Q (Ok Q Q Q (by rw [hb13]; rfl) Q (Op20 (LT.pickT (v := (Bv true)) Q hb13) Q y2 Q Q (mv (Bv true) Q Q Q Q (Ok Q Q Q Q Q (Ok Q Q Q Q Q (Ok Q Q Q Q Q (Op20 (LT.pickT (v := (Bv true)) Q Q) Q y2 Q Q (mv (Bv true) Q Q Q Q (Ok Q Q Q Q Q ?_)))))))))))
      refine Ok Q Q Q Q Q (Ok Q Q Q Q Q (Ok Q Q Q Q Q (Op20 (LT.pickT (v := (Bv true)) Q Q) Q y2 Q Q (On (AWR.nil ⟨Q,Ent.of z5 z2⟩)))))
     ·refine mv (Iv b) Q Q (gH hb13 Q Q) Q (Op10 (LT.fieldPl Q fo26_0) Q (gH hb13 Q Q) Q (Op11 (LT.bload1 (c := (iC g.Points)) Q ag3 (by exact Q)) Q Q (gH hb13 Q Q) Q (Op20 (LT.geq Q) Q Q (gH hb13 Q Q) Q (Op20 (LT.pickF (v := (Bv (decide (g.Points ≤ b)))) Q hb13) Q Q Q Q (mv (Bv (decide (g.Points ≤ b))) Q Q Q Q (AOR.split (fun hb14 => ?_) (fun hb14 => ?_)))))))
      ·refine Ok Q Q Q (by rw [hb14]; rfl) Q (Ok Q Q Q (by rw [hb14]; rfl) Q (Ok Q Q Q (by rw [hb14]; rfl) Q (Op20 (LT.pickT (v := (Bv true)) Q hb14) Q y2 Q Q (mv (Bv true) Q Q Q Q (Ok Q Q Q Q Q (Ok Q Q Q Q Q (Ok Q Q Q Q Q (Ok Q Q Q Q Q (Op20 (LT.pickT (v := (Bv true)) Q Q) Q y2 Q Q (On (AWR.nil ⟨Q,Ent.of z5 z2⟩)))))))))))
      ·refine mv (Iv a) Q Q (gH hb14 Q Q) Q (mv (Iv b) Q Q (gH hb14 Q Q) Q (Op20 (LT.eql Q) Q Q (gH hb14 Q Q) Q (Op20 (LT.pickF (v := (Bv (a == b))) Q hb14) Q Q Q Q (mv (Bv (a == b)) Q Q Q Q (AOR.split (fun hb15 => ?_) (fun hb15 => ?_))))))
       ·refine Ok Q Q Q (by rw [hb15]; rfl) Q (Ok Q Q Q (by rw [hb15]; rfl) Q (Ok Q Q Q (by rw [hb15]; rfl) Q (Ok Q Q Q (by rw [hb15]; rfl) Q (Op20 (LT.pickT (v := (Bv true)) Q hb15) Q y2 Q Q (On (AWR.nil ⟨Q,Ent.of z5 z2⟩))))))
       ·refine Op10 (LT.fieldPl Q fo26_1) Q (gH hb15 Q Q) Q (Op11 (LT.bload1 (c := (xF encTBar g.Bars)) Q ag24 (by exact Q)) Q Q (gH hb15 Q Q) Q (Op10 (LT.tlenRO Q und24) Q (gH hb15 Q Q) Q (Op20 (LT.geq Q) Q y2 (gH hb15 Q Q) Q (Op20 (LT.pickF (v := (Bv (decide (24 ≤ (g.Bars.length : Int))))) Q hb15) Q Q Q Q (On (AWR.nil ⟨Q,Ent.of z5 z2⟩))))))
 ·refine AWR.cond Q (fun hc16 => ?_) (fun hc16 => ?_)
  ·refine Ws (Wr ?_)
   refine Op11 (LT.bloadN (out := [(iC g.Points),(xF encTBar g.Bars)]) Q ag26 (infS inf26) sz26 (by exact Q) (by exact Q)) Q Q Q Q (Ob' fun r17 hr17 => (AOR.step (@LT.callF Tryz.prog _ _ 62 _ _ [(.agg [(iC g.Points),(xF encTBar g.Bars)])] _ _ [] _ _ _ _ ((show Fw.Fn Tryz.prog 62 [(.agg [(iC g.Points),(xF encTBar g.Bars)])] [] (Ag  [(iC r17.Points),(lo 25 r17.Bars.length)]) [(25,(pR 40 encTBar r17.Bars))] [] [25] from Fw.Fn.ren [(0,25)] (w_spec_l2Copy g r17 hr17) Q)) Q cb62 (.cons (.agg (.cons (.same Q) (.cons (.same Q) .nil))) .nil) Q Q J) z2 J Q Q (Os21 (LT.bstore (v := (.agg [(iC r17.Points),(lo 25 r17.Bars.length)])) (out := [(iC r17.Points),(lo 25 r17.Bars.length)]) Q Q (infS inf26) sz26 (by exact Q) (by exact K Q) (by exact Q)) Q Q Q Q Q (asg (Bv false) Q y2 Q Q (On (en [(6,(Cc (.pl 22 0))),(7,(Bv false))] [(22,(.row 26 [[(iC r17.Points),(lo 25 r17.Bars.length)]])),(25,(pR 40 encTBar r17.Bars))] z2 z2 (AWR.ent (Ent.mv 25 0 Q Q) (en [(6,(Cc (.pl 22 0))),(7,(Bv false))] [(0,(pR 40 encTBar r17.Bars)),(22,(.row 26 [[(iC r17.Points),(lo 0 r17.Bars.length)]]))] z2 z2 (AWR.ret (FPost.mk (.inr Q) ⟨⟨_,_,_,Q,Q,Q,ag26,sz26,_,(infS inf26)⟩,Q,J⟩ z1 Q ⟨⟨PermP.sc,J,J⟩,PermP.sc,J⟩ ⟨PermO.prow' perm_encTBar,J⟩))))))))))
  ·refine AWR.skip (Ws (Wr ?_))
   refine Op11 (LT.bloadN (out := [(iC g.Points),(xF encTBar g.Bars)]) Q ag26 (infS inf26) sz26 (by exact Q) (by exact Q)) Q Q Q Q (mv (Iv a) Q Q Q Q (mv (Iv b) Q Q Q Q (Op20 (LT.min Q) Q Q Q Q (mv (Iv a) Q Q Q Q (mv (Iv b) Q Q Q Q (Op20 (LT.max Q) Q Q Q Q (Op20 (LT.build [(0,.tmp 47,(.c (iC (if b < a then b else a)))),(1,.tmp 50,(.c (iC (if a < b then b else a))))] Q Q pl40 ti40 Q Q Q) Q Q Q Q (Ob' fun r18 hr18 => (AOR.step (@LT.callF Tryz.prog _ _ 64 _ _ [(.agg [(iC g.Points),(xF encTBar g.Bars)]),(.agg [(iC (if b < a then b else a)),(iC (if a < b then b else a))])] _ _ [] _ _ _ _ ((show Fw.Fn Tryz.prog 64 [(.agg [(iC g.Points),(xF encTBar g.Bars)]),(.agg [(iC ((TBar.mk (if b < a then b else a) (if a < b then b else a)).A)),(iC ((TBar.mk (if b < a then b else a) (if a < b then b else a)).B))])] [] (Ag  [(iC r18.Points),(lo 27 r18.Bars.length)]) [(27,(pR 40 encTBar r18.Bars))] [] [27] from Fw.Fn.ren [(0,27)] (w_spec_l2Put g (TBar.mk (if b < a then b else a) (if a < b then b else a)) r18 hr18) Q)) Q cb64 (.cons (.agg (.cons (.same Q) (.cons (.same Q) .nil))) (.cons (.agg (.cons (.same Q) (.cons (.same Q) .nil))) .nil)) Q Q J) z3 J Q Q (Os21 (LT.bstore (v := (.agg [(iC r18.Points),(lo 27 r18.Bars.length)])) (out := [(iC r18.Points),(lo 27 r18.Bars.length)]) Q Q (infS inf26) sz26 (by exact Q) (by exact K Q) (by exact Q)) Q Q Q Q Q (asg (Bv true) Q y2 Q Q ?_)))))))))))
   refine On (en [(6,(Cc (.pl 22 0))),(7,(Bv true))] [(22,(.row 26 [[(iC r18.Points),(lo 27 r18.Bars.length)]])),(27,(pR 40 encTBar r18.Bars))] z2 z2 (AWR.ent (Ent.mv 27 0 Q Q) (en [(6,(Cc (.pl 22 0))),(7,(Bv true))] [(0,(pR 40 encTBar r18.Bars)),(22,(.row 26 [[(iC r18.Points),(lo 0 r18.Bars.length)]]))] z2 z2 (AWR.ret (FPost.mk (.inr Q) ⟨⟨_,_,_,Q,Q,Q,ag26,sz26,_,(infS inf26)⟩,Q,J⟩ z1 Q ⟨⟨PermP.sc,J,J⟩,PermP.sc,J⟩ ⟨PermO.prow' perm_encTBar,J⟩)))))
theorem w_spec_l2Graph (c : Tl1Cur) : ∀ t,m_spec_l2Graph c = some t → Fw.Fn Tryz.prog 93 [(.c (.pl 0 0))] [(0,(.row 69 [[(xT encInt_u8 c.b),(iC c.i),(iC c.h)]]))] (.s (.agg [(iC t.1.Points),(lo 1 t.1.Bars.length)])) [(0,(.row 69 [[(xT encInt_u8 t.2.b),(iC t.2.i),(iC t.2.h)]])),(1,(pR 40 encTBar t.1.Bars))] [0] [1] := by
 refine Fw.Fn.of (P := Tryz.prog) (X := [1]) (pn := [0]) (rs := (fun (t : (TGraph × Tl1Cur)) => [(.agg [(iC t.1.Points),(lo 1 t.1.Bars.length)])])) (dfs := (fun (t : (TGraph × Tl1Cur)) => [(0,(.row 69 [[(xT encInt_u8 t.2.b),(iC t.2.i),(iC t.2.h)]])),(1,(pR 40 encTBar t.1.Bars))])) Tryz.func93 Q Tryz.ntmps93 (K Q) Q ?_
 intro w0 U0 R0 g0
 unfold m_spec_l2Graph
 refine Ws (Wr ?_)
 refine Os00 (LT.alloc (n := 21) (cells := [(iC 0),(sC nilV)]) Q ti26 Q Q Q) Q Q (On (Ws (Wr ?_)))
 refine mv (Cc (.pl 0 0)) Q Q Q Q (mv (Cc (.pl 0 0)) Q Q Q Q (Ob' fun r1 hr1 => (AOR.step (@LT.callF Tryz.prog _ _ 67 _ _ [(.c (.pl 0 0)),(.c (iC 5))] _ _ [] _ _ _ _ ((show Fw.Fn Tryz.prog 67 [(.c (.pl 0 0)),(.c (iC 5))] [(0,(.row 69 [[(xT encInt_u8 c.b),(iC c.i),(iC c.h)]]))] (Iv r1.1) [(0,(.row 69 [[(xT encInt_u8 r1.2.b),(iC r1.2.i),(iC r1.2.h)]]))] [0] [] from Fw.Fn.ren [(0,0)] (w_spec_l1Below c 5 r1 hr1) Q)) Q cb67 (.cons (.c (.same Q)) (.cons (.c (.same Q)) .nil)) Q Q z1) ⟨Q,Q,y2,J⟩ z1 Q Q (Op20 (LT.add Q) y2 Q Q Q (mv (Cc (.pl 0 0)) Q Q Q Q (Ob' fun r2 hr2 => (AOR.step (@LT.callF Tryz.prog _ _ 67 _ _ [(.c (.pl 0 0)),(.c (iC 4))] _ _ [] _ _ _ _ ((show Fw.Fn Tryz.prog 67 [(.c (.pl 0 0)),(.c (iC 4))] [(0,(.row 69 [[(xT encInt_u8 r1.2.b),(iC r1.2.i),(iC r1.2.h)]]))] (Iv r2.1) [(0,(.row 69 [[(xT encInt_u8 r2.2.b),(iC r2.2.i),(iC r2.2.h)]]))] [0] [] from Fw.Fn.ren [(0,0)] (w_spec_l1Below r1.2 4 r2 hr2) Q)) Q cb67 (.cons (.c (.same Q)) (.cons (.c (.same Q)) .nil)) Q Q z1) ⟨Q,Q,y2,J⟩ z1 Q Q (Op20 (LT.add Q) y2 Q Q Q (Ob' fun r3 hr3 => (AOR.step (@LT.callF Tryz.prog _ _ 115 _ _ [(.c (.pl 0 0)),(.c (iC (w64 (2 + r1.1)))),(.c (iC (w64 (5 + r2.1))))] _ _ [] _ _ _ _ ((show Fw.Fn Tryz.prog 115 [(.c (.pl 0 0)),(.c (iC (w64 (2 + r1.1)))),(.c (iC (w64 (5 + r2.1))))] [(0,(.row 69 [[(xT encInt_u8 r2.2.b),(iC r2.2.i),(iC r2.2.h)]]))] (Ag  [(iC r3.1.Points),(lo 25 r3.1.Bars.length)]) [(0,(.row 69 [[(xT encInt_u8 r3.2.b),(iC r3.2.i),(iC r3.2.h)]])),(25,(pR 40 encTBar r3.1.Bars))] [0] [25] from Fw.Fn.ren [(0,0),(1,25)] (w_spec_l2Simple r2.2 (w64 (2 + r1.1)) (w64 (5 + r2.1)) r3 hr3) Q)) Q cb115 (.cons (.c (.same Q)) (.cons (.c (.same Q)) (.cons (.c (.same Q)) .nil))) Q Q z1) z4 z1 Q Q (Os00 (LT.alloc (n := 26) (cells := [(iC 0),(sC nilV)]) Q ti26 Q Q Q) Q Q ?_)))))))))))
 refine Os21 (LT.bstore (v := (.agg [(iC r3.1.Points),(lo 25 r3.1.Bars.length)])) (out := [(iC r3.1.Points),(lo 25 r3.1.Bars.length)]) Q Q (infS inf26) sz26 (by exact Q) (by exact K Q) (by exact Q)) Q Q Q Q Q (On (Ws (Ws ?_)))
 refine en [(0,(Cc (.pl 0 0))),(2,(Cc (.pl 21 0))),(3,(Cc (.pl 26 0)))] [(0,(.row 69 [[(xT encInt_u8 r3.2.b),(iC r3.2.i),(iC r3.2.h)]])),(21,(.row 26 [[(iC 0),(sC nilV)]])),(25,(pR 40 encTBar r3.1.Bars)),(26,(.row 26 [[(iC r3.1.Points),(lo 25 r3.1.Bars.length)]]))] z3 z4 (Wr (mv (Cc (.pl 0 0)) Q Q Q Q (Ob' fun r4 hr4 => (AOR.step (@LT.callF Tryz.prog _ _ 67 _ _ [(.c (.pl 0 0)),(.c (iC 3))] _ _ [] _ _ _ _ ((show Fw.Fn Tryz.prog 67 [(.c (.pl 0 0)),(.c (iC 3))] [(0,(.row 69 [[(xT encInt_u8 r3.2.b),(iC r3.2.i),(iC r3.2.h)]]))] (Iv r4.1) [(0,(.row 69 [[(xT encInt_u8 r4.2.b),(iC r4.2.i),(iC r4.2.h)]]))] [0] [] from Fw.Fn.ren [(0,0)] (w_spec_l1Below r3.2 3 r4 hr4) Q)) Q cb67 (.cons (.c (.same Q)) (.cons (.c (.same Q)) .nil)) Q Q z1) ⟨Q,Q,y2,J⟩ z1 Q Q (mv (Cc (.pl 0 0)) Q Q Q Q (Ob' fun r5 hr5 => (AOR.step (@LT.callF Tryz.prog _ _ 67 _ _ [(.c (.pl 0 0)),(.c (iC 2))] _ _ [] _ _ _ _ ((show Fw.Fn Tryz.prog 67 [(.c (.pl 0 0)),(.c (iC 2))] [(0,(.row 69 [[(xT encInt_u8 r4.2.b),(iC r4.2.i),(iC r4.2.h)]]))] (Iv r5.1) [(0,(.row 69 [[(xT encInt_u8 r5.2.b),(iC r5.2.i),(iC r5.2.h)]]))] [0] [] from Fw.Fn.ren [(0,0)] (w_spec_l1Below r4.2 2 r5 hr5) Q)) Q cb67 (.cons (.c (.same Q)) (.cons (.c (.same Q)) .nil)) Q Q z1) ⟨Q,Q,y2,J⟩ z1 Q Q (Op20 (LT.mul Q) Q Q Q Q (asg (Iv (w64 (r4.1 * r5.1))) Q Q Q Q (On (AWR.block ?_)))))))))))
 refine AWR.loop1 (id := 0) (m_spec_l2Graph_L1) (fun s6 => ([(0,(Cc (.pl 0 0))),(2,(Cc (.pl 21 0))),(3,(Cc (.pl 26 0))),(4,(Iv s6.1))],[(0,(.row 69 [[(xT encInt_u8 s6.2.1),(iC s6.2.2.1),(iC s6.2.2.2.1)]])),(21,(.row 26 [[(iC 0),(sC nilV)]])),(25,(pR 40 encTBar s6.2.2.2.2.2)),(26,(.row 26 [[(iC s6.2.2.2.2.1),(lo 25 s6.2.2.2.2.2.length)]]))])) (fun b15 => ([(2,(Cc (.pl 21 0))),(3,(Cc (.pl 26 0)))],[(0,(.row 69 [[(xT encInt_u8 b15.1),(iC b15.2.1),(iC b15.2.2.1)]])),(21,(.row 26 [[(iC 0),(sC nilV)]])),(25,(pR 40 encTBar b15.2.2.2.1)),(26,(.row 26 [[(iC b15.2.2.2.2),(lo 25 b15.2.2.2.1.length)]]))])) ?_ (Ent.of z4 z4) Q (fun b15 _ => ?_)
 ·intro s6
  unfold m_spec_l2Graph_L1
  refine Ws (Ws (Wr ?_))
  refine mv (Iv s6.1) Q Q Q Q (Op20 (LT.gtr Q) Q y2 Q Q (On (AWR.cond Q (fun hc16 => ?_) (fun hc16 => ?_))))
  ·refine AWR.skip (Ws (AWR.block (Ws (Wr ?_))))
   refine mv (Cc (.pl 0 0)) Q Q Q Q (Op10 (LT.fieldPl Q fo26_0) Q Q Q (Op11 (LT.bload1 (c := (iC s6.2.2.2.2.1)) Q ag3 (by exact Q)) Q Q Q Q (Ob' fun r17 hr17 => (AOR.step (@LT.callF Tryz.prog _ _ 67 _ _ [(.c (.pl 0 0)),(.c (iC s6.2.2.2.2.1))] _ _ [] _ _ _ _ ((show Fw.Fn Tryz.prog 67 [(.c (.pl 0 0)),(.c (iC s6.2.2.2.2.1))] [(0,(.row 69 [[(xT encInt_u8 s6.2.1),(iC s6.2.2.1),(iC s6.2.2.2.1)]]))] (Iv r17.1) [(0,(.row 69 [[(xT encInt_u8 r17.2.b),(iC r17.2.i),(iC r17.2.h)]]))] [0] [] from Fw.Fn.ren [(0,0)] (w_spec_l1Below (Tl1Cur.mk s6.2.1 s6.2.2.1 s6.2.2.2.1) s6.2.2.2.2.1 r17 hr17) Q)) Q cb67 (.cons (.c (.same Q)) (.cons (.c (.same Q)) .nil)) Q Q z1) z3 z1 Q Q (asg (Iv r17.1) Q Q Q Q (On (Ws (Wr ?_))))))))
   refine mv (Cc (.pl 0 0)) Q Q Q Q (Op10 (LT.fieldPl Q fo26_0) Q Q Q (Op11 (LT.bload1 (c := (iC s6.2.2.2.2.1)) Q ag3 (by exact Q)) Q Q Q Q (Ob' fun r18 hr18 => (AOR.step (@LT.callF Tryz.prog _ _ 67 _ _ [(.c (.pl 0 0)),(.c (iC s6.2.2.2.2.1))] _ _ [] _ _ _ _ ((show Fw.Fn Tryz.prog 67 [(.c (.pl 0 0)),(.c (iC s6.2.2.2.2.1))] [(0,(.row 69 [[(xT encInt_u8 r17.2.b),(iC r17.2.i),(iC r17.2.h)]]))] (Iv r18.1) [(0,(.row 69 [[(xT encInt_u8 r18.2.b),(iC r18.2.i),(iC r18.2.h)]]))] [0] [] from Fw.Fn.ren [(0,0)] (w_spec_l1Below r17.2 s6.2.2.2.2.1 r18 hr18) Q)) Q cb67 (.cons (.c (.same Q)) (.cons (.c (.same Q)) .nil)) Q Q z1) z3 z1 Q Q (asg (Iv r18.1) Q Q Q Q (On (en [(0,(Cc (.pl 0 0))),(2,(Cc (.pl 21 0))),(3,(Cc (.pl 26 0))),(4,(Iv s6.1)),(5,(Iv r17.1)),(6,(Iv r18.1))] [(0,(.row 69 [[(xT encInt_u8 r18.2.b),(iC r18.2.i),(iC r18.2.h)]])),(21,(.row 26 [[(iC 0),(sC nilV)]])),(25,(pR 40 encTBar s6.2.2.2.2.2)),(26,(.row 26 [[(iC s6.2.2.2.2.1),(lo 25 s6.2.2.2.2.2.length)]]))] z6 z4 (Wr (Op11 (LT.bloadN (out := [(iC s6.2.2.2.2.1),(lo 25 s6.2.2.2.2.2.length)]) Q ag26 (infS inf26) sz26 (by exact Q) (by exact Q)) Q Q Q Q (mv (Iv r17.1) Q Q Q Q (mv (Iv r18.1) Q Q Q Q ?_)))))))))))
   refine Ob' fun r19 hr19 => (AOR.step (@LT.callF Tryz.prog _ _ 21 _ _ [(.agg [(iC s6.2.2.2.2.1),(lo 25 s6.2.2.2.2.2.length)]),(.c (iC r17.1)),(.c (iC r18.1))] _ _ [(25,(pR 40 encTBar s6.2.2.2.2.2))] _ _ _ _ ((show Fw.Fn Tryz.prog 21 [(.agg [(iC ((TGraph.mk s6.2.2.2.2.1 s6.2.2.2.2.2).Points)),(xF encTBar ((TGraph.mk s6.2.2.2.2.1 s6.2.2.2.2.2).Bars))]),(.c (iC r17.1)),(.c (iC r18.1))] [] (.tup [(.agg [(iC r19.1.Points),(lo 32 r19.1.Bars.length)]),(.c (bC r19.2))]) [(32,(pR 40 encTBar r19.1.Bars))] [] [32] from Fw.Fn.ren [(0,32)] (w_spec_AddBar (TGraph.mk s6.2.2.2.2.1 s6.2.2.2.2.2) r17.1 r18.1 r19 hr19) Q)) Q cb21 (.cons (.agg (.cons (.same Q) (.cons (.tloc Q Q) .nil))) (.cons (.c (.same Q)) (.cons (.c (.same Q)) .nil))) Q Q J) z4 z1 Q Q (mv (.tup [(.agg [(iC r19.1.Points),(lo 32 r19.1.Bars.length)]),(.c (bC r19.2))]) Q Q Q Q (Op10 (LT.extract (v := (.agg [(iC r19.1.Points),(lo 32 r19.1.Bars.length)])) Q (by exact Q)) Q Q Q (Op10 (LT.extract (v := (.c (bC r19.2))) Q (by exact Q)) Q Q Q (Os21 (LT.bstore (v := (.agg [(iC r19.1.Points),(lo 32 r19.1.Bars.length)])) (out := [(iC r19.1.Points),(lo 32 r19.1.Bars.length)]) Q Q (infS inf26) sz26 (by exact Q) (by exact K Q) (by exact Q)) Q Q Q Q Q (On (AWR.blk ?_)))))))
   refine en [(0,(Cc (.pl 0 0))),(2,(Cc (.pl 21 0))),(3,(Cc (.pl 26 0))),(4,(Iv s6.1))] [(0,(.row 69 [[(xT encInt_u8 r18.2.b),(iC r18.2.i),(iC r18.2.h)]])),(21,(.row 26 [[(iC 0),(sC nilV)]])),(26,(.row 26 [[(iC r19.1.Points),(lo 32 r19.1.Bars.length)]])),(32,(pR 40 encTBar r19.1.Bars))] z4 z4 (Wr (mv (Iv s6.1) Q Q Q Q (Op20 (LT.sub Q) Q y2 Q Q (asg (Iv (w64 (s6.1 - 1))) Q Q Q Q (On (en [(0,(Cc (.pl 0 0))),(2,(Cc (.pl 21 0))),(3,(Cc (.pl 26 0))),(4,(Iv (w64 (s6.1 - 1))))] [(0,(.row 69 [[(xT encInt_u8 r18.2.b),(iC r18.2.i),(iC r18.2.h)]])),(21,(.row 26 [[(iC 0),(sC nilV)]])),(26,(.row 26 [[(iC r19.1.Points),(lo 32 r19.1.Bars.length)]])),(32,(pR 40 encTBar r19.1.Bars))] z4 z4 (AWR.ent (Ent.mv 32 25 Q Q) (AWR.nil ⟨Q,Ent.of z4 z4⟩))))))))
  ·refine AWR.exit_end Q ⟨Q,Ent.of z2 z4⟩
 ·refine Ws (Wr ?_)
  refine Op11 (LT.bloadN (out := [(iC b15.2.2.2.2),(lo 25 b15.2.2.2.1.length)]) Q ag26 (infS inf26) sz26 (by exact Q) (by exact Q)) Q Q Q Q (Os21 (LT.bstore (v := (.agg [(iC b15.2.2.2.2),(lo 25 b15.2.2.2.1.length)])) (out := [(iC b15.2.2.2.2),(lo 25 b15.2.2.2.1.length)]) Q Q (infS inf26) sz26 (by exact Q) (by exact K Q) (by exact Q)) Q Q Q Q Q (On (en [(2,(Cc (.pl 21 0)))] [(0,(.row 69 [[(xT encInt_u8 b15.1),(iC b15.2.1),(iC b15.2.2.1)]])),(21,(.row 26 [[(iC b15.2.2.2.2),(lo 25 b15.2.2.2.1.length)]])),(25,(pR 40 encTBar b15.2.2.2.1))] z1 z3 (AWR.ent (Ent.mv 25 1 Q Q) (en [(2,(Cc (.pl 21 0)))] [(0,(.row 69 [[(xT encInt_u8 b15.1),(iC b15.2.1),(iC b15.2.2.1)]])),(1,(pR 40 encTBar b15.2.2.2.1)),(21,(.row 26 [[(iC b15.2.2.2.2),(lo 1 b15.2.2.2.1.length)]]))] z1 z3 (AWR.ret (FPost.mk (.inr Q) ⟨⟨_,_,_,Q,Q,Q,ag26,sz26,_,(infS inf26)⟩,J⟩ z2 Q ⟨⟨PermP.sc,J,J⟩,J⟩ ⟨PermO.row1 ⟨(permC_xs perm_encInt_u8),PermP.sc,PermP.sc,J⟩,PermO.prow' perm_encTBar,J⟩)))))))
theorem w_spec_l1PickInt (c : Tl1Cur) (list : (List Int)) : ∀ t,m_spec_l1PickInt c list = some t → Fw.Fn Tryz.prog 94 [(.c (.pl 0 0)),(.c (xF encInt list))] [(0,(.row 69 [[(xT encInt_u8 c.b),(iC c.i),(iC c.h)]]))] (.s (.c (iC t.1))) [(0,(.row 69 [[(xT encInt_u8 t.2.b),(iC t.2.i),(iC t.2.h)]]))] [0] [] := by
 refine Fw.Fn.of (P := Tryz.prog) (X := []) (pn := [0]) (rs := (fun (t : (Int × Tl1Cur)) => [(.c (iC t.1))])) (dfs := (fun (t : (Int × Tl1Cur)) => [(0,(.row 69 [[(xT encInt_u8 t.2.b),(iC t.2.i),(iC t.2.h)]]))])) Tryz.func94 Q Tryz.ntmps94 (K Q) Q ?_
 intro w0 U0 R0 g0
 unfold m_spec_l1PickInt
 refine Ws (Wr ?_)
 refine asg (Iv 0) Q y2 Q Q (On (Ws (Wr ?_)))
 refine mv (Cc (xF encInt list)) Q Q Q Q (mv (Cc (.pl 0 0)) Q Q Q Q (mv (Cc (xF encInt list)) Q Q Q Q (Op10 (LT.tlenRO Q und28) Q Q Q (Ob' fun r1 hr1 => (AOR.step (@LT.callF Tryz.prog _ _ 67 _ _ [(.c (.pl 0 0)),(.c (iC (list.length : Int)))] _ _ [] _ _ _ _ ((show Fw.Fn Tryz.prog 67 [(.c (.pl 0 0)),(.c (iC (list.length : Int)))] [(0,(.row 69 [[(xT encInt_u8 c.b),(iC c.i),(iC c.h)]]))] (Iv r1.1) [(0,(.row 69 [[(xT encInt_u8 r1.2.b),(iC r1.2.i),(iC r1.2.h)]]))] [0] [] from Fw.Fn.ren [(0,0)] (w_spec_l1Below c (list.length : Int) r1 hr1) Q)) Q cb67 (.cons (.c (.same Q)) (.cons (.c (.same Q)) .nil)) Q Q z1) z3 z1 Q Q (Ob' fun x2 hx2 => (Op20 (LT.tindexRO (enc := encInt) Q el28 hx2 sz3) Q Q Q Q (Op10 (LT.loadPx1 Q ag3) Q Q Q (asg (Iv x2) Q Q Q Q (On (AWR.ret (FPost.mk (.inr Q) z1 z1 Q ⟨PermP.sc,J⟩ ⟨PermO.row1 ⟨(permC_xs perm_encInt_u8),PermP.sc,PermP.sc,J⟩,J⟩))))))))))))
theorem w_spec_l2Any (c : Tl1Cur) : ∀ t,m_spec_l2Any c = some t → Fw.Fn Tryz.prog 68 [(.c (.pl 0 0))] [(0,(.row 69 [[(xT encInt_u8 c.b),(iC c.i),(iC c.h)]]))] (.s (.agg [(iC t.1.Points),(lo 1 t.1.Bars.length)])) [(0,(.row 69 [[(xT encInt_u8 t.2.b),(iC t.2.i),(iC t.2.h)]])),(1,(pR 40 encTBar t.1.Bars))] [0] [1] := by
 refine Fw.Fn.of (P := Tryz.prog) (X := [1]) (pn := [0]) (rs := (fun (t : (TGraph × Tl1Cur)) => [(.agg [(iC t.1.Points),(lo 1 t.1.Bars.length)])])) (dfs := (fun (t : (TGraph × Tl1Cur)) => [(0,(.row 69 [[(xT encInt_u8 t.2.b),(iC t.2.i),(iC t.2.h)]])),(1,(pR 40 encTBar t.1.Bars))])) Tryz.func68 Q Tryz.ntmps68 (K Q) Q ?_
 intro w0 U0 R0 g0
 unfold m_spec_l2Any
 refine Ws (Wr ?_)
 refine Os00 (LT.alloc (n := 21) (cells := [(iC 0),(sC nilV)]) Q ti26 Q Q Q) Q Q (On (Ws (Wr ?_)))
 refine mv (Cc (.pl 0 0)) Q Q Q Q (Ob' fun r1 hr1 => (AOR.step (@LT.callF Tryz.prog _ _ 93 _ _ [(.c (.pl 0 0))] _ _ [] _ _ _ _ ((show Fw.Fn Tryz.prog 93 [(.c (.pl 0 0))] [(0,(.row 69 [[(xT encInt_u8 c.b),(iC c.i),(iC c.h)]]))] (Ag  [(iC r1.1.Points),(lo 23 r1.1.Bars.length)]) [(0,(.row 69 [[(xT encInt_u8 r1.2.b),(iC r1.2.i),(iC r1.2.h)]])),(23,(pR 40 encTBar r1.1.Bars))] [0] [23] from Fw.Fn.ren [(0,0),(1,23)] (w_spec_l2Graph c r1 hr1) Q)) Q cb93 (.cons (.c (.same Q)) .nil) Q Q z1) z2 z1 Q Q (Os00 (LT.alloc (n := 24) (cells := [(iC 0),(sC nilV)]) Q ti26 Q Q Q) Q Q (Os21 (LT.bstore (v := (.agg [(iC r1.1.Points),(lo 23 r1.1.Bars.length)])) (out := [(iC r1.1.Points),(lo 23 r1.1.Bars.length)]) Q Q (infS inf26) sz26 (by exact Q) (by exact K Q) (by exact Q)) Q Q Q Q Q (On (Ws (Ws ?_)))))))
 refine en [(0,(Cc (.pl 0 0))),(2,(Cc (.pl 21 0))),(3,(Cc (.pl 24 0)))] [(0,(.row 69 [[(xT encInt_u8 r1.2.b),(iC r1.2.i),(iC r1.2.h)]])),(21,(.row 26 [[(iC 0),(sC nilV)]])),(23,(pR 40 encTBar r1.1.Bars)),(24,(.row 26 [[(iC r1.1.Points),(lo 23 r1.1.Bars.length)]]))] z3 z4 (Wr (mv (Cc (.pl 0 0)) Q Q Q Q (Ob' fun r2 hr2 => (AOR.step (@LT.callF Tryz.prog _ _ 67 _ _ [(.c (.pl 0 0)),(.c (iC 16))] _ _ [] _ _ _ _ ((show Fw.Fn Tryz.prog 67 [(.c (.pl 0 0)),(.c (iC 16))] [(0,(.row 69 [[(xT encInt_u8 r1.2.b),(iC r1.2.i),(iC r1.2.h)]]))] (Iv r2.1) [(0,(.row 69 [[(xT encInt_u8 r2.2.b),(iC r2.2.i),(iC r2.2.h)]]))] [0] [] from Fw.Fn.ren [(0,0)] (w_spec_l1Below r1.2 16 r2 hr2) Q)) Q cb67 (.cons (.c (.same Q)) (.cons (.c (.same Q)) .nil)) Q Q z1) ⟨Q,Q,y2,J⟩ z1 Q Q (On (AWR.block (Ws (Wr ?_))))))))
 refine Op20 (LT.eql Q) Q y2 Q Q (asg (Bv (r2.1 == 0)) Q Q Q Q (On (AWR.joinK (fun j9 => ([(2,(Cc (.pl 21 0))),(3,(Cc (.pl 24 0)))],[(0,(.row 69 [[(xT encInt_u8 j9.1),(iC j9.2.1),(iC j9.2.2.1)]])),(21,(.row 26 [[(iC 0),(sC nilV)]])),(23,(pR 40 encTBar j9.2.2.2.2)),(24,(.row 26 [[(iC j9.2.2.2.1),(lo 23 j9.2.2.2.2.length)]]))])) ?_ (fun j9 _ => ?_))))
 ·refine AWR.cond Q (fun hc10 => ?_) (fun hc10 => ?_)
  ·refine Wr (mv (Cc (.pl 0 0)) Q Q Q Q (Os40 (LT.tbuildSlice (n := 26) (enc := encInt) [(0,.const (.int .i64 0),(.c (iC 0))),(1,.const (.int .i64 (-1)),(.c (iC (-1)))),(2,.const (.int .i64 9),(.c (iC 9))),(3,.const (.int .i64 3),(.c (iC 3)))] ([0,(-1),9,3] : List Int) Q Q und28 ti3 Q Q Q Q (by decide) (fun _ => Q) Q) y2 y2 y2 y2 Q Q (Ob' fun r11 hr11 => (AOR.step (@LT.callF Tryz.prog _ _ 94 _ _ [(.c (.pl 0 0)),(.c (lo 26 (([0,(-1),9,3] : List Int).length)))] _ _ [(26,(pR 3 encInt ([0,(-1),9,3] : List Int)))] _ _ _ _ ((show Fw.Fn Tryz.prog 94 [(.c (.pl 0 0)),(.c (xF encInt ([0,(-1),9,3] : List Int)))] [(0,(.row 69 [[(xT encInt_u8 r2.2.b),(iC r2.2.i),(iC r2.2.h)]]))] (Iv r11.1) [(0,(.row 69 [[(xT encInt_u8 r11.2.b),(iC r11.2.i),(iC r11.2.h)]]))] [0] [] from Fw.Fn.ren [(0,0)] (w_spec_l1PickInt r2.2 ([0,(-1),9,3] : List Int) r11 hr11) Q)) Q cb94 (.cons (.c (.same Q)) (.cons (.c (.tloc Q Q)) .nil)) Q Q z1) z3 z2 Q Q (Op10 (LT.fieldPl Q fo26_0) Q Q Q (Os21 (LT.bstore (v := (.c (iC r11.1))) (out := [(iC r11.1),(lo 23 r1.1.Bars.length)]) Q Q (infS inf3) sz3 (by exact Q) (by exact K Q) (by exact Q)) Q Q Q Q Q (On (AWR.nil ⟨Q,Ent.of z2 z4⟩))))))))
  ·refine Ws (Wr ?_)
   refine Op20 (LT.eql Q) Q y2 Q Q (asg (Bv (r2.1 == 1)) Q Q Q Q (On (AWR.cond Q (fun hc12 => ?_) (fun hc12 => ?_))))
   ·refine AWR.draw mixed (Dp10 (LT.fieldPl Q fo26_1) Q Q Q (Dp11 (LT.bload1 (c := (lo 23 r1.1.Bars.length)) Q ag24 (by exact Q)) Q Q Q Q (Dp10 (LT.move (v := (Cc (.pl 0 0))) Q) Q Q Q (AOD.bind fun r13 hr13 => (AOD.step (@LT.callF Tryz.prog _ _ 67 _ _ [(.c (.pl 0 0)),(.c (iC 3))] _ _ [] _ _ _ _ ((show Fw.Fn Tryz.prog 67 [(.c (.pl 0 0)),(.c (iC 3))] [(0,(.row 69 [[(xT encInt_u8 r2.2.b),(iC r2.2.i),(iC r2.2.h)]]))] (Iv r13.1) [(0,(.row 69 [[(xT encInt_u8 r13.2.b),(iC r13.2.i),(iC r13.2.h)]]))] [0] [] from Fw.Fn.ren [(0,0)] (w_spec_l1Below r2.2 3 r13 hr13) Q)) Q cb67 (.cons (.c (.same Q)) (.cons (.c (.same Q)) .nil)) Q Q z1) ⟨Q,Q,y2,J⟩ z1 Q Q (Dp10 (LT.move (v := (Cc (.pl 0 0))) Q) Q Q Q (AOD.bind fun r14 hr14 => (AOD.step (@LT.callF Tryz.prog _ _ 67 _ _ [(.c (.pl 0 0)),(.c (iC 9))] _ _ [] _ _ _ _ ((show Fw.Fn Tryz.prog 67 [(.c (.pl 0 0)),(.c (iC 9))] [(0,(.row 69 [[(xT encInt_u8 r13.2.b),(iC r13.2.i),(iC r13.2.h)]]))] (Iv r14.1) [(0,(.row 69 [[(xT encInt_u8 r14.2.b),(iC r14.2.i),(iC r14.2.h)]]))] [0] [] from Fw.Fn.ren [(0,0)] (w_spec_l1Below r13.2 9 r14 hr14) Q)) Q cb67 (.cons (.c (.same Q)) (.cons (.c (.same Q)) .nil)) Q Q z1) ⟨Q,Q,y2,J⟩ z1 Q Q (Dp20 (LT.build [(0,.tmp 19,(.c (iC r13.1))),(1,.tmp 21,(.c (iC r14.1)))] Q Q pl40 ti40 Q Q Q) Q Q Q Q (Ds10 (LT.tbuildSlice (n := 30) (enc := encTBar) [(0,.tmp 22,(.agg [(iC r13.1),(iC r14.1)]))] [(TBar.mk r13.1 r14.1)] Q Q und24 ti40 Q Q Q Q (by decide) (fun _ => Q) Q) Q Q Q (AOD.bind fun u15 hu15 => ?_)))))))))))
    refine Ds22 (LT.tappP (enc := encTBar) Q Q Q und24 ti40 Q (by decide) (by decide) (fun _ => Q) (lim_le hu15)) Q Q Q Q Q Q (Dp10 (LT.fieldPl Q fo26_1) Q Q Q (Ds21 (LT.bstore (v := (.c (lo 23 ((r1.1.Bars ++ [(TBar.mk r13.1 r14.1)]).length)))) (out := [(iC r1.1.Points),(lo 23 ((r1.1.Bars ++ [(TBar.mk r13.1 r14.1)]).length))]) Q Q (infS inf24) sz24 (by exact Q) (by exact K Q) (by exact Q)) Q Q Q Q Q (AOD.nil (by kernel_rfl) (AWR.nil ⟨Q,Ent.of z2 z4⟩))))
   ·refine AWR.skip (AWR.nil ⟨Q,Ent.of z2 z4⟩)
 ·refine AWR.blk (Ws (Wr ?_))
  refine Op11 (LT.bloadN (out := [(iC j9.2.2.2.1),(lo 23 j9.2.2.2.2.length)]) Q ag26 (infS inf26) sz26 (by exact Q) (by exact Q)) Q Q Q Q (Os21 (LT.bstore (v := (.agg [(iC j9.2.2.2.1),(lo 23 j9.2.2.2.2.length)])) (out := [(iC j9.2.2.2.1),(lo 23 j9.2.2.2.2.length)]) Q Q (infS inf26) sz26 (by exact Q) (by exact K Q) (by exact Q)) Q Q Q Q Q (On (en [(2,(Cc (.pl 21 0)))] [(0,(.row 69 [[(xT encInt_u8 j9.1),(iC j9.2.1),(iC j9.2.2.1)]])),(21,(.row 26 [[(iC j9.2.2.2.1),(lo 23 j9.2.2.2.2.length)]])),(23,(pR 40 encTBar j9.2.2.2.2))] z1 z3 (AWR.ent (Ent.mv 23 1 Q Q) (en [(2,(Cc (.pl 21 0)))] [(0,(.row 69 [[(xT encInt_u8 j9.1),(iC j9.2.1),(iC j9.2.2.1)]])),(1,(pR 40 encTBar j9.2.2.2.2)),(21,(.row 26 [[(iC j9.2.2.2.1),(lo 1 j9.2.2.2.2.length)]]))] z1 z3 (AWR.ret (FPost.mk (.inr Q) ⟨⟨_,_,_,Q,Q,Q,ag26,sz26,_,(infS inf26)⟩,J⟩ z2 Q ⟨⟨PermP.sc,J,J⟩,J⟩ ⟨PermO.row1 ⟨(permC_xs perm_encInt_u8),PermP.sc,PermP.sc,J⟩,PermO.prow' perm_encTBar,J⟩)))))))
theorem w_spec_l1Once (c : Tl1Cur) (n : Int) : ∀ t,m_spec_l1Once c n = some t → Fw.Fn Tryz.prog 95 [(.c (.pl 0 0)),(.c (iC n))] [(0,(.row 69 [[(xT encInt_u8 c.b),(iC c.i),(iC c.h)]]))] (.s (.c (bC t.1))) [(0,(.row 69 [[(xT encInt_u8 t.2.b),(iC t.2.i),(iC t.2.h)]]))] [0] [] := by
 refine Fw.Fn.of (P := Tryz.prog) (X := []) (pn := [0]) (rs := (fun (t : (Bool × Tl1Cur)) => [(.c (bC t.1))])) (dfs := (fun (t : (Bool × Tl1Cur)) => [(0,(.row 69 [[(xT encInt_u8 t.2.b),(iC t.2.i),(iC t.2.h)]]))])) Tryz.func95 Q Tryz.ntmps95 (K Q) Q ?_
 intro w0 U0 R0 g0
 unfold m_spec_l1Once
 refine Ws (Wr ?_)
 refine asg (Bv false) Q y2 Q Q (On (Ws (Wr ?_)))
 refine mv (Cc (.pl 0 0)) Q Q Q Q (mv (Iv n) Q Q Q Q (Ob' fun r1 hr1 => (AOR.step (@LT.callF Tryz.prog _ _ 67 _ _ [(.c (.pl 0 0)),(.c (iC n))] _ _ [] _ _ _ _ ((show Fw.Fn Tryz.prog 67 [(.c (.pl 0 0)),(.c (iC n))] [(0,(.row 69 [[(xT encInt_u8 c.b),(iC c.i),(iC c.h)]]))] (Iv r1.1) [(0,(.row 69 [[(xT encInt_u8 r1.2.b),(iC r1.2.i),(iC r1.2.h)]]))] [0] [] from Fw.Fn.ren [(0,0)] (w_spec_l1Below c n r1 hr1) Q)) Q cb67 (.cons (.c (.same Q)) (.cons (.c (.same Q)) .nil)) Q Q z1) z3 z1 Q Q (Op20 (LT.eql Q) Q y2 Q Q (asg (Bv (r1.1 == 0)) Q Q Q Q (On (AWR.ret (FPost.mk (.inr Q) z1 z1 Q ⟨PermP.sc,J⟩ ⟨PermO.row1 ⟨(permC_xs perm_encInt_u8),PermP.sc,PermP.sc,J⟩,J⟩))))))))
theorem w_impl_within (x : Int) (loV : Int) (hi : Int) : ∀ t,m_impl_within x loV hi = some t → Fw.Fn Tryz.prog 80 [(.c (iC x)),(.c (iC loV)),(.c (iC hi))] [] (.s (.c (bC t))) [] [] [] := by
 refine Fw.Fn.of (P := Tryz.prog) (X := []) (pn := []) (rs := (fun (t : Bool) => [(.c (bC t))])) (dfs := (fun (t : Bool) => [])) Tryz.func80 Q Tryz.ntmps80 (K Q) Q ?_
 intro w0 U0 R0 g0
 unfold m_impl_within
 refine Ws (Wr ?_)
 refine asg (Bv false) Q y2 Q Q (On (Ws ?_))
 refine AWR.joinK (fun j2 => ([(6,(Bv j2))],[])) ?_ (fun j2 _ => ?_)
 ·refine Wr (mv (Iv x) Q Q Q Q (mv (Iv loV) Q Q Q Q (Op20 (LT.geq Q) Q Q Q Q (mv (Bv (decide (loV ≤ x))) Q Q Q Q (AOR.split (fun hb3 => ?_) (fun hb3 => ?_))))))
  ·refine mv (Iv x) Q Q (gH hb3 Q Q) Q (mv (Iv hi) Q Q (gH hb3 Q Q) Q (Op20 (LT.leq Q) Q Q (gH hb3 Q Q) Q (Op20 (LT.pickT (v := (Bv (decide (x ≤ hi)))) Q hb3) Q Q Q Q (asg (Bv (decide (x ≤ hi))) Q Q Q Q (On (AWR.nil ⟨Q,Ent.of z1 J⟩))))))
  ·refine Ok Q Q Q (by rw [hb3]; rfl) Q (Ok Q Q Q (by rw [hb3]; rfl) Q (Ok Q Q Q (by rw [hb3]; rfl) Q (Op20 (LT.pickF (v := (Bv false)) Q hb3) Q y2 Q Q (asg (Bv false) Q Q Q Q (On (AWR.nil ⟨Q,Ent.of z1 J⟩))))))
 ·refine AWR.ret (FPost.mk (.inr Q) z1 J Q ⟨PermP.sc,J⟩ J)
end Go.Proofs.YteognanhfpbghaaGreat
end
