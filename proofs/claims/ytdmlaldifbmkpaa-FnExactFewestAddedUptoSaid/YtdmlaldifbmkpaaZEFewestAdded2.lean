/- Parts of a proof that a law of the program holds: what the program computes, and why that is right. -/
import Derived.Test.YtdmlaldifbmkpaaProg
import Derived.Test.YtdmlaldifbmkpaaZEFewestAdded1
section
set_option linter.unusedVariables false
set_option linter.unusedSimpArgs false
set_option linter.unnecessarySimpa false
namespace Go.Sp
def su (f : Nat → Nat) : Nat → Nat
 | 0 => 0
 | n + 1 => su f n + f n
theorem uO {f g : Nat → Nat} : ∀ n,(∀ i,i < n → f i = g i) → su f n = su g n
 | 0,_ => rfl
 | n + 1,h => by
  show su f n + f n = su g n + g n
  rw [uO n fun i hi => h i (by omega),h n (by omega)]
theorem nT {f g : Nat → Nat} : ∀ n,(∀ i,i < n → f i ≤ g i) → su f n ≤ su g n
 | 0,_ => Nat.le_refl _
 | n + 1,h => by
  have h1 := nT n fun i hi => h i (by omega)
  have h2 := h n (by omega)
  show su f n + f n ≤ su g n + g n
  omega
theorem og (f g : Nat → Nat) : ∀ n,su (fun i => f i + g i) n = su f n + su g n
 | 0 => rfl
 | n + 1 => by
  show su (fun i => f i + g i) n + (f n + g n) = (su f n + f n) + (su g n + g n)
  rw [og f g n]
  omega
theorem rG {f : Nat → Nat} : ∀ n,(∀ i,i < n → f i = 0) → su f n = 0
 | 0,_ => rfl
 | n + 1,h => by
  show su f n + f n = 0
  rw [rG n fun i hi => h i (by omega),h n (by omega)]
theorem oh {f g : Nat → Nat} {j c : Nat} : ∀ n,j < n → g j = f j + c → (∀ i,i < n → i ≠ j → g i = f i) → su g n = su f n + c
 | 0,hj,_,_ => by omega
 | n + 1,hj,h1,h2 => by
  show su g n + g n = su f n + f n + c
  by_cases hjn : j = n
  ·subst hjn
   rw [uO j fun i hi => h2 i (by omega) (by omega),h1]
   omega
  ·rw [oh n (by omega) h1 fun i hi hne => h2 i (by omega) hne,h2 n (by omega) (fun e => hjn e.symm)]
   omega
theorem GV {f g : Nat → Nat} {j : Nat} : ∀ n,(∀ i,i < n → f i ≤ g i) → j < n → f j < g j → su f n < su g n
 | 0,_,hj,_ => by omega
 | n + 1,h,hj,h1 => by
  show su f n + f n < su g n + g n
  by_cases hjn : j = n
  ·subst hjn
   have := nT j fun i hi => h i (by omega)
   omega
  ·have := GV n (fun i hi => h i (by omega)) (by omega : j < n) h1
   have := h n (by omega)
   omega
theorem Ll {f : Nat → Nat} : ∀ n,0 < su f n → ∃ i,i < n ∧ 0 < f i
 | 0,h => by simp [su] at h
 | n + 1,h => by
  change 0 < su f n + f n at h
  by_cases h1 : 0 < f n
  ·exact ⟨n,by omega,h1⟩
  ·obtain ⟨i,hi,h2⟩ := Ll n (by omega : 0 < su f n)
   exact ⟨i,by omega,h2⟩
theorem Vg {f : Nat → Nat} {j : Nat} {n : Nat} (hj : j < n) : f j ≤ su f n := by
 have : su (fun i => if i = j then f j else 0) n = 0 + f j := by
  have := oh (f := fun _ => 0) (g := fun i => if i = j then f j else 0) (c := f j) n hj (by simp) (fun i _ hne => by simp [hne])
  rw [this,rG n fun _ _ => rfl]
 have h2 := nT (f := fun i => if i = j then f j else 0) (g := f) n fun i _ => by
  show (if i = j then f j else 0) ≤ f i
  split
  ·rename_i h; subst h; exact Nat.le_refl _
  ·exact Nat.zero_le _
 omega
def inn (X : Nat → Bool) (i : Nat) : Bool := X (i / 8) && X (i % 8)
def size (X : Nat → Bool) : Nat := su (fun v => if X v then 1 else 0) 8
def span (I : Nat → Nat) (X : Nat → Bool) : Nat := su (fun i => if inn X i then I i else 0) 64
def card (I : Nat → Nat) : Nat := su I 64
def cap (X Y : Nat → Bool) (v : Nat) : Bool := X v && Y v
def mM (X Y : Nat → Bool) (v : Nat) : Bool := X v || Y v
def add1 (I : Nat → Nat) (e i : Nat) : Nat := if i = e then I i + 1 else I i
def jW (I : Nat → Nat) (e i : Nat) : Nat := if i = e then I i - 1 else I i
theorem Et (X Y : Nat → Bool) (i : Nat) : inn (cap X Y) i = (inn X i && inn Y i) := by
 unfold inn cap
 cases X (i / 8) <;> cases X (i % 8) <;> cases Y (i / 8) <;> cases Y (i % 8) <;> rfl
theorem vF {X Y : Nat → Bool} {i : Nat} (h : inn X i = true ∨ inn Y i = true) : inn (mM X Y) i = true := by
 unfold inn mM at *
 revert h
 cases X (i / 8) <;> cases X (i % 8) <;> cases Y (i / 8) <;> cases Y (i % 8) <;> simp
theorem VQ (X Y : Nat → Bool) : size (cap X Y) + size (mM X Y) = size X + size Y := by
 unfold size
 rw [← og,← og]
 refine uO 8 fun v _ => ?_
 unfold cap mM
 cases X v <;> cases Y v <;> rfl
theorem VX (I : Nat → Nat) (X Y : Nat → Bool) : span I X + span I Y ≤ span I (cap X Y) + span I (mM X Y) := by
 unfold span
 rw [← og,← og]
 refine nT 64 fun i _ => ?_
 show (if inn X i then I i else 0) + (if inn Y i then I i else 0) ≤ (if inn (cap X Y) i then I i else 0) + (if inn (mM X Y) i then I i else 0)
 rw [Et]
 cases hx : inn X i <;> cases hy : inn Y i
 ·simp
 ·rw [vF (.inr hy)]; simp
 ·rw [vF (.inl hx)]; simp
 ·rw [vF (.inl hx)]; simp
theorem size_two {X : Nat → Bool} {a b : Nat} (ha : a < 8) (hb : b < 8) (hab : a ≠ b) (xa : X a = true) (xb : X b = true) : 2 ≤ size X := by
 unfold size
 have h1 : su (fun v => if v = a then 1 else 0) 8 = 1 := by
  have := oh (f := fun _ => 0) (g := fun v => if v = a then 1 else 0) (c := 1) 8 ha (by simp) (fun i _ hne => by simp [hne])
  rw [this,rG 8 fun _ _ => rfl]
 have h2 : su (fun v => if v = b then 1 else 0) 8 = 1 := by
  have := oh (f := fun _ => 0) (g := fun v => if v = b then 1 else 0) (c := 1) 8 hb (by simp) (fun i _ hne => by simp [hne])
  rw [this,rG 8 fun _ _ => rfl]
 have h3 := nT (f := fun v => (if v = a then 1 else 0) + (if v = b then 1 else 0)) (g := fun v => if X v then 1 else 0) 8 fun v _ => by
  show (if v = a then 1 else 0) + (if v = b then 1 else 0) ≤ (if X v then 1 else 0)
  by_cases h1 : v = a
  ·subst h1
   rw [if_pos rfl,if_neg hab,xa]
   simp
  ·by_cases h2 : v = b
   ·subst h2
    rw [if_neg h1,if_pos rfl,xb]
    simp
   ·rw [if_neg h1,if_neg h2]
    exact Nat.zero_le _
 rw [og,h1,h2] at h3
 exact h3
theorem CP {X : Nat → Bool} {i : Nat} (hi : i < 64) (hne : i / 8 ≠ i % 8) (h : inn X i = true) : 2 ≤ size X := by
 unfold inn at h
 rw [Bool.and_eq_true] at h
 exact size_two (by omega) (by omega) hne h.1 h.2
theorem uN (I : Nat → Nat) {e : Nat} (he : e < 64) (X : Nat → Bool) : span (add1 I e) X = span I X + if inn X e then 1 else 0 := by
 unfold span
 refine oh (j := e) 64 he ?_ (fun i _ hne => ?_)
 ·show (if inn X e then add1 I e e else 0) = (if inn X e then I e else 0) + _
  unfold add1
  cases inn X e <;> simp
 ·show (if inn X i then add1 I e i else 0) = (if inn X i then I i else 0)
  unfold add1
  rw [if_neg hne]
theorem Va {I : Nat → Nat} {e : Nat} (he : e < 64) (hp : 0 < I e) (X : Nat → Bool) : span (jW I e) X + (if inn X e then 1 else 0) = span I X := by
 have h : span I X = span (add1 (jW I e) e) X := by
  unfold span
  refine uO 64 fun i _ => ?_
  have : add1 (jW I e) e i = I i := by
   unfold add1 jW
   by_cases h : i = e
   ·subst h
    simp
    omega
   ·simp [h]
  rw [this]
 rw [h,uN _ he]
theorem zo (I : Nat → Nat) {e : Nat} (he : e < 64) : card (add1 I e) = card I + 1 :=
 oh (j := e) 64 he (by simp [add1]) (fun i _ hne => by simp [add1,hne])
theorem Hr {I : Nat → Nat} {e : Nat} (he : e < 64) (hp : 0 < I e) : card (jW I e) + 1 = card I :=
 (oh (f := jW I e) (g := I) (j := e) 64 he (by simp [jW]; omega) (fun i _ hne => by simp [jW,hne])).symm
theorem GR {I J : Nat → Nat} (h : ∀ i,i < 64 → I i ≤ J i) (X : Nat → Bool) : span I X ≤ span J X :=
 nT 64 fun i hi => by
  show (if inn X i then I i else 0) ≤ (if inn X i then J i else 0)
  split
  ·exact h i hi
  ·exact Nat.le_refl _
theorem VY {I J : Nat → Nat} (h : ∀ i,i < 64 → I i = J i) (X : Nat → Bool) : span I X = span J X :=
 uO 64 fun i hi => by rw [h i hi]
structure Sparse (k l : Nat) (I : Nat → Nat) : Prop where
 sp : ∀ X,0 < span I X → span I X + l ≤ k * size X
 ll : ∀ i,i < 64 → 0 < I i → i / 8 ≠ i % 8
def tight (k l : Nat) (I : Nat → Nat) (X : Nat → Bool) : Prop := span I X + l = k * size X
section
variable {k l : Nat} {I J : Nat → Nat}
theorem Sparse.congr (h : Sparse k l I) (e : ∀ i,i < 64 → I i = J i) : Sparse k l J :=
 ⟨fun X hX => by rw [← VY e X] at hX ⊢; exact h.sp X hX,fun i hi hp => h.ll i hi (by rw [e i hi]; exact hp)⟩
theorem Sparse.sub (h : Sparse k l I) (e : ∀ i,i < 64 → J i ≤ I i) : Sparse k l J :=
 ⟨fun X hX => by
  have h1 := GR e X
  have := h.sp X (by omega)
  omega,fun i hi hp => h.ll i hi (by have := e i hi; omega)⟩
theorem Sparse.bound (hl : l < 2 * k) (h : Sparse k l I) {X : Nat → Bool} (h2 : 2 ≤ size X) : span I X + l ≤ k * size X := by
 by_cases h0 : 0 < span I X
 ·exact h.sp X h0
 ·have : 2 * k ≤ k * size X := by rw [Nat.mul_comm]; exact Nat.mul_le_mul_left _ h2
  omega
theorem L6 (hl : l < 2 * k) (h : Sparse k l I) {X Y : Nat → Bool} (hX : tight k l I X) (hY : tight k l I Y) (h2 : 2 ≤ size (cap X Y)) : tight k l I (cap X Y) ∧ tight k l I (mM X Y) := by
 have h1 := VQ X Y
 have h3 := VX I X Y
 have hsz : size (cap X Y) ≤ size (mM X Y) := nT 8 fun v _ => by
  show (if cap X Y v then 1 else 0) ≤ (if mM X Y v then 1 else 0)
  unfold cap mM
  cases X v <;> cases Y v <;> simp
 have h4 := h.bound hl h2
 have h5 := h.bound hl (X := mM X Y) (by omega)
 unfold tight at *
 have h6 : k * size (cap X Y) + k * size (mM X Y) = k * size X + k * size Y := by rw [← Nat.mul_add,← Nat.mul_add,h1]
 omega
theorem not_add (hl : l < 2 * k) (h : Sparse k l I) {e : Nat} (he : e < 64) (hne : e / 8 ≠ e % 8) (hn : ¬ Sparse k l (add1 I e)) : ∃ X,inn X e = true ∧ tight k l I X := by
 apply Classical.byContradiction
 intro hno
 refine hn ⟨fun X hX => ?_,fun i hi hp => ?_⟩
 ·rw [uN I he] at hX ⊢
  cases hx : inn X e with
  | false =>
   rw [hx] at hX
   simp only [Bool.false_eq_true,if_false,Nat.add_zero] at hX ⊢
   exact h.sp X hX
  | true =>
   have h2 := CP he hne hx
   have h3 := h.bound hl h2
   by_cases ht : tight k l I X
   ·exact absurd ⟨X,hx,ht⟩ hno
   ·unfold tight at ht
    simp only [if_true]
    omega
 ·unfold add1 at hp
  by_cases hie : i = e
  ·rw [hie]; exact hne
  ·rw [if_neg hie] at hp
   exact h.ll i hi hp
theorem CS {e : Nat} (he : e < 64) {X : Nat → Bool} (hx : inn X e = true) (ht : k * size X ≤ span I X + l) : ¬ Sparse k l (add1 I e) := fun h => by
 have := h.sp X (by rw [uN I he,hx]; simp)
 rw [uN I he,hx] at this
 simp only [if_true] at this
 omega
theorem Jp {e : Nat} : ∀ n,(∃ X,size X ≤ n ∧ inn X e = true ∧ tight k l I X) → ∃ X,inn X e = true ∧ tight k l I X ∧ ∀ Y,inn Y e = true → tight k l I Y → size X ≤ size Y
 | 0,⟨X,h0,h1,h2⟩ => ⟨X,h1,h2,fun Y _ _ => by omega⟩
 | n + 1,⟨X,h0,h1,h2⟩ => by
  by_cases h : ∃ Y,size Y ≤ n ∧ inn Y e = true ∧ tight k l I Y
  ·exact Jp n h
  ·refine ⟨X,h1,h2,fun Y h3 h4 => ?_⟩
   apply Classical.byContradiction
   intro h5
   exact h ⟨Y,by omega,h3,h4⟩
theorem Nc {X Y : Nat → Bool} {f : Nat} (hf : f < 64) (hX : inn X f = true) (hY : inn Y f = false) : size (cap X Y) < size X := by
 unfold inn at hX hY
 rw [Bool.and_eq_true] at hX
 have : ∃ v,v < 8 ∧ X v = true ∧ Y v = false := by
  cases h1 : Y (f / 8) with
  | false => exact ⟨f / 8,by omega,hX.1,h1⟩
  | true =>
   rw [h1,Bool.true_and] at hY
   exact ⟨f % 8,by omega,hX.2,hY⟩
 obtain ⟨v,hv,h1,h2⟩ := this
 refine GV 8 (fun v _ => ?_) hv ?_
 ·show (if cap X Y v then 1 else 0) ≤ (if X v then 1 else 0)
  unfold cap
  cases X v <;> cases Y v <;> simp
 ·show (if cap X Y v then 1 else 0) < (if X v then 1 else 0)
  unfold cap
  rw [h1,h2]
  simp
theorem Ic (hl : l < 2 * k) : ∀ n (I J : Nat → Nat),Sparse k l I → Sparse k l J → su (fun i => J i - I i) 64 ≤ n → card I < card J → ∃ e,e < 64 ∧ I e < J e ∧ Sparse k l (add1 I e) := by
 intro n
 induction n with
 | zero =>
  intro I J hI hJ hn hc
  have : card J ≤ card I := nT 64 fun i hi => by
   have : J i - I i ≤ su (fun i => J i - I i) 64 := Vg (f := fun i => J i - I i) hi
   omega
  omega
 | succ n ih =>
  intro I J hI hJ hn hc
  apply Classical.byContradiction
  intro hno
  have hnot : ∀ e,e < 64 → I e < J e → ¬ Sparse k l (add1 I e) := fun e h1 h2 h3 => hno ⟨e,h1,h2,h3⟩
  -- a bar of J more
  have : ∃ e,e < 64 ∧ I e < J e := by
   apply Classical.byContradiction
   intro hx
   have : card J ≤ card I := nT 64 fun i hi => by
    apply Classical.byContradiction
    intro h
    exact hx ⟨i,hi,by omega⟩
   omega
  obtain ⟨e,he,hle⟩ := this
  have hne := hJ.ll e he (by omega)
  obtain ⟨X0,hx0,ht0⟩ := not_add hl hI he hne (hnot e he hle)
  obtain ⟨X,hx,ht,hmin⟩ := Jp (size X0) ⟨X0,Nat.le_refl _,hx0,ht0⟩
  -- a bar of I more,in X
  have : ∃ f,f < 64 ∧ inn X f = true ∧ J f < I f := by
   apply Classical.byContradiction
   intro Qg
   have h1 : span I X < span J X := GV (j := e) 64 (fun i hi => by
    show (if inn X i then I i else 0) ≤ (if inn X i then J i else 0)
    cases hxi : inn X i with
    | false => exact Nat.le_refl _
    | true =>
     simp only [if_true]
     apply Classical.byContradiction
     intro h
     exact Qg ⟨i,hi,hxi,by omega⟩) he (by
    show (if inn X e then I e else 0) < (if inn X e then J e else 0)
    rw [hx]
    exact hle)
   have h2 := hJ.sp X (by omega)
   unfold tight at ht
   omega
  obtain ⟨f,hf,En,hlf⟩ := this
  have hfe : f ≠ e := fun h => by subst h; omega
  have EP := hI.ll f hf (by omega)
  have hpf : 0 < add1 I e f := by unfold add1; rw [if_neg hfe]; omega
  -- the exchange
  have Ee : ∀ Y,span (jW (add1 I e) f) Y + (if inn Y f then 1 else 0) = span I Y + (if inn Y e then 1 else 0) := fun Y => by
   rw [Va hf hpf,uN I he]
  have hI' : Sparse k l (jW (add1 I e) f) := by
   refine ⟨fun Y hY => ?_,fun i hi hp => ?_⟩
   ·have hs := Ee Y
    obtain ⟨i,hi,hpi⟩ := Ll 64 hY
    have hyi : inn Y i = true := by
     cases h : inn Y i with
     | true => rfl
     | false => rw [h] at hpi; simp at hpi
    have Qb : i / 8 ≠ i % 8 := by
     rw [hyi] at hpi
     simp only [if_true] at hpi
     unfold jW add1 at hpi
     by_cases hie : i = e
     ·rw [hie]; exact hne
     ·by_cases hif : i = f
      ·rw [hif]; exact EP
      ·rw [if_neg hif,if_neg hie] at hpi
       exact hI.ll i hi hpi
    have h2 := CP hi Qb hyi
    have hb := hI.bound hl h2
    cases hye : inn Y e with
    | false =>
     rw [hye] at hs
     simp only [Bool.false_eq_true,if_false] at hs
     omega
    | true =>
     cases Eo : inn Y f with
     | true =>
      rw [hye,Eo] at hs
      simp only [if_true] at hs
      omega
     | false =>
      rw [hye,Eo] at hs
      simp only [if_true,Bool.false_eq_true,if_false] at hs
      by_cases hty : tight k l I Y
      ·have hc2 : inn (cap X Y) e = true := by rw [Et,hx,hye]; rfl
       have h3 := CP he hne hc2
       have h4 := (L6 hl hI ht hty h3).1
       have h5 := hmin _ hc2 h4
       have h6 := Nc hf En Eo
       omega
      ·unfold tight at hty
       omega
   ·unfold jW add1 at hp
    by_cases hie : i = e
    ·rw [hie]; exact hne
    ·by_cases hif : i = f
     ·rw [hif]; exact EP
     ·rw [if_neg hif,if_neg hie] at hp
      exact hI.ll i hi hp
  have XL : card (jW (add1 I e) f) = card I := by
   have h1 := Hr hf hpf
   have h2 := zo I he
   omega
  have hdist : su (fun i => J i - jW (add1 I e) f i) 64 ≤ n := by
   have h1 := oh (f := fun i => J i - jW (add1 I e) f i) (g := fun i => J i - I i) (j := e) (c := 1) 64 he (by
    show J e - I e = J e - jW (add1 I e) f e + 1
    unfold jW add1
    rw [if_neg (Ne.symm hfe),if_pos rfl]
    omega) (fun i _ hie => by
    show J i - I i = J i - jW (add1 I e) f i
    unfold jW add1
    by_cases hif : i = f
    ·subst hif
     rw [if_pos rfl,if_neg hie]
     omega
    ·rw [if_neg hif,if_neg hie])
   omega
  obtain ⟨e',he',hle',hs'⟩ := ih _ J hI' hJ hdist (by omega)
  have hef : e' ≠ f := fun h => by
   subst h
   unfold jW add1 at hle'
   rw [if_pos rfl,if_neg hfe] at hle'
   omega
  have Qd : I e' < J e' := by
   unfold jW add1 at hle'
   rw [if_neg hef] at hle'
   by_cases h : e' = e
   ·rw [if_pos h] at hle'
    omega
   ·rw [if_neg h] at hle'
    exact hle'
  obtain ⟨X',hx',ht'⟩ := not_add hl hI he' (hJ.ll e' he' (by omega)) (hnot e' he' Qd)
  cases Jb : inn X' f with
  | false =>
   have hs := Ee X'
   rw [Jb] at hs
   simp only [Bool.false_eq_true,if_false] at hs
   refine CS he' hx' ?_ hs'
   unfold tight at ht'
   omega
  | true =>
   have hc2 : inn (cap X X') f = true := by rw [Et,En,Jb]; rfl
   have h4 := (L6 hl hI ht ht' (CP hf EP hc2)).2
   have hs := Ee (mM X X')
   rw [vF (.inl hx),vF (.inl En)] at hs
   simp only [if_true] at hs
   refine CS (X := mM X X') he' (vF (.inr hx')) ?_ hs'
   unfold tight at h4
   omega
structure jI (k l : Nat) (M : Nat → Nat) (r : Nat) : Prop where
 ex : ∃ I,(∀ i,i < 64 → I i ≤ M i) ∧ Sparse k l I ∧ card I = r
 mx : ∀ J,(∀ i,i < 64 → J i ≤ M i) → Sparse k l J → card J ≤ r
variable {M N : Nat → Nat} {r s : Nat}
theorem jI.mono (h : jI k l M r) (h2 : jI k l N s) (uj : ∀ i,i < 64 → M i ≤ N i) : r ≤ s := by
 obtain ⟨I,h3,h4,h5⟩ := h.ex
 have := h2.mx I (fun i hi => Nat.le_trans (h3 i hi) (uj i hi)) h4
 omega
theorem jI.uniq (h : jI k l M r) (h2 : jI k l N s) (uj : ∀ i,i < 64 → M i = N i) : r = s :=
 Nat.le_antisymm (h.mono h2 fun i hi => Nat.le_of_eq (uj i hi)) (h2.mono h fun i hi => Nat.le_of_eq (uj i hi).symm)
theorem jI.KY (hl : l < 2 * k) (hI : Sparse k l I) (h1 : ∀ i,i < 64 → I i ≤ M i) (h2 : ∀ e,e < 64 → I e < M e → ¬ Sparse k l (add1 I e)) : jI k l M (card I) :=
 ⟨⟨I,h1,hI,rfl⟩,fun J hJ hs => by
  apply Classical.byContradiction
  intro h
  obtain ⟨e,he,hlt,hsp⟩ := Ic hl _ I J hI hs (Nat.le_refl _) (by omega)
  exact h2 e he (Nat.lt_of_lt_of_le hlt (hJ e he)) hsp⟩
theorem jI.extend (hl : l < 2 * k) (h : jI k l M r) : ∀ n (I : Nat → Nat),Sparse k l I → (∀ i,i < 64 → I i ≤ M i) → card I + n = r → ∃ I',(∀ i,i < 64 → I i ≤ I' i) ∧ (∀ i,i < 64 → I' i ≤ M i) ∧ Sparse k l I' ∧ card I' = r := by
 intro n
 induction n with
 | zero => intro I hI h1 h2; exact ⟨I,fun _ _ => Nat.le_refl _,h1,hI,by omega⟩
 | succ n ih =>
  intro I hI h1 h2
  obtain ⟨B,b1,b2,b3⟩ := h.ex
  obtain ⟨e,he,hlt,hsp⟩ := Ic hl _ I B hI b2 (Nat.le_refl _) (by omega)
  obtain ⟨I',c1,c2,c3,c4⟩ := ih (add1 I e) hsp (fun i hi => by
   unfold add1
   by_cases hie : i = e
   ·rw [if_pos hie]
    subst hie
    have := b1 i hi
    omega
   ·rw [if_neg hie]
    exact h1 i hi) (by rw [zo I he]; omega)
  refine ⟨I',fun i hi => ?_,c2,c3,c4⟩
  have := c1 i hi
  unfold add1 at this
  split at this <;> omega
theorem jI.fill (hl : l < 2 * k) (h : jI k l M r) (hI : Sparse k l I) (h1 : ∀ i,i < 64 → I i ≤ M i) {S : Nat → Bool} (ht : tight k l I S) (uj : ∀ i,i < 64 → M i ≤ N i) (hS : ∀ i,i < 64 → M i < N i → inn S i = true) : jI k l N r := by
 have hc := h.mx I h1 hI
 obtain ⟨I',c1,c2,c3,c4⟩ := h.extend hl (r - card I) I hI h1 (by omega)
 have : jI k l N (card I') := jI.KY hl c3 (fun i hi => Nat.le_trans (c2 i hi) (uj i hi)) fun e he hlt => by
  by_cases hM : I' e < M e
  ·intro hsp
   have := h.mx (add1 I' e) (fun i hi => by
    unfold add1
    by_cases hie : i = e
    ·rw [if_pos hie]; subst hie; omega
    ·rw [if_neg hie]; exact c2 i hi) hsp
   rw [zo I' he] at this
   omega
  ·have hin := hS e he (by have := c2 e he; omega)
   refine CS he hin ?_
   have := GR c1 S
   unfold tight at ht
   omega
 rw [c4] at this
 exact this
theorem jI.add (h : jI k l M r) {e : Nat} (he : e < 64) (h2 : jI k l (add1 M e) s) : r ≤ s ∧ s ≤ r + 1 := by
 refine ⟨h.mono h2 fun i hi => by unfold add1; split <;> omega,?_⟩
 obtain ⟨I,h3,h4,h5⟩ := h2.ex
 by_cases hle : I e ≤ M e
 ·have := h.mx I (fun i hi => by
   have := h3 i hi
   unfold add1 at this
   by_cases hie : i = e
   ·subst hie; exact hle
   ·rw [if_neg hie] at this; exact this) h4
  omega
 ·have hp : 0 < I e := by omega
  have := h.mx (jW I e) (fun i hi => by
   have := h3 i hi
   unfold add1 at this
   unfold jW
   by_cases hie : i = e
   ·rw [if_pos hie] at this ⊢; omega
   ·rw [if_neg hie] at this ⊢; exact this) (h4.sub fun i hi => by unfold jW; split <;> omega)
  have := Hr he hp
  omega
theorem jI.split (h : jI k l M r) {A B : Nat → Nat} {a b : Nat} (hA : jI k l A a) (hB : jI k l B b) (hM : ∀ i,i < 64 → M i ≤ A i + B i) : r ≤ a + b := by
 obtain ⟨I,h3,h4,h5⟩ := h.ex
 have h6 := hA.mx (fun i => min (I i) (A i)) (fun i _ => Nat.min_le_right _ _) (h4.sub fun i _ => Nat.min_le_left _ _)
 have h7 := hB.mx (fun i => I i - A i) (fun i hi => by have := h3 i hi; have := hM i hi; omega) (h4.sub fun i _ => Nat.sub_le _ _)
 have h8 : card I = card (fun i => min (I i) (A i)) + card (fun i => I i - A i) := by
  unfold card
  rw [← og]
  exact uO 64 fun i _ => by omega
 omega
end
end Go.Sp
end
section
set_option linter.unusedVariables false
set_option linter.unusedSimpArgs false
set_option linter.unnecessarySimpa false
open Go Go.Fw Go.Sp
namespace Go.Proofs.Ytdmlaldifbmkpaa
def kH (x : aK) : Nat := x.A.toNat * 8 + x.B.toNat
def mult : List aK → Nat → Nat
 | [],_ => 0
 | x :: L,i => add1 (mult L) (kH x) i
structure lY (x : aK) : Prop where
 a0 : 0 ≤ x.A
 a8 : x.A < 8
 b0 : 0 ≤ x.B
 b8 : x.B < 8
 ab : x.A ≠ x.B
theorem lY.lt {x : aK} (h : lY x) : kH x < 64 := by
 have := h.a0; have := h.a8; have := h.b0; have := h.b8
 unfold kH
 omega
theorem lY.dm {x : aK} (h : lY x) : kH x / 8 = x.A.toNat ∧ kH x % 8 = x.B.toNat := by
 have := h.a0; have := h.a8; have := h.b0; have := h.b8
 unfold kH
 omega
theorem lY.ne {x : aK} (h : lY x) : kH x / 8 ≠ kH x % 8 := by
 have := h.a0; have := h.a8; have := h.b0; have := h.b8; have := h.ab
 rw [h.dm.1,h.dm.2]
 omega
theorem lY.inn {x : aK} (h : lY x) (X : Nat → Bool) : Sp.inn X (kH x) = (X x.A.toNat && X x.B.toNat) := by
 unfold Sp.inn
 rw [h.dm.1,h.dm.2]
theorem wK (L L' : List aK) (i : Nat) : mult (L ++ L') i = mult L i + mult L' i := by
 induction L with
 | nil => simp [mult]
 | cons x L ih =>
  simp only [List.cons_append,mult,add1]
  split <;> omega
theorem FM (L : List aK) (x : aK) (i : Nat) : mult (L ++ [x]) i = add1 (mult L) (kH x) i := by
 rw [wK]
 simp only [mult,add1]
 split <;> omega
theorem UW {L L' : List aK} (h : L.Perm L') (i : Nat) : mult L i = mult L' i := by
 induction h with
 | nil => rfl
 | cons x _ ih => simp only [mult,add1,ih]
 | swap x y L =>
  simp only [mult,add1]
  split <;> split <;> rfl
 | trans _ _ ih1 ih2 => exact ih1.trans ih2
theorem UX {L : List aK} {i : Nat} (h : 0 < mult L i) : ∃ x ∈ L,kH x = i := by
 induction L with
 | nil => simp [mult] at h
 | cons x L ih =>
  by_cases hi : i = kH x
  ·exact ⟨x,List.mem_cons_self ..,hi.symm⟩
  ·simp only [mult,add1,if_neg hi] at h
   obtain ⟨y,h1,h2⟩ := ih h
   exact ⟨y,List.mem_cons_of_mem _ h1,h2⟩
theorem Nh {L : List aK} (h : ∀ x ∈ L,lY x) : card (mult L) = L.length := by
 induction L with
 | nil => exact rG 64 fun _ _ => rfl
 | cons x L ih =>
  show card (add1 (mult L) (kH x)) = L.length + 1
  rw [zo _ (h x (List.mem_cons_self ..)).lt,ih fun y hy => h y (List.mem_cons_of_mem _ hy)]
theorem GU {L : List aK} (h : ∀ x ∈ L,lY x) (X : Nat → Bool) : span (mult L) X = L.countP fun x => X x.A.toNat && X x.B.toNat := by
 induction L with
 | nil =>
  refine rG 64 fun i _ => ?_
  show (if inn X i then 0 else 0) = 0
  split <;> rfl
 | cons x L ih =>
  have hx := h x (List.mem_cons_self ..)
  show span (add1 (mult L) (kH x)) X = _
  rw [uN _ hx.lt,hx.inn,ih fun y hy => h y (List.mem_cons_of_mem _ hy),List.countP_cons]
theorem Lj (c : Nat) (f : Nat → Nat) : ∀ n,su (fun i => c * f i) n = c * su f n
 | 0 => by simp [su]
 | n + 1 => by
  show su (fun i => c * f i) n + c * f n = c * (su f n + f n)
  rw [Lj c f n,Nat.mul_add]
theorem CQ (f : Nat → Nat) {j n : Nat} (hj : j < n) : su (fun i => if i = j then f j else 0) n = f j := by
 have := oh (f := fun _ => 0) (g := fun i => if i = j then f j else 0) (c := f j) n hj (by simp) (fun i _ hne => by simp [hne])
 rw [this,rG n fun _ _ => rfl]
 omega
theorem Vh (f : Nat → Nat) {a b n : Nat} (ha : a < n) (hb : b < n) (hab : a ≠ b) : f a + f b ≤ su f n := by
 have h3 := nT (f := fun v => (if v = a then f a else 0) + (if v = b then f b else 0)) (g := f) n fun v _ => by
  show (if v = a then f a else 0) + (if v = b then f b else 0) ≤ f v
  by_cases h1 : v = a
  ·subst h1
   rw [if_pos rfl,if_neg hab]
   exact Nat.le_refl _
  ·by_cases h2 : v = b
   ·subst h2
    rw [if_neg h1,if_pos rfl]
    omega
   ·rw [if_neg h1,if_neg h2]
    exact Nat.zero_le _
 rw [og,CQ f ha,CQ f hb] at h3
 exact h3
theorem Lp (X : Nat → Bool) : ∀ T : List Int,(∀ t ∈ T,0 ≤ t ∧ t < 8) → su (fun v => if X v then T.count (v : Int) else 0) 8 = T.countP fun t => X t.toNat
 | [],_ => by
  refine rG 8 fun v _ => ?_
  show (if X v then ([] : List Int).count (v : Int) else 0) = 0
  split <;> rfl
 | t :: T,h => by
  have ht := h t (List.mem_cons_self ..)
  rw [List.countP_cons,← Lp X T fun s hs => h s (List.mem_cons_of_mem _ hs)]
  refine oh (j := t.toNat) 8 (by omega) ?_ (fun i _ hne => ?_)
  ·show (if X t.toNat then (t :: T).count ((t.toNat : Nat) : Int) else 0) = _
   rw [Int.toNat_of_nonneg ht.1,List.count_cons_self]
   cases X t.toNat <;> simp
  ·show (if X i then (t :: T).count (i : Int) else 0) = (if X i then T.count (i : Int) else 0)
   rw [List.count_cons_of_ne (by omega)]
theorem Dh {α β : Type} {p : α → Bool} {q : β → Bool} : ∀ (L : List α) (T : List β),L.length = T.length → (∀ (i : Nat) x t,L[i]? = some x → T[i]? = some t → p x = true → q t = true) → L.countP p ≤ T.countP q
 | [],_,_,_ => by simp
 | x :: L,[],h,_ => by simp at h
 | x :: L,t :: T,h,hh => by
  have h1 := Dh L T (by simpa using h) fun i x t hx ht => hh (i + 1) x t (by simpa using hx) (by simpa using ht)
  have h2 := hh 0 x t rfl rfl
  rw [List.countP_cons,List.countP_cons]
  cases hp : p x with
  | false => simp; split <;> omega
  | true => rw [h2 hp]; simp; exact h1
section
variable {P : Int} {bars : List aK} {k : Int} {m : Nat} {p : aY}
def jO (bars : List aK) (p : aY) : List aK := (List.range p.aI.length).map (fH bars p)
theorem GB.ok (hg : GB P bars) {i : Nat} {x : aK} (h : bars[i]? = some x) : lY x := by
 have := hg.p8
 exact ⟨hg.a0 h,by have := hg.ap h; omega,hg.b0 h,by have := hg.bp h; omega,hg.ab h⟩
theorem GB.Ui (hg : GB P bars) : ∀ x ∈ bars,lY x := fun x hx => by
 obtain ⟨i,hi⟩ := List.getElem?_of_mem hx
 exact hg.ok hi
theorem Fh : (jO bars p).length = p.aI.length := by simp [jO]
theorem Fg {i : Nat} {x : aK} (h : (jO bars p)[i]? = some x) : i < p.aI.length ∧ x = fH bars p i := by
 unfold jO at h
 rw [List.getElem?_map] at h
 cases hr : (List.range p.aI.length)[i]? with
 | none => rw [hr] at h; cases h
 | some j =>
  rw [hr] at h
  have hj := List.getElem?_eq_some_iff.1 hr
  obtain ⟨h1,h2⟩ := hj
  simp at h1 h2 h
  subst h2
  exact ⟨h1,h.symm⟩
theorem PB.Fj (hg : GB P bars) (hp : PB P bars k m p) : ∀ x ∈ jO bars p,lY x := fun x hx => by
 obtain ⟨i,hi⟩ := List.getElem?_of_mem hx
 obtain ⟨h1,rfl⟩ := Fg hi
 obtain ⟨_,_,_,h2⟩ := hp.bar hg h1
 exact hg.ok h2
theorem LD {p' : aY} (h : p'.aI = p.aI) : jO bars p' = jO bars p := by
 unfold jO
 rw [h]
 refine List.map_congr_left fun i _ => ?_
 unfold fH
 rw [h]
theorem Us {F T : List Int} {x : aK} (hx : bars[m]? = some x) : jO bars ⟨F,T,p.aI ++ [(m : Int)]⟩ = jO bars p ++ [x] := by
 unfold jO
 simp only [List.length_append,List.length_singleton]
 rw [List.range_succ,List.map_append]
 congr 1
 ·refine List.map_congr_left fun i hi => ?_
  rw [List.mem_range] at hi
  unfold fH
  simp only
  rw [List.getElem?_append_left hi]
 ·simp only [List.map_cons,List.map_nil]
  unfold fH
  simp only
  rw [List.getElem?_append_right (Nat.le_refl _),Nat.sub_self]
  simp [hx]
theorem PB.GZ (hg : GB P bars) (hp : PB P bars k m p) {i : Nat} {t : Int} (h : p.aJ[i]? = some t) : i < p.aI.length ∧ 0 ≤ t ∧ t < P := by
 have hi := (List.getElem?_eq_some_iff.1 h).1
 have htl := hp.tl
 have := hp.qB hg (i := i) (by omega)
 rcases hp.ends h with rfl | rfl
 ·exact ⟨by omega,by omega,by omega⟩
 ·exact ⟨by omega,by omega,by omega⟩
def kz (P : Int) (X : Nat → Bool) (v : Nat) : Bool := X v && decide ((v : Int) < P)
def lq (p : aY) (v : Nat) : Nat := ((p.Free[v]?).getD 0).toNat
theorem PB.sum (hg : GB P bars) (hp : PB P bars k m p) (X : Nat → Bool) : su (fun v => if kz P X v then lq p v else 0) 8 + p.aJ.countP (fun t => X t.toNat) = k.toNat * size (kz P X) := by
 have h8 := hg.p8
 rw [← Lp X p.aJ fun t ht => by
  obtain ⟨i,hi⟩ := List.getElem?_of_mem ht
  have := hp.GZ hg hi
  omega]
 unfold size
 rw [← Lj,← og]
 refine uO 8 fun v hv => ?_
 show (if kz P X v then lq p v else 0) + (if X v then p.aJ.count (v : Int) else 0) = k.toNat * (if kz P X v then 1 else 0)
 unfold kz
 cases hx : X v with
 | false => simp
 | true =>
  by_cases Ei : (v : Int) < P
  ·obtain ⟨f,hf,_,f0,fk⟩ := hp.jy (v := (v : Int)) (by omega) Ei
   rw [Int.toNat_natCast] at hf
   have := hp.fr hf
   unfold lq
   rw [hf,decide_eq_true Ei]
   simp
   omega
  ·have : p.aJ.count (v : Int) = 0 := by
    rw [List.count_eq_zero]
    intro hm
    obtain ⟨i,hi⟩ := List.getElem?_of_mem hm
    have := hp.GZ hg hi
    omega
   rw [this,decide_eq_false Ei]
   simp
theorem VR (X : Nat → Bool) : size (kz P X) ≤ size X := nT 8 fun v _ => by
 show (if kz P X v then 1 else 0) ≤ (if X v then 1 else 0)
 unfold kz
 cases X v <;> simp
 split <;> omega
theorem PB.Vb (hg : GB P bars) (hp : PB P bars k m p) (X : Nat → Bool) : span (mult (jO bars p)) X ≤ p.aJ.countP fun t => X t.toNat := by
 rw [GU (hp.Fj hg)]
 refine Dh _ _ (by rw [Fh,hp.tl]) fun i x t hx ht h => ?_
 obtain ⟨h1,rfl⟩ := Fg hx
 rw [Bool.and_eq_true] at h
 rcases hp.ends ht with rfl | rfl
 ·exact h.1
 ·exact h.2
theorem PB.Vm (hg : GB P bars) (hp : PB P bars k m p) {X : Nat → Bool} (hc : ∀ (i : Nat) (t : Int),p.aJ[i]? = some t → X t.toNat = true → X (jk (fH bars p i) t).toNat = true) : p.aJ.countP (fun t => X t.toNat) ≤ span (mult (jO bars p)) X := by
 rw [GU (hp.Fj hg)]
 refine Dh _ _ (by rw [Fh,hp.tl]) fun i t x ht hx h => ?_
 obtain ⟨h1,rfl⟩ := Fg hx
 have h2 := hc i t ht h
 have h3 := hp.qB hg h1
 rw [Bool.and_eq_true]
 unfold jk at h2
 rcases hp.ends ht with rfl | rfl
 ·simp only [beq_self_eq_true,cond_true] at h2
  exact ⟨h,h2⟩
 ·have e : ((fH bars p i).A == (fH bars p i).B) = false := by simp; exact h3.2.2.1
  rw [e,cond_false] at h2
  exact ⟨h2,h⟩
theorem PB.VZ (hg : GB P bars) (hp : PB P bars k m p) {a b : Int} (a0 : 0 ≤ a) (a1 : a < P) (b0 : 0 ≤ b) (b1 : b < P) (hab : a ≠ b) {X : Nat → Bool} (xa : X a.toNat = true) (xb : X b.toNat = true) : span (mult (jO bars p)) X + (two p a b).toNat ≤ k.toNat * size X := by
 have h8 := hg.p8
 have h1 := hp.sum hg X
 have h2 := hp.Vb hg X
 have h3 : k.toNat * size (kz P X) ≤ k.toNat * size X := Nat.mul_le_mul_left _ (VR X)
 have h4 := Vh (fun v => if kz P X v then lq p v else 0) (a := a.toNat) (b := b.toNat) (n := 8) (by omega) (by omega) (by omega)
 have ia : kz P X a.toNat = true := by unfold kz; rw [xa]; simp; omega
 have ib : kz P X b.toNat = true := by unfold kz; rw [xb]; simp; omega
 simp only [ia,ib,if_true] at h4
 obtain ⟨fa,ha,_,fa0,_⟩ := hp.jy a0 a1
 obtain ⟨fb,hb,_,sD,_⟩ := hp.jy b0 b1
 unfold lq at h1 h4
 unfold two
 rw [ha,hb] at h4 ⊢
 simp only [Option.getD_some] at h4 ⊢
 omega
theorem PB.blocked (hg : GB P bars) (hp : PB P bars k m p) {a b : Int} (hab : a ≠ b) {q q' : List Int} (hq : Reach P bars p a b q) (hq' : Reach P bars p b a q') : ∃ X : Nat → Bool,X a.toNat = true ∧ X b.toNat = true ∧ k.toNat * size X ≤ span (mult (jO bars p)) X + (two p a b).toNat := by
 have h8 := hg.p8
 obtain ⟨a0,a1⟩ := hq.rng a hq.fst
 obtain ⟨b0,b1⟩ := hq'.rng b hq'.fst
 have hX : ∀ v : Int,0 ≤ v → (decide (((v.toNat : Nat) : Int) ∈ q ∨ ((v.toNat : Nat) : Int) ∈ q') = true ↔ (v ∈ q ∨ v ∈ q')) := fun v hv => by rw [decide_eq_true_eq,Int.toNat_of_nonneg hv]
 refine ⟨fun v => decide ((v : Int) ∈ q ∨ (v : Int) ∈ q'),(hX a a0).2 (.inl hq.fst),(hX b b0).2 (.inr hq'.fst),?_⟩
 generalize Pj : (fun v : Nat => decide ((v : Int) ∈ q ∨ (v : Int) ∈ q')) = X
 have AZ : ∀ v : Nat,X v = true ↔ ((v : Int) ∈ q ∨ (v : Int) ∈ q') := fun v => by rw [← Pj]; exact decide_eq_true_iff
 have hin : ∀ v,kz P X v = X v := fun v => by
  unfold kz
  cases hx : X v with
  | false => rfl
  | true =>
   have : (v : Int) < P := by
    rcases (AZ v).1 hx with h | h
    ·exact (hq.rng _ h).2
    ·exact (hq'.rng _ h).2
   simp [this]
 have h1 := hp.sum hg X
 rw [show kz P X = X from funext hin] at h1
 have h2 := hp.Vm hg (X := X) fun i t ht hx => by
  obtain ⟨hi,t0,t1⟩ := hp.GZ hg ht
  have ho := (wM (hp.qB hg hi) (hp.ends ht)).1
  rw [AZ,Int.toNat_of_nonneg t0] at hx
  rw [AZ,Int.toNat_of_nonneg ho]
  rcases hx with h | h
  ·exact .inl (hq.clo i t ht h)
  ·exact .inr (hq'.clo i t ht h)
 have h3 := nT (f := fun v => if X v then lq p v else 0) (g := fun v => (if v = a.toNat then lq p a.toNat else 0) + (if v = b.toNat then lq p b.toNat else 0)) 8 fun v _ => by
  show (if X v then lq p v else 0) ≤ (if v = a.toNat then lq p a.toNat else 0) + (if v = b.toNat then lq p b.toNat else 0)
  by_cases hva : v = a.toNat
  ·subst hva
   rw [if_pos rfl]
   split <;> omega
  ·by_cases hvb : v = b.toNat
   ·subst hvb
    rw [if_pos rfl]
    split <;> omega
   ·rw [if_neg hva,if_neg hvb]
    cases hx : X v with
    | false => simp
    | true =>
     have h0 : p.Free[v]? = some 0 := by
      rcases (AZ v).1 hx with h | h
      ·have := hq.zero _ h (by omega) (by omega)
       rwa [Int.toNat_natCast] at this
      ·have := hq'.zero _ h (by omega) (by omega)
       rwa [Int.toNat_natCast] at this
     unfold lq
     rw [h0]
     simp
 rw [og,CQ (lq p) (show a.toNat < 8 by omega),CQ (lq p) (show b.toNat < 8 by omega)] at h3
 obtain ⟨fa,ha,_,fa0,_⟩ := hp.jy a0 a1
 obtain ⟨fb,hb,_,sD,_⟩ := hp.jy b0 b1
 unfold lq at h3 h1
 unfold two
 rw [ha,hb] at h3 ⊢
 simp only [Option.getD_some] at h3 ⊢
 omega
theorem Uo {l : Int} (hg : GB P bars) (hp : PB P bars k m p) (hml : m < bars.length) (hl : 0 ≤ l ∧ l ≤ 2 * k - 1) {x : aK} (hx : bars[m]? = some x) :
  (∃ p' F T,PB P bars k m p' ∧ p'.aI = p.aI ∧ l + 1 ≤ two p' x.A x.B ∧ jr bars l p m = ⟨F,T,p.aI ++ [(m : Int)]⟩) ∨
   (jr bars l p m = p ∧ ∃ p' q q',PB P bars k m p' ∧ p'.aI = p.aI ∧ two p' x.A x.B < l + 1 ∧ Reach P bars p' x.A x.B q ∧ Reach P bars p' x.B x.A q') := by
 have hlen := hg.len
 have k3 := hp.k3
 have k1 := hp.k1
 have hxi := jh (k := m) hx
 have hw : aP (l + 1) = l + 1 := iP (by omega) (by omega)
 rcases Dw hg hp (by omega) (g := ⟨P,bars⟩) rfl rfl (hg.a0 hx) (hg.ap hx) (hg.b0 hx) (hg.bp hx) (hg.ab hx) (want := l + 1) (by omega) with ⟨p',s1,i1,hp',hpl,mP⟩ | ⟨p',s1,i1,hp',hpl,hlt,⟨q,hq⟩,q',hq'⟩
 ·obtain ⟨fa,hfa,hia,fa0,ru⟩ := hp'.jy (hg.a0 hx) (hg.ap hx)
  obtain ⟨fb,hfb,hib,sD,ug⟩ := hp'.jy (hg.b0 hx) (hg.bp hx)
  have RX := mP
  unfold two at mP
  rw [hfa,hfb] at mP
  simp only [Option.getD_some] at mP
  have I4 := hp'.pl
  have htl := hp'.tl
  obtain ⟨t,f,hte,htf,hti,hpos,hfk,htail⟩ : ∃ t f,(t = x.A ∨ t = x.B) ∧ p'.Free[t.toNat]? = some f ∧ idx p'.Free t = some f ∧ 0 < f ∧ f ≤ k ∧ (bif fa == 0 then some x.B else some x.A : Option Int) = some t := by
   by_cases h0 : fa = 0
   ·exact ⟨x.B,fb,.inr rfl,hfb,hib,by omega,ug,by simp [h0]⟩
   ·have : (fa == 0) = false := by simp [h0]
    exact ⟨x.A,fa,.inl rfl,hfa,hia,by omega,ru,by simp [this]⟩
  have hI : lC bars l p (m : Int) = some (true,⟨p'.Free.set t.toNat (f - 1),p'.aJ ++ [t],p'.aI ++ [(m : Int)]⟩) := by
   unfold lC
   simp only [hxi,hw,i1,hia,htail,hti,Option.bind_some,Bool.not_true,cond_false,iM (show p'.aJ.length + ([t] : List Int).length ≤ 2147483648 by simp; omega),iM (show p'.aI.length + ([(m : Int)] : List Int).length ≤ 2147483648 by simp; omega),iP (n := f - 1) (show -4611686018427387904 ≤ f - 1 by omega) (by omega)]
  refine .inl ⟨p',p'.Free.set t.toNat (f - 1),p'.aJ ++ [t],hp',hpl,RX,?_⟩
  unfold jr
  rw [hI,← hpl]
 ·have hI : lC bars l p (m : Int) = some (false,p') := by
   unfold lC
   simp only [hxi,hw,i1,Option.bind_some,Bool.not_false,cond_true]
  refine .inr ⟨?_,p',q,q',hp',hpl,hlt,hq,hq'⟩
  unfold jr
  rw [hI]
structure Game (bars : List aK) (k l : Int) (m : Nat) (p : aY) : Prop where
 sp : Sparse k.toNat l.toNat (mult (jO bars p))
 rej : ∃ R : List aK,(∀ i,mult (bars.take m) i = mult (jO bars p) i + mult R i) ∧ ∀ x ∈ R,lY x ∧ ∃ X,Sp.inn X (kH x) = true ∧ k.toNat * size X ≤ span (mult (jO bars p)) X + l.toNat
theorem Vd {a b : Nat} : Sparse a b (mult []) := ⟨fun X hX => by
 have : span (mult []) X = 0 := GU (L := []) (fun _ h => by cases h) X
 omega,fun i _ h => by simp [mult] at h⟩
theorem LC {l : Int} (hg : GB P bars) (k1 : 1 ≤ k) (k3 : k ≤ 3) (hl : 0 ≤ l ∧ l ≤ 2 * k - 1) : ∀ n,n ≤ bars.length → Game bars k l n (mX P bars k l n)
 | 0,_ => ⟨Vd,[],fun i => by simp [mX,iter,jO,mult],fun x h => by cases h⟩
 | n + 1,h => by
  have hG := LC hg k1 k3 hl n (by omega)
  have hp := wP hg k1 k3 hl n (by omega)
  have hx := List.getElem?_eq_getElem (show n < bars.length by omega)
  generalize bars[n] = x at hx
  have hok := hg.ok hx
  have htk : bars.take (n + 1) = bars.take n ++ [x] := by rw [List.take_add_one,hx]; rfl
  show Game bars k l (n + 1) (jr bars l (mX P bars k l n) n)
  obtain ⟨R,hR1,hR2⟩ := hG.rej
  rcases Uo hg hp (by omega) hl hx with ⟨p',F,T,hp',hpl,mP,he⟩ | ⟨he,p',q,q',hp',hpl,hlt,hq,hq'⟩
  ·rw [he]
   have ES : jO bars ⟨F,T,(mX P bars k l n).aI ++ [(n : Int)]⟩ = jO bars (mX P bars k l n) ++ [x] := Us hx
   have hm : ∀ i,i < 64 → add1 (mult (jO bars (mX P bars k l n))) (kH x) i = mult (jO bars ⟨F,T,(mX P bars k l n).aI ++ [(n : Int)]⟩) i := fun i _ => by rw [ES,FM]
   refine ⟨Sparse.congr ⟨fun X hX => ?_,fun i hi h0 => ?_⟩ hm,R,fun i => ?_,fun y hy => ?_⟩
   ·rw [uN _ hok.lt] at hX ⊢
    cases hin : Sp.inn X (kH x) with
    | false =>
     rw [hin] at hX
     simp only [Bool.false_eq_true,if_false,Nat.add_zero] at hX ⊢
     exact hG.sp.sp X hX
    | true =>
     rw [hok.inn,Bool.and_eq_true] at hin
     have := hp'.VZ hg (hg.a0 hx) (hg.ap hx) (hg.b0 hx) (hg.bp hx) (hg.ab hx) (X := X) hin.1 hin.2
     rw [LD hpl] at this
     simp only [if_true]
     omega
   ·unfold add1 at h0
    by_cases hie : i = kH x
    ·rw [hie]; exact hok.ne
    ·rw [if_neg hie] at h0
     exact hG.sp.ll i hi h0
   ·rw [htk,wK,ES,wK,hR1]
    omega
   ·obtain ⟨h1,X,h2,h3⟩ := hR2 y hy
    refine ⟨h1,X,h2,?_⟩
    rw [ES]
    have := GR (I := mult (jO bars (mX P bars k l n))) (J := mult (jO bars (mX P bars k l n) ++ [x])) (fun i _ => by rw [wK]; omega) X
    omega
  ·rw [he]
   refine ⟨hG.sp,R ++ [x],fun i => ?_,fun y hy => ?_⟩
   ·rw [htk,wK,wK,hR1]
    omega
   ·rcases List.mem_append.1 hy with hy | hy
    ·exact hR2 y hy
    ·rw [List.mem_singleton] at hy
     subst hy
     obtain ⟨X,xa,xb,hX⟩ := hp'.blocked hg hok.ab hq hq'
     refine ⟨hok,X,by rw [hok.inn,xa,xb]; rfl,?_⟩
     rw [LD hpl] at hX
     omega
theorem Ur {l : Int} (hg : GB P bars) (k1 : 1 ≤ k) (k3 : k ≤ 3) (hl : 0 ≤ l ∧ l ≤ 2 * k - 1) : jI k.toNat l.toNat (mult bars) (mX P bars k l bars.length).aI.length := by
 have hG := LC hg k1 k3 hl bars.length (Nat.le_refl _)
 have hp := wP hg k1 k3 hl bars.length (Nat.le_refl _)
 obtain ⟨R,hR1,hR2⟩ := hG.rej
 rw [List.take_length] at hR1
 have := jI.KY (M := mult bars) (by omega) hG.sp (fun i _ => by rw [hR1]; omega) fun e he hlt => by
  rw [hR1] at hlt
  obtain ⟨x,hx,rfl⟩ := UX (L := R) (i := e) (by omega)
  obtain ⟨h1,X,h2,h3⟩ := hR2 x hx
  exact CS he h2 h3
 rw [Nh (hp.Fj hg),Fh] at this
 exact this
end
end Go.Proofs.Ytdmlaldifbmkpaa
end
section
set_option linter.unusedVariables false
set_option linter.unusedSimpArgs false
set_option linter.unnecessarySimpa false
open Go Go.Fw Go.Sp
namespace Go.Proofs.Ytdmlaldifbmkpaa
def lS (x : aK) : List aK → List aK
 | [] => [x]
 | y :: L => bif gK y x then x :: y :: L else y :: lS x L
theorem vH (x : aK) : ∀ L,(lS x L).Perm (x :: L)
 | [] => List.Perm.refl _
 | y :: L => by
  unfold lS
  cases gK y x with
  | true => exact List.Perm.refl _
  | false => exact ((vH x L).cons y).trans (List.Perm.swap ..)
theorem Eu (x : aK) (L : List aK) : (lS x L).length = L.length + 1 := (vH x L).length_eq
theorem Jd (x : aK) : ∀ L : List aK,(∃ j,j < L.length ∧ lS x L = L.take j ++ x :: L.drop j ∧ (∀ (i : Nat) (y : aK),i < j → L[i]? = some y → gK y x = false) ∧ ∀ y : aK,L[j]? = some y → gK y x = true) ∨ (lS x L = L ++ [x] ∧ ∀ (i : Nat) (y : aK),L[i]? = some y → gK y x = false)
 | [] => .inr ⟨rfl,fun i y h => by simp at h⟩
 | y :: L => by
  unfold lS
  cases hy : gK y x with
  | true => exact .inl ⟨0,by simp,by simp,(fun i z h => by omega),fun z hz => by simp at hz; subst hz; exact hy⟩
  | false =>
   rcases Jd x L with ⟨j,h1,h2,h3,h4⟩ | ⟨h1,h2⟩
   ·refine .inl ⟨j + 1,by simpa using h1,by simp [h2],fun i z hi hz => ?_,fun z hz => h4 z (by simpa using hz)⟩
    cases i with
    | zero => simp at hz; subst hz; exact hy
    | succ i => exact h3 i z (by omega) (by simpa using hz)
   ·refine .inr ⟨by simp [h1],fun i z hz => ?_⟩
    cases i with
    | zero => simp at hz; subst hz; exact hy
    | succ i => exact h2 i z (by simpa using hz)
theorem Jm (g : aX) (x : aK) (h : g.aC.length ≤ 1048576) : wG g x = some ⟨g.aH,lS x g.aC⟩ := by
 have hb : ∀ (k : Nat) (pl : Bool) (out : List aK),k < g.aC.length → out.length ≤ k + 1 → ∀ y,g.aC[k]? = some y → pq g x (pl,(k : Int),out) = some (.inl (bif !pl && gK y x then (true,((k + 1 : Nat) : Int),out ++ [x] ++ [y]) else (pl,((k + 1 : Nat) : Int),out ++ [y]))) := fun k pl out hk ho y hy => by
  unfold pq
  simp only
  rw [decide_eq_true (show (k : Int) < (g.aC.length : Int) by omega),cond_true]
  simp only [jh hy,Jl,Option.bind_some,gm (show k ≤ 1099511627776 by omega),Bool.not_not]
  rw [iM (show out.length + [x].length ≤ 2147483648 by simp; omega)]
  cases pl with
  | true =>
   simp only [Bool.not_true,cond_false,Option.bind_some,Bool.false_and]
   rw [iM (by simp; omega)]
   rfl
  | false =>
   cases gK y x with
   | true =>
    simp only [Bool.not_false,cond_true,Option.bind_some,Bool.true_and]
    rw [iM (by simp; omega)]
    rfl
   | false =>
    simp only [Bool.not_false,cond_true,Option.bind_some,Bool.and_false,cond_false]
    rw [iM (by simp; omega)]
    rfl
 have he : ∀ (pl : Bool) (out : List aK),pq g x (pl,(g.aC.length : Int),out) = some (.inr (pl,out)) := fun pl out => by
  unfold pq
  rw [decide_eq_false (by simp only; omega)]
  rfl
 unfold wG
 rcases Jd x g.aC with ⟨j,h1,h2,h3,h4⟩ | ⟨h1,h2⟩
 ·have hL : bQ (pq g x) BIG (false,0,[]) = some (true,g.aC.take j ++ x :: g.aC.drop j) := by
   refine mQ (fun k => (decide (j < k),(k : Int),if j < k then g.aC.take j ++ x :: (g.aC.drop j).take (k - j) else g.aC.take k)) g.aC.length (by omega) (by simp) (fun k hk => ?_) ?_
   ·have hy := List.getElem?_eq_getElem hk
    have htk : ∀ m,k = j + m → (g.aC.drop j).take (m + 1) = (g.aC.drop j).take m ++ [g.aC[k]] := fun m hm => by
     subst hm
     rw [List.take_add_one,List.getElem?_drop,hy]
     rfl
    by_cases hjk : j < k
    ·rw [decide_eq_true hjk,if_pos hjk,hb k true _ hk (by simp; omega) _ hy]
     simp only [Bool.not_true,Bool.false_and,cond_false]
     rw [decide_eq_true (show j < k + 1 by omega),if_pos (show j < k + 1 by omega),show k + 1 - j = (k - j) + 1 by omega,htk (k - j) (by omega)]
     simp
    ·rw [decide_eq_false hjk,if_neg hjk,hb k false _ hk (by simp; omega) _ hy]
     by_cases hkj : k = j
     ·subst hkj
      rw [h4 _ hy]
      simp only [Bool.not_false,Bool.true_and,cond_true]
      rw [decide_eq_true (show k < k + 1 by omega),if_pos (show k < k + 1 by omega),Nat.add_sub_cancel_left,htk 0 (by omega)]
      simp
     ·rw [h3 k _ (by omega) hy]
      simp only [Bool.not_false,Bool.and_false,cond_false]
      rw [decide_eq_false (show ¬ j < k + 1 by omega),if_neg (show ¬ j < k + 1 by omega),Lr hk]
   ·rw [decide_eq_true h1,if_pos h1,he,List.take_of_length_le (l := g.aC.drop j) (by simp)]
  rw [hL,h2]
  rfl
 ·have hL : bQ (pq g x) BIG (false,0,[]) = some (false,g.aC) := by
   refine mQ (fun k => (false,(k : Int),g.aC.take k)) g.aC.length (by omega) (by simp) (fun k hk => ?_) (by rw [he,List.take_length])
   have hy := List.getElem?_eq_getElem hk
   rw [hb k false _ hk (by simp; omega) _ hy,h2 k _ hy,Lr hk]
   rfl
  rw [hL,h1]
  simp only [Option.bind_some,Bool.not_false,cond_true]
  rw [iM (by simp; omega)]
  rfl
def pr (P : Int) (L : List aK) : Nat := (mX P L 2 3 L.length).aI.length
theorem BX {P : Int} {L : List aK} (hg : GB P L) : jI 2 3 (mult L) (pr P L) := Ur hg (k := 2) (l := 3) (by omega) (by omega) (by omega)
theorem GB.congr {P : Int} {L L' : List aK} (h : GB P L) (h2 : ∀ x ∈ L',x ∈ L) (hl : L'.length ≤ 1000) : GB P L' := by
 have hm : ∀ {k : Nat} {x : aK},L'[k]? = some x → ∃ j,L[j]? = some x := fun hk => List.getElem?_of_mem (h2 _ (List.mem_of_getElem? hk))
 exact ⟨h.p1,h.p8,hl,fun hk => (hm hk).elim fun _ hj => h.a0 hj,fun hk => (hm hk).elim fun _ hj => h.ab hj,fun hk => (hm hk).elim fun _ hj => h.b0 hj,fun hk => (hm hk).elim fun _ hj => h.ap hj,fun hk => (hm hk).elim fun _ hj => h.bp hj⟩
structure rU (P : Int) (x : aK) : Prop where
 a0 : 0 ≤ x.A
 ab : x.A ≠ x.B
 b0 : 0 ≤ x.B
 ap : x.A < P
 bp : x.B < P
theorem GB.of {P : Int} {L : List aK} (p1 : 1 ≤ P) (p8 : P ≤ 8) (hl : L.length ≤ 1000) (h : ∀ x ∈ L,rU P x) : GB P L :=
 ⟨p1,p8,hl,fun hk => (h _ (List.mem_of_getElem? hk)).a0,fun hk => (h _ (List.mem_of_getElem? hk)).ab,fun hk => (h _ (List.mem_of_getElem? hk)).b0,fun hk => (h _ (List.mem_of_getElem? hk)).ap,fun hk => (h _ (List.mem_of_getElem? hk)).bp⟩
theorem GB.inb {P : Int} {L : List aK} (h : GB P L) : ∀ x ∈ L,rU P x := fun x hx => by
 obtain ⟨j,hj⟩ := List.getElem?_of_mem hx
 exact ⟨h.a0 hj,h.ab hj,h.b0 hj,h.ap hj,h.bp hj⟩
theorem Ux {P : Int} {L L' : List aK} (hg : GB P L) (hg' : GB P L') (h : L.Perm L') : pr P L = pr P L' := (BX hg).uniq (BX hg') fun i _ => UW h i
theorem Ky {P : Int} {L : List aK} (hg : GB P L) : vU P L = some (pr P L : Int) := by
 unfold vU
 rw [Kz hg (by omega) (by omega) (by omega)]
 rfl
theorem Jo {P : Int} {L : List aK} (hg : GB P L) : wJ ⟨P,L⟩ = some (pr P L : Int) := by
 have h1 := hg.p1
 have h8 := hg.p8
 have hlen := hg.len
 have hv : vG ⟨P,[]⟩ = true := by
  unfold vG
  simp only [List.length_nil]
  rw [decide_eq_true h1,decide_eq_true h8]
  rfl
 have hnew := KH ⟨P,[]⟩ (Nat.zero_le _) 2
 rw [hv] at hnew
 have e2 := AY (b := tY ⟨P,L⟩) (s := (0,0,List.replicate P.toNat 2,[],[])) (fun n (p : aY) => ((n : Int),(p.aI.length : Int),p.Free,p.aJ,p.aI)) (fun m p => jr L 3 p m) (fun n p => n ≤ L.length ∧ PB P L 2 n p) (fun p => (p.aI.length : Int)) L.length ⟨List.replicate P.toNat 2,[],[]⟩ (by omega) rfl ⟨Nat.zero_le _,wP (k := 2) (l := 3) hg (by omega) (by omega) (by omega) 0 (Nat.zero_le _)⟩ (fun n p hn hp => by
  obtain ⟨_,hp⟩ := hp
  have hx := List.getElem?_eq_getElem hn
  have hxi := jh (k := n) hx
  generalize L[n] = x at hx hxi
  have hpl := hp.pl
  have htl := hp.tl
  have hw4 : aP (3 + 1) = 4 := iP (by omega) (by omega)
  rcases Dw hg hp (by omega) (g := ⟨P,L⟩) rfl rfl (hg.a0 hx) (hg.ap hx) (hg.b0 hx) (hg.bp hx) (hg.ab hx) (want := 4) (by omega) with ⟨p',s1,i1,hp',hpl',mP⟩ | ⟨p',s1,i1,_⟩
  ·obtain ⟨fa,hfa,hia,fa0,ru⟩ := hp'.jy (hg.a0 hx) (hg.ap hx)
   obtain ⟨fb,hfb,hib,sD,ug⟩ := hp'.jy (hg.b0 hx) (hg.bp hx)
   unfold two at mP
   rw [hfa,hfb] at mP
   simp only [Option.getD_some] at mP
   have XO := hp'.tl
   have I4 := hp'.pl
   have QZ : (fa == 0) = false := by simp; omega
   have hI : lC L 3 p (n : Int) = some (true,⟨p'.Free.set x.A.toNat (fa - 1),p'.aJ ++ [x.A],p'.aI ++ [(n : Int)]⟩) := by
    unfold lC
    simp only [hxi,hw4,i1,hia,QZ,Option.bind_some,Bool.not_true,cond_false,iM (show p'.aJ.length + ([x.A] : List Int).length ≤ 2147483648 by simp; omega),iM (show p'.aI.length + ([(n : Int)] : List Int).length ≤ 2147483648 by simp; omega),iP (n := fa - 1) (show -4611686018427387904 ≤ fa - 1 by omega) (by omega)]
   have l7 : jr L 3 p n = ⟨p'.Free.set x.A.toNat (fa - 1),p'.aJ ++ [x.A],p'.aI ++ [(n : Int)]⟩ := by
    unfold jr
    rw [hI]
   refine ⟨?_,by omega,?_⟩
   ·rw [l7]
    unfold tY
    rw [decide_eq_true (show (n : Int) < (L.length : Int) by omega),cond_true]
    simp only [hxi,s1,hia,Option.bind_some,Bool.not_true,cond_false,iM (show p'.aJ.length + ([x.A] : List Int).length ≤ 2147483648 by simp; omega),iM (show p'.aI.length + ([(n : Int)] : List Int).length ≤ 2147483648 by simp; omega),iP (n := fa - 1) (show -4611686018427387904 ≤ fa - 1 by omega) (by omega),gm (show n ≤ 1099511627776 by omega),gm (show p.aI.length ≤ 1099511627776 by omega)]
    rw [hpl']
    simp
   ·rw [l7]
    exact hp'.place hg hn hx (.inl rfl) hfa (by omega)
  ·have hI : lC L 3 p (n : Int) = some (false,p') := by
    unfold lC
    simp only [hxi,hw4,i1,Option.bind_some,Bool.not_false,cond_true]
   have l7 : jr L 3 p n = p := by
    unfold jr
    rw [hI]
   refine ⟨?_,by omega,by rw [l7]; exact hp.weak⟩
   rw [l7]
   unfold tY
   rw [decide_eq_true (show (n : Int) < (L.length : Int) by omega),cond_true]
   simp only [hxi,s1,Option.bind_some,Bool.not_false,cond_true,gm (show n ≤ 1099511627776 by omega)]) (fun p hp => by simp [tY])
 unfold wJ
 rw [hnew]
 simp only [Bool.true_and,Option.bind_some]
 rw [show (decide ((1 : Int) ≤ 2) && decide ((2 : Int) ≤ 3)) = true from rfl,cond_true,e2.1]
 rfl
def nrm (a b : Int) : aK := ⟨if b < a then b else a,if a < b then b else a⟩
theorem NZ (a b : Int) : Az a b = some (nrm a b) := rfl
def pK (g : aX) (a b : Int) : Bool := vG g && decide (0 ≤ a) && decide (a < g.aH) && decide (0 ≤ b) && decide (b < g.aH) && (a == b || decide (pr g.aH (g.aC ++ [nrm a b]) = pr g.aH g.aC))
theorem KT {P a b : Int} (a0 : 0 ≤ a) (a1 : a < P) (b0 : 0 ≤ b) (b1 : b < P) (h : a ≠ b) : rU P (nrm a b) := by
 unfold nrm
 refine ⟨?_,?_,?_,?_,?_⟩ <;> simp only <;> repeat' split <;> omega
theorem GB.snoc {P : Int} {L : List aK} (h : GB P L) {x : aK} (hx : rU P x) (hl : L.length ≤ 999) : GB P (L ++ [x]) := GB.of h.p1 h.p8 (by simp; omega) fun y hy => by
 rcases List.mem_append.1 hy with h1 | h1
 ·exact h.inb y h1
 ·rw [List.mem_singleton] at h1; subst h1; exact hx
theorem GB.ins {P : Int} {L : List aK} (h : GB P L) {x : aK} (hx : rU P x) (hl : L.length ≤ 999) : GB P (lS x L) := GB.of h.p1 h.p8 (by rw [Eu]; omega) fun y hy => by
 rcases List.mem_cons.1 ((vH x L).mem_iff.1 hy) with h1 | h1
 ·subst h1; exact hx
 ·exact h.inb y h1
theorem Uu {P : Int} {L : List aK} (h : GB P L) {x : aK} (hx : rU P x) (hl : L.length ≤ 999) : pr P L ≤ pr P (L ++ [x]) ∧ pr P (L ++ [x]) ≤ pr P L + 1 := by
 have hok : lY x := (h.snoc hx hl).Ui x (by simp)
 have h2 := BX (h.snoc hx hl)
 refine (BX h).add hok.lt (e := kH x) ⟨?_,?_⟩
 ·obtain ⟨I,h3,h4,h5⟩ := h2.ex
  exact ⟨I,fun i hi => by rw [← FM]; exact h3 i hi,h4,h5⟩
 ·exact fun J hJ => h2.mx J fun i hi => by rw [FM]; exact hJ i hi
theorem Uw {P : Int} {L : List aK} (h : GB P L) {x : aK} (hx : rU P x) (hl : L.length ≤ 999) : pr P (lS x L) = pr P (L ++ [x]) :=
 Ux (h.ins hx hl) (h.snoc hx hl) ((vH x L).trans (List.perm_append_singleton x L).symm)
theorem TV (g : aX) (h : SM g.aC.length) (a b : Int) : yG g a b = some (pK g a b) := by
 unfold yG pK
 rw [qU g h]
 cases hv : vG g
 ·rfl
 ·have hV := nJ hv
  have hg := hV.gb
  have hl := hV.len
  simp only [Option.bind_some,cond_true,has_eq hV,NZ,Bool.true_and]
  by_cases ha : 0 ≤ a ∧ a < g.aH
  ·rw [decide_eq_true ha.1,decide_eq_true ha.2]
   by_cases hb : 0 ≤ b ∧ b < g.aH
   ·rw [decide_eq_true hb.1,decide_eq_true hb.2]
    cases hab : a == b
    ·have hne : a ≠ b := fun e => by rw [e] at hab; simp at hab
     have hx := KT ha.1 ha.2 hb.1 hb.2 hne
     have hpa := Uu hg hx (by omega)
     have hr : yM g.aH g.aC (nrm a b) = some (decide ((pr g.aH g.aC : Int) < (pr g.aH (g.aC ++ [nrm a b]) : Int))) := by
      unfold yM
      rw [iM (by simp; omega),iM (by simp; omega)]
      simp only [Option.bind_some,List.nil_append,Ky hg,Ky (hg.snoc hx (by omega))]
     simp only [Bool.and_self,cond_true,cond_false,hr,Option.bind_some,Bool.true_and,Bool.false_or]
     congr 1
     rw [← decide_not,decide_eq_decide]
     omega
    ·rfl
   ·have : (decide (0 ≤ b) && decide (b < g.aH)) = false := by
     rw [← Bool.not_eq_true]; simp only [Bool.and_eq_true,decide_eq_true_eq]; exact hb
    rw [this]
    simp only [Bool.and_self,cond_true,cond_false,Bool.true_and,Option.bind_some]
    rw [show (decide (0 ≤ b) && decide (b < g.aH) && (a == b || decide (pr g.aH (g.aC ++ [nrm a b]) = pr g.aH g.aC))) = false by rw [this]; rfl]
  ·have : (decide (0 ≤ a) && decide (a < g.aH)) = false := by
    rw [← Bool.not_eq_true]; simp only [Bool.and_eq_true,decide_eq_true_eq]; exact ha
   rw [this]
   simp
theorem TY (g : aX) (h : SM g.aC.length) (a b : Int) : yc g a b = some (pK g a b) := by
 unfold yc pK
 rw [vI g h]
 cases hv : vG g
 ·rfl
 ·have hV := nJ hv
  have hg := hV.gb
  have hl := hV.len
  simp only [Option.bind_some,Bool.not_true,cond_false,Bool.true_and]
  by_cases ha0 : 0 ≤ a
  ·rw [decide_eq_true ha0,decide_eq_false (show ¬ a < 0 by omega)]
   by_cases hb0 : 0 ≤ b
   ·rw [decide_eq_true hb0,decide_eq_false (show ¬ b < 0 by omega)]
    by_cases ha1 : a < g.aH
    ·rw [decide_eq_true ha1,decide_eq_false (show ¬ g.aH ≤ a by omega)]
     by_cases hb1 : b < g.aH
     ·rw [decide_eq_true hb1,decide_eq_false (show ¬ g.aH ≤ b by omega)]
      simp only [cond_false,Option.bind_some,Bool.and_self,Bool.true_and]
      rw [show aK.mk (if b < a then b else a) (if a < b then b else a) = nrm a b from rfl,Jm g _ (by omega)]
      cases hab : a == b
      ·have hne : a ≠ b := fun e => by rw [e] at hab; simp at hab
       have hx := KT ha0 ha1 hb0 hb1 hne
       simp only [Option.bind_some,cond_false,Bool.false_or,Jo (hg.ins hx (by omega)),Uw hg hx (by omega)]
       rw [show g = ⟨g.aH,g.aC⟩ from rfl,Jo hg]
       simp only [Option.bind_some]
       congr 1
       rw [Bool.eq_iff_iff,beq_iff_eq,decide_eq_true_eq]
       omega
      ·rfl
     ·rw [decide_eq_false hb1,decide_eq_true (show g.aH ≤ b by omega)]
      simp
    ·rw [decide_eq_false ha1,decide_eq_true (show g.aH ≤ a by omega)]
     simp
   ·rw [decide_eq_false hb0,decide_eq_true (show b < 0 by omega)]
    simp
  ·rw [decide_eq_false ha0,decide_eq_true (show a < 0 by omega)]
   simp
end Go.Proofs.Ytdmlaldifbmkpaa
end
section
set_option linter.unusedVariables false
set_option linter.unusedSimpArgs false
set_option linter.unnecessarySimpa false
open Go Go.Fw
namespace Go.Proofs.Ytdmlaldifbmkpaa
def listed (S : List Bool) : List Int := pieces (fun k => bif (S[k]?).getD false then [(k : Int)] else []) S.length
end Go.Proofs.Ytdmlaldifbmkpaa
end
section
set_option linter.unusedVariables false
set_option linter.unusedSimpArgs false
set_option linter.unnecessarySimpa false
open Go Go.Fw Go.Sp
namespace Go.Proofs.Ytdmlaldifbmkpaa
theorem oz (x y : aK) : gK x y = false ↔ x.A < y.A ∨ (x.A = y.A ∧ x.B ≤ y.B) := by
 unfold gK
 simp only [Bool.or_eq_false_iff,Bool.and_eq_false_iff,decide_eq_false_iff_not,beq_eq_false_iff_ne]
 omega
theorem VG.pair {g : aX} (h : VG g) : g.aC.Pairwise fun x y => gK x y = false := by
 rw [List.pairwise_iff_getElem]
 intro i j hi hj hij
 obtain ⟨d,rfl⟩ : ∃ d,j = i + 1 + d := ⟨j - (i + 1),by omega⟩
 clear hij
 induction d with
 | zero => exact h.Le (List.getElem?_eq_getElem hi) (List.getElem?_eq_getElem hj)
 | succ d ih =>
  have h1 := (oz _ _).1 (ih (by omega))
  have h2 := (oz _ _).1 (h.Le (k := i + 1 + d) (List.getElem?_eq_getElem (by omega)) (List.getElem?_eq_getElem hj))
  exact (oz _ _).2 (by omega)
end Go.Proofs.Ytdmlaldifbmkpaa
end
section
set_option linter.unusedVariables false
set_option linter.unusedSimpArgs false
set_option linter.unnecessarySimpa false
open Go Go.Fw
namespace Go.Proofs.Ytdmlaldifbmkpaa
def cnt (g : aX) (a b : Int) : Int := (qW g a b).getD 0
theorem Om (g : aX) (h : SM g.aC.length) (a b : Int) : qW g a b = some (cnt g a b) ∧ (cnt g a b = 0 ↔ ∀ x ∈ g.aC,¬ (x.A = a ∧ x.B = b) ∧ ¬ (x.A = b ∧ x.B = a)) := by
 obtain ⟨r,hr,hq⟩ := UI (b := qX g a b) (s := (0,0)) (fun k s => s.2 = (k : Int) ∧ 0 ≤ s.1 ∧ s.1 ≤ k ∧ (s.1 = 0 ↔ ∀ x ∈ g.aC.take k,¬ (x.A = a ∧ x.B = b) ∧ ¬ (x.A = b ∧ x.B = a))) (fun r => r = 0 ↔ ∀ x ∈ g.aC,¬ (x.A = a ∧ x.B = b) ∧ ¬ (x.A = b ∧ x.B = a)) g.aC.length (by omega) ⟨rfl,by omega,by omega,by simp⟩ (fun k s hk hs => by
  refine .inl ?_
  obtain ⟨c,i⟩ := s
  obtain ⟨h1,h2,h3,h4⟩ := hs
  simp only at h1 h2 h3 h4
  subst h1
  have ht : g.aC.take (k + 1) = g.aC.take k ++ [g.aC[k]] := by rw [List.take_succ_eq_append_getElem hk]
  have hw : aP (c + 1) = c + 1 := iP (by omega) (by omega)
  have key : ∀ (j : Bool),(j = true ↔ (g.aC[k].A = a ∧ g.aC[k].B = b) ∨ (g.aC[k].A = b ∧ g.aC[k].B = a)) → ((bif j then c + 1 else c) = 0 ↔ ∀ x ∈ g.aC.take (k + 1),¬ (x.A = a ∧ x.B = b) ∧ ¬ (x.A = b ∧ x.B = a)) := fun j hj => by
   rw [ht]
   simp only [List.mem_append,List.mem_singleton,or_imp,forall_and,forall_eq]
   simp only [forall_and] at h4
   cases j
   ·simp only [cond_false,h4]
    have : ¬ ((g.aC[k].A = a ∧ g.aC[k].B = b) ∨ (g.aC[k].A = b ∧ g.aC[k].B = a)) := fun hh => by have := hj.2 hh; cases this
    rw [not_or] at this
    exact ⟨fun ⟨p,q⟩ => ⟨⟨p,this.1⟩,⟨q,this.2⟩⟩,fun ⟨p,q⟩ => ⟨p.1,q.1⟩⟩
   ·have := hj.1 rfl
    simp only [cond_true]
    constructor
    ·intro hc; omega
    ·rintro ⟨⟨_,p⟩,⟨_,q⟩⟩
     rcases this with t | t
     ·exact absurd t p
     ·exact absurd t q
  unfold qX
  simp only [vC hk,Option.bind_some]
  rw [decide_eq_true (by omega),cond_true,hw]
  by_cases q1 : g.aC[k].A = a
  ·by_cases q2 : g.aC[k].B = b
   ·refine ⟨(c + 1,aP ((k : Int) + 1)),by simp only [beq_iff_eq.2 q1,beq_iff_eq.2 q2]; rfl,gm (by omega),by simp only; omega,by simp only; omega,?_⟩
    exact key true (by simp [q1,q2])
   ·by_cases q3 : g.aC[k].A = b
    ·by_cases q4 : g.aC[k].B = a
     ·refine ⟨(c + 1,aP ((k : Int) + 1)),by simp only [beq_iff_eq.2 q1,beq_eq_false_iff_ne.2 q2,beq_iff_eq.2 q3,beq_iff_eq.2 q4]; rfl,gm (by omega),by simp only; omega,by simp only; omega,?_⟩
      exact key true (by simp [q3,q4])
     ·refine ⟨(c,aP ((k : Int) + 1)),by simp only [beq_iff_eq.2 q1,beq_eq_false_iff_ne.2 q2,beq_iff_eq.2 q3,beq_eq_false_iff_ne.2 q4]; rfl,gm (by omega),by simp only; omega,by simp only; omega,?_⟩
      exact key false (by simp [q2,q4])
    ·refine ⟨(c,aP ((k : Int) + 1)),by simp only [beq_iff_eq.2 q1,beq_eq_false_iff_ne.2 q2,beq_eq_false_iff_ne.2 q3]; rfl,gm (by omega),by simp only; omega,by simp only; omega,?_⟩
     exact key false (by simp [q2,q3])
  ·by_cases q3 : g.aC[k].A = b
   ·by_cases q4 : g.aC[k].B = a
    ·refine ⟨(c + 1,aP ((k : Int) + 1)),by simp only [beq_eq_false_iff_ne.2 q1,beq_iff_eq.2 q3,beq_iff_eq.2 q4]; rfl,gm (by omega),by simp only; omega,by simp only; omega,?_⟩
     exact key true (by simp [q3,q4])
    ·refine ⟨(c,aP ((k : Int) + 1)),by simp only [beq_eq_false_iff_ne.2 q1,beq_iff_eq.2 q3,beq_eq_false_iff_ne.2 q4]; rfl,gm (by omega),by simp only; omega,by simp only; omega,?_⟩
     exact key false (by simp [q1,q4])
   ·refine ⟨(c,aP ((k : Int) + 1)),by simp only [beq_eq_false_iff_ne.2 q1,beq_eq_false_iff_ne.2 q3]; rfl,gm (by omega),by simp only; omega,by simp only; omega,?_⟩
    exact key false (by simp [q1,q3])) (fun s hs => by
  obtain ⟨c,i⟩ := s
  obtain ⟨h1,h2,h3,h4⟩ := hs
  simp only at h1 h2 h3 h4
  subst h1
  rw [List.take_length] at h4
  exact ⟨c,by simp [qX],h4⟩)
 have e : qW g a b = some r := by unfold qW; rw [hr]; rfl
 unfold cnt
 rw [e]
 exact ⟨rfl,hq⟩
def tq (g : aX) (a : Nat) : List aK := pieces (fun j => bif cnt g a ((a + 1 + j : Nat) : Int) == 0 then [⟨a,((a + 1 + j : Nat) : Int)⟩] else []) (g.aH.toNat - (a + 1))
def miss (g : aX) : List aK := pieces (tq g) g.aH.toNat
theorem UQ {g : aX} (hv : vG g = true) : oW g = some (miss g) := by
 have H := nJ hv
 have hp := H.p8
 have hrow : ∀ a,(tq g a).length ≤ 8 := fun a => by
  have := pieces_len (f := fun j => bif cnt g a ((a + 1 + j : Nat) : Int) == 0 then [(⟨a,((a + 1 + j : Nat) : Int)⟩ : aK)] else []) (c := 1) (g.aH.toNat - (a + 1)) (fun j _ => by cases cnt g a ((a + 1 + j : Nat) : Int) == 0 <;> simp)
  unfold tq
  omega
 have := G9 (b := qZ g) (s := (0,[])) (fun k out => ((k : Int),out)) (tq g) id 8 g.aH.toNat [] (by omega) rfl (fun k _ => hrow k) (fun k out hk ho => by
  simp only [List.length_nil,Nat.zero_add] at ho
  have e := G9 (b := qc g ((k : Int),out)) (s := (aP ((k : Int) + 1),out)) (fun j o => (((k + 1 + j : Nat) : Int),o)) (fun j => bif cnt g k ((k + 1 + j : Nat) : Int) == 0 then [(⟨k,((k + 1 + j : Nat) : Int)⟩ : aK)] else []) (fun o => ((k : Int),o)) 1 (g.aH.toNat - (k + 1)) out (by omega) (by rw [gm (by omega)]) (fun j _ => by cases cnt g k ((k + 1 + j : Nat) : Int) == 0 <;> simp)
   (fun j o hj ho2 => by
    unfold qc
    simp only [(Om g H.sm _ _).1,Option.bind_some]
    rw [decide_eq_true (by omega),cond_true,iM (by simp; omega),Option.bind_some,gm (by omega)]
    cases cnt g k ((k + 1 + j : Nat) : Int) == 0
    ·simp only [cond_false,Option.bind_some,List.append_nil]
     rfl
    ·rfl)
   (fun o => by
    unfold qc
    simp only
    rw [decide_eq_false (by omega)]
    rfl)
  unfold qZ
  simp only [e,Option.bind_some]
  rw [decide_eq_true (by omega),cond_true,gm (by omega)]
  rfl) (fun out => by
   unfold qZ
   simp only
   rw [decide_eq_false (by omega)]
   rfl)
 unfold oW
 rw [qU g H.sm,hv,this]
 rfl
end Go.Proofs.Ytdmlaldifbmkpaa
end
section
set_option linter.unusedVariables false
set_option linter.unusedSimpArgs false
set_option linter.unnecessarySimpa false
open Go Go.Fw Go.Sp
namespace Go.Proofs.Ytdmlaldifbmkpaa
theorem Ol (g : aX) (a b : Int) : yX g a b = qX g a b := by
 funext s
 unfold yX qX
 cases idx g.aC s.2 <;> rfl
theorem UN (g : aX) (s : Int × List aK) : yh g s = qc g s := by
 funext r
 unfold yh qc BB qW
 rw [Ol]
theorem UM {g : aX} (hs : SM g.aC.length) (h : vG g = true) : tH g = qZ g := by
 funext s
 unfold tH qZ
 rw [vI g hs,h,UN]
 cases decide (s.1 < g.aH) <;> rfl
theorem UO (g : aX) (h : g.aC.length ≤ 1048576) : ∃ w,tC g = some w ∧ oW g = some w ∧ w.length ≤ 2147483648 := by
 have hs : SM g.aC.length := by omega
 cases hv : vG g with
 | true =>
  have H := nJ hv
  have hp := H.p8
  have hi := UQ hv
  refine ⟨miss g,?_,hi,?_⟩
  ·unfold tC
   rw [UM hs hv]
   unfold oW at hi
   rw [qU g hs,hv] at hi
   exact hi
  ·have hrow : ∀ a,(tq g a).length ≤ 8 := fun a => by
    have := pieces_len (f := fun j => bif cnt g a ((a + 1 + j : Nat) : Int) == 0 then [(⟨a,((a + 1 + j : Nat) : Int)⟩ : aK)] else []) (c := 1) (g.aH.toNat - (a + 1)) (fun j _ => by cases cnt g a ((a + 1 + j : Nat) : Int) == 0 <;> simp)
    unfold tq
    omega
   have := pieces_len (f := tq g) (c := 8) g.aH.toNat fun k _ => hrow k
   unfold miss
   omega
 | false =>
  refine ⟨[],?_,?_,by simp⟩
  ·have e : bQ (tH g) BIG (0,[]) = some [] := by
    refine mQ (fun _ => (0,[])) 0 (by omega) rfl (fun k hk => by omega) ?_
    unfold tH
    rw [vI g hs,hv]
    cases decide ((0 : Int) < g.aH) <;> rfl
   unfold tC
   rw [e]
   rfl
  ·unfold oW
   rw [qU g hs,hv]
   rfl
theorem DZ (x y : aK) : gK x y = true ↔ y.A < x.A ∨ (x.A = y.A ∧ y.B < x.B) := by
 unfold gK
 simp only [Bool.or_eq_true,Bool.and_eq_true,decide_eq_true_eq,beq_iff_eq]
theorem Ew (x : aK) : ∀ {L : List aK},(L.Pairwise fun x y => gK x y = false) → (lS x L).Pairwise fun x y => gK x y = false
 | [],_ => by simp [lS]
 | y :: L,h => by
  unfold lS
  obtain ⟨h1,h2⟩ := List.pairwise_cons.1 h
  cases hy : gK y x with
  | true =>
   rw [cond_true,List.pairwise_cons]
   refine ⟨fun z hz => ?_,h⟩
   have hyx := (DZ y x).1 hy
   rcases List.mem_cons.1 hz with rfl | hz
   ·exact (oz _ _).2 (by omega)
   ·have := (oz _ _).1 (h1 z hz)
    exact (oz _ _).2 (by omega)
  | false =>
   rw [cond_false,List.pairwise_cons]
   refine ⟨fun z hz => ?_,Ew x h2⟩
   rcases List.mem_cons.1 ((vH x L).mem_iff.1 hz) with rfl | hz
   ·exact hy
   ·exact h1 z hz
theorem Oi (x y : aK) : decide (mr y x < 0) = gK x y := by
 rw [Bool.eq_iff_iff,DZ,decide_eq_true_eq]
 unfold mr
 by_cases h1 : y.A < x.A
 ·rw [decide_eq_true h1,cond_true]
  exact ⟨fun _ => .inl h1,fun _ => by omega⟩
 ·rw [decide_eq_false h1,cond_false]
  by_cases h2 : x.A < y.A
  ·rw [decide_eq_true h2,cond_true]
   exact ⟨fun h => by omega,fun h => by omega⟩
  ·rw [decide_eq_false h2,cond_false]
   by_cases h3 : y.B < x.B
   ·rw [decide_eq_true h3,cond_true]
    exact ⟨fun _ => .inr ⟨by omega,h3⟩,fun _ => by omega⟩
   ·rw [decide_eq_false h3,cond_false]
    by_cases h4 : x.B < y.B
    ·rw [decide_eq_true h4,cond_true]
     exact ⟨fun h => by omega,fun h => by omega⟩
    ·rw [decide_eq_false h4,cond_false]
     exact ⟨fun h => by omega,fun h => by omega⟩
theorem VT (l : List aK) : (sortB l).Pairwise fun x y => gK x y = false := by
 have e : (fun x y : aK => !decide (mr y x < 0)) = fun x y => !gK x y := by
  funext x y
  rw [Oi]
 unfold sortB
 rw [e]
 refine (List.pairwise_mergeSort (le := fun x y => !gK x y) (fun a b c h1 h2 => ?_) (fun a b => ?_) l).imp fun {a b} h => ?_
 ·simp only [Bool.not_eq_true',oz] at *; omega
 ·cases h : gK a b
  ·rfl
  ·have := (DZ a b).1 h
   have h2 : gK b a = false := (oz _ _).2 (by omega)
   rw [h2]; rfl
 ·simpa using h
theorem VS {B : List aK} (h : B.Pairwise fun x y => gK x y = false) (x : aK) : sortB (B ++ [x]) = lS x B := by
 refine List.Perm.eq_of_pairwise (le := fun x y => gK x y = false) (fun x y _ _ h1 h2 => ?_) (VT _) (Ew x h) ?_
 ·rw [oz] at h1 h2
  obtain ⟨a,b⟩ := x
  obtain ⟨c,d⟩ := y
  simp only at h1 h2
  have e1 : a = c := by omega
  have e2 : b = d := by omega
  rw [e1,e2]
 ·unfold sortB
  exact (List.mergeSort_perm _ _).trans ((List.perm_append_singleton x B).trans (vH x B).symm)
theorem XC {P : Int} {B : List aK} (hl : B.length ≤ 4000) (h : B.Pairwise fun x y => gK x y = false) (x : aK) : yN ⟨P,B⟩ [x] = some ⟨P,lS x B⟩ := by
 unfold yN yV
 rw [IW _ (by simp only; omega)]
 simp only [Option.bind_some]
 rw [iM (by simp; omega),decide_eq_true (by simp; omega)]
 simp only [Option.bind_some,cond_true,VS h]
 rw [show ∀ a b : Nat,a = b → same a b = some () from fun a b hab => by subst hab; simp [same]]
 ·rfl
 ·rw [Eu]; simp
def xI (P : Int) (s : List aK × List aK) (x : aK) : List aK × List aK := bif decide (s.2.length < 24) && !pK ⟨P,s.2⟩ x.A x.B then (s.1 ++ [x],lS x s.2) else s
def fU (g : aX) (w : List aK) (k : Nat) : List aK × List aK := (w.take k).foldl (xI g.aH) ([],g.aC)
theorem Dp (g : aX) {w : List aK} {k : Nat} (hk : k < w.length) : fU g w (k + 1) = xI g.aH (fU g w k) w[k] := by
 unfold fU
 rw [List.take_succ_eq_append_getElem hk,List.foldl_append]
 rfl
theorem xH (g : aX) (w : List aK) (hs : g.aC.Pairwise fun x y => gK x y = false) (hl : g.aC.length ≤ 24) : ∀ k,k ≤ w.length → (fU g w k).1.length ≤ k ∧ (fU g w k).2.length ≤ 24 ∧ (fU g w k).2.Pairwise fun x y => gK x y = false
 | 0,_ => ⟨Nat.le_refl _,hl,hs⟩
 | k + 1,hk => by
  obtain ⟨h1,h2,h3⟩ := xH g w hs hl k (by omega)
  rw [Dp g (by omega)]
  unfold xI
  cases hb : decide ((fU g w k).2.length < 24) && !pK ⟨g.aH,(fU g w k).2⟩ w[k].A w[k].B
  ·exact ⟨by rw [cond_false]; omega,h2,h3⟩
  ·simp only [Bool.and_eq_true,decide_eq_true_eq] at hb
   exact ⟨by rw [cond_true]; simp; omega,by rw [cond_true,Eu]; omega,Ew _ h3⟩
theorem O9 (g : aX) (w : List aK) (hw : w.length ≤ 2147483648) (h : w = [] ∨ (g.aC.Pairwise fun x y => gK x y = false) ∧ g.aC.length ≤ 24) : bQ (vN w) BIG (0,[],g.aH,g.aC) = some ((fU g w w.length).1,(fU g w w.length).2,g.aH) := by
 refine mQ (fun k => ((k : Int),(fU g w k).1,g.aH,(fU g w k).2)) w.length (by omega) (by simp [fU]) (fun k hk => ?_) (by simp [vN])
 rcases h with rfl | ⟨hs,hl⟩
 ·simp at hk
 obtain ⟨h1,h2,h3⟩ := xH g w hs hl k (by omega)
 unfold vN
 simp only
 rw [decide_eq_true (show (k : Int) < (w.length : Int) by omega),cond_true,vC hk,Option.bind_some,TV ⟨g.aH,(fU g w k).2⟩ (by simp only; omega),Dp g hk,gm (show k ≤ 1099511627776 by omega)]
 unfold xI
 by_cases hq : (fU g w k).2.length < 24
 ·rw [decide_eq_true (show ((fU g w k).2.length : Int) < 24 by omega),decide_eq_true hq]
  cases hb : pK ⟨g.aH,(fU g w k).2⟩ w[k].A w[k].B
  ·simp only [cond_true,Option.bind_some,Bool.not_false,Bool.true_and,XC (P := g.aH) (show (fU g w k).2.length ≤ 4000 by omega) h3]
   rw [iM (by simp; omega)]
   rfl
  ·rfl
 ·rw [decide_eq_false (show ¬ ((fU g w k).2.length : Int) < 24 by omega),decide_eq_false hq]
  rfl
theorem PD (g : aX) (w : List aK) (hw : w.length ≤ 2147483648) (h : w = [] ∨ (g.aC.Pairwise fun x y => gK x y = false) ∧ g.aC.length ≤ 24) : bQ (vw w) BIG (0,[],g.aH,g.aC) = some ((fU g w w.length).1,(fU g w w.length).2,g.aH) := by
 refine mQ (fun k => ((k : Int),(fU g w k).1,g.aH,(fU g w k).2)) w.length (by omega) (by simp [fU]) (fun k hk => ?_) (by simp [vw])
 rcases h with rfl | ⟨hs,hl⟩
 ·simp at hk
 obtain ⟨h1,h2,h3⟩ := xH g w hs hl k (by omega)
 unfold vw
 simp only [vC hk,Option.bind_some]
 rw [decide_eq_true (show (k : Int) < (w.length : Int) by omega),cond_true,TY ⟨g.aH,(fU g w k).2⟩ (by simp only; omega),Dp g hk,gm (show k ≤ 1099511627776 by omega)]
 unfold xI
 by_cases hq : (fU g w k).2.length < 24
 ·rw [decide_eq_true (show ((fU g w k).2.length : Int) < 24 by omega),decide_eq_true hq]
  cases hb : pK ⟨g.aH,(fU g w k).2⟩ w[k].A w[k].B
  ·simp only [cond_true,Option.bind_some,Bool.not_false,Bool.true_and]
   rw [Jm ⟨g.aH,(fU g w k).2⟩ _ (by simp only; omega)]
   simp only [cond_true,Option.bind_some]
   rw [iM (by simp; omega)]
   rfl
  ·rfl
 ·rw [decide_eq_false (show ¬ ((fU g w k).2.length : Int) < 24 by omega),decide_eq_false hq]
  cases hb : pK ⟨g.aH,(fU g w k).2⟩ w[k].A w[k].B <;> rfl
def few (g : aX) (w : List aK) : List aK × Bool := bif rigid ⟨g.aH,(fU g w w.length).2⟩ then ((fU g w w.length).1,true) else ([],false)
theorem PE (g : aX) (h : g.aC.length ≤ 1048576) : ∃ w,tC g = some w ∧ oW g = some w ∧ w.length ≤ 2147483648 ∧ (w = [] ∨ vG g = true) ∧ vk g = some (few g w) ∧ sS g = some (few g w) := by
 obtain ⟨w,hs,hi,hw⟩ := UO g h
 have hv : w = [] ∨ vG g = true := by
  cases hv : vG g
  ·left
   unfold oW at hi
   rw [qU g (by omega),hv] at hi
   exact (Option.some.inj hi).symm
  ·exact .inr rfl
 have hq : w = [] ∨ (g.aC.Pairwise fun x y => gK x y = false) ∧ g.aC.length ≤ 24 := by
  rcases hv with h | h
  ·exact .inl h
  ·exact .inr ⟨(nJ h).pair,(nJ h).len⟩
 have hsm : SM (fU g w w.length).2.length := by
  rcases hq with rfl | ⟨h1,h2⟩
  ·show SM g.aC.length
   omega
  ·have := (xH g w h1 h2 w.length (Nat.le_refl _)).2.1
   omega
 refine ⟨w,hs,hi,hw,hv,?_,?_⟩
 ·unfold vk few
  rw [UD g (by omega)]
  simp only [Option.bind_some,hs,PD g w hw hq,U8 ⟨g.aH,(fU g w w.length).2⟩ hsm]
  cases rigid ⟨g.aH,(fU g w w.length).2⟩ <;> rfl
 ·unfold sS few
  rw [IW g (by omega)]
  simp only [Option.bind_some,hi,O9 g w hw hq,U7 ⟨g.aH,(fU g w w.length).2⟩ hsm]
  cases rigid ⟨g.aH,(fU g w w.length).2⟩ <;> rfl
theorem PG (g : aX) {w : List aK} (hw : w.length ≤ 2147483648) (hv : w = [] ∨ vG g = true) : (few g w).1.length ≤ 2147483648 := by
 unfold few
 cases rigid ⟨g.aH,(fU g w w.length).2⟩
 ·simp
 ·rcases hv with rfl | h
  ·simp [fU]
  ·have := (xH g w (nJ h).pair (nJ h).len w.length (Nat.le_refl _)).1
   simp only [cond_true]
   omega
theorem Nb (g : aX) (h : g.aC.length ≤ 1048576) : ∃ w,vk g = some w ∧ sS g = some w ∧ SM w.1.length := by
 obtain ⟨w,_,_,hw,hv,h1,h2⟩ := PE g h
 exact ⟨_,h1,h2,PG g hw hv⟩
end Go.Proofs.Ytdmlaldifbmkpaa
end
section
set_option linter.unusedVariables false
set_option linter.unusedSimpArgs false
set_option linter.unnecessarySimpa false
open Go Go.Fw
namespace Go.Proofs.Ytdmlaldifbmkpaa
theorem UF (aG : aX) {p0 : Prop} (_ : p0) (l0 : aG.aC.length ≤ 1048576) : A7 aG = some true := by
  obtain ⟨w, hs, hi, hw0⟩ := Nb aG l0
  have s0 : SM aG.aC.length := by omega
  unfold A7
  obtain ⟨z0, e0⟩ := Vl aG 1048576
  rw [e0, Option.bind_some]
  cases decide (z0 < 0)
  rotate_left
  · rfl
  simp only [cond_false]
  simp only [hs, hi, Vq aG s0, O6 aG s0, UL aG s0 1 (by omega) (by omega), Ib w.1 hw0, KA w.1 hw0 1 ⟨by omega, by omega⟩, QY w.1.length hw0 1 ⟨by omega, by omega⟩, decide_eq_false (show ¬ (1 + 2 * (aG.aC.length : Int)) < 0 by omega), decide_eq_false (show ¬ (1 + 2 * (w.1.length : Int)) < 0 by omega), nH, VE, Option.bind_some, bne_self_eq_false, beq_self_eq_true, Bool.not_true, Bool.not_false, cond_true, cond_false]
end Go.Proofs.Ytdmlaldifbmkpaa
end
section
set_option linter.unusedVariables false
set_option linter.unusedSimpArgs false
set_option linter.unnecessarySimpa false
namespace Go.Fw
def nC (ops : Array Oper) (σ : Slots) (o : Oper) : Option (Bool × Bool) := match o.guard with
 | none => none
 | some (j,want) => ((ops[j]?).bind (·.dst)).bind fun d => match lk σ d with
  | some (.s (.c (.pv (.sc (.bool c))))) => some (c,want)
  | some (.cZ []) => some (!want,want)
  | _ => none
theorem gH {ops : Array Oper} {σ : Slots} {o : Oper} {c c0 want b : Bool} (hc : c = c0) (h : nC ops σ o = some (c,want)) (hb : b = (c0 == want)) : dU ops σ o b := by
 subst hc hb
 unfold nC at h
 unfold dU
 cases hg : o.guard with
 | none => rw [hg] at h; cases h
 | some p =>
  obtain ⟨j,wt⟩ := p
  rw [hg] at h
  dsimp only at h
  cases hd : (ops[j]?).bind (·.dst) with
  | none => rw [hd] at h; cases h
  | some d =>
   rw [hd] at h
   refine ⟨d,hd,?_⟩
   simp only [Option.bind_some] at h
   split at h
   ·rename_i cc hl; injection h with h; injection h with h1 h2; subst h1 h2; exact .inl ⟨cc,hl,rfl⟩
   ·rename_i hl; injection h with h; injection h with h1 h2; subst h1 h2; exact .inr ⟨hl,by cases wt <;> rfl⟩
   ·cases h
theorem gS {ops : Array Oper} {σ : Slots} {o : Oper} {c want b : Bool} (h : nC ops σ o = some (c,want)) (hb : b = (c == want)) : dU ops σ o b := gH rfl h hb
abbrev FT (P : Program) {ρ : Type} (M : Option ρ) (f : FuncId) (args : List SV) (us : Mem) (rs : ρ → List SV) (iF : ρ → Mem) (X : List Nat) : Prop := ∀ t,M = some t → Fn P f args us (oH (rs t)) (iF t) (keys us) X
section
variable {P : Program}
theorem FT.of (pn : List Nat) {f : FuncId} {fn : Func} {c : Code} {args : List SV} {us : Mem} {X : List Nat} {N : Nat} {ρ : Type} {M : Option ρ} {rs : ρ → List SV} {iF : ρ → Mem} (hf : P.funcs[f]? = some fn) (hN : fn.ntmps = N) (hb : fn.body = some c)
  (hs : args.length.ble N = true ∧ (dS (keys us) (pn ++ X) && jQ X pn && dS pn (keys us)) = true)
  (h : ∀ w0 U0 R0 g0,aB P ⟨w0,U0,R0,g0,N,pn⟩ [.code c] (rY 0 args) us M (ay P fn.results.toList us X rs iF)) : FT P M f args us rs iF X :=
 Fn.of hf hb hN (Nat.le_of_ble_eq_true hs.1) hs.2 h
variable {C : Ctx} {σ : Slots} {m : Mem} {is : List It} {τ υ : Type} {M : Option τ} {K : τ → Post} {ops : Array Oper} {l : List Oper} {done : List Ct} {rest : List Oper} {o o' : Oper}
theorem sO (c : CV) {x : Operand} {t e : TypeId} {n off : Nat} {cs : List CV} (ho : o.op = .load t x) (h : iQ P t = some false) (hk : cs[off]? = some c := by exact rfl) : LT P o [(x,Cc (.pl n off))] [(n,.row e [cs])] (Cc c) [] [] [] := LT.xA ho h hk
theorem bW (out : List CV) {x : Operand} {t e : TypeId} {n off s : Nat} {cs : List CV} (ho : o.op = .load t x) (h : iQ P t = some true) (hi : (P.info? t).isSome = true) (hs : bH P t = s) (ho2 : (cs.drop off).take s = out := by exact rfl) (hl : out.length = s := by exact rfl) :
  LT P o [(x,Cc (.pl n off))] [(n,.row e [cs])] (Ag out) [] [] [] := LT.Na ho h (dR hi) hs ho2 hl
theorem lV (v : SV) (out : List CV) {t e : TypeId} {n off s : Nat} {x y : Operand} {cs : List CV} (ho : o.op = .store t x y) (hd : o.dst = none) (hi : (P.info? t).isSome = true) (hs : bH P t = s) (hl : (iZ v).length = s := by exact rfl) (hk : (off + s).ble cs.length = true := by exact rfl)
  (hout : ow cs off (iZ v) = out := by exact rfl) : LT P o [(x,Cc (.pl n off)),(y,.s v)] [(n,.row e [cs])] (.cZ []) [(n,.row e [out])] [n] [] := LT.Hl ho hd (dR hi) hs hl (Nat.le_of_ble_eq_true hk) hout
theorem stA (v : List CV) {t e : TypeId} {n off s : Nat} {x y : Operand} {cs : List CV} (ho : o.op = .store t x y) (hd : o.dst = none) (hi : (P.info? t).isSome = true) (hs : bH P t = s) (hl : (iZ (.agg v)).length = s := by exact rfl) (hk : (off + s).ble cs.length = true := by exact rfl)
  (hout : ow cs off (iZ (.agg v)) = v := by exact rfl) : LT P o [(x,Cc (.pl n off)),(y,Ag v)] [(n,.row e [cs])] (.cZ []) [(n,.row e [v])] [n] [] := LT.Hl ho hd (dR hi) hs hl (Nat.le_of_ble_eq_true hk) hout
theorem bU (c : CV) {x x' : Operand} {t t' e : TypeId} {i n off d : Nat} {cs : List CV} (hf : kJ P t i = some d) (ha : iQ P t' = some false)
  (h : o.op = .fieldAddr t x i ∧ dI σ x (Cc (.pl n off)) ∧ dU ops σ o true ∧ dQ C.N o.dst = true ∧ o'.op = .load t' x' ∧ dI (dH σ o.dst (Cc (.pl n (off + d)))) x' (Cc (.pl n (off + d))) ∧ lk m n = some (.row e [cs]) ∧ dU ops (dH σ o.dst (Cc (.pl n (off + d)))) o' true ∧ dQ C.N o'.dst = true ∧ cs[off + d]? = some c)
  (k : aT P C ops rest is (dH (dH σ o.dst (Cc (.pl n (off + d)))) o'.dst (Cc c)) m M K) : aT P C ops (o :: o' :: rest) is σ m M K :=
 have ⟨a,b,c1,d1,a2,b2,l,c2,d2,z⟩ := h
 aZ (LT.iJ a hf) b c1 d1 (bZ (LT.xA a2 ha z) b2 l c2 d2 k)
theorem iq (c : CV) {x x' : Operand} {t t' e : TypeId} {i n off d : Nat} {cs : List CV} {cb c0 w1 w2 : Bool} (hf : kJ P t i = some d) (ha : iQ P t' = some false) (hc : cb = c0)
  (h : o.op = .fieldAddr t x i ∧ dI σ x (Cc (.pl n off)) ∧ nC ops σ o = some (cb,w1) ∧ true = (c0 == w1) ∧ dQ C.N o.dst = true ∧ o'.op = .load t' x' ∧ dI (dH σ o.dst (Cc (.pl n (off + d)))) x' (Cc (.pl n (off + d))) ∧ lk m n = some (.row e [cs]) ∧ nC ops (dH σ o.dst (Cc (.pl n (off + d)))) o' = some (cb,w2) ∧ true = (c0 == w2) ∧ dQ C.N o'.dst = true ∧ cs[off + d]? = some c)
  (k : aT P C ops rest is (dH (dH σ o.dst (Cc (.pl n (off + d)))) o'.dst (Cc c)) m M K) : aT P C ops (o :: o' :: rest) is σ m M K :=
 have ⟨a,b,c1,c2,d1,a2,b2,l,c3,c4,d2,z⟩ := h
 aZ (LT.iJ a hf) b (gH hc c1 c2) d1 (bZ (LT.xA a2 ha z) b2 l (gH hc c3 c4) d2 k)
theorem fQ (c : CV) {x x' : Operand} {t t' e : TypeId} {i n off d : Nat} {cs : List CV} (hf : kJ P t i = some d) (ha : iQ P t' = some false)
  (h : o.op = .fieldAddr t x i ∧ dI σ x (Cc (.pl n off)) ∧ dU l.toArray σ o true ∧ dQ C.N o.dst = true ∧ o'.op = .load t' x' ∧ dI (dH σ o.dst (Cc (.pl n (off + d)))) x' (Cc (.pl n (off + d))) ∧ lk m n = some (.row e [cs]) ∧ dU l.toArray (dH σ o.dst (Cc (.pl n (off + d)))) o' true ∧ dQ C.N o'.dst = true ∧ cs[off + d]? = some c)
  (k : aS P C l (⟨[(x',Cc (.pl n (off + d)))],[(n,.row e [cs])],Cc c,[],[],[],true⟩ :: ⟨[(x,Cc (.pl n off))],[],Cc (.pl n (off + d)),[],[],[],true⟩ :: done) rest is (dH (dH σ o.dst (Cc (.pl n (off + d)))) o'.dst (Cc c)) m M K) : aS P C l done (o :: o' :: rest) is σ m M K :=
 have ⟨a,b,c1,d1,a2,b2,l,c2,d2,z⟩ := h
 bg (LT.iJ a hf) b c1 d1 (fZ (LT.xA a2 ha z) b2 l c2 d2 k)
theorem jY (c : CV) {x x' : Operand} {t t' e : TypeId} {i n off d : Nat} {cs : List CV} {cb c0 w1 w2 : Bool} (hf : kJ P t i = some d) (ha : iQ P t' = some false) (hc : cb = c0)
  (h : o.op = .fieldAddr t x i ∧ dI σ x (Cc (.pl n off)) ∧ nC l.toArray σ o = some (cb,w1) ∧ true = (c0 == w1) ∧ dQ C.N o.dst = true ∧ o'.op = .load t' x' ∧ dI (dH σ o.dst (Cc (.pl n (off + d)))) x' (Cc (.pl n (off + d))) ∧ lk m n = some (.row e [cs]) ∧ nC l.toArray (dH σ o.dst (Cc (.pl n (off + d)))) o' = some (cb,w2) ∧ true = (c0 == w2) ∧ dQ C.N o'.dst = true ∧ cs[off + d]? = some c)
  (k : aS P C l (⟨[(x',Cc (.pl n (off + d)))],[(n,.row e [cs])],Cc c,[],[],[],true⟩ :: ⟨[(x,Cc (.pl n off))],[],Cc (.pl n (off + d)),[],[],[],true⟩ :: done) rest is (dH (dH σ o.dst (Cc (.pl n (off + d)))) o'.dst (Cc c)) m M K) : aS P C l done (o :: o' :: rest) is σ m M K :=
 have ⟨a,b,c1,c2,d1,a2,b2,l,c3,c4,d2,z⟩ := h
 bg (LT.iJ a hf) b (gH hc c1 c2) d1 (fZ (LT.xA a2 ha z) b2 l (gH hc c3 c4) d2 k)
theorem dA {j : Nat} {want : Bool} {d : Tmp} {c : Bool} (h : o.guard = some (j,want) ∧ (ops[j]?).bind (·.dst) = some d ∧ lk σ d = some (Bv c) ∧ (c == want) = false ∧ dQ C.N o.dst = true) (k : aT P C ops rest is (dH σ o.dst (.cZ [])) m M K) : aT P C ops (o :: rest) is σ m M K := Ok h.1 h.2.1 h.2.2.1 h.2.2.2.1 h.2.2.2.2 k
theorem aW {j : Nat} {want : Bool} {d : Tmp} {c c0 : Bool} (hc : c = c0) (h : o.guard = some (j,want) ∧ (ops[j]?).bind (·.dst) = some d ∧ lk σ d = some (Bv c) ∧ (c0 == want) = false ∧ dQ C.N o.dst = true) (k : aT P C ops rest is (dH σ o.dst (.cZ [])) m M K) : aT P C ops (o :: rest) is σ m M K := Ok h.1 h.2.1 h.2.2.1 (hc ▸ h.2.2.2.1) h.2.2.2.2 k
theorem aV {c want : Bool} (h : nC l.toArray σ o = some (c,want) ∧ false = (c == want) ∧ dQ C.N o.dst = true) (k : aS P C l (⟨[],[],.cZ [],[],[],[],false⟩ :: done) rest is (dH σ o.dst (.cZ [])) m M K) : aS P C l done (o :: rest) is σ m M K := aS.skip (gS h.1 h.2.1) h.2.2 k
theorem ai {c c0 want : Bool} (hc : c = c0) (h : nC l.toArray σ o = some (c,want) ∧ false = (c0 == want) ∧ dQ C.N o.dst = true) (k : aS P C l (⟨[],[],.cZ [],[],[],[],false⟩ :: done) rest is (dH σ o.dst (.cZ [])) m M K) : aS P C l done (o :: rest) is σ m M K := aS.skip (gH hc h.1 h.2.1) h.2.2 k
theorem aN (v : AV) {x : Operand} (h : o.op = .move x ∧ dI σ x v ∧ dU ops σ o true ∧ dQ C.N o.dst = true) (k : aT P C ops rest is (dH σ o.dst v) m M K) : aT P C ops (o :: rest) is σ m M K := mv v h.1 h.2.1 h.2.2.1 h.2.2.2 k
theorem aQ (v : AV) {x : Operand} (h : o.op = .assign x ∧ dI σ x v ∧ dU ops σ o true ∧ dQ C.N o.dst = true) (k : aT P C ops rest is (dH σ o.dst v) m M K) : aT P C ops (o :: rest) is σ m M K := NY v h.1 h.2.1 h.2.2.1 h.2.2.2 k
theorem dY (v : AV) {x : Operand} {c c0 w : Bool} (hc : c = c0) (h : o.op = .move x ∧ dI σ x v ∧ nC ops σ o = some (c,w) ∧ true = (c0 == w) ∧ dQ C.N o.dst = true) (k : aT P C ops rest is (dH σ o.dst v) m M K) : aT P C ops (o :: rest) is σ m M K := mv v h.1 h.2.1 (gH hc h.2.2.1 h.2.2.2.1) h.2.2.2.2 k
theorem bf (v : AV) {x : Operand} (h : o.op = .move x ∧ dI σ x v ∧ dU l.toArray σ o true ∧ dQ C.N o.dst = true) (k : aS P C l (⟨[(x,v)],[],v,[],[],[],true⟩ :: done) rest is (dH σ o.dst v) m M K) : aS P C l done (o :: rest) is σ m M K := bg (LT.move h.1) h.2.1 h.2.2.1 h.2.2.2 k
theorem iY (v : AV) {x : Operand} {c c0 w : Bool} (hc : c = c0) (h : o.op = .move x ∧ dI σ x v ∧ nC l.toArray σ o = some (c,w) ∧ true = (c0 == w) ∧ dQ C.N o.dst = true) (k : aS P C l (⟨[(x,v)],[],v,[],[],[],true⟩ :: done) rest is (dH σ o.dst v) m M K) : aS P C l done (o :: rest) is σ m M K := bg (LT.move h.1) h.2.1 (gH hc h.2.2.1 h.2.2.2.1) h.2.2.2.2 k
theorem bG {x0 x1 : Operand} {v0 v1 v : AV} {A : Prop} (f : A → LT P o [(x0,v0),(x1,v1)] [] v [] [] []) (h : A ∧ dI σ x0 v0 ∧ dI σ x1 v1 ∧ dU ops σ o true ∧ dQ C.N o.dst = true) (k : aT P C ops rest is (dH σ o.dst v) m M K) : aT P C ops (o :: rest) is σ m M K := fA (f h.1) h.2.1 h.2.2.1 h.2.2.2.1 h.2.2.2.2 k
theorem iE {x0 x1 : Operand} {v0 v1 v : AV} {A : Prop} {c c0 w : Bool} (f : A → LT P o [(x0,v0),(x1,v1)] [] v [] [] []) (hc : c = c0) (h : A ∧ dI σ x0 v0 ∧ dI σ x1 v1 ∧ nC ops σ o = some (c,w) ∧ true = (c0 == w) ∧ dQ C.N o.dst = true) (k : aT P C ops rest is (dH σ o.dst v) m M K) : aT P C ops (o :: rest) is σ m M K := fA (f h.1) h.2.1 h.2.2.1 (gH hc h.2.2.2.1 h.2.2.2.2.1) h.2.2.2.2.2 k
theorem jP {x0 x1 : Operand} {v0 v1 v : AV} {A : Prop} (f : A → LT P o [(x0,v0),(x1,v1)] [] v [] [] []) (h : A ∧ dI σ x0 v0 ∧ dI σ x1 v1 ∧ dU l.toArray σ o true ∧ dQ C.N o.dst = true) (k : aS P C l (⟨[(x0,v0),(x1,v1)],[],v,[],[],[],true⟩ :: done) rest is (dH σ o.dst v) m M K) : aS P C l done (o :: rest) is σ m M K := eu (f h.1) h.2.1 h.2.2.1 h.2.2.2.1 h.2.2.2.2 k
theorem jm {x0 x1 : Operand} {v0 v1 v : AV} {A : Prop} {c c0 w : Bool} (f : A → LT P o [(x0,v0),(x1,v1)] [] v [] [] []) (hc : c = c0) (h : A ∧ dI σ x0 v0 ∧ dI σ x1 v1 ∧ nC l.toArray σ o = some (c,w) ∧ true = (c0 == w) ∧ dQ C.N o.dst = true) (k : aS P C l (⟨[(x0,v0),(x1,v1)],[],v,[],[],[],true⟩ :: done) rest is (dH σ o.dst v) m M K) : aS P C l done (o :: rest) is σ m M K := eu (f h.1) h.2.1 h.2.2.1 (gH hc h.2.2.2.1 h.2.2.2.2.1) h.2.2.2.2.2 k
theorem eF (v : AV) {c x y : Operand} {b : Bool} (hb : b = true) (h : o.op = .pick c x y ∧ dI σ c (Bv b) ∧ dI σ x v ∧ dU ops σ o true ∧ dQ C.N o.dst = true) (k : aT P C ops rest is (dH σ o.dst v) m M K) : aT P C ops (o :: rest) is σ m M K := fA (LT.mW h.1 hb) h.2.1 h.2.2.1 h.2.2.2.1 h.2.2.2.2 k
theorem fD (v : AV) {c x y : Operand} {b : Bool} (hb : b = false) (h : o.op = .pick c x y ∧ dI σ c (Bv b) ∧ dI σ y v ∧ dU ops σ o true ∧ dQ C.N o.dst = true) (k : aT P C ops rest is (dH σ o.dst v) m M K) : aT P C ops (o :: rest) is σ m M K := fA (LT.mV h.1 hb) h.2.1 h.2.2.1 h.2.2.2.1 h.2.2.2.2 k
theorem jG (v : AV) {c x y : Operand} {b : Bool} (hb : b = true) (h : o.op = .pick c x y ∧ dI σ c (Bv b) ∧ dI σ x v ∧ dU l.toArray σ o true ∧ dQ C.N o.dst = true) (k : aS P C l (⟨[(c,Bv b),(x,v)],[],v,[],[],[],true⟩ :: done) rest is (dH σ o.dst v) m M K) : aS P C l done (o :: rest) is σ m M K := eu (LT.mW h.1 hb) h.2.1 h.2.2.1 h.2.2.2.1 h.2.2.2.2 k
theorem jM (v : AV) {c x y : Operand} {b : Bool} (hb : b = false) (h : o.op = .pick c x y ∧ dI σ c (Bv b) ∧ dI σ y v ∧ dU l.toArray σ o true ∧ dQ C.N o.dst = true) (k : aS P C l (⟨[(c,Bv b),(y,v)],[],v,[],[],[],true⟩ :: done) rest is (dH σ o.dst v) m M K) : aS P C l done (o :: rest) is σ m M K := eu (LT.mV h.1 hb) h.2.1 h.2.2.1 h.2.2.2.1 h.2.2.2.2 k
theorem aj {t : τ} {σ' : Slots} {m' : Mem} (e : K t .normal σ m = (Exit.normal = Exit.normal ∧ aU P C σ m σ' m')) (h1 : qN σ' σ) (h2 : qM m' m) : aB P C [] σ m (some t) K := aB.nil (by rw [e]; exact ⟨rfl,aU.of h1 h2⟩)
theorem cF (xs : List SV) (sh : Mem) {cf : Operand} {f : FuncId} {os : Array Operand} {ts : Array TypeId} {ys : List SV} {us df : Mem} {v : AV} {W X : List Nat} (hf : Fn P f ys us v df W X) (hb : dL P f = true) (hsh : jX sh xs ys) (hus : rV (keys sh) us)
  (h : o.op = .call { callee := .value cf,args := os,argTypes := ts } ∧ os.size = xs.length ∧ (jQ (keys sh) (W ++ X ++ keys us ++ keys df ++ []) && dS W (keys us)) = true) : LT P o ((cf,Cc (.fn f [])) :: zW os.toList xs) (us ++ sh) v df W X := LT.Hq hf h.1 hb hsh h.2.1 h.2.2 hus
theorem cO (xs : List SV) {cf : Operand} {f : FuncId} {os : Array Operand} {ts : Array TypeId} {ys : List SV} {us df : Mem} {v : AV} {W X : List Nat} (hf : Fn P f ys us v df W X) (hb : dL P f = true) (hsh : jX [] xs ys) (hus : rV (keys ([] : Mem)) us)
  (h : o.op = .call { callee := .value cf,args := os,argTypes := ts } ∧ os.size = xs.length ∧ (jQ (keys ([] : Mem)) (W ++ X ++ keys us ++ keys df ++ []) && dS W (keys us)) = true) : LT P o ((cf,Cc (.fn f [])) :: zW os.toList xs) (us ++ []) v df W X := LT.Hq hf h.1 hb hsh h.2.1 h.2.2 hus
end
end Go.Fw
end
section
set_option linter.unusedVariables false
set_option linter.unusedSimpArgs false
set_option linter.unnecessarySimpa false
set_option maxRecDepth 100000
set_option maxHeartbeats 8000000
open Go Go.Fw
namespace Go.Proofs.Ytdmlaldifbmkpaa
theorem Q {α : Type} {a : α} : a = a := rfl
theorem J : True := trivial
theorem K {n m : Nat} (h : n.ble m = true) : n ≤ m := Nat.le_of_ble_eq_true h
theorem z1 {α0 : Type} {a0 : α0} : a0 = a0 ∧ True := ⟨rfl, trivial⟩
theorem z2 {α0 α1 : Type} {a0 : α0} {a1 : α1} : a0 = a0 ∧ a1 = a1 ∧ True := ⟨rfl, rfl, trivial⟩
theorem y2 {α0 α1 : Type} {a0 : α0} {a1 : α1} : a0 = a0 ∧ a1 = a1 := ⟨rfl, rfl⟩
theorem z3 {α0 α1 α2 : Type} {a0 : α0} {a1 : α1} {a2 : α2} : a0 = a0 ∧ a1 = a1 ∧ a2 = a2 ∧ True := ⟨rfl, rfl, rfl, trivial⟩
theorem y3 {α0 α1 α2 : Type} {a0 : α0} {a1 : α1} {a2 : α2} : a0 = a0 ∧ a1 = a1 ∧ a2 = a2 := ⟨rfl, rfl, rfl⟩
theorem z4 {α0 α1 α2 α3 : Type} {a0 : α0} {a1 : α1} {a2 : α2} {a3 : α3} : a0 = a0 ∧ a1 = a1 ∧ a2 = a2 ∧ a3 = a3 ∧ True := ⟨rfl, rfl, rfl, rfl, trivial⟩
theorem y4 {α0 α1 α2 α3 : Type} {a0 : α0} {a1 : α1} {a2 : α2} {a3 : α3} : a0 = a0 ∧ a1 = a1 ∧ a2 = a2 ∧ a3 = a3 := ⟨rfl, rfl, rfl, rfl⟩
theorem z5 {α0 α1 α2 α3 α4 : Type} {a0 : α0} {a1 : α1} {a2 : α2} {a3 : α3} {a4 : α4} : a0 = a0 ∧ a1 = a1 ∧ a2 = a2 ∧ a3 = a3 ∧ a4 = a4 ∧ True := ⟨rfl, rfl, rfl, rfl, rfl, trivial⟩
theorem z6 {α0 α1 α2 α3 α4 α5 : Type} {a0 : α0} {a1 : α1} {a2 : α2} {a3 : α3} {a4 : α4} {a5 : α5} : a0 = a0 ∧ a1 = a1 ∧ a2 = a2 ∧ a3 = a3 ∧ a4 = a4 ∧ a5 = a5 ∧ True := ⟨rfl, rfl, rfl, rfl, rfl, rfl, trivial⟩
theorem z7 {α0 α1 α2 α3 α4 α5 α6 : Type} {a0 : α0} {a1 : α1} {a2 : α2} {a3 : α3} {a4 : α4} {a5 : α5} {a6 : α6} : a0 = a0 ∧ a1 = a1 ∧ a2 = a2 ∧ a3 = a3 ∧ a4 = a4 ∧ a5 = a5 ∧ a6 = a6 ∧ True := ⟨rfl, rfl, rfl, rfl, rfl, rfl, rfl, trivial⟩
theorem z8 {α0 α1 α2 α3 α4 α5 α6 α7 : Type} {a0 : α0} {a1 : α1} {a2 : α2} {a3 : α3} {a4 : α4} {a5 : α5} {a6 : α6} {a7 : α7} : a0 = a0 ∧ a1 = a1 ∧ a2 = a2 ∧ a3 = a3 ∧ a4 = a4 ∧ a5 = a5 ∧ a6 = a6 ∧ a7 = a7 ∧ True := ⟨rfl, rfl, rfl, rfl, rfl, rfl, rfl, rfl, trivial⟩
theorem z9 {α0 α1 α2 α3 α4 α5 α6 α7 α8 : Type} {a0 : α0} {a1 : α1} {a2 : α2} {a3 : α3} {a4 : α4} {a5 : α5} {a6 : α6} {a7 : α7} {a8 : α8} : a0 = a0 ∧ a1 = a1 ∧ a2 = a2 ∧ a3 = a3 ∧ a4 = a4 ∧ a5 = a5 ∧ a6 = a6 ∧ a7 = a7 ∧ a8 = a8 ∧ True := ⟨rfl, rfl, rfl, rfl, rfl, rfl, rfl, rfl, rfl, trivial⟩
theorem z10 {α0 α1 α2 α3 α4 α5 α6 α7 α8 α9 : Type} {a0 : α0} {a1 : α1} {a2 : α2} {a3 : α3} {a4 : α4} {a5 : α5} {a6 : α6} {a7 : α7} {a8 : α8} {a9 : α9} : a0 = a0 ∧ a1 = a1 ∧ a2 = a2 ∧ a3 = a3 ∧ a4 = a4 ∧ a5 = a5 ∧ a6 = a6 ∧ a7 = a7 ∧ a8 = a8 ∧ a9 = a9 ∧ True := ⟨rfl, rfl, rfl, rfl, rfl, rfl, rfl, rfl, rfl, rfl, trivial⟩
theorem z11 {α0 α1 α2 α3 α4 α5 α6 α7 α8 α9 α10 : Type} {a0 : α0} {a1 : α1} {a2 : α2} {a3 : α3} {a4 : α4} {a5 : α5} {a6 : α6} {a7 : α7} {a8 : α8} {a9 : α9} {a10 : α10} : a0 = a0 ∧ a1 = a1 ∧ a2 = a2 ∧ a3 = a3 ∧ a4 = a4 ∧ a5 = a5 ∧ a6 = a6 ∧ a7 = a7 ∧ a8 = a8 ∧ a9 = a9 ∧ a10 = a10 ∧ True := ⟨rfl, rfl, rfl, rfl, rfl, rfl, rfl, rfl, rfl, rfl, rfl, trivial⟩
theorem z12 {α0 α1 α2 α3 α4 α5 α6 α7 α8 α9 α10 α11 : Type} {a0 : α0} {a1 : α1} {a2 : α2} {a3 : α3} {a4 : α4} {a5 : α5} {a6 : α6} {a7 : α7} {a8 : α8} {a9 : α9} {a10 : α10} {a11 : α11} : a0 = a0 ∧ a1 = a1 ∧ a2 = a2 ∧ a3 = a3 ∧ a4 = a4 ∧ a5 = a5 ∧ a6 = a6 ∧ a7 = a7 ∧ a8 = a8 ∧ a9 = a9 ∧ a10 = a10 ∧ a11 = a11 ∧ True := ⟨rfl, rfl, rfl, rfl, rfl, rfl, rfl, rfl, rfl, rfl, rfl, rfl, trivial⟩
theorem z13 {α0 α1 α2 α3 α4 α5 α6 α7 α8 α9 α10 α11 α12 : Type} {a0 : α0} {a1 : α1} {a2 : α2} {a3 : α3} {a4 : α4} {a5 : α5} {a6 : α6} {a7 : α7} {a8 : α8} {a9 : α9} {a10 : α10} {a11 : α11} {a12 : α12} : a0 = a0 ∧ a1 = a1 ∧ a2 = a2 ∧ a3 = a3 ∧ a4 = a4 ∧ a5 = a5 ∧ a6 = a6 ∧ a7 = a7 ∧ a8 = a8 ∧ a9 = a9 ∧ a10 = a10 ∧ a11 = a11 ∧ a12 = a12 ∧ True := ⟨rfl, rfl, rfl, rfl, rfl, rfl, rfl, rfl, rfl, rfl, rfl, rfl, rfl, trivial⟩
theorem ah {α0 α1 α2 α3 α4 α5 : Type} {a0 : α0} {a1 : α1} {a2 : α2} {a3 : α3} {a4 : α4} {a5 : α5} : a0 = a0 ∧ a1 = a1 ∧ (a2 = a2 ∧ a3 = a3) ∧ a4 = a4 ∧ a5 = a5 := ⟨rfl, rfl, ⟨rfl, rfl⟩, rfl, rfl⟩
theorem kN {α0 α1 α2 α3 α4 α5 α6 : Type} {a0 : α0} {a1 : α1} {a2 : α2} {a3 : α3} {a4 : α4} {a5 : α5} {a6 : α6} : a0 = a0 ∧ a1 = a1 ∧ (a2 = a2 ∧ a3 = a3) ∧ a4 = a4 ∧ a5 = a5 ∧ a6 = a6 := ⟨rfl, rfl, ⟨rfl, rfl⟩, rfl, rfl, rfl⟩
theorem af {α0 α1 α2 α3 α4 : Type} {a0 : α0} {a1 : α1} {a2 : α2} {a3 : α3} {a4 : α4} : a0 = a0 ∧ (a1 = a1 ∧ a2 = a2) ∧ a3 = a3 ∧ a4 = a4 := ⟨rfl, ⟨rfl, rfl⟩, rfl, rfl⟩
theorem CX {α0 α1 α2 α3 α4 α5 : Type} {a0 : α0} {a1 : α1} {a2 : α2} {a3 : α3} {a4 : α4} {a5 : α5} : a0 = a0 ∧ (a1 = a1 ∧ a2 = a2) ∧ a3 = a3 ∧ a4 = a4 ∧ a5 = a5 := ⟨rfl, ⟨rfl, rfl⟩, rfl, rfl, rfl⟩
theorem MB {α0 α1 α2 α3 α4 α5 α6 : Type} {a0 : α0} {a1 : α1} {a2 : α2} {a3 : α3} {a4 : α4} {a5 : α5} {a6 : α6} : a0 = a0 ∧ (a1 = a1 ∧ a2 = a2) ∧ a3 = a3 ∧ a4 = a4 ∧ a5 = a5 ∧ a6 = a6 := ⟨rfl, ⟨rfl, rfl⟩, rfl, rfl, rfl, rfl⟩
theorem bF {α0 α1 α2 α3 α4 α5 α6 α7 α8 α9 : Type} {a0 : α0} {a1 : α1} {a2 : α2} {a3 : α3} {a4 : α4} {a5 : α5} {a6 : α6} {a7 : α7} {a8 : α8} {a9 : α9} : a0 = a0 ∧ a1 = a1 ∧ a2 = a2 ∧ a3 = a3 ∧ a4 = a4 ∧ a5 = a5 ∧ a6 = a6 ∧ a7 = a7 ∧ a8 = a8 ∧ a9 = a9 := ⟨rfl, rfl, rfl, rfl, rfl, rfl, rfl, rfl, rfl, rfl⟩
theorem eG {α0 α1 α2 α3 α4 α5 α6 α7 α8 α9 α10 α11 : Type} {a0 : α0} {a1 : α1} {a2 : α2} {a3 : α3} {a4 : α4} {a5 : α5} {a6 : α6} {a7 : α7} {a8 : α8} {a9 : α9} {a10 : α10} {a11 : α11} : a0 = a0 ∧ a1 = a1 ∧ a2 = a2 ∧ a3 = a3 ∧ a4 = a4 ∧ a5 = a5 ∧ a6 = a6 ∧ a7 = a7 ∧ a8 = a8 ∧ a9 = a9 ∧ a10 = a10 ∧ a11 = a11 := ⟨rfl, rfl, rfl, rfl, rfl, rfl, rfl, rfl, rfl, rfl, rfl, rfl⟩
theorem y5 {α0 α1 α2 α3 α4 : Type} {a0 : α0} {a1 : α1} {a2 : α2} {a3 : α3} {a4 : α4} : a0 = a0 ∧ a1 = a1 ∧ a2 = a2 ∧ a3 = a3 ∧ a4 = a4 := ⟨rfl, rfl, rfl, rfl, rfl⟩
theorem y6 {α0 α1 α2 α3 α4 α5 : Type} {a0 : α0} {a1 : α1} {a2 : α2} {a3 : α3} {a4 : α4} {a5 : α5} : a0 = a0 ∧ a1 = a1 ∧ a2 = a2 ∧ a3 = a3 ∧ a4 = a4 ∧ a5 = a5 := ⟨rfl, rfl, rfl, rfl, rfl, rfl⟩
theorem y8 {α0 α1 α2 α3 α4 α5 α6 α7 : Type} {a0 : α0} {a1 : α1} {a2 : α2} {a3 : α3} {a4 : α4} {a5 : α5} {a6 : α6} {a7 : α7} : a0 = a0 ∧ a1 = a1 ∧ a2 = a2 ∧ a3 = a3 ∧ a4 = a4 ∧ a5 = a5 ∧ a6 = a6 ∧ a7 = a7 := ⟨rfl, rfl, rfl, rfl, rfl, rfl, rfl, rfl⟩
theorem CJ {sh : Mem} {x0 : CV} (h : au (keys sh) x0 = x0) : jX sh [.c x0] [.c x0] := .cons (.c (.same h)) .nil
theorem nS {sh : Mem} {x0 x1 : CV} (h : au (keys sh) x0 = x0 ∧ au (keys sh) x1 = x1) : jX sh [.c x0, .c x1] [.c x0, .c x1] := .cons (.c (.same h.1)) (.cons (.c (.same h.2)) .nil)
theorem rE {sh : Mem} {x0 x1 x2 : CV} (h : au (keys sh) x0 = x0 ∧ au (keys sh) x1 = x1 ∧ au (keys sh) x2 = x2) : jX sh [.c x0, .c x1, .c x2] [.c x0, .c x1, .c x2] := .cons (.c (.same h.1)) (.cons (.c (.same h.2.1)) (.cons (.c (.same h.2.2)) .nil))
theorem zI {sh : Mem} {x0 x1 x2 x3 : CV} (h : au (keys sh) x0 = x0 ∧ au (keys sh) x1 = x1 ∧ au (keys sh) x2 = x2 ∧ au (keys sh) x3 = x3) : jX sh [.c x0, .c x1, .c x2, .c x3] [.c x0, .c x1, .c x2, .c x3] := .cons (.c (.same h.1)) (.cons (.c (.same h.2.1)) (.cons (.c (.same h.2.2.1)) (.cons (.c (.same h.2.2.2)) .nil)))
theorem VJ {sh : Mem} {x0 x1 x2 x3 x4 : CV} (h : au (keys sh) x0 = x0 ∧ au (keys sh) x1 = x1 ∧ au (keys sh) x2 = x2 ∧ au (keys sh) x3 = x3 ∧ au (keys sh) x4 = x4) : jX sh [.c x0, .c x1, .c x2, .c x3, .c x4] [.c x0, .c x1, .c x2, .c x3, .c x4] := .cons (.c (.same h.1)) (.cons (.c (.same h.2.1)) (.cons (.c (.same h.2.2.1)) (.cons (.c (.same h.2.2.2.1)) (.cons (.c (.same h.2.2.2.2)) .nil))))
theorem VK {sh : Mem} {x0 x1 x2 x3 : CV} (h : au (keys sh) x0 = x0 ∧ au (keys sh) x1 = x1 ∧ au (keys sh) x2 = x2 ∧ au (keys sh) x3 = x3) : jX sh [.c x0, .c x1, .agg [x2, x3]] [.c x0, .c x1, .agg [x2, x3]] := .cons (.c (.same h.1)) (.cons (.c (.same h.2.1)) (.cons (.agg (.cons (.same h.2.2.1) (.cons (.same h.2.2.2) .nil))) .nil))
theorem jl {sh : Mem} {x0 x1 : CV} (h : au (keys sh) x0 = x0 ∧ au (keys sh) x1 = x1) : jX sh [.agg [x0, x1]] [.agg [x0, x1]] := .cons (.agg (.cons (.same h.1) (.cons (.same h.2) .nil))) .nil
theorem rF {sh : Mem} {x0 x1 x2 : CV} (h : au (keys sh) x0 = x0 ∧ au (keys sh) x1 = x1 ∧ au (keys sh) x2 = x2) : jX sh [.agg [x0, x1], .c x2] [.agg [x0, x1], .c x2] := .cons (.agg (.cons (.same h.1) (.cons (.same h.2.1) .nil))) (.cons (.c (.same h.2.2)) .nil)
theorem wW {sh : Mem} {x0 x1 x2 x3 : CV} (h : au (keys sh) x0 = x0 ∧ au (keys sh) x1 = x1 ∧ au (keys sh) x2 = x2 ∧ au (keys sh) x3 = x3) : jX sh [.agg [x0, x1], .c x2, .c x3] [.agg [x0, x1], .c x2, .c x3] := .cons (.agg (.cons (.same h.1) (.cons (.same h.2.1) .nil))) (.cons (.c (.same h.2.2.1)) (.cons (.c (.same h.2.2.2)) .nil))
theorem VL {sh : Mem} {x0 x1 x2 x3 x4 x5 : CV} (h : au (keys sh) x0 = x0 ∧ au (keys sh) x1 = x1 ∧ au (keys sh) x2 = x2 ∧ au (keys sh) x3 = x3 ∧ au (keys sh) x4 = x4 ∧ au (keys sh) x5 = x5) : jX sh [.agg [x0, x1], .c x2, .agg [x3, x4, x5]] [.agg [x0, x1], .c x2, .agg [x3, x4, x5]] := .cons (.agg (.cons (.same h.1) (.cons (.same h.2.1) .nil))) (.cons (.c (.same h.2.2.1)) (.cons (.agg (.cons (.same h.2.2.2.1) (.cons (.same h.2.2.2.2.1) (.cons (.same h.2.2.2.2.2) .nil)))) .nil))
theorem zJ {sh : Mem} {x0 x1 x2 x3 : CV} (h : au (keys sh) x0 = x0 ∧ au (keys sh) x1 = x1 ∧ au (keys sh) x2 = x2 ∧ au (keys sh) x3 = x3) : jX sh [.agg [x0, x1], .agg [x2, x3]] [.agg [x0, x1], .agg [x2, x3]] := .cons (.agg (.cons (.same h.1) (.cons (.same h.2.1) .nil))) (.cons (.agg (.cons (.same h.2.2.1) (.cons (.same h.2.2.2) .nil))) .nil)
theorem VN {sh : Mem} {x0 x1 x2 x3 x4 x5 x6 x7 : CV} (h : au (keys sh) x0 = x0 ∧ au (keys sh) x1 = x1 ∧ au (keys sh) x2 = x2 ∧ au (keys sh) x3 = x3 ∧ au (keys sh) x4 = x4 ∧ au (keys sh) x5 = x5 ∧ au (keys sh) x6 = x6 ∧ au (keys sh) x7 = x7) : jX sh [.agg [x0, x1], .agg [x2, x3, x4], .c x5, .c x6, .c x7] [.agg [x0, x1], .agg [x2, x3, x4], .c x5, .c x6, .c x7] := .cons (.agg (.cons (.same h.1) (.cons (.same h.2.1) .nil))) (.cons (.agg (.cons (.same h.2.2.1) (.cons (.same h.2.2.2.1) (.cons (.same h.2.2.2.2.1) .nil)))) (.cons (.c (.same h.2.2.2.2.2.1)) (.cons (.c (.same h.2.2.2.2.2.2.1)) (.cons (.c (.same h.2.2.2.2.2.2.2)) .nil))))
theorem CO {sh : Mem} {x0 x1 x2 : CV} (h : au (keys sh) x0 = x0 ∧ au (keys sh) x1 = x1 ∧ au (keys sh) x2 = x2) : jX sh [.agg [x0, x1, x2]] [.agg [x0, x1, x2]] := .cons (.agg (.cons (.same h.1) (.cons (.same h.2.1) (.cons (.same h.2.2) .nil)))) .nil
theorem VO {sh : Mem} {x0 x1 x2 x3 : CV} (h : au (keys sh) x0 = x0 ∧ au (keys sh) x1 = x1 ∧ au (keys sh) x2 = x2 ∧ au (keys sh) x3 = x3) : jX sh [.agg [x0, x1, x2], .c x3] [.agg [x0, x1, x2], .c x3] := .cons (.agg (.cons (.same h.1) (.cons (.same h.2.1) (.cons (.same h.2.2.1) .nil)))) (.cons (.c (.same h.2.2.2)) .nil)
theorem NM : iQ Try.prog 150 = some true := by kernel_rfl
theorem fJ : iQ Try.prog 163 = some true := by kernel_rfl
theorem eH : iQ Try.prog 24 = some false := by kernel_rfl
theorem dw : iQ Try.prog 26 = some true := by kernel_rfl
theorem bD : iQ Try.prog 3 = some false := by kernel_rfl
theorem dP : iQ Try.prog 37 = some false := by kernel_rfl
theorem NP : iQ Try.prog 4 = some false := by kernel_rfl
theorem G6 : iQ Try.prog 48 = some false := by kernel_rfl
theorem wo : iQ Try.prog 50 = some true := by kernel_rfl
theorem ig : iQ Try.prog 96 = some true := by kernel_rfl
theorem Ht : dL Try.prog 101 = true := by kernel_rfl
theorem Nj : dL Try.prog 111 = true := by kernel_rfl
theorem Nk : dL Try.prog 112 = true := by kernel_rfl
theorem Nl : dL Try.prog 113 = true := by kernel_rfl
theorem Np : dL Try.prog 114 = true := by kernel_rfl
theorem Hu : dL Try.prog 115 = true := by kernel_rfl
theorem Nq : dL Try.prog 116 = true := by kernel_rfl
theorem Nr : dL Try.prog 117 = true := by kernel_rfl
theorem Hw : dL Try.prog 118 = true := by kernel_rfl
theorem Ns : dL Try.prog 119 = true := by kernel_rfl
theorem Nu : dL Try.prog 120 = true := by kernel_rfl
theorem Nv : dL Try.prog 121 = true := by kernel_rfl
theorem Nw : dL Try.prog 122 = true := by kernel_rfl
theorem Ny : dL Try.prog 123 = true := by kernel_rfl
theorem zq : dL Try.prog 128 = true := by kernel_rfl
theorem Hy : dL Try.prog 149 = true := by kernel_rfl
theorem Hz : dL Try.prog 164 = true := by kernel_rfl
theorem zu : dL Try.prog 167 = true := by kernel_rfl
theorem Nz : dL Try.prog 171 = true := by kernel_rfl
theorem H6 : dL Try.prog 172 = true := by kernel_rfl
theorem N7 : dL Try.prog 173 = true := by kernel_rfl
theorem N8 : dL Try.prog 174 = true := by kernel_rfl
theorem N9 : dL Try.prog 175 = true := by kernel_rfl
theorem OA : dL Try.prog 176 = true := by kernel_rfl
theorem OB : dL Try.prog 177 = true := by kernel_rfl
theorem OD : dL Try.prog 178 = true := by kernel_rfl
theorem OE : dL Try.prog 179 = true := by kernel_rfl
theorem OG : dL Try.prog 180 = true := by kernel_rfl
theorem H7 : dL Try.prog 193 = true := by kernel_rfl
theorem H8 : dL Try.prog 194 = true := by kernel_rfl
theorem OH : dL Try.prog 195 = true := by kernel_rfl
theorem H9 : dL Try.prog 196 = true := by kernel_rfl
theorem IA : dL Try.prog 199 = true := by kernel_rfl
theorem OI : dL Try.prog 200 = true := by kernel_rfl
theorem zx : dL Try.prog 203 = true := by kernel_rfl
theorem zy : dL Try.prog 204 = true := by kernel_rfl
theorem OJ : dL Try.prog 205 = true := by kernel_rfl
theorem IB : dL Try.prog 206 = true := by kernel_rfl
theorem OL : dL Try.prog 217 = true := by kernel_rfl
theorem OM : dL Try.prog 218 = true := by kernel_rfl
theorem IC : dL Try.prog 219 = true := by kernel_rfl
theorem OO : dL Try.prog 220 = true := by kernel_rfl
theorem OQ : dL Try.prog 221 = true := by kernel_rfl
theorem OT : dL Try.prog 222 = true := by kernel_rfl
theorem OU : dL Try.prog 228 = true := by kernel_rfl
theorem OV : dL Try.prog 229 = true := by kernel_rfl
theorem OW : dL Try.prog 230 = true := by kernel_rfl
theorem OX : dL Try.prog 232 = true := by kernel_rfl
theorem IE : dL Try.prog 233 = true := by kernel_rfl
theorem OY : dL Try.prog 39 = true := by kernel_rfl
theorem OZ : dL Try.prog 40 = true := by kernel_rfl
theorem AA : dL Try.prog 41 = true := by kernel_rfl
theorem IG : dL Try.prog 42 = true := by kernel_rfl
theorem AB : dL Try.prog 43 = true := by kernel_rfl
theorem Oa : dL Try.prog 44 = true := by kernel_rfl
theorem Oc : dL Try.prog 45 = true := by kernel_rfl
theorem II : dL Try.prog 46 = true := by kernel_rfl
theorem IJ : dL Try.prog 47 = true := by kernel_rfl
theorem xB : dL Try.prog 86 = true := by kernel_rfl
theorem AL : dL Try.prog 87 = true := by kernel_rfl
theorem Dc : dL Try.prog 91 = true := by kernel_rfl
theorem Oe : dL Try.prog 98 = true := by kernel_rfl
theorem Dl : ng Try.prog 188 = some 4 := by kernel_rfl
theorem gB : ng Try.prog 24 = some 96 := by kernel_rfl
theorem fB : ng Try.prog 37 = some 3 := by kernel_rfl
theorem O3 : ng Try.prog 48 = some 150 := by kernel_rfl
theorem PK : kJ Try.prog 150 0 = some 0 := by kernel_rfl
theorem PL : kJ Try.prog 150 1 = some 1 := by kernel_rfl
theorem iw : kJ Try.prog 163 0 = some 0 := by kernel_rfl
theorem jw : kJ Try.prog 163 1 = some 1 := by kernel_rfl
theorem jq : kJ Try.prog 163 2 = some 2 := by kernel_rfl
theorem iy : kJ Try.prog 26 0 = some 0 := by kernel_rfl
theorem dZ : kJ Try.prog 26 1 = some 1 := by kernel_rfl
theorem PN : kJ Try.prog 50 0 = some 0 := by kernel_rfl
theorem Ii : kJ Try.prog 50 1 = some 1 := by kernel_rfl
theorem gI : kJ Try.prog 96 0 = some 0 := by kernel_rfl
theorem iR : kJ Try.prog 96 1 = some 1 := by kernel_rfl
theorem PW : Dv Try.prog 163 2 = some (37, 2) := by kernel_rfl
theorem Ti : (Try.prog.info? 150).isSome = true := by kernel_rfl
theorem dB : (Try.prog.info? 163).isSome = true := by kernel_rfl
theorem xu : (Try.prog.info? 24).isSome = true := by kernel_rfl
theorem dN : (Try.prog.info? 26).isSome = true := by kernel_rfl
theorem lQ : (Try.prog.info? 3).isSome = true := by kernel_rfl
theorem qR : (Try.prog.info? 37).isSome = true := by kernel_rfl
theorem Jc : (Try.prog.info? 4).isSome = true := by kernel_rfl
theorem xw : (Try.prog.info? 50).isSome = true := by kernel_rfl
theorem gQ : (Try.prog.info? 96).isSome = true := by kernel_rfl
theorem BD : tZ Try.prog 206 = some (3, 3) := by kernel_rfl
theorem mixed : Try.prog.follows .mixedOrders = true := by kernel_rfl
theorem uH : zD Try.prog 163 = some [(0, 1), (1, 1), (2, 1)] := by kernel_rfl
theorem BQ : zD Try.prog 26 = some [(0, 1), (1, 1)] := by kernel_rfl
theorem BR : zD Try.prog 96 = some [(0, 1), (1, 1)] := by kernel_rfl
theorem GX : bH Try.prog 150 = 2 := by kernel_rfl
theorem bV : bH Try.prog 163 = 3 := by kernel_rfl
theorem zK : bH Try.prog 24 = 1 := by kernel_rfl
theorem bM : bH Try.prog 26 = 2 := by kernel_rfl
theorem iO : bH Try.prog 3 = 1 := by kernel_rfl
theorem rH : bH Try.prog 37 = 1 := by kernel_rfl
theorem Lm : bH Try.prog 4 = 1 := by kernel_rfl
theorem rJ : bH Try.prog 50 = 2 := by kernel_rfl
theorem dD : bH Try.prog 96 = 2 := by kernel_rfl
theorem iW : TI Try.prog 163 (.agg #[(.slice none 0 0), (.slice none 0 0), (.slice none 0 0)]) 3 72 := by unfold TI; kernel_rfl
theorem lW : TI Try.prog 26 (.agg #[(.int .i64 0), (.slice none 0 0)]) 2 32 := by unfold TI; kernel_rfl
theorem gy : TI Try.prog 3 (.int .i64 0) 1 8 := by unfold TI; kernel_rfl
theorem Vo : TI Try.prog 4 (.bool false) 1 1 := by unfold TI; kernel_rfl
theorem fC : TI Try.prog 96 (.agg #[(.int .i64 0), (.int .i64 0)]) 2 16 := by unfold TI; kernel_rfl
theorem Vz : Try.prog.underlying 188 = some (.slice 4) := by kernel_rfl
theorem dh : Try.prog.underlying 24 = some (.slice 96) := by kernel_rfl
theorem eU : Try.prog.underlying 37 = some (.slice 3) := by kernel_rfl
theorem Gi : Try.prog.underlying 4 = some .bool := by kernel_rfl
theorem Gj : Try.prog.underlying 48 = some (.slice 150) := by kernel_rfl
end Go.Proofs.Ytdmlaldifbmkpaa
end
section
set_option linter.unusedVariables false
set_option linter.unusedSimpArgs false
set_option linter.unnecessarySimpa false
set_option maxRecDepth 100000
set_option maxHeartbeats 8000000
open Go Go.Fw
namespace Go.Proofs.Ytdmlaldifbmkpaa
theorem MQ (a : aK) (b : aK) : FT Try.prog (tK a b) 164 [.agg [iC a.A,iC a.B],.agg [iC b.A,iC b.B]] [] (fun (t : Bool) => [.c (bC t)]) (fun (t : Bool) => []) [] := by
 refine FT.of [] Try.func164 Try.ntmps164 Q y2 ?_
 intro w0 U0 R0 g0
 unfold tK
 refine Ws (Wr ?_)
 refine dG (LT.box (n := 21) (v := (.agg [iC a.A,iC a.B])) Q dD (by exact Q)) Q Q Q (dG (LT.box (n := 22) (v := (.agg [iC b.A,iC b.B])) Q dD (by exact Q)) Q Q Q (aQ (Bv false) af (On (Ws ?_))))
 refine aB.fG (fun j3 => ([(4,Bv j3)],[])) ?_ (fun j3 _ => ?_)
 ·refine Wr (bU (iC a.A) gI bD bF (bU (iC b.A) gI bD bF (bG LT.lss y5 (aN (Bv (decide (a.A < b.A))) y4 (aT.split (fun hb4 => ?_) (fun hb4 => ?_))))))
  ·refine aW hb4 y5 (aW hb4 y5 (aW hb4 y5 (aW hb4 y5 (aW hb4 y5 (aW hb4 y5 (Oj Q Q Q Q (Oj Q Q Q Q (Oj Q Q Q Q (Oj Q Q Q Q (Oj Q Q Q Q (aW hb4 y5 ?_)))))))))))
   refine eF (Bv true) hb4 ah (aQ (Bv true) y4 (On (aj Q z1 J)))
  ·refine iq (iC a.A) gI bD hb4 eG (iq (iC b.A) gI bD hb4 eG (iE LT.eql hb4 y6 (dY (Bv (a.A == b.A)) hb4 y5 (aT.split (fun hb5 => ?_) (fun hb5 => ?_)))))
   ·refine iq (iC a.B) iR bD hb5 eG (iq (iC b.B) iR bD hb5 eG (iE LT.leq hb5 y6 (fA (LT.mW (v := (Bv (decide (a.B ≤ b.B)))) Q hb5) Q Q (gH hb4 Q Q) Q (fD (Bv (decide (a.B ≤ b.B))) hb4 y5 (aQ (Bv (decide (a.B ≤ b.B))) y4 (On (aj Q z1 J)))))))
   ·refine aW hb5 y5 (aW hb5 y5 (aW hb5 y5 (aW hb5 y5 (aW hb5 y5 (fA (LT.mV (v := (Bv false)) Q hb5) Q y2 (gH hb4 Q Q) Q (fD (Bv false) hb4 y5 (aQ (Bv false) y4 (On (aj Q z1 J)))))))))
 ·refine aB.ret (ay.mk (.inr Q) z1 J Q ⟨bI.sc,J⟩ J)
theorem MR (g : aX) (x : aK) : FT Try.prog (wG g x) 115 [.agg [iC g.aH,xF aF g.aC],.agg [iC x.A,iC x.B]] [] (fun (t : aX) => [.agg [iC t.aH,lo 0 t.aC.length]]) (fun (t : aX) => [(0,pR 96 aF t.aC)]) [0] := by
 refine FT.of [] Try.func115 Try.ntmps115 Q y2 ?_
 intro w0 U0 R0 g0
 unfold wG
 refine Ws (Wr ?_)
 refine dG (LT.box (n := 21) (v := (.agg [iC g.aH,xF aF g.aC])) Q bM (by exact Q)) Q Q Q (dG (LT.box (n := 22) (v := (.agg [iC x.A,iC x.B])) Q dD (by exact Q)) Q Q Q (dX (LT.alloc (n := 23) (cells := [iC 0,sC aO]) Q lW Q Q Q) Q Q (On (Ws (Wr ?_)))))
 refine bU (iC g.aH) iy bD bF (dX (LT.gJ (n := 24) (enc := aF) [] ([] : List aK) Q Q dh fC Q Q Q Q (by decide) (fun _ => Q) Q) Q Q (fA (LT.build [(0,.tmp 9,.c (iC g.aH)),(1,.tmp 10,.c (lo 24 (([] : List aK).length)))] Q Q BQ lW Q Q Q) Q Q Q Q (dX (LT.alloc (n := 25) (cells := [iC 0,sC aO]) Q lW Q Q Q) Q Q (bn (stA [iC g.aH,lo 24 (([] : List aK).length)] Q Q dN bM) Q Q Q Q Q (On (Ws ?_))))))
 refine en [(2,Cc (.pl 21 0)),(3,Cc (.pl 22 0)),(4,Cc (.pl 23 0)),(5,Cc (.pl 25 0))] [(21,.row 26 [[iC g.aH,xF aF g.aC]]),(22,.row 96 [[iC x.A,iC x.B]]),(23,.row 26 [[iC 0,sC aO]]),(24,pR 96 aF ([] : List aK)),(25,.row 26 [[iC g.aH,lo 24 (([] : List aK).length)]])] z4 z5 (Wr (aQ (Bv false) af (On (Ws (Ws (Wr ?_))))))
 refine aQ (Iv 0) af (On (aB.block ?_))
 refine aB.kD (id := 0) (pq g x) (fun s1 => ([(2,Cc (.pl 21 0)),(3,Cc (.pl 22 0)),(4,Cc (.pl 23 0)),(5,Cc (.pl 25 0)),(6,Bv s1.1),(7,Iv s1.2.1)],[(21,.row 26 [[iC g.aH,xF aF g.aC]]),(22,.row 96 [[iC x.A,iC x.B]]),(23,.row 26 [[iC 0,sC aO]]),(24,pR 96 aF s1.2.2),(25,.row 26 [[iC g.aH,lo 24 s1.2.2.length]])])) (fun mg => ([(3,Cc (.pl 22 0)),(4,Cc (.pl 23 0)),(5,Cc (.pl 25 0)),(6,Bv mg.1)],[(22,.row 96 [[iC x.A,iC x.B]]),(23,.row 26 [[iC 0,sC aO]]),(24,pR 96 aF mg.2),(25,.row 26 [[iC g.aH,lo 24 mg.2.length]])])) ?_ (aU.of z6 z5) Q (fun mg _ => ?_)
 ·intro s1
  unfold pq
  refine Ws (Ws (Wr ?_))
  refine aN (Iv s1.2.1) y4 (bU (xF aF g.aC) dZ eH bF (aZ (LT.jC Q dh) Q Q Q (bG LT.lss y5 (On (aB.cond Q (fun EH => ?_) (fun EH => ?_))))))
  ·refine aB.skip (Ws (aB.block (Ws (Ws ?_))))
   refine aB.fG (fun j34 => ([(2,Cc (.pl 21 0)),(3,Cc (.pl 22 0)),(4,Cc (.pl 23 0)),(5,Cc (.pl 25 0)),(6,Bv s1.1),(7,Iv s1.2.1),(30,Bv j34)],[(21,.row 26 [[iC g.aH,xF aF g.aC]]),(22,.row 96 [[iC x.A,iC x.B]]),(23,.row 26 [[iC 0,sC aO]]),(24,pR 96 aF s1.2.2),(25,.row 26 [[iC g.aH,lo 24 s1.2.2.length]])])) ?_ (fun j34 _ => ?_)
   ·refine aB.draw mixed (bf (Bv s1.1) y4 (bg (LT.not Q) Q Q Q (bf (Bv (!s1.1)) y4 (aS.split (fun kT => ?_) (fun kT => ?_)))))
    ·refine jY (xF aF g.aC) dZ eH kT eG (iY (Iv s1.2.1) kT y5 (aS.bind fun uS Aj => (eu (LT.eX (enc := aF) Q gB Aj dD) Q Q (gH kT Q Q) Q (bg (LT.l9 Q ig (dR gQ) (by exact dD.symm)) Q (gH kT Q Q) Q (fZ (bW [iC x.A,iC x.B] Q ig gQ dD) Q Q (gH kT Q Q) Q (aS.bind fun Ba Q7 => (aS.pure (cO [.agg [iC uS.A,iC uS.B],.agg [iC x.A,iC x.B]] (MQ uS x Ba Q7) Hz (zJ y4) J y3) z3 J (gH kT Q Q) Q (bg (LT.not Q) Q (gH kT Q Q) Q (jG (Bv (!Ba)) kT y5 (aS.nil (by kernel_rfl) ?_))))))))))
     refine aj Q z7 z5
    ·refine ai kT y3 (ai kT y3 (ai kT y3 (ai kT y3 (ai kT y3 (ai kT y3 (ai kT y3 (ai kT y3 (jM (Bv false) kT ah (aS.nil (by kernel_rfl) (aj Q z7 z5))))))))))
   ·refine aB.fG (fun j40 => ([(2,Cc (.pl 21 0)),(3,Cc (.pl 22 0)),(4,Cc (.pl 23 0)),(5,Cc (.pl 25 0)),(6,Bv j40.1),(7,Iv s1.2.1)],[(21,.row 26 [[iC g.aH,xF aF g.aC]]),(22,.row 96 [[iC x.A,iC x.B]]),(23,.row 26 [[iC 0,sC aO]]),(24,pR 96 aF j40.2),(25,.row 26 [[iC g.aH,lo 24 j40.2.length]])])) ?_ (fun j40 _ => ?_)
    ·refine aB.cond Q (fun sH => ?_) (fun sH => ?_)
     ·refine Ws (Wr ?_)
      refine bU (lo 24 s1.2.2.length) dZ eH bF (bZ (bW [iC x.A,iC x.B] Q ig gQ dD) Q Q Q Q (dG (LT.gJ (n := 27) (enc := aF) [(0,.tmp 33,.agg [iC x.A,iC x.B])] [x] Q Q dh fC Q Q Q Q (by decide) (fun _ => Q) Q) Q Q Q (ak fun u42 Rt => (lZ (LT.kY (enc := aF) Q Q Q dh fC Q (by decide) (by decide) (fun _ => Q) (jF Rt)) Q Q Q Q Q Q (aZ (LT.iJ Q dZ) Q Q Q (bn (lV (.c (lo 24 ((s1.2.2 ++ [x]).length))) [iC g.aH,lo 24 ((s1.2.2 ++ [x]).length)] Q Q xu zK) Q Q Q Q Q (On (en [(2,Cc (.pl 21 0)),(3,Cc (.pl 22 0)),(4,Cc (.pl 23 0)),(5,Cc (.pl 25 0)),(7,Iv s1.2.1)] [(21,.row 26 [[iC g.aH,xF aF g.aC]]),(22,.row 96 [[iC x.A,iC x.B]]),(23,.row 26 [[iC 0,sC aO]]),(24,pR 96 aF (s1.2.2 ++ [x])),(25,.row 26 [[iC g.aH,lo 24 ((s1.2.2 ++ [x]).length)]])] z5 z5 (Wr (aQ (Bv true) af ?_))))))))))
      refine On (aj Q z6 z5)
     ·refine aB.skip (aj Q z6 z5)
    ·refine aB.draw mixed (fQ (lo 24 j40.2.length) dZ eH bF (fQ (xF aF g.aC) dZ eH bF (bf (Iv s1.2.1) y4 (aS.bind fun x43 TK => (eu (LT.eX (enc := aF) Q gB TK dD) Q Q Q Q (bg (LT.l9 Q ig (dR gQ) (by exact dD.symm)) Q Q Q (DT (LT.gJ (n := 28) (enc := aF) [(0,.tmp 43,.agg [iC x43.A,iC x43.B])] [x43] Q Q dh fC Q Q Q Q (by decide) (fun _ => Q) Q) Q Q Q (aS.bind fun u44 Ru => (DU (LT.kY (enc := aF) Q Q Q dh fC Q (by decide) (by decide) (fun _ => Q) (jF Ru)) Q Q Q Q Q Q ?_)))))))))
     refine bg (LT.iJ Q dZ) Q Q Q (kQ (lV (.c (lo 24 ((j40.2 ++ [x43]).length))) [iC g.aH,lo 24 ((j40.2 ++ [x43]).length)] Q Q xu zK) Q Q Q Q Q (aS.nil (by kernel_rfl) (aB.blk (en [(2,Cc (.pl 21 0)),(3,Cc (.pl 22 0)),(4,Cc (.pl 23 0)),(5,Cc (.pl 25 0)),(6,Bv j40.1),(7,Iv s1.2.1)] [(21,.row 26 [[iC g.aH,xF aF g.aC]]),(22,.row 96 [[iC x.A,iC x.B]]),(23,.row 26 [[iC 0,sC aO]]),(24,pR 96 aF (j40.2 ++ [x43])),(25,.row 26 [[iC g.aH,lo 24 ((j40.2 ++ [x43]).length)]])] z6 z5 (Wr (aN (Iv s1.2.1) y4 (bG LT.add ah (aQ (Iv (aP (s1.2.1 + 1))) y4 (On (aj Q z6 z5))))))))))
  ·refine aB.gV Q ⟨Q,aU.of z4 z4⟩
 ·refine Ws (Ws (Wr ?_))
  refine aN (Bv mg.1) y4 (aZ (LT.not Q) Q Q Q (On (aB.fG (fun j47 => ([(4,Cc (.pl 23 0)),(5,Cc (.pl 25 0))],[(23,.row 26 [[iC 0,sC aO]]),(24,pR 96 aF j47),(25,.row 26 [[iC g.aH,lo 24 j47.length]])])) ?_ (fun j47 _ => ?_))))
  ·refine aB.cond Q (fun EL => ?_) (fun EL => ?_)
   ·refine Wr (bU (lo 24 mg.2.length) dZ eH bF (bZ (bW [iC x.A,iC x.B] Q ig gQ dD) Q Q Q Q (dG (LT.gJ (n := 29) (enc := aF) [(0,.tmp 51,.agg [iC x.A,iC x.B])] [x] Q Q dh fC Q Q Q Q (by decide) (fun _ => Q) Q) Q Q Q (ak fun u49 Rx => (lZ (LT.kY (enc := aF) Q Q Q dh fC Q (by decide) (by decide) (fun _ => Q) (jF Rx)) Q Q Q Q Q Q (aZ (LT.iJ Q dZ) Q Q Q (bn (lV (.c (lo 24 ((mg.2 ++ [x]).length))) [iC g.aH,lo 24 ((mg.2 ++ [x]).length)] Q Q xu zK) Q Q Q Q Q (On (aj Q z2 z3)))))))))
   ·refine aB.skip (aj Q z2 z3)
  ·refine Ws (Wr ?_)
   refine bZ (bW [iC g.aH,lo 24 j47.length] Q dw dN bM) Q Q Q Q (bn (stA [iC g.aH,lo 24 j47.length] Q Q dN bM) Q Q Q Q Q (On (en [(4,Cc (.pl 23 0))] [(23,.row 26 [[iC g.aH,lo 24 j47.length]]),(24,pR 96 aF j47)] z1 z2 (aB.ent (aU.mv 24 0 Q Q) (en [(4,Cc (.pl 23 0))] [(0,pR 96 aF j47),(23,.row 26 [[iC g.aH,lo 0 j47.length]])] z1 z2 (aB.ret (ay.mk (.inr Q) ⟨⟨_,_,_,Q,Q,Q,dw,bM,_,dR dN⟩,J⟩ z1 Q ⟨⟨bI.sc,J,J⟩,J⟩ ⟨bK.bY mJ,J⟩)))))))
theorem Ci (x : Int) (low : Int) (high : Int) : FT Try.prog (qo x low high) 87 [.c (iC x),.c (iC low),.c (iC high)] [] (fun (t : Bool) => [.c (bC t)]) (fun (t : Bool) => []) [] := by
 refine FT.of [] Try.func87 Try.ntmps87 Q y2 ?_
 intro w0 U0 R0 g0
 unfold qo
 refine Ws (Wr ?_)
 refine aQ (Bv false) af (On (Ws ?_))
 refine aB.fG (fun j2 => ([(6,Bv j2)],[])) ?_ (fun j2 _ => ?_)
 ·refine Wr (aN (Iv x) y4 (aN (Iv low) y4 (bG LT.geq y5 (aN (Bv (decide (low ≤ x))) y4 (aT.split (fun hb3 => ?_) (fun hb3 => ?_))))))
  ·refine dY (Iv x) hb3 y5 (dY (Iv high) hb3 y5 (iE LT.leq hb3 y6 (eF (Bv (decide (x ≤ high))) hb3 y5 (aQ (Bv (decide (x ≤ high))) y4 (On (aj Q z1 J))))))
  ·refine aW hb3 y5 (aW hb3 y5 (aW hb3 y5 (fD (Bv false) hb3 ah (aQ (Bv false) y4 (On (aj Q z1 J))))))
 ·refine aB.ret (ay.mk (.inr Q) z1 J Q ⟨bI.sc,J⟩ J)
theorem zM (g : aX) : FT Try.prog (pY g) 86 [.agg [iC g.aH,xF aF g.aC]] [] (fun (t : Bool) => [.c (bC t)]) (fun (t : Bool) => []) [] := by
 refine FT.of [] Try.func86 Try.ntmps86 Q y2 ?_
 intro w0 U0 R0 g0
 unfold pY
 refine Ws (Wr ?_)
 refine dG (LT.box (n := 21) (v := (.agg [iC g.aH,xF aF g.aC])) Q bM (by exact Q)) Q Q Q (aQ (Bv false) af (On (Ws (Ws ?_))))
 refine aB.fG (fun j3 => ([(1,Cc (.pl 21 0)),(14,Bv j3)],[(21,.row 26 [[iC g.aH,xF aF g.aC]])])) ?_ (fun j3 _ => ?_)
 ·refine Wr (bU (iC g.aH) iy bD bF (ak fun r4 hr4 => (aT.pure (cO [.c (iC g.aH),.c (iC 1),.c (iC 8)] (Ci g.aH 1 8 r4 hr4) AL (rE y3) J y3) ⟨Q,Q,y2,y2,J⟩ J Q Q (aZ (LT.not Q) Q Q Q (aN (Bv (!r4)) y4 (aT.split (fun hb5 => ?_) (fun hb5 => ?_)))))))
  ·refine aW hb5 y5 (aW hb5 y5 (aW hb5 y5 (aW hb5 y5 (eF (Bv true) hb5 ah (On (aj Q z2 z1))))))
  ·refine iq (xF aF g.aC) dZ eH hb5 eG (aZ (LT.jC Q dh) Q (gH hb5 Q Q) Q (iE LT.gtr hb5 kN (fD (Bv (decide (24 < (g.aC.length : Int)))) hb5 y5 (On (aj Q z2 z1)))))
 ·refine aB.cond Q (fun hc6 => ?_) (fun hc6 => ?_)
  ·refine Ws (Wr ?_)
   refine aQ (Bv false) af (On (aB.ret (ay.mk (.inr Q) z1 J Q ⟨bI.sc,J⟩ J)))
  ·refine aB.skip (Ws (Ws (Wr ?_)))
   refine aQ (Iv 0) af (On (aB.block ?_))
   refine aB.nN (id := 0) (yZ g) (fun s7 => ([(1,Cc (.pl 21 0)),(3,Iv s7)],[(21,.row 26 [[iC g.aH,xF aF g.aC]])])) (fun wz => ([],[])) (ay Try.prog Try.f86.results.toList [] [] (fun (t : Bool) => [.c (bC t)]) (fun (t : Bool) => [])) ?_ (aU.of z2 z1) Q (fun wz _ => ?_) (by intro r t σ m ht hk; injection ht with ht; subst ht; exact hk)
   ·intro s7
    unfold yZ
    refine Ws (Ws (Wr ?_))
    refine aN (Iv s7) y4 (bU (xF aF g.aC) dZ eH bF (aZ (LT.jC Q dh) Q Q Q (bG LT.lss y5 (On (aB.cond Q (fun sH => ?_) (fun sH => ?_))))))
    ·refine aB.skip (Ws (aB.block (Ws (Wr ?_))))
     refine bU (xF aF g.aC) dZ eH bF (aN (Iv s7) y4 (ak fun dn Em => (fA (LT.eX (enc := aF) Q gB Em dD) Q Q Q Q (aZ (LT.l9 Q ig (dR gQ) (by exact dD.symm)) Q Q Q (dX (LT.alloc (n := 23) (cells := [iC 0,iC 0]) Q fC Q Q Q) Q Q (bn (stA [iC dn.A,iC dn.B] Q Q gQ dD) Q Q Q Q Q (On (Ws ?_))))))))
     refine aB.fG (fun j49 => ([(1,Cc (.pl 21 0)),(3,Iv s7),(58,Bv j49)],[(21,.row 26 [[iC g.aH,xF aF g.aC]])])) ?_ (fun j49 _ => ?_)
     ·refine en [(1,Cc (.pl 21 0)),(3,Iv s7),(4,Cc (.pl 23 0))] [(21,.row 26 [[iC g.aH,xF aF g.aC]]),(23,.row 96 [[iC dn.A,iC dn.B]])] z3 z2 (aB.draw mixed (fQ (iC dn.A) gI bD bF (jP LT.lss ah (bf (Bv (decide (dn.A < 0))) y4 (aS.split (fun iL => ?_) (fun iL => ?_))))))
      ·refine ai iL y3 (ai iL y3 (ai iL y3 (ai iL y3 (ai iL y3 (jG (Bv true) iL ah (bf (Bv true) y4 (aV y3 (aV y3 (aV y3 (aV y3 (aV y3 ?_)))))))))))
       refine jG (Bv true) Q ah (bf (Bv true) y4 (aV y3 (aV y3 (aV y3 (aV y3 (aV y3 (aV y3 (aV y3 (aV y3 (aV y3 (aV y3 ?_)))))))))))
       refine aV y3 (aV y3 (aV y3 (jG (Bv true) Q ah (aS.nil (by kernel_rfl) (aj Q z3 z1)))))
      ·refine jY (iC dn.A) gI bD iL eG (jY (iC dn.B) iR bD iL eG (jm LT.geq iL y6 (jM (Bv (decide (dn.B ≤ dn.A))) iL y5 (bf (Bv (decide (dn.B ≤ dn.A))) y4 (aS.split (fun ja => ?_) (fun ja => ?_))))))
       ·refine ai ja y3 (ai ja y3 (ai ja y3 (ai ja y3 (ai ja y3 (jG (Bv true) ja ah (bf (Bv true) y4 (aV y3 (aV y3 (aV y3 (aV y3 (aV y3 ?_)))))))))))
        refine aV y3 (aV y3 (aV y3 (aV y3 (aV y3 (aV y3 (aV y3 (aV y3 (jG (Bv true) Q ah (aS.nil (by kernel_rfl) (aj Q z3 z1))))))))))
       ·refine jY (iC dn.B) iR bD ja eG (jY (iC g.aH) iy bD ja eG (jm LT.geq ja y6 (jM (Bv (decide (g.aH ≤ dn.B))) ja y5 (bf (Bv (decide (g.aH ≤ dn.B))) y4 (aS.split (fun jB => ?_) (fun jB => ?_))))))
        ·refine ai jB y3 (ai jB y3 (ai jB y3 (aV y3 (aV y3 (aV y3 (aV y3 (aV y3 (aV y3 (aV y3 (aV y3 (aV y3 ?_)))))))))))
         refine ai jB y3 (jG (Bv true) jB ah (aS.nil (by kernel_rfl) (aj Q z3 z1)))
        ·refine iY (Iv s7) jB y5 (jm LT.gtr jB kN (iY (Bv (decide (0 < s7))) jB y5 (aS.split (fun fM => ?_) (fun fM => ?_))))
         ·refine jY (xF aF g.aC) dZ eH fM eG (iY (Iv s7) fM y5 (jm LT.sub fM kN (aS.bind fun x54 uz => (eu (LT.eX (enc := aF) Q gB uz dD) Q Q (gH fM Q Q) Q (bg (LT.l9 Q ig (dR gQ) (by exact dD.symm)) Q (gH fM Q Q) Q (fZ (bW [iC dn.A,iC dn.B] Q ig gQ dD) Q Q (gH fM Q Q) Q (aS.bind fun lU xg => (aS.pure (cO [.agg [iC x54.A,iC x54.B],.agg [iC dn.A,iC dn.B]] (MQ x54 dn lU xg) Hz (zJ y4) J y3) z3 J (gH fM Q Q) Q (bg (LT.not Q) Q (gH fM Q Q) Q (eu (LT.mW (v := (Bv (!lU))) Q fM) Q Q (gH jB Q Q) Q ?_))))))))))
          refine jM (Bv (!lU)) jB y5 (aS.nil (by kernel_rfl) (aj Q z3 z1))
         ·refine ai fM y3 (ai fM y3 (ai fM y3 (ai fM y3 (ai fM y3 (ai fM y3 (ai fM y3 (ai fM y3 (ai fM y3 (eu (LT.mV (v := (Bv false)) Q fM) Q y2 (gH jB Q Q) Q (jM (Bv false) jB y5 (aS.nil (by kernel_rfl) ?_)))))))))))
          refine aj Q z3 z1
     ·refine aB.cond Q (fun xQ => ?_) (fun xQ => ?_)
      ·refine Ws (Wr ?_)
       refine aQ (Bv false) af (On (aB.ret ⟨Q,ay.mk (.inr Q) z1 J Q ⟨bI.sc,J⟩ J⟩))
      ·refine aB.skip (aB.blk (Wr ?_))
       refine aN (Iv s7) y4 (bG LT.add ah (aQ (Iv (aP (s7 + 1))) y4 (On (aj Q z2 z1))))
    ·refine aB.gV Q ⟨Q,aU.of J J⟩
   ·refine Ws (Wr ?_)
    refine aQ (Bv true) af (On (aB.ret (ay.mk (.inr Q) z1 J Q ⟨bI.sc,J⟩ J)))
theorem Wy (g : aX) : FT Try.prog (yu g) 112 [.agg [iC g.aH,xF aF g.aC]] [] (fun (t : aX) => [.agg [iC t.aH,lo 0 t.aC.length]]) (fun (t : aX) => [(0,pR 96 aF t.aC)]) [0] := by
 refine FT.of [] Try.func112 Try.ntmps112 Q y2 ?_
 intro w0 U0 R0 g0
 unfold yu
 refine Ws (Wr ?_)
 refine dG (LT.box (n := 21) (v := (.agg [iC g.aH,xF aF g.aC])) Q bM (by exact Q)) Q Q Q (dX (LT.alloc (n := 22) (cells := [iC 0,sC aO]) Q lW Q Q Q) Q Q (On (Ws (aB.draw mixed ?_))))
 refine fQ (iC g.aH) iy bD bF (rP (LT.gJ (n := 23) (enc := aF) [] ([] : List aK) Q Q dh fC Q Q Q Q (by decide) (fun _ => Q) Q) Q Q (fQ (xF aF g.aC) dZ eH bF (aS.bind fun u1 hu1 => (kQ (LT.rM (enc := aF) Q  Q dh fC Q (by decide) (by decide) (fun _ => Q) (jF hu1)) Q Q Q Q Q (eu (LT.build [(0,.tmp 4,.c (iC g.aH)),(1,.tmp 8,.c (lo 23 ((([] : List aK) ++ g.aC).length)))] Q Q BQ lW Q Q Q) Q Q Q Q (kQ (stA [iC g.aH,lo 23 ((([] : List aK) ++ g.aC).length)] Q Q dN bM) Q Q Q Q Q (aS.nil (by kernel_rfl) (en [(2,Cc (.pl 22 0))] [(22,.row 26 [[iC g.aH,lo 23 ((([] : List aK) ++ g.aC).length)]]),(23,pR 96 aF (([] : List aK) ++ g.aC))] z1 z2 (aB.ent (aU.mv 23 0 Q Q) ?_)))))))))
 refine en [(2,Cc (.pl 22 0))] [(0,pR 96 aF (([] : List aK) ++ g.aC)),(22,.row 26 [[iC g.aH,lo 0 ((([] : List aK) ++ g.aC).length)]])] z1 z2 (aB.ret (ay.mk (.inr Q) ⟨⟨_,_,_,Q,Q,Q,dw,bM,_,dR dN⟩,J⟩ z1 Q ⟨⟨bI.sc,J,J⟩,J⟩ ⟨bK.bY mJ,J⟩))
theorem CZ (x : Int) (vM : Int) (hi : Int) : FT Try.prog (qi x vM hi) 167 [.c (iC x),.c (iC vM),.c (iC hi)] [] (fun (t : Bool) => [.c (bC t)]) (fun (t : Bool) => []) [] := by
 refine FT.of [] Try.func167 Try.ntmps167 Q y2 ?_
 intro w0 U0 R0 g0
 unfold qi
 refine Ws (Wr ?_)
 refine aQ (Bv false) af (On (Ws ?_))
 refine aB.fG (fun j2 => ([(6,Bv j2)],[])) ?_ (fun j2 _ => ?_)
 ·refine Wr (aN (Iv x) y4 (aN (Iv vM) y4 (bG LT.geq y5 (aN (Bv (decide (vM ≤ x))) y4 (aT.split (fun hb3 => ?_) (fun hb3 => ?_))))))
  ·refine dY (Iv x) hb3 y5 (dY (Iv hi) hb3 y5 (iE LT.leq hb3 y6 (eF (Bv (decide (x ≤ hi))) hb3 y5 (aQ (Bv (decide (x ≤ hi))) y4 (On (aj Q z1 J))))))
  ·refine aW hb3 y5 (aW hb3 y5 (aW hb3 y5 (fD (Bv false) hb3 ah (aQ (Bv false) y4 (On (aj Q z1 J))))))
 ·refine aB.ret (ay.mk (.inr Q) z1 J Q ⟨bI.sc,J⟩ J)
theorem MG (a : Int) (b : Int) : FT Try.prog (vS a b) 199 [.c (iC a),.c (iC b)] [] (fun (t : Int) => [.c (iC t)]) (fun (t : Int) => []) [] := by
 refine FT.of [] Try.func199 Try.ntmps199 Q y2 ?_
 intro w0 U0 R0 g0
 unfold vS
 refine Ws (Wr ?_)
 refine aQ (Iv 0) af (On (Ws (aB.block (Ws (Wr ?_)))))
 refine aN (Iv a) y4 (aN (Iv b) y4 (bG LT.lss y5 (aQ (Bv (decide (a < b))) y4 (On (aB.cond Q (fun hc1 => ?_) (fun hc1 => ?_))))))
 ·refine Ws (Wr ?_)
  refine aQ (Iv (-1)) af (On (aB.ret (ay.mk (.inr Q) z1 J Q ⟨bI.sc,J⟩ J)))
 ·refine Ws (Wr ?_)
  refine aN (Iv a) y4 (aN (Iv b) y4 (bG LT.gtr y5 (aQ (Bv (decide (b < a))) y4 (On (aB.cond Q (fun hc2 => ?_) (fun hc2 => ?_))))))
  ·refine Ws (Wr ?_)
   refine aQ (Iv 1) af (On (aB.ret (ay.mk (.inr Q) z1 J Q ⟨bI.sc,J⟩ J)))
  ·refine aB.skip (aB.blk (Ws (Wr ?_)))
   refine aQ (Iv 0) af (On (aB.ret (ay.mk (.inr Q) z1 J Q ⟨bI.sc,J⟩ J)))
theorem WJ (x : aK) (y : aK) : FT Try.prog (vP x y) 179 [.agg [iC x.A,iC x.B],.agg [iC y.A,iC y.B]] [] (fun (t : Int) => [.c (iC t)]) (fun (t : Int) => []) [] := by
 refine FT.of [] Try.func179 Try.ntmps179 Q y2 ?_
 intro w0 U0 R0 g0
 unfold vP
 refine Ws (Wr ?_)
 refine dG (LT.box (n := 21) (v := (.agg [iC x.A,iC x.B])) Q dD (by exact Q)) Q Q Q (dG (LT.box (n := 22) (v := (.agg [iC y.A,iC y.B])) Q dD (by exact Q)) Q Q Q (aQ (Iv 0) af (On (Ws (Ws (Wr ?_))))))
 refine bU (iC x.A) gI bD bF (bU (iC y.A) gI bD bF (ak fun r1 hr1 => (aT.pure (cO [.c (iC x.A),.c (iC y.A)] (MG x.A y.A r1 hr1) IA (nS y2) J y3) z3 J Q Q (aQ (Iv r1) y4 (On (Ws ?_))))))
 refine en [(2,Cc (.pl 21 0)),(3,Cc (.pl 22 0)),(5,Iv r1)] [(21,.row 96 [[iC x.A,iC x.B]]),(22,.row 96 [[iC y.A,iC y.B]])] z3 z2 (Wr (aN (Iv r1) y4 (bG LT.neq ah (On (aB.cond Q (fun hc2 => ?_) (fun hc2 => ?_))))))
 ·refine Ws (Wr ?_)
  refine aN (Iv r1) y4 (aQ (Iv r1) y4 (On (aB.ret (ay.mk (.inr Q) z1 J Q ⟨bI.sc,J⟩ J))))
 ·refine aB.skip (Ws (Wr ?_))
  refine bU (iC x.B) iR bD bF (bU (iC y.B) iR bD bF (ak fun r3 hr3 => (aT.pure (cO [.c (iC x.B),.c (iC y.B)] (MG x.B y.B r3 hr3) IA (nS y2) J y3) z3 J Q Q (aQ (Iv r3) y4 (On (aB.ret (ay.mk (.inr Q) z1 J Q ⟨bI.sc,J⟩ J)))))))
end Go.Proofs.Ytdmlaldifbmkpaa
end
section
set_option linter.unusedVariables false
set_option linter.unusedSimpArgs false
set_option linter.unnecessarySimpa false
set_option maxRecDepth 100000
set_option maxHeartbeats 8000000
open Go Go.Fw
namespace Go.Proofs.Ytdmlaldifbmkpaa
theorem CY (g : aX) : FT Try.prog (pW g) 128 [.agg [iC g.aH,xF aF g.aC]] [] (fun (t : Bool) => [.c (bC t)]) (fun (t : Bool) => []) [] := by
 refine FT.of [] Try.func128 Try.ntmps128 Q y2 ?_
 intro w0 U0 R0 g0
 unfold pW
 refine Ws (Wr ?_)
 refine dG (LT.box (n := 21) (v := (.agg [iC g.aH,xF aF g.aC])) Q bM (by exact Q)) Q Q Q (aQ (Bv false) af (On (Ws (Ws ?_))))
 refine aB.fG (fun j3 => ([(1,Cc (.pl 21 0)),(14,Bv j3)],[(21,.row 26 [[iC g.aH,xF aF g.aC]])])) ?_ (fun j3 _ => ?_)
 ·refine Wr (bU (iC g.aH) iy bD bF (ak fun r4 hr4 => (aT.pure (cO [.c (iC g.aH),.c (iC 1),.c (iC 8)] (CZ g.aH 1 8 r4 hr4) zu (rE y3) J y3) ⟨Q,Q,y2,y2,J⟩ J Q Q (aZ (LT.not Q) Q Q Q (aN (Bv (!r4)) y4 (aT.split (fun hb5 => ?_) (fun hb5 => ?_)))))))
  ·refine aW hb5 y5 (aW hb5 y5 (aW hb5 y5 (aW hb5 y5 (eF (Bv true) hb5 ah (On (aj Q z2 z1))))))
  ·refine iq (xF aF g.aC) dZ eH hb5 eG (aZ (LT.jC Q dh) Q (gH hb5 Q Q) Q (iE LT.gtr hb5 kN (fD (Bv (decide (24 < (g.aC.length : Int)))) hb5 y5 (On (aj Q z2 z1)))))
 ·refine aB.cond Q (fun hc6 => ?_) (fun hc6 => ?_)
  ·refine Ws (Wr ?_)
   refine aQ (Bv false) af (On (aB.ret (ay.mk (.inr Q) z1 J Q ⟨bI.sc,J⟩ J)))
  ·refine aB.skip (Ws (Ws (Wr ?_)))
   refine bU (xF aF g.aC) dZ eH bF (aZ (LT.jC Q dh) Q Q Q (aN (Iv 0) af (On (aB.block ?_))))
   refine aB.nN (id := 0) (qY g) (fun s7 => ([(1,Cc (.pl 21 0)),(16,Cc (xF aF g.aC)),(17,Iv (g.aC.length : Int)),(18,Iv s7)],[(21,.row 26 [[iC g.aH,xF aF g.aC]])])) (fun wz => ([],[])) (ay Try.prog Try.f128.results.toList [] [] (fun (t : Bool) => [.c (bC t)]) (fun (t : Bool) => [])) ?_ (aU.of z4 z1) Q (fun wz _ => ?_) (by intro r t σ m ht hk; injection ht with ht; subst ht; exact hk)
   ·intro s7
    unfold qY
    refine Ws (Wr ?_)
    refine bG LT.lss y5 (On (Ws ?_))
    refine aB.cond Q (fun sH => ?_) (fun sH => ?_)
    ·refine aB.skip (Ws (aB.block (Ws (Wr ?_))))
     refine aN (Iv s7) y4 (ak fun dn Em => (fA (LT.eX (enc := aF) Q gB Em dD) Q Q Q Q (aZ (LT.l9 Q ig (dR gQ) (by exact dD.symm)) Q Q Q (dX (LT.alloc (n := 23) (cells := [iC 0,iC 0]) Q fC Q Q Q) Q Q (aQ (Iv s7) y4 (bn (stA [iC dn.A,iC dn.B] Q Q gQ dD) Q Q Q Q Q (On (Ws ?_))))))))
     refine aB.fG (fun j49 => ([(1,Cc (.pl 21 0)),(16,Cc (xF aF g.aC)),(17,Iv (g.aC.length : Int)),(18,Iv s7),(54,Bv j49)],[(21,.row 26 [[iC g.aH,xF aF g.aC]])])) ?_ (fun j49 _ => ?_)
     ·refine en [(1,Cc (.pl 21 0)),(3,Iv s7),(4,Cc (.pl 23 0)),(16,Cc (xF aF g.aC)),(17,Iv (g.aC.length : Int)),(18,Iv s7)] [(21,.row 26 [[iC g.aH,xF aF g.aC]]),(23,.row 96 [[iC dn.A,iC dn.B]])] z6 z2 (aB.draw mixed (fQ (iC dn.A) gI bD bF (jP LT.lss ah (bf (Bv (decide (dn.A < 0))) y4 (aS.split (fun iL => ?_) (fun iL => ?_))))))
      ·refine ai iL y3 (ai iL y3 (ai iL y3 (ai iL y3 (ai iL y3 (jG (Bv true) iL ah (bf (Bv true) y4 (aV y3 (aV y3 (aV y3 (aV y3 (aV y3 ?_)))))))))))
       refine jG (Bv true) Q ah (bf (Bv true) y4 (aV y3 (aV y3 (aV y3 (aV y3 (aV y3 (aV y3 (aV y3 (aV y3 (aV y3 (aV y3 ?_)))))))))))
       refine aV y3 (aV y3 (aV y3 (jG (Bv true) Q ah (aS.nil (by kernel_rfl) (aj Q z5 z1)))))
      ·refine jY (iC dn.A) gI bD iL eG (jY (iC dn.B) iR bD iL eG (jm LT.geq iL y6 (jM (Bv (decide (dn.B ≤ dn.A))) iL y5 (bf (Bv (decide (dn.B ≤ dn.A))) y4 (aS.split (fun ja => ?_) (fun ja => ?_))))))
       ·refine ai ja y3 (ai ja y3 (ai ja y3 (ai ja y3 (ai ja y3 (jG (Bv true) ja ah (bf (Bv true) y4 (aV y3 (aV y3 (aV y3 (aV y3 (aV y3 ?_)))))))))))
        refine aV y3 (aV y3 (aV y3 (aV y3 (aV y3 (aV y3 (aV y3 (aV y3 (jG (Bv true) Q ah (aS.nil (by kernel_rfl) (aj Q z5 z1))))))))))
       ·refine jY (iC dn.B) iR bD ja eG (jY (iC g.aH) iy bD ja eG (jm LT.geq ja y6 (jM (Bv (decide (g.aH ≤ dn.B))) ja y5 (bf (Bv (decide (g.aH ≤ dn.B))) y4 (aS.split (fun jB => ?_) (fun jB => ?_))))))
        ·refine ai jB y3 (ai jB y3 (ai jB y3 (aV y3 (aV y3 (aV y3 (aV y3 (aV y3 (aV y3 (aV y3 (aV y3 (aV y3 ?_)))))))))))
         refine ai jB y3 (jG (Bv true) jB ah (aS.nil (by kernel_rfl) (aj Q z5 z1)))
        ·refine iY (Iv s7) jB y5 (jm LT.gtr jB kN (iY (Bv (decide (0 < s7))) jB y5 (aS.split (fun fM => ?_) (fun fM => ?_))))
         ·refine jY (xF aF g.aC) dZ eH fM eG (iY (Iv s7) fM y5 (jm LT.sub fM kN (aS.bind fun x54 uz => (eu (LT.eX (enc := aF) Q gB uz dD) Q Q (gH fM Q Q) Q (bg (LT.l9 Q ig (dR gQ) (by exact dD.symm)) Q (gH fM Q Q) Q (fZ (bW [iC dn.A,iC dn.B] Q ig gQ dD) Q Q (gH fM Q Q) Q (aS.bind fun lU xg => (aS.pure (cO [.agg [iC x54.A,iC x54.B],.agg [iC dn.A,iC dn.B]] (WJ x54 dn lU xg) OE (zJ y4) J y3) z3 J (gH fM Q Q) Q (jm LT.gtr fM kN (eu (LT.mW (v := (Bv (decide (0 < lU)))) Q fM) Q Q (gH jB Q Q) Q ?_))))))))))
          refine jM (Bv (decide (0 < lU))) jB y5 (aS.nil (by kernel_rfl) (aj Q z5 z1))
         ·refine ai fM y3 (ai fM y3 (ai fM y3 (ai fM y3 (ai fM y3 (ai fM y3 (ai fM y3 (ai fM y3 (ai fM y3 (eu (LT.mV (v := (Bv false)) Q fM) Q y2 (gH jB Q Q) Q (jM (Bv false) jB y5 (aS.nil (by kernel_rfl) ?_)))))))))))
          refine aj Q z5 z1
     ·refine aB.cond Q (fun xQ => ?_) (fun xQ => ?_)
      ·refine Ws (Wr ?_)
       refine aQ (Bv false) af (On (aB.ret ⟨Q,ay.mk (.inr Q) z1 J Q ⟨bI.sc,J⟩ J⟩))
      ·refine aB.skip (aB.blk (Wr ?_))
       refine bG LT.add ah (aN (Iv (aP (s7 + 1))) y4 (On (aj Q z4 z1)))
    ·refine aB.gV Q ⟨Q,aU.of J J⟩
   ·refine Ws (Wr ?_)
    refine aQ (Bv true) af (On (aB.ret (ay.mk (.inr Q) z1 J Q ⟨bI.sc,J⟩ J)))
theorem Gm (l : (List Int)) : FT Try.prog (sU l) 91 [.c (xF aA l)] [] (fun (t : (List Int)) => [.c (lo 0 t.length)]) (fun (t : (List Int)) => [(0,pR 3 aA t)]) [0] := by
 refine FT.of [] Try.func91 Try.ntmps91 Q y2 ?_
 intro w0 U0 R0 g0
 unfold sU
 refine Ws (Wr ?_)
 refine aQ (Cc (sC aO)) af (On (Ws (Wr ?_)))
 refine dX (LT.gJ (n := 21) (enc := aA) [] ([] : List Int) Q Q eU gy Q Q Q Q (by decide) (fun _ => Q) Q) Q Q (aN (Cc (xF aA l)) y4 (ak fun u1 hu1 => (bn (LT.rM (enc := aA) Q  Q eU gy Q (by decide) (by decide) (fun _ => Q) (jF hu1)) Q Q Q Q Q (aQ (Cc (lo 21 ((([] : List Int) ++ l).length))) y4 (On (en [(2,Cc (lo 21 ((([] : List Int) ++ l).length)))] [(21,pR 3 aA (([] : List Int) ++ l))] z1 z1 (aB.ent (aU.mv 21 0 Q Q) (en [(2,Cc (lo 0 ((([] : List Int) ++ l).length)))] [(0,pR 3 aA (([] : List Int) ++ l))] z1 z1 (aB.ret (ay.mk (.inr Q) z1 z1 Q ⟨J,J⟩ ⟨bK.bY dK,J⟩))))))))))
theorem V7 (x : aK) (v : Int) : FT Try.prog (yE x v) 98 [.agg [iC x.A,iC x.B],.c (iC v)] [] (fun (t : Int) => [.c (iC t)]) (fun (t : Int) => []) [] := by
 refine FT.of [] Try.func98 Try.ntmps98 Q y2 ?_
 intro w0 U0 R0 g0
 unfold yE
 refine Ws (Wr ?_)
 refine dG (LT.box (n := 21) (v := (.agg [iC x.A,iC x.B])) Q dD (by exact Q)) Q Q Q (aQ (Iv 0) af (On (Ws (Ws (Wr ?_)))))
 refine bU (iC x.A) gI bD bF (aN (Iv v) y4 (bG LT.eql y5 (On (aB.cond Q (fun hc1 => ?_) (fun hc1 => ?_)))))
 ·refine Ws (Wr ?_)
  refine bU (iC x.B) iR bD bF (aQ (Iv x.B) y4 (On (aB.ret (ay.mk (.inr Q) z1 J Q ⟨bI.sc,J⟩ J))))
 ·refine aB.skip (Ws (Wr ?_))
  refine bU (iC x.A) gI bD bF (aQ (Iv x.A) y4 (On (aB.ret (ay.mk (.inr Q) z1 J Q ⟨bI.sc,J⟩ J))))
theorem MV (b : aK) (v : Int) : FT Try.prog (tV b v) 101 [.agg [iC b.A,iC b.B],.c (iC v)] [] (fun (t : Int) => [.c (iC t)]) (fun (t : Int) => []) [] := by
 refine FT.of [] Try.func101 Try.ntmps101 Q y2 ?_
 intro w0 U0 R0 g0
 unfold tV
 refine Ws (Wr ?_)
 refine dG (LT.box (n := 21) (v := (.agg [iC b.A,iC b.B])) Q dD (by exact Q)) Q Q Q (aQ (Iv 0) af (On (Ws (Wr ?_))))
 refine bU (iC b.A) gI bD bF (bU (iC b.B) iR bD bF (bG LT.add y5 (aN (Iv v) y4 (bG LT.sub y5 (aQ (Iv (aP ((aP (b.A + b.B)) - v))) y4 (On (aB.ret (ay.mk (.inr Q) z1 J Q ⟨bI.sc,J⟩ J))))))))
end Go.Proofs.Ytdmlaldifbmkpaa
end
section
set_option linter.unusedVariables false
set_option linter.unusedSimpArgs false
set_option linter.unnecessarySimpa false
set_option maxRecDepth 100000
set_option maxHeartbeats 8000000
open Go Go.Fw
namespace Go.Proofs.Ytdmlaldifbmkpaa
theorem WV (a : (List aK)) (leftV : Int) : FT Try.prog (yR a leftV) 111 [.c (xF aF a),.c (iC leftV)] [] (fun (t : Int) => [.c (iC t)]) (fun (t : Int) => []) [] := by
 refine FT.of [] Try.func111 Try.ntmps111 Q y2 ?_
 intro w0 U0 R0 g0
 unfold yR
 refine Ws (Wr ?_)
 refine aQ (Iv 0) af (On (Ws (Wr ?_)))
 refine aN (Iv leftV) y4 (aN (Cc (xF aF a)) y4 (aZ (LT.jC Q Gj) Q Q Q (bG LT.sub y5 (aQ (Iv (aP (leftV - (a.length : Int)))) y4 (On (Ws (Ws (Wr ?_))))))))
 refine aN (Iv (aP (leftV - (a.length : Int)))) y4 (bG LT.lss ah (On (aB.cond Q (fun hc1 => ?_) (fun hc1 => ?_))))
 ·refine Ws (Wr ?_)
  refine aQ (Iv (-1)) af (On (aB.ret (ay.mk (.inr Q) z1 J Q ⟨bI.sc,J⟩ J)))
 ·refine aB.skip (Ws (Wr ?_))
  refine aN (Iv (aP (leftV - (a.length : Int)))) y4 (aQ (Iv (aP (leftV - (a.length : Int)))) y4 (On (aB.ret (ay.mk (.inr Q) z1 J Q ⟨bI.sc,J⟩ J))))
theorem WW (a : aX) (leftV : Int) : FT Try.prog (yS a leftV) 39 [.agg [iC a.aH,xF aF a.aC],.c (iC leftV)] [] (fun (t : Int) => [.c (iC t)]) (fun (t : Int) => []) [] := by
 refine FT.of [] Try.func39 Try.ntmps39 Q y2 ?_
 intro w0 U0 R0 g0
 unfold yS
 refine Ws (Wr ?_)
 refine dG (LT.box (n := 21) (v := (.agg [iC a.aH,xF aF a.aC])) Q rJ (by exact Q)) Q Q Q (aQ (Iv 0) af (On (Ws (Wr ?_))))
 refine bU (xF aF a.aC) Ii G6 bF (aN (Iv leftV) y4 (ak fun r1 hr1 => (aT.pure (cO [.c (xF aF a.aC),.c (iC leftV)] (WV a.aC leftV r1 hr1) Nj (nS y2) J y3) z3 J Q Q (aQ (Iv r1) y4 (On (Ws (Ws (Wr ?_))))))))
 refine aN (Iv r1) y4 (bG LT.lss ah (On (aB.cond Q (fun hc2 => ?_) (fun hc2 => ?_))))
 ·refine Ws (en [] [] J J (Wr (aQ (Iv (-1)) af (On (aB.ret (ay.mk (.inr Q) z1 J Q ⟨bI.sc,J⟩ J))))))
 ·refine aB.skip (Ws ?_)
  refine en [(1,Iv r1)] [] z1 J (Wr (aN (Iv r1) y4 (aQ (Iv r1) y4 (On (aB.ret (ay.mk (.inr Q) z1 J Q ⟨bI.sc,J⟩ J))))))
theorem WX (a : aK) : FT Try.prog (BA a) 174 [.agg [iC a.A,iC a.B]] [] (fun (t : aK) => [.agg [iC t.A,iC t.B]]) (fun (t : aK) => []) [] := by
 refine FT.of [] Try.func174 Try.ntmps174 Q y2 ?_
 intro w0 U0 R0 g0
 unfold BA
 refine Ws (Wr ?_)
 refine dG (LT.box (n := 21) (v := (.agg [iC a.A,iC a.B])) Q GX (by exact Q)) Q Q Q (dX (LT.alloc (n := 22) (cells := [iC 0,iC 0]) Q fC Q Q Q) Q Q (On (Ws (Wr ?_))))
 refine dX (LT.alloc (n := 23) (cells := [iC 0,iC 0]) Q fC Q Q Q) Q Q (On (Ws (Wr ?_)))
 refine bU (iC a.A) PK bD bF (aZ (LT.iJ Q gI) Q Q Q (bn (lV (.c (iC a.A)) [iC a.A,iC 0] Q Q lQ iO) Q Q Q Q Q (On (Ws ?_))))
 refine en [(1,Cc (.pl 21 0)),(2,Cc (.pl 22 0)),(3,Cc (.pl 23 0))] [(21,.row 150 [[iC a.A,iC a.B]]),(22,.row 96 [[iC 0,iC 0]]),(23,.row 96 [[iC a.A,iC 0]])] z3 z3 (Wr (bU (iC a.B) PL bD bF (aZ (LT.iJ Q iR) Q Q Q (bn (lV (.c (iC a.B)) [iC a.A,iC a.B] Q Q lQ iO) Q Q Q Q Q (On (Ws (Wr ?_)))))))
 refine bZ (bW [iC a.A,iC a.B] Q ig gQ dD) Q Q Q Q (bn (stA [iC a.A,iC a.B] Q Q gQ dD) Q Q Q Q Q (On (aB.ret (ay.mk (.inr Q) ⟨⟨_,_,_,Q,Q,Q,ig,dD,_,dR gQ⟩,J⟩ J Q ⟨⟨bI.sc,bI.sc,J⟩,J⟩ J))))
theorem WY (a : (List aK)) : FT Try.prog (yT a) 117 [.c (xF aF a)] [] (fun (t : (List aK)) => [.c (lo 0 t.length)]) (fun (t : (List aK)) => [(0,pR 96 aF t)]) [0] := by
 refine FT.of [] Try.func117 Try.ntmps117 Q y2 ?_
 intro w0 U0 R0 g0
 unfold yT
 refine Ws (Wr ?_)
 refine aQ (Cc (sC aO)) af (On (Ws (Wr ?_)))
 refine aN (Cc (xF aF a)) y4 (aZ (LT.jC Q Gj) Q Q Q (ak fun u1 hu1 => (DV (LT.Gh (n := 21) (enc := aF) (zc := [iC 0,iC 0]) (aK.mk (0 : Int) (0 : Int)) Q dh fC Q Q Q (by decide) (by decide) (FH hu1) Q) Q Q Q Q (aQ (Cc (lo 21 ((List.replicate (a.length : Int).toNat (aK.mk (0 : Int) (0 : Int))).length))) y4 (On (Ws (Ws (Wr ?_))))))))
 refine aQ (Iv 0) af (On (aB.block ?_))
 refine aB.kD (id := 0) (yU a) (fun s2 => ([(0,Cc (xF aF a)),(3,Cc (lo 21 s2.2.length)),(4,Iv s2.1)],[(21,pR 96 aF s2.2)])) (fun b11 => ([(3,Cc (lo 21 b11.length))],[(21,pR 96 aF b11)])) ?_ (aU.of z3 z1) Q (fun b11 _ => ?_)
 ·intro s2
  unfold yU
  refine Ws (Ws (Wr ?_))
  refine aN (Iv s2.1) y4 (aN (Cc (xF aF a)) y4 (aZ (LT.jC Q Gj) Q Q Q (bG LT.lss y5 (On (aB.cond Q (fun hc12 => ?_) (fun hc12 => ?_))))))
  ·refine aB.skip (Ws (aB.block (Wr ?_)))
   refine aN (Cc (lo 21 s2.2.length)) y4 (aN (Iv s2.1) y4 (aN (Cc (xF aF a)) y4 (aN (Iv s2.1) y4 (ak fun zQ SS => (fA (LT.eX (enc := aF) Q O3 SS GX) Q Q Q Q (aZ (LT.l9 Q NM (dR Ti) (by exact GX.symm)) Q Q Q (ak fun nR EU => (aT.pure (cO [.agg [iC zQ.A,iC zQ.B]] (WX zQ nR EU) N8 (jl y2) J y3) z2 J Q Q (ak fun x15 Ai => (jJ (LT.fK Q Q gB Ai) Q Q Q Q Q (bn (LT.lX (k := 0) (v := (.agg [iC nR.A,iC nR.B])) (b' := nR) Q Q (dR gQ) dD (by exact Q) Ai (by exact Q) (by exact K Q) (by exact Q)) Q Q Q Q Q ?_)))))))))))
   refine On (aB.blk ?_)
   refine en [(0,Cc (xF aF a)),(3,Cc (lo 21 s2.2.length)),(4,Iv s2.1)] [(21,pR 96 aF (s2.2.set s2.1.toNat nR))] z3 z1 (Wr (aN (Iv s2.1) y4 (bG LT.add ah (aQ (Iv (aP (s2.1 + 1))) y4 (On (aB.nil ⟨Q,aU.of ⟨Q,congrArg (fun l1 => (some (AV.s (.c (lo 21 l1))) : Option AV)) (show s2.2.length = (s2.2.set s2.1.toNat nR).length by simp only [List.length_set]),Q,J⟩ z1⟩))))))
  ·refine aB.gV Q ⟨Q,aU.of z1 z1⟩
 ·refine Ws (Wr ?_)
  refine aN (Cc (lo 21 b11.length)) y4 (aQ (Cc (lo 21 b11.length)) y4 (On (en [(2,Cc (lo 21 b11.length))] [(21,pR 96 aF b11)] z1 z1 (aB.ent (aU.mv 21 0 Q Q) (en [(2,Cc (lo 0 b11.length))] [(0,pR 96 aF b11)] z1 z1 (aB.ret (ay.mk (.inr Q) z1 z1 Q ⟨J,J⟩ ⟨bK.bY mJ,J⟩)))))))
theorem Ce (a : aX) : FT Try.prog (ql a) 41 [.agg [iC a.aH,xF aF a.aC]] [] (fun (t : aX) => [.agg [iC t.aH,lo 0 t.aC.length]]) (fun (t : aX) => [(0,pR 96 aF t.aC)]) [0] := by
 refine FT.of [] Try.func41 Try.ntmps41 Q y2 ?_
 intro w0 U0 R0 g0
 unfold ql
 refine Ws (Wr ?_)
 refine dG (LT.box (n := 21) (v := (.agg [iC a.aH,xF aF a.aC])) Q rJ (by exact Q)) Q Q Q (dX (LT.alloc (n := 22) (cells := [iC 0,sC aO]) Q lW Q Q Q) Q Q (On (Ws (Wr ?_))))
 refine dX (LT.alloc (n := 23) (cells := [iC 0,sC aO]) Q lW Q Q Q) Q Q (On (Ws (Wr ?_)))
 refine bU (iC a.aH) PN bD bF (aZ (LT.iJ Q iy) Q Q Q (bn (lV (.c (iC a.aH)) [iC a.aH,sC aO] Q Q lQ iO) Q Q Q Q Q (On (Ws ?_))))
 refine en [(1,Cc (.pl 21 0)),(2,Cc (.pl 22 0)),(3,Cc (.pl 23 0))] [(21,.row 50 [[iC a.aH,xF aF a.aC]]),(22,.row 26 [[iC 0,sC aO]]),(23,.row 26 [[iC a.aH,sC aO]])] z3 z3 (Wr (bU (xF aF a.aC) Ii G6 bF (ak fun r1 hr1 => (aT.step (cO [.c (xF aF a.aC)] (Fw.Fn.ren [(0,25)] (WY a.aC r1 hr1) Q) Nr (CJ Q) J y3) z2 J Q Q (aZ (LT.iJ Q dZ) Q Q Q (bn (lV (.c (lo 25 r1.length)) [iC a.aH,lo 25 r1.length] Q Q xu zK) Q Q Q Q Q (On (Ws (Wr ?_)))))))))
 refine bZ (bW [iC a.aH,lo 25 r1.length] Q dw dN bM) Q Q Q Q (bn (stA [iC a.aH,lo 25 r1.length] Q Q dN bM) Q Q Q Q Q (On (en [(2,Cc (.pl 22 0))] [(22,.row 26 [[iC a.aH,lo 25 r1.length]]),(25,pR 96 aF r1)] z1 z2 (aB.ent (aU.mv 25 0 Q Q) (en [(2,Cc (.pl 22 0))] [(0,pR 96 aF r1),(22,.row 26 [[iC a.aH,lo 0 r1.length]])] z1 z2 (aB.ret (ay.mk (.inr Q) ⟨⟨_,_,_,Q,Q,Q,dw,bM,_,dR dN⟩,J⟩ z1 Q ⟨⟨bI.sc,J,J⟩,J⟩ ⟨bK.bY mJ,J⟩)))))))
theorem MH (g : aX) : FT Try.prog (vT g) 118 [.agg [iC g.aH,xF aF g.aC]] [] (fun (t : aX) => [.agg [iC t.aH,lo 0 t.aC.length]]) (fun (t : aX) => [(0,pR 96 aF t.aC)]) [0] := by
 refine FT.of [] Try.func118 Try.ntmps118 Q y2 ?_
 intro w0 U0 R0 g0
 unfold vT
 refine Ws (Wr ?_)
 refine dG (LT.box (n := 21) (v := (.agg [iC g.aH,xF aF g.aC])) Q bM (by exact Q)) Q Q Q (dX (LT.alloc (n := 22) (cells := [iC 0,sC aO]) Q lW Q Q Q) Q Q (On (Ws (aB.draw mixed ?_))))
 refine fQ (iC g.aH) iy bD bF (rP (LT.gJ (n := 23) (enc := aF) [] ([] : List aK) Q Q dh fC Q Q Q Q (by decide) (fun _ => Q) Q) Q Q (fQ (xF aF g.aC) dZ eH bF (aS.bind fun u1 hu1 => (kQ (LT.rM (enc := aF) Q  Q dh fC Q (by decide) (by decide) (fun _ => Q) (jF hu1)) Q Q Q Q Q (eu (LT.build [(0,.tmp 4,.c (iC g.aH)),(1,.tmp 8,.c (lo 23 ((([] : List aK) ++ g.aC).length)))] Q Q BQ lW Q Q Q) Q Q Q Q (kQ (stA [iC g.aH,lo 23 ((([] : List aK) ++ g.aC).length)] Q Q dN bM) Q Q Q Q Q (aS.nil (by kernel_rfl) (en [(2,Cc (.pl 22 0))] [(22,.row 26 [[iC g.aH,lo 23 ((([] : List aK) ++ g.aC).length)]]),(23,pR 96 aF (([] : List aK) ++ g.aC))] z1 z2 (aB.ent (aU.mv 23 0 Q Q) ?_)))))))))
 refine en [(2,Cc (.pl 22 0))] [(0,pR 96 aF (([] : List aK) ++ g.aC)),(22,.row 26 [[iC g.aH,lo 0 ((([] : List aK) ++ g.aC).length)]])] z1 z2 (aB.ret (ay.mk (.inr Q) ⟨⟨_,_,_,Q,Q,Q,dw,bM,_,dR dN⟩,J⟩ z1 Q ⟨⟨bI.sc,J,J⟩,J⟩ ⟨bK.bY mJ,J⟩))
theorem WS (a : aK) (b : aK) : FT Try.prog (A8 a b) 123 [.agg [iC a.A,iC a.B],.agg [iC b.A,iC b.B]] [] (fun (t : Bool) => [.c (bC t)]) (fun (t : Bool) => []) [] := by
 refine FT.of [] Try.func123 Try.ntmps123 Q y2 ?_
 intro w0 U0 R0 g0
 unfold A8
 refine Ws (Wr ?_)
 refine dG (LT.box (n := 21) (v := (.agg [iC a.A,iC a.B])) Q dD (by exact Q)) Q Q Q (dG (LT.box (n := 22) (v := (.agg [iC b.A,iC b.B])) Q dD (by exact Q)) Q Q Q (aQ (Bv false) af (On (Ws (Ws (Wr ?_))))))
 refine bU (iC a.A) gI bD bF (bU (iC b.A) gI bD bF (bG LT.neq y5 (On (aB.cond Q (fun hc1 => ?_) (fun hc1 => ?_)))))
 ·refine Ws (en [] [] J J (Wr (aQ (Bv false) af (On (aB.ret (ay.mk (.inr Q) z1 J Q ⟨bI.sc,J⟩ J))))))
 ·refine aB.skip (Ws (Ws ?_))
  refine en [(2,Cc (.pl 21 0)),(3,Cc (.pl 22 0))] [(21,.row 96 [[iC a.A,iC a.B]]),(22,.row 96 [[iC b.A,iC b.B]])] z2 z2 (Wr (bU (iC a.B) iR bD bF (bU (iC b.B) iR bD bF (bG LT.neq y5 (On (aB.cond Q (fun hc2 => ?_) (fun hc2 => ?_)))))))
  ·refine Ws (Wr ?_)
   refine aQ (Bv false) af (On (aB.ret (ay.mk (.inr Q) z1 J Q ⟨bI.sc,J⟩ J)))
  ·refine aB.skip (Ws (Wr ?_))
   refine aQ (Bv true) af (On (aB.ret (ay.mk (.inr Q) z1 J Q ⟨bI.sc,J⟩ J)))
theorem Cb (a : (List aK)) (b : (List aK)) : FT Try.prog (qj a b) 43 [.c (xF aF a),.c (xF aF b)] [] (fun (t : Bool) => [.c (bC t)]) (fun (t : Bool) => []) [] := by
 refine FT.of [] Try.func43 Try.ntmps43 Q y2 ?_
 intro w0 U0 R0 g0
 unfold qj
 refine Ws (Wr ?_)
 refine aQ (Bv false) af (On (Ws (Ws (Wr ?_))))
 refine aN (Cc (xF aF a)) y4 (aZ (LT.jC Q dh) Q Q Q (aN (Cc (xF aF b)) y4 (aZ (LT.jC Q dh) Q Q Q (bG LT.neq y5 (On (aB.cond Q (fun hc1 => ?_) (fun hc1 => ?_)))))))
 ·refine Ws (Wr ?_)
  refine aQ (Bv false) af (On (aB.ret (ay.mk (.inr Q) z1 J Q ⟨bI.sc,J⟩ J)))
 ·refine aB.skip (Ws (Ws (Wr ?_)))
  refine aQ (Iv 0) af (On (aB.block ?_))
  refine aB.nN (id := 0) (yO a b) (fun s2 => ([(0,Cc (xF aF a)),(1,Cc (xF aF b)),(5,Iv s2)],[])) (fun b13 => ([],[])) (ay Try.prog Try.f43.results.toList [] [] (fun (t : Bool) => [.c (bC t)]) (fun (t : Bool) => [])) ?_ (aU.of z3 J) Q (fun b13 _ => ?_) (by intro r t σ m ht hk; injection ht with ht; subst ht; exact hk)
  ·intro s2
   unfold yO
   refine Ws (Ws (Wr ?_))
   refine aN (Iv s2) y4 (aN (Cc (xF aF a)) y4 (aZ (LT.jC Q dh) Q Q Q (bG LT.lss y5 (On (aB.cond Q (fun EF => ?_) (fun EF => ?_))))))
   ·refine aB.skip (Ws (aB.block (Ws (aB.draw mixed ?_))))
    refine bf (Cc (xF aF a)) y4 (bf (Iv s2) y4 (aS.bind fun x15 Ai => (eu (LT.eX (enc := aF) Q gB Ai dD) Q Q Q Q (bg (LT.l9 Q ig (dR gQ) (by exact dD.symm)) Q Q Q (bf (Cc (xF aF b)) y4 (bf (Iv s2) y4 (aS.bind fun x16 hx16 => (eu (LT.eX (enc := aF) Q gB hx16 dD) Q Q Q Q (bg (LT.l9 Q ig (dR gQ) (by exact dD.symm)) Q Q Q (aS.bind fun F5 Qo => (aS.pure (cO [.agg [iC x15.A,iC x15.B],.agg [iC x16.A,iC x16.B]] (WS x15 x16 F5 Qo) Ny (zJ y4) J y3) z3 J Q Q ?_)))))))))))
    refine bg (LT.not Q) Q Q Q (aS.nil (by kernel_rfl) (aB.cond Q (fun hc18 => ?_) (fun hc18 => ?_)))
    ·refine Ws (en [] [] J J (Wr (aQ (Bv false) af (On (aB.ret ⟨Q,ay.mk (.inr Q) z1 J Q ⟨bI.sc,J⟩ J⟩)))))
    ·refine aB.skip (aB.blk ?_)
     refine en [(0,Cc (xF aF a)),(1,Cc (xF aF b)),(5,Iv s2)] [] z3 J (Wr (aN (Iv s2) y4 (bG LT.add ah (aQ (Iv (aP (s2 + 1))) y4 (On (aj Q z3 J))))))
   ·refine aB.gV Q ⟨Q,aU.of J J⟩
  ·refine Ws (Wr ?_)
   refine aQ (Bv true) af (On (aB.ret (ay.mk (.inr Q) z1 J Q ⟨bI.sc,J⟩ J)))
end Go.Proofs.Ytdmlaldifbmkpaa
end
section
set_option linter.unusedVariables false
set_option linter.unusedSimpArgs false
set_option linter.unnecessarySimpa false
set_option maxRecDepth 100000
set_option maxHeartbeats 8000000
open Go Go.Fw
namespace Go.Proofs.Ytdmlaldifbmkpaa
theorem WT (a : aX) (b : aX) : FT Try.prog (yP a b) 44 [.agg [iC a.aH,xF aF a.aC],.agg [iC b.aH,xF aF b.aC]] [] (fun (t : Bool) => [.c (bC t)]) (fun (t : Bool) => []) [] := by
 refine FT.of [] Try.func44 Try.ntmps44 Q y2 ?_
 intro w0 U0 R0 g0
 unfold yP
 refine Ws (Wr ?_)
 refine dG (LT.box (n := 21) (v := (.agg [iC a.aH,xF aF a.aC])) Q bM (by exact Q)) Q Q Q (dG (LT.box (n := 22) (v := (.agg [iC b.aH,xF aF b.aC])) Q bM (by exact Q)) Q Q Q (aQ (Bv false) af (On (Ws (Ws (Wr ?_))))))
 refine bU (iC a.aH) iy bD bF (bU (iC b.aH) iy bD bF (bG LT.neq y5 (On (aB.cond Q (fun hc1 => ?_) (fun hc1 => ?_)))))
 ·refine Ws (en [] [] J J (Wr (aQ (Bv false) af (On (aB.ret (ay.mk (.inr Q) z1 J Q ⟨bI.sc,J⟩ J))))))
 ·refine aB.skip (Ws (Ws ?_))
  refine en [(2,Cc (.pl 21 0)),(3,Cc (.pl 22 0))] [(21,.row 26 [[iC a.aH,xF aF a.aC]]),(22,.row 26 [[iC b.aH,xF aF b.aC]])] z2 z2 (Wr (bU (xF aF a.aC) dZ eH bF (bU (xF aF b.aC) dZ eH bF (ak fun r2 hr2 => (aT.pure (cO [.c (xF aF a.aC),.c (xF aF b.aC)] (Cb a.aC b.aC r2 hr2) AB (nS y2) J y3) z3 J Q Q (aZ (LT.not Q) Q Q Q (On (aB.cond Q (fun hc3 => ?_) (fun hc3 => ?_)))))))))
  ·refine Ws (Wr ?_)
   refine aQ (Bv false) af (On (aB.ret (ay.mk (.inr Q) z1 J Q ⟨bI.sc,J⟩ J)))
  ·refine aB.skip (Ws (Wr ?_))
   refine aQ (Bv true) af (On (aB.ret (ay.mk (.inr Q) z1 J Q ⟨bI.sc,J⟩ J)))
theorem MN (a : (List aK)) (k : Int) : FT Try.prog (ve a k) 46 [.c (lo 0 a.length),.c (iC k)] [(0,pR 96 aF a)] (fun (t : (Int × (List aK))) => [.c (iC t.1)]) (fun (t : (Int × (List aK))) => [(0,pR 96 aF t.2)]) [] := by
 refine FT.of [0] Try.func46 Try.ntmps46 Q y2 ?_
 intro w0 U0 R0 g0
 unfold ve
 refine Ws (Wr ?_)
 refine aQ (Iv 0) af (On (Ws (Ws (Wr ?_))))
 refine aQ (Iv 0) af (On (aB.block ?_))
 refine aB.kD (id := 0) vg (fun s1 => ([(0,Cc (lo 0 s1.2.2.length)),(1,Iv s1.1),(5,Iv s1.2.1)],[(0,pR 96 aF s1.2.2)])) (fun b8 => ([(1,Iv b8.1)],[(0,pR 96 aF b8.2)])) ?_ (aU.of z3 z1) Q (fun b8 _ => ?_)
 ·intro s1
  unfold vg
  refine Ws (Ws (Wr ?_))
  refine aN (Iv s1.2.1) y4 (aN (Cc (lo 0 s1.2.2.length)) y4 (aZ (LT.oG Q dh) Q Q Q (bG LT.lss y5 (On (aB.cond Q (fun QS => ?_) (fun QS => ?_))))))
  ·refine aB.skip (Ws (aB.block (Ws (Wr ?_))))
   refine aN (Cc (lo 0 s1.2.2.length)) y4 (aN (Iv s1.2.1) y4 (aN (Iv s1.1) y4 (ak fun x10 JD => (jJ (LT.fK Q Q gB JD) Q Q Q Q Q (aZ (LT.iJ Q gI) Q Q Q (bn (LT.lX (k := 0) (v := (.c (iC s1.1))) (b' := (aK.mk s1.1 x10.B)) Q Q (dR lQ) iO (by exact Q) JD (by exact Q) (by exact K Q) (by exact Q)) Q Q Q Q Q (On (Ws ?_))))))))
   refine en [(0,Cc (lo 0 s1.2.2.length)),(1,Iv s1.1),(5,Iv s1.2.1)] [(0,pR 96 aF (s1.2.2.set s1.2.1.toNat (aK.mk s1.1 x10.B)))] z3 z1 (Wr (aN (Iv s1.1) y4 (bG LT.add ah (aQ (Iv (aP (s1.1 + 1))) y4 (On (Ws (Wr ?_)))))))
   refine aN (Cc (lo 0 s1.2.2.length)) y4 (aN (Iv s1.2.1) y4 (aN (Iv (aP (s1.1 + 1))) y4 (ak fun x11 xk => (jJ (LT.fK (show s1.2.2.length = (s1.2.2.set s1.2.1.toNat (aK.mk s1.1 x10.B)).length by simp only [List.length_set]) Q gB xk) Q Q Q Q Q (aZ (LT.iJ Q iR) Q Q Q (bn (LT.lX (k := 1) (v := (.c (iC (aP (s1.1 + 1))))) (b' := (aK.mk x11.A (aP (s1.1 + 1)))) Q Q (dR lQ) iO (by exact Q) xk (by exact Q) (by exact K Q) (by exact Q)) Q Q Q Q Q (On (en [(0,Cc (lo 0 s1.2.2.length)),(1,Iv (aP (s1.1 + 1))),(5,Iv s1.2.1)] [(0,pR 96 aF ((s1.2.2.set s1.2.1.toNat (aK.mk s1.1 x10.B)).set s1.2.1.toNat (aK.mk x11.A (aP (s1.1 + 1)))))] z3 z1 (Wr (aN (Iv (aP (s1.1 + 1))) y4 (bG LT.add ah ?_)))))))))))
   refine aQ (Iv (aP ((aP (s1.1 + 1)) + 1))) y4 (On (aB.blk (Wr ?_)))
   refine aN (Iv s1.2.1) y4 (bG LT.add ah (aQ (Iv (aP (s1.2.1 + 1))) y4 (On (aB.nil ⟨Q,aU.of ⟨congrArg (fun l1 => (some (AV.s (.c (lo 0 l1))) : Option AV)) (show s1.2.2.length = ((s1.2.2.set s1.2.1.toNat (aK.mk s1.1 x10.B)).set s1.2.1.toNat (aK.mk x11.A (aP (s1.1 + 1)))).length by simp only [List.length_set]),Q,Q,J⟩ z1⟩))))
  ·refine aB.gV Q ⟨Q,aU.of z1 z1⟩
 ·refine Ws (Wr ?_)
  refine aN (Iv b8.1) y4 (aQ (Iv b8.1) y4 (On (aB.ret (ay.mk (.inr Q) z1 z1 Q ⟨bI.sc,J⟩ ⟨bK.bY mJ,J⟩))))
theorem WU (a : aX) (k : Int) : FT Try.prog (yQ a k) 45 [.agg [iC a.aH,lo 0 a.aC.length],.c (iC k)] [(0,pR 96 aF a.aC)] (fun (t : (Int × (List aK))) => [.c (iC t.1)]) (fun (t : (Int × (List aK))) => [(0,pR 96 aF t.2)]) [] := by
 refine FT.of [0] Try.func45 Try.ntmps45 Q y2 ?_
 intro w0 U0 R0 g0
 unfold yQ
 refine Ws (Wr ?_)
 refine dG (LT.box (n := 21) (v := (.agg [iC a.aH,lo 0 a.aC.length])) Q bM (by exact Q)) Q Q Q (aQ (Iv 0) af (On (Ws (Wr ?_))))
 refine bU (lo 0 a.aC.length) dZ eH bF (aN (Iv k) y4 (ak fun r1 hr1 => (aT.step (cO [.c (lo 0 a.aC.length),.c (iC k)] (Fw.Fn.ren [(0,0)] (MN a.aC k r1 hr1) Q) II (nS y2) z1 y3) z3 z1 Q Q (aQ (Iv r1.1) y4 (On (Ws ?_))))))
 refine en [(1,Iv r1.1)] [(0,pR 96 aF r1.2)] z1 z1 (Wr (aN (Iv r1.1) y4 (aQ (Iv r1.1) y4 (On (aB.ret (ay.mk (.inr Q) z1 z1 Q ⟨bI.sc,J⟩ ⟨bK.bY mJ,J⟩))))))
theorem Wh (g : aX) (a : Int) (b : Int) : FT Try.prog (BB g a b) 171 [.agg [iC g.aH,xF aF g.aC],.c (iC a),.c (iC b)] [] (fun (t : Int) => [.c (iC t)]) (fun (t : Int) => []) [] := by
 refine FT.of [] Try.func171 Try.ntmps171 Q y2 ?_
 intro w0 U0 R0 g0
 unfold BB
 refine Ws (Wr ?_)
 refine dG (LT.box (n := 21) (v := (.agg [iC g.aH,xF aF g.aC])) Q bM (by exact Q)) Q Q Q (aQ (Iv 0) af (On (Ws (Wr ?_))))
 refine aQ (Iv 0) af (On (Ws (Ws (Wr ?_))))
 refine aQ (Iv 0) af (On (aB.block ?_))
 refine aB.kD (id := 0) (yX g a b) (fun s1 => ([(1,Iv a),(2,Iv b),(3,Cc (.pl 21 0)),(7,Iv s1.1),(8,Iv s1.2)],[(21,.row 26 [[iC g.aH,xF aF g.aC]])])) (fun uZ => ([(7,Iv uZ)],[])) ?_ (aU.of z5 z1) Q (fun uZ _ => ?_)
 ·intro s1
  unfold yX
  refine Ws (Ws (Wr ?_))
  refine aN (Iv s1.2) y4 (bU (xF aF g.aC) dZ eH bF (aZ (LT.jC Q dh) Q Q Q (bG LT.lss y5 (On (aB.cond Q (fun QK => ?_) (fun QK => ?_))))))
  ·refine aB.skip (Ws (aB.block (Ws ?_)))
   refine aB.fG (fun j64 => ([(1,Iv a),(2,Iv b),(3,Cc (.pl 21 0)),(7,Iv s1.1),(8,Iv s1.2),(53,Bv j64)],[(21,.row 26 [[iC g.aH,xF aF g.aC]])])) ?_ (fun j64 _ => ?_)
   ·refine Wr (bU (xF aF g.aC) dZ eH bF (aN (Iv s1.2) y4 (ak fun Gw TL => (fA (LT.eX (enc := aF) Q gB TL dD) Q Q Q Q (aZ (LT.ku Q gI) Q Q Q (aZ (LT.iG Q bD) Q Q Q (aN (Iv a) y4 (bG LT.eql y5 (aN (Bv (Gw.A == a)) y4 (aT.split (fun kU => ?_) (fun kU => ?_)))))))))))
    ·refine iq (xF aF g.aC) dZ eH kU eG (dY (Iv s1.2) kU y5 (ak fun DK TM => (fA (LT.eX (enc := aF) Q gB TM dD) Q Q (gH kU Q Q) Q (aZ (LT.ku Q iR) Q (gH kU Q Q) Q (aZ (LT.iG Q bD) Q (gH kU Q Q) Q (dY (Iv b) kU y5 (iE LT.eql kU y6 (eF (Bv (DK.B == b)) kU y5 (aN (Bv (DK.B == b)) y4 (aT.split (fun jT => ?_) (fun jT => ?_)))))))))))
     ·refine aW jT y5 (aW jT y5 (aW jT y5 (aW jT y5 (aW jT y5 (aW jT y5 (aW jT y5 (aW jT y5 (aW jT y5 (Oj Q Q Q Q (Oj Q Q Q Q (Oj Q Q Q Q ?_)))))))))))
      refine Oj Q Q Q Q (Oj Q Q Q Q (Oj Q Q Q Q (Oj Q Q Q Q (Oj Q Q Q Q (aW jT y5 (eF (Bv true) jT ah (On (aj Q z6 z1))))))))
     ·refine iq (xF aF g.aC) dZ eH jT eG (dY (Iv s1.2) jT y5 (ak fun x69 TN => (fA (LT.eX (enc := aF) Q gB TN dD) Q Q (gH jT Q Q) Q (aZ (LT.ku Q gI) Q (gH jT Q Q) Q (aZ (LT.iG Q bD) Q (gH jT Q Q) Q (dY (Iv b) jT y5 (iE LT.eql jT y6 (dY (Bv (x69.A == b)) jT y5 (aT.split (fun kV => ?_) (fun kV => ?_))))))))))
      ·refine iq (xF aF g.aC) dZ eH kV eG (dY (Iv s1.2) kV y5 (ak fun DL TP => (fA (LT.eX (enc := aF) Q gB TP dD) Q Q (gH kV Q Q) Q (aZ (LT.ku Q iR) Q (gH kV Q Q) Q (aZ (LT.iG Q bD) Q (gH kV Q Q) Q (dY (Iv a) kV y5 (iE LT.eql kV y6 (fA (LT.mW (v := (Bv (DL.B == a))) Q kV) Q Q (gH jT Q Q) Q (fD (Bv (DL.B == a)) jT y5 (On ?_))))))))))
       refine aj Q z6 z1
      ·refine aW kV y5 (aW kV y5 (aW kV y5 (aW kV y5 (aW kV y5 (aW kV y5 (aW kV y5 (aW kV y5 (fA (LT.mV (v := (Bv false)) Q kV) Q y2 (gH jT Q Q) Q (fD (Bv false) jT y5 (On (aj Q z6 z1)))))))))))
    ·refine aW kU y5 (aW kU y5 (aW kU y5 (aW kU y5 (aW kU y5 (aW kU y5 (aW kU y5 (aW kU y5 (fD (Bv false) kU ah (aN (Bv false) y4 (aZ (LT.iJ Q dZ) Q (gS Q Q) Q (bZ (sO (xF aF g.aC) Q eH) Q Q (gS Q Q) Q ?_)))))))))))
     refine mv (Iv s1.2) Q Q (gS Q Q) Q (ak fun Gx TQ => (fA (LT.eX (enc := aF) Q gB TQ dD) Q Q (gS Q Q) Q (aZ (LT.ku Q gI) Q (gS Q Q) Q (aZ (LT.iG Q bD) Q (gS Q Q) Q (mv (Iv b) Q Q (gS Q Q) Q (fA (LT.eql Q) Q Q (gS Q Q) Q (mv (Bv (Gx.A == b)) Q Q (gS Q Q) Q (aT.split (fun kW => ?_) (fun kW => ?_)))))))))
     ·refine iq (xF aF g.aC) dZ eH kW eG (dY (Iv s1.2) kW y5 (ak fun DN TR => (fA (LT.eX (enc := aF) Q gB TR dD) Q Q (gH kW Q Q) Q (aZ (LT.ku Q iR) Q (gH kW Q Q) Q (aZ (LT.iG Q bD) Q (gH kW Q Q) Q (dY (Iv a) kW y5 (iE LT.eql kW y6 (fA (LT.mW (v := (Bv (DN.B == a))) Q kW) Q Q (gS Q Q) Q (fD (Bv (DN.B == a)) Q y5 (On ?_))))))))))
      refine aj Q z6 z1
     ·refine aW kW y5 (aW kW y5 (aW kW y5 (aW kW y5 (aW kW y5 (aW kW y5 (aW kW y5 (aW kW y5 (fA (LT.mV (v := (Bv false)) Q kW) Q y2 (gS Q Q) Q (fD (Bv false) Q y5 (On (aj Q z6 z1)))))))))))
   ·refine aB.fG (fun j76 => ([(1,Iv a),(2,Iv b),(3,Cc (.pl 21 0)),(7,Iv j76),(8,Iv s1.2)],[(21,.row 26 [[iC g.aH,xF aF g.aC]])])) ?_ (fun j76 _ => ?_)
    ·refine aB.cond Q (fun QN => ?_) (fun QN => ?_)
     ·refine Wr (aN (Iv s1.1) y4 (bG LT.add ah (aQ (Iv (aP (s1.1 + 1))) y4 (On (aj Q z5 z1)))))
     ·refine aB.skip (aj Q z5 z1)
    ·refine aB.blk (Wr ?_)
     refine aN (Iv s1.2) y4 (bG LT.add ah (aQ (Iv (aP (s1.2 + 1))) y4 (On (aj Q z5 z1))))
  ·refine aB.gV Q ⟨Q,aU.of z1 J⟩
 ·refine Ws (Wr ?_)
  refine aN (Iv uZ) y4 (aQ (Iv uZ) y4 (On (aB.ret (ay.mk (.inr Q) z1 J Q ⟨bI.sc,J⟩ J))))
theorem Wq (g : aX) : FT Try.prog (tC g) 113 [.agg [iC g.aH,xF aF g.aC]] [] (fun (t : (List aK)) => [.c (lo 0 t.length)]) (fun (t : (List aK)) => [(0,pR 96 aF t)]) [0] := by
 refine FT.of [] Try.func113 Try.ntmps113 Q y2 ?_
 intro w0 U0 R0 g0
 unfold tC
 refine Ws (Wr ?_)
 refine dG (LT.box (n := 21) (v := (.agg [iC g.aH,xF aF g.aC])) Q bM (by exact Q)) Q Q Q (aQ (Cc (sC aO)) af (On (Ws (Wr ?_))))
 refine dX (LT.gJ (n := 22) (enc := aF) [] ([] : List aK) Q Q dh fC Q Q Q Q (by decide) (fun _ => Q) Q) Q Q (aQ (Cc (lo 22 (([] : List aK).length))) y4 (On (Ws (Ws (Wr ?_)))))
 refine aQ (Iv 0) af (On (aB.block ?_))
 refine aB.kD (id := 0) (tH g) (fun s1 => ([(1,Cc (.pl 21 0)),(3,Cc (lo 22 s1.2.length)),(4,Iv s1.1)],[(21,.row 26 [[iC g.aH,xF aF g.aC]]),(22,pR 96 aF s1.2)])) (fun gZ => ([(3,Cc (lo 22 gZ.length))],[(22,pR 96 aF gZ)])) ?_ (aU.of z3 z2) Q (fun gZ _ => ?_)
 ·intro s1
  unfold tH
  refine Ws (Ws ?_)
  refine aB.fG (fun j49 => ([(1,Cc (.pl 21 0)),(3,Cc (lo 22 s1.2.length)),(4,Iv s1.1),(14,Bv j49)],[(21,.row 26 [[iC g.aH,xF aF g.aC]]),(22,pR 96 aF s1.2)])) ?_ (fun j49 _ => ?_)
  ·refine Wr (aN (Iv s1.1) y4 (bU (iC g.aH) iy bD bF (bG LT.lss y5 (aN (Bv (decide (s1.1 < g.aH))) y4 (aT.split (fun iL => ?_) (fun iL => ?_))))))
   ·refine bZ (bW [iC g.aH,xF aF g.aC] Q dw dN bM) Q Q (gH iL Q Q) Q (ak fun Bd RF => (aT.pure (cO [.agg [iC g.aH,xF aF g.aC]] (zM g Bd RF) xB (jl y2) J y3) z2 J (gH iL Q Q) Q (eF (Bv Bd) iL y5 (On (aj Q z4 z2)))))
   ·refine aW iL y5 (aW iL y5 (fD (Bv false) iL ah (On (aj Q z4 z2))))
  ·refine aB.cond Q (fun QJ => ?_) (fun QJ => ?_)
   ·refine aB.skip (Ws (aB.block (Ws (Wr ?_))))
    refine aN (Iv s1.1) y4 (bG LT.add ah (aQ (Iv (aP (s1.1 + 1))) y4 (On (aB.block ?_))))
    refine aB.kD (id := 2) (yh g s1) (fun s53 => ([(1,Cc (.pl 21 0)),(3,Cc (lo 22 s53.2.length)),(4,Iv s1.1),(5,Iv s53.1)],[(21,.row 26 [[iC g.aH,xF aF g.aC]]),(22,pR 96 aF s53.2)])) (fun ou => ([(1,Cc (.pl 21 0)),(3,Cc (lo 22 ou.2.length)),(4,Iv ou.1)],[(21,.row 26 [[iC g.aH,xF aF g.aC]]),(22,pR 96 aF ou.2)])) ?_ (aU.of z4 z2) Q (fun ou _ => ?_)
    ·intro s53
     unfold yh
     refine Ws (Ws (Wr ?_))
     refine aN (Iv s53.1) y4 (bU (iC g.aH) iy bD bF (bG LT.lss y5 (On (aB.cond Q (fun EM => ?_) (fun EM => ?_)))))
     ·refine aB.skip (Ws (aB.block (Ws (Wr ?_))))
      refine bZ (bW [iC g.aH,xF aF g.aC] Q dw dN bM) Q Q Q Q (aN (Iv s1.1) y4 (aN (Iv s53.1) y4 (ak fun F9 RJ => (aT.pure (cO [.agg [iC g.aH,xF aF g.aC],.c (iC s1.1),.c (iC s53.1)] (Wh g s1.1 s53.1 F9 RJ) Nz (wW y4) J y3) z4 J Q Q (bG LT.eql ah (On (aB.fG (fun j73 => ([(1,Cc (.pl 21 0)),(3,Cc (lo 22 j73.length)),(4,Iv s1.1),(5,Iv s53.1)],[(21,.row 26 [[iC g.aH,xF aF g.aC]]),(22,pR 96 aF j73)])) ?_ (fun j73 _ => ?_))))))))
      ·refine aB.cond Q (fun QM => ?_) (fun QM => ?_)
       ·refine Wr (aN (Cc (lo 22 s53.2.length)) y4 (aN (Iv s1.1) y4 (aN (Iv s53.1) y4 (fA (LT.build [(0,.tmp 31,.c (iC s1.1)),(1,.tmp 32,.c (iC s53.1))] Q Q BR fC Q Q Q) Q Q Q Q (dG (LT.gJ (n := 25) (enc := aF) [(0,.tmp 33,.agg [iC s1.1,iC s53.1])] [aK.mk s1.1 s53.1] Q Q dh fC Q Q Q Q (by decide) (fun _ => Q) Q) Q Q Q (ak fun u75 SA => (lZ (LT.kY (enc := aF) Q Q Q dh fC Q (by decide) (by decide) (fun _ => Q) (jF SA)) Q Q Q Q Q Q (aQ (Cc (lo 22 ((s53.2 ++ [aK.mk s1.1 s53.1]).length))) y4 (On (aj Q z4 z2))))))))))
       ·refine aB.skip (aj Q z4 z2)
      ·refine aB.blk (Wr ?_)
       refine aN (Iv s53.1) y4 (bG LT.add ah (aQ (Iv (aP (s53.1 + 1))) y4 (On (aj Q z4 z2))))
     ·refine aB.gV Q ⟨Q,aU.of z3 z2⟩
    ·refine aB.blk (Wr ?_)
     refine aN (Iv ou.1) y4 (bG LT.add ah (aQ (Iv (aP (ou.1 + 1))) y4 (On (aj Q z3 z2))))
   ·refine aB.gV Q ⟨Q,aU.of z1 z1⟩
 ·refine Ws (Wr ?_)
  refine aN (Cc (lo 22 gZ.length)) y4 (aQ (Cc (lo 22 gZ.length)) y4 (On (en [(2,Cc (lo 22 gZ.length))] [(22,pR 96 aF gZ)] z1 z1 (aB.ent (aU.mv 22 0 Q Q) (en [(2,Cc (lo 0 gZ.length))] [(0,pR 96 aF gZ)] z1 z1 (aB.ret (ay.mk (.inr Q) z1 z1 Q ⟨J,J⟩ ⟨bK.bY mJ,J⟩)))))))
theorem MP (g : aX) (k : Int) : FT Try.prog (wC g k) 193 [.agg [iC g.aH,xF aF g.aC],.c (iC k)] [] (fun (t : (aY × Bool)) => [.agg [lo 0 t.1.Free.length,lo 1 t.1.aJ.length,lo 2 t.1.aI.length],.c (bC t.2)]) (fun (t : (aY × Bool)) => [(0,pR 3 aA t.1.Free),(1,pR 3 aA t.1.aJ),(2,pR 3 aA t.1.aI)]) [0,1,2] := by
 refine FT.of [] Try.func193 Try.ntmps193 Q y2 ?_
 intro w0 U0 R0 g0
 unfold wC
 refine Ws (Wr ?_)
 refine dG (LT.box (n := 21) (v := (.agg [iC g.aH,xF aF g.aC])) Q bM (by exact Q)) Q Q Q (dX (LT.alloc (n := 22) (cells := [sC aO,sC aO,sC aO]) Q iW Q Q Q) Q Q (aQ (Bv false) af (On (Ws (Wr ?_)))))
 refine dX (LT.gJ (n := 23) (enc := aA) [] ([] : List Int) Q Q eU gy Q Q Q Q (by decide) (fun _ => Q) Q) Q Q (dX (LT.gJ (n := 24) (enc := aA) [] ([] : List Int) Q Q eU gy Q Q Q Q (by decide) (fun _ => Q) Q) Q Q (dX (LT.gJ (n := 25) (enc := aA) [] ([] : List Int) Q Q eU gy Q Q Q Q (by decide) (fun _ => Q) Q) Q Q (NK (LT.build [(0,.tmp 8,.c (lo 23 (([] : List Int).length))),(1,.tmp 9,.c (lo 24 (([] : List Int).length))),(2,.tmp 10,.c (lo 25 (([] : List Int).length)))] Q Q uH iW Q Q Q) Q Q Q Q Q (dX (LT.alloc (n := 26) (cells := [sC aO,sC aO,sC aO]) Q iW Q Q Q) Q Q (bn (stA [lo 23 (([] : List Int).length),lo 24 (([] : List Int).length),lo 25 (([] : List Int).length)] Q Q dB bV) Q Q Q Q Q (On (Ws (Ws ?_))))))))
 refine aB.fG (fun j4 => ([(1,Iv k),(2,Cc (.pl 21 0)),(4,Cc (.pl 22 0)),(6,Cc (.pl 26 0)),(19,Bv j4)],[(21,.row 26 [[iC g.aH,xF aF g.aC]]),(22,.row 163 [[sC aO,sC aO,sC aO]]),(23,pR 3 aA ([] : List Int)),(24,pR 3 aA ([] : List Int)),(25,pR 3 aA ([] : List Int)),(26,.row 163 [[lo 23 (([] : List Int).length),lo 24 (([] : List Int).length),lo 25 (([] : List Int).length)]])])) ?_ (fun j4 _ => ?_)
 ·refine en [(1,Iv k),(2,Cc (.pl 21 0)),(4,Cc (.pl 22 0)),(6,Cc (.pl 26 0))] [(21,.row 26 [[iC g.aH,xF aF g.aC]]),(22,.row 163 [[sC aO,sC aO,sC aO]]),(23,pR 3 aA ([] : List Int)),(24,pR 3 aA ([] : List Int)),(25,pR 3 aA ([] : List Int)),(26,.row 163 [[lo 23 (([] : List Int).length),lo 24 (([] : List Int).length),lo 25 (([] : List Int).length)]])] z4 z6 (Wr (bZ (bW [iC g.aH,xF aF g.aC] Q dw dN bM) Q Q Q Q (ak fun r5 pI => (aT.pure (cO [.agg [iC g.aH,xF aF g.aC]] (zM g r5 pI) xB (jl y2) J y3) z2 J Q Q (aZ (LT.not Q) Q Q Q (aN (Bv (!r5)) y4 (aT.split (fun hb6 => ?_) (fun hb6 => ?_))))))))
  ·refine aW hb6 y5 (aW hb6 y5 (aW hb6 y5 (eF (Bv true) hb6 ah (On (aj Q z5 z6)))))
  ·refine dY (Iv k) hb6 y5 (ak fun r7 pJ => (aT.pure (cO [.c (iC k),.c (iC 1),.c (iC 3)] (Ci k 1 3 r7 pJ) AL (rE y3) J y3) ⟨Q,Q,y2,y2,J⟩ J (gH hb6 Q Q) Q (aZ (LT.not Q) Q (gH hb6 Q Q) Q (fD (Bv (!r7)) hb6 y5 (On (aj Q z5 z6))))))
 ·refine aB.cond Q (fun hc8 => ?_) (fun hc8 => ?_)
  ·refine Ws (Wr ?_)
   refine zf (LT.build [] Q Q uH iW Q Q Q) Q Q (bn (stA [sC aO,sC aO,sC aO] Q Q dB bV) Q Q Q Q Q (aQ (Bv false) af (On (aB.ent (aU.nO 22 0 0 3 Q Q Q Q) (aB.ent (aU.nO 22 1 1 3 Q Q Q Q) (aB.ent (aU.nO 22 2 2 3 Q Q Q Q) (en [(4,Cc (.pl 22 0)),(5,Bv false)] [(0,pR 3 aA ([] : List Int)),(1,pR 3 aA ([] : List Int)),(2,pR 3 aA ([] : List Int)),(22,.row 163 [[lo 0 (([] : List Int).length),lo 1 (([] : List Int).length),lo 2 (([] : List Int).length)]])] z2 z4 (aB.ret (ay.mk (.inr Q) ⟨⟨_,_,_,Q,Q,Q,fJ,bV,_,dR dB⟩,Q,J⟩ z3 Q ⟨⟨J,J,J,J⟩,bI.sc,J⟩ ⟨bK.bY dK,bK.bY dK,bK.bY dK,J⟩)))))))))
  ·refine aB.skip (Ws (Ws (Wr ?_)))
   refine aQ (Iv 0) af (On (aB.block ?_))
   refine aB.kD (id := 0) (wE g k) (fun s9 => ([(1,Iv k),(2,Cc (.pl 21 0)),(4,Cc (.pl 22 0)),(6,Cc (.pl 26 0)),(7,Iv s9.1)],[(21,.row 26 [[iC g.aH,xF aF g.aC]]),(22,.row 163 [[sC aO,sC aO,sC aO]]),(23,pR 3 aA s9.2),(24,pR 3 aA ([] : List Int)),(25,pR 3 aA ([] : List Int)),(26,.row 163 [[lo 23 s9.2.length,lo 24 (([] : List Int).length),lo 25 (([] : List Int).length)]])])) (fun b14 => ([(4,Cc (.pl 22 0)),(6,Cc (.pl 26 0))],[(22,.row 163 [[sC aO,sC aO,sC aO]]),(23,pR 3 aA b14),(24,pR 3 aA ([] : List Int)),(25,pR 3 aA ([] : List Int)),(26,.row 163 [[lo 23 b14.length,lo 24 (([] : List Int).length),lo 25 (([] : List Int).length)]])])) ?_ (aU.of z5 z6) Q (fun b14 _ => ?_)
   ·intro s9
    unfold wE
    refine Ws (Ws (Wr ?_))
    refine aN (Iv s9.1) y4 (bU (iC g.aH) iy bD bF (bG LT.lss y5 (On (aB.cond Q (fun xP => ?_) (fun xP => ?_)))))
    ·refine aB.skip (Ws (aB.block (Wr ?_)))
     refine bU (lo 23 s9.2.length) iw dP bF (aN (Iv k) y4 (dG (LT.gJ (n := 29) (enc := aA) [(0,.tmp 29,.c (iC k))] ([k] : List Int) Q Q eU gy Q Q Q Q (by decide) (fun _ => Q) Q) Q Q Q (ak fun u16 Rf => (lZ (LT.kY (enc := aA) Q Q Q eU gy Q (by decide) (by decide) (fun _ => Q) (jF Rf)) Q Q Q Q Q Q (aZ (LT.iJ Q iw) Q Q Q (bn (lV (.c (lo 23 ((s9.2 ++ ([k] : List Int)).length))) [lo 23 ((s9.2 ++ ([k] : List Int)).length),lo 24 (([] : List Int).length),lo 25 (([] : List Int).length)] Q Q qR rH) Q Q Q Q Q (On (aB.blk ?_))))))))
     refine en [(1,Iv k),(2,Cc (.pl 21 0)),(4,Cc (.pl 22 0)),(6,Cc (.pl 26 0)),(7,Iv s9.1)] [(21,.row 26 [[iC g.aH,xF aF g.aC]]),(22,.row 163 [[sC aO,sC aO,sC aO]]),(23,pR 3 aA (s9.2 ++ ([k] : List Int))),(24,pR 3 aA ([] : List Int)),(25,pR 3 aA ([] : List Int)),(26,.row 163 [[lo 23 ((s9.2 ++ ([k] : List Int)).length),lo 24 (([] : List Int).length),lo 25 (([] : List Int).length)]])] z5 z6 (Wr (aN (Iv s9.1) y4 (bG LT.add ah (aQ (Iv (aP (s9.1 + 1))) y4 (On (aj Q z5 z6))))))
    ·refine aB.gV Q ⟨Q,aU.of z2 z5⟩
   ·refine Ws (Wr ?_)
    refine bZ (bW [lo 23 b14.length,lo 24 (([] : List Int).length),lo 25 (([] : List Int).length)] Q fJ dB bV) Q Q Q Q (bn (stA [lo 23 b14.length,lo 24 (([] : List Int).length),lo 25 (([] : List Int).length)] Q Q dB bV) Q Q Q Q Q (aQ (Bv true) af (On (en [(4,Cc (.pl 22 0)),(5,Bv true)] [(22,.row 163 [[lo 23 b14.length,lo 24 (([] : List Int).length),lo 25 (([] : List Int).length)]]),(23,pR 3 aA b14),(24,pR 3 aA ([] : List Int)),(25,pR 3 aA ([] : List Int))] z2 z4 (aB.ent (aU.mv 23 0 Q Q) (aB.ent (aU.mv 24 1 Q Q) (aB.ent (aU.mv 25 2 Q Q) (en [(4,Cc (.pl 22 0)),(5,Bv true)] [(0,pR 3 aA b14),(1,pR 3 aA ([] : List Int)),(2,pR 3 aA ([] : List Int)),(22,.row 163 [[lo 0 b14.length,lo 1 (([] : List Int).length),lo 2 (([] : List Int).length)]])] z2 z4 (aB.ret (ay.mk (.inr Q) ⟨⟨_,_,_,Q,Q,Q,fJ,bV,_,dR dB⟩,Q,J⟩ z3 Q ⟨⟨J,J,J,J⟩,bI.sc,J⟩ ⟨bK.bY dK,bK.bY dK,bK.bY dK,J⟩))))))))))
theorem Cj (p : aY) : FT Try.prog (pz p) 203 [.agg [xF aA p.Free,xF aA p.aJ,xF aA p.aI]] [] (fun (t : aY) => [.agg [lo 0 t.Free.length,lo 1 t.aJ.length,lo 2 t.aI.length]]) (fun (t : aY) => [(0,pR 3 aA t.Free),(1,pR 3 aA t.aJ),(2,pR 3 aA t.aI)]) [0,1,2] := by
 refine FT.of [] Try.func203 Try.ntmps203 Q y2 ?_
 intro w0 U0 R0 g0
 unfold pz
 refine Ws (Wr ?_)
 refine dG (LT.box (n := 21) (v := (.agg [xF aA p.Free,xF aA p.aJ,xF aA p.aI])) Q bV (by exact Q)) Q Q Q (dX (LT.alloc (n := 22) (cells := [sC aO,sC aO,sC aO]) Q iW Q Q Q) Q Q (On (Ws (aB.draw mixed ?_))))
 refine rP (LT.gJ (n := 23) (enc := aA) [] ([] : List Int) Q Q eU gy Q Q Q Q (by decide) (fun _ => Q) Q) Q Q (fQ (xF aA p.Free) iw dP bF (aS.bind fun u1 hu1 => (kQ (LT.rM (enc := aA) Q  Q eU gy Q (by decide) (by decide) (fun _ => Q) (jF hu1)) Q Q Q Q Q (rP (LT.gJ (n := 24) (enc := aA) [] ([] : List Int) Q Q eU gy Q Q Q Q (by decide) (fun _ => Q) Q) Q Q (fQ (xF aA p.aJ) jw dP bF (aS.bind fun u2 hu2 => (kQ (LT.rM (enc := aA) Q  Q eU gy Q (by decide) (by decide) (fun _ => Q) (jF hu2)) Q Q Q Q Q (rP (LT.gJ (n := 25) (enc := aA) [] ([] : List Int) Q Q eU gy Q Q Q Q (by decide) (fun _ => Q) Q) Q Q (bg (LT.iJ Q jq) Q Q Q ?_)))))))))
 refine fZ (sO (xF aA p.aI) Q dP) Q Q Q Q (aS.bind fun u3 hu3 => (kQ (LT.rM (enc := aA) Q  Q eU gy Q (by decide) (by decide) (fun _ => Q) (jF hu3)) Q Q Q Q Q (Gy (LT.build [(0,.tmp 6,.c (lo 23 ((([] : List Int) ++ p.Free).length))),(1,.tmp 10,.c (lo 24 ((([] : List Int) ++ p.aJ).length))),(2,.tmp 14,.c (lo 25 ((([] : List Int) ++ p.aI).length)))] Q Q uH iW Q Q Q) Q Q Q Q Q (kQ (stA [lo 23 ((([] : List Int) ++ p.Free).length),lo 24 ((([] : List Int) ++ p.aJ).length),lo 25 ((([] : List Int) ++ p.aI).length)] Q Q dB bV) Q Q Q Q Q (aS.nil (by kernel_rfl) (en [(2,Cc (.pl 22 0))] [(22,.row 163 [[lo 23 ((([] : List Int) ++ p.Free).length),lo 24 ((([] : List Int) ++ p.aJ).length),lo 25 ((([] : List Int) ++ p.aI).length)]]),(23,pR 3 aA (([] : List Int) ++ p.Free)),(24,pR 3 aA (([] : List Int) ++ p.aJ)),(25,pR 3 aA (([] : List Int) ++ p.aI))] z1 z4 (aB.ent (aU.mv 23 0 Q Q) (aB.ent (aU.mv 24 1 Q Q) (aB.ent (aU.mv 25 2 Q Q) (en [(2,Cc (.pl 22 0))] [(0,pR 3 aA (([] : List Int) ++ p.Free)),(1,pR 3 aA (([] : List Int) ++ p.aJ)),(2,pR 3 aA (([] : List Int) ++ p.aI)),(22,.row 163 [[lo 0 ((([] : List Int) ++ p.Free).length),lo 1 ((([] : List Int) ++ p.aJ).length),lo 2 ((([] : List Int) ++ p.aI).length)]])] z1 z4 (aB.ret (ay.mk (.inr Q) ⟨⟨_,_,_,Q,Q,Q,fJ,bV,_,dR dB⟩,J⟩ z3 Q ⟨⟨J,J,J,J⟩,J⟩ ⟨bK.bY dK,bK.bY dK,bK.bY dK,J⟩))))))))))))
theorem W9 (g : aX) (p : aY) (fromV : (List Int)) (a : Int) (u : Int) : FT Try.prog (yw g p fromV a u) 218 [.agg [iC g.aH,xF aF g.aC],.agg [xF aA p.Free,xF aA p.aJ,xF aA p.aI],.c (xF aA fromV),.c (iC a),.c (iC u)] [] (fun (t : aY) => [.agg [lo 0 t.Free.length,lo 1 t.aJ.length,lo 2 t.aI.length]]) (fun (t : aY) => [(0,pR 3 aA t.Free),(1,pR 3 aA t.aJ),(2,pR 3 aA t.aI)]) [0,1,2] := by
 refine FT.of [] Try.func218 Try.ntmps218 Q y2 ?_
 intro w0 U0 R0 g0
 unfold yw
 refine Ws (Wr ?_)
 refine dG (LT.box (n := 21) (v := (.agg [iC g.aH,xF aF g.aC])) Q bM (by exact Q)) Q Q Q (dG (LT.box (n := 22) (v := (.agg [xF aA p.Free,xF aA p.aJ,xF aA p.aI])) Q bV (by exact Q)) Q Q Q (dX (LT.alloc (n := 23) (cells := [sC aO,sC aO,sC aO]) Q iW Q Q Q) Q Q (On (Ws (Wr ?_)))))
 refine bZ (bW [xF aA p.Free,xF aA p.aJ,xF aA p.aI] Q fJ dB bV) Q Q Q Q (ak fun r1 hr1 => (aT.step (cO [.agg [xF aA p.Free,xF aA p.aJ,xF aA p.aI]] (Fw.Fn.ren [(0,25),(1,26),(2,27)] (Cj p r1 hr1) Q) zx (CO y3) J y3) z2 J Q Q (dX (LT.alloc (n := 28) (cells := [sC aO,sC aO,sC aO]) Q iW Q Q Q) Q Q (bn (stA [lo 25 r1.Free.length,lo 26 r1.aJ.length,lo 27 r1.aI.length] Q Q dB bV) Q Q Q Q Q (On (Ws ?_))))))
 refine en [(2,Cc (xF aA fromV)),(3,Iv a),(4,Iv u),(5,Cc (.pl 21 0)),(6,Cc (.pl 22 0)),(10,Cc (.pl 23 0)),(11,Cc (.pl 28 0))] [(21,.row 26 [[iC g.aH,xF aF g.aC]]),(22,.row 163 [[xF aA p.Free,xF aA p.aJ,xF aA p.aI]]),(23,.row 163 [[sC aO,sC aO,sC aO]]),(25,pR 3 aA r1.Free),(26,pR 3 aA r1.aJ),(27,pR 3 aA r1.aI),(28,.row 163 [[lo 25 r1.Free.length,lo 26 r1.aJ.length,lo 27 r1.aI.length]])] z7 z7 (aB.draw mixed (fQ (lo 25 r1.Free.length) iw dP bF (bf (Iv u) y4 (fQ (lo 25 r1.Free.length) iw dP bF (bf (Iv u) y4 (aS.bind fun x2 hx2 => (kF (LT.fK Q Q fB hx2) Q Q Q Q Q (fZ (LT.je (k := 0) Q bD hx2 (by exact Q) (by exact Q)) Q Q Q Q (jP LT.sub ah ?_)))))))))
 refine aS.bind fun x3 hx3 => (kF (LT.fK Q Q fB hx3) Q Q Q Q Q (kQ (LT.lX (k := 0) (v := (.c (iC (aP (x2 - 1))))) (b' := (aP (x2 - 1))) Q Q (dR lQ) iO (by exact Q) hx3 (by exact Q) (by exact K Q) (by exact Q)) Q Q Q Q Q (aS.nil (by kernel_rfl) (Ws (en [(2,Cc (xF aA fromV)),(3,Iv a),(4,Iv u),(5,Cc (.pl 21 0)),(6,Cc (.pl 22 0)),(10,Cc (.pl 23 0)),(11,Cc (.pl 28 0))] [(21,.row 26 [[iC g.aH,xF aF g.aC]]),(22,.row 163 [[xF aA p.Free,xF aA p.aJ,xF aA p.aI]]),(23,.row 163 [[sC aO,sC aO,sC aO]]),(25,pR 3 aA (r1.Free.set u.toNat (aP (x2 - 1)))),(26,pR 3 aA r1.aJ),(27,pR 3 aA r1.aI),(28,.row 163 [[lo 25 r1.Free.length,lo 26 r1.aJ.length,lo 27 r1.aI.length]])] z7 z7 (aB.draw mixed (fQ (lo 25 r1.Free.length) iw dP bF (bf (Iv a) y4 (fQ (lo 25 r1.Free.length) iw dP bF ?_)))))))))
 refine bf (Iv a) y4 (aS.bind fun x4 hx4 => (kF (LT.fK (show r1.Free.length = (r1.Free.set u.toNat (aP (x2 - 1))).length by simp only [List.length_set]) Q fB hx4) Q Q Q Q Q (fZ (LT.je (k := 0) Q bD hx4 (by exact Q) (by exact Q)) Q Q Q Q (jP LT.add ah (aS.bind fun x5 hx5 => (kF (LT.fK (show r1.Free.length = (r1.Free.set u.toNat (aP (x2 - 1))).length by simp only [List.length_set]) Q fB hx5) Q Q Q Q Q (kQ (LT.lX (k := 0) (v := (.c (iC (aP (x4 + 1))))) (b' := (aP (x4 + 1))) Q Q (dR lQ) iO (by exact Q) hx5 (by exact Q) (by exact K Q) (by exact Q)) Q Q Q Q Q (aS.nil (by kernel_rfl) (Ws (en [(2,Cc (xF aA fromV)),(3,Iv a),(4,Iv u),(5,Cc (.pl 21 0)),(6,Cc (.pl 22 0)),(10,Cc (.pl 23 0)),(11,Cc (.pl 28 0))] [(21,.row 26 [[iC g.aH,xF aF g.aC]]),(22,.row 163 [[xF aA p.Free,xF aA p.aJ,xF aA p.aI]]),(23,.row 163 [[sC aO,sC aO,sC aO]]),(25,pR 3 aA ((r1.Free.set u.toNat (aP (x2 - 1))).set a.toNat (aP (x4 + 1)))),(26,pR 3 aA r1.aJ),(27,pR 3 aA r1.aI),(28,.row 163 [[lo 25 r1.Free.length,lo 26 r1.aJ.length,lo 27 r1.aI.length]])] z7 z7 (Wr ?_)))))))))))
 refine aN (Iv u) y4 (aQ (Iv u) y4 (On (Ws (aB.block ?_))))
 refine aB.kD (id := 0) (tX g p fromV a u r1 x2 x4) (fun s6 => ([(2,Cc (xF aA fromV)),(3,Iv a),(5,Cc (.pl 21 0)),(6,Cc (.pl 22 0)),(10,Cc (.pl 23 0)),(11,Cc (.pl 28 0)),(12,Iv s6.1)],[(21,.row 26 [[iC g.aH,xF aF g.aC]]),(22,.row 163 [[xF aA p.Free,xF aA p.aJ,xF aA p.aI]]),(23,.row 163 [[sC aO,sC aO,sC aO]]),(25,pR 3 aA ((r1.Free.set u.toNat (aP (x2 - 1))).set a.toNat (aP (x4 + 1)))),(26,pR 3 aA s6.2),(27,pR 3 aA r1.aI),(28,.row 163 [[lo 25 (((r1.Free.set u.toNat (aP (x2 - 1))).set a.toNat (aP (x4 + 1))).length),lo 26 s6.2.length,lo 27 r1.aI.length]])])) (fun b19 => ([(10,Cc (.pl 23 0)),(11,Cc (.pl 28 0))],[(23,.row 163 [[sC aO,sC aO,sC aO]]),(25,pR 3 aA b19.1),(26,pR 3 aA b19.2.1),(27,pR 3 aA b19.2.2),(28,.row 163 [[lo 25 b19.1.length,lo 26 b19.2.1.length,lo 27 b19.2.2.length]])])) ?_ (aU.of z7 ⟨Q,Q,Q,Q,Q,Q,congrArg (fun l1 => (some (Ob.row 163 [[lo 25 l1,lo 26 r1.aJ.length,lo 27 r1.aI.length]]) : Option Ob)) (show r1.Free.length = ((r1.Free.set u.toNat (aP (x2 - 1))).set a.toNat (aP (x4 + 1))).length by simp only [List.length_set]),J⟩) Q (fun b19 _ => ?_)
 ·intro s6
  unfold tX
  refine Ws (Ws (Wr ?_))
  refine aN (Iv s6.1) y4 (aN (Iv a) y4 (bG LT.neq y5 (On (aB.cond Q (fun QF => ?_) (fun QF => ?_)))))
  ·refine aB.skip (aB.block (Ws (Wr ?_)))
   refine aN (Cc (xF aA fromV)) y4 (aN (Iv s6.1) y4 (ak fun x21 TA => (fA (LT.eX (enc := aA) Q fB TA iO) Q Q Q Q (aZ (LT.iG Q bD) Q Q Q (aQ (Iv x21) y4 (On (Ws (aB.draw mixed ?_))))))))
   refine fQ (xF aF g.aC) dZ eH bF (fQ (xF aA p.aI) jq dP bF (bf (Iv x21) y4 (aS.bind fun NE TB => (eu (LT.eX (enc := aA) Q fB TB iO) Q Q Q Q (bg (LT.iG Q bD) Q Q Q (aS.bind fun x23 TD => (eu (LT.eX (enc := aF) Q gB TD dD) Q Q Q Q (bg (LT.l9 Q ig (dR gQ) (by exact dD.symm)) Q Q Q (bf (Iv s6.1) y4 ?_)))))))))
   refine aS.bind fun jv EY => (aS.pure (cO [.agg [iC x23.A,iC x23.B],.c (iC s6.1)] (MV x23 s6.1 jv EY) Ht (rF y3) J y3) z3 J Q Q (bg (LT.assign (v := (Iv jv)) Q) Q Q Q (aS.nil (by kernel_rfl) (Ws (en [(2,Cc (xF aA fromV)),(3,Iv a),(5,Cc (.pl 21 0)),(6,Cc (.pl 22 0)),(10,Cc (.pl 23 0)),(11,Cc (.pl 28 0)),(12,Iv s6.1),(13,Iv x21),(14,Iv jv)] [(21,.row 26 [[iC g.aH,xF aF g.aC]]),(22,.row 163 [[xF aA p.Free,xF aA p.aJ,xF aA p.aI]]),(23,.row 163 [[sC aO,sC aO,sC aO]]),(25,pR 3 aA ((r1.Free.set u.toNat (aP (x2 - 1))).set a.toNat (aP (x4 + 1)))),(26,pR 3 aA s6.2),(27,pR 3 aA r1.aI),(28,.row 163 [[lo 25 (((r1.Free.set u.toNat (aP (x2 - 1))).set a.toNat (aP (x4 + 1))).length),lo 26 s6.2.length,lo 27 r1.aI.length]])] z9 z7 (Wr (bU (lo 26 s6.2.length) jw dP bF (aN (Iv x21) y4 (aN (Iv s6.1) y4 (ak fun x25 hx25 => ?_))))))))))
   refine jJ (LT.fK Q Q fB hx25) Q Q Q Q Q (bn (LT.lX (k := 0) (v := (.c (iC s6.1))) (b' := s6.1) Q Q (dR lQ) iO (by exact Q) hx25 (by exact Q) (by exact K Q) (by exact Q)) Q Q Q Q Q (On (Wr ?_)))
   refine aN (Iv jv) y4 (aQ (Iv jv) y4 (On (aB.blk ?_)))
   refine aB.nil ⟨Q,aU.of z7 ⟨Q,Q,Q,Q,Q,Q,congrArg (fun l1 => (some (Ob.row 163 [[lo 25 (((r1.Free.set u.toNat (aP (x2 - 1))).set a.toNat (aP (x4 + 1))).length),lo 26 l1,lo 27 r1.aI.length]]) : Option Ob)) (show s6.2.length = (s6.2.set x21.toNat s6.1).length by simp only [List.length_set]),J⟩⟩
  ·refine aB.gV Q ⟨Q,aU.of z2 z5⟩
 ·refine Ws (Wr ?_)
  refine bZ (bW [lo 25 b19.1.length,lo 26 b19.2.1.length,lo 27 b19.2.2.length] Q fJ dB bV) Q Q Q Q (bn (stA [lo 25 b19.1.length,lo 26 b19.2.1.length,lo 27 b19.2.2.length] Q Q dB bV) Q Q Q Q Q (On (en [(10,Cc (.pl 23 0))] [(23,.row 163 [[lo 25 b19.1.length,lo 26 b19.2.1.length,lo 27 b19.2.2.length]]),(25,pR 3 aA b19.1),(26,pR 3 aA b19.2.1),(27,pR 3 aA b19.2.2)] z1 z4 (aB.ent (aU.mv 25 0 Q Q) (aB.ent (aU.mv 26 1 Q Q) (aB.ent (aU.mv 27 2 Q Q) (en [(10,Cc (.pl 23 0))] [(0,pR 3 aA b19.1),(1,pR 3 aA b19.2.1),(2,pR 3 aA b19.2.2),(23,.row 163 [[lo 0 b19.1.length,lo 1 b19.2.1.length,lo 2 b19.2.2.length]])] z1 z4 (aB.ret (ay.mk (.inr Q) ⟨⟨_,_,_,Q,Q,Q,fJ,bV,_,dR dB⟩,J⟩ z3 Q ⟨⟨J,J,J,J⟩,J⟩ ⟨bK.bY dK,bK.bY dK,bK.bY dK,J⟩)))))))))
end Go.Proofs.Ytdmlaldifbmkpaa
end
