/- Plain: trivial motions; IsTrivialMotion and ProvesLoose of the program and of the reference agree. -/
import Derived.Test.YtoedmjkipecloaaPlVel
set_option linter.unusedVariables false
set_option linter.unusedSimpArgs false
set_option linter.unnecessarySimpa false
open Go Go.Fw
namespace Go.Proofs.Ytoedmjkipecloaa

/-! ### the geometry, in integers -/
theorem mul_zero_of {d e : Int} (hd : d ≠ 0) (h : d * e = 0) : e = 0 := by
  rcases Int.mul_eq_zero.1 h with h | h
  · exact absurd h hd
  · exact h
theorem geo1 {d m x y p q s t e f : Int} (hd : d ≠ 0) (a1 : s * d = -m * y) (a2 : t * d = m * x) (b1 : e * d = -m * q) (b2 : f * d = m * p) : (x - p) * (s - e) + (y - q) * (t - f) = 0 := by
  refine mul_zero_of hd ?_
  have e1 : d * ((x - p) * (s - e) + (y - q) * (t - f)) = (x - p) * (s * d - e * d) + (y - q) * (t * d - f * d) := by grind
  rw [e1, a1, a2, b1, b2]
  grind
theorem geo2 {d m y q s e : Int} (hd : d ≠ 0) (a1 : s * d = -m * y) (b1 : e * d = -m * q) (h : y = q) : s = e := by
  subst h
  have : d * (s - e) = 0 := by grind
  have := mul_zero_of hd this
  omega
theorem geo2' {d m x p t f : Int} (hd : d ≠ 0) (a2 : t * d = m * x) (b2 : f * d = m * p) (h : x = p) : t = f := by
  subst h
  have : d * (t - f) = 0 := by grind
  have := mul_zero_of hd this
  omega
theorem geo3 {d m x y p q s t e f : Int} (hd : d ≠ 0) (a1 : s * d = -m * y) (a2 : t * d = m * x) (b1 : e * d = -m * q) (b2 : f * d = m * p) (hc : x * q = y * p) : p * s + q * t = x * e + y * f := by
  have h : d * ((p * s + q * t) - (x * e + y * f)) = p * (s * d) + q * (t * d) - (x * (e * d) + y * (f * d)) := by grind
  rw [a1, a2, b1, b2] at h
  have h2 : p * (-m * y) + q * (m * x) - (x * (-m * q) + y * (m * p)) = 2 * m * (x * q - y * p) := by grind
  rw [h2, hc, Int.sub_self, Int.mul_zero] at h
  have := mul_zero_of hd h
  omega
theorem geo4 {d m x y p q s t e f : Int} (hd : d ≠ 0) (a1 : s * d = -m * y) (a2 : t * d = m * x) (b1 : e * d = -m * q) (b2 : f * d = m * p) : p * t - q * s = x * f - y * e := by
  have h : d * ((p * t - q * s) - (x * f - y * e)) = p * (t * d) - q * (s * d) - (x * (f * d) - y * (e * d)) := by grind
  rw [a1, a2, b1, b2] at h
  have h2 : p * (m * x) - q * (-m * y) - (x * (m * p) - y * (-m * q)) = 0 := by grind
  rw [h2] at h
  have := mul_zero_of hd h
  omega
theorem geo5 {x y s t : Int} (h : x * s + y * t = 0) : s * (x * x + y * y) = -(t * x - s * y) * y ∧ t * (x * x + y * y) = (t * x - s * y) * x := by
  constructor <;> grind
theorem sq_pos {x y : Int} (h : x ≠ 0 ∨ y ≠ 0) : x * x + y * y ≠ 0 := by
  have hx : 0 ≤ x * x := by rcases Int.le_total 0 x with h | h; exact Int.mul_nonneg h h; exact Int.mul_nonneg_of_nonpos_of_nonpos h h
  have hy : 0 ≤ y * y := by rcases Int.le_total 0 y with h | h; exact Int.mul_nonneg h h; exact Int.mul_nonneg_of_nonpos_of_nonpos h h
  intro h0
  have h1 : x * x = 0 := by omega
  have h2 : y * y = 0 := by omega
  rcases h with h | h
  · rcases Int.mul_eq_zero.1 h1 with h3 | h3 <;> exact h h3
  · rcases Int.mul_eq_zero.1 h2 with h3 | h3 <;> exact h h3
theorem geo6 {x y s t p q e f : Int} (h0 : x * s + y * t = 0) (h1 : p * e + q * f = 0) (hA : (x - p) * (s - e) + (y - q) * (t - f) = 0) (hF : x * q = y * p → p * s + q * t = x * e + y * f ∧ p * t - q * s = x * f - y * e) :
    e * (x * x + y * y) = -(t * x - s * y) * q ∧ f * (x * x + y * y) = (t * x - s * y) * p := by
  have hB : x * e + y * f + p * s + q * t = 0 := by grind
  by_cases hc : x * q = y * p
  · obtain ⟨f1, f2⟩ := hF hc
    have g1 : x * e + y * f = 0 := by omega
    constructor <;> grind
  · have hne : x * q - y * p ≠ 0 := by omega
    have k1 : p * (e * (x * x + y * y) + (t * x - s * y) * q) + q * (f * (x * x + y * y) - (t * x - s * y) * p) = 0 := by
      have : p * (e * (x * x + y * y) + (t * x - s * y) * q) + q * (f * (x * x + y * y) - (t * x - s * y) * p) = (p * e + q * f) * (x * x + y * y) := by grind
      rw [this, h1, Int.zero_mul]
    have k2 : x * (e * (x * x + y * y) + (t * x - s * y) * q) + y * (f * (x * x + y * y) - (t * x - s * y) * p) = 0 := by
      have : x * (e * (x * x + y * y) + (t * x - s * y) * q) + y * (f * (x * x + y * y) - (t * x - s * y) * p) = (x * e + y * f + p * s + q * t) * (x * x + y * y) - (x * s + y * t) * (x * p + y * q) := by grind
      rw [this, h0, hB, Int.zero_mul, Int.zero_mul, Int.sub_self]
    generalize hE : e * (x * x + y * y) + (t * x - s * y) * q = E at k1 k2
    generalize hG : f * (x * x + y * y) - (t * x - s * y) * p = G at k1 k2
    have z1 : (x * q - y * p) * E = 0 := by
      have : (x * q - y * p) * E = q * (x * E + y * G) - y * (p * E + q * G) := by grind
      rw [this, k1, k2, Int.mul_zero, Int.mul_zero, Int.sub_self]
    have z2 : (x * q - y * p) * G = 0 := by
      have : (x * q - y * p) * G = x * (p * E + q * G) - p * (x * E + y * G) := by grind
      rw [this, k1, k2, Int.mul_zero, Int.mul_zero, Int.sub_self]
    have e1 := mul_zero_of hne z1
    have e2 := mul_zero_of hne z2
    constructor <;> grind

/-! ### differences from joint 0 -/
def dX (f : TFramework) (k : Int) : Int := (pl f k).X - (pl f 0).X
def dY (f : TFramework) (k : Int) : Int := (pl f k).Y - (pl f 0).Y
def uX (v : List Int) (k : Int) : Int := gv v (2 * k) - gv v 0
def uY (v : List Int) (k : Int) : Int := gv v (2 * k + 1) - gv v 1
theorem chg_d (f : TFramework) (v : List Int) (a b : Int) : chg f v a b = (dX f a - dX f b) * (uX v a - uX v b) + (dY f a - dY f b) * (uY v a - uY v b) := by
  unfold chg dX dY uX uY
  congr 1 <;> congr 1 <;> omega
theorem d0 (f : TFramework) (v : List Int) : dX f 0 = 0 ∧ dY f 0 = 0 ∧ uX v 0 = 0 ∧ uY v 0 = 0 := by
  unfold dX dY uX uY
  refine ⟨by omega, by omega, ?_, ?_⟩
  · show gv v (2 * 0) - gv v 0 = 0
    simp
  · show gv v (2 * 0 + 1) - gv v 1 = 0
    simp
/-- what the program asks of joint k -/
def spin (f : TFramework) (v : List Int) (r : Int × Int) (k : Int) : Prop := uX v k * r.2 = -r.1 * dY f k ∧ uY v k * r.2 = r.1 * dX f k
/-- what the reference asks of two joints -/
def Two (f : TFramework) (v : List Int) (a b : Int) : Prop := chg f v a b = 0 ∧ (dX f a = dX f b → dY f a = dY f b → uX v a = uX v b ∧ uY v a = uY v b)
def Flat (f : TFramework) (v : List Int) (a b : Int) : Prop := dX f a * dY f b = dY f a * dX f b →
  dX f b * uX v a + dY f b * uY v a = dX f a * uX v b + dY f a * uY v b ∧ dX f b * uY v a - dY f b * uX v a = dX f a * uY v b - dY f a * uX v b
/-- the turn that the program finds -/
def TurnOf (f : TFramework) (v : List Int) (n : Nat) (r : Int × Int) : Prop := (r = (0, 1) ∧ ∀ k : Nat, k < n → dX f k = 0 ∧ dY f k = 0) ∨ ∃ i : Nat, i < n ∧ (dX f i ≠ 0 ∨ dY f i ≠ 0) ∧ r = (uY v i * dX f i - uX v i * dY f i, dX f i * dX f i + dY f i * dY f i)
theorem turn_den {f : TFramework} {v : List Int} {n : Nat} {r : Int × Int} (h : TurnOf f v n r) : r.2 ≠ 0 := by
  rcases h with ⟨rfl, _⟩ | ⟨i, _, hd, rfl⟩
  · decide
  · exact sq_pos hd
theorem spin_two {f : TFramework} {v : List Int} {n : Nat} {r : Int × Int} (h : TurnOf f v n r) {a b : Int} (ha : spin f v r a) (hb : spin f v r b) : Two f v a b ∧ Flat f v a b := by
  have hd := turn_den h
  refine ⟨⟨?_, fun h1 h2 => ⟨geo2 hd ha.1 hb.1 h2, geo2' hd ha.2 hb.2 h1⟩⟩, fun hc => ⟨geo3 hd ha.1 ha.2 hb.1 hb.2 hc, geo4 hd ha.1 ha.2 hb.1 hb.2⟩⟩
  rw [chg_d]
  exact geo1 hd ha.1 ha.2 hb.1 hb.2
theorem two_spin {f : TFramework} {v : List Int} {n : Nat} {r : Int × Int} (h : TurnOf f v n r) (hT : ∀ a b : Nat, a < n → b < a → Two f v a b) (hF : ∀ a b : Nat, a < n → 1 ≤ b → b < a → Flat f v a b) (k : Nat) (hk : k < n) : spin f v r k := by
  obtain ⟨x0, y0, s0, t0⟩ := d0 f v
  have hch : ∀ a : Nat, a < n → dX f a * uX v a + dY f a * uY v a = 0 := fun a ha => by
    by_cases h0 : a = 0
    · subst h0
      show dX f 0 * uX v 0 + dY f 0 * uY v 0 = 0
      rw [x0, y0, s0, t0]
      rfl
    · have := (hT a 0 ha (by omega)).1
      rw [chg_d] at this
      change (dX f a - dX f 0) * (uX v a - uX v 0) + (dY f a - dY f 0) * (uY v a - uY v 0) = 0 at this
      rw [x0, y0, s0, t0] at this
      simpa using this
  rcases h with ⟨rfl, hz⟩ | ⟨i, hi, hd, rfl⟩
  · obtain ⟨z1, z2⟩ := hz k hk
    have hu : uX v k = 0 ∧ uY v k = 0 := by
      by_cases h0 : k = 0
      · subst h0
        exact ⟨s0, t0⟩
      · have := (hT k 0 hk (by omega)).2 (by rw [z1]; exact x0.symm) (by rw [z2]; exact y0.symm)
        exact ⟨this.1.trans s0, this.2.trans t0⟩
    unfold spin
    rw [hu.1, hu.2]
    simp
  · unfold spin
    simp only
    by_cases hik : k = i
    · subst hik
      exact geo5 (hch k hk)
    · have hA : (dX f i - dX f k) * (uX v i - uX v k) + (dY f i - dY f k) * (uY v i - uY v k) = 0 := by
        rcases Nat.lt_or_ge k i with hlt | hge
        · have := (hT i k hi hlt).1
          rwa [chg_d] at this
        · have := (hT k i hk (by omega)).1
          rw [chg_d] at this
          grind
      refine geo6 (hch i hi) (hch k hk) hA fun hc => ?_
      by_cases hk0 : k = 0
      · subst hk0
        have e1 : dX f ((0 : Nat) : Int) = 0 := x0
        have e2 : dY f ((0 : Nat) : Int) = 0 := y0
        have e3 : uX v ((0 : Nat) : Int) = 0 := s0
        have e4 : uY v ((0 : Nat) : Int) = 0 := t0
        rw [e1, e2, e3, e4]
        simp
      · have hi0 : i ≠ 0 := fun h => by
          subst h
          rcases hd with h | h
          · exact h x0
          · exact h y0
        rcases Nat.lt_or_ge k i with hlt | hge
        · exact hF i k hi (by omega) hlt hc
        · obtain ⟨f1, f2⟩ := hF k i hk (by omega) (by omega) (by rw [Int.mul_comm (dX f k), Int.mul_comm (dY f k)]; exact hc.symm)
          exact ⟨f1.symm, f2.symm⟩

/-! ### the program -/
theorem mulB {a b m n : Int} (ha : -m ≤ a ∧ a ≤ m) (hm : 0 ≤ m) (hb : 0 ≤ b ∧ b ≤ n) : -(m * n) ≤ a * b ∧ a * b ≤ m * n := by
  have h1 : a * b ≤ m * b := Int.mul_le_mul_of_nonneg_right ha.2 hb.1
  have h2 : -m * b ≤ a * b := Int.mul_le_mul_of_nonneg_right ha.1 hb.1
  have h3 : m * b ≤ m * n := Int.mul_le_mul_of_nonneg_left hb.2 hm
  rw [Int.neg_mul] at h2
  omega
theorem mul4r {a b m : Int} (ha : -4 ≤ a ∧ a ≤ 4) (hb : -m ≤ b ∧ b ≤ m) : -(4 * m) ≤ b * a ∧ b * a ≤ 4 * m := by
  rw [Int.mul_comm b a]
  exact mul4 ha hb
structure Dif (f : TFramework) (v : List Int) (k : Int) : Prop where
  x : -4 ≤ dX f k ∧ dX f k ≤ 4
  y : -4 ≤ dY f k ∧ dY f k ≤ 4
  s : -20000000000 ≤ uX v k ∧ uX v k ≤ 20000000000
  t : -20000000000 ≤ uY v k ∧ uY v k ≤ 20000000000
theorem VV.dif {f : TFramework} {v : List Int} (h : VV f v) {k : Int} (k0 : 0 ≤ k) (k1 : k < f.Graph.Points) : Dif f v k := by
  have g0 := h.fr.pl_grid (v := 0) (by omega) (by omega)
  have gk := h.fr.pl_grid k0 k1
  have v0 := h.lt (i := 0) (by omega) (by omega)
  have v1 := h.lt (i := 1) (by omega) (by omega)
  have v2 := h.lt (i := 2 * k) (by omega) (by omega)
  have v3 := h.lt (i := 2 * k + 1) (by omega) (by omega)
  refine ⟨?_, ?_, ?_, ?_⟩
  · unfold dX; omega
  · unfold dY; omega
  · unfold uX; omega
  · unfold uY; omega
theorem VV.read {f : TFramework} {v : List Int} (h : VV f v) {k : Int} (k0 : 0 ≤ k) (k1 : k < f.Graph.Points) :
    idx f.Places k = some (pl f k) ∧ idx f.Places 0 = some (pl f 0) ∧ idx v (w64 (2 * k)) = some (gv v (2 * k)) ∧ idx v 0 = some (gv v 0) ∧ idx v (w64 (w64 (2 * k) + 1)) = some (gv v (2 * k + 1)) ∧ idx v 1 = some (gv v 1) ∧
      w64 ((pl f k).X - (pl f 0).X) = dX f k ∧ w64 ((pl f k).Y - (pl f 0).Y) = dY f k ∧ w64 (gv v (2 * k) - gv v 0) = uX v k ∧ w64 (gv v (2 * k + 1) - gv v 1) = uY v k := by
  have p8 := h.fr.g.p8
  have D := h.dif k0 k1
  have d1 := D.x
  have d2 := D.y
  have d3 := D.s
  have d4 := D.t
  unfold dX at d1
  unfold dY at d2
  unfold uX at d3
  unfold uY at d4
  refine ⟨h.fr.pl_in k0 k1, h.fr.pl_in (by omega) (by omega), ?_, h.in_ (by omega) (by omega), ?_, h.in_ (by omega) (by omega), w64_small (by omega) (by omega), w64_small (by omega) (by omega), w64_small (by omega) (by omega), w64_small (by omega) (by omega)⟩
  · rw [w64_small (by omega) (by omega)]
    exact h.in_ (by omega) (by omega)
  · rw [w64_small (n := 2 * k) (by omega) (by omega), w64_small (by omega) (by omega)]
    exact h.in_ (by omega) (by omega)
theorem sq16 {x : Int} (h : -4 ≤ x ∧ x ≤ 4) : 0 ≤ x * x ∧ x * x ≤ 16 := by
  have : x = -4 ∨ x = -3 ∨ x = -2 ∨ x = -1 ∨ x = 0 ∨ x = 1 ∨ x = 2 ∨ x = 3 ∨ x = 4 := by omega
  rcases this with h | h | h | h | h | h | h | h | h <;> subst h <;> decide
theorem turnI {f : TFramework} {v : List Int} (h : VV f v) : ∃ r, loopM (m_impl_IsTrivialMotion_L1 f v) BIG 0 = some r ∧ (TurnOf f v f.Places.length r ∧ 0 ≤ r.2 ∧ r.2 ≤ 32 ∧ -160000000000 ≤ r.1 ∧ r.1 ≤ 160000000000) := by
  have hp := h.fr.pls
  have p8 := h.fr.g.p8
  have p1 := h.fr.g.p1
  refine loop_inv (fun k s => s = (k : Int) ∧ ∀ j : Nat, j < k → dX f j = 0 ∧ dY f j = 0) _ f.Places.length (by omega) ⟨rfl, fun j hj => by omega⟩ (fun k s hk hs => ?_) (fun s hs => ?_)
  · obtain ⟨rfl, hs⟩ := hs
    obtain ⟨r1, r2, r3, r4, r5, r6, e1, e2, e3, e4⟩ := h.read (k := (k : Int)) (by omega) (by omega)
    have D := h.dif (k := (k : Int)) (by omega) (by omega)
    unfold m_impl_IsTrivialMotion_L1
    simp only [r1, r2, r3, r4, r5, r6, Option.bind_some, e1, e2, e3, e4]
    rw [decide_eq_true (by omega), cond_true]
    by_cases hx : dX f k = 0
    · by_cases hy : dY f k = 0
      · refine .inl ⟨_, ?_, w64_succ (by omega), fun j hj => ?_⟩
        · rw [hx, hy]
          rfl
        · by_cases hjk : j = k
          · subst hjk
            exact ⟨hx, hy⟩
          · exact hs j (by omega)
      · refine .inr ⟨(uY v k * dX f k - uX v k * dY f k, dX f k * dX f k + dY f k * dY f k), ?_, .inr ⟨k, hk, .inr hy, rfl⟩, ?_⟩
        · have m1 := mul4r D.x D.t
          have m2 := mul4r D.y D.s
          have q1 := sq16 D.x
          have q2 := sq16 D.y
          rw [show (dX f (k : Int) != 0) = false by simp [hx], show (dY f (k : Int) != 0) = true by simp [hy]]
          simp only [cond_false, cond_true, Option.bind_some]
          rw [w64_small (n := uY v k * dX f k) (by omega) (by omega), w64_small (n := uX v k * dY f k) (by omega) (by omega), w64_small (n := dX f k * dX f k) (by omega) (by omega), w64_small (n := dY f k * dY f k) (by omega) (by omega), w64_small (n := uY v k * dX f k - uX v k * dY f k) (by omega) (by omega), w64_small (n := dX f k * dX f k + dY f k * dY f k) (by omega) (by omega)]
        · have m1 := mul4r D.x D.t
          have m2 := mul4r D.y D.s
          have q1 := sq16 D.x
          have q2 := sq16 D.y
          simp only
          omega
    · refine .inr ⟨(uY v k * dX f k - uX v k * dY f k, dX f k * dX f k + dY f k * dY f k), ?_, .inr ⟨k, hk, .inl hx, rfl⟩, ?_⟩
      · have m1 := mul4r D.x D.t
        have m2 := mul4r D.y D.s
        have q1 := sq16 D.x
        have q2 := sq16 D.y
        rw [show (dX f (k : Int) != 0) = true by simp [hx]]
        simp only [cond_true, Option.bind_some]
        rw [w64_small (n := uY v k * dX f k) (by omega) (by omega), w64_small (n := uX v k * dY f k) (by omega) (by omega), w64_small (n := dX f k * dX f k) (by omega) (by omega), w64_small (n := dY f k * dY f k) (by omega) (by omega), w64_small (n := uY v k * dX f k - uX v k * dY f k) (by omega) (by omega), w64_small (n := dX f k * dX f k + dY f k * dY f k) (by omega) (by omega)]
      · have m1 := mul4r D.x D.t
        have m2 := mul4r D.y D.s
        have q1 := sq16 D.x
        have q2 := sq16 D.y
        simp only
        omega
  · obtain ⟨rfl, hs⟩ := hs
    refine ⟨(0, 1), by simp [m_impl_IsTrivialMotion_L1], .inl ⟨rfl, hs⟩, by omega, by simp only; omega, by simp only; omega, by simp only; omega⟩
def badSp (f : TFramework) (v : List Int) (r : Int × Int) (k : Nat) : Bool := (uX v k * r.2 != -r.1 * dY f k) || (uY v k * r.2 != r.1 * dX f k)
theorem badSp_false {f : TFramework} {v : List Int} {r : Int × Int} {k : Nat} : badSp f v r k = false ↔ spin f v r k := by
  unfold badSp spin
  rw [Bool.or_eq_false_iff, bne_eq_false_iff_eq, bne_eq_false_iff_eq]
theorem trivI {f : TFramework} {v : List Int} (h0 : SM f.Graph.Bars.length) (h1 : SM f.Places.length) (hv : SM v.length) (hw : vecB f v (2 * f.Graph.Points) = true) :
    ∃ r, TurnOf f v f.Places.length r ∧ m_impl_IsTrivialMotion f v = some (!(List.range' 0 f.Places.length).any (badSp f v r)) := by
  have h := vecB_VV hw
  have hp := h.fr.pls
  have p8 := h.fr.g.p8
  have p1 := h.fr.g.p1
  obtain ⟨r, hr, ht, b1, b2, b3, b4⟩ := turnI h
  refine ⟨r, ht, ?_⟩
  have e := any_loop0 (b := m_impl_IsTrivialMotion_L2 f v r) (badSp f v r) false f.Places.length (by omega) (fun k hk => by
    obtain ⟨r1, r2, r3, r4, r5, r6, e1, e2, e3, e4⟩ := h.read (k := (k : Int)) (by omega) (by omega)
    have D := h.dif (k := (k : Int)) (by omega) (by omega)
    have m1 := mulB D.s (by omega) ⟨b1, b2⟩
    have m2 := mulB D.t (by omega) ⟨b1, b2⟩
    have m3 := mul4r D.y (m := 160000000000) (b := -r.1) (by omega)
    have m4 := mul4r D.x (m := 160000000000) (b := r.1) (by omega)
    unfold m_impl_IsTrivialMotion_L2 badSp
    simp only [r1, r2, r3, r4, r5, r6, Option.bind_some, e1, e2, e3, e4]
    rw [decide_eq_true (by omega), cond_true, w64_small (n := -r.1) (by omega) (by omega), w64_small (n := uX v k * r.2) (by omega) (by omega), w64_small (n := uY v k * r.2) (by omega) (by omega), w64_small (n := -r.1 * dY f k) (by omega) (by omega), w64_small (n := r.1 * dX f k) (by omega) (by omega)]
    cases uX v k * r.2 != -r.1 * dY f k <;> rfl) (by simp [m_impl_IsTrivialMotion_L2])
  unfold m_impl_IsTrivialMotion
  rw [isVelocity_eq f v h0 h1 hv, hw, hr]
  simp only [Option.bind_some, Bool.not_true, cond_false, e]
  cases (List.range' 0 f.Places.length).any (badSp f v r) <;> rfl

/-! ### the reference -/
def badT (f : TFramework) (v : List Int) (a b : Nat) : Bool := chg f v a b != 0 || (eqI [(pl f a).X, (pl f a).Y] [(pl f b).X, (pl f b).Y] && (gv v (2 * a) != gv v (2 * b) || gv v (2 * a + 1) != gv v (2 * b + 1)))
theorem eqI2 {a b c d : Int} : eqI [a, b] [c, d] = true ↔ a = c ∧ b = d := by
  simp [eqI]
theorem badT_false {f : TFramework} {v : List Int} {a b : Nat} : badT f v a b = false ↔ Two f v a b := by
  unfold badT Two
  rw [Bool.or_eq_false_iff, bne_eq_false_iff_eq, Bool.and_eq_false_imp, eqI2, Bool.or_eq_false_iff, bne_eq_false_iff_eq, bne_eq_false_iff_eq]
  unfold dX dY uX uY
  constructor
  · rintro ⟨h1, h2⟩
    refine ⟨h1, fun h3 h4 => ?_⟩
    have := h2 ⟨by omega, by omega⟩
    omega
  · rintro ⟨h1, h2⟩
    refine ⟨h1, fun h3 => ?_⟩
    have := h2 (by omega) (by omega)
    omega
def badFl (f : TFramework) (v : List Int) (a b : Nat) : Bool := (dX f a * dY f b == dY f a * dX f b) && ((dX f b * uX v a + dY f b * uY v a != dX f a * uX v b + dY f a * uY v b) || (dX f b * uY v a - dY f b * uX v a != dX f a * uY v b - dY f a * uX v b))
theorem badFl_false {f : TFramework} {v : List Int} {a b : Nat} : badFl f v a b = false ↔ Flat f v a b := by
  unfold badFl Flat
  rw [Bool.and_eq_false_imp, beq_iff_eq, Bool.or_eq_false_iff, bne_eq_false_iff_eq, bne_eq_false_iff_eq]
theorem trivS_L3 {f : TFramework} {v : List Int} (h0 : SM f.Graph.Bars.length) (h1 : SM f.Places.length) (hv : SM v.length) (hw : vecB f v (2 * f.Graph.Points) = true) :
    loopM (m_spec_IsTrivialMotion_L3 f v) BIG 0 = some (bif (List.range' 0 f.Places.length).any (fun a => (List.range' 0 a).any (badT f v a)) then .inr false else .inl ()) := by
  have h := vecB_VV hw
  have hp := h.fr.pls
  have p8 := h.fr.g.p8
  refine any_loop0 _ false f.Places.length (by omega) (fun a ha => ?_) (by
    unfold m_spec_IsTrivialMotion_L3
    rw [decide_eq_false (by omega)]
    rfl)
  have e := any_loopG (b := m_spec_IsTrivialMotion_L4 f v (a : Int)) (badT f v a) false (a : Int) 0 a (by omega) (by omega) (fun b _ hb => by
    obtain ⟨ra, _, ra2, _, ra3, _⟩ := h.read (k := (a : Int)) (by omega) (by omega)
    obtain ⟨rb, _, rb2, _, rb3, _⟩ := h.read (k := (b : Int)) (by omega) (by omega)
    unfold m_spec_IsTrivialMotion_L4 badT
    simp only [ra, ra2, ra3, rb, rb2, rb3, Option.bind_some, changeS_eq hw h0 h1 hv (a := (a : Int)) (b := (b : Int)) (by omega) (by omega) (by omega) (by omega)]
    rw [decide_eq_true (by omega), cond_true]
    cases chg f v a b != 0
    · cases eqI [(pl f a).X, (pl f a).Y] [(pl f b).X, (pl f b).Y]
      · rfl
      · cases gv v (2 * a) != gv v (2 * b) <;> rfl
    · rfl) (by simp [m_spec_IsTrivialMotion_L4])
  rw [Nat.sub_zero] at e
  unfold m_spec_IsTrivialMotion_L3
  rw [decide_eq_true (by omega), l12Vector_eq f v h0 h1 hv, hw]
  simp only [cond_true, Option.bind_some]
  rw [show (0 : Int) = ((0 : Nat) : Int) from rfl, e]
  cases (List.range' 0 a).any (badT f v a) <;> rfl
theorem flatS {f : TFramework} {v : List Int} (h : VV f v) : m_spec_l12Flat f v = some (!(List.range' 1 (f.Places.length - 1)).any (fun a => (List.range' 1 (a - 1)).any (badFl f v a))) := by
  have hp := h.fr.pls
  have p8 := h.fr.g.p8
  have p1 := h.fr.g.p1
  unfold m_spec_l12Flat
  have e0 := any_loop (b := m_spec_l12Flat_L3 f v) (fun a => (List.range' 1 (a - 1)).any (badFl f v a)) false 1 f.Places.length (by omega) (by omega) (fun a ha1 ha => by
    have e := any_loopG (b := m_spec_l12Flat_L4 f v (a : Int)) (badFl f v a) false (a : Int) 1 a (by omega) (by omega) (fun b hb1 hb => by
      obtain ⟨r1, r2, r3, r4, r5, r6, e1, e2, e3, e4⟩ := h.read (k := (a : Int)) (by omega) (by omega)
      obtain ⟨q1, q2, q3, q4, q5, q6, g1, g2, g3, g4⟩ := h.read (k := (b : Int)) (by omega) (by omega)
      have D := h.dif (k := (a : Int)) (by omega) (by omega)
      have B := h.dif (k := (b : Int)) (by omega) (by omega)
      unfold m_spec_l12Flat_L4 badFl
      simp only [r1, r2, r3, r4, r5, r6, Option.bind_some, e1, e2, e3, e4, q1, q3, q5, g1, g2, g3, g4]
      have m1 := mul4 D.x B.y
      have m2 := mul4 D.y B.x
      have m3 := mul4 B.x D.s
      have m4 := mul4 B.y D.t
      have m5 := mul4 D.x B.s
      have m6 := mul4 D.y B.t
      have m7 := mul4 B.x D.t
      have m8 := mul4 B.y D.s
      have m9 := mul4 D.x B.t
      have m10 := mul4 D.y B.s
      rw [decide_eq_true (by omega), cond_true, w64_small (n := dX f a * dY f b) (by omega) (by omega), w64_small (n := dY f a * dX f b) (by omega) (by omega), w64_small (n := dX f b * uX v a) (by omega) (by omega), w64_small (n := dY f b * uY v a) (by omega) (by omega), w64_small (n := dX f a * uX v b) (by omega) (by omega), w64_small (n := dY f a * uY v b) (by omega) (by omega),
        w64_small (n := dX f b * uY v a) (by omega) (by omega), w64_small (n := dY f b * uX v a) (by omega) (by omega), w64_small (n := dX f a * uY v b) (by omega) (by omega), w64_small (n := dY f a * uX v b) (by omega) (by omega),
        w64_small (n := dX f b * uX v a + dY f b * uY v a) (by omega) (by omega), w64_small (n := dX f a * uX v b + dY f a * uY v b) (by omega) (by omega), w64_small (n := dX f b * uY v a - dY f b * uX v a) (by omega) (by omega), w64_small (n := dX f a * uY v b - dY f a * uX v b) (by omega) (by omega)]
      cases dX f a * dY f b == dY f a * dX f b
      · rfl
      · cases dX f b * uX v a + dY f b * uY v a != dX f a * uX v b + dY f a * uY v b <;> rfl) (by simp [m_spec_l12Flat_L4])
    unfold m_spec_l12Flat_L3
    rw [decide_eq_true (by omega), cond_true, show (1 : Int) = ((1 : Nat) : Int) from rfl, e]
    cases (List.range' 1 (a - 1)).any (badFl f v a) <;> rfl) (by
    unfold m_spec_l12Flat_L3
    rw [decide_eq_false (by omega)]
    rfl)
  rw [show (1 : Int) = ((1 : Nat) : Int) from rfl, e0]
  cases (List.range' 1 (f.Places.length - 1)).any (fun a => (List.range' 1 (a - 1)).any (badFl f v a)) <;> rfl
theorem both_triv (f : TFramework) (v : List Int) (h0 : SM f.Graph.Bars.length) (h1 : SM f.Places.length) (hv : SM v.length) : ∃ w, m_spec_IsTrivialMotion f v = some w ∧ m_impl_IsTrivialMotion f v = some w := by
  cases hw : vecB f v (2 * f.Graph.Points)
  · refine ⟨false, ?_, ?_⟩
    · have e : loopM (m_spec_IsTrivialMotion_L3 f v) BIG 0 = some (.inl ()) := loopM_run (fun _ => 0) 0 (by omega) rfl (fun k hk => by omega) (by
        unfold m_spec_IsTrivialMotion_L3
        rw [l12Vector_eq f v h0 h1 hv, hw]
        cases decide ((0 : Int) < f.Graph.Points) <;> rfl)
      unfold m_spec_IsTrivialMotion
      rw [e, l12Vector_eq f v h0 h1 hv, hw]
      rfl
    · unfold m_impl_IsTrivialMotion
      rw [isVelocity_eq f v h0 h1 hv, hw]
      rfl
  · have h := vecB_VV hw
    obtain ⟨r, ht, hI⟩ := trivI h0 h1 hv hw
    refine ⟨_, ?_, hI⟩
    unfold m_spec_IsTrivialMotion
    rw [trivS_L3 h0 h1 hv hw, l12Vector_eq f v h0 h1 hv, hw, flatS h]
    cases hB : (List.range' 0 f.Places.length).any (badSp f v r)
    · rw [any_range_false] at hB
      have hs : ∀ k : Nat, k < f.Places.length → spin f v r k := fun k hk => badSp_false.1 (hB k (by omega) (by omega))
      rw [any_range_false.2 (fun a _ ha => any_range_false.2 fun b _ hb => badT_false.2 (spin_two ht (hs a (by omega)) (hs b (by omega))).1),
        any_range_false.2 (fun a _ ha => any_range_false.2 fun b _ hb => badFl_false.2 (spin_two ht (hs a (by omega)) (hs b (by omega))).2)]
      rfl
    · cases h2 : (List.range' 0 f.Places.length).any (fun a => (List.range' 0 a).any (badT f v a))
      · cases h3 : (List.range' 1 (f.Places.length - 1)).any (fun a => (List.range' 1 (a - 1)).any (badFl f v a))
        · exfalso
          rw [any_range_false] at h2 h3
          have hs := two_spin ht (fun a b ha hb => badT_false.1 (any_range_false.1 (h2 a (by omega) (by omega)) b (by omega) (by omega))) (fun a b ha hb1 hb => badFl_false.1 (any_range_false.1 (h3 a (by omega) (by omega)) b (by omega) (by omega)))
          rw [any_range] at hB
          obtain ⟨k, _, hk, hb⟩ := hB
          rw [badSp_false.2 (hs k (by omega))] at hb
          cases hb
        · rfl
      · rfl
theorem both_ProvesLoose (t : TTensegrity) (v : List Int) (h0 : t.Framework.Graph.Bars.length ≤ 1048576) (h1 : t.Framework.Places.length ≤ 1048576) (h2 : t.Kinds.length ≤ 1048576) (hv : v.length ≤ 1048576) : ∃ w, m_spec_ProvesLoose t v = some w ∧ m_impl_ProvesLoose t v = some w := by
  obtain ⟨w, hs, hi⟩ := both_triv t.Framework v (by omega) (by omega) (by omega)
  refine ⟨allowed t v && !w, ?_, ?_⟩
  · unfold m_spec_ProvesLoose
    rw [allowedS_eq t v (by omega) (by omega) (by omega) (by omega), hs]
    cases allowed t v <;> rfl
  · unfold m_impl_ProvesLoose
    rw [allowedI_eq t v (by omega) (by omega) (by omega) (by omega), hi]
    cases allowed t v <;> rfl
end Go.Proofs.Ytoedmjkipecloaa
