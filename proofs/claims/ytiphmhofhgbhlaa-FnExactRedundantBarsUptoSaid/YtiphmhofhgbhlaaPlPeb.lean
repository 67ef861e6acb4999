/- Plain: the pebble game: moving, gathering, placing of the program and of the reference agree; what stays true of the pebbles. -/
import Derived.Test.YtiphmhofhgbhlaaPlVel
set_option linter.unusedVariables false
set_option linter.unusedSimpArgs false
set_option linter.unnecessarySimpa false
open Go Go.Fw
namespace Go.Proofs.Ytiphmhofhgbhlaa

/-- two loops in step -/
theorem loop_inv2 {σ σ' τ τ' : Type} {b : σ → Option (σ ⊕ τ)} {b' : σ' → Option (σ' ⊕ τ')} {s : σ} {s' : σ'} (I : Nat → σ → σ' → Prop) (Q : τ → τ' → Prop) (n : Nat) (hn : n ≤ 1099511627776) (h0 : I 0 s s')
    (h : ∀ k s s', k < n → I k s s' → (∃ t t', b s = some (.inl t) ∧ b' s' = some (.inl t') ∧ I (k + 1) t t') ∨ ∃ r r', b s = some (.inr r) ∧ b' s' = some (.inr r') ∧ Q r r')
    (hr : ∀ s s', I n s s' → ∃ r r', b s = some (.inr r) ∧ b' s' = some (.inr r') ∧ Q r r') : ∃ r r', loopM b BIG s = some r ∧ loopM b' BIG s' = some r' ∧ Q r r' := by
  have go : ∀ (j k f : Nat) (s : σ) (s' : σ'), k + j = n → j < f → I k s s' → ∃ r r', loopM b f s = some r ∧ loopM b' f s' = some r' ∧ Q r r' := by
    intro j
    induction j with
    | zero =>
      intro k f s s' hk hf hi
      obtain ⟨f, rfl⟩ : ∃ g, f = g + 1 := ⟨f - 1, by omega⟩
      have : k = n := by omega
      subst this
      obtain ⟨r, r', h1, h2, h3⟩ := hr s s' hi
      exact ⟨r, r', by unfold loopM; rw [h1], by unfold loopM; rw [h2], h3⟩
    | succ j ih =>
      intro k f s s' hk hf hi
      obtain ⟨f, rfl⟩ : ∃ g, f = g + 1 := ⟨f - 1, by omega⟩
      rcases h k s s' (by omega) hi with ⟨t, t', h1, h2, h3⟩ | ⟨r, r', h1, h2, h3⟩
      · obtain ⟨r, r', h4, h5, h6⟩ := ih (k + 1) f t t' (by omega) (by omega) h3
        exact ⟨r, r', by unfold loopM; rw [h1]; exact h4, by unfold loopM; rw [h2]; exact h5, h6⟩
      · exact ⟨r, r', by unfold loopM; rw [h1], by unfold loopM; rw [h2], h3⟩
  exact go n 0 BIG s s' (by omega) (BIG_gt hn) h0

/-- good bars between points -/
structure GB (P : Int) (bars : List TBar) : Prop where
  p1 : 1 ≤ P
  p8 : P ≤ 8
  len : bars.length ≤ 1000
  a0 : ∀ {k : Nat} {x : TBar}, bars[k]? = some x → 0 ≤ x.A
  ab : ∀ {k : Nat} {x : TBar}, bars[k]? = some x → x.A ≠ x.B
  b0 : ∀ {k : Nat} {x : TBar}, bars[k]? = some x → 0 ≤ x.B
  ap : ∀ {k : Nat} {x : TBar}, bars[k]? = some x → x.A < P
  bp : ∀ {k : Nat} {x : TBar}, bars[k]? = some x → x.B < P
theorem VG.gb {g : TGraph} (h : VG g) : GB g.Points g.Bars :=
  ⟨h.p1, h.p8, by have := h.len; omega, h.a0, fun hx => by have := h.ab hx; omega, fun hx => by have := h.a0 hx; have := h.ab hx; omega, fun hx => by have := h.ab hx; have := h.bp hx; omega, h.bp⟩

/-- the bar that was placed as the i-th -/
def pbar (bars : List TBar) (p : TPebbles) (i : Nat) : TBar := ((p.Placed[i]?).bind fun e => bars[e.toNat]?).getD ⟨0, 0⟩
/-- pebbles as they may be in a game with capacity k, when the next bar is m -/
structure PB (P : Int) (bars : List TBar) (k : Int) (m : Nat) (p : TPebbles) : Prop where
  k1 : 1 ≤ k
  k3 : k ≤ 3
  fl : (p.Free.length : Int) = P
  tl : p.Tails.length = p.Placed.length
  pl : p.Placed.length ≤ m
  pr : ∀ {i : Nat} {e : Int}, p.Placed[i]? = some e → 0 ≤ e ∧ e < (bars.length : Int) ∧ e < (m : Int)
  inc : ∀ {i : Nat} {e e' : Int}, p.Placed[i]? = some e → p.Placed[i + 1]? = some e' → e < e'
  ends : ∀ {i : Nat} {t : Int}, p.Tails[i]? = some t → t = (pbar bars p i).A ∨ t = (pbar bars p i).B
  fr : ∀ {v : Nat} {f : Int}, p.Free[v]? = some f → 0 ≤ f ∧ f + (p.Tails.count (v : Int) : Int) = k
section
variable {P : Int} {bars : List TBar} {k : Int} {m : Nat} {p : TPebbles}

theorem PB.bar (hg : GB P bars) (h : PB P bars k m p) {i : Nat} (hi : i < p.Placed.length) : ∃ e, p.Placed[i]? = some e ∧ idx bars e = some (pbar bars p i) ∧ bars[e.toNat]? = some (pbar bars p i) := by
  have h1 := List.getElem?_eq_getElem hi
  obtain ⟨e0, e1, _⟩ := h.pr h1
  refine ⟨_, h1, ?_⟩
  have h2 : bars[p.Placed[i].toNat]? = some (pbar bars p i) := by
    unfold pbar
    rw [h1]
    simp only [Option.bind_some]
    rw [List.getElem?_eq_getElem (by omega)]
    rfl
  refine ⟨?_, h2⟩
  unfold idx
  rw [if_pos e0, h2]
theorem PB.pbar_ok (hg : GB P bars) (h : PB P bars k m p) {i : Nat} (hi : i < p.Placed.length) : 0 ≤ (pbar bars p i).A ∧ 0 ≤ (pbar bars p i).B ∧ (pbar bars p i).A ≠ (pbar bars p i).B ∧ (pbar bars p i).A < P ∧ (pbar bars p i).B < P := by
  obtain ⟨e, _, _, h2⟩ := h.bar hg hi
  exact ⟨hg.a0 h2, hg.b0 h2, hg.ab h2, hg.ap h2, hg.bp h2⟩
theorem other_S (x : TBar) (v : Int) (hp : P ≤ 8) (h : 0 ≤ x.A ∧ 0 ≤ x.B ∧ x.A ≠ x.B ∧ x.A < P ∧ x.B < P) (hv : v = x.A ∨ v = x.B) : m_spec_l4Other x v = some (otherE x v) := by
  unfold m_spec_l4Other otherE
  rw [w64_small (n := x.A + x.B) (by omega) (by omega)]
  rcases hv with rfl | rfl
  · rw [w64_small (by omega) (by omega), beq_self_eq_true, cond_true]
    congr 1
    omega
  · have : (x.A == x.B) = false := by simp; exact h.2.2.1
    rw [w64_small (by omega) (by omega), this, cond_false]
    congr 1
    omega
theorem other_I (x : TBar) (v : Int) : m_impl_Bar_other x v = some (otherE x v) := by
  unfold m_impl_Bar_other otherE
  cases x.A == v <;> rfl
theorem other_ok {x : TBar} {v : Int} (h : 0 ≤ x.A ∧ 0 ≤ x.B ∧ x.A ≠ x.B ∧ x.A < P ∧ x.B < P) (hv : v = x.A ∨ v = x.B) : 0 ≤ otherE x v ∧ otherE x v < P ∧ otherE x v ≠ v ∧ (otherE x v = x.A ∨ otherE x v = x.B) ∧ otherE x (otherE x v) = v := by
  unfold otherE
  rcases hv with rfl | rfl
  · have e : (x.A == x.B) = false := by simp; exact h.2.2.1
    simp only [beq_self_eq_true, cond_true, e, cond_false]
    exact ⟨by omega, by omega, by omega, .inr trivial, trivial⟩
  · have e : (x.A == x.B) = false := by simp; exact h.2.2.1
    simp only [e, cond_false, beq_self_eq_true, cond_true]
    exact ⟨by omega, by omega, by omega, .inl trivial, trivial⟩

/-! ### maps -/
theorem mget_put (m : List (Int × Int)) (k v j : Int) : mget (mput m k v) j = if j = k then v else mget m j := by
  induction m with
  | nil =>
    simp only [mput, mget]
    by_cases h : j = k
    · simp [h]
    · have : (j == k) = false := by simp [h]
      simp [h, this]
  | cons e r ih =>
    unfold mput
    cases hk : k == e.1 with
    | true =>
      rw [beq_iff_eq] at hk
      simp only [cond_true, mget]
      by_cases h : j = k
      · simp [h]
      · have h1 : (j == k) = false := by simp [h]
        have h2 : (j == e.1) = false := by simp [← hk, h]
        simp [h, h1, h2]
    | false =>
      simp only [cond_false, mget, ih]
      by_cases h : j = e.1
      · have h1 : ¬ j = k := fun h2 => by
          rw [← h2, h] at hk
          simp at hk
        simp [h, h1]
        intro h3
        exact absurd (h.trans h3) h1
      · have h1 : (j == e.1) = false := by simp [h]
        simp [h1]
theorem mhas_put (m : List (Int × Int)) (k v j : Int) : mhas (mput m k v) j = (decide (j = k) || mhas m j) := by
  induction m with
  | nil =>
    simp only [mput, mhas]
    by_cases h : j = k
    · simp [h]
    · have : (j == k) = false := by simp [h]
      simp [h, this]
  | cons e r ih =>
    unfold mput
    cases hk : k == e.1 with
    | true =>
      rw [beq_iff_eq] at hk
      simp only [cond_true, mhas]
      by_cases h : j = k
      · simp [h]
      · have h1 : (j == k) = false := by simp [h]
        have h2 : (j == e.1) = false := by simp [← hk, h]
        simp [h, h1, h2]
    | false =>
      simp only [cond_false, mhas, ih]
      cases hj : j == e.1 <;> simp

/-! ### the search -/
/-- what the search has found: the points in the order in which they were met (the first is a), and the bar by which each was met -/
structure BF (P : Int) (bars : List TBar) (p : TPebbles) (a : Int) (q : List Int) (M : List (Int × Int)) (F : List Int) (S : List Bool) : Prop where
  first : q[0]? = some a
  nd : ∀ {i j : Nat} {v : Int}, q[i]? = some v → q[j]? = some v → i = j
  rng : ∀ {i : Nat} {v : Int}, q[i]? = some v → 0 ≤ v ∧ v < P
  sl : (S.length : Int) = P
  fl : (F.length : Int) = P
  cnt : q.length = S.count true
  seen : ∀ {v : Nat} {s : Bool}, S[v]? = some s → (s = true ↔ (v : Int) ∈ q)
  has : ∀ v : Int, mhas M v = true ↔ v ∈ q
  from_ : ∀ {v : Nat} {f : Int}, F[v]? = some f → (v : Int) ∈ q → f = mget M v
  way : ∀ {j : Nat} {v : Int}, 0 < j → q[j]? = some v → ∃ (i j' : Nat) (t : Int), mget M v = i ∧ i < p.Placed.length ∧ j' < j ∧ q[j']? = some t ∧ p.Tails[i]? = some t ∧ otherE (pbar bars p i) t = v

theorem BF.len {a : Int} {q : List Int} {M : List (Int × Int)} {F : List Int} {S : List Bool} (h : BF P bars p a q M F S) : (q.length : Int) ≤ P := by
  have := List.count_le_length (a := true) (l := S)
  have := h.cnt
  have := h.sl
  omega

/-- one more point is met -/
theorem BF.more (hg : GB P bars) (hp : PB P bars k m p) {a : Int} {q : List Int} {M : List (Int × Int)} {F : List Int} {S : List Bool} (h : BF P bars p a q M F S) {i j : Nat} {t u : Int} (hi : i < p.Placed.length) (hj : q[j]? = some t) (ht : p.Tails[i]? = some t) (hu : otherE (pbar bars p i) t = u) (hn : u ∉ q) :
    BF P bars p a (q ++ [u]) (mput M u i) (F.set u.toNat i) (S.set u.toNat true) := by
  have hends := hp.ends ht
  obtain ⟨u0, u1, _, _, _⟩ := other_ok (hp.pbar_ok hg hi) hends
  rw [hu] at u0 u1
  have hjl := (List.getElem?_eq_some_iff.1 hj).1
  have hget : ∀ {r : Nat} {v : Int}, (q ++ [u])[r]? = some v → (r < q.length ∧ q[r]? = some v) ∨ (r = q.length ∧ v = u) := fun {r v} hr => by
    rw [List.getElem?_append] at hr
    split at hr
    · exact .inl ⟨by assumption, hr⟩
    · right
      have hrl : r - q.length = 0 := by
        rcases Nat.eq_zero_or_pos (r - q.length) with h0 | h0
        · exact h0
        · rw [List.getElem?_eq_none (by simp; omega)] at hr
          cases hr
      rw [hrl] at hr
      simp at hr
      exact ⟨by omega, hr.symm⟩
  have hmem : ∀ {r : Nat} {v : Int}, q[r]? = some v → v ∈ q := fun hr => List.mem_of_getElem? hr
  have hsl := h.sl
  have hsu : S[u.toNat]? = some (S[u.toNat]'(by omega)) := List.getElem?_eq_getElem (by omega)
  have hsf : S[u.toNat]'(by omega) = false := by
    cases hb : S[u.toNat]'(by omega) with
    | false => rfl
    | true =>
      rw [hb] at hsu
      have := (h.seen hsu).1 rfl
      rw [Int.toNat_of_nonneg u0] at this
      exact absurd this hn
  refine ⟨?_, ?_, ?_, by simpa using h.sl, by simpa using h.fl, ?_, ?_, ?_, ?_, ?_⟩
  · rw [List.getElem?_append_left (by omega)]
    exact h.first
  · intro r s v hr hs
    rcases hget hr with ⟨h1, h2⟩ | ⟨h1, h2⟩ <;> rcases hget hs with ⟨h3, h4⟩ | ⟨h3, h4⟩
    · exact h.nd h2 h4
    · subst h4; exact absurd (hmem h2) hn
    · subst h2; exact absurd (hmem h4) hn
    · omega
  · intro r v hr
    rcases hget hr with ⟨_, h2⟩ | ⟨_, rfl⟩
    · exact h.rng h2
    · exact ⟨u0, u1⟩
  · have := h.cnt
    rw [List.count_set (by omega), hsf, List.length_append]
    simp
    omega
  · intro v s hv
    rw [List.getElem?_set] at hv
    rw [List.mem_append, List.mem_singleton]
    by_cases huv : u.toNat = v
    · rw [if_pos huv] at hv
      split at hv
      · injection hv with hv
        subst hv
        simp only [true_iff]
        right
        omega
      · cases hv
    · rw [if_neg huv] at hv
      rw [h.seen hv]
      constructor
      · exact .inl
      · rintro (h1 | h1)
        · exact h1
        · omega
  · intro v
    rw [mhas_put, Bool.or_eq_true, decide_eq_true_eq, h.has, List.mem_append, List.mem_singleton]
    exact Or.comm
  · intro v f hv hq
    rw [List.getElem?_set] at hv
    rw [mget_put]
    by_cases huv : u.toNat = v
    · rw [if_pos huv] at hv
      rw [if_pos (by omega)]
      split at hv
      · injection hv with hv
        exact hv.symm
      · cases hv
    · rw [if_neg huv] at hv
      rw [if_neg (by omega)]
      refine h.from_ hv ?_
      rw [List.mem_append, List.mem_singleton] at hq
      rcases hq with h1 | h1
      · exact h1
      · omega
  · intro r v h0 hr
    rcases hget hr with ⟨h1, h2⟩ | ⟨h1, rfl⟩
    · obtain ⟨i', j', t', w1, w2, w3, w4, w5, w6⟩ := h.way h0 h2
      have hvu : v ≠ u := fun e => hn (e ▸ hmem h2)
      exact ⟨i', j', t', by rw [mget_put, if_neg hvu]; exact w1, w2, w3, by rw [List.getElem?_append_left (List.getElem?_eq_some_iff.1 w4).1]; exact w4, w5, w6⟩
    · exact ⟨i, j, t, by rw [mget_put, if_pos rfl], hi, by omega, by rw [List.getElem?_append_left hjl]; exact hj, ht, hu⟩

theorem BF.start (hg : GB P bars) {a : Int} (a0 : 0 ≤ a) (a1 : a < P) {F : List Int} (hf : (F.length : Int) = P) (hF : ∀ {v : Nat} {f : Int}, F[v]? = some f → f = -1) : BF P bars p a [a] (mput [] a (-1)) F ((List.replicate P.toNat false).set a.toNat true) := by
  have hp1 := hg.p1
  have hget : ∀ {r : Nat} {v : Int}, ([a] : List Int)[r]? = some v → r = 0 ∧ v = a := fun {r v} hr => by
    cases r with
    | zero => simp at hr; exact ⟨rfl, hr.symm⟩
    | succ r => simp at hr
  refine ⟨rfl, fun h1 h2 => by rw [(hget h1).1, (hget h2).1], fun hr => by obtain ⟨_, rfl⟩ := hget hr; exact ⟨a0, a1⟩, by simp; omega, hf, ?_, ?_, ?_, ?_, ?_⟩
  · rw [List.count_set (by simp; omega), List.getElem_replicate]
    simp [List.count_replicate]
  · intro v s hv
    rw [List.mem_singleton]
    rw [List.getElem?_set] at hv
    by_cases hav : a.toNat = v
    · rw [if_pos hav] at hv
      split at hv
      · injection hv with hv
        subst hv
        simp only [true_iff]
        omega
      · cases hv
    · rw [if_neg hav, List.getElem?_replicate] at hv
      split at hv
      · injection hv with hv
        subst hv
        simp
        omega
      · cases hv
  · intro v
    rw [mhas_put, List.mem_singleton]
    simp [mhas]
  · intro v f hv hq
    rw [List.mem_singleton] at hq
    rw [mget_put, if_pos hq]
    exact hF hv
  · intro j v h0 hr
    have := (hget hr).1
    omega

/-! ### the way back -/
theorem set_get {α : Type} {l : List α} {i j : Nat} {x y : α} (h : (l.set i x)[j]? = some y) : (i = j ∧ y = x) ∨ (i ≠ j ∧ l[j]? = some y) := by
  rw [List.getElem?_set] at h
  by_cases hij : i = j
  · rw [if_pos hij] at h
    split at h
    · injection h with h
      exact .inl ⟨hij, h.symm⟩
    · cases h
  · rw [if_neg hij] at h
    exact .inr ⟨hij, h⟩
/-- tails while a way is being turned; at: where it has come to; u: where it began -/
structure TW (p : TPebbles) (bars : List TBar) (q : List Int) (M : List (Int × Int)) (u : Int) (j : Nat) (at_ : Int) (T : List Int) : Prop where
  atj : q[j]? = some at_
  tl : T.length = p.Tails.length
  keep : ∀ {r : Nat} {v : Int}, r ≤ j → 0 < r → q[r]? = some v → T[(mget M v).toNat]? = p.Tails[(mget M v).toNat]?
  ends : ∀ {i : Nat} {t : Int}, T[i]? = some t → t = (pbar bars p i).A ∨ t = (pbar bars p i).B
  cnt : ∀ v : Int, (T.count v : Int) = p.Tails.count v + (if v = u then 1 else 0) - (if v = at_ then 1 else 0)
/-- one step back -/
theorem TW.step (hg : GB P bars) (hp : PB P bars k m p) {a : Int} {q : List Int} {M : List (Int × Int)} {F : List Int} {S : List Bool} (h : BF P bars p a q M F S) {u at_ : Int} {j : Nat} {T : List Int} (hT : TW p bars q M u j at_ T) (hne : at_ ≠ a) :
    ∃ (i j' : Nat) (t : Int), mget M at_ = i ∧ i < p.Placed.length ∧ j' < j ∧ T[i]? = some t ∧ otherE (pbar bars p i) at_ = t ∧ TW p bars q M u j' t (T.set i at_) := by
  have hj0 : 0 < j := by
    rcases Nat.eq_zero_or_pos j with h0 | h0
    · subst h0
      have := h.first.symm.trans hT.atj
      injection this with this
      exact absurd this.symm hne
    · exact h0
  obtain ⟨i, j', t, w1, w2, w3, w4, w5, w6⟩ := h.way hj0 hT.atj
  have hk := hT.keep (Nat.le_refl _) hj0 hT.atj
  rw [w1, Int.toNat_natCast, w5] at hk
  obtain ⟨_, _, o3, o4, o5⟩ := other_ok (hp.pbar_ok hg w2) (hp.ends w5)
  rw [w6] at o3 o4 o5
  have hil := (List.getElem?_eq_some_iff.1 hk).1
  have hig : T[i] = t := by
    rw [List.getElem?_eq_getElem hil] at hk
    injection hk
  refine ⟨i, j', t, w1, w2, w3, hk, o5, w4, by simpa using hT.tl, ?_, ?_, ?_⟩
  · intro r v hr h0 hq
    have hri : (mget M v).toNat ≠ i := fun e => by
      obtain ⟨i2, _, t2, x1, x2, _, _, x5, x6⟩ := h.way h0 hq
      rw [x1, Int.toNat_natCast] at e
      subst e
      rw [w5] at x5
      injection x5 with x5
      subst x5
      have : v = at_ := x6.symm.trans w6
      subst this
      have := h.nd hq hT.atj
      omega
    rw [List.getElem?_set, if_neg (Ne.symm hri)]
    exact hT.keep (by omega) h0 hq
  · intro i2 t2 h2
    rcases set_get h2 with ⟨rfl, rfl⟩ | ⟨_, h3⟩
    · exact o4
    · exact hT.ends h3
  · intro v
    rw [List.count_set hil, hig]
    have hc := hT.cnt v
    have hpos : t = v → 0 < T.count v := fun e => by
      subst e
      exact List.count_pos_iff.2 (List.mem_of_getElem? hk)
    by_cases h1 : v = t
    · subst h1
      have := hpos rfl
      have h3 : ¬ v = at_ := fun e => o3 e.symm
      have h4 : (at_ == v) = false := by simp; exact fun e => h3 e.symm
      simp only [beq_self_eq_true, if_true, h4, Bool.false_eq_true, if_false, if_neg h3] at hc ⊢
      omega
    · have h2 : (t == v) = false := by simp; exact fun e => h1 e.symm
      by_cases h3 : v = at_
      · subst h3
        simp only [h2, Bool.false_eq_true, if_false, beq_self_eq_true, if_true, if_neg h1] at hc ⊢
        omega
      · have h4 : (at_ == v) = false := by simp; exact fun e => h3 e.symm
        simp only [h2, h4, Bool.false_eq_true, if_false, if_neg h1, if_neg h3] at hc ⊢
        omega
/-- both turn a way in the same manner -/
theorem turn_both (hg : GB P bars) (hp : PB P bars k m p) {g : TGraph} (hgp : g.Points = P) (hgb : g.Bars = bars) {a : Int} {q : List Int} {M : List (Int × Int)} {F : List Int} {S : List Bool} (h : BF P bars p a q M F S) {u : Int} {j : Nat} (hu : q[j]? = some u) (r1 : TPebbles) (x2 x4 : Int) (s1 : Int × List (Int × Int) × List Int) (hM : mput s1.2.1 u s1.1 = M) :
    ∃ T, loopM (m_spec_l4Shift_L1 g p F a u r1 x2 x4) BIG (u, p.Tails) = some (((r1.Free.set u.toNat (w64 (x2 - 1))).set a.toNat (w64 (x4 + 1))), T, r1.Placed) ∧
      loopM (m_impl_moveTo_L11 p a s1 u x2 x4) BIG (u, p.Tails) = some (((p.Free.set u.toNat (w64 (x2 - 1))).set a.toNat (w64 (x4 + 1))), T) ∧ TW p bars q M u 0 a T := by
  have hql := h.len
  have h8 := hg.p8
  have hjl := (List.getElem?_eq_some_iff.1 hu).1
  obtain ⟨r, r', e1, e2, T, rfl, rfl, hT⟩ := loop_inv2 (b := m_spec_l4Shift_L1 g p F a u r1 x2 x4) (b' := m_impl_moveTo_L11 p a s1 u x2 x4) (s := (u, p.Tails)) (s' := (u, p.Tails))
    (fun n s s' => ∃ (j' : Nat) (at_ : Int) (T : List Int), s = (at_, T) ∧ s' = (at_, T) ∧ j' + n ≤ j ∧ TW p bars q M u j' at_ T)
    (fun r r' => ∃ T, r = (((r1.Free.set u.toNat (w64 (x2 - 1))).set a.toNat (w64 (x4 + 1))), T, r1.Placed) ∧ r' = (((p.Free.set u.toNat (w64 (x2 - 1))).set a.toNat (w64 (x4 + 1))), T) ∧ TW p bars q M u 0 a T) (j + 1) (by omega)
    ⟨j, u, p.Tails, rfl, rfl, by omega, hu, rfl, fun _ _ _ => rfl, hp.ends, fun v => by omega⟩ (fun n s s' hn hs => by
      obtain ⟨j', at_, T, rfl, rfl, hj', hT⟩ := hs
      by_cases hat : at_ = a
      · subst hat
        have hj0 : j' = 0 := h.nd hT.atj h.first
        subst hj0
        refine .inr ⟨_, _, ?_, ?_, T, rfl, rfl, hT⟩
        · unfold m_spec_l4Shift_L1
          simp
        · unfold m_impl_moveTo_L11
          simp
      · obtain ⟨i, j2, t, w1, w2, w3, w4, w5, w6⟩ := hT.step hg hp h hat
        have hb : (at_ != a) = true := by simp; exact hat
        obtain ⟨e, hpe, hbe, hbe2⟩ := hp.bar hg w2
        have hpi : idx p.Placed (i : Int) = some e := idx_of hpe
        have hrng := h.rng hT.atj
        have hFl := h.fl
        have hFat : idx F at_ = some (i : Int) := by
          have hl : F[at_.toNat]? = some (F[at_.toNat]'(by omega)) := List.getElem?_eq_getElem (by omega)
          have := h.from_ hl (by rw [Int.toNat_of_nonneg hrng.1]; exact List.mem_of_getElem? hT.atj)
          rw [Int.toNat_of_nonneg hrng.1, w1] at this
          unfold idx
          rw [if_pos hrng.1, hl, this]
        have hTi : idx T (i : Int) = some t := idx_of w4
        refine .inl ⟨(t, T.set i at_), (t, T.set i at_), ?_, ?_, j2, t, T.set i at_, rfl, rfl, by omega, w6⟩
        · have ho : m_spec_l4Other (pbar bars p i) at_ = some t := by
            rw [other_S (P := P) _ _ h8 (hp.pbar_ok hg w2) ?_, w5]
            obtain ⟨_, _, _, o4, _⟩ := other_ok (hp.pbar_ok hg w2) (hT.ends w4)
            have hte := hT.ends w4
            unfold otherE at w5
            by_cases hA : (pbar bars p i).A = at_
            · exact .inl hA.symm
            · have : ((pbar bars p i).A == at_) = false := by simp [hA]
              rw [this, cond_false] at w5
              -- the other end of at_ is A: at_ is B
              obtain ⟨i3, _, t3, z1, z2, _, _, z5, z6⟩ := h.way (j := j') (by
                rcases Nat.eq_zero_or_pos j' with h0 | h0
                · subst h0
                  have := h.first.symm.trans hT.atj
                  injection this with this
                  exact absurd this.symm hat
                · exact h0) hT.atj
              rw [w1] at z1
              have : i3 = i := by omega
              subst this
              obtain ⟨_, _, _, o4', _⟩ := other_ok (hp.pbar_ok hg z2) (hp.ends z5)
              rw [z6] at o4'
              exact o4'
          unfold m_spec_l4Shift_L1
          simp only [hb, cond_true, hFat, hpi, hgb, hbe, ho, hTi, Option.bind_some, Int.toNat_natCast]
        · unfold m_impl_moveTo_L11
          simp only [hb, cond_true, hM, w1, hTi, Option.bind_some, Int.toNat_natCast]) (fun s s' hs => by
      obtain ⟨j', at_, T, rfl, rfl, hj', hT⟩ := hs
      omega)
  exact ⟨T, e1, e2, hT⟩

/-- the pebbles when one has come from u to a -/
theorem PB.moved (hg : GB P bars) (hp : PB P bars k m p) {q : List Int} {M : List (Int × Int)} {u a : Int} {T : List Int} {fu fa : Int} (hT : TW p bars q M u 0 a T) (u0 : 0 ≤ u) (a0 : 0 ≤ a) (hua : u ≠ a) (hfu : p.Free[u.toNat]? = some fu) (hfa : p.Free[a.toNat]? = some fa) (hpos : 0 < fu) :
    PB P bars k m ⟨(p.Free.set u.toNat (fu - 1)).set a.toNat (fa + 1), T, p.Placed⟩ := by
  refine ⟨hp.k1, hp.k3, by simpa using hp.fl, hT.tl.trans hp.tl, hp.pl, hp.pr, hp.inc, hT.ends, ?_⟩
  intro v f hv
  change 0 ≤ f ∧ f + (T.count (v : Int) : Int) = k
  have hc := hT.cnt (v : Int)
  rcases set_get hv with ⟨h1, rfl⟩ | ⟨h1, h2⟩
  · have hva : (v : Int) = a := by omega
    have hf := hp.fr hfa
    rw [Int.toNat_of_nonneg a0] at hf
    rw [hva, if_neg (Ne.symm hua), if_pos rfl] at hc
    rw [hva]
    omega
  · rcases set_get h2 with ⟨h3, rfl⟩ | ⟨h3, h4⟩
    · have hvu : (v : Int) = u := by omega
      have hf := hp.fr hfu
      rw [Int.toNat_of_nonneg u0] at hf
      rw [hvu, if_pos rfl, if_neg hua] at hc
      rw [hvu]
      omega
    · have hf := hp.fr h4
      rw [if_neg (show ¬ (v : Int) = u by omega), if_neg (show ¬ (v : Int) = a by omega)] at hc
      omega
end
end Go.Proofs.Ytiphmhofhgbhlaa
