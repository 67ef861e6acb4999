/- Parts of a proof that a law of the program holds: what the program computes, and why that is right. -/
import Derived.Test.YteognanhfpbghaaProg
import Derived.Test.YteognanhfpbghaaZFnPlaces1
section
set_option linter.unusedVariables false
set_option linter.unusedSimpArgs false
set_option linter.unnecessarySimpa false
open Go Go.Fw
namespace Go.Proofs.Yteognanhfpbghaa
theorem loop_inv2 {σ σ' τ τ' : Type} {b : σ → Option (σ ⊕ τ)} {b' : σ' → Option (σ' ⊕ τ')} {s : σ} {s' : σ'} (I : Nat → σ → σ' → Prop) (Q : τ → τ' → Prop) (n : Nat) (hn : n ≤ 1099511627776) (h0 : I 0 s s')
    (h : ∀ k s s', k < n → I k s s' → (∃ t t', b s = some (.inl t) ∧ b' s' = some (.inl t') ∧ I (k + 1) t t') ∨ ∃ r r', b s = some (.inr r) ∧ b' s' = some (.inr r') ∧ Q r r')
    (hr : ∀ s s', I n s s' → ∃ r r', b s = some (.inr r) ∧ b' s' = some (.inr r') ∧ Q r r') : ∃ r r', loopM b BIG s = some r ∧ loopM b' BIG s' = some r' ∧ Q r r' := by
  have go : ∀ (j k f : Nat) (s : σ) (s' : σ'), k + j = n → j < f → I k s s' → ∃ r r', loopM b f s = some r ∧ loopM b' f s' = some r' ∧ Q r r' := by
    intro j
    induction j with
    | zero =>
      intro k f s s' hk hf hi
      obtain ⟨f, rfl⟩ : ∃ g, f = g + 1 := ⟨f - 1, by omega⟩
      have : k = n := by omega
      subst this
      obtain ⟨r, r', h1, h2, h3⟩ := hr s s' hi
      exact ⟨r, r', by unfold loopM; rw [h1], by unfold loopM; rw [h2], h3⟩
    | succ j ih =>
      intro k f s s' hk hf hi
      obtain ⟨f, rfl⟩ : ∃ g, f = g + 1 := ⟨f - 1, by omega⟩
      rcases h k s s' (by omega) hi with ⟨t, t', h1, h2, h3⟩ | ⟨r, r', h1, h2, h3⟩
      · obtain ⟨r, r', h4, h5, h6⟩ := ih (k + 1) f t t' (by omega) (by omega) h3
        exact ⟨r, r', by unfold loopM; rw [h1]; exact h4, by unfold loopM; rw [h2]; exact h5, h6⟩
      · exact ⟨r, r', by unfold loopM; rw [h1], by unfold loopM; rw [h2], h3⟩
  exact go n 0 BIG s s' (by omega) (BIG_gt hn) h0
structure GB (P : Int) (bars : List TBar) : Prop where
  p1 : 1 ≤ P
  p8 : P ≤ 8
  len : bars.length ≤ 1000
  a0 : ∀ {k : Nat} {x : TBar}, bars[k]? = some x → 0 ≤ x.A
  ab : ∀ {k : Nat} {x : TBar}, bars[k]? = some x → x.A ≠ x.B
  b0 : ∀ {k : Nat} {x : TBar}, bars[k]? = some x → 0 ≤ x.B
  ap : ∀ {k : Nat} {x : TBar}, bars[k]? = some x → x.A < P
  bp : ∀ {k : Nat} {x : TBar}, bars[k]? = some x → x.B < P
theorem VG.gb {g : TGraph} (h : VG g) : GB g.Points g.Bars :=
  ⟨h.p1, h.p8, by have := h.len; omega, h.a0, fun hx => by have := h.ab hx; omega, fun hx => by have := h.a0 hx; have := h.ab hx; omega, fun hx => by have := h.ab hx; have := h.bp hx; omega, h.bp⟩
def pbar (bars : List TBar) (p : TPebbles) (i : Nat) : TBar := ((p.Placed[i]?).bind fun e => bars[e.toNat]?).getD ⟨0, 0⟩
structure PB (P : Int) (bars : List TBar) (k : Int) (m : Nat) (p : TPebbles) : Prop where
  k1 : 1 ≤ k
  k3 : k ≤ 3
  fl : (p.Free.length : Int) = P
  tl : p.Tails.length = p.Placed.length
  pl : p.Placed.length ≤ m
  pr : ∀ {i : Nat} {e : Int}, p.Placed[i]? = some e → 0 ≤ e ∧ e < (bars.length : Int) ∧ e < (m : Int)
  inc : ∀ {i : Nat} {e e' : Int}, p.Placed[i]? = some e → p.Placed[i + 1]? = some e' → e < e'
  ends : ∀ {i : Nat} {t : Int}, p.Tails[i]? = some t → t = (pbar bars p i).A ∨ t = (pbar bars p i).B
  fr : ∀ {v : Nat} {f : Int}, p.Free[v]? = some f → 0 ≤ f ∧ f + (p.Tails.count (v : Int) : Int) = k
section
variable {P : Int} {bars : List TBar} {k : Int} {m : Nat} {p : TPebbles}
theorem PB.bar (hg : GB P bars) (h : PB P bars k m p) {i : Nat} (hi : i < p.Placed.length) : ∃ e, p.Placed[i]? = some e ∧ idx bars e = some (pbar bars p i) ∧ bars[e.toNat]? = some (pbar bars p i) := by
  have h1 := List.getElem?_eq_getElem hi
  obtain ⟨e0, e1, _⟩ := h.pr h1
  refine ⟨_, h1, ?_⟩
  have h2 : bars[p.Placed[i].toNat]? = some (pbar bars p i) := by
    unfold pbar
    rw [h1]
    simp only [Option.bind_some]
    rw [List.getElem?_eq_getElem (by omega)]
    rfl
  refine ⟨?_, h2⟩
  unfold idx
  rw [if_pos e0, h2]
theorem PB.pbar_ok (hg : GB P bars) (h : PB P bars k m p) {i : Nat} (hi : i < p.Placed.length) : 0 ≤ (pbar bars p i).A ∧ 0 ≤ (pbar bars p i).B ∧ (pbar bars p i).A ≠ (pbar bars p i).B ∧ (pbar bars p i).A < P ∧ (pbar bars p i).B < P := by
  obtain ⟨e, _, _, h2⟩ := h.bar hg hi
  exact ⟨hg.a0 h2, hg.b0 h2, hg.ab h2, hg.ap h2, hg.bp h2⟩
theorem other_S (x : TBar) (v : Int) (hp : P ≤ 8) (h : 0 ≤ x.A ∧ 0 ≤ x.B ∧ x.A ≠ x.B ∧ x.A < P ∧ x.B < P) (hv : v = x.A ∨ v = x.B) : m_spec_l4Other x v = some (otherE x v) := by
  unfold m_spec_l4Other otherE
  rw [w64_small (n := x.A + x.B) (by omega) (by omega)]
  rcases hv with rfl | rfl
  · rw [w64_small (by omega) (by omega), beq_self_eq_true, cond_true]
    congr 1
    omega
  · have : (x.A == x.B) = false := by simp; exact h.2.2.1
    rw [w64_small (by omega) (by omega), this, cond_false]
    congr 1
    omega
theorem other_I (x : TBar) (v : Int) : m_impl_Bar_other x v = some (otherE x v) := by
  unfold m_impl_Bar_other otherE
  cases x.A == v <;> rfl
theorem other_ok {x : TBar} {v : Int} (h : 0 ≤ x.A ∧ 0 ≤ x.B ∧ x.A ≠ x.B ∧ x.A < P ∧ x.B < P) (hv : v = x.A ∨ v = x.B) : 0 ≤ otherE x v ∧ otherE x v < P ∧ otherE x v ≠ v ∧ (otherE x v = x.A ∨ otherE x v = x.B) ∧ otherE x (otherE x v) = v := by
  unfold otherE
  rcases hv with rfl | rfl
  · have e : (x.A == x.B) = false := by simp; exact h.2.2.1
    simp only [beq_self_eq_true, cond_true, e, cond_false]
    exact ⟨by omega, by omega, by omega, .inr trivial, trivial⟩
  · have e : (x.A == x.B) = false := by simp; exact h.2.2.1
    simp only [e, cond_false, beq_self_eq_true, cond_true]
    exact ⟨by omega, by omega, by omega, .inl trivial, trivial⟩
theorem mget_put (m : List (Int × Int)) (k v j : Int) : mget (mput m k v) j = if j = k then v else mget m j := by
  induction m with
  | nil =>
    simp only [mput, mget]
    by_cases h : j = k
    · simp [h]
    · have : (j == k) = false := by simp [h]
      simp [h, this]
  | cons e r ih =>
    unfold mput
    cases hk : k == e.1 with
    | true =>
      rw [beq_iff_eq] at hk
      simp only [cond_true, mget]
      by_cases h : j = k
      · simp [h]
      · have h1 : (j == k) = false := by simp [h]
        have h2 : (j == e.1) = false := by simp [← hk, h]
        simp [h, h1, h2]
    | false =>
      simp only [cond_false, mget, ih]
      by_cases h : j = e.1
      · have h1 : ¬ j = k := fun h2 => by
          rw [← h2, h] at hk
          simp at hk
        simp [h, h1]
        intro h3
        exact absurd (h.trans h3) h1
      · have h1 : (j == e.1) = false := by simp [h]
        simp [h1]
theorem mhas_put (m : List (Int × Int)) (k v j : Int) : mhas (mput m k v) j = (decide (j = k) || mhas m j) := by
  induction m with
  | nil =>
    simp only [mput, mhas]
    by_cases h : j = k
    · simp [h]
    · have : (j == k) = false := by simp [h]
      simp [h, this]
  | cons e r ih =>
    unfold mput
    cases hk : k == e.1 with
    | true =>
      rw [beq_iff_eq] at hk
      simp only [cond_true, mhas]
      by_cases h : j = k
      · simp [h]
      · have h1 : (j == k) = false := by simp [h]
        have h2 : (j == e.1) = false := by simp [← hk, h]
        simp [h, h1, h2]
    | false =>
      simp only [cond_false, mhas, ih]
      cases hj : j == e.1 <;> simp
structure BF (P : Int) (bars : List TBar) (p : TPebbles) (a : Int) (q : List Int) (M : List (Int × Int)) (F : List Int) (S : List Bool) : Prop where
  first : q[0]? = some a
  nd : ∀ {i j : Nat} {v : Int}, q[i]? = some v → q[j]? = some v → i = j
  rng : ∀ {i : Nat} {v : Int}, q[i]? = some v → 0 ≤ v ∧ v < P
  sl : (S.length : Int) = P
  fl : (F.length : Int) = P
  cnt : q.length = S.count true
  seen : ∀ {v : Nat} {s : Bool}, S[v]? = some s → (s = true ↔ (v : Int) ∈ q)
  has : ∀ v : Int, mhas M v = true ↔ v ∈ q
  from_ : ∀ {v : Nat} {f : Int}, F[v]? = some f → (v : Int) ∈ q → f = mget M v
  way : ∀ {j : Nat} {v : Int}, 0 < j → q[j]? = some v → ∃ (i j' : Nat) (t : Int), mget M v = i ∧ i < p.Placed.length ∧ j' < j ∧ q[j']? = some t ∧ p.Tails[i]? = some t ∧ otherE (pbar bars p i) t = v
theorem BF.len {a : Int} {q : List Int} {M : List (Int × Int)} {F : List Int} {S : List Bool} (h : BF P bars p a q M F S) : (q.length : Int) ≤ P := by
  have := List.count_le_length (a := true) (l := S)
  have := h.cnt
  have := h.sl
  omega
theorem BF.more (hg : GB P bars) (hp : PB P bars k m p) {a : Int} {q : List Int} {M : List (Int × Int)} {F : List Int} {S : List Bool} (h : BF P bars p a q M F S) {i j : Nat} {t u : Int} (hi : i < p.Placed.length) (hj : q[j]? = some t) (ht : p.Tails[i]? = some t) (hu : otherE (pbar bars p i) t = u) (hn : u ∉ q) :
    BF P bars p a (q ++ [u]) (mput M u i) (F.set u.toNat i) (S.set u.toNat true) := by
  have hends := hp.ends ht
  obtain ⟨u0, u1, _, _, _⟩ := other_ok (hp.pbar_ok hg hi) hends
  rw [hu] at u0 u1
  have hjl := (List.getElem?_eq_some_iff.1 hj).1
  have hget : ∀ {r : Nat} {v : Int}, (q ++ [u])[r]? = some v → (r < q.length ∧ q[r]? = some v) ∨ (r = q.length ∧ v = u) := fun {r v} hr => by
    rw [List.getElem?_append] at hr
    split at hr
    · exact .inl ⟨by assumption, hr⟩
    · right
      have hrl : r - q.length = 0 := by
        rcases Nat.eq_zero_or_pos (r - q.length) with h0 | h0
        · exact h0
        · rw [List.getElem?_eq_none (by simp; omega)] at hr
          cases hr
      rw [hrl] at hr
      simp at hr
      exact ⟨by omega, hr.symm⟩
  have hmem : ∀ {r : Nat} {v : Int}, q[r]? = some v → v ∈ q := fun hr => List.mem_of_getElem? hr
  have hsl := h.sl
  have hsu : S[u.toNat]? = some (S[u.toNat]'(by omega)) := List.getElem?_eq_getElem (by omega)
  have hsf : S[u.toNat]'(by omega) = false := by
    cases hb : S[u.toNat]'(by omega) with
    | false => rfl
    | true =>
      rw [hb] at hsu
      have := (h.seen hsu).1 rfl
      rw [Int.toNat_of_nonneg u0] at this
      exact absurd this hn
  refine ⟨?_, ?_, ?_, by simpa using h.sl, by simpa using h.fl, ?_, ?_, ?_, ?_, ?_⟩
  · rw [List.getElem?_append_left (by omega)]
    exact h.first
  · intro r s v hr hs
    rcases hget hr with ⟨h1, h2⟩ | ⟨h1, h2⟩ <;> rcases hget hs with ⟨h3, h4⟩ | ⟨h3, h4⟩
    · exact h.nd h2 h4
    · subst h4; exact absurd (hmem h2) hn
    · subst h2; exact absurd (hmem h4) hn
    · omega
  · intro r v hr
    rcases hget hr with ⟨_, h2⟩ | ⟨_, rfl⟩
    · exact h.rng h2
    · exact ⟨u0, u1⟩
  · have := h.cnt
    rw [List.count_set (by omega), hsf, List.length_append]
    simp
    omega
  · intro v s hv
    rw [List.getElem?_set] at hv
    rw [List.mem_append, List.mem_singleton]
    by_cases huv : u.toNat = v
    · rw [if_pos huv] at hv
      split at hv
      · injection hv with hv
        subst hv
        simp only [true_iff]
        right
        omega
      · cases hv
    · rw [if_neg huv] at hv
      rw [h.seen hv]
      constructor
      · exact .inl
      · rintro (h1 | h1)
        · exact h1
        · omega
  · intro v
    rw [mhas_put, Bool.or_eq_true, decide_eq_true_eq, h.has, List.mem_append, List.mem_singleton]
    exact Or.comm
  · intro v f hv hq
    rw [List.getElem?_set] at hv
    rw [mget_put]
    by_cases huv : u.toNat = v
    · rw [if_pos huv] at hv
      rw [if_pos (by omega)]
      split at hv
      · injection hv with hv
        exact hv.symm
      · cases hv
    · rw [if_neg huv] at hv
      rw [if_neg (by omega)]
      refine h.from_ hv ?_
      rw [List.mem_append, List.mem_singleton] at hq
      rcases hq with h1 | h1
      · exact h1
      · omega
  · intro r v h0 hr
    rcases hget hr with ⟨h1, h2⟩ | ⟨h1, rfl⟩
    · obtain ⟨i', j', t', w1, w2, w3, w4, w5, w6⟩ := h.way h0 h2
      have hvu : v ≠ u := fun e => hn (e ▸ hmem h2)
      exact ⟨i', j', t', by rw [mget_put, if_neg hvu]; exact w1, w2, w3, by rw [List.getElem?_append_left (List.getElem?_eq_some_iff.1 w4).1]; exact w4, w5, w6⟩
    · exact ⟨i, j, t, by rw [mget_put, if_pos rfl], hi, by omega, by rw [List.getElem?_append_left hjl]; exact hj, ht, hu⟩
theorem BF.start (hg : GB P bars) {a : Int} (a0 : 0 ≤ a) (a1 : a < P) {F : List Int} (hf : (F.length : Int) = P) (hF : ∀ {v : Nat} {f : Int}, F[v]? = some f → f = -1) : BF P bars p a [a] (mput [] a (-1)) F ((List.replicate P.toNat false).set a.toNat true) := by
  have hp1 := hg.p1
  have hget : ∀ {r : Nat} {v : Int}, ([a] : List Int)[r]? = some v → r = 0 ∧ v = a := fun {r v} hr => by
    cases r with
    | zero => simp at hr; exact ⟨rfl, hr.symm⟩
    | succ r => simp at hr
  refine ⟨rfl, fun h1 h2 => by rw [(hget h1).1, (hget h2).1], fun hr => by obtain ⟨_, rfl⟩ := hget hr; exact ⟨a0, a1⟩, by simp; omega, hf, ?_, ?_, ?_, ?_, ?_⟩
  · rw [List.count_set (by simp; omega), List.getElem_replicate]
    simp [List.count_replicate]
  · intro v s hv
    rw [List.mem_singleton]
    rw [List.getElem?_set] at hv
    by_cases hav : a.toNat = v
    · rw [if_pos hav] at hv
      split at hv
      · injection hv with hv
        subst hv
        simp only [true_iff]
        omega
      · cases hv
    · rw [if_neg hav, List.getElem?_replicate] at hv
      split at hv
      · injection hv with hv
        subst hv
        simp
        omega
      · cases hv
  · intro v
    rw [mhas_put, List.mem_singleton]
    simp [mhas]
  · intro v f hv hq
    rw [List.mem_singleton] at hq
    rw [mget_put, if_pos hq]
    exact hF hv
  · intro j v h0 hr
    have := (hget hr).1
    omega
theorem set_get {α : Type} {l : List α} {i j : Nat} {x y : α} (h : (l.set i x)[j]? = some y) : (i = j ∧ y = x) ∨ (i ≠ j ∧ l[j]? = some y) := by
  rw [List.getElem?_set] at h
  by_cases hij : i = j
  · rw [if_pos hij] at h
    split at h
    · injection h with h
      exact .inl ⟨hij, h.symm⟩
    · cases h
  · rw [if_neg hij] at h
    exact .inr ⟨hij, h⟩
structure TW (p : TPebbles) (bars : List TBar) (q : List Int) (M : List (Int × Int)) (u : Int) (j : Nat) (at_ : Int) (T : List Int) : Prop where
  atj : q[j]? = some at_
  tl : T.length = p.Tails.length
  keep : ∀ {r : Nat} {v : Int}, r ≤ j → 0 < r → q[r]? = some v → T[(mget M v).toNat]? = p.Tails[(mget M v).toNat]?
  ends : ∀ {i : Nat} {t : Int}, T[i]? = some t → t = (pbar bars p i).A ∨ t = (pbar bars p i).B
  cnt : ∀ v : Int, (T.count v : Int) = p.Tails.count v + (if v = u then 1 else 0) - (if v = at_ then 1 else 0)
theorem TW.step (hg : GB P bars) (hp : PB P bars k m p) {a : Int} {q : List Int} {M : List (Int × Int)} {F : List Int} {S : List Bool} (h : BF P bars p a q M F S) {u at_ : Int} {j : Nat} {T : List Int} (hT : TW p bars q M u j at_ T) (hne : at_ ≠ a) :
    ∃ (i j' : Nat) (t : Int), mget M at_ = i ∧ i < p.Placed.length ∧ j' < j ∧ T[i]? = some t ∧ otherE (pbar bars p i) at_ = t ∧ TW p bars q M u j' t (T.set i at_) := by
  have hj0 : 0 < j := by
    rcases Nat.eq_zero_or_pos j with h0 | h0
    · subst h0
      have := h.first.symm.trans hT.atj
      injection this with this
      exact absurd this.symm hne
    · exact h0
  obtain ⟨i, j', t, w1, w2, w3, w4, w5, w6⟩ := h.way hj0 hT.atj
  have hk := hT.keep (Nat.le_refl _) hj0 hT.atj
  rw [w1, Int.toNat_natCast, w5] at hk
  obtain ⟨_, _, o3, o4, o5⟩ := other_ok (hp.pbar_ok hg w2) (hp.ends w5)
  rw [w6] at o3 o4 o5
  have hil := (List.getElem?_eq_some_iff.1 hk).1
  have hig : T[i] = t := by
    rw [List.getElem?_eq_getElem hil] at hk
    injection hk
  refine ⟨i, j', t, w1, w2, w3, hk, o5, w4, by simpa using hT.tl, ?_, ?_, ?_⟩
  · intro r v hr h0 hq
    have hri : (mget M v).toNat ≠ i := fun e => by
      obtain ⟨i2, _, t2, x1, x2, _, _, x5, x6⟩ := h.way h0 hq
      rw [x1, Int.toNat_natCast] at e
      subst e
      rw [w5] at x5
      injection x5 with x5
      subst x5
      have : v = at_ := x6.symm.trans w6
      subst this
      have := h.nd hq hT.atj
      omega
    rw [List.getElem?_set, if_neg (Ne.symm hri)]
    exact hT.keep (by omega) h0 hq
  · intro i2 t2 h2
    rcases set_get h2 with ⟨rfl, rfl⟩ | ⟨_, h3⟩
    · exact o4
    · exact hT.ends h3
  · intro v
    rw [List.count_set hil, hig]
    have hc := hT.cnt v
    have hpos : t = v → 0 < T.count v := fun e => by
      subst e
      exact List.count_pos_iff.2 (List.mem_of_getElem? hk)
    by_cases h1 : v = t
    · subst h1
      have := hpos rfl
      have h3 : ¬ v = at_ := fun e => o3 e.symm
      have h4 : (at_ == v) = false := by simp; exact fun e => h3 e.symm
      simp only [beq_self_eq_true, if_true, h4, Bool.false_eq_true, if_false, if_neg h3] at hc ⊢
      omega
    · have h2 : (t == v) = false := by simp; exact fun e => h1 e.symm
      by_cases h3 : v = at_
      · subst h3
        simp only [h2, Bool.false_eq_true, if_false, beq_self_eq_true, if_true, if_neg h1] at hc ⊢
        omega
      · have h4 : (at_ == v) = false := by simp; exact fun e => h3 e.symm
        simp only [h2, h4, Bool.false_eq_true, if_false, if_neg h1, if_neg h3] at hc ⊢
        omega
theorem turn_both (hg : GB P bars) (hp : PB P bars k m p) {g : TGraph} (hgp : g.Points = P) (hgb : g.Bars = bars) {a : Int} {q : List Int} {M : List (Int × Int)} {F : List Int} {S : List Bool} (h : BF P bars p a q M F S) {u : Int} {j : Nat} (hu : q[j]? = some u) (r1 : TPebbles) (x2 x4 : Int) (s1 : Int × List (Int × Int) × List Int) (hM : mput s1.2.1 u s1.1 = M) :
    ∃ T, loopM (m_spec_l4Shift_L1 g p F a u r1 x2 x4) BIG (u, p.Tails) = some (((r1.Free.set u.toNat (w64 (x2 - 1))).set a.toNat (w64 (x4 + 1))), T, r1.Placed) ∧
      loopM (m_impl_moveTo_L11 p a s1 u x2 x4) BIG (u, p.Tails) = some (((p.Free.set u.toNat (w64 (x2 - 1))).set a.toNat (w64 (x4 + 1))), T) ∧ TW p bars q M u 0 a T := by
  have hql := h.len
  have h8 := hg.p8
  have hjl := (List.getElem?_eq_some_iff.1 hu).1
  obtain ⟨r, r', e1, e2, T, rfl, rfl, hT⟩ := loop_inv2 (b := m_spec_l4Shift_L1 g p F a u r1 x2 x4) (b' := m_impl_moveTo_L11 p a s1 u x2 x4) (s := (u, p.Tails)) (s' := (u, p.Tails))
    (fun n s s' => ∃ (j' : Nat) (at_ : Int) (T : List Int), s = (at_, T) ∧ s' = (at_, T) ∧ j' + n ≤ j ∧ TW p bars q M u j' at_ T)
    (fun r r' => ∃ T, r = (((r1.Free.set u.toNat (w64 (x2 - 1))).set a.toNat (w64 (x4 + 1))), T, r1.Placed) ∧ r' = (((p.Free.set u.toNat (w64 (x2 - 1))).set a.toNat (w64 (x4 + 1))), T) ∧ TW p bars q M u 0 a T) (j + 1) (by omega)
    ⟨j, u, p.Tails, rfl, rfl, by omega, hu, rfl, fun _ _ _ => rfl, hp.ends, fun v => by omega⟩ (fun n s s' hn hs => by
      obtain ⟨j', at_, T, rfl, rfl, hj', hT⟩ := hs
      by_cases hat : at_ = a
      · subst hat
        have hj0 : j' = 0 := h.nd hT.atj h.first
        subst hj0
        refine .inr ⟨_, _, ?_, ?_, T, rfl, rfl, hT⟩
        · unfold m_spec_l4Shift_L1
          simp
        · unfold m_impl_moveTo_L11
          simp
      · obtain ⟨i, j2, t, w1, w2, w3, w4, w5, w6⟩ := hT.step hg hp h hat
        have hb : (at_ != a) = true := by simp; exact hat
        obtain ⟨e, hpe, hbe, hbe2⟩ := hp.bar hg w2
        have hpi : idx p.Placed (i : Int) = some e := idx_of hpe
        have hrng := h.rng hT.atj
        have hFl := h.fl
        have hFat : idx F at_ = some (i : Int) := by
          have hl : F[at_.toNat]? = some (F[at_.toNat]'(by omega)) := List.getElem?_eq_getElem (by omega)
          have := h.from_ hl (by rw [Int.toNat_of_nonneg hrng.1]; exact List.mem_of_getElem? hT.atj)
          rw [Int.toNat_of_nonneg hrng.1, w1] at this
          unfold idx
          rw [if_pos hrng.1, hl, this]
        have hTi : idx T (i : Int) = some t := idx_of w4
        refine .inl ⟨(t, T.set i at_), (t, T.set i at_), ?_, ?_, j2, t, T.set i at_, rfl, rfl, by omega, w6⟩
        · have ho : m_spec_l4Other (pbar bars p i) at_ = some t := by
            rw [other_S (P := P) _ _ h8 (hp.pbar_ok hg w2) ?_, w5]
            obtain ⟨_, _, _, o4, _⟩ := other_ok (hp.pbar_ok hg w2) (hT.ends w4)
            have hte := hT.ends w4
            unfold otherE at w5
            by_cases hA : (pbar bars p i).A = at_
            · exact .inl hA.symm
            · have : ((pbar bars p i).A == at_) = false := by simp [hA]
              rw [this, cond_false] at w5
              -- the other end of at_ is A: at_ is B
              obtain ⟨i3, _, t3, z1, z2, _, _, z5, z6⟩ := h.way (j := j') (by
                rcases Nat.eq_zero_or_pos j' with h0 | h0
                · subst h0
                  have := h.first.symm.trans hT.atj
                  injection this with this
                  exact absurd this.symm hat
                · exact h0) hT.atj
              rw [w1] at z1
              have : i3 = i := by omega
              subst this
              obtain ⟨_, _, _, o4', _⟩ := other_ok (hp.pbar_ok hg z2) (hp.ends z5)
              rw [z6] at o4'
              exact o4'
          unfold m_spec_l4Shift_L1
          simp only [hb, cond_true, hFat, hpi, hgb, hbe, ho, hTi, Option.bind_some, Int.toNat_natCast]
        · unfold m_impl_moveTo_L11
          simp only [hb, cond_true, hM, w1, hTi, Option.bind_some, Int.toNat_natCast]) (fun s s' hs => by
      obtain ⟨j', at_, T, rfl, rfl, hj', hT⟩ := hs
      omega)
  exact ⟨T, e1, e2, hT⟩
theorem PB.moved (hg : GB P bars) (hp : PB P bars k m p) {q : List Int} {M : List (Int × Int)} {u a : Int} {T : List Int} {fu fa : Int} (hT : TW p bars q M u 0 a T) (u0 : 0 ≤ u) (a0 : 0 ≤ a) (hua : u ≠ a) (hfu : p.Free[u.toNat]? = some fu) (hfa : p.Free[a.toNat]? = some fa) (hpos : 0 < fu) :
    PB P bars k m ⟨(p.Free.set u.toNat (fu - 1)).set a.toNat (fa + 1), T, p.Placed⟩ := by
  refine ⟨hp.k1, hp.k3, by simpa using hp.fl, hT.tl.trans hp.tl, hp.pl, hp.pr, hp.inc, hT.ends, ?_⟩
  intro v f hv
  change 0 ≤ f ∧ f + (T.count (v : Int) : Int) = k
  have hc := hT.cnt (v : Int)
  rcases set_get hv with ⟨h1, rfl⟩ | ⟨h1, h2⟩
  · have hva : (v : Int) = a := by omega
    have hf := hp.fr hfa
    rw [Int.toNat_of_nonneg a0] at hf
    rw [hva, if_neg (Ne.symm hua), if_pos rfl] at hc
    rw [hva]
    omega
  · rcases set_get h2 with ⟨h3, rfl⟩ | ⟨h3, h4⟩
    · have hvu : (v : Int) = u := by omega
      have hf := hp.fr hfu
      rw [Int.toNat_of_nonneg u0] at hf
      rw [hvu, if_pos rfl, if_neg hua] at hc
      rw [hvu]
      omega
    · have hf := hp.fr h4
      rw [if_neg (show ¬ (v : Int) = u by omega), if_neg (show ¬ (v : Int) = a by omega)] at hc
      omega
end
end Go.Proofs.Yteognanhfpbghaa
end
section
set_option linter.unusedVariables false
set_option linter.unusedSimpArgs false
set_option linter.unnecessarySimpa false
open Go Go.Fw
namespace Go.Proofs.Yteognanhfpbghaa
theorem pieces_plus {α : Type} {f : Nat → List α} (a : Nat) : ∀ b, pieces f (a + b) = pieces f a ++ pieces (fun k => f (a + k)) b
  | 0 => by simp [pieces]
  | b + 1 => by
    show pieces f (a + b) ++ f (a + b) = pieces f a ++ (pieces (fun k => f (a + k)) b ++ f (a + b))
    rw [pieces_plus a b, List.append_assoc]
theorem pieces_mul {α : Type} {f : Nat → List α} (a : Nat) : ∀ n, pieces f (a * n) = pieces (fun i => pieces (fun j => f (a * i + j)) a) n
  | 0 => rfl
  | n + 1 => by
    rw [Nat.mul_succ, pieces_plus, pieces_mul a n]
    rfl
def cellAt (d : Nat) : TPlace := ⟨((d % 5 : Nat) : Int), ((d / 5 : Nat) : Int)⟩
def ways : Nat → Nat → List TPlace → List (List TPlace)
  | 0, _, pl => [pl]
  | m + 1, v, pl => pieces (fun d => ways m (v + 1) (pl.set v (cellAt d))) 25
theorem ways_len : ∀ m v pl, (ways m v pl).length ≤ 25 ^ m
  | 0, _, _ => Nat.le_refl _
  | m + 1, v, pl => by
    have := pieces_len (f := fun d => ways m (v + 1) (pl.set v (cellAt d))) (c := 25 ^ m) 25 (fun d _ => ways_len m (v + 1) _)
    rw [Nat.pow_succ]
    exact this
theorem ways_congr : ∀ m v (pl pl' : List TPlace), pl.length = v + m → pl'.length = v + m → (∀ i, i < v → pl[i]? = pl'[i]?) → ways m v pl = ways m v pl'
  | 0, v, pl, pl', h1, h2, h => by
    have : pl = pl' := List.ext_getElem? fun i => by
      by_cases hi : i < v
      · exact h i hi
      · rw [List.getElem?_eq_none (by omega), List.getElem?_eq_none (by omega)]
    rw [this]
  | m + 1, v, pl, pl', h1, h2, h => by
    refine pieces_congr 25 fun d _ => ways_congr m (v + 1) _ _ (by simp; omega) (by simp; omega) fun i hi => ?_
    rw [List.getElem?_set, List.getElem?_set]
    by_cases hiv : v = i
    · rw [if_pos hiv, if_pos hiv, if_pos (by omega), if_pos (by omega)]
    · rw [if_neg hiv, if_neg hiv]
      exact h i (by omega)
theorem ways_mem_len : ∀ m v (pl w : List TPlace), w ∈ ways m v pl → w.length = pl.length
  | 0, v, pl, w, h => by
    unfold ways at h
    rw [List.mem_singleton] at h
    rw [h]
  | m + 1, v, pl, w, h => by
    unfold ways at h
    have hp : ∀ n, w ∈ pieces (fun d => ways m (v + 1) (pl.set v (cellAt d))) n → w.length = pl.length := fun n => by
      induction n with
      | zero => intro h; cases h
      | succ n ih =>
        intro h
        rcases List.mem_append.1 h with h1 | h1
        · exact ih h1
        · have := ways_mem_len m (v + 1) _ w h1
          simpa using this
    exact hp _ h
def filt (f : TFramework) (g : TGraph) (L : List (List TPlace)) : List TFramework := (L.map fun pl => (⟨g, pl⟩ : TFramework)).filter (sameL f)
theorem filt_append (f : TFramework) (g : TGraph) (L M : List (List TPlace)) : filt f g (L ++ M) = filt f g L ++ filt f g M := by simp [filt]
theorem filt_pieces (f : TFramework) (g : TGraph) (F : Nat → List (List TPlace)) : ∀ n, filt f g (pieces F n) = pieces (fun i => filt f g (F i)) n
  | 0 => rfl
  | n + 1 => by
    show filt f g (pieces F n ++ F n) = pieces _ n ++ filt f g (F n)
    rw [filt_append, filt_pieces f g F n]
theorem filt_len (f : TFramework) (g : TGraph) (L : List (List TPlace)) : (filt f g L).length ≤ L.length := by
  have := List.length_filter_le (sameL f) (L.map fun pl => (⟨g, pl⟩ : TFramework))
  simpa [filt] using this
theorem filt_one (f : TFramework) (g : TGraph) (pl : List TPlace) : filt f g [pl] = bif sameL f ⟨g, pl⟩ then [⟨g, pl⟩] else [] := by
  unfold filt
  simp only [List.map_cons, List.map_nil, List.filter_cons, List.filter_nil]
  cases sameL f ⟨g, pl⟩ <;> rfl
section
variable {f : TFramework}
theorem tryC_eq (h0 : SM f.Graph.Bars.length) (h1 : SM f.Places.length) : ∀ (m n v : Nat) (x : TFramework) (out : List TFramework), m < n → v + m ≤ 8 → SM x.Graph.Bars.length → x.Graph.Points = ((v + m : Nat) : Int) → x.Places.length = v + m → out.length + 25 ^ m ≤ 1000000 →
    ∃ pl, m_impl_OtherPlaces_c1 n x (v : Int) f out = some (x.Graph.Bars, pl, f, out ++ filt f x.Graph (ways m v x.Places)) ∧ pl.length = x.Places.length ∧ ∀ i, i < v → pl[i]? = x.Places[i]? := by
  intro m
  induction m with
  | zero =>
    intro n v x out hn hv hb hp hl ho
    obtain ⟨n, rfl⟩ : ∃ k, n = k + 1 := ⟨n - 1, by omega⟩
    refine ⟨x.Places, ?_, rfl, fun _ _ => rfl⟩
    show m_impl_OtherPlaces_c1_B (m_impl_OtherPlaces_c1 n) x (v : Int) f out = _
    unfold m_impl_OtherPlaces_c1_B
    rw [decide_eq_true (by omega), cond_true, sameLI_eq f x h0 h1 hb (by omega), copyFI_eq x hb (by omega)]
    simp only [Option.bind_some]
    rw [lim_ok (show out.length + [x].length ≤ 2147483648 by simp; omega)]
    have e : filt f x.Graph (ways 0 v x.Places) = bif sameL f x then [x] else [] := filt_one f x.Graph x.Places
    rw [e]
    cases sameL f x <;> simp
  | succ m ih =>
    intro n v x out hn hv hb hp hl ho
    obtain ⟨n, rfl⟩ : ∃ k, n = k + 1 := ⟨n - 1, by omega⟩
    have h25 : 25 ^ (m + 1) = 25 ^ m * 25 := Nat.pow_succ ..
    have hpos : 0 < 25 ^ m := Nat.pow_pos (by omega)
    -- what the digit d gives
    let G : Nat → List TFramework := fun d => filt f x.Graph (ways m (v + 1) (x.Places.set v (cellAt d)))
    have hG : ∀ d, (G d).length ≤ 25 ^ m := fun d => Nat.le_trans (filt_len ..) (ways_len ..)
    have hGp : ∀ F : Nat → Nat, ∀ k, (pieces (fun j => G (F j)) k).length ≤ 25 ^ m * k := fun F k => pieces_len k fun j _ => hG _
    have innerL : ∀ (y : Nat) (pl : List TPlace) (o : List TFramework), y < 5 → pl.length = x.Places.length → (∀ i, i < v → pl[i]? = x.Places[i]?) → o.length + 25 ^ m * 5 ≤ 1000000 →
        ∃ pl', loopM (m_impl_OtherPlaces_c1_L4 x (v : Int) ((y : Int), x.Graph.Bars, pl, f.Graph.Points, f.Graph.Bars, f.Places, o) (m_impl_OtherPlaces_c1 n)) BIG (0, x.Graph.Bars, pl, f.Graph.Points, f.Graph.Bars, f.Places, o) = some ((y : Int), x.Graph.Bars, pl', f.Graph.Points, f.Graph.Bars, f.Places, o ++ pieces (fun j => G (5 * y + j)) 5) ∧ pl'.length = x.Places.length ∧ ∀ i, i < v → pl'[i]? = x.Places[i]? := by
      intro y pl o hy hpl hag hol
      obtain ⟨r, hr, pl', rfl, h2, h3⟩ := loop_inv (b := m_impl_OtherPlaces_c1_L4 x (v : Int) ((y : Int), x.Graph.Bars, pl, f.Graph.Points, f.Graph.Bars, f.Places, o) (m_impl_OtherPlaces_c1 n)) (s := (0, x.Graph.Bars, pl, f.Graph.Points, f.Graph.Bars, f.Places, o))
        (fun k s => ∃ q : List TPlace, s = ((k : Int), x.Graph.Bars, q, f.Graph.Points, f.Graph.Bars, f.Places, o ++ pieces (fun j => G (5 * y + j)) k) ∧ q.length = x.Places.length ∧ ∀ i, i < v → q[i]? = x.Places[i]?)
        (fun r => ∃ q : List TPlace, r = ((y : Int), x.Graph.Bars, q, f.Graph.Points, f.Graph.Bars, f.Places, o ++ pieces (fun j => G (5 * y + j)) 5) ∧ q.length = x.Places.length ∧ ∀ i, i < v → q[i]? = x.Places[i]?) 5 (by omega) ⟨pl, by simp [pieces], hpl, hag⟩ (fun k s hk hs => by
          obtain ⟨q, rfl, hq, hqa⟩ := hs
          have hlen := hGp (fun j => 5 * y + j) k
          have hk5 : 25 ^ m * k ≤ 25 ^ m * 4 := Nat.mul_le_mul_left _ (by omega)
          obtain ⟨w, hw, hwl, hwa⟩ := ih n (v + 1) ⟨x.Graph, q.set v (TPlace.mk (k : Int) (y : Int))⟩ (o ++ pieces (fun j => G (5 * y + j)) k) (by omega) (by omega) hb (by simp only [hp]; omega) (by simp; omega) (by simp only [List.length_append]; omega)
          simp only [List.length_set] at hwl
          have hcell : TPlace.mk (k : Int) (y : Int) = cellAt (5 * y + k) := by
            unfold cellAt
            rw [show (5 * y + k) % 5 = k by omega, show (5 * y + k) / 5 = y by omega]
          have hways : ways m (v + 1) (q.set v (TPlace.mk (k : Int) (y : Int))) = ways m (v + 1) (x.Places.set v (cellAt (5 * y + k))) := by
            rw [hcell]
            refine ways_congr m (v + 1) _ _ (by simp; omega) (by simp; omega) fun i hi => ?_
            rw [List.getElem?_set, List.getElem?_set]
            by_cases hiv : v = i
            · rw [if_pos hiv, if_pos hiv, if_pos (by omega), if_pos (by omega)]
            · rw [if_neg hiv, if_neg hiv]
              exact hqa i (by omega)
          have hiv : idx q (v : Int) = some (q[v]'(by omega)) := idx_at (by omega)
          refine .inl ⟨_, ?_, w, rfl, by omega, fun i hi => ?_⟩
          · unfold m_impl_OtherPlaces_c1_L4
            rw [show TFramework.mk (TGraph.mk x.Graph.Points x.Graph.Bars) (q.set v (TPlace.mk (k : Int) (y : Int))) = ⟨x.Graph, q.set v (TPlace.mk (k : Int) (y : Int))⟩ from rfl] at *
            simp only [hiv, Option.bind_some, Int.toNat_natCast, w64_succ (show v ≤ 1099511627776 by omega), w64_succ (show k ≤ 1099511627776 by omega)]
            rw [decide_eq_true (by omega), cond_true]
            rw [show TFramework.mk (TGraph.mk f.Graph.Points f.Graph.Bars) f.Places = f from rfl]
            rw [show TFramework.mk (TGraph.mk x.Graph.Points x.Graph.Bars) (q.set v (TPlace.mk (k : Int) (y : Int))) = ⟨x.Graph, q.set v (TPlace.mk (k : Int) (y : Int))⟩ from rfl, hw]
            simp only [Option.bind_some, same_ok, List.length_set, hwl]
            rw [hways, List.append_assoc]
            rfl
          · rw [hwa i (by omega)]
            show (q.set v _)[i]? = _
            rw [List.getElem?_set, if_neg (by omega)]
            exact hqa i hi) (fun s hs => by
          obtain ⟨q, rfl, hq, hqa⟩ := hs
          refine ⟨_, ?_, q, rfl, hq, hqa⟩
          unfold m_impl_OtherPlaces_c1_L4
          rw [decide_eq_false (by simp only; omega)]
          rfl)
      exact ⟨pl', hr, h2, h3⟩
    obtain ⟨r, hr, pl', rfl, h2, h3⟩ := loop_inv (b := m_impl_OtherPlaces_c1_L3 x (v : Int) (m_impl_OtherPlaces_c1 n)) (s := (0, x.Graph.Bars, x.Places, f.Graph.Points, f.Graph.Bars, f.Places, out))
      (fun y s => ∃ q : List TPlace, s = ((y : Int), x.Graph.Bars, q, f.Graph.Points, f.Graph.Bars, f.Places, out ++ pieces (fun i => pieces (fun j => G (5 * i + j)) 5) y) ∧ q.length = x.Places.length ∧ ∀ i, i < v → q[i]? = x.Places[i]?)
      (fun r => ∃ q : List TPlace, r = (x.Graph.Bars, q, f.Graph.Points, f.Graph.Bars, f.Places, out ++ pieces (fun i => pieces (fun j => G (5 * i + j)) 5) 5) ∧ q.length = x.Places.length ∧ ∀ i, i < v → q[i]? = x.Places[i]?) 5 (by omega) ⟨x.Places, by simp [pieces], rfl, fun _ _ => rfl⟩ (fun y s hy hs => by
        obtain ⟨q, rfl, hq, hqa⟩ := hs
        have hlen := pieces_len (f := fun i => pieces (fun j => G (5 * i + j)) 5) (c := 25 ^ m * 5) y (fun i _ => hGp (fun j => 5 * i + j) 5)
        have hy5 : 25 ^ m * 5 * y ≤ 25 ^ m * 5 * 4 := Nat.mul_le_mul_left _ (by omega)
        obtain ⟨w, hw, hwl, hwa⟩ := innerL y q (out ++ pieces (fun i => pieces (fun j => G (5 * i + j)) 5) y) hy hq hqa (by simp only [List.length_append]; omega)
        refine .inl ⟨_, ?_, w, rfl, hwl, hwa⟩
        unfold m_impl_OtherPlaces_c1_L3
        rw [decide_eq_true (by simp only; omega), cond_true]
        simp only [hw, Option.bind_some, w64_succ (show y ≤ 1099511627776 by omega)]
        rw [List.append_assoc]
        rfl) (fun s hs => by
        obtain ⟨q, rfl, hq, hqa⟩ := hs
        refine ⟨_, ?_, q, rfl, hq, hqa⟩
        unfold m_impl_OtherPlaces_c1_L3
        rw [decide_eq_false (by simp only; omega)]
        rfl)
    refine ⟨pl', ?_, h2, h3⟩
    show m_impl_OtherPlaces_c1_B (m_impl_OtherPlaces_c1 n) x (v : Int) f out = _
    unfold m_impl_OtherPlaces_c1_B
    rw [decide_eq_false (by omega), cond_false, hr]
    simp only [Option.bind_some]
    have e : filt f x.Graph (ways (m + 1) v x.Places) = pieces (fun i => pieces (fun j => G (5 * i + j)) 5) 5 := by
      show filt f x.Graph (pieces (fun d => ways m (v + 1) (x.Places.set v (cellAt d))) 25) = _
      rw [filt_pieces, ← pieces_mul (f := G) 5 5]
    rw [e]
def mvd (f : TFramework) : Nat := f.Graph.Points.toNat - 2
def found (f : TFramework) : List TFramework := filt f f.Graph (ways (mvd f) 2 f.Places)
def fits (f : TFramework) : Bool := vF f && !decide (4 < f.Graph.Points)
def others (f : TFramework) : List TFramework × Bool := bif fits f then (found f, true) else ([], false)
theorem fits_VF {f : TFramework} (h : fits f = true) : VF f ∧ f.Graph.Points ≤ 4 := by
  unfold fits at h
  simp only [Bool.and_eq_true, Bool.not_eq_true', decide_eq_false_iff_not] at h
  exact ⟨vF_VF h.1, by omega⟩
theorem found_small (h : fits f = true) : (found f).length ≤ 625 := by
  obtain ⟨hV, h4⟩ := fits_VF h
  have h1 := filt_len f f.Graph (ways (mvd f) 2 f.Places)
  have h2 := ways_len (mvd f) 2 f.Places
  have h3 : 25 ^ mvd f ≤ 25 ^ 2 := Nat.pow_le_pow_right (by omega) (by unfold mvd; omega)
  unfold found
  omega
theorem tryTop (h0 : SM f.Graph.Bars.length) (h1 : SM f.Places.length) (h : fits f = true) : ∃ pl, m_impl_OtherPlaces_c1 64 f 2 f [] = some (f.Graph.Bars, pl, f, found f) := by
  obtain ⟨hV, h4⟩ := fits_VF h
  have hp := hV.pls
  have hp1 := hV.g.p1
  by_cases h2 : 2 ≤ f.Graph.Points
  · have hm : mvd f ≤ 2 := by unfold mvd; omega
    have hpow : 25 ^ mvd f ≤ 25 ^ 2 := Nat.pow_le_pow_right (by omega) hm
    obtain ⟨pl, e, _⟩ := tryC_eq h0 h1 (mvd f) 64 2 f [] (by omega) (by omega) h0 (by unfold mvd; omega) (by unfold mvd; omega) (by simp only [List.length_nil]; omega)
    exact ⟨pl, by rw [show ((2 : Int)) = ((2 : Nat) : Int) from rfl, e]; rfl⟩
  · have hm : mvd f = 0 := by unfold mvd; omega
    refine ⟨f.Places, ?_⟩
    show m_impl_OtherPlaces_c1_B (m_impl_OtherPlaces_c1 63) f 2 f [] = _
    unfold m_impl_OtherPlaces_c1_B
    rw [decide_eq_true (by omega), cond_true, sameLI_eq f f h0 h1 h0 h1, copyFI_eq f h0 h1]
    simp only [Option.bind_some]
    rw [lim_ok (show ([] : List TFramework).length + [f].length ≤ 2147483648 by simp)]
    have e : found f = bif sameL f f then [f] else [] := by
      unfold found
      rw [hm]
      exact filt_one f f.Graph f.Places
    rw [e]
    cases sameL f f <;> simp
def placed (m code : Nat) (pl : List TPlace) : List TPlace := match m with
  | 0 => pl
  | 1 => pl.set 2 (cellAt code)
  | _ => (pl.set 3 (cellAt (code % 25))).set 2 (cellAt (code / 25))
theorem set_comm {α : Type} {l : List α} {i j : Nat} {a b : α} (h : i ≠ j) : (l.set i a).set j b = (l.set j b).set i a := List.set_comm a b h
theorem ways_placed {m : Nat} (hm : m ≤ 2) (pl : List TPlace) : ways m 2 pl = pieces (fun code => [placed m code pl]) (25 ^ m) := by
  match m, hm with
  | 0, _ => rfl
  | 1, _ => rfl
  | 2, _ =>
    show pieces (fun d => pieces (fun e => [((pl.set 2 (cellAt d)).set 3 (cellAt e))]) 25) 25 = pieces (fun code => [placed 2 code pl]) (25 * 25)
    rw [pieces_mul]
    refine pieces_congr 25 fun d _ => pieces_congr 25 fun e he => ?_
    show [(pl.set 2 (cellAt d)).set 3 (cellAt e)] = [(pl.set 3 (cellAt ((25 * d + e) % 25))).set 2 (cellAt ((25 * d + e) / 25))]
    rw [show (25 * d + e) % 25 = e by omega, show (25 * d + e) / 25 = d by omega, List.set_comm _ _ (by omega)]
theorem pow0 : m_spec_l17Power 25 0 = some 1 := by kernel_rfl
theorem pow1 : m_spec_l17Power 25 1 = some 25 := by kernel_rfl
theorem pow2 : m_spec_l17Power 25 2 = some 625 := by kernel_rfl
theorem power_eq {m : Nat} (hm : m ≤ 2) : m_spec_l17Power 25 (m : Int) = some ((25 ^ m : Nat) : Int) := by
  have : m = 0 ∨ m = 1 ∨ m = 2 := by omega
  rcases this with rfl | rfl | rfl
  · exact pow0
  · exact pow1
  · exact pow2
theorem digit_cell (c : Nat) (hc : c ≤ 1000) : TPlace.mk (Int.tmod (c : Int) 5) (Int.tmod (w64 (Int.tdiv (c : Int) 5)) 5) = cellAt (c % 25) := by
  unfold cellAt
  have h1 : Int.tmod (c : Int) 5 = ((c % 25 % 5 : Nat) : Int) := by
    rw [show (5 : Int) = ((5 : Nat) : Int) from rfl, ← Int.ofNat_tmod]
    congr 1
    omega
  have h2 : Int.tdiv (c : Int) 5 = ((c / 5 : Nat) : Int) := by
    rw [show (5 : Int) = ((5 : Nat) : Int) from rfl, ← Int.ofNat_tdiv]
  rw [h1, h2, w64_small (by omega) (by omega)]
  congr 1
  rw [show (5 : Int) = ((5 : Nat) : Int) from rfl, ← Int.ofNat_tmod]
  congr 1
  omega
theorem div25 (c : Nat) : Int.tdiv (c : Int) 25 = ((c / 25 : Nat) : Int) := by
  rw [show (25 : Int) = ((25 : Nat) : Int) from rfl, ← Int.ofNat_tdiv]
theorem digitStep (s : Int × List TFramework) (r : TFramework) (c v : Nat) (pl : List TPlace) (hc : c ≤ 1000) (hv : 2 ≤ v) (hv2 : v ≤ 8) (hl : v < pl.length) : m_spec_OtherPlaces_L4 s r ((c : Int), (v : Int), pl) = some (.inl (((c / 25 : Nat) : Int), ((v - 1 : Nat) : Int), pl.set v (cellAt (c % 25)))) := by
  unfold m_spec_OtherPlaces_L4
  rw [decide_eq_true (by simp only; omega), cond_true]
  simp only [idx_at hl, Option.bind_some, div25, digit_cell c hc, Int.toNat_natCast]
  rw [w64_small (by omega) (by omega), w64_small (by omega) (by omega), show (v : Int) - 1 = ((v - 1 : Nat) : Int) by omega]
theorem digitEnd (s : Int × List TFramework) (r : TFramework) (c v : Int) (pl : List TPlace) (hv : v < 2) : m_spec_OtherPlaces_L4 s r (c, v, pl) = some (.inr (s.1, s.2, r.Graph.Bars, pl, r.Graph.Points)) := by
  unfold m_spec_OtherPlaces_L4
  rw [decide_eq_false (by simp only; omega)]
  rfl
theorem digits (s : Int × List TFramework) {r : TFramework} {m n code : Nat} (hm : m ≤ 2) (hn : r.Places.length = n) (hn1 : 1 ≤ n) (hmn : m = n - 2) (hc : code < 25 ^ m) : loopM (m_spec_OtherPlaces_L4 s r) BIG ((code : Int), ((n - 1 : Nat) : Int), r.Places) = some (s.1, s.2, r.Graph.Bars, placed m code r.Places, r.Graph.Points) := by
  match m, hm with
  | 0, _ => exact loopM_run (fun _ => ((code : Int), ((n - 1 : Nat) : Int), r.Places)) 0 (by omega) rfl (fun k hk => by omega) (digitEnd s r _ _ _ (by omega))
  | 1, _ =>
    have hn3 : n = 3 := by omega
    subst hn3
    refine loopM_run (fun k => match k with | 0 => ((code : Int), ((2 : Nat) : Int), r.Places) | _ => (((code / 25 : Nat) : Int), ((1 : Nat) : Int), r.Places.set 2 (cellAt (code % 25)))) 1 (by omega) rfl (fun k hk => ?_) ?_
    · have : k = 0 := by omega
      subst this
      exact digitStep s r code 2 r.Places (by omega) (by omega) (by omega) (by omega)
    · refine (digitEnd s r ((code / 25 : Nat) : Int) ((1 : Nat) : Int) (r.Places.set 2 (cellAt (code % 25))) (by omega)).trans ?_
      show some (Sum.inr (s.1, s.2, r.Graph.Bars, r.Places.set 2 (cellAt (code % 25)), r.Graph.Points)) = some (Sum.inr (s.1, s.2, r.Graph.Bars, r.Places.set 2 (cellAt code), r.Graph.Points))
      rw [show code % 25 = code from Nat.mod_eq_of_lt (by simpa using hc)]
  | 2, _ =>
    have hn4 : n = 4 := by omega
    subst hn4
    have hc2 : code < 625 := hc
    refine loopM_run (fun k => match k with | 0 => ((code : Int), ((3 : Nat) : Int), r.Places) | 1 => (((code / 25 : Nat) : Int), ((2 : Nat) : Int), r.Places.set 3 (cellAt (code % 25))) | _ => (((code / 25 / 25 : Nat) : Int), ((1 : Nat) : Int), (r.Places.set 3 (cellAt (code % 25))).set 2 (cellAt (code / 25 % 25)))) 2 (by omega) rfl (fun k hk => ?_) ?_
    · have : k = 0 ∨ k = 1 := by omega
      rcases this with rfl | rfl
      · exact digitStep s r code 3 r.Places (by omega) (by omega) (by omega) (by omega)
      · exact digitStep s r (code / 25) 2 _ (by omega) (by omega) (by omega) (by simp; omega)
    · refine (digitEnd s r ((code / 25 / 25 : Nat) : Int) ((1 : Nat) : Int) ((r.Places.set 3 (cellAt (code % 25))).set 2 (cellAt (code / 25 % 25))) (by omega)).trans ?_
      show some (Sum.inr (s.1, s.2, r.Graph.Bars, (r.Places.set 3 (cellAt (code % 25))).set 2 (cellAt (code / 25 % 25)), r.Graph.Points)) = some (Sum.inr (s.1, s.2, r.Graph.Bars, (r.Places.set 3 (cellAt (code % 25))).set 2 (cellAt (code / 25)), r.Graph.Points))
      rw [show code / 25 % 25 = code / 25 from Nat.mod_eq_of_lt (by omega)]
theorem othersS_eq (h0 : SM f.Graph.Bars.length) (h1 : SM f.Places.length) : m_spec_OtherPlaces f = some (others f) := by
  unfold m_spec_OtherPlaces others
  rw [isFS_eq f h0 h1]
  cases hf : fits f with
  | true =>
    obtain ⟨hV, h4⟩ := fits_VF hf
    have hp := hV.pls
    have hp1 := hV.g.p1
    have hm : mvd f ≤ 2 := by unfold mvd; omega
    have hpow : 25 ^ mvd f ≤ 25 ^ 2 := Nat.pow_le_pow_right (by omega) hm
    have hn : f.Places.length = f.Graph.Points.toNat := by omega
    have hmx : (if 0 < w64 (f.Graph.Points - 2) then w64 (f.Graph.Points - 2) else 0) = (mvd f : Int) := by
      rw [w64_small (by omega) (by omega)]
      unfold mvd
      split <;> omega
    have := app_loop (b := m_spec_OtherPlaces_L3 f) (s := (0, [])) (fun k out => ((k : Int), out)) (fun code => filt f f.Graph [placed (mvd f) code f.Places]) id 1 (25 ^ mvd f) [] (by omega) rfl (fun k _ => filt_len ..) (fun k out hk ho => by
      simp only [List.length_nil, Nat.zero_add, Nat.one_mul] at ho
      have hd := digits ((k : Int), out) (r := f) hm hn (by omega) (by unfold mvd; rfl) hk
      have hpl : (placed (mvd f) k f.Places).length = f.Places.length := by
        unfold placed
        split <;> simp
      unfold m_spec_OtherPlaces_L3
      rw [hmx, power_eq hm, Option.bind_some, decide_eq_true (by simp only; omega), cond_true, copyFS_eq f h0 h1]
      simp only [Option.bind_some]
      rw [show w64 (f.Graph.Points - 1) = ((f.Graph.Points.toNat - 1 : Nat) : Int) by rw [w64_small (by omega) (by omega)]; omega, hd]
      simp only [Option.bind_some]
      rw [show TFramework.mk (TGraph.mk f.Graph.Points f.Graph.Bars) (placed (mvd f) k f.Places) = ⟨f.Graph, placed (mvd f) k f.Places⟩ from rfl, sameLS_eq f ⟨f.Graph, placed (mvd f) k f.Places⟩ h0 h1 h0 (by rw [hpl]; exact h1), filt_one, w64_succ (by omega)]
      simp only [Option.bind_some]
      rw [lim_ok (by simp; omega)]
      cases sameL f ⟨f.Graph, placed (mvd f) k f.Places⟩ <;> simp) (fun out => by
      unfold m_spec_OtherPlaces_L3
      rw [hmx, power_eq hm, Option.bind_some, decide_eq_false (by simp only; omega)]
      rfl)
    unfold fits at hf
    rw [Bool.and_eq_true, Bool.not_eq_true'] at hf
    rw [hf.1, hf.2]
    simp only [Option.bind_some, Bool.not_true, cond_false, cond_true, this]
    unfold found
    rw [ways_placed hm, filt_pieces]
    rfl
  | false =>
    unfold fits at hf
    cases hv : vF f with
    | false => rfl
    | true =>
      rw [hv, Bool.true_and, Bool.not_eq_false'] at hf
      rw [hf]
      rfl
end
theorem filt_mem {f : TFramework} {g : TGraph} {L : List (List TPlace)} {x : TFramework} (h : x ∈ filt f g L) : ∃ pl ∈ L, x = ⟨g, pl⟩ ∧ sameL f x = true := by
  unfold filt at h
  obtain ⟨h1, h2⟩ := List.mem_filter.1 h
  obtain ⟨pl, h3, rfl⟩ := List.mem_map.1 h1
  exact ⟨pl, h3, rfl, h2⟩
theorem others_mem {f x : TFramework} (h : x ∈ (others f).1) : fits f = true ∧ x.Graph = f.Graph ∧ x.Places.length = f.Places.length ∧ sameL f x = true := by
  unfold others at h
  cases hf : fits f with
  | false => rw [hf] at h; cases h
  | true =>
    rw [hf] at h
    obtain ⟨pl, h1, rfl, h2⟩ := filt_mem (L := ways (mvd f) 2 f.Places) h
    exact ⟨rfl, rfl, ways_mem_len _ _ _ _ h1, h2⟩
theorem others_small (f : TFramework) : (others f).1.length ≤ 625 := by
  unfold others
  cases hf : fits f with
  | false => exact Nat.zero_le _
  | true => exact found_small hf
def twin (f : TFramework) : Bool := (others f).1.any fun x => !congr2 f x
theorem congr_both {f x : TFramework} (h0 : f.Graph.Bars.length ≤ 1048576) (h1 : f.Places.length ≤ 1048576) (hx : x ∈ (others f).1) : m_spec_IsCongruent f x = some (congr2 f x) ∧ m_impl_IsCongruent f x = some (congr2 f x) := by
  obtain ⟨_, hg, hl, _⟩ := others_mem hx
  have h2 : x.Graph.Bars.length ≤ 1048576 := by rw [hg]; exact h0
  have h3 : x.Places.length ≤ 1048576 := by rw [hl]; exact h1
  constructor
  · unfold m_spec_IsCongruent congr2
    simp only [isFS_eq f (by omega) (by omega), isFS_eq x (by omega) (by omega), pairDS_eq f (by omega) (by omega), pairDS_eq x (by omega) (by omega), l6Same_eq _ _ (pairsOf_len f), Option.bind_some]
    cases vF f
    · rfl
    · cases vF x
      · rfl
      · cases (f.Graph.Points == x.Graph.Points) <;> rfl
  · unfold m_impl_IsCongruent congr2
    simp only [isFI_eq f (by omega) (by omega), isFI_eq x (by omega) (by omega), pairDI_eq f (by omega) (by omega), pairDI_eq x (by omega) (by omega), sEqual_eq _ _ (pairsOf_len f), Option.bind_some]
    cases vF f
    · rfl
    · cases vF x
      · rfl
      · cases (f.Graph.Points == x.Graph.Points) <;> rfl
theorem twinS_eq (f : TFramework) (h0 : f.Graph.Bars.length ≤ 1048576) (h1 : f.Places.length ≤ 1048576) : m_spec_HasTwin f = some (twin f) := by
  have hs := others_small f
  unfold m_spec_HasTwin twin
  rw [othersS_eq (by omega) (by omega), Option.bind_some]
  have := any_loop0 (b := m_spec_HasTwin_L1 f (others f)) (atB (others f).1 fun x => !congr2 f x) true (others f).1.length (by omega) (fun k hk => by
    have hx : (others f).1[k] ∈ (others f).1 := List.getElem_mem hk
    unfold m_spec_HasTwin_L1
    rw [decide_eq_true (by omega), cond_true, idx_at hk, Option.bind_some, (congr_both h0 h1 hx).1, Option.bind_some, atB_at hk]) (by simp [m_spec_HasTwin_L1])
  rw [this, range_any]
  cases (others f).1.any fun x => !congr2 f x <;> rfl
end Go.Proofs.Yteognanhfpbghaa
end
section
set_option linter.unusedVariables false
set_option linter.unusedSimpArgs false
set_option linter.unnecessarySimpa false
open Go Go.Fw
namespace Go.Proofs.Yteognanhfpbghaa
section
variable {P : Int} {bars : List TBar} {k : Int} {m : Nat} {p : TPebbles}
theorem l4Copy_eq (hg : GB P bars) (hp : PB P bars k m p) (hm : m ≤ 1000) : m_spec_l4Copy p = some p := by
  have h1 := hp.fl
  have h2 := hp.tl
  have h3 := hp.pl
  have h8 := hg.p8
  unfold m_spec_l4Copy
  rw [lim_ok (by simp; omega), lim_ok (by simp; omega), lim_ok (by simp; omega)]
  rfl
theorem PB.free_in (hp : PB P bars k m p) {v : Int} (v0 : 0 ≤ v) (v1 : v < P) : ∃ f, p.Free[v.toNat]? = some f ∧ idx p.Free v = some f ∧ 0 ≤ f ∧ f ≤ k := by
  have h1 := hp.fl
  have h2 : p.Free[v.toNat]? = some (p.Free[v.toNat]'(by omega)) := List.getElem?_eq_getElem (by omega)
  have h3 := hp.fr h2
  refine ⟨_, h2, ?_, h3.1, by omega⟩
  unfold idx
  rw [if_pos v0, h2]
structure Moved (P : Int) (bars : List TBar) (k : Int) (m : Nat) (p : TPebbles) (a b : Int) (p' : TPebbles) : Prop where
  pb : PB P bars k m p'
  placed : p'.Placed = p.Placed
  fa : ∀ {f : Int}, p.Free[a.toNat]? = some f → p'.Free[a.toNat]? = some (f + 1)
  fb : p'.Free[b.toNat]? = p.Free[b.toNat]?
theorem fromInit {g : TGraph} (h0 : 0 ≤ g.Points) (h8 : g.Points ≤ 8) : loopM (m_spec_l4Find_L1 g) BIG (0, List.replicate g.Points.toNat 0) = some (List.replicate g.Points.toNat (-1)) := by
  refine loopM_run (fun n => ((n : Int), List.replicate n (-1) ++ List.replicate (g.Points.toNat - n) 0)) g.Points.toNat (by omega) (by simp) (fun n hn => ?_) ?_
  · have hs := set_repl (List.replicate n (-1 : Int)) 0 (-1) n g.Points.toNat (by simp) hn
    have hi : idx (List.replicate n (-1 : Int) ++ List.replicate (g.Points.toNat - n) 0) (n : Int) = some 0 := idx_of (by rw [List.getElem?_append_right (by simp), List.length_replicate, Nat.sub_self, List.getElem?_replicate, if_pos (by omega)])
    unfold m_spec_l4Find_L1
    simp only [hi, Option.bind_some, Int.toNat_natCast, hs, w64_succ (show n ≤ 1099511627776 by omega)]
    rw [decide_eq_true (by omega), cond_true, ← List.replicate_succ']
  · unfold m_spec_l4Find_L1
    simp only [Nat.sub_self, List.replicate_zero, List.append_nil]
    rw [decide_eq_false (by omega)]
    rfl
theorem shift_both (hg : GB P bars) (hp : PB P bars k m p) (hm : m ≤ 1000) {g : TGraph} (hgp : g.Points = P) (hgb : g.Bars = bars) {a b : Int} (a0 : 0 ≤ a) (a1 : a < P) {q : List Int} {M : List (Int × Int)} {F : List Int} {S : List Bool} {u : Int} {j : Nat} (s1 : Int × List (Int × Int) × List Int) (hM : mput s1.2.1 u s1.1 = M) (h : BF P bars p a q M F S) (hu : q[j]? = some u) (hua : u ≠ a) (hub : u ≠ b) (hab : a ≠ b) (b0 : 0 ≤ b)
    {fu : Int} (hfu : p.Free[u.toNat]? = some fu) (hpos : 0 < fu) :
    ∃ p' fa, idx p.Free a = some fa ∧ m_spec_l4Shift g p F a u = some p' ∧ loopM (m_impl_moveTo_L11 p a s1 u fu fa) BIG (u, p.Tails) = some (p'.Free, p'.Tails) ∧ p'.Placed = p.Placed ∧ Moved P bars k m p a b p' := by
  obtain ⟨u0, u1⟩ := h.rng hu
  obtain ⟨fa, hfa, hia, fa0, fak⟩ := hp.free_in a0 a1
  have k3 := hp.k3
  have hfk : fu ≤ k := by have := hp.fr hfu; omega
  have hiu : idx p.Free u = some fu := by unfold idx; rw [if_pos u0, hfu]
  obtain ⟨T, e1, e2, hT⟩ := turn_both hg hp hgp hgb h hu p fu fa s1 hM
  rw [w64_small (n := fu - 1) (by omega) (by omega), w64_small (n := fa + 1) (by omega) (by omega)] at e1 e2
  have hne : u.toNat ≠ a.toNat := by omega
  have hia2 : ∀ x : Int, idx (p.Free.set u.toNat x) a = some fa := fun x => by
    unfold idx
    rw [if_pos a0, List.getElem?_set, if_neg hne, hfa]
  refine ⟨⟨(p.Free.set u.toNat (fu - 1)).set a.toNat (fa + 1), T, p.Placed⟩, fa, hia, ?_, e2, rfl, ⟨hp.moved hg hT u0 a0 hua hfu hfa hpos, rfl, fun {f} hf => ?_, ?_⟩⟩
  · unfold m_spec_l4Shift
    rw [l4Copy_eq hg hp hm]
    simp only [hiu, Option.bind_some, hia2, e1, w64_small (n := fu - 1) (show -4611686018427387904 ≤ fu - 1 by omega) (by omega)]
  · rw [hfa] at hf
    injection hf with hf
    subst hf
    have hl := (List.getElem?_eq_some_iff.1 hfa).1
    rw [List.getElem?_set, if_pos rfl, if_pos (by simpa using hl)]
  · show ((p.Free.set u.toNat (fu - 1)).set a.toNat (fa + 1))[b.toNat]? = _
    rw [List.getElem?_set, if_neg (by omega), List.getElem?_set, if_neg (by omega)]
def ZO (p : TPebbles) (a b : Int) (q : List Int) : Prop := ∀ v ∈ q, v ≠ a → v ≠ b → p.Free[v.toNat]? = some 0
def CL (bars : List TBar) (p : TPebbles) (v : Int) (m : Nat) (q : List Int) : Prop := ∀ (i : Nat) (t : Int), i < m → p.Tails[i]? = some t → t = v → otherE (pbar bars p i) t ∈ q
theorem CL.more {v u : Int} {m : Nat} {q : List Int} (h : CL bars p v m q) : CL bars p v m (q ++ [u]) := fun i t h1 h2 h3 => List.mem_append_left _ (h i t h1 h2 h3)
theorem CL.step {v t : Int} {j : Nat} {q : List Int} (h : CL bars p v j q) (hT : p.Tails[j]? = some t) (hx : t = v → otherE (pbar bars p j) t ∈ q) : CL bars p v (j + 1) q := fun i s h1 h2 h3 => by
  by_cases hij : i = j
  · subst hij
    rw [hT] at h2
    injection h2 with h2
    subst h2
    exact hx h3
  · exact h i s (by omega) h2 h3
structure Reach (P : Int) (bars : List TBar) (p : TPebbles) (a b : Int) (q : List Int) : Prop where
  fst : a ∈ q
  rng : ∀ v ∈ q, 0 ≤ v ∧ v < P
  zero : ZO p a b q
  clo : ∀ (i : Nat) (t : Int), p.Tails[i]? = some t → t ∈ q → otherE (pbar bars p i) t ∈ q
theorem find_both (hg : GB P bars) (hp : PB P bars k m p) (hm : m ≤ 1000) {g : TGraph} (hgp : g.Points = P) (hgb : g.Bars = bars) {a b : Int} (a0 : 0 ≤ a) (a1 : a < P) (b0 : 0 ≤ b) (b1 : b < P) (hab : a ≠ b) :
    (m_spec_l4Find g p a b = some (p, false) ∧ m_impl_moveTo bars p a b = some (false, p) ∧ ∃ q, Reach P bars p a b q) ∨ ∃ p', m_spec_l4Find g p a b = some (p', true) ∧ m_impl_moveTo bars p a b = some (true, p') ∧ Moved P bars k m p a b p' := by
  have h8 := hg.p8
  have hp1 := hg.p1
  have hpl := hp.pl
  have hptl := hp.tl
  have hstart := BF.start (bars := bars) (p := p) hg a0 a1 (F := List.replicate P.toNat (-1)) (by simp; omega) (fun {v f} hv => by
    rw [List.getElem?_replicate] at hv
    split at hv
    · injection hv with hv; exact hv.symm
    · cases hv)
  -- what a round over the bars gives
  have roundB : ∀ (n : Nat) (v : Int) (q : List Int) (M : List (Int × Int)) (F : List Int) (S : List Bool), BF P bars p a q M F S → q[n]? = some v → ZO p a b q → (∀ r w, r < n → q[r]? = some w → CL bars p w p.Placed.length q) →
      ∃ r r', loopM (m_spec_l4Find_L5 g p a b ((n : Int), F, q, S) v) BIG (0, F, q, S) = some r ∧ loopM (m_impl_moveTo_L10 bars p a b ((n : Int), M, q)) BIG (0, M, q) = some r' ∧
        ((∃ q' M' F' S', r = .inl ((n : Int), F', q', S') ∧ r' = .inl ((n : Int), M', q') ∧ BF P bars p a q' M' F' S' ∧ n < q'.length ∧ ZO p a b q' ∧ (∀ r w, r < n + 1 → q'[r]? = some w → CL bars p w p.Placed.length q')) ∨ ∃ p', r = .inr (p', true) ∧ r' = .inr (true, p') ∧ Moved P bars k m p a b p') := by
    intro n v q M F S hB hv hz hc
    refine loop_inv2 (fun j s s' => ∃ q' M' F' S', s = ((j : Int), F', q', S') ∧ s' = ((j : Int), M', q') ∧ BF P bars p a q' M' F' S' ∧ q'[n]? = some v ∧ ZO p a b q' ∧ CL bars p v j q' ∧ (∀ r w, r < n → q'[r]? = some w → CL bars p w p.Placed.length q')) _ p.Placed.length (by omega) ⟨q, M, F, S, rfl, rfl, hB, hv, hz, (fun i _ h => by omega), hc⟩ (fun j s s' hj hs => ?_) (fun s s' hs => ?_)
    · obtain ⟨q, M, F, S, rfl, rfl, hB, hv, hz, hcv, hc⟩ := hs
      obtain ⟨e, hpe, hbe, hbe2⟩ := hp.bar hg hj
      have hok := hp.pbar_ok hg hj
      have hpi : idx p.Placed (j : Int) = some e := idx_of hpe
      have hT : p.Tails[j]? = some (p.Tails[j]'(by omega)) := List.getElem?_eq_getElem (by omega)
      generalize p.Tails[j]'(by omega) = t at hT
      have hTi : idx p.Tails (j : Int) = some t := idx_of hT
      have hqi : idx q (n : Int) = some v := idx_of hv
      by_cases htv : t = v
      · subst htv
        have hends := hp.ends hT
        obtain ⟨u0, u1, une, _, _⟩ := other_ok hok hends
        have hoS := other_S (P := P) (pbar bars p j) t h8 hok hends
        have hoI := other_I (pbar bars p j) t
        generalize hu : otherE (pbar bars p j) t = u at u0 u1 une hoS hoI
        have hsl := hB.sl
        have hfl := hB.fl
        have hSu : S[u.toNat]? = some (S[u.toNat]'(by omega)) := List.getElem?_eq_getElem (by omega)
        generalize S[u.toNat]'(by omega) = su at hSu
        have hSi : idx S u = some su := by unfold idx; rw [if_pos u0, hSu]
        have hseen := hB.seen hSu
        rw [Int.toNat_of_nonneg u0] at hseen
        have hhas := hB.has u
        cases su with
        | true =>
          have hm1 : mhas M u = true := hhas.2 (hseen.1 rfl)
          refine .inl ⟨(((j + 1 : Nat) : Int), F, q, S), (((j + 1 : Nat) : Int), M, q), ?_, ?_, q, M, F, S, rfl, rfl, hB, hv, hz, hcv.step hT (fun _ => by rw [hu]; exact hseen.1 rfl), hc⟩
          · unfold m_spec_l4Find_L5
            simp only [hTi, hpi, hgb, hbe, hoS, hSi, Option.bind_some, w64_succ (show j ≤ 1099511627776 by omega), bne_self_eq_false, cond_false, cond_true]
            rw [decide_eq_true (by omega), cond_true]
          · unfold m_impl_moveTo_L10
            simp only [hTi, hpi, hqi, hbe, hoI, hm1, Option.bind_some, w64_succ (show j ≤ 1099511627776 by omega), bne_self_eq_false, cond_false, cond_true]
            rw [decide_eq_true (by omega), cond_true]
        | false =>
          have hnq : u ∉ q := fun h => by have := hseen.2 h; cases this
          have hm1 : mhas M u = false := by
            cases hb : mhas M u with
            | false => rfl
            | true => exact absurd (hhas.1 hb) hnq
          have hB2 := hB.more hg hp hj hv hT hu hnq
          obtain ⟨fu, hfu, hiu, fu0, fuk⟩ := hp.free_in u0 u1
          have hua : u ≠ a := fun e => hnq (e ▸ List.mem_of_getElem? hB.first)
          have hFu : idx F u = some ((F[u.toNat]?).getD 0) := idx_in 0 u0 (by omega)
          have hlast : (q ++ [u])[q.length]? = some u := by rw [List.getElem?_append_right (Nat.le_refl _), Nat.sub_self]; rfl
          have hqn : (q ++ [u])[n]? = some t := by rw [List.getElem?_append_left (List.getElem?_eq_some_iff.1 hv).1]; exact hv
          have hql := hB2.len
          by_cases hfound : u ≠ b ∧ 0 < fu
          · obtain ⟨hub, hpos⟩ := hfound
            obtain ⟨p', fa, hia, es, ei, epl, hmv⟩ := shift_both hg hp hm hgp hgb a0 a1 ((j : Int), M, q) rfl hB2 hlast hua hub hab b0 hfu hpos
            have hne : u.toNat ≠ a.toNat := by omega
            have hia2 : ∀ x : Int, idx (p.Free.set u.toNat x) a = some fa := fun x => by
              unfold idx at hia ⊢
              rw [if_pos a0] at hia ⊢
              rw [List.getElem?_set, if_neg hne, hia]
            have k3 := hp.k3
            refine .inr ⟨.inr (p', true), .inr (true, p'), ?_, ?_, .inr ⟨p', rfl, rfl, hmv⟩⟩
            · unfold m_spec_l4Find_L5
              simp only [hTi, hpi, hgb, hbe, hoS, hSi, hFu, hiu, es, Option.bind_some, bne_self_eq_false, cond_false, show (u != b) = true by simp [hub], decide_eq_true hpos, cond_true]
              rw [decide_eq_true (by omega), cond_true]
            · unfold m_impl_moveTo_L10
              simp only [hTi, hpi, hqi, hbe, hoI, hm1, hiu, hia2, ei, Option.bind_some, bne_self_eq_false, cond_false, show (u == b) = false by simp [hub], show (fu == 0) = false by simp; omega]
              rw [decide_eq_true (by omega), cond_true, ← epl]
          · refine .inl ⟨(((j + 1 : Nat) : Int), F.set u.toNat j, q ++ [u], S.set u.toNat true), (((j + 1 : Nat) : Int), mput M u j, q ++ [u]), ?_, ?_, _, _, _, _, rfl, rfl, hB2, hqn, ?_, hcv.more.step hT (fun _ => by rw [hu]; exact List.mem_append_right _ (List.mem_singleton.2 rfl)), ?_⟩
            rotate_left 2
            · intro w hw hwa hwb
              rcases List.mem_append.1 hw with h1 | h1
              · exact hz w h1 hwa hwb
              · rw [List.mem_singleton] at h1
                subst h1
                rw [hfu]
                have : ¬ 0 < fu := fun h => hfound ⟨hwb, h⟩
                congr 1
                omega
            · intro r w hr hw
              rw [List.getElem?_append_left (by have := (List.getElem?_eq_some_iff.1 hv).1; omega)] at hw
              exact (hc r w hr hw).more
            · unfold m_spec_l4Find_L5
              simp only [hTi, hpi, hgb, hbe, hoS, hSi, hFu, hiu, Option.bind_some, bne_self_eq_false, cond_false, w64_succ (show j ≤ 1099511627776 by omega), lim_ok (show q.length + ([u] : List Int).length ≤ 2147483648 by simp at hql ⊢; omega)]
              rw [decide_eq_true (by omega), cond_true]
              by_cases hub : u = b
              · rw [show (u != b) = false by simp [hub]]
                rfl
              · have : ¬ 0 < fu := fun h => hfound ⟨hub, h⟩
                rw [show (u != b) = true by simp [hub], decide_eq_false this]
                rfl
            · unfold m_impl_moveTo_L10
              simp only [hTi, hpi, hqi, hbe, hoI, hm1, hiu, Option.bind_some, bne_self_eq_false, cond_false, w64_succ (show j ≤ 1099511627776 by omega), lim_ok (show q.length + ([u] : List Int).length ≤ 2147483648 by simp at hql ⊢; omega)]
              rw [decide_eq_true (by omega), cond_true]
              by_cases hub : u = b
              · rw [show (u == b) = true by simp [hub]]
                rfl
              · have : ¬ 0 < fu := fun h => hfound ⟨hub, h⟩
                rw [show (u == b) = false by simp [hub], show (fu == 0) = true by simp; omega]
                rfl
      · have hne : (t != v) = true := by simp; exact htv
        refine .inl ⟨(((j + 1 : Nat) : Int), F, q, S), (((j + 1 : Nat) : Int), M, q), ?_, ?_, q, M, F, S, rfl, rfl, hB, hv, hz, hcv.step hT (fun h => absurd h htv), hc⟩
        · unfold m_spec_l4Find_L5
          simp only [hTi, Option.bind_some, hne, cond_true, w64_succ (show j ≤ 1099511627776 by omega)]
          rw [decide_eq_true (by omega), cond_true]
        · unfold m_impl_moveTo_L10
          simp only [hTi, hpi, hqi, Option.bind_some, hne, cond_true, w64_succ (show j ≤ 1099511627776 by omega)]
          rw [decide_eq_true (by omega), cond_true]
    · obtain ⟨q, M, F, S, rfl, rfl, hB, hv, hz, hcv, hc⟩ := hs
      refine ⟨.inl ((n : Int), F, q, S), .inl ((n : Int), M, q), by simp [m_spec_l4Find_L5], by simp [m_impl_moveTo_L10], .inl ⟨q, M, F, S, rfl, rfl, hB, (List.getElem?_eq_some_iff.1 hv).1, hz, fun r w hr hw => ?_⟩⟩
      by_cases hrn : r = n
      · subst hrn
        rw [hv] at hw
        injection hw with hw
        subst hw
        exact hcv
      · exact hc r w (by omega) hw
  -- the rounds over the points met
  have outer : ∃ r r', loopM (m_spec_l4Find_L4 g p a b) BIG (0, List.replicate P.toNat (-1), [a], (List.replicate P.toNat false).set a.toNat true) = some r ∧ loopM (m_impl_moveTo_L7 bars p a b) BIG (0, mput [] a (-1), [a]) = some r' ∧
      ((r = .inl () ∧ r' = .inl () ∧ ∃ q, Reach P bars p a b q) ∨ ∃ p', r = .inr (p', true) ∧ r' = .inr (true, p') ∧ Moved P bars k m p a b p') := by
    refine loop_inv2 (fun n s s' => ∃ q M F S, s = ((n : Int), F, q, S) ∧ s' = ((n : Int), M, q) ∧ BF P bars p a q M F S ∧ n ≤ q.length ∧ ZO p a b q ∧ (∀ r w, r < n → q[r]? = some w → CL bars p w p.Placed.length q)) _ (P.toNat + 1) (by omega) ⟨[a], _, _, _, rfl, rfl, hstart, Nat.zero_le _, (fun v hv ha _ => absurd (List.mem_singleton.1 hv) ha), (fun r w h => by omega)⟩ (fun n s s' hn hs => ?_) (fun s s' hs => ?_)
    · obtain ⟨q, M, F, S, rfl, rfl, hB, hnl, hz, hc⟩ := hs
      have hql := hB.len
      by_cases hlt : n < q.length
      · have hv := List.getElem?_eq_getElem hlt
        obtain ⟨r, r', e1, e2, hr⟩ := roundB n q[n] q M F S hB hv hz hc
        rcases hr with ⟨q', M', F', S', rfl, rfl, hB', hn', hz', hc'⟩ | ⟨p', rfl, rfl, hmv⟩
        · refine .inl ⟨(((n + 1 : Nat) : Int), F', q', S'), (((n + 1 : Nat) : Int), M', q'), ?_, ?_, q', M', F', S', rfl, rfl, hB', hn', hz', hc'⟩
          · unfold m_spec_l4Find_L4
            simp only [idx_of hv, e1, Option.bind_some, Sum.elim_inl, w64_succ (show n ≤ 1099511627776 by omega)]
            rw [decide_eq_true (by omega), cond_true]
          · unfold m_impl_moveTo_L7
            simp only [e2, Option.bind_some, Sum.elim_inl, w64_succ (show n ≤ 1099511627776 by omega)]
            rw [decide_eq_true (by omega), cond_true]
        · refine .inr ⟨.inr (p', true), .inr (true, p'), ?_, ?_, .inr ⟨p', rfl, rfl, hmv⟩⟩
          · unfold m_spec_l4Find_L4
            simp only [idx_of hv, e1, Option.bind_some, Sum.elim_inr]
            rw [decide_eq_true (by omega), cond_true]
          · unfold m_impl_moveTo_L7
            simp only [e2, Option.bind_some, Sum.elim_inr]
            rw [decide_eq_true (by omega), cond_true]
      · refine .inr ⟨.inl (), .inl (), ?_, ?_, .inl ⟨rfl, rfl, q, List.mem_of_getElem? hB.first, fun v hv => ?_, hz, fun i t ht htq => ?_⟩⟩
        rotate_left 2
        · obtain ⟨r, hr⟩ := List.getElem?_of_mem hv
          exact hB.rng hr
        · obtain ⟨r, hr⟩ := List.getElem?_of_mem htq
          have hrl := (List.getElem?_eq_some_iff.1 hr).1
          have hil := (List.getElem?_eq_some_iff.1 ht).1
          exact hc r t (by omega) hr i t (by omega) ht rfl
        · unfold m_spec_l4Find_L4
          simp only
          rw [decide_eq_false (by omega), cond_false]
        · unfold m_impl_moveTo_L7
          simp only
          rw [decide_eq_false (by omega), cond_false]
    · obtain ⟨q, M, F, S, rfl, rfl, hB, hnl, _, _⟩ := hs
      have hql := hB.len
      omega
  obtain ⟨r, r', e1, e2, hr⟩ := outer
  have hS : m_spec_l4Find g p a b = Sum.elim (fun _ => some (p, false)) (fun r => some r) r := by
    have hra : idx (List.replicate P.toNat false) a = some false := by
      unfold idx
      rw [if_pos a0, List.getElem?_replicate, if_pos (by omega)]
    have hfi := fromInit (g := g) (by omega) (by omega)
    rw [hgp] at hfi
    unfold m_spec_l4Find
    rw [hgp, lenOk_ok (by omega) (by omega), hfi, hra]
    simp only [Option.bind_some, e1]
  have hI : m_impl_moveTo bars p a b = Sum.elim (fun _ => some (false, p)) (fun r => some r) r' := by
    unfold m_impl_moveTo
    rw [e2]
    rfl
  rcases hr with ⟨rfl, rfl, hq⟩ | ⟨p', rfl, rfl, hmv⟩
  · exact .inl ⟨hS, hI, hq⟩
  · exact .inr ⟨p', hS, hI, hmv⟩
def two (p : TPebbles) (a b : Int) : Int := (p.Free[a.toNat]?).getD 0 + (p.Free[b.toNat]?).getD 0
theorem gather_both (hg : GB P bars) (hp : PB P bars k m p) (hm : m ≤ 1000) {g : TGraph} (hgp : g.Points = P) (hgb : g.Bars = bars) {a b : Int} (a0 : 0 ≤ a) (a1 : a < P) (b0 : 0 ≤ b) (b1 : b < P) (hab : a ≠ b) {want : Int} (hw : want ≤ 1000) :
    (∃ p', m_spec_l4Gather g p a b want = some (p', true) ∧ m_impl_gather bars p a b want = some (true, p') ∧ PB P bars k m p' ∧ p'.Placed = p.Placed ∧ want ≤ two p' a b) ∨ ∃ p', m_spec_l4Gather g p a b want = some (p', false) ∧ m_impl_gather bars p a b want = some (false, p') ∧ PB P bars k m p' ∧ p'.Placed = p.Placed ∧ two p' a b < want ∧ (∃ q, Reach P bars p' a b q) ∧ ∃ q, Reach P bars p' b a q := by
  have hwv : ∀ x : Int, 0 ≤ x → x ≤ k → w64 x = x := fun x h1 h2 => by have := hp.k3; exact w64_small (by omega) (by omega)
  have main : ∃ r r', loopM (m_spec_l4Gather_L1 g a b want) BIG (p.Free, p.Tails, p.Placed) = some r ∧ loopM (m_impl_gather_L1 bars a b want) BIG (p.Free, p.Tails, p.Placed) = some r' ∧
      ((∃ p', r = .inl (p'.Free, p'.Tails, p'.Placed) ∧ r' = .inl (p'.Free, p'.Tails, p'.Placed) ∧ PB P bars k m p' ∧ p'.Placed = p.Placed ∧ want ≤ two p' a b) ∨ ∃ p', r = .inr (p', false) ∧ r' = .inr (false, p') ∧ PB P bars k m p' ∧ p'.Placed = p.Placed ∧ two p' a b < want ∧ (∃ q, Reach P bars p' a b q) ∧ ∃ q, Reach P bars p' b a q) := by
    refine loop_inv2 (fun n s s' => ∃ p', s = (p'.Free, p'.Tails, p'.Placed) ∧ s' = (p'.Free, p'.Tails, p'.Placed) ∧ PB P bars k m p' ∧ p'.Placed = p.Placed ∧ (n : Int) ≤ two p' a b) _ 1001 (by omega) ⟨p, rfl, rfl, hp, rfl, ?_⟩ (fun n s s' hn hs => ?_) (fun s s' hs => ?_)
    · obtain ⟨fa, hfa, _, fa0, _⟩ := hp.free_in a0 a1
      obtain ⟨fb, hfb, _, fb0, _⟩ := hp.free_in b0 b1
      unfold two
      rw [hfa, hfb]
      simp only [Option.getD_some]
      omega
    · obtain ⟨p', rfl, rfl, hp', hpl, hn2⟩ := hs
      obtain ⟨fa, hfa, hia, fa0, fak⟩ := hp'.free_in a0 a1
      obtain ⟨fb, hfb, hib, fb0, fbk⟩ := hp'.free_in b0 b1
      have k3 := hp'.k3
      have htwo : two p' a b = fa + fb := by
        unfold two
        rw [hfa, hfb]
        rfl
      have hsum : w64 (fa + fb) = fa + fb := w64_small (by omega) (by omega)
      by_cases hlt : fa + fb < want
      · rcases find_both hg hp' hm hgp hgb a0 a1 b0 b1 hab with ⟨s1, i1, hq1⟩ | ⟨p2, s1, i1, hmv⟩
        · rcases find_both hg hp' hm hgp hgb b0 b1 a0 a1 (Ne.symm hab) with ⟨s2, i2, hq2⟩ | ⟨p2, s2, i2, hmv⟩
          · refine .inr ⟨.inr (p', false), .inr (false, p'), ?_, ?_, .inr ⟨p', rfl, rfl, hp', hpl, by omega, hq1, hq2⟩⟩
            · unfold m_spec_l4Gather_L1
              simp only [hia, hib, Option.bind_some, hsum, decide_eq_true hlt, cond_true, s1, s2, cond_false, Bool.not_false]
            · unfold m_impl_gather_L1
              simp only [hia, hib, Option.bind_some, hsum, decide_eq_true hlt, cond_true, i1, i2, Bool.not_false]
          · refine .inl ⟨(p2.Free, p2.Tails, p2.Placed), (p2.Free, p2.Tails, p2.Placed), ?_, ?_, p2, rfl, rfl, hmv.pb, hmv.placed.trans hpl, ?_⟩
            · unfold m_spec_l4Gather_L1
              simp only [hia, hib, Option.bind_some, hsum, decide_eq_true hlt, cond_true, s1, s2, cond_false, Bool.not_false, Bool.not_true]
            · unfold m_impl_gather_L1
              simp only [hia, hib, Option.bind_some, hsum, decide_eq_true hlt, cond_true, i1, i2, Bool.not_false, Bool.not_true, cond_false]
            · have h1 := hmv.fa hfb
              have h2 := hmv.fb
              rw [hfa] at h2
              unfold two
              rw [h1, h2]
              simp only [Option.getD_some]
              omega
        · refine .inl ⟨(p2.Free, p2.Tails, p2.Placed), (p2.Free, p2.Tails, p2.Placed), ?_, ?_, p2, rfl, rfl, hmv.pb, hmv.placed.trans hpl, ?_⟩
          · unfold m_spec_l4Gather_L1
            simp only [hia, hib, Option.bind_some, hsum, decide_eq_true hlt, cond_true, s1, cond_false, Bool.not_true]
          · unfold m_impl_gather_L1
            simp only [hia, hib, Option.bind_some, hsum, decide_eq_true hlt, cond_true, i1, Bool.not_true, cond_false]
          · have h1 := hmv.fa hfa
            have h2 := hmv.fb
            rw [hfb] at h2
            unfold two
            rw [h1, h2]
            simp only [Option.getD_some]
            omega
      · refine .inr ⟨.inl (p'.Free, p'.Tails, p'.Placed), .inl (p'.Free, p'.Tails, p'.Placed), ?_, ?_, .inl ⟨p', rfl, rfl, hp', hpl, by omega⟩⟩
        · unfold m_spec_l4Gather_L1
          simp only [hia, hib, Option.bind_some, hsum, decide_eq_false hlt, cond_false]
        · unfold m_impl_gather_L1
          simp only [hia, hib, Option.bind_some, hsum, decide_eq_false hlt, cond_false]
    · obtain ⟨p', rfl, rfl, hp', hpl, hn2⟩ := hs
      obtain ⟨fa, hfa, hia, fa0, fak⟩ := hp'.free_in a0 a1
      obtain ⟨fb, hfb, hib, fb0, fbk⟩ := hp'.free_in b0 b1
      have k3 := hp'.k3
      unfold two at hn2
      rw [hfa, hfb] at hn2
      simp only [Option.getD_some] at hn2
      omega
  obtain ⟨r, r', e1, e2, hr⟩ := main
  have hS : m_spec_l4Gather g p a b want = Sum.elim (fun b27 => some (TPebbles.mk b27.1 b27.2.1 b27.2.2, true)) (fun r => some r) r := by
    unfold m_spec_l4Gather
    rw [l4Copy_eq hg hp hm]
    simp only [Option.bind_some, e1]
  have hI : m_impl_gather bars p a b want = Sum.elim (fun b24 => some (true, TPebbles.mk b24.1 b24.2.1 b24.2.2)) (fun r => some r) r' := by
    unfold m_impl_gather
    rw [e2]
    rfl
  rcases hr with ⟨p', rfl, rfl, h1, h2, h3⟩ | ⟨p', rfl, rfl, h1⟩
  · exact .inl ⟨p', hS, hI, h1, h2, h3⟩
  · exact .inr ⟨p', hS, hI, h1⟩
end
end Go.Proofs.Yteognanhfpbghaa
end
section
set_option linter.unusedVariables false
set_option linter.unusedSimpArgs false
set_option linter.unnecessarySimpa false
open Go Go.Fw
namespace Go.Proofs.Yteognanhfpbghaa
theorem PB.weak {P : Int} {bars : List TBar} {k : Int} {m : Nat} {p : TPebbles} (h : PB P bars k m p) : PB P bars k (m + 1) p :=
  ⟨h.k1, h.k3, h.fl, h.tl, by have := h.pl; omega, fun hx => by have := h.pr hx; omega, h.inc, h.ends, h.fr⟩
theorem snoc_get {α : Type} {l : List α} {x y : α} {i : Nat} (h : (l ++ [x])[i]? = some y) : (i < l.length ∧ l[i]? = some y) ∨ (i = l.length ∧ y = x) := by
  rw [List.getElem?_append] at h
  split at h
  · exact .inl ⟨by assumption, h⟩
  · right
    have : i - l.length = 0 := by
      rcases Nat.eq_zero_or_pos (i - l.length) with h0 | h0
      · exact h0
      · rw [List.getElem?_eq_none (by simp; omega)] at h
        cases h
    rw [this] at h
    simp at h
    exact ⟨by omega, h.symm⟩
theorem PB.place {P : Int} {bars : List TBar} {k : Int} {m : Nat} {p : TPebbles} (hg : GB P bars) (hp : PB P bars k m p) (hml : m < bars.length) {x : TBar} (hx : bars[m]? = some x) {t f : Int} (ht : t = x.A ∨ t = x.B) (hf : p.Free[t.toNat]? = some f) (hpos : 0 < f) :
    PB P bars k (m + 1) ⟨p.Free.set t.toNat (f - 1), p.Tails ++ [t], p.Placed ++ [(m : Int)]⟩ := by
  have hpl := hp.pl
  have htl := hp.tl
  have t0 : 0 ≤ t := by
    rcases ht with rfl | rfl
    · exact hg.a0 hx
    · exact hg.b0 hx
  have hlast : ∀ {i : Nat} {v : Int}, (p.Placed ++ [(m : Int)])[i]? = some v → (i < p.Placed.length ∧ p.Placed[i]? = some v) ∨ (i = p.Placed.length ∧ v = (m : Int)) := fun h => snoc_get h
  refine ⟨hp.k1, hp.k3, by simpa using hp.fl, by simp [htl], by simp; omega, fun {i e} he => ?_, fun {i e e'} he he' => ?_, fun {i v} hv => ?_, fun {v w} hv => ?_⟩
  · rcases hlast he with ⟨_, h⟩ | ⟨_, rfl⟩
    · have := hp.pr h
      omega
    · omega
  · rcases hlast he' with ⟨h1, h2⟩ | ⟨h1, rfl⟩
    · rcases hlast he with ⟨_, h3⟩ | ⟨h3, _⟩
      · exact hp.inc h3 h2
      · omega
    · rcases hlast he with ⟨_, h3⟩ | ⟨h3, _⟩
      · have := hp.pr h3
        omega
      · omega
  · change (p.Tails ++ [t])[i]? = some v at hv
    rcases snoc_get hv with ⟨h1, h2⟩ | ⟨h1, rfl⟩
    · have := hp.ends h2
      have e : pbar bars ⟨p.Free.set t.toNat (f - 1), p.Tails ++ [t], p.Placed ++ [(m : Int)]⟩ i = pbar bars p i := by
        unfold pbar
        simp only
        rw [List.getElem?_append_left (by omega)]
      rw [e]
      exact this
    · have e : pbar bars ⟨p.Free.set v.toNat (f - 1), p.Tails ++ [v], p.Placed ++ [(m : Int)]⟩ i = x := by
        unfold pbar
        simp only
        rw [List.getElem?_append_right (by omega), h1, htl, Nat.sub_self]
        simp [hx]
      rw [e]
      exact ht
  · change 0 ≤ w ∧ w + ((p.Tails ++ [t]).count (v : Int) : Int) = k
    rw [List.count_append]
    rcases set_get hv with ⟨h1, rfl⟩ | ⟨h1, h2⟩
    · have hvt : (v : Int) = t := by omega
      have := hp.fr hf
      rw [Int.toNat_of_nonneg t0] at this
      rw [hvt]
      simp
      omega
    · have := hp.fr h2
      have h3 : ([t] : List Int).count (v : Int) = 0 := by
        rw [List.count_eq_zero]
        simp
        omega
      rw [h3]
      omega
theorem isRangeS_eq (k l : Int) : m_spec_IsRange k l = some ((decide (1 ≤ k) && decide (k ≤ 3)) && (decide (0 ≤ l) && decide (l ≤ 2 * k - 1))) := by
  unfold m_spec_IsRange
  rw [l1In_eq]
  cases h : decide (1 ≤ k) && decide (k ≤ 3)
  · rfl
  · simp only [Bool.and_eq_true, decide_eq_true_eq] at h
    rw [w64_small (n := 2 * k) (by omega) (by omega)]
    have : decide (l < 2 * k) = decide (l ≤ 2 * k - 1) := by rw [decide_eq_decide]; omega
    rw [this]
    cases decide (0 ≤ l) <;> rfl
def placeI (bars : List TBar) (l : Int) (p : TPebbles) (m : Nat) : TPebbles := match m_impl_place bars l p (m : Int) with
  | some (true, q) => q
  | _ => p
theorem place_both {P : Int} {bars : List TBar} {k l : Int} {m : Nat} {p : TPebbles} (hg : GB P bars) (hp : PB P bars k m p) (hml : m < bars.length) (hl : 0 ≤ l ∧ l ≤ 2 * k - 1) {g : TGraph} (hgp : g.Points = P) (hgb : g.Bars = bars) :
    PB P bars k (m + 1) (placeI bars l p m) ∧ (∃ ok q, m_impl_place bars l p (m : Int) = some (ok, q) ∧ placeI bars l p m = bif ok then q else p) ∧
      (m_spec_IsPebbles g k p = some true → m_spec_PlaceBar g k l p (m : Int) = some (placeI bars l p m, true) ∨ m_spec_PlaceBar g k l p (m : Int) = some (placeI bars l p m, false)) := by
  have hlen := hg.len
  have k3 := hp.k3
  have k1 := hp.k1
  have hx := List.getElem?_eq_getElem hml
  have hxi := idx_of (k := m) hx
  generalize bars[m] = x at hx hxi
  have hw : w64 (l + 1) = l + 1 := w64_small (by omega) (by omega)
  have hpre : m_spec_IsPebbles g k p = some true → ∀ M : Option (TPebbles × Bool), (((m_spec_IsPebbles g k p).bind fun r10 => bif (!r10) then some true else (m_spec_IsRange k l).bind fun r12 => bif (!r12) then some true else bif decide ((m : Int) < 0) then some true else bif decide ((g.Bars.length : Int) ≤ (m : Int)) then some true
      else bif decide (0 < (p.Placed.length : Int)) then (idx p.Placed (w64 ((p.Placed.length : Int) - 1))).bind fun x17 => some (decide ((m : Int) ≤ x17)) else some false : Option Bool).bind fun j9 => bif j9 then (m_spec_l4Copy p).bind fun r19 => some (r19, false) else M) = M := by
    intro h M
    have hpl := hp.pl
    rw [h, isRangeS_eq, decide_eq_true k1, decide_eq_true k3, decide_eq_true hl.1, decide_eq_true hl.2, decide_eq_false (show ¬ (m : Int) < 0 by omega), hgb, decide_eq_false (show ¬ (bars.length : Int) ≤ (m : Int) by omega)]
    simp only [Option.bind_some, Bool.and_self, Bool.not_true, cond_false]
    by_cases h0 : 0 < p.Placed.length
    · have hi : p.Placed[p.Placed.length - 1]? = some (p.Placed[p.Placed.length - 1]'(by omega)) := List.getElem?_eq_getElem (by omega)
      have hlt := hp.pr hi
      have e : w64 ((p.Placed.length : Int) - 1) = ((p.Placed.length - 1 : Nat) : Int) := by rw [w64_small (by omega) (by omega)]; omega
      rw [decide_eq_true (show 0 < (p.Placed.length : Int) by omega), e, idx_of hi]
      simp only [Option.bind_some, cond_true]
      rw [decide_eq_false (by omega)]
      rfl
    · rw [decide_eq_false (show ¬ 0 < (p.Placed.length : Int) by omega)]
      rfl
  rcases gather_both hg hp (by omega) hgp hgb (hg.a0 hx) (hg.ap hx) (hg.b0 hx) (hg.bp hx) (hg.ab hx) (want := l + 1) (by omega) with ⟨p', s1, i1, hp', hpl, htwo⟩ | ⟨p'', s1, i1, _⟩
  · obtain ⟨fa, hfa, hia, fa0, fak⟩ := hp'.free_in (hg.a0 hx) (hg.ap hx)
    obtain ⟨fb, hfb, hib, fb0, fbk⟩ := hp'.free_in (hg.b0 hx) (hg.bp hx)
    unfold two at htwo
    rw [hfa, hfb] at htwo
    simp only [Option.getD_some] at htwo
    have hpll := hp'.pl
    have htl := hp'.tl
    -- the tail and its pebbles
    obtain ⟨t, f, hte, htf, hti, hpos, hfk, htail⟩ : ∃ t f, (t = x.A ∨ t = x.B) ∧ p'.Free[t.toNat]? = some f ∧ idx p'.Free t = some f ∧ 0 < f ∧ f ≤ k ∧ (bif fa == 0 then some x.B else some x.A : Option Int) = some t := by
      by_cases h0 : fa = 0
      · exact ⟨x.B, fb, .inr rfl, hfb, hib, by omega, fbk, by simp [h0]⟩
      · have : (fa == 0) = false := by simp [h0]
        exact ⟨x.A, fa, .inl rfl, hfa, hia, by omega, fak, by simp [this]⟩
    have hI : m_impl_place bars l p (m : Int) = some (true, ⟨p'.Free.set t.toNat (f - 1), p'.Tails ++ [t], p'.Placed ++ [(m : Int)]⟩) := by
      unfold m_impl_place
      simp only [hxi, hw, i1, hia, htail, hti, Option.bind_some, Bool.not_true, cond_false, lim_ok (show p'.Tails.length + ([t] : List Int).length ≤ 2147483648 by simp; omega), lim_ok (show p'.Placed.length + ([(m : Int)] : List Int).length ≤ 2147483648 by simp; omega), w64_small (n := f - 1) (show -4611686018427387904 ≤ f - 1 by omega) (by omega)]
    have hpI : placeI bars l p m = ⟨p'.Free.set t.toNat (f - 1), p'.Tails ++ [t], p'.Placed ++ [(m : Int)]⟩ := by
      unfold placeI
      rw [hI]
    refine ⟨by rw [hpI]; exact hp'.place hg hml hx hte htf hpos, ⟨true, _, hI, hpI⟩, fun h => .inl ?_⟩
    rw [hpI]
    unfold m_spec_PlaceBar
    rw [hpre h]
    simp only [hgb, hxi, hw, s1, hia, htail, hti, Option.bind_some, Bool.not_true, cond_false, lim_ok (show p'.Tails.length + ([t] : List Int).length ≤ 2147483648 by simp; omega), lim_ok (show p'.Placed.length + ([(m : Int)] : List Int).length ≤ 2147483648 by simp; omega), w64_small (n := f - 1) (show -4611686018427387904 ≤ f - 1 by omega) (by omega)]
  · have hI : m_impl_place bars l p (m : Int) = some (false, p'') := by
      unfold m_impl_place
      simp only [hxi, hw, i1, Option.bind_some, Bool.not_false, cond_true]
    have hpI : placeI bars l p m = p := by
      unfold placeI
      rw [hI]
    refine ⟨by rw [hpI]; exact hp.weak, ⟨false, _, hI, hpI⟩, fun h => .inr ?_⟩
    rw [hpI]
    unfold m_spec_PlaceBar
    rw [hpre h]
    simp only [hgb, hxi, hw, s1, Option.bind_some, Bool.not_false, cond_true, l4Copy_eq hg hp (by omega)]
def played (P : Int) (bars : List TBar) (k l : Int) (n : Nat) : TPebbles := iter (fun m p => placeI bars l p m) n ⟨List.replicate P.toNat k, [], []⟩
theorem played_PB {P : Int} {bars : List TBar} {k l : Int} (hg : GB P bars) (k1 : 1 ≤ k) (k3 : k ≤ 3) (hl : 0 ≤ l ∧ l ≤ 2 * k - 1) : ∀ n, n ≤ bars.length → PB P bars k n (played P bars k l n)
  | 0, _ => by
    have := hg.p1
    refine ⟨k1, k3, by show ((List.replicate P.toNat k).length : Int) = P; simp; omega, rfl, Nat.le_refl _, (fun h => by cases h), (fun h => by cases h), (fun h => by cases h), fun {v f} hv => ?_⟩
    change (List.replicate P.toNat k)[v]? = some f at hv
    rw [List.getElem?_replicate] at hv
    split at hv
    · injection hv with hv
      subst hv
      show 0 ≤ k ∧ k + ((([] : List Int).count (v : Int) : Nat) : Int) = k
      simp
      omega
    · cases hv
  | n + 1, h => (place_both hg (played_PB hg k1 k3 hl n (by omega)) (by omega) hl (g := ⟨P, bars⟩) rfl rfl).1
def only (g : TGraph) (keep : List Int) : TGraph := ⟨g.Points, pieces (fun k => match g.Bars[k]? with | some x => bif hasI keep k then [x] else [] | none => []) g.Bars.length⟩
end Go.Proofs.Yteognanhfpbghaa
end
section
set_option linter.unusedVariables false
set_option linter.unusedSimpArgs false
set_option linter.unnecessarySimpa false
namespace Go.Sp
def su (f : Nat → Nat) : Nat → Nat
  | 0 => 0
  | n + 1 => su f n + f n
theorem su_congr {f g : Nat → Nat} : ∀ n, (∀ i, i < n → f i = g i) → su f n = su g n
  | 0, _ => rfl
  | n + 1, h => by
    show su f n + f n = su g n + g n
    rw [su_congr n fun i hi => h i (by omega), h n (by omega)]
theorem su_le {f g : Nat → Nat} : ∀ n, (∀ i, i < n → f i ≤ g i) → su f n ≤ su g n
  | 0, _ => Nat.le_refl _
  | n + 1, h => by
    have h1 := su_le n fun i hi => h i (by omega)
    have h2 := h n (by omega)
    show su f n + f n ≤ su g n + g n
    omega
theorem su_add (f g : Nat → Nat) : ∀ n, su (fun i => f i + g i) n = su f n + su g n
  | 0 => rfl
  | n + 1 => by
    show su (fun i => f i + g i) n + (f n + g n) = (su f n + f n) + (su g n + g n)
    rw [su_add f g n]
    omega
theorem su_zero {f : Nat → Nat} : ∀ n, (∀ i, i < n → f i = 0) → su f n = 0
  | 0, _ => rfl
  | n + 1, h => by
    show su f n + f n = 0
    rw [su_zero n fun i hi => h i (by omega), h n (by omega)]
theorem su_bump {f g : Nat → Nat} {j c : Nat} : ∀ n, j < n → g j = f j + c → (∀ i, i < n → i ≠ j → g i = f i) → su g n = su f n + c
  | 0, hj, _, _ => by omega
  | n + 1, hj, h1, h2 => by
    show su g n + g n = su f n + f n + c
    by_cases hjn : j = n
    · subst hjn
      rw [su_congr j fun i hi => h2 i (by omega) (by omega), h1]
      omega
    · rw [su_bump n (by omega) h1 fun i hi hne => h2 i (by omega) hne, h2 n (by omega) (fun e => hjn e.symm)]
      omega
theorem su_lt {f g : Nat → Nat} {j : Nat} : ∀ n, (∀ i, i < n → f i ≤ g i) → j < n → f j < g j → su f n < su g n
  | 0, _, hj, _ => by omega
  | n + 1, h, hj, h1 => by
    show su f n + f n < su g n + g n
    by_cases hjn : j = n
    · subst hjn
      have := su_le j fun i hi => h i (by omega)
      omega
    · have := su_lt n (fun i hi => h i (by omega)) (by omega : j < n) h1
      have := h n (by omega)
      omega
theorem su_pos {f : Nat → Nat} : ∀ n, 0 < su f n → ∃ i, i < n ∧ 0 < f i
  | 0, h => by simp [su] at h
  | n + 1, h => by
    change 0 < su f n + f n at h
    by_cases h1 : 0 < f n
    · exact ⟨n, by omega, h1⟩
    · obtain ⟨i, hi, h2⟩ := su_pos n (by omega : 0 < su f n)
      exact ⟨i, by omega, h2⟩
theorem su_one {f : Nat → Nat} {j : Nat} {n : Nat} (hj : j < n) : f j ≤ su f n := by
  have : su (fun i => if i = j then f j else 0) n = 0 + f j := by
    have := su_bump (f := fun _ => 0) (g := fun i => if i = j then f j else 0) (c := f j) n hj (by simp) (fun i _ hne => by simp [hne])
    rw [this, su_zero n fun _ _ => rfl]
  have h2 := su_le (f := fun i => if i = j then f j else 0) (g := f) n fun i _ => by
    show (if i = j then f j else 0) ≤ f i
    split
    · rename_i h; subst h; exact Nat.le_refl _
    · exact Nat.zero_le _
  omega
def inn (X : Nat → Bool) (i : Nat) : Bool := X (i / 8) && X (i % 8)
def size (X : Nat → Bool) : Nat := su (fun v => if X v then 1 else 0) 8
def span (I : Nat → Nat) (X : Nat → Bool) : Nat := su (fun i => if inn X i then I i else 0) 64
def card (I : Nat → Nat) : Nat := su I 64
def cap (X Y : Nat → Bool) (v : Nat) : Bool := X v && Y v
def cup (X Y : Nat → Bool) (v : Nat) : Bool := X v || Y v
def add1 (I : Nat → Nat) (e i : Nat) : Nat := if i = e then I i + 1 else I i
def sub1 (I : Nat → Nat) (e i : Nat) : Nat := if i = e then I i - 1 else I i
theorem inn_cap (X Y : Nat → Bool) (i : Nat) : inn (cap X Y) i = (inn X i && inn Y i) := by
  unfold inn cap
  cases X (i / 8) <;> cases X (i % 8) <;> cases Y (i / 8) <;> cases Y (i % 8) <;> rfl
theorem inn_cup {X Y : Nat → Bool} {i : Nat} (h : inn X i = true ∨ inn Y i = true) : inn (cup X Y) i = true := by
  unfold inn cup at *
  revert h
  cases X (i / 8) <;> cases X (i % 8) <;> cases Y (i / 8) <;> cases Y (i % 8) <;> simp
theorem size_cc (X Y : Nat → Bool) : size (cap X Y) + size (cup X Y) = size X + size Y := by
  unfold size
  rw [← su_add, ← su_add]
  refine su_congr 8 fun v _ => ?_
  unfold cap cup
  cases X v <;> cases Y v <;> rfl
theorem span_cc (I : Nat → Nat) (X Y : Nat → Bool) : span I X + span I Y ≤ span I (cap X Y) + span I (cup X Y) := by
  unfold span
  rw [← su_add, ← su_add]
  refine su_le 64 fun i _ => ?_
  show (if inn X i then I i else 0) + (if inn Y i then I i else 0) ≤ (if inn (cap X Y) i then I i else 0) + (if inn (cup X Y) i then I i else 0)
  rw [inn_cap]
  cases hx : inn X i <;> cases hy : inn Y i
  · simp
  · rw [inn_cup (.inr hy)]; simp
  · rw [inn_cup (.inl hx)]; simp
  · rw [inn_cup (.inl hx)]; simp
theorem size_two {X : Nat → Bool} {a b : Nat} (ha : a < 8) (hb : b < 8) (hab : a ≠ b) (xa : X a = true) (xb : X b = true) : 2 ≤ size X := by
  unfold size
  have h1 : su (fun v => if v = a then 1 else 0) 8 = 1 := by
    have := su_bump (f := fun _ => 0) (g := fun v => if v = a then 1 else 0) (c := 1) 8 ha (by simp) (fun i _ hne => by simp [hne])
    rw [this, su_zero 8 fun _ _ => rfl]
  have h2 : su (fun v => if v = b then 1 else 0) 8 = 1 := by
    have := su_bump (f := fun _ => 0) (g := fun v => if v = b then 1 else 0) (c := 1) 8 hb (by simp) (fun i _ hne => by simp [hne])
    rw [this, su_zero 8 fun _ _ => rfl]
  have h3 := su_le (f := fun v => (if v = a then 1 else 0) + (if v = b then 1 else 0)) (g := fun v => if X v then 1 else 0) 8 fun v _ => by
    show (if v = a then 1 else 0) + (if v = b then 1 else 0) ≤ (if X v then 1 else 0)
    by_cases h1 : v = a
    · subst h1
      rw [if_pos rfl, if_neg hab, xa]
      simp
    · by_cases h2 : v = b
      · subst h2
        rw [if_neg h1, if_pos rfl, xb]
        simp
      · rw [if_neg h1, if_neg h2]
        exact Nat.zero_le _
  rw [su_add, h1, h2] at h3
  exact h3
theorem size_inn {X : Nat → Bool} {i : Nat} (hi : i < 64) (hne : i / 8 ≠ i % 8) (h : inn X i = true) : 2 ≤ size X := by
  unfold inn at h
  rw [Bool.and_eq_true] at h
  exact size_two (by omega) (by omega) hne h.1 h.2
theorem span_add1 (I : Nat → Nat) {e : Nat} (he : e < 64) (X : Nat → Bool) : span (add1 I e) X = span I X + if inn X e then 1 else 0 := by
  unfold span
  refine su_bump (j := e) 64 he ?_ (fun i _ hne => ?_)
  · show (if inn X e then add1 I e e else 0) = (if inn X e then I e else 0) + _
    unfold add1
    cases inn X e <;> simp
  · show (if inn X i then add1 I e i else 0) = (if inn X i then I i else 0)
    unfold add1
    rw [if_neg hne]
theorem span_sub1 {I : Nat → Nat} {e : Nat} (he : e < 64) (hp : 0 < I e) (X : Nat → Bool) : span (sub1 I e) X + (if inn X e then 1 else 0) = span I X := by
  have h : span I X = span (add1 (sub1 I e) e) X := by
    unfold span
    refine su_congr 64 fun i _ => ?_
    have : add1 (sub1 I e) e i = I i := by
      unfold add1 sub1
      by_cases h : i = e
      · subst h
        simp
        omega
      · simp [h]
    rw [this]
  rw [h, span_add1 _ he]
theorem card_add1 (I : Nat → Nat) {e : Nat} (he : e < 64) : card (add1 I e) = card I + 1 :=
  su_bump (j := e) 64 he (by simp [add1]) (fun i _ hne => by simp [add1, hne])
theorem card_sub1 {I : Nat → Nat} {e : Nat} (he : e < 64) (hp : 0 < I e) : card (sub1 I e) + 1 = card I :=
  (su_bump (f := sub1 I e) (g := I) (j := e) 64 he (by simp [sub1]; omega) (fun i _ hne => by simp [sub1, hne])).symm
theorem span_mono {I J : Nat → Nat} (h : ∀ i, i < 64 → I i ≤ J i) (X : Nat → Bool) : span I X ≤ span J X :=
  su_le 64 fun i hi => by
    show (if inn X i then I i else 0) ≤ (if inn X i then J i else 0)
    split
    · exact h i hi
    · exact Nat.le_refl _
theorem span_congr {I J : Nat → Nat} (h : ∀ i, i < 64 → I i = J i) (X : Nat → Bool) : span I X = span J X :=
  su_congr 64 fun i hi => by rw [h i hi]
structure Sparse (k l : Nat) (I : Nat → Nat) : Prop where
  sp : ∀ X, 0 < span I X → span I X + l ≤ k * size X
  ll : ∀ i, i < 64 → 0 < I i → i / 8 ≠ i % 8
def tight (k l : Nat) (I : Nat → Nat) (X : Nat → Bool) : Prop := span I X + l = k * size X
section
variable {k l : Nat} {I J : Nat → Nat}
theorem Sparse.congr (h : Sparse k l I) (e : ∀ i, i < 64 → I i = J i) : Sparse k l J :=
  ⟨fun X hX => by rw [← span_congr e X] at hX ⊢; exact h.sp X hX, fun i hi hp => h.ll i hi (by rw [e i hi]; exact hp)⟩
theorem Sparse.sub (h : Sparse k l I) (e : ∀ i, i < 64 → J i ≤ I i) : Sparse k l J :=
  ⟨fun X hX => by
    have h1 := span_mono e X
    have := h.sp X (by omega)
    omega, fun i hi hp => h.ll i hi (by have := e i hi; omega)⟩
theorem Sparse.bound (hl : l < 2 * k) (h : Sparse k l I) {X : Nat → Bool} (h2 : 2 ≤ size X) : span I X + l ≤ k * size X := by
  by_cases h0 : 0 < span I X
  · exact h.sp X h0
  · have : 2 * k ≤ k * size X := by rw [Nat.mul_comm]; exact Nat.mul_le_mul_left _ h2
    omega
theorem tight_cc (hl : l < 2 * k) (h : Sparse k l I) {X Y : Nat → Bool} (hX : tight k l I X) (hY : tight k l I Y) (h2 : 2 ≤ size (cap X Y)) : tight k l I (cap X Y) ∧ tight k l I (cup X Y) := by
  have h1 := size_cc X Y
  have h3 := span_cc I X Y
  have hsz : size (cap X Y) ≤ size (cup X Y) := su_le 8 fun v _ => by
    show (if cap X Y v then 1 else 0) ≤ (if cup X Y v then 1 else 0)
    unfold cap cup
    cases X v <;> cases Y v <;> simp
  have h4 := h.bound hl h2
  have h5 := h.bound hl (X := cup X Y) (by omega)
  unfold tight at *
  have h6 : k * size (cap X Y) + k * size (cup X Y) = k * size X + k * size Y := by rw [← Nat.mul_add, ← Nat.mul_add, h1]
  omega
theorem not_add (hl : l < 2 * k) (h : Sparse k l I) {e : Nat} (he : e < 64) (hne : e / 8 ≠ e % 8) (hn : ¬ Sparse k l (add1 I e)) : ∃ X, inn X e = true ∧ tight k l I X := by
  apply Classical.byContradiction
  intro hno
  refine hn ⟨fun X hX => ?_, fun i hi hp => ?_⟩
  · rw [span_add1 I he] at hX ⊢
    cases hx : inn X e with
    | false =>
      rw [hx] at hX
      simp only [Bool.false_eq_true, if_false, Nat.add_zero] at hX ⊢
      exact h.sp X hX
    | true =>
      have h2 := size_inn he hne hx
      have h3 := h.bound hl h2
      by_cases ht : tight k l I X
      · exact absurd ⟨X, hx, ht⟩ hno
      · unfold tight at ht
        simp only [if_true]
        omega
  · unfold add1 at hp
    by_cases hie : i = e
    · rw [hie]; exact hne
    · rw [if_neg hie] at hp
      exact h.ll i hi hp
theorem tight_no {e : Nat} (he : e < 64) {X : Nat → Bool} (hx : inn X e = true) (ht : k * size X ≤ span I X + l) : ¬ Sparse k l (add1 I e) := fun h => by
  have := h.sp X (by rw [span_add1 I he, hx]; simp)
  rw [span_add1 I he, hx] at this
  simp only [if_true] at this
  omega
theorem least_tight {e : Nat} : ∀ n, (∃ X, size X ≤ n ∧ inn X e = true ∧ tight k l I X) → ∃ X, inn X e = true ∧ tight k l I X ∧ ∀ Y, inn Y e = true → tight k l I Y → size X ≤ size Y
  | 0, ⟨X, h0, h1, h2⟩ => ⟨X, h1, h2, fun Y _ _ => by omega⟩
  | n + 1, ⟨X, h0, h1, h2⟩ => by
    by_cases h : ∃ Y, size Y ≤ n ∧ inn Y e = true ∧ tight k l I Y
    · exact least_tight n h
    · refine ⟨X, h1, h2, fun Y h3 h4 => ?_⟩
      apply Classical.byContradiction
      intro h5
      exact h ⟨Y, by omega, h3, h4⟩
theorem cap_less {X Y : Nat → Bool} {f : Nat} (hf : f < 64) (hX : inn X f = true) (hY : inn Y f = false) : size (cap X Y) < size X := by
  unfold inn at hX hY
  rw [Bool.and_eq_true] at hX
  have : ∃ v, v < 8 ∧ X v = true ∧ Y v = false := by
    cases h1 : Y (f / 8) with
    | false => exact ⟨f / 8, by omega, hX.1, h1⟩
    | true =>
      rw [h1, Bool.true_and] at hY
      exact ⟨f % 8, by omega, hX.2, hY⟩
  obtain ⟨v, hv, h1, h2⟩ := this
  refine su_lt 8 (fun v _ => ?_) hv ?_
  · show (if cap X Y v then 1 else 0) ≤ (if X v then 1 else 0)
    unfold cap
    cases X v <;> cases Y v <;> simp
  · show (if cap X Y v then 1 else 0) < (if X v then 1 else 0)
    unfold cap
    rw [h1, h2]
    simp
theorem exch (hl : l < 2 * k) : ∀ n (I J : Nat → Nat), Sparse k l I → Sparse k l J → su (fun i => J i - I i) 64 ≤ n → card I < card J → ∃ e, e < 64 ∧ I e < J e ∧ Sparse k l (add1 I e) := by
  intro n
  induction n with
  | zero =>
    intro I J hI hJ hn hc
    have : card J ≤ card I := su_le 64 fun i hi => by
      have : J i - I i ≤ su (fun i => J i - I i) 64 := su_one (f := fun i => J i - I i) hi
      omega
    omega
  | succ n ih =>
    intro I J hI hJ hn hc
    apply Classical.byContradiction
    intro hno
    have hnot : ∀ e, e < 64 → I e < J e → ¬ Sparse k l (add1 I e) := fun e h1 h2 h3 => hno ⟨e, h1, h2, h3⟩
    -- a bar of J more
    have : ∃ e, e < 64 ∧ I e < J e := by
      apply Classical.byContradiction
      intro hx
      have : card J ≤ card I := su_le 64 fun i hi => by
        apply Classical.byContradiction
        intro h
        exact hx ⟨i, hi, by omega⟩
      omega
    obtain ⟨e, he, hle⟩ := this
    have hne := hJ.ll e he (by omega)
    obtain ⟨X0, hx0, ht0⟩ := not_add hl hI he hne (hnot e he hle)
    obtain ⟨X, hx, ht, hmin⟩ := least_tight (size X0) ⟨X0, Nat.le_refl _, hx0, ht0⟩
    -- a bar of I more, in X
    have : ∃ f, f < 64 ∧ inn X f = true ∧ J f < I f := by
      apply Classical.byContradiction
      intro hno2
      have h1 : span I X < span J X := su_lt (j := e) 64 (fun i hi => by
        show (if inn X i then I i else 0) ≤ (if inn X i then J i else 0)
        cases hxi : inn X i with
        | false => exact Nat.le_refl _
        | true =>
          simp only [if_true]
          apply Classical.byContradiction
          intro h
          exact hno2 ⟨i, hi, hxi, by omega⟩) he (by
        show (if inn X e then I e else 0) < (if inn X e then J e else 0)
        rw [hx]
        exact hle)
      have h2 := hJ.sp X (by omega)
      unfold tight at ht
      omega
    obtain ⟨f, hf, hxf, hlf⟩ := this
    have hfe : f ≠ e := fun h => by subst h; omega
    have hfne := hI.ll f hf (by omega)
    have hpf : 0 < add1 I e f := by unfold add1; rw [if_neg hfe]; omega
    -- the exchange
    have hspan : ∀ Y, span (sub1 (add1 I e) f) Y + (if inn Y f then 1 else 0) = span I Y + (if inn Y e then 1 else 0) := fun Y => by
      rw [span_sub1 hf hpf, span_add1 I he]
    have hI' : Sparse k l (sub1 (add1 I e) f) := by
      refine ⟨fun Y hY => ?_, fun i hi hp => ?_⟩
      · have hs := hspan Y
        obtain ⟨i, hi, hpi⟩ := su_pos 64 hY
        have hyi : inn Y i = true := by
          cases h : inn Y i with
          | true => rfl
          | false => rw [h] at hpi; simp at hpi
        have hine : i / 8 ≠ i % 8 := by
          rw [hyi] at hpi
          simp only [if_true] at hpi
          unfold sub1 add1 at hpi
          by_cases hie : i = e
          · rw [hie]; exact hne
          · by_cases hif : i = f
            · rw [hif]; exact hfne
            · rw [if_neg hif, if_neg hie] at hpi
              exact hI.ll i hi hpi
        have h2 := size_inn hi hine hyi
        have hb := hI.bound hl h2
        cases hye : inn Y e with
        | false =>
          rw [hye] at hs
          simp only [Bool.false_eq_true, if_false] at hs
          omega
        | true =>
          cases hyf : inn Y f with
          | true =>
            rw [hye, hyf] at hs
            simp only [if_true] at hs
            omega
          | false =>
            rw [hye, hyf] at hs
            simp only [if_true, Bool.false_eq_true, if_false] at hs
            by_cases hty : tight k l I Y
            · have hc2 : inn (cap X Y) e = true := by rw [inn_cap, hx, hye]; rfl
              have h3 := size_inn he hne hc2
              have h4 := (tight_cc hl hI ht hty h3).1
              have h5 := hmin _ hc2 h4
              have h6 := cap_less hf hxf hyf
              omega
            · unfold tight at hty
              omega
      · unfold sub1 add1 at hp
        by_cases hie : i = e
        · rw [hie]; exact hne
        · by_cases hif : i = f
          · rw [hif]; exact hfne
          · rw [if_neg hif, if_neg hie] at hp
            exact hI.ll i hi hp
    have hcard : card (sub1 (add1 I e) f) = card I := by
      have h1 := card_sub1 hf hpf
      have h2 := card_add1 I he
      omega
    have hdist : su (fun i => J i - sub1 (add1 I e) f i) 64 ≤ n := by
      have h1 := su_bump (f := fun i => J i - sub1 (add1 I e) f i) (g := fun i => J i - I i) (j := e) (c := 1) 64 he (by
        show J e - I e = J e - sub1 (add1 I e) f e + 1
        unfold sub1 add1
        rw [if_neg (Ne.symm hfe), if_pos rfl]
        omega) (fun i _ hie => by
        show J i - I i = J i - sub1 (add1 I e) f i
        unfold sub1 add1
        by_cases hif : i = f
        · subst hif
          rw [if_pos rfl, if_neg hie]
          omega
        · rw [if_neg hif, if_neg hie])
      omega
    obtain ⟨e', he', hle', hs'⟩ := ih _ J hI' hJ hdist (by omega)
    have hef : e' ≠ f := fun h => by
      subst h
      unfold sub1 add1 at hle'
      rw [if_pos rfl, if_neg hfe] at hle'
      omega
    have hlI : I e' < J e' := by
      unfold sub1 add1 at hle'
      rw [if_neg hef] at hle'
      by_cases h : e' = e
      · rw [if_pos h] at hle'
        omega
      · rw [if_neg h] at hle'
        exact hle'
    obtain ⟨X', hx', ht'⟩ := not_add hl hI he' (hJ.ll e' he' (by omega)) (hnot e' he' hlI)
    cases hxf' : inn X' f with
    | false =>
      have hs := hspan X'
      rw [hxf'] at hs
      simp only [Bool.false_eq_true, if_false] at hs
      refine tight_no he' hx' ?_ hs'
      unfold tight at ht'
      omega
    | true =>
      have hc2 : inn (cap X X') f = true := by rw [inn_cap, hxf, hxf']; rfl
      have h4 := (tight_cc hl hI ht ht' (size_inn hf hfne hc2)).2
      have hs := hspan (cup X X')
      rw [inn_cup (.inl hx), inn_cup (.inl hxf)] at hs
      simp only [if_true] at hs
      refine tight_no (X := cup X X') he' (inn_cup (.inr hx')) ?_ hs'
      unfold tight at h4
      omega
structure IsRank (k l : Nat) (M : Nat → Nat) (r : Nat) : Prop where
  ex : ∃ I, (∀ i, i < 64 → I i ≤ M i) ∧ Sparse k l I ∧ card I = r
  mx : ∀ J, (∀ i, i < 64 → J i ≤ M i) → Sparse k l J → card J ≤ r
variable {M N : Nat → Nat} {r s : Nat}
theorem IsRank.mono (h : IsRank k l M r) (h2 : IsRank k l N s) (hMN : ∀ i, i < 64 → M i ≤ N i) : r ≤ s := by
  obtain ⟨I, h3, h4, h5⟩ := h.ex
  have := h2.mx I (fun i hi => Nat.le_trans (h3 i hi) (hMN i hi)) h4
  omega
theorem IsRank.uniq (h : IsRank k l M r) (h2 : IsRank k l N s) (hMN : ∀ i, i < 64 → M i = N i) : r = s :=
  Nat.le_antisymm (h.mono h2 fun i hi => Nat.le_of_eq (hMN i hi)) (h2.mono h fun i hi => Nat.le_of_eq (hMN i hi).symm)
theorem IsRank.of_max (hl : l < 2 * k) (hI : Sparse k l I) (h1 : ∀ i, i < 64 → I i ≤ M i) (h2 : ∀ e, e < 64 → I e < M e → ¬ Sparse k l (add1 I e)) : IsRank k l M (card I) :=
  ⟨⟨I, h1, hI, rfl⟩, fun J hJ hs => by
    apply Classical.byContradiction
    intro h
    obtain ⟨e, he, hlt, hsp⟩ := exch hl _ I J hI hs (Nat.le_refl _) (by omega)
    exact h2 e he (Nat.lt_of_lt_of_le hlt (hJ e he)) hsp⟩
theorem IsRank.extend (hl : l < 2 * k) (h : IsRank k l M r) : ∀ n (I : Nat → Nat), Sparse k l I → (∀ i, i < 64 → I i ≤ M i) → card I + n = r → ∃ I', (∀ i, i < 64 → I i ≤ I' i) ∧ (∀ i, i < 64 → I' i ≤ M i) ∧ Sparse k l I' ∧ card I' = r := by
  intro n
  induction n with
  | zero => intro I hI h1 h2; exact ⟨I, fun _ _ => Nat.le_refl _, h1, hI, by omega⟩
  | succ n ih =>
    intro I hI h1 h2
    obtain ⟨B, b1, b2, b3⟩ := h.ex
    obtain ⟨e, he, hlt, hsp⟩ := exch hl _ I B hI b2 (Nat.le_refl _) (by omega)
    obtain ⟨I', c1, c2, c3, c4⟩ := ih (add1 I e) hsp (fun i hi => by
      unfold add1
      by_cases hie : i = e
      · rw [if_pos hie]
        subst hie
        have := b1 i hi
        omega
      · rw [if_neg hie]
        exact h1 i hi) (by rw [card_add1 I he]; omega)
    refine ⟨I', fun i hi => ?_, c2, c3, c4⟩
    have := c1 i hi
    unfold add1 at this
    split at this <;> omega
theorem IsRank.fill (hl : l < 2 * k) (h : IsRank k l M r) (hI : Sparse k l I) (h1 : ∀ i, i < 64 → I i ≤ M i) {S : Nat → Bool} (ht : tight k l I S) (hMN : ∀ i, i < 64 → M i ≤ N i) (hS : ∀ i, i < 64 → M i < N i → inn S i = true) : IsRank k l N r := by
  have hc := h.mx I h1 hI
  obtain ⟨I', c1, c2, c3, c4⟩ := h.extend hl (r - card I) I hI h1 (by omega)
  have : IsRank k l N (card I') := IsRank.of_max hl c3 (fun i hi => Nat.le_trans (c2 i hi) (hMN i hi)) fun e he hlt => by
    by_cases hM : I' e < M e
    · intro hsp
      have := h.mx (add1 I' e) (fun i hi => by
        unfold add1
        by_cases hie : i = e
        · rw [if_pos hie]; subst hie; omega
        · rw [if_neg hie]; exact c2 i hi) hsp
      rw [card_add1 I' he] at this
      omega
    · have hin := hS e he (by have := c2 e he; omega)
      refine tight_no he hin ?_
      have := span_mono c1 S
      unfold tight at ht
      omega
  rw [c4] at this
  exact this
theorem IsRank.add (h : IsRank k l M r) {e : Nat} (he : e < 64) (h2 : IsRank k l (add1 M e) s) : r ≤ s ∧ s ≤ r + 1 := by
  refine ⟨h.mono h2 fun i hi => by unfold add1; split <;> omega, ?_⟩
  obtain ⟨I, h3, h4, h5⟩ := h2.ex
  by_cases hle : I e ≤ M e
  · have := h.mx I (fun i hi => by
      have := h3 i hi
      unfold add1 at this
      by_cases hie : i = e
      · subst hie; exact hle
      · rw [if_neg hie] at this; exact this) h4
    omega
  · have hp : 0 < I e := by omega
    have := h.mx (sub1 I e) (fun i hi => by
      have := h3 i hi
      unfold add1 at this
      unfold sub1
      by_cases hie : i = e
      · rw [if_pos hie] at this ⊢; omega
      · rw [if_neg hie] at this ⊢; exact this) (h4.sub fun i hi => by unfold sub1; split <;> omega)
    have := card_sub1 he hp
    omega
theorem IsRank.split (h : IsRank k l M r) {A B : Nat → Nat} {a b : Nat} (hA : IsRank k l A a) (hB : IsRank k l B b) (hM : ∀ i, i < 64 → M i ≤ A i + B i) : r ≤ a + b := by
  obtain ⟨I, h3, h4, h5⟩ := h.ex
  have h6 := hA.mx (fun i => min (I i) (A i)) (fun i _ => Nat.min_le_right _ _) (h4.sub fun i _ => Nat.min_le_left _ _)
  have h7 := hB.mx (fun i => I i - A i) (fun i hi => by have := h3 i hi; have := hM i hi; omega) (h4.sub fun i _ => Nat.sub_le _ _)
  have h8 : card I = card (fun i => min (I i) (A i)) + card (fun i => I i - A i) := by
    unfold card
    rw [← su_add]
    exact su_congr 64 fun i _ => by omega
  omega
end
end Go.Sp
end
section
set_option linter.unusedVariables false
set_option linter.unusedSimpArgs false
set_option linter.unnecessarySimpa false
open Go Go.Fw Go.Sp
namespace Go.Proofs.Yteognanhfpbghaa
def codeB (x : TBar) : Nat := x.A.toNat * 8 + x.B.toNat
def mult : List TBar → Nat → Nat
  | [], _ => 0
  | x :: L, i => add1 (mult L) (codeB x) i
structure OkB (x : TBar) : Prop where
  a0 : 0 ≤ x.A
  a8 : x.A < 8
  b0 : 0 ≤ x.B
  b8 : x.B < 8
  ab : x.A ≠ x.B
theorem OkB.lt {x : TBar} (h : OkB x) : codeB x < 64 := by
  have := h.a0; have := h.a8; have := h.b0; have := h.b8
  unfold codeB
  omega
theorem OkB.dm {x : TBar} (h : OkB x) : codeB x / 8 = x.A.toNat ∧ codeB x % 8 = x.B.toNat := by
  have := h.a0; have := h.a8; have := h.b0; have := h.b8
  unfold codeB
  omega
theorem OkB.ne {x : TBar} (h : OkB x) : codeB x / 8 ≠ codeB x % 8 := by
  have := h.a0; have := h.a8; have := h.b0; have := h.b8; have := h.ab
  rw [h.dm.1, h.dm.2]
  omega
theorem OkB.inn {x : TBar} (h : OkB x) (X : Nat → Bool) : Sp.inn X (codeB x) = (X x.A.toNat && X x.B.toNat) := by
  unfold Sp.inn
  rw [h.dm.1, h.dm.2]
theorem mult_append (L L' : List TBar) (i : Nat) : mult (L ++ L') i = mult L i + mult L' i := by
  induction L with
  | nil => simp [mult]
  | cons x L ih =>
    simp only [List.cons_append, mult, add1]
    split <;> omega
theorem mult_snoc (L : List TBar) (x : TBar) (i : Nat) : mult (L ++ [x]) i = add1 (mult L) (codeB x) i := by
  rw [mult_append]
  simp only [mult, add1]
  split <;> omega
theorem mult_perm {L L' : List TBar} (h : L.Perm L') (i : Nat) : mult L i = mult L' i := by
  induction h with
  | nil => rfl
  | cons x _ ih => simp only [mult, add1, ih]
  | swap x y L =>
    simp only [mult, add1]
    split <;> split <;> rfl
  | trans _ _ ih1 ih2 => exact ih1.trans ih2
theorem mult_pos {L : List TBar} {i : Nat} (h : 0 < mult L i) : ∃ x ∈ L, codeB x = i := by
  induction L with
  | nil => simp [mult] at h
  | cons x L ih =>
    by_cases hi : i = codeB x
    · exact ⟨x, List.mem_cons_self .., hi.symm⟩
    · simp only [mult, add1, if_neg hi] at h
      obtain ⟨y, h1, h2⟩ := ih h
      exact ⟨y, List.mem_cons_of_mem _ h1, h2⟩
theorem card_mult {L : List TBar} (h : ∀ x ∈ L, OkB x) : card (mult L) = L.length := by
  induction L with
  | nil => exact su_zero 64 fun _ _ => rfl
  | cons x L ih =>
    show card (add1 (mult L) (codeB x)) = L.length + 1
    rw [card_add1 _ (h x (List.mem_cons_self ..)).lt, ih fun y hy => h y (List.mem_cons_of_mem _ hy)]
theorem span_mult {L : List TBar} (h : ∀ x ∈ L, OkB x) (X : Nat → Bool) : span (mult L) X = L.countP fun x => X x.A.toNat && X x.B.toNat := by
  induction L with
  | nil =>
    refine su_zero 64 fun i _ => ?_
    show (if inn X i then 0 else 0) = 0
    split <;> rfl
  | cons x L ih =>
    have hx := h x (List.mem_cons_self ..)
    show span (add1 (mult L) (codeB x)) X = _
    rw [span_add1 _ hx.lt, hx.inn, ih fun y hy => h y (List.mem_cons_of_mem _ hy), List.countP_cons]
theorem mult_ll {L : List TBar} (h : ∀ x ∈ L, OkB x) (i : Nat) (_ : i < 64) (hp : 0 < mult L i) : i / 8 ≠ i % 8 := by
  obtain ⟨x, hx, rfl⟩ := mult_pos hp
  exact (h x hx).ne
theorem su_mul (c : Nat) (f : Nat → Nat) : ∀ n, su (fun i => c * f i) n = c * su f n
  | 0 => by simp [su]
  | n + 1 => by
    show su (fun i => c * f i) n + c * f n = c * (su f n + f n)
    rw [su_mul c f n, Nat.mul_add]
theorem su_at (f : Nat → Nat) {j n : Nat} (hj : j < n) : su (fun i => if i = j then f j else 0) n = f j := by
  have := su_bump (f := fun _ => 0) (g := fun i => if i = j then f j else 0) (c := f j) n hj (by simp) (fun i _ hne => by simp [hne])
  rw [this, su_zero n fun _ _ => rfl]
  omega
theorem su_pair (f : Nat → Nat) {a b n : Nat} (ha : a < n) (hb : b < n) (hab : a ≠ b) : f a + f b ≤ su f n := by
  have h3 := su_le (f := fun v => (if v = a then f a else 0) + (if v = b then f b else 0)) (g := f) n fun v _ => by
    show (if v = a then f a else 0) + (if v = b then f b else 0) ≤ f v
    by_cases h1 : v = a
    · subst h1
      rw [if_pos rfl, if_neg hab]
      exact Nat.le_refl _
    · by_cases h2 : v = b
      · subst h2
        rw [if_neg h1, if_pos rfl]
        omega
      · rw [if_neg h1, if_neg h2]
        exact Nat.zero_le _
  rw [su_add, su_at f ha, su_at f hb] at h3
  exact h3
theorem tails_sum (X : Nat → Bool) : ∀ T : List Int, (∀ t ∈ T, 0 ≤ t ∧ t < 8) → su (fun v => if X v then T.count (v : Int) else 0) 8 = T.countP fun t => X t.toNat
  | [], _ => by
    refine su_zero 8 fun v _ => ?_
    show (if X v then ([] : List Int).count (v : Int) else 0) = 0
    split <;> rfl
  | t :: T, h => by
    have ht := h t (List.mem_cons_self ..)
    rw [List.countP_cons, ← tails_sum X T fun s hs => h s (List.mem_cons_of_mem _ hs)]
    refine su_bump (j := t.toNat) 8 (by omega) ?_ (fun i _ hne => ?_)
    · show (if X t.toNat then (t :: T).count ((t.toNat : Nat) : Int) else 0) = _
      rw [Int.toNat_of_nonneg ht.1, List.count_cons_self]
      cases X t.toNat <;> simp
    · show (if X i then (t :: T).count (i : Int) else 0) = (if X i then T.count (i : Int) else 0)
      rw [List.count_cons_of_ne (by omega)]
theorem countP_le2 {α β : Type} {p : α → Bool} {q : β → Bool} : ∀ (L : List α) (T : List β), L.length = T.length → (∀ (i : Nat) x t, L[i]? = some x → T[i]? = some t → p x = true → q t = true) → L.countP p ≤ T.countP q
  | [], _, _, _ => by simp
  | x :: L, [], h, _ => by simp at h
  | x :: L, t :: T, h, hh => by
    have h1 := countP_le2 L T (by simpa using h) fun i x t hx ht => hh (i + 1) x t (by simpa using hx) (by simpa using ht)
    have h2 := hh 0 x t rfl rfl
    rw [List.countP_cons, List.countP_cons]
    cases hp : p x with
    | false => simp; split <;> omega
    | true => rw [h2 hp]; simp; exact h1
section
variable {P : Int} {bars : List TBar} {k : Int} {m : Nat} {p : TPebbles}
def plc (bars : List TBar) (p : TPebbles) : List TBar := (List.range p.Placed.length).map (pbar bars p)
theorem GB.ok (hg : GB P bars) {i : Nat} {x : TBar} (h : bars[i]? = some x) : OkB x := by
  have := hg.p8
  exact ⟨hg.a0 h, by have := hg.ap h; omega, hg.b0 h, by have := hg.bp h; omega, hg.ab h⟩
theorem plc_len : (plc bars p).length = p.Placed.length := by simp [plc]
theorem plc_get {i : Nat} {x : TBar} (h : (plc bars p)[i]? = some x) : i < p.Placed.length ∧ x = pbar bars p i := by
  unfold plc at h
  rw [List.getElem?_map] at h
  cases hr : (List.range p.Placed.length)[i]? with
  | none => rw [hr] at h; cases h
  | some j =>
    rw [hr] at h
    have hj := List.getElem?_eq_some_iff.1 hr
    obtain ⟨h1, h2⟩ := hj
    simp at h1 h2 h
    subst h2
    exact ⟨h1, h.symm⟩
theorem PB.plc_ok (hg : GB P bars) (hp : PB P bars k m p) : ∀ x ∈ plc bars p, OkB x := fun x hx => by
  obtain ⟨i, hi⟩ := List.getElem?_of_mem hx
  obtain ⟨h1, rfl⟩ := plc_get hi
  obtain ⟨_, _, _, h2⟩ := hp.bar hg h1
  exact hg.ok h2
theorem plc_congr {p' : TPebbles} (h : p'.Placed = p.Placed) : plc bars p' = plc bars p := by
  unfold plc
  rw [h]
  refine List.map_congr_left fun i _ => ?_
  unfold pbar
  rw [h]
theorem plc_snoc {F T : List Int} {x : TBar} (hx : bars[m]? = some x) : plc bars ⟨F, T, p.Placed ++ [(m : Int)]⟩ = plc bars p ++ [x] := by
  unfold plc
  simp only [List.length_append, List.length_singleton]
  rw [List.range_succ, List.map_append]
  congr 1
  · refine List.map_congr_left fun i hi => ?_
    rw [List.mem_range] at hi
    unfold pbar
    simp only
    rw [List.getElem?_append_left hi]
  · simp only [List.map_cons, List.map_nil]
    unfold pbar
    simp only
    rw [List.getElem?_append_right (Nat.le_refl _), Nat.sub_self]
    simp [hx]
theorem PB.tail_in (hg : GB P bars) (hp : PB P bars k m p) {i : Nat} {t : Int} (h : p.Tails[i]? = some t) : i < p.Placed.length ∧ 0 ≤ t ∧ t < P := by
  have hi := (List.getElem?_eq_some_iff.1 h).1
  have htl := hp.tl
  have := hp.pbar_ok hg (i := i) (by omega)
  rcases hp.ends h with rfl | rfl
  · exact ⟨by omega, by omega, by omega⟩
  · exact ⟨by omega, by omega, by omega⟩
def inP (P : Int) (X : Nat → Bool) (v : Nat) : Bool := X v && decide ((v : Int) < P)
def freeOf (p : TPebbles) (v : Nat) : Nat := ((p.Free[v]?).getD 0).toNat
theorem PB.sum (hg : GB P bars) (hp : PB P bars k m p) (X : Nat → Bool) : su (fun v => if inP P X v then freeOf p v else 0) 8 + p.Tails.countP (fun t => X t.toNat) = k.toNat * size (inP P X) := by
  have h8 := hg.p8
  rw [← tails_sum X p.Tails fun t ht => by
    obtain ⟨i, hi⟩ := List.getElem?_of_mem ht
    have := hp.tail_in hg hi
    omega]
  unfold size
  rw [← su_mul, ← su_add]
  refine su_congr 8 fun v hv => ?_
  show (if inP P X v then freeOf p v else 0) + (if X v then p.Tails.count (v : Int) else 0) = k.toNat * (if inP P X v then 1 else 0)
  unfold inP
  cases hx : X v with
  | false => simp
  | true =>
    by_cases hvP : (v : Int) < P
    · obtain ⟨f, hf, _, f0, fk⟩ := hp.free_in (v := (v : Int)) (by omega) hvP
      rw [Int.toNat_natCast] at hf
      have := hp.fr hf
      unfold freeOf
      rw [hf, decide_eq_true hvP]
      simp
      omega
    · have : p.Tails.count (v : Int) = 0 := by
        rw [List.count_eq_zero]
        intro hm
        obtain ⟨i, hi⟩ := List.getElem?_of_mem hm
        have := hp.tail_in hg hi
        omega
      rw [this, decide_eq_false hvP]
      simp
theorem size_inP (X : Nat → Bool) : size (inP P X) ≤ size X := su_le 8 fun v _ => by
  show (if inP P X v then 1 else 0) ≤ (if X v then 1 else 0)
  unfold inP
  cases X v <;> simp
  split <;> omega
theorem PB.span_tails (hg : GB P bars) (hp : PB P bars k m p) (X : Nat → Bool) : span (mult (plc bars p)) X ≤ p.Tails.countP fun t => X t.toNat := by
  rw [span_mult (hp.plc_ok hg)]
  refine countP_le2 _ _ (by rw [plc_len, hp.tl]) fun i x t hx ht h => ?_
  obtain ⟨h1, rfl⟩ := plc_get hx
  rw [Bool.and_eq_true] at h
  rcases hp.ends ht with rfl | rfl
  · exact h.1
  · exact h.2
theorem PB.tails_span (hg : GB P bars) (hp : PB P bars k m p) {X : Nat → Bool} (hc : ∀ (i : Nat) (t : Int), p.Tails[i]? = some t → X t.toNat = true → X (otherE (pbar bars p i) t).toNat = true) : p.Tails.countP (fun t => X t.toNat) ≤ span (mult (plc bars p)) X := by
  rw [span_mult (hp.plc_ok hg)]
  refine countP_le2 _ _ (by rw [plc_len, hp.tl]) fun i t x ht hx h => ?_
  obtain ⟨h1, rfl⟩ := plc_get hx
  have h2 := hc i t ht h
  have h3 := hp.pbar_ok hg h1
  rw [Bool.and_eq_true]
  unfold otherE at h2
  rcases hp.ends ht with rfl | rfl
  · simp only [beq_self_eq_true, cond_true] at h2
    exact ⟨h, h2⟩
  · have e : ((pbar bars p i).A == (pbar bars p i).B) = false := by simp; exact h3.2.2.1
    rw [e, cond_false] at h2
    exact ⟨h2, h⟩
theorem PB.span_le (hg : GB P bars) (hp : PB P bars k m p) {a b : Int} (a0 : 0 ≤ a) (a1 : a < P) (b0 : 0 ≤ b) (b1 : b < P) (hab : a ≠ b) {X : Nat → Bool} (xa : X a.toNat = true) (xb : X b.toNat = true) : span (mult (plc bars p)) X + (two p a b).toNat ≤ k.toNat * size X := by
  have h8 := hg.p8
  have h1 := hp.sum hg X
  have h2 := hp.span_tails hg X
  have h3 : k.toNat * size (inP P X) ≤ k.toNat * size X := Nat.mul_le_mul_left _ (size_inP X)
  have h4 := su_pair (fun v => if inP P X v then freeOf p v else 0) (a := a.toNat) (b := b.toNat) (n := 8) (by omega) (by omega) (by omega)
  have ia : inP P X a.toNat = true := by unfold inP; rw [xa]; simp; omega
  have ib : inP P X b.toNat = true := by unfold inP; rw [xb]; simp; omega
  simp only [ia, ib, if_true] at h4
  obtain ⟨fa, ha, _, fa0, _⟩ := hp.free_in a0 a1
  obtain ⟨fb, hb, _, fb0, _⟩ := hp.free_in b0 b1
  unfold freeOf at h1 h4
  unfold two
  rw [ha, hb] at h4 ⊢
  simp only [Option.getD_some] at h4 ⊢
  omega
theorem PB.blocked (hg : GB P bars) (hp : PB P bars k m p) {a b : Int} (hab : a ≠ b) {q q' : List Int} (hq : Reach P bars p a b q) (hq' : Reach P bars p b a q') : ∃ X : Nat → Bool, X a.toNat = true ∧ X b.toNat = true ∧ k.toNat * size X ≤ span (mult (plc bars p)) X + (two p a b).toNat := by
  have h8 := hg.p8
  obtain ⟨a0, a1⟩ := hq.rng a hq.fst
  obtain ⟨b0, b1⟩ := hq'.rng b hq'.fst
  have hX : ∀ v : Int, 0 ≤ v → (decide (((v.toNat : Nat) : Int) ∈ q ∨ ((v.toNat : Nat) : Int) ∈ q') = true ↔ (v ∈ q ∨ v ∈ q')) := fun v hv => by rw [decide_eq_true_eq, Int.toNat_of_nonneg hv]
  refine ⟨fun v => decide ((v : Int) ∈ q ∨ (v : Int) ∈ q'), (hX a a0).2 (.inl hq.fst), (hX b b0).2 (.inr hq'.fst), ?_⟩
  generalize hXd : (fun v : Nat => decide ((v : Int) ∈ q ∨ (v : Int) ∈ q')) = X
  have hXe : ∀ v : Nat, X v = true ↔ ((v : Int) ∈ q ∨ (v : Int) ∈ q') := fun v => by rw [← hXd]; exact decide_eq_true_iff
  have hin : ∀ v, inP P X v = X v := fun v => by
    unfold inP
    cases hx : X v with
    | false => rfl
    | true =>
      have : (v : Int) < P := by
        rcases (hXe v).1 hx with h | h
        · exact (hq.rng _ h).2
        · exact (hq'.rng _ h).2
      simp [this]
  have h1 := hp.sum hg X
  rw [show inP P X = X from funext hin] at h1
  have h2 := hp.tails_span hg (X := X) fun i t ht hx => by
    obtain ⟨hi, t0, t1⟩ := hp.tail_in hg ht
    have ho := (other_ok (hp.pbar_ok hg hi) (hp.ends ht)).1
    rw [hXe, Int.toNat_of_nonneg t0] at hx
    rw [hXe, Int.toNat_of_nonneg ho]
    rcases hx with h | h
    · exact .inl (hq.clo i t ht h)
    · exact .inr (hq'.clo i t ht h)
  have h3 := su_le (f := fun v => if X v then freeOf p v else 0) (g := fun v => (if v = a.toNat then freeOf p a.toNat else 0) + (if v = b.toNat then freeOf p b.toNat else 0)) 8 fun v _ => by
    show (if X v then freeOf p v else 0) ≤ (if v = a.toNat then freeOf p a.toNat else 0) + (if v = b.toNat then freeOf p b.toNat else 0)
    by_cases hva : v = a.toNat
    · subst hva
      rw [if_pos rfl]
      split <;> omega
    · by_cases hvb : v = b.toNat
      · subst hvb
        rw [if_pos rfl]
        split <;> omega
      · rw [if_neg hva, if_neg hvb]
        cases hx : X v with
        | false => simp
        | true =>
          have h0 : p.Free[v]? = some 0 := by
            rcases (hXe v).1 hx with h | h
            · have := hq.zero _ h (by omega) (by omega)
              rwa [Int.toNat_natCast] at this
            · have := hq'.zero _ h (by omega) (by omega)
              rwa [Int.toNat_natCast] at this
          unfold freeOf
          rw [h0]
          simp
  rw [su_add, su_at (freeOf p) (show a.toNat < 8 by omega), su_at (freeOf p) (show b.toNat < 8 by omega)] at h3
  obtain ⟨fa, ha, _, fa0, _⟩ := hp.free_in a0 a1
  obtain ⟨fb, hb, _, fb0, _⟩ := hp.free_in b0 b1
  unfold freeOf at h3 h1
  unfold two
  rw [ha, hb] at h3 ⊢
  simp only [Option.getD_some] at h3 ⊢
  omega
theorem place_info {l : Int} (hg : GB P bars) (hp : PB P bars k m p) (hml : m < bars.length) (hl : 0 ≤ l ∧ l ≤ 2 * k - 1) {x : TBar} (hx : bars[m]? = some x) :
    (∃ p' F T, PB P bars k m p' ∧ p'.Placed = p.Placed ∧ l + 1 ≤ two p' x.A x.B ∧ placeI bars l p m = ⟨F, T, p.Placed ++ [(m : Int)]⟩) ∨
      (placeI bars l p m = p ∧ ∃ p' q q', PB P bars k m p' ∧ p'.Placed = p.Placed ∧ two p' x.A x.B < l + 1 ∧ Reach P bars p' x.A x.B q ∧ Reach P bars p' x.B x.A q') := by
  have hlen := hg.len
  have k3 := hp.k3
  have k1 := hp.k1
  have hxi := idx_of (k := m) hx
  have hw : w64 (l + 1) = l + 1 := w64_small (by omega) (by omega)
  rcases gather_both hg hp (by omega) (g := ⟨P, bars⟩) rfl rfl (hg.a0 hx) (hg.ap hx) (hg.b0 hx) (hg.bp hx) (hg.ab hx) (want := l + 1) (by omega) with ⟨p', s1, i1, hp', hpl, htwo⟩ | ⟨p', s1, i1, hp', hpl, hlt, ⟨q, hq⟩, q', hq'⟩
  · obtain ⟨fa, hfa, hia, fa0, fak⟩ := hp'.free_in (hg.a0 hx) (hg.ap hx)
    obtain ⟨fb, hfb, hib, fb0, fbk⟩ := hp'.free_in (hg.b0 hx) (hg.bp hx)
    have htwo2 := htwo
    unfold two at htwo
    rw [hfa, hfb] at htwo
    simp only [Option.getD_some] at htwo
    have hpll := hp'.pl
    have htl := hp'.tl
    obtain ⟨t, f, hte, htf, hti, hpos, hfk, htail⟩ : ∃ t f, (t = x.A ∨ t = x.B) ∧ p'.Free[t.toNat]? = some f ∧ idx p'.Free t = some f ∧ 0 < f ∧ f ≤ k ∧ (bif fa == 0 then some x.B else some x.A : Option Int) = some t := by
      by_cases h0 : fa = 0
      · exact ⟨x.B, fb, .inr rfl, hfb, hib, by omega, fbk, by simp [h0]⟩
      · have : (fa == 0) = false := by simp [h0]
        exact ⟨x.A, fa, .inl rfl, hfa, hia, by omega, fak, by simp [this]⟩
    have hI : m_impl_place bars l p (m : Int) = some (true, ⟨p'.Free.set t.toNat (f - 1), p'.Tails ++ [t], p'.Placed ++ [(m : Int)]⟩) := by
      unfold m_impl_place
      simp only [hxi, hw, i1, hia, htail, hti, Option.bind_some, Bool.not_true, cond_false, lim_ok (show p'.Tails.length + ([t] : List Int).length ≤ 2147483648 by simp; omega), lim_ok (show p'.Placed.length + ([(m : Int)] : List Int).length ≤ 2147483648 by simp; omega), w64_small (n := f - 1) (show -4611686018427387904 ≤ f - 1 by omega) (by omega)]
    refine .inl ⟨p', p'.Free.set t.toNat (f - 1), p'.Tails ++ [t], hp', hpl, htwo2, ?_⟩
    unfold placeI
    rw [hI, ← hpl]
  · have hI : m_impl_place bars l p (m : Int) = some (false, p') := by
      unfold m_impl_place
      simp only [hxi, hw, i1, Option.bind_some, Bool.not_false, cond_true]
    refine .inr ⟨?_, p', q, q', hp', hpl, hlt, hq, hq'⟩
    unfold placeI
    rw [hI]
structure Game (bars : List TBar) (k l : Int) (m : Nat) (p : TPebbles) : Prop where
  sp : Sparse k.toNat l.toNat (mult (plc bars p))
  rej : ∃ R : List TBar, (∀ i, mult (bars.take m) i = mult (plc bars p) i + mult R i) ∧ ∀ x ∈ R, OkB x ∧ ∃ X, Sp.inn X (codeB x) = true ∧ k.toNat * size X ≤ span (mult (plc bars p)) X + l.toNat
theorem sparse_nil {a b : Nat} : Sparse a b (mult []) := ⟨fun X hX => by
  have : span (mult []) X = 0 := span_mult (L := []) (fun _ h => by cases h) X
  omega, fun i _ h => by simp [mult] at h⟩
theorem played_game {l : Int} (hg : GB P bars) (k1 : 1 ≤ k) (k3 : k ≤ 3) (hl : 0 ≤ l ∧ l ≤ 2 * k - 1) : ∀ n, n ≤ bars.length → Game bars k l n (played P bars k l n)
  | 0, _ => ⟨sparse_nil, [], fun i => by simp [played, iter, plc, mult], fun x h => by cases h⟩
  | n + 1, h => by
    have hG := played_game hg k1 k3 hl n (by omega)
    have hp := played_PB hg k1 k3 hl n (by omega)
    have hx := List.getElem?_eq_getElem (show n < bars.length by omega)
    generalize bars[n] = x at hx
    have hok := hg.ok hx
    have htk : bars.take (n + 1) = bars.take n ++ [x] := by rw [List.take_add_one, hx]; rfl
    show Game bars k l (n + 1) (placeI bars l (played P bars k l n) n)
    obtain ⟨R, hR1, hR2⟩ := hG.rej
    rcases place_info hg hp (by omega) hl hx with ⟨p', F, T, hp', hpl, htwo, he⟩ | ⟨he, p', q, q', hp', hpl, hlt, hq, hq'⟩
    · rw [he]
      have hplc : plc bars ⟨F, T, (played P bars k l n).Placed ++ [(n : Int)]⟩ = plc bars (played P bars k l n) ++ [x] := plc_snoc hx
      have hm : ∀ i, i < 64 → add1 (mult (plc bars (played P bars k l n))) (codeB x) i = mult (plc bars ⟨F, T, (played P bars k l n).Placed ++ [(n : Int)]⟩) i := fun i _ => by rw [hplc, mult_snoc]
      refine ⟨Sparse.congr ⟨fun X hX => ?_, fun i hi h0 => ?_⟩ hm, R, fun i => ?_, fun y hy => ?_⟩
      · rw [span_add1 _ hok.lt] at hX ⊢
        cases hin : Sp.inn X (codeB x) with
        | false =>
          rw [hin] at hX
          simp only [Bool.false_eq_true, if_false, Nat.add_zero] at hX ⊢
          exact hG.sp.sp X hX
        | true =>
          rw [hok.inn, Bool.and_eq_true] at hin
          have := hp'.span_le hg (hg.a0 hx) (hg.ap hx) (hg.b0 hx) (hg.bp hx) (hg.ab hx) (X := X) hin.1 hin.2
          rw [plc_congr hpl] at this
          simp only [if_true]
          omega
      · unfold add1 at h0
        by_cases hie : i = codeB x
        · rw [hie]; exact hok.ne
        · rw [if_neg hie] at h0
          exact hG.sp.ll i hi h0
      · rw [htk, mult_append, hplc, mult_append, hR1]
        omega
      · obtain ⟨h1, X, h2, h3⟩ := hR2 y hy
        refine ⟨h1, X, h2, ?_⟩
        rw [hplc]
        have := span_mono (I := mult (plc bars (played P bars k l n))) (J := mult (plc bars (played P bars k l n) ++ [x])) (fun i _ => by rw [mult_append]; omega) X
        omega
    · rw [he]
      refine ⟨hG.sp, R ++ [x], fun i => ?_, fun y hy => ?_⟩
      · rw [htk, mult_append, mult_append, hR1]
        omega
      · rcases List.mem_append.1 hy with hy | hy
        · exact hR2 y hy
        · rw [List.mem_singleton] at hy
          subst hy
          obtain ⟨X, xa, xb, hX⟩ := hp'.blocked hg hok.ab hq hq'
          refine ⟨hok, X, by rw [hok.inn, xa, xb]; rfl, ?_⟩
          rw [plc_congr hpl] at hX
          omega
theorem played_rank {l : Int} (hg : GB P bars) (k1 : 1 ≤ k) (k3 : k ≤ 3) (hl : 0 ≤ l ∧ l ≤ 2 * k - 1) : IsRank k.toNat l.toNat (mult bars) (played P bars k l bars.length).Placed.length := by
  have hG := played_game hg k1 k3 hl bars.length (Nat.le_refl _)
  have hp := played_PB hg k1 k3 hl bars.length (Nat.le_refl _)
  obtain ⟨R, hR1, hR2⟩ := hG.rej
  rw [List.take_length] at hR1
  have := IsRank.of_max (M := mult bars) (by omega) hG.sp (fun i _ => by rw [hR1]; omega) fun e he hlt => by
    rw [hR1] at hlt
    obtain ⟨x, hx, rfl⟩ := mult_pos (L := R) (i := e) (by omega)
    obtain ⟨h1, X, h2, h3⟩ := hR2 x hx
    exact tight_no he h2 h3
  rw [card_mult (hp.plc_ok hg), plc_len] at this
  exact this
end
end Go.Proofs.Yteognanhfpbghaa
end
section
set_option linter.unusedVariables false
set_option linter.unusedSimpArgs false
set_option linter.unnecessarySimpa false
open Go Go.Fw Go.Sp
namespace Go.Proofs.Yteognanhfpbghaa
def insB (x : TBar) : List TBar → List TBar
  | [] => [x]
  | y :: L => bif barGt y x then x :: y :: L else y :: insB x L
theorem insB_perm (x : TBar) : ∀ L, (insB x L).Perm (x :: L)
  | [] => List.Perm.refl _
  | y :: L => by
    unfold insB
    cases barGt y x with
    | true => exact List.Perm.refl _
    | false => exact ((insB_perm x L).cons y).trans (List.Perm.swap ..)
theorem insB_len (x : TBar) (L : List TBar) : (insB x L).length = L.length + 1 := (insB_perm x L).length_eq
theorem insB_split (x : TBar) : ∀ L : List TBar, (∃ j, j < L.length ∧ insB x L = L.take j ++ x :: L.drop j ∧ (∀ (i : Nat) (y : TBar), i < j → L[i]? = some y → barGt y x = false) ∧ ∀ y : TBar, L[j]? = some y → barGt y x = true) ∨ (insB x L = L ++ [x] ∧ ∀ (i : Nat) (y : TBar), L[i]? = some y → barGt y x = false)
  | [] => .inr ⟨rfl, fun i y h => by simp at h⟩
  | y :: L => by
    unfold insB
    cases hy : barGt y x with
    | true => exact .inl ⟨0, by simp, by simp, (fun i z h => by omega), fun z hz => by simp at hz; subst hz; exact hy⟩
    | false =>
      rcases insB_split x L with ⟨j, h1, h2, h3, h4⟩ | ⟨h1, h2⟩
      · refine .inl ⟨j + 1, by simpa using h1, by simp [h2], fun i z hi hz => ?_, fun z hz => h4 z (by simpa using hz)⟩
        cases i with
        | zero => simp at hz; subst hz; exact hy
        | succ i => exact h3 i z (by omega) (by simpa using hz)
      · refine .inr ⟨by simp [h1], fun i z hz => ?_⟩
        cases i with
        | zero => simp at hz; subst hz; exact hy
        | succ i => exact h2 i z (by simpa using hz)
theorem l2Put_eq (g : TGraph) (x : TBar) (h : g.Bars.length ≤ 1048576) : m_spec_l2Put g x = some ⟨g.Points, insB x g.Bars⟩ := by
  have hb : ∀ (k : Nat) (pl : Bool) (out : List TBar), k < g.Bars.length → out.length ≤ k + 1 → ∀ y, g.Bars[k]? = some y → m_spec_l2Put_L1 g x (pl, (k : Int), out) = some (.inl (bif !pl && barGt y x then (true, ((k + 1 : Nat) : Int), out ++ [x] ++ [y]) else (pl, ((k + 1 : Nat) : Int), out ++ [y]))) := fun k pl out hk ho y hy => by
    unfold m_spec_l2Put_L1
    simp only
    rw [decide_eq_true (show (k : Int) < (g.Bars.length : Int) by omega), cond_true]
    simp only [idx_of hy, l2After_eq, Option.bind_some, w64_succ (show k ≤ 1099511627776 by omega), Bool.not_not]
    rw [lim_ok (show out.length + [x].length ≤ 2147483648 by simp; omega)]
    cases pl with
    | true =>
      simp only [Bool.not_true, cond_false, Option.bind_some, Bool.false_and]
      rw [lim_ok (by simp; omega)]
      rfl
    | false =>
      cases barGt y x with
      | true =>
        simp only [Bool.not_false, cond_true, Option.bind_some, Bool.true_and]
        rw [lim_ok (by simp; omega)]
        rfl
      | false =>
        simp only [Bool.not_false, cond_true, Option.bind_some, Bool.and_false, cond_false]
        rw [lim_ok (by simp; omega)]
        rfl
  have he : ∀ (pl : Bool) (out : List TBar), m_spec_l2Put_L1 g x (pl, (g.Bars.length : Int), out) = some (.inr (pl, out)) := fun pl out => by
    unfold m_spec_l2Put_L1
    rw [decide_eq_false (by simp only; omega)]
    rfl
  unfold m_spec_l2Put
  rcases insB_split x g.Bars with ⟨j, h1, h2, h3, h4⟩ | ⟨h1, h2⟩
  · have hL : loopM (m_spec_l2Put_L1 g x) BIG (false, 0, []) = some (true, g.Bars.take j ++ x :: g.Bars.drop j) := by
      refine loopM_run (fun k => (decide (j < k), (k : Int), if j < k then g.Bars.take j ++ x :: (g.Bars.drop j).take (k - j) else g.Bars.take k)) g.Bars.length (by omega) (by simp) (fun k hk => ?_) ?_
      · have hy := List.getElem?_eq_getElem hk
        have htk : ∀ m, k = j + m → (g.Bars.drop j).take (m + 1) = (g.Bars.drop j).take m ++ [g.Bars[k]] := fun m hm => by
          subst hm
          rw [List.take_add_one, List.getElem?_drop, hy]
          rfl
        by_cases hjk : j < k
        · rw [decide_eq_true hjk, if_pos hjk, hb k true _ hk (by simp; omega) _ hy]
          simp only [Bool.not_true, Bool.false_and, cond_false]
          rw [decide_eq_true (show j < k + 1 by omega), if_pos (show j < k + 1 by omega), show k + 1 - j = (k - j) + 1 by omega, htk (k - j) (by omega)]
          simp
        · rw [decide_eq_false hjk, if_neg hjk, hb k false _ hk (by simp; omega) _ hy]
          by_cases hkj : k = j
          · subst hkj
            rw [h4 _ hy]
            simp only [Bool.not_false, Bool.true_and, cond_true]
            rw [decide_eq_true (show k < k + 1 by omega), if_pos (show k < k + 1 by omega), Nat.add_sub_cancel_left, htk 0 (by omega)]
            simp
          · rw [h3 k _ (by omega) hy]
            simp only [Bool.not_false, Bool.and_false, cond_false]
            rw [decide_eq_false (show ¬ j < k + 1 by omega), if_neg (show ¬ j < k + 1 by omega), take_get hk]
      · rw [decide_eq_true h1, if_pos h1, he, List.take_of_length_le (l := g.Bars.drop j) (by simp)]
    rw [hL, h2]
    rfl
  · have hL : loopM (m_spec_l2Put_L1 g x) BIG (false, 0, []) = some (false, g.Bars) := by
      refine loopM_run (fun k => (false, (k : Int), g.Bars.take k)) g.Bars.length (by omega) (by simp) (fun k hk => ?_) (by rw [he, List.take_length])
      have hy := List.getElem?_eq_getElem hk
      rw [hb k false _ hk (by simp; omega) _ hy, h2 k _ hy, take_get hk]
      rfl
    rw [hL, h1]
    simp only [Option.bind_some, Bool.not_false, cond_true]
    rw [lim_ok (by simp; omega)]
    rfl
def pr (P : Int) (L : List TBar) : Nat := (played P L 2 3 L.length).Placed.length
theorem pr_rank {P : Int} {L : List TBar} (hg : GB P L) : IsRank 2 3 (mult L) (pr P L) := played_rank hg (k := 2) (l := 3) (by omega) (by omega) (by omega)
theorem GB.congr {P : Int} {L L' : List TBar} (h : GB P L) (h2 : ∀ x ∈ L', x ∈ L) (hl : L'.length ≤ 1000) : GB P L' := by
  have hm : ∀ {k : Nat} {x : TBar}, L'[k]? = some x → ∃ j, L[j]? = some x := fun hk => List.getElem?_of_mem (h2 _ (List.mem_of_getElem? hk))
  exact ⟨h.p1, h.p8, hl, fun hk => (hm hk).elim fun _ hj => h.a0 hj, fun hk => (hm hk).elim fun _ hj => h.ab hj, fun hk => (hm hk).elim fun _ hj => h.b0 hj, fun hk => (hm hk).elim fun _ hj => h.ap hj, fun hk => (hm hk).elim fun _ hj => h.bp hj⟩
structure InB (P : Int) (x : TBar) : Prop where
  a0 : 0 ≤ x.A
  ab : x.A ≠ x.B
  b0 : 0 ≤ x.B
  ap : x.A < P
  bp : x.B < P
theorem GB.of {P : Int} {L : List TBar} (p1 : 1 ≤ P) (p8 : P ≤ 8) (hl : L.length ≤ 1000) (h : ∀ x ∈ L, InB P x) : GB P L :=
  ⟨p1, p8, hl, fun hk => (h _ (List.mem_of_getElem? hk)).a0, fun hk => (h _ (List.mem_of_getElem? hk)).ab, fun hk => (h _ (List.mem_of_getElem? hk)).b0, fun hk => (h _ (List.mem_of_getElem? hk)).ap, fun hk => (h _ (List.mem_of_getElem? hk)).bp⟩
theorem GB.inb {P : Int} {L : List TBar} (h : GB P L) : ∀ x ∈ L, InB P x := fun x hx => by
  obtain ⟨j, hj⟩ := List.getElem?_of_mem hx
  exact ⟨h.a0 hj, h.ab hj, h.b0 hj, h.ap hj, h.bp hj⟩
def nrm (a b : Int) : TBar := ⟨if b < a then b else a, if a < b then b else a⟩
theorem GB.ins {P : Int} {L : List TBar} (h : GB P L) {x : TBar} (hx : InB P x) (hl : L.length ≤ 999) : GB P (insB x L) := GB.of h.p1 h.p8 (by rw [insB_len]; omega) fun y hy => by
  rcases List.mem_cons.1 ((insB_perm x L).mem_iff.1 hy) with h1 | h1
  · subst h1; exact hx
  · exact h.inb y h1
end Go.Proofs.Yteognanhfpbghaa
end
section
set_option linter.unusedVariables false
set_option linter.unusedSimpArgs false
set_option linter.unnecessarySimpa false
open Go Go.Fw
namespace Go.Proofs.Yteognanhfpbghaa
def Ex {α : Type} (o : Option α) (Q : α → Prop) : Prop := ∃ r, o = some r ∧ Q r
section
variable {α β : Type} {o x y : Option α} {f : α → Option β} {Q Q' : α → Prop} {R : β → Prop} {b : Bool}
theorem Ex.bind (h : Ex o Q) (hf : ∀ r, Q r → Ex (f r) R) : Ex (o.bind f) R := by
  obtain ⟨r, rfl, hq⟩ := h
  exact hf r hq
theorem Ex.ret {r : α} (h : Q r) : Ex (some r) Q := ⟨r, rfl, h⟩
theorem Ex.bif (h1 : b = true → Ex x Q) (h2 : b = false → Ex y Q) : Ex (bif b then x else y) Q := by
  cases b
  · exact h2 rfl
  · exact h1 rfl
theorem Ex.mono (h : Ex o Q) (hq : ∀ r, Q r → Q' r) : Ex o Q' := by
  obtain ⟨r, e, hr⟩ := h
  exact ⟨r, e, hq r hr⟩
theorem Ex.lim {n : Nat} {f : Unit → Option β} (hn : n ≤ 2147483648) (hf : Ex (f ()) R) : Ex ((Fw.lim n).bind f) R := by
  rw [lim_ok hn]
  exact hf
theorem Ex.nz {n : Int} {f : Unit → Option β} (hn : n ≠ 0) (hf : Ex (f ()) R) : Ex ((Fw.nz n).bind f) R := by
  unfold Fw.nz
  rw [if_pos hn]
  exact hf
theorem Ex.idx {l : List α} {i : Int} (h0 : 0 ≤ i) (h1 : i < (l.length : Int)) (hf : ∀ v, v ∈ l → Ex (f v) R) : Ex ((Fw.idx l i).bind f) R := by
  unfold Fw.idx
  rw [if_pos h0, List.getElem?_eq_getElem (by omega)]
  exact hf _ (List.getElem_mem _)
end
structure CO (c : Tl1Cur) : Prop where
  b : c.b.length ≤ 1048576
  i0 : 0 ≤ c.i
  i1 : c.i ≤ 1048576
theorem and255 (z : Int) : 0 ≤ bits .and .i64 z 255 ∧ bits .and .i64 z 255 ≤ 255 := by
  have h : (BitVec.ofInt 64 z &&& BitVec.ofInt 64 255).toNat ≤ 255 := by
    rw [BitVec.toNat_and]
    exact Nat.le_trans Nat.and_le_right (by decide)
  have e : bits .and .i64 z 255 = ((BitVec.ofInt 64 z &&& BitVec.ofInt 64 255).toNat : Int) := by
    show w64 ((BitVec.ofInt 64 z &&& BitVec.ofInt 64 255).toNat : Int) = _
    exact w64_small (by omega) (by omega)
  rw [e]
  omega
theorem new_ex {code : List Int} (h : code.length ≤ 1048576) : Ex (m_spec_l1New code) CO := by
  have hb : ∀ (k : Nat) (hh : Int), k < 4000 → k < code.length → ∃ h', m_spec_l1New_L1 code (hh, (k : Int)) = some (.inl (h', ((k + 1 : Nat) : Int))) := fun k hh h4 hk => by
    unfold m_spec_l1New_L1
    rw [decide_eq_true (by simp only; omega), decide_eq_true (by simp only; omega)]
    simp only [cond_true, Option.bind_some, idx_at hk, w64_succ (show k ≤ 1099511627776 by omega)]
    exact ⟨_, rfl⟩
  obtain ⟨r, hr, _⟩ := loop_inv (b := m_spec_l1New_L1 code) (s := (w64 (10101 + (code.length : Int)), 0)) (fun k s => s.2 = (k : Int)) (fun _ => True) (min code.length 4000) (by omega) rfl (fun k s hk hs => by
    obtain ⟨hh, i⟩ := s
    simp only at hs
    subst hs
    obtain ⟨h', e⟩ := hb k hh (by omega) (by omega)
    exact .inl ⟨_, e, rfl⟩) (fun s hs => by
    obtain ⟨hh, i⟩ := s
    simp only at hs
    subst hs
    refine ⟨hh, ?_, trivial⟩
    unfold m_spec_l1New_L1
    by_cases h4 : code.length < 4000
    · rw [decide_eq_false (by simp only; omega)]
      rfl
    · rw [decide_eq_false (show ¬ (hh, ((min code.length 4000 : Nat) : Int)).2 < 4000 by simp only; omega)]
      cases decide ((hh, ((min code.length 4000 : Nat) : Int)).2 < (code.length : Int)) <;> rfl)
  unfold m_spec_l1New
  rw [hr]
  exact ⟨_, rfl, h, Int.le_refl _, by simp⟩
theorem byte_ex {c : Tl1Cur} (h : CO c) : Ex (m_spec_l1Byte c) fun r => CO r.2 ∧ 0 ≤ r.1 ∧ r.1 ≤ 255 := by
  have hb := h.b
  have h0 := h.i0
  have h1 := h.i1
  unfold m_spec_l1Byte
  refine Ex.bind (Q := fun j => 0 ≤ j.1 ∧ j.1 ≤ 255 ∧ 0 ≤ j.2 ∧ j.2 ≤ 1048576) (Ex.bif (fun hd => ?_) (fun hd => ?_)) fun j hj => ?_
  · rw [decide_eq_true_eq] at hd
    refine Ex.idx h0 hd fun v _ => Ex.ret ?_
    have := and255 (w64 ((bits .and .i64 (bits .xor .i64 (shrI (w64 ((w64 (c.h * 6364136223846793005)) + 1442695040888963407)) 33) (shrI (w64 ((w64 (c.h * 6364136223846793005)) + 1442695040888963407)) 45)) 255) + (w64 v)))
    refine ⟨this.1, this.2, ?_, ?_⟩
    · simp only
      rw [w64_small (by omega) (by omega)]
      omega
    · simp only
      rw [w64_small (by omega) (by omega)]
      omega
  · have := and255 (bits .xor .i64 (shrI (w64 ((w64 (c.h * 6364136223846793005)) + 1442695040888963407)) 33) (shrI (w64 ((w64 (c.h * 6364136223846793005)) + 1442695040888963407)) 45))
    exact Ex.ret ⟨this.1, this.2, h0, h1⟩
  · exact Ex.ret ⟨⟨hb, hj.2.2.1, hj.2.2.2⟩, hj.1, hj.2.1⟩
theorem tmod_rng {x n : Int} (hx : 0 ≤ x) (hn : 0 < n) : 0 ≤ Int.tmod x n ∧ Int.tmod x n < n := ⟨Int.tmod_nonneg _ hx, Int.tmod_lt_of_pos _ hn⟩
theorem below_ex0 {c : Tl1Cur} (h : CO c) (n : Int) : Ex (m_spec_l1Below c n) fun r => CO r.2 ∧ 0 ≤ r.1 ∧ (0 < n → r.1 < n) ∧ (n ≤ 0 → r.1 = 0) := by
  unfold m_spec_l1Below
  refine Ex.bif (fun hd => Ex.ret ⟨h, Int.le_refl _, fun hn => ?_, fun _ => rfl⟩) (fun hd => ?_)
  · rw [decide_eq_true_eq] at hd
    omega
  · rw [decide_eq_false_iff_not] at hd
    refine Ex.bif (fun _ => ?_) (fun _ => ?_)
    · refine (byte_ex h).bind fun r hr => Ex.nz (by omega) (Ex.ret ⟨hr.1, ?_, fun hn => ?_, fun hn => absurd hn hd⟩)
      · exact (tmod_rng hr.2.1 (by omega)).1
      · exact (tmod_rng hr.2.1 hn).2
    · refine (byte_ex h).bind fun r1 h1 => (byte_ex h1.1).bind fun r2 h2 => (byte_ex h2.1).bind fun r3 h3 => (byte_ex h3.1).bind fun r4 h4 => Ex.nz (by omega) (Ex.ret ?_)
      obtain ⟨_, a0, a1⟩ := h1
      obtain ⟨_, b0, b1⟩ := h2
      obtain ⟨_, c0, c1⟩ := h3
      obtain ⟨h5, d0, d1⟩ := h4
      have e : w64 (w64 (w64 (w64 (r1.1 * 16777216) + w64 (r2.1 * 65536)) + w64 (r3.1 * 256)) + r4.1) = r1.1 * 16777216 + r2.1 * 65536 + r3.1 * 256 + r4.1 := by
        rw [w64_small (n := r1.1 * 16777216) (by omega) (by omega), w64_small (n := r2.1 * 65536) (by omega) (by omega), w64_small (n := r3.1 * 256) (by omega) (by omega), w64_small (n := r1.1 * 16777216 + r2.1 * 65536) (by omega) (by omega), w64_small (n := r1.1 * 16777216 + r2.1 * 65536 + r3.1 * 256) (by omega) (by omega), w64_small (by omega) (by omega)]
      have := tmod_rng (x := r1.1 * 16777216 + r2.1 * 65536 + r3.1 * 256 + r4.1) (n := n) (by omega) (by omega)
      simp only [e]
      exact ⟨h5, this.1, fun _ => this.2, fun hn => absurd hn hd⟩
theorem below_ex {c : Tl1Cur} (h : CO c) (n : Int) : Ex (m_spec_l1Below c n) fun r => CO r.2 ∧ 0 ≤ r.1 ∧ (0 < n → r.1 < n) := (below_ex0 h n).mono fun r hr => ⟨hr.1, hr.2.1, hr.2.2.1⟩
theorem once_ex {c : Tl1Cur} (h : CO c) (n : Int) : Ex (m_spec_l1Once c n) fun r => CO r.2 := by
  unfold m_spec_l1Once
  exact (below_ex h n).bind fun r hr => Ex.ret hr.1
theorem pick_ex {c : Tl1Cur} (h : CO c) (l : List Int) (hl : 0 < l.length) : Ex (m_spec_l1PickInt c l) fun r => CO r.2 ∧ r.1 ∈ l := by
  unfold m_spec_l1PickInt
  refine (below_ex h _).bind fun r hr => Ex.idx hr.2.1 (hr.2.2 (by omega)) fun v hv => Ex.ret ⟨hr.1, hv⟩
def InR (P : Int) (x : TBar) : Prop := 0 ≤ x.A ∧ x.A < P ∧ 0 ≤ x.B ∧ x.B < P
structure GI (g : TGraph) : Prop where
  p0 : 0 ≤ g.Points
  p8 : g.Points ≤ 8
  len : g.Bars.length ≤ 100
  inr : ∀ x ∈ g.Bars, InR g.Points x
theorem simple_ex {c : Tl1Cur} (h : CO c) {n : Int} (n0 : 0 ≤ n) (n8 : n ≤ 8) (odd : Int) : Ex (m_spec_l2Simple c n odd) fun r => CO r.2 ∧ GI r.1 ∧ r.1.Points = n ∧ r.1.Bars.length ≤ 24 := by
  let J : Tl1Cur → List TBar → Prop := fun c l => CO c ∧ l.length ≤ 24 ∧ ∀ x ∈ l, InR n x
  have hin : ∀ (a : Nat) (s1 : Int × List Int × Int × Int × List TBar), s1.1 = (a : Int) → (a : Int) < n → J ⟨s1.2.1, s1.2.2.1, s1.2.2.2.1⟩ s1.2.2.2.2 →
      Ex (loopM (m_spec_l2Simple_L4 n odd s1) BIG ((w64 (s1.1 + 1)), s1.2.1, s1.2.2.1, s1.2.2.2.1, s1.2.2.2.2)) fun r => r.1 = (a : Int) ∧ J ⟨r.2.1, r.2.2.1, r.2.2.2.1⟩ r.2.2.2.2 := by
    intro a s1 hs ha hJ
    refine loop_inv (fun k s => s.1 = ((a + 1 + k : Nat) : Int) ∧ J ⟨s.2.1, s.2.2.1, s.2.2.2.1⟩ s.2.2.2.2) _ (n.toNat - (a + 1)) (by omega) ⟨by simp only; rw [hs, w64_succ (by omega)], hJ⟩ (fun k s hk hI => ?_) (fun s hI => ?_)
    · obtain ⟨i, b, ci, hh, l⟩ := s
      obtain ⟨rfl, hc, hl, hr⟩ := hI
      change l.length ≤ 24 at hl
      change ∀ x ∈ l, InR n x at hr
      obtain ⟨r, hr1, hr2⟩ := below_ex hc 10
      left
      unfold m_spec_l2Simple_L4
      rw [decide_eq_true (by simp only; omega), cond_true]
      simp only [hr1, Option.bind_some]
      have hnew : ∀ x ∈ l ++ [(⟨s1.1, ((a + 1 + k : Nat) : Int)⟩ : TBar)], InR n x := fun x hx => by
        rcases List.mem_append.1 hx with h1 | h1
        · exact hr x h1
        · rw [List.mem_singleton] at h1
          subst h1
          rw [hs]
          exact ⟨by simp only; omega, by simp only; omega, by simp only; omega, by simp only; omega⟩
      rw [lim_ok (show l.length + [(⟨s1.1, ((a + 1 + k : Nat) : Int)⟩ : TBar)].length ≤ 2147483648 by simp; omega), w64_succ (show a + 1 + k ≤ 1099511627776 by omega)]
      cases h1 : decide (r.1 < odd) with
      | false => exact ⟨_, rfl, rfl, hr2.1, hl, hr⟩
      | true =>
        simp only [cond_true, Option.bind_some]
        cases h2 : decide ((l.length : Int) < 24) with
        | false => exact ⟨_, rfl, rfl, hr2.1, hl, hr⟩
        | true =>
          rw [decide_eq_true_eq] at h2
          exact ⟨_, rfl, rfl, hr2.1, by simp; omega, hnew⟩
    · obtain ⟨i, b, ci, hh, l⟩ := s
      obtain ⟨rfl, hJ⟩ := hI
      refine ⟨(s1.1, b, ci, hh, l), ?_, hs, hJ⟩
      unfold m_spec_l2Simple_L4
      rw [decide_eq_false (by simp only; omega)]
      rfl
  unfold m_spec_l2Simple
  refine Ex.bind (Q := fun r => J ⟨r.1, r.2.1, r.2.2.1⟩ r.2.2.2) ?_ fun r hr => Ex.ret ⟨hr.1, ⟨n0, n8, Nat.le_trans hr.2.1 (by omega), hr.2.2⟩, rfl, hr.2.1⟩
  refine loop_inv (fun k s => s.1 = (k : Int) ∧ J ⟨s.2.1, s.2.2.1, s.2.2.2.1⟩ s.2.2.2.2) _ n.toNat (by omega) ⟨rfl, h, by simp, fun x hx => by cases hx⟩ (fun k s hk hI => ?_) (fun s hI => ?_)
  · obtain ⟨r, hr1, hr2, hr3⟩ := hin k s hI.1 (by omega) hI.2
    left
    unfold m_spec_l2Simple_L3
    rw [decide_eq_true (by rw [hI.1]; omega), cond_true, hr1]
    simp only [Option.bind_some]
    exact ⟨_, rfl, by simp only; rw [hr2, w64_succ (by omega)], hr3⟩
  · refine ⟨_, ?_, hI.2⟩
    unfold m_spec_l2Simple_L3
    rw [decide_eq_false (by rw [hI.1]; omega)]
    rfl
def addB (g : TGraph) (a b : Int) : TGraph := bif vG g && decide (0 ≤ a) && decide (0 ≤ b) && decide (a < g.Points) && decide (b < g.Points) && !(a == b) && decide (g.Bars.length < 24) then ⟨g.Points, insB (nrm a b) g.Bars⟩ else g
def addOk (g : TGraph) (a b : Int) : Bool := vG g && decide (0 ≤ a) && decide (0 ≤ b) && decide (a < g.Points) && decide (b < g.Points) && !(a == b) && decide (g.Bars.length < 24)
theorem addS_eq (g : TGraph) (h : g.Bars.length ≤ 1048576) (a b : Int) : m_spec_AddBar g a b = some (addB g a b, addOk g a b) := by
  unfold m_spec_AddBar addB addOk
  rw [isGraphS_eq g (by omega), l2Copy_eq g (by omega), show TBar.mk (if b < a then b else a) (if a < b then b else a) = nrm a b from rfl, l2Put_eq g _ h]
  have e1 : ∀ x : Int, decide (x < 0) = !decide (0 ≤ x) := fun x => by rw [← decide_not, decide_eq_decide]; omega
  have e2 : ∀ x : Int, decide (g.Points ≤ x) = !decide (x < g.Points) := fun x => by rw [← decide_not, decide_eq_decide]; omega
  have e3 : decide (24 ≤ (g.Bars.length : Int)) = !decide (g.Bars.length < 24) := by rw [← decide_not, decide_eq_decide]; omega
  rw [e1 a, e1 b, e2 a, e2 b, e3]
  cases vG g
  · rfl
  · cases decide (0 ≤ a)
    · rfl
    · cases decide (0 ≤ b)
      · rfl
      · cases decide (a < g.Points)
        · rfl
        · cases decide (b < g.Points)
          · rfl
          · cases a == b
            · cases decide (g.Bars.length < 24) <;> rfl
            · rfl
theorem addB_pts (g : TGraph) (a b : Int) : (addB g a b).Points = g.Points := by
  unfold addB
  cases vG g && decide (0 ≤ a) && decide (0 ≤ b) && decide (a < g.Points) && decide (b < g.Points) && !(a == b) && decide (g.Bars.length < 24) <;> rfl
theorem addB_len (g : TGraph) (a b : Int) : (addB g a b).Bars.length ≤ g.Bars.length + 1 ∧ g.Bars.length ≤ (addB g a b).Bars.length := by
  unfold addB
  cases vG g && decide (0 ≤ a) && decide (0 ≤ b) && decide (a < g.Points) && decide (b < g.Points) && !(a == b) && decide (g.Bars.length < 24)
  · exact ⟨by simp, by simp⟩
  · simp only [cond_true, insB_len]
    omega
theorem addB_inr {g : TGraph} (h : ∀ x ∈ g.Bars, InR g.Points x) (a b : Int) : ∀ x ∈ (addB g a b).Bars, InR g.Points x := by
  unfold addB
  cases hb : vG g && decide (0 ≤ a) && decide (0 ≤ b) && decide (a < g.Points) && decide (b < g.Points) && !(a == b) && decide (g.Bars.length < 24)
  · exact h
  · simp only [Bool.and_eq_true, decide_eq_true_eq] at hb
    intro x hx
    rcases List.mem_cons.1 ((insB_perm _ _).mem_iff.1 hx) with rfl | h1
    · unfold nrm InR
      simp only
      refine ⟨?_, ?_, ?_, ?_⟩ <;> split <;> omega
    · exact h x h1
theorem insB_inr {P : Int} {L : List TBar} {y : TBar} (h : ∀ x ∈ L, InR P x) (hy : InR P y) : ∀ x ∈ insB y L, InR P x := fun x hx => by
  rcases List.mem_cons.1 ((insB_perm _ _).mem_iff.1 hx) with rfl | h1
  · exact hy
  · exact h x h1
def remB (g : TGraph) (k : Int) : TGraph := bif vG g && decide (0 ≤ k) && decide (k < (g.Bars.length : Int)) then ⟨g.Points, g.Bars.take k.toNat ++ g.Bars.drop (k.toNat + 1)⟩ else g
theorem remS_ex (g : TGraph) (h : g.Bars.length ≤ 1048576) (k : Int) (hk : k ≤ 1048576) : Ex (m_spec_RemoveBar g k) fun r => r.1 = remB g k := by
  unfold m_spec_RemoveBar remB
  rw [isGraphS_eq g (by omega), l2Copy_eq g (by omega)]
  have e1 : decide (k < 0) = !decide (0 ≤ k) := by rw [← decide_not, decide_eq_decide]; omega
  have e2 : decide ((g.Bars.length : Int) ≤ k) = !decide (k < (g.Bars.length : Int)) := by rw [← decide_not, decide_eq_decide]; omega
  rw [e1, e2]
  cases vG g
  · exact Ex.ret rfl
  · cases h1 : decide (0 ≤ k)
    · exact Ex.ret rfl
    · cases h2 : decide (k < (g.Bars.length : Int))
      · exact Ex.ret rfl
      · rw [decide_eq_true_eq] at h1 h2
        have s1 : slc g.Bars 0 k = some ((g.Bars.take k.toNat).drop 0) := by unfold slc; rw [if_pos (by omega)]; rfl
        have ew : w64 (k + 1) = k + 1 := w64_small (by omega) (by omega)
        have s2 : slc g.Bars (k + 1) (g.Bars.length : Int) = some ((g.Bars.take g.Bars.length).drop (k + 1).toNat) := by unfold slc; rw [if_pos (by omega)]; rfl
        simp only [Option.bind_some, Bool.not_true, cond_false, s1, ew, s2]
        rw [lim_ok (by simp; omega), Option.bind_some, lim_ok (by simp; omega)]
        refine Ex.ret ?_
        simp only [Bool.and_self, cond_true, List.nil_append, List.drop_zero, List.take_length]
        rw [show (k + 1).toNat = k.toNat + 1 by omega]
theorem remB_ok (g : TGraph) (k : Int) : (remB g k).Points = g.Points ∧ (remB g k).Bars.length ≤ g.Bars.length ∧ (∀ x ∈ (remB g k).Bars, x ∈ g.Bars) := by
  unfold remB
  cases vG g && decide (0 ≤ k) && decide (k < (g.Bars.length : Int))
  · exact ⟨rfl, Nat.le_refl _, fun x hx => hx⟩
  · refine ⟨rfl, ?_, fun x hx => ?_⟩
    · simp only [cond_true, List.length_append, List.length_take, List.length_drop]
      omega
    · rcases List.mem_append.1 hx with h1 | h1
      · exact List.mem_of_mem_take h1
      · exact List.mem_of_mem_drop h1
theorem third_ex {c : Tl1Cur} (h : CO c) {n w : Int} (hn : 0 < n) (hw : 0 ≤ w ∧ w < n) (x : TBar) : Ex (m_spec_l6Third c n x w) fun r => CO r.2 ∧ 0 ≤ r.1 ∧ r.1 < n := by
  unfold m_spec_l6Third
  refine (below_ex h n).bind fun r hr => Ex.bind (Q := fun _ => True) (Ex.bif (fun _ => Ex.ret trivial) (fun _ => Ex.ret trivial)) fun j _ => Ex.bif (fun _ => Ex.ret ⟨hr.1, hw.1, hw.2⟩) (fun _ => Ex.ret ⟨hr.1, hr.2.1, hr.2.2 hn⟩)
theorem laman7_ex (s3 : Int × List Int × Int × Int × Int × List TBar) (r : Int × Tl1Cur) (x : TBar) : Ex (loopM (m_spec_l6Laman_L7 s3 r x) BIG 0) fun b => b.1 = s3.1 ∧ b.2.1 = r.1 ∧ 0 ≤ b.2.2.1 ∧ b.2.2.1 ≤ 2 ∧ b.2.2.2.1 = r.2.b ∧ b.2.2.2.2.1 = r.2.i ∧ b.2.2.2.2.2.1 = r.2.h ∧ b.2.2.2.2.2.2.1 = s3.2.2.2.2.1 ∧ b.2.2.2.2.2.2.2.1 = s3.2.2.2.2.2 ∧ b.2.2.2.2.2.2.2.2 = (x.A, x.B) := by
  refine loop_inv (fun k s => s = (k : Int) ∧ ∀ j : Nat, j < k → (j : Int) = x.A ∨ (j : Int) = x.B) _ 3 (by omega) ⟨rfl, fun j hj => by omega⟩ (fun k s hk hI => ?_) (fun s hI => ?_)
  · obtain ⟨rfl, hI⟩ := hI
    unfold m_spec_l6Laman_L7
    by_cases hA : (k : Int) = x.A ∨ (k : Int) = x.B
    · left
      refine ⟨((k + 1 : Nat) : Int), ?_, rfl, fun j hj => ?_⟩
      · have e : ((bif (k : Int) == x.A then some true else some ((k : Int) == x.B)) : Option Bool) = some true := by
          rcases hA with h | h
          · rw [h, beq_self_eq_true]; rfl
          · cases (k : Int) == x.A
            · rw [h, beq_self_eq_true]; rfl
            · rfl
        rw [e, Option.bind_some, cond_true, w64_succ (by omega)]
      · by_cases hjk : j = k
        · subst hjk; exact hA
        · exact hI j (by omega)
    · right
      have e : ((bif (k : Int) == x.A then some true else some ((k : Int) == x.B)) : Option Bool) = some false := by
        have h1 : ((k : Int) == x.A) = false := by simp; exact fun e => hA (.inl e)
        have h2 : ((k : Int) == x.B) = false := by simp; exact fun e => hA (.inr e)
        rw [h1, h2]; rfl
      rw [e, Option.bind_some, cond_false]
      exact ⟨_, rfl, rfl, rfl, by simp only; omega, by simp only; omega, rfl, rfl, rfl, rfl, rfl, rfl⟩
  · obtain ⟨rfl, hI⟩ := hI
    have h0 := hI 0 (by omega)
    have h1 := hI 1 (by omega)
    have h2 := hI 2 (by omega)
    omega
theorem laman_ex {c : Tl1Cur} (h : CO c) {n : Int} (n1 : 1 ≤ n) (n6 : n ≤ 6) : Ex (m_spec_l6Laman c n) fun r => CO r.2 ∧ GI r.1 ∧ r.1.Points = n := by
  unfold m_spec_l6Laman
  refine Ex.bif (fun hd => Ex.ret ⟨h, ⟨by simp only; omega, by simp only; omega, by simp, fun x hx => by cases hx⟩, rfl⟩) (fun hd => ?_)
  rw [decide_eq_false_iff_not] at hd
  rw [l2Put_eq ⟨n, []⟩ _ (by simp)]
  simp only [Option.bind_some]
  refine Ex.bind (Q := fun b => CO ⟨b.1, b.2.1, b.2.2.1⟩ ∧ b.2.2.2.1 = n ∧ b.2.2.2.2.length ≤ 100 ∧ ∀ x ∈ b.2.2.2.2, InR n x) ?_ fun b hb => Ex.ret ⟨hb.1, ⟨by simp only; rw [hb.2.1]; omega, by simp only; rw [hb.2.1]; omega, hb.2.2.1, by rw [hb.2.1]; exact hb.2.2.2⟩, hb.2.1⟩
  refine loop_inv (fun k s => s.1 = ((k + 2 : Nat) : Int) ∧ CO ⟨s.2.1, s.2.2.1, s.2.2.2.1⟩ ∧ s.2.2.2.2.1 = n ∧ 0 < s.2.2.2.2.2.length ∧ s.2.2.2.2.2.length ≤ 1 + 3 * k ∧ ∀ x ∈ s.2.2.2.2.2, InR n x) _ (n.toNat - 2) (by omega) ⟨rfl, h, rfl, by simp [insB], by simp [insB], fun x hx => by
    simp only [insB, List.mem_singleton] at hx
    subst hx
    exact ⟨by simp, by simp only; omega, by simp, by simp only; omega⟩⟩ (fun k s hk hI => ?_) (fun s hI => ?_)
  · obtain ⟨v, b, i, hh, p, l⟩ := s
    obtain ⟨rfl, hc, hp, hl0, hl, hin⟩ := hI
    change p = n at hp
    subst hp
    change 0 < l.length at hl0
    change l.length ≤ 1 + 3 * k at hl
    change ∀ x ∈ l, InR p x at hin
    left
    have key : Ex (m_spec_l6Laman_L5 p (((k + 2 : Nat) : Int), b, i, hh, p, l)) fun r => ∃ t, r = .inl t ∧ t.1 = ((k + 1 + 2 : Nat) : Int) ∧ CO ⟨t.2.1, t.2.2.1, t.2.2.2.1⟩ ∧ t.2.2.2.2.1 = p ∧ 0 < t.2.2.2.2.2.length ∧ t.2.2.2.2.2.length ≤ 1 + 3 * (k + 1) ∧ ∀ x ∈ t.2.2.2.2.2, InR p x := by
      unfold m_spec_l6Laman_L5
      rw [decide_eq_true (show ((k + 2 : Nat) : Int) < p by omega), cond_true]
      simp only
      refine (below_ex hc _).bind fun r1 h1 => ?_
      have a1 := h1.2.2 (by omega)
      refine (below_ex h1.1 _).bind fun r2 h2 => Ex.nz (by omega) ?_
      rw [w64_small (n := ((k + 2 : Nat) : Int) - 1) (by omega) (by omega)] at h2
      have a2 := h2.2.2 (by omega)
      have a3 := h1.2.1
      have a4 := h2.2.1
      refine Ex.bind (Q := fun j => CO ⟨j.2.1, j.2.2.1, j.2.2.2⟩ ∧ (j.1 = true → 2 < k + 2)) ?_ fun j hj => ?_
      · refine (once_ex h2.1 2).bind fun r3 h3 => Ex.bif (fun _ => Ex.ret ⟨h3, fun hd => ?_⟩) (fun _ => Ex.ret ⟨h3, fun hd => by cases hd⟩)
        rw [decide_eq_true_eq] at hd
        omega
      · refine Ex.bind (Q := fun t => t.1 = ((k + 2 : Nat) : Int) ∧ CO ⟨t.2.1, t.2.2.1, t.2.2.2.1⟩ ∧ t.2.2.2.2.1 = p ∧ 0 < t.2.2.2.2.2.length ∧ t.2.2.2.2.2.length ≤ 1 + 3 * (k + 1) ∧ ∀ x ∈ t.2.2.2.2.2, InR p x) (Ex.bif (fun hj1 => ?_) (fun hj1 => ?_)) fun t ht => Ex.ret ⟨_, rfl, ?_, ht.2⟩
        · have hk2 := hj.2 hj1
          refine (below_ex hj.1 _).bind fun r4 h4 => Ex.idx h4.2.1 (h4.2.2 (by omega)) fun x hx => (laman7_ex _ _ x).bind fun bb hb => ?_
          obtain ⟨w1, w2, w3, w4, w5, w6, w7, w8, w9, w10⟩ := hb
          obtain ⟨e1, e2, e3, e4, e5, e6, e7, e8, e9⟩ := bb
          obtain ⟨e9, e10⟩ := e9
          simp only [Prod.mk.injEq] at w1 w2 w3 w4 w5 w6 w7 w8 w9 w10
          obtain ⟨rfl, rfl⟩ := w10
          subst w1 w2 w5 w6 w7 w8 w9
          have hxi := hin x hx
          have h4' := h4.2.2 (by omega)
          refine (third_ex h4.1 (n := ((k + 2 : Nat) : Int)) (by omega) ⟨w3, by omega⟩ x).bind fun r5 h5 => (remS_ex ⟨e7, e8⟩ (by simp only; omega) r4.1 (by omega)).bind fun r6 h6 => ?_
          obtain ⟨q1, q2, q3⟩ := remB_ok ⟨e7, e8⟩ r4.1
          rw [← h6] at q1 q2 q3
          simp only at q1 q2 q3
          have p1 : InR e7 ⟨x.A, ((k + 2 : Nat) : Int)⟩ := ⟨hxi.1, hxi.2.1, by simp only; omega, by simp only; omega⟩
          have p2 : InR e7 ⟨x.B, ((k + 2 : Nat) : Int)⟩ := ⟨hxi.2.2.1, hxi.2.2.2, by simp only; omega, by simp only; omega⟩
          have p3 : InR e7 ⟨r5.1, ((k + 2 : Nat) : Int)⟩ := ⟨h5.2.1, by have := h5.2.2; simp only; omega, by simp only; omega, by simp only; omega⟩
          have hin6 : ∀ y ∈ r6.1.Bars, InR e7 y := fun y hy => hin y (q3 y hy)
          rw [l2Put_eq r6.1 _ (by omega)]
          simp only [Option.bind_some]
          rw [l2Put_eq _ _ (by simp only [insB_len]; omega)]
          simp only [Option.bind_some]
          rw [l2Put_eq _ _ (by simp only [insB_len]; omega)]
          refine Ex.ret ⟨rfl, h5.1, q1, ?_, ?_, insB_inr (insB_inr (insB_inr hin6 p1) p2) p3⟩
          · simp only [insB_len]; omega
          · simp only [insB_len]; omega
        · have hm := tmod_rng (x := r1.1 + 1 + r2.1) (n := ((k + 2 : Nat) : Int)) (by omega) (by omega)
          rw [w64_small (n := r1.1 + 1) (by omega) (by omega), w64_small (n := r1.1 + 1 + r2.1) (by omega) (by omega)]
          rw [l2Put_eq ⟨p, l⟩ _ (by simp only; omega)]
          simp only [Option.bind_some]
          rw [l2Put_eq _ _ (by simp only [insB_len]; omega)]
          refine Ex.ret ⟨rfl, hj.1, rfl, ?_, ?_, insB_inr (insB_inr hin ⟨h1.2.1, by simp only; omega, by simp only; omega, by simp only; omega⟩) ⟨hm.1, by have := hm.2; simp only; omega, by simp only; omega, by simp only; omega⟩⟩
          · simp only [insB_len]; omega
          · simp only [insB_len]; omega
        · simp only
          rw [ht.1, w64_succ (by omega)]
    obtain ⟨r, e, t, rfl, ht⟩ := key
    exact ⟨t, e, ht⟩
  · obtain ⟨v, b, i, hh, p, l⟩ := s
    obtain ⟨rfl, hc, hp, hl0, hl, hin⟩ := hI
    change p = n at hp
    subst hp
    refine ⟨(b, i, hh, p, l), ?_, hc, rfl, ?_, hin⟩
    · unfold m_spec_l6Laman_L5
      rw [decide_eq_false (by simp only; omega)]
      rfl
    · simp only at hl ⊢
      omega
end Go.Proofs.Yteognanhfpbghaa
end
section
set_option linter.unusedVariables false
set_option linter.unusedSimpArgs false
set_option linter.unnecessarySimpa false
open Go Go.Fw
namespace Go.Proofs.Yteognanhfpbghaa
def listed (S : List Bool) : List Int := pieces (fun k => bif (S[k]?).getD false then [(k : Int)] else []) S.length
end Go.Proofs.Yteognanhfpbghaa
end
section
set_option linter.unusedVariables false
set_option linter.unusedSimpArgs false
set_option linter.unnecessarySimpa false
open Go Go.Fw
namespace Go.Proofs.Yteognanhfpbghaa
theorem Ex.if {α : Type} {b : Prop} [Decidable b] {x y : Option α} {Q : α → Prop} (h1 : b → Ex x Q) (h2 : ¬ b → Ex y Q) : Ex (if b then x else y) Q := by
  split
  · exact h1 ‹_›
  · exact h2 ‹_›
theorem complete_ex {n : Int} (n1 : 1 ≤ n) (n7 : n ≤ 7) : Ex (m_spec_CompleteGraph n) fun g => GI g ∧ g.Points = n := by
  unfold m_spec_CompleteGraph
  rw [l1In_eq, decide_eq_true n1, decide_eq_true n7]
  simp only [Bool.and_self, Option.bind_some, Bool.not_true, cond_false]
  have hin : ∀ (a : Nat) (l : List TBar), (a : Int) < n → l.length ≤ 7 * a → (∀ x ∈ l, InR n x) → Ex (loopM (m_spec_CompleteGraph_L4 n ((a : Int), l)) BIG (w64 ((a : Int) + 1), l)) fun r => r.1 = (a : Int) ∧ r.2.length ≤ 7 * (a + 1) ∧ ∀ x ∈ r.2, InR n x := by
    intro a l ha hl hr
    refine loop_inv (fun k s => s.1 = ((a + 1 + k : Nat) : Int) ∧ s.2.length ≤ 7 * a + k ∧ ∀ x ∈ s.2, InR n x) _ (n.toNat - (a + 1)) (by omega) ⟨by simp only; rw [w64_succ (by omega)], hl, hr⟩ (fun k s hk hI => ?_) (fun s hI => ?_)
    · obtain ⟨i, o⟩ := s
      obtain ⟨rfl, ho, hro⟩ := hI
      change o.length ≤ 7 * a + k at ho
      left
      refine ⟨(((a + 1 + k + 1 : Nat) : Int), o ++ [⟨(a : Int), ((a + 1 + k : Nat) : Int)⟩]), ?_, rfl, by simp; omega, fun x hx => ?_⟩
      · unfold m_spec_CompleteGraph_L4
        rw [decide_eq_true (by simp only; omega), cond_true]
        simp only
        rw [lim_ok (by simp; omega), Option.bind_some, w64_succ (by omega)]
      · rcases List.mem_append.1 hx with h1 | h1
        · exact hro x h1
        · rw [List.mem_singleton] at h1
          subst h1
          exact ⟨by simp only; omega, by simp only; omega, by simp only; omega, by simp only; omega⟩
    · obtain ⟨i, o⟩ := s
      obtain ⟨rfl, ho, hro⟩ := hI
      change o.length ≤ _ at ho
      refine ⟨((a : Int), o), ?_, rfl, by simp only; omega, hro⟩
      unfold m_spec_CompleteGraph_L4
      rw [decide_eq_false (by simp only; omega)]
      rfl
  refine Ex.bind (Q := fun l => l.length ≤ 100 ∧ ∀ x ∈ l, InR n x) ?_ fun l hl => Ex.ret ⟨⟨by simp only; omega, by simp only; omega, hl.1, hl.2⟩, rfl⟩
  refine loop_inv (fun k s => s.1 = (k : Int) ∧ s.2.length ≤ 7 * k ∧ ∀ x ∈ s.2, InR n x) _ n.toNat (by omega) ⟨rfl, by simp, fun x hx => by cases hx⟩ (fun k s hk hI => ?_) (fun s hI => ?_)
  · obtain ⟨i, o⟩ := s
    obtain ⟨rfl, ho, hro⟩ := hI
    obtain ⟨r, e, h1, h2⟩ := hin k o (by omega) ho hro
    left
    rw [w64_succ (show k ≤ 1099511627776 by omega)] at e
    refine ⟨(((k + 1 : Nat) : Int), r.2), ?_, rfl, h2⟩
    unfold m_spec_CompleteGraph_L3
    rw [decide_eq_true (by simp only; omega), cond_true]
    simp only [e, Option.bind_some, h1, w64_succ (show k ≤ 1099511627776 by omega)]
  · obtain ⟨i, o⟩ := s
    obtain ⟨rfl, ho, hro⟩ := hI
    change o.length ≤ _ at ho
    refine ⟨o, ?_, by omega, hro⟩
    unfold m_spec_CompleteGraph_L3
    rw [decide_eq_false (by simp only; omega)]
    rfl
structure FS (f : TFramework) : Prop where
  b : f.Graph.Bars.length ≤ 200
  p : f.Places.length ≤ 8
theorem of_ex {c : Tl1Cur} (h : CO c) {g : TGraph} (hg : GI g) : Ex (m_spec_l10Of c g) fun r => CO r.2 ∧ FS r.1 ∧ (r.1.Places.length : Int) = g.Points ∧ r.1.Graph.Points = g.Points := by
  have p0 := hg.p0
  have p8 := hg.p8
  have hl := hg.len
  unfold m_spec_l10Of
  refine Ex.bind (Q := fun b => CO ⟨b.1, b.2.1, b.2.2.1⟩ ∧ (b.2.2.2.length : Int) = g.Points) ?_ fun b hb => ?_
  · refine loop_inv (fun k s => s.1 = (k : Int) ∧ CO ⟨s.2.1, s.2.2.1, s.2.2.2.1⟩ ∧ s.2.2.2.2.length = k) _ g.Points.toNat (by omega) ⟨rfl, h, rfl⟩ (fun k s hk hI => ?_) (fun s hI => ?_)
    · obtain ⟨i, b, ci, hh, l⟩ := s
      obtain ⟨rfl, hc, hll⟩ := hI
      change l.length = k at hll
      obtain ⟨u, hu1, hu2⟩ := below_ex hc 5
      obtain ⟨v, hv1, hv2⟩ := below_ex hu2.1 5
      left
      unfold m_spec_l10Of_L1
      rw [decide_eq_true (by simp only; omega), cond_true]
      simp only [hu1, hv1, Option.bind_some]
      rw [lim_ok (by simp; omega), Option.bind_some]
      exact ⟨_, rfl, w64_succ (by omega), hv2.1, by simp [hll]⟩
    · obtain ⟨i, b, ci, hh, l⟩ := s
      obtain ⟨rfl, hc, hll⟩ := hI
      change l.length = _ at hll
      refine ⟨(b, ci, hh, l), ?_, hc, by simp only; omega⟩
      unfold m_spec_l10Of_L1
      rw [decide_eq_false (by simp only; omega)]
      rfl
  · refine Ex.bind (Q := fun r => r.1 = b.1 ∧ r.2.1 = b.2.1 ∧ r.2.2.1 = b.2.2.1 ∧ r.2.2.2.1.length ≤ 100 ∧ r.2.2.2.2 = b.2.2.2) ?_ fun r hr => Ex.ret ⟨by rw [hr.1, hr.2.1, hr.2.2.1]; exact hb.1, ⟨by have := hr.2.2.2.1; show r.2.2.2.1.length ≤ 200; omega, by show r.2.2.2.2.length ≤ 8; rw [hr.2.2.2.2]; omega⟩, by show ((r.2.2.2.2).length : Int) = _; rw [hr.2.2.2.2]; exact hb.2, rfl⟩
    refine loop_inv (fun k s => s.1 = (k : Int) ∧ s.2.length ≤ k) _ g.Bars.length (by omega) ⟨rfl, by simp⟩ (fun k s hk hI => ?_) (fun s hI => ?_)
    · obtain ⟨i, o⟩ := s
      obtain ⟨rfl, ho⟩ := hI
      change o.length ≤ k at ho
      have hx := List.getElem?_eq_getElem hk
      obtain ⟨a0, a1, b0, b1⟩ := hg.inr _ (List.getElem_mem hk)
      have key : Ex (m_spec_l10Of_L2 g b ((k : Int), o)) fun r => ∃ t, r = .inl t ∧ t.1 = ((k + 1 : Nat) : Int) ∧ t.2.length ≤ k + 1 := by
        unfold m_spec_l10Of_L2
        rw [decide_eq_true (by simp only; omega), cond_true]
        simp only [idx_of hx, Option.bind_some]
        refine Ex.bind (Q := fun _ => True) (Ex.idx a0 (by omega) fun u _ => Ex.idx b0 (by omega) fun v _ => Ex.bif (fun _ => Ex.bif (fun _ => Ex.ret trivial) (fun hk0 => ?_)) (fun _ => Ex.ret trivial)) fun j _ => ?_
        · have hk0' : k ≠ 0 := fun e => by subst e; simp at hk0
          refine Ex.idx ?_ ?_ fun w _ => Ex.ret trivial
          · rw [w64_small (by omega) (by omega)]; omega
          · rw [w64_small (by omega) (by omega)]; omega
        · refine Ex.bind (Q := fun l => l.length ≤ k + 1) (Ex.bif (fun _ => Ex.lim (by simp; omega) (Ex.ret (by simp; omega))) (fun _ => Ex.ret (by omega))) fun l hl => Ex.ret ⟨_, rfl, ?_, hl⟩
          simp only
          rw [w64_succ (by omega)]
      obtain ⟨r, e, t, rfl, ht⟩ := key
      exact .inl ⟨t, e, ht⟩
    · obtain ⟨i, o⟩ := s
      obtain ⟨rfl, ho⟩ := hI
      change o.length ≤ _ at ho
      refine ⟨(b.1, b.2.1, b.2.2.1, o, b.2.2.2), ?_, rfl, rfl, rfl, by simp only; omega, rfl⟩
      unfold m_spec_l10Of_L2
      rw [decide_eq_false (by simp only; omega)]
      rfl
theorem addB_GI {g : TGraph} (hg : GI g) (hl : g.Bars.length ≤ 99) (a b : Int) : GI (addB g a b) := by
  have h1 := addB_pts g a b
  have h2 := addB_len g a b
  refine ⟨by rw [h1]; exact hg.p0, by rw [h1]; exact hg.p8, by omega, ?_⟩
  rw [h1]
  exact addB_inr hg.inr a b
theorem framework_ex {c : Tl1Cur} (h : CO c) : Ex (m_spec_l10Framework c) fun r => CO r.2 ∧ FS r.1 ∧ 2 ≤ r.1.Places.length := by
  unfold m_spec_l10Framework
  refine (below_ex h 3).bind fun r1 h1 => Ex.bif (fun _ => ?_) (fun _ => Ex.bif (fun _ => ?_) (fun _ => ?_))
  · refine (below_ex h1.1 5).bind fun r2 h2 => ?_
    have a := h2.2.2 (by omega)
    have a0 := h2.2.1
    rw [w64_small (by omega) (by omega)]
    refine (simple_ex h2.1 (by omega) (by omega) _).bind fun r3 h3 => (of_ex h3.1 h3.2.1).bind fun r4 h4 => Ex.ret ⟨h4.1, h4.2.1, ?_⟩
    have := h4.2.2.1
    have := h3.2.2.1
    simp only
    omega
  · refine (below_ex h1.1 4).bind fun r2 h2 => ?_
    have a := h2.2.2 (by omega)
    have a0 := h2.2.1
    rw [w64_small (by omega) (by omega)]
    refine (laman_ex h2.1 (by omega) (by omega)).bind fun r3 h3 => (below_ex h3.1 _).bind fun r4 h4 => (below_ex h4.1 _).bind fun r5 h5 => ?_
    have hl := h3.2.1.len
    rw [addS_eq r3.1 (by omega)]
    have hgi : GI (addB r3.1 r4.1 r5.1) := by
      by_cases h99 : r3.1.Bars.length ≤ 99
      · exact addB_GI h3.2.1 h99 _ _
      · have : addB r3.1 r4.1 r5.1 = r3.1 := by
          unfold addB
          rw [decide_eq_false (show ¬ r3.1.Bars.length < 24 by omega), Bool.and_false]
          rfl
        rw [this]
        exact h3.2.1
    simp only [Option.bind_some]
    refine (of_ex h5.1 hgi).bind fun r6 h6 => Ex.ret ⟨h6.1, h6.2.1, ?_⟩
    have := h6.2.2.1
    have e := addB_pts r3.1 r4.1 r5.1
    have := h3.2.2
    simp only
    omega
  · refine (below_ex h1.1 5).bind fun r2 h2 => ?_
    have a := h2.2.2 (by omega)
    have a0 := h2.2.1
    rw [w64_small (by omega) (by omega)]
    refine (laman_ex h2.1 (by omega) (by omega)).bind fun r3 h3 => (of_ex h3.1 h3.2.1).bind fun r4 h4 => Ex.ret ⟨h4.1, h4.2.1, ?_⟩
    have := h4.2.2.1
    have := h3.2.2
    simp only
    omega
theorem any10_ex {c : Tl1Cur} (h : CO c) : Ex (m_spec_l10Any c) fun r => CO r.2 ∧ FS r.1 := by
  unfold m_spec_l10Any
  refine (framework_ex h).bind fun r1 h1 => (below_ex h1.1 14).bind fun r2 h2 => ?_
  have hp := h1.2.1.p
  have h2p := h1.2.2
  refine Ex.bind (Q := fun j => CO ⟨j.1, j.2.1, j.2.2.1⟩ ∧ j.2.2.2.length ≤ 8) (Ex.bif (fun _ => ?_) (fun _ => Ex.bif (fun _ => ?_) (fun _ => ?_))) fun j hj => Ex.ret ⟨hj.1, h1.2.1.b, hj.2⟩
  · exact (pick_ex h2.1 _ (by simp)).bind fun r3 h3 => Ex.idx (by omega) (by omega) fun v _ => Ex.ret ⟨h3.1, by simp; omega⟩
  · have s : slc r1.1.Places 1 (r1.1.Places.length : Int) = some ((r1.1.Places.take r1.1.Places.length).drop 1) := by
      unfold slc
      rw [if_pos (by omega)]
      rfl
    rw [s]
    exact Ex.ret ⟨h2.1, by simp; omega⟩
  · exact Ex.ret ⟨h2.1, hp⟩
theorem small_ex {c : Tl1Cur} (h : CO c) : Ex (m_spec_l17Small c) fun r => CO r.2 ∧ FS r.1 := by
  unfold m_spec_l17Small
  refine (below_ex h 4).bind fun r1 h1 => (once_ex h1.1 3).bind fun r2 h2 => ?_
  have a := h1.2.2 (by omega)
  have a0 := h1.2.1
  rw [w64_small (by omega) (by omega)]
  refine Ex.bif (fun _ => ?_) (fun _ => ?_)
  · exact (complete_ex (by omega) (by omega)).bind fun g hg => (of_ex h2 hg.1).bind fun r4 h4 => Ex.ret ⟨h4.1, h4.2.1⟩
  · exact (laman_ex h2 (by omega) (by omega)).bind fun r3 h3 => (of_ex h3.1 h3.2.1).bind fun r4 h4 => Ex.ret ⟨h4.1, h4.2.1⟩
theorem drawPlaces_ex {code : List Int} (h : code.length ≤ 1048576) : Ex (m_spec_DrawOtherPlaces code) FS := by
  unfold m_spec_DrawOtherPlaces
  refine (new_ex h).bind fun c hc => (once_ex hc 10).bind fun r hr => Ex.bif (fun _ => ?_) (fun _ => ?_)
  · exact (any10_ex hr).bind fun r1 h1 => Ex.ret h1.2
  · exact (small_ex hr).bind fun r1 h1 => Ex.ret h1.2
end Go.Proofs.Yteognanhfpbghaa
end
section
set_option linter.unusedVariables false
set_option linter.unusedSimpArgs false
set_option linter.unnecessarySimpa false
open Go Go.Fw Go.Sp
namespace Go.Proofs.Yteognanhfpbghaa
theorem henne {I : Nat → Nat} (hI : Sparse 2 3 I) {e f v : Nat} (he : e < 64) (hf : f < 64) (hv : v < 8) (hev : e / 8 ≠ v) (hev2 : e % 8 = v) (hfv : f / 8 ≠ v) (hfv2 : f % 8 = v) (hef : e ≠ f) (hno : ∀ i, i < 64 → 0 < I i → i / 8 ≠ v ∧ i % 8 ≠ v) : Sparse 2 3 (add1 (add1 I e) f) := by
  refine ⟨fun X hX => ?_, fun i hi hp => ?_⟩
  · rw [span_add1 _ hf, span_add1 _ he] at hX ⊢
    cases hXv : X v with
    | false =>
      have h1 : Sp.inn X e = false := by unfold Sp.inn; rw [hev2, hXv, Bool.and_false]
      have h2 : Sp.inn X f = false := by unfold Sp.inn; rw [hfv2, hXv, Bool.and_false]
      rw [h1, h2] at hX ⊢
      simp only [Bool.false_eq_true, if_false, Nat.add_zero] at hX ⊢
      exact hI.sp X hX
    | true =>
      have hs : span I X = span I (fun u => X u && u != v) := su_congr 64 fun i hi => by
        by_cases h0 : 0 < I i
        · obtain ⟨n1, n2⟩ := hno i hi h0
          have e1 : Sp.inn (fun u => X u && u != v) i = Sp.inn X i := by
            show ((X (i / 8) && i / 8 != v) && (X (i % 8) && i % 8 != v)) = (X (i / 8) && X (i % 8))
            rw [show (i / 8 != v) = true by simp [n1], show (i % 8 != v) = true by simp [n2], Bool.and_true, Bool.and_true]
          rw [e1]
        · have : I i = 0 := by omega
          rw [this]
          split <;> split <;> rfl
      have hz : size X = size (fun u => X u && u != v) + 1 := su_bump (j := v) 8 hv (by simp [hXv]) (fun i _ hne => by
        have : (i != v) = true := by simp [hne]
        simp [this])
      by_cases h0 : 0 < span I X
      · have h1 := hI.sp (fun u => X u && u != v) (by rw [← hs]; exact h0)
        have h2 : (if Sp.inn X e = true then 1 else 0) ≤ 1 := by split <;> omega
        have h3 : (if Sp.inn X f = true then 1 else 0) ≤ 1 := by split <;> omega
        omega
      · cases h1 : Sp.inn X e with
        | false =>
          rw [h1] at hX
          cases h2 : Sp.inn X f with
          | false => rw [h2] at hX; simp at hX; omega
          | true =>
            have h3 := size_inn hf (by omega) h2
            simp only [Bool.false_eq_true, if_false, if_true]
            omega
        | true =>
          have h3 := size_inn he (by omega) h1
          cases h2 : Sp.inn X f with
          | false =>
            simp only [Bool.false_eq_true, if_false, if_true]
            omega
          | true =>
            have h4 : 2 ≤ size (fun u => X u && u != v) := by
              unfold Sp.inn at h1 h2
              rw [Bool.and_eq_true] at h1 h2
              refine size_two (a := e / 8) (b := f / 8) (by omega) (by omega) (by omega) ?_ ?_
              · simp [h1.1, hev]
              · simp [h2.1, hfv]
            simp only [if_true]
            omega
  · unfold add1 at hp
    by_cases hif : i = f
    · omega
    · rw [if_neg hif] at hp
      by_cases hie : i = e
      · omega
      · rw [if_neg hie] at hp
        exact hI.ll i hi hp
def fan (a b : Int) : List Int → List TBar
  | [] => [⟨a, b⟩]
  | t :: T => ⟨a, t⟩ :: ⟨b, t⟩ :: fan a b T
theorem fan_len (a b : Int) : ∀ T, (fan a b T).length = 2 * T.length + 1
  | [] => rfl
  | t :: T => by simp [fan, fan_len a b T]; omega
theorem fan_mem {a b : Int} {x : TBar} : ∀ {T : List Int}, x ∈ fan a b T → x = ⟨a, b⟩ ∨ ∃ t ∈ T, x = ⟨a, t⟩ ∨ x = ⟨b, t⟩
  | [], h => by
    unfold fan at h
    rw [List.mem_singleton] at h
    exact .inl h
  | t :: T, h => by
    unfold fan at h
    rcases List.mem_cons.1 h with h | h
    · exact .inr ⟨t, List.mem_cons_self .., .inl h⟩
    · rcases List.mem_cons.1 h with h | h
      · exact .inr ⟨t, List.mem_cons_self .., .inr h⟩
      · rcases fan_mem h with h | ⟨s, hs, h⟩
        · exact .inl h
        · exact .inr ⟨s, List.mem_cons_of_mem _ hs, h⟩
structure Asc (P : Int) (L : List Int) : Prop where
  p1 : 1 ≤ P
  p8 : P ≤ 8
  rng : ∀ v ∈ L, 0 ≤ v ∧ v < P
  lt : L.Pairwise (· < ·)
section
variable {P a b : Int} {T : List Int}
theorem Asc.ab (h : Asc P (a :: b :: T)) : a < b ∧ (∀ t ∈ T, a < t ∧ b < t) := by
  have h1 := List.pairwise_cons.1 h.lt
  have h2 := List.pairwise_cons.1 h1.2
  exact ⟨h1.1 b (List.mem_cons_self ..), fun t ht => ⟨h1.1 t (List.mem_cons_of_mem _ ht), h2.1 t ht⟩⟩
theorem Asc.tail {s : Int} (h : Asc P (a :: b :: s :: T)) : Asc P (a :: b :: T) := by
  refine ⟨h.p1, h.p8, fun v hv => h.rng v ?_, ?_⟩
  · simp only [List.mem_cons] at hv ⊢
    rcases hv with h | h | h
    · exact .inl h
    · exact .inr (.inl h)
    · exact .inr (.inr (.inr h))
  · refine h.lt.sublist ?_
    exact ((List.sublist_cons_self s T).cons_cons b).cons_cons a
theorem Asc.fan_in (h : Asc P (a :: b :: T)) : ∀ x ∈ fan a b T, InB P x ∧ x.A ∈ a :: b :: T ∧ x.B ∈ a :: b :: T := fun x hx => by
  obtain ⟨h1, h2⟩ := h.ab
  have ha := h.rng a (by simp)
  have hb := h.rng b (by simp)
  rcases fan_mem hx with rfl | ⟨t, ht, rfl | rfl⟩
  · exact ⟨⟨by simp only; omega, by simp only; omega, by simp only; omega, by simp only; omega, by simp only; omega⟩, by simp, by simp⟩
  · have h3 := h2 t ht
    have h4 := h.rng t (by simp [ht])
    exact ⟨⟨by simp only; omega, by simp only; omega, by simp only; omega, by simp only; omega, by simp only; omega⟩, by simp, by simp [ht]⟩
  · have h3 := h2 t ht
    have h4 := h.rng t (by simp [ht])
    exact ⟨⟨by simp only; omega, by simp only; omega, by simp only; omega, by simp only; omega, by simp only; omega⟩, by simp, by simp [ht]⟩
theorem InB.ok {x : TBar} (h : InB P x) (h8 : P ≤ 8) : OkB x := by
  have := h.a0; have := h.ap; have := h.b0; have := h.bp
  exact ⟨by omega, by omega, by omega, by omega, h.ab⟩
theorem Asc.fan_ok (h : Asc P (a :: b :: T)) : ∀ x ∈ fan a b T, OkB x := fun x hx => (h.fan_in x hx).1.ok h.p8
theorem code_mk {u v : Int} (hu : 0 ≤ u) (hv : 0 ≤ v) (h8 : v < 8) : codeB ⟨u, v⟩ / 8 = u.toNat ∧ codeB ⟨u, v⟩ % 8 = v.toNat := by
  unfold codeB
  simp only
  omega
theorem fan_sparse : ∀ {T : List Int}, Asc P (a :: b :: T) → Sparse 2 3 (mult (fan a b T))
  | [], h => by
    have ho : OkB ⟨a, b⟩ := h.fan_ok _ (by simp [fan])
    refine ⟨fun X hX => ?_, fun i hi hp => mult_ll (fun x hx => h.fan_ok x hx) i hi hp⟩
    have e : span (mult (fan a b [])) X = 0 + if Sp.inn X (codeB ⟨a, b⟩) then 1 else 0 := by
      have := span_add1 (mult []) ho.lt X
      rw [show span (mult []) X = 0 from span_mult (L := []) (fun _ h => by cases h) X] at this
      exact this
    rw [e] at hX ⊢
    cases h1 : Sp.inn X (codeB ⟨a, b⟩) with
    | false => rw [h1] at hX; simp at hX
    | true =>
      have := size_inn ho.lt ho.ne h1
      simp only [if_true]
      omega
  | t :: T, h => by
    have ih := fan_sparse h.tail
    have ha := h.rng a (by simp)
    have hb := h.rng b (by simp)
    have ht := h.rng t (by simp)
    have h8 := h.p8
    obtain ⟨h1, h2⟩ := h.ab
    have h3 := h2 t (by simp)
    obtain ⟨c1, c2⟩ := code_mk hb.1 ht.1 (by omega : t < 8)
    obtain ⟨c3, c4⟩ := code_mk ha.1 ht.1 (by omega : t < 8)
    refine henne ih (e := codeB ⟨b, t⟩) (f := codeB ⟨a, t⟩) (v := t.toNat) ?_ ?_ (by omega) (by omega) c2 (by omega) c4 (fun e => ?_) (fun i hi hp => ?_)
    · omega
    · omega
    · rw [e] at c1
      omega
    · obtain ⟨x, hx, rfl⟩ := mult_pos hp
      obtain ⟨hin, hA, hB⟩ := h.tail.fan_in x hx
      have hxo := (hin.ok h8).dm
      have hne : ∀ v ∈ a :: b :: T, v ≠ t := fun v hv => by
        simp only [List.mem_cons] at hv
        rcases hv with rfl | rfl | hv
        · omega
        · omega
        · have := List.pairwise_cons.1 (List.pairwise_cons.1 (List.pairwise_cons.1 h.lt).2).2
          have := this.1 v hv
          omega
      have n1 := hne _ hA
      have n2 := hne _ hB
      have := hin.a0
      have := hin.b0
      omega
def inL (G : List Int) (v : Nat) : Bool := decide ((v : Int) ∈ G)
theorem Asc.sz (h : Asc P (a :: b :: T)) : size (inL (a :: b :: T)) = T.length + 2 := by
  have h8 := h.p8
  have h1 := tails_sum (inL (a :: b :: T)) (a :: b :: T) fun t ht => by have := h.rng t ht; omega
  have h2 : (a :: b :: T).countP (fun t => inL (a :: b :: T) t.toNat) = T.length + 2 := by
    rw [List.countP_eq_length.2]
    · rfl
    · intro t ht
      have := h.rng t ht
      unfold inL
      rw [Int.toNat_of_nonneg this.1]
      exact decide_eq_true ht
  rw [← h2, ← h1]
  refine su_congr 8 fun v _ => ?_
  show (if inL (a :: b :: T) v then 1 else 0) = (if inL (a :: b :: T) v then (a :: b :: T).count (v : Int) else 0)
  cases hv : inL (a :: b :: T) v with
  | false => rfl
  | true =>
    simp only [if_true]
    have hm : (v : Int) ∈ a :: b :: T := of_decide_eq_true hv
    have hnd : (a :: b :: T).Nodup := h.lt.imp fun hlt => by omega
    rw [hnd.count, if_pos hm]
theorem Asc.tgt (h : Asc P (a :: b :: T)) : Sp.tight 2 3 (mult (fan a b T)) (inL (a :: b :: T)) := by
  unfold Sp.tight
  rw [h.sz, span_mult h.fan_ok, List.countP_eq_length.2, fan_len]
  · omega
  · intro x hx
    obtain ⟨hin, hA, hB⟩ := h.fan_in x hx
    unfold inL
    rw [Int.toNat_of_nonneg hin.a0, Int.toNat_of_nonneg hin.b0, decide_eq_true hA, decide_eq_true hB]
    rfl
theorem Asc.same (h : Asc P (a :: b :: T)) {H F B : List TBar} (hF : F.Perm (fan a b T ++ B)) (hgF : GB P F) (hgH : GB P (H ++ B)) (hH : ∀ x ∈ H, x.A ∈ a :: b :: T ∧ x.B ∈ a :: b :: T) (hle : ∀ i, mult (fan a b T) i ≤ mult H i) : pr P (H ++ B) = pr P F := by
  have h1 := pr_rank hgF
  have hm : ∀ i, mult F i = mult (fan a b T) i + mult B i := fun i => by rw [mult_perm hF, mult_append]
  have h2 := h1.fill (N := mult (H ++ B)) (by omega) (fan_sparse h) (fun i _ => by rw [hm]; omega) h.tgt (fun i _ => by rw [hm, mult_append]; have := hle i; omega) (fun i _ hlt => by
    rw [hm, mult_append] at hlt
    obtain ⟨x, hx, rfl⟩ := mult_pos (L := H) (i := i) (by omega)
    obtain ⟨hA, hB⟩ := hH x hx
    have hin := hgH.inb x (List.mem_append_left _ hx)
    rw [(hin.ok h.p8).inn]
    unfold inL
    rw [Int.toNat_of_nonneg hin.a0, Int.toNat_of_nonneg hin.b0, decide_eq_true hA, decide_eq_true hB]
    rfl)
  exact (pr_rank hgH).uniq h2 fun _ _ => rfl
end
theorem pw_inc : ∀ {L : List Int}, (∀ (k : Nat) u v, L[k]? = some u → L[k + 1]? = some v → u < v) → L.Pairwise (· < ·)
  | [], _ => List.Pairwise.nil
  | [a], _ => List.pairwise_singleton ..
  | a :: b :: T, h => by
    have ih := pw_inc (L := b :: T) fun k u v hu hv => h (k + 1) u v (by simpa using hu) (by simpa using hv)
    have hab := h 0 a b rfl rfl
    refine List.pairwise_cons.2 ⟨fun t ht => ?_, ih⟩
    rcases List.mem_cons.1 ht with rfl | h1
    · exact hab
    · have := (List.pairwise_cons.1 ih).1 t h1
      omega
section
variable {p : TPinned}
end
end Go.Proofs.Yteognanhfpbghaa
end
section
set_option linter.unusedVariables false
set_option linter.unusedSimpArgs false
set_option linter.unnecessarySimpa false
open Go Go.Fw
namespace Go.Proofs.Yteognanhfpbghaa
theorem tryC_v1 : ∀ n, m_impl_OtherPlaces_c1_v1 n = m_impl_OtherPlaces_c1 n
  | 0 => rfl
  | n + 1 => by
    funext x v f out
    show m_impl_OtherPlaces_c1_v1_B (m_impl_OtherPlaces_c1_v1 n) x v f out = m_impl_OtherPlaces_c1_B (m_impl_OtherPlaces_c1 n) x v f out
    rw [tryC_v1 n]
    rfl
theorem others1_eq {f : TFramework} (h0 : SM f.Graph.Bars.length) (h1 : SM f.Places.length) : m_impl_OtherPlaces_v1 f = some (others f) := by
  unfold m_impl_OtherPlaces_v1 others
  rw [isFI_eq f h0 h1, copyFI_eq f h0 h1, tryC_v1]
  cases hf : fits f with
  | true =>
    obtain ⟨pl, e⟩ := tryTop h0 h1 hf
    unfold fits at hf
    rw [Bool.and_eq_true, Bool.not_eq_true'] at hf
    rw [hf.1, hf.2]
    simp only [Option.bind_some, Bool.not_true, cond_false, cond_true, e]
  | false =>
    unfold fits at hf
    cases hv : vF f with
    | false => rfl
    | true =>
      rw [hv, Bool.true_and, Bool.not_eq_false'] at hf
      rw [hf]
      rfl
theorem twin1_eq (f : TFramework) (h0 : f.Graph.Bars.length ≤ 1048576) (h1 : f.Places.length ≤ 1048576) : m_impl_HasTwin_v1 f = some (twin f) := by
  have hs := others_small f
  unfold m_impl_HasTwin_v1 twin
  rw [others1_eq (by omega) (by omega), Option.bind_some]
  have := any_loop0 (b := m_impl_HasTwin_v1_L1 f (others f)) (atB (others f).1 fun x => !congr2 f x) true (others f).1.length (by omega) (fun k hk => by
    have hx : (others f).1[k] ∈ (others f).1 := List.getElem_mem hk
    unfold m_impl_HasTwin_v1_L1
    rw [decide_eq_true (by omega), cond_true, idx_at hk, Option.bind_some, (congr_both h0 h1 hx).2, Option.bind_some, atB_at hk]) (by simp [m_impl_HasTwin_v1_L1])
  rw [this, range_any]
  cases (others f).1.any fun x => !congr2 f x <;> rfl
theorem sameFs_refl (l : List TFramework) (hl : l.length ≤ 100000) (h : ∀ x ∈ l, SM x.Graph.Bars.length ∧ SM x.Places.length) : m_laws_sameFrameworks l l = some true := by
  unfold m_laws_sameFrameworks
  rw [bne_self_eq_false, cond_false]
  have := any_loop0 (b := m_laws_sameFrameworks_L1 l l) (fun _ => false) false l.length (by omega) (fun k hk => by
    obtain ⟨h0, h1⟩ := h _ (List.getElem_mem hk)
    unfold m_laws_sameFrameworks_L1
    rw [decide_eq_true (by omega), cond_true, idx_at hk, Option.bind_some, Option.bind_some, eqFS_eq _ _ h0 h1, (eqF_iff _ _).2 rfl]
    rfl) (by simp [m_laws_sameFrameworks_L1])
  rw [this, any_range_false.2 fun _ _ _ => rfl]
  rfl
theorem mem_pieces {α : Type} {f : Nat → List α} {x : α} {k : Nat} (h : x ∈ f k) : ∀ n, k < n → x ∈ pieces f n
  | 0, hk => by omega
  | n + 1, hk => by
    show x ∈ pieces f n ++ f n
    by_cases e : k = n
    · subst e
      exact List.mem_append_right _ h
    · exact List.mem_append_left _ (mem_pieces h n (by omega))
theorem ways_self : ∀ m v (pl : List TPlace), pl.length = v + m → (∀ (i : Nat) (p : TPlace), pl[i]? = some p → 0 ≤ p.X ∧ p.X ≤ 4 ∧ 0 ≤ p.Y ∧ p.Y ≤ 4) → pl ∈ ways m v pl
  | 0, v, pl, _, _ => List.mem_singleton.2 rfl
  | m + 1, v, pl, hl, hg => by
    have hv := List.getElem?_eq_getElem (show v < pl.length by omega)
    have hr := hg v _ hv
    have hset : pl.set v (cellAt (pl[v].X.toNat + 5 * pl[v].Y.toNat)) = pl := by
      have e : cellAt (pl[v].X.toNat + 5 * pl[v].Y.toNat) = pl[v] := by
        unfold cellAt
        generalize hq : pl[v] = q at hr
        cases q with
        | mk X Y =>
          simp only at hr ⊢
          congr 1 <;> omega
      rw [e]
      exact List.set_getElem_self _
    refine mem_pieces (k := pl[v].X.toNat + 5 * pl[v].Y.toNat) ?_ 25 (by omega)
    rw [hset]
    exact ways_self m (v + 1) pl (by omega) hg
theorem sameL_self {f : TFramework} (h : vF f = true) : sameL f f = true := by
  unfold sameL
  rw [h, (eqG_iff _ _).2 rfl, decide_eq_true rfl]
  rfl
theorem found_self {f : TFramework} (h : fits f = true) : f ∈ found f := by
  obtain ⟨hV, h4⟩ := fits_VF h
  have hv : vF f = true := by unfold fits at h; rw [Bool.and_eq_true] at h; exact h.1
  have hp := hV.pls
  have hp1 := hV.g.p1
  have hw : f.Places ∈ ways (mvd f) 2 f.Places := by
    by_cases h2 : 2 ≤ f.Graph.Points
    · exact ways_self _ _ _ (by unfold mvd; omega) fun i p hi => hV.grid hi
    · have : mvd f = 0 := by unfold mvd; omega
      rw [this]
      exact List.mem_singleton.2 rfl
  unfold found filt
  rw [List.mem_filter]
  exact ⟨List.mem_map.2 ⟨_, hw, rfl⟩, sameL_self hv⟩
theorem others_self (f : TFramework) : (others f).1.any (fun x => eqF x f) = (others f).2 := by
  unfold others
  cases hf : fits f with
  | false => rfl
  | true =>
    simp only [cond_true]
    rw [List.any_eq_true]
    exact ⟨f, found_self hf, (eqF_iff _ _).2 rfl⟩
theorem pieces_inj {α : Type} {f g : Nat → List α} : ∀ n, (∀ k, k < n → (f k).length = (g k).length) → pieces f n = pieces g n → ∀ k, k < n → f k = g k
  | 0, _, _, k, hk => by omega
  | n + 1, hl, h, k, hk => by
    change pieces f n ++ f n = pieces g n ++ g n at h
    obtain ⟨h1, h2⟩ := List.append_inj' h (hl n (by omega))
    by_cases e : k = n
    · subst e; exact h2
    · exact pieces_inj n (fun j hj => hl j (by omega)) h1 k (by omega)
theorem VF.code_lt {f : TFramework} (h : VF f) {k : Nat} {x y : TBar} (hx : f.Graph.Bars[k]? = some x) (hy : f.Graph.Bars[k + 1]? = some y) : (codeB x : Int) < (codeB y : Int) := by
  have a0 := h.g.a0 hx
  have ab := h.g.ab hx
  have bp := h.g.bp hx
  have a0' := h.g.a0 hy
  have ab' := h.g.ab hy
  have bp' := h.g.bp hy
  have p6 := h.p6
  have hs := h.g.srt hx hy
  have hn := h.nod hx hy
  have hn2 : ¬ (x.A = y.A ∧ x.B = y.B) := fun e => by rw [eqI_two.2 e] at hn; cases hn
  unfold barGt at hs
  simp only [Bool.or_eq_false_iff, decide_eq_false_iff_not, Bool.and_eq_false_iff, beq_eq_false_iff_ne] at hs
  unfold codeB
  omega
def pairCodes (P : Nat) : List Nat := (List.range 64).filter fun i => decide (i / 8 < i % 8) && decide (i % 8 < P)
theorem sub_all : ∀ (l1 l2 : List Nat), l1.Nodup → (∀ x ∈ l1, x ∈ l2) → l2.length ≤ l1.length → ∀ y ∈ l2, y ∈ l1
  | [], l2, _, _, hl, y, hy => by
    have : l2 = [] := List.length_eq_zero_iff.1 (by simpa using hl)
    rw [this] at hy
    cases hy
  | a :: l1, l2, hn, hs, hl, y, hy => by
    have ha := hs a (List.mem_cons_self ..)
    rw [List.nodup_cons] at hn
    by_cases e : y = a
    · rw [e]; exact List.mem_cons_self ..
    · refine List.mem_cons_of_mem _ (sub_all l1 (l2.erase a) hn.2 (fun x hx => ?_) ?_ y ?_)
      · have hne : x ≠ a := fun e => hn.1 (e ▸ hx)
        exact (List.mem_erase_of_ne hne).2 (hs x (List.mem_cons_of_mem _ hx))
      · rw [List.length_erase_of_mem ha]
        simp only [List.length_cons] at hl
        omega
      · exact (List.mem_erase_of_ne e).2 hy
theorem complete_bar {f : TFramework} (h : VF f) (h4 : f.Graph.Points ≤ 4) (hc : (f.Graph.Bars.length : Int) = f.Graph.Points * (f.Graph.Points - 1) / 2) {a b : Nat} (hab : a < b) (hb : (b : Int) < f.Graph.Points) : ∃ k : Nat, f.Graph.Bars[k]? = some ⟨(a : Int), (b : Int)⟩ := by
  have hp1 := h.g.p1
  have hnd : (f.Graph.Bars.map codeB).Nodup := by
    have hpw : ((f.Graph.Bars.map fun x => (codeB x : Int))).Pairwise (· < ·) := pw_inc fun k u v hu hv => by
      rw [List.getElem?_map] at hu hv
      obtain ⟨x, hx, rfl⟩ := Option.map_eq_some_iff.1 hu
      obtain ⟨y, hy, rfl⟩ := Option.map_eq_some_iff.1 hv
      exact h.code_lt hx hy
    rw [List.pairwise_map] at hpw
    unfold List.Nodup
    rw [List.pairwise_map]
    exact hpw.imp fun hlt => by omega
  have hsub : ∀ i ∈ f.Graph.Bars.map codeB, i ∈ pairCodes f.Graph.Points.toNat := fun i hi => by
    obtain ⟨x, hx, rfl⟩ := List.mem_map.1 hi
    obtain ⟨k, hk⟩ := List.getElem?_of_mem hx
    have a0 := h.g.a0 hk
    have ab := h.g.ab hk
    have bp := h.g.bp hk
    unfold pairCodes
    rw [List.mem_filter, List.mem_range, Bool.and_eq_true, decide_eq_true_eq, decide_eq_true_eq]
    unfold codeB
    omega
  have hlen : (pairCodes f.Graph.Points.toNat).length ≤ (f.Graph.Bars.map codeB).length := by
    rw [List.length_map]
    have : f.Graph.Points = 1 ∨ f.Graph.Points = 2 ∨ f.Graph.Points = 3 ∨ f.Graph.Points = 4 := by omega
    rcases this with e | e | e | e <;> rw [e] at hc ⊢
    · have : (pairCodes (1 : Int).toNat).length = 0 := by decide
      omega
    · have : (pairCodes (2 : Int).toNat).length = 1 := by decide
      omega
    · have : (pairCodes (3 : Int).toNat).length = 3 := by decide
      omega
    · have : (pairCodes (4 : Int).toNat).length = 6 := by decide
      omega
  have hm : a * 8 + b ∈ pairCodes f.Graph.Points.toNat := by
    unfold pairCodes
    rw [List.mem_filter, List.mem_range, Bool.and_eq_true, decide_eq_true_eq, decide_eq_true_eq]
    omega
  obtain ⟨x, hx, he⟩ := List.mem_map.1 (sub_all _ _ hnd hsub hlen _ hm)
  obtain ⟨k, hk⟩ := List.getElem?_of_mem hx
  have a0 := h.g.a0 hk
  have ab := h.g.ab hk
  have bp := h.g.bp hk
  refine ⟨k, ?_⟩
  rw [hk]
  unfold codeB at he
  cases x with
  | mk A B =>
    simp only at a0 ab bp he
    congr 2 <;> omega
theorem complete_congr {f x : TFramework} (hf : fits f = true) (hg : x.Graph = f.Graph) (hl : x.Places.length = f.Places.length) (hs : sameL f x = true) (hc : (f.Graph.Bars.length : Int) = f.Graph.Points * (f.Graph.Points - 1) / 2) : congr2 f x = true := by
  obtain ⟨hV, h4⟩ := fits_VF hf
  have hp := hV.pls
  unfold sameL at hs
  rw [Bool.and_eq_true, Bool.and_eq_true, Bool.and_eq_true, decide_eq_true_eq] at hs
  obtain ⟨h1, h2, h3, h5⟩ := hs
  have hsq : ∀ k, k < f.Graph.Bars.length → sqB f k = sqB x k := by
    unfold sqL at h5
    rw [h1, h2, hg] at h5
    simp only [cond_true] at h5
    refine pieces_inj _ (fun k hk => ?_) h5
    unfold sqB
    rw [hg, List.getElem?_eq_getElem hk]
    rfl
  have hpair : ∀ a b : Nat, a < b → (b : Int) < f.Graph.Points → sqd (plAt f a) (plAt f b) = sqd (plAt x a) (plAt x b) := fun a b hab hb => by
    obtain ⟨k, hk⟩ := complete_bar hV h4 hc hab hb
    have := hsq k (List.getElem?_eq_some_iff.1 hk).1
    unfold sqB at this
    rw [hg, hk] at this
    simpa using this
  unfold congr2
  rw [h1, h2, hg, beq_self_eq_true]
  simp only [Bool.true_and, decide_eq_true_eq]
  unfold pairsOf
  rw [h1, h2]
  simp only [cond_true]
  unfold pairs
  rw [hl]
  refine pieces_congr _ fun a ha => ?_
  unfold pairRow
  rw [hl]
  refine pieces_congr _ fun j hj => ?_
  rw [hpair a (a + 1 + j) (by omega) (by omega)]
theorem law_FnPlaces (code : List Int) : m_laws_FnPlaces code = some true := by
  unfold m_laws_FnPlaces m_laws_big
  rw [Option.bind_some]
  by_cases hbig : (1048576 : Int) < (code.length : Int)
  · rw [decide_eq_true hbig]
    rfl
  · rw [decide_eq_false hbig, cond_false]
    obtain ⟨f, hf, hFS⟩ := drawPlaces_ex (code := code) (by omega)
    have hb := hFS.b
    have hp := hFS.p
    have s0 : SM f.Graph.Bars.length := by show _ ≤ _; omega
    have s1 : SM f.Places.length := by show _ ≤ _; omega
    have hsm := others_small f
    have hin : ∀ x ∈ (others f).1, SM x.Graph.Bars.length ∧ SM x.Places.length := fun x hx => by
      obtain ⟨_, e1, e2, _⟩ := others_mem hx
      rw [e1, e2]
      exact ⟨s0, s1⟩
    simp only [hf, Option.bind_some, others1_eq s0 s1, othersS_eq s0 s1, bne_self_eq_false, cond_false, sameFs_refl _ (show (others f).1.length ≤ 100000 by omega) hin, Bool.not_true, twin1_eq f (by omega) (by omega), twinS_eq f (by omega) (by omega)]
    have hcomp : ∀ x ∈ (others f).1, ((f.Graph.Bars.length : Int) == w64 (Int.tdiv (w64 (f.Graph.Points * w64 (f.Graph.Points - 1))) 2)) = true → congr2 f x = true := fun x hx he => by
      obtain ⟨hfit, e1, e2, e3⟩ := others_mem hx
      obtain ⟨hV, h4⟩ := fits_VF hfit
      have hp1 := hV.g.p1
      have hP : f.Graph.Points = 1 ∨ f.Graph.Points = 2 ∨ f.Graph.Points = 3 ∨ f.Graph.Points = 4 := by omega
      refine complete_congr hfit e1 e2 e3 ?_
      rw [beq_iff_eq] at he
      rw [he]
      rcases hP with e | e | e | e <;> rw [e] <;> decide
    have hL : loopM (m_laws_FnPlaces_L1 f (others f) (others f)) BIG (false, 0) = some (.inl ((others f).2, (others f).1.any fun x => eqF x f)) := by
      refine loopM_run (fun k => (((others f).1.take k).any fun x => eqF x f, (k : Int))) (others f).1.length (by omega) rfl (fun k hk => ?_) ?_
      · have hx := List.getElem?_eq_getElem hk
        have hmem : (others f).1[k] ∈ (others f).1 := List.getElem_mem hk
        obtain ⟨hfit, e1, e2, e3⟩ := others_mem hmem
        obtain ⟨h2, h3⟩ := hin _ hmem
        have hcc := hcomp _ hmem
        unfold m_laws_FnPlaces_L1
        rw [decide_eq_true (by simp only; omega), cond_true]
        simp only [idx_of hx, Option.bind_some, eqFS_eq _ f h2 h3, sameLI_eq f _ s0 s1 h2 h3, e3, Bool.not_true, cond_false, (congr_both (by omega) (by omega) hmem).2, w64_succ (show k ≤ 1099511627776 by omega)]
        have hj : ((bif ((f.Graph.Bars.length : Int) == w64 (Int.tdiv (w64 (f.Graph.Points * w64 (f.Graph.Points - 1))) 2)) then some (!congr2 f (others f).1[k]) else some false) : Option Bool) = some false := by
          cases hq : ((f.Graph.Bars.length : Int) == w64 (Int.tdiv (w64 (f.Graph.Points * w64 (f.Graph.Points - 1))) 2)) with
          | false => rfl
          | true => rw [hcc hq]; rfl
        rw [hj, take_get hk, List.any_append]
        simp only [Option.bind_some, cond_false, List.any_cons, List.any_nil, Bool.or_false]
        cases ((others f).1.take k).any fun x => eqF x f <;> rfl
      · unfold m_laws_FnPlaces_L1
        rw [decide_eq_false (by simp only; omega), List.take_length]
        rfl
    rw [hL]
    simp only [Option.bind_some, Sum.elim_inl, others_self, beq_self_eq_true]
end Go.Proofs.Yteognanhfpbghaa
end
section
set_option linter.unusedVariables false
set_option linter.unusedSimpArgs false
set_option linter.unnecessarySimpa false
set_option maxRecDepth 100000
set_option maxHeartbeats 8000000
open Go Go.Fw
namespace Go.Proofs.Yteognanhfpbghaa
theorem ag112 : agB Try.prog 112 = some true := by kernel_rfl
theorem ag3 : agB Try.prog 3 = some false := by kernel_rfl
theorem ag30 : agB Try.prog 30 = some false := by kernel_rfl
theorem ag32 : agB Try.prog 32 = some true := by kernel_rfl
theorem ag33 : agB Try.prog 33 = some false := by kernel_rfl
theorem ag35 : agB Try.prog 35 = some true := by kernel_rfl
theorem ag39 : agB Try.prog 39 = some false := by kernel_rfl
theorem ag5 : agB Try.prog 5 = some false := by kernel_rfl
theorem ag55 : agB Try.prog 55 = some false := by kernel_rfl
theorem ag95 : agB Try.prog 95 = some true := by kernel_rfl
theorem ag96 : agB Try.prog 96 = some false := by kernel_rfl
theorem cb103 : callB Try.prog 103 = true := by kernel_rfl
theorem cb104 : callB Try.prog 104 = true := by kernel_rfl
theorem cb105 : callB Try.prog 105 = true := by kernel_rfl
theorem cb106 : callB Try.prog 106 = true := by kernel_rfl
theorem cb107 : callB Try.prog 107 = true := by kernel_rfl
theorem cb108 : callB Try.prog 108 = true := by kernel_rfl
theorem cb109 : callB Try.prog 109 = true := by kernel_rfl
theorem cb110 : callB Try.prog 110 = true := by kernel_rfl
theorem cb111 : callB Try.prog 111 = true := by kernel_rfl
theorem cb112 : callB Try.prog 112 = true := by kernel_rfl
theorem cb113 : callB Try.prog 113 = true := by kernel_rfl
theorem cb131 : callB Try.prog 131 = true := by kernel_rfl
theorem cb139 : callB Try.prog 139 = true := by kernel_rfl
theorem cb14 : callB Try.prog 14 = true := by kernel_rfl
theorem cb145 : callB Try.prog 145 = true := by kernel_rfl
theorem cb151 : callB Try.prog 151 = true := by kernel_rfl
theorem cb154 : callB Try.prog 154 = true := by kernel_rfl
theorem cb157 : callB Try.prog 157 = true := by kernel_rfl
theorem cb158 : callB Try.prog 158 = true := by kernel_rfl
theorem cb16 : callB Try.prog 16 = true := by kernel_rfl
theorem cb161 : callB Try.prog 161 = true := by kernel_rfl
theorem cb162 : callB Try.prog 162 = true := by kernel_rfl
theorem cb167 : callB Try.prog 167 = true := by kernel_rfl
theorem cb168 : callB Try.prog 168 = true := by kernel_rfl
theorem cb169 : callB Try.prog 169 = true := by kernel_rfl
theorem cb170 : callB Try.prog 170 = true := by kernel_rfl
theorem cb171 : callB Try.prog 171 = true := by kernel_rfl
theorem cb172 : callB Try.prog 172 = true := by kernel_rfl
theorem cb173 : callB Try.prog 173 = true := by kernel_rfl
theorem cb175 : callB Try.prog 175 = true := by kernel_rfl
theorem cb18 : callB Try.prog 18 = true := by kernel_rfl
theorem cb189 : callB Try.prog 189 = true := by kernel_rfl
theorem cb19 : callB Try.prog 19 = true := by kernel_rfl
theorem cb196 : callB Try.prog 196 = true := by kernel_rfl
theorem cb205 : callB Try.prog 205 = true := by kernel_rfl
theorem cb206 : callB Try.prog 206 = true := by kernel_rfl
theorem cb207 : callB Try.prog 207 = true := by kernel_rfl
theorem cb210 : callB Try.prog 210 = true := by kernel_rfl
theorem cb29 : callB Try.prog 29 = true := by kernel_rfl
theorem cb30 : callB Try.prog 30 = true := by kernel_rfl
theorem cb31 : callB Try.prog 31 = true := by kernel_rfl
theorem cb32 : callB Try.prog 32 = true := by kernel_rfl
theorem cb33 : callB Try.prog 33 = true := by kernel_rfl
theorem cb34 : callB Try.prog 34 = true := by kernel_rfl
theorem cb61 : callB Try.prog 61 = true := by kernel_rfl
theorem cb72 : callB Try.prog 72 = true := by kernel_rfl
theorem cb81 : callB Try.prog 81 = true := by kernel_rfl
theorem cb84 : callB Try.prog 84 = true := by kernel_rfl
theorem cb85 : callB Try.prog 85 = true := by kernel_rfl
theorem cb86 : callB Try.prog 86 = true := by kernel_rfl
theorem cb87 : callB Try.prog 87 = true := by kernel_rfl
theorem cb88 : callB Try.prog 88 = true := by kernel_rfl
theorem cb89 : callB Try.prog 89 = true := by kernel_rfl
theorem cb90 : callB Try.prog 90 = true := by kernel_rfl
theorem el30 : elB Try.prog 30 = some 112 := by kernel_rfl
theorem el33 : elB Try.prog 33 = some 95 := by kernel_rfl
theorem el39 : elB Try.prog 39 = some 35 := by kernel_rfl
theorem el45 : elB Try.prog 45 = some 3 := by kernel_rfl
theorem el55 : elB Try.prog 55 = some 5 := by kernel_rfl
theorem fo112_0 : foB Try.prog 112 0 = some 0 := by kernel_rfl
theorem fo112_1 : foB Try.prog 112 1 = some 1 := by kernel_rfl
theorem fo139_0 : foB Try.prog 139 0 = some 0 := by kernel_rfl
theorem fo139_1 : foB Try.prog 139 1 = some 1 := by kernel_rfl
theorem fo139_2 : foB Try.prog 139 2 = some 2 := by kernel_rfl
theorem fo32_0 : foB Try.prog 32 0 = some 0 := by kernel_rfl
theorem fo32_1 : foB Try.prog 32 1 = some 1 := by kernel_rfl
theorem fo35_0 : foB Try.prog 35 0 = some 0 := by kernel_rfl
theorem fo35_1 : foB Try.prog 35 1 = some 2 := by kernel_rfl
theorem fo95_0 : foB Try.prog 95 0 = some 0 := by kernel_rfl
theorem fo95_1 : foB Try.prog 95 1 = some 1 := by kernel_rfl
theorem inf112 : (Try.prog.info? 112).isSome = true := by kernel_rfl
theorem inf3 : (Try.prog.info? 3).isSome = true := by kernel_rfl
theorem inf30 : (Try.prog.info? 30).isSome = true := by kernel_rfl
theorem inf32 : (Try.prog.info? 32).isSome = true := by kernel_rfl
theorem inf33 : (Try.prog.info? 33).isSome = true := by kernel_rfl
theorem inf35 : (Try.prog.info? 35).isSome = true := by kernel_rfl
theorem inf39 : (Try.prog.info? 39).isSome = true := by kernel_rfl
theorem inf95 : (Try.prog.info? 95).isSome = true := by kernel_rfl
theorem inf96 : (Try.prog.info? 96).isSome = true := by kernel_rfl
theorem ist112 : istB Try.prog 112 = some 2 := by kernel_rfl
theorem ist95 : istB Try.prog 95 = some 2 := by kernel_rfl
theorem mixed : Try.prog.follows .mixedOrders = true := by kernel_rfl
theorem pl112 : plB Try.prog 112 = some [(0, 1), (1, 1)] := by kernel_rfl
theorem pl139 : plB Try.prog 139 = some [(0, 1), (1, 1), (2, 1)] := by kernel_rfl
theorem pl32 : plB Try.prog 32 = some [(0, 1), (1, 1)] := by kernel_rfl
theorem pl35 : plB Try.prog 35 = some [(0, 2), (2, 1)] := by kernel_rfl
theorem pl95 : plB Try.prog 95 = some [(0, 1), (1, 1)] := by kernel_rfl
theorem sz112 : szP Try.prog 112 = 2 := by kernel_rfl
theorem sz139 : szP Try.prog 139 = 3 := by kernel_rfl
theorem sz3 : szP Try.prog 3 = 1 := by kernel_rfl
theorem sz30 : szP Try.prog 30 = 1 := by kernel_rfl
theorem sz32 : szP Try.prog 32 = 2 := by kernel_rfl
theorem sz33 : szP Try.prog 33 = 1 := by kernel_rfl
theorem sz35 : szP Try.prog 35 = 3 := by kernel_rfl
theorem sz39 : szP Try.prog 39 = 1 := by kernel_rfl
theorem sz5 : szP Try.prog 5 = 1 := by kernel_rfl
theorem sz95 : szP Try.prog 95 = 2 := by kernel_rfl
theorem sz96 : szP Try.prog 96 = 1 := by kernel_rfl
theorem ti112 : TI Try.prog 112 (.agg #[(.int .i64 0), (.int .i64 0)]) 2 16 := by unfold TI; kernel_rfl
theorem ti139 : TI Try.prog 139 (.agg #[(.slice none 0 0), (.int .i64 0), (.int .i64 0)]) 3 40 := by unfold TI; kernel_rfl
theorem ti3 : TI Try.prog 3 (.int .i64 0) 1 8 := by unfold TI; kernel_rfl
theorem ti32 : TI Try.prog 32 (.agg #[(.int .i64 0), (.slice none 0 0)]) 2 32 := by unfold TI; kernel_rfl
theorem ti35 : TI Try.prog 35 (.agg #[(.int .i64 0), (.slice none 0 0), (.slice none 0 0)]) 3 56 := by unfold TI; kernel_rfl
theorem ti39 : TI Try.prog 39 (.slice none 0 0) 1 24 := by unfold TI; kernel_rfl
theorem ti95 : TI Try.prog 95 (.agg #[(.int .i64 0), (.int .i64 0)]) 2 16 := by unfold TI; kernel_rfl
theorem ti96 : TI Try.prog 96 .nilFunc 1 8 := by unfold TI; kernel_rfl
theorem und3 : Try.prog.underlying 3 = some (.int .i64) := by kernel_rfl
theorem und30 : Try.prog.underlying 30 = some (.slice 112) := by kernel_rfl
theorem und33 : Try.prog.underlying 33 = some (.slice 95) := by kernel_rfl
theorem und39 : Try.prog.underlying 39 = some (.slice 35) := by kernel_rfl
theorem und4 : Try.prog.underlying 4 = some .bool := by kernel_rfl
theorem und45 : Try.prog.underlying 45 = some (.slice 3) := by kernel_rfl
theorem und55 : Try.prog.underlying 55 = some (.slice 5) := by kernel_rfl
theorem undS5 : (Try.prog.underlying 5).isSome = true := by kernel_rfl
end Go.Proofs.Yteognanhfpbghaa
end
section
set_option linter.unusedVariables false
set_option linter.unusedSimpArgs false
set_option linter.unnecessarySimpa false
set_option maxRecDepth 100000
set_option maxHeartbeats 8000000
open Go Go.Fw
namespace Go.Proofs.Yteognanhfpbghaa
theorem w_spec_l1In (x : Int) (low : Int) (high : Int) : ∀ t, m_spec_l1In x low high = some t → Fw.Fn Try.prog 111 [(.c (iC x)), (.c (iC low)), (.c (iC high))] [] (.s (.c (bC t))) [] [] [] := by
 refine Fw.Fn.of (P := Try.prog) (X := []) (pn := []) (rs := (fun (t : Bool) => [(.c (bC t))])) (dfs := (fun (t : Bool) => [])) Try.func111 rfl Try.ntmps111 (Nat.le_of_ble_eq_true rfl) rfl ?_
 intro w0 U0 R0 g0
 unfold m_spec_l1In
 refine Ws (Wr ?_)
 refine asg (Bv false) rfl ⟨rfl, rfl⟩ rfl rfl (On (Ws ?_))
 refine AWR.joinK (fun j2 => ([(6, (Bv j2))], [])) ?_ (fun j2 _ => ?_)
 ·refine Wr (mv (Iv x) rfl rfl rfl rfl (mv (Iv low) rfl rfl rfl rfl (Op20 (LT.geq rfl) rfl rfl rfl rfl (mv (Bv (decide (low ≤ x))) rfl rfl rfl rfl (AOR.split (fun hb3 => ?_) (fun hb3 => ?_))))))
  ·refine mv (Iv x) rfl rfl ⟨_, rfl, .inl ⟨_, rfl, (by rw [hb3]; rfl)⟩⟩ rfl (mv (Iv high) rfl rfl ⟨_, rfl, .inl ⟨_, rfl, (by rw [hb3]; rfl)⟩⟩ rfl (Op20 (LT.leq rfl) rfl rfl ⟨_, rfl, .inl ⟨_, rfl, (by rw [hb3]; rfl)⟩⟩ rfl (Op20 (LT.pickT (v := (Bv (decide (x ≤ high)))) rfl hb3) rfl rfl rfl rfl (asg (Bv (decide (x ≤ high))) rfl rfl rfl rfl (On (AWR.nil ⟨rfl, Ent.of ⟨rfl, trivial⟩ trivial⟩))))))
  ·refine Ok rfl rfl rfl (by rw [hb3]; rfl) rfl (Ok rfl rfl rfl (by rw [hb3]; rfl) rfl (Ok rfl rfl rfl (by rw [hb3]; rfl) rfl (Op20 (LT.pickF (v := (Bv false)) rfl hb3) rfl ⟨rfl, rfl⟩ rfl rfl (asg (Bv false) rfl rfl rfl rfl (On (AWR.nil ⟨rfl, Ent.of ⟨rfl, trivial⟩ trivial⟩))))))
 ·refine AWR.ret (FPost.mk (.inr rfl) ⟨rfl, trivial⟩ trivial rfl ⟨PermP.sc, trivial⟩ trivial)
theorem w_spec_l2After (a : TBar) (b : TBar) : ∀ t, m_spec_l2After a b = some t → Fw.Fn Try.prog 139 [(.agg [(iC a.A), (iC a.B)]), (.agg [(iC b.A), (iC b.B)])] [] (.s (.c (bC t))) [] [] [] := by
 refine Fw.Fn.of (P := Try.prog) (X := []) (pn := []) (rs := (fun (t : Bool) => [(.c (bC t))])) (dfs := (fun (t : Bool) => [])) Try.func139 rfl Try.ntmps139 (Nat.le_of_ble_eq_true rfl) rfl ?_
 intro w0 U0 R0 g0
 unfold m_spec_l2After
 refine Ws (Wr ?_)
 refine Os10 (LT.box (n := 21) (v := (.agg [(iC a.A), (iC a.B)])) rfl sz112 (by exact rfl)) rfl rfl rfl (Os10 (LT.box (n := 22) (v := (.agg [(iC b.A), (iC b.B)])) rfl sz112 (by exact rfl)) rfl rfl rfl (asg (Bv false) rfl ⟨rfl, rfl⟩ rfl rfl (On (Ws ?_))))
 refine AWR.joinK (fun j3 => ([(4, (Bv j3))], [])) ?_ (fun j3 _ => ?_)
 ·refine Wr (Op10 (LT.fieldPl rfl fo112_0) rfl rfl rfl (Op11 (LT.bload1 (c := (iC a.A)) rfl ag3 (by exact rfl)) rfl rfl rfl rfl (Op10 (LT.fieldPl rfl fo112_0) rfl rfl rfl (Op11 (LT.bload1 (c := (iC b.A)) rfl ag3 (by exact rfl)) rfl rfl rfl rfl (Op20 (LT.lss rfl) rfl rfl rfl rfl (mv (Bv (decide (a.A < b.A))) rfl rfl rfl rfl (AOR.split (fun hb4 => ?_) (fun hb4 => ?_))))))))
  ·refine Ok rfl rfl rfl (by rw [hb4]; rfl) rfl (Ok rfl rfl rfl (by rw [hb4]; rfl) rfl (Ok rfl rfl rfl (by rw [hb4]; rfl) rfl (Ok rfl rfl rfl (by rw [hb4]; rfl) rfl (Ok rfl rfl rfl (by rw [hb4]; rfl) rfl (Ok rfl rfl rfl (by rw [hb4]; rfl) rfl (Oj rfl rfl rfl rfl (Oj rfl rfl rfl rfl (Oj rfl rfl rfl rfl (Oj rfl rfl rfl rfl (Oj rfl rfl rfl rfl (Ok rfl rfl rfl (by rw [hb4]; rfl) rfl ?_)))))))))))
   refine Op20 (LT.pickT (v := (Bv true)) rfl hb4) rfl ⟨rfl, rfl⟩ rfl rfl (asg (Bv true) rfl rfl rfl rfl (On (AWR.nil ⟨rfl, Ent.of ⟨rfl, trivial⟩ trivial⟩)))
  ·refine Op10 (LT.fieldPl rfl fo112_0) rfl ⟨_, rfl, .inl ⟨_, rfl, (by rw [hb4]; rfl)⟩⟩ rfl (Op11 (LT.bload1 (c := (iC a.A)) rfl ag3 (by exact rfl)) rfl rfl ⟨_, rfl, .inl ⟨_, rfl, (by rw [hb4]; rfl)⟩⟩ rfl (Op10 (LT.fieldPl rfl fo112_0) rfl ⟨_, rfl, .inl ⟨_, rfl, (by rw [hb4]; rfl)⟩⟩ rfl (Op11 (LT.bload1 (c := (iC b.A)) rfl ag3 (by exact rfl)) rfl rfl ⟨_, rfl, .inl ⟨_, rfl, (by rw [hb4]; rfl)⟩⟩ rfl (Op20 (LT.eql rfl) rfl rfl ⟨_, rfl, .inl ⟨_, rfl, (by rw [hb4]; rfl)⟩⟩ rfl (mv (Bv (a.A == b.A)) rfl rfl ⟨_, rfl, .inl ⟨_, rfl, (by rw [hb4]; rfl)⟩⟩ rfl (AOR.split (fun hb5 => ?_) (fun hb5 => ?_)))))))
   ·refine Op10 (LT.fieldPl rfl fo112_1) rfl ⟨_, rfl, .inl ⟨_, rfl, (by rw [hb5]; rfl)⟩⟩ rfl (Op11 (LT.bload1 (c := (iC a.B)) rfl ag3 (by exact rfl)) rfl rfl ⟨_, rfl, .inl ⟨_, rfl, (by rw [hb5]; rfl)⟩⟩ rfl (Op10 (LT.fieldPl rfl fo112_1) rfl ⟨_, rfl, .inl ⟨_, rfl, (by rw [hb5]; rfl)⟩⟩ rfl (Op11 (LT.bload1 (c := (iC b.B)) rfl ag3 (by exact rfl)) rfl rfl ⟨_, rfl, .inl ⟨_, rfl, (by rw [hb5]; rfl)⟩⟩ rfl (Op20 (LT.leq rfl) rfl rfl ⟨_, rfl, .inl ⟨_, rfl, (by rw [hb5]; rfl)⟩⟩ rfl (Op20 (LT.pickT (v := (Bv (decide (a.B ≤ b.B)))) rfl hb5) rfl rfl ⟨_, rfl, .inl ⟨_, rfl, (by rw [hb4]; rfl)⟩⟩ rfl (Op20 (LT.pickF (v := (Bv (decide (a.B ≤ b.B)))) rfl hb4) rfl rfl rfl rfl (asg (Bv (decide (a.B ≤ b.B))) rfl rfl rfl rfl (On (AWR.nil ⟨rfl, Ent.of ⟨rfl, trivial⟩ trivial⟩)))))))))
   ·refine Ok rfl rfl rfl (by rw [hb5]; rfl) rfl (Ok rfl rfl rfl (by rw [hb5]; rfl) rfl (Ok rfl rfl rfl (by rw [hb5]; rfl) rfl (Ok rfl rfl rfl (by rw [hb5]; rfl) rfl (Ok rfl rfl rfl (by rw [hb5]; rfl) rfl (Op20 (LT.pickF (v := (Bv false)) rfl hb5) rfl ⟨rfl, rfl⟩ ⟨_, rfl, .inl ⟨_, rfl, (by rw [hb4]; rfl)⟩⟩ rfl (Op20 (LT.pickF (v := (Bv false)) rfl hb4) rfl rfl rfl rfl (asg (Bv false) rfl rfl rfl rfl (On (AWR.nil ⟨rfl, Ent.of ⟨rfl, trivial⟩ trivial⟩)))))))))
 ·refine AWR.ret (FPost.mk (.inr rfl) ⟨rfl, trivial⟩ trivial rfl ⟨PermP.sc, trivial⟩ trivial)
theorem w_impl_within (x : Int) (loV : Int) (hi : Int) : ∀ t, m_impl_within x loV hi = some t → Fw.Fn Try.prog 113 [(.c (iC x)), (.c (iC loV)), (.c (iC hi))] [] (.s (.c (bC t))) [] [] [] := by
 refine Fw.Fn.of (P := Try.prog) (X := []) (pn := []) (rs := (fun (t : Bool) => [(.c (bC t))])) (dfs := (fun (t : Bool) => [])) Try.func113 rfl Try.ntmps113 (Nat.le_of_ble_eq_true rfl) rfl ?_
 intro w0 U0 R0 g0
 unfold m_impl_within
 refine Ws (Wr ?_)
 refine asg (Bv false) rfl ⟨rfl, rfl⟩ rfl rfl (On (Ws ?_))
 refine AWR.joinK (fun j2 => ([(6, (Bv j2))], [])) ?_ (fun j2 _ => ?_)
 ·refine Wr (mv (Iv x) rfl rfl rfl rfl (mv (Iv loV) rfl rfl rfl rfl (Op20 (LT.geq rfl) rfl rfl rfl rfl (mv (Bv (decide (loV ≤ x))) rfl rfl rfl rfl (AOR.split (fun hb3 => ?_) (fun hb3 => ?_))))))
  ·refine mv (Iv x) rfl rfl ⟨_, rfl, .inl ⟨_, rfl, (by rw [hb3]; rfl)⟩⟩ rfl (mv (Iv hi) rfl rfl ⟨_, rfl, .inl ⟨_, rfl, (by rw [hb3]; rfl)⟩⟩ rfl (Op20 (LT.leq rfl) rfl rfl ⟨_, rfl, .inl ⟨_, rfl, (by rw [hb3]; rfl)⟩⟩ rfl (Op20 (LT.pickT (v := (Bv (decide (x ≤ hi)))) rfl hb3) rfl rfl rfl rfl (asg (Bv (decide (x ≤ hi))) rfl rfl rfl rfl (On (AWR.nil ⟨rfl, Ent.of ⟨rfl, trivial⟩ trivial⟩))))))
  ·refine Ok rfl rfl rfl (by rw [hb3]; rfl) rfl (Ok rfl rfl rfl (by rw [hb3]; rfl) rfl (Ok rfl rfl rfl (by rw [hb3]; rfl) rfl (Op20 (LT.pickF (v := (Bv false)) rfl hb3) rfl ⟨rfl, rfl⟩ rfl rfl (asg (Bv false) rfl rfl rfl rfl (On (AWR.nil ⟨rfl, Ent.of ⟨rfl, trivial⟩ trivial⟩))))))
 ·refine AWR.ret (FPost.mk (.inr rfl) ⟨rfl, trivial⟩ trivial rfl ⟨PermP.sc, trivial⟩ trivial)
theorem w_impl_compareInts (a : Int) (b : Int) : ∀ t, m_impl_compareInts a b = some t → Fw.Fn Try.prog 210 [(.c (iC a)), (.c (iC b))] [] (.s (.c (iC t))) [] [] [] := by
 refine Fw.Fn.of (P := Try.prog) (X := []) (pn := []) (rs := (fun (t : Int) => [(.c (iC t))])) (dfs := (fun (t : Int) => [])) Try.func210 rfl Try.ntmps210 (Nat.le_of_ble_eq_true rfl) rfl ?_
 intro w0 U0 R0 g0
 unfold m_impl_compareInts
 refine Ws (Wr ?_)
 refine asg (Iv 0) rfl ⟨rfl, rfl⟩ rfl rfl (On (Ws (AWR.block (Ws (Wr ?_)))))
 refine mv (Iv a) rfl rfl rfl rfl (mv (Iv b) rfl rfl rfl rfl (Op20 (LT.lss rfl) rfl rfl rfl rfl (asg (Bv (decide (a < b))) rfl rfl rfl rfl (On (AWR.cond rfl (fun hc1 => ?_) (fun hc1 => ?_))))))
 ·refine Ws (Wr ?_)
  refine asg (Iv (-1)) rfl ⟨rfl, rfl⟩ rfl rfl (On (AWR.ret (FPost.mk (.inr rfl) ⟨rfl, trivial⟩ trivial rfl ⟨PermP.sc, trivial⟩ trivial)))
 ·refine Ws (Wr ?_)
  refine mv (Iv a) rfl rfl rfl rfl (mv (Iv b) rfl rfl rfl rfl (Op20 (LT.gtr rfl) rfl rfl rfl rfl (asg (Bv (decide (b < a))) rfl rfl rfl rfl (On (AWR.cond rfl (fun hc2 => ?_) (fun hc2 => ?_))))))
  ·refine Ws (Wr ?_)
   refine asg (Iv 1) rfl ⟨rfl, rfl⟩ rfl rfl (On (AWR.ret (FPost.mk (.inr rfl) ⟨rfl, trivial⟩ trivial rfl ⟨PermP.sc, trivial⟩ trivial)))
  ·refine AWR.skip (AWR.blk (Ws (Wr ?_)))
   refine asg (Iv 0) rfl ⟨rfl, rfl⟩ rfl rfl (On (AWR.ret (FPost.mk (.inr rfl) ⟨rfl, trivial⟩ trivial rfl ⟨PermP.sc, trivial⟩ trivial)))
theorem w_impl_compareBars (x : TBar) (y : TBar) : ∀ t, m_impl_compareBars x y = some t → Fw.Fn Try.prog 175 [(.agg [(iC x.A), (iC x.B)]), (.agg [(iC y.A), (iC y.B)])] [] (.s (.c (iC t))) [] [] [] := by
 refine Fw.Fn.of (P := Try.prog) (X := []) (pn := []) (rs := (fun (t : Int) => [(.c (iC t))])) (dfs := (fun (t : Int) => [])) Try.func175 rfl Try.ntmps175 (Nat.le_of_ble_eq_true rfl) rfl ?_
 intro w0 U0 R0 g0
 unfold m_impl_compareBars
 refine Ws (Wr ?_)
 refine Os10 (LT.box (n := 21) (v := (.agg [(iC x.A), (iC x.B)])) rfl sz112 (by exact rfl)) rfl rfl rfl (Os10 (LT.box (n := 22) (v := (.agg [(iC y.A), (iC y.B)])) rfl sz112 (by exact rfl)) rfl rfl rfl (asg (Iv 0) rfl ⟨rfl, rfl⟩ rfl rfl (On (Ws (Ws (Wr ?_))))))
 refine Op10 (LT.fieldPl rfl fo112_0) rfl rfl rfl (Op11 (LT.bload1 (c := (iC x.A)) rfl ag3 (by exact rfl)) rfl rfl rfl rfl (Op10 (LT.fieldPl rfl fo112_0) rfl rfl rfl (Op11 (LT.bload1 (c := (iC y.A)) rfl ag3 (by exact rfl)) rfl rfl rfl rfl (Ob' fun r1 hr1 => (AOR.pure (@LT.callF Try.prog _ _ 210 _ _ [(.c (iC x.A)), (.c (iC y.A))] _ _ [] _ _ _ _ (w_impl_compareInts x.A y.A r1 hr1) rfl cb210 (.cons (.c (.same rfl)) (.cons (.c (.same rfl)) .nil)) rfl rfl trivial) ⟨rfl, rfl, rfl, trivial⟩ trivial rfl rfl (asg (Iv r1) rfl rfl rfl rfl (On (Ws ?_))))))))
 refine en [(2, (Cc (.pl 21 0))), (3, (Cc (.pl 22 0))), (5, (Iv r1))] [(21, (.row 112 [[(iC x.A), (iC x.B)]])), (22, (.row 112 [[(iC y.A), (iC y.B)]]))] ⟨rfl, rfl, rfl, trivial⟩ ⟨rfl, rfl, trivial⟩ (Wr (mv (Iv r1) rfl rfl rfl rfl (Op20 (LT.neq rfl) rfl ⟨rfl, rfl⟩ rfl rfl (On (AWR.cond rfl (fun hc2 => ?_) (fun hc2 => ?_))))))
 ·refine Ws (Wr ?_)
  refine mv (Iv r1) rfl rfl rfl rfl (asg (Iv r1) rfl rfl rfl rfl (On (AWR.ret (FPost.mk (.inr rfl) ⟨rfl, trivial⟩ trivial rfl ⟨PermP.sc, trivial⟩ trivial))))
 ·refine AWR.skip (Ws (Wr ?_))
  refine Op10 (LT.fieldPl rfl fo112_1) rfl rfl rfl (Op11 (LT.bload1 (c := (iC x.B)) rfl ag3 (by exact rfl)) rfl rfl rfl rfl (Op10 (LT.fieldPl rfl fo112_1) rfl rfl rfl (Op11 (LT.bload1 (c := (iC y.B)) rfl ag3 (by exact rfl)) rfl rfl rfl rfl (Ob' fun r3 hr3 => (AOR.pure (@LT.callF Try.prog _ _ 210 _ _ [(.c (iC x.B)), (.c (iC y.B))] _ _ [] _ _ _ _ (w_impl_compareInts x.B y.B r3 hr3) rfl cb210 (.cons (.c (.same rfl)) (.cons (.c (.same rfl)) .nil)) rfl rfl trivial) ⟨rfl, rfl, rfl, trivial⟩ trivial rfl rfl (asg (Iv r3) rfl rfl rfl rfl (On (AWR.ret (FPost.mk (.inr rfl) ⟨rfl, trivial⟩ trivial rfl ⟨PermP.sc, trivial⟩ trivial)))))))))
end Go.Proofs.Yteognanhfpbghaa
end
