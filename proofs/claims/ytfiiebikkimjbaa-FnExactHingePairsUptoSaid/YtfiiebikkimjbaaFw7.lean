/- The framework, part 7: a region whose order is open. Operations that do not stand in one another's way may change places: the order of the text stands for every order. -/
import Derived.Test.YtfiiebikkimjbaaFw6
set_option linter.unusedVariables false
set_option linter.unusedSimpArgs false
set_option linter.unnecessarySimpa false
namespace Go.Fw

structure Ct where
  ins : List (Operand × AV)
  us : Mem
  v : AV
  df : Mem
  W : List Nat
  X : List Nat
  want : Bool

abbrev OC := Oper × Ct
def stepC (p : OC) (st : Slots × Mem) : Slots × Mem := (setD (junkSl p.2.X st.1) p.1.dst p.2.v, p.2.df ++ junkM p.2.X st.2)
def runC : List OC → Slots × Mem → Slots × Mem
  | [], st => st
  | p :: r, st => runC r (stepC p st)

/-! ### no name of X in it; nothing unknown in it -/
def nrC (X : List Nat) : CV → Bool
  | .loc n _ _ => !X.elem n
  | .pl n _ => !X.elem n
  | .fn _ caps => !caps.any X.elem
  | .mref n => !X.elem n
  | .tl p _ _ _ => !X.elem p
  | .tpl p _ _ => !X.elem p
  | _ => true
def nrS (X : List Nat) : SV → Bool
  | .c x => nrC X x
  | .agg cs => cs.all (nrC X)
def nrA (X : List Nat) : AV → Bool
  | .s x => nrS X x
  | .tup xs => xs.all (nrS X)
def nrO (X : List Nat) : Ob → Bool
  | .row _ els => els.all (·.all (nrC X))
  | .trow _ p _ => !X.elem p
  | _ => true
def njC : CV → Bool
  | .junk => false
  | _ => true
def njS : SV → Bool
  | .c x => njC x
  | .agg cs => cs.all njC
def njA : AV → Bool
  | .s x => njS x
  | .tup xs => xs.all njS
def njO : Ob → Bool
  | .row _ els => els.all (·.all njC)
  | .unk => false
  | _ => true

theorem junkC_nr {X : List Nat} {x : CV} (h : nrC X x = true) : junkC X x = x := by
  cases x with
  | fn f caps => cases hx : caps.any X.elem <;> simp only [nrC, junkC, hx, cond_true, cond_false] at h ⊢ <;> first | rfl | cases h
  | tl p k o l => cases hx : X.elem p <;> simp only [nrC, junkC, hx, cond_true, cond_false] at h ⊢ <;> first | rfl | cases h
  | tpl p k o => cases hx : X.elem p <;> simp only [nrC, junkC, hx, cond_true, cond_false] at h ⊢ <;> first | rfl | cases h
  | _ => simp_all [nrC, junkC]
theorem map_id_of {α : Type} {f : α → α} {l : List α} (h : ∀ x ∈ l, f x = x) : l.map f = l := by
  rw [List.map_congr_left h, List.map_id']
theorem junkS_nr {X : List Nat} {x : SV} (h : nrS X x = true) : junkS X x = x := by
  cases x with
  | c x => simp only [junkS, junkC_nr h]
  | agg cs => simp only [junkS, map_id_of fun x hx => junkC_nr (List.all_eq_true.1 h x hx)]
theorem junkA_nr {X : List Nat} {x : AV} (h : nrA X x = true) : junkA X x = x := by
  cases x with
  | s x => simp only [junkA, junkS_nr h]
  | tup xs => simp only [junkA, map_id_of fun x hx => junkS_nr (List.all_eq_true.1 h x hx)]
theorem junkO_nr {X : List Nat} {x : Ob} (h : nrO X x = true) : junkO X x = x := by
  cases x with
  | row e els => simp only [junkO, map_id_of fun cs hcs => map_id_of fun x hx => junkC_nr (List.all_eq_true.1 (List.all_eq_true.1 h cs hcs) x hx)]
  | prow e els => rfl
  | mp es => rfl
  | pool e rows => rfl
  | trow e p lens =>
    have hx : X.elem p = false := by simpa [nrO] using h
    simp only [junkO, hx, cond_false]
  | unk => rfl

theorem junkC_nj {X : List Nat} {x : CV} (h : njC (junkC X x) = true) : nrC X x = true := by
  cases x with
  | loc n o l => cases hx : X.elem n <;> simp_all [nrC, junkC, njC]
  | pl n o => cases hx : X.elem n <;> simp_all [nrC, junkC, njC]
  | fn f caps => cases hx : caps.any X.elem <;> simp only [nrC, junkC, hx, cond_true, cond_false] at h ⊢ <;> first | rfl | cases h
  | mref n => cases hx : X.elem n <;> simp_all [nrC, junkC, njC]
  | tl p k o l => cases hx : X.elem p <;> simp only [nrC, junkC, hx, cond_true, cond_false] at h ⊢ <;> first | rfl | cases h
  | tpl p k o => cases hx : X.elem p <;> simp only [nrC, junkC, hx, cond_true, cond_false] at h ⊢ <;> first | rfl | cases h
  | _ => rfl
theorem junkS_nj {X : List Nat} {x : SV} (h : njS (junkS X x) = true) : nrS X x = true := by
  cases x with
  | c x => exact junkC_nj h
  | agg cs => exact List.all_eq_true.2 fun x hx => junkC_nj (List.all_eq_true.1 h _ (List.mem_map.2 ⟨x, hx, rfl⟩))
theorem junkA_nj {X : List Nat} {x : AV} (h : njA (junkA X x) = true) : nrA X x = true := by
  cases x with
  | s x => exact junkS_nj h
  | tup xs => exact List.all_eq_true.2 fun x hx => junkS_nj (List.all_eq_true.1 h _ (List.mem_map.2 ⟨x, hx, rfl⟩))
theorem junkO_nj {X : List Nat} {x : Ob} (h : njO (junkO X x) = true) : nrO X x = true := by
  cases x with
  | row e els => exact List.all_eq_true.2 fun cs hcs => List.all_eq_true.2 fun x hx => junkC_nj (List.all_eq_true.1 (List.all_eq_true.1 h _ (List.mem_map.2 ⟨cs, hcs, rfl⟩)) _ (List.mem_map.2 ⟨x, hx, rfl⟩))
  | prow e els => rfl
  | mp es => rfl
  | pool e rows => rfl
  | trow e p lens =>
    cases hx : X.elem p with
    | false => simp only [nrO, hx, Bool.not_false]
    | true => simp only [junkO, hx, cond_true] at h; cases h
  | unk => cases h

theorem junkC_comm (X Y : List Nat) (x : CV) : junkC X (junkC Y x) = junkC Y (junkC X x) := by
  cases x with
  | loc n o l => cases hx : X.elem n <;> cases hy : Y.elem n <;> simp only [junkC, hx, hy, cond_true, cond_false]
  | pl n o => cases hx : X.elem n <;> cases hy : Y.elem n <;> simp only [junkC, hx, hy, cond_true, cond_false]
  | fn f caps => cases hx : caps.any X.elem <;> cases hy : caps.any Y.elem <;> simp only [junkC, hx, hy, cond_true, cond_false]
  | mref n => cases hx : X.elem n <;> cases hy : Y.elem n <;> simp only [junkC, hx, hy, cond_true, cond_false]
  | tl n k o l => cases hx : X.elem n <;> cases hy : Y.elem n <;> simp only [junkC, hx, hy, cond_true, cond_false]
  | tpl n k o => cases hx : X.elem n <;> cases hy : Y.elem n <;> simp only [junkC, hx, hy, cond_true, cond_false]
  | _ => rfl
theorem junkS_comm (X Y : List Nat) (x : SV) : junkS X (junkS Y x) = junkS Y (junkS X x) := by
  cases x with
  | c x => simp only [junkS, junkC_comm X Y]
  | agg cs => simp only [junkS, List.map_map, Function.comp_def, junkC_comm X Y]
theorem junkA_comm (X Y : List Nat) (x : AV) : junkA X (junkA Y x) = junkA Y (junkA X x) := by
  cases x with
  | s x => simp only [junkA, junkS_comm X Y]
  | tup xs => simp only [junkA, List.map_map, Function.comp_def, junkS_comm X Y]
theorem junkO_comm (X Y : List Nat) (x : Ob) : junkO X (junkO Y x) = junkO Y (junkO X x) := by
  cases x with
  | row e els => simp only [junkO, List.map_map, Function.comp_def, junkC_comm X Y]
  | prow e els => rfl
  | mp es => rfl
  | pool e rows => rfl
  | trow e p lens => cases hx : X.elem p <;> cases hy : Y.elem p <;> simp only [junkO, hx, hy, cond_true, cond_false]
  | unk => rfl

/-! ### look-ups in a state -/
theorem lk_setD (σ : Slots) (d : Option Tmp) (v : AV) (t : Nat) : lk (setD σ d v) t = if d = some t then some v else lk σ t := by
  cases d with
  | none => simp [setD]
  | some d =>
    show (bif Nat.beq d t then some v else lk σ t) = _
    cases hb : Nat.beq d t with
    | true => have := Nat.eq_of_beq_eq_true hb; subst this; simp
    | false => have := Nat.ne_of_beq_eq_false hb; simp [this]
theorem lk_stepS (p : OC) (st : Slots × Mem) (t : Nat) : lk (stepC p st).1 t = if p.1.dst = some t then some p.2.v else (lk st.1 t).map (junkA p.2.X) := by
  unfold stepC
  rw [lk_setD, lk_junkSl]
theorem lk_junkM' (X : List Nat) : ∀ (m : Mem) (n : Nat), lk (junkM X m) n = if n ∈ X then none else (lk m n).map (junkO X)
  | [], n => by simp [junkM, lk]
  | (k, v) :: r, n => by
    unfold junkM
    have ih := lk_junkM' X r n
    cases hk : X.elem k with
    | true =>
      rw [cond_true, ih]
      have hkX := List.mem_of_elem_eq_true hk
      by_cases hn : n ∈ X
      · rw [if_pos hn, if_pos hn]
      · rw [if_neg hn, if_neg hn]
        congr 1
        show lk r n = (bif Nat.beq k n then some v else lk r n)
        cases hb : Nat.beq k n with
        | true => have := Nat.eq_of_beq_eq_true hb; subst this; exact absurd hkX hn
        | false => rfl
    | false =>
      rw [cond_false]
      show (bif Nat.beq k n then some (junkO X v) else lk (junkM X r) n) = if n ∈ X then none else ((bif Nat.beq k n then some v else lk r n)).map (junkO X)
      cases hb : Nat.beq k n with
      | true => have := Nat.eq_of_beq_eq_true hb; subst this; rw [if_neg (notin_of_elem hk)]; rfl
      | false => rw [cond_false, cond_false, ih]
theorem lk_app {α : Type} : ∀ (x y : List (Nat × α)) (n : Nat), lk (x ++ y) n = if n ∈ keys x then lk x n else lk y n
  | [], y, n => by simp [keys]
  | (k, v) :: r, y, n => by
    show (bif Nat.beq k n then some v else lk (r ++ y) n) = if n ∈ keys ((k, v) :: r) then (bif Nat.beq k n then some v else lk r n) else lk y n
    cases hb : Nat.beq k n with
    | true => have := Nat.eq_of_beq_eq_true hb; subst this; simp [keys]
    | false =>
      have hne := Nat.ne_of_beq_eq_false hb
      rw [cond_false, cond_false, lk_app r y n]
      have : n ∈ keys ((k, v) :: r) ↔ n ∈ keys r := by simp [keys, Ne.symm hne]
      by_cases h : n ∈ keys r
      · rw [if_pos h, if_pos (this.2 h)]
      · rw [if_neg h, if_neg fun h' => h (this.1 h')]
theorem lk_stepM (p : OC) (st : Slots × Mem) (n : Nat) : lk (stepC p st).2 n = if n ∈ keys p.2.df then lk p.2.df n else if n ∈ p.2.X then none else (lk st.2 n).map (junkO p.2.X) := by
  unfold stepC
  rw [lk_app, lk_junkM']

/-- the same, by every look-up -/
def EqS (a b : Slots × Mem) : Prop := (∀ t, lk a.1 t = lk b.1 t) ∧ ∀ n, lk a.2 n = lk b.2 n
theorem EqS.refl (a : Slots × Mem) : EqS a a := ⟨fun _ => rfl, fun _ => rfl⟩
theorem EqS.trans {a b c : Slots × Mem} (h : EqS a b) (k : EqS b c) : EqS a c := ⟨fun t => (h.1 t).trans (k.1 t), fun n => (h.2 n).trans (k.2 n)⟩
theorem EqS.step {a b : Slots × Mem} (h : EqS a b) (p : OC) : EqS (stepC p a) (stepC p b) := ⟨fun t => by rw [lk_stepS, lk_stepS, h.1], fun n => by rw [lk_stepM, lk_stepM, h.2]⟩
theorem EqS.run {a b : Slots × Mem} (h : EqS a b) : ∀ L : List OC, EqS (runC L a) (runC L b)
  | [] => h
  | p :: r => EqS.run (h.step p) r

/-! ### operations that do not stand in one another's way -/
def rdOf (ops : Array Oper) (p : OC) : List Nat :=
  (p.2.ins.filterMap fun q => match q.1 with | .tmp t => some t | _ => none) ++ (match p.1.guard with | some (j, _) => ((ops[j]?).bind (·.dst)).toList | none => [])
def wrOf (p : OC) : List Nat := p.2.W ++ p.2.X ++ keys p.2.df
def nmOf (p : OC) : List Nat := keys p.2.us ++ wrOf p
def half (ops : Array Oper) (a b : OC) : Bool :=
  (match a.1.dst with | some d => !(rdOf ops b).elem d && b.1.dst != some d | none => true) && disL (wrOf a) (nmOf b) && nrA a.2.X b.2.v && b.2.ins.all (fun q => nrA a.2.X q.2) && b.2.us.all (fun q => nrO a.2.X q.2) && b.2.df.all (fun q => nrO a.2.X q.2)
def indep (ops : Array Oper) (a b : OC) : Bool := half ops a b && half ops b a

structure Half (ops : Array Oper) (a b : OC) : Prop where
  rd : ∀ d, a.1.dst = some d → d ∉ rdOf ops b
  ds : ∀ d, a.1.dst = some d → b.1.dst ≠ some d
  nm : ∀ n ∈ wrOf a, n ∉ nmOf b
  v : junkA a.2.X b.2.v = b.2.v
  ins : ∀ q ∈ b.2.ins, nrA a.2.X q.2 = true
  us : ∀ q ∈ b.2.us, nrO a.2.X q.2 = true
  df : ∀ q ∈ b.2.df, nrO a.2.X q.2 = true
theorem half_spec {ops : Array Oper} {a b : OC} (h : half ops a b = true) : Half ops a b := by
  unfold half at h
  simp only [Bool.and_eq_true] at h
  obtain ⟨⟨⟨⟨⟨h1, h2⟩, h3⟩, h4⟩, h5⟩, h6⟩ := h
  refine ⟨fun d hd => ?_, fun d hd => ?_, disL_spec h2, junkA_nr h3, List.all_eq_true.1 h4, List.all_eq_true.1 h5, List.all_eq_true.1 h6⟩
  · rw [hd] at h1
    simp only [Bool.and_eq_true, Bool.not_eq_true'] at h1
    exact notin_of_elem h1.1
  · rw [hd] at h1
    simp only [Bool.and_eq_true] at h1
    simpa using h1.2

theorem keys_wr {p : OC} {n : Nat} (h : n ∈ keys p.2.df) : n ∈ wrOf p := List.mem_append_right _ h
theorem x_wr {p : OC} {n : Nat} (h : n ∈ p.2.X) : n ∈ wrOf p := List.mem_append_left _ (List.mem_append_right _ h)
theorem wr_nm {p : OC} {n : Nat} (h : n ∈ wrOf p) : n ∈ nmOf p := List.mem_append_right _ h
theorem lk_keys {α : Type} {l : List (Nat × α)} {n : Nat} {o : α} (h : lk l n = some o) : n ∈ keys l := List.mem_map.2 ⟨_, lk_mem h, rfl⟩

theorem lk_df_junk {X : List Nat} {df : Mem} (h : ∀ q ∈ df, nrO X q.2 = true) (n : Nat) : (lk df n).map (junkO X) = lk df n := by
  cases hl : lk df n with
  | none => rfl
  | some o => exact congrArg some (junkO_nr (h _ (lk_mem hl)))

theorem swap {ops : Array Oper} {a b : OC} (h : indep ops a b = true) (st : Slots × Mem) : EqS (stepC a (stepC b st)) (stepC b (stepC a st)) := by
  unfold indep at h
  simp only [Bool.and_eq_true] at h
  have hab := half_spec h.1
  have hba := half_spec h.2
  refine ⟨fun t => ?_, fun n => ?_⟩
  · rw [lk_stepS, lk_stepS, lk_stepS, lk_stepS]
    by_cases h1 : a.1.dst = some t
    · have h2 := hab.ds t h1
      rw [if_pos h1, if_neg h2, if_pos h1]
      simp [hba.v]
    · by_cases h2 : b.1.dst = some t
      · rw [if_neg h1, if_pos h2, if_pos h2]
        simp [hab.v]
      · rw [if_neg h1, if_neg h2, if_neg h2, if_neg h1]
        cases lk st.1 t with
        | none => rfl
        | some x => simp [junkA_comm a.2.X b.2.X]
  · rw [lk_stepM, lk_stepM, lk_stepM, lk_stepM]
    have e1 : n ∈ wrOf a → n ∉ keys b.2.df ∧ n ∉ b.2.X := fun hn => ⟨fun h => hab.nm n hn (wr_nm (keys_wr h)), fun h => hab.nm n hn (wr_nm (x_wr h))⟩
    by_cases ha1 : n ∈ keys a.2.df
    · obtain ⟨hb1, hb2⟩ := e1 (keys_wr ha1)
      rw [if_pos ha1, if_neg hb1, if_neg hb2, if_pos ha1, lk_df_junk hba.df]
    · by_cases hb1 : n ∈ keys b.2.df
      · have hb : n ∈ wrOf b := keys_wr hb1
        have ha2 : n ∉ a.2.X := fun h => hba.nm n hb (wr_nm (x_wr h))
        rw [if_neg ha1, if_neg ha2, if_pos hb1, if_pos hb1, lk_df_junk hab.df]
      · by_cases ha2 : n ∈ a.2.X
        · obtain ⟨_, hb2⟩ := e1 (x_wr ha2)
          rw [if_neg ha1, if_pos ha2, if_neg hb1, if_neg hb2, if_neg ha1, if_pos ha2]
          rfl
        · by_cases hb2 : n ∈ b.2.X
          · rw [if_neg ha1, if_neg ha2, if_neg hb1, if_pos hb2, if_neg hb1, if_pos hb2]
            rfl
          · rw [if_neg ha1, if_neg ha2, if_neg hb1, if_neg hb2, if_neg hb1, if_neg hb2, if_neg ha1, if_neg ha2]
            cases lk st.2 n with
            | none => rfl
            | some x => simp [junkO_comm a.2.X b.2.X]

theorem push {ops : Array Oper} {a : OC} : ∀ (L : List OC) (st : Slots × Mem), (∀ b ∈ L, indep ops a b = true) → EqS (stepC a (runC L st)) (runC L (stepC a st))
  | [], _, _ => .refl _
  | b :: r, st, h => (push r (stepC b st) fun c hc => h c (List.mem_cons_of_mem _ hc)).trans ((swap (h b List.mem_cons_self) st).run r)

/-! ### what an operation finds -/
theorem run_snoc : ∀ (L : List OC) (p : OC) (st : Slots × Mem), runC (L ++ [p]) st = stepC p (runC L st)
  | [], _, _ => rfl
  | q :: r, p, st => run_snoc r p (stepC q st)
theorem run_app : ∀ (L K : List OC) (st : Slots × Mem), runC (L ++ K) st = runC K (runC L st)
  | [], _, _ => rfl
  | q :: r, K, st => run_app r K (stepC q st)

/-- where a slot's value comes from: the last that wrote it, or from before; no name of it was given a new meaning since -/
theorem slot_from {t : Nat} {av : AV} (hj : njA av = true) : ∀ (L : List OC) (st : Slots × Mem), lk (runC L st).1 t = some av →
    (∃ A p B, L = A ++ p :: B ∧ p.1.dst = some t ∧ p.2.v = av ∧ ∀ q ∈ B, q.1.dst ≠ some t ∧ nrA q.2.X av = true) ∨ (lk st.1 t = some av ∧ ∀ q ∈ L, q.1.dst ≠ some t ∧ nrA q.2.X av = true)
  | [], st, h => .inr ⟨h, fun q hq => by cases hq⟩
  | p :: r, st, h => by
    rcases slot_from hj r (stepC p st) h with ⟨A, q, B, rfl, h1, h2, h3⟩ | ⟨h1, h2⟩
    · exact .inl ⟨p :: A, q, B, rfl, h1, h2, h3⟩
    · rw [lk_stepS] at h1
      by_cases hd : p.1.dst = some t
      · rw [if_pos hd] at h1
        injection h1 with h1
        exact .inl ⟨[], p, r, rfl, hd, h1, h2⟩
      · rw [if_neg hd] at h1
        cases hl : lk st.1 t with
        | none => rw [hl] at h1; cases h1
        | some x =>
          rw [hl] at h1
          injection h1 with h1
          have hnr : nrA p.2.X x = true := junkA_nj (by rw [h1]; exact hj)
          have hx : x = av := by rw [← h1, junkA_nr hnr]
          subst hx
          refine .inr ⟨rfl, fun q hq => ?_⟩
          cases hq with
          | head => exact ⟨hd, hnr⟩
          | tail _ hq => exact h2 q hq
theorem slot_to {t : Nat} {av : AV} : ∀ (L : List OC) (st : Slots × Mem), lk st.1 t = some av → (∀ q ∈ L, q.1.dst ≠ some t ∧ nrA q.2.X av = true) → lk (runC L st).1 t = some av
  | [], _, h, _ => h
  | p :: r, st, h, k => by
    refine slot_to r (stepC p st) ?_ fun q hq => k q (List.mem_cons_of_mem _ hq)
    obtain ⟨h1, h2⟩ := k p List.mem_cons_self
    rw [lk_stepS, if_neg h1, h]
    exact congrArg some (junkA_nr h2)
theorem ob_from {n : Nat} {ob : Ob} (hj : njO ob = true) : ∀ (L : List OC) (st : Slots × Mem), lk (runC L st).2 n = some ob →
    (∃ A p B, L = A ++ p :: B ∧ lk p.2.df n = some ob ∧ ∀ q ∈ B, n ∉ keys q.2.df ∧ n ∉ q.2.X ∧ nrO q.2.X ob = true) ∨ (lk st.2 n = some ob ∧ ∀ q ∈ L, n ∉ keys q.2.df ∧ n ∉ q.2.X ∧ nrO q.2.X ob = true)
  | [], st, h => .inr ⟨h, fun q hq => by cases hq⟩
  | p :: r, st, h => by
    rcases ob_from hj r (stepC p st) h with ⟨A, q, B, rfl, h1, h2⟩ | ⟨h1, h2⟩
    · exact .inl ⟨p :: A, q, B, rfl, h1, h2⟩
    · rw [lk_stepM] at h1
      by_cases hd : n ∈ keys p.2.df
      · rw [if_pos hd] at h1
        exact .inl ⟨[], p, r, rfl, h1, h2⟩
      · rw [if_neg hd] at h1
        by_cases hX : n ∈ p.2.X
        · rw [if_pos hX] at h1; cases h1
        · rw [if_neg hX] at h1
          cases hl : lk st.2 n with
          | none => rw [hl] at h1; cases h1
          | some x =>
            rw [hl] at h1
            injection h1 with h1
            have hnr : nrO p.2.X x = true := junkO_nj (by rw [h1]; exact hj)
            have hx : x = ob := by rw [← h1, junkO_nr hnr]
            subst hx
            refine .inr ⟨rfl, fun q hq => ?_⟩
            cases hq with
            | head => exact ⟨hd, hX, hnr⟩
            | tail _ hq => exact h2 q hq
theorem ob_to {n : Nat} {ob : Ob} : ∀ (L : List OC) (st : Slots × Mem), lk st.2 n = some ob → (∀ q ∈ L, n ∉ keys q.2.df ∧ n ∉ q.2.X ∧ nrO q.2.X ob = true) → lk (runC L st).2 n = some ob
  | [], _, h, _ => h
  | p :: r, st, h, k => by
    refine ob_to r (stepC p st) ?_ fun q hq => k q (List.mem_cons_of_mem _ hq)
    obtain ⟨h1, h2, h3⟩ := k p List.mem_cons_self
    rw [lk_stepM, if_neg h1, if_neg h2, h]
    exact congrArg some (junkO_nr h3)

/-! ### one operation's certificate at a state -/
def One (P : Program) (C : Ctx) (ops : Array Oper) (p : OC) (st : Slots × Mem) : Prop :=
  match p.2.want with
  | true => LT P p.1 p.2.ins p.2.us p.2.v p.2.df p.2.W p.2.X ∧ EvL st.1 p.2.ins ∧ LkL st.2 p.2.us ∧ GuardIs ops st.1 p.1 true ∧ (dstOk C.N p.1.dst && subL p.2.W (p.2.X ++ keys p.2.df) && subL p.2.W (keys p.2.us) && subL (keys p.2.df) (p.2.X ++ p.2.W) && disL p.2.X C.pn) = true
  | false => GuardIs ops st.1 p.1 false ∧ dstOk C.N p.1.dst = true ∧ p.2.v = .tup [] ∧ p.2.df = [] ∧ p.2.X = [] ∧ p.2.ins = [] ∧ p.2.us = []

section
variable {P : Program} {C : Ctx} {ops : Array Oper}

theorem St.eqs {st st' : Slots × Mem} {R B : Nat → Prop} {g : Nat → GS} {a : Act} {w : World} (h : EqS st st') (hs : St P C st.1 st.2 R B g a w) : St P C st'.1 st'.2 R B g a w :=
  hs.weak (fun t v hv => (h.1 t).trans hv) fun n o ho => (h.2 n).trans ho

/-- an operation with its certificate, carried out -/
theorem One.wp {p : OC} {st : Slots × Mem} (h : One P C ops p st) {R B : Nat → Prop} {g : Nat → GS} {a : Act} {w : World} (hs : St P C st.1 st.2 R B g a w) {i : Nat} (hi : ops[i]? = some p.1) {K : Act → World → Prop} {Q : Exit → Act → World → Prop}
    (hK : ∀ R' B' g' a' w', St P C (stepC p st).1 (stepC p st).2 R' B' g' a' w' → K a' w') : wpOp P ops Q i K a w := by
  unfold wpOp
  rw [hi]
  simp only
  unfold One at h
  split at h
  · obtain ⟨hlt, hin, hus, hg, hside⟩ := h
    simp only [Bool.and_eq_true] at hside
    obtain ⟨⟨⟨⟨h1, h2⟩, h3⟩, h4⟩, h5⟩ := hside
    rw [if_pos (hg.wanted hs)]
    refine .inl (hlt R B g w a hs.wf (EvL.ra hs hin) (fun p hp => (LkL.ro hs hus p hp).1) K _ fun u R' B' g' w' had hR hv hob => ?_)
    exact hK _ _ _ _ _ (hs.step hus (fun n hn => ⟨List.mem_append.1 (subL_spec h2 n hn), mem_keys (subL_spec h3 n hn)⟩) (fun p hp => List.mem_append.1 (subL_spec h4 p.1 (List.mem_map.2 ⟨p, hp, rfl⟩))) h1 (disL_spec h5) had hR hv hob)
  · obtain ⟨hg, hd, h1, h2, h3, _, _⟩ := h
    rw [if_neg (by rw [hg.wanted hs]; exact Bool.false_ne_true)]
    refine hK R B g _ w ?_
    have e : stepC p st = (setD st.1 p.1.dst (.tup []), st.2) := by
      unfold stepC
      rw [h1, h2, h3, junkSl_nil, junkM_nil]
      rfl
    rw [e]
    refine { hs with nd := (put_defers' a _ _).trans hs.nd, sz := (put_size a _ _).trans hs.sz, sl := fun t v ht => ?_ }
    change lk (setD st.1 p.1.dst (.tup [])) t = some v at ht
    rw [lk_setD] at ht
    cases hdst : p.1.dst with
    | none => rw [hdst] at ht; exact hs.sl t v (by simpa using ht)
    | some d =>
      rw [hdst] at ht hd
      have hlt : d < a.tmps.size := by rw [hs.sz]; exact Nat.le_of_ble_eq_true hd
      rw [getD_put a d t undef hlt]
      by_cases hdt : d = t
      · subst hdt
        rw [if_pos rfl] at ht ⊢
        injection ht with ht
        subst ht
        exact ⟨[], rfl, rfl, fun k x hk => by simp at hk⟩
      · rw [if_neg hdt]
        rw [if_neg (by simpa using hdt)] at ht
        exact hs.sl t v ht

/-- what a certificate asks of a state, and no more -/
theorem One.of {p : OC} {st st' : Slots × Mem} (h : One P C ops p st) (h1 : ∀ t ∈ rdOf ops p, ∀ v, lk st.1 t = some v → lk st'.1 t = some v) (h2 : ∀ q ∈ p.2.us, lk st.2 q.1 = some q.2 → lk st'.2 q.1 = some q.2) : One P C ops p st' := by
  have hg : ∀ b, GuardIs ops st.1 p.1 b → GuardIs ops st'.1 p.1 b := fun b hb => by
    unfold GuardIs at hb ⊢
    split at hb
    · exact hb
    · rename_i j want hgd
      obtain ⟨d, k1, ⟨c, k2, k3⟩ | ⟨k2, k3⟩⟩ := hb
      · exact ⟨d, k1, .inl ⟨c, h1 d (by simp [rdOf, hgd, k1]) _ k2, k3⟩⟩
      · exact ⟨d, k1, .inr ⟨h1 d (by simp [rdOf, hgd, k1]) _ k2, k3⟩⟩
  unfold One at h ⊢
  split at h
  · rename_i hw
    obtain ⟨k1, k2, k3, k4, k5⟩ := h
    refine ⟨k1, ?_, ?_, hg _ k4, k5⟩
    · have : ∀ ins : List (Operand × AV), (∀ q ∈ ins, q ∈ p.2.ins) → EvL st.1 ins → EvL st'.1 ins := by
        intro ins
        induction ins with
        | nil => intro _ _; trivial
        | cons q r ih =>
          intro hm he
          obtain ⟨x, v⟩ := q
          refine ⟨?_, ih (fun q hq => hm q (List.mem_cons_of_mem _ hq)) he.2⟩
          have hx := he.1
          cases x with
          | tmp t => exact h1 t (List.mem_append_left _ (List.mem_filterMap.2 ⟨_, hm _ List.mem_cons_self, rfl⟩)) v hx
          | _ => exact hx
      exact this _ (fun _ h => h) k2
    · have : ∀ us : Mem, (∀ q ∈ us, q ∈ p.2.us) → LkL st.2 us → LkL st'.2 us := by
        intro us
        induction us with
        | nil => intro _ _; trivial
        | cons q r ih =>
          intro hm he
          obtain ⟨n, o⟩ := q
          exact ⟨h2 _ (hm _ List.mem_cons_self) he.1, ih (fun q hq => hm q (List.mem_cons_of_mem _ hq)) he.2⟩
      exact this _ (fun _ h => h) k3
  · exact ⟨hg _ h.1, h.2⟩

/-! ### the check -/
def prOk (l : List Oper) (pr : List Nat) : Nat → List Oper → Bool
  | _, [] => true
  | k, o :: r => (o.after.toList.all fun e => !Region.binds .any e || Nat.blt e.on k) && Nat.beq (Nat.lor (pr.getD k 0) (o.after.toList.foldl (fun s e => bif Region.binds .any e then Nat.lor (Nat.lor s (2 ^ e.on)) (pr.getD e.on 0) else s) 0)) (o.after.toList.foldl (fun s e => bif Region.binds .any e then Nat.lor (Nat.lor s (2 ^ e.on)) (pr.getD e.on 0) else s) 0) && prOk l pr (k + 1) r

def pairOk (ops : Array Oper) (prk : Nat) (b : OC) : Nat → List OC → Bool
  | _, [] => true
  | j, a :: r => (prk.testBit j || indep ops a b) && pairOk ops prk b (j + 1) r
def allBits (prk : Nat) : Nat → Bool
  | 0 => true
  | n + 1 => prk.testBit n && allBits prk n
def njOk (p : OC) : Bool := p.2.ins.all (fun q => njA q.2) && p.2.us.all fun q => njO q.2
def drawGo (ops : Array Oper) (L : List OC) (pr : List Nat) : Nat → List OC → Bool
  | _, [] => true
  | k, b :: r => pairOk ops (pr.getD k 0) b 0 (L.take k) && (njOk b || (allBits (pr.getD k 0) k && (r.zipIdx (k + 1)).all fun q => (pr.getD q.2 0).testBit k)) && drawGo ops L pr (k + 1) r
def drawB (l : List Oper) (cs : List Ct) : Bool :=
  let pr := (Region.before l.toArray).toList
  Nat.beq cs.length l.length && prOk l pr 0 l && drawGo l.toArray (l.zip cs) pr 0 (l.zip cs)

theorem fold_bit {pr : List Nat} {j : Nat} : ∀ (es : List Edge) (s : Nat), (es.foldl (fun s e => bif Region.binds .any e then Nat.lor (Nat.lor s (2 ^ e.on)) (pr.getD e.on 0) else s) s).testBit j = true →
    s.testBit j = true ∨ ∃ e ∈ es, Region.binds .any e = true ∧ (e.on = j ∨ (pr.getD e.on 0).testBit j = true)
  | [], s, h => .inl h
  | e :: r, s, h => by
    rw [List.foldl_cons] at h
    rcases fold_bit r _ h with h | ⟨e', h1, h2⟩
    · cases hb : Region.binds .any e with
      | false => rw [hb] at h; exact .inl h
      | true =>
        rw [hb, cond_true] at h
        change ((s ||| 2 ^ e.on) ||| pr.getD e.on 0).testBit j = true at h
        rw [Nat.testBit_or, Nat.testBit_or, Nat.testBit_two_pow] at h
        simp only [Bool.or_eq_true, decide_eq_true_eq] at h
        rcases h with (h | h) | h
        · exact .inl h
        · exact .inr ⟨e, List.mem_cons_self, hb, .inl h⟩
        · exact .inr ⟨e, List.mem_cons_self, hb, .inr h⟩
    · exact .inr ⟨e', List.mem_cons_of_mem _ h1, h2⟩

theorem prOk_spec {l : List Oper} {pr : List Nat} : ∀ (r : List Oper) (k : Nat), prOk l pr k r = true → ∀ (i : Nat) o, r[i]? = some o → (∀ e ∈ o.after, Region.binds .any e = true → e.on < k + i) ∧
    ∀ j, (pr.getD (k + i) 0).testBit j = true → ∃ e ∈ o.after, Region.binds .any e = true ∧ (e.on = j ∨ (pr.getD e.on 0).testBit j = true)
  | [], _, _, i, _, h => by simp at h
  | q :: r, k, h, i, o, hi => by
    unfold prOk at h
    simp only [Bool.and_eq_true] at h
    obtain ⟨⟨h1, h2⟩, h3⟩ := h
    cases i with
    | zero =>
      simp at hi
      subst hi
      refine ⟨fun e he hb => (by have := List.all_eq_true.1 h1 e (by simpa using he); rw [hb] at this; exact Nat.le_of_ble_eq_true this), fun j hj => ?_⟩
      have e2 := Nat.eq_of_beq_eq_true h2
      have hb : (Nat.lor (pr.getD k 0) (q.after.toList.foldl (fun s e => bif Region.binds .any e then Nat.lor (Nat.lor s (2 ^ e.on)) (pr.getD e.on 0) else s) 0)).testBit j = true := by
        show ((pr.getD k 0) ||| _).testBit j = true
        rw [Nat.testBit_or]
        rw [Nat.add_zero] at hj
        rw [hj, Bool.true_or]
      rw [e2] at hb
      rcases fold_bit _ _ hb with h | ⟨e, he, h⟩
      · simp at h
      · exact ⟨e, by simpa using he, h⟩
    | succ i =>
      have := prOk_spec r (k + 1) h3 i o (by simpa using hi)
      rwa [show k + 1 + i = k + (i + 1) by omega] at this

theorem pairOk_spec {ops : Array Oper} {prk : Nat} {b : OC} : ∀ (r : List OC) (j : Nat), pairOk ops prk b j r = true → ∀ (i : Nat) a, r[i]? = some a → prk.testBit (j + i) = true ∨ indep ops a b = true
  | [], _, _, i, _, h => by simp at h
  | q :: r, j, h, i, a, hi => by
    unfold pairOk at h
    simp only [Bool.and_eq_true, Bool.or_eq_true] at h
    cases i with
    | zero => simp at hi; subst hi; exact h.1
    | succ i =>
      have := pairOk_spec r (j + 1) h.2 i a (by simpa using hi)
      rwa [show j + 1 + i = j + (i + 1) by omega] at this
theorem allBits_spec {prk : Nat} : ∀ n, allBits prk n = true → ∀ i < n, prk.testBit i = true
  | 0, _, i, h => by omega
  | n + 1, h, i, hi => by
    unfold allBits at h
    simp only [Bool.and_eq_true] at h
    by_cases hin : i = n
    · subst hin; exact h.1
    · exact allBits_spec n h.2 i (by omega)
theorem drawGo_spec {ops : Array Oper} {L : List OC} {pr : List Nat} : ∀ (r : List OC) (k : Nat), drawGo ops L pr k r = true → ∀ (i : Nat) b, r[i]? = some b →
    (∀ (j : Nat) a, j < k + i → L[j]? = some a → (pr.getD (k + i) 0).testBit j = true ∨ indep ops a b = true) ∧
    (njOk b = true ∨ ((∀ j < k + i, (pr.getD (k + i) 0).testBit j = true) ∧ ∀ q, i < q → q < r.length → (pr.getD (k + q) 0).testBit (k + i) = true))
  | [], _, _, i, _, h => by simp at h
  | c :: r, k, h, i, b, hi => by
    unfold drawGo at h
    simp only [Bool.and_eq_true, Bool.or_eq_true] at h
    obtain ⟨⟨h1, h2⟩, h3⟩ := h
    cases i with
    | zero =>
      simp at hi
      subst hi
      refine ⟨fun j a hj ha => ?_, h2.imp id fun h2 => ⟨fun j hj => allBits_spec k h2.1 j hj, fun q hq hql => ?_⟩⟩
      · have := pairOk_spec (L.take k) 0 h1 j a (by rw [List.getElem?_take, if_pos (by omega)]; exact ha)
        rwa [Nat.zero_add] at this
      · have hlt : q - 1 < r.length := by simp at hql; omega
        have hm : (r[q - 1], k + q) ∈ r.zipIdx (k + 1) := by
          refine List.mem_of_getElem? (i := q - 1) ?_
          rw [List.getElem?_zipIdx, List.getElem?_eq_getElem hlt]
          simp
          omega
        have := List.all_eq_true.1 h2.2 _ hm
        simpa using this
    | succ i =>
      have := drawGo_spec r (k + 1) h3 i b (by simpa using hi)
      rw [show k + 1 + i = k + (i + 1) by omega] at this
      refine ⟨this.1, this.2.imp id fun h => ⟨h.1, fun q hq hql => ?_⟩⟩
      have := h.2 (q - 1) (by omega) (by simp at hql; omega)
      rwa [show k + 1 + (q - 1) = k + q by omega] at this

/-- those of a list that are marked, in order -/
def sel (f : Nat → Bool) : Nat → List OC → List OC
  | _, [] => []
  | k, p :: r => bif f k then p :: sel f (k + 1) r else sel f (k + 1) r
theorem sel_app (f : Nat → Bool) : ∀ (A B : List OC) (k : Nat), sel f k (A ++ B) = sel f k A ++ sel f (k + A.length) B
  | [], B, k => by simp [sel]
  | p :: A, B, k => by
    have ih := sel_app f A B (k + 1)
    rw [show k + 1 + A.length = k + (A.length + 1) by omega] at ih
    simp only [List.cons_append, sel, List.length_cons]
    cases f k
    · rw [cond_false, cond_false, ih]
    · rw [cond_true, cond_true, ih]; rfl
theorem sel_mem {f : Nat → Bool} : ∀ {A : List OC} {k : Nat} {p : OC}, p ∈ sel f k A → ∃ i, A[i]? = some p ∧ f (k + i) = true
  | [], _, _, h => by cases h
  | q :: A, k, p, h => by
    unfold sel at h
    cases hf : f k with
    | false =>
      rw [hf, cond_false] at h
      obtain ⟨i, h1, h2⟩ := sel_mem h
      exact ⟨i + 1, by simpa using h1, by rwa [show k + (i + 1) = k + 1 + i by omega]⟩
    | true =>
      rw [hf, cond_true] at h
      cases h with
      | head => exact ⟨0, rfl, hf⟩
      | tail _ h =>
        obtain ⟨i, h1, h2⟩ := sel_mem h
        exact ⟨i + 1, by simpa using h1, by rwa [show k + (i + 1) = k + 1 + i by omega]⟩
theorem sel_sub {f : Nat → Bool} {A : List OC} {k : Nat} : ∀ p ∈ sel f k A, p ∈ A := fun p h => by
  obtain ⟨i, h1, _⟩ := sel_mem h
  exact List.mem_of_getElem? h1
theorem sel_congr {f f' : Nat → Bool} : ∀ {A : List OC} {k : Nat}, (∀ i < A.length, f (k + i) = f' (k + i)) → sel f k A = sel f' k A
  | [], _, _ => rfl
  | p :: A, k, h => by
    have h0 := h 0 (by simp)
    have ih := sel_congr (f := f) (f' := f') (A := A) (k := k + 1) fun i hi => by
      have := h (i + 1) (by simpa using hi)
      rwa [show k + (i + 1) = k + 1 + i by omega] at this
    unfold sel
    rw [Nat.add_zero] at h0
    rw [h0, ih]
theorem sel_all {f : Nat → Bool} : ∀ {A : List OC} {k : Nat}, (∀ i < A.length, f (k + i) = true) → sel f k A = A
  | [], _, _ => rfl
  | p :: A, k, h => by
    have h0 := h 0 (by simp)
    rw [Nat.add_zero] at h0
    unfold sel
    rw [h0, cond_true, sel_all fun i hi => by
      have := h (i + 1) (by simpa using hi)
      rwa [show k + (i + 1) = k + 1 + i by omega] at this]
theorem sel_none {f : Nat → Bool} : ∀ {A : List OC} {k : Nat}, (∀ i < A.length, f (k + i) = false) → sel f k A = []
  | [], _, _ => rfl
  | p :: A, k, h => by
    have h0 := h 0 (by simp)
    rw [Nat.add_zero] at h0
    unfold sel
    rw [h0, cond_false, sel_none fun i hi => by
      have := h (i + 1) (by simpa using hi)
      rwa [show k + (i + 1) = k + 1 + i by omega] at this]

/-- What an operation finds when its predecessors and some that do not stand in its way have been carried out. -/
theorem One.found {P : Program} {C : Ctx} {ops : Array Oper} {p : OC} {A A' B : List OC} {st : Slots × Mem} (h : One P C ops p (runC A st)) (hnj : njOk p = true) (f : Nat → Bool) (hA : A' = sel f 0 A)
    (hsk : ∀ (i : Nat) a, A[i]? = some a → f i = false → indep ops a p = true) (hB : ∀ b ∈ B, indep ops p b = true) : One P C ops p (runC B (runC A' st)) := by
  subst hA
  rw [← run_app]
  unfold njOk at hnj
  simp only [Bool.and_eq_true] at hnj
  have hBh : ∀ b ∈ B, Half ops b p := fun b hb => by
    have := hB b hb
    unfold indep at this
    simp only [Bool.and_eq_true] at this
    exact half_spec this.2
  have hskh : ∀ (i : Nat) a, A[i]? = some a → f i = false → Half ops a p := fun i a hi hf => by
    have := hsk i a hi hf
    unfold indep at this
    simp only [Bool.and_eq_true] at this
    exact half_spec this.1
  -- reading a slot
  have slot : ∀ t ∈ rdOf ops p, ∀ v, njA v = true → (∀ b ∈ B, nrA b.2.X v = true) → lk (runC A st).1 t = some v → lk (runC (sel f 0 A ++ B) st).1 t = some v := fun t ht v hv hvB hl => by
    have hBt : ∀ b ∈ B, b.1.dst ≠ some t ∧ nrA b.2.X v = true := fun b hb => ⟨fun hd => (hBh b hb).rd t hd ht, hvB b hb⟩
    rcases slot_from hv A st hl with ⟨A1, q, B1, rfl, h1, h2, h3⟩ | ⟨h1, h2⟩
    · have hf : f A1.length = true := by
        cases hf : f A1.length with
        | true => rfl
        | false => exact absurd ht ((hskh A1.length q (by simp) hf).rd t h1)
      rw [sel_app]
      simp only [sel, Nat.zero_add, hf, cond_true]
      rw [List.append_assoc, run_app, List.cons_append]
      refine slot_to _ (stepC q _) (by rw [lk_stepS, if_pos h1, h2]) fun b hb => ?_
      rcases List.mem_append.1 hb with hb | hb
      · exact h3 b (sel_sub b hb)
      · exact hBt b hb
    · refine slot_to _ st h1 fun b hb => ?_
      rcases List.mem_append.1 hb with hb | hb
      · exact h2 b (sel_sub b hb)
      · exact hBt b hb
  refine h.of (fun t ht v hl => ?_) fun q hq hl => ?_
  · -- v is an input, or a guard's bool
    unfold One at h
    unfold rdOf at ht
    have hgd : ∀ b, GuardIs ops (runC A st).1 p.1 b → t ∈ (match p.1.guard with | some (j, _) => ((ops[j]?).bind (·.dst)).toList | none => []) → njA v = true ∧ ∀ X, nrA X v = true := fun b hb ht => by
      unfold GuardIs at hb
      split at hb
      · rename_i hg; rw [hg] at ht; cases ht
      · rename_i j want hg
        rw [hg] at ht
        obtain ⟨d, k1, ⟨c, k2, _⟩ | ⟨k2, _⟩⟩ := hb
        · simp only [k1, Option.toList_some, List.mem_singleton] at ht
          subst ht
          rw [k2] at hl
          injection hl with hl
          subst hl
          exact ⟨rfl, fun _ => rfl⟩
        · simp only [k1, Option.toList_some, List.mem_singleton] at ht
          subst ht
          rw [k2] at hl
          injection hl with hl
          subst hl
          exact ⟨rfl, fun _ => rfl⟩
    rcases List.mem_append.1 ht with hti | htg
    · split at h
      · obtain ⟨x, hx, hxt⟩ := List.mem_filterMap.1 hti
        obtain ⟨xo, xv⟩ := x
        cases xo with
        | tmp t' =>
          injection hxt with hxt
          subst hxt
          have hev : ∀ ins : List (Operand × AV), EvL (runC A st).1 ins → (Operand.tmp t', xv) ∈ ins → lk (runC A st).1 t' = some xv := by
            intro ins
            induction ins with
            | nil => intro _ hm; cases hm
            | cons y r ih =>
              intro he hm
              obtain ⟨yo, yv⟩ := y
              cases hm with
              | head => exact he.1
              | tail _ hm => exact ih he.2 hm
          have := hev _ h.2.1 hx
          rw [this] at hl
          injection hl with hl
          subst hl
          exact slot t' (List.mem_append_left _ hti) xv (List.all_eq_true.1 hnj.1 _ hx) (fun b hb => (hBh b hb).ins _ hx) this
        | _ => cases hxt
      · obtain ⟨_, _, _, _, _, h6, _⟩ := h
        rw [h6] at hti
        cases hti
    · have hg : ∃ b, GuardIs ops (runC A st).1 p.1 b := by
        split at h
        · exact ⟨true, h.2.2.2.1⟩
        · exact ⟨false, h.1⟩
      obtain ⟨b, hb⟩ := hg
      obtain ⟨h1, h2⟩ := hgd b hb htg
      exact slot t (List.mem_append_right _ htg) v h1 (fun b _ => h2 _) hl
  · have hqj := List.all_eq_true.1 hnj.2 q hq
    have hqn : q.1 ∈ nmOf p := List.mem_append_left _ (List.mem_map.2 ⟨q, hq, rfl⟩)
    have hBq : ∀ b ∈ B, q.1 ∉ keys b.2.df ∧ q.1 ∉ b.2.X ∧ nrO b.2.X q.2 = true := fun b hb =>
      ⟨fun hd => (hBh b hb).nm _ (keys_wr hd) hqn, fun hx => (hBh b hb).nm _ (x_wr hx) hqn, (hBh b hb).us _ hq⟩
    rcases ob_from hqj A st hl with ⟨A1, r, B1, rfl, h1, h2⟩ | ⟨h1, h2⟩
    · have hf : f A1.length = true := by
        cases hf : f A1.length with
        | true => rfl
        | false => exact absurd hqn ((hskh A1.length r (by simp) hf).nm _ (keys_wr (lk_keys h1)))
      rw [sel_app]
      simp only [sel, Nat.zero_add, hf, cond_true]
      rw [List.append_assoc, run_app, List.cons_append]
      refine ob_to _ (stepC r _) (by rw [lk_stepM, if_pos (lk_keys h1), h1]) fun b hb => ?_
      rcases List.mem_append.1 hb with hb | hb
      · exact h2 b (sel_sub b hb)
      · exact hBq b hb
    · refine ob_to _ st h1 fun b hb => ?_
      rcases List.mem_append.1 hb with hb | hb
      · exact h2 b (sel_sub b hb)
      · exact hBq b hb
end

end Go.Fw
