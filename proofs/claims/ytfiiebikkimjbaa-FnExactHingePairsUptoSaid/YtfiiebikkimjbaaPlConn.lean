/- Plain: connectedness, cut sets: IsConnected, CutSets, IsKConnected, ConnectivityOf of the program and of the reference agree. -/
import Derived.Test.YtfiiebikkimjbaaPlPinned
set_option linter.unusedVariables false
set_option linter.unusedSimpArgs false
set_option linter.unnecessarySimpa false
open Go Go.Fw
namespace Go.Proofs.Ytfiiebikkimjbaa

theorem setId {α : Type} {l : List α} {k : Nat} {x : α} (h : l[k]? = some x) : l.set k x = l := by
  apply List.ext_getElem?
  intro i
  rw [List.getElem?_set]
  by_cases hi : k = i
  · subst hi
    have := (List.getElem?_eq_some_iff.1 h).1
    rw [if_pos rfl, if_pos this, h]
  · rw [if_neg hi]

/-! ### reaching -/
/-- one bar spreads what is seen -/
def spread (g : TGraph) (k : Nat) (S : List Bool) : List Bool := match g.Bars[k]? with
  | none => S
  | some x => bif (S[x.A.toNat]?).getD false || (S[x.B.toNat]?).getD false then (S.set x.A.toNat true).set x.B.toNat true else S
def pass (g : TGraph) (S : List Bool) : List Bool := iter (spread g) g.Bars.length S
theorem spread_len (g : TGraph) (k : Nat) (S : List Bool) : (spread g k S).length = S.length := by
  unfold spread
  cases g.Bars[k]? with
  | none => rfl
  | some x => cases h : (S[x.A.toNat]?).getD false || (S[x.B.toNat]?).getD false <;> simp [h]
theorem iter_len (g : TGraph) (S : List Bool) : ∀ n, (iter (spread g) n S).length = S.length
  | 0 => rfl
  | n + 1 => (spread_len g n _).trans (iter_len g S n)
theorem pass_len (g : TGraph) (S : List Bool) : (pass g S).length = S.length := iter_len g S _
def passes (g : TGraph) : Nat → List Bool → List Bool
  | 0, S => S
  | n + 1, S => pass g (passes g n S)
theorem passes_len (g : TGraph) (S : List Bool) : ∀ n, (passes g n S).length = S.length
  | 0 => rfl
  | n + 1 => (pass_len g _).trans (passes_len g S n)
theorem passes_fix {g : TGraph} {S : List Bool} {j : Nat} (h : pass g (passes g j S) = passes g j S) : ∀ d, passes g (j + d) S = passes g j S
  | 0 => rfl
  | d + 1 => by
    show pass g (passes g (j + d) S) = _
    rw [passes_fix h d, h]
/-- setting true never lowers the count -/
theorem count_setT {S : List Bool} {i : Nat} {b : Bool} (h : S[i]? = some b) : (S.set i true).count true = S.count true + (if b then 0 else 1) := by
  have hl := (List.getElem?_eq_some_iff.1 h).1
  have hb : S[i] = b := by
    rw [List.getElem?_eq_getElem hl] at h
    injection h
  rw [List.count_set hl, hb]
  cases b with
  | true =>
    have : 0 < S.count true := List.count_pos_iff.2 (List.mem_of_getElem? h)
    simp
    omega
  | false => simp

theorem seen_get {S : List Bool} {v : Int} {n : Int} (hS : (S.length : Int) = n) (v0 : 0 ≤ v) (v1 : v < n) : ∃ b, S[v.toNat]? = some b ∧ idx S v = some b := by
  have h : S[v.toNat]? = some (S[v.toNat]'(by omega)) := List.getElem?_eq_getElem (by omega)
  exact ⟨_, h, by unfold idx; rw [if_pos v0, h]⟩

/-- the program's pass: what it gives, and whether it has changed anything -/
theorem passI {g : TGraph} (hV : VG g) {S : List Bool} (hS : (S.length : Int) = g.Points) :
    ∃ again, loopM (m_impl_Graph_reach_L4 g) BIG (false, 0, S) = some (again, pass g S) ∧ (again = false → pass g S = S) ∧ (again = true → S.count true < (pass g S).count true) := by
  have hl := hV.len
  obtain ⟨r, hr, h1, h2, h3⟩ := loop_inv (b := m_impl_Graph_reach_L4 g) (s := (false, 0, S)) (fun k s => s.2.1 = (k : Int) ∧ s.2.2 = iter (spread g) k S ∧ (s.1 = false → s.2.2 = S) ∧ (s.1 = true → S.count true < s.2.2.count true))
    (fun r => r.2 = pass g S ∧ (r.1 = false → r.2 = S) ∧ (r.1 = true → S.count true < r.2.count true)) g.Bars.length (by omega) ⟨rfl, rfl, fun _ => rfl, fun h => by cases h⟩ (fun k s hk hs => by
      obtain ⟨again, i, T⟩ := s
      obtain ⟨hi, hT, hf, ht⟩ := hs
      simp only at hi hT hf ht
      subst hi
      have hTl : (T.length : Int) = g.Points := by rw [hT, iter_len]; exact hS
      have hx := List.getElem?_eq_getElem hk
      have a0 := hV.a0 hx
      have ab := hV.ab hx
      have bp := hV.bp hx
      obtain ⟨p, hp, hpi⟩ := seen_get hTl a0 (show g.Bars[k].A < g.Points by omega)
      obtain ⟨q, hq, hqi⟩ := seen_get hTl (show 0 ≤ g.Bars[k].B by omega) bp
      have hqi2 : idx (T.set g.Bars[k].A.toNat true) g.Bars[k].B = some q := by
        unfold idx
        rw [if_pos (show 0 ≤ g.Bars[k].B by omega), List.getElem?_set, if_neg (by omega), hq]
      have hq2 : (T.set g.Bars[k].A.toNat true)[g.Bars[k].B.toNat]? = some q := by rw [List.getElem?_set, if_neg (by omega), hq]
      have hsp : iter (spread g) (k + 1) S = bif p || q then (T.set g.Bars[k].A.toNat true).set g.Bars[k].B.toNat true else T := by
        show spread g k (iter (spread g) k S) = _
        rw [← hT]
        unfold spread
        rw [hx]
        simp only [hp, hq, Option.getD_some]
      have c1 := count_setT hp
      have c2 := count_setT hq2
      left
      unfold m_impl_Graph_reach_L4
      simp only [idx_of hx, hpi, hqi, hqi2, Option.bind_some, w64_succ (show k ≤ 1099511627776 by omega)]
      rw [decide_eq_true (by omega), cond_true]
      cases p <;> cases q
      · exact ⟨_, rfl, rfl, by rw [hsp]; rfl, hf, ht⟩
      · refine ⟨_, rfl, rfl, by rw [hsp]; rfl, (fun h => by cases h), fun _ => ?_⟩
        have hTS : S.count true ≤ T.count true := by
          cases again with
          | false => rw [hf rfl]; exact Nat.le_refl _
          | true => exact Nat.le_of_lt (ht rfl)
        simp only [Bool.false_eq_true, if_false, if_true] at c1 c2
        show S.count true < ((T.set g.Bars[k].A.toNat true).set g.Bars[k].B.toNat true).count true
        omega
      · refine ⟨_, rfl, rfl, by rw [hsp]; rfl, (fun h => by cases h), fun _ => ?_⟩
        have hTS : S.count true ≤ T.count true := by
          cases again with
          | false => rw [hf rfl]; exact Nat.le_refl _
          | true => exact Nat.le_of_lt (ht rfl)
        simp only [Bool.false_eq_true, if_false, if_true] at c1 c2
        show S.count true < ((T.set g.Bars[k].A.toNat true).set g.Bars[k].B.toNat true).count true
        omega
      · refine ⟨_, rfl, rfl, ?_, hf, ht⟩
        rw [hsp]
        show T = (T.set g.Bars[k].A.toNat true).set g.Bars[k].B.toNat true
        rw [setId hq2, setId hp]) (fun s hs => by
      obtain ⟨again, i, T⟩ := s
      obtain ⟨hi, hT, hf, ht⟩ := hs
      simp only at hi hT hf ht
      subst hi
      refine ⟨(again, T), by simp [m_impl_Graph_reach_L4], hT, hf, ht⟩)
  obtain ⟨again, T⟩ := r
  simp only at h1 h2 h3
  subst h1
  exact ⟨again, hr, h2, h3⟩
/-- the reference's pass -/
theorem passS {g : TGraph} (hV : VG g) {S : List Bool} (hS : (S.length : Int) = g.Points) (s11 : Int × List Bool) : loopM (m_spec_ReachOf_L4 g s11) BIG (0, S) = some (s11.1, pass g S) := by
  have hl := hV.len
  have := fold_loop (b := m_spec_ReachOf_L4 g s11) (s := (0, S)) (fun k (T : List Bool) => ((k : Int), T)) (spread g) (fun k T => T.length = S.length) (fun T => (s11.1, T)) g.Bars.length S (by omega) rfl rfl (fun k T hk hT => by
    have hTl : (T.length : Int) = g.Points := by rw [hT]; exact hS
    have hx := List.getElem?_eq_getElem hk
    have a0 := hV.a0 hx
    have ab := hV.ab hx
    have bp := hV.bp hx
    obtain ⟨p, hp, hpi⟩ := seen_get hTl a0 (show g.Bars[k].A < g.Points by omega)
    obtain ⟨q, hq, hqi⟩ := seen_get hTl (show 0 ≤ g.Bars[k].B by omega) bp
    have hqi2 : idx (T.set g.Bars[k].A.toNat true) g.Bars[k].B = some q := by
      unfold idx
      rw [if_pos (show 0 ≤ g.Bars[k].B by omega), List.getElem?_set, if_neg (by omega), hq]
    refine ⟨?_, (spread_len g k T).trans hT⟩
    unfold m_spec_ReachOf_L4 spread
    rw [hx]
    simp only [idx_of hx, hpi, hqi, hqi2, hp, hq, Option.getD_some, Option.bind_some, w64_succ (show k ≤ 1099511627776 by omega)]
    rw [decide_eq_true (by omega), cond_true]
    cases p <;> cases q <;> rfl) (fun T _ => by simp [m_spec_ReachOf_L4])
  exact this.1
def start0 (g : TGraph) (v : Nat) : List Bool := (List.replicate g.Points.toNat false).set v true
theorem start0_len {g : TGraph} (hV : VG g) (v : Nat) : ((start0 g v).length : Int) = g.Points := by
  have := hV.p1
  unfold start0
  simp
  omega
/-- what is reached from v -/
def reached (g : TGraph) (v : Nat) : List Bool := passes g g.Points.toNat (start0 g v)
theorem reached_len {g : TGraph} (hV : VG g) (v : Nat) : ((reached g v).length : Int) = g.Points := by
  unfold reached
  rw [passes_len]
  exact start0_len hV v
theorem reachI {g : TGraph} (hV : VG g) {v : Nat} (hv : (v : Int) < g.Points) : m_impl_Graph_reach g (v : Int) = some (reached g v) := by
  have h1 := hV.p1
  have h8 := hV.p8
  have hsl := start0_len hV v
  have hc0 : (start0 g v).count true = 1 := by
    unfold start0
    rw [List.count_set (by simp; omega), List.getElem_replicate]
    simp [List.count_replicate]
  obtain ⟨r, hr, hq⟩ := loop_inv (b := m_impl_Graph_reach_L3 g) (s := (true, start0 g v)) (fun j s => s.2 = passes g j (start0 g v) ∧ (s.1 = true → j + 1 ≤ (passes g j (start0 g v)).count true) ∧ (s.1 = false → pass g s.2 = s.2 ∧ j ≤ g.Points.toNat))
    (fun r => r = reached g v) (g.Points.toNat + 1) (by omega) ⟨rfl, fun _ => by show 0 + 1 ≤ (start0 g v).count true; omega, fun h => by cases h⟩ (fun j s hj hs => by
      obtain ⟨again, S⟩ := s
      obtain ⟨hS, ht, hf⟩ := hs
      simp only at hS ht hf
      have hSl : (S.length : Int) = g.Points := by rw [hS, passes_len]; exact hsl
      cases again with
      | false =>
        right
        refine ⟨S, by simp [m_impl_Graph_reach_L3], ?_⟩
        obtain ⟨hfix, hjp⟩ := hf rfl
        unfold reached
        obtain ⟨d, hd⟩ : ∃ d, g.Points.toNat = j + d := ⟨g.Points.toNat - j, by omega⟩
        rw [hd, passes_fix (by rw [← hS]; exact hfix), ← hS]
      | true =>
        left
        obtain ⟨again', e1, e2, e3⟩ := passI hV hSl
        have hcl := List.count_le_length (a := true) (l := S)
        have hjc := ht rfl
        rw [← hS] at hjc
        refine ⟨(again', pass g S), ?_, ?_, fun h => ?_, fun h => ?_⟩
        · unfold m_impl_Graph_reach_L3
          rw [cond_true, e1]
          rfl
        · show pass g S = pass g (passes g j (start0 g v))
          rw [hS]
        · have := e3 h
          show j + 1 + 1 ≤ (pass g (passes g j (start0 g v))).count true
          rw [← hS]
          omega
        · refine ⟨?_, by omega⟩
          show pass g (pass g S) = pass g S
          rw [e2 h]
          exact e2 h) (fun s hs => by
      obtain ⟨again, S⟩ := s
      obtain ⟨hS, ht, hf⟩ := hs
      simp only at hS ht hf
      have hSl : (S.length : Int) = g.Points := by rw [hS, passes_len]; exact hsl
      have hcl := List.count_le_length (a := true) (l := S)
      cases again with
      | false => have := (hf rfl).2; omega
      | true =>
        have := ht rfl
        rw [← hS] at this
        omega)
  have hi : idx (List.replicate g.Points.toNat false) (v : Int) = some false := idx_of (by rw [List.getElem?_replicate, if_pos (by omega)])
  unfold m_impl_Graph_reach
  rw [lenOk_ok (by omega) (by omega), hi]
  simp only [Option.bind_some, Int.toNat_natCast]
  change (loopM (m_impl_Graph_reach_L3 g) BIG (true, start0 g v)).bind _ = _
  rw [hr, hq]
  rfl
theorem reachS {g : TGraph} (hV : VG g) (v : Nat) : loopM (m_spec_ReachOf_L3 g) BIG (0, start0 g v) = some (reached g v) := by
  have h1 := hV.p1
  have h8 := hV.p8
  refine loopM_run (fun n => ((n : Int), passes g n (start0 g v))) g.Points.toNat (by omega) rfl (fun n hn => ?_) ?_
  · unfold m_spec_ReachOf_L3
    simp only [passS hV (S := passes g n (start0 g v)) (by rw [passes_len]; exact start0_len hV v), Option.bind_some, w64_succ (show n ≤ 1099511627776 by omega)]
    rw [decide_eq_true (by omega), cond_true]
    rfl
  · unfold m_spec_ReachOf_L3
    simp only
    rw [decide_eq_false (by omega)]
    rfl
def listed (S : List Bool) : List Int := pieces (fun k => bif (S[k]?).getD false then [(k : Int)] else []) S.length
theorem reachOfI {g : TGraph} (hv : vG g = true) {v : Nat} (hvp : (v : Int) < g.Points) : m_impl_ReachOf g (v : Int) = some (listed (reached g v)) := by
  have hV := vG_VG hv
  have h8 := hV.p8
  have hlen := reached_len hV v
  unfold m_impl_ReachOf
  rw [isGraphI_eq g hV.sm, hv, has_eq hV, decide_eq_true (show (0 : Int) ≤ (v : Int) by omega), decide_eq_true hvp]
  simp only [Option.bind_some, Bool.not_true, Bool.and_self, cond_false, reachI hV hvp]
  have := app_loop (b := m_impl_ReachOf_L1 (reached g v)) (s := (0, [])) (fun n out => ((n : Int), out)) (fun k => bif ((reached g v)[k]?).getD false then [(k : Int)] else []) id 1 (reached g v).length [] (by omega) rfl (fun k _ => by cases ((reached g v)[k]?).getD false <;> simp) (fun k out hk ho => by
    have hx := List.getElem?_eq_getElem hk
    simp only [List.length_nil, Nat.zero_add, Nat.one_mul] at ho
    unfold m_impl_ReachOf_L1
    simp only [idx_of hx, hx, Option.getD_some, Option.bind_some, w64_succ (show k ≤ 1099511627776 by omega), lim_ok (show out.length + ([(k : Int)] : List Int).length ≤ 2147483648 by simp; omega)]
    rw [decide_eq_true (by omega), cond_true]
    cases (reached g v)[k] <;> simp) (fun out => by simp [m_impl_ReachOf_L1])
  rw [this]
  rfl
theorem reachOfS {g : TGraph} (hv : vG g = true) {v : Nat} (hvp : (v : Int) < g.Points) : m_spec_ReachOf g (v : Int) = some (listed (reached g v)) := by
  have hV := vG_VG hv
  have h1 := hV.p1
  have h8 := hV.p8
  have hlen := reached_len hV v
  have hi : idx (List.replicate g.Points.toNat false) (v : Int) = some false := idx_of (by rw [List.getElem?_replicate, if_pos (by omega)])
  unfold m_spec_ReachOf
  rw [isGraphS_eq g hV.sm, hv, decide_eq_false (show ¬ (v : Int) < 0 by omega), decide_eq_false (show ¬ g.Points ≤ (v : Int) by omega), lenOk_ok (by omega) (by omega), hi]
  simp only [Option.bind_some, Bool.not_true, cond_false, Int.toNat_natCast]
  change (loopM (m_spec_ReachOf_L3 g) BIG (0, start0 g v)).bind _ = _
  rw [reachS hV v, Option.bind_some]
  have hP : g.Points.toNat = (reached g v).length := by omega
  have := app_loop (b := m_spec_ReachOf_L5 g (reached g v)) (s := (0, [])) (fun n out => ((n : Int), out)) (fun k => bif ((reached g v)[k]?).getD false then [(k : Int)] else []) id 1 (reached g v).length [] (by omega) rfl (fun k _ => by cases ((reached g v)[k]?).getD false <;> simp) (fun k out hk ho => by
    have hx := List.getElem?_eq_getElem hk
    simp only [List.length_nil, Nat.zero_add, Nat.one_mul] at ho
    unfold m_spec_ReachOf_L5
    simp only [idx_of hx, hx, Option.getD_some, Option.bind_some, w64_succ (show k ≤ 1099511627776 by omega), lim_ok (show out.length + ([(k : Int)] : List Int).length ≤ 2147483648 by simp; omega)]
    rw [decide_eq_true (by omega), cond_true]
    cases (reached g v)[k] <;> simp) (fun out => by
    unfold m_spec_ReachOf_L5
    simp only
    rw [decide_eq_false (by omega)]
    rfl)
  rw [this]
  rfl
def conn (g : TGraph) : Bool := vG g && ((listed (reached g 0)).length : Int) == g.Points
theorem connI_eq (g : TGraph) (h : SM g.Bars.length) : m_impl_IsConnected g = some (conn g) := by
  unfold m_impl_IsConnected conn
  rw [isGraphI_eq g h]
  cases hv : vG g
  · rfl
  · have := reachOfI hv (v := 0) (by have := (vG_VG hv).p1; omega)
    simp only [Option.bind_some, cond_true, Bool.true_and]
    rw [show (0 : Int) = ((0 : Nat) : Int) from rfl, this]
    rfl
theorem connS_eq (g : TGraph) (h : SM g.Bars.length) : m_spec_IsConnected g = some (conn g) := by
  unfold m_spec_IsConnected conn
  rw [isGraphS_eq g h]
  cases hv : vG g
  · rfl
  · have := reachOfS hv (v := 0) (by have := (vG_VG hv).p1; omega)
    simp only [Option.bind_some, cond_true, Bool.true_and]
    rw [show (0 : Int) = ((0 : Nat) : Int) from rfl, this]
    rfl

/-! ### sets of a mask -/
def bitOf (mask : Int) (k : Nat) : Bool := (bits .and .i64 (shrI mask (k : Int)) 1) == 1
def maskSet (mask : Int) (n : Nat) : List Int := pieces (fun k => bif bitOf mask k then [(k : Int)] else []) n
theorem maskSet_len (mask : Int) (n : Nat) : (maskSet mask n).length ≤ n := by
  have := pieces_len (f := fun k => bif bitOf mask k then [(k : Int)] else []) (c := 1) n (fun k _ => by cases bitOf mask k <;> simp)
  unfold maskSet
  omega
theorem nn_ok {n : Int} (h : 0 ≤ n) : nn n = some () := by unfold nn; rw [if_pos h]
theorem setOf_eq (mask : Int) {n : Int} (h0 : 0 ≤ n) (h : n ≤ 1000) : m_impl_setOf mask n = some (maskSet mask n.toNat) := by
  have := app_loop (b := m_impl_setOf_L1 mask n) (s := (0, [])) (fun k out => ((k : Int), out)) (fun k => bif bitOf mask k then [(k : Int)] else []) id 1 n.toNat [] (by omega) rfl (fun k _ => by cases bitOf mask k <;> simp) (fun k out hk ho => by
    simp only [List.length_nil, Nat.zero_add, Nat.one_mul] at ho
    unfold m_impl_setOf_L1 bitOf
    simp only [nn_ok (show (0 : Int) ≤ (k : Int) by omega), Option.bind_some, w64_succ (show k ≤ 1099511627776 by omega), lim_ok (show out.length + ([(k : Int)] : List Int).length ≤ 2147483648 by simp; omega)]
    rw [decide_eq_true (by omega), cond_true]
    cases (bits .and .i64 (shrI mask (k : Int)) 1) == 1 <;> simp) (fun out => by
    unfold m_impl_setOf_L1
    simp only
    rw [decide_eq_false (by omega)]
    rfl)
  unfold m_impl_setOf
  rw [this]
  rfl
theorem l3Set_eq (mask : Int) {n : Int} (h0 : 0 ≤ n) (h : n ≤ 1000) : m_spec_l3Set n mask = some (maskSet mask n.toNat) := by
  have := app_loop (b := m_spec_l3Set_L1 n mask) (s := (0, [])) (fun k out => ((k : Int), out)) (fun k => bif bitOf mask k then [(k : Int)] else []) id 1 n.toNat [] (by omega) rfl (fun k _ => by cases bitOf mask k <;> simp) (fun k out hk ho => by
    simp only [List.length_nil, Nat.zero_add, Nat.one_mul] at ho
    unfold m_spec_l3Set_L1 bitOf
    simp only [nn_ok (show (0 : Int) ≤ (k : Int) by omega), Option.bind_some, w64_succ (show k ≤ 1099511627776 by omega), lim_ok (show out.length + ([(k : Int)] : List Int).length ≤ 2147483648 by simp; omega)]
    rw [decide_eq_true (by omega), cond_true]
    cases (bits .and .i64 (shrI mask (k : Int)) 1) == 1 <;> simp) (fun out => by
    unfold m_spec_l3Set_L1
    simp only
    rw [decide_eq_false (by omega)]
    rfl)
  unfold m_spec_l3Set
  rw [this]
  rfl
theorem hasI_mask (mask : Int) (i : Nat) : ∀ n, hasI (maskSet mask n) (i : Int) = (decide (i < n) && bitOf mask i)
  | 0 => by simp [maskSet, pieces, hasI]
  | n + 1 => by
    have ih := hasI_mask mask i n
    unfold hasI maskSet at ih ⊢
    show ((pieces (fun k => bif bitOf mask k then [(k : Int)] else []) n) ++ (bif bitOf mask n then [(n : Int)] else [])).any (· == (i : Int)) = _
    rw [List.any_append, ih]
    by_cases hin : i = n
    · subst hin
      rw [decide_eq_false (Nat.lt_irrefl i), decide_eq_true (Nat.lt_succ_self i)]
      cases bitOf mask i <;> simp
    · have h1 : decide (i < n + 1) = decide (i < n) := by rw [decide_eq_decide]; omega
      rw [h1]
      have h2 : ((bif bitOf mask n then [(n : Int)] else []) : List Int).any (· == (i : Int)) = false := by
        cases bitOf mask n
        · rfl
        · simp
          omega
      rw [h2, Bool.or_false]
theorem names_mask (mask : Int) (N : Nat) : ∀ n, n ≤ N → (names (maskSet mask N) n).2 + (maskSet mask n).length = n
  | 0, _ => rfl
  | n + 1, h => by
    have ih := names_mask mask N n (by omega)
    have e : names (maskSet mask N) (n + 1) = nameStep (maskSet mask N) n (names (maskSet mask N) n) := rfl
    have e2 : maskSet mask (n + 1) = maskSet mask n ++ (bif bitOf mask n then [(n : Int)] else []) := rfl
    rw [e, e2, List.length_append]
    unfold nameStep
    rw [hasI_mask, decide_eq_true (show n < N by omega), Bool.true_and]
    cases bitOf mask n
    · simp only [cond_false, List.length_nil]
      omega
    · simp only [cond_true, List.length_singleton]
      omega

/-! ### cut sets -/
def isCut (g : TGraph) (k : Int) (mask : Nat) : Bool := (((maskSet (mask : Int) g.Points.toNat).length : Int) == k) && (decide (2 ≤ g.Points - k) && !conn (wo g (maskSet (mask : Int) g.Points.toNat)))
def cuts (g : TGraph) (k : Int) : List (List Int) := bif vG g && (decide (0 ≤ k) && decide (k ≤ 3)) then pieces (fun mask => bif isCut g k mask then [maskSet (mask : Int) g.Points.toNat] else []) (2 ^ g.Points.toNat) else []
theorem shl_pow {P : Int} (h1 : 1 ≤ P) (h8 : P ≤ 8) : shlI 1 P = ((2 ^ P.toNat : Nat) : Int) ∧ 2 ^ P.toNat ≤ 256 := by
  have : P = 1 ∨ P = 2 ∨ P = 3 ∨ P = 4 ∨ P = 5 ∨ P = 6 ∨ P = 7 ∨ P = 8 := by omega
  rcases this with h | h | h | h | h | h | h | h <;> subst h <;> exact ⟨rfl, by decide⟩
theorem wo_points {g : TGraph} (hV : VG g) (mask : Int) : (wo g (maskSet mask g.Points.toNat)).Points = g.Points - ((maskSet mask g.Points.toNat).length : Int) := by
  have hc := cnt8_VG hV
  have hcn : cnt8 g.Points = g.Points.toNat := by omega
  have := names_mask mask g.Points.toNat g.Points.toNat (Nat.le_refl _)
  unfold wo
  simp only [hcn]
  have := hV.p1
  omega
theorem wo_sm {g : TGraph} (hV : VG g) (set : List Int) : SM (wo g set).Bars.length := by
  unfold wo
  cases vG g
  · exact Nat.zero_le _
  · have := barsN_len g (names set (cnt8 g.Points)).1
    have := hV.len
    show SM (barsN g _).length
    omega
theorem cutsI_eq (g : TGraph) (h : SM g.Bars.length) (k : Int) : m_impl_CutSets g k = some (cuts g k) := by
  unfold m_impl_CutSets cuts
  rw [isGraphI_eq g h, within_eq]
  cases hv : vG g
  · rfl
  · cases hk : decide (0 ≤ k) && decide (k ≤ 3)
    · rfl
    · have hV := vG_VG hv
      have h1 := hV.p1
      have h8 := hV.p8
      obtain ⟨e1, e2⟩ := shl_pow h1 h8
      simp only [Bool.and_eq_true, decide_eq_true_eq] at hk
      have := app_loop (b := m_impl_CutSets_L1 g k) (s := (0, [])) (fun n out => ((n : Int), out)) (fun mask => bif isCut g k mask then [maskSet (mask : Int) g.Points.toNat] else []) id 1 (2 ^ g.Points.toNat) [] (by omega) rfl (fun m _ => by cases isCut g k m <;> simp) (fun m out hm ho => by
        have hsl := maskSet_len (m : Int) g.Points.toNat
        simp only [List.length_nil, Nat.zero_add, Nat.one_mul] at ho
        unfold m_impl_CutSets_L1 isCut
        simp only [e1, setOf_eq (m : Int) (show 0 ≤ g.Points by omega) (by omega), withoutI_eq g _ h (show SM (maskSet (m : Int) g.Points.toNat).length by omega), connI_eq _ (wo_sm hV _), wo_points hV, Option.bind_some, w64_succ (show m ≤ 1099511627776 by omega), lim_ok (show out.length + [maskSet (m : Int) g.Points.toNat].length ≤ 2147483648 by simp; omega), lim_ok (show out.length + 1 ≤ 2147483648 by omega)]
        rw [decide_eq_true (by omega), cond_true]
        by_cases hkl : ((maskSet (m : Int) g.Points.toNat).length : Int) = k
        · rw [show (((maskSet (m : Int) g.Points.toNat).length : Int) != k) = false by simp [hkl], show (((maskSet (m : Int) g.Points.toNat).length : Int) == k) = true by simp [hkl], hkl]
          cases decide (2 ≤ g.Points - k)
          · simp
          · cases conn (wo g (maskSet (m : Int) g.Points.toNat)) <;> simp
        · rw [show (((maskSet (m : Int) g.Points.toNat).length : Int) != k) = true by simp [hkl], show (((maskSet (m : Int) g.Points.toNat).length : Int) == k) = false by simp [hkl]]
          simp) (fun out => by
        unfold m_impl_CutSets_L1
        simp only [e1]
        rw [decide_eq_false (by omega)]
        rfl)
      simp only [Option.bind_some, Bool.not_true, cond_false, nn_ok (show 0 ≤ g.Points by omega), this]
      rfl
theorem cutsS_eq (g : TGraph) (h : SM g.Bars.length) (k : Int) : m_spec_CutSets g k = some (cuts g k) := by
  unfold m_spec_CutSets cuts
  rw [isGraphS_eq g h, l1In_eq]
  cases hv : vG g
  · rfl
  · cases hk : decide (0 ≤ k) && decide (k ≤ 3)
    · rfl
    · have hV := vG_VG hv
      have h1 := hV.p1
      have h8 := hV.p8
      obtain ⟨e1, e2⟩ := shl_pow h1 h8
      simp only [Bool.and_eq_true, decide_eq_true_eq] at hk
      have hw : w64 (g.Points - k) = g.Points - k := w64_small (by omega) (by omega)
      have := app_loop (b := m_spec_CutSets_L1 g k) (s := (0, [])) (fun n out => ((n : Int), out)) (fun mask => bif isCut g k mask then [maskSet (mask : Int) g.Points.toNat] else []) id 1 (2 ^ g.Points.toNat) [] (by omega) rfl (fun m _ => by cases isCut g k m <;> simp) (fun m out hm ho => by
        have hsl := maskSet_len (m : Int) g.Points.toNat
        simp only [List.length_nil, Nat.zero_add, Nat.one_mul] at ho
        unfold m_spec_CutSets_L1 isCut
        simp only [e1, hw, nn_ok (show 0 ≤ g.Points by omega), l3Set_eq (m : Int) (show 0 ≤ g.Points by omega) (by omega), withoutS_eq g _ h (show SM (maskSet (m : Int) g.Points.toNat).length by omega), connS_eq _ (wo_sm hV _), Option.bind_some, w64_succ (show m ≤ 1099511627776 by omega), lim_ok (show out.length + [maskSet (m : Int) g.Points.toNat].length ≤ 2147483648 by simp; omega)]
        rw [decide_eq_true (by omega), cond_true]
        cases ((maskSet (m : Int) g.Points.toNat).length : Int) == k
        · simp
        · cases decide (2 ≤ g.Points - k)
          · simp
          · cases conn (wo g (maskSet (m : Int) g.Points.toNat)) <;> simp) (fun out => by
        unfold m_spec_CutSets_L1
        simp only [e1, nn_ok (show 0 ≤ g.Points by omega), Option.bind_some]
        rw [decide_eq_false (by omega)]
        rfl)
      simp only [Option.bind_some, Bool.not_true, cond_false, this]
      rfl
theorem cuts_len (g : TGraph) (k : Int) : (cuts g k).length ≤ 256 := by
  unfold cuts
  cases hv : vG g && (decide (0 ≤ k) && decide (k ≤ 3))
  · exact Nat.zero_le _
  · simp only [Bool.and_eq_true] at hv
    have hV := vG_VG hv.1
    have := pieces_len (f := fun mask => bif isCut g k mask then [maskSet (mask : Int) g.Points.toNat] else []) (c := 1) (2 ^ g.Points.toNat) (fun m _ => by cases isCut g k m <;> simp)
    have := (shl_pow hV.p1 hV.p8).2
    simp only [cond_true]
    omega
def kconn (g : TGraph) (k : Int) : Bool := (vG g && ((decide (1 ≤ k) && decide (k ≤ 3)) && !decide (g.Points ≤ k))) && !(List.range' 0 k.toNat).any (fun i => decide (0 < ((cuts g (i : Int)).length : Int)))
def connOf (g : TGraph) : Int := bif kconn g 3 then 3 else bif kconn g 2 then 2 else bif kconn g 1 then 1 else 0
end Go.Proofs.Ytfiiebikkimjbaa
