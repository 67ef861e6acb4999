/- Plain: what the helpers of the laws give: copies, equality, marks, for all types of this part. Written by a program of mine. -/
import Derived.Test.YtfiiebikkimjbaaPlTools
import Derived.Test.YtfiiebikkimjbaaGenM
set_option linter.unusedVariables false
set_option linter.unusedSimpArgs false
set_option linter.unnecessarySimpa false
open Go Go.Fw
namespace Go.Proofs.Ytfiiebikkimjbaa
abbrev SM (n : Nat) : Prop := n ≤ 2147483648
abbrev KM (k : Int) : Prop := 0 ≤ k ∧ k ≤ 1099511627776

theorem toIntS_eq (a : List Int) (h : SM a.length) : m_laws_toIntS a = some a := by
  unfold m_laws_toIntS
  rw [lenOk_ok (by omega) (by omega), Option.bind_some, Int.toNat_natCast, copy_loop a _ (by omega) (fun k l x y hx hy => ?_) (fun l => ?_)]
  · rfl
  · have hk : k < a.length := (List.getElem?_eq_some_iff.1 hx).1
    simp only [m_laws_toIntS_L1, idx_of hx, idx_of hy, Option.bind_some, Int.toNat_natCast]
    rw [decide_eq_true (by omega)]
    rfl
  · simp [m_laws_toIntS_L1]
theorem eqIntS_refl (a : List Int) (h : SM a.length) : m_laws_eqIntS a a = some true := by
  unfold m_laws_eqIntS
  rw [count_loop a.length (by omega) (fun k hk => ?_) (by simp [m_laws_eqIntS_L1] <;> rfl)]
  · simp
  · simp only [m_laws_eqIntS_L1, idx_at hk, Option.bind_some]
    rw [decide_eq_true (by omega)]
    simp
def mkIntS (b : Int) (n : Nat) : List Int := (List.range n).map fun (i : Nat) => b + (i : Int)
theorem mkIntS_get {b : Int} {n k : Nat} (h : k < n) : (mkIntS b n)[k]? = some (b + (k : Int)) := by simp [mkIntS, h]
theorem mkIntS_len (b : Int) (n : Nat) : (mkIntS b n).length = n := by simp [mkIntS]
theorem markIntS_eq (a : List Int) (h : SM a.length) (b : Int) (hb : KM b) : m_laws_markIntS a b = some (b + (a.length : Int), mkIntS b a.length) := by
  have e : loopM m_laws_markIntS_L1 BIG (b, 0, a) = some ((b + (a.length : Int)), mkIntS b a.length) := by
    refine loopM_run (fun (k : Nat) => ((b + (k : Int)), (k : Int), mkIntS b k ++ a.drop k)) a.length (by omega) (by simp [mkIntS]) (fun k hk => ?_) (by simp [m_laws_markIntS_L1, mkIntS_len])
    have hl : (mkIntS b k ++ a.drop k).length = a.length := by simp [mkIntS_len]; omega
    have hi : idx (mkIntS b k ++ a.drop k) (k : Int) = some a[k] := by
      apply idx_of
      rw [List.getElem?_append_right (by simp [mkIntS_len]), mkIntS_len, Nat.sub_self, List.getElem?_drop, Nat.add_zero, List.getElem?_eq_getElem hk]
    have hset : ∀ x, (mkIntS b k ++ a.drop k).set k x = mkIntS b k ++ (x :: a.drop (k + 1)) := fun x => by
      rw [List.set_append_right _ _ (by simp [mkIntS_len]), mkIntS_len, Nat.sub_self, List.drop_eq_getElem_cons hk, List.set_cons_zero]
    have e1 : w64 (b + (k : Int) + 1) = b + ((k + 1 : Nat) : Int) := by rw [w64_small (by omega) (by omega)]; omega
    simp only [m_laws_markIntS_L1, hi, Option.bind_some, Int.toNat_natCast, hset, e1, w64_succ (show k ≤ 1099511627776 by omega)]
    rw [decide_eq_true (by rw [hl]; omega), cond_true]
    congr 4
    simp [mkIntS, List.range_succ]
  unfold m_laws_markIntS
  rw [e]
  rfl
theorem heldIntS_eq (n : Nat) (h : SM n) (b : Int) (hb : KM b) : m_laws_heldIntS (mkIntS b n) b = some (b + (n : Int)) := by
  have e : loopM (m_laws_heldIntS_L1 (mkIntS b n)) BIG (b, 0) = some (.inl (b + (n : Int))) := by
    refine loopM_run (fun (k : Nat) => ((b + (k : Int)), (k : Int))) n (by omega) (by simp) (fun k hk => ?_) (by simp [m_laws_heldIntS_L1, mkIntS_len])
    have e1 : w64 (b + (k : Int) + 1) = b + ((k + 1 : Nat) : Int) := by rw [w64_small (by omega) (by omega)]; omega
    simp only [m_laws_heldIntS_L1, mkIntS_len, idx_of (mkIntS_get hk), Option.bind_some, e1, w64_succ (show k ≤ 1099511627776 by omega)]
    rw [decide_eq_true (by omega)]
    simp
  unfold m_laws_heldIntS
  rw [e]
  rfl
theorem szIntS_some (a : List Int) (n : Int) : ∃ z, m_laws_szIntS a n = some z := by
  unfold m_laws_szIntS
  cases decide (w64 (n - (a.length : Int)) < 0) <;> exact ⟨_, rfl⟩

def tot : List Nat → Nat
  | [] => 0
  | n :: r => n + tot r
theorem tot_snoc (l : List Nat) (n : Nat) : tot (l ++ [n]) = tot l + n := by
  induction l with
  | nil => simp [tot]
  | cons a l ih => simp only [List.cons_append, tot, ih]; omega
theorem tot_take_le (l : List Nat) (k : Nat) : tot (l.take k) ≤ tot l := by
  induction l generalizing k with
  | nil => simp [tot]
  | cons a l ih =>
    cases k with
    | zero => simp [tot]
    | succ k => simp only [List.take_succ_cons, tot]; have := ih k; omega
def lns (a : List (List Int)) : List Nat := a.map List.length
/-- rows of rows that are small -/
structure SSok (a : List (List Int)) : Prop where
  len : a.length ≤ 1048576
  rows : ∀ r ∈ a, SM r.length
  tot : tot (lns a) ≤ 1073741824
theorem eqIntSS_refl (a : List (List Int)) (h : SSok a) : m_laws_eqIntSS a a = some true := by
  have hl := h.len
  unfold m_laws_eqIntSS
  rw [count_loop a.length (by omega) (fun k hk => ?_) (by simp [m_laws_eqIntSS_L1] <;> rfl)]
  · simp
  · simp only [m_laws_eqIntSS_L1, idx_at hk, eqIntS_refl _ (h.rows _ (List.getElem_mem hk)), Option.bind_some]
    rw [decide_eq_true (by omega)]
    simp
def mkIntSS (b : Int) : List Nat → List (List Int)
  | [] => []
  | n :: r => mkIntS b n :: mkIntSS (b + (n : Int)) r
theorem mkIntSS_len (b : Int) (ns : List Nat) : (mkIntSS b ns).length = ns.length := by
  induction ns generalizing b with
  | nil => rfl
  | cons n r ih => simp [mkIntSS, ih]
theorem mkIntSS_snoc (b : Int) (ns : List Nat) (n : Nat) : mkIntSS b (ns ++ [n]) = mkIntSS b ns ++ [mkIntS (b + (tot ns : Int)) n] := by
  induction ns generalizing b with
  | nil => simp [mkIntSS, tot]
  | cons a r ih =>
    simp only [List.cons_append, mkIntSS, ih, tot]
    rw [show b + (a : Int) + (tot r : Int) = b + ((a + tot r : Nat) : Int) by omega]
theorem mkIntSS_get {b : Int} {ns : List Nat} {k n : Nat} (h : ns[k]? = some n) : (mkIntSS b ns)[k]? = some (mkIntS (b + (tot (ns.take k) : Int)) n) := by
  induction ns generalizing b k with
  | nil => simp at h
  | cons a r ih =>
    cases k with
    | zero => simp at h; subst h; simp [mkIntSS, tot]
    | succ k =>
      simp only [List.getElem?_cons_succ] at h
      simp only [mkIntSS, List.getElem?_cons_succ, List.take_succ_cons, tot]
      rw [ih h, show b + (a : Int) + (tot (r.take k) : Int) = b + ((a + tot (r.take k) : Nat) : Int) by omega]
theorem take_get {α : Type} {l : List α} {k : Nat} (hk : k < l.length) : l.take (k + 1) = l.take k ++ [l[k]] := by
  rw [List.take_add_one, List.getElem?_eq_getElem hk]; rfl
theorem markIntSS_eq (a : List (List Int)) (h : SSok a) (b : Int) (hb : KM b) (hb2 : b ≤ 549755813888) : m_laws_markIntSS a b = some (b + (tot (lns a) : Int), mkIntSS b (lns a)) := by
  have hl := h.len
  have ht := h.tot
  have e : loopM m_laws_markIntSS_L1 BIG (b, 0, a) = some ((b + (tot (lns a) : Int)), mkIntSS b (lns a)) := by
    refine loopM_run (fun (k : Nat) => ((b + (tot ((lns a).take k) : Int)), (k : Int), mkIntSS b ((lns a).take k) ++ a.drop k)) a.length (by omega) (by simp [mkIntSS, tot]) (fun k hk => ?_) ?_
    · have hkl : k < (lns a).length := by simpa [lns] using hk
      have htl : ((lns a).take k).length = k := by rw [List.length_take]; omega
      have hl2 : (mkIntSS b ((lns a).take k) ++ a.drop k).length = a.length := by simp [mkIntSS_len, htl]; omega
      have hi : idx (mkIntSS b ((lns a).take k) ++ a.drop k) (k : Int) = some a[k] := by
        apply idx_of
        rw [List.getElem?_append_right (by simp [mkIntSS_len, htl]), mkIntSS_len, htl, Nat.sub_self, List.getElem?_drop, Nat.add_zero, List.getElem?_eq_getElem hk]
      have hset : ∀ x, (mkIntSS b ((lns a).take k) ++ a.drop k).set k x = mkIntSS b ((lns a).take k) ++ (x :: a.drop (k + 1)) := fun x => by
        rw [List.set_append_right _ _ (by simp [mkIntSS_len, htl]), mkIntSS_len, htl, Nat.sub_self, List.drop_eq_getElem_cons hk, List.set_cons_zero]
      have hle := tot_take_le (lns a) k
      have hsn : (lns a).take (k + 1) = (lns a).take k ++ [a[k].length] := by rw [take_get hkl]; simp [lns]
      simp only [m_laws_markIntSS_L1, hi, markIntS_eq a[k] (h.rows _ (List.getElem_mem hk)) (b + (tot ((lns a).take k) : Int)) ⟨by omega, by omega⟩, mkIntS_len, same_ok, Option.bind_some, Int.toNat_natCast, hset, w64_succ (show k ≤ 1099511627776 by omega)]
      rw [decide_eq_true (by rw [hl2]; omega), cond_true, hsn, tot_snoc, mkIntSS_snoc, List.append_assoc, List.singleton_append]
      congr 3
      omega
    · have hfull : (lns a).take a.length = lns a := List.take_of_length_le (by simp [lns])
      have hl2 : (mkIntSS b (lns a) ++ a.drop a.length).length = a.length := by simp [mkIntSS_len, lns]
      simp only [m_laws_markIntSS_L1, hfull]
      rw [decide_eq_false (by rw [hl2]; omega), cond_false]
      simp
  unfold m_laws_markIntSS
  rw [e]
  rfl
theorem heldIntSS_eq (a : List (List Int)) (h : SSok a) (b : Int) (hb : KM b) (hb2 : b ≤ 549755813888) : m_laws_heldIntSS (mkIntSS b (lns a)) b = some (b + (tot (lns a) : Int)) := by
  have hl := h.len
  have ht := h.tot
  have e : loopM (m_laws_heldIntSS_L1 (mkIntSS b (lns a))) BIG (b, 0) = some (.inl (b + (tot (lns a) : Int))) := by
    refine loopM_run (fun (k : Nat) => ((b + (tot ((lns a).take k) : Int)), (k : Int))) a.length (by omega) (by simp [tot]) (fun k hk => ?_) ?_
    · have hkl : k < (lns a).length := by simpa [lns] using hk
      have hg : (lns a)[k]? = some a[k].length := by simp [lns, hk]
      have hle := tot_take_le (lns a) k
      have hsn : (lns a).take (k + 1) = (lns a).take k ++ [a[k].length] := by rw [take_get hkl]; simp [lns]
      simp only [m_laws_heldIntSS_L1, idx_of (mkIntSS_get hg), heldIntS_eq a[k].length (h.rows _ (List.getElem_mem hk)) (b + (tot ((lns a).take k) : Int)) ⟨by omega, by omega⟩, Option.bind_some, w64_succ (show k ≤ 1099511627776 by omega)]
      rw [decide_eq_true (by rw [mkIntSS_len]; omega), cond_true, decide_eq_false (by omega), cond_false, hsn, tot_snoc]
      congr 3
      omega
    · have hfull : (lns a).take a.length = lns a := List.take_of_length_le (by simp [lns])
      simp only [m_laws_heldIntSS_L1, hfull]
      rw [decide_eq_false (by rw [mkIntSS_len]; simp [lns]), cond_false]
  unfold m_laws_heldIntSS
  rw [e]
  rfl
theorem lns_len (a : List (List Int)) : (lns a).length = a.length := by simp [lns]

theorem toBarS_eq (a : List TBar) (h : SM a.length) : m_laws_toBarS a = some a := by
  unfold m_laws_toBarS
  rw [lenOk_ok (by omega) (by omega), Option.bind_some, Int.toNat_natCast, copy_loop a _ (by omega) (fun k l x y hx hy => ?_) (fun l => ?_)]
  · rfl
  · have hk : k < a.length := (List.getElem?_eq_some_iff.1 hx).1
    simp only [m_laws_toBarS_L1, idx_of hx, idx_of hy, m_laws_toBar, Option.bind_some, Int.toNat_natCast]
    rw [decide_eq_true (by omega)]
    rfl
  · simp [m_laws_toBarS_L1]
theorem eqBarS_refl (a : List TBar) (h : SM a.length) : m_laws_eqBarS a a = some true := by
  unfold m_laws_eqBarS
  rw [count_loop a.length (by omega) (fun k hk => ?_) (by simp [m_laws_eqBarS_L1] <;> rfl)]
  · simp
  · simp only [m_laws_eqBarS_L1, idx_at hk, m_laws_eqBar, Option.bind_some]
    rw [decide_eq_true (by omega)]
    simp
def mkBarS (b : Int) (n : Nat) : List TBar := (List.range n).map fun (i : Nat) => ⟨b + 2 * (i : Int), b + 1 + 2 * (i : Int)⟩
theorem mkBarS_get {b : Int} {n k : Nat} (h : k < n) : (mkBarS b n)[k]? = some ⟨b + 2 * (k : Int), b + 1 + 2 * (k : Int)⟩ := by simp [mkBarS, h]
theorem mkBarS_len (b : Int) (n : Nat) : (mkBarS b n).length = n := by simp [mkBarS]
theorem markBarS_eq (a : List TBar) (h : SM a.length) (b : Int) (hb : KM b) : m_laws_markBarS a b = some (b + 2 * (a.length : Int), mkBarS b a.length) := by
  have e : loopM m_laws_markBarS_L1 BIG (b, 0, a) = some ((b + 2 * (a.length : Int)), mkBarS b a.length) := by
    refine loopM_run (fun (k : Nat) => ((b + 2 * (k : Int)), (k : Int), mkBarS b k ++ a.drop k)) a.length (by omega) (by simp [mkBarS]) (fun k hk => ?_) (by simp [m_laws_markBarS_L1, mkBarS_len])
    have hl : (mkBarS b k ++ a.drop k).length = a.length := by simp [mkBarS_len]; omega
    have hi : idx (mkBarS b k ++ a.drop k) (k : Int) = some a[k] := by
      apply idx_of
      rw [List.getElem?_append_right (by simp [mkBarS_len]), mkBarS_len, Nat.sub_self, List.getElem?_drop, Nat.add_zero, List.getElem?_eq_getElem hk]
    have hset : ∀ x, (mkBarS b k ++ a.drop k).set k x = mkBarS b k ++ (x :: a.drop (k + 1)) := fun x => by
      rw [List.set_append_right _ _ (by simp [mkBarS_len]), mkBarS_len, Nat.sub_self, List.drop_eq_getElem_cons hk, List.set_cons_zero]
    have hi2 : ∀ x : TBar, idx (mkBarS b k ++ (x :: a.drop (k + 1))) (k : Int) = some x := fun x => by
      apply idx_of
      rw [List.getElem?_append_right (by simp [mkBarS_len]), mkBarS_len, Nat.sub_self]
      rfl
    have hset2 : ∀ x y : TBar, (mkBarS b k ++ (x :: a.drop (k + 1))).set k y = mkBarS b k ++ (y :: a.drop (k + 1)) := fun x y => by
      rw [List.set_append_right _ _ (by simp [mkBarS_len]), mkBarS_len, Nat.sub_self, List.set_cons_zero]
    have e1 : w64 (b + 2 * (k : Int) + 1) = b + 1 + 2 * (k : Int) := by rw [w64_small (by omega) (by omega)]; omega
    have e2 : w64 (b + 1 + 2 * (k : Int) + 1) = b + 2 * ((k + 1 : Nat) : Int) := by rw [w64_small (by omega) (by omega)]; omega
    simp only [m_laws_markBarS_L1, hi, Option.bind_some, Int.toNat_natCast, hset, hi2, hset2, e1, e2, w64_succ (show k ≤ 1099511627776 by omega)]
    rw [decide_eq_true (by rw [hl]; omega), cond_true]
    congr 4
    simp [mkBarS, List.range_succ]
  unfold m_laws_markBarS
  rw [e]
  rfl
theorem heldBarS_eq (n : Nat) (h : SM n) (b : Int) (hb : KM b) : m_laws_heldBarS (mkBarS b n) b = some (b + 2 * (n : Int)) := by
  have e : loopM (m_laws_heldBarS_L1 (mkBarS b n)) BIG (b, 0) = some (.inl (b + 2 * (n : Int))) := by
    refine loopM_run (fun (k : Nat) => ((b + 2 * (k : Int)), (k : Int))) n (by omega) (by simp) (fun k hk => ?_) (by simp [m_laws_heldBarS_L1, mkBarS_len])
    have e1 : w64 (b + 2 * (k : Int) + 1) = b + 1 + 2 * (k : Int) := by rw [w64_small (by omega) (by omega)]; omega
    have e2 : w64 (b + 1 + 2 * (k : Int) + 1) = b + 2 * ((k + 1 : Nat) : Int) := by rw [w64_small (by omega) (by omega)]; omega
    simp only [m_laws_heldBarS_L1, mkBarS_len, idx_of (mkBarS_get hk), Option.bind_some, e1, e2, w64_succ (show k ≤ 1099511627776 by omega)]
    rw [decide_eq_true (by omega)]
    simp
  unfold m_laws_heldBarS
  rw [e]
  rfl
theorem szBarS_some (a : List TBar) (n : Int) : ∃ z, m_laws_szBarS a n = some z := by
  unfold m_laws_szBarS
  cases decide (w64 (n - (a.length : Int)) < 0) <;> exact ⟨_, rfl⟩

theorem toPlaceS_eq (a : List TPlace) (h : SM a.length) : m_laws_toPlaceS a = some a := by
  unfold m_laws_toPlaceS
  rw [lenOk_ok (by omega) (by omega), Option.bind_some, Int.toNat_natCast, copy_loop a _ (by omega) (fun k l x y hx hy => ?_) (fun l => ?_)]
  · rfl
  · have hk : k < a.length := (List.getElem?_eq_some_iff.1 hx).1
    simp only [m_laws_toPlaceS_L1, idx_of hx, idx_of hy, m_laws_toPlace, Option.bind_some, Int.toNat_natCast]
    rw [decide_eq_true (by omega)]
    rfl
  · simp [m_laws_toPlaceS_L1]
theorem eqPlaceS_refl (a : List TPlace) (h : SM a.length) : m_laws_eqPlaceS a a = some true := by
  unfold m_laws_eqPlaceS
  rw [count_loop a.length (by omega) (fun k hk => ?_) (by simp [m_laws_eqPlaceS_L1] <;> rfl)]
  · simp
  · simp only [m_laws_eqPlaceS_L1, idx_at hk, m_laws_eqPlace, Option.bind_some]
    rw [decide_eq_true (by omega)]
    simp
def mkPlaceS (b : Int) (n : Nat) : List TPlace := (List.range n).map fun (i : Nat) => ⟨b + 2 * (i : Int), b + 1 + 2 * (i : Int)⟩
theorem mkPlaceS_get {b : Int} {n k : Nat} (h : k < n) : (mkPlaceS b n)[k]? = some ⟨b + 2 * (k : Int), b + 1 + 2 * (k : Int)⟩ := by simp [mkPlaceS, h]
theorem mkPlaceS_len (b : Int) (n : Nat) : (mkPlaceS b n).length = n := by simp [mkPlaceS]
theorem markPlaceS_eq (a : List TPlace) (h : SM a.length) (b : Int) (hb : KM b) : m_laws_markPlaceS a b = some (b + 2 * (a.length : Int), mkPlaceS b a.length) := by
  have e : loopM m_laws_markPlaceS_L1 BIG (b, 0, a) = some ((b + 2 * (a.length : Int)), mkPlaceS b a.length) := by
    refine loopM_run (fun (k : Nat) => ((b + 2 * (k : Int)), (k : Int), mkPlaceS b k ++ a.drop k)) a.length (by omega) (by simp [mkPlaceS]) (fun k hk => ?_) (by simp [m_laws_markPlaceS_L1, mkPlaceS_len])
    have hl : (mkPlaceS b k ++ a.drop k).length = a.length := by simp [mkPlaceS_len]; omega
    have hi : idx (mkPlaceS b k ++ a.drop k) (k : Int) = some a[k] := by
      apply idx_of
      rw [List.getElem?_append_right (by simp [mkPlaceS_len]), mkPlaceS_len, Nat.sub_self, List.getElem?_drop, Nat.add_zero, List.getElem?_eq_getElem hk]
    have hset : ∀ x, (mkPlaceS b k ++ a.drop k).set k x = mkPlaceS b k ++ (x :: a.drop (k + 1)) := fun x => by
      rw [List.set_append_right _ _ (by simp [mkPlaceS_len]), mkPlaceS_len, Nat.sub_self, List.drop_eq_getElem_cons hk, List.set_cons_zero]
    have hi2 : ∀ x : TPlace, idx (mkPlaceS b k ++ (x :: a.drop (k + 1))) (k : Int) = some x := fun x => by
      apply idx_of
      rw [List.getElem?_append_right (by simp [mkPlaceS_len]), mkPlaceS_len, Nat.sub_self]
      rfl
    have hset2 : ∀ x y : TPlace, (mkPlaceS b k ++ (x :: a.drop (k + 1))).set k y = mkPlaceS b k ++ (y :: a.drop (k + 1)) := fun x y => by
      rw [List.set_append_right _ _ (by simp [mkPlaceS_len]), mkPlaceS_len, Nat.sub_self, List.set_cons_zero]
    have e1 : w64 (b + 2 * (k : Int) + 1) = b + 1 + 2 * (k : Int) := by rw [w64_small (by omega) (by omega)]; omega
    have e2 : w64 (b + 1 + 2 * (k : Int) + 1) = b + 2 * ((k + 1 : Nat) : Int) := by rw [w64_small (by omega) (by omega)]; omega
    simp only [m_laws_markPlaceS_L1, hi, Option.bind_some, Int.toNat_natCast, hset, hi2, hset2, e1, e2, w64_succ (show k ≤ 1099511627776 by omega)]
    rw [decide_eq_true (by rw [hl]; omega), cond_true]
    congr 4
    simp [mkPlaceS, List.range_succ]
  unfold m_laws_markPlaceS
  rw [e]
  rfl
theorem heldPlaceS_eq (n : Nat) (h : SM n) (b : Int) (hb : KM b) : m_laws_heldPlaceS (mkPlaceS b n) b = some (b + 2 * (n : Int)) := by
  have e : loopM (m_laws_heldPlaceS_L1 (mkPlaceS b n)) BIG (b, 0) = some (.inl (b + 2 * (n : Int))) := by
    refine loopM_run (fun (k : Nat) => ((b + 2 * (k : Int)), (k : Int))) n (by omega) (by simp) (fun k hk => ?_) (by simp [m_laws_heldPlaceS_L1, mkPlaceS_len])
    have e1 : w64 (b + 2 * (k : Int) + 1) = b + 1 + 2 * (k : Int) := by rw [w64_small (by omega) (by omega)]; omega
    have e2 : w64 (b + 1 + 2 * (k : Int) + 1) = b + 2 * ((k + 1 : Nat) : Int) := by rw [w64_small (by omega) (by omega)]; omega
    simp only [m_laws_heldPlaceS_L1, mkPlaceS_len, idx_of (mkPlaceS_get hk), Option.bind_some, e1, e2, w64_succ (show k ≤ 1099511627776 by omega)]
    rw [decide_eq_true (by omega)]
    simp
  unfold m_laws_heldPlaceS
  rw [e]
  rfl
theorem szPlaceS_some (a : List TPlace) (n : Int) : ∃ z, m_laws_szPlaceS a n = some z := by
  unfold m_laws_szPlaceS
  cases decide (w64 (n - (a.length : Int)) < 0) <;> exact ⟨_, rfl⟩

theorem toGraph_eq (a : TGraph) (h0 : SM a.Bars.length) : m_laws_toGraph a = some a := by
  unfold m_laws_toGraph
  simp only [toBarS_eq a.Bars h0, Option.bind_some]
theorem eqGraph_refl (a : TGraph) (h0 : SM a.Bars.length) : m_laws_eqGraph a a = some true := by
  unfold m_laws_eqGraph
  simp [eqBarS_refl a.Bars h0]
theorem szGraph_some (a : TGraph) (n : Int) : ∃ z, m_laws_szGraph a n = some z := by
  unfold m_laws_szGraph
  obtain ⟨z0, e0⟩ := szBarS_some a.Bars n
  rw [e0, Option.bind_some]
  cases decide (z0 < 0)
  rotate_left
  · exact ⟨_, rfl⟩
  simp only [cond_false]
  exact ⟨_, rfl⟩
theorem markGraph_eq (a : TGraph) (h0 : SM a.Bars.length) (b : Int) (hb : 0 ≤ b) (hb2 : b ≤ 549755813888) : m_laws_markGraph a b = some ((b + 2 * (a.Bars.length : Int)), mkBarS b a.Bars.length) := by
  unfold m_laws_markGraph
  simp only [markBarS_eq a.Bars h0 b ⟨by omega, by omega⟩, Option.bind_some]
theorem heldGraph_eq (p : Int) (n0 : Nat) (h0 : SM n0) (b : Int) (hb : 0 ≤ b) (hb2 : b ≤ 549755813888) : m_laws_heldGraph (TGraph.mk p (mkBarS b n0)) b = some (b + 2 * (n0 : Int)) := by
  unfold m_laws_heldGraph
  simp only [heldBarS_eq n0 h0 b ⟨by omega, by omega⟩, Option.bind_some]
  rw [decide_eq_false (show ¬ (b + 2 * (n0 : Int)) < 0 by omega)]
  simp only [cond_false]
theorem toFramework_eq (a : TFramework) (h0 : SM a.Graph.Bars.length) (h1 : SM a.Places.length) : m_laws_toFramework a = some a := by
  unfold m_laws_toFramework
  simp only [toGraph_eq a.Graph h0, toPlaceS_eq a.Places h1, Option.bind_some]
theorem eqFramework_refl (a : TFramework) (h0 : SM a.Graph.Bars.length) (h1 : SM a.Places.length) : m_laws_eqFramework a a = some true := by
  unfold m_laws_eqFramework
  simp [eqGraph_refl a.Graph h0, eqPlaceS_refl a.Places h1]
theorem szFramework_some (a : TFramework) (n : Int) : ∃ z, m_laws_szFramework a n = some z := by
  unfold m_laws_szFramework
  obtain ⟨z0, e0⟩ := szGraph_some a.Graph n
  rw [e0, Option.bind_some]
  cases decide (z0 < 0)
  rotate_left
  · exact ⟨_, rfl⟩
  simp only [cond_false]
  obtain ⟨z1, e1⟩ := szPlaceS_some a.Places z0
  rw [e1, Option.bind_some]
  cases decide (z1 < 0)
  rotate_left
  · exact ⟨_, rfl⟩
  simp only [cond_false]
  exact ⟨_, rfl⟩
theorem markFramework_eq (a : TFramework) (h0 : SM a.Graph.Bars.length) (h1 : SM a.Places.length) (b : Int) (hb : 0 ≤ b) (hb2 : b ≤ 274877906944) : m_laws_markFramework a b = some (((b + 2 * (a.Graph.Bars.length : Int)) + 2 * (a.Places.length : Int)), mkBarS b a.Graph.Bars.length, mkPlaceS (b + 2 * (a.Graph.Bars.length : Int)) a.Places.length) := by
  unfold m_laws_markFramework
  simp only [markGraph_eq a.Graph h0 b (by omega) (by omega), markPlaceS_eq a.Places h1 (b + 2 * (a.Graph.Bars.length : Int)) ⟨by omega, by omega⟩, Option.bind_some]
theorem heldFramework_eq (p : Int) (n0 : Nat) (n1 : Nat) (h0 : SM n0) (h1 : SM n1) (b : Int) (hb : 0 ≤ b) (hb2 : b ≤ 274877906944) : m_laws_heldFramework (TFramework.mk (TGraph.mk p (mkBarS b n0)) (mkPlaceS (b + 2 * (n0 : Int)) n1)) b = some ((b + 2 * (n0 : Int)) + 2 * (n1 : Int)) := by
  unfold m_laws_heldFramework
  simp only [heldGraph_eq p n0 h0 b (by omega) (by omega), Option.bind_some]
  rw [decide_eq_false (show ¬ (b + 2 * (n0 : Int)) < 0 by omega)]
  simp only [cond_false]
  simp only [heldPlaceS_eq n1 h1 (b + 2 * (n0 : Int)) ⟨by omega, by omega⟩, Option.bind_some]
  rw [decide_eq_false (show ¬ ((b + 2 * (n0 : Int)) + 2 * (n1 : Int)) < 0 by omega)]
  simp only [cond_false]
theorem toTensegrity_eq (a : TTensegrity) (h0 : SM a.Framework.Graph.Bars.length) (h1 : SM a.Framework.Places.length) (h2 : SM a.Kinds.length) : m_laws_toTensegrity a = some a := by
  unfold m_laws_toTensegrity
  simp only [toFramework_eq a.Framework h0 h1, toIntS_eq a.Kinds h2, Option.bind_some]
theorem eqTensegrity_refl (a : TTensegrity) (h0 : SM a.Framework.Graph.Bars.length) (h1 : SM a.Framework.Places.length) (h2 : SM a.Kinds.length) : m_laws_eqTensegrity a a = some true := by
  unfold m_laws_eqTensegrity
  simp [eqFramework_refl a.Framework h0 h1, eqIntS_refl a.Kinds h2]
theorem szTensegrity_some (a : TTensegrity) (n : Int) : ∃ z, m_laws_szTensegrity a n = some z := by
  unfold m_laws_szTensegrity
  obtain ⟨z0, e0⟩ := szFramework_some a.Framework n
  rw [e0, Option.bind_some]
  cases decide (z0 < 0)
  rotate_left
  · exact ⟨_, rfl⟩
  simp only [cond_false]
  obtain ⟨z1, e1⟩ := szIntS_some a.Kinds z0
  rw [e1, Option.bind_some]
  cases decide (z1 < 0)
  rotate_left
  · exact ⟨_, rfl⟩
  simp only [cond_false]
  exact ⟨_, rfl⟩
theorem markTensegrity_eq (a : TTensegrity) (h0 : SM a.Framework.Graph.Bars.length) (h1 : SM a.Framework.Places.length) (h2 : SM a.Kinds.length) (b : Int) (hb : 0 ≤ b) (hb2 : b ≤ 274877906944) : m_laws_markTensegrity a b = some ((((b + 2 * (a.Framework.Graph.Bars.length : Int)) + 2 * (a.Framework.Places.length : Int)) + (a.Kinds.length : Int)), mkBarS b a.Framework.Graph.Bars.length, mkPlaceS (b + 2 * (a.Framework.Graph.Bars.length : Int)) a.Framework.Places.length, mkIntS ((b + 2 * (a.Framework.Graph.Bars.length : Int)) + 2 * (a.Framework.Places.length : Int)) a.Kinds.length) := by
  unfold m_laws_markTensegrity
  simp only [markFramework_eq a.Framework h0 h1 b (by omega) (by omega), markIntS_eq a.Kinds h2 ((b + 2 * (a.Framework.Graph.Bars.length : Int)) + 2 * (a.Framework.Places.length : Int)) ⟨by omega, by omega⟩, Option.bind_some]
end Go.Proofs.Ytfiiebikkimjbaa
