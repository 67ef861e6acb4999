/- Parts of a proof that a law of the program holds: what the program computes, and why that is right. -/
import Derived.Test.YtghofbijdnenoaaZEFindStrictStress4
section
set_option linter.unusedVariables false
set_option linter.unusedSimpArgs false
set_option linter.unnecessarySimpa false
set_option maxRecDepth 100000
set_option maxHeartbeats 8000000
open Go Go.Fw
namespace Go.Proofs.Ytghofbijdnenoaa
theorem w_spec_GcdOf (a : Int) (b : Int) : ∀ t, m_spec_GcdOf a b = some t → Fw.Fn Try.prog 205 [(.c (iC a)), (.c (iC b))] [] (.s (.c (iC t))) [] [] [] := by
 refine Fw.Fn.of (P := Try.prog) (X := []) (pn := []) (rs := (fun (t : Int) => [(.c (iC t))])) (dfs := (fun (t : Int) => [])) Try.func205 rfl Try.ntmps205 (Nat.le_of_ble_eq_true rfl) rfl ?_
 intro w0 U0 R0 g0
 unfold m_spec_GcdOf
 refine Ws (Wr ?_)
 refine asg (Iv 0) rfl ⟨rfl, rfl⟩ rfl rfl ?_
 refine On (Ws (Ws ?_))
 refine AWR.joinK (fun j4 => ([(0, (Iv a)), (1, (Iv b)), (13, (Bv j4))], [])) ?_ (fun j4 _ => ?_)
 ·refine Wr ?_
  refine mv (Iv a) rfl rfl rfl rfl ?_
  refine Ob' fun r5 hr5 => ?_
  refine AOR.pure (@LT.callF Try.prog _ _ 110 _ _ [(.c (iC a)), (.c (iC (-9000000000000000000))), (.c (iC 9000000000000000000))] _ _ [] _ _ _ _ (w_spec_l1In a (-9000000000000000000) 9000000000000000000 r5 hr5) rfl cb110 (.cons (.c (.same rfl)) (.cons (.c (.same rfl)) (.cons (.c (.same rfl)) .nil))) rfl rfl trivial) ⟨rfl, rfl, ⟨rfl, rfl⟩, ⟨rfl, rfl⟩, trivial⟩ trivial rfl rfl ?_
  refine Op10 (LT.not rfl) rfl rfl rfl ?_
  refine mv (Bv (!r5)) rfl rfl rfl rfl ?_
  refine AOR.split (fun hb6 => ?_) (fun hb6 => ?_)
  ·refine Ok rfl rfl rfl (by rw [hb6]; rfl) rfl ?_
   refine Ok rfl rfl rfl (by rw [hb6]; rfl) rfl ?_
   refine Ok rfl rfl rfl (by rw [hb6]; rfl) rfl ?_
   refine Op20 (LT.pickT (v := (Bv true)) rfl hb6) rfl ⟨rfl, rfl⟩ rfl rfl ?_
   refine On ?_
   refine AWR.nil ⟨rfl, Ent.of ⟨rfl, rfl, rfl, trivial⟩ trivial⟩
  ·refine mv (Iv b) rfl rfl ⟨_, rfl, .inl ⟨_, rfl, (by rw [hb6]; rfl)⟩⟩ rfl ?_
   refine Ob' fun r7 hr7 => ?_
   refine AOR.pure (@LT.callF Try.prog _ _ 110 _ _ [(.c (iC b)), (.c (iC (-9000000000000000000))), (.c (iC 9000000000000000000))] _ _ [] _ _ _ _ (w_spec_l1In b (-9000000000000000000) 9000000000000000000 r7 hr7) rfl cb110 (.cons (.c (.same rfl)) (.cons (.c (.same rfl)) (.cons (.c (.same rfl)) .nil))) rfl rfl trivial) ⟨rfl, rfl, ⟨rfl, rfl⟩, ⟨rfl, rfl⟩, trivial⟩ trivial ⟨_, rfl, .inl ⟨_, rfl, (by rw [hb6]; rfl)⟩⟩ rfl ?_
   refine Op10 (LT.not rfl) rfl ⟨_, rfl, .inl ⟨_, rfl, (by rw [hb6]; rfl)⟩⟩ rfl ?_
   refine Op20 (LT.pickF (v := (Bv (!r7))) rfl hb6) rfl rfl rfl rfl ?_
   refine On ?_
   refine AWR.nil ⟨rfl, Ent.of ⟨rfl, rfl, rfl, trivial⟩ trivial⟩
 ·refine AWR.cond rfl (fun hc8 => ?_) (fun hc8 => ?_)
  ·refine Ws (Wr ?_)
   refine asg (Iv 0) rfl ⟨rfl, rfl⟩ rfl rfl ?_
   refine On ?_
   refine AWR.ret (FPost.mk (.inr rfl) ⟨rfl, trivial⟩ trivial rfl ⟨PermP.sc, trivial⟩ trivial)
  ·refine AWR.skip (Ws (Wr ?_))
   refine mv (Iv a) rfl rfl rfl rfl ?_
   refine mv (Iv a) rfl rfl rfl rfl ?_
   refine Op10 (LT.neg rfl) rfl rfl rfl ?_
   refine Op20 (LT.max rfl) rfl rfl rfl rfl ?_
   refine asg (Iv (if a < (w64 (-a)) then (w64 (-a)) else a)) rfl rfl rfl rfl ?_
   refine On (Ws (Wr ?_))
   refine mv (Iv b) rfl rfl rfl rfl ?_
   refine mv (Iv b) rfl rfl rfl rfl ?_
   refine Op10 (LT.neg rfl) rfl rfl rfl ?_
   refine Op20 (LT.max rfl) rfl rfl rfl rfl ?_
   refine asg (Iv (if b < (w64 (-b)) then (w64 (-b)) else b)) rfl rfl rfl rfl ?_
   refine On (Ws (AWR.block ?_))
   refine AWR.loop1 (id := 0) (m_spec_GcdOf_L1) (fun s9 => ([(0, (Iv s9.1)), (1, (Iv s9.2))], [])) (fun b14 => ([(0, (Iv b14))], [])) ?_ (Ent.of ⟨rfl, rfl, trivial⟩ trivial) rfl (fun b14 _ => ?_)
   ·intro s9
    unfold m_spec_GcdOf_L1
    refine Ws (Ws (Wr ?_))
    refine mv (Iv s9.2) rfl rfl rfl rfl ?_
    refine Op20 (LT.gtr rfl) rfl ⟨rfl, rfl⟩ rfl rfl ?_
    refine On ?_
    refine AWR.cond rfl (fun hc15 => ?_) (fun hc15 => ?_)
    ·refine AWR.skip (AWR.block (Ws (Wr ?_)))
     refine mv (Iv s9.1) rfl rfl rfl rfl ?_
     refine mv (Iv s9.2) rfl rfl rfl rfl ?_
     refine Ob' fun u16 hu16 => ?_
     refine Op20 (LT.rem rfl (nz_ne hu16)) rfl rfl rfl rfl ?_
     refine asg (Iv (Int.tmod s9.1 s9.2)) rfl rfl rfl rfl ?_
     refine On (Ws (Wr ?_))
     refine mv (Iv s9.2) rfl rfl rfl rfl ?_
     refine asg (Iv s9.2) rfl rfl rfl rfl ?_
     refine On (Wr ?_)
     refine mv (Iv (Int.tmod s9.1 s9.2)) rfl rfl rfl rfl ?_
     refine asg (Iv (Int.tmod s9.1 s9.2)) rfl rfl rfl rfl ?_
     refine On (AWR.blk ?_)
     refine AWR.nil ⟨rfl, Ent.of ⟨rfl, rfl, trivial⟩ trivial⟩
    ·refine AWR.exit_end rfl ⟨rfl, Ent.of ⟨rfl, trivial⟩ trivial⟩
   ·refine Ws (Wr ?_)
    refine mv (Iv b14) rfl rfl rfl rfl ?_
    refine asg (Iv b14) rfl rfl rfl rfl ?_
    refine On ?_
    refine AWR.ret (FPost.mk (.inr rfl) ⟨rfl, trivial⟩ trivial rfl ⟨PermP.sc, trivial⟩ trivial)
theorem w_spec_PrimitiveVector (v : (List Int)) : ∀ t, m_spec_PrimitiveVector v = some t → Fw.Fn Try.prog 206 [(.c (xF encInt v))] [] (.s (.c (lo 0 t.length))) [(0, (pR 3 encInt t))] [] [0] := by
 refine Fw.Fn.of (P := Try.prog) (X := [0]) (pn := []) (rs := (fun (t : (List Int)) => [(.c (lo 0 t.length))])) (dfs := (fun (t : (List Int)) => [(0, (pR 3 encInt t))])) Try.func206 rfl Try.ntmps206 (Nat.le_of_ble_eq_true rfl) rfl ?_
 intro w0 U0 R0 g0
 unfold m_spec_PrimitiveVector
 refine Ws (Wr ?_)
 refine asg (Cc (sC nilV)) rfl ⟨rfl, rfl⟩ rfl rfl ?_
 refine On (Ws (Wr ?_))
 refine asg (Iv 0) rfl ⟨rfl, rfl⟩ rfl rfl ?_
 refine On (Ws (Ws (Wr ?_)))
 refine asg (Iv 0) rfl ⟨rfl, rfl⟩ rfl rfl ?_
 refine On (AWR.block ?_)
 refine AWR.loopR (id := 0) (m_spec_PrimitiveVector_L1 v) (fun s1 => ([(0, (Cc (xF encInt v))), (3, (Iv s1.1)), (4, (Iv s1.2))], [])) (fun b16 => ([(0, (Cc (xF encInt v))), (3, (Iv b16))], [])) (FPost Try.prog Try.f206.results.toList [] [0] (fun (t : (List Int)) => [(.c (lo 0 t.length))]) (fun (t : (List Int)) => [(0, (pR 3 encInt t))])) ?_ (Ent.of ⟨rfl, rfl, rfl, trivial⟩ trivial) rfl (fun b16 _ => ?_) (by intro r t σ m ht hk; injection ht with ht; subst ht; exact hk)
 ·intro s1
  unfold m_spec_PrimitiveVector_L1
  refine Ws (Ws (Wr ?_))
  refine mv (Iv s1.2) rfl rfl rfl rfl ?_
  refine mv (Cc (xF encInt v)) rfl rfl rfl rfl ?_
  refine Op10 (LT.tlenRO rfl und37) rfl rfl rfl ?_
  refine Op20 (LT.lss rfl) rfl rfl rfl rfl ?_
  refine On ?_
  refine AWR.cond rfl (fun hc17 => ?_) (fun hc17 => ?_)
  ·refine AWR.skip (Ws (AWR.block (Ws (Ws (Wr ?_)))))
   refine mv (Cc (xF encInt v)) rfl rfl rfl rfl ?_
   refine mv (Iv s1.2) rfl rfl rfl rfl ?_
   refine Ob' fun x18 hx18 => ?_
   refine Op20 (LT.tindexRO (enc := encInt) rfl el37 hx18 sz3) rfl rfl rfl rfl ?_
   refine Op10 (LT.loadPx1 rfl ag3) rfl rfl rfl ?_
   refine Ob' fun r19 hr19 => ?_
   refine AOR.pure (@LT.callF Try.prog _ _ 110 _ _ [(.c (iC x18)), (.c (iC (-9000000000000000000))), (.c (iC 9000000000000000000))] _ _ [] _ _ _ _ (w_spec_l1In x18 (-9000000000000000000) 9000000000000000000 r19 hr19) rfl cb110 (.cons (.c (.same rfl)) (.cons (.c (.same rfl)) (.cons (.c (.same rfl)) .nil))) rfl rfl trivial) ⟨rfl, rfl, ⟨rfl, rfl⟩, ⟨rfl, rfl⟩, trivial⟩ trivial rfl rfl ?_
   refine Op10 (LT.not rfl) rfl rfl rfl ?_
   refine On ?_
   refine AWR.cond rfl (fun hc20 => ?_) (fun hc20 => ?_)
   ·refine Ws (Wr ?_)
    refine Os00 (LT.tbuildSlice (n := 22) (enc := encInt) [] ([] : List Int) rfl rfl und37 ti3 rfl rfl rfl rfl (by decide) (fun _ => rfl) rfl) rfl rfl ?_
    refine mv (Cc (xF encInt v)) rfl rfl rfl rfl ?_
    refine Ob' fun u21 hu21 => ?_
    refine Os21 (LT.tappRO (enc := encInt) rfl  rfl und37 ti3 rfl (by decide) (by decide) (fun _ => rfl) (lim_le hu21)) rfl rfl rfl rfl rfl ?_
    refine asg (Cc (lo 22 ((([] : List Int) ++ v).length))) rfl rfl rfl rfl ?_
    refine On ?_
    refine en [(2, (Cc (lo 22 ((([] : List Int) ++ v).length))))] [(22, (pR 3 encInt (([] : List Int) ++ v)))] ⟨rfl, trivial⟩ ⟨rfl, trivial⟩ ?_
    refine AWR.ent (Ent.mv 22 0 rfl rfl) ?_
    refine en [(2, (Cc (lo 0 ((([] : List Int) ++ v).length))))] [(0, (pR 3 encInt (([] : List Int) ++ v)))] ⟨rfl, trivial⟩ ⟨rfl, trivial⟩ ?_
    refine AWR.ret ⟨rfl, FPost.mk (.inr rfl) ⟨rfl, trivial⟩ ⟨rfl, trivial⟩ rfl ⟨trivial, trivial⟩ ⟨PermO.prow' perm_encInt, trivial⟩⟩
   ·refine AWR.skip (Wr ?_)
    refine mv (Iv s1.1) rfl rfl rfl rfl ?_
    refine mv (Cc (xF encInt v)) rfl rfl rfl rfl ?_
    refine mv (Iv s1.2) rfl rfl rfl rfl ?_
    refine Ob' fun x22 hx22 => ?_
    refine Op20 (LT.tindexRO (enc := encInt) rfl el37 hx22 sz3) rfl rfl rfl rfl ?_
    refine Op10 (LT.loadPx1 rfl ag3) rfl rfl rfl ?_
    refine Ob' fun r23 hr23 => ?_
    refine AOR.pure (@LT.callF Try.prog _ _ 205 _ _ [(.c (iC s1.1)), (.c (iC x22))] _ _ [] _ _ _ _ (w_spec_GcdOf s1.1 x22 r23 hr23) rfl cb205 (.cons (.c (.same rfl)) (.cons (.c (.same rfl)) .nil)) rfl rfl trivial) ⟨rfl, rfl, rfl, trivial⟩ trivial rfl rfl ?_
    refine asg (Iv r23) rfl rfl rfl rfl ?_
    refine On (AWR.blk ?_)
    refine en [(0, (Cc (xF encInt v))), (3, (Iv r23)), (4, (Iv s1.2))] [] ⟨rfl, rfl, rfl, trivial⟩ trivial ?_
    refine Wr ?_
    refine mv (Iv s1.2) rfl rfl rfl rfl ?_
    refine Op20 (LT.add rfl) rfl ⟨rfl, rfl⟩ rfl rfl ?_
    refine asg (Iv (w64 (s1.2 + 1))) rfl rfl rfl rfl ?_
    refine On ?_
    refine AWR.nil ⟨rfl, Ent.of ⟨rfl, rfl, rfl, trivial⟩ trivial⟩
  ·refine AWR.exit_end rfl ⟨rfl, Ent.of ⟨rfl, rfl, trivial⟩ trivial⟩
 ·refine Ws (Ws (Wr ?_))
  refine mv (Iv b16) rfl rfl rfl rfl ?_
  refine Op20 (LT.eql rfl) rfl ⟨rfl, rfl⟩ rfl rfl ?_
  refine On ?_
  refine AWR.cond rfl (fun hc24 => ?_) (fun hc24 => ?_)
  ·refine Ws (Wr ?_)
   refine Os00 (LT.tbuildSlice (n := 24) (enc := encInt) [] ([] : List Int) rfl rfl und37 ti3 rfl rfl rfl rfl (by decide) (fun _ => rfl) rfl) rfl rfl ?_
   refine mv (Cc (xF encInt v)) rfl rfl rfl rfl ?_
   refine Ob' fun u25 hu25 => ?_
   refine Os21 (LT.tappRO (enc := encInt) rfl  rfl und37 ti3 rfl (by decide) (by decide) (fun _ => rfl) (lim_le hu25)) rfl rfl rfl rfl rfl ?_
   refine asg (Cc (lo 24 ((([] : List Int) ++ v).length))) rfl rfl rfl rfl ?_
   refine On ?_
   refine en [(2, (Cc (lo 24 ((([] : List Int) ++ v).length))))] [(24, (pR 3 encInt (([] : List Int) ++ v)))] ⟨rfl, trivial⟩ ⟨rfl, trivial⟩ ?_
   refine AWR.ent (Ent.mv 24 0 rfl rfl) ?_
   refine en [(2, (Cc (lo 0 ((([] : List Int) ++ v).length))))] [(0, (pR 3 encInt (([] : List Int) ++ v)))] ⟨rfl, trivial⟩ ⟨rfl, trivial⟩ ?_
   refine AWR.ret (FPost.mk (.inr rfl) ⟨rfl, trivial⟩ ⟨rfl, trivial⟩ rfl ⟨trivial, trivial⟩ ⟨PermO.prow' perm_encInt, trivial⟩)
  ·refine AWR.skip (Ws (Wr ?_))
   refine asg (Iv 0) rfl ⟨rfl, rfl⟩ rfl rfl ?_
   refine On (Ws (Ws (Wr ?_)))
   refine asg (Iv 0) rfl ⟨rfl, rfl⟩ rfl rfl ?_
   refine On (AWR.block ?_)
   refine AWR.loop1 (id := 2) (m_spec_PrimitiveVector_L2 v b16) (fun s26 => ([(0, (Cc (xF encInt v))), (3, (Iv b16)), (5, (Iv s26.1)), (6, (Iv s26.2))], [])) (fun b39 => ([(0, (Cc (xF encInt v))), (3, (Iv b39.1)), (5, (Iv b39.2))], [])) ?_ (Ent.of ⟨rfl, rfl, rfl, rfl, trivial⟩ trivial) rfl (fun b39 _ => ?_)
   ·intro s26
    unfold m_spec_PrimitiveVector_L2
    refine Ws (Ws (Wr ?_))
    refine mv (Iv s26.2) rfl rfl rfl rfl ?_
    refine mv (Cc (xF encInt v)) rfl rfl rfl rfl ?_
    refine Op10 (LT.tlenRO rfl und37) rfl rfl rfl ?_
    refine Op20 (LT.lss rfl) rfl rfl rfl rfl ?_
    refine On ?_
    refine AWR.cond rfl (fun hc40 => ?_) (fun hc40 => ?_)
    ·refine AWR.skip (Ws (AWR.block (Ws (Wr ?_))))
     refine mv (Iv s26.1) rfl rfl rfl rfl ?_
     refine Op20 (LT.eql rfl) rfl ⟨rfl, rfl⟩ rfl rfl ?_
     refine On ?_
     refine AWR.joinK (fun j43 => ([(0, (Cc (xF encInt v))), (3, (Iv b16)), (5, (Iv j43)), (6, (Iv s26.2))], [])) ?_ (fun j43 _ => ?_)
     ·refine AWR.cond rfl (fun hc44 => ?_) (fun hc44 => ?_)
      ·refine Wr ?_
       refine mv (Cc (xF encInt v)) rfl rfl rfl rfl ?_
       refine mv (Iv s26.2) rfl rfl rfl rfl ?_
       refine Ob' fun x45 hx45 => ?_
       refine Op20 (LT.tindexRO (enc := encInt) rfl el37 hx45 sz3) rfl rfl rfl rfl ?_
       refine Op10 (LT.loadPx1 rfl ag3) rfl rfl rfl ?_
       refine asg (Iv x45) rfl rfl rfl rfl ?_
       refine On ?_
       refine AWR.nil ⟨rfl, Ent.of ⟨rfl, rfl, rfl, rfl, trivial⟩ trivial⟩
      ·refine AWR.skip ?_
       refine AWR.nil ⟨rfl, Ent.of ⟨rfl, rfl, rfl, rfl, trivial⟩ trivial⟩
     ·refine AWR.blk (Wr ?_)
      refine mv (Iv s26.2) rfl rfl rfl rfl ?_
      refine Op20 (LT.add rfl) rfl ⟨rfl, rfl⟩ rfl rfl ?_
      refine asg (Iv (w64 (s26.2 + 1))) rfl rfl rfl rfl ?_
      refine On ?_
      refine AWR.nil ⟨rfl, Ent.of ⟨rfl, rfl, rfl, rfl, trivial⟩ trivial⟩
    ·refine AWR.exit_end rfl ⟨rfl, Ent.of ⟨rfl, rfl, rfl, trivial⟩ trivial⟩
   ·refine Ws (Ws (Wr ?_))
    refine mv (Iv b39.2) rfl rfl rfl rfl ?_
    refine Op20 (LT.lss rfl) rfl ⟨rfl, rfl⟩ rfl rfl ?_
    refine On ?_
    refine AWR.joinK (fun j47 => ([(0, (Cc (xF encInt v))), (3, (Iv j47))], [])) ?_ (fun j47 _ => ?_)
    ·refine AWR.cond rfl (fun hc48 => ?_) (fun hc48 => ?_)
     ·refine Wr ?_
      refine mv (Iv b39.1) rfl rfl rfl rfl ?_
      refine Op10 (LT.neg rfl) rfl rfl rfl ?_
      refine asg (Iv (w64 (-b39.1))) rfl rfl rfl rfl ?_
      refine On ?_
      refine AWR.nil ⟨rfl, Ent.of ⟨rfl, rfl, trivial⟩ trivial⟩
     ·refine AWR.skip ?_
      refine AWR.nil ⟨rfl, Ent.of ⟨rfl, rfl, trivial⟩ trivial⟩
    ·refine Ws (Wr ?_)
     refine Os00 (LT.tbuildSlice (n := 25) (enc := encInt) [] ([] : List Int) rfl rfl und37 ti3 rfl rfl rfl rfl (by decide) (fun _ => rfl) rfl) rfl rfl ?_
     refine asg (Cc (lo 25 (([] : List Int).length))) rfl rfl rfl rfl ?_
     refine On (Ws (Ws (Wr ?_)))
     refine asg (Iv 0) rfl ⟨rfl, rfl⟩ rfl rfl ?_
     refine On (AWR.block ?_)
     refine AWR.loop1 (id := 4) (m_spec_PrimitiveVector_L3 v j47) (fun s49 => ([(0, (Cc (xF encInt v))), (3, (Iv j47)), (7, (Cc (lo 25 s49.2.length))), (8, (Iv s49.1))], [(25, (pR 3 encInt s49.2))])) (fun b58 => ([(7, (Cc (lo 25 b58.length)))], [(25, (pR 3 encInt b58))])) ?_ (Ent.of ⟨rfl, rfl, rfl, rfl, trivial⟩ ⟨rfl, trivial⟩) rfl (fun b58 _ => ?_)
     ·intro s49
      unfold m_spec_PrimitiveVector_L3
      refine Ws (Ws (Wr ?_))
      refine mv (Iv s49.1) rfl rfl rfl rfl ?_
      refine mv (Cc (xF encInt v)) rfl rfl rfl rfl ?_
      refine Op10 (LT.tlenRO rfl und37) rfl rfl rfl ?_
      refine Op20 (LT.lss rfl) rfl rfl rfl rfl ?_
      refine On ?_
      refine AWR.cond rfl (fun hc59 => ?_) (fun hc59 => ?_)
      ·refine AWR.skip (Ws (AWR.block (Wr ?_)))
       refine mv (Cc (lo 25 s49.2.length)) rfl rfl rfl rfl ?_
       refine mv (Cc (xF encInt v)) rfl rfl rfl rfl ?_
       refine mv (Iv s49.1) rfl rfl rfl rfl ?_
       refine Ob' fun x60 hx60 => ?_
       refine Op20 (LT.tindexRO (enc := encInt) rfl el37 hx60 sz3) rfl rfl rfl rfl ?_
       refine Op10 (LT.loadPx1 rfl ag3) rfl rfl rfl ?_
       refine mv (Iv j47) rfl rfl rfl rfl ?_
       refine Ob' fun u61 hu61 => ?_
       refine Op20 (LT.quo rfl (nz_ne hu61)) rfl rfl rfl rfl ?_
       refine Os10 (LT.tbuildSlice (n := 26) (enc := encInt) [(0, .tmp 64, (.c (iC (w64 (Int.tdiv x60 j47)))))] ([(w64 (Int.tdiv x60 j47))] : List Int) rfl rfl und37 ti3 rfl rfl rfl rfl (by decide) (fun _ => rfl) rfl) rfl rfl rfl ?_
       refine Ob' fun u62 hu62 => ?_
       refine Os22 (LT.tappP (enc := encInt) rfl rfl rfl und37 ti3 rfl (by decide) (by decide) (fun _ => rfl) (lim_le hu62)) rfl rfl rfl rfl rfl rfl ?_
       refine asg (Cc (lo 25 ((s49.2 ++ ([(w64 (Int.tdiv x60 j47))] : List Int)).length))) rfl rfl rfl rfl ?_
       refine On (AWR.blk ?_)
       refine en [(0, (Cc (xF encInt v))), (3, (Iv j47)), (7, (Cc (lo 25 ((s49.2 ++ ([(w64 (Int.tdiv x60 j47))] : List Int)).length)))), (8, (Iv s49.1))] [(25, (pR 3 encInt (s49.2 ++ ([(w64 (Int.tdiv x60 j47))] : List Int))))] ⟨rfl, rfl, rfl, rfl, trivial⟩ ⟨rfl, trivial⟩ ?_
       refine Wr ?_
       refine mv (Iv s49.1) rfl rfl rfl rfl ?_
       refine Op20 (LT.add rfl) rfl ⟨rfl, rfl⟩ rfl rfl ?_
       refine asg (Iv (w64 (s49.1 + 1))) rfl rfl rfl rfl ?_
       refine On ?_
       refine AWR.nil ⟨rfl, Ent.of ⟨rfl, rfl, rfl, rfl, trivial⟩ ⟨rfl, trivial⟩⟩
      ·refine AWR.exit_end rfl ⟨rfl, Ent.of ⟨rfl, trivial⟩ ⟨rfl, trivial⟩⟩
     ·refine Ws (Wr ?_)
      refine mv (Cc (lo 25 b58.length)) rfl rfl rfl rfl ?_
      refine asg (Cc (lo 25 b58.length)) rfl rfl rfl rfl ?_
      refine On ?_
      refine en [(2, (Cc (lo 25 b58.length)))] [(25, (pR 3 encInt b58))] ⟨rfl, trivial⟩ ⟨rfl, trivial⟩ ?_
      refine AWR.ent (Ent.mv 25 0 rfl rfl) ?_
      refine en [(2, (Cc (lo 0 b58.length)))] [(0, (pR 3 encInt b58))] ⟨rfl, trivial⟩ ⟨rfl, trivial⟩ ?_
      refine AWR.ret (FPost.mk (.inr rfl) ⟨rfl, trivial⟩ ⟨rfl, trivial⟩ rfl ⟨trivial, trivial⟩ ⟨PermO.prow' perm_encInt, trivial⟩)
theorem w_spec_l9Clean (row : (List Int)) : ∀ t, m_spec_l9Clean row = some t → Fw.Fn Try.prog 217 [(.c (xF encInt row))] [] (.s (.c (lo 0 t.length))) [(0, (pR 3 encInt t))] [] [0] := by
 refine Fw.Fn.of (P := Try.prog) (X := [0]) (pn := []) (rs := (fun (t : (List Int)) => [(.c (lo 0 t.length))])) (dfs := (fun (t : (List Int)) => [(0, (pR 3 encInt t))])) Try.func217 rfl Try.ntmps217 (Nat.le_of_ble_eq_true rfl) rfl ?_
 intro w0 U0 R0 g0
 unfold m_spec_l9Clean
 refine Ws (Wr ?_)
 refine asg (Cc (sC nilV)) rfl ⟨rfl, rfl⟩ rfl rfl ?_
 refine On (Ws (Wr ?_))
 refine mv (Cc (xF encInt row)) rfl rfl rfl rfl ?_
 refine Ob' fun r1 hr1 => ?_
 refine AOR.step (@LT.callF Try.prog _ _ 206 _ _ [(.c (xF encInt row))] _ _ [] _ _ _ _ ((show Fw.Fn Try.prog 206 [(.c (xF encInt row))] [] (Cc (lo 22 r1.length)) [(22, (pR 3 encInt r1))] [] [22] from Fw.Fn.ren [(0, 22)] (w_spec_PrimitiveVector row r1 hr1) rfl)) rfl cb206 (.cons (.c (.same rfl)) .nil) rfl rfl trivial) ⟨rfl, rfl, trivial⟩ trivial rfl rfl ?_
 refine asg (Cc (lo 22 r1.length)) rfl rfl rfl rfl ?_
 refine On ?_
 refine en [(2, (Cc (lo 22 r1.length)))] [(22, (pR 3 encInt r1))] ⟨rfl, trivial⟩ ⟨rfl, trivial⟩ ?_
 refine AWR.ent (Ent.mv 22 0 rfl rfl) ?_
 refine en [(2, (Cc (lo 0 r1.length)))] [(0, (pR 3 encInt r1))] ⟨rfl, trivial⟩ ⟨rfl, trivial⟩ ?_
 refine AWR.ret (FPost.mk (.inr rfl) ⟨rfl, trivial⟩ ⟨rfl, trivial⟩ rfl ⟨trivial, trivial⟩ ⟨PermO.prow' perm_encInt, trivial⟩)
theorem w_spec_l9Without (a : (List Int)) (row : (List Int)) (j : Int) : ∀ t, m_spec_l9Without a row j = some t → Fw.Fn Try.prog 218 [(.c (xF encInt a)), (.c (xF encInt row)), (.c (iC j))] [] (.s (.c (lo 0 t.length))) [(0, (pR 3 encInt t))] [] [0] := by
 refine Fw.Fn.of (P := Try.prog) (X := [0]) (pn := []) (rs := (fun (t : (List Int)) => [(.c (lo 0 t.length))])) (dfs := (fun (t : (List Int)) => [(0, (pR 3 encInt t))])) Try.func218 rfl Try.ntmps218 (Nat.le_of_ble_eq_true rfl) rfl ?_
 intro w0 U0 R0 g0
 unfold m_spec_l9Without
 refine Ws (Wr ?_)
 refine asg (Cc (sC nilV)) rfl ⟨rfl, rfl⟩ rfl rfl ?_
 refine On (Ws (AWR.draw mixed ?_))
 refine Dp10 (LT.move (v := (Cc (xF encInt a))) rfl) rfl rfl rfl ?_
 refine Dp10 (LT.move (v := (Iv j)) rfl) rfl rfl rfl ?_
 refine AOD.bind fun x1 hx1 => ?_
 refine Dp20 (LT.tindexRO (enc := encInt) rfl el37 hx1 sz3) rfl rfl rfl rfl ?_
 refine Dp10 (LT.loadPx1 rfl ag3) rfl rfl rfl ?_
 refine Dp10 (LT.move (v := (Cc (xF encInt row))) rfl) rfl rfl rfl ?_
 refine Dp10 (LT.move (v := (Iv j)) rfl) rfl rfl rfl ?_
 refine AOD.bind fun x2 hx2 => ?_
 refine Dp20 (LT.tindexRO (enc := encInt) rfl el37 hx2 sz3) rfl rfl rfl rfl ?_
 refine Dp10 (LT.loadPx1 rfl ag3) rfl rfl rfl ?_
 refine AOD.bind fun r3 hr3 => ?_
 refine AOD.pure (@LT.callF Try.prog _ _ 205 _ _ [(.c (iC x1)), (.c (iC x2))] _ _ [] _ _ _ _ (w_spec_GcdOf x1 x2 r3 hr3) rfl cb205 (.cons (.c (.same rfl)) (.cons (.c (.same rfl)) .nil)) rfl rfl trivial) ⟨rfl, rfl, rfl, trivial⟩ trivial rfl rfl ?_
 refine Dp10 (LT.assign (v := (Iv r3)) rfl) rfl rfl rfl ?_
 refine AOD.nil (by kernel_rfl) ?_
 refine Ws ?_
 refine en [(0, (Cc (xF encInt a))), (1, (Cc (xF encInt row))), (2, (Iv j)), (7, (Iv r3))] [] ⟨rfl, rfl, rfl, rfl, trivial⟩ trivial ?_
 refine Wr ?_
 refine mv (Cc (xF encInt row)) rfl rfl rfl rfl ?_
 refine mv (Iv j) rfl rfl rfl rfl ?_
 refine Ob' fun x4 hx4 => ?_
 refine Op20 (LT.tindexRO (enc := encInt) rfl el37 hx4 sz3) rfl rfl rfl rfl ?_
 refine Op10 (LT.loadPx1 rfl ag3) rfl rfl rfl ?_
 refine mv (Iv r3) rfl rfl rfl rfl ?_
 refine Ob' fun u5 hu5 => ?_
 refine Op20 (LT.quo rfl (nz_ne hu5)) rfl rfl rfl rfl ?_
 refine asg (Iv (w64 (Int.tdiv x4 r3))) rfl rfl rfl rfl ?_
 refine On (Ws (Wr ?_))
 refine mv (Cc (xF encInt a)) rfl rfl rfl rfl ?_
 refine mv (Iv j) rfl rfl rfl rfl ?_
 refine Ob' fun x6 hx6 => ?_
 refine Op20 (LT.tindexRO (enc := encInt) rfl el37 hx6 sz3) rfl rfl rfl rfl ?_
 refine Op10 (LT.loadPx1 rfl ag3) rfl rfl rfl ?_
 refine mv (Iv r3) rfl rfl rfl rfl ?_
 refine Ob' fun u7 hu7 => ?_
 refine Op20 (LT.quo rfl (nz_ne hu7)) rfl rfl rfl rfl ?_
 refine asg (Iv (w64 (Int.tdiv x6 r3))) rfl rfl rfl rfl ?_
 refine On (Ws ?_)
 refine en [(0, (Cc (xF encInt a))), (1, (Cc (xF encInt row))), (8, (Iv (w64 (Int.tdiv x4 r3)))), (9, (Iv (w64 (Int.tdiv x6 r3))))] [] ⟨rfl, rfl, rfl, rfl, trivial⟩ trivial ?_
 refine Wr ?_
 refine Os00 (LT.tbuildSlice (n := 22) (enc := encInt) [] ([] : List Int) rfl rfl und37 ti3 rfl rfl rfl rfl (by decide) (fun _ => rfl) rfl) rfl rfl ?_
 refine asg (Cc (lo 22 (([] : List Int).length))) rfl rfl rfl rfl ?_
 refine On (Ws (Ws (Wr ?_)))
 refine asg (Iv 0) rfl ⟨rfl, rfl⟩ rfl rfl ?_
 refine On (AWR.block ?_)
 refine AWR.loop1 (id := 0) (m_spec_l9Without_L1 a row r3 x4 x6) (fun s8 => ([(0, (Cc (xF encInt a))), (1, (Cc (xF encInt row))), (8, (Iv (w64 (Int.tdiv x4 r3)))), (9, (Iv (w64 (Int.tdiv x6 r3)))), (10, (Cc (lo 22 s8.2.length))), (11, (Iv s8.1))], [(22, (pR 3 encInt s8.2))])) (fun b17 => ([(10, (Cc (lo 22 b17.length)))], [(22, (pR 3 encInt b17))])) ?_ (Ent.of ⟨rfl, rfl, rfl, rfl, rfl, rfl, trivial⟩ ⟨rfl, trivial⟩) rfl (fun b17 _ => ?_)
 ·intro s8
  unfold m_spec_l9Without_L1
  refine Ws (Ws (Wr ?_))
  refine mv (Iv s8.1) rfl rfl rfl rfl ?_
  refine mv (Cc (xF encInt a)) rfl rfl rfl rfl ?_
  refine Op10 (LT.tlenRO rfl und37) rfl rfl rfl ?_
  refine Op20 (LT.lss rfl) rfl rfl rfl rfl ?_
  refine On ?_
  refine AWR.cond rfl (fun hc18 => ?_) (fun hc18 => ?_)
  ·refine AWR.skip (Ws (AWR.block (AWR.draw mixed ?_)))
   refine Dp10 (LT.move (v := (Cc (lo 22 s8.2.length))) rfl) rfl rfl rfl ?_
   refine Dp10 (LT.move (v := (Cc (xF encInt a))) rfl) rfl rfl rfl ?_
   refine Dp10 (LT.move (v := (Iv s8.1)) rfl) rfl rfl rfl ?_
   refine AOD.bind fun x19 hx19 => ?_
   refine Dp20 (LT.tindexRO (enc := encInt) rfl el37 hx19 sz3) rfl rfl rfl rfl ?_
   refine Dp10 (LT.loadPx1 rfl ag3) rfl rfl rfl ?_
   refine Dp10 (LT.move (v := (Iv (w64 (Int.tdiv x4 r3)))) rfl) rfl rfl rfl ?_
   refine Dp20 (LT.mul rfl) rfl rfl rfl rfl ?_
   refine Dp10 (LT.move (v := (Cc (xF encInt row))) rfl) rfl rfl rfl ?_
   refine Dp10 (LT.move (v := (Iv s8.1)) rfl) rfl rfl rfl ?_
   refine AOD.bind fun x20 hx20 => ?_
   refine Dp20 (LT.tindexRO (enc := encInt) rfl el37 hx20 sz3) rfl rfl rfl rfl ?_
   refine Dp10 (LT.loadPx1 rfl ag3) rfl rfl rfl ?_
   refine Dp10 (LT.move (v := (Iv (w64 (Int.tdiv x6 r3)))) rfl) rfl rfl rfl ?_
   refine Dp20 (LT.mul rfl) rfl rfl rfl rfl ?_
   refine Dp20 (LT.sub rfl) rfl rfl rfl rfl ?_
   refine Ds10 (LT.tbuildSlice (n := 23) (enc := encInt) [(0, .tmp 53, (.c (iC (w64 ((w64 (x19 * (w64 (Int.tdiv x4 r3)))) - (w64 (x20 * (w64 (Int.tdiv x6 r3)))))))))] ([(w64 ((w64 (x19 * (w64 (Int.tdiv x4 r3)))) - (w64 (x20 * (w64 (Int.tdiv x6 r3))))))] : List Int) rfl rfl und37 ti3 rfl rfl rfl rfl (by decide) (fun _ => rfl) rfl) rfl rfl rfl ?_
   refine AOD.bind fun u21 hu21 => ?_
   refine Ds22 (LT.tappP (enc := encInt) rfl rfl rfl und37 ti3 rfl (by decide) (by decide) (fun _ => rfl) (lim_le hu21)) rfl rfl rfl rfl rfl rfl ?_
   refine Dp10 (LT.assign (v := (Cc (lo 22 ((s8.2 ++ ([(w64 ((w64 (x19 * (w64 (Int.tdiv x4 r3)))) - (w64 (x20 * (w64 (Int.tdiv x6 r3))))))] : List Int)).length)))) rfl) rfl rfl rfl ?_
   refine AOD.nil (by kernel_rfl) ?_
   refine AWR.blk ?_
   refine en [(0, (Cc (xF encInt a))), (1, (Cc (xF encInt row))), (8, (Iv (w64 (Int.tdiv x4 r3)))), (9, (Iv (w64 (Int.tdiv x6 r3)))), (10, (Cc (lo 22 ((s8.2 ++ ([(w64 ((w64 (x19 * (w64 (Int.tdiv x4 r3)))) - (w64 (x20 * (w64 (Int.tdiv x6 r3))))))] : List Int)).length)))), (11, (Iv s8.1))] [(22, (pR 3 encInt (s8.2 ++ ([(w64 ((w64 (x19 * (w64 (Int.tdiv x4 r3)))) - (w64 (x20 * (w64 (Int.tdiv x6 r3))))))] : List Int))))] ⟨rfl, rfl, rfl, rfl, rfl, rfl, trivial⟩ ⟨rfl, trivial⟩ ?_
   refine Wr ?_
   refine mv (Iv s8.1) rfl rfl rfl rfl ?_
   refine Op20 (LT.add rfl) rfl ⟨rfl, rfl⟩ rfl rfl ?_
   refine asg (Iv (w64 (s8.1 + 1))) rfl rfl rfl rfl ?_
   refine On ?_
   refine AWR.nil ⟨rfl, Ent.of ⟨rfl, rfl, rfl, rfl, rfl, rfl, trivial⟩ ⟨rfl, trivial⟩⟩
  ·refine AWR.exit_end rfl ⟨rfl, Ent.of ⟨rfl, trivial⟩ ⟨rfl, trivial⟩⟩
 ·refine Ws (Wr ?_)
  refine mv (Cc (lo 22 b17.length)) rfl rfl rfl rfl ?_
  refine Ob' fun r22 hr22 => ?_
  refine AOR.step (@LT.callF Try.prog _ _ 217 _ _ [(.c (lo 22 b17.length))] _ _ [(22, (pR 3 encInt b17))] _ _ _ _ ((show Fw.Fn Try.prog 217 [(.c (xF encInt b17))] [] (Cc (lo 25 r22.length)) [(25, (pR 3 encInt r22))] [] [25] from Fw.Fn.ren [(0, 25)] (w_spec_l9Clean b17 r22 hr22) rfl)) rfl cb217 (.cons (.c (.tloc rfl rfl)) .nil) rfl rfl trivial) ⟨rfl, rfl, trivial⟩ ⟨rfl, trivial⟩ rfl rfl ?_
  refine asg (Cc (lo 25 r22.length)) rfl rfl rfl rfl ?_
  refine On ?_
  refine en [(6, (Cc (lo 25 r22.length)))] [(25, (pR 3 encInt r22))] ⟨rfl, trivial⟩ ⟨rfl, trivial⟩ ?_
  refine AWR.ent (Ent.mv 25 0 rfl rfl) ?_
  refine en [(6, (Cc (lo 0 r22.length)))] [(0, (pR 3 encInt r22))] ⟨rfl, trivial⟩ ⟨rfl, trivial⟩ ?_
  refine AWR.ret (FPost.mk (.inr rfl) ⟨rfl, trivial⟩ ⟨rfl, trivial⟩ rfl ⟨trivial, trivial⟩ ⟨PermO.prow' perm_encInt, trivial⟩)
theorem w_spec_l9Reduced (m : (List (List Int))) : ∀ t, m_spec_l9Reduced m = some t → Fw.Fn Try.prog 144 [(.c (xF (encLInt false) m))] [] (resA [(.c (lo 0 t.1.length)), (.c (lo 1 t.2.length))]) [(0, (pR 37 (encLInt true) t.1)), (1, (pR 3 encInt t.2))] [] [0, 1] := by
 refine Fw.Fn.ofU (P := Try.prog) (X := [0, 1]) (pn := []) (rs := (fun (t : ((List (List Int)) × (List Int))) => [(.c (lo 0 t.1.length)), (.c (lo 1 t.2.length))])) (dfs := (fun (t : ((List (List Int)) × (List Int))) => [(0, (pR 37 (encLInt true) t.1)), (1, (pR 3 encInt t.2))])) Try.func144 rfl Try.ntmps144 (Nat.le_of_ble_eq_true rfl) rfl ?_
 intro w0 U0 R0 g0 hU
 unfold m_spec_l9Reduced
 refine Ws (Wr ?_)
 refine asg (Cc (sC nilV)) rfl ⟨rfl, rfl⟩ rfl rfl ?_
 refine asg (Cc (sC nilV)) rfl ⟨rfl, rfl⟩ rfl rfl ?_
 refine On (Ws (Wr ?_))
 refine Os00 (LT.tbuildSlice (n := 21) (enc := (encLInt true)) [] ([] : List (List Int)) rfl rfl und31 ti37 rfl rfl rfl rfl (by decide) (fun _ => rfl) rfl) rfl rfl ?_
 refine asg (Cc (lo 21 (([] : List (List Int)).length))) rfl rfl rfl rfl ?_
 refine On (Ws (Ws (Wr ?_)))
 refine asg (Iv 0) rfl ⟨rfl, rfl⟩ rfl rfl ?_
 refine On (AWR.block ?_)
 refine AWR.loop1 (id := 0) (m_spec_l9Reduced_L1 m) (fun s1 => ([(0, (Cc (xF (encLInt false) m))), (4, (Cc (lo 21 s1.2.length))), (5, (Iv s1.1))], [(21, (pR 37 (encLInt true) s1.2))])) (fun b10 => ([(4, (Cc (lo 21 b10.length)))], [(21, (pR 37 (encLInt true) b10))])) ?_ (Ent.of ⟨rfl, rfl, rfl, trivial⟩ ⟨rfl, trivial⟩) rfl (fun b10 _ => ?_)
 ·intro s1
  unfold m_spec_l9Reduced_L1
  refine Ws (Ws (Wr ?_))
  refine mv (Iv s1.1) rfl rfl rfl rfl ?_
  refine mv (Cc (xF (encLInt false) m)) rfl rfl rfl rfl ?_
  refine Op10 (LT.tlenRO rfl und31) rfl rfl rfl ?_
  refine Op20 (LT.lss rfl) rfl rfl rfl rfl ?_
  refine On ?_
  refine AWR.cond rfl (fun hc11 => ?_) (fun hc11 => ?_)
  ·refine AWR.skip (Ws (AWR.block (Wr ?_)))
   refine mv (Cc (lo 21 s1.2.length)) rfl rfl rfl rfl ?_
   refine mv (Cc (xF (encLInt false) m)) rfl rfl rfl rfl ?_
   refine mv (Iv s1.1) rfl rfl rfl rfl ?_
   refine Ob' fun x12 hx12 => ?_
   refine Op20 (LT.tindexRO (enc := (encLInt false)) rfl el31 hx12 sz37) rfl rfl rfl rfl ?_
   refine Op10 (LT.loadPx1 rfl ag37) rfl rfl rfl ?_
   refine Ob' fun r13 hr13 => ?_
   refine AOR.step (@LT.callF Try.prog _ _ 217 _ _ [(.c (xF encInt x12))] _ _ [] _ _ _ _ ((show Fw.Fn Try.prog 217 [(.c (xF encInt x12))] [] (Cc (lo 23 r13.length)) [(23, (pR 3 encInt r13))] [] [23] from Fw.Fn.ren [(0, 23)] (w_spec_l9Clean x12 r13 hr13) rfl)) rfl cb217 (.cons (.c (.same rfl)) .nil) rfl rfl trivial) ⟨rfl, rfl, trivial⟩ trivial rfl rfl ?_
   refine AOR.ent (Ent.freezeS (enc := encInt) 23 23 hU rfl rfl rfl rfl) ?_
   refine Os10 (LT.tbuildSlice (n := 24) (enc := (encLInt true)) [(0, .tmp 23, (.c (xT encInt r13)))] [r13] rfl rfl und31 ti37 rfl rfl rfl rfl (by decide) (fun _ => rfl) rfl) rfl rfl rfl ?_
   refine Ob' fun u14 hu14 => ?_
   refine Os22 (LT.tappP (enc := (encLInt true)) rfl rfl rfl und31 ti37 rfl (by decide) (by decide) (fun _ => rfl) (lim_le hu14)) rfl rfl rfl rfl rfl rfl ?_
   refine asg (Cc (lo 21 ((s1.2 ++ [r13]).length))) rfl rfl rfl rfl ?_
   refine On (AWR.blk ?_)
   refine en [(0, (Cc (xF (encLInt false) m))), (4, (Cc (lo 21 ((s1.2 ++ [r13]).length)))), (5, (Iv s1.1))] [(21, (pR 37 (encLInt true) (s1.2 ++ [r13])))] ⟨rfl, rfl, rfl, trivial⟩ ⟨rfl, trivial⟩ ?_
   refine Wr ?_
   refine mv (Iv s1.1) rfl rfl rfl rfl ?_
   refine Op20 (LT.add rfl) rfl ⟨rfl, rfl⟩ rfl rfl ?_
   refine asg (Iv (w64 (s1.1 + 1))) rfl rfl rfl rfl ?_
   refine On ?_
   refine AWR.nil ⟨rfl, Ent.of ⟨rfl, rfl, rfl, trivial⟩ ⟨rfl, trivial⟩⟩
  ·refine AWR.exit_end rfl ⟨rfl, Ent.of ⟨rfl, trivial⟩ ⟨rfl, trivial⟩⟩
 ·refine Ws (Wr ?_)
  refine Os00 (LT.tbuildSlice (n := 25) (enc := encInt) [] ([] : List Int) rfl rfl und37 ti3 rfl rfl rfl rfl (by decide) (fun _ => rfl) rfl) rfl rfl ?_
  refine asg (Cc (lo 25 (([] : List Int).length))) rfl rfl rfl rfl ?_
  refine On (Ws (Ws (Wr ?_)))
  refine asg (Iv 0) rfl ⟨rfl, rfl⟩ rfl rfl ?_
  refine On (AWR.block ?_)
  refine AWR.loop1 (id := 2) (m_spec_l9Reduced_L6) (fun s15 => ([(4, (Cc (lo 21 s15.2.1.length))), (6, (Cc (lo 25 s15.2.2.length))), (7, (Iv s15.1))], [(21, (pR 37 (encLInt true) s15.2.1)), (25, (pR 3 encInt s15.2.2))])) (fun b148 => ([(4, (Cc (lo 21 b148.1.length))), (6, (Cc (lo 25 b148.2.length)))], [(21, (pR 37 (encLInt true) b148.1)), (25, (pR 3 encInt b148.2))])) ?_ (Ent.of ⟨rfl, rfl, rfl, trivial⟩ ⟨rfl, rfl, trivial⟩) rfl (fun b148 _ => ?_)
  ·intro s15
   unfold m_spec_l9Reduced_L6
   refine Ws (Ws ?_)
   refine AWR.joinK (fun j151 => ([(4, (Cc (lo 21 s15.2.1.length))), (6, (Cc (lo 25 s15.2.2.length))), (7, (Iv s15.1)), (37, (Bv j151))], [(21, (pR 37 (encLInt true) s15.2.1)), (25, (pR 3 encInt s15.2.2))])) ?_ (fun j151 _ => ?_)
   ·refine Wr ?_
    refine mv (Cc (lo 21 s15.2.1.length)) rfl rfl rfl rfl ?_
    refine Op10 (LT.lenLoc rfl und31) rfl rfl rfl ?_
    refine Op20 (LT.gtr rfl) rfl ⟨rfl, rfl⟩ rfl rfl ?_
    refine mv (Bv (decide (0 < (s15.2.1.length : Int)))) rfl rfl rfl rfl ?_
    refine AOR.split (fun hb152 => ?_) (fun hb152 => ?_)
    ·refine mv (Iv s15.1) rfl rfl ⟨_, rfl, .inl ⟨_, rfl, (by rw [hb152]; rfl)⟩⟩ rfl ?_
     refine mv (Cc (lo 21 s15.2.1.length)) rfl rfl ⟨_, rfl, .inl ⟨_, rfl, (by rw [hb152]; rfl)⟩⟩ rfl ?_
     refine Ob' fun x153 hx153 => ?_
     refine Op21 (LT.tindexLoc rfl rfl el31 hx153) rfl ⟨rfl, rfl⟩ rfl ⟨_, rfl, .inl ⟨_, rfl, (by rw [hb152]; rfl)⟩⟩ rfl ?_
     refine Op11 (LT.tload1 (k := 0) rfl ag37 hx153 (by exact rfl) (by exact rfl)) rfl rfl ⟨_, rfl, .inl ⟨_, rfl, (by rw [hb152]; rfl)⟩⟩ rfl ?_
     refine Op10 (LT.tlenRO rfl und37) rfl ⟨_, rfl, .inl ⟨_, rfl, (by rw [hb152]; rfl)⟩⟩ rfl ?_
     refine Op20 (LT.lss rfl) rfl rfl ⟨_, rfl, .inl ⟨_, rfl, (by rw [hb152]; rfl)⟩⟩ rfl ?_
     refine Op20 (LT.pickT (v := (Bv (decide (s15.1 < (x153.length : Int))))) rfl hb152) rfl rfl rfl rfl ?_
     refine On ?_
     refine AWR.nil ⟨rfl, Ent.of ⟨rfl, rfl, rfl, rfl, trivial⟩ ⟨rfl, rfl, trivial⟩⟩
    ·refine Ok rfl rfl rfl (by rw [hb152]; rfl) rfl ?_
     refine Ok rfl rfl rfl (by rw [hb152]; rfl) rfl ?_
     refine Ok rfl rfl rfl (by rw [hb152]; rfl) rfl ?_
     refine Ok rfl rfl rfl (by rw [hb152]; rfl) rfl ?_
     refine Ok rfl rfl rfl (by rw [hb152]; rfl) rfl ?_
     refine Ok rfl rfl rfl (by rw [hb152]; rfl) rfl ?_
     refine Op20 (LT.pickF (v := (Bv false)) rfl hb152) rfl ⟨rfl, rfl⟩ rfl rfl ?_
     refine On ?_
     refine AWR.nil ⟨rfl, Ent.of ⟨rfl, rfl, rfl, rfl, trivial⟩ ⟨rfl, rfl, trivial⟩⟩
   ·refine AWR.cond rfl (fun hc154 => ?_) (fun hc154 => ?_)
    ·refine AWR.skip (Ws (AWR.block (Ws (Wr ?_))))
     refine mv (Cc (lo 25 s15.2.2.length)) rfl rfl rfl rfl ?_
     refine Op10 (LT.lenLoc rfl und37) rfl rfl rfl ?_
     refine asg (Iv (s15.2.2.length : Int)) rfl rfl rfl rfl ?_
     refine On (Ws (AWR.block ?_))
     refine AWR.loop1 (id := 4) (m_spec_l9Reduced_L7 s15) (fun s155 => ([(4, (Cc (lo 21 s15.2.1.length))), (6, (Cc (lo 25 s15.2.2.length))), (7, (Iv s15.1)), (8, (Iv s155))], [(21, (pR 37 (encLInt true) s15.2.1)), (25, (pR 3 encInt s15.2.2))])) (fun b172 => ([(4, (Cc (lo 21 b172.2.2.1.length))), (6, (Cc (lo 25 b172.2.2.2.length))), (7, (Iv b172.1)), (8, (Iv b172.2.1))], [(21, (pR 37 (encLInt true) b172.2.2.1)), (25, (pR 3 encInt b172.2.2.2))])) ?_ (Ent.of ⟨rfl, rfl, rfl, rfl, trivial⟩ ⟨rfl, rfl, trivial⟩) rfl (fun b172 _ => ?_)
     ·intro s155
      unfold m_spec_l9Reduced_L7
      refine Ws (Ws ?_)
      refine AWR.joinK (fun j176 => ([(4, (Cc (lo 21 s15.2.1.length))), (6, (Cc (lo 25 s15.2.2.length))), (7, (Iv s15.1)), (8, (Iv s155)), (55, (Bv j176))], [(21, (pR 37 (encLInt true) s15.2.1)), (25, (pR 3 encInt s15.2.2))])) ?_ (fun j176 _ => ?_)
      ·refine Wr ?_
       refine mv (Iv s155) rfl rfl rfl rfl ?_
       refine mv (Cc (lo 21 s15.2.1.length)) rfl rfl rfl rfl ?_
       refine Op10 (LT.lenLoc rfl und31) rfl rfl rfl ?_
       refine Op20 (LT.lss rfl) rfl rfl rfl rfl ?_
       refine mv (Bv (decide (s155 < (s15.2.1.length : Int)))) rfl rfl rfl rfl ?_
       refine AOR.split (fun hb177 => ?_) (fun hb177 => ?_)
       ·refine mv (Cc (lo 21 s15.2.1.length)) rfl rfl ⟨_, rfl, .inl ⟨_, rfl, (by rw [hb177]; rfl)⟩⟩ rfl ?_
        refine mv (Iv s155) rfl rfl ⟨_, rfl, .inl ⟨_, rfl, (by rw [hb177]; rfl)⟩⟩ rfl ?_
        refine Ob' fun x178 hx178 => ?_
        refine Op21 (LT.tindexLoc rfl rfl el31 hx178) rfl rfl rfl ⟨_, rfl, .inl ⟨_, rfl, (by rw [hb177]; rfl)⟩⟩ rfl ?_
        refine Op11 (LT.tload1 (k := 0) rfl ag37 hx178 (by exact rfl) (by exact rfl)) rfl rfl ⟨_, rfl, .inl ⟨_, rfl, (by rw [hb177]; rfl)⟩⟩ rfl ?_
        refine mv (Iv s15.1) rfl rfl ⟨_, rfl, .inl ⟨_, rfl, (by rw [hb177]; rfl)⟩⟩ rfl ?_
        refine Ob' fun x179 hx179 => ?_
        refine Op20 (LT.tindexRO (enc := encInt) rfl el37 hx179 sz3) rfl rfl ⟨_, rfl, .inl ⟨_, rfl, (by rw [hb177]; rfl)⟩⟩ rfl ?_
        refine Op10 (LT.loadPx1 rfl ag3) rfl ⟨_, rfl, .inl ⟨_, rfl, (by rw [hb177]; rfl)⟩⟩ rfl ?_
        refine Op20 (LT.eql rfl) rfl ⟨rfl, rfl⟩ ⟨_, rfl, .inl ⟨_, rfl, (by rw [hb177]; rfl)⟩⟩ rfl ?_
        refine Op20 (LT.pickT (v := (Bv (x179 == 0))) rfl hb177) rfl rfl rfl rfl ?_
        refine On ?_
        refine AWR.nil ⟨rfl, Ent.of ⟨rfl, rfl, rfl, rfl, rfl, trivial⟩ ⟨rfl, rfl, trivial⟩⟩
       ·refine Ok rfl rfl rfl (by rw [hb177]; rfl) rfl ?_
        refine Ok rfl rfl rfl (by rw [hb177]; rfl) rfl ?_
        refine Ok rfl rfl rfl (by rw [hb177]; rfl) rfl ?_
        refine Ok rfl rfl rfl (by rw [hb177]; rfl) rfl ?_
        refine Ok rfl rfl rfl (by rw [hb177]; rfl) rfl ?_
        refine Ok rfl rfl rfl (by rw [hb177]; rfl) rfl ?_
        refine Ok rfl rfl rfl (by rw [hb177]; rfl) rfl ?_
        refine Ok rfl rfl rfl (by rw [hb177]; rfl) rfl ?_
        refine Op20 (LT.pickF (v := (Bv false)) rfl hb177) rfl ⟨rfl, rfl⟩ rfl rfl ?_
        refine On ?_
        refine AWR.nil ⟨rfl, Ent.of ⟨rfl, rfl, rfl, rfl, rfl, trivial⟩ ⟨rfl, rfl, trivial⟩⟩
      ·refine AWR.cond rfl (fun hc180 => ?_) (fun hc180 => ?_)
       ·refine AWR.skip (AWR.block (Wr ?_))
        refine mv (Iv s155) rfl rfl rfl rfl ?_
        refine Op20 (LT.add rfl) rfl ⟨rfl, rfl⟩ rfl rfl ?_
        refine asg (Iv (w64 (s155 + 1))) rfl rfl rfl rfl ?_
        refine On (AWR.blk ?_)
        refine AWR.nil ⟨rfl, Ent.of ⟨rfl, rfl, rfl, rfl, trivial⟩ ⟨rfl, rfl, trivial⟩⟩
       ·refine AWR.exit_end rfl ⟨rfl, Ent.of ⟨rfl, rfl, rfl, rfl, trivial⟩ ⟨rfl, rfl, trivial⟩⟩
     ·refine Ws (Ws (Wr ?_))
      refine mv (Iv b172.2.1) rfl rfl rfl rfl ?_
      refine mv (Cc (lo 21 b172.2.2.1.length)) rfl rfl rfl rfl ?_
      refine Op10 (LT.lenLoc rfl und31) rfl rfl rfl ?_
      refine Op20 (LT.eql rfl) rfl rfl rfl rfl ?_
      refine On ?_
      refine AWR.cond rfl (fun hc181 => ?_) (fun hc181 => ?_)
      ·refine AWR.exit rfl (Wr ?_)
       refine mv (Iv b172.1) rfl rfl rfl rfl ?_
       refine Op20 (LT.add rfl) rfl ⟨rfl, rfl⟩ rfl rfl ?_
       refine asg (Iv (w64 (b172.1 + 1))) rfl rfl rfl rfl ?_
       refine On ?_
       refine AWR.nil ⟨rfl, Ent.of ⟨rfl, rfl, rfl, trivial⟩ ⟨rfl, rfl, trivial⟩⟩
      ·refine AWR.skip (Ws (Wr ?_))
       refine mv (Cc (lo 21 b172.2.2.1.length)) rfl rfl rfl rfl ?_
       refine mv (Iv b172.2.1) rfl rfl rfl rfl ?_
       refine Ob' fun x182 hx182 => ?_
       refine Op21 (LT.tindexLoc rfl rfl el31 hx182) rfl rfl rfl rfl rfl ?_
       refine Op11 (LT.tload1 (k := 0) rfl ag37 hx182 (by exact rfl) (by exact rfl)) rfl rfl rfl rfl ?_
       refine asg (Cc (xT encInt x182)) rfl rfl rfl rfl ?_
       refine On (Ws (Wr ?_))
       refine mv (Cc (lo 21 b172.2.2.1.length)) rfl rfl rfl rfl ?_
       refine mv (Iv b172.2.1) rfl rfl rfl rfl ?_
       refine mv (Cc (lo 21 b172.2.2.1.length)) rfl rfl rfl rfl ?_
       refine mv (Cc (lo 25 b172.2.2.2.length)) rfl rfl rfl rfl ?_
       refine Op10 (LT.lenLoc rfl und37) rfl rfl rfl ?_
       refine Ob' fun x183 hx183 => ?_
       refine Op21 (LT.tindexLoc rfl rfl el31 hx183) rfl rfl rfl rfl rfl ?_
       refine Op11 (LT.tload1 (k := 0) rfl ag37 hx183 (by exact rfl) (by exact rfl)) rfl rfl rfl rfl ?_
       refine Ob' fun x184 hx184 => ?_
       refine Op21 (LT.tindexLoc rfl rfl el31 hx184) rfl rfl rfl rfl rfl ?_
       refine Os21 (LT.tstore (k := 0) (v := (.c (xT encInt x183))) (b' := x183) rfl rfl (infS inf37) sz37 (by exact rfl) hx184 (by exact rfl) (by exact Nat.le_of_ble_eq_true rfl) (by exact rfl)) rfl rfl rfl rfl rfl ?_
       refine On (Ws ?_)
       refine en [(4, (Cc (lo 21 b172.2.2.1.length))), (6, (Cc (lo 25 b172.2.2.2.length))), (7, (Iv b172.1)), (9, (Cc (xT encInt x182)))] [(21, (pR 37 (encLInt true) (b172.2.2.1.set b172.2.1.toNat x183))), (25, (pR 3 encInt b172.2.2.2))] ⟨rfl, rfl, rfl, rfl, trivial⟩ ⟨rfl, rfl, trivial⟩ ?_
       refine Wr ?_
       refine mv (Cc (lo 21 b172.2.2.1.length)) rfl rfl rfl rfl ?_
       refine mv (Cc (lo 25 b172.2.2.2.length)) rfl rfl rfl rfl ?_
       refine Op10 (LT.lenLoc rfl und37) rfl rfl rfl ?_
       refine mv (Cc (xT encInt x182)) rfl rfl rfl rfl ?_
       refine Ob' fun x185 hx185 => ?_
       refine Op21 (LT.tindexLoc (show b172.2.2.1.length = (b172.2.2.1.set b172.2.1.toNat x183).length by simp only [List.length_set]) rfl el31 hx185) rfl rfl rfl rfl rfl ?_
       refine Os21 (LT.tstore (k := 0) (v := (.c (xT encInt x182))) (b' := x182) rfl rfl (infS inf37) sz37 (by exact rfl) hx185 (by exact rfl) (by exact Nat.le_of_ble_eq_true rfl) (by exact rfl)) rfl rfl rfl rfl rfl ?_
       refine On (Ws (Ws (Wr ?_)))
       refine asg (Iv 0) rfl ⟨rfl, rfl⟩ rfl rfl ?_
       refine On (AWR.block ?_)
       refine AWR.loop1 (id := 6) (m_spec_l9Reduced_L8 b172 x182) (fun s186 => ([(4, (Cc (lo 21 s186.2.length))), (6, (Cc (lo 25 b172.2.2.2.length))), (7, (Iv b172.1)), (9, (Cc (xT encInt x182))), (10, (Iv s186.1))], [(21, (pR 37 (encLInt true) s186.2)), (25, (pR 3 encInt b172.2.2.2))])) (fun b221 => ([(4, (Cc (lo 21 b221.2.1.length))), (6, (Cc (lo 25 b221.2.2.length))), (7, (Iv b221.1))], [(21, (pR 37 (encLInt true) b221.2.1)), (25, (pR 3 encInt b221.2.2))])) ?_ (Ent.of ⟨(congrArg (fun l1 => (some (AV.s (.c (lo 21 l1))) : Option AV)) (show b172.2.2.1.length = ((b172.2.2.1.set b172.2.1.toNat x183).set (b172.2.2.2.length : Int).toNat x182).length by simp only [List.length_set])), rfl, rfl, rfl, rfl, trivial⟩ ⟨rfl, rfl, trivial⟩) rfl (fun b221 _ => ?_)
       ·intro s186
        unfold m_spec_l9Reduced_L8
        refine Ws (Ws (Wr ?_))
        refine mv (Iv s186.1) rfl rfl rfl rfl ?_
        refine mv (Cc (lo 21 s186.2.length)) rfl rfl rfl rfl ?_
        refine Op10 (LT.lenLoc rfl und31) rfl rfl rfl ?_
        refine Op20 (LT.lss rfl) rfl rfl rfl rfl ?_
        refine On ?_
        refine AWR.cond rfl (fun hc222 => ?_) (fun hc222 => ?_)
        ·refine AWR.skip (Ws (AWR.block (Ws ?_)))
         refine AWR.joinK (fun j226 => ([(4, (Cc (lo 21 s186.2.length))), (6, (Cc (lo 25 b172.2.2.2.length))), (7, (Iv b172.1)), (9, (Cc (xT encInt x182))), (10, (Iv s186.1)), (98, (Bv j226))], [(21, (pR 37 (encLInt true) s186.2)), (25, (pR 3 encInt b172.2.2.2))])) ?_ (fun j226 _ => ?_)
         ·refine Wr ?_
          refine mv (Iv s186.1) rfl rfl rfl rfl ?_
          refine mv (Cc (lo 25 b172.2.2.2.length)) rfl rfl rfl rfl ?_
          refine Op10 (LT.lenLoc rfl und37) rfl rfl rfl ?_
          refine Op20 (LT.neq rfl) rfl rfl rfl rfl ?_
          refine mv (Bv (s186.1 != (b172.2.2.2.length : Int))) rfl rfl rfl rfl ?_
          refine AOR.split (fun hb227 => ?_) (fun hb227 => ?_)
          ·refine mv (Cc (lo 21 s186.2.length)) rfl rfl ⟨_, rfl, .inl ⟨_, rfl, (by rw [hb227]; rfl)⟩⟩ rfl ?_
           refine mv (Iv s186.1) rfl rfl ⟨_, rfl, .inl ⟨_, rfl, (by rw [hb227]; rfl)⟩⟩ rfl ?_
           refine Ob' fun x228 hx228 => ?_
           refine Op21 (LT.tindexLoc rfl rfl el31 hx228) rfl rfl rfl ⟨_, rfl, .inl ⟨_, rfl, (by rw [hb227]; rfl)⟩⟩ rfl ?_
           refine Op11 (LT.tload1 (k := 0) rfl ag37 hx228 (by exact rfl) (by exact rfl)) rfl rfl ⟨_, rfl, .inl ⟨_, rfl, (by rw [hb227]; rfl)⟩⟩ rfl ?_
           refine mv (Iv b172.1) rfl rfl ⟨_, rfl, .inl ⟨_, rfl, (by rw [hb227]; rfl)⟩⟩ rfl ?_
           refine Ob' fun x229 hx229 => ?_
           refine Op20 (LT.tindexRO (enc := encInt) rfl el37 hx229 sz3) rfl rfl ⟨_, rfl, .inl ⟨_, rfl, (by rw [hb227]; rfl)⟩⟩ rfl ?_
           refine Op10 (LT.loadPx1 rfl ag3) rfl ⟨_, rfl, .inl ⟨_, rfl, (by rw [hb227]; rfl)⟩⟩ rfl ?_
           refine Op20 (LT.neq rfl) rfl ⟨rfl, rfl⟩ ⟨_, rfl, .inl ⟨_, rfl, (by rw [hb227]; rfl)⟩⟩ rfl ?_
           refine Op20 (LT.pickT (v := (Bv (x229 != 0))) rfl hb227) rfl rfl rfl rfl ?_
           refine On ?_
           refine AWR.nil ⟨rfl, Ent.of ⟨rfl, rfl, rfl, rfl, rfl, rfl, trivial⟩ ⟨rfl, rfl, trivial⟩⟩
          ·refine Ok rfl rfl rfl (by rw [hb227]; rfl) rfl ?_
           refine Ok rfl rfl rfl (by rw [hb227]; rfl) rfl ?_
           refine Ok rfl rfl rfl (by rw [hb227]; rfl) rfl ?_
           refine Ok rfl rfl rfl (by rw [hb227]; rfl) rfl ?_
           refine Ok rfl rfl rfl (by rw [hb227]; rfl) rfl ?_
           refine Ok rfl rfl rfl (by rw [hb227]; rfl) rfl ?_
           refine Ok rfl rfl rfl (by rw [hb227]; rfl) rfl ?_
           refine Ok rfl rfl rfl (by rw [hb227]; rfl) rfl ?_
           refine Op20 (LT.pickF (v := (Bv false)) rfl hb227) rfl ⟨rfl, rfl⟩ rfl rfl ?_
           refine On ?_
           refine AWR.nil ⟨rfl, Ent.of ⟨rfl, rfl, rfl, rfl, rfl, rfl, trivial⟩ ⟨rfl, rfl, trivial⟩⟩
         ·refine AWR.joinK (fun j234 => ([(4, (Cc (lo 21 j234.length))), (6, (Cc (lo 25 b172.2.2.2.length))), (7, (Iv b172.1)), (9, (Cc (xT encInt x182))), (10, (Iv s186.1))], [(21, (pR 37 (encLInt true) j234)), (25, (pR 3 encInt b172.2.2.2))])) ?_ (fun j234 _ => ?_)
          ·refine AWR.cond rfl (fun hc235 => ?_) (fun hc235 => ?_)
           ·refine Wr ?_
            refine mv (Cc (lo 21 s186.2.length)) rfl rfl rfl rfl ?_
            refine mv (Iv s186.1) rfl rfl rfl rfl ?_
            refine mv (Cc (lo 21 s186.2.length)) rfl rfl rfl rfl ?_
            refine mv (Iv s186.1) rfl rfl rfl rfl ?_
            refine Ob' fun x236 hx236 => ?_
            refine Op21 (LT.tindexLoc rfl rfl el31 hx236) rfl rfl rfl rfl rfl ?_
            refine Op11 (LT.tload1 (k := 0) rfl ag37 hx236 (by exact rfl) (by exact rfl)) rfl rfl rfl rfl ?_
            refine mv (Cc (xT encInt x182)) rfl rfl rfl rfl ?_
            refine mv (Iv b172.1) rfl rfl rfl rfl ?_
            refine Ob' fun r237 hr237 => ?_
            refine AOR.step (@LT.callF Try.prog _ _ 218 _ _ [(.c (xT encInt x236)), (.c (xT encInt x182)), (.c (iC b172.1))] _ _ [] _ _ _ _ ((show Fw.Fn Try.prog 218 [(.c (xF encInt x236)), (.c (xF encInt x182)), (.c (iC b172.1))] [] (Cc (lo 27 r237.length)) [(27, (pR 3 encInt r237))] [] [27] from Fw.Fn.ren [(0, 27)] (w_spec_l9Without x236 x182 b172.1 r237 hr237) rfl)) rfl cb218 (.cons (.c (.weak (.same rfl) (QW.xsm qw_encInt (fun h => by cases h) _))) (.cons (.c (.weak (.same rfl) (QW.xsm qw_encInt (fun h => by cases h) _))) (.cons (.c (.same rfl)) .nil))) rfl rfl trivial) ⟨rfl, rfl, rfl, rfl, trivial⟩ trivial rfl rfl ?_
            refine Ob' fun x238 hx238 => ?_
            refine Op21 (LT.tindexLoc rfl rfl el31 hx238) rfl rfl rfl rfl rfl ?_
            refine AOR.ent (Ent.freezeS (enc := encInt) 107 27 hU rfl rfl rfl rfl) ?_
            refine Os21 (LT.tstore (k := 0) (v := (.c (xT encInt r237))) (b' := r237) rfl rfl (infS inf37) sz37 (by exact rfl) hx238 (by exact rfl) (by exact Nat.le_of_ble_eq_true rfl) (by exact rfl)) rfl rfl rfl rfl rfl ?_
            refine On ?_
            refine AWR.nil ⟨rfl, Ent.of ⟨(congrArg (fun l1 => (some (AV.s (.c (lo 21 l1))) : Option AV)) (show s186.2.length = (s186.2.set s186.1.toNat r237).length by simp only [List.length_set])), rfl, rfl, rfl, rfl, trivial⟩ ⟨rfl, rfl, trivial⟩⟩
           ·refine AWR.skip ?_
            refine AWR.nil ⟨rfl, Ent.of ⟨rfl, rfl, rfl, rfl, rfl, trivial⟩ ⟨rfl, rfl, trivial⟩⟩
          ·refine AWR.blk (Wr ?_)
           refine mv (Iv s186.1) rfl rfl rfl rfl ?_
           refine Op20 (LT.add rfl) rfl ⟨rfl, rfl⟩ rfl rfl ?_
           refine asg (Iv (w64 (s186.1 + 1))) rfl rfl rfl rfl ?_
           refine On ?_
           refine AWR.nil ⟨rfl, Ent.of ⟨rfl, rfl, rfl, rfl, rfl, trivial⟩ ⟨rfl, rfl, trivial⟩⟩
        ·refine AWR.exit_end rfl ⟨rfl, Ent.of ⟨rfl, rfl, rfl, trivial⟩ ⟨rfl, rfl, trivial⟩⟩
       ·refine Wr ?_
        refine mv (Cc (lo 25 b221.2.2.length)) rfl rfl rfl rfl ?_
        refine mv (Iv b221.1) rfl rfl rfl rfl ?_
        refine Os10 (LT.tbuildSlice (n := 28) (enc := encInt) [(0, .tmp 110, (.c (iC b221.1)))] ([b221.1] : List Int) rfl rfl und37 ti3 rfl rfl rfl rfl (by decide) (fun _ => rfl) rfl) rfl rfl rfl ?_
        refine Ob' fun u239 hu239 => ?_
        refine Os22 (LT.tappP (enc := encInt) rfl rfl rfl und37 ti3 rfl (by decide) (by decide) (fun _ => rfl) (lim_le hu239)) rfl rfl rfl rfl rfl rfl ?_
        refine asg (Cc (lo 25 ((b221.2.2 ++ ([b221.1] : List Int)).length))) rfl rfl rfl rfl ?_
        refine On (AWR.blk (Wr ?_))
        refine mv (Iv b221.1) rfl rfl rfl rfl ?_
        refine Op20 (LT.add rfl) rfl ⟨rfl, rfl⟩ rfl rfl ?_
        refine asg (Iv (w64 (b221.1 + 1))) rfl rfl rfl rfl ?_
        refine On ?_
        refine AWR.nil ⟨rfl, Ent.of ⟨rfl, rfl, rfl, trivial⟩ ⟨rfl, rfl, trivial⟩⟩
    ·refine AWR.exit_end rfl ⟨rfl, Ent.of ⟨rfl, rfl, trivial⟩ ⟨rfl, rfl, trivial⟩⟩
  ·refine Ws (Wr ?_)
   refine mv (Cc (lo 21 b148.1.length)) rfl rfl rfl rfl ?_
   refine mv (Cc (lo 25 b148.2.length)) rfl rfl rfl rfl ?_
   refine asg (Cc (lo 21 b148.1.length)) rfl rfl rfl rfl ?_
   refine asg (Cc (lo 25 b148.2.length)) rfl rfl rfl rfl ?_
   refine On ?_
   refine en [(2, (Cc (lo 21 b148.1.length))), (3, (Cc (lo 25 b148.2.length)))] [(21, (pR 37 (encLInt true) b148.1)), (25, (pR 3 encInt b148.2))] ⟨rfl, rfl, trivial⟩ ⟨rfl, rfl, trivial⟩ ?_
   refine AWR.ent (Ent.mv 21 0 rfl rfl) ?_
   refine AWR.ent (Ent.mv 25 1 rfl rfl) ?_
   refine en [(2, (Cc (lo 0 b148.1.length))), (3, (Cc (lo 1 b148.2.length)))] [(0, (pR 37 (encLInt true) b148.1)), (1, (pR 3 encInt b148.2))] ⟨rfl, rfl, trivial⟩ ⟨rfl, rfl, trivial⟩ ?_
   refine AWR.ret (FPost.mk (.inr rfl) ⟨rfl, rfl, trivial⟩ ⟨rfl, rfl, trivial⟩ rfl ⟨trivial, trivial, trivial⟩ ⟨PermO.prow' perm_encLInt, PermO.prow' perm_encInt, trivial⟩)
end Go.Proofs.Ytghofbijdnenoaa
end
section
set_option linter.unusedVariables false
set_option linter.unusedSimpArgs false
set_option linter.unnecessarySimpa false
set_option maxRecDepth 100000
set_option maxHeartbeats 8000000
open Go Go.Fw
namespace Go.Proofs.Ytghofbijdnenoaa
theorem w_impl_isGreat (x : Int) : ∀ t, m_impl_isGreat x = some t → Fw.Fn Try.prog 235 [(.c (iC x))] [] (.s (.c (bC t))) [] [] [] := by
 refine Fw.Fn.of (P := Try.prog) (X := []) (pn := []) (rs := (fun (t : Bool) => [(.c (bC t))])) (dfs := (fun (t : Bool) => [])) Try.func235 rfl Try.ntmps235 (Nat.le_of_ble_eq_true rfl) rfl ?_
 intro w0 U0 R0 g0
 unfold m_impl_isGreat
 refine Ws (Wr ?_)
 refine asg (Bv false) rfl ⟨rfl, rfl⟩ rfl rfl ?_
 refine On (Ws ?_)
 refine AWR.joinK (fun j2 => ([(2, (Bv j2))], [])) ?_ (fun j2 _ => ?_)
 ·refine Wr ?_
  refine mv (Iv x) rfl rfl rfl rfl ?_
  refine Op20 (LT.gtr rfl) rfl ⟨rfl, rfl⟩ rfl rfl ?_
  refine mv (Bv (decide (9000000000000000000 < x))) rfl rfl rfl rfl ?_
  refine AOR.split (fun hb3 => ?_) (fun hb3 => ?_)
  ·refine Ok rfl rfl rfl (by rw [hb3]; rfl) rfl ?_
   refine Ok rfl rfl rfl (by rw [hb3]; rfl) rfl ?_
   refine Op20 (LT.pickT (v := (Bv true)) rfl hb3) rfl ⟨rfl, rfl⟩ rfl rfl ?_
   refine asg (Bv true) rfl rfl rfl rfl ?_
   refine On ?_
   refine AWR.nil ⟨rfl, Ent.of ⟨rfl, trivial⟩ trivial⟩
  ·refine mv (Iv x) rfl rfl ⟨_, rfl, .inl ⟨_, rfl, (by rw [hb3]; rfl)⟩⟩ rfl ?_
   refine Op20 (LT.lss rfl) rfl ⟨rfl, rfl⟩ ⟨_, rfl, .inl ⟨_, rfl, (by rw [hb3]; rfl)⟩⟩ rfl ?_
   refine Op20 (LT.pickF (v := (Bv (decide (x < (-9000000000000000000))))) rfl hb3) rfl rfl rfl rfl ?_
   refine asg (Bv (decide (x < (-9000000000000000000)))) rfl rfl rfl rfl ?_
   refine On ?_
   refine AWR.nil ⟨rfl, Ent.of ⟨rfl, trivial⟩ trivial⟩
 ·refine AWR.ret (FPost.mk (.inr rfl) ⟨rfl, trivial⟩ trivial rfl ⟨PermP.sc, trivial⟩ trivial)
theorem w_impl_GcdOf (a : Int) (b : Int) : ∀ t, m_impl_GcdOf a b = some t → Fw.Fn Try.prog 236 [(.c (iC a)), (.c (iC b))] [] (.s (.c (iC t))) [] [] [] := by
 refine Fw.Fn.of (P := Try.prog) (X := []) (pn := []) (rs := (fun (t : Int) => [(.c (iC t))])) (dfs := (fun (t : Int) => [])) Try.func236 rfl Try.ntmps236 (Nat.le_of_ble_eq_true rfl) rfl ?_
 intro w0 U0 R0 g0
 unfold m_impl_GcdOf
 refine Ws (Wr ?_)
 refine asg (Iv 0) rfl ⟨rfl, rfl⟩ rfl rfl ?_
 refine On (Ws (Ws ?_))
 refine AWR.joinK (fun j4 => ([(0, (Iv a)), (1, (Iv b)), (10, (Bv j4))], [])) ?_ (fun j4 _ => ?_)
 ·refine Wr ?_
  refine mv (Iv a) rfl rfl rfl rfl ?_
  refine Ob' fun r5 hr5 => ?_
  refine AOR.pure (@LT.callF Try.prog _ _ 235 _ _ [(.c (iC a))] _ _ [] _ _ _ _ (w_impl_isGreat a r5 hr5) rfl cb235 (.cons (.c (.same rfl)) .nil) rfl rfl trivial) ⟨rfl, rfl, trivial⟩ trivial rfl rfl ?_
  refine mv (Bv r5) rfl rfl rfl rfl ?_
  refine AOR.split (fun hb6 => ?_) (fun hb6 => ?_)
  ·refine Ok rfl rfl rfl (by rw [hb6]; rfl) rfl ?_
   refine Ok rfl rfl rfl (by rw [hb6]; rfl) rfl ?_
   refine Op20 (LT.pickT (v := (Bv true)) rfl hb6) rfl ⟨rfl, rfl⟩ rfl rfl ?_
   refine On ?_
   refine AWR.nil ⟨rfl, Ent.of ⟨rfl, rfl, rfl, trivial⟩ trivial⟩
  ·refine mv (Iv b) rfl rfl ⟨_, rfl, .inl ⟨_, rfl, (by rw [hb6]; rfl)⟩⟩ rfl ?_
   refine Ob' fun r7 hr7 => ?_
   refine AOR.pure (@LT.callF Try.prog _ _ 235 _ _ [(.c (iC b))] _ _ [] _ _ _ _ (w_impl_isGreat b r7 hr7) rfl cb235 (.cons (.c (.same rfl)) .nil) rfl rfl trivial) ⟨rfl, rfl, trivial⟩ trivial ⟨_, rfl, .inl ⟨_, rfl, (by rw [hb6]; rfl)⟩⟩ rfl ?_
   refine Op20 (LT.pickF (v := (Bv r7)) rfl hb6) rfl rfl rfl rfl ?_
   refine On ?_
   refine AWR.nil ⟨rfl, Ent.of ⟨rfl, rfl, rfl, trivial⟩ trivial⟩
 ·refine AWR.cond rfl (fun hc8 => ?_) (fun hc8 => ?_)
  ·refine Ws (Wr ?_)
   refine asg (Iv 0) rfl ⟨rfl, rfl⟩ rfl rfl ?_
   refine On ?_
   refine AWR.ret (FPost.mk (.inr rfl) ⟨rfl, trivial⟩ trivial rfl ⟨PermP.sc, trivial⟩ trivial)
  ·refine AWR.skip (Ws (Wr ?_))
   refine mv (Iv a) rfl rfl rfl rfl ?_
   refine mv (Iv a) rfl rfl rfl rfl ?_
   refine Op10 (LT.neg rfl) rfl rfl rfl ?_
   refine Op20 (LT.max rfl) rfl rfl rfl rfl ?_
   refine mv (Iv b) rfl rfl rfl rfl ?_
   refine mv (Iv b) rfl rfl rfl rfl ?_
   refine Op10 (LT.neg rfl) rfl rfl rfl ?_
   refine Op20 (LT.max rfl) rfl rfl rfl rfl ?_
   refine asg (Iv (if a < (w64 (-a)) then (w64 (-a)) else a)) rfl rfl rfl rfl ?_
   refine asg (Iv (if b < (w64 (-b)) then (w64 (-b)) else b)) rfl rfl rfl rfl ?_
   refine On (Ws (AWR.block ?_))
   refine AWR.loop1 (id := 0) (m_impl_GcdOf_L1) (fun s9 => ([(0, (Iv s9.1)), (1, (Iv s9.2))], [])) (fun b14 => ([(0, (Iv b14))], [])) ?_ (Ent.of ⟨rfl, rfl, trivial⟩ trivial) rfl (fun b14 _ => ?_)
   ·intro s9
    unfold m_impl_GcdOf_L1
    refine Ws (Ws (Wr ?_))
    refine mv (Iv s9.2) rfl rfl rfl rfl ?_
    refine Op20 (LT.neq rfl) rfl ⟨rfl, rfl⟩ rfl rfl ?_
    refine On ?_
    refine AWR.cond rfl (fun hc15 => ?_) (fun hc15 => ?_)
    ·refine AWR.skip (AWR.block (AWR.draw mixed ?_))
     refine Dp10 (LT.move (v := (Iv s9.2)) rfl) rfl rfl rfl ?_
     refine Dp10 (LT.move (v := (Iv s9.1)) rfl) rfl rfl rfl ?_
     refine Dp10 (LT.move (v := (Iv s9.2)) rfl) rfl rfl rfl ?_
     refine AOD.bind fun u16 hu16 => ?_
     refine Dp20 (LT.rem rfl (nz_ne hu16)) rfl rfl rfl rfl ?_
     refine Dp10 (LT.assign (v := (Iv s9.2)) rfl) rfl rfl rfl ?_
     refine Dp10 (LT.assign (v := (Iv (Int.tmod s9.1 s9.2))) rfl) rfl rfl rfl ?_
     refine AOD.nil (by kernel_rfl) ?_
     refine AWR.blk ?_
     refine AWR.nil ⟨rfl, Ent.of ⟨rfl, rfl, trivial⟩ trivial⟩
    ·refine AWR.exit_end rfl ⟨rfl, Ent.of ⟨rfl, trivial⟩ trivial⟩
   ·refine Ws (Wr ?_)
    refine mv (Iv b14) rfl rfl rfl rfl ?_
    refine asg (Iv b14) rfl rfl rfl rfl ?_
    refine On ?_
    refine AWR.ret (FPost.mk (.inr rfl) ⟨rfl, trivial⟩ trivial rfl ⟨PermP.sc, trivial⟩ trivial)
theorem w_impl_PrimitiveVector (v : (List Int)) : ∀ t, m_impl_PrimitiveVector v = some t → Fw.Fn Try.prog 203 [(.c (xF encInt v))] [] (.s (.c (lo 0 t.length))) [(0, (pR 3 encInt t))] [] [0] := by
 refine Fw.Fn.of (P := Try.prog) (X := [0]) (pn := []) (rs := (fun (t : (List Int)) => [(.c (lo 0 t.length))])) (dfs := (fun (t : (List Int)) => [(0, (pR 3 encInt t))])) Try.func203 rfl Try.ntmps203 (Nat.le_of_ble_eq_true rfl) rfl ?_
 intro w0 U0 R0 g0
 unfold m_impl_PrimitiveVector
 refine Ws (Wr ?_)
 refine asg (Cc (sC nilV)) rfl ⟨rfl, rfl⟩ rfl rfl ?_
 refine On (Ws (Wr ?_))
 refine mv (Cc (xF encInt v)) rfl rfl rfl rfl ?_
 refine Ob' fun r1 hr1 => ?_
 refine AOR.step (@LT.callF Try.prog _ _ 114 _ _ [(.c (xF encInt v))] _ _ [] _ _ _ _ ((show Fw.Fn Try.prog 114 [(.c (xF encInt v))] [] (Cc (lo 22 r1.length)) [(22, (pR 3 encInt r1))] [] [22] from Fw.Fn.ren [(0, 22)] (w_impl_copyInts v r1 hr1) rfl)) rfl cb114 (.cons (.c (.same rfl)) .nil) rfl rfl trivial) ⟨rfl, rfl, trivial⟩ trivial rfl rfl ?_
 refine asg (Cc (lo 22 r1.length)) rfl rfl rfl rfl ?_
 refine On (Ws (Wr ?_))
 refine asg (Iv 0) rfl ⟨rfl, rfl⟩ rfl rfl ?_
 refine asg (Iv 0) rfl ⟨rfl, rfl⟩ rfl rfl ?_
 refine On (Ws (Ws (Wr ?_)))
 refine mv (Cc (xF encInt v)) rfl rfl rfl rfl ?_
 refine Op10 (LT.tlenRO rfl und37) rfl rfl rfl ?_
 refine mv (Iv 0) rfl ⟨rfl, rfl⟩ rfl rfl ?_
 refine On (AWR.block ?_)
 refine AWR.loopR (id := 0) (m_impl_PrimitiveVector_L1 v r1) (fun s2 => ([(3, (Cc (lo 22 r1.length))), (4, (Iv s2.1)), (5, (Iv s2.2.1)), (11, (Cc (xF encInt v))), (12, (Iv (v.length : Int))), (13, (Iv s2.2.2))], [(22, (pR 3 encInt r1))])) (fun b19 => ([(3, (Cc (lo 22 b19.2.2.length))), (4, (Iv b19.1)), (5, (Iv b19.2.1))], [(22, (pR 3 encInt b19.2.2))])) (FPost Try.prog Try.f203.results.toList [] [0] (fun (t : (List Int)) => [(.c (lo 0 t.length))]) (fun (t : (List Int)) => [(0, (pR 3 encInt t))])) ?_ (Ent.of ⟨rfl, rfl, rfl, rfl, rfl, rfl, trivial⟩ ⟨rfl, trivial⟩) rfl (fun b19 _ => ?_) (by intro r t σ m ht hk; injection ht with ht; subst ht; exact hk)
 ·intro s2
  unfold m_impl_PrimitiveVector_L1
  refine Ws (Wr ?_)
  refine Op20 (LT.lss rfl) rfl rfl rfl rfl ?_
  refine On (Ws ?_)
  refine AWR.cond rfl (fun hc20 => ?_) (fun hc20 => ?_)
  ·refine AWR.skip (Ws (AWR.block (Ws (Wr ?_))))
   refine Ob' fun x21 hx21 => ?_
   refine Op20 (LT.tindexRO (enc := encInt) rfl el37 hx21 sz3) rfl rfl rfl rfl ?_
   refine Op10 (LT.loadPx1 rfl ag3) rfl rfl rfl ?_
   refine asg (Iv x21) rfl rfl rfl rfl ?_
   refine On (Ws (Ws (Wr ?_)))
   refine mv (Iv x21) rfl rfl rfl rfl ?_
   refine Ob' fun r22 hr22 => ?_
   refine AOR.pure (@LT.callF Try.prog _ _ 235 _ _ [(.c (iC x21))] _ _ [] _ _ _ _ (w_impl_isGreat x21 r22 hr22) rfl cb235 (.cons (.c (.same rfl)) .nil) rfl rfl trivial) ⟨rfl, rfl, trivial⟩ trivial rfl rfl ?_
   refine On ?_
   refine AWR.cond rfl (fun hc23 => ?_) (fun hc23 => ?_)
   ·refine Ws (Wr ?_)
    refine mv (Cc (lo 22 r1.length)) rfl rfl rfl rfl ?_
    refine asg (Cc (lo 22 r1.length)) rfl rfl rfl rfl ?_
    refine On ?_
    refine en [(2, (Cc (lo 22 r1.length)))] [(22, (pR 3 encInt r1))] ⟨rfl, trivial⟩ ⟨rfl, trivial⟩ ?_
    refine AWR.ent (Ent.mv 22 0 rfl rfl) ?_
    refine en [(2, (Cc (lo 0 r1.length)))] [(0, (pR 3 encInt r1))] ⟨rfl, trivial⟩ ⟨rfl, trivial⟩ ?_
    refine AWR.ret ⟨rfl, FPost.mk (.inr rfl) ⟨rfl, trivial⟩ ⟨rfl, trivial⟩ rfl ⟨trivial, trivial⟩ ⟨PermO.prow' perm_encInt, trivial⟩⟩
   ·refine AWR.skip (Ws (Wr ?_))
    refine mv (Iv s2.1) rfl rfl rfl rfl ?_
    refine mv (Iv x21) rfl rfl rfl rfl ?_
    refine Ob' fun r24 hr24 => ?_
    refine AOR.pure (@LT.callF Try.prog _ _ 236 _ _ [(.c (iC s2.1)), (.c (iC x21))] _ _ [] _ _ _ _ (w_impl_GcdOf s2.1 x21 r24 hr24) rfl cb236 (.cons (.c (.same rfl)) (.cons (.c (.same rfl)) .nil)) rfl rfl trivial) ⟨rfl, rfl, rfl, trivial⟩ trivial rfl rfl ?_
    refine asg (Iv r24) rfl rfl rfl rfl ?_
    refine On (Ws (Wr ?_))
    refine mv (Iv s2.2.1) rfl rfl rfl rfl ?_
    refine Op20 (LT.eql rfl) rfl ⟨rfl, rfl⟩ rfl rfl ?_
    refine On ?_
    refine AWR.joinK (fun j26 => ([(3, (Cc (lo 22 r1.length))), (4, (Iv r24)), (5, (Iv j26)), (11, (Cc (xF encInt v))), (12, (Iv (v.length : Int))), (13, (Iv s2.2.2))], [(22, (pR 3 encInt r1))])) ?_ (fun j26 _ => ?_)
    ·refine AWR.cond rfl (fun hc27 => ?_) (fun hc27 => ?_)
     ·refine en [(3, (Cc (lo 22 r1.length))), (4, (Iv r24)), (7, (Iv x21)), (11, (Cc (xF encInt v))), (12, (Iv (v.length : Int))), (13, (Iv s2.2.2))] [(22, (pR 3 encInt r1))] ⟨rfl, rfl, rfl, rfl, rfl, rfl, trivial⟩ ⟨rfl, trivial⟩ ?_
      refine Wr ?_
      refine mv (Iv x21) rfl rfl rfl rfl ?_
      refine asg (Iv x21) rfl rfl rfl rfl ?_
      refine On ?_
      refine AWR.nil ⟨rfl, Ent.of ⟨rfl, rfl, rfl, rfl, rfl, rfl, trivial⟩ ⟨rfl, trivial⟩⟩
     ·refine AWR.skip ?_
      refine AWR.nil ⟨rfl, Ent.of ⟨rfl, rfl, rfl, rfl, rfl, rfl, trivial⟩ ⟨rfl, trivial⟩⟩
    ·refine AWR.blk (Wr ?_)
     refine Op20 (LT.add rfl) rfl ⟨rfl, rfl⟩ rfl rfl ?_
     refine mv (Iv (w64 (s2.2.2 + 1))) rfl rfl rfl rfl ?_
     refine On ?_
     refine AWR.nil ⟨rfl, Ent.of ⟨rfl, rfl, rfl, rfl, rfl, rfl, trivial⟩ ⟨rfl, trivial⟩⟩
  ·refine AWR.exit_end rfl ⟨rfl, Ent.of ⟨rfl, rfl, rfl, trivial⟩ ⟨rfl, trivial⟩⟩
 ·refine Ws (Ws (Wr ?_))
  refine mv (Iv b19.1) rfl rfl rfl rfl ?_
  refine Op20 (LT.eql rfl) rfl ⟨rfl, rfl⟩ rfl rfl ?_
  refine On ?_
  refine AWR.cond rfl (fun hc28 => ?_) (fun hc28 => ?_)
  ·refine Ws (Wr ?_)
   refine mv (Cc (lo 22 b19.2.2.length)) rfl rfl rfl rfl ?_
   refine asg (Cc (lo 22 b19.2.2.length)) rfl rfl rfl rfl ?_
   refine On ?_
   refine en [(2, (Cc (lo 22 b19.2.2.length)))] [(22, (pR 3 encInt b19.2.2))] ⟨rfl, trivial⟩ ⟨rfl, trivial⟩ ?_
   refine AWR.ent (Ent.mv 22 0 rfl rfl) ?_
   refine en [(2, (Cc (lo 0 b19.2.2.length)))] [(0, (pR 3 encInt b19.2.2))] ⟨rfl, trivial⟩ ⟨rfl, trivial⟩ ?_
   refine AWR.ret (FPost.mk (.inr rfl) ⟨rfl, trivial⟩ ⟨rfl, trivial⟩ rfl ⟨trivial, trivial⟩ ⟨PermO.prow' perm_encInt, trivial⟩)
  ·refine AWR.skip (Ws (Ws (Wr ?_)))
   refine mv (Iv b19.2.1) rfl rfl rfl rfl ?_
   refine Op20 (LT.lss rfl) rfl ⟨rfl, rfl⟩ rfl rfl ?_
   refine On ?_
   refine AWR.joinK (fun j30 => ([(3, (Cc (lo 22 b19.2.2.length))), (4, (Iv j30))], [(22, (pR 3 encInt b19.2.2))])) ?_ (fun j30 _ => ?_)
   ·refine AWR.cond rfl (fun hc31 => ?_) (fun hc31 => ?_)
    ·refine Wr ?_
     refine mv (Iv b19.1) rfl rfl rfl rfl ?_
     refine Op10 (LT.neg rfl) rfl rfl rfl ?_
     refine asg (Iv (w64 (-b19.1))) rfl rfl rfl rfl ?_
     refine On ?_
     refine AWR.nil ⟨rfl, Ent.of ⟨rfl, rfl, trivial⟩ ⟨rfl, trivial⟩⟩
    ·refine AWR.skip ?_
     refine AWR.nil ⟨rfl, Ent.of ⟨rfl, rfl, trivial⟩ ⟨rfl, trivial⟩⟩
   ·refine Ws (Ws (Wr ?_))
    refine mv (Cc (lo 22 b19.2.2.length)) rfl rfl rfl rfl ?_
    refine Op10 (LT.lenLoc rfl und37) rfl rfl rfl ?_
    refine mv (Iv 0) rfl ⟨rfl, rfl⟩ rfl rfl ?_
    refine On (AWR.block ?_)
    refine AWR.loop1 (id := 2) (m_impl_PrimitiveVector_L2 b19 j30) (fun s32 => ([(3, (Cc (lo 22 s32.2.length))), (4, (Iv j30)), (35, (Iv (b19.2.2.length : Int))), (36, (Iv s32.1))], [(22, (pR 3 encInt s32.2))])) (fun b41 => ([(3, (Cc (lo 22 b41.length)))], [(22, (pR 3 encInt b41))])) ?_ (Ent.of ⟨rfl, rfl, rfl, rfl, trivial⟩ ⟨rfl, trivial⟩) rfl (fun b41 _ => ?_)
    ·intro s32
     unfold m_impl_PrimitiveVector_L2
     refine Ws (Wr ?_)
     refine Op20 (LT.lss rfl) rfl rfl rfl rfl ?_
     refine On (Ws ?_)
     refine AWR.cond rfl (fun hc42 => ?_) (fun hc42 => ?_)
     ·refine AWR.skip (Ws (AWR.block (Ws (Wr ?_))))
      refine mv (Iv s32.1) rfl rfl rfl rfl ?_
      refine asg (Iv s32.1) rfl rfl rfl rfl ?_
      refine On (Wr ?_)
      refine mv (Cc (lo 22 s32.2.length)) rfl rfl rfl rfl ?_
      refine mv (Iv s32.1) rfl rfl rfl rfl ?_
      refine mv (Cc (lo 22 s32.2.length)) rfl rfl rfl rfl ?_
      refine mv (Iv s32.1) rfl rfl rfl rfl ?_
      refine Ob' fun x43 hx43 => ?_
      refine Op21 (LT.tindexLoc rfl rfl el37 hx43) rfl rfl rfl rfl rfl ?_
      refine Op11 (LT.tload1 (k := 0) rfl ag3 hx43 (by exact rfl) (by exact rfl)) rfl rfl rfl rfl ?_
      refine mv (Iv j30) rfl rfl rfl rfl ?_
      refine Ob' fun u44 hu44 => ?_
      refine Op20 (LT.quo rfl (nz_ne hu44)) rfl rfl rfl rfl ?_
      refine Ob' fun x45 hx45 => ?_
      refine Op21 (LT.tindexLoc rfl rfl el37 hx45) rfl rfl rfl rfl rfl ?_
      refine Os21 (LT.tstore (k := 0) (v := (.c (iC (w64 (Int.tdiv x43 j30))))) (b' := (w64 (Int.tdiv x43 j30))) rfl rfl (infS inf3) sz3 (by exact rfl) hx45 (by exact rfl) (by exact Nat.le_of_ble_eq_true rfl) (by exact rfl)) rfl rfl rfl rfl rfl ?_
      refine On (AWR.blk ?_)
      refine en [(3, (Cc (lo 22 s32.2.length))), (4, (Iv j30)), (35, (Iv (b19.2.2.length : Int))), (36, (Iv s32.1))] [(22, (pR 3 encInt (s32.2.set s32.1.toNat (w64 (Int.tdiv x43 j30)))))] ⟨rfl, rfl, rfl, rfl, trivial⟩ ⟨rfl, trivial⟩ ?_
      refine Wr ?_
      refine Op20 (LT.add rfl) rfl ⟨rfl, rfl⟩ rfl rfl ?_
      refine mv (Iv (w64 (s32.1 + 1))) rfl rfl rfl rfl ?_
      refine On ?_
      refine AWR.nil ⟨rfl, Ent.of ⟨(congrArg (fun l1 => (some (AV.s (.c (lo 22 l1))) : Option AV)) (show s32.2.length = (s32.2.set s32.1.toNat (w64 (Int.tdiv x43 j30))).length by simp only [List.length_set])), rfl, rfl, rfl, trivial⟩ ⟨rfl, trivial⟩⟩
     ·refine AWR.exit_end rfl ⟨rfl, Ent.of ⟨rfl, trivial⟩ ⟨rfl, trivial⟩⟩
    ·refine Ws (Wr ?_)
     refine mv (Cc (lo 22 b41.length)) rfl rfl rfl rfl ?_
     refine asg (Cc (lo 22 b41.length)) rfl rfl rfl rfl ?_
     refine On ?_
     refine en [(2, (Cc (lo 22 b41.length)))] [(22, (pR 3 encInt b41))] ⟨rfl, trivial⟩ ⟨rfl, trivial⟩ ?_
     refine AWR.ent (Ent.mv 22 0 rfl rfl) ?_
     refine en [(2, (Cc (lo 0 b41.length)))] [(0, (pR 3 encInt b41))] ⟨rfl, trivial⟩ ⟨rfl, trivial⟩ ?_
     refine AWR.ret (FPost.mk (.inr rfl) ⟨rfl, trivial⟩ ⟨rfl, trivial⟩ rfl ⟨trivial, trivial⟩ ⟨PermO.prow' perm_encInt, trivial⟩)
theorem w_impl_nullspace (m : (List (List Int))) (columns : Int) : ∀ t, m_impl_nullspace m columns = some t → Fw.Fn Try.prog 105 [(.c (xF (encLInt false) m)), (.c (iC columns))] [] (.s (.c (lo 0 t.length))) [(0, (.trow 37 1 (lensOf t))), (1, (.pool 3 (rowsOf encInt t)))] [] [0, 1] := by
 refine Fw.Fn.of (P := Try.prog) (X := [0, 1]) (pn := []) (rs := (fun (t : (List (List Int))) => [(.c (lo 0 t.length))])) (dfs := (fun (t : (List (List Int))) => [(0, (.trow 37 1 (lensOf t))), (1, (.pool 3 (rowsOf encInt t)))])) Try.func105 rfl Try.ntmps105 (Nat.le_of_ble_eq_true rfl) rfl ?_
 intro w0 U0 R0 g0
 unfold m_impl_nullspace
 refine Ws (Wr ?_)
 refine asg (Cc (sC nilV)) rfl ⟨rfl, rfl⟩ rfl rfl ?_
 refine On (Ws (Wr ?_))
 refine mv (Cc (xF (encLInt false) m)) rfl rfl rfl rfl ?_
 refine mv (Iv columns) rfl rfl rfl rfl ?_
 refine Ob' fun r1 hr1 => ?_
 refine AOR.step (@LT.callF Try.prog _ _ 202 _ _ [(.c (xF (encLInt false) m)), (.c (iC columns))] _ _ [] _ _ _ _ ((show Fw.Fn Try.prog 202 [(.c (xF (encLInt false) m)), (.c (iC columns))] [] (.tup [(.c (lo 22 r1.1.length)), (.c (lo 24 r1.2.1.length)), (.c (iC r1.2.2))]) [(22, (.trow 37 23 (lensOf r1.1))), (23, (.pool 3 (rowsOf encInt r1.1))), (24, (pR 3 encInt r1.2.1))] [] [22, 23, 24] from Fw.Fn.ren [(0, 22), (1, 23), (2, 24)] (w_impl_reduced m columns r1 hr1) rfl)) rfl cb202 (.cons (.c (.same rfl)) (.cons (.c (.same rfl)) .nil)) rfl rfl trivial) ⟨rfl, rfl, rfl, trivial⟩ trivial rfl rfl ?_
 refine mv (.tup [(.c (lo 22 r1.1.length)), (.c (lo 24 r1.2.1.length)), (.c (iC r1.2.2))]) rfl rfl rfl rfl ?_
 refine Op10 (LT.extract (v := (.c (lo 22 r1.1.length))) rfl (by exact rfl)) rfl rfl rfl ?_
 refine Op10 (LT.extract (v := (.c (lo 24 r1.2.1.length))) rfl (by exact rfl)) rfl rfl rfl ?_
 refine Op10 (LT.extract (v := (.c (iC r1.2.2))) rfl (by exact rfl)) rfl rfl rfl ?_
 refine asg (Cc (lo 22 r1.1.length)) rfl rfl rfl rfl ?_
 refine asg (Cc (lo 24 r1.2.1.length)) rfl rfl rfl rfl ?_
 refine asg (Iv r1.2.2) rfl rfl rfl rfl ?_
 refine On (Ws ?_)
 refine en [(1, (Iv columns)), (5, (Cc (lo 22 r1.1.length))), (6, (Cc (lo 24 r1.2.1.length))), (7, (Iv r1.2.2))] [(22, (.trow 37 23 (lensOf r1.1))), (23, (.pool 3 (rowsOf encInt r1.1))), (24, (pR 3 encInt r1.2.1))] ⟨rfl, rfl, rfl, rfl, trivial⟩ ⟨rfl, rfl, rfl, trivial⟩ ?_
 refine Wr ?_
 refine mv (Iv columns) rfl rfl rfl rfl ?_
 refine Ob' fun u2 hu2 => ?_
 refine Os20 (LT.tmake (n := 25) (enc := encInt) (zc := [(iC 0)]) (0 : Int) rfl und37 ti3 rfl rfl rfl (by decide) (by decide) (lenOk_le hu2) rfl) rfl rfl rfl rfl ?_
 refine asg (Cc (lo 25 ((List.replicate columns.toNat (0 : Int)).length))) rfl rfl rfl rfl ?_
 refine On (Ws (Ws (Wr ?_)))
 refine mv (Cc (lo 25 ((List.replicate columns.toNat (0 : Int)).length))) rfl rfl rfl rfl ?_
 refine Op10 (LT.lenLoc rfl und37) rfl rfl rfl ?_
 refine mv (Iv 0) rfl ⟨rfl, rfl⟩ rfl rfl ?_
 refine On (AWR.block ?_)
 refine AWR.loop1 (id := 0) (m_impl_nullspace_L1 columns r1) (fun s3 => ([(1, (Iv columns)), (5, (Cc (lo 22 r1.1.length))), (6, (Cc (lo 24 r1.2.1.length))), (7, (Iv r1.2.2)), (8, (Cc (lo 25 s3.2.length))), (26, (Iv ((List.replicate columns.toNat (0 : Int)).length : Int))), (27, (Iv s3.1))], [(22, (.trow 37 23 (lensOf r1.1))), (23, (.pool 3 (rowsOf encInt r1.1))), (24, (pR 3 encInt r1.2.1)), (25, (pR 3 encInt s3.2))])) (fun b8 => ([(1, (Iv columns)), (5, (Cc (lo 22 b8.2.1.length))), (6, (Cc (lo 24 b8.2.2.1.length))), (7, (Iv b8.1)), (8, (Cc (lo 25 b8.2.2.2.length)))], [(22, (.trow 37 23 (lensOf b8.2.1))), (23, (.pool 3 (rowsOf encInt b8.2.1))), (24, (pR 3 encInt b8.2.2.1)), (25, (pR 3 encInt b8.2.2.2))])) ?_ (Ent.of ⟨rfl, rfl, rfl, rfl, rfl, rfl, rfl, trivial⟩ ⟨rfl, rfl, rfl, rfl, trivial⟩) rfl (fun b8 _ => ?_)
 ·intro s3
  unfold m_impl_nullspace_L1
  refine Ws (Wr ?_)
  refine Op20 (LT.lss rfl) rfl rfl rfl rfl ?_
  refine On (Ws ?_)
  refine AWR.cond rfl (fun hc9 => ?_) (fun hc9 => ?_)
  ·refine AWR.skip (Ws (AWR.block (Ws (Wr ?_))))
   refine mv (Iv s3.1) rfl rfl rfl rfl ?_
   refine asg (Iv s3.1) rfl rfl rfl rfl ?_
   refine On (Wr ?_)
   refine mv (Cc (lo 25 s3.2.length)) rfl rfl rfl rfl ?_
   refine mv (Iv s3.1) rfl rfl rfl rfl ?_
   refine Ob' fun x10 hx10 => ?_
   refine Op21 (LT.tindexLoc rfl rfl el37 hx10) rfl rfl rfl rfl rfl ?_
   refine Os21 (LT.tstore (k := 0) (v := (.c (iC (-1)))) (b' := (-1)) rfl rfl (infS inf3) sz3 (by exact rfl) hx10 (by exact rfl) (by exact Nat.le_of_ble_eq_true rfl) (by exact rfl)) rfl ⟨rfl, rfl⟩ rfl rfl rfl ?_
   refine On (AWR.blk (Wr ?_))
   refine Op20 (LT.add rfl) rfl ⟨rfl, rfl⟩ rfl rfl ?_
   refine mv (Iv (w64 (s3.1 + 1))) rfl rfl rfl rfl ?_
   refine On ?_
   refine AWR.nil ⟨rfl, Ent.of ⟨rfl, rfl, rfl, rfl, (congrArg (fun l1 => (some (AV.s (.c (lo 25 l1))) : Option AV)) (show s3.2.length = (s3.2.set s3.1.toNat (-1)).length by simp only [List.length_set])), rfl, rfl, trivial⟩ ⟨rfl, rfl, rfl, rfl, trivial⟩⟩
  ·refine AWR.exit_end rfl ⟨rfl, Ent.of ⟨rfl, rfl, rfl, rfl, rfl, trivial⟩ ⟨rfl, rfl, rfl, rfl, trivial⟩⟩
 ·refine Ws (Ws (Wr ?_))
  refine mv (Cc (lo 24 b8.2.2.1.length)) rfl rfl rfl rfl ?_
  refine Op10 (LT.lenLoc rfl und37) rfl rfl rfl ?_
  refine mv (Iv 0) rfl ⟨rfl, rfl⟩ rfl rfl ?_
  refine On (AWR.block ?_)
  refine AWR.loop1 (id := 2) (m_impl_nullspace_L2 b8) (fun s11 => ([(1, (Iv columns)), (5, (Cc (lo 22 b8.2.1.length))), (7, (Iv b8.1)), (8, (Cc (lo 25 s11.2.length))), (34, (Cc (lo 24 b8.2.2.1.length))), (35, (Iv (b8.2.2.1.length : Int))), (36, (Iv s11.1))], [(22, (.trow 37 23 (lensOf b8.2.1))), (23, (.pool 3 (rowsOf encInt b8.2.1))), (24, (pR 3 encInt b8.2.2.1)), (25, (pR 3 encInt s11.2))])) (fun b18 => ([(1, (Iv columns)), (5, (Cc (lo 22 b18.2.1.length))), (7, (Iv b18.1)), (8, (Cc (lo 25 b18.2.2.length)))], [(22, (.trow 37 23 (lensOf b18.2.1))), (23, (.pool 3 (rowsOf encInt b18.2.1))), (25, (pR 3 encInt b18.2.2))])) ?_ (Ent.of ⟨rfl, rfl, rfl, rfl, rfl, rfl, rfl, trivial⟩ ⟨rfl, rfl, rfl, rfl, trivial⟩) rfl (fun b18 _ => ?_)
  ·intro s11
   unfold m_impl_nullspace_L2
   refine Ws (Wr ?_)
   refine Op20 (LT.lss rfl) rfl rfl rfl rfl ?_
   refine On (Ws ?_)
   refine AWR.cond rfl (fun hc19 => ?_) (fun hc19 => ?_)
   ·refine AWR.skip (Ws (AWR.block (Ws (Wr ?_))))
    refine mv (Iv s11.1) rfl rfl rfl rfl ?_
    refine Ob' fun x20 hx20 => ?_
    refine Op21 (LT.tindexLoc rfl rfl el37 hx20) rfl rfl rfl rfl rfl ?_
    refine Op11 (LT.tload1 (k := 0) rfl ag3 hx20 (by exact rfl) (by exact rfl)) rfl rfl rfl rfl ?_
    refine asg (Iv s11.1) rfl rfl rfl rfl ?_
    refine asg (Iv x20) rfl rfl rfl rfl ?_
    refine On (Wr ?_)
    refine mv (Cc (lo 25 s11.2.length)) rfl rfl rfl rfl ?_
    refine mv (Iv x20) rfl rfl rfl rfl ?_
    refine mv (Iv s11.1) rfl rfl rfl rfl ?_
    refine Ob' fun x21 hx21 => ?_
    refine Op21 (LT.tindexLoc rfl rfl el37 hx21) rfl rfl rfl rfl rfl ?_
    refine Os21 (LT.tstore (k := 0) (v := (.c (iC s11.1))) (b' := s11.1) rfl rfl (infS inf3) sz3 (by exact rfl) hx21 (by exact rfl) (by exact Nat.le_of_ble_eq_true rfl) (by exact rfl)) rfl rfl rfl rfl rfl ?_
    refine On (AWR.blk ?_)
    refine en [(1, (Iv columns)), (5, (Cc (lo 22 b8.2.1.length))), (7, (Iv b8.1)), (8, (Cc (lo 25 s11.2.length))), (34, (Cc (lo 24 b8.2.2.1.length))), (35, (Iv (b8.2.2.1.length : Int))), (36, (Iv s11.1))] [(22, (.trow 37 23 (lensOf b8.2.1))), (23, (.pool 3 (rowsOf encInt b8.2.1))), (24, (pR 3 encInt b8.2.2.1)), (25, (pR 3 encInt (s11.2.set x20.toNat s11.1)))] ⟨rfl, rfl, rfl, rfl, rfl, rfl, rfl, trivial⟩ ⟨rfl, rfl, rfl, rfl, trivial⟩ ?_
    refine Wr ?_
    refine Op20 (LT.add rfl) rfl ⟨rfl, rfl⟩ rfl rfl ?_
    refine mv (Iv (w64 (s11.1 + 1))) rfl rfl rfl rfl ?_
    refine On ?_
    refine AWR.nil ⟨rfl, Ent.of ⟨rfl, rfl, rfl, (congrArg (fun l1 => (some (AV.s (.c (lo 25 l1))) : Option AV)) (show s11.2.length = (s11.2.set x20.toNat s11.1).length by simp only [List.length_set])), rfl, rfl, rfl, trivial⟩ ⟨rfl, rfl, rfl, rfl, trivial⟩⟩
   ·refine AWR.exit_end rfl ⟨rfl, Ent.of ⟨rfl, rfl, rfl, rfl, trivial⟩ ⟨rfl, rfl, rfl, trivial⟩⟩
  ·refine Ws (Wr ?_)
   refine Os00 (LT.buildSlice (n := 26) (els := []) [] rfl rfl und31 ti37 rfl rfl rfl rfl (by decide) rfl rfl) rfl rfl ?_
   refine asg (Cc (lo 26 0)) rfl rfl rfl rfl ?_
   refine On ?_
   refine AWR.ent (Ent.poolE 27 3 rfl) ?_
   refine AWR.ent (Ent.trow (n := 26) (p := 27) (lens := lensOf ([] : List (List Int))) (List.append_nil _) rfl) ?_
   refine Ws (Ws (Wr ?_))
   refine mv (Iv columns) rfl rfl rfl rfl ?_
   refine mv (Iv 0) rfl ⟨rfl, rfl⟩ rfl rfl ?_
   refine On (AWR.block ?_)
   refine AWR.loop1 (id := 4) (m_impl_nullspace_L5 columns) (fun s22 => ([(1, (Iv columns)), (5, (Cc (lo 22 s22.2.2.2.1.length))), (7, (Iv s22.2.1)), (8, (Cc (lo 25 s22.2.2.1.length))), (12, (Cc (lo 26 s22.2.2.2.2.length))), (47, (Iv columns)), (48, (Iv s22.1))], [(22, (.trow 37 23 (lensOf s22.2.2.2.1))), (23, (.pool 3 (rowsOf encInt s22.2.2.2.1))), (25, (pR 3 encInt s22.2.2.1)), (26, (.trow 37 27 (lensOf s22.2.2.2.2))), (27, (.pool 3 (rowsOf encInt s22.2.2.2.2)))])) (fun b93 => ([(12, (Cc (lo 26 b93.length)))], [(26, (.trow 37 27 (lensOf b93))), (27, (.pool 3 (rowsOf encInt b93)))])) ?_ (Ent.of ⟨rfl, rfl, rfl, rfl, rfl, rfl, rfl, trivial⟩ ⟨rfl, rfl, rfl, rfl, rfl, trivial⟩) rfl (fun b93 _ => ?_)
   ·intro s22
    unfold m_impl_nullspace_L5
    refine Ws (Wr ?_)
    refine Op20 (LT.lss rfl) rfl rfl rfl rfl ?_
    refine On (Ws ?_)
    refine AWR.cond rfl (fun hc94 => ?_) (fun hc94 => ?_)
    ·refine AWR.skip (Ws (AWR.block (Ws (Wr ?_))))
     refine mv (Iv s22.1) rfl rfl rfl rfl ?_
     refine asg (Iv s22.1) rfl rfl rfl rfl ?_
     refine On (Ws (Ws (Wr ?_)))
     refine mv (Cc (lo 25 s22.2.2.1.length)) rfl rfl rfl rfl ?_
     refine mv (Iv s22.1) rfl rfl rfl rfl ?_
     refine Ob' fun x95 hx95 => ?_
     refine Op21 (LT.tindexLoc rfl rfl el37 hx95) rfl rfl rfl rfl rfl ?_
     refine Op11 (LT.tload1 (k := 0) rfl ag3 hx95 (by exact rfl) (by exact rfl)) rfl rfl rfl rfl ?_
     refine Op20 (LT.geq rfl) rfl ⟨rfl, rfl⟩ rfl rfl ?_
     refine On ?_
     refine AWR.cond rfl (fun hc96 => ?_) (fun hc96 => ?_)
     ·refine AWR.exit rfl (Wr ?_)
      refine Op20 (LT.add rfl) rfl ⟨rfl, rfl⟩ rfl rfl ?_
      refine mv (Iv (w64 (s22.1 + 1))) rfl rfl rfl rfl ?_
      refine On ?_
      refine AWR.nil ⟨rfl, Ent.of ⟨rfl, rfl, rfl, rfl, rfl, rfl, rfl, trivial⟩ ⟨rfl, rfl, rfl, rfl, rfl, trivial⟩⟩
     ·refine AWR.skip (Ws (Wr ?_))
      refine mv (Iv columns) rfl rfl rfl rfl ?_
      refine Ob' fun u97 hu97 => ?_
      refine Os20 (LT.tmake (n := 28) (enc := encInt) (zc := [(iC 0)]) (0 : Int) rfl und37 ti3 rfl rfl rfl (by decide) (by decide) (lenOk_le hu97) rfl) rfl rfl rfl rfl ?_
      refine asg (Cc (lo 28 ((List.replicate columns.toNat (0 : Int)).length))) rfl rfl rfl rfl ?_
      refine On (Ws ?_)
      refine en [(1, (Iv columns)), (5, (Cc (lo 22 s22.2.2.2.1.length))), (7, (Iv s22.2.1)), (8, (Cc (lo 25 s22.2.2.1.length))), (12, (Cc (lo 26 s22.2.2.2.2.length))), (13, (Iv s22.1)), (14, (Cc (lo 28 ((List.replicate columns.toNat (0 : Int)).length)))), (47, (Iv columns)), (48, (Iv s22.1))] [(22, (.trow 37 23 (lensOf s22.2.2.2.1))), (23, (.pool 3 (rowsOf encInt s22.2.2.2.1))), (25, (pR 3 encInt s22.2.2.1)), (26, (.trow 37 27 (lensOf s22.2.2.2.2))), (27, (.pool 3 (rowsOf encInt s22.2.2.2.2))), (28, (pR 3 encInt (List.replicate columns.toNat (0 : Int))))] ⟨rfl, rfl, rfl, rfl, rfl, rfl, rfl, rfl, rfl, trivial⟩ ⟨rfl, rfl, rfl, rfl, rfl, rfl, trivial⟩ ?_
      refine Wr ?_
      refine mv (Cc (lo 28 ((List.replicate columns.toNat (0 : Int)).length))) rfl rfl rfl rfl ?_
      refine mv (Iv s22.1) rfl rfl rfl rfl ?_
      refine mv (Iv s22.2.1) rfl rfl rfl rfl ?_
      refine Ob' fun x98 hx98 => ?_
      refine Op21 (LT.tindexLoc rfl rfl el37 hx98) rfl rfl rfl rfl rfl ?_
      refine Os21 (LT.tstore (k := 0) (v := (.c (iC s22.2.1))) (b' := s22.2.1) rfl rfl (infS inf3) sz3 (by exact rfl) hx98 (by exact rfl) (by exact Nat.le_of_ble_eq_true rfl) (by exact rfl)) rfl rfl rfl rfl rfl ?_
      refine On (Ws (Ws (Wr ?_)))
      refine mv (Iv columns) rfl rfl rfl rfl ?_
      refine mv (Iv 0) rfl ⟨rfl, rfl⟩ rfl rfl ?_
      refine On (AWR.block ?_)
      refine AWR.loop1 (id := 6) (m_impl_nullspace_L6 columns s22) (fun s99 => ([(1, (Iv columns)), (5, (Cc (lo 22 s22.2.2.2.1.length))), (7, (Iv s22.2.1)), (8, (Cc (lo 25 s22.2.2.1.length))), (12, (Cc (lo 26 s22.2.2.2.2.length))), (13, (Iv s22.1)), (14, (Cc (lo 28 s99.2.length))), (47, (Iv columns)), (48, (Iv s22.1)), (62, (Iv columns)), (63, (Iv s99.1))], [(22, (.trow 37 23 (lensOf s22.2.2.2.1))), (23, (.pool 3 (rowsOf encInt s22.2.2.2.1))), (25, (pR 3 encInt s22.2.2.1)), (26, (.trow 37 27 (lensOf s22.2.2.2.2))), (27, (.pool 3 (rowsOf encInt s22.2.2.2.2))), (28, (pR 3 encInt s99.2))])) (fun b126 => ([(1, (Iv columns)), (5, (Cc (lo 22 b126.2.2.1.length))), (7, (Iv b126.1)), (8, (Cc (lo 25 b126.2.2.2.1.length))), (12, (Cc (lo 26 b126.2.2.2.2.1.length))), (14, (Cc (lo 28 b126.2.2.2.2.2.length))), (47, (Iv columns)), (48, (Iv b126.2.1))], [(22, (.trow 37 23 (lensOf b126.2.2.1))), (23, (.pool 3 (rowsOf encInt b126.2.2.1))), (25, (pR 3 encInt b126.2.2.2.1)), (26, (.trow 37 27 (lensOf b126.2.2.2.2.1))), (27, (.pool 3 (rowsOf encInt b126.2.2.2.2.1))), (28, (pR 3 encInt b126.2.2.2.2.2))])) ?_ (Ent.of ⟨rfl, rfl, rfl, rfl, rfl, rfl, (congrArg (fun l1 => (some (AV.s (.c (lo 28 l1))) : Option AV)) (show (List.replicate columns.toNat (0 : Int)).length = ((List.replicate columns.toNat (0 : Int)).set s22.1.toNat s22.2.1).length by simp only [List.length_set])), rfl, rfl, rfl, rfl, trivial⟩ ⟨rfl, rfl, rfl, rfl, rfl, rfl, trivial⟩) rfl (fun b126 _ => ?_)
      ·intro s99
       unfold m_impl_nullspace_L6
       refine Ws (Wr ?_)
       refine Op20 (LT.lss rfl) rfl rfl rfl rfl ?_
       refine On (Ws ?_)
       refine AWR.cond rfl (fun hc127 => ?_) (fun hc127 => ?_)
       ·refine AWR.skip (Ws (AWR.block (Ws (Wr ?_))))
        refine mv (Iv s99.1) rfl rfl rfl rfl ?_
        refine asg (Iv s99.1) rfl rfl rfl rfl ?_
        refine On (Ws (Wr ?_))
        refine mv (Cc (lo 25 s22.2.2.1.length)) rfl rfl rfl rfl ?_
        refine mv (Iv s99.1) rfl rfl rfl rfl ?_
        refine Ob' fun x128 hx128 => ?_
        refine Op21 (LT.tindexLoc rfl rfl el37 hx128) rfl rfl rfl rfl rfl ?_
        refine Op11 (LT.tload1 (k := 0) rfl ag3 hx128 (by exact rfl) (by exact rfl)) rfl rfl rfl rfl ?_
        refine Op20 (LT.geq rfl) rfl ⟨rfl, rfl⟩ rfl rfl ?_
        refine On ?_
        refine AWR.joinK (fun j134 => ([(1, (Iv columns)), (5, (Cc (lo 22 s22.2.2.2.1.length))), (7, (Iv s22.2.1)), (8, (Cc (lo 25 s22.2.2.1.length))), (12, (Cc (lo 26 s22.2.2.2.2.length))), (13, (Iv s22.1)), (14, (Cc (lo 28 j134.length))), (47, (Iv columns)), (48, (Iv s22.1)), (62, (Iv columns)), (63, (Iv s99.1))], [(22, (.trow 37 23 (lensOf s22.2.2.2.1))), (23, (.pool 3 (rowsOf encInt s22.2.2.2.1))), (25, (pR 3 encInt s22.2.2.1)), (26, (.trow 37 27 (lensOf s22.2.2.2.2))), (27, (.pool 3 (rowsOf encInt s22.2.2.2.2))), (28, (pR 3 encInt j134))])) ?_ (fun j134 _ => ?_)
        ·refine AWR.cond rfl (fun hc135 => ?_) (fun hc135 => ?_)
         ·refine Wr ?_
          refine mv (Cc (lo 28 s99.2.length)) rfl rfl rfl rfl ?_
          refine mv (Iv s99.1) rfl rfl rfl rfl ?_
          refine mv (Cc (lo 22 s22.2.2.2.1.length)) rfl rfl rfl rfl ?_
          refine mv (Cc (lo 25 s22.2.2.1.length)) rfl rfl rfl rfl ?_
          refine mv (Iv s99.1) rfl rfl rfl rfl ?_
          refine Ob' fun x136 hx136 => ?_
          refine Op21 (LT.tindexLoc rfl rfl el37 hx136) rfl rfl rfl rfl rfl ?_
          refine Op11 (LT.tload1 (k := 0) rfl ag3 hx136 (by exact rfl) (by exact rfl)) rfl rfl rfl rfl ?_
          refine Ob' fun x137 hx137 => ?_
          refine Op21 (LT.xindex rfl rfl el31 hx137) rfl rfl rfl rfl rfl ?_
          refine Op11 (LT.xload rfl ag37 hx137 rfl) rfl rfl rfl rfl ?_
          refine mv (Iv s22.1) rfl rfl rfl rfl ?_
          refine Ob' fun x138 hx138 => ?_
          refine Op21 (LT.tlindex rfl rfl el37 (idx_get hx137) hx138) rfl rfl rfl rfl rfl ?_
          refine Op11 (LT.tlload1 (enc := encInt) (j := 0) rfl ag3 (idx_get hx137) hx138 (by exact rfl) (by exact rfl)) rfl rfl rfl rfl ?_
          refine Op10 (LT.neg rfl) rfl rfl rfl ?_
          refine Ob' fun x139 hx139 => ?_
          refine Op21 (LT.tindexLoc rfl rfl el37 hx139) rfl rfl rfl rfl rfl ?_
          refine Os21 (LT.tstore (k := 0) (v := (.c (iC (w64 (-x138))))) (b' := (w64 (-x138))) rfl rfl (infS inf3) sz3 (by exact rfl) hx139 (by exact rfl) (by exact Nat.le_of_ble_eq_true rfl) (by exact rfl)) rfl rfl rfl rfl rfl ?_
          refine On ?_
          refine AWR.nil ⟨rfl, Ent.of ⟨rfl, rfl, rfl, rfl, rfl, rfl, (congrArg (fun l1 => (some (AV.s (.c (lo 28 l1))) : Option AV)) (show s99.2.length = (s99.2.set s99.1.toNat (w64 (-x138))).length by simp only [List.length_set])), rfl, rfl, rfl, rfl, trivial⟩ ⟨rfl, rfl, rfl, rfl, rfl, rfl, trivial⟩⟩
         ·refine AWR.skip ?_
          refine AWR.nil ⟨rfl, Ent.of ⟨rfl, rfl, rfl, rfl, rfl, rfl, rfl, rfl, rfl, rfl, rfl, trivial⟩ ⟨rfl, rfl, rfl, rfl, rfl, rfl, trivial⟩⟩
        ·refine AWR.blk (Wr ?_)
         refine Op20 (LT.add rfl) rfl ⟨rfl, rfl⟩ rfl rfl ?_
         refine mv (Iv (w64 (s99.1 + 1))) rfl rfl rfl rfl ?_
         refine On ?_
         refine AWR.nil ⟨rfl, Ent.of ⟨rfl, rfl, rfl, rfl, rfl, rfl, rfl, rfl, rfl, rfl, rfl, trivial⟩ ⟨rfl, rfl, rfl, rfl, rfl, rfl, trivial⟩⟩
       ·refine AWR.exit_end rfl ⟨rfl, Ent.of ⟨rfl, rfl, rfl, rfl, rfl, rfl, rfl, rfl, trivial⟩ ⟨rfl, rfl, rfl, rfl, rfl, rfl, trivial⟩⟩
      ·refine Wr ?_
       refine mv (Cc (lo 26 b126.2.2.2.2.1.length)) rfl rfl rfl rfl ?_
       refine mv (Cc (lo 28 b126.2.2.2.2.2.length)) rfl rfl rfl rfl ?_
       refine Ob' fun r140 hr140 => ?_
       refine AOR.step (@LT.callF Try.prog _ _ 203 _ _ [(.c (lo 28 b126.2.2.2.2.2.length))] _ _ [(28, (pR 3 encInt b126.2.2.2.2.2))] _ _ _ _ ((show Fw.Fn Try.prog 203 [(.c (xF encInt b126.2.2.2.2.2))] [] (Cc (lo 30 r140.length)) [(30, (pR 3 encInt r140))] [] [30] from Fw.Fn.ren [(0, 30)] (w_impl_PrimitiveVector b126.2.2.2.2.2 r140 hr140) rfl)) rfl cb203 (.cons (.c (.tloc rfl rfl)) .nil) rfl rfl trivial) ⟨rfl, rfl, trivial⟩ ⟨rfl, trivial⟩ rfl rfl ?_
       refine Os10 (LT.buildSlice (n := 31) (els := [[(lo 30 r140.length)]]) [(0, .tmp 88, (.c (lo 30 r140.length)))] rfl rfl und31 ti37 rfl rfl rfl rfl (by decide) rfl rfl) rfl rfl rfl ?_
       refine Ob' fun u141 hu141 => ?_
       refine Os22 (LT.xapp rfl rfl rfl und31 ti37 rfl (by decide) (by decide) rfl (lim_le hu141)) rfl rfl rfl rfl rfl rfl ?_
       refine asg (Cc (lo 26 (b126.2.2.2.2.1.length + 1))) rfl rfl rfl rfl ?_
       refine On ?_
       refine AWR.ent (Ent.tadopt (enc := encInt) (n := 26) (m := 30) (p := 27) (rows := b126.2.2.2.2.1) (r := r140) (rest := []) rfl rfl rfl rfl rfl rfl) ?_
       refine AWR.ent (Ent.trow (n := 26) (p := 27) (lens := lensOf (b126.2.2.2.2.1 ++ [r140])) (List.append_nil _) rfl) ?_
       refine AWR.blk (Wr ?_)
       refine Op20 (LT.add rfl) rfl ⟨rfl, rfl⟩ rfl rfl ?_
       refine mv (Iv (w64 (b126.2.1 + 1))) rfl rfl rfl rfl ?_
       refine On ?_
       refine AWR.nil ⟨rfl, Ent.of ⟨rfl, rfl, rfl, rfl, (congrArg (fun l1 => (some (AV.s (.c (lo 26 l1))) : Option AV)) (show (b126.2.2.2.2.1.length + 1) = (b126.2.2.2.2.1 ++ [r140]).length from len_snoc)), rfl, rfl, trivial⟩ ⟨rfl, rfl, rfl, rfl, rfl, trivial⟩⟩
    ·refine AWR.exit_end rfl ⟨rfl, Ent.of ⟨rfl, trivial⟩ ⟨rfl, rfl, trivial⟩⟩
   ·refine Ws (Wr ?_)
    refine mv (Cc (lo 26 b93.length)) rfl rfl rfl rfl ?_
    refine asg (Cc (lo 26 b93.length)) rfl rfl rfl rfl ?_
    refine On ?_
    refine en [(4, (Cc (lo 26 b93.length)))] [(26, (.trow 37 27 (lensOf b93))), (27, (.pool 3 (rowsOf encInt b93)))] ⟨rfl, trivial⟩ ⟨rfl, rfl, trivial⟩ ?_
    refine AWR.ent (Ent.mv 26 0 rfl rfl) ?_
    refine AWR.ent (Ent.mv 27 1 rfl rfl) ?_
    refine en [(4, (Cc (lo 0 b93.length)))] [(0, (.trow 37 1 (lensOf b93))), (1, (.pool 3 (rowsOf encInt b93)))] ⟨rfl, trivial⟩ ⟨rfl, rfl, trivial⟩ ?_
    refine AWR.ret (FPost.mk (.inr rfl) ⟨rfl, trivial⟩ ⟨rfl, rfl, trivial⟩ rfl ⟨trivial, trivial⟩ ⟨trivial, PermO.poolR perm_encInt _, trivial⟩)
theorem w_spec_l2Has (l : (List Int)) (x : Int) : ∀ t, m_spec_l2Has l x = some t → Fw.Fn Try.prog 204 [(.c (xF encInt l)), (.c (iC x))] [] (.s (.c (bC t))) [] [] [] := by
 refine Fw.Fn.of (P := Try.prog) (X := []) (pn := []) (rs := (fun (t : Bool) => [(.c (bC t))])) (dfs := (fun (t : Bool) => [])) Try.func204 rfl Try.ntmps204 (Nat.le_of_ble_eq_true rfl) rfl ?_
 intro w0 U0 R0 g0
 unfold m_spec_l2Has
 refine Ws (Wr ?_)
 refine asg (Bv false) rfl ⟨rfl, rfl⟩ rfl rfl ?_
 refine On (Ws (Ws (Wr ?_)))
 refine asg (Iv 0) rfl ⟨rfl, rfl⟩ rfl rfl ?_
 refine On (AWR.block ?_)
 refine AWR.loopR (id := 0) (m_spec_l2Has_L1 l x) (fun s1 => ([(0, (Cc (xF encInt l))), (1, (Iv x)), (5, (Iv s1))], [])) (fun b8 => ([], [])) (FPost Try.prog Try.f204.results.toList [] [] (fun (t : Bool) => [(.c (bC t))]) (fun (t : Bool) => [])) ?_ (Ent.of ⟨rfl, rfl, rfl, trivial⟩ trivial) rfl (fun b8 _ => ?_) (by intro r t σ m ht hk; injection ht with ht; subst ht; exact hk)
 ·intro s1
  unfold m_spec_l2Has_L1
  refine Ws (Ws (Wr ?_))
  refine mv (Iv s1) rfl rfl rfl rfl ?_
  refine mv (Cc (xF encInt l)) rfl rfl rfl rfl ?_
  refine Op10 (LT.tlenRO rfl und37) rfl rfl rfl ?_
  refine Op20 (LT.lss rfl) rfl rfl rfl rfl ?_
  refine On ?_
  refine AWR.cond rfl (fun hc9 => ?_) (fun hc9 => ?_)
  ·refine AWR.skip (Ws (AWR.block (Ws (Wr ?_))))
   refine mv (Cc (xF encInt l)) rfl rfl rfl rfl ?_
   refine mv (Iv s1) rfl rfl rfl rfl ?_
   refine Ob' fun x10 hx10 => ?_
   refine Op20 (LT.tindexRO (enc := encInt) rfl el37 hx10 sz3) rfl rfl rfl rfl ?_
   refine Op10 (LT.loadPx1 rfl ag3) rfl rfl rfl ?_
   refine mv (Iv x) rfl rfl rfl rfl ?_
   refine Op20 (LT.eql rfl) rfl rfl rfl rfl ?_
   refine On ?_
   refine AWR.cond rfl (fun hc11 => ?_) (fun hc11 => ?_)
   ·refine Ws (Wr ?_)
    refine asg (Bv true) rfl ⟨rfl, rfl⟩ rfl rfl ?_
    refine On ?_
    refine AWR.ret ⟨rfl, FPost.mk (.inr rfl) ⟨rfl, trivial⟩ trivial rfl ⟨PermP.sc, trivial⟩ trivial⟩
   ·refine AWR.skip (AWR.blk (Wr ?_))
    refine mv (Iv s1) rfl rfl rfl rfl ?_
    refine Op20 (LT.add rfl) rfl ⟨rfl, rfl⟩ rfl rfl ?_
    refine asg (Iv (w64 (s1 + 1))) rfl rfl rfl rfl ?_
    refine On ?_
    refine AWR.nil ⟨rfl, Ent.of ⟨rfl, rfl, rfl, trivial⟩ trivial⟩
  ·refine AWR.exit_end rfl ⟨rfl, Ent.of trivial trivial⟩
 ·refine Ws (Wr ?_)
  refine asg (Bv false) rfl ⟨rfl, rfl⟩ rfl rfl ?_
  refine On ?_
  refine AWR.ret (FPost.mk (.inr rfl) ⟨rfl, trivial⟩ trivial rfl ⟨PermP.sc, trivial⟩ trivial)
theorem w_spec_l9Null (m : (List (List Int))) (columns : Int) : ∀ t, m_spec_l9Null m columns = some t → Fw.Fn Try.prog 107 [(.c (xF (encLInt false) m)), (.c (iC columns))] [] (.s (.c (lo 0 t.length))) [(0, (pR 37 (encLInt true) t))] [] [0] := by
 refine Fw.Fn.ofU (P := Try.prog) (X := [0]) (pn := []) (rs := (fun (t : (List (List Int))) => [(.c (lo 0 t.length))])) (dfs := (fun (t : (List (List Int))) => [(0, (pR 37 (encLInt true) t))])) Try.func107 rfl Try.ntmps107 (Nat.le_of_ble_eq_true rfl) rfl ?_
 intro w0 U0 R0 g0 hU
 unfold m_spec_l9Null
 refine Ws (Wr ?_)
 refine asg (Cc (sC nilV)) rfl ⟨rfl, rfl⟩ rfl rfl ?_
 refine On (Ws (Wr ?_))
 refine Os00 (LT.tbuildSlice (n := 21) (enc := (encLInt true)) [] ([] : List (List Int)) rfl rfl und31 ti37 rfl rfl rfl rfl (by decide) (fun _ => rfl) rfl) rfl rfl ?_
 refine asg (Cc (lo 21 (([] : List (List Int)).length))) rfl rfl rfl rfl ?_
 refine On (Ws (Wr ?_))
 refine mv (Cc (xF (encLInt false) m)) rfl rfl rfl rfl ?_
 refine Ob' fun r1 hr1 => ?_
 refine AOR.step (@LT.callF Try.prog _ _ 144 _ _ [(.c (xF (encLInt false) m))] _ _ [] _ _ _ _ ((show Fw.Fn Try.prog 144 [(.c (xF (encLInt false) m))] [] (.tup [(.c (lo 23 r1.1.length)), (.c (lo 24 r1.2.length))]) [(23, (pR 37 (encLInt true) r1.1)), (24, (pR 3 encInt r1.2))] [] [23, 24] from Fw.Fn.ren [(0, 23), (1, 24)] (w_spec_l9Reduced m r1 hr1) rfl)) rfl cb144 (.cons (.c (.same rfl)) .nil) rfl rfl trivial) ⟨rfl, rfl, trivial⟩ trivial rfl rfl ?_
 refine mv (.tup [(.c (lo 23 r1.1.length)), (.c (lo 24 r1.2.length))]) rfl rfl rfl rfl ?_
 refine Op10 (LT.extract (v := (.c (lo 23 r1.1.length))) rfl (by exact rfl)) rfl rfl rfl ?_
 refine Op10 (LT.extract (v := (.c (lo 24 r1.2.length))) rfl (by exact rfl)) rfl rfl rfl ?_
 refine asg (Cc (lo 23 r1.1.length)) rfl rfl rfl rfl ?_
 refine asg (Cc (lo 24 r1.2.length)) rfl rfl rfl rfl ?_
 refine On (Ws (Ws ?_))
 refine en [(1, (Iv columns)), (5, (Cc (lo 21 (([] : List (List Int)).length)))), (6, (Cc (lo 23 r1.1.length))), (7, (Cc (lo 24 r1.2.length)))] [(21, (pR 37 (encLInt true) ([] : List (List Int)))), (23, (pR 37 (encLInt true) r1.1)), (24, (pR 3 encInt r1.2))] ⟨rfl, rfl, rfl, rfl, trivial⟩ ⟨rfl, rfl, rfl, trivial⟩ ?_
 refine Wr ?_
 refine asg (Iv 0) rfl ⟨rfl, rfl⟩ rfl rfl ?_
 refine On (AWR.block ?_)
 refine AWR.loop1 (id := 0) (m_spec_l9Null_L5 columns) (fun s2 => ([(1, (Iv columns)), (5, (Cc (lo 21 s2.2.1.length))), (6, (Cc (lo 23 s2.2.2.1.length))), (7, (Cc (lo 24 s2.2.2.2.length))), (8, (Iv s2.1))], [(21, (pR 37 (encLInt true) s2.2.1)), (23, (pR 37 (encLInt true) s2.2.2.1)), (24, (pR 3 encInt s2.2.2.2))])) (fun b113 => ([(5, (Cc (lo 21 b113.length)))], [(21, (pR 37 (encLInt true) b113))])) ?_ (Ent.of ⟨rfl, rfl, rfl, rfl, rfl, trivial⟩ ⟨rfl, rfl, rfl, trivial⟩) rfl (fun b113 _ => ?_)
 ·intro s2
  unfold m_spec_l9Null_L5
  refine Ws (Ws (Wr ?_))
  refine mv (Iv s2.1) rfl rfl rfl rfl ?_
  refine mv (Iv columns) rfl rfl rfl rfl ?_
  refine Op20 (LT.lss rfl) rfl rfl rfl rfl ?_
  refine On ?_
  refine AWR.cond rfl (fun hc114 => ?_) (fun hc114 => ?_)
  ·refine AWR.skip (Ws (AWR.block (Ws (Ws (Wr ?_)))))
   refine mv (Cc (lo 24 s2.2.2.2.length)) rfl rfl rfl rfl ?_
   refine mv (Iv s2.1) rfl rfl rfl rfl ?_
   refine Ob' fun r115 hr115 => ?_
   refine AOR.pure (@LT.callF Try.prog _ _ 204 _ _ [(.c (lo 24 s2.2.2.2.length)), (.c (iC s2.1))] _ _ [(24, (pR 3 encInt s2.2.2.2))] _ _ _ _ (w_spec_l2Has s2.2.2.2 s2.1 r115 hr115) rfl cb204 (.cons (.c (.tloc rfl rfl)) (.cons (.c (.same rfl)) .nil)) rfl rfl trivial) ⟨rfl, rfl, rfl, trivial⟩ ⟨rfl, trivial⟩ rfl rfl ?_
   refine On ?_
   refine AWR.cond rfl (fun hc116 => ?_) (fun hc116 => ?_)
   ·refine AWR.exit rfl (Wr ?_)
    refine mv (Iv s2.1) rfl rfl rfl rfl ?_
    refine Op20 (LT.add rfl) rfl ⟨rfl, rfl⟩ rfl rfl ?_
    refine asg (Iv (w64 (s2.1 + 1))) rfl rfl rfl rfl ?_
    refine On ?_
    refine AWR.nil ⟨rfl, Ent.of ⟨rfl, rfl, rfl, rfl, rfl, trivial⟩ ⟨rfl, rfl, rfl, trivial⟩⟩
   ·refine AWR.skip (Ws (Wr ?_))
    refine asg (Iv 1) rfl ⟨rfl, rfl⟩ rfl rfl ?_
    refine On (Ws (Ws (Wr ?_)))
    refine asg (Iv 0) rfl ⟨rfl, rfl⟩ rfl rfl ?_
    refine On (AWR.block ?_)
    refine AWR.loop1 (id := 2) (m_spec_l9Null_L6 s2) (fun s117 => ([(1, (Iv columns)), (5, (Cc (lo 21 s2.2.1.length))), (6, (Cc (lo 23 s2.2.2.1.length))), (7, (Cc (lo 24 s2.2.2.2.length))), (8, (Iv s2.1)), (9, (Iv s117.1)), (10, (Iv s117.2))], [(21, (pR 37 (encLInt true) s2.2.1)), (23, (pR 37 (encLInt true) s2.2.2.1)), (24, (pR 3 encInt s2.2.2.2))])) (fun b144 => ([(1, (Iv columns)), (5, (Cc (lo 21 b144.2.2.1.length))), (6, (Cc (lo 23 b144.2.2.2.1.length))), (7, (Cc (lo 24 b144.2.2.2.2.length))), (8, (Iv b144.1)), (9, (Iv b144.2.1))], [(21, (pR 37 (encLInt true) b144.2.2.1)), (23, (pR 37 (encLInt true) b144.2.2.2.1)), (24, (pR 3 encInt b144.2.2.2.2))])) ?_ (Ent.of ⟨rfl, rfl, rfl, rfl, rfl, rfl, rfl, trivial⟩ ⟨rfl, rfl, rfl, trivial⟩) rfl (fun b144 _ => ?_)
    ·intro s117
     unfold m_spec_l9Null_L6
     refine Ws (Ws (Wr ?_))
     refine mv (Iv s117.2) rfl rfl rfl rfl ?_
     refine mv (Cc (lo 24 s2.2.2.2.length)) rfl rfl rfl rfl ?_
     refine Op10 (LT.lenLoc rfl und37) rfl rfl rfl ?_
     refine Op20 (LT.lss rfl) rfl rfl rfl rfl ?_
     refine On ?_
     refine AWR.cond rfl (fun hc145 => ?_) (fun hc145 => ?_)
     ·refine AWR.skip (Ws (AWR.block (Ws (AWR.draw mixed ?_))))
      refine Dp10 (LT.move (v := (Cc (lo 23 s2.2.2.1.length))) rfl) rfl rfl rfl ?_
      refine Dp10 (LT.move (v := (Iv s117.2)) rfl) rfl rfl rfl ?_
      refine AOD.bind fun x146 hx146 => ?_
      refine Dp21 (LT.tindexLoc rfl rfl el31 hx146) rfl rfl rfl rfl rfl ?_
      refine Dp11 (LT.tload1 (k := 0) rfl ag37 hx146 (by exact rfl) (by exact rfl)) rfl rfl rfl rfl ?_
      refine Dp10 (LT.move (v := (Cc (lo 24 s2.2.2.2.length))) rfl) rfl rfl rfl ?_
      refine Dp10 (LT.move (v := (Iv s117.2)) rfl) rfl rfl rfl ?_
      refine AOD.bind fun x147 hx147 => ?_
      refine Dp21 (LT.tindexLoc rfl rfl el37 hx147) rfl rfl rfl rfl rfl ?_
      refine Dp11 (LT.tload1 (k := 0) rfl ag3 hx147 (by exact rfl) (by exact rfl)) rfl rfl rfl rfl ?_
      refine AOD.bind fun x148 hx148 => ?_
      refine Dp20 (LT.tindexRO (enc := encInt) rfl el37 hx148 sz3) rfl rfl rfl rfl ?_
      refine Dp10 (LT.loadPx1 rfl ag3) rfl rfl rfl ?_
      refine Dp10 (LT.move (v := (Cc (lo 23 s2.2.2.1.length))) rfl) rfl rfl rfl ?_
      refine Dp10 (LT.move (v := (Iv s117.2)) rfl) rfl rfl rfl ?_
      refine AOD.bind fun x149 hx149 => ?_
      refine Dp21 (LT.tindexLoc rfl rfl el31 hx149) rfl rfl rfl rfl rfl ?_
      refine Dp11 (LT.tload1 (k := 0) rfl ag37 hx149 (by exact rfl) (by exact rfl)) rfl rfl rfl rfl ?_
      refine Dp10 (LT.move (v := (Cc (lo 24 s2.2.2.2.length))) rfl) rfl rfl rfl ?_
      refine Dp10 (LT.move (v := (Iv s117.2)) rfl) rfl rfl rfl ?_
      refine AOD.bind fun x150 hx150 => ?_
      refine Dp21 (LT.tindexLoc rfl rfl el37 hx150) rfl rfl rfl rfl rfl ?_
      refine Dp11 (LT.tload1 (k := 0) rfl ag3 hx150 (by exact rfl) (by exact rfl)) rfl rfl rfl rfl ?_
      refine AOD.bind fun x151 hx151 => ?_
      refine Dp20 (LT.tindexRO (enc := encInt) rfl el37 hx151 sz3) rfl rfl rfl rfl ?_
      refine Dp10 (LT.loadPx1 rfl ag3) rfl rfl rfl ?_
      refine Dp10 (LT.neg rfl) rfl rfl rfl ?_
      refine Dp20 (LT.max rfl) rfl rfl rfl rfl ?_
      refine Dp10 (LT.assign (v := (Iv (if x148 < (w64 (-x151)) then (w64 (-x151)) else x148))) rfl) rfl rfl rfl ?_
      refine AOD.nil (by kernel_rfl) ?_
      refine Ws ?_
      refine en [(1, (Iv columns)), (5, (Cc (lo 21 s2.2.1.length))), (6, (Cc (lo 23 s2.2.2.1.length))), (7, (Cc (lo 24 s2.2.2.2.length))), (8, (Iv s2.1)), (9, (Iv s117.1)), (10, (Iv s117.2)), (11, (Iv (if x148 < (w64 (-x151)) then (w64 (-x151)) else x148)))] [(21, (pR 37 (encLInt true) s2.2.1)), (23, (pR 37 (encLInt true) s2.2.2.1)), (24, (pR 3 encInt s2.2.2.2))] ⟨rfl, rfl, rfl, rfl, rfl, rfl, rfl, rfl, trivial⟩ ⟨rfl, rfl, rfl, trivial⟩ ?_
      refine Wr ?_
      refine mv (Iv (if x148 < (w64 (-x151)) then (w64 (-x151)) else x148)) rfl rfl rfl rfl ?_
      refine mv (Iv (if x148 < (w64 (-x151)) then (w64 (-x151)) else x148)) rfl rfl rfl rfl ?_
      refine mv (Cc (lo 23 s2.2.2.1.length)) rfl rfl rfl rfl ?_
      refine mv (Iv s117.2) rfl rfl rfl rfl ?_
      refine Ob' fun x152 hx152 => ?_
      refine Op21 (LT.tindexLoc rfl rfl el31 hx152) rfl rfl rfl rfl rfl ?_
      refine Op11 (LT.tload1 (k := 0) rfl ag37 hx152 (by exact rfl) (by exact rfl)) rfl rfl rfl rfl ?_
      refine mv (Iv s2.1) rfl rfl rfl rfl ?_
      refine Ob' fun x153 hx153 => ?_
      refine Op20 (LT.tindexRO (enc := encInt) rfl el37 hx153 sz3) rfl rfl rfl rfl ?_
      refine Op10 (LT.loadPx1 rfl ag3) rfl rfl rfl ?_
      refine Ob' fun r154 hr154 => ?_
      refine AOR.pure (@LT.callF Try.prog _ _ 205 _ _ [(.c (iC (if x148 < (w64 (-x151)) then (w64 (-x151)) else x148))), (.c (iC x153))] _ _ [] _ _ _ _ (w_spec_GcdOf (if x148 < (w64 (-x151)) then (w64 (-x151)) else x148) x153 r154 hr154) rfl cb205 (.cons (.c (.same rfl)) (.cons (.c (.same rfl)) .nil)) rfl rfl trivial) ⟨rfl, rfl, rfl, trivial⟩ trivial rfl rfl ?_
      refine Ob' fun u155 hu155 => ?_
      refine Op20 (LT.quo rfl (nz_ne hu155)) rfl rfl rfl rfl ?_
      refine asg (Iv (w64 (Int.tdiv (if x148 < (w64 (-x151)) then (w64 (-x151)) else x148) r154))) rfl rfl rfl rfl ?_
      refine On ?_
      refine en [(1, (Iv columns)), (5, (Cc (lo 21 s2.2.1.length))), (6, (Cc (lo 23 s2.2.2.1.length))), (7, (Cc (lo 24 s2.2.2.2.length))), (8, (Iv s2.1)), (9, (Iv s117.1)), (10, (Iv s117.2)), (12, (Iv (w64 (Int.tdiv (if x148 < (w64 (-x151)) then (w64 (-x151)) else x148) r154))))] [(21, (pR 37 (encLInt true) s2.2.1)), (23, (pR 37 (encLInt true) s2.2.2.1)), (24, (pR 3 encInt s2.2.2.2))] ⟨rfl, rfl, rfl, rfl, rfl, rfl, rfl, rfl, trivial⟩ ⟨rfl, rfl, rfl, trivial⟩ ?_
      refine Wr ?_
      refine mv (Iv s117.1) rfl rfl rfl rfl ?_
      refine mv (Iv s117.1) rfl rfl rfl rfl ?_
      refine mv (Iv (w64 (Int.tdiv (if x148 < (w64 (-x151)) then (w64 (-x151)) else x148) r154))) rfl rfl rfl rfl ?_
      refine Ob' fun r156 hr156 => ?_
      refine AOR.pure (@LT.callF Try.prog _ _ 205 _ _ [(.c (iC s117.1)), (.c (iC (w64 (Int.tdiv (if x148 < (w64 (-x151)) then (w64 (-x151)) else x148) r154))))] _ _ [] _ _ _ _ (w_spec_GcdOf s117.1 (w64 (Int.tdiv (if x148 < (w64 (-x151)) then (w64 (-x151)) else x148) r154)) r156 hr156) rfl cb205 (.cons (.c (.same rfl)) (.cons (.c (.same rfl)) .nil)) rfl rfl trivial) ⟨rfl, rfl, rfl, trivial⟩ trivial rfl rfl ?_
      refine Ob' fun u157 hu157 => ?_
      refine Op20 (LT.quo rfl (nz_ne hu157)) rfl rfl rfl rfl ?_
      refine mv (Iv (w64 (Int.tdiv (if x148 < (w64 (-x151)) then (w64 (-x151)) else x148) r154))) rfl rfl rfl rfl ?_
      refine Op20 (LT.mul rfl) rfl rfl rfl rfl ?_
      refine asg (Iv (w64 ((w64 (Int.tdiv s117.1 r156)) * (w64 (Int.tdiv (if x148 < (w64 (-x151)) then (w64 (-x151)) else x148) r154))))) rfl rfl rfl rfl ?_
      refine On (AWR.blk (Wr ?_))
      refine mv (Iv s117.2) rfl rfl rfl rfl ?_
      refine Op20 (LT.add rfl) rfl ⟨rfl, rfl⟩ rfl rfl ?_
      refine asg (Iv (w64 (s117.2 + 1))) rfl rfl rfl rfl ?_
      refine On ?_
      refine AWR.nil ⟨rfl, Ent.of ⟨rfl, rfl, rfl, rfl, rfl, rfl, rfl, trivial⟩ ⟨rfl, rfl, rfl, trivial⟩⟩
     ·refine AWR.exit_end rfl ⟨rfl, Ent.of ⟨rfl, rfl, rfl, rfl, rfl, rfl, trivial⟩ ⟨rfl, rfl, rfl, trivial⟩⟩
    ·refine Ws (Wr ?_)
     refine mv (Iv columns) rfl rfl rfl rfl ?_
     refine Ob' fun u158 hu158 => ?_
     refine Os20 (LT.tmake (n := 28) (enc := encInt) (zc := [(iC 0)]) (0 : Int) rfl und37 ti3 rfl rfl rfl (by decide) (by decide) (lenOk_le hu158) rfl) rfl rfl rfl rfl ?_
     refine asg (Cc (lo 28 ((List.replicate columns.toNat (0 : Int)).length))) rfl rfl rfl rfl ?_
     refine On (Ws (Wr ?_))
     refine mv (Cc (lo 28 ((List.replicate columns.toNat (0 : Int)).length))) rfl rfl rfl rfl ?_
     refine mv (Iv b144.1) rfl rfl rfl rfl ?_
     refine mv (Iv b144.2.1) rfl rfl rfl rfl ?_
     refine Ob' fun x159 hx159 => ?_
     refine Op21 (LT.tindexLoc rfl rfl el37 hx159) rfl rfl rfl rfl rfl ?_
     refine Os21 (LT.tstore (k := 0) (v := (.c (iC b144.2.1))) (b' := b144.2.1) rfl rfl (infS inf3) sz3 (by exact rfl) hx159 (by exact rfl) (by exact Nat.le_of_ble_eq_true rfl) (by exact rfl)) rfl rfl rfl rfl rfl ?_
     refine On (Ws (Ws ?_))
     refine en [(1, (Iv columns)), (5, (Cc (lo 21 b144.2.2.1.length))), (6, (Cc (lo 23 b144.2.2.2.1.length))), (7, (Cc (lo 24 b144.2.2.2.2.length))), (8, (Iv b144.1)), (9, (Iv b144.2.1)), (13, (Cc (lo 28 ((List.replicate columns.toNat (0 : Int)).length))))] [(21, (pR 37 (encLInt true) b144.2.2.1)), (23, (pR 37 (encLInt true) b144.2.2.2.1)), (24, (pR 3 encInt b144.2.2.2.2)), (28, (pR 3 encInt ((List.replicate columns.toNat (0 : Int)).set b144.1.toNat b144.2.1)))] ⟨rfl, rfl, rfl, rfl, rfl, rfl, rfl, trivial⟩ ⟨rfl, rfl, rfl, rfl, trivial⟩ ?_
     refine Wr ?_
     refine asg (Iv 0) rfl ⟨rfl, rfl⟩ rfl rfl ?_
     refine On (AWR.block ?_)
     refine AWR.loop1 (id := 4) (m_spec_l9Null_L7 b144) (fun s160 => ([(1, (Iv columns)), (5, (Cc (lo 21 b144.2.2.1.length))), (6, (Cc (lo 23 b144.2.2.2.1.length))), (7, (Cc (lo 24 b144.2.2.2.2.length))), (8, (Iv b144.1)), (9, (Iv b144.2.1)), (13, (Cc (lo 28 s160.2.length))), (14, (Iv s160.1))], [(21, (pR 37 (encLInt true) b144.2.2.1)), (23, (pR 37 (encLInt true) b144.2.2.2.1)), (24, (pR 3 encInt b144.2.2.2.2)), (28, (pR 3 encInt s160.2))])) (fun b179 => ([(1, (Iv columns)), (5, (Cc (lo 21 b179.2.1.length))), (6, (Cc (lo 23 b179.2.2.1.length))), (7, (Cc (lo 24 b179.2.2.2.1.length))), (8, (Iv b179.1)), (13, (Cc (lo 28 b179.2.2.2.2.length)))], [(21, (pR 37 (encLInt true) b179.2.1)), (23, (pR 37 (encLInt true) b179.2.2.1)), (24, (pR 3 encInt b179.2.2.2.1)), (28, (pR 3 encInt b179.2.2.2.2))])) ?_ (Ent.of ⟨rfl, rfl, rfl, rfl, rfl, rfl, (congrArg (fun l1 => (some (AV.s (.c (lo 28 l1))) : Option AV)) (show (List.replicate columns.toNat (0 : Int)).length = ((List.replicate columns.toNat (0 : Int)).set b144.1.toNat b144.2.1).length by simp only [List.length_set])), rfl, trivial⟩ ⟨rfl, rfl, rfl, rfl, trivial⟩) rfl (fun b179 _ => ?_)
     ·intro s160
      unfold m_spec_l9Null_L7
      refine Ws (Ws (Wr ?_))
      refine mv (Iv s160.1) rfl rfl rfl rfl ?_
      refine mv (Cc (lo 24 b144.2.2.2.2.length)) rfl rfl rfl rfl ?_
      refine Op10 (LT.lenLoc rfl und37) rfl rfl rfl ?_
      refine Op20 (LT.lss rfl) rfl rfl rfl rfl ?_
      refine On ?_
      refine AWR.cond rfl (fun hc180 => ?_) (fun hc180 => ?_)
      ·refine AWR.skip (Ws (AWR.block (AWR.draw mixed ?_)))
       refine Dp10 (LT.move (v := (Cc (lo 28 s160.2.length))) rfl) rfl rfl rfl ?_
       refine Dp10 (LT.move (v := (Cc (lo 24 b144.2.2.2.2.length))) rfl) rfl rfl rfl ?_
       refine Dp10 (LT.move (v := (Iv s160.1)) rfl) rfl rfl rfl ?_
       refine AOD.bind fun x181 hx181 => ?_
       refine Dp21 (LT.tindexLoc rfl rfl el37 hx181) rfl rfl rfl rfl rfl ?_
       refine Dp11 (LT.tload1 (k := 0) rfl ag3 hx181 (by exact rfl) (by exact rfl)) rfl rfl rfl rfl ?_
       refine Dp10 (LT.move (v := (Cc (lo 23 b144.2.2.2.1.length))) rfl) rfl rfl rfl ?_
       refine Dp10 (LT.move (v := (Iv s160.1)) rfl) rfl rfl rfl ?_
       refine AOD.bind fun x182 hx182 => ?_
       refine Dp21 (LT.tindexLoc rfl rfl el31 hx182) rfl rfl rfl rfl rfl ?_
       refine Dp11 (LT.tload1 (k := 0) rfl ag37 hx182 (by exact rfl) (by exact rfl)) rfl rfl rfl rfl ?_
       refine Dp10 (LT.move (v := (Iv b144.1)) rfl) rfl rfl rfl ?_
       refine AOD.bind fun x183 hx183 => ?_
       refine Dp20 (LT.tindexRO (enc := encInt) rfl el37 hx183 sz3) rfl rfl rfl rfl ?_
       refine Dp10 (LT.loadPx1 rfl ag3) rfl rfl rfl ?_
       refine Dp10 (LT.move (v := (Iv b144.2.1)) rfl) rfl rfl rfl ?_
       refine Dp20 (LT.mul rfl) rfl rfl rfl rfl ?_
       refine Dp10 (LT.move (v := (Cc (lo 23 b144.2.2.2.1.length))) rfl) rfl rfl rfl ?_
       refine Dp10 (LT.move (v := (Iv s160.1)) rfl) rfl rfl rfl ?_
       refine AOD.bind fun x184 hx184 => ?_
       refine Dp21 (LT.tindexLoc rfl rfl el31 hx184) rfl rfl rfl rfl rfl ?_
       refine Dp11 (LT.tload1 (k := 0) rfl ag37 hx184 (by exact rfl) (by exact rfl)) rfl rfl rfl rfl ?_
       refine Dp10 (LT.move (v := (Cc (lo 24 b144.2.2.2.2.length))) rfl) rfl rfl rfl ?_
       refine Dp10 (LT.move (v := (Iv s160.1)) rfl) rfl rfl rfl ?_
       refine AOD.bind fun x185 hx185 => ?_
       refine Dp21 (LT.tindexLoc rfl rfl el37 hx185) rfl rfl rfl rfl rfl ?_
       refine Dp11 (LT.tload1 (k := 0) rfl ag3 hx185 (by exact rfl) (by exact rfl)) rfl rfl rfl rfl ?_
       refine AOD.bind fun x186 hx186 => ?_
       refine Dp20 (LT.tindexRO (enc := encInt) rfl el37 hx186 sz3) rfl rfl rfl rfl ?_
       refine Dp10 (LT.loadPx1 rfl ag3) rfl rfl rfl ?_
       refine AOD.bind fun u187 hu187 => ?_
       refine Dp20 (LT.quo rfl (nz_ne hu187)) rfl rfl rfl rfl ?_
       refine Dp10 (LT.neg rfl) rfl rfl rfl ?_
       refine AOD.bind fun x188 hx188 => ?_
       refine Dp21 (LT.tindexLoc rfl rfl el37 hx188) rfl rfl rfl rfl rfl ?_
       refine Ds21 (LT.tstore (k := 0) (v := (.c (iC (w64 (-(w64 (Int.tdiv (w64 (x183 * b144.2.1)) x186))))))) (b' := (w64 (-(w64 (Int.tdiv (w64 (x183 * b144.2.1)) x186))))) rfl rfl (infS inf3) sz3 (by exact rfl) hx188 (by exact rfl) (by exact Nat.le_of_ble_eq_true rfl) (by exact rfl)) rfl rfl rfl rfl rfl ?_
       refine AOD.nil (by kernel_rfl) ?_
       refine AWR.blk ?_
       refine en [(1, (Iv columns)), (5, (Cc (lo 21 b144.2.2.1.length))), (6, (Cc (lo 23 b144.2.2.2.1.length))), (7, (Cc (lo 24 b144.2.2.2.2.length))), (8, (Iv b144.1)), (9, (Iv b144.2.1)), (13, (Cc (lo 28 s160.2.length))), (14, (Iv s160.1))] [(21, (pR 37 (encLInt true) b144.2.2.1)), (23, (pR 37 (encLInt true) b144.2.2.2.1)), (24, (pR 3 encInt b144.2.2.2.2)), (28, (pR 3 encInt (s160.2.set x181.toNat (w64 (-(w64 (Int.tdiv (w64 (x183 * b144.2.1)) x186)))))))] ⟨rfl, rfl, rfl, rfl, rfl, rfl, rfl, rfl, trivial⟩ ⟨rfl, rfl, rfl, rfl, trivial⟩ ?_
       refine Wr ?_
       refine mv (Iv s160.1) rfl rfl rfl rfl ?_
       refine Op20 (LT.add rfl) rfl ⟨rfl, rfl⟩ rfl rfl ?_
       refine asg (Iv (w64 (s160.1 + 1))) rfl rfl rfl rfl ?_
       refine On ?_
       refine AWR.nil ⟨rfl, Ent.of ⟨rfl, rfl, rfl, rfl, rfl, rfl, (congrArg (fun l1 => (some (AV.s (.c (lo 28 l1))) : Option AV)) (show s160.2.length = (s160.2.set x181.toNat (w64 (-(w64 (Int.tdiv (w64 (x183 * b144.2.1)) x186))))).length by simp only [List.length_set])), rfl, trivial⟩ ⟨rfl, rfl, rfl, rfl, trivial⟩⟩
      ·refine AWR.exit_end rfl ⟨rfl, Ent.of ⟨rfl, rfl, rfl, rfl, rfl, rfl, trivial⟩ ⟨rfl, rfl, rfl, rfl, trivial⟩⟩
     ·refine Wr ?_
      refine mv (Cc (lo 21 b179.2.1.length)) rfl rfl rfl rfl ?_
      refine mv (Cc (lo 28 b179.2.2.2.2.length)) rfl rfl rfl rfl ?_
      refine Ob' fun r189 hr189 => ?_
      refine AOR.step (@LT.callF Try.prog _ _ 206 _ _ [(.c (lo 28 b179.2.2.2.2.length))] _ _ [(28, (pR 3 encInt b179.2.2.2.2))] _ _ _ _ ((show Fw.Fn Try.prog 206 [(.c (xF encInt b179.2.2.2.2))] [] (Cc (lo 30 r189.length)) [(30, (pR 3 encInt r189))] [] [30] from Fw.Fn.ren [(0, 30)] (w_spec_PrimitiveVector b179.2.2.2.2 r189 hr189) rfl)) rfl cb206 (.cons (.c (.tloc rfl rfl)) .nil) rfl rfl trivial) ⟨rfl, rfl, trivial⟩ ⟨rfl, trivial⟩ rfl rfl ?_
      refine AOR.ent (Ent.freezeS (enc := encInt) 116 30 hU rfl rfl rfl rfl) ?_
      refine Os10 (LT.tbuildSlice (n := 31) (enc := (encLInt true)) [(0, .tmp 116, (.c (xT encInt r189)))] [r189] rfl rfl und31 ti37 rfl rfl rfl rfl (by decide) (fun _ => rfl) rfl) rfl rfl rfl ?_
      refine Ob' fun u190 hu190 => ?_
      refine Os22 (LT.tappP (enc := (encLInt true)) rfl rfl rfl und31 ti37 rfl (by decide) (by decide) (fun _ => rfl) (lim_le hu190)) rfl rfl rfl rfl rfl rfl ?_
      refine asg (Cc (lo 21 ((b179.2.1 ++ [r189]).length))) rfl rfl rfl rfl ?_
      refine On (AWR.blk ?_)
      refine en [(1, (Iv columns)), (5, (Cc (lo 21 ((b179.2.1 ++ [r189]).length)))), (6, (Cc (lo 23 b179.2.2.1.length))), (7, (Cc (lo 24 b179.2.2.2.1.length))), (8, (Iv b179.1))] [(21, (pR 37 (encLInt true) (b179.2.1 ++ [r189]))), (23, (pR 37 (encLInt true) b179.2.2.1)), (24, (pR 3 encInt b179.2.2.2.1))] ⟨rfl, rfl, rfl, rfl, rfl, trivial⟩ ⟨rfl, rfl, rfl, trivial⟩ ?_
      refine Wr ?_
      refine mv (Iv b179.1) rfl rfl rfl rfl ?_
      refine Op20 (LT.add rfl) rfl ⟨rfl, rfl⟩ rfl rfl ?_
      refine asg (Iv (w64 (b179.1 + 1))) rfl rfl rfl rfl ?_
      refine On ?_
      refine AWR.nil ⟨rfl, Ent.of ⟨rfl, rfl, rfl, rfl, rfl, trivial⟩ ⟨rfl, rfl, rfl, trivial⟩⟩
  ·refine AWR.exit_end rfl ⟨rfl, Ent.of ⟨rfl, trivial⟩ ⟨rfl, trivial⟩⟩
 ·refine Ws (Wr ?_)
  refine mv (Cc (lo 21 b113.length)) rfl rfl rfl rfl ?_
  refine asg (Cc (lo 21 b113.length)) rfl rfl rfl rfl ?_
  refine On ?_
  refine en [(4, (Cc (lo 21 b113.length)))] [(21, (pR 37 (encLInt true) b113))] ⟨rfl, trivial⟩ ⟨rfl, trivial⟩ ?_
  refine AWR.ent (Ent.mv 21 0 rfl rfl) ?_
  refine en [(4, (Cc (lo 0 b113.length)))] [(0, (pR 37 (encLInt true) b113))] ⟨rfl, trivial⟩ ⟨rfl, trivial⟩ ?_
  refine AWR.ret (FPost.mk (.inr rfl) ⟨rfl, trivial⟩ ⟨rfl, trivial⟩ rfl ⟨trivial, trivial⟩ ⟨PermO.prow' perm_encLInt, trivial⟩)
end Go.Proofs.Ytghofbijdnenoaa
end
section
set_option linter.unusedVariables false
set_option linter.unusedSimpArgs false
set_option linter.unnecessarySimpa false
set_option maxRecDepth 100000
set_option maxHeartbeats 8000000
open Go Go.Fw
namespace Go.Proofs.Ytghofbijdnenoaa
theorem w_impl_transposed (m : (List (List Int))) (columns : Int) : ∀ t, m_impl_transposed m columns = some t → Fw.Fn Try.prog 106 [(.c (xF (encLInt false) m)), (.c (iC columns))] [] (.s (.c (lo 0 t.length))) [(0, (.trow 37 1 (lensOf t))), (1, (.pool 3 (rowsOf encInt t)))] [] [0, 1] := by
 refine Fw.Fn.of (P := Try.prog) (X := [0, 1]) (pn := []) (rs := (fun (t : (List (List Int))) => [(.c (lo 0 t.length))])) (dfs := (fun (t : (List (List Int))) => [(0, (.trow 37 1 (lensOf t))), (1, (.pool 3 (rowsOf encInt t)))])) Try.func106 rfl Try.ntmps106 (Nat.le_of_ble_eq_true rfl) rfl ?_
 intro w0 U0 R0 g0
 unfold m_impl_transposed
 refine Ws (Wr ?_)
 refine asg (Cc (sC nilV)) rfl ⟨rfl, rfl⟩ rfl rfl ?_
 refine On (Ws (Wr ?_))
 refine mv (Iv columns) rfl rfl rfl rfl ?_
 refine Ob' fun u1 hu1 => ?_
 refine Os20 (LT.xmake (n := 21) rfl und31 ti37 (by decide) (lenOk_le hu1)) rfl rfl rfl rfl ?_
 refine asg (Cc (lo 21 columns.toNat)) rfl rfl rfl rfl ?_
 refine On ?_
 refine AWR.ent (Ent.poolN (enc := encInt) (n := 21) (p := 22) (c := columns.toNat) (e2 := 3) rfl rfl) ?_
 refine Ws (Ws (Wr ?_))
 refine mv (Cc (lo 21 columns.toNat)) rfl rfl rfl rfl ?_
 refine Op10 (LT.lenLoc rfl und31) rfl rfl rfl ?_
 refine mv (Iv 0) rfl ⟨rfl, rfl⟩ rfl rfl ?_
 refine On (AWR.block ?_)
 refine AWR.loop1 (id := 0) (m_impl_transposed_L3 m columns) (fun s2 => ([(0, (Cc (xF (encLInt false) m))), (5, (Cc (lo 21 s2.2.length))), (12, (Iv (columns.toNat : Int))), (13, (Iv s2.1))], [(21, (.trow 37 22 (lensOf s2.2))), (22, (.pool 3 (rowsOf encInt s2.2)))])) (fun b35 => ([(5, (Cc (lo 21 b35.length)))], [(21, (.trow 37 22 (lensOf b35))), (22, (.pool 3 (rowsOf encInt b35)))])) ?_ (Ent.of ⟨rfl, (congrArg (fun l1 => (some (AV.s (.c (lo 21 l1))) : Option AV)) (show columns.toNat = (List.replicate columns.toNat ([] : List Int)).length from List.length_replicate.symm)), rfl, rfl, trivial⟩ ⟨rfl, rfl, trivial⟩) rfl (fun b35 _ => ?_)
 ·intro s2
  unfold m_impl_transposed_L3
  refine Ws (Wr ?_)
  refine Op20 (LT.lss rfl) rfl rfl rfl rfl ?_
  refine On (Ws ?_)
  refine AWR.cond rfl (fun hc36 => ?_) (fun hc36 => ?_)
  ·refine AWR.skip (Ws (AWR.block (Ws (Wr ?_))))
   refine mv (Iv s2.1) rfl rfl rfl rfl ?_
   refine asg (Iv s2.1) rfl rfl rfl rfl ?_
   refine On (Ws (Wr ?_))
   refine mv (Cc (lo 21 s2.2.length)) rfl rfl rfl rfl ?_
   refine mv (Iv s2.1) rfl rfl rfl rfl ?_
   refine Os00 (LT.tbuildSlice (n := 23) (enc := encInt) [] ([] : List Int) rfl rfl und37 ti3 rfl rfl rfl rfl (by decide) (fun _ => rfl) rfl) rfl rfl ?_
   refine Ob' fun x37 hx37 => ?_
   refine Op21 (LT.xindex rfl rfl el31 hx37) rfl rfl rfl rfl rfl ?_
   refine Os21 (LT.xstore (e := 37) (p := 22) rfl rfl (infS inf37) sz37 hx37 rfl) rfl rfl rfl rfl rfl ?_
   refine On ?_
   refine AWR.ent (Ent.tadoptAt (enc := encInt) (n := 21) (m := 23) (p := 22) (k := s2.1.toNat) (rows := s2.2) (r := ([] : List Int)) rfl (List.getElem?_eq_some_iff.1 (idx_get hx37)).1 rfl rfl rfl rfl) ?_
   refine AWR.ent (Ent.trow (n := 21) (p := 22) (lens := lensOf (s2.2.set s2.1.toNat ([] : List Int))) rfl rfl) ?_
   refine Ws (Wr ?_)
   refine mv (Cc (xF (encLInt false) m)) rfl rfl rfl rfl ?_
   refine Op10 (LT.tlenRO rfl und31) rfl rfl rfl ?_
   refine mv (Iv 0) rfl ⟨rfl, rfl⟩ rfl rfl ?_
   refine On (AWR.block ?_)
   refine AWR.loop1 (id := 2) (m_impl_transposed_L4 m s2) (fun s38 => ([(0, (Cc (xF (encLInt false) m))), (5, (Cc (lo 21 s38.2.length))), (6, (Iv s2.1)), (12, (Iv (columns.toNat : Int))), (13, (Iv s2.1)), (20, (Cc (xF (encLInt false) m))), (21, (Iv (m.length : Int))), (22, (Iv s38.1))], [(21, (.trow 37 22 (lensOf s38.2))), (22, (.pool 3 (rowsOf encInt s38.2)))])) (fun b51 => ([(0, (Cc (xF (encLInt false) m))), (5, (Cc (lo 21 b51.2.length))), (12, (Iv (columns.toNat : Int))), (13, (Iv b51.1))], [(21, (.trow 37 22 (lensOf b51.2))), (22, (.pool 3 (rowsOf encInt b51.2)))])) ?_ (Ent.of ⟨rfl, (congrArg (fun l1 => (some (AV.s (.c (lo 21 l1))) : Option AV)) (show s2.2.length = (s2.2.set s2.1.toNat ([] : List Int)).length by simp only [List.length_set])), rfl, rfl, rfl, rfl, rfl, rfl, trivial⟩ ⟨rfl, rfl, trivial⟩) rfl (fun b51 _ => ?_)
   ·intro s38
    unfold m_impl_transposed_L4
    refine Ws (Wr ?_)
    refine Op20 (LT.lss rfl) rfl rfl rfl rfl ?_
    refine On (Ws ?_)
    refine AWR.cond rfl (fun hc52 => ?_) (fun hc52 => ?_)
    ·refine AWR.skip (Ws (AWR.block (Ws (Wr ?_))))
     refine Ob' fun x53 hx53 => ?_
     refine Op20 (LT.tindexRO (enc := (encLInt false)) rfl el31 hx53 sz37) rfl rfl rfl rfl ?_
     refine Op10 (LT.loadPx1 rfl ag37) rfl rfl rfl ?_
     refine asg (Cc (xF encInt x53)) rfl rfl rfl rfl ?_
     refine On (AWR.draw mixed ?_)
     refine Dp10 (LT.move (v := (Cc (lo 21 s38.2.length))) rfl) rfl rfl rfl ?_
     refine Dp10 (LT.move (v := (Iv s2.1)) rfl) rfl rfl rfl ?_
     refine Dp10 (LT.move (v := (Cc (lo 21 s38.2.length))) rfl) rfl rfl rfl ?_
     refine Dp10 (LT.move (v := (Iv s2.1)) rfl) rfl rfl rfl ?_
     refine AOD.bind fun x54 hx54 => ?_
     refine Dp21 (LT.xindex rfl rfl el31 hx54) rfl rfl rfl rfl rfl ?_
     refine Dp11 (LT.xload rfl ag37 hx54 rfl) rfl rfl rfl rfl ?_
     refine Dp10 (LT.move (v := (Cc (xF encInt x53))) rfl) rfl rfl rfl ?_
     refine Dp10 (LT.move (v := (Iv s2.1)) rfl) rfl rfl rfl ?_
     refine AOD.bind fun x55 hx55 => ?_
     refine Dp20 (LT.tindexRO (enc := encInt) rfl el37 hx55 sz3) rfl rfl rfl rfl ?_
     refine Dp10 (LT.loadPx1 rfl ag3) rfl rfl rfl ?_
     refine Ds10 (LT.tbuildSlice (n := 24) (enc := encInt) [(0, .tmp 35, (.c (iC x55)))] ([x55] : List Int) rfl rfl und37 ti3 rfl rfl rfl rfl (by decide) (fun _ => rfl) rfl) rfl rfl rfl ?_
     refine AOD.bind fun u56 hu56 => ?_
     refine AOD.step (LT.tunpool (p := 22) (k := s2.1.toNat) (m := 25) (n := 21) (e := 37) (enc := encInt) (LT.tappP (n := 25) (n2 := 24) (enc := encInt) rfl rfl rfl und37 ti3 rfl (by decide) (by decide) (fun _ => rfl) (lim_le hu56)) (idx_get hx54) rfl) ⟨rfl, rfl, trivial⟩ ⟨rfl, rfl, rfl, trivial⟩ rfl rfl ?_
     refine AOD.bind fun x57 hx57 => ?_
     refine Dp21 (LT.xindexS (show s38.2.length = (s38.2.set s2.1.toNat []).length by simp only [List.length_set]) rfl el31 hx57) rfl rfl rfl rfl rfl ?_
     refine Ds21 (LT.xstoreS (e := 37) (p := 22) rfl rfl (infS inf37) sz37 hx57 rfl) rfl rfl rfl rfl rfl ?_
     refine AOD.nil (by kernel_rfl) ?_
     refine AWR.ent (Ent.tadoptAt (enc := encInt) (n := 21) (m := 25) (p := 22) (k := s2.1.toNat) (rows := (s38.2.set s2.1.toNat [])) (r := (x54 ++ ([x55] : List Int))) rfl (List.getElem?_eq_some_iff.1 (idx_get hx57)).1 rfl rfl rfl rfl) ?_
     refine AWR.ent (Ent.trow (n := 21) (p := 22) (lens := lensOf ((s38.2.set s2.1.toNat []).set s2.1.toNat (x54 ++ ([x55] : List Int)))) rfl rfl) ?_
     refine AWR.blk (Wr ?_)
     refine Op20 (LT.add rfl) rfl ⟨rfl, rfl⟩ rfl rfl ?_
     refine mv (Iv (w64 (s38.1 + 1))) rfl rfl rfl rfl ?_
     refine On ?_
     refine AWR.nil ⟨rfl, Ent.of ⟨rfl, (congrArg (fun l1 => (some (AV.s (.c (lo 21 l1))) : Option AV)) (show s38.2.length = ((s38.2.set s2.1.toNat []).set s2.1.toNat (x54 ++ ([x55] : List Int))).length by simp only [List.length_set])), rfl, rfl, rfl, rfl, rfl, rfl, trivial⟩ ⟨rfl, rfl, trivial⟩⟩
    ·refine AWR.exit_end rfl ⟨rfl, Ent.of ⟨rfl, rfl, rfl, rfl, trivial⟩ ⟨rfl, rfl, trivial⟩⟩
   ·refine AWR.blk (Wr ?_)
    refine Op20 (LT.add rfl) rfl ⟨rfl, rfl⟩ rfl rfl ?_
    refine mv (Iv (w64 (b51.1 + 1))) rfl rfl rfl rfl ?_
    refine On ?_
    refine AWR.nil ⟨rfl, Ent.of ⟨rfl, rfl, rfl, rfl, trivial⟩ ⟨rfl, rfl, trivial⟩⟩
  ·refine AWR.exit_end rfl ⟨rfl, Ent.of ⟨rfl, trivial⟩ ⟨rfl, rfl, trivial⟩⟩
 ·refine Ws (Wr ?_)
  refine mv (Cc (lo 21 b35.length)) rfl rfl rfl rfl ?_
  refine asg (Cc (lo 21 b35.length)) rfl rfl rfl rfl ?_
  refine On ?_
  refine en [(4, (Cc (lo 21 b35.length)))] [(21, (.trow 37 22 (lensOf b35))), (22, (.pool 3 (rowsOf encInt b35)))] ⟨rfl, trivial⟩ ⟨rfl, rfl, trivial⟩ ?_
  refine AWR.ent (Ent.mv 21 0 rfl rfl) ?_
  refine AWR.ent (Ent.mv 22 1 rfl rfl) ?_
  refine en [(4, (Cc (lo 0 b35.length)))] [(0, (.trow 37 1 (lensOf b35))), (1, (.pool 3 (rowsOf encInt b35)))] ⟨rfl, trivial⟩ ⟨rfl, rfl, trivial⟩ ?_
  refine AWR.ret (FPost.mk (.inr rfl) ⟨rfl, trivial⟩ ⟨rfl, rfl, trivial⟩ rfl ⟨trivial, trivial⟩ ⟨trivial, PermO.poolR perm_encInt _, trivial⟩)
theorem w_impl_StressesOf (f : TFramework) : ∀ t, m_impl_StressesOf f = some t → Fw.Fn Try.prog 12 [(.agg [(iC f.Graph.Points), (xF encTBar f.Graph.Bars), (xF encTPlace f.Places)])] [] (.s (.c (lo 0 t.length))) [(0, (.trow 37 1 (lensOf t))), (1, (.pool 3 (rowsOf encInt t)))] [] [0, 1] := by
 refine Fw.Fn.of (P := Try.prog) (X := [0, 1]) (pn := []) (rs := (fun (t : (List (List Int))) => [(.c (lo 0 t.length))])) (dfs := (fun (t : (List (List Int))) => [(0, (.trow 37 1 (lensOf t))), (1, (.pool 3 (rowsOf encInt t)))])) Try.func12 rfl Try.ntmps12 (Nat.le_of_ble_eq_true rfl) rfl ?_
 intro w0 U0 R0 g0
 unfold m_impl_StressesOf
 refine Ws (Wr ?_)
 refine Os10 (LT.box (n := 21) (v := (.agg [(iC f.Graph.Points), (xF encTBar f.Graph.Bars), (xF encTPlace f.Places)])) rfl sz29 (by exact rfl)) rfl rfl rfl ?_
 refine asg (Cc (sC nilV)) rfl ⟨rfl, rfl⟩ rfl rfl ?_
 refine On (Ws (Ws ?_))
 refine AWR.joinK (fun j3 => ([(1, (Cc (.pl 21 0))), (12, (Bv j3))], [(21, (.row 29 [[(iC f.Graph.Points), (xF encTBar f.Graph.Bars), (xF encTPlace f.Places)]]))])) ?_ (fun j3 _ => ?_)
 ·refine Wr ?_
  refine Op11 (LT.bloadN (out := [(iC f.Graph.Points), (xF encTBar f.Graph.Bars), (xF encTPlace f.Places)]) rfl ag29 (infS inf29) sz29 (by exact rfl) (by exact rfl)) rfl rfl rfl rfl ?_
  refine Ob' fun r4 hr4 => ?_
  refine AOR.pure (@LT.callF Try.prog _ _ 80 _ _ [(.agg [(iC f.Graph.Points), (xF encTBar f.Graph.Bars), (xF encTPlace f.Places)])] _ _ [] _ _ _ _ (w_impl_IsFramework f r4 hr4) rfl cb80 (.cons (.agg (.cons (.same rfl) (.cons (.same rfl) (.cons (.same rfl) .nil)))) .nil) rfl rfl trivial) ⟨rfl, rfl, trivial⟩ trivial rfl rfl ?_
  refine Op10 (LT.not rfl) rfl rfl rfl ?_
  refine mv (Bv (!r4)) rfl rfl rfl rfl ?_
  refine AOR.split (fun hb5 => ?_) (fun hb5 => ?_)
  ·refine Ok rfl rfl rfl (by rw [hb5]; rfl) rfl ?_
   refine Ok rfl rfl rfl (by rw [hb5]; rfl) rfl ?_
   refine Ok rfl rfl rfl (by rw [hb5]; rfl) rfl ?_
   refine Ok rfl rfl rfl (by rw [hb5]; rfl) rfl ?_
   refine Ok rfl rfl rfl (by rw [hb5]; rfl) rfl ?_
   refine Op20 (LT.pickT (v := (Bv true)) rfl hb5) rfl ⟨rfl, rfl⟩ rfl rfl ?_
   refine On ?_
   refine AWR.nil ⟨rfl, Ent.of ⟨rfl, rfl, trivial⟩ ⟨rfl, trivial⟩⟩
  ·refine Op10 (LT.fieldPl rfl fo29_0) rfl ⟨_, rfl, .inl ⟨_, rfl, (by rw [hb5]; rfl)⟩⟩ rfl ?_
   refine Op10 (LT.fieldPl rfl fo26_1) rfl ⟨_, rfl, .inl ⟨_, rfl, (by rw [hb5]; rfl)⟩⟩ rfl ?_
   refine Op11 (LT.bload1 (c := (xF encTBar f.Graph.Bars)) rfl ag24 (by exact rfl)) rfl rfl ⟨_, rfl, .inl ⟨_, rfl, (by rw [hb5]; rfl)⟩⟩ rfl ?_
   refine Op10 (LT.tlenRO rfl und24) rfl ⟨_, rfl, .inl ⟨_, rfl, (by rw [hb5]; rfl)⟩⟩ rfl ?_
   refine Op20 (LT.eql rfl) rfl ⟨rfl, rfl⟩ ⟨_, rfl, .inl ⟨_, rfl, (by rw [hb5]; rfl)⟩⟩ rfl ?_
   refine Op20 (LT.pickF (v := (Bv ((f.Graph.Bars.length : Int) == 0))) rfl hb5) rfl rfl rfl rfl ?_
   refine On ?_
   refine AWR.nil ⟨rfl, Ent.of ⟨rfl, rfl, trivial⟩ ⟨rfl, trivial⟩⟩
 ·refine AWR.cond rfl (fun hc6 => ?_) (fun hc6 => ?_)
  ·refine Ws (Wr ?_)
   refine Os00 (LT.buildSlice (n := 23) (els := []) [] rfl rfl und31 ti37 rfl rfl rfl rfl (by decide) rfl rfl) rfl rfl ?_
   refine asg (Cc (lo 23 0)) rfl rfl rfl rfl ?_
   refine On ?_
   refine AWR.ent (Ent.poolE 24 3 rfl) ?_
   refine AWR.ent (Ent.trow (n := 23) (p := 24) (lens := lensOf ([] : List (List Int))) (List.append_nil _) rfl) ?_
   refine en [(2, (Cc (lo 23 0)))] [(23, (.trow 37 24 (lensOf ([] : List (List Int))))), (24, (.pool 3 (rowsOf encInt ([] : List (List Int)))))] ⟨rfl, trivial⟩ ⟨rfl, rfl, trivial⟩ ?_
   refine AWR.ent (Ent.mv 23 0 rfl rfl) ?_
   refine AWR.ent (Ent.mv 24 1 rfl rfl) ?_
   refine en [(2, (Cc (lo 0 (([] : List (List Int)).length))))] [(0, (.trow 37 1 (lensOf ([] : List (List Int))))), (1, (.pool 3 (rowsOf encInt ([] : List (List Int)))))] ⟨rfl, trivial⟩ ⟨rfl, rfl, trivial⟩ ?_
   refine AWR.ret (FPost.mk (.inr rfl) ⟨rfl, trivial⟩ ⟨rfl, rfl, trivial⟩ rfl ⟨trivial, trivial⟩ ⟨trivial, PermO.poolR perm_encInt _, trivial⟩)
  ·refine AWR.skip (Ws (AWR.draw mixed ?_))
   refine Dp11 (LT.bloadN (out := [(iC f.Graph.Points), (xF encTBar f.Graph.Bars), (xF encTPlace f.Places)]) rfl ag29 (infS inf29) sz29 (by exact rfl) (by exact rfl)) rfl rfl rfl rfl ?_
   refine AOD.bind fun r7 hr7 => ?_
   refine AOD.step (@LT.callF Try.prog _ _ 44 _ _ [(.agg [(iC f.Graph.Points), (xF encTBar f.Graph.Bars), (xF encTPlace f.Places)])] _ _ [] _ _ _ _ ((show Fw.Fn Try.prog 44 [(.agg [(iC f.Graph.Points), (xF encTBar f.Graph.Bars), (xF encTPlace f.Places)])] [] (Cc (lo 26 r7.length)) [(26, (.trow 37 27 (lensOf r7))), (27, (.pool 3 (rowsOf encInt r7)))] [] [26, 27] from Fw.Fn.ren [(0, 26), (1, 27)] (w_impl_RigidityMatrix f r7 hr7) rfl)) rfl cb44 (.cons (.agg (.cons (.same rfl) (.cons (.same rfl) (.cons (.same rfl) .nil)))) .nil) rfl rfl trivial) ⟨rfl, rfl, trivial⟩ trivial rfl rfl ?_
   refine Dp10 (LT.fieldPl rfl fo29_0) rfl rfl rfl ?_
   refine Dp10 (LT.fieldPl rfl fo26_0) rfl rfl rfl ?_
   refine Dp11 (LT.bload1 (c := (iC f.Graph.Points)) rfl ag3 (by exact rfl)) rfl rfl rfl rfl ?_
   refine Dp20 (LT.mul rfl) ⟨rfl, rfl⟩ rfl rfl rfl ?_
   refine AOD.bind fun r8 hr8 => ?_
   refine AOD.step (@LT.callF Try.prog _ _ 106 _ _ [(.c (lo 26 r7.length)), (.c (iC (w64 (2 * f.Graph.Points))))] _ _ [(26, (.trow 37 27 (lensOf r7))), (27, (.pool 3 (rowsOf encInt r7)))] _ _ _ _ ((show Fw.Fn Try.prog 106 [(.c (xF (encLInt false) r7)), (.c (iC (w64 (2 * f.Graph.Points))))] [] (Cc (lo 29 r8.length)) [(29, (.trow 37 30 (lensOf r8))), (30, (.pool 3 (rowsOf encInt r8)))] [] [29, 30] from Fw.Fn.ren [(0, 29), (1, 30)] (w_impl_transposed r7 (w64 (2 * f.Graph.Points)) r8 hr8) rfl)) rfl cb106 (.cons (.c (.ttrow rfl rfl rfl (fun _ => rfl))) (.cons (.c (.same rfl)) .nil)) rfl rfl trivial) ⟨rfl, rfl, rfl, trivial⟩ ⟨rfl, rfl, trivial⟩ rfl rfl ?_
   refine Dp10 (LT.fieldPl rfl fo29_0) rfl rfl rfl ?_
   refine Dp10 (LT.fieldPl rfl fo26_1) rfl rfl rfl ?_
   refine Dp11 (LT.bload1 (c := (xF encTBar f.Graph.Bars)) rfl ag24 (by exact rfl)) rfl rfl rfl rfl ?_
   refine Dp10 (LT.tlenRO rfl und24) rfl rfl rfl ?_
   refine AOD.bind fun r9 hr9 => ?_
   refine AOD.step (@LT.callF Try.prog _ _ 105 _ _ [(.c (lo 29 r8.length)), (.c (iC (f.Graph.Bars.length : Int)))] _ _ [(29, (.trow 37 30 (lensOf r8))), (30, (.pool 3 (rowsOf encInt r8)))] _ _ _ _ ((show Fw.Fn Try.prog 105 [(.c (xF (encLInt false) r8)), (.c (iC (f.Graph.Bars.length : Int)))] [] (Cc (lo 32 r9.length)) [(32, (.trow 37 33 (lensOf r9))), (33, (.pool 3 (rowsOf encInt r9)))] [] [32, 33] from Fw.Fn.ren [(0, 32), (1, 33)] (w_impl_nullspace r8 (f.Graph.Bars.length : Int) r9 hr9) rfl)) rfl cb105 (.cons (.c (.ttrow rfl rfl rfl (fun _ => rfl))) (.cons (.c (.same rfl)) .nil)) rfl rfl trivial) ⟨rfl, rfl, rfl, trivial⟩ ⟨rfl, rfl, trivial⟩ rfl rfl ?_
   refine Dp10 (LT.assign (v := (Cc (lo 32 r9.length))) rfl) rfl rfl rfl ?_
   refine AOD.nil (by kernel_rfl) ?_
   refine en [(2, (Cc (lo 32 r9.length)))] [(32, (.trow 37 33 (lensOf r9))), (33, (.pool 3 (rowsOf encInt r9)))] ⟨rfl, trivial⟩ ⟨rfl, rfl, trivial⟩ ?_
   refine AWR.ent (Ent.mv 32 0 rfl rfl) ?_
   refine AWR.ent (Ent.mv 33 1 rfl rfl) ?_
   refine en [(2, (Cc (lo 0 r9.length)))] [(0, (.trow 37 1 (lensOf r9))), (1, (.pool 3 (rowsOf encInt r9)))] ⟨rfl, trivial⟩ ⟨rfl, rfl, trivial⟩ ?_
   refine AWR.ret (FPost.mk (.inr rfl) ⟨rfl, trivial⟩ ⟨rfl, rfl, trivial⟩ rfl ⟨trivial, trivial⟩ ⟨trivial, PermO.poolR perm_encInt _, trivial⟩)
theorem w_spec_l13Turned (f : TFramework) : ∀ t, m_spec_l13Turned f = some t → Fw.Fn Try.prog 108 [(.agg [(iC f.Graph.Points), (xF encTBar f.Graph.Bars), (xF encTPlace f.Places)])] [] (.s (.c (lo 0 t.length))) [(0, (.trow 37 1 (lensOf t))), (1, (.pool 3 (rowsOf encInt t)))] [] [0, 1] := by
 refine Fw.Fn.of (P := Try.prog) (X := [0, 1]) (pn := []) (rs := (fun (t : (List (List Int))) => [(.c (lo 0 t.length))])) (dfs := (fun (t : (List (List Int))) => [(0, (.trow 37 1 (lensOf t))), (1, (.pool 3 (rowsOf encInt t)))])) Try.func108 rfl Try.ntmps108 (Nat.le_of_ble_eq_true rfl) rfl ?_
 intro w0 U0 R0 g0
 unfold m_spec_l13Turned
 refine Ws (Wr ?_)
 refine Os10 (LT.box (n := 21) (v := (.agg [(iC f.Graph.Points), (xF encTBar f.Graph.Bars), (xF encTPlace f.Places)])) rfl sz29 (by exact rfl)) rfl rfl rfl ?_
 refine asg (Cc (sC nilV)) rfl ⟨rfl, rfl⟩ rfl rfl ?_
 refine On (Ws (Wr ?_))
 refine Op11 (LT.bloadN (out := [(iC f.Graph.Points), (xF encTBar f.Graph.Bars), (xF encTPlace f.Places)]) rfl ag29 (infS inf29) sz29 (by exact rfl) (by exact rfl)) rfl rfl rfl rfl ?_
 refine Ob' fun r1 hr1 => ?_
 refine AOR.step (@LT.callF Try.prog _ _ 46 _ _ [(.agg [(iC f.Graph.Points), (xF encTBar f.Graph.Bars), (xF encTPlace f.Places)])] _ _ [] _ _ _ _ ((show Fw.Fn Try.prog 46 [(.agg [(iC f.Graph.Points), (xF encTBar f.Graph.Bars), (xF encTPlace f.Places)])] [] (Cc (lo 23 r1.length)) [(23, (pR 37 (encLInt true) r1))] [] [23] from Fw.Fn.ren [(0, 23)] (w_spec_RigidityMatrix f r1 hr1) rfl)) rfl cb46 (.cons (.agg (.cons (.same rfl) (.cons (.same rfl) (.cons (.same rfl) .nil)))) .nil) rfl rfl trivial) ⟨rfl, rfl, trivial⟩ trivial rfl rfl ?_
 refine asg (Cc (lo 23 r1.length)) rfl rfl rfl rfl ?_
 refine On (Ws (Wr ?_))
 refine Os00 (LT.buildSlice (n := 24) (els := []) [] rfl rfl und31 ti37 rfl rfl rfl rfl (by decide) rfl rfl) rfl rfl ?_
 refine asg (Cc (lo 24 0)) rfl rfl rfl rfl ?_
 refine On ?_
 refine AWR.ent (Ent.poolE 25 3 rfl) ?_
 refine AWR.ent (Ent.trow (n := 24) (p := 25) (lens := lensOf ([] : List (List Int))) (List.append_nil _) rfl) ?_
 refine Ws (Ws (Wr ?_))
 refine asg (Iv 0) rfl ⟨rfl, rfl⟩ rfl rfl ?_
 refine On (AWR.block ?_)
 refine AWR.loop1 (id := 0) (m_spec_l13Turned_L3 f) (fun s2 => ([(1, (Cc (.pl 21 0))), (3, (Cc (lo 23 s2.2.1.length))), (4, (Cc (lo 24 s2.2.2.length))), (5, (Iv s2.1))], [(21, (.row 29 [[(iC f.Graph.Points), (xF encTBar f.Graph.Bars), (xF encTPlace f.Places)]])), (23, (pR 37 (encLInt true) s2.2.1)), (24, (.trow 37 25 (lensOf s2.2.2))), (25, (.pool 3 (rowsOf encInt s2.2.2)))])) (fun b33 => ([(4, (Cc (lo 24 b33.length)))], [(24, (.trow 37 25 (lensOf b33))), (25, (.pool 3 (rowsOf encInt b33)))])) ?_ (Ent.of ⟨rfl, rfl, rfl, rfl, trivial⟩ ⟨rfl, rfl, rfl, rfl, trivial⟩) rfl (fun b33 _ => ?_)
 ·intro s2
  unfold m_spec_l13Turned_L3
  refine Ws (Ws ?_)
  refine AWR.joinK (fun j35 => ([(1, (Cc (.pl 21 0))), (3, (Cc (lo 23 s2.2.1.length))), (4, (Cc (lo 24 s2.2.2.length))), (5, (Iv s2.1)), (21, (Bv j35))], [(21, (.row 29 [[(iC f.Graph.Points), (xF encTBar f.Graph.Bars), (xF encTPlace f.Places)]])), (23, (pR 37 (encLInt true) s2.2.1)), (24, (.trow 37 25 (lensOf s2.2.2))), (25, (.pool 3 (rowsOf encInt s2.2.2)))])) ?_ (fun j35 _ => ?_)
  ·refine Wr ?_
   refine mv (Iv s2.1) rfl rfl rfl rfl ?_
   refine Op10 (LT.fieldPl rfl fo29_0) rfl rfl rfl ?_
   refine Op10 (LT.fieldPl rfl fo26_0) rfl rfl rfl ?_
   refine Op11 (LT.bload1 (c := (iC f.Graph.Points)) rfl ag3 (by exact rfl)) rfl rfl rfl rfl ?_
   refine Op20 (LT.mul rfl) ⟨rfl, rfl⟩ rfl rfl rfl ?_
   refine Op20 (LT.lss rfl) rfl rfl rfl rfl ?_
   refine mv (Bv (decide (s2.1 < (w64 (2 * f.Graph.Points))))) rfl rfl rfl rfl ?_
   refine AOR.split (fun hb36 => ?_) (fun hb36 => ?_)
   ·refine mv (Cc (lo 23 s2.2.1.length)) rfl rfl ⟨_, rfl, .inl ⟨_, rfl, (by rw [hb36]; rfl)⟩⟩ rfl ?_
    refine Op10 (LT.lenLoc rfl und31) rfl ⟨_, rfl, .inl ⟨_, rfl, (by rw [hb36]; rfl)⟩⟩ rfl ?_
    refine Op20 (LT.gtr rfl) rfl ⟨rfl, rfl⟩ ⟨_, rfl, .inl ⟨_, rfl, (by rw [hb36]; rfl)⟩⟩ rfl ?_
    refine Op20 (LT.pickT (v := (Bv (decide (0 < (s2.2.1.length : Int))))) rfl hb36) rfl rfl rfl rfl ?_
    refine On ?_
    refine AWR.nil ⟨rfl, Ent.of ⟨rfl, rfl, rfl, rfl, rfl, trivial⟩ ⟨rfl, rfl, rfl, rfl, trivial⟩⟩
   ·refine Ok rfl rfl rfl (by rw [hb36]; rfl) rfl ?_
    refine Ok rfl rfl rfl (by rw [hb36]; rfl) rfl ?_
    refine Ok rfl rfl rfl (by rw [hb36]; rfl) rfl ?_
    refine Op20 (LT.pickF (v := (Bv false)) rfl hb36) rfl ⟨rfl, rfl⟩ rfl rfl ?_
    refine On ?_
    refine AWR.nil ⟨rfl, Ent.of ⟨rfl, rfl, rfl, rfl, rfl, trivial⟩ ⟨rfl, rfl, rfl, rfl, trivial⟩⟩
  ·refine AWR.cond rfl (fun hc37 => ?_) (fun hc37 => ?_)
   ·refine AWR.skip (Ws (AWR.block (Ws (Wr ?_))))
    refine Os00 (LT.tbuildSlice (n := 26) (enc := encInt) [] ([] : List Int) rfl rfl und37 ti3 rfl rfl rfl rfl (by decide) (fun _ => rfl) rfl) rfl rfl ?_
    refine asg (Cc (lo 26 (([] : List Int).length))) rfl rfl rfl rfl ?_
    refine On (Ws (Ws (Wr ?_)))
    refine asg (Iv 0) rfl ⟨rfl, rfl⟩ rfl rfl ?_
    refine On (AWR.block ?_)
    refine AWR.loop1 (id := 2) (m_spec_l13Turned_L4 s2) (fun s38 => ([(1, (Cc (.pl 21 0))), (3, (Cc (lo 23 s2.2.1.length))), (4, (Cc (lo 24 s2.2.2.length))), (5, (Iv s2.1)), (6, (Cc (lo 26 s38.2.length))), (7, (Iv s38.1))], [(21, (.row 29 [[(iC f.Graph.Points), (xF encTBar f.Graph.Bars), (xF encTPlace f.Places)]])), (23, (pR 37 (encLInt true) s2.2.1)), (24, (.trow 37 25 (lensOf s2.2.2))), (25, (.pool 3 (rowsOf encInt s2.2.2))), (26, (pR 3 encInt s38.2))])) (fun b47 => ([(1, (Cc (.pl 21 0))), (3, (Cc (lo 23 b47.2.1.length))), (4, (Cc (lo 24 b47.2.2.1.length))), (5, (Iv b47.1)), (6, (Cc (lo 26 b47.2.2.2.length)))], [(21, (.row 29 [[(iC f.Graph.Points), (xF encTBar f.Graph.Bars), (xF encTPlace f.Places)]])), (23, (pR 37 (encLInt true) b47.2.1)), (24, (.trow 37 25 (lensOf b47.2.2.1))), (25, (.pool 3 (rowsOf encInt b47.2.2.1))), (26, (pR 3 encInt b47.2.2.2))])) ?_ (Ent.of ⟨rfl, rfl, rfl, rfl, rfl, rfl, trivial⟩ ⟨rfl, rfl, rfl, rfl, rfl, trivial⟩) rfl (fun b47 _ => ?_)
    ·intro s38
     unfold m_spec_l13Turned_L4
     refine Ws (Ws (Wr ?_))
     refine mv (Iv s38.1) rfl rfl rfl rfl ?_
     refine mv (Cc (lo 23 s2.2.1.length)) rfl rfl rfl rfl ?_
     refine Op10 (LT.lenLoc rfl und31) rfl rfl rfl ?_
     refine Op20 (LT.lss rfl) rfl rfl rfl rfl ?_
     refine On ?_
     refine AWR.cond rfl (fun hc48 => ?_) (fun hc48 => ?_)
     ·refine AWR.skip (Ws (AWR.block (Wr ?_)))
      refine mv (Cc (lo 26 s38.2.length)) rfl rfl rfl rfl ?_
      refine mv (Cc (lo 23 s2.2.1.length)) rfl rfl rfl rfl ?_
      refine mv (Iv s38.1) rfl rfl rfl rfl ?_
      refine Ob' fun x49 hx49 => ?_
      refine Op21 (LT.tindexLoc rfl rfl el31 hx49) rfl rfl rfl rfl rfl ?_
      refine Op11 (LT.tload1 (k := 0) rfl ag37 hx49 (by exact rfl) (by exact rfl)) rfl rfl rfl rfl ?_
      refine mv (Iv s2.1) rfl rfl rfl rfl ?_
      refine Ob' fun x50 hx50 => ?_
      refine Op20 (LT.tindexRO (enc := encInt) rfl el37 hx50 sz3) rfl rfl rfl rfl ?_
      refine Op10 (LT.loadPx1 rfl ag3) rfl rfl rfl ?_
      refine Os10 (LT.tbuildSlice (n := 27) (enc := encInt) [(0, .tmp 38, (.c (iC x50)))] ([x50] : List Int) rfl rfl und37 ti3 rfl rfl rfl rfl (by decide) (fun _ => rfl) rfl) rfl rfl rfl ?_
      refine Ob' fun u51 hu51 => ?_
      refine Os22 (LT.tappP (enc := encInt) rfl rfl rfl und37 ti3 rfl (by decide) (by decide) (fun _ => rfl) (lim_le hu51)) rfl rfl rfl rfl rfl rfl ?_
      refine asg (Cc (lo 26 ((s38.2 ++ ([x50] : List Int)).length))) rfl rfl rfl rfl ?_
      refine On (AWR.blk ?_)
      refine en [(1, (Cc (.pl 21 0))), (3, (Cc (lo 23 s2.2.1.length))), (4, (Cc (lo 24 s2.2.2.length))), (5, (Iv s2.1)), (6, (Cc (lo 26 ((s38.2 ++ ([x50] : List Int)).length)))), (7, (Iv s38.1))] [(21, (.row 29 [[(iC f.Graph.Points), (xF encTBar f.Graph.Bars), (xF encTPlace f.Places)]])), (23, (pR 37 (encLInt true) s2.2.1)), (24, (.trow 37 25 (lensOf s2.2.2))), (25, (.pool 3 (rowsOf encInt s2.2.2))), (26, (pR 3 encInt (s38.2 ++ ([x50] : List Int))))] ⟨rfl, rfl, rfl, rfl, rfl, rfl, trivial⟩ ⟨rfl, rfl, rfl, rfl, rfl, trivial⟩ ?_
      refine Wr ?_
      refine mv (Iv s38.1) rfl rfl rfl rfl ?_
      refine Op20 (LT.add rfl) rfl ⟨rfl, rfl⟩ rfl rfl ?_
      refine asg (Iv (w64 (s38.1 + 1))) rfl rfl rfl rfl ?_
      refine On ?_
      refine AWR.nil ⟨rfl, Ent.of ⟨rfl, rfl, rfl, rfl, rfl, rfl, trivial⟩ ⟨rfl, rfl, rfl, rfl, rfl, trivial⟩⟩
     ·refine AWR.exit_end rfl ⟨rfl, Ent.of ⟨rfl, rfl, rfl, rfl, rfl, trivial⟩ ⟨rfl, rfl, rfl, rfl, rfl, trivial⟩⟩
    ·refine Wr ?_
     refine mv (Cc (lo 24 b47.2.2.1.length)) rfl rfl rfl rfl ?_
     refine mv (Cc (lo 26 b47.2.2.2.length)) rfl rfl rfl rfl ?_
     refine Os10 (LT.buildSlice (n := 28) (els := [[(lo 26 b47.2.2.2.length)]]) [(0, .tmp 42, (.c (lo 26 b47.2.2.2.length)))] rfl rfl und31 ti37 rfl rfl rfl rfl (by decide) rfl rfl) rfl rfl rfl ?_
     refine Ob' fun u52 hu52 => ?_
     refine Os22 (LT.xapp rfl rfl rfl und31 ti37 rfl (by decide) (by decide) rfl (lim_le hu52)) rfl rfl rfl rfl rfl rfl ?_
     refine asg (Cc (lo 24 (b47.2.2.1.length + 1))) rfl rfl rfl rfl ?_
     refine On ?_
     refine AWR.ent (Ent.tadopt (enc := encInt) (n := 24) (m := 26) (p := 25) (rows := b47.2.2.1) (r := b47.2.2.2) (rest := []) rfl rfl rfl rfl rfl rfl) ?_
     refine AWR.ent (Ent.trow (n := 24) (p := 25) (lens := lensOf (b47.2.2.1 ++ [b47.2.2.2])) (List.append_nil _) rfl) ?_
     refine AWR.blk (Wr ?_)
     refine mv (Iv b47.1) rfl rfl rfl rfl ?_
     refine Op20 (LT.add rfl) rfl ⟨rfl, rfl⟩ rfl rfl ?_
     refine asg (Iv (w64 (b47.1 + 1))) rfl rfl rfl rfl ?_
     refine On ?_
     refine AWR.nil ⟨rfl, Ent.of ⟨rfl, rfl, (congrArg (fun l1 => (some (AV.s (.c (lo 24 l1))) : Option AV)) (show (b47.2.2.1.length + 1) = (b47.2.2.1 ++ [b47.2.2.2]).length from len_snoc)), rfl, trivial⟩ ⟨rfl, rfl, rfl, rfl, trivial⟩⟩
   ·refine AWR.exit_end rfl ⟨rfl, Ent.of ⟨rfl, trivial⟩ ⟨rfl, rfl, trivial⟩⟩
 ·refine Ws (Wr ?_)
  refine mv (Cc (lo 24 b33.length)) rfl rfl rfl rfl ?_
  refine asg (Cc (lo 24 b33.length)) rfl rfl rfl rfl ?_
  refine On ?_
  refine en [(2, (Cc (lo 24 b33.length)))] [(24, (.trow 37 25 (lensOf b33))), (25, (.pool 3 (rowsOf encInt b33)))] ⟨rfl, trivial⟩ ⟨rfl, rfl, trivial⟩ ?_
  refine AWR.ent (Ent.mv 24 0 rfl rfl) ?_
  refine AWR.ent (Ent.mv 25 1 rfl rfl) ?_
  refine en [(2, (Cc (lo 0 b33.length)))] [(0, (.trow 37 1 (lensOf b33))), (1, (.pool 3 (rowsOf encInt b33)))] ⟨rfl, trivial⟩ ⟨rfl, rfl, trivial⟩ ?_
  refine AWR.ret (FPost.mk (.inr rfl) ⟨rfl, trivial⟩ ⟨rfl, rfl, trivial⟩ rfl ⟨trivial, trivial⟩ ⟨trivial, PermO.poolR perm_encInt _, trivial⟩)
theorem w_spec_StressesOf (f : TFramework) : ∀ t, m_spec_StressesOf f = some t → Fw.Fn Try.prog 14 [(.agg [(iC f.Graph.Points), (xF encTBar f.Graph.Bars), (xF encTPlace f.Places)])] [] (.s (.c (lo 0 t.length))) [(0, (pR 37 (encLInt true) t))] [] [0] := by
 refine Fw.Fn.of (P := Try.prog) (X := [0]) (pn := []) (rs := (fun (t : (List (List Int))) => [(.c (lo 0 t.length))])) (dfs := (fun (t : (List (List Int))) => [(0, (pR 37 (encLInt true) t))])) Try.func14 rfl Try.ntmps14 (Nat.le_of_ble_eq_true rfl) rfl ?_
 intro w0 U0 R0 g0
 unfold m_spec_StressesOf
 refine Ws (Wr ?_)
 refine Os10 (LT.box (n := 21) (v := (.agg [(iC f.Graph.Points), (xF encTBar f.Graph.Bars), (xF encTPlace f.Places)])) rfl sz29 (by exact rfl)) rfl rfl rfl ?_
 refine asg (Cc (sC nilV)) rfl ⟨rfl, rfl⟩ rfl rfl ?_
 refine On (Ws (Ws ?_))
 refine AWR.joinK (fun j3 => ([(1, (Cc (.pl 21 0))), (12, (Bv j3))], [(21, (.row 29 [[(iC f.Graph.Points), (xF encTBar f.Graph.Bars), (xF encTPlace f.Places)]]))])) ?_ (fun j3 _ => ?_)
 ·refine Wr ?_
  refine Op11 (LT.bloadN (out := [(iC f.Graph.Points), (xF encTBar f.Graph.Bars), (xF encTPlace f.Places)]) rfl ag29 (infS inf29) sz29 (by exact rfl) (by exact rfl)) rfl rfl rfl rfl ?_
  refine Ob' fun r4 hr4 => ?_
  refine AOR.pure (@LT.callF Try.prog _ _ 15 _ _ [(.agg [(iC f.Graph.Points), (xF encTBar f.Graph.Bars), (xF encTPlace f.Places)])] _ _ [] _ _ _ _ (w_spec_IsFramework f r4 hr4) rfl cb15 (.cons (.agg (.cons (.same rfl) (.cons (.same rfl) (.cons (.same rfl) .nil)))) .nil) rfl rfl trivial) ⟨rfl, rfl, trivial⟩ trivial rfl rfl ?_
  refine Op10 (LT.not rfl) rfl rfl rfl ?_
  refine mv (Bv (!r4)) rfl rfl rfl rfl ?_
  refine AOR.split (fun hb5 => ?_) (fun hb5 => ?_)
  ·refine Ok rfl rfl rfl (by rw [hb5]; rfl) rfl ?_
   refine Ok rfl rfl rfl (by rw [hb5]; rfl) rfl ?_
   refine Ok rfl rfl rfl (by rw [hb5]; rfl) rfl ?_
   refine Ok rfl rfl rfl (by rw [hb5]; rfl) rfl ?_
   refine Ok rfl rfl rfl (by rw [hb5]; rfl) rfl ?_
   refine Op20 (LT.pickT (v := (Bv true)) rfl hb5) rfl ⟨rfl, rfl⟩ rfl rfl ?_
   refine On ?_
   refine AWR.nil ⟨rfl, Ent.of ⟨rfl, rfl, trivial⟩ ⟨rfl, trivial⟩⟩
  ·refine Op10 (LT.fieldPl rfl fo29_0) rfl ⟨_, rfl, .inl ⟨_, rfl, (by rw [hb5]; rfl)⟩⟩ rfl ?_
   refine Op10 (LT.fieldPl rfl fo26_1) rfl ⟨_, rfl, .inl ⟨_, rfl, (by rw [hb5]; rfl)⟩⟩ rfl ?_
   refine Op11 (LT.bload1 (c := (xF encTBar f.Graph.Bars)) rfl ag24 (by exact rfl)) rfl rfl ⟨_, rfl, .inl ⟨_, rfl, (by rw [hb5]; rfl)⟩⟩ rfl ?_
   refine Op10 (LT.tlenRO rfl und24) rfl ⟨_, rfl, .inl ⟨_, rfl, (by rw [hb5]; rfl)⟩⟩ rfl ?_
   refine Op20 (LT.eql rfl) rfl ⟨rfl, rfl⟩ ⟨_, rfl, .inl ⟨_, rfl, (by rw [hb5]; rfl)⟩⟩ rfl ?_
   refine Op20 (LT.pickF (v := (Bv ((f.Graph.Bars.length : Int) == 0))) rfl hb5) rfl rfl rfl rfl ?_
   refine On ?_
   refine AWR.nil ⟨rfl, Ent.of ⟨rfl, rfl, trivial⟩ ⟨rfl, trivial⟩⟩
 ·refine AWR.cond rfl (fun hc6 => ?_) (fun hc6 => ?_)
  ·refine Ws (Wr ?_)
   refine Os00 (LT.tbuildSlice (n := 23) (enc := (encLInt true)) [] ([] : List (List Int)) rfl rfl und31 ti37 rfl rfl rfl rfl (by decide) (fun _ => rfl) rfl) rfl rfl ?_
   refine asg (Cc (lo 23 (([] : List (List Int)).length))) rfl rfl rfl rfl ?_
   refine On ?_
   refine en [(2, (Cc (lo 23 (([] : List (List Int)).length))))] [(23, (pR 37 (encLInt true) ([] : List (List Int))))] ⟨rfl, trivial⟩ ⟨rfl, trivial⟩ ?_
   refine AWR.ent (Ent.mv 23 0 rfl rfl) ?_
   refine en [(2, (Cc (lo 0 (([] : List (List Int)).length))))] [(0, (pR 37 (encLInt true) ([] : List (List Int))))] ⟨rfl, trivial⟩ ⟨rfl, trivial⟩ ?_
   refine AWR.ret (FPost.mk (.inr rfl) ⟨rfl, trivial⟩ ⟨rfl, trivial⟩ rfl ⟨trivial, trivial⟩ ⟨PermO.prow' perm_encLInt, trivial⟩)
  ·refine AWR.skip (Ws (AWR.draw mixed ?_))
   refine Dp11 (LT.bloadN (out := [(iC f.Graph.Points), (xF encTBar f.Graph.Bars), (xF encTPlace f.Places)]) rfl ag29 (infS inf29) sz29 (by exact rfl) (by exact rfl)) rfl rfl rfl rfl ?_
   refine AOD.bind fun r7 hr7 => ?_
   refine AOD.step (@LT.callF Try.prog _ _ 108 _ _ [(.agg [(iC f.Graph.Points), (xF encTBar f.Graph.Bars), (xF encTPlace f.Places)])] _ _ [] _ _ _ _ ((show Fw.Fn Try.prog 108 [(.agg [(iC f.Graph.Points), (xF encTBar f.Graph.Bars), (xF encTPlace f.Places)])] [] (Cc (lo 25 r7.length)) [(25, (.trow 37 26 (lensOf r7))), (26, (.pool 3 (rowsOf encInt r7)))] [] [25, 26] from Fw.Fn.ren [(0, 25), (1, 26)] (w_spec_l13Turned f r7 hr7) rfl)) rfl cb108 (.cons (.agg (.cons (.same rfl) (.cons (.same rfl) (.cons (.same rfl) .nil)))) .nil) rfl rfl trivial) ⟨rfl, rfl, trivial⟩ trivial rfl rfl ?_
   refine Dp10 (LT.fieldPl rfl fo29_0) rfl rfl rfl ?_
   refine Dp10 (LT.fieldPl rfl fo26_1) rfl rfl rfl ?_
   refine Dp11 (LT.bload1 (c := (xF encTBar f.Graph.Bars)) rfl ag24 (by exact rfl)) rfl rfl rfl rfl ?_
   refine Dp10 (LT.tlenRO rfl und24) rfl rfl rfl ?_
   refine AOD.bind fun r8 hr8 => ?_
   refine AOD.step (@LT.callF Try.prog _ _ 107 _ _ [(.c (lo 25 r7.length)), (.c (iC (f.Graph.Bars.length : Int)))] _ _ [(25, (.trow 37 26 (lensOf r7))), (26, (.pool 3 (rowsOf encInt r7)))] _ _ _ _ ((show Fw.Fn Try.prog 107 [(.c (xF (encLInt false) r7)), (.c (iC (f.Graph.Bars.length : Int)))] [] (Cc (lo 28 r8.length)) [(28, (pR 37 (encLInt true) r8))] [] [28] from Fw.Fn.ren [(0, 28)] (w_spec_l9Null r7 (f.Graph.Bars.length : Int) r8 hr8) rfl)) rfl cb107 (.cons (.c (.ttrow rfl rfl rfl (fun _ => rfl))) (.cons (.c (.same rfl)) .nil)) rfl rfl trivial) ⟨rfl, rfl, rfl, trivial⟩ ⟨rfl, rfl, trivial⟩ rfl rfl ?_
   refine Dp10 (LT.assign (v := (Cc (lo 28 r8.length))) rfl) rfl rfl rfl ?_
   refine AOD.nil (by kernel_rfl) ?_
   refine en [(2, (Cc (lo 28 r8.length)))] [(28, (pR 37 (encLInt true) r8))] ⟨rfl, trivial⟩ ⟨rfl, trivial⟩ ?_
   refine AWR.ent (Ent.mv 28 0 rfl rfl) ?_
   refine en [(2, (Cc (lo 0 r8.length)))] [(0, (pR 37 (encLInt true) r8))] ⟨rfl, trivial⟩ ⟨rfl, trivial⟩ ?_
   refine AWR.ret (FPost.mk (.inr rfl) ⟨rfl, trivial⟩ ⟨rfl, trivial⟩ rfl ⟨trivial, trivial⟩ ⟨PermO.prow' perm_encLInt, trivial⟩)
end Go.Proofs.Ytghofbijdnenoaa
end
section
set_option linter.unusedVariables false
set_option linter.unusedSimpArgs false
set_option linter.unnecessarySimpa false
set_option maxRecDepth 100000
set_option maxHeartbeats 8000000
open Go Go.Fw
namespace Go.Proofs.Ytghofbijdnenoaa
theorem w_impl_areSmall (v : (List Int)) (n : Int) : ∀ t, m_impl_areSmall v n = some t → Fw.Fn Try.prog 208 [(.c (xF encInt v)), (.c (iC n))] [] (.s (.c (bC t))) [] [] [] := by
 refine Fw.Fn.of (P := Try.prog) (X := []) (pn := []) (rs := (fun (t : Bool) => [(.c (bC t))])) (dfs := (fun (t : Bool) => [])) Try.func208 rfl Try.ntmps208 (Nat.le_of_ble_eq_true rfl) rfl ?_
 intro w0 U0 R0 g0
 unfold m_impl_areSmall
 refine Ws (Wr ?_)
 refine asg (Bv false) rfl ⟨rfl, rfl⟩ rfl rfl ?_
 refine On (Ws (Ws (Wr ?_)))
 refine mv (Cc (xF encInt v)) rfl rfl rfl rfl ?_
 refine Op10 (LT.tlenRO rfl und37) rfl rfl rfl ?_
 refine mv (Iv 0) rfl ⟨rfl, rfl⟩ rfl rfl ?_
 refine On (AWR.block ?_)
 refine AWR.loopR (id := 0) (m_impl_areSmall_L1 v) (fun s1 => ([(0, (Cc (xF encInt v))), (1, (Iv n)), (7, (Cc (xF encInt v))), (8, (Iv (v.length : Int))), (9, (Iv s1))], [])) (fun b10 => ([(0, (Cc (xF encInt v))), (1, (Iv n))], [])) (FPost Try.prog Try.f208.results.toList [] [] (fun (t : Bool) => [(.c (bC t))]) (fun (t : Bool) => [])) ?_ (Ent.of ⟨rfl, rfl, rfl, rfl, rfl, trivial⟩ trivial) rfl (fun b10 _ => ?_) (by intro r t σ m ht hk; injection ht with ht; subst ht; exact hk)
 ·intro s1
  unfold m_impl_areSmall_L1
  refine Ws (Wr ?_)
  refine Op20 (LT.lss rfl) rfl rfl rfl rfl ?_
  refine On (Ws ?_)
  refine AWR.cond rfl (fun hc11 => ?_) (fun hc11 => ?_)
  ·refine AWR.skip (Ws (AWR.block (Ws (Wr ?_))))
   refine Ob' fun x12 hx12 => ?_
   refine Op20 (LT.tindexRO (enc := encInt) rfl el37 hx12 sz3) rfl rfl rfl rfl ?_
   refine Op10 (LT.loadPx1 rfl ag3) rfl rfl rfl ?_
   refine asg (Iv x12) rfl rfl rfl rfl ?_
   refine On (Ws (Wr ?_))
   refine mv (Iv x12) rfl rfl rfl rfl ?_
   refine Ob' fun r13 hr13 => ?_
   refine AOR.pure (@LT.callF Try.prog _ _ 128 _ _ [(.c (iC x12)), (.c (iC (-10000000000))), (.c (iC 10000000000))] _ _ [] _ _ _ _ (w_impl_within x12 (-10000000000) 10000000000 r13 hr13) rfl cb128 (.cons (.c (.same rfl)) (.cons (.c (.same rfl)) (.cons (.c (.same rfl)) .nil))) rfl rfl trivial) ⟨rfl, rfl, ⟨rfl, rfl⟩, ⟨rfl, rfl⟩, trivial⟩ trivial rfl rfl ?_
   refine Op10 (LT.not rfl) rfl rfl rfl ?_
   refine On ?_
   refine AWR.cond rfl (fun hc14 => ?_) (fun hc14 => ?_)
   ·refine Ws (Wr ?_)
    refine asg (Bv false) rfl ⟨rfl, rfl⟩ rfl rfl ?_
    refine On ?_
    refine AWR.ret ⟨rfl, FPost.mk (.inr rfl) ⟨rfl, trivial⟩ trivial rfl ⟨PermP.sc, trivial⟩ trivial⟩
   ·refine AWR.skip (AWR.blk (Wr ?_))
    refine Op20 (LT.add rfl) rfl ⟨rfl, rfl⟩ rfl rfl ?_
    refine mv (Iv (w64 (s1 + 1))) rfl rfl rfl rfl ?_
    refine On ?_
    refine AWR.nil ⟨rfl, Ent.of ⟨rfl, rfl, rfl, rfl, rfl, trivial⟩ trivial⟩
  ·refine AWR.exit_end rfl ⟨rfl, Ent.of ⟨rfl, rfl, trivial⟩ trivial⟩
 ·refine Ws (Wr ?_)
  refine mv (Cc (xF encInt v)) rfl rfl rfl rfl ?_
  refine Op10 (LT.tlenRO rfl und37) rfl rfl rfl ?_
  refine mv (Iv n) rfl rfl rfl rfl ?_
  refine Op20 (LT.eql rfl) rfl rfl rfl rfl ?_
  refine asg (Bv ((v.length : Int) == n)) rfl rfl rfl rfl ?_
  refine On ?_
  refine AWR.ret (FPost.mk (.inr rfl) ⟨rfl, trivial⟩ trivial rfl ⟨PermP.sc, trivial⟩ trivial)
end Go.Proofs.Ytghofbijdnenoaa
end
section
set_option linter.unusedVariables false
set_option linter.unusedSimpArgs false
set_option linter.unnecessarySimpa false
set_option maxRecDepth 100000
set_option maxHeartbeats 8000000
open Go Go.Fw
namespace Go.Proofs.Ytghofbijdnenoaa
theorem w_impl_Bar_other (x : TBar) (v : Int) : ∀ t, m_impl_Bar_other x v = some t → Fw.Fn Try.prog 120 [(.agg [(iC x.A), (iC x.B)]), (.c (iC v))] [] (.s (.c (iC t))) [] [] [] := by
 refine Fw.Fn.of (P := Try.prog) (X := []) (pn := []) (rs := (fun (t : Int) => [(.c (iC t))])) (dfs := (fun (t : Int) => [])) Try.func120 rfl Try.ntmps120 (Nat.le_of_ble_eq_true rfl) rfl ?_
 intro w0 U0 R0 g0
 unfold m_impl_Bar_other
 refine Ws (Wr ?_)
 refine Os10 (LT.box (n := 21) (v := (.agg [(iC x.A), (iC x.B)])) rfl sz62 (by exact rfl)) rfl rfl rfl ?_
 refine asg (Iv 0) rfl ⟨rfl, rfl⟩ rfl rfl ?_
 refine On (Ws (Ws (Wr ?_)))
 refine Op10 (LT.fieldPl rfl fo62_0) rfl rfl rfl ?_
 refine Op11 (LT.bload1 (c := (iC x.A)) rfl ag3 (by exact rfl)) rfl rfl rfl rfl ?_
 refine mv (Iv v) rfl rfl rfl rfl ?_
 refine Op20 (LT.eql rfl) rfl rfl rfl rfl ?_
 refine On ?_
 refine AWR.cond rfl (fun hc1 => ?_) (fun hc1 => ?_)
 ·refine Ws (Wr ?_)
  refine Op10 (LT.fieldPl rfl fo62_1) rfl rfl rfl ?_
  refine Op11 (LT.bload1 (c := (iC x.B)) rfl ag3 (by exact rfl)) rfl rfl rfl rfl ?_
  refine asg (Iv x.B) rfl rfl rfl rfl ?_
  refine On ?_
  refine AWR.ret (FPost.mk (.inr rfl) ⟨rfl, trivial⟩ trivial rfl ⟨PermP.sc, trivial⟩ trivial)
 ·refine AWR.skip (Ws (Wr ?_))
  refine Op10 (LT.fieldPl rfl fo62_0) rfl rfl rfl ?_
  refine Op11 (LT.bload1 (c := (iC x.A)) rfl ag3 (by exact rfl)) rfl rfl rfl rfl ?_
  refine asg (Iv x.A) rfl rfl rfl rfl ?_
  refine On ?_
  refine AWR.ret (FPost.mk (.inr rfl) ⟨rfl, trivial⟩ trivial rfl ⟨PermP.sc, trivial⟩ trivial)
theorem w_spec_l4Other (b : TBar) (v : Int) : ∀ t, m_spec_l4Other b v = some t → Fw.Fn Try.prog 123 [(.agg [(iC b.A), (iC b.B)]), (.c (iC v))] [] (.s (.c (iC t))) [] [] [] := by
 refine Fw.Fn.of (P := Try.prog) (X := []) (pn := []) (rs := (fun (t : Int) => [(.c (iC t))])) (dfs := (fun (t : Int) => [])) Try.func123 rfl Try.ntmps123 (Nat.le_of_ble_eq_true rfl) rfl ?_
 intro w0 U0 R0 g0
 unfold m_spec_l4Other
 refine Ws (Wr ?_)
 refine Os10 (LT.box (n := 21) (v := (.agg [(iC b.A), (iC b.B)])) rfl sz62 (by exact rfl)) rfl rfl rfl ?_
 refine asg (Iv 0) rfl ⟨rfl, rfl⟩ rfl rfl ?_
 refine On (Ws (Wr ?_))
 refine Op10 (LT.fieldPl rfl fo62_0) rfl rfl rfl ?_
 refine Op11 (LT.bload1 (c := (iC b.A)) rfl ag3 (by exact rfl)) rfl rfl rfl rfl ?_
 refine Op10 (LT.fieldPl rfl fo62_1) rfl rfl rfl ?_
 refine Op11 (LT.bload1 (c := (iC b.B)) rfl ag3 (by exact rfl)) rfl rfl rfl rfl ?_
 refine Op20 (LT.add rfl) rfl rfl rfl rfl ?_
 refine mv (Iv v) rfl rfl rfl rfl ?_
 refine Op20 (LT.sub rfl) rfl rfl rfl rfl ?_
 refine asg (Iv (w64 ((w64 (b.A + b.B)) - v))) rfl rfl rfl rfl ?_
 refine On ?_
 refine AWR.ret (FPost.mk (.inr rfl) ⟨rfl, trivial⟩ trivial rfl ⟨PermP.sc, trivial⟩ trivial)
end Go.Proofs.Ytghofbijdnenoaa
end
section
set_option linter.unusedVariables false
set_option linter.unusedSimpArgs false
set_option linter.unnecessarySimpa false
set_option maxRecDepth 100000
set_option maxHeartbeats 8000000
open Go Go.Fw
namespace Go.Proofs.Ytghofbijdnenoaa
theorem w_impl_areForces (f : TFramework) (w : (List Int)) : ∀ t, m_impl_areForces f w = some t → Fw.Fn Try.prog 111 [(.agg [(iC f.Graph.Points), (xF encTBar f.Graph.Bars), (xF encTPlace f.Places)]), (.c (xF encInt w))] [] (.s (.c (bC t))) [] [] [] := by
 refine Fw.Fn.of (P := Try.prog) (X := []) (pn := []) (rs := (fun (t : Bool) => [(.c (bC t))])) (dfs := (fun (t : Bool) => [])) Try.func111 rfl Try.ntmps111 (Nat.le_of_ble_eq_true rfl) rfl ?_
 intro w0 U0 R0 g0
 unfold m_impl_areForces
 refine Ws (Wr ?_)
 refine Os10 (LT.box (n := 21) (v := (.agg [(iC f.Graph.Points), (xF encTBar f.Graph.Bars), (xF encTPlace f.Places)])) rfl sz29 (by exact rfl)) rfl rfl rfl ?_
 refine asg (Bv false) rfl ⟨rfl, rfl⟩ rfl rfl ?_
 refine On (Ws ?_)
 refine AWR.joinK (fun j4 => ([(4, (Bv j4))], [])) ?_ (fun j4 _ => ?_)
 ·refine Wr ?_
  refine Op11 (LT.bloadN (out := [(iC f.Graph.Points), (xF encTBar f.Graph.Bars), (xF encTPlace f.Places)]) rfl ag29 (infS inf29) sz29 (by exact rfl) (by exact rfl)) rfl rfl rfl rfl ?_
  refine Ob' fun r5 hr5 => ?_
  refine AOR.pure (@LT.callF Try.prog _ _ 80 _ _ [(.agg [(iC f.Graph.Points), (xF encTBar f.Graph.Bars), (xF encTPlace f.Places)])] _ _ [] _ _ _ _ (w_impl_IsFramework f r5 hr5) rfl cb80 (.cons (.agg (.cons (.same rfl) (.cons (.same rfl) (.cons (.same rfl) .nil)))) .nil) rfl rfl trivial) ⟨rfl, rfl, trivial⟩ trivial rfl rfl ?_
  refine mv (Bv r5) rfl rfl rfl rfl ?_
  refine AOR.split (fun hb6 => ?_) (fun hb6 => ?_)
  ·refine mv (Cc (xF encInt w)) rfl rfl ⟨_, rfl, .inl ⟨_, rfl, (by rw [hb6]; rfl)⟩⟩ rfl ?_
   refine Op10 (LT.fieldPl rfl fo29_0) rfl ⟨_, rfl, .inl ⟨_, rfl, (by rw [hb6]; rfl)⟩⟩ rfl ?_
   refine Op10 (LT.fieldPl rfl fo26_1) rfl ⟨_, rfl, .inl ⟨_, rfl, (by rw [hb6]; rfl)⟩⟩ rfl ?_
   refine Op11 (LT.bload1 (c := (xF encTBar f.Graph.Bars)) rfl ag24 (by exact rfl)) rfl rfl ⟨_, rfl, .inl ⟨_, rfl, (by rw [hb6]; rfl)⟩⟩ rfl ?_
   refine Op10 (LT.tlenRO rfl und24) rfl ⟨_, rfl, .inl ⟨_, rfl, (by rw [hb6]; rfl)⟩⟩ rfl ?_
   refine Ob' fun r7 hr7 => ?_
   refine AOR.pure (@LT.callF Try.prog _ _ 208 _ _ [(.c (xF encInt w)), (.c (iC (f.Graph.Bars.length : Int)))] _ _ [] _ _ _ _ (w_impl_areSmall w (f.Graph.Bars.length : Int) r7 hr7) rfl cb208 (.cons (.c (.same rfl)) (.cons (.c (.same rfl)) .nil)) rfl rfl trivial) ⟨rfl, rfl, rfl, trivial⟩ trivial ⟨_, rfl, .inl ⟨_, rfl, (by rw [hb6]; rfl)⟩⟩ rfl ?_
   refine Op20 (LT.pickT (v := (Bv r7)) rfl hb6) rfl rfl rfl rfl ?_
   refine asg (Bv r7) rfl rfl rfl rfl ?_
   refine On ?_
   refine AWR.nil ⟨rfl, Ent.of ⟨rfl, trivial⟩ trivial⟩
  ·refine Ok rfl rfl rfl (by rw [hb6]; rfl) rfl ?_
   refine Ok rfl rfl rfl (by rw [hb6]; rfl) rfl ?_
   refine Ok rfl rfl rfl (by rw [hb6]; rfl) rfl ?_
   refine Ok rfl rfl rfl (by rw [hb6]; rfl) rfl ?_
   refine Ok rfl rfl rfl (by rw [hb6]; rfl) rfl ?_
   refine Ok rfl rfl rfl (by rw [hb6]; rfl) rfl ?_
   refine Op20 (LT.pickF (v := (Bv false)) rfl hb6) rfl ⟨rfl, rfl⟩ rfl rfl ?_
   refine asg (Bv false) rfl rfl rfl rfl ?_
   refine On ?_
   refine AWR.nil ⟨rfl, Ent.of ⟨rfl, trivial⟩ trivial⟩
 ·refine AWR.ret (FPost.mk (.inr rfl) ⟨rfl, trivial⟩ trivial rfl ⟨PermP.sc, trivial⟩ trivial)
theorem w_impl_Bar_has (x : TBar) (v : Int) : ∀ t, m_impl_Bar_has x v = some t → Fw.Fn Try.prog 119 [(.agg [(iC x.A), (iC x.B)]), (.c (iC v))] [] (.s (.c (bC t))) [] [] [] := by
 refine Fw.Fn.of (P := Try.prog) (X := []) (pn := []) (rs := (fun (t : Bool) => [(.c (bC t))])) (dfs := (fun (t : Bool) => [])) Try.func119 rfl Try.ntmps119 (Nat.le_of_ble_eq_true rfl) rfl ?_
 intro w0 U0 R0 g0
 unfold m_impl_Bar_has
 refine Ws (Wr ?_)
 refine Os10 (LT.box (n := 21) (v := (.agg [(iC x.A), (iC x.B)])) rfl sz62 (by exact rfl)) rfl rfl rfl ?_
 refine asg (Bv false) rfl ⟨rfl, rfl⟩ rfl rfl ?_
 refine On (Ws ?_)
 refine AWR.joinK (fun j2 => ([(4, (Bv j2))], [])) ?_ (fun j2 _ => ?_)
 ·refine Wr ?_
  refine Op10 (LT.fieldPl rfl fo62_0) rfl rfl rfl ?_
  refine Op11 (LT.bload1 (c := (iC x.A)) rfl ag3 (by exact rfl)) rfl rfl rfl rfl ?_
  refine mv (Iv v) rfl rfl rfl rfl ?_
  refine Op20 (LT.eql rfl) rfl rfl rfl rfl ?_
  refine mv (Bv (x.A == v)) rfl rfl rfl rfl ?_
  refine AOR.split (fun hb3 => ?_) (fun hb3 => ?_)
  ·refine Ok rfl rfl rfl (by rw [hb3]; rfl) rfl ?_
   refine Ok rfl rfl rfl (by rw [hb3]; rfl) rfl ?_
   refine Ok rfl rfl rfl (by rw [hb3]; rfl) rfl ?_
   refine Ok rfl rfl rfl (by rw [hb3]; rfl) rfl ?_
   refine Op20 (LT.pickT (v := (Bv true)) rfl hb3) rfl ⟨rfl, rfl⟩ rfl rfl ?_
   refine asg (Bv true) rfl rfl rfl rfl ?_
   refine On ?_
   refine AWR.nil ⟨rfl, Ent.of ⟨rfl, trivial⟩ trivial⟩
  ·refine Op10 (LT.fieldPl rfl fo62_1) rfl ⟨_, rfl, .inl ⟨_, rfl, (by rw [hb3]; rfl)⟩⟩ rfl ?_
   refine Op11 (LT.bload1 (c := (iC x.B)) rfl ag3 (by exact rfl)) rfl rfl ⟨_, rfl, .inl ⟨_, rfl, (by rw [hb3]; rfl)⟩⟩ rfl ?_
   refine mv (Iv v) rfl rfl ⟨_, rfl, .inl ⟨_, rfl, (by rw [hb3]; rfl)⟩⟩ rfl ?_
   refine Op20 (LT.eql rfl) rfl rfl ⟨_, rfl, .inl ⟨_, rfl, (by rw [hb3]; rfl)⟩⟩ rfl ?_
   refine Op20 (LT.pickF (v := (Bv (x.B == v))) rfl hb3) rfl rfl rfl rfl ?_
   refine asg (Bv (x.B == v)) rfl rfl rfl rfl ?_
   refine On ?_
   refine AWR.nil ⟨rfl, Ent.of ⟨rfl, trivial⟩ trivial⟩
 ·refine AWR.ret (FPost.mk (.inr rfl) ⟨rfl, trivial⟩ trivial rfl ⟨PermP.sc, trivial⟩ trivial)
theorem w_impl_ForceAt (f : TFramework) (w : (List Int)) (v : Int) : ∀ t, m_impl_ForceAt f w v = some t → Fw.Fn Try.prog 27 [(.agg [(iC f.Graph.Points), (xF encTBar f.Graph.Bars), (xF encTPlace f.Places)]), (.c (xF encInt w)), (.c (iC v))] [] (resA [(.c (iC t.1)), (.c (iC t.2))]) [] [] [] := by
 refine Fw.Fn.of (P := Try.prog) (X := []) (pn := []) (rs := (fun (t : (Int × Int)) => [(.c (iC t.1)), (.c (iC t.2))])) (dfs := (fun (t : (Int × Int)) => [])) Try.func27 rfl Try.ntmps27 (Nat.le_of_ble_eq_true rfl) rfl ?_
 intro w0 U0 R0 g0
 unfold m_impl_ForceAt
 refine Ws (Wr ?_)
 refine Os10 (LT.box (n := 21) (v := (.agg [(iC f.Graph.Points), (xF encTBar f.Graph.Bars), (xF encTPlace f.Places)])) rfl sz29 (by exact rfl)) rfl rfl rfl ?_
 refine asg (Iv 0) rfl ⟨rfl, rfl⟩ rfl rfl ?_
 refine asg (Iv 0) rfl ⟨rfl, rfl⟩ rfl rfl ?_
 refine On (Ws (Wr ?_))
 refine asg (Iv 0) rfl ⟨rfl, rfl⟩ rfl rfl ?_
 refine asg (Iv 0) rfl ⟨rfl, rfl⟩ rfl rfl ?_
 refine On (Ws (Ws (Wr ?_)))
 refine Op11 (LT.bloadN (out := [(iC f.Graph.Points), (xF encTBar f.Graph.Bars), (xF encTPlace f.Places)]) rfl ag29 (infS inf29) sz29 (by exact rfl) (by exact rfl)) rfl rfl rfl rfl ?_
 refine mv (Cc (xF encInt w)) rfl rfl rfl rfl ?_
 refine Ob' fun r1 hr1 => ?_
 refine AOR.pure (@LT.callF Try.prog _ _ 111 _ _ [(.agg [(iC f.Graph.Points), (xF encTBar f.Graph.Bars), (xF encTPlace f.Places)]), (.c (xF encInt w))] _ _ [] _ _ _ _ (w_impl_areForces f w r1 hr1) rfl cb111 (.cons (.agg (.cons (.same rfl) (.cons (.same rfl) (.cons (.same rfl) .nil)))) (.cons (.c (.same rfl)) .nil)) rfl rfl trivial) ⟨rfl, rfl, rfl, trivial⟩ trivial rfl rfl ?_
 refine Op10 (LT.not rfl) rfl rfl rfl ?_
 refine On ?_
 refine AWR.cond rfl (fun hc2 => ?_) (fun hc2 => ?_)
 ·refine Ws ?_
  refine en [(8, (Iv 0)), (9, (Iv 0))] [] ⟨rfl, rfl, trivial⟩ trivial ?_
  refine Wr ?_
  refine mv (Iv 0) rfl rfl rfl rfl ?_
  refine mv (Iv 0) rfl rfl rfl rfl ?_
  refine asg (Iv 0) rfl rfl rfl rfl ?_
  refine asg (Iv 0) rfl rfl rfl rfl ?_
  refine On ?_
  refine AWR.ret (FPost.mk (.inr rfl) ⟨rfl, rfl, trivial⟩ trivial rfl ⟨PermP.sc, PermP.sc, trivial⟩ trivial)
 ·refine AWR.skip (Ws (Ws ?_))
  refine en [(1, (Cc (xF encInt w))), (2, (Iv v)), (3, (Cc (.pl 21 0))), (8, (Iv 0)), (9, (Iv 0))] [(21, (.row 29 [[(iC f.Graph.Points), (xF encTBar f.Graph.Bars), (xF encTPlace f.Places)]]))] ⟨rfl, rfl, rfl, rfl, rfl, trivial⟩ ⟨rfl, trivial⟩ ?_
  refine Wr ?_
  refine Op10 (LT.fieldPl rfl fo29_0) rfl rfl rfl ?_
  refine Op10 (LT.fieldPl rfl fo26_1) rfl rfl rfl ?_
  refine Op11 (LT.bload1 (c := (xF encTBar f.Graph.Bars)) rfl ag24 (by exact rfl)) rfl rfl rfl rfl ?_
  refine Op10 (LT.tlenRO rfl und24) rfl rfl rfl ?_
  refine mv (Iv 0) rfl ⟨rfl, rfl⟩ rfl rfl ?_
  refine On (AWR.block ?_)
  refine AWR.loop1 (id := 0) (m_impl_ForceAt_L1 f w v) (fun s3 => ([(1, (Cc (xF encInt w))), (2, (Iv v)), (3, (Cc (.pl 21 0))), (8, (Iv s3.1)), (9, (Iv s3.2.1)), (22, (Cc (xF encTBar f.Graph.Bars))), (23, (Iv (f.Graph.Bars.length : Int))), (24, (Iv s3.2.2))], [(21, (.row 29 [[(iC f.Graph.Points), (xF encTBar f.Graph.Bars), (xF encTPlace f.Places)]]))])) (fun b36 => ([(8, (Iv b36.1)), (9, (Iv b36.2))], [])) ?_ (Ent.of ⟨rfl, rfl, rfl, rfl, rfl, rfl, rfl, rfl, trivial⟩ ⟨rfl, trivial⟩) rfl (fun b36 _ => ?_)
  ·intro s3
   unfold m_impl_ForceAt_L1
   refine Ws (Wr ?_)
   refine Op20 (LT.lss rfl) rfl rfl rfl rfl ?_
   refine On (Ws ?_)
   refine AWR.cond rfl (fun hc37 => ?_) (fun hc37 => ?_)
   ·refine AWR.skip (Ws (AWR.block (Ws (Wr ?_))))
    refine mv (Iv s3.2.2) rfl rfl rfl rfl ?_
    refine Ob' fun x38 hx38 => ?_
    refine Op20 (LT.tindexRO (enc := encTBar) rfl el24 hx38 sz62) rfl rfl rfl rfl ?_
    refine Op10 (LT.loadPxN rfl ag62 (infS inf62) (by exact sz62.symm)) rfl rfl rfl ?_
    refine Os00 (LT.alloc (n := 23) (cells := [(iC 0), (iC 0)]) rfl ti62 rfl rfl rfl) rfl rfl ?_
    refine asg (Iv s3.2.2) rfl rfl rfl rfl ?_
    refine Os21 (LT.bstore (v := (.agg [(iC x38.A), (iC x38.B)])) (out := [(iC x38.A), (iC x38.B)]) rfl rfl (infS inf62) sz62 (by exact rfl) (by exact Nat.le_of_ble_eq_true rfl) (by exact rfl)) rfl rfl rfl rfl rfl ?_
    refine On (Ws ?_)
    refine en [(1, (Cc (xF encInt w))), (2, (Iv v)), (3, (Cc (.pl 21 0))), (8, (Iv s3.1)), (9, (Iv s3.2.1)), (10, (Iv s3.2.2)), (11, (Cc (.pl 23 0))), (22, (Cc (xF encTBar f.Graph.Bars))), (23, (Iv (f.Graph.Bars.length : Int))), (24, (Iv s3.2.2))] [(21, (.row 29 [[(iC f.Graph.Points), (xF encTBar f.Graph.Bars), (xF encTPlace f.Places)]])), (23, (.row 62 [[(iC x38.A), (iC x38.B)]]))] ⟨rfl, rfl, rfl, rfl, rfl, rfl, rfl, rfl, rfl, rfl, trivial⟩ ⟨rfl, rfl, trivial⟩ ?_
    refine Wr ?_
    refine Op11 (LT.bloadN (out := [(iC x38.A), (iC x38.B)]) rfl ag62 (infS inf62) sz62 (by exact rfl) (by exact rfl)) rfl rfl rfl rfl ?_
    refine mv (Iv v) rfl rfl rfl rfl ?_
    refine Ob' fun r39 hr39 => ?_
    refine AOR.pure (@LT.callF Try.prog _ _ 119 _ _ [(.agg [(iC x38.A), (iC x38.B)]), (.c (iC v))] _ _ [] _ _ _ _ (w_impl_Bar_has x38 v r39 hr39) rfl cb119 (.cons (.agg (.cons (.same rfl) (.cons (.same rfl) .nil))) (.cons (.c (.same rfl)) .nil)) rfl rfl trivial) ⟨rfl, rfl, rfl, trivial⟩ trivial rfl rfl ?_
    refine On ?_
    refine AWR.joinK (fun j46 => ([(1, (Cc (xF encInt w))), (2, (Iv v)), (3, (Cc (.pl 21 0))), (8, (Iv j46.1)), (9, (Iv j46.2)), (22, (Cc (xF encTBar f.Graph.Bars))), (23, (Iv (f.Graph.Bars.length : Int))), (24, (Iv s3.2.2))], [(21, (.row 29 [[(iC f.Graph.Points), (xF encTBar f.Graph.Bars), (xF encTPlace f.Places)]]))])) ?_ (fun j46 _ => ?_)
    ·refine AWR.cond rfl (fun hc47 => ?_) (fun hc47 => ?_)
     ·refine Ws (AWR.draw mixed ?_)
      refine Dp10 (LT.fieldPl rfl fo29_1) rfl rfl rfl ?_
      refine Dp11 (LT.bload1 (c := (xF encTPlace f.Places)) rfl ag27 (by exact rfl)) rfl rfl rfl rfl ?_
      refine Dp10 (LT.move (v := (Iv v)) rfl) rfl rfl rfl ?_
      refine AOD.bind fun x48 hx48 => ?_
      refine Dp20 (LT.tindexRO (enc := encTPlace) rfl el27 hx48 sz94) rfl rfl rfl rfl ?_
      refine Dp10 (LT.loadPxN rfl ag94 (infS inf94) (by exact sz94.symm)) rfl rfl rfl ?_
      refine Dp10 (LT.fieldPl rfl fo29_1) rfl rfl rfl ?_
      refine Dp11 (LT.bload1 (c := (xF encTPlace f.Places)) rfl ag27 (by exact rfl)) rfl rfl rfl rfl ?_
      refine Dp11 (LT.bloadN (out := [(iC x38.A), (iC x38.B)]) rfl ag62 (infS inf62) sz62 (by exact rfl) (by exact rfl)) rfl rfl rfl rfl ?_
      refine Dp10 (LT.move (v := (Iv v)) rfl) rfl rfl rfl ?_
      refine AOD.bind fun r49 hr49 => ?_
      refine AOD.pure (@LT.callF Try.prog _ _ 120 _ _ [(.agg [(iC x38.A), (iC x38.B)]), (.c (iC v))] _ _ [] _ _ _ _ (w_impl_Bar_other x38 v r49 hr49) rfl cb120 (.cons (.agg (.cons (.same rfl) (.cons (.same rfl) .nil))) (.cons (.c (.same rfl)) .nil)) rfl rfl trivial) ⟨rfl, rfl, rfl, trivial⟩ trivial rfl rfl ?_
      refine AOD.bind fun x50 hx50 => ?_
      refine Dp20 (LT.tindexRO (enc := encTPlace) rfl el27 hx50 sz94) rfl rfl rfl rfl ?_
      refine Dp10 (LT.loadPxN rfl ag94 (infS inf94) (by exact sz94.symm)) rfl rfl rfl ?_
      refine Ds00 (LT.alloc (n := 26) (cells := [(iC 0), (iC 0)]) rfl ti94 rfl rfl rfl) rfl rfl ?_
      refine Ds00 (LT.alloc (n := 27) (cells := [(iC 0), (iC 0)]) rfl ti94 rfl rfl rfl) rfl rfl ?_
      refine Ds21 (LT.bstore (v := (.agg [(iC x48.X), (iC x48.Y)])) (out := [(iC x48.X), (iC x48.Y)]) rfl rfl (infS inf94) sz94 (by exact rfl) (by exact Nat.le_of_ble_eq_true rfl) (by exact rfl)) rfl rfl rfl rfl rfl ?_
      refine Ds21 (LT.bstore (v := (.agg [(iC x50.X), (iC x50.Y)])) (out := [(iC x50.X), (iC x50.Y)]) rfl rfl (infS inf94) sz94 (by exact rfl) (by exact Nat.le_of_ble_eq_true rfl) (by exact rfl)) rfl rfl rfl rfl rfl ?_
      refine AOD.nil (by kernel_rfl) ?_
      refine Ws ?_
      refine en [(1, (Cc (xF encInt w))), (2, (Iv v)), (3, (Cc (.pl 21 0))), (8, (Iv s3.1)), (9, (Iv s3.2.1)), (10, (Iv s3.2.2)), (12, (Cc (.pl 26 0))), (13, (Cc (.pl 27 0))), (22, (Cc (xF encTBar f.Graph.Bars))), (23, (Iv (f.Graph.Bars.length : Int))), (24, (Iv s3.2.2))] [(21, (.row 29 [[(iC f.Graph.Points), (xF encTBar f.Graph.Bars), (xF encTPlace f.Places)]])), (26, (.row 94 [[(iC x48.X), (iC x48.Y)]])), (27, (.row 94 [[(iC x50.X), (iC x50.Y)]]))] ⟨rfl, rfl, rfl, rfl, rfl, rfl, rfl, rfl, rfl, rfl, rfl, trivial⟩ ⟨rfl, rfl, rfl, trivial⟩ ?_
      refine AWR.draw mixed ?_
      refine Dp10 (LT.move (v := (Iv s3.1)) rfl) rfl rfl rfl ?_
      refine Dp10 (LT.move (v := (Cc (xF encInt w))) rfl) rfl rfl rfl ?_
      refine Dp10 (LT.move (v := (Iv s3.2.2)) rfl) rfl rfl rfl ?_
      refine AOD.bind fun x51 hx51 => ?_
      refine Dp20 (LT.tindexRO (enc := encInt) rfl el37 hx51 sz3) rfl rfl rfl rfl ?_
      refine Dp10 (LT.loadPx1 rfl ag3) rfl rfl rfl ?_
      refine Dp10 (LT.fieldPl rfl fo94_0) rfl rfl rfl ?_
      refine Dp11 (LT.bload1 (c := (iC x48.X)) rfl ag3 (by exact rfl)) rfl rfl rfl rfl ?_
      refine Dp10 (LT.fieldPl rfl fo94_0) rfl rfl rfl ?_
      refine Dp11 (LT.bload1 (c := (iC x50.X)) rfl ag3 (by exact rfl)) rfl rfl rfl rfl ?_
      refine Dp20 (LT.sub rfl) rfl rfl rfl rfl ?_
      refine Dp20 (LT.mul rfl) rfl rfl rfl rfl ?_
      refine Dp20 (LT.add rfl) rfl rfl rfl rfl ?_
      refine Dp10 (LT.assign (v := (Iv (w64 (s3.1 + (w64 (x51 * (w64 (x48.X - x50.X)))))))) rfl) rfl rfl rfl ?_
      refine AOD.nil (by kernel_rfl) ?_
      refine en [(1, (Cc (xF encInt w))), (2, (Iv v)), (3, (Cc (.pl 21 0))), (8, (Iv (w64 (s3.1 + (w64 (x51 * (w64 (x48.X - x50.X)))))))), (9, (Iv s3.2.1)), (10, (Iv s3.2.2)), (12, (Cc (.pl 26 0))), (13, (Cc (.pl 27 0))), (22, (Cc (xF encTBar f.Graph.Bars))), (23, (Iv (f.Graph.Bars.length : Int))), (24, (Iv s3.2.2))] [(21, (.row 29 [[(iC f.Graph.Points), (xF encTBar f.Graph.Bars), (xF encTPlace f.Places)]])), (26, (.row 94 [[(iC x48.X), (iC x48.Y)]])), (27, (.row 94 [[(iC x50.X), (iC x50.Y)]]))] ⟨rfl, rfl, rfl, rfl, rfl, rfl, rfl, rfl, rfl, rfl, rfl, trivial⟩ ⟨rfl, rfl, rfl, trivial⟩ ?_
      refine AWR.draw mixed ?_
      refine Dp10 (LT.move (v := (Iv s3.2.1)) rfl) rfl rfl rfl ?_
      refine Dp10 (LT.move (v := (Cc (xF encInt w))) rfl) rfl rfl rfl ?_
      refine Dp10 (LT.move (v := (Iv s3.2.2)) rfl) rfl rfl rfl ?_
      refine AOD.bind fun x52 hx52 => ?_
      refine Dp20 (LT.tindexRO (enc := encInt) rfl el37 hx52 sz3) rfl rfl rfl rfl ?_
      refine Dp10 (LT.loadPx1 rfl ag3) rfl rfl rfl ?_
      refine Dp10 (LT.fieldPl rfl fo94_1) rfl rfl rfl ?_
      refine Dp11 (LT.bload1 (c := (iC x48.Y)) rfl ag3 (by exact rfl)) rfl rfl rfl rfl ?_
      refine Dp10 (LT.fieldPl rfl fo94_1) rfl rfl rfl ?_
      refine Dp11 (LT.bload1 (c := (iC x50.Y)) rfl ag3 (by exact rfl)) rfl rfl rfl rfl ?_
      refine Dp20 (LT.sub rfl) rfl rfl rfl rfl ?_
      refine Dp20 (LT.mul rfl) rfl rfl rfl rfl ?_
      refine Dp20 (LT.add rfl) rfl rfl rfl rfl ?_
      refine Dp10 (LT.assign (v := (Iv (w64 (s3.2.1 + (w64 (x52 * (w64 (x48.Y - x50.Y)))))))) rfl) rfl rfl rfl ?_
      refine AOD.nil (by kernel_rfl) ?_
      refine AWR.nil ⟨rfl, Ent.of ⟨rfl, rfl, rfl, rfl, rfl, rfl, rfl, rfl, trivial⟩ ⟨rfl, trivial⟩⟩
     ·refine AWR.skip ?_
      refine AWR.nil ⟨rfl, Ent.of ⟨rfl, rfl, rfl, rfl, rfl, rfl, rfl, rfl, trivial⟩ ⟨rfl, trivial⟩⟩
    ·refine AWR.blk (Wr ?_)
     refine Op20 (LT.add rfl) rfl ⟨rfl, rfl⟩ rfl rfl ?_
     refine mv (Iv (w64 (s3.2.2 + 1))) rfl rfl rfl rfl ?_
     refine On ?_
     refine AWR.nil ⟨rfl, Ent.of ⟨rfl, rfl, rfl, rfl, rfl, rfl, rfl, rfl, trivial⟩ ⟨rfl, trivial⟩⟩
   ·refine AWR.exit_end rfl ⟨rfl, Ent.of ⟨rfl, rfl, trivial⟩ trivial⟩
  ·refine Ws (Wr ?_)
   refine mv (Iv b36.1) rfl rfl rfl rfl ?_
   refine mv (Iv b36.2) rfl rfl rfl rfl ?_
   refine asg (Iv b36.1) rfl rfl rfl rfl ?_
   refine asg (Iv b36.2) rfl rfl rfl rfl ?_
   refine On ?_
   refine AWR.ret (FPost.mk (.inr rfl) ⟨rfl, rfl, trivial⟩ trivial rfl ⟨PermP.sc, PermP.sc, trivial⟩ trivial)
theorem w_impl_IsStress (f : TFramework) (w : (List Int)) : ∀ t, m_impl_IsStress f w = some t → Fw.Fn Try.prog 17 [(.agg [(iC f.Graph.Points), (xF encTBar f.Graph.Bars), (xF encTPlace f.Places)]), (.c (xF encInt w))] [] (.s (.c (bC t))) [] [] [] := by
 refine Fw.Fn.of (P := Try.prog) (X := []) (pn := []) (rs := (fun (t : Bool) => [(.c (bC t))])) (dfs := (fun (t : Bool) => [])) Try.func17 rfl Try.ntmps17 (Nat.le_of_ble_eq_true rfl) rfl ?_
 intro w0 U0 R0 g0
 unfold m_impl_IsStress
 refine Ws (Wr ?_)
 refine Os10 (LT.box (n := 21) (v := (.agg [(iC f.Graph.Points), (xF encTBar f.Graph.Bars), (xF encTPlace f.Places)])) rfl sz29 (by exact rfl)) rfl rfl rfl ?_
 refine asg (Bv false) rfl ⟨rfl, rfl⟩ rfl rfl ?_
 refine On (Ws (Ws (Wr ?_)))
 refine Op11 (LT.bloadN (out := [(iC f.Graph.Points), (xF encTBar f.Graph.Bars), (xF encTPlace f.Places)]) rfl ag29 (infS inf29) sz29 (by exact rfl) (by exact rfl)) rfl rfl rfl rfl ?_
 refine mv (Cc (xF encInt w)) rfl rfl rfl rfl ?_
 refine Ob' fun r1 hr1 => ?_
 refine AOR.pure (@LT.callF Try.prog _ _ 111 _ _ [(.agg [(iC f.Graph.Points), (xF encTBar f.Graph.Bars), (xF encTPlace f.Places)]), (.c (xF encInt w))] _ _ [] _ _ _ _ (w_impl_areForces f w r1 hr1) rfl cb111 (.cons (.agg (.cons (.same rfl) (.cons (.same rfl) (.cons (.same rfl) .nil)))) (.cons (.c (.same rfl)) .nil)) rfl rfl trivial) ⟨rfl, rfl, rfl, trivial⟩ trivial rfl rfl ?_
 refine Op10 (LT.not rfl) rfl rfl rfl ?_
 refine On ?_
 refine AWR.cond rfl (fun hc2 => ?_) (fun hc2 => ?_)
 ·refine Ws (Wr ?_)
  refine asg (Bv false) rfl ⟨rfl, rfl⟩ rfl rfl ?_
  refine On ?_
  refine AWR.ret (FPost.mk (.inr rfl) ⟨rfl, trivial⟩ trivial rfl ⟨PermP.sc, trivial⟩ trivial)
 ·refine AWR.skip (Ws (Ws (Wr ?_)))
  refine Op10 (LT.fieldPl rfl fo29_1) rfl rfl rfl ?_
  refine Op11 (LT.bload1 (c := (xF encTPlace f.Places)) rfl ag27 (by exact rfl)) rfl rfl rfl rfl ?_
  refine Op10 (LT.tlenRO rfl und27) rfl rfl rfl ?_
  refine mv (Iv 0) rfl ⟨rfl, rfl⟩ rfl rfl ?_
  refine On (AWR.block ?_)
  refine AWR.loopR (id := 0) (m_impl_IsStress_L1 f w) (fun s3 => ([(1, (Cc (xF encInt w))), (2, (Cc (.pl 21 0))), (14, (Iv (f.Places.length : Int))), (15, (Iv s3))], [(21, (.row 29 [[(iC f.Graph.Points), (xF encTBar f.Graph.Bars), (xF encTPlace f.Places)]]))])) (fun b16 => ([], [])) (FPost Try.prog Try.f17.results.toList [] [] (fun (t : Bool) => [(.c (bC t))]) (fun (t : Bool) => [])) ?_ (Ent.of ⟨rfl, rfl, rfl, rfl, trivial⟩ ⟨rfl, trivial⟩) rfl (fun b16 _ => ?_) (by intro r t σ m ht hk; injection ht with ht; subst ht; exact hk)
  ·intro s3
   unfold m_impl_IsStress_L1
   refine Ws (Wr ?_)
   refine Op20 (LT.lss rfl) rfl rfl rfl rfl ?_
   refine On (Ws ?_)
   refine AWR.cond rfl (fun hc17 => ?_) (fun hc17 => ?_)
   ·refine AWR.skip (Ws (AWR.block (Ws (Wr ?_))))
    refine mv (Iv s3) rfl rfl rfl rfl ?_
    refine asg (Iv s3) rfl rfl rfl rfl ?_
    refine On (Ws (Wr ?_))
    refine Op11 (LT.bloadN (out := [(iC f.Graph.Points), (xF encTBar f.Graph.Bars), (xF encTPlace f.Places)]) rfl ag29 (infS inf29) sz29 (by exact rfl) (by exact rfl)) rfl rfl rfl rfl ?_
    refine mv (Cc (xF encInt w)) rfl rfl rfl rfl ?_
    refine mv (Iv s3) rfl rfl rfl rfl ?_
    refine Ob' fun r18 hr18 => ?_
    refine AOR.pure (@LT.callF Try.prog _ _ 27 _ _ [(.agg [(iC f.Graph.Points), (xF encTBar f.Graph.Bars), (xF encTPlace f.Places)]), (.c (xF encInt w)), (.c (iC s3))] _ _ [] _ _ _ _ (w_impl_ForceAt f w s3 r18 hr18) rfl cb27 (.cons (.agg (.cons (.same rfl) (.cons (.same rfl) (.cons (.same rfl) .nil)))) (.cons (.c (.same rfl)) (.cons (.c (.same rfl)) .nil))) rfl rfl trivial) ⟨rfl, rfl, rfl, rfl, trivial⟩ trivial rfl rfl ?_
    refine mv (.tup [(.c (iC r18.1)), (.c (iC r18.2))]) rfl rfl rfl rfl ?_
    refine Op10 (LT.extract (v := (.c (iC r18.1))) rfl (by exact rfl)) rfl rfl rfl ?_
    refine Op10 (LT.extract (v := (.c (iC r18.2))) rfl (by exact rfl)) rfl rfl rfl ?_
    refine asg (Iv r18.1) rfl rfl rfl rfl ?_
    refine asg (Iv r18.2) rfl rfl rfl rfl ?_
    refine On (Ws ?_)
    refine AWR.joinK (fun j20 => ([(1, (Cc (xF encInt w))), (2, (Cc (.pl 21 0))), (14, (Iv (f.Places.length : Int))), (15, (Iv s3)), (30, (Bv j20))], [(21, (.row 29 [[(iC f.Graph.Points), (xF encTBar f.Graph.Bars), (xF encTPlace f.Places)]]))])) ?_ (fun j20 _ => ?_)
    ·refine en [(1, (Cc (xF encInt w))), (2, (Cc (.pl 21 0))), (6, (Iv r18.1)), (7, (Iv r18.2)), (14, (Iv (f.Places.length : Int))), (15, (Iv s3))] [(21, (.row 29 [[(iC f.Graph.Points), (xF encTBar f.Graph.Bars), (xF encTPlace f.Places)]]))] ⟨rfl, rfl, rfl, rfl, rfl, rfl, trivial⟩ ⟨rfl, trivial⟩ ?_
     refine Wr ?_
     refine mv (Iv r18.1) rfl rfl rfl rfl ?_
     refine Op20 (LT.neq rfl) rfl ⟨rfl, rfl⟩ rfl rfl ?_
     refine mv (Bv (r18.1 != 0)) rfl rfl rfl rfl ?_
     refine AOR.split (fun hb21 => ?_) (fun hb21 => ?_)
     ·refine Ok rfl rfl rfl (by rw [hb21]; rfl) rfl ?_
      refine Ok rfl rfl rfl (by rw [hb21]; rfl) rfl ?_
      refine Op20 (LT.pickT (v := (Bv true)) rfl hb21) rfl ⟨rfl, rfl⟩ rfl rfl ?_
      refine On ?_
      refine AWR.nil ⟨rfl, Ent.of ⟨rfl, rfl, rfl, rfl, rfl, trivial⟩ ⟨rfl, trivial⟩⟩
     ·refine mv (Iv r18.2) rfl rfl ⟨_, rfl, .inl ⟨_, rfl, (by rw [hb21]; rfl)⟩⟩ rfl ?_
      refine Op20 (LT.neq rfl) rfl ⟨rfl, rfl⟩ ⟨_, rfl, .inl ⟨_, rfl, (by rw [hb21]; rfl)⟩⟩ rfl ?_
      refine Op20 (LT.pickF (v := (Bv (r18.2 != 0))) rfl hb21) rfl rfl rfl rfl ?_
      refine On ?_
      refine AWR.nil ⟨rfl, Ent.of ⟨rfl, rfl, rfl, rfl, rfl, trivial⟩ ⟨rfl, trivial⟩⟩
    ·refine AWR.cond rfl (fun hc22 => ?_) (fun hc22 => ?_)
     ·refine Ws (Wr ?_)
      refine asg (Bv false) rfl ⟨rfl, rfl⟩ rfl rfl ?_
      refine On ?_
      refine AWR.ret ⟨rfl, FPost.mk (.inr rfl) ⟨rfl, trivial⟩ trivial rfl ⟨PermP.sc, trivial⟩ trivial⟩
     ·refine AWR.skip (AWR.blk (Wr ?_))
      refine Op20 (LT.add rfl) rfl ⟨rfl, rfl⟩ rfl rfl ?_
      refine mv (Iv (w64 (s3 + 1))) rfl rfl rfl rfl ?_
      refine On ?_
      refine AWR.nil ⟨rfl, Ent.of ⟨rfl, rfl, rfl, rfl, trivial⟩ ⟨rfl, trivial⟩⟩
   ·refine AWR.exit_end rfl ⟨rfl, Ent.of trivial trivial⟩
  ·refine Ws (Wr ?_)
   refine asg (Bv true) rfl ⟨rfl, rfl⟩ rfl rfl ?_
   refine On ?_
   refine AWR.ret (FPost.mk (.inr rfl) ⟨rfl, trivial⟩ trivial rfl ⟨PermP.sc, trivial⟩ trivial)
theorem w_spec_l13Vector (f : TFramework) (w : (List Int)) : ∀ t, m_spec_l13Vector f w = some t → Fw.Fn Try.prog 122 [(.agg [(iC f.Graph.Points), (xF encTBar f.Graph.Bars), (xF encTPlace f.Places)]), (.c (xF encInt w))] [] (.s (.c (bC t))) [] [] [] := by
 refine Fw.Fn.of (P := Try.prog) (X := []) (pn := []) (rs := (fun (t : Bool) => [(.c (bC t))])) (dfs := (fun (t : Bool) => [])) Try.func122 rfl Try.ntmps122 (Nat.le_of_ble_eq_true rfl) rfl ?_
 intro w0 U0 R0 g0
 unfold m_spec_l13Vector
 refine Ws (Wr ?_)
 refine Os10 (LT.box (n := 21) (v := (.agg [(iC f.Graph.Points), (xF encTBar f.Graph.Bars), (xF encTPlace f.Places)])) rfl sz29 (by exact rfl)) rfl rfl rfl ?_
 refine asg (Bv false) rfl ⟨rfl, rfl⟩ rfl rfl ?_
 refine On (Ws (Ws (Wr ?_)))
 refine asg (Iv 0) rfl ⟨rfl, rfl⟩ rfl rfl ?_
 refine On (AWR.block ?_)
 refine AWR.loopR (id := 0) (m_spec_l13Vector_L1 w) (fun s1 => ([(1, (Cc (xF encInt w))), (2, (Cc (.pl 21 0))), (5, (Iv s1))], [(21, (.row 29 [[(iC f.Graph.Points), (xF encTBar f.Graph.Bars), (xF encTPlace f.Places)]]))])) (fun b10 => ([(1, (Cc (xF encInt w))), (2, (Cc (.pl 21 0)))], [(21, (.row 29 [[(iC f.Graph.Points), (xF encTBar f.Graph.Bars), (xF encTPlace f.Places)]]))])) (FPost Try.prog Try.f122.results.toList [] [] (fun (t : Bool) => [(.c (bC t))]) (fun (t : Bool) => [])) ?_ (Ent.of ⟨rfl, rfl, rfl, trivial⟩ ⟨rfl, trivial⟩) rfl (fun b10 _ => ?_) (by intro r t σ m ht hk; injection ht with ht; subst ht; exact hk)
 ·intro s1
  unfold m_spec_l13Vector_L1
  refine Ws (Ws (Wr ?_))
  refine mv (Iv s1) rfl rfl rfl rfl ?_
  refine mv (Cc (xF encInt w)) rfl rfl rfl rfl ?_
  refine Op10 (LT.tlenRO rfl und37) rfl rfl rfl ?_
  refine Op20 (LT.lss rfl) rfl rfl rfl rfl ?_
  refine On ?_
  refine AWR.cond rfl (fun hc11 => ?_) (fun hc11 => ?_)
  ·refine AWR.skip (Ws (AWR.block (Ws (Wr ?_))))
   refine mv (Cc (xF encInt w)) rfl rfl rfl rfl ?_
   refine mv (Iv s1) rfl rfl rfl rfl ?_
   refine Ob' fun x12 hx12 => ?_
   refine Op20 (LT.tindexRO (enc := encInt) rfl el37 hx12 sz3) rfl rfl rfl rfl ?_
   refine Op10 (LT.loadPx1 rfl ag3) rfl rfl rfl ?_
   refine Ob' fun r13 hr13 => ?_
   refine AOR.pure (@LT.callF Try.prog _ _ 110 _ _ [(.c (iC x12)), (.c (iC (-10000000000))), (.c (iC 10000000000))] _ _ [] _ _ _ _ (w_spec_l1In x12 (-10000000000) 10000000000 r13 hr13) rfl cb110 (.cons (.c (.same rfl)) (.cons (.c (.same rfl)) (.cons (.c (.same rfl)) .nil))) rfl rfl trivial) ⟨rfl, rfl, ⟨rfl, rfl⟩, ⟨rfl, rfl⟩, trivial⟩ trivial rfl rfl ?_
   refine Op10 (LT.not rfl) rfl rfl rfl ?_
   refine On ?_
   refine AWR.cond rfl (fun hc14 => ?_) (fun hc14 => ?_)
   ·refine Ws (Wr ?_)
    refine asg (Bv false) rfl ⟨rfl, rfl⟩ rfl rfl ?_
    refine On ?_
    refine AWR.ret ⟨rfl, FPost.mk (.inr rfl) ⟨rfl, trivial⟩ trivial rfl ⟨PermP.sc, trivial⟩ trivial⟩
   ·refine AWR.skip (AWR.blk (Wr ?_))
    refine mv (Iv s1) rfl rfl rfl rfl ?_
    refine Op20 (LT.add rfl) rfl ⟨rfl, rfl⟩ rfl rfl ?_
    refine asg (Iv (w64 (s1 + 1))) rfl rfl rfl rfl ?_
    refine On ?_
    refine AWR.nil ⟨rfl, Ent.of ⟨rfl, rfl, rfl, trivial⟩ ⟨rfl, trivial⟩⟩
  ·refine AWR.exit_end rfl ⟨rfl, Ent.of ⟨rfl, rfl, trivial⟩ ⟨rfl, trivial⟩⟩
 ·refine Ws ?_
  refine AWR.joinK (fun j17 => ([(4, (Bv j17))], [])) ?_ (fun j17 _ => ?_)
  ·refine Wr ?_
   refine Op11 (LT.bloadN (out := [(iC f.Graph.Points), (xF encTBar f.Graph.Bars), (xF encTPlace f.Places)]) rfl ag29 (infS inf29) sz29 (by exact rfl) (by exact rfl)) rfl rfl rfl rfl ?_
   refine Ob' fun r18 hr18 => ?_
   refine AOR.pure (@LT.callF Try.prog _ _ 15 _ _ [(.agg [(iC f.Graph.Points), (xF encTBar f.Graph.Bars), (xF encTPlace f.Places)])] _ _ [] _ _ _ _ (w_spec_IsFramework f r18 hr18) rfl cb15 (.cons (.agg (.cons (.same rfl) (.cons (.same rfl) (.cons (.same rfl) .nil)))) .nil) rfl rfl trivial) ⟨rfl, rfl, trivial⟩ trivial rfl rfl ?_
   refine mv (Bv r18) rfl rfl rfl rfl ?_
   refine AOR.split (fun hb19 => ?_) (fun hb19 => ?_)
   ·refine mv (Cc (xF encInt w)) rfl rfl ⟨_, rfl, .inl ⟨_, rfl, (by rw [hb19]; rfl)⟩⟩ rfl ?_
    refine Op10 (LT.tlenRO rfl und37) rfl ⟨_, rfl, .inl ⟨_, rfl, (by rw [hb19]; rfl)⟩⟩ rfl ?_
    refine Op10 (LT.fieldPl rfl fo29_0) rfl ⟨_, rfl, .inl ⟨_, rfl, (by rw [hb19]; rfl)⟩⟩ rfl ?_
    refine Op10 (LT.fieldPl rfl fo26_1) rfl ⟨_, rfl, .inl ⟨_, rfl, (by rw [hb19]; rfl)⟩⟩ rfl ?_
    refine Op11 (LT.bload1 (c := (xF encTBar f.Graph.Bars)) rfl ag24 (by exact rfl)) rfl rfl ⟨_, rfl, .inl ⟨_, rfl, (by rw [hb19]; rfl)⟩⟩ rfl ?_
    refine Op10 (LT.tlenRO rfl und24) rfl ⟨_, rfl, .inl ⟨_, rfl, (by rw [hb19]; rfl)⟩⟩ rfl ?_
    refine Op20 (LT.eql rfl) rfl rfl ⟨_, rfl, .inl ⟨_, rfl, (by rw [hb19]; rfl)⟩⟩ rfl ?_
    refine Op20 (LT.pickT (v := (Bv ((w.length : Int) == (f.Graph.Bars.length : Int)))) rfl hb19) rfl rfl rfl rfl ?_
    refine asg (Bv ((w.length : Int) == (f.Graph.Bars.length : Int))) rfl rfl rfl rfl ?_
    refine On ?_
    refine AWR.nil ⟨rfl, Ent.of ⟨rfl, trivial⟩ trivial⟩
   ·refine Ok rfl rfl rfl (by rw [hb19]; rfl) rfl ?_
    refine Ok rfl rfl rfl (by rw [hb19]; rfl) rfl ?_
    refine Ok rfl rfl rfl (by rw [hb19]; rfl) rfl ?_
    refine Ok rfl rfl rfl (by rw [hb19]; rfl) rfl ?_
    refine Ok rfl rfl rfl (by rw [hb19]; rfl) rfl ?_
    refine Ok rfl rfl rfl (by rw [hb19]; rfl) rfl ?_
    refine Ok rfl rfl rfl (by rw [hb19]; rfl) rfl ?_
    refine Op20 (LT.pickF (v := (Bv false)) rfl hb19) rfl ⟨rfl, rfl⟩ rfl rfl ?_
    refine asg (Bv false) rfl rfl rfl rfl ?_
    refine On ?_
    refine AWR.nil ⟨rfl, Ent.of ⟨rfl, trivial⟩ trivial⟩
  ·refine AWR.ret (FPost.mk (.inr rfl) ⟨rfl, trivial⟩ trivial rfl ⟨PermP.sc, trivial⟩ trivial)
theorem w_spec_ForceAt (f : TFramework) (w : (List Int)) (v : Int) : ∀ t, m_spec_ForceAt f w v = some t → Fw.Fn Try.prog 30 [(.agg [(iC f.Graph.Points), (xF encTBar f.Graph.Bars), (xF encTPlace f.Places)]), (.c (xF encInt w)), (.c (iC v))] [] (resA [(.c (iC t.1)), (.c (iC t.2))]) [] [] [] := by
 refine Fw.Fn.of (P := Try.prog) (X := []) (pn := []) (rs := (fun (t : (Int × Int)) => [(.c (iC t.1)), (.c (iC t.2))])) (dfs := (fun (t : (Int × Int)) => [])) Try.func30 rfl Try.ntmps30 (Nat.le_of_ble_eq_true rfl) rfl ?_
 intro w0 U0 R0 g0
 unfold m_spec_ForceAt
 refine Ws (Wr ?_)
 refine Os10 (LT.box (n := 21) (v := (.agg [(iC f.Graph.Points), (xF encTBar f.Graph.Bars), (xF encTPlace f.Places)])) rfl sz29 (by exact rfl)) rfl rfl rfl ?_
 refine asg (Iv 0) rfl ⟨rfl, rfl⟩ rfl rfl ?_
 refine asg (Iv 0) rfl ⟨rfl, rfl⟩ rfl rfl ?_
 refine On (Ws (Wr ?_))
 refine asg (Iv 0) rfl ⟨rfl, rfl⟩ rfl rfl ?_
 refine On (Ws (Wr ?_))
 refine asg (Iv 0) rfl ⟨rfl, rfl⟩ rfl rfl ?_
 refine On (Ws (Ws (Wr ?_)))
 refine asg (Iv 0) rfl ⟨rfl, rfl⟩ rfl rfl ?_
 refine On (AWR.block ?_)
 refine AWR.loop1 (id := 0) (m_spec_ForceAt_L1 f w v) (fun s1 => ([(1, (Cc (xF encInt w))), (2, (Iv v)), (3, (Cc (.pl 21 0))), (8, (Iv s1.1)), (9, (Iv s1.2.1)), (10, (Iv s1.2.2))], [(21, (.row 29 [[(iC f.Graph.Points), (xF encTBar f.Graph.Bars), (xF encTPlace f.Places)]]))])) (fun b56 => ([(8, (Iv b56.1)), (9, (Iv b56.2))], [])) ?_ (Ent.of ⟨rfl, rfl, rfl, rfl, rfl, rfl, trivial⟩ ⟨rfl, trivial⟩) rfl (fun b56 _ => ?_)
 ·intro s1
  unfold m_spec_ForceAt_L1
  refine Ws (Ws ?_)
  refine AWR.joinK (fun j59 => ([(1, (Cc (xF encInt w))), (2, (Iv v)), (3, (Cc (.pl 21 0))), (8, (Iv s1.1)), (9, (Iv s1.2.1)), (10, (Iv s1.2.2)), (21, (Bv j59))], [(21, (.row 29 [[(iC f.Graph.Points), (xF encTBar f.Graph.Bars), (xF encTPlace f.Places)]]))])) ?_ (fun j59 _ => ?_)
  ·refine Wr ?_
   refine mv (Iv s1.2.2) rfl rfl rfl rfl ?_
   refine mv (Cc (xF encInt w)) rfl rfl rfl rfl ?_
   refine Op10 (LT.tlenRO rfl und37) rfl rfl rfl ?_
   refine Op20 (LT.lss rfl) rfl rfl rfl rfl ?_
   refine mv (Bv (decide (s1.2.2 < (w.length : Int)))) rfl rfl rfl rfl ?_
   refine AOR.split (fun hb60 => ?_) (fun hb60 => ?_)
   ·refine Op11 (LT.bloadN (out := [(iC f.Graph.Points), (xF encTBar f.Graph.Bars), (xF encTPlace f.Places)]) rfl ag29 (infS inf29) sz29 (by exact rfl) (by exact rfl)) rfl rfl ⟨_, rfl, .inl ⟨_, rfl, (by rw [hb60]; rfl)⟩⟩ rfl ?_
    refine mv (Cc (xF encInt w)) rfl rfl ⟨_, rfl, .inl ⟨_, rfl, (by rw [hb60]; rfl)⟩⟩ rfl ?_
    refine Ob' fun r61 hr61 => ?_
    refine AOR.pure (@LT.callF Try.prog _ _ 122 _ _ [(.agg [(iC f.Graph.Points), (xF encTBar f.Graph.Bars), (xF encTPlace f.Places)]), (.c (xF encInt w))] _ _ [] _ _ _ _ (w_spec_l13Vector f w r61 hr61) rfl cb122 (.cons (.agg (.cons (.same rfl) (.cons (.same rfl) (.cons (.same rfl) .nil)))) (.cons (.c (.same rfl)) .nil)) rfl rfl trivial) ⟨rfl, rfl, rfl, trivial⟩ trivial ⟨_, rfl, .inl ⟨_, rfl, (by rw [hb60]; rfl)⟩⟩ rfl ?_
    refine Op20 (LT.pickT (v := (Bv r61)) rfl hb60) rfl rfl rfl rfl ?_
    refine On ?_
    refine AWR.nil ⟨rfl, Ent.of ⟨rfl, rfl, rfl, rfl, rfl, rfl, rfl, trivial⟩ ⟨rfl, trivial⟩⟩
   ·refine Ok rfl rfl rfl (by rw [hb60]; rfl) rfl ?_
    refine Ok rfl rfl rfl (by rw [hb60]; rfl) rfl ?_
    refine Ok rfl rfl rfl (by rw [hb60]; rfl) rfl ?_
    refine Op20 (LT.pickF (v := (Bv false)) rfl hb60) rfl ⟨rfl, rfl⟩ rfl rfl ?_
    refine On ?_
    refine AWR.nil ⟨rfl, Ent.of ⟨rfl, rfl, rfl, rfl, rfl, rfl, rfl, trivial⟩ ⟨rfl, trivial⟩⟩
  ·refine AWR.cond rfl (fun hc62 => ?_) (fun hc62 => ?_)
   ·refine AWR.skip (Ws (AWR.block (Ws (Wr ?_))))
    refine Op10 (LT.fieldPl rfl fo29_0) rfl rfl rfl ?_
    refine Op10 (LT.fieldPl rfl fo26_1) rfl rfl rfl ?_
    refine Op11 (LT.bload1 (c := (xF encTBar f.Graph.Bars)) rfl ag24 (by exact rfl)) rfl rfl rfl rfl ?_
    refine mv (Iv s1.2.2) rfl rfl rfl rfl ?_
    refine Ob' fun x63 hx63 => ?_
    refine Op20 (LT.tindexRO (enc := encTBar) rfl el24 hx63 sz62) rfl rfl rfl rfl ?_
    refine Op10 (LT.loadPxN rfl ag62 (infS inf62) (by exact sz62.symm)) rfl rfl rfl ?_
    refine Os00 (LT.alloc (n := 23) (cells := [(iC 0), (iC 0)]) rfl ti62 rfl rfl rfl) rfl rfl ?_
    refine Os21 (LT.bstore (v := (.agg [(iC x63.A), (iC x63.B)])) (out := [(iC x63.A), (iC x63.B)]) rfl rfl (infS inf62) sz62 (by exact rfl) (by exact Nat.le_of_ble_eq_true rfl) (by exact rfl)) rfl rfl rfl rfl rfl ?_
    refine On (Ws ?_)
    refine AWR.joinK (fun j65 => ([(1, (Cc (xF encInt w))), (2, (Iv v)), (3, (Cc (.pl 21 0))), (8, (Iv s1.1)), (9, (Iv s1.2.1)), (10, (Iv s1.2.2)), (11, (Cc (.pl 23 0))), (39, (Bv j65))], [(21, (.row 29 [[(iC f.Graph.Points), (xF encTBar f.Graph.Bars), (xF encTPlace f.Places)]])), (23, (.row 62 [[(iC x63.A), (iC x63.B)]]))])) ?_ (fun j65 _ => ?_)
    ·refine en [(1, (Cc (xF encInt w))), (2, (Iv v)), (3, (Cc (.pl 21 0))), (8, (Iv s1.1)), (9, (Iv s1.2.1)), (10, (Iv s1.2.2)), (11, (Cc (.pl 23 0)))] [(21, (.row 29 [[(iC f.Graph.Points), (xF encTBar f.Graph.Bars), (xF encTPlace f.Places)]])), (23, (.row 62 [[(iC x63.A), (iC x63.B)]]))] ⟨rfl, rfl, rfl, rfl, rfl, rfl, rfl, trivial⟩ ⟨rfl, rfl, trivial⟩ ?_
     refine Wr ?_
     refine Op10 (LT.fieldPl rfl fo62_0) rfl rfl rfl ?_
     refine Op11 (LT.bload1 (c := (iC x63.A)) rfl ag3 (by exact rfl)) rfl rfl rfl rfl ?_
     refine mv (Iv v) rfl rfl rfl rfl ?_
     refine Op20 (LT.eql rfl) rfl rfl rfl rfl ?_
     refine mv (Bv (x63.A == v)) rfl rfl rfl rfl ?_
     refine AOR.split (fun hb66 => ?_) (fun hb66 => ?_)
     ·refine Ok rfl rfl rfl (by rw [hb66]; rfl) rfl ?_
      refine Ok rfl rfl rfl (by rw [hb66]; rfl) rfl ?_
      refine Ok rfl rfl rfl (by rw [hb66]; rfl) rfl ?_
      refine Ok rfl rfl rfl (by rw [hb66]; rfl) rfl ?_
      refine Op20 (LT.pickT (v := (Bv true)) rfl hb66) rfl ⟨rfl, rfl⟩ rfl rfl ?_
      refine On ?_
      refine AWR.nil ⟨rfl, Ent.of ⟨rfl, rfl, rfl, rfl, rfl, rfl, rfl, rfl, trivial⟩ ⟨rfl, rfl, trivial⟩⟩
     ·refine Op10 (LT.fieldPl rfl fo62_1) rfl ⟨_, rfl, .inl ⟨_, rfl, (by rw [hb66]; rfl)⟩⟩ rfl ?_
      refine Op11 (LT.bload1 (c := (iC x63.B)) rfl ag3 (by exact rfl)) rfl rfl ⟨_, rfl, .inl ⟨_, rfl, (by rw [hb66]; rfl)⟩⟩ rfl ?_
      refine mv (Iv v) rfl rfl ⟨_, rfl, .inl ⟨_, rfl, (by rw [hb66]; rfl)⟩⟩ rfl ?_
      refine Op20 (LT.eql rfl) rfl rfl ⟨_, rfl, .inl ⟨_, rfl, (by rw [hb66]; rfl)⟩⟩ rfl ?_
      refine Op20 (LT.pickF (v := (Bv (x63.B == v))) rfl hb66) rfl rfl rfl rfl ?_
      refine On ?_
      refine AWR.nil ⟨rfl, Ent.of ⟨rfl, rfl, rfl, rfl, rfl, rfl, rfl, rfl, trivial⟩ ⟨rfl, rfl, trivial⟩⟩
    ·refine AWR.joinK (fun j75 => ([(1, (Cc (xF encInt w))), (2, (Iv v)), (3, (Cc (.pl 21 0))), (8, (Iv j75.1)), (9, (Iv j75.2)), (10, (Iv s1.2.2))], [(21, (.row 29 [[(iC f.Graph.Points), (xF encTBar f.Graph.Bars), (xF encTPlace f.Places)]]))])) ?_ (fun j75 _ => ?_)
     ·refine AWR.cond rfl (fun hc76 => ?_) (fun hc76 => ?_)
      ·refine Ws (Wr ?_)
       refine Op11 (LT.bloadN (out := [(iC x63.A), (iC x63.B)]) rfl ag62 (infS inf62) sz62 (by exact rfl) (by exact rfl)) rfl rfl rfl rfl ?_
       refine mv (Iv v) rfl rfl rfl rfl ?_
       refine Ob' fun r77 hr77 => ?_
       refine AOR.pure (@LT.callF Try.prog _ _ 123 _ _ [(.agg [(iC x63.A), (iC x63.B)]), (.c (iC v))] _ _ [] _ _ _ _ (w_spec_l4Other x63 v r77 hr77) rfl cb123 (.cons (.agg (.cons (.same rfl) (.cons (.same rfl) .nil))) (.cons (.c (.same rfl)) .nil)) rfl rfl trivial) ⟨rfl, rfl, rfl, trivial⟩ trivial rfl rfl ?_
       refine asg (Iv r77) rfl rfl rfl rfl ?_
       refine On (Ws (AWR.draw mixed ?_))
       refine Dp10 (LT.move (v := (Iv s1.1)) rfl) rfl rfl rfl ?_
       refine Dp10 (LT.move (v := (Cc (xF encInt w))) rfl) rfl rfl rfl ?_
       refine Dp10 (LT.move (v := (Iv s1.2.2)) rfl) rfl rfl rfl ?_
       refine AOD.bind fun x78 hx78 => ?_
       refine Dp20 (LT.tindexRO (enc := encInt) rfl el37 hx78 sz3) rfl rfl rfl rfl ?_
       refine Dp10 (LT.loadPx1 rfl ag3) rfl rfl rfl ?_
       refine Dp10 (LT.fieldPl rfl fo29_1) rfl rfl rfl ?_
       refine Dp11 (LT.bload1 (c := (xF encTPlace f.Places)) rfl ag27 (by exact rfl)) rfl rfl rfl rfl ?_
       refine Dp10 (LT.move (v := (Iv v)) rfl) rfl rfl rfl ?_
       refine AOD.bind fun x79 hx79 => ?_
       refine Dp20 (LT.tindexRO (enc := encTPlace) rfl el27 hx79 sz94) rfl rfl rfl rfl ?_
       refine Dp10 (LT.fieldPx rfl fo94_0) rfl rfl rfl ?_
       refine Dp10 (LT.loadPx1 rfl ag3) rfl rfl rfl ?_
       refine Dp10 (LT.fieldPl rfl fo29_1) rfl rfl rfl ?_
       refine Dp11 (LT.bload1 (c := (xF encTPlace f.Places)) rfl ag27 (by exact rfl)) rfl rfl rfl rfl ?_
       refine Dp10 (LT.move (v := (Iv r77)) rfl) rfl rfl rfl ?_
       refine AOD.bind fun x80 hx80 => ?_
       refine Dp20 (LT.tindexRO (enc := encTPlace) rfl el27 hx80 sz94) rfl rfl rfl rfl ?_
       refine Dp10 (LT.fieldPx rfl fo94_0) rfl rfl rfl ?_
       refine Dp10 (LT.loadPx1 rfl ag3) rfl rfl rfl ?_
       refine Dp20 (LT.sub rfl) rfl rfl rfl rfl ?_
       refine Dp20 (LT.mul rfl) rfl rfl rfl rfl ?_
       refine Dp20 (LT.add rfl) rfl rfl rfl rfl ?_
       refine Dp10 (LT.assign (v := (Iv (w64 (s1.1 + (w64 (x78 * (w64 (x79.X - x80.X)))))))) rfl) rfl rfl rfl ?_
       refine AOD.nil (by kernel_rfl) ?_
       refine en [(1, (Cc (xF encInt w))), (2, (Iv v)), (3, (Cc (.pl 21 0))), (8, (Iv (w64 (s1.1 + (w64 (x78 * (w64 (x79.X - x80.X)))))))), (9, (Iv s1.2.1)), (10, (Iv s1.2.2)), (12, (Iv r77))] [(21, (.row 29 [[(iC f.Graph.Points), (xF encTBar f.Graph.Bars), (xF encTPlace f.Places)]]))] ⟨rfl, rfl, rfl, rfl, rfl, rfl, rfl, trivial⟩ ⟨rfl, trivial⟩ ?_
       refine AWR.draw mixed ?_
       refine Dp10 (LT.move (v := (Iv s1.2.1)) rfl) rfl rfl rfl ?_
       refine Dp10 (LT.move (v := (Cc (xF encInt w))) rfl) rfl rfl rfl ?_
       refine Dp10 (LT.move (v := (Iv s1.2.2)) rfl) rfl rfl rfl ?_
       refine AOD.bind fun x81 hx81 => ?_
       refine Dp20 (LT.tindexRO (enc := encInt) rfl el37 hx81 sz3) rfl rfl rfl rfl ?_
       refine Dp10 (LT.loadPx1 rfl ag3) rfl rfl rfl ?_
       refine Dp10 (LT.fieldPl rfl fo29_1) rfl rfl rfl ?_
       refine Dp11 (LT.bload1 (c := (xF encTPlace f.Places)) rfl ag27 (by exact rfl)) rfl rfl rfl rfl ?_
       refine Dp10 (LT.move (v := (Iv v)) rfl) rfl rfl rfl ?_
       refine AOD.bind fun x82 hx82 => ?_
       refine Dp20 (LT.tindexRO (enc := encTPlace) rfl el27 hx82 sz94) rfl rfl rfl rfl ?_
       refine Dp10 (LT.fieldPx rfl fo94_1) rfl rfl rfl ?_
       refine Dp10 (LT.loadPx1 rfl ag3) rfl rfl rfl ?_
       refine Dp10 (LT.fieldPl rfl fo29_1) rfl rfl rfl ?_
       refine Dp11 (LT.bload1 (c := (xF encTPlace f.Places)) rfl ag27 (by exact rfl)) rfl rfl rfl rfl ?_
       refine Dp10 (LT.move (v := (Iv r77)) rfl) rfl rfl rfl ?_
       refine AOD.bind fun x83 hx83 => ?_
       refine Dp20 (LT.tindexRO (enc := encTPlace) rfl el27 hx83 sz94) rfl rfl rfl rfl ?_
       refine Dp10 (LT.fieldPx rfl fo94_1) rfl rfl rfl ?_
       refine Dp10 (LT.loadPx1 rfl ag3) rfl rfl rfl ?_
       refine Dp20 (LT.sub rfl) rfl rfl rfl rfl ?_
       refine Dp20 (LT.mul rfl) rfl rfl rfl rfl ?_
       refine Dp20 (LT.add rfl) rfl rfl rfl rfl ?_
       refine Dp10 (LT.assign (v := (Iv (w64 (s1.2.1 + (w64 (x81 * (w64 (x82.Y - x83.Y)))))))) rfl) rfl rfl rfl ?_
       refine AOD.nil (by kernel_rfl) ?_
       refine AWR.nil ⟨rfl, Ent.of ⟨rfl, rfl, rfl, rfl, rfl, rfl, trivial⟩ ⟨rfl, trivial⟩⟩
      ·refine AWR.skip ?_
       refine AWR.nil ⟨rfl, Ent.of ⟨rfl, rfl, rfl, rfl, rfl, rfl, trivial⟩ ⟨rfl, trivial⟩⟩
     ·refine AWR.blk (Wr ?_)
      refine mv (Iv s1.2.2) rfl rfl rfl rfl ?_
      refine Op20 (LT.add rfl) rfl ⟨rfl, rfl⟩ rfl rfl ?_
      refine asg (Iv (w64 (s1.2.2 + 1))) rfl rfl rfl rfl ?_
      refine On ?_
      refine AWR.nil ⟨rfl, Ent.of ⟨rfl, rfl, rfl, rfl, rfl, rfl, trivial⟩ ⟨rfl, trivial⟩⟩
   ·refine AWR.exit_end rfl ⟨rfl, Ent.of ⟨rfl, rfl, trivial⟩ trivial⟩
 ·refine Ws (Wr ?_)
  refine mv (Iv b56.1) rfl rfl rfl rfl ?_
  refine mv (Iv b56.2) rfl rfl rfl rfl ?_
  refine asg (Iv b56.1) rfl rfl rfl rfl ?_
  refine asg (Iv b56.2) rfl rfl rfl rfl ?_
  refine On ?_
  refine AWR.ret (FPost.mk (.inr rfl) ⟨rfl, rfl, trivial⟩ trivial rfl ⟨PermP.sc, PermP.sc, trivial⟩ trivial)
theorem w_spec_IsStress (f : TFramework) (w : (List Int)) : ∀ t, m_spec_IsStress f w = some t → Fw.Fn Try.prog 31 [(.agg [(iC f.Graph.Points), (xF encTBar f.Graph.Bars), (xF encTPlace f.Places)]), (.c (xF encInt w))] [] (.s (.c (bC t))) [] [] [] := by
 refine Fw.Fn.of (P := Try.prog) (X := []) (pn := []) (rs := (fun (t : Bool) => [(.c (bC t))])) (dfs := (fun (t : Bool) => [])) Try.func31 rfl Try.ntmps31 (Nat.le_of_ble_eq_true rfl) rfl ?_
 intro w0 U0 R0 g0
 unfold m_spec_IsStress
 refine Ws (Wr ?_)
 refine Os10 (LT.box (n := 21) (v := (.agg [(iC f.Graph.Points), (xF encTBar f.Graph.Bars), (xF encTPlace f.Places)])) rfl sz29 (by exact rfl)) rfl rfl rfl ?_
 refine asg (Bv false) rfl ⟨rfl, rfl⟩ rfl rfl ?_
 refine On (Ws (Ws (Wr ?_)))
 refine asg (Iv 0) rfl ⟨rfl, rfl⟩ rfl rfl ?_
 refine On (AWR.block ?_)
 refine AWR.loopR (id := 0) (m_spec_IsStress_L1 f w) (fun s1 => ([(1, (Cc (xF encInt w))), (2, (Cc (.pl 21 0))), (5, (Iv s1))], [(21, (.row 29 [[(iC f.Graph.Points), (xF encTBar f.Graph.Bars), (xF encTPlace f.Places)]]))])) (fun b24 => ([(1, (Cc (xF encInt w))), (2, (Cc (.pl 21 0)))], [(21, (.row 29 [[(iC f.Graph.Points), (xF encTBar f.Graph.Bars), (xF encTPlace f.Places)]]))])) (FPost Try.prog Try.f31.results.toList [] [] (fun (t : Bool) => [(.c (bC t))]) (fun (t : Bool) => [])) ?_ (Ent.of ⟨rfl, rfl, rfl, trivial⟩ ⟨rfl, trivial⟩) rfl (fun b24 _ => ?_) (by intro r t σ m ht hk; injection ht with ht; subst ht; exact hk)
 ·intro s1
  unfold m_spec_IsStress_L1
  refine Ws (Ws ?_)
  refine AWR.joinK (fun j27 => ([(1, (Cc (xF encInt w))), (2, (Cc (.pl 21 0))), (5, (Iv s1)), (17, (Bv j27))], [(21, (.row 29 [[(iC f.Graph.Points), (xF encTBar f.Graph.Bars), (xF encTPlace f.Places)]]))])) ?_ (fun j27 _ => ?_)
  ·refine Wr ?_
   refine mv (Iv s1) rfl rfl rfl rfl ?_
   refine Op10 (LT.fieldPl rfl fo29_0) rfl rfl rfl ?_
   refine Op10 (LT.fieldPl rfl fo26_0) rfl rfl rfl ?_
   refine Op11 (LT.bload1 (c := (iC f.Graph.Points)) rfl ag3 (by exact rfl)) rfl rfl rfl rfl ?_
   refine Op20 (LT.lss rfl) rfl rfl rfl rfl ?_
   refine mv (Bv (decide (s1 < f.Graph.Points))) rfl rfl rfl rfl ?_
   refine AOR.split (fun hb28 => ?_) (fun hb28 => ?_)
   ·refine Op11 (LT.bloadN (out := [(iC f.Graph.Points), (xF encTBar f.Graph.Bars), (xF encTPlace f.Places)]) rfl ag29 (infS inf29) sz29 (by exact rfl) (by exact rfl)) rfl rfl ⟨_, rfl, .inl ⟨_, rfl, (by rw [hb28]; rfl)⟩⟩ rfl ?_
    refine mv (Cc (xF encInt w)) rfl rfl ⟨_, rfl, .inl ⟨_, rfl, (by rw [hb28]; rfl)⟩⟩ rfl ?_
    refine Ob' fun r29 hr29 => ?_
    refine AOR.pure (@LT.callF Try.prog _ _ 122 _ _ [(.agg [(iC f.Graph.Points), (xF encTBar f.Graph.Bars), (xF encTPlace f.Places)]), (.c (xF encInt w))] _ _ [] _ _ _ _ (w_spec_l13Vector f w r29 hr29) rfl cb122 (.cons (.agg (.cons (.same rfl) (.cons (.same rfl) (.cons (.same rfl) .nil)))) (.cons (.c (.same rfl)) .nil)) rfl rfl trivial) ⟨rfl, rfl, rfl, trivial⟩ trivial ⟨_, rfl, .inl ⟨_, rfl, (by rw [hb28]; rfl)⟩⟩ rfl ?_
    refine Op20 (LT.pickT (v := (Bv r29)) rfl hb28) rfl rfl rfl rfl ?_
    refine On ?_
    refine AWR.nil ⟨rfl, Ent.of ⟨rfl, rfl, rfl, rfl, trivial⟩ ⟨rfl, trivial⟩⟩
   ·refine Ok rfl rfl rfl (by rw [hb28]; rfl) rfl ?_
    refine Ok rfl rfl rfl (by rw [hb28]; rfl) rfl ?_
    refine Ok rfl rfl rfl (by rw [hb28]; rfl) rfl ?_
    refine Op20 (LT.pickF (v := (Bv false)) rfl hb28) rfl ⟨rfl, rfl⟩ rfl rfl ?_
    refine On ?_
    refine AWR.nil ⟨rfl, Ent.of ⟨rfl, rfl, rfl, rfl, trivial⟩ ⟨rfl, trivial⟩⟩
  ·refine AWR.cond rfl (fun hc30 => ?_) (fun hc30 => ?_)
   ·refine AWR.skip (Ws (AWR.block (Ws (Wr ?_))))
    refine Op11 (LT.bloadN (out := [(iC f.Graph.Points), (xF encTBar f.Graph.Bars), (xF encTPlace f.Places)]) rfl ag29 (infS inf29) sz29 (by exact rfl) (by exact rfl)) rfl rfl rfl rfl ?_
    refine mv (Cc (xF encInt w)) rfl rfl rfl rfl ?_
    refine mv (Iv s1) rfl rfl rfl rfl ?_
    refine Ob' fun r31 hr31 => ?_
    refine AOR.pure (@LT.callF Try.prog _ _ 30 _ _ [(.agg [(iC f.Graph.Points), (xF encTBar f.Graph.Bars), (xF encTPlace f.Places)]), (.c (xF encInt w)), (.c (iC s1))] _ _ [] _ _ _ _ (w_spec_ForceAt f w s1 r31 hr31) rfl cb30 (.cons (.agg (.cons (.same rfl) (.cons (.same rfl) (.cons (.same rfl) .nil)))) (.cons (.c (.same rfl)) (.cons (.c (.same rfl)) .nil))) rfl rfl trivial) ⟨rfl, rfl, rfl, rfl, trivial⟩ trivial rfl rfl ?_
    refine mv (.tup [(.c (iC r31.1)), (.c (iC r31.2))]) rfl rfl rfl rfl ?_
    refine Op10 (LT.extract (v := (.c (iC r31.1))) rfl (by exact rfl)) rfl rfl rfl ?_
    refine Op10 (LT.extract (v := (.c (iC r31.2))) rfl (by exact rfl)) rfl rfl rfl ?_
    refine asg (Iv r31.1) rfl rfl rfl rfl ?_
    refine asg (Iv r31.2) rfl rfl rfl rfl ?_
    refine On (Ws ?_)
    refine AWR.joinK (fun j33 => ([(1, (Cc (xF encInt w))), (2, (Cc (.pl 21 0))), (5, (Iv s1)), (32, (Bv j33))], [(21, (.row 29 [[(iC f.Graph.Points), (xF encTBar f.Graph.Bars), (xF encTPlace f.Places)]]))])) ?_ (fun j33 _ => ?_)
    ·refine Wr ?_
     refine mv (Iv r31.1) rfl rfl rfl rfl ?_
     refine Op20 (LT.neq rfl) rfl ⟨rfl, rfl⟩ rfl rfl ?_
     refine mv (Bv (r31.1 != 0)) rfl rfl rfl rfl ?_
     refine AOR.split (fun hb34 => ?_) (fun hb34 => ?_)
     ·refine Ok rfl rfl rfl (by rw [hb34]; rfl) rfl ?_
      refine Ok rfl rfl rfl (by rw [hb34]; rfl) rfl ?_
      refine Op20 (LT.pickT (v := (Bv true)) rfl hb34) rfl ⟨rfl, rfl⟩ rfl rfl ?_
      refine On ?_
      refine AWR.nil ⟨rfl, Ent.of ⟨rfl, rfl, rfl, rfl, trivial⟩ ⟨rfl, trivial⟩⟩
     ·refine mv (Iv r31.2) rfl rfl ⟨_, rfl, .inl ⟨_, rfl, (by rw [hb34]; rfl)⟩⟩ rfl ?_
      refine Op20 (LT.neq rfl) rfl ⟨rfl, rfl⟩ ⟨_, rfl, .inl ⟨_, rfl, (by rw [hb34]; rfl)⟩⟩ rfl ?_
      refine Op20 (LT.pickF (v := (Bv (r31.2 != 0))) rfl hb34) rfl rfl rfl rfl ?_
      refine On ?_
      refine AWR.nil ⟨rfl, Ent.of ⟨rfl, rfl, rfl, rfl, trivial⟩ ⟨rfl, trivial⟩⟩
    ·refine AWR.cond rfl (fun hc35 => ?_) (fun hc35 => ?_)
     ·refine Ws (Wr ?_)
      refine asg (Bv false) rfl ⟨rfl, rfl⟩ rfl rfl ?_
      refine On ?_
      refine AWR.ret ⟨rfl, FPost.mk (.inr rfl) ⟨rfl, trivial⟩ trivial rfl ⟨PermP.sc, trivial⟩ trivial⟩
     ·refine AWR.skip (AWR.blk (Wr ?_))
      refine mv (Iv s1) rfl rfl rfl rfl ?_
      refine Op20 (LT.add rfl) rfl ⟨rfl, rfl⟩ rfl rfl ?_
      refine asg (Iv (w64 (s1 + 1))) rfl rfl rfl rfl ?_
      refine On ?_
      refine AWR.nil ⟨rfl, Ent.of ⟨rfl, rfl, rfl, trivial⟩ ⟨rfl, trivial⟩⟩
   ·refine AWR.exit_end rfl ⟨rfl, Ent.of ⟨rfl, rfl, trivial⟩ ⟨rfl, trivial⟩⟩
 ·refine Ws (Wr ?_)
  refine Op11 (LT.bloadN (out := [(iC f.Graph.Points), (xF encTBar f.Graph.Bars), (xF encTPlace f.Places)]) rfl ag29 (infS inf29) sz29 (by exact rfl) (by exact rfl)) rfl rfl rfl rfl ?_
  refine mv (Cc (xF encInt w)) rfl rfl rfl rfl ?_
  refine Ob' fun r36 hr36 => ?_
  refine AOR.pure (@LT.callF Try.prog _ _ 122 _ _ [(.agg [(iC f.Graph.Points), (xF encTBar f.Graph.Bars), (xF encTPlace f.Places)]), (.c (xF encInt w))] _ _ [] _ _ _ _ (w_spec_l13Vector f w r36 hr36) rfl cb122 (.cons (.agg (.cons (.same rfl) (.cons (.same rfl) (.cons (.same rfl) .nil)))) (.cons (.c (.same rfl)) .nil)) rfl rfl trivial) ⟨rfl, rfl, rfl, trivial⟩ trivial rfl rfl ?_
  refine asg (Bv r36) rfl rfl rfl rfl ?_
  refine On ?_
  refine AWR.ret (FPost.mk (.inr rfl) ⟨rfl, trivial⟩ trivial rfl ⟨PermP.sc, trivial⟩ trivial)
end Go.Proofs.Ytghofbijdnenoaa
end
