/- Parts of a proof that a law of the program holds: what the program computes, and why that is right. -/
import Derived.Test.YtghofbijdnenoaaZEGenericPlaces4
section
set_option linter.unusedVariables false
set_option linter.unusedSimpArgs false
set_option linter.unnecessarySimpa false
set_option maxRecDepth 100000
set_option maxHeartbeats 8000000
open Go Go.Fw
namespace Go.Proofs.Ytghofbijdnenoaa
theorem w_spec_NewPebbles (g : TGraph) (k : Int) : ∀ t, m_spec_NewPebbles g k = some t → Fw.Fn Try.prog 239 [(.agg [(iC g.Points), (xF encTBar g.Bars)]), (.c (iC k))] [] (resA [(.agg [(lo 0 t.1.Free.length), (lo 1 t.1.Tails.length), (lo 2 t.1.Placed.length)]), (.c (bC t.2))]) [(0, (pR 3 encInt t.1.Free)), (1, (pR 3 encInt t.1.Tails)), (2, (pR 3 encInt t.1.Placed))] [] [0, 1, 2] := by
 refine Fw.Fn.of (P := Try.prog) (X := [0, 1, 2]) (pn := []) (rs := (fun (t : (TPebbles × Bool)) => [(.agg [(lo 0 t.1.Free.length), (lo 1 t.1.Tails.length), (lo 2 t.1.Placed.length)]), (.c (bC t.2))])) (dfs := (fun (t : (TPebbles × Bool)) => [(0, (pR 3 encInt t.1.Free)), (1, (pR 3 encInt t.1.Tails)), (2, (pR 3 encInt t.1.Placed))])) Try.func239 rfl Try.ntmps239 (Nat.le_of_ble_eq_true rfl) rfl ?_
 intro w0 U0 R0 g0
 unfold m_spec_NewPebbles
 refine Ws (Wr ?_)
 refine Os10 (LT.box (n := 21) (v := (.agg [(iC g.Points), (xF encTBar g.Bars)])) rfl sz26 (by exact rfl)) rfl rfl rfl ?_
 refine Os00 (LT.alloc (n := 22) (cells := [(sC nilV), (sC nilV), (sC nilV)]) rfl ti165 rfl rfl rfl) rfl rfl ?_
 refine asg (Bv false) rfl ⟨rfl, rfl⟩ rfl rfl ?_
 refine On (Ws (Wr ?_))
 refine Os00 (LT.tbuildSlice (n := 23) (enc := encInt) [] ([] : List Int) rfl rfl und37 ti3 rfl rfl rfl rfl (by decide) (fun _ => rfl) rfl) rfl rfl ?_
 refine Os00 (LT.tbuildSlice (n := 24) (enc := encInt) [] ([] : List Int) rfl rfl und37 ti3 rfl rfl rfl rfl (by decide) (fun _ => rfl) rfl) rfl rfl ?_
 refine Os00 (LT.tbuildSlice (n := 25) (enc := encInt) [] ([] : List Int) rfl rfl und37 ti3 rfl rfl rfl rfl (by decide) (fun _ => rfl) rfl) rfl rfl ?_
 refine Op30 (LT.build [(0, .tmp 8, (.c (lo 23 (([] : List Int).length)))), (1, .tmp 9, (.c (lo 24 (([] : List Int).length)))), (2, .tmp 10, (.c (lo 25 (([] : List Int).length))))] rfl rfl pl165 ti165 rfl rfl rfl) rfl rfl rfl rfl rfl ?_
 refine Os00 (LT.alloc (n := 26) (cells := [(sC nilV), (sC nilV), (sC nilV)]) rfl ti165 rfl rfl rfl) rfl rfl ?_
 refine Os21 (LT.bstore (v := (.agg [(lo 23 (([] : List Int).length)), (lo 24 (([] : List Int).length)), (lo 25 (([] : List Int).length))])) (out := [(lo 23 (([] : List Int).length)), (lo 24 (([] : List Int).length)), (lo 25 (([] : List Int).length))]) rfl rfl (infS inf165) sz165 (by exact rfl) (by exact Nat.le_of_ble_eq_true rfl) (by exact rfl)) rfl rfl rfl rfl rfl ?_
 refine On (Ws (Ws ?_))
 refine AWR.joinK (fun j4 => ([(1, (Iv k)), (2, (Cc (.pl 21 0))), (4, (Cc (.pl 22 0))), (6, (Cc (.pl 26 0))), (19, (Bv j4))], [(21, (.row 26 [[(iC g.Points), (xF encTBar g.Bars)]])), (22, (.row 165 [[(sC nilV), (sC nilV), (sC nilV)]])), (23, (pR 3 encInt ([] : List Int))), (24, (pR 3 encInt ([] : List Int))), (25, (pR 3 encInt ([] : List Int))), (26, (.row 165 [[(lo 23 (([] : List Int).length)), (lo 24 (([] : List Int).length)), (lo 25 (([] : List Int).length))]]))])) ?_ (fun j4 _ => ?_)
 ·refine en [(1, (Iv k)), (2, (Cc (.pl 21 0))), (4, (Cc (.pl 22 0))), (6, (Cc (.pl 26 0)))] [(21, (.row 26 [[(iC g.Points), (xF encTBar g.Bars)]])), (22, (.row 165 [[(sC nilV), (sC nilV), (sC nilV)]])), (23, (pR 3 encInt ([] : List Int))), (24, (pR 3 encInt ([] : List Int))), (25, (pR 3 encInt ([] : List Int))), (26, (.row 165 [[(lo 23 (([] : List Int).length)), (lo 24 (([] : List Int).length)), (lo 25 (([] : List Int).length))]]))] ⟨rfl, rfl, rfl, rfl, trivial⟩ ⟨rfl, rfl, rfl, rfl, rfl, rfl, trivial⟩ ?_
  refine Wr ?_
  refine Op11 (LT.bloadN (out := [(iC g.Points), (xF encTBar g.Bars)]) rfl ag26 (infS inf26) sz26 (by exact rfl) (by exact rfl)) rfl rfl rfl rfl ?_
  refine Ob' fun r5 hr5 => ?_
  refine AOR.pure (@LT.callF Try.prog _ _ 109 _ _ [(.agg [(iC g.Points), (xF encTBar g.Bars)])] _ _ [] _ _ _ _ (w_spec_IsGraph g r5 hr5) rfl cb109 (.cons (.agg (.cons (.same rfl) (.cons (.same rfl) .nil))) .nil) rfl rfl trivial) ⟨rfl, rfl, trivial⟩ trivial rfl rfl ?_
  refine Op10 (LT.not rfl) rfl rfl rfl ?_
  refine mv (Bv (!r5)) rfl rfl rfl rfl ?_
  refine AOR.split (fun hb6 => ?_) (fun hb6 => ?_)
  ·refine Ok rfl rfl rfl (by rw [hb6]; rfl) rfl ?_
   refine Ok rfl rfl rfl (by rw [hb6]; rfl) rfl ?_
   refine Ok rfl rfl rfl (by rw [hb6]; rfl) rfl ?_
   refine Op20 (LT.pickT (v := (Bv true)) rfl hb6) rfl ⟨rfl, rfl⟩ rfl rfl ?_
   refine On ?_
   refine AWR.nil ⟨rfl, Ent.of ⟨rfl, rfl, rfl, rfl, rfl, trivial⟩ ⟨rfl, rfl, rfl, rfl, rfl, rfl, trivial⟩⟩
  ·refine mv (Iv k) rfl rfl ⟨_, rfl, .inl ⟨_, rfl, (by rw [hb6]; rfl)⟩⟩ rfl ?_
   refine Ob' fun r7 hr7 => ?_
   refine AOR.pure (@LT.callF Try.prog _ _ 110 _ _ [(.c (iC k)), (.c (iC 1)), (.c (iC 3))] _ _ [] _ _ _ _ (w_spec_l1In k 1 3 r7 hr7) rfl cb110 (.cons (.c (.same rfl)) (.cons (.c (.same rfl)) (.cons (.c (.same rfl)) .nil))) rfl rfl trivial) ⟨rfl, rfl, ⟨rfl, rfl⟩, ⟨rfl, rfl⟩, trivial⟩ trivial ⟨_, rfl, .inl ⟨_, rfl, (by rw [hb6]; rfl)⟩⟩ rfl ?_
   refine Op10 (LT.not rfl) rfl ⟨_, rfl, .inl ⟨_, rfl, (by rw [hb6]; rfl)⟩⟩ rfl ?_
   refine Op20 (LT.pickF (v := (Bv (!r7))) rfl hb6) rfl rfl rfl rfl ?_
   refine On ?_
   refine AWR.nil ⟨rfl, Ent.of ⟨rfl, rfl, rfl, rfl, rfl, trivial⟩ ⟨rfl, rfl, rfl, rfl, rfl, rfl, trivial⟩⟩
 ·refine AWR.cond rfl (fun hc8 => ?_) (fun hc8 => ?_)
  ·refine Ws (Wr ?_)
   refine Op00 (LT.build [] rfl rfl pl165 ti165 rfl rfl rfl) rfl rfl ?_
   refine Os21 (LT.bstore (v := (.agg [(sC nilV), (sC nilV), (sC nilV)])) (out := [(sC nilV), (sC nilV), (sC nilV)]) rfl rfl (infS inf165) sz165 (by exact rfl) (by exact Nat.le_of_ble_eq_true rfl) (by exact rfl)) rfl rfl rfl rfl rfl ?_
   refine asg (Bv false) rfl ⟨rfl, rfl⟩ rfl rfl ?_
   refine On ?_
   refine AWR.ent (Ent.nilB 22 0 0 3 rfl rfl rfl rfl) ?_
   refine AWR.ent (Ent.nilB 22 1 1 3 rfl rfl rfl rfl) ?_
   refine AWR.ent (Ent.nilB 22 2 2 3 rfl rfl rfl rfl) ?_
   refine en [(4, (Cc (.pl 22 0))), (5, (Bv false))] [(0, (pR 3 encInt ([] : List Int))), (1, (pR 3 encInt ([] : List Int))), (2, (pR 3 encInt ([] : List Int))), (22, (.row 165 [[(lo 0 (([] : List Int).length)), (lo 1 (([] : List Int).length)), (lo 2 (([] : List Int).length))]]))] ⟨rfl, rfl, trivial⟩ ⟨rfl, rfl, rfl, rfl, trivial⟩ ?_
   refine AWR.ret (FPost.mk (.inr rfl) ⟨⟨_, _, _, rfl, rfl, rfl, ag165, sz165, _, (infS inf165)⟩, rfl, trivial⟩ ⟨rfl, rfl, rfl, trivial⟩ rfl ⟨⟨trivial, trivial, trivial, trivial⟩, PermP.sc, trivial⟩ ⟨PermO.prow' perm_encInt, PermO.prow' perm_encInt, PermO.prow' perm_encInt, trivial⟩)
  ·refine AWR.skip (Ws (Ws (Wr ?_)))
   refine asg (Iv 0) rfl ⟨rfl, rfl⟩ rfl rfl ?_
   refine On (AWR.block ?_)
   refine AWR.loop1 (id := 0) (m_spec_NewPebbles_L1 g k) (fun s9 => ([(1, (Iv k)), (2, (Cc (.pl 21 0))), (4, (Cc (.pl 22 0))), (6, (Cc (.pl 26 0))), (7, (Iv s9.1))], [(21, (.row 26 [[(iC g.Points), (xF encTBar g.Bars)]])), (22, (.row 165 [[(sC nilV), (sC nilV), (sC nilV)]])), (23, (pR 3 encInt s9.2)), (24, (pR 3 encInt ([] : List Int))), (25, (pR 3 encInt ([] : List Int))), (26, (.row 165 [[(lo 23 s9.2.length), (lo 24 (([] : List Int).length)), (lo 25 (([] : List Int).length))]]))])) (fun b14 => ([(4, (Cc (.pl 22 0))), (6, (Cc (.pl 26 0)))], [(22, (.row 165 [[(sC nilV), (sC nilV), (sC nilV)]])), (23, (pR 3 encInt b14)), (24, (pR 3 encInt ([] : List Int))), (25, (pR 3 encInt ([] : List Int))), (26, (.row 165 [[(lo 23 b14.length), (lo 24 (([] : List Int).length)), (lo 25 (([] : List Int).length))]]))])) ?_ (Ent.of ⟨rfl, rfl, rfl, rfl, rfl, trivial⟩ ⟨rfl, rfl, rfl, rfl, rfl, rfl, trivial⟩) rfl (fun b14 _ => ?_)
   ·intro s9
    unfold m_spec_NewPebbles_L1
    refine Ws (Ws (Wr ?_))
    refine mv (Iv s9.1) rfl rfl rfl rfl ?_
    refine Op10 (LT.fieldPl rfl fo26_0) rfl rfl rfl ?_
    refine Op11 (LT.bload1 (c := (iC g.Points)) rfl ag3 (by exact rfl)) rfl rfl rfl rfl ?_
    refine Op20 (LT.lss rfl) rfl rfl rfl rfl ?_
    refine On ?_
    refine AWR.cond rfl (fun hc15 => ?_) (fun hc15 => ?_)
    ·refine AWR.skip (Ws (AWR.block (Wr ?_)))
     refine Op10 (LT.fieldPl rfl fo165_0) rfl rfl rfl ?_
     refine Op11 (LT.bload1 (c := (lo 23 s9.2.length)) rfl ag37 (by exact rfl)) rfl rfl rfl rfl ?_
     refine mv (Iv k) rfl rfl rfl rfl ?_
     refine Os10 (LT.tbuildSlice (n := 29) (enc := encInt) [(0, .tmp 29, (.c (iC k)))] ([k] : List Int) rfl rfl und37 ti3 rfl rfl rfl rfl (by decide) (fun _ => rfl) rfl) rfl rfl rfl ?_
     refine Ob' fun u16 hu16 => ?_
     refine Os22 (LT.tappP (enc := encInt) rfl rfl rfl und37 ti3 rfl (by decide) (by decide) (fun _ => rfl) (lim_le hu16)) rfl rfl rfl rfl rfl rfl ?_
     refine Op10 (LT.fieldPl rfl fo165_0) rfl rfl rfl ?_
     refine Os21 (LT.bstore (v := (.c (lo 23 ((s9.2 ++ ([k] : List Int)).length)))) (out := [(lo 23 ((s9.2 ++ ([k] : List Int)).length)), (lo 24 (([] : List Int).length)), (lo 25 (([] : List Int).length))]) rfl rfl (infS inf37) sz37 (by exact rfl) (by exact Nat.le_of_ble_eq_true rfl) (by exact rfl)) rfl rfl rfl rfl rfl ?_
     refine On (AWR.blk ?_)
     refine en [(1, (Iv k)), (2, (Cc (.pl 21 0))), (4, (Cc (.pl 22 0))), (6, (Cc (.pl 26 0))), (7, (Iv s9.1))] [(21, (.row 26 [[(iC g.Points), (xF encTBar g.Bars)]])), (22, (.row 165 [[(sC nilV), (sC nilV), (sC nilV)]])), (23, (pR 3 encInt (s9.2 ++ ([k] : List Int)))), (24, (pR 3 encInt ([] : List Int))), (25, (pR 3 encInt ([] : List Int))), (26, (.row 165 [[(lo 23 ((s9.2 ++ ([k] : List Int)).length)), (lo 24 (([] : List Int).length)), (lo 25 (([] : List Int).length))]]))] ⟨rfl, rfl, rfl, rfl, rfl, trivial⟩ ⟨rfl, rfl, rfl, rfl, rfl, rfl, trivial⟩ ?_
     refine Wr ?_
     refine mv (Iv s9.1) rfl rfl rfl rfl ?_
     refine Op20 (LT.add rfl) rfl ⟨rfl, rfl⟩ rfl rfl ?_
     refine asg (Iv (w64 (s9.1 + 1))) rfl rfl rfl rfl ?_
     refine On ?_
     refine AWR.nil ⟨rfl, Ent.of ⟨rfl, rfl, rfl, rfl, rfl, trivial⟩ ⟨rfl, rfl, rfl, rfl, rfl, rfl, trivial⟩⟩
    ·refine AWR.exit_end rfl ⟨rfl, Ent.of ⟨rfl, rfl, trivial⟩ ⟨rfl, rfl, rfl, rfl, rfl, trivial⟩⟩
   ·refine Ws (Wr ?_)
    refine Op11 (LT.bloadN (out := [(lo 23 b14.length), (lo 24 (([] : List Int).length)), (lo 25 (([] : List Int).length))]) rfl ag165 (infS inf165) sz165 (by exact rfl) (by exact rfl)) rfl rfl rfl rfl ?_
    refine Os21 (LT.bstore (v := (.agg [(lo 23 b14.length), (lo 24 (([] : List Int).length)), (lo 25 (([] : List Int).length))])) (out := [(lo 23 b14.length), (lo 24 (([] : List Int).length)), (lo 25 (([] : List Int).length))]) rfl rfl (infS inf165) sz165 (by exact rfl) (by exact Nat.le_of_ble_eq_true rfl) (by exact rfl)) rfl rfl rfl rfl rfl ?_
    refine asg (Bv true) rfl ⟨rfl, rfl⟩ rfl rfl ?_
    refine On ?_
    refine en [(4, (Cc (.pl 22 0))), (5, (Bv true))] [(22, (.row 165 [[(lo 23 b14.length), (lo 24 (([] : List Int).length)), (lo 25 (([] : List Int).length))]])), (23, (pR 3 encInt b14)), (24, (pR 3 encInt ([] : List Int))), (25, (pR 3 encInt ([] : List Int)))] ⟨rfl, rfl, trivial⟩ ⟨rfl, rfl, rfl, rfl, trivial⟩ ?_
    refine AWR.ent (Ent.mv 23 0 rfl rfl) ?_
    refine AWR.ent (Ent.mv 24 1 rfl rfl) ?_
    refine AWR.ent (Ent.mv 25 2 rfl rfl) ?_
    refine en [(4, (Cc (.pl 22 0))), (5, (Bv true))] [(0, (pR 3 encInt b14)), (1, (pR 3 encInt ([] : List Int))), (2, (pR 3 encInt ([] : List Int))), (22, (.row 165 [[(lo 0 b14.length), (lo 1 (([] : List Int).length)), (lo 2 (([] : List Int).length))]]))] ⟨rfl, rfl, trivial⟩ ⟨rfl, rfl, rfl, rfl, trivial⟩ ?_
    refine AWR.ret (FPost.mk (.inr rfl) ⟨⟨_, _, _, rfl, rfl, rfl, ag165, sz165, _, (infS inf165)⟩, rfl, trivial⟩ ⟨rfl, rfl, rfl, trivial⟩ rfl ⟨⟨trivial, trivial, trivial, trivial⟩, PermP.sc, trivial⟩ ⟨PermO.prow' perm_encInt, PermO.prow' perm_encInt, PermO.prow' perm_encInt, trivial⟩)
theorem w_spec_IsRange (k : Int) (l : Int) : ∀ t, m_spec_IsRange k l = some t → Fw.Fn Try.prog 240 [(.c (iC k)), (.c (iC l))] [] (.s (.c (bC t))) [] [] [] := by
 refine Fw.Fn.of (P := Try.prog) (X := []) (pn := []) (rs := (fun (t : Bool) => [(.c (bC t))])) (dfs := (fun (t : Bool) => [])) Try.func240 rfl Try.ntmps240 (Nat.le_of_ble_eq_true rfl) rfl ?_
 intro w0 U0 R0 g0
 unfold m_spec_IsRange
 refine Ws (Wr ?_)
 refine asg (Bv false) rfl ⟨rfl, rfl⟩ rfl rfl ?_
 refine On (Ws ?_)
 refine AWR.joinK (fun j4 => ([(4, (Bv j4))], [])) ?_ (fun j4 _ => ?_)
 ·refine Wr ?_
  refine mv (Iv k) rfl rfl rfl rfl ?_
  refine Ob' fun r5 hr5 => ?_
  refine AOR.pure (@LT.callF Try.prog _ _ 110 _ _ [(.c (iC k)), (.c (iC 1)), (.c (iC 3))] _ _ [] _ _ _ _ (w_spec_l1In k 1 3 r5 hr5) rfl cb110 (.cons (.c (.same rfl)) (.cons (.c (.same rfl)) (.cons (.c (.same rfl)) .nil))) rfl rfl trivial) ⟨rfl, rfl, ⟨rfl, rfl⟩, ⟨rfl, rfl⟩, trivial⟩ trivial rfl rfl ?_
  refine mv (Bv r5) rfl rfl rfl rfl ?_
  refine AOR.split (fun hb6 => ?_) (fun hb6 => ?_)
  ·refine mv (Iv l) rfl rfl ⟨_, rfl, .inl ⟨_, rfl, (by rw [hb6]; rfl)⟩⟩ rfl ?_
   refine Op20 (LT.geq rfl) rfl ⟨rfl, rfl⟩ ⟨_, rfl, .inl ⟨_, rfl, (by rw [hb6]; rfl)⟩⟩ rfl ?_
   refine Op20 (LT.pickT (v := (Bv (decide (0 ≤ l)))) rfl hb6) rfl rfl rfl rfl ?_
   refine mv (Bv (decide (0 ≤ l))) rfl rfl rfl rfl ?_
   refine AOR.split (fun hb7 => ?_) (fun hb7 => ?_)
   ·refine mv (Iv l) rfl rfl ⟨_, rfl, .inl ⟨_, rfl, (by rw [hb7]; rfl)⟩⟩ rfl ?_
    refine mv (Iv k) rfl rfl ⟨_, rfl, .inl ⟨_, rfl, (by rw [hb7]; rfl)⟩⟩ rfl ?_
    refine Op20 (LT.mul rfl) ⟨rfl, rfl⟩ rfl ⟨_, rfl, .inl ⟨_, rfl, (by rw [hb7]; rfl)⟩⟩ rfl ?_
    refine Op20 (LT.lss rfl) rfl rfl ⟨_, rfl, .inl ⟨_, rfl, (by rw [hb7]; rfl)⟩⟩ rfl ?_
    refine Op20 (LT.pickT (v := (Bv (decide (l < (w64 (2 * k)))))) rfl hb7) rfl rfl rfl rfl ?_
    refine asg (Bv (decide (l < (w64 (2 * k))))) rfl rfl rfl rfl ?_
    refine On ?_
    refine AWR.nil ⟨rfl, Ent.of ⟨rfl, trivial⟩ trivial⟩
   ·refine Ok rfl rfl rfl (by rw [hb7]; rfl) rfl ?_
    refine Ok rfl rfl rfl (by rw [hb7]; rfl) rfl ?_
    refine Ok rfl rfl rfl (by rw [hb7]; rfl) rfl ?_
    refine Ok rfl rfl rfl (by rw [hb7]; rfl) rfl ?_
    refine Op20 (LT.pickF (v := (Bv false)) rfl hb7) rfl ⟨rfl, rfl⟩ rfl rfl ?_
    refine asg (Bv false) rfl rfl rfl rfl ?_
    refine On ?_
    refine AWR.nil ⟨rfl, Ent.of ⟨rfl, trivial⟩ trivial⟩
  ·refine Ok rfl rfl rfl (by rw [hb6]; rfl) rfl ?_
   refine Ok rfl rfl rfl (by rw [hb6]; rfl) rfl ?_
   refine Op20 (LT.pickF (v := (Bv false)) rfl hb6) rfl ⟨rfl, rfl⟩ rfl rfl ?_
   refine mv (Bv false) rfl rfl rfl rfl ?_
   refine Ok rfl rfl rfl rfl rfl ?_
   refine Ok rfl rfl rfl rfl rfl ?_
   refine Ok rfl rfl rfl rfl rfl ?_
   refine Ok rfl rfl rfl rfl rfl ?_
   refine Op20 (LT.pickF (v := (Bv false)) rfl rfl) rfl ⟨rfl, rfl⟩ rfl rfl ?_
   refine asg (Bv false) rfl rfl rfl rfl ?_
   refine On ?_
   refine AWR.nil ⟨rfl, Ent.of ⟨rfl, trivial⟩ trivial⟩
 ·refine AWR.ret (FPost.mk (.inr rfl) ⟨rfl, trivial⟩ trivial rfl ⟨PermP.sc, trivial⟩ trivial)
theorem w_spec_l4Tail (p : TPebbles) (v : Int) : ∀ t, m_spec_l4Tail p v = some t → Fw.Fn Try.prog 256 [(.agg [(xF encInt p.Free), (xF encInt p.Tails), (xF encInt p.Placed)]), (.c (iC v))] [] (.s (.c (iC t))) [] [] [] := by
 refine Fw.Fn.of (P := Try.prog) (X := []) (pn := []) (rs := (fun (t : Int) => [(.c (iC t))])) (dfs := (fun (t : Int) => [])) Try.func256 rfl Try.ntmps256 (Nat.le_of_ble_eq_true rfl) rfl ?_
 intro w0 U0 R0 g0
 unfold m_spec_l4Tail
 refine Ws (Wr ?_)
 refine Os10 (LT.box (n := 21) (v := (.agg [(xF encInt p.Free), (xF encInt p.Tails), (xF encInt p.Placed)])) rfl sz165 (by exact rfl)) rfl rfl rfl ?_
 refine asg (Iv 0) rfl ⟨rfl, rfl⟩ rfl rfl ?_
 refine On (Ws (Wr ?_))
 refine asg (Iv 0) rfl ⟨rfl, rfl⟩ rfl rfl ?_
 refine On (Ws (Ws (Wr ?_)))
 refine asg (Iv 0) rfl ⟨rfl, rfl⟩ rfl rfl ?_
 refine On (AWR.block ?_)
 refine AWR.loop1 (id := 0) (m_spec_l4Tail_L1 p v) (fun s1 => ([(1, (Iv v)), (2, (Cc (.pl 21 0))), (5, (Iv s1.1)), (6, (Iv s1.2))], [(21, (.row 165 [[(xF encInt p.Free), (xF encInt p.Tails), (xF encInt p.Placed)]]))])) (fun b12 => ([(5, (Iv b12))], [])) ?_ (Ent.of ⟨rfl, rfl, rfl, rfl, trivial⟩ ⟨rfl, trivial⟩) rfl (fun b12 _ => ?_)
 ·intro s1
  unfold m_spec_l4Tail_L1
  refine Ws (Ws (Wr ?_))
  refine mv (Iv s1.2) rfl rfl rfl rfl ?_
  refine Op10 (LT.fieldPl rfl fo165_1) rfl rfl rfl ?_
  refine Op11 (LT.bload1 (c := (xF encInt p.Tails)) rfl ag37 (by exact rfl)) rfl rfl rfl rfl ?_
  refine Op10 (LT.tlenRO rfl und37) rfl rfl rfl ?_
  refine Op20 (LT.lss rfl) rfl rfl rfl rfl ?_
  refine On ?_
  refine AWR.cond rfl (fun hc13 => ?_) (fun hc13 => ?_)
  ·refine AWR.skip (Ws (AWR.block (Ws (Wr ?_))))
   refine Op10 (LT.fieldPl rfl fo165_1) rfl rfl rfl ?_
   refine Op11 (LT.bload1 (c := (xF encInt p.Tails)) rfl ag37 (by exact rfl)) rfl rfl rfl rfl ?_
   refine mv (Iv s1.2) rfl rfl rfl rfl ?_
   refine Ob' fun x14 hx14 => ?_
   refine Op20 (LT.tindexRO (enc := encInt) rfl el37 hx14 sz3) rfl rfl rfl rfl ?_
   refine Op10 (LT.loadPx1 rfl ag3) rfl rfl rfl ?_
   refine mv (Iv v) rfl rfl rfl rfl ?_
   refine Op20 (LT.eql rfl) rfl rfl rfl rfl ?_
   refine On ?_
   refine AWR.joinK (fun j16 => ([(1, (Iv v)), (2, (Cc (.pl 21 0))), (5, (Iv j16)), (6, (Iv s1.2))], [(21, (.row 165 [[(xF encInt p.Free), (xF encInt p.Tails), (xF encInt p.Placed)]]))])) ?_ (fun j16 _ => ?_)
   ·refine AWR.cond rfl (fun hc17 => ?_) (fun hc17 => ?_)
    ·refine en [(1, (Iv v)), (2, (Cc (.pl 21 0))), (5, (Iv s1.1)), (6, (Iv s1.2))] [(21, (.row 165 [[(xF encInt p.Free), (xF encInt p.Tails), (xF encInt p.Placed)]]))] ⟨rfl, rfl, rfl, rfl, trivial⟩ ⟨rfl, trivial⟩ ?_
     refine Wr ?_
     refine mv (Iv s1.1) rfl rfl rfl rfl ?_
     refine Op20 (LT.add rfl) rfl ⟨rfl, rfl⟩ rfl rfl ?_
     refine asg (Iv (w64 (s1.1 + 1))) rfl rfl rfl rfl ?_
     refine On ?_
     refine AWR.nil ⟨rfl, Ent.of ⟨rfl, rfl, rfl, rfl, trivial⟩ ⟨rfl, trivial⟩⟩
    ·refine AWR.skip ?_
     refine AWR.nil ⟨rfl, Ent.of ⟨rfl, rfl, rfl, rfl, trivial⟩ ⟨rfl, trivial⟩⟩
   ·refine AWR.blk (Wr ?_)
    refine mv (Iv s1.2) rfl rfl rfl rfl ?_
    refine Op20 (LT.add rfl) rfl ⟨rfl, rfl⟩ rfl rfl ?_
    refine asg (Iv (w64 (s1.2 + 1))) rfl rfl rfl rfl ?_
    refine On ?_
    refine AWR.nil ⟨rfl, Ent.of ⟨rfl, rfl, rfl, rfl, trivial⟩ ⟨rfl, trivial⟩⟩
  ·refine AWR.exit_end rfl ⟨rfl, Ent.of ⟨rfl, trivial⟩ trivial⟩
 ·refine Ws (Wr ?_)
  refine mv (Iv b12) rfl rfl rfl rfl ?_
  refine asg (Iv b12) rfl rfl rfl rfl ?_
  refine On ?_
  refine AWR.ret (FPost.mk (.inr rfl) ⟨rfl, trivial⟩ trivial rfl ⟨PermP.sc, trivial⟩ trivial)
theorem w_spec_IsPebbles (g : TGraph) (k : Int) (p : TPebbles) : ∀ t, m_spec_IsPebbles g k p = some t → Fw.Fn Try.prog 252 [(.agg [(iC g.Points), (xF encTBar g.Bars)]), (.c (iC k)), (.agg [(xF encInt p.Free), (xF encInt p.Tails), (xF encInt p.Placed)])] [] (.s (.c (bC t))) [] [] [] := by
 refine Fw.Fn.of (P := Try.prog) (X := []) (pn := []) (rs := (fun (t : Bool) => [(.c (bC t))])) (dfs := (fun (t : Bool) => [])) Try.func252 rfl Try.ntmps252 (Nat.le_of_ble_eq_true rfl) rfl ?_
 intro w0 U0 R0 g0
 unfold m_spec_IsPebbles
 refine Ws (Wr ?_)
 refine Os10 (LT.box (n := 21) (v := (.agg [(iC g.Points), (xF encTBar g.Bars)])) rfl sz26 (by exact rfl)) rfl rfl rfl ?_
 refine Os10 (LT.box (n := 22) (v := (.agg [(xF encInt p.Free), (xF encInt p.Tails), (xF encInt p.Placed)])) rfl sz165 (by exact rfl)) rfl rfl rfl ?_
 refine asg (Bv false) rfl ⟨rfl, rfl⟩ rfl rfl ?_
 refine On (Ws (Ws ?_))
 refine AWR.joinK (fun j6 => ([(1, (Iv k)), (3, (Cc (.pl 21 0))), (5, (Cc (.pl 22 0))), (34, (Bv j6))], [(21, (.row 26 [[(iC g.Points), (xF encTBar g.Bars)]])), (22, (.row 165 [[(xF encInt p.Free), (xF encInt p.Tails), (xF encInt p.Placed)]]))])) ?_ (fun j6 _ => ?_)
 ·refine Wr ?_
  refine Op11 (LT.bloadN (out := [(iC g.Points), (xF encTBar g.Bars)]) rfl ag26 (infS inf26) sz26 (by exact rfl) (by exact rfl)) rfl rfl rfl rfl ?_
  refine Ob' fun r7 hr7 => ?_
  refine AOR.pure (@LT.callF Try.prog _ _ 109 _ _ [(.agg [(iC g.Points), (xF encTBar g.Bars)])] _ _ [] _ _ _ _ (w_spec_IsGraph g r7 hr7) rfl cb109 (.cons (.agg (.cons (.same rfl) (.cons (.same rfl) .nil))) .nil) rfl rfl trivial) ⟨rfl, rfl, trivial⟩ trivial rfl rfl ?_
  refine Op10 (LT.not rfl) rfl rfl rfl ?_
  refine mv (Bv (!r7)) rfl rfl rfl rfl ?_
  refine AOR.split (fun hb8 => ?_) (fun hb8 => ?_)
  ·refine Ok rfl rfl rfl (by rw [hb8]; rfl) rfl ?_
   refine Ok rfl rfl rfl (by rw [hb8]; rfl) rfl ?_
   refine Ok rfl rfl rfl (by rw [hb8]; rfl) rfl ?_
   refine Op20 (LT.pickT (v := (Bv true)) rfl hb8) rfl ⟨rfl, rfl⟩ rfl rfl ?_
   refine mv (Bv true) rfl rfl rfl rfl ?_
   refine Ok rfl rfl rfl rfl rfl ?_
   refine Ok rfl rfl rfl rfl rfl ?_
   refine Ok rfl rfl rfl rfl rfl ?_
   refine Ok rfl rfl rfl rfl rfl ?_
   refine Ok rfl rfl rfl rfl rfl ?_
   refine Ok rfl rfl rfl rfl rfl ?_
   refine Op20 (LT.pickT (v := (Bv true)) rfl rfl) rfl ⟨rfl, rfl⟩ rfl rfl ?_
   refine mv (Bv true) rfl rfl rfl rfl ?_
   refine Ok rfl rfl rfl rfl rfl ?_
   refine Ok rfl rfl rfl rfl rfl ?_
   refine Ok rfl rfl rfl rfl rfl ?_
   refine Ok rfl rfl rfl rfl rfl ?_
   refine Ok rfl rfl rfl rfl rfl ?_
   refine Ok rfl rfl rfl rfl rfl ?_
   refine Ok rfl rfl rfl rfl rfl ?_
   refine Op20 (LT.pickT (v := (Bv true)) rfl rfl) rfl ⟨rfl, rfl⟩ rfl rfl ?_
   refine On ?_
   refine AWR.nil ⟨rfl, Ent.of ⟨rfl, rfl, rfl, rfl, trivial⟩ ⟨rfl, rfl, trivial⟩⟩
  ·refine mv (Iv k) rfl rfl ⟨_, rfl, .inl ⟨_, rfl, (by rw [hb8]; rfl)⟩⟩ rfl ?_
   refine Ob' fun r9 hr9 => ?_
   refine AOR.pure (@LT.callF Try.prog _ _ 110 _ _ [(.c (iC k)), (.c (iC 1)), (.c (iC 3))] _ _ [] _ _ _ _ (w_spec_l1In k 1 3 r9 hr9) rfl cb110 (.cons (.c (.same rfl)) (.cons (.c (.same rfl)) (.cons (.c (.same rfl)) .nil))) rfl rfl trivial) ⟨rfl, rfl, ⟨rfl, rfl⟩, ⟨rfl, rfl⟩, trivial⟩ trivial ⟨_, rfl, .inl ⟨_, rfl, (by rw [hb8]; rfl)⟩⟩ rfl ?_
   refine Op10 (LT.not rfl) rfl ⟨_, rfl, .inl ⟨_, rfl, (by rw [hb8]; rfl)⟩⟩ rfl ?_
   refine Op20 (LT.pickF (v := (Bv (!r9))) rfl hb8) rfl rfl rfl rfl ?_
   refine mv (Bv (!r9)) rfl rfl rfl rfl ?_
   refine AOR.split (fun hb10 => ?_) (fun hb10 => ?_)
   ·refine Ok rfl rfl rfl (by rw [hb10]; rfl) rfl ?_
    refine Ok rfl rfl rfl (by rw [hb10]; rfl) rfl ?_
    refine Ok rfl rfl rfl (by rw [hb10]; rfl) rfl ?_
    refine Ok rfl rfl rfl (by rw [hb10]; rfl) rfl ?_
    refine Ok rfl rfl rfl (by rw [hb10]; rfl) rfl ?_
    refine Ok rfl rfl rfl (by rw [hb10]; rfl) rfl ?_
    refine Op20 (LT.pickT (v := (Bv true)) rfl hb10) rfl ⟨rfl, rfl⟩ rfl rfl ?_
    refine mv (Bv true) rfl rfl rfl rfl ?_
    refine Ok rfl rfl rfl rfl rfl ?_
    refine Ok rfl rfl rfl rfl rfl ?_
    refine Ok rfl rfl rfl rfl rfl ?_
    refine Ok rfl rfl rfl rfl rfl ?_
    refine Ok rfl rfl rfl rfl rfl ?_
    refine Ok rfl rfl rfl rfl rfl ?_
    refine Ok rfl rfl rfl rfl rfl ?_
    refine Op20 (LT.pickT (v := (Bv true)) rfl rfl) rfl ⟨rfl, rfl⟩ rfl rfl ?_
    refine On ?_
    refine AWR.nil ⟨rfl, Ent.of ⟨rfl, rfl, rfl, rfl, trivial⟩ ⟨rfl, rfl, trivial⟩⟩
   ·refine Op10 (LT.fieldPl rfl fo165_0) rfl ⟨_, rfl, .inl ⟨_, rfl, (by rw [hb10]; rfl)⟩⟩ rfl ?_
    refine Op11 (LT.bload1 (c := (xF encInt p.Free)) rfl ag37 (by exact rfl)) rfl rfl ⟨_, rfl, .inl ⟨_, rfl, (by rw [hb10]; rfl)⟩⟩ rfl ?_
    refine Op10 (LT.tlenRO rfl und37) rfl ⟨_, rfl, .inl ⟨_, rfl, (by rw [hb10]; rfl)⟩⟩ rfl ?_
    refine Op10 (LT.fieldPl rfl fo26_0) rfl ⟨_, rfl, .inl ⟨_, rfl, (by rw [hb10]; rfl)⟩⟩ rfl ?_
    refine Op11 (LT.bload1 (c := (iC g.Points)) rfl ag3 (by exact rfl)) rfl rfl ⟨_, rfl, .inl ⟨_, rfl, (by rw [hb10]; rfl)⟩⟩ rfl ?_
    refine Op20 (LT.neq rfl) rfl rfl ⟨_, rfl, .inl ⟨_, rfl, (by rw [hb10]; rfl)⟩⟩ rfl ?_
    refine Op20 (LT.pickF (v := (Bv ((p.Free.length : Int) != g.Points))) rfl hb10) rfl rfl rfl rfl ?_
    refine mv (Bv ((p.Free.length : Int) != g.Points)) rfl rfl rfl rfl ?_
    refine AOR.split (fun hb11 => ?_) (fun hb11 => ?_)
    ·refine Ok rfl rfl rfl (by rw [hb11]; rfl) rfl ?_
     refine Ok rfl rfl rfl (by rw [hb11]; rfl) rfl ?_
     refine Ok rfl rfl rfl (by rw [hb11]; rfl) rfl ?_
     refine Ok rfl rfl rfl (by rw [hb11]; rfl) rfl ?_
     refine Ok rfl rfl rfl (by rw [hb11]; rfl) rfl ?_
     refine Ok rfl rfl rfl (by rw [hb11]; rfl) rfl ?_
     refine Ok rfl rfl rfl (by rw [hb11]; rfl) rfl ?_
     refine Op20 (LT.pickT (v := (Bv true)) rfl hb11) rfl ⟨rfl, rfl⟩ rfl rfl ?_
     refine On ?_
     refine AWR.nil ⟨rfl, Ent.of ⟨rfl, rfl, rfl, rfl, trivial⟩ ⟨rfl, rfl, trivial⟩⟩
    ·refine Op10 (LT.fieldPl rfl fo165_1) rfl ⟨_, rfl, .inl ⟨_, rfl, (by rw [hb11]; rfl)⟩⟩ rfl ?_
     refine Op11 (LT.bload1 (c := (xF encInt p.Tails)) rfl ag37 (by exact rfl)) rfl rfl ⟨_, rfl, .inl ⟨_, rfl, (by rw [hb11]; rfl)⟩⟩ rfl ?_
     refine Op10 (LT.tlenRO rfl und37) rfl ⟨_, rfl, .inl ⟨_, rfl, (by rw [hb11]; rfl)⟩⟩ rfl ?_
     refine Op10 (LT.fieldPl rfl fo165_2) rfl ⟨_, rfl, .inl ⟨_, rfl, (by rw [hb11]; rfl)⟩⟩ rfl ?_
     refine Op11 (LT.bload1 (c := (xF encInt p.Placed)) rfl ag37 (by exact rfl)) rfl rfl ⟨_, rfl, .inl ⟨_, rfl, (by rw [hb11]; rfl)⟩⟩ rfl ?_
     refine Op10 (LT.tlenRO rfl und37) rfl ⟨_, rfl, .inl ⟨_, rfl, (by rw [hb11]; rfl)⟩⟩ rfl ?_
     refine Op20 (LT.neq rfl) rfl rfl ⟨_, rfl, .inl ⟨_, rfl, (by rw [hb11]; rfl)⟩⟩ rfl ?_
     refine Op20 (LT.pickF (v := (Bv ((p.Tails.length : Int) != (p.Placed.length : Int)))) rfl hb11) rfl rfl rfl rfl ?_
     refine On ?_
     refine AWR.nil ⟨rfl, Ent.of ⟨rfl, rfl, rfl, rfl, trivial⟩ ⟨rfl, rfl, trivial⟩⟩
 ·refine AWR.cond rfl (fun hc12 => ?_) (fun hc12 => ?_)
  ·refine Ws (Wr ?_)
   refine asg (Bv false) rfl ⟨rfl, rfl⟩ rfl rfl ?_
   refine On ?_
   refine AWR.ret (FPost.mk (.inr rfl) ⟨rfl, trivial⟩ trivial rfl ⟨PermP.sc, trivial⟩ trivial)
  ·refine AWR.skip (Ws (Ws (Wr ?_)))
   refine asg (Iv 0) rfl ⟨rfl, rfl⟩ rfl rfl ?_
   refine On (AWR.block ?_)
   refine AWR.loopR (id := 0) (m_spec_IsPebbles_L1 g p) (fun s13 => ([(1, (Iv k)), (3, (Cc (.pl 21 0))), (5, (Cc (.pl 22 0))), (7, (Iv s13))], [(21, (.row 26 [[(iC g.Points), (xF encTBar g.Bars)]])), (22, (.row 165 [[(xF encInt p.Free), (xF encInt p.Tails), (xF encInt p.Placed)]]))])) (fun b82 => ([(1, (Iv k)), (3, (Cc (.pl 21 0))), (5, (Cc (.pl 22 0)))], [(21, (.row 26 [[(iC g.Points), (xF encTBar g.Bars)]])), (22, (.row 165 [[(xF encInt p.Free), (xF encInt p.Tails), (xF encInt p.Placed)]]))])) (FPost Try.prog Try.f252.results.toList [] [] (fun (t : Bool) => [(.c (bC t))]) (fun (t : Bool) => [])) ?_ (Ent.of ⟨rfl, rfl, rfl, rfl, trivial⟩ ⟨rfl, rfl, trivial⟩) rfl (fun b82 _ => ?_) (by intro r t σ m ht hk; injection ht with ht; subst ht; exact hk)
   ·intro s13
    unfold m_spec_IsPebbles_L1
    refine Ws (Ws (Wr ?_))
    refine mv (Iv s13) rfl rfl rfl rfl ?_
    refine Op10 (LT.fieldPl rfl fo165_2) rfl rfl rfl ?_
    refine Op11 (LT.bload1 (c := (xF encInt p.Placed)) rfl ag37 (by exact rfl)) rfl rfl rfl rfl ?_
    refine Op10 (LT.tlenRO rfl und37) rfl rfl rfl ?_
    refine Op20 (LT.lss rfl) rfl rfl rfl rfl ?_
    refine On ?_
    refine AWR.cond rfl (fun hc83 => ?_) (fun hc83 => ?_)
    ·refine AWR.skip (Ws (AWR.block (Ws (Wr ?_))))
     refine Op10 (LT.fieldPl rfl fo165_2) rfl rfl rfl ?_
     refine Op11 (LT.bload1 (c := (xF encInt p.Placed)) rfl ag37 (by exact rfl)) rfl rfl rfl rfl ?_
     refine mv (Iv s13) rfl rfl rfl rfl ?_
     refine Ob' fun x84 hx84 => ?_
     refine Op20 (LT.tindexRO (enc := encInt) rfl el37 hx84 sz3) rfl rfl rfl rfl ?_
     refine Op10 (LT.loadPx1 rfl ag3) rfl rfl rfl ?_
     refine asg (Iv x84) rfl rfl rfl rfl ?_
     refine On (Ws ?_)
     refine AWR.joinK (fun j100 => ([(1, (Iv k)), (3, (Cc (.pl 21 0))), (5, (Cc (.pl 22 0))), (7, (Iv s13)), (97, (Bv j100))], [(21, (.row 26 [[(iC g.Points), (xF encTBar g.Bars)]])), (22, (.row 165 [[(xF encInt p.Free), (xF encInt p.Tails), (xF encInt p.Placed)]]))])) ?_ (fun j100 _ => ?_)
     ·refine en [(1, (Iv k)), (3, (Cc (.pl 21 0))), (5, (Cc (.pl 22 0))), (7, (Iv s13)), (8, (Iv x84))] [(21, (.row 26 [[(iC g.Points), (xF encTBar g.Bars)]])), (22, (.row 165 [[(xF encInt p.Free), (xF encInt p.Tails), (xF encInt p.Placed)]]))] ⟨rfl, rfl, rfl, rfl, rfl, trivial⟩ ⟨rfl, rfl, trivial⟩ ?_
      refine AWR.draw mixed ?_
      refine Dp10 (LT.move (v := (Iv x84)) rfl) rfl rfl rfl ?_
      refine Dp20 (LT.lss rfl) rfl ⟨rfl, rfl⟩ rfl rfl ?_
      refine Dp10 (LT.move (v := (Bv (decide (x84 < 0)))) rfl) rfl rfl rfl ?_
      refine AOD.split (fun hb101 => ?_) (fun hb101 => ?_)
      ·refine AOD.skip ⟨_, rfl, .inl ⟨_, rfl, (by rw [hb101]; rfl)⟩⟩ rfl ?_
       refine AOD.skip ⟨_, rfl, .inl ⟨_, rfl, (by rw [hb101]; rfl)⟩⟩ rfl ?_
       refine AOD.skip ⟨_, rfl, .inl ⟨_, rfl, (by rw [hb101]; rfl)⟩⟩ rfl ?_
       refine AOD.skip ⟨_, rfl, .inl ⟨_, rfl, (by rw [hb101]; rfl)⟩⟩ rfl ?_
       refine AOD.skip ⟨_, rfl, .inl ⟨_, rfl, (by rw [hb101]; rfl)⟩⟩ rfl ?_
       refine Dp20 (LT.pickT (v := (Bv true)) rfl hb101) rfl ⟨rfl, rfl⟩ rfl rfl ?_
       refine Dp10 (LT.move (v := (Bv true)) rfl) rfl rfl rfl ?_
       refine AOD.skip ⟨_, rfl, .inl ⟨_, rfl, rfl⟩⟩ rfl ?_
       refine AOD.skip ⟨_, rfl, .inl ⟨_, rfl, rfl⟩⟩ rfl ?_
       refine AOD.skip ⟨_, rfl, .inl ⟨_, rfl, rfl⟩⟩ rfl ?_
       refine AOD.skip ⟨_, rfl, .inr ⟨rfl, rfl⟩⟩ rfl ?_
       refine AOD.skip ⟨_, rfl, .inr ⟨rfl, rfl⟩⟩ rfl ?_
       refine AOD.skip ⟨_, rfl, .inr ⟨rfl, rfl⟩⟩ rfl ?_
       refine AOD.skip ⟨_, rfl, .inr ⟨rfl, rfl⟩⟩ rfl ?_
       refine AOD.skip ⟨_, rfl, .inr ⟨rfl, rfl⟩⟩ rfl ?_
       refine AOD.skip ⟨_, rfl, .inr ⟨rfl, rfl⟩⟩ rfl ?_
       refine AOD.skip ⟨_, rfl, .inr ⟨rfl, rfl⟩⟩ rfl ?_
       refine AOD.skip ⟨_, rfl, .inr ⟨rfl, rfl⟩⟩ rfl ?_
       refine AOD.skip ⟨_, rfl, .inl ⟨_, rfl, rfl⟩⟩ rfl ?_
       refine Dp20 (LT.pickT (v := (Bv true)) rfl rfl) rfl ⟨rfl, rfl⟩ rfl rfl ?_
       refine Dp10 (LT.move (v := (Bv true)) rfl) rfl rfl rfl ?_
       refine AOD.skip ⟨_, rfl, .inl ⟨_, rfl, rfl⟩⟩ rfl ?_
       refine AOD.skip ⟨_, rfl, .inl ⟨_, rfl, rfl⟩⟩ rfl ?_
       refine AOD.skip ⟨_, rfl, .inl ⟨_, rfl, rfl⟩⟩ rfl ?_
       refine AOD.skip ⟨_, rfl, .inl ⟨_, rfl, rfl⟩⟩ rfl ?_
       refine AOD.skip ⟨_, rfl, .inl ⟨_, rfl, rfl⟩⟩ rfl ?_
       refine AOD.skip ⟨_, rfl, .inl ⟨_, rfl, rfl⟩⟩ rfl ?_
       refine AOD.skip ⟨_, rfl, .inl ⟨_, rfl, rfl⟩⟩ rfl ?_
       refine AOD.skip ⟨_, rfl, .inl ⟨_, rfl, rfl⟩⟩ rfl ?_
       refine AOD.skip ⟨_, rfl, .inl ⟨_, rfl, rfl⟩⟩ rfl ?_
       refine AOD.skip ⟨_, rfl, .inl ⟨_, rfl, rfl⟩⟩ rfl ?_
       refine AOD.skip ⟨_, rfl, .inl ⟨_, rfl, rfl⟩⟩ rfl ?_
       refine AOD.skip ⟨_, rfl, .inl ⟨_, rfl, rfl⟩⟩ rfl ?_
       refine AOD.skip ⟨_, rfl, .inl ⟨_, rfl, rfl⟩⟩ rfl ?_
       refine AOD.skip ⟨_, rfl, .inr ⟨rfl, rfl⟩⟩ rfl ?_
       refine AOD.skip ⟨_, rfl, .inr ⟨rfl, rfl⟩⟩ rfl ?_
       refine AOD.skip ⟨_, rfl, .inr ⟨rfl, rfl⟩⟩ rfl ?_
       refine AOD.skip ⟨_, rfl, .inr ⟨rfl, rfl⟩⟩ rfl ?_
       refine AOD.skip ⟨_, rfl, .inr ⟨rfl, rfl⟩⟩ rfl ?_
       refine AOD.skip ⟨_, rfl, .inr ⟨rfl, rfl⟩⟩ rfl ?_
       refine AOD.skip ⟨_, rfl, .inr ⟨rfl, rfl⟩⟩ rfl ?_
       refine AOD.skip ⟨_, rfl, .inr ⟨rfl, rfl⟩⟩ rfl ?_
       refine AOD.skip ⟨_, rfl, .inr ⟨rfl, rfl⟩⟩ rfl ?_
       refine AOD.skip ⟨_, rfl, .inr ⟨rfl, rfl⟩⟩ rfl ?_
       refine AOD.skip ⟨_, rfl, .inr ⟨rfl, rfl⟩⟩ rfl ?_
       refine AOD.skip ⟨_, rfl, .inr ⟨rfl, rfl⟩⟩ rfl ?_
       refine AOD.skip ⟨_, rfl, .inl ⟨_, rfl, rfl⟩⟩ rfl ?_
       refine Dp20 (LT.pickT (v := (Bv true)) rfl rfl) rfl ⟨rfl, rfl⟩ rfl rfl ?_
       refine AOD.nil (by kernel_rfl) ?_
       refine AWR.nil ⟨rfl, Ent.of ⟨rfl, rfl, rfl, rfl, rfl, trivial⟩ ⟨rfl, rfl, trivial⟩⟩
      ·refine Dp10 (LT.move (v := (Iv x84)) rfl) rfl ⟨_, rfl, .inl ⟨_, rfl, (by rw [hb101]; rfl)⟩⟩ rfl ?_
       refine Dp10 (LT.fieldPl rfl fo26_1) rfl ⟨_, rfl, .inl ⟨_, rfl, (by rw [hb101]; rfl)⟩⟩ rfl ?_
       refine Dp11 (LT.bload1 (c := (xF encTBar g.Bars)) rfl ag24 (by exact rfl)) rfl rfl ⟨_, rfl, .inl ⟨_, rfl, (by rw [hb101]; rfl)⟩⟩ rfl ?_
       refine Dp10 (LT.tlenRO rfl und24) rfl ⟨_, rfl, .inl ⟨_, rfl, (by rw [hb101]; rfl)⟩⟩ rfl ?_
       refine Dp20 (LT.geq rfl) rfl rfl ⟨_, rfl, .inl ⟨_, rfl, (by rw [hb101]; rfl)⟩⟩ rfl ?_
       refine Dp20 (LT.pickF (v := (Bv (decide ((g.Bars.length : Int) ≤ x84)))) rfl hb101) rfl rfl rfl rfl ?_
       refine Dp10 (LT.move (v := (Bv (decide ((g.Bars.length : Int) ≤ x84)))) rfl) rfl rfl rfl ?_
       refine AOD.split (fun hb102 => ?_) (fun hb102 => ?_)
       ·refine AOD.skip ⟨_, rfl, .inl ⟨_, rfl, (by rw [hb102]; rfl)⟩⟩ rfl ?_
        refine AOD.skip ⟨_, rfl, .inl ⟨_, rfl, (by rw [hb102]; rfl)⟩⟩ rfl ?_
        refine AOD.skip ⟨_, rfl, .inl ⟨_, rfl, (by rw [hb102]; rfl)⟩⟩ rfl ?_
        refine AOD.skip ⟨_, rfl, .inr ⟨rfl, rfl⟩⟩ rfl ?_
        refine AOD.skip ⟨_, rfl, .inr ⟨rfl, rfl⟩⟩ rfl ?_
        refine AOD.skip ⟨_, rfl, .inr ⟨rfl, rfl⟩⟩ rfl ?_
        refine AOD.skip ⟨_, rfl, .inr ⟨rfl, rfl⟩⟩ rfl ?_
        refine AOD.skip ⟨_, rfl, .inr ⟨rfl, rfl⟩⟩ rfl ?_
        refine AOD.skip ⟨_, rfl, .inr ⟨rfl, rfl⟩⟩ rfl ?_
        refine AOD.skip ⟨_, rfl, .inr ⟨rfl, rfl⟩⟩ rfl ?_
        refine AOD.skip ⟨_, rfl, .inr ⟨rfl, rfl⟩⟩ rfl ?_
        refine AOD.skip ⟨_, rfl, .inl ⟨_, rfl, (by rw [hb102]; rfl)⟩⟩ rfl ?_
        refine Dp20 (LT.pickT (v := (Bv true)) rfl hb102) rfl ⟨rfl, rfl⟩ rfl rfl ?_
        refine Dp10 (LT.move (v := (Bv true)) rfl) rfl rfl rfl ?_
        refine AOD.skip ⟨_, rfl, .inl ⟨_, rfl, rfl⟩⟩ rfl ?_
        refine AOD.skip ⟨_, rfl, .inl ⟨_, rfl, rfl⟩⟩ rfl ?_
        refine AOD.skip ⟨_, rfl, .inl ⟨_, rfl, rfl⟩⟩ rfl ?_
        refine AOD.skip ⟨_, rfl, .inl ⟨_, rfl, rfl⟩⟩ rfl ?_
        refine AOD.skip ⟨_, rfl, .inl ⟨_, rfl, rfl⟩⟩ rfl ?_
        refine AOD.skip ⟨_, rfl, .inl ⟨_, rfl, rfl⟩⟩ rfl ?_
        refine AOD.skip ⟨_, rfl, .inl ⟨_, rfl, rfl⟩⟩ rfl ?_
        refine AOD.skip ⟨_, rfl, .inl ⟨_, rfl, rfl⟩⟩ rfl ?_
        refine AOD.skip ⟨_, rfl, .inl ⟨_, rfl, rfl⟩⟩ rfl ?_
        refine AOD.skip ⟨_, rfl, .inl ⟨_, rfl, rfl⟩⟩ rfl ?_
        refine AOD.skip ⟨_, rfl, .inl ⟨_, rfl, rfl⟩⟩ rfl ?_
        refine AOD.skip ⟨_, rfl, .inl ⟨_, rfl, rfl⟩⟩ rfl ?_
        refine AOD.skip ⟨_, rfl, .inl ⟨_, rfl, rfl⟩⟩ rfl ?_
        refine AOD.skip ⟨_, rfl, .inr ⟨rfl, rfl⟩⟩ rfl ?_
        refine AOD.skip ⟨_, rfl, .inr ⟨rfl, rfl⟩⟩ rfl ?_
        refine AOD.skip ⟨_, rfl, .inr ⟨rfl, rfl⟩⟩ rfl ?_
        refine AOD.skip ⟨_, rfl, .inr ⟨rfl, rfl⟩⟩ rfl ?_
        refine AOD.skip ⟨_, rfl, .inr ⟨rfl, rfl⟩⟩ rfl ?_
        refine AOD.skip ⟨_, rfl, .inr ⟨rfl, rfl⟩⟩ rfl ?_
        refine AOD.skip ⟨_, rfl, .inr ⟨rfl, rfl⟩⟩ rfl ?_
        refine AOD.skip ⟨_, rfl, .inr ⟨rfl, rfl⟩⟩ rfl ?_
        refine AOD.skip ⟨_, rfl, .inr ⟨rfl, rfl⟩⟩ rfl ?_
        refine AOD.skip ⟨_, rfl, .inr ⟨rfl, rfl⟩⟩ rfl ?_
        refine AOD.skip ⟨_, rfl, .inr ⟨rfl, rfl⟩⟩ rfl ?_
        refine AOD.skip ⟨_, rfl, .inr ⟨rfl, rfl⟩⟩ rfl ?_
        refine AOD.skip ⟨_, rfl, .inl ⟨_, rfl, rfl⟩⟩ rfl ?_
        refine Dp20 (LT.pickT (v := (Bv true)) rfl rfl) rfl ⟨rfl, rfl⟩ rfl rfl ?_
        refine AOD.nil (by kernel_rfl) ?_
        refine AWR.nil ⟨rfl, Ent.of ⟨rfl, rfl, rfl, rfl, rfl, trivial⟩ ⟨rfl, rfl, trivial⟩⟩
       ·refine Dp10 (LT.move (v := (Iv s13)) rfl) rfl ⟨_, rfl, .inl ⟨_, rfl, (by rw [hb102]; rfl)⟩⟩ rfl ?_
        refine Dp20 (LT.gtr rfl) rfl ⟨rfl, rfl⟩ ⟨_, rfl, .inl ⟨_, rfl, (by rw [hb102]; rfl)⟩⟩ rfl ?_
        refine Dp10 (LT.move (v := (Bv (decide (0 < s13)))) rfl) rfl ⟨_, rfl, .inl ⟨_, rfl, (by rw [hb102]; rfl)⟩⟩ rfl ?_
        refine AOD.split (fun hb103 => ?_) (fun hb103 => ?_)
        ·refine Dp10 (LT.fieldPl rfl fo165_2) rfl ⟨_, rfl, .inl ⟨_, rfl, (by rw [hb103]; rfl)⟩⟩ rfl ?_
         refine Dp11 (LT.bload1 (c := (xF encInt p.Placed)) rfl ag37 (by exact rfl)) rfl rfl ⟨_, rfl, .inl ⟨_, rfl, (by rw [hb103]; rfl)⟩⟩ rfl ?_
         refine Dp10 (LT.move (v := (Iv s13)) rfl) rfl ⟨_, rfl, .inl ⟨_, rfl, (by rw [hb103]; rfl)⟩⟩ rfl ?_
         refine Dp20 (LT.sub rfl) rfl ⟨rfl, rfl⟩ ⟨_, rfl, .inl ⟨_, rfl, (by rw [hb103]; rfl)⟩⟩ rfl ?_
         refine AOD.bind fun x104 hx104 => ?_
         refine Dp20 (LT.tindexRO (enc := encInt) rfl el37 hx104 sz3) rfl rfl ⟨_, rfl, .inl ⟨_, rfl, (by rw [hb103]; rfl)⟩⟩ rfl ?_
         refine Dp10 (LT.loadPx1 rfl ag3) rfl ⟨_, rfl, .inl ⟨_, rfl, (by rw [hb103]; rfl)⟩⟩ rfl ?_
         refine Dp10 (LT.move (v := (Iv x84)) rfl) rfl ⟨_, rfl, .inl ⟨_, rfl, (by rw [hb103]; rfl)⟩⟩ rfl ?_
         refine Dp20 (LT.geq rfl) rfl rfl ⟨_, rfl, .inl ⟨_, rfl, (by rw [hb103]; rfl)⟩⟩ rfl ?_
         refine Dp20 (LT.pickT (v := (Bv (decide (x84 ≤ x104)))) rfl hb103) rfl rfl ⟨_, rfl, .inl ⟨_, rfl, (by rw [hb102]; rfl)⟩⟩ rfl ?_
         refine Dp20 (LT.pickF (v := (Bv (decide (x84 ≤ x104)))) rfl hb102) rfl rfl rfl rfl ?_
         refine Dp10 (LT.move (v := (Bv (decide (x84 ≤ x104)))) rfl) rfl rfl rfl ?_
         refine AOD.split (fun hb105 => ?_) (fun hb105 => ?_)
         ·refine AOD.skip ⟨_, rfl, .inl ⟨_, rfl, (by rw [hb105]; rfl)⟩⟩ rfl ?_
          refine AOD.skip ⟨_, rfl, .inl ⟨_, rfl, (by rw [hb105]; rfl)⟩⟩ rfl ?_
          refine AOD.skip ⟨_, rfl, .inl ⟨_, rfl, (by rw [hb105]; rfl)⟩⟩ rfl ?_
          refine AOD.skip ⟨_, rfl, .inl ⟨_, rfl, (by rw [hb105]; rfl)⟩⟩ rfl ?_
          refine AOD.skip ⟨_, rfl, .inl ⟨_, rfl, (by rw [hb105]; rfl)⟩⟩ rfl ?_
          refine AOD.skip ⟨_, rfl, .inl ⟨_, rfl, (by rw [hb105]; rfl)⟩⟩ rfl ?_
          refine AOD.skip ⟨_, rfl, .inl ⟨_, rfl, (by rw [hb105]; rfl)⟩⟩ rfl ?_
          refine AOD.skip ⟨_, rfl, .inl ⟨_, rfl, (by rw [hb105]; rfl)⟩⟩ rfl ?_
          refine AOD.skip ⟨_, rfl, .inl ⟨_, rfl, (by rw [hb105]; rfl)⟩⟩ rfl ?_
          refine AOD.skip ⟨_, rfl, .inl ⟨_, rfl, (by rw [hb105]; rfl)⟩⟩ rfl ?_
          refine AOD.skip ⟨_, rfl, .inl ⟨_, rfl, (by rw [hb105]; rfl)⟩⟩ rfl ?_
          refine AOD.skip ⟨_, rfl, .inl ⟨_, rfl, (by rw [hb105]; rfl)⟩⟩ rfl ?_
          refine AOD.skip ⟨_, rfl, .inl ⟨_, rfl, (by rw [hb105]; rfl)⟩⟩ rfl ?_
          refine AOD.skip ⟨_, rfl, .inr ⟨rfl, rfl⟩⟩ rfl ?_
          refine AOD.skip ⟨_, rfl, .inr ⟨rfl, rfl⟩⟩ rfl ?_
          refine AOD.skip ⟨_, rfl, .inr ⟨rfl, rfl⟩⟩ rfl ?_
          refine AOD.skip ⟨_, rfl, .inr ⟨rfl, rfl⟩⟩ rfl ?_
          refine AOD.skip ⟨_, rfl, .inr ⟨rfl, rfl⟩⟩ rfl ?_
          refine AOD.skip ⟨_, rfl, .inr ⟨rfl, rfl⟩⟩ rfl ?_
          refine AOD.skip ⟨_, rfl, .inr ⟨rfl, rfl⟩⟩ rfl ?_
          refine AOD.skip ⟨_, rfl, .inr ⟨rfl, rfl⟩⟩ rfl ?_
          refine AOD.skip ⟨_, rfl, .inr ⟨rfl, rfl⟩⟩ rfl ?_
          refine AOD.skip ⟨_, rfl, .inr ⟨rfl, rfl⟩⟩ rfl ?_
          refine AOD.skip ⟨_, rfl, .inr ⟨rfl, rfl⟩⟩ rfl ?_
          refine AOD.skip ⟨_, rfl, .inr ⟨rfl, rfl⟩⟩ rfl ?_
          refine AOD.skip ⟨_, rfl, .inl ⟨_, rfl, (by rw [hb105]; rfl)⟩⟩ rfl ?_
          refine Dp20 (LT.pickT (v := (Bv true)) rfl hb105) rfl ⟨rfl, rfl⟩ rfl rfl ?_
          refine AOD.nil (by kernel_rfl) ?_
          refine AWR.nil ⟨rfl, Ent.of ⟨rfl, rfl, rfl, rfl, rfl, trivial⟩ ⟨rfl, rfl, trivial⟩⟩
         ·refine Dp10 (LT.fieldPl rfl fo165_1) rfl ⟨_, rfl, .inl ⟨_, rfl, (by rw [hb105]; rfl)⟩⟩ rfl ?_
          refine Dp11 (LT.bload1 (c := (xF encInt p.Tails)) rfl ag37 (by exact rfl)) rfl rfl ⟨_, rfl, .inl ⟨_, rfl, (by rw [hb105]; rfl)⟩⟩ rfl ?_
          refine Dp10 (LT.move (v := (Iv s13)) rfl) rfl ⟨_, rfl, .inl ⟨_, rfl, (by rw [hb105]; rfl)⟩⟩ rfl ?_
          refine AOD.bind fun x106 hx106 => ?_
          refine Dp20 (LT.tindexRO (enc := encInt) rfl el37 hx106 sz3) rfl rfl ⟨_, rfl, .inl ⟨_, rfl, (by rw [hb105]; rfl)⟩⟩ rfl ?_
          refine Dp10 (LT.loadPx1 rfl ag3) rfl ⟨_, rfl, .inl ⟨_, rfl, (by rw [hb105]; rfl)⟩⟩ rfl ?_
          refine Dp10 (LT.fieldPl rfl fo26_1) rfl ⟨_, rfl, .inl ⟨_, rfl, (by rw [hb105]; rfl)⟩⟩ rfl ?_
          refine Dp11 (LT.bload1 (c := (xF encTBar g.Bars)) rfl ag24 (by exact rfl)) rfl rfl ⟨_, rfl, .inl ⟨_, rfl, (by rw [hb105]; rfl)⟩⟩ rfl ?_
          refine Dp10 (LT.move (v := (Iv x84)) rfl) rfl ⟨_, rfl, .inl ⟨_, rfl, (by rw [hb105]; rfl)⟩⟩ rfl ?_
          refine AOD.bind fun x107 hx107 => ?_
          refine Dp20 (LT.tindexRO (enc := encTBar) rfl el24 hx107 sz62) rfl rfl ⟨_, rfl, .inl ⟨_, rfl, (by rw [hb105]; rfl)⟩⟩ rfl ?_
          refine Dp10 (LT.fieldPx rfl fo62_0) rfl ⟨_, rfl, .inl ⟨_, rfl, (by rw [hb105]; rfl)⟩⟩ rfl ?_
          refine Dp10 (LT.loadPx1 rfl ag3) rfl ⟨_, rfl, .inl ⟨_, rfl, (by rw [hb105]; rfl)⟩⟩ rfl ?_
          refine Dp20 (LT.neq rfl) rfl rfl ⟨_, rfl, .inl ⟨_, rfl, (by rw [hb105]; rfl)⟩⟩ rfl ?_
          refine Dp10 (LT.move (v := (Bv (x106 != x107.A))) rfl) rfl ⟨_, rfl, .inl ⟨_, rfl, (by rw [hb105]; rfl)⟩⟩ rfl ?_
          refine AOD.split (fun hb108 => ?_) (fun hb108 => ?_)
          ·refine Dp10 (LT.fieldPl rfl fo165_1) rfl ⟨_, rfl, .inl ⟨_, rfl, (by rw [hb108]; rfl)⟩⟩ rfl ?_
           refine Dp11 (LT.bload1 (c := (xF encInt p.Tails)) rfl ag37 (by exact rfl)) rfl rfl ⟨_, rfl, .inl ⟨_, rfl, (by rw [hb108]; rfl)⟩⟩ rfl ?_
           refine Dp10 (LT.move (v := (Iv s13)) rfl) rfl ⟨_, rfl, .inl ⟨_, rfl, (by rw [hb108]; rfl)⟩⟩ rfl ?_
           refine AOD.bind fun x109 hx109 => ?_
           refine Dp20 (LT.tindexRO (enc := encInt) rfl el37 hx109 sz3) rfl rfl ⟨_, rfl, .inl ⟨_, rfl, (by rw [hb108]; rfl)⟩⟩ rfl ?_
           refine Dp10 (LT.loadPx1 rfl ag3) rfl ⟨_, rfl, .inl ⟨_, rfl, (by rw [hb108]; rfl)⟩⟩ rfl ?_
           refine Dp10 (LT.fieldPl rfl fo26_1) rfl ⟨_, rfl, .inl ⟨_, rfl, (by rw [hb108]; rfl)⟩⟩ rfl ?_
           refine Dp11 (LT.bload1 (c := (xF encTBar g.Bars)) rfl ag24 (by exact rfl)) rfl rfl ⟨_, rfl, .inl ⟨_, rfl, (by rw [hb108]; rfl)⟩⟩ rfl ?_
           refine Dp10 (LT.move (v := (Iv x84)) rfl) rfl ⟨_, rfl, .inl ⟨_, rfl, (by rw [hb108]; rfl)⟩⟩ rfl ?_
           refine AOD.bind fun x110 hx110 => ?_
           refine Dp20 (LT.tindexRO (enc := encTBar) rfl el24 hx110 sz62) rfl rfl ⟨_, rfl, .inl ⟨_, rfl, (by rw [hb108]; rfl)⟩⟩ rfl ?_
           refine Dp10 (LT.fieldPx rfl fo62_1) rfl ⟨_, rfl, .inl ⟨_, rfl, (by rw [hb108]; rfl)⟩⟩ rfl ?_
           refine Dp10 (LT.loadPx1 rfl ag3) rfl ⟨_, rfl, .inl ⟨_, rfl, (by rw [hb108]; rfl)⟩⟩ rfl ?_
           refine Dp20 (LT.neq rfl) rfl rfl ⟨_, rfl, .inl ⟨_, rfl, (by rw [hb108]; rfl)⟩⟩ rfl ?_
           refine Dp20 (LT.pickT (v := (Bv (x109 != x110.B))) rfl hb108) rfl rfl ⟨_, rfl, .inl ⟨_, rfl, (by rw [hb105]; rfl)⟩⟩ rfl ?_
           refine Dp20 (LT.pickF (v := (Bv (x109 != x110.B))) rfl hb105) rfl rfl rfl rfl ?_
           refine AOD.nil (by kernel_rfl) ?_
           refine AWR.nil ⟨rfl, Ent.of ⟨rfl, rfl, rfl, rfl, rfl, trivial⟩ ⟨rfl, rfl, trivial⟩⟩
          ·refine AOD.skip ⟨_, rfl, .inl ⟨_, rfl, (by rw [hb108]; rfl)⟩⟩ rfl ?_
           refine AOD.skip ⟨_, rfl, .inl ⟨_, rfl, (by rw [hb108]; rfl)⟩⟩ rfl ?_
           refine AOD.skip ⟨_, rfl, .inl ⟨_, rfl, (by rw [hb108]; rfl)⟩⟩ rfl ?_
           refine AOD.skip ⟨_, rfl, .inl ⟨_, rfl, (by rw [hb108]; rfl)⟩⟩ rfl ?_
           refine AOD.skip ⟨_, rfl, .inl ⟨_, rfl, (by rw [hb108]; rfl)⟩⟩ rfl ?_
           refine AOD.skip ⟨_, rfl, .inl ⟨_, rfl, (by rw [hb108]; rfl)⟩⟩ rfl ?_
           refine AOD.skip ⟨_, rfl, .inl ⟨_, rfl, (by rw [hb108]; rfl)⟩⟩ rfl ?_
           refine AOD.skip ⟨_, rfl, .inl ⟨_, rfl, (by rw [hb108]; rfl)⟩⟩ rfl ?_
           refine AOD.skip ⟨_, rfl, .inl ⟨_, rfl, (by rw [hb108]; rfl)⟩⟩ rfl ?_
           refine AOD.skip ⟨_, rfl, .inl ⟨_, rfl, (by rw [hb108]; rfl)⟩⟩ rfl ?_
           refine AOD.skip ⟨_, rfl, .inl ⟨_, rfl, (by rw [hb108]; rfl)⟩⟩ rfl ?_
           refine AOD.skip ⟨_, rfl, .inl ⟨_, rfl, (by rw [hb108]; rfl)⟩⟩ rfl ?_
           refine Dp20 (LT.pickF (v := (Bv false)) rfl hb108) rfl ⟨rfl, rfl⟩ ⟨_, rfl, .inl ⟨_, rfl, (by rw [hb105]; rfl)⟩⟩ rfl ?_
           refine Dp20 (LT.pickF (v := (Bv false)) rfl hb105) rfl rfl rfl rfl ?_
           refine AOD.nil (by kernel_rfl) ?_
           refine AWR.nil ⟨rfl, Ent.of ⟨rfl, rfl, rfl, rfl, rfl, trivial⟩ ⟨rfl, rfl, trivial⟩⟩
        ·refine AOD.skip ⟨_, rfl, .inl ⟨_, rfl, (by rw [hb103]; rfl)⟩⟩ rfl ?_
         refine AOD.skip ⟨_, rfl, .inl ⟨_, rfl, (by rw [hb103]; rfl)⟩⟩ rfl ?_
         refine AOD.skip ⟨_, rfl, .inl ⟨_, rfl, (by rw [hb103]; rfl)⟩⟩ rfl ?_
         refine AOD.skip ⟨_, rfl, .inl ⟨_, rfl, (by rw [hb103]; rfl)⟩⟩ rfl ?_
         refine AOD.skip ⟨_, rfl, .inl ⟨_, rfl, (by rw [hb103]; rfl)⟩⟩ rfl ?_
         refine AOD.skip ⟨_, rfl, .inl ⟨_, rfl, (by rw [hb103]; rfl)⟩⟩ rfl ?_
         refine AOD.skip ⟨_, rfl, .inl ⟨_, rfl, (by rw [hb103]; rfl)⟩⟩ rfl ?_
         refine AOD.skip ⟨_, rfl, .inl ⟨_, rfl, (by rw [hb103]; rfl)⟩⟩ rfl ?_
         refine Dp20 (LT.pickF (v := (Bv false)) rfl hb103) rfl ⟨rfl, rfl⟩ ⟨_, rfl, .inl ⟨_, rfl, (by rw [hb102]; rfl)⟩⟩ rfl ?_
         refine Dp20 (LT.pickF (v := (Bv false)) rfl hb102) rfl rfl rfl rfl ?_
         refine Dp10 (LT.move (v := (Bv false)) rfl) rfl rfl rfl ?_
         refine Dp10 (LT.fieldPl rfl fo165_1) rfl ⟨_, rfl, .inl ⟨_, rfl, rfl⟩⟩ rfl ?_
         refine Dp11 (LT.bload1 (c := (xF encInt p.Tails)) rfl ag37 (by exact rfl)) rfl rfl ⟨_, rfl, .inl ⟨_, rfl, rfl⟩⟩ rfl ?_
         refine Dp10 (LT.move (v := (Iv s13)) rfl) rfl ⟨_, rfl, .inl ⟨_, rfl, rfl⟩⟩ rfl ?_
         refine AOD.bind fun x111 hx111 => ?_
         refine Dp20 (LT.tindexRO (enc := encInt) rfl el37 hx111 sz3) rfl rfl ⟨_, rfl, .inl ⟨_, rfl, rfl⟩⟩ rfl ?_
         refine Dp10 (LT.loadPx1 rfl ag3) rfl ⟨_, rfl, .inl ⟨_, rfl, rfl⟩⟩ rfl ?_
         refine Dp10 (LT.fieldPl rfl fo26_1) rfl ⟨_, rfl, .inl ⟨_, rfl, rfl⟩⟩ rfl ?_
         refine Dp11 (LT.bload1 (c := (xF encTBar g.Bars)) rfl ag24 (by exact rfl)) rfl rfl ⟨_, rfl, .inl ⟨_, rfl, rfl⟩⟩ rfl ?_
         refine Dp10 (LT.move (v := (Iv x84)) rfl) rfl ⟨_, rfl, .inl ⟨_, rfl, rfl⟩⟩ rfl ?_
         refine AOD.bind fun x112 hx112 => ?_
         refine Dp20 (LT.tindexRO (enc := encTBar) rfl el24 hx112 sz62) rfl rfl ⟨_, rfl, .inl ⟨_, rfl, rfl⟩⟩ rfl ?_
         refine Dp10 (LT.fieldPx rfl fo62_0) rfl ⟨_, rfl, .inl ⟨_, rfl, rfl⟩⟩ rfl ?_
         refine Dp10 (LT.loadPx1 rfl ag3) rfl ⟨_, rfl, .inl ⟨_, rfl, rfl⟩⟩ rfl ?_
         refine Dp20 (LT.neq rfl) rfl rfl ⟨_, rfl, .inl ⟨_, rfl, rfl⟩⟩ rfl ?_
         refine Dp10 (LT.move (v := (Bv (x111 != x112.A))) rfl) rfl ⟨_, rfl, .inl ⟨_, rfl, rfl⟩⟩ rfl ?_
         refine AOD.split (fun hb113 => ?_) (fun hb113 => ?_)
         ·refine Dp10 (LT.fieldPl rfl fo165_1) rfl ⟨_, rfl, .inl ⟨_, rfl, (by rw [hb113]; rfl)⟩⟩ rfl ?_
          refine Dp11 (LT.bload1 (c := (xF encInt p.Tails)) rfl ag37 (by exact rfl)) rfl rfl ⟨_, rfl, .inl ⟨_, rfl, (by rw [hb113]; rfl)⟩⟩ rfl ?_
          refine Dp10 (LT.move (v := (Iv s13)) rfl) rfl ⟨_, rfl, .inl ⟨_, rfl, (by rw [hb113]; rfl)⟩⟩ rfl ?_
          refine AOD.bind fun x114 hx114 => ?_
          refine Dp20 (LT.tindexRO (enc := encInt) rfl el37 hx114 sz3) rfl rfl ⟨_, rfl, .inl ⟨_, rfl, (by rw [hb113]; rfl)⟩⟩ rfl ?_
          refine Dp10 (LT.loadPx1 rfl ag3) rfl ⟨_, rfl, .inl ⟨_, rfl, (by rw [hb113]; rfl)⟩⟩ rfl ?_
          refine Dp10 (LT.fieldPl rfl fo26_1) rfl ⟨_, rfl, .inl ⟨_, rfl, (by rw [hb113]; rfl)⟩⟩ rfl ?_
          refine Dp11 (LT.bload1 (c := (xF encTBar g.Bars)) rfl ag24 (by exact rfl)) rfl rfl ⟨_, rfl, .inl ⟨_, rfl, (by rw [hb113]; rfl)⟩⟩ rfl ?_
          refine Dp10 (LT.move (v := (Iv x84)) rfl) rfl ⟨_, rfl, .inl ⟨_, rfl, (by rw [hb113]; rfl)⟩⟩ rfl ?_
          refine AOD.bind fun x115 hx115 => ?_
          refine Dp20 (LT.tindexRO (enc := encTBar) rfl el24 hx115 sz62) rfl rfl ⟨_, rfl, .inl ⟨_, rfl, (by rw [hb113]; rfl)⟩⟩ rfl ?_
          refine Dp10 (LT.fieldPx rfl fo62_1) rfl ⟨_, rfl, .inl ⟨_, rfl, (by rw [hb113]; rfl)⟩⟩ rfl ?_
          refine Dp10 (LT.loadPx1 rfl ag3) rfl ⟨_, rfl, .inl ⟨_, rfl, (by rw [hb113]; rfl)⟩⟩ rfl ?_
          refine Dp20 (LT.neq rfl) rfl rfl ⟨_, rfl, .inl ⟨_, rfl, (by rw [hb113]; rfl)⟩⟩ rfl ?_
          refine Dp20 (LT.pickT (v := (Bv (x114 != x115.B))) rfl hb113) rfl rfl ⟨_, rfl, .inl ⟨_, rfl, rfl⟩⟩ rfl ?_
          refine Dp20 (LT.pickF (v := (Bv (x114 != x115.B))) rfl rfl) rfl rfl rfl rfl ?_
          refine AOD.nil (by kernel_rfl) ?_
          refine AWR.nil ⟨rfl, Ent.of ⟨rfl, rfl, rfl, rfl, rfl, trivial⟩ ⟨rfl, rfl, trivial⟩⟩
         ·refine AOD.skip ⟨_, rfl, .inl ⟨_, rfl, (by rw [hb113]; rfl)⟩⟩ rfl ?_
          refine AOD.skip ⟨_, rfl, .inl ⟨_, rfl, (by rw [hb113]; rfl)⟩⟩ rfl ?_
          refine AOD.skip ⟨_, rfl, .inl ⟨_, rfl, (by rw [hb113]; rfl)⟩⟩ rfl ?_
          refine AOD.skip ⟨_, rfl, .inl ⟨_, rfl, (by rw [hb113]; rfl)⟩⟩ rfl ?_
          refine AOD.skip ⟨_, rfl, .inl ⟨_, rfl, (by rw [hb113]; rfl)⟩⟩ rfl ?_
          refine AOD.skip ⟨_, rfl, .inl ⟨_, rfl, (by rw [hb113]; rfl)⟩⟩ rfl ?_
          refine AOD.skip ⟨_, rfl, .inl ⟨_, rfl, (by rw [hb113]; rfl)⟩⟩ rfl ?_
          refine AOD.skip ⟨_, rfl, .inl ⟨_, rfl, (by rw [hb113]; rfl)⟩⟩ rfl ?_
          refine AOD.skip ⟨_, rfl, .inl ⟨_, rfl, (by rw [hb113]; rfl)⟩⟩ rfl ?_
          refine AOD.skip ⟨_, rfl, .inl ⟨_, rfl, (by rw [hb113]; rfl)⟩⟩ rfl ?_
          refine AOD.skip ⟨_, rfl, .inl ⟨_, rfl, (by rw [hb113]; rfl)⟩⟩ rfl ?_
          refine AOD.skip ⟨_, rfl, .inl ⟨_, rfl, (by rw [hb113]; rfl)⟩⟩ rfl ?_
          refine Dp20 (LT.pickF (v := (Bv false)) rfl hb113) rfl ⟨rfl, rfl⟩ ⟨_, rfl, .inl ⟨_, rfl, rfl⟩⟩ rfl ?_
          refine Dp20 (LT.pickF (v := (Bv false)) rfl rfl) rfl rfl rfl rfl ?_
          refine AOD.nil (by kernel_rfl) ?_
          refine AWR.nil ⟨rfl, Ent.of ⟨rfl, rfl, rfl, rfl, rfl, trivial⟩ ⟨rfl, rfl, trivial⟩⟩
     ·refine AWR.cond rfl (fun hc116 => ?_) (fun hc116 => ?_)
      ·refine Ws (Wr ?_)
       refine asg (Bv false) rfl ⟨rfl, rfl⟩ rfl rfl ?_
       refine On ?_
       refine AWR.ret ⟨rfl, FPost.mk (.inr rfl) ⟨rfl, trivial⟩ trivial rfl ⟨PermP.sc, trivial⟩ trivial⟩
      ·refine AWR.skip (AWR.blk (Wr ?_))
       refine mv (Iv s13) rfl rfl rfl rfl ?_
       refine Op20 (LT.add rfl) rfl ⟨rfl, rfl⟩ rfl rfl ?_
       refine asg (Iv (w64 (s13 + 1))) rfl rfl rfl rfl ?_
       refine On ?_
       refine AWR.nil ⟨rfl, Ent.of ⟨rfl, rfl, rfl, rfl, trivial⟩ ⟨rfl, rfl, trivial⟩⟩
    ·refine AWR.exit_end rfl ⟨rfl, Ent.of ⟨rfl, rfl, rfl, trivial⟩ ⟨rfl, rfl, trivial⟩⟩
   ·refine Ws (Ws (Wr ?_))
    refine asg (Iv 0) rfl ⟨rfl, rfl⟩ rfl rfl ?_
    refine On (AWR.block ?_)
    refine AWR.loopR (id := 2) (m_spec_IsPebbles_L2 g k p) (fun s117 => ([(1, (Iv k)), (3, (Cc (.pl 21 0))), (5, (Cc (.pl 22 0))), (9, (Iv s117))], [(21, (.row 26 [[(iC g.Points), (xF encTBar g.Bars)]])), (22, (.row 165 [[(xF encInt p.Free), (xF encInt p.Tails), (xF encInt p.Placed)]]))])) (fun b140 => ([], [])) (FPost Try.prog Try.f252.results.toList [] [] (fun (t : Bool) => [(.c (bC t))]) (fun (t : Bool) => [])) ?_ (Ent.of ⟨rfl, rfl, rfl, rfl, trivial⟩ ⟨rfl, rfl, trivial⟩) rfl (fun b140 _ => ?_) (by intro r t σ m ht hk; injection ht with ht; subst ht; exact hk)
    ·intro s117
     unfold m_spec_IsPebbles_L2
     refine Ws (Ws (Wr ?_))
     refine mv (Iv s117) rfl rfl rfl rfl ?_
     refine Op10 (LT.fieldPl rfl fo26_0) rfl rfl rfl ?_
     refine Op11 (LT.bload1 (c := (iC g.Points)) rfl ag3 (by exact rfl)) rfl rfl rfl rfl ?_
     refine Op20 (LT.lss rfl) rfl rfl rfl rfl ?_
     refine On ?_
     refine AWR.cond rfl (fun hc141 => ?_) (fun hc141 => ?_)
     ·refine AWR.skip (Ws (AWR.block (Ws ?_)))
      refine AWR.joinK (fun j146 => ([(1, (Iv k)), (3, (Cc (.pl 21 0))), (5, (Cc (.pl 22 0))), (9, (Iv s117)), (122, (Bv j146))], [(21, (.row 26 [[(iC g.Points), (xF encTBar g.Bars)]])), (22, (.row 165 [[(xF encInt p.Free), (xF encInt p.Tails), (xF encInt p.Placed)]]))])) ?_ (fun j146 _ => ?_)
      ·refine AWR.draw mixed ?_
       refine Dp10 (LT.fieldPl rfl fo165_0) rfl rfl rfl ?_
       refine Dp11 (LT.bload1 (c := (xF encInt p.Free)) rfl ag37 (by exact rfl)) rfl rfl rfl rfl ?_
       refine Dp10 (LT.move (v := (Iv s117)) rfl) rfl rfl rfl ?_
       refine AOD.bind fun x147 hx147 => ?_
       refine Dp20 (LT.tindexRO (enc := encInt) rfl el37 hx147 sz3) rfl rfl rfl rfl ?_
       refine Dp10 (LT.loadPx1 rfl ag3) rfl rfl rfl ?_
       refine Dp20 (LT.lss rfl) rfl ⟨rfl, rfl⟩ rfl rfl ?_
       refine Dp10 (LT.move (v := (Bv (decide (x147 < 0)))) rfl) rfl rfl rfl ?_
       refine AOD.split (fun hb148 => ?_) (fun hb148 => ?_)
       ·refine AOD.skip ⟨_, rfl, .inl ⟨_, rfl, (by rw [hb148]; rfl)⟩⟩ rfl ?_
        refine AOD.skip ⟨_, rfl, .inl ⟨_, rfl, (by rw [hb148]; rfl)⟩⟩ rfl ?_
        refine AOD.skip ⟨_, rfl, .inl ⟨_, rfl, (by rw [hb148]; rfl)⟩⟩ rfl ?_
        refine AOD.skip ⟨_, rfl, .inl ⟨_, rfl, (by rw [hb148]; rfl)⟩⟩ rfl ?_
        refine AOD.skip ⟨_, rfl, .inl ⟨_, rfl, (by rw [hb148]; rfl)⟩⟩ rfl ?_
        refine AOD.skip ⟨_, rfl, .inl ⟨_, rfl, (by rw [hb148]; rfl)⟩⟩ rfl ?_
        refine AOD.skip ⟨_, rfl, .inl ⟨_, rfl, (by rw [hb148]; rfl)⟩⟩ rfl ?_
        refine AOD.skip ⟨_, rfl, .inl ⟨_, rfl, (by rw [hb148]; rfl)⟩⟩ rfl ?_
        refine AOD.skip ⟨_, rfl, .inl ⟨_, rfl, (by rw [hb148]; rfl)⟩⟩ rfl ?_
        refine AOD.skip ⟨_, rfl, .inl ⟨_, rfl, (by rw [hb148]; rfl)⟩⟩ rfl ?_
        refine AOD.skip ⟨_, rfl, .inl ⟨_, rfl, (by rw [hb148]; rfl)⟩⟩ rfl ?_
        refine Dp20 (LT.pickT (v := (Bv true)) rfl hb148) rfl ⟨rfl, rfl⟩ rfl rfl ?_
        refine AOD.nil (by kernel_rfl) ?_
        refine AWR.nil ⟨rfl, Ent.of ⟨rfl, rfl, rfl, rfl, rfl, trivial⟩ ⟨rfl, rfl, trivial⟩⟩
       ·refine Dp10 (LT.fieldPl rfl fo165_0) rfl ⟨_, rfl, .inl ⟨_, rfl, (by rw [hb148]; rfl)⟩⟩ rfl ?_
        refine Dp11 (LT.bload1 (c := (xF encInt p.Free)) rfl ag37 (by exact rfl)) rfl rfl ⟨_, rfl, .inl ⟨_, rfl, (by rw [hb148]; rfl)⟩⟩ rfl ?_
        refine Dp10 (LT.move (v := (Iv s117)) rfl) rfl ⟨_, rfl, .inl ⟨_, rfl, (by rw [hb148]; rfl)⟩⟩ rfl ?_
        refine AOD.bind fun x149 hx149 => ?_
        refine Dp20 (LT.tindexRO (enc := encInt) rfl el37 hx149 sz3) rfl rfl ⟨_, rfl, .inl ⟨_, rfl, (by rw [hb148]; rfl)⟩⟩ rfl ?_
        refine Dp10 (LT.loadPx1 rfl ag3) rfl ⟨_, rfl, .inl ⟨_, rfl, (by rw [hb148]; rfl)⟩⟩ rfl ?_
        refine Dp11 (LT.bloadN (out := [(xF encInt p.Free), (xF encInt p.Tails), (xF encInt p.Placed)]) rfl ag165 (infS inf165) sz165 (by exact rfl) (by exact rfl)) rfl rfl ⟨_, rfl, .inl ⟨_, rfl, (by rw [hb148]; rfl)⟩⟩ rfl ?_
        refine Dp10 (LT.move (v := (Iv s117)) rfl) rfl ⟨_, rfl, .inl ⟨_, rfl, (by rw [hb148]; rfl)⟩⟩ rfl ?_
        refine AOD.bind fun r150 hr150 => ?_
        refine AOD.pure (@LT.callF Try.prog _ _ 256 _ _ [(.agg [(xF encInt p.Free), (xF encInt p.Tails), (xF encInt p.Placed)]), (.c (iC s117))] _ _ [] _ _ _ _ (w_spec_l4Tail p s117 r150 hr150) rfl cb256 (.cons (.agg (.cons (.same rfl) (.cons (.same rfl) (.cons (.same rfl) .nil)))) (.cons (.c (.same rfl)) .nil)) rfl rfl trivial) ⟨rfl, rfl, rfl, trivial⟩ trivial ⟨_, rfl, .inl ⟨_, rfl, (by rw [hb148]; rfl)⟩⟩ rfl ?_
        refine Dp20 (LT.add rfl) rfl rfl ⟨_, rfl, .inl ⟨_, rfl, (by rw [hb148]; rfl)⟩⟩ rfl ?_
        refine Dp10 (LT.move (v := (Iv k)) rfl) rfl ⟨_, rfl, .inl ⟨_, rfl, (by rw [hb148]; rfl)⟩⟩ rfl ?_
        refine Dp20 (LT.neq rfl) rfl rfl ⟨_, rfl, .inl ⟨_, rfl, (by rw [hb148]; rfl)⟩⟩ rfl ?_
        refine Dp20 (LT.pickF (v := (Bv ((w64 (x149 + r150)) != k))) rfl hb148) rfl rfl rfl rfl ?_
        refine AOD.nil (by kernel_rfl) ?_
        refine AWR.nil ⟨rfl, Ent.of ⟨rfl, rfl, rfl, rfl, rfl, trivial⟩ ⟨rfl, rfl, trivial⟩⟩
      ·refine AWR.cond rfl (fun hc151 => ?_) (fun hc151 => ?_)
       ·refine Ws (Wr ?_)
        refine asg (Bv false) rfl ⟨rfl, rfl⟩ rfl rfl ?_
        refine On ?_
        refine AWR.ret ⟨rfl, FPost.mk (.inr rfl) ⟨rfl, trivial⟩ trivial rfl ⟨PermP.sc, trivial⟩ trivial⟩
       ·refine AWR.skip (AWR.blk (Wr ?_))
        refine mv (Iv s117) rfl rfl rfl rfl ?_
        refine Op20 (LT.add rfl) rfl ⟨rfl, rfl⟩ rfl rfl ?_
        refine asg (Iv (w64 (s117 + 1))) rfl rfl rfl rfl ?_
        refine On ?_
        refine AWR.nil ⟨rfl, Ent.of ⟨rfl, rfl, rfl, rfl, trivial⟩ ⟨rfl, rfl, trivial⟩⟩
     ·refine AWR.exit_end rfl ⟨rfl, Ent.of trivial trivial⟩
    ·refine Ws (Wr ?_)
     refine asg (Bv true) rfl ⟨rfl, rfl⟩ rfl rfl ?_
     refine On ?_
     refine AWR.ret (FPost.mk (.inr rfl) ⟨rfl, trivial⟩ trivial rfl ⟨PermP.sc, trivial⟩ trivial)
theorem w_spec_l4Copy (p : TPebbles) : ∀ t, m_spec_l4Copy p = some t → Fw.Fn Try.prog 253 [(.agg [(xF encInt p.Free), (xF encInt p.Tails), (xF encInt p.Placed)])] [] (.s (.agg [(lo 0 t.Free.length), (lo 1 t.Tails.length), (lo 2 t.Placed.length)])) [(0, (pR 3 encInt t.Free)), (1, (pR 3 encInt t.Tails)), (2, (pR 3 encInt t.Placed))] [] [0, 1, 2] := by
 refine Fw.Fn.of (P := Try.prog) (X := [0, 1, 2]) (pn := []) (rs := (fun (t : TPebbles) => [(.agg [(lo 0 t.Free.length), (lo 1 t.Tails.length), (lo 2 t.Placed.length)])])) (dfs := (fun (t : TPebbles) => [(0, (pR 3 encInt t.Free)), (1, (pR 3 encInt t.Tails)), (2, (pR 3 encInt t.Placed))])) Try.func253 rfl Try.ntmps253 (Nat.le_of_ble_eq_true rfl) rfl ?_
 intro w0 U0 R0 g0
 unfold m_spec_l4Copy
 refine Ws (Wr ?_)
 refine Os10 (LT.box (n := 21) (v := (.agg [(xF encInt p.Free), (xF encInt p.Tails), (xF encInt p.Placed)])) rfl sz165 (by exact rfl)) rfl rfl rfl ?_
 refine Os00 (LT.alloc (n := 22) (cells := [(sC nilV), (sC nilV), (sC nilV)]) rfl ti165 rfl rfl rfl) rfl rfl ?_
 refine On (Ws (AWR.draw mixed ?_))
 refine Ds00 (LT.tbuildSlice (n := 23) (enc := encInt) [] ([] : List Int) rfl rfl und37 ti3 rfl rfl rfl rfl (by decide) (fun _ => rfl) rfl) rfl rfl ?_
 refine Dp10 (LT.fieldPl rfl fo165_0) rfl rfl rfl ?_
 refine Dp11 (LT.bload1 (c := (xF encInt p.Free)) rfl ag37 (by exact rfl)) rfl rfl rfl rfl ?_
 refine AOD.bind fun u1 hu1 => ?_
 refine Ds21 (LT.tappRO (enc := encInt) rfl  rfl und37 ti3 rfl (by decide) (by decide) (fun _ => rfl) (lim_le hu1)) rfl rfl rfl rfl rfl ?_
 refine Ds00 (LT.tbuildSlice (n := 24) (enc := encInt) [] ([] : List Int) rfl rfl und37 ti3 rfl rfl rfl rfl (by decide) (fun _ => rfl) rfl) rfl rfl ?_
 refine Dp10 (LT.fieldPl rfl fo165_1) rfl rfl rfl ?_
 refine Dp11 (LT.bload1 (c := (xF encInt p.Tails)) rfl ag37 (by exact rfl)) rfl rfl rfl rfl ?_
 refine AOD.bind fun u2 hu2 => ?_
 refine Ds21 (LT.tappRO (enc := encInt) rfl  rfl und37 ti3 rfl (by decide) (by decide) (fun _ => rfl) (lim_le hu2)) rfl rfl rfl rfl rfl ?_
 refine Ds00 (LT.tbuildSlice (n := 25) (enc := encInt) [] ([] : List Int) rfl rfl und37 ti3 rfl rfl rfl rfl (by decide) (fun _ => rfl) rfl) rfl rfl ?_
 refine Dp10 (LT.fieldPl rfl fo165_2) rfl rfl rfl ?_
 refine Dp11 (LT.bload1 (c := (xF encInt p.Placed)) rfl ag37 (by exact rfl)) rfl rfl rfl rfl ?_
 refine AOD.bind fun u3 hu3 => ?_
 refine Ds21 (LT.tappRO (enc := encInt) rfl  rfl und37 ti3 rfl (by decide) (by decide) (fun _ => rfl) (lim_le hu3)) rfl rfl rfl rfl rfl ?_
 refine Dp30 (LT.build [(0, .tmp 6, (.c (lo 23 ((([] : List Int) ++ p.Free).length)))), (1, .tmp 10, (.c (lo 24 ((([] : List Int) ++ p.Tails).length)))), (2, .tmp 14, (.c (lo 25 ((([] : List Int) ++ p.Placed).length))))] rfl rfl pl165 ti165 rfl rfl rfl) rfl rfl rfl rfl rfl ?_
 refine Ds21 (LT.bstore (v := (.agg [(lo 23 ((([] : List Int) ++ p.Free).length)), (lo 24 ((([] : List Int) ++ p.Tails).length)), (lo 25 ((([] : List Int) ++ p.Placed).length))])) (out := [(lo 23 ((([] : List Int) ++ p.Free).length)), (lo 24 ((([] : List Int) ++ p.Tails).length)), (lo 25 ((([] : List Int) ++ p.Placed).length))]) rfl rfl (infS inf165) sz165 (by exact rfl) (by exact Nat.le_of_ble_eq_true rfl) (by exact rfl)) rfl rfl rfl rfl rfl ?_
 refine AOD.nil (by kernel_rfl) ?_
 refine en [(2, (Cc (.pl 22 0)))] [(22, (.row 165 [[(lo 23 ((([] : List Int) ++ p.Free).length)), (lo 24 ((([] : List Int) ++ p.Tails).length)), (lo 25 ((([] : List Int) ++ p.Placed).length))]])), (23, (pR 3 encInt (([] : List Int) ++ p.Free))), (24, (pR 3 encInt (([] : List Int) ++ p.Tails))), (25, (pR 3 encInt (([] : List Int) ++ p.Placed)))] ⟨rfl, trivial⟩ ⟨rfl, rfl, rfl, rfl, trivial⟩ ?_
 refine AWR.ent (Ent.mv 23 0 rfl rfl) ?_
 refine AWR.ent (Ent.mv 24 1 rfl rfl) ?_
 refine AWR.ent (Ent.mv 25 2 rfl rfl) ?_
 refine en [(2, (Cc (.pl 22 0)))] [(0, (pR 3 encInt (([] : List Int) ++ p.Free))), (1, (pR 3 encInt (([] : List Int) ++ p.Tails))), (2, (pR 3 encInt (([] : List Int) ++ p.Placed))), (22, (.row 165 [[(lo 0 ((([] : List Int) ++ p.Free).length)), (lo 1 ((([] : List Int) ++ p.Tails).length)), (lo 2 ((([] : List Int) ++ p.Placed).length))]]))] ⟨rfl, trivial⟩ ⟨rfl, rfl, rfl, rfl, trivial⟩ ?_
 refine AWR.ret (FPost.mk (.inr rfl) ⟨⟨_, _, _, rfl, rfl, rfl, ag165, sz165, _, (infS inf165)⟩, trivial⟩ ⟨rfl, rfl, rfl, trivial⟩ rfl ⟨⟨trivial, trivial, trivial, trivial⟩, trivial⟩ ⟨PermO.prow' perm_encInt, PermO.prow' perm_encInt, PermO.prow' perm_encInt, trivial⟩)
theorem w_spec_l4Shift (g : TGraph) (p : TPebbles) (fromV : (List Int)) (a : Int) (u : Int) : ∀ t, m_spec_l4Shift g p fromV a u = some t → Fw.Fn Try.prog 259 [(.agg [(iC g.Points), (xF encTBar g.Bars)]), (.agg [(xF encInt p.Free), (xF encInt p.Tails), (xF encInt p.Placed)]), (.c (xF encInt fromV)), (.c (iC a)), (.c (iC u))] [] (.s (.agg [(lo 0 t.Free.length), (lo 1 t.Tails.length), (lo 2 t.Placed.length)])) [(0, (pR 3 encInt t.Free)), (1, (pR 3 encInt t.Tails)), (2, (pR 3 encInt t.Placed))] [] [0, 1, 2] := by
 refine Fw.Fn.of (P := Try.prog) (X := [0, 1, 2]) (pn := []) (rs := (fun (t : TPebbles) => [(.agg [(lo 0 t.Free.length), (lo 1 t.Tails.length), (lo 2 t.Placed.length)])])) (dfs := (fun (t : TPebbles) => [(0, (pR 3 encInt t.Free)), (1, (pR 3 encInt t.Tails)), (2, (pR 3 encInt t.Placed))])) Try.func259 rfl Try.ntmps259 (Nat.le_of_ble_eq_true rfl) rfl ?_
 intro w0 U0 R0 g0
 unfold m_spec_l4Shift
 refine Ws (Wr ?_)
 refine Os10 (LT.box (n := 21) (v := (.agg [(iC g.Points), (xF encTBar g.Bars)])) rfl sz26 (by exact rfl)) rfl rfl rfl ?_
 refine Os10 (LT.box (n := 22) (v := (.agg [(xF encInt p.Free), (xF encInt p.Tails), (xF encInt p.Placed)])) rfl sz165 (by exact rfl)) rfl rfl rfl ?_
 refine Os00 (LT.alloc (n := 23) (cells := [(sC nilV), (sC nilV), (sC nilV)]) rfl ti165 rfl rfl rfl) rfl rfl ?_
 refine On (Ws (Wr ?_))
 refine Op11 (LT.bloadN (out := [(xF encInt p.Free), (xF encInt p.Tails), (xF encInt p.Placed)]) rfl ag165 (infS inf165) sz165 (by exact rfl) (by exact rfl)) rfl rfl rfl rfl ?_
 refine Ob' fun r1 hr1 => ?_
 refine AOR.step (@LT.callF Try.prog _ _ 253 _ _ [(.agg [(xF encInt p.Free), (xF encInt p.Tails), (xF encInt p.Placed)])] _ _ [] _ _ _ _ ((show Fw.Fn Try.prog 253 [(.agg [(xF encInt p.Free), (xF encInt p.Tails), (xF encInt p.Placed)])] [] (Ag  [(lo 25 r1.Free.length), (lo 26 r1.Tails.length), (lo 27 r1.Placed.length)]) [(25, (pR 3 encInt r1.Free)), (26, (pR 3 encInt r1.Tails)), (27, (pR 3 encInt r1.Placed))] [] [25, 26, 27] from Fw.Fn.ren [(0, 25), (1, 26), (2, 27)] (w_spec_l4Copy p r1 hr1) rfl)) rfl cb253 (.cons (.agg (.cons (.same rfl) (.cons (.same rfl) (.cons (.same rfl) .nil)))) .nil) rfl rfl trivial) ⟨rfl, rfl, trivial⟩ trivial rfl rfl ?_
 refine Os00 (LT.alloc (n := 28) (cells := [(sC nilV), (sC nilV), (sC nilV)]) rfl ti165 rfl rfl rfl) rfl rfl ?_
 refine Os21 (LT.bstore (v := (.agg [(lo 25 r1.Free.length), (lo 26 r1.Tails.length), (lo 27 r1.Placed.length)])) (out := [(lo 25 r1.Free.length), (lo 26 r1.Tails.length), (lo 27 r1.Placed.length)]) rfl rfl (infS inf165) sz165 (by exact rfl) (by exact Nat.le_of_ble_eq_true rfl) (by exact rfl)) rfl rfl rfl rfl rfl ?_
 refine On (Ws ?_)
 refine en [(2, (Cc (xF encInt fromV))), (3, (Iv a)), (4, (Iv u)), (5, (Cc (.pl 21 0))), (6, (Cc (.pl 22 0))), (10, (Cc (.pl 23 0))), (11, (Cc (.pl 28 0)))] [(21, (.row 26 [[(iC g.Points), (xF encTBar g.Bars)]])), (22, (.row 165 [[(xF encInt p.Free), (xF encInt p.Tails), (xF encInt p.Placed)]])), (23, (.row 165 [[(sC nilV), (sC nilV), (sC nilV)]])), (25, (pR 3 encInt r1.Free)), (26, (pR 3 encInt r1.Tails)), (27, (pR 3 encInt r1.Placed)), (28, (.row 165 [[(lo 25 r1.Free.length), (lo 26 r1.Tails.length), (lo 27 r1.Placed.length)]]))] ⟨rfl, rfl, rfl, rfl, rfl, rfl, rfl, trivial⟩ ⟨rfl, rfl, rfl, rfl, rfl, rfl, rfl, trivial⟩ ?_
 refine AWR.draw mixed ?_
 refine Dp10 (LT.fieldPl rfl fo165_0) rfl rfl rfl ?_
 refine Dp11 (LT.bload1 (c := (lo 25 r1.Free.length)) rfl ag37 (by exact rfl)) rfl rfl rfl rfl ?_
 refine Dp10 (LT.move (v := (Iv u)) rfl) rfl rfl rfl ?_
 refine Dp10 (LT.fieldPl rfl fo165_0) rfl rfl rfl ?_
 refine Dp11 (LT.bload1 (c := (lo 25 r1.Free.length)) rfl ag37 (by exact rfl)) rfl rfl rfl rfl ?_
 refine Dp10 (LT.move (v := (Iv u)) rfl) rfl rfl rfl ?_
 refine AOD.bind fun x2 hx2 => ?_
 refine Dp21 (LT.tindexLoc rfl rfl el37 hx2) rfl rfl rfl rfl rfl ?_
 refine Dp11 (LT.tload1 (k := 0) rfl ag3 hx2 (by exact rfl) (by exact rfl)) rfl rfl rfl rfl ?_
 refine Dp20 (LT.sub rfl) rfl ⟨rfl, rfl⟩ rfl rfl ?_
 refine AOD.bind fun x3 hx3 => ?_
 refine Dp21 (LT.tindexLoc rfl rfl el37 hx3) rfl rfl rfl rfl rfl ?_
 refine Ds21 (LT.tstore (k := 0) (v := (.c (iC (w64 (x2 - 1))))) (b' := (w64 (x2 - 1))) rfl rfl (infS inf3) sz3 (by exact rfl) hx3 (by exact rfl) (by exact Nat.le_of_ble_eq_true rfl) (by exact rfl)) rfl rfl rfl rfl rfl ?_
 refine AOD.nil (by kernel_rfl) ?_
 refine Ws ?_
 refine en [(2, (Cc (xF encInt fromV))), (3, (Iv a)), (4, (Iv u)), (5, (Cc (.pl 21 0))), (6, (Cc (.pl 22 0))), (10, (Cc (.pl 23 0))), (11, (Cc (.pl 28 0)))] [(21, (.row 26 [[(iC g.Points), (xF encTBar g.Bars)]])), (22, (.row 165 [[(xF encInt p.Free), (xF encInt p.Tails), (xF encInt p.Placed)]])), (23, (.row 165 [[(sC nilV), (sC nilV), (sC nilV)]])), (25, (pR 3 encInt (r1.Free.set u.toNat (w64 (x2 - 1))))), (26, (pR 3 encInt r1.Tails)), (27, (pR 3 encInt r1.Placed)), (28, (.row 165 [[(lo 25 r1.Free.length), (lo 26 r1.Tails.length), (lo 27 r1.Placed.length)]]))] ⟨rfl, rfl, rfl, rfl, rfl, rfl, rfl, trivial⟩ ⟨rfl, rfl, rfl, rfl, rfl, rfl, rfl, trivial⟩ ?_
 refine AWR.draw mixed ?_
 refine Dp10 (LT.fieldPl rfl fo165_0) rfl rfl rfl ?_
 refine Dp11 (LT.bload1 (c := (lo 25 r1.Free.length)) rfl ag37 (by exact rfl)) rfl rfl rfl rfl ?_
 refine Dp10 (LT.move (v := (Iv a)) rfl) rfl rfl rfl ?_
 refine Dp10 (LT.fieldPl rfl fo165_0) rfl rfl rfl ?_
 refine Dp11 (LT.bload1 (c := (lo 25 r1.Free.length)) rfl ag37 (by exact rfl)) rfl rfl rfl rfl ?_
 refine Dp10 (LT.move (v := (Iv a)) rfl) rfl rfl rfl ?_
 refine AOD.bind fun x4 hx4 => ?_
 refine Dp21 (LT.tindexLoc (show r1.Free.length = (r1.Free.set u.toNat (w64 (x2 - 1))).length by simp only [List.length_set]) rfl el37 hx4) rfl rfl rfl rfl rfl ?_
 refine Dp11 (LT.tload1 (k := 0) rfl ag3 hx4 (by exact rfl) (by exact rfl)) rfl rfl rfl rfl ?_
 refine Dp20 (LT.add rfl) rfl ⟨rfl, rfl⟩ rfl rfl ?_
 refine AOD.bind fun x5 hx5 => ?_
 refine Dp21 (LT.tindexLoc (show r1.Free.length = (r1.Free.set u.toNat (w64 (x2 - 1))).length by simp only [List.length_set]) rfl el37 hx5) rfl rfl rfl rfl rfl ?_
 refine Ds21 (LT.tstore (k := 0) (v := (.c (iC (w64 (x4 + 1))))) (b' := (w64 (x4 + 1))) rfl rfl (infS inf3) sz3 (by exact rfl) hx5 (by exact rfl) (by exact Nat.le_of_ble_eq_true rfl) (by exact rfl)) rfl rfl rfl rfl rfl ?_
 refine AOD.nil (by kernel_rfl) ?_
 refine Ws ?_
 refine en [(2, (Cc (xF encInt fromV))), (3, (Iv a)), (4, (Iv u)), (5, (Cc (.pl 21 0))), (6, (Cc (.pl 22 0))), (10, (Cc (.pl 23 0))), (11, (Cc (.pl 28 0)))] [(21, (.row 26 [[(iC g.Points), (xF encTBar g.Bars)]])), (22, (.row 165 [[(xF encInt p.Free), (xF encInt p.Tails), (xF encInt p.Placed)]])), (23, (.row 165 [[(sC nilV), (sC nilV), (sC nilV)]])), (25, (pR 3 encInt ((r1.Free.set u.toNat (w64 (x2 - 1))).set a.toNat (w64 (x4 + 1))))), (26, (pR 3 encInt r1.Tails)), (27, (pR 3 encInt r1.Placed)), (28, (.row 165 [[(lo 25 r1.Free.length), (lo 26 r1.Tails.length), (lo 27 r1.Placed.length)]]))] ⟨rfl, rfl, rfl, rfl, rfl, rfl, rfl, trivial⟩ ⟨rfl, rfl, rfl, rfl, rfl, rfl, rfl, trivial⟩ ?_
 refine Wr ?_
 refine mv (Iv u) rfl rfl rfl rfl ?_
 refine asg (Iv u) rfl rfl rfl rfl ?_
 refine On (Ws (AWR.block ?_))
 refine AWR.loop1 (id := 0) (m_spec_l4Shift_L1 g p fromV a u r1 x2 x4) (fun s6 => ([(2, (Cc (xF encInt fromV))), (3, (Iv a)), (5, (Cc (.pl 21 0))), (6, (Cc (.pl 22 0))), (10, (Cc (.pl 23 0))), (11, (Cc (.pl 28 0))), (12, (Iv s6.1))], [(21, (.row 26 [[(iC g.Points), (xF encTBar g.Bars)]])), (22, (.row 165 [[(xF encInt p.Free), (xF encInt p.Tails), (xF encInt p.Placed)]])), (23, (.row 165 [[(sC nilV), (sC nilV), (sC nilV)]])), (25, (pR 3 encInt ((r1.Free.set u.toNat (w64 (x2 - 1))).set a.toNat (w64 (x4 + 1))))), (26, (pR 3 encInt s6.2)), (27, (pR 3 encInt r1.Placed)), (28, (.row 165 [[(lo 25 (((r1.Free.set u.toNat (w64 (x2 - 1))).set a.toNat (w64 (x4 + 1))).length)), (lo 26 s6.2.length), (lo 27 r1.Placed.length)]]))])) (fun b19 => ([(10, (Cc (.pl 23 0))), (11, (Cc (.pl 28 0)))], [(23, (.row 165 [[(sC nilV), (sC nilV), (sC nilV)]])), (25, (pR 3 encInt b19.1)), (26, (pR 3 encInt b19.2.1)), (27, (pR 3 encInt b19.2.2)), (28, (.row 165 [[(lo 25 b19.1.length), (lo 26 b19.2.1.length), (lo 27 b19.2.2.length)]]))])) ?_ (Ent.of ⟨rfl, rfl, rfl, rfl, rfl, rfl, rfl, trivial⟩ ⟨rfl, rfl, rfl, rfl, rfl, rfl, (congrArg (fun l1 => (some (Ob.row 165 [[(lo 25 l1), (lo 26 r1.Tails.length), (lo 27 r1.Placed.length)]]) : Option Ob)) (show r1.Free.length = ((r1.Free.set u.toNat (w64 (x2 - 1))).set a.toNat (w64 (x4 + 1))).length by simp only [List.length_set])), trivial⟩) rfl (fun b19 _ => ?_)
 ·intro s6
  unfold m_spec_l4Shift_L1
  refine Ws (Ws (Wr ?_))
  refine mv (Iv s6.1) rfl rfl rfl rfl ?_
  refine mv (Iv a) rfl rfl rfl rfl ?_
  refine Op20 (LT.neq rfl) rfl rfl rfl rfl ?_
  refine On ?_
  refine AWR.cond rfl (fun hc20 => ?_) (fun hc20 => ?_)
  ·refine AWR.skip (AWR.block (Ws (Wr ?_)))
   refine mv (Cc (xF encInt fromV)) rfl rfl rfl rfl ?_
   refine mv (Iv s6.1) rfl rfl rfl rfl ?_
   refine Ob' fun x21 hx21 => ?_
   refine Op20 (LT.tindexRO (enc := encInt) rfl el37 hx21 sz3) rfl rfl rfl rfl ?_
   refine Op10 (LT.loadPx1 rfl ag3) rfl rfl rfl ?_
   refine asg (Iv x21) rfl rfl rfl rfl ?_
   refine On (Ws (AWR.draw mixed ?_))
   refine Dp10 (LT.fieldPl rfl fo26_1) rfl rfl rfl ?_
   refine Dp11 (LT.bload1 (c := (xF encTBar g.Bars)) rfl ag24 (by exact rfl)) rfl rfl rfl rfl ?_
   refine Dp10 (LT.fieldPl rfl fo165_2) rfl rfl rfl ?_
   refine Dp11 (LT.bload1 (c := (xF encInt p.Placed)) rfl ag37 (by exact rfl)) rfl rfl rfl rfl ?_
   refine Dp10 (LT.move (v := (Iv x21)) rfl) rfl rfl rfl ?_
   refine AOD.bind fun x22 hx22 => ?_
   refine Dp20 (LT.tindexRO (enc := encInt) rfl el37 hx22 sz3) rfl rfl rfl rfl ?_
   refine Dp10 (LT.loadPx1 rfl ag3) rfl rfl rfl ?_
   refine AOD.bind fun x23 hx23 => ?_
   refine Dp20 (LT.tindexRO (enc := encTBar) rfl el24 hx23 sz62) rfl rfl rfl rfl ?_
   refine Dp10 (LT.loadPxN rfl ag62 (infS inf62) (by exact sz62.symm)) rfl rfl rfl ?_
   refine Dp10 (LT.move (v := (Iv s6.1)) rfl) rfl rfl rfl ?_
   refine AOD.bind fun r24 hr24 => ?_
   refine AOD.pure (@LT.callF Try.prog _ _ 123 _ _ [(.agg [(iC x23.A), (iC x23.B)]), (.c (iC s6.1))] _ _ [] _ _ _ _ (w_spec_l4Other x23 s6.1 r24 hr24) rfl cb123 (.cons (.agg (.cons (.same rfl) (.cons (.same rfl) .nil))) (.cons (.c (.same rfl)) .nil)) rfl rfl trivial) ⟨rfl, rfl, rfl, trivial⟩ trivial rfl rfl ?_
   refine Dp10 (LT.assign (v := (Iv r24)) rfl) rfl rfl rfl ?_
   refine AOD.nil (by kernel_rfl) ?_
   refine Ws ?_
   refine en [(2, (Cc (xF encInt fromV))), (3, (Iv a)), (5, (Cc (.pl 21 0))), (6, (Cc (.pl 22 0))), (10, (Cc (.pl 23 0))), (11, (Cc (.pl 28 0))), (12, (Iv s6.1)), (13, (Iv x21)), (14, (Iv r24))] [(21, (.row 26 [[(iC g.Points), (xF encTBar g.Bars)]])), (22, (.row 165 [[(xF encInt p.Free), (xF encInt p.Tails), (xF encInt p.Placed)]])), (23, (.row 165 [[(sC nilV), (sC nilV), (sC nilV)]])), (25, (pR 3 encInt ((r1.Free.set u.toNat (w64 (x2 - 1))).set a.toNat (w64 (x4 + 1))))), (26, (pR 3 encInt s6.2)), (27, (pR 3 encInt r1.Placed)), (28, (.row 165 [[(lo 25 (((r1.Free.set u.toNat (w64 (x2 - 1))).set a.toNat (w64 (x4 + 1))).length)), (lo 26 s6.2.length), (lo 27 r1.Placed.length)]]))] ⟨rfl, rfl, rfl, rfl, rfl, rfl, rfl, rfl, rfl, trivial⟩ ⟨rfl, rfl, rfl, rfl, rfl, rfl, rfl, trivial⟩ ?_
   refine Wr ?_
   refine Op10 (LT.fieldPl rfl fo165_1) rfl rfl rfl ?_
   refine Op11 (LT.bload1 (c := (lo 26 s6.2.length)) rfl ag37 (by exact rfl)) rfl rfl rfl rfl ?_
   refine mv (Iv x21) rfl rfl rfl rfl ?_
   refine mv (Iv s6.1) rfl rfl rfl rfl ?_
   refine Ob' fun x25 hx25 => ?_
   refine Op21 (LT.tindexLoc rfl rfl el37 hx25) rfl rfl rfl rfl rfl ?_
   refine Os21 (LT.tstore (k := 0) (v := (.c (iC s6.1))) (b' := s6.1) rfl rfl (infS inf3) sz3 (by exact rfl) hx25 (by exact rfl) (by exact Nat.le_of_ble_eq_true rfl) (by exact rfl)) rfl rfl rfl rfl rfl ?_
   refine On (Wr ?_)
   refine mv (Iv r24) rfl rfl rfl rfl ?_
   refine asg (Iv r24) rfl rfl rfl rfl ?_
   refine On (AWR.blk ?_)
   refine AWR.nil ⟨rfl, Ent.of ⟨rfl, rfl, rfl, rfl, rfl, rfl, rfl, trivial⟩ ⟨rfl, rfl, rfl, rfl, rfl, rfl, (congrArg (fun l1 => (some (Ob.row 165 [[(lo 25 (((r1.Free.set u.toNat (w64 (x2 - 1))).set a.toNat (w64 (x4 + 1))).length)), (lo 26 l1), (lo 27 r1.Placed.length)]]) : Option Ob)) (show s6.2.length = (s6.2.set x21.toNat s6.1).length by simp only [List.length_set])), trivial⟩⟩
  ·refine AWR.exit_end rfl ⟨rfl, Ent.of ⟨rfl, rfl, trivial⟩ ⟨rfl, rfl, rfl, rfl, rfl, trivial⟩⟩
 ·refine Ws (Wr ?_)
  refine Op11 (LT.bloadN (out := [(lo 25 b19.1.length), (lo 26 b19.2.1.length), (lo 27 b19.2.2.length)]) rfl ag165 (infS inf165) sz165 (by exact rfl) (by exact rfl)) rfl rfl rfl rfl ?_
  refine Os21 (LT.bstore (v := (.agg [(lo 25 b19.1.length), (lo 26 b19.2.1.length), (lo 27 b19.2.2.length)])) (out := [(lo 25 b19.1.length), (lo 26 b19.2.1.length), (lo 27 b19.2.2.length)]) rfl rfl (infS inf165) sz165 (by exact rfl) (by exact Nat.le_of_ble_eq_true rfl) (by exact rfl)) rfl rfl rfl rfl rfl ?_
  refine On ?_
  refine en [(10, (Cc (.pl 23 0)))] [(23, (.row 165 [[(lo 25 b19.1.length), (lo 26 b19.2.1.length), (lo 27 b19.2.2.length)]])), (25, (pR 3 encInt b19.1)), (26, (pR 3 encInt b19.2.1)), (27, (pR 3 encInt b19.2.2))] ⟨rfl, trivial⟩ ⟨rfl, rfl, rfl, rfl, trivial⟩ ?_
  refine AWR.ent (Ent.mv 25 0 rfl rfl) ?_
  refine AWR.ent (Ent.mv 26 1 rfl rfl) ?_
  refine AWR.ent (Ent.mv 27 2 rfl rfl) ?_
  refine en [(10, (Cc (.pl 23 0)))] [(0, (pR 3 encInt b19.1)), (1, (pR 3 encInt b19.2.1)), (2, (pR 3 encInt b19.2.2)), (23, (.row 165 [[(lo 0 b19.1.length), (lo 1 b19.2.1.length), (lo 2 b19.2.2.length)]]))] ⟨rfl, trivial⟩ ⟨rfl, rfl, rfl, rfl, trivial⟩ ?_
  refine AWR.ret (FPost.mk (.inr rfl) ⟨⟨_, _, _, rfl, rfl, rfl, ag165, sz165, _, (infS inf165)⟩, trivial⟩ ⟨rfl, rfl, rfl, trivial⟩ rfl ⟨⟨trivial, trivial, trivial, trivial⟩, trivial⟩ ⟨PermO.prow' perm_encInt, PermO.prow' perm_encInt, PermO.prow' perm_encInt, trivial⟩)
theorem w_spec_l4Find (g : TGraph) (p : TPebbles) (a : Int) (b : Int) : ∀ t, m_spec_l4Find g p a b = some t → Fw.Fn Try.prog 257 [(.agg [(iC g.Points), (xF encTBar g.Bars)]), (.agg [(xF encInt p.Free), (xF encInt p.Tails), (xF encInt p.Placed)]), (.c (iC a)), (.c (iC b))] [] (resA [(.agg [(bif t.2 then (.loc 0 0 t.1.Free.length) else .junk), (bif t.2 then (.loc 1 0 t.1.Tails.length) else .junk), (bif t.2 then (.loc 2 0 t.1.Placed.length) else .junk)]), (.c (bC t.2))]) [(0, (.prow 3 ((bif t.2 then t.1.Free else []).map encInt))), (1, (.prow 3 ((bif t.2 then t.1.Tails else []).map encInt))), (2, (.prow 3 ((bif t.2 then t.1.Placed else []).map encInt)))] [] [0, 1, 2] := by
 refine Fw.Fn.of (P := Try.prog) (X := [0, 1, 2]) (pn := []) (rs := (fun (t : (TPebbles × Bool)) => [(.agg [(bif t.2 then (.loc 0 0 t.1.Free.length) else .junk), (bif t.2 then (.loc 1 0 t.1.Tails.length) else .junk), (bif t.2 then (.loc 2 0 t.1.Placed.length) else .junk)]), (.c (bC t.2))])) (dfs := (fun (t : (TPebbles × Bool)) => [(0, (.prow 3 ((bif t.2 then t.1.Free else []).map encInt))), (1, (.prow 3 ((bif t.2 then t.1.Tails else []).map encInt))), (2, (.prow 3 ((bif t.2 then t.1.Placed else []).map encInt)))])) Try.func257 rfl Try.ntmps257 (Nat.le_of_ble_eq_true rfl) rfl ?_
 intro w0 U0 R0 g0
 unfold m_spec_l4Find
 refine Ws (Wr ?_)
 refine Os10 (LT.box (n := 21) (v := (.agg [(iC g.Points), (xF encTBar g.Bars)])) rfl sz26 (by exact rfl)) rfl rfl rfl ?_
 refine Os10 (LT.box (n := 22) (v := (.agg [(xF encInt p.Free), (xF encInt p.Tails), (xF encInt p.Placed)])) rfl sz165 (by exact rfl)) rfl rfl rfl ?_
 refine Os00 (LT.alloc (n := 23) (cells := [(sC nilV), (sC nilV), (sC nilV)]) rfl ti165 rfl rfl rfl) rfl rfl ?_
 refine asg (Bv false) rfl ⟨rfl, rfl⟩ rfl rfl ?_
 refine On (Ws (Wr ?_))
 refine Op10 (LT.fieldPl rfl fo26_0) rfl rfl rfl ?_
 refine Op11 (LT.bload1 (c := (iC g.Points)) rfl ag3 (by exact rfl)) rfl rfl rfl rfl ?_
 refine Ob' fun u1 hu1 => ?_
 refine Os20 (LT.tmake (n := 24) (enc := encInt) (zc := [(iC 0)]) (0 : Int) rfl und37 ti3 rfl rfl rfl (by decide) (by decide) (lenOk_le hu1) rfl) rfl rfl rfl rfl ?_
 refine asg (Cc (lo 24 ((List.replicate g.Points.toNat (0 : Int)).length))) rfl rfl rfl rfl ?_
 refine On (Ws (Ws ?_))
 refine en [(2, (Iv a)), (3, (Iv b)), (4, (Cc (.pl 21 0))), (5, (Cc (.pl 22 0))), (8, (Cc (.pl 23 0))), (10, (Cc (lo 24 ((List.replicate g.Points.toNat (0 : Int)).length))))] [(21, (.row 26 [[(iC g.Points), (xF encTBar g.Bars)]])), (22, (.row 165 [[(xF encInt p.Free), (xF encInt p.Tails), (xF encInt p.Placed)]])), (23, (.row 165 [[(sC nilV), (sC nilV), (sC nilV)]])), (24, (pR 3 encInt (List.replicate g.Points.toNat (0 : Int))))] ⟨rfl, rfl, rfl, rfl, rfl, rfl, trivial⟩ ⟨rfl, rfl, rfl, rfl, trivial⟩ ?_
 refine Wr ?_
 refine asg (Iv 0) rfl ⟨rfl, rfl⟩ rfl rfl ?_
 refine On (AWR.block ?_)
 refine AWR.loop1 (id := 0) (m_spec_l4Find_L1 g) (fun s2 => ([(2, (Iv a)), (3, (Iv b)), (4, (Cc (.pl 21 0))), (5, (Cc (.pl 22 0))), (8, (Cc (.pl 23 0))), (10, (Cc (lo 24 s2.2.length))), (11, (Iv s2.1))], [(21, (.row 26 [[(iC g.Points), (xF encTBar g.Bars)]])), (22, (.row 165 [[(xF encInt p.Free), (xF encInt p.Tails), (xF encInt p.Placed)]])), (23, (.row 165 [[(sC nilV), (sC nilV), (sC nilV)]])), (24, (pR 3 encInt s2.2))])) (fun b7 => ([(2, (Iv a)), (3, (Iv b)), (4, (Cc (.pl 21 0))), (5, (Cc (.pl 22 0))), (8, (Cc (.pl 23 0))), (10, (Cc (lo 24 b7.length)))], [(21, (.row 26 [[(iC g.Points), (xF encTBar g.Bars)]])), (22, (.row 165 [[(xF encInt p.Free), (xF encInt p.Tails), (xF encInt p.Placed)]])), (23, (.row 165 [[(sC nilV), (sC nilV), (sC nilV)]])), (24, (pR 3 encInt b7))])) ?_ (Ent.of ⟨rfl, rfl, rfl, rfl, rfl, rfl, rfl, trivial⟩ ⟨rfl, rfl, rfl, rfl, trivial⟩) rfl (fun b7 _ => ?_)
 ·intro s2
  unfold m_spec_l4Find_L1
  refine Ws (Ws (Wr ?_))
  refine mv (Iv s2.1) rfl rfl rfl rfl ?_
  refine Op10 (LT.fieldPl rfl fo26_0) rfl rfl rfl ?_
  refine Op11 (LT.bload1 (c := (iC g.Points)) rfl ag3 (by exact rfl)) rfl rfl rfl rfl ?_
  refine Op20 (LT.lss rfl) rfl rfl rfl rfl ?_
  refine On ?_
  refine AWR.cond rfl (fun hc8 => ?_) (fun hc8 => ?_)
  ·refine AWR.skip (Ws (AWR.block (Wr ?_)))
   refine mv (Cc (lo 24 s2.2.length)) rfl rfl rfl rfl ?_
   refine mv (Iv s2.1) rfl rfl rfl rfl ?_
   refine Ob' fun x9 hx9 => ?_
   refine Op21 (LT.tindexLoc rfl rfl el37 hx9) rfl rfl rfl rfl rfl ?_
   refine Os21 (LT.tstore (k := 0) (v := (.c (iC (-1)))) (b' := (-1)) rfl rfl (infS inf3) sz3 (by exact rfl) hx9 (by exact rfl) (by exact Nat.le_of_ble_eq_true rfl) (by exact rfl)) rfl ⟨rfl, rfl⟩ rfl rfl rfl ?_
   refine On (AWR.blk (Wr ?_))
   refine mv (Iv s2.1) rfl rfl rfl rfl ?_
   refine Op20 (LT.add rfl) rfl ⟨rfl, rfl⟩ rfl rfl ?_
   refine asg (Iv (w64 (s2.1 + 1))) rfl rfl rfl rfl ?_
   refine On ?_
   refine AWR.nil ⟨rfl, Ent.of ⟨rfl, rfl, rfl, rfl, rfl, (congrArg (fun l1 => (some (AV.s (.c (lo 24 l1))) : Option AV)) (show s2.2.length = (s2.2.set s2.1.toNat (-1)).length by simp only [List.length_set])), rfl, trivial⟩ ⟨rfl, rfl, rfl, rfl, trivial⟩⟩
  ·refine AWR.exit_end rfl ⟨rfl, Ent.of ⟨rfl, rfl, rfl, rfl, rfl, rfl, trivial⟩ ⟨rfl, rfl, rfl, rfl, trivial⟩⟩
 ·refine Ws (Wr ?_)
  refine mv (Iv a) rfl rfl rfl rfl ?_
  refine Os10 (LT.tbuildSlice (n := 25) (enc := encInt) [(0, .tmp 30, (.c (iC a)))] ([a] : List Int) rfl rfl und37 ti3 rfl rfl rfl rfl (by decide) (fun _ => rfl) rfl) rfl rfl rfl ?_
  refine asg (Cc (lo 25 (([a] : List Int).length))) rfl rfl rfl rfl ?_
  refine On (Ws (Wr ?_))
  refine Op10 (LT.fieldPl rfl fo26_0) rfl rfl rfl ?_
  refine Op11 (LT.bload1 (c := (iC g.Points)) rfl ag3 (by exact rfl)) rfl rfl rfl rfl ?_
  refine Ob' fun u10 hu10 => ?_
  refine Os20 (LT.tmake (n := 26) (enc := encBool) (zc := [(bC false)]) false rfl und193 ti4 rfl rfl rfl (by decide) (by decide) (lenOk_le hu10) rfl) rfl rfl rfl rfl ?_
  refine asg (Cc (lo 26 ((List.replicate g.Points.toNat false).length))) rfl rfl rfl rfl ?_
  refine On (Ws ?_)
  refine en [(2, (Iv a)), (3, (Iv b)), (4, (Cc (.pl 21 0))), (5, (Cc (.pl 22 0))), (8, (Cc (.pl 23 0))), (10, (Cc (lo 24 b7.length))), (12, (Cc (lo 25 (([a] : List Int).length)))), (13, (Cc (lo 26 ((List.replicate g.Points.toNat false).length))))] [(21, (.row 26 [[(iC g.Points), (xF encTBar g.Bars)]])), (22, (.row 165 [[(xF encInt p.Free), (xF encInt p.Tails), (xF encInt p.Placed)]])), (23, (.row 165 [[(sC nilV), (sC nilV), (sC nilV)]])), (24, (pR 3 encInt b7)), (25, (pR 3 encInt ([a] : List Int))), (26, (pR 4 encBool (List.replicate g.Points.toNat false)))] ⟨rfl, rfl, rfl, rfl, rfl, rfl, rfl, rfl, trivial⟩ ⟨rfl, rfl, rfl, rfl, rfl, rfl, trivial⟩ ?_
  refine Wr ?_
  refine mv (Cc (lo 26 ((List.replicate g.Points.toNat false).length))) rfl rfl rfl rfl ?_
  refine mv (Iv a) rfl rfl rfl rfl ?_
  refine Ob' fun x11 hx11 => ?_
  refine Op21 (LT.tindexLoc rfl rfl el193 hx11) rfl rfl rfl rfl rfl ?_
  refine Os21 (LT.tstore (k := 0) (v := (.c (bC true))) (b' := true) rfl rfl (infS inf4) sz4 (by exact rfl) hx11 (by exact rfl) (by exact Nat.le_of_ble_eq_true rfl) (by exact rfl)) rfl ⟨rfl, rfl⟩ rfl rfl rfl ?_
  refine On (Ws (Ws (Wr ?_)))
  refine asg (Iv 0) rfl ⟨rfl, rfl⟩ rfl rfl ?_
  refine On (AWR.block ?_)
  refine AWR.loopR (id := 2) (m_spec_l4Find_L4 g p a b) (fun s12 => ([(2, (Iv a)), (3, (Iv b)), (4, (Cc (.pl 21 0))), (5, (Cc (.pl 22 0))), (8, (Cc (.pl 23 0))), (10, (Cc (lo 24 s12.2.1.length))), (12, (Cc (lo 25 s12.2.2.1.length))), (13, (Cc (lo 26 s12.2.2.2.length))), (14, (Iv s12.1))], [(21, (.row 26 [[(iC g.Points), (xF encTBar g.Bars)]])), (22, (.row 165 [[(xF encInt p.Free), (xF encInt p.Tails), (xF encInt p.Placed)]])), (23, (.row 165 [[(sC nilV), (sC nilV), (sC nilV)]])), (24, (pR 3 encInt s12.2.1)), (25, (pR 3 encInt s12.2.2.1)), (26, (pR 4 encBool s12.2.2.2))])) (fun b93 => ([(5, (Cc (.pl 22 0))), (8, (Cc (.pl 23 0)))], [(22, (.row 165 [[(xF encInt p.Free), (xF encInt p.Tails), (xF encInt p.Placed)]])), (23, (.row 165 [[(sC nilV), (sC nilV), (sC nilV)]]))])) (FPost Try.prog Try.f257.results.toList [] [0, 1, 2] (fun (t : (TPebbles × Bool)) => [(.agg [(bif t.2 then (.loc 0 0 t.1.Free.length) else .junk), (bif t.2 then (.loc 1 0 t.1.Tails.length) else .junk), (bif t.2 then (.loc 2 0 t.1.Placed.length) else .junk)]), (.c (bC t.2))]) (fun (t : (TPebbles × Bool)) => [(0, (.prow 3 ((bif t.2 then t.1.Free else []).map encInt))), (1, (.prow 3 ((bif t.2 then t.1.Tails else []).map encInt))), (2, (.prow 3 ((bif t.2 then t.1.Placed else []).map encInt)))])) ?_ (Ent.of ⟨rfl, rfl, rfl, rfl, rfl, rfl, rfl, (congrArg (fun l1 => (some (AV.s (.c (lo 26 l1))) : Option AV)) (show (List.replicate g.Points.toNat false).length = ((List.replicate g.Points.toNat false).set a.toNat true).length by simp only [List.length_set])), rfl, trivial⟩ ⟨rfl, rfl, rfl, rfl, rfl, rfl, trivial⟩) rfl (fun b93 _ => ?_) (by intro r t σ m ht hk; injection ht with ht; subst ht; exact hk)
  ·intro s12
   unfold m_spec_l4Find_L4
   refine Ws (Ws (Wr ?_))
   refine mv (Iv s12.1) rfl rfl rfl rfl ?_
   refine mv (Cc (lo 25 s12.2.2.1.length)) rfl rfl rfl rfl ?_
   refine Op10 (LT.lenLoc rfl und37) rfl rfl rfl ?_
   refine Op20 (LT.lss rfl) rfl rfl rfl rfl ?_
   refine On ?_
   refine AWR.cond rfl (fun hc94 => ?_) (fun hc94 => ?_)
   ·refine AWR.skip (Ws (AWR.block (Ws (Wr ?_))))
    refine mv (Cc (lo 25 s12.2.2.1.length)) rfl rfl rfl rfl ?_
    refine mv (Iv s12.1) rfl rfl rfl rfl ?_
    refine Ob' fun x95 hx95 => ?_
    refine Op21 (LT.tindexLoc rfl rfl el37 hx95) rfl rfl rfl rfl rfl ?_
    refine Op11 (LT.tload1 (k := 0) rfl ag3 hx95 (by exact rfl) (by exact rfl)) rfl rfl rfl rfl ?_
    refine asg (Iv x95) rfl rfl rfl rfl ?_
    refine On (Ws (Wr ?_))
    refine asg (Iv 0) rfl ⟨rfl, rfl⟩ rfl rfl ?_
    refine On (AWR.block ?_)
    refine AWR.loopR (id := 4) (m_spec_l4Find_L5 g p a b s12 x95) (fun s96 => ([(2, (Iv a)), (3, (Iv b)), (4, (Cc (.pl 21 0))), (5, (Cc (.pl 22 0))), (8, (Cc (.pl 23 0))), (10, (Cc (lo 24 s96.2.1.length))), (12, (Cc (lo 25 s96.2.2.1.length))), (13, (Cc (lo 26 s96.2.2.2.length))), (14, (Iv s12.1)), (15, (Iv x95)), (16, (Iv s96.1))], [(21, (.row 26 [[(iC g.Points), (xF encTBar g.Bars)]])), (22, (.row 165 [[(xF encInt p.Free), (xF encInt p.Tails), (xF encInt p.Placed)]])), (23, (.row 165 [[(sC nilV), (sC nilV), (sC nilV)]])), (24, (pR 3 encInt s96.2.1)), (25, (pR 3 encInt s96.2.2.1)), (26, (pR 4 encBool s96.2.2.2))])) (fun b133 => ([(2, (Iv a)), (3, (Iv b)), (4, (Cc (.pl 21 0))), (5, (Cc (.pl 22 0))), (8, (Cc (.pl 23 0))), (10, (Cc (lo 24 b133.2.1.length))), (12, (Cc (lo 25 b133.2.2.1.length))), (13, (Cc (lo 26 b133.2.2.2.length))), (14, (Iv b133.1))], [(21, (.row 26 [[(iC g.Points), (xF encTBar g.Bars)]])), (22, (.row 165 [[(xF encInt p.Free), (xF encInt p.Tails), (xF encInt p.Placed)]])), (23, (.row 165 [[(sC nilV), (sC nilV), (sC nilV)]])), (24, (pR 3 encInt b133.2.1)), (25, (pR 3 encInt b133.2.2.1)), (26, (pR 4 encBool b133.2.2.2))])) (FPost Try.prog Try.f257.results.toList [] [0, 1, 2] (fun (t : (TPebbles × Bool)) => [(.agg [(bif t.2 then (.loc 0 0 t.1.Free.length) else .junk), (bif t.2 then (.loc 1 0 t.1.Tails.length) else .junk), (bif t.2 then (.loc 2 0 t.1.Placed.length) else .junk)]), (.c (bC t.2))]) (fun (t : (TPebbles × Bool)) => [(0, (.prow 3 ((bif t.2 then t.1.Free else []).map encInt))), (1, (.prow 3 ((bif t.2 then t.1.Tails else []).map encInt))), (2, (.prow 3 ((bif t.2 then t.1.Placed else []).map encInt)))])) ?_ (Ent.of ⟨rfl, rfl, rfl, rfl, rfl, rfl, rfl, rfl, rfl, rfl, rfl, trivial⟩ ⟨rfl, rfl, rfl, rfl, rfl, rfl, trivial⟩) rfl (fun b133 _ => ?_) (by intro r t σ m ht hk; injection ht with ht; subst ht; exact ⟨rfl, hk⟩)
    ·intro s96
     unfold m_spec_l4Find_L5
     refine Ws (Ws (Wr ?_))
     refine mv (Iv s96.1) rfl rfl rfl rfl ?_
     refine Op10 (LT.fieldPl rfl fo165_2) rfl rfl rfl ?_
     refine Op11 (LT.bload1 (c := (xF encInt p.Placed)) rfl ag37 (by exact rfl)) rfl rfl rfl rfl ?_
     refine Op10 (LT.tlenRO rfl und37) rfl rfl rfl ?_
     refine Op20 (LT.lss rfl) rfl rfl rfl rfl ?_
     refine On ?_
     refine AWR.cond rfl (fun hc134 => ?_) (fun hc134 => ?_)
     ·refine AWR.skip (Ws (AWR.block (Ws (Ws (Wr ?_)))))
      refine Op10 (LT.fieldPl rfl fo165_1) rfl rfl rfl ?_
      refine Op11 (LT.bload1 (c := (xF encInt p.Tails)) rfl ag37 (by exact rfl)) rfl rfl rfl rfl ?_
      refine mv (Iv s96.1) rfl rfl rfl rfl ?_
      refine Ob' fun x135 hx135 => ?_
      refine Op20 (LT.tindexRO (enc := encInt) rfl el37 hx135 sz3) rfl rfl rfl rfl ?_
      refine Op10 (LT.loadPx1 rfl ag3) rfl rfl rfl ?_
      refine mv (Iv x95) rfl rfl rfl rfl ?_
      refine Op20 (LT.neq rfl) rfl rfl rfl rfl ?_
      refine On ?_
      refine AWR.cond rfl (fun hc136 => ?_) (fun hc136 => ?_)
      ·refine AWR.exit rfl ?_
       refine en [(2, (Iv a)), (3, (Iv b)), (4, (Cc (.pl 21 0))), (5, (Cc (.pl 22 0))), (8, (Cc (.pl 23 0))), (10, (Cc (lo 24 s96.2.1.length))), (12, (Cc (lo 25 s96.2.2.1.length))), (13, (Cc (lo 26 s96.2.2.2.length))), (14, (Iv s12.1)), (15, (Iv x95)), (16, (Iv s96.1))] [(21, (.row 26 [[(iC g.Points), (xF encTBar g.Bars)]])), (22, (.row 165 [[(xF encInt p.Free), (xF encInt p.Tails), (xF encInt p.Placed)]])), (23, (.row 165 [[(sC nilV), (sC nilV), (sC nilV)]])), (24, (pR 3 encInt s96.2.1)), (25, (pR 3 encInt s96.2.2.1)), (26, (pR 4 encBool s96.2.2.2))] ⟨rfl, rfl, rfl, rfl, rfl, rfl, rfl, rfl, rfl, rfl, rfl, trivial⟩ ⟨rfl, rfl, rfl, rfl, rfl, rfl, trivial⟩ ?_
       refine Wr ?_
       refine mv (Iv s96.1) rfl rfl rfl rfl ?_
       refine Op20 (LT.add rfl) rfl ⟨rfl, rfl⟩ rfl rfl ?_
       refine asg (Iv (w64 (s96.1 + 1))) rfl rfl rfl rfl ?_
       refine On ?_
       refine AWR.nil ⟨rfl, Ent.of ⟨rfl, rfl, rfl, rfl, rfl, rfl, rfl, rfl, rfl, rfl, rfl, trivial⟩ ⟨rfl, rfl, rfl, rfl, rfl, rfl, trivial⟩⟩
      ·refine AWR.skip (Ws ?_)
       refine en [(2, (Iv a)), (3, (Iv b)), (4, (Cc (.pl 21 0))), (5, (Cc (.pl 22 0))), (8, (Cc (.pl 23 0))), (10, (Cc (lo 24 s96.2.1.length))), (12, (Cc (lo 25 s96.2.2.1.length))), (13, (Cc (lo 26 s96.2.2.2.length))), (14, (Iv s12.1)), (15, (Iv x95)), (16, (Iv s96.1))] [(21, (.row 26 [[(iC g.Points), (xF encTBar g.Bars)]])), (22, (.row 165 [[(xF encInt p.Free), (xF encInt p.Tails), (xF encInt p.Placed)]])), (23, (.row 165 [[(sC nilV), (sC nilV), (sC nilV)]])), (24, (pR 3 encInt s96.2.1)), (25, (pR 3 encInt s96.2.2.1)), (26, (pR 4 encBool s96.2.2.2))] ⟨rfl, rfl, rfl, rfl, rfl, rfl, rfl, rfl, rfl, rfl, rfl, trivial⟩ ⟨rfl, rfl, rfl, rfl, rfl, rfl, trivial⟩ ?_
       refine AWR.draw mixed ?_
       refine Dp10 (LT.fieldPl rfl fo26_1) rfl rfl rfl ?_
       refine Dp11 (LT.bload1 (c := (xF encTBar g.Bars)) rfl ag24 (by exact rfl)) rfl rfl rfl rfl ?_
       refine Dp10 (LT.fieldPl rfl fo165_2) rfl rfl rfl ?_
       refine Dp11 (LT.bload1 (c := (xF encInt p.Placed)) rfl ag37 (by exact rfl)) rfl rfl rfl rfl ?_
       refine Dp10 (LT.move (v := (Iv s96.1)) rfl) rfl rfl rfl ?_
       refine AOD.bind fun x137 hx137 => ?_
       refine Dp20 (LT.tindexRO (enc := encInt) rfl el37 hx137 sz3) rfl rfl rfl rfl ?_
       refine Dp10 (LT.loadPx1 rfl ag3) rfl rfl rfl ?_
       refine AOD.bind fun x138 hx138 => ?_
       refine Dp20 (LT.tindexRO (enc := encTBar) rfl el24 hx138 sz62) rfl rfl rfl rfl ?_
       refine Dp10 (LT.loadPxN rfl ag62 (infS inf62) (by exact sz62.symm)) rfl rfl rfl ?_
       refine Dp10 (LT.move (v := (Iv x95)) rfl) rfl rfl rfl ?_
       refine AOD.bind fun r139 hr139 => ?_
       refine AOD.pure (@LT.callF Try.prog _ _ 123 _ _ [(.agg [(iC x138.A), (iC x138.B)]), (.c (iC x95))] _ _ [] _ _ _ _ (w_spec_l4Other x138 x95 r139 hr139) rfl cb123 (.cons (.agg (.cons (.same rfl) (.cons (.same rfl) .nil))) (.cons (.c (.same rfl)) .nil)) rfl rfl trivial) ⟨rfl, rfl, rfl, trivial⟩ trivial rfl rfl ?_
       refine Dp10 (LT.assign (v := (Iv r139)) rfl) rfl rfl rfl ?_
       refine AOD.nil (by kernel_rfl) ?_
       refine Ws (Ws ?_)
       refine en [(2, (Iv a)), (3, (Iv b)), (4, (Cc (.pl 21 0))), (5, (Cc (.pl 22 0))), (8, (Cc (.pl 23 0))), (10, (Cc (lo 24 s96.2.1.length))), (12, (Cc (lo 25 s96.2.2.1.length))), (13, (Cc (lo 26 s96.2.2.2.length))), (14, (Iv s12.1)), (15, (Iv x95)), (16, (Iv s96.1)), (17, (Iv r139))] [(21, (.row 26 [[(iC g.Points), (xF encTBar g.Bars)]])), (22, (.row 165 [[(xF encInt p.Free), (xF encInt p.Tails), (xF encInt p.Placed)]])), (23, (.row 165 [[(sC nilV), (sC nilV), (sC nilV)]])), (24, (pR 3 encInt s96.2.1)), (25, (pR 3 encInt s96.2.2.1)), (26, (pR 4 encBool s96.2.2.2))] ⟨rfl, rfl, rfl, rfl, rfl, rfl, rfl, rfl, rfl, rfl, rfl, rfl, trivial⟩ ⟨rfl, rfl, rfl, rfl, rfl, rfl, trivial⟩ ?_
       refine Wr ?_
       refine mv (Cc (lo 26 s96.2.2.2.length)) rfl rfl rfl rfl ?_
       refine mv (Iv r139) rfl rfl rfl rfl ?_
       refine Ob' fun x140 hx140 => ?_
       refine Op21 (LT.tindexLoc rfl rfl el193 hx140) rfl rfl rfl rfl rfl ?_
       refine Op11 (LT.tload1 (k := 0) rfl ag4 hx140 (by exact rfl) (by exact rfl)) rfl rfl rfl rfl ?_
       refine On ?_
       refine AWR.cond rfl (fun hc141 => ?_) (fun hc141 => ?_)
       ·refine AWR.exit rfl (Wr ?_)
        refine mv (Iv s96.1) rfl rfl rfl rfl ?_
        refine Op20 (LT.add rfl) rfl ⟨rfl, rfl⟩ rfl rfl ?_
        refine asg (Iv (w64 (s96.1 + 1))) rfl rfl rfl rfl ?_
        refine On ?_
        refine AWR.nil ⟨rfl, Ent.of ⟨rfl, rfl, rfl, rfl, rfl, rfl, rfl, rfl, rfl, rfl, rfl, trivial⟩ ⟨rfl, rfl, rfl, rfl, rfl, rfl, trivial⟩⟩
       ·refine AWR.skip (Ws (Wr ?_))
        refine mv (Cc (lo 26 s96.2.2.2.length)) rfl rfl rfl rfl ?_
        refine mv (Iv r139) rfl rfl rfl rfl ?_
        refine Ob' fun x142 hx142 => ?_
        refine Op21 (LT.tindexLoc rfl rfl el193 hx142) rfl rfl rfl rfl rfl ?_
        refine Os21 (LT.tstore (k := 0) (v := (.c (bC true))) (b' := true) rfl rfl (infS inf4) sz4 (by exact rfl) hx142 (by exact rfl) (by exact Nat.le_of_ble_eq_true rfl) (by exact rfl)) rfl ⟨rfl, rfl⟩ rfl rfl rfl ?_
        refine On (Ws (Wr ?_))
        refine mv (Cc (lo 24 s96.2.1.length)) rfl rfl rfl rfl ?_
        refine mv (Iv r139) rfl rfl rfl rfl ?_
        refine mv (Iv s96.1) rfl rfl rfl rfl ?_
        refine Ob' fun x143 hx143 => ?_
        refine Op21 (LT.tindexLoc rfl rfl el37 hx143) rfl rfl rfl rfl rfl ?_
        refine Os21 (LT.tstore (k := 0) (v := (.c (iC s96.1))) (b' := s96.1) rfl rfl (infS inf3) sz3 (by exact rfl) hx143 (by exact rfl) (by exact Nat.le_of_ble_eq_true rfl) (by exact rfl)) rfl rfl rfl rfl rfl ?_
        refine On (Ws (Ws ?_))
        refine AWR.joinK (fun j146 => ([(2, (Iv a)), (3, (Iv b)), (4, (Cc (.pl 21 0))), (5, (Cc (.pl 22 0))), (8, (Cc (.pl 23 0))), (10, (Cc (lo 24 ((s96.2.1.set r139.toNat s96.1).length)))), (12, (Cc (lo 25 s96.2.2.1.length))), (13, (Cc (lo 26 ((s96.2.2.2.set r139.toNat true).length)))), (14, (Iv s12.1)), (15, (Iv x95)), (16, (Iv s96.1)), (17, (Iv r139)), (94, (Bv j146))], [(21, (.row 26 [[(iC g.Points), (xF encTBar g.Bars)]])), (22, (.row 165 [[(xF encInt p.Free), (xF encInt p.Tails), (xF encInt p.Placed)]])), (23, (.row 165 [[(sC nilV), (sC nilV), (sC nilV)]])), (24, (pR 3 encInt (s96.2.1.set r139.toNat s96.1))), (25, (pR 3 encInt s96.2.2.1)), (26, (pR 4 encBool (s96.2.2.2.set r139.toNat true)))])) ?_ (fun j146 _ => ?_)
        ·refine en [(2, (Iv a)), (3, (Iv b)), (4, (Cc (.pl 21 0))), (5, (Cc (.pl 22 0))), (8, (Cc (.pl 23 0))), (10, (Cc (lo 24 s96.2.1.length))), (12, (Cc (lo 25 s96.2.2.1.length))), (13, (Cc (lo 26 s96.2.2.2.length))), (14, (Iv s12.1)), (15, (Iv x95)), (16, (Iv s96.1)), (17, (Iv r139))] [(21, (.row 26 [[(iC g.Points), (xF encTBar g.Bars)]])), (22, (.row 165 [[(xF encInt p.Free), (xF encInt p.Tails), (xF encInt p.Placed)]])), (23, (.row 165 [[(sC nilV), (sC nilV), (sC nilV)]])), (24, (pR 3 encInt (s96.2.1.set r139.toNat s96.1))), (25, (pR 3 encInt s96.2.2.1)), (26, (pR 4 encBool (s96.2.2.2.set r139.toNat true)))] ⟨rfl, rfl, rfl, rfl, rfl, rfl, rfl, rfl, rfl, rfl, rfl, rfl, trivial⟩ ⟨rfl, rfl, rfl, rfl, rfl, rfl, trivial⟩ ?_
         refine Wr ?_
         refine mv (Iv r139) rfl rfl rfl rfl ?_
         refine mv (Iv b) rfl rfl rfl rfl ?_
         refine Op20 (LT.neq rfl) rfl rfl rfl rfl ?_
         refine mv (Bv (r139 != b)) rfl rfl rfl rfl ?_
         refine AOR.split (fun hb147 => ?_) (fun hb147 => ?_)
         ·refine Op10 (LT.fieldPl rfl fo165_0) rfl ⟨_, rfl, .inl ⟨_, rfl, (by rw [hb147]; rfl)⟩⟩ rfl ?_
          refine Op11 (LT.bload1 (c := (xF encInt p.Free)) rfl ag37 (by exact rfl)) rfl rfl ⟨_, rfl, .inl ⟨_, rfl, (by rw [hb147]; rfl)⟩⟩ rfl ?_
          refine mv (Iv r139) rfl rfl ⟨_, rfl, .inl ⟨_, rfl, (by rw [hb147]; rfl)⟩⟩ rfl ?_
          refine Ob' fun x148 hx148 => ?_
          refine Op20 (LT.tindexRO (enc := encInt) rfl el37 hx148 sz3) rfl rfl ⟨_, rfl, .inl ⟨_, rfl, (by rw [hb147]; rfl)⟩⟩ rfl ?_
          refine Op10 (LT.loadPx1 rfl ag3) rfl ⟨_, rfl, .inl ⟨_, rfl, (by rw [hb147]; rfl)⟩⟩ rfl ?_
          refine Op20 (LT.gtr rfl) rfl ⟨rfl, rfl⟩ ⟨_, rfl, .inl ⟨_, rfl, (by rw [hb147]; rfl)⟩⟩ rfl ?_
          refine Op20 (LT.pickT (v := (Bv (decide (0 < x148)))) rfl hb147) rfl rfl rfl rfl ?_
          refine On ?_
          refine AWR.nil ⟨rfl, Ent.of ⟨rfl, rfl, rfl, rfl, rfl, (congrArg (fun l1 => (some (AV.s (.c (lo 24 l1))) : Option AV)) (show s96.2.1.length = (s96.2.1.set r139.toNat s96.1).length by simp only [List.length_set])), rfl, (congrArg (fun l1 => (some (AV.s (.c (lo 26 l1))) : Option AV)) (show s96.2.2.2.length = (s96.2.2.2.set r139.toNat true).length by simp only [List.length_set])), rfl, rfl, rfl, rfl, rfl, trivial⟩ ⟨rfl, rfl, rfl, rfl, rfl, rfl, trivial⟩⟩
         ·refine Ok rfl rfl rfl (by rw [hb147]; rfl) rfl ?_
          refine Ok rfl rfl rfl (by rw [hb147]; rfl) rfl ?_
          refine Ok rfl rfl rfl (by rw [hb147]; rfl) rfl ?_
          refine Ok rfl rfl rfl (by rw [hb147]; rfl) rfl ?_
          refine Ok rfl rfl rfl (by rw [hb147]; rfl) rfl ?_
          refine Ok rfl rfl rfl (by rw [hb147]; rfl) rfl ?_
          refine Op20 (LT.pickF (v := (Bv false)) rfl hb147) rfl ⟨rfl, rfl⟩ rfl rfl ?_
          refine On ?_
          refine AWR.nil ⟨rfl, Ent.of ⟨rfl, rfl, rfl, rfl, rfl, (congrArg (fun l1 => (some (AV.s (.c (lo 24 l1))) : Option AV)) (show s96.2.1.length = (s96.2.1.set r139.toNat s96.1).length by simp only [List.length_set])), rfl, (congrArg (fun l1 => (some (AV.s (.c (lo 26 l1))) : Option AV)) (show s96.2.2.2.length = (s96.2.2.2.set r139.toNat true).length by simp only [List.length_set])), rfl, rfl, rfl, rfl, rfl, trivial⟩ ⟨rfl, rfl, rfl, rfl, rfl, rfl, trivial⟩⟩
        ·refine AWR.cond rfl (fun hc149 => ?_) (fun hc149 => ?_)
         ·refine Ws (Wr ?_)
          refine Op11 (LT.bloadN (out := [(iC g.Points), (xF encTBar g.Bars)]) rfl ag26 (infS inf26) sz26 (by exact rfl) (by exact rfl)) rfl rfl rfl rfl ?_
          refine Op11 (LT.bloadN (out := [(xF encInt p.Free), (xF encInt p.Tails), (xF encInt p.Placed)]) rfl ag165 (infS inf165) sz165 (by exact rfl) (by exact rfl)) rfl rfl rfl rfl ?_
          refine mv (Cc (lo 24 ((s96.2.1.set r139.toNat s96.1).length))) rfl rfl rfl rfl ?_
          refine mv (Iv a) rfl rfl rfl rfl ?_
          refine mv (Iv r139) rfl rfl rfl rfl ?_
          refine Ob' fun r150 hr150 => ?_
          refine AOR.step (@LT.callF Try.prog _ _ 259 _ _ [(.agg [(iC g.Points), (xF encTBar g.Bars)]), (.agg [(xF encInt p.Free), (xF encInt p.Tails), (xF encInt p.Placed)]), (.c (lo 24 ((s96.2.1.set r139.toNat s96.1).length))), (.c (iC a)), (.c (iC r139))] _ _ [(24, (pR 3 encInt (s96.2.1.set r139.toNat s96.1)))] _ _ _ _ ((show Fw.Fn Try.prog 259 [(.agg [(iC g.Points), (xF encTBar g.Bars)]), (.agg [(xF encInt p.Free), (xF encInt p.Tails), (xF encInt p.Placed)]), (.c (xF encInt (s96.2.1.set r139.toNat s96.1))), (.c (iC a)), (.c (iC r139))] [] (Ag  [(lo 29 r150.Free.length), (lo 30 r150.Tails.length), (lo 31 r150.Placed.length)]) [(29, (pR 3 encInt r150.Free)), (30, (pR 3 encInt r150.Tails)), (31, (pR 3 encInt r150.Placed))] [] [29, 30, 31] from Fw.Fn.ren [(0, 29), (1, 30), (2, 31)] (w_spec_l4Shift g p (s96.2.1.set r139.toNat s96.1) a r139 r150 hr150) rfl)) rfl cb259 (.cons (.agg (.cons (.same rfl) (.cons (.same rfl) .nil))) (.cons (.agg (.cons (.same rfl) (.cons (.same rfl) (.cons (.same rfl) .nil)))) (.cons (.c (.tloc rfl rfl)) (.cons (.c (.same rfl)) (.cons (.c (.same rfl)) .nil))))) rfl rfl trivial) ⟨rfl, rfl, rfl, rfl, rfl, rfl, trivial⟩ ⟨rfl, trivial⟩ rfl rfl ?_
          refine Os21 (LT.bstore (v := (.agg [(lo 29 r150.Free.length), (lo 30 r150.Tails.length), (lo 31 r150.Placed.length)])) (out := [(lo 29 r150.Free.length), (lo 30 r150.Tails.length), (lo 31 r150.Placed.length)]) rfl rfl (infS inf165) sz165 (by exact rfl) (by exact Nat.le_of_ble_eq_true rfl) (by exact rfl)) rfl rfl rfl rfl rfl ?_
          refine asg (Bv true) rfl ⟨rfl, rfl⟩ rfl rfl ?_
          refine On ?_
          refine en [(8, (Cc (.pl 23 0))), (9, (Bv true))] [(23, (.row 165 [[(lo 29 r150.Free.length), (lo 30 r150.Tails.length), (lo 31 r150.Placed.length)]])), (29, (pR 3 encInt r150.Free)), (30, (pR 3 encInt r150.Tails)), (31, (pR 3 encInt r150.Placed))] ⟨rfl, rfl, trivial⟩ ⟨rfl, rfl, rfl, rfl, trivial⟩ ?_
          refine AWR.ent (Ent.mv 29 0 rfl rfl) ?_
          refine AWR.ent (Ent.mv 30 1 rfl rfl) ?_
          refine AWR.ent (Ent.mv 31 2 rfl rfl) ?_
          refine en [(8, (Cc (.pl 23 0))), (9, (Bv true))] [(0, (pR 3 encInt r150.Free)), (1, (pR 3 encInt r150.Tails)), (2, (pR 3 encInt r150.Placed)), (23, (.row 165 [[(lo 0 r150.Free.length), (lo 1 r150.Tails.length), (lo 2 r150.Placed.length)]]))] ⟨rfl, rfl, trivial⟩ ⟨rfl, rfl, rfl, rfl, trivial⟩ ?_
          refine AWR.ret ⟨rfl, FPost.mk (.inr rfl) ⟨⟨_, _, _, rfl, rfl, rfl, ag165, sz165, _, (infS inf165)⟩, rfl, trivial⟩ ⟨rfl, rfl, rfl, trivial⟩ rfl ⟨⟨trivial, trivial, trivial, trivial⟩, PermP.sc, trivial⟩ ⟨PermO.prow' perm_encInt, PermO.prow' perm_encInt, PermO.prow' perm_encInt, trivial⟩⟩
         ·refine AWR.skip (Wr ?_)
          refine mv (Cc (lo 25 s96.2.2.1.length)) rfl rfl rfl rfl ?_
          refine mv (Iv r139) rfl rfl rfl rfl ?_
          refine Os10 (LT.tbuildSlice (n := 32) (enc := encInt) [(0, .tmp 102, (.c (iC r139)))] ([r139] : List Int) rfl rfl und37 ti3 rfl rfl rfl rfl (by decide) (fun _ => rfl) rfl) rfl rfl rfl ?_
          refine Ob' fun u151 hu151 => ?_
          refine Os22 (LT.tappP (enc := encInt) rfl rfl rfl und37 ti3 rfl (by decide) (by decide) (fun _ => rfl) (lim_le hu151)) rfl rfl rfl rfl rfl rfl ?_
          refine asg (Cc (lo 25 ((s96.2.2.1 ++ ([r139] : List Int)).length))) rfl rfl rfl rfl ?_
          refine On (AWR.blk (Wr ?_))
          refine mv (Iv s96.1) rfl rfl rfl rfl ?_
          refine Op20 (LT.add rfl) rfl ⟨rfl, rfl⟩ rfl rfl ?_
          refine asg (Iv (w64 (s96.1 + 1))) rfl rfl rfl rfl ?_
          refine On ?_
          refine AWR.nil ⟨rfl, Ent.of ⟨rfl, rfl, rfl, rfl, rfl, rfl, rfl, rfl, rfl, rfl, rfl, trivial⟩ ⟨rfl, rfl, rfl, rfl, rfl, rfl, trivial⟩⟩
     ·refine AWR.exit_end rfl ⟨rfl, Ent.of ⟨rfl, rfl, rfl, rfl, rfl, rfl, rfl, rfl, rfl, trivial⟩ ⟨rfl, rfl, rfl, rfl, rfl, rfl, trivial⟩⟩
    ·refine AWR.blk (Wr ?_)
     refine mv (Iv b133.1) rfl rfl rfl rfl ?_
     refine Op20 (LT.add rfl) rfl ⟨rfl, rfl⟩ rfl rfl ?_
     refine asg (Iv (w64 (b133.1 + 1))) rfl rfl rfl rfl ?_
     refine On ?_
     refine AWR.nil ⟨rfl, Ent.of ⟨rfl, rfl, rfl, rfl, rfl, rfl, rfl, rfl, rfl, trivial⟩ ⟨rfl, rfl, rfl, rfl, rfl, rfl, trivial⟩⟩
   ·refine AWR.exit_end rfl ⟨rfl, Ent.of ⟨rfl, rfl, trivial⟩ ⟨rfl, rfl, trivial⟩⟩
  ·refine Ws (Wr ?_)
   refine Op11 (LT.bloadN (out := [(xF encInt p.Free), (xF encInt p.Tails), (xF encInt p.Placed)]) rfl ag165 (infS inf165) sz165 (by exact rfl) (by exact rfl)) rfl rfl rfl rfl ?_
   refine Os21 (LT.bstore (v := (.agg [(xF encInt p.Free), (xF encInt p.Tails), (xF encInt p.Placed)])) (out := [(xF encInt p.Free), (xF encInt p.Tails), (xF encInt p.Placed)]) rfl rfl (infS inf165) sz165 (by exact rfl) (by exact Nat.le_of_ble_eq_true rfl) (by exact rfl)) rfl rfl rfl rfl rfl ?_
   refine asg (Bv false) rfl ⟨rfl, rfl⟩ rfl rfl ?_
   refine On ?_
   refine AWR.ent (Ent.junkB 23 0 rfl) ?_
   refine AWR.ent (Ent.junkB 23 1 rfl) ?_
   refine AWR.ent (Ent.junkB 23 2 rfl) ?_
   refine AWR.ent (Ent.nilNew 0 3 rfl) ?_
   refine AWR.ent (Ent.nilNew 1 3 rfl) ?_
   refine AWR.ent (Ent.nilNew 2 3 rfl) ?_
   refine en [(8, (Cc (.pl 23 0))), (9, (Bv false))] [(0, (pR 3 encInt ([] : List Int))), (1, (pR 3 encInt ([] : List Int))), (2, (pR 3 encInt ([] : List Int))), (23, (.row 165 [[.junk, .junk, .junk]]))] ⟨rfl, rfl, trivial⟩ ⟨rfl, rfl, rfl, rfl, trivial⟩ ?_
   refine AWR.ret (FPost.mk (.inr rfl) ⟨⟨_, _, _, rfl, rfl, rfl, ag165, sz165, _, (infS inf165)⟩, rfl, trivial⟩ ⟨rfl, rfl, rfl, trivial⟩ rfl ⟨⟨trivial, trivial, trivial, trivial⟩, PermP.sc, trivial⟩ ⟨PermO.prow' perm_encInt, PermO.prow' perm_encInt, PermO.prow' perm_encInt, trivial⟩)
end Go.Proofs.Ytghofbijdnenoaa
end
section
set_option linter.unusedVariables false
set_option linter.unusedSimpArgs false
set_option linter.unnecessarySimpa false
set_option maxRecDepth 100000
set_option maxHeartbeats 8000000
open Go Go.Fw
namespace Go.Proofs.Ytghofbijdnenoaa
theorem w_spec_l4Gather (g : TGraph) (p : TPebbles) (a : Int) (b : Int) (want : Int) : ∀ t, m_spec_l4Gather g p a b want = some t → Fw.Fn Try.prog 254 [(.agg [(iC g.Points), (xF encTBar g.Bars)]), (.agg [(xF encInt p.Free), (xF encInt p.Tails), (xF encInt p.Placed)]), (.c (iC a)), (.c (iC b)), (.c (iC want))] [] (resA [(.agg [(lo 0 t.1.Free.length), (lo 1 t.1.Tails.length), (lo 2 t.1.Placed.length)]), (.c (bC t.2))]) [(0, (pR 3 encInt t.1.Free)), (1, (pR 3 encInt t.1.Tails)), (2, (pR 3 encInt t.1.Placed))] [] [0, 1, 2] := by
 refine Fw.Fn.of (P := Try.prog) (X := [0, 1, 2]) (pn := []) (rs := (fun (t : (TPebbles × Bool)) => [(.agg [(lo 0 t.1.Free.length), (lo 1 t.1.Tails.length), (lo 2 t.1.Placed.length)]), (.c (bC t.2))])) (dfs := (fun (t : (TPebbles × Bool)) => [(0, (pR 3 encInt t.1.Free)), (1, (pR 3 encInt t.1.Tails)), (2, (pR 3 encInt t.1.Placed))])) Try.func254 rfl Try.ntmps254 (Nat.le_of_ble_eq_true rfl) rfl ?_
 intro w0 U0 R0 g0
 unfold m_spec_l4Gather
 refine Ws (Wr ?_)
 refine Os10 (LT.box (n := 21) (v := (.agg [(iC g.Points), (xF encTBar g.Bars)])) rfl sz26 (by exact rfl)) rfl rfl rfl ?_
 refine Os10 (LT.box (n := 22) (v := (.agg [(xF encInt p.Free), (xF encInt p.Tails), (xF encInt p.Placed)])) rfl sz165 (by exact rfl)) rfl rfl rfl ?_
 refine Os00 (LT.alloc (n := 23) (cells := [(sC nilV), (sC nilV), (sC nilV)]) rfl ti165 rfl rfl rfl) rfl rfl ?_
 refine asg (Bv false) rfl ⟨rfl, rfl⟩ rfl rfl ?_
 refine On (Ws (Wr ?_))
 refine Op11 (LT.bloadN (out := [(xF encInt p.Free), (xF encInt p.Tails), (xF encInt p.Placed)]) rfl ag165 (infS inf165) sz165 (by exact rfl) (by exact rfl)) rfl rfl rfl rfl ?_
 refine Ob' fun r1 hr1 => ?_
 refine AOR.step (@LT.callF Try.prog _ _ 253 _ _ [(.agg [(xF encInt p.Free), (xF encInt p.Tails), (xF encInt p.Placed)])] _ _ [] _ _ _ _ ((show Fw.Fn Try.prog 253 [(.agg [(xF encInt p.Free), (xF encInt p.Tails), (xF encInt p.Placed)])] [] (Ag  [(lo 25 r1.Free.length), (lo 26 r1.Tails.length), (lo 27 r1.Placed.length)]) [(25, (pR 3 encInt r1.Free)), (26, (pR 3 encInt r1.Tails)), (27, (pR 3 encInt r1.Placed))] [] [25, 26, 27] from Fw.Fn.ren [(0, 25), (1, 26), (2, 27)] (w_spec_l4Copy p r1 hr1) rfl)) rfl cb253 (.cons (.agg (.cons (.same rfl) (.cons (.same rfl) (.cons (.same rfl) .nil)))) .nil) rfl rfl trivial) ⟨rfl, rfl, trivial⟩ trivial rfl rfl ?_
 refine Os00 (LT.alloc (n := 28) (cells := [(sC nilV), (sC nilV), (sC nilV)]) rfl ti165 rfl rfl rfl) rfl rfl ?_
 refine Os21 (LT.bstore (v := (.agg [(lo 25 r1.Free.length), (lo 26 r1.Tails.length), (lo 27 r1.Placed.length)])) (out := [(lo 25 r1.Free.length), (lo 26 r1.Tails.length), (lo 27 r1.Placed.length)]) rfl rfl (infS inf165) sz165 (by exact rfl) (by exact Nat.le_of_ble_eq_true rfl) (by exact rfl)) rfl rfl rfl rfl rfl ?_
 refine On (Ws (AWR.block ?_))
 refine AWR.loopR (id := 0) (m_spec_l4Gather_L1 g a b want) (fun s2 => ([(2, (Iv a)), (3, (Iv b)), (4, (Iv want)), (5, (Cc (.pl 21 0))), (10, (Cc (.pl 23 0))), (12, (Cc (.pl 28 0)))], [(21, (.row 26 [[(iC g.Points), (xF encTBar g.Bars)]])), (23, (.row 165 [[(sC nilV), (sC nilV), (sC nilV)]])), (25, (pR 3 encInt s2.1)), (26, (pR 3 encInt s2.2.1)), (27, (pR 3 encInt s2.2.2)), (28, (.row 165 [[(lo 25 s2.1.length), (lo 26 s2.2.1.length), (lo 27 s2.2.2.length)]]))])) (fun b27 => ([(10, (Cc (.pl 23 0))), (12, (Cc (.pl 28 0)))], [(23, (.row 165 [[(sC nilV), (sC nilV), (sC nilV)]])), (25, (pR 3 encInt b27.1)), (26, (pR 3 encInt b27.2.1)), (27, (pR 3 encInt b27.2.2)), (28, (.row 165 [[(lo 25 b27.1.length), (lo 26 b27.2.1.length), (lo 27 b27.2.2.length)]]))])) (FPost Try.prog Try.f254.results.toList [] [0, 1, 2] (fun (t : (TPebbles × Bool)) => [(.agg [(lo 0 t.1.Free.length), (lo 1 t.1.Tails.length), (lo 2 t.1.Placed.length)]), (.c (bC t.2))]) (fun (t : (TPebbles × Bool)) => [(0, (pR 3 encInt t.1.Free)), (1, (pR 3 encInt t.1.Tails)), (2, (pR 3 encInt t.1.Placed))])) ?_ (Ent.of ⟨rfl, rfl, rfl, rfl, rfl, rfl, trivial⟩ ⟨rfl, rfl, rfl, rfl, rfl, rfl, trivial⟩) rfl (fun b27 _ => ?_) (by intro r t σ m ht hk; injection ht with ht; subst ht; exact hk)
 ·intro s2
  unfold m_spec_l4Gather_L1
  refine Ws (Ws (AWR.draw mixed ?_))
  refine Dp10 (LT.fieldPl rfl fo165_0) rfl rfl rfl ?_
  refine Dp11 (LT.bload1 (c := (lo 25 s2.1.length)) rfl ag37 (by exact rfl)) rfl rfl rfl rfl ?_
  refine Dp10 (LT.move (v := (Iv a)) rfl) rfl rfl rfl ?_
  refine AOD.bind fun x28 hx28 => ?_
  refine Dp21 (LT.tindexLoc rfl rfl el37 hx28) rfl rfl rfl rfl rfl ?_
  refine Dp11 (LT.tload1 (k := 0) rfl ag3 hx28 (by exact rfl) (by exact rfl)) rfl rfl rfl rfl ?_
  refine Dp10 (LT.fieldPl rfl fo165_0) rfl rfl rfl ?_
  refine Dp11 (LT.bload1 (c := (lo 25 s2.1.length)) rfl ag37 (by exact rfl)) rfl rfl rfl rfl ?_
  refine Dp10 (LT.move (v := (Iv b)) rfl) rfl rfl rfl ?_
  refine AOD.bind fun x29 hx29 => ?_
  refine Dp21 (LT.tindexLoc rfl rfl el37 hx29) rfl rfl rfl rfl rfl ?_
  refine Dp11 (LT.tload1 (k := 0) rfl ag3 hx29 (by exact rfl) (by exact rfl)) rfl rfl rfl rfl ?_
  refine Dp20 (LT.add rfl) rfl rfl rfl rfl ?_
  refine Dp10 (LT.move (v := (Iv want)) rfl) rfl rfl rfl ?_
  refine Dp20 (LT.lss rfl) rfl rfl rfl rfl ?_
  refine AOD.nil (by kernel_rfl) ?_
  refine AWR.cond rfl (fun hc30 => ?_) (fun hc30 => ?_)
  ·refine AWR.skip (AWR.block (Ws ?_))
   refine en [(2, (Iv a)), (3, (Iv b)), (4, (Iv want)), (5, (Cc (.pl 21 0))), (10, (Cc (.pl 23 0))), (12, (Cc (.pl 28 0)))] [(21, (.row 26 [[(iC g.Points), (xF encTBar g.Bars)]])), (23, (.row 165 [[(sC nilV), (sC nilV), (sC nilV)]])), (25, (pR 3 encInt s2.1)), (26, (pR 3 encInt s2.2.1)), (27, (pR 3 encInt s2.2.2)), (28, (.row 165 [[(lo 25 s2.1.length), (lo 26 s2.2.1.length), (lo 27 s2.2.2.length)]]))] ⟨rfl, rfl, rfl, rfl, rfl, rfl, trivial⟩ ⟨rfl, rfl, rfl, rfl, rfl, rfl, trivial⟩ ?_
   refine Wr ?_
   refine Op11 (LT.bloadN (out := [(iC g.Points), (xF encTBar g.Bars)]) rfl ag26 (infS inf26) sz26 (by exact rfl) (by exact rfl)) rfl rfl rfl rfl ?_
   refine Op11 (LT.bloadN (out := [(lo 25 s2.1.length), (lo 26 s2.2.1.length), (lo 27 s2.2.2.length)]) rfl ag165 (infS inf165) sz165 (by exact rfl) (by exact rfl)) rfl rfl rfl rfl ?_
   refine mv (Iv a) rfl rfl rfl rfl ?_
   refine mv (Iv b) rfl rfl rfl rfl ?_
   refine Ob' fun r31 hr31 => ?_
   refine AOR.split (fun hb32 => ?_) (fun hb32 => ?_)
   ·refine AOR.step (@LT.callF Try.prog _ _ 257 _ _ [(.agg [(iC g.Points), (xF encTBar g.Bars)]), (.agg [(lo 25 s2.1.length), (lo 26 s2.2.1.length), (lo 27 s2.2.2.length)]), (.c (iC a)), (.c (iC b))] _ _ [(25, (pR 3 encInt s2.1)), (26, (pR 3 encInt s2.2.1)), (27, (pR 3 encInt s2.2.2))] _ _ _ _ ((show Fw.Fn Try.prog 257 [(.agg [(iC g.Points), (xF encTBar g.Bars)]), (.agg [(xF encInt ((TPebbles.mk s2.1 s2.2.1 s2.2.2).Free)), (xF encInt ((TPebbles.mk s2.1 s2.2.1 s2.2.2).Tails)), (xF encInt ((TPebbles.mk s2.1 s2.2.1 s2.2.2).Placed))]), (.c (iC a)), (.c (iC b))] [] (.tup [(.agg [(lo 30 r31.1.Free.length), (lo 31 r31.1.Tails.length), (lo 32 r31.1.Placed.length)]), (.c (bC true))]) [(30, (pR 3 encInt r31.1.Free)), (31, (pR 3 encInt r31.1.Tails)), (32, (pR 3 encInt r31.1.Placed))] [] [30, 31, 32] from Fw.Fn.ren [(0, 30), (1, 31), (2, 32)] ((by have q := w_spec_l4Find g (TPebbles.mk s2.1 s2.2.1 s2.2.2) a b r31 hr31; rw [hb32] at q; exact q)) rfl)) rfl cb257 (.cons (.agg (.cons (.same rfl) (.cons (.same rfl) .nil))) (.cons (.agg (.cons (.tloc rfl rfl) (.cons (.tloc rfl rfl) (.cons (.tloc rfl rfl) .nil)))) (.cons (.c (.same rfl)) (.cons (.c (.same rfl)) .nil)))) rfl rfl trivial) ⟨rfl, rfl, rfl, rfl, rfl, trivial⟩ ⟨rfl, rfl, rfl, trivial⟩ rfl rfl ?_
    refine mv (.tup [(.agg [(lo 30 r31.1.Free.length), (lo 31 r31.1.Tails.length), (lo 32 r31.1.Placed.length)]), (.c (bC true))]) rfl rfl rfl rfl ?_
    refine Op10 (LT.extract (v := (.agg [(lo 30 r31.1.Free.length), (lo 31 r31.1.Tails.length), (lo 32 r31.1.Placed.length)])) rfl (by exact rfl)) rfl rfl rfl ?_
    refine Op10 (LT.extract (v := (.c (bC true))) rfl (by exact rfl)) rfl rfl rfl ?_
    refine Os00 (LT.alloc (n := 33) (cells := [(sC nilV), (sC nilV), (sC nilV)]) rfl ti165 rfl rfl rfl) rfl rfl ?_
    refine Os21 (LT.bstore (v := (.agg [(lo 30 r31.1.Free.length), (lo 31 r31.1.Tails.length), (lo 32 r31.1.Placed.length)])) (out := [(lo 30 r31.1.Free.length), (lo 31 r31.1.Tails.length), (lo 32 r31.1.Placed.length)]) rfl rfl (infS inf165) sz165 (by exact rfl) (by exact Nat.le_of_ble_eq_true rfl) (by exact rfl)) rfl rfl rfl rfl rfl ?_
    refine asg (Bv true) rfl rfl rfl rfl ?_
    refine On (Ws (Ws ?_))
    refine en [(2, (Iv a)), (3, (Iv b)), (4, (Iv want)), (5, (Cc (.pl 21 0))), (10, (Cc (.pl 23 0))), (12, (Cc (.pl 28 0))), (13, (Cc (.pl 33 0))), (14, (Bv true))] [(21, (.row 26 [[(iC g.Points), (xF encTBar g.Bars)]])), (23, (.row 165 [[(sC nilV), (sC nilV), (sC nilV)]])), (25, (pR 3 encInt s2.1)), (26, (pR 3 encInt s2.2.1)), (27, (pR 3 encInt s2.2.2)), (28, (.row 165 [[(lo 25 s2.1.length), (lo 26 s2.2.1.length), (lo 27 s2.2.2.length)]])), (30, (pR 3 encInt r31.1.Free)), (31, (pR 3 encInt r31.1.Tails)), (32, (pR 3 encInt r31.1.Placed)), (33, (.row 165 [[(lo 30 r31.1.Free.length), (lo 31 r31.1.Tails.length), (lo 32 r31.1.Placed.length)]]))] ⟨rfl, rfl, rfl, rfl, rfl, rfl, rfl, rfl, trivial⟩ ⟨rfl, rfl, rfl, rfl, rfl, rfl, rfl, rfl, rfl, rfl, trivial⟩ ?_
    refine Wr ?_
    refine mv (Bv true) rfl rfl rfl rfl ?_
    refine Op10 (LT.not rfl) rfl rfl rfl ?_
    refine On ?_
    refine AWR.cond rfl (fun hc33 => ?_) (fun hc33 => ?_)
    ·exact AWR.none
    ·refine AWR.skip (Ws (Ws (Wr ?_)))
     refine mv (Bv true) rfl rfl rfl rfl ?_
     refine Op10 (LT.not rfl) rfl rfl rfl ?_
     refine On ?_
     refine AWR.cond rfl (fun hc34 => ?_) (fun hc34 => ?_)
     ·exact AWR.none
     ·refine AWR.skip (Wr ?_)
      refine Op11 (LT.bloadN (out := [(lo 30 r31.1.Free.length), (lo 31 r31.1.Tails.length), (lo 32 r31.1.Placed.length)]) rfl ag165 (infS inf165) sz165 (by exact rfl) (by exact rfl)) rfl rfl rfl rfl ?_
      refine Os21 (LT.bstore (v := (.agg [(lo 30 r31.1.Free.length), (lo 31 r31.1.Tails.length), (lo 32 r31.1.Placed.length)])) (out := [(lo 30 r31.1.Free.length), (lo 31 r31.1.Tails.length), (lo 32 r31.1.Placed.length)]) rfl rfl (infS inf165) sz165 (by exact rfl) (by exact Nat.le_of_ble_eq_true rfl) (by exact rfl)) rfl rfl rfl rfl rfl ?_
      refine On (AWR.blk ?_)
      refine en [(2, (Iv a)), (3, (Iv b)), (4, (Iv want)), (5, (Cc (.pl 21 0))), (10, (Cc (.pl 23 0))), (12, (Cc (.pl 28 0)))] [(21, (.row 26 [[(iC g.Points), (xF encTBar g.Bars)]])), (23, (.row 165 [[(sC nilV), (sC nilV), (sC nilV)]])), (28, (.row 165 [[(lo 30 r31.1.Free.length), (lo 31 r31.1.Tails.length), (lo 32 r31.1.Placed.length)]])), (30, (pR 3 encInt r31.1.Free)), (31, (pR 3 encInt r31.1.Tails)), (32, (pR 3 encInt r31.1.Placed))] ⟨rfl, rfl, rfl, rfl, rfl, rfl, trivial⟩ ⟨rfl, rfl, rfl, rfl, rfl, rfl, trivial⟩ ?_
      refine AWR.ent (Ent.mv 30 25 rfl rfl) ?_
      refine AWR.ent (Ent.mv 31 26 rfl rfl) ?_
      refine AWR.ent (Ent.mv 32 27 rfl rfl) ?_
      refine AWR.nil ⟨rfl, Ent.of ⟨rfl, rfl, rfl, rfl, rfl, rfl, trivial⟩ ⟨rfl, rfl, rfl, rfl, rfl, rfl, trivial⟩⟩
   ·refine AOR.step (@LT.callF Try.prog _ _ 257 _ _ [(.agg [(iC g.Points), (xF encTBar g.Bars)]), (.agg [(lo 25 s2.1.length), (lo 26 s2.2.1.length), (lo 27 s2.2.2.length)]), (.c (iC a)), (.c (iC b))] _ _ [(25, (pR 3 encInt s2.1)), (26, (pR 3 encInt s2.2.1)), (27, (pR 3 encInt s2.2.2))] _ _ _ _ ((show Fw.Fn Try.prog 257 [(.agg [(iC g.Points), (xF encTBar g.Bars)]), (.agg [(xF encInt ((TPebbles.mk s2.1 s2.2.1 s2.2.2).Free)), (xF encInt ((TPebbles.mk s2.1 s2.2.1 s2.2.2).Tails)), (xF encInt ((TPebbles.mk s2.1 s2.2.1 s2.2.2).Placed))]), (.c (iC a)), (.c (iC b))] [] (.tup [(.agg [.junk, .junk, .junk]), (.c (bC false))]) [(30, (pR 3 encInt ([] : List Int))), (31, (pR 3 encInt ([] : List Int))), (32, (pR 3 encInt ([] : List Int)))] [] [30, 31, 32] from Fw.Fn.ren [(0, 30), (1, 31), (2, 32)] ((by have q := w_spec_l4Find g (TPebbles.mk s2.1 s2.2.1 s2.2.2) a b r31 hr31; rw [hb32] at q; exact q)) rfl)) rfl cb257 (.cons (.agg (.cons (.same rfl) (.cons (.same rfl) .nil))) (.cons (.agg (.cons (.tloc rfl rfl) (.cons (.tloc rfl rfl) (.cons (.tloc rfl rfl) .nil)))) (.cons (.c (.same rfl)) (.cons (.c (.same rfl)) .nil)))) rfl rfl trivial) ⟨rfl, rfl, rfl, rfl, rfl, trivial⟩ ⟨rfl, rfl, rfl, trivial⟩ rfl rfl ?_
    refine mv (.tup [(.agg [.junk, .junk, .junk]), (.c (bC false))]) rfl rfl rfl rfl ?_
    refine Op10 (LT.extract (v := (.agg [.junk, .junk, .junk])) rfl (by exact rfl)) rfl rfl rfl ?_
    refine Op10 (LT.extract (v := (.c (bC false))) rfl (by exact rfl)) rfl rfl rfl ?_
    refine Os00 (LT.alloc (n := 33) (cells := [(sC nilV), (sC nilV), (sC nilV)]) rfl ti165 rfl rfl rfl) rfl rfl ?_
    refine Os21 (LT.bstore (v := (.agg [.junk, .junk, .junk])) (out := [.junk, .junk, .junk]) rfl rfl (infS inf165) sz165 (by exact rfl) (by exact Nat.le_of_ble_eq_true rfl) (by exact rfl)) rfl rfl rfl rfl rfl ?_
    refine asg (Bv false) rfl rfl rfl rfl ?_
    refine On (Ws (Ws ?_))
    refine en [(2, (Iv a)), (3, (Iv b)), (4, (Iv want)), (5, (Cc (.pl 21 0))), (10, (Cc (.pl 23 0))), (12, (Cc (.pl 28 0))), (13, (Cc (.pl 33 0))), (14, (Bv false))] [(21, (.row 26 [[(iC g.Points), (xF encTBar g.Bars)]])), (23, (.row 165 [[(sC nilV), (sC nilV), (sC nilV)]])), (25, (pR 3 encInt s2.1)), (26, (pR 3 encInt s2.2.1)), (27, (pR 3 encInt s2.2.2)), (28, (.row 165 [[(lo 25 s2.1.length), (lo 26 s2.2.1.length), (lo 27 s2.2.2.length)]])), (33, (.row 165 [[.junk, .junk, .junk]]))] ⟨rfl, rfl, rfl, rfl, rfl, rfl, rfl, rfl, trivial⟩ ⟨rfl, rfl, rfl, rfl, rfl, rfl, rfl, trivial⟩ ?_
    refine Wr ?_
    refine mv (Bv false) rfl rfl rfl rfl ?_
    refine Op10 (LT.not rfl) rfl rfl rfl ?_
    refine On ?_
    refine AWR.cond rfl (fun hc35 => ?_) (fun hc35 => ?_)
    ·refine Wr ?_
     refine Op11 (LT.bloadN (out := [(iC g.Points), (xF encTBar g.Bars)]) rfl ag26 (infS inf26) sz26 (by exact rfl) (by exact rfl)) rfl rfl rfl rfl ?_
     refine Op11 (LT.bloadN (out := [(lo 25 s2.1.length), (lo 26 s2.2.1.length), (lo 27 s2.2.2.length)]) rfl ag165 (infS inf165) sz165 (by exact rfl) (by exact rfl)) rfl rfl rfl rfl ?_
     refine mv (Iv b) rfl rfl rfl rfl ?_
     refine mv (Iv a) rfl rfl rfl rfl ?_
     refine Ob' fun r36 hr36 => ?_
     refine AOR.split (fun hb37 => ?_) (fun hb37 => ?_)
     ·refine AOR.step (@LT.callF Try.prog _ _ 257 _ _ [(.agg [(iC g.Points), (xF encTBar g.Bars)]), (.agg [(lo 25 s2.1.length), (lo 26 s2.2.1.length), (lo 27 s2.2.2.length)]), (.c (iC b)), (.c (iC a))] _ _ [(25, (pR 3 encInt s2.1)), (26, (pR 3 encInt s2.2.1)), (27, (pR 3 encInt s2.2.2))] _ _ _ _ ((show Fw.Fn Try.prog 257 [(.agg [(iC g.Points), (xF encTBar g.Bars)]), (.agg [(xF encInt ((TPebbles.mk s2.1 s2.2.1 s2.2.2).Free)), (xF encInt ((TPebbles.mk s2.1 s2.2.1 s2.2.2).Tails)), (xF encInt ((TPebbles.mk s2.1 s2.2.1 s2.2.2).Placed))]), (.c (iC b)), (.c (iC a))] [] (.tup [(.agg [(lo 35 r36.1.Free.length), (lo 36 r36.1.Tails.length), (lo 37 r36.1.Placed.length)]), (.c (bC true))]) [(35, (pR 3 encInt r36.1.Free)), (36, (pR 3 encInt r36.1.Tails)), (37, (pR 3 encInt r36.1.Placed))] [] [35, 36, 37] from Fw.Fn.ren [(0, 35), (1, 36), (2, 37)] ((by have q := w_spec_l4Find g (TPebbles.mk s2.1 s2.2.1 s2.2.2) b a r36 hr36; rw [hb37] at q; exact q)) rfl)) rfl cb257 (.cons (.agg (.cons (.same rfl) (.cons (.same rfl) .nil))) (.cons (.agg (.cons (.tloc rfl rfl) (.cons (.tloc rfl rfl) (.cons (.tloc rfl rfl) .nil)))) (.cons (.c (.same rfl)) (.cons (.c (.same rfl)) .nil)))) rfl rfl trivial) ⟨rfl, rfl, rfl, rfl, rfl, trivial⟩ ⟨rfl, rfl, rfl, trivial⟩ rfl rfl ?_
      refine mv (.tup [(.agg [(lo 35 r36.1.Free.length), (lo 36 r36.1.Tails.length), (lo 37 r36.1.Placed.length)]), (.c (bC true))]) rfl rfl rfl rfl ?_
      refine Op10 (LT.extract (v := (.agg [(lo 35 r36.1.Free.length), (lo 36 r36.1.Tails.length), (lo 37 r36.1.Placed.length)])) rfl (by exact rfl)) rfl rfl rfl ?_
      refine Op10 (LT.extract (v := (.c (bC true))) rfl (by exact rfl)) rfl rfl rfl ?_
      refine Os21 (LT.bstore (v := (.agg [(lo 35 r36.1.Free.length), (lo 36 r36.1.Tails.length), (lo 37 r36.1.Placed.length)])) (out := [(lo 35 r36.1.Free.length), (lo 36 r36.1.Tails.length), (lo 37 r36.1.Placed.length)]) rfl rfl (infS inf165) sz165 (by exact rfl) (by exact Nat.le_of_ble_eq_true rfl) (by exact rfl)) rfl rfl rfl rfl rfl ?_
      refine asg (Bv true) rfl rfl rfl rfl ?_
      refine On (Ws (Ws ?_))
      refine en [(2, (Iv a)), (3, (Iv b)), (4, (Iv want)), (5, (Cc (.pl 21 0))), (10, (Cc (.pl 23 0))), (12, (Cc (.pl 28 0))), (13, (Cc (.pl 33 0))), (14, (Bv true))] [(21, (.row 26 [[(iC g.Points), (xF encTBar g.Bars)]])), (23, (.row 165 [[(sC nilV), (sC nilV), (sC nilV)]])), (25, (pR 3 encInt s2.1)), (26, (pR 3 encInt s2.2.1)), (27, (pR 3 encInt s2.2.2)), (28, (.row 165 [[(lo 25 s2.1.length), (lo 26 s2.2.1.length), (lo 27 s2.2.2.length)]])), (33, (.row 165 [[(lo 35 r36.1.Free.length), (lo 36 r36.1.Tails.length), (lo 37 r36.1.Placed.length)]])), (35, (pR 3 encInt r36.1.Free)), (36, (pR 3 encInt r36.1.Tails)), (37, (pR 3 encInt r36.1.Placed))] ⟨rfl, rfl, rfl, rfl, rfl, rfl, rfl, rfl, trivial⟩ ⟨rfl, rfl, rfl, rfl, rfl, rfl, rfl, rfl, rfl, rfl, trivial⟩ ?_
      refine Wr ?_
      refine mv (Bv true) rfl rfl rfl rfl ?_
      refine Op10 (LT.not rfl) rfl rfl rfl ?_
      refine On ?_
      refine AWR.cond rfl (fun hc38 => ?_) (fun hc38 => ?_)
      ·exact AWR.none
      ·refine AWR.skip (Wr ?_)
       refine Op11 (LT.bloadN (out := [(lo 35 r36.1.Free.length), (lo 36 r36.1.Tails.length), (lo 37 r36.1.Placed.length)]) rfl ag165 (infS inf165) sz165 (by exact rfl) (by exact rfl)) rfl rfl rfl rfl ?_
       refine Os21 (LT.bstore (v := (.agg [(lo 35 r36.1.Free.length), (lo 36 r36.1.Tails.length), (lo 37 r36.1.Placed.length)])) (out := [(lo 35 r36.1.Free.length), (lo 36 r36.1.Tails.length), (lo 37 r36.1.Placed.length)]) rfl rfl (infS inf165) sz165 (by exact rfl) (by exact Nat.le_of_ble_eq_true rfl) (by exact rfl)) rfl rfl rfl rfl rfl ?_
       refine On (AWR.blk ?_)
       refine en [(2, (Iv a)), (3, (Iv b)), (4, (Iv want)), (5, (Cc (.pl 21 0))), (10, (Cc (.pl 23 0))), (12, (Cc (.pl 28 0)))] [(21, (.row 26 [[(iC g.Points), (xF encTBar g.Bars)]])), (23, (.row 165 [[(sC nilV), (sC nilV), (sC nilV)]])), (28, (.row 165 [[(lo 35 r36.1.Free.length), (lo 36 r36.1.Tails.length), (lo 37 r36.1.Placed.length)]])), (35, (pR 3 encInt r36.1.Free)), (36, (pR 3 encInt r36.1.Tails)), (37, (pR 3 encInt r36.1.Placed))] ⟨rfl, rfl, rfl, rfl, rfl, rfl, trivial⟩ ⟨rfl, rfl, rfl, rfl, rfl, rfl, trivial⟩ ?_
       refine AWR.ent (Ent.mv 35 25 rfl rfl) ?_
       refine AWR.ent (Ent.mv 36 26 rfl rfl) ?_
       refine AWR.ent (Ent.mv 37 27 rfl rfl) ?_
       refine AWR.nil ⟨rfl, Ent.of ⟨rfl, rfl, rfl, rfl, rfl, rfl, trivial⟩ ⟨rfl, rfl, rfl, rfl, rfl, rfl, trivial⟩⟩
     ·refine AOR.step (@LT.callF Try.prog _ _ 257 _ _ [(.agg [(iC g.Points), (xF encTBar g.Bars)]), (.agg [(lo 25 s2.1.length), (lo 26 s2.2.1.length), (lo 27 s2.2.2.length)]), (.c (iC b)), (.c (iC a))] _ _ [(25, (pR 3 encInt s2.1)), (26, (pR 3 encInt s2.2.1)), (27, (pR 3 encInt s2.2.2))] _ _ _ _ ((show Fw.Fn Try.prog 257 [(.agg [(iC g.Points), (xF encTBar g.Bars)]), (.agg [(xF encInt ((TPebbles.mk s2.1 s2.2.1 s2.2.2).Free)), (xF encInt ((TPebbles.mk s2.1 s2.2.1 s2.2.2).Tails)), (xF encInt ((TPebbles.mk s2.1 s2.2.1 s2.2.2).Placed))]), (.c (iC b)), (.c (iC a))] [] (.tup [(.agg [.junk, .junk, .junk]), (.c (bC false))]) [(35, (pR 3 encInt ([] : List Int))), (36, (pR 3 encInt ([] : List Int))), (37, (pR 3 encInt ([] : List Int)))] [] [35, 36, 37] from Fw.Fn.ren [(0, 35), (1, 36), (2, 37)] ((by have q := w_spec_l4Find g (TPebbles.mk s2.1 s2.2.1 s2.2.2) b a r36 hr36; rw [hb37] at q; exact q)) rfl)) rfl cb257 (.cons (.agg (.cons (.same rfl) (.cons (.same rfl) .nil))) (.cons (.agg (.cons (.tloc rfl rfl) (.cons (.tloc rfl rfl) (.cons (.tloc rfl rfl) .nil)))) (.cons (.c (.same rfl)) (.cons (.c (.same rfl)) .nil)))) rfl rfl trivial) ⟨rfl, rfl, rfl, rfl, rfl, trivial⟩ ⟨rfl, rfl, rfl, trivial⟩ rfl rfl ?_
      refine mv (.tup [(.agg [.junk, .junk, .junk]), (.c (bC false))]) rfl rfl rfl rfl ?_
      refine Op10 (LT.extract (v := (.agg [.junk, .junk, .junk])) rfl (by exact rfl)) rfl rfl rfl ?_
      refine Op10 (LT.extract (v := (.c (bC false))) rfl (by exact rfl)) rfl rfl rfl ?_
      refine Os21 (LT.bstore (v := (.agg [.junk, .junk, .junk])) (out := [.junk, .junk, .junk]) rfl rfl (infS inf165) sz165 (by exact rfl) (by exact Nat.le_of_ble_eq_true rfl) (by exact rfl)) rfl rfl rfl rfl rfl ?_
      refine asg (Bv false) rfl rfl rfl rfl ?_
      refine On (Ws (Ws ?_))
      refine en [(2, (Iv a)), (3, (Iv b)), (4, (Iv want)), (5, (Cc (.pl 21 0))), (10, (Cc (.pl 23 0))), (12, (Cc (.pl 28 0))), (13, (Cc (.pl 33 0))), (14, (Bv false))] [(21, (.row 26 [[(iC g.Points), (xF encTBar g.Bars)]])), (23, (.row 165 [[(sC nilV), (sC nilV), (sC nilV)]])), (25, (pR 3 encInt s2.1)), (26, (pR 3 encInt s2.2.1)), (27, (pR 3 encInt s2.2.2)), (28, (.row 165 [[(lo 25 s2.1.length), (lo 26 s2.2.1.length), (lo 27 s2.2.2.length)]])), (33, (.row 165 [[.junk, .junk, .junk]]))] ⟨rfl, rfl, rfl, rfl, rfl, rfl, rfl, rfl, trivial⟩ ⟨rfl, rfl, rfl, rfl, rfl, rfl, rfl, trivial⟩ ?_
      refine Wr ?_
      refine mv (Bv false) rfl rfl rfl rfl ?_
      refine Op10 (LT.not rfl) rfl rfl rfl ?_
      refine On ?_
      refine AWR.cond rfl (fun hc39 => ?_) (fun hc39 => ?_)
      ·refine Ws (Wr ?_)
       refine Op11 (LT.bloadN (out := [(lo 25 s2.1.length), (lo 26 s2.2.1.length), (lo 27 s2.2.2.length)]) rfl ag165 (infS inf165) sz165 (by exact rfl) (by exact rfl)) rfl rfl rfl rfl ?_
       refine Os21 (LT.bstore (v := (.agg [(lo 25 s2.1.length), (lo 26 s2.2.1.length), (lo 27 s2.2.2.length)])) (out := [(lo 25 s2.1.length), (lo 26 s2.2.1.length), (lo 27 s2.2.2.length)]) rfl rfl (infS inf165) sz165 (by exact rfl) (by exact Nat.le_of_ble_eq_true rfl) (by exact rfl)) rfl rfl rfl rfl rfl ?_
       refine asg (Bv false) rfl ⟨rfl, rfl⟩ rfl rfl ?_
       refine On ?_
       refine en [(10, (Cc (.pl 23 0))), (11, (Bv false))] [(23, (.row 165 [[(lo 25 s2.1.length), (lo 26 s2.2.1.length), (lo 27 s2.2.2.length)]])), (25, (pR 3 encInt s2.1)), (26, (pR 3 encInt s2.2.1)), (27, (pR 3 encInt s2.2.2))] ⟨rfl, rfl, trivial⟩ ⟨rfl, rfl, rfl, rfl, trivial⟩ ?_
       refine AWR.ent (Ent.mv 25 0 rfl rfl) ?_
       refine AWR.ent (Ent.mv 26 1 rfl rfl) ?_
       refine AWR.ent (Ent.mv 27 2 rfl rfl) ?_
       refine en [(10, (Cc (.pl 23 0))), (11, (Bv false))] [(0, (pR 3 encInt s2.1)), (1, (pR 3 encInt s2.2.1)), (2, (pR 3 encInt s2.2.2)), (23, (.row 165 [[(lo 0 s2.1.length), (lo 1 s2.2.1.length), (lo 2 s2.2.2.length)]]))] ⟨rfl, rfl, trivial⟩ ⟨rfl, rfl, rfl, rfl, trivial⟩ ?_
       refine AWR.ret ⟨rfl, FPost.mk (.inr rfl) ⟨⟨_, _, _, rfl, rfl, rfl, ag165, sz165, _, (infS inf165)⟩, rfl, trivial⟩ ⟨rfl, rfl, rfl, trivial⟩ rfl ⟨⟨trivial, trivial, trivial, trivial⟩, PermP.sc, trivial⟩ ⟨PermO.prow' perm_encInt, PermO.prow' perm_encInt, PermO.prow' perm_encInt, trivial⟩⟩
      ·exact AWR.none
    ·exact AWR.none
  ·refine AWR.exit_end rfl ⟨rfl, Ent.of ⟨rfl, rfl, trivial⟩ ⟨rfl, rfl, rfl, rfl, rfl, trivial⟩⟩
 ·refine Ws (Wr ?_)
  refine Op11 (LT.bloadN (out := [(lo 25 b27.1.length), (lo 26 b27.2.1.length), (lo 27 b27.2.2.length)]) rfl ag165 (infS inf165) sz165 (by exact rfl) (by exact rfl)) rfl rfl rfl rfl ?_
  refine Os21 (LT.bstore (v := (.agg [(lo 25 b27.1.length), (lo 26 b27.2.1.length), (lo 27 b27.2.2.length)])) (out := [(lo 25 b27.1.length), (lo 26 b27.2.1.length), (lo 27 b27.2.2.length)]) rfl rfl (infS inf165) sz165 (by exact rfl) (by exact Nat.le_of_ble_eq_true rfl) (by exact rfl)) rfl rfl rfl rfl rfl ?_
  refine asg (Bv true) rfl ⟨rfl, rfl⟩ rfl rfl ?_
  refine On ?_
  refine en [(10, (Cc (.pl 23 0))), (11, (Bv true))] [(23, (.row 165 [[(lo 25 b27.1.length), (lo 26 b27.2.1.length), (lo 27 b27.2.2.length)]])), (25, (pR 3 encInt b27.1)), (26, (pR 3 encInt b27.2.1)), (27, (pR 3 encInt b27.2.2))] ⟨rfl, rfl, trivial⟩ ⟨rfl, rfl, rfl, rfl, trivial⟩ ?_
  refine AWR.ent (Ent.mv 25 0 rfl rfl) ?_
  refine AWR.ent (Ent.mv 26 1 rfl rfl) ?_
  refine AWR.ent (Ent.mv 27 2 rfl rfl) ?_
  refine en [(10, (Cc (.pl 23 0))), (11, (Bv true))] [(0, (pR 3 encInt b27.1)), (1, (pR 3 encInt b27.2.1)), (2, (pR 3 encInt b27.2.2)), (23, (.row 165 [[(lo 0 b27.1.length), (lo 1 b27.2.1.length), (lo 2 b27.2.2.length)]]))] ⟨rfl, rfl, trivial⟩ ⟨rfl, rfl, rfl, rfl, trivial⟩ ?_
  refine AWR.ret (FPost.mk (.inr rfl) ⟨⟨_, _, _, rfl, rfl, rfl, ag165, sz165, _, (infS inf165)⟩, rfl, trivial⟩ ⟨rfl, rfl, rfl, trivial⟩ rfl ⟨⟨trivial, trivial, trivial, trivial⟩, PermP.sc, trivial⟩ ⟨PermO.prow' perm_encInt, PermO.prow' perm_encInt, PermO.prow' perm_encInt, trivial⟩)
theorem w_spec_PlaceBar (g : TGraph) (k : Int) (l : Int) (p : TPebbles) (bar : Int) : ∀ t, m_spec_PlaceBar g k l p bar = some t → Fw.Fn Try.prog 241 [(.agg [(iC g.Points), (xF encTBar g.Bars)]), (.c (iC k)), (.c (iC l)), (.agg [(xF encInt p.Free), (xF encInt p.Tails), (xF encInt p.Placed)]), (.c (iC bar))] [] (resA [(.agg [(lo 0 t.1.Free.length), (lo 1 t.1.Tails.length), (lo 2 t.1.Placed.length)]), (.c (bC t.2))]) [(0, (pR 3 encInt t.1.Free)), (1, (pR 3 encInt t.1.Tails)), (2, (pR 3 encInt t.1.Placed))] [] [0, 1, 2] := by
 refine Fw.Fn.of (P := Try.prog) (X := [0, 1, 2]) (pn := []) (rs := (fun (t : (TPebbles × Bool)) => [(.agg [(lo 0 t.1.Free.length), (lo 1 t.1.Tails.length), (lo 2 t.1.Placed.length)]), (.c (bC t.2))])) (dfs := (fun (t : (TPebbles × Bool)) => [(0, (pR 3 encInt t.1.Free)), (1, (pR 3 encInt t.1.Tails)), (2, (pR 3 encInt t.1.Placed))])) Try.func241 rfl Try.ntmps241 (Nat.le_of_ble_eq_true rfl) rfl ?_
 intro w0 U0 R0 g0
 unfold m_spec_PlaceBar
 refine Ws (Wr ?_)
 refine Os10 (LT.box (n := 21) (v := (.agg [(iC g.Points), (xF encTBar g.Bars)])) rfl sz26 (by exact rfl)) rfl rfl rfl ?_
 refine Os10 (LT.box (n := 22) (v := (.agg [(xF encInt p.Free), (xF encInt p.Tails), (xF encInt p.Placed)])) rfl sz165 (by exact rfl)) rfl rfl rfl ?_
 refine Os00 (LT.alloc (n := 23) (cells := [(sC nilV), (sC nilV), (sC nilV)]) rfl ti165 rfl rfl rfl) rfl rfl ?_
 refine asg (Bv false) rfl ⟨rfl, rfl⟩ rfl rfl ?_
 refine On (Ws (Ws ?_))
 refine AWR.joinK (fun j9 => ([(2, (Iv l)), (4, (Iv bar)), (5, (Cc (.pl 21 0))), (8, (Cc (.pl 22 0))), (10, (Cc (.pl 23 0))), (55, (Bv j9))], [(21, (.row 26 [[(iC g.Points), (xF encTBar g.Bars)]])), (22, (.row 165 [[(xF encInt p.Free), (xF encInt p.Tails), (xF encInt p.Placed)]])), (23, (.row 165 [[(sC nilV), (sC nilV), (sC nilV)]]))])) ?_ (fun j9 _ => ?_)
 ·refine Wr ?_
  refine Op11 (LT.bloadN (out := [(iC g.Points), (xF encTBar g.Bars)]) rfl ag26 (infS inf26) sz26 (by exact rfl) (by exact rfl)) rfl rfl rfl rfl ?_
  refine mv (Iv k) rfl rfl rfl rfl ?_
  refine Op11 (LT.bloadN (out := [(xF encInt p.Free), (xF encInt p.Tails), (xF encInt p.Placed)]) rfl ag165 (infS inf165) sz165 (by exact rfl) (by exact rfl)) rfl rfl rfl rfl ?_
  refine Ob' fun r10 hr10 => ?_
  refine AOR.pure (@LT.callF Try.prog _ _ 252 _ _ [(.agg [(iC g.Points), (xF encTBar g.Bars)]), (.c (iC k)), (.agg [(xF encInt p.Free), (xF encInt p.Tails), (xF encInt p.Placed)])] _ _ [] _ _ _ _ (w_spec_IsPebbles g k p r10 hr10) rfl cb252 (.cons (.agg (.cons (.same rfl) (.cons (.same rfl) .nil))) (.cons (.c (.same rfl)) (.cons (.agg (.cons (.same rfl) (.cons (.same rfl) (.cons (.same rfl) .nil)))) .nil))) rfl rfl trivial) ⟨rfl, rfl, rfl, rfl, trivial⟩ trivial rfl rfl ?_
  refine Op10 (LT.not rfl) rfl rfl rfl ?_
  refine mv (Bv (!r10)) rfl rfl rfl rfl ?_
  refine AOR.split (fun hb11 => ?_) (fun hb11 => ?_)
  ·refine Ok rfl rfl rfl (by rw [hb11]; rfl) rfl ?_
   refine Ok rfl rfl rfl (by rw [hb11]; rfl) rfl ?_
   refine Ok rfl rfl rfl (by rw [hb11]; rfl) rfl ?_
   refine Ok rfl rfl rfl (by rw [hb11]; rfl) rfl ?_
   refine Op20 (LT.pickT (v := (Bv true)) rfl hb11) rfl ⟨rfl, rfl⟩ rfl rfl ?_
   refine mv (Bv true) rfl rfl rfl rfl ?_
   refine Ok rfl rfl rfl rfl rfl ?_
   refine Ok rfl rfl rfl rfl rfl ?_
   refine Op20 (LT.pickT (v := (Bv true)) rfl rfl) rfl ⟨rfl, rfl⟩ rfl rfl ?_
   refine mv (Bv true) rfl rfl rfl rfl ?_
   refine Ok rfl rfl rfl rfl rfl ?_
   refine Ok rfl rfl rfl rfl rfl ?_
   refine Ok rfl rfl rfl rfl rfl ?_
   refine Ok rfl rfl rfl rfl rfl ?_
   refine Ok rfl rfl rfl rfl rfl ?_
   refine Op20 (LT.pickT (v := (Bv true)) rfl rfl) rfl ⟨rfl, rfl⟩ rfl rfl ?_
   refine mv (Bv true) rfl rfl rfl rfl ?_
   refine Ok rfl rfl rfl rfl rfl ?_
   refine Ok rfl rfl rfl rfl rfl ?_
   refine Ok rfl rfl rfl rfl rfl ?_
   refine Ok rfl rfl rfl rfl rfl ?_
   refine Ok rfl rfl rfl rfl rfl ?_
   refine Oj rfl rfl rfl rfl ?_
   refine Oj rfl rfl rfl rfl ?_
   refine Oj rfl rfl rfl rfl ?_
   refine Oj rfl rfl rfl rfl ?_
   refine Oj rfl rfl rfl rfl ?_
   refine Oj rfl rfl rfl rfl ?_
   refine Oj rfl rfl rfl rfl ?_
   refine Oj rfl rfl rfl rfl ?_
   refine Oj rfl rfl rfl rfl ?_
   refine Oj rfl rfl rfl rfl ?_
   refine Ok rfl rfl rfl rfl rfl ?_
   refine Op20 (LT.pickT (v := (Bv true)) rfl rfl) rfl ⟨rfl, rfl⟩ rfl rfl ?_
   refine On ?_
   refine AWR.nil ⟨rfl, Ent.of ⟨rfl, rfl, rfl, rfl, rfl, rfl, trivial⟩ ⟨rfl, rfl, rfl, trivial⟩⟩
  ·refine mv (Iv k) rfl rfl ⟨_, rfl, .inl ⟨_, rfl, (by rw [hb11]; rfl)⟩⟩ rfl ?_
   refine mv (Iv l) rfl rfl ⟨_, rfl, .inl ⟨_, rfl, (by rw [hb11]; rfl)⟩⟩ rfl ?_
   refine Ob' fun r12 hr12 => ?_
   refine AOR.pure (@LT.callF Try.prog _ _ 240 _ _ [(.c (iC k)), (.c (iC l))] _ _ [] _ _ _ _ (w_spec_IsRange k l r12 hr12) rfl cb240 (.cons (.c (.same rfl)) (.cons (.c (.same rfl)) .nil)) rfl rfl trivial) ⟨rfl, rfl, rfl, trivial⟩ trivial ⟨_, rfl, .inl ⟨_, rfl, (by rw [hb11]; rfl)⟩⟩ rfl ?_
   refine Op10 (LT.not rfl) rfl ⟨_, rfl, .inl ⟨_, rfl, (by rw [hb11]; rfl)⟩⟩ rfl ?_
   refine Op20 (LT.pickF (v := (Bv (!r12))) rfl hb11) rfl rfl rfl rfl ?_
   refine mv (Bv (!r12)) rfl rfl rfl rfl ?_
   refine AOR.split (fun hb13 => ?_) (fun hb13 => ?_)
   ·refine Ok rfl rfl rfl (by rw [hb13]; rfl) rfl ?_
    refine Ok rfl rfl rfl (by rw [hb13]; rfl) rfl ?_
    refine Op20 (LT.pickT (v := (Bv true)) rfl hb13) rfl ⟨rfl, rfl⟩ rfl rfl ?_
    refine mv (Bv true) rfl rfl rfl rfl ?_
    refine Ok rfl rfl rfl rfl rfl ?_
    refine Ok rfl rfl rfl rfl rfl ?_
    refine Ok rfl rfl rfl rfl rfl ?_
    refine Ok rfl rfl rfl rfl rfl ?_
    refine Ok rfl rfl rfl rfl rfl ?_
    refine Op20 (LT.pickT (v := (Bv true)) rfl rfl) rfl ⟨rfl, rfl⟩ rfl rfl ?_
    refine mv (Bv true) rfl rfl rfl rfl ?_
    refine Ok rfl rfl rfl rfl rfl ?_
    refine Ok rfl rfl rfl rfl rfl ?_
    refine Ok rfl rfl rfl rfl rfl ?_
    refine Ok rfl rfl rfl rfl rfl ?_
    refine Ok rfl rfl rfl rfl rfl ?_
    refine Oj rfl rfl rfl rfl ?_
    refine Oj rfl rfl rfl rfl ?_
    refine Oj rfl rfl rfl rfl ?_
    refine Oj rfl rfl rfl rfl ?_
    refine Oj rfl rfl rfl rfl ?_
    refine Oj rfl rfl rfl rfl ?_
    refine Oj rfl rfl rfl rfl ?_
    refine Oj rfl rfl rfl rfl ?_
    refine Oj rfl rfl rfl rfl ?_
    refine Oj rfl rfl rfl rfl ?_
    refine Ok rfl rfl rfl rfl rfl ?_
    refine Op20 (LT.pickT (v := (Bv true)) rfl rfl) rfl ⟨rfl, rfl⟩ rfl rfl ?_
    refine On ?_
    refine AWR.nil ⟨rfl, Ent.of ⟨rfl, rfl, rfl, rfl, rfl, rfl, trivial⟩ ⟨rfl, rfl, rfl, trivial⟩⟩
   ·refine mv (Iv bar) rfl rfl ⟨_, rfl, .inl ⟨_, rfl, (by rw [hb13]; rfl)⟩⟩ rfl ?_
    refine Op20 (LT.lss rfl) rfl ⟨rfl, rfl⟩ ⟨_, rfl, .inl ⟨_, rfl, (by rw [hb13]; rfl)⟩⟩ rfl ?_
    refine Op20 (LT.pickF (v := (Bv (decide (bar < 0)))) rfl hb13) rfl rfl rfl rfl ?_
    refine mv (Bv (decide (bar < 0))) rfl rfl rfl rfl ?_
    refine AOR.split (fun hb14 => ?_) (fun hb14 => ?_)
    ·refine Ok rfl rfl rfl (by rw [hb14]; rfl) rfl ?_
     refine Ok rfl rfl rfl (by rw [hb14]; rfl) rfl ?_
     refine Ok rfl rfl rfl (by rw [hb14]; rfl) rfl ?_
     refine Ok rfl rfl rfl (by rw [hb14]; rfl) rfl ?_
     refine Ok rfl rfl rfl (by rw [hb14]; rfl) rfl ?_
     refine Op20 (LT.pickT (v := (Bv true)) rfl hb14) rfl ⟨rfl, rfl⟩ rfl rfl ?_
     refine mv (Bv true) rfl rfl rfl rfl ?_
     refine Ok rfl rfl rfl rfl rfl ?_
     refine Ok rfl rfl rfl rfl rfl ?_
     refine Ok rfl rfl rfl rfl rfl ?_
     refine Ok rfl rfl rfl rfl rfl ?_
     refine Ok rfl rfl rfl rfl rfl ?_
     refine Oj rfl rfl rfl rfl ?_
     refine Oj rfl rfl rfl rfl ?_
     refine Oj rfl rfl rfl rfl ?_
     refine Oj rfl rfl rfl rfl ?_
     refine Oj rfl rfl rfl rfl ?_
     refine Oj rfl rfl rfl rfl ?_
     refine Oj rfl rfl rfl rfl ?_
     refine Oj rfl rfl rfl rfl ?_
     refine Oj rfl rfl rfl rfl ?_
     refine Oj rfl rfl rfl rfl ?_
     refine Ok rfl rfl rfl rfl rfl ?_
     refine Op20 (LT.pickT (v := (Bv true)) rfl rfl) rfl ⟨rfl, rfl⟩ rfl rfl ?_
     refine On ?_
     refine AWR.nil ⟨rfl, Ent.of ⟨rfl, rfl, rfl, rfl, rfl, rfl, trivial⟩ ⟨rfl, rfl, rfl, trivial⟩⟩
    ·refine mv (Iv bar) rfl rfl ⟨_, rfl, .inl ⟨_, rfl, (by rw [hb14]; rfl)⟩⟩ rfl ?_
     refine Op10 (LT.fieldPl rfl fo26_1) rfl ⟨_, rfl, .inl ⟨_, rfl, (by rw [hb14]; rfl)⟩⟩ rfl ?_
     refine Op11 (LT.bload1 (c := (xF encTBar g.Bars)) rfl ag24 (by exact rfl)) rfl rfl ⟨_, rfl, .inl ⟨_, rfl, (by rw [hb14]; rfl)⟩⟩ rfl ?_
     refine Op10 (LT.tlenRO rfl und24) rfl ⟨_, rfl, .inl ⟨_, rfl, (by rw [hb14]; rfl)⟩⟩ rfl ?_
     refine Op20 (LT.geq rfl) rfl rfl ⟨_, rfl, .inl ⟨_, rfl, (by rw [hb14]; rfl)⟩⟩ rfl ?_
     refine Op20 (LT.pickF (v := (Bv (decide ((g.Bars.length : Int) ≤ bar)))) rfl hb14) rfl rfl rfl rfl ?_
     refine mv (Bv (decide ((g.Bars.length : Int) ≤ bar))) rfl rfl rfl rfl ?_
     refine AOR.split (fun hb15 => ?_) (fun hb15 => ?_)
     ·refine Ok rfl rfl rfl (by rw [hb15]; rfl) rfl ?_
      refine Ok rfl rfl rfl (by rw [hb15]; rfl) rfl ?_
      refine Ok rfl rfl rfl (by rw [hb15]; rfl) rfl ?_
      refine Ok rfl rfl rfl (by rw [hb15]; rfl) rfl ?_
      refine Ok rfl rfl rfl (by rw [hb15]; rfl) rfl ?_
      refine Oj rfl rfl rfl rfl ?_
      refine Oj rfl rfl rfl rfl ?_
      refine Oj rfl rfl rfl rfl ?_
      refine Oj rfl rfl rfl rfl ?_
      refine Oj rfl rfl rfl rfl ?_
      refine Oj rfl rfl rfl rfl ?_
      refine Oj rfl rfl rfl rfl ?_
      refine Oj rfl rfl rfl rfl ?_
      refine Oj rfl rfl rfl rfl ?_
      refine Oj rfl rfl rfl rfl ?_
      refine Ok rfl rfl rfl (by rw [hb15]; rfl) rfl ?_
      refine Op20 (LT.pickT (v := (Bv true)) rfl hb15) rfl ⟨rfl, rfl⟩ rfl rfl ?_
      refine On ?_
      refine AWR.nil ⟨rfl, Ent.of ⟨rfl, rfl, rfl, rfl, rfl, rfl, trivial⟩ ⟨rfl, rfl, rfl, trivial⟩⟩
     ·refine Op10 (LT.fieldPl rfl fo165_2) rfl ⟨_, rfl, .inl ⟨_, rfl, (by rw [hb15]; rfl)⟩⟩ rfl ?_
      refine Op11 (LT.bload1 (c := (xF encInt p.Placed)) rfl ag37 (by exact rfl)) rfl rfl ⟨_, rfl, .inl ⟨_, rfl, (by rw [hb15]; rfl)⟩⟩ rfl ?_
      refine Op10 (LT.tlenRO rfl und37) rfl ⟨_, rfl, .inl ⟨_, rfl, (by rw [hb15]; rfl)⟩⟩ rfl ?_
      refine Op20 (LT.gtr rfl) rfl ⟨rfl, rfl⟩ ⟨_, rfl, .inl ⟨_, rfl, (by rw [hb15]; rfl)⟩⟩ rfl ?_
      refine mv (Bv (decide (0 < (p.Placed.length : Int)))) rfl rfl ⟨_, rfl, .inl ⟨_, rfl, (by rw [hb15]; rfl)⟩⟩ rfl ?_
      refine AOR.split (fun hb16 => ?_) (fun hb16 => ?_)
      ·refine Op10 (LT.fieldPl rfl fo165_2) rfl ⟨_, rfl, .inl ⟨_, rfl, (by rw [hb16]; rfl)⟩⟩ rfl ?_
       refine Op11 (LT.bload1 (c := (xF encInt p.Placed)) rfl ag37 (by exact rfl)) rfl rfl ⟨_, rfl, .inl ⟨_, rfl, (by rw [hb16]; rfl)⟩⟩ rfl ?_
       refine Op10 (LT.fieldPl rfl fo165_2) rfl ⟨_, rfl, .inl ⟨_, rfl, (by rw [hb16]; rfl)⟩⟩ rfl ?_
       refine Op11 (LT.bload1 (c := (xF encInt p.Placed)) rfl ag37 (by exact rfl)) rfl rfl ⟨_, rfl, .inl ⟨_, rfl, (by rw [hb16]; rfl)⟩⟩ rfl ?_
       refine Op10 (LT.tlenRO rfl und37) rfl ⟨_, rfl, .inl ⟨_, rfl, (by rw [hb16]; rfl)⟩⟩ rfl ?_
       refine Op20 (LT.sub rfl) rfl ⟨rfl, rfl⟩ ⟨_, rfl, .inl ⟨_, rfl, (by rw [hb16]; rfl)⟩⟩ rfl ?_
       refine Ob' fun x17 hx17 => ?_
       refine Op20 (LT.tindexRO (enc := encInt) rfl el37 hx17 sz3) rfl rfl ⟨_, rfl, .inl ⟨_, rfl, (by rw [hb16]; rfl)⟩⟩ rfl ?_
       refine Op10 (LT.loadPx1 rfl ag3) rfl ⟨_, rfl, .inl ⟨_, rfl, (by rw [hb16]; rfl)⟩⟩ rfl ?_
       refine mv (Iv bar) rfl rfl ⟨_, rfl, .inl ⟨_, rfl, (by rw [hb16]; rfl)⟩⟩ rfl ?_
       refine Op20 (LT.geq rfl) rfl rfl ⟨_, rfl, .inl ⟨_, rfl, (by rw [hb16]; rfl)⟩⟩ rfl ?_
       refine Op20 (LT.pickT (v := (Bv (decide (bar ≤ x17)))) rfl hb16) rfl rfl ⟨_, rfl, .inl ⟨_, rfl, (by rw [hb15]; rfl)⟩⟩ rfl ?_
       refine Op20 (LT.pickF (v := (Bv (decide (bar ≤ x17)))) rfl hb15) rfl rfl rfl rfl ?_
       refine On ?_
       refine AWR.nil ⟨rfl, Ent.of ⟨rfl, rfl, rfl, rfl, rfl, rfl, trivial⟩ ⟨rfl, rfl, rfl, trivial⟩⟩
      ·refine Ok rfl rfl rfl (by rw [hb16]; rfl) rfl ?_
       refine Ok rfl rfl rfl (by rw [hb16]; rfl) rfl ?_
       refine Ok rfl rfl rfl (by rw [hb16]; rfl) rfl ?_
       refine Ok rfl rfl rfl (by rw [hb16]; rfl) rfl ?_
       refine Ok rfl rfl rfl (by rw [hb16]; rfl) rfl ?_
       refine Ok rfl rfl rfl (by rw [hb16]; rfl) rfl ?_
       refine Ok rfl rfl rfl (by rw [hb16]; rfl) rfl ?_
       refine Ok rfl rfl rfl (by rw [hb16]; rfl) rfl ?_
       refine Ok rfl rfl rfl (by rw [hb16]; rfl) rfl ?_
       refine Ok rfl rfl rfl (by rw [hb16]; rfl) rfl ?_
       refine Op20 (LT.pickF (v := (Bv false)) rfl hb16) rfl ⟨rfl, rfl⟩ ⟨_, rfl, .inl ⟨_, rfl, (by rw [hb15]; rfl)⟩⟩ rfl ?_
       refine Op20 (LT.pickF (v := (Bv false)) rfl hb15) rfl rfl rfl rfl ?_
       refine On ?_
       refine AWR.nil ⟨rfl, Ent.of ⟨rfl, rfl, rfl, rfl, rfl, rfl, trivial⟩ ⟨rfl, rfl, rfl, trivial⟩⟩
 ·refine AWR.cond rfl (fun hc18 => ?_) (fun hc18 => ?_)
  ·refine Ws (Wr ?_)
   refine Op11 (LT.bloadN (out := [(xF encInt p.Free), (xF encInt p.Tails), (xF encInt p.Placed)]) rfl ag165 (infS inf165) sz165 (by exact rfl) (by exact rfl)) rfl rfl rfl rfl ?_
   refine Ob' fun r19 hr19 => ?_
   refine AOR.step (@LT.callF Try.prog _ _ 253 _ _ [(.agg [(xF encInt p.Free), (xF encInt p.Tails), (xF encInt p.Placed)])] _ _ [] _ _ _ _ ((show Fw.Fn Try.prog 253 [(.agg [(xF encInt p.Free), (xF encInt p.Tails), (xF encInt p.Placed)])] [] (Ag  [(lo 27 r19.Free.length), (lo 28 r19.Tails.length), (lo 29 r19.Placed.length)]) [(27, (pR 3 encInt r19.Free)), (28, (pR 3 encInt r19.Tails)), (29, (pR 3 encInt r19.Placed))] [] [27, 28, 29] from Fw.Fn.ren [(0, 27), (1, 28), (2, 29)] (w_spec_l4Copy p r19 hr19) rfl)) rfl cb253 (.cons (.agg (.cons (.same rfl) (.cons (.same rfl) (.cons (.same rfl) .nil)))) .nil) rfl rfl trivial) ⟨rfl, rfl, trivial⟩ trivial rfl rfl ?_
   refine Os21 (LT.bstore (v := (.agg [(lo 27 r19.Free.length), (lo 28 r19.Tails.length), (lo 29 r19.Placed.length)])) (out := [(lo 27 r19.Free.length), (lo 28 r19.Tails.length), (lo 29 r19.Placed.length)]) rfl rfl (infS inf165) sz165 (by exact rfl) (by exact Nat.le_of_ble_eq_true rfl) (by exact rfl)) rfl rfl rfl rfl rfl ?_
   refine asg (Bv false) rfl ⟨rfl, rfl⟩ rfl rfl ?_
   refine On ?_
   refine en [(10, (Cc (.pl 23 0))), (11, (Bv false))] [(23, (.row 165 [[(lo 27 r19.Free.length), (lo 28 r19.Tails.length), (lo 29 r19.Placed.length)]])), (27, (pR 3 encInt r19.Free)), (28, (pR 3 encInt r19.Tails)), (29, (pR 3 encInt r19.Placed))] ⟨rfl, rfl, trivial⟩ ⟨rfl, rfl, rfl, rfl, trivial⟩ ?_
   refine AWR.ent (Ent.mv 27 0 rfl rfl) ?_
   refine AWR.ent (Ent.mv 28 1 rfl rfl) ?_
   refine AWR.ent (Ent.mv 29 2 rfl rfl) ?_
   refine en [(10, (Cc (.pl 23 0))), (11, (Bv false))] [(0, (pR 3 encInt r19.Free)), (1, (pR 3 encInt r19.Tails)), (2, (pR 3 encInt r19.Placed)), (23, (.row 165 [[(lo 0 r19.Free.length), (lo 1 r19.Tails.length), (lo 2 r19.Placed.length)]]))] ⟨rfl, rfl, trivial⟩ ⟨rfl, rfl, rfl, rfl, trivial⟩ ?_
   refine AWR.ret (FPost.mk (.inr rfl) ⟨⟨_, _, _, rfl, rfl, rfl, ag165, sz165, _, (infS inf165)⟩, rfl, trivial⟩ ⟨rfl, rfl, rfl, trivial⟩ rfl ⟨⟨trivial, trivial, trivial, trivial⟩, PermP.sc, trivial⟩ ⟨PermO.prow' perm_encInt, PermO.prow' perm_encInt, PermO.prow' perm_encInt, trivial⟩)
  ·refine AWR.skip (Ws (Wr ?_))
   refine Op10 (LT.fieldPl rfl fo26_1) rfl rfl rfl ?_
   refine Op11 (LT.bload1 (c := (xF encTBar g.Bars)) rfl ag24 (by exact rfl)) rfl rfl rfl rfl ?_
   refine mv (Iv bar) rfl rfl rfl rfl ?_
   refine Ob' fun x20 hx20 => ?_
   refine Op20 (LT.tindexRO (enc := encTBar) rfl el24 hx20 sz62) rfl rfl rfl rfl ?_
   refine Op10 (LT.loadPxN rfl ag62 (infS inf62) (by exact sz62.symm)) rfl rfl rfl ?_
   refine Os00 (LT.alloc (n := 30) (cells := [(iC 0), (iC 0)]) rfl ti62 rfl rfl rfl) rfl rfl ?_
   refine Os21 (LT.bstore (v := (.agg [(iC x20.A), (iC x20.B)])) (out := [(iC x20.A), (iC x20.B)]) rfl rfl (infS inf62) sz62 (by exact rfl) (by exact Nat.le_of_ble_eq_true rfl) (by exact rfl)) rfl rfl rfl rfl rfl ?_
   refine On (Ws ?_)
   refine en [(2, (Iv l)), (4, (Iv bar)), (5, (Cc (.pl 21 0))), (8, (Cc (.pl 22 0))), (10, (Cc (.pl 23 0))), (12, (Cc (.pl 30 0)))] [(21, (.row 26 [[(iC g.Points), (xF encTBar g.Bars)]])), (22, (.row 165 [[(xF encInt p.Free), (xF encInt p.Tails), (xF encInt p.Placed)]])), (23, (.row 165 [[(sC nilV), (sC nilV), (sC nilV)]])), (30, (.row 62 [[(iC x20.A), (iC x20.B)]]))] ⟨rfl, rfl, rfl, rfl, rfl, rfl, trivial⟩ ⟨rfl, rfl, rfl, rfl, trivial⟩ ?_
   refine Wr ?_
   refine Op11 (LT.bloadN (out := [(iC g.Points), (xF encTBar g.Bars)]) rfl ag26 (infS inf26) sz26 (by exact rfl) (by exact rfl)) rfl rfl rfl rfl ?_
   refine Op11 (LT.bloadN (out := [(xF encInt p.Free), (xF encInt p.Tails), (xF encInt p.Placed)]) rfl ag165 (infS inf165) sz165 (by exact rfl) (by exact rfl)) rfl rfl rfl rfl ?_
   refine Op10 (LT.fieldPl rfl fo62_0) rfl rfl rfl ?_
   refine Op11 (LT.bload1 (c := (iC x20.A)) rfl ag3 (by exact rfl)) rfl rfl rfl rfl ?_
   refine Op10 (LT.fieldPl rfl fo62_1) rfl rfl rfl ?_
   refine Op11 (LT.bload1 (c := (iC x20.B)) rfl ag3 (by exact rfl)) rfl rfl rfl rfl ?_
   refine mv (Iv l) rfl rfl rfl rfl ?_
   refine Op20 (LT.add rfl) rfl ⟨rfl, rfl⟩ rfl rfl ?_
   refine Ob' fun r21 hr21 => ?_
   refine AOR.step (@LT.callF Try.prog _ _ 254 _ _ [(.agg [(iC g.Points), (xF encTBar g.Bars)]), (.agg [(xF encInt p.Free), (xF encInt p.Tails), (xF encInt p.Placed)]), (.c (iC x20.A)), (.c (iC x20.B)), (.c (iC (w64 (l + 1))))] _ _ [] _ _ _ _ ((show Fw.Fn Try.prog 254 [(.agg [(iC g.Points), (xF encTBar g.Bars)]), (.agg [(xF encInt p.Free), (xF encInt p.Tails), (xF encInt p.Placed)]), (.c (iC x20.A)), (.c (iC x20.B)), (.c (iC (w64 (l + 1))))] [] (.tup [(.agg [(lo 32 r21.1.Free.length), (lo 33 r21.1.Tails.length), (lo 34 r21.1.Placed.length)]), (.c (bC r21.2))]) [(32, (pR 3 encInt r21.1.Free)), (33, (pR 3 encInt r21.1.Tails)), (34, (pR 3 encInt r21.1.Placed))] [] [32, 33, 34] from Fw.Fn.ren [(0, 32), (1, 33), (2, 34)] (w_spec_l4Gather g p x20.A x20.B (w64 (l + 1)) r21 hr21) rfl)) rfl cb254 (.cons (.agg (.cons (.same rfl) (.cons (.same rfl) .nil))) (.cons (.agg (.cons (.same rfl) (.cons (.same rfl) (.cons (.same rfl) .nil)))) (.cons (.c (.same rfl)) (.cons (.c (.same rfl)) (.cons (.c (.same rfl)) .nil))))) rfl rfl trivial) ⟨rfl, rfl, rfl, rfl, rfl, rfl, trivial⟩ trivial rfl rfl ?_
   refine mv (.tup [(.agg [(lo 32 r21.1.Free.length), (lo 33 r21.1.Tails.length), (lo 34 r21.1.Placed.length)]), (.c (bC r21.2))]) rfl rfl rfl rfl ?_
   refine Op10 (LT.extract (v := (.agg [(lo 32 r21.1.Free.length), (lo 33 r21.1.Tails.length), (lo 34 r21.1.Placed.length)])) rfl (by exact rfl)) rfl rfl rfl ?_
   refine Op10 (LT.extract (v := (.c (bC r21.2))) rfl (by exact rfl)) rfl rfl rfl ?_
   refine Os00 (LT.alloc (n := 35) (cells := [(sC nilV), (sC nilV), (sC nilV)]) rfl ti165 rfl rfl rfl) rfl rfl ?_
   refine Os21 (LT.bstore (v := (.agg [(lo 32 r21.1.Free.length), (lo 33 r21.1.Tails.length), (lo 34 r21.1.Placed.length)])) (out := [(lo 32 r21.1.Free.length), (lo 33 r21.1.Tails.length), (lo 34 r21.1.Placed.length)]) rfl rfl (infS inf165) sz165 (by exact rfl) (by exact Nat.le_of_ble_eq_true rfl) (by exact rfl)) rfl rfl rfl rfl rfl ?_
   refine asg (Bv r21.2) rfl rfl rfl rfl ?_
   refine On (Ws (Ws ?_))
   refine en [(4, (Iv bar)), (8, (Cc (.pl 22 0))), (10, (Cc (.pl 23 0))), (12, (Cc (.pl 30 0))), (13, (Cc (.pl 35 0))), (14, (Bv r21.2))] [(22, (.row 165 [[(xF encInt p.Free), (xF encInt p.Tails), (xF encInt p.Placed)]])), (23, (.row 165 [[(sC nilV), (sC nilV), (sC nilV)]])), (30, (.row 62 [[(iC x20.A), (iC x20.B)]])), (32, (pR 3 encInt r21.1.Free)), (33, (pR 3 encInt r21.1.Tails)), (34, (pR 3 encInt r21.1.Placed)), (35, (.row 165 [[(lo 32 r21.1.Free.length), (lo 33 r21.1.Tails.length), (lo 34 r21.1.Placed.length)]]))] ⟨rfl, rfl, rfl, rfl, rfl, rfl, trivial⟩ ⟨rfl, rfl, rfl, rfl, rfl, rfl, rfl, trivial⟩ ?_
   refine Wr ?_
   refine mv (Bv r21.2) rfl rfl rfl rfl ?_
   refine Op10 (LT.not rfl) rfl rfl rfl ?_
   refine On ?_
   refine AWR.cond rfl (fun hc22 => ?_) (fun hc22 => ?_)
   ·refine Ws (Wr ?_)
    refine Op11 (LT.bloadN (out := [(xF encInt p.Free), (xF encInt p.Tails), (xF encInt p.Placed)]) rfl ag165 (infS inf165) sz165 (by exact rfl) (by exact rfl)) rfl rfl rfl rfl ?_
    refine Ob' fun r23 hr23 => ?_
    refine AOR.step (@LT.callF Try.prog _ _ 253 _ _ [(.agg [(xF encInt p.Free), (xF encInt p.Tails), (xF encInt p.Placed)])] _ _ [] _ _ _ _ ((show Fw.Fn Try.prog 253 [(.agg [(xF encInt p.Free), (xF encInt p.Tails), (xF encInt p.Placed)])] [] (Ag  [(lo 37 r23.Free.length), (lo 38 r23.Tails.length), (lo 39 r23.Placed.length)]) [(37, (pR 3 encInt r23.Free)), (38, (pR 3 encInt r23.Tails)), (39, (pR 3 encInt r23.Placed))] [] [37, 38, 39] from Fw.Fn.ren [(0, 37), (1, 38), (2, 39)] (w_spec_l4Copy p r23 hr23) rfl)) rfl cb253 (.cons (.agg (.cons (.same rfl) (.cons (.same rfl) (.cons (.same rfl) .nil)))) .nil) rfl rfl trivial) ⟨rfl, rfl, trivial⟩ trivial rfl rfl ?_
    refine Os21 (LT.bstore (v := (.agg [(lo 37 r23.Free.length), (lo 38 r23.Tails.length), (lo 39 r23.Placed.length)])) (out := [(lo 37 r23.Free.length), (lo 38 r23.Tails.length), (lo 39 r23.Placed.length)]) rfl rfl (infS inf165) sz165 (by exact rfl) (by exact Nat.le_of_ble_eq_true rfl) (by exact rfl)) rfl rfl rfl rfl rfl ?_
    refine asg (Bv false) rfl ⟨rfl, rfl⟩ rfl rfl ?_
    refine On ?_
    refine en [(10, (Cc (.pl 23 0))), (11, (Bv false))] [(23, (.row 165 [[(lo 37 r23.Free.length), (lo 38 r23.Tails.length), (lo 39 r23.Placed.length)]])), (37, (pR 3 encInt r23.Free)), (38, (pR 3 encInt r23.Tails)), (39, (pR 3 encInt r23.Placed))] ⟨rfl, rfl, trivial⟩ ⟨rfl, rfl, rfl, rfl, trivial⟩ ?_
    refine AWR.ent (Ent.mv 37 0 rfl rfl) ?_
    refine AWR.ent (Ent.mv 38 1 rfl rfl) ?_
    refine AWR.ent (Ent.mv 39 2 rfl rfl) ?_
    refine en [(10, (Cc (.pl 23 0))), (11, (Bv false))] [(0, (pR 3 encInt r23.Free)), (1, (pR 3 encInt r23.Tails)), (2, (pR 3 encInt r23.Placed)), (23, (.row 165 [[(lo 0 r23.Free.length), (lo 1 r23.Tails.length), (lo 2 r23.Placed.length)]]))] ⟨rfl, rfl, trivial⟩ ⟨rfl, rfl, rfl, rfl, trivial⟩ ?_
    refine AWR.ret (FPost.mk (.inr rfl) ⟨⟨_, _, _, rfl, rfl, rfl, ag165, sz165, _, (infS inf165)⟩, rfl, trivial⟩ ⟨rfl, rfl, rfl, trivial⟩ rfl ⟨⟨trivial, trivial, trivial, trivial⟩, PermP.sc, trivial⟩ ⟨PermO.prow' perm_encInt, PermO.prow' perm_encInt, PermO.prow' perm_encInt, trivial⟩)
   ·refine AWR.skip (Ws (Wr ?_))
    refine Op10 (LT.fieldPl rfl fo62_0) rfl rfl rfl ?_
    refine Op11 (LT.bload1 (c := (iC x20.A)) rfl ag3 (by exact rfl)) rfl rfl rfl rfl ?_
    refine asg (Iv x20.A) rfl rfl rfl rfl ?_
    refine On (Ws (Ws (Wr ?_)))
    refine Op10 (LT.fieldPl rfl fo165_0) rfl rfl rfl ?_
    refine Op11 (LT.bload1 (c := (lo 32 r21.1.Free.length)) rfl ag37 (by exact rfl)) rfl rfl rfl rfl ?_
    refine Op10 (LT.fieldPl rfl fo62_0) rfl rfl rfl ?_
    refine Op11 (LT.bload1 (c := (iC x20.A)) rfl ag3 (by exact rfl)) rfl rfl rfl rfl ?_
    refine Ob' fun x24 hx24 => ?_
    refine Op21 (LT.tindexLoc rfl rfl el37 hx24) rfl rfl rfl rfl rfl ?_
    refine Op11 (LT.tload1 (k := 0) rfl ag3 hx24 (by exact rfl) (by exact rfl)) rfl rfl rfl rfl ?_
    refine Op20 (LT.eql rfl) rfl ⟨rfl, rfl⟩ rfl rfl ?_
    refine On ?_
    refine AWR.joinK (fun j26 => ([(4, (Iv bar)), (10, (Cc (.pl 23 0))), (13, (Cc (.pl 35 0))), (15, (Iv j26))], [(23, (.row 165 [[(sC nilV), (sC nilV), (sC nilV)]])), (32, (pR 3 encInt r21.1.Free)), (33, (pR 3 encInt r21.1.Tails)), (34, (pR 3 encInt r21.1.Placed)), (35, (.row 165 [[(lo 32 r21.1.Free.length), (lo 33 r21.1.Tails.length), (lo 34 r21.1.Placed.length)]]))])) ?_ (fun j26 _ => ?_)
    ·refine AWR.cond rfl (fun hc27 => ?_) (fun hc27 => ?_)
     ·refine en [(4, (Iv bar)), (10, (Cc (.pl 23 0))), (12, (Cc (.pl 30 0))), (13, (Cc (.pl 35 0)))] [(23, (.row 165 [[(sC nilV), (sC nilV), (sC nilV)]])), (30, (.row 62 [[(iC x20.A), (iC x20.B)]])), (32, (pR 3 encInt r21.1.Free)), (33, (pR 3 encInt r21.1.Tails)), (34, (pR 3 encInt r21.1.Placed)), (35, (.row 165 [[(lo 32 r21.1.Free.length), (lo 33 r21.1.Tails.length), (lo 34 r21.1.Placed.length)]]))] ⟨rfl, rfl, rfl, rfl, trivial⟩ ⟨rfl, rfl, rfl, rfl, rfl, rfl, trivial⟩ ?_
      refine Wr ?_
      refine Op10 (LT.fieldPl rfl fo62_1) rfl rfl rfl ?_
      refine Op11 (LT.bload1 (c := (iC x20.B)) rfl ag3 (by exact rfl)) rfl rfl rfl rfl ?_
      refine asg (Iv x20.B) rfl rfl rfl rfl ?_
      refine On ?_
      refine AWR.nil ⟨rfl, Ent.of ⟨rfl, rfl, rfl, rfl, trivial⟩ ⟨rfl, rfl, rfl, rfl, rfl, trivial⟩⟩
     ·refine AWR.skip ?_
      refine AWR.nil ⟨rfl, Ent.of ⟨rfl, rfl, rfl, rfl, trivial⟩ ⟨rfl, rfl, rfl, rfl, rfl, trivial⟩⟩
    ·refine Ws (AWR.draw mixed ?_)
     refine Dp10 (LT.fieldPl rfl fo165_0) rfl rfl rfl ?_
     refine Dp11 (LT.bload1 (c := (lo 32 r21.1.Free.length)) rfl ag37 (by exact rfl)) rfl rfl rfl rfl ?_
     refine Dp10 (LT.move (v := (Iv j26)) rfl) rfl rfl rfl ?_
     refine Dp10 (LT.fieldPl rfl fo165_0) rfl rfl rfl ?_
     refine Dp11 (LT.bload1 (c := (lo 32 r21.1.Free.length)) rfl ag37 (by exact rfl)) rfl rfl rfl rfl ?_
     refine Dp10 (LT.move (v := (Iv j26)) rfl) rfl rfl rfl ?_
     refine AOD.bind fun x28 hx28 => ?_
     refine Dp21 (LT.tindexLoc rfl rfl el37 hx28) rfl rfl rfl rfl rfl ?_
     refine Dp11 (LT.tload1 (k := 0) rfl ag3 hx28 (by exact rfl) (by exact rfl)) rfl rfl rfl rfl ?_
     refine Dp20 (LT.sub rfl) rfl ⟨rfl, rfl⟩ rfl rfl ?_
     refine AOD.bind fun x29 hx29 => ?_
     refine Dp21 (LT.tindexLoc rfl rfl el37 hx29) rfl rfl rfl rfl rfl ?_
     refine Ds21 (LT.tstore (k := 0) (v := (.c (iC (w64 (x28 - 1))))) (b' := (w64 (x28 - 1))) rfl rfl (infS inf3) sz3 (by exact rfl) hx29 (by exact rfl) (by exact Nat.le_of_ble_eq_true rfl) (by exact rfl)) rfl rfl rfl rfl rfl ?_
     refine AOD.nil (by kernel_rfl) ?_
     refine Ws ?_
     refine en [(4, (Iv bar)), (10, (Cc (.pl 23 0))), (13, (Cc (.pl 35 0))), (15, (Iv j26))] [(23, (.row 165 [[(sC nilV), (sC nilV), (sC nilV)]])), (32, (pR 3 encInt (r21.1.Free.set j26.toNat (w64 (x28 - 1))))), (33, (pR 3 encInt r21.1.Tails)), (34, (pR 3 encInt r21.1.Placed)), (35, (.row 165 [[(lo 32 r21.1.Free.length), (lo 33 r21.1.Tails.length), (lo 34 r21.1.Placed.length)]]))] ⟨rfl, rfl, rfl, rfl, trivial⟩ ⟨rfl, rfl, rfl, rfl, rfl, trivial⟩ ?_
     refine Wr ?_
     refine Op10 (LT.fieldPl rfl fo165_1) rfl rfl rfl ?_
     refine Op11 (LT.bload1 (c := (lo 33 r21.1.Tails.length)) rfl ag37 (by exact rfl)) rfl rfl rfl rfl ?_
     refine mv (Iv j26) rfl rfl rfl rfl ?_
     refine Os10 (LT.tbuildSlice (n := 40) (enc := encInt) [(0, .tmp 102, (.c (iC j26)))] ([j26] : List Int) rfl rfl und37 ti3 rfl rfl rfl rfl (by decide) (fun _ => rfl) rfl) rfl rfl rfl ?_
     refine Ob' fun u30 hu30 => ?_
     refine Os22 (LT.tappP (enc := encInt) rfl rfl rfl und37 ti3 rfl (by decide) (by decide) (fun _ => rfl) (lim_le hu30)) rfl rfl rfl rfl rfl rfl ?_
     refine Op10 (LT.fieldPl rfl fo165_1) rfl rfl rfl ?_
     refine Os21 (LT.bstore (v := (.c (lo 33 ((r21.1.Tails ++ ([j26] : List Int)).length)))) (out := [(lo 32 r21.1.Free.length), (lo 33 ((r21.1.Tails ++ ([j26] : List Int)).length)), (lo 34 r21.1.Placed.length)]) rfl rfl (infS inf37) sz37 (by exact rfl) (by exact Nat.le_of_ble_eq_true rfl) (by exact rfl)) rfl rfl rfl rfl rfl ?_
     refine On (Ws ?_)
     refine en [(4, (Iv bar)), (10, (Cc (.pl 23 0))), (13, (Cc (.pl 35 0)))] [(23, (.row 165 [[(sC nilV), (sC nilV), (sC nilV)]])), (32, (pR 3 encInt (r21.1.Free.set j26.toNat (w64 (x28 - 1))))), (33, (pR 3 encInt (r21.1.Tails ++ ([j26] : List Int)))), (34, (pR 3 encInt r21.1.Placed)), (35, (.row 165 [[(lo 32 r21.1.Free.length), (lo 33 ((r21.1.Tails ++ ([j26] : List Int)).length)), (lo 34 r21.1.Placed.length)]]))] ⟨rfl, rfl, rfl, trivial⟩ ⟨rfl, rfl, rfl, rfl, rfl, trivial⟩ ?_
     refine Wr ?_
     refine Op10 (LT.fieldPl rfl fo165_2) rfl rfl rfl ?_
     refine Op11 (LT.bload1 (c := (lo 34 r21.1.Placed.length)) rfl ag37 (by exact rfl)) rfl rfl rfl rfl ?_
     refine mv (Iv bar) rfl rfl rfl rfl ?_
     refine Os10 (LT.tbuildSlice (n := 41) (enc := encInt) [(0, .tmp 108, (.c (iC bar)))] ([bar] : List Int) rfl rfl und37 ti3 rfl rfl rfl rfl (by decide) (fun _ => rfl) rfl) rfl rfl rfl ?_
     refine Ob' fun u31 hu31 => ?_
     refine Os22 (LT.tappP (enc := encInt) rfl rfl rfl und37 ti3 rfl (by decide) (by decide) (fun _ => rfl) (lim_le hu31)) rfl rfl rfl rfl rfl rfl ?_
     refine Op10 (LT.fieldPl rfl fo165_2) rfl rfl rfl ?_
     refine Os21 (LT.bstore (v := (.c (lo 34 ((r21.1.Placed ++ ([bar] : List Int)).length)))) (out := [(lo 32 r21.1.Free.length), (lo 33 ((r21.1.Tails ++ ([j26] : List Int)).length)), (lo 34 ((r21.1.Placed ++ ([bar] : List Int)).length))]) rfl rfl (infS inf37) sz37 (by exact rfl) (by exact Nat.le_of_ble_eq_true rfl) (by exact rfl)) rfl rfl rfl rfl rfl ?_
     refine On (Ws ?_)
     refine en [(10, (Cc (.pl 23 0))), (13, (Cc (.pl 35 0)))] [(23, (.row 165 [[(sC nilV), (sC nilV), (sC nilV)]])), (32, (pR 3 encInt (r21.1.Free.set j26.toNat (w64 (x28 - 1))))), (33, (pR 3 encInt (r21.1.Tails ++ ([j26] : List Int)))), (34, (pR 3 encInt (r21.1.Placed ++ ([bar] : List Int)))), (35, (.row 165 [[(lo 32 r21.1.Free.length), (lo 33 ((r21.1.Tails ++ ([j26] : List Int)).length)), (lo 34 ((r21.1.Placed ++ ([bar] : List Int)).length))]]))] ⟨rfl, rfl, trivial⟩ ⟨rfl, rfl, rfl, rfl, rfl, trivial⟩ ?_
     refine Wr ?_
     refine Op11 (LT.bloadN (out := [(lo 32 r21.1.Free.length), (lo 33 ((r21.1.Tails ++ ([j26] : List Int)).length)), (lo 34 ((r21.1.Placed ++ ([bar] : List Int)).length))]) rfl ag165 (infS inf165) sz165 (by exact rfl) (by exact rfl)) rfl rfl rfl rfl ?_
     refine Os21 (LT.bstore (v := (.agg [(lo 32 r21.1.Free.length), (lo 33 ((r21.1.Tails ++ ([j26] : List Int)).length)), (lo 34 ((r21.1.Placed ++ ([bar] : List Int)).length))])) (out := [(lo 32 r21.1.Free.length), (lo 33 ((r21.1.Tails ++ ([j26] : List Int)).length)), (lo 34 ((r21.1.Placed ++ ([bar] : List Int)).length))]) rfl rfl (infS inf165) sz165 (by exact rfl) (by exact Nat.le_of_ble_eq_true rfl) (by exact rfl)) rfl rfl rfl rfl rfl ?_
     refine asg (Bv true) rfl ⟨rfl, rfl⟩ rfl rfl ?_
     refine On ?_
     refine en [(10, (Cc (.pl 23 0))), (11, (Bv true))] [(23, (.row 165 [[(lo 32 r21.1.Free.length), (lo 33 ((r21.1.Tails ++ ([j26] : List Int)).length)), (lo 34 ((r21.1.Placed ++ ([bar] : List Int)).length))]])), (32, (pR 3 encInt (r21.1.Free.set j26.toNat (w64 (x28 - 1))))), (33, (pR 3 encInt (r21.1.Tails ++ ([j26] : List Int)))), (34, (pR 3 encInt (r21.1.Placed ++ ([bar] : List Int))))] ⟨rfl, rfl, trivial⟩ ⟨rfl, rfl, rfl, rfl, trivial⟩ ?_
     refine AWR.ent (Ent.mv 32 0 rfl rfl) ?_
     refine AWR.ent (Ent.mv 33 1 rfl rfl) ?_
     refine AWR.ent (Ent.mv 34 2 rfl rfl) ?_
     refine en [(10, (Cc (.pl 23 0))), (11, (Bv true))] [(0, (pR 3 encInt (r21.1.Free.set j26.toNat (w64 (x28 - 1))))), (1, (pR 3 encInt (r21.1.Tails ++ ([j26] : List Int)))), (2, (pR 3 encInt (r21.1.Placed ++ ([bar] : List Int)))), (23, (.row 165 [[(lo 0 ((r21.1.Free.set j26.toNat (w64 (x28 - 1))).length)), (lo 1 ((r21.1.Tails ++ ([j26] : List Int)).length)), (lo 2 ((r21.1.Placed ++ ([bar] : List Int)).length))]]))] ⟨rfl, rfl, trivial⟩ ⟨rfl, rfl, rfl, (congrArg (fun l1 => (some (Ob.row 165 [[(lo 0 l1), (lo 1 ((r21.1.Tails ++ ([j26] : List Int)).length)), (lo 2 ((r21.1.Placed ++ ([bar] : List Int)).length))]]) : Option Ob)) (show r21.1.Free.length = (r21.1.Free.set j26.toNat (w64 (x28 - 1))).length by simp only [List.length_set])), trivial⟩ ?_
     refine AWR.ret (FPost.mk (.inr rfl) ⟨⟨_, _, _, rfl, rfl, rfl, ag165, sz165, _, (infS inf165)⟩, rfl, trivial⟩ ⟨rfl, rfl, rfl, trivial⟩ rfl ⟨⟨trivial, trivial, trivial, trivial⟩, PermP.sc, trivial⟩ ⟨PermO.prow' perm_encInt, PermO.prow' perm_encInt, PermO.prow' perm_encInt, trivial⟩)
theorem w_spec_RunPebbles (g : TGraph) (k : Int) (l : Int) : ∀ t, m_spec_RunPebbles g k l = some t → Fw.Fn Try.prog 216 [(.agg [(iC g.Points), (xF encTBar g.Bars)]), (.c (iC k)), (.c (iC l))] [] (resA [(.agg [(lo 0 t.1.Free.length), (lo 1 t.1.Tails.length), (lo 2 t.1.Placed.length)]), (.c (bC t.2))]) [(0, (pR 3 encInt t.1.Free)), (1, (pR 3 encInt t.1.Tails)), (2, (pR 3 encInt t.1.Placed))] [] [0, 1, 2] := by
 refine Fw.Fn.of (P := Try.prog) (X := [0, 1, 2]) (pn := []) (rs := (fun (t : (TPebbles × Bool)) => [(.agg [(lo 0 t.1.Free.length), (lo 1 t.1.Tails.length), (lo 2 t.1.Placed.length)]), (.c (bC t.2))])) (dfs := (fun (t : (TPebbles × Bool)) => [(0, (pR 3 encInt t.1.Free)), (1, (pR 3 encInt t.1.Tails)), (2, (pR 3 encInt t.1.Placed))])) Try.func216 rfl Try.ntmps216 (Nat.le_of_ble_eq_true rfl) rfl ?_
 intro w0 U0 R0 g0
 unfold m_spec_RunPebbles
 refine Ws (Wr ?_)
 refine Os10 (LT.box (n := 21) (v := (.agg [(iC g.Points), (xF encTBar g.Bars)])) rfl sz26 (by exact rfl)) rfl rfl rfl ?_
 refine Os00 (LT.alloc (n := 22) (cells := [(sC nilV), (sC nilV), (sC nilV)]) rfl ti165 rfl rfl rfl) rfl rfl ?_
 refine asg (Bv false) rfl ⟨rfl, rfl⟩ rfl rfl ?_
 refine On (Ws (Wr ?_))
 refine Op11 (LT.bloadN (out := [(iC g.Points), (xF encTBar g.Bars)]) rfl ag26 (infS inf26) sz26 (by exact rfl) (by exact rfl)) rfl rfl rfl rfl ?_
 refine mv (Iv k) rfl rfl rfl rfl ?_
 refine Ob' fun r1 hr1 => ?_
 refine AOR.step (@LT.callF Try.prog _ _ 239 _ _ [(.agg [(iC g.Points), (xF encTBar g.Bars)]), (.c (iC k))] _ _ [] _ _ _ _ ((show Fw.Fn Try.prog 239 [(.agg [(iC g.Points), (xF encTBar g.Bars)]), (.c (iC k))] [] (.tup [(.agg [(lo 24 r1.1.Free.length), (lo 25 r1.1.Tails.length), (lo 26 r1.1.Placed.length)]), (.c (bC r1.2))]) [(24, (pR 3 encInt r1.1.Free)), (25, (pR 3 encInt r1.1.Tails)), (26, (pR 3 encInt r1.1.Placed))] [] [24, 25, 26] from Fw.Fn.ren [(0, 24), (1, 25), (2, 26)] (w_spec_NewPebbles g k r1 hr1) rfl)) rfl cb239 (.cons (.agg (.cons (.same rfl) (.cons (.same rfl) .nil))) (.cons (.c (.same rfl)) .nil)) rfl rfl trivial) ⟨rfl, rfl, rfl, trivial⟩ trivial rfl rfl ?_
 refine mv (.tup [(.agg [(lo 24 r1.1.Free.length), (lo 25 r1.1.Tails.length), (lo 26 r1.1.Placed.length)]), (.c (bC r1.2))]) rfl rfl rfl rfl ?_
 refine Op10 (LT.extract (v := (.agg [(lo 24 r1.1.Free.length), (lo 25 r1.1.Tails.length), (lo 26 r1.1.Placed.length)])) rfl (by exact rfl)) rfl rfl rfl ?_
 refine Op10 (LT.extract (v := (.c (bC r1.2))) rfl (by exact rfl)) rfl rfl rfl ?_
 refine Os00 (LT.alloc (n := 27) (cells := [(sC nilV), (sC nilV), (sC nilV)]) rfl ti165 rfl rfl rfl) rfl rfl ?_
 refine Os21 (LT.bstore (v := (.agg [(lo 24 r1.1.Free.length), (lo 25 r1.1.Tails.length), (lo 26 r1.1.Placed.length)])) (out := [(lo 24 r1.1.Free.length), (lo 25 r1.1.Tails.length), (lo 26 r1.1.Placed.length)]) rfl rfl (infS inf165) sz165 (by exact rfl) (by exact Nat.le_of_ble_eq_true rfl) (by exact rfl)) rfl rfl rfl rfl rfl ?_
 refine asg (Bv r1.2) rfl rfl rfl rfl ?_
 refine On (Ws (Ws ?_))
 refine AWR.joinK (fun j4 => ([(1, (Iv k)), (2, (Iv l)), (3, (Cc (.pl 21 0))), (6, (Cc (.pl 22 0))), (8, (Cc (.pl 27 0))), (24, (Bv j4))], [(21, (.row 26 [[(iC g.Points), (xF encTBar g.Bars)]])), (22, (.row 165 [[(sC nilV), (sC nilV), (sC nilV)]])), (24, (pR 3 encInt r1.1.Free)), (25, (pR 3 encInt r1.1.Tails)), (26, (pR 3 encInt r1.1.Placed)), (27, (.row 165 [[(lo 24 r1.1.Free.length), (lo 25 r1.1.Tails.length), (lo 26 r1.1.Placed.length)]]))])) ?_ (fun j4 _ => ?_)
 ·refine en [(1, (Iv k)), (2, (Iv l)), (3, (Cc (.pl 21 0))), (6, (Cc (.pl 22 0))), (8, (Cc (.pl 27 0))), (9, (Bv r1.2))] [(21, (.row 26 [[(iC g.Points), (xF encTBar g.Bars)]])), (22, (.row 165 [[(sC nilV), (sC nilV), (sC nilV)]])), (24, (pR 3 encInt r1.1.Free)), (25, (pR 3 encInt r1.1.Tails)), (26, (pR 3 encInt r1.1.Placed)), (27, (.row 165 [[(lo 24 r1.1.Free.length), (lo 25 r1.1.Tails.length), (lo 26 r1.1.Placed.length)]]))] ⟨rfl, rfl, rfl, rfl, rfl, rfl, trivial⟩ ⟨rfl, rfl, rfl, rfl, rfl, rfl, trivial⟩ ?_
  refine Wr ?_
  refine mv (Bv r1.2) rfl rfl rfl rfl ?_
  refine Op10 (LT.not rfl) rfl rfl rfl ?_
  refine mv (Bv (!r1.2)) rfl rfl rfl rfl ?_
  refine AOR.split (fun hb5 => ?_) (fun hb5 => ?_)
  ·refine Ok rfl rfl rfl (by rw [hb5]; rfl) rfl ?_
   refine Ok rfl rfl rfl (by rw [hb5]; rfl) rfl ?_
   refine Ok rfl rfl rfl (by rw [hb5]; rfl) rfl ?_
   refine Ok rfl rfl rfl (by rw [hb5]; rfl) rfl ?_
   refine Op20 (LT.pickT (v := (Bv true)) rfl hb5) rfl ⟨rfl, rfl⟩ rfl rfl ?_
   refine On ?_
   refine AWR.nil ⟨rfl, Ent.of ⟨rfl, rfl, rfl, rfl, rfl, rfl, trivial⟩ ⟨rfl, rfl, rfl, rfl, rfl, rfl, trivial⟩⟩
  ·refine mv (Iv k) rfl rfl ⟨_, rfl, .inl ⟨_, rfl, (by rw [hb5]; rfl)⟩⟩ rfl ?_
   refine mv (Iv l) rfl rfl ⟨_, rfl, .inl ⟨_, rfl, (by rw [hb5]; rfl)⟩⟩ rfl ?_
   refine Ob' fun r6 hr6 => ?_
   refine AOR.pure (@LT.callF Try.prog _ _ 240 _ _ [(.c (iC k)), (.c (iC l))] _ _ [] _ _ _ _ (w_spec_IsRange k l r6 hr6) rfl cb240 (.cons (.c (.same rfl)) (.cons (.c (.same rfl)) .nil)) rfl rfl trivial) ⟨rfl, rfl, rfl, trivial⟩ trivial ⟨_, rfl, .inl ⟨_, rfl, (by rw [hb5]; rfl)⟩⟩ rfl ?_
   refine Op10 (LT.not rfl) rfl ⟨_, rfl, .inl ⟨_, rfl, (by rw [hb5]; rfl)⟩⟩ rfl ?_
   refine Op20 (LT.pickF (v := (Bv (!r6))) rfl hb5) rfl rfl rfl rfl ?_
   refine On ?_
   refine AWR.nil ⟨rfl, Ent.of ⟨rfl, rfl, rfl, rfl, rfl, rfl, trivial⟩ ⟨rfl, rfl, rfl, rfl, rfl, rfl, trivial⟩⟩
 ·refine AWR.cond rfl (fun hc7 => ?_) (fun hc7 => ?_)
  ·refine Ws (Wr ?_)
   refine Op00 (LT.build [] rfl rfl pl165 ti165 rfl rfl rfl) rfl rfl ?_
   refine Os21 (LT.bstore (v := (.agg [(sC nilV), (sC nilV), (sC nilV)])) (out := [(sC nilV), (sC nilV), (sC nilV)]) rfl rfl (infS inf165) sz165 (by exact rfl) (by exact Nat.le_of_ble_eq_true rfl) (by exact rfl)) rfl rfl rfl rfl rfl ?_
   refine asg (Bv false) rfl ⟨rfl, rfl⟩ rfl rfl ?_
   refine On ?_
   refine AWR.ent (Ent.nilB 22 0 0 3 rfl rfl rfl rfl) ?_
   refine AWR.ent (Ent.nilB 22 1 1 3 rfl rfl rfl rfl) ?_
   refine AWR.ent (Ent.nilB 22 2 2 3 rfl rfl rfl rfl) ?_
   refine en [(6, (Cc (.pl 22 0))), (7, (Bv false))] [(0, (pR 3 encInt ([] : List Int))), (1, (pR 3 encInt ([] : List Int))), (2, (pR 3 encInt ([] : List Int))), (22, (.row 165 [[(lo 0 (([] : List Int).length)), (lo 1 (([] : List Int).length)), (lo 2 (([] : List Int).length))]]))] ⟨rfl, rfl, trivial⟩ ⟨rfl, rfl, rfl, rfl, trivial⟩ ?_
   refine AWR.ret (FPost.mk (.inr rfl) ⟨⟨_, _, _, rfl, rfl, rfl, ag165, sz165, _, (infS inf165)⟩, rfl, trivial⟩ ⟨rfl, rfl, rfl, trivial⟩ rfl ⟨⟨trivial, trivial, trivial, trivial⟩, PermP.sc, trivial⟩ ⟨PermO.prow' perm_encInt, PermO.prow' perm_encInt, PermO.prow' perm_encInt, trivial⟩)
  ·refine AWR.skip (Ws (Ws (Wr ?_)))
   refine asg (Iv 0) rfl ⟨rfl, rfl⟩ rfl rfl ?_
   refine On (AWR.block ?_)
   refine AWR.loop1 (id := 0) (m_spec_RunPebbles_L1 g k l) (fun s8 => ([(1, (Iv k)), (2, (Iv l)), (3, (Cc (.pl 21 0))), (6, (Cc (.pl 22 0))), (8, (Cc (.pl 27 0))), (10, (Iv s8.1))], [(21, (.row 26 [[(iC g.Points), (xF encTBar g.Bars)]])), (22, (.row 165 [[(sC nilV), (sC nilV), (sC nilV)]])), (24, (pR 3 encInt s8.2.1)), (25, (pR 3 encInt s8.2.2.1)), (26, (pR 3 encInt s8.2.2.2)), (27, (.row 165 [[(lo 24 s8.2.1.length), (lo 25 s8.2.2.1.length), (lo 26 s8.2.2.2.length)]]))])) (fun b13 => ([(6, (Cc (.pl 22 0))), (8, (Cc (.pl 27 0)))], [(22, (.row 165 [[(sC nilV), (sC nilV), (sC nilV)]])), (24, (pR 3 encInt b13.1)), (25, (pR 3 encInt b13.2.1)), (26, (pR 3 encInt b13.2.2)), (27, (.row 165 [[(lo 24 b13.1.length), (lo 25 b13.2.1.length), (lo 26 b13.2.2.length)]]))])) ?_ (Ent.of ⟨rfl, rfl, rfl, rfl, rfl, rfl, trivial⟩ ⟨rfl, rfl, rfl, rfl, rfl, rfl, trivial⟩) rfl (fun b13 _ => ?_)
   ·intro s8
    unfold m_spec_RunPebbles_L1
    refine Ws (Ws (Wr ?_))
    refine mv (Iv s8.1) rfl rfl rfl rfl ?_
    refine Op10 (LT.fieldPl rfl fo26_1) rfl rfl rfl ?_
    refine Op11 (LT.bload1 (c := (xF encTBar g.Bars)) rfl ag24 (by exact rfl)) rfl rfl rfl rfl ?_
    refine Op10 (LT.tlenRO rfl und24) rfl rfl rfl ?_
    refine Op20 (LT.lss rfl) rfl rfl rfl rfl ?_
    refine On ?_
    refine AWR.cond rfl (fun hc14 => ?_) (fun hc14 => ?_)
    ·refine AWR.skip (Ws (AWR.block (Wr ?_)))
     refine Op11 (LT.bloadN (out := [(iC g.Points), (xF encTBar g.Bars)]) rfl ag26 (infS inf26) sz26 (by exact rfl) (by exact rfl)) rfl rfl rfl rfl ?_
     refine mv (Iv k) rfl rfl rfl rfl ?_
     refine mv (Iv l) rfl rfl rfl rfl ?_
     refine Op11 (LT.bloadN (out := [(lo 24 s8.2.1.length), (lo 25 s8.2.2.1.length), (lo 26 s8.2.2.2.length)]) rfl ag165 (infS inf165) sz165 (by exact rfl) (by exact rfl)) rfl rfl rfl rfl ?_
     refine mv (Iv s8.1) rfl rfl rfl rfl ?_
     refine Ob' fun r15 hr15 => ?_
     refine AOR.step (@LT.callF Try.prog _ _ 241 _ _ [(.agg [(iC g.Points), (xF encTBar g.Bars)]), (.c (iC k)), (.c (iC l)), (.agg [(lo 24 s8.2.1.length), (lo 25 s8.2.2.1.length), (lo 26 s8.2.2.2.length)]), (.c (iC s8.1))] _ _ [(24, (pR 3 encInt s8.2.1)), (25, (pR 3 encInt s8.2.2.1)), (26, (pR 3 encInt s8.2.2.2))] _ _ _ _ ((show Fw.Fn Try.prog 241 [(.agg [(iC g.Points), (xF encTBar g.Bars)]), (.c (iC k)), (.c (iC l)), (.agg [(xF encInt ((TPebbles.mk s8.2.1 s8.2.2.1 s8.2.2.2).Free)), (xF encInt ((TPebbles.mk s8.2.1 s8.2.2.1 s8.2.2.2).Tails)), (xF encInt ((TPebbles.mk s8.2.1 s8.2.2.1 s8.2.2.2).Placed))]), (.c (iC s8.1))] [] (.tup [(.agg [(lo 30 r15.1.Free.length), (lo 31 r15.1.Tails.length), (lo 32 r15.1.Placed.length)]), (.c (bC r15.2))]) [(30, (pR 3 encInt r15.1.Free)), (31, (pR 3 encInt r15.1.Tails)), (32, (pR 3 encInt r15.1.Placed))] [] [30, 31, 32] from Fw.Fn.ren [(0, 30), (1, 31), (2, 32)] (w_spec_PlaceBar g k l (TPebbles.mk s8.2.1 s8.2.2.1 s8.2.2.2) s8.1 r15 hr15) rfl)) rfl cb241 (.cons (.agg (.cons (.same rfl) (.cons (.same rfl) .nil))) (.cons (.c (.same rfl)) (.cons (.c (.same rfl)) (.cons (.agg (.cons (.tloc rfl rfl) (.cons (.tloc rfl rfl) (.cons (.tloc rfl rfl) .nil)))) (.cons (.c (.same rfl)) .nil))))) rfl rfl trivial) ⟨rfl, rfl, rfl, rfl, rfl, rfl, trivial⟩ ⟨rfl, rfl, rfl, trivial⟩ rfl rfl ?_
     refine mv (.tup [(.agg [(lo 30 r15.1.Free.length), (lo 31 r15.1.Tails.length), (lo 32 r15.1.Placed.length)]), (.c (bC r15.2))]) rfl rfl rfl rfl ?_
     refine Op10 (LT.extract (v := (.agg [(lo 30 r15.1.Free.length), (lo 31 r15.1.Tails.length), (lo 32 r15.1.Placed.length)])) rfl (by exact rfl)) rfl rfl rfl ?_
     refine Op10 (LT.extract (v := (.c (bC r15.2))) rfl (by exact rfl)) rfl rfl rfl ?_
     refine Os21 (LT.bstore (v := (.agg [(lo 30 r15.1.Free.length), (lo 31 r15.1.Tails.length), (lo 32 r15.1.Placed.length)])) (out := [(lo 30 r15.1.Free.length), (lo 31 r15.1.Tails.length), (lo 32 r15.1.Placed.length)]) rfl rfl (infS inf165) sz165 (by exact rfl) (by exact Nat.le_of_ble_eq_true rfl) (by exact rfl)) rfl rfl rfl rfl rfl ?_
     refine On (AWR.blk ?_)
     refine en [(1, (Iv k)), (2, (Iv l)), (3, (Cc (.pl 21 0))), (6, (Cc (.pl 22 0))), (8, (Cc (.pl 27 0))), (10, (Iv s8.1))] [(21, (.row 26 [[(iC g.Points), (xF encTBar g.Bars)]])), (22, (.row 165 [[(sC nilV), (sC nilV), (sC nilV)]])), (27, (.row 165 [[(lo 30 r15.1.Free.length), (lo 31 r15.1.Tails.length), (lo 32 r15.1.Placed.length)]])), (30, (pR 3 encInt r15.1.Free)), (31, (pR 3 encInt r15.1.Tails)), (32, (pR 3 encInt r15.1.Placed))] ⟨rfl, rfl, rfl, rfl, rfl, rfl, trivial⟩ ⟨rfl, rfl, rfl, rfl, rfl, rfl, trivial⟩ ?_
     refine Wr ?_
     refine mv (Iv s8.1) rfl rfl rfl rfl ?_
     refine Op20 (LT.add rfl) rfl ⟨rfl, rfl⟩ rfl rfl ?_
     refine asg (Iv (w64 (s8.1 + 1))) rfl rfl rfl rfl ?_
     refine On ?_
     refine en [(1, (Iv k)), (2, (Iv l)), (3, (Cc (.pl 21 0))), (6, (Cc (.pl 22 0))), (8, (Cc (.pl 27 0))), (10, (Iv (w64 (s8.1 + 1))))] [(21, (.row 26 [[(iC g.Points), (xF encTBar g.Bars)]])), (22, (.row 165 [[(sC nilV), (sC nilV), (sC nilV)]])), (27, (.row 165 [[(lo 30 r15.1.Free.length), (lo 31 r15.1.Tails.length), (lo 32 r15.1.Placed.length)]])), (30, (pR 3 encInt r15.1.Free)), (31, (pR 3 encInt r15.1.Tails)), (32, (pR 3 encInt r15.1.Placed))] ⟨rfl, rfl, rfl, rfl, rfl, rfl, trivial⟩ ⟨rfl, rfl, rfl, rfl, rfl, rfl, trivial⟩ ?_
     refine AWR.ent (Ent.mv 30 24 rfl rfl) ?_
     refine AWR.ent (Ent.mv 31 25 rfl rfl) ?_
     refine AWR.ent (Ent.mv 32 26 rfl rfl) ?_
     refine AWR.nil ⟨rfl, Ent.of ⟨rfl, rfl, rfl, rfl, rfl, rfl, trivial⟩ ⟨rfl, rfl, rfl, rfl, rfl, rfl, trivial⟩⟩
    ·refine AWR.exit_end rfl ⟨rfl, Ent.of ⟨rfl, rfl, trivial⟩ ⟨rfl, rfl, rfl, rfl, rfl, trivial⟩⟩
   ·refine Ws (Wr ?_)
    refine Op11 (LT.bloadN (out := [(lo 24 b13.1.length), (lo 25 b13.2.1.length), (lo 26 b13.2.2.length)]) rfl ag165 (infS inf165) sz165 (by exact rfl) (by exact rfl)) rfl rfl rfl rfl ?_
    refine Os21 (LT.bstore (v := (.agg [(lo 24 b13.1.length), (lo 25 b13.2.1.length), (lo 26 b13.2.2.length)])) (out := [(lo 24 b13.1.length), (lo 25 b13.2.1.length), (lo 26 b13.2.2.length)]) rfl rfl (infS inf165) sz165 (by exact rfl) (by exact Nat.le_of_ble_eq_true rfl) (by exact rfl)) rfl rfl rfl rfl rfl ?_
    refine asg (Bv true) rfl ⟨rfl, rfl⟩ rfl rfl ?_
    refine On ?_
    refine en [(6, (Cc (.pl 22 0))), (7, (Bv true))] [(22, (.row 165 [[(lo 24 b13.1.length), (lo 25 b13.2.1.length), (lo 26 b13.2.2.length)]])), (24, (pR 3 encInt b13.1)), (25, (pR 3 encInt b13.2.1)), (26, (pR 3 encInt b13.2.2))] ⟨rfl, rfl, trivial⟩ ⟨rfl, rfl, rfl, rfl, trivial⟩ ?_
    refine AWR.ent (Ent.mv 24 0 rfl rfl) ?_
    refine AWR.ent (Ent.mv 25 1 rfl rfl) ?_
    refine AWR.ent (Ent.mv 26 2 rfl rfl) ?_
    refine en [(6, (Cc (.pl 22 0))), (7, (Bv true))] [(0, (pR 3 encInt b13.1)), (1, (pR 3 encInt b13.2.1)), (2, (pR 3 encInt b13.2.2)), (22, (.row 165 [[(lo 0 b13.1.length), (lo 1 b13.2.1.length), (lo 2 b13.2.2.length)]]))] ⟨rfl, rfl, trivial⟩ ⟨rfl, rfl, rfl, rfl, trivial⟩ ?_
    refine AWR.ret (FPost.mk (.inr rfl) ⟨⟨_, _, _, rfl, rfl, rfl, ag165, sz165, _, (infS inf165)⟩, rfl, trivial⟩ ⟨rfl, rfl, rfl, trivial⟩ rfl ⟨⟨trivial, trivial, trivial, trivial⟩, PermP.sc, trivial⟩ ⟨PermO.prow' perm_encInt, PermO.prow' perm_encInt, PermO.prow' perm_encInt, trivial⟩)
theorem w_impl_IsRange (k : Int) (l : Int) : ∀ t, m_impl_IsRange k l = some t → Fw.Fn Try.prog 237 [(.c (iC k)), (.c (iC l))] [] (.s (.c (bC t))) [] [] [] := by
 refine Fw.Fn.of (P := Try.prog) (X := []) (pn := []) (rs := (fun (t : Bool) => [(.c (bC t))])) (dfs := (fun (t : Bool) => [])) Try.func237 rfl Try.ntmps237 (Nat.le_of_ble_eq_true rfl) rfl ?_
 intro w0 U0 R0 g0
 unfold m_impl_IsRange
 refine Ws (Wr ?_)
 refine asg (Bv false) rfl ⟨rfl, rfl⟩ rfl rfl ?_
 refine On (Ws ?_)
 refine AWR.joinK (fun j4 => ([(4, (Bv j4))], [])) ?_ (fun j4 _ => ?_)
 ·refine Wr ?_
  refine mv (Iv k) rfl rfl rfl rfl ?_
  refine Ob' fun r5 hr5 => ?_
  refine AOR.pure (@LT.callF Try.prog _ _ 128 _ _ [(.c (iC k)), (.c (iC 1)), (.c (iC 3))] _ _ [] _ _ _ _ (w_impl_within k 1 3 r5 hr5) rfl cb128 (.cons (.c (.same rfl)) (.cons (.c (.same rfl)) (.cons (.c (.same rfl)) .nil))) rfl rfl trivial) ⟨rfl, rfl, ⟨rfl, rfl⟩, ⟨rfl, rfl⟩, trivial⟩ trivial rfl rfl ?_
  refine mv (Bv r5) rfl rfl rfl rfl ?_
  refine AOR.split (fun hb6 => ?_) (fun hb6 => ?_)
  ·refine mv (Iv l) rfl rfl ⟨_, rfl, .inl ⟨_, rfl, (by rw [hb6]; rfl)⟩⟩ rfl ?_
   refine mv (Iv k) rfl rfl ⟨_, rfl, .inl ⟨_, rfl, (by rw [hb6]; rfl)⟩⟩ rfl ?_
   refine Op20 (LT.mul rfl) ⟨rfl, rfl⟩ rfl ⟨_, rfl, .inl ⟨_, rfl, (by rw [hb6]; rfl)⟩⟩ rfl ?_
   refine Op20 (LT.sub rfl) rfl ⟨rfl, rfl⟩ ⟨_, rfl, .inl ⟨_, rfl, (by rw [hb6]; rfl)⟩⟩ rfl ?_
   refine Ob' fun r7 hr7 => ?_
   refine AOR.pure (@LT.callF Try.prog _ _ 128 _ _ [(.c (iC l)), (.c (iC 0)), (.c (iC (w64 ((w64 (2 * k)) - 1))))] _ _ [] _ _ _ _ (w_impl_within l 0 (w64 ((w64 (2 * k)) - 1)) r7 hr7) rfl cb128 (.cons (.c (.same rfl)) (.cons (.c (.same rfl)) (.cons (.c (.same rfl)) .nil))) rfl rfl trivial) ⟨rfl, rfl, ⟨rfl, rfl⟩, rfl, trivial⟩ trivial ⟨_, rfl, .inl ⟨_, rfl, (by rw [hb6]; rfl)⟩⟩ rfl ?_
   refine Op20 (LT.pickT (v := (Bv r7)) rfl hb6) rfl rfl rfl rfl ?_
   refine asg (Bv r7) rfl rfl rfl rfl ?_
   refine On ?_
   refine AWR.nil ⟨rfl, Ent.of ⟨rfl, trivial⟩ trivial⟩
  ·refine Ok rfl rfl rfl (by rw [hb6]; rfl) rfl ?_
   refine Ok rfl rfl rfl (by rw [hb6]; rfl) rfl ?_
   refine Ok rfl rfl rfl (by rw [hb6]; rfl) rfl ?_
   refine Ok rfl rfl rfl (by rw [hb6]; rfl) rfl ?_
   refine Ok rfl rfl rfl (by rw [hb6]; rfl) rfl ?_
   refine Op20 (LT.pickF (v := (Bv false)) rfl hb6) rfl ⟨rfl, rfl⟩ rfl rfl ?_
   refine asg (Bv false) rfl rfl rfl rfl ?_
   refine On ?_
   refine AWR.nil ⟨rfl, Ent.of ⟨rfl, trivial⟩ trivial⟩
 ·refine AWR.ret (FPost.mk (.inr rfl) ⟨rfl, trivial⟩ trivial rfl ⟨PermP.sc, trivial⟩ trivial)
theorem w_impl_copyPebbles (p : TPebbles) : ∀ t, m_impl_copyPebbles p = some t → Fw.Fn Try.prog 250 [(.agg [(xF encInt p.Free), (xF encInt p.Tails), (xF encInt p.Placed)])] [] (.s (.agg [(lo 0 t.Free.length), (lo 1 t.Tails.length), (lo 2 t.Placed.length)])) [(0, (pR 3 encInt t.Free)), (1, (pR 3 encInt t.Tails)), (2, (pR 3 encInt t.Placed))] [] [0, 1, 2] := by
 refine Fw.Fn.of (P := Try.prog) (X := [0, 1, 2]) (pn := []) (rs := (fun (t : TPebbles) => [(.agg [(lo 0 t.Free.length), (lo 1 t.Tails.length), (lo 2 t.Placed.length)])])) (dfs := (fun (t : TPebbles) => [(0, (pR 3 encInt t.Free)), (1, (pR 3 encInt t.Tails)), (2, (pR 3 encInt t.Placed))])) Try.func250 rfl Try.ntmps250 (Nat.le_of_ble_eq_true rfl) rfl ?_
 intro w0 U0 R0 g0
 unfold m_impl_copyPebbles
 refine Ws (Wr ?_)
 refine Os10 (LT.box (n := 21) (v := (.agg [(xF encInt p.Free), (xF encInt p.Tails), (xF encInt p.Placed)])) rfl sz165 (by exact rfl)) rfl rfl rfl ?_
 refine Os00 (LT.alloc (n := 22) (cells := [(sC nilV), (sC nilV), (sC nilV)]) rfl ti165 rfl rfl rfl) rfl rfl ?_
 refine On (Ws (AWR.draw mixed ?_))
 refine Dp10 (LT.fieldPl rfl fo165_0) rfl rfl rfl ?_
 refine Dp11 (LT.bload1 (c := (xF encInt p.Free)) rfl ag37 (by exact rfl)) rfl rfl rfl rfl ?_
 refine AOD.bind fun r1 hr1 => ?_
 refine AOD.step (@LT.callF Try.prog _ _ 114 _ _ [(.c (xF encInt p.Free))] _ _ [] _ _ _ _ ((show Fw.Fn Try.prog 114 [(.c (xF encInt p.Free))] [] (Cc (lo 24 r1.length)) [(24, (pR 3 encInt r1))] [] [24] from Fw.Fn.ren [(0, 24)] (w_impl_copyInts p.Free r1 hr1) rfl)) rfl cb114 (.cons (.c (.same rfl)) .nil) rfl rfl trivial) ⟨rfl, rfl, trivial⟩ trivial rfl rfl ?_
 refine Dp10 (LT.fieldPl rfl fo165_1) rfl rfl rfl ?_
 refine Dp11 (LT.bload1 (c := (xF encInt p.Tails)) rfl ag37 (by exact rfl)) rfl rfl rfl rfl ?_
 refine AOD.bind fun r2 hr2 => ?_
 refine AOD.step (@LT.callF Try.prog _ _ 114 _ _ [(.c (xF encInt p.Tails))] _ _ [] _ _ _ _ ((show Fw.Fn Try.prog 114 [(.c (xF encInt p.Tails))] [] (Cc (lo 26 r2.length)) [(26, (pR 3 encInt r2))] [] [26] from Fw.Fn.ren [(0, 26)] (w_impl_copyInts p.Tails r2 hr2) rfl)) rfl cb114 (.cons (.c (.same rfl)) .nil) rfl rfl trivial) ⟨rfl, rfl, trivial⟩ trivial rfl rfl ?_
 refine Dp10 (LT.fieldPl rfl fo165_2) rfl rfl rfl ?_
 refine Dp11 (LT.bload1 (c := (xF encInt p.Placed)) rfl ag37 (by exact rfl)) rfl rfl rfl rfl ?_
 refine AOD.bind fun r3 hr3 => ?_
 refine AOD.step (@LT.callF Try.prog _ _ 114 _ _ [(.c (xF encInt p.Placed))] _ _ [] _ _ _ _ ((show Fw.Fn Try.prog 114 [(.c (xF encInt p.Placed))] [] (Cc (lo 28 r3.length)) [(28, (pR 3 encInt r3))] [] [28] from Fw.Fn.ren [(0, 28)] (w_impl_copyInts p.Placed r3 hr3) rfl)) rfl cb114 (.cons (.c (.same rfl)) .nil) rfl rfl trivial) ⟨rfl, rfl, trivial⟩ trivial rfl rfl ?_
 refine Dp30 (LT.build [(0, .tmp 5, (.c (lo 24 r1.length))), (1, .tmp 8, (.c (lo 26 r2.length))), (2, .tmp 11, (.c (lo 28 r3.length)))] rfl rfl pl165 ti165 rfl rfl rfl) rfl rfl rfl rfl rfl ?_
 refine Ds21 (LT.bstore (v := (.agg [(lo 24 r1.length), (lo 26 r2.length), (lo 28 r3.length)])) (out := [(lo 24 r1.length), (lo 26 r2.length), (lo 28 r3.length)]) rfl rfl (infS inf165) sz165 (by exact rfl) (by exact Nat.le_of_ble_eq_true rfl) (by exact rfl)) rfl rfl rfl rfl rfl ?_
 refine AOD.nil (by kernel_rfl) ?_
 refine en [(2, (Cc (.pl 22 0)))] [(22, (.row 165 [[(lo 24 r1.length), (lo 26 r2.length), (lo 28 r3.length)]])), (24, (pR 3 encInt r1)), (26, (pR 3 encInt r2)), (28, (pR 3 encInt r3))] ⟨rfl, trivial⟩ ⟨rfl, rfl, rfl, rfl, trivial⟩ ?_
 refine AWR.ent (Ent.mv 24 0 rfl rfl) ?_
 refine AWR.ent (Ent.mv 26 1 rfl rfl) ?_
 refine AWR.ent (Ent.mv 28 2 rfl rfl) ?_
 refine en [(2, (Cc (.pl 22 0)))] [(0, (pR 3 encInt r1)), (1, (pR 3 encInt r2)), (2, (pR 3 encInt r3)), (22, (.row 165 [[(lo 0 r1.length), (lo 1 r2.length), (lo 2 r3.length)]]))] ⟨rfl, trivial⟩ ⟨rfl, rfl, rfl, rfl, trivial⟩ ?_
 refine AWR.ret (FPost.mk (.inr rfl) ⟨⟨_, _, _, rfl, rfl, rfl, ag165, sz165, _, (infS inf165)⟩, trivial⟩ ⟨rfl, rfl, rfl, trivial⟩ rfl ⟨⟨trivial, trivial, trivial, trivial⟩, trivial⟩ ⟨PermO.prow' perm_encInt, PermO.prow' perm_encInt, PermO.prow' perm_encInt, trivial⟩)
theorem w_impl_moveTo (bars : (List TBar)) (p : TPebbles) (a : Int) (b : Int) : ∀ t, m_impl_moveTo bars p a b = some t → Fw.Fn Try.prog 258 [(.c (xF encTBar bars)), (.c (.pl 0 0)), (.c (iC a)), (.c (iC b))] [(0, (.row 165 [[(lo 1 p.Free.length), (lo 2 p.Tails.length), (lo 3 p.Placed.length)]])), (1, (pR 3 encInt p.Free)), (2, (pR 3 encInt p.Tails)), (3, (pR 3 encInt p.Placed))] (.s (.c (bC t.1))) [(0, (.row 165 [[(lo 1 t.2.Free.length), (lo 2 t.2.Tails.length), (lo 3 t.2.Placed.length)]])), (1, (pR 3 encInt t.2.Free)), (2, (pR 3 encInt t.2.Tails)), (3, (pR 3 encInt t.2.Placed))] [0, 1, 2, 3] [1, 2, 3] := by
 refine Fw.Fn.of (P := Try.prog) (X := [1, 2, 3]) (pn := [0]) (rs := (fun (t : (Bool × TPebbles)) => [(.c (bC t.1))])) (dfs := (fun (t : (Bool × TPebbles)) => [(0, (.row 165 [[(lo 1 t.2.Free.length), (lo 2 t.2.Tails.length), (lo 3 t.2.Placed.length)]])), (1, (pR 3 encInt t.2.Free)), (2, (pR 3 encInt t.2.Tails)), (3, (pR 3 encInt t.2.Placed))])) Try.func258 rfl Try.ntmps258 (Nat.le_of_ble_eq_true rfl) rfl ?_
 intro w0 U0 R0 g0
 unfold m_impl_moveTo
 refine Ws (Wr ?_)
 refine asg (Bv false) rfl ⟨rfl, rfl⟩ rfl rfl ?_
 refine On (Ws (Wr ?_))
 refine Os00 (LT.makeMap (n := 21) rfl) rfl rfl ?_
 refine mv (Iv a) rfl rfl rfl rfl ?_
 refine Os31 (LT.mapPut (v := .tup []) (.inr rfl) rfl map195) rfl rfl ⟨rfl, rfl⟩ rfl rfl rfl ?_
 refine mv (Cc (.mref 21)) rfl rfl rfl rfl ?_
 refine asg (Cc (.mref 21)) rfl rfl rfl rfl ?_
 refine On (Ws (Wr ?_))
 refine mv (Iv a) rfl rfl rfl rfl ?_
 refine Os10 (LT.tbuildSlice (n := 22) (enc := encInt) [(0, .tmp 23, (.c (iC a)))] ([a] : List Int) rfl rfl und37 ti3 rfl rfl rfl rfl (by decide) (fun _ => rfl) rfl) rfl rfl rfl ?_
 refine asg (Cc (lo 22 (([a] : List Int).length))) rfl rfl rfl rfl ?_
 refine On (Ws (Ws ?_))
 refine en [(0, (Cc (xF encTBar bars))), (1, (Cc (.pl 0 0))), (2, (Iv a)), (3, (Iv b)), (9, (Cc (.mref 21))), (10, (Cc (lo 22 (([a] : List Int).length))))] [(0, (.row 165 [[(lo 1 p.Free.length), (lo 2 p.Tails.length), (lo 3 p.Placed.length)]])), (1, (pR 3 encInt p.Free)), (2, (pR 3 encInt p.Tails)), (3, (pR 3 encInt p.Placed)), (21, (.mp (mput ([] : List (Int × Int)) a (-1)))), (22, (pR 3 encInt ([a] : List Int)))] ⟨rfl, rfl, rfl, rfl, rfl, rfl, trivial⟩ ⟨rfl, rfl, rfl, rfl, rfl, rfl, trivial⟩ ?_
 refine Wr ?_
 refine asg (Iv 0) rfl ⟨rfl, rfl⟩ rfl rfl ?_
 refine On (AWR.block ?_)
 refine AWR.loopR (id := 0) (m_impl_moveTo_L7 bars p a b) (fun s1 => ([(0, (Cc (xF encTBar bars))), (1, (Cc (.pl 0 0))), (2, (Iv a)), (3, (Iv b)), (9, (Cc (.mref 21))), (10, (Cc (lo 22 s1.2.2.length))), (11, (Iv s1.1))], [(0, (.row 165 [[(lo 1 p.Free.length), (lo 2 p.Tails.length), (lo 3 p.Placed.length)]])), (1, (pR 3 encInt p.Free)), (2, (pR 3 encInt p.Tails)), (3, (pR 3 encInt p.Placed)), (21, (.mp s1.2.1)), (22, (pR 3 encInt s1.2.2))])) (fun b120 => ([], [(0, (.row 165 [[(lo 1 p.Free.length), (lo 2 p.Tails.length), (lo 3 p.Placed.length)]])), (1, (pR 3 encInt p.Free)), (2, (pR 3 encInt p.Tails)), (3, (pR 3 encInt p.Placed))])) (FPost Try.prog Try.f258.results.toList [(0, (.row 165 [[(lo 1 p.Free.length), (lo 2 p.Tails.length), (lo 3 p.Placed.length)]])), (1, (pR 3 encInt p.Free)), (2, (pR 3 encInt p.Tails)), (3, (pR 3 encInt p.Placed))] [1, 2, 3] (fun (t : (Bool × TPebbles)) => [(.c (bC t.1))]) (fun (t : (Bool × TPebbles)) => [(0, (.row 165 [[(lo 1 t.2.Free.length), (lo 2 t.2.Tails.length), (lo 3 t.2.Placed.length)]])), (1, (pR 3 encInt t.2.Free)), (2, (pR 3 encInt t.2.Tails)), (3, (pR 3 encInt t.2.Placed))])) ?_ (Ent.of ⟨rfl, rfl, rfl, rfl, rfl, rfl, rfl, trivial⟩ ⟨rfl, rfl, rfl, rfl, rfl, rfl, trivial⟩) rfl (fun b120 _ => ?_) (by intro r t σ m ht hk; injection ht with ht; subst ht; exact hk)
 ·intro s1
  unfold m_impl_moveTo_L7
  refine Ws (Ws (Wr ?_))
  refine mv (Iv s1.1) rfl rfl rfl rfl ?_
  refine mv (Cc (lo 22 s1.2.2.length)) rfl rfl rfl rfl ?_
  refine Op10 (LT.lenLoc rfl und37) rfl rfl rfl ?_
  refine Op20 (LT.lss rfl) rfl rfl rfl rfl ?_
  refine On ?_
  refine AWR.cond rfl (fun hc121 => ?_) (fun hc121 => ?_)
  ·refine AWR.skip (Ws (AWR.block (Ws (Wr ?_))))
   refine mv (Cc (.pl 0 0)) rfl rfl rfl rfl ?_
   refine Op10 (LT.nilPl rfl) rfl rfl rfl ?_
   refine Op10 (LT.fieldPl rfl fo165_2) rfl rfl rfl ?_
   refine Op11 (LT.bload1 (c := (lo 3 p.Placed.length)) rfl ag37 (by exact rfl)) rfl rfl rfl rfl ?_
   refine Op10 (LT.lenLoc rfl und37) rfl rfl rfl ?_
   refine mv (Iv 0) rfl ⟨rfl, rfl⟩ rfl rfl ?_
   refine On (AWR.block ?_)
   refine AWR.loopR (id := 2) (m_impl_moveTo_L10 bars p a b s1) (fun s122 => ([(0, (Cc (xF encTBar bars))), (1, (Cc (.pl 0 0))), (2, (Iv a)), (3, (Iv b)), (9, (Cc (.mref 21))), (10, (Cc (lo 22 s122.2.2.length))), (11, (Iv s1.1)), (34, (Cc (lo 3 p.Placed.length))), (35, (Iv (p.Placed.length : Int))), (36, (Iv s122.1))], [(0, (.row 165 [[(lo 1 p.Free.length), (lo 2 p.Tails.length), (lo 3 p.Placed.length)]])), (1, (pR 3 encInt p.Free)), (2, (pR 3 encInt p.Tails)), (3, (pR 3 encInt p.Placed)), (21, (.mp s122.2.1)), (22, (pR 3 encInt s122.2.2))])) (fun b179 => ([(0, (Cc (xF encTBar bars))), (1, (Cc (.pl 0 0))), (2, (Iv a)), (3, (Iv b)), (9, (Cc (.mref 21))), (10, (Cc (lo 22 b179.2.2.length))), (11, (Iv b179.1))], [(0, (.row 165 [[(lo 1 p.Free.length), (lo 2 p.Tails.length), (lo 3 p.Placed.length)]])), (1, (pR 3 encInt p.Free)), (2, (pR 3 encInt p.Tails)), (3, (pR 3 encInt p.Placed)), (21, (.mp b179.2.1)), (22, (pR 3 encInt b179.2.2))])) (FPost Try.prog Try.f258.results.toList [(0, (.row 165 [[(lo 1 p.Free.length), (lo 2 p.Tails.length), (lo 3 p.Placed.length)]])), (1, (pR 3 encInt p.Free)), (2, (pR 3 encInt p.Tails)), (3, (pR 3 encInt p.Placed))] [1, 2, 3] (fun (t : (Bool × TPebbles)) => [(.c (bC t.1))]) (fun (t : (Bool × TPebbles)) => [(0, (.row 165 [[(lo 1 t.2.Free.length), (lo 2 t.2.Tails.length), (lo 3 t.2.Placed.length)]])), (1, (pR 3 encInt t.2.Free)), (2, (pR 3 encInt t.2.Tails)), (3, (pR 3 encInt t.2.Placed))])) ?_ (Ent.of ⟨rfl, rfl, rfl, rfl, rfl, rfl, rfl, rfl, rfl, rfl, trivial⟩ ⟨rfl, rfl, rfl, rfl, rfl, rfl, trivial⟩) rfl (fun b179 _ => ?_) (by intro r t σ m ht hk; injection ht with ht; subst ht; exact ⟨rfl, hk⟩)
   ·intro s122
    unfold m_impl_moveTo_L10
    refine Ws (Wr ?_)
    refine Op20 (LT.lss rfl) rfl rfl rfl rfl ?_
    refine On (Ws ?_)
    refine AWR.cond rfl (fun hc180 => ?_) (fun hc180 => ?_)
    ·refine AWR.skip (Ws (AWR.block (Ws (Wr ?_))))
     refine mv (Iv s122.1) rfl rfl rfl rfl ?_
     refine Ob' fun x181 hx181 => ?_
     refine Op21 (LT.tindexLoc rfl rfl el37 hx181) rfl rfl rfl rfl rfl ?_
     refine Op11 (LT.tload1 (k := 0) rfl ag3 hx181 (by exact rfl) (by exact rfl)) rfl rfl rfl rfl ?_
     refine asg (Iv s122.1) rfl rfl rfl rfl ?_
     refine asg (Iv x181) rfl rfl rfl rfl ?_
     refine On (Ws (Ws (AWR.draw mixed ?_)))
     refine Dp10 (LT.move (v := (Cc (.pl 0 0))) rfl) rfl rfl rfl ?_
     refine Dp10 (LT.nilPl rfl) rfl rfl rfl ?_
     refine Dp10 (LT.fieldPl rfl fo165_1) rfl rfl rfl ?_
     refine Dp11 (LT.bload1 (c := (lo 2 p.Tails.length)) rfl ag37 (by exact rfl)) rfl rfl rfl rfl ?_
     refine Dp10 (LT.move (v := (Iv s122.1)) rfl) rfl rfl rfl ?_
     refine AOD.bind fun x182 hx182 => ?_
     refine Dp21 (LT.tindexLoc rfl rfl el37 hx182) rfl rfl rfl rfl rfl ?_
     refine Dp11 (LT.tload1 (k := 0) rfl ag3 hx182 (by exact rfl) (by exact rfl)) rfl rfl rfl rfl ?_
     refine Dp10 (LT.move (v := (Cc (lo 22 s122.2.2.length))) rfl) rfl rfl rfl ?_
     refine Dp10 (LT.move (v := (Iv s1.1)) rfl) rfl rfl rfl ?_
     refine AOD.bind fun x183 hx183 => ?_
     refine Dp21 (LT.tindexLoc rfl rfl el37 hx183) rfl rfl rfl rfl rfl ?_
     refine Dp11 (LT.tload1 (k := 0) rfl ag3 hx183 (by exact rfl) (by exact rfl)) rfl rfl rfl rfl ?_
     refine Dp20 (LT.neq rfl) rfl rfl rfl rfl ?_
     refine AOD.nil (by kernel_rfl) ?_
     refine AWR.cond rfl (fun hc184 => ?_) (fun hc184 => ?_)
     ·refine AWR.exit rfl ?_
      refine en [(0, (Cc (xF encTBar bars))), (1, (Cc (.pl 0 0))), (2, (Iv a)), (3, (Iv b)), (9, (Cc (.mref 21))), (10, (Cc (lo 22 s122.2.2.length))), (11, (Iv s1.1)), (34, (Cc (lo 3 p.Placed.length))), (35, (Iv (p.Placed.length : Int))), (36, (Iv s122.1))] [(0, (.row 165 [[(lo 1 p.Free.length), (lo 2 p.Tails.length), (lo 3 p.Placed.length)]])), (1, (pR 3 encInt p.Free)), (2, (pR 3 encInt p.Tails)), (3, (pR 3 encInt p.Placed)), (21, (.mp s122.2.1)), (22, (pR 3 encInt s122.2.2))] ⟨rfl, rfl, rfl, rfl, rfl, rfl, rfl, rfl, rfl, rfl, trivial⟩ ⟨rfl, rfl, rfl, rfl, rfl, rfl, trivial⟩ ?_
      refine Wr ?_
      refine Op20 (LT.add rfl) rfl ⟨rfl, rfl⟩ rfl rfl ?_
      refine mv (Iv (w64 (s122.1 + 1))) rfl rfl rfl rfl ?_
      refine On ?_
      refine AWR.nil ⟨rfl, Ent.of ⟨rfl, rfl, rfl, rfl, rfl, rfl, rfl, rfl, rfl, rfl, trivial⟩ ⟨rfl, rfl, rfl, rfl, rfl, rfl, trivial⟩⟩
     ·refine AWR.skip (Ws ?_)
      refine en [(0, (Cc (xF encTBar bars))), (1, (Cc (.pl 0 0))), (2, (Iv a)), (3, (Iv b)), (9, (Cc (.mref 21))), (10, (Cc (lo 22 s122.2.2.length))), (11, (Iv s1.1)), (12, (Iv s122.1)), (13, (Iv x181)), (34, (Cc (lo 3 p.Placed.length))), (35, (Iv (p.Placed.length : Int))), (36, (Iv s122.1))] [(0, (.row 165 [[(lo 1 p.Free.length), (lo 2 p.Tails.length), (lo 3 p.Placed.length)]])), (1, (pR 3 encInt p.Free)), (2, (pR 3 encInt p.Tails)), (3, (pR 3 encInt p.Placed)), (21, (.mp s122.2.1)), (22, (pR 3 encInt s122.2.2))] ⟨rfl, rfl, rfl, rfl, rfl, rfl, rfl, rfl, rfl, rfl, rfl, rfl, trivial⟩ ⟨rfl, rfl, rfl, rfl, rfl, rfl, trivial⟩ ?_
      refine AWR.draw mixed ?_
      refine Dp10 (LT.move (v := (Cc (xF encTBar bars))) rfl) rfl rfl rfl ?_
      refine Dp10 (LT.move (v := (Iv x181)) rfl) rfl rfl rfl ?_
      refine AOD.bind fun x185 hx185 => ?_
      refine Dp20 (LT.tindexRO (enc := encTBar) rfl el24 hx185 sz62) rfl rfl rfl rfl ?_
      refine Dp10 (LT.loadPxN rfl ag62 (infS inf62) (by exact sz62.symm)) rfl rfl rfl ?_
      refine Dp10 (LT.move (v := (Cc (lo 22 s122.2.2.length))) rfl) rfl rfl rfl ?_
      refine Dp10 (LT.move (v := (Iv s1.1)) rfl) rfl rfl rfl ?_
      refine AOD.bind fun x186 hx186 => ?_
      refine Dp21 (LT.tindexLoc rfl rfl el37 hx186) rfl rfl rfl rfl rfl ?_
      refine Dp11 (LT.tload1 (k := 0) rfl ag3 hx186 (by exact rfl) (by exact rfl)) rfl rfl rfl rfl ?_
      refine AOD.bind fun r187 hr187 => ?_
      refine AOD.pure (@LT.callF Try.prog _ _ 120 _ _ [(.agg [(iC x185.A), (iC x185.B)]), (.c (iC x186))] _ _ [] _ _ _ _ (w_impl_Bar_other x185 x186 r187 hr187) rfl cb120 (.cons (.agg (.cons (.same rfl) (.cons (.same rfl) .nil))) (.cons (.c (.same rfl)) .nil)) rfl rfl trivial) ⟨rfl, rfl, rfl, trivial⟩ trivial rfl rfl ?_
      refine Dp10 (LT.assign (v := (Iv r187)) rfl) rfl rfl rfl ?_
      refine AOD.nil (by kernel_rfl) ?_
      refine Ws (Ws (Wr ?_))
      refine mv (Cc (.mref 21)) rfl rfl rfl rfl ?_
      refine mv (Iv r187) rfl rfl rfl rfl ?_
      refine Op21 (LT.mapGetOk rfl map195) rfl rfl rfl rfl rfl ?_
      refine mv (.tup [(.c (iC (mget s122.2.1 r187))), (.c (bC (mhas s122.2.1 r187)))]) rfl rfl rfl rfl ?_
      refine Op10 (LT.extract (v := (.c (iC (mget s122.2.1 r187)))) rfl (by exact rfl)) rfl rfl rfl ?_
      refine Op10 (LT.extract (v := (.c (bC (mhas s122.2.1 r187)))) rfl (by exact rfl)) rfl rfl rfl ?_
      refine asg (Iv (mget s122.2.1 r187)) rfl rfl rfl rfl ?_
      refine asg (Bv (mhas s122.2.1 r187)) rfl rfl rfl rfl ?_
      refine On (Ws ?_)
      refine en [(0, (Cc (xF encTBar bars))), (1, (Cc (.pl 0 0))), (2, (Iv a)), (3, (Iv b)), (9, (Cc (.mref 21))), (10, (Cc (lo 22 s122.2.2.length))), (11, (Iv s1.1)), (12, (Iv s122.1)), (14, (Iv r187)), (16, (Bv (mhas s122.2.1 r187))), (34, (Cc (lo 3 p.Placed.length))), (35, (Iv (p.Placed.length : Int))), (36, (Iv s122.1))] [(0, (.row 165 [[(lo 1 p.Free.length), (lo 2 p.Tails.length), (lo 3 p.Placed.length)]])), (1, (pR 3 encInt p.Free)), (2, (pR 3 encInt p.Tails)), (3, (pR 3 encInt p.Placed)), (21, (.mp s122.2.1)), (22, (pR 3 encInt s122.2.2))] ⟨rfl, rfl, rfl, rfl, rfl, rfl, rfl, rfl, rfl, rfl, rfl, rfl, rfl, trivial⟩ ⟨rfl, rfl, rfl, rfl, rfl, rfl, trivial⟩ ?_
      refine Wr ?_
      refine mv (Bv (mhas s122.2.1 r187)) rfl rfl rfl rfl ?_
      refine On ?_
      refine AWR.cond rfl (fun hc188 => ?_) (fun hc188 => ?_)
      ·refine AWR.exit rfl (Wr ?_)
       refine Op20 (LT.add rfl) rfl ⟨rfl, rfl⟩ rfl rfl ?_
       refine mv (Iv (w64 (s122.1 + 1))) rfl rfl rfl rfl ?_
       refine On ?_
       refine AWR.nil ⟨rfl, Ent.of ⟨rfl, rfl, rfl, rfl, rfl, rfl, rfl, rfl, rfl, rfl, trivial⟩ ⟨rfl, rfl, rfl, rfl, rfl, rfl, trivial⟩⟩
      ·refine AWR.skip (Ws (Wr ?_))
       refine mv (Cc (.mref 21)) rfl rfl rfl rfl ?_
       refine mv (Iv r187) rfl rfl rfl rfl ?_
       refine mv (Iv s122.1) rfl rfl rfl rfl ?_
       refine Os31 (LT.mapPut (v := .tup []) (.inl rfl) rfl map195) rfl rfl rfl rfl rfl rfl ?_
       refine On (Ws (Ws ?_))
       refine AWR.joinK (fun j191 => ([(0, (Cc (xF encTBar bars))), (1, (Cc (.pl 0 0))), (2, (Iv a)), (3, (Iv b)), (9, (Cc (.mref 21))), (10, (Cc (lo 22 s122.2.2.length))), (11, (Iv s1.1)), (14, (Iv r187)), (34, (Cc (lo 3 p.Placed.length))), (35, (Iv (p.Placed.length : Int))), (36, (Iv s122.1)), (84, (Bv j191))], [(0, (.row 165 [[(lo 1 p.Free.length), (lo 2 p.Tails.length), (lo 3 p.Placed.length)]])), (1, (pR 3 encInt p.Free)), (2, (pR 3 encInt p.Tails)), (3, (pR 3 encInt p.Placed)), (21, (.mp (mput s122.2.1 r187 s122.1))), (22, (pR 3 encInt s122.2.2))])) ?_ (fun j191 _ => ?_)
       ·refine Wr ?_
        refine mv (Iv r187) rfl rfl rfl rfl ?_
        refine mv (Iv b) rfl rfl rfl rfl ?_
        refine Op20 (LT.eql rfl) rfl rfl rfl rfl ?_
        refine mv (Bv (r187 == b)) rfl rfl rfl rfl ?_
        refine AOR.split (fun hb192 => ?_) (fun hb192 => ?_)
        ·refine Ok rfl rfl rfl (by rw [hb192]; rfl) rfl ?_
         refine Ok rfl rfl rfl (by rw [hb192]; rfl) rfl ?_
         refine Ok rfl rfl rfl (by rw [hb192]; rfl) rfl ?_
         refine Ok rfl rfl rfl (by rw [hb192]; rfl) rfl ?_
         refine Ok rfl rfl rfl (by rw [hb192]; rfl) rfl ?_
         refine Ok rfl rfl rfl (by rw [hb192]; rfl) rfl ?_
         refine Ok rfl rfl rfl (by rw [hb192]; rfl) rfl ?_
         refine Ok rfl rfl rfl (by rw [hb192]; rfl) rfl ?_
         refine Op20 (LT.pickT (v := (Bv true)) rfl hb192) rfl ⟨rfl, rfl⟩ rfl rfl ?_
         refine On ?_
         refine AWR.nil ⟨rfl, Ent.of ⟨rfl, rfl, rfl, rfl, rfl, rfl, rfl, rfl, rfl, rfl, rfl, rfl, trivial⟩ ⟨rfl, rfl, rfl, rfl, rfl, rfl, trivial⟩⟩
        ·refine mv (Cc (.pl 0 0)) rfl rfl ⟨_, rfl, .inl ⟨_, rfl, (by rw [hb192]; rfl)⟩⟩ rfl ?_
         refine Op10 (LT.nilPl rfl) rfl ⟨_, rfl, .inl ⟨_, rfl, (by rw [hb192]; rfl)⟩⟩ rfl ?_
         refine Op10 (LT.fieldPl rfl fo165_0) rfl ⟨_, rfl, .inl ⟨_, rfl, (by rw [hb192]; rfl)⟩⟩ rfl ?_
         refine Op11 (LT.bload1 (c := (lo 1 p.Free.length)) rfl ag37 (by exact rfl)) rfl rfl ⟨_, rfl, .inl ⟨_, rfl, (by rw [hb192]; rfl)⟩⟩ rfl ?_
         refine mv (Iv r187) rfl rfl ⟨_, rfl, .inl ⟨_, rfl, (by rw [hb192]; rfl)⟩⟩ rfl ?_
         refine Ob' fun x193 hx193 => ?_
         refine Op21 (LT.tindexLoc rfl rfl el37 hx193) rfl rfl rfl ⟨_, rfl, .inl ⟨_, rfl, (by rw [hb192]; rfl)⟩⟩ rfl ?_
         refine Op11 (LT.tload1 (k := 0) rfl ag3 hx193 (by exact rfl) (by exact rfl)) rfl rfl ⟨_, rfl, .inl ⟨_, rfl, (by rw [hb192]; rfl)⟩⟩ rfl ?_
         refine Op20 (LT.eql rfl) rfl ⟨rfl, rfl⟩ ⟨_, rfl, .inl ⟨_, rfl, (by rw [hb192]; rfl)⟩⟩ rfl ?_
         refine Op20 (LT.pickF (v := (Bv (x193 == 0))) rfl hb192) rfl rfl rfl rfl ?_
         refine On ?_
         refine AWR.nil ⟨rfl, Ent.of ⟨rfl, rfl, rfl, rfl, rfl, rfl, rfl, rfl, rfl, rfl, rfl, rfl, trivial⟩ ⟨rfl, rfl, rfl, rfl, rfl, rfl, trivial⟩⟩
       ·refine AWR.cond rfl (fun hc194 => ?_) (fun hc194 => ?_)
        ·refine Ws (Wr ?_)
         refine mv (Cc (lo 22 s122.2.2.length)) rfl rfl rfl rfl ?_
         refine mv (Iv r187) rfl rfl rfl rfl ?_
         refine Os10 (LT.tbuildSlice (n := 24) (enc := encInt) [(0, .tmp 86, (.c (iC r187)))] ([r187] : List Int) rfl rfl und37 ti3 rfl rfl rfl rfl (by decide) (fun _ => rfl) rfl) rfl rfl rfl ?_
         refine Ob' fun u195 hu195 => ?_
         refine Os22 (LT.tappP (enc := encInt) rfl rfl rfl und37 ti3 rfl (by decide) (by decide) (fun _ => rfl) (lim_le hu195)) rfl rfl rfl rfl rfl rfl ?_
         refine asg (Cc (lo 22 ((s122.2.2 ++ ([r187] : List Int)).length))) rfl rfl rfl rfl ?_
         refine On (AWR.exit rfl (Wr ?_))
         refine Op20 (LT.add rfl) rfl ⟨rfl, rfl⟩ rfl rfl ?_
         refine mv (Iv (w64 (s122.1 + 1))) rfl rfl rfl rfl ?_
         refine On ?_
         refine AWR.nil ⟨rfl, Ent.of ⟨rfl, rfl, rfl, rfl, rfl, rfl, rfl, rfl, rfl, rfl, trivial⟩ ⟨rfl, rfl, rfl, rfl, rfl, rfl, trivial⟩⟩
        ·refine AWR.skip (Ws (Wr ?_))
         refine mv (Cc (.pl 0 0)) rfl rfl rfl rfl ?_
         refine Op10 (LT.nilPl rfl) rfl rfl rfl ?_
         refine Op10 (LT.fieldPl rfl fo165_0) rfl rfl rfl ?_
         refine Op11 (LT.bload1 (c := (lo 1 p.Free.length)) rfl ag37 (by exact rfl)) rfl rfl rfl rfl ?_
         refine mv (Iv r187) rfl rfl rfl rfl ?_
         refine Ob' fun x196 hx196 => ?_
         refine Op21 (LT.tindexLoc rfl rfl el37 hx196) rfl rfl rfl rfl rfl ?_
         refine Op11 (LT.tload1 (k := 0) rfl ag3 hx196 (by exact rfl) (by exact rfl)) rfl rfl rfl rfl ?_
         refine Op20 (LT.sub rfl) rfl ⟨rfl, rfl⟩ rfl rfl ?_
         refine Ob' fun x197 hx197 => ?_
         refine Op21 (LT.tindexLoc rfl rfl el37 hx197) rfl rfl rfl rfl rfl ?_
         refine Os21 (LT.tstore (k := 0) (v := (.c (iC (w64 (x196 - 1))))) (b' := (w64 (x196 - 1))) rfl rfl (infS inf3) sz3 (by exact rfl) hx197 (by exact rfl) (by exact Nat.le_of_ble_eq_true rfl) (by exact rfl)) rfl rfl rfl rfl rfl ?_
         refine On (Ws ?_)
         refine en [(1, (Cc (.pl 0 0))), (2, (Iv a)), (9, (Cc (.mref 21))), (14, (Iv r187))] [(0, (.row 165 [[(lo 1 p.Free.length), (lo 2 p.Tails.length), (lo 3 p.Placed.length)]])), (1, (pR 3 encInt (p.Free.set r187.toNat (w64 (x196 - 1))))), (2, (pR 3 encInt p.Tails)), (3, (pR 3 encInt p.Placed)), (21, (.mp (mput s122.2.1 r187 s122.1)))] ⟨rfl, rfl, rfl, rfl, trivial⟩ ⟨rfl, rfl, rfl, rfl, rfl, trivial⟩ ?_
         refine Wr ?_
         refine mv (Cc (.pl 0 0)) rfl rfl rfl rfl ?_
         refine Op10 (LT.nilPl rfl) rfl rfl rfl ?_
         refine Op10 (LT.fieldPl rfl fo165_0) rfl rfl rfl ?_
         refine Op11 (LT.bload1 (c := (lo 1 p.Free.length)) rfl ag37 (by exact rfl)) rfl rfl rfl rfl ?_
         refine mv (Iv a) rfl rfl rfl rfl ?_
         refine Ob' fun x198 hx198 => ?_
         refine Op21 (LT.tindexLoc (show p.Free.length = (p.Free.set r187.toNat (w64 (x196 - 1))).length by simp only [List.length_set]) rfl el37 hx198) rfl rfl rfl rfl rfl ?_
         refine Op11 (LT.tload1 (k := 0) rfl ag3 hx198 (by exact rfl) (by exact rfl)) rfl rfl rfl rfl ?_
         refine Op20 (LT.add rfl) rfl ⟨rfl, rfl⟩ rfl rfl ?_
         refine Ob' fun x199 hx199 => ?_
         refine Op21 (LT.tindexLoc (show p.Free.length = (p.Free.set r187.toNat (w64 (x196 - 1))).length by simp only [List.length_set]) rfl el37 hx199) rfl rfl rfl rfl rfl ?_
         refine Os21 (LT.tstore (k := 0) (v := (.c (iC (w64 (x198 + 1))))) (b' := (w64 (x198 + 1))) rfl rfl (infS inf3) sz3 (by exact rfl) hx199 (by exact rfl) (by exact Nat.le_of_ble_eq_true rfl) (by exact rfl)) rfl rfl rfl rfl rfl ?_
         refine On (Ws (Ws ?_))
         refine en [(1, (Cc (.pl 0 0))), (2, (Iv a)), (9, (Cc (.mref 21))), (14, (Iv r187))] [(0, (.row 165 [[(lo 1 p.Free.length), (lo 2 p.Tails.length), (lo 3 p.Placed.length)]])), (1, (pR 3 encInt ((p.Free.set r187.toNat (w64 (x196 - 1))).set a.toNat (w64 (x198 + 1))))), (2, (pR 3 encInt p.Tails)), (3, (pR 3 encInt p.Placed)), (21, (.mp (mput s122.2.1 r187 s122.1)))] ⟨rfl, rfl, rfl, rfl, trivial⟩ ⟨rfl, rfl, rfl, rfl, rfl, trivial⟩ ?_
         refine Wr ?_
         refine mv (Iv r187) rfl rfl rfl rfl ?_
         refine asg (Iv r187) rfl rfl rfl rfl ?_
         refine On (AWR.block ?_)
         refine AWR.loop1 (id := 4) (m_impl_moveTo_L11 p a s122 r187 x196 x198) (fun s200 => ([(1, (Cc (.pl 0 0))), (2, (Iv a)), (9, (Cc (.mref 21))), (17, (Iv s200.1))], [(0, (.row 165 [[(lo 1 (((p.Free.set r187.toNat (w64 (x196 - 1))).set a.toNat (w64 (x198 + 1))).length)), (lo 2 s200.2.length), (lo 3 p.Placed.length)]])), (1, (pR 3 encInt ((p.Free.set r187.toNat (w64 (x196 - 1))).set a.toNat (w64 (x198 + 1))))), (2, (pR 3 encInt s200.2)), (3, (pR 3 encInt p.Placed)), (21, (.mp (mput s122.2.1 r187 s122.1)))])) (fun b207 => ([], [(0, (.row 165 [[(lo 1 b207.1.length), (lo 2 b207.2.length), (lo 3 p.Placed.length)]])), (1, (pR 3 encInt b207.1)), (2, (pR 3 encInt b207.2)), (3, (pR 3 encInt p.Placed))])) ?_ (Ent.of ⟨rfl, rfl, rfl, rfl, trivial⟩ ⟨(congrArg (fun l1 => (some (Ob.row 165 [[(lo 1 l1), (lo 2 p.Tails.length), (lo 3 p.Placed.length)]]) : Option Ob)) (show p.Free.length = ((p.Free.set r187.toNat (w64 (x196 - 1))).set a.toNat (w64 (x198 + 1))).length by simp only [List.length_set])), rfl, rfl, rfl, rfl, trivial⟩) rfl (fun b207 _ => ?_)
         ·intro s200
          unfold m_impl_moveTo_L11
          refine Ws (Ws (Wr ?_))
          refine mv (Iv s200.1) rfl rfl rfl rfl ?_
          refine mv (Iv a) rfl rfl rfl rfl ?_
          refine Op20 (LT.neq rfl) rfl rfl rfl rfl ?_
          refine On ?_
          refine AWR.cond rfl (fun hc208 => ?_) (fun hc208 => ?_)
          ·refine AWR.skip (AWR.block (Ws (Wr ?_)))
           refine mv (Cc (.mref 21)) rfl rfl rfl rfl ?_
           refine mv (Iv s200.1) rfl rfl rfl rfl ?_
           refine Op21 (LT.mapGet rfl map195) rfl rfl rfl rfl rfl ?_
           refine asg (Iv (mget (mput s122.2.1 r187 s122.1) s200.1)) rfl rfl rfl rfl ?_
           refine On (Ws (Wr ?_))
           refine mv (Cc (.pl 0 0)) rfl rfl rfl rfl ?_
           refine Op10 (LT.nilPl rfl) rfl rfl rfl ?_
           refine Op10 (LT.fieldPl rfl fo165_1) rfl rfl rfl ?_
           refine Op11 (LT.bload1 (c := (lo 2 s200.2.length)) rfl ag37 (by exact rfl)) rfl rfl rfl rfl ?_
           refine mv (Iv (mget (mput s122.2.1 r187 s122.1) s200.1)) rfl rfl rfl rfl ?_
           refine Ob' fun x209 hx209 => ?_
           refine Op21 (LT.tindexLoc rfl rfl el37 hx209) rfl rfl rfl rfl rfl ?_
           refine Op11 (LT.tload1 (k := 0) rfl ag3 hx209 (by exact rfl) (by exact rfl)) rfl rfl rfl rfl ?_
           refine asg (Iv x209) rfl rfl rfl rfl ?_
           refine On (Ws ?_)
           refine en [(1, (Cc (.pl 0 0))), (2, (Iv a)), (9, (Cc (.mref 21))), (17, (Iv s200.1)), (18, (Iv (mget (mput s122.2.1 r187 s122.1) s200.1))), (19, (Iv x209))] [(0, (.row 165 [[(lo 1 (((p.Free.set r187.toNat (w64 (x196 - 1))).set a.toNat (w64 (x198 + 1))).length)), (lo 2 s200.2.length), (lo 3 p.Placed.length)]])), (1, (pR 3 encInt ((p.Free.set r187.toNat (w64 (x196 - 1))).set a.toNat (w64 (x198 + 1))))), (2, (pR 3 encInt s200.2)), (3, (pR 3 encInt p.Placed)), (21, (.mp (mput s122.2.1 r187 s122.1)))] ⟨rfl, rfl, rfl, rfl, rfl, rfl, trivial⟩ ⟨rfl, rfl, rfl, rfl, rfl, trivial⟩ ?_
           refine Wr ?_
           refine mv (Cc (.pl 0 0)) rfl rfl rfl rfl ?_
           refine Op10 (LT.nilPl rfl) rfl rfl rfl ?_
           refine Op10 (LT.fieldPl rfl fo165_1) rfl rfl rfl ?_
           refine Op11 (LT.bload1 (c := (lo 2 s200.2.length)) rfl ag37 (by exact rfl)) rfl rfl rfl rfl ?_
           refine mv (Iv (mget (mput s122.2.1 r187 s122.1) s200.1)) rfl rfl rfl rfl ?_
           refine mv (Iv s200.1) rfl rfl rfl rfl ?_
           refine Ob' fun x210 hx210 => ?_
           refine Op21 (LT.tindexLoc rfl rfl el37 hx210) rfl rfl rfl rfl rfl ?_
           refine Os21 (LT.tstore (k := 0) (v := (.c (iC s200.1))) (b' := s200.1) rfl rfl (infS inf3) sz3 (by exact rfl) hx210 (by exact rfl) (by exact Nat.le_of_ble_eq_true rfl) (by exact rfl)) rfl rfl rfl rfl rfl ?_
           refine On (Wr ?_)
           refine mv (Iv x209) rfl rfl rfl rfl ?_
           refine asg (Iv x209) rfl rfl rfl rfl ?_
           refine On (AWR.blk ?_)
           refine AWR.nil ⟨rfl, Ent.of ⟨rfl, rfl, rfl, rfl, trivial⟩ ⟨(congrArg (fun l1 => (some (Ob.row 165 [[(lo 1 (((p.Free.set r187.toNat (w64 (x196 - 1))).set a.toNat (w64 (x198 + 1))).length)), (lo 2 l1), (lo 3 p.Placed.length)]]) : Option Ob)) (show s200.2.length = (s200.2.set (mget (mput s122.2.1 r187 s122.1) s200.1).toNat s200.1).length by simp only [List.length_set])), rfl, rfl, rfl, rfl, trivial⟩⟩
          ·refine AWR.exit_end rfl ⟨rfl, Ent.of trivial ⟨rfl, rfl, rfl, rfl, trivial⟩⟩
         ·refine Ws (Wr ?_)
          refine asg (Bv true) rfl ⟨rfl, rfl⟩ rfl rfl ?_
          refine On ?_
          refine AWR.ret ⟨rfl, FPost.mk (.inr rfl) ⟨rfl, trivial⟩ ⟨rfl, rfl, rfl, rfl, trivial⟩ rfl ⟨PermP.sc, trivial⟩ ⟨PermO.row1 ⟨trivial, trivial, trivial, trivial⟩, PermO.prow' perm_encInt, PermO.prow' perm_encInt, PermO.prow' perm_encInt, trivial⟩⟩
    ·refine AWR.exit_end rfl ⟨rfl, Ent.of ⟨rfl, rfl, rfl, rfl, rfl, rfl, rfl, trivial⟩ ⟨rfl, rfl, rfl, rfl, rfl, rfl, trivial⟩⟩
   ·refine AWR.blk (Wr ?_)
    refine mv (Iv b179.1) rfl rfl rfl rfl ?_
    refine Op20 (LT.add rfl) rfl ⟨rfl, rfl⟩ rfl rfl ?_
    refine asg (Iv (w64 (b179.1 + 1))) rfl rfl rfl rfl ?_
    refine On ?_
    refine AWR.nil ⟨rfl, Ent.of ⟨rfl, rfl, rfl, rfl, rfl, rfl, rfl, trivial⟩ ⟨rfl, rfl, rfl, rfl, rfl, rfl, trivial⟩⟩
  ·refine AWR.exit_end rfl ⟨rfl, Ent.of trivial ⟨rfl, rfl, rfl, rfl, trivial⟩⟩
 ·refine Ws (Wr ?_)
  refine asg (Bv false) rfl ⟨rfl, rfl⟩ rfl rfl ?_
  refine On ?_
  refine AWR.ret (FPost.mk (.inr rfl) ⟨rfl, trivial⟩ ⟨rfl, rfl, rfl, rfl, trivial⟩ rfl ⟨PermP.sc, trivial⟩ ⟨PermO.row1 ⟨trivial, trivial, trivial, trivial⟩, PermO.prow' perm_encInt, PermO.prow' perm_encInt, PermO.prow' perm_encInt, trivial⟩)
end Go.Proofs.Ytghofbijdnenoaa
end
