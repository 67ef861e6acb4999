/- Parts of a proof that a law of the program holds: what the program computes, and why that is right. -/
import Derived.Test.YtghofbijdnenoaaRows
import Derived.ProofKit
import Derived.OpenShut
import Derived.JoinedCond
import Derived.Carry
import Derived.Deep.Slices
import Derived.ChangeSame
import Derived.Test.YtghofbijdnenoaaZEGenericPlaces5
section
set_option linter.unusedVariables false
set_option linter.unusedSimpArgs false
set_option linter.unnecessarySimpa false
set_option maxRecDepth 100000
set_option maxHeartbeats 8000000
open Go Go.Fw
namespace Go.Proofs.Ytghofbijdnenoaa
theorem w_impl_gather (bars : (List TBar)) (p : TPebbles) (a : Int) (b : Int) (want : Int) : ∀ t, m_impl_gather bars p a b want = some t → Fw.Fn Try.prog 255 [(.c (xF encTBar bars)), (.c (.pl 0 0)), (.c (iC a)), (.c (iC b)), (.c (iC want))] [(0, (.row 165 [[(lo 1 p.Free.length), (lo 2 p.Tails.length), (lo 3 p.Placed.length)]])), (1, (pR 3 encInt p.Free)), (2, (pR 3 encInt p.Tails)), (3, (pR 3 encInt p.Placed))] (.s (.c (bC t.1))) [(0, (.row 165 [[(lo 1 t.2.Free.length), (lo 2 t.2.Tails.length), (lo 3 t.2.Placed.length)]])), (1, (pR 3 encInt t.2.Free)), (2, (pR 3 encInt t.2.Tails)), (3, (pR 3 encInt t.2.Placed))] [0, 1, 2, 3] [1, 2, 3] := by
 refine Fw.Fn.of (P := Try.prog) (X := [1, 2, 3]) (pn := [0]) (rs := (fun (t : (Bool × TPebbles)) => [(.c (bC t.1))])) (dfs := (fun (t : (Bool × TPebbles)) => [(0, (.row 165 [[(lo 1 t.2.Free.length), (lo 2 t.2.Tails.length), (lo 3 t.2.Placed.length)]])), (1, (pR 3 encInt t.2.Free)), (2, (pR 3 encInt t.2.Tails)), (3, (pR 3 encInt t.2.Placed))])) Try.func255 rfl Try.ntmps255 (Nat.le_of_ble_eq_true rfl) rfl ?_
 intro w0 U0 R0 g0
 unfold m_impl_gather
 refine Ws (Wr ?_)
 refine asg (Bv false) rfl ⟨rfl, rfl⟩ rfl rfl ?_
 refine On (Ws (AWR.block ?_))
 refine AWR.loopR (id := 0) (m_impl_gather_L1 bars a b want) (fun s1 => ([(0, (Cc (xF encTBar bars))), (1, (Cc (.pl 0 0))), (2, (Iv a)), (3, (Iv b)), (4, (Iv want))], [(0, (.row 165 [[(lo 1 s1.1.length), (lo 2 s1.2.1.length), (lo 3 s1.2.2.length)]])), (1, (pR 3 encInt s1.1)), (2, (pR 3 encInt s1.2.1)), (3, (pR 3 encInt s1.2.2))])) (fun b24 => ([], [(0, (.row 165 [[(lo 1 b24.1.length), (lo 2 b24.2.1.length), (lo 3 b24.2.2.length)]])), (1, (pR 3 encInt b24.1)), (2, (pR 3 encInt b24.2.1)), (3, (pR 3 encInt b24.2.2))])) (FPost Try.prog Try.f255.results.toList [(0, (.row 165 [[(lo 1 p.Free.length), (lo 2 p.Tails.length), (lo 3 p.Placed.length)]])), (1, (pR 3 encInt p.Free)), (2, (pR 3 encInt p.Tails)), (3, (pR 3 encInt p.Placed))] [1, 2, 3] (fun (t : (Bool × TPebbles)) => [(.c (bC t.1))]) (fun (t : (Bool × TPebbles)) => [(0, (.row 165 [[(lo 1 t.2.Free.length), (lo 2 t.2.Tails.length), (lo 3 t.2.Placed.length)]])), (1, (pR 3 encInt t.2.Free)), (2, (pR 3 encInt t.2.Tails)), (3, (pR 3 encInt t.2.Placed))])) ?_ (Ent.of ⟨rfl, rfl, rfl, rfl, rfl, trivial⟩ ⟨rfl, rfl, rfl, rfl, trivial⟩) rfl (fun b24 _ => ?_) (by intro r t σ m ht hk; injection ht with ht; subst ht; exact hk)
 ·intro s1
  unfold m_impl_gather_L1
  refine Ws (Ws (AWR.draw mixed ?_))
  refine Dp10 (LT.move (v := (Cc (.pl 0 0))) rfl) rfl rfl rfl ?_
  refine Dp10 (LT.nilPl rfl) rfl rfl rfl ?_
  refine Dp10 (LT.fieldPl rfl fo165_0) rfl rfl rfl ?_
  refine Dp11 (LT.bload1 (c := (lo 1 s1.1.length)) rfl ag37 (by exact rfl)) rfl rfl rfl rfl ?_
  refine Dp10 (LT.move (v := (Iv a)) rfl) rfl rfl rfl ?_
  refine AOD.bind fun x25 hx25 => ?_
  refine Dp21 (LT.tindexLoc rfl rfl el37 hx25) rfl rfl rfl rfl rfl ?_
  refine Dp11 (LT.tload1 (k := 0) rfl ag3 hx25 (by exact rfl) (by exact rfl)) rfl rfl rfl rfl ?_
  refine Dp10 (LT.move (v := (Cc (.pl 0 0))) rfl) rfl rfl rfl ?_
  refine Dp10 (LT.nilPl rfl) rfl rfl rfl ?_
  refine Dp10 (LT.fieldPl rfl fo165_0) rfl rfl rfl ?_
  refine Dp11 (LT.bload1 (c := (lo 1 s1.1.length)) rfl ag37 (by exact rfl)) rfl rfl rfl rfl ?_
  refine Dp10 (LT.move (v := (Iv b)) rfl) rfl rfl rfl ?_
  refine AOD.bind fun x26 hx26 => ?_
  refine Dp21 (LT.tindexLoc rfl rfl el37 hx26) rfl rfl rfl rfl rfl ?_
  refine Dp11 (LT.tload1 (k := 0) rfl ag3 hx26 (by exact rfl) (by exact rfl)) rfl rfl rfl rfl ?_
  refine Dp20 (LT.add rfl) rfl rfl rfl rfl ?_
  refine Dp10 (LT.move (v := (Iv want)) rfl) rfl rfl rfl ?_
  refine Dp20 (LT.lss rfl) rfl rfl rfl rfl ?_
  refine AOD.nil (by kernel_rfl) ?_
  refine AWR.cond rfl (fun hc27 => ?_) (fun hc27 => ?_)
  ·refine AWR.skip (AWR.block (Ws ?_))
   refine AWR.joinK (fun j31 => ([(0, (Cc (xF encTBar bars))), (1, (Cc (.pl 0 0))), (2, (Iv a)), (3, (Iv b)), (4, (Iv want)), (41, (Bv j31.1))], [(0, (.row 165 [[(lo 1 j31.2.1.length), (lo 2 j31.2.2.1.length), (lo 3 j31.2.2.2.length)]])), (1, (pR 3 encInt j31.2.1)), (2, (pR 3 encInt j31.2.2.1)), (3, (pR 3 encInt j31.2.2.2))])) ?_ (fun j31 _ => ?_)
   ·refine en [(0, (Cc (xF encTBar bars))), (1, (Cc (.pl 0 0))), (2, (Iv a)), (3, (Iv b)), (4, (Iv want))] [(0, (.row 165 [[(lo 1 s1.1.length), (lo 2 s1.2.1.length), (lo 3 s1.2.2.length)]])), (1, (pR 3 encInt s1.1)), (2, (pR 3 encInt s1.2.1)), (3, (pR 3 encInt s1.2.2))] ⟨rfl, rfl, rfl, rfl, rfl, trivial⟩ ⟨rfl, rfl, rfl, rfl, trivial⟩ ?_
    refine Wr ?_
    refine mv (Cc (xF encTBar bars)) rfl rfl rfl rfl ?_
    refine mv (Cc (.pl 0 0)) rfl rfl rfl rfl ?_
    refine mv (Iv a) rfl rfl rfl rfl ?_
    refine mv (Iv b) rfl rfl rfl rfl ?_
    refine Ob' fun r32 hr32 => ?_
    refine AOR.step (@LT.callF Try.prog _ _ 258 _ _ [(.c (xF encTBar bars)), (.c (.pl 0 0)), (.c (iC a)), (.c (iC b))] _ _ [] _ _ _ _ ((show Fw.Fn Try.prog 258 [(.c (xF encTBar bars)), (.c (.pl 0 0)), (.c (iC a)), (.c (iC b))] [(0, (.row 165 [[(lo 1 s1.1.length), (lo 2 s1.2.1.length), (lo 3 s1.2.2.length)]])), (1, (pR 3 encInt s1.1)), (2, (pR 3 encInt s1.2.1)), (3, (pR 3 encInt s1.2.2))] (Bv r32.1) [(0, (.row 165 [[(lo 1 r32.2.Free.length), (lo 2 r32.2.Tails.length), (lo 3 r32.2.Placed.length)]])), (1, (pR 3 encInt r32.2.Free)), (2, (pR 3 encInt r32.2.Tails)), (3, (pR 3 encInt r32.2.Placed))] [0, 1, 2, 3] [1, 2, 3] from Fw.Fn.ren [(0, 0), (1, 1), (2, 2), (3, 3)] (w_impl_moveTo bars (TPebbles.mk s1.1 s1.2.1 s1.2.2) a b r32 hr32) rfl)) rfl cb258 (.cons (.c (.same rfl)) (.cons (.c (.same rfl)) (.cons (.c (.same rfl)) (.cons (.c (.same rfl)) .nil)))) rfl rfl ⟨rfl, rfl, rfl, rfl, trivial⟩) ⟨rfl, rfl, rfl, rfl, rfl, trivial⟩ ⟨rfl, rfl, rfl, rfl, trivial⟩ rfl rfl ?_
    refine Op10 (LT.not rfl) rfl rfl rfl ?_
    refine mv (Bv (!r32.1)) rfl rfl rfl rfl ?_
    refine AOR.split (fun hb33 => ?_) (fun hb33 => ?_)
    ·refine mv (Cc (xF encTBar bars)) rfl rfl ⟨_, rfl, .inl ⟨_, rfl, (by rw [hb33]; rfl)⟩⟩ rfl ?_
     refine mv (Cc (.pl 0 0)) rfl rfl ⟨_, rfl, .inl ⟨_, rfl, (by rw [hb33]; rfl)⟩⟩ rfl ?_
     refine mv (Iv b) rfl rfl ⟨_, rfl, .inl ⟨_, rfl, (by rw [hb33]; rfl)⟩⟩ rfl ?_
     refine mv (Iv a) rfl rfl ⟨_, rfl, .inl ⟨_, rfl, (by rw [hb33]; rfl)⟩⟩ rfl ?_
     refine Ob' fun r34 hr34 => ?_
     refine AOR.step (@LT.callF Try.prog _ _ 258 _ _ [(.c (xF encTBar bars)), (.c (.pl 0 0)), (.c (iC b)), (.c (iC a))] _ _ [] _ _ _ _ ((show Fw.Fn Try.prog 258 [(.c (xF encTBar bars)), (.c (.pl 0 0)), (.c (iC b)), (.c (iC a))] [(0, (.row 165 [[(lo 1 r32.2.Free.length), (lo 2 r32.2.Tails.length), (lo 3 r32.2.Placed.length)]])), (1, (pR 3 encInt r32.2.Free)), (2, (pR 3 encInt r32.2.Tails)), (3, (pR 3 encInt r32.2.Placed))] (Bv r34.1) [(0, (.row 165 [[(lo 1 r34.2.Free.length), (lo 2 r34.2.Tails.length), (lo 3 r34.2.Placed.length)]])), (1, (pR 3 encInt r34.2.Free)), (2, (pR 3 encInt r34.2.Tails)), (3, (pR 3 encInt r34.2.Placed))] [0, 1, 2, 3] [1, 2, 3] from Fw.Fn.ren [(0, 0), (1, 1), (2, 2), (3, 3)] (w_impl_moveTo bars r32.2 b a r34 hr34) rfl)) rfl cb258 (.cons (.c (.same rfl)) (.cons (.c (.same rfl)) (.cons (.c (.same rfl)) (.cons (.c (.same rfl)) .nil)))) rfl rfl ⟨rfl, rfl, rfl, rfl, trivial⟩) ⟨rfl, rfl, rfl, rfl, rfl, trivial⟩ ⟨rfl, rfl, rfl, rfl, trivial⟩ ⟨_, rfl, .inl ⟨_, rfl, (by rw [hb33]; rfl)⟩⟩ rfl ?_
     refine Op10 (LT.not rfl) rfl ⟨_, rfl, .inl ⟨_, rfl, (by rw [hb33]; rfl)⟩⟩ rfl ?_
     refine Op20 (LT.pickT (v := (Bv (!r34.1))) rfl hb33) rfl rfl rfl rfl ?_
     refine On ?_
     refine AWR.nil ⟨rfl, Ent.of ⟨rfl, rfl, rfl, rfl, rfl, rfl, trivial⟩ ⟨rfl, rfl, rfl, rfl, trivial⟩⟩
    ·refine Ok rfl rfl rfl (by rw [hb33]; rfl) rfl ?_
     refine Ok rfl rfl rfl (by rw [hb33]; rfl) rfl ?_
     refine Ok rfl rfl rfl (by rw [hb33]; rfl) rfl ?_
     refine Ok rfl rfl rfl (by rw [hb33]; rfl) rfl ?_
     refine Ok rfl rfl rfl (by rw [hb33]; rfl) rfl ?_
     refine Ok rfl rfl rfl (by rw [hb33]; rfl) rfl ?_
     refine Op20 (LT.pickF (v := (Bv false)) rfl hb33) rfl ⟨rfl, rfl⟩ rfl rfl ?_
     refine On ?_
     refine AWR.nil ⟨rfl, Ent.of ⟨rfl, rfl, rfl, rfl, rfl, rfl, trivial⟩ ⟨rfl, rfl, rfl, rfl, trivial⟩⟩
   ·refine AWR.cond rfl (fun hc35 => ?_) (fun hc35 => ?_)
    ·refine Ws (Wr ?_)
     refine asg (Bv false) rfl ⟨rfl, rfl⟩ rfl rfl ?_
     refine On ?_
     refine AWR.ret ⟨rfl, FPost.mk (.inr rfl) ⟨rfl, trivial⟩ ⟨rfl, rfl, rfl, rfl, trivial⟩ rfl ⟨PermP.sc, trivial⟩ ⟨PermO.row1 ⟨trivial, trivial, trivial, trivial⟩, PermO.prow' perm_encInt, PermO.prow' perm_encInt, PermO.prow' perm_encInt, trivial⟩⟩
    ·refine AWR.skip (AWR.blk ?_)
     refine AWR.nil ⟨rfl, Ent.of ⟨rfl, rfl, rfl, rfl, rfl, trivial⟩ ⟨rfl, rfl, rfl, rfl, trivial⟩⟩
  ·refine AWR.exit_end rfl ⟨rfl, Ent.of trivial ⟨rfl, rfl, rfl, rfl, trivial⟩⟩
 ·refine Ws (Wr ?_)
  refine asg (Bv true) rfl ⟨rfl, rfl⟩ rfl rfl ?_
  refine On ?_
  refine AWR.ret (FPost.mk (.inr rfl) ⟨rfl, trivial⟩ ⟨rfl, rfl, rfl, rfl, trivial⟩ rfl ⟨PermP.sc, trivial⟩ ⟨PermO.row1 ⟨trivial, trivial, trivial, trivial⟩, PermO.prow' perm_encInt, PermO.prow' perm_encInt, PermO.prow' perm_encInt, trivial⟩)
theorem w_impl_place (bars : (List TBar)) (l : Int) (p : TPebbles) (e : Int) : ∀ t, m_impl_place bars l p e = some t → Fw.Fn Try.prog 251 [(.c (xF encTBar bars)), (.c (iC l)), (.c (.pl 0 0)), (.c (iC e))] [(0, (.row 165 [[(lo 1 p.Free.length), (lo 2 p.Tails.length), (lo 3 p.Placed.length)]])), (1, (pR 3 encInt p.Free)), (2, (pR 3 encInt p.Tails)), (3, (pR 3 encInt p.Placed))] (.s (.c (bC t.1))) [(0, (.row 165 [[(lo 1 t.2.Free.length), (lo 2 t.2.Tails.length), (lo 3 t.2.Placed.length)]])), (1, (pR 3 encInt t.2.Free)), (2, (pR 3 encInt t.2.Tails)), (3, (pR 3 encInt t.2.Placed))] [0, 1, 2, 3] [1, 2, 3] := by
 refine Fw.Fn.of (P := Try.prog) (X := [1, 2, 3]) (pn := [0]) (rs := (fun (t : (Bool × TPebbles)) => [(.c (bC t.1))])) (dfs := (fun (t : (Bool × TPebbles)) => [(0, (.row 165 [[(lo 1 t.2.Free.length), (lo 2 t.2.Tails.length), (lo 3 t.2.Placed.length)]])), (1, (pR 3 encInt t.2.Free)), (2, (pR 3 encInt t.2.Tails)), (3, (pR 3 encInt t.2.Placed))])) Try.func251 rfl Try.ntmps251 (Nat.le_of_ble_eq_true rfl) rfl ?_
 intro w0 U0 R0 g0
 unfold m_impl_place
 refine Ws (Wr ?_)
 refine asg (Bv false) rfl ⟨rfl, rfl⟩ rfl rfl ?_
 refine On (Ws (Wr ?_))
 refine mv (Cc (xF encTBar bars)) rfl rfl rfl rfl ?_
 refine mv (Iv e) rfl rfl rfl rfl ?_
 refine Ob' fun x1 hx1 => ?_
 refine Op20 (LT.tindexRO (enc := encTBar) rfl el24 hx1 sz62) rfl rfl rfl rfl ?_
 refine Op10 (LT.loadPxN rfl ag62 (infS inf62) (by exact sz62.symm)) rfl rfl rfl ?_
 refine Os00 (LT.alloc (n := 21) (cells := [(iC 0), (iC 0)]) rfl ti62 rfl rfl rfl) rfl rfl ?_
 refine Os21 (LT.bstore (v := (.agg [(iC x1.A), (iC x1.B)])) (out := [(iC x1.A), (iC x1.B)]) rfl rfl (infS inf62) sz62 (by exact rfl) (by exact Nat.le_of_ble_eq_true rfl) (by exact rfl)) rfl rfl rfl rfl rfl ?_
 refine On (Ws (Ws ?_))
 refine en [(0, (Cc (xF encTBar bars))), (1, (Iv l)), (2, (Cc (.pl 0 0))), (3, (Iv e)), (9, (Cc (.pl 21 0)))] [(0, (.row 165 [[(lo 1 p.Free.length), (lo 2 p.Tails.length), (lo 3 p.Placed.length)]])), (1, (pR 3 encInt p.Free)), (2, (pR 3 encInt p.Tails)), (3, (pR 3 encInt p.Placed)), (21, (.row 62 [[(iC x1.A), (iC x1.B)]]))] ⟨rfl, rfl, rfl, rfl, rfl, trivial⟩ ⟨rfl, rfl, rfl, rfl, rfl, trivial⟩ ?_
 refine Wr ?_
 refine mv (Cc (xF encTBar bars)) rfl rfl rfl rfl ?_
 refine mv (Cc (.pl 0 0)) rfl rfl rfl rfl ?_
 refine Op10 (LT.fieldPl rfl fo62_0) rfl rfl rfl ?_
 refine Op11 (LT.bload1 (c := (iC x1.A)) rfl ag3 (by exact rfl)) rfl rfl rfl rfl ?_
 refine Op10 (LT.fieldPl rfl fo62_1) rfl rfl rfl ?_
 refine Op11 (LT.bload1 (c := (iC x1.B)) rfl ag3 (by exact rfl)) rfl rfl rfl rfl ?_
 refine mv (Iv l) rfl rfl rfl rfl ?_
 refine Op20 (LT.add rfl) rfl ⟨rfl, rfl⟩ rfl rfl ?_
 refine Ob' fun r2 hr2 => ?_
 refine AOR.step (@LT.callF Try.prog _ _ 255 _ _ [(.c (xF encTBar bars)), (.c (.pl 0 0)), (.c (iC x1.A)), (.c (iC x1.B)), (.c (iC (w64 (l + 1))))] _ _ [] _ _ _ _ ((show Fw.Fn Try.prog 255 [(.c (xF encTBar bars)), (.c (.pl 0 0)), (.c (iC x1.A)), (.c (iC x1.B)), (.c (iC (w64 (l + 1))))] [(0, (.row 165 [[(lo 1 p.Free.length), (lo 2 p.Tails.length), (lo 3 p.Placed.length)]])), (1, (pR 3 encInt p.Free)), (2, (pR 3 encInt p.Tails)), (3, (pR 3 encInt p.Placed))] (Bv r2.1) [(0, (.row 165 [[(lo 1 r2.2.Free.length), (lo 2 r2.2.Tails.length), (lo 3 r2.2.Placed.length)]])), (1, (pR 3 encInt r2.2.Free)), (2, (pR 3 encInt r2.2.Tails)), (3, (pR 3 encInt r2.2.Placed))] [0, 1, 2, 3] [1, 2, 3] from Fw.Fn.ren [(0, 0), (1, 1), (2, 2), (3, 3)] (w_impl_gather bars p x1.A x1.B (w64 (l + 1)) r2 hr2) rfl)) rfl cb255 (.cons (.c (.same rfl)) (.cons (.c (.same rfl)) (.cons (.c (.same rfl)) (.cons (.c (.same rfl)) (.cons (.c (.same rfl)) .nil))))) rfl rfl ⟨rfl, rfl, rfl, rfl, trivial⟩) ⟨rfl, rfl, rfl, rfl, rfl, rfl, trivial⟩ ⟨rfl, rfl, rfl, rfl, trivial⟩ rfl rfl ?_
 refine Op10 (LT.not rfl) rfl rfl rfl ?_
 refine On ?_
 refine AWR.cond rfl (fun hc3 => ?_) (fun hc3 => ?_)
 ·refine Ws ?_
  refine en [] [(0, (.row 165 [[(lo 1 r2.2.Free.length), (lo 2 r2.2.Tails.length), (lo 3 r2.2.Placed.length)]])), (1, (pR 3 encInt r2.2.Free)), (2, (pR 3 encInt r2.2.Tails)), (3, (pR 3 encInt r2.2.Placed))] trivial ⟨rfl, rfl, rfl, rfl, trivial⟩ ?_
  refine Wr ?_
  refine asg (Bv false) rfl ⟨rfl, rfl⟩ rfl rfl ?_
  refine On ?_
  refine AWR.ret (FPost.mk (.inr rfl) ⟨rfl, trivial⟩ ⟨rfl, rfl, rfl, rfl, trivial⟩ rfl ⟨PermP.sc, trivial⟩ ⟨PermO.row1 ⟨trivial, trivial, trivial, trivial⟩, PermO.prow' perm_encInt, PermO.prow' perm_encInt, PermO.prow' perm_encInt, trivial⟩)
 ·refine AWR.skip (Ws ?_)
  refine en [(2, (Cc (.pl 0 0))), (3, (Iv e)), (9, (Cc (.pl 21 0)))] [(0, (.row 165 [[(lo 1 r2.2.Free.length), (lo 2 r2.2.Tails.length), (lo 3 r2.2.Placed.length)]])), (1, (pR 3 encInt r2.2.Free)), (2, (pR 3 encInt r2.2.Tails)), (3, (pR 3 encInt r2.2.Placed)), (21, (.row 62 [[(iC x1.A), (iC x1.B)]]))] ⟨rfl, rfl, rfl, trivial⟩ ⟨rfl, rfl, rfl, rfl, rfl, trivial⟩ ?_
  refine Wr ?_
  refine Op10 (LT.fieldPl rfl fo62_0) rfl rfl rfl ?_
  refine Op11 (LT.bload1 (c := (iC x1.A)) rfl ag3 (by exact rfl)) rfl rfl rfl rfl ?_
  refine asg (Iv x1.A) rfl rfl rfl rfl ?_
  refine On (Ws (Ws (AWR.draw mixed ?_)))
  refine Dp10 (LT.move (v := (Cc (.pl 0 0))) rfl) rfl rfl rfl ?_
  refine Dp10 (LT.nilPl rfl) rfl rfl rfl ?_
  refine Dp10 (LT.fieldPl rfl fo165_0) rfl rfl rfl ?_
  refine Dp11 (LT.bload1 (c := (lo 1 r2.2.Free.length)) rfl ag37 (by exact rfl)) rfl rfl rfl rfl ?_
  refine Dp10 (LT.fieldPl rfl fo62_0) rfl rfl rfl ?_
  refine Dp11 (LT.bload1 (c := (iC x1.A)) rfl ag3 (by exact rfl)) rfl rfl rfl rfl ?_
  refine AOD.bind fun x4 hx4 => ?_
  refine Dp21 (LT.tindexLoc rfl rfl el37 hx4) rfl rfl rfl rfl rfl ?_
  refine Dp11 (LT.tload1 (k := 0) rfl ag3 hx4 (by exact rfl) (by exact rfl)) rfl rfl rfl rfl ?_
  refine Dp20 (LT.eql rfl) rfl ⟨rfl, rfl⟩ rfl rfl ?_
  refine AOD.nil (by kernel_rfl) ?_
  refine AWR.joinK (fun j6 => ([(2, (Cc (.pl 0 0))), (3, (Iv e)), (10, (Iv j6))], [(0, (.row 165 [[(lo 1 r2.2.Free.length), (lo 2 r2.2.Tails.length), (lo 3 r2.2.Placed.length)]])), (1, (pR 3 encInt r2.2.Free)), (2, (pR 3 encInt r2.2.Tails)), (3, (pR 3 encInt r2.2.Placed))])) ?_ (fun j6 _ => ?_)
  ·refine AWR.cond rfl (fun hc7 => ?_) (fun hc7 => ?_)
   ·refine en [(2, (Cc (.pl 0 0))), (3, (Iv e)), (9, (Cc (.pl 21 0)))] [(0, (.row 165 [[(lo 1 r2.2.Free.length), (lo 2 r2.2.Tails.length), (lo 3 r2.2.Placed.length)]])), (1, (pR 3 encInt r2.2.Free)), (2, (pR 3 encInt r2.2.Tails)), (3, (pR 3 encInt r2.2.Placed)), (21, (.row 62 [[(iC x1.A), (iC x1.B)]]))] ⟨rfl, rfl, rfl, trivial⟩ ⟨rfl, rfl, rfl, rfl, rfl, trivial⟩ ?_
    refine Wr ?_
    refine Op10 (LT.fieldPl rfl fo62_1) rfl rfl rfl ?_
    refine Op11 (LT.bload1 (c := (iC x1.B)) rfl ag3 (by exact rfl)) rfl rfl rfl rfl ?_
    refine asg (Iv x1.B) rfl rfl rfl rfl ?_
    refine On ?_
    refine AWR.nil ⟨rfl, Ent.of ⟨rfl, rfl, rfl, trivial⟩ ⟨rfl, rfl, rfl, rfl, trivial⟩⟩
   ·refine AWR.skip ?_
    refine AWR.nil ⟨rfl, Ent.of ⟨rfl, rfl, rfl, trivial⟩ ⟨rfl, rfl, rfl, rfl, trivial⟩⟩
  ·refine Ws (Wr ?_)
   refine mv (Cc (.pl 0 0)) rfl rfl rfl rfl ?_
   refine Op10 (LT.nilPl rfl) rfl rfl rfl ?_
   refine Op10 (LT.fieldPl rfl fo165_0) rfl rfl rfl ?_
   refine Op11 (LT.bload1 (c := (lo 1 r2.2.Free.length)) rfl ag37 (by exact rfl)) rfl rfl rfl rfl ?_
   refine mv (Iv j6) rfl rfl rfl rfl ?_
   refine Ob' fun x8 hx8 => ?_
   refine Op21 (LT.tindexLoc rfl rfl el37 hx8) rfl rfl rfl rfl rfl ?_
   refine Op11 (LT.tload1 (k := 0) rfl ag3 hx8 (by exact rfl) (by exact rfl)) rfl rfl rfl rfl ?_
   refine Op20 (LT.sub rfl) rfl ⟨rfl, rfl⟩ rfl rfl ?_
   refine Ob' fun x9 hx9 => ?_
   refine Op21 (LT.tindexLoc rfl rfl el37 hx9) rfl rfl rfl rfl rfl ?_
   refine Os21 (LT.tstore (k := 0) (v := (.c (iC (w64 (x8 - 1))))) (b' := (w64 (x8 - 1))) rfl rfl (infS inf3) sz3 (by exact rfl) hx9 (by exact rfl) (by exact Nat.le_of_ble_eq_true rfl) (by exact rfl)) rfl rfl rfl rfl rfl ?_
   refine On (Ws ?_)
   refine en [(2, (Cc (.pl 0 0))), (3, (Iv e)), (10, (Iv j6))] [(0, (.row 165 [[(lo 1 r2.2.Free.length), (lo 2 r2.2.Tails.length), (lo 3 r2.2.Placed.length)]])), (1, (pR 3 encInt (r2.2.Free.set j6.toNat (w64 (x8 - 1))))), (2, (pR 3 encInt r2.2.Tails)), (3, (pR 3 encInt r2.2.Placed))] ⟨rfl, rfl, rfl, trivial⟩ ⟨rfl, rfl, rfl, rfl, trivial⟩ ?_
   refine Wr ?_
   refine mv (Cc (.pl 0 0)) rfl rfl rfl rfl ?_
   refine mv (Cc (.pl 0 0)) rfl rfl rfl rfl ?_
   refine Op10 (LT.nilPl rfl) rfl rfl rfl ?_
   refine Op10 (LT.fieldPl rfl fo165_1) rfl rfl rfl ?_
   refine Op11 (LT.bload1 (c := (lo 2 r2.2.Tails.length)) rfl ag37 (by exact rfl)) rfl rfl rfl rfl ?_
   refine mv (Iv j6) rfl rfl rfl rfl ?_
   refine Os10 (LT.tbuildSlice (n := 23) (enc := encInt) [(0, .tmp 52, (.c (iC j6)))] ([j6] : List Int) rfl rfl und37 ti3 rfl rfl rfl rfl (by decide) (fun _ => rfl) rfl) rfl rfl rfl ?_
   refine Ob' fun u10 hu10 => ?_
   refine Os22 (LT.tappP (enc := encInt) rfl rfl rfl und37 ti3 rfl (by decide) (by decide) (fun _ => rfl) (lim_le hu10)) rfl rfl rfl rfl rfl rfl ?_
   refine Op10 (LT.nilPl rfl) rfl rfl rfl ?_
   refine Op10 (LT.fieldPl rfl fo165_1) rfl rfl rfl ?_
   refine Os21 (LT.bstore (v := (.c (lo 2 ((r2.2.Tails ++ ([j6] : List Int)).length)))) (out := [(lo 1 r2.2.Free.length), (lo 2 ((r2.2.Tails ++ ([j6] : List Int)).length)), (lo 3 r2.2.Placed.length)]) rfl rfl (infS inf37) sz37 (by exact rfl) (by exact Nat.le_of_ble_eq_true rfl) (by exact rfl)) rfl rfl rfl rfl rfl ?_
   refine On (Ws ?_)
   refine en [(2, (Cc (.pl 0 0))), (3, (Iv e))] [(0, (.row 165 [[(lo 1 r2.2.Free.length), (lo 2 ((r2.2.Tails ++ ([j6] : List Int)).length)), (lo 3 r2.2.Placed.length)]])), (1, (pR 3 encInt (r2.2.Free.set j6.toNat (w64 (x8 - 1))))), (2, (pR 3 encInt (r2.2.Tails ++ ([j6] : List Int)))), (3, (pR 3 encInt r2.2.Placed))] ⟨rfl, rfl, trivial⟩ ⟨rfl, rfl, rfl, rfl, trivial⟩ ?_
   refine Wr ?_
   refine mv (Cc (.pl 0 0)) rfl rfl rfl rfl ?_
   refine mv (Cc (.pl 0 0)) rfl rfl rfl rfl ?_
   refine Op10 (LT.nilPl rfl) rfl rfl rfl ?_
   refine Op10 (LT.fieldPl rfl fo165_2) rfl rfl rfl ?_
   refine Op11 (LT.bload1 (c := (lo 3 r2.2.Placed.length)) rfl ag37 (by exact rfl)) rfl rfl rfl rfl ?_
   refine mv (Iv e) rfl rfl rfl rfl ?_
   refine Os10 (LT.tbuildSlice (n := 24) (enc := encInt) [(0, .tmp 62, (.c (iC e)))] ([e] : List Int) rfl rfl und37 ti3 rfl rfl rfl rfl (by decide) (fun _ => rfl) rfl) rfl rfl rfl ?_
   refine Ob' fun u11 hu11 => ?_
   refine Os22 (LT.tappP (enc := encInt) rfl rfl rfl und37 ti3 rfl (by decide) (by decide) (fun _ => rfl) (lim_le hu11)) rfl rfl rfl rfl rfl rfl ?_
   refine Op10 (LT.nilPl rfl) rfl rfl rfl ?_
   refine Op10 (LT.fieldPl rfl fo165_2) rfl rfl rfl ?_
   refine Os21 (LT.bstore (v := (.c (lo 3 ((r2.2.Placed ++ ([e] : List Int)).length)))) (out := [(lo 1 r2.2.Free.length), (lo 2 ((r2.2.Tails ++ ([j6] : List Int)).length)), (lo 3 ((r2.2.Placed ++ ([e] : List Int)).length))]) rfl rfl (infS inf37) sz37 (by exact rfl) (by exact Nat.le_of_ble_eq_true rfl) (by exact rfl)) rfl rfl rfl rfl rfl ?_
   refine On (Ws ?_)
   refine en [] [(0, (.row 165 [[(lo 1 r2.2.Free.length), (lo 2 ((r2.2.Tails ++ ([j6] : List Int)).length)), (lo 3 ((r2.2.Placed ++ ([e] : List Int)).length))]])), (1, (pR 3 encInt (r2.2.Free.set j6.toNat (w64 (x8 - 1))))), (2, (pR 3 encInt (r2.2.Tails ++ ([j6] : List Int)))), (3, (pR 3 encInt (r2.2.Placed ++ ([e] : List Int))))] trivial ⟨rfl, rfl, rfl, rfl, trivial⟩ ?_
   refine Wr ?_
   refine asg (Bv true) rfl ⟨rfl, rfl⟩ rfl rfl ?_
   refine On ?_
   refine en [(8, (Bv true))] [(0, (.row 165 [[(lo 1 ((r2.2.Free.set j6.toNat (w64 (x8 - 1))).length)), (lo 2 ((r2.2.Tails ++ ([j6] : List Int)).length)), (lo 3 ((r2.2.Placed ++ ([e] : List Int)).length))]])), (1, (pR 3 encInt (r2.2.Free.set j6.toNat (w64 (x8 - 1))))), (2, (pR 3 encInt (r2.2.Tails ++ ([j6] : List Int)))), (3, (pR 3 encInt (r2.2.Placed ++ ([e] : List Int))))] ⟨rfl, trivial⟩ ⟨(congrArg (fun l1 => (some (Ob.row 165 [[(lo 1 l1), (lo 2 ((r2.2.Tails ++ ([j6] : List Int)).length)), (lo 3 ((r2.2.Placed ++ ([e] : List Int)).length))]]) : Option Ob)) (show r2.2.Free.length = (r2.2.Free.set j6.toNat (w64 (x8 - 1))).length by simp only [List.length_set])), rfl, rfl, rfl, trivial⟩ ?_
   refine AWR.ret (FPost.mk (.inr rfl) ⟨rfl, trivial⟩ ⟨rfl, rfl, rfl, rfl, trivial⟩ rfl ⟨PermP.sc, trivial⟩ ⟨PermO.row1 ⟨trivial, trivial, trivial, trivial⟩, PermO.prow' perm_encInt, PermO.prow' perm_encInt, PermO.prow' perm_encInt, trivial⟩)
theorem w_impl_play (points : Int) (bars : (List TBar)) (k : Int) (l : Int) : ∀ t, m_impl_play points bars k l = some t → Fw.Fn Try.prog 238 [(.c (iC points)), (.c (xF encTBar bars)), (.c (iC k)), (.c (iC l))] [] (.s (.agg [(lo 0 t.Free.length), (lo 1 t.Tails.length), (lo 2 t.Placed.length)])) [(0, (pR 3 encInt t.Free)), (1, (pR 3 encInt t.Tails)), (2, (pR 3 encInt t.Placed))] [] [0, 1, 2] := by
 refine Fw.Fn.of (P := Try.prog) (X := [0, 1, 2]) (pn := []) (rs := (fun (t : TPebbles) => [(.agg [(lo 0 t.Free.length), (lo 1 t.Tails.length), (lo 2 t.Placed.length)])])) (dfs := (fun (t : TPebbles) => [(0, (pR 3 encInt t.Free)), (1, (pR 3 encInt t.Tails)), (2, (pR 3 encInt t.Placed))])) Try.func238 rfl Try.ntmps238 (Nat.le_of_ble_eq_true rfl) rfl ?_
 intro w0 U0 R0 g0
 unfold m_impl_play
 refine Ws (Wr ?_)
 refine Os00 (LT.alloc (n := 21) (cells := [(sC nilV), (sC nilV), (sC nilV)]) rfl ti165 rfl rfl rfl) rfl rfl ?_
 refine On (Ws (Wr ?_))
 refine Op00 (LT.build [] rfl rfl pl165 ti165 rfl rfl rfl) rfl rfl ?_
 refine Os00 (LT.alloc (n := 22) (cells := [(sC nilV), (sC nilV), (sC nilV)]) rfl ti165 rfl rfl rfl) rfl rfl ?_
 refine Os21 (LT.bstore (v := (.agg [(sC nilV), (sC nilV), (sC nilV)])) (out := [(sC nilV), (sC nilV), (sC nilV)]) rfl rfl (infS inf165) sz165 (by exact rfl) (by exact Nat.le_of_ble_eq_true rfl) (by exact rfl)) rfl rfl rfl rfl rfl ?_
 refine On (Ws (Ws (Wr ?_)))
 refine mv (Iv points) rfl rfl rfl rfl ?_
 refine mv (Iv 0) rfl ⟨rfl, rfl⟩ rfl rfl ?_
 refine On (AWR.block ?_)
 refine AWR.ent (Ent.nilB 22 0 25 3 rfl rfl rfl rfl) ?_
 refine AWR.loop1 (id := 0) (m_impl_play_L1 points k) (fun s1 => ([(1, (Cc (xF encTBar bars))), (2, (Iv k)), (3, (Iv l)), (8, (Cc (.pl 21 0))), (9, (Cc (.pl 22 0))), (13, (Iv points)), (14, (Iv s1.1))], [(21, (.row 165 [[(sC nilV), (sC nilV), (sC nilV)]])), (22, (.row 165 [[(lo 25 s1.2.length), (sC nilV), (sC nilV)]])), (25, (pR 3 encInt s1.2))])) (fun b6 => ([(1, (Cc (xF encTBar bars))), (3, (Iv l)), (8, (Cc (.pl 21 0))), (9, (Cc (.pl 22 0)))], [(21, (.row 165 [[(sC nilV), (sC nilV), (sC nilV)]])), (22, (.row 165 [[(lo 25 b6.length), (sC nilV), (sC nilV)]])), (25, (pR 3 encInt b6))])) ?_ (Ent.of ⟨rfl, rfl, rfl, rfl, rfl, rfl, rfl, trivial⟩ ⟨rfl, rfl, rfl, trivial⟩) rfl (fun b6 _ => ?_)
 ·intro s1
  unfold m_impl_play_L1
  refine Ws (Wr ?_)
  refine Op20 (LT.lss rfl) rfl rfl rfl rfl ?_
  refine On (Ws ?_)
  refine AWR.cond rfl (fun hc7 => ?_) (fun hc7 => ?_)
  ·refine AWR.skip (Ws (AWR.block (Wr ?_)))
   refine Op10 (LT.fieldPl rfl fo165_0) rfl rfl rfl ?_
   refine Op11 (LT.bload1 (c := (lo 25 s1.2.length)) rfl ag37 (by exact rfl)) rfl rfl rfl rfl ?_
   refine mv (Iv k) rfl rfl rfl rfl ?_
   refine Os10 (LT.tbuildSlice (n := 23) (enc := encInt) [(0, .tmp 18, (.c (iC k)))] ([k] : List Int) rfl rfl und37 ti3 rfl rfl rfl rfl (by decide) (fun _ => rfl) rfl) rfl rfl rfl ?_
   refine Ob' fun u8 hu8 => ?_
   refine Os22 (LT.tappP (enc := encInt) rfl rfl rfl und37 ti3 rfl (by decide) (by decide) (fun _ => rfl) (lim_le hu8)) rfl rfl rfl rfl rfl rfl ?_
   refine Op10 (LT.fieldPl rfl fo165_0) rfl rfl rfl ?_
   refine Os21 (LT.bstore (v := (.c (lo 25 ((s1.2 ++ ([k] : List Int)).length)))) (out := [(lo 25 ((s1.2 ++ ([k] : List Int)).length)), (sC nilV), (sC nilV)]) rfl rfl (infS inf37) sz37 (by exact rfl) (by exact Nat.le_of_ble_eq_true rfl) (by exact rfl)) rfl rfl rfl rfl rfl ?_
   refine On (AWR.blk ?_)
   refine en [(1, (Cc (xF encTBar bars))), (2, (Iv k)), (3, (Iv l)), (8, (Cc (.pl 21 0))), (9, (Cc (.pl 22 0))), (13, (Iv points)), (14, (Iv s1.1))] [(21, (.row 165 [[(sC nilV), (sC nilV), (sC nilV)]])), (22, (.row 165 [[(lo 25 ((s1.2 ++ ([k] : List Int)).length)), (sC nilV), (sC nilV)]])), (25, (pR 3 encInt (s1.2 ++ ([k] : List Int))))] ⟨rfl, rfl, rfl, rfl, rfl, rfl, rfl, trivial⟩ ⟨rfl, rfl, rfl, trivial⟩ ?_
   refine Wr ?_
   refine Op20 (LT.add rfl) rfl ⟨rfl, rfl⟩ rfl rfl ?_
   refine mv (Iv (w64 (s1.1 + 1))) rfl rfl rfl rfl ?_
   refine On ?_
   refine AWR.nil ⟨rfl, Ent.of ⟨rfl, rfl, rfl, rfl, rfl, rfl, rfl, trivial⟩ ⟨rfl, rfl, rfl, trivial⟩⟩
  ·refine AWR.exit_end rfl ⟨rfl, Ent.of ⟨rfl, rfl, rfl, rfl, trivial⟩ ⟨rfl, rfl, rfl, trivial⟩⟩
 ·refine Ws (Ws (Wr ?_))
  refine mv (Cc (xF encTBar bars)) rfl rfl rfl rfl ?_
  refine Op10 (LT.tlenRO rfl und24) rfl rfl rfl ?_
  refine mv (Iv 0) rfl ⟨rfl, rfl⟩ rfl rfl ?_
  refine On (AWR.block ?_)
  refine AWR.ent (Ent.nilB 22 1 32 3 rfl rfl rfl rfl) ?_
  refine AWR.ent (Ent.nilB 22 2 33 3 rfl rfl rfl rfl) ?_
  refine AWR.loop1 (id := 2) (m_impl_play_L2 bars l) (fun s9 => ([(1, (Cc (xF encTBar bars))), (3, (Iv l)), (8, (Cc (.pl 21 0))), (9, (Cc (.pl 22 0))), (24, (Iv (bars.length : Int))), (25, (Iv s9.1))], [(21, (.row 165 [[(sC nilV), (sC nilV), (sC nilV)]])), (22, (.row 165 [[(lo 25 s9.2.1.length), (lo 32 s9.2.2.1.length), (lo 33 s9.2.2.2.length)]])), (25, (pR 3 encInt s9.2.1)), (32, (pR 3 encInt s9.2.2.1)), (33, (pR 3 encInt s9.2.2.2))])) (fun b22 => ([(8, (Cc (.pl 21 0))), (9, (Cc (.pl 22 0)))], [(21, (.row 165 [[(sC nilV), (sC nilV), (sC nilV)]])), (22, (.row 165 [[(lo 25 b22.1.length), (lo 32 b22.2.1.length), (lo 33 b22.2.2.length)]])), (25, (pR 3 encInt b22.1)), (32, (pR 3 encInt b22.2.1)), (33, (pR 3 encInt b22.2.2))])) ?_ (Ent.of ⟨rfl, rfl, rfl, rfl, rfl, rfl, trivial⟩ ⟨rfl, rfl, rfl, rfl, rfl, trivial⟩) rfl (fun b22 _ => ?_)
  ·intro s9
   unfold m_impl_play_L2
   refine Ws (Wr ?_)
   refine Op20 (LT.lss rfl) rfl rfl rfl rfl ?_
   refine On (Ws ?_)
   refine AWR.cond rfl (fun hc23 => ?_) (fun hc23 => ?_)
   ·refine AWR.skip (Ws (AWR.block (Ws (Wr ?_))))
    refine mv (Iv s9.1) rfl rfl rfl rfl ?_
    refine asg (Iv s9.1) rfl rfl rfl rfl ?_
    refine On (Ws (Wr ?_))
    refine Op11 (LT.bloadN (out := [(lo 25 s9.2.1.length), (lo 32 s9.2.2.1.length), (lo 33 s9.2.2.2.length)]) rfl ag165 (infS inf165) sz165 (by exact rfl) (by exact rfl)) rfl rfl rfl rfl ?_
    refine Ob' fun r24 hr24 => ?_
    refine AOR.step (@LT.callF Try.prog _ _ 250 _ _ [(.agg [(lo 25 s9.2.1.length), (lo 32 s9.2.2.1.length), (lo 33 s9.2.2.2.length)])] _ _ [(25, (pR 3 encInt s9.2.1)), (32, (pR 3 encInt s9.2.2.1)), (33, (pR 3 encInt s9.2.2.2))] _ _ _ _ ((show Fw.Fn Try.prog 250 [(.agg [(xF encInt ((TPebbles.mk s9.2.1 s9.2.2.1 s9.2.2.2).Free)), (xF encInt ((TPebbles.mk s9.2.1 s9.2.2.1 s9.2.2.2).Tails)), (xF encInt ((TPebbles.mk s9.2.1 s9.2.2.1 s9.2.2.2).Placed))])] [] (Ag  [(lo 27 r24.Free.length), (lo 28 r24.Tails.length), (lo 29 r24.Placed.length)]) [(27, (pR 3 encInt r24.Free)), (28, (pR 3 encInt r24.Tails)), (29, (pR 3 encInt r24.Placed))] [] [27, 28, 29] from Fw.Fn.ren [(0, 27), (1, 28), (2, 29)] (w_impl_copyPebbles (TPebbles.mk s9.2.1 s9.2.2.1 s9.2.2.2) r24 hr24) rfl)) rfl cb250 (.cons (.agg (.cons (.tloc rfl rfl) (.cons (.tloc rfl rfl) (.cons (.tloc rfl rfl) .nil)))) .nil) rfl rfl trivial) ⟨rfl, rfl, trivial⟩ ⟨rfl, rfl, rfl, trivial⟩ rfl rfl ?_
    refine Os00 (LT.alloc (n := 30) (cells := [(sC nilV), (sC nilV), (sC nilV)]) rfl ti165 rfl rfl rfl) rfl rfl ?_
    refine Os21 (LT.bstore (v := (.agg [(lo 27 r24.Free.length), (lo 28 r24.Tails.length), (lo 29 r24.Placed.length)])) (out := [(lo 27 r24.Free.length), (lo 28 r24.Tails.length), (lo 29 r24.Placed.length)]) rfl rfl (infS inf165) sz165 (by exact rfl) (by exact Nat.le_of_ble_eq_true rfl) (by exact rfl)) rfl rfl rfl rfl rfl ?_
    refine On (Ws ?_)
    refine en [(1, (Cc (xF encTBar bars))), (3, (Iv l)), (8, (Cc (.pl 21 0))), (9, (Cc (.pl 22 0))), (10, (Iv s9.1)), (11, (Cc (.pl 30 0))), (24, (Iv (bars.length : Int))), (25, (Iv s9.1))] [(21, (.row 165 [[(sC nilV), (sC nilV), (sC nilV)]])), (22, (.row 165 [[(lo 25 s9.2.1.length), (lo 32 s9.2.2.1.length), (lo 33 s9.2.2.2.length)]])), (25, (pR 3 encInt s9.2.1)), (27, (pR 3 encInt r24.Free)), (28, (pR 3 encInt r24.Tails)), (29, (pR 3 encInt r24.Placed)), (30, (.row 165 [[(lo 27 r24.Free.length), (lo 28 r24.Tails.length), (lo 29 r24.Placed.length)]])), (32, (pR 3 encInt s9.2.2.1)), (33, (pR 3 encInt s9.2.2.2))] ⟨rfl, rfl, rfl, rfl, rfl, rfl, rfl, rfl, trivial⟩ ⟨rfl, rfl, rfl, rfl, rfl, rfl, rfl, rfl, rfl, trivial⟩ ?_
    refine Wr ?_
    refine mv (Cc (xF encTBar bars)) rfl rfl rfl rfl ?_
    refine mv (Iv l) rfl rfl rfl rfl ?_
    refine mv (Iv s9.1) rfl rfl rfl rfl ?_
    refine Ob' fun r25 hr25 => ?_
    refine AOR.step (@LT.callF Try.prog _ _ 251 _ _ [(.c (xF encTBar bars)), (.c (iC l)), (.c (.pl 30 0)), (.c (iC s9.1))] _ _ [] _ _ _ _ ((show Fw.Fn Try.prog 251 [(.c (xF encTBar bars)), (.c (iC l)), (.c (.pl 30 0)), (.c (iC s9.1))] [(30, (.row 165 [[(lo 27 r24.Free.length), (lo 28 r24.Tails.length), (lo 29 r24.Placed.length)]])), (27, (pR 3 encInt r24.Free)), (28, (pR 3 encInt r24.Tails)), (29, (pR 3 encInt r24.Placed))] (Bv r25.1) [(30, (.row 165 [[(lo 27 r25.2.Free.length), (lo 28 r25.2.Tails.length), (lo 29 r25.2.Placed.length)]])), (27, (pR 3 encInt r25.2.Free)), (28, (pR 3 encInt r25.2.Tails)), (29, (pR 3 encInt r25.2.Placed))] [30, 27, 28, 29] [27, 28, 29] from Fw.Fn.ren [(0, 30), (1, 27), (2, 28), (3, 29)] (w_impl_place bars l r24 s9.1 r25 hr25) rfl)) rfl cb251 (.cons (.c (.same rfl)) (.cons (.c (.same rfl)) (.cons (.c (.same rfl)) (.cons (.c (.same rfl)) .nil)))) rfl rfl ⟨rfl, rfl, rfl, rfl, trivial⟩) ⟨rfl, rfl, rfl, rfl, rfl, trivial⟩ ⟨rfl, rfl, rfl, rfl, trivial⟩ rfl rfl ?_
    refine On ?_
    refine AWR.joinK (fun j27 => ([(1, (Cc (xF encTBar bars))), (3, (Iv l)), (8, (Cc (.pl 21 0))), (9, (Cc (.pl 22 0))), (24, (Iv (bars.length : Int))), (25, (Iv s9.1))], [(21, (.row 165 [[(sC nilV), (sC nilV), (sC nilV)]])), (22, (.row 165 [[(lo 27 j27.1.length), (lo 28 j27.2.1.length), (lo 29 j27.2.2.length)]])), (27, (pR 3 encInt j27.1)), (28, (pR 3 encInt j27.2.1)), (29, (pR 3 encInt j27.2.2))])) ?_ (fun j27 _ => ?_)
    ·refine AWR.cond rfl (fun hc28 => ?_) (fun hc28 => ?_)
     ·refine Wr ?_
      refine Op11 (LT.bloadN (out := [(lo 27 r25.2.Free.length), (lo 28 r25.2.Tails.length), (lo 29 r25.2.Placed.length)]) rfl ag165 (infS inf165) sz165 (by exact rfl) (by exact rfl)) rfl rfl rfl rfl ?_
      refine Os21 (LT.bstore (v := (.agg [(lo 27 r25.2.Free.length), (lo 28 r25.2.Tails.length), (lo 29 r25.2.Placed.length)])) (out := [(lo 27 r25.2.Free.length), (lo 28 r25.2.Tails.length), (lo 29 r25.2.Placed.length)]) rfl rfl (infS inf165) sz165 (by exact rfl) (by exact Nat.le_of_ble_eq_true rfl) (by exact rfl)) rfl rfl rfl rfl rfl ?_
      refine On ?_
      refine AWR.nil ⟨rfl, Ent.of ⟨rfl, rfl, rfl, rfl, rfl, rfl, trivial⟩ ⟨rfl, rfl, rfl, rfl, rfl, trivial⟩⟩
     ·refine AWR.skip ?_
      refine en [(1, (Cc (xF encTBar bars))), (3, (Iv l)), (8, (Cc (.pl 21 0))), (9, (Cc (.pl 22 0))), (24, (Iv (bars.length : Int))), (25, (Iv s9.1))] [(21, (.row 165 [[(sC nilV), (sC nilV), (sC nilV)]])), (22, (.row 165 [[(lo 25 s9.2.1.length), (lo 32 s9.2.2.1.length), (lo 33 s9.2.2.2.length)]])), (25, (pR 3 encInt s9.2.1)), (32, (pR 3 encInt s9.2.2.1)), (33, (pR 3 encInt s9.2.2.2))] ⟨rfl, rfl, rfl, rfl, rfl, rfl, trivial⟩ ⟨rfl, rfl, rfl, rfl, rfl, trivial⟩ ?_
      refine AWR.ent (Ent.mv 25 27 rfl rfl) ?_
      refine AWR.ent (Ent.mv 32 28 rfl rfl) ?_
      refine AWR.ent (Ent.mv 33 29 rfl rfl) ?_
      refine AWR.nil ⟨rfl, Ent.of ⟨rfl, rfl, rfl, rfl, rfl, rfl, trivial⟩ ⟨rfl, rfl, rfl, rfl, rfl, trivial⟩⟩
    ·refine AWR.blk (Wr ?_)
     refine Op20 (LT.add rfl) rfl ⟨rfl, rfl⟩ rfl rfl ?_
     refine mv (Iv (w64 (s9.1 + 1))) rfl rfl rfl rfl ?_
     refine On ?_
     refine en [(1, (Cc (xF encTBar bars))), (3, (Iv l)), (8, (Cc (.pl 21 0))), (9, (Cc (.pl 22 0))), (24, (Iv (bars.length : Int))), (25, (Iv (w64 (s9.1 + 1))))] [(21, (.row 165 [[(sC nilV), (sC nilV), (sC nilV)]])), (22, (.row 165 [[(lo 27 j27.1.length), (lo 28 j27.2.1.length), (lo 29 j27.2.2.length)]])), (27, (pR 3 encInt j27.1)), (28, (pR 3 encInt j27.2.1)), (29, (pR 3 encInt j27.2.2))] ⟨rfl, rfl, rfl, rfl, rfl, rfl, trivial⟩ ⟨rfl, rfl, rfl, rfl, rfl, trivial⟩ ?_
     refine AWR.ent (Ent.mv 27 25 rfl rfl) ?_
     refine AWR.ent (Ent.mv 28 32 rfl rfl) ?_
     refine AWR.ent (Ent.mv 29 33 rfl rfl) ?_
     refine AWR.nil ⟨rfl, Ent.of ⟨rfl, rfl, rfl, rfl, rfl, rfl, trivial⟩ ⟨rfl, rfl, rfl, rfl, rfl, trivial⟩⟩
   ·refine AWR.exit_end rfl ⟨rfl, Ent.of ⟨rfl, rfl, trivial⟩ ⟨rfl, rfl, rfl, rfl, rfl, trivial⟩⟩
  ·refine Ws (Wr ?_)
   refine Op11 (LT.bloadN (out := [(lo 25 b22.1.length), (lo 32 b22.2.1.length), (lo 33 b22.2.2.length)]) rfl ag165 (infS inf165) sz165 (by exact rfl) (by exact rfl)) rfl rfl rfl rfl ?_
   refine Os21 (LT.bstore (v := (.agg [(lo 25 b22.1.length), (lo 32 b22.2.1.length), (lo 33 b22.2.2.length)])) (out := [(lo 25 b22.1.length), (lo 32 b22.2.1.length), (lo 33 b22.2.2.length)]) rfl rfl (infS inf165) sz165 (by exact rfl) (by exact Nat.le_of_ble_eq_true rfl) (by exact rfl)) rfl rfl rfl rfl rfl ?_
   refine On ?_
   refine en [(8, (Cc (.pl 21 0)))] [(21, (.row 165 [[(lo 25 b22.1.length), (lo 32 b22.2.1.length), (lo 33 b22.2.2.length)]])), (25, (pR 3 encInt b22.1)), (32, (pR 3 encInt b22.2.1)), (33, (pR 3 encInt b22.2.2))] ⟨rfl, trivial⟩ ⟨rfl, rfl, rfl, rfl, trivial⟩ ?_
   refine AWR.ent (Ent.mv 25 0 rfl rfl) ?_
   refine AWR.ent (Ent.mv 32 1 rfl rfl) ?_
   refine AWR.ent (Ent.mv 33 2 rfl rfl) ?_
   refine en [(8, (Cc (.pl 21 0)))] [(0, (pR 3 encInt b22.1)), (1, (pR 3 encInt b22.2.1)), (2, (pR 3 encInt b22.2.2)), (21, (.row 165 [[(lo 0 b22.1.length), (lo 1 b22.2.1.length), (lo 2 b22.2.2.length)]]))] ⟨rfl, trivial⟩ ⟨rfl, rfl, rfl, rfl, trivial⟩ ?_
   refine AWR.ret (FPost.mk (.inr rfl) ⟨⟨_, _, _, rfl, rfl, rfl, ag165, sz165, _, (infS inf165)⟩, trivial⟩ ⟨rfl, rfl, rfl, trivial⟩ rfl ⟨⟨trivial, trivial, trivial, trivial⟩, trivial⟩ ⟨PermO.prow' perm_encInt, PermO.prow' perm_encInt, PermO.prow' perm_encInt, trivial⟩)
theorem w_impl_RunPebbles (g : TGraph) (k : Int) (l : Int) : ∀ t, m_impl_RunPebbles g k l = some t → Fw.Fn Try.prog 215 [(.agg [(iC g.Points), (xF encTBar g.Bars)]), (.c (iC k)), (.c (iC l))] [] (resA [(.agg [(lo 0 t.1.Free.length), (lo 1 t.1.Tails.length), (lo 2 t.1.Placed.length)]), (.c (bC t.2))]) [(0, (pR 3 encInt t.1.Free)), (1, (pR 3 encInt t.1.Tails)), (2, (pR 3 encInt t.1.Placed))] [] [0, 1, 2] := by
 refine Fw.Fn.of (P := Try.prog) (X := [0, 1, 2]) (pn := []) (rs := (fun (t : (TPebbles × Bool)) => [(.agg [(lo 0 t.1.Free.length), (lo 1 t.1.Tails.length), (lo 2 t.1.Placed.length)]), (.c (bC t.2))])) (dfs := (fun (t : (TPebbles × Bool)) => [(0, (pR 3 encInt t.1.Free)), (1, (pR 3 encInt t.1.Tails)), (2, (pR 3 encInt t.1.Placed))])) Try.func215 rfl Try.ntmps215 (Nat.le_of_ble_eq_true rfl) rfl ?_
 intro w0 U0 R0 g0
 unfold m_impl_RunPebbles
 refine Ws (Wr ?_)
 refine Os10 (LT.box (n := 21) (v := (.agg [(iC g.Points), (xF encTBar g.Bars)])) rfl sz26 (by exact rfl)) rfl rfl rfl ?_
 refine Os00 (LT.alloc (n := 22) (cells := [(sC nilV), (sC nilV), (sC nilV)]) rfl ti165 rfl rfl rfl) rfl rfl ?_
 refine asg (Bv false) rfl ⟨rfl, rfl⟩ rfl rfl ?_
 refine On (Ws (Ws ?_))
 refine AWR.joinK (fun j4 => ([(1, (Iv k)), (2, (Iv l)), (3, (Cc (.pl 21 0))), (6, (Cc (.pl 22 0))), (16, (Bv j4))], [(21, (.row 26 [[(iC g.Points), (xF encTBar g.Bars)]])), (22, (.row 165 [[(sC nilV), (sC nilV), (sC nilV)]]))])) ?_ (fun j4 _ => ?_)
 ·refine Wr ?_
  refine Op11 (LT.bloadN (out := [(iC g.Points), (xF encTBar g.Bars)]) rfl ag26 (infS inf26) sz26 (by exact rfl) (by exact rfl)) rfl rfl rfl rfl ?_
  refine Ob' fun r5 hr5 => ?_
  refine AOR.pure (@LT.callF Try.prog _ _ 173 _ _ [(.agg [(iC g.Points), (xF encTBar g.Bars)])] _ _ [] _ _ _ _ (w_impl_IsGraph g r5 hr5) rfl cb173 (.cons (.agg (.cons (.same rfl) (.cons (.same rfl) .nil))) .nil) rfl rfl trivial) ⟨rfl, rfl, trivial⟩ trivial rfl rfl ?_
  refine Op10 (LT.not rfl) rfl rfl rfl ?_
  refine mv (Bv (!r5)) rfl rfl rfl rfl ?_
  refine AOR.split (fun hb6 => ?_) (fun hb6 => ?_)
  ·refine Ok rfl rfl rfl (by rw [hb6]; rfl) rfl ?_
   refine Ok rfl rfl rfl (by rw [hb6]; rfl) rfl ?_
   refine Ok rfl rfl rfl (by rw [hb6]; rfl) rfl ?_
   refine Ok rfl rfl rfl (by rw [hb6]; rfl) rfl ?_
   refine Op20 (LT.pickT (v := (Bv true)) rfl hb6) rfl ⟨rfl, rfl⟩ rfl rfl ?_
   refine On ?_
   refine AWR.nil ⟨rfl, Ent.of ⟨rfl, rfl, rfl, rfl, rfl, trivial⟩ ⟨rfl, rfl, trivial⟩⟩
  ·refine mv (Iv k) rfl rfl ⟨_, rfl, .inl ⟨_, rfl, (by rw [hb6]; rfl)⟩⟩ rfl ?_
   refine mv (Iv l) rfl rfl ⟨_, rfl, .inl ⟨_, rfl, (by rw [hb6]; rfl)⟩⟩ rfl ?_
   refine Ob' fun r7 hr7 => ?_
   refine AOR.pure (@LT.callF Try.prog _ _ 237 _ _ [(.c (iC k)), (.c (iC l))] _ _ [] _ _ _ _ (w_impl_IsRange k l r7 hr7) rfl cb237 (.cons (.c (.same rfl)) (.cons (.c (.same rfl)) .nil)) rfl rfl trivial) ⟨rfl, rfl, rfl, trivial⟩ trivial ⟨_, rfl, .inl ⟨_, rfl, (by rw [hb6]; rfl)⟩⟩ rfl ?_
   refine Op10 (LT.not rfl) rfl ⟨_, rfl, .inl ⟨_, rfl, (by rw [hb6]; rfl)⟩⟩ rfl ?_
   refine Op20 (LT.pickF (v := (Bv (!r7))) rfl hb6) rfl rfl rfl rfl ?_
   refine On ?_
   refine AWR.nil ⟨rfl, Ent.of ⟨rfl, rfl, rfl, rfl, rfl, trivial⟩ ⟨rfl, rfl, trivial⟩⟩
 ·refine AWR.cond rfl (fun hc8 => ?_) (fun hc8 => ?_)
  ·refine Ws (Wr ?_)
   refine Op00 (LT.build [] rfl rfl pl165 ti165 rfl rfl rfl) rfl rfl ?_
   refine Os21 (LT.bstore (v := (.agg [(sC nilV), (sC nilV), (sC nilV)])) (out := [(sC nilV), (sC nilV), (sC nilV)]) rfl rfl (infS inf165) sz165 (by exact rfl) (by exact Nat.le_of_ble_eq_true rfl) (by exact rfl)) rfl rfl rfl rfl rfl ?_
   refine asg (Bv false) rfl ⟨rfl, rfl⟩ rfl rfl ?_
   refine On ?_
   refine AWR.ent (Ent.nilB 22 0 0 3 rfl rfl rfl rfl) ?_
   refine AWR.ent (Ent.nilB 22 1 1 3 rfl rfl rfl rfl) ?_
   refine AWR.ent (Ent.nilB 22 2 2 3 rfl rfl rfl rfl) ?_
   refine en [(6, (Cc (.pl 22 0))), (7, (Bv false))] [(0, (pR 3 encInt ([] : List Int))), (1, (pR 3 encInt ([] : List Int))), (2, (pR 3 encInt ([] : List Int))), (22, (.row 165 [[(lo 0 (([] : List Int).length)), (lo 1 (([] : List Int).length)), (lo 2 (([] : List Int).length))]]))] ⟨rfl, rfl, trivial⟩ ⟨rfl, rfl, rfl, rfl, trivial⟩ ?_
   refine AWR.ret (FPost.mk (.inr rfl) ⟨⟨_, _, _, rfl, rfl, rfl, ag165, sz165, _, (infS inf165)⟩, rfl, trivial⟩ ⟨rfl, rfl, rfl, trivial⟩ rfl ⟨⟨trivial, trivial, trivial, trivial⟩, PermP.sc, trivial⟩ ⟨PermO.prow' perm_encInt, PermO.prow' perm_encInt, PermO.prow' perm_encInt, trivial⟩)
  ·refine AWR.skip (Ws (Wr ?_))
   refine Op10 (LT.fieldPl rfl fo26_0) rfl rfl rfl ?_
   refine Op11 (LT.bload1 (c := (iC g.Points)) rfl ag3 (by exact rfl)) rfl rfl rfl rfl ?_
   refine Op10 (LT.fieldPl rfl fo26_1) rfl rfl rfl ?_
   refine Op11 (LT.bload1 (c := (xF encTBar g.Bars)) rfl ag24 (by exact rfl)) rfl rfl rfl rfl ?_
   refine mv (Iv k) rfl rfl rfl rfl ?_
   refine mv (Iv l) rfl rfl rfl rfl ?_
   refine Ob' fun r9 hr9 => ?_
   refine AOR.step (@LT.callF Try.prog _ _ 238 _ _ [(.c (iC g.Points)), (.c (xF encTBar g.Bars)), (.c (iC k)), (.c (iC l))] _ _ [] _ _ _ _ ((show Fw.Fn Try.prog 238 [(.c (iC g.Points)), (.c (xF encTBar g.Bars)), (.c (iC k)), (.c (iC l))] [] (Ag  [(lo 26 r9.Free.length), (lo 27 r9.Tails.length), (lo 28 r9.Placed.length)]) [(26, (pR 3 encInt r9.Free)), (27, (pR 3 encInt r9.Tails)), (28, (pR 3 encInt r9.Placed))] [] [26, 27, 28] from Fw.Fn.ren [(0, 26), (1, 27), (2, 28)] (w_impl_play g.Points g.Bars k l r9 hr9) rfl)) rfl cb238 (.cons (.c (.same rfl)) (.cons (.c (.same rfl)) (.cons (.c (.same rfl)) (.cons (.c (.same rfl)) .nil)))) rfl rfl trivial) ⟨rfl, rfl, rfl, rfl, rfl, trivial⟩ trivial rfl rfl ?_
   refine Os21 (LT.bstore (v := (.agg [(lo 26 r9.Free.length), (lo 27 r9.Tails.length), (lo 28 r9.Placed.length)])) (out := [(lo 26 r9.Free.length), (lo 27 r9.Tails.length), (lo 28 r9.Placed.length)]) rfl rfl (infS inf165) sz165 (by exact rfl) (by exact Nat.le_of_ble_eq_true rfl) (by exact rfl)) rfl rfl rfl rfl rfl ?_
   refine asg (Bv true) rfl ⟨rfl, rfl⟩ rfl rfl ?_
   refine On ?_
   refine en [(6, (Cc (.pl 22 0))), (7, (Bv true))] [(22, (.row 165 [[(lo 26 r9.Free.length), (lo 27 r9.Tails.length), (lo 28 r9.Placed.length)]])), (26, (pR 3 encInt r9.Free)), (27, (pR 3 encInt r9.Tails)), (28, (pR 3 encInt r9.Placed))] ⟨rfl, rfl, trivial⟩ ⟨rfl, rfl, rfl, rfl, trivial⟩ ?_
   refine AWR.ent (Ent.mv 26 0 rfl rfl) ?_
   refine AWR.ent (Ent.mv 27 1 rfl rfl) ?_
   refine AWR.ent (Ent.mv 28 2 rfl rfl) ?_
   refine en [(6, (Cc (.pl 22 0))), (7, (Bv true))] [(0, (pR 3 encInt r9.Free)), (1, (pR 3 encInt r9.Tails)), (2, (pR 3 encInt r9.Placed)), (22, (.row 165 [[(lo 0 r9.Free.length), (lo 1 r9.Tails.length), (lo 2 r9.Placed.length)]]))] ⟨rfl, rfl, trivial⟩ ⟨rfl, rfl, rfl, rfl, trivial⟩ ?_
   refine AWR.ret (FPost.mk (.inr rfl) ⟨⟨_, _, _, rfl, rfl, rfl, ag165, sz165, _, (infS inf165)⟩, rfl, trivial⟩ ⟨rfl, rfl, rfl, trivial⟩ rfl ⟨⟨trivial, trivial, trivial, trivial⟩, PermP.sc, trivial⟩ ⟨PermO.prow' perm_encInt, PermO.prow' perm_encInt, PermO.prow' perm_encInt, trivial⟩)
end Go.Proofs.Ytghofbijdnenoaa
end
section
set_option linter.unusedVariables false
set_option linter.unusedSimpArgs false
set_option linter.unnecessarySimpa false
set_option maxRecDepth 100000
set_option maxHeartbeats 8000000
open Go Go.Fw
namespace Go.Proofs.Ytghofbijdnenoaa
theorem w_spec_RankOf (g : TGraph) (k : Int) (l : Int) : ∀ t, m_spec_RankOf g k l = some t → Fw.Fn Try.prog 139 [(.agg [(iC g.Points), (xF encTBar g.Bars)]), (.c (iC k)), (.c (iC l))] [] (.s (.c (iC t))) [] [] [] := by
 refine Fw.Fn.of (P := Try.prog) (X := []) (pn := []) (rs := (fun (t : Int) => [(.c (iC t))])) (dfs := (fun (t : Int) => [])) Try.func139 rfl Try.ntmps139 (Nat.le_of_ble_eq_true rfl) rfl ?_
 intro w0 U0 R0 g0
 unfold m_spec_RankOf
 refine Ws (Wr ?_)
 refine Os10 (LT.box (n := 21) (v := (.agg [(iC g.Points), (xF encTBar g.Bars)])) rfl sz26 (by exact rfl)) rfl rfl rfl ?_
 refine asg (Iv 0) rfl ⟨rfl, rfl⟩ rfl rfl ?_
 refine On (Ws (Wr ?_))
 refine Op11 (LT.bloadN (out := [(iC g.Points), (xF encTBar g.Bars)]) rfl ag26 (infS inf26) sz26 (by exact rfl) (by exact rfl)) rfl rfl rfl rfl ?_
 refine mv (Iv k) rfl rfl rfl rfl ?_
 refine mv (Iv l) rfl rfl rfl rfl ?_
 refine Ob' fun r1 hr1 => ?_
 refine AOR.step (@LT.callF Try.prog _ _ 216 _ _ [(.agg [(iC g.Points), (xF encTBar g.Bars)]), (.c (iC k)), (.c (iC l))] _ _ [] _ _ _ _ ((show Fw.Fn Try.prog 216 [(.agg [(iC g.Points), (xF encTBar g.Bars)]), (.c (iC k)), (.c (iC l))] [] (.tup [(.agg [(lo 23 r1.1.Free.length), (lo 24 r1.1.Tails.length), (lo 25 r1.1.Placed.length)]), (.c (bC r1.2))]) [(23, (pR 3 encInt r1.1.Free)), (24, (pR 3 encInt r1.1.Tails)), (25, (pR 3 encInt r1.1.Placed))] [] [23, 24, 25] from Fw.Fn.ren [(0, 23), (1, 24), (2, 25)] (w_spec_RunPebbles g k l r1 hr1) rfl)) rfl cb216 (.cons (.agg (.cons (.same rfl) (.cons (.same rfl) .nil))) (.cons (.c (.same rfl)) (.cons (.c (.same rfl)) .nil))) rfl rfl trivial) ⟨rfl, rfl, rfl, rfl, trivial⟩ trivial rfl rfl ?_
 refine mv (.tup [(.agg [(lo 23 r1.1.Free.length), (lo 24 r1.1.Tails.length), (lo 25 r1.1.Placed.length)]), (.c (bC r1.2))]) rfl rfl rfl rfl ?_
 refine Op10 (LT.extract (v := (.agg [(lo 23 r1.1.Free.length), (lo 24 r1.1.Tails.length), (lo 25 r1.1.Placed.length)])) rfl (by exact rfl)) rfl rfl rfl ?_
 refine Op10 (LT.extract (v := (.c (bC r1.2))) rfl (by exact rfl)) rfl rfl rfl ?_
 refine Os00 (LT.alloc (n := 26) (cells := [(sC nilV), (sC nilV), (sC nilV)]) rfl ti165 rfl rfl rfl) rfl rfl ?_
 refine Os21 (LT.bstore (v := (.agg [(lo 23 r1.1.Free.length), (lo 24 r1.1.Tails.length), (lo 25 r1.1.Placed.length)])) (out := [(lo 23 r1.1.Free.length), (lo 24 r1.1.Tails.length), (lo 25 r1.1.Placed.length)]) rfl rfl (infS inf165) sz165 (by exact rfl) (by exact Nat.le_of_ble_eq_true rfl) (by exact rfl)) rfl rfl rfl rfl rfl ?_
 refine asg (Bv r1.2) rfl rfl rfl rfl ?_
 refine On (Ws (Ws ?_))
 refine en [(7, (Cc (.pl 26 0))), (8, (Bv r1.2))] [(23, (pR 3 encInt r1.1.Free)), (24, (pR 3 encInt r1.1.Tails)), (25, (pR 3 encInt r1.1.Placed)), (26, (.row 165 [[(lo 23 r1.1.Free.length), (lo 24 r1.1.Tails.length), (lo 25 r1.1.Placed.length)]]))] ⟨rfl, rfl, trivial⟩ ⟨rfl, rfl, rfl, rfl, trivial⟩ ?_
 refine Wr ?_
 refine mv (Bv r1.2) rfl rfl rfl rfl ?_
 refine Op10 (LT.not rfl) rfl rfl rfl ?_
 refine On ?_
 refine AWR.cond rfl (fun hc2 => ?_) (fun hc2 => ?_)
 ·refine Ws (Wr ?_)
  refine asg (Iv (-1)) rfl ⟨rfl, rfl⟩ rfl rfl ?_
  refine On ?_
  refine AWR.ret (FPost.mk (.inr rfl) ⟨rfl, trivial⟩ trivial rfl ⟨PermP.sc, trivial⟩ trivial)
 ·refine AWR.skip (Ws (Wr ?_))
  refine Op10 (LT.fieldPl rfl fo165_2) rfl rfl rfl ?_
  refine Op11 (LT.bload1 (c := (lo 25 r1.1.Placed.length)) rfl ag37 (by exact rfl)) rfl rfl rfl rfl ?_
  refine Op10 (LT.lenLoc rfl und37) rfl rfl rfl ?_
  refine asg (Iv (r1.1.Placed.length : Int)) rfl rfl rfl rfl ?_
  refine On ?_
  refine AWR.ret (FPost.mk (.inr rfl) ⟨rfl, trivial⟩ trivial rfl ⟨PermP.sc, trivial⟩ trivial)
theorem w_spec_IsGenericHere (f : TFramework) : ∀ t, m_spec_IsGenericHere f = some t → Fw.Fn Try.prog 51 [(.agg [(iC f.Graph.Points), (xF encTBar f.Graph.Bars), (xF encTPlace f.Places)])] [] (.s (.c (bC t))) [] [] [] := by
 refine Fw.Fn.of (P := Try.prog) (X := []) (pn := []) (rs := (fun (t : Bool) => [(.c (bC t))])) (dfs := (fun (t : Bool) => [])) Try.func51 rfl Try.ntmps51 (Nat.le_of_ble_eq_true rfl) rfl ?_
 intro w0 U0 R0 g0
 unfold m_spec_IsGenericHere
 refine Ws (Wr ?_)
 refine Os10 (LT.box (n := 21) (v := (.agg [(iC f.Graph.Points), (xF encTBar f.Graph.Bars), (xF encTPlace f.Places)])) rfl sz29 (by exact rfl)) rfl rfl rfl ?_
 refine asg (Bv false) rfl ⟨rfl, rfl⟩ rfl rfl ?_
 refine On (Ws ?_)
 refine AWR.joinK (fun j5 => ([(2, (Bv j5))], [])) ?_ (fun j5 _ => ?_)
 ·refine AWR.draw mixed ?_
  refine Dp11 (LT.bloadN (out := [(iC f.Graph.Points), (xF encTBar f.Graph.Bars), (xF encTPlace f.Places)]) rfl ag29 (infS inf29) sz29 (by exact rfl) (by exact rfl)) rfl rfl rfl rfl ?_
  refine AOD.bind fun r6 hr6 => ?_
  refine AOD.pure (@LT.callF Try.prog _ _ 15 _ _ [(.agg [(iC f.Graph.Points), (xF encTBar f.Graph.Bars), (xF encTPlace f.Places)])] _ _ [] _ _ _ _ (w_spec_IsFramework f r6 hr6) rfl cb15 (.cons (.agg (.cons (.same rfl) (.cons (.same rfl) (.cons (.same rfl) .nil)))) .nil) rfl rfl trivial) ⟨rfl, rfl, trivial⟩ trivial rfl rfl ?_
  refine Dp10 (LT.move (v := (Bv r6)) rfl) rfl rfl rfl ?_
  refine AOD.split (fun hb7 => ?_) (fun hb7 => ?_)
  ·refine Dp11 (LT.bloadN (out := [(iC f.Graph.Points), (xF encTBar f.Graph.Bars), (xF encTPlace f.Places)]) rfl ag29 (infS inf29) sz29 (by exact rfl) (by exact rfl)) rfl rfl ⟨_, rfl, .inl ⟨_, rfl, (by rw [hb7]; rfl)⟩⟩ rfl ?_
   refine AOD.bind fun r8 hr8 => ?_
   refine AOD.pure (@LT.callF Try.prog _ _ 58 _ _ [(.agg [(iC f.Graph.Points), (xF encTBar f.Graph.Bars), (xF encTPlace f.Places)])] _ _ [] _ _ _ _ (w_spec_FrameworkRank f r8 hr8) rfl cb58 (.cons (.agg (.cons (.same rfl) (.cons (.same rfl) (.cons (.same rfl) .nil)))) .nil) rfl rfl trivial) ⟨rfl, rfl, trivial⟩ trivial ⟨_, rfl, .inl ⟨_, rfl, (by rw [hb7]; rfl)⟩⟩ rfl ?_
   refine Dp10 (LT.fieldPl rfl fo29_0) rfl ⟨_, rfl, .inl ⟨_, rfl, (by rw [hb7]; rfl)⟩⟩ rfl ?_
   refine Dp11 (LT.bloadN (out := [(iC f.Graph.Points), (xF encTBar f.Graph.Bars)]) rfl ag26 (infS inf26) sz26 (by exact rfl) (by exact rfl)) rfl rfl ⟨_, rfl, .inl ⟨_, rfl, (by rw [hb7]; rfl)⟩⟩ rfl ?_
   refine AOD.bind fun r9 hr9 => ?_
   refine AOD.pure (@LT.callF Try.prog _ _ 139 _ _ [(.agg [(iC f.Graph.Points), (xF encTBar f.Graph.Bars)]), (.c (iC 2)), (.c (iC 3))] _ _ [] _ _ _ _ (w_spec_RankOf f.Graph 2 3 r9 hr9) rfl cb139 (.cons (.agg (.cons (.same rfl) (.cons (.same rfl) .nil))) (.cons (.c (.same rfl)) (.cons (.c (.same rfl)) .nil))) rfl rfl trivial) ⟨rfl, rfl, ⟨rfl, rfl⟩, ⟨rfl, rfl⟩, trivial⟩ trivial ⟨_, rfl, .inl ⟨_, rfl, (by rw [hb7]; rfl)⟩⟩ rfl ?_
   refine Dp20 (LT.eql rfl) rfl rfl ⟨_, rfl, .inl ⟨_, rfl, (by rw [hb7]; rfl)⟩⟩ rfl ?_
   refine Dp20 (LT.pickT (v := (Bv (r8 == r9))) rfl hb7) rfl rfl rfl rfl ?_
   refine Dp10 (LT.assign (v := (Bv (r8 == r9))) rfl) rfl rfl rfl ?_
   refine AOD.nil (by kernel_rfl) ?_
   refine AWR.nil ⟨rfl, Ent.of ⟨rfl, trivial⟩ trivial⟩
  ·refine AOD.skip ⟨_, rfl, .inl ⟨_, rfl, (by rw [hb7]; rfl)⟩⟩ rfl ?_
   refine AOD.skip ⟨_, rfl, .inl ⟨_, rfl, (by rw [hb7]; rfl)⟩⟩ rfl ?_
   refine AOD.skip ⟨_, rfl, .inl ⟨_, rfl, (by rw [hb7]; rfl)⟩⟩ rfl ?_
   refine AOD.skip ⟨_, rfl, .inl ⟨_, rfl, (by rw [hb7]; rfl)⟩⟩ rfl ?_
   refine AOD.skip ⟨_, rfl, .inl ⟨_, rfl, (by rw [hb7]; rfl)⟩⟩ rfl ?_
   refine AOD.skip ⟨_, rfl, .inl ⟨_, rfl, (by rw [hb7]; rfl)⟩⟩ rfl ?_
   refine Dp20 (LT.pickF (v := (Bv false)) rfl hb7) rfl ⟨rfl, rfl⟩ rfl rfl ?_
   refine Dp10 (LT.assign (v := (Bv false)) rfl) rfl rfl rfl ?_
   refine AOD.nil (by kernel_rfl) ?_
   refine AWR.nil ⟨rfl, Ent.of ⟨rfl, trivial⟩ trivial⟩
 ·refine AWR.ret (FPost.mk (.inr rfl) ⟨rfl, trivial⟩ trivial rfl ⟨PermP.sc, trivial⟩ trivial)
theorem w_impl_RankOf (g : TGraph) (k : Int) (l : Int) : ∀ t, m_impl_RankOf g k l = some t → Fw.Fn Try.prog 138 [(.agg [(iC g.Points), (xF encTBar g.Bars)]), (.c (iC k)), (.c (iC l))] [] (.s (.c (iC t))) [] [] [] := by
 refine Fw.Fn.of (P := Try.prog) (X := []) (pn := []) (rs := (fun (t : Int) => [(.c (iC t))])) (dfs := (fun (t : Int) => [])) Try.func138 rfl Try.ntmps138 (Nat.le_of_ble_eq_true rfl) rfl ?_
 intro w0 U0 R0 g0
 unfold m_impl_RankOf
 refine Ws (Wr ?_)
 refine Os10 (LT.box (n := 21) (v := (.agg [(iC g.Points), (xF encTBar g.Bars)])) rfl sz26 (by exact rfl)) rfl rfl rfl ?_
 refine asg (Iv 0) rfl ⟨rfl, rfl⟩ rfl rfl ?_
 refine On (Ws (Wr ?_))
 refine Op11 (LT.bloadN (out := [(iC g.Points), (xF encTBar g.Bars)]) rfl ag26 (infS inf26) sz26 (by exact rfl) (by exact rfl)) rfl rfl rfl rfl ?_
 refine mv (Iv k) rfl rfl rfl rfl ?_
 refine mv (Iv l) rfl rfl rfl rfl ?_
 refine Ob' fun r1 hr1 => ?_
 refine AOR.step (@LT.callF Try.prog _ _ 215 _ _ [(.agg [(iC g.Points), (xF encTBar g.Bars)]), (.c (iC k)), (.c (iC l))] _ _ [] _ _ _ _ ((show Fw.Fn Try.prog 215 [(.agg [(iC g.Points), (xF encTBar g.Bars)]), (.c (iC k)), (.c (iC l))] [] (.tup [(.agg [(lo 23 r1.1.Free.length), (lo 24 r1.1.Tails.length), (lo 25 r1.1.Placed.length)]), (.c (bC r1.2))]) [(23, (pR 3 encInt r1.1.Free)), (24, (pR 3 encInt r1.1.Tails)), (25, (pR 3 encInt r1.1.Placed))] [] [23, 24, 25] from Fw.Fn.ren [(0, 23), (1, 24), (2, 25)] (w_impl_RunPebbles g k l r1 hr1) rfl)) rfl cb215 (.cons (.agg (.cons (.same rfl) (.cons (.same rfl) .nil))) (.cons (.c (.same rfl)) (.cons (.c (.same rfl)) .nil))) rfl rfl trivial) ⟨rfl, rfl, rfl, rfl, trivial⟩ trivial rfl rfl ?_
 refine mv (.tup [(.agg [(lo 23 r1.1.Free.length), (lo 24 r1.1.Tails.length), (lo 25 r1.1.Placed.length)]), (.c (bC r1.2))]) rfl rfl rfl rfl ?_
 refine Op10 (LT.extract (v := (.agg [(lo 23 r1.1.Free.length), (lo 24 r1.1.Tails.length), (lo 25 r1.1.Placed.length)])) rfl (by exact rfl)) rfl rfl rfl ?_
 refine Op10 (LT.extract (v := (.c (bC r1.2))) rfl (by exact rfl)) rfl rfl rfl ?_
 refine Os00 (LT.alloc (n := 26) (cells := [(sC nilV), (sC nilV), (sC nilV)]) rfl ti165 rfl rfl rfl) rfl rfl ?_
 refine Os21 (LT.bstore (v := (.agg [(lo 23 r1.1.Free.length), (lo 24 r1.1.Tails.length), (lo 25 r1.1.Placed.length)])) (out := [(lo 23 r1.1.Free.length), (lo 24 r1.1.Tails.length), (lo 25 r1.1.Placed.length)]) rfl rfl (infS inf165) sz165 (by exact rfl) (by exact Nat.le_of_ble_eq_true rfl) (by exact rfl)) rfl rfl rfl rfl rfl ?_
 refine asg (Bv r1.2) rfl rfl rfl rfl ?_
 refine On (Ws (Ws ?_))
 refine en [(7, (Cc (.pl 26 0))), (8, (Bv r1.2))] [(23, (pR 3 encInt r1.1.Free)), (24, (pR 3 encInt r1.1.Tails)), (25, (pR 3 encInt r1.1.Placed)), (26, (.row 165 [[(lo 23 r1.1.Free.length), (lo 24 r1.1.Tails.length), (lo 25 r1.1.Placed.length)]]))] ⟨rfl, rfl, trivial⟩ ⟨rfl, rfl, rfl, rfl, trivial⟩ ?_
 refine Wr ?_
 refine mv (Bv r1.2) rfl rfl rfl rfl ?_
 refine Op10 (LT.not rfl) rfl rfl rfl ?_
 refine On ?_
 refine AWR.cond rfl (fun hc2 => ?_) (fun hc2 => ?_)
 ·refine Ws (Wr ?_)
  refine asg (Iv (-1)) rfl ⟨rfl, rfl⟩ rfl rfl ?_
  refine On ?_
  refine AWR.ret (FPost.mk (.inr rfl) ⟨rfl, trivial⟩ trivial rfl ⟨PermP.sc, trivial⟩ trivial)
 ·refine AWR.skip (Ws (Wr ?_))
  refine Op10 (LT.fieldPl rfl fo165_2) rfl rfl rfl ?_
  refine Op11 (LT.bload1 (c := (lo 25 r1.1.Placed.length)) rfl ag37 (by exact rfl)) rfl rfl rfl rfl ?_
  refine Op10 (LT.lenLoc rfl und37) rfl rfl rfl ?_
  refine asg (Iv (r1.1.Placed.length : Int)) rfl rfl rfl rfl ?_
  refine On ?_
  refine AWR.ret (FPost.mk (.inr rfl) ⟨rfl, trivial⟩ trivial rfl ⟨PermP.sc, trivial⟩ trivial)
theorem w_impl_IsGenericHere (f : TFramework) : ∀ t, m_impl_IsGenericHere f = some t → Fw.Fn Try.prog 50 [(.agg [(iC f.Graph.Points), (xF encTBar f.Graph.Bars), (xF encTPlace f.Places)])] [] (.s (.c (bC t))) [] [] [] := by
 refine Fw.Fn.of (P := Try.prog) (X := []) (pn := []) (rs := (fun (t : Bool) => [(.c (bC t))])) (dfs := (fun (t : Bool) => [])) Try.func50 rfl Try.ntmps50 (Nat.le_of_ble_eq_true rfl) rfl ?_
 intro w0 U0 R0 g0
 unfold m_impl_IsGenericHere
 refine Ws (Wr ?_)
 refine Os10 (LT.box (n := 21) (v := (.agg [(iC f.Graph.Points), (xF encTBar f.Graph.Bars), (xF encTPlace f.Places)])) rfl sz29 (by exact rfl)) rfl rfl rfl ?_
 refine asg (Bv false) rfl ⟨rfl, rfl⟩ rfl rfl ?_
 refine On (Ws ?_)
 refine AWR.joinK (fun j5 => ([(2, (Bv j5))], [])) ?_ (fun j5 _ => ?_)
 ·refine AWR.draw mixed ?_
  refine Dp11 (LT.bloadN (out := [(iC f.Graph.Points), (xF encTBar f.Graph.Bars), (xF encTPlace f.Places)]) rfl ag29 (infS inf29) sz29 (by exact rfl) (by exact rfl)) rfl rfl rfl rfl ?_
  refine AOD.bind fun r6 hr6 => ?_
  refine AOD.pure (@LT.callF Try.prog _ _ 80 _ _ [(.agg [(iC f.Graph.Points), (xF encTBar f.Graph.Bars), (xF encTPlace f.Places)])] _ _ [] _ _ _ _ (w_impl_IsFramework f r6 hr6) rfl cb80 (.cons (.agg (.cons (.same rfl) (.cons (.same rfl) (.cons (.same rfl) .nil)))) .nil) rfl rfl trivial) ⟨rfl, rfl, trivial⟩ trivial rfl rfl ?_
  refine Dp10 (LT.move (v := (Bv r6)) rfl) rfl rfl rfl ?_
  refine AOD.split (fun hb7 => ?_) (fun hb7 => ?_)
  ·refine Dp11 (LT.bloadN (out := [(iC f.Graph.Points), (xF encTBar f.Graph.Bars), (xF encTPlace f.Places)]) rfl ag29 (infS inf29) sz29 (by exact rfl) (by exact rfl)) rfl rfl ⟨_, rfl, .inl ⟨_, rfl, (by rw [hb7]; rfl)⟩⟩ rfl ?_
   refine AOD.bind fun r8 hr8 => ?_
   refine AOD.pure (@LT.callF Try.prog _ _ 57 _ _ [(.agg [(iC f.Graph.Points), (xF encTBar f.Graph.Bars), (xF encTPlace f.Places)])] _ _ [] _ _ _ _ (w_impl_FrameworkRank f r8 hr8) rfl cb57 (.cons (.agg (.cons (.same rfl) (.cons (.same rfl) (.cons (.same rfl) .nil)))) .nil) rfl rfl trivial) ⟨rfl, rfl, trivial⟩ trivial ⟨_, rfl, .inl ⟨_, rfl, (by rw [hb7]; rfl)⟩⟩ rfl ?_
   refine Dp10 (LT.fieldPl rfl fo29_0) rfl ⟨_, rfl, .inl ⟨_, rfl, (by rw [hb7]; rfl)⟩⟩ rfl ?_
   refine Dp11 (LT.bloadN (out := [(iC f.Graph.Points), (xF encTBar f.Graph.Bars)]) rfl ag26 (infS inf26) sz26 (by exact rfl) (by exact rfl)) rfl rfl ⟨_, rfl, .inl ⟨_, rfl, (by rw [hb7]; rfl)⟩⟩ rfl ?_
   refine AOD.bind fun r9 hr9 => ?_
   refine AOD.pure (@LT.callF Try.prog _ _ 138 _ _ [(.agg [(iC f.Graph.Points), (xF encTBar f.Graph.Bars)]), (.c (iC 2)), (.c (iC 3))] _ _ [] _ _ _ _ (w_impl_RankOf f.Graph 2 3 r9 hr9) rfl cb138 (.cons (.agg (.cons (.same rfl) (.cons (.same rfl) .nil))) (.cons (.c (.same rfl)) (.cons (.c (.same rfl)) .nil))) rfl rfl trivial) ⟨rfl, rfl, ⟨rfl, rfl⟩, ⟨rfl, rfl⟩, trivial⟩ trivial ⟨_, rfl, .inl ⟨_, rfl, (by rw [hb7]; rfl)⟩⟩ rfl ?_
   refine Dp20 (LT.eql rfl) rfl rfl ⟨_, rfl, .inl ⟨_, rfl, (by rw [hb7]; rfl)⟩⟩ rfl ?_
   refine Dp20 (LT.pickT (v := (Bv (r8 == r9))) rfl hb7) rfl rfl rfl rfl ?_
   refine Dp10 (LT.assign (v := (Bv (r8 == r9))) rfl) rfl rfl rfl ?_
   refine AOD.nil (by kernel_rfl) ?_
   refine AWR.nil ⟨rfl, Ent.of ⟨rfl, trivial⟩ trivial⟩
  ·refine AOD.skip ⟨_, rfl, .inl ⟨_, rfl, (by rw [hb7]; rfl)⟩⟩ rfl ?_
   refine AOD.skip ⟨_, rfl, .inl ⟨_, rfl, (by rw [hb7]; rfl)⟩⟩ rfl ?_
   refine AOD.skip ⟨_, rfl, .inl ⟨_, rfl, (by rw [hb7]; rfl)⟩⟩ rfl ?_
   refine AOD.skip ⟨_, rfl, .inl ⟨_, rfl, (by rw [hb7]; rfl)⟩⟩ rfl ?_
   refine AOD.skip ⟨_, rfl, .inl ⟨_, rfl, (by rw [hb7]; rfl)⟩⟩ rfl ?_
   refine AOD.skip ⟨_, rfl, .inl ⟨_, rfl, (by rw [hb7]; rfl)⟩⟩ rfl ?_
   refine Dp20 (LT.pickF (v := (Bv false)) rfl hb7) rfl ⟨rfl, rfl⟩ rfl rfl ?_
   refine Dp10 (LT.assign (v := (Bv false)) rfl) rfl rfl rfl ?_
   refine AOD.nil (by kernel_rfl) ?_
   refine AWR.nil ⟨rfl, Ent.of ⟨rfl, trivial⟩ trivial⟩
 ·refine AWR.ret (FPost.mk (.inr rfl) ⟨rfl, trivial⟩ trivial rfl ⟨PermP.sc, trivial⟩ trivial)
end Go.Proofs.Ytghofbijdnenoaa
end
section
set_option linter.unusedVariables false
set_option linter.unusedSimpArgs false
set_option linter.unnecessarySimpa false
set_option maxRecDepth 100000
set_option maxHeartbeats 8000000
open Go Go.Fw
namespace Go.Proofs.Ytghofbijdnenoaa
theorem w_spec_NextSeed (seed : Int) : ∀ t, m_spec_NextSeed seed = some t → Fw.Fn Try.prog 126 [(.c (iC seed))] [] (.s (.c (iC t))) [] [] [] := by
 refine Fw.Fn.of (P := Try.prog) (X := []) (pn := []) (rs := (fun (t : Int) => [(.c (iC t))])) (dfs := (fun (t : Int) => [])) Try.func126 rfl Try.ntmps126 (Nat.le_of_ble_eq_true rfl) rfl ?_
 intro w0 U0 R0 g0
 unfold m_spec_NextSeed
 refine Ws (Wr ?_)
 refine asg (Iv 0) rfl ⟨rfl, rfl⟩ rfl rfl ?_
 refine On (Ws (Ws (Wr ?_)))
 refine mv (Iv seed) rfl rfl rfl rfl ?_
 refine Ob' fun r1 hr1 => ?_
 refine AOR.pure (@LT.callF Try.prog _ _ 110 _ _ [(.c (iC seed)), (.c (iC 0)), (.c (iC 65535))] _ _ [] _ _ _ _ (w_spec_l1In seed 0 65535 r1 hr1) rfl cb110 (.cons (.c (.same rfl)) (.cons (.c (.same rfl)) (.cons (.c (.same rfl)) .nil))) rfl rfl trivial) ⟨rfl, rfl, ⟨rfl, rfl⟩, ⟨rfl, rfl⟩, trivial⟩ trivial rfl rfl ?_
 refine Op10 (LT.not rfl) rfl rfl rfl ?_
 refine On ?_
 refine AWR.cond rfl (fun hc2 => ?_) (fun hc2 => ?_)
 ·refine Ws (Wr ?_)
  refine asg (Iv 0) rfl ⟨rfl, rfl⟩ rfl rfl ?_
  refine On ?_
  refine AWR.ret (FPost.mk (.inr rfl) ⟨rfl, trivial⟩ trivial rfl ⟨PermP.sc, trivial⟩ trivial)
 ·refine AWR.skip (Ws (Wr ?_))
  refine mv (Iv seed) rfl rfl rfl rfl ?_
  refine Op20 (LT.mul rfl) rfl ⟨rfl, rfl⟩ rfl rfl ?_
  refine Op20 (LT.add rfl) rfl ⟨rfl, rfl⟩ rfl rfl ?_
  refine Op20 (LT.rem rfl (by decide)) rfl ⟨rfl, rfl⟩ rfl rfl ?_
  refine asg (Iv (Int.tmod (w64 ((w64 (seed * 25173)) + 13849)) 65536)) rfl rfl rfl rfl ?_
  refine On ?_
  refine AWR.ret (FPost.mk (.inr rfl) ⟨rfl, trivial⟩ trivial rfl ⟨PermP.sc, trivial⟩ trivial)
theorem w_spec_PlacesFor (g : TGraph) (seed : Int) : ∀ t, m_spec_PlacesFor g seed = some t → Fw.Fn Try.prog 125 [(.agg [(iC g.Points), (xF encTBar g.Bars)]), (.c (iC seed))] [] (resA [(.agg [(iC t.1.Graph.Points), (lo 0 t.1.Graph.Bars.length), (lo 1 t.1.Places.length)]), (.c (bC t.2))]) [(0, (pR 62 encTBar t.1.Graph.Bars)), (1, (pR 94 encTPlace t.1.Places))] [] [0, 1] := by
 refine Fw.Fn.of (P := Try.prog) (X := [0, 1]) (pn := []) (rs := (fun (t : (TFramework × Bool)) => [(.agg [(iC t.1.Graph.Points), (lo 0 t.1.Graph.Bars.length), (lo 1 t.1.Places.length)]), (.c (bC t.2))])) (dfs := (fun (t : (TFramework × Bool)) => [(0, (pR 62 encTBar t.1.Graph.Bars)), (1, (pR 94 encTPlace t.1.Places))])) Try.func125 rfl Try.ntmps125 (Nat.le_of_ble_eq_true rfl) rfl ?_
 intro w0 U0 R0 g0
 unfold m_spec_PlacesFor
 refine Ws (Wr ?_)
 refine Os10 (LT.box (n := 21) (v := (.agg [(iC g.Points), (xF encTBar g.Bars)])) rfl sz26 (by exact rfl)) rfl rfl rfl ?_
 refine Os00 (LT.alloc (n := 22) (cells := [(iC 0), (sC nilV), (sC nilV)]) rfl ti29 rfl rfl rfl) rfl rfl ?_
 refine asg (Bv false) rfl ⟨rfl, rfl⟩ rfl rfl ?_
 refine On (Ws (Wr ?_))
 refine Op11 (LT.bloadN (out := [(iC g.Points), (xF encTBar g.Bars)]) rfl ag26 (infS inf26) sz26 (by exact rfl) (by exact rfl)) rfl rfl rfl rfl ?_
 refine Ob' fun r1 hr1 => ?_
 refine AOR.step (@LT.callF Try.prog _ _ 141 _ _ [(.agg [(iC g.Points), (xF encTBar g.Bars)])] _ _ [] _ _ _ _ ((show Fw.Fn Try.prog 141 [(.agg [(iC g.Points), (xF encTBar g.Bars)])] [] (Ag  [(iC r1.Points), (lo 24 r1.Bars.length)]) [(24, (pR 62 encTBar r1.Bars))] [] [24] from Fw.Fn.ren [(0, 24)] (w_spec_l2Copy g r1 hr1) rfl)) rfl cb141 (.cons (.agg (.cons (.same rfl) (.cons (.same rfl) .nil))) .nil) rfl rfl trivial) ⟨rfl, rfl, trivial⟩ trivial rfl rfl ?_
 refine Os00 (LT.tbuildSlice (n := 25) (enc := encTPlace) [] ([] : List TPlace) rfl rfl und27 ti94 rfl rfl rfl rfl (by decide) (fun _ => rfl) rfl) rfl rfl ?_
 refine Op20 (LT.build [(0, .tmp 10, (.agg [(iC r1.Points), (lo 24 r1.Bars.length)])), (1, .tmp 11, (.c (lo 25 (([] : List TPlace).length))))] rfl rfl pl29 ti29 rfl rfl rfl) rfl rfl rfl rfl ?_
 refine Os00 (LT.alloc (n := 26) (cells := [(iC 0), (sC nilV), (sC nilV)]) rfl ti29 rfl rfl rfl) rfl rfl ?_
 refine Os21 (LT.bstore (v := (.agg [(iC r1.Points), (lo 24 r1.Bars.length), (lo 25 (([] : List TPlace).length))])) (out := [(iC r1.Points), (lo 24 r1.Bars.length), (lo 25 (([] : List TPlace).length))]) rfl rfl (infS inf29) sz29 (by exact rfl) (by exact Nat.le_of_ble_eq_true rfl) (by exact rfl)) rfl rfl rfl rfl rfl ?_
 refine On (Ws (Ws ?_))
 refine AWR.joinK (fun j5 => ([(1, (Iv seed)), (2, (Cc (.pl 21 0))), (4, (Cc (.pl 22 0))), (6, (Cc (.pl 26 0))), (20, (Bv j5))], [(21, (.row 26 [[(iC g.Points), (xF encTBar g.Bars)]])), (22, (.row 29 [[(iC 0), (sC nilV), (sC nilV)]])), (24, (pR 62 encTBar r1.Bars)), (25, (pR 94 encTPlace ([] : List TPlace))), (26, (.row 29 [[(iC r1.Points), (lo 24 r1.Bars.length), (lo 25 (([] : List TPlace).length))]]))])) ?_ (fun j5 _ => ?_)
 ·refine en [(1, (Iv seed)), (2, (Cc (.pl 21 0))), (4, (Cc (.pl 22 0))), (6, (Cc (.pl 26 0)))] [(21, (.row 26 [[(iC g.Points), (xF encTBar g.Bars)]])), (22, (.row 29 [[(iC 0), (sC nilV), (sC nilV)]])), (24, (pR 62 encTBar r1.Bars)), (25, (pR 94 encTPlace ([] : List TPlace))), (26, (.row 29 [[(iC r1.Points), (lo 24 r1.Bars.length), (lo 25 (([] : List TPlace).length))]]))] ⟨rfl, rfl, rfl, rfl, trivial⟩ ⟨rfl, rfl, rfl, rfl, rfl, trivial⟩ ?_
  refine Wr ?_
  refine Op11 (LT.bloadN (out := [(iC g.Points), (xF encTBar g.Bars)]) rfl ag26 (infS inf26) sz26 (by exact rfl) (by exact rfl)) rfl rfl rfl rfl ?_
  refine Ob' fun r6 hr6 => ?_
  refine AOR.pure (@LT.callF Try.prog _ _ 109 _ _ [(.agg [(iC g.Points), (xF encTBar g.Bars)])] _ _ [] _ _ _ _ (w_spec_IsGraph g r6 hr6) rfl cb109 (.cons (.agg (.cons (.same rfl) (.cons (.same rfl) .nil))) .nil) rfl rfl trivial) ⟨rfl, rfl, trivial⟩ trivial rfl rfl ?_
  refine Op10 (LT.not rfl) rfl rfl rfl ?_
  refine mv (Bv (!r6)) rfl rfl rfl rfl ?_
  refine AOR.split (fun hb7 => ?_) (fun hb7 => ?_)
  ·refine Ok rfl rfl rfl (by rw [hb7]; rfl) rfl ?_
   refine Ok rfl rfl rfl (by rw [hb7]; rfl) rfl ?_
   refine Ok rfl rfl rfl (by rw [hb7]; rfl) rfl ?_
   refine Op20 (LT.pickT (v := (Bv true)) rfl hb7) rfl ⟨rfl, rfl⟩ rfl rfl ?_
   refine On ?_
   refine AWR.nil ⟨rfl, Ent.of ⟨rfl, rfl, rfl, rfl, rfl, trivial⟩ ⟨rfl, rfl, rfl, rfl, rfl, trivial⟩⟩
  ·refine mv (Iv seed) rfl rfl ⟨_, rfl, .inl ⟨_, rfl, (by rw [hb7]; rfl)⟩⟩ rfl ?_
   refine Ob' fun r8 hr8 => ?_
   refine AOR.pure (@LT.callF Try.prog _ _ 110 _ _ [(.c (iC seed)), (.c (iC 0)), (.c (iC 65535))] _ _ [] _ _ _ _ (w_spec_l1In seed 0 65535 r8 hr8) rfl cb110 (.cons (.c (.same rfl)) (.cons (.c (.same rfl)) (.cons (.c (.same rfl)) .nil))) rfl rfl trivial) ⟨rfl, rfl, ⟨rfl, rfl⟩, ⟨rfl, rfl⟩, trivial⟩ trivial ⟨_, rfl, .inl ⟨_, rfl, (by rw [hb7]; rfl)⟩⟩ rfl ?_
   refine Op10 (LT.not rfl) rfl ⟨_, rfl, .inl ⟨_, rfl, (by rw [hb7]; rfl)⟩⟩ rfl ?_
   refine Op20 (LT.pickF (v := (Bv (!r8))) rfl hb7) rfl rfl rfl rfl ?_
   refine On ?_
   refine AWR.nil ⟨rfl, Ent.of ⟨rfl, rfl, rfl, rfl, rfl, trivial⟩ ⟨rfl, rfl, rfl, rfl, rfl, trivial⟩⟩
 ·refine AWR.cond rfl (fun hc9 => ?_) (fun hc9 => ?_)
  ·refine Ws (Wr ?_)
   refine Op00 (LT.build [] rfl rfl pl29 ti29 rfl rfl rfl) rfl rfl ?_
   refine Os21 (LT.bstore (v := (.agg [(iC 0), (sC nilV), (sC nilV)])) (out := [(iC 0), (sC nilV), (sC nilV)]) rfl rfl (infS inf29) sz29 (by exact rfl) (by exact Nat.le_of_ble_eq_true rfl) (by exact rfl)) rfl rfl rfl rfl rfl ?_
   refine asg (Bv false) rfl ⟨rfl, rfl⟩ rfl rfl ?_
   refine On ?_
   refine AWR.ent (Ent.nilB 22 1 0 62 rfl rfl rfl rfl) ?_
   refine AWR.ent (Ent.nilB 22 2 1 94 rfl rfl rfl rfl) ?_
   refine en [(4, (Cc (.pl 22 0))), (5, (Bv false))] [(0, (pR 62 encTBar ([] : List TBar))), (1, (pR 94 encTPlace ([] : List TPlace))), (22, (.row 29 [[(iC 0), (lo 0 (([] : List TBar).length)), (lo 1 (([] : List TPlace).length))]]))] ⟨rfl, rfl, trivial⟩ ⟨rfl, rfl, rfl, trivial⟩ ?_
   refine AWR.ret (FPost.mk (.inr rfl) ⟨⟨_, _, _, rfl, rfl, rfl, ag29, sz29, _, (infS inf29)⟩, rfl, trivial⟩ ⟨rfl, rfl, trivial⟩ rfl ⟨⟨PermP.sc, trivial, trivial, trivial⟩, PermP.sc, trivial⟩ ⟨PermO.prow' perm_encTBar, PermO.prow' perm_encTPlace, trivial⟩)
  ·refine AWR.skip (Ws (Ws (Wr ?_)))
   refine asg (Iv 0) rfl ⟨rfl, rfl⟩ rfl rfl ?_
   refine On (AWR.block ?_)
   refine AWR.loop1 (id := 0) (m_spec_PlacesFor_L1 g r1) (fun s10 => ([(1, (Iv s10.1)), (2, (Cc (.pl 21 0))), (4, (Cc (.pl 22 0))), (6, (Cc (.pl 26 0))), (7, (Iv s10.2.1))], [(21, (.row 26 [[(iC g.Points), (xF encTBar g.Bars)]])), (22, (.row 29 [[(iC 0), (sC nilV), (sC nilV)]])), (24, (pR 62 encTBar r1.Bars)), (25, (pR 94 encTPlace s10.2.2)), (26, (.row 29 [[(iC r1.Points), (lo 24 r1.Bars.length), (lo 25 s10.2.2.length)]]))])) (fun b17 => ([(4, (Cc (.pl 22 0))), (6, (Cc (.pl 26 0)))], [(22, (.row 29 [[(iC 0), (sC nilV), (sC nilV)]])), (24, (pR 62 encTBar b17.1)), (25, (pR 94 encTPlace b17.2.1)), (26, (.row 29 [[(iC b17.2.2), (lo 24 b17.1.length), (lo 25 b17.2.1.length)]]))])) ?_ (Ent.of ⟨rfl, rfl, rfl, rfl, rfl, trivial⟩ ⟨rfl, rfl, rfl, rfl, rfl, trivial⟩) rfl (fun b17 _ => ?_)
   ·intro s10
    unfold m_spec_PlacesFor_L1
    refine Ws (Ws (Wr ?_))
    refine mv (Iv s10.2.1) rfl rfl rfl rfl ?_
    refine Op10 (LT.fieldPl rfl fo26_0) rfl rfl rfl ?_
    refine Op11 (LT.bload1 (c := (iC g.Points)) rfl ag3 (by exact rfl)) rfl rfl rfl rfl ?_
    refine Op20 (LT.lss rfl) rfl rfl rfl rfl ?_
    refine On ?_
    refine AWR.cond rfl (fun hc18 => ?_) (fun hc18 => ?_)
    ·refine AWR.skip (Ws (AWR.block (Ws (Wr ?_))))
     refine mv (Iv s10.1) rfl rfl rfl rfl ?_
     refine Ob' fun r19 hr19 => ?_
     refine AOR.pure (@LT.callF Try.prog _ _ 126 _ _ [(.c (iC s10.1))] _ _ [] _ _ _ _ (w_spec_NextSeed s10.1 r19 hr19) rfl cb126 (.cons (.c (.same rfl)) .nil) rfl rfl trivial) ⟨rfl, rfl, trivial⟩ trivial rfl rfl ?_
     refine asg (Iv r19) rfl rfl rfl rfl ?_
     refine On (Ws (Wr ?_))
     refine mv (Iv r19) rfl rfl rfl rfl ?_
     refine Op20 (LT.quo rfl (by decide)) rfl ⟨rfl, rfl⟩ rfl rfl ?_
     refine Op20 (LT.rem rfl (by decide)) rfl ⟨rfl, rfl⟩ rfl rfl ?_
     refine asg (Iv (Int.tmod (w64 (Int.tdiv r19 16)) 25)) rfl rfl rfl rfl ?_
     refine On ?_
     refine en [(1, (Iv r19)), (2, (Cc (.pl 21 0))), (4, (Cc (.pl 22 0))), (6, (Cc (.pl 26 0))), (7, (Iv s10.2.1)), (8, (Iv (Int.tmod (w64 (Int.tdiv r19 16)) 25)))] [(21, (.row 26 [[(iC g.Points), (xF encTBar g.Bars)]])), (22, (.row 29 [[(iC 0), (sC nilV), (sC nilV)]])), (24, (pR 62 encTBar r1.Bars)), (25, (pR 94 encTPlace s10.2.2)), (26, (.row 29 [[(iC r1.Points), (lo 24 r1.Bars.length), (lo 25 s10.2.2.length)]]))] ⟨rfl, rfl, rfl, rfl, rfl, rfl, trivial⟩ ⟨rfl, rfl, rfl, rfl, rfl, trivial⟩ ?_
     refine Wr ?_
     refine Op10 (LT.fieldPl rfl fo29_1) rfl rfl rfl ?_
     refine Op11 (LT.bload1 (c := (lo 25 s10.2.2.length)) rfl ag27 (by exact rfl)) rfl rfl rfl rfl ?_
     refine mv (Iv (Int.tmod (w64 (Int.tdiv r19 16)) 25)) rfl rfl rfl rfl ?_
     refine Op20 (LT.rem rfl (by decide)) rfl ⟨rfl, rfl⟩ rfl rfl ?_
     refine mv (Iv (Int.tmod (w64 (Int.tdiv r19 16)) 25)) rfl rfl rfl rfl ?_
     refine Op20 (LT.quo rfl (by decide)) rfl ⟨rfl, rfl⟩ rfl rfl ?_
     refine Op20 (LT.build [(0, .tmp 36, (.c (iC (Int.tmod (Int.tmod (w64 (Int.tdiv r19 16)) 25) 5)))), (1, .tmp 38, (.c (iC (w64 (Int.tdiv (Int.tmod (w64 (Int.tdiv r19 16)) 25) 5)))))] rfl rfl pl94 ti94 rfl rfl rfl) rfl rfl rfl rfl ?_
     refine Os10 (LT.tbuildSlice (n := 30) (enc := encTPlace) [(0, .tmp 39, (.agg [(iC (Int.tmod (Int.tmod (w64 (Int.tdiv r19 16)) 25) 5)), (iC (w64 (Int.tdiv (Int.tmod (w64 (Int.tdiv r19 16)) 25) 5)))]))] [(TPlace.mk (Int.tmod (Int.tmod (w64 (Int.tdiv r19 16)) 25) 5) (w64 (Int.tdiv (Int.tmod (w64 (Int.tdiv r19 16)) 25) 5)))] rfl rfl und27 ti94 rfl rfl rfl rfl (by decide) (fun _ => rfl) rfl) rfl rfl rfl ?_
     refine Ob' fun u20 hu20 => ?_
     refine Os22 (LT.tappP (enc := encTPlace) rfl rfl rfl und27 ti94 rfl (by decide) (by decide) (fun _ => rfl) (lim_le hu20)) rfl rfl rfl rfl rfl rfl ?_
     refine Op10 (LT.fieldPl rfl fo29_1) rfl rfl rfl ?_
     refine Os21 (LT.bstore (v := (.c (lo 25 ((s10.2.2 ++ [(TPlace.mk (Int.tmod (Int.tmod (w64 (Int.tdiv r19 16)) 25) 5) (w64 (Int.tdiv (Int.tmod (w64 (Int.tdiv r19 16)) 25) 5)))]).length)))) (out := [(iC r1.Points), (lo 24 r1.Bars.length), (lo 25 ((s10.2.2 ++ [(TPlace.mk (Int.tmod (Int.tmod (w64 (Int.tdiv r19 16)) 25) 5) (w64 (Int.tdiv (Int.tmod (w64 (Int.tdiv r19 16)) 25) 5)))]).length))]) rfl rfl (infS inf27) sz27 (by exact rfl) (by exact Nat.le_of_ble_eq_true rfl) (by exact rfl)) rfl rfl rfl rfl rfl ?_
     refine On (AWR.blk ?_)
     refine en [(1, (Iv r19)), (2, (Cc (.pl 21 0))), (4, (Cc (.pl 22 0))), (6, (Cc (.pl 26 0))), (7, (Iv s10.2.1))] [(21, (.row 26 [[(iC g.Points), (xF encTBar g.Bars)]])), (22, (.row 29 [[(iC 0), (sC nilV), (sC nilV)]])), (24, (pR 62 encTBar r1.Bars)), (25, (pR 94 encTPlace (s10.2.2 ++ [(TPlace.mk (Int.tmod (Int.tmod (w64 (Int.tdiv r19 16)) 25) 5) (w64 (Int.tdiv (Int.tmod (w64 (Int.tdiv r19 16)) 25) 5)))]))), (26, (.row 29 [[(iC r1.Points), (lo 24 r1.Bars.length), (lo 25 ((s10.2.2 ++ [(TPlace.mk (Int.tmod (Int.tmod (w64 (Int.tdiv r19 16)) 25) 5) (w64 (Int.tdiv (Int.tmod (w64 (Int.tdiv r19 16)) 25) 5)))]).length))]]))] ⟨rfl, rfl, rfl, rfl, rfl, trivial⟩ ⟨rfl, rfl, rfl, rfl, rfl, trivial⟩ ?_
     refine Wr ?_
     refine mv (Iv s10.2.1) rfl rfl rfl rfl ?_
     refine Op20 (LT.add rfl) rfl ⟨rfl, rfl⟩ rfl rfl ?_
     refine asg (Iv (w64 (s10.2.1 + 1))) rfl rfl rfl rfl ?_
     refine On ?_
     refine AWR.nil ⟨rfl, Ent.of ⟨rfl, rfl, rfl, rfl, rfl, trivial⟩ ⟨rfl, rfl, rfl, rfl, rfl, trivial⟩⟩
    ·refine AWR.exit_end rfl ⟨rfl, Ent.of ⟨rfl, rfl, trivial⟩ ⟨rfl, rfl, rfl, rfl, trivial⟩⟩
   ·refine Ws (Ws (Wr ?_))
    refine Op11 (LT.bloadN (out := [(iC b17.2.2), (lo 24 b17.1.length), (lo 25 b17.2.1.length)]) rfl ag29 (infS inf29) sz29 (by exact rfl) (by exact rfl)) rfl rfl rfl rfl ?_
    refine Ob' fun r21 hr21 => ?_
    refine AOR.pure (@LT.callF Try.prog _ _ 15 _ _ [(.agg [(iC b17.2.2), (lo 24 b17.1.length), (lo 25 b17.2.1.length)])] _ _ [(24, (pR 62 encTBar b17.1)), (25, (pR 94 encTPlace b17.2.1))] _ _ _ _ (w_spec_IsFramework (TFramework.mk (TGraph.mk b17.2.2 b17.1) b17.2.1) r21 hr21) rfl cb15 (.cons (.agg (.cons (.same rfl) (.cons (.tloc rfl rfl) (.cons (.tloc rfl rfl) .nil)))) .nil) rfl rfl trivial) ⟨rfl, rfl, trivial⟩ ⟨rfl, rfl, trivial⟩ rfl rfl ?_
    refine Op10 (LT.not rfl) rfl rfl rfl ?_
    refine On ?_
    refine AWR.cond rfl (fun hc22 => ?_) (fun hc22 => ?_)
    ·refine Ws (Wr ?_)
     refine Op00 (LT.build [] rfl rfl pl29 ti29 rfl rfl rfl) rfl rfl ?_
     refine Os21 (LT.bstore (v := (.agg [(iC 0), (sC nilV), (sC nilV)])) (out := [(iC 0), (sC nilV), (sC nilV)]) rfl rfl (infS inf29) sz29 (by exact rfl) (by exact Nat.le_of_ble_eq_true rfl) (by exact rfl)) rfl rfl rfl rfl rfl ?_
     refine asg (Bv false) rfl ⟨rfl, rfl⟩ rfl rfl ?_
     refine On ?_
     refine AWR.ent (Ent.nilB 22 1 0 62 rfl rfl rfl rfl) ?_
     refine AWR.ent (Ent.nilB 22 2 1 94 rfl rfl rfl rfl) ?_
     refine en [(4, (Cc (.pl 22 0))), (5, (Bv false))] [(0, (pR 62 encTBar ([] : List TBar))), (1, (pR 94 encTPlace ([] : List TPlace))), (22, (.row 29 [[(iC 0), (lo 0 (([] : List TBar).length)), (lo 1 (([] : List TPlace).length))]]))] ⟨rfl, rfl, trivial⟩ ⟨rfl, rfl, rfl, trivial⟩ ?_
     refine AWR.ret (FPost.mk (.inr rfl) ⟨⟨_, _, _, rfl, rfl, rfl, ag29, sz29, _, (infS inf29)⟩, rfl, trivial⟩ ⟨rfl, rfl, trivial⟩ rfl ⟨⟨PermP.sc, trivial, trivial, trivial⟩, PermP.sc, trivial⟩ ⟨PermO.prow' perm_encTBar, PermO.prow' perm_encTPlace, trivial⟩)
    ·refine AWR.skip (Ws (Wr ?_))
     refine Op11 (LT.bloadN (out := [(iC b17.2.2), (lo 24 b17.1.length), (lo 25 b17.2.1.length)]) rfl ag29 (infS inf29) sz29 (by exact rfl) (by exact rfl)) rfl rfl rfl rfl ?_
     refine Os21 (LT.bstore (v := (.agg [(iC b17.2.2), (lo 24 b17.1.length), (lo 25 b17.2.1.length)])) (out := [(iC b17.2.2), (lo 24 b17.1.length), (lo 25 b17.2.1.length)]) rfl rfl (infS inf29) sz29 (by exact rfl) (by exact Nat.le_of_ble_eq_true rfl) (by exact rfl)) rfl rfl rfl rfl rfl ?_
     refine asg (Bv true) rfl ⟨rfl, rfl⟩ rfl rfl ?_
     refine On ?_
     refine en [(4, (Cc (.pl 22 0))), (5, (Bv true))] [(22, (.row 29 [[(iC b17.2.2), (lo 24 b17.1.length), (lo 25 b17.2.1.length)]])), (24, (pR 62 encTBar b17.1)), (25, (pR 94 encTPlace b17.2.1))] ⟨rfl, rfl, trivial⟩ ⟨rfl, rfl, rfl, trivial⟩ ?_
     refine AWR.ent (Ent.mv 24 0 rfl rfl) ?_
     refine AWR.ent (Ent.mv 25 1 rfl rfl) ?_
     refine en [(4, (Cc (.pl 22 0))), (5, (Bv true))] [(0, (pR 62 encTBar b17.1)), (1, (pR 94 encTPlace b17.2.1)), (22, (.row 29 [[(iC b17.2.2), (lo 0 b17.1.length), (lo 1 b17.2.1.length)]]))] ⟨rfl, rfl, trivial⟩ ⟨rfl, rfl, rfl, trivial⟩ ?_
     refine AWR.ret (FPost.mk (.inr rfl) ⟨⟨_, _, _, rfl, rfl, rfl, ag29, sz29, _, (infS inf29)⟩, rfl, trivial⟩ ⟨rfl, rfl, trivial⟩ rfl ⟨⟨PermP.sc, trivial, trivial, trivial⟩, PermP.sc, trivial⟩ ⟨PermO.prow' perm_encTBar, PermO.prow' perm_encTPlace, trivial⟩)
theorem w_spec_GenericPlaces (g : TGraph) (seed : Int) : ∀ t, m_spec_GenericPlaces g seed = some t → Fw.Fn Try.prog 34 [(.agg [(iC g.Points), (xF encTBar g.Bars)]), (.c (iC seed))] [] (resA [(.agg [(iC t.1.Graph.Points), (lo 0 t.1.Graph.Bars.length), (lo 1 t.1.Places.length)]), (.c (iC t.2.1)), (.c (bC t.2.2))]) [(0, (pR 62 encTBar t.1.Graph.Bars)), (1, (pR 94 encTPlace t.1.Places))] [] [0, 1] := by
 refine Fw.Fn.of (P := Try.prog) (X := [0, 1]) (pn := []) (rs := (fun (t : (TFramework × Int × Bool)) => [(.agg [(iC t.1.Graph.Points), (lo 0 t.1.Graph.Bars.length), (lo 1 t.1.Places.length)]), (.c (iC t.2.1)), (.c (bC t.2.2))])) (dfs := (fun (t : (TFramework × Int × Bool)) => [(0, (pR 62 encTBar t.1.Graph.Bars)), (1, (pR 94 encTPlace t.1.Places))])) Try.func34 rfl Try.ntmps34 (Nat.le_of_ble_eq_true rfl) rfl ?_
 intro w0 U0 R0 g0
 unfold m_spec_GenericPlaces
 refine Ws (Wr ?_)
 refine Os10 (LT.box (n := 21) (v := (.agg [(iC g.Points), (xF encTBar g.Bars)])) rfl sz26 (by exact rfl)) rfl rfl rfl ?_
 refine Os00 (LT.alloc (n := 22) (cells := [(iC 0), (sC nilV), (sC nilV)]) rfl ti29 rfl rfl rfl) rfl rfl ?_
 refine asg (Iv 0) rfl ⟨rfl, rfl⟩ rfl rfl ?_
 refine asg (Bv false) rfl ⟨rfl, rfl⟩ rfl rfl ?_
 refine On (Ws (Ws (Wr ?_)))
 refine asg (Iv 1) rfl ⟨rfl, rfl⟩ rfl rfl ?_
 refine On (AWR.block ?_)
 refine AWR.loopR (id := 0) (m_spec_GenericPlaces_L1 g) (fun s1 => ([(1, (Iv s1.1)), (2, (Cc (.pl 21 0))), (4, (Cc (.pl 22 0))), (7, (Iv s1.2))], [(21, (.row 26 [[(iC g.Points), (xF encTBar g.Bars)]])), (22, (.row 29 [[(iC 0), (sC nilV), (sC nilV)]]))])) (fun b30 => ([(4, (Cc (.pl 22 0)))], [(22, (.row 29 [[(iC 0), (sC nilV), (sC nilV)]]))])) (FPost Try.prog Try.f34.results.toList [] [0, 1] (fun (t : (TFramework × Int × Bool)) => [(.agg [(iC t.1.Graph.Points), (lo 0 t.1.Graph.Bars.length), (lo 1 t.1.Places.length)]), (.c (iC t.2.1)), (.c (bC t.2.2))]) (fun (t : (TFramework × Int × Bool)) => [(0, (pR 62 encTBar t.1.Graph.Bars)), (1, (pR 94 encTPlace t.1.Places))])) ?_ (Ent.of ⟨rfl, rfl, rfl, rfl, trivial⟩ ⟨rfl, rfl, trivial⟩) rfl (fun b30 _ => ?_) (by intro r t σ m ht hk; injection ht with ht; subst ht; exact hk)
 ·intro s1
  unfold m_spec_GenericPlaces_L1
  refine Ws (Ws ?_)
  refine AWR.joinK (fun j33 => ([(1, (Iv s1.1)), (2, (Cc (.pl 21 0))), (4, (Cc (.pl 22 0))), (7, (Iv s1.2)), (15, (Bv j33))], [(21, (.row 26 [[(iC g.Points), (xF encTBar g.Bars)]])), (22, (.row 29 [[(iC 0), (sC nilV), (sC nilV)]]))])) ?_ (fun j33 _ => ?_)
  ·refine Wr ?_
   refine mv (Iv s1.2) rfl rfl rfl rfl ?_
   refine Op20 (LT.leq rfl) rfl ⟨rfl, rfl⟩ rfl rfl ?_
   refine mv (Bv (decide (s1.2 ≤ 20))) rfl rfl rfl rfl ?_
   refine AOR.split (fun hb34 => ?_) (fun hb34 => ?_)
   ·refine mv (Iv s1.1) rfl rfl ⟨_, rfl, .inl ⟨_, rfl, (by rw [hb34]; rfl)⟩⟩ rfl ?_
    refine Ob' fun r35 hr35 => ?_
    refine AOR.pure (@LT.callF Try.prog _ _ 110 _ _ [(.c (iC s1.1)), (.c (iC 0)), (.c (iC 65535))] _ _ [] _ _ _ _ (w_spec_l1In s1.1 0 65535 r35 hr35) rfl cb110 (.cons (.c (.same rfl)) (.cons (.c (.same rfl)) (.cons (.c (.same rfl)) .nil))) rfl rfl trivial) ⟨rfl, rfl, ⟨rfl, rfl⟩, ⟨rfl, rfl⟩, trivial⟩ trivial ⟨_, rfl, .inl ⟨_, rfl, (by rw [hb34]; rfl)⟩⟩ rfl ?_
    refine Op20 (LT.pickT (v := (Bv r35)) rfl hb34) rfl rfl rfl rfl ?_
    refine On ?_
    refine AWR.nil ⟨rfl, Ent.of ⟨rfl, rfl, rfl, rfl, rfl, trivial⟩ ⟨rfl, rfl, trivial⟩⟩
   ·refine Ok rfl rfl rfl (by rw [hb34]; rfl) rfl ?_
    refine Ok rfl rfl rfl (by rw [hb34]; rfl) rfl ?_
    refine Op20 (LT.pickF (v := (Bv false)) rfl hb34) rfl ⟨rfl, rfl⟩ rfl rfl ?_
    refine On ?_
    refine AWR.nil ⟨rfl, Ent.of ⟨rfl, rfl, rfl, rfl, rfl, trivial⟩ ⟨rfl, rfl, trivial⟩⟩
  ·refine AWR.cond rfl (fun hc36 => ?_) (fun hc36 => ?_)
   ·refine AWR.skip (Ws (AWR.block (Ws (Wr ?_))))
    refine Op11 (LT.bloadN (out := [(iC g.Points), (xF encTBar g.Bars)]) rfl ag26 (infS inf26) sz26 (by exact rfl) (by exact rfl)) rfl rfl rfl rfl ?_
    refine mv (Iv s1.1) rfl rfl rfl rfl ?_
    refine Ob' fun r37 hr37 => ?_
    refine AOR.step (@LT.callF Try.prog _ _ 125 _ _ [(.agg [(iC g.Points), (xF encTBar g.Bars)]), (.c (iC s1.1))] _ _ [] _ _ _ _ ((show Fw.Fn Try.prog 125 [(.agg [(iC g.Points), (xF encTBar g.Bars)]), (.c (iC s1.1))] [] (.tup [(.agg [(iC r37.1.Graph.Points), (lo 25 r37.1.Graph.Bars.length), (lo 26 r37.1.Places.length)]), (.c (bC r37.2))]) [(25, (pR 62 encTBar r37.1.Graph.Bars)), (26, (pR 94 encTPlace r37.1.Places))] [] [25, 26] from Fw.Fn.ren [(0, 25), (1, 26)] (w_spec_PlacesFor g s1.1 r37 hr37) rfl)) rfl cb125 (.cons (.agg (.cons (.same rfl) (.cons (.same rfl) .nil))) (.cons (.c (.same rfl)) .nil)) rfl rfl trivial) ⟨rfl, rfl, rfl, trivial⟩ trivial rfl rfl ?_
    refine mv (.tup [(.agg [(iC r37.1.Graph.Points), (lo 25 r37.1.Graph.Bars.length), (lo 26 r37.1.Places.length)]), (.c (bC r37.2))]) rfl rfl rfl rfl ?_
    refine Op10 (LT.extract (v := (.agg [(iC r37.1.Graph.Points), (lo 25 r37.1.Graph.Bars.length), (lo 26 r37.1.Places.length)])) rfl (by exact rfl)) rfl rfl rfl ?_
    refine Op10 (LT.extract (v := (.c (bC r37.2))) rfl (by exact rfl)) rfl rfl rfl ?_
    refine Os00 (LT.alloc (n := 27) (cells := [(iC 0), (sC nilV), (sC nilV)]) rfl ti29 rfl rfl rfl) rfl rfl ?_
    refine Os21 (LT.bstore (v := (.agg [(iC r37.1.Graph.Points), (lo 25 r37.1.Graph.Bars.length), (lo 26 r37.1.Places.length)])) (out := [(iC r37.1.Graph.Points), (lo 25 r37.1.Graph.Bars.length), (lo 26 r37.1.Places.length)]) rfl rfl (infS inf29) sz29 (by exact rfl) (by exact Nat.le_of_ble_eq_true rfl) (by exact rfl)) rfl rfl rfl rfl rfl ?_
    refine asg (Bv r37.2) rfl rfl rfl rfl ?_
    refine On (Ws (Ws ?_))
    refine AWR.joinK (fun j40 => ([(1, (Iv s1.1)), (2, (Cc (.pl 21 0))), (4, (Cc (.pl 22 0))), (7, (Iv s1.2)), (8, (Cc (.pl 27 0))), (28, (Bv j40))], [(21, (.row 26 [[(iC g.Points), (xF encTBar g.Bars)]])), (22, (.row 29 [[(iC 0), (sC nilV), (sC nilV)]])), (25, (pR 62 encTBar r37.1.Graph.Bars)), (26, (pR 94 encTPlace r37.1.Places)), (27, (.row 29 [[(iC r37.1.Graph.Points), (lo 25 r37.1.Graph.Bars.length), (lo 26 r37.1.Places.length)]]))])) ?_ (fun j40 _ => ?_)
    ·refine en [(1, (Iv s1.1)), (2, (Cc (.pl 21 0))), (4, (Cc (.pl 22 0))), (7, (Iv s1.2)), (8, (Cc (.pl 27 0))), (9, (Bv r37.2))] [(21, (.row 26 [[(iC g.Points), (xF encTBar g.Bars)]])), (22, (.row 29 [[(iC 0), (sC nilV), (sC nilV)]])), (25, (pR 62 encTBar r37.1.Graph.Bars)), (26, (pR 94 encTPlace r37.1.Places)), (27, (.row 29 [[(iC r37.1.Graph.Points), (lo 25 r37.1.Graph.Bars.length), (lo 26 r37.1.Places.length)]]))] ⟨rfl, rfl, rfl, rfl, rfl, rfl, trivial⟩ ⟨rfl, rfl, rfl, rfl, rfl, trivial⟩ ?_
     refine Wr ?_
     refine mv (Bv r37.2) rfl rfl rfl rfl ?_
     refine mv (Bv r37.2) rfl rfl rfl rfl ?_
     refine AOR.split (fun hb41 => ?_) (fun hb41 => ?_)
     ·refine Op11 (LT.bloadN (out := [(iC r37.1.Graph.Points), (lo 25 r37.1.Graph.Bars.length), (lo 26 r37.1.Places.length)]) rfl ag29 (infS inf29) sz29 (by exact rfl) (by exact rfl)) rfl rfl ⟨_, rfl, .inl ⟨_, rfl, (by rw [hb41]; rfl)⟩⟩ rfl ?_
      refine Ob' fun r42 hr42 => ?_
      refine AOR.pure (@LT.callF Try.prog _ _ 51 _ _ [(.agg [(iC r37.1.Graph.Points), (lo 25 r37.1.Graph.Bars.length), (lo 26 r37.1.Places.length)])] _ _ [(25, (pR 62 encTBar r37.1.Graph.Bars)), (26, (pR 94 encTPlace r37.1.Places))] _ _ _ _ (w_spec_IsGenericHere r37.1 r42 hr42) rfl cb51 (.cons (.agg (.cons (.same rfl) (.cons (.tloc rfl rfl) (.cons (.tloc rfl rfl) .nil)))) .nil) rfl rfl trivial) ⟨rfl, rfl, trivial⟩ ⟨rfl, rfl, trivial⟩ ⟨_, rfl, .inl ⟨_, rfl, (by rw [hb41]; rfl)⟩⟩ rfl ?_
      refine Op20 (LT.pickT (v := (Bv r42)) rfl hb41) rfl rfl rfl rfl ?_
      refine On ?_
      refine AWR.nil ⟨rfl, Ent.of ⟨rfl, rfl, rfl, rfl, rfl, rfl, trivial⟩ ⟨rfl, rfl, rfl, rfl, rfl, trivial⟩⟩
     ·refine Ok rfl rfl rfl (by rw [hb41]; rfl) rfl ?_
      refine Ok rfl rfl rfl (by rw [hb41]; rfl) rfl ?_
      refine Op20 (LT.pickF (v := (Bv false)) rfl hb41) rfl ⟨rfl, rfl⟩ rfl rfl ?_
      refine On ?_
      refine AWR.nil ⟨rfl, Ent.of ⟨rfl, rfl, rfl, rfl, rfl, rfl, trivial⟩ ⟨rfl, rfl, rfl, rfl, rfl, trivial⟩⟩
    ·refine AWR.cond rfl (fun hc43 => ?_) (fun hc43 => ?_)
     ·refine Ws (Wr ?_)
      refine Op11 (LT.bloadN (out := [(iC r37.1.Graph.Points), (lo 25 r37.1.Graph.Bars.length), (lo 26 r37.1.Places.length)]) rfl ag29 (infS inf29) sz29 (by exact rfl) (by exact rfl)) rfl rfl rfl rfl ?_
      refine mv (Iv s1.2) rfl rfl rfl rfl ?_
      refine Os21 (LT.bstore (v := (.agg [(iC r37.1.Graph.Points), (lo 25 r37.1.Graph.Bars.length), (lo 26 r37.1.Places.length)])) (out := [(iC r37.1.Graph.Points), (lo 25 r37.1.Graph.Bars.length), (lo 26 r37.1.Places.length)]) rfl rfl (infS inf29) sz29 (by exact rfl) (by exact Nat.le_of_ble_eq_true rfl) (by exact rfl)) rfl rfl rfl rfl rfl ?_
      refine asg (Iv s1.2) rfl rfl rfl rfl ?_
      refine asg (Bv true) rfl ⟨rfl, rfl⟩ rfl rfl ?_
      refine On ?_
      refine en [(4, (Cc (.pl 22 0))), (5, (Iv s1.2)), (6, (Bv true))] [(22, (.row 29 [[(iC r37.1.Graph.Points), (lo 25 r37.1.Graph.Bars.length), (lo 26 r37.1.Places.length)]])), (25, (pR 62 encTBar r37.1.Graph.Bars)), (26, (pR 94 encTPlace r37.1.Places))] ⟨rfl, rfl, rfl, trivial⟩ ⟨rfl, rfl, rfl, trivial⟩ ?_
      refine AWR.ent (Ent.mv 25 0 rfl rfl) ?_
      refine AWR.ent (Ent.mv 26 1 rfl rfl) ?_
      refine en [(4, (Cc (.pl 22 0))), (5, (Iv s1.2)), (6, (Bv true))] [(0, (pR 62 encTBar r37.1.Graph.Bars)), (1, (pR 94 encTPlace r37.1.Places)), (22, (.row 29 [[(iC r37.1.Graph.Points), (lo 0 r37.1.Graph.Bars.length), (lo 1 r37.1.Places.length)]]))] ⟨rfl, rfl, rfl, trivial⟩ ⟨rfl, rfl, rfl, trivial⟩ ?_
      refine AWR.ret ⟨rfl, FPost.mk (.inr rfl) ⟨⟨_, _, _, rfl, rfl, rfl, ag29, sz29, _, (infS inf29)⟩, rfl, rfl, trivial⟩ ⟨rfl, rfl, trivial⟩ rfl ⟨⟨PermP.sc, trivial, trivial, trivial⟩, PermP.sc, PermP.sc, trivial⟩ ⟨PermO.prow' perm_encTBar, PermO.prow' perm_encTPlace, trivial⟩⟩
     ·refine AWR.skip (Wr ?_)
      refine mv (Iv s1.1) rfl rfl rfl rfl ?_
      refine Ob' fun r44 hr44 => ?_
      refine AOR.pure (@LT.callF Try.prog _ _ 126 _ _ [(.c (iC s1.1))] _ _ [] _ _ _ _ (w_spec_NextSeed s1.1 r44 hr44) rfl cb126 (.cons (.c (.same rfl)) .nil) rfl rfl trivial) ⟨rfl, rfl, trivial⟩ trivial rfl rfl ?_
      refine asg (Iv r44) rfl rfl rfl rfl ?_
      refine On (AWR.blk (Wr ?_))
      refine mv (Iv s1.2) rfl rfl rfl rfl ?_
      refine Op20 (LT.add rfl) rfl ⟨rfl, rfl⟩ rfl rfl ?_
      refine asg (Iv (w64 (s1.2 + 1))) rfl rfl rfl rfl ?_
      refine On ?_
      refine AWR.nil ⟨rfl, Ent.of ⟨rfl, rfl, rfl, rfl, trivial⟩ ⟨rfl, rfl, trivial⟩⟩
   ·refine AWR.exit_end rfl ⟨rfl, Ent.of ⟨rfl, trivial⟩ ⟨rfl, trivial⟩⟩
 ·refine Ws (Wr ?_)
  refine Op00 (LT.build [] rfl rfl pl29 ti29 rfl rfl rfl) rfl rfl ?_
  refine Os21 (LT.bstore (v := (.agg [(iC 0), (sC nilV), (sC nilV)])) (out := [(iC 0), (sC nilV), (sC nilV)]) rfl rfl (infS inf29) sz29 (by exact rfl) (by exact Nat.le_of_ble_eq_true rfl) (by exact rfl)) rfl rfl rfl rfl rfl ?_
  refine asg (Iv 0) rfl ⟨rfl, rfl⟩ rfl rfl ?_
  refine asg (Bv false) rfl ⟨rfl, rfl⟩ rfl rfl ?_
  refine On ?_
  refine AWR.ent (Ent.nilB 22 1 0 62 rfl rfl rfl rfl) ?_
  refine AWR.ent (Ent.nilB 22 2 1 94 rfl rfl rfl rfl) ?_
  refine en [(4, (Cc (.pl 22 0))), (5, (Iv 0)), (6, (Bv false))] [(0, (pR 62 encTBar ([] : List TBar))), (1, (pR 94 encTPlace ([] : List TPlace))), (22, (.row 29 [[(iC 0), (lo 0 (([] : List TBar).length)), (lo 1 (([] : List TPlace).length))]]))] ⟨rfl, rfl, rfl, trivial⟩ ⟨rfl, rfl, rfl, trivial⟩ ?_
  refine AWR.ret (FPost.mk (.inr rfl) ⟨⟨_, _, _, rfl, rfl, rfl, ag29, sz29, _, (infS inf29)⟩, rfl, rfl, trivial⟩ ⟨rfl, rfl, trivial⟩ rfl ⟨⟨PermP.sc, trivial, trivial, trivial⟩, PermP.sc, PermP.sc, trivial⟩ ⟨PermO.prow' perm_encTBar, PermO.prow' perm_encTPlace, trivial⟩)
theorem w_impl_copyGraph (g : TGraph) : ∀ t, m_impl_copyGraph g = some t → Fw.Fn Try.prog 211 [(.agg [(iC g.Points), (xF encTBar g.Bars)])] [] (.s (.agg [(iC t.Points), (lo 0 t.Bars.length)])) [(0, (pR 62 encTBar t.Bars))] [] [0] := by
 refine Fw.Fn.of (P := Try.prog) (X := [0]) (pn := []) (rs := (fun (t : TGraph) => [(.agg [(iC t.Points), (lo 0 t.Bars.length)])])) (dfs := (fun (t : TGraph) => [(0, (pR 62 encTBar t.Bars))])) Try.func211 rfl Try.ntmps211 (Nat.le_of_ble_eq_true rfl) rfl ?_
 intro w0 U0 R0 g0
 unfold m_impl_copyGraph
 refine Ws (Wr ?_)
 refine Os10 (LT.box (n := 21) (v := (.agg [(iC g.Points), (xF encTBar g.Bars)])) rfl sz26 (by exact rfl)) rfl rfl rfl ?_
 refine Os00 (LT.alloc (n := 22) (cells := [(iC 0), (sC nilV)]) rfl ti26 rfl rfl rfl) rfl rfl ?_
 refine On (Ws (AWR.draw mixed ?_))
 refine Dp10 (LT.fieldPl rfl fo26_0) rfl rfl rfl ?_
 refine Dp11 (LT.bload1 (c := (iC g.Points)) rfl ag3 (by exact rfl)) rfl rfl rfl rfl ?_
 refine Ds00 (LT.tbuildSlice (n := 23) (enc := encTBar) [] ([] : List TBar) rfl rfl und24 ti62 rfl rfl rfl rfl (by decide) (fun _ => rfl) rfl) rfl rfl ?_
 refine Dp10 (LT.fieldPl rfl fo26_1) rfl rfl rfl ?_
 refine Dp11 (LT.bload1 (c := (xF encTBar g.Bars)) rfl ag24 (by exact rfl)) rfl rfl rfl rfl ?_
 refine AOD.bind fun u1 hu1 => ?_
 refine Ds21 (LT.tappRO (enc := encTBar) rfl  rfl und24 ti62 rfl (by decide) (by decide) (fun _ => rfl) (lim_le hu1)) rfl rfl rfl rfl rfl ?_
 refine Dp20 (LT.build [(0, .tmp 4, (.c (iC g.Points))), (1, .tmp 8, (.c (lo 23 ((([] : List TBar) ++ g.Bars).length))))] rfl rfl pl26 ti26 rfl rfl rfl) rfl rfl rfl rfl ?_
 refine Ds21 (LT.bstore (v := (.agg [(iC g.Points), (lo 23 ((([] : List TBar) ++ g.Bars).length))])) (out := [(iC g.Points), (lo 23 ((([] : List TBar) ++ g.Bars).length))]) rfl rfl (infS inf26) sz26 (by exact rfl) (by exact Nat.le_of_ble_eq_true rfl) (by exact rfl)) rfl rfl rfl rfl rfl ?_
 refine AOD.nil (by kernel_rfl) ?_
 refine en [(2, (Cc (.pl 22 0)))] [(22, (.row 26 [[(iC g.Points), (lo 23 ((([] : List TBar) ++ g.Bars).length))]])), (23, (pR 62 encTBar (([] : List TBar) ++ g.Bars)))] ⟨rfl, trivial⟩ ⟨rfl, rfl, trivial⟩ ?_
 refine AWR.ent (Ent.mv 23 0 rfl rfl) ?_
 refine en [(2, (Cc (.pl 22 0)))] [(0, (pR 62 encTBar (([] : List TBar) ++ g.Bars))), (22, (.row 26 [[(iC g.Points), (lo 0 ((([] : List TBar) ++ g.Bars).length))]]))] ⟨rfl, trivial⟩ ⟨rfl, rfl, trivial⟩ ?_
 refine AWR.ret (FPost.mk (.inr rfl) ⟨⟨_, _, _, rfl, rfl, rfl, ag26, sz26, _, (infS inf26)⟩, trivial⟩ ⟨rfl, trivial⟩ rfl ⟨⟨PermP.sc, trivial, trivial⟩, trivial⟩ ⟨PermO.prow' perm_encTBar, trivial⟩)
theorem w_impl_NextSeed (seed : Int) : ∀ t, m_impl_NextSeed seed = some t → Fw.Fn Try.prog 130 [(.c (iC seed))] [] (.s (.c (iC t))) [] [] [] := by
 refine Fw.Fn.of (P := Try.prog) (X := []) (pn := []) (rs := (fun (t : Int) => [(.c (iC t))])) (dfs := (fun (t : Int) => [])) Try.func130 rfl Try.ntmps130 (Nat.le_of_ble_eq_true rfl) rfl ?_
 intro w0 U0 R0 g0
 unfold m_impl_NextSeed
 refine Ws (Wr ?_)
 refine asg (Iv 0) rfl ⟨rfl, rfl⟩ rfl rfl ?_
 refine On (Ws (Ws (Wr ?_)))
 refine mv (Iv seed) rfl rfl rfl rfl ?_
 refine Ob' fun r1 hr1 => ?_
 refine AOR.pure (@LT.callF Try.prog _ _ 128 _ _ [(.c (iC seed)), (.c (iC 0)), (.c (iC 65535))] _ _ [] _ _ _ _ (w_impl_within seed 0 65535 r1 hr1) rfl cb128 (.cons (.c (.same rfl)) (.cons (.c (.same rfl)) (.cons (.c (.same rfl)) .nil))) rfl rfl trivial) ⟨rfl, rfl, ⟨rfl, rfl⟩, ⟨rfl, rfl⟩, trivial⟩ trivial rfl rfl ?_
 refine Op10 (LT.not rfl) rfl rfl rfl ?_
 refine On ?_
 refine AWR.cond rfl (fun hc2 => ?_) (fun hc2 => ?_)
 ·refine Ws (Wr ?_)
  refine asg (Iv 0) rfl ⟨rfl, rfl⟩ rfl rfl ?_
  refine On ?_
  refine AWR.ret (FPost.mk (.inr rfl) ⟨rfl, trivial⟩ trivial rfl ⟨PermP.sc, trivial⟩ trivial)
 ·refine AWR.skip (Ws (Wr ?_))
  refine mv (Iv seed) rfl rfl rfl rfl ?_
  refine Op20 (LT.mul rfl) ⟨rfl, rfl⟩ rfl rfl rfl ?_
  refine Op20 (LT.add rfl) rfl ⟨rfl, rfl⟩ rfl rfl ?_
  refine Op20 (LT.rem rfl (by decide)) rfl ⟨rfl, rfl⟩ rfl rfl ?_
  refine asg (Iv (Int.tmod (w64 ((w64 (25173 * seed)) + 13849)) 65536)) rfl rfl rfl rfl ?_
  refine On ?_
  refine AWR.ret (FPost.mk (.inr rfl) ⟨rfl, trivial⟩ trivial rfl ⟨PermP.sc, trivial⟩ trivial)
theorem w_impl_PlacesFor (g : TGraph) (seed : Int) : ∀ t, m_impl_PlacesFor g seed = some t → Fw.Fn Try.prog 129 [(.agg [(iC g.Points), (xF encTBar g.Bars)]), (.c (iC seed))] [] (resA [(.agg [(iC t.1.Graph.Points), (lo 0 t.1.Graph.Bars.length), (lo 1 t.1.Places.length)]), (.c (bC t.2))]) [(0, (pR 62 encTBar t.1.Graph.Bars)), (1, (pR 94 encTPlace t.1.Places))] [] [0, 1] := by
 refine Fw.Fn.of (P := Try.prog) (X := [0, 1]) (pn := []) (rs := (fun (t : (TFramework × Bool)) => [(.agg [(iC t.1.Graph.Points), (lo 0 t.1.Graph.Bars.length), (lo 1 t.1.Places.length)]), (.c (bC t.2))])) (dfs := (fun (t : (TFramework × Bool)) => [(0, (pR 62 encTBar t.1.Graph.Bars)), (1, (pR 94 encTPlace t.1.Places))])) Try.func129 rfl Try.ntmps129 (Nat.le_of_ble_eq_true rfl) rfl ?_
 intro w0 U0 R0 g0
 unfold m_impl_PlacesFor
 refine Ws (Wr ?_)
 refine Os10 (LT.box (n := 21) (v := (.agg [(iC g.Points), (xF encTBar g.Bars)])) rfl sz26 (by exact rfl)) rfl rfl rfl ?_
 refine Os00 (LT.alloc (n := 22) (cells := [(iC 0), (sC nilV), (sC nilV)]) rfl ti29 rfl rfl rfl) rfl rfl ?_
 refine asg (Bv false) rfl ⟨rfl, rfl⟩ rfl rfl ?_
 refine On (Ws (Ws ?_))
 refine AWR.joinK (fun j4 => ([(1, (Iv seed)), (2, (Cc (.pl 21 0))), (4, (Cc (.pl 22 0))), (15, (Bv j4))], [(21, (.row 26 [[(iC g.Points), (xF encTBar g.Bars)]])), (22, (.row 29 [[(iC 0), (sC nilV), (sC nilV)]]))])) ?_ (fun j4 _ => ?_)
 ·refine Wr ?_
  refine Op11 (LT.bloadN (out := [(iC g.Points), (xF encTBar g.Bars)]) rfl ag26 (infS inf26) sz26 (by exact rfl) (by exact rfl)) rfl rfl rfl rfl ?_
  refine Ob' fun r5 hr5 => ?_
  refine AOR.pure (@LT.callF Try.prog _ _ 173 _ _ [(.agg [(iC g.Points), (xF encTBar g.Bars)])] _ _ [] _ _ _ _ (w_impl_IsGraph g r5 hr5) rfl cb173 (.cons (.agg (.cons (.same rfl) (.cons (.same rfl) .nil))) .nil) rfl rfl trivial) ⟨rfl, rfl, trivial⟩ trivial rfl rfl ?_
  refine Op10 (LT.not rfl) rfl rfl rfl ?_
  refine mv (Bv (!r5)) rfl rfl rfl rfl ?_
  refine AOR.split (fun hb6 => ?_) (fun hb6 => ?_)
  ·refine Ok rfl rfl rfl (by rw [hb6]; rfl) rfl ?_
   refine Ok rfl rfl rfl (by rw [hb6]; rfl) rfl ?_
   refine Ok rfl rfl rfl (by rw [hb6]; rfl) rfl ?_
   refine Op20 (LT.pickT (v := (Bv true)) rfl hb6) rfl ⟨rfl, rfl⟩ rfl rfl ?_
   refine On ?_
   refine AWR.nil ⟨rfl, Ent.of ⟨rfl, rfl, rfl, rfl, trivial⟩ ⟨rfl, rfl, trivial⟩⟩
  ·refine mv (Iv seed) rfl rfl ⟨_, rfl, .inl ⟨_, rfl, (by rw [hb6]; rfl)⟩⟩ rfl ?_
   refine Ob' fun r7 hr7 => ?_
   refine AOR.pure (@LT.callF Try.prog _ _ 128 _ _ [(.c (iC seed)), (.c (iC 0)), (.c (iC 65535))] _ _ [] _ _ _ _ (w_impl_within seed 0 65535 r7 hr7) rfl cb128 (.cons (.c (.same rfl)) (.cons (.c (.same rfl)) (.cons (.c (.same rfl)) .nil))) rfl rfl trivial) ⟨rfl, rfl, ⟨rfl, rfl⟩, ⟨rfl, rfl⟩, trivial⟩ trivial ⟨_, rfl, .inl ⟨_, rfl, (by rw [hb6]; rfl)⟩⟩ rfl ?_
   refine Op10 (LT.not rfl) rfl ⟨_, rfl, .inl ⟨_, rfl, (by rw [hb6]; rfl)⟩⟩ rfl ?_
   refine Op20 (LT.pickF (v := (Bv (!r7))) rfl hb6) rfl rfl rfl rfl ?_
   refine On ?_
   refine AWR.nil ⟨rfl, Ent.of ⟨rfl, rfl, rfl, rfl, trivial⟩ ⟨rfl, rfl, trivial⟩⟩
 ·refine AWR.cond rfl (fun hc8 => ?_) (fun hc8 => ?_)
  ·refine Ws (Wr ?_)
   refine Op00 (LT.build [] rfl rfl pl29 ti29 rfl rfl rfl) rfl rfl ?_
   refine Os21 (LT.bstore (v := (.agg [(iC 0), (sC nilV), (sC nilV)])) (out := [(iC 0), (sC nilV), (sC nilV)]) rfl rfl (infS inf29) sz29 (by exact rfl) (by exact Nat.le_of_ble_eq_true rfl) (by exact rfl)) rfl rfl rfl rfl rfl ?_
   refine asg (Bv false) rfl ⟨rfl, rfl⟩ rfl rfl ?_
   refine On ?_
   refine AWR.ent (Ent.nilB 22 1 0 62 rfl rfl rfl rfl) ?_
   refine AWR.ent (Ent.nilB 22 2 1 94 rfl rfl rfl rfl) ?_
   refine en [(4, (Cc (.pl 22 0))), (5, (Bv false))] [(0, (pR 62 encTBar ([] : List TBar))), (1, (pR 94 encTPlace ([] : List TPlace))), (22, (.row 29 [[(iC 0), (lo 0 (([] : List TBar).length)), (lo 1 (([] : List TPlace).length))]]))] ⟨rfl, rfl, trivial⟩ ⟨rfl, rfl, rfl, trivial⟩ ?_
   refine AWR.ret (FPost.mk (.inr rfl) ⟨⟨_, _, _, rfl, rfl, rfl, ag29, sz29, _, (infS inf29)⟩, rfl, trivial⟩ ⟨rfl, rfl, trivial⟩ rfl ⟨⟨PermP.sc, trivial, trivial, trivial⟩, PermP.sc, trivial⟩ ⟨PermO.prow' perm_encTBar, PermO.prow' perm_encTPlace, trivial⟩)
  ·refine AWR.skip (Ws (Wr ?_))
   refine Op11 (LT.bloadN (out := [(iC g.Points), (xF encTBar g.Bars)]) rfl ag26 (infS inf26) sz26 (by exact rfl) (by exact rfl)) rfl rfl rfl rfl ?_
   refine Ob' fun r9 hr9 => ?_
   refine AOR.step (@LT.callF Try.prog _ _ 211 _ _ [(.agg [(iC g.Points), (xF encTBar g.Bars)])] _ _ [] _ _ _ _ ((show Fw.Fn Try.prog 211 [(.agg [(iC g.Points), (xF encTBar g.Bars)])] [] (Ag  [(iC r9.Points), (lo 26 r9.Bars.length)]) [(26, (pR 62 encTBar r9.Bars))] [] [26] from Fw.Fn.ren [(0, 26)] (w_impl_copyGraph g r9 hr9) rfl)) rfl cb211 (.cons (.agg (.cons (.same rfl) (.cons (.same rfl) .nil))) .nil) rfl rfl trivial) ⟨rfl, rfl, trivial⟩ trivial rfl rfl ?_
   refine Op10 (LT.build [(0, .tmp 18, (.agg [(iC r9.Points), (lo 26 r9.Bars.length)]))] rfl rfl pl29 ti29 rfl rfl rfl) rfl rfl rfl ?_
   refine Os00 (LT.alloc (n := 27) (cells := [(iC 0), (sC nilV), (sC nilV)]) rfl ti29 rfl rfl rfl) rfl rfl ?_
   refine Os21 (LT.bstore (v := (.agg [(iC r9.Points), (lo 26 r9.Bars.length), (sC nilV)])) (out := [(iC r9.Points), (lo 26 r9.Bars.length), (sC nilV)]) rfl rfl (infS inf29) sz29 (by exact rfl) (by exact Nat.le_of_ble_eq_true rfl) (by exact rfl)) rfl rfl rfl rfl rfl ?_
   refine On (Ws (Ws ?_))
   refine en [(1, (Iv seed)), (2, (Cc (.pl 21 0))), (4, (Cc (.pl 22 0))), (6, (Cc (.pl 27 0)))] [(21, (.row 26 [[(iC g.Points), (xF encTBar g.Bars)]])), (22, (.row 29 [[(iC 0), (sC nilV), (sC nilV)]])), (26, (pR 62 encTBar r9.Bars)), (27, (.row 29 [[(iC r9.Points), (lo 26 r9.Bars.length), (sC nilV)]]))] ⟨rfl, rfl, rfl, rfl, trivial⟩ ⟨rfl, rfl, rfl, rfl, trivial⟩ ?_
   refine Wr ?_
   refine Op10 (LT.fieldPl rfl fo26_0) rfl rfl rfl ?_
   refine Op11 (LT.bload1 (c := (iC g.Points)) rfl ag3 (by exact rfl)) rfl rfl rfl rfl ?_
   refine mv (Iv 0) rfl ⟨rfl, rfl⟩ rfl rfl ?_
   refine On (AWR.block ?_)
   refine AWR.ent (Ent.nilB 27 2 31 94 rfl rfl rfl rfl) ?_
   refine AWR.loop1 (id := 0) (m_impl_PlacesFor_L1 g r9) (fun s10 => ([(1, (Iv s10.1)), (4, (Cc (.pl 22 0))), (6, (Cc (.pl 27 0))), (21, (Iv g.Points)), (22, (Iv s10.2.1))], [(22, (.row 29 [[(iC 0), (sC nilV), (sC nilV)]])), (26, (pR 62 encTBar r9.Bars)), (27, (.row 29 [[(iC r9.Points), (lo 26 r9.Bars.length), (lo 31 s10.2.2.length)]])), (31, (pR 94 encTPlace s10.2.2))])) (fun b17 => ([(4, (Cc (.pl 22 0))), (6, (Cc (.pl 27 0)))], [(22, (.row 29 [[(iC 0), (sC nilV), (sC nilV)]])), (26, (pR 62 encTBar b17.1)), (27, (.row 29 [[(iC b17.2.1), (lo 26 b17.1.length), (lo 31 b17.2.2.length)]])), (31, (pR 94 encTPlace b17.2.2))])) ?_ (Ent.of ⟨rfl, rfl, rfl, rfl, rfl, trivial⟩ ⟨rfl, rfl, rfl, rfl, trivial⟩) rfl (fun b17 _ => ?_)
   ·intro s10
    unfold m_impl_PlacesFor_L1
    refine Ws (Wr ?_)
    refine Op20 (LT.lss rfl) rfl rfl rfl rfl ?_
    refine On (Ws ?_)
    refine AWR.cond rfl (fun hc18 => ?_) (fun hc18 => ?_)
    ·refine AWR.skip (Ws (AWR.block (Ws (Wr ?_))))
     refine mv (Iv s10.1) rfl rfl rfl rfl ?_
     refine Ob' fun r19 hr19 => ?_
     refine AOR.pure (@LT.callF Try.prog _ _ 130 _ _ [(.c (iC s10.1))] _ _ [] _ _ _ _ (w_impl_NextSeed s10.1 r19 hr19) rfl cb130 (.cons (.c (.same rfl)) .nil) rfl rfl trivial) ⟨rfl, rfl, trivial⟩ trivial rfl rfl ?_
     refine asg (Iv r19) rfl rfl rfl rfl ?_
     refine On (Ws (Wr ?_))
     refine mv (Iv r19) rfl rfl rfl rfl ?_
     refine Op20 (LT.quo rfl (by decide)) rfl ⟨rfl, rfl⟩ rfl rfl ?_
     refine Op20 (LT.rem rfl (by decide)) rfl ⟨rfl, rfl⟩ rfl rfl ?_
     refine asg (Iv (Int.tmod (w64 (Int.tdiv r19 16)) 25)) rfl rfl rfl rfl ?_
     refine On (Wr ?_)
     refine Op10 (LT.fieldPl rfl fo29_1) rfl rfl rfl ?_
     refine Op11 (LT.bload1 (c := (lo 31 s10.2.2.length)) rfl ag27 (by exact rfl)) rfl rfl rfl rfl ?_
     refine mv (Iv (Int.tmod (w64 (Int.tdiv r19 16)) 25)) rfl rfl rfl rfl ?_
     refine Op20 (LT.rem rfl (by decide)) rfl ⟨rfl, rfl⟩ rfl rfl ?_
     refine mv (Iv (Int.tmod (w64 (Int.tdiv r19 16)) 25)) rfl rfl rfl rfl ?_
     refine Op20 (LT.quo rfl (by decide)) rfl ⟨rfl, rfl⟩ rfl rfl ?_
     refine Op20 (LT.build [(0, .tmp 32, (.c (iC (Int.tmod (Int.tmod (w64 (Int.tdiv r19 16)) 25) 5)))), (1, .tmp 34, (.c (iC (w64 (Int.tdiv (Int.tmod (w64 (Int.tdiv r19 16)) 25) 5)))))] rfl rfl pl94 ti94 rfl rfl rfl) rfl rfl rfl rfl ?_
     refine Os10 (LT.tbuildSlice (n := 29) (enc := encTPlace) [(0, .tmp 35, (.agg [(iC (Int.tmod (Int.tmod (w64 (Int.tdiv r19 16)) 25) 5)), (iC (w64 (Int.tdiv (Int.tmod (w64 (Int.tdiv r19 16)) 25) 5)))]))] [(TPlace.mk (Int.tmod (Int.tmod (w64 (Int.tdiv r19 16)) 25) 5) (w64 (Int.tdiv (Int.tmod (w64 (Int.tdiv r19 16)) 25) 5)))] rfl rfl und27 ti94 rfl rfl rfl rfl (by decide) (fun _ => rfl) rfl) rfl rfl rfl ?_
     refine Ob' fun u20 hu20 => ?_
     refine Os22 (LT.tappP (enc := encTPlace) rfl rfl rfl und27 ti94 rfl (by decide) (by decide) (fun _ => rfl) (lim_le hu20)) rfl rfl rfl rfl rfl rfl ?_
     refine Op10 (LT.fieldPl rfl fo29_1) rfl rfl rfl ?_
     refine Os21 (LT.bstore (v := (.c (lo 31 ((s10.2.2 ++ [(TPlace.mk (Int.tmod (Int.tmod (w64 (Int.tdiv r19 16)) 25) 5) (w64 (Int.tdiv (Int.tmod (w64 (Int.tdiv r19 16)) 25) 5)))]).length)))) (out := [(iC r9.Points), (lo 26 r9.Bars.length), (lo 31 ((s10.2.2 ++ [(TPlace.mk (Int.tmod (Int.tmod (w64 (Int.tdiv r19 16)) 25) 5) (w64 (Int.tdiv (Int.tmod (w64 (Int.tdiv r19 16)) 25) 5)))]).length))]) rfl rfl (infS inf27) sz27 (by exact rfl) (by exact Nat.le_of_ble_eq_true rfl) (by exact rfl)) rfl rfl rfl rfl rfl ?_
     refine On (AWR.blk ?_)
     refine en [(1, (Iv r19)), (4, (Cc (.pl 22 0))), (6, (Cc (.pl 27 0))), (21, (Iv g.Points)), (22, (Iv s10.2.1))] [(22, (.row 29 [[(iC 0), (sC nilV), (sC nilV)]])), (26, (pR 62 encTBar r9.Bars)), (27, (.row 29 [[(iC r9.Points), (lo 26 r9.Bars.length), (lo 31 ((s10.2.2 ++ [(TPlace.mk (Int.tmod (Int.tmod (w64 (Int.tdiv r19 16)) 25) 5) (w64 (Int.tdiv (Int.tmod (w64 (Int.tdiv r19 16)) 25) 5)))]).length))]])), (31, (pR 94 encTPlace (s10.2.2 ++ [(TPlace.mk (Int.tmod (Int.tmod (w64 (Int.tdiv r19 16)) 25) 5) (w64 (Int.tdiv (Int.tmod (w64 (Int.tdiv r19 16)) 25) 5)))])))] ⟨rfl, rfl, rfl, rfl, rfl, trivial⟩ ⟨rfl, rfl, rfl, rfl, trivial⟩ ?_
     refine Wr ?_
     refine Op20 (LT.add rfl) rfl ⟨rfl, rfl⟩ rfl rfl ?_
     refine mv (Iv (w64 (s10.2.1 + 1))) rfl rfl rfl rfl ?_
     refine On ?_
     refine AWR.nil ⟨rfl, Ent.of ⟨rfl, rfl, rfl, rfl, rfl, trivial⟩ ⟨rfl, rfl, rfl, rfl, trivial⟩⟩
    ·refine AWR.exit_end rfl ⟨rfl, Ent.of ⟨rfl, rfl, trivial⟩ ⟨rfl, rfl, rfl, rfl, trivial⟩⟩
   ·refine Ws (Ws (Wr ?_))
    refine Op11 (LT.bloadN (out := [(iC b17.2.1), (lo 26 b17.1.length), (lo 31 b17.2.2.length)]) rfl ag29 (infS inf29) sz29 (by exact rfl) (by exact rfl)) rfl rfl rfl rfl ?_
    refine Ob' fun r21 hr21 => ?_
    refine AOR.pure (@LT.callF Try.prog _ _ 80 _ _ [(.agg [(iC b17.2.1), (lo 26 b17.1.length), (lo 31 b17.2.2.length)])] _ _ [(26, (pR 62 encTBar b17.1)), (31, (pR 94 encTPlace b17.2.2))] _ _ _ _ (w_impl_IsFramework (TFramework.mk (TGraph.mk b17.2.1 b17.1) b17.2.2) r21 hr21) rfl cb80 (.cons (.agg (.cons (.same rfl) (.cons (.tloc rfl rfl) (.cons (.tloc rfl rfl) .nil)))) .nil) rfl rfl trivial) ⟨rfl, rfl, trivial⟩ ⟨rfl, rfl, trivial⟩ rfl rfl ?_
    refine Op10 (LT.not rfl) rfl rfl rfl ?_
    refine On ?_
    refine AWR.cond rfl (fun hc22 => ?_) (fun hc22 => ?_)
    ·refine Ws (Wr ?_)
     refine Op00 (LT.build [] rfl rfl pl29 ti29 rfl rfl rfl) rfl rfl ?_
     refine Os21 (LT.bstore (v := (.agg [(iC 0), (sC nilV), (sC nilV)])) (out := [(iC 0), (sC nilV), (sC nilV)]) rfl rfl (infS inf29) sz29 (by exact rfl) (by exact Nat.le_of_ble_eq_true rfl) (by exact rfl)) rfl rfl rfl rfl rfl ?_
     refine asg (Bv false) rfl ⟨rfl, rfl⟩ rfl rfl ?_
     refine On ?_
     refine AWR.ent (Ent.nilB 22 1 0 62 rfl rfl rfl rfl) ?_
     refine AWR.ent (Ent.nilB 22 2 1 94 rfl rfl rfl rfl) ?_
     refine en [(4, (Cc (.pl 22 0))), (5, (Bv false))] [(0, (pR 62 encTBar ([] : List TBar))), (1, (pR 94 encTPlace ([] : List TPlace))), (22, (.row 29 [[(iC 0), (lo 0 (([] : List TBar).length)), (lo 1 (([] : List TPlace).length))]]))] ⟨rfl, rfl, trivial⟩ ⟨rfl, rfl, rfl, trivial⟩ ?_
     refine AWR.ret (FPost.mk (.inr rfl) ⟨⟨_, _, _, rfl, rfl, rfl, ag29, sz29, _, (infS inf29)⟩, rfl, trivial⟩ ⟨rfl, rfl, trivial⟩ rfl ⟨⟨PermP.sc, trivial, trivial, trivial⟩, PermP.sc, trivial⟩ ⟨PermO.prow' perm_encTBar, PermO.prow' perm_encTPlace, trivial⟩)
    ·refine AWR.skip (Ws (Wr ?_))
     refine Op11 (LT.bloadN (out := [(iC b17.2.1), (lo 26 b17.1.length), (lo 31 b17.2.2.length)]) rfl ag29 (infS inf29) sz29 (by exact rfl) (by exact rfl)) rfl rfl rfl rfl ?_
     refine Os21 (LT.bstore (v := (.agg [(iC b17.2.1), (lo 26 b17.1.length), (lo 31 b17.2.2.length)])) (out := [(iC b17.2.1), (lo 26 b17.1.length), (lo 31 b17.2.2.length)]) rfl rfl (infS inf29) sz29 (by exact rfl) (by exact Nat.le_of_ble_eq_true rfl) (by exact rfl)) rfl rfl rfl rfl rfl ?_
     refine asg (Bv true) rfl ⟨rfl, rfl⟩ rfl rfl ?_
     refine On ?_
     refine en [(4, (Cc (.pl 22 0))), (5, (Bv true))] [(22, (.row 29 [[(iC b17.2.1), (lo 26 b17.1.length), (lo 31 b17.2.2.length)]])), (26, (pR 62 encTBar b17.1)), (31, (pR 94 encTPlace b17.2.2))] ⟨rfl, rfl, trivial⟩ ⟨rfl, rfl, rfl, trivial⟩ ?_
     refine AWR.ent (Ent.mv 26 0 rfl rfl) ?_
     refine AWR.ent (Ent.mv 31 1 rfl rfl) ?_
     refine en [(4, (Cc (.pl 22 0))), (5, (Bv true))] [(0, (pR 62 encTBar b17.1)), (1, (pR 94 encTPlace b17.2.2)), (22, (.row 29 [[(iC b17.2.1), (lo 0 b17.1.length), (lo 1 b17.2.2.length)]]))] ⟨rfl, rfl, trivial⟩ ⟨rfl, rfl, rfl, trivial⟩ ?_
     refine AWR.ret (FPost.mk (.inr rfl) ⟨⟨_, _, _, rfl, rfl, rfl, ag29, sz29, _, (infS inf29)⟩, rfl, trivial⟩ ⟨rfl, rfl, trivial⟩ rfl ⟨⟨PermP.sc, trivial, trivial, trivial⟩, PermP.sc, trivial⟩ ⟨PermO.prow' perm_encTBar, PermO.prow' perm_encTPlace, trivial⟩)
theorem w_impl_GenericPlaces (g : TGraph) (seed : Int) : ∀ t, m_impl_GenericPlaces g seed = some t → Fw.Fn Try.prog 36 [(.agg [(iC g.Points), (xF encTBar g.Bars)]), (.c (iC seed))] [] (resA [(.agg [(iC t.1.Graph.Points), (lo 0 t.1.Graph.Bars.length), (lo 1 t.1.Places.length)]), (.c (iC t.2.1)), (.c (bC t.2.2))]) [(0, (pR 62 encTBar t.1.Graph.Bars)), (1, (pR 94 encTPlace t.1.Places))] [] [0, 1] := by
 refine Fw.Fn.of (P := Try.prog) (X := [0, 1]) (pn := []) (rs := (fun (t : (TFramework × Int × Bool)) => [(.agg [(iC t.1.Graph.Points), (lo 0 t.1.Graph.Bars.length), (lo 1 t.1.Places.length)]), (.c (iC t.2.1)), (.c (bC t.2.2))])) (dfs := (fun (t : (TFramework × Int × Bool)) => [(0, (pR 62 encTBar t.1.Graph.Bars)), (1, (pR 94 encTPlace t.1.Places))])) Try.func36 rfl Try.ntmps36 (Nat.le_of_ble_eq_true rfl) rfl ?_
 intro w0 U0 R0 g0
 unfold m_impl_GenericPlaces
 refine Ws (Wr ?_)
 refine Os10 (LT.box (n := 21) (v := (.agg [(iC g.Points), (xF encTBar g.Bars)])) rfl sz26 (by exact rfl)) rfl rfl rfl ?_
 refine Os00 (LT.alloc (n := 22) (cells := [(iC 0), (sC nilV), (sC nilV)]) rfl ti29 rfl rfl rfl) rfl rfl ?_
 refine asg (Iv 0) rfl ⟨rfl, rfl⟩ rfl rfl ?_
 refine asg (Bv false) rfl ⟨rfl, rfl⟩ rfl rfl ?_
 refine On (Ws (Ws (Wr ?_)))
 refine mv (Iv seed) rfl rfl rfl rfl ?_
 refine Ob' fun r1 hr1 => ?_
 refine AOR.pure (@LT.callF Try.prog _ _ 128 _ _ [(.c (iC seed)), (.c (iC 0)), (.c (iC 65535))] _ _ [] _ _ _ _ (w_impl_within seed 0 65535 r1 hr1) rfl cb128 (.cons (.c (.same rfl)) (.cons (.c (.same rfl)) (.cons (.c (.same rfl)) .nil))) rfl rfl trivial) ⟨rfl, rfl, ⟨rfl, rfl⟩, ⟨rfl, rfl⟩, trivial⟩ trivial rfl rfl ?_
 refine Op10 (LT.not rfl) rfl rfl rfl ?_
 refine On ?_
 refine AWR.cond rfl (fun hc2 => ?_) (fun hc2 => ?_)
 ·refine Ws ?_
  refine en [(4, (Cc (.pl 22 0)))] [(22, (.row 29 [[(iC 0), (sC nilV), (sC nilV)]]))] ⟨rfl, trivial⟩ ⟨rfl, trivial⟩ ?_
  refine Wr ?_
  refine Op00 (LT.build [] rfl rfl pl29 ti29 rfl rfl rfl) rfl rfl ?_
  refine Os21 (LT.bstore (v := (.agg [(iC 0), (sC nilV), (sC nilV)])) (out := [(iC 0), (sC nilV), (sC nilV)]) rfl rfl (infS inf29) sz29 (by exact rfl) (by exact Nat.le_of_ble_eq_true rfl) (by exact rfl)) rfl rfl rfl rfl rfl ?_
  refine asg (Iv 0) rfl ⟨rfl, rfl⟩ rfl rfl ?_
  refine asg (Bv false) rfl ⟨rfl, rfl⟩ rfl rfl ?_
  refine On ?_
  refine AWR.ent (Ent.nilB 22 1 0 62 rfl rfl rfl rfl) ?_
  refine AWR.ent (Ent.nilB 22 2 1 94 rfl rfl rfl rfl) ?_
  refine en [(4, (Cc (.pl 22 0))), (5, (Iv 0)), (6, (Bv false))] [(0, (pR 62 encTBar ([] : List TBar))), (1, (pR 94 encTPlace ([] : List TPlace))), (22, (.row 29 [[(iC 0), (lo 0 (([] : List TBar).length)), (lo 1 (([] : List TPlace).length))]]))] ⟨rfl, rfl, rfl, trivial⟩ ⟨rfl, rfl, rfl, trivial⟩ ?_
  refine AWR.ret (FPost.mk (.inr rfl) ⟨⟨_, _, _, rfl, rfl, rfl, ag29, sz29, _, (infS inf29)⟩, rfl, rfl, trivial⟩ ⟨rfl, rfl, trivial⟩ rfl ⟨⟨PermP.sc, trivial, trivial, trivial⟩, PermP.sc, PermP.sc, trivial⟩ ⟨PermO.prow' perm_encTBar, PermO.prow' perm_encTPlace, trivial⟩)
 ·refine AWR.skip (Ws (Ws ?_))
  refine en [(1, (Iv seed)), (2, (Cc (.pl 21 0))), (4, (Cc (.pl 22 0)))] [(21, (.row 26 [[(iC g.Points), (xF encTBar g.Bars)]])), (22, (.row 29 [[(iC 0), (sC nilV), (sC nilV)]]))] ⟨rfl, rfl, rfl, trivial⟩ ⟨rfl, rfl, trivial⟩ ?_
  refine Wr ?_
  refine asg (Iv 1) rfl ⟨rfl, rfl⟩ rfl rfl ?_
  refine On (AWR.block ?_)
  refine AWR.loopR (id := 0) (m_impl_GenericPlaces_L1 g) (fun s3 => ([(1, (Iv s3.1)), (2, (Cc (.pl 21 0))), (4, (Cc (.pl 22 0))), (7, (Iv s3.2))], [(21, (.row 26 [[(iC g.Points), (xF encTBar g.Bars)]])), (22, (.row 29 [[(iC 0), (sC nilV), (sC nilV)]]))])) (fun b22 => ([(4, (Cc (.pl 22 0)))], [(22, (.row 29 [[(iC 0), (sC nilV), (sC nilV)]]))])) (FPost Try.prog Try.f36.results.toList [] [0, 1] (fun (t : (TFramework × Int × Bool)) => [(.agg [(iC t.1.Graph.Points), (lo 0 t.1.Graph.Bars.length), (lo 1 t.1.Places.length)]), (.c (iC t.2.1)), (.c (bC t.2.2))]) (fun (t : (TFramework × Int × Bool)) => [(0, (pR 62 encTBar t.1.Graph.Bars)), (1, (pR 94 encTPlace t.1.Places))])) ?_ (Ent.of ⟨rfl, rfl, rfl, rfl, trivial⟩ ⟨rfl, rfl, trivial⟩) rfl (fun b22 _ => ?_) (by intro r t σ m ht hk; injection ht with ht; subst ht; exact hk)
  ·intro s3
   unfold m_impl_GenericPlaces_L1
   refine Ws (Ws (Wr ?_))
   refine mv (Iv s3.2) rfl rfl rfl rfl ?_
   refine Op20 (LT.leq rfl) rfl ⟨rfl, rfl⟩ rfl rfl ?_
   refine On ?_
   refine AWR.cond rfl (fun hc23 => ?_) (fun hc23 => ?_)
   ·refine AWR.skip (Ws (AWR.block (Ws (Ws (Wr ?_)))))
    refine Op11 (LT.bloadN (out := [(iC g.Points), (xF encTBar g.Bars)]) rfl ag26 (infS inf26) sz26 (by exact rfl) (by exact rfl)) rfl rfl rfl rfl ?_
    refine mv (Iv s3.1) rfl rfl rfl rfl ?_
    refine Ob' fun r24 hr24 => ?_
    refine AOR.step (@LT.callF Try.prog _ _ 129 _ _ [(.agg [(iC g.Points), (xF encTBar g.Bars)]), (.c (iC s3.1))] _ _ [] _ _ _ _ ((show Fw.Fn Try.prog 129 [(.agg [(iC g.Points), (xF encTBar g.Bars)]), (.c (iC s3.1))] [] (.tup [(.agg [(iC r24.1.Graph.Points), (lo 25 r24.1.Graph.Bars.length), (lo 26 r24.1.Places.length)]), (.c (bC r24.2))]) [(25, (pR 62 encTBar r24.1.Graph.Bars)), (26, (pR 94 encTPlace r24.1.Places))] [] [25, 26] from Fw.Fn.ren [(0, 25), (1, 26)] (w_impl_PlacesFor g s3.1 r24 hr24) rfl)) rfl cb129 (.cons (.agg (.cons (.same rfl) (.cons (.same rfl) .nil))) (.cons (.c (.same rfl)) .nil)) rfl rfl trivial) ⟨rfl, rfl, rfl, trivial⟩ trivial rfl rfl ?_
    refine mv (.tup [(.agg [(iC r24.1.Graph.Points), (lo 25 r24.1.Graph.Bars.length), (lo 26 r24.1.Places.length)]), (.c (bC r24.2))]) rfl rfl rfl rfl ?_
    refine Op10 (LT.extract (v := (.agg [(iC r24.1.Graph.Points), (lo 25 r24.1.Graph.Bars.length), (lo 26 r24.1.Places.length)])) rfl (by exact rfl)) rfl rfl rfl ?_
    refine Op10 (LT.extract (v := (.c (bC r24.2))) rfl (by exact rfl)) rfl rfl rfl ?_
    refine Os00 (LT.alloc (n := 27) (cells := [(iC 0), (sC nilV), (sC nilV)]) rfl ti29 rfl rfl rfl) rfl rfl ?_
    refine Os21 (LT.bstore (v := (.agg [(iC r24.1.Graph.Points), (lo 25 r24.1.Graph.Bars.length), (lo 26 r24.1.Places.length)])) (out := [(iC r24.1.Graph.Points), (lo 25 r24.1.Graph.Bars.length), (lo 26 r24.1.Places.length)]) rfl rfl (infS inf29) sz29 (by exact rfl) (by exact Nat.le_of_ble_eq_true rfl) (by exact rfl)) rfl rfl rfl rfl rfl ?_
    refine asg (Bv r24.2) rfl rfl rfl rfl ?_
    refine On (Ws ?_)
    refine AWR.joinK (fun j27 => ([(1, (Iv s3.1)), (2, (Cc (.pl 21 0))), (4, (Cc (.pl 22 0))), (7, (Iv s3.2)), (8, (Cc (.pl 27 0))), (28, (Bv j27))], [(21, (.row 26 [[(iC g.Points), (xF encTBar g.Bars)]])), (22, (.row 29 [[(iC 0), (sC nilV), (sC nilV)]])), (25, (pR 62 encTBar r24.1.Graph.Bars)), (26, (pR 94 encTPlace r24.1.Places)), (27, (.row 29 [[(iC r24.1.Graph.Points), (lo 25 r24.1.Graph.Bars.length), (lo 26 r24.1.Places.length)]]))])) ?_ (fun j27 _ => ?_)
    ·refine en [(1, (Iv s3.1)), (2, (Cc (.pl 21 0))), (4, (Cc (.pl 22 0))), (7, (Iv s3.2)), (8, (Cc (.pl 27 0))), (9, (Bv r24.2))] [(21, (.row 26 [[(iC g.Points), (xF encTBar g.Bars)]])), (22, (.row 29 [[(iC 0), (sC nilV), (sC nilV)]])), (25, (pR 62 encTBar r24.1.Graph.Bars)), (26, (pR 94 encTPlace r24.1.Places)), (27, (.row 29 [[(iC r24.1.Graph.Points), (lo 25 r24.1.Graph.Bars.length), (lo 26 r24.1.Places.length)]]))] ⟨rfl, rfl, rfl, rfl, rfl, rfl, trivial⟩ ⟨rfl, rfl, rfl, rfl, rfl, trivial⟩ ?_
     refine Wr ?_
     refine mv (Bv r24.2) rfl rfl rfl rfl ?_
     refine mv (Bv r24.2) rfl rfl rfl rfl ?_
     refine AOR.split (fun hb28 => ?_) (fun hb28 => ?_)
     ·refine Op11 (LT.bloadN (out := [(iC r24.1.Graph.Points), (lo 25 r24.1.Graph.Bars.length), (lo 26 r24.1.Places.length)]) rfl ag29 (infS inf29) sz29 (by exact rfl) (by exact rfl)) rfl rfl ⟨_, rfl, .inl ⟨_, rfl, (by rw [hb28]; rfl)⟩⟩ rfl ?_
      refine Ob' fun r29 hr29 => ?_
      refine AOR.pure (@LT.callF Try.prog _ _ 50 _ _ [(.agg [(iC r24.1.Graph.Points), (lo 25 r24.1.Graph.Bars.length), (lo 26 r24.1.Places.length)])] _ _ [(25, (pR 62 encTBar r24.1.Graph.Bars)), (26, (pR 94 encTPlace r24.1.Places))] _ _ _ _ (w_impl_IsGenericHere r24.1 r29 hr29) rfl cb50 (.cons (.agg (.cons (.same rfl) (.cons (.tloc rfl rfl) (.cons (.tloc rfl rfl) .nil)))) .nil) rfl rfl trivial) ⟨rfl, rfl, trivial⟩ ⟨rfl, rfl, trivial⟩ ⟨_, rfl, .inl ⟨_, rfl, (by rw [hb28]; rfl)⟩⟩ rfl ?_
      refine Op20 (LT.pickT (v := (Bv r29)) rfl hb28) rfl rfl rfl rfl ?_
      refine On ?_
      refine AWR.nil ⟨rfl, Ent.of ⟨rfl, rfl, rfl, rfl, rfl, rfl, trivial⟩ ⟨rfl, rfl, rfl, rfl, rfl, trivial⟩⟩
     ·refine Ok rfl rfl rfl (by rw [hb28]; rfl) rfl ?_
      refine Ok rfl rfl rfl (by rw [hb28]; rfl) rfl ?_
      refine Op20 (LT.pickF (v := (Bv false)) rfl hb28) rfl ⟨rfl, rfl⟩ rfl rfl ?_
      refine On ?_
      refine AWR.nil ⟨rfl, Ent.of ⟨rfl, rfl, rfl, rfl, rfl, rfl, trivial⟩ ⟨rfl, rfl, rfl, rfl, rfl, trivial⟩⟩
    ·refine AWR.cond rfl (fun hc30 => ?_) (fun hc30 => ?_)
     ·refine Ws (Wr ?_)
      refine Op11 (LT.bloadN (out := [(iC r24.1.Graph.Points), (lo 25 r24.1.Graph.Bars.length), (lo 26 r24.1.Places.length)]) rfl ag29 (infS inf29) sz29 (by exact rfl) (by exact rfl)) rfl rfl rfl rfl ?_
      refine mv (Iv s3.2) rfl rfl rfl rfl ?_
      refine Os21 (LT.bstore (v := (.agg [(iC r24.1.Graph.Points), (lo 25 r24.1.Graph.Bars.length), (lo 26 r24.1.Places.length)])) (out := [(iC r24.1.Graph.Points), (lo 25 r24.1.Graph.Bars.length), (lo 26 r24.1.Places.length)]) rfl rfl (infS inf29) sz29 (by exact rfl) (by exact Nat.le_of_ble_eq_true rfl) (by exact rfl)) rfl rfl rfl rfl rfl ?_
      refine asg (Iv s3.2) rfl rfl rfl rfl ?_
      refine asg (Bv true) rfl ⟨rfl, rfl⟩ rfl rfl ?_
      refine On ?_
      refine en [(4, (Cc (.pl 22 0))), (5, (Iv s3.2)), (6, (Bv true))] [(22, (.row 29 [[(iC r24.1.Graph.Points), (lo 25 r24.1.Graph.Bars.length), (lo 26 r24.1.Places.length)]])), (25, (pR 62 encTBar r24.1.Graph.Bars)), (26, (pR 94 encTPlace r24.1.Places))] ⟨rfl, rfl, rfl, trivial⟩ ⟨rfl, rfl, rfl, trivial⟩ ?_
      refine AWR.ent (Ent.mv 25 0 rfl rfl) ?_
      refine AWR.ent (Ent.mv 26 1 rfl rfl) ?_
      refine en [(4, (Cc (.pl 22 0))), (5, (Iv s3.2)), (6, (Bv true))] [(0, (pR 62 encTBar r24.1.Graph.Bars)), (1, (pR 94 encTPlace r24.1.Places)), (22, (.row 29 [[(iC r24.1.Graph.Points), (lo 0 r24.1.Graph.Bars.length), (lo 1 r24.1.Places.length)]]))] ⟨rfl, rfl, rfl, trivial⟩ ⟨rfl, rfl, rfl, trivial⟩ ?_
      refine AWR.ret ⟨rfl, FPost.mk (.inr rfl) ⟨⟨_, _, _, rfl, rfl, rfl, ag29, sz29, _, (infS inf29)⟩, rfl, rfl, trivial⟩ ⟨rfl, rfl, trivial⟩ rfl ⟨⟨PermP.sc, trivial, trivial, trivial⟩, PermP.sc, PermP.sc, trivial⟩ ⟨PermO.prow' perm_encTBar, PermO.prow' perm_encTPlace, trivial⟩⟩
     ·refine AWR.skip (Wr ?_)
      refine mv (Iv s3.1) rfl rfl rfl rfl ?_
      refine Ob' fun r31 hr31 => ?_
      refine AOR.pure (@LT.callF Try.prog _ _ 130 _ _ [(.c (iC s3.1))] _ _ [] _ _ _ _ (w_impl_NextSeed s3.1 r31 hr31) rfl cb130 (.cons (.c (.same rfl)) .nil) rfl rfl trivial) ⟨rfl, rfl, trivial⟩ trivial rfl rfl ?_
      refine asg (Iv r31) rfl rfl rfl rfl ?_
      refine On (AWR.blk (Wr ?_))
      refine mv (Iv s3.2) rfl rfl rfl rfl ?_
      refine Op20 (LT.add rfl) rfl ⟨rfl, rfl⟩ rfl rfl ?_
      refine asg (Iv (w64 (s3.2 + 1))) rfl rfl rfl rfl ?_
      refine On ?_
      refine AWR.nil ⟨rfl, Ent.of ⟨rfl, rfl, rfl, rfl, trivial⟩ ⟨rfl, rfl, trivial⟩⟩
   ·refine AWR.exit_end rfl ⟨rfl, Ent.of ⟨rfl, trivial⟩ ⟨rfl, trivial⟩⟩
  ·refine Ws (Wr ?_)
   refine Op00 (LT.build [] rfl rfl pl29 ti29 rfl rfl rfl) rfl rfl ?_
   refine Os21 (LT.bstore (v := (.agg [(iC 0), (sC nilV), (sC nilV)])) (out := [(iC 0), (sC nilV), (sC nilV)]) rfl rfl (infS inf29) sz29 (by exact rfl) (by exact Nat.le_of_ble_eq_true rfl) (by exact rfl)) rfl rfl rfl rfl rfl ?_
   refine asg (Iv 0) rfl ⟨rfl, rfl⟩ rfl rfl ?_
   refine asg (Bv false) rfl ⟨rfl, rfl⟩ rfl rfl ?_
   refine On ?_
   refine AWR.ent (Ent.nilB 22 1 0 62 rfl rfl rfl rfl) ?_
   refine AWR.ent (Ent.nilB 22 2 1 94 rfl rfl rfl rfl) ?_
   refine en [(4, (Cc (.pl 22 0))), (5, (Iv 0)), (6, (Bv false))] [(0, (pR 62 encTBar ([] : List TBar))), (1, (pR 94 encTPlace ([] : List TPlace))), (22, (.row 29 [[(iC 0), (lo 0 (([] : List TBar).length)), (lo 1 (([] : List TPlace).length))]]))] ⟨rfl, rfl, rfl, trivial⟩ ⟨rfl, rfl, rfl, trivial⟩ ?_
   refine AWR.ret (FPost.mk (.inr rfl) ⟨⟨_, _, _, rfl, rfl, rfl, ag29, sz29, _, (infS inf29)⟩, rfl, rfl, trivial⟩ ⟨rfl, rfl, trivial⟩ rfl ⟨⟨PermP.sc, trivial, trivial, trivial⟩, PermP.sc, PermP.sc, trivial⟩ ⟨PermO.prow' perm_encTBar, PermO.prow' perm_encTPlace, trivial⟩)
theorem w_laws_heldBarS (a : (List TBar)) (k : Int) : ∀ t, m_laws_heldBarS a k = some t → Fw.Fn Try.prog 214 [(.c (xF encTBar a)), (.c (iC k))] [] (.s (.c (iC t))) [] [] [] := by
 refine Fw.Fn.of (P := Try.prog) (X := []) (pn := []) (rs := (fun (t : Int) => [(.c (iC t))])) (dfs := (fun (t : Int) => [])) Try.func214 rfl Try.ntmps214 (Nat.le_of_ble_eq_true rfl) rfl ?_
 intro w0 U0 R0 g0
 unfold m_laws_heldBarS
 refine Ws (Wr ?_)
 refine asg (Iv 0) rfl ⟨rfl, rfl⟩ rfl rfl ?_
 refine On (Ws (Ws (Wr ?_)))
 refine asg (Iv 0) rfl ⟨rfl, rfl⟩ rfl rfl ?_
 refine On (AWR.block ?_)
 refine AWR.loopR (id := 0) (m_laws_heldBarS_L1 a) (fun s1 => ([(0, (Cc (xF encTBar a))), (1, (Iv s1.1)), (5, (Iv s1.2))], [])) (fun b12 => ([(1, (Iv b12))], [])) (FPost Try.prog Try.f214.results.toList [] [] (fun (t : Int) => [(.c (iC t))]) (fun (t : Int) => [])) ?_ (Ent.of ⟨rfl, rfl, rfl, trivial⟩ trivial) rfl (fun b12 _ => ?_) (by intro r t σ m ht hk; injection ht with ht; subst ht; exact hk)
 ·intro s1
  unfold m_laws_heldBarS_L1
  refine Ws (Ws (Wr ?_))
  refine mv (Iv s1.2) rfl rfl rfl rfl ?_
  refine mv (Cc (xF encTBar a)) rfl rfl rfl rfl ?_
  refine Op10 (LT.tlenRO rfl und24) rfl rfl rfl ?_
  refine Op20 (LT.lss rfl) rfl rfl rfl rfl ?_
  refine On ?_
  refine AWR.cond rfl (fun hc13 => ?_) (fun hc13 => ?_)
  ·refine AWR.skip (Ws (AWR.block (Ws (Ws (Wr ?_)))))
   refine mv (Cc (xF encTBar a)) rfl rfl rfl rfl ?_
   refine mv (Iv s1.2) rfl rfl rfl rfl ?_
   refine Ob' fun x14 hx14 => ?_
   refine Op20 (LT.tindexRO (enc := encTBar) rfl el24 hx14 sz62) rfl rfl rfl rfl ?_
   refine Op10 (LT.fieldPx rfl fo62_0) rfl rfl rfl ?_
   refine Op10 (LT.loadPx1 rfl ag3) rfl rfl rfl ?_
   refine mv (Iv s1.1) rfl rfl rfl rfl ?_
   refine Op20 (LT.neq rfl) rfl rfl rfl rfl ?_
   refine On ?_
   refine AWR.cond rfl (fun hc15 => ?_) (fun hc15 => ?_)
   ·refine Ws ?_
    refine en [] [] trivial trivial ?_
    refine Wr ?_
    refine asg (Iv (-1)) rfl ⟨rfl, rfl⟩ rfl rfl ?_
    refine On ?_
    refine AWR.ret ⟨rfl, FPost.mk (.inr rfl) ⟨rfl, trivial⟩ trivial rfl ⟨PermP.sc, trivial⟩ trivial⟩
   ·refine AWR.skip (Ws ?_)
    refine en [(0, (Cc (xF encTBar a))), (1, (Iv s1.1)), (5, (Iv s1.2))] [] ⟨rfl, rfl, rfl, trivial⟩ trivial ?_
    refine Wr ?_
    refine mv (Iv s1.1) rfl rfl rfl rfl ?_
    refine Op20 (LT.add rfl) rfl ⟨rfl, rfl⟩ rfl rfl ?_
    refine asg (Iv (w64 (s1.1 + 1))) rfl rfl rfl rfl ?_
    refine On (Ws (Ws (Wr ?_)))
    refine mv (Cc (xF encTBar a)) rfl rfl rfl rfl ?_
    refine mv (Iv s1.2) rfl rfl rfl rfl ?_
    refine Ob' fun x16 hx16 => ?_
    refine Op20 (LT.tindexRO (enc := encTBar) rfl el24 hx16 sz62) rfl rfl rfl rfl ?_
    refine Op10 (LT.fieldPx rfl fo62_1) rfl rfl rfl ?_
    refine Op10 (LT.loadPx1 rfl ag3) rfl rfl rfl ?_
    refine mv (Iv (w64 (s1.1 + 1))) rfl rfl rfl rfl ?_
    refine Op20 (LT.neq rfl) rfl rfl rfl rfl ?_
    refine On ?_
    refine AWR.cond rfl (fun hc17 => ?_) (fun hc17 => ?_)
    ·refine Ws (Wr ?_)
     refine asg (Iv (-1)) rfl ⟨rfl, rfl⟩ rfl rfl ?_
     refine On ?_
     refine AWR.ret ⟨rfl, FPost.mk (.inr rfl) ⟨rfl, trivial⟩ trivial rfl ⟨PermP.sc, trivial⟩ trivial⟩
    ·refine AWR.skip (Wr ?_)
     refine mv (Iv (w64 (s1.1 + 1))) rfl rfl rfl rfl ?_
     refine Op20 (LT.add rfl) rfl ⟨rfl, rfl⟩ rfl rfl ?_
     refine asg (Iv (w64 ((w64 (s1.1 + 1)) + 1))) rfl rfl rfl rfl ?_
     refine On (AWR.blk ?_)
     refine en [(0, (Cc (xF encTBar a))), (1, (Iv (w64 ((w64 (s1.1 + 1)) + 1)))), (5, (Iv s1.2))] [] ⟨rfl, rfl, rfl, trivial⟩ trivial ?_
     refine Wr ?_
     refine mv (Iv s1.2) rfl rfl rfl rfl ?_
     refine Op20 (LT.add rfl) rfl ⟨rfl, rfl⟩ rfl rfl ?_
     refine asg (Iv (w64 (s1.2 + 1))) rfl rfl rfl rfl ?_
     refine On ?_
     refine AWR.nil ⟨rfl, Ent.of ⟨rfl, rfl, rfl, trivial⟩ trivial⟩
  ·refine AWR.exit_end rfl ⟨rfl, Ent.of ⟨rfl, trivial⟩ trivial⟩
 ·refine Ws (Wr ?_)
  refine mv (Iv b12) rfl rfl rfl rfl ?_
  refine asg (Iv b12) rfl rfl rfl rfl ?_
  refine On ?_
  refine AWR.ret (FPost.mk (.inr rfl) ⟨rfl, trivial⟩ trivial rfl ⟨PermP.sc, trivial⟩ trivial)
end Go.Proofs.Ytghofbijdnenoaa
end
section
set_option linter.unusedVariables false
set_option linter.unusedSimpArgs false
set_option linter.unnecessarySimpa false
set_option maxRecDepth 100000
set_option maxHeartbeats 8000000
open Go Go.Fw
namespace Go.Proofs.Ytghofbijdnenoaa
theorem w_laws_heldGraph (a : TGraph) (k : Int) : ∀ t, m_laws_heldGraph a k = some t → Fw.Fn Try.prog 135 [(.agg [(iC a.Points), (xF encTBar a.Bars)]), (.c (iC k))] [] (.s (.c (iC t))) [] [] [] := by
 refine Fw.Fn.of (P := Try.prog) (X := []) (pn := []) (rs := (fun (t : Int) => [(.c (iC t))])) (dfs := (fun (t : Int) => [])) Try.func135 rfl Try.ntmps135 (Nat.le_of_ble_eq_true rfl) rfl ?_
 intro w0 U0 R0 g0
 unfold m_laws_heldGraph
 refine Ws (Wr ?_)
 refine Os10 (LT.box (n := 21) (v := (.agg [(iC a.Points), (xF encTBar a.Bars)])) rfl sz26 (by exact rfl)) rfl rfl rfl ?_
 refine asg (Iv 0) rfl ⟨rfl, rfl⟩ rfl rfl ?_
 refine On (Ws (Wr ?_))
 refine Op10 (LT.fieldPl rfl fo26_1) rfl rfl rfl ?_
 refine Op11 (LT.bload1 (c := (xF encTBar a.Bars)) rfl ag24 (by exact rfl)) rfl rfl rfl rfl ?_
 refine mv (Iv k) rfl rfl rfl rfl ?_
 refine Ob' fun r1 hr1 => ?_
 refine AOR.pure (@LT.callF Try.prog _ _ 214 _ _ [(.c (xF encTBar a.Bars)), (.c (iC k))] _ _ [] _ _ _ _ (w_laws_heldBarS a.Bars k r1 hr1) rfl cb214 (.cons (.c (.same rfl)) (.cons (.c (.same rfl)) .nil)) rfl rfl trivial) ⟨rfl, rfl, rfl, trivial⟩ trivial rfl rfl ?_
 refine asg (Iv r1) rfl rfl rfl rfl ?_
 refine On (Ws (Ws (Wr ?_)))
 refine mv (Iv r1) rfl rfl rfl rfl ?_
 refine Op20 (LT.lss rfl) rfl ⟨rfl, rfl⟩ rfl rfl ?_
 refine On ?_
 refine AWR.cond rfl (fun hc2 => ?_) (fun hc2 => ?_)
 ·refine Ws ?_
  refine en [] [] trivial trivial ?_
  refine Wr ?_
  refine asg (Iv (-1)) rfl ⟨rfl, rfl⟩ rfl rfl ?_
  refine On ?_
  refine AWR.ret (FPost.mk (.inr rfl) ⟨rfl, trivial⟩ trivial rfl ⟨PermP.sc, trivial⟩ trivial)
 ·refine AWR.skip (Ws ?_)
  refine en [(1, (Iv r1))] [] ⟨rfl, trivial⟩ trivial ?_
  refine Wr ?_
  refine mv (Iv r1) rfl rfl rfl rfl ?_
  refine asg (Iv r1) rfl rfl rfl rfl ?_
  refine On ?_
  refine AWR.ret (FPost.mk (.inr rfl) ⟨rfl, trivial⟩ trivial rfl ⟨PermP.sc, trivial⟩ trivial)
theorem w_laws_heldPlaceS (a : (List TPlace)) (k : Int) : ∀ t, m_laws_heldPlaceS a k = some t → Fw.Fn Try.prog 136 [(.c (xF encTPlace a)), (.c (iC k))] [] (.s (.c (iC t))) [] [] [] := by
 refine Fw.Fn.of (P := Try.prog) (X := []) (pn := []) (rs := (fun (t : Int) => [(.c (iC t))])) (dfs := (fun (t : Int) => [])) Try.func136 rfl Try.ntmps136 (Nat.le_of_ble_eq_true rfl) rfl ?_
 intro w0 U0 R0 g0
 unfold m_laws_heldPlaceS
 refine Ws (Wr ?_)
 refine asg (Iv 0) rfl ⟨rfl, rfl⟩ rfl rfl ?_
 refine On (Ws (Ws (Wr ?_)))
 refine asg (Iv 0) rfl ⟨rfl, rfl⟩ rfl rfl ?_
 refine On (AWR.block ?_)
 refine AWR.loopR (id := 0) (m_laws_heldPlaceS_L1 a) (fun s1 => ([(0, (Cc (xF encTPlace a))), (1, (Iv s1.1)), (5, (Iv s1.2))], [])) (fun b12 => ([(1, (Iv b12))], [])) (FPost Try.prog Try.f136.results.toList [] [] (fun (t : Int) => [(.c (iC t))]) (fun (t : Int) => [])) ?_ (Ent.of ⟨rfl, rfl, rfl, trivial⟩ trivial) rfl (fun b12 _ => ?_) (by intro r t σ m ht hk; injection ht with ht; subst ht; exact hk)
 ·intro s1
  unfold m_laws_heldPlaceS_L1
  refine Ws (Ws (Wr ?_))
  refine mv (Iv s1.2) rfl rfl rfl rfl ?_
  refine mv (Cc (xF encTPlace a)) rfl rfl rfl rfl ?_
  refine Op10 (LT.tlenRO rfl und27) rfl rfl rfl ?_
  refine Op20 (LT.lss rfl) rfl rfl rfl rfl ?_
  refine On ?_
  refine AWR.cond rfl (fun hc13 => ?_) (fun hc13 => ?_)
  ·refine AWR.skip (Ws (AWR.block (Ws (Ws (Wr ?_)))))
   refine mv (Cc (xF encTPlace a)) rfl rfl rfl rfl ?_
   refine mv (Iv s1.2) rfl rfl rfl rfl ?_
   refine Ob' fun x14 hx14 => ?_
   refine Op20 (LT.tindexRO (enc := encTPlace) rfl el27 hx14 sz94) rfl rfl rfl rfl ?_
   refine Op10 (LT.fieldPx rfl fo94_0) rfl rfl rfl ?_
   refine Op10 (LT.loadPx1 rfl ag3) rfl rfl rfl ?_
   refine mv (Iv s1.1) rfl rfl rfl rfl ?_
   refine Op20 (LT.neq rfl) rfl rfl rfl rfl ?_
   refine On ?_
   refine AWR.cond rfl (fun hc15 => ?_) (fun hc15 => ?_)
   ·refine Ws ?_
    refine en [] [] trivial trivial ?_
    refine Wr ?_
    refine asg (Iv (-1)) rfl ⟨rfl, rfl⟩ rfl rfl ?_
    refine On ?_
    refine AWR.ret ⟨rfl, FPost.mk (.inr rfl) ⟨rfl, trivial⟩ trivial rfl ⟨PermP.sc, trivial⟩ trivial⟩
   ·refine AWR.skip (Ws ?_)
    refine en [(0, (Cc (xF encTPlace a))), (1, (Iv s1.1)), (5, (Iv s1.2))] [] ⟨rfl, rfl, rfl, trivial⟩ trivial ?_
    refine Wr ?_
    refine mv (Iv s1.1) rfl rfl rfl rfl ?_
    refine Op20 (LT.add rfl) rfl ⟨rfl, rfl⟩ rfl rfl ?_
    refine asg (Iv (w64 (s1.1 + 1))) rfl rfl rfl rfl ?_
    refine On (Ws (Ws (Wr ?_)))
    refine mv (Cc (xF encTPlace a)) rfl rfl rfl rfl ?_
    refine mv (Iv s1.2) rfl rfl rfl rfl ?_
    refine Ob' fun x16 hx16 => ?_
    refine Op20 (LT.tindexRO (enc := encTPlace) rfl el27 hx16 sz94) rfl rfl rfl rfl ?_
    refine Op10 (LT.fieldPx rfl fo94_1) rfl rfl rfl ?_
    refine Op10 (LT.loadPx1 rfl ag3) rfl rfl rfl ?_
    refine mv (Iv (w64 (s1.1 + 1))) rfl rfl rfl rfl ?_
    refine Op20 (LT.neq rfl) rfl rfl rfl rfl ?_
    refine On ?_
    refine AWR.cond rfl (fun hc17 => ?_) (fun hc17 => ?_)
    ·refine Ws (Wr ?_)
     refine asg (Iv (-1)) rfl ⟨rfl, rfl⟩ rfl rfl ?_
     refine On ?_
     refine AWR.ret ⟨rfl, FPost.mk (.inr rfl) ⟨rfl, trivial⟩ trivial rfl ⟨PermP.sc, trivial⟩ trivial⟩
    ·refine AWR.skip (Wr ?_)
     refine mv (Iv (w64 (s1.1 + 1))) rfl rfl rfl rfl ?_
     refine Op20 (LT.add rfl) rfl ⟨rfl, rfl⟩ rfl rfl ?_
     refine asg (Iv (w64 ((w64 (s1.1 + 1)) + 1))) rfl rfl rfl rfl ?_
     refine On (AWR.blk ?_)
     refine en [(0, (Cc (xF encTPlace a))), (1, (Iv (w64 ((w64 (s1.1 + 1)) + 1)))), (5, (Iv s1.2))] [] ⟨rfl, rfl, rfl, trivial⟩ trivial ?_
     refine Wr ?_
     refine mv (Iv s1.2) rfl rfl rfl rfl ?_
     refine Op20 (LT.add rfl) rfl ⟨rfl, rfl⟩ rfl rfl ?_
     refine asg (Iv (w64 (s1.2 + 1))) rfl rfl rfl rfl ?_
     refine On ?_
     refine AWR.nil ⟨rfl, Ent.of ⟨rfl, rfl, rfl, trivial⟩ trivial⟩
  ·refine AWR.exit_end rfl ⟨rfl, Ent.of ⟨rfl, trivial⟩ trivial⟩
 ·refine Ws (Wr ?_)
  refine mv (Iv b12) rfl rfl rfl rfl ?_
  refine asg (Iv b12) rfl rfl rfl rfl ?_
  refine On ?_
  refine AWR.ret (FPost.mk (.inr rfl) ⟨rfl, trivial⟩ trivial rfl ⟨PermP.sc, trivial⟩ trivial)
theorem w_laws_heldFramework (a : TFramework) (k : Int) : ∀ t, m_laws_heldFramework a k = some t → Fw.Fn Try.prog 41 [(.agg [(iC a.Graph.Points), (xF encTBar a.Graph.Bars), (xF encTPlace a.Places)]), (.c (iC k))] [] (.s (.c (iC t))) [] [] [] := by
 refine Fw.Fn.of (P := Try.prog) (X := []) (pn := []) (rs := (fun (t : Int) => [(.c (iC t))])) (dfs := (fun (t : Int) => [])) Try.func41 rfl Try.ntmps41 (Nat.le_of_ble_eq_true rfl) rfl ?_
 intro w0 U0 R0 g0
 unfold m_laws_heldFramework
 refine Ws (Wr ?_)
 refine Os10 (LT.box (n := 21) (v := (.agg [(iC a.Graph.Points), (xF encTBar a.Graph.Bars), (xF encTPlace a.Places)])) rfl sz29 (by exact rfl)) rfl rfl rfl ?_
 refine asg (Iv 0) rfl ⟨rfl, rfl⟩ rfl rfl ?_
 refine On (Ws (Wr ?_))
 refine Op10 (LT.fieldPl rfl fo29_0) rfl rfl rfl ?_
 refine Op11 (LT.bloadN (out := [(iC a.Graph.Points), (xF encTBar a.Graph.Bars)]) rfl ag26 (infS inf26) sz26 (by exact rfl) (by exact rfl)) rfl rfl rfl rfl ?_
 refine mv (Iv k) rfl rfl rfl rfl ?_
 refine Ob' fun r1 hr1 => ?_
 refine AOR.pure (@LT.callF Try.prog _ _ 135 _ _ [(.agg [(iC a.Graph.Points), (xF encTBar a.Graph.Bars)]), (.c (iC k))] _ _ [] _ _ _ _ (w_laws_heldGraph a.Graph k r1 hr1) rfl cb135 (.cons (.agg (.cons (.same rfl) (.cons (.same rfl) .nil))) (.cons (.c (.same rfl)) .nil)) rfl rfl trivial) ⟨rfl, rfl, rfl, trivial⟩ trivial rfl rfl ?_
 refine asg (Iv r1) rfl rfl rfl rfl ?_
 refine On (Ws (Ws (Wr ?_)))
 refine mv (Iv r1) rfl rfl rfl rfl ?_
 refine Op20 (LT.lss rfl) rfl ⟨rfl, rfl⟩ rfl rfl ?_
 refine On ?_
 refine AWR.cond rfl (fun hc2 => ?_) (fun hc2 => ?_)
 ·refine Ws ?_
  refine en [] [] trivial trivial ?_
  refine Wr ?_
  refine asg (Iv (-1)) rfl ⟨rfl, rfl⟩ rfl rfl ?_
  refine On ?_
  refine AWR.ret (FPost.mk (.inr rfl) ⟨rfl, trivial⟩ trivial rfl ⟨PermP.sc, trivial⟩ trivial)
 ·refine AWR.skip (Ws ?_)
  refine en [(1, (Iv r1)), (2, (Cc (.pl 21 0)))] [(21, (.row 29 [[(iC a.Graph.Points), (xF encTBar a.Graph.Bars), (xF encTPlace a.Places)]]))] ⟨rfl, rfl, trivial⟩ ⟨rfl, trivial⟩ ?_
  refine Wr ?_
  refine Op10 (LT.fieldPl rfl fo29_1) rfl rfl rfl ?_
  refine Op11 (LT.bload1 (c := (xF encTPlace a.Places)) rfl ag27 (by exact rfl)) rfl rfl rfl rfl ?_
  refine mv (Iv r1) rfl rfl rfl rfl ?_
  refine Ob' fun r3 hr3 => ?_
  refine AOR.pure (@LT.callF Try.prog _ _ 136 _ _ [(.c (xF encTPlace a.Places)), (.c (iC r1))] _ _ [] _ _ _ _ (w_laws_heldPlaceS a.Places r1 r3 hr3) rfl cb136 (.cons (.c (.same rfl)) (.cons (.c (.same rfl)) .nil)) rfl rfl trivial) ⟨rfl, rfl, rfl, trivial⟩ trivial rfl rfl ?_
  refine asg (Iv r3) rfl rfl rfl rfl ?_
  refine On (Ws (Ws (Wr ?_)))
  refine mv (Iv r3) rfl rfl rfl rfl ?_
  refine Op20 (LT.lss rfl) rfl ⟨rfl, rfl⟩ rfl rfl ?_
  refine On ?_
  refine AWR.cond rfl (fun hc4 => ?_) (fun hc4 => ?_)
  ·refine Ws (Wr ?_)
   refine asg (Iv (-1)) rfl ⟨rfl, rfl⟩ rfl rfl ?_
   refine On ?_
   refine AWR.ret (FPost.mk (.inr rfl) ⟨rfl, trivial⟩ trivial rfl ⟨PermP.sc, trivial⟩ trivial)
  ·refine AWR.skip (Ws (Wr ?_))
   refine mv (Iv r3) rfl rfl rfl rfl ?_
   refine asg (Iv r3) rfl rfl rfl rfl ?_
   refine On ?_
   refine AWR.ret (FPost.mk (.inr rfl) ⟨rfl, trivial⟩ trivial rfl ⟨PermP.sc, trivial⟩ trivial)
theorem w_laws_FnExactGenericPlaces (aG : TGraph) (aSeed : Int) : ∀ t, m_laws_FnExactGenericPlaces aG aSeed = some t → Fw.Fn Try.prog 4 [(.agg [(iC aG.Points), (xF encTBar aG.Bars)]), (.c (iC aSeed))] [] (.s (.c (bC t))) [] [] [] := by
 refine Fw.Fn.of (P := Try.prog) (X := []) (pn := []) (rs := (fun (t : Bool) => [(.c (bC t))])) (dfs := (fun (t : Bool) => [])) Try.func4 rfl Try.ntmps4 (Nat.le_of_ble_eq_true rfl) rfl ?_
 intro w0 U0 R0 g0
 unfold m_laws_FnExactGenericPlaces
 refine Ws (Wr ?_)
 refine Os10 (LT.box (n := 21) (v := (.agg [(iC aG.Points), (xF encTBar aG.Bars)])) rfl sz50 (by exact rfl)) rfl rfl rfl ?_
 refine asg (Bv false) rfl ⟨rfl, rfl⟩ rfl rfl ?_
 refine On (Ws (Wr ?_))
 refine asg (Iv 1048576) rfl ⟨rfl, rfl⟩ rfl rfl ?_
 refine On (Ws (Wr ?_))
 refine Op11 (LT.bloadN (out := [(iC aG.Points), (xF encTBar aG.Bars)]) rfl ag50 (infS inf50) sz50 (by exact rfl) (by exact rfl)) rfl rfl rfl rfl ?_
 refine mv (Iv 1048576) rfl rfl rfl rfl ?_
 refine Ob' fun r1 hr1 => ?_
 refine AOR.pure (@LT.callF Try.prog _ _ 33 _ _ [(.agg [(iC aG.Points), (xF encTBar aG.Bars)]), (.c (iC 1048576))] _ _ [] _ _ _ _ (w_laws_szGraph aG 1048576 r1 hr1) rfl cb33 (.cons (.agg (.cons (.same rfl) (.cons (.same rfl) .nil))) (.cons (.c (.same rfl)) .nil)) rfl rfl trivial) ⟨rfl, rfl, rfl, trivial⟩ trivial rfl rfl ?_
 refine asg (Iv r1) rfl rfl rfl rfl ?_
 refine On (Ws (Ws (Wr ?_)))
 refine mv (Iv r1) rfl rfl rfl rfl ?_
 refine Op20 (LT.lss rfl) rfl ⟨rfl, rfl⟩ rfl rfl ?_
 refine On ?_
 refine AWR.cond rfl (fun hc2 => ?_) (fun hc2 => ?_)
 ·refine Ws ?_
  refine en [] [] trivial trivial ?_
  refine Wr ?_
  refine asg (Bv true) rfl ⟨rfl, rfl⟩ rfl rfl ?_
  refine On ?_
  refine AWR.ret (FPost.mk (.inr rfl) ⟨rfl, trivial⟩ trivial rfl ⟨PermP.sc, trivial⟩ trivial)
 ·refine AWR.skip (Ws ?_)
  refine en [(1, (Iv aSeed)), (2, (Cc (.pl 21 0)))] [(21, (.row 50 [[(iC aG.Points), (xF encTBar aG.Bars)]]))] ⟨rfl, rfl, trivial⟩ ⟨rfl, trivial⟩ ?_
  refine Wr ?_
  refine Op11 (LT.bloadN (out := [(iC aG.Points), (xF encTBar aG.Bars)]) rfl ag50 (infS inf50) sz50 (by exact rfl) (by exact rfl)) rfl rfl rfl rfl ?_
  refine Ob' fun r3 hr3 => ?_
  refine AOR.step (@LT.callF Try.prog _ _ 35 _ _ [(.agg [(iC aG.Points), (xF encTBar aG.Bars)])] _ _ [] _ _ _ _ ((show Fw.Fn Try.prog 35 [(.agg [(iC aG.Points), (xF encTBar aG.Bars)])] [] (Ag  [(iC r3.Points), (lo 24 r3.Bars.length)]) [(24, (pR 62 encTBar r3.Bars))] [] [24] from Fw.Fn.ren [(0, 24)] (w_laws_toGraph aG r3 hr3) rfl)) rfl cb35 (.cons (.agg (.cons (.same rfl) (.cons (.same rfl) .nil))) .nil) rfl rfl trivial) ⟨rfl, rfl, trivial⟩ trivial rfl rfl ?_
  refine mv (Iv aSeed) rfl rfl rfl rfl ?_
  refine Ob' fun r4 hr4 => ?_
  refine AOR.step (@LT.callF Try.prog _ _ 34 _ _ [(.agg [(iC r3.Points), (lo 24 r3.Bars.length)]), (.c (iC aSeed))] _ _ [(24, (pR 62 encTBar r3.Bars))] _ _ _ _ ((show Fw.Fn Try.prog 34 [(.agg [(iC r3.Points), (xF encTBar r3.Bars)]), (.c (iC aSeed))] [] (.tup [(.agg [(iC r4.1.Graph.Points), (lo 26 r4.1.Graph.Bars.length), (lo 27 r4.1.Places.length)]), (.c (iC r4.2.1)), (.c (bC r4.2.2))]) [(26, (pR 62 encTBar r4.1.Graph.Bars)), (27, (pR 94 encTPlace r4.1.Places))] [] [26, 27] from Fw.Fn.ren [(0, 26), (1, 27)] (w_spec_GenericPlaces r3 aSeed r4 hr4) rfl)) rfl cb34 (.cons (.agg (.cons (.same rfl) (.cons (.tloc rfl rfl) .nil))) (.cons (.c (.same rfl)) .nil)) rfl rfl trivial) ⟨rfl, rfl, rfl, trivial⟩ ⟨rfl, trivial⟩ rfl rfl ?_
  refine mv (.tup [(.agg [(iC r4.1.Graph.Points), (lo 26 r4.1.Graph.Bars.length), (lo 27 r4.1.Places.length)]), (.c (iC r4.2.1)), (.c (bC r4.2.2))]) rfl rfl rfl rfl ?_
  refine Op10 (LT.extract (v := (.agg [(iC r4.1.Graph.Points), (lo 26 r4.1.Graph.Bars.length), (lo 27 r4.1.Places.length)])) rfl (by exact rfl)) rfl rfl rfl ?_
  refine Op10 (LT.extract (v := (.c (iC r4.2.1))) rfl (by exact rfl)) rfl rfl rfl ?_
  refine Op10 (LT.extract (v := (.c (bC r4.2.2))) rfl (by exact rfl)) rfl rfl rfl ?_
  refine Os00 (LT.alloc (n := 28) (cells := [(iC 0), (sC nilV), (sC nilV)]) rfl ti29 rfl rfl rfl) rfl rfl ?_
  refine Os21 (LT.bstore (v := (.agg [(iC r4.1.Graph.Points), (lo 26 r4.1.Graph.Bars.length), (lo 27 r4.1.Places.length)])) (out := [(iC r4.1.Graph.Points), (lo 26 r4.1.Graph.Bars.length), (lo 27 r4.1.Places.length)]) rfl rfl (infS inf29) sz29 (by exact rfl) (by exact Nat.le_of_ble_eq_true rfl) (by exact rfl)) rfl rfl rfl rfl rfl ?_
  refine asg (Iv r4.2.1) rfl rfl rfl rfl ?_
  refine asg (Bv r4.2.2) rfl rfl rfl rfl ?_
  refine On (Ws ?_)
  refine en [(1, (Iv aSeed)), (2, (Cc (.pl 21 0))), (6, (Cc (.pl 28 0))), (7, (Iv r4.2.1)), (8, (Bv r4.2.2))] [(21, (.row 50 [[(iC aG.Points), (xF encTBar aG.Bars)]])), (26, (pR 62 encTBar r4.1.Graph.Bars)), (27, (pR 94 encTPlace r4.1.Places)), (28, (.row 29 [[(iC r4.1.Graph.Points), (lo 26 r4.1.Graph.Bars.length), (lo 27 r4.1.Places.length)]]))] ⟨rfl, rfl, rfl, rfl, rfl, trivial⟩ ⟨rfl, rfl, rfl, rfl, trivial⟩ ?_
  refine Wr ?_
  refine Op11 (LT.bloadN (out := [(iC aG.Points), (xF encTBar aG.Bars)]) rfl ag50 (infS inf50) sz50 (by exact rfl) (by exact rfl)) rfl rfl rfl rfl ?_
  refine Ob' fun r5 hr5 => ?_
  refine AOR.step (@LT.callF Try.prog _ _ 35 _ _ [(.agg [(iC aG.Points), (xF encTBar aG.Bars)])] _ _ [] _ _ _ _ ((show Fw.Fn Try.prog 35 [(.agg [(iC aG.Points), (xF encTBar aG.Bars)])] [] (Ag  [(iC r5.Points), (lo 30 r5.Bars.length)]) [(30, (pR 62 encTBar r5.Bars))] [] [30] from Fw.Fn.ren [(0, 30)] (w_laws_toGraph aG r5 hr5) rfl)) rfl cb35 (.cons (.agg (.cons (.same rfl) (.cons (.same rfl) .nil))) .nil) rfl rfl trivial) ⟨rfl, rfl, trivial⟩ trivial rfl rfl ?_
  refine Os00 (LT.alloc (n := 31) (cells := [(iC 0), (sC nilV)]) rfl ti26 rfl rfl rfl) rfl rfl ?_
  refine Os21 (LT.bstore (v := (.agg [(iC r5.Points), (lo 30 r5.Bars.length)])) (out := [(iC r5.Points), (lo 30 r5.Bars.length)]) rfl rfl (infS inf26) sz26 (by exact rfl) (by exact Nat.le_of_ble_eq_true rfl) (by exact rfl)) rfl rfl rfl rfl rfl ?_
  refine On (Ws (Wr ?_))
  refine Op11 (LT.bloadN (out := [(iC r5.Points), (lo 30 r5.Bars.length)]) rfl ag26 (infS inf26) sz26 (by exact rfl) (by exact rfl)) rfl rfl rfl rfl ?_
  refine mv (Iv aSeed) rfl rfl rfl rfl ?_
  refine Ob' fun r6 hr6 => ?_
  refine AOR.step (@LT.callF Try.prog _ _ 36 _ _ [(.agg [(iC r5.Points), (lo 30 r5.Bars.length)]), (.c (iC aSeed))] _ _ [(30, (pR 62 encTBar r5.Bars))] _ _ _ _ ((show Fw.Fn Try.prog 36 [(.agg [(iC r5.Points), (xF encTBar r5.Bars)]), (.c (iC aSeed))] [] (.tup [(.agg [(iC r6.1.Graph.Points), (lo 33 r6.1.Graph.Bars.length), (lo 34 r6.1.Places.length)]), (.c (iC r6.2.1)), (.c (bC r6.2.2))]) [(33, (pR 62 encTBar r6.1.Graph.Bars)), (34, (pR 94 encTPlace r6.1.Places))] [] [33, 34] from Fw.Fn.ren [(0, 33), (1, 34)] (w_impl_GenericPlaces r5 aSeed r6 hr6) rfl)) rfl cb36 (.cons (.agg (.cons (.same rfl) (.cons (.tloc rfl rfl) .nil))) (.cons (.c (.same rfl)) .nil)) rfl rfl trivial) ⟨rfl, rfl, rfl, trivial⟩ ⟨rfl, trivial⟩ rfl rfl ?_
  refine mv (.tup [(.agg [(iC r6.1.Graph.Points), (lo 33 r6.1.Graph.Bars.length), (lo 34 r6.1.Places.length)]), (.c (iC r6.2.1)), (.c (bC r6.2.2))]) rfl rfl rfl rfl ?_
  refine Op10 (LT.extract (v := (.agg [(iC r6.1.Graph.Points), (lo 33 r6.1.Graph.Bars.length), (lo 34 r6.1.Places.length)])) rfl (by exact rfl)) rfl rfl rfl ?_
  refine Op10 (LT.extract (v := (.c (iC r6.2.1))) rfl (by exact rfl)) rfl rfl rfl ?_
  refine Op10 (LT.extract (v := (.c (bC r6.2.2))) rfl (by exact rfl)) rfl rfl rfl ?_
  refine Os00 (LT.alloc (n := 35) (cells := [(iC 0), (sC nilV), (sC nilV)]) rfl ti29 rfl rfl rfl) rfl rfl ?_
  refine Os21 (LT.bstore (v := (.agg [(iC r6.1.Graph.Points), (lo 33 r6.1.Graph.Bars.length), (lo 34 r6.1.Places.length)])) (out := [(iC r6.1.Graph.Points), (lo 33 r6.1.Graph.Bars.length), (lo 34 r6.1.Places.length)]) rfl rfl (infS inf29) sz29 (by exact rfl) (by exact Nat.le_of_ble_eq_true rfl) (by exact rfl)) rfl rfl rfl rfl rfl ?_
  refine asg (Iv r6.2.1) rfl rfl rfl rfl ?_
  refine asg (Bv r6.2.2) rfl rfl rfl rfl ?_
  refine On (Ws (Ws ?_))
  refine AWR.joinK (fun j10 => ([(1, (Iv aSeed)), (2, (Cc (.pl 21 0))), (6, (Cc (.pl 28 0))), (7, (Iv r4.2.1)), (8, (Bv r4.2.2)), (9, (Cc (.pl 31 0))), (10, (Cc (.pl 35 0))), (11, (Iv r6.2.1)), (12, (Bv r6.2.2)), (54, (Bv j10))], [(21, (.row 50 [[(iC aG.Points), (xF encTBar aG.Bars)]])), (26, (pR 62 encTBar r4.1.Graph.Bars)), (27, (pR 94 encTPlace r4.1.Places)), (28, (.row 29 [[(iC r4.1.Graph.Points), (lo 26 r4.1.Graph.Bars.length), (lo 27 r4.1.Places.length)]])), (30, (pR 62 encTBar r5.Bars)), (31, (.row 26 [[(iC r5.Points), (lo 30 r5.Bars.length)]])), (33, (pR 62 encTBar r6.1.Graph.Bars)), (34, (pR 94 encTPlace r6.1.Places)), (35, (.row 29 [[(iC r6.1.Graph.Points), (lo 33 r6.1.Graph.Bars.length), (lo 34 r6.1.Places.length)]]))])) ?_ (fun j10 _ => ?_)
  ·refine en [(1, (Iv aSeed)), (2, (Cc (.pl 21 0))), (6, (Cc (.pl 28 0))), (7, (Iv r4.2.1)), (8, (Bv r4.2.2)), (9, (Cc (.pl 31 0))), (10, (Cc (.pl 35 0))), (11, (Iv r6.2.1)), (12, (Bv r6.2.2))] [(21, (.row 50 [[(iC aG.Points), (xF encTBar aG.Bars)]])), (26, (pR 62 encTBar r4.1.Graph.Bars)), (27, (pR 94 encTPlace r4.1.Places)), (28, (.row 29 [[(iC r4.1.Graph.Points), (lo 26 r4.1.Graph.Bars.length), (lo 27 r4.1.Places.length)]])), (30, (pR 62 encTBar r5.Bars)), (31, (.row 26 [[(iC r5.Points), (lo 30 r5.Bars.length)]])), (33, (pR 62 encTBar r6.1.Graph.Bars)), (34, (pR 94 encTPlace r6.1.Places)), (35, (.row 29 [[(iC r6.1.Graph.Points), (lo 33 r6.1.Graph.Bars.length), (lo 34 r6.1.Places.length)]]))] ⟨rfl, rfl, rfl, rfl, rfl, rfl, rfl, rfl, rfl, trivial⟩ ⟨rfl, rfl, rfl, rfl, rfl, rfl, rfl, rfl, rfl, trivial⟩ ?_
   refine Wr ?_
   refine Op11 (LT.bloadN (out := [(iC r6.1.Graph.Points), (lo 33 r6.1.Graph.Bars.length), (lo 34 r6.1.Places.length)]) rfl ag29 (infS inf29) sz29 (by exact rfl) (by exact rfl)) rfl rfl rfl rfl ?_
   refine Op11 (LT.bloadN (out := [(iC r4.1.Graph.Points), (lo 26 r4.1.Graph.Bars.length), (lo 27 r4.1.Places.length)]) rfl ag29 (infS inf29) sz29 (by exact rfl) (by exact rfl)) rfl rfl rfl rfl ?_
   refine Ob' fun r11 hr11 => ?_
   refine AOR.pure (@LT.callF Try.prog _ _ 37 _ _ [(.agg [(iC r6.1.Graph.Points), (lo 33 r6.1.Graph.Bars.length), (lo 34 r6.1.Places.length)]), (.agg [(iC r4.1.Graph.Points), (lo 26 r4.1.Graph.Bars.length), (lo 27 r4.1.Places.length)])] _ _ [(33, (pR 62 encTBar r6.1.Graph.Bars)), (34, (pR 94 encTPlace r6.1.Places)), (26, (pR 62 encTBar r4.1.Graph.Bars)), (27, (pR 94 encTPlace r4.1.Places))] _ _ _ _ (w_laws_eqFramework r6.1 r4.1 r11 hr11) rfl cb37 (.cons (.agg (.cons (.same rfl) (.cons (.tloc rfl rfl) (.cons (.tloc rfl rfl) .nil)))) (.cons (.agg (.cons (.same rfl) (.cons (.tloc rfl rfl) (.cons (.tloc rfl rfl) .nil)))) .nil)) rfl rfl trivial) ⟨rfl, rfl, rfl, trivial⟩ ⟨rfl, rfl, rfl, rfl, trivial⟩ rfl rfl ?_
   refine Op10 (LT.not rfl) rfl rfl rfl ?_
   refine mv (Bv (!r11)) rfl rfl rfl rfl ?_
   refine AOR.split (fun hb12 => ?_) (fun hb12 => ?_)
   ·refine Ok rfl rfl rfl (by rw [hb12]; rfl) rfl ?_
    refine Ok rfl rfl rfl (by rw [hb12]; rfl) rfl ?_
    refine Ok rfl rfl rfl (by rw [hb12]; rfl) rfl ?_
    refine Op20 (LT.pickT (v := (Bv true)) rfl hb12) rfl ⟨rfl, rfl⟩ rfl rfl ?_
    refine mv (Bv true) rfl rfl rfl rfl ?_
    refine Ok rfl rfl rfl rfl rfl ?_
    refine Ok rfl rfl rfl rfl rfl ?_
    refine Ok rfl rfl rfl rfl rfl ?_
    refine Op20 (LT.pickT (v := (Bv true)) rfl rfl) rfl ⟨rfl, rfl⟩ rfl rfl ?_
    refine On ?_
    refine AWR.nil ⟨rfl, Ent.of ⟨rfl, rfl, rfl, rfl, rfl, rfl, rfl, rfl, rfl, rfl, trivial⟩ ⟨rfl, rfl, rfl, rfl, rfl, rfl, rfl, rfl, rfl, trivial⟩⟩
   ·refine mv (Iv r6.2.1) rfl rfl ⟨_, rfl, .inl ⟨_, rfl, (by rw [hb12]; rfl)⟩⟩ rfl ?_
    refine mv (Iv r4.2.1) rfl rfl ⟨_, rfl, .inl ⟨_, rfl, (by rw [hb12]; rfl)⟩⟩ rfl ?_
    refine Op20 (LT.neq rfl) rfl rfl ⟨_, rfl, .inl ⟨_, rfl, (by rw [hb12]; rfl)⟩⟩ rfl ?_
    refine Op20 (LT.pickF (v := (Bv (r6.2.1 != r4.2.1))) rfl hb12) rfl rfl rfl rfl ?_
    refine mv (Bv (r6.2.1 != r4.2.1)) rfl rfl rfl rfl ?_
    refine AOR.split (fun hb13 => ?_) (fun hb13 => ?_)
    ·refine Ok rfl rfl rfl (by rw [hb13]; rfl) rfl ?_
     refine Ok rfl rfl rfl (by rw [hb13]; rfl) rfl ?_
     refine Ok rfl rfl rfl (by rw [hb13]; rfl) rfl ?_
     refine Op20 (LT.pickT (v := (Bv true)) rfl hb13) rfl ⟨rfl, rfl⟩ rfl rfl ?_
     refine On ?_
     refine AWR.nil ⟨rfl, Ent.of ⟨rfl, rfl, rfl, rfl, rfl, rfl, rfl, rfl, rfl, rfl, trivial⟩ ⟨rfl, rfl, rfl, rfl, rfl, rfl, rfl, rfl, rfl, trivial⟩⟩
    ·refine mv (Bv r6.2.2) rfl rfl ⟨_, rfl, .inl ⟨_, rfl, (by rw [hb13]; rfl)⟩⟩ rfl ?_
     refine mv (Bv r4.2.2) rfl rfl ⟨_, rfl, .inl ⟨_, rfl, (by rw [hb13]; rfl)⟩⟩ rfl ?_
     refine Op20 (LT.neqB rfl und4) rfl rfl ⟨_, rfl, .inl ⟨_, rfl, (by rw [hb13]; rfl)⟩⟩ rfl ?_
     refine Op20 (LT.pickF (v := (Bv (r6.2.2 != r4.2.2))) rfl hb13) rfl rfl rfl rfl ?_
     refine On ?_
     refine AWR.nil ⟨rfl, Ent.of ⟨rfl, rfl, rfl, rfl, rfl, rfl, rfl, rfl, rfl, rfl, trivial⟩ ⟨rfl, rfl, rfl, rfl, rfl, rfl, rfl, rfl, rfl, trivial⟩⟩
  ·refine AWR.cond rfl (fun hc14 => ?_) (fun hc14 => ?_)
   ·refine Ws (Wr ?_)
    refine asg (Bv false) rfl ⟨rfl, rfl⟩ rfl rfl ?_
    refine On ?_
    refine AWR.ret (FPost.mk (.inr rfl) ⟨rfl, trivial⟩ trivial rfl ⟨PermP.sc, trivial⟩ trivial)
   ·refine AWR.skip (Ws (Ws (AWR.draw mixed ?_)))
    refine Dp11 (LT.bloadN (out := [(iC r5.Points), (lo 30 r5.Bars.length)]) rfl ag26 (infS inf26) sz26 (by exact rfl) (by exact rfl)) rfl rfl rfl rfl ?_
    refine Dp11 (LT.bloadN (out := [(iC aG.Points), (xF encTBar aG.Bars)]) rfl ag50 (infS inf50) sz50 (by exact rfl) (by exact rfl)) rfl rfl rfl rfl ?_
    refine AOD.bind fun r15 hr15 => ?_
    refine AOD.step (@LT.callF Try.prog _ _ 35 _ _ [(.agg [(iC aG.Points), (xF encTBar aG.Bars)])] _ _ [] _ _ _ _ ((show Fw.Fn Try.prog 35 [(.agg [(iC aG.Points), (xF encTBar aG.Bars)])] [] (Ag  [(iC r15.Points), (lo 38 r15.Bars.length)]) [(38, (pR 62 encTBar r15.Bars))] [] [38] from Fw.Fn.ren [(0, 38)] (w_laws_toGraph aG r15 hr15) rfl)) rfl cb35 (.cons (.agg (.cons (.same rfl) (.cons (.same rfl) .nil))) .nil) rfl rfl trivial) ⟨rfl, rfl, trivial⟩ trivial rfl rfl ?_
    refine AOD.bind fun r16 hr16 => ?_
    refine AOD.pure (@LT.callF Try.prog _ _ 38 _ _ [(.agg [(iC r5.Points), (lo 30 r5.Bars.length)]), (.agg [(iC r15.Points), (lo 38 r15.Bars.length)])] _ _ [(30, (pR 62 encTBar r5.Bars)), (38, (pR 62 encTBar r15.Bars))] _ _ _ _ (w_laws_eqGraph r5 r15 r16 hr16) rfl cb38 (.cons (.agg (.cons (.same rfl) (.cons (.tloc rfl rfl) .nil))) (.cons (.agg (.cons (.same rfl) (.cons (.tloc rfl rfl) .nil))) .nil)) rfl rfl trivial) ⟨rfl, rfl, rfl, trivial⟩ ⟨rfl, rfl, trivial⟩ rfl rfl ?_
    refine Dp10 (LT.not rfl) rfl rfl rfl ?_
    refine AOD.nil (by kernel_rfl) ?_
    refine AWR.cond rfl (fun hc17 => ?_) (fun hc17 => ?_)
    ·refine Ws (Wr ?_)
     refine asg (Bv false) rfl ⟨rfl, rfl⟩ rfl rfl ?_
     refine On ?_
     refine AWR.ret (FPost.mk (.inr rfl) ⟨rfl, trivial⟩ trivial rfl ⟨PermP.sc, trivial⟩ trivial)
    ·refine AWR.skip (Ws (Wr ?_))
     refine asg (Iv 1) rfl ⟨rfl, rfl⟩ rfl rfl ?_
     refine On (Ws (Wr ?_))
     refine Op11 (LT.bloadN (out := [(iC r5.Points), (lo 30 r5.Bars.length)]) rfl ag26 (infS inf26) sz26 (by exact rfl) (by exact rfl)) rfl rfl rfl rfl ?_
     refine mv (Iv 1) rfl rfl rfl rfl ?_
     refine Ob' fun r18 hr18 => ?_
     refine AOR.step (@LT.callF Try.prog _ _ 39 _ _ [(.agg [(iC r5.Points), (lo 30 r5.Bars.length)]), (.c (iC 1))] _ _ [] _ _ _ _ ((show Fw.Fn Try.prog 39 [(.agg [(iC r5.Points), (lo 30 r5.Bars.length)]), (.c (iC 1))] [(30, (pR 62 encTBar r5.Bars))] (Iv r18.1) [(30, (pR 62 encTBar r18.2))] [30] [] from Fw.Fn.ren [(0, 30)] (w_laws_markGraph r5 1 r18 hr18) rfl)) rfl cb39 (.cons (.agg (.cons (.same rfl) (.cons (.same rfl) .nil))) (.cons (.c (.same rfl)) .nil)) rfl rfl ⟨rfl, trivial⟩) ⟨rfl, rfl, rfl, trivial⟩ ⟨rfl, trivial⟩ rfl rfl ?_
     refine asg (Iv r18.1) rfl rfl rfl rfl ?_
     refine On (Ws (Ws ?_))
     refine AWR.joinK (fun j23 => ([(1, (Iv aSeed)), (2, (Cc (.pl 21 0))), (6, (Cc (.pl 28 0))), (7, (Iv r4.2.1)), (8, (Bv r4.2.2)), (10, (Cc (.pl 35 0))), (80, (Bv j23))], [(21, (.row 50 [[(iC aG.Points), (xF encTBar aG.Bars)]])), (26, (pR 62 encTBar r4.1.Graph.Bars)), (27, (pR 94 encTPlace r4.1.Places)), (28, (.row 29 [[(iC r4.1.Graph.Points), (lo 26 r4.1.Graph.Bars.length), (lo 27 r4.1.Places.length)]])), (33, (pR 62 encTBar r6.1.Graph.Bars)), (34, (pR 94 encTPlace r6.1.Places)), (35, (.row 29 [[(iC r6.1.Graph.Points), (lo 33 r6.1.Graph.Bars.length), (lo 34 r6.1.Places.length)]]))])) ?_ (fun j23 _ => ?_)
     ·refine en [(1, (Iv aSeed)), (2, (Cc (.pl 21 0))), (6, (Cc (.pl 28 0))), (7, (Iv r4.2.1)), (8, (Bv r4.2.2)), (10, (Cc (.pl 35 0))), (11, (Iv r6.2.1)), (12, (Bv r6.2.2)), (13, (Iv r18.1))] [(21, (.row 50 [[(iC aG.Points), (xF encTBar aG.Bars)]])), (26, (pR 62 encTBar r4.1.Graph.Bars)), (27, (pR 94 encTPlace r4.1.Places)), (28, (.row 29 [[(iC r4.1.Graph.Points), (lo 26 r4.1.Graph.Bars.length), (lo 27 r4.1.Places.length)]])), (33, (pR 62 encTBar r6.1.Graph.Bars)), (34, (pR 94 encTPlace r6.1.Places)), (35, (.row 29 [[(iC r6.1.Graph.Points), (lo 33 r6.1.Graph.Bars.length), (lo 34 r6.1.Places.length)]]))] ⟨rfl, rfl, rfl, rfl, rfl, rfl, rfl, rfl, rfl, trivial⟩ ⟨rfl, rfl, rfl, rfl, rfl, rfl, rfl, trivial⟩ ?_
      refine Wr ?_
      refine mv (Iv r18.1) rfl rfl rfl rfl ?_
      refine Op20 (LT.lss rfl) rfl ⟨rfl, rfl⟩ rfl rfl ?_
      refine mv (Bv (decide (r18.1 < 0))) rfl rfl rfl rfl ?_
      refine AOR.split (fun hb24 => ?_) (fun hb24 => ?_)
      ·refine Ok rfl rfl rfl (by rw [hb24]; rfl) rfl ?_
       refine Ok rfl rfl rfl (by rw [hb24]; rfl) rfl ?_
       refine Ok rfl rfl rfl (by rw [hb24]; rfl) rfl ?_
       refine Ok rfl rfl rfl (by rw [hb24]; rfl) rfl ?_
       refine Op20 (LT.pickT (v := (Bv true)) rfl hb24) rfl ⟨rfl, rfl⟩ rfl rfl ?_
       refine mv (Bv true) rfl rfl rfl rfl ?_
       refine Ok rfl rfl rfl rfl rfl ?_
       refine Ok rfl rfl rfl rfl rfl ?_
       refine Ok rfl rfl rfl rfl rfl ?_
       refine Op20 (LT.pickT (v := (Bv true)) rfl rfl) rfl ⟨rfl, rfl⟩ rfl rfl ?_
       refine mv (Bv true) rfl rfl rfl rfl ?_
       refine Ok rfl rfl rfl rfl rfl ?_
       refine Ok rfl rfl rfl rfl rfl ?_
       refine Ok rfl rfl rfl rfl rfl ?_
       refine Op20 (LT.pickT (v := (Bv true)) rfl rfl) rfl ⟨rfl, rfl⟩ rfl rfl ?_
       refine On ?_
       refine AWR.nil ⟨rfl, Ent.of ⟨rfl, rfl, rfl, rfl, rfl, rfl, rfl, trivial⟩ ⟨rfl, rfl, rfl, rfl, rfl, rfl, rfl, trivial⟩⟩
      ·refine Op11 (LT.bloadN (out := [(iC r6.1.Graph.Points), (lo 33 r6.1.Graph.Bars.length), (lo 34 r6.1.Places.length)]) rfl ag29 (infS inf29) sz29 (by exact rfl) (by exact rfl)) rfl rfl ⟨_, rfl, .inl ⟨_, rfl, (by rw [hb24]; rfl)⟩⟩ rfl ?_
       refine Op11 (LT.bloadN (out := [(iC r4.1.Graph.Points), (lo 26 r4.1.Graph.Bars.length), (lo 27 r4.1.Places.length)]) rfl ag29 (infS inf29) sz29 (by exact rfl) (by exact rfl)) rfl rfl ⟨_, rfl, .inl ⟨_, rfl, (by rw [hb24]; rfl)⟩⟩ rfl ?_
       refine Ob' fun r25 hr25 => ?_
       refine AOR.pure (@LT.callF Try.prog _ _ 37 _ _ [(.agg [(iC r6.1.Graph.Points), (lo 33 r6.1.Graph.Bars.length), (lo 34 r6.1.Places.length)]), (.agg [(iC r4.1.Graph.Points), (lo 26 r4.1.Graph.Bars.length), (lo 27 r4.1.Places.length)])] _ _ [(33, (pR 62 encTBar r6.1.Graph.Bars)), (34, (pR 94 encTPlace r6.1.Places)), (26, (pR 62 encTBar r4.1.Graph.Bars)), (27, (pR 94 encTPlace r4.1.Places))] _ _ _ _ (w_laws_eqFramework r6.1 r4.1 r25 hr25) rfl cb37 (.cons (.agg (.cons (.same rfl) (.cons (.tloc rfl rfl) (.cons (.tloc rfl rfl) .nil)))) (.cons (.agg (.cons (.same rfl) (.cons (.tloc rfl rfl) (.cons (.tloc rfl rfl) .nil)))) .nil)) rfl rfl trivial) ⟨rfl, rfl, rfl, trivial⟩ ⟨rfl, rfl, rfl, rfl, trivial⟩ ⟨_, rfl, .inl ⟨_, rfl, (by rw [hb24]; rfl)⟩⟩ rfl ?_
       refine Op10 (LT.not rfl) rfl ⟨_, rfl, .inl ⟨_, rfl, (by rw [hb24]; rfl)⟩⟩ rfl ?_
       refine Op20 (LT.pickF (v := (Bv (!r25))) rfl hb24) rfl rfl rfl rfl ?_
       refine mv (Bv (!r25)) rfl rfl rfl rfl ?_
       refine AOR.split (fun hb26 => ?_) (fun hb26 => ?_)
       ·refine Ok rfl rfl rfl (by rw [hb26]; rfl) rfl ?_
        refine Ok rfl rfl rfl (by rw [hb26]; rfl) rfl ?_
        refine Ok rfl rfl rfl (by rw [hb26]; rfl) rfl ?_
        refine Op20 (LT.pickT (v := (Bv true)) rfl hb26) rfl ⟨rfl, rfl⟩ rfl rfl ?_
        refine mv (Bv true) rfl rfl rfl rfl ?_
        refine Ok rfl rfl rfl rfl rfl ?_
        refine Ok rfl rfl rfl rfl rfl ?_
        refine Ok rfl rfl rfl rfl rfl ?_
        refine Op20 (LT.pickT (v := (Bv true)) rfl rfl) rfl ⟨rfl, rfl⟩ rfl rfl ?_
        refine On ?_
        refine AWR.nil ⟨rfl, Ent.of ⟨rfl, rfl, rfl, rfl, rfl, rfl, rfl, trivial⟩ ⟨rfl, rfl, rfl, rfl, rfl, rfl, rfl, trivial⟩⟩
       ·refine mv (Iv r6.2.1) rfl rfl ⟨_, rfl, .inl ⟨_, rfl, (by rw [hb26]; rfl)⟩⟩ rfl ?_
        refine mv (Iv r4.2.1) rfl rfl ⟨_, rfl, .inl ⟨_, rfl, (by rw [hb26]; rfl)⟩⟩ rfl ?_
        refine Op20 (LT.neq rfl) rfl rfl ⟨_, rfl, .inl ⟨_, rfl, (by rw [hb26]; rfl)⟩⟩ rfl ?_
        refine Op20 (LT.pickF (v := (Bv (r6.2.1 != r4.2.1))) rfl hb26) rfl rfl rfl rfl ?_
        refine mv (Bv (r6.2.1 != r4.2.1)) rfl rfl rfl rfl ?_
        refine AOR.split (fun hb27 => ?_) (fun hb27 => ?_)
        ·refine Ok rfl rfl rfl (by rw [hb27]; rfl) rfl ?_
         refine Ok rfl rfl rfl (by rw [hb27]; rfl) rfl ?_
         refine Ok rfl rfl rfl (by rw [hb27]; rfl) rfl ?_
         refine Op20 (LT.pickT (v := (Bv true)) rfl hb27) rfl ⟨rfl, rfl⟩ rfl rfl ?_
         refine On ?_
         refine AWR.nil ⟨rfl, Ent.of ⟨rfl, rfl, rfl, rfl, rfl, rfl, rfl, trivial⟩ ⟨rfl, rfl, rfl, rfl, rfl, rfl, rfl, trivial⟩⟩
        ·refine mv (Bv r6.2.2) rfl rfl ⟨_, rfl, .inl ⟨_, rfl, (by rw [hb27]; rfl)⟩⟩ rfl ?_
         refine mv (Bv r4.2.2) rfl rfl ⟨_, rfl, .inl ⟨_, rfl, (by rw [hb27]; rfl)⟩⟩ rfl ?_
         refine Op20 (LT.neqB rfl und4) rfl rfl ⟨_, rfl, .inl ⟨_, rfl, (by rw [hb27]; rfl)⟩⟩ rfl ?_
         refine Op20 (LT.pickF (v := (Bv (r6.2.2 != r4.2.2))) rfl hb27) rfl rfl rfl rfl ?_
         refine On ?_
         refine AWR.nil ⟨rfl, Ent.of ⟨rfl, rfl, rfl, rfl, rfl, rfl, rfl, trivial⟩ ⟨rfl, rfl, rfl, rfl, rfl, rfl, rfl, trivial⟩⟩
     ·refine AWR.cond rfl (fun hc28 => ?_) (fun hc28 => ?_)
      ·refine Ws (Wr ?_)
       refine asg (Bv false) rfl ⟨rfl, rfl⟩ rfl rfl ?_
       refine On ?_
       refine AWR.ret (FPost.mk (.inr rfl) ⟨rfl, trivial⟩ trivial rfl ⟨PermP.sc, trivial⟩ trivial)
      ·refine AWR.skip (Ws (Wr ?_))
       refine asg (Iv 1) rfl ⟨rfl, rfl⟩ rfl rfl ?_
       refine On (Ws (Wr ?_))
       refine Op11 (LT.bloadN (out := [(iC r6.1.Graph.Points), (lo 33 r6.1.Graph.Bars.length), (lo 34 r6.1.Places.length)]) rfl ag29 (infS inf29) sz29 (by exact rfl) (by exact rfl)) rfl rfl rfl rfl ?_
       refine mv (Iv 1) rfl rfl rfl rfl ?_
       refine Ob' fun r29 hr29 => ?_
       refine AOR.step (@LT.callF Try.prog _ _ 40 _ _ [(.agg [(iC r6.1.Graph.Points), (lo 33 r6.1.Graph.Bars.length), (lo 34 r6.1.Places.length)]), (.c (iC 1))] _ _ [] _ _ _ _ ((show Fw.Fn Try.prog 40 [(.agg [(iC r6.1.Graph.Points), (lo 33 r6.1.Graph.Bars.length), (lo 34 r6.1.Places.length)]), (.c (iC 1))] [(33, (pR 62 encTBar r6.1.Graph.Bars)), (34, (pR 94 encTPlace r6.1.Places))] (Iv r29.1) [(33, (pR 62 encTBar r29.2.1)), (34, (pR 94 encTPlace r29.2.2))] [33, 34] [] from Fw.Fn.ren [(0, 33), (1, 34)] (w_laws_markFramework r6.1 1 r29 hr29) rfl)) rfl cb40 (.cons (.agg (.cons (.same rfl) (.cons (.same rfl) (.cons (.same rfl) .nil)))) (.cons (.c (.same rfl)) .nil)) rfl rfl ⟨rfl, rfl, trivial⟩) ⟨rfl, rfl, rfl, trivial⟩ ⟨rfl, rfl, trivial⟩ rfl rfl ?_
       refine asg (Iv r29.1) rfl rfl rfl rfl ?_
       refine On (Ws (Wr ?_))
       refine asg (Iv 1) rfl ⟨rfl, rfl⟩ rfl rfl ?_
       refine On (Ws (Wr ?_))
       refine Op11 (LT.bloadN (out := [(iC r6.1.Graph.Points), (lo 33 r6.1.Graph.Bars.length), (lo 34 r6.1.Places.length)]) rfl ag29 (infS inf29) sz29 (by exact rfl) (by exact rfl)) rfl rfl rfl rfl ?_
       refine mv (Iv 1) rfl rfl rfl rfl ?_
       refine Ob' fun u30 hu30 => ?_
       refine Ob' fun u31 hu31 => ?_
       refine Ob' fun r32 hr32 => ?_
       refine AOR.pure (@LT.callF Try.prog _ _ 41 _ _ [(.agg [(iC r6.1.Graph.Points), (lo 33 r6.1.Graph.Bars.length), (lo 34 r6.1.Places.length)]), (.c (iC 1))] _ _ [(33, (pR 62 encTBar r29.2.1)), (34, (pR 94 encTPlace r29.2.2))] _ _ _ _ (w_laws_heldFramework (TFramework.mk (TGraph.mk r6.1.Graph.Points r29.2.1) r29.2.2) 1 r32 hr32) rfl cb41 (.cons (.agg (.cons (.same rfl) (.cons (.tloc (same_eq hu30) rfl) (.cons (.tloc (same_eq hu31) rfl) .nil)))) (.cons (.c (.same rfl)) .nil)) rfl rfl trivial) ⟨rfl, rfl, rfl, trivial⟩ ⟨rfl, rfl, trivial⟩ rfl rfl ?_
       refine asg (Iv r32) rfl rfl rfl rfl ?_
       refine On (Ws (Ws ?_))
       refine en [(1, (Iv aSeed)), (2, (Cc (.pl 21 0))), (6, (Cc (.pl 28 0))), (7, (Iv r4.2.1)), (8, (Bv r4.2.2)), (10, (Cc (.pl 35 0))), (14, (Iv r29.1)), (15, (Iv r32))] [(21, (.row 50 [[(iC aG.Points), (xF encTBar aG.Bars)]])), (26, (pR 62 encTBar r4.1.Graph.Bars)), (27, (pR 94 encTPlace r4.1.Places)), (28, (.row 29 [[(iC r4.1.Graph.Points), (lo 26 r4.1.Graph.Bars.length), (lo 27 r4.1.Places.length)]])), (33, (pR 62 encTBar r29.2.1)), (34, (pR 94 encTPlace r29.2.2)), (35, (.row 29 [[(iC r6.1.Graph.Points), (lo 33 r6.1.Graph.Bars.length), (lo 34 r6.1.Places.length)]]))] ⟨rfl, rfl, rfl, rfl, rfl, rfl, rfl, rfl, trivial⟩ ⟨rfl, rfl, rfl, rfl, rfl, rfl, rfl, trivial⟩ ?_
       refine Wr ?_
       refine mv (Iv r32) rfl rfl rfl rfl ?_
       refine Op20 (LT.lss rfl) rfl ⟨rfl, rfl⟩ rfl rfl ?_
       refine On ?_
       refine AWR.cond rfl (fun hc33 => ?_) (fun hc33 => ?_)
       ·refine Ws (Wr ?_)
        refine asg (Bv false) rfl ⟨rfl, rfl⟩ rfl rfl ?_
        refine On ?_
        refine AWR.ret (FPost.mk (.inr rfl) ⟨rfl, trivial⟩ trivial rfl ⟨PermP.sc, trivial⟩ trivial)
       ·refine AWR.skip (Ws (Ws (Wr ?_)))
        refine mv (Iv r32) rfl rfl rfl rfl ?_
        refine mv (Iv r29.1) rfl rfl rfl rfl ?_
        refine Op20 (LT.neq rfl) rfl rfl rfl rfl ?_
        refine On ?_
        refine AWR.cond rfl (fun hc34 => ?_) (fun hc34 => ?_)
        ·refine Ws (Wr ?_)
         refine asg (Bv false) rfl ⟨rfl, rfl⟩ rfl rfl ?_
         refine On ?_
         refine AWR.ret (FPost.mk (.inr rfl) ⟨rfl, trivial⟩ trivial rfl ⟨PermP.sc, trivial⟩ trivial)
        ·refine AWR.skip (Ws (Wr ?_))
         refine Op11 (LT.bloadN (out := [(iC aG.Points), (xF encTBar aG.Bars)]) rfl ag50 (infS inf50) sz50 (by exact rfl) (by exact rfl)) rfl rfl rfl rfl ?_
         refine Ob' fun r35 hr35 => ?_
         refine AOR.step (@LT.callF Try.prog _ _ 35 _ _ [(.agg [(iC aG.Points), (xF encTBar aG.Bars)])] _ _ [] _ _ _ _ ((show Fw.Fn Try.prog 35 [(.agg [(iC aG.Points), (xF encTBar aG.Bars)])] [] (Ag  [(iC r35.Points), (lo 45 r35.Bars.length)]) [(45, (pR 62 encTBar r35.Bars))] [] [45] from Fw.Fn.ren [(0, 45)] (w_laws_toGraph aG r35 hr35) rfl)) rfl cb35 (.cons (.agg (.cons (.same rfl) (.cons (.same rfl) .nil))) .nil) rfl rfl trivial) ⟨rfl, rfl, trivial⟩ trivial rfl rfl ?_
         refine mv (Iv aSeed) rfl rfl rfl rfl ?_
         refine Ob' fun r36 hr36 => ?_
         refine AOR.step (@LT.callF Try.prog _ _ 36 _ _ [(.agg [(iC r35.Points), (lo 45 r35.Bars.length)]), (.c (iC aSeed))] _ _ [(45, (pR 62 encTBar r35.Bars))] _ _ _ _ ((show Fw.Fn Try.prog 36 [(.agg [(iC r35.Points), (xF encTBar r35.Bars)]), (.c (iC aSeed))] [] (.tup [(.agg [(iC r36.1.Graph.Points), (lo 47 r36.1.Graph.Bars.length), (lo 48 r36.1.Places.length)]), (.c (iC r36.2.1)), (.c (bC r36.2.2))]) [(47, (pR 62 encTBar r36.1.Graph.Bars)), (48, (pR 94 encTPlace r36.1.Places))] [] [47, 48] from Fw.Fn.ren [(0, 47), (1, 48)] (w_impl_GenericPlaces r35 aSeed r36 hr36) rfl)) rfl cb36 (.cons (.agg (.cons (.same rfl) (.cons (.tloc rfl rfl) .nil))) (.cons (.c (.same rfl)) .nil)) rfl rfl trivial) ⟨rfl, rfl, rfl, trivial⟩ ⟨rfl, trivial⟩ rfl rfl ?_
         refine mv (.tup [(.agg [(iC r36.1.Graph.Points), (lo 47 r36.1.Graph.Bars.length), (lo 48 r36.1.Places.length)]), (.c (iC r36.2.1)), (.c (bC r36.2.2))]) rfl rfl rfl rfl ?_
         refine Op10 (LT.extract (v := (.agg [(iC r36.1.Graph.Points), (lo 47 r36.1.Graph.Bars.length), (lo 48 r36.1.Places.length)])) rfl (by exact rfl)) rfl rfl rfl ?_
         refine Op10 (LT.extract (v := (.c (iC r36.2.1))) rfl (by exact rfl)) rfl rfl rfl ?_
         refine Op10 (LT.extract (v := (.c (bC r36.2.2))) rfl (by exact rfl)) rfl rfl rfl ?_
         refine Os00 (LT.alloc (n := 49) (cells := [(iC 0), (sC nilV), (sC nilV)]) rfl ti29 rfl rfl rfl) rfl rfl ?_
         refine Os21 (LT.bstore (v := (.agg [(iC r36.1.Graph.Points), (lo 47 r36.1.Graph.Bars.length), (lo 48 r36.1.Places.length)])) (out := [(iC r36.1.Graph.Points), (lo 47 r36.1.Graph.Bars.length), (lo 48 r36.1.Places.length)]) rfl rfl (infS inf29) sz29 (by exact rfl) (by exact Nat.le_of_ble_eq_true rfl) (by exact rfl)) rfl rfl rfl rfl rfl ?_
         refine asg (Iv r36.2.1) rfl rfl rfl rfl ?_
         refine asg (Bv r36.2.2) rfl rfl rfl rfl ?_
         refine On (Ws (Ws ?_))
         refine AWR.joinK (fun j40 => ([(10, (Cc (.pl 35 0))), (14, (Iv r29.1)), (113, (Bv j40))], [(33, (pR 62 encTBar r29.2.1)), (34, (pR 94 encTPlace r29.2.2)), (35, (.row 29 [[(iC r6.1.Graph.Points), (lo 33 r29.2.1.length), (lo 34 r29.2.2.length)]]))])) ?_ (fun j40 _ => ?_)
         ·refine en [(6, (Cc (.pl 28 0))), (7, (Iv r4.2.1)), (8, (Bv r4.2.2)), (10, (Cc (.pl 35 0))), (14, (Iv r29.1)), (16, (Cc (.pl 49 0))), (17, (Iv r36.2.1)), (18, (Bv r36.2.2))] [(26, (pR 62 encTBar r4.1.Graph.Bars)), (27, (pR 94 encTPlace r4.1.Places)), (28, (.row 29 [[(iC r4.1.Graph.Points), (lo 26 r4.1.Graph.Bars.length), (lo 27 r4.1.Places.length)]])), (33, (pR 62 encTBar r29.2.1)), (34, (pR 94 encTPlace r29.2.2)), (35, (.row 29 [[(iC r6.1.Graph.Points), (lo 33 r6.1.Graph.Bars.length), (lo 34 r6.1.Places.length)]])), (47, (pR 62 encTBar r36.1.Graph.Bars)), (48, (pR 94 encTPlace r36.1.Places)), (49, (.row 29 [[(iC r36.1.Graph.Points), (lo 47 r36.1.Graph.Bars.length), (lo 48 r36.1.Places.length)]]))] ⟨rfl, rfl, rfl, rfl, rfl, rfl, rfl, rfl, trivial⟩ ⟨rfl, rfl, rfl, rfl, rfl, rfl, rfl, rfl, rfl, trivial⟩ ?_
          refine Wr ?_
          refine Op11 (LT.bloadN (out := [(iC r36.1.Graph.Points), (lo 47 r36.1.Graph.Bars.length), (lo 48 r36.1.Places.length)]) rfl ag29 (infS inf29) sz29 (by exact rfl) (by exact rfl)) rfl rfl rfl rfl ?_
          refine Op11 (LT.bloadN (out := [(iC r4.1.Graph.Points), (lo 26 r4.1.Graph.Bars.length), (lo 27 r4.1.Places.length)]) rfl ag29 (infS inf29) sz29 (by exact rfl) (by exact rfl)) rfl rfl rfl rfl ?_
          refine Ob' fun r41 hr41 => ?_
          refine AOR.pure (@LT.callF Try.prog _ _ 37 _ _ [(.agg [(iC r36.1.Graph.Points), (lo 47 r36.1.Graph.Bars.length), (lo 48 r36.1.Places.length)]), (.agg [(iC r4.1.Graph.Points), (lo 26 r4.1.Graph.Bars.length), (lo 27 r4.1.Places.length)])] _ _ [(47, (pR 62 encTBar r36.1.Graph.Bars)), (48, (pR 94 encTPlace r36.1.Places)), (26, (pR 62 encTBar r4.1.Graph.Bars)), (27, (pR 94 encTPlace r4.1.Places))] _ _ _ _ (w_laws_eqFramework r36.1 r4.1 r41 hr41) rfl cb37 (.cons (.agg (.cons (.same rfl) (.cons (.tloc rfl rfl) (.cons (.tloc rfl rfl) .nil)))) (.cons (.agg (.cons (.same rfl) (.cons (.tloc rfl rfl) (.cons (.tloc rfl rfl) .nil)))) .nil)) rfl rfl trivial) ⟨rfl, rfl, rfl, trivial⟩ ⟨rfl, rfl, rfl, rfl, trivial⟩ rfl rfl ?_
          refine Op10 (LT.not rfl) rfl rfl rfl ?_
          refine mv (Bv (!r41)) rfl rfl rfl rfl ?_
          refine AOR.split (fun hb42 => ?_) (fun hb42 => ?_)
          ·refine Ok rfl rfl rfl (by rw [hb42]; rfl) rfl ?_
           refine Ok rfl rfl rfl (by rw [hb42]; rfl) rfl ?_
           refine Ok rfl rfl rfl (by rw [hb42]; rfl) rfl ?_
           refine Op20 (LT.pickT (v := (Bv true)) rfl hb42) rfl ⟨rfl, rfl⟩ rfl rfl ?_
           refine mv (Bv true) rfl rfl rfl rfl ?_
           refine Ok rfl rfl rfl rfl rfl ?_
           refine Ok rfl rfl rfl rfl rfl ?_
           refine Ok rfl rfl rfl rfl rfl ?_
           refine Op20 (LT.pickT (v := (Bv true)) rfl rfl) rfl ⟨rfl, rfl⟩ rfl rfl ?_
           refine On ?_
           refine AWR.bind fun u43 hu43 => ?_
           refine AWR.bind fun u44 hu44 => ?_
           refine AWR.nil ⟨rfl, Ent.of ⟨rfl, rfl, rfl, trivial⟩ ⟨rfl, rfl, (congr (congrArg (fun l1 l2 => (some (Ob.row 29 [[(iC r6.1.Graph.Points), (lo 33 l1), (lo 34 l2)]]) : Option Ob)) (same_eq hu43)) (same_eq hu44)), trivial⟩⟩
          ·refine mv (Iv r36.2.1) rfl rfl ⟨_, rfl, .inl ⟨_, rfl, (by rw [hb42]; rfl)⟩⟩ rfl ?_
           refine mv (Iv r4.2.1) rfl rfl ⟨_, rfl, .inl ⟨_, rfl, (by rw [hb42]; rfl)⟩⟩ rfl ?_
           refine Op20 (LT.neq rfl) rfl rfl ⟨_, rfl, .inl ⟨_, rfl, (by rw [hb42]; rfl)⟩⟩ rfl ?_
           refine Op20 (LT.pickF (v := (Bv (r36.2.1 != r4.2.1))) rfl hb42) rfl rfl rfl rfl ?_
           refine mv (Bv (r36.2.1 != r4.2.1)) rfl rfl rfl rfl ?_
           refine AOR.split (fun hb45 => ?_) (fun hb45 => ?_)
           ·refine Ok rfl rfl rfl (by rw [hb45]; rfl) rfl ?_
            refine Ok rfl rfl rfl (by rw [hb45]; rfl) rfl ?_
            refine Ok rfl rfl rfl (by rw [hb45]; rfl) rfl ?_
            refine Op20 (LT.pickT (v := (Bv true)) rfl hb45) rfl ⟨rfl, rfl⟩ rfl rfl ?_
            refine On ?_
            refine AWR.bind fun u46 hu46 => ?_
            refine AWR.bind fun u47 hu47 => ?_
            refine AWR.nil ⟨rfl, Ent.of ⟨rfl, rfl, rfl, trivial⟩ ⟨rfl, rfl, (congr (congrArg (fun l1 l2 => (some (Ob.row 29 [[(iC r6.1.Graph.Points), (lo 33 l1), (lo 34 l2)]]) : Option Ob)) (same_eq hu46)) (same_eq hu47)), trivial⟩⟩
           ·refine mv (Bv r36.2.2) rfl rfl ⟨_, rfl, .inl ⟨_, rfl, (by rw [hb45]; rfl)⟩⟩ rfl ?_
            refine mv (Bv r4.2.2) rfl rfl ⟨_, rfl, .inl ⟨_, rfl, (by rw [hb45]; rfl)⟩⟩ rfl ?_
            refine Op20 (LT.neqB rfl und4) rfl rfl ⟨_, rfl, .inl ⟨_, rfl, (by rw [hb45]; rfl)⟩⟩ rfl ?_
            refine Op20 (LT.pickF (v := (Bv (r36.2.2 != r4.2.2))) rfl hb45) rfl rfl rfl rfl ?_
            refine On ?_
            refine AWR.bind fun u48 hu48 => ?_
            refine AWR.bind fun u49 hu49 => ?_
            refine AWR.nil ⟨rfl, Ent.of ⟨rfl, rfl, rfl, trivial⟩ ⟨rfl, rfl, (congr (congrArg (fun l1 l2 => (some (Ob.row 29 [[(iC r6.1.Graph.Points), (lo 33 l1), (lo 34 l2)]]) : Option Ob)) (same_eq hu48)) (same_eq hu49)), trivial⟩⟩
         ·refine AWR.cond rfl (fun hc50 => ?_) (fun hc50 => ?_)
          ·refine Ws (Wr ?_)
           refine asg (Bv false) rfl ⟨rfl, rfl⟩ rfl rfl ?_
           refine On ?_
           refine AWR.ret (FPost.mk (.inr rfl) ⟨rfl, trivial⟩ trivial rfl ⟨PermP.sc, trivial⟩ trivial)
          ·refine AWR.skip (Ws (Wr ?_))
           refine asg (Iv 1) rfl ⟨rfl, rfl⟩ rfl rfl ?_
           refine On (Ws (Wr ?_))
           refine Op11 (LT.bloadN (out := [(iC r6.1.Graph.Points), (lo 33 r29.2.1.length), (lo 34 r29.2.2.length)]) rfl ag29 (infS inf29) sz29 (by exact rfl) (by exact rfl)) rfl rfl rfl rfl ?_
           refine mv (Iv 1) rfl rfl rfl rfl ?_
           refine Ob' fun r51 hr51 => ?_
           refine AOR.pure (@LT.callF Try.prog _ _ 41 _ _ [(.agg [(iC r6.1.Graph.Points), (lo 33 r29.2.1.length), (lo 34 r29.2.2.length)]), (.c (iC 1))] _ _ [(33, (pR 62 encTBar r29.2.1)), (34, (pR 94 encTPlace r29.2.2))] _ _ _ _ (w_laws_heldFramework (TFramework.mk (TGraph.mk r6.1.Graph.Points r29.2.1) r29.2.2) 1 r51 hr51) rfl cb41 (.cons (.agg (.cons (.same rfl) (.cons (.tloc rfl rfl) (.cons (.tloc rfl rfl) .nil)))) (.cons (.c (.same rfl)) .nil)) rfl rfl trivial) ⟨rfl, rfl, rfl, trivial⟩ ⟨rfl, rfl, trivial⟩ rfl rfl ?_
           refine asg (Iv r51) rfl rfl rfl rfl ?_
           refine On (Ws (Ws (Wr ?_)))
           refine mv (Iv r51) rfl rfl rfl rfl ?_
           refine Op20 (LT.lss rfl) rfl ⟨rfl, rfl⟩ rfl rfl ?_
           refine On ?_
           refine AWR.cond rfl (fun hc52 => ?_) (fun hc52 => ?_)
           ·refine Ws (Wr ?_)
            refine asg (Bv false) rfl ⟨rfl, rfl⟩ rfl rfl ?_
            refine On ?_
            refine AWR.ret (FPost.mk (.inr rfl) ⟨rfl, trivial⟩ trivial rfl ⟨PermP.sc, trivial⟩ trivial)
           ·refine AWR.skip (Ws (Ws (Wr ?_)))
            refine mv (Iv r51) rfl rfl rfl rfl ?_
            refine mv (Iv r29.1) rfl rfl rfl rfl ?_
            refine Op20 (LT.neq rfl) rfl rfl rfl rfl ?_
            refine On ?_
            refine AWR.cond rfl (fun hc53 => ?_) (fun hc53 => ?_)
            ·refine Ws (Wr ?_)
             refine asg (Bv false) rfl ⟨rfl, rfl⟩ rfl rfl ?_
             refine On ?_
             refine AWR.ret (FPost.mk (.inr rfl) ⟨rfl, trivial⟩ trivial rfl ⟨PermP.sc, trivial⟩ trivial)
            ·refine AWR.skip (Ws (Wr ?_))
             refine asg (Bv true) rfl ⟨rfl, rfl⟩ rfl rfl ?_
             refine On ?_
             refine AWR.ret (FPost.mk (.inr rfl) ⟨rfl, trivial⟩ trivial rfl ⟨PermP.sc, trivial⟩ trivial)
end Go.Proofs.Ytghofbijdnenoaa
end
section
set_option linter.unusedVariables false
set_option linter.unusedSimpArgs false
set_option linter.unnecessarySimpa false
namespace Go.Fw
open Go.ChangeShapes Go.WideShapes Go.ChangeAt Go.RowKit
open Go.Proofs.Ytghofbijdnenoaa (Rows.uptoBulk Rows.uptoBulkAll)
abbrev Bof (W : World) : Nat → Prop := fun b => b < W.heap.size
abbrev Rno : Nat → Prop := fun _ => False
abbrev gno : Nat → GS := fun _ => .dead
def Opn {α : Type} (P : Program) (t : TypeId) (s : Nat) (enc : α → List PV) (wt : α → Nat) (ok : α → Prop) : Prop :=
  ∀ (H : Type) (e : TypeId × Value → H) (W : World) (base : Nat) (spare : Nat → Bool) (held : Bool) (fuel : Nat) (cs : List Value) (x : DataW H × List MemPlace), DataW.trod e P W base spare held fuel t cs = some x →
    ∃ a : α, ok a ∧ wt a ≤ Go.Proofs.Ytghofbijdnenoaa.Rows.uptoBulk x.1 ∧ cs.length = s ∧ (enc a).length = s ∧ ∀ (k : Nat) p, (enc a)[k]? = some p → ∃ u, cs[k]? = some u ∧ RPV W Rno (Bof W) p u
def okI (n : Int) : Prop := -9223372036854775808 ≤ n ∧ n ≤ 9223372036854775807
def okL {α : Type} (ok : α → Prop) (xs : List α) : Prop := ∀ x ∈ xs, ok x
def wtI (_ : Int) : Nat := 1
def wtL {α : Type} (wt : α → Nat) (xs : List α) : Nat := (xs.map wt).sum + 1
section
variable {P : Program}
theorem one1 {p q : PV} {cs : List Value} {v : Value} {W : World} (hcs : cs = [v]) (h : RPV W Rno (Bof W) p v) : ∀ (k : Nat) r, [p][k]? = some r → ∃ u, cs[k]? = some u ∧ RPV W Rno (Bof W) r u := fun k r hk => by
  subst hcs
  cases k with
  | zero => simp at hk; subst hk; exact ⟨v, rfl, h⟩
  | succ k => simp at hk
theorem Opn.int {t : TypeId} (ht : P.underlying t = some (.int .i64)) : Opn P t 1 (fun n : Int => [.sc (.int .i64 n)]) wtI okI := fun H e W base spare held fuel cs x h => by
  obtain ⟨n, rfl, rfl, hw⟩ := DataW.trod_int ht h
  refine ⟨n, ?_, by simp [wtI, Go.Proofs.Ytghofbijdnenoaa.Rows.uptoBulk], rfl, rfl, one1 (q := .sc (.int .i64 n)) rfl (.sc rfl)⟩
  simp [Lit.wf, IntKind.min, IntKind.max, IntKind.signed, IntKind.bits] at hw
  exact ⟨by omega, by omega⟩
theorem list_of {α : Type} {p : Nat → α → Prop} : ∀ n : Nat, (∀ i, i < n → ∃ a, p i a) → ∃ xs : List α, xs.length = n ∧ ∀ (i : Nat) a, xs[i]? = some a → p i a
  | 0, _ => ⟨[], rfl, fun i a h => by simp at h⟩
  | n + 1, h => by
    obtain ⟨xs, h1, h2⟩ := list_of n fun i hi => h i (by omega)
    obtain ⟨a, ha⟩ := h n (by omega)
    refine ⟨xs ++ [a], by simp [h1], fun i b hb => ?_⟩
    rw [List.getElem?_append] at hb
    split at hb
    · exact h2 i b hb
    · rename_i hn
      have hi : i - xs.length = 0 := by
        have := (List.getElem?_eq_some_iff.1 hb).1
        simp at this
        omega
      rw [hi] at hb
      simp at hb
      subst hb
      have : i = n := by omega
      subst this
      exact ha
theorem bulk_sum {α : Type} {H : Type} {wt : α → Nat} {D : Nat → DataW H} : ∀ (xs : List α) (k : Nat), (∀ (i : Nat) a, xs[i]? = some a → wt a ≤ Go.Proofs.Ytghofbijdnenoaa.Rows.uptoBulk (D (k + i))) →
    (xs.map wt).sum ≤ Go.Proofs.Ytghofbijdnenoaa.Rows.uptoBulkAll ((List.range' k xs.length).map D)
  | [], _, _ => by simp [Go.Proofs.Ytghofbijdnenoaa.Rows.uptoBulkAll]
  | a :: r, k, h => by
    have h0 := h 0 a rfl
    have ih := bulk_sum r (k + 1) fun i b hb => by
      have := h (i + 1) b (by simpa using hb)
      rwa [show k + 1 + i = k + (i + 1) by omega]
    rw [Nat.add_zero] at h0
    simp only [List.map_cons, List.sum_cons, List.length_cons, List.range'_succ, Go.Proofs.Ytghofbijdnenoaa.Rows.uptoBulkAll]
    omega
theorem cell_lt {w : World} {a : Addr} {v : Value} (h : w.cell? a = some v) : a.block < w.heap.size := by
  unfold World.cell? at h
  cases hb : w.heap[a.block]? with
  | none => rw [hb] at h; simp at h
  | some o => exact (Array.getElem?_eq_some_iff.1 hb).1
theorem Opn.slice {α : Type} {t e : TypeId} {s : Nat} {enc : α → List PV} {wt : α → Nat} {ok : α → Prop} (ht : P.underlying t = some (.slice e)) (hs : P.cellsOf e = s) (hs0 : 0 < s) (he : Opn P e s enc wt ok) :
    Opn P t 1 (fun xs : List α => [.xs false (xs.map enc)]) (wtL wt) (okL ok) := fun H en W base spare held fuel cs x h => by
  rcases Go.Deep.open_slice ht h with ⟨rfl, rfl⟩ | ⟨a, len, cap, m, n, D, Pl, rfl, hb, hl, hm, hmm, rfl, hi⟩
  · refine ⟨[], ?_, ?_, rfl, rfl, one1 (q := .xs false []) rfl .emp⟩
    · intro x hx; cases hx
    · simp [wtL, Go.Proofs.Ytghofbijdnenoaa.Rows.uptoBulk]
  · have hml : len ≤ m := by rw [hmm]; split <;> omega
    obtain ⟨xs, hxl, hx⟩ := list_of (p := fun i (b : α) => ok b ∧ wt b ≤ Go.Proofs.Ytghofbijdnenoaa.Rows.uptoBulk (D i) ∧ (enc b).length = s ∧ ∀ (k : Nat) p, (enc b)[k]? = some p → ∃ u, W.cell? (a.add (i * s + k)) = some u ∧ RPV W Rno (Bof W) p u) len (fun i hil => by
      obtain ⟨cs', hc, htr⟩ := hi i (by omega)
      obtain ⟨b, h1, h2, h3, h4, h5⟩ := he _ _ _ _ _ _ _ _ _ htr
      obtain ⟨_, hcl, hat⟩ := World.cells?_some hc
      refine ⟨b, h1, h2, h4, fun k p hk => ?_⟩
      obtain ⟨u, hu, hr⟩ := h5 k p hk
      refine ⟨u, ?_, hr⟩
      have hks : k < s := by rw [← h4]; exact (List.getElem?_eq_some_iff.1 hk).1
      have := hat k (by rw [hs]; exact hks)
      rw [add_add, hs] at this
      rw [this]
      exact hu)
    refine ⟨xs, fun b hb => ?_, ?_, rfl, rfl, one1 (q := .sc undef) rfl ?_⟩
    · obtain ⟨i, hib⟩ := List.getElem?_of_mem hb
      exact (hx i b hib).1
    · have := bulk_sum (wt := wt) (D := D) xs 0 (fun i b hb => by rw [Nat.zero_add]; exact (hx i b hb).2.1)
      simp only [wtL, Go.Proofs.Ytghofbijdnenoaa.Rows.uptoBulk]
      rw [hxl, ← List.range_eq_range'] at this
      omega
    · cases hxs : xs with
      | nil =>
        have : len = 0 := by rw [← hxl, hxs]; rfl
        subst this
        exact .emp
      | cons b r =>
        rw [← hxs]
        have hget : ∀ (j k : Nat) cs p, (xs.map enc)[j]? = some cs → cs[k]? = some p → ∃ u, W.cell? (a.add (j * s + k)) = some u ∧ RPV W Rno (Bof W) p u := fun j k cs p hj hk => by
          rw [List.getElem?_map] at hj
          cases hjx : xs[j]? with
          | none => rw [hjx] at hj; cases hj
          | some c =>
            rw [hjx] at hj
            injection hj with hj
            subst hj
            exact (hx j c hjx).2.2.2 k p hk
        refine .xs (s := s) (fun j k => (W.cell? (a.add (j * s + k))).getD undef) (by simp [hxl]) ?_ (by simp [hxl]; exact hl) (fun cs hcs => ?_) (fun j k cs p hj hk => ?_) (fun j k cs p hj hk => ?_)
        · have h0 := hx 0 b (by rw [hxs]; rfl)
          have hlt : 0 < (enc b).length := by rw [h0.2.2.1]; exact hs0
          obtain ⟨u, hu, _⟩ := h0.2.2.2 0 (enc b)[0] (List.getElem?_eq_getElem hlt)
          have := cell_lt hu
          rw [add_block] at this
          exact this
        · obtain ⟨c, hc, rfl⟩ := List.mem_map.1 hcs
          obtain ⟨i, hic⟩ := List.getElem?_of_mem hc
          exact (hx i c hic).2.2.1
        · obtain ⟨u, hu, _⟩ := hget j k cs p hj hk
          rw [hu]; rfl
        · obtain ⟨u, hu, hr⟩ := hget j k cs p hj hk
          rw [hu]
          exact hr
def st2 (P : Program) (t : TypeId) : Option (Nat × Nat × Nat × Nat) := match P.underlying t with
  | some (.struct fs) => match fs.toList with
    | [f0, f1] => some (f0.type, f0.offset, f1.type, f1.offset)
    | _ => none
  | _ => none
theorem Opn.struct2 {α β γ : Type} {t t1 t2 : TypeId} {s1 s2 : Nat} {enc1 : α → List PV} {enc2 : β → List PV} {enc : γ → List PV} {wt1 : α → Nat} {wt2 : β → Nat} {wt : γ → Nat} {ok1 : α → Prop} {ok2 : β → Prop} {ok : γ → Prop} (mk : α → β → γ)
    (ht : st2 P t = some (t1, 0, t2, s1)) (hc : P.cellsOf t = s1 + s2) (hc1 : P.cellsOf t1 = s1) (hc2 : P.cellsOf t2 = s2) (h1 : Opn P t1 s1 enc1 wt1 ok1) (h2 : Opn P t2 s2 enc2 wt2 ok2)
    (he : ∀ a b, enc (mk a b) = enc1 a ++ enc2 b) (hw : ∀ a b, wt (mk a b) = wt1 a + wt2 b) (ho : ∀ a b, ok1 a → ok2 b → ok (mk a b)) : Opn P t (s1 + s2) enc wt ok := fun H e W base spare held fuel cs x h => by
  unfold st2 at ht
  split at ht
  · rename_i fs hfs
    split at ht
    · rename_i f0 f1 hfl
      obtain ⟨l⟩ := fs
      simp only at hfl
      subst hfl
      simp only [Option.some.injEq, Prod.mk.injEq] at ht
      obtain ⟨rfl, ho0, rfl, ho1⟩ := ht
      obtain ⟨y0, y1, n, rfl, hl, h3, h4⟩ := Go.ChangeShapes.trod_struct2 hfs h
      rw [ho0, hc1] at h3
      rw [ho1, hc2] at h4
      obtain ⟨a, a1, a2, a3, a4, a5⟩ := h1 _ _ _ _ _ _ _ _ _ h3
      obtain ⟨b, b1, b2, b3, b4, b5⟩ := h2 _ _ _ _ _ _ _ _ _ h4
      refine ⟨mk a b, ho a b a1 b1, ?_, by rw [hl, hc], by rw [he, List.length_append, a4, b4], fun k p hk => ?_⟩
      · rw [hw]
        simp only [Go.Proofs.Ytghofbijdnenoaa.Rows.uptoBulk, Go.Proofs.Ytghofbijdnenoaa.Rows.uptoBulkAll]
        omega
      · rw [he, List.getElem?_append] at hk
        split at hk
        · rename_i hlt
          rw [a4] at hlt
          obtain ⟨u, hu, hr⟩ := a5 k p hk
          refine ⟨u, ?_, hr⟩
          rw [List.getElem?_take, if_pos hlt, List.drop_zero] at hu
          exact hu
        · rename_i hlt
          rw [a4] at hlt hk
          obtain ⟨u, hu, hr⟩ := b5 _ p hk
          refine ⟨u, ?_, hr⟩
          rw [List.getElem?_take] at hu
          split at hu
          · rw [List.getElem?_drop] at hu
            rwa [show s1 + (k - s1) = k by omega] at hu
          · cases hu
    · cases ht
  · cases ht
theorem len_wtL {α : Type} {wt : α → Nat} (h : ∀ x, 1 ≤ wt x) (xs : List α) : xs.length ≤ wtL wt xs := by
  unfold wtL
  induction xs with
  | nil => simp
  | cons x r ih =>
    have := h x
    simp only [List.map_cons, List.sum_cons, List.length_cons] at ih ⊢
    omega
theorem Opn.arg1 {α : Type} {t : TypeId} {enc : α → List PV} {wt : α → Nat} {ok : α → Prop} (h : Opn P t 1 enc wt ok) {p : α → PV} (hp : ∀ a, enc a = [p a]) {H : Type} {e : TypeId × Value → H} {W : World} {sp : Nat → Bool} {v : Value} {d : DataW H} {ps : List MemPlace}
    (hv : v.oneCell' = true) (hd : DataW.Trod e P W 0 sp true t v d ps) : ∃ a : α, ok a ∧ wt a ≤ Go.Proofs.Ytghofbijdnenoaa.Rows.uptoBulk d ∧ RS P W Rno (Bof W) gno (.c (.pv (p a))) v := by
  obtain ⟨fuel, hf⟩ := hd
  obtain ⟨a, h1, h2, h3, h4, h5⟩ := h _ _ _ _ _ _ _ _ _ hf
  refine ⟨a, h1, h2, ?_⟩
  have hc : v.cells = #[v] := oneCell_ne hv
  obtain ⟨u, hu, hr⟩ := h5 0 (p a) (by rw [hp]; rfl)
  rw [hc] at hu
  have : v = u := by simpa using hu
  subst this
  exact ⟨hv, hr⟩
theorem Opn.argN {α : Type} {t : TypeId} {s : Nat} {enc : α → List PV} {wt : α → Nat} {ok : α → Prop} (h : Opn P t s enc wt ok) {H : Type} {e : TypeId × Value → H} {W : World} {sp : Nat → Bool} {v : Value} {d : DataW H} {ps : List MemPlace}
    (hv : ∃ cs : Array Value, v = .agg cs) (hd : DataW.Trod e P W 0 sp true t v d ps) : ∃ a : α, ok a ∧ wt a ≤ Go.Proofs.Ytghofbijdnenoaa.Rows.uptoBulk d ∧ RS P W Rno (Bof W) gno (.agg ((enc a).map .pv)) v := by
  obtain ⟨cs, rfl⟩ := hv
  obtain ⟨fuel, hf⟩ := hd
  obtain ⟨a, h1, h2, h3, h4, h5⟩ := h _ _ _ _ _ _ _ _ _ hf
  refine ⟨a, h1, h2, cs.toList, by simp, by rw [List.length_map, h4]; simpa [Value.cells] using h3, fun k x hk => ?_⟩
  rw [List.getElem?_map] at hk
  cases hp : (enc a)[k]? with
  | none => rw [hp] at hk; cases hk
  | some p =>
    rw [hp] at hk
    injection hk with hk
    subst hk
    obtain ⟨u, hu, hr⟩ := h5 k p hp
    exact ⟨u, by simpa [Value.cells] using hu, hr.oneCell, hr⟩
def ArgR (P : Program) (W : World) : List SV → List Value → Prop
  | [], [] => True
  | x :: xs, v :: vs => RS P W Rno (Bof W) gno x v ∧ ArgR P W xs vs
  | _, _ => False
theorem ArgR.spec {W : World} : ∀ {xs : List SV} {vs : List Value}, ArgR P W xs vs → vs.length = xs.length ∧ ∀ (k : Nat) x, xs[k]? = some x → ∃ u, vs[k]? = some u ∧ RS P W Rno (Bof W) gno x u
  | [], [], _ => ⟨rfl, fun k x hk => by simp at hk⟩
  | [], _ :: _, h => h.elim
  | _ :: _, [], h => h.elim
  | x :: xs, v :: vs, h => by
    obtain ⟨h1, h2⟩ := ArgR.spec h.2
    refine ⟨by simp [h1], fun k y hk => ?_⟩
    cases k with
    | zero => simp at hk; subst hk; exact ⟨v, rfl, h.1⟩
    | succ k => exact h2 k y (by simpa using hk)
theorem Fn.called {f : FuncId} {xs : List SV} (hf : Fw.Fn P f xs [] (.s (.c (bC true))) [] [] []) {W : World} {args : Array Value} (ha : ArgR P W xs args.toList) : Calls P f args W fun e W' => e = .returned (.bool true) ∧ Below W.heap.size W W' := by
  obtain ⟨h1, h2⟩ := ha.spec
  have hw : WF Rno (Bof W) gno W := ⟨fun b hb => hb.elim, fun b hb => hb, fun n b hg => hg.elim, fun n m b hg => hg.elim, fun n j k b h => (by cases h)⟩
  have := hf Rno (Bof W) gno W args.toList hw h1 h2 (fun p hp => by cases hp)
  rw [show args.toList.toArray = args from by simp] at this
  refine this.mono fun e W' hp => ?_
  obtain ⟨u, R', B', g', rfl, had, _, hv, _⟩ := hp
  have hu : u = .bool true := by
    obtain ⟨_, h3⟩ := hv
    cases h3
    rfl
  subst hu
  exact ⟨rfl, had.os, had.tape, had.output, had.size, fun k hk => had.heap k hk fun n hn => by cases hn⟩
theorem trodAll_stays {H : Type} {e : TypeId × Value → H} (hl : laidOutB P = true) {W W' : World} {sp : Nat → Bool} (hb : Below W.heap.size W W') : ∀ {ts : List TypeId} {vs : List Value} {ds : List (DataW H)} {ps : List MemPlace}, (ts.all fun t => P.readableRec t && decide (t < P.types.size)) = true →
    DataW.TrodAll e P W 0 (fun _ => true) true ts vs ds ps → (∀ p ∈ ps, p.block < W.heap.size) → (∀ p ∈ ps, sp p.block = true) → DataW.TrodAll e P W' 0 sp true ts vs ds ps
  | [], [], [], _, _, h, _, _ => h
  | t :: ts, v :: vs, d :: ds, ps, hr, h, hlt, hs => by
    obtain ⟨p, q, h1, h2, rfl⟩ := h
    simp only [List.all_cons, Bool.and_eq_true, decide_eq_true_eq] at hr
    exact ⟨p, q, Go.WideElems.Trod_stays hl hr.1.1 hr.1.2 h1 (fun x hx => hb.same (hlt x (List.mem_append_left _ hx))) (fun x hx => hs x (List.mem_append_left _ hx)), trodAll_stays hl hb hr.2 h2 (fun x hx => hlt x (List.mem_append_right _ hx)) (fun x hx => hs x (List.mem_append_right _ hx)), rfl⟩
  | [], [], _ :: _, _, _, h, _, _ => h.elim
  | [], _ :: _, _, _, _, h, _, _ => h.elim
  | _ :: _, [], _, _, _, h, _, _ => h.elim
  | _ :: _, _ :: _, [], _, _, h, _, _ => h.elim
theorem post_of_fw {H : Type} {e : TypeId × Value → H} {f : Func} {s : ChangeSpec} {apart handsOn again : Bool} {fresh : Bool} {W W' : World} {args : Array Value} {ds gs : List (DataW H)} {before : List MemPlace} {tb : TypeId} (hW : DataW.Whole e P f.params.toList s.vars apart W args.toList ds gs before) (hl : laidOutB P = true)
    (hr : (f.params.toList.all fun t => P.readableRec t && decide (t < P.types.size)) = true) (hb : Below W.heap.size W W') (hv : s.vars = []) (hf : s.fn H ds = { results := [.lit (.bool true)], args := ds }) (hrt : f.resultTypes = #[tb]) (htb : P.underlying tb = some .bool) :
    s.post e P f apart fresh handsOn again W args (.bool true) W' := by
  have hlt : ∀ p ∈ before, p.block < W.heap.size := fun p hp => hW.lt p hp
  have hW0 := hW
  obtain ⟨p, q, hA, hV, hpq, hz, hn⟩ := hW
  rw [hv] at hV
  obtain ⟨rfl, rfl⟩ : gs = [] ∧ q = [] := by
    cases gs with
    | nil => exact ⟨rfl, hV⟩
    | cons _ _ => exact hV.elim
  rw [List.append_nil] at hpq
  subst hpq
  have hargs : ∀ sp : Nat → Bool, (∀ p ∈ before, sp p.block = true) → DataW.TrodAll e P W' 0 sp true f.params.toList args.toList ds before := fun sp hs => trodAll_stays hl hb hr hA hlt hs
  have hres : ∀ (b : Nat) (sp : Nat → Bool) (hd : Bool), DataW.TrodAll e P W' b sp hd f.resultTypes.toList ((Value.bool true).resultList f.resultTypes.size) [.lit (.bool true)] [] := fun b sp hd => by
    rw [hrt]
    exact ⟨[], [], shut_bool htb _, rfl, rfl⟩
  have hfd : s.fn H (ds ++ []) = { results := [.lit (.bool true)], args := ds } := by rw [List.append_nil]; exact hf
  have hold : ∀ p ∈ before, (fun b => decide (b < W.heap.size)) p.block = true := fun p hp => by simpa using hlt p hp
  have hvs : ∀ sp : Nat → Bool, DataW.TrodVars e P W' sp s.vars [] [] := fun sp => by rw [hv]; rfl
  refine ⟨ds, [], before, [], before, [], hW0, ?_, ?_, ?_, World.keptBut_mono (fun p hp => ⟨hp, ?_⟩) (hb.frame (· ∈ before)), fun _ => ?_⟩
  · rw [hfd]; exact hres _ _ _
  · rw [hfd]; exact hargs _ hold
  · rw [hfd]; exact hvs _
  · exact Or.inr (Or.inl hp)
  · refine ⟨ok_one hrt rfl (okWide_bool_mk htb _), ?_⟩
    · refine ⟨_, _, ([] ++ before) ++ [], ⟨[] ++ before, [], trodAll_append (hargs _ (fun _ _ => rfl)) (hres _ _ _), hvs _, rfl, ?_, ?_⟩, ?_⟩
      · intro b off hp
        have hin : MemPlace.cell b off ∈ before := by simpa using hp
        rw [hb.frozen (hlt _ hin)]
        exact hz b off hin
      · intro ha
        simpa using hn ha
      · intro p hp _
        simpa using hp
end
end Go.Fw
end
section
set_option linter.unusedVariables false
set_option linter.unusedSimpArgs false
set_option linter.unnecessarySimpa false
open Go Go.Fw
namespace Go.Proofs.Ytghofbijdnenoaa
theorem oC162 : Try.prog.cellsOf 162 = 2 := by kernel_rfl
theorem oC3 : Try.prog.cellsOf 3 = 1 := by kernel_rfl
theorem oC48 : Try.prog.cellsOf 48 = 1 := by kernel_rfl
theorem oC50 : Try.prog.cellsOf 50 = 2 := by kernel_rfl
theorem oS162 : st2 Try.prog 162 = some (3, 0, 3, 1) := by kernel_rfl
theorem oS50 : st2 Try.prog 50 = some (3, 0, 48, 1) := by kernel_rfl
theorem oU3 : Try.prog.underlying 3 = some (.int .i64) := by kernel_rfl
theorem oU48 : Try.prog.underlying 48 = some (.slice 162) := by kernel_rfl
theorem oX50 : Try.prog.underlying 50 = some (.struct (Try.prog.fieldsOf 50)) := by kernel_rfl
def e_TBar (a : TBar) : List PV := [.sc (.int .i64 a.A), .sc (.int .i64 a.B)]
def wt_TBar (a : TBar) : Nat := wtI a.A + wtI a.B
def ok_TBar (a : TBar) : Prop := okI a.A ∧ okI a.B
theorem opn_162 : Opn Try.prog 162 2 e_TBar wt_TBar ok_TBar := Opn.struct2 (enc1 := (fun n : Int => [.sc (.int .i64 n)])) (enc2 := (fun n : Int => [.sc (.int .i64 n)])) TBar.mk oS162 oC162 oC3 oC3 (Opn.int oU3) (Opn.int oU3) (fun _ _ => rfl) (fun _ _ => rfl) (fun _ _ h1 h2 => ⟨h1, h2⟩)
def e_TGraph (a : TGraph) : List PV := [.sc (.int .i64 a.Points), .xs false (a.Bars.map encTBar)]
def wt_TGraph (a : TGraph) : Nat := wtI a.Points + (wtL wt_TBar) a.Bars
def ok_TGraph (a : TGraph) : Prop := okI a.Points ∧ (okL ok_TBar) a.Bars
theorem opn_50 : Opn Try.prog 50 2 e_TGraph wt_TGraph ok_TGraph := Opn.struct2 (enc1 := (fun n : Int => [.sc (.int .i64 n)])) (enc2 := (fun xs => [.xs false (xs.map e_TBar)])) TGraph.mk oS50 oC50 oC3 oC48 (Opn.int oU3) (Opn.slice oU48 oC162 (by decide) opn_162) (fun _ _ => rfl) (fun _ _ => rfl) (fun _ _ h1 h2 => ⟨h1, h2⟩)
end Go.Proofs.Ytghofbijdnenoaa
end
