/- The code computes the models. Written by a program of mine. -/
import Derived.Test.YtiphmhofhgbhlaaGenF3
import Derived.Test.YtiphmhofhgbhlaaGenF4
set_option linter.unusedVariables false
set_option linter.unusedSimpArgs false
set_option linter.unnecessarySimpa false
open Go Go.Fw
namespace Go.Proofs.Ytiphmhofhgbhlaa
set_option maxRecDepth 100000 in
set_option maxHeartbeats 8000000 in
theorem w_impl_gather (bars : (List TBar)) (p : TPebbles) (a : Int) (b : Int) (want : Int) : ∀ t, m_impl_gather bars p a b want = some t → Fw.Fn Try.prog 93 [(.c (.pv (.xs false (bars.map encTBar)))), (.c (.pl 0 0)), (.c (iC a)), (.c (iC b)), (.c (iC want))] [(0, (.row 68 [[(.loc 1 0 p.Free.length), (.loc 2 0 p.Tails.length), (.loc 3 0 p.Placed.length)]])), (1, (.prow 3 (p.Free.map encInt))), (2, (.prow 3 (p.Tails.map encInt))), (3, (.prow 3 (p.Placed.map encInt)))] (.s (.c (bC t.1))) [(0, (.row 68 [[(.loc 1 0 t.2.Free.length), (.loc 2 0 t.2.Tails.length), (.loc 3 0 t.2.Placed.length)]])), (1, (.prow 3 (t.2.Free.map encInt))), (2, (.prow 3 (t.2.Tails.map encInt))), (3, (.prow 3 (t.2.Placed.map encInt)))] [0, 1, 2, 3] [1, 2, 3] := by
  refine Fw.Fn.of (P := Try.prog) (X := [1, 2, 3]) (pn := [0]) (rs := (fun (t : (Bool × TPebbles)) => [(.c (bC t.1))])) (dfs := (fun (t : (Bool × TPebbles)) => [(0, (.row 68 [[(.loc 1 0 t.2.Free.length), (.loc 2 0 t.2.Tails.length), (.loc 3 0 t.2.Placed.length)]])), (1, (.prow 3 (t.2.Free.map encInt))), (2, (.prow 3 (t.2.Tails.map encInt))), (3, (.prow 3 (t.2.Placed.map encInt)))])) Try.func93 rfl Try.ntmps93 (Nat.le_of_ble_eq_true rfl) rfl ?_
  intro w0 U0 R0 g0
  unfold m_impl_gather
  refine AWR.seq ?_
  refine AWR.region ?_
  refine AOR.pure (LT.assign (v := (.s (.c (bC false)))) rfl) ⟨⟨rfl, rfl⟩, trivial⟩ trivial rfl rfl ?_
  refine AOR.nil ?_
  refine AWR.seq ?_
  refine AWR.block ?_
  refine AWR.loopR (id := 0) (m_impl_gather_L1 bars a b want) (fun s1 => ([(0, (.s (.c (.pv (.xs false (bars.map encTBar)))))), (1, (.s (.c (.pl 0 0)))), (2, (.s (.c (iC a)))), (3, (.s (.c (iC b)))), (4, (.s (.c (iC want))))], [(0, (.row 68 [[(.loc 1 0 s1.1.length), (.loc 2 0 s1.2.1.length), (.loc 3 0 s1.2.2.length)]])), (1, (.prow 3 (s1.1.map encInt))), (2, (.prow 3 (s1.2.1.map encInt))), (3, (.prow 3 (s1.2.2.map encInt)))])) (fun b24 => ([], [(0, (.row 68 [[(.loc 1 0 b24.1.length), (.loc 2 0 b24.2.1.length), (.loc 3 0 b24.2.2.length)]])), (1, (.prow 3 (b24.1.map encInt))), (2, (.prow 3 (b24.2.1.map encInt))), (3, (.prow 3 (b24.2.2.map encInt)))])) (FPost Try.prog Try.f93.results.toList [(0, (.row 68 [[(.loc 1 0 p.Free.length), (.loc 2 0 p.Tails.length), (.loc 3 0 p.Placed.length)]])), (1, (.prow 3 (p.Free.map encInt))), (2, (.prow 3 (p.Tails.map encInt))), (3, (.prow 3 (p.Placed.map encInt)))] [1, 2, 3] (fun (t : (Bool × TPebbles)) => [(.c (bC t.1))]) (fun (t : (Bool × TPebbles)) => [(0, (.row 68 [[(.loc 1 0 t.2.Free.length), (.loc 2 0 t.2.Tails.length), (.loc 3 0 t.2.Placed.length)]])), (1, (.prow 3 (t.2.Free.map encInt))), (2, (.prow 3 (t.2.Tails.map encInt))), (3, (.prow 3 (t.2.Placed.map encInt)))])) ?_ (Ent.of ⟨rfl, rfl, rfl, rfl, rfl, trivial⟩ ⟨rfl, rfl, rfl, rfl, trivial⟩) rfl (fun b24 _ => ?_) (by intro r t σ m ht hk; injection ht with ht; subst ht; exact hk)
  · intro s1
    unfold m_impl_gather_L1
    refine AWR.seq ?_
    refine AWR.seq ?_
    refine AWR.draw mixed ?_
    refine AOD.pure (LT.move (v := (.s (.c (.pl 0 0)))) rfl) ⟨rfl, trivial⟩ trivial rfl rfl ?_
    refine AOD.pure (LT.nilPl rfl) ⟨rfl, trivial⟩ trivial rfl rfl ?_
    refine AOD.pure (LT.fieldPl rfl fo68_0) ⟨rfl, trivial⟩ trivial rfl rfl ?_
    refine AOD.pure (LT.bload1 (c := (.loc 1 0 s1.1.length)) rfl ag26 (by exact rfl)) ⟨rfl, trivial⟩ ⟨rfl, trivial⟩ rfl rfl ?_
    refine AOD.pure (LT.move (v := (.s (.c (iC a)))) rfl) ⟨rfl, trivial⟩ trivial rfl rfl ?_
    refine AOD.bind fun x25 hx25 => ?_
    refine AOD.pure (LT.tindexLoc rfl rfl el26 hx25) ⟨rfl, rfl, trivial⟩ ⟨rfl, trivial⟩ rfl rfl ?_
    refine AOD.pure (LT.tload1 (k := 0) rfl ag3 hx25 (by exact rfl) (by exact rfl)) ⟨rfl, trivial⟩ ⟨rfl, trivial⟩ rfl rfl ?_
    refine AOD.pure (LT.move (v := (.s (.c (.pl 0 0)))) rfl) ⟨rfl, trivial⟩ trivial rfl rfl ?_
    refine AOD.pure (LT.nilPl rfl) ⟨rfl, trivial⟩ trivial rfl rfl ?_
    refine AOD.pure (LT.fieldPl rfl fo68_0) ⟨rfl, trivial⟩ trivial rfl rfl ?_
    refine AOD.pure (LT.bload1 (c := (.loc 1 0 s1.1.length)) rfl ag26 (by exact rfl)) ⟨rfl, trivial⟩ ⟨rfl, trivial⟩ rfl rfl ?_
    refine AOD.pure (LT.move (v := (.s (.c (iC b)))) rfl) ⟨rfl, trivial⟩ trivial rfl rfl ?_
    refine AOD.bind fun x26 hx26 => ?_
    refine AOD.pure (LT.tindexLoc rfl rfl el26 hx26) ⟨rfl, rfl, trivial⟩ ⟨rfl, trivial⟩ rfl rfl ?_
    refine AOD.pure (LT.tload1 (k := 0) rfl ag3 hx26 (by exact rfl) (by exact rfl)) ⟨rfl, trivial⟩ ⟨rfl, trivial⟩ rfl rfl ?_
    refine AOD.pure (LT.add rfl) ⟨rfl, rfl, trivial⟩ trivial rfl rfl ?_
    refine AOD.pure (LT.move (v := (.s (.c (iC want)))) rfl) ⟨rfl, trivial⟩ trivial rfl rfl ?_
    refine AOD.pure (LT.lss rfl) ⟨rfl, rfl, trivial⟩ trivial rfl rfl ?_
    refine AOD.nil (by kernel_rfl) ?_
    refine AWR.cond rfl (fun hc27 => ?_) (fun hc27 => ?_)
    · refine AWR.skip ?_
      refine AWR.block ?_
      refine AWR.seq ?_
      refine AWR.joinK (fun j31 => ([(0, (.s (.c (.pv (.xs false (bars.map encTBar)))))), (1, (.s (.c (.pl 0 0)))), (2, (.s (.c (iC a)))), (3, (.s (.c (iC b)))), (4, (.s (.c (iC want)))), (41, (.s (.c (bC j31.1))))], [(0, (.row 68 [[(.loc 1 0 j31.2.1.length), (.loc 2 0 j31.2.2.1.length), (.loc 3 0 j31.2.2.2.length)]])), (1, (.prow 3 (j31.2.1.map encInt))), (2, (.prow 3 (j31.2.2.1.map encInt))), (3, (.prow 3 (j31.2.2.2.map encInt)))])) ?_ (fun j31 _ => ?_)
      · refine AWR.ent (Ent.of (σ' := [(0, (.s (.c (.pv (.xs false (bars.map encTBar)))))), (1, (.s (.c (.pl 0 0)))), (2, (.s (.c (iC a)))), (3, (.s (.c (iC b)))), (4, (.s (.c (iC want))))]) (m' := [(0, (.row 68 [[(.loc 1 0 s1.1.length), (.loc 2 0 s1.2.1.length), (.loc 3 0 s1.2.2.length)]])), (1, (.prow 3 (s1.1.map encInt))), (2, (.prow 3 (s1.2.1.map encInt))), (3, (.prow 3 (s1.2.2.map encInt)))]) ⟨rfl, rfl, rfl, rfl, rfl, trivial⟩ ⟨rfl, rfl, rfl, rfl, trivial⟩) ?_
        refine AWR.region ?_
        refine AOR.pure (LT.move (v := (.s (.c (.pv (.xs false (bars.map encTBar)))))) rfl) ⟨rfl, trivial⟩ trivial rfl rfl ?_
        refine AOR.pure (LT.move (v := (.s (.c (.pl 0 0)))) rfl) ⟨rfl, trivial⟩ trivial rfl rfl ?_
        refine AOR.pure (LT.move (v := (.s (.c (iC a)))) rfl) ⟨rfl, trivial⟩ trivial rfl rfl ?_
        refine AOR.pure (LT.move (v := (.s (.c (iC b)))) rfl) ⟨rfl, trivial⟩ trivial rfl rfl ?_
        refine AOR.bind fun r32 hr32 => ?_
        refine AOR.step (@LT.callF Try.prog _ _ 94 _ _ [(.c (.pv (.xs false (bars.map encTBar)))), (.c (.pl 0 0)), (.c (iC a)), (.c (iC b))] _ _ [] _ _ _ _ ((show Fw.Fn Try.prog 94 [(.c (.pv (.xs false (bars.map encTBar)))), (.c (.pl 0 0)), (.c (iC a)), (.c (iC b))] [(0, (.row 68 [[(.loc 1 0 s1.1.length), (.loc 2 0 s1.2.1.length), (.loc 3 0 s1.2.2.length)]])), (1, (.prow 3 (s1.1.map encInt))), (2, (.prow 3 (s1.2.1.map encInt))), (3, (.prow 3 (s1.2.2.map encInt)))] (.s (.c (bC r32.1))) [(0, (.row 68 [[(.loc 1 0 r32.2.Free.length), (.loc 2 0 r32.2.Tails.length), (.loc 3 0 r32.2.Placed.length)]])), (1, (.prow 3 (r32.2.Free.map encInt))), (2, (.prow 3 (r32.2.Tails.map encInt))), (3, (.prow 3 (r32.2.Placed.map encInt)))] [0, 1, 2, 3] [1, 2, 3] from Fw.Fn.ren [(0, 0), (1, 1), (2, 2), (3, 3)] (w_impl_moveTo bars (TPebbles.mk s1.1 s1.2.1 s1.2.2) a b r32 hr32) rfl)) rfl cb94 (.cons (.c (.same rfl)) (.cons (.c (.same rfl)) (.cons (.c (.same rfl)) (.cons (.c (.same rfl)) .nil)))) rfl rfl ⟨rfl, rfl, rfl, rfl, trivial⟩) ⟨rfl, rfl, rfl, rfl, rfl, trivial⟩ ⟨rfl, rfl, rfl, rfl, trivial⟩ rfl rfl ?_
        refine AOR.pure (LT.not rfl) ⟨rfl, trivial⟩ trivial rfl rfl ?_
        refine AOR.pure (LT.move (v := (.s (.c (bC (!r32.1))))) rfl) ⟨rfl, trivial⟩ trivial rfl rfl ?_
        refine AOR.split (fun hb33 => ?_) (fun hb33 => ?_)
        · refine AOR.pure (LT.move (v := (.s (.c (.pv (.xs false (bars.map encTBar)))))) rfl) ⟨rfl, trivial⟩ trivial ⟨_, rfl, .inl ⟨_, rfl, (by rw [hb33]; rfl)⟩⟩ rfl ?_
          refine AOR.pure (LT.move (v := (.s (.c (.pl 0 0)))) rfl) ⟨rfl, trivial⟩ trivial ⟨_, rfl, .inl ⟨_, rfl, (by rw [hb33]; rfl)⟩⟩ rfl ?_
          refine AOR.pure (LT.move (v := (.s (.c (iC b)))) rfl) ⟨rfl, trivial⟩ trivial ⟨_, rfl, .inl ⟨_, rfl, (by rw [hb33]; rfl)⟩⟩ rfl ?_
          refine AOR.pure (LT.move (v := (.s (.c (iC a)))) rfl) ⟨rfl, trivial⟩ trivial ⟨_, rfl, .inl ⟨_, rfl, (by rw [hb33]; rfl)⟩⟩ rfl ?_
          refine AOR.bind fun r34 hr34 => ?_
          refine AOR.step (@LT.callF Try.prog _ _ 94 _ _ [(.c (.pv (.xs false (bars.map encTBar)))), (.c (.pl 0 0)), (.c (iC b)), (.c (iC a))] _ _ [] _ _ _ _ ((show Fw.Fn Try.prog 94 [(.c (.pv (.xs false (bars.map encTBar)))), (.c (.pl 0 0)), (.c (iC b)), (.c (iC a))] [(0, (.row 68 [[(.loc 1 0 r32.2.Free.length), (.loc 2 0 r32.2.Tails.length), (.loc 3 0 r32.2.Placed.length)]])), (1, (.prow 3 (r32.2.Free.map encInt))), (2, (.prow 3 (r32.2.Tails.map encInt))), (3, (.prow 3 (r32.2.Placed.map encInt)))] (.s (.c (bC r34.1))) [(0, (.row 68 [[(.loc 1 0 r34.2.Free.length), (.loc 2 0 r34.2.Tails.length), (.loc 3 0 r34.2.Placed.length)]])), (1, (.prow 3 (r34.2.Free.map encInt))), (2, (.prow 3 (r34.2.Tails.map encInt))), (3, (.prow 3 (r34.2.Placed.map encInt)))] [0, 1, 2, 3] [1, 2, 3] from Fw.Fn.ren [(0, 0), (1, 1), (2, 2), (3, 3)] (w_impl_moveTo bars r32.2 b a r34 hr34) rfl)) rfl cb94 (.cons (.c (.same rfl)) (.cons (.c (.same rfl)) (.cons (.c (.same rfl)) (.cons (.c (.same rfl)) .nil)))) rfl rfl ⟨rfl, rfl, rfl, rfl, trivial⟩) ⟨rfl, rfl, rfl, rfl, rfl, trivial⟩ ⟨rfl, rfl, rfl, rfl, trivial⟩ ⟨_, rfl, .inl ⟨_, rfl, (by rw [hb33]; rfl)⟩⟩ rfl ?_
          refine AOR.pure (LT.not rfl) ⟨rfl, trivial⟩ trivial ⟨_, rfl, .inl ⟨_, rfl, (by rw [hb33]; rfl)⟩⟩ rfl ?_
          refine AOR.pure (LT.pickT (v := (.s (.c (bC (!r34.1))))) rfl hb33) ⟨rfl, rfl, trivial⟩ trivial rfl rfl ?_
          refine AOR.nil ?_
          refine AWR.nil ⟨rfl, Ent.of ⟨rfl, rfl, rfl, rfl, rfl, rfl, trivial⟩ ⟨rfl, rfl, rfl, rfl, trivial⟩⟩
        · refine AOR.skip ⟨_, rfl, .inl ⟨_, rfl, (by rw [hb33]; rfl)⟩⟩ rfl ?_
          refine AOR.skip ⟨_, rfl, .inl ⟨_, rfl, (by rw [hb33]; rfl)⟩⟩ rfl ?_
          refine AOR.skip ⟨_, rfl, .inl ⟨_, rfl, (by rw [hb33]; rfl)⟩⟩ rfl ?_
          refine AOR.skip ⟨_, rfl, .inl ⟨_, rfl, (by rw [hb33]; rfl)⟩⟩ rfl ?_
          refine AOR.skip ⟨_, rfl, .inl ⟨_, rfl, (by rw [hb33]; rfl)⟩⟩ rfl ?_
          refine AOR.skip ⟨_, rfl, .inl ⟨_, rfl, (by rw [hb33]; rfl)⟩⟩ rfl ?_
          refine AOR.pure (LT.pickF (v := (.s (.c (bC false)))) rfl hb33) ⟨rfl, ⟨rfl, rfl⟩, trivial⟩ trivial rfl rfl ?_
          refine AOR.nil ?_
          refine AWR.nil ⟨rfl, Ent.of ⟨rfl, rfl, rfl, rfl, rfl, rfl, trivial⟩ ⟨rfl, rfl, rfl, rfl, trivial⟩⟩
      · refine AWR.cond rfl (fun hc35 => ?_) (fun hc35 => ?_)
        · refine AWR.seq ?_
          refine AWR.region ?_
          refine AOR.pure (LT.assign (v := (.s (.c (bC false)))) rfl) ⟨⟨rfl, rfl⟩, trivial⟩ trivial rfl rfl ?_
          refine AOR.nil ?_
          refine AWR.ret ⟨rfl, FPost.mk (.inr rfl) ⟨rfl, trivial⟩ ⟨rfl, rfl, rfl, rfl, trivial⟩ rfl ⟨PermP.sc, trivial⟩ ⟨PermO.row1 ⟨trivial, trivial, trivial, trivial⟩, PermO.prow' perm_encInt, PermO.prow' perm_encInt, PermO.prow' perm_encInt, trivial⟩⟩
        · refine AWR.skip ?_
          refine AWR.blk ?_
          refine AWR.nil ⟨rfl, Ent.of ⟨rfl, rfl, rfl, rfl, rfl, trivial⟩ ⟨rfl, rfl, rfl, rfl, trivial⟩⟩
    · refine AWR.exit_end rfl ⟨rfl, Ent.of trivial ⟨rfl, rfl, rfl, rfl, trivial⟩⟩
  · refine AWR.seq ?_
    refine AWR.region ?_
    refine AOR.pure (LT.assign (v := (.s (.c (bC true)))) rfl) ⟨⟨rfl, rfl⟩, trivial⟩ trivial rfl rfl ?_
    refine AOR.nil ?_
    refine AWR.ret (FPost.mk (.inr rfl) ⟨rfl, trivial⟩ ⟨rfl, rfl, rfl, rfl, trivial⟩ rfl ⟨PermP.sc, trivial⟩ ⟨PermO.row1 ⟨trivial, trivial, trivial, trivial⟩, PermO.prow' perm_encInt, PermO.prow' perm_encInt, PermO.prow' perm_encInt, trivial⟩)
set_option maxRecDepth 100000 in
set_option maxHeartbeats 8000000 in
theorem w_impl_place (bars : (List TBar)) (l : Int) (p : TPebbles) (e : Int) : ∀ t, m_impl_place bars l p e = some t → Fw.Fn Try.prog 89 [(.c (.pv (.xs false (bars.map encTBar)))), (.c (iC l)), (.c (.pl 0 0)), (.c (iC e))] [(0, (.row 68 [[(.loc 1 0 p.Free.length), (.loc 2 0 p.Tails.length), (.loc 3 0 p.Placed.length)]])), (1, (.prow 3 (p.Free.map encInt))), (2, (.prow 3 (p.Tails.map encInt))), (3, (.prow 3 (p.Placed.map encInt)))] (.s (.c (bC t.1))) [(0, (.row 68 [[(.loc 1 0 t.2.Free.length), (.loc 2 0 t.2.Tails.length), (.loc 3 0 t.2.Placed.length)]])), (1, (.prow 3 (t.2.Free.map encInt))), (2, (.prow 3 (t.2.Tails.map encInt))), (3, (.prow 3 (t.2.Placed.map encInt)))] [0, 1, 2, 3] [1, 2, 3] := by
  refine Fw.Fn.of (P := Try.prog) (X := [1, 2, 3]) (pn := [0]) (rs := (fun (t : (Bool × TPebbles)) => [(.c (bC t.1))])) (dfs := (fun (t : (Bool × TPebbles)) => [(0, (.row 68 [[(.loc 1 0 t.2.Free.length), (.loc 2 0 t.2.Tails.length), (.loc 3 0 t.2.Placed.length)]])), (1, (.prow 3 (t.2.Free.map encInt))), (2, (.prow 3 (t.2.Tails.map encInt))), (3, (.prow 3 (t.2.Placed.map encInt)))])) Try.func89 rfl Try.ntmps89 (Nat.le_of_ble_eq_true rfl) rfl ?_
  intro w0 U0 R0 g0
  unfold m_impl_place
  refine AWR.seq ?_
  refine AWR.region ?_
  refine AOR.pure (LT.assign (v := (.s (.c (bC false)))) rfl) ⟨⟨rfl, rfl⟩, trivial⟩ trivial rfl rfl ?_
  refine AOR.nil ?_
  refine AWR.seq ?_
  refine AWR.region ?_
  refine AOR.pure (LT.move (v := (.s (.c (.pv (.xs false (bars.map encTBar)))))) rfl) ⟨rfl, trivial⟩ trivial rfl rfl ?_
  refine AOR.pure (LT.move (v := (.s (.c (iC e)))) rfl) ⟨rfl, trivial⟩ trivial rfl rfl ?_
  refine AOR.bind fun x1 hx1 => ?_
  refine AOR.pure (LT.tindexRO (enc := encTBar) rfl el28 hx1 sz60) ⟨rfl, rfl, trivial⟩ trivial rfl rfl ?_
  refine AOR.pure (LT.loadPxN rfl ag60 (infS inf60) (by exact sz60.symm)) ⟨rfl, trivial⟩ trivial rfl rfl ?_
  refine AOR.step (LT.alloc (n := 21) (cells := [(iC 0), (iC 0)]) rfl ti60 rfl rfl rfl) trivial trivial rfl rfl ?_
  refine AOR.step (LT.bstore (v := (.agg [(iC x1.A), (iC x1.B)])) (out := [(iC x1.A), (iC x1.B)]) rfl rfl (infS inf60) sz60 (by exact rfl) (by exact Nat.le_of_ble_eq_true rfl) (by exact rfl)) ⟨rfl, rfl, trivial⟩ ⟨rfl, trivial⟩ rfl rfl ?_
  refine AOR.nil ?_
  refine AWR.seq ?_
  refine AWR.seq ?_
  refine AWR.ent (Ent.of (σ' := [(0, (.s (.c (.pv (.xs false (bars.map encTBar)))))), (1, (.s (.c (iC l)))), (2, (.s (.c (.pl 0 0)))), (3, (.s (.c (iC e)))), (9, (.s (.c (.pl 21 0))))]) (m' := [(0, (.row 68 [[(.loc 1 0 p.Free.length), (.loc 2 0 p.Tails.length), (.loc 3 0 p.Placed.length)]])), (1, (.prow 3 (p.Free.map encInt))), (2, (.prow 3 (p.Tails.map encInt))), (3, (.prow 3 (p.Placed.map encInt))), (21, (.row 60 [[(iC x1.A), (iC x1.B)]]))]) ⟨rfl, rfl, rfl, rfl, rfl, trivial⟩ ⟨rfl, rfl, rfl, rfl, rfl, trivial⟩) ?_
  refine AWR.region ?_
  refine AOR.pure (LT.move (v := (.s (.c (.pv (.xs false (bars.map encTBar)))))) rfl) ⟨rfl, trivial⟩ trivial rfl rfl ?_
  refine AOR.pure (LT.move (v := (.s (.c (.pl 0 0)))) rfl) ⟨rfl, trivial⟩ trivial rfl rfl ?_
  refine AOR.pure (LT.fieldPl rfl fo60_0) ⟨rfl, trivial⟩ trivial rfl rfl ?_
  refine AOR.pure (LT.bload1 (c := (iC x1.A)) rfl ag3 (by exact rfl)) ⟨rfl, trivial⟩ ⟨rfl, trivial⟩ rfl rfl ?_
  refine AOR.pure (LT.fieldPl rfl fo60_1) ⟨rfl, trivial⟩ trivial rfl rfl ?_
  refine AOR.pure (LT.bload1 (c := (iC x1.B)) rfl ag3 (by exact rfl)) ⟨rfl, trivial⟩ ⟨rfl, trivial⟩ rfl rfl ?_
  refine AOR.pure (LT.move (v := (.s (.c (iC l)))) rfl) ⟨rfl, trivial⟩ trivial rfl rfl ?_
  refine AOR.pure (LT.add rfl) ⟨rfl, ⟨rfl, rfl⟩, trivial⟩ trivial rfl rfl ?_
  refine AOR.bind fun r2 hr2 => ?_
  refine AOR.step (@LT.callF Try.prog _ _ 93 _ _ [(.c (.pv (.xs false (bars.map encTBar)))), (.c (.pl 0 0)), (.c (iC x1.A)), (.c (iC x1.B)), (.c (iC (w64 (l + 1))))] _ _ [] _ _ _ _ ((show Fw.Fn Try.prog 93 [(.c (.pv (.xs false (bars.map encTBar)))), (.c (.pl 0 0)), (.c (iC x1.A)), (.c (iC x1.B)), (.c (iC (w64 (l + 1))))] [(0, (.row 68 [[(.loc 1 0 p.Free.length), (.loc 2 0 p.Tails.length), (.loc 3 0 p.Placed.length)]])), (1, (.prow 3 (p.Free.map encInt))), (2, (.prow 3 (p.Tails.map encInt))), (3, (.prow 3 (p.Placed.map encInt)))] (.s (.c (bC r2.1))) [(0, (.row 68 [[(.loc 1 0 r2.2.Free.length), (.loc 2 0 r2.2.Tails.length), (.loc 3 0 r2.2.Placed.length)]])), (1, (.prow 3 (r2.2.Free.map encInt))), (2, (.prow 3 (r2.2.Tails.map encInt))), (3, (.prow 3 (r2.2.Placed.map encInt)))] [0, 1, 2, 3] [1, 2, 3] from Fw.Fn.ren [(0, 0), (1, 1), (2, 2), (3, 3)] (w_impl_gather bars p x1.A x1.B (w64 (l + 1)) r2 hr2) rfl)) rfl cb93 (.cons (.c (.same rfl)) (.cons (.c (.same rfl)) (.cons (.c (.same rfl)) (.cons (.c (.same rfl)) (.cons (.c (.same rfl)) .nil))))) rfl rfl ⟨rfl, rfl, rfl, rfl, trivial⟩) ⟨rfl, rfl, rfl, rfl, rfl, rfl, trivial⟩ ⟨rfl, rfl, rfl, rfl, trivial⟩ rfl rfl ?_
  refine AOR.pure (LT.not rfl) ⟨rfl, trivial⟩ trivial rfl rfl ?_
  refine AOR.nil ?_
  refine AWR.cond rfl (fun hc3 => ?_) (fun hc3 => ?_)
  · refine AWR.seq ?_
    refine AWR.ent (Ent.of (σ' := []) (m' := [(0, (.row 68 [[(.loc 1 0 r2.2.Free.length), (.loc 2 0 r2.2.Tails.length), (.loc 3 0 r2.2.Placed.length)]])), (1, (.prow 3 (r2.2.Free.map encInt))), (2, (.prow 3 (r2.2.Tails.map encInt))), (3, (.prow 3 (r2.2.Placed.map encInt)))]) trivial ⟨rfl, rfl, rfl, rfl, trivial⟩) ?_
    refine AWR.region ?_
    refine AOR.pure (LT.assign (v := (.s (.c (bC false)))) rfl) ⟨⟨rfl, rfl⟩, trivial⟩ trivial rfl rfl ?_
    refine AOR.nil ?_
    refine AWR.ret (FPost.mk (.inr rfl) ⟨rfl, trivial⟩ ⟨rfl, rfl, rfl, rfl, trivial⟩ rfl ⟨PermP.sc, trivial⟩ ⟨PermO.row1 ⟨trivial, trivial, trivial, trivial⟩, PermO.prow' perm_encInt, PermO.prow' perm_encInt, PermO.prow' perm_encInt, trivial⟩)
  · refine AWR.skip ?_
    refine AWR.seq ?_
    refine AWR.ent (Ent.of (σ' := [(2, (.s (.c (.pl 0 0)))), (3, (.s (.c (iC e)))), (9, (.s (.c (.pl 21 0))))]) (m' := [(0, (.row 68 [[(.loc 1 0 r2.2.Free.length), (.loc 2 0 r2.2.Tails.length), (.loc 3 0 r2.2.Placed.length)]])), (1, (.prow 3 (r2.2.Free.map encInt))), (2, (.prow 3 (r2.2.Tails.map encInt))), (3, (.prow 3 (r2.2.Placed.map encInt))), (21, (.row 60 [[(iC x1.A), (iC x1.B)]]))]) ⟨rfl, rfl, rfl, trivial⟩ ⟨rfl, rfl, rfl, rfl, rfl, trivial⟩) ?_
    refine AWR.region ?_
    refine AOR.pure (LT.fieldPl rfl fo60_0) ⟨rfl, trivial⟩ trivial rfl rfl ?_
    refine AOR.pure (LT.bload1 (c := (iC x1.A)) rfl ag3 (by exact rfl)) ⟨rfl, trivial⟩ ⟨rfl, trivial⟩ rfl rfl ?_
    refine AOR.pure (LT.assign (v := (.s (.c (iC x1.A)))) rfl) ⟨rfl, trivial⟩ trivial rfl rfl ?_
    refine AOR.nil ?_
    refine AWR.seq ?_
    refine AWR.seq ?_
    refine AWR.draw mixed ?_
    refine AOD.pure (LT.move (v := (.s (.c (.pl 0 0)))) rfl) ⟨rfl, trivial⟩ trivial rfl rfl ?_
    refine AOD.pure (LT.nilPl rfl) ⟨rfl, trivial⟩ trivial rfl rfl ?_
    refine AOD.pure (LT.fieldPl rfl fo68_0) ⟨rfl, trivial⟩ trivial rfl rfl ?_
    refine AOD.pure (LT.bload1 (c := (.loc 1 0 r2.2.Free.length)) rfl ag26 (by exact rfl)) ⟨rfl, trivial⟩ ⟨rfl, trivial⟩ rfl rfl ?_
    refine AOD.pure (LT.fieldPl rfl fo60_0) ⟨rfl, trivial⟩ trivial rfl rfl ?_
    refine AOD.pure (LT.bload1 (c := (iC x1.A)) rfl ag3 (by exact rfl)) ⟨rfl, trivial⟩ ⟨rfl, trivial⟩ rfl rfl ?_
    refine AOD.bind fun x4 hx4 => ?_
    refine AOD.pure (LT.tindexLoc rfl rfl el26 hx4) ⟨rfl, rfl, trivial⟩ ⟨rfl, trivial⟩ rfl rfl ?_
    refine AOD.pure (LT.tload1 (k := 0) rfl ag3 hx4 (by exact rfl) (by exact rfl)) ⟨rfl, trivial⟩ ⟨rfl, trivial⟩ rfl rfl ?_
    refine AOD.pure (LT.eql rfl) ⟨rfl, ⟨rfl, rfl⟩, trivial⟩ trivial rfl rfl ?_
    refine AOD.nil (by kernel_rfl) ?_
    refine AWR.joinK (fun j6 => ([(2, (.s (.c (.pl 0 0)))), (3, (.s (.c (iC e)))), (10, (.s (.c (iC j6))))], [(0, (.row 68 [[(.loc 1 0 r2.2.Free.length), (.loc 2 0 r2.2.Tails.length), (.loc 3 0 r2.2.Placed.length)]])), (1, (.prow 3 (r2.2.Free.map encInt))), (2, (.prow 3 (r2.2.Tails.map encInt))), (3, (.prow 3 (r2.2.Placed.map encInt)))])) ?_ (fun j6 _ => ?_)
    · refine AWR.cond rfl (fun hc7 => ?_) (fun hc7 => ?_)
      · refine AWR.ent (Ent.of (σ' := [(2, (.s (.c (.pl 0 0)))), (3, (.s (.c (iC e)))), (9, (.s (.c (.pl 21 0))))]) (m' := [(0, (.row 68 [[(.loc 1 0 r2.2.Free.length), (.loc 2 0 r2.2.Tails.length), (.loc 3 0 r2.2.Placed.length)]])), (1, (.prow 3 (r2.2.Free.map encInt))), (2, (.prow 3 (r2.2.Tails.map encInt))), (3, (.prow 3 (r2.2.Placed.map encInt))), (21, (.row 60 [[(iC x1.A), (iC x1.B)]]))]) ⟨rfl, rfl, rfl, trivial⟩ ⟨rfl, rfl, rfl, rfl, rfl, trivial⟩) ?_
        refine AWR.region ?_
        refine AOR.pure (LT.fieldPl rfl fo60_1) ⟨rfl, trivial⟩ trivial rfl rfl ?_
        refine AOR.pure (LT.bload1 (c := (iC x1.B)) rfl ag3 (by exact rfl)) ⟨rfl, trivial⟩ ⟨rfl, trivial⟩ rfl rfl ?_
        refine AOR.pure (LT.assign (v := (.s (.c (iC x1.B)))) rfl) ⟨rfl, trivial⟩ trivial rfl rfl ?_
        refine AOR.nil ?_
        refine AWR.nil ⟨rfl, Ent.of ⟨rfl, rfl, rfl, trivial⟩ ⟨rfl, rfl, rfl, rfl, trivial⟩⟩
      · refine AWR.skip ?_
        refine AWR.nil ⟨rfl, Ent.of ⟨rfl, rfl, rfl, trivial⟩ ⟨rfl, rfl, rfl, rfl, trivial⟩⟩
    · refine AWR.seq ?_
      refine AWR.region ?_
      refine AOR.pure (LT.move (v := (.s (.c (.pl 0 0)))) rfl) ⟨rfl, trivial⟩ trivial rfl rfl ?_
      refine AOR.pure (LT.nilPl rfl) ⟨rfl, trivial⟩ trivial rfl rfl ?_
      refine AOR.pure (LT.fieldPl rfl fo68_0) ⟨rfl, trivial⟩ trivial rfl rfl ?_
      refine AOR.pure (LT.bload1 (c := (.loc 1 0 r2.2.Free.length)) rfl ag26 (by exact rfl)) ⟨rfl, trivial⟩ ⟨rfl, trivial⟩ rfl rfl ?_
      refine AOR.pure (LT.move (v := (.s (.c (iC j6)))) rfl) ⟨rfl, trivial⟩ trivial rfl rfl ?_
      refine AOR.bind fun x8 hx8 => ?_
      refine AOR.pure (LT.tindexLoc rfl rfl el26 hx8) ⟨rfl, rfl, trivial⟩ ⟨rfl, trivial⟩ rfl rfl ?_
      refine AOR.pure (LT.tload1 (k := 0) rfl ag3 hx8 (by exact rfl) (by exact rfl)) ⟨rfl, trivial⟩ ⟨rfl, trivial⟩ rfl rfl ?_
      refine AOR.pure (LT.sub rfl) ⟨rfl, ⟨rfl, rfl⟩, trivial⟩ trivial rfl rfl ?_
      refine AOR.bind fun x9 hx9 => ?_
      refine AOR.pure (LT.tindexLoc rfl rfl el26 hx9) ⟨rfl, rfl, trivial⟩ ⟨rfl, trivial⟩ rfl rfl ?_
      refine AOR.step (LT.tstore (k := 0) (v := (.c (iC (w64 (x8 - 1))))) (b' := (w64 (x8 - 1))) rfl rfl (infS inf3) sz3 (by exact rfl) hx9 (by exact rfl) (by exact Nat.le_of_ble_eq_true rfl) (by exact rfl)) ⟨rfl, rfl, trivial⟩ ⟨rfl, trivial⟩ rfl rfl ?_
      refine AOR.nil ?_
      refine AWR.seq ?_
      refine AWR.ent (Ent.of (σ' := [(2, (.s (.c (.pl 0 0)))), (3, (.s (.c (iC e)))), (10, (.s (.c (iC j6))))]) (m' := [(0, (.row 68 [[(.loc 1 0 r2.2.Free.length), (.loc 2 0 r2.2.Tails.length), (.loc 3 0 r2.2.Placed.length)]])), (1, (.prow 3 ((r2.2.Free.set j6.toNat (w64 (x8 - 1))).map encInt))), (2, (.prow 3 (r2.2.Tails.map encInt))), (3, (.prow 3 (r2.2.Placed.map encInt)))]) ⟨rfl, rfl, rfl, trivial⟩ ⟨rfl, rfl, rfl, rfl, trivial⟩) ?_
      refine AWR.region ?_
      refine AOR.pure (LT.move (v := (.s (.c (.pl 0 0)))) rfl) ⟨rfl, trivial⟩ trivial rfl rfl ?_
      refine AOR.pure (LT.move (v := (.s (.c (.pl 0 0)))) rfl) ⟨rfl, trivial⟩ trivial rfl rfl ?_
      refine AOR.pure (LT.nilPl rfl) ⟨rfl, trivial⟩ trivial rfl rfl ?_
      refine AOR.pure (LT.fieldPl rfl fo68_1) ⟨rfl, trivial⟩ trivial rfl rfl ?_
      refine AOR.pure (LT.bload1 (c := (.loc 2 0 r2.2.Tails.length)) rfl ag26 (by exact rfl)) ⟨rfl, trivial⟩ ⟨rfl, trivial⟩ rfl rfl ?_
      refine AOR.pure (LT.move (v := (.s (.c (iC j6)))) rfl) ⟨rfl, trivial⟩ trivial rfl rfl ?_
      refine AOR.step (LT.tbuildSlice (n := 23) (enc := encInt) [(0, .tmp 52, (.c (iC j6)))] ([j6] : List Int) rfl rfl und26 ti3 rfl rfl rfl rfl (by decide) (fun _ => rfl) rfl) ⟨rfl, trivial⟩ trivial rfl rfl ?_
      refine AOR.bind fun u10 hu10 => ?_
      refine AOR.step (LT.tappP (enc := encInt) rfl rfl rfl und26 ti3 rfl (by decide) (by decide) (fun _ => rfl) (lim_le hu10)) ⟨rfl, rfl, trivial⟩ ⟨rfl, rfl, trivial⟩ rfl rfl ?_
      refine AOR.pure (LT.nilPl rfl) ⟨rfl, trivial⟩ trivial rfl rfl ?_
      refine AOR.pure (LT.fieldPl rfl fo68_1) ⟨rfl, trivial⟩ trivial rfl rfl ?_
      refine AOR.step (LT.bstore (v := (.c (.loc 2 0 (r2.2.Tails ++ ([j6] : List Int)).length))) (out := [(.loc 1 0 r2.2.Free.length), (.loc 2 0 (r2.2.Tails ++ ([j6] : List Int)).length), (.loc 3 0 r2.2.Placed.length)]) rfl rfl (infS inf26) sz26 (by exact rfl) (by exact Nat.le_of_ble_eq_true rfl) (by exact rfl)) ⟨rfl, rfl, trivial⟩ ⟨rfl, trivial⟩ rfl rfl ?_
      refine AOR.nil ?_
      refine AWR.seq ?_
      refine AWR.ent (Ent.of (σ' := [(2, (.s (.c (.pl 0 0)))), (3, (.s (.c (iC e))))]) (m' := [(0, (.row 68 [[(.loc 1 0 r2.2.Free.length), (.loc 2 0 (r2.2.Tails ++ ([j6] : List Int)).length), (.loc 3 0 r2.2.Placed.length)]])), (1, (.prow 3 ((r2.2.Free.set j6.toNat (w64 (x8 - 1))).map encInt))), (2, (.prow 3 ((r2.2.Tails ++ ([j6] : List Int)).map encInt))), (3, (.prow 3 (r2.2.Placed.map encInt)))]) ⟨rfl, rfl, trivial⟩ ⟨rfl, rfl, rfl, rfl, trivial⟩) ?_
      refine AWR.region ?_
      refine AOR.pure (LT.move (v := (.s (.c (.pl 0 0)))) rfl) ⟨rfl, trivial⟩ trivial rfl rfl ?_
      refine AOR.pure (LT.move (v := (.s (.c (.pl 0 0)))) rfl) ⟨rfl, trivial⟩ trivial rfl rfl ?_
      refine AOR.pure (LT.nilPl rfl) ⟨rfl, trivial⟩ trivial rfl rfl ?_
      refine AOR.pure (LT.fieldPl rfl fo68_2) ⟨rfl, trivial⟩ trivial rfl rfl ?_
      refine AOR.pure (LT.bload1 (c := (.loc 3 0 r2.2.Placed.length)) rfl ag26 (by exact rfl)) ⟨rfl, trivial⟩ ⟨rfl, trivial⟩ rfl rfl ?_
      refine AOR.pure (LT.move (v := (.s (.c (iC e)))) rfl) ⟨rfl, trivial⟩ trivial rfl rfl ?_
      refine AOR.step (LT.tbuildSlice (n := 24) (enc := encInt) [(0, .tmp 62, (.c (iC e)))] ([e] : List Int) rfl rfl und26 ti3 rfl rfl rfl rfl (by decide) (fun _ => rfl) rfl) ⟨rfl, trivial⟩ trivial rfl rfl ?_
      refine AOR.bind fun u11 hu11 => ?_
      refine AOR.step (LT.tappP (enc := encInt) rfl rfl rfl und26 ti3 rfl (by decide) (by decide) (fun _ => rfl) (lim_le hu11)) ⟨rfl, rfl, trivial⟩ ⟨rfl, rfl, trivial⟩ rfl rfl ?_
      refine AOR.pure (LT.nilPl rfl) ⟨rfl, trivial⟩ trivial rfl rfl ?_
      refine AOR.pure (LT.fieldPl rfl fo68_2) ⟨rfl, trivial⟩ trivial rfl rfl ?_
      refine AOR.step (LT.bstore (v := (.c (.loc 3 0 (r2.2.Placed ++ ([e] : List Int)).length))) (out := [(.loc 1 0 r2.2.Free.length), (.loc 2 0 (r2.2.Tails ++ ([j6] : List Int)).length), (.loc 3 0 (r2.2.Placed ++ ([e] : List Int)).length)]) rfl rfl (infS inf26) sz26 (by exact rfl) (by exact Nat.le_of_ble_eq_true rfl) (by exact rfl)) ⟨rfl, rfl, trivial⟩ ⟨rfl, trivial⟩ rfl rfl ?_
      refine AOR.nil ?_
      refine AWR.seq ?_
      refine AWR.ent (Ent.of (σ' := []) (m' := [(0, (.row 68 [[(.loc 1 0 r2.2.Free.length), (.loc 2 0 (r2.2.Tails ++ ([j6] : List Int)).length), (.loc 3 0 (r2.2.Placed ++ ([e] : List Int)).length)]])), (1, (.prow 3 ((r2.2.Free.set j6.toNat (w64 (x8 - 1))).map encInt))), (2, (.prow 3 ((r2.2.Tails ++ ([j6] : List Int)).map encInt))), (3, (.prow 3 ((r2.2.Placed ++ ([e] : List Int)).map encInt)))]) trivial ⟨rfl, rfl, rfl, rfl, trivial⟩) ?_
      refine AWR.region ?_
      refine AOR.pure (LT.assign (v := (.s (.c (bC true)))) rfl) ⟨⟨rfl, rfl⟩, trivial⟩ trivial rfl rfl ?_
      refine AOR.nil ?_
      refine AWR.ent (Ent.of (σ' := [(8, (.s (.c (bC true))))]) (m' := [(0, (.row 68 [[(.loc 1 0 (r2.2.Free.set j6.toNat (w64 (x8 - 1))).length), (.loc 2 0 (r2.2.Tails ++ ([j6] : List Int)).length), (.loc 3 0 (r2.2.Placed ++ ([e] : List Int)).length)]])), (1, (.prow 3 ((r2.2.Free.set j6.toNat (w64 (x8 - 1))).map encInt))), (2, (.prow 3 ((r2.2.Tails ++ ([j6] : List Int)).map encInt))), (3, (.prow 3 ((r2.2.Placed ++ ([e] : List Int)).map encInt)))]) ⟨rfl, trivial⟩ ⟨(congrArg (fun l1 => (some (Ob.row 68 [[(.loc 1 0 l1), (.loc 2 0 (r2.2.Tails ++ ([j6] : List Int)).length), (.loc 3 0 (r2.2.Placed ++ ([e] : List Int)).length)]]) : Option Ob)) (show r2.2.Free.length = (r2.2.Free.set j6.toNat (w64 (x8 - 1))).length by simp only [List.length_set])), rfl, rfl, rfl, trivial⟩) ?_
      refine AWR.ret (FPost.mk (.inr rfl) ⟨rfl, trivial⟩ ⟨rfl, rfl, rfl, rfl, trivial⟩ rfl ⟨PermP.sc, trivial⟩ ⟨PermO.row1 ⟨trivial, trivial, trivial, trivial⟩, PermO.prow' perm_encInt, PermO.prow' perm_encInt, PermO.prow' perm_encInt, trivial⟩)
set_option maxRecDepth 100000 in
set_option maxHeartbeats 8000000 in
theorem w_impl_play (points : Int) (bars : (List TBar)) (k : Int) (l : Int) : ∀ t, m_impl_play points bars k l = some t → Fw.Fn Try.prog 85 [(.c (iC points)), (.c (.pv (.xs false (bars.map encTBar)))), (.c (iC k)), (.c (iC l))] [] (.s (.agg [(.loc 0 0 t.Free.length), (.loc 1 0 t.Tails.length), (.loc 2 0 t.Placed.length)])) [(0, (.prow 3 (t.Free.map encInt))), (1, (.prow 3 (t.Tails.map encInt))), (2, (.prow 3 (t.Placed.map encInt)))] [] [0, 1, 2] := by
  refine Fw.Fn.of (P := Try.prog) (X := [0, 1, 2]) (pn := []) (rs := (fun (t : TPebbles) => [(.agg [(.loc 0 0 t.Free.length), (.loc 1 0 t.Tails.length), (.loc 2 0 t.Placed.length)])])) (dfs := (fun (t : TPebbles) => [(0, (.prow 3 (t.Free.map encInt))), (1, (.prow 3 (t.Tails.map encInt))), (2, (.prow 3 (t.Placed.map encInt)))])) Try.func85 rfl Try.ntmps85 (Nat.le_of_ble_eq_true rfl) rfl ?_
  intro w0 U0 R0 g0
  unfold m_impl_play
  refine AWR.seq ?_
  refine AWR.region ?_
  refine AOR.step (LT.alloc (n := 21) (cells := [(sC nilV), (sC nilV), (sC nilV)]) rfl ti68 rfl rfl rfl) trivial trivial rfl rfl ?_
  refine AOR.nil ?_
  refine AWR.seq ?_
  refine AWR.region ?_
  refine AOR.pure (LT.build [] rfl rfl pl68 ti68 rfl rfl rfl) trivial trivial rfl rfl ?_
  refine AOR.step (LT.alloc (n := 22) (cells := [(sC nilV), (sC nilV), (sC nilV)]) rfl ti68 rfl rfl rfl) trivial trivial rfl rfl ?_
  refine AOR.step (LT.bstore (v := (.agg [(sC nilV), (sC nilV), (sC nilV)])) (out := [(sC nilV), (sC nilV), (sC nilV)]) rfl rfl (infS inf68) sz68 (by exact rfl) (by exact Nat.le_of_ble_eq_true rfl) (by exact rfl)) ⟨rfl, rfl, trivial⟩ ⟨rfl, trivial⟩ rfl rfl ?_
  refine AOR.nil ?_
  refine AWR.seq ?_
  refine AWR.seq ?_
  refine AWR.region ?_
  refine AOR.pure (LT.move (v := (.s (.c (iC points)))) rfl) ⟨rfl, trivial⟩ trivial rfl rfl ?_
  refine AOR.pure (LT.move (v := (.s (.c (iC 0)))) rfl) ⟨⟨rfl, rfl⟩, trivial⟩ trivial rfl rfl ?_
  refine AOR.nil ?_
  refine AWR.block ?_
  refine AWR.ent (Ent.nilB 22 0 25 3 rfl rfl rfl rfl) ?_
  refine AWR.loop1 (id := 0) (m_impl_play_L1 points k) (fun s1 => ([(1, (.s (.c (.pv (.xs false (bars.map encTBar)))))), (2, (.s (.c (iC k)))), (3, (.s (.c (iC l)))), (8, (.s (.c (.pl 21 0)))), (9, (.s (.c (.pl 22 0)))), (13, (.s (.c (iC points)))), (14, (.s (.c (iC s1.1))))], [(21, (.row 68 [[(sC nilV), (sC nilV), (sC nilV)]])), (22, (.row 68 [[(.loc 25 0 s1.2.length), (sC nilV), (sC nilV)]])), (25, (.prow 3 (s1.2.map encInt)))])) (fun b6 => ([(1, (.s (.c (.pv (.xs false (bars.map encTBar)))))), (3, (.s (.c (iC l)))), (8, (.s (.c (.pl 21 0)))), (9, (.s (.c (.pl 22 0))))], [(21, (.row 68 [[(sC nilV), (sC nilV), (sC nilV)]])), (22, (.row 68 [[(.loc 25 0 b6.length), (sC nilV), (sC nilV)]])), (25, (.prow 3 (b6.map encInt)))])) ?_ (Ent.of ⟨rfl, rfl, rfl, rfl, rfl, rfl, rfl, trivial⟩ ⟨rfl, rfl, rfl, trivial⟩) rfl (fun b6 _ => ?_)
  · intro s1
    unfold m_impl_play_L1
    refine AWR.seq ?_
    refine AWR.region ?_
    refine AOR.pure (LT.lss rfl) ⟨rfl, rfl, trivial⟩ trivial rfl rfl ?_
    refine AOR.nil ?_
    refine AWR.seq ?_
    refine AWR.cond rfl (fun hc7 => ?_) (fun hc7 => ?_)
    · refine AWR.skip ?_
      refine AWR.seq ?_
      refine AWR.block ?_
      refine AWR.region ?_
      refine AOR.pure (LT.fieldPl rfl fo68_0) ⟨rfl, trivial⟩ trivial rfl rfl ?_
      refine AOR.pure (LT.bload1 (c := (.loc 25 0 s1.2.length)) rfl ag26 (by exact rfl)) ⟨rfl, trivial⟩ ⟨rfl, trivial⟩ rfl rfl ?_
      refine AOR.pure (LT.move (v := (.s (.c (iC k)))) rfl) ⟨rfl, trivial⟩ trivial rfl rfl ?_
      refine AOR.step (LT.tbuildSlice (n := 23) (enc := encInt) [(0, .tmp 18, (.c (iC k)))] ([k] : List Int) rfl rfl und26 ti3 rfl rfl rfl rfl (by decide) (fun _ => rfl) rfl) ⟨rfl, trivial⟩ trivial rfl rfl ?_
      refine AOR.bind fun u8 hu8 => ?_
      refine AOR.step (LT.tappP (enc := encInt) rfl rfl rfl und26 ti3 rfl (by decide) (by decide) (fun _ => rfl) (lim_le hu8)) ⟨rfl, rfl, trivial⟩ ⟨rfl, rfl, trivial⟩ rfl rfl ?_
      refine AOR.pure (LT.fieldPl rfl fo68_0) ⟨rfl, trivial⟩ trivial rfl rfl ?_
      refine AOR.step (LT.bstore (v := (.c (.loc 25 0 (s1.2 ++ ([k] : List Int)).length))) (out := [(.loc 25 0 (s1.2 ++ ([k] : List Int)).length), (sC nilV), (sC nilV)]) rfl rfl (infS inf26) sz26 (by exact rfl) (by exact Nat.le_of_ble_eq_true rfl) (by exact rfl)) ⟨rfl, rfl, trivial⟩ ⟨rfl, trivial⟩ rfl rfl ?_
      refine AOR.nil ?_
      refine AWR.blk ?_
      refine AWR.ent (Ent.of (σ' := [(1, (.s (.c (.pv (.xs false (bars.map encTBar)))))), (2, (.s (.c (iC k)))), (3, (.s (.c (iC l)))), (8, (.s (.c (.pl 21 0)))), (9, (.s (.c (.pl 22 0)))), (13, (.s (.c (iC points)))), (14, (.s (.c (iC s1.1))))]) (m' := [(21, (.row 68 [[(sC nilV), (sC nilV), (sC nilV)]])), (22, (.row 68 [[(.loc 25 0 (s1.2 ++ ([k] : List Int)).length), (sC nilV), (sC nilV)]])), (25, (.prow 3 ((s1.2 ++ ([k] : List Int)).map encInt)))]) ⟨rfl, rfl, rfl, rfl, rfl, rfl, rfl, trivial⟩ ⟨rfl, rfl, rfl, trivial⟩) ?_
      refine AWR.region ?_
      refine AOR.pure (LT.add rfl) ⟨rfl, ⟨rfl, rfl⟩, trivial⟩ trivial rfl rfl ?_
      refine AOR.pure (LT.move (v := (.s (.c (iC (w64 (s1.1 + 1)))))) rfl) ⟨rfl, trivial⟩ trivial rfl rfl ?_
      refine AOR.nil ?_
      refine AWR.nil ⟨rfl, Ent.of ⟨rfl, rfl, rfl, rfl, rfl, rfl, rfl, trivial⟩ ⟨rfl, rfl, rfl, trivial⟩⟩
    · refine AWR.exit_end rfl ⟨rfl, Ent.of ⟨rfl, rfl, rfl, rfl, trivial⟩ ⟨rfl, rfl, rfl, trivial⟩⟩
  · refine AWR.seq ?_
    refine AWR.seq ?_
    refine AWR.region ?_
    refine AOR.pure (LT.move (v := (.s (.c (.pv (.xs false (bars.map encTBar)))))) rfl) ⟨rfl, trivial⟩ trivial rfl rfl ?_
    refine AOR.pure (LT.tlenRO rfl und28) ⟨rfl, trivial⟩ trivial rfl rfl ?_
    refine AOR.pure (LT.move (v := (.s (.c (iC 0)))) rfl) ⟨⟨rfl, rfl⟩, trivial⟩ trivial rfl rfl ?_
    refine AOR.nil ?_
    refine AWR.block ?_
    refine AWR.ent (Ent.nilB 22 1 32 3 rfl rfl rfl rfl) ?_
    refine AWR.ent (Ent.nilB 22 2 33 3 rfl rfl rfl rfl) ?_
    refine AWR.loop1 (id := 2) (m_impl_play_L2 bars l) (fun s9 => ([(1, (.s (.c (.pv (.xs false (bars.map encTBar)))))), (3, (.s (.c (iC l)))), (8, (.s (.c (.pl 21 0)))), (9, (.s (.c (.pl 22 0)))), (24, (.s (.c (iC (bars.length : Int))))), (25, (.s (.c (iC s9.1))))], [(21, (.row 68 [[(sC nilV), (sC nilV), (sC nilV)]])), (22, (.row 68 [[(.loc 25 0 s9.2.1.length), (.loc 32 0 s9.2.2.1.length), (.loc 33 0 s9.2.2.2.length)]])), (25, (.prow 3 (s9.2.1.map encInt))), (32, (.prow 3 (s9.2.2.1.map encInt))), (33, (.prow 3 (s9.2.2.2.map encInt)))])) (fun b22 => ([(8, (.s (.c (.pl 21 0)))), (9, (.s (.c (.pl 22 0))))], [(21, (.row 68 [[(sC nilV), (sC nilV), (sC nilV)]])), (22, (.row 68 [[(.loc 25 0 b22.1.length), (.loc 32 0 b22.2.1.length), (.loc 33 0 b22.2.2.length)]])), (25, (.prow 3 (b22.1.map encInt))), (32, (.prow 3 (b22.2.1.map encInt))), (33, (.prow 3 (b22.2.2.map encInt)))])) ?_ (Ent.of ⟨rfl, rfl, rfl, rfl, rfl, rfl, trivial⟩ ⟨rfl, rfl, rfl, rfl, rfl, trivial⟩) rfl (fun b22 _ => ?_)
    · intro s9
      unfold m_impl_play_L2
      refine AWR.seq ?_
      refine AWR.region ?_
      refine AOR.pure (LT.lss rfl) ⟨rfl, rfl, trivial⟩ trivial rfl rfl ?_
      refine AOR.nil ?_
      refine AWR.seq ?_
      refine AWR.cond rfl (fun hc23 => ?_) (fun hc23 => ?_)
      · refine AWR.skip ?_
        refine AWR.seq ?_
        refine AWR.block ?_
        refine AWR.seq ?_
        refine AWR.region ?_
        refine AOR.pure (LT.move (v := (.s (.c (iC s9.1)))) rfl) ⟨rfl, trivial⟩ trivial rfl rfl ?_
        refine AOR.pure (LT.assign (v := (.s (.c (iC s9.1)))) rfl) ⟨rfl, trivial⟩ trivial rfl rfl ?_
        refine AOR.nil ?_
        refine AWR.seq ?_
        refine AWR.region ?_
        refine AOR.pure (LT.bloadN (out := [(.loc 25 0 s9.2.1.length), (.loc 32 0 s9.2.2.1.length), (.loc 33 0 s9.2.2.2.length)]) rfl ag68 (infS inf68) sz68 (by exact rfl) (by exact rfl)) ⟨rfl, trivial⟩ ⟨rfl, trivial⟩ rfl rfl ?_
        refine AOR.bind fun r24 hr24 => ?_
        refine AOR.step (@LT.callF Try.prog _ _ 88 _ _ [(.agg [(.loc 25 0 s9.2.1.length), (.loc 32 0 s9.2.2.1.length), (.loc 33 0 s9.2.2.2.length)])] _ _ [(25, (.prow 3 (s9.2.1.map encInt))), (32, (.prow 3 (s9.2.2.1.map encInt))), (33, (.prow 3 (s9.2.2.2.map encInt)))] _ _ _ _ ((show Fw.Fn Try.prog 88 [(.agg [(.pv (.xs false (((TPebbles.mk s9.2.1 s9.2.2.1 s9.2.2.2).Free).map encInt))), (.pv (.xs false (((TPebbles.mk s9.2.1 s9.2.2.1 s9.2.2.2).Tails).map encInt))), (.pv (.xs false (((TPebbles.mk s9.2.1 s9.2.2.1 s9.2.2.2).Placed).map encInt)))])] [] (.s (.agg [(.loc 27 0 r24.Free.length), (.loc 28 0 r24.Tails.length), (.loc 29 0 r24.Placed.length)])) [(27, (.prow 3 (r24.Free.map encInt))), (28, (.prow 3 (r24.Tails.map encInt))), (29, (.prow 3 (r24.Placed.map encInt)))] [] [27, 28, 29] from Fw.Fn.ren [(0, 27), (1, 28), (2, 29)] (w_impl_copyPebbles (TPebbles.mk s9.2.1 s9.2.2.1 s9.2.2.2) r24 hr24) rfl)) rfl cb88 (.cons (.agg (.cons (.tloc rfl rfl) (.cons (.tloc rfl rfl) (.cons (.tloc rfl rfl) .nil)))) .nil) rfl rfl trivial) ⟨rfl, rfl, trivial⟩ ⟨rfl, rfl, rfl, trivial⟩ rfl rfl ?_
        refine AOR.step (LT.alloc (n := 30) (cells := [(sC nilV), (sC nilV), (sC nilV)]) rfl ti68 rfl rfl rfl) trivial trivial rfl rfl ?_
        refine AOR.step (LT.bstore (v := (.agg [(.loc 27 0 r24.Free.length), (.loc 28 0 r24.Tails.length), (.loc 29 0 r24.Placed.length)])) (out := [(.loc 27 0 r24.Free.length), (.loc 28 0 r24.Tails.length), (.loc 29 0 r24.Placed.length)]) rfl rfl (infS inf68) sz68 (by exact rfl) (by exact Nat.le_of_ble_eq_true rfl) (by exact rfl)) ⟨rfl, rfl, trivial⟩ ⟨rfl, trivial⟩ rfl rfl ?_
        refine AOR.nil ?_
        refine AWR.seq ?_
        refine AWR.ent (Ent.of (σ' := [(1, (.s (.c (.pv (.xs false (bars.map encTBar)))))), (3, (.s (.c (iC l)))), (8, (.s (.c (.pl 21 0)))), (9, (.s (.c (.pl 22 0)))), (10, (.s (.c (iC s9.1)))), (11, (.s (.c (.pl 30 0)))), (24, (.s (.c (iC (bars.length : Int))))), (25, (.s (.c (iC s9.1))))]) (m' := [(21, (.row 68 [[(sC nilV), (sC nilV), (sC nilV)]])), (22, (.row 68 [[(.loc 25 0 s9.2.1.length), (.loc 32 0 s9.2.2.1.length), (.loc 33 0 s9.2.2.2.length)]])), (25, (.prow 3 (s9.2.1.map encInt))), (27, (.prow 3 (r24.Free.map encInt))), (28, (.prow 3 (r24.Tails.map encInt))), (29, (.prow 3 (r24.Placed.map encInt))), (30, (.row 68 [[(.loc 27 0 r24.Free.length), (.loc 28 0 r24.Tails.length), (.loc 29 0 r24.Placed.length)]])), (32, (.prow 3 (s9.2.2.1.map encInt))), (33, (.prow 3 (s9.2.2.2.map encInt)))]) ⟨rfl, rfl, rfl, rfl, rfl, rfl, rfl, rfl, trivial⟩ ⟨rfl, rfl, rfl, rfl, rfl, rfl, rfl, rfl, rfl, trivial⟩) ?_
        refine AWR.region ?_
        refine AOR.pure (LT.move (v := (.s (.c (.pv (.xs false (bars.map encTBar)))))) rfl) ⟨rfl, trivial⟩ trivial rfl rfl ?_
        refine AOR.pure (LT.move (v := (.s (.c (iC l)))) rfl) ⟨rfl, trivial⟩ trivial rfl rfl ?_
        refine AOR.pure (LT.move (v := (.s (.c (iC s9.1)))) rfl) ⟨rfl, trivial⟩ trivial rfl rfl ?_
        refine AOR.bind fun r25 hr25 => ?_
        refine AOR.step (@LT.callF Try.prog _ _ 89 _ _ [(.c (.pv (.xs false (bars.map encTBar)))), (.c (iC l)), (.c (.pl 30 0)), (.c (iC s9.1))] _ _ [] _ _ _ _ ((show Fw.Fn Try.prog 89 [(.c (.pv (.xs false (bars.map encTBar)))), (.c (iC l)), (.c (.pl 30 0)), (.c (iC s9.1))] [(30, (.row 68 [[(.loc 27 0 r24.Free.length), (.loc 28 0 r24.Tails.length), (.loc 29 0 r24.Placed.length)]])), (27, (.prow 3 (r24.Free.map encInt))), (28, (.prow 3 (r24.Tails.map encInt))), (29, (.prow 3 (r24.Placed.map encInt)))] (.s (.c (bC r25.1))) [(30, (.row 68 [[(.loc 27 0 r25.2.Free.length), (.loc 28 0 r25.2.Tails.length), (.loc 29 0 r25.2.Placed.length)]])), (27, (.prow 3 (r25.2.Free.map encInt))), (28, (.prow 3 (r25.2.Tails.map encInt))), (29, (.prow 3 (r25.2.Placed.map encInt)))] [30, 27, 28, 29] [27, 28, 29] from Fw.Fn.ren [(0, 30), (1, 27), (2, 28), (3, 29)] (w_impl_place bars l r24 s9.1 r25 hr25) rfl)) rfl cb89 (.cons (.c (.same rfl)) (.cons (.c (.same rfl)) (.cons (.c (.same rfl)) (.cons (.c (.same rfl)) .nil)))) rfl rfl ⟨rfl, rfl, rfl, rfl, trivial⟩) ⟨rfl, rfl, rfl, rfl, rfl, trivial⟩ ⟨rfl, rfl, rfl, rfl, trivial⟩ rfl rfl ?_
        refine AOR.nil ?_
        refine AWR.joinK (fun j27 => ([(1, (.s (.c (.pv (.xs false (bars.map encTBar)))))), (3, (.s (.c (iC l)))), (8, (.s (.c (.pl 21 0)))), (9, (.s (.c (.pl 22 0)))), (24, (.s (.c (iC (bars.length : Int))))), (25, (.s (.c (iC s9.1))))], [(21, (.row 68 [[(sC nilV), (sC nilV), (sC nilV)]])), (22, (.row 68 [[(.loc 27 0 j27.1.length), (.loc 28 0 j27.2.1.length), (.loc 29 0 j27.2.2.length)]])), (27, (.prow 3 (j27.1.map encInt))), (28, (.prow 3 (j27.2.1.map encInt))), (29, (.prow 3 (j27.2.2.map encInt)))])) ?_ (fun j27 _ => ?_)
        · refine AWR.cond rfl (fun hc28 => ?_) (fun hc28 => ?_)
          · refine AWR.region ?_
            refine AOR.pure (LT.bloadN (out := [(.loc 27 0 r25.2.Free.length), (.loc 28 0 r25.2.Tails.length), (.loc 29 0 r25.2.Placed.length)]) rfl ag68 (infS inf68) sz68 (by exact rfl) (by exact rfl)) ⟨rfl, trivial⟩ ⟨rfl, trivial⟩ rfl rfl ?_
            refine AOR.step (LT.bstore (v := (.agg [(.loc 27 0 r25.2.Free.length), (.loc 28 0 r25.2.Tails.length), (.loc 29 0 r25.2.Placed.length)])) (out := [(.loc 27 0 r25.2.Free.length), (.loc 28 0 r25.2.Tails.length), (.loc 29 0 r25.2.Placed.length)]) rfl rfl (infS inf68) sz68 (by exact rfl) (by exact Nat.le_of_ble_eq_true rfl) (by exact rfl)) ⟨rfl, rfl, trivial⟩ ⟨rfl, trivial⟩ rfl rfl ?_
            refine AOR.nil ?_
            refine AWR.nil ⟨rfl, Ent.of ⟨rfl, rfl, rfl, rfl, rfl, rfl, trivial⟩ ⟨rfl, rfl, rfl, rfl, rfl, trivial⟩⟩
          · refine AWR.skip ?_
            refine AWR.ent (Ent.of (σ' := [(1, (.s (.c (.pv (.xs false (bars.map encTBar)))))), (3, (.s (.c (iC l)))), (8, (.s (.c (.pl 21 0)))), (9, (.s (.c (.pl 22 0)))), (24, (.s (.c (iC (bars.length : Int))))), (25, (.s (.c (iC s9.1))))]) (m' := [(21, (.row 68 [[(sC nilV), (sC nilV), (sC nilV)]])), (22, (.row 68 [[(.loc 25 0 s9.2.1.length), (.loc 32 0 s9.2.2.1.length), (.loc 33 0 s9.2.2.2.length)]])), (25, (.prow 3 (s9.2.1.map encInt))), (32, (.prow 3 (s9.2.2.1.map encInt))), (33, (.prow 3 (s9.2.2.2.map encInt)))]) ⟨rfl, rfl, rfl, rfl, rfl, rfl, trivial⟩ ⟨rfl, rfl, rfl, rfl, rfl, trivial⟩) ?_
            refine AWR.ent (Ent.mv 25 27 rfl rfl) ?_
            refine AWR.ent (Ent.mv 32 28 rfl rfl) ?_
            refine AWR.ent (Ent.mv 33 29 rfl rfl) ?_
            refine AWR.nil ⟨rfl, Ent.of ⟨rfl, rfl, rfl, rfl, rfl, rfl, trivial⟩ ⟨rfl, rfl, rfl, rfl, rfl, trivial⟩⟩
        · refine AWR.blk ?_
          refine AWR.region ?_
          refine AOR.pure (LT.add rfl) ⟨rfl, ⟨rfl, rfl⟩, trivial⟩ trivial rfl rfl ?_
          refine AOR.pure (LT.move (v := (.s (.c (iC (w64 (s9.1 + 1)))))) rfl) ⟨rfl, trivial⟩ trivial rfl rfl ?_
          refine AOR.nil ?_
          refine AWR.ent (Ent.of (σ' := [(1, (.s (.c (.pv (.xs false (bars.map encTBar)))))), (3, (.s (.c (iC l)))), (8, (.s (.c (.pl 21 0)))), (9, (.s (.c (.pl 22 0)))), (24, (.s (.c (iC (bars.length : Int))))), (25, (.s (.c (iC (w64 (s9.1 + 1))))))]) (m' := [(21, (.row 68 [[(sC nilV), (sC nilV), (sC nilV)]])), (22, (.row 68 [[(.loc 27 0 j27.1.length), (.loc 28 0 j27.2.1.length), (.loc 29 0 j27.2.2.length)]])), (27, (.prow 3 (j27.1.map encInt))), (28, (.prow 3 (j27.2.1.map encInt))), (29, (.prow 3 (j27.2.2.map encInt)))]) ⟨rfl, rfl, rfl, rfl, rfl, rfl, trivial⟩ ⟨rfl, rfl, rfl, rfl, rfl, trivial⟩) ?_
          refine AWR.ent (Ent.mv 27 25 rfl rfl) ?_
          refine AWR.ent (Ent.mv 28 32 rfl rfl) ?_
          refine AWR.ent (Ent.mv 29 33 rfl rfl) ?_
          refine AWR.nil ⟨rfl, Ent.of ⟨rfl, rfl, rfl, rfl, rfl, rfl, trivial⟩ ⟨rfl, rfl, rfl, rfl, rfl, trivial⟩⟩
      · refine AWR.exit_end rfl ⟨rfl, Ent.of ⟨rfl, rfl, trivial⟩ ⟨rfl, rfl, rfl, rfl, rfl, trivial⟩⟩
    · refine AWR.seq ?_
      refine AWR.region ?_
      refine AOR.pure (LT.bloadN (out := [(.loc 25 0 b22.1.length), (.loc 32 0 b22.2.1.length), (.loc 33 0 b22.2.2.length)]) rfl ag68 (infS inf68) sz68 (by exact rfl) (by exact rfl)) ⟨rfl, trivial⟩ ⟨rfl, trivial⟩ rfl rfl ?_
      refine AOR.step (LT.bstore (v := (.agg [(.loc 25 0 b22.1.length), (.loc 32 0 b22.2.1.length), (.loc 33 0 b22.2.2.length)])) (out := [(.loc 25 0 b22.1.length), (.loc 32 0 b22.2.1.length), (.loc 33 0 b22.2.2.length)]) rfl rfl (infS inf68) sz68 (by exact rfl) (by exact Nat.le_of_ble_eq_true rfl) (by exact rfl)) ⟨rfl, rfl, trivial⟩ ⟨rfl, trivial⟩ rfl rfl ?_
      refine AOR.nil ?_
      refine AWR.ent (Ent.of (σ' := [(8, (.s (.c (.pl 21 0))))]) (m' := [(21, (.row 68 [[(.loc 25 0 b22.1.length), (.loc 32 0 b22.2.1.length), (.loc 33 0 b22.2.2.length)]])), (25, (.prow 3 (b22.1.map encInt))), (32, (.prow 3 (b22.2.1.map encInt))), (33, (.prow 3 (b22.2.2.map encInt)))]) ⟨rfl, trivial⟩ ⟨rfl, rfl, rfl, rfl, trivial⟩) ?_
      refine AWR.ent (Ent.mv 25 0 rfl rfl) ?_
      refine AWR.ent (Ent.mv 32 1 rfl rfl) ?_
      refine AWR.ent (Ent.mv 33 2 rfl rfl) ?_
      refine AWR.ent (Ent.of (σ' := [(8, (.s (.c (.pl 21 0))))]) (m' := [(0, (.prow 3 (b22.1.map encInt))), (1, (.prow 3 (b22.2.1.map encInt))), (2, (.prow 3 (b22.2.2.map encInt))), (21, (.row 68 [[(.loc 0 0 b22.1.length), (.loc 1 0 b22.2.1.length), (.loc 2 0 b22.2.2.length)]]))]) ⟨rfl, trivial⟩ ⟨rfl, rfl, rfl, rfl, trivial⟩) ?_
      refine AWR.ret (FPost.mk (.inr rfl) ⟨⟨_, _, _, rfl, rfl, rfl, ag68, sz68, _, (infS inf68)⟩, trivial⟩ ⟨rfl, rfl, rfl, trivial⟩ rfl ⟨⟨trivial, trivial, trivial, trivial⟩, trivial⟩ ⟨PermO.prow' perm_encInt, PermO.prow' perm_encInt, PermO.prow' perm_encInt, trivial⟩)
set_option maxRecDepth 100000 in
set_option maxHeartbeats 8000000 in
theorem w_impl_RunPebbles (g : TGraph) (k : Int) (l : Int) : ∀ t, m_impl_RunPebbles g k l = some t → Fw.Fn Try.prog 79 [(.agg [(iC g.Points), (.pv (.xs false (g.Bars.map encTBar)))]), (.c (iC k)), (.c (iC l))] [] (resA [(.agg [(.loc 0 0 t.1.Free.length), (.loc 1 0 t.1.Tails.length), (.loc 2 0 t.1.Placed.length)]), (.c (bC t.2))]) [(0, (.prow 3 (t.1.Free.map encInt))), (1, (.prow 3 (t.1.Tails.map encInt))), (2, (.prow 3 (t.1.Placed.map encInt)))] [] [0, 1, 2] := by
  refine Fw.Fn.of (P := Try.prog) (X := [0, 1, 2]) (pn := []) (rs := (fun (t : (TPebbles × Bool)) => [(.agg [(.loc 0 0 t.1.Free.length), (.loc 1 0 t.1.Tails.length), (.loc 2 0 t.1.Placed.length)]), (.c (bC t.2))])) (dfs := (fun (t : (TPebbles × Bool)) => [(0, (.prow 3 (t.1.Free.map encInt))), (1, (.prow 3 (t.1.Tails.map encInt))), (2, (.prow 3 (t.1.Placed.map encInt)))])) Try.func79 rfl Try.ntmps79 (Nat.le_of_ble_eq_true rfl) rfl ?_
  intro w0 U0 R0 g0
  unfold m_impl_RunPebbles
  refine AWR.seq ?_
  refine AWR.region ?_
  refine AOR.step (LT.box (n := 21) (v := (.agg [(iC g.Points), (.pv (.xs false (g.Bars.map encTBar)))])) rfl sz30 (by exact rfl)) ⟨rfl, trivial⟩ trivial rfl rfl ?_
  refine AOR.step (LT.alloc (n := 22) (cells := [(sC nilV), (sC nilV), (sC nilV)]) rfl ti68 rfl rfl rfl) trivial trivial rfl rfl ?_
  refine AOR.pure (LT.assign (v := (.s (.c (bC false)))) rfl) ⟨⟨rfl, rfl⟩, trivial⟩ trivial rfl rfl ?_
  refine AOR.nil ?_
  refine AWR.seq ?_
  refine AWR.seq ?_
  refine AWR.joinK (fun j4 => ([(1, (.s (.c (iC k)))), (2, (.s (.c (iC l)))), (3, (.s (.c (.pl 21 0)))), (6, (.s (.c (.pl 22 0)))), (16, (.s (.c (bC j4))))], [(21, (.row 30 [[(iC g.Points), (.pv (.xs false (g.Bars.map encTBar)))]])), (22, (.row 68 [[(sC nilV), (sC nilV), (sC nilV)]]))])) ?_ (fun j4 _ => ?_)
  · refine AWR.region ?_
    refine AOR.pure (LT.bloadN (out := [(iC g.Points), (.pv (.xs false (g.Bars.map encTBar)))]) rfl ag30 (infS inf30) sz30 (by exact rfl) (by exact rfl)) ⟨rfl, trivial⟩ ⟨rfl, trivial⟩ rfl rfl ?_
    refine AOR.bind fun r5 hr5 => ?_
    refine AOR.pure (@LT.callF Try.prog _ _ 33 _ _ [(.agg [(iC g.Points), (.pv (.xs false (g.Bars.map encTBar)))])] _ _ [] _ _ _ _ (w_impl_IsGraph g r5 hr5) rfl cb33 (.cons (.agg (.cons (.same rfl) (.cons (.same rfl) .nil))) .nil) rfl rfl trivial) ⟨rfl, rfl, trivial⟩ trivial rfl rfl ?_
    refine AOR.pure (LT.not rfl) ⟨rfl, trivial⟩ trivial rfl rfl ?_
    refine AOR.pure (LT.move (v := (.s (.c (bC (!r5))))) rfl) ⟨rfl, trivial⟩ trivial rfl rfl ?_
    refine AOR.split (fun hb6 => ?_) (fun hb6 => ?_)
    · refine AOR.skip ⟨_, rfl, .inl ⟨_, rfl, (by rw [hb6]; rfl)⟩⟩ rfl ?_
      refine AOR.skip ⟨_, rfl, .inl ⟨_, rfl, (by rw [hb6]; rfl)⟩⟩ rfl ?_
      refine AOR.skip ⟨_, rfl, .inl ⟨_, rfl, (by rw [hb6]; rfl)⟩⟩ rfl ?_
      refine AOR.skip ⟨_, rfl, .inl ⟨_, rfl, (by rw [hb6]; rfl)⟩⟩ rfl ?_
      refine AOR.pure (LT.pickT (v := (.s (.c (bC true)))) rfl hb6) ⟨rfl, ⟨rfl, rfl⟩, trivial⟩ trivial rfl rfl ?_
      refine AOR.nil ?_
      refine AWR.nil ⟨rfl, Ent.of ⟨rfl, rfl, rfl, rfl, rfl, trivial⟩ ⟨rfl, rfl, trivial⟩⟩
    · refine AOR.pure (LT.move (v := (.s (.c (iC k)))) rfl) ⟨rfl, trivial⟩ trivial ⟨_, rfl, .inl ⟨_, rfl, (by rw [hb6]; rfl)⟩⟩ rfl ?_
      refine AOR.pure (LT.move (v := (.s (.c (iC l)))) rfl) ⟨rfl, trivial⟩ trivial ⟨_, rfl, .inl ⟨_, rfl, (by rw [hb6]; rfl)⟩⟩ rfl ?_
      refine AOR.bind fun r7 hr7 => ?_
      refine AOR.pure (@LT.callF Try.prog _ _ 84 _ _ [(.c (iC k)), (.c (iC l))] _ _ [] _ _ _ _ (w_impl_IsRange k l r7 hr7) rfl cb84 (.cons (.c (.same rfl)) (.cons (.c (.same rfl)) .nil)) rfl rfl trivial) ⟨rfl, rfl, rfl, trivial⟩ trivial ⟨_, rfl, .inl ⟨_, rfl, (by rw [hb6]; rfl)⟩⟩ rfl ?_
      refine AOR.pure (LT.not rfl) ⟨rfl, trivial⟩ trivial ⟨_, rfl, .inl ⟨_, rfl, (by rw [hb6]; rfl)⟩⟩ rfl ?_
      refine AOR.pure (LT.pickF (v := (.s (.c (bC (!r7))))) rfl hb6) ⟨rfl, rfl, trivial⟩ trivial rfl rfl ?_
      refine AOR.nil ?_
      refine AWR.nil ⟨rfl, Ent.of ⟨rfl, rfl, rfl, rfl, rfl, trivial⟩ ⟨rfl, rfl, trivial⟩⟩
  · refine AWR.cond rfl (fun hc8 => ?_) (fun hc8 => ?_)
    · refine AWR.seq ?_
      refine AWR.region ?_
      refine AOR.pure (LT.build [] rfl rfl pl68 ti68 rfl rfl rfl) trivial trivial rfl rfl ?_
      refine AOR.step (LT.bstore (v := (.agg [(sC nilV), (sC nilV), (sC nilV)])) (out := [(sC nilV), (sC nilV), (sC nilV)]) rfl rfl (infS inf68) sz68 (by exact rfl) (by exact Nat.le_of_ble_eq_true rfl) (by exact rfl)) ⟨rfl, rfl, trivial⟩ ⟨rfl, trivial⟩ rfl rfl ?_
      refine AOR.pure (LT.assign (v := (.s (.c (bC false)))) rfl) ⟨⟨rfl, rfl⟩, trivial⟩ trivial rfl rfl ?_
      refine AOR.nil ?_
      refine AWR.ent (Ent.nilB 22 0 0 3 rfl rfl rfl rfl) ?_
      refine AWR.ent (Ent.nilB 22 1 1 3 rfl rfl rfl rfl) ?_
      refine AWR.ent (Ent.nilB 22 2 2 3 rfl rfl rfl rfl) ?_
      refine AWR.ent (Ent.of (σ' := [(6, (.s (.c (.pl 22 0)))), (7, (.s (.c (bC false))))]) (m' := [(0, (.prow 3 (([] : List Int).map encInt))), (1, (.prow 3 (([] : List Int).map encInt))), (2, (.prow 3 (([] : List Int).map encInt))), (22, (.row 68 [[(.loc 0 0 ([] : List Int).length), (.loc 1 0 ([] : List Int).length), (.loc 2 0 ([] : List Int).length)]]))]) ⟨rfl, rfl, trivial⟩ ⟨rfl, rfl, rfl, rfl, trivial⟩) ?_
      refine AWR.ret (FPost.mk (.inr rfl) ⟨⟨_, _, _, rfl, rfl, rfl, ag68, sz68, _, (infS inf68)⟩, rfl, trivial⟩ ⟨rfl, rfl, rfl, trivial⟩ rfl ⟨⟨trivial, trivial, trivial, trivial⟩, PermP.sc, trivial⟩ ⟨PermO.prow' perm_encInt, PermO.prow' perm_encInt, PermO.prow' perm_encInt, trivial⟩)
    · refine AWR.skip ?_
      refine AWR.seq ?_
      refine AWR.region ?_
      refine AOR.pure (LT.fieldPl rfl fo30_0) ⟨rfl, trivial⟩ trivial rfl rfl ?_
      refine AOR.pure (LT.bload1 (c := (iC g.Points)) rfl ag3 (by exact rfl)) ⟨rfl, trivial⟩ ⟨rfl, trivial⟩ rfl rfl ?_
      refine AOR.pure (LT.fieldPl rfl fo30_1) ⟨rfl, trivial⟩ trivial rfl rfl ?_
      refine AOR.pure (LT.bload1 (c := (.pv (.xs false (g.Bars.map encTBar)))) rfl ag28 (by exact rfl)) ⟨rfl, trivial⟩ ⟨rfl, trivial⟩ rfl rfl ?_
      refine AOR.pure (LT.move (v := (.s (.c (iC k)))) rfl) ⟨rfl, trivial⟩ trivial rfl rfl ?_
      refine AOR.pure (LT.move (v := (.s (.c (iC l)))) rfl) ⟨rfl, trivial⟩ trivial rfl rfl ?_
      refine AOR.bind fun r9 hr9 => ?_
      refine AOR.step (@LT.callF Try.prog _ _ 85 _ _ [(.c (iC g.Points)), (.c (.pv (.xs false (g.Bars.map encTBar)))), (.c (iC k)), (.c (iC l))] _ _ [] _ _ _ _ ((show Fw.Fn Try.prog 85 [(.c (iC g.Points)), (.c (.pv (.xs false (g.Bars.map encTBar)))), (.c (iC k)), (.c (iC l))] [] (.s (.agg [(.loc 26 0 r9.Free.length), (.loc 27 0 r9.Tails.length), (.loc 28 0 r9.Placed.length)])) [(26, (.prow 3 (r9.Free.map encInt))), (27, (.prow 3 (r9.Tails.map encInt))), (28, (.prow 3 (r9.Placed.map encInt)))] [] [26, 27, 28] from Fw.Fn.ren [(0, 26), (1, 27), (2, 28)] (w_impl_play g.Points g.Bars k l r9 hr9) rfl)) rfl cb85 (.cons (.c (.same rfl)) (.cons (.c (.same rfl)) (.cons (.c (.same rfl)) (.cons (.c (.same rfl)) .nil)))) rfl rfl trivial) ⟨rfl, rfl, rfl, rfl, rfl, trivial⟩ trivial rfl rfl ?_
      refine AOR.step (LT.bstore (v := (.agg [(.loc 26 0 r9.Free.length), (.loc 27 0 r9.Tails.length), (.loc 28 0 r9.Placed.length)])) (out := [(.loc 26 0 r9.Free.length), (.loc 27 0 r9.Tails.length), (.loc 28 0 r9.Placed.length)]) rfl rfl (infS inf68) sz68 (by exact rfl) (by exact Nat.le_of_ble_eq_true rfl) (by exact rfl)) ⟨rfl, rfl, trivial⟩ ⟨rfl, trivial⟩ rfl rfl ?_
      refine AOR.pure (LT.assign (v := (.s (.c (bC true)))) rfl) ⟨⟨rfl, rfl⟩, trivial⟩ trivial rfl rfl ?_
      refine AOR.nil ?_
      refine AWR.ent (Ent.of (σ' := [(6, (.s (.c (.pl 22 0)))), (7, (.s (.c (bC true))))]) (m' := [(22, (.row 68 [[(.loc 26 0 r9.Free.length), (.loc 27 0 r9.Tails.length), (.loc 28 0 r9.Placed.length)]])), (26, (.prow 3 (r9.Free.map encInt))), (27, (.prow 3 (r9.Tails.map encInt))), (28, (.prow 3 (r9.Placed.map encInt)))]) ⟨rfl, rfl, trivial⟩ ⟨rfl, rfl, rfl, rfl, trivial⟩) ?_
      refine AWR.ent (Ent.mv 26 0 rfl rfl) ?_
      refine AWR.ent (Ent.mv 27 1 rfl rfl) ?_
      refine AWR.ent (Ent.mv 28 2 rfl rfl) ?_
      refine AWR.ent (Ent.of (σ' := [(6, (.s (.c (.pl 22 0)))), (7, (.s (.c (bC true))))]) (m' := [(0, (.prow 3 (r9.Free.map encInt))), (1, (.prow 3 (r9.Tails.map encInt))), (2, (.prow 3 (r9.Placed.map encInt))), (22, (.row 68 [[(.loc 0 0 r9.Free.length), (.loc 1 0 r9.Tails.length), (.loc 2 0 r9.Placed.length)]]))]) ⟨rfl, rfl, trivial⟩ ⟨rfl, rfl, rfl, rfl, trivial⟩) ?_
      refine AWR.ret (FPost.mk (.inr rfl) ⟨⟨_, _, _, rfl, rfl, rfl, ag68, sz68, _, (infS inf68)⟩, rfl, trivial⟩ ⟨rfl, rfl, rfl, trivial⟩ rfl ⟨⟨trivial, trivial, trivial, trivial⟩, PermP.sc, trivial⟩ ⟨PermO.prow' perm_encInt, PermO.prow' perm_encInt, PermO.prow' perm_encInt, trivial⟩)
set_option maxRecDepth 100000 in
set_option maxHeartbeats 8000000 in
theorem w_impl_RankOf (g : TGraph) (k : Int) (l : Int) : ∀ t, m_impl_RankOf g k l = some t → Fw.Fn Try.prog 72 [(.agg [(iC g.Points), (.pv (.xs false (g.Bars.map encTBar)))]), (.c (iC k)), (.c (iC l))] [] (.s (.c (iC t))) [] [] [] := by
  refine Fw.Fn.of (P := Try.prog) (X := []) (pn := []) (rs := (fun (t : Int) => [(.c (iC t))])) (dfs := (fun (t : Int) => [])) Try.func72 rfl Try.ntmps72 (Nat.le_of_ble_eq_true rfl) rfl ?_
  intro w0 U0 R0 g0
  unfold m_impl_RankOf
  refine AWR.seq ?_
  refine AWR.region ?_
  refine AOR.step (LT.box (n := 21) (v := (.agg [(iC g.Points), (.pv (.xs false (g.Bars.map encTBar)))])) rfl sz30 (by exact rfl)) ⟨rfl, trivial⟩ trivial rfl rfl ?_
  refine AOR.pure (LT.assign (v := (.s (.c (iC 0)))) rfl) ⟨⟨rfl, rfl⟩, trivial⟩ trivial rfl rfl ?_
  refine AOR.nil ?_
  refine AWR.seq ?_
  refine AWR.region ?_
  refine AOR.pure (LT.bloadN (out := [(iC g.Points), (.pv (.xs false (g.Bars.map encTBar)))]) rfl ag30 (infS inf30) sz30 (by exact rfl) (by exact rfl)) ⟨rfl, trivial⟩ ⟨rfl, trivial⟩ rfl rfl ?_
  refine AOR.pure (LT.move (v := (.s (.c (iC k)))) rfl) ⟨rfl, trivial⟩ trivial rfl rfl ?_
  refine AOR.pure (LT.move (v := (.s (.c (iC l)))) rfl) ⟨rfl, trivial⟩ trivial rfl rfl ?_
  refine AOR.bind fun r1 hr1 => ?_
  refine AOR.step (@LT.callF Try.prog _ _ 79 _ _ [(.agg [(iC g.Points), (.pv (.xs false (g.Bars.map encTBar)))]), (.c (iC k)), (.c (iC l))] _ _ [] _ _ _ _ ((show Fw.Fn Try.prog 79 [(.agg [(iC g.Points), (.pv (.xs false (g.Bars.map encTBar)))]), (.c (iC k)), (.c (iC l))] [] (.tup [(.agg [(.loc 23 0 r1.1.Free.length), (.loc 24 0 r1.1.Tails.length), (.loc 25 0 r1.1.Placed.length)]), (.c (bC r1.2))]) [(23, (.prow 3 (r1.1.Free.map encInt))), (24, (.prow 3 (r1.1.Tails.map encInt))), (25, (.prow 3 (r1.1.Placed.map encInt)))] [] [23, 24, 25] from Fw.Fn.ren [(0, 23), (1, 24), (2, 25)] (w_impl_RunPebbles g k l r1 hr1) rfl)) rfl cb79 (.cons (.agg (.cons (.same rfl) (.cons (.same rfl) .nil))) (.cons (.c (.same rfl)) (.cons (.c (.same rfl)) .nil))) rfl rfl trivial) ⟨rfl, rfl, rfl, rfl, trivial⟩ trivial rfl rfl ?_
  refine AOR.pure (LT.move (v := (.tup [(.agg [(.loc 23 0 r1.1.Free.length), (.loc 24 0 r1.1.Tails.length), (.loc 25 0 r1.1.Placed.length)]), (.c (bC r1.2))])) rfl) ⟨rfl, trivial⟩ trivial rfl rfl ?_
  refine AOR.pure (LT.extract (v := (.agg [(.loc 23 0 r1.1.Free.length), (.loc 24 0 r1.1.Tails.length), (.loc 25 0 r1.1.Placed.length)])) rfl (by exact rfl)) ⟨rfl, trivial⟩ trivial rfl rfl ?_
  refine AOR.pure (LT.extract (v := (.c (bC r1.2))) rfl (by exact rfl)) ⟨rfl, trivial⟩ trivial rfl rfl ?_
  refine AOR.step (LT.alloc (n := 26) (cells := [(sC nilV), (sC nilV), (sC nilV)]) rfl ti68 rfl rfl rfl) trivial trivial rfl rfl ?_
  refine AOR.step (LT.bstore (v := (.agg [(.loc 23 0 r1.1.Free.length), (.loc 24 0 r1.1.Tails.length), (.loc 25 0 r1.1.Placed.length)])) (out := [(.loc 23 0 r1.1.Free.length), (.loc 24 0 r1.1.Tails.length), (.loc 25 0 r1.1.Placed.length)]) rfl rfl (infS inf68) sz68 (by exact rfl) (by exact Nat.le_of_ble_eq_true rfl) (by exact rfl)) ⟨rfl, rfl, trivial⟩ ⟨rfl, trivial⟩ rfl rfl ?_
  refine AOR.pure (LT.assign (v := (.s (.c (bC r1.2)))) rfl) ⟨rfl, trivial⟩ trivial rfl rfl ?_
  refine AOR.nil ?_
  refine AWR.seq ?_
  refine AWR.seq ?_
  refine AWR.ent (Ent.of (σ' := [(7, (.s (.c (.pl 26 0)))), (8, (.s (.c (bC r1.2))))]) (m' := [(23, (.prow 3 (r1.1.Free.map encInt))), (24, (.prow 3 (r1.1.Tails.map encInt))), (25, (.prow 3 (r1.1.Placed.map encInt))), (26, (.row 68 [[(.loc 23 0 r1.1.Free.length), (.loc 24 0 r1.1.Tails.length), (.loc 25 0 r1.1.Placed.length)]]))]) ⟨rfl, rfl, trivial⟩ ⟨rfl, rfl, rfl, rfl, trivial⟩) ?_
  refine AWR.region ?_
  refine AOR.pure (LT.move (v := (.s (.c (bC r1.2)))) rfl) ⟨rfl, trivial⟩ trivial rfl rfl ?_
  refine AOR.pure (LT.not rfl) ⟨rfl, trivial⟩ trivial rfl rfl ?_
  refine AOR.nil ?_
  refine AWR.cond rfl (fun hc2 => ?_) (fun hc2 => ?_)
  · refine AWR.seq ?_
    refine AWR.region ?_
    refine AOR.pure (LT.assign (v := (.s (.c (iC (-1))))) rfl) ⟨⟨rfl, rfl⟩, trivial⟩ trivial rfl rfl ?_
    refine AOR.nil ?_
    refine AWR.ret (FPost.mk (.inr rfl) ⟨rfl, trivial⟩ trivial rfl ⟨PermP.sc, trivial⟩ trivial)
  · refine AWR.skip ?_
    refine AWR.seq ?_
    refine AWR.region ?_
    refine AOR.pure (LT.fieldPl rfl fo68_2) ⟨rfl, trivial⟩ trivial rfl rfl ?_
    refine AOR.pure (LT.bload1 (c := (.loc 25 0 r1.1.Placed.length)) rfl ag26 (by exact rfl)) ⟨rfl, trivial⟩ ⟨rfl, trivial⟩ rfl rfl ?_
    refine AOR.pure (LT.lenLoc rfl und26) ⟨rfl, trivial⟩ trivial rfl rfl ?_
    refine AOR.pure (LT.assign (v := (.s (.c (iC (r1.1.Placed.length : Int))))) rfl) ⟨rfl, trivial⟩ trivial rfl rfl ?_
    refine AOR.nil ?_
    refine AWR.ret (FPost.mk (.inr rfl) ⟨rfl, trivial⟩ trivial rfl ⟨PermP.sc, trivial⟩ trivial)
set_option maxRecDepth 100000 in
set_option maxHeartbeats 8000000 in
theorem w_impl_copyGraph (g : TGraph) : ∀ t, m_impl_copyGraph g = some t → Fw.Fn Try.prog 80 [(.agg [(iC g.Points), (.pv (.xs false (g.Bars.map encTBar)))])] [] (.s (.agg [(iC t.Points), (.loc 0 0 t.Bars.length)])) [(0, (.prow 60 (t.Bars.map encTBar)))] [] [0] := by
  refine Fw.Fn.of (P := Try.prog) (X := [0]) (pn := []) (rs := (fun (t : TGraph) => [(.agg [(iC t.Points), (.loc 0 0 t.Bars.length)])])) (dfs := (fun (t : TGraph) => [(0, (.prow 60 (t.Bars.map encTBar)))])) Try.func80 rfl Try.ntmps80 (Nat.le_of_ble_eq_true rfl) rfl ?_
  intro w0 U0 R0 g0
  unfold m_impl_copyGraph
  refine AWR.seq ?_
  refine AWR.region ?_
  refine AOR.step (LT.box (n := 21) (v := (.agg [(iC g.Points), (.pv (.xs false (g.Bars.map encTBar)))])) rfl sz30 (by exact rfl)) ⟨rfl, trivial⟩ trivial rfl rfl ?_
  refine AOR.step (LT.alloc (n := 22) (cells := [(iC 0), (sC nilV)]) rfl ti30 rfl rfl rfl) trivial trivial rfl rfl ?_
  refine AOR.nil ?_
  refine AWR.seq ?_
  refine AWR.draw mixed ?_
  refine AOD.pure (LT.fieldPl rfl fo30_0) ⟨rfl, trivial⟩ trivial rfl rfl ?_
  refine AOD.pure (LT.bload1 (c := (iC g.Points)) rfl ag3 (by exact rfl)) ⟨rfl, trivial⟩ ⟨rfl, trivial⟩ rfl rfl ?_
  refine AOD.step (LT.tbuildSlice (n := 23) (enc := encTBar) [] ([] : List TBar) rfl rfl und28 ti60 rfl rfl rfl rfl (by decide) (fun _ => rfl) rfl) trivial trivial rfl rfl ?_
  refine AOD.pure (LT.fieldPl rfl fo30_1) ⟨rfl, trivial⟩ trivial rfl rfl ?_
  refine AOD.pure (LT.bload1 (c := (.pv (.xs false (g.Bars.map encTBar)))) rfl ag28 (by exact rfl)) ⟨rfl, trivial⟩ ⟨rfl, trivial⟩ rfl rfl ?_
  refine AOD.bind fun u1 hu1 => ?_
  refine AOD.step (LT.tappRO (enc := encTBar) rfl  rfl und28 ti60 rfl (by decide) (by decide) (fun _ => rfl) (lim_le hu1)) ⟨rfl, rfl, trivial⟩ ⟨rfl, trivial⟩ rfl rfl ?_
  refine AOD.pure (LT.build [(0, .tmp 4, (.c (iC g.Points))), (1, .tmp 8, (.c (.loc 23 0 (([] : List TBar) ++ g.Bars).length)))] rfl rfl pl30 ti30 rfl rfl rfl) ⟨rfl, rfl, trivial⟩ trivial rfl rfl ?_
  refine AOD.step (LT.bstore (v := (.agg [(iC g.Points), (.loc 23 0 (([] : List TBar) ++ g.Bars).length)])) (out := [(iC g.Points), (.loc 23 0 (([] : List TBar) ++ g.Bars).length)]) rfl rfl (infS inf30) sz30 (by exact rfl) (by exact Nat.le_of_ble_eq_true rfl) (by exact rfl)) ⟨rfl, rfl, trivial⟩ ⟨rfl, trivial⟩ rfl rfl ?_
  refine AOD.nil (by kernel_rfl) ?_
  refine AWR.ent (Ent.of (σ' := [(2, (.s (.c (.pl 22 0))))]) (m' := [(22, (.row 30 [[(iC g.Points), (.loc 23 0 (([] : List TBar) ++ g.Bars).length)]])), (23, (.prow 60 ((([] : List TBar) ++ g.Bars).map encTBar)))]) ⟨rfl, trivial⟩ ⟨rfl, rfl, trivial⟩) ?_
  refine AWR.ent (Ent.mv 23 0 rfl rfl) ?_
  refine AWR.ent (Ent.of (σ' := [(2, (.s (.c (.pl 22 0))))]) (m' := [(0, (.prow 60 ((([] : List TBar) ++ g.Bars).map encTBar))), (22, (.row 30 [[(iC g.Points), (.loc 0 0 (([] : List TBar) ++ g.Bars).length)]]))]) ⟨rfl, trivial⟩ ⟨rfl, rfl, trivial⟩) ?_
  refine AWR.ret (FPost.mk (.inr rfl) ⟨⟨_, _, _, rfl, rfl, rfl, ag30, sz30, _, (infS inf30)⟩, trivial⟩ ⟨rfl, trivial⟩ rfl ⟨⟨PermP.sc, trivial, trivial⟩, trivial⟩ ⟨PermO.prow' perm_encTBar, trivial⟩)
set_option maxRecDepth 100000 in
set_option maxHeartbeats 8000000 in
theorem w_impl_RemoveBar (g : TGraph) (k : Int) : ∀ t, m_impl_RemoveBar g k = some t → Fw.Fn Try.prog 73 [(.agg [(iC g.Points), (.pv (.xs false (g.Bars.map encTBar)))]), (.c (iC k))] [] (resA [(.agg [(iC t.1.Points), (.loc 0 0 t.1.Bars.length)]), (.c (bC t.2))]) [(0, (.prow 60 (t.1.Bars.map encTBar)))] [] [0] := by
  refine Fw.Fn.of (P := Try.prog) (X := [0]) (pn := []) (rs := (fun (t : (TGraph × Bool)) => [(.agg [(iC t.1.Points), (.loc 0 0 t.1.Bars.length)]), (.c (bC t.2))])) (dfs := (fun (t : (TGraph × Bool)) => [(0, (.prow 60 (t.1.Bars.map encTBar)))])) Try.func73 rfl Try.ntmps73 (Nat.le_of_ble_eq_true rfl) rfl ?_
  intro w0 U0 R0 g0
  unfold m_impl_RemoveBar
  refine AWR.seq ?_
  refine AWR.region ?_
  refine AOR.step (LT.box (n := 21) (v := (.agg [(iC g.Points), (.pv (.xs false (g.Bars.map encTBar)))])) rfl sz30 (by exact rfl)) ⟨rfl, trivial⟩ trivial rfl rfl ?_
  refine AOR.step (LT.alloc (n := 22) (cells := [(iC 0), (sC nilV)]) rfl ti30 rfl rfl rfl) trivial trivial rfl rfl ?_
  refine AOR.pure (LT.assign (v := (.s (.c (bC false)))) rfl) ⟨⟨rfl, rfl⟩, trivial⟩ trivial rfl rfl ?_
  refine AOR.nil ?_
  refine AWR.seq ?_
  refine AWR.region ?_
  refine AOR.pure (LT.bloadN (out := [(iC g.Points), (.pv (.xs false (g.Bars.map encTBar)))]) rfl ag30 (infS inf30) sz30 (by exact rfl) (by exact rfl)) ⟨rfl, trivial⟩ ⟨rfl, trivial⟩ rfl rfl ?_
  refine AOR.bind fun r1 hr1 => ?_
  refine AOR.step (@LT.callF Try.prog _ _ 80 _ _ [(.agg [(iC g.Points), (.pv (.xs false (g.Bars.map encTBar)))])] _ _ [] _ _ _ _ ((show Fw.Fn Try.prog 80 [(.agg [(iC g.Points), (.pv (.xs false (g.Bars.map encTBar)))])] [] (.s (.agg [(iC r1.Points), (.loc 24 0 r1.Bars.length)])) [(24, (.prow 60 (r1.Bars.map encTBar)))] [] [24] from Fw.Fn.ren [(0, 24)] (w_impl_copyGraph g r1 hr1) rfl)) rfl cb80 (.cons (.agg (.cons (.same rfl) (.cons (.same rfl) .nil))) .nil) rfl rfl trivial) ⟨rfl, rfl, trivial⟩ trivial rfl rfl ?_
  refine AOR.step (LT.alloc (n := 25) (cells := [(iC 0), (sC nilV)]) rfl ti30 rfl rfl rfl) trivial trivial rfl rfl ?_
  refine AOR.step (LT.bstore (v := (.agg [(iC r1.Points), (.loc 24 0 r1.Bars.length)])) (out := [(iC r1.Points), (.loc 24 0 r1.Bars.length)]) rfl rfl (infS inf30) sz30 (by exact rfl) (by exact Nat.le_of_ble_eq_true rfl) (by exact rfl)) ⟨rfl, rfl, trivial⟩ ⟨rfl, trivial⟩ rfl rfl ?_
  refine AOR.nil ?_
  refine AWR.seq ?_
  refine AWR.seq ?_
  refine AWR.joinK (fun j5 => ([(1, (.s (.c (iC k)))), (4, (.s (.c (.pl 22 0)))), (6, (.s (.c (.pl 25 0)))), (20, (.s (.c (bC j5))))], [(22, (.row 30 [[(iC 0), (sC nilV)]])), (24, (.prow 60 (r1.Bars.map encTBar))), (25, (.row 30 [[(iC r1.Points), (.loc 24 0 r1.Bars.length)]]))])) ?_ (fun j5 _ => ?_)
  · refine AWR.ent (Ent.of (σ' := [(1, (.s (.c (iC k)))), (2, (.s (.c (.pl 21 0)))), (4, (.s (.c (.pl 22 0)))), (6, (.s (.c (.pl 25 0))))]) (m' := [(21, (.row 30 [[(iC g.Points), (.pv (.xs false (g.Bars.map encTBar)))]])), (22, (.row 30 [[(iC 0), (sC nilV)]])), (24, (.prow 60 (r1.Bars.map encTBar))), (25, (.row 30 [[(iC r1.Points), (.loc 24 0 r1.Bars.length)]]))]) ⟨rfl, rfl, rfl, rfl, trivial⟩ ⟨rfl, rfl, rfl, rfl, trivial⟩) ?_
    refine AWR.region ?_
    refine AOR.pure (LT.bloadN (out := [(iC g.Points), (.pv (.xs false (g.Bars.map encTBar)))]) rfl ag30 (infS inf30) sz30 (by exact rfl) (by exact rfl)) ⟨rfl, trivial⟩ ⟨rfl, trivial⟩ rfl rfl ?_
    refine AOR.bind fun r6 hr6 => ?_
    refine AOR.pure (@LT.callF Try.prog _ _ 33 _ _ [(.agg [(iC g.Points), (.pv (.xs false (g.Bars.map encTBar)))])] _ _ [] _ _ _ _ (w_impl_IsGraph g r6 hr6) rfl cb33 (.cons (.agg (.cons (.same rfl) (.cons (.same rfl) .nil))) .nil) rfl rfl trivial) ⟨rfl, rfl, trivial⟩ trivial rfl rfl ?_
    refine AOR.pure (LT.not rfl) ⟨rfl, trivial⟩ trivial rfl rfl ?_
    refine AOR.pure (LT.move (v := (.s (.c (bC (!r6))))) rfl) ⟨rfl, trivial⟩ trivial rfl rfl ?_
    refine AOR.split (fun hb7 => ?_) (fun hb7 => ?_)
    · refine AOR.skip ⟨_, rfl, .inl ⟨_, rfl, (by rw [hb7]; rfl)⟩⟩ rfl ?_
      refine AOR.skip ⟨_, rfl, .inl ⟨_, rfl, (by rw [hb7]; rfl)⟩⟩ rfl ?_
      refine AOR.skip ⟨_, rfl, .inl ⟨_, rfl, (by rw [hb7]; rfl)⟩⟩ rfl ?_
      refine AOR.skip ⟨_, rfl, .inl ⟨_, rfl, (by rw [hb7]; rfl)⟩⟩ rfl ?_
      refine AOR.skip ⟨_, rfl, .inl ⟨_, rfl, (by rw [hb7]; rfl)⟩⟩ rfl ?_
      refine AOR.skip ⟨_, rfl, .inl ⟨_, rfl, (by rw [hb7]; rfl)⟩⟩ rfl ?_
      refine AOR.skip ⟨_, rfl, .inl ⟨_, rfl, (by rw [hb7]; rfl)⟩⟩ rfl ?_
      refine AOR.pure (LT.pickT (v := (.s (.c (bC true)))) rfl hb7) ⟨rfl, ⟨rfl, rfl⟩, trivial⟩ trivial rfl rfl ?_
      refine AOR.nil ?_
      refine AWR.nil ⟨rfl, Ent.of ⟨rfl, rfl, rfl, rfl, trivial⟩ ⟨rfl, rfl, rfl, trivial⟩⟩
    · refine AOR.pure (LT.move (v := (.s (.c (iC k)))) rfl) ⟨rfl, trivial⟩ trivial ⟨_, rfl, .inl ⟨_, rfl, (by rw [hb7]; rfl)⟩⟩ rfl ?_
      refine AOR.pure (LT.fieldPl rfl fo30_1) ⟨rfl, trivial⟩ trivial ⟨_, rfl, .inl ⟨_, rfl, (by rw [hb7]; rfl)⟩⟩ rfl ?_
      refine AOR.pure (LT.bload1 (c := (.pv (.xs false (g.Bars.map encTBar)))) rfl ag28 (by exact rfl)) ⟨rfl, trivial⟩ ⟨rfl, trivial⟩ ⟨_, rfl, .inl ⟨_, rfl, (by rw [hb7]; rfl)⟩⟩ rfl ?_
      refine AOR.pure (LT.tlenRO rfl und28) ⟨rfl, trivial⟩ trivial ⟨_, rfl, .inl ⟨_, rfl, (by rw [hb7]; rfl)⟩⟩ rfl ?_
      refine AOR.pure (LT.sub rfl) ⟨rfl, ⟨rfl, rfl⟩, trivial⟩ trivial ⟨_, rfl, .inl ⟨_, rfl, (by rw [hb7]; rfl)⟩⟩ rfl ?_
      refine AOR.bind fun r8 hr8 => ?_
      refine AOR.pure (@LT.callF Try.prog _ _ 51 _ _ [(.c (iC k)), (.c (iC 0)), (.c (iC (w64 ((g.Bars.length : Int) - 1))))] _ _ [] _ _ _ _ (w_impl_within k 0 (w64 ((g.Bars.length : Int) - 1)) r8 hr8) rfl cb51 (.cons (.c (.same rfl)) (.cons (.c (.same rfl)) (.cons (.c (.same rfl)) .nil))) rfl rfl trivial) ⟨rfl, rfl, ⟨rfl, rfl⟩, rfl, trivial⟩ trivial ⟨_, rfl, .inl ⟨_, rfl, (by rw [hb7]; rfl)⟩⟩ rfl ?_
      refine AOR.pure (LT.not rfl) ⟨rfl, trivial⟩ trivial ⟨_, rfl, .inl ⟨_, rfl, (by rw [hb7]; rfl)⟩⟩ rfl ?_
      refine AOR.pure (LT.pickF (v := (.s (.c (bC (!r8))))) rfl hb7) ⟨rfl, rfl, trivial⟩ trivial rfl rfl ?_
      refine AOR.nil ?_
      refine AWR.nil ⟨rfl, Ent.of ⟨rfl, rfl, rfl, rfl, trivial⟩ ⟨rfl, rfl, rfl, trivial⟩⟩
  · refine AWR.cond rfl (fun hc9 => ?_) (fun hc9 => ?_)
    · refine AWR.seq ?_
      refine AWR.region ?_
      refine AOR.pure (LT.bloadN (out := [(iC r1.Points), (.loc 24 0 r1.Bars.length)]) rfl ag30 (infS inf30) sz30 (by exact rfl) (by exact rfl)) ⟨rfl, trivial⟩ ⟨rfl, trivial⟩ rfl rfl ?_
      refine AOR.step (LT.bstore (v := (.agg [(iC r1.Points), (.loc 24 0 r1.Bars.length)])) (out := [(iC r1.Points), (.loc 24 0 r1.Bars.length)]) rfl rfl (infS inf30) sz30 (by exact rfl) (by exact Nat.le_of_ble_eq_true rfl) (by exact rfl)) ⟨rfl, rfl, trivial⟩ ⟨rfl, trivial⟩ rfl rfl ?_
      refine AOR.pure (LT.assign (v := (.s (.c (bC false)))) rfl) ⟨⟨rfl, rfl⟩, trivial⟩ trivial rfl rfl ?_
      refine AOR.nil ?_
      refine AWR.ent (Ent.of (σ' := [(4, (.s (.c (.pl 22 0)))), (5, (.s (.c (bC false))))]) (m' := [(22, (.row 30 [[(iC r1.Points), (.loc 24 0 r1.Bars.length)]])), (24, (.prow 60 (r1.Bars.map encTBar)))]) ⟨rfl, rfl, trivial⟩ ⟨rfl, rfl, trivial⟩) ?_
      refine AWR.ent (Ent.mv 24 0 rfl rfl) ?_
      refine AWR.ent (Ent.of (σ' := [(4, (.s (.c (.pl 22 0)))), (5, (.s (.c (bC false))))]) (m' := [(0, (.prow 60 (r1.Bars.map encTBar))), (22, (.row 30 [[(iC r1.Points), (.loc 0 0 r1.Bars.length)]]))]) ⟨rfl, rfl, trivial⟩ ⟨rfl, rfl, trivial⟩) ?_
      refine AWR.ret (FPost.mk (.inr rfl) ⟨⟨_, _, _, rfl, rfl, rfl, ag30, sz30, _, (infS inf30)⟩, rfl, trivial⟩ ⟨rfl, trivial⟩ rfl ⟨⟨PermP.sc, trivial, trivial⟩, PermP.sc, trivial⟩ ⟨PermO.prow' perm_encTBar, trivial⟩)
    · refine AWR.skip ?_
      refine AWR.seq ?_
      refine AWR.draw mixed ?_
      refine AOD.pure (LT.fieldPl rfl fo30_1) ⟨rfl, trivial⟩ trivial rfl rfl ?_
      refine AOD.pure (LT.bload1 (c := (.loc 24 0 r1.Bars.length)) rfl ag28 (by exact rfl)) ⟨rfl, trivial⟩ ⟨rfl, trivial⟩ rfl rfl ?_
      refine AOD.pure (LT.move (v := (.s (.c (iC k)))) rfl) ⟨rfl, trivial⟩ trivial rfl rfl ?_
      refine AOD.bind fun v10 hv10 => ?_
      refine AOD.pure (LT.tsliceLoc (enc := encTBar) (blo := none) (bhi := (some (.tmp 24, k))) (l := 0) (h := k.toNat) rfl rfl rfl und28 inf60 (.inr ⟨rfl, rfl⟩) (.inl ⟨_, _, rfl, Int.le_trans (slc_spec hv10).1 (slc_spec hv10).2.1, rfl⟩) (slc_lh hv10) (slc_hl hv10)) ⟨rfl, rfl, trivial⟩ ⟨rfl, trivial⟩ rfl rfl ?_
      refine AOD.pure (LT.fieldPl rfl fo30_1) ⟨rfl, trivial⟩ trivial rfl rfl ?_
      refine AOD.pure (LT.bload1 (c := (.loc 24 0 r1.Bars.length)) rfl ag28 (by exact rfl)) ⟨rfl, trivial⟩ ⟨rfl, trivial⟩ rfl rfl ?_
      refine AOD.pure (LT.move (v := (.s (.c (iC k)))) rfl) ⟨rfl, trivial⟩ trivial rfl rfl ?_
      refine AOD.pure (LT.add rfl) ⟨rfl, ⟨rfl, rfl⟩, trivial⟩ trivial rfl rfl ?_
      refine AOD.bind fun v11 hv11 => ?_
      refine AOD.pure (LT.tsliceLoc (enc := encTBar) (blo := (some (.tmp 29, (w64 (k + 1))))) (bhi := none) (l := (w64 (k + 1)).toNat) (h := r1.Bars.length) rfl rfl rfl und28 inf60 (.inl ⟨_, _, rfl, (slc_spec hv11).1, rfl⟩) (.inr ⟨rfl, rfl⟩) (slc_lh hv11) (slc_hl hv11)) ⟨rfl, rfl, trivial⟩ ⟨rfl, trivial⟩ rfl rfl ?_
      refine AOD.bind fun u12 hu12 => ?_
      refine AOD.bind fun u13 hu13 => ?_
      refine AOD.bind fun u14 hu14 => ?_
      refine AOD.step (LT.tappSelf (enc := encTBar) rfl und28 ti60 rfl (by decide) (by decide) (fun _ => rfl) (Nat.le_of_sub_eq_zero (same_eq hu14)) (Nat.le_of_sub_eq_zero (same_eq hu13)) (lim_le hu12)) ⟨rfl, rfl, trivial⟩ ⟨rfl, trivial⟩ rfl rfl ?_
      refine AOD.pure (LT.fieldPl rfl fo30_1) ⟨rfl, trivial⟩ trivial rfl rfl ?_
      refine AOD.step (LT.bstore (v := (.c (.loc 24 0 (r1.Bars.take (k.toNat - 0) ++ (r1.Bars.drop ((w64 (k + 1)).toNat)).take (r1.Bars.length - (w64 (k + 1)).toNat)).length))) (out := [(iC r1.Points), (.loc 24 0 (r1.Bars.take (k.toNat - 0) ++ (r1.Bars.drop ((w64 (k + 1)).toNat)).take (r1.Bars.length - (w64 (k + 1)).toNat)).length)]) rfl rfl (infS inf28) sz28 (by exact rfl) (by exact Nat.le_of_ble_eq_true rfl) (by exact rfl)) ⟨rfl, rfl, trivial⟩ ⟨rfl, trivial⟩ rfl rfl ?_
      refine AOD.nil (by kernel_rfl) ?_
      refine AWR.seq ?_
      refine AWR.ent (Ent.of (σ' := [(4, (.s (.c (.pl 22 0)))), (6, (.s (.c (.pl 25 0))))]) (m' := [(22, (.row 30 [[(iC 0), (sC nilV)]])), (24, (.prow 60 ((r1.Bars.take (k.toNat - 0) ++ (r1.Bars.drop ((w64 (k + 1)).toNat)).take (r1.Bars.length - (w64 (k + 1)).toNat)).map encTBar))), (25, (.row 30 [[(iC r1.Points), (.loc 24 0 (r1.Bars.take (k.toNat - 0) ++ (r1.Bars.drop ((w64 (k + 1)).toNat)).take (r1.Bars.length - (w64 (k + 1)).toNat)).length)]]))]) ⟨rfl, rfl, trivial⟩ ⟨rfl, rfl, rfl, trivial⟩) ?_
      refine AWR.region ?_
      refine AOR.pure (LT.bloadN (out := [(iC r1.Points), (.loc 24 0 (r1.Bars.take (k.toNat - 0) ++ (r1.Bars.drop ((w64 (k + 1)).toNat)).take (r1.Bars.length - (w64 (k + 1)).toNat)).length)]) rfl ag30 (infS inf30) sz30 (by exact rfl) (by exact rfl)) ⟨rfl, trivial⟩ ⟨rfl, trivial⟩ rfl rfl ?_
      refine AOR.step (LT.bstore (v := (.agg [(iC r1.Points), (.loc 24 0 (r1.Bars.take (k.toNat - 0) ++ (r1.Bars.drop ((w64 (k + 1)).toNat)).take (r1.Bars.length - (w64 (k + 1)).toNat)).length)])) (out := [(iC r1.Points), (.loc 24 0 (r1.Bars.take (k.toNat - 0) ++ (r1.Bars.drop ((w64 (k + 1)).toNat)).take (r1.Bars.length - (w64 (k + 1)).toNat)).length)]) rfl rfl (infS inf30) sz30 (by exact rfl) (by exact Nat.le_of_ble_eq_true rfl) (by exact rfl)) ⟨rfl, rfl, trivial⟩ ⟨rfl, trivial⟩ rfl rfl ?_
      refine AOR.pure (LT.assign (v := (.s (.c (bC true)))) rfl) ⟨⟨rfl, rfl⟩, trivial⟩ trivial rfl rfl ?_
      refine AOR.nil ?_
      refine AWR.ent (Ent.of (σ' := [(4, (.s (.c (.pl 22 0)))), (5, (.s (.c (bC true))))]) (m' := [(22, (.row 30 [[(iC r1.Points), (.loc 24 0 (r1.Bars.take (k.toNat - 0) ++ (r1.Bars.drop ((w64 (k + 1)).toNat)).take (r1.Bars.length - (w64 (k + 1)).toNat)).length)]])), (24, (.prow 60 ((r1.Bars.take (k.toNat - 0) ++ (r1.Bars.drop ((w64 (k + 1)).toNat)).take (r1.Bars.length - (w64 (k + 1)).toNat)).map encTBar)))]) ⟨rfl, rfl, trivial⟩ ⟨rfl, rfl, trivial⟩) ?_
      refine AWR.ent (Ent.mv 24 0 rfl rfl) ?_
      refine AWR.ent (Ent.of (σ' := [(4, (.s (.c (.pl 22 0)))), (5, (.s (.c (bC true))))]) (m' := [(0, (.prow 60 ((r1.Bars.take (k.toNat - 0) ++ (r1.Bars.drop ((w64 (k + 1)).toNat)).take (r1.Bars.length - (w64 (k + 1)).toNat)).map encTBar))), (22, (.row 30 [[(iC r1.Points), (.loc 0 0 (r1.Bars.take (k.toNat - 0) ++ (r1.Bars.drop ((w64 (k + 1)).toNat)).take (r1.Bars.length - (w64 (k + 1)).toNat)).length)]]))]) ⟨rfl, rfl, trivial⟩ ⟨rfl, rfl, trivial⟩) ?_
      refine AWR.ret (FPost.mk (.inr rfl) ⟨⟨_, _, _, rfl, rfl, rfl, ag30, sz30, _, (infS inf30)⟩, rfl, trivial⟩ ⟨rfl, trivial⟩ rfl ⟨⟨PermP.sc, trivial, trivial⟩, PermP.sc, trivial⟩ ⟨PermO.prow' perm_encTBar, trivial⟩)
set_option maxRecDepth 100000 in
set_option maxHeartbeats 8000000 in
theorem w_impl_BridgesOf (g : TGraph) (k : Int) (l : Int) : ∀ t, m_impl_BridgesOf g k l = some t → Fw.Fn Try.prog 60 [(.agg [(iC g.Points), (.pv (.xs false (g.Bars.map encTBar)))]), (.c (iC k)), (.c (iC l))] [] (.s (.c (.loc 0 0 t.length))) [(0, (.prow 3 (t.map encInt)))] [] [0] := by
  refine Fw.Fn.of (P := Try.prog) (X := [0]) (pn := []) (rs := (fun (t : (List Int)) => [(.c (.loc 0 0 t.length))])) (dfs := (fun (t : (List Int)) => [(0, (.prow 3 (t.map encInt)))])) Try.func60 rfl Try.ntmps60 (Nat.le_of_ble_eq_true rfl) rfl ?_
  intro w0 U0 R0 g0
  unfold m_impl_BridgesOf
  refine AWR.seq ?_
  refine AWR.region ?_
  refine AOR.step (LT.box (n := 21) (v := (.agg [(iC g.Points), (.pv (.xs false (g.Bars.map encTBar)))])) rfl sz30 (by exact rfl)) ⟨rfl, trivial⟩ trivial rfl rfl ?_
  refine AOR.pure (LT.assign (v := (.s (.c (sC nilV)))) rfl) ⟨⟨rfl, rfl⟩, trivial⟩ trivial rfl rfl ?_
  refine AOR.nil ?_
  refine AWR.seq ?_
  refine AWR.region ?_
  refine AOR.step (LT.tbuildSlice (n := 22) (enc := encInt) [] ([] : List Int) rfl rfl und26 ti3 rfl rfl rfl rfl (by decide) (fun _ => rfl) rfl) trivial trivial rfl rfl ?_
  refine AOR.pure (LT.assign (v := (.s (.c (.loc 22 0 ([] : List Int).length)))) rfl) ⟨rfl, trivial⟩ trivial rfl rfl ?_
  refine AOR.nil ?_
  refine AWR.seq ?_
  refine AWR.region ?_
  refine AOR.pure (LT.bloadN (out := [(iC g.Points), (.pv (.xs false (g.Bars.map encTBar)))]) rfl ag30 (infS inf30) sz30 (by exact rfl) (by exact rfl)) ⟨rfl, trivial⟩ ⟨rfl, trivial⟩ rfl rfl ?_
  refine AOR.pure (LT.move (v := (.s (.c (iC k)))) rfl) ⟨rfl, trivial⟩ trivial rfl rfl ?_
  refine AOR.pure (LT.move (v := (.s (.c (iC l)))) rfl) ⟨rfl, trivial⟩ trivial rfl rfl ?_
  refine AOR.bind fun r1 hr1 => ?_
  refine AOR.pure (@LT.callF Try.prog _ _ 72 _ _ [(.agg [(iC g.Points), (.pv (.xs false (g.Bars.map encTBar)))]), (.c (iC k)), (.c (iC l))] _ _ [] _ _ _ _ (w_impl_RankOf g k l r1 hr1) rfl cb72 (.cons (.agg (.cons (.same rfl) (.cons (.same rfl) .nil))) (.cons (.c (.same rfl)) (.cons (.c (.same rfl)) .nil))) rfl rfl trivial) ⟨rfl, rfl, rfl, rfl, trivial⟩ trivial rfl rfl ?_
  refine AOR.pure (LT.assign (v := (.s (.c (iC r1)))) rfl) ⟨rfl, trivial⟩ trivial rfl rfl ?_
  refine AOR.nil ?_
  refine AWR.seq ?_
  refine AWR.seq ?_
  refine AWR.ent (Ent.of (σ' := [(1, (.s (.c (iC k)))), (2, (.s (.c (iC l)))), (3, (.s (.c (.pl 21 0)))), (7, (.s (.c (.loc 22 0 ([] : List Int).length)))), (8, (.s (.c (iC r1))))]) (m' := [(21, (.row 30 [[(iC g.Points), (.pv (.xs false (g.Bars.map encTBar)))]])), (22, (.prow 3 (([] : List Int).map encInt)))]) ⟨rfl, rfl, rfl, rfl, rfl, trivial⟩ ⟨rfl, rfl, trivial⟩) ?_
  refine AWR.region ?_
  refine AOR.pure (LT.move (v := (.s (.c (iC r1)))) rfl) ⟨rfl, trivial⟩ trivial rfl rfl ?_
  refine AOR.pure (LT.lss rfl) ⟨rfl, ⟨rfl, rfl⟩, trivial⟩ trivial rfl rfl ?_
  refine AOR.nil ?_
  refine AWR.cond rfl (fun hc2 => ?_) (fun hc2 => ?_)
  · refine AWR.seq ?_
    refine AWR.region ?_
    refine AOR.pure (LT.move (v := (.s (.c (.loc 22 0 ([] : List Int).length)))) rfl) ⟨rfl, trivial⟩ trivial rfl rfl ?_
    refine AOR.pure (LT.assign (v := (.s (.c (.loc 22 0 ([] : List Int).length)))) rfl) ⟨rfl, trivial⟩ trivial rfl rfl ?_
    refine AOR.nil ?_
    refine AWR.ent (Ent.of (σ' := [(6, (.s (.c (.loc 22 0 ([] : List Int).length))))]) (m' := [(22, (.prow 3 (([] : List Int).map encInt)))]) ⟨rfl, trivial⟩ ⟨rfl, trivial⟩) ?_
    refine AWR.ent (Ent.mv 22 0 rfl rfl) ?_
    refine AWR.ent (Ent.of (σ' := [(6, (.s (.c (.loc 0 0 ([] : List Int).length))))]) (m' := [(0, (.prow 3 (([] : List Int).map encInt)))]) ⟨rfl, trivial⟩ ⟨rfl, trivial⟩) ?_
    refine AWR.ret (FPost.mk (.inr rfl) ⟨rfl, trivial⟩ ⟨rfl, trivial⟩ rfl ⟨trivial, trivial⟩ ⟨PermO.prow' perm_encInt, trivial⟩)
  · refine AWR.skip ?_
    refine AWR.seq ?_
    refine AWR.seq ?_
    refine AWR.region ?_
    refine AOR.pure (LT.fieldPl rfl fo30_1) ⟨rfl, trivial⟩ trivial rfl rfl ?_
    refine AOR.pure (LT.bload1 (c := (.pv (.xs false (g.Bars.map encTBar)))) rfl ag28 (by exact rfl)) ⟨rfl, trivial⟩ ⟨rfl, trivial⟩ rfl rfl ?_
    refine AOR.pure (LT.tlenRO rfl und28) ⟨rfl, trivial⟩ trivial rfl rfl ?_
    refine AOR.pure (LT.move (v := (.s (.c (iC 0)))) rfl) ⟨⟨rfl, rfl⟩, trivial⟩ trivial rfl rfl ?_
    refine AOR.nil ?_
    refine AWR.block ?_
    refine AWR.loop1 (id := 0) (m_impl_BridgesOf_L1 g k l r1) (fun s3 => ([(1, (.s (.c (iC k)))), (2, (.s (.c (iC l)))), (3, (.s (.c (.pl 21 0)))), (7, (.s (.c (.loc 22 0 s3.2.length)))), (8, (.s (.c (iC r1)))), (22, (.s (.c (iC (g.Bars.length : Int))))), (23, (.s (.c (iC s3.1))))], [(21, (.row 30 [[(iC g.Points), (.pv (.xs false (g.Bars.map encTBar)))]])), (22, (.prow 3 (s3.2.map encInt)))])) (fun b20 => ([(7, (.s (.c (.loc 22 0 b20.length))))], [(22, (.prow 3 (b20.map encInt)))])) ?_ (Ent.of ⟨rfl, rfl, rfl, rfl, rfl, rfl, rfl, trivial⟩ ⟨rfl, rfl, trivial⟩) rfl (fun b20 _ => ?_)
    · intro s3
      unfold m_impl_BridgesOf_L1
      refine AWR.seq ?_
      refine AWR.region ?_
      refine AOR.pure (LT.lss rfl) ⟨rfl, rfl, trivial⟩ trivial rfl rfl ?_
      refine AOR.nil ?_
      refine AWR.seq ?_
      refine AWR.cond rfl (fun hc21 => ?_) (fun hc21 => ?_)
      · refine AWR.skip ?_
        refine AWR.seq ?_
        refine AWR.block ?_
        refine AWR.seq ?_
        refine AWR.region ?_
        refine AOR.pure (LT.move (v := (.s (.c (iC s3.1)))) rfl) ⟨rfl, trivial⟩ trivial rfl rfl ?_
        refine AOR.pure (LT.assign (v := (.s (.c (iC s3.1)))) rfl) ⟨rfl, trivial⟩ trivial rfl rfl ?_
        refine AOR.nil ?_
        refine AWR.seq ?_
        refine AWR.region ?_
        refine AOR.pure (LT.bloadN (out := [(iC g.Points), (.pv (.xs false (g.Bars.map encTBar)))]) rfl ag30 (infS inf30) sz30 (by exact rfl) (by exact rfl)) ⟨rfl, trivial⟩ ⟨rfl, trivial⟩ rfl rfl ?_
        refine AOR.pure (LT.move (v := (.s (.c (iC s3.1)))) rfl) ⟨rfl, trivial⟩ trivial rfl rfl ?_
        refine AOR.bind fun r22 hr22 => ?_
        refine AOR.step (@LT.callF Try.prog _ _ 73 _ _ [(.agg [(iC g.Points), (.pv (.xs false (g.Bars.map encTBar)))]), (.c (iC s3.1))] _ _ [] _ _ _ _ ((show Fw.Fn Try.prog 73 [(.agg [(iC g.Points), (.pv (.xs false (g.Bars.map encTBar)))]), (.c (iC s3.1))] [] (.tup [(.agg [(iC r22.1.Points), (.loc 25 0 r22.1.Bars.length)]), (.c (bC r22.2))]) [(25, (.prow 60 (r22.1.Bars.map encTBar)))] [] [25] from Fw.Fn.ren [(0, 25)] (w_impl_RemoveBar g s3.1 r22 hr22) rfl)) rfl cb73 (.cons (.agg (.cons (.same rfl) (.cons (.same rfl) .nil))) (.cons (.c (.same rfl)) .nil)) rfl rfl trivial) ⟨rfl, rfl, rfl, trivial⟩ trivial rfl rfl ?_
        refine AOR.pure (LT.move (v := (.tup [(.agg [(iC r22.1.Points), (.loc 25 0 r22.1.Bars.length)]), (.c (bC r22.2))])) rfl) ⟨rfl, trivial⟩ trivial rfl rfl ?_
        refine AOR.pure (LT.extract (v := (.agg [(iC r22.1.Points), (.loc 25 0 r22.1.Bars.length)])) rfl (by exact rfl)) ⟨rfl, trivial⟩ trivial rfl rfl ?_
        refine AOR.pure (LT.extract (v := (.c (bC r22.2))) rfl (by exact rfl)) ⟨rfl, trivial⟩ trivial rfl rfl ?_
        refine AOR.step (LT.alloc (n := 26) (cells := [(iC 0), (sC nilV)]) rfl ti30 rfl rfl rfl) trivial trivial rfl rfl ?_
        refine AOR.step (LT.bstore (v := (.agg [(iC r22.1.Points), (.loc 25 0 r22.1.Bars.length)])) (out := [(iC r22.1.Points), (.loc 25 0 r22.1.Bars.length)]) rfl rfl (infS inf30) sz30 (by exact rfl) (by exact Nat.le_of_ble_eq_true rfl) (by exact rfl)) ⟨rfl, rfl, trivial⟩ ⟨rfl, trivial⟩ rfl rfl ?_
        refine AOR.pure (LT.assign (v := (.s (.c (bC r22.2)))) rfl) ⟨rfl, trivial⟩ trivial rfl rfl ?_
        refine AOR.nil ?_
        refine AWR.seq ?_
        refine AWR.ent (Ent.of (σ' := [(1, (.s (.c (iC k)))), (2, (.s (.c (iC l)))), (3, (.s (.c (.pl 21 0)))), (7, (.s (.c (.loc 22 0 s3.2.length)))), (8, (.s (.c (iC r1)))), (9, (.s (.c (iC s3.1)))), (10, (.s (.c (.pl 26 0)))), (22, (.s (.c (iC (g.Bars.length : Int))))), (23, (.s (.c (iC s3.1))))]) (m' := [(21, (.row 30 [[(iC g.Points), (.pv (.xs false (g.Bars.map encTBar)))]])), (22, (.prow 3 (s3.2.map encInt))), (25, (.prow 60 (r22.1.Bars.map encTBar))), (26, (.row 30 [[(iC r22.1.Points), (.loc 25 0 r22.1.Bars.length)]]))]) ⟨rfl, rfl, rfl, rfl, rfl, rfl, rfl, rfl, rfl, trivial⟩ ⟨rfl, rfl, rfl, rfl, trivial⟩) ?_
        refine AWR.region ?_
        refine AOR.pure (LT.bloadN (out := [(iC r22.1.Points), (.loc 25 0 r22.1.Bars.length)]) rfl ag30 (infS inf30) sz30 (by exact rfl) (by exact rfl)) ⟨rfl, trivial⟩ ⟨rfl, trivial⟩ rfl rfl ?_
        refine AOR.pure (LT.move (v := (.s (.c (iC k)))) rfl) ⟨rfl, trivial⟩ trivial rfl rfl ?_
        refine AOR.pure (LT.move (v := (.s (.c (iC l)))) rfl) ⟨rfl, trivial⟩ trivial rfl rfl ?_
        refine AOR.bind fun r23 hr23 => ?_
        refine AOR.pure (@LT.callF Try.prog _ _ 72 _ _ [(.agg [(iC r22.1.Points), (.loc 25 0 r22.1.Bars.length)]), (.c (iC k)), (.c (iC l))] _ _ [(25, (.prow 60 (r22.1.Bars.map encTBar)))] _ _ _ _ (w_impl_RankOf r22.1 k l r23 hr23) rfl cb72 (.cons (.agg (.cons (.same rfl) (.cons (.tloc rfl rfl) .nil))) (.cons (.c (.same rfl)) (.cons (.c (.same rfl)) .nil))) rfl rfl trivial) ⟨rfl, rfl, rfl, rfl, trivial⟩ ⟨rfl, trivial⟩ rfl rfl ?_
        refine AOR.pure (LT.move (v := (.s (.c (iC r1)))) rfl) ⟨rfl, trivial⟩ trivial rfl rfl ?_
        refine AOR.pure (LT.lss rfl) ⟨rfl, rfl, trivial⟩ trivial rfl rfl ?_
        refine AOR.nil ?_
        refine AWR.joinK (fun j26 => ([(1, (.s (.c (iC k)))), (2, (.s (.c (iC l)))), (3, (.s (.c (.pl 21 0)))), (7, (.s (.c (.loc 22 0 j26.length)))), (8, (.s (.c (iC r1)))), (22, (.s (.c (iC (g.Bars.length : Int))))), (23, (.s (.c (iC s3.1))))], [(21, (.row 30 [[(iC g.Points), (.pv (.xs false (g.Bars.map encTBar)))]])), (22, (.prow 3 (j26.map encInt)))])) ?_ (fun j26 _ => ?_)
        · refine AWR.cond rfl (fun hc27 => ?_) (fun hc27 => ?_)
          · refine AWR.region ?_
            refine AOR.pure (LT.move (v := (.s (.c (.loc 22 0 s3.2.length)))) rfl) ⟨rfl, trivial⟩ trivial rfl rfl ?_
            refine AOR.pure (LT.move (v := (.s (.c (iC s3.1)))) rfl) ⟨rfl, trivial⟩ trivial rfl rfl ?_
            refine AOR.step (LT.tbuildSlice (n := 28) (enc := encInt) [(0, .tmp 39, (.c (iC s3.1)))] ([s3.1] : List Int) rfl rfl und26 ti3 rfl rfl rfl rfl (by decide) (fun _ => rfl) rfl) ⟨rfl, trivial⟩ trivial rfl rfl ?_
            refine AOR.bind fun u28 hu28 => ?_
            refine AOR.step (LT.tappP (enc := encInt) rfl rfl rfl und26 ti3 rfl (by decide) (by decide) (fun _ => rfl) (lim_le hu28)) ⟨rfl, rfl, trivial⟩ ⟨rfl, rfl, trivial⟩ rfl rfl ?_
            refine AOR.pure (LT.assign (v := (.s (.c (.loc 22 0 (s3.2 ++ ([s3.1] : List Int)).length)))) rfl) ⟨rfl, trivial⟩ trivial rfl rfl ?_
            refine AOR.nil ?_
            refine AWR.nil ⟨rfl, Ent.of ⟨rfl, rfl, rfl, rfl, rfl, rfl, rfl, trivial⟩ ⟨rfl, rfl, trivial⟩⟩
          · refine AWR.skip ?_
            refine AWR.nil ⟨rfl, Ent.of ⟨rfl, rfl, rfl, rfl, rfl, rfl, rfl, trivial⟩ ⟨rfl, rfl, trivial⟩⟩
        · refine AWR.blk ?_
          refine AWR.region ?_
          refine AOR.pure (LT.add rfl) ⟨rfl, ⟨rfl, rfl⟩, trivial⟩ trivial rfl rfl ?_
          refine AOR.pure (LT.move (v := (.s (.c (iC (w64 (s3.1 + 1)))))) rfl) ⟨rfl, trivial⟩ trivial rfl rfl ?_
          refine AOR.nil ?_
          refine AWR.nil ⟨rfl, Ent.of ⟨rfl, rfl, rfl, rfl, rfl, rfl, rfl, trivial⟩ ⟨rfl, rfl, trivial⟩⟩
      · refine AWR.exit_end rfl ⟨rfl, Ent.of ⟨rfl, trivial⟩ ⟨rfl, trivial⟩⟩
    · refine AWR.seq ?_
      refine AWR.region ?_
      refine AOR.pure (LT.move (v := (.s (.c (.loc 22 0 b20.length)))) rfl) ⟨rfl, trivial⟩ trivial rfl rfl ?_
      refine AOR.pure (LT.assign (v := (.s (.c (.loc 22 0 b20.length)))) rfl) ⟨rfl, trivial⟩ trivial rfl rfl ?_
      refine AOR.nil ?_
      refine AWR.ent (Ent.of (σ' := [(6, (.s (.c (.loc 22 0 b20.length))))]) (m' := [(22, (.prow 3 (b20.map encInt)))]) ⟨rfl, trivial⟩ ⟨rfl, trivial⟩) ?_
      refine AWR.ent (Ent.mv 22 0 rfl rfl) ?_
      refine AWR.ent (Ent.of (σ' := [(6, (.s (.c (.loc 0 0 b20.length))))]) (m' := [(0, (.prow 3 (b20.map encInt)))]) ⟨rfl, trivial⟩ ⟨rfl, trivial⟩) ?_
      refine AWR.ret (FPost.mk (.inr rfl) ⟨rfl, trivial⟩ ⟨rfl, trivial⟩ rfl ⟨trivial, trivial⟩ ⟨PermO.prow' perm_encInt, trivial⟩)
end Go.Proofs.Ytiphmhofhgbhlaa
