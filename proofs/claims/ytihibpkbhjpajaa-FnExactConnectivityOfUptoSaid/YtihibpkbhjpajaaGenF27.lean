/- The code computes the models. Written by a program of mine. -/
import Derived.Test.YtihibpkbhjpajaaGenF0
import Derived.Test.YtihibpkbhjpajaaGenF3
import Derived.Test.YtihibpkbhjpajaaGenF4
import Derived.Test.YtihibpkbhjpajaaGenF12
import Derived.Test.YtihibpkbhjpajaaGenF17
set_option linter.unusedVariables false
set_option linter.unusedSimpArgs false
set_option linter.unnecessarySimpa false
open Go Go.Fw
namespace Go.Proofs.Ytihibpkbhjpajaa
set_option maxRecDepth 100000 in
set_option maxHeartbeats 8000000 in
theorem w_spec_l3Set (n : Int) (mask : Int) : ∀ t, m_spec_l3Set n mask = some t → Fw.Fn Try.prog 99 [(.c (iC n)), (.c (iC mask))] [] (.s (.c (.loc 0 0 t.length))) [(0, (.prow 3 (t.map encInt)))] [] [0] := by
  refine Fw.Fn.of (P := Try.prog) (X := [0]) (pn := []) (rs := (fun (t : (List Int)) => [(.c (.loc 0 0 t.length))])) (dfs := (fun (t : (List Int)) => [(0, (.prow 3 (t.map encInt)))])) Try.func99 rfl Try.ntmps99 (Nat.le_of_ble_eq_true rfl) rfl ?_
  intro w0 U0 R0 g0
  unfold m_spec_l3Set
  refine AWR.seq ?_
  refine AWR.region ?_
  refine AOR.pure (LT.assign (v := (.s (.c (sC nilV)))) rfl) ⟨⟨rfl, rfl⟩, trivial⟩ trivial rfl rfl ?_
  refine AOR.nil ?_
  refine AWR.seq ?_
  refine AWR.region ?_
  refine AOR.step (LT.tbuildSlice (n := 21) (enc := encInt) [] ([] : List Int) rfl rfl und40 ti3 rfl rfl rfl rfl (by decide) (fun _ => rfl) rfl) trivial trivial rfl rfl ?_
  refine AOR.pure (LT.assign (v := (.s (.c (.loc 21 0 ([] : List Int).length)))) rfl) ⟨rfl, trivial⟩ trivial rfl rfl ?_
  refine AOR.nil ?_
  refine AWR.seq ?_
  refine AWR.seq ?_
  refine AWR.region ?_
  refine AOR.pure (LT.assign (v := (.s (.c (iC 0)))) rfl) ⟨⟨rfl, rfl⟩, trivial⟩ trivial rfl rfl ?_
  refine AOR.nil ?_
  refine AWR.block ?_
  refine AWR.loop1 (id := 0) (m_spec_l3Set_L1 n mask) (fun s1 => ([(0, (.s (.c (iC n)))), (1, (.s (.c (iC mask)))), (5, (.s (.c (.loc 21 0 s1.2.length)))), (6, (.s (.c (iC s1.1))))], [(21, (.prow 3 (s1.2.map encInt)))])) (fun b15 => ([(5, (.s (.c (.loc 21 0 b15.length))))], [(21, (.prow 3 (b15.map encInt)))])) ?_ (Ent.of ⟨rfl, rfl, rfl, rfl, trivial⟩ ⟨rfl, trivial⟩) rfl (fun b15 _ => ?_)
  · intro s1
    unfold m_spec_l3Set_L1
    refine AWR.seq ?_
    refine AWR.seq ?_
    refine AWR.region ?_
    refine AOR.pure (LT.move (v := (.s (.c (iC s1.1)))) rfl) ⟨rfl, trivial⟩ trivial rfl rfl ?_
    refine AOR.pure (LT.move (v := (.s (.c (iC n)))) rfl) ⟨rfl, trivial⟩ trivial rfl rfl ?_
    refine AOR.pure (LT.lss rfl) ⟨rfl, rfl, trivial⟩ trivial rfl rfl ?_
    refine AOR.nil ?_
    refine AWR.cond rfl (fun hc16 => ?_) (fun hc16 => ?_)
    · refine AWR.skip ?_
      refine AWR.seq ?_
      refine AWR.block ?_
      refine AWR.seq ?_
      refine AWR.region ?_
      refine AOR.pure (LT.move (v := (.s (.c (iC mask)))) rfl) ⟨rfl, trivial⟩ trivial rfl rfl ?_
      refine AOR.pure (LT.move (v := (.s (.c (iC s1.1)))) rfl) ⟨rfl, trivial⟩ trivial rfl rfl ?_
      refine AOR.bind fun u17 hu17 => ?_
      refine AOR.pure (LT.shr rfl (nn_le hu17)) ⟨rfl, rfl, trivial⟩ trivial rfl rfl ?_
      refine AOR.pure (LT.and rfl) ⟨rfl, ⟨rfl, rfl⟩, trivial⟩ trivial rfl rfl ?_
      refine AOR.pure (LT.eql rfl) ⟨rfl, ⟨rfl, rfl⟩, trivial⟩ trivial rfl rfl ?_
      refine AOR.nil ?_
      refine AWR.joinK (fun j20 => ([(0, (.s (.c (iC n)))), (1, (.s (.c (iC mask)))), (5, (.s (.c (.loc 21 0 j20.length)))), (6, (.s (.c (iC s1.1))))], [(21, (.prow 3 (j20.map encInt)))])) ?_ (fun j20 _ => ?_)
      · refine AWR.cond rfl (fun hc21 => ?_) (fun hc21 => ?_)
        · refine AWR.region ?_
          refine AOR.pure (LT.move (v := (.s (.c (.loc 21 0 s1.2.length)))) rfl) ⟨rfl, trivial⟩ trivial rfl rfl ?_
          refine AOR.pure (LT.move (v := (.s (.c (iC s1.1)))) rfl) ⟨rfl, trivial⟩ trivial rfl rfl ?_
          refine AOR.step (LT.tbuildSlice (n := 22) (enc := encInt) [(0, .tmp 19, (.c (iC s1.1)))] ([s1.1] : List Int) rfl rfl und40 ti3 rfl rfl rfl rfl (by decide) (fun _ => rfl) rfl) ⟨rfl, trivial⟩ trivial rfl rfl ?_
          refine AOR.bind fun u22 hu22 => ?_
          refine AOR.step (LT.tappP (enc := encInt) rfl rfl rfl und40 ti3 rfl (by decide) (by decide) (fun _ => rfl) (lim_le hu22)) ⟨rfl, rfl, trivial⟩ ⟨rfl, rfl, trivial⟩ rfl rfl ?_
          refine AOR.pure (LT.assign (v := (.s (.c (.loc 21 0 (s1.2 ++ ([s1.1] : List Int)).length)))) rfl) ⟨rfl, trivial⟩ trivial rfl rfl ?_
          refine AOR.nil ?_
          refine AWR.nil ⟨rfl, Ent.of ⟨rfl, rfl, rfl, rfl, trivial⟩ ⟨rfl, trivial⟩⟩
        · refine AWR.skip ?_
          refine AWR.nil ⟨rfl, Ent.of ⟨rfl, rfl, rfl, rfl, trivial⟩ ⟨rfl, trivial⟩⟩
      · refine AWR.blk ?_
        refine AWR.region ?_
        refine AOR.pure (LT.move (v := (.s (.c (iC s1.1)))) rfl) ⟨rfl, trivial⟩ trivial rfl rfl ?_
        refine AOR.pure (LT.add rfl) ⟨rfl, ⟨rfl, rfl⟩, trivial⟩ trivial rfl rfl ?_
        refine AOR.pure (LT.assign (v := (.s (.c (iC (w64 (s1.1 + 1)))))) rfl) ⟨rfl, trivial⟩ trivial rfl rfl ?_
        refine AOR.nil ?_
        refine AWR.nil ⟨rfl, Ent.of ⟨rfl, rfl, rfl, rfl, trivial⟩ ⟨rfl, trivial⟩⟩
    · refine AWR.exit_end rfl ⟨rfl, Ent.of ⟨rfl, trivial⟩ ⟨rfl, trivial⟩⟩
  · refine AWR.seq ?_
    refine AWR.region ?_
    refine AOR.pure (LT.move (v := (.s (.c (.loc 21 0 b15.length)))) rfl) ⟨rfl, trivial⟩ trivial rfl rfl ?_
    refine AOR.pure (LT.assign (v := (.s (.c (.loc 21 0 b15.length)))) rfl) ⟨rfl, trivial⟩ trivial rfl rfl ?_
    refine AOR.nil ?_
    refine AWR.ent (Ent.of (σ' := [(4, (.s (.c (.loc 21 0 b15.length))))]) (m' := [(21, (.prow 3 (b15.map encInt)))]) ⟨rfl, trivial⟩ ⟨rfl, trivial⟩) ?_
    refine AWR.ent (Ent.mv 21 0 rfl rfl) ?_
    refine AWR.ent (Ent.of (σ' := [(4, (.s (.c (.loc 0 0 b15.length))))]) (m' := [(0, (.prow 3 (b15.map encInt)))]) ⟨rfl, trivial⟩ ⟨rfl, trivial⟩) ?_
    refine AWR.ret (FPost.mk (.inr rfl) ⟨rfl, trivial⟩ ⟨rfl, trivial⟩ rfl ⟨trivial, trivial⟩ ⟨PermO.prow' perm_encInt, trivial⟩)
set_option maxRecDepth 100000 in
set_option maxHeartbeats 8000000 in
theorem w_spec_ReachOf (g : TGraph) (v : Int) : ∀ t, m_spec_ReachOf g v = some t → Fw.Fn Try.prog 104 [(.agg [(iC g.Points), (.pv (.xs false (g.Bars.map encTBar)))]), (.c (iC v))] [] (.s (.c (.loc 0 0 t.length))) [(0, (.prow 3 (t.map encInt)))] [] [0] := by
  refine Fw.Fn.of (P := Try.prog) (X := [0]) (pn := []) (rs := (fun (t : (List Int)) => [(.c (.loc 0 0 t.length))])) (dfs := (fun (t : (List Int)) => [(0, (.prow 3 (t.map encInt)))])) Try.func104 rfl Try.ntmps104 (Nat.le_of_ble_eq_true rfl) rfl ?_
  intro w0 U0 R0 g0
  unfold m_spec_ReachOf
  refine AWR.seq ?_
  refine AWR.region ?_
  refine AOR.step (LT.box (n := 21) (v := (.agg [(iC g.Points), (.pv (.xs false (g.Bars.map encTBar)))])) rfl sz30 (by exact rfl)) ⟨rfl, trivial⟩ trivial rfl rfl ?_
  refine AOR.pure (LT.assign (v := (.s (.c (sC nilV)))) rfl) ⟨⟨rfl, rfl⟩, trivial⟩ trivial rfl rfl ?_
  refine AOR.nil ?_
  refine AWR.seq ?_
  refine AWR.region ?_
  refine AOR.step (LT.tbuildSlice (n := 22) (enc := encInt) [] ([] : List Int) rfl rfl und40 ti3 rfl rfl rfl rfl (by decide) (fun _ => rfl) rfl) trivial trivial rfl rfl ?_
  refine AOR.pure (LT.assign (v := (.s (.c (.loc 22 0 ([] : List Int).length)))) rfl) ⟨rfl, trivial⟩ trivial rfl rfl ?_
  refine AOR.nil ?_
  refine AWR.seq ?_
  refine AWR.seq ?_
  refine AWR.joinK (fun j4 => ([(1, (.s (.c (iC v)))), (2, (.s (.c (.pl 21 0)))), (5, (.s (.c (.loc 22 0 ([] : List Int).length)))), (23, (.s (.c (bC j4))))], [(21, (.row 30 [[(iC g.Points), (.pv (.xs false (g.Bars.map encTBar)))]])), (22, (.prow 3 (([] : List Int).map encInt)))])) ?_ (fun j4 _ => ?_)
  · refine AWR.region ?_
    refine AOR.pure (LT.bloadN (out := [(iC g.Points), (.pv (.xs false (g.Bars.map encTBar)))]) rfl ag30 (infS inf30) sz30 (by exact rfl) (by exact rfl)) ⟨rfl, trivial⟩ ⟨rfl, trivial⟩ rfl rfl ?_
    refine AOR.bind fun r5 hr5 => ?_
    refine AOR.pure (@LT.callF Try.prog _ _ 66 _ _ [(.agg [(iC g.Points), (.pv (.xs false (g.Bars.map encTBar)))])] _ _ [] _ _ _ _ (w_spec_IsGraph g r5 hr5) rfl cb66 (.cons (.agg (.cons (.same rfl) (.cons (.same rfl) .nil))) .nil) rfl rfl trivial) ⟨rfl, rfl, trivial⟩ trivial rfl rfl ?_
    refine AOR.pure (LT.not rfl) ⟨rfl, trivial⟩ trivial rfl rfl ?_
    refine AOR.pure (LT.move (v := (.s (.c (bC (!r5))))) rfl) ⟨rfl, trivial⟩ trivial rfl rfl ?_
    refine AOR.split (fun hb6 => ?_) (fun hb6 => ?_)
    · refine AOR.skip ⟨_, rfl, .inl ⟨_, rfl, (by rw [hb6]; rfl)⟩⟩ rfl ?_
      refine AOR.skip ⟨_, rfl, .inl ⟨_, rfl, (by rw [hb6]; rfl)⟩⟩ rfl ?_
      refine AOR.pure (LT.pickT (v := (.s (.c (bC true)))) rfl hb6) ⟨rfl, ⟨rfl, rfl⟩, trivial⟩ trivial rfl rfl ?_
      refine AOR.pure (LT.move (v := (.s (.c (bC true)))) rfl) ⟨rfl, trivial⟩ trivial rfl rfl ?_
      refine AOR.skip ⟨_, rfl, .inl ⟨_, rfl, rfl⟩⟩ rfl ?_
      refine AOR.skip ⟨_, rfl, .inl ⟨_, rfl, rfl⟩⟩ rfl ?_
      refine AOR.skip ⟨_, rfl, .inl ⟨_, rfl, rfl⟩⟩ rfl ?_
      refine AOR.skip ⟨_, rfl, .inl ⟨_, rfl, rfl⟩⟩ rfl ?_
      refine AOR.pure (LT.pickT (v := (.s (.c (bC true)))) rfl rfl) ⟨rfl, ⟨rfl, rfl⟩, trivial⟩ trivial rfl rfl ?_
      refine AOR.nil ?_
      refine AWR.nil ⟨rfl, Ent.of ⟨rfl, rfl, rfl, rfl, trivial⟩ ⟨rfl, rfl, trivial⟩⟩
    · refine AOR.pure (LT.move (v := (.s (.c (iC v)))) rfl) ⟨rfl, trivial⟩ trivial ⟨_, rfl, .inl ⟨_, rfl, (by rw [hb6]; rfl)⟩⟩ rfl ?_
      refine AOR.pure (LT.lss rfl) ⟨rfl, ⟨rfl, rfl⟩, trivial⟩ trivial ⟨_, rfl, .inl ⟨_, rfl, (by rw [hb6]; rfl)⟩⟩ rfl ?_
      refine AOR.pure (LT.pickF (v := (.s (.c (bC (decide (v < 0)))))) rfl hb6) ⟨rfl, rfl, trivial⟩ trivial rfl rfl ?_
      refine AOR.pure (LT.move (v := (.s (.c (bC (decide (v < 0)))))) rfl) ⟨rfl, trivial⟩ trivial rfl rfl ?_
      refine AOR.split (fun hb7 => ?_) (fun hb7 => ?_)
      · refine AOR.skip ⟨_, rfl, .inl ⟨_, rfl, (by rw [hb7]; rfl)⟩⟩ rfl ?_
        refine AOR.skip ⟨_, rfl, .inl ⟨_, rfl, (by rw [hb7]; rfl)⟩⟩ rfl ?_
        refine AOR.skip ⟨_, rfl, .inl ⟨_, rfl, (by rw [hb7]; rfl)⟩⟩ rfl ?_
        refine AOR.skip ⟨_, rfl, .inl ⟨_, rfl, (by rw [hb7]; rfl)⟩⟩ rfl ?_
        refine AOR.pure (LT.pickT (v := (.s (.c (bC true)))) rfl hb7) ⟨rfl, ⟨rfl, rfl⟩, trivial⟩ trivial rfl rfl ?_
        refine AOR.nil ?_
        refine AWR.nil ⟨rfl, Ent.of ⟨rfl, rfl, rfl, rfl, trivial⟩ ⟨rfl, rfl, trivial⟩⟩
      · refine AOR.pure (LT.move (v := (.s (.c (iC v)))) rfl) ⟨rfl, trivial⟩ trivial ⟨_, rfl, .inl ⟨_, rfl, (by rw [hb7]; rfl)⟩⟩ rfl ?_
        refine AOR.pure (LT.fieldPl rfl fo30_0) ⟨rfl, trivial⟩ trivial ⟨_, rfl, .inl ⟨_, rfl, (by rw [hb7]; rfl)⟩⟩ rfl ?_
        refine AOR.pure (LT.bload1 (c := (iC g.Points)) rfl ag3 (by exact rfl)) ⟨rfl, trivial⟩ ⟨rfl, trivial⟩ ⟨_, rfl, .inl ⟨_, rfl, (by rw [hb7]; rfl)⟩⟩ rfl ?_
        refine AOR.pure (LT.geq rfl) ⟨rfl, rfl, trivial⟩ trivial ⟨_, rfl, .inl ⟨_, rfl, (by rw [hb7]; rfl)⟩⟩ rfl ?_
        refine AOR.pure (LT.pickF (v := (.s (.c (bC (decide (g.Points ≤ v)))))) rfl hb7) ⟨rfl, rfl, trivial⟩ trivial rfl rfl ?_
        refine AOR.nil ?_
        refine AWR.nil ⟨rfl, Ent.of ⟨rfl, rfl, rfl, rfl, trivial⟩ ⟨rfl, rfl, trivial⟩⟩
  · refine AWR.cond rfl (fun hc8 => ?_) (fun hc8 => ?_)
    · refine AWR.seq ?_
      refine AWR.region ?_
      refine AOR.pure (LT.move (v := (.s (.c (.loc 22 0 ([] : List Int).length)))) rfl) ⟨rfl, trivial⟩ trivial rfl rfl ?_
      refine AOR.pure (LT.assign (v := (.s (.c (.loc 22 0 ([] : List Int).length)))) rfl) ⟨rfl, trivial⟩ trivial rfl rfl ?_
      refine AOR.nil ?_
      refine AWR.ent (Ent.of (σ' := [(4, (.s (.c (.loc 22 0 ([] : List Int).length))))]) (m' := [(22, (.prow 3 (([] : List Int).map encInt)))]) ⟨rfl, trivial⟩ ⟨rfl, trivial⟩) ?_
      refine AWR.ent (Ent.mv 22 0 rfl rfl) ?_
      refine AWR.ent (Ent.of (σ' := [(4, (.s (.c (.loc 0 0 ([] : List Int).length))))]) (m' := [(0, (.prow 3 (([] : List Int).map encInt)))]) ⟨rfl, trivial⟩ ⟨rfl, trivial⟩) ?_
      refine AWR.ret (FPost.mk (.inr rfl) ⟨rfl, trivial⟩ ⟨rfl, trivial⟩ rfl ⟨trivial, trivial⟩ ⟨PermO.prow' perm_encInt, trivial⟩)
    · refine AWR.skip ?_
      refine AWR.seq ?_
      refine AWR.region ?_
      refine AOR.pure (LT.fieldPl rfl fo30_0) ⟨rfl, trivial⟩ trivial rfl rfl ?_
      refine AOR.pure (LT.bload1 (c := (iC g.Points)) rfl ag3 (by exact rfl)) ⟨rfl, trivial⟩ ⟨rfl, trivial⟩ rfl rfl ?_
      refine AOR.bind fun u9 hu9 => ?_
      refine AOR.step (LT.tmake (n := 24) (enc := encBool) (zc := [(bC false)]) false rfl und113 ti4 rfl rfl rfl (by decide) (by decide) (lenOk_le hu9) rfl) ⟨rfl, rfl, trivial⟩ trivial rfl rfl ?_
      refine AOR.pure (LT.assign (v := (.s (.c (.loc 24 0 (List.replicate g.Points.toNat false).length)))) rfl) ⟨rfl, trivial⟩ trivial rfl rfl ?_
      refine AOR.nil ?_
      refine AWR.seq ?_
      refine AWR.region ?_
      refine AOR.pure (LT.move (v := (.s (.c (.loc 24 0 (List.replicate g.Points.toNat false).length)))) rfl) ⟨rfl, trivial⟩ trivial rfl rfl ?_
      refine AOR.pure (LT.move (v := (.s (.c (iC v)))) rfl) ⟨rfl, trivial⟩ trivial rfl rfl ?_
      refine AOR.bind fun x10 hx10 => ?_
      refine AOR.pure (LT.tindexLoc rfl rfl el113 hx10) ⟨rfl, rfl, trivial⟩ ⟨rfl, trivial⟩ rfl rfl ?_
      refine AOR.step (LT.tstore (k := 0) (v := (.c (bC true))) (b' := true) rfl rfl (infS inf4) sz4 (by exact rfl) hx10 (by exact rfl) (by exact Nat.le_of_ble_eq_true rfl) (by exact rfl)) ⟨rfl, ⟨rfl, rfl⟩, trivial⟩ ⟨rfl, trivial⟩ rfl rfl ?_
      refine AOR.nil ?_
      refine AWR.seq ?_
      refine AWR.seq ?_
      refine AWR.ent (Ent.of (σ' := [(2, (.s (.c (.pl 21 0)))), (5, (.s (.c (.loc 22 0 ([] : List Int).length)))), (6, (.s (.c (.loc 24 0 (List.replicate g.Points.toNat false).length))))]) (m' := [(21, (.row 30 [[(iC g.Points), (.pv (.xs false (g.Bars.map encTBar)))]])), (22, (.prow 3 (([] : List Int).map encInt))), (24, (.prow 4 (((List.replicate g.Points.toNat false).set v.toNat true).map encBool)))]) ⟨rfl, rfl, rfl, trivial⟩ ⟨rfl, rfl, rfl, trivial⟩) ?_
      refine AWR.region ?_
      refine AOR.pure (LT.assign (v := (.s (.c (iC 0)))) rfl) ⟨⟨rfl, rfl⟩, trivial⟩ trivial rfl rfl ?_
      refine AOR.nil ?_
      refine AWR.block ?_
      refine AWR.loop1 (id := 0) (m_spec_ReachOf_L3 g) (fun s11 => ([(2, (.s (.c (.pl 21 0)))), (5, (.s (.c (.loc 22 0 ([] : List Int).length)))), (6, (.s (.c (.loc 24 0 s11.2.length)))), (7, (.s (.c (iC s11.1))))], [(21, (.row 30 [[(iC g.Points), (.pv (.xs false (g.Bars.map encTBar)))]])), (22, (.prow 3 (([] : List Int).map encInt))), (24, (.prow 4 (s11.2.map encBool)))])) (fun b110 => ([(2, (.s (.c (.pl 21 0)))), (5, (.s (.c (.loc 22 0 ([] : List Int).length)))), (6, (.s (.c (.loc 24 0 b110.length))))], [(21, (.row 30 [[(iC g.Points), (.pv (.xs false (g.Bars.map encTBar)))]])), (22, (.prow 3 (([] : List Int).map encInt))), (24, (.prow 4 (b110.map encBool)))])) ?_ (Ent.of ⟨rfl, rfl, (congrArg (fun l1 => (some (AV.s (.c (.loc 24 0 l1))) : Option AV)) (show (List.replicate g.Points.toNat false).length = ((List.replicate g.Points.toNat false).set v.toNat true).length by simp only [List.length_set])), rfl, trivial⟩ ⟨rfl, rfl, rfl, trivial⟩) rfl (fun b110 _ => ?_)
      · intro s11
        unfold m_spec_ReachOf_L3
        refine AWR.seq ?_
        refine AWR.seq ?_
        refine AWR.region ?_
        refine AOR.pure (LT.move (v := (.s (.c (iC s11.1)))) rfl) ⟨rfl, trivial⟩ trivial rfl rfl ?_
        refine AOR.pure (LT.fieldPl rfl fo30_0) ⟨rfl, trivial⟩ trivial rfl rfl ?_
        refine AOR.pure (LT.bload1 (c := (iC g.Points)) rfl ag3 (by exact rfl)) ⟨rfl, trivial⟩ ⟨rfl, trivial⟩ rfl rfl ?_
        refine AOR.pure (LT.lss rfl) ⟨rfl, rfl, trivial⟩ trivial rfl rfl ?_
        refine AOR.nil ?_
        refine AWR.cond rfl (fun hc111 => ?_) (fun hc111 => ?_)
        · refine AWR.skip ?_
          refine AWR.seq ?_
          refine AWR.block ?_
          refine AWR.seq ?_
          refine AWR.region ?_
          refine AOR.pure (LT.assign (v := (.s (.c (iC 0)))) rfl) ⟨⟨rfl, rfl⟩, trivial⟩ trivial rfl rfl ?_
          refine AOR.nil ?_
          refine AWR.block ?_
          refine AWR.loop1 (id := 2) (m_spec_ReachOf_L4 g s11) (fun s112 => ([(2, (.s (.c (.pl 21 0)))), (5, (.s (.c (.loc 22 0 ([] : List Int).length)))), (6, (.s (.c (.loc 24 0 s112.2.length)))), (7, (.s (.c (iC s11.1)))), (8, (.s (.c (iC s112.1))))], [(21, (.row 30 [[(iC g.Points), (.pv (.xs false (g.Bars.map encTBar)))]])), (22, (.prow 3 (([] : List Int).map encInt))), (24, (.prow 4 (s112.2.map encBool)))])) (fun b159 => ([(2, (.s (.c (.pl 21 0)))), (5, (.s (.c (.loc 22 0 ([] : List Int).length)))), (6, (.s (.c (.loc 24 0 b159.2.length)))), (7, (.s (.c (iC b159.1))))], [(21, (.row 30 [[(iC g.Points), (.pv (.xs false (g.Bars.map encTBar)))]])), (22, (.prow 3 (([] : List Int).map encInt))), (24, (.prow 4 (b159.2.map encBool)))])) ?_ (Ent.of ⟨rfl, rfl, rfl, rfl, rfl, trivial⟩ ⟨rfl, rfl, rfl, trivial⟩) rfl (fun b159 _ => ?_)
          · intro s112
            unfold m_spec_ReachOf_L4
            refine AWR.seq ?_
            refine AWR.seq ?_
            refine AWR.region ?_
            refine AOR.pure (LT.move (v := (.s (.c (iC s112.1)))) rfl) ⟨rfl, trivial⟩ trivial rfl rfl ?_
            refine AOR.pure (LT.fieldPl rfl fo30_1) ⟨rfl, trivial⟩ trivial rfl rfl ?_
            refine AOR.pure (LT.bload1 (c := (.pv (.xs false (g.Bars.map encTBar)))) rfl ag28 (by exact rfl)) ⟨rfl, trivial⟩ ⟨rfl, trivial⟩ rfl rfl ?_
            refine AOR.pure (LT.tlenRO rfl und28) ⟨rfl, trivial⟩ trivial rfl rfl ?_
            refine AOR.pure (LT.lss rfl) ⟨rfl, rfl, trivial⟩ trivial rfl rfl ?_
            refine AOR.nil ?_
            refine AWR.cond rfl (fun hc160 => ?_) (fun hc160 => ?_)
            · refine AWR.skip ?_
              refine AWR.seq ?_
              refine AWR.block ?_
              refine AWR.seq ?_
              refine AWR.joinK (fun j166 => ([(2, (.s (.c (.pl 21 0)))), (5, (.s (.c (.loc 22 0 ([] : List Int).length)))), (6, (.s (.c (.loc 24 0 s112.2.length)))), (7, (.s (.c (iC s11.1)))), (8, (.s (.c (iC s112.1)))), (63, (.s (.c (bC j166))))], [(21, (.row 30 [[(iC g.Points), (.pv (.xs false (g.Bars.map encTBar)))]])), (22, (.prow 3 (([] : List Int).map encInt))), (24, (.prow 4 (s112.2.map encBool)))])) ?_ (fun j166 _ => ?_)
              · refine AWR.region ?_
                refine AOR.pure (LT.move (v := (.s (.c (.loc 24 0 s112.2.length)))) rfl) ⟨rfl, trivial⟩ trivial rfl rfl ?_
                refine AOR.pure (LT.fieldPl rfl fo30_1) ⟨rfl, trivial⟩ trivial rfl rfl ?_
                refine AOR.pure (LT.bload1 (c := (.pv (.xs false (g.Bars.map encTBar)))) rfl ag28 (by exact rfl)) ⟨rfl, trivial⟩ ⟨rfl, trivial⟩ rfl rfl ?_
                refine AOR.pure (LT.move (v := (.s (.c (iC s112.1)))) rfl) ⟨rfl, trivial⟩ trivial rfl rfl ?_
                refine AOR.bind fun x167 hx167 => ?_
                refine AOR.pure (LT.tindexRO (enc := encTBar) rfl el28 hx167 sz88) ⟨rfl, rfl, trivial⟩ trivial rfl rfl ?_
                refine AOR.pure (LT.fieldPx rfl fo88_0) ⟨rfl, trivial⟩ trivial rfl rfl ?_
                refine AOR.pure (LT.loadPx1 rfl ag3) ⟨rfl, trivial⟩ trivial rfl rfl ?_
                refine AOR.bind fun x168 hx168 => ?_
                refine AOR.pure (LT.tindexLoc rfl rfl el113 hx168) ⟨rfl, rfl, trivial⟩ ⟨rfl, trivial⟩ rfl rfl ?_
                refine AOR.pure (LT.tload1 (k := 0) rfl ag4 hx168 (by exact rfl) (by exact rfl)) ⟨rfl, trivial⟩ ⟨rfl, trivial⟩ rfl rfl ?_
                refine AOR.pure (LT.move (v := (.s (.c (bC x168)))) rfl) ⟨rfl, trivial⟩ trivial rfl rfl ?_
                refine AOR.split (fun hb169 => ?_) (fun hb169 => ?_)
                · refine AOR.skip ⟨_, rfl, .inl ⟨_, rfl, (by rw [hb169]; rfl)⟩⟩ rfl ?_
                  refine AOR.skip ⟨_, rfl, .inl ⟨_, rfl, (by rw [hb169]; rfl)⟩⟩ rfl ?_
                  refine AOR.skip ⟨_, rfl, .inl ⟨_, rfl, (by rw [hb169]; rfl)⟩⟩ rfl ?_
                  refine AOR.skip ⟨_, rfl, .inl ⟨_, rfl, (by rw [hb169]; rfl)⟩⟩ rfl ?_
                  refine AOR.skip ⟨_, rfl, .inl ⟨_, rfl, (by rw [hb169]; rfl)⟩⟩ rfl ?_
                  refine AOR.skip ⟨_, rfl, .inl ⟨_, rfl, (by rw [hb169]; rfl)⟩⟩ rfl ?_
                  refine AOR.skip ⟨_, rfl, .inl ⟨_, rfl, (by rw [hb169]; rfl)⟩⟩ rfl ?_
                  refine AOR.skip ⟨_, rfl, .inl ⟨_, rfl, (by rw [hb169]; rfl)⟩⟩ rfl ?_
                  refine AOR.skip ⟨_, rfl, .inl ⟨_, rfl, (by rw [hb169]; rfl)⟩⟩ rfl ?_
                  refine AOR.pure (LT.pickT (v := (.s (.c (bC true)))) rfl hb169) ⟨rfl, ⟨rfl, rfl⟩, trivial⟩ trivial rfl rfl ?_
                  refine AOR.nil ?_
                  refine AWR.nil ⟨rfl, Ent.of ⟨rfl, rfl, rfl, rfl, rfl, rfl, trivial⟩ ⟨rfl, rfl, rfl, trivial⟩⟩
                · refine AOR.pure (LT.move (v := (.s (.c (.loc 24 0 s112.2.length)))) rfl) ⟨rfl, trivial⟩ trivial ⟨_, rfl, .inl ⟨_, rfl, (by rw [hb169]; rfl)⟩⟩ rfl ?_
                  refine AOR.pure (LT.fieldPl rfl fo30_1) ⟨rfl, trivial⟩ trivial ⟨_, rfl, .inl ⟨_, rfl, (by rw [hb169]; rfl)⟩⟩ rfl ?_
                  refine AOR.pure (LT.bload1 (c := (.pv (.xs false (g.Bars.map encTBar)))) rfl ag28 (by exact rfl)) ⟨rfl, trivial⟩ ⟨rfl, trivial⟩ ⟨_, rfl, .inl ⟨_, rfl, (by rw [hb169]; rfl)⟩⟩ rfl ?_
                  refine AOR.pure (LT.move (v := (.s (.c (iC s112.1)))) rfl) ⟨rfl, trivial⟩ trivial ⟨_, rfl, .inl ⟨_, rfl, (by rw [hb169]; rfl)⟩⟩ rfl ?_
                  refine AOR.bind fun x170 hx170 => ?_
                  refine AOR.pure (LT.tindexRO (enc := encTBar) rfl el28 hx170 sz88) ⟨rfl, rfl, trivial⟩ trivial ⟨_, rfl, .inl ⟨_, rfl, (by rw [hb169]; rfl)⟩⟩ rfl ?_
                  refine AOR.pure (LT.fieldPx rfl fo88_1) ⟨rfl, trivial⟩ trivial ⟨_, rfl, .inl ⟨_, rfl, (by rw [hb169]; rfl)⟩⟩ rfl ?_
                  refine AOR.pure (LT.loadPx1 rfl ag3) ⟨rfl, trivial⟩ trivial ⟨_, rfl, .inl ⟨_, rfl, (by rw [hb169]; rfl)⟩⟩ rfl ?_
                  refine AOR.bind fun x171 hx171 => ?_
                  refine AOR.pure (LT.tindexLoc rfl rfl el113 hx171) ⟨rfl, rfl, trivial⟩ ⟨rfl, trivial⟩ ⟨_, rfl, .inl ⟨_, rfl, (by rw [hb169]; rfl)⟩⟩ rfl ?_
                  refine AOR.pure (LT.tload1 (k := 0) rfl ag4 hx171 (by exact rfl) (by exact rfl)) ⟨rfl, trivial⟩ ⟨rfl, trivial⟩ ⟨_, rfl, .inl ⟨_, rfl, (by rw [hb169]; rfl)⟩⟩ rfl ?_
                  refine AOR.pure (LT.pickF (v := (.s (.c (bC x171)))) rfl hb169) ⟨rfl, rfl, trivial⟩ trivial rfl rfl ?_
                  refine AOR.nil ?_
                  refine AWR.nil ⟨rfl, Ent.of ⟨rfl, rfl, rfl, rfl, rfl, rfl, trivial⟩ ⟨rfl, rfl, rfl, trivial⟩⟩
              · refine AWR.joinK (fun j177 => ([(2, (.s (.c (.pl 21 0)))), (5, (.s (.c (.loc 22 0 ([] : List Int).length)))), (6, (.s (.c (.loc 24 0 j177.length)))), (7, (.s (.c (iC s11.1)))), (8, (.s (.c (iC s112.1))))], [(21, (.row 30 [[(iC g.Points), (.pv (.xs false (g.Bars.map encTBar)))]])), (22, (.prow 3 (([] : List Int).map encInt))), (24, (.prow 4 (j177.map encBool)))])) ?_ (fun j177 _ => ?_)
                · refine AWR.cond rfl (fun hc178 => ?_) (fun hc178 => ?_)
                  · refine AWR.seq ?_
                    refine AWR.region ?_
                    refine AOR.pure (LT.move (v := (.s (.c (.loc 24 0 s112.2.length)))) rfl) ⟨rfl, trivial⟩ trivial rfl rfl ?_
                    refine AOR.pure (LT.fieldPl rfl fo30_1) ⟨rfl, trivial⟩ trivial rfl rfl ?_
                    refine AOR.pure (LT.bload1 (c := (.pv (.xs false (g.Bars.map encTBar)))) rfl ag28 (by exact rfl)) ⟨rfl, trivial⟩ ⟨rfl, trivial⟩ rfl rfl ?_
                    refine AOR.pure (LT.move (v := (.s (.c (iC s112.1)))) rfl) ⟨rfl, trivial⟩ trivial rfl rfl ?_
                    refine AOR.bind fun x179 hx179 => ?_
                    refine AOR.pure (LT.tindexRO (enc := encTBar) rfl el28 hx179 sz88) ⟨rfl, rfl, trivial⟩ trivial rfl rfl ?_
                    refine AOR.pure (LT.fieldPx rfl fo88_0) ⟨rfl, trivial⟩ trivial rfl rfl ?_
                    refine AOR.pure (LT.loadPx1 rfl ag3) ⟨rfl, trivial⟩ trivial rfl rfl ?_
                    refine AOR.bind fun x180 hx180 => ?_
                    refine AOR.pure (LT.tindexLoc rfl rfl el113 hx180) ⟨rfl, rfl, trivial⟩ ⟨rfl, trivial⟩ rfl rfl ?_
                    refine AOR.step (LT.tstore (k := 0) (v := (.c (bC true))) (b' := true) rfl rfl (infS inf4) sz4 (by exact rfl) hx180 (by exact rfl) (by exact Nat.le_of_ble_eq_true rfl) (by exact rfl)) ⟨rfl, ⟨rfl, rfl⟩, trivial⟩ ⟨rfl, trivial⟩ rfl rfl ?_
                    refine AOR.nil ?_
                    refine AWR.ent (Ent.of (σ' := [(2, (.s (.c (.pl 21 0)))), (5, (.s (.c (.loc 22 0 ([] : List Int).length)))), (6, (.s (.c (.loc 24 0 s112.2.length)))), (7, (.s (.c (iC s11.1)))), (8, (.s (.c (iC s112.1))))]) (m' := [(21, (.row 30 [[(iC g.Points), (.pv (.xs false (g.Bars.map encTBar)))]])), (22, (.prow 3 (([] : List Int).map encInt))), (24, (.prow 4 ((s112.2.set x179.A.toNat true).map encBool)))]) ⟨rfl, rfl, rfl, rfl, rfl, trivial⟩ ⟨rfl, rfl, rfl, trivial⟩) ?_
                    refine AWR.region ?_
                    refine AOR.pure (LT.move (v := (.s (.c (.loc 24 0 s112.2.length)))) rfl) ⟨rfl, trivial⟩ trivial rfl rfl ?_
                    refine AOR.pure (LT.fieldPl rfl fo30_1) ⟨rfl, trivial⟩ trivial rfl rfl ?_
                    refine AOR.pure (LT.bload1 (c := (.pv (.xs false (g.Bars.map encTBar)))) rfl ag28 (by exact rfl)) ⟨rfl, trivial⟩ ⟨rfl, trivial⟩ rfl rfl ?_
                    refine AOR.pure (LT.move (v := (.s (.c (iC s112.1)))) rfl) ⟨rfl, trivial⟩ trivial rfl rfl ?_
                    refine AOR.bind fun x181 hx181 => ?_
                    refine AOR.pure (LT.tindexRO (enc := encTBar) rfl el28 hx181 sz88) ⟨rfl, rfl, trivial⟩ trivial rfl rfl ?_
                    refine AOR.pure (LT.fieldPx rfl fo88_1) ⟨rfl, trivial⟩ trivial rfl rfl ?_
                    refine AOR.pure (LT.loadPx1 rfl ag3) ⟨rfl, trivial⟩ trivial rfl rfl ?_
                    refine AOR.bind fun x182 hx182 => ?_
                    refine AOR.pure (LT.tindexLoc (show s112.2.length = (s112.2.set x179.A.toNat true).length by simp only [List.length_set]) rfl el113 hx182) ⟨rfl, rfl, trivial⟩ ⟨rfl, trivial⟩ rfl rfl ?_
                    refine AOR.step (LT.tstore (k := 0) (v := (.c (bC true))) (b' := true) rfl rfl (infS inf4) sz4 (by exact rfl) hx182 (by exact rfl) (by exact Nat.le_of_ble_eq_true rfl) (by exact rfl)) ⟨rfl, ⟨rfl, rfl⟩, trivial⟩ ⟨rfl, trivial⟩ rfl rfl ?_
                    refine AOR.nil ?_
                    refine AWR.nil ⟨rfl, Ent.of ⟨rfl, rfl, (congrArg (fun l1 => (some (AV.s (.c (.loc 24 0 l1))) : Option AV)) (show s112.2.length = ((s112.2.set x179.A.toNat true).set x181.B.toNat true).length by simp only [List.length_set])), rfl, rfl, trivial⟩ ⟨rfl, rfl, rfl, trivial⟩⟩
                  · refine AWR.skip ?_
                    refine AWR.nil ⟨rfl, Ent.of ⟨rfl, rfl, rfl, rfl, rfl, trivial⟩ ⟨rfl, rfl, rfl, trivial⟩⟩
                · refine AWR.blk ?_
                  refine AWR.region ?_
                  refine AOR.pure (LT.move (v := (.s (.c (iC s112.1)))) rfl) ⟨rfl, trivial⟩ trivial rfl rfl ?_
                  refine AOR.pure (LT.add rfl) ⟨rfl, ⟨rfl, rfl⟩, trivial⟩ trivial rfl rfl ?_
                  refine AOR.pure (LT.assign (v := (.s (.c (iC (w64 (s112.1 + 1)))))) rfl) ⟨rfl, trivial⟩ trivial rfl rfl ?_
                  refine AOR.nil ?_
                  refine AWR.nil ⟨rfl, Ent.of ⟨rfl, rfl, rfl, rfl, rfl, trivial⟩ ⟨rfl, rfl, rfl, trivial⟩⟩
            · refine AWR.exit_end rfl ⟨rfl, Ent.of ⟨rfl, rfl, rfl, rfl, trivial⟩ ⟨rfl, rfl, rfl, trivial⟩⟩
          · refine AWR.blk ?_
            refine AWR.region ?_
            refine AOR.pure (LT.move (v := (.s (.c (iC b159.1)))) rfl) ⟨rfl, trivial⟩ trivial rfl rfl ?_
            refine AOR.pure (LT.add rfl) ⟨rfl, ⟨rfl, rfl⟩, trivial⟩ trivial rfl rfl ?_
            refine AOR.pure (LT.assign (v := (.s (.c (iC (w64 (b159.1 + 1)))))) rfl) ⟨rfl, trivial⟩ trivial rfl rfl ?_
            refine AOR.nil ?_
            refine AWR.nil ⟨rfl, Ent.of ⟨rfl, rfl, rfl, rfl, trivial⟩ ⟨rfl, rfl, rfl, trivial⟩⟩
        · refine AWR.exit_end rfl ⟨rfl, Ent.of ⟨rfl, rfl, rfl, trivial⟩ ⟨rfl, rfl, rfl, trivial⟩⟩
      · refine AWR.seq ?_
        refine AWR.seq ?_
        refine AWR.region ?_
        refine AOR.pure (LT.assign (v := (.s (.c (iC 0)))) rfl) ⟨⟨rfl, rfl⟩, trivial⟩ trivial rfl rfl ?_
        refine AOR.nil ?_
        refine AWR.block ?_
        refine AWR.loop1 (id := 4) (m_spec_ReachOf_L5 g b110) (fun s183 => ([(2, (.s (.c (.pl 21 0)))), (5, (.s (.c (.loc 22 0 s183.2.length)))), (6, (.s (.c (.loc 24 0 b110.length)))), (9, (.s (.c (iC s183.1))))], [(21, (.row 30 [[(iC g.Points), (.pv (.xs false (g.Bars.map encTBar)))]])), (22, (.prow 3 (s183.2.map encInt))), (24, (.prow 4 (b110.map encBool)))])) (fun b198 => ([(5, (.s (.c (.loc 22 0 b198.length))))], [(22, (.prow 3 (b198.map encInt)))])) ?_ (Ent.of ⟨rfl, rfl, rfl, rfl, trivial⟩ ⟨rfl, rfl, rfl, trivial⟩) rfl (fun b198 _ => ?_)
        · intro s183
          unfold m_spec_ReachOf_L5
          refine AWR.seq ?_
          refine AWR.seq ?_
          refine AWR.region ?_
          refine AOR.pure (LT.move (v := (.s (.c (iC s183.1)))) rfl) ⟨rfl, trivial⟩ trivial rfl rfl ?_
          refine AOR.pure (LT.fieldPl rfl fo30_0) ⟨rfl, trivial⟩ trivial rfl rfl ?_
          refine AOR.pure (LT.bload1 (c := (iC g.Points)) rfl ag3 (by exact rfl)) ⟨rfl, trivial⟩ ⟨rfl, trivial⟩ rfl rfl ?_
          refine AOR.pure (LT.lss rfl) ⟨rfl, rfl, trivial⟩ trivial rfl rfl ?_
          refine AOR.nil ?_
          refine AWR.cond rfl (fun hc199 => ?_) (fun hc199 => ?_)
          · refine AWR.skip ?_
            refine AWR.seq ?_
            refine AWR.block ?_
            refine AWR.seq ?_
            refine AWR.region ?_
            refine AOR.pure (LT.move (v := (.s (.c (.loc 24 0 b110.length)))) rfl) ⟨rfl, trivial⟩ trivial rfl rfl ?_
            refine AOR.pure (LT.move (v := (.s (.c (iC s183.1)))) rfl) ⟨rfl, trivial⟩ trivial rfl rfl ?_
            refine AOR.bind fun x200 hx200 => ?_
            refine AOR.pure (LT.tindexLoc rfl rfl el113 hx200) ⟨rfl, rfl, trivial⟩ ⟨rfl, trivial⟩ rfl rfl ?_
            refine AOR.pure (LT.tload1 (k := 0) rfl ag4 hx200 (by exact rfl) (by exact rfl)) ⟨rfl, trivial⟩ ⟨rfl, trivial⟩ rfl rfl ?_
            refine AOR.nil ?_
            refine AWR.joinK (fun j203 => ([(2, (.s (.c (.pl 21 0)))), (5, (.s (.c (.loc 22 0 j203.length)))), (6, (.s (.c (.loc 24 0 b110.length)))), (9, (.s (.c (iC s183.1))))], [(21, (.row 30 [[(iC g.Points), (.pv (.xs false (g.Bars.map encTBar)))]])), (22, (.prow 3 (j203.map encInt))), (24, (.prow 4 (b110.map encBool)))])) ?_ (fun j203 _ => ?_)
            · refine AWR.cond rfl (fun hc204 => ?_) (fun hc204 => ?_)
              · refine AWR.region ?_
                refine AOR.pure (LT.move (v := (.s (.c (.loc 22 0 s183.2.length)))) rfl) ⟨rfl, trivial⟩ trivial rfl rfl ?_
                refine AOR.pure (LT.move (v := (.s (.c (iC s183.1)))) rfl) ⟨rfl, trivial⟩ trivial rfl rfl ?_
                refine AOR.step (LT.tbuildSlice (n := 25) (enc := encInt) [(0, .tmp 91, (.c (iC s183.1)))] ([s183.1] : List Int) rfl rfl und40 ti3 rfl rfl rfl rfl (by decide) (fun _ => rfl) rfl) ⟨rfl, trivial⟩ trivial rfl rfl ?_
                refine AOR.bind fun u205 hu205 => ?_
                refine AOR.step (LT.tappP (enc := encInt) rfl rfl rfl und40 ti3 rfl (by decide) (by decide) (fun _ => rfl) (lim_le hu205)) ⟨rfl, rfl, trivial⟩ ⟨rfl, rfl, trivial⟩ rfl rfl ?_
                refine AOR.pure (LT.assign (v := (.s (.c (.loc 22 0 (s183.2 ++ ([s183.1] : List Int)).length)))) rfl) ⟨rfl, trivial⟩ trivial rfl rfl ?_
                refine AOR.nil ?_
                refine AWR.nil ⟨rfl, Ent.of ⟨rfl, rfl, rfl, rfl, trivial⟩ ⟨rfl, rfl, rfl, trivial⟩⟩
              · refine AWR.skip ?_
                refine AWR.nil ⟨rfl, Ent.of ⟨rfl, rfl, rfl, rfl, trivial⟩ ⟨rfl, rfl, rfl, trivial⟩⟩
            · refine AWR.blk ?_
              refine AWR.region ?_
              refine AOR.pure (LT.move (v := (.s (.c (iC s183.1)))) rfl) ⟨rfl, trivial⟩ trivial rfl rfl ?_
              refine AOR.pure (LT.add rfl) ⟨rfl, ⟨rfl, rfl⟩, trivial⟩ trivial rfl rfl ?_
              refine AOR.pure (LT.assign (v := (.s (.c (iC (w64 (s183.1 + 1)))))) rfl) ⟨rfl, trivial⟩ trivial rfl rfl ?_
              refine AOR.nil ?_
              refine AWR.nil ⟨rfl, Ent.of ⟨rfl, rfl, rfl, rfl, trivial⟩ ⟨rfl, rfl, rfl, trivial⟩⟩
          · refine AWR.exit_end rfl ⟨rfl, Ent.of ⟨rfl, trivial⟩ ⟨rfl, trivial⟩⟩
        · refine AWR.seq ?_
          refine AWR.region ?_
          refine AOR.pure (LT.move (v := (.s (.c (.loc 22 0 b198.length)))) rfl) ⟨rfl, trivial⟩ trivial rfl rfl ?_
          refine AOR.pure (LT.assign (v := (.s (.c (.loc 22 0 b198.length)))) rfl) ⟨rfl, trivial⟩ trivial rfl rfl ?_
          refine AOR.nil ?_
          refine AWR.ent (Ent.of (σ' := [(4, (.s (.c (.loc 22 0 b198.length))))]) (m' := [(22, (.prow 3 (b198.map encInt)))]) ⟨rfl, trivial⟩ ⟨rfl, trivial⟩) ?_
          refine AWR.ent (Ent.mv 22 0 rfl rfl) ?_
          refine AWR.ent (Ent.of (σ' := [(4, (.s (.c (.loc 0 0 b198.length))))]) (m' := [(0, (.prow 3 (b198.map encInt)))]) ⟨rfl, trivial⟩ ⟨rfl, trivial⟩) ?_
          refine AWR.ret (FPost.mk (.inr rfl) ⟨rfl, trivial⟩ ⟨rfl, trivial⟩ rfl ⟨trivial, trivial⟩ ⟨PermO.prow' perm_encInt, trivial⟩)
set_option maxRecDepth 100000 in
set_option maxHeartbeats 8000000 in
theorem w_spec_IsConnected (g : TGraph) : ∀ t, m_spec_IsConnected g = some t → Fw.Fn Try.prog 100 [(.agg [(iC g.Points), (.pv (.xs false (g.Bars.map encTBar)))])] [] (.s (.c (bC t))) [] [] [] := by
  refine Fw.Fn.of (P := Try.prog) (X := []) (pn := []) (rs := (fun (t : Bool) => [(.c (bC t))])) (dfs := (fun (t : Bool) => [])) Try.func100 rfl Try.ntmps100 (Nat.le_of_ble_eq_true rfl) rfl ?_
  intro w0 U0 R0 g0
  unfold m_spec_IsConnected
  refine AWR.seq ?_
  refine AWR.region ?_
  refine AOR.step (LT.box (n := 21) (v := (.agg [(iC g.Points), (.pv (.xs false (g.Bars.map encTBar)))])) rfl sz30 (by exact rfl)) ⟨rfl, trivial⟩ trivial rfl rfl ?_
  refine AOR.pure (LT.assign (v := (.s (.c (bC false)))) rfl) ⟨⟨rfl, rfl⟩, trivial⟩ trivial rfl rfl ?_
  refine AOR.nil ?_
  refine AWR.seq ?_
  refine AWR.joinK (fun j4 => ([(2, (.s (.c (bC j4))))], [])) ?_ (fun j4 _ => ?_)
  · refine AWR.draw mixed ?_
    refine AOD.pure (LT.bloadN (out := [(iC g.Points), (.pv (.xs false (g.Bars.map encTBar)))]) rfl ag30 (infS inf30) sz30 (by exact rfl) (by exact rfl)) ⟨rfl, trivial⟩ ⟨rfl, trivial⟩ rfl rfl ?_
    refine AOD.bind fun r5 hr5 => ?_
    refine AOD.pure (@LT.callF Try.prog _ _ 66 _ _ [(.agg [(iC g.Points), (.pv (.xs false (g.Bars.map encTBar)))])] _ _ [] _ _ _ _ (w_spec_IsGraph g r5 hr5) rfl cb66 (.cons (.agg (.cons (.same rfl) (.cons (.same rfl) .nil))) .nil) rfl rfl trivial) ⟨rfl, rfl, trivial⟩ trivial rfl rfl ?_
    refine AOD.pure (LT.move (v := (.s (.c (bC r5)))) rfl) ⟨rfl, trivial⟩ trivial rfl rfl ?_
    refine AOD.split (fun hb6 => ?_) (fun hb6 => ?_)
    · refine AOD.pure (LT.bloadN (out := [(iC g.Points), (.pv (.xs false (g.Bars.map encTBar)))]) rfl ag30 (infS inf30) sz30 (by exact rfl) (by exact rfl)) ⟨rfl, trivial⟩ ⟨rfl, trivial⟩ ⟨_, rfl, .inl ⟨_, rfl, (by rw [hb6]; rfl)⟩⟩ rfl ?_
      refine AOD.bind fun r7 hr7 => ?_
      refine AOD.step (@LT.callF Try.prog _ _ 104 _ _ [(.agg [(iC g.Points), (.pv (.xs false (g.Bars.map encTBar)))]), (.c (iC 0))] _ _ [] _ _ _ _ ((show Fw.Fn Try.prog 104 [(.agg [(iC g.Points), (.pv (.xs false (g.Bars.map encTBar)))]), (.c (iC 0))] [] (.s (.c (.loc 24 0 r7.length))) [(24, (.prow 3 (r7.map encInt)))] [] [24] from Fw.Fn.ren [(0, 24)] (w_spec_ReachOf g 0 r7 hr7) rfl)) rfl cb104 (.cons (.agg (.cons (.same rfl) (.cons (.same rfl) .nil))) (.cons (.c (.same rfl)) .nil)) rfl rfl trivial) ⟨rfl, rfl, ⟨rfl, rfl⟩, trivial⟩ trivial ⟨_, rfl, .inl ⟨_, rfl, (by rw [hb6]; rfl)⟩⟩ rfl ?_
      refine AOD.pure (LT.lenLoc rfl und40) ⟨rfl, trivial⟩ trivial ⟨_, rfl, .inl ⟨_, rfl, (by rw [hb6]; rfl)⟩⟩ rfl ?_
      refine AOD.pure (LT.fieldPl rfl fo30_0) ⟨rfl, trivial⟩ trivial ⟨_, rfl, .inl ⟨_, rfl, (by rw [hb6]; rfl)⟩⟩ rfl ?_
      refine AOD.pure (LT.bload1 (c := (iC g.Points)) rfl ag3 (by exact rfl)) ⟨rfl, trivial⟩ ⟨rfl, trivial⟩ ⟨_, rfl, .inl ⟨_, rfl, (by rw [hb6]; rfl)⟩⟩ rfl ?_
      refine AOD.pure (LT.eql rfl) ⟨rfl, rfl, trivial⟩ trivial ⟨_, rfl, .inl ⟨_, rfl, (by rw [hb6]; rfl)⟩⟩ rfl ?_
      refine AOD.pure (LT.pickT (v := (.s (.c (bC ((r7.length : Int) == g.Points))))) rfl hb6) ⟨rfl, rfl, trivial⟩ trivial rfl rfl ?_
      refine AOD.pure (LT.assign (v := (.s (.c (bC ((r7.length : Int) == g.Points))))) rfl) ⟨rfl, trivial⟩ trivial rfl rfl ?_
      refine AOD.nil (by kernel_rfl) ?_
      refine AWR.nil ⟨rfl, Ent.of ⟨rfl, trivial⟩ trivial⟩
    · refine AOD.skip ⟨_, rfl, .inl ⟨_, rfl, (by rw [hb6]; rfl)⟩⟩ rfl ?_
      refine AOD.skip ⟨_, rfl, .inl ⟨_, rfl, (by rw [hb6]; rfl)⟩⟩ rfl ?_
      refine AOD.skip ⟨_, rfl, .inl ⟨_, rfl, (by rw [hb6]; rfl)⟩⟩ rfl ?_
      refine AOD.skip ⟨_, rfl, .inl ⟨_, rfl, (by rw [hb6]; rfl)⟩⟩ rfl ?_
      refine AOD.skip ⟨_, rfl, .inl ⟨_, rfl, (by rw [hb6]; rfl)⟩⟩ rfl ?_
      refine AOD.skip ⟨_, rfl, .inl ⟨_, rfl, (by rw [hb6]; rfl)⟩⟩ rfl ?_
      refine AOD.pure (LT.pickF (v := (.s (.c (bC false)))) rfl hb6) ⟨rfl, ⟨rfl, rfl⟩, trivial⟩ trivial rfl rfl ?_
      refine AOD.pure (LT.assign (v := (.s (.c (bC false)))) rfl) ⟨rfl, trivial⟩ trivial rfl rfl ?_
      refine AOD.nil (by kernel_rfl) ?_
      refine AWR.nil ⟨rfl, Ent.of ⟨rfl, trivial⟩ trivial⟩
  · refine AWR.ret (FPost.mk (.inr rfl) ⟨rfl, trivial⟩ trivial rfl ⟨PermP.sc, trivial⟩ trivial)
set_option maxRecDepth 100000 in
set_option maxHeartbeats 8000000 in
theorem w_spec_CutSets (g : TGraph) (k : Int) : ∀ t, m_spec_CutSets g k = some t → Fw.Fn Try.prog 85 [(.agg [(iC g.Points), (.pv (.xs false (g.Bars.map encTBar)))]), (.c (iC k))] [] (.s (.c (.loc 0 0 t.length))) [(0, (.prow 40 (t.map (encLInt true))))] [] [0] := by
  refine Fw.Fn.ofU (P := Try.prog) (X := [0]) (pn := []) (rs := (fun (t : (List (List Int))) => [(.c (.loc 0 0 t.length))])) (dfs := (fun (t : (List (List Int))) => [(0, (.prow 40 (t.map (encLInt true))))])) Try.func85 rfl Try.ntmps85 (Nat.le_of_ble_eq_true rfl) rfl ?_
  intro w0 U0 R0 g0 hU
  unfold m_spec_CutSets
  refine AWR.seq ?_
  refine AWR.region ?_
  refine AOR.step (LT.box (n := 21) (v := (.agg [(iC g.Points), (.pv (.xs false (g.Bars.map encTBar)))])) rfl sz30 (by exact rfl)) ⟨rfl, trivial⟩ trivial rfl rfl ?_
  refine AOR.pure (LT.assign (v := (.s (.c (sC nilV)))) rfl) ⟨⟨rfl, rfl⟩, trivial⟩ trivial rfl rfl ?_
  refine AOR.nil ?_
  refine AWR.seq ?_
  refine AWR.region ?_
  refine AOR.step (LT.tbuildSlice (n := 22) (enc := (encLInt true)) [] ([] : List (List Int)) rfl rfl und97 ti40 rfl rfl rfl rfl (by decide) (fun _ => rfl) rfl) trivial trivial rfl rfl ?_
  refine AOR.pure (LT.assign (v := (.s (.c (.loc 22 0 ([] : List (List Int)).length)))) rfl) ⟨rfl, trivial⟩ trivial rfl rfl ?_
  refine AOR.nil ?_
  refine AWR.seq ?_
  refine AWR.seq ?_
  refine AWR.joinK (fun j4 => ([(1, (.s (.c (iC k)))), (2, (.s (.c (.pl 21 0)))), (5, (.s (.c (.loc 22 0 ([] : List (List Int)).length)))), (16, (.s (.c (bC j4))))], [(21, (.row 30 [[(iC g.Points), (.pv (.xs false (g.Bars.map encTBar)))]])), (22, (.prow 40 (([] : List (List Int)).map (encLInt true))))])) ?_ (fun j4 _ => ?_)
  · refine AWR.region ?_
    refine AOR.pure (LT.bloadN (out := [(iC g.Points), (.pv (.xs false (g.Bars.map encTBar)))]) rfl ag30 (infS inf30) sz30 (by exact rfl) (by exact rfl)) ⟨rfl, trivial⟩ ⟨rfl, trivial⟩ rfl rfl ?_
    refine AOR.bind fun r5 hr5 => ?_
    refine AOR.pure (@LT.callF Try.prog _ _ 66 _ _ [(.agg [(iC g.Points), (.pv (.xs false (g.Bars.map encTBar)))])] _ _ [] _ _ _ _ (w_spec_IsGraph g r5 hr5) rfl cb66 (.cons (.agg (.cons (.same rfl) (.cons (.same rfl) .nil))) .nil) rfl rfl trivial) ⟨rfl, rfl, trivial⟩ trivial rfl rfl ?_
    refine AOR.pure (LT.not rfl) ⟨rfl, trivial⟩ trivial rfl rfl ?_
    refine AOR.pure (LT.move (v := (.s (.c (bC (!r5))))) rfl) ⟨rfl, trivial⟩ trivial rfl rfl ?_
    refine AOR.split (fun hb6 => ?_) (fun hb6 => ?_)
    · refine AOR.skip ⟨_, rfl, .inl ⟨_, rfl, (by rw [hb6]; rfl)⟩⟩ rfl ?_
      refine AOR.skip ⟨_, rfl, .inl ⟨_, rfl, (by rw [hb6]; rfl)⟩⟩ rfl ?_
      refine AOR.skip ⟨_, rfl, .inl ⟨_, rfl, (by rw [hb6]; rfl)⟩⟩ rfl ?_
      refine AOR.pure (LT.pickT (v := (.s (.c (bC true)))) rfl hb6) ⟨rfl, ⟨rfl, rfl⟩, trivial⟩ trivial rfl rfl ?_
      refine AOR.nil ?_
      refine AWR.nil ⟨rfl, Ent.of ⟨rfl, rfl, rfl, rfl, trivial⟩ ⟨rfl, rfl, trivial⟩⟩
    · refine AOR.pure (LT.move (v := (.s (.c (iC k)))) rfl) ⟨rfl, trivial⟩ trivial ⟨_, rfl, .inl ⟨_, rfl, (by rw [hb6]; rfl)⟩⟩ rfl ?_
      refine AOR.bind fun r7 hr7 => ?_
      refine AOR.pure (@LT.callF Try.prog _ _ 63 _ _ [(.c (iC k)), (.c (iC 0)), (.c (iC 3))] _ _ [] _ _ _ _ (w_spec_l1In k 0 3 r7 hr7) rfl cb63 (.cons (.c (.same rfl)) (.cons (.c (.same rfl)) (.cons (.c (.same rfl)) .nil))) rfl rfl trivial) ⟨rfl, rfl, ⟨rfl, rfl⟩, ⟨rfl, rfl⟩, trivial⟩ trivial ⟨_, rfl, .inl ⟨_, rfl, (by rw [hb6]; rfl)⟩⟩ rfl ?_
      refine AOR.pure (LT.not rfl) ⟨rfl, trivial⟩ trivial ⟨_, rfl, .inl ⟨_, rfl, (by rw [hb6]; rfl)⟩⟩ rfl ?_
      refine AOR.pure (LT.pickF (v := (.s (.c (bC (!r7))))) rfl hb6) ⟨rfl, rfl, trivial⟩ trivial rfl rfl ?_
      refine AOR.nil ?_
      refine AWR.nil ⟨rfl, Ent.of ⟨rfl, rfl, rfl, rfl, trivial⟩ ⟨rfl, rfl, trivial⟩⟩
  · refine AWR.cond rfl (fun hc8 => ?_) (fun hc8 => ?_)
    · refine AWR.seq ?_
      refine AWR.region ?_
      refine AOR.pure (LT.move (v := (.s (.c (.loc 22 0 ([] : List (List Int)).length)))) rfl) ⟨rfl, trivial⟩ trivial rfl rfl ?_
      refine AOR.pure (LT.assign (v := (.s (.c (.loc 22 0 ([] : List (List Int)).length)))) rfl) ⟨rfl, trivial⟩ trivial rfl rfl ?_
      refine AOR.nil ?_
      refine AWR.ent (Ent.of (σ' := [(4, (.s (.c (.loc 22 0 ([] : List (List Int)).length))))]) (m' := [(22, (.prow 40 (([] : List (List Int)).map (encLInt true))))]) ⟨rfl, trivial⟩ ⟨rfl, trivial⟩) ?_
      refine AWR.ent (Ent.mv 22 0 rfl rfl) ?_
      refine AWR.ent (Ent.of (σ' := [(4, (.s (.c (.loc 0 0 ([] : List (List Int)).length))))]) (m' := [(0, (.prow 40 (([] : List (List Int)).map (encLInt true))))]) ⟨rfl, trivial⟩ ⟨rfl, trivial⟩) ?_
      refine AWR.ret (FPost.mk (.inr rfl) ⟨rfl, trivial⟩ ⟨rfl, trivial⟩ rfl ⟨trivial, trivial⟩ ⟨PermO.prow' perm_encLInt, trivial⟩)
    · refine AWR.skip ?_
      refine AWR.seq ?_
      refine AWR.seq ?_
      refine AWR.region ?_
      refine AOR.pure (LT.assign (v := (.s (.c (iC 0)))) rfl) ⟨⟨rfl, rfl⟩, trivial⟩ trivial rfl rfl ?_
      refine AOR.nil ?_
      refine AWR.block ?_
      refine AWR.loop1 (id := 0) (m_spec_CutSets_L1 g k) (fun s9 => ([(1, (.s (.c (iC k)))), (2, (.s (.c (.pl 21 0)))), (5, (.s (.c (.loc 22 0 s9.2.length)))), (6, (.s (.c (iC s9.1))))], [(21, (.row 30 [[(iC g.Points), (.pv (.xs false (g.Bars.map encTBar)))]])), (22, (.prow 40 (s9.2.map (encLInt true))))])) (fun b44 => ([(5, (.s (.c (.loc 22 0 b44.length))))], [(22, (.prow 40 (b44.map (encLInt true))))])) ?_ (Ent.of ⟨rfl, rfl, rfl, rfl, trivial⟩ ⟨rfl, rfl, trivial⟩) rfl (fun b44 _ => ?_)
      · intro s9
        unfold m_spec_CutSets_L1
        refine AWR.seq ?_
        refine AWR.seq ?_
        refine AWR.region ?_
        refine AOR.pure (LT.move (v := (.s (.c (iC s9.1)))) rfl) ⟨rfl, trivial⟩ trivial rfl rfl ?_
        refine AOR.pure (LT.fieldPl rfl fo30_0) ⟨rfl, trivial⟩ trivial rfl rfl ?_
        refine AOR.pure (LT.bload1 (c := (iC g.Points)) rfl ag3 (by exact rfl)) ⟨rfl, trivial⟩ ⟨rfl, trivial⟩ rfl rfl ?_
        refine AOR.bind fun u45 hu45 => ?_
        refine AOR.pure (LT.shl rfl (nn_le hu45)) ⟨⟨rfl, rfl⟩, rfl, trivial⟩ trivial rfl rfl ?_
        refine AOR.pure (LT.lss rfl) ⟨rfl, rfl, trivial⟩ trivial rfl rfl ?_
        refine AOR.nil ?_
        refine AWR.cond rfl (fun hc46 => ?_) (fun hc46 => ?_)
        · refine AWR.skip ?_
          refine AWR.seq ?_
          refine AWR.block ?_
          refine AWR.seq ?_
          refine AWR.region ?_
          refine AOR.pure (LT.fieldPl rfl fo30_0) ⟨rfl, trivial⟩ trivial rfl rfl ?_
          refine AOR.pure (LT.bload1 (c := (iC g.Points)) rfl ag3 (by exact rfl)) ⟨rfl, trivial⟩ ⟨rfl, trivial⟩ rfl rfl ?_
          refine AOR.pure (LT.move (v := (.s (.c (iC s9.1)))) rfl) ⟨rfl, trivial⟩ trivial rfl rfl ?_
          refine AOR.bind fun r47 hr47 => ?_
          refine AOR.step (@LT.callF Try.prog _ _ 99 _ _ [(.c (iC g.Points)), (.c (iC s9.1))] _ _ [] _ _ _ _ ((show Fw.Fn Try.prog 99 [(.c (iC g.Points)), (.c (iC s9.1))] [] (.s (.c (.loc 26 0 r47.length))) [(26, (.prow 3 (r47.map encInt)))] [] [26] from Fw.Fn.ren [(0, 26)] (w_spec_l3Set g.Points s9.1 r47 hr47) rfl)) rfl cb99 (.cons (.c (.same rfl)) (.cons (.c (.same rfl)) .nil)) rfl rfl trivial) ⟨rfl, rfl, rfl, trivial⟩ trivial rfl rfl ?_
          refine AOR.pure (LT.assign (v := (.s (.c (.loc 26 0 r47.length)))) rfl) ⟨rfl, trivial⟩ trivial rfl rfl ?_
          refine AOR.nil ?_
          refine AWR.seq ?_
          refine AWR.joinK (fun j52 => ([(1, (.s (.c (iC k)))), (2, (.s (.c (.pl 21 0)))), (5, (.s (.c (.loc 22 0 s9.2.length)))), (6, (.s (.c (iC s9.1)))), (7, (.s (.c (.loc 26 0 r47.length)))), (46, (.s (.c (bC j52))))], [(21, (.row 30 [[(iC g.Points), (.pv (.xs false (g.Bars.map encTBar)))]])), (22, (.prow 40 (s9.2.map (encLInt true)))), (26, (.prow 3 (r47.map encInt)))])) ?_ (fun j52 _ => ?_)
          · refine AWR.ent (Ent.of (σ' := [(1, (.s (.c (iC k)))), (2, (.s (.c (.pl 21 0)))), (5, (.s (.c (.loc 22 0 s9.2.length)))), (6, (.s (.c (iC s9.1)))), (7, (.s (.c (.loc 26 0 r47.length))))]) (m' := [(21, (.row 30 [[(iC g.Points), (.pv (.xs false (g.Bars.map encTBar)))]])), (22, (.prow 40 (s9.2.map (encLInt true)))), (26, (.prow 3 (r47.map encInt)))]) ⟨rfl, rfl, rfl, rfl, rfl, trivial⟩ ⟨rfl, rfl, rfl, trivial⟩) ?_
            refine AWR.region ?_
            refine AOR.pure (LT.move (v := (.s (.c (.loc 26 0 r47.length)))) rfl) ⟨rfl, trivial⟩ trivial rfl rfl ?_
            refine AOR.pure (LT.lenLoc rfl und40) ⟨rfl, trivial⟩ trivial rfl rfl ?_
            refine AOR.pure (LT.move (v := (.s (.c (iC k)))) rfl) ⟨rfl, trivial⟩ trivial rfl rfl ?_
            refine AOR.pure (LT.eql rfl) ⟨rfl, rfl, trivial⟩ trivial rfl rfl ?_
            refine AOR.pure (LT.move (v := (.s (.c (bC ((r47.length : Int) == k))))) rfl) ⟨rfl, trivial⟩ trivial rfl rfl ?_
            refine AOR.split (fun hb53 => ?_) (fun hb53 => ?_)
            · refine AOR.pure (LT.fieldPl rfl fo30_0) ⟨rfl, trivial⟩ trivial ⟨_, rfl, .inl ⟨_, rfl, (by rw [hb53]; rfl)⟩⟩ rfl ?_
              refine AOR.pure (LT.bload1 (c := (iC g.Points)) rfl ag3 (by exact rfl)) ⟨rfl, trivial⟩ ⟨rfl, trivial⟩ ⟨_, rfl, .inl ⟨_, rfl, (by rw [hb53]; rfl)⟩⟩ rfl ?_
              refine AOR.pure (LT.move (v := (.s (.c (iC k)))) rfl) ⟨rfl, trivial⟩ trivial ⟨_, rfl, .inl ⟨_, rfl, (by rw [hb53]; rfl)⟩⟩ rfl ?_
              refine AOR.pure (LT.sub rfl) ⟨rfl, rfl, trivial⟩ trivial ⟨_, rfl, .inl ⟨_, rfl, (by rw [hb53]; rfl)⟩⟩ rfl ?_
              refine AOR.pure (LT.geq rfl) ⟨rfl, ⟨rfl, rfl⟩, trivial⟩ trivial ⟨_, rfl, .inl ⟨_, rfl, (by rw [hb53]; rfl)⟩⟩ rfl ?_
              refine AOR.pure (LT.pickT (v := (.s (.c (bC (decide (2 ≤ (w64 (g.Points - k)))))))) rfl hb53) ⟨rfl, rfl, trivial⟩ trivial rfl rfl ?_
              refine AOR.pure (LT.move (v := (.s (.c (bC (decide (2 ≤ (w64 (g.Points - k)))))))) rfl) ⟨rfl, trivial⟩ trivial rfl rfl ?_
              refine AOR.split (fun hb54 => ?_) (fun hb54 => ?_)
              · refine AOR.pure (LT.bloadN (out := [(iC g.Points), (.pv (.xs false (g.Bars.map encTBar)))]) rfl ag30 (infS inf30) sz30 (by exact rfl) (by exact rfl)) ⟨rfl, trivial⟩ ⟨rfl, trivial⟩ ⟨_, rfl, .inl ⟨_, rfl, (by rw [hb54]; rfl)⟩⟩ rfl ?_
                refine AOR.pure (LT.move (v := (.s (.c (.loc 26 0 r47.length)))) rfl) ⟨rfl, trivial⟩ trivial ⟨_, rfl, .inl ⟨_, rfl, (by rw [hb54]; rfl)⟩⟩ rfl ?_
                refine AOR.bind fun r55 hr55 => ?_
                refine AOR.step (@LT.callF Try.prog _ _ 29 _ _ [(.agg [(iC g.Points), (.pv (.xs false (g.Bars.map encTBar)))]), (.c (.loc 26 0 r47.length))] _ _ [(26, (.prow 3 (r47.map encInt)))] _ _ _ _ ((show Fw.Fn Try.prog 29 [(.agg [(iC g.Points), (.pv (.xs false (g.Bars.map encTBar)))]), (.c (.pv (.xs false (r47.map encInt))))] [] (.s (.agg [(iC r55.Points), (.loc 28 0 r55.Bars.length)])) [(28, (.prow 88 (r55.Bars.map encTBar)))] [] [28] from Fw.Fn.ren [(0, 28)] (w_spec_WithoutPoints g r47 r55 hr55) rfl)) rfl cb29 (.cons (.agg (.cons (.same rfl) (.cons (.same rfl) .nil))) (.cons (.c (.tloc rfl rfl)) .nil)) rfl rfl trivial) ⟨rfl, rfl, rfl, trivial⟩ ⟨rfl, trivial⟩ ⟨_, rfl, .inl ⟨_, rfl, (by rw [hb54]; rfl)⟩⟩ rfl ?_
                refine AOR.bind fun r56 hr56 => ?_
                refine AOR.pure (@LT.callF Try.prog _ _ 100 _ _ [(.agg [(iC r55.Points), (.loc 28 0 r55.Bars.length)])] _ _ [(28, (.prow 88 (r55.Bars.map encTBar)))] _ _ _ _ (w_spec_IsConnected r55 r56 hr56) rfl cb100 (.cons (.agg (.cons (.same rfl) (.cons (.tloc rfl rfl) .nil))) .nil) rfl rfl trivial) ⟨rfl, rfl, trivial⟩ ⟨rfl, trivial⟩ ⟨_, rfl, .inl ⟨_, rfl, (by rw [hb54]; rfl)⟩⟩ rfl ?_
                refine AOR.pure (LT.not rfl) ⟨rfl, trivial⟩ trivial ⟨_, rfl, .inl ⟨_, rfl, (by rw [hb54]; rfl)⟩⟩ rfl ?_
                refine AOR.pure (LT.pickT (v := (.s (.c (bC (!r56))))) rfl hb54) ⟨rfl, rfl, trivial⟩ trivial rfl rfl ?_
                refine AOR.nil ?_
                refine AWR.nil ⟨rfl, Ent.of ⟨rfl, rfl, rfl, rfl, rfl, rfl, trivial⟩ ⟨rfl, rfl, rfl, trivial⟩⟩
              · refine AOR.skip ⟨_, rfl, .inl ⟨_, rfl, (by rw [hb54]; rfl)⟩⟩ rfl ?_
                refine AOR.skip ⟨_, rfl, .inl ⟨_, rfl, (by rw [hb54]; rfl)⟩⟩ rfl ?_
                refine AOR.skip ⟨_, rfl, .inl ⟨_, rfl, (by rw [hb54]; rfl)⟩⟩ rfl ?_
                refine AOR.skip ⟨_, rfl, .inl ⟨_, rfl, (by rw [hb54]; rfl)⟩⟩ rfl ?_
                refine AOR.skip ⟨_, rfl, .inl ⟨_, rfl, (by rw [hb54]; rfl)⟩⟩ rfl ?_
                refine AOR.pure (LT.pickF (v := (.s (.c (bC false)))) rfl hb54) ⟨rfl, ⟨rfl, rfl⟩, trivial⟩ trivial rfl rfl ?_
                refine AOR.nil ?_
                refine AWR.nil ⟨rfl, Ent.of ⟨rfl, rfl, rfl, rfl, rfl, rfl, trivial⟩ ⟨rfl, rfl, rfl, trivial⟩⟩
            · refine AOR.skip ⟨_, rfl, .inl ⟨_, rfl, (by rw [hb53]; rfl)⟩⟩ rfl ?_
              refine AOR.skip ⟨_, rfl, .inl ⟨_, rfl, (by rw [hb53]; rfl)⟩⟩ rfl ?_
              refine AOR.skip ⟨_, rfl, .inl ⟨_, rfl, (by rw [hb53]; rfl)⟩⟩ rfl ?_
              refine AOR.skip ⟨_, rfl, .inl ⟨_, rfl, (by rw [hb53]; rfl)⟩⟩ rfl ?_
              refine AOR.skip ⟨_, rfl, .inl ⟨_, rfl, (by rw [hb53]; rfl)⟩⟩ rfl ?_
              refine AOR.pure (LT.pickF (v := (.s (.c (bC false)))) rfl hb53) ⟨rfl, ⟨rfl, rfl⟩, trivial⟩ trivial rfl rfl ?_
              refine AOR.pure (LT.move (v := (.s (.c (bC false)))) rfl) ⟨rfl, trivial⟩ trivial rfl rfl ?_
              refine AOR.skip ⟨_, rfl, .inl ⟨_, rfl, rfl⟩⟩ rfl ?_
              refine AOR.skip ⟨_, rfl, .inl ⟨_, rfl, rfl⟩⟩ rfl ?_
              refine AOR.skip ⟨_, rfl, .inl ⟨_, rfl, rfl⟩⟩ rfl ?_
              refine AOR.skip ⟨_, rfl, .inl ⟨_, rfl, rfl⟩⟩ rfl ?_
              refine AOR.skip ⟨_, rfl, .inl ⟨_, rfl, rfl⟩⟩ rfl ?_
              refine AOR.pure (LT.pickF (v := (.s (.c (bC false)))) rfl rfl) ⟨rfl, ⟨rfl, rfl⟩, trivial⟩ trivial rfl rfl ?_
              refine AOR.nil ?_
              refine AWR.nil ⟨rfl, Ent.of ⟨rfl, rfl, rfl, rfl, rfl, rfl, trivial⟩ ⟨rfl, rfl, rfl, trivial⟩⟩
          · refine AWR.joinK (fun j59 => ([(1, (.s (.c (iC k)))), (2, (.s (.c (.pl 21 0)))), (5, (.s (.c (.loc 22 0 j59.length)))), (6, (.s (.c (iC s9.1))))], [(21, (.row 30 [[(iC g.Points), (.pv (.xs false (g.Bars.map encTBar)))]])), (22, (.prow 40 (j59.map (encLInt true))))])) ?_ (fun j59 _ => ?_)
            · refine AWR.cond rfl (fun hc60 => ?_) (fun hc60 => ?_)
              · refine AWR.region ?_
                refine AOR.pure (LT.move (v := (.s (.c (.loc 22 0 s9.2.length)))) rfl) ⟨rfl, trivial⟩ trivial rfl rfl ?_
                refine AOR.pure (LT.move (v := (.s (.c (.loc 26 0 r47.length)))) rfl) ⟨rfl, trivial⟩ trivial rfl rfl ?_
                refine AOR.ent (Ent.freezeS (enc := encInt) 48 26 hU rfl rfl rfl rfl) ?_
                refine AOR.step (LT.tbuildSlice (n := 30) (enc := (encLInt true)) [(0, .tmp 48, (.c (.pv (.xs true (r47.map encInt)))))] [r47] rfl rfl und97 ti40 rfl rfl rfl rfl (by decide) (fun _ => rfl) rfl) ⟨rfl, trivial⟩ trivial rfl rfl ?_
                refine AOR.bind fun u61 hu61 => ?_
                refine AOR.step (LT.tappP (enc := (encLInt true)) rfl rfl rfl und97 ti40 rfl (by decide) (by decide) (fun _ => rfl) (lim_le hu61)) ⟨rfl, rfl, trivial⟩ ⟨rfl, rfl, trivial⟩ rfl rfl ?_
                refine AOR.pure (LT.assign (v := (.s (.c (.loc 22 0 (s9.2 ++ [r47]).length)))) rfl) ⟨rfl, trivial⟩ trivial rfl rfl ?_
                refine AOR.nil ?_
                refine AWR.nil ⟨rfl, Ent.of ⟨rfl, rfl, rfl, rfl, trivial⟩ ⟨rfl, rfl, trivial⟩⟩
              · refine AWR.skip ?_
                refine AWR.nil ⟨rfl, Ent.of ⟨rfl, rfl, rfl, rfl, trivial⟩ ⟨rfl, rfl, trivial⟩⟩
            · refine AWR.blk ?_
              refine AWR.region ?_
              refine AOR.pure (LT.move (v := (.s (.c (iC s9.1)))) rfl) ⟨rfl, trivial⟩ trivial rfl rfl ?_
              refine AOR.pure (LT.add rfl) ⟨rfl, ⟨rfl, rfl⟩, trivial⟩ trivial rfl rfl ?_
              refine AOR.pure (LT.assign (v := (.s (.c (iC (w64 (s9.1 + 1)))))) rfl) ⟨rfl, trivial⟩ trivial rfl rfl ?_
              refine AOR.nil ?_
              refine AWR.nil ⟨rfl, Ent.of ⟨rfl, rfl, rfl, rfl, trivial⟩ ⟨rfl, rfl, trivial⟩⟩
        · refine AWR.exit_end rfl ⟨rfl, Ent.of ⟨rfl, trivial⟩ ⟨rfl, trivial⟩⟩
      · refine AWR.seq ?_
        refine AWR.region ?_
        refine AOR.pure (LT.move (v := (.s (.c (.loc 22 0 b44.length)))) rfl) ⟨rfl, trivial⟩ trivial rfl rfl ?_
        refine AOR.pure (LT.assign (v := (.s (.c (.loc 22 0 b44.length)))) rfl) ⟨rfl, trivial⟩ trivial rfl rfl ?_
        refine AOR.nil ?_
        refine AWR.ent (Ent.of (σ' := [(4, (.s (.c (.loc 22 0 b44.length))))]) (m' := [(22, (.prow 40 (b44.map (encLInt true))))]) ⟨rfl, trivial⟩ ⟨rfl, trivial⟩) ?_
        refine AWR.ent (Ent.mv 22 0 rfl rfl) ?_
        refine AWR.ent (Ent.of (σ' := [(4, (.s (.c (.loc 0 0 b44.length))))]) (m' := [(0, (.prow 40 (b44.map (encLInt true))))]) ⟨rfl, trivial⟩ ⟨rfl, trivial⟩) ?_
        refine AWR.ret (FPost.mk (.inr rfl) ⟨rfl, trivial⟩ ⟨rfl, trivial⟩ rfl ⟨trivial, trivial⟩ ⟨PermO.prow' perm_encLInt, trivial⟩)
set_option maxRecDepth 100000 in
set_option maxHeartbeats 8000000 in
theorem w_spec_IsKConnected (g : TGraph) (k : Int) : ∀ t, m_spec_IsKConnected g k = some t → Fw.Fn Try.prog 53 [(.agg [(iC g.Points), (.pv (.xs false (g.Bars.map encTBar)))]), (.c (iC k))] [] (.s (.c (bC t))) [] [] [] := by
  refine Fw.Fn.of (P := Try.prog) (X := []) (pn := []) (rs := (fun (t : Bool) => [(.c (bC t))])) (dfs := (fun (t : Bool) => [])) Try.func53 rfl Try.ntmps53 (Nat.le_of_ble_eq_true rfl) rfl ?_
  intro w0 U0 R0 g0
  unfold m_spec_IsKConnected
  refine AWR.seq ?_
  refine AWR.region ?_
  refine AOR.step (LT.box (n := 21) (v := (.agg [(iC g.Points), (.pv (.xs false (g.Bars.map encTBar)))])) rfl sz30 (by exact rfl)) ⟨rfl, trivial⟩ trivial rfl rfl ?_
  refine AOR.pure (LT.assign (v := (.s (.c (bC false)))) rfl) ⟨⟨rfl, rfl⟩, trivial⟩ trivial rfl rfl ?_
  refine AOR.nil ?_
  refine AWR.seq ?_
  refine AWR.seq ?_
  refine AWR.joinK (fun j5 => ([(1, (.s (.c (iC k)))), (2, (.s (.c (.pl 21 0)))), (19, (.s (.c (bC j5))))], [(21, (.row 30 [[(iC g.Points), (.pv (.xs false (g.Bars.map encTBar)))]]))])) ?_ (fun j5 _ => ?_)
  · refine AWR.region ?_
    refine AOR.pure (LT.bloadN (out := [(iC g.Points), (.pv (.xs false (g.Bars.map encTBar)))]) rfl ag30 (infS inf30) sz30 (by exact rfl) (by exact rfl)) ⟨rfl, trivial⟩ ⟨rfl, trivial⟩ rfl rfl ?_
    refine AOR.bind fun r6 hr6 => ?_
    refine AOR.pure (@LT.callF Try.prog _ _ 66 _ _ [(.agg [(iC g.Points), (.pv (.xs false (g.Bars.map encTBar)))])] _ _ [] _ _ _ _ (w_spec_IsGraph g r6 hr6) rfl cb66 (.cons (.agg (.cons (.same rfl) (.cons (.same rfl) .nil))) .nil) rfl rfl trivial) ⟨rfl, rfl, trivial⟩ trivial rfl rfl ?_
    refine AOR.pure (LT.not rfl) ⟨rfl, trivial⟩ trivial rfl rfl ?_
    refine AOR.pure (LT.move (v := (.s (.c (bC (!r6))))) rfl) ⟨rfl, trivial⟩ trivial rfl rfl ?_
    refine AOR.split (fun hb7 => ?_) (fun hb7 => ?_)
    · refine AOR.skip ⟨_, rfl, .inl ⟨_, rfl, (by rw [hb7]; rfl)⟩⟩ rfl ?_
      refine AOR.skip ⟨_, rfl, .inl ⟨_, rfl, (by rw [hb7]; rfl)⟩⟩ rfl ?_
      refine AOR.skip ⟨_, rfl, .inl ⟨_, rfl, (by rw [hb7]; rfl)⟩⟩ rfl ?_
      refine AOR.pure (LT.pickT (v := (.s (.c (bC true)))) rfl hb7) ⟨rfl, ⟨rfl, rfl⟩, trivial⟩ trivial rfl rfl ?_
      refine AOR.pure (LT.move (v := (.s (.c (bC true)))) rfl) ⟨rfl, trivial⟩ trivial rfl rfl ?_
      refine AOR.skip ⟨_, rfl, .inl ⟨_, rfl, rfl⟩⟩ rfl ?_
      refine AOR.skip ⟨_, rfl, .inl ⟨_, rfl, rfl⟩⟩ rfl ?_
      refine AOR.skip ⟨_, rfl, .inl ⟨_, rfl, rfl⟩⟩ rfl ?_
      refine AOR.skip ⟨_, rfl, .inl ⟨_, rfl, rfl⟩⟩ rfl ?_
      refine AOR.pure (LT.pickT (v := (.s (.c (bC true)))) rfl rfl) ⟨rfl, ⟨rfl, rfl⟩, trivial⟩ trivial rfl rfl ?_
      refine AOR.nil ?_
      refine AWR.nil ⟨rfl, Ent.of ⟨rfl, rfl, rfl, trivial⟩ ⟨rfl, trivial⟩⟩
    · refine AOR.pure (LT.move (v := (.s (.c (iC k)))) rfl) ⟨rfl, trivial⟩ trivial ⟨_, rfl, .inl ⟨_, rfl, (by rw [hb7]; rfl)⟩⟩ rfl ?_
      refine AOR.bind fun r8 hr8 => ?_
      refine AOR.pure (@LT.callF Try.prog _ _ 63 _ _ [(.c (iC k)), (.c (iC 1)), (.c (iC 3))] _ _ [] _ _ _ _ (w_spec_l1In k 1 3 r8 hr8) rfl cb63 (.cons (.c (.same rfl)) (.cons (.c (.same rfl)) (.cons (.c (.same rfl)) .nil))) rfl rfl trivial) ⟨rfl, rfl, ⟨rfl, rfl⟩, ⟨rfl, rfl⟩, trivial⟩ trivial ⟨_, rfl, .inl ⟨_, rfl, (by rw [hb7]; rfl)⟩⟩ rfl ?_
      refine AOR.pure (LT.not rfl) ⟨rfl, trivial⟩ trivial ⟨_, rfl, .inl ⟨_, rfl, (by rw [hb7]; rfl)⟩⟩ rfl ?_
      refine AOR.pure (LT.pickF (v := (.s (.c (bC (!r8))))) rfl hb7) ⟨rfl, rfl, trivial⟩ trivial rfl rfl ?_
      refine AOR.pure (LT.move (v := (.s (.c (bC (!r8))))) rfl) ⟨rfl, trivial⟩ trivial rfl rfl ?_
      refine AOR.split (fun hb9 => ?_) (fun hb9 => ?_)
      · refine AOR.skip ⟨_, rfl, .inl ⟨_, rfl, (by rw [hb9]; rfl)⟩⟩ rfl ?_
        refine AOR.skip ⟨_, rfl, .inl ⟨_, rfl, (by rw [hb9]; rfl)⟩⟩ rfl ?_
        refine AOR.skip ⟨_, rfl, .inl ⟨_, rfl, (by rw [hb9]; rfl)⟩⟩ rfl ?_
        refine AOR.skip ⟨_, rfl, .inl ⟨_, rfl, (by rw [hb9]; rfl)⟩⟩ rfl ?_
        refine AOR.pure (LT.pickT (v := (.s (.c (bC true)))) rfl hb9) ⟨rfl, ⟨rfl, rfl⟩, trivial⟩ trivial rfl rfl ?_
        refine AOR.nil ?_
        refine AWR.nil ⟨rfl, Ent.of ⟨rfl, rfl, rfl, trivial⟩ ⟨rfl, trivial⟩⟩
      · refine AOR.pure (LT.fieldPl rfl fo30_0) ⟨rfl, trivial⟩ trivial ⟨_, rfl, .inl ⟨_, rfl, (by rw [hb9]; rfl)⟩⟩ rfl ?_
        refine AOR.pure (LT.bload1 (c := (iC g.Points)) rfl ag3 (by exact rfl)) ⟨rfl, trivial⟩ ⟨rfl, trivial⟩ ⟨_, rfl, .inl ⟨_, rfl, (by rw [hb9]; rfl)⟩⟩ rfl ?_
        refine AOR.pure (LT.move (v := (.s (.c (iC k)))) rfl) ⟨rfl, trivial⟩ trivial ⟨_, rfl, .inl ⟨_, rfl, (by rw [hb9]; rfl)⟩⟩ rfl ?_
        refine AOR.pure (LT.leq rfl) ⟨rfl, rfl, trivial⟩ trivial ⟨_, rfl, .inl ⟨_, rfl, (by rw [hb9]; rfl)⟩⟩ rfl ?_
        refine AOR.pure (LT.pickF (v := (.s (.c (bC (decide (g.Points ≤ k)))))) rfl hb9) ⟨rfl, rfl, trivial⟩ trivial rfl rfl ?_
        refine AOR.nil ?_
        refine AWR.nil ⟨rfl, Ent.of ⟨rfl, rfl, rfl, trivial⟩ ⟨rfl, trivial⟩⟩
  · refine AWR.cond rfl (fun hc10 => ?_) (fun hc10 => ?_)
    · refine AWR.seq ?_
      refine AWR.region ?_
      refine AOR.pure (LT.assign (v := (.s (.c (bC false)))) rfl) ⟨⟨rfl, rfl⟩, trivial⟩ trivial rfl rfl ?_
      refine AOR.nil ?_
      refine AWR.ret (FPost.mk (.inr rfl) ⟨rfl, trivial⟩ trivial rfl ⟨PermP.sc, trivial⟩ trivial)
    · refine AWR.skip ?_
      refine AWR.seq ?_
      refine AWR.seq ?_
      refine AWR.region ?_
      refine AOR.pure (LT.assign (v := (.s (.c (iC 0)))) rfl) ⟨⟨rfl, rfl⟩, trivial⟩ trivial rfl rfl ?_
      refine AOR.nil ?_
      refine AWR.block ?_
      refine AWR.loopR (id := 0) (m_spec_IsKConnected_L1 g k) (fun s11 => ([(1, (.s (.c (iC k)))), (2, (.s (.c (.pl 21 0)))), (5, (.s (.c (iC s11))))], [(21, (.row 30 [[(iC g.Points), (.pv (.xs false (g.Bars.map encTBar)))]]))])) (fun b18 => ([], [])) (FPost Try.prog Try.f53.results.toList [] [] (fun (t : Bool) => [(.c (bC t))]) (fun (t : Bool) => [])) ?_ (Ent.of ⟨rfl, rfl, rfl, trivial⟩ ⟨rfl, trivial⟩) rfl (fun b18 _ => ?_) (by intro r t σ m ht hk; injection ht with ht; subst ht; exact hk)
      · intro s11
        unfold m_spec_IsKConnected_L1
        refine AWR.seq ?_
        refine AWR.seq ?_
        refine AWR.region ?_
        refine AOR.pure (LT.move (v := (.s (.c (iC s11)))) rfl) ⟨rfl, trivial⟩ trivial rfl rfl ?_
        refine AOR.pure (LT.move (v := (.s (.c (iC k)))) rfl) ⟨rfl, trivial⟩ trivial rfl rfl ?_
        refine AOR.pure (LT.lss rfl) ⟨rfl, rfl, trivial⟩ trivial rfl rfl ?_
        refine AOR.nil ?_
        refine AWR.cond rfl (fun hc19 => ?_) (fun hc19 => ?_)
        · refine AWR.skip ?_
          refine AWR.seq ?_
          refine AWR.block ?_
          refine AWR.seq ?_
          refine AWR.region ?_
          refine AOR.pure (LT.bloadN (out := [(iC g.Points), (.pv (.xs false (g.Bars.map encTBar)))]) rfl ag30 (infS inf30) sz30 (by exact rfl) (by exact rfl)) ⟨rfl, trivial⟩ ⟨rfl, trivial⟩ rfl rfl ?_
          refine AOR.pure (LT.move (v := (.s (.c (iC s11)))) rfl) ⟨rfl, trivial⟩ trivial rfl rfl ?_
          refine AOR.bind fun r20 hr20 => ?_
          refine AOR.step (@LT.callF Try.prog _ _ 85 _ _ [(.agg [(iC g.Points), (.pv (.xs false (g.Bars.map encTBar)))]), (.c (iC s11))] _ _ [] _ _ _ _ ((show Fw.Fn Try.prog 85 [(.agg [(iC g.Points), (.pv (.xs false (g.Bars.map encTBar)))]), (.c (iC s11))] [] (.s (.c (.loc 25 0 r20.length))) [(25, (.prow 40 (r20.map (encLInt true))))] [] [25] from Fw.Fn.ren [(0, 25)] (w_spec_CutSets g s11 r20 hr20) rfl)) rfl cb85 (.cons (.agg (.cons (.same rfl) (.cons (.same rfl) .nil))) (.cons (.c (.same rfl)) .nil)) rfl rfl trivial) ⟨rfl, rfl, rfl, trivial⟩ trivial rfl rfl ?_
          refine AOR.pure (LT.lenLoc rfl und97) ⟨rfl, trivial⟩ trivial rfl rfl ?_
          refine AOR.pure (LT.gtr rfl) ⟨rfl, ⟨rfl, rfl⟩, trivial⟩ trivial rfl rfl ?_
          refine AOR.nil ?_
          refine AWR.cond rfl (fun hc21 => ?_) (fun hc21 => ?_)
          · refine AWR.seq ?_
            refine AWR.region ?_
            refine AOR.pure (LT.assign (v := (.s (.c (bC false)))) rfl) ⟨⟨rfl, rfl⟩, trivial⟩ trivial rfl rfl ?_
            refine AOR.nil ?_
            refine AWR.ret ⟨rfl, FPost.mk (.inr rfl) ⟨rfl, trivial⟩ trivial rfl ⟨PermP.sc, trivial⟩ trivial⟩
          · refine AWR.skip ?_
            refine AWR.blk ?_
            refine AWR.region ?_
            refine AOR.pure (LT.move (v := (.s (.c (iC s11)))) rfl) ⟨rfl, trivial⟩ trivial rfl rfl ?_
            refine AOR.pure (LT.add rfl) ⟨rfl, ⟨rfl, rfl⟩, trivial⟩ trivial rfl rfl ?_
            refine AOR.pure (LT.assign (v := (.s (.c (iC (w64 (s11 + 1)))))) rfl) ⟨rfl, trivial⟩ trivial rfl rfl ?_
            refine AOR.nil ?_
            refine AWR.nil ⟨rfl, Ent.of ⟨rfl, rfl, rfl, trivial⟩ ⟨rfl, trivial⟩⟩
        · refine AWR.exit_end rfl ⟨rfl, Ent.of trivial trivial⟩
      · refine AWR.seq ?_
        refine AWR.region ?_
        refine AOR.pure (LT.assign (v := (.s (.c (bC true)))) rfl) ⟨⟨rfl, rfl⟩, trivial⟩ trivial rfl rfl ?_
        refine AOR.nil ?_
        refine AWR.ret (FPost.mk (.inr rfl) ⟨rfl, trivial⟩ trivial rfl ⟨PermP.sc, trivial⟩ trivial)
set_option maxRecDepth 100000 in
set_option maxHeartbeats 8000000 in
theorem w_impl_setOf (mask : Int) (n : Int) : ∀ t, m_impl_setOf mask n = some t → Fw.Fn Try.prog 101 [(.c (iC mask)), (.c (iC n))] [] (.s (.c (.loc 0 0 t.length))) [(0, (.prow 3 (t.map encInt)))] [] [0] := by
  refine Fw.Fn.of (P := Try.prog) (X := [0]) (pn := []) (rs := (fun (t : (List Int)) => [(.c (.loc 0 0 t.length))])) (dfs := (fun (t : (List Int)) => [(0, (.prow 3 (t.map encInt)))])) Try.func101 rfl Try.ntmps101 (Nat.le_of_ble_eq_true rfl) rfl ?_
  intro w0 U0 R0 g0
  unfold m_impl_setOf
  refine AWR.seq ?_
  refine AWR.region ?_
  refine AOR.pure (LT.assign (v := (.s (.c (sC nilV)))) rfl) ⟨⟨rfl, rfl⟩, trivial⟩ trivial rfl rfl ?_
  refine AOR.nil ?_
  refine AWR.seq ?_
  refine AWR.region ?_
  refine AOR.step (LT.tbuildSlice (n := 21) (enc := encInt) [] ([] : List Int) rfl rfl und40 ti3 rfl rfl rfl rfl (by decide) (fun _ => rfl) rfl) trivial trivial rfl rfl ?_
  refine AOR.pure (LT.assign (v := (.s (.c (.loc 21 0 ([] : List Int).length)))) rfl) ⟨rfl, trivial⟩ trivial rfl rfl ?_
  refine AOR.nil ?_
  refine AWR.seq ?_
  refine AWR.seq ?_
  refine AWR.region ?_
  refine AOR.pure (LT.move (v := (.s (.c (iC n)))) rfl) ⟨rfl, trivial⟩ trivial rfl rfl ?_
  refine AOR.pure (LT.move (v := (.s (.c (iC 0)))) rfl) ⟨⟨rfl, rfl⟩, trivial⟩ trivial rfl rfl ?_
  refine AOR.nil ?_
  refine AWR.block ?_
  refine AWR.loop1 (id := 0) (m_impl_setOf_L1 mask n) (fun s1 => ([(0, (.s (.c (iC mask)))), (5, (.s (.c (.loc 21 0 s1.2.length)))), (8, (.s (.c (iC n)))), (9, (.s (.c (iC s1.1))))], [(21, (.prow 3 (s1.2.map encInt)))])) (fun b15 => ([(5, (.s (.c (.loc 21 0 b15.length))))], [(21, (.prow 3 (b15.map encInt)))])) ?_ (Ent.of ⟨rfl, rfl, rfl, rfl, trivial⟩ ⟨rfl, trivial⟩) rfl (fun b15 _ => ?_)
  · intro s1
    unfold m_impl_setOf_L1
    refine AWR.seq ?_
    refine AWR.region ?_
    refine AOR.pure (LT.lss rfl) ⟨rfl, rfl, trivial⟩ trivial rfl rfl ?_
    refine AOR.nil ?_
    refine AWR.seq ?_
    refine AWR.cond rfl (fun hc16 => ?_) (fun hc16 => ?_)
    · refine AWR.skip ?_
      refine AWR.seq ?_
      refine AWR.block ?_
      refine AWR.seq ?_
      refine AWR.region ?_
      refine AOR.pure (LT.move (v := (.s (.c (iC s1.1)))) rfl) ⟨rfl, trivial⟩ trivial rfl rfl ?_
      refine AOR.pure (LT.assign (v := (.s (.c (iC s1.1)))) rfl) ⟨rfl, trivial⟩ trivial rfl rfl ?_
      refine AOR.nil ?_
      refine AWR.seq ?_
      refine AWR.region ?_
      refine AOR.pure (LT.move (v := (.s (.c (iC mask)))) rfl) ⟨rfl, trivial⟩ trivial rfl rfl ?_
      refine AOR.pure (LT.move (v := (.s (.c (iC s1.1)))) rfl) ⟨rfl, trivial⟩ trivial rfl rfl ?_
      refine AOR.bind fun u17 hu17 => ?_
      refine AOR.pure (LT.shr rfl (nn_le hu17)) ⟨rfl, rfl, trivial⟩ trivial rfl rfl ?_
      refine AOR.pure (LT.and rfl) ⟨rfl, ⟨rfl, rfl⟩, trivial⟩ trivial rfl rfl ?_
      refine AOR.pure (LT.eql rfl) ⟨rfl, ⟨rfl, rfl⟩, trivial⟩ trivial rfl rfl ?_
      refine AOR.nil ?_
      refine AWR.joinK (fun j20 => ([(0, (.s (.c (iC mask)))), (5, (.s (.c (.loc 21 0 j20.length)))), (8, (.s (.c (iC n)))), (9, (.s (.c (iC s1.1))))], [(21, (.prow 3 (j20.map encInt)))])) ?_ (fun j20 _ => ?_)
      · refine AWR.cond rfl (fun hc21 => ?_) (fun hc21 => ?_)
        · refine AWR.region ?_
          refine AOR.pure (LT.move (v := (.s (.c (.loc 21 0 s1.2.length)))) rfl) ⟨rfl, trivial⟩ trivial rfl rfl ?_
          refine AOR.pure (LT.move (v := (.s (.c (iC s1.1)))) rfl) ⟨rfl, trivial⟩ trivial rfl rfl ?_
          refine AOR.step (LT.tbuildSlice (n := 22) (enc := encInt) [(0, .tmp 18, (.c (iC s1.1)))] ([s1.1] : List Int) rfl rfl und40 ti3 rfl rfl rfl rfl (by decide) (fun _ => rfl) rfl) ⟨rfl, trivial⟩ trivial rfl rfl ?_
          refine AOR.bind fun u22 hu22 => ?_
          refine AOR.step (LT.tappP (enc := encInt) rfl rfl rfl und40 ti3 rfl (by decide) (by decide) (fun _ => rfl) (lim_le hu22)) ⟨rfl, rfl, trivial⟩ ⟨rfl, rfl, trivial⟩ rfl rfl ?_
          refine AOR.pure (LT.assign (v := (.s (.c (.loc 21 0 (s1.2 ++ ([s1.1] : List Int)).length)))) rfl) ⟨rfl, trivial⟩ trivial rfl rfl ?_
          refine AOR.nil ?_
          refine AWR.nil ⟨rfl, Ent.of ⟨rfl, rfl, rfl, rfl, trivial⟩ ⟨rfl, trivial⟩⟩
        · refine AWR.skip ?_
          refine AWR.nil ⟨rfl, Ent.of ⟨rfl, rfl, rfl, rfl, trivial⟩ ⟨rfl, trivial⟩⟩
      · refine AWR.blk ?_
        refine AWR.region ?_
        refine AOR.pure (LT.add rfl) ⟨rfl, ⟨rfl, rfl⟩, trivial⟩ trivial rfl rfl ?_
        refine AOR.pure (LT.move (v := (.s (.c (iC (w64 (s1.1 + 1)))))) rfl) ⟨rfl, trivial⟩ trivial rfl rfl ?_
        refine AOR.nil ?_
        refine AWR.nil ⟨rfl, Ent.of ⟨rfl, rfl, rfl, rfl, trivial⟩ ⟨rfl, trivial⟩⟩
    · refine AWR.exit_end rfl ⟨rfl, Ent.of ⟨rfl, trivial⟩ ⟨rfl, trivial⟩⟩
  · refine AWR.seq ?_
    refine AWR.region ?_
    refine AOR.pure (LT.move (v := (.s (.c (.loc 21 0 b15.length)))) rfl) ⟨rfl, trivial⟩ trivial rfl rfl ?_
    refine AOR.pure (LT.assign (v := (.s (.c (.loc 21 0 b15.length)))) rfl) ⟨rfl, trivial⟩ trivial rfl rfl ?_
    refine AOR.nil ?_
    refine AWR.ent (Ent.of (σ' := [(4, (.s (.c (.loc 21 0 b15.length))))]) (m' := [(21, (.prow 3 (b15.map encInt)))]) ⟨rfl, trivial⟩ ⟨rfl, trivial⟩) ?_
    refine AWR.ent (Ent.mv 21 0 rfl rfl) ?_
    refine AWR.ent (Ent.of (σ' := [(4, (.s (.c (.loc 0 0 b15.length))))]) (m' := [(0, (.prow 3 (b15.map encInt)))]) ⟨rfl, trivial⟩ ⟨rfl, trivial⟩) ?_
    refine AWR.ret (FPost.mk (.inr rfl) ⟨rfl, trivial⟩ ⟨rfl, trivial⟩ rfl ⟨trivial, trivial⟩ ⟨PermO.prow' perm_encInt, trivial⟩)
set_option maxRecDepth 100000 in
set_option maxHeartbeats 8000000 in
theorem w_impl_Graph_reach (g : TGraph) (v : Int) : ∀ t, m_impl_Graph_reach g v = some t → Fw.Fn Try.prog 106 [(.agg [(iC g.Points), (.pv (.xs false (g.Bars.map encTBar)))]), (.c (iC v))] [] (.s (.c (.loc 0 0 t.length))) [(0, (.prow 4 (t.map encBool)))] [] [0] := by
  refine Fw.Fn.of (P := Try.prog) (X := [0]) (pn := []) (rs := (fun (t : (List Bool)) => [(.c (.loc 0 0 t.length))])) (dfs := (fun (t : (List Bool)) => [(0, (.prow 4 (t.map encBool)))])) Try.func106 rfl Try.ntmps106 (Nat.le_of_ble_eq_true rfl) rfl ?_
  intro w0 U0 R0 g0
  unfold m_impl_Graph_reach
  refine AWR.seq ?_
  refine AWR.region ?_
  refine AOR.step (LT.box (n := 21) (v := (.agg [(iC g.Points), (.pv (.xs false (g.Bars.map encTBar)))])) rfl sz30 (by exact rfl)) ⟨rfl, trivial⟩ trivial rfl rfl ?_
  refine AOR.pure (LT.assign (v := (.s (.c (sC nilV)))) rfl) ⟨⟨rfl, rfl⟩, trivial⟩ trivial rfl rfl ?_
  refine AOR.nil ?_
  refine AWR.seq ?_
  refine AWR.region ?_
  refine AOR.pure (LT.fieldPl rfl fo30_0) ⟨rfl, trivial⟩ trivial rfl rfl ?_
  refine AOR.pure (LT.bload1 (c := (iC g.Points)) rfl ag3 (by exact rfl)) ⟨rfl, trivial⟩ ⟨rfl, trivial⟩ rfl rfl ?_
  refine AOR.bind fun u1 hu1 => ?_
  refine AOR.step (LT.tmake (n := 22) (enc := encBool) (zc := [(bC false)]) false rfl und113 ti4 rfl rfl rfl (by decide) (by decide) (lenOk_le hu1) rfl) ⟨rfl, rfl, trivial⟩ trivial rfl rfl ?_
  refine AOR.pure (LT.assign (v := (.s (.c (.loc 22 0 (List.replicate g.Points.toNat false).length)))) rfl) ⟨rfl, trivial⟩ trivial rfl rfl ?_
  refine AOR.nil ?_
  refine AWR.seq ?_
  refine AWR.region ?_
  refine AOR.pure (LT.move (v := (.s (.c (.loc 22 0 (List.replicate g.Points.toNat false).length)))) rfl) ⟨rfl, trivial⟩ trivial rfl rfl ?_
  refine AOR.pure (LT.move (v := (.s (.c (iC v)))) rfl) ⟨rfl, trivial⟩ trivial rfl rfl ?_
  refine AOR.bind fun x2 hx2 => ?_
  refine AOR.pure (LT.tindexLoc rfl rfl el113 hx2) ⟨rfl, rfl, trivial⟩ ⟨rfl, trivial⟩ rfl rfl ?_
  refine AOR.step (LT.tstore (k := 0) (v := (.c (bC true))) (b' := true) rfl rfl (infS inf4) sz4 (by exact rfl) hx2 (by exact rfl) (by exact Nat.le_of_ble_eq_true rfl) (by exact rfl)) ⟨rfl, ⟨rfl, rfl⟩, trivial⟩ ⟨rfl, trivial⟩ rfl rfl ?_
  refine AOR.nil ?_
  refine AWR.seq ?_
  refine AWR.seq ?_
  refine AWR.ent (Ent.of (σ' := [(2, (.s (.c (.pl 21 0)))), (5, (.s (.c (.loc 22 0 (List.replicate g.Points.toNat false).length))))]) (m' := [(21, (.row 30 [[(iC g.Points), (.pv (.xs false (g.Bars.map encTBar)))]])), (22, (.prow 4 (((List.replicate g.Points.toNat false).set v.toNat true).map encBool)))]) ⟨rfl, rfl, trivial⟩ ⟨rfl, rfl, trivial⟩) ?_
  refine AWR.region ?_
  refine AOR.pure (LT.assign (v := (.s (.c (bC true)))) rfl) ⟨⟨rfl, rfl⟩, trivial⟩ trivial rfl rfl ?_
  refine AOR.nil ?_
  refine AWR.block ?_
  refine AWR.loop1 (id := 0) (m_impl_Graph_reach_L3 g) (fun s3 => ([(2, (.s (.c (.pl 21 0)))), (5, (.s (.c (.loc 22 0 s3.2.length)))), (6, (.s (.c (bC s3.1))))], [(21, (.row 30 [[(iC g.Points), (.pv (.xs false (g.Bars.map encTBar)))]])), (22, (.prow 4 (s3.2.map encBool)))])) (fun b54 => ([(5, (.s (.c (.loc 22 0 b54.length))))], [(22, (.prow 4 (b54.map encBool)))])) ?_ (Ent.of ⟨rfl, (congrArg (fun l1 => (some (AV.s (.c (.loc 22 0 l1))) : Option AV)) (show (List.replicate g.Points.toNat false).length = ((List.replicate g.Points.toNat false).set v.toNat true).length by simp only [List.length_set])), rfl, trivial⟩ ⟨rfl, rfl, trivial⟩) rfl (fun b54 _ => ?_)
  · intro s3
    unfold m_impl_Graph_reach_L3
    refine AWR.seq ?_
    refine AWR.seq ?_
    refine AWR.region ?_
    refine AOR.pure (LT.move (v := (.s (.c (bC s3.1)))) rfl) ⟨rfl, trivial⟩ trivial rfl rfl ?_
    refine AOR.nil ?_
    refine AWR.cond rfl (fun hc55 => ?_) (fun hc55 => ?_)
    · refine AWR.skip ?_
      refine AWR.block ?_
      refine AWR.seq ?_
      refine AWR.region ?_
      refine AOR.pure (LT.assign (v := (.s (.c (bC false)))) rfl) ⟨⟨rfl, rfl⟩, trivial⟩ trivial rfl rfl ?_
      refine AOR.nil ?_
      refine AWR.seq ?_
      refine AWR.region ?_
      refine AOR.pure (LT.fieldPl rfl fo30_1) ⟨rfl, trivial⟩ trivial rfl rfl ?_
      refine AOR.pure (LT.bload1 (c := (.pv (.xs false (g.Bars.map encTBar)))) rfl ag28 (by exact rfl)) ⟨rfl, trivial⟩ ⟨rfl, trivial⟩ rfl rfl ?_
      refine AOR.pure (LT.tlenRO rfl und28) ⟨rfl, trivial⟩ trivial rfl rfl ?_
      refine AOR.pure (LT.move (v := (.s (.c (iC 0)))) rfl) ⟨⟨rfl, rfl⟩, trivial⟩ trivial rfl rfl ?_
      refine AOR.nil ?_
      refine AWR.block ?_
      refine AWR.loop1 (id := 2) (m_impl_Graph_reach_L4 g) (fun s56 => ([(2, (.s (.c (.pl 21 0)))), (5, (.s (.c (.loc 22 0 s56.2.2.length)))), (6, (.s (.c (bC s56.1)))), (17, (.s (.c (.pv (.xs false (g.Bars.map encTBar)))))), (18, (.s (.c (iC (g.Bars.length : Int))))), (19, (.s (.c (iC s56.2.1))))], [(21, (.row 30 [[(iC g.Points), (.pv (.xs false (g.Bars.map encTBar)))]])), (22, (.prow 4 (s56.2.2.map encBool)))])) (fun b79 => ([(2, (.s (.c (.pl 21 0)))), (5, (.s (.c (.loc 22 0 b79.2.length)))), (6, (.s (.c (bC b79.1))))], [(21, (.row 30 [[(iC g.Points), (.pv (.xs false (g.Bars.map encTBar)))]])), (22, (.prow 4 (b79.2.map encBool)))])) ?_ (Ent.of ⟨rfl, rfl, rfl, rfl, rfl, rfl, trivial⟩ ⟨rfl, rfl, trivial⟩) rfl (fun b79 _ => ?_)
      · intro s56
        unfold m_impl_Graph_reach_L4
        refine AWR.seq ?_
        refine AWR.region ?_
        refine AOR.pure (LT.lss rfl) ⟨rfl, rfl, trivial⟩ trivial rfl rfl ?_
        refine AOR.nil ?_
        refine AWR.seq ?_
        refine AWR.cond rfl (fun hc80 => ?_) (fun hc80 => ?_)
        · refine AWR.skip ?_
          refine AWR.seq ?_
          refine AWR.block ?_
          refine AWR.seq ?_
          refine AWR.region ?_
          refine AOR.bind fun x81 hx81 => ?_
          refine AOR.pure (LT.tindexRO (enc := encTBar) rfl el28 hx81 sz88) ⟨rfl, rfl, trivial⟩ trivial rfl rfl ?_
          refine AOR.pure (LT.loadPxN rfl ag88 (infS inf88) (by exact sz88.symm)) ⟨rfl, trivial⟩ trivial rfl rfl ?_
          refine AOR.step (LT.alloc (n := 23) (cells := [(iC 0), (iC 0)]) rfl ti88 rfl rfl rfl) trivial trivial rfl rfl ?_
          refine AOR.step (LT.bstore (v := (.agg [(iC x81.A), (iC x81.B)])) (out := [(iC x81.A), (iC x81.B)]) rfl rfl (infS inf88) sz88 (by exact rfl) (by exact Nat.le_of_ble_eq_true rfl) (by exact rfl)) ⟨rfl, rfl, trivial⟩ ⟨rfl, trivial⟩ rfl rfl ?_
          refine AOR.nil ?_
          refine AWR.seq ?_
          refine AWR.draw mixed ?_
          refine AOD.pure (LT.move (v := (.s (.c (.loc 22 0 s56.2.2.length)))) rfl) ⟨rfl, trivial⟩ trivial rfl rfl ?_
          refine AOD.pure (LT.fieldPl rfl fo88_0) ⟨rfl, trivial⟩ trivial rfl rfl ?_
          refine AOD.pure (LT.bload1 (c := (iC x81.A)) rfl ag3 (by exact rfl)) ⟨rfl, trivial⟩ ⟨rfl, trivial⟩ rfl rfl ?_
          refine AOD.bind fun x82 hx82 => ?_
          refine AOD.pure (LT.tindexLoc rfl rfl el113 hx82) ⟨rfl, rfl, trivial⟩ ⟨rfl, trivial⟩ rfl rfl ?_
          refine AOD.pure (LT.tload1 (k := 0) rfl ag4 hx82 (by exact rfl) (by exact rfl)) ⟨rfl, trivial⟩ ⟨rfl, trivial⟩ rfl rfl ?_
          refine AOD.pure (LT.move (v := (.s (.c (.loc 22 0 s56.2.2.length)))) rfl) ⟨rfl, trivial⟩ trivial rfl rfl ?_
          refine AOD.pure (LT.fieldPl rfl fo88_1) ⟨rfl, trivial⟩ trivial rfl rfl ?_
          refine AOD.pure (LT.bload1 (c := (iC x81.B)) rfl ag3 (by exact rfl)) ⟨rfl, trivial⟩ ⟨rfl, trivial⟩ rfl rfl ?_
          refine AOD.bind fun x83 hx83 => ?_
          refine AOD.pure (LT.tindexLoc rfl rfl el113 hx83) ⟨rfl, rfl, trivial⟩ ⟨rfl, trivial⟩ rfl rfl ?_
          refine AOD.pure (LT.tload1 (k := 0) rfl ag4 hx83 (by exact rfl) (by exact rfl)) ⟨rfl, trivial⟩ ⟨rfl, trivial⟩ rfl rfl ?_
          refine AOD.pure (LT.neqB rfl und4) ⟨rfl, rfl, trivial⟩ trivial rfl rfl ?_
          refine AOD.nil (by kernel_rfl) ?_
          refine AWR.joinK (fun j87 => ([(2, (.s (.c (.pl 21 0)))), (5, (.s (.c (.loc 22 0 j87.2.length)))), (6, (.s (.c (bC j87.1)))), (17, (.s (.c (.pv (.xs false (g.Bars.map encTBar)))))), (18, (.s (.c (iC (g.Bars.length : Int))))), (19, (.s (.c (iC s56.2.1))))], [(21, (.row 30 [[(iC g.Points), (.pv (.xs false (g.Bars.map encTBar)))]])), (22, (.prow 4 (j87.2.map encBool)))])) ?_ (fun j87 _ => ?_)
          · refine AWR.cond rfl (fun hc88 => ?_) (fun hc88 => ?_)
            · refine AWR.seq ?_
              refine AWR.ent (Ent.of (σ' := [(2, (.s (.c (.pl 21 0)))), (5, (.s (.c (.loc 22 0 s56.2.2.length)))), (8, (.s (.c (.pl 23 0)))), (17, (.s (.c (.pv (.xs false (g.Bars.map encTBar)))))), (18, (.s (.c (iC (g.Bars.length : Int))))), (19, (.s (.c (iC s56.2.1))))]) (m' := [(21, (.row 30 [[(iC g.Points), (.pv (.xs false (g.Bars.map encTBar)))]])), (22, (.prow 4 (s56.2.2.map encBool))), (23, (.row 88 [[(iC x81.A), (iC x81.B)]]))]) ⟨rfl, rfl, rfl, rfl, rfl, rfl, trivial⟩ ⟨rfl, rfl, rfl, trivial⟩) ?_
              refine AWR.region ?_
              refine AOR.pure (LT.move (v := (.s (.c (.loc 22 0 s56.2.2.length)))) rfl) ⟨rfl, trivial⟩ trivial rfl rfl ?_
              refine AOR.pure (LT.fieldPl rfl fo88_0) ⟨rfl, trivial⟩ trivial rfl rfl ?_
              refine AOR.pure (LT.bload1 (c := (iC x81.A)) rfl ag3 (by exact rfl)) ⟨rfl, trivial⟩ ⟨rfl, trivial⟩ rfl rfl ?_
              refine AOR.bind fun x89 hx89 => ?_
              refine AOR.pure (LT.tindexLoc rfl rfl el113 hx89) ⟨rfl, rfl, trivial⟩ ⟨rfl, trivial⟩ rfl rfl ?_
              refine AOR.step (LT.tstore (k := 0) (v := (.c (bC true))) (b' := true) rfl rfl (infS inf4) sz4 (by exact rfl) hx89 (by exact rfl) (by exact Nat.le_of_ble_eq_true rfl) (by exact rfl)) ⟨rfl, ⟨rfl, rfl⟩, trivial⟩ ⟨rfl, trivial⟩ rfl rfl ?_
              refine AOR.nil ?_
              refine AWR.seq ?_
              refine AWR.region ?_
              refine AOR.pure (LT.move (v := (.s (.c (.loc 22 0 s56.2.2.length)))) rfl) ⟨rfl, trivial⟩ trivial rfl rfl ?_
              refine AOR.pure (LT.fieldPl rfl fo88_1) ⟨rfl, trivial⟩ trivial rfl rfl ?_
              refine AOR.pure (LT.bload1 (c := (iC x81.B)) rfl ag3 (by exact rfl)) ⟨rfl, trivial⟩ ⟨rfl, trivial⟩ rfl rfl ?_
              refine AOR.bind fun x90 hx90 => ?_
              refine AOR.pure (LT.tindexLoc (show s56.2.2.length = (s56.2.2.set x81.A.toNat true).length by simp only [List.length_set]) rfl el113 hx90) ⟨rfl, rfl, trivial⟩ ⟨rfl, trivial⟩ rfl rfl ?_
              refine AOR.step (LT.tstore (k := 0) (v := (.c (bC true))) (b' := true) rfl rfl (infS inf4) sz4 (by exact rfl) hx90 (by exact rfl) (by exact Nat.le_of_ble_eq_true rfl) (by exact rfl)) ⟨rfl, ⟨rfl, rfl⟩, trivial⟩ ⟨rfl, trivial⟩ rfl rfl ?_
              refine AOR.nil ?_
              refine AWR.ent (Ent.of (σ' := [(2, (.s (.c (.pl 21 0)))), (5, (.s (.c (.loc 22 0 s56.2.2.length)))), (17, (.s (.c (.pv (.xs false (g.Bars.map encTBar)))))), (18, (.s (.c (iC (g.Bars.length : Int))))), (19, (.s (.c (iC s56.2.1))))]) (m' := [(21, (.row 30 [[(iC g.Points), (.pv (.xs false (g.Bars.map encTBar)))]])), (22, (.prow 4 (((s56.2.2.set x81.A.toNat true).set x81.B.toNat true).map encBool)))]) ⟨rfl, rfl, rfl, rfl, rfl, trivial⟩ ⟨rfl, rfl, trivial⟩) ?_
              refine AWR.region ?_
              refine AOR.pure (LT.assign (v := (.s (.c (bC true)))) rfl) ⟨⟨rfl, rfl⟩, trivial⟩ trivial rfl rfl ?_
              refine AOR.nil ?_
              refine AWR.nil ⟨rfl, Ent.of ⟨rfl, (congrArg (fun l1 => (some (AV.s (.c (.loc 22 0 l1))) : Option AV)) (show s56.2.2.length = ((s56.2.2.set x81.A.toNat true).set x81.B.toNat true).length by simp only [List.length_set])), rfl, rfl, rfl, rfl, trivial⟩ ⟨rfl, rfl, trivial⟩⟩
            · refine AWR.skip ?_
              refine AWR.nil ⟨rfl, Ent.of ⟨rfl, rfl, rfl, rfl, rfl, rfl, trivial⟩ ⟨rfl, rfl, trivial⟩⟩
          · refine AWR.blk ?_
            refine AWR.region ?_
            refine AOR.pure (LT.add rfl) ⟨rfl, ⟨rfl, rfl⟩, trivial⟩ trivial rfl rfl ?_
            refine AOR.pure (LT.move (v := (.s (.c (iC (w64 (s56.2.1 + 1)))))) rfl) ⟨rfl, trivial⟩ trivial rfl rfl ?_
            refine AOR.nil ?_
            refine AWR.nil ⟨rfl, Ent.of ⟨rfl, rfl, rfl, rfl, rfl, rfl, trivial⟩ ⟨rfl, rfl, trivial⟩⟩
        · refine AWR.exit_end rfl ⟨rfl, Ent.of ⟨rfl, rfl, rfl, trivial⟩ ⟨rfl, rfl, trivial⟩⟩
      · refine AWR.blk ?_
        refine AWR.nil ⟨rfl, Ent.of ⟨rfl, rfl, rfl, trivial⟩ ⟨rfl, rfl, trivial⟩⟩
    · refine AWR.exit_end rfl ⟨rfl, Ent.of ⟨rfl, trivial⟩ ⟨rfl, trivial⟩⟩
  · refine AWR.seq ?_
    refine AWR.region ?_
    refine AOR.pure (LT.move (v := (.s (.c (.loc 22 0 b54.length)))) rfl) ⟨rfl, trivial⟩ trivial rfl rfl ?_
    refine AOR.pure (LT.assign (v := (.s (.c (.loc 22 0 b54.length)))) rfl) ⟨rfl, trivial⟩ trivial rfl rfl ?_
    refine AOR.nil ?_
    refine AWR.ent (Ent.of (σ' := [(4, (.s (.c (.loc 22 0 b54.length))))]) (m' := [(22, (.prow 4 (b54.map encBool)))]) ⟨rfl, trivial⟩ ⟨rfl, trivial⟩) ?_
    refine AWR.ent (Ent.mv 22 0 rfl rfl) ?_
    refine AWR.ent (Ent.of (σ' := [(4, (.s (.c (.loc 0 0 b54.length))))]) (m' := [(0, (.prow 4 (b54.map encBool)))]) ⟨rfl, trivial⟩ ⟨rfl, trivial⟩) ?_
    refine AWR.ret (FPost.mk (.inr rfl) ⟨rfl, trivial⟩ ⟨rfl, trivial⟩ rfl ⟨trivial, trivial⟩ ⟨PermO.prow' perm_encBool, trivial⟩)
set_option maxRecDepth 100000 in
set_option maxHeartbeats 8000000 in
theorem w_impl_ReachOf (g : TGraph) (v : Int) : ∀ t, m_impl_ReachOf g v = some t → Fw.Fn Try.prog 105 [(.agg [(iC g.Points), (.pv (.xs false (g.Bars.map encTBar)))]), (.c (iC v))] [] (.s (.c (.loc 0 0 t.length))) [(0, (.prow 3 (t.map encInt)))] [] [0] := by
  refine Fw.Fn.of (P := Try.prog) (X := [0]) (pn := []) (rs := (fun (t : (List Int)) => [(.c (.loc 0 0 t.length))])) (dfs := (fun (t : (List Int)) => [(0, (.prow 3 (t.map encInt)))])) Try.func105 rfl Try.ntmps105 (Nat.le_of_ble_eq_true rfl) rfl ?_
  intro w0 U0 R0 g0
  unfold m_impl_ReachOf
  refine AWR.seq ?_
  refine AWR.region ?_
  refine AOR.step (LT.box (n := 21) (v := (.agg [(iC g.Points), (.pv (.xs false (g.Bars.map encTBar)))])) rfl sz30 (by exact rfl)) ⟨rfl, trivial⟩ trivial rfl rfl ?_
  refine AOR.pure (LT.assign (v := (.s (.c (sC nilV)))) rfl) ⟨⟨rfl, rfl⟩, trivial⟩ trivial rfl rfl ?_
  refine AOR.nil ?_
  refine AWR.seq ?_
  refine AWR.region ?_
  refine AOR.step (LT.tbuildSlice (n := 22) (enc := encInt) [] ([] : List Int) rfl rfl und40 ti3 rfl rfl rfl rfl (by decide) (fun _ => rfl) rfl) trivial trivial rfl rfl ?_
  refine AOR.pure (LT.assign (v := (.s (.c (.loc 22 0 ([] : List Int).length)))) rfl) ⟨rfl, trivial⟩ trivial rfl rfl ?_
  refine AOR.nil ?_
  refine AWR.seq ?_
  refine AWR.seq ?_
  refine AWR.joinK (fun j4 => ([(1, (.s (.c (iC v)))), (2, (.s (.c (.pl 21 0)))), (5, (.s (.c (.loc 22 0 ([] : List Int).length)))), (17, (.s (.c (bC j4))))], [(21, (.row 30 [[(iC g.Points), (.pv (.xs false (g.Bars.map encTBar)))]])), (22, (.prow 3 (([] : List Int).map encInt)))])) ?_ (fun j4 _ => ?_)
  · refine AWR.region ?_
    refine AOR.pure (LT.bloadN (out := [(iC g.Points), (.pv (.xs false (g.Bars.map encTBar)))]) rfl ag30 (infS inf30) sz30 (by exact rfl) (by exact rfl)) ⟨rfl, trivial⟩ ⟨rfl, trivial⟩ rfl rfl ?_
    refine AOR.bind fun r5 hr5 => ?_
    refine AOR.pure (@LT.callF Try.prog _ _ 68 _ _ [(.agg [(iC g.Points), (.pv (.xs false (g.Bars.map encTBar)))])] _ _ [] _ _ _ _ (w_impl_IsGraph g r5 hr5) rfl cb68 (.cons (.agg (.cons (.same rfl) (.cons (.same rfl) .nil))) .nil) rfl rfl trivial) ⟨rfl, rfl, trivial⟩ trivial rfl rfl ?_
    refine AOR.pure (LT.not rfl) ⟨rfl, trivial⟩ trivial rfl rfl ?_
    refine AOR.pure (LT.move (v := (.s (.c (bC (!r5))))) rfl) ⟨rfl, trivial⟩ trivial rfl rfl ?_
    refine AOR.split (fun hb6 => ?_) (fun hb6 => ?_)
    · refine AOR.skip ⟨_, rfl, .inl ⟨_, rfl, (by rw [hb6]; rfl)⟩⟩ rfl ?_
      refine AOR.skip ⟨_, rfl, .inl ⟨_, rfl, (by rw [hb6]; rfl)⟩⟩ rfl ?_
      refine AOR.skip ⟨_, rfl, .inl ⟨_, rfl, (by rw [hb6]; rfl)⟩⟩ rfl ?_
      refine AOR.skip ⟨_, rfl, .inl ⟨_, rfl, (by rw [hb6]; rfl)⟩⟩ rfl ?_
      refine AOR.pure (LT.pickT (v := (.s (.c (bC true)))) rfl hb6) ⟨rfl, ⟨rfl, rfl⟩, trivial⟩ trivial rfl rfl ?_
      refine AOR.nil ?_
      refine AWR.nil ⟨rfl, Ent.of ⟨rfl, rfl, rfl, rfl, trivial⟩ ⟨rfl, rfl, trivial⟩⟩
    · refine AOR.pure (LT.bloadN (out := [(iC g.Points), (.pv (.xs false (g.Bars.map encTBar)))]) rfl ag30 (infS inf30) sz30 (by exact rfl) (by exact rfl)) ⟨rfl, trivial⟩ ⟨rfl, trivial⟩ ⟨_, rfl, .inl ⟨_, rfl, (by rw [hb6]; rfl)⟩⟩ rfl ?_
      refine AOR.pure (LT.move (v := (.s (.c (iC v)))) rfl) ⟨rfl, trivial⟩ trivial ⟨_, rfl, .inl ⟨_, rfl, (by rw [hb6]; rfl)⟩⟩ rfl ?_
      refine AOR.bind fun r7 hr7 => ?_
      refine AOR.pure (@LT.callF Try.prog _ _ 77 _ _ [(.agg [(iC g.Points), (.pv (.xs false (g.Bars.map encTBar)))]), (.c (iC v))] _ _ [] _ _ _ _ (w_impl_Graph_has g v r7 hr7) rfl cb77 (.cons (.agg (.cons (.same rfl) (.cons (.same rfl) .nil))) (.cons (.c (.same rfl)) .nil)) rfl rfl trivial) ⟨rfl, rfl, rfl, trivial⟩ trivial ⟨_, rfl, .inl ⟨_, rfl, (by rw [hb6]; rfl)⟩⟩ rfl ?_
      refine AOR.pure (LT.not rfl) ⟨rfl, trivial⟩ trivial ⟨_, rfl, .inl ⟨_, rfl, (by rw [hb6]; rfl)⟩⟩ rfl ?_
      refine AOR.pure (LT.pickF (v := (.s (.c (bC (!r7))))) rfl hb6) ⟨rfl, rfl, trivial⟩ trivial rfl rfl ?_
      refine AOR.nil ?_
      refine AWR.nil ⟨rfl, Ent.of ⟨rfl, rfl, rfl, rfl, trivial⟩ ⟨rfl, rfl, trivial⟩⟩
  · refine AWR.cond rfl (fun hc8 => ?_) (fun hc8 => ?_)
    · refine AWR.seq ?_
      refine AWR.region ?_
      refine AOR.pure (LT.move (v := (.s (.c (.loc 22 0 ([] : List Int).length)))) rfl) ⟨rfl, trivial⟩ trivial rfl rfl ?_
      refine AOR.pure (LT.assign (v := (.s (.c (.loc 22 0 ([] : List Int).length)))) rfl) ⟨rfl, trivial⟩ trivial rfl rfl ?_
      refine AOR.nil ?_
      refine AWR.ent (Ent.of (σ' := [(4, (.s (.c (.loc 22 0 ([] : List Int).length))))]) (m' := [(22, (.prow 3 (([] : List Int).map encInt)))]) ⟨rfl, trivial⟩ ⟨rfl, trivial⟩) ?_
      refine AWR.ent (Ent.mv 22 0 rfl rfl) ?_
      refine AWR.ent (Ent.of (σ' := [(4, (.s (.c (.loc 0 0 ([] : List Int).length))))]) (m' := [(0, (.prow 3 (([] : List Int).map encInt)))]) ⟨rfl, trivial⟩ ⟨rfl, trivial⟩) ?_
      refine AWR.ret (FPost.mk (.inr rfl) ⟨rfl, trivial⟩ ⟨rfl, trivial⟩ rfl ⟨trivial, trivial⟩ ⟨PermO.prow' perm_encInt, trivial⟩)
    · refine AWR.skip ?_
      refine AWR.seq ?_
      refine AWR.seq ?_
      refine AWR.region ?_
      refine AOR.pure (LT.bloadN (out := [(iC g.Points), (.pv (.xs false (g.Bars.map encTBar)))]) rfl ag30 (infS inf30) sz30 (by exact rfl) (by exact rfl)) ⟨rfl, trivial⟩ ⟨rfl, trivial⟩ rfl rfl ?_
      refine AOR.pure (LT.move (v := (.s (.c (iC v)))) rfl) ⟨rfl, trivial⟩ trivial rfl rfl ?_
      refine AOR.bind fun r9 hr9 => ?_
      refine AOR.step (@LT.callF Try.prog _ _ 106 _ _ [(.agg [(iC g.Points), (.pv (.xs false (g.Bars.map encTBar)))]), (.c (iC v))] _ _ [] _ _ _ _ ((show Fw.Fn Try.prog 106 [(.agg [(iC g.Points), (.pv (.xs false (g.Bars.map encTBar)))]), (.c (iC v))] [] (.s (.c (.loc 26 0 r9.length))) [(26, (.prow 4 (r9.map encBool)))] [] [26] from Fw.Fn.ren [(0, 26)] (w_impl_Graph_reach g v r9 hr9) rfl)) rfl cb106 (.cons (.agg (.cons (.same rfl) (.cons (.same rfl) .nil))) (.cons (.c (.same rfl)) .nil)) rfl rfl trivial) ⟨rfl, rfl, rfl, trivial⟩ trivial rfl rfl ?_
      refine AOR.pure (LT.lenLoc rfl und113) ⟨rfl, trivial⟩ trivial rfl rfl ?_
      refine AOR.pure (LT.move (v := (.s (.c (iC 0)))) rfl) ⟨⟨rfl, rfl⟩, trivial⟩ trivial rfl rfl ?_
      refine AOR.nil ?_
      refine AWR.block ?_
      refine AWR.loop1 (id := 0) (m_impl_ReachOf_L1 r9) (fun s10 => ([(5, (.s (.c (.loc 22 0 s10.2.length)))), (21, (.s (.c (.loc 26 0 r9.length)))), (22, (.s (.c (iC (r9.length : Int))))), (23, (.s (.c (iC s10.1))))], [(22, (.prow 3 (s10.2.map encInt))), (26, (.prow 4 (r9.map encBool)))])) (fun b25 => ([(5, (.s (.c (.loc 22 0 b25.length))))], [(22, (.prow 3 (b25.map encInt)))])) ?_ (Ent.of ⟨rfl, rfl, rfl, rfl, trivial⟩ ⟨rfl, rfl, trivial⟩) rfl (fun b25 _ => ?_)
      · intro s10
        unfold m_impl_ReachOf_L1
        refine AWR.seq ?_
        refine AWR.region ?_
        refine AOR.pure (LT.lss rfl) ⟨rfl, rfl, trivial⟩ trivial rfl rfl ?_
        refine AOR.nil ?_
        refine AWR.seq ?_
        refine AWR.cond rfl (fun hc26 => ?_) (fun hc26 => ?_)
        · refine AWR.skip ?_
          refine AWR.seq ?_
          refine AWR.block ?_
          refine AWR.seq ?_
          refine AWR.region ?_
          refine AOR.pure (LT.move (v := (.s (.c (iC s10.1)))) rfl) ⟨rfl, trivial⟩ trivial rfl rfl ?_
          refine AOR.bind fun x27 hx27 => ?_
          refine AOR.pure (LT.tindexLoc rfl rfl el113 hx27) ⟨rfl, rfl, trivial⟩ ⟨rfl, trivial⟩ rfl rfl ?_
          refine AOR.pure (LT.tload1 (k := 0) rfl ag4 hx27 (by exact rfl) (by exact rfl)) ⟨rfl, trivial⟩ ⟨rfl, trivial⟩ rfl rfl ?_
          refine AOR.pure (LT.assign (v := (.s (.c (iC s10.1)))) rfl) ⟨rfl, trivial⟩ trivial rfl rfl ?_
          refine AOR.pure (LT.assign (v := (.s (.c (bC x27)))) rfl) ⟨rfl, trivial⟩ trivial rfl rfl ?_
          refine AOR.nil ?_
          refine AWR.seq ?_
          refine AWR.region ?_
          refine AOR.pure (LT.move (v := (.s (.c (bC x27)))) rfl) ⟨rfl, trivial⟩ trivial rfl rfl ?_
          refine AOR.nil ?_
          refine AWR.joinK (fun j30 => ([(5, (.s (.c (.loc 22 0 j30.length)))), (21, (.s (.c (.loc 26 0 r9.length)))), (22, (.s (.c (iC (r9.length : Int))))), (23, (.s (.c (iC s10.1))))], [(22, (.prow 3 (j30.map encInt))), (26, (.prow 4 (r9.map encBool)))])) ?_ (fun j30 _ => ?_)
          · refine AWR.cond rfl (fun hc31 => ?_) (fun hc31 => ?_)
            · refine AWR.region ?_
              refine AOR.pure (LT.move (v := (.s (.c (.loc 22 0 s10.2.length)))) rfl) ⟨rfl, trivial⟩ trivial rfl rfl ?_
              refine AOR.pure (LT.move (v := (.s (.c (iC s10.1)))) rfl) ⟨rfl, trivial⟩ trivial rfl rfl ?_
              refine AOR.step (LT.tbuildSlice (n := 27) (enc := encInt) [(0, .tmp 30, (.c (iC s10.1)))] ([s10.1] : List Int) rfl rfl und40 ti3 rfl rfl rfl rfl (by decide) (fun _ => rfl) rfl) ⟨rfl, trivial⟩ trivial rfl rfl ?_
              refine AOR.bind fun u32 hu32 => ?_
              refine AOR.step (LT.tappP (enc := encInt) rfl rfl rfl und40 ti3 rfl (by decide) (by decide) (fun _ => rfl) (lim_le hu32)) ⟨rfl, rfl, trivial⟩ ⟨rfl, rfl, trivial⟩ rfl rfl ?_
              refine AOR.pure (LT.assign (v := (.s (.c (.loc 22 0 (s10.2 ++ ([s10.1] : List Int)).length)))) rfl) ⟨rfl, trivial⟩ trivial rfl rfl ?_
              refine AOR.nil ?_
              refine AWR.nil ⟨rfl, Ent.of ⟨rfl, rfl, rfl, rfl, trivial⟩ ⟨rfl, rfl, trivial⟩⟩
            · refine AWR.skip ?_
              refine AWR.nil ⟨rfl, Ent.of ⟨rfl, rfl, rfl, rfl, trivial⟩ ⟨rfl, rfl, trivial⟩⟩
          · refine AWR.blk ?_
            refine AWR.region ?_
            refine AOR.pure (LT.add rfl) ⟨rfl, ⟨rfl, rfl⟩, trivial⟩ trivial rfl rfl ?_
            refine AOR.pure (LT.move (v := (.s (.c (iC (w64 (s10.1 + 1)))))) rfl) ⟨rfl, trivial⟩ trivial rfl rfl ?_
            refine AOR.nil ?_
            refine AWR.nil ⟨rfl, Ent.of ⟨rfl, rfl, rfl, rfl, trivial⟩ ⟨rfl, rfl, trivial⟩⟩
        · refine AWR.exit_end rfl ⟨rfl, Ent.of ⟨rfl, trivial⟩ ⟨rfl, trivial⟩⟩
      · refine AWR.seq ?_
        refine AWR.region ?_
        refine AOR.pure (LT.move (v := (.s (.c (.loc 22 0 b25.length)))) rfl) ⟨rfl, trivial⟩ trivial rfl rfl ?_
        refine AOR.pure (LT.assign (v := (.s (.c (.loc 22 0 b25.length)))) rfl) ⟨rfl, trivial⟩ trivial rfl rfl ?_
        refine AOR.nil ?_
        refine AWR.ent (Ent.of (σ' := [(4, (.s (.c (.loc 22 0 b25.length))))]) (m' := [(22, (.prow 3 (b25.map encInt)))]) ⟨rfl, trivial⟩ ⟨rfl, trivial⟩) ?_
        refine AWR.ent (Ent.mv 22 0 rfl rfl) ?_
        refine AWR.ent (Ent.of (σ' := [(4, (.s (.c (.loc 0 0 b25.length))))]) (m' := [(0, (.prow 3 (b25.map encInt)))]) ⟨rfl, trivial⟩ ⟨rfl, trivial⟩) ?_
        refine AWR.ret (FPost.mk (.inr rfl) ⟨rfl, trivial⟩ ⟨rfl, trivial⟩ rfl ⟨trivial, trivial⟩ ⟨PermO.prow' perm_encInt, trivial⟩)
end Go.Proofs.Ytihibpkbhjpajaa
