/- Parts of a proof that a law of the program holds: what the program computes, and why that is right. -/
import Derived.Test.YtoeigmhhmadmbaaRows
import Derived.ProofKit
import Derived.OpenShut
import Derived.JoinedCond
import Derived.Carry
import Derived.Deep.Slices
import Derived.ChangeSame
import Derived.Test.YtoeigmhhmadmbaaZEProvesStiff4
section
set_option linter.unusedVariables false
set_option linter.unusedSimpArgs false
set_option linter.unnecessarySimpa false
open Go Go.Fw
namespace Go.Proofs.Ytoeigmhhmadmbaa
set_option maxRecDepth 100000 in
set_option maxHeartbeats 8000000 in
theorem w_spec_IsStrictStress (tV : TTensegrity) (w : (List Int)) : ∀ t, m_spec_IsStrictStress tV w = some t → Fw.Fn Try.prog 107 [(.agg [(iC tV.Framework.Graph.Points), (.pv (.xs false (tV.Framework.Graph.Bars.map encTBar))), (.pv (.xs false (tV.Framework.Places.map encTPlace))), (.pv (.xs false (tV.Kinds.map encInt)))]), (.c (.pv (.xs false (w.map encInt))))] [] (.s (.c (bC t))) [] [] [] := by
  refine Fw.Fn.of (P := Try.prog) (X := []) (pn := []) (rs := (fun (t : Bool) => [(.c (bC t))])) (dfs := (fun (t : Bool) => [])) Try.func107 rfl Try.ntmps107 (Nat.le_of_ble_eq_true rfl) rfl ?_
  intro w0 U0 R0 g0
  unfold m_spec_IsStrictStress
  refine AWR.seq ?_
  refine AWR.region ?_
  refine AOR.step (LT.box (n := 21) (v := (.agg [(iC tV.Framework.Graph.Points), (.pv (.xs false (tV.Framework.Graph.Bars.map encTBar))), (.pv (.xs false (tV.Framework.Places.map encTPlace))), (.pv (.xs false (tV.Kinds.map encInt)))])) rfl sz59 (by exact rfl)) ⟨rfl, trivial⟩ trivial rfl rfl ?_
  refine AOR.pure (LT.assign (v := (.s (.c (bC false)))) rfl) ⟨⟨rfl, rfl⟩, trivial⟩ trivial rfl rfl ?_
  refine AOR.nil ?_
  refine AWR.seq ?_
  refine AWR.seq ?_
  refine AWR.region ?_
  refine AOR.pure (LT.bloadN (out := [(iC tV.Framework.Graph.Points), (.pv (.xs false (tV.Framework.Graph.Bars.map encTBar))), (.pv (.xs false (tV.Framework.Places.map encTPlace))), (.pv (.xs false (tV.Kinds.map encInt)))]) rfl ag59 (infS inf59) sz59 (by exact rfl) (by exact rfl)) ⟨rfl, trivial⟩ ⟨rfl, trivial⟩ rfl rfl ?_
  refine AOR.pure (LT.move (v := (.s (.c (.pv (.xs false (w.map encInt)))))) rfl) ⟨rfl, trivial⟩ trivial rfl rfl ?_
  refine AOR.bind fun r1 hr1 => ?_
  refine AOR.pure (@LT.callF Try.prog _ _ 165 _ _ [(.agg [(iC tV.Framework.Graph.Points), (.pv (.xs false (tV.Framework.Graph.Bars.map encTBar))), (.pv (.xs false (tV.Framework.Places.map encTPlace))), (.pv (.xs false (tV.Kinds.map encInt)))]), (.c (.pv (.xs false (w.map encInt))))] _ _ [] _ _ _ _ (w_spec_IsProperStress tV w r1 hr1) rfl cb165 (.cons (.agg (.cons (.same rfl) (.cons (.same rfl) (.cons (.same rfl) (.cons (.same rfl) .nil))))) (.cons (.c (.same rfl)) .nil)) rfl rfl trivial) ⟨rfl, rfl, rfl, trivial⟩ trivial rfl rfl ?_
  refine AOR.pure (LT.not rfl) ⟨rfl, trivial⟩ trivial rfl rfl ?_
  refine AOR.nil ?_
  refine AWR.cond rfl (fun hc2 => ?_) (fun hc2 => ?_)
  · refine AWR.seq ?_
    refine AWR.region ?_
    refine AOR.pure (LT.assign (v := (.s (.c (bC false)))) rfl) ⟨⟨rfl, rfl⟩, trivial⟩ trivial rfl rfl ?_
    refine AOR.nil ?_
    refine AWR.ret (FPost.mk (.inr rfl) ⟨rfl, trivial⟩ trivial rfl ⟨PermP.sc, trivial⟩ trivial)
  · refine AWR.skip ?_
    refine AWR.seq ?_
    refine AWR.seq ?_
    refine AWR.region ?_
    refine AOR.pure (LT.assign (v := (.s (.c (iC 0)))) rfl) ⟨⟨rfl, rfl⟩, trivial⟩ trivial rfl rfl ?_
    refine AOR.nil ?_
    refine AWR.block ?_
    refine AWR.loopR (id := 0) (m_spec_IsStrictStress_L1 tV w) (fun s3 => ([(1, (.s (.c (.pv (.xs false (w.map encInt)))))), (2, (.s (.c (.pl 21 0)))), (5, (.s (.c (iC s3))))], [(21, (.row 59 [[(iC tV.Framework.Graph.Points), (.pv (.xs false (tV.Framework.Graph.Bars.map encTBar))), (.pv (.xs false (tV.Framework.Places.map encTPlace))), (.pv (.xs false (tV.Kinds.map encInt)))]]))])) (fun b22 => ([], [])) (FPost Try.prog Try.f107.results.toList [] [] (fun (t : Bool) => [(.c (bC t))]) (fun (t : Bool) => [])) ?_ (Ent.of ⟨rfl, rfl, rfl, trivial⟩ ⟨rfl, trivial⟩) rfl (fun b22 _ => ?_) (by intro r t σ m ht hk; injection ht with ht; subst ht; exact hk)
    · intro s3
      unfold m_spec_IsStrictStress_L1
      refine AWR.seq ?_
      refine AWR.seq ?_
      refine AWR.region ?_
      refine AOR.pure (LT.move (v := (.s (.c (iC s3)))) rfl) ⟨rfl, trivial⟩ trivial rfl rfl ?_
      refine AOR.pure (LT.move (v := (.s (.c (.pv (.xs false (w.map encInt)))))) rfl) ⟨rfl, trivial⟩ trivial rfl rfl ?_
      refine AOR.pure (LT.tlenRO rfl und37) ⟨rfl, trivial⟩ trivial rfl rfl ?_
      refine AOR.pure (LT.lss rfl) ⟨rfl, rfl, trivial⟩ trivial rfl rfl ?_
      refine AOR.nil ?_
      refine AWR.cond rfl (fun hc23 => ?_) (fun hc23 => ?_)
      · refine AWR.skip ?_
        refine AWR.seq ?_
        refine AWR.block ?_
        refine AWR.seq ?_
        refine AWR.joinK (fun j27 => ([(1, (.s (.c (.pv (.xs false (w.map encInt)))))), (2, (.s (.c (.pl 21 0)))), (5, (.s (.c (iC s3)))), (28, (.s (.c (bC j27))))], [(21, (.row 59 [[(iC tV.Framework.Graph.Points), (.pv (.xs false (tV.Framework.Graph.Bars.map encTBar))), (.pv (.xs false (tV.Framework.Places.map encTPlace))), (.pv (.xs false (tV.Kinds.map encInt)))]]))])) ?_ (fun j27 _ => ?_)
        · refine AWR.region ?_
          refine AOR.pure (LT.fieldPl rfl fo59_1) ⟨rfl, trivial⟩ trivial rfl rfl ?_
          refine AOR.pure (LT.bload1 (c := (.pv (.xs false (tV.Kinds.map encInt)))) rfl ag37 (by exact rfl)) ⟨rfl, trivial⟩ ⟨rfl, trivial⟩ rfl rfl ?_
          refine AOR.pure (LT.move (v := (.s (.c (iC s3)))) rfl) ⟨rfl, trivial⟩ trivial rfl rfl ?_
          refine AOR.bind fun x28 hx28 => ?_
          refine AOR.pure (LT.tindexRO (enc := encInt) rfl el37 hx28 sz3) ⟨rfl, rfl, trivial⟩ trivial rfl rfl ?_
          refine AOR.pure (LT.loadPx1 rfl ag3) ⟨rfl, trivial⟩ trivial rfl rfl ?_
          refine AOR.pure (LT.neq rfl) ⟨rfl, ⟨rfl, rfl⟩, trivial⟩ trivial rfl rfl ?_
          refine AOR.pure (LT.move (v := (.s (.c (bC (x28 != 0))))) rfl) ⟨rfl, trivial⟩ trivial rfl rfl ?_
          refine AOR.split (fun hb29 => ?_) (fun hb29 => ?_)
          · refine AOR.pure (LT.move (v := (.s (.c (.pv (.xs false (w.map encInt)))))) rfl) ⟨rfl, trivial⟩ trivial ⟨_, rfl, .inl ⟨_, rfl, (by rw [hb29]; rfl)⟩⟩ rfl ?_
            refine AOR.pure (LT.move (v := (.s (.c (iC s3)))) rfl) ⟨rfl, trivial⟩ trivial ⟨_, rfl, .inl ⟨_, rfl, (by rw [hb29]; rfl)⟩⟩ rfl ?_
            refine AOR.bind fun x30 hx30 => ?_
            refine AOR.pure (LT.tindexRO (enc := encInt) rfl el37 hx30 sz3) ⟨rfl, rfl, trivial⟩ trivial ⟨_, rfl, .inl ⟨_, rfl, (by rw [hb29]; rfl)⟩⟩ rfl ?_
            refine AOR.pure (LT.loadPx1 rfl ag3) ⟨rfl, trivial⟩ trivial ⟨_, rfl, .inl ⟨_, rfl, (by rw [hb29]; rfl)⟩⟩ rfl ?_
            refine AOR.pure (LT.eql rfl) ⟨rfl, ⟨rfl, rfl⟩, trivial⟩ trivial ⟨_, rfl, .inl ⟨_, rfl, (by rw [hb29]; rfl)⟩⟩ rfl ?_
            refine AOR.pure (LT.pickT (v := (.s (.c (bC (x30 == 0))))) rfl hb29) ⟨rfl, rfl, trivial⟩ trivial rfl rfl ?_
            refine AOR.nil ?_
            refine AWR.nil ⟨rfl, Ent.of ⟨rfl, rfl, rfl, rfl, trivial⟩ ⟨rfl, trivial⟩⟩
          · refine AOR.skip ⟨_, rfl, .inl ⟨_, rfl, (by rw [hb29]; rfl)⟩⟩ rfl ?_
            refine AOR.skip ⟨_, rfl, .inl ⟨_, rfl, (by rw [hb29]; rfl)⟩⟩ rfl ?_
            refine AOR.skip ⟨_, rfl, .inl ⟨_, rfl, (by rw [hb29]; rfl)⟩⟩ rfl ?_
            refine AOR.skip ⟨_, rfl, .inl ⟨_, rfl, (by rw [hb29]; rfl)⟩⟩ rfl ?_
            refine AOR.skip ⟨_, rfl, .inl ⟨_, rfl, (by rw [hb29]; rfl)⟩⟩ rfl ?_
            refine AOR.pure (LT.pickF (v := (.s (.c (bC false)))) rfl hb29) ⟨rfl, ⟨rfl, rfl⟩, trivial⟩ trivial rfl rfl ?_
            refine AOR.nil ?_
            refine AWR.nil ⟨rfl, Ent.of ⟨rfl, rfl, rfl, rfl, trivial⟩ ⟨rfl, trivial⟩⟩
        · refine AWR.cond rfl (fun hc31 => ?_) (fun hc31 => ?_)
          · refine AWR.seq ?_
            refine AWR.region ?_
            refine AOR.pure (LT.assign (v := (.s (.c (bC false)))) rfl) ⟨⟨rfl, rfl⟩, trivial⟩ trivial rfl rfl ?_
            refine AOR.nil ?_
            refine AWR.ret ⟨rfl, FPost.mk (.inr rfl) ⟨rfl, trivial⟩ trivial rfl ⟨PermP.sc, trivial⟩ trivial⟩
          · refine AWR.skip ?_
            refine AWR.blk ?_
            refine AWR.region ?_
            refine AOR.pure (LT.move (v := (.s (.c (iC s3)))) rfl) ⟨rfl, trivial⟩ trivial rfl rfl ?_
            refine AOR.pure (LT.add rfl) ⟨rfl, ⟨rfl, rfl⟩, trivial⟩ trivial rfl rfl ?_
            refine AOR.pure (LT.assign (v := (.s (.c (iC (w64 (s3 + 1)))))) rfl) ⟨rfl, trivial⟩ trivial rfl rfl ?_
            refine AOR.nil ?_
            refine AWR.nil ⟨rfl, Ent.of ⟨rfl, rfl, rfl, trivial⟩ ⟨rfl, trivial⟩⟩
      · refine AWR.exit_end rfl ⟨rfl, Ent.of trivial trivial⟩
    · refine AWR.seq ?_
      refine AWR.region ?_
      refine AOR.pure (LT.assign (v := (.s (.c (bC true)))) rfl) ⟨⟨rfl, rfl⟩, trivial⟩ trivial rfl rfl ?_
      refine AOR.nil ?_
      refine AWR.ret (FPost.mk (.inr rfl) ⟨rfl, trivial⟩ trivial rfl ⟨PermP.sc, trivial⟩ trivial)
set_option maxRecDepth 100000 in
set_option maxHeartbeats 8000000 in
theorem w_spec_l11Trivial (f : TFramework) : ∀ t, m_spec_l11Trivial f = some t → Fw.Fn Try.prog 126 [(.agg [(iC f.Graph.Points), (.pv (.xs false (f.Graph.Bars.map encTBar))), (.pv (.xs false (f.Places.map encTPlace)))])] [] (.s (.c (iC t))) [] [] [] := by
  refine Fw.Fn.of (P := Try.prog) (X := []) (pn := []) (rs := (fun (t : Int) => [(.c (iC t))])) (dfs := (fun (t : Int) => [])) Try.func126 rfl Try.ntmps126 (Nat.le_of_ble_eq_true rfl) rfl ?_
  intro w0 U0 R0 g0
  unfold m_spec_l11Trivial
  refine AWR.seq ?_
  refine AWR.region ?_
  refine AOR.step (LT.box (n := 21) (v := (.agg [(iC f.Graph.Points), (.pv (.xs false (f.Graph.Bars.map encTBar))), (.pv (.xs false (f.Places.map encTPlace)))])) rfl sz29 (by exact rfl)) ⟨rfl, trivial⟩ trivial rfl rfl ?_
  refine AOR.pure (LT.assign (v := (.s (.c (iC 0)))) rfl) ⟨⟨rfl, rfl⟩, trivial⟩ trivial rfl rfl ?_
  refine AOR.nil ?_
  refine AWR.seq ?_
  refine AWR.seq ?_
  refine AWR.region ?_
  refine AOR.pure (LT.assign (v := (.s (.c (iC 1)))) rfl) ⟨⟨rfl, rfl⟩, trivial⟩ trivial rfl rfl ?_
  refine AOR.nil ?_
  refine AWR.block ?_
  refine AWR.loopR (id := 0) (m_spec_l11Trivial_L1 f) (fun s1 => ([(1, (.s (.c (.pl 21 0)))), (3, (.s (.c (iC s1))))], [(21, (.row 29 [[(iC f.Graph.Points), (.pv (.xs false (f.Graph.Bars.map encTBar))), (.pv (.xs false (f.Places.map encTPlace)))]]))])) (fun b10 => ([], [])) (FPost Try.prog Try.f126.results.toList [] [] (fun (t : Int) => [(.c (iC t))]) (fun (t : Int) => [])) ?_ (Ent.of ⟨rfl, rfl, trivial⟩ ⟨rfl, trivial⟩) rfl (fun b10 _ => ?_) (by intro r t σ m ht hk; injection ht with ht; subst ht; exact hk)
  · intro s1
    unfold m_spec_l11Trivial_L1
    refine AWR.seq ?_
    refine AWR.seq ?_
    refine AWR.region ?_
    refine AOR.pure (LT.move (v := (.s (.c (iC s1)))) rfl) ⟨rfl, trivial⟩ trivial rfl rfl ?_
    refine AOR.pure (LT.fieldPl rfl fo29_1) ⟨rfl, trivial⟩ trivial rfl rfl ?_
    refine AOR.pure (LT.bload1 (c := (.pv (.xs false (f.Places.map encTPlace)))) rfl ag27 (by exact rfl)) ⟨rfl, trivial⟩ ⟨rfl, trivial⟩ rfl rfl ?_
    refine AOR.pure (LT.tlenRO rfl und27) ⟨rfl, trivial⟩ trivial rfl rfl ?_
    refine AOR.pure (LT.lss rfl) ⟨rfl, rfl, trivial⟩ trivial rfl rfl ?_
    refine AOR.nil ?_
    refine AWR.cond rfl (fun hc11 => ?_) (fun hc11 => ?_)
    · refine AWR.skip ?_
      refine AWR.seq ?_
      refine AWR.block ?_
      refine AWR.seq ?_
      refine AWR.draw mixed ?_
      refine AOD.pure (LT.fieldPl rfl fo29_1) ⟨rfl, trivial⟩ trivial rfl rfl ?_
      refine AOD.pure (LT.bload1 (c := (.pv (.xs false (f.Places.map encTPlace)))) rfl ag27 (by exact rfl)) ⟨rfl, trivial⟩ ⟨rfl, trivial⟩ rfl rfl ?_
      refine AOD.pure (LT.move (v := (.s (.c (iC s1)))) rfl) ⟨rfl, trivial⟩ trivial rfl rfl ?_
      refine AOD.bind fun x12 hx12 => ?_
      refine AOD.pure (LT.tindexRO (enc := encTPlace) rfl el27 hx12 sz95) ⟨rfl, rfl, trivial⟩ trivial rfl rfl ?_
      refine AOD.pure (LT.loadPxN rfl ag95 (infS inf95) (by exact sz95.symm)) ⟨rfl, trivial⟩ trivial rfl rfl ?_
      refine AOD.pure (LT.fieldPl rfl fo29_1) ⟨rfl, trivial⟩ trivial rfl rfl ?_
      refine AOD.pure (LT.bload1 (c := (.pv (.xs false (f.Places.map encTPlace)))) rfl ag27 (by exact rfl)) ⟨rfl, trivial⟩ ⟨rfl, trivial⟩ rfl rfl ?_
      refine AOD.bind fun x13 hx13 => ?_
      refine AOD.pure (LT.tindexRO (enc := encTPlace) rfl el27 hx13 sz95) ⟨rfl, ⟨rfl, rfl⟩, trivial⟩ trivial rfl rfl ?_
      refine AOD.pure (LT.loadPxN rfl ag95 (infS inf95) (by exact sz95.symm)) ⟨rfl, trivial⟩ trivial rfl rfl ?_
      refine AOD.pure (LT.neqStruct [x12.X, x12.Y] [x13.X, x13.Y] rfl ist95 rfl rfl) ⟨rfl, rfl, trivial⟩ trivial rfl rfl ?_
      refine AOD.nil (by kernel_rfl) ?_
      refine AWR.cond rfl (fun hc14 => ?_) (fun hc14 => ?_)
      · refine AWR.seq ?_
        refine AWR.ent (Ent.of (σ' := []) (m' := []) trivial trivial) ?_
        refine AWR.region ?_
        refine AOR.pure (LT.assign (v := (.s (.c (iC 3)))) rfl) ⟨⟨rfl, rfl⟩, trivial⟩ trivial rfl rfl ?_
        refine AOR.nil ?_
        refine AWR.ret ⟨rfl, FPost.mk (.inr rfl) ⟨rfl, trivial⟩ trivial rfl ⟨PermP.sc, trivial⟩ trivial⟩
      · refine AWR.skip ?_
        refine AWR.blk ?_
        refine AWR.ent (Ent.of (σ' := [(1, (.s (.c (.pl 21 0)))), (3, (.s (.c (iC s1))))]) (m' := [(21, (.row 29 [[(iC f.Graph.Points), (.pv (.xs false (f.Graph.Bars.map encTBar))), (.pv (.xs false (f.Places.map encTPlace)))]]))]) ⟨rfl, rfl, trivial⟩ ⟨rfl, trivial⟩) ?_
        refine AWR.region ?_
        refine AOR.pure (LT.move (v := (.s (.c (iC s1)))) rfl) ⟨rfl, trivial⟩ trivial rfl rfl ?_
        refine AOR.pure (LT.add rfl) ⟨rfl, ⟨rfl, rfl⟩, trivial⟩ trivial rfl rfl ?_
        refine AOR.pure (LT.assign (v := (.s (.c (iC (w64 (s1 + 1)))))) rfl) ⟨rfl, trivial⟩ trivial rfl rfl ?_
        refine AOR.nil ?_
        refine AWR.nil ⟨rfl, Ent.of ⟨rfl, rfl, trivial⟩ ⟨rfl, trivial⟩⟩
    · refine AWR.exit_end rfl ⟨rfl, Ent.of trivial trivial⟩
  · refine AWR.seq ?_
    refine AWR.region ?_
    refine AOR.pure (LT.assign (v := (.s (.c (iC 2)))) rfl) ⟨⟨rfl, rfl⟩, trivial⟩ trivial rfl rfl ?_
    refine AOR.nil ?_
    refine AWR.ret (FPost.mk (.inr rfl) ⟨rfl, trivial⟩ trivial rfl ⟨PermP.sc, trivial⟩ trivial)
set_option maxRecDepth 100000 in
set_option maxHeartbeats 8000000 in
theorem w_spec_FrameworkFreedom (f : TFramework) : ∀ t, m_spec_FrameworkFreedom f = some t → Fw.Fn Try.prog 63 [(.agg [(iC f.Graph.Points), (.pv (.xs false (f.Graph.Bars.map encTBar))), (.pv (.xs false (f.Places.map encTPlace)))])] [] (.s (.c (iC t))) [] [] [] := by
  refine Fw.Fn.of (P := Try.prog) (X := []) (pn := []) (rs := (fun (t : Int) => [(.c (iC t))])) (dfs := (fun (t : Int) => [])) Try.func63 rfl Try.ntmps63 (Nat.le_of_ble_eq_true rfl) rfl ?_
  intro w0 U0 R0 g0
  unfold m_spec_FrameworkFreedom
  refine AWR.seq ?_
  refine AWR.region ?_
  refine AOR.step (LT.box (n := 21) (v := (.agg [(iC f.Graph.Points), (.pv (.xs false (f.Graph.Bars.map encTBar))), (.pv (.xs false (f.Places.map encTPlace)))])) rfl sz29 (by exact rfl)) ⟨rfl, trivial⟩ trivial rfl rfl ?_
  refine AOR.pure (LT.assign (v := (.s (.c (iC 0)))) rfl) ⟨⟨rfl, rfl⟩, trivial⟩ trivial rfl rfl ?_
  refine AOR.nil ?_
  refine AWR.seq ?_
  refine AWR.seq ?_
  refine AWR.region ?_
  refine AOR.pure (LT.bloadN (out := [(iC f.Graph.Points), (.pv (.xs false (f.Graph.Bars.map encTBar))), (.pv (.xs false (f.Places.map encTPlace)))]) rfl ag29 (infS inf29) sz29 (by exact rfl) (by exact rfl)) ⟨rfl, trivial⟩ ⟨rfl, trivial⟩ rfl rfl ?_
  refine AOR.bind fun r1 hr1 => ?_
  refine AOR.pure (@LT.callF Try.prog _ _ 18 _ _ [(.agg [(iC f.Graph.Points), (.pv (.xs false (f.Graph.Bars.map encTBar))), (.pv (.xs false (f.Places.map encTPlace)))])] _ _ [] _ _ _ _ (w_spec_IsFramework f r1 hr1) rfl cb18 (.cons (.agg (.cons (.same rfl) (.cons (.same rfl) (.cons (.same rfl) .nil)))) .nil) rfl rfl trivial) ⟨rfl, rfl, trivial⟩ trivial rfl rfl ?_
  refine AOR.pure (LT.not rfl) ⟨rfl, trivial⟩ trivial rfl rfl ?_
  refine AOR.nil ?_
  refine AWR.cond rfl (fun hc2 => ?_) (fun hc2 => ?_)
  · refine AWR.seq ?_
    refine AWR.region ?_
    refine AOR.pure (LT.assign (v := (.s (.c (iC (-1))))) rfl) ⟨⟨rfl, rfl⟩, trivial⟩ trivial rfl rfl ?_
    refine AOR.nil ?_
    refine AWR.ret (FPost.mk (.inr rfl) ⟨rfl, trivial⟩ trivial rfl ⟨PermP.sc, trivial⟩ trivial)
  · refine AWR.skip ?_
    refine AWR.seq ?_
    refine AWR.draw mixed ?_
    refine AOD.pure (LT.fieldPl rfl fo29_0) ⟨rfl, trivial⟩ trivial rfl rfl ?_
    refine AOD.pure (LT.fieldPl rfl fo26_0) ⟨rfl, trivial⟩ trivial rfl rfl ?_
    refine AOD.pure (LT.bload1 (c := (iC f.Graph.Points)) rfl ag3 (by exact rfl)) ⟨rfl, trivial⟩ ⟨rfl, trivial⟩ rfl rfl ?_
    refine AOD.pure (LT.mul rfl) ⟨⟨rfl, rfl⟩, rfl, trivial⟩ trivial rfl rfl ?_
    refine AOD.pure (LT.bloadN (out := [(iC f.Graph.Points), (.pv (.xs false (f.Graph.Bars.map encTBar))), (.pv (.xs false (f.Places.map encTPlace)))]) rfl ag29 (infS inf29) sz29 (by exact rfl) (by exact rfl)) ⟨rfl, trivial⟩ ⟨rfl, trivial⟩ rfl rfl ?_
    refine AOD.bind fun r3 hr3 => ?_
    refine AOD.pure (@LT.callF Try.prog _ _ 126 _ _ [(.agg [(iC f.Graph.Points), (.pv (.xs false (f.Graph.Bars.map encTBar))), (.pv (.xs false (f.Places.map encTPlace)))])] _ _ [] _ _ _ _ (w_spec_l11Trivial f r3 hr3) rfl cb126 (.cons (.agg (.cons (.same rfl) (.cons (.same rfl) (.cons (.same rfl) .nil)))) .nil) rfl rfl trivial) ⟨rfl, rfl, trivial⟩ trivial rfl rfl ?_
    refine AOD.pure (LT.sub rfl) ⟨rfl, rfl, trivial⟩ trivial rfl rfl ?_
    refine AOD.pure (LT.bloadN (out := [(iC f.Graph.Points), (.pv (.xs false (f.Graph.Bars.map encTBar))), (.pv (.xs false (f.Places.map encTPlace)))]) rfl ag29 (infS inf29) sz29 (by exact rfl) (by exact rfl)) ⟨rfl, trivial⟩ ⟨rfl, trivial⟩ rfl rfl ?_
    refine AOD.bind fun r4 hr4 => ?_
    refine AOD.pure (@LT.callF Try.prog _ _ 76 _ _ [(.agg [(iC f.Graph.Points), (.pv (.xs false (f.Graph.Bars.map encTBar))), (.pv (.xs false (f.Places.map encTPlace)))])] _ _ [] _ _ _ _ (w_spec_FrameworkRank f r4 hr4) rfl cb76 (.cons (.agg (.cons (.same rfl) (.cons (.same rfl) (.cons (.same rfl) .nil)))) .nil) rfl rfl trivial) ⟨rfl, rfl, trivial⟩ trivial rfl rfl ?_
    refine AOD.pure (LT.sub rfl) ⟨rfl, rfl, trivial⟩ trivial rfl rfl ?_
    refine AOD.pure (LT.assign (v := (.s (.c (iC (w64 ((w64 ((w64 (2 * f.Graph.Points)) - r3)) - r4)))))) rfl) ⟨rfl, trivial⟩ trivial rfl rfl ?_
    refine AOD.nil (by kernel_rfl) ?_
    refine AWR.ret (FPost.mk (.inr rfl) ⟨rfl, trivial⟩ trivial rfl ⟨PermP.sc, trivial⟩ trivial)
set_option maxRecDepth 100000 in
set_option maxHeartbeats 8000000 in
theorem w_spec_IsStiff (f : TFramework) : ∀ t, m_spec_IsStiff f = some t → Fw.Fn Try.prog 29 [(.agg [(iC f.Graph.Points), (.pv (.xs false (f.Graph.Bars.map encTBar))), (.pv (.xs false (f.Places.map encTPlace)))])] [] (.s (.c (bC t))) [] [] [] := by
  refine Fw.Fn.of (P := Try.prog) (X := []) (pn := []) (rs := (fun (t : Bool) => [(.c (bC t))])) (dfs := (fun (t : Bool) => [])) Try.func29 rfl Try.ntmps29 (Nat.le_of_ble_eq_true rfl) rfl ?_
  intro w0 U0 R0 g0
  unfold m_spec_IsStiff
  refine AWR.seq ?_
  refine AWR.region ?_
  refine AOR.step (LT.box (n := 21) (v := (.agg [(iC f.Graph.Points), (.pv (.xs false (f.Graph.Bars.map encTBar))), (.pv (.xs false (f.Places.map encTPlace)))])) rfl sz29 (by exact rfl)) ⟨rfl, trivial⟩ trivial rfl rfl ?_
  refine AOR.pure (LT.assign (v := (.s (.c (bC false)))) rfl) ⟨⟨rfl, rfl⟩, trivial⟩ trivial rfl rfl ?_
  refine AOR.nil ?_
  refine AWR.seq ?_
  refine AWR.region ?_
  refine AOR.pure (LT.bloadN (out := [(iC f.Graph.Points), (.pv (.xs false (f.Graph.Bars.map encTBar))), (.pv (.xs false (f.Places.map encTPlace)))]) rfl ag29 (infS inf29) sz29 (by exact rfl) (by exact rfl)) ⟨rfl, trivial⟩ ⟨rfl, trivial⟩ rfl rfl ?_
  refine AOR.bind fun r1 hr1 => ?_
  refine AOR.pure (@LT.callF Try.prog _ _ 63 _ _ [(.agg [(iC f.Graph.Points), (.pv (.xs false (f.Graph.Bars.map encTBar))), (.pv (.xs false (f.Places.map encTPlace)))])] _ _ [] _ _ _ _ (w_spec_FrameworkFreedom f r1 hr1) rfl cb63 (.cons (.agg (.cons (.same rfl) (.cons (.same rfl) (.cons (.same rfl) .nil)))) .nil) rfl rfl trivial) ⟨rfl, rfl, trivial⟩ trivial rfl rfl ?_
  refine AOR.pure (LT.eql rfl) ⟨rfl, ⟨rfl, rfl⟩, trivial⟩ trivial rfl rfl ?_
  refine AOR.pure (LT.assign (v := (.s (.c (bC (r1 == 0))))) rfl) ⟨rfl, trivial⟩ trivial rfl rfl ?_
  refine AOR.nil ?_
  refine AWR.ret (FPost.mk (.inr rfl) ⟨rfl, trivial⟩ trivial rfl ⟨PermP.sc, trivial⟩ trivial)
set_option maxRecDepth 100000 in
set_option maxHeartbeats 8000000 in
theorem w_spec_ProvesStiff (tV : TTensegrity) (w : (List Int)) : ∀ t, m_spec_ProvesStiff tV w = some t → Fw.Fn Try.prog 37 [(.agg [(iC tV.Framework.Graph.Points), (.pv (.xs false (tV.Framework.Graph.Bars.map encTBar))), (.pv (.xs false (tV.Framework.Places.map encTPlace))), (.pv (.xs false (tV.Kinds.map encInt)))]), (.c (.pv (.xs false (w.map encInt))))] [] (.s (.c (bC t))) [] [] [] := by
  refine Fw.Fn.of (P := Try.prog) (X := []) (pn := []) (rs := (fun (t : Bool) => [(.c (bC t))])) (dfs := (fun (t : Bool) => [])) Try.func37 rfl Try.ntmps37 (Nat.le_of_ble_eq_true rfl) rfl ?_
  intro w0 U0 R0 g0
  unfold m_spec_ProvesStiff
  refine AWR.seq ?_
  refine AWR.region ?_
  refine AOR.step (LT.box (n := 21) (v := (.agg [(iC tV.Framework.Graph.Points), (.pv (.xs false (tV.Framework.Graph.Bars.map encTBar))), (.pv (.xs false (tV.Framework.Places.map encTPlace))), (.pv (.xs false (tV.Kinds.map encInt)))])) rfl sz59 (by exact rfl)) ⟨rfl, trivial⟩ trivial rfl rfl ?_
  refine AOR.pure (LT.assign (v := (.s (.c (bC false)))) rfl) ⟨⟨rfl, rfl⟩, trivial⟩ trivial rfl rfl ?_
  refine AOR.nil ?_
  refine AWR.seq ?_
  refine AWR.joinK (fun j4 => ([(4, (.s (.c (bC j4))))], [])) ?_ (fun j4 _ => ?_)
  · refine AWR.region ?_
    refine AOR.pure (LT.bloadN (out := [(iC tV.Framework.Graph.Points), (.pv (.xs false (tV.Framework.Graph.Bars.map encTBar))), (.pv (.xs false (tV.Framework.Places.map encTPlace))), (.pv (.xs false (tV.Kinds.map encInt)))]) rfl ag59 (infS inf59) sz59 (by exact rfl) (by exact rfl)) ⟨rfl, trivial⟩ ⟨rfl, trivial⟩ rfl rfl ?_
    refine AOR.pure (LT.move (v := (.s (.c (.pv (.xs false (w.map encInt)))))) rfl) ⟨rfl, trivial⟩ trivial rfl rfl ?_
    refine AOR.bind fun r5 hr5 => ?_
    refine AOR.pure (@LT.callF Try.prog _ _ 107 _ _ [(.agg [(iC tV.Framework.Graph.Points), (.pv (.xs false (tV.Framework.Graph.Bars.map encTBar))), (.pv (.xs false (tV.Framework.Places.map encTPlace))), (.pv (.xs false (tV.Kinds.map encInt)))]), (.c (.pv (.xs false (w.map encInt))))] _ _ [] _ _ _ _ (w_spec_IsStrictStress tV w r5 hr5) rfl cb107 (.cons (.agg (.cons (.same rfl) (.cons (.same rfl) (.cons (.same rfl) (.cons (.same rfl) .nil))))) (.cons (.c (.same rfl)) .nil)) rfl rfl trivial) ⟨rfl, rfl, rfl, trivial⟩ trivial rfl rfl ?_
    refine AOR.pure (LT.move (v := (.s (.c (bC r5)))) rfl) ⟨rfl, trivial⟩ trivial rfl rfl ?_
    refine AOR.split (fun hb6 => ?_) (fun hb6 => ?_)
    · refine AOR.pure (LT.fieldPl rfl fo59_0) ⟨rfl, trivial⟩ trivial ⟨_, rfl, .inl ⟨_, rfl, (by rw [hb6]; rfl)⟩⟩ rfl ?_
      refine AOR.pure (LT.bloadN (out := [(iC tV.Framework.Graph.Points), (.pv (.xs false (tV.Framework.Graph.Bars.map encTBar))), (.pv (.xs false (tV.Framework.Places.map encTPlace)))]) rfl ag29 (infS inf29) sz29 (by exact rfl) (by exact rfl)) ⟨rfl, trivial⟩ ⟨rfl, trivial⟩ ⟨_, rfl, .inl ⟨_, rfl, (by rw [hb6]; rfl)⟩⟩ rfl ?_
      refine AOR.bind fun r7 hr7 => ?_
      refine AOR.pure (@LT.callF Try.prog _ _ 29 _ _ [(.agg [(iC tV.Framework.Graph.Points), (.pv (.xs false (tV.Framework.Graph.Bars.map encTBar))), (.pv (.xs false (tV.Framework.Places.map encTPlace)))])] _ _ [] _ _ _ _ (w_spec_IsStiff tV.Framework r7 hr7) rfl cb29 (.cons (.agg (.cons (.same rfl) (.cons (.same rfl) (.cons (.same rfl) .nil)))) .nil) rfl rfl trivial) ⟨rfl, rfl, trivial⟩ trivial ⟨_, rfl, .inl ⟨_, rfl, (by rw [hb6]; rfl)⟩⟩ rfl ?_
      refine AOR.pure (LT.pickT (v := (.s (.c (bC r7)))) rfl hb6) ⟨rfl, rfl, trivial⟩ trivial rfl rfl ?_
      refine AOR.pure (LT.assign (v := (.s (.c (bC r7)))) rfl) ⟨rfl, trivial⟩ trivial rfl rfl ?_
      refine AOR.nil ?_
      refine AWR.nil ⟨rfl, Ent.of ⟨rfl, trivial⟩ trivial⟩
    · refine AOR.skip ⟨_, rfl, .inl ⟨_, rfl, (by rw [hb6]; rfl)⟩⟩ rfl ?_
      refine AOR.skip ⟨_, rfl, .inl ⟨_, rfl, (by rw [hb6]; rfl)⟩⟩ rfl ?_
      refine AOR.skip ⟨_, rfl, .inl ⟨_, rfl, (by rw [hb6]; rfl)⟩⟩ rfl ?_
      refine AOR.pure (LT.pickF (v := (.s (.c (bC false)))) rfl hb6) ⟨rfl, ⟨rfl, rfl⟩, trivial⟩ trivial rfl rfl ?_
      refine AOR.pure (LT.assign (v := (.s (.c (bC false)))) rfl) ⟨rfl, trivial⟩ trivial rfl rfl ?_
      refine AOR.nil ?_
      refine AWR.nil ⟨rfl, Ent.of ⟨rfl, trivial⟩ trivial⟩
  · refine AWR.ret (FPost.mk (.inr rfl) ⟨rfl, trivial⟩ trivial rfl ⟨PermP.sc, trivial⟩ trivial)
set_option maxRecDepth 100000 in
set_option maxHeartbeats 8000000 in
theorem w_impl_IsTensegrity (tV : TTensegrity) : ∀ t, m_impl_IsTensegrity tV = some t → Fw.Fn Try.prog 136 [(.agg [(iC tV.Framework.Graph.Points), (.pv (.xs false (tV.Framework.Graph.Bars.map encTBar))), (.pv (.xs false (tV.Framework.Places.map encTPlace))), (.pv (.xs false (tV.Kinds.map encInt)))])] [] (.s (.c (bC t))) [] [] [] := by
  refine Fw.Fn.of (P := Try.prog) (X := []) (pn := []) (rs := (fun (t : Bool) => [(.c (bC t))])) (dfs := (fun (t : Bool) => [])) Try.func136 rfl Try.ntmps136 (Nat.le_of_ble_eq_true rfl) rfl ?_
  intro w0 U0 R0 g0
  unfold m_impl_IsTensegrity
  refine AWR.seq ?_
  refine AWR.region ?_
  refine AOR.step (LT.box (n := 21) (v := (.agg [(iC tV.Framework.Graph.Points), (.pv (.xs false (tV.Framework.Graph.Bars.map encTBar))), (.pv (.xs false (tV.Framework.Places.map encTPlace))), (.pv (.xs false (tV.Kinds.map encInt)))])) rfl sz59 (by exact rfl)) ⟨rfl, trivial⟩ trivial rfl rfl ?_
  refine AOR.pure (LT.assign (v := (.s (.c (bC false)))) rfl) ⟨⟨rfl, rfl⟩, trivial⟩ trivial rfl rfl ?_
  refine AOR.nil ?_
  refine AWR.seq ?_
  refine AWR.seq ?_
  refine AWR.region ?_
  refine AOR.pure (LT.fieldPl rfl fo59_1) ⟨rfl, trivial⟩ trivial rfl rfl ?_
  refine AOR.pure (LT.bload1 (c := (.pv (.xs false (tV.Kinds.map encInt)))) rfl ag37 (by exact rfl)) ⟨rfl, trivial⟩ ⟨rfl, trivial⟩ rfl rfl ?_
  refine AOR.pure (LT.tlenRO rfl und37) ⟨rfl, trivial⟩ trivial rfl rfl ?_
  refine AOR.pure (LT.move (v := (.s (.c (iC 0)))) rfl) ⟨⟨rfl, rfl⟩, trivial⟩ trivial rfl rfl ?_
  refine AOR.nil ?_
  refine AWR.block ?_
  refine AWR.loopR (id := 0) (m_impl_IsTensegrity_L1 tV) (fun s1 => ([(1, (.s (.c (.pl 21 0)))), (6, (.s (.c (.pv (.xs false (tV.Kinds.map encInt)))))), (7, (.s (.c (iC (tV.Kinds.length : Int))))), (8, (.s (.c (iC s1))))], [(21, (.row 59 [[(iC tV.Framework.Graph.Points), (.pv (.xs false (tV.Framework.Graph.Bars.map encTBar))), (.pv (.xs false (tV.Framework.Places.map encTPlace))), (.pv (.xs false (tV.Kinds.map encInt)))]]))])) (fun b10 => ([(1, (.s (.c (.pl 21 0))))], [(21, (.row 59 [[(iC tV.Framework.Graph.Points), (.pv (.xs false (tV.Framework.Graph.Bars.map encTBar))), (.pv (.xs false (tV.Framework.Places.map encTPlace))), (.pv (.xs false (tV.Kinds.map encInt)))]]))])) (FPost Try.prog Try.f136.results.toList [] [] (fun (t : Bool) => [(.c (bC t))]) (fun (t : Bool) => [])) ?_ (Ent.of ⟨rfl, rfl, rfl, rfl, trivial⟩ ⟨rfl, trivial⟩) rfl (fun b10 _ => ?_) (by intro r t σ m ht hk; injection ht with ht; subst ht; exact hk)
  · intro s1
    unfold m_impl_IsTensegrity_L1
    refine AWR.seq ?_
    refine AWR.region ?_
    refine AOR.pure (LT.lss rfl) ⟨rfl, rfl, trivial⟩ trivial rfl rfl ?_
    refine AOR.nil ?_
    refine AWR.seq ?_
    refine AWR.cond rfl (fun hc11 => ?_) (fun hc11 => ?_)
    · refine AWR.skip ?_
      refine AWR.seq ?_
      refine AWR.block ?_
      refine AWR.seq ?_
      refine AWR.region ?_
      refine AOR.bind fun x12 hx12 => ?_
      refine AOR.pure (LT.tindexRO (enc := encInt) rfl el37 hx12 sz3) ⟨rfl, rfl, trivial⟩ trivial rfl rfl ?_
      refine AOR.pure (LT.loadPx1 rfl ag3) ⟨rfl, trivial⟩ trivial rfl rfl ?_
      refine AOR.pure (LT.assign (v := (.s (.c (iC x12)))) rfl) ⟨rfl, trivial⟩ trivial rfl rfl ?_
      refine AOR.nil ?_
      refine AWR.seq ?_
      refine AWR.region ?_
      refine AOR.pure (LT.move (v := (.s (.c (iC x12)))) rfl) ⟨rfl, trivial⟩ trivial rfl rfl ?_
      refine AOR.bind fun r13 hr13 => ?_
      refine AOR.pure (@LT.callF Try.prog _ _ 119 _ _ [(.c (iC x12)), (.c (iC 0)), (.c (iC 2))] _ _ [] _ _ _ _ (w_impl_within x12 0 2 r13 hr13) rfl cb119 (.cons (.c (.same rfl)) (.cons (.c (.same rfl)) (.cons (.c (.same rfl)) .nil))) rfl rfl trivial) ⟨rfl, rfl, ⟨rfl, rfl⟩, ⟨rfl, rfl⟩, trivial⟩ trivial rfl rfl ?_
      refine AOR.pure (LT.not rfl) ⟨rfl, trivial⟩ trivial rfl rfl ?_
      refine AOR.nil ?_
      refine AWR.cond rfl (fun hc14 => ?_) (fun hc14 => ?_)
      · refine AWR.seq ?_
        refine AWR.region ?_
        refine AOR.pure (LT.assign (v := (.s (.c (bC false)))) rfl) ⟨⟨rfl, rfl⟩, trivial⟩ trivial rfl rfl ?_
        refine AOR.nil ?_
        refine AWR.ret ⟨rfl, FPost.mk (.inr rfl) ⟨rfl, trivial⟩ trivial rfl ⟨PermP.sc, trivial⟩ trivial⟩
      · refine AWR.skip ?_
        refine AWR.blk ?_
        refine AWR.region ?_
        refine AOR.pure (LT.add rfl) ⟨rfl, ⟨rfl, rfl⟩, trivial⟩ trivial rfl rfl ?_
        refine AOR.pure (LT.move (v := (.s (.c (iC (w64 (s1 + 1)))))) rfl) ⟨rfl, trivial⟩ trivial rfl rfl ?_
        refine AOR.nil ?_
        refine AWR.nil ⟨rfl, Ent.of ⟨rfl, rfl, rfl, rfl, trivial⟩ ⟨rfl, trivial⟩⟩
    · refine AWR.exit_end rfl ⟨rfl, Ent.of ⟨rfl, trivial⟩ ⟨rfl, trivial⟩⟩
  · refine AWR.seq ?_
    refine AWR.joinK (fun j17 => ([(2, (.s (.c (bC j17))))], [])) ?_ (fun j17 _ => ?_)
    · refine AWR.region ?_
      refine AOR.pure (LT.fieldPl rfl fo59_0) ⟨rfl, trivial⟩ trivial rfl rfl ?_
      refine AOR.pure (LT.bloadN (out := [(iC tV.Framework.Graph.Points), (.pv (.xs false (tV.Framework.Graph.Bars.map encTBar))), (.pv (.xs false (tV.Framework.Places.map encTPlace)))]) rfl ag29 (infS inf29) sz29 (by exact rfl) (by exact rfl)) ⟨rfl, trivial⟩ ⟨rfl, trivial⟩ rfl rfl ?_
      refine AOR.bind fun r18 hr18 => ?_
      refine AOR.pure (@LT.callF Try.prog _ _ 86 _ _ [(.agg [(iC tV.Framework.Graph.Points), (.pv (.xs false (tV.Framework.Graph.Bars.map encTBar))), (.pv (.xs false (tV.Framework.Places.map encTPlace)))])] _ _ [] _ _ _ _ (w_impl_IsFramework tV.Framework r18 hr18) rfl cb86 (.cons (.agg (.cons (.same rfl) (.cons (.same rfl) (.cons (.same rfl) .nil)))) .nil) rfl rfl trivial) ⟨rfl, rfl, trivial⟩ trivial rfl rfl ?_
      refine AOR.pure (LT.move (v := (.s (.c (bC r18)))) rfl) ⟨rfl, trivial⟩ trivial rfl rfl ?_
      refine AOR.split (fun hb19 => ?_) (fun hb19 => ?_)
      · refine AOR.pure (LT.fieldPl rfl fo59_1) ⟨rfl, trivial⟩ trivial ⟨_, rfl, .inl ⟨_, rfl, (by rw [hb19]; rfl)⟩⟩ rfl ?_
        refine AOR.pure (LT.bload1 (c := (.pv (.xs false (tV.Kinds.map encInt)))) rfl ag37 (by exact rfl)) ⟨rfl, trivial⟩ ⟨rfl, trivial⟩ ⟨_, rfl, .inl ⟨_, rfl, (by rw [hb19]; rfl)⟩⟩ rfl ?_
        refine AOR.pure (LT.tlenRO rfl und37) ⟨rfl, trivial⟩ trivial ⟨_, rfl, .inl ⟨_, rfl, (by rw [hb19]; rfl)⟩⟩ rfl ?_
        refine AOR.pure (LT.fieldPl rfl fo59_0) ⟨rfl, trivial⟩ trivial ⟨_, rfl, .inl ⟨_, rfl, (by rw [hb19]; rfl)⟩⟩ rfl ?_
        refine AOR.pure (LT.fieldPl rfl fo29_0) ⟨rfl, trivial⟩ trivial ⟨_, rfl, .inl ⟨_, rfl, (by rw [hb19]; rfl)⟩⟩ rfl ?_
        refine AOR.pure (LT.fieldPl rfl fo26_1) ⟨rfl, trivial⟩ trivial ⟨_, rfl, .inl ⟨_, rfl, (by rw [hb19]; rfl)⟩⟩ rfl ?_
        refine AOR.pure (LT.bload1 (c := (.pv (.xs false (tV.Framework.Graph.Bars.map encTBar)))) rfl ag24 (by exact rfl)) ⟨rfl, trivial⟩ ⟨rfl, trivial⟩ ⟨_, rfl, .inl ⟨_, rfl, (by rw [hb19]; rfl)⟩⟩ rfl ?_
        refine AOR.pure (LT.tlenRO rfl und24) ⟨rfl, trivial⟩ trivial ⟨_, rfl, .inl ⟨_, rfl, (by rw [hb19]; rfl)⟩⟩ rfl ?_
        refine AOR.pure (LT.eql rfl) ⟨rfl, rfl, trivial⟩ trivial ⟨_, rfl, .inl ⟨_, rfl, (by rw [hb19]; rfl)⟩⟩ rfl ?_
        refine AOR.pure (LT.pickT (v := (.s (.c (bC ((tV.Kinds.length : Int) == (tV.Framework.Graph.Bars.length : Int)))))) rfl hb19) ⟨rfl, rfl, trivial⟩ trivial rfl rfl ?_
        refine AOR.pure (LT.assign (v := (.s (.c (bC ((tV.Kinds.length : Int) == (tV.Framework.Graph.Bars.length : Int)))))) rfl) ⟨rfl, trivial⟩ trivial rfl rfl ?_
        refine AOR.nil ?_
        refine AWR.nil ⟨rfl, Ent.of ⟨rfl, trivial⟩ trivial⟩
      · refine AOR.skip ⟨_, rfl, .inl ⟨_, rfl, (by rw [hb19]; rfl)⟩⟩ rfl ?_
        refine AOR.skip ⟨_, rfl, .inl ⟨_, rfl, (by rw [hb19]; rfl)⟩⟩ rfl ?_
        refine AOR.skip ⟨_, rfl, .inl ⟨_, rfl, (by rw [hb19]; rfl)⟩⟩ rfl ?_
        refine AOR.skip ⟨_, rfl, .inl ⟨_, rfl, (by rw [hb19]; rfl)⟩⟩ rfl ?_
        refine AOR.skip ⟨_, rfl, .inl ⟨_, rfl, (by rw [hb19]; rfl)⟩⟩ rfl ?_
        refine AOR.skip ⟨_, rfl, .inl ⟨_, rfl, (by rw [hb19]; rfl)⟩⟩ rfl ?_
        refine AOR.skip ⟨_, rfl, .inl ⟨_, rfl, (by rw [hb19]; rfl)⟩⟩ rfl ?_
        refine AOR.skip ⟨_, rfl, .inl ⟨_, rfl, (by rw [hb19]; rfl)⟩⟩ rfl ?_
        refine AOR.skip ⟨_, rfl, .inl ⟨_, rfl, (by rw [hb19]; rfl)⟩⟩ rfl ?_
        refine AOR.pure (LT.pickF (v := (.s (.c (bC false)))) rfl hb19) ⟨rfl, ⟨rfl, rfl⟩, trivial⟩ trivial rfl rfl ?_
        refine AOR.pure (LT.assign (v := (.s (.c (bC false)))) rfl) ⟨rfl, trivial⟩ trivial rfl rfl ?_
        refine AOR.nil ?_
        refine AWR.nil ⟨rfl, Ent.of ⟨rfl, trivial⟩ trivial⟩
    · refine AWR.ret (FPost.mk (.inr rfl) ⟨rfl, trivial⟩ trivial rfl ⟨PermP.sc, trivial⟩ trivial)
set_option maxRecDepth 100000 in
set_option maxHeartbeats 8000000 in
theorem w_impl_areSmall (v : (List Int)) (n : Int) : ∀ t, m_impl_areSmall v n = some t → Fw.Fn Try.prog 162 [(.c (.pv (.xs false (v.map encInt)))), (.c (iC n))] [] (.s (.c (bC t))) [] [] [] := by
  refine Fw.Fn.of (P := Try.prog) (X := []) (pn := []) (rs := (fun (t : Bool) => [(.c (bC t))])) (dfs := (fun (t : Bool) => [])) Try.func162 rfl Try.ntmps162 (Nat.le_of_ble_eq_true rfl) rfl ?_
  intro w0 U0 R0 g0
  unfold m_impl_areSmall
  refine AWR.seq ?_
  refine AWR.region ?_
  refine AOR.pure (LT.assign (v := (.s (.c (bC false)))) rfl) ⟨⟨rfl, rfl⟩, trivial⟩ trivial rfl rfl ?_
  refine AOR.nil ?_
  refine AWR.seq ?_
  refine AWR.seq ?_
  refine AWR.region ?_
  refine AOR.pure (LT.move (v := (.s (.c (.pv (.xs false (v.map encInt)))))) rfl) ⟨rfl, trivial⟩ trivial rfl rfl ?_
  refine AOR.pure (LT.tlenRO rfl und37) ⟨rfl, trivial⟩ trivial rfl rfl ?_
  refine AOR.pure (LT.move (v := (.s (.c (iC 0)))) rfl) ⟨⟨rfl, rfl⟩, trivial⟩ trivial rfl rfl ?_
  refine AOR.nil ?_
  refine AWR.block ?_
  refine AWR.loopR (id := 0) (m_impl_areSmall_L1 v) (fun s1 => ([(0, (.s (.c (.pv (.xs false (v.map encInt)))))), (1, (.s (.c (iC n)))), (7, (.s (.c (.pv (.xs false (v.map encInt)))))), (8, (.s (.c (iC (v.length : Int))))), (9, (.s (.c (iC s1))))], [])) (fun b10 => ([(0, (.s (.c (.pv (.xs false (v.map encInt)))))), (1, (.s (.c (iC n))))], [])) (FPost Try.prog Try.f162.results.toList [] [] (fun (t : Bool) => [(.c (bC t))]) (fun (t : Bool) => [])) ?_ (Ent.of ⟨rfl, rfl, rfl, rfl, rfl, trivial⟩ trivial) rfl (fun b10 _ => ?_) (by intro r t σ m ht hk; injection ht with ht; subst ht; exact hk)
  · intro s1
    unfold m_impl_areSmall_L1
    refine AWR.seq ?_
    refine AWR.region ?_
    refine AOR.pure (LT.lss rfl) ⟨rfl, rfl, trivial⟩ trivial rfl rfl ?_
    refine AOR.nil ?_
    refine AWR.seq ?_
    refine AWR.cond rfl (fun hc11 => ?_) (fun hc11 => ?_)
    · refine AWR.skip ?_
      refine AWR.seq ?_
      refine AWR.block ?_
      refine AWR.seq ?_
      refine AWR.region ?_
      refine AOR.bind fun x12 hx12 => ?_
      refine AOR.pure (LT.tindexRO (enc := encInt) rfl el37 hx12 sz3) ⟨rfl, rfl, trivial⟩ trivial rfl rfl ?_
      refine AOR.pure (LT.loadPx1 rfl ag3) ⟨rfl, trivial⟩ trivial rfl rfl ?_
      refine AOR.pure (LT.assign (v := (.s (.c (iC x12)))) rfl) ⟨rfl, trivial⟩ trivial rfl rfl ?_
      refine AOR.nil ?_
      refine AWR.seq ?_
      refine AWR.region ?_
      refine AOR.pure (LT.move (v := (.s (.c (iC x12)))) rfl) ⟨rfl, trivial⟩ trivial rfl rfl ?_
      refine AOR.bind fun r13 hr13 => ?_
      refine AOR.pure (@LT.callF Try.prog _ _ 119 _ _ [(.c (iC x12)), (.c (iC (-10000000000))), (.c (iC 10000000000))] _ _ [] _ _ _ _ (w_impl_within x12 (-10000000000) 10000000000 r13 hr13) rfl cb119 (.cons (.c (.same rfl)) (.cons (.c (.same rfl)) (.cons (.c (.same rfl)) .nil))) rfl rfl trivial) ⟨rfl, rfl, ⟨rfl, rfl⟩, ⟨rfl, rfl⟩, trivial⟩ trivial rfl rfl ?_
      refine AOR.pure (LT.not rfl) ⟨rfl, trivial⟩ trivial rfl rfl ?_
      refine AOR.nil ?_
      refine AWR.cond rfl (fun hc14 => ?_) (fun hc14 => ?_)
      · refine AWR.seq ?_
        refine AWR.region ?_
        refine AOR.pure (LT.assign (v := (.s (.c (bC false)))) rfl) ⟨⟨rfl, rfl⟩, trivial⟩ trivial rfl rfl ?_
        refine AOR.nil ?_
        refine AWR.ret ⟨rfl, FPost.mk (.inr rfl) ⟨rfl, trivial⟩ trivial rfl ⟨PermP.sc, trivial⟩ trivial⟩
      · refine AWR.skip ?_
        refine AWR.blk ?_
        refine AWR.region ?_
        refine AOR.pure (LT.add rfl) ⟨rfl, ⟨rfl, rfl⟩, trivial⟩ trivial rfl rfl ?_
        refine AOR.pure (LT.move (v := (.s (.c (iC (w64 (s1 + 1)))))) rfl) ⟨rfl, trivial⟩ trivial rfl rfl ?_
        refine AOR.nil ?_
        refine AWR.nil ⟨rfl, Ent.of ⟨rfl, rfl, rfl, rfl, rfl, trivial⟩ trivial⟩
    · refine AWR.exit_end rfl ⟨rfl, Ent.of ⟨rfl, rfl, trivial⟩ trivial⟩
  · refine AWR.seq ?_
    refine AWR.region ?_
    refine AOR.pure (LT.move (v := (.s (.c (.pv (.xs false (v.map encInt)))))) rfl) ⟨rfl, trivial⟩ trivial rfl rfl ?_
    refine AOR.pure (LT.tlenRO rfl und37) ⟨rfl, trivial⟩ trivial rfl rfl ?_
    refine AOR.pure (LT.move (v := (.s (.c (iC n)))) rfl) ⟨rfl, trivial⟩ trivial rfl rfl ?_
    refine AOR.pure (LT.eql rfl) ⟨rfl, rfl, trivial⟩ trivial rfl rfl ?_
    refine AOR.pure (LT.assign (v := (.s (.c (bC ((v.length : Int) == n))))) rfl) ⟨rfl, trivial⟩ trivial rfl rfl ?_
    refine AOR.nil ?_
    refine AWR.ret (FPost.mk (.inr rfl) ⟨rfl, trivial⟩ trivial rfl ⟨PermP.sc, trivial⟩ trivial)
set_option maxRecDepth 100000 in
set_option maxHeartbeats 8000000 in
theorem w_impl_areForces (f : TFramework) (w : (List Int)) : ∀ t, m_impl_areForces f w = some t → Fw.Fn Try.prog 93 [(.agg [(iC f.Graph.Points), (.pv (.xs false (f.Graph.Bars.map encTBar))), (.pv (.xs false (f.Places.map encTPlace)))]), (.c (.pv (.xs false (w.map encInt))))] [] (.s (.c (bC t))) [] [] [] := by
  refine Fw.Fn.of (P := Try.prog) (X := []) (pn := []) (rs := (fun (t : Bool) => [(.c (bC t))])) (dfs := (fun (t : Bool) => [])) Try.func93 rfl Try.ntmps93 (Nat.le_of_ble_eq_true rfl) rfl ?_
  intro w0 U0 R0 g0
  unfold m_impl_areForces
  refine AWR.seq ?_
  refine AWR.region ?_
  refine AOR.step (LT.box (n := 21) (v := (.agg [(iC f.Graph.Points), (.pv (.xs false (f.Graph.Bars.map encTBar))), (.pv (.xs false (f.Places.map encTPlace)))])) rfl sz29 (by exact rfl)) ⟨rfl, trivial⟩ trivial rfl rfl ?_
  refine AOR.pure (LT.assign (v := (.s (.c (bC false)))) rfl) ⟨⟨rfl, rfl⟩, trivial⟩ trivial rfl rfl ?_
  refine AOR.nil ?_
  refine AWR.seq ?_
  refine AWR.joinK (fun j4 => ([(4, (.s (.c (bC j4))))], [])) ?_ (fun j4 _ => ?_)
  · refine AWR.region ?_
    refine AOR.pure (LT.bloadN (out := [(iC f.Graph.Points), (.pv (.xs false (f.Graph.Bars.map encTBar))), (.pv (.xs false (f.Places.map encTPlace)))]) rfl ag29 (infS inf29) sz29 (by exact rfl) (by exact rfl)) ⟨rfl, trivial⟩ ⟨rfl, trivial⟩ rfl rfl ?_
    refine AOR.bind fun r5 hr5 => ?_
    refine AOR.pure (@LT.callF Try.prog _ _ 86 _ _ [(.agg [(iC f.Graph.Points), (.pv (.xs false (f.Graph.Bars.map encTBar))), (.pv (.xs false (f.Places.map encTPlace)))])] _ _ [] _ _ _ _ (w_impl_IsFramework f r5 hr5) rfl cb86 (.cons (.agg (.cons (.same rfl) (.cons (.same rfl) (.cons (.same rfl) .nil)))) .nil) rfl rfl trivial) ⟨rfl, rfl, trivial⟩ trivial rfl rfl ?_
    refine AOR.pure (LT.move (v := (.s (.c (bC r5)))) rfl) ⟨rfl, trivial⟩ trivial rfl rfl ?_
    refine AOR.split (fun hb6 => ?_) (fun hb6 => ?_)
    · refine AOR.pure (LT.move (v := (.s (.c (.pv (.xs false (w.map encInt)))))) rfl) ⟨rfl, trivial⟩ trivial ⟨_, rfl, .inl ⟨_, rfl, (by rw [hb6]; rfl)⟩⟩ rfl ?_
      refine AOR.pure (LT.fieldPl rfl fo29_0) ⟨rfl, trivial⟩ trivial ⟨_, rfl, .inl ⟨_, rfl, (by rw [hb6]; rfl)⟩⟩ rfl ?_
      refine AOR.pure (LT.fieldPl rfl fo26_1) ⟨rfl, trivial⟩ trivial ⟨_, rfl, .inl ⟨_, rfl, (by rw [hb6]; rfl)⟩⟩ rfl ?_
      refine AOR.pure (LT.bload1 (c := (.pv (.xs false (f.Graph.Bars.map encTBar)))) rfl ag24 (by exact rfl)) ⟨rfl, trivial⟩ ⟨rfl, trivial⟩ ⟨_, rfl, .inl ⟨_, rfl, (by rw [hb6]; rfl)⟩⟩ rfl ?_
      refine AOR.pure (LT.tlenRO rfl und24) ⟨rfl, trivial⟩ trivial ⟨_, rfl, .inl ⟨_, rfl, (by rw [hb6]; rfl)⟩⟩ rfl ?_
      refine AOR.bind fun r7 hr7 => ?_
      refine AOR.pure (@LT.callF Try.prog _ _ 162 _ _ [(.c (.pv (.xs false (w.map encInt)))), (.c (iC (f.Graph.Bars.length : Int)))] _ _ [] _ _ _ _ (w_impl_areSmall w (f.Graph.Bars.length : Int) r7 hr7) rfl cb162 (.cons (.c (.same rfl)) (.cons (.c (.same rfl)) .nil)) rfl rfl trivial) ⟨rfl, rfl, rfl, trivial⟩ trivial ⟨_, rfl, .inl ⟨_, rfl, (by rw [hb6]; rfl)⟩⟩ rfl ?_
      refine AOR.pure (LT.pickT (v := (.s (.c (bC r7)))) rfl hb6) ⟨rfl, rfl, trivial⟩ trivial rfl rfl ?_
      refine AOR.pure (LT.assign (v := (.s (.c (bC r7)))) rfl) ⟨rfl, trivial⟩ trivial rfl rfl ?_
      refine AOR.nil ?_
      refine AWR.nil ⟨rfl, Ent.of ⟨rfl, trivial⟩ trivial⟩
    · refine AOR.skip ⟨_, rfl, .inl ⟨_, rfl, (by rw [hb6]; rfl)⟩⟩ rfl ?_
      refine AOR.skip ⟨_, rfl, .inl ⟨_, rfl, (by rw [hb6]; rfl)⟩⟩ rfl ?_
      refine AOR.skip ⟨_, rfl, .inl ⟨_, rfl, (by rw [hb6]; rfl)⟩⟩ rfl ?_
      refine AOR.skip ⟨_, rfl, .inl ⟨_, rfl, (by rw [hb6]; rfl)⟩⟩ rfl ?_
      refine AOR.skip ⟨_, rfl, .inl ⟨_, rfl, (by rw [hb6]; rfl)⟩⟩ rfl ?_
      refine AOR.skip ⟨_, rfl, .inl ⟨_, rfl, (by rw [hb6]; rfl)⟩⟩ rfl ?_
      refine AOR.pure (LT.pickF (v := (.s (.c (bC false)))) rfl hb6) ⟨rfl, ⟨rfl, rfl⟩, trivial⟩ trivial rfl rfl ?_
      refine AOR.pure (LT.assign (v := (.s (.c (bC false)))) rfl) ⟨rfl, trivial⟩ trivial rfl rfl ?_
      refine AOR.nil ?_
      refine AWR.nil ⟨rfl, Ent.of ⟨rfl, trivial⟩ trivial⟩
  · refine AWR.ret (FPost.mk (.inr rfl) ⟨rfl, trivial⟩ trivial rfl ⟨PermP.sc, trivial⟩ trivial)
end Go.Proofs.Ytoeigmhhmadmbaa
end
section
set_option linter.unusedVariables false
set_option linter.unusedSimpArgs false
set_option linter.unnecessarySimpa false
open Go Go.Fw
namespace Go.Proofs.Ytoeigmhhmadmbaa
set_option maxRecDepth 100000 in
set_option maxHeartbeats 8000000 in
theorem w_impl_Bar_has (x : TBar) (v : Int) : ∀ t, m_impl_Bar_has x v = some t → Fw.Fn Try.prog 101 [(.agg [(iC x.A), (iC x.B)]), (.c (iC v))] [] (.s (.c (bC t))) [] [] [] := by
  refine Fw.Fn.of (P := Try.prog) (X := []) (pn := []) (rs := (fun (t : Bool) => [(.c (bC t))])) (dfs := (fun (t : Bool) => [])) Try.func101 rfl Try.ntmps101 (Nat.le_of_ble_eq_true rfl) rfl ?_
  intro w0 U0 R0 g0
  unfold m_impl_Bar_has
  refine AWR.seq ?_
  refine AWR.region ?_
  refine AOR.step (LT.box (n := 21) (v := (.agg [(iC x.A), (iC x.B)])) rfl sz79 (by exact rfl)) ⟨rfl, trivial⟩ trivial rfl rfl ?_
  refine AOR.pure (LT.assign (v := (.s (.c (bC false)))) rfl) ⟨⟨rfl, rfl⟩, trivial⟩ trivial rfl rfl ?_
  refine AOR.nil ?_
  refine AWR.seq ?_
  refine AWR.joinK (fun j2 => ([(4, (.s (.c (bC j2))))], [])) ?_ (fun j2 _ => ?_)
  · refine AWR.region ?_
    refine AOR.pure (LT.fieldPl rfl fo79_0) ⟨rfl, trivial⟩ trivial rfl rfl ?_
    refine AOR.pure (LT.bload1 (c := (iC x.A)) rfl ag3 (by exact rfl)) ⟨rfl, trivial⟩ ⟨rfl, trivial⟩ rfl rfl ?_
    refine AOR.pure (LT.move (v := (.s (.c (iC v)))) rfl) ⟨rfl, trivial⟩ trivial rfl rfl ?_
    refine AOR.pure (LT.eql rfl) ⟨rfl, rfl, trivial⟩ trivial rfl rfl ?_
    refine AOR.pure (LT.move (v := (.s (.c (bC (x.A == v))))) rfl) ⟨rfl, trivial⟩ trivial rfl rfl ?_
    refine AOR.split (fun hb3 => ?_) (fun hb3 => ?_)
    · refine AOR.skip ⟨_, rfl, .inl ⟨_, rfl, (by rw [hb3]; rfl)⟩⟩ rfl ?_
      refine AOR.skip ⟨_, rfl, .inl ⟨_, rfl, (by rw [hb3]; rfl)⟩⟩ rfl ?_
      refine AOR.skip ⟨_, rfl, .inl ⟨_, rfl, (by rw [hb3]; rfl)⟩⟩ rfl ?_
      refine AOR.skip ⟨_, rfl, .inl ⟨_, rfl, (by rw [hb3]; rfl)⟩⟩ rfl ?_
      refine AOR.pure (LT.pickT (v := (.s (.c (bC true)))) rfl hb3) ⟨rfl, ⟨rfl, rfl⟩, trivial⟩ trivial rfl rfl ?_
      refine AOR.pure (LT.assign (v := (.s (.c (bC true)))) rfl) ⟨rfl, trivial⟩ trivial rfl rfl ?_
      refine AOR.nil ?_
      refine AWR.nil ⟨rfl, Ent.of ⟨rfl, trivial⟩ trivial⟩
    · refine AOR.pure (LT.fieldPl rfl fo79_1) ⟨rfl, trivial⟩ trivial ⟨_, rfl, .inl ⟨_, rfl, (by rw [hb3]; rfl)⟩⟩ rfl ?_
      refine AOR.pure (LT.bload1 (c := (iC x.B)) rfl ag3 (by exact rfl)) ⟨rfl, trivial⟩ ⟨rfl, trivial⟩ ⟨_, rfl, .inl ⟨_, rfl, (by rw [hb3]; rfl)⟩⟩ rfl ?_
      refine AOR.pure (LT.move (v := (.s (.c (iC v)))) rfl) ⟨rfl, trivial⟩ trivial ⟨_, rfl, .inl ⟨_, rfl, (by rw [hb3]; rfl)⟩⟩ rfl ?_
      refine AOR.pure (LT.eql rfl) ⟨rfl, rfl, trivial⟩ trivial ⟨_, rfl, .inl ⟨_, rfl, (by rw [hb3]; rfl)⟩⟩ rfl ?_
      refine AOR.pure (LT.pickF (v := (.s (.c (bC (x.B == v))))) rfl hb3) ⟨rfl, rfl, trivial⟩ trivial rfl rfl ?_
      refine AOR.pure (LT.assign (v := (.s (.c (bC (x.B == v))))) rfl) ⟨rfl, trivial⟩ trivial rfl rfl ?_
      refine AOR.nil ?_
      refine AWR.nil ⟨rfl, Ent.of ⟨rfl, trivial⟩ trivial⟩
  · refine AWR.ret (FPost.mk (.inr rfl) ⟨rfl, trivial⟩ trivial rfl ⟨PermP.sc, trivial⟩ trivial)
set_option maxRecDepth 100000 in
set_option maxHeartbeats 8000000 in
theorem w_impl_ForceAt (f : TFramework) (w : (List Int)) (v : Int) : ∀ t, m_impl_ForceAt f w v = some t → Fw.Fn Try.prog 30 [(.agg [(iC f.Graph.Points), (.pv (.xs false (f.Graph.Bars.map encTBar))), (.pv (.xs false (f.Places.map encTPlace)))]), (.c (.pv (.xs false (w.map encInt)))), (.c (iC v))] [] (resA [(.c (iC t.1)), (.c (iC t.2))]) [] [] [] := by
  refine Fw.Fn.of (P := Try.prog) (X := []) (pn := []) (rs := (fun (t : (Int × Int)) => [(.c (iC t.1)), (.c (iC t.2))])) (dfs := (fun (t : (Int × Int)) => [])) Try.func30 rfl Try.ntmps30 (Nat.le_of_ble_eq_true rfl) rfl ?_
  intro w0 U0 R0 g0
  unfold m_impl_ForceAt
  refine AWR.seq ?_
  refine AWR.region ?_
  refine AOR.step (LT.box (n := 21) (v := (.agg [(iC f.Graph.Points), (.pv (.xs false (f.Graph.Bars.map encTBar))), (.pv (.xs false (f.Places.map encTPlace)))])) rfl sz29 (by exact rfl)) ⟨rfl, trivial⟩ trivial rfl rfl ?_
  refine AOR.pure (LT.assign (v := (.s (.c (iC 0)))) rfl) ⟨⟨rfl, rfl⟩, trivial⟩ trivial rfl rfl ?_
  refine AOR.pure (LT.assign (v := (.s (.c (iC 0)))) rfl) ⟨⟨rfl, rfl⟩, trivial⟩ trivial rfl rfl ?_
  refine AOR.nil ?_
  refine AWR.seq ?_
  refine AWR.region ?_
  refine AOR.pure (LT.assign (v := (.s (.c (iC 0)))) rfl) ⟨⟨rfl, rfl⟩, trivial⟩ trivial rfl rfl ?_
  refine AOR.pure (LT.assign (v := (.s (.c (iC 0)))) rfl) ⟨⟨rfl, rfl⟩, trivial⟩ trivial rfl rfl ?_
  refine AOR.nil ?_
  refine AWR.seq ?_
  refine AWR.seq ?_
  refine AWR.region ?_
  refine AOR.pure (LT.bloadN (out := [(iC f.Graph.Points), (.pv (.xs false (f.Graph.Bars.map encTBar))), (.pv (.xs false (f.Places.map encTPlace)))]) rfl ag29 (infS inf29) sz29 (by exact rfl) (by exact rfl)) ⟨rfl, trivial⟩ ⟨rfl, trivial⟩ rfl rfl ?_
  refine AOR.pure (LT.move (v := (.s (.c (.pv (.xs false (w.map encInt)))))) rfl) ⟨rfl, trivial⟩ trivial rfl rfl ?_
  refine AOR.bind fun r1 hr1 => ?_
  refine AOR.pure (@LT.callF Try.prog _ _ 93 _ _ [(.agg [(iC f.Graph.Points), (.pv (.xs false (f.Graph.Bars.map encTBar))), (.pv (.xs false (f.Places.map encTPlace)))]), (.c (.pv (.xs false (w.map encInt))))] _ _ [] _ _ _ _ (w_impl_areForces f w r1 hr1) rfl cb93 (.cons (.agg (.cons (.same rfl) (.cons (.same rfl) (.cons (.same rfl) .nil)))) (.cons (.c (.same rfl)) .nil)) rfl rfl trivial) ⟨rfl, rfl, rfl, trivial⟩ trivial rfl rfl ?_
  refine AOR.pure (LT.not rfl) ⟨rfl, trivial⟩ trivial rfl rfl ?_
  refine AOR.nil ?_
  refine AWR.cond rfl (fun hc2 => ?_) (fun hc2 => ?_)
  · refine AWR.seq ?_
    refine AWR.ent (Ent.of (σ' := [(8, (.s (.c (iC 0)))), (9, (.s (.c (iC 0))))]) (m' := []) ⟨rfl, rfl, trivial⟩ trivial) ?_
    refine AWR.region ?_
    refine AOR.pure (LT.move (v := (.s (.c (iC 0)))) rfl) ⟨rfl, trivial⟩ trivial rfl rfl ?_
    refine AOR.pure (LT.move (v := (.s (.c (iC 0)))) rfl) ⟨rfl, trivial⟩ trivial rfl rfl ?_
    refine AOR.pure (LT.assign (v := (.s (.c (iC 0)))) rfl) ⟨rfl, trivial⟩ trivial rfl rfl ?_
    refine AOR.pure (LT.assign (v := (.s (.c (iC 0)))) rfl) ⟨rfl, trivial⟩ trivial rfl rfl ?_
    refine AOR.nil ?_
    refine AWR.ret (FPost.mk (.inr rfl) ⟨rfl, rfl, trivial⟩ trivial rfl ⟨PermP.sc, PermP.sc, trivial⟩ trivial)
  · refine AWR.skip ?_
    refine AWR.seq ?_
    refine AWR.seq ?_
    refine AWR.ent (Ent.of (σ' := [(1, (.s (.c (.pv (.xs false (w.map encInt)))))), (2, (.s (.c (iC v)))), (3, (.s (.c (.pl 21 0)))), (8, (.s (.c (iC 0)))), (9, (.s (.c (iC 0))))]) (m' := [(21, (.row 29 [[(iC f.Graph.Points), (.pv (.xs false (f.Graph.Bars.map encTBar))), (.pv (.xs false (f.Places.map encTPlace)))]]))]) ⟨rfl, rfl, rfl, rfl, rfl, trivial⟩ ⟨rfl, trivial⟩) ?_
    refine AWR.region ?_
    refine AOR.pure (LT.fieldPl rfl fo29_0) ⟨rfl, trivial⟩ trivial rfl rfl ?_
    refine AOR.pure (LT.fieldPl rfl fo26_1) ⟨rfl, trivial⟩ trivial rfl rfl ?_
    refine AOR.pure (LT.bload1 (c := (.pv (.xs false (f.Graph.Bars.map encTBar)))) rfl ag24 (by exact rfl)) ⟨rfl, trivial⟩ ⟨rfl, trivial⟩ rfl rfl ?_
    refine AOR.pure (LT.tlenRO rfl und24) ⟨rfl, trivial⟩ trivial rfl rfl ?_
    refine AOR.pure (LT.move (v := (.s (.c (iC 0)))) rfl) ⟨⟨rfl, rfl⟩, trivial⟩ trivial rfl rfl ?_
    refine AOR.nil ?_
    refine AWR.block ?_
    refine AWR.loop1 (id := 0) (m_impl_ForceAt_L1 f w v) (fun s3 => ([(1, (.s (.c (.pv (.xs false (w.map encInt)))))), (2, (.s (.c (iC v)))), (3, (.s (.c (.pl 21 0)))), (8, (.s (.c (iC s3.1)))), (9, (.s (.c (iC s3.2.1)))), (22, (.s (.c (.pv (.xs false (f.Graph.Bars.map encTBar)))))), (23, (.s (.c (iC (f.Graph.Bars.length : Int))))), (24, (.s (.c (iC s3.2.2))))], [(21, (.row 29 [[(iC f.Graph.Points), (.pv (.xs false (f.Graph.Bars.map encTBar))), (.pv (.xs false (f.Places.map encTPlace)))]]))])) (fun b36 => ([(8, (.s (.c (iC b36.1)))), (9, (.s (.c (iC b36.2))))], [])) ?_ (Ent.of ⟨rfl, rfl, rfl, rfl, rfl, rfl, rfl, rfl, trivial⟩ ⟨rfl, trivial⟩) rfl (fun b36 _ => ?_)
    · intro s3
      unfold m_impl_ForceAt_L1
      refine AWR.seq ?_
      refine AWR.region ?_
      refine AOR.pure (LT.lss rfl) ⟨rfl, rfl, trivial⟩ trivial rfl rfl ?_
      refine AOR.nil ?_
      refine AWR.seq ?_
      refine AWR.cond rfl (fun hc37 => ?_) (fun hc37 => ?_)
      · refine AWR.skip ?_
        refine AWR.seq ?_
        refine AWR.block ?_
        refine AWR.seq ?_
        refine AWR.region ?_
        refine AOR.pure (LT.move (v := (.s (.c (iC s3.2.2)))) rfl) ⟨rfl, trivial⟩ trivial rfl rfl ?_
        refine AOR.bind fun x38 hx38 => ?_
        refine AOR.pure (LT.tindexRO (enc := encTBar) rfl el24 hx38 sz79) ⟨rfl, rfl, trivial⟩ trivial rfl rfl ?_
        refine AOR.pure (LT.loadPxN rfl ag79 (infS inf79) (by exact sz79.symm)) ⟨rfl, trivial⟩ trivial rfl rfl ?_
        refine AOR.step (LT.alloc (n := 23) (cells := [(iC 0), (iC 0)]) rfl ti79 rfl rfl rfl) trivial trivial rfl rfl ?_
        refine AOR.pure (LT.assign (v := (.s (.c (iC s3.2.2)))) rfl) ⟨rfl, trivial⟩ trivial rfl rfl ?_
        refine AOR.step (LT.bstore (v := (.agg [(iC x38.A), (iC x38.B)])) (out := [(iC x38.A), (iC x38.B)]) rfl rfl (infS inf79) sz79 (by exact rfl) (by exact Nat.le_of_ble_eq_true rfl) (by exact rfl)) ⟨rfl, rfl, trivial⟩ ⟨rfl, trivial⟩ rfl rfl ?_
        refine AOR.nil ?_
        refine AWR.seq ?_
        refine AWR.ent (Ent.of (σ' := [(1, (.s (.c (.pv (.xs false (w.map encInt)))))), (2, (.s (.c (iC v)))), (3, (.s (.c (.pl 21 0)))), (8, (.s (.c (iC s3.1)))), (9, (.s (.c (iC s3.2.1)))), (10, (.s (.c (iC s3.2.2)))), (11, (.s (.c (.pl 23 0)))), (22, (.s (.c (.pv (.xs false (f.Graph.Bars.map encTBar)))))), (23, (.s (.c (iC (f.Graph.Bars.length : Int))))), (24, (.s (.c (iC s3.2.2))))]) (m' := [(21, (.row 29 [[(iC f.Graph.Points), (.pv (.xs false (f.Graph.Bars.map encTBar))), (.pv (.xs false (f.Places.map encTPlace)))]])), (23, (.row 79 [[(iC x38.A), (iC x38.B)]]))]) ⟨rfl, rfl, rfl, rfl, rfl, rfl, rfl, rfl, rfl, rfl, trivial⟩ ⟨rfl, rfl, trivial⟩) ?_
        refine AWR.region ?_
        refine AOR.pure (LT.bloadN (out := [(iC x38.A), (iC x38.B)]) rfl ag79 (infS inf79) sz79 (by exact rfl) (by exact rfl)) ⟨rfl, trivial⟩ ⟨rfl, trivial⟩ rfl rfl ?_
        refine AOR.pure (LT.move (v := (.s (.c (iC v)))) rfl) ⟨rfl, trivial⟩ trivial rfl rfl ?_
        refine AOR.bind fun r39 hr39 => ?_
        refine AOR.pure (@LT.callF Try.prog _ _ 101 _ _ [(.agg [(iC x38.A), (iC x38.B)]), (.c (iC v))] _ _ [] _ _ _ _ (w_impl_Bar_has x38 v r39 hr39) rfl cb101 (.cons (.agg (.cons (.same rfl) (.cons (.same rfl) .nil))) (.cons (.c (.same rfl)) .nil)) rfl rfl trivial) ⟨rfl, rfl, rfl, trivial⟩ trivial rfl rfl ?_
        refine AOR.nil ?_
        refine AWR.joinK (fun j46 => ([(1, (.s (.c (.pv (.xs false (w.map encInt)))))), (2, (.s (.c (iC v)))), (3, (.s (.c (.pl 21 0)))), (8, (.s (.c (iC j46.1)))), (9, (.s (.c (iC j46.2)))), (22, (.s (.c (.pv (.xs false (f.Graph.Bars.map encTBar)))))), (23, (.s (.c (iC (f.Graph.Bars.length : Int))))), (24, (.s (.c (iC s3.2.2))))], [(21, (.row 29 [[(iC f.Graph.Points), (.pv (.xs false (f.Graph.Bars.map encTBar))), (.pv (.xs false (f.Places.map encTPlace)))]]))])) ?_ (fun j46 _ => ?_)
        · refine AWR.cond rfl (fun hc47 => ?_) (fun hc47 => ?_)
          · refine AWR.seq ?_
            refine AWR.draw mixed ?_
            refine AOD.pure (LT.fieldPl rfl fo29_1) ⟨rfl, trivial⟩ trivial rfl rfl ?_
            refine AOD.pure (LT.bload1 (c := (.pv (.xs false (f.Places.map encTPlace)))) rfl ag27 (by exact rfl)) ⟨rfl, trivial⟩ ⟨rfl, trivial⟩ rfl rfl ?_
            refine AOD.pure (LT.move (v := (.s (.c (iC v)))) rfl) ⟨rfl, trivial⟩ trivial rfl rfl ?_
            refine AOD.bind fun x48 hx48 => ?_
            refine AOD.pure (LT.tindexRO (enc := encTPlace) rfl el27 hx48 sz95) ⟨rfl, rfl, trivial⟩ trivial rfl rfl ?_
            refine AOD.pure (LT.loadPxN rfl ag95 (infS inf95) (by exact sz95.symm)) ⟨rfl, trivial⟩ trivial rfl rfl ?_
            refine AOD.pure (LT.fieldPl rfl fo29_1) ⟨rfl, trivial⟩ trivial rfl rfl ?_
            refine AOD.pure (LT.bload1 (c := (.pv (.xs false (f.Places.map encTPlace)))) rfl ag27 (by exact rfl)) ⟨rfl, trivial⟩ ⟨rfl, trivial⟩ rfl rfl ?_
            refine AOD.pure (LT.bloadN (out := [(iC x38.A), (iC x38.B)]) rfl ag79 (infS inf79) sz79 (by exact rfl) (by exact rfl)) ⟨rfl, trivial⟩ ⟨rfl, trivial⟩ rfl rfl ?_
            refine AOD.pure (LT.move (v := (.s (.c (iC v)))) rfl) ⟨rfl, trivial⟩ trivial rfl rfl ?_
            refine AOD.bind fun r49 hr49 => ?_
            refine AOD.pure (@LT.callF Try.prog _ _ 102 _ _ [(.agg [(iC x38.A), (iC x38.B)]), (.c (iC v))] _ _ [] _ _ _ _ (w_impl_Bar_other x38 v r49 hr49) rfl cb102 (.cons (.agg (.cons (.same rfl) (.cons (.same rfl) .nil))) (.cons (.c (.same rfl)) .nil)) rfl rfl trivial) ⟨rfl, rfl, rfl, trivial⟩ trivial rfl rfl ?_
            refine AOD.bind fun x50 hx50 => ?_
            refine AOD.pure (LT.tindexRO (enc := encTPlace) rfl el27 hx50 sz95) ⟨rfl, rfl, trivial⟩ trivial rfl rfl ?_
            refine AOD.pure (LT.loadPxN rfl ag95 (infS inf95) (by exact sz95.symm)) ⟨rfl, trivial⟩ trivial rfl rfl ?_
            refine AOD.step (LT.alloc (n := 26) (cells := [(iC 0), (iC 0)]) rfl ti95 rfl rfl rfl) trivial trivial rfl rfl ?_
            refine AOD.step (LT.alloc (n := 27) (cells := [(iC 0), (iC 0)]) rfl ti95 rfl rfl rfl) trivial trivial rfl rfl ?_
            refine AOD.step (LT.bstore (v := (.agg [(iC x48.X), (iC x48.Y)])) (out := [(iC x48.X), (iC x48.Y)]) rfl rfl (infS inf95) sz95 (by exact rfl) (by exact Nat.le_of_ble_eq_true rfl) (by exact rfl)) ⟨rfl, rfl, trivial⟩ ⟨rfl, trivial⟩ rfl rfl ?_
            refine AOD.step (LT.bstore (v := (.agg [(iC x50.X), (iC x50.Y)])) (out := [(iC x50.X), (iC x50.Y)]) rfl rfl (infS inf95) sz95 (by exact rfl) (by exact Nat.le_of_ble_eq_true rfl) (by exact rfl)) ⟨rfl, rfl, trivial⟩ ⟨rfl, trivial⟩ rfl rfl ?_
            refine AOD.nil (by kernel_rfl) ?_
            refine AWR.seq ?_
            refine AWR.ent (Ent.of (σ' := [(1, (.s (.c (.pv (.xs false (w.map encInt)))))), (2, (.s (.c (iC v)))), (3, (.s (.c (.pl 21 0)))), (8, (.s (.c (iC s3.1)))), (9, (.s (.c (iC s3.2.1)))), (10, (.s (.c (iC s3.2.2)))), (12, (.s (.c (.pl 26 0)))), (13, (.s (.c (.pl 27 0)))), (22, (.s (.c (.pv (.xs false (f.Graph.Bars.map encTBar)))))), (23, (.s (.c (iC (f.Graph.Bars.length : Int))))), (24, (.s (.c (iC s3.2.2))))]) (m' := [(21, (.row 29 [[(iC f.Graph.Points), (.pv (.xs false (f.Graph.Bars.map encTBar))), (.pv (.xs false (f.Places.map encTPlace)))]])), (26, (.row 95 [[(iC x48.X), (iC x48.Y)]])), (27, (.row 95 [[(iC x50.X), (iC x50.Y)]]))]) ⟨rfl, rfl, rfl, rfl, rfl, rfl, rfl, rfl, rfl, rfl, rfl, trivial⟩ ⟨rfl, rfl, rfl, trivial⟩) ?_
            refine AWR.draw mixed ?_
            refine AOD.pure (LT.move (v := (.s (.c (iC s3.1)))) rfl) ⟨rfl, trivial⟩ trivial rfl rfl ?_
            refine AOD.pure (LT.move (v := (.s (.c (.pv (.xs false (w.map encInt)))))) rfl) ⟨rfl, trivial⟩ trivial rfl rfl ?_
            refine AOD.pure (LT.move (v := (.s (.c (iC s3.2.2)))) rfl) ⟨rfl, trivial⟩ trivial rfl rfl ?_
            refine AOD.bind fun x51 hx51 => ?_
            refine AOD.pure (LT.tindexRO (enc := encInt) rfl el37 hx51 sz3) ⟨rfl, rfl, trivial⟩ trivial rfl rfl ?_
            refine AOD.pure (LT.loadPx1 rfl ag3) ⟨rfl, trivial⟩ trivial rfl rfl ?_
            refine AOD.pure (LT.fieldPl rfl fo95_0) ⟨rfl, trivial⟩ trivial rfl rfl ?_
            refine AOD.pure (LT.bload1 (c := (iC x48.X)) rfl ag3 (by exact rfl)) ⟨rfl, trivial⟩ ⟨rfl, trivial⟩ rfl rfl ?_
            refine AOD.pure (LT.fieldPl rfl fo95_0) ⟨rfl, trivial⟩ trivial rfl rfl ?_
            refine AOD.pure (LT.bload1 (c := (iC x50.X)) rfl ag3 (by exact rfl)) ⟨rfl, trivial⟩ ⟨rfl, trivial⟩ rfl rfl ?_
            refine AOD.pure (LT.sub rfl) ⟨rfl, rfl, trivial⟩ trivial rfl rfl ?_
            refine AOD.pure (LT.mul rfl) ⟨rfl, rfl, trivial⟩ trivial rfl rfl ?_
            refine AOD.pure (LT.add rfl) ⟨rfl, rfl, trivial⟩ trivial rfl rfl ?_
            refine AOD.pure (LT.assign (v := (.s (.c (iC (w64 (s3.1 + (w64 (x51 * (w64 (x48.X - x50.X)))))))))) rfl) ⟨rfl, trivial⟩ trivial rfl rfl ?_
            refine AOD.nil (by kernel_rfl) ?_
            refine AWR.ent (Ent.of (σ' := [(1, (.s (.c (.pv (.xs false (w.map encInt)))))), (2, (.s (.c (iC v)))), (3, (.s (.c (.pl 21 0)))), (8, (.s (.c (iC (w64 (s3.1 + (w64 (x51 * (w64 (x48.X - x50.X)))))))))), (9, (.s (.c (iC s3.2.1)))), (10, (.s (.c (iC s3.2.2)))), (12, (.s (.c (.pl 26 0)))), (13, (.s (.c (.pl 27 0)))), (22, (.s (.c (.pv (.xs false (f.Graph.Bars.map encTBar)))))), (23, (.s (.c (iC (f.Graph.Bars.length : Int))))), (24, (.s (.c (iC s3.2.2))))]) (m' := [(21, (.row 29 [[(iC f.Graph.Points), (.pv (.xs false (f.Graph.Bars.map encTBar))), (.pv (.xs false (f.Places.map encTPlace)))]])), (26, (.row 95 [[(iC x48.X), (iC x48.Y)]])), (27, (.row 95 [[(iC x50.X), (iC x50.Y)]]))]) ⟨rfl, rfl, rfl, rfl, rfl, rfl, rfl, rfl, rfl, rfl, rfl, trivial⟩ ⟨rfl, rfl, rfl, trivial⟩) ?_
            refine AWR.draw mixed ?_
            refine AOD.pure (LT.move (v := (.s (.c (iC s3.2.1)))) rfl) ⟨rfl, trivial⟩ trivial rfl rfl ?_
            refine AOD.pure (LT.move (v := (.s (.c (.pv (.xs false (w.map encInt)))))) rfl) ⟨rfl, trivial⟩ trivial rfl rfl ?_
            refine AOD.pure (LT.move (v := (.s (.c (iC s3.2.2)))) rfl) ⟨rfl, trivial⟩ trivial rfl rfl ?_
            refine AOD.bind fun x52 hx52 => ?_
            refine AOD.pure (LT.tindexRO (enc := encInt) rfl el37 hx52 sz3) ⟨rfl, rfl, trivial⟩ trivial rfl rfl ?_
            refine AOD.pure (LT.loadPx1 rfl ag3) ⟨rfl, trivial⟩ trivial rfl rfl ?_
            refine AOD.pure (LT.fieldPl rfl fo95_1) ⟨rfl, trivial⟩ trivial rfl rfl ?_
            refine AOD.pure (LT.bload1 (c := (iC x48.Y)) rfl ag3 (by exact rfl)) ⟨rfl, trivial⟩ ⟨rfl, trivial⟩ rfl rfl ?_
            refine AOD.pure (LT.fieldPl rfl fo95_1) ⟨rfl, trivial⟩ trivial rfl rfl ?_
            refine AOD.pure (LT.bload1 (c := (iC x50.Y)) rfl ag3 (by exact rfl)) ⟨rfl, trivial⟩ ⟨rfl, trivial⟩ rfl rfl ?_
            refine AOD.pure (LT.sub rfl) ⟨rfl, rfl, trivial⟩ trivial rfl rfl ?_
            refine AOD.pure (LT.mul rfl) ⟨rfl, rfl, trivial⟩ trivial rfl rfl ?_
            refine AOD.pure (LT.add rfl) ⟨rfl, rfl, trivial⟩ trivial rfl rfl ?_
            refine AOD.pure (LT.assign (v := (.s (.c (iC (w64 (s3.2.1 + (w64 (x52 * (w64 (x48.Y - x50.Y)))))))))) rfl) ⟨rfl, trivial⟩ trivial rfl rfl ?_
            refine AOD.nil (by kernel_rfl) ?_
            refine AWR.nil ⟨rfl, Ent.of ⟨rfl, rfl, rfl, rfl, rfl, rfl, rfl, rfl, trivial⟩ ⟨rfl, trivial⟩⟩
          · refine AWR.skip ?_
            refine AWR.nil ⟨rfl, Ent.of ⟨rfl, rfl, rfl, rfl, rfl, rfl, rfl, rfl, trivial⟩ ⟨rfl, trivial⟩⟩
        · refine AWR.blk ?_
          refine AWR.region ?_
          refine AOR.pure (LT.add rfl) ⟨rfl, ⟨rfl, rfl⟩, trivial⟩ trivial rfl rfl ?_
          refine AOR.pure (LT.move (v := (.s (.c (iC (w64 (s3.2.2 + 1)))))) rfl) ⟨rfl, trivial⟩ trivial rfl rfl ?_
          refine AOR.nil ?_
          refine AWR.nil ⟨rfl, Ent.of ⟨rfl, rfl, rfl, rfl, rfl, rfl, rfl, rfl, trivial⟩ ⟨rfl, trivial⟩⟩
      · refine AWR.exit_end rfl ⟨rfl, Ent.of ⟨rfl, rfl, trivial⟩ trivial⟩
    · refine AWR.seq ?_
      refine AWR.region ?_
      refine AOR.pure (LT.move (v := (.s (.c (iC b36.1)))) rfl) ⟨rfl, trivial⟩ trivial rfl rfl ?_
      refine AOR.pure (LT.move (v := (.s (.c (iC b36.2)))) rfl) ⟨rfl, trivial⟩ trivial rfl rfl ?_
      refine AOR.pure (LT.assign (v := (.s (.c (iC b36.1)))) rfl) ⟨rfl, trivial⟩ trivial rfl rfl ?_
      refine AOR.pure (LT.assign (v := (.s (.c (iC b36.2)))) rfl) ⟨rfl, trivial⟩ trivial rfl rfl ?_
      refine AOR.nil ?_
      refine AWR.ret (FPost.mk (.inr rfl) ⟨rfl, rfl, trivial⟩ trivial rfl ⟨PermP.sc, PermP.sc, trivial⟩ trivial)
set_option maxRecDepth 100000 in
set_option maxHeartbeats 8000000 in
theorem w_impl_IsStress (f : TFramework) (w : (List Int)) : ∀ t, m_impl_IsStress f w = some t → Fw.Fn Try.prog 20 [(.agg [(iC f.Graph.Points), (.pv (.xs false (f.Graph.Bars.map encTBar))), (.pv (.xs false (f.Places.map encTPlace)))]), (.c (.pv (.xs false (w.map encInt))))] [] (.s (.c (bC t))) [] [] [] := by
  refine Fw.Fn.of (P := Try.prog) (X := []) (pn := []) (rs := (fun (t : Bool) => [(.c (bC t))])) (dfs := (fun (t : Bool) => [])) Try.func20 rfl Try.ntmps20 (Nat.le_of_ble_eq_true rfl) rfl ?_
  intro w0 U0 R0 g0
  unfold m_impl_IsStress
  refine AWR.seq ?_
  refine AWR.region ?_
  refine AOR.step (LT.box (n := 21) (v := (.agg [(iC f.Graph.Points), (.pv (.xs false (f.Graph.Bars.map encTBar))), (.pv (.xs false (f.Places.map encTPlace)))])) rfl sz29 (by exact rfl)) ⟨rfl, trivial⟩ trivial rfl rfl ?_
  refine AOR.pure (LT.assign (v := (.s (.c (bC false)))) rfl) ⟨⟨rfl, rfl⟩, trivial⟩ trivial rfl rfl ?_
  refine AOR.nil ?_
  refine AWR.seq ?_
  refine AWR.seq ?_
  refine AWR.region ?_
  refine AOR.pure (LT.bloadN (out := [(iC f.Graph.Points), (.pv (.xs false (f.Graph.Bars.map encTBar))), (.pv (.xs false (f.Places.map encTPlace)))]) rfl ag29 (infS inf29) sz29 (by exact rfl) (by exact rfl)) ⟨rfl, trivial⟩ ⟨rfl, trivial⟩ rfl rfl ?_
  refine AOR.pure (LT.move (v := (.s (.c (.pv (.xs false (w.map encInt)))))) rfl) ⟨rfl, trivial⟩ trivial rfl rfl ?_
  refine AOR.bind fun r1 hr1 => ?_
  refine AOR.pure (@LT.callF Try.prog _ _ 93 _ _ [(.agg [(iC f.Graph.Points), (.pv (.xs false (f.Graph.Bars.map encTBar))), (.pv (.xs false (f.Places.map encTPlace)))]), (.c (.pv (.xs false (w.map encInt))))] _ _ [] _ _ _ _ (w_impl_areForces f w r1 hr1) rfl cb93 (.cons (.agg (.cons (.same rfl) (.cons (.same rfl) (.cons (.same rfl) .nil)))) (.cons (.c (.same rfl)) .nil)) rfl rfl trivial) ⟨rfl, rfl, rfl, trivial⟩ trivial rfl rfl ?_
  refine AOR.pure (LT.not rfl) ⟨rfl, trivial⟩ trivial rfl rfl ?_
  refine AOR.nil ?_
  refine AWR.cond rfl (fun hc2 => ?_) (fun hc2 => ?_)
  · refine AWR.seq ?_
    refine AWR.region ?_
    refine AOR.pure (LT.assign (v := (.s (.c (bC false)))) rfl) ⟨⟨rfl, rfl⟩, trivial⟩ trivial rfl rfl ?_
    refine AOR.nil ?_
    refine AWR.ret (FPost.mk (.inr rfl) ⟨rfl, trivial⟩ trivial rfl ⟨PermP.sc, trivial⟩ trivial)
  · refine AWR.skip ?_
    refine AWR.seq ?_
    refine AWR.seq ?_
    refine AWR.region ?_
    refine AOR.pure (LT.fieldPl rfl fo29_1) ⟨rfl, trivial⟩ trivial rfl rfl ?_
    refine AOR.pure (LT.bload1 (c := (.pv (.xs false (f.Places.map encTPlace)))) rfl ag27 (by exact rfl)) ⟨rfl, trivial⟩ ⟨rfl, trivial⟩ rfl rfl ?_
    refine AOR.pure (LT.tlenRO rfl und27) ⟨rfl, trivial⟩ trivial rfl rfl ?_
    refine AOR.pure (LT.move (v := (.s (.c (iC 0)))) rfl) ⟨⟨rfl, rfl⟩, trivial⟩ trivial rfl rfl ?_
    refine AOR.nil ?_
    refine AWR.block ?_
    refine AWR.loopR (id := 0) (m_impl_IsStress_L1 f w) (fun s3 => ([(1, (.s (.c (.pv (.xs false (w.map encInt)))))), (2, (.s (.c (.pl 21 0)))), (14, (.s (.c (iC (f.Places.length : Int))))), (15, (.s (.c (iC s3))))], [(21, (.row 29 [[(iC f.Graph.Points), (.pv (.xs false (f.Graph.Bars.map encTBar))), (.pv (.xs false (f.Places.map encTPlace)))]]))])) (fun b16 => ([], [])) (FPost Try.prog Try.f20.results.toList [] [] (fun (t : Bool) => [(.c (bC t))]) (fun (t : Bool) => [])) ?_ (Ent.of ⟨rfl, rfl, rfl, rfl, trivial⟩ ⟨rfl, trivial⟩) rfl (fun b16 _ => ?_) (by intro r t σ m ht hk; injection ht with ht; subst ht; exact hk)
    · intro s3
      unfold m_impl_IsStress_L1
      refine AWR.seq ?_
      refine AWR.region ?_
      refine AOR.pure (LT.lss rfl) ⟨rfl, rfl, trivial⟩ trivial rfl rfl ?_
      refine AOR.nil ?_
      refine AWR.seq ?_
      refine AWR.cond rfl (fun hc17 => ?_) (fun hc17 => ?_)
      · refine AWR.skip ?_
        refine AWR.seq ?_
        refine AWR.block ?_
        refine AWR.seq ?_
        refine AWR.region ?_
        refine AOR.pure (LT.move (v := (.s (.c (iC s3)))) rfl) ⟨rfl, trivial⟩ trivial rfl rfl ?_
        refine AOR.pure (LT.assign (v := (.s (.c (iC s3)))) rfl) ⟨rfl, trivial⟩ trivial rfl rfl ?_
        refine AOR.nil ?_
        refine AWR.seq ?_
        refine AWR.region ?_
        refine AOR.pure (LT.bloadN (out := [(iC f.Graph.Points), (.pv (.xs false (f.Graph.Bars.map encTBar))), (.pv (.xs false (f.Places.map encTPlace)))]) rfl ag29 (infS inf29) sz29 (by exact rfl) (by exact rfl)) ⟨rfl, trivial⟩ ⟨rfl, trivial⟩ rfl rfl ?_
        refine AOR.pure (LT.move (v := (.s (.c (.pv (.xs false (w.map encInt)))))) rfl) ⟨rfl, trivial⟩ trivial rfl rfl ?_
        refine AOR.pure (LT.move (v := (.s (.c (iC s3)))) rfl) ⟨rfl, trivial⟩ trivial rfl rfl ?_
        refine AOR.bind fun r18 hr18 => ?_
        refine AOR.pure (@LT.callF Try.prog _ _ 30 _ _ [(.agg [(iC f.Graph.Points), (.pv (.xs false (f.Graph.Bars.map encTBar))), (.pv (.xs false (f.Places.map encTPlace)))]), (.c (.pv (.xs false (w.map encInt)))), (.c (iC s3))] _ _ [] _ _ _ _ (w_impl_ForceAt f w s3 r18 hr18) rfl cb30 (.cons (.agg (.cons (.same rfl) (.cons (.same rfl) (.cons (.same rfl) .nil)))) (.cons (.c (.same rfl)) (.cons (.c (.same rfl)) .nil))) rfl rfl trivial) ⟨rfl, rfl, rfl, rfl, trivial⟩ trivial rfl rfl ?_
        refine AOR.pure (LT.move (v := (.tup [(.c (iC r18.1)), (.c (iC r18.2))])) rfl) ⟨rfl, trivial⟩ trivial rfl rfl ?_
        refine AOR.pure (LT.extract (v := (.c (iC r18.1))) rfl (by exact rfl)) ⟨rfl, trivial⟩ trivial rfl rfl ?_
        refine AOR.pure (LT.extract (v := (.c (iC r18.2))) rfl (by exact rfl)) ⟨rfl, trivial⟩ trivial rfl rfl ?_
        refine AOR.pure (LT.assign (v := (.s (.c (iC r18.1)))) rfl) ⟨rfl, trivial⟩ trivial rfl rfl ?_
        refine AOR.pure (LT.assign (v := (.s (.c (iC r18.2)))) rfl) ⟨rfl, trivial⟩ trivial rfl rfl ?_
        refine AOR.nil ?_
        refine AWR.seq ?_
        refine AWR.joinK (fun j20 => ([(1, (.s (.c (.pv (.xs false (w.map encInt)))))), (2, (.s (.c (.pl 21 0)))), (14, (.s (.c (iC (f.Places.length : Int))))), (15, (.s (.c (iC s3)))), (30, (.s (.c (bC j20))))], [(21, (.row 29 [[(iC f.Graph.Points), (.pv (.xs false (f.Graph.Bars.map encTBar))), (.pv (.xs false (f.Places.map encTPlace)))]]))])) ?_ (fun j20 _ => ?_)
        · refine AWR.ent (Ent.of (σ' := [(1, (.s (.c (.pv (.xs false (w.map encInt)))))), (2, (.s (.c (.pl 21 0)))), (6, (.s (.c (iC r18.1)))), (7, (.s (.c (iC r18.2)))), (14, (.s (.c (iC (f.Places.length : Int))))), (15, (.s (.c (iC s3))))]) (m' := [(21, (.row 29 [[(iC f.Graph.Points), (.pv (.xs false (f.Graph.Bars.map encTBar))), (.pv (.xs false (f.Places.map encTPlace)))]]))]) ⟨rfl, rfl, rfl, rfl, rfl, rfl, trivial⟩ ⟨rfl, trivial⟩) ?_
          refine AWR.region ?_
          refine AOR.pure (LT.move (v := (.s (.c (iC r18.1)))) rfl) ⟨rfl, trivial⟩ trivial rfl rfl ?_
          refine AOR.pure (LT.neq rfl) ⟨rfl, ⟨rfl, rfl⟩, trivial⟩ trivial rfl rfl ?_
          refine AOR.pure (LT.move (v := (.s (.c (bC (r18.1 != 0))))) rfl) ⟨rfl, trivial⟩ trivial rfl rfl ?_
          refine AOR.split (fun hb21 => ?_) (fun hb21 => ?_)
          · refine AOR.skip ⟨_, rfl, .inl ⟨_, rfl, (by rw [hb21]; rfl)⟩⟩ rfl ?_
            refine AOR.skip ⟨_, rfl, .inl ⟨_, rfl, (by rw [hb21]; rfl)⟩⟩ rfl ?_
            refine AOR.pure (LT.pickT (v := (.s (.c (bC true)))) rfl hb21) ⟨rfl, ⟨rfl, rfl⟩, trivial⟩ trivial rfl rfl ?_
            refine AOR.nil ?_
            refine AWR.nil ⟨rfl, Ent.of ⟨rfl, rfl, rfl, rfl, rfl, trivial⟩ ⟨rfl, trivial⟩⟩
          · refine AOR.pure (LT.move (v := (.s (.c (iC r18.2)))) rfl) ⟨rfl, trivial⟩ trivial ⟨_, rfl, .inl ⟨_, rfl, (by rw [hb21]; rfl)⟩⟩ rfl ?_
            refine AOR.pure (LT.neq rfl) ⟨rfl, ⟨rfl, rfl⟩, trivial⟩ trivial ⟨_, rfl, .inl ⟨_, rfl, (by rw [hb21]; rfl)⟩⟩ rfl ?_
            refine AOR.pure (LT.pickF (v := (.s (.c (bC (r18.2 != 0))))) rfl hb21) ⟨rfl, rfl, trivial⟩ trivial rfl rfl ?_
            refine AOR.nil ?_
            refine AWR.nil ⟨rfl, Ent.of ⟨rfl, rfl, rfl, rfl, rfl, trivial⟩ ⟨rfl, trivial⟩⟩
        · refine AWR.cond rfl (fun hc22 => ?_) (fun hc22 => ?_)
          · refine AWR.seq ?_
            refine AWR.region ?_
            refine AOR.pure (LT.assign (v := (.s (.c (bC false)))) rfl) ⟨⟨rfl, rfl⟩, trivial⟩ trivial rfl rfl ?_
            refine AOR.nil ?_
            refine AWR.ret ⟨rfl, FPost.mk (.inr rfl) ⟨rfl, trivial⟩ trivial rfl ⟨PermP.sc, trivial⟩ trivial⟩
          · refine AWR.skip ?_
            refine AWR.blk ?_
            refine AWR.region ?_
            refine AOR.pure (LT.add rfl) ⟨rfl, ⟨rfl, rfl⟩, trivial⟩ trivial rfl rfl ?_
            refine AOR.pure (LT.move (v := (.s (.c (iC (w64 (s3 + 1)))))) rfl) ⟨rfl, trivial⟩ trivial rfl rfl ?_
            refine AOR.nil ?_
            refine AWR.nil ⟨rfl, Ent.of ⟨rfl, rfl, rfl, rfl, trivial⟩ ⟨rfl, trivial⟩⟩
      · refine AWR.exit_end rfl ⟨rfl, Ent.of trivial trivial⟩
    · refine AWR.seq ?_
      refine AWR.region ?_
      refine AOR.pure (LT.assign (v := (.s (.c (bC true)))) rfl) ⟨⟨rfl, rfl⟩, trivial⟩ trivial rfl rfl ?_
      refine AOR.nil ?_
      refine AWR.ret (FPost.mk (.inr rfl) ⟨rfl, trivial⟩ trivial rfl ⟨PermP.sc, trivial⟩ trivial)
set_option maxRecDepth 100000 in
set_option maxHeartbeats 8000000 in
theorem w_impl_IsProperStress (tV : TTensegrity) (w : (List Int)) : ∀ t, m_impl_IsProperStress tV w = some t → Fw.Fn Try.prog 166 [(.agg [(iC tV.Framework.Graph.Points), (.pv (.xs false (tV.Framework.Graph.Bars.map encTBar))), (.pv (.xs false (tV.Framework.Places.map encTPlace))), (.pv (.xs false (tV.Kinds.map encInt)))]), (.c (.pv (.xs false (w.map encInt))))] [] (.s (.c (bC t))) [] [] [] := by
  refine Fw.Fn.of (P := Try.prog) (X := []) (pn := []) (rs := (fun (t : Bool) => [(.c (bC t))])) (dfs := (fun (t : Bool) => [])) Try.func166 rfl Try.ntmps166 (Nat.le_of_ble_eq_true rfl) rfl ?_
  intro w0 U0 R0 g0
  unfold m_impl_IsProperStress
  refine AWR.seq ?_
  refine AWR.region ?_
  refine AOR.step (LT.box (n := 21) (v := (.agg [(iC tV.Framework.Graph.Points), (.pv (.xs false (tV.Framework.Graph.Bars.map encTBar))), (.pv (.xs false (tV.Framework.Places.map encTPlace))), (.pv (.xs false (tV.Kinds.map encInt)))])) rfl sz59 (by exact rfl)) ⟨rfl, trivial⟩ trivial rfl rfl ?_
  refine AOR.pure (LT.assign (v := (.s (.c (bC false)))) rfl) ⟨⟨rfl, rfl⟩, trivial⟩ trivial rfl rfl ?_
  refine AOR.nil ?_
  refine AWR.seq ?_
  refine AWR.seq ?_
  refine AWR.joinK (fun j4 => ([(1, (.s (.c (.pv (.xs false (w.map encInt)))))), (2, (.s (.c (.pl 21 0)))), (16, (.s (.c (bC j4))))], [(21, (.row 59 [[(iC tV.Framework.Graph.Points), (.pv (.xs false (tV.Framework.Graph.Bars.map encTBar))), (.pv (.xs false (tV.Framework.Places.map encTPlace))), (.pv (.xs false (tV.Kinds.map encInt)))]]))])) ?_ (fun j4 _ => ?_)
  · refine AWR.region ?_
    refine AOR.pure (LT.bloadN (out := [(iC tV.Framework.Graph.Points), (.pv (.xs false (tV.Framework.Graph.Bars.map encTBar))), (.pv (.xs false (tV.Framework.Places.map encTPlace))), (.pv (.xs false (tV.Kinds.map encInt)))]) rfl ag59 (infS inf59) sz59 (by exact rfl) (by exact rfl)) ⟨rfl, trivial⟩ ⟨rfl, trivial⟩ rfl rfl ?_
    refine AOR.bind fun r5 hr5 => ?_
    refine AOR.pure (@LT.callF Try.prog _ _ 136 _ _ [(.agg [(iC tV.Framework.Graph.Points), (.pv (.xs false (tV.Framework.Graph.Bars.map encTBar))), (.pv (.xs false (tV.Framework.Places.map encTPlace))), (.pv (.xs false (tV.Kinds.map encInt)))])] _ _ [] _ _ _ _ (w_impl_IsTensegrity tV r5 hr5) rfl cb136 (.cons (.agg (.cons (.same rfl) (.cons (.same rfl) (.cons (.same rfl) (.cons (.same rfl) .nil))))) .nil) rfl rfl trivial) ⟨rfl, rfl, trivial⟩ trivial rfl rfl ?_
    refine AOR.pure (LT.not rfl) ⟨rfl, trivial⟩ trivial rfl rfl ?_
    refine AOR.pure (LT.move (v := (.s (.c (bC (!r5))))) rfl) ⟨rfl, trivial⟩ trivial rfl rfl ?_
    refine AOR.split (fun hb6 => ?_) (fun hb6 => ?_)
    · refine AOR.skip ⟨_, rfl, .inl ⟨_, rfl, (by rw [hb6]; rfl)⟩⟩ rfl ?_
      refine AOR.skip ⟨_, rfl, .inl ⟨_, rfl, (by rw [hb6]; rfl)⟩⟩ rfl ?_
      refine AOR.skip ⟨_, rfl, .inl ⟨_, rfl, (by rw [hb6]; rfl)⟩⟩ rfl ?_
      refine AOR.skip ⟨_, rfl, .inl ⟨_, rfl, (by rw [hb6]; rfl)⟩⟩ rfl ?_
      refine AOR.skip ⟨_, rfl, .inl ⟨_, rfl, (by rw [hb6]; rfl)⟩⟩ rfl ?_
      refine AOR.pure (LT.pickT (v := (.s (.c (bC true)))) rfl hb6) ⟨rfl, ⟨rfl, rfl⟩, trivial⟩ trivial rfl rfl ?_
      refine AOR.nil ?_
      refine AWR.nil ⟨rfl, Ent.of ⟨rfl, rfl, rfl, trivial⟩ ⟨rfl, trivial⟩⟩
    · refine AOR.pure (LT.fieldPl rfl fo59_0) ⟨rfl, trivial⟩ trivial ⟨_, rfl, .inl ⟨_, rfl, (by rw [hb6]; rfl)⟩⟩ rfl ?_
      refine AOR.pure (LT.bloadN (out := [(iC tV.Framework.Graph.Points), (.pv (.xs false (tV.Framework.Graph.Bars.map encTBar))), (.pv (.xs false (tV.Framework.Places.map encTPlace)))]) rfl ag29 (infS inf29) sz29 (by exact rfl) (by exact rfl)) ⟨rfl, trivial⟩ ⟨rfl, trivial⟩ ⟨_, rfl, .inl ⟨_, rfl, (by rw [hb6]; rfl)⟩⟩ rfl ?_
      refine AOR.pure (LT.move (v := (.s (.c (.pv (.xs false (w.map encInt)))))) rfl) ⟨rfl, trivial⟩ trivial ⟨_, rfl, .inl ⟨_, rfl, (by rw [hb6]; rfl)⟩⟩ rfl ?_
      refine AOR.bind fun r7 hr7 => ?_
      refine AOR.pure (@LT.callF Try.prog _ _ 20 _ _ [(.agg [(iC tV.Framework.Graph.Points), (.pv (.xs false (tV.Framework.Graph.Bars.map encTBar))), (.pv (.xs false (tV.Framework.Places.map encTPlace)))]), (.c (.pv (.xs false (w.map encInt))))] _ _ [] _ _ _ _ (w_impl_IsStress tV.Framework w r7 hr7) rfl cb20 (.cons (.agg (.cons (.same rfl) (.cons (.same rfl) (.cons (.same rfl) .nil)))) (.cons (.c (.same rfl)) .nil)) rfl rfl trivial) ⟨rfl, rfl, rfl, trivial⟩ trivial ⟨_, rfl, .inl ⟨_, rfl, (by rw [hb6]; rfl)⟩⟩ rfl ?_
      refine AOR.pure (LT.not rfl) ⟨rfl, trivial⟩ trivial ⟨_, rfl, .inl ⟨_, rfl, (by rw [hb6]; rfl)⟩⟩ rfl ?_
      refine AOR.pure (LT.pickF (v := (.s (.c (bC (!r7))))) rfl hb6) ⟨rfl, rfl, trivial⟩ trivial rfl rfl ?_
      refine AOR.nil ?_
      refine AWR.nil ⟨rfl, Ent.of ⟨rfl, rfl, rfl, trivial⟩ ⟨rfl, trivial⟩⟩
  · refine AWR.cond rfl (fun hc8 => ?_) (fun hc8 => ?_)
    · refine AWR.seq ?_
      refine AWR.region ?_
      refine AOR.pure (LT.assign (v := (.s (.c (bC false)))) rfl) ⟨⟨rfl, rfl⟩, trivial⟩ trivial rfl rfl ?_
      refine AOR.nil ?_
      refine AWR.ret (FPost.mk (.inr rfl) ⟨rfl, trivial⟩ trivial rfl ⟨PermP.sc, trivial⟩ trivial)
    · refine AWR.skip ?_
      refine AWR.seq ?_
      refine AWR.seq ?_
      refine AWR.region ?_
      refine AOR.pure (LT.fieldPl rfl fo59_1) ⟨rfl, trivial⟩ trivial rfl rfl ?_
      refine AOR.pure (LT.bload1 (c := (.pv (.xs false (tV.Kinds.map encInt)))) rfl ag37 (by exact rfl)) ⟨rfl, trivial⟩ ⟨rfl, trivial⟩ rfl rfl ?_
      refine AOR.pure (LT.tlenRO rfl und37) ⟨rfl, trivial⟩ trivial rfl rfl ?_
      refine AOR.pure (LT.move (v := (.s (.c (iC 0)))) rfl) ⟨⟨rfl, rfl⟩, trivial⟩ trivial rfl rfl ?_
      refine AOR.nil ?_
      refine AWR.block ?_
      refine AWR.loopR (id := 0) (m_impl_IsProperStress_L1 tV w) (fun s9 => ([(1, (.s (.c (.pv (.xs false (w.map encInt)))))), (18, (.s (.c (.pv (.xs false (tV.Kinds.map encInt)))))), (19, (.s (.c (iC (tV.Kinds.length : Int))))), (20, (.s (.c (iC s9))))], [])) (fun b46 => ([], [])) (FPost Try.prog Try.f166.results.toList [] [] (fun (t : Bool) => [(.c (bC t))]) (fun (t : Bool) => [])) ?_ (Ent.of ⟨rfl, rfl, rfl, rfl, trivial⟩ trivial) rfl (fun b46 _ => ?_) (by intro r t σ m ht hk; injection ht with ht; subst ht; exact hk)
      · intro s9
        unfold m_impl_IsProperStress_L1
        refine AWR.seq ?_
        refine AWR.region ?_
        refine AOR.pure (LT.lss rfl) ⟨rfl, rfl, trivial⟩ trivial rfl rfl ?_
        refine AOR.nil ?_
        refine AWR.seq ?_
        refine AWR.cond rfl (fun hc47 => ?_) (fun hc47 => ?_)
        · refine AWR.skip ?_
          refine AWR.seq ?_
          refine AWR.block ?_
          refine AWR.seq ?_
          refine AWR.region ?_
          refine AOR.pure (LT.move (v := (.s (.c (iC s9)))) rfl) ⟨rfl, trivial⟩ trivial rfl rfl ?_
          refine AOR.bind fun x48 hx48 => ?_
          refine AOR.pure (LT.tindexRO (enc := encInt) rfl el37 hx48 sz3) ⟨rfl, rfl, trivial⟩ trivial rfl rfl ?_
          refine AOR.pure (LT.loadPx1 rfl ag3) ⟨rfl, trivial⟩ trivial rfl rfl ?_
          refine AOR.pure (LT.assign (v := (.s (.c (iC s9)))) rfl) ⟨rfl, trivial⟩ trivial rfl rfl ?_
          refine AOR.pure (LT.assign (v := (.s (.c (iC x48)))) rfl) ⟨rfl, trivial⟩ trivial rfl rfl ?_
          refine AOR.nil ?_
          refine AWR.seq ?_
          refine AWR.joinK (fun j56 => ([(1, (.s (.c (.pv (.xs false (w.map encInt)))))), (18, (.s (.c (.pv (.xs false (tV.Kinds.map encInt)))))), (19, (.s (.c (iC (tV.Kinds.length : Int))))), (20, (.s (.c (iC s9)))), (44, (.s (.c (bC j56))))], [])) ?_ (fun j56 _ => ?_)
          · refine AWR.region ?_
            refine AOR.pure (LT.move (v := (.s (.c (iC x48)))) rfl) ⟨rfl, trivial⟩ trivial rfl rfl ?_
            refine AOR.pure (LT.eql rfl) ⟨rfl, ⟨rfl, rfl⟩, trivial⟩ trivial rfl rfl ?_
            refine AOR.pure (LT.move (v := (.s (.c (bC (x48 == 1))))) rfl) ⟨rfl, trivial⟩ trivial rfl rfl ?_
            refine AOR.split (fun hb57 => ?_) (fun hb57 => ?_)
            · refine AOR.pure (LT.move (v := (.s (.c (.pv (.xs false (w.map encInt)))))) rfl) ⟨rfl, trivial⟩ trivial ⟨_, rfl, .inl ⟨_, rfl, (by rw [hb57]; rfl)⟩⟩ rfl ?_
              refine AOR.pure (LT.move (v := (.s (.c (iC s9)))) rfl) ⟨rfl, trivial⟩ trivial ⟨_, rfl, .inl ⟨_, rfl, (by rw [hb57]; rfl)⟩⟩ rfl ?_
              refine AOR.bind fun x58 hx58 => ?_
              refine AOR.pure (LT.tindexRO (enc := encInt) rfl el37 hx58 sz3) ⟨rfl, rfl, trivial⟩ trivial ⟨_, rfl, .inl ⟨_, rfl, (by rw [hb57]; rfl)⟩⟩ rfl ?_
              refine AOR.pure (LT.loadPx1 rfl ag3) ⟨rfl, trivial⟩ trivial ⟨_, rfl, .inl ⟨_, rfl, (by rw [hb57]; rfl)⟩⟩ rfl ?_
              refine AOR.pure (LT.lss rfl) ⟨rfl, ⟨rfl, rfl⟩, trivial⟩ trivial ⟨_, rfl, .inl ⟨_, rfl, (by rw [hb57]; rfl)⟩⟩ rfl ?_
              refine AOR.pure (LT.pickT (v := (.s (.c (bC (decide (x58 < 0)))))) rfl hb57) ⟨rfl, rfl, trivial⟩ trivial rfl rfl ?_
              refine AOR.pure (LT.move (v := (.s (.c (bC (decide (x58 < 0)))))) rfl) ⟨rfl, trivial⟩ trivial rfl rfl ?_
              refine AOR.split (fun hb59 => ?_) (fun hb59 => ?_)
              · refine AOR.skip ⟨_, rfl, .inl ⟨_, rfl, (by rw [hb59]; rfl)⟩⟩ rfl ?_
                refine AOR.skip ⟨_, rfl, .inl ⟨_, rfl, (by rw [hb59]; rfl)⟩⟩ rfl ?_
                refine AOR.skip ⟨_, rfl, .inl ⟨_, rfl, (by rw [hb59]; rfl)⟩⟩ rfl ?_
                refine AOR.skip ⟨_, rfl, .inr ⟨rfl, rfl⟩⟩ rfl ?_
                refine AOR.skip ⟨_, rfl, .inr ⟨rfl, rfl⟩⟩ rfl ?_
                refine AOR.skip ⟨_, rfl, .inr ⟨rfl, rfl⟩⟩ rfl ?_
                refine AOR.skip ⟨_, rfl, .inr ⟨rfl, rfl⟩⟩ rfl ?_
                refine AOR.skip ⟨_, rfl, .inr ⟨rfl, rfl⟩⟩ rfl ?_
                refine AOR.skip ⟨_, rfl, .inl ⟨_, rfl, (by rw [hb59]; rfl)⟩⟩ rfl ?_
                refine AOR.pure (LT.pickT (v := (.s (.c (bC true)))) rfl hb59) ⟨rfl, ⟨rfl, rfl⟩, trivial⟩ trivial rfl rfl ?_
                refine AOR.nil ?_
                refine AWR.nil ⟨rfl, Ent.of ⟨rfl, rfl, rfl, rfl, rfl, trivial⟩ trivial⟩
              · refine AOR.pure (LT.move (v := (.s (.c (iC x48)))) rfl) ⟨rfl, trivial⟩ trivial ⟨_, rfl, .inl ⟨_, rfl, (by rw [hb59]; rfl)⟩⟩ rfl ?_
                refine AOR.pure (LT.eql rfl) ⟨rfl, ⟨rfl, rfl⟩, trivial⟩ trivial ⟨_, rfl, .inl ⟨_, rfl, (by rw [hb59]; rfl)⟩⟩ rfl ?_
                refine AOR.pure (LT.move (v := (.s (.c (bC (x48 == 2))))) rfl) ⟨rfl, trivial⟩ trivial ⟨_, rfl, .inl ⟨_, rfl, (by rw [hb59]; rfl)⟩⟩ rfl ?_
                refine AOR.split (fun hb60 => ?_) (fun hb60 => ?_)
                · refine AOR.pure (LT.move (v := (.s (.c (.pv (.xs false (w.map encInt)))))) rfl) ⟨rfl, trivial⟩ trivial ⟨_, rfl, .inl ⟨_, rfl, (by rw [hb60]; rfl)⟩⟩ rfl ?_
                  refine AOR.pure (LT.move (v := (.s (.c (iC s9)))) rfl) ⟨rfl, trivial⟩ trivial ⟨_, rfl, .inl ⟨_, rfl, (by rw [hb60]; rfl)⟩⟩ rfl ?_
                  refine AOR.bind fun x61 hx61 => ?_
                  refine AOR.pure (LT.tindexRO (enc := encInt) rfl el37 hx61 sz3) ⟨rfl, rfl, trivial⟩ trivial ⟨_, rfl, .inl ⟨_, rfl, (by rw [hb60]; rfl)⟩⟩ rfl ?_
                  refine AOR.pure (LT.loadPx1 rfl ag3) ⟨rfl, trivial⟩ trivial ⟨_, rfl, .inl ⟨_, rfl, (by rw [hb60]; rfl)⟩⟩ rfl ?_
                  refine AOR.pure (LT.gtr rfl) ⟨rfl, ⟨rfl, rfl⟩, trivial⟩ trivial ⟨_, rfl, .inl ⟨_, rfl, (by rw [hb60]; rfl)⟩⟩ rfl ?_
                  refine AOR.pure (LT.pickT (v := (.s (.c (bC (decide (0 < x61)))))) rfl hb60) ⟨rfl, rfl, trivial⟩ trivial ⟨_, rfl, .inl ⟨_, rfl, (by rw [hb59]; rfl)⟩⟩ rfl ?_
                  refine AOR.pure (LT.pickF (v := (.s (.c (bC (decide (0 < x61)))))) rfl hb59) ⟨rfl, rfl, trivial⟩ trivial rfl rfl ?_
                  refine AOR.nil ?_
                  refine AWR.nil ⟨rfl, Ent.of ⟨rfl, rfl, rfl, rfl, rfl, trivial⟩ trivial⟩
                · refine AOR.skip ⟨_, rfl, .inl ⟨_, rfl, (by rw [hb60]; rfl)⟩⟩ rfl ?_
                  refine AOR.skip ⟨_, rfl, .inl ⟨_, rfl, (by rw [hb60]; rfl)⟩⟩ rfl ?_
                  refine AOR.skip ⟨_, rfl, .inl ⟨_, rfl, (by rw [hb60]; rfl)⟩⟩ rfl ?_
                  refine AOR.skip ⟨_, rfl, .inl ⟨_, rfl, (by rw [hb60]; rfl)⟩⟩ rfl ?_
                  refine AOR.skip ⟨_, rfl, .inl ⟨_, rfl, (by rw [hb60]; rfl)⟩⟩ rfl ?_
                  refine AOR.pure (LT.pickF (v := (.s (.c (bC false)))) rfl hb60) ⟨rfl, ⟨rfl, rfl⟩, trivial⟩ trivial ⟨_, rfl, .inl ⟨_, rfl, (by rw [hb59]; rfl)⟩⟩ rfl ?_
                  refine AOR.pure (LT.pickF (v := (.s (.c (bC false)))) rfl hb59) ⟨rfl, rfl, trivial⟩ trivial rfl rfl ?_
                  refine AOR.nil ?_
                  refine AWR.nil ⟨rfl, Ent.of ⟨rfl, rfl, rfl, rfl, rfl, trivial⟩ trivial⟩
            · refine AOR.skip ⟨_, rfl, .inl ⟨_, rfl, (by rw [hb57]; rfl)⟩⟩ rfl ?_
              refine AOR.skip ⟨_, rfl, .inl ⟨_, rfl, (by rw [hb57]; rfl)⟩⟩ rfl ?_
              refine AOR.skip ⟨_, rfl, .inl ⟨_, rfl, (by rw [hb57]; rfl)⟩⟩ rfl ?_
              refine AOR.skip ⟨_, rfl, .inl ⟨_, rfl, (by rw [hb57]; rfl)⟩⟩ rfl ?_
              refine AOR.skip ⟨_, rfl, .inl ⟨_, rfl, (by rw [hb57]; rfl)⟩⟩ rfl ?_
              refine AOR.pure (LT.pickF (v := (.s (.c (bC false)))) rfl hb57) ⟨rfl, ⟨rfl, rfl⟩, trivial⟩ trivial rfl rfl ?_
              refine AOR.pure (LT.move (v := (.s (.c (bC false)))) rfl) ⟨rfl, trivial⟩ trivial rfl rfl ?_
              refine AOR.pure (LT.move (v := (.s (.c (iC x48)))) rfl) ⟨rfl, trivial⟩ trivial ⟨_, rfl, .inl ⟨_, rfl, rfl⟩⟩ rfl ?_
              refine AOR.pure (LT.eql rfl) ⟨rfl, ⟨rfl, rfl⟩, trivial⟩ trivial ⟨_, rfl, .inl ⟨_, rfl, rfl⟩⟩ rfl ?_
              refine AOR.pure (LT.move (v := (.s (.c (bC (x48 == 2))))) rfl) ⟨rfl, trivial⟩ trivial ⟨_, rfl, .inl ⟨_, rfl, rfl⟩⟩ rfl ?_
              refine AOR.split (fun hb62 => ?_) (fun hb62 => ?_)
              · refine AOR.pure (LT.move (v := (.s (.c (.pv (.xs false (w.map encInt)))))) rfl) ⟨rfl, trivial⟩ trivial ⟨_, rfl, .inl ⟨_, rfl, (by rw [hb62]; rfl)⟩⟩ rfl ?_
                refine AOR.pure (LT.move (v := (.s (.c (iC s9)))) rfl) ⟨rfl, trivial⟩ trivial ⟨_, rfl, .inl ⟨_, rfl, (by rw [hb62]; rfl)⟩⟩ rfl ?_
                refine AOR.bind fun x63 hx63 => ?_
                refine AOR.pure (LT.tindexRO (enc := encInt) rfl el37 hx63 sz3) ⟨rfl, rfl, trivial⟩ trivial ⟨_, rfl, .inl ⟨_, rfl, (by rw [hb62]; rfl)⟩⟩ rfl ?_
                refine AOR.pure (LT.loadPx1 rfl ag3) ⟨rfl, trivial⟩ trivial ⟨_, rfl, .inl ⟨_, rfl, (by rw [hb62]; rfl)⟩⟩ rfl ?_
                refine AOR.pure (LT.gtr rfl) ⟨rfl, ⟨rfl, rfl⟩, trivial⟩ trivial ⟨_, rfl, .inl ⟨_, rfl, (by rw [hb62]; rfl)⟩⟩ rfl ?_
                refine AOR.pure (LT.pickT (v := (.s (.c (bC (decide (0 < x63)))))) rfl hb62) ⟨rfl, rfl, trivial⟩ trivial ⟨_, rfl, .inl ⟨_, rfl, rfl⟩⟩ rfl ?_
                refine AOR.pure (LT.pickF (v := (.s (.c (bC (decide (0 < x63)))))) rfl rfl) ⟨rfl, rfl, trivial⟩ trivial rfl rfl ?_
                refine AOR.nil ?_
                refine AWR.nil ⟨rfl, Ent.of ⟨rfl, rfl, rfl, rfl, rfl, trivial⟩ trivial⟩
              · refine AOR.skip ⟨_, rfl, .inl ⟨_, rfl, (by rw [hb62]; rfl)⟩⟩ rfl ?_
                refine AOR.skip ⟨_, rfl, .inl ⟨_, rfl, (by rw [hb62]; rfl)⟩⟩ rfl ?_
                refine AOR.skip ⟨_, rfl, .inl ⟨_, rfl, (by rw [hb62]; rfl)⟩⟩ rfl ?_
                refine AOR.skip ⟨_, rfl, .inl ⟨_, rfl, (by rw [hb62]; rfl)⟩⟩ rfl ?_
                refine AOR.skip ⟨_, rfl, .inl ⟨_, rfl, (by rw [hb62]; rfl)⟩⟩ rfl ?_
                refine AOR.pure (LT.pickF (v := (.s (.c (bC false)))) rfl hb62) ⟨rfl, ⟨rfl, rfl⟩, trivial⟩ trivial ⟨_, rfl, .inl ⟨_, rfl, rfl⟩⟩ rfl ?_
                refine AOR.pure (LT.pickF (v := (.s (.c (bC false)))) rfl rfl) ⟨rfl, rfl, trivial⟩ trivial rfl rfl ?_
                refine AOR.nil ?_
                refine AWR.nil ⟨rfl, Ent.of ⟨rfl, rfl, rfl, rfl, rfl, trivial⟩ trivial⟩
          · refine AWR.cond rfl (fun hc64 => ?_) (fun hc64 => ?_)
            · refine AWR.seq ?_
              refine AWR.region ?_
              refine AOR.pure (LT.assign (v := (.s (.c (bC false)))) rfl) ⟨⟨rfl, rfl⟩, trivial⟩ trivial rfl rfl ?_
              refine AOR.nil ?_
              refine AWR.ret ⟨rfl, FPost.mk (.inr rfl) ⟨rfl, trivial⟩ trivial rfl ⟨PermP.sc, trivial⟩ trivial⟩
            · refine AWR.skip ?_
              refine AWR.blk ?_
              refine AWR.region ?_
              refine AOR.pure (LT.add rfl) ⟨rfl, ⟨rfl, rfl⟩, trivial⟩ trivial rfl rfl ?_
              refine AOR.pure (LT.move (v := (.s (.c (iC (w64 (s9 + 1)))))) rfl) ⟨rfl, trivial⟩ trivial rfl rfl ?_
              refine AOR.nil ?_
              refine AWR.nil ⟨rfl, Ent.of ⟨rfl, rfl, rfl, rfl, trivial⟩ trivial⟩
        · refine AWR.exit_end rfl ⟨rfl, Ent.of trivial trivial⟩
      · refine AWR.seq ?_
        refine AWR.region ?_
        refine AOR.pure (LT.assign (v := (.s (.c (bC true)))) rfl) ⟨⟨rfl, rfl⟩, trivial⟩ trivial rfl rfl ?_
        refine AOR.nil ?_
        refine AWR.ret (FPost.mk (.inr rfl) ⟨rfl, trivial⟩ trivial rfl ⟨PermP.sc, trivial⟩ trivial)
set_option maxRecDepth 100000 in
set_option maxHeartbeats 8000000 in
theorem w_impl_IsStrictStress (tV : TTensegrity) (w : (List Int)) : ∀ t, m_impl_IsStrictStress tV w = some t → Fw.Fn Try.prog 108 [(.agg [(iC tV.Framework.Graph.Points), (.pv (.xs false (tV.Framework.Graph.Bars.map encTBar))), (.pv (.xs false (tV.Framework.Places.map encTPlace))), (.pv (.xs false (tV.Kinds.map encInt)))]), (.c (.pv (.xs false (w.map encInt))))] [] (.s (.c (bC t))) [] [] [] := by
  refine Fw.Fn.of (P := Try.prog) (X := []) (pn := []) (rs := (fun (t : Bool) => [(.c (bC t))])) (dfs := (fun (t : Bool) => [])) Try.func108 rfl Try.ntmps108 (Nat.le_of_ble_eq_true rfl) rfl ?_
  intro w0 U0 R0 g0
  unfold m_impl_IsStrictStress
  refine AWR.seq ?_
  refine AWR.region ?_
  refine AOR.step (LT.box (n := 21) (v := (.agg [(iC tV.Framework.Graph.Points), (.pv (.xs false (tV.Framework.Graph.Bars.map encTBar))), (.pv (.xs false (tV.Framework.Places.map encTPlace))), (.pv (.xs false (tV.Kinds.map encInt)))])) rfl sz59 (by exact rfl)) ⟨rfl, trivial⟩ trivial rfl rfl ?_
  refine AOR.pure (LT.assign (v := (.s (.c (bC false)))) rfl) ⟨⟨rfl, rfl⟩, trivial⟩ trivial rfl rfl ?_
  refine AOR.nil ?_
  refine AWR.seq ?_
  refine AWR.seq ?_
  refine AWR.region ?_
  refine AOR.pure (LT.bloadN (out := [(iC tV.Framework.Graph.Points), (.pv (.xs false (tV.Framework.Graph.Bars.map encTBar))), (.pv (.xs false (tV.Framework.Places.map encTPlace))), (.pv (.xs false (tV.Kinds.map encInt)))]) rfl ag59 (infS inf59) sz59 (by exact rfl) (by exact rfl)) ⟨rfl, trivial⟩ ⟨rfl, trivial⟩ rfl rfl ?_
  refine AOR.pure (LT.move (v := (.s (.c (.pv (.xs false (w.map encInt)))))) rfl) ⟨rfl, trivial⟩ trivial rfl rfl ?_
  refine AOR.bind fun r1 hr1 => ?_
  refine AOR.pure (@LT.callF Try.prog _ _ 166 _ _ [(.agg [(iC tV.Framework.Graph.Points), (.pv (.xs false (tV.Framework.Graph.Bars.map encTBar))), (.pv (.xs false (tV.Framework.Places.map encTPlace))), (.pv (.xs false (tV.Kinds.map encInt)))]), (.c (.pv (.xs false (w.map encInt))))] _ _ [] _ _ _ _ (w_impl_IsProperStress tV w r1 hr1) rfl cb166 (.cons (.agg (.cons (.same rfl) (.cons (.same rfl) (.cons (.same rfl) (.cons (.same rfl) .nil))))) (.cons (.c (.same rfl)) .nil)) rfl rfl trivial) ⟨rfl, rfl, rfl, trivial⟩ trivial rfl rfl ?_
  refine AOR.pure (LT.not rfl) ⟨rfl, trivial⟩ trivial rfl rfl ?_
  refine AOR.nil ?_
  refine AWR.cond rfl (fun hc2 => ?_) (fun hc2 => ?_)
  · refine AWR.seq ?_
    refine AWR.region ?_
    refine AOR.pure (LT.assign (v := (.s (.c (bC false)))) rfl) ⟨⟨rfl, rfl⟩, trivial⟩ trivial rfl rfl ?_
    refine AOR.nil ?_
    refine AWR.ret (FPost.mk (.inr rfl) ⟨rfl, trivial⟩ trivial rfl ⟨PermP.sc, trivial⟩ trivial)
  · refine AWR.skip ?_
    refine AWR.seq ?_
    refine AWR.seq ?_
    refine AWR.region ?_
    refine AOR.pure (LT.fieldPl rfl fo59_1) ⟨rfl, trivial⟩ trivial rfl rfl ?_
    refine AOR.pure (LT.bload1 (c := (.pv (.xs false (tV.Kinds.map encInt)))) rfl ag37 (by exact rfl)) ⟨rfl, trivial⟩ ⟨rfl, trivial⟩ rfl rfl ?_
    refine AOR.pure (LT.tlenRO rfl und37) ⟨rfl, trivial⟩ trivial rfl rfl ?_
    refine AOR.pure (LT.move (v := (.s (.c (iC 0)))) rfl) ⟨⟨rfl, rfl⟩, trivial⟩ trivial rfl rfl ?_
    refine AOR.nil ?_
    refine AWR.block ?_
    refine AWR.loopR (id := 0) (m_impl_IsStrictStress_L1 tV w) (fun s3 => ([(1, (.s (.c (.pv (.xs false (w.map encInt)))))), (12, (.s (.c (.pv (.xs false (tV.Kinds.map encInt)))))), (13, (.s (.c (iC (tV.Kinds.length : Int))))), (14, (.s (.c (iC s3))))], [])) (fun b20 => ([], [])) (FPost Try.prog Try.f108.results.toList [] [] (fun (t : Bool) => [(.c (bC t))]) (fun (t : Bool) => [])) ?_ (Ent.of ⟨rfl, rfl, rfl, rfl, trivial⟩ trivial) rfl (fun b20 _ => ?_) (by intro r t σ m ht hk; injection ht with ht; subst ht; exact hk)
    · intro s3
      unfold m_impl_IsStrictStress_L1
      refine AWR.seq ?_
      refine AWR.region ?_
      refine AOR.pure (LT.lss rfl) ⟨rfl, rfl, trivial⟩ trivial rfl rfl ?_
      refine AOR.nil ?_
      refine AWR.seq ?_
      refine AWR.cond rfl (fun hc21 => ?_) (fun hc21 => ?_)
      · refine AWR.skip ?_
        refine AWR.seq ?_
        refine AWR.block ?_
        refine AWR.seq ?_
        refine AWR.region ?_
        refine AOR.pure (LT.move (v := (.s (.c (iC s3)))) rfl) ⟨rfl, trivial⟩ trivial rfl rfl ?_
        refine AOR.bind fun x22 hx22 => ?_
        refine AOR.pure (LT.tindexRO (enc := encInt) rfl el37 hx22 sz3) ⟨rfl, rfl, trivial⟩ trivial rfl rfl ?_
        refine AOR.pure (LT.loadPx1 rfl ag3) ⟨rfl, trivial⟩ trivial rfl rfl ?_
        refine AOR.pure (LT.assign (v := (.s (.c (iC s3)))) rfl) ⟨rfl, trivial⟩ trivial rfl rfl ?_
        refine AOR.pure (LT.assign (v := (.s (.c (iC x22)))) rfl) ⟨rfl, trivial⟩ trivial rfl rfl ?_
        refine AOR.nil ?_
        refine AWR.seq ?_
        refine AWR.joinK (fun j25 => ([(1, (.s (.c (.pv (.xs false (w.map encInt)))))), (12, (.s (.c (.pv (.xs false (tV.Kinds.map encInt)))))), (13, (.s (.c (iC (tV.Kinds.length : Int))))), (14, (.s (.c (iC s3)))), (27, (.s (.c (bC j25))))], [])) ?_ (fun j25 _ => ?_)
        · refine AWR.region ?_
          refine AOR.pure (LT.move (v := (.s (.c (iC x22)))) rfl) ⟨rfl, trivial⟩ trivial rfl rfl ?_
          refine AOR.pure (LT.neq rfl) ⟨rfl, ⟨rfl, rfl⟩, trivial⟩ trivial rfl rfl ?_
          refine AOR.pure (LT.move (v := (.s (.c (bC (x22 != 0))))) rfl) ⟨rfl, trivial⟩ trivial rfl rfl ?_
          refine AOR.split (fun hb26 => ?_) (fun hb26 => ?_)
          · refine AOR.pure (LT.move (v := (.s (.c (.pv (.xs false (w.map encInt)))))) rfl) ⟨rfl, trivial⟩ trivial ⟨_, rfl, .inl ⟨_, rfl, (by rw [hb26]; rfl)⟩⟩ rfl ?_
            refine AOR.pure (LT.move (v := (.s (.c (iC s3)))) rfl) ⟨rfl, trivial⟩ trivial ⟨_, rfl, .inl ⟨_, rfl, (by rw [hb26]; rfl)⟩⟩ rfl ?_
            refine AOR.bind fun x27 hx27 => ?_
            refine AOR.pure (LT.tindexRO (enc := encInt) rfl el37 hx27 sz3) ⟨rfl, rfl, trivial⟩ trivial ⟨_, rfl, .inl ⟨_, rfl, (by rw [hb26]; rfl)⟩⟩ rfl ?_
            refine AOR.pure (LT.loadPx1 rfl ag3) ⟨rfl, trivial⟩ trivial ⟨_, rfl, .inl ⟨_, rfl, (by rw [hb26]; rfl)⟩⟩ rfl ?_
            refine AOR.pure (LT.eql rfl) ⟨rfl, ⟨rfl, rfl⟩, trivial⟩ trivial ⟨_, rfl, .inl ⟨_, rfl, (by rw [hb26]; rfl)⟩⟩ rfl ?_
            refine AOR.pure (LT.pickT (v := (.s (.c (bC (x27 == 0))))) rfl hb26) ⟨rfl, rfl, trivial⟩ trivial rfl rfl ?_
            refine AOR.nil ?_
            refine AWR.nil ⟨rfl, Ent.of ⟨rfl, rfl, rfl, rfl, rfl, trivial⟩ trivial⟩
          · refine AOR.skip ⟨_, rfl, .inl ⟨_, rfl, (by rw [hb26]; rfl)⟩⟩ rfl ?_
            refine AOR.skip ⟨_, rfl, .inl ⟨_, rfl, (by rw [hb26]; rfl)⟩⟩ rfl ?_
            refine AOR.skip ⟨_, rfl, .inl ⟨_, rfl, (by rw [hb26]; rfl)⟩⟩ rfl ?_
            refine AOR.skip ⟨_, rfl, .inl ⟨_, rfl, (by rw [hb26]; rfl)⟩⟩ rfl ?_
            refine AOR.skip ⟨_, rfl, .inl ⟨_, rfl, (by rw [hb26]; rfl)⟩⟩ rfl ?_
            refine AOR.pure (LT.pickF (v := (.s (.c (bC false)))) rfl hb26) ⟨rfl, ⟨rfl, rfl⟩, trivial⟩ trivial rfl rfl ?_
            refine AOR.nil ?_
            refine AWR.nil ⟨rfl, Ent.of ⟨rfl, rfl, rfl, rfl, rfl, trivial⟩ trivial⟩
        · refine AWR.cond rfl (fun hc28 => ?_) (fun hc28 => ?_)
          · refine AWR.seq ?_
            refine AWR.region ?_
            refine AOR.pure (LT.assign (v := (.s (.c (bC false)))) rfl) ⟨⟨rfl, rfl⟩, trivial⟩ trivial rfl rfl ?_
            refine AOR.nil ?_
            refine AWR.ret ⟨rfl, FPost.mk (.inr rfl) ⟨rfl, trivial⟩ trivial rfl ⟨PermP.sc, trivial⟩ trivial⟩
          · refine AWR.skip ?_
            refine AWR.blk ?_
            refine AWR.region ?_
            refine AOR.pure (LT.add rfl) ⟨rfl, ⟨rfl, rfl⟩, trivial⟩ trivial rfl rfl ?_
            refine AOR.pure (LT.move (v := (.s (.c (iC (w64 (s3 + 1)))))) rfl) ⟨rfl, trivial⟩ trivial rfl rfl ?_
            refine AOR.nil ?_
            refine AWR.nil ⟨rfl, Ent.of ⟨rfl, rfl, rfl, rfl, trivial⟩ trivial⟩
      · refine AWR.exit_end rfl ⟨rfl, Ent.of trivial trivial⟩
    · refine AWR.seq ?_
      refine AWR.region ?_
      refine AOR.pure (LT.assign (v := (.s (.c (bC true)))) rfl) ⟨⟨rfl, rfl⟩, trivial⟩ trivial rfl rfl ?_
      refine AOR.nil ?_
      refine AWR.ret (FPost.mk (.inr rfl) ⟨rfl, trivial⟩ trivial rfl ⟨PermP.sc, trivial⟩ trivial)
set_option maxRecDepth 100000 in
set_option maxHeartbeats 8000000 in
theorem w_impl_FrameworkFreedom (f : TFramework) : ∀ t, m_impl_FrameworkFreedom f = some t → Fw.Fn Try.prog 61 [(.agg [(iC f.Graph.Points), (.pv (.xs false (f.Graph.Bars.map encTBar))), (.pv (.xs false (f.Places.map encTPlace)))])] [] (.s (.c (iC t))) [] [] [] := by
  refine Fw.Fn.of (P := Try.prog) (X := []) (pn := []) (rs := (fun (t : Int) => [(.c (iC t))])) (dfs := (fun (t : Int) => [])) Try.func61 rfl Try.ntmps61 (Nat.le_of_ble_eq_true rfl) rfl ?_
  intro w0 U0 R0 g0
  unfold m_impl_FrameworkFreedom
  refine AWR.seq ?_
  refine AWR.region ?_
  refine AOR.step (LT.box (n := 21) (v := (.agg [(iC f.Graph.Points), (.pv (.xs false (f.Graph.Bars.map encTBar))), (.pv (.xs false (f.Places.map encTPlace)))])) rfl sz29 (by exact rfl)) ⟨rfl, trivial⟩ trivial rfl rfl ?_
  refine AOR.pure (LT.assign (v := (.s (.c (iC 0)))) rfl) ⟨⟨rfl, rfl⟩, trivial⟩ trivial rfl rfl ?_
  refine AOR.nil ?_
  refine AWR.seq ?_
  refine AWR.seq ?_
  refine AWR.region ?_
  refine AOR.pure (LT.bloadN (out := [(iC f.Graph.Points), (.pv (.xs false (f.Graph.Bars.map encTBar))), (.pv (.xs false (f.Places.map encTPlace)))]) rfl ag29 (infS inf29) sz29 (by exact rfl) (by exact rfl)) ⟨rfl, trivial⟩ ⟨rfl, trivial⟩ rfl rfl ?_
  refine AOR.bind fun r1 hr1 => ?_
  refine AOR.pure (@LT.callF Try.prog _ _ 86 _ _ [(.agg [(iC f.Graph.Points), (.pv (.xs false (f.Graph.Bars.map encTBar))), (.pv (.xs false (f.Places.map encTPlace)))])] _ _ [] _ _ _ _ (w_impl_IsFramework f r1 hr1) rfl cb86 (.cons (.agg (.cons (.same rfl) (.cons (.same rfl) (.cons (.same rfl) .nil)))) .nil) rfl rfl trivial) ⟨rfl, rfl, trivial⟩ trivial rfl rfl ?_
  refine AOR.pure (LT.not rfl) ⟨rfl, trivial⟩ trivial rfl rfl ?_
  refine AOR.nil ?_
  refine AWR.cond rfl (fun hc2 => ?_) (fun hc2 => ?_)
  · refine AWR.seq ?_
    refine AWR.region ?_
    refine AOR.pure (LT.assign (v := (.s (.c (iC (-1))))) rfl) ⟨⟨rfl, rfl⟩, trivial⟩ trivial rfl rfl ?_
    refine AOR.nil ?_
    refine AWR.ret (FPost.mk (.inr rfl) ⟨rfl, trivial⟩ trivial rfl ⟨PermP.sc, trivial⟩ trivial)
  · refine AWR.skip ?_
    refine AWR.seq ?_
    refine AWR.region ?_
    refine AOR.pure (LT.assign (v := (.s (.c (iC 3)))) rfl) ⟨⟨rfl, rfl⟩, trivial⟩ trivial rfl rfl ?_
    refine AOR.nil ?_
    refine AWR.seq ?_
    refine AWR.region ?_
    refine AOR.pure (LT.assign (v := (.s (.c (bC true)))) rfl) ⟨⟨rfl, rfl⟩, trivial⟩ trivial rfl rfl ?_
    refine AOR.nil ?_
    refine AWR.seq ?_
    refine AWR.seq ?_
    refine AWR.region ?_
    refine AOR.pure (LT.fieldPl rfl fo29_1) ⟨rfl, trivial⟩ trivial rfl rfl ?_
    refine AOR.pure (LT.bload1 (c := (.pv (.xs false (f.Places.map encTPlace)))) rfl ag27 (by exact rfl)) ⟨rfl, trivial⟩ ⟨rfl, trivial⟩ rfl rfl ?_
    refine AOR.pure (LT.tlenRO rfl und27) ⟨rfl, trivial⟩ trivial rfl rfl ?_
    refine AOR.pure (LT.move (v := (.s (.c (iC 0)))) rfl) ⟨⟨rfl, rfl⟩, trivial⟩ trivial rfl rfl ?_
    refine AOR.nil ?_
    refine AWR.block ?_
    refine AWR.loop1 (id := 0) (m_impl_FrameworkFreedom_L1 f) (fun s3 => ([(1, (.s (.c (.pl 21 0)))), (3, (.s (.c (iC 3)))), (4, (.s (.c (bC s3.1)))), (11, (.s (.c (.pv (.xs false (f.Places.map encTPlace)))))), (12, (.s (.c (iC (f.Places.length : Int))))), (13, (.s (.c (iC s3.2))))], [(21, (.row 29 [[(iC f.Graph.Points), (.pv (.xs false (f.Graph.Bars.map encTBar))), (.pv (.xs false (f.Places.map encTPlace)))]]))])) (fun b15 => ([(1, (.s (.c (.pl 21 0)))), (3, (.s (.c (iC 3)))), (4, (.s (.c (bC b15))))], [(21, (.row 29 [[(iC f.Graph.Points), (.pv (.xs false (f.Graph.Bars.map encTBar))), (.pv (.xs false (f.Places.map encTPlace)))]]))])) ?_ (Ent.of ⟨rfl, rfl, rfl, rfl, rfl, rfl, trivial⟩ ⟨rfl, trivial⟩) rfl (fun b15 _ => ?_)
    · intro s3
      unfold m_impl_FrameworkFreedom_L1
      refine AWR.seq ?_
      refine AWR.region ?_
      refine AOR.pure (LT.lss rfl) ⟨rfl, rfl, trivial⟩ trivial rfl rfl ?_
      refine AOR.nil ?_
      refine AWR.seq ?_
      refine AWR.cond rfl (fun hc16 => ?_) (fun hc16 => ?_)
      · refine AWR.skip ?_
        refine AWR.seq ?_
        refine AWR.block ?_
        refine AWR.seq ?_
        refine AWR.region ?_
        refine AOR.bind fun x17 hx17 => ?_
        refine AOR.pure (LT.tindexRO (enc := encTPlace) rfl el27 hx17 sz95) ⟨rfl, rfl, trivial⟩ trivial rfl rfl ?_
        refine AOR.pure (LT.loadPxN rfl ag95 (infS inf95) (by exact sz95.symm)) ⟨rfl, trivial⟩ trivial rfl rfl ?_
        refine AOR.step (LT.alloc (n := 23) (cells := [(iC 0), (iC 0)]) rfl ti95 rfl rfl rfl) trivial trivial rfl rfl ?_
        refine AOR.step (LT.bstore (v := (.agg [(iC x17.X), (iC x17.Y)])) (out := [(iC x17.X), (iC x17.Y)]) rfl rfl (infS inf95) sz95 (by exact rfl) (by exact Nat.le_of_ble_eq_true rfl) (by exact rfl)) ⟨rfl, rfl, trivial⟩ ⟨rfl, trivial⟩ rfl rfl ?_
        refine AOR.nil ?_
        refine AWR.joinK (fun j20 => ([(1, (.s (.c (.pl 21 0)))), (3, (.s (.c (iC 3)))), (4, (.s (.c (bC j20)))), (11, (.s (.c (.pv (.xs false (f.Places.map encTPlace)))))), (12, (.s (.c (iC (f.Places.length : Int))))), (13, (.s (.c (iC s3.2))))], [(21, (.row 29 [[(iC f.Graph.Points), (.pv (.xs false (f.Graph.Bars.map encTBar))), (.pv (.xs false (f.Places.map encTPlace)))]]))])) ?_ (fun j20 _ => ?_)
        · refine AWR.draw mixed ?_
          refine AOD.pure (LT.move (v := (.s (.c (bC s3.1)))) rfl) ⟨rfl, trivial⟩ trivial rfl rfl ?_
          refine AOD.pure (LT.move (v := (.s (.c (bC s3.1)))) rfl) ⟨rfl, trivial⟩ trivial rfl rfl ?_
          refine AOD.split (fun hb21 => ?_) (fun hb21 => ?_)
          · refine AOD.pure (LT.bloadN (out := [(iC x17.X), (iC x17.Y)]) rfl ag95 (infS inf95) sz95 (by exact rfl) (by exact rfl)) ⟨rfl, trivial⟩ ⟨rfl, trivial⟩ ⟨_, rfl, .inl ⟨_, rfl, (by rw [hb21]; rfl)⟩⟩ rfl ?_
            refine AOD.pure (LT.fieldPl rfl fo29_1) ⟨rfl, trivial⟩ trivial ⟨_, rfl, .inl ⟨_, rfl, (by rw [hb21]; rfl)⟩⟩ rfl ?_
            refine AOD.pure (LT.bload1 (c := (.pv (.xs false (f.Places.map encTPlace)))) rfl ag27 (by exact rfl)) ⟨rfl, trivial⟩ ⟨rfl, trivial⟩ ⟨_, rfl, .inl ⟨_, rfl, (by rw [hb21]; rfl)⟩⟩ rfl ?_
            refine AOD.bind fun x22 hx22 => ?_
            refine AOD.pure (LT.tindexRO (enc := encTPlace) rfl el27 hx22 sz95) ⟨rfl, ⟨rfl, rfl⟩, trivial⟩ trivial ⟨_, rfl, .inl ⟨_, rfl, (by rw [hb21]; rfl)⟩⟩ rfl ?_
            refine AOD.pure (LT.loadPxN rfl ag95 (infS inf95) (by exact sz95.symm)) ⟨rfl, trivial⟩ trivial ⟨_, rfl, .inl ⟨_, rfl, (by rw [hb21]; rfl)⟩⟩ rfl ?_
            refine AOD.pure (LT.eqlStruct [x17.X, x17.Y] [x22.X, x22.Y] rfl ist95 rfl rfl) ⟨rfl, rfl, trivial⟩ trivial ⟨_, rfl, .inl ⟨_, rfl, (by rw [hb21]; rfl)⟩⟩ rfl ?_
            refine AOD.pure (LT.pickT (v := (.s (.c (bC (eqI [x17.X, x17.Y] [x22.X, x22.Y]))))) rfl hb21) ⟨rfl, rfl, trivial⟩ trivial rfl rfl ?_
            refine AOD.pure (LT.assign (v := (.s (.c (bC (eqI [x17.X, x17.Y] [x22.X, x22.Y]))))) rfl) ⟨rfl, trivial⟩ trivial rfl rfl ?_
            refine AOD.nil (by kernel_rfl) ?_
            refine AWR.nil ⟨rfl, Ent.of ⟨rfl, rfl, rfl, rfl, rfl, rfl, trivial⟩ ⟨rfl, trivial⟩⟩
          · refine AOD.skip ⟨_, rfl, .inl ⟨_, rfl, (by rw [hb21]; rfl)⟩⟩ rfl ?_
            refine AOD.skip ⟨_, rfl, .inl ⟨_, rfl, (by rw [hb21]; rfl)⟩⟩ rfl ?_
            refine AOD.skip ⟨_, rfl, .inl ⟨_, rfl, (by rw [hb21]; rfl)⟩⟩ rfl ?_
            refine AOD.skip ⟨_, rfl, .inl ⟨_, rfl, (by rw [hb21]; rfl)⟩⟩ rfl ?_
            refine AOD.skip ⟨_, rfl, .inl ⟨_, rfl, (by rw [hb21]; rfl)⟩⟩ rfl ?_
            refine AOD.skip ⟨_, rfl, .inl ⟨_, rfl, (by rw [hb21]; rfl)⟩⟩ rfl ?_
            refine AOD.pure (LT.pickF (v := (.s (.c (bC false)))) rfl hb21) ⟨rfl, ⟨rfl, rfl⟩, trivial⟩ trivial rfl rfl ?_
            refine AOD.pure (LT.assign (v := (.s (.c (bC false)))) rfl) ⟨rfl, trivial⟩ trivial rfl rfl ?_
            refine AOD.nil (by kernel_rfl) ?_
            refine AWR.nil ⟨rfl, Ent.of ⟨rfl, rfl, rfl, rfl, rfl, rfl, trivial⟩ ⟨rfl, trivial⟩⟩
        · refine AWR.blk ?_
          refine AWR.region ?_
          refine AOR.pure (LT.add rfl) ⟨rfl, ⟨rfl, rfl⟩, trivial⟩ trivial rfl rfl ?_
          refine AOR.pure (LT.move (v := (.s (.c (iC (w64 (s3.2 + 1)))))) rfl) ⟨rfl, trivial⟩ trivial rfl rfl ?_
          refine AOR.nil ?_
          refine AWR.nil ⟨rfl, Ent.of ⟨rfl, rfl, rfl, rfl, rfl, rfl, trivial⟩ ⟨rfl, trivial⟩⟩
      · refine AWR.exit_end rfl ⟨rfl, Ent.of ⟨rfl, rfl, rfl, trivial⟩ ⟨rfl, trivial⟩⟩
    · refine AWR.seq ?_
      refine AWR.seq ?_
      refine AWR.region ?_
      refine AOR.pure (LT.move (v := (.s (.c (bC b15)))) rfl) ⟨rfl, trivial⟩ trivial rfl rfl ?_
      refine AOR.nil ?_
      refine AWR.joinK (fun j24 => ([(1, (.s (.c (.pl 21 0)))), (3, (.s (.c (iC j24))))], [(21, (.row 29 [[(iC f.Graph.Points), (.pv (.xs false (f.Graph.Bars.map encTBar))), (.pv (.xs false (f.Places.map encTPlace)))]]))])) ?_ (fun j24 _ => ?_)
      · refine AWR.cond rfl (fun hc25 => ?_) (fun hc25 => ?_)
        · refine AWR.region ?_
          refine AOR.pure (LT.assign (v := (.s (.c (iC 2)))) rfl) ⟨⟨rfl, rfl⟩, trivial⟩ trivial rfl rfl ?_
          refine AOR.nil ?_
          refine AWR.nil ⟨rfl, Ent.of ⟨rfl, rfl, trivial⟩ ⟨rfl, trivial⟩⟩
        · refine AWR.skip ?_
          refine AWR.nil ⟨rfl, Ent.of ⟨rfl, rfl, trivial⟩ ⟨rfl, trivial⟩⟩
      · refine AWR.seq ?_
        refine AWR.draw mixed ?_
        refine AOD.pure (LT.fieldPl rfl fo29_0) ⟨rfl, trivial⟩ trivial rfl rfl ?_
        refine AOD.pure (LT.fieldPl rfl fo26_0) ⟨rfl, trivial⟩ trivial rfl rfl ?_
        refine AOD.pure (LT.bload1 (c := (iC f.Graph.Points)) rfl ag3 (by exact rfl)) ⟨rfl, trivial⟩ ⟨rfl, trivial⟩ rfl rfl ?_
        refine AOD.pure (LT.mul rfl) ⟨⟨rfl, rfl⟩, rfl, trivial⟩ trivial rfl rfl ?_
        refine AOD.pure (LT.move (v := (.s (.c (iC j24)))) rfl) ⟨rfl, trivial⟩ trivial rfl rfl ?_
        refine AOD.pure (LT.sub rfl) ⟨rfl, rfl, trivial⟩ trivial rfl rfl ?_
        refine AOD.pure (LT.bloadN (out := [(iC f.Graph.Points), (.pv (.xs false (f.Graph.Bars.map encTBar))), (.pv (.xs false (f.Places.map encTPlace)))]) rfl ag29 (infS inf29) sz29 (by exact rfl) (by exact rfl)) ⟨rfl, trivial⟩ ⟨rfl, trivial⟩ rfl rfl ?_
        refine AOD.bind fun r26 hr26 => ?_
        refine AOD.pure (@LT.callF Try.prog _ _ 75 _ _ [(.agg [(iC f.Graph.Points), (.pv (.xs false (f.Graph.Bars.map encTBar))), (.pv (.xs false (f.Places.map encTPlace)))])] _ _ [] _ _ _ _ (w_impl_FrameworkRank f r26 hr26) rfl cb75 (.cons (.agg (.cons (.same rfl) (.cons (.same rfl) (.cons (.same rfl) .nil)))) .nil) rfl rfl trivial) ⟨rfl, rfl, trivial⟩ trivial rfl rfl ?_
        refine AOD.pure (LT.sub rfl) ⟨rfl, rfl, trivial⟩ trivial rfl rfl ?_
        refine AOD.pure (LT.assign (v := (.s (.c (iC (w64 ((w64 ((w64 (2 * f.Graph.Points)) - j24)) - r26)))))) rfl) ⟨rfl, trivial⟩ trivial rfl rfl ?_
        refine AOD.nil (by kernel_rfl) ?_
        refine AWR.ret (FPost.mk (.inr rfl) ⟨rfl, trivial⟩ trivial rfl ⟨PermP.sc, trivial⟩ trivial)
set_option maxRecDepth 100000 in
set_option maxHeartbeats 8000000 in
theorem w_impl_IsStiff (f : TFramework) : ∀ t, m_impl_IsStiff f = some t → Fw.Fn Try.prog 65 [(.agg [(iC f.Graph.Points), (.pv (.xs false (f.Graph.Bars.map encTBar))), (.pv (.xs false (f.Places.map encTPlace)))])] [] (.s (.c (bC t))) [] [] [] := by
  refine Fw.Fn.of (P := Try.prog) (X := []) (pn := []) (rs := (fun (t : Bool) => [(.c (bC t))])) (dfs := (fun (t : Bool) => [])) Try.func65 rfl Try.ntmps65 (Nat.le_of_ble_eq_true rfl) rfl ?_
  intro w0 U0 R0 g0
  unfold m_impl_IsStiff
  refine AWR.seq ?_
  refine AWR.region ?_
  refine AOR.step (LT.box (n := 21) (v := (.agg [(iC f.Graph.Points), (.pv (.xs false (f.Graph.Bars.map encTBar))), (.pv (.xs false (f.Places.map encTPlace)))])) rfl sz29 (by exact rfl)) ⟨rfl, trivial⟩ trivial rfl rfl ?_
  refine AOR.pure (LT.assign (v := (.s (.c (bC false)))) rfl) ⟨⟨rfl, rfl⟩, trivial⟩ trivial rfl rfl ?_
  refine AOR.nil ?_
  refine AWR.seq ?_
  refine AWR.region ?_
  refine AOR.pure (LT.bloadN (out := [(iC f.Graph.Points), (.pv (.xs false (f.Graph.Bars.map encTBar))), (.pv (.xs false (f.Places.map encTPlace)))]) rfl ag29 (infS inf29) sz29 (by exact rfl) (by exact rfl)) ⟨rfl, trivial⟩ ⟨rfl, trivial⟩ rfl rfl ?_
  refine AOR.bind fun r1 hr1 => ?_
  refine AOR.pure (@LT.callF Try.prog _ _ 61 _ _ [(.agg [(iC f.Graph.Points), (.pv (.xs false (f.Graph.Bars.map encTBar))), (.pv (.xs false (f.Places.map encTPlace)))])] _ _ [] _ _ _ _ (w_impl_FrameworkFreedom f r1 hr1) rfl cb61 (.cons (.agg (.cons (.same rfl) (.cons (.same rfl) (.cons (.same rfl) .nil)))) .nil) rfl rfl trivial) ⟨rfl, rfl, trivial⟩ trivial rfl rfl ?_
  refine AOR.pure (LT.eql rfl) ⟨rfl, ⟨rfl, rfl⟩, trivial⟩ trivial rfl rfl ?_
  refine AOR.pure (LT.assign (v := (.s (.c (bC (r1 == 0))))) rfl) ⟨rfl, trivial⟩ trivial rfl rfl ?_
  refine AOR.nil ?_
  refine AWR.ret (FPost.mk (.inr rfl) ⟨rfl, trivial⟩ trivial rfl ⟨PermP.sc, trivial⟩ trivial)
set_option maxRecDepth 100000 in
set_option maxHeartbeats 8000000 in
theorem w_impl_ProvesStiff (tV : TTensegrity) (w : (List Int)) : ∀ t, m_impl_ProvesStiff tV w = some t → Fw.Fn Try.prog 40 [(.agg [(iC tV.Framework.Graph.Points), (.pv (.xs false (tV.Framework.Graph.Bars.map encTBar))), (.pv (.xs false (tV.Framework.Places.map encTPlace))), (.pv (.xs false (tV.Kinds.map encInt)))]), (.c (.pv (.xs false (w.map encInt))))] [] (.s (.c (bC t))) [] [] [] := by
  refine Fw.Fn.of (P := Try.prog) (X := []) (pn := []) (rs := (fun (t : Bool) => [(.c (bC t))])) (dfs := (fun (t : Bool) => [])) Try.func40 rfl Try.ntmps40 (Nat.le_of_ble_eq_true rfl) rfl ?_
  intro w0 U0 R0 g0
  unfold m_impl_ProvesStiff
  refine AWR.seq ?_
  refine AWR.region ?_
  refine AOR.step (LT.box (n := 21) (v := (.agg [(iC tV.Framework.Graph.Points), (.pv (.xs false (tV.Framework.Graph.Bars.map encTBar))), (.pv (.xs false (tV.Framework.Places.map encTPlace))), (.pv (.xs false (tV.Kinds.map encInt)))])) rfl sz59 (by exact rfl)) ⟨rfl, trivial⟩ trivial rfl rfl ?_
  refine AOR.pure (LT.assign (v := (.s (.c (bC false)))) rfl) ⟨⟨rfl, rfl⟩, trivial⟩ trivial rfl rfl ?_
  refine AOR.nil ?_
  refine AWR.seq ?_
  refine AWR.joinK (fun j4 => ([(4, (.s (.c (bC j4))))], [])) ?_ (fun j4 _ => ?_)
  · refine AWR.region ?_
    refine AOR.pure (LT.bloadN (out := [(iC tV.Framework.Graph.Points), (.pv (.xs false (tV.Framework.Graph.Bars.map encTBar))), (.pv (.xs false (tV.Framework.Places.map encTPlace))), (.pv (.xs false (tV.Kinds.map encInt)))]) rfl ag59 (infS inf59) sz59 (by exact rfl) (by exact rfl)) ⟨rfl, trivial⟩ ⟨rfl, trivial⟩ rfl rfl ?_
    refine AOR.pure (LT.move (v := (.s (.c (.pv (.xs false (w.map encInt)))))) rfl) ⟨rfl, trivial⟩ trivial rfl rfl ?_
    refine AOR.bind fun r5 hr5 => ?_
    refine AOR.pure (@LT.callF Try.prog _ _ 108 _ _ [(.agg [(iC tV.Framework.Graph.Points), (.pv (.xs false (tV.Framework.Graph.Bars.map encTBar))), (.pv (.xs false (tV.Framework.Places.map encTPlace))), (.pv (.xs false (tV.Kinds.map encInt)))]), (.c (.pv (.xs false (w.map encInt))))] _ _ [] _ _ _ _ (w_impl_IsStrictStress tV w r5 hr5) rfl cb108 (.cons (.agg (.cons (.same rfl) (.cons (.same rfl) (.cons (.same rfl) (.cons (.same rfl) .nil))))) (.cons (.c (.same rfl)) .nil)) rfl rfl trivial) ⟨rfl, rfl, rfl, trivial⟩ trivial rfl rfl ?_
    refine AOR.pure (LT.move (v := (.s (.c (bC r5)))) rfl) ⟨rfl, trivial⟩ trivial rfl rfl ?_
    refine AOR.split (fun hb6 => ?_) (fun hb6 => ?_)
    · refine AOR.pure (LT.fieldPl rfl fo59_0) ⟨rfl, trivial⟩ trivial ⟨_, rfl, .inl ⟨_, rfl, (by rw [hb6]; rfl)⟩⟩ rfl ?_
      refine AOR.pure (LT.bloadN (out := [(iC tV.Framework.Graph.Points), (.pv (.xs false (tV.Framework.Graph.Bars.map encTBar))), (.pv (.xs false (tV.Framework.Places.map encTPlace)))]) rfl ag29 (infS inf29) sz29 (by exact rfl) (by exact rfl)) ⟨rfl, trivial⟩ ⟨rfl, trivial⟩ ⟨_, rfl, .inl ⟨_, rfl, (by rw [hb6]; rfl)⟩⟩ rfl ?_
      refine AOR.bind fun r7 hr7 => ?_
      refine AOR.pure (@LT.callF Try.prog _ _ 65 _ _ [(.agg [(iC tV.Framework.Graph.Points), (.pv (.xs false (tV.Framework.Graph.Bars.map encTBar))), (.pv (.xs false (tV.Framework.Places.map encTPlace)))])] _ _ [] _ _ _ _ (w_impl_IsStiff tV.Framework r7 hr7) rfl cb65 (.cons (.agg (.cons (.same rfl) (.cons (.same rfl) (.cons (.same rfl) .nil)))) .nil) rfl rfl trivial) ⟨rfl, rfl, trivial⟩ trivial ⟨_, rfl, .inl ⟨_, rfl, (by rw [hb6]; rfl)⟩⟩ rfl ?_
      refine AOR.pure (LT.pickT (v := (.s (.c (bC r7)))) rfl hb6) ⟨rfl, rfl, trivial⟩ trivial rfl rfl ?_
      refine AOR.pure (LT.assign (v := (.s (.c (bC r7)))) rfl) ⟨rfl, trivial⟩ trivial rfl rfl ?_
      refine AOR.nil ?_
      refine AWR.nil ⟨rfl, Ent.of ⟨rfl, trivial⟩ trivial⟩
    · refine AOR.skip ⟨_, rfl, .inl ⟨_, rfl, (by rw [hb6]; rfl)⟩⟩ rfl ?_
      refine AOR.skip ⟨_, rfl, .inl ⟨_, rfl, (by rw [hb6]; rfl)⟩⟩ rfl ?_
      refine AOR.skip ⟨_, rfl, .inl ⟨_, rfl, (by rw [hb6]; rfl)⟩⟩ rfl ?_
      refine AOR.pure (LT.pickF (v := (.s (.c (bC false)))) rfl hb6) ⟨rfl, ⟨rfl, rfl⟩, trivial⟩ trivial rfl rfl ?_
      refine AOR.pure (LT.assign (v := (.s (.c (bC false)))) rfl) ⟨rfl, trivial⟩ trivial rfl rfl ?_
      refine AOR.nil ?_
      refine AWR.nil ⟨rfl, Ent.of ⟨rfl, trivial⟩ trivial⟩
  · refine AWR.ret (FPost.mk (.inr rfl) ⟨rfl, trivial⟩ trivial rfl ⟨PermP.sc, trivial⟩ trivial)
end Go.Proofs.Ytoeigmhhmadmbaa
end
section
set_option linter.unusedVariables false
set_option linter.unusedSimpArgs false
set_option linter.unnecessarySimpa false
open Go Go.Fw
namespace Go.Proofs.Ytoeigmhhmadmbaa
set_option maxRecDepth 100000 in
set_option maxHeartbeats 8000000 in
theorem w_laws_eqIntS (a : (List Int)) (b : (List Int)) : ∀ t, m_laws_eqIntS a b = some t → Fw.Fn Try.prog 42 [(.c (.pv (.xs false (a.map encInt)))), (.c (.pv (.xs false (b.map encInt))))] [] (.s (.c (bC t))) [] [] [] := by
  refine Fw.Fn.of (P := Try.prog) (X := []) (pn := []) (rs := (fun (t : Bool) => [(.c (bC t))])) (dfs := (fun (t : Bool) => [])) Try.func42 rfl Try.ntmps42 (Nat.le_of_ble_eq_true rfl) rfl ?_
  intro w0 U0 R0 g0
  unfold m_laws_eqIntS
  refine AWR.seq ?_
  refine AWR.region ?_
  refine AOR.pure (LT.assign (v := (.s (.c (bC false)))) rfl) ⟨⟨rfl, rfl⟩, trivial⟩ trivial rfl rfl ?_
  refine AOR.nil ?_
  refine AWR.seq ?_
  refine AWR.seq ?_
  refine AWR.region ?_
  refine AOR.pure (LT.move (v := (.s (.c (.pv (.xs false (a.map encInt)))))) rfl) ⟨rfl, trivial⟩ trivial rfl rfl ?_
  refine AOR.pure (LT.tlenRO rfl und37) ⟨rfl, trivial⟩ trivial rfl rfl ?_
  refine AOR.pure (LT.move (v := (.s (.c (.pv (.xs false (b.map encInt)))))) rfl) ⟨rfl, trivial⟩ trivial rfl rfl ?_
  refine AOR.pure (LT.tlenRO rfl und37) ⟨rfl, trivial⟩ trivial rfl rfl ?_
  refine AOR.pure (LT.neq rfl) ⟨rfl, rfl, trivial⟩ trivial rfl rfl ?_
  refine AOR.nil ?_
  refine AWR.cond rfl (fun hc1 => ?_) (fun hc1 => ?_)
  · refine AWR.seq ?_
    refine AWR.region ?_
    refine AOR.pure (LT.assign (v := (.s (.c (bC false)))) rfl) ⟨⟨rfl, rfl⟩, trivial⟩ trivial rfl rfl ?_
    refine AOR.nil ?_
    refine AWR.ret (FPost.mk (.inr rfl) ⟨rfl, trivial⟩ trivial rfl ⟨PermP.sc, trivial⟩ trivial)
  · refine AWR.skip ?_
    refine AWR.seq ?_
    refine AWR.seq ?_
    refine AWR.region ?_
    refine AOR.pure (LT.assign (v := (.s (.c (iC 0)))) rfl) ⟨⟨rfl, rfl⟩, trivial⟩ trivial rfl rfl ?_
    refine AOR.nil ?_
    refine AWR.block ?_
    refine AWR.loopR (id := 0) (m_laws_eqIntS_L1 a b) (fun s2 => ([(0, (.s (.c (.pv (.xs false (a.map encInt)))))), (1, (.s (.c (.pv (.xs false (b.map encInt)))))), (5, (.s (.c (iC s2))))], [])) (fun b11 => ([], [])) (FPost Try.prog Try.f42.results.toList [] [] (fun (t : Bool) => [(.c (bC t))]) (fun (t : Bool) => [])) ?_ (Ent.of ⟨rfl, rfl, rfl, trivial⟩ trivial) rfl (fun b11 _ => ?_) (by intro r t σ m ht hk; injection ht with ht; subst ht; exact hk)
    · intro s2
      unfold m_laws_eqIntS_L1
      refine AWR.seq ?_
      refine AWR.seq ?_
      refine AWR.region ?_
      refine AOR.pure (LT.move (v := (.s (.c (iC s2)))) rfl) ⟨rfl, trivial⟩ trivial rfl rfl ?_
      refine AOR.pure (LT.move (v := (.s (.c (.pv (.xs false (a.map encInt)))))) rfl) ⟨rfl, trivial⟩ trivial rfl rfl ?_
      refine AOR.pure (LT.tlenRO rfl und37) ⟨rfl, trivial⟩ trivial rfl rfl ?_
      refine AOR.pure (LT.lss rfl) ⟨rfl, rfl, trivial⟩ trivial rfl rfl ?_
      refine AOR.nil ?_
      refine AWR.cond rfl (fun hc12 => ?_) (fun hc12 => ?_)
      · refine AWR.skip ?_
        refine AWR.seq ?_
        refine AWR.block ?_
        refine AWR.seq ?_
        refine AWR.draw mixed ?_
        refine AOD.pure (LT.move (v := (.s (.c (.pv (.xs false (a.map encInt)))))) rfl) ⟨rfl, trivial⟩ trivial rfl rfl ?_
        refine AOD.pure (LT.move (v := (.s (.c (iC s2)))) rfl) ⟨rfl, trivial⟩ trivial rfl rfl ?_
        refine AOD.bind fun x13 hx13 => ?_
        refine AOD.pure (LT.tindexRO (enc := encInt) rfl el37 hx13 sz3) ⟨rfl, rfl, trivial⟩ trivial rfl rfl ?_
        refine AOD.pure (LT.loadPx1 rfl ag3) ⟨rfl, trivial⟩ trivial rfl rfl ?_
        refine AOD.pure (LT.move (v := (.s (.c (.pv (.xs false (b.map encInt)))))) rfl) ⟨rfl, trivial⟩ trivial rfl rfl ?_
        refine AOD.pure (LT.move (v := (.s (.c (iC s2)))) rfl) ⟨rfl, trivial⟩ trivial rfl rfl ?_
        refine AOD.bind fun x14 hx14 => ?_
        refine AOD.pure (LT.tindexRO (enc := encInt) rfl el37 hx14 sz3) ⟨rfl, rfl, trivial⟩ trivial rfl rfl ?_
        refine AOD.pure (LT.loadPx1 rfl ag3) ⟨rfl, trivial⟩ trivial rfl rfl ?_
        refine AOD.pure (LT.neq rfl) ⟨rfl, rfl, trivial⟩ trivial rfl rfl ?_
        refine AOD.nil (by kernel_rfl) ?_
        refine AWR.cond rfl (fun hc15 => ?_) (fun hc15 => ?_)
        · refine AWR.seq ?_
          refine AWR.ent (Ent.of (σ' := []) (m' := []) trivial trivial) ?_
          refine AWR.region ?_
          refine AOR.pure (LT.assign (v := (.s (.c (bC false)))) rfl) ⟨⟨rfl, rfl⟩, trivial⟩ trivial rfl rfl ?_
          refine AOR.nil ?_
          refine AWR.ret ⟨rfl, FPost.mk (.inr rfl) ⟨rfl, trivial⟩ trivial rfl ⟨PermP.sc, trivial⟩ trivial⟩
        · refine AWR.skip ?_
          refine AWR.blk ?_
          refine AWR.ent (Ent.of (σ' := [(0, (.s (.c (.pv (.xs false (a.map encInt)))))), (1, (.s (.c (.pv (.xs false (b.map encInt)))))), (5, (.s (.c (iC s2))))]) (m' := []) ⟨rfl, rfl, rfl, trivial⟩ trivial) ?_
          refine AWR.region ?_
          refine AOR.pure (LT.move (v := (.s (.c (iC s2)))) rfl) ⟨rfl, trivial⟩ trivial rfl rfl ?_
          refine AOR.pure (LT.add rfl) ⟨rfl, ⟨rfl, rfl⟩, trivial⟩ trivial rfl rfl ?_
          refine AOR.pure (LT.assign (v := (.s (.c (iC (w64 (s2 + 1)))))) rfl) ⟨rfl, trivial⟩ trivial rfl rfl ?_
          refine AOR.nil ?_
          refine AWR.nil ⟨rfl, Ent.of ⟨rfl, rfl, rfl, trivial⟩ trivial⟩
      · refine AWR.exit_end rfl ⟨rfl, Ent.of trivial trivial⟩
    · refine AWR.seq ?_
      refine AWR.region ?_
      refine AOR.pure (LT.assign (v := (.s (.c (bC true)))) rfl) ⟨⟨rfl, rfl⟩, trivial⟩ trivial rfl rfl ?_
      refine AOR.nil ?_
      refine AWR.ret (FPost.mk (.inr rfl) ⟨rfl, trivial⟩ trivial rfl ⟨PermP.sc, trivial⟩ trivial)
end Go.Proofs.Ytoeigmhhmadmbaa
end
section
set_option linter.unusedVariables false
set_option linter.unusedSimpArgs false
set_option linter.unnecessarySimpa false
open Go Go.Fw
namespace Go.Proofs.Ytoeigmhhmadmbaa
set_option maxRecDepth 100000 in
set_option maxHeartbeats 8000000 in
theorem w_laws_eqTensegrity (a : TTensegrity) (b : TTensegrity) : ∀ t, m_laws_eqTensegrity a b = some t → Fw.Fn Try.prog 41 [(.agg [(iC a.Framework.Graph.Points), (.pv (.xs false (a.Framework.Graph.Bars.map encTBar))), (.pv (.xs false (a.Framework.Places.map encTPlace))), (.pv (.xs false (a.Kinds.map encInt)))]), (.agg [(iC b.Framework.Graph.Points), (.pv (.xs false (b.Framework.Graph.Bars.map encTBar))), (.pv (.xs false (b.Framework.Places.map encTPlace))), (.pv (.xs false (b.Kinds.map encInt)))])] [] (.s (.c (bC t))) [] [] [] := by
  refine Fw.Fn.of (P := Try.prog) (X := []) (pn := []) (rs := (fun (t : Bool) => [(.c (bC t))])) (dfs := (fun (t : Bool) => [])) Try.func41 rfl Try.ntmps41 (Nat.le_of_ble_eq_true rfl) rfl ?_
  intro w0 U0 R0 g0
  unfold m_laws_eqTensegrity
  refine AWR.seq ?_
  refine AWR.region ?_
  refine AOR.step (LT.box (n := 21) (v := (.agg [(iC a.Framework.Graph.Points), (.pv (.xs false (a.Framework.Graph.Bars.map encTBar))), (.pv (.xs false (a.Framework.Places.map encTPlace))), (.pv (.xs false (a.Kinds.map encInt)))])) rfl sz59 (by exact rfl)) ⟨rfl, trivial⟩ trivial rfl rfl ?_
  refine AOR.step (LT.box (n := 22) (v := (.agg [(iC b.Framework.Graph.Points), (.pv (.xs false (b.Framework.Graph.Bars.map encTBar))), (.pv (.xs false (b.Framework.Places.map encTPlace))), (.pv (.xs false (b.Kinds.map encInt)))])) rfl sz59 (by exact rfl)) ⟨rfl, trivial⟩ trivial rfl rfl ?_
  refine AOR.pure (LT.assign (v := (.s (.c (bC false)))) rfl) ⟨⟨rfl, rfl⟩, trivial⟩ trivial rfl rfl ?_
  refine AOR.nil ?_
  refine AWR.seq ?_
  refine AWR.seq ?_
  refine AWR.region ?_
  refine AOR.pure (LT.fieldPl rfl fo59_0) ⟨rfl, trivial⟩ trivial rfl rfl ?_
  refine AOR.pure (LT.bloadN (out := [(iC a.Framework.Graph.Points), (.pv (.xs false (a.Framework.Graph.Bars.map encTBar))), (.pv (.xs false (a.Framework.Places.map encTPlace)))]) rfl ag29 (infS inf29) sz29 (by exact rfl) (by exact rfl)) ⟨rfl, trivial⟩ ⟨rfl, trivial⟩ rfl rfl ?_
  refine AOR.pure (LT.fieldPl rfl fo59_0) ⟨rfl, trivial⟩ trivial rfl rfl ?_
  refine AOR.pure (LT.bloadN (out := [(iC b.Framework.Graph.Points), (.pv (.xs false (b.Framework.Graph.Bars.map encTBar))), (.pv (.xs false (b.Framework.Places.map encTPlace)))]) rfl ag29 (infS inf29) sz29 (by exact rfl) (by exact rfl)) ⟨rfl, trivial⟩ ⟨rfl, trivial⟩ rfl rfl ?_
  refine AOR.bind fun r1 hr1 => ?_
  refine AOR.pure (@LT.callF Try.prog _ _ 45 _ _ [(.agg [(iC a.Framework.Graph.Points), (.pv (.xs false (a.Framework.Graph.Bars.map encTBar))), (.pv (.xs false (a.Framework.Places.map encTPlace)))]), (.agg [(iC b.Framework.Graph.Points), (.pv (.xs false (b.Framework.Graph.Bars.map encTBar))), (.pv (.xs false (b.Framework.Places.map encTPlace)))])] _ _ [] _ _ _ _ (w_laws_eqFramework a.Framework b.Framework r1 hr1) rfl cb45 (.cons (.agg (.cons (.same rfl) (.cons (.same rfl) (.cons (.same rfl) .nil)))) (.cons (.agg (.cons (.same rfl) (.cons (.same rfl) (.cons (.same rfl) .nil)))) .nil)) rfl rfl trivial) ⟨rfl, rfl, rfl, trivial⟩ trivial rfl rfl ?_
  refine AOR.pure (LT.not rfl) ⟨rfl, trivial⟩ trivial rfl rfl ?_
  refine AOR.nil ?_
  refine AWR.cond rfl (fun hc2 => ?_) (fun hc2 => ?_)
  · refine AWR.seq ?_
    refine AWR.ent (Ent.of (σ' := []) (m' := []) trivial trivial) ?_
    refine AWR.region ?_
    refine AOR.pure (LT.assign (v := (.s (.c (bC false)))) rfl) ⟨⟨rfl, rfl⟩, trivial⟩ trivial rfl rfl ?_
    refine AOR.nil ?_
    refine AWR.ret (FPost.mk (.inr rfl) ⟨rfl, trivial⟩ trivial rfl ⟨PermP.sc, trivial⟩ trivial)
  · refine AWR.skip ?_
    refine AWR.seq ?_
    refine AWR.seq ?_
    refine AWR.ent (Ent.of (σ' := [(2, (.s (.c (.pl 21 0)))), (3, (.s (.c (.pl 22 0))))]) (m' := [(21, (.row 59 [[(iC a.Framework.Graph.Points), (.pv (.xs false (a.Framework.Graph.Bars.map encTBar))), (.pv (.xs false (a.Framework.Places.map encTPlace))), (.pv (.xs false (a.Kinds.map encInt)))]])), (22, (.row 59 [[(iC b.Framework.Graph.Points), (.pv (.xs false (b.Framework.Graph.Bars.map encTBar))), (.pv (.xs false (b.Framework.Places.map encTPlace))), (.pv (.xs false (b.Kinds.map encInt)))]]))]) ⟨rfl, rfl, trivial⟩ ⟨rfl, rfl, trivial⟩) ?_
    refine AWR.region ?_
    refine AOR.pure (LT.fieldPl rfl fo59_1) ⟨rfl, trivial⟩ trivial rfl rfl ?_
    refine AOR.pure (LT.bload1 (c := (.pv (.xs false (a.Kinds.map encInt)))) rfl ag37 (by exact rfl)) ⟨rfl, trivial⟩ ⟨rfl, trivial⟩ rfl rfl ?_
    refine AOR.pure (LT.fieldPl rfl fo59_1) ⟨rfl, trivial⟩ trivial rfl rfl ?_
    refine AOR.pure (LT.bload1 (c := (.pv (.xs false (b.Kinds.map encInt)))) rfl ag37 (by exact rfl)) ⟨rfl, trivial⟩ ⟨rfl, trivial⟩ rfl rfl ?_
    refine AOR.bind fun r3 hr3 => ?_
    refine AOR.pure (@LT.callF Try.prog _ _ 42 _ _ [(.c (.pv (.xs false (a.Kinds.map encInt)))), (.c (.pv (.xs false (b.Kinds.map encInt))))] _ _ [] _ _ _ _ (w_laws_eqIntS a.Kinds b.Kinds r3 hr3) rfl cb42 (.cons (.c (.same rfl)) (.cons (.c (.same rfl)) .nil)) rfl rfl trivial) ⟨rfl, rfl, rfl, trivial⟩ trivial rfl rfl ?_
    refine AOR.pure (LT.not rfl) ⟨rfl, trivial⟩ trivial rfl rfl ?_
    refine AOR.nil ?_
    refine AWR.cond rfl (fun hc4 => ?_) (fun hc4 => ?_)
    · refine AWR.seq ?_
      refine AWR.region ?_
      refine AOR.pure (LT.assign (v := (.s (.c (bC false)))) rfl) ⟨⟨rfl, rfl⟩, trivial⟩ trivial rfl rfl ?_
      refine AOR.nil ?_
      refine AWR.ret (FPost.mk (.inr rfl) ⟨rfl, trivial⟩ trivial rfl ⟨PermP.sc, trivial⟩ trivial)
    · refine AWR.skip ?_
      refine AWR.seq ?_
      refine AWR.region ?_
      refine AOR.pure (LT.assign (v := (.s (.c (bC true)))) rfl) ⟨⟨rfl, rfl⟩, trivial⟩ trivial rfl rfl ?_
      refine AOR.nil ?_
      refine AWR.ret (FPost.mk (.inr rfl) ⟨rfl, trivial⟩ trivial rfl ⟨PermP.sc, trivial⟩ trivial)
set_option maxRecDepth 100000 in
set_option maxHeartbeats 8000000 in
theorem w_laws_FnExactProvesStiff (aT : TTensegrity) (aW : (List Int)) : ∀ t, m_laws_FnExactProvesStiff aT aW = some t → Fw.Fn Try.prog 4 [(.agg [(iC aT.Framework.Graph.Points), (.pv (.xs false (aT.Framework.Graph.Bars.map encTBar))), (.pv (.xs false (aT.Framework.Places.map encTPlace))), (.pv (.xs false (aT.Kinds.map encInt)))]), (.c (.pv (.xs false (aW.map encInt))))] [] (.s (.c (bC t))) [] [] [] := by
  refine Fw.Fn.of (P := Try.prog) (X := []) (pn := []) (rs := (fun (t : Bool) => [(.c (bC t))])) (dfs := (fun (t : Bool) => [])) Try.func4 rfl Try.ntmps4 (Nat.le_of_ble_eq_true rfl) rfl ?_
  intro w0 U0 R0 g0
  unfold m_laws_FnExactProvesStiff
  refine AWR.seq ?_
  refine AWR.region ?_
  refine AOR.step (LT.box (n := 21) (v := (.agg [(iC aT.Framework.Graph.Points), (.pv (.xs false (aT.Framework.Graph.Bars.map encTBar))), (.pv (.xs false (aT.Framework.Places.map encTPlace))), (.pv (.xs false (aT.Kinds.map encInt)))])) rfl sz55 (by exact rfl)) ⟨rfl, trivial⟩ trivial rfl rfl ?_
  refine AOR.pure (LT.assign (v := (.s (.c (bC false)))) rfl) ⟨⟨rfl, rfl⟩, trivial⟩ trivial rfl rfl ?_
  refine AOR.nil ?_
  refine AWR.seq ?_
  refine AWR.seq ?_
  refine AWR.region ?_
  refine AOR.pure (LT.move (v := (.s (.c (.pv (.xs false (aW.map encInt)))))) rfl) ⟨rfl, trivial⟩ trivial rfl rfl ?_
  refine AOR.pure (LT.tlenRO rfl und37) ⟨rfl, trivial⟩ trivial rfl rfl ?_
  refine AOR.pure (LT.gtr rfl) ⟨rfl, ⟨rfl, rfl⟩, trivial⟩ trivial rfl rfl ?_
  refine AOR.nil ?_
  refine AWR.cond rfl (fun hc1 => ?_) (fun hc1 => ?_)
  · refine AWR.seq ?_
    refine AWR.region ?_
    refine AOR.pure (LT.assign (v := (.s (.c (bC true)))) rfl) ⟨⟨rfl, rfl⟩, trivial⟩ trivial rfl rfl ?_
    refine AOR.nil ?_
    refine AWR.ret (FPost.mk (.inr rfl) ⟨rfl, trivial⟩ trivial rfl ⟨PermP.sc, trivial⟩ trivial)
  · refine AWR.skip ?_
    refine AWR.seq ?_
    refine AWR.region ?_
    refine AOR.pure (LT.assign (v := (.s (.c (iC 1048576)))) rfl) ⟨⟨rfl, rfl⟩, trivial⟩ trivial rfl rfl ?_
    refine AOR.nil ?_
    refine AWR.seq ?_
    refine AWR.region ?_
    refine AOR.pure (LT.bloadN (out := [(iC aT.Framework.Graph.Points), (.pv (.xs false (aT.Framework.Graph.Bars.map encTBar))), (.pv (.xs false (aT.Framework.Places.map encTPlace))), (.pv (.xs false (aT.Kinds.map encInt)))]) rfl ag55 (infS inf55) sz55 (by exact rfl) (by exact rfl)) ⟨rfl, trivial⟩ ⟨rfl, trivial⟩ rfl rfl ?_
    refine AOR.pure (LT.move (v := (.s (.c (iC 1048576)))) rfl) ⟨rfl, trivial⟩ trivial rfl rfl ?_
    refine AOR.bind fun r2 hr2 => ?_
    refine AOR.pure (@LT.callF Try.prog _ _ 36 _ _ [(.agg [(iC aT.Framework.Graph.Points), (.pv (.xs false (aT.Framework.Graph.Bars.map encTBar))), (.pv (.xs false (aT.Framework.Places.map encTPlace))), (.pv (.xs false (aT.Kinds.map encInt)))]), (.c (iC 1048576))] _ _ [] _ _ _ _ (w_laws_szTensegrity aT 1048576 r2 hr2) rfl cb36 (.cons (.agg (.cons (.same rfl) (.cons (.same rfl) (.cons (.same rfl) (.cons (.same rfl) .nil))))) (.cons (.c (.same rfl)) .nil)) rfl rfl trivial) ⟨rfl, rfl, rfl, trivial⟩ trivial rfl rfl ?_
    refine AOR.pure (LT.assign (v := (.s (.c (iC r2)))) rfl) ⟨rfl, trivial⟩ trivial rfl rfl ?_
    refine AOR.nil ?_
    refine AWR.seq ?_
    refine AWR.seq ?_
    refine AWR.ent (Ent.of (σ' := [(1, (.s (.c (.pv (.xs false (aW.map encInt)))))), (2, (.s (.c (.pl 21 0)))), (5, (.s (.c (iC r2))))]) (m' := [(21, (.row 55 [[(iC aT.Framework.Graph.Points), (.pv (.xs false (aT.Framework.Graph.Bars.map encTBar))), (.pv (.xs false (aT.Framework.Places.map encTPlace))), (.pv (.xs false (aT.Kinds.map encInt)))]]))]) ⟨rfl, rfl, rfl, trivial⟩ ⟨rfl, trivial⟩) ?_
    refine AWR.region ?_
    refine AOR.pure (LT.move (v := (.s (.c (iC r2)))) rfl) ⟨rfl, trivial⟩ trivial rfl rfl ?_
    refine AOR.pure (LT.lss rfl) ⟨rfl, ⟨rfl, rfl⟩, trivial⟩ trivial rfl rfl ?_
    refine AOR.nil ?_
    refine AWR.cond rfl (fun hc3 => ?_) (fun hc3 => ?_)
    · refine AWR.seq ?_
      refine AWR.region ?_
      refine AOR.pure (LT.assign (v := (.s (.c (bC true)))) rfl) ⟨⟨rfl, rfl⟩, trivial⟩ trivial rfl rfl ?_
      refine AOR.nil ?_
      refine AWR.ret (FPost.mk (.inr rfl) ⟨rfl, trivial⟩ trivial rfl ⟨PermP.sc, trivial⟩ trivial)
    · refine AWR.skip ?_
      refine AWR.seq ?_
      refine AWR.region ?_
      refine AOR.pure (LT.bloadN (out := [(iC aT.Framework.Graph.Points), (.pv (.xs false (aT.Framework.Graph.Bars.map encTBar))), (.pv (.xs false (aT.Framework.Places.map encTPlace))), (.pv (.xs false (aT.Kinds.map encInt)))]) rfl ag55 (infS inf55) sz55 (by exact rfl) (by exact rfl)) ⟨rfl, trivial⟩ ⟨rfl, trivial⟩ rfl rfl ?_
      refine AOR.bind fun r4 hr4 => ?_
      refine AOR.step (@LT.callF Try.prog _ _ 38 _ _ [(.agg [(iC aT.Framework.Graph.Points), (.pv (.xs false (aT.Framework.Graph.Bars.map encTBar))), (.pv (.xs false (aT.Framework.Places.map encTPlace))), (.pv (.xs false (aT.Kinds.map encInt)))])] _ _ [] _ _ _ _ ((show Fw.Fn Try.prog 38 [(.agg [(iC aT.Framework.Graph.Points), (.pv (.xs false (aT.Framework.Graph.Bars.map encTBar))), (.pv (.xs false (aT.Framework.Places.map encTPlace))), (.pv (.xs false (aT.Kinds.map encInt)))])] [] (.s (.agg [(iC r4.Framework.Graph.Points), (.loc 24 0 r4.Framework.Graph.Bars.length), (.loc 25 0 r4.Framework.Places.length), (.loc 26 0 r4.Kinds.length)])) [(24, (.prow 79 (r4.Framework.Graph.Bars.map encTBar))), (25, (.prow 95 (r4.Framework.Places.map encTPlace))), (26, (.prow 3 (r4.Kinds.map encInt)))] [] [24, 25, 26] from Fw.Fn.ren [(0, 24), (1, 25), (2, 26)] (w_laws_toTensegrity aT r4 hr4) rfl)) rfl cb38 (.cons (.agg (.cons (.same rfl) (.cons (.same rfl) (.cons (.same rfl) (.cons (.same rfl) .nil))))) .nil) rfl rfl trivial) ⟨rfl, rfl, trivial⟩ trivial rfl rfl ?_
      refine AOR.pure (LT.move (v := (.s (.c (.pv (.xs false (aW.map encInt)))))) rfl) ⟨rfl, trivial⟩ trivial rfl rfl ?_
      refine AOR.bind fun r5 hr5 => ?_
      refine AOR.step (@LT.callF Try.prog _ _ 39 _ _ [(.c (.pv (.xs false (aW.map encInt))))] _ _ [] _ _ _ _ ((show Fw.Fn Try.prog 39 [(.c (.pv (.xs false (aW.map encInt))))] [] (.s (.c (.loc 28 0 r5.length))) [(28, (.prow 3 (r5.map encInt)))] [] [28] from Fw.Fn.ren [(0, 28)] (w_laws_toIntS aW r5 hr5) rfl)) rfl cb39 (.cons (.c (.same rfl)) .nil) rfl rfl trivial) ⟨rfl, rfl, trivial⟩ trivial rfl rfl ?_
      refine AOR.bind fun r6 hr6 => ?_
      refine AOR.pure (@LT.callF Try.prog _ _ 37 _ _ [(.agg [(iC r4.Framework.Graph.Points), (.loc 24 0 r4.Framework.Graph.Bars.length), (.loc 25 0 r4.Framework.Places.length), (.loc 26 0 r4.Kinds.length)]), (.c (.loc 28 0 r5.length))] _ _ [(24, (.prow 79 (r4.Framework.Graph.Bars.map encTBar))), (25, (.prow 95 (r4.Framework.Places.map encTPlace))), (26, (.prow 3 (r4.Kinds.map encInt))), (28, (.prow 3 (r5.map encInt)))] _ _ _ _ (w_spec_ProvesStiff r4 r5 r6 hr6) rfl cb37 (.cons (.agg (.cons (.same rfl) (.cons (.tloc rfl rfl) (.cons (.tloc rfl rfl) (.cons (.tloc rfl rfl) .nil))))) (.cons (.c (.tloc rfl rfl)) .nil)) rfl rfl trivial) ⟨rfl, rfl, rfl, trivial⟩ ⟨rfl, rfl, rfl, rfl, trivial⟩ rfl rfl ?_
      refine AOR.pure (LT.assign (v := (.s (.c (bC r6)))) rfl) ⟨rfl, trivial⟩ trivial rfl rfl ?_
      refine AOR.nil ?_
      refine AWR.seq ?_
      refine AWR.ent (Ent.of (σ' := [(1, (.s (.c (.pv (.xs false (aW.map encInt)))))), (2, (.s (.c (.pl 21 0)))), (6, (.s (.c (bC r6))))]) (m' := [(21, (.row 55 [[(iC aT.Framework.Graph.Points), (.pv (.xs false (aT.Framework.Graph.Bars.map encTBar))), (.pv (.xs false (aT.Framework.Places.map encTPlace))), (.pv (.xs false (aT.Kinds.map encInt)))]]))]) ⟨rfl, rfl, rfl, trivial⟩ ⟨rfl, trivial⟩) ?_
      refine AWR.region ?_
      refine AOR.pure (LT.bloadN (out := [(iC aT.Framework.Graph.Points), (.pv (.xs false (aT.Framework.Graph.Bars.map encTBar))), (.pv (.xs false (aT.Framework.Places.map encTPlace))), (.pv (.xs false (aT.Kinds.map encInt)))]) rfl ag55 (infS inf55) sz55 (by exact rfl) (by exact rfl)) ⟨rfl, trivial⟩ ⟨rfl, trivial⟩ rfl rfl ?_
      refine AOR.bind fun r7 hr7 => ?_
      refine AOR.step (@LT.callF Try.prog _ _ 38 _ _ [(.agg [(iC aT.Framework.Graph.Points), (.pv (.xs false (aT.Framework.Graph.Bars.map encTBar))), (.pv (.xs false (aT.Framework.Places.map encTPlace))), (.pv (.xs false (aT.Kinds.map encInt)))])] _ _ [] _ _ _ _ ((show Fw.Fn Try.prog 38 [(.agg [(iC aT.Framework.Graph.Points), (.pv (.xs false (aT.Framework.Graph.Bars.map encTBar))), (.pv (.xs false (aT.Framework.Places.map encTPlace))), (.pv (.xs false (aT.Kinds.map encInt)))])] [] (.s (.agg [(iC r7.Framework.Graph.Points), (.loc 31 0 r7.Framework.Graph.Bars.length), (.loc 32 0 r7.Framework.Places.length), (.loc 33 0 r7.Kinds.length)])) [(31, (.prow 79 (r7.Framework.Graph.Bars.map encTBar))), (32, (.prow 95 (r7.Framework.Places.map encTPlace))), (33, (.prow 3 (r7.Kinds.map encInt)))] [] [31, 32, 33] from Fw.Fn.ren [(0, 31), (1, 32), (2, 33)] (w_laws_toTensegrity aT r7 hr7) rfl)) rfl cb38 (.cons (.agg (.cons (.same rfl) (.cons (.same rfl) (.cons (.same rfl) (.cons (.same rfl) .nil))))) .nil) rfl rfl trivial) ⟨rfl, rfl, trivial⟩ trivial rfl rfl ?_
      refine AOR.step (LT.alloc (n := 34) (cells := [(iC 0), (sC nilV), (sC nilV), (sC nilV)]) rfl ti59 rfl rfl rfl) trivial trivial rfl rfl ?_
      refine AOR.step (LT.bstore (v := (.agg [(iC r7.Framework.Graph.Points), (.loc 31 0 r7.Framework.Graph.Bars.length), (.loc 32 0 r7.Framework.Places.length), (.loc 33 0 r7.Kinds.length)])) (out := [(iC r7.Framework.Graph.Points), (.loc 31 0 r7.Framework.Graph.Bars.length), (.loc 32 0 r7.Framework.Places.length), (.loc 33 0 r7.Kinds.length)]) rfl rfl (infS inf59) sz59 (by exact rfl) (by exact Nat.le_of_ble_eq_true rfl) (by exact rfl)) ⟨rfl, rfl, trivial⟩ ⟨rfl, trivial⟩ rfl rfl ?_
      refine AOR.nil ?_
      refine AWR.seq ?_
      refine AWR.region ?_
      refine AOR.pure (LT.move (v := (.s (.c (.pv (.xs false (aW.map encInt)))))) rfl) ⟨rfl, trivial⟩ trivial rfl rfl ?_
      refine AOR.bind fun r8 hr8 => ?_
      refine AOR.step (@LT.callF Try.prog _ _ 39 _ _ [(.c (.pv (.xs false (aW.map encInt))))] _ _ [] _ _ _ _ ((show Fw.Fn Try.prog 39 [(.c (.pv (.xs false (aW.map encInt))))] [] (.s (.c (.loc 36 0 r8.length))) [(36, (.prow 3 (r8.map encInt)))] [] [36] from Fw.Fn.ren [(0, 36)] (w_laws_toIntS aW r8 hr8) rfl)) rfl cb39 (.cons (.c (.same rfl)) .nil) rfl rfl trivial) ⟨rfl, rfl, trivial⟩ trivial rfl rfl ?_
      refine AOR.pure (LT.assign (v := (.s (.c (.loc 36 0 r8.length)))) rfl) ⟨rfl, trivial⟩ trivial rfl rfl ?_
      refine AOR.nil ?_
      refine AWR.seq ?_
      refine AWR.ent (Ent.of (σ' := [(1, (.s (.c (.pv (.xs false (aW.map encInt)))))), (2, (.s (.c (.pl 21 0)))), (6, (.s (.c (bC r6)))), (7, (.s (.c (.pl 34 0)))), (8, (.s (.c (.loc 36 0 r8.length))))]) (m' := [(21, (.row 55 [[(iC aT.Framework.Graph.Points), (.pv (.xs false (aT.Framework.Graph.Bars.map encTBar))), (.pv (.xs false (aT.Framework.Places.map encTPlace))), (.pv (.xs false (aT.Kinds.map encInt)))]])), (31, (.prow 79 (r7.Framework.Graph.Bars.map encTBar))), (32, (.prow 95 (r7.Framework.Places.map encTPlace))), (33, (.prow 3 (r7.Kinds.map encInt))), (34, (.row 59 [[(iC r7.Framework.Graph.Points), (.loc 31 0 r7.Framework.Graph.Bars.length), (.loc 32 0 r7.Framework.Places.length), (.loc 33 0 r7.Kinds.length)]])), (36, (.prow 3 (r8.map encInt)))]) ⟨rfl, rfl, rfl, rfl, rfl, trivial⟩ ⟨rfl, rfl, rfl, rfl, rfl, rfl, trivial⟩) ?_
      refine AWR.region ?_
      refine AOR.pure (LT.bloadN (out := [(iC r7.Framework.Graph.Points), (.loc 31 0 r7.Framework.Graph.Bars.length), (.loc 32 0 r7.Framework.Places.length), (.loc 33 0 r7.Kinds.length)]) rfl ag59 (infS inf59) sz59 (by exact rfl) (by exact rfl)) ⟨rfl, trivial⟩ ⟨rfl, trivial⟩ rfl rfl ?_
      refine AOR.pure (LT.move (v := (.s (.c (.loc 36 0 r8.length)))) rfl) ⟨rfl, trivial⟩ trivial rfl rfl ?_
      refine AOR.bind fun r9 hr9 => ?_
      refine AOR.pure (@LT.callF Try.prog _ _ 40 _ _ [(.agg [(iC r7.Framework.Graph.Points), (.loc 31 0 r7.Framework.Graph.Bars.length), (.loc 32 0 r7.Framework.Places.length), (.loc 33 0 r7.Kinds.length)]), (.c (.loc 36 0 r8.length))] _ _ [(31, (.prow 79 (r7.Framework.Graph.Bars.map encTBar))), (32, (.prow 95 (r7.Framework.Places.map encTPlace))), (33, (.prow 3 (r7.Kinds.map encInt))), (36, (.prow 3 (r8.map encInt)))] _ _ _ _ (w_impl_ProvesStiff r7 r8 r9 hr9) rfl cb40 (.cons (.agg (.cons (.same rfl) (.cons (.tloc rfl rfl) (.cons (.tloc rfl rfl) (.cons (.tloc rfl rfl) .nil))))) (.cons (.c (.tloc rfl rfl)) .nil)) rfl rfl trivial) ⟨rfl, rfl, rfl, trivial⟩ ⟨rfl, rfl, rfl, rfl, trivial⟩ rfl rfl ?_
      refine AOR.pure (LT.assign (v := (.s (.c (bC r9)))) rfl) ⟨rfl, trivial⟩ trivial rfl rfl ?_
      refine AOR.nil ?_
      refine AWR.seq ?_
      refine AWR.seq ?_
      refine AWR.region ?_
      refine AOR.pure (LT.move (v := (.s (.c (bC r9)))) rfl) ⟨rfl, trivial⟩ trivial rfl rfl ?_
      refine AOR.pure (LT.move (v := (.s (.c (bC r6)))) rfl) ⟨rfl, trivial⟩ trivial rfl rfl ?_
      refine AOR.pure (LT.neqB rfl und4) ⟨rfl, rfl, trivial⟩ trivial rfl rfl ?_
      refine AOR.nil ?_
      refine AWR.cond rfl (fun hc10 => ?_) (fun hc10 => ?_)
      · refine AWR.seq ?_
        refine AWR.region ?_
        refine AOR.pure (LT.assign (v := (.s (.c (bC false)))) rfl) ⟨⟨rfl, rfl⟩, trivial⟩ trivial rfl rfl ?_
        refine AOR.nil ?_
        refine AWR.ret (FPost.mk (.inr rfl) ⟨rfl, trivial⟩ trivial rfl ⟨PermP.sc, trivial⟩ trivial)
      · refine AWR.skip ?_
        refine AWR.seq ?_
        refine AWR.seq ?_
        refine AWR.draw mixed ?_
        refine AOD.pure (LT.bloadN (out := [(iC r7.Framework.Graph.Points), (.loc 31 0 r7.Framework.Graph.Bars.length), (.loc 32 0 r7.Framework.Places.length), (.loc 33 0 r7.Kinds.length)]) rfl ag59 (infS inf59) sz59 (by exact rfl) (by exact rfl)) ⟨rfl, trivial⟩ ⟨rfl, trivial⟩ rfl rfl ?_
        refine AOD.pure (LT.bloadN (out := [(iC aT.Framework.Graph.Points), (.pv (.xs false (aT.Framework.Graph.Bars.map encTBar))), (.pv (.xs false (aT.Framework.Places.map encTPlace))), (.pv (.xs false (aT.Kinds.map encInt)))]) rfl ag55 (infS inf55) sz55 (by exact rfl) (by exact rfl)) ⟨rfl, trivial⟩ ⟨rfl, trivial⟩ rfl rfl ?_
        refine AOD.bind fun r11 hr11 => ?_
        refine AOD.step (@LT.callF Try.prog _ _ 38 _ _ [(.agg [(iC aT.Framework.Graph.Points), (.pv (.xs false (aT.Framework.Graph.Bars.map encTBar))), (.pv (.xs false (aT.Framework.Places.map encTPlace))), (.pv (.xs false (aT.Kinds.map encInt)))])] _ _ [] _ _ _ _ ((show Fw.Fn Try.prog 38 [(.agg [(iC aT.Framework.Graph.Points), (.pv (.xs false (aT.Framework.Graph.Bars.map encTBar))), (.pv (.xs false (aT.Framework.Places.map encTPlace))), (.pv (.xs false (aT.Kinds.map encInt)))])] [] (.s (.agg [(iC r11.Framework.Graph.Points), (.loc 39 0 r11.Framework.Graph.Bars.length), (.loc 40 0 r11.Framework.Places.length), (.loc 41 0 r11.Kinds.length)])) [(39, (.prow 79 (r11.Framework.Graph.Bars.map encTBar))), (40, (.prow 95 (r11.Framework.Places.map encTPlace))), (41, (.prow 3 (r11.Kinds.map encInt)))] [] [39, 40, 41] from Fw.Fn.ren [(0, 39), (1, 40), (2, 41)] (w_laws_toTensegrity aT r11 hr11) rfl)) rfl cb38 (.cons (.agg (.cons (.same rfl) (.cons (.same rfl) (.cons (.same rfl) (.cons (.same rfl) .nil))))) .nil) rfl rfl trivial) ⟨rfl, rfl, trivial⟩ trivial rfl rfl ?_
        refine AOD.bind fun r12 hr12 => ?_
        refine AOD.pure (@LT.callF Try.prog _ _ 41 _ _ [(.agg [(iC r7.Framework.Graph.Points), (.loc 31 0 r7.Framework.Graph.Bars.length), (.loc 32 0 r7.Framework.Places.length), (.loc 33 0 r7.Kinds.length)]), (.agg [(iC r11.Framework.Graph.Points), (.loc 39 0 r11.Framework.Graph.Bars.length), (.loc 40 0 r11.Framework.Places.length), (.loc 41 0 r11.Kinds.length)])] _ _ [(31, (.prow 79 (r7.Framework.Graph.Bars.map encTBar))), (32, (.prow 95 (r7.Framework.Places.map encTPlace))), (33, (.prow 3 (r7.Kinds.map encInt))), (39, (.prow 79 (r11.Framework.Graph.Bars.map encTBar))), (40, (.prow 95 (r11.Framework.Places.map encTPlace))), (41, (.prow 3 (r11.Kinds.map encInt)))] _ _ _ _ (w_laws_eqTensegrity r7 r11 r12 hr12) rfl cb41 (.cons (.agg (.cons (.same rfl) (.cons (.tloc rfl rfl) (.cons (.tloc rfl rfl) (.cons (.tloc rfl rfl) .nil))))) (.cons (.agg (.cons (.same rfl) (.cons (.tloc rfl rfl) (.cons (.tloc rfl rfl) (.cons (.tloc rfl rfl) .nil))))) .nil)) rfl rfl trivial) ⟨rfl, rfl, rfl, trivial⟩ ⟨rfl, rfl, rfl, rfl, rfl, rfl, trivial⟩ rfl rfl ?_
        refine AOD.pure (LT.not rfl) ⟨rfl, trivial⟩ trivial rfl rfl ?_
        refine AOD.nil (by kernel_rfl) ?_
        refine AWR.cond rfl (fun hc13 => ?_) (fun hc13 => ?_)
        · refine AWR.seq ?_
          refine AWR.ent (Ent.of (σ' := []) (m' := []) trivial trivial) ?_
          refine AWR.region ?_
          refine AOR.pure (LT.assign (v := (.s (.c (bC false)))) rfl) ⟨⟨rfl, rfl⟩, trivial⟩ trivial rfl rfl ?_
          refine AOR.nil ?_
          refine AWR.ret (FPost.mk (.inr rfl) ⟨rfl, trivial⟩ trivial rfl ⟨PermP.sc, trivial⟩ trivial)
        · refine AWR.skip ?_
          refine AWR.seq ?_
          refine AWR.seq ?_
          refine AWR.ent (Ent.of (σ' := [(1, (.s (.c (.pv (.xs false (aW.map encInt)))))), (8, (.s (.c (.loc 36 0 r8.length))))]) (m' := [(36, (.prow 3 (r8.map encInt)))]) ⟨rfl, rfl, trivial⟩ ⟨rfl, trivial⟩) ?_
          refine AWR.region ?_
          refine AOR.pure (LT.move (v := (.s (.c (.loc 36 0 r8.length)))) rfl) ⟨rfl, trivial⟩ trivial rfl rfl ?_
          refine AOR.pure (LT.move (v := (.s (.c (.pv (.xs false (aW.map encInt)))))) rfl) ⟨rfl, trivial⟩ trivial rfl rfl ?_
          refine AOR.bind fun r14 hr14 => ?_
          refine AOR.step (@LT.callF Try.prog _ _ 39 _ _ [(.c (.pv (.xs false (aW.map encInt))))] _ _ [] _ _ _ _ ((show Fw.Fn Try.prog 39 [(.c (.pv (.xs false (aW.map encInt))))] [] (.s (.c (.loc 44 0 r14.length))) [(44, (.prow 3 (r14.map encInt)))] [] [44] from Fw.Fn.ren [(0, 44)] (w_laws_toIntS aW r14 hr14) rfl)) rfl cb39 (.cons (.c (.same rfl)) .nil) rfl rfl trivial) ⟨rfl, rfl, trivial⟩ trivial rfl rfl ?_
          refine AOR.bind fun r15 hr15 => ?_
          refine AOR.pure (@LT.callF Try.prog _ _ 42 _ _ [(.c (.loc 36 0 r8.length)), (.c (.loc 44 0 r14.length))] _ _ [(36, (.prow 3 (r8.map encInt))), (44, (.prow 3 (r14.map encInt)))] _ _ _ _ (w_laws_eqIntS r8 r14 r15 hr15) rfl cb42 (.cons (.c (.tloc rfl rfl)) (.cons (.c (.tloc rfl rfl)) .nil)) rfl rfl trivial) ⟨rfl, rfl, rfl, trivial⟩ ⟨rfl, rfl, trivial⟩ rfl rfl ?_
          refine AOR.pure (LT.not rfl) ⟨rfl, trivial⟩ trivial rfl rfl ?_
          refine AOR.nil ?_
          refine AWR.cond rfl (fun hc16 => ?_) (fun hc16 => ?_)
          · refine AWR.seq ?_
            refine AWR.region ?_
            refine AOR.pure (LT.assign (v := (.s (.c (bC false)))) rfl) ⟨⟨rfl, rfl⟩, trivial⟩ trivial rfl rfl ?_
            refine AOR.nil ?_
            refine AWR.ret (FPost.mk (.inr rfl) ⟨rfl, trivial⟩ trivial rfl ⟨PermP.sc, trivial⟩ trivial)
          · refine AWR.skip ?_
            refine AWR.seq ?_
            refine AWR.region ?_
            refine AOR.pure (LT.assign (v := (.s (.c (bC true)))) rfl) ⟨⟨rfl, rfl⟩, trivial⟩ trivial rfl rfl ?_
            refine AOR.nil ?_
            refine AWR.ret (FPost.mk (.inr rfl) ⟨rfl, trivial⟩ trivial rfl ⟨PermP.sc, trivial⟩ trivial)
end Go.Proofs.Ytoeigmhhmadmbaa
end
section
set_option linter.unusedVariables false
set_option linter.unusedSimpArgs false
set_option linter.unnecessarySimpa false
namespace Go.Fw
open Go.ChangeShapes Go.WideShapes Go.ChangeAt Go.RowKit
open Go.Proofs.Ytoeigmhhmadmbaa (Rows.uptoBulk Rows.uptoBulkAll)
abbrev Bof (W : World) : Nat → Prop := fun b => b < W.heap.size
abbrev Rno : Nat → Prop := fun _ => False
abbrev gno : Nat → GS := fun _ => .dead
def Opn {α : Type} (P : Program) (t : TypeId) (s : Nat) (enc : α → List PV) (wt : α → Nat) (ok : α → Prop) : Prop :=
  ∀ (H : Type) (e : TypeId × Value → H) (W : World) (base : Nat) (spare : Nat → Bool) (held : Bool) (fuel : Nat) (cs : List Value) (x : DataW H × List MemPlace), DataW.trod e P W base spare held fuel t cs = some x →
    ∃ a : α, ok a ∧ wt a ≤ Go.Proofs.Ytoeigmhhmadmbaa.Rows.uptoBulk x.1 ∧ cs.length = s ∧ (enc a).length = s ∧ ∀ (k : Nat) p, (enc a)[k]? = some p → ∃ u, cs[k]? = some u ∧ RPV W Rno (Bof W) p u
def okI (n : Int) : Prop := -9223372036854775808 ≤ n ∧ n ≤ 9223372036854775807
def okL {α : Type} (ok : α → Prop) (xs : List α) : Prop := ∀ x ∈ xs, ok x
def wtI (_ : Int) : Nat := 1
def wtL {α : Type} (wt : α → Nat) (xs : List α) : Nat := (xs.map wt).sum + 1
section
variable {P : Program}
theorem one1 {p q : PV} {cs : List Value} {v : Value} {W : World} (hcs : cs = [v]) (h : RPV W Rno (Bof W) p v) : ∀ (k : Nat) r, [p][k]? = some r → ∃ u, cs[k]? = some u ∧ RPV W Rno (Bof W) r u := fun k r hk => by
  subst hcs
  cases k with
  | zero => simp at hk; subst hk; exact ⟨v, rfl, h⟩
  | succ k => simp at hk
theorem Opn.int {t : TypeId} (ht : P.underlying t = some (.int .i64)) : Opn P t 1 (fun n : Int => [.sc (.int .i64 n)]) wtI okI := fun H e W base spare held fuel cs x h => by
  obtain ⟨n, rfl, rfl, hw⟩ := DataW.trod_int ht h
  refine ⟨n, ?_, by simp [wtI, Go.Proofs.Ytoeigmhhmadmbaa.Rows.uptoBulk], rfl, rfl, one1 (q := .sc (.int .i64 n)) rfl (.sc rfl)⟩
  simp [Lit.wf, IntKind.min, IntKind.max, IntKind.signed, IntKind.bits] at hw
  exact ⟨by omega, by omega⟩
theorem list_of {α : Type} {p : Nat → α → Prop} : ∀ n : Nat, (∀ i, i < n → ∃ a, p i a) → ∃ xs : List α, xs.length = n ∧ ∀ (i : Nat) a, xs[i]? = some a → p i a
  | 0, _ => ⟨[], rfl, fun i a h => by simp at h⟩
  | n + 1, h => by
    obtain ⟨xs, h1, h2⟩ := list_of n fun i hi => h i (by omega)
    obtain ⟨a, ha⟩ := h n (by omega)
    refine ⟨xs ++ [a], by simp [h1], fun i b hb => ?_⟩
    rw [List.getElem?_append] at hb
    split at hb
    · exact h2 i b hb
    · rename_i hn
      have hi : i - xs.length = 0 := by
        have := (List.getElem?_eq_some_iff.1 hb).1
        simp at this
        omega
      rw [hi] at hb
      simp at hb
      subst hb
      have : i = n := by omega
      subst this
      exact ha
theorem bulk_sum {α : Type} {H : Type} {wt : α → Nat} {D : Nat → DataW H} : ∀ (xs : List α) (k : Nat), (∀ (i : Nat) a, xs[i]? = some a → wt a ≤ Go.Proofs.Ytoeigmhhmadmbaa.Rows.uptoBulk (D (k + i))) →
    (xs.map wt).sum ≤ Go.Proofs.Ytoeigmhhmadmbaa.Rows.uptoBulkAll ((List.range' k xs.length).map D)
  | [], _, _ => by simp [Go.Proofs.Ytoeigmhhmadmbaa.Rows.uptoBulkAll]
  | a :: r, k, h => by
    have h0 := h 0 a rfl
    have ih := bulk_sum r (k + 1) fun i b hb => by
      have := h (i + 1) b (by simpa using hb)
      rwa [show k + 1 + i = k + (i + 1) by omega]
    rw [Nat.add_zero] at h0
    simp only [List.map_cons, List.sum_cons, List.length_cons, List.range'_succ, Go.Proofs.Ytoeigmhhmadmbaa.Rows.uptoBulkAll]
    omega
theorem cell_lt {w : World} {a : Addr} {v : Value} (h : w.cell? a = some v) : a.block < w.heap.size := by
  unfold World.cell? at h
  cases hb : w.heap[a.block]? with
  | none => rw [hb] at h; simp at h
  | some o => exact (Array.getElem?_eq_some_iff.1 hb).1
theorem Opn.slice {α : Type} {t e : TypeId} {s : Nat} {enc : α → List PV} {wt : α → Nat} {ok : α → Prop} (ht : P.underlying t = some (.slice e)) (hs : P.cellsOf e = s) (hs0 : 0 < s) (he : Opn P e s enc wt ok) :
    Opn P t 1 (fun xs : List α => [.xs false (xs.map enc)]) (wtL wt) (okL ok) := fun H en W base spare held fuel cs x h => by
  rcases Go.Deep.open_slice ht h with ⟨rfl, rfl⟩ | ⟨a, len, cap, m, n, D, Pl, rfl, hb, hl, hm, hmm, rfl, hi⟩
  · refine ⟨[], ?_, ?_, rfl, rfl, one1 (q := .xs false []) rfl .emp⟩
    · intro x hx; cases hx
    · simp [wtL, Go.Proofs.Ytoeigmhhmadmbaa.Rows.uptoBulk]
  · have hml : len ≤ m := by rw [hmm]; split <;> omega
    obtain ⟨xs, hxl, hx⟩ := list_of (p := fun i (b : α) => ok b ∧ wt b ≤ Go.Proofs.Ytoeigmhhmadmbaa.Rows.uptoBulk (D i) ∧ (enc b).length = s ∧ ∀ (k : Nat) p, (enc b)[k]? = some p → ∃ u, W.cell? (a.add (i * s + k)) = some u ∧ RPV W Rno (Bof W) p u) len (fun i hil => by
      obtain ⟨cs', hc, htr⟩ := hi i (by omega)
      obtain ⟨b, h1, h2, h3, h4, h5⟩ := he _ _ _ _ _ _ _ _ _ htr
      obtain ⟨_, hcl, hat⟩ := World.cells?_some hc
      refine ⟨b, h1, h2, h4, fun k p hk => ?_⟩
      obtain ⟨u, hu, hr⟩ := h5 k p hk
      refine ⟨u, ?_, hr⟩
      have hks : k < s := by rw [← h4]; exact (List.getElem?_eq_some_iff.1 hk).1
      have := hat k (by rw [hs]; exact hks)
      rw [add_add, hs] at this
      rw [this]
      exact hu)
    refine ⟨xs, fun b hb => ?_, ?_, rfl, rfl, one1 (q := .sc undef) rfl ?_⟩
    · obtain ⟨i, hib⟩ := List.getElem?_of_mem hb
      exact (hx i b hib).1
    · have := bulk_sum (wt := wt) (D := D) xs 0 (fun i b hb => by rw [Nat.zero_add]; exact (hx i b hb).2.1)
      simp only [wtL, Go.Proofs.Ytoeigmhhmadmbaa.Rows.uptoBulk]
      rw [hxl, ← List.range_eq_range'] at this
      omega
    · cases hxs : xs with
      | nil =>
        have : len = 0 := by rw [← hxl, hxs]; rfl
        subst this
        exact .emp
      | cons b r =>
        rw [← hxs]
        have hget : ∀ (j k : Nat) cs p, (xs.map enc)[j]? = some cs → cs[k]? = some p → ∃ u, W.cell? (a.add (j * s + k)) = some u ∧ RPV W Rno (Bof W) p u := fun j k cs p hj hk => by
          rw [List.getElem?_map] at hj
          cases hjx : xs[j]? with
          | none => rw [hjx] at hj; cases hj
          | some c =>
            rw [hjx] at hj
            injection hj with hj
            subst hj
            exact (hx j c hjx).2.2.2 k p hk
        refine .xs (s := s) (fun j k => (W.cell? (a.add (j * s + k))).getD undef) (by simp [hxl]) ?_ (by simp [hxl]; exact hl) (fun cs hcs => ?_) (fun j k cs p hj hk => ?_) (fun j k cs p hj hk => ?_)
        · have h0 := hx 0 b (by rw [hxs]; rfl)
          have hlt : 0 < (enc b).length := by rw [h0.2.2.1]; exact hs0
          obtain ⟨u, hu, _⟩ := h0.2.2.2 0 (enc b)[0] (List.getElem?_eq_getElem hlt)
          have := cell_lt hu
          rw [add_block] at this
          exact this
        · obtain ⟨c, hc, rfl⟩ := List.mem_map.1 hcs
          obtain ⟨i, hic⟩ := List.getElem?_of_mem hc
          exact (hx i c hic).2.2.1
        · obtain ⟨u, hu, _⟩ := hget j k cs p hj hk
          rw [hu]; rfl
        · obtain ⟨u, hu, hr⟩ := hget j k cs p hj hk
          rw [hu]
          exact hr
def st2 (P : Program) (t : TypeId) : Option (Nat × Nat × Nat × Nat) := match P.underlying t with
  | some (.struct fs) => match fs.toList with
    | [f0, f1] => some (f0.type, f0.offset, f1.type, f1.offset)
    | _ => none
  | _ => none
theorem Opn.struct2 {α β γ : Type} {t t1 t2 : TypeId} {s1 s2 : Nat} {enc1 : α → List PV} {enc2 : β → List PV} {enc : γ → List PV} {wt1 : α → Nat} {wt2 : β → Nat} {wt : γ → Nat} {ok1 : α → Prop} {ok2 : β → Prop} {ok : γ → Prop} (mk : α → β → γ)
    (ht : st2 P t = some (t1, 0, t2, s1)) (hc : P.cellsOf t = s1 + s2) (hc1 : P.cellsOf t1 = s1) (hc2 : P.cellsOf t2 = s2) (h1 : Opn P t1 s1 enc1 wt1 ok1) (h2 : Opn P t2 s2 enc2 wt2 ok2)
    (he : ∀ a b, enc (mk a b) = enc1 a ++ enc2 b) (hw : ∀ a b, wt (mk a b) = wt1 a + wt2 b) (ho : ∀ a b, ok1 a → ok2 b → ok (mk a b)) : Opn P t (s1 + s2) enc wt ok := fun H e W base spare held fuel cs x h => by
  unfold st2 at ht
  split at ht
  · rename_i fs hfs
    split at ht
    · rename_i f0 f1 hfl
      obtain ⟨l⟩ := fs
      simp only at hfl
      subst hfl
      simp only [Option.some.injEq, Prod.mk.injEq] at ht
      obtain ⟨rfl, ho0, rfl, ho1⟩ := ht
      obtain ⟨y0, y1, n, rfl, hl, h3, h4⟩ := Go.ChangeShapes.trod_struct2 hfs h
      rw [ho0, hc1] at h3
      rw [ho1, hc2] at h4
      obtain ⟨a, a1, a2, a3, a4, a5⟩ := h1 _ _ _ _ _ _ _ _ _ h3
      obtain ⟨b, b1, b2, b3, b4, b5⟩ := h2 _ _ _ _ _ _ _ _ _ h4
      refine ⟨mk a b, ho a b a1 b1, ?_, by rw [hl, hc], by rw [he, List.length_append, a4, b4], fun k p hk => ?_⟩
      · rw [hw]
        simp only [Go.Proofs.Ytoeigmhhmadmbaa.Rows.uptoBulk, Go.Proofs.Ytoeigmhhmadmbaa.Rows.uptoBulkAll]
        omega
      · rw [he, List.getElem?_append] at hk
        split at hk
        · rename_i hlt
          rw [a4] at hlt
          obtain ⟨u, hu, hr⟩ := a5 k p hk
          refine ⟨u, ?_, hr⟩
          rw [List.getElem?_take, if_pos hlt, List.drop_zero] at hu
          exact hu
        · rename_i hlt
          rw [a4] at hlt hk
          obtain ⟨u, hu, hr⟩ := b5 _ p hk
          refine ⟨u, ?_, hr⟩
          rw [List.getElem?_take] at hu
          split at hu
          · rw [List.getElem?_drop] at hu
            rwa [show s1 + (k - s1) = k by omega] at hu
          · cases hu
    · cases ht
  · cases ht
theorem len_wtL {α : Type} {wt : α → Nat} (h : ∀ x, 1 ≤ wt x) (xs : List α) : xs.length ≤ wtL wt xs := by
  unfold wtL
  induction xs with
  | nil => simp
  | cons x r ih =>
    have := h x
    simp only [List.map_cons, List.sum_cons, List.length_cons] at ih ⊢
    omega
theorem Opn.arg1 {α : Type} {t : TypeId} {enc : α → List PV} {wt : α → Nat} {ok : α → Prop} (h : Opn P t 1 enc wt ok) {p : α → PV} (hp : ∀ a, enc a = [p a]) {H : Type} {e : TypeId × Value → H} {W : World} {sp : Nat → Bool} {v : Value} {d : DataW H} {ps : List MemPlace}
    (hv : v.oneCell' = true) (hd : DataW.Trod e P W 0 sp true t v d ps) : ∃ a : α, ok a ∧ wt a ≤ Go.Proofs.Ytoeigmhhmadmbaa.Rows.uptoBulk d ∧ RS P W Rno (Bof W) gno (.c (.pv (p a))) v := by
  obtain ⟨fuel, hf⟩ := hd
  obtain ⟨a, h1, h2, h3, h4, h5⟩ := h _ _ _ _ _ _ _ _ _ hf
  refine ⟨a, h1, h2, ?_⟩
  have hc : v.cells = #[v] := oneCell_ne hv
  obtain ⟨u, hu, hr⟩ := h5 0 (p a) (by rw [hp]; rfl)
  rw [hc] at hu
  have : v = u := by simpa using hu
  subst this
  exact ⟨hv, hr⟩
theorem Opn.argN {α : Type} {t : TypeId} {s : Nat} {enc : α → List PV} {wt : α → Nat} {ok : α → Prop} (h : Opn P t s enc wt ok) {H : Type} {e : TypeId × Value → H} {W : World} {sp : Nat → Bool} {v : Value} {d : DataW H} {ps : List MemPlace}
    (hv : ∃ cs : Array Value, v = .agg cs) (hd : DataW.Trod e P W 0 sp true t v d ps) : ∃ a : α, ok a ∧ wt a ≤ Go.Proofs.Ytoeigmhhmadmbaa.Rows.uptoBulk d ∧ RS P W Rno (Bof W) gno (.agg ((enc a).map .pv)) v := by
  obtain ⟨cs, rfl⟩ := hv
  obtain ⟨fuel, hf⟩ := hd
  obtain ⟨a, h1, h2, h3, h4, h5⟩ := h _ _ _ _ _ _ _ _ _ hf
  refine ⟨a, h1, h2, cs.toList, by simp, by rw [List.length_map, h4]; simpa [Value.cells] using h3, fun k x hk => ?_⟩
  rw [List.getElem?_map] at hk
  cases hp : (enc a)[k]? with
  | none => rw [hp] at hk; cases hk
  | some p =>
    rw [hp] at hk
    injection hk with hk
    subst hk
    obtain ⟨u, hu, hr⟩ := h5 k p hp
    exact ⟨u, by simpa [Value.cells] using hu, hr.oneCell, hr⟩
def ArgR (P : Program) (W : World) : List SV → List Value → Prop
  | [], [] => True
  | x :: xs, v :: vs => RS P W Rno (Bof W) gno x v ∧ ArgR P W xs vs
  | _, _ => False
theorem ArgR.spec {W : World} : ∀ {xs : List SV} {vs : List Value}, ArgR P W xs vs → vs.length = xs.length ∧ ∀ (k : Nat) x, xs[k]? = some x → ∃ u, vs[k]? = some u ∧ RS P W Rno (Bof W) gno x u
  | [], [], _ => ⟨rfl, fun k x hk => by simp at hk⟩
  | [], _ :: _, h => h.elim
  | _ :: _, [], h => h.elim
  | x :: xs, v :: vs, h => by
    obtain ⟨h1, h2⟩ := ArgR.spec h.2
    refine ⟨by simp [h1], fun k y hk => ?_⟩
    cases k with
    | zero => simp at hk; subst hk; exact ⟨v, rfl, h.1⟩
    | succ k => exact h2 k y (by simpa using hk)
theorem Fn.called {f : FuncId} {xs : List SV} (hf : Fw.Fn P f xs [] (.s (.c (bC true))) [] [] []) {W : World} {args : Array Value} (ha : ArgR P W xs args.toList) : Calls P f args W fun e W' => e = .returned (.bool true) ∧ Below W.heap.size W W' := by
  obtain ⟨h1, h2⟩ := ha.spec
  have hw : WF Rno (Bof W) gno W := ⟨fun b hb => hb.elim, fun b hb => hb, fun n b hg => hg.elim, fun n m b hg => hg.elim, fun n j k b h => (by cases h)⟩
  have := hf Rno (Bof W) gno W args.toList hw h1 h2 (fun p hp => by cases hp)
  rw [show args.toList.toArray = args from by simp] at this
  refine this.mono fun e W' hp => ?_
  obtain ⟨u, R', B', g', rfl, had, _, hv, _⟩ := hp
  have hu : u = .bool true := by
    obtain ⟨_, h3⟩ := hv
    cases h3
    rfl
  subst hu
  exact ⟨rfl, had.os, had.tape, had.output, had.size, fun k hk => had.heap k hk fun n hn => by cases hn⟩
theorem trodAll_stays {H : Type} {e : TypeId × Value → H} (hl : laidOutB P = true) {W W' : World} {sp : Nat → Bool} (hb : Below W.heap.size W W') : ∀ {ts : List TypeId} {vs : List Value} {ds : List (DataW H)} {ps : List MemPlace}, (ts.all fun t => P.readableRec t && decide (t < P.types.size)) = true →
    DataW.TrodAll e P W 0 (fun _ => true) true ts vs ds ps → (∀ p ∈ ps, p.block < W.heap.size) → (∀ p ∈ ps, sp p.block = true) → DataW.TrodAll e P W' 0 sp true ts vs ds ps
  | [], [], [], _, _, h, _, _ => h
  | t :: ts, v :: vs, d :: ds, ps, hr, h, hlt, hs => by
    obtain ⟨p, q, h1, h2, rfl⟩ := h
    simp only [List.all_cons, Bool.and_eq_true, decide_eq_true_eq] at hr
    exact ⟨p, q, Go.WideElems.Trod_stays hl hr.1.1 hr.1.2 h1 (fun x hx => hb.same (hlt x (List.mem_append_left _ hx))) (fun x hx => hs x (List.mem_append_left _ hx)), trodAll_stays hl hb hr.2 h2 (fun x hx => hlt x (List.mem_append_right _ hx)) (fun x hx => hs x (List.mem_append_right _ hx)), rfl⟩
  | [], [], _ :: _, _, _, h, _, _ => h.elim
  | [], _ :: _, _, _, _, h, _, _ => h.elim
  | _ :: _, [], _, _, _, h, _, _ => h.elim
  | _ :: _, _ :: _, [], _, _, h, _, _ => h.elim
theorem post_of_fw {H : Type} {e : TypeId × Value → H} {f : Func} {s : ChangeSpec} {apart handsOn again : Bool} {fresh : Bool} {W W' : World} {args : Array Value} {ds gs : List (DataW H)} {before : List MemPlace} {tb : TypeId} (hW : DataW.Whole e P f.params.toList s.vars apart W args.toList ds gs before) (hl : laidOutB P = true)
    (hr : (f.params.toList.all fun t => P.readableRec t && decide (t < P.types.size)) = true) (hb : Below W.heap.size W W') (hv : s.vars = []) (hf : s.fn H ds = { results := [.lit (.bool true)], args := ds }) (hrt : f.resultTypes = #[tb]) (htb : P.underlying tb = some .bool) :
    s.post e P f apart fresh handsOn again W args (.bool true) W' := by
  have hlt : ∀ p ∈ before, p.block < W.heap.size := fun p hp => hW.lt p hp
  have hW0 := hW
  obtain ⟨p, q, hA, hV, hpq, hz, hn⟩ := hW
  rw [hv] at hV
  obtain ⟨rfl, rfl⟩ : gs = [] ∧ q = [] := by
    cases gs with
    | nil => exact ⟨rfl, hV⟩
    | cons _ _ => exact hV.elim
  rw [List.append_nil] at hpq
  subst hpq
  have hargs : ∀ sp : Nat → Bool, (∀ p ∈ before, sp p.block = true) → DataW.TrodAll e P W' 0 sp true f.params.toList args.toList ds before := fun sp hs => trodAll_stays hl hb hr hA hlt hs
  have hres : ∀ (b : Nat) (sp : Nat → Bool) (hd : Bool), DataW.TrodAll e P W' b sp hd f.resultTypes.toList ((Value.bool true).resultList f.resultTypes.size) [.lit (.bool true)] [] := fun b sp hd => by
    rw [hrt]
    exact ⟨[], [], shut_bool htb _, rfl, rfl⟩
  have hfd : s.fn H (ds ++ []) = { results := [.lit (.bool true)], args := ds } := by rw [List.append_nil]; exact hf
  have hold : ∀ p ∈ before, (fun b => decide (b < W.heap.size)) p.block = true := fun p hp => by simpa using hlt p hp
  have hvs : ∀ sp : Nat → Bool, DataW.TrodVars e P W' sp s.vars [] [] := fun sp => by rw [hv]; rfl
  refine ⟨ds, [], before, [], before, [], hW0, ?_, ?_, ?_, World.keptBut_mono (fun p hp => ⟨hp, ?_⟩) (hb.frame (· ∈ before)), fun _ => ?_⟩
  · rw [hfd]; exact hres _ _ _
  · rw [hfd]; exact hargs _ hold
  · rw [hfd]; exact hvs _
  · exact Or.inr (Or.inl hp)
  · refine ⟨ok_one hrt rfl (okWide_bool_mk htb _), ?_⟩
    · refine ⟨_, _, ([] ++ before) ++ [], ⟨[] ++ before, [], trodAll_append (hargs _ (fun _ _ => rfl)) (hres _ _ _), hvs _, rfl, ?_, ?_⟩, ?_⟩
      · intro b off hp
        have hin : MemPlace.cell b off ∈ before := by simpa using hp
        rw [hb.frozen (hlt _ hin)]
        exact hz b off hin
      · intro ha
        simpa using hn ha
      · intro p hp _
        simpa using hp
end
end Go.Fw
end
section
set_option linter.unusedVariables false
set_option linter.unusedSimpArgs false
set_option linter.unnecessarySimpa false
open Go Go.Fw
namespace Go.Proofs.Ytoeigmhhmadmbaa
theorem oC137 : Try.prog.cellsOf 137 = 2 := by kernel_rfl
theorem oC144 : Try.prog.cellsOf 144 = 2 := by kernel_rfl
theorem oC3 : Try.prog.cellsOf 3 = 1 := by kernel_rfl
theorem oC37 : Try.prog.cellsOf 37 = 1 := by kernel_rfl
theorem oC48 : Try.prog.cellsOf 48 = 1 := by kernel_rfl
theorem oC50 : Try.prog.cellsOf 50 = 2 := by kernel_rfl
theorem oC51 : Try.prog.cellsOf 51 = 1 := by kernel_rfl
theorem oC53 : Try.prog.cellsOf 53 = 3 := by kernel_rfl
theorem oC55 : Try.prog.cellsOf 55 = 4 := by kernel_rfl
theorem oS137 : st2 Try.prog 137 = some (3, 0, 3, 1) := by kernel_rfl
theorem oS144 : st2 Try.prog 144 = some (3, 0, 3, 1) := by kernel_rfl
theorem oS50 : st2 Try.prog 50 = some (3, 0, 48, 1) := by kernel_rfl
theorem oS53 : st2 Try.prog 53 = some (50, 0, 51, 2) := by kernel_rfl
theorem oS55 : st2 Try.prog 55 = some (53, 0, 37, 3) := by kernel_rfl
theorem oU3 : Try.prog.underlying 3 = some (.int .i64) := by kernel_rfl
theorem oU37 : Try.prog.underlying 37 = some (.slice 3) := by kernel_rfl
theorem oU48 : Try.prog.underlying 48 = some (.slice 144) := by kernel_rfl
theorem oU51 : Try.prog.underlying 51 = some (.slice 137) := by kernel_rfl
theorem oX55 : Try.prog.underlying 55 = some (.struct (Try.prog.fieldsOf 55)) := by kernel_rfl
def e_TBar (a : TBar) : List PV := [.sc (.int .i64 a.A), .sc (.int .i64 a.B)]
def wt_TBar (a : TBar) : Nat := wtI a.A + wtI a.B
def ok_TBar (a : TBar) : Prop := okI a.A ∧ okI a.B
theorem opn_144 : Opn Try.prog 144 2 e_TBar wt_TBar ok_TBar := Opn.struct2 (enc1 := (fun n : Int => [.sc (.int .i64 n)])) (enc2 := (fun n : Int => [.sc (.int .i64 n)])) TBar.mk oS144 oC144 oC3 oC3 (Opn.int oU3) (Opn.int oU3) (fun _ _ => rfl) (fun _ _ => rfl) (fun _ _ h1 h2 => ⟨h1, h2⟩)
def e_TGraph (a : TGraph) : List PV := [.sc (.int .i64 a.Points), .xs false (a.Bars.map encTBar)]
def wt_TGraph (a : TGraph) : Nat := wtI a.Points + (wtL wt_TBar) a.Bars
def ok_TGraph (a : TGraph) : Prop := okI a.Points ∧ (okL ok_TBar) a.Bars
theorem opn_50 : Opn Try.prog 50 2 e_TGraph wt_TGraph ok_TGraph := Opn.struct2 (enc1 := (fun n : Int => [.sc (.int .i64 n)])) (enc2 := (fun xs => [.xs false (xs.map e_TBar)])) TGraph.mk oS50 oC50 oC3 oC48 (Opn.int oU3) (Opn.slice oU48 oC144 (by decide) opn_144) (fun _ _ => rfl) (fun _ _ => rfl) (fun _ _ h1 h2 => ⟨h1, h2⟩)
def e_TPlace (a : TPlace) : List PV := [.sc (.int .i64 a.X), .sc (.int .i64 a.Y)]
def wt_TPlace (a : TPlace) : Nat := wtI a.X + wtI a.Y
def ok_TPlace (a : TPlace) : Prop := okI a.X ∧ okI a.Y
theorem opn_137 : Opn Try.prog 137 2 e_TPlace wt_TPlace ok_TPlace := Opn.struct2 (enc1 := (fun n : Int => [.sc (.int .i64 n)])) (enc2 := (fun n : Int => [.sc (.int .i64 n)])) TPlace.mk oS137 oC137 oC3 oC3 (Opn.int oU3) (Opn.int oU3) (fun _ _ => rfl) (fun _ _ => rfl) (fun _ _ h1 h2 => ⟨h1, h2⟩)
def e_TFramework (a : TFramework) : List PV := [.sc (.int .i64 a.Graph.Points), .xs false (a.Graph.Bars.map encTBar), .xs false (a.Places.map encTPlace)]
def wt_TFramework (a : TFramework) : Nat := wt_TGraph a.Graph + (wtL wt_TPlace) a.Places
def ok_TFramework (a : TFramework) : Prop := ok_TGraph a.Graph ∧ (okL ok_TPlace) a.Places
theorem opn_53 : Opn Try.prog 53 3 e_TFramework wt_TFramework ok_TFramework := Opn.struct2 (enc1 := e_TGraph) (enc2 := (fun xs => [.xs false (xs.map e_TPlace)])) TFramework.mk oS53 oC53 oC50 oC51 opn_50 (Opn.slice oU51 oC137 (by decide) opn_137) (fun _ _ => rfl) (fun _ _ => rfl) (fun _ _ h1 h2 => ⟨h1, h2⟩)
def e_TTensegrity (a : TTensegrity) : List PV := [.sc (.int .i64 a.Framework.Graph.Points), .xs false (a.Framework.Graph.Bars.map encTBar), .xs false (a.Framework.Places.map encTPlace), .xs false (a.Kinds.map encInt)]
def wt_TTensegrity (a : TTensegrity) : Nat := wt_TFramework a.Framework + (wtL wtI) a.Kinds
def ok_TTensegrity (a : TTensegrity) : Prop := ok_TFramework a.Framework ∧ (okL okI) a.Kinds
theorem opn_55 : Opn Try.prog 55 4 e_TTensegrity wt_TTensegrity ok_TTensegrity := Opn.struct2 (enc1 := e_TFramework) (enc2 := (fun xs => [.xs false (xs.map (fun n : Int => [.sc (.int .i64 n)]))])) TTensegrity.mk oS55 oC55 oC53 oC37 opn_53 (Opn.slice oU37 oC3 (by decide) (Opn.int oU3)) (fun _ _ => rfl) (fun _ _ => rfl) (fun _ _ h1 h2 => ⟨h1, h2⟩)
end Go.Proofs.Ytoeigmhhmadmbaa
end
