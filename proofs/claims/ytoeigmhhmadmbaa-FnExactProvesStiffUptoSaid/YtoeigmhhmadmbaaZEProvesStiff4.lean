/- Parts of a proof that a law of the program holds: what the program computes, and why that is right. -/
import Derived.Test.YtoeigmhhmadmbaaZEProvesStiff3
section
set_option linter.unusedVariables false
set_option linter.unusedSimpArgs false
set_option linter.unnecessarySimpa false
open Go Go.Fw
namespace Go.Proofs.Ytoeigmhhmadmbaa
set_option maxRecDepth 100000 in
set_option maxHeartbeats 8000000 in
theorem w_impl_RigidityMatrix (f : TFramework) : ∀ t, m_impl_RigidityMatrix f = some t → Fw.Fn Try.prog 62 [(.agg [(iC f.Graph.Points), (.pv (.xs false (f.Graph.Bars.map encTBar))), (.pv (.xs false (f.Places.map encTPlace)))])] [] (.s (.c (.loc 0 0 t.length))) [(0, (.trow 37 1 (lensOf t))), (1, (.pool 3 (rowsOf encInt t)))] [] [0, 1] := by
  refine Fw.Fn.of (P := Try.prog) (X := [0, 1]) (pn := []) (rs := (fun (t : (List (List Int))) => [(.c (.loc 0 0 t.length))])) (dfs := (fun (t : (List (List Int))) => [(0, (.trow 37 1 (lensOf t))), (1, (.pool 3 (rowsOf encInt t)))])) Try.func62 rfl Try.ntmps62 (Nat.le_of_ble_eq_true rfl) rfl ?_
  intro w0 U0 R0 g0
  unfold m_impl_RigidityMatrix
  refine AWR.seq ?_
  refine AWR.region ?_
  refine AOR.step (LT.box (n := 21) (v := (.agg [(iC f.Graph.Points), (.pv (.xs false (f.Graph.Bars.map encTBar))), (.pv (.xs false (f.Places.map encTPlace)))])) rfl sz29 (by exact rfl)) ⟨rfl, trivial⟩ trivial rfl rfl ?_
  refine AOR.pure (LT.assign (v := (.s (.c (sC nilV)))) rfl) ⟨⟨rfl, rfl⟩, trivial⟩ trivial rfl rfl ?_
  refine AOR.nil ?_
  refine AWR.seq ?_
  refine AWR.region ?_
  refine AOR.step (LT.buildSlice (n := 22) (els := []) [] rfl rfl und31 ti37 rfl rfl rfl rfl (by decide) rfl rfl) trivial trivial rfl rfl ?_
  refine AOR.pure (LT.assign (v := (.s (.c (.loc 22 0 0)))) rfl) ⟨rfl, trivial⟩ trivial rfl rfl ?_
  refine AOR.nil ?_
  refine AWR.ent (Ent.poolE 23 3 rfl) ?_
  refine AWR.ent (Ent.trow (n := 22) (p := 23) (lens := lensOf ([] : List (List Int))) (List.append_nil _) rfl) ?_
  refine AWR.seq ?_
  refine AWR.seq ?_
  refine AWR.region ?_
  refine AOR.pure (LT.bloadN (out := [(iC f.Graph.Points), (.pv (.xs false (f.Graph.Bars.map encTBar))), (.pv (.xs false (f.Places.map encTPlace)))]) rfl ag29 (infS inf29) sz29 (by exact rfl) (by exact rfl)) ⟨rfl, trivial⟩ ⟨rfl, trivial⟩ rfl rfl ?_
  refine AOR.bind fun r1 hr1 => ?_
  refine AOR.pure (@LT.callF Try.prog _ _ 86 _ _ [(.agg [(iC f.Graph.Points), (.pv (.xs false (f.Graph.Bars.map encTBar))), (.pv (.xs false (f.Places.map encTPlace)))])] _ _ [] _ _ _ _ (w_impl_IsFramework f r1 hr1) rfl cb86 (.cons (.agg (.cons (.same rfl) (.cons (.same rfl) (.cons (.same rfl) .nil)))) .nil) rfl rfl trivial) ⟨rfl, rfl, trivial⟩ trivial rfl rfl ?_
  refine AOR.pure (LT.not rfl) ⟨rfl, trivial⟩ trivial rfl rfl ?_
  refine AOR.nil ?_
  refine AWR.cond rfl (fun hc2 => ?_) (fun hc2 => ?_)
  · refine AWR.seq ?_
    refine AWR.region ?_
    refine AOR.pure (LT.move (v := (.s (.c (.loc 22 0 0)))) rfl) ⟨rfl, trivial⟩ trivial rfl rfl ?_
    refine AOR.pure (LT.assign (v := (.s (.c (.loc 22 0 0)))) rfl) ⟨rfl, trivial⟩ trivial rfl rfl ?_
    refine AOR.nil ?_
    refine AWR.ent (Ent.of (σ' := [(2, (.s (.c (.loc 22 0 0))))]) (m' := [(22, (.trow 37 23 (lensOf ([] : List (List Int))))), (23, (.pool 3 (rowsOf encInt ([] : List (List Int)))))]) ⟨rfl, trivial⟩ ⟨rfl, rfl, trivial⟩) ?_
    refine AWR.ent (Ent.mv 22 0 rfl rfl) ?_
    refine AWR.ent (Ent.mv 23 1 rfl rfl) ?_
    refine AWR.ent (Ent.of (σ' := [(2, (.s (.c (.loc 0 0 ([] : List (List Int)).length))))]) (m' := [(0, (.trow 37 1 (lensOf ([] : List (List Int))))), (1, (.pool 3 (rowsOf encInt ([] : List (List Int)))))]) ⟨rfl, trivial⟩ ⟨rfl, rfl, trivial⟩) ?_
    refine AWR.ret (FPost.mk (.inr rfl) ⟨rfl, trivial⟩ ⟨rfl, rfl, trivial⟩ rfl ⟨trivial, trivial⟩ ⟨trivial, PermO.poolR perm_encInt _, trivial⟩)
  · refine AWR.skip ?_
    refine AWR.seq ?_
    refine AWR.seq ?_
    refine AWR.region ?_
    refine AOR.pure (LT.fieldPl rfl fo29_0) ⟨rfl, trivial⟩ trivial rfl rfl ?_
    refine AOR.pure (LT.fieldPl rfl fo26_1) ⟨rfl, trivial⟩ trivial rfl rfl ?_
    refine AOR.pure (LT.bload1 (c := (.pv (.xs false (f.Graph.Bars.map encTBar)))) rfl ag24 (by exact rfl)) ⟨rfl, trivial⟩ ⟨rfl, trivial⟩ rfl rfl ?_
    refine AOR.pure (LT.tlenRO rfl und24) ⟨rfl, trivial⟩ trivial rfl rfl ?_
    refine AOR.pure (LT.move (v := (.s (.c (iC 0)))) rfl) ⟨⟨rfl, rfl⟩, trivial⟩ trivial rfl rfl ?_
    refine AOR.nil ?_
    refine AWR.block ?_
    refine AWR.loop1 (id := 0) (m_impl_RigidityMatrix_L1 f) (fun s3 => ([(1, (.s (.c (.pl 21 0)))), (3, (.s (.c (.loc 22 0 s3.2.length)))), (16, (.s (.c (.pv (.xs false (f.Graph.Bars.map encTBar)))))), (17, (.s (.c (iC (f.Graph.Bars.length : Int))))), (18, (.s (.c (iC s3.1))))], [(21, (.row 29 [[(iC f.Graph.Points), (.pv (.xs false (f.Graph.Bars.map encTBar))), (.pv (.xs false (f.Places.map encTPlace)))]])), (22, (.trow 37 23 (lensOf s3.2))), (23, (.pool 3 (rowsOf encInt s3.2)))])) (fun b24 => ([(3, (.s (.c (.loc 22 0 b24.length))))], [(22, (.trow 37 23 (lensOf b24))), (23, (.pool 3 (rowsOf encInt b24)))])) ?_ (Ent.of ⟨rfl, rfl, rfl, rfl, rfl, trivial⟩ ⟨rfl, rfl, rfl, trivial⟩) rfl (fun b24 _ => ?_)
    · intro s3
      unfold m_impl_RigidityMatrix_L1
      refine AWR.seq ?_
      refine AWR.region ?_
      refine AOR.pure (LT.lss rfl) ⟨rfl, rfl, trivial⟩ trivial rfl rfl ?_
      refine AOR.nil ?_
      refine AWR.seq ?_
      refine AWR.cond rfl (fun hc25 => ?_) (fun hc25 => ?_)
      · refine AWR.skip ?_
        refine AWR.seq ?_
        refine AWR.block ?_
        refine AWR.seq ?_
        refine AWR.region ?_
        refine AOR.bind fun x26 hx26 => ?_
        refine AOR.pure (LT.tindexRO (enc := encTBar) rfl el24 hx26 sz79) ⟨rfl, rfl, trivial⟩ trivial rfl rfl ?_
        refine AOR.pure (LT.loadPxN rfl ag79 (infS inf79) (by exact sz79.symm)) ⟨rfl, trivial⟩ trivial rfl rfl ?_
        refine AOR.step (LT.alloc (n := 25) (cells := [(iC 0), (iC 0)]) rfl ti79 rfl rfl rfl) trivial trivial rfl rfl ?_
        refine AOR.step (LT.bstore (v := (.agg [(iC x26.A), (iC x26.B)])) (out := [(iC x26.A), (iC x26.B)]) rfl rfl (infS inf79) sz79 (by exact rfl) (by exact Nat.le_of_ble_eq_true rfl) (by exact rfl)) ⟨rfl, rfl, trivial⟩ ⟨rfl, trivial⟩ rfl rfl ?_
        refine AOR.nil ?_
        refine AWR.seq ?_
        refine AWR.region ?_
        refine AOR.pure (LT.fieldPl rfl fo29_0) ⟨rfl, trivial⟩ trivial rfl rfl ?_
        refine AOR.pure (LT.fieldPl rfl fo26_0) ⟨rfl, trivial⟩ trivial rfl rfl ?_
        refine AOR.pure (LT.bload1 (c := (iC f.Graph.Points)) rfl ag3 (by exact rfl)) ⟨rfl, trivial⟩ ⟨rfl, trivial⟩ rfl rfl ?_
        refine AOR.pure (LT.mul rfl) ⟨⟨rfl, rfl⟩, rfl, trivial⟩ trivial rfl rfl ?_
        refine AOR.bind fun u27 hu27 => ?_
        refine AOR.step (LT.tmake (n := 26) (enc := encInt) (zc := [(iC 0)]) (0 : Int) rfl und37 ti3 rfl rfl rfl (by decide) (by decide) (lenOk_le hu27) rfl) ⟨rfl, rfl, trivial⟩ trivial rfl rfl ?_
        refine AOR.pure (LT.assign (v := (.s (.c (.loc 26 0 (List.replicate (w64 (2 * f.Graph.Points)).toNat (0 : Int)).length)))) rfl) ⟨rfl, trivial⟩ trivial rfl rfl ?_
        refine AOR.nil ?_
        refine AWR.seq ?_
        refine AWR.ent (Ent.of (σ' := [(1, (.s (.c (.pl 21 0)))), (3, (.s (.c (.loc 22 0 s3.2.length)))), (5, (.s (.c (.pl 25 0)))), (6, (.s (.c (.loc 26 0 (List.replicate (w64 (2 * f.Graph.Points)).toNat (0 : Int)).length)))), (16, (.s (.c (.pv (.xs false (f.Graph.Bars.map encTBar)))))), (17, (.s (.c (iC (f.Graph.Bars.length : Int))))), (18, (.s (.c (iC s3.1))))]) (m' := [(21, (.row 29 [[(iC f.Graph.Points), (.pv (.xs false (f.Graph.Bars.map encTBar))), (.pv (.xs false (f.Places.map encTPlace)))]])), (22, (.trow 37 23 (lensOf s3.2))), (23, (.pool 3 (rowsOf encInt s3.2))), (25, (.row 79 [[(iC x26.A), (iC x26.B)]])), (26, (.prow 3 ((List.replicate (w64 (2 * f.Graph.Points)).toNat (0 : Int)).map encInt)))]) ⟨rfl, rfl, rfl, rfl, rfl, rfl, rfl, trivial⟩ ⟨rfl, rfl, rfl, rfl, rfl, trivial⟩) ?_
        refine AWR.draw mixed ?_
        refine AOD.pure (LT.fieldPl rfl fo29_1) ⟨rfl, trivial⟩ trivial rfl rfl ?_
        refine AOD.pure (LT.bload1 (c := (.pv (.xs false (f.Places.map encTPlace)))) rfl ag27 (by exact rfl)) ⟨rfl, trivial⟩ ⟨rfl, trivial⟩ rfl rfl ?_
        refine AOD.pure (LT.fieldPl rfl fo79_0) ⟨rfl, trivial⟩ trivial rfl rfl ?_
        refine AOD.pure (LT.bload1 (c := (iC x26.A)) rfl ag3 (by exact rfl)) ⟨rfl, trivial⟩ ⟨rfl, trivial⟩ rfl rfl ?_
        refine AOD.bind fun x28 hx28 => ?_
        refine AOD.pure (LT.tindexRO (enc := encTPlace) rfl el27 hx28 sz95) ⟨rfl, rfl, trivial⟩ trivial rfl rfl ?_
        refine AOD.pure (LT.loadPxN rfl ag95 (infS inf95) (by exact sz95.symm)) ⟨rfl, trivial⟩ trivial rfl rfl ?_
        refine AOD.pure (LT.fieldPl rfl fo29_1) ⟨rfl, trivial⟩ trivial rfl rfl ?_
        refine AOD.pure (LT.bload1 (c := (.pv (.xs false (f.Places.map encTPlace)))) rfl ag27 (by exact rfl)) ⟨rfl, trivial⟩ ⟨rfl, trivial⟩ rfl rfl ?_
        refine AOD.pure (LT.fieldPl rfl fo79_1) ⟨rfl, trivial⟩ trivial rfl rfl ?_
        refine AOD.pure (LT.bload1 (c := (iC x26.B)) rfl ag3 (by exact rfl)) ⟨rfl, trivial⟩ ⟨rfl, trivial⟩ rfl rfl ?_
        refine AOD.bind fun x29 hx29 => ?_
        refine AOD.pure (LT.tindexRO (enc := encTPlace) rfl el27 hx29 sz95) ⟨rfl, rfl, trivial⟩ trivial rfl rfl ?_
        refine AOD.pure (LT.loadPxN rfl ag95 (infS inf95) (by exact sz95.symm)) ⟨rfl, trivial⟩ trivial rfl rfl ?_
        refine AOD.step (LT.alloc (n := 27) (cells := [(iC 0), (iC 0)]) rfl ti95 rfl rfl rfl) trivial trivial rfl rfl ?_
        refine AOD.step (LT.alloc (n := 28) (cells := [(iC 0), (iC 0)]) rfl ti95 rfl rfl rfl) trivial trivial rfl rfl ?_
        refine AOD.step (LT.bstore (v := (.agg [(iC x28.X), (iC x28.Y)])) (out := [(iC x28.X), (iC x28.Y)]) rfl rfl (infS inf95) sz95 (by exact rfl) (by exact Nat.le_of_ble_eq_true rfl) (by exact rfl)) ⟨rfl, rfl, trivial⟩ ⟨rfl, trivial⟩ rfl rfl ?_
        refine AOD.step (LT.bstore (v := (.agg [(iC x29.X), (iC x29.Y)])) (out := [(iC x29.X), (iC x29.Y)]) rfl rfl (infS inf95) sz95 (by exact rfl) (by exact Nat.le_of_ble_eq_true rfl) (by exact rfl)) ⟨rfl, rfl, trivial⟩ ⟨rfl, trivial⟩ rfl rfl ?_
        refine AOD.nil (by kernel_rfl) ?_
        refine AWR.seq ?_
        refine AWR.ent (Ent.of (σ' := [(1, (.s (.c (.pl 21 0)))), (3, (.s (.c (.loc 22 0 s3.2.length)))), (5, (.s (.c (.pl 25 0)))), (6, (.s (.c (.loc 26 0 (List.replicate (w64 (2 * f.Graph.Points)).toNat (0 : Int)).length)))), (7, (.s (.c (.pl 27 0)))), (8, (.s (.c (.pl 28 0)))), (16, (.s (.c (.pv (.xs false (f.Graph.Bars.map encTBar)))))), (17, (.s (.c (iC (f.Graph.Bars.length : Int))))), (18, (.s (.c (iC s3.1))))]) (m' := [(21, (.row 29 [[(iC f.Graph.Points), (.pv (.xs false (f.Graph.Bars.map encTBar))), (.pv (.xs false (f.Places.map encTPlace)))]])), (22, (.trow 37 23 (lensOf s3.2))), (23, (.pool 3 (rowsOf encInt s3.2))), (25, (.row 79 [[(iC x26.A), (iC x26.B)]])), (26, (.prow 3 ((List.replicate (w64 (2 * f.Graph.Points)).toNat (0 : Int)).map encInt))), (27, (.row 95 [[(iC x28.X), (iC x28.Y)]])), (28, (.row 95 [[(iC x29.X), (iC x29.Y)]]))]) ⟨rfl, rfl, rfl, rfl, rfl, rfl, rfl, rfl, rfl, trivial⟩ ⟨rfl, rfl, rfl, rfl, rfl, rfl, rfl, trivial⟩) ?_
        refine AWR.draw mixed ?_
        refine AOD.pure (LT.move (v := (.s (.c (.loc 26 0 (List.replicate (w64 (2 * f.Graph.Points)).toNat (0 : Int)).length)))) rfl) ⟨rfl, trivial⟩ trivial rfl rfl ?_
        refine AOD.pure (LT.fieldPl rfl fo79_0) ⟨rfl, trivial⟩ trivial rfl rfl ?_
        refine AOD.pure (LT.bload1 (c := (iC x26.A)) rfl ag3 (by exact rfl)) ⟨rfl, trivial⟩ ⟨rfl, trivial⟩ rfl rfl ?_
        refine AOD.pure (LT.mul rfl) ⟨⟨rfl, rfl⟩, rfl, trivial⟩ trivial rfl rfl ?_
        refine AOD.pure (LT.move (v := (.s (.c (.loc 26 0 (List.replicate (w64 (2 * f.Graph.Points)).toNat (0 : Int)).length)))) rfl) ⟨rfl, trivial⟩ trivial rfl rfl ?_
        refine AOD.pure (LT.fieldPl rfl fo79_0) ⟨rfl, trivial⟩ trivial rfl rfl ?_
        refine AOD.pure (LT.bload1 (c := (iC x26.A)) rfl ag3 (by exact rfl)) ⟨rfl, trivial⟩ ⟨rfl, trivial⟩ rfl rfl ?_
        refine AOD.pure (LT.mul rfl) ⟨⟨rfl, rfl⟩, rfl, trivial⟩ trivial rfl rfl ?_
        refine AOD.pure (LT.add rfl) ⟨rfl, ⟨rfl, rfl⟩, trivial⟩ trivial rfl rfl ?_
        refine AOD.pure (LT.fieldPl rfl fo95_0) ⟨rfl, trivial⟩ trivial rfl rfl ?_
        refine AOD.pure (LT.bload1 (c := (iC x28.X)) rfl ag3 (by exact rfl)) ⟨rfl, trivial⟩ ⟨rfl, trivial⟩ rfl rfl ?_
        refine AOD.pure (LT.fieldPl rfl fo95_0) ⟨rfl, trivial⟩ trivial rfl rfl ?_
        refine AOD.pure (LT.bload1 (c := (iC x29.X)) rfl ag3 (by exact rfl)) ⟨rfl, trivial⟩ ⟨rfl, trivial⟩ rfl rfl ?_
        refine AOD.pure (LT.sub rfl) ⟨rfl, rfl, trivial⟩ trivial rfl rfl ?_
        refine AOD.pure (LT.fieldPl rfl fo95_1) ⟨rfl, trivial⟩ trivial rfl rfl ?_
        refine AOD.pure (LT.bload1 (c := (iC x28.Y)) rfl ag3 (by exact rfl)) ⟨rfl, trivial⟩ ⟨rfl, trivial⟩ rfl rfl ?_
        refine AOD.pure (LT.fieldPl rfl fo95_1) ⟨rfl, trivial⟩ trivial rfl rfl ?_
        refine AOD.pure (LT.bload1 (c := (iC x29.Y)) rfl ag3 (by exact rfl)) ⟨rfl, trivial⟩ ⟨rfl, trivial⟩ rfl rfl ?_
        refine AOD.pure (LT.sub rfl) ⟨rfl, rfl, trivial⟩ trivial rfl rfl ?_
        refine AOD.bind fun x30 hx30 => ?_
        refine AOD.pure (LT.tindexLoc rfl rfl el37 hx30) ⟨rfl, rfl, trivial⟩ ⟨rfl, trivial⟩ rfl rfl ?_
        refine AOD.step (LT.tstore (k := 0) (v := (.c (iC (w64 (x28.X - x29.X))))) (b' := (w64 (x28.X - x29.X))) rfl rfl (infS inf3) sz3 (by exact rfl) hx30 (by exact rfl) (by exact Nat.le_of_ble_eq_true rfl) (by exact rfl)) ⟨rfl, rfl, trivial⟩ ⟨rfl, trivial⟩ rfl rfl ?_
        refine AOD.bind fun x31 hx31 => ?_
        refine AOD.pure (LT.tindexLoc (show (List.replicate (w64 (2 * f.Graph.Points)).toNat (0 : Int)).length = ((List.replicate (w64 (2 * f.Graph.Points)).toNat (0 : Int)).set (w64 (2 * x26.A)).toNat (w64 (x28.X - x29.X))).length by simp only [List.length_set]) rfl el37 hx31) ⟨rfl, rfl, trivial⟩ ⟨rfl, trivial⟩ rfl rfl ?_
        refine AOD.step (LT.tstore (k := 0) (v := (.c (iC (w64 (x28.Y - x29.Y))))) (b' := (w64 (x28.Y - x29.Y))) rfl rfl (infS inf3) sz3 (by exact rfl) hx31 (by exact rfl) (by exact Nat.le_of_ble_eq_true rfl) (by exact rfl)) ⟨rfl, rfl, trivial⟩ ⟨rfl, trivial⟩ rfl rfl ?_
        refine AOD.nil (by kernel_rfl) ?_
        refine AWR.seq ?_
        refine AWR.ent (Ent.of (σ' := [(1, (.s (.c (.pl 21 0)))), (3, (.s (.c (.loc 22 0 s3.2.length)))), (5, (.s (.c (.pl 25 0)))), (6, (.s (.c (.loc 26 0 (List.replicate (w64 (2 * f.Graph.Points)).toNat (0 : Int)).length)))), (7, (.s (.c (.pl 27 0)))), (8, (.s (.c (.pl 28 0)))), (16, (.s (.c (.pv (.xs false (f.Graph.Bars.map encTBar)))))), (17, (.s (.c (iC (f.Graph.Bars.length : Int))))), (18, (.s (.c (iC s3.1))))]) (m' := [(21, (.row 29 [[(iC f.Graph.Points), (.pv (.xs false (f.Graph.Bars.map encTBar))), (.pv (.xs false (f.Places.map encTPlace)))]])), (22, (.trow 37 23 (lensOf s3.2))), (23, (.pool 3 (rowsOf encInt s3.2))), (25, (.row 79 [[(iC x26.A), (iC x26.B)]])), (26, (.prow 3 ((((List.replicate (w64 (2 * f.Graph.Points)).toNat (0 : Int)).set (w64 (2 * x26.A)).toNat (w64 (x28.X - x29.X))).set (w64 ((w64 (2 * x26.A)) + 1)).toNat (w64 (x28.Y - x29.Y))).map encInt))), (27, (.row 95 [[(iC x28.X), (iC x28.Y)]])), (28, (.row 95 [[(iC x29.X), (iC x29.Y)]]))]) ⟨rfl, rfl, rfl, rfl, rfl, rfl, rfl, rfl, rfl, trivial⟩ ⟨rfl, rfl, rfl, rfl, rfl, rfl, rfl, trivial⟩) ?_
        refine AWR.draw mixed ?_
        refine AOD.pure (LT.move (v := (.s (.c (.loc 26 0 (List.replicate (w64 (2 * f.Graph.Points)).toNat (0 : Int)).length)))) rfl) ⟨rfl, trivial⟩ trivial rfl rfl ?_
        refine AOD.pure (LT.fieldPl rfl fo79_1) ⟨rfl, trivial⟩ trivial rfl rfl ?_
        refine AOD.pure (LT.bload1 (c := (iC x26.B)) rfl ag3 (by exact rfl)) ⟨rfl, trivial⟩ ⟨rfl, trivial⟩ rfl rfl ?_
        refine AOD.pure (LT.mul rfl) ⟨⟨rfl, rfl⟩, rfl, trivial⟩ trivial rfl rfl ?_
        refine AOD.pure (LT.move (v := (.s (.c (.loc 26 0 (List.replicate (w64 (2 * f.Graph.Points)).toNat (0 : Int)).length)))) rfl) ⟨rfl, trivial⟩ trivial rfl rfl ?_
        refine AOD.pure (LT.fieldPl rfl fo79_1) ⟨rfl, trivial⟩ trivial rfl rfl ?_
        refine AOD.pure (LT.bload1 (c := (iC x26.B)) rfl ag3 (by exact rfl)) ⟨rfl, trivial⟩ ⟨rfl, trivial⟩ rfl rfl ?_
        refine AOD.pure (LT.mul rfl) ⟨⟨rfl, rfl⟩, rfl, trivial⟩ trivial rfl rfl ?_
        refine AOD.pure (LT.add rfl) ⟨rfl, ⟨rfl, rfl⟩, trivial⟩ trivial rfl rfl ?_
        refine AOD.pure (LT.fieldPl rfl fo95_0) ⟨rfl, trivial⟩ trivial rfl rfl ?_
        refine AOD.pure (LT.bload1 (c := (iC x29.X)) rfl ag3 (by exact rfl)) ⟨rfl, trivial⟩ ⟨rfl, trivial⟩ rfl rfl ?_
        refine AOD.pure (LT.fieldPl rfl fo95_0) ⟨rfl, trivial⟩ trivial rfl rfl ?_
        refine AOD.pure (LT.bload1 (c := (iC x28.X)) rfl ag3 (by exact rfl)) ⟨rfl, trivial⟩ ⟨rfl, trivial⟩ rfl rfl ?_
        refine AOD.pure (LT.sub rfl) ⟨rfl, rfl, trivial⟩ trivial rfl rfl ?_
        refine AOD.pure (LT.fieldPl rfl fo95_1) ⟨rfl, trivial⟩ trivial rfl rfl ?_
        refine AOD.pure (LT.bload1 (c := (iC x29.Y)) rfl ag3 (by exact rfl)) ⟨rfl, trivial⟩ ⟨rfl, trivial⟩ rfl rfl ?_
        refine AOD.pure (LT.fieldPl rfl fo95_1) ⟨rfl, trivial⟩ trivial rfl rfl ?_
        refine AOD.pure (LT.bload1 (c := (iC x28.Y)) rfl ag3 (by exact rfl)) ⟨rfl, trivial⟩ ⟨rfl, trivial⟩ rfl rfl ?_
        refine AOD.pure (LT.sub rfl) ⟨rfl, rfl, trivial⟩ trivial rfl rfl ?_
        refine AOD.bind fun x32 hx32 => ?_
        refine AOD.pure (LT.tindexLoc (show (List.replicate (w64 (2 * f.Graph.Points)).toNat (0 : Int)).length = (((List.replicate (w64 (2 * f.Graph.Points)).toNat (0 : Int)).set (w64 (2 * x26.A)).toNat (w64 (x28.X - x29.X))).set (w64 ((w64 (2 * x26.A)) + 1)).toNat (w64 (x28.Y - x29.Y))).length by simp only [List.length_set]) rfl el37 hx32) ⟨rfl, rfl, trivial⟩ ⟨rfl, trivial⟩ rfl rfl ?_
        refine AOD.step (LT.tstore (k := 0) (v := (.c (iC (w64 (x29.X - x28.X))))) (b' := (w64 (x29.X - x28.X))) rfl rfl (infS inf3) sz3 (by exact rfl) hx32 (by exact rfl) (by exact Nat.le_of_ble_eq_true rfl) (by exact rfl)) ⟨rfl, rfl, trivial⟩ ⟨rfl, trivial⟩ rfl rfl ?_
        refine AOD.bind fun x33 hx33 => ?_
        refine AOD.pure (LT.tindexLoc (show (List.replicate (w64 (2 * f.Graph.Points)).toNat (0 : Int)).length = ((((List.replicate (w64 (2 * f.Graph.Points)).toNat (0 : Int)).set (w64 (2 * x26.A)).toNat (w64 (x28.X - x29.X))).set (w64 ((w64 (2 * x26.A)) + 1)).toNat (w64 (x28.Y - x29.Y))).set (w64 (2 * x26.B)).toNat (w64 (x29.X - x28.X))).length by simp only [List.length_set]) rfl el37 hx33) ⟨rfl, rfl, trivial⟩ ⟨rfl, trivial⟩ rfl rfl ?_
        refine AOD.step (LT.tstore (k := 0) (v := (.c (iC (w64 (x29.Y - x28.Y))))) (b' := (w64 (x29.Y - x28.Y))) rfl rfl (infS inf3) sz3 (by exact rfl) hx33 (by exact rfl) (by exact Nat.le_of_ble_eq_true rfl) (by exact rfl)) ⟨rfl, rfl, trivial⟩ ⟨rfl, trivial⟩ rfl rfl ?_
        refine AOD.nil (by kernel_rfl) ?_
        refine AWR.ent (Ent.of (σ' := [(1, (.s (.c (.pl 21 0)))), (3, (.s (.c (.loc 22 0 s3.2.length)))), (6, (.s (.c (.loc 26 0 (List.replicate (w64 (2 * f.Graph.Points)).toNat (0 : Int)).length)))), (16, (.s (.c (.pv (.xs false (f.Graph.Bars.map encTBar)))))), (17, (.s (.c (iC (f.Graph.Bars.length : Int))))), (18, (.s (.c (iC s3.1))))]) (m' := [(21, (.row 29 [[(iC f.Graph.Points), (.pv (.xs false (f.Graph.Bars.map encTBar))), (.pv (.xs false (f.Places.map encTPlace)))]])), (22, (.trow 37 23 (lensOf s3.2))), (23, (.pool 3 (rowsOf encInt s3.2))), (26, (.prow 3 ((((((List.replicate (w64 (2 * f.Graph.Points)).toNat (0 : Int)).set (w64 (2 * x26.A)).toNat (w64 (x28.X - x29.X))).set (w64 ((w64 (2 * x26.A)) + 1)).toNat (w64 (x28.Y - x29.Y))).set (w64 (2 * x26.B)).toNat (w64 (x29.X - x28.X))).set (w64 ((w64 (2 * x26.B)) + 1)).toNat (w64 (x29.Y - x28.Y))).map encInt)))]) ⟨rfl, rfl, rfl, rfl, rfl, rfl, trivial⟩ ⟨rfl, rfl, rfl, rfl, trivial⟩) ?_
        refine AWR.region ?_
        refine AOR.pure (LT.move (v := (.s (.c (.loc 22 0 s3.2.length)))) rfl) ⟨rfl, trivial⟩ trivial rfl rfl ?_
        refine AOR.pure (LT.move (v := (.s (.c (.loc 26 0 (List.replicate (w64 (2 * f.Graph.Points)).toNat (0 : Int)).length)))) rfl) ⟨rfl, trivial⟩ trivial rfl rfl ?_
        refine AOR.step (LT.buildSlice (n := 29) (els := [[(.loc 26 0 (List.replicate (w64 (2 * f.Graph.Points)).toNat (0 : Int)).length)]]) [(0, .tmp 82, (.c (.loc 26 0 (List.replicate (w64 (2 * f.Graph.Points)).toNat (0 : Int)).length)))] rfl rfl und31 ti37 rfl rfl rfl rfl (by decide) rfl rfl) ⟨rfl, trivial⟩ trivial rfl rfl ?_
        refine AOR.bind fun u34 hu34 => ?_
        refine AOR.step (LT.xapp rfl rfl rfl und31 ti37 rfl (by decide) (by decide) rfl (lim_le hu34)) ⟨rfl, rfl, trivial⟩ ⟨rfl, rfl, trivial⟩ rfl rfl ?_
        refine AOR.pure (LT.assign (v := (.s (.c (.loc 22 0 (s3.2.length + 1))))) rfl) ⟨rfl, trivial⟩ trivial rfl rfl ?_
        refine AOR.nil ?_
        refine AWR.ent (Ent.tadopt (enc := encInt) (n := 22) (m := 26) (p := 23) (rows := s3.2) (r := (((((List.replicate (w64 (2 * f.Graph.Points)).toNat (0 : Int)).set (w64 (2 * x26.A)).toNat (w64 (x28.X - x29.X))).set (w64 ((w64 (2 * x26.A)) + 1)).toNat (w64 (x28.Y - x29.Y))).set (w64 (2 * x26.B)).toNat (w64 (x29.X - x28.X))).set (w64 ((w64 (2 * x26.B)) + 1)).toNat (w64 (x29.Y - x28.Y)))) (rest := []) (show (List.replicate (w64 (2 * f.Graph.Points)).toNat (0 : Int)).length = (((((List.replicate (w64 (2 * f.Graph.Points)).toNat (0 : Int)).set (w64 (2 * x26.A)).toNat (w64 (x28.X - x29.X))).set (w64 ((w64 (2 * x26.A)) + 1)).toNat (w64 (x28.Y - x29.Y))).set (w64 (2 * x26.B)).toNat (w64 (x29.X - x28.X))).set (w64 ((w64 (2 * x26.B)) + 1)).toNat (w64 (x29.Y - x28.Y))).length by simp only [List.length_set]) rfl rfl rfl rfl rfl) ?_
        refine AWR.ent (Ent.trow (n := 22) (p := 23) (lens := lensOf (s3.2 ++ [(((((List.replicate (w64 (2 * f.Graph.Points)).toNat (0 : Int)).set (w64 (2 * x26.A)).toNat (w64 (x28.X - x29.X))).set (w64 ((w64 (2 * x26.A)) + 1)).toNat (w64 (x28.Y - x29.Y))).set (w64 (2 * x26.B)).toNat (w64 (x29.X - x28.X))).set (w64 ((w64 (2 * x26.B)) + 1)).toNat (w64 (x29.Y - x28.Y)))])) (List.append_nil _) rfl) ?_
        refine AWR.blk ?_
        refine AWR.region ?_
        refine AOR.pure (LT.add rfl) ⟨rfl, ⟨rfl, rfl⟩, trivial⟩ trivial rfl rfl ?_
        refine AOR.pure (LT.move (v := (.s (.c (iC (w64 (s3.1 + 1)))))) rfl) ⟨rfl, trivial⟩ trivial rfl rfl ?_
        refine AOR.nil ?_
        refine AWR.nil ⟨rfl, Ent.of ⟨rfl, (congrArg (fun l1 => (some (AV.s (.c (.loc 22 0 l1))) : Option AV)) (show (s3.2.length + 1) = (s3.2 ++ [(((((List.replicate (w64 (2 * f.Graph.Points)).toNat (0 : Int)).set (w64 (2 * x26.A)).toNat (w64 (x28.X - x29.X))).set (w64 ((w64 (2 * x26.A)) + 1)).toNat (w64 (x28.Y - x29.Y))).set (w64 (2 * x26.B)).toNat (w64 (x29.X - x28.X))).set (w64 ((w64 (2 * x26.B)) + 1)).toNat (w64 (x29.Y - x28.Y)))]).length from len_snoc)), rfl, rfl, rfl, trivial⟩ ⟨rfl, rfl, rfl, trivial⟩⟩
      · refine AWR.exit_end rfl ⟨rfl, Ent.of ⟨rfl, trivial⟩ ⟨rfl, rfl, trivial⟩⟩
    · refine AWR.seq ?_
      refine AWR.region ?_
      refine AOR.pure (LT.move (v := (.s (.c (.loc 22 0 b24.length)))) rfl) ⟨rfl, trivial⟩ trivial rfl rfl ?_
      refine AOR.pure (LT.assign (v := (.s (.c (.loc 22 0 b24.length)))) rfl) ⟨rfl, trivial⟩ trivial rfl rfl ?_
      refine AOR.nil ?_
      refine AWR.ent (Ent.of (σ' := [(2, (.s (.c (.loc 22 0 b24.length))))]) (m' := [(22, (.trow 37 23 (lensOf b24))), (23, (.pool 3 (rowsOf encInt b24)))]) ⟨rfl, trivial⟩ ⟨rfl, rfl, trivial⟩) ?_
      refine AWR.ent (Ent.mv 22 0 rfl rfl) ?_
      refine AWR.ent (Ent.mv 23 1 rfl rfl) ?_
      refine AWR.ent (Ent.of (σ' := [(2, (.s (.c (.loc 0 0 b24.length))))]) (m' := [(0, (.trow 37 1 (lensOf b24))), (1, (.pool 3 (rowsOf encInt b24)))]) ⟨rfl, trivial⟩ ⟨rfl, rfl, trivial⟩) ?_
      refine AWR.ret (FPost.mk (.inr rfl) ⟨rfl, trivial⟩ ⟨rfl, rfl, trivial⟩ rfl ⟨trivial, trivial⟩ ⟨trivial, PermO.poolR perm_encInt _, trivial⟩)
set_option maxRecDepth 100000 in
set_option maxHeartbeats 8000000 in
theorem w_impl_copyInts (l : (List Int)) : ∀ t, m_impl_copyInts l = some t → Fw.Fn Try.prog 96 [(.c (.pv (.xs false (l.map encInt))))] [] (.s (.c (.loc 0 0 t.length))) [(0, (.prow 3 (t.map encInt)))] [] [0] := by
  refine Fw.Fn.of (P := Try.prog) (X := [0]) (pn := []) (rs := (fun (t : (List Int)) => [(.c (.loc 0 0 t.length))])) (dfs := (fun (t : (List Int)) => [(0, (.prow 3 (t.map encInt)))])) Try.func96 rfl Try.ntmps96 (Nat.le_of_ble_eq_true rfl) rfl ?_
  intro w0 U0 R0 g0
  unfold m_impl_copyInts
  refine AWR.seq ?_
  refine AWR.region ?_
  refine AOR.pure (LT.assign (v := (.s (.c (sC nilV)))) rfl) ⟨⟨rfl, rfl⟩, trivial⟩ trivial rfl rfl ?_
  refine AOR.nil ?_
  refine AWR.seq ?_
  refine AWR.region ?_
  refine AOR.step (LT.tbuildSlice (n := 21) (enc := encInt) [] ([] : List Int) rfl rfl und37 ti3 rfl rfl rfl rfl (by decide) (fun _ => rfl) rfl) trivial trivial rfl rfl ?_
  refine AOR.pure (LT.move (v := (.s (.c (.pv (.xs false (l.map encInt)))))) rfl) ⟨rfl, trivial⟩ trivial rfl rfl ?_
  refine AOR.bind fun u1 hu1 => ?_
  refine AOR.step (LT.tappRO (enc := encInt) rfl  rfl und37 ti3 rfl (by decide) (by decide) (fun _ => rfl) (lim_le hu1)) ⟨rfl, rfl, trivial⟩ ⟨rfl, trivial⟩ rfl rfl ?_
  refine AOR.pure (LT.assign (v := (.s (.c (.loc 21 0 (([] : List Int) ++ l).length)))) rfl) ⟨rfl, trivial⟩ trivial rfl rfl ?_
  refine AOR.nil ?_
  refine AWR.ent (Ent.of (σ' := [(2, (.s (.c (.loc 21 0 (([] : List Int) ++ l).length))))]) (m' := [(21, (.prow 3 ((([] : List Int) ++ l).map encInt)))]) ⟨rfl, trivial⟩ ⟨rfl, trivial⟩) ?_
  refine AWR.ent (Ent.mv 21 0 rfl rfl) ?_
  refine AWR.ent (Ent.of (σ' := [(2, (.s (.c (.loc 0 0 (([] : List Int) ++ l).length))))]) (m' := [(0, (.prow 3 ((([] : List Int) ++ l).map encInt)))]) ⟨rfl, trivial⟩ ⟨rfl, trivial⟩) ?_
  refine AWR.ret (FPost.mk (.inr rfl) ⟨rfl, trivial⟩ ⟨rfl, trivial⟩ rfl ⟨trivial, trivial⟩ ⟨PermO.prow' perm_encInt, trivial⟩)
set_option maxRecDepth 100000 in
set_option maxHeartbeats 8000000 in
theorem w_impl_copyLists (l : (List (List Int))) : ∀ t, m_impl_copyLists l = some t → Fw.Fn Try.prog 188 [(.c (.pv (.xs false (l.map (encLInt false)))))] [] (.s (.c (.loc 0 0 t.length))) [(0, (.trow 37 1 (lensOf t))), (1, (.pool 3 (rowsOf encInt t)))] [] [0, 1] := by
  refine Fw.Fn.of (P := Try.prog) (X := [0, 1]) (pn := []) (rs := (fun (t : (List (List Int))) => [(.c (.loc 0 0 t.length))])) (dfs := (fun (t : (List (List Int))) => [(0, (.trow 37 1 (lensOf t))), (1, (.pool 3 (rowsOf encInt t)))])) Try.func188 rfl Try.ntmps188 (Nat.le_of_ble_eq_true rfl) rfl ?_
  intro w0 U0 R0 g0
  unfold m_impl_copyLists
  refine AWR.seq ?_
  refine AWR.region ?_
  refine AOR.pure (LT.assign (v := (.s (.c (sC nilV)))) rfl) ⟨⟨rfl, rfl⟩, trivial⟩ trivial rfl rfl ?_
  refine AOR.nil ?_
  refine AWR.seq ?_
  refine AWR.region ?_
  refine AOR.step (LT.buildSlice (n := 21) (els := []) [] rfl rfl und31 ti37 rfl rfl rfl rfl (by decide) rfl rfl) trivial trivial rfl rfl ?_
  refine AOR.pure (LT.assign (v := (.s (.c (.loc 21 0 0)))) rfl) ⟨rfl, trivial⟩ trivial rfl rfl ?_
  refine AOR.nil ?_
  refine AWR.ent (Ent.poolE 22 3 rfl) ?_
  refine AWR.ent (Ent.trow (n := 21) (p := 22) (lens := lensOf ([] : List (List Int))) (List.append_nil _) rfl) ?_
  refine AWR.seq ?_
  refine AWR.seq ?_
  refine AWR.region ?_
  refine AOR.pure (LT.move (v := (.s (.c (.pv (.xs false (l.map (encLInt false))))))) rfl) ⟨rfl, trivial⟩ trivial rfl rfl ?_
  refine AOR.pure (LT.tlenRO rfl und31) ⟨rfl, trivial⟩ trivial rfl rfl ?_
  refine AOR.pure (LT.move (v := (.s (.c (iC 0)))) rfl) ⟨⟨rfl, rfl⟩, trivial⟩ trivial rfl rfl ?_
  refine AOR.nil ?_
  refine AWR.block ?_
  refine AWR.loop1 (id := 0) (m_impl_copyLists_L1 l) (fun s1 => ([(3, (.s (.c (.loc 21 0 s1.2.length)))), (7, (.s (.c (.pv (.xs false (l.map (encLInt false))))))), (8, (.s (.c (iC (l.length : Int))))), (9, (.s (.c (iC s1.1))))], [(21, (.trow 37 22 (lensOf s1.2))), (22, (.pool 3 (rowsOf encInt s1.2)))])) (fun b10 => ([(3, (.s (.c (.loc 21 0 b10.length))))], [(21, (.trow 37 22 (lensOf b10))), (22, (.pool 3 (rowsOf encInt b10)))])) ?_ (Ent.of ⟨rfl, rfl, rfl, rfl, trivial⟩ ⟨rfl, rfl, trivial⟩) rfl (fun b10 _ => ?_)
  · intro s1
    unfold m_impl_copyLists_L1
    refine AWR.seq ?_
    refine AWR.region ?_
    refine AOR.pure (LT.lss rfl) ⟨rfl, rfl, trivial⟩ trivial rfl rfl ?_
    refine AOR.nil ?_
    refine AWR.seq ?_
    refine AWR.cond rfl (fun hc11 => ?_) (fun hc11 => ?_)
    · refine AWR.skip ?_
      refine AWR.seq ?_
      refine AWR.block ?_
      refine AWR.seq ?_
      refine AWR.region ?_
      refine AOR.bind fun x12 hx12 => ?_
      refine AOR.pure (LT.tindexRO (enc := (encLInt false)) rfl el31 hx12 sz37) ⟨rfl, rfl, trivial⟩ trivial rfl rfl ?_
      refine AOR.pure (LT.loadPx1 rfl ag37) ⟨rfl, trivial⟩ trivial rfl rfl ?_
      refine AOR.pure (LT.assign (v := (.s (.c (.pv (.xs false (x12.map encInt)))))) rfl) ⟨rfl, trivial⟩ trivial rfl rfl ?_
      refine AOR.nil ?_
      refine AWR.region ?_
      refine AOR.pure (LT.move (v := (.s (.c (.loc 21 0 s1.2.length)))) rfl) ⟨rfl, trivial⟩ trivial rfl rfl ?_
      refine AOR.pure (LT.move (v := (.s (.c (.pv (.xs false (x12.map encInt)))))) rfl) ⟨rfl, trivial⟩ trivial rfl rfl ?_
      refine AOR.bind fun r13 hr13 => ?_
      refine AOR.step (@LT.callF Try.prog _ _ 96 _ _ [(.c (.pv (.xs false (x12.map encInt))))] _ _ [] _ _ _ _ ((show Fw.Fn Try.prog 96 [(.c (.pv (.xs false (x12.map encInt))))] [] (.s (.c (.loc 24 0 r13.length))) [(24, (.prow 3 (r13.map encInt)))] [] [24] from Fw.Fn.ren [(0, 24)] (w_impl_copyInts x12 r13 hr13) rfl)) rfl cb96 (.cons (.c (.same rfl)) .nil) rfl rfl trivial) ⟨rfl, rfl, trivial⟩ trivial rfl rfl ?_
      refine AOR.step (LT.buildSlice (n := 25) (els := [[(.loc 24 0 r13.length)]]) [(0, .tmp 15, (.c (.loc 24 0 r13.length)))] rfl rfl und31 ti37 rfl rfl rfl rfl (by decide) rfl rfl) ⟨rfl, trivial⟩ trivial rfl rfl ?_
      refine AOR.bind fun u14 hu14 => ?_
      refine AOR.step (LT.xapp rfl rfl rfl und31 ti37 rfl (by decide) (by decide) rfl (lim_le hu14)) ⟨rfl, rfl, trivial⟩ ⟨rfl, rfl, trivial⟩ rfl rfl ?_
      refine AOR.pure (LT.assign (v := (.s (.c (.loc 21 0 (s1.2.length + 1))))) rfl) ⟨rfl, trivial⟩ trivial rfl rfl ?_
      refine AOR.nil ?_
      refine AWR.ent (Ent.tadopt (enc := encInt) (n := 21) (m := 24) (p := 22) (rows := s1.2) (r := r13) (rest := []) rfl rfl rfl rfl rfl rfl) ?_
      refine AWR.ent (Ent.trow (n := 21) (p := 22) (lens := lensOf (s1.2 ++ [r13])) (List.append_nil _) rfl) ?_
      refine AWR.blk ?_
      refine AWR.region ?_
      refine AOR.pure (LT.add rfl) ⟨rfl, ⟨rfl, rfl⟩, trivial⟩ trivial rfl rfl ?_
      refine AOR.pure (LT.move (v := (.s (.c (iC (w64 (s1.1 + 1)))))) rfl) ⟨rfl, trivial⟩ trivial rfl rfl ?_
      refine AOR.nil ?_
      refine AWR.nil ⟨rfl, Ent.of ⟨(congrArg (fun l1 => (some (AV.s (.c (.loc 21 0 l1))) : Option AV)) (show (s1.2.length + 1) = (s1.2 ++ [r13]).length from len_snoc)), rfl, rfl, rfl, trivial⟩ ⟨rfl, rfl, trivial⟩⟩
    · refine AWR.exit_end rfl ⟨rfl, Ent.of ⟨rfl, trivial⟩ ⟨rfl, rfl, trivial⟩⟩
  · refine AWR.seq ?_
    refine AWR.region ?_
    refine AOR.pure (LT.move (v := (.s (.c (.loc 21 0 b10.length)))) rfl) ⟨rfl, trivial⟩ trivial rfl rfl ?_
    refine AOR.pure (LT.assign (v := (.s (.c (.loc 21 0 b10.length)))) rfl) ⟨rfl, trivial⟩ trivial rfl rfl ?_
    refine AOR.nil ?_
    refine AWR.ent (Ent.of (σ' := [(2, (.s (.c (.loc 21 0 b10.length))))]) (m' := [(21, (.trow 37 22 (lensOf b10))), (22, (.pool 3 (rowsOf encInt b10)))]) ⟨rfl, trivial⟩ ⟨rfl, rfl, trivial⟩) ?_
    refine AWR.ent (Ent.mv 21 0 rfl rfl) ?_
    refine AWR.ent (Ent.mv 22 1 rfl rfl) ?_
    refine AWR.ent (Ent.of (σ' := [(2, (.s (.c (.loc 0 0 b10.length))))]) (m' := [(0, (.trow 37 1 (lensOf b10))), (1, (.pool 3 (rowsOf encInt b10)))]) ⟨rfl, trivial⟩ ⟨rfl, rfl, trivial⟩) ?_
    refine AWR.ret (FPost.mk (.inr rfl) ⟨rfl, trivial⟩ ⟨rfl, rfl, trivial⟩ rfl ⟨trivial, trivial⟩ ⟨trivial, PermO.poolR perm_encInt _, trivial⟩)
set_option maxRecDepth 100000 in
set_option maxHeartbeats 8000000 in
theorem w_impl_reduced (m : (List (List Int))) (columns : Int) : ∀ t, m_impl_reduced m columns = some t → Fw.Fn Try.prog 156 [(.c (.pv (.xs false (m.map (encLInt false))))), (.c (iC columns))] [] (resA [(.c (.loc 0 0 t.1.length)), (.c (.loc 2 0 t.2.1.length)), (.c (iC t.2.2))]) [(0, (.trow 37 1 (lensOf t.1))), (1, (.pool 3 (rowsOf encInt t.1))), (2, (.prow 3 (t.2.1.map encInt)))] [] [0, 1, 2] := by
  refine Fw.Fn.of (P := Try.prog) (X := [0, 1, 2]) (pn := []) (rs := (fun (t : ((List (List Int)) × (List Int) × Int)) => [(.c (.loc 0 0 t.1.length)), (.c (.loc 2 0 t.2.1.length)), (.c (iC t.2.2))])) (dfs := (fun (t : ((List (List Int)) × (List Int) × Int)) => [(0, (.trow 37 1 (lensOf t.1))), (1, (.pool 3 (rowsOf encInt t.1))), (2, (.prow 3 (t.2.1.map encInt)))])) Try.func156 rfl Try.ntmps156 (Nat.le_of_ble_eq_true rfl) rfl ?_
  intro w0 U0 R0 g0
  unfold m_impl_reduced
  refine AWR.seq ?_
  refine AWR.region ?_
  refine AOR.pure (LT.assign (v := (.s (.c (sC nilV)))) rfl) ⟨⟨rfl, rfl⟩, trivial⟩ trivial rfl rfl ?_
  refine AOR.pure (LT.assign (v := (.s (.c (sC nilV)))) rfl) ⟨⟨rfl, rfl⟩, trivial⟩ trivial rfl rfl ?_
  refine AOR.pure (LT.assign (v := (.s (.c (iC 0)))) rfl) ⟨⟨rfl, rfl⟩, trivial⟩ trivial rfl rfl ?_
  refine AOR.nil ?_
  refine AWR.seq ?_
  refine AWR.region ?_
  refine AOR.pure (LT.move (v := (.s (.c (.pv (.xs false (m.map (encLInt false))))))) rfl) ⟨rfl, trivial⟩ trivial rfl rfl ?_
  refine AOR.bind fun r1 hr1 => ?_
  refine AOR.step (@LT.callF Try.prog _ _ 188 _ _ [(.c (.pv (.xs false (m.map (encLInt false)))))] _ _ [] _ _ _ _ ((show Fw.Fn Try.prog 188 [(.c (.pv (.xs false (m.map (encLInt false)))))] [] (.s (.c (.loc 22 0 r1.length))) [(22, (.trow 37 23 (lensOf r1))), (23, (.pool 3 (rowsOf encInt r1)))] [] [22, 23] from Fw.Fn.ren [(0, 22), (1, 23)] (w_impl_copyLists m r1 hr1) rfl)) rfl cb188 (.cons (.c (.same rfl)) .nil) rfl rfl trivial) ⟨rfl, rfl, trivial⟩ trivial rfl rfl ?_
  refine AOR.pure (LT.assign (v := (.s (.c (.loc 22 0 r1.length)))) rfl) ⟨rfl, trivial⟩ trivial rfl rfl ?_
  refine AOR.nil ?_
  refine AWR.seq ?_
  refine AWR.region ?_
  refine AOR.step (LT.tbuildSlice (n := 24) (enc := encInt) [] ([] : List Int) rfl rfl und37 ti3 rfl rfl rfl rfl (by decide) (fun _ => rfl) rfl) trivial trivial rfl rfl ?_
  refine AOR.pure (LT.assign (v := (.s (.c (.loc 24 0 ([] : List Int).length)))) rfl) ⟨rfl, trivial⟩ trivial rfl rfl ?_
  refine AOR.nil ?_
  refine AWR.seq ?_
  refine AWR.ent (Ent.of (σ' := [(1, (.s (.c (iC columns)))), (7, (.s (.c (.loc 22 0 r1.length)))), (8, (.s (.c (.loc 24 0 ([] : List Int).length))))]) (m' := [(22, (.trow 37 23 (lensOf r1))), (23, (.pool 3 (rowsOf encInt r1))), (24, (.prow 3 (([] : List Int).map encInt)))]) ⟨rfl, rfl, rfl, trivial⟩ ⟨rfl, rfl, rfl, trivial⟩) ?_
  refine AWR.region ?_
  refine AOR.pure (LT.assign (v := (.s (.c (iC 1)))) rfl) ⟨⟨rfl, rfl⟩, trivial⟩ trivial rfl rfl ?_
  refine AOR.nil ?_
  refine AWR.seq ?_
  refine AWR.seq ?_
  refine AWR.region ?_
  refine AOR.pure (LT.assign (v := (.s (.c (iC 0)))) rfl) ⟨⟨rfl, rfl⟩, trivial⟩ trivial rfl rfl ?_
  refine AOR.nil ?_
  refine AWR.block ?_
  refine AWR.loop1 (id := 0) (m_impl_reduced_L9 columns) (fun s2 => ([(1, (.s (.c (iC columns)))), (7, (.s (.c (.loc 22 0 s2.2.1.length)))), (8, (.s (.c (.loc 24 0 s2.2.2.2.length)))), (9, (.s (.c (iC s2.2.2.1)))), (10, (.s (.c (iC s2.1))))], [(22, (.trow 37 23 (lensOf s2.2.1))), (23, (.pool 3 (rowsOf encInt s2.2.1))), (24, (.prow 3 (s2.2.2.2.map encInt)))])) (fun b151 => ([(7, (.s (.c (.loc 22 0 b151.2.1.length)))), (8, (.s (.c (.loc 24 0 b151.2.2.length)))), (9, (.s (.c (iC b151.1))))], [(22, (.trow 37 23 (lensOf b151.2.1))), (23, (.pool 3 (rowsOf encInt b151.2.1))), (24, (.prow 3 (b151.2.2.map encInt)))])) ?_ (Ent.of ⟨rfl, rfl, rfl, rfl, rfl, trivial⟩ ⟨rfl, rfl, rfl, trivial⟩) rfl (fun b151 _ => ?_)
  · intro s2
    unfold m_impl_reduced_L9
    refine AWR.seq ?_
    refine AWR.seq ?_
    refine AWR.joinK (fun j153 => ([(1, (.s (.c (iC columns)))), (7, (.s (.c (.loc 22 0 s2.2.1.length)))), (8, (.s (.c (.loc 24 0 s2.2.2.2.length)))), (9, (.s (.c (iC s2.2.2.1)))), (10, (.s (.c (iC s2.1)))), (29, (.s (.c (bC j153))))], [(22, (.trow 37 23 (lensOf s2.2.1))), (23, (.pool 3 (rowsOf encInt s2.2.1))), (24, (.prow 3 (s2.2.2.2.map encInt)))])) ?_ (fun j153 _ => ?_)
    · refine AWR.region ?_
      refine AOR.pure (LT.move (v := (.s (.c (iC s2.1)))) rfl) ⟨rfl, trivial⟩ trivial rfl rfl ?_
      refine AOR.pure (LT.move (v := (.s (.c (iC columns)))) rfl) ⟨rfl, trivial⟩ trivial rfl rfl ?_
      refine AOR.pure (LT.lss rfl) ⟨rfl, rfl, trivial⟩ trivial rfl rfl ?_
      refine AOR.pure (LT.move (v := (.s (.c (bC (decide (s2.1 < columns)))))) rfl) ⟨rfl, trivial⟩ trivial rfl rfl ?_
      refine AOR.split (fun hb154 => ?_) (fun hb154 => ?_)
      · refine AOR.pure (LT.move (v := (.s (.c (.loc 24 0 s2.2.2.2.length)))) rfl) ⟨rfl, trivial⟩ trivial ⟨_, rfl, .inl ⟨_, rfl, (by rw [hb154]; rfl)⟩⟩ rfl ?_
        refine AOR.pure (LT.lenLoc rfl und37) ⟨rfl, trivial⟩ trivial ⟨_, rfl, .inl ⟨_, rfl, (by rw [hb154]; rfl)⟩⟩ rfl ?_
        refine AOR.pure (LT.move (v := (.s (.c (.loc 22 0 s2.2.1.length)))) rfl) ⟨rfl, trivial⟩ trivial ⟨_, rfl, .inl ⟨_, rfl, (by rw [hb154]; rfl)⟩⟩ rfl ?_
        refine AOR.pure (LT.lenLoc rfl und31) ⟨rfl, trivial⟩ trivial ⟨_, rfl, .inl ⟨_, rfl, (by rw [hb154]; rfl)⟩⟩ rfl ?_
        refine AOR.pure (LT.lss rfl) ⟨rfl, rfl, trivial⟩ trivial ⟨_, rfl, .inl ⟨_, rfl, (by rw [hb154]; rfl)⟩⟩ rfl ?_
        refine AOR.pure (LT.pickT (v := (.s (.c (bC (decide ((s2.2.2.2.length : Int) < (s2.2.1.length : Int))))))) rfl hb154) ⟨rfl, rfl, trivial⟩ trivial rfl rfl ?_
        refine AOR.nil ?_
        refine AWR.nil ⟨rfl, Ent.of ⟨rfl, rfl, rfl, rfl, rfl, rfl, trivial⟩ ⟨rfl, rfl, rfl, trivial⟩⟩
      · refine AOR.skip ⟨_, rfl, .inl ⟨_, rfl, (by rw [hb154]; rfl)⟩⟩ rfl ?_
        refine AOR.skip ⟨_, rfl, .inl ⟨_, rfl, (by rw [hb154]; rfl)⟩⟩ rfl ?_
        refine AOR.skip ⟨_, rfl, .inl ⟨_, rfl, (by rw [hb154]; rfl)⟩⟩ rfl ?_
        refine AOR.skip ⟨_, rfl, .inl ⟨_, rfl, (by rw [hb154]; rfl)⟩⟩ rfl ?_
        refine AOR.skip ⟨_, rfl, .inl ⟨_, rfl, (by rw [hb154]; rfl)⟩⟩ rfl ?_
        refine AOR.pure (LT.pickF (v := (.s (.c (bC false)))) rfl hb154) ⟨rfl, ⟨rfl, rfl⟩, trivial⟩ trivial rfl rfl ?_
        refine AOR.nil ?_
        refine AWR.nil ⟨rfl, Ent.of ⟨rfl, rfl, rfl, rfl, rfl, rfl, trivial⟩ ⟨rfl, rfl, rfl, trivial⟩⟩
    · refine AWR.cond rfl (fun hc155 => ?_) (fun hc155 => ?_)
      · refine AWR.skip ?_
        refine AWR.seq ?_
        refine AWR.block ?_
        refine AWR.seq ?_
        refine AWR.region ?_
        refine AOR.pure (LT.move (v := (.s (.c (.loc 24 0 s2.2.2.2.length)))) rfl) ⟨rfl, trivial⟩ trivial rfl rfl ?_
        refine AOR.pure (LT.lenLoc rfl und37) ⟨rfl, trivial⟩ trivial rfl rfl ?_
        refine AOR.pure (LT.assign (v := (.s (.c (iC (s2.2.2.2.length : Int))))) rfl) ⟨rfl, trivial⟩ trivial rfl rfl ?_
        refine AOR.nil ?_
        refine AWR.seq ?_
        refine AWR.region ?_
        refine AOR.pure (LT.move (v := (.s (.c (iC (s2.2.2.2.length : Int))))) rfl) ⟨rfl, trivial⟩ trivial rfl rfl ?_
        refine AOR.pure (LT.assign (v := (.s (.c (iC (s2.2.2.2.length : Int))))) rfl) ⟨rfl, trivial⟩ trivial rfl rfl ?_
        refine AOR.nil ?_
        refine AWR.seq ?_
        refine AWR.block ?_
        refine AWR.loop1 (id := 2) (m_impl_reduced_L10 s2) (fun s156 => ([(1, (.s (.c (iC columns)))), (7, (.s (.c (.loc 22 0 s2.2.1.length)))), (8, (.s (.c (.loc 24 0 s2.2.2.2.length)))), (9, (.s (.c (iC s2.2.2.1)))), (10, (.s (.c (iC s2.1)))), (11, (.s (.c (iC (s2.2.2.2.length : Int))))), (12, (.s (.c (iC s156))))], [(22, (.trow 37 23 (lensOf s2.2.1))), (23, (.pool 3 (rowsOf encInt s2.2.1))), (24, (.prow 3 (s2.2.2.2.map encInt)))])) (fun b173 => ([(1, (.s (.c (iC columns)))), (7, (.s (.c (.loc 22 0 b173.2.2.2.2.1.length)))), (8, (.s (.c (.loc 24 0 b173.2.2.2.2.2.length)))), (9, (.s (.c (iC b173.1)))), (10, (.s (.c (iC b173.2.1)))), (11, (.s (.c (iC b173.2.2.1)))), (12, (.s (.c (iC b173.2.2.2.1))))], [(22, (.trow 37 23 (lensOf b173.2.2.2.2.1))), (23, (.pool 3 (rowsOf encInt b173.2.2.2.2.1))), (24, (.prow 3 (b173.2.2.2.2.2.map encInt)))])) ?_ (Ent.of ⟨rfl, rfl, rfl, rfl, rfl, rfl, rfl, trivial⟩ ⟨rfl, rfl, rfl, trivial⟩) rfl (fun b173 _ => ?_)
        · intro s156
          unfold m_impl_reduced_L10
          refine AWR.seq ?_
          refine AWR.seq ?_
          refine AWR.joinK (fun j177 => ([(1, (.s (.c (iC columns)))), (7, (.s (.c (.loc 22 0 s2.2.1.length)))), (8, (.s (.c (.loc 24 0 s2.2.2.2.length)))), (9, (.s (.c (iC s2.2.2.1)))), (10, (.s (.c (iC s2.1)))), (11, (.s (.c (iC (s2.2.2.2.length : Int))))), (12, (.s (.c (iC s156)))), (48, (.s (.c (bC j177))))], [(22, (.trow 37 23 (lensOf s2.2.1))), (23, (.pool 3 (rowsOf encInt s2.2.1))), (24, (.prow 3 (s2.2.2.2.map encInt)))])) ?_ (fun j177 _ => ?_)
          · refine AWR.region ?_
            refine AOR.pure (LT.move (v := (.s (.c (iC s156)))) rfl) ⟨rfl, trivial⟩ trivial rfl rfl ?_
            refine AOR.pure (LT.move (v := (.s (.c (.loc 22 0 s2.2.1.length)))) rfl) ⟨rfl, trivial⟩ trivial rfl rfl ?_
            refine AOR.pure (LT.lenLoc rfl und31) ⟨rfl, trivial⟩ trivial rfl rfl ?_
            refine AOR.pure (LT.lss rfl) ⟨rfl, rfl, trivial⟩ trivial rfl rfl ?_
            refine AOR.pure (LT.move (v := (.s (.c (bC (decide (s156 < (s2.2.1.length : Int))))))) rfl) ⟨rfl, trivial⟩ trivial rfl rfl ?_
            refine AOR.split (fun hb178 => ?_) (fun hb178 => ?_)
            · refine AOR.pure (LT.move (v := (.s (.c (.loc 22 0 s2.2.1.length)))) rfl) ⟨rfl, trivial⟩ trivial ⟨_, rfl, .inl ⟨_, rfl, (by rw [hb178]; rfl)⟩⟩ rfl ?_
              refine AOR.pure (LT.move (v := (.s (.c (iC s156)))) rfl) ⟨rfl, trivial⟩ trivial ⟨_, rfl, .inl ⟨_, rfl, (by rw [hb178]; rfl)⟩⟩ rfl ?_
              refine AOR.bind fun x179 hx179 => ?_
              refine AOR.pure (LT.xindex rfl rfl el31 hx179) ⟨rfl, rfl, trivial⟩ ⟨rfl, trivial⟩ ⟨_, rfl, .inl ⟨_, rfl, (by rw [hb178]; rfl)⟩⟩ rfl ?_
              refine AOR.pure (LT.xload rfl ag37 hx179 rfl) ⟨rfl, trivial⟩ ⟨rfl, trivial⟩ ⟨_, rfl, .inl ⟨_, rfl, (by rw [hb178]; rfl)⟩⟩ rfl ?_
              refine AOR.pure (LT.move (v := (.s (.c (iC s2.1)))) rfl) ⟨rfl, trivial⟩ trivial ⟨_, rfl, .inl ⟨_, rfl, (by rw [hb178]; rfl)⟩⟩ rfl ?_
              refine AOR.bind fun x180 hx180 => ?_
              refine AOR.pure (LT.tlindex rfl rfl el37 (idx_get hx179) hx180) ⟨rfl, rfl, trivial⟩ ⟨rfl, trivial⟩ ⟨_, rfl, .inl ⟨_, rfl, (by rw [hb178]; rfl)⟩⟩ rfl ?_
              refine AOR.pure (LT.tlload1 (enc := encInt) (j := 0) rfl ag3 (idx_get hx179) hx180 (by exact rfl) (by exact rfl)) ⟨rfl, trivial⟩ ⟨rfl, trivial⟩ ⟨_, rfl, .inl ⟨_, rfl, (by rw [hb178]; rfl)⟩⟩ rfl ?_
              refine AOR.pure (LT.eql rfl) ⟨rfl, ⟨rfl, rfl⟩, trivial⟩ trivial ⟨_, rfl, .inl ⟨_, rfl, (by rw [hb178]; rfl)⟩⟩ rfl ?_
              refine AOR.pure (LT.pickT (v := (.s (.c (bC (x180 == 0))))) rfl hb178) ⟨rfl, rfl, trivial⟩ trivial rfl rfl ?_
              refine AOR.nil ?_
              refine AWR.nil ⟨rfl, Ent.of ⟨rfl, rfl, rfl, rfl, rfl, rfl, rfl, rfl, trivial⟩ ⟨rfl, rfl, rfl, trivial⟩⟩
            · refine AOR.skip ⟨_, rfl, .inl ⟨_, rfl, (by rw [hb178]; rfl)⟩⟩ rfl ?_
              refine AOR.skip ⟨_, rfl, .inl ⟨_, rfl, (by rw [hb178]; rfl)⟩⟩ rfl ?_
              refine AOR.skip ⟨_, rfl, .inl ⟨_, rfl, (by rw [hb178]; rfl)⟩⟩ rfl ?_
              refine AOR.skip ⟨_, rfl, .inl ⟨_, rfl, (by rw [hb178]; rfl)⟩⟩ rfl ?_
              refine AOR.skip ⟨_, rfl, .inl ⟨_, rfl, (by rw [hb178]; rfl)⟩⟩ rfl ?_
              refine AOR.skip ⟨_, rfl, .inl ⟨_, rfl, (by rw [hb178]; rfl)⟩⟩ rfl ?_
              refine AOR.skip ⟨_, rfl, .inl ⟨_, rfl, (by rw [hb178]; rfl)⟩⟩ rfl ?_
              refine AOR.skip ⟨_, rfl, .inl ⟨_, rfl, (by rw [hb178]; rfl)⟩⟩ rfl ?_
              refine AOR.pure (LT.pickF (v := (.s (.c (bC false)))) rfl hb178) ⟨rfl, ⟨rfl, rfl⟩, trivial⟩ trivial rfl rfl ?_
              refine AOR.nil ?_
              refine AWR.nil ⟨rfl, Ent.of ⟨rfl, rfl, rfl, rfl, rfl, rfl, rfl, rfl, trivial⟩ ⟨rfl, rfl, rfl, trivial⟩⟩
          · refine AWR.cond rfl (fun hc181 => ?_) (fun hc181 => ?_)
            · refine AWR.skip ?_
              refine AWR.block ?_
              refine AWR.region ?_
              refine AOR.pure (LT.move (v := (.s (.c (iC s156)))) rfl) ⟨rfl, trivial⟩ trivial rfl rfl ?_
              refine AOR.pure (LT.add rfl) ⟨rfl, ⟨rfl, rfl⟩, trivial⟩ trivial rfl rfl ?_
              refine AOR.pure (LT.assign (v := (.s (.c (iC (w64 (s156 + 1)))))) rfl) ⟨rfl, trivial⟩ trivial rfl rfl ?_
              refine AOR.nil ?_
              refine AWR.blk ?_
              refine AWR.nil ⟨rfl, Ent.of ⟨rfl, rfl, rfl, rfl, rfl, rfl, rfl, trivial⟩ ⟨rfl, rfl, rfl, trivial⟩⟩
            · refine AWR.exit_end rfl ⟨rfl, Ent.of ⟨rfl, rfl, rfl, rfl, rfl, rfl, rfl, trivial⟩ ⟨rfl, rfl, rfl, trivial⟩⟩
        · refine AWR.seq ?_
          refine AWR.seq ?_
          refine AWR.region ?_
          refine AOR.pure (LT.move (v := (.s (.c (iC b173.2.2.2.1)))) rfl) ⟨rfl, trivial⟩ trivial rfl rfl ?_
          refine AOR.pure (LT.move (v := (.s (.c (.loc 22 0 b173.2.2.2.2.1.length)))) rfl) ⟨rfl, trivial⟩ trivial rfl rfl ?_
          refine AOR.pure (LT.lenLoc rfl und31) ⟨rfl, trivial⟩ trivial rfl rfl ?_
          refine AOR.pure (LT.eql rfl) ⟨rfl, rfl, trivial⟩ trivial rfl rfl ?_
          refine AOR.nil ?_
          refine AWR.cond rfl (fun hc182 => ?_) (fun hc182 => ?_)
          · refine AWR.exit rfl ?_
            refine AWR.region ?_
            refine AOR.pure (LT.move (v := (.s (.c (iC b173.2.1)))) rfl) ⟨rfl, trivial⟩ trivial rfl rfl ?_
            refine AOR.pure (LT.add rfl) ⟨rfl, ⟨rfl, rfl⟩, trivial⟩ trivial rfl rfl ?_
            refine AOR.pure (LT.assign (v := (.s (.c (iC (w64 (b173.2.1 + 1)))))) rfl) ⟨rfl, trivial⟩ trivial rfl rfl ?_
            refine AOR.nil ?_
            refine AWR.nil ⟨rfl, Ent.of ⟨rfl, rfl, rfl, rfl, rfl, trivial⟩ ⟨rfl, rfl, rfl, trivial⟩⟩
          · refine AWR.skip ?_
            refine AWR.seq ?_
            refine AWR.draw mixed ?_
            refine AOD.pure (LT.move (v := (.s (.c (.loc 22 0 b173.2.2.2.2.1.length)))) rfl) ⟨rfl, trivial⟩ trivial rfl rfl ?_
            refine AOD.pure (LT.move (v := (.s (.c (iC b173.2.2.1)))) rfl) ⟨rfl, trivial⟩ trivial rfl rfl ?_
            refine AOD.pure (LT.move (v := (.s (.c (.loc 22 0 b173.2.2.2.2.1.length)))) rfl) ⟨rfl, trivial⟩ trivial rfl rfl ?_
            refine AOD.pure (LT.move (v := (.s (.c (iC b173.2.2.2.1)))) rfl) ⟨rfl, trivial⟩ trivial rfl rfl ?_
            refine AOD.pure (LT.move (v := (.s (.c (.loc 22 0 b173.2.2.2.2.1.length)))) rfl) ⟨rfl, trivial⟩ trivial rfl rfl ?_
            refine AOD.pure (LT.move (v := (.s (.c (iC b173.2.2.2.1)))) rfl) ⟨rfl, trivial⟩ trivial rfl rfl ?_
            refine AOD.bind fun x183 hx183 => ?_
            refine AOD.pure (LT.xindex rfl rfl el31 hx183) ⟨rfl, rfl, trivial⟩ ⟨rfl, trivial⟩ rfl rfl ?_
            refine AOD.pure (LT.xload rfl ag37 hx183 rfl) ⟨rfl, trivial⟩ ⟨rfl, trivial⟩ rfl rfl ?_
            refine AOD.pure (LT.move (v := (.s (.c (.loc 22 0 b173.2.2.2.2.1.length)))) rfl) ⟨rfl, trivial⟩ trivial rfl rfl ?_
            refine AOD.pure (LT.move (v := (.s (.c (iC b173.2.2.1)))) rfl) ⟨rfl, trivial⟩ trivial rfl rfl ?_
            refine AOD.bind fun x184 hx184 => ?_
            refine AOD.pure (LT.xindex rfl rfl el31 hx184) ⟨rfl, rfl, trivial⟩ ⟨rfl, trivial⟩ rfl rfl ?_
            refine AOD.pure (LT.xload rfl ag37 hx184 rfl) ⟨rfl, trivial⟩ ⟨rfl, trivial⟩ rfl rfl ?_
            refine AOD.bind fun x185 hx185 => ?_
            refine AOD.pure (LT.xindex rfl rfl el31 hx185) ⟨rfl, rfl, trivial⟩ ⟨rfl, trivial⟩ rfl rfl ?_
            refine AOD.step (LT.xstore (e := 37) (p := 23) rfl rfl (infS inf37) sz37 hx185 rfl) ⟨rfl, rfl, trivial⟩ ⟨rfl, trivial⟩ rfl rfl ?_
            refine AOD.bind fun x186 hx186 => ?_
            refine AOD.pure (LT.xindexS rfl rfl el31 hx186) ⟨rfl, rfl, trivial⟩ ⟨rfl, trivial⟩ rfl rfl ?_
            refine AOD.step (LT.xstore2 (e := 37) (p := 23) rfl rfl (infS inf37) sz37 hx186 rfl) ⟨rfl, rfl, trivial⟩ ⟨rfl, trivial⟩ rfl rfl ?_
            refine AOD.nil (by kernel_rfl) ?_
            refine AWR.ent (Ent.tswap (enc := encInt) (n := 22) (p := 23) (rows := b173.2.2.2.2.1) (idx_get hx184) (idx_get hx183) rfl rfl rfl) ?_
            refine AWR.seq ?_
            refine AWR.region ?_
            refine AOR.pure (LT.move (v := (.s (.c (.loc 22 0 b173.2.2.2.2.1.length)))) rfl) ⟨rfl, trivial⟩ trivial rfl rfl ?_
            refine AOR.pure (LT.move (v := (.s (.c (iC b173.2.2.1)))) rfl) ⟨rfl, trivial⟩ trivial rfl rfl ?_
            refine AOR.bind fun x187 hx187 => ?_
            refine AOR.pure (LT.xindex (show b173.2.2.2.2.1.length = ((b173.2.2.2.2.1.set b173.2.2.1.toNat x183).set b173.2.2.2.1.toNat x184).length by simp only [List.length_set]) rfl el31 hx187) ⟨rfl, rfl, trivial⟩ ⟨rfl, trivial⟩ rfl rfl ?_
            refine AOR.pure (LT.xload rfl ag37 hx187 rfl) ⟨rfl, trivial⟩ ⟨rfl, trivial⟩ rfl rfl ?_
            refine AOR.pure (LT.move (v := (.s (.c (iC b173.2.1)))) rfl) ⟨rfl, trivial⟩ trivial rfl rfl ?_
            refine AOR.bind fun x188 hx188 => ?_
            refine AOR.pure (LT.tlindex rfl rfl el37 (idx_get hx187) hx188) ⟨rfl, rfl, trivial⟩ ⟨rfl, trivial⟩ rfl rfl ?_
            refine AOR.pure (LT.tlload1 (enc := encInt) (j := 0) rfl ag3 (idx_get hx187) hx188 (by exact rfl) (by exact rfl)) ⟨rfl, trivial⟩ ⟨rfl, trivial⟩ rfl rfl ?_
            refine AOR.pure (LT.assign (v := (.s (.c (iC x188)))) rfl) ⟨rfl, trivial⟩ trivial rfl rfl ?_
            refine AOR.nil ?_
            refine AWR.seq ?_
            refine AWR.seq ?_
            refine AWR.region ?_
            refine AOR.pure (LT.move (v := (.s (.c (.loc 22 0 b173.2.2.2.2.1.length)))) rfl) ⟨rfl, trivial⟩ trivial rfl rfl ?_
            refine AOR.pure (LT.lenLoc rfl und31) ⟨rfl, trivial⟩ trivial rfl rfl ?_
            refine AOR.pure (LT.move (v := (.s (.c (iC 0)))) rfl) ⟨⟨rfl, rfl⟩, trivial⟩ trivial rfl rfl ?_
            refine AOR.nil ?_
            refine AWR.block ?_
            refine AWR.loop1 (id := 4) (m_impl_reduced_L13 columns) (fun s189 => ([(1, (.s (.c (iC columns)))), (7, (.s (.c (.loc 22 0 s189.2.2.2.2.2.2.2.length)))), (8, (.s (.c (.loc 24 0 s189.2.2.2.2.2.2.1.length)))), (9, (.s (.c (iC s189.2.1)))), (10, (.s (.c (iC s189.2.2.1)))), (11, (.s (.c (iC s189.2.2.2.1)))), (13, (.s (.c (iC s189.2.2.2.2.1)))), (77, (.s (.c (iC s189.2.2.2.2.2.1)))), (78, (.s (.c (iC s189.1))))], [(22, (.trow 37 23 (lensOf s189.2.2.2.2.2.2.2))), (23, (.pool 3 (rowsOf encInt s189.2.2.2.2.2.2.2))), (24, (.prow 3 (s189.2.2.2.2.2.2.1.map encInt)))])) (fun b234 => ([(1, (.s (.c (iC columns)))), (7, (.s (.c (.loc 22 0 b234.2.2.1.length)))), (8, (.s (.c (.loc 24 0 b234.2.2.2.length)))), (10, (.s (.c (iC b234.1)))), (13, (.s (.c (iC b234.2.1))))], [(22, (.trow 37 23 (lensOf b234.2.2.1))), (23, (.pool 3 (rowsOf encInt b234.2.2.1))), (24, (.prow 3 (b234.2.2.2.map encInt)))])) ?_ (Ent.of ⟨rfl, (congrArg (fun l1 => (some (AV.s (.c (.loc 22 0 l1))) : Option AV)) (show b173.2.2.2.2.1.length = ((b173.2.2.2.2.1.set b173.2.2.1.toNat x183).set b173.2.2.2.1.toNat x184).length by simp only [List.length_set])), rfl, rfl, rfl, rfl, rfl, rfl, rfl, trivial⟩ ⟨rfl, rfl, rfl, trivial⟩) rfl (fun b234 _ => ?_)
            · intro s189
              unfold m_impl_reduced_L13
              refine AWR.seq ?_
              refine AWR.region ?_
              refine AOR.pure (LT.lss rfl) ⟨rfl, rfl, trivial⟩ trivial rfl rfl ?_
              refine AOR.nil ?_
              refine AWR.seq ?_
              refine AWR.cond rfl (fun hc235 => ?_) (fun hc235 => ?_)
              · refine AWR.skip ?_
                refine AWR.seq ?_
                refine AWR.block ?_
                refine AWR.seq ?_
                refine AWR.region ?_
                refine AOR.pure (LT.move (v := (.s (.c (iC s189.1)))) rfl) ⟨rfl, trivial⟩ trivial rfl rfl ?_
                refine AOR.pure (LT.assign (v := (.s (.c (iC s189.1)))) rfl) ⟨rfl, trivial⟩ trivial rfl rfl ?_
                refine AOR.nil ?_
                refine AWR.seq ?_
                refine AWR.seq ?_
                refine AWR.region ?_
                refine AOR.pure (LT.move (v := (.s (.c (iC s189.1)))) rfl) ⟨rfl, trivial⟩ trivial rfl rfl ?_
                refine AOR.pure (LT.move (v := (.s (.c (iC s189.2.2.2.1)))) rfl) ⟨rfl, trivial⟩ trivial rfl rfl ?_
                refine AOR.pure (LT.eql rfl) ⟨rfl, rfl, trivial⟩ trivial rfl rfl ?_
                refine AOR.nil ?_
                refine AWR.cond rfl (fun hc236 => ?_) (fun hc236 => ?_)
                · refine AWR.exit rfl ?_
                  refine AWR.region ?_
                  refine AOR.pure (LT.add rfl) ⟨rfl, ⟨rfl, rfl⟩, trivial⟩ trivial rfl rfl ?_
                  refine AOR.pure (LT.move (v := (.s (.c (iC (w64 (s189.1 + 1)))))) rfl) ⟨rfl, trivial⟩ trivial rfl rfl ?_
                  refine AOR.nil ?_
                  refine AWR.nil ⟨rfl, Ent.of ⟨rfl, rfl, rfl, rfl, rfl, rfl, rfl, rfl, rfl, trivial⟩ ⟨rfl, rfl, rfl, trivial⟩⟩
                · refine AWR.skip ?_
                  refine AWR.seq ?_
                  refine AWR.region ?_
                  refine AOR.pure (LT.move (v := (.s (.c (.loc 22 0 s189.2.2.2.2.2.2.2.length)))) rfl) ⟨rfl, trivial⟩ trivial rfl rfl ?_
                  refine AOR.pure (LT.move (v := (.s (.c (iC s189.1)))) rfl) ⟨rfl, trivial⟩ trivial rfl rfl ?_
                  refine AOR.bind fun x237 hx237 => ?_
                  refine AOR.pure (LT.xindex rfl rfl el31 hx237) ⟨rfl, rfl, trivial⟩ ⟨rfl, trivial⟩ rfl rfl ?_
                  refine AOR.pure (LT.xload rfl ag37 hx237 rfl) ⟨rfl, trivial⟩ ⟨rfl, trivial⟩ rfl rfl ?_
                  refine AOR.pure (LT.move (v := (.s (.c (iC s189.2.2.1)))) rfl) ⟨rfl, trivial⟩ trivial rfl rfl ?_
                  refine AOR.bind fun x238 hx238 => ?_
                  refine AOR.pure (LT.tlindex rfl rfl el37 (idx_get hx237) hx238) ⟨rfl, rfl, trivial⟩ ⟨rfl, trivial⟩ rfl rfl ?_
                  refine AOR.pure (LT.tlload1 (enc := encInt) (j := 0) rfl ag3 (idx_get hx237) hx238 (by exact rfl) (by exact rfl)) ⟨rfl, trivial⟩ ⟨rfl, trivial⟩ rfl rfl ?_
                  refine AOR.pure (LT.assign (v := (.s (.c (iC x238)))) rfl) ⟨rfl, trivial⟩ trivial rfl rfl ?_
                  refine AOR.nil ?_
                  refine AWR.seq ?_
                  refine AWR.ent (Ent.of (σ' := [(1, (.s (.c (iC columns)))), (7, (.s (.c (.loc 22 0 s189.2.2.2.2.2.2.2.length)))), (8, (.s (.c (.loc 24 0 s189.2.2.2.2.2.2.1.length)))), (9, (.s (.c (iC s189.2.1)))), (10, (.s (.c (iC s189.2.2.1)))), (11, (.s (.c (iC s189.2.2.2.1)))), (13, (.s (.c (iC s189.2.2.2.2.1)))), (14, (.s (.c (iC s189.1)))), (15, (.s (.c (iC x238)))), (77, (.s (.c (iC s189.2.2.2.2.2.1)))), (78, (.s (.c (iC s189.1))))]) (m' := [(22, (.trow 37 23 (lensOf s189.2.2.2.2.2.2.2))), (23, (.pool 3 (rowsOf encInt s189.2.2.2.2.2.2.2))), (24, (.prow 3 (s189.2.2.2.2.2.2.1.map encInt)))]) ⟨rfl, rfl, rfl, rfl, rfl, rfl, rfl, rfl, rfl, rfl, rfl, trivial⟩ ⟨rfl, rfl, rfl, trivial⟩) ?_
                  refine AWR.region ?_
                  refine AOR.pure (LT.move (v := (.s (.c (iC columns)))) rfl) ⟨rfl, trivial⟩ trivial rfl rfl ?_
                  refine AOR.pure (LT.move (v := (.s (.c (iC 0)))) rfl) ⟨⟨rfl, rfl⟩, trivial⟩ trivial rfl rfl ?_
                  refine AOR.nil ?_
                  refine AWR.block ?_
                  refine AWR.loop1 (id := 6) (m_impl_reduced_L14 columns s189 x238) (fun s239 => ([(1, (.s (.c (iC columns)))), (7, (.s (.c (.loc 22 0 s239.2.length)))), (8, (.s (.c (.loc 24 0 s189.2.2.2.2.2.2.1.length)))), (9, (.s (.c (iC s189.2.1)))), (10, (.s (.c (iC s189.2.2.1)))), (11, (.s (.c (iC s189.2.2.2.1)))), (13, (.s (.c (iC s189.2.2.2.2.1)))), (14, (.s (.c (iC s189.1)))), (15, (.s (.c (iC x238)))), (77, (.s (.c (iC s189.2.2.2.2.2.1)))), (78, (.s (.c (iC s189.1)))), (91, (.s (.c (iC columns)))), (92, (.s (.c (iC s239.1))))], [(22, (.trow 37 23 (lensOf s239.2))), (23, (.pool 3 (rowsOf encInt s239.2))), (24, (.prow 3 (s189.2.2.2.2.2.2.1.map encInt)))])) (fun b256 => ([(1, (.s (.c (iC columns)))), (7, (.s (.c (.loc 22 0 b256.2.2.2.2.2.2.1.length)))), (8, (.s (.c (.loc 24 0 b256.2.2.2.2.2.2.2.length)))), (9, (.s (.c (iC b256.1)))), (10, (.s (.c (iC b256.2.1)))), (11, (.s (.c (iC b256.2.2.1)))), (13, (.s (.c (iC b256.2.2.2.1)))), (77, (.s (.c (iC b256.2.2.2.2.1)))), (78, (.s (.c (iC b256.2.2.2.2.2.1))))], [(22, (.trow 37 23 (lensOf b256.2.2.2.2.2.2.1))), (23, (.pool 3 (rowsOf encInt b256.2.2.2.2.2.2.1))), (24, (.prow 3 (b256.2.2.2.2.2.2.2.map encInt)))])) ?_ (Ent.of ⟨rfl, rfl, rfl, rfl, rfl, rfl, rfl, rfl, rfl, rfl, rfl, rfl, rfl, trivial⟩ ⟨rfl, rfl, rfl, trivial⟩) rfl (fun b256 _ => ?_)
                  · intro s239
                    unfold m_impl_reduced_L14
                    refine AWR.seq ?_
                    refine AWR.region ?_
                    refine AOR.pure (LT.lss rfl) ⟨rfl, rfl, trivial⟩ trivial rfl rfl ?_
                    refine AOR.nil ?_
                    refine AWR.seq ?_
                    refine AWR.cond rfl (fun hc257 => ?_) (fun hc257 => ?_)
                    · refine AWR.skip ?_
                      refine AWR.seq ?_
                      refine AWR.block ?_
                      refine AWR.seq ?_
                      refine AWR.region ?_
                      refine AOR.pure (LT.move (v := (.s (.c (iC s239.1)))) rfl) ⟨rfl, trivial⟩ trivial rfl rfl ?_
                      refine AOR.pure (LT.assign (v := (.s (.c (iC s239.1)))) rfl) ⟨rfl, trivial⟩ trivial rfl rfl ?_
                      refine AOR.nil ?_
                      refine AWR.draw mixed ?_
                      refine AOD.pure (LT.move (v := (.s (.c (.loc 22 0 s239.2.length)))) rfl) ⟨rfl, trivial⟩ trivial rfl rfl ?_
                      refine AOD.pure (LT.move (v := (.s (.c (iC s189.1)))) rfl) ⟨rfl, trivial⟩ trivial rfl rfl ?_
                      refine AOD.bind fun x258 hx258 => ?_
                      refine AOD.pure (LT.xindex rfl rfl el31 hx258) ⟨rfl, rfl, trivial⟩ ⟨rfl, trivial⟩ rfl rfl ?_
                      refine AOD.pure (LT.xload rfl ag37 hx258 rfl) ⟨rfl, trivial⟩ ⟨rfl, trivial⟩ rfl rfl ?_
                      refine AOD.pure (LT.move (v := (.s (.c (iC s239.1)))) rfl) ⟨rfl, trivial⟩ trivial rfl rfl ?_
                      refine AOD.pure (LT.move (v := (.s (.c (iC s189.2.2.2.2.1)))) rfl) ⟨rfl, trivial⟩ trivial rfl rfl ?_
                      refine AOD.pure (LT.move (v := (.s (.c (.loc 22 0 s239.2.length)))) rfl) ⟨rfl, trivial⟩ trivial rfl rfl ?_
                      refine AOD.pure (LT.move (v := (.s (.c (iC s189.1)))) rfl) ⟨rfl, trivial⟩ trivial rfl rfl ?_
                      refine AOD.bind fun x259 hx259 => ?_
                      refine AOD.pure (LT.xindex rfl rfl el31 hx259) ⟨rfl, rfl, trivial⟩ ⟨rfl, trivial⟩ rfl rfl ?_
                      refine AOD.pure (LT.xload rfl ag37 hx259 rfl) ⟨rfl, trivial⟩ ⟨rfl, trivial⟩ rfl rfl ?_
                      refine AOD.pure (LT.move (v := (.s (.c (iC s239.1)))) rfl) ⟨rfl, trivial⟩ trivial rfl rfl ?_
                      refine AOD.bind fun x260 hx260 => ?_
                      refine AOD.pure (LT.tlindex rfl rfl el37 (idx_get hx259) hx260) ⟨rfl, rfl, trivial⟩ ⟨rfl, trivial⟩ rfl rfl ?_
                      refine AOD.pure (LT.tlload1 (enc := encInt) (j := 0) rfl ag3 (idx_get hx259) hx260 (by exact rfl) (by exact rfl)) ⟨rfl, trivial⟩ ⟨rfl, trivial⟩ rfl rfl ?_
                      refine AOD.pure (LT.mul rfl) ⟨rfl, rfl, trivial⟩ trivial rfl rfl ?_
                      refine AOD.pure (LT.move (v := (.s (.c (iC x238)))) rfl) ⟨rfl, trivial⟩ trivial rfl rfl ?_
                      refine AOD.pure (LT.move (v := (.s (.c (.loc 22 0 s239.2.length)))) rfl) ⟨rfl, trivial⟩ trivial rfl rfl ?_
                      refine AOD.pure (LT.move (v := (.s (.c (iC s189.2.2.2.1)))) rfl) ⟨rfl, trivial⟩ trivial rfl rfl ?_
                      refine AOD.bind fun x261 hx261 => ?_
                      refine AOD.pure (LT.xindex rfl rfl el31 hx261) ⟨rfl, rfl, trivial⟩ ⟨rfl, trivial⟩ rfl rfl ?_
                      refine AOD.pure (LT.xload rfl ag37 hx261 rfl) ⟨rfl, trivial⟩ ⟨rfl, trivial⟩ rfl rfl ?_
                      refine AOD.pure (LT.move (v := (.s (.c (iC s239.1)))) rfl) ⟨rfl, trivial⟩ trivial rfl rfl ?_
                      refine AOD.bind fun x262 hx262 => ?_
                      refine AOD.pure (LT.tlindex rfl rfl el37 (idx_get hx261) hx262) ⟨rfl, rfl, trivial⟩ ⟨rfl, trivial⟩ rfl rfl ?_
                      refine AOD.pure (LT.tlload1 (enc := encInt) (j := 0) rfl ag3 (idx_get hx261) hx262 (by exact rfl) (by exact rfl)) ⟨rfl, trivial⟩ ⟨rfl, trivial⟩ rfl rfl ?_
                      refine AOD.pure (LT.mul rfl) ⟨rfl, rfl, trivial⟩ trivial rfl rfl ?_
                      refine AOD.pure (LT.sub rfl) ⟨rfl, rfl, trivial⟩ trivial rfl rfl ?_
                      refine AOD.pure (LT.move (v := (.s (.c (iC s189.2.1)))) rfl) ⟨rfl, trivial⟩ trivial rfl rfl ?_
                      refine AOD.bind fun u263 hu263 => ?_
                      refine AOD.pure (LT.quo rfl (nz_ne hu263)) ⟨rfl, rfl, trivial⟩ trivial rfl rfl ?_
                      refine AOD.bind fun x264 hx264 => ?_
                      refine AOD.pure (LT.tlindex rfl rfl el37 (idx_get hx258) hx264) ⟨rfl, rfl, trivial⟩ ⟨rfl, trivial⟩ rfl rfl ?_
                      refine AOD.step (LT.tlstore (enc := encInt) (j := 0) (b' := (w64 (Int.tdiv (w64 ((w64 (s189.2.2.2.2.1 * x260)) - (w64 (x238 * x262)))) s189.2.1))) (v := (.int .i64 (w64 (Int.tdiv (w64 ((w64 (s189.2.2.2.2.1 * x260)) - (w64 (x238 * x262)))) s189.2.1)))) 25 rfl rfl (infS inf3) sz3 rfl (idx_get hx258) hx264 (by exact rfl) (by exact Nat.le_of_ble_eq_true rfl) (by exact rfl) rfl) ⟨rfl, rfl, trivial⟩ ⟨rfl, trivial⟩ rfl rfl ?_
                      refine AOD.nil (by kernel_rfl) ?_
                      refine AWR.ent (Ent.lens (n := 22) (lens_set (r' := (x258.set s239.1.toNat (w64 (Int.tdiv (w64 ((w64 (s189.2.2.2.2.1 * x260)) - (w64 (x238 * x262)))) s189.2.1)))) (idx_get hx258) (List.length_set ..)) rfl) ?_
                      refine AWR.blk ?_
                      refine AWR.ent (Ent.of (σ' := [(1, (.s (.c (iC columns)))), (7, (.s (.c (.loc 22 0 s239.2.length)))), (8, (.s (.c (.loc 24 0 s189.2.2.2.2.2.2.1.length)))), (9, (.s (.c (iC s189.2.1)))), (10, (.s (.c (iC s189.2.2.1)))), (11, (.s (.c (iC s189.2.2.2.1)))), (13, (.s (.c (iC s189.2.2.2.2.1)))), (14, (.s (.c (iC s189.1)))), (15, (.s (.c (iC x238)))), (77, (.s (.c (iC s189.2.2.2.2.2.1)))), (78, (.s (.c (iC s189.1)))), (91, (.s (.c (iC columns)))), (92, (.s (.c (iC s239.1))))]) (m' := [(22, (.trow 37 23 (lensOf (s239.2.set s189.1.toNat (x258.set s239.1.toNat (w64 (Int.tdiv (w64 ((w64 (s189.2.2.2.2.1 * x260)) - (w64 (x238 * x262)))) s189.2.1))))))), (23, (.pool 3 (rowsOf encInt (s239.2.set s189.1.toNat (x258.set s239.1.toNat (w64 (Int.tdiv (w64 ((w64 (s189.2.2.2.2.1 * x260)) - (w64 (x238 * x262)))) s189.2.1))))))), (24, (.prow 3 (s189.2.2.2.2.2.2.1.map encInt)))]) ⟨rfl, rfl, rfl, rfl, rfl, rfl, rfl, rfl, rfl, rfl, rfl, rfl, rfl, trivial⟩ ⟨rfl, rfl, rfl, trivial⟩) ?_
                      refine AWR.region ?_
                      refine AOR.pure (LT.add rfl) ⟨rfl, ⟨rfl, rfl⟩, trivial⟩ trivial rfl rfl ?_
                      refine AOR.pure (LT.move (v := (.s (.c (iC (w64 (s239.1 + 1)))))) rfl) ⟨rfl, trivial⟩ trivial rfl rfl ?_
                      refine AOR.nil ?_
                      refine AWR.nil ⟨rfl, Ent.of ⟨rfl, (congrArg (fun l1 => (some (AV.s (.c (.loc 22 0 l1))) : Option AV)) (show s239.2.length = (s239.2.set s189.1.toNat (x258.set s239.1.toNat (w64 (Int.tdiv (w64 ((w64 (s189.2.2.2.2.1 * x260)) - (w64 (x238 * x262)))) s189.2.1)))).length by simp only [List.length_set])), rfl, rfl, rfl, rfl, rfl, rfl, rfl, rfl, rfl, rfl, rfl, trivial⟩ ⟨rfl, rfl, rfl, trivial⟩⟩
                    · refine AWR.exit_end rfl ⟨rfl, Ent.of ⟨rfl, rfl, rfl, rfl, rfl, rfl, rfl, rfl, rfl, trivial⟩ ⟨rfl, rfl, rfl, trivial⟩⟩
                  · refine AWR.blk ?_
                    refine AWR.region ?_
                    refine AOR.pure (LT.add rfl) ⟨rfl, ⟨rfl, rfl⟩, trivial⟩ trivial rfl rfl ?_
                    refine AOR.pure (LT.move (v := (.s (.c (iC (w64 (b256.2.2.2.2.2.1 + 1)))))) rfl) ⟨rfl, trivial⟩ trivial rfl rfl ?_
                    refine AOR.nil ?_
                    refine AWR.nil ⟨rfl, Ent.of ⟨rfl, rfl, rfl, rfl, rfl, rfl, rfl, rfl, rfl, trivial⟩ ⟨rfl, rfl, rfl, trivial⟩⟩
              · refine AWR.exit_end rfl ⟨rfl, Ent.of ⟨rfl, rfl, rfl, rfl, rfl, trivial⟩ ⟨rfl, rfl, rfl, trivial⟩⟩
            · refine AWR.seq ?_
              refine AWR.region ?_
              refine AOR.pure (LT.move (v := (.s (.c (.loc 24 0 b234.2.2.2.length)))) rfl) ⟨rfl, trivial⟩ trivial rfl rfl ?_
              refine AOR.pure (LT.move (v := (.s (.c (iC b234.1)))) rfl) ⟨rfl, trivial⟩ trivial rfl rfl ?_
              refine AOR.step (LT.tbuildSlice (n := 26) (enc := encInt) [(0, .tmp 125, (.c (iC b234.1)))] ([b234.1] : List Int) rfl rfl und37 ti3 rfl rfl rfl rfl (by decide) (fun _ => rfl) rfl) ⟨rfl, trivial⟩ trivial rfl rfl ?_
              refine AOR.bind fun u265 hu265 => ?_
              refine AOR.step (LT.tappP (enc := encInt) rfl rfl rfl und37 ti3 rfl (by decide) (by decide) (fun _ => rfl) (lim_le hu265)) ⟨rfl, rfl, trivial⟩ ⟨rfl, rfl, trivial⟩ rfl rfl ?_
              refine AOR.pure (LT.assign (v := (.s (.c (.loc 24 0 (b234.2.2.2 ++ ([b234.1] : List Int)).length)))) rfl) ⟨rfl, trivial⟩ trivial rfl rfl ?_
              refine AOR.nil ?_
              refine AWR.region ?_
              refine AOR.pure (LT.move (v := (.s (.c (iC b234.2.1)))) rfl) ⟨rfl, trivial⟩ trivial rfl rfl ?_
              refine AOR.pure (LT.assign (v := (.s (.c (iC b234.2.1)))) rfl) ⟨rfl, trivial⟩ trivial rfl rfl ?_
              refine AOR.nil ?_
              refine AWR.blk ?_
              refine AWR.ent (Ent.of (σ' := [(1, (.s (.c (iC columns)))), (7, (.s (.c (.loc 22 0 b234.2.2.1.length)))), (8, (.s (.c (.loc 24 0 (b234.2.2.2 ++ ([b234.1] : List Int)).length)))), (9, (.s (.c (iC b234.2.1)))), (10, (.s (.c (iC b234.1))))]) (m' := [(22, (.trow 37 23 (lensOf b234.2.2.1))), (23, (.pool 3 (rowsOf encInt b234.2.2.1))), (24, (.prow 3 ((b234.2.2.2 ++ ([b234.1] : List Int)).map encInt)))]) ⟨rfl, rfl, rfl, rfl, rfl, trivial⟩ ⟨rfl, rfl, rfl, trivial⟩) ?_
              refine AWR.region ?_
              refine AOR.pure (LT.move (v := (.s (.c (iC b234.1)))) rfl) ⟨rfl, trivial⟩ trivial rfl rfl ?_
              refine AOR.pure (LT.add rfl) ⟨rfl, ⟨rfl, rfl⟩, trivial⟩ trivial rfl rfl ?_
              refine AOR.pure (LT.assign (v := (.s (.c (iC (w64 (b234.1 + 1)))))) rfl) ⟨rfl, trivial⟩ trivial rfl rfl ?_
              refine AOR.nil ?_
              refine AWR.nil ⟨rfl, Ent.of ⟨rfl, rfl, rfl, rfl, rfl, trivial⟩ ⟨rfl, rfl, rfl, trivial⟩⟩
      · refine AWR.exit_end rfl ⟨rfl, Ent.of ⟨rfl, rfl, rfl, trivial⟩ ⟨rfl, rfl, rfl, trivial⟩⟩
  · refine AWR.seq ?_
    refine AWR.region ?_
    refine AOR.pure (LT.move (v := (.s (.c (.loc 22 0 b151.2.1.length)))) rfl) ⟨rfl, trivial⟩ trivial rfl rfl ?_
    refine AOR.pure (LT.move (v := (.s (.c (.loc 24 0 b151.2.2.length)))) rfl) ⟨rfl, trivial⟩ trivial rfl rfl ?_
    refine AOR.pure (LT.move (v := (.s (.c (iC b151.1)))) rfl) ⟨rfl, trivial⟩ trivial rfl rfl ?_
    refine AOR.pure (LT.assign (v := (.s (.c (.loc 22 0 b151.2.1.length)))) rfl) ⟨rfl, trivial⟩ trivial rfl rfl ?_
    refine AOR.pure (LT.assign (v := (.s (.c (.loc 24 0 b151.2.2.length)))) rfl) ⟨rfl, trivial⟩ trivial rfl rfl ?_
    refine AOR.pure (LT.assign (v := (.s (.c (iC b151.1)))) rfl) ⟨rfl, trivial⟩ trivial rfl rfl ?_
    refine AOR.nil ?_
    refine AWR.ent (Ent.of (σ' := [(4, (.s (.c (.loc 22 0 b151.2.1.length)))), (5, (.s (.c (.loc 24 0 b151.2.2.length)))), (6, (.s (.c (iC b151.1))))]) (m' := [(22, (.trow 37 23 (lensOf b151.2.1))), (23, (.pool 3 (rowsOf encInt b151.2.1))), (24, (.prow 3 (b151.2.2.map encInt)))]) ⟨rfl, rfl, rfl, trivial⟩ ⟨rfl, rfl, rfl, trivial⟩) ?_
    refine AWR.ent (Ent.mv 22 0 rfl rfl) ?_
    refine AWR.ent (Ent.mv 24 2 rfl rfl) ?_
    refine AWR.ent (Ent.mv 23 1 rfl rfl) ?_
    refine AWR.ent (Ent.of (σ' := [(4, (.s (.c (.loc 0 0 b151.2.1.length)))), (5, (.s (.c (.loc 2 0 b151.2.2.length)))), (6, (.s (.c (iC b151.1))))]) (m' := [(0, (.trow 37 1 (lensOf b151.2.1))), (1, (.pool 3 (rowsOf encInt b151.2.1))), (2, (.prow 3 (b151.2.2.map encInt)))]) ⟨rfl, rfl, rfl, trivial⟩ ⟨rfl, rfl, rfl, trivial⟩) ?_
    refine AWR.ret (FPost.mk (.inr rfl) ⟨rfl, rfl, rfl, trivial⟩ ⟨rfl, rfl, rfl, trivial⟩ rfl ⟨trivial, trivial, PermP.sc, trivial⟩ ⟨trivial, PermO.poolR perm_encInt _, PermO.prow' perm_encInt, trivial⟩)
set_option maxRecDepth 100000 in
set_option maxHeartbeats 8000000 in
theorem w_laws_eqBar (a : TBar) (b : TBar) : ∀ t, m_laws_eqBar a b = some t → Fw.Fn Try.prog 173 [(.agg [(iC a.A), (iC a.B)]), (.agg [(iC b.A), (iC b.B)])] [] (.s (.c (bC t))) [] [] [] := by
  refine Fw.Fn.of (P := Try.prog) (X := []) (pn := []) (rs := (fun (t : Bool) => [(.c (bC t))])) (dfs := (fun (t : Bool) => [])) Try.func173 rfl Try.ntmps173 (Nat.le_of_ble_eq_true rfl) rfl ?_
  intro w0 U0 R0 g0
  unfold m_laws_eqBar
  refine AWR.seq ?_
  refine AWR.region ?_
  refine AOR.step (LT.box (n := 21) (v := (.agg [(iC a.A), (iC a.B)])) rfl sz79 (by exact rfl)) ⟨rfl, trivial⟩ trivial rfl rfl ?_
  refine AOR.step (LT.box (n := 22) (v := (.agg [(iC b.A), (iC b.B)])) rfl sz79 (by exact rfl)) ⟨rfl, trivial⟩ trivial rfl rfl ?_
  refine AOR.pure (LT.assign (v := (.s (.c (bC false)))) rfl) ⟨⟨rfl, rfl⟩, trivial⟩ trivial rfl rfl ?_
  refine AOR.nil ?_
  refine AWR.seq ?_
  refine AWR.seq ?_
  refine AWR.region ?_
  refine AOR.pure (LT.fieldPl rfl fo79_0) ⟨rfl, trivial⟩ trivial rfl rfl ?_
  refine AOR.pure (LT.bload1 (c := (iC a.A)) rfl ag3 (by exact rfl)) ⟨rfl, trivial⟩ ⟨rfl, trivial⟩ rfl rfl ?_
  refine AOR.pure (LT.fieldPl rfl fo79_0) ⟨rfl, trivial⟩ trivial rfl rfl ?_
  refine AOR.pure (LT.bload1 (c := (iC b.A)) rfl ag3 (by exact rfl)) ⟨rfl, trivial⟩ ⟨rfl, trivial⟩ rfl rfl ?_
  refine AOR.pure (LT.neq rfl) ⟨rfl, rfl, trivial⟩ trivial rfl rfl ?_
  refine AOR.nil ?_
  refine AWR.cond rfl (fun hc1 => ?_) (fun hc1 => ?_)
  · refine AWR.seq ?_
    refine AWR.ent (Ent.of (σ' := []) (m' := []) trivial trivial) ?_
    refine AWR.region ?_
    refine AOR.pure (LT.assign (v := (.s (.c (bC false)))) rfl) ⟨⟨rfl, rfl⟩, trivial⟩ trivial rfl rfl ?_
    refine AOR.nil ?_
    refine AWR.ret (FPost.mk (.inr rfl) ⟨rfl, trivial⟩ trivial rfl ⟨PermP.sc, trivial⟩ trivial)
  · refine AWR.skip ?_
    refine AWR.seq ?_
    refine AWR.seq ?_
    refine AWR.ent (Ent.of (σ' := [(2, (.s (.c (.pl 21 0)))), (3, (.s (.c (.pl 22 0))))]) (m' := [(21, (.row 79 [[(iC a.A), (iC a.B)]])), (22, (.row 79 [[(iC b.A), (iC b.B)]]))]) ⟨rfl, rfl, trivial⟩ ⟨rfl, rfl, trivial⟩) ?_
    refine AWR.region ?_
    refine AOR.pure (LT.fieldPl rfl fo79_1) ⟨rfl, trivial⟩ trivial rfl rfl ?_
    refine AOR.pure (LT.bload1 (c := (iC a.B)) rfl ag3 (by exact rfl)) ⟨rfl, trivial⟩ ⟨rfl, trivial⟩ rfl rfl ?_
    refine AOR.pure (LT.fieldPl rfl fo79_1) ⟨rfl, trivial⟩ trivial rfl rfl ?_
    refine AOR.pure (LT.bload1 (c := (iC b.B)) rfl ag3 (by exact rfl)) ⟨rfl, trivial⟩ ⟨rfl, trivial⟩ rfl rfl ?_
    refine AOR.pure (LT.neq rfl) ⟨rfl, rfl, trivial⟩ trivial rfl rfl ?_
    refine AOR.nil ?_
    refine AWR.cond rfl (fun hc2 => ?_) (fun hc2 => ?_)
    · refine AWR.seq ?_
      refine AWR.region ?_
      refine AOR.pure (LT.assign (v := (.s (.c (bC false)))) rfl) ⟨⟨rfl, rfl⟩, trivial⟩ trivial rfl rfl ?_
      refine AOR.nil ?_
      refine AWR.ret (FPost.mk (.inr rfl) ⟨rfl, trivial⟩ trivial rfl ⟨PermP.sc, trivial⟩ trivial)
    · refine AWR.skip ?_
      refine AWR.seq ?_
      refine AWR.region ?_
      refine AOR.pure (LT.assign (v := (.s (.c (bC true)))) rfl) ⟨⟨rfl, rfl⟩, trivial⟩ trivial rfl rfl ?_
      refine AOR.nil ?_
      refine AWR.ret (FPost.mk (.inr rfl) ⟨rfl, trivial⟩ trivial rfl ⟨PermP.sc, trivial⟩ trivial)
set_option maxRecDepth 100000 in
set_option maxHeartbeats 8000000 in
theorem w_laws_eqBarS (a : (List TBar)) (b : (List TBar)) : ∀ t, m_laws_eqBarS a b = some t → Fw.Fn Try.prog 122 [(.c (.pv (.xs false (a.map encTBar)))), (.c (.pv (.xs false (b.map encTBar))))] [] (.s (.c (bC t))) [] [] [] := by
  refine Fw.Fn.of (P := Try.prog) (X := []) (pn := []) (rs := (fun (t : Bool) => [(.c (bC t))])) (dfs := (fun (t : Bool) => [])) Try.func122 rfl Try.ntmps122 (Nat.le_of_ble_eq_true rfl) rfl ?_
  intro w0 U0 R0 g0
  unfold m_laws_eqBarS
  refine AWR.seq ?_
  refine AWR.region ?_
  refine AOR.pure (LT.assign (v := (.s (.c (bC false)))) rfl) ⟨⟨rfl, rfl⟩, trivial⟩ trivial rfl rfl ?_
  refine AOR.nil ?_
  refine AWR.seq ?_
  refine AWR.seq ?_
  refine AWR.region ?_
  refine AOR.pure (LT.move (v := (.s (.c (.pv (.xs false (a.map encTBar)))))) rfl) ⟨rfl, trivial⟩ trivial rfl rfl ?_
  refine AOR.pure (LT.tlenRO rfl und24) ⟨rfl, trivial⟩ trivial rfl rfl ?_
  refine AOR.pure (LT.move (v := (.s (.c (.pv (.xs false (b.map encTBar)))))) rfl) ⟨rfl, trivial⟩ trivial rfl rfl ?_
  refine AOR.pure (LT.tlenRO rfl und24) ⟨rfl, trivial⟩ trivial rfl rfl ?_
  refine AOR.pure (LT.neq rfl) ⟨rfl, rfl, trivial⟩ trivial rfl rfl ?_
  refine AOR.nil ?_
  refine AWR.cond rfl (fun hc1 => ?_) (fun hc1 => ?_)
  · refine AWR.seq ?_
    refine AWR.region ?_
    refine AOR.pure (LT.assign (v := (.s (.c (bC false)))) rfl) ⟨⟨rfl, rfl⟩, trivial⟩ trivial rfl rfl ?_
    refine AOR.nil ?_
    refine AWR.ret (FPost.mk (.inr rfl) ⟨rfl, trivial⟩ trivial rfl ⟨PermP.sc, trivial⟩ trivial)
  · refine AWR.skip ?_
    refine AWR.seq ?_
    refine AWR.seq ?_
    refine AWR.region ?_
    refine AOR.pure (LT.assign (v := (.s (.c (iC 0)))) rfl) ⟨⟨rfl, rfl⟩, trivial⟩ trivial rfl rfl ?_
    refine AOR.nil ?_
    refine AWR.block ?_
    refine AWR.loopR (id := 0) (m_laws_eqBarS_L1 a b) (fun s2 => ([(0, (.s (.c (.pv (.xs false (a.map encTBar)))))), (1, (.s (.c (.pv (.xs false (b.map encTBar)))))), (5, (.s (.c (iC s2))))], [])) (fun b13 => ([], [])) (FPost Try.prog Try.f122.results.toList [] [] (fun (t : Bool) => [(.c (bC t))]) (fun (t : Bool) => [])) ?_ (Ent.of ⟨rfl, rfl, rfl, trivial⟩ trivial) rfl (fun b13 _ => ?_) (by intro r t σ m ht hk; injection ht with ht; subst ht; exact hk)
    · intro s2
      unfold m_laws_eqBarS_L1
      refine AWR.seq ?_
      refine AWR.seq ?_
      refine AWR.region ?_
      refine AOR.pure (LT.move (v := (.s (.c (iC s2)))) rfl) ⟨rfl, trivial⟩ trivial rfl rfl ?_
      refine AOR.pure (LT.move (v := (.s (.c (.pv (.xs false (a.map encTBar)))))) rfl) ⟨rfl, trivial⟩ trivial rfl rfl ?_
      refine AOR.pure (LT.tlenRO rfl und24) ⟨rfl, trivial⟩ trivial rfl rfl ?_
      refine AOR.pure (LT.lss rfl) ⟨rfl, rfl, trivial⟩ trivial rfl rfl ?_
      refine AOR.nil ?_
      refine AWR.cond rfl (fun hc14 => ?_) (fun hc14 => ?_)
      · refine AWR.skip ?_
        refine AWR.seq ?_
        refine AWR.block ?_
        refine AWR.seq ?_
        refine AWR.draw mixed ?_
        refine AOD.pure (LT.move (v := (.s (.c (.pv (.xs false (a.map encTBar)))))) rfl) ⟨rfl, trivial⟩ trivial rfl rfl ?_
        refine AOD.pure (LT.move (v := (.s (.c (iC s2)))) rfl) ⟨rfl, trivial⟩ trivial rfl rfl ?_
        refine AOD.bind fun x15 hx15 => ?_
        refine AOD.pure (LT.tindexRO (enc := encTBar) rfl el24 hx15 sz79) ⟨rfl, rfl, trivial⟩ trivial rfl rfl ?_
        refine AOD.pure (LT.loadPxN rfl ag79 (infS inf79) (by exact sz79.symm)) ⟨rfl, trivial⟩ trivial rfl rfl ?_
        refine AOD.pure (LT.move (v := (.s (.c (.pv (.xs false (b.map encTBar)))))) rfl) ⟨rfl, trivial⟩ trivial rfl rfl ?_
        refine AOD.pure (LT.move (v := (.s (.c (iC s2)))) rfl) ⟨rfl, trivial⟩ trivial rfl rfl ?_
        refine AOD.bind fun x16 hx16 => ?_
        refine AOD.pure (LT.tindexRO (enc := encTBar) rfl el24 hx16 sz79) ⟨rfl, rfl, trivial⟩ trivial rfl rfl ?_
        refine AOD.pure (LT.loadPxN rfl ag79 (infS inf79) (by exact sz79.symm)) ⟨rfl, trivial⟩ trivial rfl rfl ?_
        refine AOD.bind fun r17 hr17 => ?_
        refine AOD.pure (@LT.callF Try.prog _ _ 173 _ _ [(.agg [(iC x15.A), (iC x15.B)]), (.agg [(iC x16.A), (iC x16.B)])] _ _ [] _ _ _ _ (w_laws_eqBar x15 x16 r17 hr17) rfl cb173 (.cons (.agg (.cons (.same rfl) (.cons (.same rfl) .nil))) (.cons (.agg (.cons (.same rfl) (.cons (.same rfl) .nil))) .nil)) rfl rfl trivial) ⟨rfl, rfl, rfl, trivial⟩ trivial rfl rfl ?_
        refine AOD.pure (LT.not rfl) ⟨rfl, trivial⟩ trivial rfl rfl ?_
        refine AOD.nil (by kernel_rfl) ?_
        refine AWR.cond rfl (fun hc18 => ?_) (fun hc18 => ?_)
        · refine AWR.seq ?_
          refine AWR.ent (Ent.of (σ' := []) (m' := []) trivial trivial) ?_
          refine AWR.region ?_
          refine AOR.pure (LT.assign (v := (.s (.c (bC false)))) rfl) ⟨⟨rfl, rfl⟩, trivial⟩ trivial rfl rfl ?_
          refine AOR.nil ?_
          refine AWR.ret ⟨rfl, FPost.mk (.inr rfl) ⟨rfl, trivial⟩ trivial rfl ⟨PermP.sc, trivial⟩ trivial⟩
        · refine AWR.skip ?_
          refine AWR.blk ?_
          refine AWR.ent (Ent.of (σ' := [(0, (.s (.c (.pv (.xs false (a.map encTBar)))))), (1, (.s (.c (.pv (.xs false (b.map encTBar)))))), (5, (.s (.c (iC s2))))]) (m' := []) ⟨rfl, rfl, rfl, trivial⟩ trivial) ?_
          refine AWR.region ?_
          refine AOR.pure (LT.move (v := (.s (.c (iC s2)))) rfl) ⟨rfl, trivial⟩ trivial rfl rfl ?_
          refine AOR.pure (LT.add rfl) ⟨rfl, ⟨rfl, rfl⟩, trivial⟩ trivial rfl rfl ?_
          refine AOR.pure (LT.assign (v := (.s (.c (iC (w64 (s2 + 1)))))) rfl) ⟨rfl, trivial⟩ trivial rfl rfl ?_
          refine AOR.nil ?_
          refine AWR.nil ⟨rfl, Ent.of ⟨rfl, rfl, rfl, trivial⟩ trivial⟩
      · refine AWR.exit_end rfl ⟨rfl, Ent.of trivial trivial⟩
    · refine AWR.seq ?_
      refine AWR.region ?_
      refine AOR.pure (LT.assign (v := (.s (.c (bC true)))) rfl) ⟨⟨rfl, rfl⟩, trivial⟩ trivial rfl rfl ?_
      refine AOR.nil ?_
      refine AWR.ret (FPost.mk (.inr rfl) ⟨rfl, trivial⟩ trivial rfl ⟨PermP.sc, trivial⟩ trivial)
set_option maxRecDepth 100000 in
set_option maxHeartbeats 8000000 in
theorem w_laws_eqGraph (a : TGraph) (b : TGraph) : ∀ t, m_laws_eqGraph a b = some t → Fw.Fn Try.prog 57 [(.agg [(iC a.Points), (.pv (.xs false (a.Bars.map encTBar)))]), (.agg [(iC b.Points), (.pv (.xs false (b.Bars.map encTBar)))])] [] (.s (.c (bC t))) [] [] [] := by
  refine Fw.Fn.of (P := Try.prog) (X := []) (pn := []) (rs := (fun (t : Bool) => [(.c (bC t))])) (dfs := (fun (t : Bool) => [])) Try.func57 rfl Try.ntmps57 (Nat.le_of_ble_eq_true rfl) rfl ?_
  intro w0 U0 R0 g0
  unfold m_laws_eqGraph
  refine AWR.seq ?_
  refine AWR.region ?_
  refine AOR.step (LT.box (n := 21) (v := (.agg [(iC a.Points), (.pv (.xs false (a.Bars.map encTBar)))])) rfl sz26 (by exact rfl)) ⟨rfl, trivial⟩ trivial rfl rfl ?_
  refine AOR.step (LT.box (n := 22) (v := (.agg [(iC b.Points), (.pv (.xs false (b.Bars.map encTBar)))])) rfl sz26 (by exact rfl)) ⟨rfl, trivial⟩ trivial rfl rfl ?_
  refine AOR.pure (LT.assign (v := (.s (.c (bC false)))) rfl) ⟨⟨rfl, rfl⟩, trivial⟩ trivial rfl rfl ?_
  refine AOR.nil ?_
  refine AWR.seq ?_
  refine AWR.seq ?_
  refine AWR.region ?_
  refine AOR.pure (LT.fieldPl rfl fo26_0) ⟨rfl, trivial⟩ trivial rfl rfl ?_
  refine AOR.pure (LT.bload1 (c := (iC a.Points)) rfl ag3 (by exact rfl)) ⟨rfl, trivial⟩ ⟨rfl, trivial⟩ rfl rfl ?_
  refine AOR.pure (LT.fieldPl rfl fo26_0) ⟨rfl, trivial⟩ trivial rfl rfl ?_
  refine AOR.pure (LT.bload1 (c := (iC b.Points)) rfl ag3 (by exact rfl)) ⟨rfl, trivial⟩ ⟨rfl, trivial⟩ rfl rfl ?_
  refine AOR.pure (LT.neq rfl) ⟨rfl, rfl, trivial⟩ trivial rfl rfl ?_
  refine AOR.nil ?_
  refine AWR.cond rfl (fun hc1 => ?_) (fun hc1 => ?_)
  · refine AWR.seq ?_
    refine AWR.ent (Ent.of (σ' := []) (m' := []) trivial trivial) ?_
    refine AWR.region ?_
    refine AOR.pure (LT.assign (v := (.s (.c (bC false)))) rfl) ⟨⟨rfl, rfl⟩, trivial⟩ trivial rfl rfl ?_
    refine AOR.nil ?_
    refine AWR.ret (FPost.mk (.inr rfl) ⟨rfl, trivial⟩ trivial rfl ⟨PermP.sc, trivial⟩ trivial)
  · refine AWR.skip ?_
    refine AWR.seq ?_
    refine AWR.seq ?_
    refine AWR.ent (Ent.of (σ' := [(2, (.s (.c (.pl 21 0)))), (3, (.s (.c (.pl 22 0))))]) (m' := [(21, (.row 26 [[(iC a.Points), (.pv (.xs false (a.Bars.map encTBar)))]])), (22, (.row 26 [[(iC b.Points), (.pv (.xs false (b.Bars.map encTBar)))]]))]) ⟨rfl, rfl, trivial⟩ ⟨rfl, rfl, trivial⟩) ?_
    refine AWR.region ?_
    refine AOR.pure (LT.fieldPl rfl fo26_1) ⟨rfl, trivial⟩ trivial rfl rfl ?_
    refine AOR.pure (LT.bload1 (c := (.pv (.xs false (a.Bars.map encTBar)))) rfl ag24 (by exact rfl)) ⟨rfl, trivial⟩ ⟨rfl, trivial⟩ rfl rfl ?_
    refine AOR.pure (LT.fieldPl rfl fo26_1) ⟨rfl, trivial⟩ trivial rfl rfl ?_
    refine AOR.pure (LT.bload1 (c := (.pv (.xs false (b.Bars.map encTBar)))) rfl ag24 (by exact rfl)) ⟨rfl, trivial⟩ ⟨rfl, trivial⟩ rfl rfl ?_
    refine AOR.bind fun r2 hr2 => ?_
    refine AOR.pure (@LT.callF Try.prog _ _ 122 _ _ [(.c (.pv (.xs false (a.Bars.map encTBar)))), (.c (.pv (.xs false (b.Bars.map encTBar))))] _ _ [] _ _ _ _ (w_laws_eqBarS a.Bars b.Bars r2 hr2) rfl cb122 (.cons (.c (.same rfl)) (.cons (.c (.same rfl)) .nil)) rfl rfl trivial) ⟨rfl, rfl, rfl, trivial⟩ trivial rfl rfl ?_
    refine AOR.pure (LT.not rfl) ⟨rfl, trivial⟩ trivial rfl rfl ?_
    refine AOR.nil ?_
    refine AWR.cond rfl (fun hc3 => ?_) (fun hc3 => ?_)
    · refine AWR.seq ?_
      refine AWR.region ?_
      refine AOR.pure (LT.assign (v := (.s (.c (bC false)))) rfl) ⟨⟨rfl, rfl⟩, trivial⟩ trivial rfl rfl ?_
      refine AOR.nil ?_
      refine AWR.ret (FPost.mk (.inr rfl) ⟨rfl, trivial⟩ trivial rfl ⟨PermP.sc, trivial⟩ trivial)
    · refine AWR.skip ?_
      refine AWR.seq ?_
      refine AWR.region ?_
      refine AOR.pure (LT.assign (v := (.s (.c (bC true)))) rfl) ⟨⟨rfl, rfl⟩, trivial⟩ trivial rfl rfl ?_
      refine AOR.nil ?_
      refine AWR.ret (FPost.mk (.inr rfl) ⟨rfl, trivial⟩ trivial rfl ⟨PermP.sc, trivial⟩ trivial)
set_option maxRecDepth 100000 in
set_option maxHeartbeats 8000000 in
theorem w_laws_eqPlace (a : TPlace) (b : TPlace) : ∀ t, m_laws_eqPlace a b = some t → Fw.Fn Try.prog 168 [(.agg [(iC a.X), (iC a.Y)]), (.agg [(iC b.X), (iC b.Y)])] [] (.s (.c (bC t))) [] [] [] := by
  refine Fw.Fn.of (P := Try.prog) (X := []) (pn := []) (rs := (fun (t : Bool) => [(.c (bC t))])) (dfs := (fun (t : Bool) => [])) Try.func168 rfl Try.ntmps168 (Nat.le_of_ble_eq_true rfl) rfl ?_
  intro w0 U0 R0 g0
  unfold m_laws_eqPlace
  refine AWR.seq ?_
  refine AWR.region ?_
  refine AOR.step (LT.box (n := 21) (v := (.agg [(iC a.X), (iC a.Y)])) rfl sz95 (by exact rfl)) ⟨rfl, trivial⟩ trivial rfl rfl ?_
  refine AOR.step (LT.box (n := 22) (v := (.agg [(iC b.X), (iC b.Y)])) rfl sz95 (by exact rfl)) ⟨rfl, trivial⟩ trivial rfl rfl ?_
  refine AOR.pure (LT.assign (v := (.s (.c (bC false)))) rfl) ⟨⟨rfl, rfl⟩, trivial⟩ trivial rfl rfl ?_
  refine AOR.nil ?_
  refine AWR.seq ?_
  refine AWR.seq ?_
  refine AWR.region ?_
  refine AOR.pure (LT.fieldPl rfl fo95_0) ⟨rfl, trivial⟩ trivial rfl rfl ?_
  refine AOR.pure (LT.bload1 (c := (iC a.X)) rfl ag3 (by exact rfl)) ⟨rfl, trivial⟩ ⟨rfl, trivial⟩ rfl rfl ?_
  refine AOR.pure (LT.fieldPl rfl fo95_0) ⟨rfl, trivial⟩ trivial rfl rfl ?_
  refine AOR.pure (LT.bload1 (c := (iC b.X)) rfl ag3 (by exact rfl)) ⟨rfl, trivial⟩ ⟨rfl, trivial⟩ rfl rfl ?_
  refine AOR.pure (LT.neq rfl) ⟨rfl, rfl, trivial⟩ trivial rfl rfl ?_
  refine AOR.nil ?_
  refine AWR.cond rfl (fun hc1 => ?_) (fun hc1 => ?_)
  · refine AWR.seq ?_
    refine AWR.ent (Ent.of (σ' := []) (m' := []) trivial trivial) ?_
    refine AWR.region ?_
    refine AOR.pure (LT.assign (v := (.s (.c (bC false)))) rfl) ⟨⟨rfl, rfl⟩, trivial⟩ trivial rfl rfl ?_
    refine AOR.nil ?_
    refine AWR.ret (FPost.mk (.inr rfl) ⟨rfl, trivial⟩ trivial rfl ⟨PermP.sc, trivial⟩ trivial)
  · refine AWR.skip ?_
    refine AWR.seq ?_
    refine AWR.seq ?_
    refine AWR.ent (Ent.of (σ' := [(2, (.s (.c (.pl 21 0)))), (3, (.s (.c (.pl 22 0))))]) (m' := [(21, (.row 95 [[(iC a.X), (iC a.Y)]])), (22, (.row 95 [[(iC b.X), (iC b.Y)]]))]) ⟨rfl, rfl, trivial⟩ ⟨rfl, rfl, trivial⟩) ?_
    refine AWR.region ?_
    refine AOR.pure (LT.fieldPl rfl fo95_1) ⟨rfl, trivial⟩ trivial rfl rfl ?_
    refine AOR.pure (LT.bload1 (c := (iC a.Y)) rfl ag3 (by exact rfl)) ⟨rfl, trivial⟩ ⟨rfl, trivial⟩ rfl rfl ?_
    refine AOR.pure (LT.fieldPl rfl fo95_1) ⟨rfl, trivial⟩ trivial rfl rfl ?_
    refine AOR.pure (LT.bload1 (c := (iC b.Y)) rfl ag3 (by exact rfl)) ⟨rfl, trivial⟩ ⟨rfl, trivial⟩ rfl rfl ?_
    refine AOR.pure (LT.neq rfl) ⟨rfl, rfl, trivial⟩ trivial rfl rfl ?_
    refine AOR.nil ?_
    refine AWR.cond rfl (fun hc2 => ?_) (fun hc2 => ?_)
    · refine AWR.seq ?_
      refine AWR.region ?_
      refine AOR.pure (LT.assign (v := (.s (.c (bC false)))) rfl) ⟨⟨rfl, rfl⟩, trivial⟩ trivial rfl rfl ?_
      refine AOR.nil ?_
      refine AWR.ret (FPost.mk (.inr rfl) ⟨rfl, trivial⟩ trivial rfl ⟨PermP.sc, trivial⟩ trivial)
    · refine AWR.skip ?_
      refine AWR.seq ?_
      refine AWR.region ?_
      refine AOR.pure (LT.assign (v := (.s (.c (bC true)))) rfl) ⟨⟨rfl, rfl⟩, trivial⟩ trivial rfl rfl ?_
      refine AOR.nil ?_
      refine AWR.ret (FPost.mk (.inr rfl) ⟨rfl, trivial⟩ trivial rfl ⟨PermP.sc, trivial⟩ trivial)
end Go.Proofs.Ytoeigmhhmadmbaa
end
section
set_option linter.unusedVariables false
set_option linter.unusedSimpArgs false
set_option linter.unnecessarySimpa false
open Go Go.Fw
namespace Go.Proofs.Ytoeigmhhmadmbaa
set_option maxRecDepth 100000 in
set_option maxHeartbeats 8000000 in
theorem w_laws_eqPlaceS (a : (List TPlace)) (b : (List TPlace)) : ∀ t, m_laws_eqPlaceS a b = some t → Fw.Fn Try.prog 111 [(.c (.pv (.xs false (a.map encTPlace)))), (.c (.pv (.xs false (b.map encTPlace))))] [] (.s (.c (bC t))) [] [] [] := by
  refine Fw.Fn.of (P := Try.prog) (X := []) (pn := []) (rs := (fun (t : Bool) => [(.c (bC t))])) (dfs := (fun (t : Bool) => [])) Try.func111 rfl Try.ntmps111 (Nat.le_of_ble_eq_true rfl) rfl ?_
  intro w0 U0 R0 g0
  unfold m_laws_eqPlaceS
  refine AWR.seq ?_
  refine AWR.region ?_
  refine AOR.pure (LT.assign (v := (.s (.c (bC false)))) rfl) ⟨⟨rfl, rfl⟩, trivial⟩ trivial rfl rfl ?_
  refine AOR.nil ?_
  refine AWR.seq ?_
  refine AWR.seq ?_
  refine AWR.region ?_
  refine AOR.pure (LT.move (v := (.s (.c (.pv (.xs false (a.map encTPlace)))))) rfl) ⟨rfl, trivial⟩ trivial rfl rfl ?_
  refine AOR.pure (LT.tlenRO rfl und27) ⟨rfl, trivial⟩ trivial rfl rfl ?_
  refine AOR.pure (LT.move (v := (.s (.c (.pv (.xs false (b.map encTPlace)))))) rfl) ⟨rfl, trivial⟩ trivial rfl rfl ?_
  refine AOR.pure (LT.tlenRO rfl und27) ⟨rfl, trivial⟩ trivial rfl rfl ?_
  refine AOR.pure (LT.neq rfl) ⟨rfl, rfl, trivial⟩ trivial rfl rfl ?_
  refine AOR.nil ?_
  refine AWR.cond rfl (fun hc1 => ?_) (fun hc1 => ?_)
  · refine AWR.seq ?_
    refine AWR.region ?_
    refine AOR.pure (LT.assign (v := (.s (.c (bC false)))) rfl) ⟨⟨rfl, rfl⟩, trivial⟩ trivial rfl rfl ?_
    refine AOR.nil ?_
    refine AWR.ret (FPost.mk (.inr rfl) ⟨rfl, trivial⟩ trivial rfl ⟨PermP.sc, trivial⟩ trivial)
  · refine AWR.skip ?_
    refine AWR.seq ?_
    refine AWR.seq ?_
    refine AWR.region ?_
    refine AOR.pure (LT.assign (v := (.s (.c (iC 0)))) rfl) ⟨⟨rfl, rfl⟩, trivial⟩ trivial rfl rfl ?_
    refine AOR.nil ?_
    refine AWR.block ?_
    refine AWR.loopR (id := 0) (m_laws_eqPlaceS_L1 a b) (fun s2 => ([(0, (.s (.c (.pv (.xs false (a.map encTPlace)))))), (1, (.s (.c (.pv (.xs false (b.map encTPlace)))))), (5, (.s (.c (iC s2))))], [])) (fun b13 => ([], [])) (FPost Try.prog Try.f111.results.toList [] [] (fun (t : Bool) => [(.c (bC t))]) (fun (t : Bool) => [])) ?_ (Ent.of ⟨rfl, rfl, rfl, trivial⟩ trivial) rfl (fun b13 _ => ?_) (by intro r t σ m ht hk; injection ht with ht; subst ht; exact hk)
    · intro s2
      unfold m_laws_eqPlaceS_L1
      refine AWR.seq ?_
      refine AWR.seq ?_
      refine AWR.region ?_
      refine AOR.pure (LT.move (v := (.s (.c (iC s2)))) rfl) ⟨rfl, trivial⟩ trivial rfl rfl ?_
      refine AOR.pure (LT.move (v := (.s (.c (.pv (.xs false (a.map encTPlace)))))) rfl) ⟨rfl, trivial⟩ trivial rfl rfl ?_
      refine AOR.pure (LT.tlenRO rfl und27) ⟨rfl, trivial⟩ trivial rfl rfl ?_
      refine AOR.pure (LT.lss rfl) ⟨rfl, rfl, trivial⟩ trivial rfl rfl ?_
      refine AOR.nil ?_
      refine AWR.cond rfl (fun hc14 => ?_) (fun hc14 => ?_)
      · refine AWR.skip ?_
        refine AWR.seq ?_
        refine AWR.block ?_
        refine AWR.seq ?_
        refine AWR.draw mixed ?_
        refine AOD.pure (LT.move (v := (.s (.c (.pv (.xs false (a.map encTPlace)))))) rfl) ⟨rfl, trivial⟩ trivial rfl rfl ?_
        refine AOD.pure (LT.move (v := (.s (.c (iC s2)))) rfl) ⟨rfl, trivial⟩ trivial rfl rfl ?_
        refine AOD.bind fun x15 hx15 => ?_
        refine AOD.pure (LT.tindexRO (enc := encTPlace) rfl el27 hx15 sz95) ⟨rfl, rfl, trivial⟩ trivial rfl rfl ?_
        refine AOD.pure (LT.loadPxN rfl ag95 (infS inf95) (by exact sz95.symm)) ⟨rfl, trivial⟩ trivial rfl rfl ?_
        refine AOD.pure (LT.move (v := (.s (.c (.pv (.xs false (b.map encTPlace)))))) rfl) ⟨rfl, trivial⟩ trivial rfl rfl ?_
        refine AOD.pure (LT.move (v := (.s (.c (iC s2)))) rfl) ⟨rfl, trivial⟩ trivial rfl rfl ?_
        refine AOD.bind fun x16 hx16 => ?_
        refine AOD.pure (LT.tindexRO (enc := encTPlace) rfl el27 hx16 sz95) ⟨rfl, rfl, trivial⟩ trivial rfl rfl ?_
        refine AOD.pure (LT.loadPxN rfl ag95 (infS inf95) (by exact sz95.symm)) ⟨rfl, trivial⟩ trivial rfl rfl ?_
        refine AOD.bind fun r17 hr17 => ?_
        refine AOD.pure (@LT.callF Try.prog _ _ 168 _ _ [(.agg [(iC x15.X), (iC x15.Y)]), (.agg [(iC x16.X), (iC x16.Y)])] _ _ [] _ _ _ _ (w_laws_eqPlace x15 x16 r17 hr17) rfl cb168 (.cons (.agg (.cons (.same rfl) (.cons (.same rfl) .nil))) (.cons (.agg (.cons (.same rfl) (.cons (.same rfl) .nil))) .nil)) rfl rfl trivial) ⟨rfl, rfl, rfl, trivial⟩ trivial rfl rfl ?_
        refine AOD.pure (LT.not rfl) ⟨rfl, trivial⟩ trivial rfl rfl ?_
        refine AOD.nil (by kernel_rfl) ?_
        refine AWR.cond rfl (fun hc18 => ?_) (fun hc18 => ?_)
        · refine AWR.seq ?_
          refine AWR.ent (Ent.of (σ' := []) (m' := []) trivial trivial) ?_
          refine AWR.region ?_
          refine AOR.pure (LT.assign (v := (.s (.c (bC false)))) rfl) ⟨⟨rfl, rfl⟩, trivial⟩ trivial rfl rfl ?_
          refine AOR.nil ?_
          refine AWR.ret ⟨rfl, FPost.mk (.inr rfl) ⟨rfl, trivial⟩ trivial rfl ⟨PermP.sc, trivial⟩ trivial⟩
        · refine AWR.skip ?_
          refine AWR.blk ?_
          refine AWR.ent (Ent.of (σ' := [(0, (.s (.c (.pv (.xs false (a.map encTPlace)))))), (1, (.s (.c (.pv (.xs false (b.map encTPlace)))))), (5, (.s (.c (iC s2))))]) (m' := []) ⟨rfl, rfl, rfl, trivial⟩ trivial) ?_
          refine AWR.region ?_
          refine AOR.pure (LT.move (v := (.s (.c (iC s2)))) rfl) ⟨rfl, trivial⟩ trivial rfl rfl ?_
          refine AOR.pure (LT.add rfl) ⟨rfl, ⟨rfl, rfl⟩, trivial⟩ trivial rfl rfl ?_
          refine AOR.pure (LT.assign (v := (.s (.c (iC (w64 (s2 + 1)))))) rfl) ⟨rfl, trivial⟩ trivial rfl rfl ?_
          refine AOR.nil ?_
          refine AWR.nil ⟨rfl, Ent.of ⟨rfl, rfl, rfl, trivial⟩ trivial⟩
      · refine AWR.exit_end rfl ⟨rfl, Ent.of trivial trivial⟩
    · refine AWR.seq ?_
      refine AWR.region ?_
      refine AOR.pure (LT.assign (v := (.s (.c (bC true)))) rfl) ⟨⟨rfl, rfl⟩, trivial⟩ trivial rfl rfl ?_
      refine AOR.nil ?_
      refine AWR.ret (FPost.mk (.inr rfl) ⟨rfl, trivial⟩ trivial rfl ⟨PermP.sc, trivial⟩ trivial)
set_option maxRecDepth 100000 in
set_option maxHeartbeats 8000000 in
theorem w_laws_eqFramework (a : TFramework) (b : TFramework) : ∀ t, m_laws_eqFramework a b = some t → Fw.Fn Try.prog 45 [(.agg [(iC a.Graph.Points), (.pv (.xs false (a.Graph.Bars.map encTBar))), (.pv (.xs false (a.Places.map encTPlace)))]), (.agg [(iC b.Graph.Points), (.pv (.xs false (b.Graph.Bars.map encTBar))), (.pv (.xs false (b.Places.map encTPlace)))])] [] (.s (.c (bC t))) [] [] [] := by
  refine Fw.Fn.of (P := Try.prog) (X := []) (pn := []) (rs := (fun (t : Bool) => [(.c (bC t))])) (dfs := (fun (t : Bool) => [])) Try.func45 rfl Try.ntmps45 (Nat.le_of_ble_eq_true rfl) rfl ?_
  intro w0 U0 R0 g0
  unfold m_laws_eqFramework
  refine AWR.seq ?_
  refine AWR.region ?_
  refine AOR.step (LT.box (n := 21) (v := (.agg [(iC a.Graph.Points), (.pv (.xs false (a.Graph.Bars.map encTBar))), (.pv (.xs false (a.Places.map encTPlace)))])) rfl sz29 (by exact rfl)) ⟨rfl, trivial⟩ trivial rfl rfl ?_
  refine AOR.step (LT.box (n := 22) (v := (.agg [(iC b.Graph.Points), (.pv (.xs false (b.Graph.Bars.map encTBar))), (.pv (.xs false (b.Places.map encTPlace)))])) rfl sz29 (by exact rfl)) ⟨rfl, trivial⟩ trivial rfl rfl ?_
  refine AOR.pure (LT.assign (v := (.s (.c (bC false)))) rfl) ⟨⟨rfl, rfl⟩, trivial⟩ trivial rfl rfl ?_
  refine AOR.nil ?_
  refine AWR.seq ?_
  refine AWR.seq ?_
  refine AWR.region ?_
  refine AOR.pure (LT.fieldPl rfl fo29_0) ⟨rfl, trivial⟩ trivial rfl rfl ?_
  refine AOR.pure (LT.bloadN (out := [(iC a.Graph.Points), (.pv (.xs false (a.Graph.Bars.map encTBar)))]) rfl ag26 (infS inf26) sz26 (by exact rfl) (by exact rfl)) ⟨rfl, trivial⟩ ⟨rfl, trivial⟩ rfl rfl ?_
  refine AOR.pure (LT.fieldPl rfl fo29_0) ⟨rfl, trivial⟩ trivial rfl rfl ?_
  refine AOR.pure (LT.bloadN (out := [(iC b.Graph.Points), (.pv (.xs false (b.Graph.Bars.map encTBar)))]) rfl ag26 (infS inf26) sz26 (by exact rfl) (by exact rfl)) ⟨rfl, trivial⟩ ⟨rfl, trivial⟩ rfl rfl ?_
  refine AOR.bind fun r1 hr1 => ?_
  refine AOR.pure (@LT.callF Try.prog _ _ 57 _ _ [(.agg [(iC a.Graph.Points), (.pv (.xs false (a.Graph.Bars.map encTBar)))]), (.agg [(iC b.Graph.Points), (.pv (.xs false (b.Graph.Bars.map encTBar)))])] _ _ [] _ _ _ _ (w_laws_eqGraph a.Graph b.Graph r1 hr1) rfl cb57 (.cons (.agg (.cons (.same rfl) (.cons (.same rfl) .nil))) (.cons (.agg (.cons (.same rfl) (.cons (.same rfl) .nil))) .nil)) rfl rfl trivial) ⟨rfl, rfl, rfl, trivial⟩ trivial rfl rfl ?_
  refine AOR.pure (LT.not rfl) ⟨rfl, trivial⟩ trivial rfl rfl ?_
  refine AOR.nil ?_
  refine AWR.cond rfl (fun hc2 => ?_) (fun hc2 => ?_)
  · refine AWR.seq ?_
    refine AWR.ent (Ent.of (σ' := []) (m' := []) trivial trivial) ?_
    refine AWR.region ?_
    refine AOR.pure (LT.assign (v := (.s (.c (bC false)))) rfl) ⟨⟨rfl, rfl⟩, trivial⟩ trivial rfl rfl ?_
    refine AOR.nil ?_
    refine AWR.ret (FPost.mk (.inr rfl) ⟨rfl, trivial⟩ trivial rfl ⟨PermP.sc, trivial⟩ trivial)
  · refine AWR.skip ?_
    refine AWR.seq ?_
    refine AWR.seq ?_
    refine AWR.ent (Ent.of (σ' := [(2, (.s (.c (.pl 21 0)))), (3, (.s (.c (.pl 22 0))))]) (m' := [(21, (.row 29 [[(iC a.Graph.Points), (.pv (.xs false (a.Graph.Bars.map encTBar))), (.pv (.xs false (a.Places.map encTPlace)))]])), (22, (.row 29 [[(iC b.Graph.Points), (.pv (.xs false (b.Graph.Bars.map encTBar))), (.pv (.xs false (b.Places.map encTPlace)))]]))]) ⟨rfl, rfl, trivial⟩ ⟨rfl, rfl, trivial⟩) ?_
    refine AWR.region ?_
    refine AOR.pure (LT.fieldPl rfl fo29_1) ⟨rfl, trivial⟩ trivial rfl rfl ?_
    refine AOR.pure (LT.bload1 (c := (.pv (.xs false (a.Places.map encTPlace)))) rfl ag27 (by exact rfl)) ⟨rfl, trivial⟩ ⟨rfl, trivial⟩ rfl rfl ?_
    refine AOR.pure (LT.fieldPl rfl fo29_1) ⟨rfl, trivial⟩ trivial rfl rfl ?_
    refine AOR.pure (LT.bload1 (c := (.pv (.xs false (b.Places.map encTPlace)))) rfl ag27 (by exact rfl)) ⟨rfl, trivial⟩ ⟨rfl, trivial⟩ rfl rfl ?_
    refine AOR.bind fun r3 hr3 => ?_
    refine AOR.pure (@LT.callF Try.prog _ _ 111 _ _ [(.c (.pv (.xs false (a.Places.map encTPlace)))), (.c (.pv (.xs false (b.Places.map encTPlace))))] _ _ [] _ _ _ _ (w_laws_eqPlaceS a.Places b.Places r3 hr3) rfl cb111 (.cons (.c (.same rfl)) (.cons (.c (.same rfl)) .nil)) rfl rfl trivial) ⟨rfl, rfl, rfl, trivial⟩ trivial rfl rfl ?_
    refine AOR.pure (LT.not rfl) ⟨rfl, trivial⟩ trivial rfl rfl ?_
    refine AOR.nil ?_
    refine AWR.cond rfl (fun hc4 => ?_) (fun hc4 => ?_)
    · refine AWR.seq ?_
      refine AWR.region ?_
      refine AOR.pure (LT.assign (v := (.s (.c (bC false)))) rfl) ⟨⟨rfl, rfl⟩, trivial⟩ trivial rfl rfl ?_
      refine AOR.nil ?_
      refine AWR.ret (FPost.mk (.inr rfl) ⟨rfl, trivial⟩ trivial rfl ⟨PermP.sc, trivial⟩ trivial)
    · refine AWR.skip ?_
      refine AWR.seq ?_
      refine AWR.region ?_
      refine AOR.pure (LT.assign (v := (.s (.c (bC true)))) rfl) ⟨⟨rfl, rfl⟩, trivial⟩ trivial rfl rfl ?_
      refine AOR.nil ?_
      refine AWR.ret (FPost.mk (.inr rfl) ⟨rfl, trivial⟩ trivial rfl ⟨PermP.sc, trivial⟩ trivial)
end Go.Proofs.Ytoeigmhhmadmbaa
end
section
set_option linter.unusedVariables false
set_option linter.unusedSimpArgs false
set_option linter.unnecessarySimpa false
open Go Go.Fw
namespace Go.Proofs.Ytoeigmhhmadmbaa
set_option maxRecDepth 100000 in
set_option maxHeartbeats 8000000 in
theorem w_laws_szPlaceS (a : (List TPlace)) (leftV : Int) : ∀ t, m_laws_szPlaceS a leftV = some t → Fw.Fn Try.prog 109 [(.c (.pv (.xs false (a.map encTPlace)))), (.c (iC leftV))] [] (.s (.c (iC t))) [] [] [] := by
  refine Fw.Fn.of (P := Try.prog) (X := []) (pn := []) (rs := (fun (t : Int) => [(.c (iC t))])) (dfs := (fun (t : Int) => [])) Try.func109 rfl Try.ntmps109 (Nat.le_of_ble_eq_true rfl) rfl ?_
  intro w0 U0 R0 g0
  unfold m_laws_szPlaceS
  refine AWR.seq ?_
  refine AWR.region ?_
  refine AOR.pure (LT.assign (v := (.s (.c (iC 0)))) rfl) ⟨⟨rfl, rfl⟩, trivial⟩ trivial rfl rfl ?_
  refine AOR.nil ?_
  refine AWR.seq ?_
  refine AWR.region ?_
  refine AOR.pure (LT.move (v := (.s (.c (iC leftV)))) rfl) ⟨rfl, trivial⟩ trivial rfl rfl ?_
  refine AOR.pure (LT.move (v := (.s (.c (.pv (.xs false (a.map encTPlace)))))) rfl) ⟨rfl, trivial⟩ trivial rfl rfl ?_
  refine AOR.pure (LT.tlenRO rfl und51) ⟨rfl, trivial⟩ trivial rfl rfl ?_
  refine AOR.pure (LT.sub rfl) ⟨rfl, rfl, trivial⟩ trivial rfl rfl ?_
  refine AOR.pure (LT.assign (v := (.s (.c (iC (w64 (leftV - (a.length : Int))))))) rfl) ⟨rfl, trivial⟩ trivial rfl rfl ?_
  refine AOR.nil ?_
  refine AWR.seq ?_
  refine AWR.seq ?_
  refine AWR.region ?_
  refine AOR.pure (LT.move (v := (.s (.c (iC (w64 (leftV - (a.length : Int))))))) rfl) ⟨rfl, trivial⟩ trivial rfl rfl ?_
  refine AOR.pure (LT.lss rfl) ⟨rfl, ⟨rfl, rfl⟩, trivial⟩ trivial rfl rfl ?_
  refine AOR.nil ?_
  refine AWR.cond rfl (fun hc1 => ?_) (fun hc1 => ?_)
  · refine AWR.seq ?_
    refine AWR.region ?_
    refine AOR.pure (LT.assign (v := (.s (.c (iC (-1))))) rfl) ⟨⟨rfl, rfl⟩, trivial⟩ trivial rfl rfl ?_
    refine AOR.nil ?_
    refine AWR.ret (FPost.mk (.inr rfl) ⟨rfl, trivial⟩ trivial rfl ⟨PermP.sc, trivial⟩ trivial)
  · refine AWR.skip ?_
    refine AWR.seq ?_
    refine AWR.region ?_
    refine AOR.pure (LT.move (v := (.s (.c (iC (w64 (leftV - (a.length : Int))))))) rfl) ⟨rfl, trivial⟩ trivial rfl rfl ?_
    refine AOR.pure (LT.assign (v := (.s (.c (iC (w64 (leftV - (a.length : Int))))))) rfl) ⟨rfl, trivial⟩ trivial rfl rfl ?_
    refine AOR.nil ?_
    refine AWR.ret (FPost.mk (.inr rfl) ⟨rfl, trivial⟩ trivial rfl ⟨PermP.sc, trivial⟩ trivial)
set_option maxRecDepth 100000 in
set_option maxHeartbeats 8000000 in
theorem w_laws_szFramework (a : TFramework) (leftV : Int) : ∀ t, m_laws_szFramework a leftV = some t → Fw.Fn Try.prog 43 [(.agg [(iC a.Graph.Points), (.pv (.xs false (a.Graph.Bars.map encTBar))), (.pv (.xs false (a.Places.map encTPlace)))]), (.c (iC leftV))] [] (.s (.c (iC t))) [] [] [] := by
  refine Fw.Fn.of (P := Try.prog) (X := []) (pn := []) (rs := (fun (t : Int) => [(.c (iC t))])) (dfs := (fun (t : Int) => [])) Try.func43 rfl Try.ntmps43 (Nat.le_of_ble_eq_true rfl) rfl ?_
  intro w0 U0 R0 g0
  unfold m_laws_szFramework
  refine AWR.seq ?_
  refine AWR.region ?_
  refine AOR.step (LT.box (n := 21) (v := (.agg [(iC a.Graph.Points), (.pv (.xs false (a.Graph.Bars.map encTBar))), (.pv (.xs false (a.Places.map encTPlace)))])) rfl sz53 (by exact rfl)) ⟨rfl, trivial⟩ trivial rfl rfl ?_
  refine AOR.pure (LT.assign (v := (.s (.c (iC 0)))) rfl) ⟨⟨rfl, rfl⟩, trivial⟩ trivial rfl rfl ?_
  refine AOR.nil ?_
  refine AWR.seq ?_
  refine AWR.region ?_
  refine AOR.pure (LT.fieldPl rfl fo53_0) ⟨rfl, trivial⟩ trivial rfl rfl ?_
  refine AOR.pure (LT.bloadN (out := [(iC a.Graph.Points), (.pv (.xs false (a.Graph.Bars.map encTBar)))]) rfl ag50 (infS inf50) sz50 (by exact rfl) (by exact rfl)) ⟨rfl, trivial⟩ ⟨rfl, trivial⟩ rfl rfl ?_
  refine AOR.pure (LT.move (v := (.s (.c (iC leftV)))) rfl) ⟨rfl, trivial⟩ trivial rfl rfl ?_
  refine AOR.bind fun r1 hr1 => ?_
  refine AOR.pure (@LT.callF Try.prog _ _ 53 _ _ [(.agg [(iC a.Graph.Points), (.pv (.xs false (a.Graph.Bars.map encTBar)))]), (.c (iC leftV))] _ _ [] _ _ _ _ (w_laws_szGraph a.Graph leftV r1 hr1) rfl cb53 (.cons (.agg (.cons (.same rfl) (.cons (.same rfl) .nil))) (.cons (.c (.same rfl)) .nil)) rfl rfl trivial) ⟨rfl, rfl, rfl, trivial⟩ trivial rfl rfl ?_
  refine AOR.pure (LT.assign (v := (.s (.c (iC r1)))) rfl) ⟨rfl, trivial⟩ trivial rfl rfl ?_
  refine AOR.nil ?_
  refine AWR.seq ?_
  refine AWR.seq ?_
  refine AWR.region ?_
  refine AOR.pure (LT.move (v := (.s (.c (iC r1)))) rfl) ⟨rfl, trivial⟩ trivial rfl rfl ?_
  refine AOR.pure (LT.lss rfl) ⟨rfl, ⟨rfl, rfl⟩, trivial⟩ trivial rfl rfl ?_
  refine AOR.nil ?_
  refine AWR.cond rfl (fun hc2 => ?_) (fun hc2 => ?_)
  · refine AWR.seq ?_
    refine AWR.ent (Ent.of (σ' := []) (m' := []) trivial trivial) ?_
    refine AWR.region ?_
    refine AOR.pure (LT.assign (v := (.s (.c (iC (-1))))) rfl) ⟨⟨rfl, rfl⟩, trivial⟩ trivial rfl rfl ?_
    refine AOR.nil ?_
    refine AWR.ret (FPost.mk (.inr rfl) ⟨rfl, trivial⟩ trivial rfl ⟨PermP.sc, trivial⟩ trivial)
  · refine AWR.skip ?_
    refine AWR.seq ?_
    refine AWR.ent (Ent.of (σ' := [(1, (.s (.c (iC r1)))), (2, (.s (.c (.pl 21 0))))]) (m' := [(21, (.row 53 [[(iC a.Graph.Points), (.pv (.xs false (a.Graph.Bars.map encTBar))), (.pv (.xs false (a.Places.map encTPlace)))]]))]) ⟨rfl, rfl, trivial⟩ ⟨rfl, trivial⟩) ?_
    refine AWR.region ?_
    refine AOR.pure (LT.fieldPl rfl fo53_1) ⟨rfl, trivial⟩ trivial rfl rfl ?_
    refine AOR.pure (LT.bload1 (c := (.pv (.xs false (a.Places.map encTPlace)))) rfl ag51 (by exact rfl)) ⟨rfl, trivial⟩ ⟨rfl, trivial⟩ rfl rfl ?_
    refine AOR.pure (LT.move (v := (.s (.c (iC r1)))) rfl) ⟨rfl, trivial⟩ trivial rfl rfl ?_
    refine AOR.bind fun r3 hr3 => ?_
    refine AOR.pure (@LT.callF Try.prog _ _ 109 _ _ [(.c (.pv (.xs false (a.Places.map encTPlace)))), (.c (iC r1))] _ _ [] _ _ _ _ (w_laws_szPlaceS a.Places r1 r3 hr3) rfl cb109 (.cons (.c (.same rfl)) (.cons (.c (.same rfl)) .nil)) rfl rfl trivial) ⟨rfl, rfl, rfl, trivial⟩ trivial rfl rfl ?_
    refine AOR.pure (LT.assign (v := (.s (.c (iC r3)))) rfl) ⟨rfl, trivial⟩ trivial rfl rfl ?_
    refine AOR.nil ?_
    refine AWR.seq ?_
    refine AWR.seq ?_
    refine AWR.region ?_
    refine AOR.pure (LT.move (v := (.s (.c (iC r3)))) rfl) ⟨rfl, trivial⟩ trivial rfl rfl ?_
    refine AOR.pure (LT.lss rfl) ⟨rfl, ⟨rfl, rfl⟩, trivial⟩ trivial rfl rfl ?_
    refine AOR.nil ?_
    refine AWR.cond rfl (fun hc4 => ?_) (fun hc4 => ?_)
    · refine AWR.seq ?_
      refine AWR.region ?_
      refine AOR.pure (LT.assign (v := (.s (.c (iC (-1))))) rfl) ⟨⟨rfl, rfl⟩, trivial⟩ trivial rfl rfl ?_
      refine AOR.nil ?_
      refine AWR.ret (FPost.mk (.inr rfl) ⟨rfl, trivial⟩ trivial rfl ⟨PermP.sc, trivial⟩ trivial)
    · refine AWR.skip ?_
      refine AWR.seq ?_
      refine AWR.region ?_
      refine AOR.pure (LT.move (v := (.s (.c (iC r3)))) rfl) ⟨rfl, trivial⟩ trivial rfl rfl ?_
      refine AOR.pure (LT.assign (v := (.s (.c (iC r3)))) rfl) ⟨rfl, trivial⟩ trivial rfl rfl ?_
      refine AOR.nil ?_
      refine AWR.ret (FPost.mk (.inr rfl) ⟨rfl, trivial⟩ trivial rfl ⟨PermP.sc, trivial⟩ trivial)
set_option maxRecDepth 100000 in
set_option maxHeartbeats 8000000 in
theorem w_laws_toPlace (a : TPlace) : ∀ t, m_laws_toPlace a = some t → Fw.Fn Try.prog 167 [(.agg [(iC a.X), (iC a.Y)])] [] (.s (.agg [(iC t.X), (iC t.Y)])) [] [] [] := by
  refine Fw.Fn.of (P := Try.prog) (X := []) (pn := []) (rs := (fun (t : TPlace) => [(.agg [(iC t.X), (iC t.Y)])])) (dfs := (fun (t : TPlace) => [])) Try.func167 rfl Try.ntmps167 (Nat.le_of_ble_eq_true rfl) rfl ?_
  intro w0 U0 R0 g0
  unfold m_laws_toPlace
  refine AWR.seq ?_
  refine AWR.region ?_
  refine AOR.step (LT.box (n := 21) (v := (.agg [(iC a.X), (iC a.Y)])) rfl sz137 (by exact rfl)) ⟨rfl, trivial⟩ trivial rfl rfl ?_
  refine AOR.step (LT.alloc (n := 22) (cells := [(iC 0), (iC 0)]) rfl ti95 rfl rfl rfl) trivial trivial rfl rfl ?_
  refine AOR.nil ?_
  refine AWR.seq ?_
  refine AWR.region ?_
  refine AOR.step (LT.alloc (n := 23) (cells := [(iC 0), (iC 0)]) rfl ti95 rfl rfl rfl) trivial trivial rfl rfl ?_
  refine AOR.nil ?_
  refine AWR.seq ?_
  refine AWR.region ?_
  refine AOR.pure (LT.fieldPl rfl fo137_0) ⟨rfl, trivial⟩ trivial rfl rfl ?_
  refine AOR.pure (LT.bload1 (c := (iC a.X)) rfl ag3 (by exact rfl)) ⟨rfl, trivial⟩ ⟨rfl, trivial⟩ rfl rfl ?_
  refine AOR.pure (LT.fieldPl rfl fo95_0) ⟨rfl, trivial⟩ trivial rfl rfl ?_
  refine AOR.step (LT.bstore (v := (.c (iC a.X))) (out := [(iC a.X), (iC 0)]) rfl rfl (infS inf3) sz3 (by exact rfl) (by exact Nat.le_of_ble_eq_true rfl) (by exact rfl)) ⟨rfl, rfl, trivial⟩ ⟨rfl, trivial⟩ rfl rfl ?_
  refine AOR.nil ?_
  refine AWR.seq ?_
  refine AWR.ent (Ent.of (σ' := [(1, (.s (.c (.pl 21 0)))), (2, (.s (.c (.pl 22 0)))), (3, (.s (.c (.pl 23 0))))]) (m' := [(21, (.row 137 [[(iC a.X), (iC a.Y)]])), (22, (.row 95 [[(iC 0), (iC 0)]])), (23, (.row 95 [[(iC a.X), (iC 0)]]))]) ⟨rfl, rfl, rfl, trivial⟩ ⟨rfl, rfl, rfl, trivial⟩) ?_
  refine AWR.region ?_
  refine AOR.pure (LT.fieldPl rfl fo137_1) ⟨rfl, trivial⟩ trivial rfl rfl ?_
  refine AOR.pure (LT.bload1 (c := (iC a.Y)) rfl ag3 (by exact rfl)) ⟨rfl, trivial⟩ ⟨rfl, trivial⟩ rfl rfl ?_
  refine AOR.pure (LT.fieldPl rfl fo95_1) ⟨rfl, trivial⟩ trivial rfl rfl ?_
  refine AOR.step (LT.bstore (v := (.c (iC a.Y))) (out := [(iC a.X), (iC a.Y)]) rfl rfl (infS inf3) sz3 (by exact rfl) (by exact Nat.le_of_ble_eq_true rfl) (by exact rfl)) ⟨rfl, rfl, trivial⟩ ⟨rfl, trivial⟩ rfl rfl ?_
  refine AOR.nil ?_
  refine AWR.seq ?_
  refine AWR.region ?_
  refine AOR.pure (LT.bloadN (out := [(iC a.X), (iC a.Y)]) rfl ag95 (infS inf95) sz95 (by exact rfl) (by exact rfl)) ⟨rfl, trivial⟩ ⟨rfl, trivial⟩ rfl rfl ?_
  refine AOR.step (LT.bstore (v := (.agg [(iC a.X), (iC a.Y)])) (out := [(iC a.X), (iC a.Y)]) rfl rfl (infS inf95) sz95 (by exact rfl) (by exact Nat.le_of_ble_eq_true rfl) (by exact rfl)) ⟨rfl, rfl, trivial⟩ ⟨rfl, trivial⟩ rfl rfl ?_
  refine AOR.nil ?_
  refine AWR.ret (FPost.mk (.inr rfl) ⟨⟨_, _, _, rfl, rfl, rfl, ag95, sz95, _, (infS inf95)⟩, trivial⟩ trivial rfl ⟨⟨PermP.sc, PermP.sc, trivial⟩, trivial⟩ trivial)
set_option maxRecDepth 100000 in
set_option maxHeartbeats 8000000 in
theorem w_laws_toPlaceS (a : (List TPlace)) : ∀ t, m_laws_toPlaceS a = some t → Fw.Fn Try.prog 110 [(.c (.pv (.xs false (a.map encTPlace))))] [] (.s (.c (.loc 0 0 t.length))) [(0, (.prow 95 (t.map encTPlace)))] [] [0] := by
  refine Fw.Fn.of (P := Try.prog) (X := [0]) (pn := []) (rs := (fun (t : (List TPlace)) => [(.c (.loc 0 0 t.length))])) (dfs := (fun (t : (List TPlace)) => [(0, (.prow 95 (t.map encTPlace)))])) Try.func110 rfl Try.ntmps110 (Nat.le_of_ble_eq_true rfl) rfl ?_
  intro w0 U0 R0 g0
  unfold m_laws_toPlaceS
  refine AWR.seq ?_
  refine AWR.region ?_
  refine AOR.pure (LT.assign (v := (.s (.c (sC nilV)))) rfl) ⟨⟨rfl, rfl⟩, trivial⟩ trivial rfl rfl ?_
  refine AOR.nil ?_
  refine AWR.seq ?_
  refine AWR.region ?_
  refine AOR.pure (LT.move (v := (.s (.c (.pv (.xs false (a.map encTPlace)))))) rfl) ⟨rfl, trivial⟩ trivial rfl rfl ?_
  refine AOR.pure (LT.tlenRO rfl und51) ⟨rfl, trivial⟩ trivial rfl rfl ?_
  refine AOR.bind fun u1 hu1 => ?_
  refine AOR.step (LT.tmake (n := 21) (enc := encTPlace) (zc := [(iC 0), (iC 0)]) (TPlace.mk (0 : Int) (0 : Int)) rfl und27 ti95 rfl rfl rfl (by decide) (by decide) (lenOk_le hu1) rfl) ⟨rfl, rfl, trivial⟩ trivial rfl rfl ?_
  refine AOR.pure (LT.assign (v := (.s (.c (.loc 21 0 (List.replicate (a.length : Int).toNat (TPlace.mk (0 : Int) (0 : Int))).length)))) rfl) ⟨rfl, trivial⟩ trivial rfl rfl ?_
  refine AOR.nil ?_
  refine AWR.seq ?_
  refine AWR.seq ?_
  refine AWR.region ?_
  refine AOR.pure (LT.assign (v := (.s (.c (iC 0)))) rfl) ⟨⟨rfl, rfl⟩, trivial⟩ trivial rfl rfl ?_
  refine AOR.nil ?_
  refine AWR.block ?_
  refine AWR.loop1 (id := 0) (m_laws_toPlaceS_L1 a) (fun s2 => ([(0, (.s (.c (.pv (.xs false (a.map encTPlace)))))), (3, (.s (.c (.loc 21 0 s2.2.length)))), (4, (.s (.c (iC s2.1))))], [(21, (.prow 95 (s2.2.map encTPlace)))])) (fun b11 => ([(3, (.s (.c (.loc 21 0 b11.length))))], [(21, (.prow 95 (b11.map encTPlace)))])) ?_ (Ent.of ⟨rfl, rfl, rfl, trivial⟩ ⟨rfl, trivial⟩) rfl (fun b11 _ => ?_)
  · intro s2
    unfold m_laws_toPlaceS_L1
    refine AWR.seq ?_
    refine AWR.seq ?_
    refine AWR.region ?_
    refine AOR.pure (LT.move (v := (.s (.c (iC s2.1)))) rfl) ⟨rfl, trivial⟩ trivial rfl rfl ?_
    refine AOR.pure (LT.move (v := (.s (.c (.pv (.xs false (a.map encTPlace)))))) rfl) ⟨rfl, trivial⟩ trivial rfl rfl ?_
    refine AOR.pure (LT.tlenRO rfl und51) ⟨rfl, trivial⟩ trivial rfl rfl ?_
    refine AOR.pure (LT.lss rfl) ⟨rfl, rfl, trivial⟩ trivial rfl rfl ?_
    refine AOR.nil ?_
    refine AWR.cond rfl (fun hc12 => ?_) (fun hc12 => ?_)
    · refine AWR.skip ?_
      refine AWR.seq ?_
      refine AWR.block ?_
      refine AWR.region ?_
      refine AOR.pure (LT.move (v := (.s (.c (.loc 21 0 s2.2.length)))) rfl) ⟨rfl, trivial⟩ trivial rfl rfl ?_
      refine AOR.pure (LT.move (v := (.s (.c (iC s2.1)))) rfl) ⟨rfl, trivial⟩ trivial rfl rfl ?_
      refine AOR.pure (LT.move (v := (.s (.c (.pv (.xs false (a.map encTPlace)))))) rfl) ⟨rfl, trivial⟩ trivial rfl rfl ?_
      refine AOR.pure (LT.move (v := (.s (.c (iC s2.1)))) rfl) ⟨rfl, trivial⟩ trivial rfl rfl ?_
      refine AOR.bind fun x13 hx13 => ?_
      refine AOR.pure (LT.tindexRO (enc := encTPlace) rfl el51 hx13 sz137) ⟨rfl, rfl, trivial⟩ trivial rfl rfl ?_
      refine AOR.pure (LT.loadPxN rfl ag137 (infS inf137) (by exact sz137.symm)) ⟨rfl, trivial⟩ trivial rfl rfl ?_
      refine AOR.bind fun r14 hr14 => ?_
      refine AOR.pure (@LT.callF Try.prog _ _ 167 _ _ [(.agg [(iC x13.X), (iC x13.Y)])] _ _ [] _ _ _ _ (w_laws_toPlace x13 r14 hr14) rfl cb167 (.cons (.agg (.cons (.same rfl) (.cons (.same rfl) .nil))) .nil) rfl rfl trivial) ⟨rfl, rfl, trivial⟩ trivial rfl rfl ?_
      refine AOR.bind fun x15 hx15 => ?_
      refine AOR.pure (LT.tindexLoc rfl rfl el27 hx15) ⟨rfl, rfl, trivial⟩ ⟨rfl, trivial⟩ rfl rfl ?_
      refine AOR.step (LT.tstore (k := 0) (v := (.agg [(iC r14.X), (iC r14.Y)])) (b' := r14) rfl rfl (infS inf95) sz95 (by exact rfl) hx15 (by exact rfl) (by exact Nat.le_of_ble_eq_true rfl) (by exact rfl)) ⟨rfl, rfl, trivial⟩ ⟨rfl, trivial⟩ rfl rfl ?_
      refine AOR.nil ?_
      refine AWR.blk ?_
      refine AWR.ent (Ent.of (σ' := [(0, (.s (.c (.pv (.xs false (a.map encTPlace)))))), (3, (.s (.c (.loc 21 0 s2.2.length)))), (4, (.s (.c (iC s2.1))))]) (m' := [(21, (.prow 95 ((s2.2.set s2.1.toNat r14).map encTPlace)))]) ⟨rfl, rfl, rfl, trivial⟩ ⟨rfl, trivial⟩) ?_
      refine AWR.region ?_
      refine AOR.pure (LT.move (v := (.s (.c (iC s2.1)))) rfl) ⟨rfl, trivial⟩ trivial rfl rfl ?_
      refine AOR.pure (LT.add rfl) ⟨rfl, ⟨rfl, rfl⟩, trivial⟩ trivial rfl rfl ?_
      refine AOR.pure (LT.assign (v := (.s (.c (iC (w64 (s2.1 + 1)))))) rfl) ⟨rfl, trivial⟩ trivial rfl rfl ?_
      refine AOR.nil ?_
      refine AWR.nil ⟨rfl, Ent.of ⟨rfl, (congrArg (fun l1 => (some (AV.s (.c (.loc 21 0 l1))) : Option AV)) (show s2.2.length = (s2.2.set s2.1.toNat r14).length by simp only [List.length_set])), rfl, trivial⟩ ⟨rfl, trivial⟩⟩
    · refine AWR.exit_end rfl ⟨rfl, Ent.of ⟨rfl, trivial⟩ ⟨rfl, trivial⟩⟩
  · refine AWR.seq ?_
    refine AWR.region ?_
    refine AOR.pure (LT.move (v := (.s (.c (.loc 21 0 b11.length)))) rfl) ⟨rfl, trivial⟩ trivial rfl rfl ?_
    refine AOR.pure (LT.assign (v := (.s (.c (.loc 21 0 b11.length)))) rfl) ⟨rfl, trivial⟩ trivial rfl rfl ?_
    refine AOR.nil ?_
    refine AWR.ent (Ent.of (σ' := [(2, (.s (.c (.loc 21 0 b11.length))))]) (m' := [(21, (.prow 95 (b11.map encTPlace)))]) ⟨rfl, trivial⟩ ⟨rfl, trivial⟩) ?_
    refine AWR.ent (Ent.mv 21 0 rfl rfl) ?_
    refine AWR.ent (Ent.of (σ' := [(2, (.s (.c (.loc 0 0 b11.length))))]) (m' := [(0, (.prow 95 (b11.map encTPlace)))]) ⟨rfl, trivial⟩ ⟨rfl, trivial⟩) ?_
    refine AWR.ret (FPost.mk (.inr rfl) ⟨rfl, trivial⟩ ⟨rfl, trivial⟩ rfl ⟨trivial, trivial⟩ ⟨PermO.prow' perm_encTPlace, trivial⟩)
set_option maxRecDepth 100000 in
set_option maxHeartbeats 8000000 in
theorem w_laws_toFramework (a : TFramework) : ∀ t, m_laws_toFramework a = some t → Fw.Fn Try.prog 44 [(.agg [(iC a.Graph.Points), (.pv (.xs false (a.Graph.Bars.map encTBar))), (.pv (.xs false (a.Places.map encTPlace)))])] [] (.s (.agg [(iC t.Graph.Points), (.loc 0 0 t.Graph.Bars.length), (.loc 1 0 t.Places.length)])) [(0, (.prow 79 (t.Graph.Bars.map encTBar))), (1, (.prow 95 (t.Places.map encTPlace)))] [] [0, 1] := by
  refine Fw.Fn.of (P := Try.prog) (X := [0, 1]) (pn := []) (rs := (fun (t : TFramework) => [(.agg [(iC t.Graph.Points), (.loc 0 0 t.Graph.Bars.length), (.loc 1 0 t.Places.length)])])) (dfs := (fun (t : TFramework) => [(0, (.prow 79 (t.Graph.Bars.map encTBar))), (1, (.prow 95 (t.Places.map encTPlace)))])) Try.func44 rfl Try.ntmps44 (Nat.le_of_ble_eq_true rfl) rfl ?_
  intro w0 U0 R0 g0
  unfold m_laws_toFramework
  refine AWR.seq ?_
  refine AWR.region ?_
  refine AOR.step (LT.box (n := 21) (v := (.agg [(iC a.Graph.Points), (.pv (.xs false (a.Graph.Bars.map encTBar))), (.pv (.xs false (a.Places.map encTPlace)))])) rfl sz53 (by exact rfl)) ⟨rfl, trivial⟩ trivial rfl rfl ?_
  refine AOR.step (LT.alloc (n := 22) (cells := [(iC 0), (sC nilV), (sC nilV)]) rfl ti29 rfl rfl rfl) trivial trivial rfl rfl ?_
  refine AOR.nil ?_
  refine AWR.seq ?_
  refine AWR.region ?_
  refine AOR.step (LT.alloc (n := 23) (cells := [(iC 0), (sC nilV), (sC nilV)]) rfl ti29 rfl rfl rfl) trivial trivial rfl rfl ?_
  refine AOR.nil ?_
  refine AWR.seq ?_
  refine AWR.region ?_
  refine AOR.pure (LT.fieldPl rfl fo53_0) ⟨rfl, trivial⟩ trivial rfl rfl ?_
  refine AOR.pure (LT.bloadN (out := [(iC a.Graph.Points), (.pv (.xs false (a.Graph.Bars.map encTBar)))]) rfl ag50 (infS inf50) sz50 (by exact rfl) (by exact rfl)) ⟨rfl, trivial⟩ ⟨rfl, trivial⟩ rfl rfl ?_
  refine AOR.bind fun r1 hr1 => ?_
  refine AOR.step (@LT.callF Try.prog _ _ 55 _ _ [(.agg [(iC a.Graph.Points), (.pv (.xs false (a.Graph.Bars.map encTBar)))])] _ _ [] _ _ _ _ ((show Fw.Fn Try.prog 55 [(.agg [(iC a.Graph.Points), (.pv (.xs false (a.Graph.Bars.map encTBar)))])] [] (.s (.agg [(iC r1.Points), (.loc 25 0 r1.Bars.length)])) [(25, (.prow 79 (r1.Bars.map encTBar)))] [] [25] from Fw.Fn.ren [(0, 25)] (w_laws_toGraph a.Graph r1 hr1) rfl)) rfl cb55 (.cons (.agg (.cons (.same rfl) (.cons (.same rfl) .nil))) .nil) rfl rfl trivial) ⟨rfl, rfl, trivial⟩ trivial rfl rfl ?_
  refine AOR.pure (LT.fieldPl rfl fo29_0) ⟨rfl, trivial⟩ trivial rfl rfl ?_
  refine AOR.step (LT.bstore (v := (.agg [(iC r1.Points), (.loc 25 0 r1.Bars.length)])) (out := [(iC r1.Points), (.loc 25 0 r1.Bars.length), (sC nilV)]) rfl rfl (infS inf26) sz26 (by exact rfl) (by exact Nat.le_of_ble_eq_true rfl) (by exact rfl)) ⟨rfl, rfl, trivial⟩ ⟨rfl, trivial⟩ rfl rfl ?_
  refine AOR.nil ?_
  refine AWR.seq ?_
  refine AWR.ent (Ent.of (σ' := [(1, (.s (.c (.pl 21 0)))), (2, (.s (.c (.pl 22 0)))), (3, (.s (.c (.pl 23 0))))]) (m' := [(21, (.row 53 [[(iC a.Graph.Points), (.pv (.xs false (a.Graph.Bars.map encTBar))), (.pv (.xs false (a.Places.map encTPlace)))]])), (22, (.row 29 [[(iC 0), (sC nilV), (sC nilV)]])), (23, (.row 29 [[(iC r1.Points), (.loc 25 0 r1.Bars.length), (sC nilV)]])), (25, (.prow 79 (r1.Bars.map encTBar)))]) ⟨rfl, rfl, rfl, trivial⟩ ⟨rfl, rfl, rfl, rfl, trivial⟩) ?_
  refine AWR.region ?_
  refine AOR.pure (LT.fieldPl rfl fo53_1) ⟨rfl, trivial⟩ trivial rfl rfl ?_
  refine AOR.pure (LT.bload1 (c := (.pv (.xs false (a.Places.map encTPlace)))) rfl ag51 (by exact rfl)) ⟨rfl, trivial⟩ ⟨rfl, trivial⟩ rfl rfl ?_
  refine AOR.bind fun r2 hr2 => ?_
  refine AOR.step (@LT.callF Try.prog _ _ 110 _ _ [(.c (.pv (.xs false (a.Places.map encTPlace))))] _ _ [] _ _ _ _ ((show Fw.Fn Try.prog 110 [(.c (.pv (.xs false (a.Places.map encTPlace))))] [] (.s (.c (.loc 27 0 r2.length))) [(27, (.prow 95 (r2.map encTPlace)))] [] [27] from Fw.Fn.ren [(0, 27)] (w_laws_toPlaceS a.Places r2 hr2) rfl)) rfl cb110 (.cons (.c (.same rfl)) .nil) rfl rfl trivial) ⟨rfl, rfl, trivial⟩ trivial rfl rfl ?_
  refine AOR.pure (LT.fieldPl rfl fo29_1) ⟨rfl, trivial⟩ trivial rfl rfl ?_
  refine AOR.step (LT.bstore (v := (.c (.loc 27 0 r2.length))) (out := [(iC r1.Points), (.loc 25 0 r1.Bars.length), (.loc 27 0 r2.length)]) rfl rfl (infS inf27) sz27 (by exact rfl) (by exact Nat.le_of_ble_eq_true rfl) (by exact rfl)) ⟨rfl, rfl, trivial⟩ ⟨rfl, trivial⟩ rfl rfl ?_
  refine AOR.nil ?_
  refine AWR.seq ?_
  refine AWR.region ?_
  refine AOR.pure (LT.bloadN (out := [(iC r1.Points), (.loc 25 0 r1.Bars.length), (.loc 27 0 r2.length)]) rfl ag29 (infS inf29) sz29 (by exact rfl) (by exact rfl)) ⟨rfl, trivial⟩ ⟨rfl, trivial⟩ rfl rfl ?_
  refine AOR.step (LT.bstore (v := (.agg [(iC r1.Points), (.loc 25 0 r1.Bars.length), (.loc 27 0 r2.length)])) (out := [(iC r1.Points), (.loc 25 0 r1.Bars.length), (.loc 27 0 r2.length)]) rfl rfl (infS inf29) sz29 (by exact rfl) (by exact Nat.le_of_ble_eq_true rfl) (by exact rfl)) ⟨rfl, rfl, trivial⟩ ⟨rfl, trivial⟩ rfl rfl ?_
  refine AOR.nil ?_
  refine AWR.ent (Ent.of (σ' := [(2, (.s (.c (.pl 22 0))))]) (m' := [(22, (.row 29 [[(iC r1.Points), (.loc 25 0 r1.Bars.length), (.loc 27 0 r2.length)]])), (25, (.prow 79 (r1.Bars.map encTBar))), (27, (.prow 95 (r2.map encTPlace)))]) ⟨rfl, trivial⟩ ⟨rfl, rfl, rfl, trivial⟩) ?_
  refine AWR.ent (Ent.mv 25 0 rfl rfl) ?_
  refine AWR.ent (Ent.mv 27 1 rfl rfl) ?_
  refine AWR.ent (Ent.of (σ' := [(2, (.s (.c (.pl 22 0))))]) (m' := [(0, (.prow 79 (r1.Bars.map encTBar))), (1, (.prow 95 (r2.map encTPlace))), (22, (.row 29 [[(iC r1.Points), (.loc 0 0 r1.Bars.length), (.loc 1 0 r2.length)]]))]) ⟨rfl, trivial⟩ ⟨rfl, rfl, rfl, trivial⟩) ?_
  refine AWR.ret (FPost.mk (.inr rfl) ⟨⟨_, _, _, rfl, rfl, rfl, ag29, sz29, _, (infS inf29)⟩, trivial⟩ ⟨rfl, rfl, trivial⟩ rfl ⟨⟨PermP.sc, trivial, trivial, trivial⟩, trivial⟩ ⟨PermO.prow' perm_encTBar, PermO.prow' perm_encTPlace, trivial⟩)
end Go.Proofs.Ytoeigmhhmadmbaa
end
section
set_option linter.unusedVariables false
set_option linter.unusedSimpArgs false
set_option linter.unnecessarySimpa false
open Go Go.Fw
namespace Go.Proofs.Ytoeigmhhmadmbaa
set_option maxRecDepth 100000 in
set_option maxHeartbeats 8000000 in
theorem w_laws_toIntS (a : (List Int)) : ∀ t, m_laws_toIntS a = some t → Fw.Fn Try.prog 39 [(.c (.pv (.xs false (a.map encInt))))] [] (.s (.c (.loc 0 0 t.length))) [(0, (.prow 3 (t.map encInt)))] [] [0] := by
  refine Fw.Fn.of (P := Try.prog) (X := [0]) (pn := []) (rs := (fun (t : (List Int)) => [(.c (.loc 0 0 t.length))])) (dfs := (fun (t : (List Int)) => [(0, (.prow 3 (t.map encInt)))])) Try.func39 rfl Try.ntmps39 (Nat.le_of_ble_eq_true rfl) rfl ?_
  intro w0 U0 R0 g0
  unfold m_laws_toIntS
  refine AWR.seq ?_
  refine AWR.region ?_
  refine AOR.pure (LT.assign (v := (.s (.c (sC nilV)))) rfl) ⟨⟨rfl, rfl⟩, trivial⟩ trivial rfl rfl ?_
  refine AOR.nil ?_
  refine AWR.seq ?_
  refine AWR.region ?_
  refine AOR.pure (LT.move (v := (.s (.c (.pv (.xs false (a.map encInt)))))) rfl) ⟨rfl, trivial⟩ trivial rfl rfl ?_
  refine AOR.pure (LT.tlenRO rfl und37) ⟨rfl, trivial⟩ trivial rfl rfl ?_
  refine AOR.bind fun u1 hu1 => ?_
  refine AOR.step (LT.tmake (n := 21) (enc := encInt) (zc := [(iC 0)]) (0 : Int) rfl und37 ti3 rfl rfl rfl (by decide) (by decide) (lenOk_le hu1) rfl) ⟨rfl, rfl, trivial⟩ trivial rfl rfl ?_
  refine AOR.pure (LT.assign (v := (.s (.c (.loc 21 0 (List.replicate (a.length : Int).toNat (0 : Int)).length)))) rfl) ⟨rfl, trivial⟩ trivial rfl rfl ?_
  refine AOR.nil ?_
  refine AWR.seq ?_
  refine AWR.seq ?_
  refine AWR.region ?_
  refine AOR.pure (LT.assign (v := (.s (.c (iC 0)))) rfl) ⟨⟨rfl, rfl⟩, trivial⟩ trivial rfl rfl ?_
  refine AOR.nil ?_
  refine AWR.block ?_
  refine AWR.loop1 (id := 0) (m_laws_toIntS_L1 a) (fun s2 => ([(0, (.s (.c (.pv (.xs false (a.map encInt)))))), (3, (.s (.c (.loc 21 0 s2.2.length)))), (4, (.s (.c (iC s2.1))))], [(21, (.prow 3 (s2.2.map encInt)))])) (fun b9 => ([(3, (.s (.c (.loc 21 0 b9.length))))], [(21, (.prow 3 (b9.map encInt)))])) ?_ (Ent.of ⟨rfl, rfl, rfl, trivial⟩ ⟨rfl, trivial⟩) rfl (fun b9 _ => ?_)
  · intro s2
    unfold m_laws_toIntS_L1
    refine AWR.seq ?_
    refine AWR.seq ?_
    refine AWR.region ?_
    refine AOR.pure (LT.move (v := (.s (.c (iC s2.1)))) rfl) ⟨rfl, trivial⟩ trivial rfl rfl ?_
    refine AOR.pure (LT.move (v := (.s (.c (.pv (.xs false (a.map encInt)))))) rfl) ⟨rfl, trivial⟩ trivial rfl rfl ?_
    refine AOR.pure (LT.tlenRO rfl und37) ⟨rfl, trivial⟩ trivial rfl rfl ?_
    refine AOR.pure (LT.lss rfl) ⟨rfl, rfl, trivial⟩ trivial rfl rfl ?_
    refine AOR.nil ?_
    refine AWR.cond rfl (fun hc10 => ?_) (fun hc10 => ?_)
    · refine AWR.skip ?_
      refine AWR.seq ?_
      refine AWR.block ?_
      refine AWR.region ?_
      refine AOR.pure (LT.move (v := (.s (.c (.loc 21 0 s2.2.length)))) rfl) ⟨rfl, trivial⟩ trivial rfl rfl ?_
      refine AOR.pure (LT.move (v := (.s (.c (iC s2.1)))) rfl) ⟨rfl, trivial⟩ trivial rfl rfl ?_
      refine AOR.pure (LT.move (v := (.s (.c (.pv (.xs false (a.map encInt)))))) rfl) ⟨rfl, trivial⟩ trivial rfl rfl ?_
      refine AOR.pure (LT.move (v := (.s (.c (iC s2.1)))) rfl) ⟨rfl, trivial⟩ trivial rfl rfl ?_
      refine AOR.bind fun x11 hx11 => ?_
      refine AOR.pure (LT.tindexRO (enc := encInt) rfl el37 hx11 sz3) ⟨rfl, rfl, trivial⟩ trivial rfl rfl ?_
      refine AOR.pure (LT.loadPx1 rfl ag3) ⟨rfl, trivial⟩ trivial rfl rfl ?_
      refine AOR.bind fun x12 hx12 => ?_
      refine AOR.pure (LT.tindexLoc rfl rfl el37 hx12) ⟨rfl, rfl, trivial⟩ ⟨rfl, trivial⟩ rfl rfl ?_
      refine AOR.step (LT.tstore (k := 0) (v := (.c (iC x11))) (b' := x11) rfl rfl (infS inf3) sz3 (by exact rfl) hx12 (by exact rfl) (by exact Nat.le_of_ble_eq_true rfl) (by exact rfl)) ⟨rfl, rfl, trivial⟩ ⟨rfl, trivial⟩ rfl rfl ?_
      refine AOR.nil ?_
      refine AWR.blk ?_
      refine AWR.ent (Ent.of (σ' := [(0, (.s (.c (.pv (.xs false (a.map encInt)))))), (3, (.s (.c (.loc 21 0 s2.2.length)))), (4, (.s (.c (iC s2.1))))]) (m' := [(21, (.prow 3 ((s2.2.set s2.1.toNat x11).map encInt)))]) ⟨rfl, rfl, rfl, trivial⟩ ⟨rfl, trivial⟩) ?_
      refine AWR.region ?_
      refine AOR.pure (LT.move (v := (.s (.c (iC s2.1)))) rfl) ⟨rfl, trivial⟩ trivial rfl rfl ?_
      refine AOR.pure (LT.add rfl) ⟨rfl, ⟨rfl, rfl⟩, trivial⟩ trivial rfl rfl ?_
      refine AOR.pure (LT.assign (v := (.s (.c (iC (w64 (s2.1 + 1)))))) rfl) ⟨rfl, trivial⟩ trivial rfl rfl ?_
      refine AOR.nil ?_
      refine AWR.nil ⟨rfl, Ent.of ⟨rfl, (congrArg (fun l1 => (some (AV.s (.c (.loc 21 0 l1))) : Option AV)) (show s2.2.length = (s2.2.set s2.1.toNat x11).length by simp only [List.length_set])), rfl, trivial⟩ ⟨rfl, trivial⟩⟩
    · refine AWR.exit_end rfl ⟨rfl, Ent.of ⟨rfl, trivial⟩ ⟨rfl, trivial⟩⟩
  · refine AWR.seq ?_
    refine AWR.region ?_
    refine AOR.pure (LT.move (v := (.s (.c (.loc 21 0 b9.length)))) rfl) ⟨rfl, trivial⟩ trivial rfl rfl ?_
    refine AOR.pure (LT.assign (v := (.s (.c (.loc 21 0 b9.length)))) rfl) ⟨rfl, trivial⟩ trivial rfl rfl ?_
    refine AOR.nil ?_
    refine AWR.ent (Ent.of (σ' := [(2, (.s (.c (.loc 21 0 b9.length))))]) (m' := [(21, (.prow 3 (b9.map encInt)))]) ⟨rfl, trivial⟩ ⟨rfl, trivial⟩) ?_
    refine AWR.ent (Ent.mv 21 0 rfl rfl) ?_
    refine AWR.ent (Ent.of (σ' := [(2, (.s (.c (.loc 0 0 b9.length))))]) (m' := [(0, (.prow 3 (b9.map encInt)))]) ⟨rfl, trivial⟩ ⟨rfl, trivial⟩) ?_
    refine AWR.ret (FPost.mk (.inr rfl) ⟨rfl, trivial⟩ ⟨rfl, trivial⟩ rfl ⟨trivial, trivial⟩ ⟨PermO.prow' perm_encInt, trivial⟩)
end Go.Proofs.Ytoeigmhhmadmbaa
end
section
set_option linter.unusedVariables false
set_option linter.unusedSimpArgs false
set_option linter.unnecessarySimpa false
open Go Go.Fw
namespace Go.Proofs.Ytoeigmhhmadmbaa
set_option maxRecDepth 100000 in
set_option maxHeartbeats 8000000 in
theorem w_spec_l4Other (b : TBar) (v : Int) : ∀ t, m_spec_l4Other b v = some t → Fw.Fn Try.prog 105 [(.agg [(iC b.A), (iC b.B)]), (.c (iC v))] [] (.s (.c (iC t))) [] [] [] := by
  refine Fw.Fn.of (P := Try.prog) (X := []) (pn := []) (rs := (fun (t : Int) => [(.c (iC t))])) (dfs := (fun (t : Int) => [])) Try.func105 rfl Try.ntmps105 (Nat.le_of_ble_eq_true rfl) rfl ?_
  intro w0 U0 R0 g0
  unfold m_spec_l4Other
  refine AWR.seq ?_
  refine AWR.region ?_
  refine AOR.step (LT.box (n := 21) (v := (.agg [(iC b.A), (iC b.B)])) rfl sz79 (by exact rfl)) ⟨rfl, trivial⟩ trivial rfl rfl ?_
  refine AOR.pure (LT.assign (v := (.s (.c (iC 0)))) rfl) ⟨⟨rfl, rfl⟩, trivial⟩ trivial rfl rfl ?_
  refine AOR.nil ?_
  refine AWR.seq ?_
  refine AWR.region ?_
  refine AOR.pure (LT.fieldPl rfl fo79_0) ⟨rfl, trivial⟩ trivial rfl rfl ?_
  refine AOR.pure (LT.bload1 (c := (iC b.A)) rfl ag3 (by exact rfl)) ⟨rfl, trivial⟩ ⟨rfl, trivial⟩ rfl rfl ?_
  refine AOR.pure (LT.fieldPl rfl fo79_1) ⟨rfl, trivial⟩ trivial rfl rfl ?_
  refine AOR.pure (LT.bload1 (c := (iC b.B)) rfl ag3 (by exact rfl)) ⟨rfl, trivial⟩ ⟨rfl, trivial⟩ rfl rfl ?_
  refine AOR.pure (LT.add rfl) ⟨rfl, rfl, trivial⟩ trivial rfl rfl ?_
  refine AOR.pure (LT.move (v := (.s (.c (iC v)))) rfl) ⟨rfl, trivial⟩ trivial rfl rfl ?_
  refine AOR.pure (LT.sub rfl) ⟨rfl, rfl, trivial⟩ trivial rfl rfl ?_
  refine AOR.pure (LT.assign (v := (.s (.c (iC (w64 ((w64 (b.A + b.B)) - v)))))) rfl) ⟨rfl, trivial⟩ trivial rfl rfl ?_
  refine AOR.nil ?_
  refine AWR.ret (FPost.mk (.inr rfl) ⟨rfl, trivial⟩ trivial rfl ⟨PermP.sc, trivial⟩ trivial)
set_option maxRecDepth 100000 in
set_option maxHeartbeats 8000000 in
theorem w_impl_Bar_other (x : TBar) (v : Int) : ∀ t, m_impl_Bar_other x v = some t → Fw.Fn Try.prog 102 [(.agg [(iC x.A), (iC x.B)]), (.c (iC v))] [] (.s (.c (iC t))) [] [] [] := by
  refine Fw.Fn.of (P := Try.prog) (X := []) (pn := []) (rs := (fun (t : Int) => [(.c (iC t))])) (dfs := (fun (t : Int) => [])) Try.func102 rfl Try.ntmps102 (Nat.le_of_ble_eq_true rfl) rfl ?_
  intro w0 U0 R0 g0
  unfold m_impl_Bar_other
  refine AWR.seq ?_
  refine AWR.region ?_
  refine AOR.step (LT.box (n := 21) (v := (.agg [(iC x.A), (iC x.B)])) rfl sz79 (by exact rfl)) ⟨rfl, trivial⟩ trivial rfl rfl ?_
  refine AOR.pure (LT.assign (v := (.s (.c (iC 0)))) rfl) ⟨⟨rfl, rfl⟩, trivial⟩ trivial rfl rfl ?_
  refine AOR.nil ?_
  refine AWR.seq ?_
  refine AWR.seq ?_
  refine AWR.region ?_
  refine AOR.pure (LT.fieldPl rfl fo79_0) ⟨rfl, trivial⟩ trivial rfl rfl ?_
  refine AOR.pure (LT.bload1 (c := (iC x.A)) rfl ag3 (by exact rfl)) ⟨rfl, trivial⟩ ⟨rfl, trivial⟩ rfl rfl ?_
  refine AOR.pure (LT.move (v := (.s (.c (iC v)))) rfl) ⟨rfl, trivial⟩ trivial rfl rfl ?_
  refine AOR.pure (LT.eql rfl) ⟨rfl, rfl, trivial⟩ trivial rfl rfl ?_
  refine AOR.nil ?_
  refine AWR.cond rfl (fun hc1 => ?_) (fun hc1 => ?_)
  · refine AWR.seq ?_
    refine AWR.region ?_
    refine AOR.pure (LT.fieldPl rfl fo79_1) ⟨rfl, trivial⟩ trivial rfl rfl ?_
    refine AOR.pure (LT.bload1 (c := (iC x.B)) rfl ag3 (by exact rfl)) ⟨rfl, trivial⟩ ⟨rfl, trivial⟩ rfl rfl ?_
    refine AOR.pure (LT.assign (v := (.s (.c (iC x.B)))) rfl) ⟨rfl, trivial⟩ trivial rfl rfl ?_
    refine AOR.nil ?_
    refine AWR.ret (FPost.mk (.inr rfl) ⟨rfl, trivial⟩ trivial rfl ⟨PermP.sc, trivial⟩ trivial)
  · refine AWR.skip ?_
    refine AWR.seq ?_
    refine AWR.region ?_
    refine AOR.pure (LT.fieldPl rfl fo79_0) ⟨rfl, trivial⟩ trivial rfl rfl ?_
    refine AOR.pure (LT.bload1 (c := (iC x.A)) rfl ag3 (by exact rfl)) ⟨rfl, trivial⟩ ⟨rfl, trivial⟩ rfl rfl ?_
    refine AOR.pure (LT.assign (v := (.s (.c (iC x.A)))) rfl) ⟨rfl, trivial⟩ trivial rfl rfl ?_
    refine AOR.nil ?_
    refine AWR.ret (FPost.mk (.inr rfl) ⟨rfl, trivial⟩ trivial rfl ⟨PermP.sc, trivial⟩ trivial)
end Go.Proofs.Ytoeigmhhmadmbaa
end
section
set_option linter.unusedVariables false
set_option linter.unusedSimpArgs false
set_option linter.unnecessarySimpa false
open Go Go.Fw
namespace Go.Proofs.Ytoeigmhhmadmbaa
set_option maxRecDepth 100000 in
set_option maxHeartbeats 8000000 in
theorem w_laws_szIntS (a : (List Int)) (leftV : Int) : ∀ t, m_laws_szIntS a leftV = some t → Fw.Fn Try.prog 106 [(.c (.pv (.xs false (a.map encInt)))), (.c (iC leftV))] [] (.s (.c (iC t))) [] [] [] := by
  refine Fw.Fn.of (P := Try.prog) (X := []) (pn := []) (rs := (fun (t : Int) => [(.c (iC t))])) (dfs := (fun (t : Int) => [])) Try.func106 rfl Try.ntmps106 (Nat.le_of_ble_eq_true rfl) rfl ?_
  intro w0 U0 R0 g0
  unfold m_laws_szIntS
  refine AWR.seq ?_
  refine AWR.region ?_
  refine AOR.pure (LT.assign (v := (.s (.c (iC 0)))) rfl) ⟨⟨rfl, rfl⟩, trivial⟩ trivial rfl rfl ?_
  refine AOR.nil ?_
  refine AWR.seq ?_
  refine AWR.region ?_
  refine AOR.pure (LT.move (v := (.s (.c (iC leftV)))) rfl) ⟨rfl, trivial⟩ trivial rfl rfl ?_
  refine AOR.pure (LT.move (v := (.s (.c (.pv (.xs false (a.map encInt)))))) rfl) ⟨rfl, trivial⟩ trivial rfl rfl ?_
  refine AOR.pure (LT.tlenRO rfl und37) ⟨rfl, trivial⟩ trivial rfl rfl ?_
  refine AOR.pure (LT.sub rfl) ⟨rfl, rfl, trivial⟩ trivial rfl rfl ?_
  refine AOR.pure (LT.assign (v := (.s (.c (iC (w64 (leftV - (a.length : Int))))))) rfl) ⟨rfl, trivial⟩ trivial rfl rfl ?_
  refine AOR.nil ?_
  refine AWR.seq ?_
  refine AWR.seq ?_
  refine AWR.region ?_
  refine AOR.pure (LT.move (v := (.s (.c (iC (w64 (leftV - (a.length : Int))))))) rfl) ⟨rfl, trivial⟩ trivial rfl rfl ?_
  refine AOR.pure (LT.lss rfl) ⟨rfl, ⟨rfl, rfl⟩, trivial⟩ trivial rfl rfl ?_
  refine AOR.nil ?_
  refine AWR.cond rfl (fun hc1 => ?_) (fun hc1 => ?_)
  · refine AWR.seq ?_
    refine AWR.region ?_
    refine AOR.pure (LT.assign (v := (.s (.c (iC (-1))))) rfl) ⟨⟨rfl, rfl⟩, trivial⟩ trivial rfl rfl ?_
    refine AOR.nil ?_
    refine AWR.ret (FPost.mk (.inr rfl) ⟨rfl, trivial⟩ trivial rfl ⟨PermP.sc, trivial⟩ trivial)
  · refine AWR.skip ?_
    refine AWR.seq ?_
    refine AWR.region ?_
    refine AOR.pure (LT.move (v := (.s (.c (iC (w64 (leftV - (a.length : Int))))))) rfl) ⟨rfl, trivial⟩ trivial rfl rfl ?_
    refine AOR.pure (LT.assign (v := (.s (.c (iC (w64 (leftV - (a.length : Int))))))) rfl) ⟨rfl, trivial⟩ trivial rfl rfl ?_
    refine AOR.nil ?_
    refine AWR.ret (FPost.mk (.inr rfl) ⟨rfl, trivial⟩ trivial rfl ⟨PermP.sc, trivial⟩ trivial)
set_option maxRecDepth 100000 in
set_option maxHeartbeats 8000000 in
theorem w_laws_szTensegrity (a : TTensegrity) (leftV : Int) : ∀ t, m_laws_szTensegrity a leftV = some t → Fw.Fn Try.prog 36 [(.agg [(iC a.Framework.Graph.Points), (.pv (.xs false (a.Framework.Graph.Bars.map encTBar))), (.pv (.xs false (a.Framework.Places.map encTPlace))), (.pv (.xs false (a.Kinds.map encInt)))]), (.c (iC leftV))] [] (.s (.c (iC t))) [] [] [] := by
  refine Fw.Fn.of (P := Try.prog) (X := []) (pn := []) (rs := (fun (t : Int) => [(.c (iC t))])) (dfs := (fun (t : Int) => [])) Try.func36 rfl Try.ntmps36 (Nat.le_of_ble_eq_true rfl) rfl ?_
  intro w0 U0 R0 g0
  unfold m_laws_szTensegrity
  refine AWR.seq ?_
  refine AWR.region ?_
  refine AOR.step (LT.box (n := 21) (v := (.agg [(iC a.Framework.Graph.Points), (.pv (.xs false (a.Framework.Graph.Bars.map encTBar))), (.pv (.xs false (a.Framework.Places.map encTPlace))), (.pv (.xs false (a.Kinds.map encInt)))])) rfl sz55 (by exact rfl)) ⟨rfl, trivial⟩ trivial rfl rfl ?_
  refine AOR.pure (LT.assign (v := (.s (.c (iC 0)))) rfl) ⟨⟨rfl, rfl⟩, trivial⟩ trivial rfl rfl ?_
  refine AOR.nil ?_
  refine AWR.seq ?_
  refine AWR.region ?_
  refine AOR.pure (LT.fieldPl rfl fo55_0) ⟨rfl, trivial⟩ trivial rfl rfl ?_
  refine AOR.pure (LT.bloadN (out := [(iC a.Framework.Graph.Points), (.pv (.xs false (a.Framework.Graph.Bars.map encTBar))), (.pv (.xs false (a.Framework.Places.map encTPlace)))]) rfl ag53 (infS inf53) sz53 (by exact rfl) (by exact rfl)) ⟨rfl, trivial⟩ ⟨rfl, trivial⟩ rfl rfl ?_
  refine AOR.pure (LT.move (v := (.s (.c (iC leftV)))) rfl) ⟨rfl, trivial⟩ trivial rfl rfl ?_
  refine AOR.bind fun r1 hr1 => ?_
  refine AOR.pure (@LT.callF Try.prog _ _ 43 _ _ [(.agg [(iC a.Framework.Graph.Points), (.pv (.xs false (a.Framework.Graph.Bars.map encTBar))), (.pv (.xs false (a.Framework.Places.map encTPlace)))]), (.c (iC leftV))] _ _ [] _ _ _ _ (w_laws_szFramework a.Framework leftV r1 hr1) rfl cb43 (.cons (.agg (.cons (.same rfl) (.cons (.same rfl) (.cons (.same rfl) .nil)))) (.cons (.c (.same rfl)) .nil)) rfl rfl trivial) ⟨rfl, rfl, rfl, trivial⟩ trivial rfl rfl ?_
  refine AOR.pure (LT.assign (v := (.s (.c (iC r1)))) rfl) ⟨rfl, trivial⟩ trivial rfl rfl ?_
  refine AOR.nil ?_
  refine AWR.seq ?_
  refine AWR.seq ?_
  refine AWR.region ?_
  refine AOR.pure (LT.move (v := (.s (.c (iC r1)))) rfl) ⟨rfl, trivial⟩ trivial rfl rfl ?_
  refine AOR.pure (LT.lss rfl) ⟨rfl, ⟨rfl, rfl⟩, trivial⟩ trivial rfl rfl ?_
  refine AOR.nil ?_
  refine AWR.cond rfl (fun hc2 => ?_) (fun hc2 => ?_)
  · refine AWR.seq ?_
    refine AWR.ent (Ent.of (σ' := []) (m' := []) trivial trivial) ?_
    refine AWR.region ?_
    refine AOR.pure (LT.assign (v := (.s (.c (iC (-1))))) rfl) ⟨⟨rfl, rfl⟩, trivial⟩ trivial rfl rfl ?_
    refine AOR.nil ?_
    refine AWR.ret (FPost.mk (.inr rfl) ⟨rfl, trivial⟩ trivial rfl ⟨PermP.sc, trivial⟩ trivial)
  · refine AWR.skip ?_
    refine AWR.seq ?_
    refine AWR.ent (Ent.of (σ' := [(1, (.s (.c (iC r1)))), (2, (.s (.c (.pl 21 0))))]) (m' := [(21, (.row 55 [[(iC a.Framework.Graph.Points), (.pv (.xs false (a.Framework.Graph.Bars.map encTBar))), (.pv (.xs false (a.Framework.Places.map encTPlace))), (.pv (.xs false (a.Kinds.map encInt)))]]))]) ⟨rfl, rfl, trivial⟩ ⟨rfl, trivial⟩) ?_
    refine AWR.region ?_
    refine AOR.pure (LT.fieldPl rfl fo55_1) ⟨rfl, trivial⟩ trivial rfl rfl ?_
    refine AOR.pure (LT.bload1 (c := (.pv (.xs false (a.Kinds.map encInt)))) rfl ag37 (by exact rfl)) ⟨rfl, trivial⟩ ⟨rfl, trivial⟩ rfl rfl ?_
    refine AOR.pure (LT.move (v := (.s (.c (iC r1)))) rfl) ⟨rfl, trivial⟩ trivial rfl rfl ?_
    refine AOR.bind fun r3 hr3 => ?_
    refine AOR.pure (@LT.callF Try.prog _ _ 106 _ _ [(.c (.pv (.xs false (a.Kinds.map encInt)))), (.c (iC r1))] _ _ [] _ _ _ _ (w_laws_szIntS a.Kinds r1 r3 hr3) rfl cb106 (.cons (.c (.same rfl)) (.cons (.c (.same rfl)) .nil)) rfl rfl trivial) ⟨rfl, rfl, rfl, trivial⟩ trivial rfl rfl ?_
    refine AOR.pure (LT.assign (v := (.s (.c (iC r3)))) rfl) ⟨rfl, trivial⟩ trivial rfl rfl ?_
    refine AOR.nil ?_
    refine AWR.seq ?_
    refine AWR.seq ?_
    refine AWR.region ?_
    refine AOR.pure (LT.move (v := (.s (.c (iC r3)))) rfl) ⟨rfl, trivial⟩ trivial rfl rfl ?_
    refine AOR.pure (LT.lss rfl) ⟨rfl, ⟨rfl, rfl⟩, trivial⟩ trivial rfl rfl ?_
    refine AOR.nil ?_
    refine AWR.cond rfl (fun hc4 => ?_) (fun hc4 => ?_)
    · refine AWR.seq ?_
      refine AWR.region ?_
      refine AOR.pure (LT.assign (v := (.s (.c (iC (-1))))) rfl) ⟨⟨rfl, rfl⟩, trivial⟩ trivial rfl rfl ?_
      refine AOR.nil ?_
      refine AWR.ret (FPost.mk (.inr rfl) ⟨rfl, trivial⟩ trivial rfl ⟨PermP.sc, trivial⟩ trivial)
    · refine AWR.skip ?_
      refine AWR.seq ?_
      refine AWR.region ?_
      refine AOR.pure (LT.move (v := (.s (.c (iC r3)))) rfl) ⟨rfl, trivial⟩ trivial rfl rfl ?_
      refine AOR.pure (LT.assign (v := (.s (.c (iC r3)))) rfl) ⟨rfl, trivial⟩ trivial rfl rfl ?_
      refine AOR.nil ?_
      refine AWR.ret (FPost.mk (.inr rfl) ⟨rfl, trivial⟩ trivial rfl ⟨PermP.sc, trivial⟩ trivial)
set_option maxRecDepth 100000 in
set_option maxHeartbeats 8000000 in
theorem w_laws_toTensegrity (a : TTensegrity) : ∀ t, m_laws_toTensegrity a = some t → Fw.Fn Try.prog 38 [(.agg [(iC a.Framework.Graph.Points), (.pv (.xs false (a.Framework.Graph.Bars.map encTBar))), (.pv (.xs false (a.Framework.Places.map encTPlace))), (.pv (.xs false (a.Kinds.map encInt)))])] [] (.s (.agg [(iC t.Framework.Graph.Points), (.loc 0 0 t.Framework.Graph.Bars.length), (.loc 1 0 t.Framework.Places.length), (.loc 2 0 t.Kinds.length)])) [(0, (.prow 79 (t.Framework.Graph.Bars.map encTBar))), (1, (.prow 95 (t.Framework.Places.map encTPlace))), (2, (.prow 3 (t.Kinds.map encInt)))] [] [0, 1, 2] := by
  refine Fw.Fn.of (P := Try.prog) (X := [0, 1, 2]) (pn := []) (rs := (fun (t : TTensegrity) => [(.agg [(iC t.Framework.Graph.Points), (.loc 0 0 t.Framework.Graph.Bars.length), (.loc 1 0 t.Framework.Places.length), (.loc 2 0 t.Kinds.length)])])) (dfs := (fun (t : TTensegrity) => [(0, (.prow 79 (t.Framework.Graph.Bars.map encTBar))), (1, (.prow 95 (t.Framework.Places.map encTPlace))), (2, (.prow 3 (t.Kinds.map encInt)))])) Try.func38 rfl Try.ntmps38 (Nat.le_of_ble_eq_true rfl) rfl ?_
  intro w0 U0 R0 g0
  unfold m_laws_toTensegrity
  refine AWR.seq ?_
  refine AWR.region ?_
  refine AOR.step (LT.box (n := 21) (v := (.agg [(iC a.Framework.Graph.Points), (.pv (.xs false (a.Framework.Graph.Bars.map encTBar))), (.pv (.xs false (a.Framework.Places.map encTPlace))), (.pv (.xs false (a.Kinds.map encInt)))])) rfl sz55 (by exact rfl)) ⟨rfl, trivial⟩ trivial rfl rfl ?_
  refine AOR.step (LT.alloc (n := 22) (cells := [(iC 0), (sC nilV), (sC nilV), (sC nilV)]) rfl ti59 rfl rfl rfl) trivial trivial rfl rfl ?_
  refine AOR.nil ?_
  refine AWR.seq ?_
  refine AWR.region ?_
  refine AOR.step (LT.alloc (n := 23) (cells := [(iC 0), (sC nilV), (sC nilV), (sC nilV)]) rfl ti59 rfl rfl rfl) trivial trivial rfl rfl ?_
  refine AOR.nil ?_
  refine AWR.seq ?_
  refine AWR.region ?_
  refine AOR.pure (LT.fieldPl rfl fo55_0) ⟨rfl, trivial⟩ trivial rfl rfl ?_
  refine AOR.pure (LT.bloadN (out := [(iC a.Framework.Graph.Points), (.pv (.xs false (a.Framework.Graph.Bars.map encTBar))), (.pv (.xs false (a.Framework.Places.map encTPlace)))]) rfl ag53 (infS inf53) sz53 (by exact rfl) (by exact rfl)) ⟨rfl, trivial⟩ ⟨rfl, trivial⟩ rfl rfl ?_
  refine AOR.bind fun r1 hr1 => ?_
  refine AOR.step (@LT.callF Try.prog _ _ 44 _ _ [(.agg [(iC a.Framework.Graph.Points), (.pv (.xs false (a.Framework.Graph.Bars.map encTBar))), (.pv (.xs false (a.Framework.Places.map encTPlace)))])] _ _ [] _ _ _ _ ((show Fw.Fn Try.prog 44 [(.agg [(iC a.Framework.Graph.Points), (.pv (.xs false (a.Framework.Graph.Bars.map encTBar))), (.pv (.xs false (a.Framework.Places.map encTPlace)))])] [] (.s (.agg [(iC r1.Graph.Points), (.loc 25 0 r1.Graph.Bars.length), (.loc 26 0 r1.Places.length)])) [(25, (.prow 79 (r1.Graph.Bars.map encTBar))), (26, (.prow 95 (r1.Places.map encTPlace)))] [] [25, 26] from Fw.Fn.ren [(0, 25), (1, 26)] (w_laws_toFramework a.Framework r1 hr1) rfl)) rfl cb44 (.cons (.agg (.cons (.same rfl) (.cons (.same rfl) (.cons (.same rfl) .nil)))) .nil) rfl rfl trivial) ⟨rfl, rfl, trivial⟩ trivial rfl rfl ?_
  refine AOR.pure (LT.fieldPl rfl fo59_0) ⟨rfl, trivial⟩ trivial rfl rfl ?_
  refine AOR.step (LT.bstore (v := (.agg [(iC r1.Graph.Points), (.loc 25 0 r1.Graph.Bars.length), (.loc 26 0 r1.Places.length)])) (out := [(iC r1.Graph.Points), (.loc 25 0 r1.Graph.Bars.length), (.loc 26 0 r1.Places.length), (sC nilV)]) rfl rfl (infS inf29) sz29 (by exact rfl) (by exact Nat.le_of_ble_eq_true rfl) (by exact rfl)) ⟨rfl, rfl, trivial⟩ ⟨rfl, trivial⟩ rfl rfl ?_
  refine AOR.nil ?_
  refine AWR.seq ?_
  refine AWR.ent (Ent.of (σ' := [(1, (.s (.c (.pl 21 0)))), (2, (.s (.c (.pl 22 0)))), (3, (.s (.c (.pl 23 0))))]) (m' := [(21, (.row 55 [[(iC a.Framework.Graph.Points), (.pv (.xs false (a.Framework.Graph.Bars.map encTBar))), (.pv (.xs false (a.Framework.Places.map encTPlace))), (.pv (.xs false (a.Kinds.map encInt)))]])), (22, (.row 59 [[(iC 0), (sC nilV), (sC nilV), (sC nilV)]])), (23, (.row 59 [[(iC r1.Graph.Points), (.loc 25 0 r1.Graph.Bars.length), (.loc 26 0 r1.Places.length), (sC nilV)]])), (25, (.prow 79 (r1.Graph.Bars.map encTBar))), (26, (.prow 95 (r1.Places.map encTPlace)))]) ⟨rfl, rfl, rfl, trivial⟩ ⟨rfl, rfl, rfl, rfl, rfl, trivial⟩) ?_
  refine AWR.region ?_
  refine AOR.pure (LT.fieldPl rfl fo55_1) ⟨rfl, trivial⟩ trivial rfl rfl ?_
  refine AOR.pure (LT.bload1 (c := (.pv (.xs false (a.Kinds.map encInt)))) rfl ag37 (by exact rfl)) ⟨rfl, trivial⟩ ⟨rfl, trivial⟩ rfl rfl ?_
  refine AOR.bind fun r2 hr2 => ?_
  refine AOR.step (@LT.callF Try.prog _ _ 39 _ _ [(.c (.pv (.xs false (a.Kinds.map encInt))))] _ _ [] _ _ _ _ ((show Fw.Fn Try.prog 39 [(.c (.pv (.xs false (a.Kinds.map encInt))))] [] (.s (.c (.loc 28 0 r2.length))) [(28, (.prow 3 (r2.map encInt)))] [] [28] from Fw.Fn.ren [(0, 28)] (w_laws_toIntS a.Kinds r2 hr2) rfl)) rfl cb39 (.cons (.c (.same rfl)) .nil) rfl rfl trivial) ⟨rfl, rfl, trivial⟩ trivial rfl rfl ?_
  refine AOR.pure (LT.fieldPl rfl fo59_1) ⟨rfl, trivial⟩ trivial rfl rfl ?_
  refine AOR.step (LT.bstore (v := (.c (.loc 28 0 r2.length))) (out := [(iC r1.Graph.Points), (.loc 25 0 r1.Graph.Bars.length), (.loc 26 0 r1.Places.length), (.loc 28 0 r2.length)]) rfl rfl (infS inf37) sz37 (by exact rfl) (by exact Nat.le_of_ble_eq_true rfl) (by exact rfl)) ⟨rfl, rfl, trivial⟩ ⟨rfl, trivial⟩ rfl rfl ?_
  refine AOR.nil ?_
  refine AWR.seq ?_
  refine AWR.region ?_
  refine AOR.pure (LT.bloadN (out := [(iC r1.Graph.Points), (.loc 25 0 r1.Graph.Bars.length), (.loc 26 0 r1.Places.length), (.loc 28 0 r2.length)]) rfl ag59 (infS inf59) sz59 (by exact rfl) (by exact rfl)) ⟨rfl, trivial⟩ ⟨rfl, trivial⟩ rfl rfl ?_
  refine AOR.step (LT.bstore (v := (.agg [(iC r1.Graph.Points), (.loc 25 0 r1.Graph.Bars.length), (.loc 26 0 r1.Places.length), (.loc 28 0 r2.length)])) (out := [(iC r1.Graph.Points), (.loc 25 0 r1.Graph.Bars.length), (.loc 26 0 r1.Places.length), (.loc 28 0 r2.length)]) rfl rfl (infS inf59) sz59 (by exact rfl) (by exact Nat.le_of_ble_eq_true rfl) (by exact rfl)) ⟨rfl, rfl, trivial⟩ ⟨rfl, trivial⟩ rfl rfl ?_
  refine AOR.nil ?_
  refine AWR.ent (Ent.of (σ' := [(2, (.s (.c (.pl 22 0))))]) (m' := [(22, (.row 59 [[(iC r1.Graph.Points), (.loc 25 0 r1.Graph.Bars.length), (.loc 26 0 r1.Places.length), (.loc 28 0 r2.length)]])), (25, (.prow 79 (r1.Graph.Bars.map encTBar))), (26, (.prow 95 (r1.Places.map encTPlace))), (28, (.prow 3 (r2.map encInt)))]) ⟨rfl, trivial⟩ ⟨rfl, rfl, rfl, rfl, trivial⟩) ?_
  refine AWR.ent (Ent.mv 25 0 rfl rfl) ?_
  refine AWR.ent (Ent.mv 26 1 rfl rfl) ?_
  refine AWR.ent (Ent.mv 28 2 rfl rfl) ?_
  refine AWR.ent (Ent.of (σ' := [(2, (.s (.c (.pl 22 0))))]) (m' := [(0, (.prow 79 (r1.Graph.Bars.map encTBar))), (1, (.prow 95 (r1.Places.map encTPlace))), (2, (.prow 3 (r2.map encInt))), (22, (.row 59 [[(iC r1.Graph.Points), (.loc 0 0 r1.Graph.Bars.length), (.loc 1 0 r1.Places.length), (.loc 2 0 r2.length)]]))]) ⟨rfl, trivial⟩ ⟨rfl, rfl, rfl, rfl, trivial⟩) ?_
  refine AWR.ret (FPost.mk (.inr rfl) ⟨⟨_, _, _, rfl, rfl, rfl, ag59, sz59, _, (infS inf59)⟩, trivial⟩ ⟨rfl, rfl, rfl, trivial⟩ rfl ⟨⟨PermP.sc, trivial, trivial, trivial, trivial⟩, trivial⟩ ⟨PermO.prow' perm_encTBar, PermO.prow' perm_encTPlace, PermO.prow' perm_encInt, trivial⟩)
set_option maxRecDepth 100000 in
set_option maxHeartbeats 8000000 in
theorem w_spec_IsTensegrity (tV : TTensegrity) : ∀ t, m_spec_IsTensegrity tV = some t → Fw.Fn Try.prog 134 [(.agg [(iC tV.Framework.Graph.Points), (.pv (.xs false (tV.Framework.Graph.Bars.map encTBar))), (.pv (.xs false (tV.Framework.Places.map encTPlace))), (.pv (.xs false (tV.Kinds.map encInt)))])] [] (.s (.c (bC t))) [] [] [] := by
  refine Fw.Fn.of (P := Try.prog) (X := []) (pn := []) (rs := (fun (t : Bool) => [(.c (bC t))])) (dfs := (fun (t : Bool) => [])) Try.func134 rfl Try.ntmps134 (Nat.le_of_ble_eq_true rfl) rfl ?_
  intro w0 U0 R0 g0
  unfold m_spec_IsTensegrity
  refine AWR.seq ?_
  refine AWR.region ?_
  refine AOR.step (LT.box (n := 21) (v := (.agg [(iC tV.Framework.Graph.Points), (.pv (.xs false (tV.Framework.Graph.Bars.map encTBar))), (.pv (.xs false (tV.Framework.Places.map encTPlace))), (.pv (.xs false (tV.Kinds.map encInt)))])) rfl sz59 (by exact rfl)) ⟨rfl, trivial⟩ trivial rfl rfl ?_
  refine AOR.pure (LT.assign (v := (.s (.c (bC false)))) rfl) ⟨⟨rfl, rfl⟩, trivial⟩ trivial rfl rfl ?_
  refine AOR.nil ?_
  refine AWR.seq ?_
  refine AWR.seq ?_
  refine AWR.region ?_
  refine AOR.pure (LT.assign (v := (.s (.c (iC 0)))) rfl) ⟨⟨rfl, rfl⟩, trivial⟩ trivial rfl rfl ?_
  refine AOR.nil ?_
  refine AWR.block ?_
  refine AWR.loopR (id := 0) (m_spec_IsTensegrity_L1 tV) (fun s1 => ([(1, (.s (.c (.pl 21 0)))), (3, (.s (.c (iC s1))))], [(21, (.row 59 [[(iC tV.Framework.Graph.Points), (.pv (.xs false (tV.Framework.Graph.Bars.map encTBar))), (.pv (.xs false (tV.Framework.Places.map encTPlace))), (.pv (.xs false (tV.Kinds.map encInt)))]]))])) (fun b10 => ([(1, (.s (.c (.pl 21 0))))], [(21, (.row 59 [[(iC tV.Framework.Graph.Points), (.pv (.xs false (tV.Framework.Graph.Bars.map encTBar))), (.pv (.xs false (tV.Framework.Places.map encTPlace))), (.pv (.xs false (tV.Kinds.map encInt)))]]))])) (FPost Try.prog Try.f134.results.toList [] [] (fun (t : Bool) => [(.c (bC t))]) (fun (t : Bool) => [])) ?_ (Ent.of ⟨rfl, rfl, trivial⟩ ⟨rfl, trivial⟩) rfl (fun b10 _ => ?_) (by intro r t σ m ht hk; injection ht with ht; subst ht; exact hk)
  · intro s1
    unfold m_spec_IsTensegrity_L1
    refine AWR.seq ?_
    refine AWR.seq ?_
    refine AWR.region ?_
    refine AOR.pure (LT.move (v := (.s (.c (iC s1)))) rfl) ⟨rfl, trivial⟩ trivial rfl rfl ?_
    refine AOR.pure (LT.fieldPl rfl fo59_1) ⟨rfl, trivial⟩ trivial rfl rfl ?_
    refine AOR.pure (LT.bload1 (c := (.pv (.xs false (tV.Kinds.map encInt)))) rfl ag37 (by exact rfl)) ⟨rfl, trivial⟩ ⟨rfl, trivial⟩ rfl rfl ?_
    refine AOR.pure (LT.tlenRO rfl und37) ⟨rfl, trivial⟩ trivial rfl rfl ?_
    refine AOR.pure (LT.lss rfl) ⟨rfl, rfl, trivial⟩ trivial rfl rfl ?_
    refine AOR.nil ?_
    refine AWR.cond rfl (fun hc11 => ?_) (fun hc11 => ?_)
    · refine AWR.skip ?_
      refine AWR.seq ?_
      refine AWR.block ?_
      refine AWR.seq ?_
      refine AWR.region ?_
      refine AOR.pure (LT.fieldPl rfl fo59_1) ⟨rfl, trivial⟩ trivial rfl rfl ?_
      refine AOR.pure (LT.bload1 (c := (.pv (.xs false (tV.Kinds.map encInt)))) rfl ag37 (by exact rfl)) ⟨rfl, trivial⟩ ⟨rfl, trivial⟩ rfl rfl ?_
      refine AOR.pure (LT.move (v := (.s (.c (iC s1)))) rfl) ⟨rfl, trivial⟩ trivial rfl rfl ?_
      refine AOR.bind fun x12 hx12 => ?_
      refine AOR.pure (LT.tindexRO (enc := encInt) rfl el37 hx12 sz3) ⟨rfl, rfl, trivial⟩ trivial rfl rfl ?_
      refine AOR.pure (LT.loadPx1 rfl ag3) ⟨rfl, trivial⟩ trivial rfl rfl ?_
      refine AOR.bind fun r13 hr13 => ?_
      refine AOR.pure (@LT.callF Try.prog _ _ 92 _ _ [(.c (iC x12)), (.c (iC 0)), (.c (iC 2))] _ _ [] _ _ _ _ (w_spec_l1In x12 0 2 r13 hr13) rfl cb92 (.cons (.c (.same rfl)) (.cons (.c (.same rfl)) (.cons (.c (.same rfl)) .nil))) rfl rfl trivial) ⟨rfl, rfl, ⟨rfl, rfl⟩, ⟨rfl, rfl⟩, trivial⟩ trivial rfl rfl ?_
      refine AOR.pure (LT.not rfl) ⟨rfl, trivial⟩ trivial rfl rfl ?_
      refine AOR.nil ?_
      refine AWR.cond rfl (fun hc14 => ?_) (fun hc14 => ?_)
      · refine AWR.seq ?_
        refine AWR.ent (Ent.of (σ' := []) (m' := []) trivial trivial) ?_
        refine AWR.region ?_
        refine AOR.pure (LT.assign (v := (.s (.c (bC false)))) rfl) ⟨⟨rfl, rfl⟩, trivial⟩ trivial rfl rfl ?_
        refine AOR.nil ?_
        refine AWR.ret ⟨rfl, FPost.mk (.inr rfl) ⟨rfl, trivial⟩ trivial rfl ⟨PermP.sc, trivial⟩ trivial⟩
      · refine AWR.skip ?_
        refine AWR.blk ?_
        refine AWR.ent (Ent.of (σ' := [(1, (.s (.c (.pl 21 0)))), (3, (.s (.c (iC s1))))]) (m' := [(21, (.row 59 [[(iC tV.Framework.Graph.Points), (.pv (.xs false (tV.Framework.Graph.Bars.map encTBar))), (.pv (.xs false (tV.Framework.Places.map encTPlace))), (.pv (.xs false (tV.Kinds.map encInt)))]]))]) ⟨rfl, rfl, trivial⟩ ⟨rfl, trivial⟩) ?_
        refine AWR.region ?_
        refine AOR.pure (LT.move (v := (.s (.c (iC s1)))) rfl) ⟨rfl, trivial⟩ trivial rfl rfl ?_
        refine AOR.pure (LT.add rfl) ⟨rfl, ⟨rfl, rfl⟩, trivial⟩ trivial rfl rfl ?_
        refine AOR.pure (LT.assign (v := (.s (.c (iC (w64 (s1 + 1)))))) rfl) ⟨rfl, trivial⟩ trivial rfl rfl ?_
        refine AOR.nil ?_
        refine AWR.nil ⟨rfl, Ent.of ⟨rfl, rfl, trivial⟩ ⟨rfl, trivial⟩⟩
    · refine AWR.exit_end rfl ⟨rfl, Ent.of ⟨rfl, trivial⟩ ⟨rfl, trivial⟩⟩
  · refine AWR.seq ?_
    refine AWR.joinK (fun j17 => ([(2, (.s (.c (bC j17))))], [])) ?_ (fun j17 _ => ?_)
    · refine AWR.region ?_
      refine AOR.pure (LT.fieldPl rfl fo59_0) ⟨rfl, trivial⟩ trivial rfl rfl ?_
      refine AOR.pure (LT.bloadN (out := [(iC tV.Framework.Graph.Points), (.pv (.xs false (tV.Framework.Graph.Bars.map encTBar))), (.pv (.xs false (tV.Framework.Places.map encTPlace)))]) rfl ag29 (infS inf29) sz29 (by exact rfl) (by exact rfl)) ⟨rfl, trivial⟩ ⟨rfl, trivial⟩ rfl rfl ?_
      refine AOR.bind fun r18 hr18 => ?_
      refine AOR.pure (@LT.callF Try.prog _ _ 18 _ _ [(.agg [(iC tV.Framework.Graph.Points), (.pv (.xs false (tV.Framework.Graph.Bars.map encTBar))), (.pv (.xs false (tV.Framework.Places.map encTPlace)))])] _ _ [] _ _ _ _ (w_spec_IsFramework tV.Framework r18 hr18) rfl cb18 (.cons (.agg (.cons (.same rfl) (.cons (.same rfl) (.cons (.same rfl) .nil)))) .nil) rfl rfl trivial) ⟨rfl, rfl, trivial⟩ trivial rfl rfl ?_
      refine AOR.pure (LT.move (v := (.s (.c (bC r18)))) rfl) ⟨rfl, trivial⟩ trivial rfl rfl ?_
      refine AOR.split (fun hb19 => ?_) (fun hb19 => ?_)
      · refine AOR.pure (LT.fieldPl rfl fo59_1) ⟨rfl, trivial⟩ trivial ⟨_, rfl, .inl ⟨_, rfl, (by rw [hb19]; rfl)⟩⟩ rfl ?_
        refine AOR.pure (LT.bload1 (c := (.pv (.xs false (tV.Kinds.map encInt)))) rfl ag37 (by exact rfl)) ⟨rfl, trivial⟩ ⟨rfl, trivial⟩ ⟨_, rfl, .inl ⟨_, rfl, (by rw [hb19]; rfl)⟩⟩ rfl ?_
        refine AOR.pure (LT.tlenRO rfl und37) ⟨rfl, trivial⟩ trivial ⟨_, rfl, .inl ⟨_, rfl, (by rw [hb19]; rfl)⟩⟩ rfl ?_
        refine AOR.pure (LT.fieldPl rfl fo59_0) ⟨rfl, trivial⟩ trivial ⟨_, rfl, .inl ⟨_, rfl, (by rw [hb19]; rfl)⟩⟩ rfl ?_
        refine AOR.pure (LT.fieldPl rfl fo29_0) ⟨rfl, trivial⟩ trivial ⟨_, rfl, .inl ⟨_, rfl, (by rw [hb19]; rfl)⟩⟩ rfl ?_
        refine AOR.pure (LT.fieldPl rfl fo26_1) ⟨rfl, trivial⟩ trivial ⟨_, rfl, .inl ⟨_, rfl, (by rw [hb19]; rfl)⟩⟩ rfl ?_
        refine AOR.pure (LT.bload1 (c := (.pv (.xs false (tV.Framework.Graph.Bars.map encTBar)))) rfl ag24 (by exact rfl)) ⟨rfl, trivial⟩ ⟨rfl, trivial⟩ ⟨_, rfl, .inl ⟨_, rfl, (by rw [hb19]; rfl)⟩⟩ rfl ?_
        refine AOR.pure (LT.tlenRO rfl und24) ⟨rfl, trivial⟩ trivial ⟨_, rfl, .inl ⟨_, rfl, (by rw [hb19]; rfl)⟩⟩ rfl ?_
        refine AOR.pure (LT.eql rfl) ⟨rfl, rfl, trivial⟩ trivial ⟨_, rfl, .inl ⟨_, rfl, (by rw [hb19]; rfl)⟩⟩ rfl ?_
        refine AOR.pure (LT.pickT (v := (.s (.c (bC ((tV.Kinds.length : Int) == (tV.Framework.Graph.Bars.length : Int)))))) rfl hb19) ⟨rfl, rfl, trivial⟩ trivial rfl rfl ?_
        refine AOR.pure (LT.assign (v := (.s (.c (bC ((tV.Kinds.length : Int) == (tV.Framework.Graph.Bars.length : Int)))))) rfl) ⟨rfl, trivial⟩ trivial rfl rfl ?_
        refine AOR.nil ?_
        refine AWR.nil ⟨rfl, Ent.of ⟨rfl, trivial⟩ trivial⟩
      · refine AOR.skip ⟨_, rfl, .inl ⟨_, rfl, (by rw [hb19]; rfl)⟩⟩ rfl ?_
        refine AOR.skip ⟨_, rfl, .inl ⟨_, rfl, (by rw [hb19]; rfl)⟩⟩ rfl ?_
        refine AOR.skip ⟨_, rfl, .inl ⟨_, rfl, (by rw [hb19]; rfl)⟩⟩ rfl ?_
        refine AOR.skip ⟨_, rfl, .inl ⟨_, rfl, (by rw [hb19]; rfl)⟩⟩ rfl ?_
        refine AOR.skip ⟨_, rfl, .inl ⟨_, rfl, (by rw [hb19]; rfl)⟩⟩ rfl ?_
        refine AOR.skip ⟨_, rfl, .inl ⟨_, rfl, (by rw [hb19]; rfl)⟩⟩ rfl ?_
        refine AOR.skip ⟨_, rfl, .inl ⟨_, rfl, (by rw [hb19]; rfl)⟩⟩ rfl ?_
        refine AOR.skip ⟨_, rfl, .inl ⟨_, rfl, (by rw [hb19]; rfl)⟩⟩ rfl ?_
        refine AOR.skip ⟨_, rfl, .inl ⟨_, rfl, (by rw [hb19]; rfl)⟩⟩ rfl ?_
        refine AOR.pure (LT.pickF (v := (.s (.c (bC false)))) rfl hb19) ⟨rfl, ⟨rfl, rfl⟩, trivial⟩ trivial rfl rfl ?_
        refine AOR.pure (LT.assign (v := (.s (.c (bC false)))) rfl) ⟨rfl, trivial⟩ trivial rfl rfl ?_
        refine AOR.nil ?_
        refine AWR.nil ⟨rfl, Ent.of ⟨rfl, trivial⟩ trivial⟩
    · refine AWR.ret (FPost.mk (.inr rfl) ⟨rfl, trivial⟩ trivial rfl ⟨PermP.sc, trivial⟩ trivial)
set_option maxRecDepth 100000 in
set_option maxHeartbeats 8000000 in
theorem w_spec_l13Vector (f : TFramework) (w : (List Int)) : ∀ t, m_spec_l13Vector f w = some t → Fw.Fn Try.prog 104 [(.agg [(iC f.Graph.Points), (.pv (.xs false (f.Graph.Bars.map encTBar))), (.pv (.xs false (f.Places.map encTPlace)))]), (.c (.pv (.xs false (w.map encInt))))] [] (.s (.c (bC t))) [] [] [] := by
  refine Fw.Fn.of (P := Try.prog) (X := []) (pn := []) (rs := (fun (t : Bool) => [(.c (bC t))])) (dfs := (fun (t : Bool) => [])) Try.func104 rfl Try.ntmps104 (Nat.le_of_ble_eq_true rfl) rfl ?_
  intro w0 U0 R0 g0
  unfold m_spec_l13Vector
  refine AWR.seq ?_
  refine AWR.region ?_
  refine AOR.step (LT.box (n := 21) (v := (.agg [(iC f.Graph.Points), (.pv (.xs false (f.Graph.Bars.map encTBar))), (.pv (.xs false (f.Places.map encTPlace)))])) rfl sz29 (by exact rfl)) ⟨rfl, trivial⟩ trivial rfl rfl ?_
  refine AOR.pure (LT.assign (v := (.s (.c (bC false)))) rfl) ⟨⟨rfl, rfl⟩, trivial⟩ trivial rfl rfl ?_
  refine AOR.nil ?_
  refine AWR.seq ?_
  refine AWR.seq ?_
  refine AWR.region ?_
  refine AOR.pure (LT.assign (v := (.s (.c (iC 0)))) rfl) ⟨⟨rfl, rfl⟩, trivial⟩ trivial rfl rfl ?_
  refine AOR.nil ?_
  refine AWR.block ?_
  refine AWR.loopR (id := 0) (m_spec_l13Vector_L1 w) (fun s1 => ([(1, (.s (.c (.pv (.xs false (w.map encInt)))))), (2, (.s (.c (.pl 21 0)))), (5, (.s (.c (iC s1))))], [(21, (.row 29 [[(iC f.Graph.Points), (.pv (.xs false (f.Graph.Bars.map encTBar))), (.pv (.xs false (f.Places.map encTPlace)))]]))])) (fun b10 => ([(1, (.s (.c (.pv (.xs false (w.map encInt)))))), (2, (.s (.c (.pl 21 0))))], [(21, (.row 29 [[(iC f.Graph.Points), (.pv (.xs false (f.Graph.Bars.map encTBar))), (.pv (.xs false (f.Places.map encTPlace)))]]))])) (FPost Try.prog Try.f104.results.toList [] [] (fun (t : Bool) => [(.c (bC t))]) (fun (t : Bool) => [])) ?_ (Ent.of ⟨rfl, rfl, rfl, trivial⟩ ⟨rfl, trivial⟩) rfl (fun b10 _ => ?_) (by intro r t σ m ht hk; injection ht with ht; subst ht; exact hk)
  · intro s1
    unfold m_spec_l13Vector_L1
    refine AWR.seq ?_
    refine AWR.seq ?_
    refine AWR.region ?_
    refine AOR.pure (LT.move (v := (.s (.c (iC s1)))) rfl) ⟨rfl, trivial⟩ trivial rfl rfl ?_
    refine AOR.pure (LT.move (v := (.s (.c (.pv (.xs false (w.map encInt)))))) rfl) ⟨rfl, trivial⟩ trivial rfl rfl ?_
    refine AOR.pure (LT.tlenRO rfl und37) ⟨rfl, trivial⟩ trivial rfl rfl ?_
    refine AOR.pure (LT.lss rfl) ⟨rfl, rfl, trivial⟩ trivial rfl rfl ?_
    refine AOR.nil ?_
    refine AWR.cond rfl (fun hc11 => ?_) (fun hc11 => ?_)
    · refine AWR.skip ?_
      refine AWR.seq ?_
      refine AWR.block ?_
      refine AWR.seq ?_
      refine AWR.region ?_
      refine AOR.pure (LT.move (v := (.s (.c (.pv (.xs false (w.map encInt)))))) rfl) ⟨rfl, trivial⟩ trivial rfl rfl ?_
      refine AOR.pure (LT.move (v := (.s (.c (iC s1)))) rfl) ⟨rfl, trivial⟩ trivial rfl rfl ?_
      refine AOR.bind fun x12 hx12 => ?_
      refine AOR.pure (LT.tindexRO (enc := encInt) rfl el37 hx12 sz3) ⟨rfl, rfl, trivial⟩ trivial rfl rfl ?_
      refine AOR.pure (LT.loadPx1 rfl ag3) ⟨rfl, trivial⟩ trivial rfl rfl ?_
      refine AOR.bind fun r13 hr13 => ?_
      refine AOR.pure (@LT.callF Try.prog _ _ 92 _ _ [(.c (iC x12)), (.c (iC (-10000000000))), (.c (iC 10000000000))] _ _ [] _ _ _ _ (w_spec_l1In x12 (-10000000000) 10000000000 r13 hr13) rfl cb92 (.cons (.c (.same rfl)) (.cons (.c (.same rfl)) (.cons (.c (.same rfl)) .nil))) rfl rfl trivial) ⟨rfl, rfl, ⟨rfl, rfl⟩, ⟨rfl, rfl⟩, trivial⟩ trivial rfl rfl ?_
      refine AOR.pure (LT.not rfl) ⟨rfl, trivial⟩ trivial rfl rfl ?_
      refine AOR.nil ?_
      refine AWR.cond rfl (fun hc14 => ?_) (fun hc14 => ?_)
      · refine AWR.seq ?_
        refine AWR.region ?_
        refine AOR.pure (LT.assign (v := (.s (.c (bC false)))) rfl) ⟨⟨rfl, rfl⟩, trivial⟩ trivial rfl rfl ?_
        refine AOR.nil ?_
        refine AWR.ret ⟨rfl, FPost.mk (.inr rfl) ⟨rfl, trivial⟩ trivial rfl ⟨PermP.sc, trivial⟩ trivial⟩
      · refine AWR.skip ?_
        refine AWR.blk ?_
        refine AWR.region ?_
        refine AOR.pure (LT.move (v := (.s (.c (iC s1)))) rfl) ⟨rfl, trivial⟩ trivial rfl rfl ?_
        refine AOR.pure (LT.add rfl) ⟨rfl, ⟨rfl, rfl⟩, trivial⟩ trivial rfl rfl ?_
        refine AOR.pure (LT.assign (v := (.s (.c (iC (w64 (s1 + 1)))))) rfl) ⟨rfl, trivial⟩ trivial rfl rfl ?_
        refine AOR.nil ?_
        refine AWR.nil ⟨rfl, Ent.of ⟨rfl, rfl, rfl, trivial⟩ ⟨rfl, trivial⟩⟩
    · refine AWR.exit_end rfl ⟨rfl, Ent.of ⟨rfl, rfl, trivial⟩ ⟨rfl, trivial⟩⟩
  · refine AWR.seq ?_
    refine AWR.joinK (fun j17 => ([(4, (.s (.c (bC j17))))], [])) ?_ (fun j17 _ => ?_)
    · refine AWR.region ?_
      refine AOR.pure (LT.bloadN (out := [(iC f.Graph.Points), (.pv (.xs false (f.Graph.Bars.map encTBar))), (.pv (.xs false (f.Places.map encTPlace)))]) rfl ag29 (infS inf29) sz29 (by exact rfl) (by exact rfl)) ⟨rfl, trivial⟩ ⟨rfl, trivial⟩ rfl rfl ?_
      refine AOR.bind fun r18 hr18 => ?_
      refine AOR.pure (@LT.callF Try.prog _ _ 18 _ _ [(.agg [(iC f.Graph.Points), (.pv (.xs false (f.Graph.Bars.map encTBar))), (.pv (.xs false (f.Places.map encTPlace)))])] _ _ [] _ _ _ _ (w_spec_IsFramework f r18 hr18) rfl cb18 (.cons (.agg (.cons (.same rfl) (.cons (.same rfl) (.cons (.same rfl) .nil)))) .nil) rfl rfl trivial) ⟨rfl, rfl, trivial⟩ trivial rfl rfl ?_
      refine AOR.pure (LT.move (v := (.s (.c (bC r18)))) rfl) ⟨rfl, trivial⟩ trivial rfl rfl ?_
      refine AOR.split (fun hb19 => ?_) (fun hb19 => ?_)
      · refine AOR.pure (LT.move (v := (.s (.c (.pv (.xs false (w.map encInt)))))) rfl) ⟨rfl, trivial⟩ trivial ⟨_, rfl, .inl ⟨_, rfl, (by rw [hb19]; rfl)⟩⟩ rfl ?_
        refine AOR.pure (LT.tlenRO rfl und37) ⟨rfl, trivial⟩ trivial ⟨_, rfl, .inl ⟨_, rfl, (by rw [hb19]; rfl)⟩⟩ rfl ?_
        refine AOR.pure (LT.fieldPl rfl fo29_0) ⟨rfl, trivial⟩ trivial ⟨_, rfl, .inl ⟨_, rfl, (by rw [hb19]; rfl)⟩⟩ rfl ?_
        refine AOR.pure (LT.fieldPl rfl fo26_1) ⟨rfl, trivial⟩ trivial ⟨_, rfl, .inl ⟨_, rfl, (by rw [hb19]; rfl)⟩⟩ rfl ?_
        refine AOR.pure (LT.bload1 (c := (.pv (.xs false (f.Graph.Bars.map encTBar)))) rfl ag24 (by exact rfl)) ⟨rfl, trivial⟩ ⟨rfl, trivial⟩ ⟨_, rfl, .inl ⟨_, rfl, (by rw [hb19]; rfl)⟩⟩ rfl ?_
        refine AOR.pure (LT.tlenRO rfl und24) ⟨rfl, trivial⟩ trivial ⟨_, rfl, .inl ⟨_, rfl, (by rw [hb19]; rfl)⟩⟩ rfl ?_
        refine AOR.pure (LT.eql rfl) ⟨rfl, rfl, trivial⟩ trivial ⟨_, rfl, .inl ⟨_, rfl, (by rw [hb19]; rfl)⟩⟩ rfl ?_
        refine AOR.pure (LT.pickT (v := (.s (.c (bC ((w.length : Int) == (f.Graph.Bars.length : Int)))))) rfl hb19) ⟨rfl, rfl, trivial⟩ trivial rfl rfl ?_
        refine AOR.pure (LT.assign (v := (.s (.c (bC ((w.length : Int) == (f.Graph.Bars.length : Int)))))) rfl) ⟨rfl, trivial⟩ trivial rfl rfl ?_
        refine AOR.nil ?_
        refine AWR.nil ⟨rfl, Ent.of ⟨rfl, trivial⟩ trivial⟩
      · refine AOR.skip ⟨_, rfl, .inl ⟨_, rfl, (by rw [hb19]; rfl)⟩⟩ rfl ?_
        refine AOR.skip ⟨_, rfl, .inl ⟨_, rfl, (by rw [hb19]; rfl)⟩⟩ rfl ?_
        refine AOR.skip ⟨_, rfl, .inl ⟨_, rfl, (by rw [hb19]; rfl)⟩⟩ rfl ?_
        refine AOR.skip ⟨_, rfl, .inl ⟨_, rfl, (by rw [hb19]; rfl)⟩⟩ rfl ?_
        refine AOR.skip ⟨_, rfl, .inl ⟨_, rfl, (by rw [hb19]; rfl)⟩⟩ rfl ?_
        refine AOR.skip ⟨_, rfl, .inl ⟨_, rfl, (by rw [hb19]; rfl)⟩⟩ rfl ?_
        refine AOR.skip ⟨_, rfl, .inl ⟨_, rfl, (by rw [hb19]; rfl)⟩⟩ rfl ?_
        refine AOR.pure (LT.pickF (v := (.s (.c (bC false)))) rfl hb19) ⟨rfl, ⟨rfl, rfl⟩, trivial⟩ trivial rfl rfl ?_
        refine AOR.pure (LT.assign (v := (.s (.c (bC false)))) rfl) ⟨rfl, trivial⟩ trivial rfl rfl ?_
        refine AOR.nil ?_
        refine AWR.nil ⟨rfl, Ent.of ⟨rfl, trivial⟩ trivial⟩
    · refine AWR.ret (FPost.mk (.inr rfl) ⟨rfl, trivial⟩ trivial rfl ⟨PermP.sc, trivial⟩ trivial)
set_option maxRecDepth 100000 in
set_option maxHeartbeats 8000000 in
theorem w_spec_ForceAt (f : TFramework) (w : (List Int)) (v : Int) : ∀ t, m_spec_ForceAt f w v = some t → Fw.Fn Try.prog 33 [(.agg [(iC f.Graph.Points), (.pv (.xs false (f.Graph.Bars.map encTBar))), (.pv (.xs false (f.Places.map encTPlace)))]), (.c (.pv (.xs false (w.map encInt)))), (.c (iC v))] [] (resA [(.c (iC t.1)), (.c (iC t.2))]) [] [] [] := by
  refine Fw.Fn.of (P := Try.prog) (X := []) (pn := []) (rs := (fun (t : (Int × Int)) => [(.c (iC t.1)), (.c (iC t.2))])) (dfs := (fun (t : (Int × Int)) => [])) Try.func33 rfl Try.ntmps33 (Nat.le_of_ble_eq_true rfl) rfl ?_
  intro w0 U0 R0 g0
  unfold m_spec_ForceAt
  refine AWR.seq ?_
  refine AWR.region ?_
  refine AOR.step (LT.box (n := 21) (v := (.agg [(iC f.Graph.Points), (.pv (.xs false (f.Graph.Bars.map encTBar))), (.pv (.xs false (f.Places.map encTPlace)))])) rfl sz29 (by exact rfl)) ⟨rfl, trivial⟩ trivial rfl rfl ?_
  refine AOR.pure (LT.assign (v := (.s (.c (iC 0)))) rfl) ⟨⟨rfl, rfl⟩, trivial⟩ trivial rfl rfl ?_
  refine AOR.pure (LT.assign (v := (.s (.c (iC 0)))) rfl) ⟨⟨rfl, rfl⟩, trivial⟩ trivial rfl rfl ?_
  refine AOR.nil ?_
  refine AWR.seq ?_
  refine AWR.region ?_
  refine AOR.pure (LT.assign (v := (.s (.c (iC 0)))) rfl) ⟨⟨rfl, rfl⟩, trivial⟩ trivial rfl rfl ?_
  refine AOR.nil ?_
  refine AWR.seq ?_
  refine AWR.region ?_
  refine AOR.pure (LT.assign (v := (.s (.c (iC 0)))) rfl) ⟨⟨rfl, rfl⟩, trivial⟩ trivial rfl rfl ?_
  refine AOR.nil ?_
  refine AWR.seq ?_
  refine AWR.seq ?_
  refine AWR.region ?_
  refine AOR.pure (LT.assign (v := (.s (.c (iC 0)))) rfl) ⟨⟨rfl, rfl⟩, trivial⟩ trivial rfl rfl ?_
  refine AOR.nil ?_
  refine AWR.block ?_
  refine AWR.loop1 (id := 0) (m_spec_ForceAt_L1 f w v) (fun s1 => ([(1, (.s (.c (.pv (.xs false (w.map encInt)))))), (2, (.s (.c (iC v)))), (3, (.s (.c (.pl 21 0)))), (8, (.s (.c (iC s1.1)))), (9, (.s (.c (iC s1.2.1)))), (10, (.s (.c (iC s1.2.2))))], [(21, (.row 29 [[(iC f.Graph.Points), (.pv (.xs false (f.Graph.Bars.map encTBar))), (.pv (.xs false (f.Places.map encTPlace)))]]))])) (fun b56 => ([(8, (.s (.c (iC b56.1)))), (9, (.s (.c (iC b56.2))))], [])) ?_ (Ent.of ⟨rfl, rfl, rfl, rfl, rfl, rfl, trivial⟩ ⟨rfl, trivial⟩) rfl (fun b56 _ => ?_)
  · intro s1
    unfold m_spec_ForceAt_L1
    refine AWR.seq ?_
    refine AWR.seq ?_
    refine AWR.joinK (fun j59 => ([(1, (.s (.c (.pv (.xs false (w.map encInt)))))), (2, (.s (.c (iC v)))), (3, (.s (.c (.pl 21 0)))), (8, (.s (.c (iC s1.1)))), (9, (.s (.c (iC s1.2.1)))), (10, (.s (.c (iC s1.2.2)))), (21, (.s (.c (bC j59))))], [(21, (.row 29 [[(iC f.Graph.Points), (.pv (.xs false (f.Graph.Bars.map encTBar))), (.pv (.xs false (f.Places.map encTPlace)))]]))])) ?_ (fun j59 _ => ?_)
    · refine AWR.region ?_
      refine AOR.pure (LT.move (v := (.s (.c (iC s1.2.2)))) rfl) ⟨rfl, trivial⟩ trivial rfl rfl ?_
      refine AOR.pure (LT.move (v := (.s (.c (.pv (.xs false (w.map encInt)))))) rfl) ⟨rfl, trivial⟩ trivial rfl rfl ?_
      refine AOR.pure (LT.tlenRO rfl und37) ⟨rfl, trivial⟩ trivial rfl rfl ?_
      refine AOR.pure (LT.lss rfl) ⟨rfl, rfl, trivial⟩ trivial rfl rfl ?_
      refine AOR.pure (LT.move (v := (.s (.c (bC (decide (s1.2.2 < (w.length : Int))))))) rfl) ⟨rfl, trivial⟩ trivial rfl rfl ?_
      refine AOR.split (fun hb60 => ?_) (fun hb60 => ?_)
      · refine AOR.pure (LT.bloadN (out := [(iC f.Graph.Points), (.pv (.xs false (f.Graph.Bars.map encTBar))), (.pv (.xs false (f.Places.map encTPlace)))]) rfl ag29 (infS inf29) sz29 (by exact rfl) (by exact rfl)) ⟨rfl, trivial⟩ ⟨rfl, trivial⟩ ⟨_, rfl, .inl ⟨_, rfl, (by rw [hb60]; rfl)⟩⟩ rfl ?_
        refine AOR.pure (LT.move (v := (.s (.c (.pv (.xs false (w.map encInt)))))) rfl) ⟨rfl, trivial⟩ trivial ⟨_, rfl, .inl ⟨_, rfl, (by rw [hb60]; rfl)⟩⟩ rfl ?_
        refine AOR.bind fun r61 hr61 => ?_
        refine AOR.pure (@LT.callF Try.prog _ _ 104 _ _ [(.agg [(iC f.Graph.Points), (.pv (.xs false (f.Graph.Bars.map encTBar))), (.pv (.xs false (f.Places.map encTPlace)))]), (.c (.pv (.xs false (w.map encInt))))] _ _ [] _ _ _ _ (w_spec_l13Vector f w r61 hr61) rfl cb104 (.cons (.agg (.cons (.same rfl) (.cons (.same rfl) (.cons (.same rfl) .nil)))) (.cons (.c (.same rfl)) .nil)) rfl rfl trivial) ⟨rfl, rfl, rfl, trivial⟩ trivial ⟨_, rfl, .inl ⟨_, rfl, (by rw [hb60]; rfl)⟩⟩ rfl ?_
        refine AOR.pure (LT.pickT (v := (.s (.c (bC r61)))) rfl hb60) ⟨rfl, rfl, trivial⟩ trivial rfl rfl ?_
        refine AOR.nil ?_
        refine AWR.nil ⟨rfl, Ent.of ⟨rfl, rfl, rfl, rfl, rfl, rfl, rfl, trivial⟩ ⟨rfl, trivial⟩⟩
      · refine AOR.skip ⟨_, rfl, .inl ⟨_, rfl, (by rw [hb60]; rfl)⟩⟩ rfl ?_
        refine AOR.skip ⟨_, rfl, .inl ⟨_, rfl, (by rw [hb60]; rfl)⟩⟩ rfl ?_
        refine AOR.skip ⟨_, rfl, .inl ⟨_, rfl, (by rw [hb60]; rfl)⟩⟩ rfl ?_
        refine AOR.pure (LT.pickF (v := (.s (.c (bC false)))) rfl hb60) ⟨rfl, ⟨rfl, rfl⟩, trivial⟩ trivial rfl rfl ?_
        refine AOR.nil ?_
        refine AWR.nil ⟨rfl, Ent.of ⟨rfl, rfl, rfl, rfl, rfl, rfl, rfl, trivial⟩ ⟨rfl, trivial⟩⟩
    · refine AWR.cond rfl (fun hc62 => ?_) (fun hc62 => ?_)
      · refine AWR.skip ?_
        refine AWR.seq ?_
        refine AWR.block ?_
        refine AWR.seq ?_
        refine AWR.region ?_
        refine AOR.pure (LT.fieldPl rfl fo29_0) ⟨rfl, trivial⟩ trivial rfl rfl ?_
        refine AOR.pure (LT.fieldPl rfl fo26_1) ⟨rfl, trivial⟩ trivial rfl rfl ?_
        refine AOR.pure (LT.bload1 (c := (.pv (.xs false (f.Graph.Bars.map encTBar)))) rfl ag24 (by exact rfl)) ⟨rfl, trivial⟩ ⟨rfl, trivial⟩ rfl rfl ?_
        refine AOR.pure (LT.move (v := (.s (.c (iC s1.2.2)))) rfl) ⟨rfl, trivial⟩ trivial rfl rfl ?_
        refine AOR.bind fun x63 hx63 => ?_
        refine AOR.pure (LT.tindexRO (enc := encTBar) rfl el24 hx63 sz79) ⟨rfl, rfl, trivial⟩ trivial rfl rfl ?_
        refine AOR.pure (LT.loadPxN rfl ag79 (infS inf79) (by exact sz79.symm)) ⟨rfl, trivial⟩ trivial rfl rfl ?_
        refine AOR.step (LT.alloc (n := 23) (cells := [(iC 0), (iC 0)]) rfl ti79 rfl rfl rfl) trivial trivial rfl rfl ?_
        refine AOR.step (LT.bstore (v := (.agg [(iC x63.A), (iC x63.B)])) (out := [(iC x63.A), (iC x63.B)]) rfl rfl (infS inf79) sz79 (by exact rfl) (by exact Nat.le_of_ble_eq_true rfl) (by exact rfl)) ⟨rfl, rfl, trivial⟩ ⟨rfl, trivial⟩ rfl rfl ?_
        refine AOR.nil ?_
        refine AWR.seq ?_
        refine AWR.joinK (fun j65 => ([(1, (.s (.c (.pv (.xs false (w.map encInt)))))), (2, (.s (.c (iC v)))), (3, (.s (.c (.pl 21 0)))), (8, (.s (.c (iC s1.1)))), (9, (.s (.c (iC s1.2.1)))), (10, (.s (.c (iC s1.2.2)))), (11, (.s (.c (.pl 23 0)))), (39, (.s (.c (bC j65))))], [(21, (.row 29 [[(iC f.Graph.Points), (.pv (.xs false (f.Graph.Bars.map encTBar))), (.pv (.xs false (f.Places.map encTPlace)))]])), (23, (.row 79 [[(iC x63.A), (iC x63.B)]]))])) ?_ (fun j65 _ => ?_)
        · refine AWR.ent (Ent.of (σ' := [(1, (.s (.c (.pv (.xs false (w.map encInt)))))), (2, (.s (.c (iC v)))), (3, (.s (.c (.pl 21 0)))), (8, (.s (.c (iC s1.1)))), (9, (.s (.c (iC s1.2.1)))), (10, (.s (.c (iC s1.2.2)))), (11, (.s (.c (.pl 23 0))))]) (m' := [(21, (.row 29 [[(iC f.Graph.Points), (.pv (.xs false (f.Graph.Bars.map encTBar))), (.pv (.xs false (f.Places.map encTPlace)))]])), (23, (.row 79 [[(iC x63.A), (iC x63.B)]]))]) ⟨rfl, rfl, rfl, rfl, rfl, rfl, rfl, trivial⟩ ⟨rfl, rfl, trivial⟩) ?_
          refine AWR.region ?_
          refine AOR.pure (LT.fieldPl rfl fo79_0) ⟨rfl, trivial⟩ trivial rfl rfl ?_
          refine AOR.pure (LT.bload1 (c := (iC x63.A)) rfl ag3 (by exact rfl)) ⟨rfl, trivial⟩ ⟨rfl, trivial⟩ rfl rfl ?_
          refine AOR.pure (LT.move (v := (.s (.c (iC v)))) rfl) ⟨rfl, trivial⟩ trivial rfl rfl ?_
          refine AOR.pure (LT.eql rfl) ⟨rfl, rfl, trivial⟩ trivial rfl rfl ?_
          refine AOR.pure (LT.move (v := (.s (.c (bC (x63.A == v))))) rfl) ⟨rfl, trivial⟩ trivial rfl rfl ?_
          refine AOR.split (fun hb66 => ?_) (fun hb66 => ?_)
          · refine AOR.skip ⟨_, rfl, .inl ⟨_, rfl, (by rw [hb66]; rfl)⟩⟩ rfl ?_
            refine AOR.skip ⟨_, rfl, .inl ⟨_, rfl, (by rw [hb66]; rfl)⟩⟩ rfl ?_
            refine AOR.skip ⟨_, rfl, .inl ⟨_, rfl, (by rw [hb66]; rfl)⟩⟩ rfl ?_
            refine AOR.skip ⟨_, rfl, .inl ⟨_, rfl, (by rw [hb66]; rfl)⟩⟩ rfl ?_
            refine AOR.pure (LT.pickT (v := (.s (.c (bC true)))) rfl hb66) ⟨rfl, ⟨rfl, rfl⟩, trivial⟩ trivial rfl rfl ?_
            refine AOR.nil ?_
            refine AWR.nil ⟨rfl, Ent.of ⟨rfl, rfl, rfl, rfl, rfl, rfl, rfl, rfl, trivial⟩ ⟨rfl, rfl, trivial⟩⟩
          · refine AOR.pure (LT.fieldPl rfl fo79_1) ⟨rfl, trivial⟩ trivial ⟨_, rfl, .inl ⟨_, rfl, (by rw [hb66]; rfl)⟩⟩ rfl ?_
            refine AOR.pure (LT.bload1 (c := (iC x63.B)) rfl ag3 (by exact rfl)) ⟨rfl, trivial⟩ ⟨rfl, trivial⟩ ⟨_, rfl, .inl ⟨_, rfl, (by rw [hb66]; rfl)⟩⟩ rfl ?_
            refine AOR.pure (LT.move (v := (.s (.c (iC v)))) rfl) ⟨rfl, trivial⟩ trivial ⟨_, rfl, .inl ⟨_, rfl, (by rw [hb66]; rfl)⟩⟩ rfl ?_
            refine AOR.pure (LT.eql rfl) ⟨rfl, rfl, trivial⟩ trivial ⟨_, rfl, .inl ⟨_, rfl, (by rw [hb66]; rfl)⟩⟩ rfl ?_
            refine AOR.pure (LT.pickF (v := (.s (.c (bC (x63.B == v))))) rfl hb66) ⟨rfl, rfl, trivial⟩ trivial rfl rfl ?_
            refine AOR.nil ?_
            refine AWR.nil ⟨rfl, Ent.of ⟨rfl, rfl, rfl, rfl, rfl, rfl, rfl, rfl, trivial⟩ ⟨rfl, rfl, trivial⟩⟩
        · refine AWR.joinK (fun j75 => ([(1, (.s (.c (.pv (.xs false (w.map encInt)))))), (2, (.s (.c (iC v)))), (3, (.s (.c (.pl 21 0)))), (8, (.s (.c (iC j75.1)))), (9, (.s (.c (iC j75.2)))), (10, (.s (.c (iC s1.2.2))))], [(21, (.row 29 [[(iC f.Graph.Points), (.pv (.xs false (f.Graph.Bars.map encTBar))), (.pv (.xs false (f.Places.map encTPlace)))]]))])) ?_ (fun j75 _ => ?_)
          · refine AWR.cond rfl (fun hc76 => ?_) (fun hc76 => ?_)
            · refine AWR.seq ?_
              refine AWR.region ?_
              refine AOR.pure (LT.bloadN (out := [(iC x63.A), (iC x63.B)]) rfl ag79 (infS inf79) sz79 (by exact rfl) (by exact rfl)) ⟨rfl, trivial⟩ ⟨rfl, trivial⟩ rfl rfl ?_
              refine AOR.pure (LT.move (v := (.s (.c (iC v)))) rfl) ⟨rfl, trivial⟩ trivial rfl rfl ?_
              refine AOR.bind fun r77 hr77 => ?_
              refine AOR.pure (@LT.callF Try.prog _ _ 105 _ _ [(.agg [(iC x63.A), (iC x63.B)]), (.c (iC v))] _ _ [] _ _ _ _ (w_spec_l4Other x63 v r77 hr77) rfl cb105 (.cons (.agg (.cons (.same rfl) (.cons (.same rfl) .nil))) (.cons (.c (.same rfl)) .nil)) rfl rfl trivial) ⟨rfl, rfl, rfl, trivial⟩ trivial rfl rfl ?_
              refine AOR.pure (LT.assign (v := (.s (.c (iC r77)))) rfl) ⟨rfl, trivial⟩ trivial rfl rfl ?_
              refine AOR.nil ?_
              refine AWR.seq ?_
              refine AWR.draw mixed ?_
              refine AOD.pure (LT.move (v := (.s (.c (iC s1.1)))) rfl) ⟨rfl, trivial⟩ trivial rfl rfl ?_
              refine AOD.pure (LT.move (v := (.s (.c (.pv (.xs false (w.map encInt)))))) rfl) ⟨rfl, trivial⟩ trivial rfl rfl ?_
              refine AOD.pure (LT.move (v := (.s (.c (iC s1.2.2)))) rfl) ⟨rfl, trivial⟩ trivial rfl rfl ?_
              refine AOD.bind fun x78 hx78 => ?_
              refine AOD.pure (LT.tindexRO (enc := encInt) rfl el37 hx78 sz3) ⟨rfl, rfl, trivial⟩ trivial rfl rfl ?_
              refine AOD.pure (LT.loadPx1 rfl ag3) ⟨rfl, trivial⟩ trivial rfl rfl ?_
              refine AOD.pure (LT.fieldPl rfl fo29_1) ⟨rfl, trivial⟩ trivial rfl rfl ?_
              refine AOD.pure (LT.bload1 (c := (.pv (.xs false (f.Places.map encTPlace)))) rfl ag27 (by exact rfl)) ⟨rfl, trivial⟩ ⟨rfl, trivial⟩ rfl rfl ?_
              refine AOD.pure (LT.move (v := (.s (.c (iC v)))) rfl) ⟨rfl, trivial⟩ trivial rfl rfl ?_
              refine AOD.bind fun x79 hx79 => ?_
              refine AOD.pure (LT.tindexRO (enc := encTPlace) rfl el27 hx79 sz95) ⟨rfl, rfl, trivial⟩ trivial rfl rfl ?_
              refine AOD.pure (LT.fieldPx rfl fo95_0) ⟨rfl, trivial⟩ trivial rfl rfl ?_
              refine AOD.pure (LT.loadPx1 rfl ag3) ⟨rfl, trivial⟩ trivial rfl rfl ?_
              refine AOD.pure (LT.fieldPl rfl fo29_1) ⟨rfl, trivial⟩ trivial rfl rfl ?_
              refine AOD.pure (LT.bload1 (c := (.pv (.xs false (f.Places.map encTPlace)))) rfl ag27 (by exact rfl)) ⟨rfl, trivial⟩ ⟨rfl, trivial⟩ rfl rfl ?_
              refine AOD.pure (LT.move (v := (.s (.c (iC r77)))) rfl) ⟨rfl, trivial⟩ trivial rfl rfl ?_
              refine AOD.bind fun x80 hx80 => ?_
              refine AOD.pure (LT.tindexRO (enc := encTPlace) rfl el27 hx80 sz95) ⟨rfl, rfl, trivial⟩ trivial rfl rfl ?_
              refine AOD.pure (LT.fieldPx rfl fo95_0) ⟨rfl, trivial⟩ trivial rfl rfl ?_
              refine AOD.pure (LT.loadPx1 rfl ag3) ⟨rfl, trivial⟩ trivial rfl rfl ?_
              refine AOD.pure (LT.sub rfl) ⟨rfl, rfl, trivial⟩ trivial rfl rfl ?_
              refine AOD.pure (LT.mul rfl) ⟨rfl, rfl, trivial⟩ trivial rfl rfl ?_
              refine AOD.pure (LT.add rfl) ⟨rfl, rfl, trivial⟩ trivial rfl rfl ?_
              refine AOD.pure (LT.assign (v := (.s (.c (iC (w64 (s1.1 + (w64 (x78 * (w64 (x79.X - x80.X)))))))))) rfl) ⟨rfl, trivial⟩ trivial rfl rfl ?_
              refine AOD.nil (by kernel_rfl) ?_
              refine AWR.ent (Ent.of (σ' := [(1, (.s (.c (.pv (.xs false (w.map encInt)))))), (2, (.s (.c (iC v)))), (3, (.s (.c (.pl 21 0)))), (8, (.s (.c (iC (w64 (s1.1 + (w64 (x78 * (w64 (x79.X - x80.X)))))))))), (9, (.s (.c (iC s1.2.1)))), (10, (.s (.c (iC s1.2.2)))), (12, (.s (.c (iC r77))))]) (m' := [(21, (.row 29 [[(iC f.Graph.Points), (.pv (.xs false (f.Graph.Bars.map encTBar))), (.pv (.xs false (f.Places.map encTPlace)))]]))]) ⟨rfl, rfl, rfl, rfl, rfl, rfl, rfl, trivial⟩ ⟨rfl, trivial⟩) ?_
              refine AWR.draw mixed ?_
              refine AOD.pure (LT.move (v := (.s (.c (iC s1.2.1)))) rfl) ⟨rfl, trivial⟩ trivial rfl rfl ?_
              refine AOD.pure (LT.move (v := (.s (.c (.pv (.xs false (w.map encInt)))))) rfl) ⟨rfl, trivial⟩ trivial rfl rfl ?_
              refine AOD.pure (LT.move (v := (.s (.c (iC s1.2.2)))) rfl) ⟨rfl, trivial⟩ trivial rfl rfl ?_
              refine AOD.bind fun x81 hx81 => ?_
              refine AOD.pure (LT.tindexRO (enc := encInt) rfl el37 hx81 sz3) ⟨rfl, rfl, trivial⟩ trivial rfl rfl ?_
              refine AOD.pure (LT.loadPx1 rfl ag3) ⟨rfl, trivial⟩ trivial rfl rfl ?_
              refine AOD.pure (LT.fieldPl rfl fo29_1) ⟨rfl, trivial⟩ trivial rfl rfl ?_
              refine AOD.pure (LT.bload1 (c := (.pv (.xs false (f.Places.map encTPlace)))) rfl ag27 (by exact rfl)) ⟨rfl, trivial⟩ ⟨rfl, trivial⟩ rfl rfl ?_
              refine AOD.pure (LT.move (v := (.s (.c (iC v)))) rfl) ⟨rfl, trivial⟩ trivial rfl rfl ?_
              refine AOD.bind fun x82 hx82 => ?_
              refine AOD.pure (LT.tindexRO (enc := encTPlace) rfl el27 hx82 sz95) ⟨rfl, rfl, trivial⟩ trivial rfl rfl ?_
              refine AOD.pure (LT.fieldPx rfl fo95_1) ⟨rfl, trivial⟩ trivial rfl rfl ?_
              refine AOD.pure (LT.loadPx1 rfl ag3) ⟨rfl, trivial⟩ trivial rfl rfl ?_
              refine AOD.pure (LT.fieldPl rfl fo29_1) ⟨rfl, trivial⟩ trivial rfl rfl ?_
              refine AOD.pure (LT.bload1 (c := (.pv (.xs false (f.Places.map encTPlace)))) rfl ag27 (by exact rfl)) ⟨rfl, trivial⟩ ⟨rfl, trivial⟩ rfl rfl ?_
              refine AOD.pure (LT.move (v := (.s (.c (iC r77)))) rfl) ⟨rfl, trivial⟩ trivial rfl rfl ?_
              refine AOD.bind fun x83 hx83 => ?_
              refine AOD.pure (LT.tindexRO (enc := encTPlace) rfl el27 hx83 sz95) ⟨rfl, rfl, trivial⟩ trivial rfl rfl ?_
              refine AOD.pure (LT.fieldPx rfl fo95_1) ⟨rfl, trivial⟩ trivial rfl rfl ?_
              refine AOD.pure (LT.loadPx1 rfl ag3) ⟨rfl, trivial⟩ trivial rfl rfl ?_
              refine AOD.pure (LT.sub rfl) ⟨rfl, rfl, trivial⟩ trivial rfl rfl ?_
              refine AOD.pure (LT.mul rfl) ⟨rfl, rfl, trivial⟩ trivial rfl rfl ?_
              refine AOD.pure (LT.add rfl) ⟨rfl, rfl, trivial⟩ trivial rfl rfl ?_
              refine AOD.pure (LT.assign (v := (.s (.c (iC (w64 (s1.2.1 + (w64 (x81 * (w64 (x82.Y - x83.Y)))))))))) rfl) ⟨rfl, trivial⟩ trivial rfl rfl ?_
              refine AOD.nil (by kernel_rfl) ?_
              refine AWR.nil ⟨rfl, Ent.of ⟨rfl, rfl, rfl, rfl, rfl, rfl, trivial⟩ ⟨rfl, trivial⟩⟩
            · refine AWR.skip ?_
              refine AWR.nil ⟨rfl, Ent.of ⟨rfl, rfl, rfl, rfl, rfl, rfl, trivial⟩ ⟨rfl, trivial⟩⟩
          · refine AWR.blk ?_
            refine AWR.region ?_
            refine AOR.pure (LT.move (v := (.s (.c (iC s1.2.2)))) rfl) ⟨rfl, trivial⟩ trivial rfl rfl ?_
            refine AOR.pure (LT.add rfl) ⟨rfl, ⟨rfl, rfl⟩, trivial⟩ trivial rfl rfl ?_
            refine AOR.pure (LT.assign (v := (.s (.c (iC (w64 (s1.2.2 + 1)))))) rfl) ⟨rfl, trivial⟩ trivial rfl rfl ?_
            refine AOR.nil ?_
            refine AWR.nil ⟨rfl, Ent.of ⟨rfl, rfl, rfl, rfl, rfl, rfl, trivial⟩ ⟨rfl, trivial⟩⟩
      · refine AWR.exit_end rfl ⟨rfl, Ent.of ⟨rfl, rfl, trivial⟩ trivial⟩
  · refine AWR.seq ?_
    refine AWR.region ?_
    refine AOR.pure (LT.move (v := (.s (.c (iC b56.1)))) rfl) ⟨rfl, trivial⟩ trivial rfl rfl ?_
    refine AOR.pure (LT.move (v := (.s (.c (iC b56.2)))) rfl) ⟨rfl, trivial⟩ trivial rfl rfl ?_
    refine AOR.pure (LT.assign (v := (.s (.c (iC b56.1)))) rfl) ⟨rfl, trivial⟩ trivial rfl rfl ?_
    refine AOR.pure (LT.assign (v := (.s (.c (iC b56.2)))) rfl) ⟨rfl, trivial⟩ trivial rfl rfl ?_
    refine AOR.nil ?_
    refine AWR.ret (FPost.mk (.inr rfl) ⟨rfl, rfl, trivial⟩ trivial rfl ⟨PermP.sc, PermP.sc, trivial⟩ trivial)
set_option maxRecDepth 100000 in
set_option maxHeartbeats 8000000 in
theorem w_spec_IsStress (f : TFramework) (w : (List Int)) : ∀ t, m_spec_IsStress f w = some t → Fw.Fn Try.prog 34 [(.agg [(iC f.Graph.Points), (.pv (.xs false (f.Graph.Bars.map encTBar))), (.pv (.xs false (f.Places.map encTPlace)))]), (.c (.pv (.xs false (w.map encInt))))] [] (.s (.c (bC t))) [] [] [] := by
  refine Fw.Fn.of (P := Try.prog) (X := []) (pn := []) (rs := (fun (t : Bool) => [(.c (bC t))])) (dfs := (fun (t : Bool) => [])) Try.func34 rfl Try.ntmps34 (Nat.le_of_ble_eq_true rfl) rfl ?_
  intro w0 U0 R0 g0
  unfold m_spec_IsStress
  refine AWR.seq ?_
  refine AWR.region ?_
  refine AOR.step (LT.box (n := 21) (v := (.agg [(iC f.Graph.Points), (.pv (.xs false (f.Graph.Bars.map encTBar))), (.pv (.xs false (f.Places.map encTPlace)))])) rfl sz29 (by exact rfl)) ⟨rfl, trivial⟩ trivial rfl rfl ?_
  refine AOR.pure (LT.assign (v := (.s (.c (bC false)))) rfl) ⟨⟨rfl, rfl⟩, trivial⟩ trivial rfl rfl ?_
  refine AOR.nil ?_
  refine AWR.seq ?_
  refine AWR.seq ?_
  refine AWR.region ?_
  refine AOR.pure (LT.assign (v := (.s (.c (iC 0)))) rfl) ⟨⟨rfl, rfl⟩, trivial⟩ trivial rfl rfl ?_
  refine AOR.nil ?_
  refine AWR.block ?_
  refine AWR.loopR (id := 0) (m_spec_IsStress_L1 f w) (fun s1 => ([(1, (.s (.c (.pv (.xs false (w.map encInt)))))), (2, (.s (.c (.pl 21 0)))), (5, (.s (.c (iC s1))))], [(21, (.row 29 [[(iC f.Graph.Points), (.pv (.xs false (f.Graph.Bars.map encTBar))), (.pv (.xs false (f.Places.map encTPlace)))]]))])) (fun b24 => ([(1, (.s (.c (.pv (.xs false (w.map encInt)))))), (2, (.s (.c (.pl 21 0))))], [(21, (.row 29 [[(iC f.Graph.Points), (.pv (.xs false (f.Graph.Bars.map encTBar))), (.pv (.xs false (f.Places.map encTPlace)))]]))])) (FPost Try.prog Try.f34.results.toList [] [] (fun (t : Bool) => [(.c (bC t))]) (fun (t : Bool) => [])) ?_ (Ent.of ⟨rfl, rfl, rfl, trivial⟩ ⟨rfl, trivial⟩) rfl (fun b24 _ => ?_) (by intro r t σ m ht hk; injection ht with ht; subst ht; exact hk)
  · intro s1
    unfold m_spec_IsStress_L1
    refine AWR.seq ?_
    refine AWR.seq ?_
    refine AWR.joinK (fun j27 => ([(1, (.s (.c (.pv (.xs false (w.map encInt)))))), (2, (.s (.c (.pl 21 0)))), (5, (.s (.c (iC s1)))), (17, (.s (.c (bC j27))))], [(21, (.row 29 [[(iC f.Graph.Points), (.pv (.xs false (f.Graph.Bars.map encTBar))), (.pv (.xs false (f.Places.map encTPlace)))]]))])) ?_ (fun j27 _ => ?_)
    · refine AWR.region ?_
      refine AOR.pure (LT.move (v := (.s (.c (iC s1)))) rfl) ⟨rfl, trivial⟩ trivial rfl rfl ?_
      refine AOR.pure (LT.fieldPl rfl fo29_0) ⟨rfl, trivial⟩ trivial rfl rfl ?_
      refine AOR.pure (LT.fieldPl rfl fo26_0) ⟨rfl, trivial⟩ trivial rfl rfl ?_
      refine AOR.pure (LT.bload1 (c := (iC f.Graph.Points)) rfl ag3 (by exact rfl)) ⟨rfl, trivial⟩ ⟨rfl, trivial⟩ rfl rfl ?_
      refine AOR.pure (LT.lss rfl) ⟨rfl, rfl, trivial⟩ trivial rfl rfl ?_
      refine AOR.pure (LT.move (v := (.s (.c (bC (decide (s1 < f.Graph.Points)))))) rfl) ⟨rfl, trivial⟩ trivial rfl rfl ?_
      refine AOR.split (fun hb28 => ?_) (fun hb28 => ?_)
      · refine AOR.pure (LT.bloadN (out := [(iC f.Graph.Points), (.pv (.xs false (f.Graph.Bars.map encTBar))), (.pv (.xs false (f.Places.map encTPlace)))]) rfl ag29 (infS inf29) sz29 (by exact rfl) (by exact rfl)) ⟨rfl, trivial⟩ ⟨rfl, trivial⟩ ⟨_, rfl, .inl ⟨_, rfl, (by rw [hb28]; rfl)⟩⟩ rfl ?_
        refine AOR.pure (LT.move (v := (.s (.c (.pv (.xs false (w.map encInt)))))) rfl) ⟨rfl, trivial⟩ trivial ⟨_, rfl, .inl ⟨_, rfl, (by rw [hb28]; rfl)⟩⟩ rfl ?_
        refine AOR.bind fun r29 hr29 => ?_
        refine AOR.pure (@LT.callF Try.prog _ _ 104 _ _ [(.agg [(iC f.Graph.Points), (.pv (.xs false (f.Graph.Bars.map encTBar))), (.pv (.xs false (f.Places.map encTPlace)))]), (.c (.pv (.xs false (w.map encInt))))] _ _ [] _ _ _ _ (w_spec_l13Vector f w r29 hr29) rfl cb104 (.cons (.agg (.cons (.same rfl) (.cons (.same rfl) (.cons (.same rfl) .nil)))) (.cons (.c (.same rfl)) .nil)) rfl rfl trivial) ⟨rfl, rfl, rfl, trivial⟩ trivial ⟨_, rfl, .inl ⟨_, rfl, (by rw [hb28]; rfl)⟩⟩ rfl ?_
        refine AOR.pure (LT.pickT (v := (.s (.c (bC r29)))) rfl hb28) ⟨rfl, rfl, trivial⟩ trivial rfl rfl ?_
        refine AOR.nil ?_
        refine AWR.nil ⟨rfl, Ent.of ⟨rfl, rfl, rfl, rfl, trivial⟩ ⟨rfl, trivial⟩⟩
      · refine AOR.skip ⟨_, rfl, .inl ⟨_, rfl, (by rw [hb28]; rfl)⟩⟩ rfl ?_
        refine AOR.skip ⟨_, rfl, .inl ⟨_, rfl, (by rw [hb28]; rfl)⟩⟩ rfl ?_
        refine AOR.skip ⟨_, rfl, .inl ⟨_, rfl, (by rw [hb28]; rfl)⟩⟩ rfl ?_
        refine AOR.pure (LT.pickF (v := (.s (.c (bC false)))) rfl hb28) ⟨rfl, ⟨rfl, rfl⟩, trivial⟩ trivial rfl rfl ?_
        refine AOR.nil ?_
        refine AWR.nil ⟨rfl, Ent.of ⟨rfl, rfl, rfl, rfl, trivial⟩ ⟨rfl, trivial⟩⟩
    · refine AWR.cond rfl (fun hc30 => ?_) (fun hc30 => ?_)
      · refine AWR.skip ?_
        refine AWR.seq ?_
        refine AWR.block ?_
        refine AWR.seq ?_
        refine AWR.region ?_
        refine AOR.pure (LT.bloadN (out := [(iC f.Graph.Points), (.pv (.xs false (f.Graph.Bars.map encTBar))), (.pv (.xs false (f.Places.map encTPlace)))]) rfl ag29 (infS inf29) sz29 (by exact rfl) (by exact rfl)) ⟨rfl, trivial⟩ ⟨rfl, trivial⟩ rfl rfl ?_
        refine AOR.pure (LT.move (v := (.s (.c (.pv (.xs false (w.map encInt)))))) rfl) ⟨rfl, trivial⟩ trivial rfl rfl ?_
        refine AOR.pure (LT.move (v := (.s (.c (iC s1)))) rfl) ⟨rfl, trivial⟩ trivial rfl rfl ?_
        refine AOR.bind fun r31 hr31 => ?_
        refine AOR.pure (@LT.callF Try.prog _ _ 33 _ _ [(.agg [(iC f.Graph.Points), (.pv (.xs false (f.Graph.Bars.map encTBar))), (.pv (.xs false (f.Places.map encTPlace)))]), (.c (.pv (.xs false (w.map encInt)))), (.c (iC s1))] _ _ [] _ _ _ _ (w_spec_ForceAt f w s1 r31 hr31) rfl cb33 (.cons (.agg (.cons (.same rfl) (.cons (.same rfl) (.cons (.same rfl) .nil)))) (.cons (.c (.same rfl)) (.cons (.c (.same rfl)) .nil))) rfl rfl trivial) ⟨rfl, rfl, rfl, rfl, trivial⟩ trivial rfl rfl ?_
        refine AOR.pure (LT.move (v := (.tup [(.c (iC r31.1)), (.c (iC r31.2))])) rfl) ⟨rfl, trivial⟩ trivial rfl rfl ?_
        refine AOR.pure (LT.extract (v := (.c (iC r31.1))) rfl (by exact rfl)) ⟨rfl, trivial⟩ trivial rfl rfl ?_
        refine AOR.pure (LT.extract (v := (.c (iC r31.2))) rfl (by exact rfl)) ⟨rfl, trivial⟩ trivial rfl rfl ?_
        refine AOR.pure (LT.assign (v := (.s (.c (iC r31.1)))) rfl) ⟨rfl, trivial⟩ trivial rfl rfl ?_
        refine AOR.pure (LT.assign (v := (.s (.c (iC r31.2)))) rfl) ⟨rfl, trivial⟩ trivial rfl rfl ?_
        refine AOR.nil ?_
        refine AWR.seq ?_
        refine AWR.joinK (fun j33 => ([(1, (.s (.c (.pv (.xs false (w.map encInt)))))), (2, (.s (.c (.pl 21 0)))), (5, (.s (.c (iC s1)))), (32, (.s (.c (bC j33))))], [(21, (.row 29 [[(iC f.Graph.Points), (.pv (.xs false (f.Graph.Bars.map encTBar))), (.pv (.xs false (f.Places.map encTPlace)))]]))])) ?_ (fun j33 _ => ?_)
        · refine AWR.region ?_
          refine AOR.pure (LT.move (v := (.s (.c (iC r31.1)))) rfl) ⟨rfl, trivial⟩ trivial rfl rfl ?_
          refine AOR.pure (LT.neq rfl) ⟨rfl, ⟨rfl, rfl⟩, trivial⟩ trivial rfl rfl ?_
          refine AOR.pure (LT.move (v := (.s (.c (bC (r31.1 != 0))))) rfl) ⟨rfl, trivial⟩ trivial rfl rfl ?_
          refine AOR.split (fun hb34 => ?_) (fun hb34 => ?_)
          · refine AOR.skip ⟨_, rfl, .inl ⟨_, rfl, (by rw [hb34]; rfl)⟩⟩ rfl ?_
            refine AOR.skip ⟨_, rfl, .inl ⟨_, rfl, (by rw [hb34]; rfl)⟩⟩ rfl ?_
            refine AOR.pure (LT.pickT (v := (.s (.c (bC true)))) rfl hb34) ⟨rfl, ⟨rfl, rfl⟩, trivial⟩ trivial rfl rfl ?_
            refine AOR.nil ?_
            refine AWR.nil ⟨rfl, Ent.of ⟨rfl, rfl, rfl, rfl, trivial⟩ ⟨rfl, trivial⟩⟩
          · refine AOR.pure (LT.move (v := (.s (.c (iC r31.2)))) rfl) ⟨rfl, trivial⟩ trivial ⟨_, rfl, .inl ⟨_, rfl, (by rw [hb34]; rfl)⟩⟩ rfl ?_
            refine AOR.pure (LT.neq rfl) ⟨rfl, ⟨rfl, rfl⟩, trivial⟩ trivial ⟨_, rfl, .inl ⟨_, rfl, (by rw [hb34]; rfl)⟩⟩ rfl ?_
            refine AOR.pure (LT.pickF (v := (.s (.c (bC (r31.2 != 0))))) rfl hb34) ⟨rfl, rfl, trivial⟩ trivial rfl rfl ?_
            refine AOR.nil ?_
            refine AWR.nil ⟨rfl, Ent.of ⟨rfl, rfl, rfl, rfl, trivial⟩ ⟨rfl, trivial⟩⟩
        · refine AWR.cond rfl (fun hc35 => ?_) (fun hc35 => ?_)
          · refine AWR.seq ?_
            refine AWR.region ?_
            refine AOR.pure (LT.assign (v := (.s (.c (bC false)))) rfl) ⟨⟨rfl, rfl⟩, trivial⟩ trivial rfl rfl ?_
            refine AOR.nil ?_
            refine AWR.ret ⟨rfl, FPost.mk (.inr rfl) ⟨rfl, trivial⟩ trivial rfl ⟨PermP.sc, trivial⟩ trivial⟩
          · refine AWR.skip ?_
            refine AWR.blk ?_
            refine AWR.region ?_
            refine AOR.pure (LT.move (v := (.s (.c (iC s1)))) rfl) ⟨rfl, trivial⟩ trivial rfl rfl ?_
            refine AOR.pure (LT.add rfl) ⟨rfl, ⟨rfl, rfl⟩, trivial⟩ trivial rfl rfl ?_
            refine AOR.pure (LT.assign (v := (.s (.c (iC (w64 (s1 + 1)))))) rfl) ⟨rfl, trivial⟩ trivial rfl rfl ?_
            refine AOR.nil ?_
            refine AWR.nil ⟨rfl, Ent.of ⟨rfl, rfl, rfl, trivial⟩ ⟨rfl, trivial⟩⟩
      · refine AWR.exit_end rfl ⟨rfl, Ent.of ⟨rfl, rfl, trivial⟩ ⟨rfl, trivial⟩⟩
  · refine AWR.seq ?_
    refine AWR.region ?_
    refine AOR.pure (LT.bloadN (out := [(iC f.Graph.Points), (.pv (.xs false (f.Graph.Bars.map encTBar))), (.pv (.xs false (f.Places.map encTPlace)))]) rfl ag29 (infS inf29) sz29 (by exact rfl) (by exact rfl)) ⟨rfl, trivial⟩ ⟨rfl, trivial⟩ rfl rfl ?_
    refine AOR.pure (LT.move (v := (.s (.c (.pv (.xs false (w.map encInt)))))) rfl) ⟨rfl, trivial⟩ trivial rfl rfl ?_
    refine AOR.bind fun r36 hr36 => ?_
    refine AOR.pure (@LT.callF Try.prog _ _ 104 _ _ [(.agg [(iC f.Graph.Points), (.pv (.xs false (f.Graph.Bars.map encTBar))), (.pv (.xs false (f.Places.map encTPlace)))]), (.c (.pv (.xs false (w.map encInt))))] _ _ [] _ _ _ _ (w_spec_l13Vector f w r36 hr36) rfl cb104 (.cons (.agg (.cons (.same rfl) (.cons (.same rfl) (.cons (.same rfl) .nil)))) (.cons (.c (.same rfl)) .nil)) rfl rfl trivial) ⟨rfl, rfl, rfl, trivial⟩ trivial rfl rfl ?_
    refine AOR.pure (LT.assign (v := (.s (.c (bC r36)))) rfl) ⟨rfl, trivial⟩ trivial rfl rfl ?_
    refine AOR.nil ?_
    refine AWR.ret (FPost.mk (.inr rfl) ⟨rfl, trivial⟩ trivial rfl ⟨PermP.sc, trivial⟩ trivial)
set_option maxRecDepth 100000 in
set_option maxHeartbeats 8000000 in
theorem w_spec_IsProperStress (tV : TTensegrity) (w : (List Int)) : ∀ t, m_spec_IsProperStress tV w = some t → Fw.Fn Try.prog 165 [(.agg [(iC tV.Framework.Graph.Points), (.pv (.xs false (tV.Framework.Graph.Bars.map encTBar))), (.pv (.xs false (tV.Framework.Places.map encTPlace))), (.pv (.xs false (tV.Kinds.map encInt)))]), (.c (.pv (.xs false (w.map encInt))))] [] (.s (.c (bC t))) [] [] [] := by
  refine Fw.Fn.of (P := Try.prog) (X := []) (pn := []) (rs := (fun (t : Bool) => [(.c (bC t))])) (dfs := (fun (t : Bool) => [])) Try.func165 rfl Try.ntmps165 (Nat.le_of_ble_eq_true rfl) rfl ?_
  intro w0 U0 R0 g0
  unfold m_spec_IsProperStress
  refine AWR.seq ?_
  refine AWR.region ?_
  refine AOR.step (LT.box (n := 21) (v := (.agg [(iC tV.Framework.Graph.Points), (.pv (.xs false (tV.Framework.Graph.Bars.map encTBar))), (.pv (.xs false (tV.Framework.Places.map encTPlace))), (.pv (.xs false (tV.Kinds.map encInt)))])) rfl sz59 (by exact rfl)) ⟨rfl, trivial⟩ trivial rfl rfl ?_
  refine AOR.pure (LT.assign (v := (.s (.c (bC false)))) rfl) ⟨⟨rfl, rfl⟩, trivial⟩ trivial rfl rfl ?_
  refine AOR.nil ?_
  refine AWR.seq ?_
  refine AWR.seq ?_
  refine AWR.joinK (fun j4 => ([(1, (.s (.c (.pv (.xs false (w.map encInt)))))), (2, (.s (.c (.pl 21 0)))), (15, (.s (.c (bC j4))))], [(21, (.row 59 [[(iC tV.Framework.Graph.Points), (.pv (.xs false (tV.Framework.Graph.Bars.map encTBar))), (.pv (.xs false (tV.Framework.Places.map encTPlace))), (.pv (.xs false (tV.Kinds.map encInt)))]]))])) ?_ (fun j4 _ => ?_)
  · refine AWR.region ?_
    refine AOR.pure (LT.bloadN (out := [(iC tV.Framework.Graph.Points), (.pv (.xs false (tV.Framework.Graph.Bars.map encTBar))), (.pv (.xs false (tV.Framework.Places.map encTPlace))), (.pv (.xs false (tV.Kinds.map encInt)))]) rfl ag59 (infS inf59) sz59 (by exact rfl) (by exact rfl)) ⟨rfl, trivial⟩ ⟨rfl, trivial⟩ rfl rfl ?_
    refine AOR.bind fun r5 hr5 => ?_
    refine AOR.pure (@LT.callF Try.prog _ _ 134 _ _ [(.agg [(iC tV.Framework.Graph.Points), (.pv (.xs false (tV.Framework.Graph.Bars.map encTBar))), (.pv (.xs false (tV.Framework.Places.map encTPlace))), (.pv (.xs false (tV.Kinds.map encInt)))])] _ _ [] _ _ _ _ (w_spec_IsTensegrity tV r5 hr5) rfl cb134 (.cons (.agg (.cons (.same rfl) (.cons (.same rfl) (.cons (.same rfl) (.cons (.same rfl) .nil))))) .nil) rfl rfl trivial) ⟨rfl, rfl, trivial⟩ trivial rfl rfl ?_
    refine AOR.pure (LT.not rfl) ⟨rfl, trivial⟩ trivial rfl rfl ?_
    refine AOR.pure (LT.move (v := (.s (.c (bC (!r5))))) rfl) ⟨rfl, trivial⟩ trivial rfl rfl ?_
    refine AOR.split (fun hb6 => ?_) (fun hb6 => ?_)
    · refine AOR.skip ⟨_, rfl, .inl ⟨_, rfl, (by rw [hb6]; rfl)⟩⟩ rfl ?_
      refine AOR.skip ⟨_, rfl, .inl ⟨_, rfl, (by rw [hb6]; rfl)⟩⟩ rfl ?_
      refine AOR.skip ⟨_, rfl, .inl ⟨_, rfl, (by rw [hb6]; rfl)⟩⟩ rfl ?_
      refine AOR.skip ⟨_, rfl, .inl ⟨_, rfl, (by rw [hb6]; rfl)⟩⟩ rfl ?_
      refine AOR.skip ⟨_, rfl, .inl ⟨_, rfl, (by rw [hb6]; rfl)⟩⟩ rfl ?_
      refine AOR.pure (LT.pickT (v := (.s (.c (bC true)))) rfl hb6) ⟨rfl, ⟨rfl, rfl⟩, trivial⟩ trivial rfl rfl ?_
      refine AOR.nil ?_
      refine AWR.nil ⟨rfl, Ent.of ⟨rfl, rfl, rfl, trivial⟩ ⟨rfl, trivial⟩⟩
    · refine AOR.pure (LT.fieldPl rfl fo59_0) ⟨rfl, trivial⟩ trivial ⟨_, rfl, .inl ⟨_, rfl, (by rw [hb6]; rfl)⟩⟩ rfl ?_
      refine AOR.pure (LT.bloadN (out := [(iC tV.Framework.Graph.Points), (.pv (.xs false (tV.Framework.Graph.Bars.map encTBar))), (.pv (.xs false (tV.Framework.Places.map encTPlace)))]) rfl ag29 (infS inf29) sz29 (by exact rfl) (by exact rfl)) ⟨rfl, trivial⟩ ⟨rfl, trivial⟩ ⟨_, rfl, .inl ⟨_, rfl, (by rw [hb6]; rfl)⟩⟩ rfl ?_
      refine AOR.pure (LT.move (v := (.s (.c (.pv (.xs false (w.map encInt)))))) rfl) ⟨rfl, trivial⟩ trivial ⟨_, rfl, .inl ⟨_, rfl, (by rw [hb6]; rfl)⟩⟩ rfl ?_
      refine AOR.bind fun r7 hr7 => ?_
      refine AOR.pure (@LT.callF Try.prog _ _ 34 _ _ [(.agg [(iC tV.Framework.Graph.Points), (.pv (.xs false (tV.Framework.Graph.Bars.map encTBar))), (.pv (.xs false (tV.Framework.Places.map encTPlace)))]), (.c (.pv (.xs false (w.map encInt))))] _ _ [] _ _ _ _ (w_spec_IsStress tV.Framework w r7 hr7) rfl cb34 (.cons (.agg (.cons (.same rfl) (.cons (.same rfl) (.cons (.same rfl) .nil)))) (.cons (.c (.same rfl)) .nil)) rfl rfl trivial) ⟨rfl, rfl, rfl, trivial⟩ trivial ⟨_, rfl, .inl ⟨_, rfl, (by rw [hb6]; rfl)⟩⟩ rfl ?_
      refine AOR.pure (LT.not rfl) ⟨rfl, trivial⟩ trivial ⟨_, rfl, .inl ⟨_, rfl, (by rw [hb6]; rfl)⟩⟩ rfl ?_
      refine AOR.pure (LT.pickF (v := (.s (.c (bC (!r7))))) rfl hb6) ⟨rfl, rfl, trivial⟩ trivial rfl rfl ?_
      refine AOR.nil ?_
      refine AWR.nil ⟨rfl, Ent.of ⟨rfl, rfl, rfl, trivial⟩ ⟨rfl, trivial⟩⟩
  · refine AWR.cond rfl (fun hc8 => ?_) (fun hc8 => ?_)
    · refine AWR.seq ?_
      refine AWR.region ?_
      refine AOR.pure (LT.assign (v := (.s (.c (bC false)))) rfl) ⟨⟨rfl, rfl⟩, trivial⟩ trivial rfl rfl ?_
      refine AOR.nil ?_
      refine AWR.ret (FPost.mk (.inr rfl) ⟨rfl, trivial⟩ trivial rfl ⟨PermP.sc, trivial⟩ trivial)
    · refine AWR.skip ?_
      refine AWR.seq ?_
      refine AWR.seq ?_
      refine AWR.region ?_
      refine AOR.pure (LT.assign (v := (.s (.c (iC 0)))) rfl) ⟨⟨rfl, rfl⟩, trivial⟩ trivial rfl rfl ?_
      refine AOR.nil ?_
      refine AWR.block ?_
      refine AWR.loopR (id := 0) (m_spec_IsProperStress_L1 tV w) (fun s9 => ([(1, (.s (.c (.pv (.xs false (w.map encInt)))))), (2, (.s (.c (.pl 21 0)))), (5, (.s (.c (iC s9))))], [(21, (.row 59 [[(iC tV.Framework.Graph.Points), (.pv (.xs false (tV.Framework.Graph.Bars.map encTBar))), (.pv (.xs false (tV.Framework.Places.map encTPlace))), (.pv (.xs false (tV.Kinds.map encInt)))]]))])) (fun b56 => ([], [])) (FPost Try.prog Try.f165.results.toList [] [] (fun (t : Bool) => [(.c (bC t))]) (fun (t : Bool) => [])) ?_ (Ent.of ⟨rfl, rfl, rfl, trivial⟩ ⟨rfl, trivial⟩) rfl (fun b56 _ => ?_) (by intro r t σ m ht hk; injection ht with ht; subst ht; exact hk)
      · intro s9
        unfold m_spec_IsProperStress_L1
        refine AWR.seq ?_
        refine AWR.seq ?_
        refine AWR.region ?_
        refine AOR.pure (LT.move (v := (.s (.c (iC s9)))) rfl) ⟨rfl, trivial⟩ trivial rfl rfl ?_
        refine AOR.pure (LT.move (v := (.s (.c (.pv (.xs false (w.map encInt)))))) rfl) ⟨rfl, trivial⟩ trivial rfl rfl ?_
        refine AOR.pure (LT.tlenRO rfl und37) ⟨rfl, trivial⟩ trivial rfl rfl ?_
        refine AOR.pure (LT.lss rfl) ⟨rfl, rfl, trivial⟩ trivial rfl rfl ?_
        refine AOR.nil ?_
        refine AWR.cond rfl (fun hc57 => ?_) (fun hc57 => ?_)
        · refine AWR.skip ?_
          refine AWR.seq ?_
          refine AWR.block ?_
          refine AWR.seq ?_
          refine AWR.joinK (fun j68 => ([(1, (.s (.c (.pv (.xs false (w.map encInt)))))), (2, (.s (.c (.pl 21 0)))), (5, (.s (.c (iC s9)))), (49, (.s (.c (bC j68))))], [(21, (.row 59 [[(iC tV.Framework.Graph.Points), (.pv (.xs false (tV.Framework.Graph.Bars.map encTBar))), (.pv (.xs false (tV.Framework.Places.map encTPlace))), (.pv (.xs false (tV.Kinds.map encInt)))]]))])) ?_ (fun j68 _ => ?_)
          · refine AWR.region ?_
            refine AOR.pure (LT.fieldPl rfl fo59_1) ⟨rfl, trivial⟩ trivial rfl rfl ?_
            refine AOR.pure (LT.bload1 (c := (.pv (.xs false (tV.Kinds.map encInt)))) rfl ag37 (by exact rfl)) ⟨rfl, trivial⟩ ⟨rfl, trivial⟩ rfl rfl ?_
            refine AOR.pure (LT.move (v := (.s (.c (iC s9)))) rfl) ⟨rfl, trivial⟩ trivial rfl rfl ?_
            refine AOR.bind fun x69 hx69 => ?_
            refine AOR.pure (LT.tindexRO (enc := encInt) rfl el37 hx69 sz3) ⟨rfl, rfl, trivial⟩ trivial rfl rfl ?_
            refine AOR.pure (LT.loadPx1 rfl ag3) ⟨rfl, trivial⟩ trivial rfl rfl ?_
            refine AOR.pure (LT.eql rfl) ⟨rfl, ⟨rfl, rfl⟩, trivial⟩ trivial rfl rfl ?_
            refine AOR.pure (LT.move (v := (.s (.c (bC (x69 == 1))))) rfl) ⟨rfl, trivial⟩ trivial rfl rfl ?_
            refine AOR.split (fun hb70 => ?_) (fun hb70 => ?_)
            · refine AOR.pure (LT.move (v := (.s (.c (.pv (.xs false (w.map encInt)))))) rfl) ⟨rfl, trivial⟩ trivial ⟨_, rfl, .inl ⟨_, rfl, (by rw [hb70]; rfl)⟩⟩ rfl ?_
              refine AOR.pure (LT.move (v := (.s (.c (iC s9)))) rfl) ⟨rfl, trivial⟩ trivial ⟨_, rfl, .inl ⟨_, rfl, (by rw [hb70]; rfl)⟩⟩ rfl ?_
              refine AOR.bind fun x71 hx71 => ?_
              refine AOR.pure (LT.tindexRO (enc := encInt) rfl el37 hx71 sz3) ⟨rfl, rfl, trivial⟩ trivial ⟨_, rfl, .inl ⟨_, rfl, (by rw [hb70]; rfl)⟩⟩ rfl ?_
              refine AOR.pure (LT.loadPx1 rfl ag3) ⟨rfl, trivial⟩ trivial ⟨_, rfl, .inl ⟨_, rfl, (by rw [hb70]; rfl)⟩⟩ rfl ?_
              refine AOR.pure (LT.lss rfl) ⟨rfl, ⟨rfl, rfl⟩, trivial⟩ trivial ⟨_, rfl, .inl ⟨_, rfl, (by rw [hb70]; rfl)⟩⟩ rfl ?_
              refine AOR.pure (LT.pickT (v := (.s (.c (bC (decide (x71 < 0)))))) rfl hb70) ⟨rfl, rfl, trivial⟩ trivial rfl rfl ?_
              refine AOR.pure (LT.move (v := (.s (.c (bC (decide (x71 < 0)))))) rfl) ⟨rfl, trivial⟩ trivial rfl rfl ?_
              refine AOR.split (fun hb72 => ?_) (fun hb72 => ?_)
              · refine AOR.skip ⟨_, rfl, .inl ⟨_, rfl, (by rw [hb72]; rfl)⟩⟩ rfl ?_
                refine AOR.skip ⟨_, rfl, .inl ⟨_, rfl, (by rw [hb72]; rfl)⟩⟩ rfl ?_
                refine AOR.skip ⟨_, rfl, .inl ⟨_, rfl, (by rw [hb72]; rfl)⟩⟩ rfl ?_
                refine AOR.skip ⟨_, rfl, .inl ⟨_, rfl, (by rw [hb72]; rfl)⟩⟩ rfl ?_
                refine AOR.skip ⟨_, rfl, .inl ⟨_, rfl, (by rw [hb72]; rfl)⟩⟩ rfl ?_
                refine AOR.skip ⟨_, rfl, .inl ⟨_, rfl, (by rw [hb72]; rfl)⟩⟩ rfl ?_
                refine AOR.skip ⟨_, rfl, .inl ⟨_, rfl, (by rw [hb72]; rfl)⟩⟩ rfl ?_
                refine AOR.skip ⟨_, rfl, .inr ⟨rfl, rfl⟩⟩ rfl ?_
                refine AOR.skip ⟨_, rfl, .inr ⟨rfl, rfl⟩⟩ rfl ?_
                refine AOR.skip ⟨_, rfl, .inr ⟨rfl, rfl⟩⟩ rfl ?_
                refine AOR.skip ⟨_, rfl, .inr ⟨rfl, rfl⟩⟩ rfl ?_
                refine AOR.skip ⟨_, rfl, .inr ⟨rfl, rfl⟩⟩ rfl ?_
                refine AOR.skip ⟨_, rfl, .inl ⟨_, rfl, (by rw [hb72]; rfl)⟩⟩ rfl ?_
                refine AOR.pure (LT.pickT (v := (.s (.c (bC true)))) rfl hb72) ⟨rfl, ⟨rfl, rfl⟩, trivial⟩ trivial rfl rfl ?_
                refine AOR.nil ?_
                refine AWR.nil ⟨rfl, Ent.of ⟨rfl, rfl, rfl, rfl, trivial⟩ ⟨rfl, trivial⟩⟩
              · refine AOR.pure (LT.fieldPl rfl fo59_1) ⟨rfl, trivial⟩ trivial ⟨_, rfl, .inl ⟨_, rfl, (by rw [hb72]; rfl)⟩⟩ rfl ?_
                refine AOR.pure (LT.bload1 (c := (.pv (.xs false (tV.Kinds.map encInt)))) rfl ag37 (by exact rfl)) ⟨rfl, trivial⟩ ⟨rfl, trivial⟩ ⟨_, rfl, .inl ⟨_, rfl, (by rw [hb72]; rfl)⟩⟩ rfl ?_
                refine AOR.pure (LT.move (v := (.s (.c (iC s9)))) rfl) ⟨rfl, trivial⟩ trivial ⟨_, rfl, .inl ⟨_, rfl, (by rw [hb72]; rfl)⟩⟩ rfl ?_
                refine AOR.bind fun x73 hx73 => ?_
                refine AOR.pure (LT.tindexRO (enc := encInt) rfl el37 hx73 sz3) ⟨rfl, rfl, trivial⟩ trivial ⟨_, rfl, .inl ⟨_, rfl, (by rw [hb72]; rfl)⟩⟩ rfl ?_
                refine AOR.pure (LT.loadPx1 rfl ag3) ⟨rfl, trivial⟩ trivial ⟨_, rfl, .inl ⟨_, rfl, (by rw [hb72]; rfl)⟩⟩ rfl ?_
                refine AOR.pure (LT.eql rfl) ⟨rfl, ⟨rfl, rfl⟩, trivial⟩ trivial ⟨_, rfl, .inl ⟨_, rfl, (by rw [hb72]; rfl)⟩⟩ rfl ?_
                refine AOR.pure (LT.move (v := (.s (.c (bC (x73 == 2))))) rfl) ⟨rfl, trivial⟩ trivial ⟨_, rfl, .inl ⟨_, rfl, (by rw [hb72]; rfl)⟩⟩ rfl ?_
                refine AOR.split (fun hb74 => ?_) (fun hb74 => ?_)
                · refine AOR.pure (LT.move (v := (.s (.c (.pv (.xs false (w.map encInt)))))) rfl) ⟨rfl, trivial⟩ trivial ⟨_, rfl, .inl ⟨_, rfl, (by rw [hb74]; rfl)⟩⟩ rfl ?_
                  refine AOR.pure (LT.move (v := (.s (.c (iC s9)))) rfl) ⟨rfl, trivial⟩ trivial ⟨_, rfl, .inl ⟨_, rfl, (by rw [hb74]; rfl)⟩⟩ rfl ?_
                  refine AOR.bind fun x75 hx75 => ?_
                  refine AOR.pure (LT.tindexRO (enc := encInt) rfl el37 hx75 sz3) ⟨rfl, rfl, trivial⟩ trivial ⟨_, rfl, .inl ⟨_, rfl, (by rw [hb74]; rfl)⟩⟩ rfl ?_
                  refine AOR.pure (LT.loadPx1 rfl ag3) ⟨rfl, trivial⟩ trivial ⟨_, rfl, .inl ⟨_, rfl, (by rw [hb74]; rfl)⟩⟩ rfl ?_
                  refine AOR.pure (LT.gtr rfl) ⟨rfl, ⟨rfl, rfl⟩, trivial⟩ trivial ⟨_, rfl, .inl ⟨_, rfl, (by rw [hb74]; rfl)⟩⟩ rfl ?_
                  refine AOR.pure (LT.pickT (v := (.s (.c (bC (decide (0 < x75)))))) rfl hb74) ⟨rfl, rfl, trivial⟩ trivial ⟨_, rfl, .inl ⟨_, rfl, (by rw [hb72]; rfl)⟩⟩ rfl ?_
                  refine AOR.pure (LT.pickF (v := (.s (.c (bC (decide (0 < x75)))))) rfl hb72) ⟨rfl, rfl, trivial⟩ trivial rfl rfl ?_
                  refine AOR.nil ?_
                  refine AWR.nil ⟨rfl, Ent.of ⟨rfl, rfl, rfl, rfl, trivial⟩ ⟨rfl, trivial⟩⟩
                · refine AOR.skip ⟨_, rfl, .inl ⟨_, rfl, (by rw [hb74]; rfl)⟩⟩ rfl ?_
                  refine AOR.skip ⟨_, rfl, .inl ⟨_, rfl, (by rw [hb74]; rfl)⟩⟩ rfl ?_
                  refine AOR.skip ⟨_, rfl, .inl ⟨_, rfl, (by rw [hb74]; rfl)⟩⟩ rfl ?_
                  refine AOR.skip ⟨_, rfl, .inl ⟨_, rfl, (by rw [hb74]; rfl)⟩⟩ rfl ?_
                  refine AOR.skip ⟨_, rfl, .inl ⟨_, rfl, (by rw [hb74]; rfl)⟩⟩ rfl ?_
                  refine AOR.pure (LT.pickF (v := (.s (.c (bC false)))) rfl hb74) ⟨rfl, ⟨rfl, rfl⟩, trivial⟩ trivial ⟨_, rfl, .inl ⟨_, rfl, (by rw [hb72]; rfl)⟩⟩ rfl ?_
                  refine AOR.pure (LT.pickF (v := (.s (.c (bC false)))) rfl hb72) ⟨rfl, rfl, trivial⟩ trivial rfl rfl ?_
                  refine AOR.nil ?_
                  refine AWR.nil ⟨rfl, Ent.of ⟨rfl, rfl, rfl, rfl, trivial⟩ ⟨rfl, trivial⟩⟩
            · refine AOR.skip ⟨_, rfl, .inl ⟨_, rfl, (by rw [hb70]; rfl)⟩⟩ rfl ?_
              refine AOR.skip ⟨_, rfl, .inl ⟨_, rfl, (by rw [hb70]; rfl)⟩⟩ rfl ?_
              refine AOR.skip ⟨_, rfl, .inl ⟨_, rfl, (by rw [hb70]; rfl)⟩⟩ rfl ?_
              refine AOR.skip ⟨_, rfl, .inl ⟨_, rfl, (by rw [hb70]; rfl)⟩⟩ rfl ?_
              refine AOR.skip ⟨_, rfl, .inl ⟨_, rfl, (by rw [hb70]; rfl)⟩⟩ rfl ?_
              refine AOR.pure (LT.pickF (v := (.s (.c (bC false)))) rfl hb70) ⟨rfl, ⟨rfl, rfl⟩, trivial⟩ trivial rfl rfl ?_
              refine AOR.pure (LT.move (v := (.s (.c (bC false)))) rfl) ⟨rfl, trivial⟩ trivial rfl rfl ?_
              refine AOR.pure (LT.fieldPl rfl fo59_1) ⟨rfl, trivial⟩ trivial ⟨_, rfl, .inl ⟨_, rfl, rfl⟩⟩ rfl ?_
              refine AOR.pure (LT.bload1 (c := (.pv (.xs false (tV.Kinds.map encInt)))) rfl ag37 (by exact rfl)) ⟨rfl, trivial⟩ ⟨rfl, trivial⟩ ⟨_, rfl, .inl ⟨_, rfl, rfl⟩⟩ rfl ?_
              refine AOR.pure (LT.move (v := (.s (.c (iC s9)))) rfl) ⟨rfl, trivial⟩ trivial ⟨_, rfl, .inl ⟨_, rfl, rfl⟩⟩ rfl ?_
              refine AOR.bind fun x76 hx76 => ?_
              refine AOR.pure (LT.tindexRO (enc := encInt) rfl el37 hx76 sz3) ⟨rfl, rfl, trivial⟩ trivial ⟨_, rfl, .inl ⟨_, rfl, rfl⟩⟩ rfl ?_
              refine AOR.pure (LT.loadPx1 rfl ag3) ⟨rfl, trivial⟩ trivial ⟨_, rfl, .inl ⟨_, rfl, rfl⟩⟩ rfl ?_
              refine AOR.pure (LT.eql rfl) ⟨rfl, ⟨rfl, rfl⟩, trivial⟩ trivial ⟨_, rfl, .inl ⟨_, rfl, rfl⟩⟩ rfl ?_
              refine AOR.pure (LT.move (v := (.s (.c (bC (x76 == 2))))) rfl) ⟨rfl, trivial⟩ trivial ⟨_, rfl, .inl ⟨_, rfl, rfl⟩⟩ rfl ?_
              refine AOR.split (fun hb77 => ?_) (fun hb77 => ?_)
              · refine AOR.pure (LT.move (v := (.s (.c (.pv (.xs false (w.map encInt)))))) rfl) ⟨rfl, trivial⟩ trivial ⟨_, rfl, .inl ⟨_, rfl, (by rw [hb77]; rfl)⟩⟩ rfl ?_
                refine AOR.pure (LT.move (v := (.s (.c (iC s9)))) rfl) ⟨rfl, trivial⟩ trivial ⟨_, rfl, .inl ⟨_, rfl, (by rw [hb77]; rfl)⟩⟩ rfl ?_
                refine AOR.bind fun x78 hx78 => ?_
                refine AOR.pure (LT.tindexRO (enc := encInt) rfl el37 hx78 sz3) ⟨rfl, rfl, trivial⟩ trivial ⟨_, rfl, .inl ⟨_, rfl, (by rw [hb77]; rfl)⟩⟩ rfl ?_
                refine AOR.pure (LT.loadPx1 rfl ag3) ⟨rfl, trivial⟩ trivial ⟨_, rfl, .inl ⟨_, rfl, (by rw [hb77]; rfl)⟩⟩ rfl ?_
                refine AOR.pure (LT.gtr rfl) ⟨rfl, ⟨rfl, rfl⟩, trivial⟩ trivial ⟨_, rfl, .inl ⟨_, rfl, (by rw [hb77]; rfl)⟩⟩ rfl ?_
                refine AOR.pure (LT.pickT (v := (.s (.c (bC (decide (0 < x78)))))) rfl hb77) ⟨rfl, rfl, trivial⟩ trivial ⟨_, rfl, .inl ⟨_, rfl, rfl⟩⟩ rfl ?_
                refine AOR.pure (LT.pickF (v := (.s (.c (bC (decide (0 < x78)))))) rfl rfl) ⟨rfl, rfl, trivial⟩ trivial rfl rfl ?_
                refine AOR.nil ?_
                refine AWR.nil ⟨rfl, Ent.of ⟨rfl, rfl, rfl, rfl, trivial⟩ ⟨rfl, trivial⟩⟩
              · refine AOR.skip ⟨_, rfl, .inl ⟨_, rfl, (by rw [hb77]; rfl)⟩⟩ rfl ?_
                refine AOR.skip ⟨_, rfl, .inl ⟨_, rfl, (by rw [hb77]; rfl)⟩⟩ rfl ?_
                refine AOR.skip ⟨_, rfl, .inl ⟨_, rfl, (by rw [hb77]; rfl)⟩⟩ rfl ?_
                refine AOR.skip ⟨_, rfl, .inl ⟨_, rfl, (by rw [hb77]; rfl)⟩⟩ rfl ?_
                refine AOR.skip ⟨_, rfl, .inl ⟨_, rfl, (by rw [hb77]; rfl)⟩⟩ rfl ?_
                refine AOR.pure (LT.pickF (v := (.s (.c (bC false)))) rfl hb77) ⟨rfl, ⟨rfl, rfl⟩, trivial⟩ trivial ⟨_, rfl, .inl ⟨_, rfl, rfl⟩⟩ rfl ?_
                refine AOR.pure (LT.pickF (v := (.s (.c (bC false)))) rfl rfl) ⟨rfl, rfl, trivial⟩ trivial rfl rfl ?_
                refine AOR.nil ?_
                refine AWR.nil ⟨rfl, Ent.of ⟨rfl, rfl, rfl, rfl, trivial⟩ ⟨rfl, trivial⟩⟩
          · refine AWR.cond rfl (fun hc79 => ?_) (fun hc79 => ?_)
            · refine AWR.seq ?_
              refine AWR.region ?_
              refine AOR.pure (LT.assign (v := (.s (.c (bC false)))) rfl) ⟨⟨rfl, rfl⟩, trivial⟩ trivial rfl rfl ?_
              refine AOR.nil ?_
              refine AWR.ret ⟨rfl, FPost.mk (.inr rfl) ⟨rfl, trivial⟩ trivial rfl ⟨PermP.sc, trivial⟩ trivial⟩
            · refine AWR.skip ?_
              refine AWR.blk ?_
              refine AWR.region ?_
              refine AOR.pure (LT.move (v := (.s (.c (iC s9)))) rfl) ⟨rfl, trivial⟩ trivial rfl rfl ?_
              refine AOR.pure (LT.add rfl) ⟨rfl, ⟨rfl, rfl⟩, trivial⟩ trivial rfl rfl ?_
              refine AOR.pure (LT.assign (v := (.s (.c (iC (w64 (s9 + 1)))))) rfl) ⟨rfl, trivial⟩ trivial rfl rfl ?_
              refine AOR.nil ?_
              refine AWR.nil ⟨rfl, Ent.of ⟨rfl, rfl, rfl, trivial⟩ ⟨rfl, trivial⟩⟩
        · refine AWR.exit_end rfl ⟨rfl, Ent.of trivial trivial⟩
      · refine AWR.seq ?_
        refine AWR.region ?_
        refine AOR.pure (LT.assign (v := (.s (.c (bC true)))) rfl) ⟨⟨rfl, rfl⟩, trivial⟩ trivial rfl rfl ?_
        refine AOR.nil ?_
        refine AWR.ret (FPost.mk (.inr rfl) ⟨rfl, trivial⟩ trivial rfl ⟨PermP.sc, trivial⟩ trivial)
end Go.Proofs.Ytoeigmhhmadmbaa
end
section
set_option linter.unusedVariables false
set_option linter.unusedSimpArgs false
set_option linter.unnecessarySimpa false
open Go Go.Fw
namespace Go.Proofs.Ytoeigmhhmadmbaa
set_option maxRecDepth 100000 in
set_option maxHeartbeats 8000000 in
theorem w_spec_FrameworkRank (f : TFramework) : ∀ t, m_spec_FrameworkRank f = some t → Fw.Fn Try.prog 76 [(.agg [(iC f.Graph.Points), (.pv (.xs false (f.Graph.Bars.map encTBar))), (.pv (.xs false (f.Places.map encTPlace)))])] [] (.s (.c (iC t))) [] [] [] := by
  refine Fw.Fn.of (P := Try.prog) (X := []) (pn := []) (rs := (fun (t : Int) => [(.c (iC t))])) (dfs := (fun (t : Int) => [])) Try.func76 rfl Try.ntmps76 (Nat.le_of_ble_eq_true rfl) rfl ?_
  intro w0 U0 R0 g0
  unfold m_spec_FrameworkRank
  refine AWR.seq ?_
  refine AWR.region ?_
  refine AOR.step (LT.box (n := 21) (v := (.agg [(iC f.Graph.Points), (.pv (.xs false (f.Graph.Bars.map encTBar))), (.pv (.xs false (f.Places.map encTPlace)))])) rfl sz29 (by exact rfl)) ⟨rfl, trivial⟩ trivial rfl rfl ?_
  refine AOR.pure (LT.assign (v := (.s (.c (iC 0)))) rfl) ⟨⟨rfl, rfl⟩, trivial⟩ trivial rfl rfl ?_
  refine AOR.nil ?_
  refine AWR.seq ?_
  refine AWR.seq ?_
  refine AWR.region ?_
  refine AOR.pure (LT.bloadN (out := [(iC f.Graph.Points), (.pv (.xs false (f.Graph.Bars.map encTBar))), (.pv (.xs false (f.Places.map encTPlace)))]) rfl ag29 (infS inf29) sz29 (by exact rfl) (by exact rfl)) ⟨rfl, trivial⟩ ⟨rfl, trivial⟩ rfl rfl ?_
  refine AOR.bind fun r1 hr1 => ?_
  refine AOR.pure (@LT.callF Try.prog _ _ 18 _ _ [(.agg [(iC f.Graph.Points), (.pv (.xs false (f.Graph.Bars.map encTBar))), (.pv (.xs false (f.Places.map encTPlace)))])] _ _ [] _ _ _ _ (w_spec_IsFramework f r1 hr1) rfl cb18 (.cons (.agg (.cons (.same rfl) (.cons (.same rfl) (.cons (.same rfl) .nil)))) .nil) rfl rfl trivial) ⟨rfl, rfl, trivial⟩ trivial rfl rfl ?_
  refine AOR.pure (LT.not rfl) ⟨rfl, trivial⟩ trivial rfl rfl ?_
  refine AOR.nil ?_
  refine AWR.cond rfl (fun hc2 => ?_) (fun hc2 => ?_)
  · refine AWR.seq ?_
    refine AWR.region ?_
    refine AOR.pure (LT.assign (v := (.s (.c (iC (-1))))) rfl) ⟨⟨rfl, rfl⟩, trivial⟩ trivial rfl rfl ?_
    refine AOR.nil ?_
    refine AWR.ret (FPost.mk (.inr rfl) ⟨rfl, trivial⟩ trivial rfl ⟨PermP.sc, trivial⟩ trivial)
  · refine AWR.skip ?_
    refine AWR.seq ?_
    refine AWR.region ?_
    refine AOR.pure (LT.bloadN (out := [(iC f.Graph.Points), (.pv (.xs false (f.Graph.Bars.map encTBar))), (.pv (.xs false (f.Places.map encTPlace)))]) rfl ag29 (infS inf29) sz29 (by exact rfl) (by exact rfl)) ⟨rfl, trivial⟩ ⟨rfl, trivial⟩ rfl rfl ?_
    refine AOR.bind fun r3 hr3 => ?_
    refine AOR.step (@LT.callF Try.prog _ _ 64 _ _ [(.agg [(iC f.Graph.Points), (.pv (.xs false (f.Graph.Bars.map encTBar))), (.pv (.xs false (f.Places.map encTPlace)))])] _ _ [] _ _ _ _ ((show Fw.Fn Try.prog 64 [(.agg [(iC f.Graph.Points), (.pv (.xs false (f.Graph.Bars.map encTBar))), (.pv (.xs false (f.Places.map encTPlace)))])] [] (.s (.c (.loc 24 0 r3.length))) [(24, (.prow 37 (r3.map (encLInt true))))] [] [24] from Fw.Fn.ren [(0, 24)] (w_spec_RigidityMatrix f r3 hr3) rfl)) rfl cb64 (.cons (.agg (.cons (.same rfl) (.cons (.same rfl) (.cons (.same rfl) .nil)))) .nil) rfl rfl trivial) ⟨rfl, rfl, trivial⟩ trivial rfl rfl ?_
    refine AOR.bind fun r4 hr4 => ?_
    refine AOR.step (@LT.callF Try.prog _ _ 133 _ _ [(.c (.loc 24 0 r3.length))] _ _ [(24, (.prow 37 (r3.map (encLInt true))))] _ _ _ _ ((show Fw.Fn Try.prog 133 [(.c (.pv (.xs false (r3.map (encLInt false)))))] [] (.tup [(.c (.loc 26 0 r4.1.length)), (.c (.loc 27 0 r4.2.length))]) [(26, (.prow 37 (r4.1.map (encLInt true)))), (27, (.prow 3 (r4.2.map encInt)))] [] [26, 27] from Fw.Fn.ren [(0, 26), (1, 27)] (w_spec_l9Reduced r3 r4 hr4) rfl)) rfl cb133 (.cons (.c (.weak (.tloc (enc := encLInt true) rfl rfl) (QW.xsm qw_encLInt (fun h => h) _))) .nil) rfl rfl trivial) ⟨rfl, rfl, trivial⟩ ⟨rfl, trivial⟩ rfl rfl ?_
    refine AOR.pure (LT.move (v := (.tup [(.c (.loc 26 0 r4.1.length)), (.c (.loc 27 0 r4.2.length))])) rfl) ⟨rfl, trivial⟩ trivial rfl rfl ?_
    refine AOR.pure (LT.extract (v := (.c (.loc 26 0 r4.1.length))) rfl (by exact rfl)) ⟨rfl, trivial⟩ trivial rfl rfl ?_
    refine AOR.pure (LT.extract (v := (.c (.loc 27 0 r4.2.length))) rfl (by exact rfl)) ⟨rfl, trivial⟩ trivial rfl rfl ?_
    refine AOR.pure (LT.assign (v := (.s (.c (.loc 26 0 r4.1.length)))) rfl) ⟨rfl, trivial⟩ trivial rfl rfl ?_
    refine AOR.pure (LT.assign (v := (.s (.c (.loc 27 0 r4.2.length)))) rfl) ⟨rfl, trivial⟩ trivial rfl rfl ?_
    refine AOR.nil ?_
    refine AWR.seq ?_
    refine AWR.ent (Ent.of (σ' := [(4, (.s (.c (.loc 27 0 r4.2.length))))]) (m' := [(27, (.prow 3 (r4.2.map encInt)))]) ⟨rfl, trivial⟩ ⟨rfl, trivial⟩) ?_
    refine AWR.region ?_
    refine AOR.pure (LT.move (v := (.s (.c (.loc 27 0 r4.2.length)))) rfl) ⟨rfl, trivial⟩ trivial rfl rfl ?_
    refine AOR.pure (LT.lenLoc rfl und37) ⟨rfl, trivial⟩ trivial rfl rfl ?_
    refine AOR.pure (LT.assign (v := (.s (.c (iC (r4.2.length : Int))))) rfl) ⟨rfl, trivial⟩ trivial rfl rfl ?_
    refine AOR.nil ?_
    refine AWR.ret (FPost.mk (.inr rfl) ⟨rfl, trivial⟩ trivial rfl ⟨PermP.sc, trivial⟩ trivial)
set_option maxRecDepth 100000 in
set_option maxHeartbeats 8000000 in
theorem w_impl_rank (m : (List (List Int))) (columns : Int) : ∀ t, m_impl_rank m columns = some t → Fw.Fn Try.prog 132 [(.c (.pv (.xs false (m.map (encLInt false))))), (.c (iC columns))] [] (.s (.c (iC t))) [] [] [] := by
  refine Fw.Fn.of (P := Try.prog) (X := []) (pn := []) (rs := (fun (t : Int) => [(.c (iC t))])) (dfs := (fun (t : Int) => [])) Try.func132 rfl Try.ntmps132 (Nat.le_of_ble_eq_true rfl) rfl ?_
  intro w0 U0 R0 g0
  unfold m_impl_rank
  refine AWR.seq ?_
  refine AWR.region ?_
  refine AOR.pure (LT.assign (v := (.s (.c (iC 0)))) rfl) ⟨⟨rfl, rfl⟩, trivial⟩ trivial rfl rfl ?_
  refine AOR.nil ?_
  refine AWR.seq ?_
  refine AWR.region ?_
  refine AOR.pure (LT.move (v := (.s (.c (.pv (.xs false (m.map (encLInt false))))))) rfl) ⟨rfl, trivial⟩ trivial rfl rfl ?_
  refine AOR.pure (LT.move (v := (.s (.c (iC columns)))) rfl) ⟨rfl, trivial⟩ trivial rfl rfl ?_
  refine AOR.bind fun r1 hr1 => ?_
  refine AOR.step (@LT.callF Try.prog _ _ 156 _ _ [(.c (.pv (.xs false (m.map (encLInt false))))), (.c (iC columns))] _ _ [] _ _ _ _ ((show Fw.Fn Try.prog 156 [(.c (.pv (.xs false (m.map (encLInt false))))), (.c (iC columns))] [] (.tup [(.c (.loc 22 0 r1.1.length)), (.c (.loc 24 0 r1.2.1.length)), (.c (iC r1.2.2))]) [(22, (.trow 37 23 (lensOf r1.1))), (23, (.pool 3 (rowsOf encInt r1.1))), (24, (.prow 3 (r1.2.1.map encInt)))] [] [22, 23, 24] from Fw.Fn.ren [(0, 22), (1, 23), (2, 24)] (w_impl_reduced m columns r1 hr1) rfl)) rfl cb156 (.cons (.c (.same rfl)) (.cons (.c (.same rfl)) .nil)) rfl rfl trivial) ⟨rfl, rfl, rfl, trivial⟩ trivial rfl rfl ?_
  refine AOR.pure (LT.move (v := (.tup [(.c (.loc 22 0 r1.1.length)), (.c (.loc 24 0 r1.2.1.length)), (.c (iC r1.2.2))])) rfl) ⟨rfl, trivial⟩ trivial rfl rfl ?_
  refine AOR.pure (LT.extract (v := (.c (.loc 22 0 r1.1.length))) rfl (by exact rfl)) ⟨rfl, trivial⟩ trivial rfl rfl ?_
  refine AOR.pure (LT.extract (v := (.c (.loc 24 0 r1.2.1.length))) rfl (by exact rfl)) ⟨rfl, trivial⟩ trivial rfl rfl ?_
  refine AOR.pure (LT.extract (v := (.c (iC r1.2.2))) rfl (by exact rfl)) ⟨rfl, trivial⟩ trivial rfl rfl ?_
  refine AOR.pure (LT.assign (v := (.s (.c (.loc 22 0 r1.1.length)))) rfl) ⟨rfl, trivial⟩ trivial rfl rfl ?_
  refine AOR.pure (LT.assign (v := (.s (.c (.loc 24 0 r1.2.1.length)))) rfl) ⟨rfl, trivial⟩ trivial rfl rfl ?_
  refine AOR.pure (LT.assign (v := (.s (.c (iC r1.2.2)))) rfl) ⟨rfl, trivial⟩ trivial rfl rfl ?_
  refine AOR.nil ?_
  refine AWR.seq ?_
  refine AWR.ent (Ent.of (σ' := [(6, (.s (.c (.loc 24 0 r1.2.1.length))))]) (m' := [(24, (.prow 3 (r1.2.1.map encInt)))]) ⟨rfl, trivial⟩ ⟨rfl, trivial⟩) ?_
  refine AWR.region ?_
  refine AOR.pure (LT.move (v := (.s (.c (.loc 24 0 r1.2.1.length)))) rfl) ⟨rfl, trivial⟩ trivial rfl rfl ?_
  refine AOR.pure (LT.lenLoc rfl und37) ⟨rfl, trivial⟩ trivial rfl rfl ?_
  refine AOR.pure (LT.assign (v := (.s (.c (iC (r1.2.1.length : Int))))) rfl) ⟨rfl, trivial⟩ trivial rfl rfl ?_
  refine AOR.nil ?_
  refine AWR.ret (FPost.mk (.inr rfl) ⟨rfl, trivial⟩ trivial rfl ⟨PermP.sc, trivial⟩ trivial)
set_option maxRecDepth 100000 in
set_option maxHeartbeats 8000000 in
theorem w_impl_FrameworkRank (f : TFramework) : ∀ t, m_impl_FrameworkRank f = some t → Fw.Fn Try.prog 75 [(.agg [(iC f.Graph.Points), (.pv (.xs false (f.Graph.Bars.map encTBar))), (.pv (.xs false (f.Places.map encTPlace)))])] [] (.s (.c (iC t))) [] [] [] := by
  refine Fw.Fn.of (P := Try.prog) (X := []) (pn := []) (rs := (fun (t : Int) => [(.c (iC t))])) (dfs := (fun (t : Int) => [])) Try.func75 rfl Try.ntmps75 (Nat.le_of_ble_eq_true rfl) rfl ?_
  intro w0 U0 R0 g0
  unfold m_impl_FrameworkRank
  refine AWR.seq ?_
  refine AWR.region ?_
  refine AOR.step (LT.box (n := 21) (v := (.agg [(iC f.Graph.Points), (.pv (.xs false (f.Graph.Bars.map encTBar))), (.pv (.xs false (f.Places.map encTPlace)))])) rfl sz29 (by exact rfl)) ⟨rfl, trivial⟩ trivial rfl rfl ?_
  refine AOR.pure (LT.assign (v := (.s (.c (iC 0)))) rfl) ⟨⟨rfl, rfl⟩, trivial⟩ trivial rfl rfl ?_
  refine AOR.nil ?_
  refine AWR.seq ?_
  refine AWR.seq ?_
  refine AWR.region ?_
  refine AOR.pure (LT.bloadN (out := [(iC f.Graph.Points), (.pv (.xs false (f.Graph.Bars.map encTBar))), (.pv (.xs false (f.Places.map encTPlace)))]) rfl ag29 (infS inf29) sz29 (by exact rfl) (by exact rfl)) ⟨rfl, trivial⟩ ⟨rfl, trivial⟩ rfl rfl ?_
  refine AOR.bind fun r1 hr1 => ?_
  refine AOR.pure (@LT.callF Try.prog _ _ 86 _ _ [(.agg [(iC f.Graph.Points), (.pv (.xs false (f.Graph.Bars.map encTBar))), (.pv (.xs false (f.Places.map encTPlace)))])] _ _ [] _ _ _ _ (w_impl_IsFramework f r1 hr1) rfl cb86 (.cons (.agg (.cons (.same rfl) (.cons (.same rfl) (.cons (.same rfl) .nil)))) .nil) rfl rfl trivial) ⟨rfl, rfl, trivial⟩ trivial rfl rfl ?_
  refine AOR.pure (LT.not rfl) ⟨rfl, trivial⟩ trivial rfl rfl ?_
  refine AOR.nil ?_
  refine AWR.cond rfl (fun hc2 => ?_) (fun hc2 => ?_)
  · refine AWR.seq ?_
    refine AWR.region ?_
    refine AOR.pure (LT.assign (v := (.s (.c (iC (-1))))) rfl) ⟨⟨rfl, rfl⟩, trivial⟩ trivial rfl rfl ?_
    refine AOR.nil ?_
    refine AWR.ret (FPost.mk (.inr rfl) ⟨rfl, trivial⟩ trivial rfl ⟨PermP.sc, trivial⟩ trivial)
  · refine AWR.skip ?_
    refine AWR.seq ?_
    refine AWR.draw mixed ?_
    refine AOD.pure (LT.bloadN (out := [(iC f.Graph.Points), (.pv (.xs false (f.Graph.Bars.map encTBar))), (.pv (.xs false (f.Places.map encTPlace)))]) rfl ag29 (infS inf29) sz29 (by exact rfl) (by exact rfl)) ⟨rfl, trivial⟩ ⟨rfl, trivial⟩ rfl rfl ?_
    refine AOD.bind fun r3 hr3 => ?_
    refine AOD.step (@LT.callF Try.prog _ _ 62 _ _ [(.agg [(iC f.Graph.Points), (.pv (.xs false (f.Graph.Bars.map encTBar))), (.pv (.xs false (f.Places.map encTPlace)))])] _ _ [] _ _ _ _ ((show Fw.Fn Try.prog 62 [(.agg [(iC f.Graph.Points), (.pv (.xs false (f.Graph.Bars.map encTBar))), (.pv (.xs false (f.Places.map encTPlace)))])] [] (.s (.c (.loc 24 0 r3.length))) [(24, (.trow 37 25 (lensOf r3))), (25, (.pool 3 (rowsOf encInt r3)))] [] [24, 25] from Fw.Fn.ren [(0, 24), (1, 25)] (w_impl_RigidityMatrix f r3 hr3) rfl)) rfl cb62 (.cons (.agg (.cons (.same rfl) (.cons (.same rfl) (.cons (.same rfl) .nil)))) .nil) rfl rfl trivial) ⟨rfl, rfl, trivial⟩ trivial rfl rfl ?_
    refine AOD.pure (LT.fieldPl rfl fo29_0) ⟨rfl, trivial⟩ trivial rfl rfl ?_
    refine AOD.pure (LT.fieldPl rfl fo26_0) ⟨rfl, trivial⟩ trivial rfl rfl ?_
    refine AOD.pure (LT.bload1 (c := (iC f.Graph.Points)) rfl ag3 (by exact rfl)) ⟨rfl, trivial⟩ ⟨rfl, trivial⟩ rfl rfl ?_
    refine AOD.pure (LT.mul rfl) ⟨⟨rfl, rfl⟩, rfl, trivial⟩ trivial rfl rfl ?_
    refine AOD.bind fun r4 hr4 => ?_
    refine AOD.pure (@LT.callF Try.prog _ _ 132 _ _ [(.c (.loc 24 0 r3.length)), (.c (iC (w64 (2 * f.Graph.Points))))] _ _ [(24, (.trow 37 25 (lensOf r3))), (25, (.pool 3 (rowsOf encInt r3)))] _ _ _ _ (w_impl_rank r3 (w64 (2 * f.Graph.Points)) r4 hr4) rfl cb132 (.cons (.c (.ttrow rfl rfl rfl (fun _ => rfl))) (.cons (.c (.same rfl)) .nil)) rfl rfl trivial) ⟨rfl, rfl, rfl, trivial⟩ ⟨rfl, rfl, trivial⟩ rfl rfl ?_
    refine AOD.pure (LT.assign (v := (.s (.c (iC r4)))) rfl) ⟨rfl, trivial⟩ trivial rfl rfl ?_
    refine AOD.nil (by kernel_rfl) ?_
    refine AWR.ret (FPost.mk (.inr rfl) ⟨rfl, trivial⟩ trivial rfl ⟨PermP.sc, trivial⟩ trivial)
end Go.Proofs.Ytoeigmhhmadmbaa
end
