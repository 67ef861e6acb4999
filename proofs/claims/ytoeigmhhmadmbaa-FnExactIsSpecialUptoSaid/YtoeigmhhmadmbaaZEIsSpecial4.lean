/- Parts of a proof that a law of the program holds: what the program computes, and why that is right. -/
import Derived.Test.YtoeigmhhmadmbaaZEIsSpecial3
section
set_option linter.unusedVariables false
set_option linter.unusedSimpArgs false
set_option linter.unnecessarySimpa false
open Go Go.Fw
namespace Go.Proofs.Ytoeigmhhmadmbaa
set_option maxRecDepth 100000 in
set_option maxHeartbeats 8000000 in
theorem w_impl_RigidityMatrix (f : TFramework) : ∀ t, m_impl_RigidityMatrix f = some t → Fw.Fn Try.prog 62 [(.agg [(iC f.Graph.Points), (.pv (.xs false (f.Graph.Bars.map encTBar))), (.pv (.xs false (f.Places.map encTPlace)))])] [] (.s (.c (.loc 0 0 t.length))) [(0, (.trow 37 1 (lensOf t))), (1, (.pool 3 (rowsOf encInt t)))] [] [0, 1] := by
  refine Fw.Fn.of (P := Try.prog) (X := [0, 1]) (pn := []) (rs := (fun (t : (List (List Int))) => [(.c (.loc 0 0 t.length))])) (dfs := (fun (t : (List (List Int))) => [(0, (.trow 37 1 (lensOf t))), (1, (.pool 3 (rowsOf encInt t)))])) Try.func62 rfl Try.ntmps62 (Nat.le_of_ble_eq_true rfl) rfl ?_
  intro w0 U0 R0 g0
  unfold m_impl_RigidityMatrix
  refine AWR.seq ?_
  refine AWR.region ?_
  refine AOR.step (LT.box (n := 21) (v := (.agg [(iC f.Graph.Points), (.pv (.xs false (f.Graph.Bars.map encTBar))), (.pv (.xs false (f.Places.map encTPlace)))])) rfl sz29 (by exact rfl)) ⟨rfl, trivial⟩ trivial rfl rfl ?_
  refine AOR.pure (LT.assign (v := (.s (.c (sC nilV)))) rfl) ⟨⟨rfl, rfl⟩, trivial⟩ trivial rfl rfl ?_
  refine AOR.nil ?_
  refine AWR.seq ?_
  refine AWR.region ?_
  refine AOR.step (LT.buildSlice (n := 22) (els := []) [] rfl rfl und31 ti37 rfl rfl rfl rfl (by decide) rfl rfl) trivial trivial rfl rfl ?_
  refine AOR.pure (LT.assign (v := (.s (.c (.loc 22 0 0)))) rfl) ⟨rfl, trivial⟩ trivial rfl rfl ?_
  refine AOR.nil ?_
  refine AWR.ent (Ent.poolE 23 3 rfl) ?_
  refine AWR.ent (Ent.trow (n := 22) (p := 23) (lens := lensOf ([] : List (List Int))) (List.append_nil _) rfl) ?_
  refine AWR.seq ?_
  refine AWR.seq ?_
  refine AWR.region ?_
  refine AOR.pure (LT.bloadN (out := [(iC f.Graph.Points), (.pv (.xs false (f.Graph.Bars.map encTBar))), (.pv (.xs false (f.Places.map encTPlace)))]) rfl ag29 (infS inf29) sz29 (by exact rfl) (by exact rfl)) ⟨rfl, trivial⟩ ⟨rfl, trivial⟩ rfl rfl ?_
  refine AOR.bind fun r1 hr1 => ?_
  refine AOR.pure (@LT.callF Try.prog _ _ 86 _ _ [(.agg [(iC f.Graph.Points), (.pv (.xs false (f.Graph.Bars.map encTBar))), (.pv (.xs false (f.Places.map encTPlace)))])] _ _ [] _ _ _ _ (w_impl_IsFramework f r1 hr1) rfl cb86 (.cons (.agg (.cons (.same rfl) (.cons (.same rfl) (.cons (.same rfl) .nil)))) .nil) rfl rfl trivial) ⟨rfl, rfl, trivial⟩ trivial rfl rfl ?_
  refine AOR.pure (LT.not rfl) ⟨rfl, trivial⟩ trivial rfl rfl ?_
  refine AOR.nil ?_
  refine AWR.cond rfl (fun hc2 => ?_) (fun hc2 => ?_)
  · refine AWR.seq ?_
    refine AWR.region ?_
    refine AOR.pure (LT.move (v := (.s (.c (.loc 22 0 0)))) rfl) ⟨rfl, trivial⟩ trivial rfl rfl ?_
    refine AOR.pure (LT.assign (v := (.s (.c (.loc 22 0 0)))) rfl) ⟨rfl, trivial⟩ trivial rfl rfl ?_
    refine AOR.nil ?_
    refine AWR.ent (Ent.of (σ' := [(2, (.s (.c (.loc 22 0 0))))]) (m' := [(22, (.trow 37 23 (lensOf ([] : List (List Int))))), (23, (.pool 3 (rowsOf encInt ([] : List (List Int)))))]) ⟨rfl, trivial⟩ ⟨rfl, rfl, trivial⟩) ?_
    refine AWR.ent (Ent.mv 22 0 rfl rfl) ?_
    refine AWR.ent (Ent.mv 23 1 rfl rfl) ?_
    refine AWR.ent (Ent.of (σ' := [(2, (.s (.c (.loc 0 0 ([] : List (List Int)).length))))]) (m' := [(0, (.trow 37 1 (lensOf ([] : List (List Int))))), (1, (.pool 3 (rowsOf encInt ([] : List (List Int)))))]) ⟨rfl, trivial⟩ ⟨rfl, rfl, trivial⟩) ?_
    refine AWR.ret (FPost.mk (.inr rfl) ⟨rfl, trivial⟩ ⟨rfl, rfl, trivial⟩ rfl ⟨trivial, trivial⟩ ⟨trivial, PermO.poolR perm_encInt _, trivial⟩)
  · refine AWR.skip ?_
    refine AWR.seq ?_
    refine AWR.seq ?_
    refine AWR.region ?_
    refine AOR.pure (LT.fieldPl rfl fo29_0) ⟨rfl, trivial⟩ trivial rfl rfl ?_
    refine AOR.pure (LT.fieldPl rfl fo26_1) ⟨rfl, trivial⟩ trivial rfl rfl ?_
    refine AOR.pure (LT.bload1 (c := (.pv (.xs false (f.Graph.Bars.map encTBar)))) rfl ag24 (by exact rfl)) ⟨rfl, trivial⟩ ⟨rfl, trivial⟩ rfl rfl ?_
    refine AOR.pure (LT.tlenRO rfl und24) ⟨rfl, trivial⟩ trivial rfl rfl ?_
    refine AOR.pure (LT.move (v := (.s (.c (iC 0)))) rfl) ⟨⟨rfl, rfl⟩, trivial⟩ trivial rfl rfl ?_
    refine AOR.nil ?_
    refine AWR.block ?_
    refine AWR.loop1 (id := 0) (m_impl_RigidityMatrix_L1 f) (fun s3 => ([(1, (.s (.c (.pl 21 0)))), (3, (.s (.c (.loc 22 0 s3.2.length)))), (16, (.s (.c (.pv (.xs false (f.Graph.Bars.map encTBar)))))), (17, (.s (.c (iC (f.Graph.Bars.length : Int))))), (18, (.s (.c (iC s3.1))))], [(21, (.row 29 [[(iC f.Graph.Points), (.pv (.xs false (f.Graph.Bars.map encTBar))), (.pv (.xs false (f.Places.map encTPlace)))]])), (22, (.trow 37 23 (lensOf s3.2))), (23, (.pool 3 (rowsOf encInt s3.2)))])) (fun b24 => ([(3, (.s (.c (.loc 22 0 b24.length))))], [(22, (.trow 37 23 (lensOf b24))), (23, (.pool 3 (rowsOf encInt b24)))])) ?_ (Ent.of ⟨rfl, rfl, rfl, rfl, rfl, trivial⟩ ⟨rfl, rfl, rfl, trivial⟩) rfl (fun b24 _ => ?_)
    · intro s3
      unfold m_impl_RigidityMatrix_L1
      refine AWR.seq ?_
      refine AWR.region ?_
      refine AOR.pure (LT.lss rfl) ⟨rfl, rfl, trivial⟩ trivial rfl rfl ?_
      refine AOR.nil ?_
      refine AWR.seq ?_
      refine AWR.cond rfl (fun hc25 => ?_) (fun hc25 => ?_)
      · refine AWR.skip ?_
        refine AWR.seq ?_
        refine AWR.block ?_
        refine AWR.seq ?_
        refine AWR.region ?_
        refine AOR.bind fun x26 hx26 => ?_
        refine AOR.pure (LT.tindexRO (enc := encTBar) rfl el24 hx26 sz79) ⟨rfl, rfl, trivial⟩ trivial rfl rfl ?_
        refine AOR.pure (LT.loadPxN rfl ag79 (infS inf79) (by exact sz79.symm)) ⟨rfl, trivial⟩ trivial rfl rfl ?_
        refine AOR.step (LT.alloc (n := 25) (cells := [(iC 0), (iC 0)]) rfl ti79 rfl rfl rfl) trivial trivial rfl rfl ?_
        refine AOR.step (LT.bstore (v := (.agg [(iC x26.A), (iC x26.B)])) (out := [(iC x26.A), (iC x26.B)]) rfl rfl (infS inf79) sz79 (by exact rfl) (by exact Nat.le_of_ble_eq_true rfl) (by exact rfl)) ⟨rfl, rfl, trivial⟩ ⟨rfl, trivial⟩ rfl rfl ?_
        refine AOR.nil ?_
        refine AWR.seq ?_
        refine AWR.region ?_
        refine AOR.pure (LT.fieldPl rfl fo29_0) ⟨rfl, trivial⟩ trivial rfl rfl ?_
        refine AOR.pure (LT.fieldPl rfl fo26_0) ⟨rfl, trivial⟩ trivial rfl rfl ?_
        refine AOR.pure (LT.bload1 (c := (iC f.Graph.Points)) rfl ag3 (by exact rfl)) ⟨rfl, trivial⟩ ⟨rfl, trivial⟩ rfl rfl ?_
        refine AOR.pure (LT.mul rfl) ⟨⟨rfl, rfl⟩, rfl, trivial⟩ trivial rfl rfl ?_
        refine AOR.bind fun u27 hu27 => ?_
        refine AOR.step (LT.tmake (n := 26) (enc := encInt) (zc := [(iC 0)]) (0 : Int) rfl und37 ti3 rfl rfl rfl (by decide) (by decide) (lenOk_le hu27) rfl) ⟨rfl, rfl, trivial⟩ trivial rfl rfl ?_
        refine AOR.pure (LT.assign (v := (.s (.c (.loc 26 0 (List.replicate (w64 (2 * f.Graph.Points)).toNat (0 : Int)).length)))) rfl) ⟨rfl, trivial⟩ trivial rfl rfl ?_
        refine AOR.nil ?_
        refine AWR.seq ?_
        refine AWR.ent (Ent.of (σ' := [(1, (.s (.c (.pl 21 0)))), (3, (.s (.c (.loc 22 0 s3.2.length)))), (5, (.s (.c (.pl 25 0)))), (6, (.s (.c (.loc 26 0 (List.replicate (w64 (2 * f.Graph.Points)).toNat (0 : Int)).length)))), (16, (.s (.c (.pv (.xs false (f.Graph.Bars.map encTBar)))))), (17, (.s (.c (iC (f.Graph.Bars.length : Int))))), (18, (.s (.c (iC s3.1))))]) (m' := [(21, (.row 29 [[(iC f.Graph.Points), (.pv (.xs false (f.Graph.Bars.map encTBar))), (.pv (.xs false (f.Places.map encTPlace)))]])), (22, (.trow 37 23 (lensOf s3.2))), (23, (.pool 3 (rowsOf encInt s3.2))), (25, (.row 79 [[(iC x26.A), (iC x26.B)]])), (26, (.prow 3 ((List.replicate (w64 (2 * f.Graph.Points)).toNat (0 : Int)).map encInt)))]) ⟨rfl, rfl, rfl, rfl, rfl, rfl, rfl, trivial⟩ ⟨rfl, rfl, rfl, rfl, rfl, trivial⟩) ?_
        refine AWR.draw mixed ?_
        refine AOD.pure (LT.fieldPl rfl fo29_1) ⟨rfl, trivial⟩ trivial rfl rfl ?_
        refine AOD.pure (LT.bload1 (c := (.pv (.xs false (f.Places.map encTPlace)))) rfl ag27 (by exact rfl)) ⟨rfl, trivial⟩ ⟨rfl, trivial⟩ rfl rfl ?_
        refine AOD.pure (LT.fieldPl rfl fo79_0) ⟨rfl, trivial⟩ trivial rfl rfl ?_
        refine AOD.pure (LT.bload1 (c := (iC x26.A)) rfl ag3 (by exact rfl)) ⟨rfl, trivial⟩ ⟨rfl, trivial⟩ rfl rfl ?_
        refine AOD.bind fun x28 hx28 => ?_
        refine AOD.pure (LT.tindexRO (enc := encTPlace) rfl el27 hx28 sz95) ⟨rfl, rfl, trivial⟩ trivial rfl rfl ?_
        refine AOD.pure (LT.loadPxN rfl ag95 (infS inf95) (by exact sz95.symm)) ⟨rfl, trivial⟩ trivial rfl rfl ?_
        refine AOD.pure (LT.fieldPl rfl fo29_1) ⟨rfl, trivial⟩ trivial rfl rfl ?_
        refine AOD.pure (LT.bload1 (c := (.pv (.xs false (f.Places.map encTPlace)))) rfl ag27 (by exact rfl)) ⟨rfl, trivial⟩ ⟨rfl, trivial⟩ rfl rfl ?_
        refine AOD.pure (LT.fieldPl rfl fo79_1) ⟨rfl, trivial⟩ trivial rfl rfl ?_
        refine AOD.pure (LT.bload1 (c := (iC x26.B)) rfl ag3 (by exact rfl)) ⟨rfl, trivial⟩ ⟨rfl, trivial⟩ rfl rfl ?_
        refine AOD.bind fun x29 hx29 => ?_
        refine AOD.pure (LT.tindexRO (enc := encTPlace) rfl el27 hx29 sz95) ⟨rfl, rfl, trivial⟩ trivial rfl rfl ?_
        refine AOD.pure (LT.loadPxN rfl ag95 (infS inf95) (by exact sz95.symm)) ⟨rfl, trivial⟩ trivial rfl rfl ?_
        refine AOD.step (LT.alloc (n := 27) (cells := [(iC 0), (iC 0)]) rfl ti95 rfl rfl rfl) trivial trivial rfl rfl ?_
        refine AOD.step (LT.alloc (n := 28) (cells := [(iC 0), (iC 0)]) rfl ti95 rfl rfl rfl) trivial trivial rfl rfl ?_
        refine AOD.step (LT.bstore (v := (.agg [(iC x28.X), (iC x28.Y)])) (out := [(iC x28.X), (iC x28.Y)]) rfl rfl (infS inf95) sz95 (by exact rfl) (by exact Nat.le_of_ble_eq_true rfl) (by exact rfl)) ⟨rfl, rfl, trivial⟩ ⟨rfl, trivial⟩ rfl rfl ?_
        refine AOD.step (LT.bstore (v := (.agg [(iC x29.X), (iC x29.Y)])) (out := [(iC x29.X), (iC x29.Y)]) rfl rfl (infS inf95) sz95 (by exact rfl) (by exact Nat.le_of_ble_eq_true rfl) (by exact rfl)) ⟨rfl, rfl, trivial⟩ ⟨rfl, trivial⟩ rfl rfl ?_
        refine AOD.nil (by kernel_rfl) ?_
        refine AWR.seq ?_
        refine AWR.ent (Ent.of (σ' := [(1, (.s (.c (.pl 21 0)))), (3, (.s (.c (.loc 22 0 s3.2.length)))), (5, (.s (.c (.pl 25 0)))), (6, (.s (.c (.loc 26 0 (List.replicate (w64 (2 * f.Graph.Points)).toNat (0 : Int)).length)))), (7, (.s (.c (.pl 27 0)))), (8, (.s (.c (.pl 28 0)))), (16, (.s (.c (.pv (.xs false (f.Graph.Bars.map encTBar)))))), (17, (.s (.c (iC (f.Graph.Bars.length : Int))))), (18, (.s (.c (iC s3.1))))]) (m' := [(21, (.row 29 [[(iC f.Graph.Points), (.pv (.xs false (f.Graph.Bars.map encTBar))), (.pv (.xs false (f.Places.map encTPlace)))]])), (22, (.trow 37 23 (lensOf s3.2))), (23, (.pool 3 (rowsOf encInt s3.2))), (25, (.row 79 [[(iC x26.A), (iC x26.B)]])), (26, (.prow 3 ((List.replicate (w64 (2 * f.Graph.Points)).toNat (0 : Int)).map encInt))), (27, (.row 95 [[(iC x28.X), (iC x28.Y)]])), (28, (.row 95 [[(iC x29.X), (iC x29.Y)]]))]) ⟨rfl, rfl, rfl, rfl, rfl, rfl, rfl, rfl, rfl, trivial⟩ ⟨rfl, rfl, rfl, rfl, rfl, rfl, rfl, trivial⟩) ?_
        refine AWR.draw mixed ?_
        refine AOD.pure (LT.move (v := (.s (.c (.loc 26 0 (List.replicate (w64 (2 * f.Graph.Points)).toNat (0 : Int)).length)))) rfl) ⟨rfl, trivial⟩ trivial rfl rfl ?_
        refine AOD.pure (LT.fieldPl rfl fo79_0) ⟨rfl, trivial⟩ trivial rfl rfl ?_
        refine AOD.pure (LT.bload1 (c := (iC x26.A)) rfl ag3 (by exact rfl)) ⟨rfl, trivial⟩ ⟨rfl, trivial⟩ rfl rfl ?_
        refine AOD.pure (LT.mul rfl) ⟨⟨rfl, rfl⟩, rfl, trivial⟩ trivial rfl rfl ?_
        refine AOD.pure (LT.move (v := (.s (.c (.loc 26 0 (List.replicate (w64 (2 * f.Graph.Points)).toNat (0 : Int)).length)))) rfl) ⟨rfl, trivial⟩ trivial rfl rfl ?_
        refine AOD.pure (LT.fieldPl rfl fo79_0) ⟨rfl, trivial⟩ trivial rfl rfl ?_
        refine AOD.pure (LT.bload1 (c := (iC x26.A)) rfl ag3 (by exact rfl)) ⟨rfl, trivial⟩ ⟨rfl, trivial⟩ rfl rfl ?_
        refine AOD.pure (LT.mul rfl) ⟨⟨rfl, rfl⟩, rfl, trivial⟩ trivial rfl rfl ?_
        refine AOD.pure (LT.add rfl) ⟨rfl, ⟨rfl, rfl⟩, trivial⟩ trivial rfl rfl ?_
        refine AOD.pure (LT.fieldPl rfl fo95_0) ⟨rfl, trivial⟩ trivial rfl rfl ?_
        refine AOD.pure (LT.bload1 (c := (iC x28.X)) rfl ag3 (by exact rfl)) ⟨rfl, trivial⟩ ⟨rfl, trivial⟩ rfl rfl ?_
        refine AOD.pure (LT.fieldPl rfl fo95_0) ⟨rfl, trivial⟩ trivial rfl rfl ?_
        refine AOD.pure (LT.bload1 (c := (iC x29.X)) rfl ag3 (by exact rfl)) ⟨rfl, trivial⟩ ⟨rfl, trivial⟩ rfl rfl ?_
        refine AOD.pure (LT.sub rfl) ⟨rfl, rfl, trivial⟩ trivial rfl rfl ?_
        refine AOD.pure (LT.fieldPl rfl fo95_1) ⟨rfl, trivial⟩ trivial rfl rfl ?_
        refine AOD.pure (LT.bload1 (c := (iC x28.Y)) rfl ag3 (by exact rfl)) ⟨rfl, trivial⟩ ⟨rfl, trivial⟩ rfl rfl ?_
        refine AOD.pure (LT.fieldPl rfl fo95_1) ⟨rfl, trivial⟩ trivial rfl rfl ?_
        refine AOD.pure (LT.bload1 (c := (iC x29.Y)) rfl ag3 (by exact rfl)) ⟨rfl, trivial⟩ ⟨rfl, trivial⟩ rfl rfl ?_
        refine AOD.pure (LT.sub rfl) ⟨rfl, rfl, trivial⟩ trivial rfl rfl ?_
        refine AOD.bind fun x30 hx30 => ?_
        refine AOD.pure (LT.tindexLoc rfl rfl el37 hx30) ⟨rfl, rfl, trivial⟩ ⟨rfl, trivial⟩ rfl rfl ?_
        refine AOD.step (LT.tstore (k := 0) (v := (.c (iC (w64 (x28.X - x29.X))))) (b' := (w64 (x28.X - x29.X))) rfl rfl (infS inf3) sz3 (by exact rfl) hx30 (by exact rfl) (by exact Nat.le_of_ble_eq_true rfl) (by exact rfl)) ⟨rfl, rfl, trivial⟩ ⟨rfl, trivial⟩ rfl rfl ?_
        refine AOD.bind fun x31 hx31 => ?_
        refine AOD.pure (LT.tindexLoc (show (List.replicate (w64 (2 * f.Graph.Points)).toNat (0 : Int)).length = ((List.replicate (w64 (2 * f.Graph.Points)).toNat (0 : Int)).set (w64 (2 * x26.A)).toNat (w64 (x28.X - x29.X))).length by simp only [List.length_set]) rfl el37 hx31) ⟨rfl, rfl, trivial⟩ ⟨rfl, trivial⟩ rfl rfl ?_
        refine AOD.step (LT.tstore (k := 0) (v := (.c (iC (w64 (x28.Y - x29.Y))))) (b' := (w64 (x28.Y - x29.Y))) rfl rfl (infS inf3) sz3 (by exact rfl) hx31 (by exact rfl) (by exact Nat.le_of_ble_eq_true rfl) (by exact rfl)) ⟨rfl, rfl, trivial⟩ ⟨rfl, trivial⟩ rfl rfl ?_
        refine AOD.nil (by kernel_rfl) ?_
        refine AWR.seq ?_
        refine AWR.ent (Ent.of (σ' := [(1, (.s (.c (.pl 21 0)))), (3, (.s (.c (.loc 22 0 s3.2.length)))), (5, (.s (.c (.pl 25 0)))), (6, (.s (.c (.loc 26 0 (List.replicate (w64 (2 * f.Graph.Points)).toNat (0 : Int)).length)))), (7, (.s (.c (.pl 27 0)))), (8, (.s (.c (.pl 28 0)))), (16, (.s (.c (.pv (.xs false (f.Graph.Bars.map encTBar)))))), (17, (.s (.c (iC (f.Graph.Bars.length : Int))))), (18, (.s (.c (iC s3.1))))]) (m' := [(21, (.row 29 [[(iC f.Graph.Points), (.pv (.xs false (f.Graph.Bars.map encTBar))), (.pv (.xs false (f.Places.map encTPlace)))]])), (22, (.trow 37 23 (lensOf s3.2))), (23, (.pool 3 (rowsOf encInt s3.2))), (25, (.row 79 [[(iC x26.A), (iC x26.B)]])), (26, (.prow 3 ((((List.replicate (w64 (2 * f.Graph.Points)).toNat (0 : Int)).set (w64 (2 * x26.A)).toNat (w64 (x28.X - x29.X))).set (w64 ((w64 (2 * x26.A)) + 1)).toNat (w64 (x28.Y - x29.Y))).map encInt))), (27, (.row 95 [[(iC x28.X), (iC x28.Y)]])), (28, (.row 95 [[(iC x29.X), (iC x29.Y)]]))]) ⟨rfl, rfl, rfl, rfl, rfl, rfl, rfl, rfl, rfl, trivial⟩ ⟨rfl, rfl, rfl, rfl, rfl, rfl, rfl, trivial⟩) ?_
        refine AWR.draw mixed ?_
        refine AOD.pure (LT.move (v := (.s (.c (.loc 26 0 (List.replicate (w64 (2 * f.Graph.Points)).toNat (0 : Int)).length)))) rfl) ⟨rfl, trivial⟩ trivial rfl rfl ?_
        refine AOD.pure (LT.fieldPl rfl fo79_1) ⟨rfl, trivial⟩ trivial rfl rfl ?_
        refine AOD.pure (LT.bload1 (c := (iC x26.B)) rfl ag3 (by exact rfl)) ⟨rfl, trivial⟩ ⟨rfl, trivial⟩ rfl rfl ?_
        refine AOD.pure (LT.mul rfl) ⟨⟨rfl, rfl⟩, rfl, trivial⟩ trivial rfl rfl ?_
        refine AOD.pure (LT.move (v := (.s (.c (.loc 26 0 (List.replicate (w64 (2 * f.Graph.Points)).toNat (0 : Int)).length)))) rfl) ⟨rfl, trivial⟩ trivial rfl rfl ?_
        refine AOD.pure (LT.fieldPl rfl fo79_1) ⟨rfl, trivial⟩ trivial rfl rfl ?_
        refine AOD.pure (LT.bload1 (c := (iC x26.B)) rfl ag3 (by exact rfl)) ⟨rfl, trivial⟩ ⟨rfl, trivial⟩ rfl rfl ?_
        refine AOD.pure (LT.mul rfl) ⟨⟨rfl, rfl⟩, rfl, trivial⟩ trivial rfl rfl ?_
        refine AOD.pure (LT.add rfl) ⟨rfl, ⟨rfl, rfl⟩, trivial⟩ trivial rfl rfl ?_
        refine AOD.pure (LT.fieldPl rfl fo95_0) ⟨rfl, trivial⟩ trivial rfl rfl ?_
        refine AOD.pure (LT.bload1 (c := (iC x29.X)) rfl ag3 (by exact rfl)) ⟨rfl, trivial⟩ ⟨rfl, trivial⟩ rfl rfl ?_
        refine AOD.pure (LT.fieldPl rfl fo95_0) ⟨rfl, trivial⟩ trivial rfl rfl ?_
        refine AOD.pure (LT.bload1 (c := (iC x28.X)) rfl ag3 (by exact rfl)) ⟨rfl, trivial⟩ ⟨rfl, trivial⟩ rfl rfl ?_
        refine AOD.pure (LT.sub rfl) ⟨rfl, rfl, trivial⟩ trivial rfl rfl ?_
        refine AOD.pure (LT.fieldPl rfl fo95_1) ⟨rfl, trivial⟩ trivial rfl rfl ?_
        refine AOD.pure (LT.bload1 (c := (iC x29.Y)) rfl ag3 (by exact rfl)) ⟨rfl, trivial⟩ ⟨rfl, trivial⟩ rfl rfl ?_
        refine AOD.pure (LT.fieldPl rfl fo95_1) ⟨rfl, trivial⟩ trivial rfl rfl ?_
        refine AOD.pure (LT.bload1 (c := (iC x28.Y)) rfl ag3 (by exact rfl)) ⟨rfl, trivial⟩ ⟨rfl, trivial⟩ rfl rfl ?_
        refine AOD.pure (LT.sub rfl) ⟨rfl, rfl, trivial⟩ trivial rfl rfl ?_
        refine AOD.bind fun x32 hx32 => ?_
        refine AOD.pure (LT.tindexLoc (show (List.replicate (w64 (2 * f.Graph.Points)).toNat (0 : Int)).length = (((List.replicate (w64 (2 * f.Graph.Points)).toNat (0 : Int)).set (w64 (2 * x26.A)).toNat (w64 (x28.X - x29.X))).set (w64 ((w64 (2 * x26.A)) + 1)).toNat (w64 (x28.Y - x29.Y))).length by simp only [List.length_set]) rfl el37 hx32) ⟨rfl, rfl, trivial⟩ ⟨rfl, trivial⟩ rfl rfl ?_
        refine AOD.step (LT.tstore (k := 0) (v := (.c (iC (w64 (x29.X - x28.X))))) (b' := (w64 (x29.X - x28.X))) rfl rfl (infS inf3) sz3 (by exact rfl) hx32 (by exact rfl) (by exact Nat.le_of_ble_eq_true rfl) (by exact rfl)) ⟨rfl, rfl, trivial⟩ ⟨rfl, trivial⟩ rfl rfl ?_
        refine AOD.bind fun x33 hx33 => ?_
        refine AOD.pure (LT.tindexLoc (show (List.replicate (w64 (2 * f.Graph.Points)).toNat (0 : Int)).length = ((((List.replicate (w64 (2 * f.Graph.Points)).toNat (0 : Int)).set (w64 (2 * x26.A)).toNat (w64 (x28.X - x29.X))).set (w64 ((w64 (2 * x26.A)) + 1)).toNat (w64 (x28.Y - x29.Y))).set (w64 (2 * x26.B)).toNat (w64 (x29.X - x28.X))).length by simp only [List.length_set]) rfl el37 hx33) ⟨rfl, rfl, trivial⟩ ⟨rfl, trivial⟩ rfl rfl ?_
        refine AOD.step (LT.tstore (k := 0) (v := (.c (iC (w64 (x29.Y - x28.Y))))) (b' := (w64 (x29.Y - x28.Y))) rfl rfl (infS inf3) sz3 (by exact rfl) hx33 (by exact rfl) (by exact Nat.le_of_ble_eq_true rfl) (by exact rfl)) ⟨rfl, rfl, trivial⟩ ⟨rfl, trivial⟩ rfl rfl ?_
        refine AOD.nil (by kernel_rfl) ?_
        refine AWR.ent (Ent.of (σ' := [(1, (.s (.c (.pl 21 0)))), (3, (.s (.c (.loc 22 0 s3.2.length)))), (6, (.s (.c (.loc 26 0 (List.replicate (w64 (2 * f.Graph.Points)).toNat (0 : Int)).length)))), (16, (.s (.c (.pv (.xs false (f.Graph.Bars.map encTBar)))))), (17, (.s (.c (iC (f.Graph.Bars.length : Int))))), (18, (.s (.c (iC s3.1))))]) (m' := [(21, (.row 29 [[(iC f.Graph.Points), (.pv (.xs false (f.Graph.Bars.map encTBar))), (.pv (.xs false (f.Places.map encTPlace)))]])), (22, (.trow 37 23 (lensOf s3.2))), (23, (.pool 3 (rowsOf encInt s3.2))), (26, (.prow 3 ((((((List.replicate (w64 (2 * f.Graph.Points)).toNat (0 : Int)).set (w64 (2 * x26.A)).toNat (w64 (x28.X - x29.X))).set (w64 ((w64 (2 * x26.A)) + 1)).toNat (w64 (x28.Y - x29.Y))).set (w64 (2 * x26.B)).toNat (w64 (x29.X - x28.X))).set (w64 ((w64 (2 * x26.B)) + 1)).toNat (w64 (x29.Y - x28.Y))).map encInt)))]) ⟨rfl, rfl, rfl, rfl, rfl, rfl, trivial⟩ ⟨rfl, rfl, rfl, rfl, trivial⟩) ?_
        refine AWR.region ?_
        refine AOR.pure (LT.move (v := (.s (.c (.loc 22 0 s3.2.length)))) rfl) ⟨rfl, trivial⟩ trivial rfl rfl ?_
        refine AOR.pure (LT.move (v := (.s (.c (.loc 26 0 (List.replicate (w64 (2 * f.Graph.Points)).toNat (0 : Int)).length)))) rfl) ⟨rfl, trivial⟩ trivial rfl rfl ?_
        refine AOR.step (LT.buildSlice (n := 29) (els := [[(.loc 26 0 (List.replicate (w64 (2 * f.Graph.Points)).toNat (0 : Int)).length)]]) [(0, .tmp 82, (.c (.loc 26 0 (List.replicate (w64 (2 * f.Graph.Points)).toNat (0 : Int)).length)))] rfl rfl und31 ti37 rfl rfl rfl rfl (by decide) rfl rfl) ⟨rfl, trivial⟩ trivial rfl rfl ?_
        refine AOR.bind fun u34 hu34 => ?_
        refine AOR.step (LT.xapp rfl rfl rfl und31 ti37 rfl (by decide) (by decide) rfl (lim_le hu34)) ⟨rfl, rfl, trivial⟩ ⟨rfl, rfl, trivial⟩ rfl rfl ?_
        refine AOR.pure (LT.assign (v := (.s (.c (.loc 22 0 (s3.2.length + 1))))) rfl) ⟨rfl, trivial⟩ trivial rfl rfl ?_
        refine AOR.nil ?_
        refine AWR.ent (Ent.tadopt (enc := encInt) (n := 22) (m := 26) (p := 23) (rows := s3.2) (r := (((((List.replicate (w64 (2 * f.Graph.Points)).toNat (0 : Int)).set (w64 (2 * x26.A)).toNat (w64 (x28.X - x29.X))).set (w64 ((w64 (2 * x26.A)) + 1)).toNat (w64 (x28.Y - x29.Y))).set (w64 (2 * x26.B)).toNat (w64 (x29.X - x28.X))).set (w64 ((w64 (2 * x26.B)) + 1)).toNat (w64 (x29.Y - x28.Y)))) (rest := []) (show (List.replicate (w64 (2 * f.Graph.Points)).toNat (0 : Int)).length = (((((List.replicate (w64 (2 * f.Graph.Points)).toNat (0 : Int)).set (w64 (2 * x26.A)).toNat (w64 (x28.X - x29.X))).set (w64 ((w64 (2 * x26.A)) + 1)).toNat (w64 (x28.Y - x29.Y))).set (w64 (2 * x26.B)).toNat (w64 (x29.X - x28.X))).set (w64 ((w64 (2 * x26.B)) + 1)).toNat (w64 (x29.Y - x28.Y))).length by simp only [List.length_set]) rfl rfl rfl rfl rfl) ?_
        refine AWR.ent (Ent.trow (n := 22) (p := 23) (lens := lensOf (s3.2 ++ [(((((List.replicate (w64 (2 * f.Graph.Points)).toNat (0 : Int)).set (w64 (2 * x26.A)).toNat (w64 (x28.X - x29.X))).set (w64 ((w64 (2 * x26.A)) + 1)).toNat (w64 (x28.Y - x29.Y))).set (w64 (2 * x26.B)).toNat (w64 (x29.X - x28.X))).set (w64 ((w64 (2 * x26.B)) + 1)).toNat (w64 (x29.Y - x28.Y)))])) (List.append_nil _) rfl) ?_
        refine AWR.blk ?_
        refine AWR.region ?_
        refine AOR.pure (LT.add rfl) ⟨rfl, ⟨rfl, rfl⟩, trivial⟩ trivial rfl rfl ?_
        refine AOR.pure (LT.move (v := (.s (.c (iC (w64 (s3.1 + 1)))))) rfl) ⟨rfl, trivial⟩ trivial rfl rfl ?_
        refine AOR.nil ?_
        refine AWR.nil ⟨rfl, Ent.of ⟨rfl, (congrArg (fun l1 => (some (AV.s (.c (.loc 22 0 l1))) : Option AV)) (show (s3.2.length + 1) = (s3.2 ++ [(((((List.replicate (w64 (2 * f.Graph.Points)).toNat (0 : Int)).set (w64 (2 * x26.A)).toNat (w64 (x28.X - x29.X))).set (w64 ((w64 (2 * x26.A)) + 1)).toNat (w64 (x28.Y - x29.Y))).set (w64 (2 * x26.B)).toNat (w64 (x29.X - x28.X))).set (w64 ((w64 (2 * x26.B)) + 1)).toNat (w64 (x29.Y - x28.Y)))]).length from len_snoc)), rfl, rfl, rfl, trivial⟩ ⟨rfl, rfl, rfl, trivial⟩⟩
      · refine AWR.exit_end rfl ⟨rfl, Ent.of ⟨rfl, trivial⟩ ⟨rfl, rfl, trivial⟩⟩
    · refine AWR.seq ?_
      refine AWR.region ?_
      refine AOR.pure (LT.move (v := (.s (.c (.loc 22 0 b24.length)))) rfl) ⟨rfl, trivial⟩ trivial rfl rfl ?_
      refine AOR.pure (LT.assign (v := (.s (.c (.loc 22 0 b24.length)))) rfl) ⟨rfl, trivial⟩ trivial rfl rfl ?_
      refine AOR.nil ?_
      refine AWR.ent (Ent.of (σ' := [(2, (.s (.c (.loc 22 0 b24.length))))]) (m' := [(22, (.trow 37 23 (lensOf b24))), (23, (.pool 3 (rowsOf encInt b24)))]) ⟨rfl, trivial⟩ ⟨rfl, rfl, trivial⟩) ?_
      refine AWR.ent (Ent.mv 22 0 rfl rfl) ?_
      refine AWR.ent (Ent.mv 23 1 rfl rfl) ?_
      refine AWR.ent (Ent.of (σ' := [(2, (.s (.c (.loc 0 0 b24.length))))]) (m' := [(0, (.trow 37 1 (lensOf b24))), (1, (.pool 3 (rowsOf encInt b24)))]) ⟨rfl, trivial⟩ ⟨rfl, rfl, trivial⟩) ?_
      refine AWR.ret (FPost.mk (.inr rfl) ⟨rfl, trivial⟩ ⟨rfl, rfl, trivial⟩ rfl ⟨trivial, trivial⟩ ⟨trivial, PermO.poolR perm_encInt _, trivial⟩)
set_option maxRecDepth 100000 in
set_option maxHeartbeats 8000000 in
theorem w_impl_copyInts (l : (List Int)) : ∀ t, m_impl_copyInts l = some t → Fw.Fn Try.prog 96 [(.c (.pv (.xs false (l.map encInt))))] [] (.s (.c (.loc 0 0 t.length))) [(0, (.prow 3 (t.map encInt)))] [] [0] := by
  refine Fw.Fn.of (P := Try.prog) (X := [0]) (pn := []) (rs := (fun (t : (List Int)) => [(.c (.loc 0 0 t.length))])) (dfs := (fun (t : (List Int)) => [(0, (.prow 3 (t.map encInt)))])) Try.func96 rfl Try.ntmps96 (Nat.le_of_ble_eq_true rfl) rfl ?_
  intro w0 U0 R0 g0
  unfold m_impl_copyInts
  refine AWR.seq ?_
  refine AWR.region ?_
  refine AOR.pure (LT.assign (v := (.s (.c (sC nilV)))) rfl) ⟨⟨rfl, rfl⟩, trivial⟩ trivial rfl rfl ?_
  refine AOR.nil ?_
  refine AWR.seq ?_
  refine AWR.region ?_
  refine AOR.step (LT.tbuildSlice (n := 21) (enc := encInt) [] ([] : List Int) rfl rfl und37 ti3 rfl rfl rfl rfl (by decide) (fun _ => rfl) rfl) trivial trivial rfl rfl ?_
  refine AOR.pure (LT.move (v := (.s (.c (.pv (.xs false (l.map encInt)))))) rfl) ⟨rfl, trivial⟩ trivial rfl rfl ?_
  refine AOR.bind fun u1 hu1 => ?_
  refine AOR.step (LT.tappRO (enc := encInt) rfl  rfl und37 ti3 rfl (by decide) (by decide) (fun _ => rfl) (lim_le hu1)) ⟨rfl, rfl, trivial⟩ ⟨rfl, trivial⟩ rfl rfl ?_
  refine AOR.pure (LT.assign (v := (.s (.c (.loc 21 0 (([] : List Int) ++ l).length)))) rfl) ⟨rfl, trivial⟩ trivial rfl rfl ?_
  refine AOR.nil ?_
  refine AWR.ent (Ent.of (σ' := [(2, (.s (.c (.loc 21 0 (([] : List Int) ++ l).length))))]) (m' := [(21, (.prow 3 ((([] : List Int) ++ l).map encInt)))]) ⟨rfl, trivial⟩ ⟨rfl, trivial⟩) ?_
  refine AWR.ent (Ent.mv 21 0 rfl rfl) ?_
  refine AWR.ent (Ent.of (σ' := [(2, (.s (.c (.loc 0 0 (([] : List Int) ++ l).length))))]) (m' := [(0, (.prow 3 ((([] : List Int) ++ l).map encInt)))]) ⟨rfl, trivial⟩ ⟨rfl, trivial⟩) ?_
  refine AWR.ret (FPost.mk (.inr rfl) ⟨rfl, trivial⟩ ⟨rfl, trivial⟩ rfl ⟨trivial, trivial⟩ ⟨PermO.prow' perm_encInt, trivial⟩)
set_option maxRecDepth 100000 in
set_option maxHeartbeats 8000000 in
theorem w_impl_copyLists (l : (List (List Int))) : ∀ t, m_impl_copyLists l = some t → Fw.Fn Try.prog 188 [(.c (.pv (.xs false (l.map (encLInt false)))))] [] (.s (.c (.loc 0 0 t.length))) [(0, (.trow 37 1 (lensOf t))), (1, (.pool 3 (rowsOf encInt t)))] [] [0, 1] := by
  refine Fw.Fn.of (P := Try.prog) (X := [0, 1]) (pn := []) (rs := (fun (t : (List (List Int))) => [(.c (.loc 0 0 t.length))])) (dfs := (fun (t : (List (List Int))) => [(0, (.trow 37 1 (lensOf t))), (1, (.pool 3 (rowsOf encInt t)))])) Try.func188 rfl Try.ntmps188 (Nat.le_of_ble_eq_true rfl) rfl ?_
  intro w0 U0 R0 g0
  unfold m_impl_copyLists
  refine AWR.seq ?_
  refine AWR.region ?_
  refine AOR.pure (LT.assign (v := (.s (.c (sC nilV)))) rfl) ⟨⟨rfl, rfl⟩, trivial⟩ trivial rfl rfl ?_
  refine AOR.nil ?_
  refine AWR.seq ?_
  refine AWR.region ?_
  refine AOR.step (LT.buildSlice (n := 21) (els := []) [] rfl rfl und31 ti37 rfl rfl rfl rfl (by decide) rfl rfl) trivial trivial rfl rfl ?_
  refine AOR.pure (LT.assign (v := (.s (.c (.loc 21 0 0)))) rfl) ⟨rfl, trivial⟩ trivial rfl rfl ?_
  refine AOR.nil ?_
  refine AWR.ent (Ent.poolE 22 3 rfl) ?_
  refine AWR.ent (Ent.trow (n := 21) (p := 22) (lens := lensOf ([] : List (List Int))) (List.append_nil _) rfl) ?_
  refine AWR.seq ?_
  refine AWR.seq ?_
  refine AWR.region ?_
  refine AOR.pure (LT.move (v := (.s (.c (.pv (.xs false (l.map (encLInt false))))))) rfl) ⟨rfl, trivial⟩ trivial rfl rfl ?_
  refine AOR.pure (LT.tlenRO rfl und31) ⟨rfl, trivial⟩ trivial rfl rfl ?_
  refine AOR.pure (LT.move (v := (.s (.c (iC 0)))) rfl) ⟨⟨rfl, rfl⟩, trivial⟩ trivial rfl rfl ?_
  refine AOR.nil ?_
  refine AWR.block ?_
  refine AWR.loop1 (id := 0) (m_impl_copyLists_L1 l) (fun s1 => ([(3, (.s (.c (.loc 21 0 s1.2.length)))), (7, (.s (.c (.pv (.xs false (l.map (encLInt false))))))), (8, (.s (.c (iC (l.length : Int))))), (9, (.s (.c (iC s1.1))))], [(21, (.trow 37 22 (lensOf s1.2))), (22, (.pool 3 (rowsOf encInt s1.2)))])) (fun b10 => ([(3, (.s (.c (.loc 21 0 b10.length))))], [(21, (.trow 37 22 (lensOf b10))), (22, (.pool 3 (rowsOf encInt b10)))])) ?_ (Ent.of ⟨rfl, rfl, rfl, rfl, trivial⟩ ⟨rfl, rfl, trivial⟩) rfl (fun b10 _ => ?_)
  · intro s1
    unfold m_impl_copyLists_L1
    refine AWR.seq ?_
    refine AWR.region ?_
    refine AOR.pure (LT.lss rfl) ⟨rfl, rfl, trivial⟩ trivial rfl rfl ?_
    refine AOR.nil ?_
    refine AWR.seq ?_
    refine AWR.cond rfl (fun hc11 => ?_) (fun hc11 => ?_)
    · refine AWR.skip ?_
      refine AWR.seq ?_
      refine AWR.block ?_
      refine AWR.seq ?_
      refine AWR.region ?_
      refine AOR.bind fun x12 hx12 => ?_
      refine AOR.pure (LT.tindexRO (enc := (encLInt false)) rfl el31 hx12 sz37) ⟨rfl, rfl, trivial⟩ trivial rfl rfl ?_
      refine AOR.pure (LT.loadPx1 rfl ag37) ⟨rfl, trivial⟩ trivial rfl rfl ?_
      refine AOR.pure (LT.assign (v := (.s (.c (.pv (.xs false (x12.map encInt)))))) rfl) ⟨rfl, trivial⟩ trivial rfl rfl ?_
      refine AOR.nil ?_
      refine AWR.region ?_
      refine AOR.pure (LT.move (v := (.s (.c (.loc 21 0 s1.2.length)))) rfl) ⟨rfl, trivial⟩ trivial rfl rfl ?_
      refine AOR.pure (LT.move (v := (.s (.c (.pv (.xs false (x12.map encInt)))))) rfl) ⟨rfl, trivial⟩ trivial rfl rfl ?_
      refine AOR.bind fun r13 hr13 => ?_
      refine AOR.step (@LT.callF Try.prog _ _ 96 _ _ [(.c (.pv (.xs false (x12.map encInt))))] _ _ [] _ _ _ _ ((show Fw.Fn Try.prog 96 [(.c (.pv (.xs false (x12.map encInt))))] [] (.s (.c (.loc 24 0 r13.length))) [(24, (.prow 3 (r13.map encInt)))] [] [24] from Fw.Fn.ren [(0, 24)] (w_impl_copyInts x12 r13 hr13) rfl)) rfl cb96 (.cons (.c (.same rfl)) .nil) rfl rfl trivial) ⟨rfl, rfl, trivial⟩ trivial rfl rfl ?_
      refine AOR.step (LT.buildSlice (n := 25) (els := [[(.loc 24 0 r13.length)]]) [(0, .tmp 15, (.c (.loc 24 0 r13.length)))] rfl rfl und31 ti37 rfl rfl rfl rfl (by decide) rfl rfl) ⟨rfl, trivial⟩ trivial rfl rfl ?_
      refine AOR.bind fun u14 hu14 => ?_
      refine AOR.step (LT.xapp rfl rfl rfl und31 ti37 rfl (by decide) (by decide) rfl (lim_le hu14)) ⟨rfl, rfl, trivial⟩ ⟨rfl, rfl, trivial⟩ rfl rfl ?_
      refine AOR.pure (LT.assign (v := (.s (.c (.loc 21 0 (s1.2.length + 1))))) rfl) ⟨rfl, trivial⟩ trivial rfl rfl ?_
      refine AOR.nil ?_
      refine AWR.ent (Ent.tadopt (enc := encInt) (n := 21) (m := 24) (p := 22) (rows := s1.2) (r := r13) (rest := []) rfl rfl rfl rfl rfl rfl) ?_
      refine AWR.ent (Ent.trow (n := 21) (p := 22) (lens := lensOf (s1.2 ++ [r13])) (List.append_nil _) rfl) ?_
      refine AWR.blk ?_
      refine AWR.region ?_
      refine AOR.pure (LT.add rfl) ⟨rfl, ⟨rfl, rfl⟩, trivial⟩ trivial rfl rfl ?_
      refine AOR.pure (LT.move (v := (.s (.c (iC (w64 (s1.1 + 1)))))) rfl) ⟨rfl, trivial⟩ trivial rfl rfl ?_
      refine AOR.nil ?_
      refine AWR.nil ⟨rfl, Ent.of ⟨(congrArg (fun l1 => (some (AV.s (.c (.loc 21 0 l1))) : Option AV)) (show (s1.2.length + 1) = (s1.2 ++ [r13]).length from len_snoc)), rfl, rfl, rfl, trivial⟩ ⟨rfl, rfl, trivial⟩⟩
    · refine AWR.exit_end rfl ⟨rfl, Ent.of ⟨rfl, trivial⟩ ⟨rfl, rfl, trivial⟩⟩
  · refine AWR.seq ?_
    refine AWR.region ?_
    refine AOR.pure (LT.move (v := (.s (.c (.loc 21 0 b10.length)))) rfl) ⟨rfl, trivial⟩ trivial rfl rfl ?_
    refine AOR.pure (LT.assign (v := (.s (.c (.loc 21 0 b10.length)))) rfl) ⟨rfl, trivial⟩ trivial rfl rfl ?_
    refine AOR.nil ?_
    refine AWR.ent (Ent.of (σ' := [(2, (.s (.c (.loc 21 0 b10.length))))]) (m' := [(21, (.trow 37 22 (lensOf b10))), (22, (.pool 3 (rowsOf encInt b10)))]) ⟨rfl, trivial⟩ ⟨rfl, rfl, trivial⟩) ?_
    refine AWR.ent (Ent.mv 21 0 rfl rfl) ?_
    refine AWR.ent (Ent.mv 22 1 rfl rfl) ?_
    refine AWR.ent (Ent.of (σ' := [(2, (.s (.c (.loc 0 0 b10.length))))]) (m' := [(0, (.trow 37 1 (lensOf b10))), (1, (.pool 3 (rowsOf encInt b10)))]) ⟨rfl, trivial⟩ ⟨rfl, rfl, trivial⟩) ?_
    refine AWR.ret (FPost.mk (.inr rfl) ⟨rfl, trivial⟩ ⟨rfl, rfl, trivial⟩ rfl ⟨trivial, trivial⟩ ⟨trivial, PermO.poolR perm_encInt _, trivial⟩)
set_option maxRecDepth 100000 in
set_option maxHeartbeats 8000000 in
theorem w_impl_reduced (m : (List (List Int))) (columns : Int) : ∀ t, m_impl_reduced m columns = some t → Fw.Fn Try.prog 156 [(.c (.pv (.xs false (m.map (encLInt false))))), (.c (iC columns))] [] (resA [(.c (.loc 0 0 t.1.length)), (.c (.loc 2 0 t.2.1.length)), (.c (iC t.2.2))]) [(0, (.trow 37 1 (lensOf t.1))), (1, (.pool 3 (rowsOf encInt t.1))), (2, (.prow 3 (t.2.1.map encInt)))] [] [0, 1, 2] := by
  refine Fw.Fn.of (P := Try.prog) (X := [0, 1, 2]) (pn := []) (rs := (fun (t : ((List (List Int)) × (List Int) × Int)) => [(.c (.loc 0 0 t.1.length)), (.c (.loc 2 0 t.2.1.length)), (.c (iC t.2.2))])) (dfs := (fun (t : ((List (List Int)) × (List Int) × Int)) => [(0, (.trow 37 1 (lensOf t.1))), (1, (.pool 3 (rowsOf encInt t.1))), (2, (.prow 3 (t.2.1.map encInt)))])) Try.func156 rfl Try.ntmps156 (Nat.le_of_ble_eq_true rfl) rfl ?_
  intro w0 U0 R0 g0
  unfold m_impl_reduced
  refine AWR.seq ?_
  refine AWR.region ?_
  refine AOR.pure (LT.assign (v := (.s (.c (sC nilV)))) rfl) ⟨⟨rfl, rfl⟩, trivial⟩ trivial rfl rfl ?_
  refine AOR.pure (LT.assign (v := (.s (.c (sC nilV)))) rfl) ⟨⟨rfl, rfl⟩, trivial⟩ trivial rfl rfl ?_
  refine AOR.pure (LT.assign (v := (.s (.c (iC 0)))) rfl) ⟨⟨rfl, rfl⟩, trivial⟩ trivial rfl rfl ?_
  refine AOR.nil ?_
  refine AWR.seq ?_
  refine AWR.region ?_
  refine AOR.pure (LT.move (v := (.s (.c (.pv (.xs false (m.map (encLInt false))))))) rfl) ⟨rfl, trivial⟩ trivial rfl rfl ?_
  refine AOR.bind fun r1 hr1 => ?_
  refine AOR.step (@LT.callF Try.prog _ _ 188 _ _ [(.c (.pv (.xs false (m.map (encLInt false)))))] _ _ [] _ _ _ _ ((show Fw.Fn Try.prog 188 [(.c (.pv (.xs false (m.map (encLInt false)))))] [] (.s (.c (.loc 22 0 r1.length))) [(22, (.trow 37 23 (lensOf r1))), (23, (.pool 3 (rowsOf encInt r1)))] [] [22, 23] from Fw.Fn.ren [(0, 22), (1, 23)] (w_impl_copyLists m r1 hr1) rfl)) rfl cb188 (.cons (.c (.same rfl)) .nil) rfl rfl trivial) ⟨rfl, rfl, trivial⟩ trivial rfl rfl ?_
  refine AOR.pure (LT.assign (v := (.s (.c (.loc 22 0 r1.length)))) rfl) ⟨rfl, trivial⟩ trivial rfl rfl ?_
  refine AOR.nil ?_
  refine AWR.seq ?_
  refine AWR.region ?_
  refine AOR.step (LT.tbuildSlice (n := 24) (enc := encInt) [] ([] : List Int) rfl rfl und37 ti3 rfl rfl rfl rfl (by decide) (fun _ => rfl) rfl) trivial trivial rfl rfl ?_
  refine AOR.pure (LT.assign (v := (.s (.c (.loc 24 0 ([] : List Int).length)))) rfl) ⟨rfl, trivial⟩ trivial rfl rfl ?_
  refine AOR.nil ?_
  refine AWR.seq ?_
  refine AWR.ent (Ent.of (σ' := [(1, (.s (.c (iC columns)))), (7, (.s (.c (.loc 22 0 r1.length)))), (8, (.s (.c (.loc 24 0 ([] : List Int).length))))]) (m' := [(22, (.trow 37 23 (lensOf r1))), (23, (.pool 3 (rowsOf encInt r1))), (24, (.prow 3 (([] : List Int).map encInt)))]) ⟨rfl, rfl, rfl, trivial⟩ ⟨rfl, rfl, rfl, trivial⟩) ?_
  refine AWR.region ?_
  refine AOR.pure (LT.assign (v := (.s (.c (iC 1)))) rfl) ⟨⟨rfl, rfl⟩, trivial⟩ trivial rfl rfl ?_
  refine AOR.nil ?_
  refine AWR.seq ?_
  refine AWR.seq ?_
  refine AWR.region ?_
  refine AOR.pure (LT.assign (v := (.s (.c (iC 0)))) rfl) ⟨⟨rfl, rfl⟩, trivial⟩ trivial rfl rfl ?_
  refine AOR.nil ?_
  refine AWR.block ?_
  refine AWR.loop1 (id := 0) (m_impl_reduced_L9 columns) (fun s2 => ([(1, (.s (.c (iC columns)))), (7, (.s (.c (.loc 22 0 s2.2.1.length)))), (8, (.s (.c (.loc 24 0 s2.2.2.2.length)))), (9, (.s (.c (iC s2.2.2.1)))), (10, (.s (.c (iC s2.1))))], [(22, (.trow 37 23 (lensOf s2.2.1))), (23, (.pool 3 (rowsOf encInt s2.2.1))), (24, (.prow 3 (s2.2.2.2.map encInt)))])) (fun b151 => ([(7, (.s (.c (.loc 22 0 b151.2.1.length)))), (8, (.s (.c (.loc 24 0 b151.2.2.length)))), (9, (.s (.c (iC b151.1))))], [(22, (.trow 37 23 (lensOf b151.2.1))), (23, (.pool 3 (rowsOf encInt b151.2.1))), (24, (.prow 3 (b151.2.2.map encInt)))])) ?_ (Ent.of ⟨rfl, rfl, rfl, rfl, rfl, trivial⟩ ⟨rfl, rfl, rfl, trivial⟩) rfl (fun b151 _ => ?_)
  · intro s2
    unfold m_impl_reduced_L9
    refine AWR.seq ?_
    refine AWR.seq ?_
    refine AWR.joinK (fun j153 => ([(1, (.s (.c (iC columns)))), (7, (.s (.c (.loc 22 0 s2.2.1.length)))), (8, (.s (.c (.loc 24 0 s2.2.2.2.length)))), (9, (.s (.c (iC s2.2.2.1)))), (10, (.s (.c (iC s2.1)))), (29, (.s (.c (bC j153))))], [(22, (.trow 37 23 (lensOf s2.2.1))), (23, (.pool 3 (rowsOf encInt s2.2.1))), (24, (.prow 3 (s2.2.2.2.map encInt)))])) ?_ (fun j153 _ => ?_)
    · refine AWR.region ?_
      refine AOR.pure (LT.move (v := (.s (.c (iC s2.1)))) rfl) ⟨rfl, trivial⟩ trivial rfl rfl ?_
      refine AOR.pure (LT.move (v := (.s (.c (iC columns)))) rfl) ⟨rfl, trivial⟩ trivial rfl rfl ?_
      refine AOR.pure (LT.lss rfl) ⟨rfl, rfl, trivial⟩ trivial rfl rfl ?_
      refine AOR.pure (LT.move (v := (.s (.c (bC (decide (s2.1 < columns)))))) rfl) ⟨rfl, trivial⟩ trivial rfl rfl ?_
      refine AOR.split (fun hb154 => ?_) (fun hb154 => ?_)
      · refine AOR.pure (LT.move (v := (.s (.c (.loc 24 0 s2.2.2.2.length)))) rfl) ⟨rfl, trivial⟩ trivial ⟨_, rfl, .inl ⟨_, rfl, (by rw [hb154]; rfl)⟩⟩ rfl ?_
        refine AOR.pure (LT.lenLoc rfl und37) ⟨rfl, trivial⟩ trivial ⟨_, rfl, .inl ⟨_, rfl, (by rw [hb154]; rfl)⟩⟩ rfl ?_
        refine AOR.pure (LT.move (v := (.s (.c (.loc 22 0 s2.2.1.length)))) rfl) ⟨rfl, trivial⟩ trivial ⟨_, rfl, .inl ⟨_, rfl, (by rw [hb154]; rfl)⟩⟩ rfl ?_
        refine AOR.pure (LT.lenLoc rfl und31) ⟨rfl, trivial⟩ trivial ⟨_, rfl, .inl ⟨_, rfl, (by rw [hb154]; rfl)⟩⟩ rfl ?_
        refine AOR.pure (LT.lss rfl) ⟨rfl, rfl, trivial⟩ trivial ⟨_, rfl, .inl ⟨_, rfl, (by rw [hb154]; rfl)⟩⟩ rfl ?_
        refine AOR.pure (LT.pickT (v := (.s (.c (bC (decide ((s2.2.2.2.length : Int) < (s2.2.1.length : Int))))))) rfl hb154) ⟨rfl, rfl, trivial⟩ trivial rfl rfl ?_
        refine AOR.nil ?_
        refine AWR.nil ⟨rfl, Ent.of ⟨rfl, rfl, rfl, rfl, rfl, rfl, trivial⟩ ⟨rfl, rfl, rfl, trivial⟩⟩
      · refine AOR.skip ⟨_, rfl, .inl ⟨_, rfl, (by rw [hb154]; rfl)⟩⟩ rfl ?_
        refine AOR.skip ⟨_, rfl, .inl ⟨_, rfl, (by rw [hb154]; rfl)⟩⟩ rfl ?_
        refine AOR.skip ⟨_, rfl, .inl ⟨_, rfl, (by rw [hb154]; rfl)⟩⟩ rfl ?_
        refine AOR.skip ⟨_, rfl, .inl ⟨_, rfl, (by rw [hb154]; rfl)⟩⟩ rfl ?_
        refine AOR.skip ⟨_, rfl, .inl ⟨_, rfl, (by rw [hb154]; rfl)⟩⟩ rfl ?_
        refine AOR.pure (LT.pickF (v := (.s (.c (bC false)))) rfl hb154) ⟨rfl, ⟨rfl, rfl⟩, trivial⟩ trivial rfl rfl ?_
        refine AOR.nil ?_
        refine AWR.nil ⟨rfl, Ent.of ⟨rfl, rfl, rfl, rfl, rfl, rfl, trivial⟩ ⟨rfl, rfl, rfl, trivial⟩⟩
    · refine AWR.cond rfl (fun hc155 => ?_) (fun hc155 => ?_)
      · refine AWR.skip ?_
        refine AWR.seq ?_
        refine AWR.block ?_
        refine AWR.seq ?_
        refine AWR.region ?_
        refine AOR.pure (LT.move (v := (.s (.c (.loc 24 0 s2.2.2.2.length)))) rfl) ⟨rfl, trivial⟩ trivial rfl rfl ?_
        refine AOR.pure (LT.lenLoc rfl und37) ⟨rfl, trivial⟩ trivial rfl rfl ?_
        refine AOR.pure (LT.assign (v := (.s (.c (iC (s2.2.2.2.length : Int))))) rfl) ⟨rfl, trivial⟩ trivial rfl rfl ?_
        refine AOR.nil ?_
        refine AWR.seq ?_
        refine AWR.region ?_
        refine AOR.pure (LT.move (v := (.s (.c (iC (s2.2.2.2.length : Int))))) rfl) ⟨rfl, trivial⟩ trivial rfl rfl ?_
        refine AOR.pure (LT.assign (v := (.s (.c (iC (s2.2.2.2.length : Int))))) rfl) ⟨rfl, trivial⟩ trivial rfl rfl ?_
        refine AOR.nil ?_
        refine AWR.seq ?_
        refine AWR.block ?_
        refine AWR.loop1 (id := 2) (m_impl_reduced_L10 s2) (fun s156 => ([(1, (.s (.c (iC columns)))), (7, (.s (.c (.loc 22 0 s2.2.1.length)))), (8, (.s (.c (.loc 24 0 s2.2.2.2.length)))), (9, (.s (.c (iC s2.2.2.1)))), (10, (.s (.c (iC s2.1)))), (11, (.s (.c (iC (s2.2.2.2.length : Int))))), (12, (.s (.c (iC s156))))], [(22, (.trow 37 23 (lensOf s2.2.1))), (23, (.pool 3 (rowsOf encInt s2.2.1))), (24, (.prow 3 (s2.2.2.2.map encInt)))])) (fun b173 => ([(1, (.s (.c (iC columns)))), (7, (.s (.c (.loc 22 0 b173.2.2.2.2.1.length)))), (8, (.s (.c (.loc 24 0 b173.2.2.2.2.2.length)))), (9, (.s (.c (iC b173.1)))), (10, (.s (.c (iC b173.2.1)))), (11, (.s (.c (iC b173.2.2.1)))), (12, (.s (.c (iC b173.2.2.2.1))))], [(22, (.trow 37 23 (lensOf b173.2.2.2.2.1))), (23, (.pool 3 (rowsOf encInt b173.2.2.2.2.1))), (24, (.prow 3 (b173.2.2.2.2.2.map encInt)))])) ?_ (Ent.of ⟨rfl, rfl, rfl, rfl, rfl, rfl, rfl, trivial⟩ ⟨rfl, rfl, rfl, trivial⟩) rfl (fun b173 _ => ?_)
        · intro s156
          unfold m_impl_reduced_L10
          refine AWR.seq ?_
          refine AWR.seq ?_
          refine AWR.joinK (fun j177 => ([(1, (.s (.c (iC columns)))), (7, (.s (.c (.loc 22 0 s2.2.1.length)))), (8, (.s (.c (.loc 24 0 s2.2.2.2.length)))), (9, (.s (.c (iC s2.2.2.1)))), (10, (.s (.c (iC s2.1)))), (11, (.s (.c (iC (s2.2.2.2.length : Int))))), (12, (.s (.c (iC s156)))), (48, (.s (.c (bC j177))))], [(22, (.trow 37 23 (lensOf s2.2.1))), (23, (.pool 3 (rowsOf encInt s2.2.1))), (24, (.prow 3 (s2.2.2.2.map encInt)))])) ?_ (fun j177 _ => ?_)
          · refine AWR.region ?_
            refine AOR.pure (LT.move (v := (.s (.c (iC s156)))) rfl) ⟨rfl, trivial⟩ trivial rfl rfl ?_
            refine AOR.pure (LT.move (v := (.s (.c (.loc 22 0 s2.2.1.length)))) rfl) ⟨rfl, trivial⟩ trivial rfl rfl ?_
            refine AOR.pure (LT.lenLoc rfl und31) ⟨rfl, trivial⟩ trivial rfl rfl ?_
            refine AOR.pure (LT.lss rfl) ⟨rfl, rfl, trivial⟩ trivial rfl rfl ?_
            refine AOR.pure (LT.move (v := (.s (.c (bC (decide (s156 < (s2.2.1.length : Int))))))) rfl) ⟨rfl, trivial⟩ trivial rfl rfl ?_
            refine AOR.split (fun hb178 => ?_) (fun hb178 => ?_)
            · refine AOR.pure (LT.move (v := (.s (.c (.loc 22 0 s2.2.1.length)))) rfl) ⟨rfl, trivial⟩ trivial ⟨_, rfl, .inl ⟨_, rfl, (by rw [hb178]; rfl)⟩⟩ rfl ?_
              refine AOR.pure (LT.move (v := (.s (.c (iC s156)))) rfl) ⟨rfl, trivial⟩ trivial ⟨_, rfl, .inl ⟨_, rfl, (by rw [hb178]; rfl)⟩⟩ rfl ?_
              refine AOR.bind fun x179 hx179 => ?_
              refine AOR.pure (LT.xindex rfl rfl el31 hx179) ⟨rfl, rfl, trivial⟩ ⟨rfl, trivial⟩ ⟨_, rfl, .inl ⟨_, rfl, (by rw [hb178]; rfl)⟩⟩ rfl ?_
              refine AOR.pure (LT.xload rfl ag37 hx179 rfl) ⟨rfl, trivial⟩ ⟨rfl, trivial⟩ ⟨_, rfl, .inl ⟨_, rfl, (by rw [hb178]; rfl)⟩⟩ rfl ?_
              refine AOR.pure (LT.move (v := (.s (.c (iC s2.1)))) rfl) ⟨rfl, trivial⟩ trivial ⟨_, rfl, .inl ⟨_, rfl, (by rw [hb178]; rfl)⟩⟩ rfl ?_
              refine AOR.bind fun x180 hx180 => ?_
              refine AOR.pure (LT.tlindex rfl rfl el37 (idx_get hx179) hx180) ⟨rfl, rfl, trivial⟩ ⟨rfl, trivial⟩ ⟨_, rfl, .inl ⟨_, rfl, (by rw [hb178]; rfl)⟩⟩ rfl ?_
              refine AOR.pure (LT.tlload1 (enc := encInt) (j := 0) rfl ag3 (idx_get hx179) hx180 (by exact rfl) (by exact rfl)) ⟨rfl, trivial⟩ ⟨rfl, trivial⟩ ⟨_, rfl, .inl ⟨_, rfl, (by rw [hb178]; rfl)⟩⟩ rfl ?_
              refine AOR.pure (LT.eql rfl) ⟨rfl, ⟨rfl, rfl⟩, trivial⟩ trivial ⟨_, rfl, .inl ⟨_, rfl, (by rw [hb178]; rfl)⟩⟩ rfl ?_
              refine AOR.pure (LT.pickT (v := (.s (.c (bC (x180 == 0))))) rfl hb178) ⟨rfl, rfl, trivial⟩ trivial rfl rfl ?_
              refine AOR.nil ?_
              refine AWR.nil ⟨rfl, Ent.of ⟨rfl, rfl, rfl, rfl, rfl, rfl, rfl, rfl, trivial⟩ ⟨rfl, rfl, rfl, trivial⟩⟩
            · refine AOR.skip ⟨_, rfl, .inl ⟨_, rfl, (by rw [hb178]; rfl)⟩⟩ rfl ?_
              refine AOR.skip ⟨_, rfl, .inl ⟨_, rfl, (by rw [hb178]; rfl)⟩⟩ rfl ?_
              refine AOR.skip ⟨_, rfl, .inl ⟨_, rfl, (by rw [hb178]; rfl)⟩⟩ rfl ?_
              refine AOR.skip ⟨_, rfl, .inl ⟨_, rfl, (by rw [hb178]; rfl)⟩⟩ rfl ?_
              refine AOR.skip ⟨_, rfl, .inl ⟨_, rfl, (by rw [hb178]; rfl)⟩⟩ rfl ?_
              refine AOR.skip ⟨_, rfl, .inl ⟨_, rfl, (by rw [hb178]; rfl)⟩⟩ rfl ?_
              refine AOR.skip ⟨_, rfl, .inl ⟨_, rfl, (by rw [hb178]; rfl)⟩⟩ rfl ?_
              refine AOR.skip ⟨_, rfl, .inl ⟨_, rfl, (by rw [hb178]; rfl)⟩⟩ rfl ?_
              refine AOR.pure (LT.pickF (v := (.s (.c (bC false)))) rfl hb178) ⟨rfl, ⟨rfl, rfl⟩, trivial⟩ trivial rfl rfl ?_
              refine AOR.nil ?_
              refine AWR.nil ⟨rfl, Ent.of ⟨rfl, rfl, rfl, rfl, rfl, rfl, rfl, rfl, trivial⟩ ⟨rfl, rfl, rfl, trivial⟩⟩
          · refine AWR.cond rfl (fun hc181 => ?_) (fun hc181 => ?_)
            · refine AWR.skip ?_
              refine AWR.block ?_
              refine AWR.region ?_
              refine AOR.pure (LT.move (v := (.s (.c (iC s156)))) rfl) ⟨rfl, trivial⟩ trivial rfl rfl ?_
              refine AOR.pure (LT.add rfl) ⟨rfl, ⟨rfl, rfl⟩, trivial⟩ trivial rfl rfl ?_
              refine AOR.pure (LT.assign (v := (.s (.c (iC (w64 (s156 + 1)))))) rfl) ⟨rfl, trivial⟩ trivial rfl rfl ?_
              refine AOR.nil ?_
              refine AWR.blk ?_
              refine AWR.nil ⟨rfl, Ent.of ⟨rfl, rfl, rfl, rfl, rfl, rfl, rfl, trivial⟩ ⟨rfl, rfl, rfl, trivial⟩⟩
            · refine AWR.exit_end rfl ⟨rfl, Ent.of ⟨rfl, rfl, rfl, rfl, rfl, rfl, rfl, trivial⟩ ⟨rfl, rfl, rfl, trivial⟩⟩
        · refine AWR.seq ?_
          refine AWR.seq ?_
          refine AWR.region ?_
          refine AOR.pure (LT.move (v := (.s (.c (iC b173.2.2.2.1)))) rfl) ⟨rfl, trivial⟩ trivial rfl rfl ?_
          refine AOR.pure (LT.move (v := (.s (.c (.loc 22 0 b173.2.2.2.2.1.length)))) rfl) ⟨rfl, trivial⟩ trivial rfl rfl ?_
          refine AOR.pure (LT.lenLoc rfl und31) ⟨rfl, trivial⟩ trivial rfl rfl ?_
          refine AOR.pure (LT.eql rfl) ⟨rfl, rfl, trivial⟩ trivial rfl rfl ?_
          refine AOR.nil ?_
          refine AWR.cond rfl (fun hc182 => ?_) (fun hc182 => ?_)
          · refine AWR.exit rfl ?_
            refine AWR.region ?_
            refine AOR.pure (LT.move (v := (.s (.c (iC b173.2.1)))) rfl) ⟨rfl, trivial⟩ trivial rfl rfl ?_
            refine AOR.pure (LT.add rfl) ⟨rfl, ⟨rfl, rfl⟩, trivial⟩ trivial rfl rfl ?_
            refine AOR.pure (LT.assign (v := (.s (.c (iC (w64 (b173.2.1 + 1)))))) rfl) ⟨rfl, trivial⟩ trivial rfl rfl ?_
            refine AOR.nil ?_
            refine AWR.nil ⟨rfl, Ent.of ⟨rfl, rfl, rfl, rfl, rfl, trivial⟩ ⟨rfl, rfl, rfl, trivial⟩⟩
          · refine AWR.skip ?_
            refine AWR.seq ?_
            refine AWR.draw mixed ?_
            refine AOD.pure (LT.move (v := (.s (.c (.loc 22 0 b173.2.2.2.2.1.length)))) rfl) ⟨rfl, trivial⟩ trivial rfl rfl ?_
            refine AOD.pure (LT.move (v := (.s (.c (iC b173.2.2.1)))) rfl) ⟨rfl, trivial⟩ trivial rfl rfl ?_
            refine AOD.pure (LT.move (v := (.s (.c (.loc 22 0 b173.2.2.2.2.1.length)))) rfl) ⟨rfl, trivial⟩ trivial rfl rfl ?_
            refine AOD.pure (LT.move (v := (.s (.c (iC b173.2.2.2.1)))) rfl) ⟨rfl, trivial⟩ trivial rfl rfl ?_
            refine AOD.pure (LT.move (v := (.s (.c (.loc 22 0 b173.2.2.2.2.1.length)))) rfl) ⟨rfl, trivial⟩ trivial rfl rfl ?_
            refine AOD.pure (LT.move (v := (.s (.c (iC b173.2.2.2.1)))) rfl) ⟨rfl, trivial⟩ trivial rfl rfl ?_
            refine AOD.bind fun x183 hx183 => ?_
            refine AOD.pure (LT.xindex rfl rfl el31 hx183) ⟨rfl, rfl, trivial⟩ ⟨rfl, trivial⟩ rfl rfl ?_
            refine AOD.pure (LT.xload rfl ag37 hx183 rfl) ⟨rfl, trivial⟩ ⟨rfl, trivial⟩ rfl rfl ?_
            refine AOD.pure (LT.move (v := (.s (.c (.loc 22 0 b173.2.2.2.2.1.length)))) rfl) ⟨rfl, trivial⟩ trivial rfl rfl ?_
            refine AOD.pure (LT.move (v := (.s (.c (iC b173.2.2.1)))) rfl) ⟨rfl, trivial⟩ trivial rfl rfl ?_
            refine AOD.bind fun x184 hx184 => ?_
            refine AOD.pure (LT.xindex rfl rfl el31 hx184) ⟨rfl, rfl, trivial⟩ ⟨rfl, trivial⟩ rfl rfl ?_
            refine AOD.pure (LT.xload rfl ag37 hx184 rfl) ⟨rfl, trivial⟩ ⟨rfl, trivial⟩ rfl rfl ?_
            refine AOD.bind fun x185 hx185 => ?_
            refine AOD.pure (LT.xindex rfl rfl el31 hx185) ⟨rfl, rfl, trivial⟩ ⟨rfl, trivial⟩ rfl rfl ?_
            refine AOD.step (LT.xstore (e := 37) (p := 23) rfl rfl (infS inf37) sz37 hx185 rfl) ⟨rfl, rfl, trivial⟩ ⟨rfl, trivial⟩ rfl rfl ?_
            refine AOD.bind fun x186 hx186 => ?_
            refine AOD.pure (LT.xindexS rfl rfl el31 hx186) ⟨rfl, rfl, trivial⟩ ⟨rfl, trivial⟩ rfl rfl ?_
            refine AOD.step (LT.xstore2 (e := 37) (p := 23) rfl rfl (infS inf37) sz37 hx186 rfl) ⟨rfl, rfl, trivial⟩ ⟨rfl, trivial⟩ rfl rfl ?_
            refine AOD.nil (by kernel_rfl) ?_
            refine AWR.ent (Ent.tswap (enc := encInt) (n := 22) (p := 23) (rows := b173.2.2.2.2.1) (idx_get hx184) (idx_get hx183) rfl rfl rfl) ?_
            refine AWR.seq ?_
            refine AWR.region ?_
            refine AOR.pure (LT.move (v := (.s (.c (.loc 22 0 b173.2.2.2.2.1.length)))) rfl) ⟨rfl, trivial⟩ trivial rfl rfl ?_
            refine AOR.pure (LT.move (v := (.s (.c (iC b173.2.2.1)))) rfl) ⟨rfl, trivial⟩ trivial rfl rfl ?_
            refine AOR.bind fun x187 hx187 => ?_
            refine AOR.pure (LT.xindex (show b173.2.2.2.2.1.length = ((b173.2.2.2.2.1.set b173.2.2.1.toNat x183).set b173.2.2.2.1.toNat x184).length by simp only [List.length_set]) rfl el31 hx187) ⟨rfl, rfl, trivial⟩ ⟨rfl, trivial⟩ rfl rfl ?_
            refine AOR.pure (LT.xload rfl ag37 hx187 rfl) ⟨rfl, trivial⟩ ⟨rfl, trivial⟩ rfl rfl ?_
            refine AOR.pure (LT.move (v := (.s (.c (iC b173.2.1)))) rfl) ⟨rfl, trivial⟩ trivial rfl rfl ?_
            refine AOR.bind fun x188 hx188 => ?_
            refine AOR.pure (LT.tlindex rfl rfl el37 (idx_get hx187) hx188) ⟨rfl, rfl, trivial⟩ ⟨rfl, trivial⟩ rfl rfl ?_
            refine AOR.pure (LT.tlload1 (enc := encInt) (j := 0) rfl ag3 (idx_get hx187) hx188 (by exact rfl) (by exact rfl)) ⟨rfl, trivial⟩ ⟨rfl, trivial⟩ rfl rfl ?_
            refine AOR.pure (LT.assign (v := (.s (.c (iC x188)))) rfl) ⟨rfl, trivial⟩ trivial rfl rfl ?_
            refine AOR.nil ?_
            refine AWR.seq ?_
            refine AWR.seq ?_
            refine AWR.region ?_
            refine AOR.pure (LT.move (v := (.s (.c (.loc 22 0 b173.2.2.2.2.1.length)))) rfl) ⟨rfl, trivial⟩ trivial rfl rfl ?_
            refine AOR.pure (LT.lenLoc rfl und31) ⟨rfl, trivial⟩ trivial rfl rfl ?_
            refine AOR.pure (LT.move (v := (.s (.c (iC 0)))) rfl) ⟨⟨rfl, rfl⟩, trivial⟩ trivial rfl rfl ?_
            refine AOR.nil ?_
            refine AWR.block ?_
            refine AWR.loop1 (id := 4) (m_impl_reduced_L13 columns) (fun s189 => ([(1, (.s (.c (iC columns)))), (7, (.s (.c (.loc 22 0 s189.2.2.2.2.2.2.2.length)))), (8, (.s (.c (.loc 24 0 s189.2.2.2.2.2.2.1.length)))), (9, (.s (.c (iC s189.2.1)))), (10, (.s (.c (iC s189.2.2.1)))), (11, (.s (.c (iC s189.2.2.2.1)))), (13, (.s (.c (iC s189.2.2.2.2.1)))), (77, (.s (.c (iC s189.2.2.2.2.2.1)))), (78, (.s (.c (iC s189.1))))], [(22, (.trow 37 23 (lensOf s189.2.2.2.2.2.2.2))), (23, (.pool 3 (rowsOf encInt s189.2.2.2.2.2.2.2))), (24, (.prow 3 (s189.2.2.2.2.2.2.1.map encInt)))])) (fun b234 => ([(1, (.s (.c (iC columns)))), (7, (.s (.c (.loc 22 0 b234.2.2.1.length)))), (8, (.s (.c (.loc 24 0 b234.2.2.2.length)))), (10, (.s (.c (iC b234.1)))), (13, (.s (.c (iC b234.2.1))))], [(22, (.trow 37 23 (lensOf b234.2.2.1))), (23, (.pool 3 (rowsOf encInt b234.2.2.1))), (24, (.prow 3 (b234.2.2.2.map encInt)))])) ?_ (Ent.of ⟨rfl, (congrArg (fun l1 => (some (AV.s (.c (.loc 22 0 l1))) : Option AV)) (show b173.2.2.2.2.1.length = ((b173.2.2.2.2.1.set b173.2.2.1.toNat x183).set b173.2.2.2.1.toNat x184).length by simp only [List.length_set])), rfl, rfl, rfl, rfl, rfl, rfl, rfl, trivial⟩ ⟨rfl, rfl, rfl, trivial⟩) rfl (fun b234 _ => ?_)
            · intro s189
              unfold m_impl_reduced_L13
              refine AWR.seq ?_
              refine AWR.region ?_
              refine AOR.pure (LT.lss rfl) ⟨rfl, rfl, trivial⟩ trivial rfl rfl ?_
              refine AOR.nil ?_
              refine AWR.seq ?_
              refine AWR.cond rfl (fun hc235 => ?_) (fun hc235 => ?_)
              · refine AWR.skip ?_
                refine AWR.seq ?_
                refine AWR.block ?_
                refine AWR.seq ?_
                refine AWR.region ?_
                refine AOR.pure (LT.move (v := (.s (.c (iC s189.1)))) rfl) ⟨rfl, trivial⟩ trivial rfl rfl ?_
                refine AOR.pure (LT.assign (v := (.s (.c (iC s189.1)))) rfl) ⟨rfl, trivial⟩ trivial rfl rfl ?_
                refine AOR.nil ?_
                refine AWR.seq ?_
                refine AWR.seq ?_
                refine AWR.region ?_
                refine AOR.pure (LT.move (v := (.s (.c (iC s189.1)))) rfl) ⟨rfl, trivial⟩ trivial rfl rfl ?_
                refine AOR.pure (LT.move (v := (.s (.c (iC s189.2.2.2.1)))) rfl) ⟨rfl, trivial⟩ trivial rfl rfl ?_
                refine AOR.pure (LT.eql rfl) ⟨rfl, rfl, trivial⟩ trivial rfl rfl ?_
                refine AOR.nil ?_
                refine AWR.cond rfl (fun hc236 => ?_) (fun hc236 => ?_)
                · refine AWR.exit rfl ?_
                  refine AWR.region ?_
                  refine AOR.pure (LT.add rfl) ⟨rfl, ⟨rfl, rfl⟩, trivial⟩ trivial rfl rfl ?_
                  refine AOR.pure (LT.move (v := (.s (.c (iC (w64 (s189.1 + 1)))))) rfl) ⟨rfl, trivial⟩ trivial rfl rfl ?_
                  refine AOR.nil ?_
                  refine AWR.nil ⟨rfl, Ent.of ⟨rfl, rfl, rfl, rfl, rfl, rfl, rfl, rfl, rfl, trivial⟩ ⟨rfl, rfl, rfl, trivial⟩⟩
                · refine AWR.skip ?_
                  refine AWR.seq ?_
                  refine AWR.region ?_
                  refine AOR.pure (LT.move (v := (.s (.c (.loc 22 0 s189.2.2.2.2.2.2.2.length)))) rfl) ⟨rfl, trivial⟩ trivial rfl rfl ?_
                  refine AOR.pure (LT.move (v := (.s (.c (iC s189.1)))) rfl) ⟨rfl, trivial⟩ trivial rfl rfl ?_
                  refine AOR.bind fun x237 hx237 => ?_
                  refine AOR.pure (LT.xindex rfl rfl el31 hx237) ⟨rfl, rfl, trivial⟩ ⟨rfl, trivial⟩ rfl rfl ?_
                  refine AOR.pure (LT.xload rfl ag37 hx237 rfl) ⟨rfl, trivial⟩ ⟨rfl, trivial⟩ rfl rfl ?_
                  refine AOR.pure (LT.move (v := (.s (.c (iC s189.2.2.1)))) rfl) ⟨rfl, trivial⟩ trivial rfl rfl ?_
                  refine AOR.bind fun x238 hx238 => ?_
                  refine AOR.pure (LT.tlindex rfl rfl el37 (idx_get hx237) hx238) ⟨rfl, rfl, trivial⟩ ⟨rfl, trivial⟩ rfl rfl ?_
                  refine AOR.pure (LT.tlload1 (enc := encInt) (j := 0) rfl ag3 (idx_get hx237) hx238 (by exact rfl) (by exact rfl)) ⟨rfl, trivial⟩ ⟨rfl, trivial⟩ rfl rfl ?_
                  refine AOR.pure (LT.assign (v := (.s (.c (iC x238)))) rfl) ⟨rfl, trivial⟩ trivial rfl rfl ?_
                  refine AOR.nil ?_
                  refine AWR.seq ?_
                  refine AWR.ent (Ent.of (σ' := [(1, (.s (.c (iC columns)))), (7, (.s (.c (.loc 22 0 s189.2.2.2.2.2.2.2.length)))), (8, (.s (.c (.loc 24 0 s189.2.2.2.2.2.2.1.length)))), (9, (.s (.c (iC s189.2.1)))), (10, (.s (.c (iC s189.2.2.1)))), (11, (.s (.c (iC s189.2.2.2.1)))), (13, (.s (.c (iC s189.2.2.2.2.1)))), (14, (.s (.c (iC s189.1)))), (15, (.s (.c (iC x238)))), (77, (.s (.c (iC s189.2.2.2.2.2.1)))), (78, (.s (.c (iC s189.1))))]) (m' := [(22, (.trow 37 23 (lensOf s189.2.2.2.2.2.2.2))), (23, (.pool 3 (rowsOf encInt s189.2.2.2.2.2.2.2))), (24, (.prow 3 (s189.2.2.2.2.2.2.1.map encInt)))]) ⟨rfl, rfl, rfl, rfl, rfl, rfl, rfl, rfl, rfl, rfl, rfl, trivial⟩ ⟨rfl, rfl, rfl, trivial⟩) ?_
                  refine AWR.region ?_
                  refine AOR.pure (LT.move (v := (.s (.c (iC columns)))) rfl) ⟨rfl, trivial⟩ trivial rfl rfl ?_
                  refine AOR.pure (LT.move (v := (.s (.c (iC 0)))) rfl) ⟨⟨rfl, rfl⟩, trivial⟩ trivial rfl rfl ?_
                  refine AOR.nil ?_
                  refine AWR.block ?_
                  refine AWR.loop1 (id := 6) (m_impl_reduced_L14 columns s189 x238) (fun s239 => ([(1, (.s (.c (iC columns)))), (7, (.s (.c (.loc 22 0 s239.2.length)))), (8, (.s (.c (.loc 24 0 s189.2.2.2.2.2.2.1.length)))), (9, (.s (.c (iC s189.2.1)))), (10, (.s (.c (iC s189.2.2.1)))), (11, (.s (.c (iC s189.2.2.2.1)))), (13, (.s (.c (iC s189.2.2.2.2.1)))), (14, (.s (.c (iC s189.1)))), (15, (.s (.c (iC x238)))), (77, (.s (.c (iC s189.2.2.2.2.2.1)))), (78, (.s (.c (iC s189.1)))), (91, (.s (.c (iC columns)))), (92, (.s (.c (iC s239.1))))], [(22, (.trow 37 23 (lensOf s239.2))), (23, (.pool 3 (rowsOf encInt s239.2))), (24, (.prow 3 (s189.2.2.2.2.2.2.1.map encInt)))])) (fun b256 => ([(1, (.s (.c (iC columns)))), (7, (.s (.c (.loc 22 0 b256.2.2.2.2.2.2.1.length)))), (8, (.s (.c (.loc 24 0 b256.2.2.2.2.2.2.2.length)))), (9, (.s (.c (iC b256.1)))), (10, (.s (.c (iC b256.2.1)))), (11, (.s (.c (iC b256.2.2.1)))), (13, (.s (.c (iC b256.2.2.2.1)))), (77, (.s (.c (iC b256.2.2.2.2.1)))), (78, (.s (.c (iC b256.2.2.2.2.2.1))))], [(22, (.trow 37 23 (lensOf b256.2.2.2.2.2.2.1))), (23, (.pool 3 (rowsOf encInt b256.2.2.2.2.2.2.1))), (24, (.prow 3 (b256.2.2.2.2.2.2.2.map encInt)))])) ?_ (Ent.of ⟨rfl, rfl, rfl, rfl, rfl, rfl, rfl, rfl, rfl, rfl, rfl, rfl, rfl, trivial⟩ ⟨rfl, rfl, rfl, trivial⟩) rfl (fun b256 _ => ?_)
                  · intro s239
                    unfold m_impl_reduced_L14
                    refine AWR.seq ?_
                    refine AWR.region ?_
                    refine AOR.pure (LT.lss rfl) ⟨rfl, rfl, trivial⟩ trivial rfl rfl ?_
                    refine AOR.nil ?_
                    refine AWR.seq ?_
                    refine AWR.cond rfl (fun hc257 => ?_) (fun hc257 => ?_)
                    · refine AWR.skip ?_
                      refine AWR.seq ?_
                      refine AWR.block ?_
                      refine AWR.seq ?_
                      refine AWR.region ?_
                      refine AOR.pure (LT.move (v := (.s (.c (iC s239.1)))) rfl) ⟨rfl, trivial⟩ trivial rfl rfl ?_
                      refine AOR.pure (LT.assign (v := (.s (.c (iC s239.1)))) rfl) ⟨rfl, trivial⟩ trivial rfl rfl ?_
                      refine AOR.nil ?_
                      refine AWR.draw mixed ?_
                      refine AOD.pure (LT.move (v := (.s (.c (.loc 22 0 s239.2.length)))) rfl) ⟨rfl, trivial⟩ trivial rfl rfl ?_
                      refine AOD.pure (LT.move (v := (.s (.c (iC s189.1)))) rfl) ⟨rfl, trivial⟩ trivial rfl rfl ?_
                      refine AOD.bind fun x258 hx258 => ?_
                      refine AOD.pure (LT.xindex rfl rfl el31 hx258) ⟨rfl, rfl, trivial⟩ ⟨rfl, trivial⟩ rfl rfl ?_
                      refine AOD.pure (LT.xload rfl ag37 hx258 rfl) ⟨rfl, trivial⟩ ⟨rfl, trivial⟩ rfl rfl ?_
                      refine AOD.pure (LT.move (v := (.s (.c (iC s239.1)))) rfl) ⟨rfl, trivial⟩ trivial rfl rfl ?_
                      refine AOD.pure (LT.move (v := (.s (.c (iC s189.2.2.2.2.1)))) rfl) ⟨rfl, trivial⟩ trivial rfl rfl ?_
                      refine AOD.pure (LT.move (v := (.s (.c (.loc 22 0 s239.2.length)))) rfl) ⟨rfl, trivial⟩ trivial rfl rfl ?_
                      refine AOD.pure (LT.move (v := (.s (.c (iC s189.1)))) rfl) ⟨rfl, trivial⟩ trivial rfl rfl ?_
                      refine AOD.bind fun x259 hx259 => ?_
                      refine AOD.pure (LT.xindex rfl rfl el31 hx259) ⟨rfl, rfl, trivial⟩ ⟨rfl, trivial⟩ rfl rfl ?_
                      refine AOD.pure (LT.xload rfl ag37 hx259 rfl) ⟨rfl, trivial⟩ ⟨rfl, trivial⟩ rfl rfl ?_
                      refine AOD.pure (LT.move (v := (.s (.c (iC s239.1)))) rfl) ⟨rfl, trivial⟩ trivial rfl rfl ?_
                      refine AOD.bind fun x260 hx260 => ?_
                      refine AOD.pure (LT.tlindex rfl rfl el37 (idx_get hx259) hx260) ⟨rfl, rfl, trivial⟩ ⟨rfl, trivial⟩ rfl rfl ?_
                      refine AOD.pure (LT.tlload1 (enc := encInt) (j := 0) rfl ag3 (idx_get hx259) hx260 (by exact rfl) (by exact rfl)) ⟨rfl, trivial⟩ ⟨rfl, trivial⟩ rfl rfl ?_
                      refine AOD.pure (LT.mul rfl) ⟨rfl, rfl, trivial⟩ trivial rfl rfl ?_
                      refine AOD.pure (LT.move (v := (.s (.c (iC x238)))) rfl) ⟨rfl, trivial⟩ trivial rfl rfl ?_
                      refine AOD.pure (LT.move (v := (.s (.c (.loc 22 0 s239.2.length)))) rfl) ⟨rfl, trivial⟩ trivial rfl rfl ?_
                      refine AOD.pure (LT.move (v := (.s (.c (iC s189.2.2.2.1)))) rfl) ⟨rfl, trivial⟩ trivial rfl rfl ?_
                      refine AOD.bind fun x261 hx261 => ?_
                      refine AOD.pure (LT.xindex rfl rfl el31 hx261) ⟨rfl, rfl, trivial⟩ ⟨rfl, trivial⟩ rfl rfl ?_
                      refine AOD.pure (LT.xload rfl ag37 hx261 rfl) ⟨rfl, trivial⟩ ⟨rfl, trivial⟩ rfl rfl ?_
                      refine AOD.pure (LT.move (v := (.s (.c (iC s239.1)))) rfl) ⟨rfl, trivial⟩ trivial rfl rfl ?_
                      refine AOD.bind fun x262 hx262 => ?_
                      refine AOD.pure (LT.tlindex rfl rfl el37 (idx_get hx261) hx262) ⟨rfl, rfl, trivial⟩ ⟨rfl, trivial⟩ rfl rfl ?_
                      refine AOD.pure (LT.tlload1 (enc := encInt) (j := 0) rfl ag3 (idx_get hx261) hx262 (by exact rfl) (by exact rfl)) ⟨rfl, trivial⟩ ⟨rfl, trivial⟩ rfl rfl ?_
                      refine AOD.pure (LT.mul rfl) ⟨rfl, rfl, trivial⟩ trivial rfl rfl ?_
                      refine AOD.pure (LT.sub rfl) ⟨rfl, rfl, trivial⟩ trivial rfl rfl ?_
                      refine AOD.pure (LT.move (v := (.s (.c (iC s189.2.1)))) rfl) ⟨rfl, trivial⟩ trivial rfl rfl ?_
                      refine AOD.bind fun u263 hu263 => ?_
                      refine AOD.pure (LT.quo rfl (nz_ne hu263)) ⟨rfl, rfl, trivial⟩ trivial rfl rfl ?_
                      refine AOD.bind fun x264 hx264 => ?_
                      refine AOD.pure (LT.tlindex rfl rfl el37 (idx_get hx258) hx264) ⟨rfl, rfl, trivial⟩ ⟨rfl, trivial⟩ rfl rfl ?_
                      refine AOD.step (LT.tlstore (enc := encInt) (j := 0) (b' := (w64 (Int.tdiv (w64 ((w64 (s189.2.2.2.2.1 * x260)) - (w64 (x238 * x262)))) s189.2.1))) (v := (.int .i64 (w64 (Int.tdiv (w64 ((w64 (s189.2.2.2.2.1 * x260)) - (w64 (x238 * x262)))) s189.2.1)))) 25 rfl rfl (infS inf3) sz3 rfl (idx_get hx258) hx264 (by exact rfl) (by exact Nat.le_of_ble_eq_true rfl) (by exact rfl) rfl) ⟨rfl, rfl, trivial⟩ ⟨rfl, trivial⟩ rfl rfl ?_
                      refine AOD.nil (by kernel_rfl) ?_
                      refine AWR.ent (Ent.lens (n := 22) (lens_set (r' := (x258.set s239.1.toNat (w64 (Int.tdiv (w64 ((w64 (s189.2.2.2.2.1 * x260)) - (w64 (x238 * x262)))) s189.2.1)))) (idx_get hx258) (List.length_set ..)) rfl) ?_
                      refine AWR.blk ?_
                      refine AWR.ent (Ent.of (σ' := [(1, (.s (.c (iC columns)))), (7, (.s (.c (.loc 22 0 s239.2.length)))), (8, (.s (.c (.loc 24 0 s189.2.2.2.2.2.2.1.length)))), (9, (.s (.c (iC s189.2.1)))), (10, (.s (.c (iC s189.2.2.1)))), (11, (.s (.c (iC s189.2.2.2.1)))), (13, (.s (.c (iC s189.2.2.2.2.1)))), (14, (.s (.c (iC s189.1)))), (15, (.s (.c (iC x238)))), (77, (.s (.c (iC s189.2.2.2.2.2.1)))), (78, (.s (.c (iC s189.1)))), (91, (.s (.c (iC columns)))), (92, (.s (.c (iC s239.1))))]) (m' := [(22, (.trow 37 23 (lensOf (s239.2.set s189.1.toNat (x258.set s239.1.toNat (w64 (Int.tdiv (w64 ((w64 (s189.2.2.2.2.1 * x260)) - (w64 (x238 * x262)))) s189.2.1))))))), (23, (.pool 3 (rowsOf encInt (s239.2.set s189.1.toNat (x258.set s239.1.toNat (w64 (Int.tdiv (w64 ((w64 (s189.2.2.2.2.1 * x260)) - (w64 (x238 * x262)))) s189.2.1))))))), (24, (.prow 3 (s189.2.2.2.2.2.2.1.map encInt)))]) ⟨rfl, rfl, rfl, rfl, rfl, rfl, rfl, rfl, rfl, rfl, rfl, rfl, rfl, trivial⟩ ⟨rfl, rfl, rfl, trivial⟩) ?_
                      refine AWR.region ?_
                      refine AOR.pure (LT.add rfl) ⟨rfl, ⟨rfl, rfl⟩, trivial⟩ trivial rfl rfl ?_
                      refine AOR.pure (LT.move (v := (.s (.c (iC (w64 (s239.1 + 1)))))) rfl) ⟨rfl, trivial⟩ trivial rfl rfl ?_
                      refine AOR.nil ?_
                      refine AWR.nil ⟨rfl, Ent.of ⟨rfl, (congrArg (fun l1 => (some (AV.s (.c (.loc 22 0 l1))) : Option AV)) (show s239.2.length = (s239.2.set s189.1.toNat (x258.set s239.1.toNat (w64 (Int.tdiv (w64 ((w64 (s189.2.2.2.2.1 * x260)) - (w64 (x238 * x262)))) s189.2.1)))).length by simp only [List.length_set])), rfl, rfl, rfl, rfl, rfl, rfl, rfl, rfl, rfl, rfl, rfl, trivial⟩ ⟨rfl, rfl, rfl, trivial⟩⟩
                    · refine AWR.exit_end rfl ⟨rfl, Ent.of ⟨rfl, rfl, rfl, rfl, rfl, rfl, rfl, rfl, rfl, trivial⟩ ⟨rfl, rfl, rfl, trivial⟩⟩
                  · refine AWR.blk ?_
                    refine AWR.region ?_
                    refine AOR.pure (LT.add rfl) ⟨rfl, ⟨rfl, rfl⟩, trivial⟩ trivial rfl rfl ?_
                    refine AOR.pure (LT.move (v := (.s (.c (iC (w64 (b256.2.2.2.2.2.1 + 1)))))) rfl) ⟨rfl, trivial⟩ trivial rfl rfl ?_
                    refine AOR.nil ?_
                    refine AWR.nil ⟨rfl, Ent.of ⟨rfl, rfl, rfl, rfl, rfl, rfl, rfl, rfl, rfl, trivial⟩ ⟨rfl, rfl, rfl, trivial⟩⟩
              · refine AWR.exit_end rfl ⟨rfl, Ent.of ⟨rfl, rfl, rfl, rfl, rfl, trivial⟩ ⟨rfl, rfl, rfl, trivial⟩⟩
            · refine AWR.seq ?_
              refine AWR.region ?_
              refine AOR.pure (LT.move (v := (.s (.c (.loc 24 0 b234.2.2.2.length)))) rfl) ⟨rfl, trivial⟩ trivial rfl rfl ?_
              refine AOR.pure (LT.move (v := (.s (.c (iC b234.1)))) rfl) ⟨rfl, trivial⟩ trivial rfl rfl ?_
              refine AOR.step (LT.tbuildSlice (n := 26) (enc := encInt) [(0, .tmp 125, (.c (iC b234.1)))] ([b234.1] : List Int) rfl rfl und37 ti3 rfl rfl rfl rfl (by decide) (fun _ => rfl) rfl) ⟨rfl, trivial⟩ trivial rfl rfl ?_
              refine AOR.bind fun u265 hu265 => ?_
              refine AOR.step (LT.tappP (enc := encInt) rfl rfl rfl und37 ti3 rfl (by decide) (by decide) (fun _ => rfl) (lim_le hu265)) ⟨rfl, rfl, trivial⟩ ⟨rfl, rfl, trivial⟩ rfl rfl ?_
              refine AOR.pure (LT.assign (v := (.s (.c (.loc 24 0 (b234.2.2.2 ++ ([b234.1] : List Int)).length)))) rfl) ⟨rfl, trivial⟩ trivial rfl rfl ?_
              refine AOR.nil ?_
              refine AWR.region ?_
              refine AOR.pure (LT.move (v := (.s (.c (iC b234.2.1)))) rfl) ⟨rfl, trivial⟩ trivial rfl rfl ?_
              refine AOR.pure (LT.assign (v := (.s (.c (iC b234.2.1)))) rfl) ⟨rfl, trivial⟩ trivial rfl rfl ?_
              refine AOR.nil ?_
              refine AWR.blk ?_
              refine AWR.ent (Ent.of (σ' := [(1, (.s (.c (iC columns)))), (7, (.s (.c (.loc 22 0 b234.2.2.1.length)))), (8, (.s (.c (.loc 24 0 (b234.2.2.2 ++ ([b234.1] : List Int)).length)))), (9, (.s (.c (iC b234.2.1)))), (10, (.s (.c (iC b234.1))))]) (m' := [(22, (.trow 37 23 (lensOf b234.2.2.1))), (23, (.pool 3 (rowsOf encInt b234.2.2.1))), (24, (.prow 3 ((b234.2.2.2 ++ ([b234.1] : List Int)).map encInt)))]) ⟨rfl, rfl, rfl, rfl, rfl, trivial⟩ ⟨rfl, rfl, rfl, trivial⟩) ?_
              refine AWR.region ?_
              refine AOR.pure (LT.move (v := (.s (.c (iC b234.1)))) rfl) ⟨rfl, trivial⟩ trivial rfl rfl ?_
              refine AOR.pure (LT.add rfl) ⟨rfl, ⟨rfl, rfl⟩, trivial⟩ trivial rfl rfl ?_
              refine AOR.pure (LT.assign (v := (.s (.c (iC (w64 (b234.1 + 1)))))) rfl) ⟨rfl, trivial⟩ trivial rfl rfl ?_
              refine AOR.nil ?_
              refine AWR.nil ⟨rfl, Ent.of ⟨rfl, rfl, rfl, rfl, rfl, trivial⟩ ⟨rfl, rfl, rfl, trivial⟩⟩
      · refine AWR.exit_end rfl ⟨rfl, Ent.of ⟨rfl, rfl, rfl, trivial⟩ ⟨rfl, rfl, rfl, trivial⟩⟩
  · refine AWR.seq ?_
    refine AWR.region ?_
    refine AOR.pure (LT.move (v := (.s (.c (.loc 22 0 b151.2.1.length)))) rfl) ⟨rfl, trivial⟩ trivial rfl rfl ?_
    refine AOR.pure (LT.move (v := (.s (.c (.loc 24 0 b151.2.2.length)))) rfl) ⟨rfl, trivial⟩ trivial rfl rfl ?_
    refine AOR.pure (LT.move (v := (.s (.c (iC b151.1)))) rfl) ⟨rfl, trivial⟩ trivial rfl rfl ?_
    refine AOR.pure (LT.assign (v := (.s (.c (.loc 22 0 b151.2.1.length)))) rfl) ⟨rfl, trivial⟩ trivial rfl rfl ?_
    refine AOR.pure (LT.assign (v := (.s (.c (.loc 24 0 b151.2.2.length)))) rfl) ⟨rfl, trivial⟩ trivial rfl rfl ?_
    refine AOR.pure (LT.assign (v := (.s (.c (iC b151.1)))) rfl) ⟨rfl, trivial⟩ trivial rfl rfl ?_
    refine AOR.nil ?_
    refine AWR.ent (Ent.of (σ' := [(4, (.s (.c (.loc 22 0 b151.2.1.length)))), (5, (.s (.c (.loc 24 0 b151.2.2.length)))), (6, (.s (.c (iC b151.1))))]) (m' := [(22, (.trow 37 23 (lensOf b151.2.1))), (23, (.pool 3 (rowsOf encInt b151.2.1))), (24, (.prow 3 (b151.2.2.map encInt)))]) ⟨rfl, rfl, rfl, trivial⟩ ⟨rfl, rfl, rfl, trivial⟩) ?_
    refine AWR.ent (Ent.mv 22 0 rfl rfl) ?_
    refine AWR.ent (Ent.mv 24 2 rfl rfl) ?_
    refine AWR.ent (Ent.mv 23 1 rfl rfl) ?_
    refine AWR.ent (Ent.of (σ' := [(4, (.s (.c (.loc 0 0 b151.2.1.length)))), (5, (.s (.c (.loc 2 0 b151.2.2.length)))), (6, (.s (.c (iC b151.1))))]) (m' := [(0, (.trow 37 1 (lensOf b151.2.1))), (1, (.pool 3 (rowsOf encInt b151.2.1))), (2, (.prow 3 (b151.2.2.map encInt)))]) ⟨rfl, rfl, rfl, trivial⟩ ⟨rfl, rfl, rfl, trivial⟩) ?_
    refine AWR.ret (FPost.mk (.inr rfl) ⟨rfl, rfl, rfl, trivial⟩ ⟨rfl, rfl, rfl, trivial⟩ rfl ⟨trivial, trivial, PermP.sc, trivial⟩ ⟨trivial, PermO.poolR perm_encInt _, PermO.prow' perm_encInt, trivial⟩)
set_option maxRecDepth 100000 in
set_option maxHeartbeats 8000000 in
theorem w_laws_eqBar (a : TBar) (b : TBar) : ∀ t, m_laws_eqBar a b = some t → Fw.Fn Try.prog 173 [(.agg [(iC a.A), (iC a.B)]), (.agg [(iC b.A), (iC b.B)])] [] (.s (.c (bC t))) [] [] [] := by
  refine Fw.Fn.of (P := Try.prog) (X := []) (pn := []) (rs := (fun (t : Bool) => [(.c (bC t))])) (dfs := (fun (t : Bool) => [])) Try.func173 rfl Try.ntmps173 (Nat.le_of_ble_eq_true rfl) rfl ?_
  intro w0 U0 R0 g0
  unfold m_laws_eqBar
  refine AWR.seq ?_
  refine AWR.region ?_
  refine AOR.step (LT.box (n := 21) (v := (.agg [(iC a.A), (iC a.B)])) rfl sz79 (by exact rfl)) ⟨rfl, trivial⟩ trivial rfl rfl ?_
  refine AOR.step (LT.box (n := 22) (v := (.agg [(iC b.A), (iC b.B)])) rfl sz79 (by exact rfl)) ⟨rfl, trivial⟩ trivial rfl rfl ?_
  refine AOR.pure (LT.assign (v := (.s (.c (bC false)))) rfl) ⟨⟨rfl, rfl⟩, trivial⟩ trivial rfl rfl ?_
  refine AOR.nil ?_
  refine AWR.seq ?_
  refine AWR.seq ?_
  refine AWR.region ?_
  refine AOR.pure (LT.fieldPl rfl fo79_0) ⟨rfl, trivial⟩ trivial rfl rfl ?_
  refine AOR.pure (LT.bload1 (c := (iC a.A)) rfl ag3 (by exact rfl)) ⟨rfl, trivial⟩ ⟨rfl, trivial⟩ rfl rfl ?_
  refine AOR.pure (LT.fieldPl rfl fo79_0) ⟨rfl, trivial⟩ trivial rfl rfl ?_
  refine AOR.pure (LT.bload1 (c := (iC b.A)) rfl ag3 (by exact rfl)) ⟨rfl, trivial⟩ ⟨rfl, trivial⟩ rfl rfl ?_
  refine AOR.pure (LT.neq rfl) ⟨rfl, rfl, trivial⟩ trivial rfl rfl ?_
  refine AOR.nil ?_
  refine AWR.cond rfl (fun hc1 => ?_) (fun hc1 => ?_)
  · refine AWR.seq ?_
    refine AWR.ent (Ent.of (σ' := []) (m' := []) trivial trivial) ?_
    refine AWR.region ?_
    refine AOR.pure (LT.assign (v := (.s (.c (bC false)))) rfl) ⟨⟨rfl, rfl⟩, trivial⟩ trivial rfl rfl ?_
    refine AOR.nil ?_
    refine AWR.ret (FPost.mk (.inr rfl) ⟨rfl, trivial⟩ trivial rfl ⟨PermP.sc, trivial⟩ trivial)
  · refine AWR.skip ?_
    refine AWR.seq ?_
    refine AWR.seq ?_
    refine AWR.ent (Ent.of (σ' := [(2, (.s (.c (.pl 21 0)))), (3, (.s (.c (.pl 22 0))))]) (m' := [(21, (.row 79 [[(iC a.A), (iC a.B)]])), (22, (.row 79 [[(iC b.A), (iC b.B)]]))]) ⟨rfl, rfl, trivial⟩ ⟨rfl, rfl, trivial⟩) ?_
    refine AWR.region ?_
    refine AOR.pure (LT.fieldPl rfl fo79_1) ⟨rfl, trivial⟩ trivial rfl rfl ?_
    refine AOR.pure (LT.bload1 (c := (iC a.B)) rfl ag3 (by exact rfl)) ⟨rfl, trivial⟩ ⟨rfl, trivial⟩ rfl rfl ?_
    refine AOR.pure (LT.fieldPl rfl fo79_1) ⟨rfl, trivial⟩ trivial rfl rfl ?_
    refine AOR.pure (LT.bload1 (c := (iC b.B)) rfl ag3 (by exact rfl)) ⟨rfl, trivial⟩ ⟨rfl, trivial⟩ rfl rfl ?_
    refine AOR.pure (LT.neq rfl) ⟨rfl, rfl, trivial⟩ trivial rfl rfl ?_
    refine AOR.nil ?_
    refine AWR.cond rfl (fun hc2 => ?_) (fun hc2 => ?_)
    · refine AWR.seq ?_
      refine AWR.region ?_
      refine AOR.pure (LT.assign (v := (.s (.c (bC false)))) rfl) ⟨⟨rfl, rfl⟩, trivial⟩ trivial rfl rfl ?_
      refine AOR.nil ?_
      refine AWR.ret (FPost.mk (.inr rfl) ⟨rfl, trivial⟩ trivial rfl ⟨PermP.sc, trivial⟩ trivial)
    · refine AWR.skip ?_
      refine AWR.seq ?_
      refine AWR.region ?_
      refine AOR.pure (LT.assign (v := (.s (.c (bC true)))) rfl) ⟨⟨rfl, rfl⟩, trivial⟩ trivial rfl rfl ?_
      refine AOR.nil ?_
      refine AWR.ret (FPost.mk (.inr rfl) ⟨rfl, trivial⟩ trivial rfl ⟨PermP.sc, trivial⟩ trivial)
set_option maxRecDepth 100000 in
set_option maxHeartbeats 8000000 in
theorem w_laws_eqBarS (a : (List TBar)) (b : (List TBar)) : ∀ t, m_laws_eqBarS a b = some t → Fw.Fn Try.prog 122 [(.c (.pv (.xs false (a.map encTBar)))), (.c (.pv (.xs false (b.map encTBar))))] [] (.s (.c (bC t))) [] [] [] := by
  refine Fw.Fn.of (P := Try.prog) (X := []) (pn := []) (rs := (fun (t : Bool) => [(.c (bC t))])) (dfs := (fun (t : Bool) => [])) Try.func122 rfl Try.ntmps122 (Nat.le_of_ble_eq_true rfl) rfl ?_
  intro w0 U0 R0 g0
  unfold m_laws_eqBarS
  refine AWR.seq ?_
  refine AWR.region ?_
  refine AOR.pure (LT.assign (v := (.s (.c (bC false)))) rfl) ⟨⟨rfl, rfl⟩, trivial⟩ trivial rfl rfl ?_
  refine AOR.nil ?_
  refine AWR.seq ?_
  refine AWR.seq ?_
  refine AWR.region ?_
  refine AOR.pure (LT.move (v := (.s (.c (.pv (.xs false (a.map encTBar)))))) rfl) ⟨rfl, trivial⟩ trivial rfl rfl ?_
  refine AOR.pure (LT.tlenRO rfl und24) ⟨rfl, trivial⟩ trivial rfl rfl ?_
  refine AOR.pure (LT.move (v := (.s (.c (.pv (.xs false (b.map encTBar)))))) rfl) ⟨rfl, trivial⟩ trivial rfl rfl ?_
  refine AOR.pure (LT.tlenRO rfl und24) ⟨rfl, trivial⟩ trivial rfl rfl ?_
  refine AOR.pure (LT.neq rfl) ⟨rfl, rfl, trivial⟩ trivial rfl rfl ?_
  refine AOR.nil ?_
  refine AWR.cond rfl (fun hc1 => ?_) (fun hc1 => ?_)
  · refine AWR.seq ?_
    refine AWR.region ?_
    refine AOR.pure (LT.assign (v := (.s (.c (bC false)))) rfl) ⟨⟨rfl, rfl⟩, trivial⟩ trivial rfl rfl ?_
    refine AOR.nil ?_
    refine AWR.ret (FPost.mk (.inr rfl) ⟨rfl, trivial⟩ trivial rfl ⟨PermP.sc, trivial⟩ trivial)
  · refine AWR.skip ?_
    refine AWR.seq ?_
    refine AWR.seq ?_
    refine AWR.region ?_
    refine AOR.pure (LT.assign (v := (.s (.c (iC 0)))) rfl) ⟨⟨rfl, rfl⟩, trivial⟩ trivial rfl rfl ?_
    refine AOR.nil ?_
    refine AWR.block ?_
    refine AWR.loopR (id := 0) (m_laws_eqBarS_L1 a b) (fun s2 => ([(0, (.s (.c (.pv (.xs false (a.map encTBar)))))), (1, (.s (.c (.pv (.xs false (b.map encTBar)))))), (5, (.s (.c (iC s2))))], [])) (fun b13 => ([], [])) (FPost Try.prog Try.f122.results.toList [] [] (fun (t : Bool) => [(.c (bC t))]) (fun (t : Bool) => [])) ?_ (Ent.of ⟨rfl, rfl, rfl, trivial⟩ trivial) rfl (fun b13 _ => ?_) (by intro r t σ m ht hk; injection ht with ht; subst ht; exact hk)
    · intro s2
      unfold m_laws_eqBarS_L1
      refine AWR.seq ?_
      refine AWR.seq ?_
      refine AWR.region ?_
      refine AOR.pure (LT.move (v := (.s (.c (iC s2)))) rfl) ⟨rfl, trivial⟩ trivial rfl rfl ?_
      refine AOR.pure (LT.move (v := (.s (.c (.pv (.xs false (a.map encTBar)))))) rfl) ⟨rfl, trivial⟩ trivial rfl rfl ?_
      refine AOR.pure (LT.tlenRO rfl und24) ⟨rfl, trivial⟩ trivial rfl rfl ?_
      refine AOR.pure (LT.lss rfl) ⟨rfl, rfl, trivial⟩ trivial rfl rfl ?_
      refine AOR.nil ?_
      refine AWR.cond rfl (fun hc14 => ?_) (fun hc14 => ?_)
      · refine AWR.skip ?_
        refine AWR.seq ?_
        refine AWR.block ?_
        refine AWR.seq ?_
        refine AWR.draw mixed ?_
        refine AOD.pure (LT.move (v := (.s (.c (.pv (.xs false (a.map encTBar)))))) rfl) ⟨rfl, trivial⟩ trivial rfl rfl ?_
        refine AOD.pure (LT.move (v := (.s (.c (iC s2)))) rfl) ⟨rfl, trivial⟩ trivial rfl rfl ?_
        refine AOD.bind fun x15 hx15 => ?_
        refine AOD.pure (LT.tindexRO (enc := encTBar) rfl el24 hx15 sz79) ⟨rfl, rfl, trivial⟩ trivial rfl rfl ?_
        refine AOD.pure (LT.loadPxN rfl ag79 (infS inf79) (by exact sz79.symm)) ⟨rfl, trivial⟩ trivial rfl rfl ?_
        refine AOD.pure (LT.move (v := (.s (.c (.pv (.xs false (b.map encTBar)))))) rfl) ⟨rfl, trivial⟩ trivial rfl rfl ?_
        refine AOD.pure (LT.move (v := (.s (.c (iC s2)))) rfl) ⟨rfl, trivial⟩ trivial rfl rfl ?_
        refine AOD.bind fun x16 hx16 => ?_
        refine AOD.pure (LT.tindexRO (enc := encTBar) rfl el24 hx16 sz79) ⟨rfl, rfl, trivial⟩ trivial rfl rfl ?_
        refine AOD.pure (LT.loadPxN rfl ag79 (infS inf79) (by exact sz79.symm)) ⟨rfl, trivial⟩ trivial rfl rfl ?_
        refine AOD.bind fun r17 hr17 => ?_
        refine AOD.pure (@LT.callF Try.prog _ _ 173 _ _ [(.agg [(iC x15.A), (iC x15.B)]), (.agg [(iC x16.A), (iC x16.B)])] _ _ [] _ _ _ _ (w_laws_eqBar x15 x16 r17 hr17) rfl cb173 (.cons (.agg (.cons (.same rfl) (.cons (.same rfl) .nil))) (.cons (.agg (.cons (.same rfl) (.cons (.same rfl) .nil))) .nil)) rfl rfl trivial) ⟨rfl, rfl, rfl, trivial⟩ trivial rfl rfl ?_
        refine AOD.pure (LT.not rfl) ⟨rfl, trivial⟩ trivial rfl rfl ?_
        refine AOD.nil (by kernel_rfl) ?_
        refine AWR.cond rfl (fun hc18 => ?_) (fun hc18 => ?_)
        · refine AWR.seq ?_
          refine AWR.ent (Ent.of (σ' := []) (m' := []) trivial trivial) ?_
          refine AWR.region ?_
          refine AOR.pure (LT.assign (v := (.s (.c (bC false)))) rfl) ⟨⟨rfl, rfl⟩, trivial⟩ trivial rfl rfl ?_
          refine AOR.nil ?_
          refine AWR.ret ⟨rfl, FPost.mk (.inr rfl) ⟨rfl, trivial⟩ trivial rfl ⟨PermP.sc, trivial⟩ trivial⟩
        · refine AWR.skip ?_
          refine AWR.blk ?_
          refine AWR.ent (Ent.of (σ' := [(0, (.s (.c (.pv (.xs false (a.map encTBar)))))), (1, (.s (.c (.pv (.xs false (b.map encTBar)))))), (5, (.s (.c (iC s2))))]) (m' := []) ⟨rfl, rfl, rfl, trivial⟩ trivial) ?_
          refine AWR.region ?_
          refine AOR.pure (LT.move (v := (.s (.c (iC s2)))) rfl) ⟨rfl, trivial⟩ trivial rfl rfl ?_
          refine AOR.pure (LT.add rfl) ⟨rfl, ⟨rfl, rfl⟩, trivial⟩ trivial rfl rfl ?_
          refine AOR.pure (LT.assign (v := (.s (.c (iC (w64 (s2 + 1)))))) rfl) ⟨rfl, trivial⟩ trivial rfl rfl ?_
          refine AOR.nil ?_
          refine AWR.nil ⟨rfl, Ent.of ⟨rfl, rfl, rfl, trivial⟩ trivial⟩
      · refine AWR.exit_end rfl ⟨rfl, Ent.of trivial trivial⟩
    · refine AWR.seq ?_
      refine AWR.region ?_
      refine AOR.pure (LT.assign (v := (.s (.c (bC true)))) rfl) ⟨⟨rfl, rfl⟩, trivial⟩ trivial rfl rfl ?_
      refine AOR.nil ?_
      refine AWR.ret (FPost.mk (.inr rfl) ⟨rfl, trivial⟩ trivial rfl ⟨PermP.sc, trivial⟩ trivial)
set_option maxRecDepth 100000 in
set_option maxHeartbeats 8000000 in
theorem w_laws_eqGraph (a : TGraph) (b : TGraph) : ∀ t, m_laws_eqGraph a b = some t → Fw.Fn Try.prog 57 [(.agg [(iC a.Points), (.pv (.xs false (a.Bars.map encTBar)))]), (.agg [(iC b.Points), (.pv (.xs false (b.Bars.map encTBar)))])] [] (.s (.c (bC t))) [] [] [] := by
  refine Fw.Fn.of (P := Try.prog) (X := []) (pn := []) (rs := (fun (t : Bool) => [(.c (bC t))])) (dfs := (fun (t : Bool) => [])) Try.func57 rfl Try.ntmps57 (Nat.le_of_ble_eq_true rfl) rfl ?_
  intro w0 U0 R0 g0
  unfold m_laws_eqGraph
  refine AWR.seq ?_
  refine AWR.region ?_
  refine AOR.step (LT.box (n := 21) (v := (.agg [(iC a.Points), (.pv (.xs false (a.Bars.map encTBar)))])) rfl sz26 (by exact rfl)) ⟨rfl, trivial⟩ trivial rfl rfl ?_
  refine AOR.step (LT.box (n := 22) (v := (.agg [(iC b.Points), (.pv (.xs false (b.Bars.map encTBar)))])) rfl sz26 (by exact rfl)) ⟨rfl, trivial⟩ trivial rfl rfl ?_
  refine AOR.pure (LT.assign (v := (.s (.c (bC false)))) rfl) ⟨⟨rfl, rfl⟩, trivial⟩ trivial rfl rfl ?_
  refine AOR.nil ?_
  refine AWR.seq ?_
  refine AWR.seq ?_
  refine AWR.region ?_
  refine AOR.pure (LT.fieldPl rfl fo26_0) ⟨rfl, trivial⟩ trivial rfl rfl ?_
  refine AOR.pure (LT.bload1 (c := (iC a.Points)) rfl ag3 (by exact rfl)) ⟨rfl, trivial⟩ ⟨rfl, trivial⟩ rfl rfl ?_
  refine AOR.pure (LT.fieldPl rfl fo26_0) ⟨rfl, trivial⟩ trivial rfl rfl ?_
  refine AOR.pure (LT.bload1 (c := (iC b.Points)) rfl ag3 (by exact rfl)) ⟨rfl, trivial⟩ ⟨rfl, trivial⟩ rfl rfl ?_
  refine AOR.pure (LT.neq rfl) ⟨rfl, rfl, trivial⟩ trivial rfl rfl ?_
  refine AOR.nil ?_
  refine AWR.cond rfl (fun hc1 => ?_) (fun hc1 => ?_)
  · refine AWR.seq ?_
    refine AWR.ent (Ent.of (σ' := []) (m' := []) trivial trivial) ?_
    refine AWR.region ?_
    refine AOR.pure (LT.assign (v := (.s (.c (bC false)))) rfl) ⟨⟨rfl, rfl⟩, trivial⟩ trivial rfl rfl ?_
    refine AOR.nil ?_
    refine AWR.ret (FPost.mk (.inr rfl) ⟨rfl, trivial⟩ trivial rfl ⟨PermP.sc, trivial⟩ trivial)
  · refine AWR.skip ?_
    refine AWR.seq ?_
    refine AWR.seq ?_
    refine AWR.ent (Ent.of (σ' := [(2, (.s (.c (.pl 21 0)))), (3, (.s (.c (.pl 22 0))))]) (m' := [(21, (.row 26 [[(iC a.Points), (.pv (.xs false (a.Bars.map encTBar)))]])), (22, (.row 26 [[(iC b.Points), (.pv (.xs false (b.Bars.map encTBar)))]]))]) ⟨rfl, rfl, trivial⟩ ⟨rfl, rfl, trivial⟩) ?_
    refine AWR.region ?_
    refine AOR.pure (LT.fieldPl rfl fo26_1) ⟨rfl, trivial⟩ trivial rfl rfl ?_
    refine AOR.pure (LT.bload1 (c := (.pv (.xs false (a.Bars.map encTBar)))) rfl ag24 (by exact rfl)) ⟨rfl, trivial⟩ ⟨rfl, trivial⟩ rfl rfl ?_
    refine AOR.pure (LT.fieldPl rfl fo26_1) ⟨rfl, trivial⟩ trivial rfl rfl ?_
    refine AOR.pure (LT.bload1 (c := (.pv (.xs false (b.Bars.map encTBar)))) rfl ag24 (by exact rfl)) ⟨rfl, trivial⟩ ⟨rfl, trivial⟩ rfl rfl ?_
    refine AOR.bind fun r2 hr2 => ?_
    refine AOR.pure (@LT.callF Try.prog _ _ 122 _ _ [(.c (.pv (.xs false (a.Bars.map encTBar)))), (.c (.pv (.xs false (b.Bars.map encTBar))))] _ _ [] _ _ _ _ (w_laws_eqBarS a.Bars b.Bars r2 hr2) rfl cb122 (.cons (.c (.same rfl)) (.cons (.c (.same rfl)) .nil)) rfl rfl trivial) ⟨rfl, rfl, rfl, trivial⟩ trivial rfl rfl ?_
    refine AOR.pure (LT.not rfl) ⟨rfl, trivial⟩ trivial rfl rfl ?_
    refine AOR.nil ?_
    refine AWR.cond rfl (fun hc3 => ?_) (fun hc3 => ?_)
    · refine AWR.seq ?_
      refine AWR.region ?_
      refine AOR.pure (LT.assign (v := (.s (.c (bC false)))) rfl) ⟨⟨rfl, rfl⟩, trivial⟩ trivial rfl rfl ?_
      refine AOR.nil ?_
      refine AWR.ret (FPost.mk (.inr rfl) ⟨rfl, trivial⟩ trivial rfl ⟨PermP.sc, trivial⟩ trivial)
    · refine AWR.skip ?_
      refine AWR.seq ?_
      refine AWR.region ?_
      refine AOR.pure (LT.assign (v := (.s (.c (bC true)))) rfl) ⟨⟨rfl, rfl⟩, trivial⟩ trivial rfl rfl ?_
      refine AOR.nil ?_
      refine AWR.ret (FPost.mk (.inr rfl) ⟨rfl, trivial⟩ trivial rfl ⟨PermP.sc, trivial⟩ trivial)
set_option maxRecDepth 100000 in
set_option maxHeartbeats 8000000 in
theorem w_laws_eqPlace (a : TPlace) (b : TPlace) : ∀ t, m_laws_eqPlace a b = some t → Fw.Fn Try.prog 168 [(.agg [(iC a.X), (iC a.Y)]), (.agg [(iC b.X), (iC b.Y)])] [] (.s (.c (bC t))) [] [] [] := by
  refine Fw.Fn.of (P := Try.prog) (X := []) (pn := []) (rs := (fun (t : Bool) => [(.c (bC t))])) (dfs := (fun (t : Bool) => [])) Try.func168 rfl Try.ntmps168 (Nat.le_of_ble_eq_true rfl) rfl ?_
  intro w0 U0 R0 g0
  unfold m_laws_eqPlace
  refine AWR.seq ?_
  refine AWR.region ?_
  refine AOR.step (LT.box (n := 21) (v := (.agg [(iC a.X), (iC a.Y)])) rfl sz95 (by exact rfl)) ⟨rfl, trivial⟩ trivial rfl rfl ?_
  refine AOR.step (LT.box (n := 22) (v := (.agg [(iC b.X), (iC b.Y)])) rfl sz95 (by exact rfl)) ⟨rfl, trivial⟩ trivial rfl rfl ?_
  refine AOR.pure (LT.assign (v := (.s (.c (bC false)))) rfl) ⟨⟨rfl, rfl⟩, trivial⟩ trivial rfl rfl ?_
  refine AOR.nil ?_
  refine AWR.seq ?_
  refine AWR.seq ?_
  refine AWR.region ?_
  refine AOR.pure (LT.fieldPl rfl fo95_0) ⟨rfl, trivial⟩ trivial rfl rfl ?_
  refine AOR.pure (LT.bload1 (c := (iC a.X)) rfl ag3 (by exact rfl)) ⟨rfl, trivial⟩ ⟨rfl, trivial⟩ rfl rfl ?_
  refine AOR.pure (LT.fieldPl rfl fo95_0) ⟨rfl, trivial⟩ trivial rfl rfl ?_
  refine AOR.pure (LT.bload1 (c := (iC b.X)) rfl ag3 (by exact rfl)) ⟨rfl, trivial⟩ ⟨rfl, trivial⟩ rfl rfl ?_
  refine AOR.pure (LT.neq rfl) ⟨rfl, rfl, trivial⟩ trivial rfl rfl ?_
  refine AOR.nil ?_
  refine AWR.cond rfl (fun hc1 => ?_) (fun hc1 => ?_)
  · refine AWR.seq ?_
    refine AWR.ent (Ent.of (σ' := []) (m' := []) trivial trivial) ?_
    refine AWR.region ?_
    refine AOR.pure (LT.assign (v := (.s (.c (bC false)))) rfl) ⟨⟨rfl, rfl⟩, trivial⟩ trivial rfl rfl ?_
    refine AOR.nil ?_
    refine AWR.ret (FPost.mk (.inr rfl) ⟨rfl, trivial⟩ trivial rfl ⟨PermP.sc, trivial⟩ trivial)
  · refine AWR.skip ?_
    refine AWR.seq ?_
    refine AWR.seq ?_
    refine AWR.ent (Ent.of (σ' := [(2, (.s (.c (.pl 21 0)))), (3, (.s (.c (.pl 22 0))))]) (m' := [(21, (.row 95 [[(iC a.X), (iC a.Y)]])), (22, (.row 95 [[(iC b.X), (iC b.Y)]]))]) ⟨rfl, rfl, trivial⟩ ⟨rfl, rfl, trivial⟩) ?_
    refine AWR.region ?_
    refine AOR.pure (LT.fieldPl rfl fo95_1) ⟨rfl, trivial⟩ trivial rfl rfl ?_
    refine AOR.pure (LT.bload1 (c := (iC a.Y)) rfl ag3 (by exact rfl)) ⟨rfl, trivial⟩ ⟨rfl, trivial⟩ rfl rfl ?_
    refine AOR.pure (LT.fieldPl rfl fo95_1) ⟨rfl, trivial⟩ trivial rfl rfl ?_
    refine AOR.pure (LT.bload1 (c := (iC b.Y)) rfl ag3 (by exact rfl)) ⟨rfl, trivial⟩ ⟨rfl, trivial⟩ rfl rfl ?_
    refine AOR.pure (LT.neq rfl) ⟨rfl, rfl, trivial⟩ trivial rfl rfl ?_
    refine AOR.nil ?_
    refine AWR.cond rfl (fun hc2 => ?_) (fun hc2 => ?_)
    · refine AWR.seq ?_
      refine AWR.region ?_
      refine AOR.pure (LT.assign (v := (.s (.c (bC false)))) rfl) ⟨⟨rfl, rfl⟩, trivial⟩ trivial rfl rfl ?_
      refine AOR.nil ?_
      refine AWR.ret (FPost.mk (.inr rfl) ⟨rfl, trivial⟩ trivial rfl ⟨PermP.sc, trivial⟩ trivial)
    · refine AWR.skip ?_
      refine AWR.seq ?_
      refine AWR.region ?_
      refine AOR.pure (LT.assign (v := (.s (.c (bC true)))) rfl) ⟨⟨rfl, rfl⟩, trivial⟩ trivial rfl rfl ?_
      refine AOR.nil ?_
      refine AWR.ret (FPost.mk (.inr rfl) ⟨rfl, trivial⟩ trivial rfl ⟨PermP.sc, trivial⟩ trivial)
end Go.Proofs.Ytoeigmhhmadmbaa
end
section
set_option linter.unusedVariables false
set_option linter.unusedSimpArgs false
set_option linter.unnecessarySimpa false
open Go Go.Fw
namespace Go.Proofs.Ytoeigmhhmadmbaa
set_option maxRecDepth 100000 in
set_option maxHeartbeats 8000000 in
theorem w_laws_eqPlaceS (a : (List TPlace)) (b : (List TPlace)) : ∀ t, m_laws_eqPlaceS a b = some t → Fw.Fn Try.prog 111 [(.c (.pv (.xs false (a.map encTPlace)))), (.c (.pv (.xs false (b.map encTPlace))))] [] (.s (.c (bC t))) [] [] [] := by
  refine Fw.Fn.of (P := Try.prog) (X := []) (pn := []) (rs := (fun (t : Bool) => [(.c (bC t))])) (dfs := (fun (t : Bool) => [])) Try.func111 rfl Try.ntmps111 (Nat.le_of_ble_eq_true rfl) rfl ?_
  intro w0 U0 R0 g0
  unfold m_laws_eqPlaceS
  refine AWR.seq ?_
  refine AWR.region ?_
  refine AOR.pure (LT.assign (v := (.s (.c (bC false)))) rfl) ⟨⟨rfl, rfl⟩, trivial⟩ trivial rfl rfl ?_
  refine AOR.nil ?_
  refine AWR.seq ?_
  refine AWR.seq ?_
  refine AWR.region ?_
  refine AOR.pure (LT.move (v := (.s (.c (.pv (.xs false (a.map encTPlace)))))) rfl) ⟨rfl, trivial⟩ trivial rfl rfl ?_
  refine AOR.pure (LT.tlenRO rfl und27) ⟨rfl, trivial⟩ trivial rfl rfl ?_
  refine AOR.pure (LT.move (v := (.s (.c (.pv (.xs false (b.map encTPlace)))))) rfl) ⟨rfl, trivial⟩ trivial rfl rfl ?_
  refine AOR.pure (LT.tlenRO rfl und27) ⟨rfl, trivial⟩ trivial rfl rfl ?_
  refine AOR.pure (LT.neq rfl) ⟨rfl, rfl, trivial⟩ trivial rfl rfl ?_
  refine AOR.nil ?_
  refine AWR.cond rfl (fun hc1 => ?_) (fun hc1 => ?_)
  · refine AWR.seq ?_
    refine AWR.region ?_
    refine AOR.pure (LT.assign (v := (.s (.c (bC false)))) rfl) ⟨⟨rfl, rfl⟩, trivial⟩ trivial rfl rfl ?_
    refine AOR.nil ?_
    refine AWR.ret (FPost.mk (.inr rfl) ⟨rfl, trivial⟩ trivial rfl ⟨PermP.sc, trivial⟩ trivial)
  · refine AWR.skip ?_
    refine AWR.seq ?_
    refine AWR.seq ?_
    refine AWR.region ?_
    refine AOR.pure (LT.assign (v := (.s (.c (iC 0)))) rfl) ⟨⟨rfl, rfl⟩, trivial⟩ trivial rfl rfl ?_
    refine AOR.nil ?_
    refine AWR.block ?_
    refine AWR.loopR (id := 0) (m_laws_eqPlaceS_L1 a b) (fun s2 => ([(0, (.s (.c (.pv (.xs false (a.map encTPlace)))))), (1, (.s (.c (.pv (.xs false (b.map encTPlace)))))), (5, (.s (.c (iC s2))))], [])) (fun b13 => ([], [])) (FPost Try.prog Try.f111.results.toList [] [] (fun (t : Bool) => [(.c (bC t))]) (fun (t : Bool) => [])) ?_ (Ent.of ⟨rfl, rfl, rfl, trivial⟩ trivial) rfl (fun b13 _ => ?_) (by intro r t σ m ht hk; injection ht with ht; subst ht; exact hk)
    · intro s2
      unfold m_laws_eqPlaceS_L1
      refine AWR.seq ?_
      refine AWR.seq ?_
      refine AWR.region ?_
      refine AOR.pure (LT.move (v := (.s (.c (iC s2)))) rfl) ⟨rfl, trivial⟩ trivial rfl rfl ?_
      refine AOR.pure (LT.move (v := (.s (.c (.pv (.xs false (a.map encTPlace)))))) rfl) ⟨rfl, trivial⟩ trivial rfl rfl ?_
      refine AOR.pure (LT.tlenRO rfl und27) ⟨rfl, trivial⟩ trivial rfl rfl ?_
      refine AOR.pure (LT.lss rfl) ⟨rfl, rfl, trivial⟩ trivial rfl rfl ?_
      refine AOR.nil ?_
      refine AWR.cond rfl (fun hc14 => ?_) (fun hc14 => ?_)
      · refine AWR.skip ?_
        refine AWR.seq ?_
        refine AWR.block ?_
        refine AWR.seq ?_
        refine AWR.draw mixed ?_
        refine AOD.pure (LT.move (v := (.s (.c (.pv (.xs false (a.map encTPlace)))))) rfl) ⟨rfl, trivial⟩ trivial rfl rfl ?_
        refine AOD.pure (LT.move (v := (.s (.c (iC s2)))) rfl) ⟨rfl, trivial⟩ trivial rfl rfl ?_
        refine AOD.bind fun x15 hx15 => ?_
        refine AOD.pure (LT.tindexRO (enc := encTPlace) rfl el27 hx15 sz95) ⟨rfl, rfl, trivial⟩ trivial rfl rfl ?_
        refine AOD.pure (LT.loadPxN rfl ag95 (infS inf95) (by exact sz95.symm)) ⟨rfl, trivial⟩ trivial rfl rfl ?_
        refine AOD.pure (LT.move (v := (.s (.c (.pv (.xs false (b.map encTPlace)))))) rfl) ⟨rfl, trivial⟩ trivial rfl rfl ?_
        refine AOD.pure (LT.move (v := (.s (.c (iC s2)))) rfl) ⟨rfl, trivial⟩ trivial rfl rfl ?_
        refine AOD.bind fun x16 hx16 => ?_
        refine AOD.pure (LT.tindexRO (enc := encTPlace) rfl el27 hx16 sz95) ⟨rfl, rfl, trivial⟩ trivial rfl rfl ?_
        refine AOD.pure (LT.loadPxN rfl ag95 (infS inf95) (by exact sz95.symm)) ⟨rfl, trivial⟩ trivial rfl rfl ?_
        refine AOD.bind fun r17 hr17 => ?_
        refine AOD.pure (@LT.callF Try.prog _ _ 168 _ _ [(.agg [(iC x15.X), (iC x15.Y)]), (.agg [(iC x16.X), (iC x16.Y)])] _ _ [] _ _ _ _ (w_laws_eqPlace x15 x16 r17 hr17) rfl cb168 (.cons (.agg (.cons (.same rfl) (.cons (.same rfl) .nil))) (.cons (.agg (.cons (.same rfl) (.cons (.same rfl) .nil))) .nil)) rfl rfl trivial) ⟨rfl, rfl, rfl, trivial⟩ trivial rfl rfl ?_
        refine AOD.pure (LT.not rfl) ⟨rfl, trivial⟩ trivial rfl rfl ?_
        refine AOD.nil (by kernel_rfl) ?_
        refine AWR.cond rfl (fun hc18 => ?_) (fun hc18 => ?_)
        · refine AWR.seq ?_
          refine AWR.ent (Ent.of (σ' := []) (m' := []) trivial trivial) ?_
          refine AWR.region ?_
          refine AOR.pure (LT.assign (v := (.s (.c (bC false)))) rfl) ⟨⟨rfl, rfl⟩, trivial⟩ trivial rfl rfl ?_
          refine AOR.nil ?_
          refine AWR.ret ⟨rfl, FPost.mk (.inr rfl) ⟨rfl, trivial⟩ trivial rfl ⟨PermP.sc, trivial⟩ trivial⟩
        · refine AWR.skip ?_
          refine AWR.blk ?_
          refine AWR.ent (Ent.of (σ' := [(0, (.s (.c (.pv (.xs false (a.map encTPlace)))))), (1, (.s (.c (.pv (.xs false (b.map encTPlace)))))), (5, (.s (.c (iC s2))))]) (m' := []) ⟨rfl, rfl, rfl, trivial⟩ trivial) ?_
          refine AWR.region ?_
          refine AOR.pure (LT.move (v := (.s (.c (iC s2)))) rfl) ⟨rfl, trivial⟩ trivial rfl rfl ?_
          refine AOR.pure (LT.add rfl) ⟨rfl, ⟨rfl, rfl⟩, trivial⟩ trivial rfl rfl ?_
          refine AOR.pure (LT.assign (v := (.s (.c (iC (w64 (s2 + 1)))))) rfl) ⟨rfl, trivial⟩ trivial rfl rfl ?_
          refine AOR.nil ?_
          refine AWR.nil ⟨rfl, Ent.of ⟨rfl, rfl, rfl, trivial⟩ trivial⟩
      · refine AWR.exit_end rfl ⟨rfl, Ent.of trivial trivial⟩
    · refine AWR.seq ?_
      refine AWR.region ?_
      refine AOR.pure (LT.assign (v := (.s (.c (bC true)))) rfl) ⟨⟨rfl, rfl⟩, trivial⟩ trivial rfl rfl ?_
      refine AOR.nil ?_
      refine AWR.ret (FPost.mk (.inr rfl) ⟨rfl, trivial⟩ trivial rfl ⟨PermP.sc, trivial⟩ trivial)
set_option maxRecDepth 100000 in
set_option maxHeartbeats 8000000 in
theorem w_laws_eqFramework (a : TFramework) (b : TFramework) : ∀ t, m_laws_eqFramework a b = some t → Fw.Fn Try.prog 45 [(.agg [(iC a.Graph.Points), (.pv (.xs false (a.Graph.Bars.map encTBar))), (.pv (.xs false (a.Places.map encTPlace)))]), (.agg [(iC b.Graph.Points), (.pv (.xs false (b.Graph.Bars.map encTBar))), (.pv (.xs false (b.Places.map encTPlace)))])] [] (.s (.c (bC t))) [] [] [] := by
  refine Fw.Fn.of (P := Try.prog) (X := []) (pn := []) (rs := (fun (t : Bool) => [(.c (bC t))])) (dfs := (fun (t : Bool) => [])) Try.func45 rfl Try.ntmps45 (Nat.le_of_ble_eq_true rfl) rfl ?_
  intro w0 U0 R0 g0
  unfold m_laws_eqFramework
  refine AWR.seq ?_
  refine AWR.region ?_
  refine AOR.step (LT.box (n := 21) (v := (.agg [(iC a.Graph.Points), (.pv (.xs false (a.Graph.Bars.map encTBar))), (.pv (.xs false (a.Places.map encTPlace)))])) rfl sz29 (by exact rfl)) ⟨rfl, trivial⟩ trivial rfl rfl ?_
  refine AOR.step (LT.box (n := 22) (v := (.agg [(iC b.Graph.Points), (.pv (.xs false (b.Graph.Bars.map encTBar))), (.pv (.xs false (b.Places.map encTPlace)))])) rfl sz29 (by exact rfl)) ⟨rfl, trivial⟩ trivial rfl rfl ?_
  refine AOR.pure (LT.assign (v := (.s (.c (bC false)))) rfl) ⟨⟨rfl, rfl⟩, trivial⟩ trivial rfl rfl ?_
  refine AOR.nil ?_
  refine AWR.seq ?_
  refine AWR.seq ?_
  refine AWR.region ?_
  refine AOR.pure (LT.fieldPl rfl fo29_0) ⟨rfl, trivial⟩ trivial rfl rfl ?_
  refine AOR.pure (LT.bloadN (out := [(iC a.Graph.Points), (.pv (.xs false (a.Graph.Bars.map encTBar)))]) rfl ag26 (infS inf26) sz26 (by exact rfl) (by exact rfl)) ⟨rfl, trivial⟩ ⟨rfl, trivial⟩ rfl rfl ?_
  refine AOR.pure (LT.fieldPl rfl fo29_0) ⟨rfl, trivial⟩ trivial rfl rfl ?_
  refine AOR.pure (LT.bloadN (out := [(iC b.Graph.Points), (.pv (.xs false (b.Graph.Bars.map encTBar)))]) rfl ag26 (infS inf26) sz26 (by exact rfl) (by exact rfl)) ⟨rfl, trivial⟩ ⟨rfl, trivial⟩ rfl rfl ?_
  refine AOR.bind fun r1 hr1 => ?_
  refine AOR.pure (@LT.callF Try.prog _ _ 57 _ _ [(.agg [(iC a.Graph.Points), (.pv (.xs false (a.Graph.Bars.map encTBar)))]), (.agg [(iC b.Graph.Points), (.pv (.xs false (b.Graph.Bars.map encTBar)))])] _ _ [] _ _ _ _ (w_laws_eqGraph a.Graph b.Graph r1 hr1) rfl cb57 (.cons (.agg (.cons (.same rfl) (.cons (.same rfl) .nil))) (.cons (.agg (.cons (.same rfl) (.cons (.same rfl) .nil))) .nil)) rfl rfl trivial) ⟨rfl, rfl, rfl, trivial⟩ trivial rfl rfl ?_
  refine AOR.pure (LT.not rfl) ⟨rfl, trivial⟩ trivial rfl rfl ?_
  refine AOR.nil ?_
  refine AWR.cond rfl (fun hc2 => ?_) (fun hc2 => ?_)
  · refine AWR.seq ?_
    refine AWR.ent (Ent.of (σ' := []) (m' := []) trivial trivial) ?_
    refine AWR.region ?_
    refine AOR.pure (LT.assign (v := (.s (.c (bC false)))) rfl) ⟨⟨rfl, rfl⟩, trivial⟩ trivial rfl rfl ?_
    refine AOR.nil ?_
    refine AWR.ret (FPost.mk (.inr rfl) ⟨rfl, trivial⟩ trivial rfl ⟨PermP.sc, trivial⟩ trivial)
  · refine AWR.skip ?_
    refine AWR.seq ?_
    refine AWR.seq ?_
    refine AWR.ent (Ent.of (σ' := [(2, (.s (.c (.pl 21 0)))), (3, (.s (.c (.pl 22 0))))]) (m' := [(21, (.row 29 [[(iC a.Graph.Points), (.pv (.xs false (a.Graph.Bars.map encTBar))), (.pv (.xs false (a.Places.map encTPlace)))]])), (22, (.row 29 [[(iC b.Graph.Points), (.pv (.xs false (b.Graph.Bars.map encTBar))), (.pv (.xs false (b.Places.map encTPlace)))]]))]) ⟨rfl, rfl, trivial⟩ ⟨rfl, rfl, trivial⟩) ?_
    refine AWR.region ?_
    refine AOR.pure (LT.fieldPl rfl fo29_1) ⟨rfl, trivial⟩ trivial rfl rfl ?_
    refine AOR.pure (LT.bload1 (c := (.pv (.xs false (a.Places.map encTPlace)))) rfl ag27 (by exact rfl)) ⟨rfl, trivial⟩ ⟨rfl, trivial⟩ rfl rfl ?_
    refine AOR.pure (LT.fieldPl rfl fo29_1) ⟨rfl, trivial⟩ trivial rfl rfl ?_
    refine AOR.pure (LT.bload1 (c := (.pv (.xs false (b.Places.map encTPlace)))) rfl ag27 (by exact rfl)) ⟨rfl, trivial⟩ ⟨rfl, trivial⟩ rfl rfl ?_
    refine AOR.bind fun r3 hr3 => ?_
    refine AOR.pure (@LT.callF Try.prog _ _ 111 _ _ [(.c (.pv (.xs false (a.Places.map encTPlace)))), (.c (.pv (.xs false (b.Places.map encTPlace))))] _ _ [] _ _ _ _ (w_laws_eqPlaceS a.Places b.Places r3 hr3) rfl cb111 (.cons (.c (.same rfl)) (.cons (.c (.same rfl)) .nil)) rfl rfl trivial) ⟨rfl, rfl, rfl, trivial⟩ trivial rfl rfl ?_
    refine AOR.pure (LT.not rfl) ⟨rfl, trivial⟩ trivial rfl rfl ?_
    refine AOR.nil ?_
    refine AWR.cond rfl (fun hc4 => ?_) (fun hc4 => ?_)
    · refine AWR.seq ?_
      refine AWR.region ?_
      refine AOR.pure (LT.assign (v := (.s (.c (bC false)))) rfl) ⟨⟨rfl, rfl⟩, trivial⟩ trivial rfl rfl ?_
      refine AOR.nil ?_
      refine AWR.ret (FPost.mk (.inr rfl) ⟨rfl, trivial⟩ trivial rfl ⟨PermP.sc, trivial⟩ trivial)
    · refine AWR.skip ?_
      refine AWR.seq ?_
      refine AWR.region ?_
      refine AOR.pure (LT.assign (v := (.s (.c (bC true)))) rfl) ⟨⟨rfl, rfl⟩, trivial⟩ trivial rfl rfl ?_
      refine AOR.nil ?_
      refine AWR.ret (FPost.mk (.inr rfl) ⟨rfl, trivial⟩ trivial rfl ⟨PermP.sc, trivial⟩ trivial)
end Go.Proofs.Ytoeigmhhmadmbaa
end
section
set_option linter.unusedVariables false
set_option linter.unusedSimpArgs false
set_option linter.unnecessarySimpa false
open Go Go.Fw
namespace Go.Proofs.Ytoeigmhhmadmbaa
set_option maxRecDepth 100000 in
set_option maxHeartbeats 8000000 in
theorem w_laws_szPlaceS (a : (List TPlace)) (leftV : Int) : ∀ t, m_laws_szPlaceS a leftV = some t → Fw.Fn Try.prog 109 [(.c (.pv (.xs false (a.map encTPlace)))), (.c (iC leftV))] [] (.s (.c (iC t))) [] [] [] := by
  refine Fw.Fn.of (P := Try.prog) (X := []) (pn := []) (rs := (fun (t : Int) => [(.c (iC t))])) (dfs := (fun (t : Int) => [])) Try.func109 rfl Try.ntmps109 (Nat.le_of_ble_eq_true rfl) rfl ?_
  intro w0 U0 R0 g0
  unfold m_laws_szPlaceS
  refine AWR.seq ?_
  refine AWR.region ?_
  refine AOR.pure (LT.assign (v := (.s (.c (iC 0)))) rfl) ⟨⟨rfl, rfl⟩, trivial⟩ trivial rfl rfl ?_
  refine AOR.nil ?_
  refine AWR.seq ?_
  refine AWR.region ?_
  refine AOR.pure (LT.move (v := (.s (.c (iC leftV)))) rfl) ⟨rfl, trivial⟩ trivial rfl rfl ?_
  refine AOR.pure (LT.move (v := (.s (.c (.pv (.xs false (a.map encTPlace)))))) rfl) ⟨rfl, trivial⟩ trivial rfl rfl ?_
  refine AOR.pure (LT.tlenRO rfl und51) ⟨rfl, trivial⟩ trivial rfl rfl ?_
  refine AOR.pure (LT.sub rfl) ⟨rfl, rfl, trivial⟩ trivial rfl rfl ?_
  refine AOR.pure (LT.assign (v := (.s (.c (iC (w64 (leftV - (a.length : Int))))))) rfl) ⟨rfl, trivial⟩ trivial rfl rfl ?_
  refine AOR.nil ?_
  refine AWR.seq ?_
  refine AWR.seq ?_
  refine AWR.region ?_
  refine AOR.pure (LT.move (v := (.s (.c (iC (w64 (leftV - (a.length : Int))))))) rfl) ⟨rfl, trivial⟩ trivial rfl rfl ?_
  refine AOR.pure (LT.lss rfl) ⟨rfl, ⟨rfl, rfl⟩, trivial⟩ trivial rfl rfl ?_
  refine AOR.nil ?_
  refine AWR.cond rfl (fun hc1 => ?_) (fun hc1 => ?_)
  · refine AWR.seq ?_
    refine AWR.region ?_
    refine AOR.pure (LT.assign (v := (.s (.c (iC (-1))))) rfl) ⟨⟨rfl, rfl⟩, trivial⟩ trivial rfl rfl ?_
    refine AOR.nil ?_
    refine AWR.ret (FPost.mk (.inr rfl) ⟨rfl, trivial⟩ trivial rfl ⟨PermP.sc, trivial⟩ trivial)
  · refine AWR.skip ?_
    refine AWR.seq ?_
    refine AWR.region ?_
    refine AOR.pure (LT.move (v := (.s (.c (iC (w64 (leftV - (a.length : Int))))))) rfl) ⟨rfl, trivial⟩ trivial rfl rfl ?_
    refine AOR.pure (LT.assign (v := (.s (.c (iC (w64 (leftV - (a.length : Int))))))) rfl) ⟨rfl, trivial⟩ trivial rfl rfl ?_
    refine AOR.nil ?_
    refine AWR.ret (FPost.mk (.inr rfl) ⟨rfl, trivial⟩ trivial rfl ⟨PermP.sc, trivial⟩ trivial)
set_option maxRecDepth 100000 in
set_option maxHeartbeats 8000000 in
theorem w_laws_szFramework (a : TFramework) (leftV : Int) : ∀ t, m_laws_szFramework a leftV = some t → Fw.Fn Try.prog 43 [(.agg [(iC a.Graph.Points), (.pv (.xs false (a.Graph.Bars.map encTBar))), (.pv (.xs false (a.Places.map encTPlace)))]), (.c (iC leftV))] [] (.s (.c (iC t))) [] [] [] := by
  refine Fw.Fn.of (P := Try.prog) (X := []) (pn := []) (rs := (fun (t : Int) => [(.c (iC t))])) (dfs := (fun (t : Int) => [])) Try.func43 rfl Try.ntmps43 (Nat.le_of_ble_eq_true rfl) rfl ?_
  intro w0 U0 R0 g0
  unfold m_laws_szFramework
  refine AWR.seq ?_
  refine AWR.region ?_
  refine AOR.step (LT.box (n := 21) (v := (.agg [(iC a.Graph.Points), (.pv (.xs false (a.Graph.Bars.map encTBar))), (.pv (.xs false (a.Places.map encTPlace)))])) rfl sz53 (by exact rfl)) ⟨rfl, trivial⟩ trivial rfl rfl ?_
  refine AOR.pure (LT.assign (v := (.s (.c (iC 0)))) rfl) ⟨⟨rfl, rfl⟩, trivial⟩ trivial rfl rfl ?_
  refine AOR.nil ?_
  refine AWR.seq ?_
  refine AWR.region ?_
  refine AOR.pure (LT.fieldPl rfl fo53_0) ⟨rfl, trivial⟩ trivial rfl rfl ?_
  refine AOR.pure (LT.bloadN (out := [(iC a.Graph.Points), (.pv (.xs false (a.Graph.Bars.map encTBar)))]) rfl ag50 (infS inf50) sz50 (by exact rfl) (by exact rfl)) ⟨rfl, trivial⟩ ⟨rfl, trivial⟩ rfl rfl ?_
  refine AOR.pure (LT.move (v := (.s (.c (iC leftV)))) rfl) ⟨rfl, trivial⟩ trivial rfl rfl ?_
  refine AOR.bind fun r1 hr1 => ?_
  refine AOR.pure (@LT.callF Try.prog _ _ 53 _ _ [(.agg [(iC a.Graph.Points), (.pv (.xs false (a.Graph.Bars.map encTBar)))]), (.c (iC leftV))] _ _ [] _ _ _ _ (w_laws_szGraph a.Graph leftV r1 hr1) rfl cb53 (.cons (.agg (.cons (.same rfl) (.cons (.same rfl) .nil))) (.cons (.c (.same rfl)) .nil)) rfl rfl trivial) ⟨rfl, rfl, rfl, trivial⟩ trivial rfl rfl ?_
  refine AOR.pure (LT.assign (v := (.s (.c (iC r1)))) rfl) ⟨rfl, trivial⟩ trivial rfl rfl ?_
  refine AOR.nil ?_
  refine AWR.seq ?_
  refine AWR.seq ?_
  refine AWR.region ?_
  refine AOR.pure (LT.move (v := (.s (.c (iC r1)))) rfl) ⟨rfl, trivial⟩ trivial rfl rfl ?_
  refine AOR.pure (LT.lss rfl) ⟨rfl, ⟨rfl, rfl⟩, trivial⟩ trivial rfl rfl ?_
  refine AOR.nil ?_
  refine AWR.cond rfl (fun hc2 => ?_) (fun hc2 => ?_)
  · refine AWR.seq ?_
    refine AWR.ent (Ent.of (σ' := []) (m' := []) trivial trivial) ?_
    refine AWR.region ?_
    refine AOR.pure (LT.assign (v := (.s (.c (iC (-1))))) rfl) ⟨⟨rfl, rfl⟩, trivial⟩ trivial rfl rfl ?_
    refine AOR.nil ?_
    refine AWR.ret (FPost.mk (.inr rfl) ⟨rfl, trivial⟩ trivial rfl ⟨PermP.sc, trivial⟩ trivial)
  · refine AWR.skip ?_
    refine AWR.seq ?_
    refine AWR.ent (Ent.of (σ' := [(1, (.s (.c (iC r1)))), (2, (.s (.c (.pl 21 0))))]) (m' := [(21, (.row 53 [[(iC a.Graph.Points), (.pv (.xs false (a.Graph.Bars.map encTBar))), (.pv (.xs false (a.Places.map encTPlace)))]]))]) ⟨rfl, rfl, trivial⟩ ⟨rfl, trivial⟩) ?_
    refine AWR.region ?_
    refine AOR.pure (LT.fieldPl rfl fo53_1) ⟨rfl, trivial⟩ trivial rfl rfl ?_
    refine AOR.pure (LT.bload1 (c := (.pv (.xs false (a.Places.map encTPlace)))) rfl ag51 (by exact rfl)) ⟨rfl, trivial⟩ ⟨rfl, trivial⟩ rfl rfl ?_
    refine AOR.pure (LT.move (v := (.s (.c (iC r1)))) rfl) ⟨rfl, trivial⟩ trivial rfl rfl ?_
    refine AOR.bind fun r3 hr3 => ?_
    refine AOR.pure (@LT.callF Try.prog _ _ 109 _ _ [(.c (.pv (.xs false (a.Places.map encTPlace)))), (.c (iC r1))] _ _ [] _ _ _ _ (w_laws_szPlaceS a.Places r1 r3 hr3) rfl cb109 (.cons (.c (.same rfl)) (.cons (.c (.same rfl)) .nil)) rfl rfl trivial) ⟨rfl, rfl, rfl, trivial⟩ trivial rfl rfl ?_
    refine AOR.pure (LT.assign (v := (.s (.c (iC r3)))) rfl) ⟨rfl, trivial⟩ trivial rfl rfl ?_
    refine AOR.nil ?_
    refine AWR.seq ?_
    refine AWR.seq ?_
    refine AWR.region ?_
    refine AOR.pure (LT.move (v := (.s (.c (iC r3)))) rfl) ⟨rfl, trivial⟩ trivial rfl rfl ?_
    refine AOR.pure (LT.lss rfl) ⟨rfl, ⟨rfl, rfl⟩, trivial⟩ trivial rfl rfl ?_
    refine AOR.nil ?_
    refine AWR.cond rfl (fun hc4 => ?_) (fun hc4 => ?_)
    · refine AWR.seq ?_
      refine AWR.region ?_
      refine AOR.pure (LT.assign (v := (.s (.c (iC (-1))))) rfl) ⟨⟨rfl, rfl⟩, trivial⟩ trivial rfl rfl ?_
      refine AOR.nil ?_
      refine AWR.ret (FPost.mk (.inr rfl) ⟨rfl, trivial⟩ trivial rfl ⟨PermP.sc, trivial⟩ trivial)
    · refine AWR.skip ?_
      refine AWR.seq ?_
      refine AWR.region ?_
      refine AOR.pure (LT.move (v := (.s (.c (iC r3)))) rfl) ⟨rfl, trivial⟩ trivial rfl rfl ?_
      refine AOR.pure (LT.assign (v := (.s (.c (iC r3)))) rfl) ⟨rfl, trivial⟩ trivial rfl rfl ?_
      refine AOR.nil ?_
      refine AWR.ret (FPost.mk (.inr rfl) ⟨rfl, trivial⟩ trivial rfl ⟨PermP.sc, trivial⟩ trivial)
set_option maxRecDepth 100000 in
set_option maxHeartbeats 8000000 in
theorem w_laws_toPlace (a : TPlace) : ∀ t, m_laws_toPlace a = some t → Fw.Fn Try.prog 167 [(.agg [(iC a.X), (iC a.Y)])] [] (.s (.agg [(iC t.X), (iC t.Y)])) [] [] [] := by
  refine Fw.Fn.of (P := Try.prog) (X := []) (pn := []) (rs := (fun (t : TPlace) => [(.agg [(iC t.X), (iC t.Y)])])) (dfs := (fun (t : TPlace) => [])) Try.func167 rfl Try.ntmps167 (Nat.le_of_ble_eq_true rfl) rfl ?_
  intro w0 U0 R0 g0
  unfold m_laws_toPlace
  refine AWR.seq ?_
  refine AWR.region ?_
  refine AOR.step (LT.box (n := 21) (v := (.agg [(iC a.X), (iC a.Y)])) rfl sz137 (by exact rfl)) ⟨rfl, trivial⟩ trivial rfl rfl ?_
  refine AOR.step (LT.alloc (n := 22) (cells := [(iC 0), (iC 0)]) rfl ti95 rfl rfl rfl) trivial trivial rfl rfl ?_
  refine AOR.nil ?_
  refine AWR.seq ?_
  refine AWR.region ?_
  refine AOR.step (LT.alloc (n := 23) (cells := [(iC 0), (iC 0)]) rfl ti95 rfl rfl rfl) trivial trivial rfl rfl ?_
  refine AOR.nil ?_
  refine AWR.seq ?_
  refine AWR.region ?_
  refine AOR.pure (LT.fieldPl rfl fo137_0) ⟨rfl, trivial⟩ trivial rfl rfl ?_
  refine AOR.pure (LT.bload1 (c := (iC a.X)) rfl ag3 (by exact rfl)) ⟨rfl, trivial⟩ ⟨rfl, trivial⟩ rfl rfl ?_
  refine AOR.pure (LT.fieldPl rfl fo95_0) ⟨rfl, trivial⟩ trivial rfl rfl ?_
  refine AOR.step (LT.bstore (v := (.c (iC a.X))) (out := [(iC a.X), (iC 0)]) rfl rfl (infS inf3) sz3 (by exact rfl) (by exact Nat.le_of_ble_eq_true rfl) (by exact rfl)) ⟨rfl, rfl, trivial⟩ ⟨rfl, trivial⟩ rfl rfl ?_
  refine AOR.nil ?_
  refine AWR.seq ?_
  refine AWR.ent (Ent.of (σ' := [(1, (.s (.c (.pl 21 0)))), (2, (.s (.c (.pl 22 0)))), (3, (.s (.c (.pl 23 0))))]) (m' := [(21, (.row 137 [[(iC a.X), (iC a.Y)]])), (22, (.row 95 [[(iC 0), (iC 0)]])), (23, (.row 95 [[(iC a.X), (iC 0)]]))]) ⟨rfl, rfl, rfl, trivial⟩ ⟨rfl, rfl, rfl, trivial⟩) ?_
  refine AWR.region ?_
  refine AOR.pure (LT.fieldPl rfl fo137_1) ⟨rfl, trivial⟩ trivial rfl rfl ?_
  refine AOR.pure (LT.bload1 (c := (iC a.Y)) rfl ag3 (by exact rfl)) ⟨rfl, trivial⟩ ⟨rfl, trivial⟩ rfl rfl ?_
  refine AOR.pure (LT.fieldPl rfl fo95_1) ⟨rfl, trivial⟩ trivial rfl rfl ?_
  refine AOR.step (LT.bstore (v := (.c (iC a.Y))) (out := [(iC a.X), (iC a.Y)]) rfl rfl (infS inf3) sz3 (by exact rfl) (by exact Nat.le_of_ble_eq_true rfl) (by exact rfl)) ⟨rfl, rfl, trivial⟩ ⟨rfl, trivial⟩ rfl rfl ?_
  refine AOR.nil ?_
  refine AWR.seq ?_
  refine AWR.region ?_
  refine AOR.pure (LT.bloadN (out := [(iC a.X), (iC a.Y)]) rfl ag95 (infS inf95) sz95 (by exact rfl) (by exact rfl)) ⟨rfl, trivial⟩ ⟨rfl, trivial⟩ rfl rfl ?_
  refine AOR.step (LT.bstore (v := (.agg [(iC a.X), (iC a.Y)])) (out := [(iC a.X), (iC a.Y)]) rfl rfl (infS inf95) sz95 (by exact rfl) (by exact Nat.le_of_ble_eq_true rfl) (by exact rfl)) ⟨rfl, rfl, trivial⟩ ⟨rfl, trivial⟩ rfl rfl ?_
  refine AOR.nil ?_
  refine AWR.ret (FPost.mk (.inr rfl) ⟨⟨_, _, _, rfl, rfl, rfl, ag95, sz95, _, (infS inf95)⟩, trivial⟩ trivial rfl ⟨⟨PermP.sc, PermP.sc, trivial⟩, trivial⟩ trivial)
set_option maxRecDepth 100000 in
set_option maxHeartbeats 8000000 in
theorem w_laws_toPlaceS (a : (List TPlace)) : ∀ t, m_laws_toPlaceS a = some t → Fw.Fn Try.prog 110 [(.c (.pv (.xs false (a.map encTPlace))))] [] (.s (.c (.loc 0 0 t.length))) [(0, (.prow 95 (t.map encTPlace)))] [] [0] := by
  refine Fw.Fn.of (P := Try.prog) (X := [0]) (pn := []) (rs := (fun (t : (List TPlace)) => [(.c (.loc 0 0 t.length))])) (dfs := (fun (t : (List TPlace)) => [(0, (.prow 95 (t.map encTPlace)))])) Try.func110 rfl Try.ntmps110 (Nat.le_of_ble_eq_true rfl) rfl ?_
  intro w0 U0 R0 g0
  unfold m_laws_toPlaceS
  refine AWR.seq ?_
  refine AWR.region ?_
  refine AOR.pure (LT.assign (v := (.s (.c (sC nilV)))) rfl) ⟨⟨rfl, rfl⟩, trivial⟩ trivial rfl rfl ?_
  refine AOR.nil ?_
  refine AWR.seq ?_
  refine AWR.region ?_
  refine AOR.pure (LT.move (v := (.s (.c (.pv (.xs false (a.map encTPlace)))))) rfl) ⟨rfl, trivial⟩ trivial rfl rfl ?_
  refine AOR.pure (LT.tlenRO rfl und51) ⟨rfl, trivial⟩ trivial rfl rfl ?_
  refine AOR.bind fun u1 hu1 => ?_
  refine AOR.step (LT.tmake (n := 21) (enc := encTPlace) (zc := [(iC 0), (iC 0)]) (TPlace.mk (0 : Int) (0 : Int)) rfl und27 ti95 rfl rfl rfl (by decide) (by decide) (lenOk_le hu1) rfl) ⟨rfl, rfl, trivial⟩ trivial rfl rfl ?_
  refine AOR.pure (LT.assign (v := (.s (.c (.loc 21 0 (List.replicate (a.length : Int).toNat (TPlace.mk (0 : Int) (0 : Int))).length)))) rfl) ⟨rfl, trivial⟩ trivial rfl rfl ?_
  refine AOR.nil ?_
  refine AWR.seq ?_
  refine AWR.seq ?_
  refine AWR.region ?_
  refine AOR.pure (LT.assign (v := (.s (.c (iC 0)))) rfl) ⟨⟨rfl, rfl⟩, trivial⟩ trivial rfl rfl ?_
  refine AOR.nil ?_
  refine AWR.block ?_
  refine AWR.loop1 (id := 0) (m_laws_toPlaceS_L1 a) (fun s2 => ([(0, (.s (.c (.pv (.xs false (a.map encTPlace)))))), (3, (.s (.c (.loc 21 0 s2.2.length)))), (4, (.s (.c (iC s2.1))))], [(21, (.prow 95 (s2.2.map encTPlace)))])) (fun b11 => ([(3, (.s (.c (.loc 21 0 b11.length))))], [(21, (.prow 95 (b11.map encTPlace)))])) ?_ (Ent.of ⟨rfl, rfl, rfl, trivial⟩ ⟨rfl, trivial⟩) rfl (fun b11 _ => ?_)
  · intro s2
    unfold m_laws_toPlaceS_L1
    refine AWR.seq ?_
    refine AWR.seq ?_
    refine AWR.region ?_
    refine AOR.pure (LT.move (v := (.s (.c (iC s2.1)))) rfl) ⟨rfl, trivial⟩ trivial rfl rfl ?_
    refine AOR.pure (LT.move (v := (.s (.c (.pv (.xs false (a.map encTPlace)))))) rfl) ⟨rfl, trivial⟩ trivial rfl rfl ?_
    refine AOR.pure (LT.tlenRO rfl und51) ⟨rfl, trivial⟩ trivial rfl rfl ?_
    refine AOR.pure (LT.lss rfl) ⟨rfl, rfl, trivial⟩ trivial rfl rfl ?_
    refine AOR.nil ?_
    refine AWR.cond rfl (fun hc12 => ?_) (fun hc12 => ?_)
    · refine AWR.skip ?_
      refine AWR.seq ?_
      refine AWR.block ?_
      refine AWR.region ?_
      refine AOR.pure (LT.move (v := (.s (.c (.loc 21 0 s2.2.length)))) rfl) ⟨rfl, trivial⟩ trivial rfl rfl ?_
      refine AOR.pure (LT.move (v := (.s (.c (iC s2.1)))) rfl) ⟨rfl, trivial⟩ trivial rfl rfl ?_
      refine AOR.pure (LT.move (v := (.s (.c (.pv (.xs false (a.map encTPlace)))))) rfl) ⟨rfl, trivial⟩ trivial rfl rfl ?_
      refine AOR.pure (LT.move (v := (.s (.c (iC s2.1)))) rfl) ⟨rfl, trivial⟩ trivial rfl rfl ?_
      refine AOR.bind fun x13 hx13 => ?_
      refine AOR.pure (LT.tindexRO (enc := encTPlace) rfl el51 hx13 sz137) ⟨rfl, rfl, trivial⟩ trivial rfl rfl ?_
      refine AOR.pure (LT.loadPxN rfl ag137 (infS inf137) (by exact sz137.symm)) ⟨rfl, trivial⟩ trivial rfl rfl ?_
      refine AOR.bind fun r14 hr14 => ?_
      refine AOR.pure (@LT.callF Try.prog _ _ 167 _ _ [(.agg [(iC x13.X), (iC x13.Y)])] _ _ [] _ _ _ _ (w_laws_toPlace x13 r14 hr14) rfl cb167 (.cons (.agg (.cons (.same rfl) (.cons (.same rfl) .nil))) .nil) rfl rfl trivial) ⟨rfl, rfl, trivial⟩ trivial rfl rfl ?_
      refine AOR.bind fun x15 hx15 => ?_
      refine AOR.pure (LT.tindexLoc rfl rfl el27 hx15) ⟨rfl, rfl, trivial⟩ ⟨rfl, trivial⟩ rfl rfl ?_
      refine AOR.step (LT.tstore (k := 0) (v := (.agg [(iC r14.X), (iC r14.Y)])) (b' := r14) rfl rfl (infS inf95) sz95 (by exact rfl) hx15 (by exact rfl) (by exact Nat.le_of_ble_eq_true rfl) (by exact rfl)) ⟨rfl, rfl, trivial⟩ ⟨rfl, trivial⟩ rfl rfl ?_
      refine AOR.nil ?_
      refine AWR.blk ?_
      refine AWR.ent (Ent.of (σ' := [(0, (.s (.c (.pv (.xs false (a.map encTPlace)))))), (3, (.s (.c (.loc 21 0 s2.2.length)))), (4, (.s (.c (iC s2.1))))]) (m' := [(21, (.prow 95 ((s2.2.set s2.1.toNat r14).map encTPlace)))]) ⟨rfl, rfl, rfl, trivial⟩ ⟨rfl, trivial⟩) ?_
      refine AWR.region ?_
      refine AOR.pure (LT.move (v := (.s (.c (iC s2.1)))) rfl) ⟨rfl, trivial⟩ trivial rfl rfl ?_
      refine AOR.pure (LT.add rfl) ⟨rfl, ⟨rfl, rfl⟩, trivial⟩ trivial rfl rfl ?_
      refine AOR.pure (LT.assign (v := (.s (.c (iC (w64 (s2.1 + 1)))))) rfl) ⟨rfl, trivial⟩ trivial rfl rfl ?_
      refine AOR.nil ?_
      refine AWR.nil ⟨rfl, Ent.of ⟨rfl, (congrArg (fun l1 => (some (AV.s (.c (.loc 21 0 l1))) : Option AV)) (show s2.2.length = (s2.2.set s2.1.toNat r14).length by simp only [List.length_set])), rfl, trivial⟩ ⟨rfl, trivial⟩⟩
    · refine AWR.exit_end rfl ⟨rfl, Ent.of ⟨rfl, trivial⟩ ⟨rfl, trivial⟩⟩
  · refine AWR.seq ?_
    refine AWR.region ?_
    refine AOR.pure (LT.move (v := (.s (.c (.loc 21 0 b11.length)))) rfl) ⟨rfl, trivial⟩ trivial rfl rfl ?_
    refine AOR.pure (LT.assign (v := (.s (.c (.loc 21 0 b11.length)))) rfl) ⟨rfl, trivial⟩ trivial rfl rfl ?_
    refine AOR.nil ?_
    refine AWR.ent (Ent.of (σ' := [(2, (.s (.c (.loc 21 0 b11.length))))]) (m' := [(21, (.prow 95 (b11.map encTPlace)))]) ⟨rfl, trivial⟩ ⟨rfl, trivial⟩) ?_
    refine AWR.ent (Ent.mv 21 0 rfl rfl) ?_
    refine AWR.ent (Ent.of (σ' := [(2, (.s (.c (.loc 0 0 b11.length))))]) (m' := [(0, (.prow 95 (b11.map encTPlace)))]) ⟨rfl, trivial⟩ ⟨rfl, trivial⟩) ?_
    refine AWR.ret (FPost.mk (.inr rfl) ⟨rfl, trivial⟩ ⟨rfl, trivial⟩ rfl ⟨trivial, trivial⟩ ⟨PermO.prow' perm_encTPlace, trivial⟩)
set_option maxRecDepth 100000 in
set_option maxHeartbeats 8000000 in
theorem w_laws_toFramework (a : TFramework) : ∀ t, m_laws_toFramework a = some t → Fw.Fn Try.prog 44 [(.agg [(iC a.Graph.Points), (.pv (.xs false (a.Graph.Bars.map encTBar))), (.pv (.xs false (a.Places.map encTPlace)))])] [] (.s (.agg [(iC t.Graph.Points), (.loc 0 0 t.Graph.Bars.length), (.loc 1 0 t.Places.length)])) [(0, (.prow 79 (t.Graph.Bars.map encTBar))), (1, (.prow 95 (t.Places.map encTPlace)))] [] [0, 1] := by
  refine Fw.Fn.of (P := Try.prog) (X := [0, 1]) (pn := []) (rs := (fun (t : TFramework) => [(.agg [(iC t.Graph.Points), (.loc 0 0 t.Graph.Bars.length), (.loc 1 0 t.Places.length)])])) (dfs := (fun (t : TFramework) => [(0, (.prow 79 (t.Graph.Bars.map encTBar))), (1, (.prow 95 (t.Places.map encTPlace)))])) Try.func44 rfl Try.ntmps44 (Nat.le_of_ble_eq_true rfl) rfl ?_
  intro w0 U0 R0 g0
  unfold m_laws_toFramework
  refine AWR.seq ?_
  refine AWR.region ?_
  refine AOR.step (LT.box (n := 21) (v := (.agg [(iC a.Graph.Points), (.pv (.xs false (a.Graph.Bars.map encTBar))), (.pv (.xs false (a.Places.map encTPlace)))])) rfl sz53 (by exact rfl)) ⟨rfl, trivial⟩ trivial rfl rfl ?_
  refine AOR.step (LT.alloc (n := 22) (cells := [(iC 0), (sC nilV), (sC nilV)]) rfl ti29 rfl rfl rfl) trivial trivial rfl rfl ?_
  refine AOR.nil ?_
  refine AWR.seq ?_
  refine AWR.region ?_
  refine AOR.step (LT.alloc (n := 23) (cells := [(iC 0), (sC nilV), (sC nilV)]) rfl ti29 rfl rfl rfl) trivial trivial rfl rfl ?_
  refine AOR.nil ?_
  refine AWR.seq ?_
  refine AWR.region ?_
  refine AOR.pure (LT.fieldPl rfl fo53_0) ⟨rfl, trivial⟩ trivial rfl rfl ?_
  refine AOR.pure (LT.bloadN (out := [(iC a.Graph.Points), (.pv (.xs false (a.Graph.Bars.map encTBar)))]) rfl ag50 (infS inf50) sz50 (by exact rfl) (by exact rfl)) ⟨rfl, trivial⟩ ⟨rfl, trivial⟩ rfl rfl ?_
  refine AOR.bind fun r1 hr1 => ?_
  refine AOR.step (@LT.callF Try.prog _ _ 55 _ _ [(.agg [(iC a.Graph.Points), (.pv (.xs false (a.Graph.Bars.map encTBar)))])] _ _ [] _ _ _ _ ((show Fw.Fn Try.prog 55 [(.agg [(iC a.Graph.Points), (.pv (.xs false (a.Graph.Bars.map encTBar)))])] [] (.s (.agg [(iC r1.Points), (.loc 25 0 r1.Bars.length)])) [(25, (.prow 79 (r1.Bars.map encTBar)))] [] [25] from Fw.Fn.ren [(0, 25)] (w_laws_toGraph a.Graph r1 hr1) rfl)) rfl cb55 (.cons (.agg (.cons (.same rfl) (.cons (.same rfl) .nil))) .nil) rfl rfl trivial) ⟨rfl, rfl, trivial⟩ trivial rfl rfl ?_
  refine AOR.pure (LT.fieldPl rfl fo29_0) ⟨rfl, trivial⟩ trivial rfl rfl ?_
  refine AOR.step (LT.bstore (v := (.agg [(iC r1.Points), (.loc 25 0 r1.Bars.length)])) (out := [(iC r1.Points), (.loc 25 0 r1.Bars.length), (sC nilV)]) rfl rfl (infS inf26) sz26 (by exact rfl) (by exact Nat.le_of_ble_eq_true rfl) (by exact rfl)) ⟨rfl, rfl, trivial⟩ ⟨rfl, trivial⟩ rfl rfl ?_
  refine AOR.nil ?_
  refine AWR.seq ?_
  refine AWR.ent (Ent.of (σ' := [(1, (.s (.c (.pl 21 0)))), (2, (.s (.c (.pl 22 0)))), (3, (.s (.c (.pl 23 0))))]) (m' := [(21, (.row 53 [[(iC a.Graph.Points), (.pv (.xs false (a.Graph.Bars.map encTBar))), (.pv (.xs false (a.Places.map encTPlace)))]])), (22, (.row 29 [[(iC 0), (sC nilV), (sC nilV)]])), (23, (.row 29 [[(iC r1.Points), (.loc 25 0 r1.Bars.length), (sC nilV)]])), (25, (.prow 79 (r1.Bars.map encTBar)))]) ⟨rfl, rfl, rfl, trivial⟩ ⟨rfl, rfl, rfl, rfl, trivial⟩) ?_
  refine AWR.region ?_
  refine AOR.pure (LT.fieldPl rfl fo53_1) ⟨rfl, trivial⟩ trivial rfl rfl ?_
  refine AOR.pure (LT.bload1 (c := (.pv (.xs false (a.Places.map encTPlace)))) rfl ag51 (by exact rfl)) ⟨rfl, trivial⟩ ⟨rfl, trivial⟩ rfl rfl ?_
  refine AOR.bind fun r2 hr2 => ?_
  refine AOR.step (@LT.callF Try.prog _ _ 110 _ _ [(.c (.pv (.xs false (a.Places.map encTPlace))))] _ _ [] _ _ _ _ ((show Fw.Fn Try.prog 110 [(.c (.pv (.xs false (a.Places.map encTPlace))))] [] (.s (.c (.loc 27 0 r2.length))) [(27, (.prow 95 (r2.map encTPlace)))] [] [27] from Fw.Fn.ren [(0, 27)] (w_laws_toPlaceS a.Places r2 hr2) rfl)) rfl cb110 (.cons (.c (.same rfl)) .nil) rfl rfl trivial) ⟨rfl, rfl, trivial⟩ trivial rfl rfl ?_
  refine AOR.pure (LT.fieldPl rfl fo29_1) ⟨rfl, trivial⟩ trivial rfl rfl ?_
  refine AOR.step (LT.bstore (v := (.c (.loc 27 0 r2.length))) (out := [(iC r1.Points), (.loc 25 0 r1.Bars.length), (.loc 27 0 r2.length)]) rfl rfl (infS inf27) sz27 (by exact rfl) (by exact Nat.le_of_ble_eq_true rfl) (by exact rfl)) ⟨rfl, rfl, trivial⟩ ⟨rfl, trivial⟩ rfl rfl ?_
  refine AOR.nil ?_
  refine AWR.seq ?_
  refine AWR.region ?_
  refine AOR.pure (LT.bloadN (out := [(iC r1.Points), (.loc 25 0 r1.Bars.length), (.loc 27 0 r2.length)]) rfl ag29 (infS inf29) sz29 (by exact rfl) (by exact rfl)) ⟨rfl, trivial⟩ ⟨rfl, trivial⟩ rfl rfl ?_
  refine AOR.step (LT.bstore (v := (.agg [(iC r1.Points), (.loc 25 0 r1.Bars.length), (.loc 27 0 r2.length)])) (out := [(iC r1.Points), (.loc 25 0 r1.Bars.length), (.loc 27 0 r2.length)]) rfl rfl (infS inf29) sz29 (by exact rfl) (by exact Nat.le_of_ble_eq_true rfl) (by exact rfl)) ⟨rfl, rfl, trivial⟩ ⟨rfl, trivial⟩ rfl rfl ?_
  refine AOR.nil ?_
  refine AWR.ent (Ent.of (σ' := [(2, (.s (.c (.pl 22 0))))]) (m' := [(22, (.row 29 [[(iC r1.Points), (.loc 25 0 r1.Bars.length), (.loc 27 0 r2.length)]])), (25, (.prow 79 (r1.Bars.map encTBar))), (27, (.prow 95 (r2.map encTPlace)))]) ⟨rfl, trivial⟩ ⟨rfl, rfl, rfl, trivial⟩) ?_
  refine AWR.ent (Ent.mv 25 0 rfl rfl) ?_
  refine AWR.ent (Ent.mv 27 1 rfl rfl) ?_
  refine AWR.ent (Ent.of (σ' := [(2, (.s (.c (.pl 22 0))))]) (m' := [(0, (.prow 79 (r1.Bars.map encTBar))), (1, (.prow 95 (r2.map encTPlace))), (22, (.row 29 [[(iC r1.Points), (.loc 0 0 r1.Bars.length), (.loc 1 0 r2.length)]]))]) ⟨rfl, trivial⟩ ⟨rfl, rfl, rfl, trivial⟩) ?_
  refine AWR.ret (FPost.mk (.inr rfl) ⟨⟨_, _, _, rfl, rfl, rfl, ag29, sz29, _, (infS inf29)⟩, trivial⟩ ⟨rfl, rfl, trivial⟩ rfl ⟨⟨PermP.sc, trivial, trivial, trivial⟩, trivial⟩ ⟨PermO.prow' perm_encTBar, PermO.prow' perm_encTPlace, trivial⟩)
end Go.Proofs.Ytoeigmhhmadmbaa
end
section
set_option linter.unusedVariables false
set_option linter.unusedSimpArgs false
set_option linter.unnecessarySimpa false
open Go Go.Fw
namespace Go.Proofs.Ytoeigmhhmadmbaa
set_option maxRecDepth 100000 in
set_option maxHeartbeats 8000000 in
theorem w_spec_FrameworkRank (f : TFramework) : ∀ t, m_spec_FrameworkRank f = some t → Fw.Fn Try.prog 76 [(.agg [(iC f.Graph.Points), (.pv (.xs false (f.Graph.Bars.map encTBar))), (.pv (.xs false (f.Places.map encTPlace)))])] [] (.s (.c (iC t))) [] [] [] := by
  refine Fw.Fn.of (P := Try.prog) (X := []) (pn := []) (rs := (fun (t : Int) => [(.c (iC t))])) (dfs := (fun (t : Int) => [])) Try.func76 rfl Try.ntmps76 (Nat.le_of_ble_eq_true rfl) rfl ?_
  intro w0 U0 R0 g0
  unfold m_spec_FrameworkRank
  refine AWR.seq ?_
  refine AWR.region ?_
  refine AOR.step (LT.box (n := 21) (v := (.agg [(iC f.Graph.Points), (.pv (.xs false (f.Graph.Bars.map encTBar))), (.pv (.xs false (f.Places.map encTPlace)))])) rfl sz29 (by exact rfl)) ⟨rfl, trivial⟩ trivial rfl rfl ?_
  refine AOR.pure (LT.assign (v := (.s (.c (iC 0)))) rfl) ⟨⟨rfl, rfl⟩, trivial⟩ trivial rfl rfl ?_
  refine AOR.nil ?_
  refine AWR.seq ?_
  refine AWR.seq ?_
  refine AWR.region ?_
  refine AOR.pure (LT.bloadN (out := [(iC f.Graph.Points), (.pv (.xs false (f.Graph.Bars.map encTBar))), (.pv (.xs false (f.Places.map encTPlace)))]) rfl ag29 (infS inf29) sz29 (by exact rfl) (by exact rfl)) ⟨rfl, trivial⟩ ⟨rfl, trivial⟩ rfl rfl ?_
  refine AOR.bind fun r1 hr1 => ?_
  refine AOR.pure (@LT.callF Try.prog _ _ 18 _ _ [(.agg [(iC f.Graph.Points), (.pv (.xs false (f.Graph.Bars.map encTBar))), (.pv (.xs false (f.Places.map encTPlace)))])] _ _ [] _ _ _ _ (w_spec_IsFramework f r1 hr1) rfl cb18 (.cons (.agg (.cons (.same rfl) (.cons (.same rfl) (.cons (.same rfl) .nil)))) .nil) rfl rfl trivial) ⟨rfl, rfl, trivial⟩ trivial rfl rfl ?_
  refine AOR.pure (LT.not rfl) ⟨rfl, trivial⟩ trivial rfl rfl ?_
  refine AOR.nil ?_
  refine AWR.cond rfl (fun hc2 => ?_) (fun hc2 => ?_)
  · refine AWR.seq ?_
    refine AWR.region ?_
    refine AOR.pure (LT.assign (v := (.s (.c (iC (-1))))) rfl) ⟨⟨rfl, rfl⟩, trivial⟩ trivial rfl rfl ?_
    refine AOR.nil ?_
    refine AWR.ret (FPost.mk (.inr rfl) ⟨rfl, trivial⟩ trivial rfl ⟨PermP.sc, trivial⟩ trivial)
  · refine AWR.skip ?_
    refine AWR.seq ?_
    refine AWR.region ?_
    refine AOR.pure (LT.bloadN (out := [(iC f.Graph.Points), (.pv (.xs false (f.Graph.Bars.map encTBar))), (.pv (.xs false (f.Places.map encTPlace)))]) rfl ag29 (infS inf29) sz29 (by exact rfl) (by exact rfl)) ⟨rfl, trivial⟩ ⟨rfl, trivial⟩ rfl rfl ?_
    refine AOR.bind fun r3 hr3 => ?_
    refine AOR.step (@LT.callF Try.prog _ _ 64 _ _ [(.agg [(iC f.Graph.Points), (.pv (.xs false (f.Graph.Bars.map encTBar))), (.pv (.xs false (f.Places.map encTPlace)))])] _ _ [] _ _ _ _ ((show Fw.Fn Try.prog 64 [(.agg [(iC f.Graph.Points), (.pv (.xs false (f.Graph.Bars.map encTBar))), (.pv (.xs false (f.Places.map encTPlace)))])] [] (.s (.c (.loc 24 0 r3.length))) [(24, (.prow 37 (r3.map (encLInt true))))] [] [24] from Fw.Fn.ren [(0, 24)] (w_spec_RigidityMatrix f r3 hr3) rfl)) rfl cb64 (.cons (.agg (.cons (.same rfl) (.cons (.same rfl) (.cons (.same rfl) .nil)))) .nil) rfl rfl trivial) ⟨rfl, rfl, trivial⟩ trivial rfl rfl ?_
    refine AOR.bind fun r4 hr4 => ?_
    refine AOR.step (@LT.callF Try.prog _ _ 133 _ _ [(.c (.loc 24 0 r3.length))] _ _ [(24, (.prow 37 (r3.map (encLInt true))))] _ _ _ _ ((show Fw.Fn Try.prog 133 [(.c (.pv (.xs false (r3.map (encLInt false)))))] [] (.tup [(.c (.loc 26 0 r4.1.length)), (.c (.loc 27 0 r4.2.length))]) [(26, (.prow 37 (r4.1.map (encLInt true)))), (27, (.prow 3 (r4.2.map encInt)))] [] [26, 27] from Fw.Fn.ren [(0, 26), (1, 27)] (w_spec_l9Reduced r3 r4 hr4) rfl)) rfl cb133 (.cons (.c (.weak (.tloc (enc := encLInt true) rfl rfl) (QW.xsm qw_encLInt (fun h => h) _))) .nil) rfl rfl trivial) ⟨rfl, rfl, trivial⟩ ⟨rfl, trivial⟩ rfl rfl ?_
    refine AOR.pure (LT.move (v := (.tup [(.c (.loc 26 0 r4.1.length)), (.c (.loc 27 0 r4.2.length))])) rfl) ⟨rfl, trivial⟩ trivial rfl rfl ?_
    refine AOR.pure (LT.extract (v := (.c (.loc 26 0 r4.1.length))) rfl (by exact rfl)) ⟨rfl, trivial⟩ trivial rfl rfl ?_
    refine AOR.pure (LT.extract (v := (.c (.loc 27 0 r4.2.length))) rfl (by exact rfl)) ⟨rfl, trivial⟩ trivial rfl rfl ?_
    refine AOR.pure (LT.assign (v := (.s (.c (.loc 26 0 r4.1.length)))) rfl) ⟨rfl, trivial⟩ trivial rfl rfl ?_
    refine AOR.pure (LT.assign (v := (.s (.c (.loc 27 0 r4.2.length)))) rfl) ⟨rfl, trivial⟩ trivial rfl rfl ?_
    refine AOR.nil ?_
    refine AWR.seq ?_
    refine AWR.ent (Ent.of (σ' := [(4, (.s (.c (.loc 27 0 r4.2.length))))]) (m' := [(27, (.prow 3 (r4.2.map encInt)))]) ⟨rfl, trivial⟩ ⟨rfl, trivial⟩) ?_
    refine AWR.region ?_
    refine AOR.pure (LT.move (v := (.s (.c (.loc 27 0 r4.2.length)))) rfl) ⟨rfl, trivial⟩ trivial rfl rfl ?_
    refine AOR.pure (LT.lenLoc rfl und37) ⟨rfl, trivial⟩ trivial rfl rfl ?_
    refine AOR.pure (LT.assign (v := (.s (.c (iC (r4.2.length : Int))))) rfl) ⟨rfl, trivial⟩ trivial rfl rfl ?_
    refine AOR.nil ?_
    refine AWR.ret (FPost.mk (.inr rfl) ⟨rfl, trivial⟩ trivial rfl ⟨PermP.sc, trivial⟩ trivial)
set_option maxRecDepth 100000 in
set_option maxHeartbeats 8000000 in
theorem w_impl_rank (m : (List (List Int))) (columns : Int) : ∀ t, m_impl_rank m columns = some t → Fw.Fn Try.prog 132 [(.c (.pv (.xs false (m.map (encLInt false))))), (.c (iC columns))] [] (.s (.c (iC t))) [] [] [] := by
  refine Fw.Fn.of (P := Try.prog) (X := []) (pn := []) (rs := (fun (t : Int) => [(.c (iC t))])) (dfs := (fun (t : Int) => [])) Try.func132 rfl Try.ntmps132 (Nat.le_of_ble_eq_true rfl) rfl ?_
  intro w0 U0 R0 g0
  unfold m_impl_rank
  refine AWR.seq ?_
  refine AWR.region ?_
  refine AOR.pure (LT.assign (v := (.s (.c (iC 0)))) rfl) ⟨⟨rfl, rfl⟩, trivial⟩ trivial rfl rfl ?_
  refine AOR.nil ?_
  refine AWR.seq ?_
  refine AWR.region ?_
  refine AOR.pure (LT.move (v := (.s (.c (.pv (.xs false (m.map (encLInt false))))))) rfl) ⟨rfl, trivial⟩ trivial rfl rfl ?_
  refine AOR.pure (LT.move (v := (.s (.c (iC columns)))) rfl) ⟨rfl, trivial⟩ trivial rfl rfl ?_
  refine AOR.bind fun r1 hr1 => ?_
  refine AOR.step (@LT.callF Try.prog _ _ 156 _ _ [(.c (.pv (.xs false (m.map (encLInt false))))), (.c (iC columns))] _ _ [] _ _ _ _ ((show Fw.Fn Try.prog 156 [(.c (.pv (.xs false (m.map (encLInt false))))), (.c (iC columns))] [] (.tup [(.c (.loc 22 0 r1.1.length)), (.c (.loc 24 0 r1.2.1.length)), (.c (iC r1.2.2))]) [(22, (.trow 37 23 (lensOf r1.1))), (23, (.pool 3 (rowsOf encInt r1.1))), (24, (.prow 3 (r1.2.1.map encInt)))] [] [22, 23, 24] from Fw.Fn.ren [(0, 22), (1, 23), (2, 24)] (w_impl_reduced m columns r1 hr1) rfl)) rfl cb156 (.cons (.c (.same rfl)) (.cons (.c (.same rfl)) .nil)) rfl rfl trivial) ⟨rfl, rfl, rfl, trivial⟩ trivial rfl rfl ?_
  refine AOR.pure (LT.move (v := (.tup [(.c (.loc 22 0 r1.1.length)), (.c (.loc 24 0 r1.2.1.length)), (.c (iC r1.2.2))])) rfl) ⟨rfl, trivial⟩ trivial rfl rfl ?_
  refine AOR.pure (LT.extract (v := (.c (.loc 22 0 r1.1.length))) rfl (by exact rfl)) ⟨rfl, trivial⟩ trivial rfl rfl ?_
  refine AOR.pure (LT.extract (v := (.c (.loc 24 0 r1.2.1.length))) rfl (by exact rfl)) ⟨rfl, trivial⟩ trivial rfl rfl ?_
  refine AOR.pure (LT.extract (v := (.c (iC r1.2.2))) rfl (by exact rfl)) ⟨rfl, trivial⟩ trivial rfl rfl ?_
  refine AOR.pure (LT.assign (v := (.s (.c (.loc 22 0 r1.1.length)))) rfl) ⟨rfl, trivial⟩ trivial rfl rfl ?_
  refine AOR.pure (LT.assign (v := (.s (.c (.loc 24 0 r1.2.1.length)))) rfl) ⟨rfl, trivial⟩ trivial rfl rfl ?_
  refine AOR.pure (LT.assign (v := (.s (.c (iC r1.2.2)))) rfl) ⟨rfl, trivial⟩ trivial rfl rfl ?_
  refine AOR.nil ?_
  refine AWR.seq ?_
  refine AWR.ent (Ent.of (σ' := [(6, (.s (.c (.loc 24 0 r1.2.1.length))))]) (m' := [(24, (.prow 3 (r1.2.1.map encInt)))]) ⟨rfl, trivial⟩ ⟨rfl, trivial⟩) ?_
  refine AWR.region ?_
  refine AOR.pure (LT.move (v := (.s (.c (.loc 24 0 r1.2.1.length)))) rfl) ⟨rfl, trivial⟩ trivial rfl rfl ?_
  refine AOR.pure (LT.lenLoc rfl und37) ⟨rfl, trivial⟩ trivial rfl rfl ?_
  refine AOR.pure (LT.assign (v := (.s (.c (iC (r1.2.1.length : Int))))) rfl) ⟨rfl, trivial⟩ trivial rfl rfl ?_
  refine AOR.nil ?_
  refine AWR.ret (FPost.mk (.inr rfl) ⟨rfl, trivial⟩ trivial rfl ⟨PermP.sc, trivial⟩ trivial)
set_option maxRecDepth 100000 in
set_option maxHeartbeats 8000000 in
theorem w_impl_FrameworkRank (f : TFramework) : ∀ t, m_impl_FrameworkRank f = some t → Fw.Fn Try.prog 75 [(.agg [(iC f.Graph.Points), (.pv (.xs false (f.Graph.Bars.map encTBar))), (.pv (.xs false (f.Places.map encTPlace)))])] [] (.s (.c (iC t))) [] [] [] := by
  refine Fw.Fn.of (P := Try.prog) (X := []) (pn := []) (rs := (fun (t : Int) => [(.c (iC t))])) (dfs := (fun (t : Int) => [])) Try.func75 rfl Try.ntmps75 (Nat.le_of_ble_eq_true rfl) rfl ?_
  intro w0 U0 R0 g0
  unfold m_impl_FrameworkRank
  refine AWR.seq ?_
  refine AWR.region ?_
  refine AOR.step (LT.box (n := 21) (v := (.agg [(iC f.Graph.Points), (.pv (.xs false (f.Graph.Bars.map encTBar))), (.pv (.xs false (f.Places.map encTPlace)))])) rfl sz29 (by exact rfl)) ⟨rfl, trivial⟩ trivial rfl rfl ?_
  refine AOR.pure (LT.assign (v := (.s (.c (iC 0)))) rfl) ⟨⟨rfl, rfl⟩, trivial⟩ trivial rfl rfl ?_
  refine AOR.nil ?_
  refine AWR.seq ?_
  refine AWR.seq ?_
  refine AWR.region ?_
  refine AOR.pure (LT.bloadN (out := [(iC f.Graph.Points), (.pv (.xs false (f.Graph.Bars.map encTBar))), (.pv (.xs false (f.Places.map encTPlace)))]) rfl ag29 (infS inf29) sz29 (by exact rfl) (by exact rfl)) ⟨rfl, trivial⟩ ⟨rfl, trivial⟩ rfl rfl ?_
  refine AOR.bind fun r1 hr1 => ?_
  refine AOR.pure (@LT.callF Try.prog _ _ 86 _ _ [(.agg [(iC f.Graph.Points), (.pv (.xs false (f.Graph.Bars.map encTBar))), (.pv (.xs false (f.Places.map encTPlace)))])] _ _ [] _ _ _ _ (w_impl_IsFramework f r1 hr1) rfl cb86 (.cons (.agg (.cons (.same rfl) (.cons (.same rfl) (.cons (.same rfl) .nil)))) .nil) rfl rfl trivial) ⟨rfl, rfl, trivial⟩ trivial rfl rfl ?_
  refine AOR.pure (LT.not rfl) ⟨rfl, trivial⟩ trivial rfl rfl ?_
  refine AOR.nil ?_
  refine AWR.cond rfl (fun hc2 => ?_) (fun hc2 => ?_)
  · refine AWR.seq ?_
    refine AWR.region ?_
    refine AOR.pure (LT.assign (v := (.s (.c (iC (-1))))) rfl) ⟨⟨rfl, rfl⟩, trivial⟩ trivial rfl rfl ?_
    refine AOR.nil ?_
    refine AWR.ret (FPost.mk (.inr rfl) ⟨rfl, trivial⟩ trivial rfl ⟨PermP.sc, trivial⟩ trivial)
  · refine AWR.skip ?_
    refine AWR.seq ?_
    refine AWR.draw mixed ?_
    refine AOD.pure (LT.bloadN (out := [(iC f.Graph.Points), (.pv (.xs false (f.Graph.Bars.map encTBar))), (.pv (.xs false (f.Places.map encTPlace)))]) rfl ag29 (infS inf29) sz29 (by exact rfl) (by exact rfl)) ⟨rfl, trivial⟩ ⟨rfl, trivial⟩ rfl rfl ?_
    refine AOD.bind fun r3 hr3 => ?_
    refine AOD.step (@LT.callF Try.prog _ _ 62 _ _ [(.agg [(iC f.Graph.Points), (.pv (.xs false (f.Graph.Bars.map encTBar))), (.pv (.xs false (f.Places.map encTPlace)))])] _ _ [] _ _ _ _ ((show Fw.Fn Try.prog 62 [(.agg [(iC f.Graph.Points), (.pv (.xs false (f.Graph.Bars.map encTBar))), (.pv (.xs false (f.Places.map encTPlace)))])] [] (.s (.c (.loc 24 0 r3.length))) [(24, (.trow 37 25 (lensOf r3))), (25, (.pool 3 (rowsOf encInt r3)))] [] [24, 25] from Fw.Fn.ren [(0, 24), (1, 25)] (w_impl_RigidityMatrix f r3 hr3) rfl)) rfl cb62 (.cons (.agg (.cons (.same rfl) (.cons (.same rfl) (.cons (.same rfl) .nil)))) .nil) rfl rfl trivial) ⟨rfl, rfl, trivial⟩ trivial rfl rfl ?_
    refine AOD.pure (LT.fieldPl rfl fo29_0) ⟨rfl, trivial⟩ trivial rfl rfl ?_
    refine AOD.pure (LT.fieldPl rfl fo26_0) ⟨rfl, trivial⟩ trivial rfl rfl ?_
    refine AOD.pure (LT.bload1 (c := (iC f.Graph.Points)) rfl ag3 (by exact rfl)) ⟨rfl, trivial⟩ ⟨rfl, trivial⟩ rfl rfl ?_
    refine AOD.pure (LT.mul rfl) ⟨⟨rfl, rfl⟩, rfl, trivial⟩ trivial rfl rfl ?_
    refine AOD.bind fun r4 hr4 => ?_
    refine AOD.pure (@LT.callF Try.prog _ _ 132 _ _ [(.c (.loc 24 0 r3.length)), (.c (iC (w64 (2 * f.Graph.Points))))] _ _ [(24, (.trow 37 25 (lensOf r3))), (25, (.pool 3 (rowsOf encInt r3)))] _ _ _ _ (w_impl_rank r3 (w64 (2 * f.Graph.Points)) r4 hr4) rfl cb132 (.cons (.c (.ttrow rfl rfl rfl (fun _ => rfl))) (.cons (.c (.same rfl)) .nil)) rfl rfl trivial) ⟨rfl, rfl, rfl, trivial⟩ ⟨rfl, rfl, trivial⟩ rfl rfl ?_
    refine AOD.pure (LT.assign (v := (.s (.c (iC r4)))) rfl) ⟨rfl, trivial⟩ trivial rfl rfl ?_
    refine AOD.nil (by kernel_rfl) ?_
    refine AWR.ret (FPost.mk (.inr rfl) ⟨rfl, trivial⟩ trivial rfl ⟨PermP.sc, trivial⟩ trivial)
end Go.Proofs.Ytoeigmhhmadmbaa
end
section
set_option linter.unusedVariables false
set_option linter.unusedSimpArgs false
set_option linter.unnecessarySimpa false
open Go Go.Fw
namespace Go.Proofs.Ytoeigmhhmadmbaa
set_option maxRecDepth 100000 in
set_option maxHeartbeats 8000000 in
theorem w_spec_l4Other (b : TBar) (v : Int) : ∀ t, m_spec_l4Other b v = some t → Fw.Fn Try.prog 105 [(.agg [(iC b.A), (iC b.B)]), (.c (iC v))] [] (.s (.c (iC t))) [] [] [] := by
  refine Fw.Fn.of (P := Try.prog) (X := []) (pn := []) (rs := (fun (t : Int) => [(.c (iC t))])) (dfs := (fun (t : Int) => [])) Try.func105 rfl Try.ntmps105 (Nat.le_of_ble_eq_true rfl) rfl ?_
  intro w0 U0 R0 g0
  unfold m_spec_l4Other
  refine AWR.seq ?_
  refine AWR.region ?_
  refine AOR.step (LT.box (n := 21) (v := (.agg [(iC b.A), (iC b.B)])) rfl sz79 (by exact rfl)) ⟨rfl, trivial⟩ trivial rfl rfl ?_
  refine AOR.pure (LT.assign (v := (.s (.c (iC 0)))) rfl) ⟨⟨rfl, rfl⟩, trivial⟩ trivial rfl rfl ?_
  refine AOR.nil ?_
  refine AWR.seq ?_
  refine AWR.region ?_
  refine AOR.pure (LT.fieldPl rfl fo79_0) ⟨rfl, trivial⟩ trivial rfl rfl ?_
  refine AOR.pure (LT.bload1 (c := (iC b.A)) rfl ag3 (by exact rfl)) ⟨rfl, trivial⟩ ⟨rfl, trivial⟩ rfl rfl ?_
  refine AOR.pure (LT.fieldPl rfl fo79_1) ⟨rfl, trivial⟩ trivial rfl rfl ?_
  refine AOR.pure (LT.bload1 (c := (iC b.B)) rfl ag3 (by exact rfl)) ⟨rfl, trivial⟩ ⟨rfl, trivial⟩ rfl rfl ?_
  refine AOR.pure (LT.add rfl) ⟨rfl, rfl, trivial⟩ trivial rfl rfl ?_
  refine AOR.pure (LT.move (v := (.s (.c (iC v)))) rfl) ⟨rfl, trivial⟩ trivial rfl rfl ?_
  refine AOR.pure (LT.sub rfl) ⟨rfl, rfl, trivial⟩ trivial rfl rfl ?_
  refine AOR.pure (LT.assign (v := (.s (.c (iC (w64 ((w64 (b.A + b.B)) - v)))))) rfl) ⟨rfl, trivial⟩ trivial rfl rfl ?_
  refine AOR.nil ?_
  refine AWR.ret (FPost.mk (.inr rfl) ⟨rfl, trivial⟩ trivial rfl ⟨PermP.sc, trivial⟩ trivial)
set_option maxRecDepth 100000 in
set_option maxHeartbeats 8000000 in
theorem w_impl_Bar_other (x : TBar) (v : Int) : ∀ t, m_impl_Bar_other x v = some t → Fw.Fn Try.prog 102 [(.agg [(iC x.A), (iC x.B)]), (.c (iC v))] [] (.s (.c (iC t))) [] [] [] := by
  refine Fw.Fn.of (P := Try.prog) (X := []) (pn := []) (rs := (fun (t : Int) => [(.c (iC t))])) (dfs := (fun (t : Int) => [])) Try.func102 rfl Try.ntmps102 (Nat.le_of_ble_eq_true rfl) rfl ?_
  intro w0 U0 R0 g0
  unfold m_impl_Bar_other
  refine AWR.seq ?_
  refine AWR.region ?_
  refine AOR.step (LT.box (n := 21) (v := (.agg [(iC x.A), (iC x.B)])) rfl sz79 (by exact rfl)) ⟨rfl, trivial⟩ trivial rfl rfl ?_
  refine AOR.pure (LT.assign (v := (.s (.c (iC 0)))) rfl) ⟨⟨rfl, rfl⟩, trivial⟩ trivial rfl rfl ?_
  refine AOR.nil ?_
  refine AWR.seq ?_
  refine AWR.seq ?_
  refine AWR.region ?_
  refine AOR.pure (LT.fieldPl rfl fo79_0) ⟨rfl, trivial⟩ trivial rfl rfl ?_
  refine AOR.pure (LT.bload1 (c := (iC x.A)) rfl ag3 (by exact rfl)) ⟨rfl, trivial⟩ ⟨rfl, trivial⟩ rfl rfl ?_
  refine AOR.pure (LT.move (v := (.s (.c (iC v)))) rfl) ⟨rfl, trivial⟩ trivial rfl rfl ?_
  refine AOR.pure (LT.eql rfl) ⟨rfl, rfl, trivial⟩ trivial rfl rfl ?_
  refine AOR.nil ?_
  refine AWR.cond rfl (fun hc1 => ?_) (fun hc1 => ?_)
  · refine AWR.seq ?_
    refine AWR.region ?_
    refine AOR.pure (LT.fieldPl rfl fo79_1) ⟨rfl, trivial⟩ trivial rfl rfl ?_
    refine AOR.pure (LT.bload1 (c := (iC x.B)) rfl ag3 (by exact rfl)) ⟨rfl, trivial⟩ ⟨rfl, trivial⟩ rfl rfl ?_
    refine AOR.pure (LT.assign (v := (.s (.c (iC x.B)))) rfl) ⟨rfl, trivial⟩ trivial rfl rfl ?_
    refine AOR.nil ?_
    refine AWR.ret (FPost.mk (.inr rfl) ⟨rfl, trivial⟩ trivial rfl ⟨PermP.sc, trivial⟩ trivial)
  · refine AWR.skip ?_
    refine AWR.seq ?_
    refine AWR.region ?_
    refine AOR.pure (LT.fieldPl rfl fo79_0) ⟨rfl, trivial⟩ trivial rfl rfl ?_
    refine AOR.pure (LT.bload1 (c := (iC x.A)) rfl ag3 (by exact rfl)) ⟨rfl, trivial⟩ ⟨rfl, trivial⟩ rfl rfl ?_
    refine AOR.pure (LT.assign (v := (.s (.c (iC x.A)))) rfl) ⟨rfl, trivial⟩ trivial rfl rfl ?_
    refine AOR.nil ?_
    refine AWR.ret (FPost.mk (.inr rfl) ⟨rfl, trivial⟩ trivial rfl ⟨PermP.sc, trivial⟩ trivial)
end Go.Proofs.Ytoeigmhhmadmbaa
end
section
set_option linter.unusedVariables false
set_option linter.unusedSimpArgs false
set_option linter.unnecessarySimpa false
open Go Go.Fw
namespace Go.Proofs.Ytoeigmhhmadmbaa
set_option maxRecDepth 100000 in
set_option maxHeartbeats 8000000 in
theorem w_spec_NewPebbles (g : TGraph) (k : Int) : ∀ t, m_spec_NewPebbles g k = some t → Fw.Fn Try.prog 191 [(.agg [(iC g.Points), (.pv (.xs false (g.Bars.map encTBar)))]), (.c (iC k))] [] (resA [(.agg [(.loc 0 0 t.1.Free.length), (.loc 1 0 t.1.Tails.length), (.loc 2 0 t.1.Placed.length)]), (.c (bC t.2))]) [(0, (.prow 3 (t.1.Free.map encInt))), (1, (.prow 3 (t.1.Tails.map encInt))), (2, (.prow 3 (t.1.Placed.map encInt)))] [] [0, 1, 2] := by
  refine Fw.Fn.of (P := Try.prog) (X := [0, 1, 2]) (pn := []) (rs := (fun (t : (TPebbles × Bool)) => [(.agg [(.loc 0 0 t.1.Free.length), (.loc 1 0 t.1.Tails.length), (.loc 2 0 t.1.Placed.length)]), (.c (bC t.2))])) (dfs := (fun (t : (TPebbles × Bool)) => [(0, (.prow 3 (t.1.Free.map encInt))), (1, (.prow 3 (t.1.Tails.map encInt))), (2, (.prow 3 (t.1.Placed.map encInt)))])) Try.func191 rfl Try.ntmps191 (Nat.le_of_ble_eq_true rfl) rfl ?_
  intro w0 U0 R0 g0
  unfold m_spec_NewPebbles
  refine AWR.seq ?_
  refine AWR.region ?_
  refine AOR.step (LT.box (n := 21) (v := (.agg [(iC g.Points), (.pv (.xs false (g.Bars.map encTBar)))])) rfl sz26 (by exact rfl)) ⟨rfl, trivial⟩ trivial rfl rfl ?_
  refine AOR.step (LT.alloc (n := 22) (cells := [(sC nilV), (sC nilV), (sC nilV)]) rfl ti140 rfl rfl rfl) trivial trivial rfl rfl ?_
  refine AOR.pure (LT.assign (v := (.s (.c (bC false)))) rfl) ⟨⟨rfl, rfl⟩, trivial⟩ trivial rfl rfl ?_
  refine AOR.nil ?_
  refine AWR.seq ?_
  refine AWR.region ?_
  refine AOR.step (LT.tbuildSlice (n := 23) (enc := encInt) [] ([] : List Int) rfl rfl und37 ti3 rfl rfl rfl rfl (by decide) (fun _ => rfl) rfl) trivial trivial rfl rfl ?_
  refine AOR.step (LT.tbuildSlice (n := 24) (enc := encInt) [] ([] : List Int) rfl rfl und37 ti3 rfl rfl rfl rfl (by decide) (fun _ => rfl) rfl) trivial trivial rfl rfl ?_
  refine AOR.step (LT.tbuildSlice (n := 25) (enc := encInt) [] ([] : List Int) rfl rfl und37 ti3 rfl rfl rfl rfl (by decide) (fun _ => rfl) rfl) trivial trivial rfl rfl ?_
  refine AOR.pure (LT.build [(0, .tmp 8, (.c (.loc 23 0 ([] : List Int).length))), (1, .tmp 9, (.c (.loc 24 0 ([] : List Int).length))), (2, .tmp 10, (.c (.loc 25 0 ([] : List Int).length)))] rfl rfl pl140 ti140 rfl rfl rfl) ⟨rfl, rfl, rfl, trivial⟩ trivial rfl rfl ?_
  refine AOR.step (LT.alloc (n := 26) (cells := [(sC nilV), (sC nilV), (sC nilV)]) rfl ti140 rfl rfl rfl) trivial trivial rfl rfl ?_
  refine AOR.step (LT.bstore (v := (.agg [(.loc 23 0 ([] : List Int).length), (.loc 24 0 ([] : List Int).length), (.loc 25 0 ([] : List Int).length)])) (out := [(.loc 23 0 ([] : List Int).length), (.loc 24 0 ([] : List Int).length), (.loc 25 0 ([] : List Int).length)]) rfl rfl (infS inf140) sz140 (by exact rfl) (by exact Nat.le_of_ble_eq_true rfl) (by exact rfl)) ⟨rfl, rfl, trivial⟩ ⟨rfl, trivial⟩ rfl rfl ?_
  refine AOR.nil ?_
  refine AWR.seq ?_
  refine AWR.seq ?_
  refine AWR.joinK (fun j4 => ([(1, (.s (.c (iC k)))), (2, (.s (.c (.pl 21 0)))), (4, (.s (.c (.pl 22 0)))), (6, (.s (.c (.pl 26 0)))), (19, (.s (.c (bC j4))))], [(21, (.row 26 [[(iC g.Points), (.pv (.xs false (g.Bars.map encTBar)))]])), (22, (.row 140 [[(sC nilV), (sC nilV), (sC nilV)]])), (23, (.prow 3 (([] : List Int).map encInt))), (24, (.prow 3 (([] : List Int).map encInt))), (25, (.prow 3 (([] : List Int).map encInt))), (26, (.row 140 [[(.loc 23 0 ([] : List Int).length), (.loc 24 0 ([] : List Int).length), (.loc 25 0 ([] : List Int).length)]]))])) ?_ (fun j4 _ => ?_)
  · refine AWR.ent (Ent.of (σ' := [(1, (.s (.c (iC k)))), (2, (.s (.c (.pl 21 0)))), (4, (.s (.c (.pl 22 0)))), (6, (.s (.c (.pl 26 0))))]) (m' := [(21, (.row 26 [[(iC g.Points), (.pv (.xs false (g.Bars.map encTBar)))]])), (22, (.row 140 [[(sC nilV), (sC nilV), (sC nilV)]])), (23, (.prow 3 (([] : List Int).map encInt))), (24, (.prow 3 (([] : List Int).map encInt))), (25, (.prow 3 (([] : List Int).map encInt))), (26, (.row 140 [[(.loc 23 0 ([] : List Int).length), (.loc 24 0 ([] : List Int).length), (.loc 25 0 ([] : List Int).length)]]))]) ⟨rfl, rfl, rfl, rfl, trivial⟩ ⟨rfl, rfl, rfl, rfl, rfl, rfl, trivial⟩) ?_
    refine AWR.region ?_
    refine AOR.pure (LT.bloadN (out := [(iC g.Points), (.pv (.xs false (g.Bars.map encTBar)))]) rfl ag26 (infS inf26) sz26 (by exact rfl) (by exact rfl)) ⟨rfl, trivial⟩ ⟨rfl, trivial⟩ rfl rfl ?_
    refine AOR.bind fun r5 hr5 => ?_
    refine AOR.pure (@LT.callF Try.prog _ _ 91 _ _ [(.agg [(iC g.Points), (.pv (.xs false (g.Bars.map encTBar)))])] _ _ [] _ _ _ _ (w_spec_IsGraph g r5 hr5) rfl cb91 (.cons (.agg (.cons (.same rfl) (.cons (.same rfl) .nil))) .nil) rfl rfl trivial) ⟨rfl, rfl, trivial⟩ trivial rfl rfl ?_
    refine AOR.pure (LT.not rfl) ⟨rfl, trivial⟩ trivial rfl rfl ?_
    refine AOR.pure (LT.move (v := (.s (.c (bC (!r5))))) rfl) ⟨rfl, trivial⟩ trivial rfl rfl ?_
    refine AOR.split (fun hb6 => ?_) (fun hb6 => ?_)
    · refine AOR.skip ⟨_, rfl, .inl ⟨_, rfl, (by rw [hb6]; rfl)⟩⟩ rfl ?_
      refine AOR.skip ⟨_, rfl, .inl ⟨_, rfl, (by rw [hb6]; rfl)⟩⟩ rfl ?_
      refine AOR.skip ⟨_, rfl, .inl ⟨_, rfl, (by rw [hb6]; rfl)⟩⟩ rfl ?_
      refine AOR.pure (LT.pickT (v := (.s (.c (bC true)))) rfl hb6) ⟨rfl, ⟨rfl, rfl⟩, trivial⟩ trivial rfl rfl ?_
      refine AOR.nil ?_
      refine AWR.nil ⟨rfl, Ent.of ⟨rfl, rfl, rfl, rfl, rfl, trivial⟩ ⟨rfl, rfl, rfl, rfl, rfl, rfl, trivial⟩⟩
    · refine AOR.pure (LT.move (v := (.s (.c (iC k)))) rfl) ⟨rfl, trivial⟩ trivial ⟨_, rfl, .inl ⟨_, rfl, (by rw [hb6]; rfl)⟩⟩ rfl ?_
      refine AOR.bind fun r7 hr7 => ?_
      refine AOR.pure (@LT.callF Try.prog _ _ 92 _ _ [(.c (iC k)), (.c (iC 1)), (.c (iC 3))] _ _ [] _ _ _ _ (w_spec_l1In k 1 3 r7 hr7) rfl cb92 (.cons (.c (.same rfl)) (.cons (.c (.same rfl)) (.cons (.c (.same rfl)) .nil))) rfl rfl trivial) ⟨rfl, rfl, ⟨rfl, rfl⟩, ⟨rfl, rfl⟩, trivial⟩ trivial ⟨_, rfl, .inl ⟨_, rfl, (by rw [hb6]; rfl)⟩⟩ rfl ?_
      refine AOR.pure (LT.not rfl) ⟨rfl, trivial⟩ trivial ⟨_, rfl, .inl ⟨_, rfl, (by rw [hb6]; rfl)⟩⟩ rfl ?_
      refine AOR.pure (LT.pickF (v := (.s (.c (bC (!r7))))) rfl hb6) ⟨rfl, rfl, trivial⟩ trivial rfl rfl ?_
      refine AOR.nil ?_
      refine AWR.nil ⟨rfl, Ent.of ⟨rfl, rfl, rfl, rfl, rfl, trivial⟩ ⟨rfl, rfl, rfl, rfl, rfl, rfl, trivial⟩⟩
  · refine AWR.cond rfl (fun hc8 => ?_) (fun hc8 => ?_)
    · refine AWR.seq ?_
      refine AWR.region ?_
      refine AOR.pure (LT.build [] rfl rfl pl140 ti140 rfl rfl rfl) trivial trivial rfl rfl ?_
      refine AOR.step (LT.bstore (v := (.agg [(sC nilV), (sC nilV), (sC nilV)])) (out := [(sC nilV), (sC nilV), (sC nilV)]) rfl rfl (infS inf140) sz140 (by exact rfl) (by exact Nat.le_of_ble_eq_true rfl) (by exact rfl)) ⟨rfl, rfl, trivial⟩ ⟨rfl, trivial⟩ rfl rfl ?_
      refine AOR.pure (LT.assign (v := (.s (.c (bC false)))) rfl) ⟨⟨rfl, rfl⟩, trivial⟩ trivial rfl rfl ?_
      refine AOR.nil ?_
      refine AWR.ent (Ent.nilB 22 0 0 3 rfl rfl rfl rfl) ?_
      refine AWR.ent (Ent.nilB 22 1 1 3 rfl rfl rfl rfl) ?_
      refine AWR.ent (Ent.nilB 22 2 2 3 rfl rfl rfl rfl) ?_
      refine AWR.ent (Ent.of (σ' := [(4, (.s (.c (.pl 22 0)))), (5, (.s (.c (bC false))))]) (m' := [(0, (.prow 3 (([] : List Int).map encInt))), (1, (.prow 3 (([] : List Int).map encInt))), (2, (.prow 3 (([] : List Int).map encInt))), (22, (.row 140 [[(.loc 0 0 ([] : List Int).length), (.loc 1 0 ([] : List Int).length), (.loc 2 0 ([] : List Int).length)]]))]) ⟨rfl, rfl, trivial⟩ ⟨rfl, rfl, rfl, rfl, trivial⟩) ?_
      refine AWR.ret (FPost.mk (.inr rfl) ⟨⟨_, _, _, rfl, rfl, rfl, ag140, sz140, _, (infS inf140)⟩, rfl, trivial⟩ ⟨rfl, rfl, rfl, trivial⟩ rfl ⟨⟨trivial, trivial, trivial, trivial⟩, PermP.sc, trivial⟩ ⟨PermO.prow' perm_encInt, PermO.prow' perm_encInt, PermO.prow' perm_encInt, trivial⟩)
    · refine AWR.skip ?_
      refine AWR.seq ?_
      refine AWR.seq ?_
      refine AWR.region ?_
      refine AOR.pure (LT.assign (v := (.s (.c (iC 0)))) rfl) ⟨⟨rfl, rfl⟩, trivial⟩ trivial rfl rfl ?_
      refine AOR.nil ?_
      refine AWR.block ?_
      refine AWR.loop1 (id := 0) (m_spec_NewPebbles_L1 g k) (fun s9 => ([(1, (.s (.c (iC k)))), (2, (.s (.c (.pl 21 0)))), (4, (.s (.c (.pl 22 0)))), (6, (.s (.c (.pl 26 0)))), (7, (.s (.c (iC s9.1))))], [(21, (.row 26 [[(iC g.Points), (.pv (.xs false (g.Bars.map encTBar)))]])), (22, (.row 140 [[(sC nilV), (sC nilV), (sC nilV)]])), (23, (.prow 3 (s9.2.map encInt))), (24, (.prow 3 (([] : List Int).map encInt))), (25, (.prow 3 (([] : List Int).map encInt))), (26, (.row 140 [[(.loc 23 0 s9.2.length), (.loc 24 0 ([] : List Int).length), (.loc 25 0 ([] : List Int).length)]]))])) (fun b14 => ([(4, (.s (.c (.pl 22 0)))), (6, (.s (.c (.pl 26 0))))], [(22, (.row 140 [[(sC nilV), (sC nilV), (sC nilV)]])), (23, (.prow 3 (b14.map encInt))), (24, (.prow 3 (([] : List Int).map encInt))), (25, (.prow 3 (([] : List Int).map encInt))), (26, (.row 140 [[(.loc 23 0 b14.length), (.loc 24 0 ([] : List Int).length), (.loc 25 0 ([] : List Int).length)]]))])) ?_ (Ent.of ⟨rfl, rfl, rfl, rfl, rfl, trivial⟩ ⟨rfl, rfl, rfl, rfl, rfl, rfl, trivial⟩) rfl (fun b14 _ => ?_)
      · intro s9
        unfold m_spec_NewPebbles_L1
        refine AWR.seq ?_
        refine AWR.seq ?_
        refine AWR.region ?_
        refine AOR.pure (LT.move (v := (.s (.c (iC s9.1)))) rfl) ⟨rfl, trivial⟩ trivial rfl rfl ?_
        refine AOR.pure (LT.fieldPl rfl fo26_0) ⟨rfl, trivial⟩ trivial rfl rfl ?_
        refine AOR.pure (LT.bload1 (c := (iC g.Points)) rfl ag3 (by exact rfl)) ⟨rfl, trivial⟩ ⟨rfl, trivial⟩ rfl rfl ?_
        refine AOR.pure (LT.lss rfl) ⟨rfl, rfl, trivial⟩ trivial rfl rfl ?_
        refine AOR.nil ?_
        refine AWR.cond rfl (fun hc15 => ?_) (fun hc15 => ?_)
        · refine AWR.skip ?_
          refine AWR.seq ?_
          refine AWR.block ?_
          refine AWR.region ?_
          refine AOR.pure (LT.fieldPl rfl fo140_0) ⟨rfl, trivial⟩ trivial rfl rfl ?_
          refine AOR.pure (LT.bload1 (c := (.loc 23 0 s9.2.length)) rfl ag37 (by exact rfl)) ⟨rfl, trivial⟩ ⟨rfl, trivial⟩ rfl rfl ?_
          refine AOR.pure (LT.move (v := (.s (.c (iC k)))) rfl) ⟨rfl, trivial⟩ trivial rfl rfl ?_
          refine AOR.step (LT.tbuildSlice (n := 29) (enc := encInt) [(0, .tmp 29, (.c (iC k)))] ([k] : List Int) rfl rfl und37 ti3 rfl rfl rfl rfl (by decide) (fun _ => rfl) rfl) ⟨rfl, trivial⟩ trivial rfl rfl ?_
          refine AOR.bind fun u16 hu16 => ?_
          refine AOR.step (LT.tappP (enc := encInt) rfl rfl rfl und37 ti3 rfl (by decide) (by decide) (fun _ => rfl) (lim_le hu16)) ⟨rfl, rfl, trivial⟩ ⟨rfl, rfl, trivial⟩ rfl rfl ?_
          refine AOR.pure (LT.fieldPl rfl fo140_0) ⟨rfl, trivial⟩ trivial rfl rfl ?_
          refine AOR.step (LT.bstore (v := (.c (.loc 23 0 (s9.2 ++ ([k] : List Int)).length))) (out := [(.loc 23 0 (s9.2 ++ ([k] : List Int)).length), (.loc 24 0 ([] : List Int).length), (.loc 25 0 ([] : List Int).length)]) rfl rfl (infS inf37) sz37 (by exact rfl) (by exact Nat.le_of_ble_eq_true rfl) (by exact rfl)) ⟨rfl, rfl, trivial⟩ ⟨rfl, trivial⟩ rfl rfl ?_
          refine AOR.nil ?_
          refine AWR.blk ?_
          refine AWR.ent (Ent.of (σ' := [(1, (.s (.c (iC k)))), (2, (.s (.c (.pl 21 0)))), (4, (.s (.c (.pl 22 0)))), (6, (.s (.c (.pl 26 0)))), (7, (.s (.c (iC s9.1))))]) (m' := [(21, (.row 26 [[(iC g.Points), (.pv (.xs false (g.Bars.map encTBar)))]])), (22, (.row 140 [[(sC nilV), (sC nilV), (sC nilV)]])), (23, (.prow 3 ((s9.2 ++ ([k] : List Int)).map encInt))), (24, (.prow 3 (([] : List Int).map encInt))), (25, (.prow 3 (([] : List Int).map encInt))), (26, (.row 140 [[(.loc 23 0 (s9.2 ++ ([k] : List Int)).length), (.loc 24 0 ([] : List Int).length), (.loc 25 0 ([] : List Int).length)]]))]) ⟨rfl, rfl, rfl, rfl, rfl, trivial⟩ ⟨rfl, rfl, rfl, rfl, rfl, rfl, trivial⟩) ?_
          refine AWR.region ?_
          refine AOR.pure (LT.move (v := (.s (.c (iC s9.1)))) rfl) ⟨rfl, trivial⟩ trivial rfl rfl ?_
          refine AOR.pure (LT.add rfl) ⟨rfl, ⟨rfl, rfl⟩, trivial⟩ trivial rfl rfl ?_
          refine AOR.pure (LT.assign (v := (.s (.c (iC (w64 (s9.1 + 1)))))) rfl) ⟨rfl, trivial⟩ trivial rfl rfl ?_
          refine AOR.nil ?_
          refine AWR.nil ⟨rfl, Ent.of ⟨rfl, rfl, rfl, rfl, rfl, trivial⟩ ⟨rfl, rfl, rfl, rfl, rfl, rfl, trivial⟩⟩
        · refine AWR.exit_end rfl ⟨rfl, Ent.of ⟨rfl, rfl, trivial⟩ ⟨rfl, rfl, rfl, rfl, rfl, trivial⟩⟩
      · refine AWR.seq ?_
        refine AWR.region ?_
        refine AOR.pure (LT.bloadN (out := [(.loc 23 0 b14.length), (.loc 24 0 ([] : List Int).length), (.loc 25 0 ([] : List Int).length)]) rfl ag140 (infS inf140) sz140 (by exact rfl) (by exact rfl)) ⟨rfl, trivial⟩ ⟨rfl, trivial⟩ rfl rfl ?_
        refine AOR.step (LT.bstore (v := (.agg [(.loc 23 0 b14.length), (.loc 24 0 ([] : List Int).length), (.loc 25 0 ([] : List Int).length)])) (out := [(.loc 23 0 b14.length), (.loc 24 0 ([] : List Int).length), (.loc 25 0 ([] : List Int).length)]) rfl rfl (infS inf140) sz140 (by exact rfl) (by exact Nat.le_of_ble_eq_true rfl) (by exact rfl)) ⟨rfl, rfl, trivial⟩ ⟨rfl, trivial⟩ rfl rfl ?_
        refine AOR.pure (LT.assign (v := (.s (.c (bC true)))) rfl) ⟨⟨rfl, rfl⟩, trivial⟩ trivial rfl rfl ?_
        refine AOR.nil ?_
        refine AWR.ent (Ent.of (σ' := [(4, (.s (.c (.pl 22 0)))), (5, (.s (.c (bC true))))]) (m' := [(22, (.row 140 [[(.loc 23 0 b14.length), (.loc 24 0 ([] : List Int).length), (.loc 25 0 ([] : List Int).length)]])), (23, (.prow 3 (b14.map encInt))), (24, (.prow 3 (([] : List Int).map encInt))), (25, (.prow 3 (([] : List Int).map encInt)))]) ⟨rfl, rfl, trivial⟩ ⟨rfl, rfl, rfl, rfl, trivial⟩) ?_
        refine AWR.ent (Ent.mv 23 0 rfl rfl) ?_
        refine AWR.ent (Ent.mv 24 1 rfl rfl) ?_
        refine AWR.ent (Ent.mv 25 2 rfl rfl) ?_
        refine AWR.ent (Ent.of (σ' := [(4, (.s (.c (.pl 22 0)))), (5, (.s (.c (bC true))))]) (m' := [(0, (.prow 3 (b14.map encInt))), (1, (.prow 3 (([] : List Int).map encInt))), (2, (.prow 3 (([] : List Int).map encInt))), (22, (.row 140 [[(.loc 0 0 b14.length), (.loc 1 0 ([] : List Int).length), (.loc 2 0 ([] : List Int).length)]]))]) ⟨rfl, rfl, trivial⟩ ⟨rfl, rfl, rfl, rfl, trivial⟩) ?_
        refine AWR.ret (FPost.mk (.inr rfl) ⟨⟨_, _, _, rfl, rfl, rfl, ag140, sz140, _, (infS inf140)⟩, rfl, trivial⟩ ⟨rfl, rfl, rfl, trivial⟩ rfl ⟨⟨trivial, trivial, trivial, trivial⟩, PermP.sc, trivial⟩ ⟨PermO.prow' perm_encInt, PermO.prow' perm_encInt, PermO.prow' perm_encInt, trivial⟩)
set_option maxRecDepth 100000 in
set_option maxHeartbeats 8000000 in
theorem w_spec_IsRange (k : Int) (l : Int) : ∀ t, m_spec_IsRange k l = some t → Fw.Fn Try.prog 192 [(.c (iC k)), (.c (iC l))] [] (.s (.c (bC t))) [] [] [] := by
  refine Fw.Fn.of (P := Try.prog) (X := []) (pn := []) (rs := (fun (t : Bool) => [(.c (bC t))])) (dfs := (fun (t : Bool) => [])) Try.func192 rfl Try.ntmps192 (Nat.le_of_ble_eq_true rfl) rfl ?_
  intro w0 U0 R0 g0
  unfold m_spec_IsRange
  refine AWR.seq ?_
  refine AWR.region ?_
  refine AOR.pure (LT.assign (v := (.s (.c (bC false)))) rfl) ⟨⟨rfl, rfl⟩, trivial⟩ trivial rfl rfl ?_
  refine AOR.nil ?_
  refine AWR.seq ?_
  refine AWR.joinK (fun j4 => ([(4, (.s (.c (bC j4))))], [])) ?_ (fun j4 _ => ?_)
  · refine AWR.region ?_
    refine AOR.pure (LT.move (v := (.s (.c (iC k)))) rfl) ⟨rfl, trivial⟩ trivial rfl rfl ?_
    refine AOR.bind fun r5 hr5 => ?_
    refine AOR.pure (@LT.callF Try.prog _ _ 92 _ _ [(.c (iC k)), (.c (iC 1)), (.c (iC 3))] _ _ [] _ _ _ _ (w_spec_l1In k 1 3 r5 hr5) rfl cb92 (.cons (.c (.same rfl)) (.cons (.c (.same rfl)) (.cons (.c (.same rfl)) .nil))) rfl rfl trivial) ⟨rfl, rfl, ⟨rfl, rfl⟩, ⟨rfl, rfl⟩, trivial⟩ trivial rfl rfl ?_
    refine AOR.pure (LT.move (v := (.s (.c (bC r5)))) rfl) ⟨rfl, trivial⟩ trivial rfl rfl ?_
    refine AOR.split (fun hb6 => ?_) (fun hb6 => ?_)
    · refine AOR.pure (LT.move (v := (.s (.c (iC l)))) rfl) ⟨rfl, trivial⟩ trivial ⟨_, rfl, .inl ⟨_, rfl, (by rw [hb6]; rfl)⟩⟩ rfl ?_
      refine AOR.pure (LT.geq rfl) ⟨rfl, ⟨rfl, rfl⟩, trivial⟩ trivial ⟨_, rfl, .inl ⟨_, rfl, (by rw [hb6]; rfl)⟩⟩ rfl ?_
      refine AOR.pure (LT.pickT (v := (.s (.c (bC (decide (0 ≤ l)))))) rfl hb6) ⟨rfl, rfl, trivial⟩ trivial rfl rfl ?_
      refine AOR.pure (LT.move (v := (.s (.c (bC (decide (0 ≤ l)))))) rfl) ⟨rfl, trivial⟩ trivial rfl rfl ?_
      refine AOR.split (fun hb7 => ?_) (fun hb7 => ?_)
      · refine AOR.pure (LT.move (v := (.s (.c (iC l)))) rfl) ⟨rfl, trivial⟩ trivial ⟨_, rfl, .inl ⟨_, rfl, (by rw [hb7]; rfl)⟩⟩ rfl ?_
        refine AOR.pure (LT.move (v := (.s (.c (iC k)))) rfl) ⟨rfl, trivial⟩ trivial ⟨_, rfl, .inl ⟨_, rfl, (by rw [hb7]; rfl)⟩⟩ rfl ?_
        refine AOR.pure (LT.mul rfl) ⟨⟨rfl, rfl⟩, rfl, trivial⟩ trivial ⟨_, rfl, .inl ⟨_, rfl, (by rw [hb7]; rfl)⟩⟩ rfl ?_
        refine AOR.pure (LT.lss rfl) ⟨rfl, rfl, trivial⟩ trivial ⟨_, rfl, .inl ⟨_, rfl, (by rw [hb7]; rfl)⟩⟩ rfl ?_
        refine AOR.pure (LT.pickT (v := (.s (.c (bC (decide (l < (w64 (2 * k)))))))) rfl hb7) ⟨rfl, rfl, trivial⟩ trivial rfl rfl ?_
        refine AOR.pure (LT.assign (v := (.s (.c (bC (decide (l < (w64 (2 * k)))))))) rfl) ⟨rfl, trivial⟩ trivial rfl rfl ?_
        refine AOR.nil ?_
        refine AWR.nil ⟨rfl, Ent.of ⟨rfl, trivial⟩ trivial⟩
      · refine AOR.skip ⟨_, rfl, .inl ⟨_, rfl, (by rw [hb7]; rfl)⟩⟩ rfl ?_
        refine AOR.skip ⟨_, rfl, .inl ⟨_, rfl, (by rw [hb7]; rfl)⟩⟩ rfl ?_
        refine AOR.skip ⟨_, rfl, .inl ⟨_, rfl, (by rw [hb7]; rfl)⟩⟩ rfl ?_
        refine AOR.skip ⟨_, rfl, .inl ⟨_, rfl, (by rw [hb7]; rfl)⟩⟩ rfl ?_
        refine AOR.pure (LT.pickF (v := (.s (.c (bC false)))) rfl hb7) ⟨rfl, ⟨rfl, rfl⟩, trivial⟩ trivial rfl rfl ?_
        refine AOR.pure (LT.assign (v := (.s (.c (bC false)))) rfl) ⟨rfl, trivial⟩ trivial rfl rfl ?_
        refine AOR.nil ?_
        refine AWR.nil ⟨rfl, Ent.of ⟨rfl, trivial⟩ trivial⟩
    · refine AOR.skip ⟨_, rfl, .inl ⟨_, rfl, (by rw [hb6]; rfl)⟩⟩ rfl ?_
      refine AOR.skip ⟨_, rfl, .inl ⟨_, rfl, (by rw [hb6]; rfl)⟩⟩ rfl ?_
      refine AOR.pure (LT.pickF (v := (.s (.c (bC false)))) rfl hb6) ⟨rfl, ⟨rfl, rfl⟩, trivial⟩ trivial rfl rfl ?_
      refine AOR.pure (LT.move (v := (.s (.c (bC false)))) rfl) ⟨rfl, trivial⟩ trivial rfl rfl ?_
      refine AOR.skip ⟨_, rfl, .inl ⟨_, rfl, rfl⟩⟩ rfl ?_
      refine AOR.skip ⟨_, rfl, .inl ⟨_, rfl, rfl⟩⟩ rfl ?_
      refine AOR.skip ⟨_, rfl, .inl ⟨_, rfl, rfl⟩⟩ rfl ?_
      refine AOR.skip ⟨_, rfl, .inl ⟨_, rfl, rfl⟩⟩ rfl ?_
      refine AOR.pure (LT.pickF (v := (.s (.c (bC false)))) rfl rfl) ⟨rfl, ⟨rfl, rfl⟩, trivial⟩ trivial rfl rfl ?_
      refine AOR.pure (LT.assign (v := (.s (.c (bC false)))) rfl) ⟨rfl, trivial⟩ trivial rfl rfl ?_
      refine AOR.nil ?_
      refine AWR.nil ⟨rfl, Ent.of ⟨rfl, trivial⟩ trivial⟩
  · refine AWR.ret (FPost.mk (.inr rfl) ⟨rfl, trivial⟩ trivial rfl ⟨PermP.sc, trivial⟩ trivial)
set_option maxRecDepth 100000 in
set_option maxHeartbeats 8000000 in
theorem w_spec_l4Tail (p : TPebbles) (v : Int) : ∀ t, m_spec_l4Tail p v = some t → Fw.Fn Try.prog 210 [(.agg [(.pv (.xs false (p.Free.map encInt))), (.pv (.xs false (p.Tails.map encInt))), (.pv (.xs false (p.Placed.map encInt)))]), (.c (iC v))] [] (.s (.c (iC t))) [] [] [] := by
  refine Fw.Fn.of (P := Try.prog) (X := []) (pn := []) (rs := (fun (t : Int) => [(.c (iC t))])) (dfs := (fun (t : Int) => [])) Try.func210 rfl Try.ntmps210 (Nat.le_of_ble_eq_true rfl) rfl ?_
  intro w0 U0 R0 g0
  unfold m_spec_l4Tail
  refine AWR.seq ?_
  refine AWR.region ?_
  refine AOR.step (LT.box (n := 21) (v := (.agg [(.pv (.xs false (p.Free.map encInt))), (.pv (.xs false (p.Tails.map encInt))), (.pv (.xs false (p.Placed.map encInt)))])) rfl sz140 (by exact rfl)) ⟨rfl, trivial⟩ trivial rfl rfl ?_
  refine AOR.pure (LT.assign (v := (.s (.c (iC 0)))) rfl) ⟨⟨rfl, rfl⟩, trivial⟩ trivial rfl rfl ?_
  refine AOR.nil ?_
  refine AWR.seq ?_
  refine AWR.region ?_
  refine AOR.pure (LT.assign (v := (.s (.c (iC 0)))) rfl) ⟨⟨rfl, rfl⟩, trivial⟩ trivial rfl rfl ?_
  refine AOR.nil ?_
  refine AWR.seq ?_
  refine AWR.seq ?_
  refine AWR.region ?_
  refine AOR.pure (LT.assign (v := (.s (.c (iC 0)))) rfl) ⟨⟨rfl, rfl⟩, trivial⟩ trivial rfl rfl ?_
  refine AOR.nil ?_
  refine AWR.block ?_
  refine AWR.loop1 (id := 0) (m_spec_l4Tail_L1 p v) (fun s1 => ([(1, (.s (.c (iC v)))), (2, (.s (.c (.pl 21 0)))), (5, (.s (.c (iC s1.1)))), (6, (.s (.c (iC s1.2))))], [(21, (.row 140 [[(.pv (.xs false (p.Free.map encInt))), (.pv (.xs false (p.Tails.map encInt))), (.pv (.xs false (p.Placed.map encInt)))]]))])) (fun b12 => ([(5, (.s (.c (iC b12))))], [])) ?_ (Ent.of ⟨rfl, rfl, rfl, rfl, trivial⟩ ⟨rfl, trivial⟩) rfl (fun b12 _ => ?_)
  · intro s1
    unfold m_spec_l4Tail_L1
    refine AWR.seq ?_
    refine AWR.seq ?_
    refine AWR.region ?_
    refine AOR.pure (LT.move (v := (.s (.c (iC s1.2)))) rfl) ⟨rfl, trivial⟩ trivial rfl rfl ?_
    refine AOR.pure (LT.fieldPl rfl fo140_1) ⟨rfl, trivial⟩ trivial rfl rfl ?_
    refine AOR.pure (LT.bload1 (c := (.pv (.xs false (p.Tails.map encInt)))) rfl ag37 (by exact rfl)) ⟨rfl, trivial⟩ ⟨rfl, trivial⟩ rfl rfl ?_
    refine AOR.pure (LT.tlenRO rfl und37) ⟨rfl, trivial⟩ trivial rfl rfl ?_
    refine AOR.pure (LT.lss rfl) ⟨rfl, rfl, trivial⟩ trivial rfl rfl ?_
    refine AOR.nil ?_
    refine AWR.cond rfl (fun hc13 => ?_) (fun hc13 => ?_)
    · refine AWR.skip ?_
      refine AWR.seq ?_
      refine AWR.block ?_
      refine AWR.seq ?_
      refine AWR.region ?_
      refine AOR.pure (LT.fieldPl rfl fo140_1) ⟨rfl, trivial⟩ trivial rfl rfl ?_
      refine AOR.pure (LT.bload1 (c := (.pv (.xs false (p.Tails.map encInt)))) rfl ag37 (by exact rfl)) ⟨rfl, trivial⟩ ⟨rfl, trivial⟩ rfl rfl ?_
      refine AOR.pure (LT.move (v := (.s (.c (iC s1.2)))) rfl) ⟨rfl, trivial⟩ trivial rfl rfl ?_
      refine AOR.bind fun x14 hx14 => ?_
      refine AOR.pure (LT.tindexRO (enc := encInt) rfl el37 hx14 sz3) ⟨rfl, rfl, trivial⟩ trivial rfl rfl ?_
      refine AOR.pure (LT.loadPx1 rfl ag3) ⟨rfl, trivial⟩ trivial rfl rfl ?_
      refine AOR.pure (LT.move (v := (.s (.c (iC v)))) rfl) ⟨rfl, trivial⟩ trivial rfl rfl ?_
      refine AOR.pure (LT.eql rfl) ⟨rfl, rfl, trivial⟩ trivial rfl rfl ?_
      refine AOR.nil ?_
      refine AWR.joinK (fun j16 => ([(1, (.s (.c (iC v)))), (2, (.s (.c (.pl 21 0)))), (5, (.s (.c (iC j16)))), (6, (.s (.c (iC s1.2))))], [(21, (.row 140 [[(.pv (.xs false (p.Free.map encInt))), (.pv (.xs false (p.Tails.map encInt))), (.pv (.xs false (p.Placed.map encInt)))]]))])) ?_ (fun j16 _ => ?_)
      · refine AWR.cond rfl (fun hc17 => ?_) (fun hc17 => ?_)
        · refine AWR.ent (Ent.of (σ' := [(1, (.s (.c (iC v)))), (2, (.s (.c (.pl 21 0)))), (5, (.s (.c (iC s1.1)))), (6, (.s (.c (iC s1.2))))]) (m' := [(21, (.row 140 [[(.pv (.xs false (p.Free.map encInt))), (.pv (.xs false (p.Tails.map encInt))), (.pv (.xs false (p.Placed.map encInt)))]]))]) ⟨rfl, rfl, rfl, rfl, trivial⟩ ⟨rfl, trivial⟩) ?_
          refine AWR.region ?_
          refine AOR.pure (LT.move (v := (.s (.c (iC s1.1)))) rfl) ⟨rfl, trivial⟩ trivial rfl rfl ?_
          refine AOR.pure (LT.add rfl) ⟨rfl, ⟨rfl, rfl⟩, trivial⟩ trivial rfl rfl ?_
          refine AOR.pure (LT.assign (v := (.s (.c (iC (w64 (s1.1 + 1)))))) rfl) ⟨rfl, trivial⟩ trivial rfl rfl ?_
          refine AOR.nil ?_
          refine AWR.nil ⟨rfl, Ent.of ⟨rfl, rfl, rfl, rfl, trivial⟩ ⟨rfl, trivial⟩⟩
        · refine AWR.skip ?_
          refine AWR.nil ⟨rfl, Ent.of ⟨rfl, rfl, rfl, rfl, trivial⟩ ⟨rfl, trivial⟩⟩
      · refine AWR.blk ?_
        refine AWR.region ?_
        refine AOR.pure (LT.move (v := (.s (.c (iC s1.2)))) rfl) ⟨rfl, trivial⟩ trivial rfl rfl ?_
        refine AOR.pure (LT.add rfl) ⟨rfl, ⟨rfl, rfl⟩, trivial⟩ trivial rfl rfl ?_
        refine AOR.pure (LT.assign (v := (.s (.c (iC (w64 (s1.2 + 1)))))) rfl) ⟨rfl, trivial⟩ trivial rfl rfl ?_
        refine AOR.nil ?_
        refine AWR.nil ⟨rfl, Ent.of ⟨rfl, rfl, rfl, rfl, trivial⟩ ⟨rfl, trivial⟩⟩
    · refine AWR.exit_end rfl ⟨rfl, Ent.of ⟨rfl, trivial⟩ trivial⟩
  · refine AWR.seq ?_
    refine AWR.region ?_
    refine AOR.pure (LT.move (v := (.s (.c (iC b12)))) rfl) ⟨rfl, trivial⟩ trivial rfl rfl ?_
    refine AOR.pure (LT.assign (v := (.s (.c (iC b12)))) rfl) ⟨rfl, trivial⟩ trivial rfl rfl ?_
    refine AOR.nil ?_
    refine AWR.ret (FPost.mk (.inr rfl) ⟨rfl, trivial⟩ trivial rfl ⟨PermP.sc, trivial⟩ trivial)
set_option maxRecDepth 100000 in
set_option maxHeartbeats 8000000 in
theorem w_spec_IsPebbles (g : TGraph) (k : Int) (p : TPebbles) : ∀ t, m_spec_IsPebbles g k p = some t → Fw.Fn Try.prog 204 [(.agg [(iC g.Points), (.pv (.xs false (g.Bars.map encTBar)))]), (.c (iC k)), (.agg [(.pv (.xs false (p.Free.map encInt))), (.pv (.xs false (p.Tails.map encInt))), (.pv (.xs false (p.Placed.map encInt)))])] [] (.s (.c (bC t))) [] [] [] := by
  refine Fw.Fn.of (P := Try.prog) (X := []) (pn := []) (rs := (fun (t : Bool) => [(.c (bC t))])) (dfs := (fun (t : Bool) => [])) Try.func204 rfl Try.ntmps204 (Nat.le_of_ble_eq_true rfl) rfl ?_
  intro w0 U0 R0 g0
  unfold m_spec_IsPebbles
  refine AWR.seq ?_
  refine AWR.region ?_
  refine AOR.step (LT.box (n := 21) (v := (.agg [(iC g.Points), (.pv (.xs false (g.Bars.map encTBar)))])) rfl sz26 (by exact rfl)) ⟨rfl, trivial⟩ trivial rfl rfl ?_
  refine AOR.step (LT.box (n := 22) (v := (.agg [(.pv (.xs false (p.Free.map encInt))), (.pv (.xs false (p.Tails.map encInt))), (.pv (.xs false (p.Placed.map encInt)))])) rfl sz140 (by exact rfl)) ⟨rfl, trivial⟩ trivial rfl rfl ?_
  refine AOR.pure (LT.assign (v := (.s (.c (bC false)))) rfl) ⟨⟨rfl, rfl⟩, trivial⟩ trivial rfl rfl ?_
  refine AOR.nil ?_
  refine AWR.seq ?_
  refine AWR.seq ?_
  refine AWR.joinK (fun j6 => ([(1, (.s (.c (iC k)))), (3, (.s (.c (.pl 21 0)))), (5, (.s (.c (.pl 22 0)))), (34, (.s (.c (bC j6))))], [(21, (.row 26 [[(iC g.Points), (.pv (.xs false (g.Bars.map encTBar)))]])), (22, (.row 140 [[(.pv (.xs false (p.Free.map encInt))), (.pv (.xs false (p.Tails.map encInt))), (.pv (.xs false (p.Placed.map encInt)))]]))])) ?_ (fun j6 _ => ?_)
  · refine AWR.region ?_
    refine AOR.pure (LT.bloadN (out := [(iC g.Points), (.pv (.xs false (g.Bars.map encTBar)))]) rfl ag26 (infS inf26) sz26 (by exact rfl) (by exact rfl)) ⟨rfl, trivial⟩ ⟨rfl, trivial⟩ rfl rfl ?_
    refine AOR.bind fun r7 hr7 => ?_
    refine AOR.pure (@LT.callF Try.prog _ _ 91 _ _ [(.agg [(iC g.Points), (.pv (.xs false (g.Bars.map encTBar)))])] _ _ [] _ _ _ _ (w_spec_IsGraph g r7 hr7) rfl cb91 (.cons (.agg (.cons (.same rfl) (.cons (.same rfl) .nil))) .nil) rfl rfl trivial) ⟨rfl, rfl, trivial⟩ trivial rfl rfl ?_
    refine AOR.pure (LT.not rfl) ⟨rfl, trivial⟩ trivial rfl rfl ?_
    refine AOR.pure (LT.move (v := (.s (.c (bC (!r7))))) rfl) ⟨rfl, trivial⟩ trivial rfl rfl ?_
    refine AOR.split (fun hb8 => ?_) (fun hb8 => ?_)
    · refine AOR.skip ⟨_, rfl, .inl ⟨_, rfl, (by rw [hb8]; rfl)⟩⟩ rfl ?_
      refine AOR.skip ⟨_, rfl, .inl ⟨_, rfl, (by rw [hb8]; rfl)⟩⟩ rfl ?_
      refine AOR.skip ⟨_, rfl, .inl ⟨_, rfl, (by rw [hb8]; rfl)⟩⟩ rfl ?_
      refine AOR.pure (LT.pickT (v := (.s (.c (bC true)))) rfl hb8) ⟨rfl, ⟨rfl, rfl⟩, trivial⟩ trivial rfl rfl ?_
      refine AOR.pure (LT.move (v := (.s (.c (bC true)))) rfl) ⟨rfl, trivial⟩ trivial rfl rfl ?_
      refine AOR.skip ⟨_, rfl, .inl ⟨_, rfl, rfl⟩⟩ rfl ?_
      refine AOR.skip ⟨_, rfl, .inl ⟨_, rfl, rfl⟩⟩ rfl ?_
      refine AOR.skip ⟨_, rfl, .inl ⟨_, rfl, rfl⟩⟩ rfl ?_
      refine AOR.skip ⟨_, rfl, .inl ⟨_, rfl, rfl⟩⟩ rfl ?_
      refine AOR.skip ⟨_, rfl, .inl ⟨_, rfl, rfl⟩⟩ rfl ?_
      refine AOR.skip ⟨_, rfl, .inl ⟨_, rfl, rfl⟩⟩ rfl ?_
      refine AOR.pure (LT.pickT (v := (.s (.c (bC true)))) rfl rfl) ⟨rfl, ⟨rfl, rfl⟩, trivial⟩ trivial rfl rfl ?_
      refine AOR.pure (LT.move (v := (.s (.c (bC true)))) rfl) ⟨rfl, trivial⟩ trivial rfl rfl ?_
      refine AOR.skip ⟨_, rfl, .inl ⟨_, rfl, rfl⟩⟩ rfl ?_
      refine AOR.skip ⟨_, rfl, .inl ⟨_, rfl, rfl⟩⟩ rfl ?_
      refine AOR.skip ⟨_, rfl, .inl ⟨_, rfl, rfl⟩⟩ rfl ?_
      refine AOR.skip ⟨_, rfl, .inl ⟨_, rfl, rfl⟩⟩ rfl ?_
      refine AOR.skip ⟨_, rfl, .inl ⟨_, rfl, rfl⟩⟩ rfl ?_
      refine AOR.skip ⟨_, rfl, .inl ⟨_, rfl, rfl⟩⟩ rfl ?_
      refine AOR.skip ⟨_, rfl, .inl ⟨_, rfl, rfl⟩⟩ rfl ?_
      refine AOR.pure (LT.pickT (v := (.s (.c (bC true)))) rfl rfl) ⟨rfl, ⟨rfl, rfl⟩, trivial⟩ trivial rfl rfl ?_
      refine AOR.nil ?_
      refine AWR.nil ⟨rfl, Ent.of ⟨rfl, rfl, rfl, rfl, trivial⟩ ⟨rfl, rfl, trivial⟩⟩
    · refine AOR.pure (LT.move (v := (.s (.c (iC k)))) rfl) ⟨rfl, trivial⟩ trivial ⟨_, rfl, .inl ⟨_, rfl, (by rw [hb8]; rfl)⟩⟩ rfl ?_
      refine AOR.bind fun r9 hr9 => ?_
      refine AOR.pure (@LT.callF Try.prog _ _ 92 _ _ [(.c (iC k)), (.c (iC 1)), (.c (iC 3))] _ _ [] _ _ _ _ (w_spec_l1In k 1 3 r9 hr9) rfl cb92 (.cons (.c (.same rfl)) (.cons (.c (.same rfl)) (.cons (.c (.same rfl)) .nil))) rfl rfl trivial) ⟨rfl, rfl, ⟨rfl, rfl⟩, ⟨rfl, rfl⟩, trivial⟩ trivial ⟨_, rfl, .inl ⟨_, rfl, (by rw [hb8]; rfl)⟩⟩ rfl ?_
      refine AOR.pure (LT.not rfl) ⟨rfl, trivial⟩ trivial ⟨_, rfl, .inl ⟨_, rfl, (by rw [hb8]; rfl)⟩⟩ rfl ?_
      refine AOR.pure (LT.pickF (v := (.s (.c (bC (!r9))))) rfl hb8) ⟨rfl, rfl, trivial⟩ trivial rfl rfl ?_
      refine AOR.pure (LT.move (v := (.s (.c (bC (!r9))))) rfl) ⟨rfl, trivial⟩ trivial rfl rfl ?_
      refine AOR.split (fun hb10 => ?_) (fun hb10 => ?_)
      · refine AOR.skip ⟨_, rfl, .inl ⟨_, rfl, (by rw [hb10]; rfl)⟩⟩ rfl ?_
        refine AOR.skip ⟨_, rfl, .inl ⟨_, rfl, (by rw [hb10]; rfl)⟩⟩ rfl ?_
        refine AOR.skip ⟨_, rfl, .inl ⟨_, rfl, (by rw [hb10]; rfl)⟩⟩ rfl ?_
        refine AOR.skip ⟨_, rfl, .inl ⟨_, rfl, (by rw [hb10]; rfl)⟩⟩ rfl ?_
        refine AOR.skip ⟨_, rfl, .inl ⟨_, rfl, (by rw [hb10]; rfl)⟩⟩ rfl ?_
        refine AOR.skip ⟨_, rfl, .inl ⟨_, rfl, (by rw [hb10]; rfl)⟩⟩ rfl ?_
        refine AOR.pure (LT.pickT (v := (.s (.c (bC true)))) rfl hb10) ⟨rfl, ⟨rfl, rfl⟩, trivial⟩ trivial rfl rfl ?_
        refine AOR.pure (LT.move (v := (.s (.c (bC true)))) rfl) ⟨rfl, trivial⟩ trivial rfl rfl ?_
        refine AOR.skip ⟨_, rfl, .inl ⟨_, rfl, rfl⟩⟩ rfl ?_
        refine AOR.skip ⟨_, rfl, .inl ⟨_, rfl, rfl⟩⟩ rfl ?_
        refine AOR.skip ⟨_, rfl, .inl ⟨_, rfl, rfl⟩⟩ rfl ?_
        refine AOR.skip ⟨_, rfl, .inl ⟨_, rfl, rfl⟩⟩ rfl ?_
        refine AOR.skip ⟨_, rfl, .inl ⟨_, rfl, rfl⟩⟩ rfl ?_
        refine AOR.skip ⟨_, rfl, .inl ⟨_, rfl, rfl⟩⟩ rfl ?_
        refine AOR.skip ⟨_, rfl, .inl ⟨_, rfl, rfl⟩⟩ rfl ?_
        refine AOR.pure (LT.pickT (v := (.s (.c (bC true)))) rfl rfl) ⟨rfl, ⟨rfl, rfl⟩, trivial⟩ trivial rfl rfl ?_
        refine AOR.nil ?_
        refine AWR.nil ⟨rfl, Ent.of ⟨rfl, rfl, rfl, rfl, trivial⟩ ⟨rfl, rfl, trivial⟩⟩
      · refine AOR.pure (LT.fieldPl rfl fo140_0) ⟨rfl, trivial⟩ trivial ⟨_, rfl, .inl ⟨_, rfl, (by rw [hb10]; rfl)⟩⟩ rfl ?_
        refine AOR.pure (LT.bload1 (c := (.pv (.xs false (p.Free.map encInt)))) rfl ag37 (by exact rfl)) ⟨rfl, trivial⟩ ⟨rfl, trivial⟩ ⟨_, rfl, .inl ⟨_, rfl, (by rw [hb10]; rfl)⟩⟩ rfl ?_
        refine AOR.pure (LT.tlenRO rfl und37) ⟨rfl, trivial⟩ trivial ⟨_, rfl, .inl ⟨_, rfl, (by rw [hb10]; rfl)⟩⟩ rfl ?_
        refine AOR.pure (LT.fieldPl rfl fo26_0) ⟨rfl, trivial⟩ trivial ⟨_, rfl, .inl ⟨_, rfl, (by rw [hb10]; rfl)⟩⟩ rfl ?_
        refine AOR.pure (LT.bload1 (c := (iC g.Points)) rfl ag3 (by exact rfl)) ⟨rfl, trivial⟩ ⟨rfl, trivial⟩ ⟨_, rfl, .inl ⟨_, rfl, (by rw [hb10]; rfl)⟩⟩ rfl ?_
        refine AOR.pure (LT.neq rfl) ⟨rfl, rfl, trivial⟩ trivial ⟨_, rfl, .inl ⟨_, rfl, (by rw [hb10]; rfl)⟩⟩ rfl ?_
        refine AOR.pure (LT.pickF (v := (.s (.c (bC ((p.Free.length : Int) != g.Points))))) rfl hb10) ⟨rfl, rfl, trivial⟩ trivial rfl rfl ?_
        refine AOR.pure (LT.move (v := (.s (.c (bC ((p.Free.length : Int) != g.Points))))) rfl) ⟨rfl, trivial⟩ trivial rfl rfl ?_
        refine AOR.split (fun hb11 => ?_) (fun hb11 => ?_)
        · refine AOR.skip ⟨_, rfl, .inl ⟨_, rfl, (by rw [hb11]; rfl)⟩⟩ rfl ?_
          refine AOR.skip ⟨_, rfl, .inl ⟨_, rfl, (by rw [hb11]; rfl)⟩⟩ rfl ?_
          refine AOR.skip ⟨_, rfl, .inl ⟨_, rfl, (by rw [hb11]; rfl)⟩⟩ rfl ?_
          refine AOR.skip ⟨_, rfl, .inl ⟨_, rfl, (by rw [hb11]; rfl)⟩⟩ rfl ?_
          refine AOR.skip ⟨_, rfl, .inl ⟨_, rfl, (by rw [hb11]; rfl)⟩⟩ rfl ?_
          refine AOR.skip ⟨_, rfl, .inl ⟨_, rfl, (by rw [hb11]; rfl)⟩⟩ rfl ?_
          refine AOR.skip ⟨_, rfl, .inl ⟨_, rfl, (by rw [hb11]; rfl)⟩⟩ rfl ?_
          refine AOR.pure (LT.pickT (v := (.s (.c (bC true)))) rfl hb11) ⟨rfl, ⟨rfl, rfl⟩, trivial⟩ trivial rfl rfl ?_
          refine AOR.nil ?_
          refine AWR.nil ⟨rfl, Ent.of ⟨rfl, rfl, rfl, rfl, trivial⟩ ⟨rfl, rfl, trivial⟩⟩
        · refine AOR.pure (LT.fieldPl rfl fo140_1) ⟨rfl, trivial⟩ trivial ⟨_, rfl, .inl ⟨_, rfl, (by rw [hb11]; rfl)⟩⟩ rfl ?_
          refine AOR.pure (LT.bload1 (c := (.pv (.xs false (p.Tails.map encInt)))) rfl ag37 (by exact rfl)) ⟨rfl, trivial⟩ ⟨rfl, trivial⟩ ⟨_, rfl, .inl ⟨_, rfl, (by rw [hb11]; rfl)⟩⟩ rfl ?_
          refine AOR.pure (LT.tlenRO rfl und37) ⟨rfl, trivial⟩ trivial ⟨_, rfl, .inl ⟨_, rfl, (by rw [hb11]; rfl)⟩⟩ rfl ?_
          refine AOR.pure (LT.fieldPl rfl fo140_2) ⟨rfl, trivial⟩ trivial ⟨_, rfl, .inl ⟨_, rfl, (by rw [hb11]; rfl)⟩⟩ rfl ?_
          refine AOR.pure (LT.bload1 (c := (.pv (.xs false (p.Placed.map encInt)))) rfl ag37 (by exact rfl)) ⟨rfl, trivial⟩ ⟨rfl, trivial⟩ ⟨_, rfl, .inl ⟨_, rfl, (by rw [hb11]; rfl)⟩⟩ rfl ?_
          refine AOR.pure (LT.tlenRO rfl und37) ⟨rfl, trivial⟩ trivial ⟨_, rfl, .inl ⟨_, rfl, (by rw [hb11]; rfl)⟩⟩ rfl ?_
          refine AOR.pure (LT.neq rfl) ⟨rfl, rfl, trivial⟩ trivial ⟨_, rfl, .inl ⟨_, rfl, (by rw [hb11]; rfl)⟩⟩ rfl ?_
          refine AOR.pure (LT.pickF (v := (.s (.c (bC ((p.Tails.length : Int) != (p.Placed.length : Int)))))) rfl hb11) ⟨rfl, rfl, trivial⟩ trivial rfl rfl ?_
          refine AOR.nil ?_
          refine AWR.nil ⟨rfl, Ent.of ⟨rfl, rfl, rfl, rfl, trivial⟩ ⟨rfl, rfl, trivial⟩⟩
  · refine AWR.cond rfl (fun hc12 => ?_) (fun hc12 => ?_)
    · refine AWR.seq ?_
      refine AWR.region ?_
      refine AOR.pure (LT.assign (v := (.s (.c (bC false)))) rfl) ⟨⟨rfl, rfl⟩, trivial⟩ trivial rfl rfl ?_
      refine AOR.nil ?_
      refine AWR.ret (FPost.mk (.inr rfl) ⟨rfl, trivial⟩ trivial rfl ⟨PermP.sc, trivial⟩ trivial)
    · refine AWR.skip ?_
      refine AWR.seq ?_
      refine AWR.seq ?_
      refine AWR.region ?_
      refine AOR.pure (LT.assign (v := (.s (.c (iC 0)))) rfl) ⟨⟨rfl, rfl⟩, trivial⟩ trivial rfl rfl ?_
      refine AOR.nil ?_
      refine AWR.block ?_
      refine AWR.loopR (id := 0) (m_spec_IsPebbles_L1 g p) (fun s13 => ([(1, (.s (.c (iC k)))), (3, (.s (.c (.pl 21 0)))), (5, (.s (.c (.pl 22 0)))), (7, (.s (.c (iC s13))))], [(21, (.row 26 [[(iC g.Points), (.pv (.xs false (g.Bars.map encTBar)))]])), (22, (.row 140 [[(.pv (.xs false (p.Free.map encInt))), (.pv (.xs false (p.Tails.map encInt))), (.pv (.xs false (p.Placed.map encInt)))]]))])) (fun b82 => ([(1, (.s (.c (iC k)))), (3, (.s (.c (.pl 21 0)))), (5, (.s (.c (.pl 22 0))))], [(21, (.row 26 [[(iC g.Points), (.pv (.xs false (g.Bars.map encTBar)))]])), (22, (.row 140 [[(.pv (.xs false (p.Free.map encInt))), (.pv (.xs false (p.Tails.map encInt))), (.pv (.xs false (p.Placed.map encInt)))]]))])) (FPost Try.prog Try.f204.results.toList [] [] (fun (t : Bool) => [(.c (bC t))]) (fun (t : Bool) => [])) ?_ (Ent.of ⟨rfl, rfl, rfl, rfl, trivial⟩ ⟨rfl, rfl, trivial⟩) rfl (fun b82 _ => ?_) (by intro r t σ m ht hk; injection ht with ht; subst ht; exact hk)
      · intro s13
        unfold m_spec_IsPebbles_L1
        refine AWR.seq ?_
        refine AWR.seq ?_
        refine AWR.region ?_
        refine AOR.pure (LT.move (v := (.s (.c (iC s13)))) rfl) ⟨rfl, trivial⟩ trivial rfl rfl ?_
        refine AOR.pure (LT.fieldPl rfl fo140_2) ⟨rfl, trivial⟩ trivial rfl rfl ?_
        refine AOR.pure (LT.bload1 (c := (.pv (.xs false (p.Placed.map encInt)))) rfl ag37 (by exact rfl)) ⟨rfl, trivial⟩ ⟨rfl, trivial⟩ rfl rfl ?_
        refine AOR.pure (LT.tlenRO rfl und37) ⟨rfl, trivial⟩ trivial rfl rfl ?_
        refine AOR.pure (LT.lss rfl) ⟨rfl, rfl, trivial⟩ trivial rfl rfl ?_
        refine AOR.nil ?_
        refine AWR.cond rfl (fun hc83 => ?_) (fun hc83 => ?_)
        · refine AWR.skip ?_
          refine AWR.seq ?_
          refine AWR.block ?_
          refine AWR.seq ?_
          refine AWR.region ?_
          refine AOR.pure (LT.fieldPl rfl fo140_2) ⟨rfl, trivial⟩ trivial rfl rfl ?_
          refine AOR.pure (LT.bload1 (c := (.pv (.xs false (p.Placed.map encInt)))) rfl ag37 (by exact rfl)) ⟨rfl, trivial⟩ ⟨rfl, trivial⟩ rfl rfl ?_
          refine AOR.pure (LT.move (v := (.s (.c (iC s13)))) rfl) ⟨rfl, trivial⟩ trivial rfl rfl ?_
          refine AOR.bind fun x84 hx84 => ?_
          refine AOR.pure (LT.tindexRO (enc := encInt) rfl el37 hx84 sz3) ⟨rfl, rfl, trivial⟩ trivial rfl rfl ?_
          refine AOR.pure (LT.loadPx1 rfl ag3) ⟨rfl, trivial⟩ trivial rfl rfl ?_
          refine AOR.pure (LT.assign (v := (.s (.c (iC x84)))) rfl) ⟨rfl, trivial⟩ trivial rfl rfl ?_
          refine AOR.nil ?_
          refine AWR.seq ?_
          refine AWR.joinK (fun j100 => ([(1, (.s (.c (iC k)))), (3, (.s (.c (.pl 21 0)))), (5, (.s (.c (.pl 22 0)))), (7, (.s (.c (iC s13)))), (97, (.s (.c (bC j100))))], [(21, (.row 26 [[(iC g.Points), (.pv (.xs false (g.Bars.map encTBar)))]])), (22, (.row 140 [[(.pv (.xs false (p.Free.map encInt))), (.pv (.xs false (p.Tails.map encInt))), (.pv (.xs false (p.Placed.map encInt)))]]))])) ?_ (fun j100 _ => ?_)
          · refine AWR.ent (Ent.of (σ' := [(1, (.s (.c (iC k)))), (3, (.s (.c (.pl 21 0)))), (5, (.s (.c (.pl 22 0)))), (7, (.s (.c (iC s13)))), (8, (.s (.c (iC x84))))]) (m' := [(21, (.row 26 [[(iC g.Points), (.pv (.xs false (g.Bars.map encTBar)))]])), (22, (.row 140 [[(.pv (.xs false (p.Free.map encInt))), (.pv (.xs false (p.Tails.map encInt))), (.pv (.xs false (p.Placed.map encInt)))]]))]) ⟨rfl, rfl, rfl, rfl, rfl, trivial⟩ ⟨rfl, rfl, trivial⟩) ?_
            refine AWR.draw mixed ?_
            refine AOD.pure (LT.move (v := (.s (.c (iC x84)))) rfl) ⟨rfl, trivial⟩ trivial rfl rfl ?_
            refine AOD.pure (LT.lss rfl) ⟨rfl, ⟨rfl, rfl⟩, trivial⟩ trivial rfl rfl ?_
            refine AOD.pure (LT.move (v := (.s (.c (bC (decide (x84 < 0)))))) rfl) ⟨rfl, trivial⟩ trivial rfl rfl ?_
            refine AOD.split (fun hb101 => ?_) (fun hb101 => ?_)
            · refine AOD.skip ⟨_, rfl, .inl ⟨_, rfl, (by rw [hb101]; rfl)⟩⟩ rfl ?_
              refine AOD.skip ⟨_, rfl, .inl ⟨_, rfl, (by rw [hb101]; rfl)⟩⟩ rfl ?_
              refine AOD.skip ⟨_, rfl, .inl ⟨_, rfl, (by rw [hb101]; rfl)⟩⟩ rfl ?_
              refine AOD.skip ⟨_, rfl, .inl ⟨_, rfl, (by rw [hb101]; rfl)⟩⟩ rfl ?_
              refine AOD.skip ⟨_, rfl, .inl ⟨_, rfl, (by rw [hb101]; rfl)⟩⟩ rfl ?_
              refine AOD.pure (LT.pickT (v := (.s (.c (bC true)))) rfl hb101) ⟨rfl, ⟨rfl, rfl⟩, trivial⟩ trivial rfl rfl ?_
              refine AOD.pure (LT.move (v := (.s (.c (bC true)))) rfl) ⟨rfl, trivial⟩ trivial rfl rfl ?_
              refine AOD.skip ⟨_, rfl, .inl ⟨_, rfl, rfl⟩⟩ rfl ?_
              refine AOD.skip ⟨_, rfl, .inl ⟨_, rfl, rfl⟩⟩ rfl ?_
              refine AOD.skip ⟨_, rfl, .inl ⟨_, rfl, rfl⟩⟩ rfl ?_
              refine AOD.skip ⟨_, rfl, .inr ⟨rfl, rfl⟩⟩ rfl ?_
              refine AOD.skip ⟨_, rfl, .inr ⟨rfl, rfl⟩⟩ rfl ?_
              refine AOD.skip ⟨_, rfl, .inr ⟨rfl, rfl⟩⟩ rfl ?_
              refine AOD.skip ⟨_, rfl, .inr ⟨rfl, rfl⟩⟩ rfl ?_
              refine AOD.skip ⟨_, rfl, .inr ⟨rfl, rfl⟩⟩ rfl ?_
              refine AOD.skip ⟨_, rfl, .inr ⟨rfl, rfl⟩⟩ rfl ?_
              refine AOD.skip ⟨_, rfl, .inr ⟨rfl, rfl⟩⟩ rfl ?_
              refine AOD.skip ⟨_, rfl, .inr ⟨rfl, rfl⟩⟩ rfl ?_
              refine AOD.skip ⟨_, rfl, .inl ⟨_, rfl, rfl⟩⟩ rfl ?_
              refine AOD.pure (LT.pickT (v := (.s (.c (bC true)))) rfl rfl) ⟨rfl, ⟨rfl, rfl⟩, trivial⟩ trivial rfl rfl ?_
              refine AOD.pure (LT.move (v := (.s (.c (bC true)))) rfl) ⟨rfl, trivial⟩ trivial rfl rfl ?_
              refine AOD.skip ⟨_, rfl, .inl ⟨_, rfl, rfl⟩⟩ rfl ?_
              refine AOD.skip ⟨_, rfl, .inl ⟨_, rfl, rfl⟩⟩ rfl ?_
              refine AOD.skip ⟨_, rfl, .inl ⟨_, rfl, rfl⟩⟩ rfl ?_
              refine AOD.skip ⟨_, rfl, .inl ⟨_, rfl, rfl⟩⟩ rfl ?_
              refine AOD.skip ⟨_, rfl, .inl ⟨_, rfl, rfl⟩⟩ rfl ?_
              refine AOD.skip ⟨_, rfl, .inl ⟨_, rfl, rfl⟩⟩ rfl ?_
              refine AOD.skip ⟨_, rfl, .inl ⟨_, rfl, rfl⟩⟩ rfl ?_
              refine AOD.skip ⟨_, rfl, .inl ⟨_, rfl, rfl⟩⟩ rfl ?_
              refine AOD.skip ⟨_, rfl, .inl ⟨_, rfl, rfl⟩⟩ rfl ?_
              refine AOD.skip ⟨_, rfl, .inl ⟨_, rfl, rfl⟩⟩ rfl ?_
              refine AOD.skip ⟨_, rfl, .inl ⟨_, rfl, rfl⟩⟩ rfl ?_
              refine AOD.skip ⟨_, rfl, .inl ⟨_, rfl, rfl⟩⟩ rfl ?_
              refine AOD.skip ⟨_, rfl, .inl ⟨_, rfl, rfl⟩⟩ rfl ?_
              refine AOD.skip ⟨_, rfl, .inr ⟨rfl, rfl⟩⟩ rfl ?_
              refine AOD.skip ⟨_, rfl, .inr ⟨rfl, rfl⟩⟩ rfl ?_
              refine AOD.skip ⟨_, rfl, .inr ⟨rfl, rfl⟩⟩ rfl ?_
              refine AOD.skip ⟨_, rfl, .inr ⟨rfl, rfl⟩⟩ rfl ?_
              refine AOD.skip ⟨_, rfl, .inr ⟨rfl, rfl⟩⟩ rfl ?_
              refine AOD.skip ⟨_, rfl, .inr ⟨rfl, rfl⟩⟩ rfl ?_
              refine AOD.skip ⟨_, rfl, .inr ⟨rfl, rfl⟩⟩ rfl ?_
              refine AOD.skip ⟨_, rfl, .inr ⟨rfl, rfl⟩⟩ rfl ?_
              refine AOD.skip ⟨_, rfl, .inr ⟨rfl, rfl⟩⟩ rfl ?_
              refine AOD.skip ⟨_, rfl, .inr ⟨rfl, rfl⟩⟩ rfl ?_
              refine AOD.skip ⟨_, rfl, .inr ⟨rfl, rfl⟩⟩ rfl ?_
              refine AOD.skip ⟨_, rfl, .inr ⟨rfl, rfl⟩⟩ rfl ?_
              refine AOD.skip ⟨_, rfl, .inl ⟨_, rfl, rfl⟩⟩ rfl ?_
              refine AOD.pure (LT.pickT (v := (.s (.c (bC true)))) rfl rfl) ⟨rfl, ⟨rfl, rfl⟩, trivial⟩ trivial rfl rfl ?_
              refine AOD.nil (by kernel_rfl) ?_
              refine AWR.nil ⟨rfl, Ent.of ⟨rfl, rfl, rfl, rfl, rfl, trivial⟩ ⟨rfl, rfl, trivial⟩⟩
            · refine AOD.pure (LT.move (v := (.s (.c (iC x84)))) rfl) ⟨rfl, trivial⟩ trivial ⟨_, rfl, .inl ⟨_, rfl, (by rw [hb101]; rfl)⟩⟩ rfl ?_
              refine AOD.pure (LT.fieldPl rfl fo26_1) ⟨rfl, trivial⟩ trivial ⟨_, rfl, .inl ⟨_, rfl, (by rw [hb101]; rfl)⟩⟩ rfl ?_
              refine AOD.pure (LT.bload1 (c := (.pv (.xs false (g.Bars.map encTBar)))) rfl ag24 (by exact rfl)) ⟨rfl, trivial⟩ ⟨rfl, trivial⟩ ⟨_, rfl, .inl ⟨_, rfl, (by rw [hb101]; rfl)⟩⟩ rfl ?_
              refine AOD.pure (LT.tlenRO rfl und24) ⟨rfl, trivial⟩ trivial ⟨_, rfl, .inl ⟨_, rfl, (by rw [hb101]; rfl)⟩⟩ rfl ?_
              refine AOD.pure (LT.geq rfl) ⟨rfl, rfl, trivial⟩ trivial ⟨_, rfl, .inl ⟨_, rfl, (by rw [hb101]; rfl)⟩⟩ rfl ?_
              refine AOD.pure (LT.pickF (v := (.s (.c (bC (decide ((g.Bars.length : Int) ≤ x84)))))) rfl hb101) ⟨rfl, rfl, trivial⟩ trivial rfl rfl ?_
              refine AOD.pure (LT.move (v := (.s (.c (bC (decide ((g.Bars.length : Int) ≤ x84)))))) rfl) ⟨rfl, trivial⟩ trivial rfl rfl ?_
              refine AOD.split (fun hb102 => ?_) (fun hb102 => ?_)
              · refine AOD.skip ⟨_, rfl, .inl ⟨_, rfl, (by rw [hb102]; rfl)⟩⟩ rfl ?_
                refine AOD.skip ⟨_, rfl, .inl ⟨_, rfl, (by rw [hb102]; rfl)⟩⟩ rfl ?_
                refine AOD.skip ⟨_, rfl, .inl ⟨_, rfl, (by rw [hb102]; rfl)⟩⟩ rfl ?_
                refine AOD.skip ⟨_, rfl, .inr ⟨rfl, rfl⟩⟩ rfl ?_
                refine AOD.skip ⟨_, rfl, .inr ⟨rfl, rfl⟩⟩ rfl ?_
                refine AOD.skip ⟨_, rfl, .inr ⟨rfl, rfl⟩⟩ rfl ?_
                refine AOD.skip ⟨_, rfl, .inr ⟨rfl, rfl⟩⟩ rfl ?_
                refine AOD.skip ⟨_, rfl, .inr ⟨rfl, rfl⟩⟩ rfl ?_
                refine AOD.skip ⟨_, rfl, .inr ⟨rfl, rfl⟩⟩ rfl ?_
                refine AOD.skip ⟨_, rfl, .inr ⟨rfl, rfl⟩⟩ rfl ?_
                refine AOD.skip ⟨_, rfl, .inr ⟨rfl, rfl⟩⟩ rfl ?_
                refine AOD.skip ⟨_, rfl, .inl ⟨_, rfl, (by rw [hb102]; rfl)⟩⟩ rfl ?_
                refine AOD.pure (LT.pickT (v := (.s (.c (bC true)))) rfl hb102) ⟨rfl, ⟨rfl, rfl⟩, trivial⟩ trivial rfl rfl ?_
                refine AOD.pure (LT.move (v := (.s (.c (bC true)))) rfl) ⟨rfl, trivial⟩ trivial rfl rfl ?_
                refine AOD.skip ⟨_, rfl, .inl ⟨_, rfl, rfl⟩⟩ rfl ?_
                refine AOD.skip ⟨_, rfl, .inl ⟨_, rfl, rfl⟩⟩ rfl ?_
                refine AOD.skip ⟨_, rfl, .inl ⟨_, rfl, rfl⟩⟩ rfl ?_
                refine AOD.skip ⟨_, rfl, .inl ⟨_, rfl, rfl⟩⟩ rfl ?_
                refine AOD.skip ⟨_, rfl, .inl ⟨_, rfl, rfl⟩⟩ rfl ?_
                refine AOD.skip ⟨_, rfl, .inl ⟨_, rfl, rfl⟩⟩ rfl ?_
                refine AOD.skip ⟨_, rfl, .inl ⟨_, rfl, rfl⟩⟩ rfl ?_
                refine AOD.skip ⟨_, rfl, .inl ⟨_, rfl, rfl⟩⟩ rfl ?_
                refine AOD.skip ⟨_, rfl, .inl ⟨_, rfl, rfl⟩⟩ rfl ?_
                refine AOD.skip ⟨_, rfl, .inl ⟨_, rfl, rfl⟩⟩ rfl ?_
                refine AOD.skip ⟨_, rfl, .inl ⟨_, rfl, rfl⟩⟩ rfl ?_
                refine AOD.skip ⟨_, rfl, .inl ⟨_, rfl, rfl⟩⟩ rfl ?_
                refine AOD.skip ⟨_, rfl, .inl ⟨_, rfl, rfl⟩⟩ rfl ?_
                refine AOD.skip ⟨_, rfl, .inr ⟨rfl, rfl⟩⟩ rfl ?_
                refine AOD.skip ⟨_, rfl, .inr ⟨rfl, rfl⟩⟩ rfl ?_
                refine AOD.skip ⟨_, rfl, .inr ⟨rfl, rfl⟩⟩ rfl ?_
                refine AOD.skip ⟨_, rfl, .inr ⟨rfl, rfl⟩⟩ rfl ?_
                refine AOD.skip ⟨_, rfl, .inr ⟨rfl, rfl⟩⟩ rfl ?_
                refine AOD.skip ⟨_, rfl, .inr ⟨rfl, rfl⟩⟩ rfl ?_
                refine AOD.skip ⟨_, rfl, .inr ⟨rfl, rfl⟩⟩ rfl ?_
                refine AOD.skip ⟨_, rfl, .inr ⟨rfl, rfl⟩⟩ rfl ?_
                refine AOD.skip ⟨_, rfl, .inr ⟨rfl, rfl⟩⟩ rfl ?_
                refine AOD.skip ⟨_, rfl, .inr ⟨rfl, rfl⟩⟩ rfl ?_
                refine AOD.skip ⟨_, rfl, .inr ⟨rfl, rfl⟩⟩ rfl ?_
                refine AOD.skip ⟨_, rfl, .inr ⟨rfl, rfl⟩⟩ rfl ?_
                refine AOD.skip ⟨_, rfl, .inl ⟨_, rfl, rfl⟩⟩ rfl ?_
                refine AOD.pure (LT.pickT (v := (.s (.c (bC true)))) rfl rfl) ⟨rfl, ⟨rfl, rfl⟩, trivial⟩ trivial rfl rfl ?_
                refine AOD.nil (by kernel_rfl) ?_
                refine AWR.nil ⟨rfl, Ent.of ⟨rfl, rfl, rfl, rfl, rfl, trivial⟩ ⟨rfl, rfl, trivial⟩⟩
              · refine AOD.pure (LT.move (v := (.s (.c (iC s13)))) rfl) ⟨rfl, trivial⟩ trivial ⟨_, rfl, .inl ⟨_, rfl, (by rw [hb102]; rfl)⟩⟩ rfl ?_
                refine AOD.pure (LT.gtr rfl) ⟨rfl, ⟨rfl, rfl⟩, trivial⟩ trivial ⟨_, rfl, .inl ⟨_, rfl, (by rw [hb102]; rfl)⟩⟩ rfl ?_
                refine AOD.pure (LT.move (v := (.s (.c (bC (decide (0 < s13)))))) rfl) ⟨rfl, trivial⟩ trivial ⟨_, rfl, .inl ⟨_, rfl, (by rw [hb102]; rfl)⟩⟩ rfl ?_
                refine AOD.split (fun hb103 => ?_) (fun hb103 => ?_)
                · refine AOD.pure (LT.fieldPl rfl fo140_2) ⟨rfl, trivial⟩ trivial ⟨_, rfl, .inl ⟨_, rfl, (by rw [hb103]; rfl)⟩⟩ rfl ?_
                  refine AOD.pure (LT.bload1 (c := (.pv (.xs false (p.Placed.map encInt)))) rfl ag37 (by exact rfl)) ⟨rfl, trivial⟩ ⟨rfl, trivial⟩ ⟨_, rfl, .inl ⟨_, rfl, (by rw [hb103]; rfl)⟩⟩ rfl ?_
                  refine AOD.pure (LT.move (v := (.s (.c (iC s13)))) rfl) ⟨rfl, trivial⟩ trivial ⟨_, rfl, .inl ⟨_, rfl, (by rw [hb103]; rfl)⟩⟩ rfl ?_
                  refine AOD.pure (LT.sub rfl) ⟨rfl, ⟨rfl, rfl⟩, trivial⟩ trivial ⟨_, rfl, .inl ⟨_, rfl, (by rw [hb103]; rfl)⟩⟩ rfl ?_
                  refine AOD.bind fun x104 hx104 => ?_
                  refine AOD.pure (LT.tindexRO (enc := encInt) rfl el37 hx104 sz3) ⟨rfl, rfl, trivial⟩ trivial ⟨_, rfl, .inl ⟨_, rfl, (by rw [hb103]; rfl)⟩⟩ rfl ?_
                  refine AOD.pure (LT.loadPx1 rfl ag3) ⟨rfl, trivial⟩ trivial ⟨_, rfl, .inl ⟨_, rfl, (by rw [hb103]; rfl)⟩⟩ rfl ?_
                  refine AOD.pure (LT.move (v := (.s (.c (iC x84)))) rfl) ⟨rfl, trivial⟩ trivial ⟨_, rfl, .inl ⟨_, rfl, (by rw [hb103]; rfl)⟩⟩ rfl ?_
                  refine AOD.pure (LT.geq rfl) ⟨rfl, rfl, trivial⟩ trivial ⟨_, rfl, .inl ⟨_, rfl, (by rw [hb103]; rfl)⟩⟩ rfl ?_
                  refine AOD.pure (LT.pickT (v := (.s (.c (bC (decide (x84 ≤ x104)))))) rfl hb103) ⟨rfl, rfl, trivial⟩ trivial ⟨_, rfl, .inl ⟨_, rfl, (by rw [hb102]; rfl)⟩⟩ rfl ?_
                  refine AOD.pure (LT.pickF (v := (.s (.c (bC (decide (x84 ≤ x104)))))) rfl hb102) ⟨rfl, rfl, trivial⟩ trivial rfl rfl ?_
                  refine AOD.pure (LT.move (v := (.s (.c (bC (decide (x84 ≤ x104)))))) rfl) ⟨rfl, trivial⟩ trivial rfl rfl ?_
                  refine AOD.split (fun hb105 => ?_) (fun hb105 => ?_)
                  · refine AOD.skip ⟨_, rfl, .inl ⟨_, rfl, (by rw [hb105]; rfl)⟩⟩ rfl ?_
                    refine AOD.skip ⟨_, rfl, .inl ⟨_, rfl, (by rw [hb105]; rfl)⟩⟩ rfl ?_
                    refine AOD.skip ⟨_, rfl, .inl ⟨_, rfl, (by rw [hb105]; rfl)⟩⟩ rfl ?_
                    refine AOD.skip ⟨_, rfl, .inl ⟨_, rfl, (by rw [hb105]; rfl)⟩⟩ rfl ?_
                    refine AOD.skip ⟨_, rfl, .inl ⟨_, rfl, (by rw [hb105]; rfl)⟩⟩ rfl ?_
                    refine AOD.skip ⟨_, rfl, .inl ⟨_, rfl, (by rw [hb105]; rfl)⟩⟩ rfl ?_
                    refine AOD.skip ⟨_, rfl, .inl ⟨_, rfl, (by rw [hb105]; rfl)⟩⟩ rfl ?_
                    refine AOD.skip ⟨_, rfl, .inl ⟨_, rfl, (by rw [hb105]; rfl)⟩⟩ rfl ?_
                    refine AOD.skip ⟨_, rfl, .inl ⟨_, rfl, (by rw [hb105]; rfl)⟩⟩ rfl ?_
                    refine AOD.skip ⟨_, rfl, .inl ⟨_, rfl, (by rw [hb105]; rfl)⟩⟩ rfl ?_
                    refine AOD.skip ⟨_, rfl, .inl ⟨_, rfl, (by rw [hb105]; rfl)⟩⟩ rfl ?_
                    refine AOD.skip ⟨_, rfl, .inl ⟨_, rfl, (by rw [hb105]; rfl)⟩⟩ rfl ?_
                    refine AOD.skip ⟨_, rfl, .inl ⟨_, rfl, (by rw [hb105]; rfl)⟩⟩ rfl ?_
                    refine AOD.skip ⟨_, rfl, .inr ⟨rfl, rfl⟩⟩ rfl ?_
                    refine AOD.skip ⟨_, rfl, .inr ⟨rfl, rfl⟩⟩ rfl ?_
                    refine AOD.skip ⟨_, rfl, .inr ⟨rfl, rfl⟩⟩ rfl ?_
                    refine AOD.skip ⟨_, rfl, .inr ⟨rfl, rfl⟩⟩ rfl ?_
                    refine AOD.skip ⟨_, rfl, .inr ⟨rfl, rfl⟩⟩ rfl ?_
                    refine AOD.skip ⟨_, rfl, .inr ⟨rfl, rfl⟩⟩ rfl ?_
                    refine AOD.skip ⟨_, rfl, .inr ⟨rfl, rfl⟩⟩ rfl ?_
                    refine AOD.skip ⟨_, rfl, .inr ⟨rfl, rfl⟩⟩ rfl ?_
                    refine AOD.skip ⟨_, rfl, .inr ⟨rfl, rfl⟩⟩ rfl ?_
                    refine AOD.skip ⟨_, rfl, .inr ⟨rfl, rfl⟩⟩ rfl ?_
                    refine AOD.skip ⟨_, rfl, .inr ⟨rfl, rfl⟩⟩ rfl ?_
                    refine AOD.skip ⟨_, rfl, .inr ⟨rfl, rfl⟩⟩ rfl ?_
                    refine AOD.skip ⟨_, rfl, .inl ⟨_, rfl, (by rw [hb105]; rfl)⟩⟩ rfl ?_
                    refine AOD.pure (LT.pickT (v := (.s (.c (bC true)))) rfl hb105) ⟨rfl, ⟨rfl, rfl⟩, trivial⟩ trivial rfl rfl ?_
                    refine AOD.nil (by kernel_rfl) ?_
                    refine AWR.nil ⟨rfl, Ent.of ⟨rfl, rfl, rfl, rfl, rfl, trivial⟩ ⟨rfl, rfl, trivial⟩⟩
                  · refine AOD.pure (LT.fieldPl rfl fo140_1) ⟨rfl, trivial⟩ trivial ⟨_, rfl, .inl ⟨_, rfl, (by rw [hb105]; rfl)⟩⟩ rfl ?_
                    refine AOD.pure (LT.bload1 (c := (.pv (.xs false (p.Tails.map encInt)))) rfl ag37 (by exact rfl)) ⟨rfl, trivial⟩ ⟨rfl, trivial⟩ ⟨_, rfl, .inl ⟨_, rfl, (by rw [hb105]; rfl)⟩⟩ rfl ?_
                    refine AOD.pure (LT.move (v := (.s (.c (iC s13)))) rfl) ⟨rfl, trivial⟩ trivial ⟨_, rfl, .inl ⟨_, rfl, (by rw [hb105]; rfl)⟩⟩ rfl ?_
                    refine AOD.bind fun x106 hx106 => ?_
                    refine AOD.pure (LT.tindexRO (enc := encInt) rfl el37 hx106 sz3) ⟨rfl, rfl, trivial⟩ trivial ⟨_, rfl, .inl ⟨_, rfl, (by rw [hb105]; rfl)⟩⟩ rfl ?_
                    refine AOD.pure (LT.loadPx1 rfl ag3) ⟨rfl, trivial⟩ trivial ⟨_, rfl, .inl ⟨_, rfl, (by rw [hb105]; rfl)⟩⟩ rfl ?_
                    refine AOD.pure (LT.fieldPl rfl fo26_1) ⟨rfl, trivial⟩ trivial ⟨_, rfl, .inl ⟨_, rfl, (by rw [hb105]; rfl)⟩⟩ rfl ?_
                    refine AOD.pure (LT.bload1 (c := (.pv (.xs false (g.Bars.map encTBar)))) rfl ag24 (by exact rfl)) ⟨rfl, trivial⟩ ⟨rfl, trivial⟩ ⟨_, rfl, .inl ⟨_, rfl, (by rw [hb105]; rfl)⟩⟩ rfl ?_
                    refine AOD.pure (LT.move (v := (.s (.c (iC x84)))) rfl) ⟨rfl, trivial⟩ trivial ⟨_, rfl, .inl ⟨_, rfl, (by rw [hb105]; rfl)⟩⟩ rfl ?_
                    refine AOD.bind fun x107 hx107 => ?_
                    refine AOD.pure (LT.tindexRO (enc := encTBar) rfl el24 hx107 sz79) ⟨rfl, rfl, trivial⟩ trivial ⟨_, rfl, .inl ⟨_, rfl, (by rw [hb105]; rfl)⟩⟩ rfl ?_
                    refine AOD.pure (LT.fieldPx rfl fo79_0) ⟨rfl, trivial⟩ trivial ⟨_, rfl, .inl ⟨_, rfl, (by rw [hb105]; rfl)⟩⟩ rfl ?_
                    refine AOD.pure (LT.loadPx1 rfl ag3) ⟨rfl, trivial⟩ trivial ⟨_, rfl, .inl ⟨_, rfl, (by rw [hb105]; rfl)⟩⟩ rfl ?_
                    refine AOD.pure (LT.neq rfl) ⟨rfl, rfl, trivial⟩ trivial ⟨_, rfl, .inl ⟨_, rfl, (by rw [hb105]; rfl)⟩⟩ rfl ?_
                    refine AOD.pure (LT.move (v := (.s (.c (bC (x106 != x107.A))))) rfl) ⟨rfl, trivial⟩ trivial ⟨_, rfl, .inl ⟨_, rfl, (by rw [hb105]; rfl)⟩⟩ rfl ?_
                    refine AOD.split (fun hb108 => ?_) (fun hb108 => ?_)
                    · refine AOD.pure (LT.fieldPl rfl fo140_1) ⟨rfl, trivial⟩ trivial ⟨_, rfl, .inl ⟨_, rfl, (by rw [hb108]; rfl)⟩⟩ rfl ?_
                      refine AOD.pure (LT.bload1 (c := (.pv (.xs false (p.Tails.map encInt)))) rfl ag37 (by exact rfl)) ⟨rfl, trivial⟩ ⟨rfl, trivial⟩ ⟨_, rfl, .inl ⟨_, rfl, (by rw [hb108]; rfl)⟩⟩ rfl ?_
                      refine AOD.pure (LT.move (v := (.s (.c (iC s13)))) rfl) ⟨rfl, trivial⟩ trivial ⟨_, rfl, .inl ⟨_, rfl, (by rw [hb108]; rfl)⟩⟩ rfl ?_
                      refine AOD.bind fun x109 hx109 => ?_
                      refine AOD.pure (LT.tindexRO (enc := encInt) rfl el37 hx109 sz3) ⟨rfl, rfl, trivial⟩ trivial ⟨_, rfl, .inl ⟨_, rfl, (by rw [hb108]; rfl)⟩⟩ rfl ?_
                      refine AOD.pure (LT.loadPx1 rfl ag3) ⟨rfl, trivial⟩ trivial ⟨_, rfl, .inl ⟨_, rfl, (by rw [hb108]; rfl)⟩⟩ rfl ?_
                      refine AOD.pure (LT.fieldPl rfl fo26_1) ⟨rfl, trivial⟩ trivial ⟨_, rfl, .inl ⟨_, rfl, (by rw [hb108]; rfl)⟩⟩ rfl ?_
                      refine AOD.pure (LT.bload1 (c := (.pv (.xs false (g.Bars.map encTBar)))) rfl ag24 (by exact rfl)) ⟨rfl, trivial⟩ ⟨rfl, trivial⟩ ⟨_, rfl, .inl ⟨_, rfl, (by rw [hb108]; rfl)⟩⟩ rfl ?_
                      refine AOD.pure (LT.move (v := (.s (.c (iC x84)))) rfl) ⟨rfl, trivial⟩ trivial ⟨_, rfl, .inl ⟨_, rfl, (by rw [hb108]; rfl)⟩⟩ rfl ?_
                      refine AOD.bind fun x110 hx110 => ?_
                      refine AOD.pure (LT.tindexRO (enc := encTBar) rfl el24 hx110 sz79) ⟨rfl, rfl, trivial⟩ trivial ⟨_, rfl, .inl ⟨_, rfl, (by rw [hb108]; rfl)⟩⟩ rfl ?_
                      refine AOD.pure (LT.fieldPx rfl fo79_1) ⟨rfl, trivial⟩ trivial ⟨_, rfl, .inl ⟨_, rfl, (by rw [hb108]; rfl)⟩⟩ rfl ?_
                      refine AOD.pure (LT.loadPx1 rfl ag3) ⟨rfl, trivial⟩ trivial ⟨_, rfl, .inl ⟨_, rfl, (by rw [hb108]; rfl)⟩⟩ rfl ?_
                      refine AOD.pure (LT.neq rfl) ⟨rfl, rfl, trivial⟩ trivial ⟨_, rfl, .inl ⟨_, rfl, (by rw [hb108]; rfl)⟩⟩ rfl ?_
                      refine AOD.pure (LT.pickT (v := (.s (.c (bC (x109 != x110.B))))) rfl hb108) ⟨rfl, rfl, trivial⟩ trivial ⟨_, rfl, .inl ⟨_, rfl, (by rw [hb105]; rfl)⟩⟩ rfl ?_
                      refine AOD.pure (LT.pickF (v := (.s (.c (bC (x109 != x110.B))))) rfl hb105) ⟨rfl, rfl, trivial⟩ trivial rfl rfl ?_
                      refine AOD.nil (by kernel_rfl) ?_
                      refine AWR.nil ⟨rfl, Ent.of ⟨rfl, rfl, rfl, rfl, rfl, trivial⟩ ⟨rfl, rfl, trivial⟩⟩
                    · refine AOD.skip ⟨_, rfl, .inl ⟨_, rfl, (by rw [hb108]; rfl)⟩⟩ rfl ?_
                      refine AOD.skip ⟨_, rfl, .inl ⟨_, rfl, (by rw [hb108]; rfl)⟩⟩ rfl ?_
                      refine AOD.skip ⟨_, rfl, .inl ⟨_, rfl, (by rw [hb108]; rfl)⟩⟩ rfl ?_
                      refine AOD.skip ⟨_, rfl, .inl ⟨_, rfl, (by rw [hb108]; rfl)⟩⟩ rfl ?_
                      refine AOD.skip ⟨_, rfl, .inl ⟨_, rfl, (by rw [hb108]; rfl)⟩⟩ rfl ?_
                      refine AOD.skip ⟨_, rfl, .inl ⟨_, rfl, (by rw [hb108]; rfl)⟩⟩ rfl ?_
                      refine AOD.skip ⟨_, rfl, .inl ⟨_, rfl, (by rw [hb108]; rfl)⟩⟩ rfl ?_
                      refine AOD.skip ⟨_, rfl, .inl ⟨_, rfl, (by rw [hb108]; rfl)⟩⟩ rfl ?_
                      refine AOD.skip ⟨_, rfl, .inl ⟨_, rfl, (by rw [hb108]; rfl)⟩⟩ rfl ?_
                      refine AOD.skip ⟨_, rfl, .inl ⟨_, rfl, (by rw [hb108]; rfl)⟩⟩ rfl ?_
                      refine AOD.skip ⟨_, rfl, .inl ⟨_, rfl, (by rw [hb108]; rfl)⟩⟩ rfl ?_
                      refine AOD.skip ⟨_, rfl, .inl ⟨_, rfl, (by rw [hb108]; rfl)⟩⟩ rfl ?_
                      refine AOD.pure (LT.pickF (v := (.s (.c (bC false)))) rfl hb108) ⟨rfl, ⟨rfl, rfl⟩, trivial⟩ trivial ⟨_, rfl, .inl ⟨_, rfl, (by rw [hb105]; rfl)⟩⟩ rfl ?_
                      refine AOD.pure (LT.pickF (v := (.s (.c (bC false)))) rfl hb105) ⟨rfl, rfl, trivial⟩ trivial rfl rfl ?_
                      refine AOD.nil (by kernel_rfl) ?_
                      refine AWR.nil ⟨rfl, Ent.of ⟨rfl, rfl, rfl, rfl, rfl, trivial⟩ ⟨rfl, rfl, trivial⟩⟩
                · refine AOD.skip ⟨_, rfl, .inl ⟨_, rfl, (by rw [hb103]; rfl)⟩⟩ rfl ?_
                  refine AOD.skip ⟨_, rfl, .inl ⟨_, rfl, (by rw [hb103]; rfl)⟩⟩ rfl ?_
                  refine AOD.skip ⟨_, rfl, .inl ⟨_, rfl, (by rw [hb103]; rfl)⟩⟩ rfl ?_
                  refine AOD.skip ⟨_, rfl, .inl ⟨_, rfl, (by rw [hb103]; rfl)⟩⟩ rfl ?_
                  refine AOD.skip ⟨_, rfl, .inl ⟨_, rfl, (by rw [hb103]; rfl)⟩⟩ rfl ?_
                  refine AOD.skip ⟨_, rfl, .inl ⟨_, rfl, (by rw [hb103]; rfl)⟩⟩ rfl ?_
                  refine AOD.skip ⟨_, rfl, .inl ⟨_, rfl, (by rw [hb103]; rfl)⟩⟩ rfl ?_
                  refine AOD.skip ⟨_, rfl, .inl ⟨_, rfl, (by rw [hb103]; rfl)⟩⟩ rfl ?_
                  refine AOD.pure (LT.pickF (v := (.s (.c (bC false)))) rfl hb103) ⟨rfl, ⟨rfl, rfl⟩, trivial⟩ trivial ⟨_, rfl, .inl ⟨_, rfl, (by rw [hb102]; rfl)⟩⟩ rfl ?_
                  refine AOD.pure (LT.pickF (v := (.s (.c (bC false)))) rfl hb102) ⟨rfl, rfl, trivial⟩ trivial rfl rfl ?_
                  refine AOD.pure (LT.move (v := (.s (.c (bC false)))) rfl) ⟨rfl, trivial⟩ trivial rfl rfl ?_
                  refine AOD.pure (LT.fieldPl rfl fo140_1) ⟨rfl, trivial⟩ trivial ⟨_, rfl, .inl ⟨_, rfl, rfl⟩⟩ rfl ?_
                  refine AOD.pure (LT.bload1 (c := (.pv (.xs false (p.Tails.map encInt)))) rfl ag37 (by exact rfl)) ⟨rfl, trivial⟩ ⟨rfl, trivial⟩ ⟨_, rfl, .inl ⟨_, rfl, rfl⟩⟩ rfl ?_
                  refine AOD.pure (LT.move (v := (.s (.c (iC s13)))) rfl) ⟨rfl, trivial⟩ trivial ⟨_, rfl, .inl ⟨_, rfl, rfl⟩⟩ rfl ?_
                  refine AOD.bind fun x111 hx111 => ?_
                  refine AOD.pure (LT.tindexRO (enc := encInt) rfl el37 hx111 sz3) ⟨rfl, rfl, trivial⟩ trivial ⟨_, rfl, .inl ⟨_, rfl, rfl⟩⟩ rfl ?_
                  refine AOD.pure (LT.loadPx1 rfl ag3) ⟨rfl, trivial⟩ trivial ⟨_, rfl, .inl ⟨_, rfl, rfl⟩⟩ rfl ?_
                  refine AOD.pure (LT.fieldPl rfl fo26_1) ⟨rfl, trivial⟩ trivial ⟨_, rfl, .inl ⟨_, rfl, rfl⟩⟩ rfl ?_
                  refine AOD.pure (LT.bload1 (c := (.pv (.xs false (g.Bars.map encTBar)))) rfl ag24 (by exact rfl)) ⟨rfl, trivial⟩ ⟨rfl, trivial⟩ ⟨_, rfl, .inl ⟨_, rfl, rfl⟩⟩ rfl ?_
                  refine AOD.pure (LT.move (v := (.s (.c (iC x84)))) rfl) ⟨rfl, trivial⟩ trivial ⟨_, rfl, .inl ⟨_, rfl, rfl⟩⟩ rfl ?_
                  refine AOD.bind fun x112 hx112 => ?_
                  refine AOD.pure (LT.tindexRO (enc := encTBar) rfl el24 hx112 sz79) ⟨rfl, rfl, trivial⟩ trivial ⟨_, rfl, .inl ⟨_, rfl, rfl⟩⟩ rfl ?_
                  refine AOD.pure (LT.fieldPx rfl fo79_0) ⟨rfl, trivial⟩ trivial ⟨_, rfl, .inl ⟨_, rfl, rfl⟩⟩ rfl ?_
                  refine AOD.pure (LT.loadPx1 rfl ag3) ⟨rfl, trivial⟩ trivial ⟨_, rfl, .inl ⟨_, rfl, rfl⟩⟩ rfl ?_
                  refine AOD.pure (LT.neq rfl) ⟨rfl, rfl, trivial⟩ trivial ⟨_, rfl, .inl ⟨_, rfl, rfl⟩⟩ rfl ?_
                  refine AOD.pure (LT.move (v := (.s (.c (bC (x111 != x112.A))))) rfl) ⟨rfl, trivial⟩ trivial ⟨_, rfl, .inl ⟨_, rfl, rfl⟩⟩ rfl ?_
                  refine AOD.split (fun hb113 => ?_) (fun hb113 => ?_)
                  · refine AOD.pure (LT.fieldPl rfl fo140_1) ⟨rfl, trivial⟩ trivial ⟨_, rfl, .inl ⟨_, rfl, (by rw [hb113]; rfl)⟩⟩ rfl ?_
                    refine AOD.pure (LT.bload1 (c := (.pv (.xs false (p.Tails.map encInt)))) rfl ag37 (by exact rfl)) ⟨rfl, trivial⟩ ⟨rfl, trivial⟩ ⟨_, rfl, .inl ⟨_, rfl, (by rw [hb113]; rfl)⟩⟩ rfl ?_
                    refine AOD.pure (LT.move (v := (.s (.c (iC s13)))) rfl) ⟨rfl, trivial⟩ trivial ⟨_, rfl, .inl ⟨_, rfl, (by rw [hb113]; rfl)⟩⟩ rfl ?_
                    refine AOD.bind fun x114 hx114 => ?_
                    refine AOD.pure (LT.tindexRO (enc := encInt) rfl el37 hx114 sz3) ⟨rfl, rfl, trivial⟩ trivial ⟨_, rfl, .inl ⟨_, rfl, (by rw [hb113]; rfl)⟩⟩ rfl ?_
                    refine AOD.pure (LT.loadPx1 rfl ag3) ⟨rfl, trivial⟩ trivial ⟨_, rfl, .inl ⟨_, rfl, (by rw [hb113]; rfl)⟩⟩ rfl ?_
                    refine AOD.pure (LT.fieldPl rfl fo26_1) ⟨rfl, trivial⟩ trivial ⟨_, rfl, .inl ⟨_, rfl, (by rw [hb113]; rfl)⟩⟩ rfl ?_
                    refine AOD.pure (LT.bload1 (c := (.pv (.xs false (g.Bars.map encTBar)))) rfl ag24 (by exact rfl)) ⟨rfl, trivial⟩ ⟨rfl, trivial⟩ ⟨_, rfl, .inl ⟨_, rfl, (by rw [hb113]; rfl)⟩⟩ rfl ?_
                    refine AOD.pure (LT.move (v := (.s (.c (iC x84)))) rfl) ⟨rfl, trivial⟩ trivial ⟨_, rfl, .inl ⟨_, rfl, (by rw [hb113]; rfl)⟩⟩ rfl ?_
                    refine AOD.bind fun x115 hx115 => ?_
                    refine AOD.pure (LT.tindexRO (enc := encTBar) rfl el24 hx115 sz79) ⟨rfl, rfl, trivial⟩ trivial ⟨_, rfl, .inl ⟨_, rfl, (by rw [hb113]; rfl)⟩⟩ rfl ?_
                    refine AOD.pure (LT.fieldPx rfl fo79_1) ⟨rfl, trivial⟩ trivial ⟨_, rfl, .inl ⟨_, rfl, (by rw [hb113]; rfl)⟩⟩ rfl ?_
                    refine AOD.pure (LT.loadPx1 rfl ag3) ⟨rfl, trivial⟩ trivial ⟨_, rfl, .inl ⟨_, rfl, (by rw [hb113]; rfl)⟩⟩ rfl ?_
                    refine AOD.pure (LT.neq rfl) ⟨rfl, rfl, trivial⟩ trivial ⟨_, rfl, .inl ⟨_, rfl, (by rw [hb113]; rfl)⟩⟩ rfl ?_
                    refine AOD.pure (LT.pickT (v := (.s (.c (bC (x114 != x115.B))))) rfl hb113) ⟨rfl, rfl, trivial⟩ trivial ⟨_, rfl, .inl ⟨_, rfl, rfl⟩⟩ rfl ?_
                    refine AOD.pure (LT.pickF (v := (.s (.c (bC (x114 != x115.B))))) rfl rfl) ⟨rfl, rfl, trivial⟩ trivial rfl rfl ?_
                    refine AOD.nil (by kernel_rfl) ?_
                    refine AWR.nil ⟨rfl, Ent.of ⟨rfl, rfl, rfl, rfl, rfl, trivial⟩ ⟨rfl, rfl, trivial⟩⟩
                  · refine AOD.skip ⟨_, rfl, .inl ⟨_, rfl, (by rw [hb113]; rfl)⟩⟩ rfl ?_
                    refine AOD.skip ⟨_, rfl, .inl ⟨_, rfl, (by rw [hb113]; rfl)⟩⟩ rfl ?_
                    refine AOD.skip ⟨_, rfl, .inl ⟨_, rfl, (by rw [hb113]; rfl)⟩⟩ rfl ?_
                    refine AOD.skip ⟨_, rfl, .inl ⟨_, rfl, (by rw [hb113]; rfl)⟩⟩ rfl ?_
                    refine AOD.skip ⟨_, rfl, .inl ⟨_, rfl, (by rw [hb113]; rfl)⟩⟩ rfl ?_
                    refine AOD.skip ⟨_, rfl, .inl ⟨_, rfl, (by rw [hb113]; rfl)⟩⟩ rfl ?_
                    refine AOD.skip ⟨_, rfl, .inl ⟨_, rfl, (by rw [hb113]; rfl)⟩⟩ rfl ?_
                    refine AOD.skip ⟨_, rfl, .inl ⟨_, rfl, (by rw [hb113]; rfl)⟩⟩ rfl ?_
                    refine AOD.skip ⟨_, rfl, .inl ⟨_, rfl, (by rw [hb113]; rfl)⟩⟩ rfl ?_
                    refine AOD.skip ⟨_, rfl, .inl ⟨_, rfl, (by rw [hb113]; rfl)⟩⟩ rfl ?_
                    refine AOD.skip ⟨_, rfl, .inl ⟨_, rfl, (by rw [hb113]; rfl)⟩⟩ rfl ?_
                    refine AOD.skip ⟨_, rfl, .inl ⟨_, rfl, (by rw [hb113]; rfl)⟩⟩ rfl ?_
                    refine AOD.pure (LT.pickF (v := (.s (.c (bC false)))) rfl hb113) ⟨rfl, ⟨rfl, rfl⟩, trivial⟩ trivial ⟨_, rfl, .inl ⟨_, rfl, rfl⟩⟩ rfl ?_
                    refine AOD.pure (LT.pickF (v := (.s (.c (bC false)))) rfl rfl) ⟨rfl, rfl, trivial⟩ trivial rfl rfl ?_
                    refine AOD.nil (by kernel_rfl) ?_
                    refine AWR.nil ⟨rfl, Ent.of ⟨rfl, rfl, rfl, rfl, rfl, trivial⟩ ⟨rfl, rfl, trivial⟩⟩
          · refine AWR.cond rfl (fun hc116 => ?_) (fun hc116 => ?_)
            · refine AWR.seq ?_
              refine AWR.region ?_
              refine AOR.pure (LT.assign (v := (.s (.c (bC false)))) rfl) ⟨⟨rfl, rfl⟩, trivial⟩ trivial rfl rfl ?_
              refine AOR.nil ?_
              refine AWR.ret ⟨rfl, FPost.mk (.inr rfl) ⟨rfl, trivial⟩ trivial rfl ⟨PermP.sc, trivial⟩ trivial⟩
            · refine AWR.skip ?_
              refine AWR.blk ?_
              refine AWR.region ?_
              refine AOR.pure (LT.move (v := (.s (.c (iC s13)))) rfl) ⟨rfl, trivial⟩ trivial rfl rfl ?_
              refine AOR.pure (LT.add rfl) ⟨rfl, ⟨rfl, rfl⟩, trivial⟩ trivial rfl rfl ?_
              refine AOR.pure (LT.assign (v := (.s (.c (iC (w64 (s13 + 1)))))) rfl) ⟨rfl, trivial⟩ trivial rfl rfl ?_
              refine AOR.nil ?_
              refine AWR.nil ⟨rfl, Ent.of ⟨rfl, rfl, rfl, rfl, trivial⟩ ⟨rfl, rfl, trivial⟩⟩
        · refine AWR.exit_end rfl ⟨rfl, Ent.of ⟨rfl, rfl, rfl, trivial⟩ ⟨rfl, rfl, trivial⟩⟩
      · refine AWR.seq ?_
        refine AWR.seq ?_
        refine AWR.region ?_
        refine AOR.pure (LT.assign (v := (.s (.c (iC 0)))) rfl) ⟨⟨rfl, rfl⟩, trivial⟩ trivial rfl rfl ?_
        refine AOR.nil ?_
        refine AWR.block ?_
        refine AWR.loopR (id := 2) (m_spec_IsPebbles_L2 g k p) (fun s117 => ([(1, (.s (.c (iC k)))), (3, (.s (.c (.pl 21 0)))), (5, (.s (.c (.pl 22 0)))), (9, (.s (.c (iC s117))))], [(21, (.row 26 [[(iC g.Points), (.pv (.xs false (g.Bars.map encTBar)))]])), (22, (.row 140 [[(.pv (.xs false (p.Free.map encInt))), (.pv (.xs false (p.Tails.map encInt))), (.pv (.xs false (p.Placed.map encInt)))]]))])) (fun b140 => ([], [])) (FPost Try.prog Try.f204.results.toList [] [] (fun (t : Bool) => [(.c (bC t))]) (fun (t : Bool) => [])) ?_ (Ent.of ⟨rfl, rfl, rfl, rfl, trivial⟩ ⟨rfl, rfl, trivial⟩) rfl (fun b140 _ => ?_) (by intro r t σ m ht hk; injection ht with ht; subst ht; exact hk)
        · intro s117
          unfold m_spec_IsPebbles_L2
          refine AWR.seq ?_
          refine AWR.seq ?_
          refine AWR.region ?_
          refine AOR.pure (LT.move (v := (.s (.c (iC s117)))) rfl) ⟨rfl, trivial⟩ trivial rfl rfl ?_
          refine AOR.pure (LT.fieldPl rfl fo26_0) ⟨rfl, trivial⟩ trivial rfl rfl ?_
          refine AOR.pure (LT.bload1 (c := (iC g.Points)) rfl ag3 (by exact rfl)) ⟨rfl, trivial⟩ ⟨rfl, trivial⟩ rfl rfl ?_
          refine AOR.pure (LT.lss rfl) ⟨rfl, rfl, trivial⟩ trivial rfl rfl ?_
          refine AOR.nil ?_
          refine AWR.cond rfl (fun hc141 => ?_) (fun hc141 => ?_)
          · refine AWR.skip ?_
            refine AWR.seq ?_
            refine AWR.block ?_
            refine AWR.seq ?_
            refine AWR.joinK (fun j146 => ([(1, (.s (.c (iC k)))), (3, (.s (.c (.pl 21 0)))), (5, (.s (.c (.pl 22 0)))), (9, (.s (.c (iC s117)))), (122, (.s (.c (bC j146))))], [(21, (.row 26 [[(iC g.Points), (.pv (.xs false (g.Bars.map encTBar)))]])), (22, (.row 140 [[(.pv (.xs false (p.Free.map encInt))), (.pv (.xs false (p.Tails.map encInt))), (.pv (.xs false (p.Placed.map encInt)))]]))])) ?_ (fun j146 _ => ?_)
            · refine AWR.draw mixed ?_
              refine AOD.pure (LT.fieldPl rfl fo140_0) ⟨rfl, trivial⟩ trivial rfl rfl ?_
              refine AOD.pure (LT.bload1 (c := (.pv (.xs false (p.Free.map encInt)))) rfl ag37 (by exact rfl)) ⟨rfl, trivial⟩ ⟨rfl, trivial⟩ rfl rfl ?_
              refine AOD.pure (LT.move (v := (.s (.c (iC s117)))) rfl) ⟨rfl, trivial⟩ trivial rfl rfl ?_
              refine AOD.bind fun x147 hx147 => ?_
              refine AOD.pure (LT.tindexRO (enc := encInt) rfl el37 hx147 sz3) ⟨rfl, rfl, trivial⟩ trivial rfl rfl ?_
              refine AOD.pure (LT.loadPx1 rfl ag3) ⟨rfl, trivial⟩ trivial rfl rfl ?_
              refine AOD.pure (LT.lss rfl) ⟨rfl, ⟨rfl, rfl⟩, trivial⟩ trivial rfl rfl ?_
              refine AOD.pure (LT.move (v := (.s (.c (bC (decide (x147 < 0)))))) rfl) ⟨rfl, trivial⟩ trivial rfl rfl ?_
              refine AOD.split (fun hb148 => ?_) (fun hb148 => ?_)
              · refine AOD.skip ⟨_, rfl, .inl ⟨_, rfl, (by rw [hb148]; rfl)⟩⟩ rfl ?_
                refine AOD.skip ⟨_, rfl, .inl ⟨_, rfl, (by rw [hb148]; rfl)⟩⟩ rfl ?_
                refine AOD.skip ⟨_, rfl, .inl ⟨_, rfl, (by rw [hb148]; rfl)⟩⟩ rfl ?_
                refine AOD.skip ⟨_, rfl, .inl ⟨_, rfl, (by rw [hb148]; rfl)⟩⟩ rfl ?_
                refine AOD.skip ⟨_, rfl, .inl ⟨_, rfl, (by rw [hb148]; rfl)⟩⟩ rfl ?_
                refine AOD.skip ⟨_, rfl, .inl ⟨_, rfl, (by rw [hb148]; rfl)⟩⟩ rfl ?_
                refine AOD.skip ⟨_, rfl, .inl ⟨_, rfl, (by rw [hb148]; rfl)⟩⟩ rfl ?_
                refine AOD.skip ⟨_, rfl, .inl ⟨_, rfl, (by rw [hb148]; rfl)⟩⟩ rfl ?_
                refine AOD.skip ⟨_, rfl, .inl ⟨_, rfl, (by rw [hb148]; rfl)⟩⟩ rfl ?_
                refine AOD.skip ⟨_, rfl, .inl ⟨_, rfl, (by rw [hb148]; rfl)⟩⟩ rfl ?_
                refine AOD.skip ⟨_, rfl, .inl ⟨_, rfl, (by rw [hb148]; rfl)⟩⟩ rfl ?_
                refine AOD.pure (LT.pickT (v := (.s (.c (bC true)))) rfl hb148) ⟨rfl, ⟨rfl, rfl⟩, trivial⟩ trivial rfl rfl ?_
                refine AOD.nil (by kernel_rfl) ?_
                refine AWR.nil ⟨rfl, Ent.of ⟨rfl, rfl, rfl, rfl, rfl, trivial⟩ ⟨rfl, rfl, trivial⟩⟩
              · refine AOD.pure (LT.fieldPl rfl fo140_0) ⟨rfl, trivial⟩ trivial ⟨_, rfl, .inl ⟨_, rfl, (by rw [hb148]; rfl)⟩⟩ rfl ?_
                refine AOD.pure (LT.bload1 (c := (.pv (.xs false (p.Free.map encInt)))) rfl ag37 (by exact rfl)) ⟨rfl, trivial⟩ ⟨rfl, trivial⟩ ⟨_, rfl, .inl ⟨_, rfl, (by rw [hb148]; rfl)⟩⟩ rfl ?_
                refine AOD.pure (LT.move (v := (.s (.c (iC s117)))) rfl) ⟨rfl, trivial⟩ trivial ⟨_, rfl, .inl ⟨_, rfl, (by rw [hb148]; rfl)⟩⟩ rfl ?_
                refine AOD.bind fun x149 hx149 => ?_
                refine AOD.pure (LT.tindexRO (enc := encInt) rfl el37 hx149 sz3) ⟨rfl, rfl, trivial⟩ trivial ⟨_, rfl, .inl ⟨_, rfl, (by rw [hb148]; rfl)⟩⟩ rfl ?_
                refine AOD.pure (LT.loadPx1 rfl ag3) ⟨rfl, trivial⟩ trivial ⟨_, rfl, .inl ⟨_, rfl, (by rw [hb148]; rfl)⟩⟩ rfl ?_
                refine AOD.pure (LT.bloadN (out := [(.pv (.xs false (p.Free.map encInt))), (.pv (.xs false (p.Tails.map encInt))), (.pv (.xs false (p.Placed.map encInt)))]) rfl ag140 (infS inf140) sz140 (by exact rfl) (by exact rfl)) ⟨rfl, trivial⟩ ⟨rfl, trivial⟩ ⟨_, rfl, .inl ⟨_, rfl, (by rw [hb148]; rfl)⟩⟩ rfl ?_
                refine AOD.pure (LT.move (v := (.s (.c (iC s117)))) rfl) ⟨rfl, trivial⟩ trivial ⟨_, rfl, .inl ⟨_, rfl, (by rw [hb148]; rfl)⟩⟩ rfl ?_
                refine AOD.bind fun r150 hr150 => ?_
                refine AOD.pure (@LT.callF Try.prog _ _ 210 _ _ [(.agg [(.pv (.xs false (p.Free.map encInt))), (.pv (.xs false (p.Tails.map encInt))), (.pv (.xs false (p.Placed.map encInt)))]), (.c (iC s117))] _ _ [] _ _ _ _ (w_spec_l4Tail p s117 r150 hr150) rfl cb210 (.cons (.agg (.cons (.same rfl) (.cons (.same rfl) (.cons (.same rfl) .nil)))) (.cons (.c (.same rfl)) .nil)) rfl rfl trivial) ⟨rfl, rfl, rfl, trivial⟩ trivial ⟨_, rfl, .inl ⟨_, rfl, (by rw [hb148]; rfl)⟩⟩ rfl ?_
                refine AOD.pure (LT.add rfl) ⟨rfl, rfl, trivial⟩ trivial ⟨_, rfl, .inl ⟨_, rfl, (by rw [hb148]; rfl)⟩⟩ rfl ?_
                refine AOD.pure (LT.move (v := (.s (.c (iC k)))) rfl) ⟨rfl, trivial⟩ trivial ⟨_, rfl, .inl ⟨_, rfl, (by rw [hb148]; rfl)⟩⟩ rfl ?_
                refine AOD.pure (LT.neq rfl) ⟨rfl, rfl, trivial⟩ trivial ⟨_, rfl, .inl ⟨_, rfl, (by rw [hb148]; rfl)⟩⟩ rfl ?_
                refine AOD.pure (LT.pickF (v := (.s (.c (bC ((w64 (x149 + r150)) != k))))) rfl hb148) ⟨rfl, rfl, trivial⟩ trivial rfl rfl ?_
                refine AOD.nil (by kernel_rfl) ?_
                refine AWR.nil ⟨rfl, Ent.of ⟨rfl, rfl, rfl, rfl, rfl, trivial⟩ ⟨rfl, rfl, trivial⟩⟩
            · refine AWR.cond rfl (fun hc151 => ?_) (fun hc151 => ?_)
              · refine AWR.seq ?_
                refine AWR.region ?_
                refine AOR.pure (LT.assign (v := (.s (.c (bC false)))) rfl) ⟨⟨rfl, rfl⟩, trivial⟩ trivial rfl rfl ?_
                refine AOR.nil ?_
                refine AWR.ret ⟨rfl, FPost.mk (.inr rfl) ⟨rfl, trivial⟩ trivial rfl ⟨PermP.sc, trivial⟩ trivial⟩
              · refine AWR.skip ?_
                refine AWR.blk ?_
                refine AWR.region ?_
                refine AOR.pure (LT.move (v := (.s (.c (iC s117)))) rfl) ⟨rfl, trivial⟩ trivial rfl rfl ?_
                refine AOR.pure (LT.add rfl) ⟨rfl, ⟨rfl, rfl⟩, trivial⟩ trivial rfl rfl ?_
                refine AOR.pure (LT.assign (v := (.s (.c (iC (w64 (s117 + 1)))))) rfl) ⟨rfl, trivial⟩ trivial rfl rfl ?_
                refine AOR.nil ?_
                refine AWR.nil ⟨rfl, Ent.of ⟨rfl, rfl, rfl, rfl, trivial⟩ ⟨rfl, rfl, trivial⟩⟩
          · refine AWR.exit_end rfl ⟨rfl, Ent.of trivial trivial⟩
        · refine AWR.seq ?_
          refine AWR.region ?_
          refine AOR.pure (LT.assign (v := (.s (.c (bC true)))) rfl) ⟨⟨rfl, rfl⟩, trivial⟩ trivial rfl rfl ?_
          refine AOR.nil ?_
          refine AWR.ret (FPost.mk (.inr rfl) ⟨rfl, trivial⟩ trivial rfl ⟨PermP.sc, trivial⟩ trivial)
set_option maxRecDepth 100000 in
set_option maxHeartbeats 8000000 in
theorem w_spec_l4Copy (p : TPebbles) : ∀ t, m_spec_l4Copy p = some t → Fw.Fn Try.prog 205 [(.agg [(.pv (.xs false (p.Free.map encInt))), (.pv (.xs false (p.Tails.map encInt))), (.pv (.xs false (p.Placed.map encInt)))])] [] (.s (.agg [(.loc 0 0 t.Free.length), (.loc 1 0 t.Tails.length), (.loc 2 0 t.Placed.length)])) [(0, (.prow 3 (t.Free.map encInt))), (1, (.prow 3 (t.Tails.map encInt))), (2, (.prow 3 (t.Placed.map encInt)))] [] [0, 1, 2] := by
  refine Fw.Fn.of (P := Try.prog) (X := [0, 1, 2]) (pn := []) (rs := (fun (t : TPebbles) => [(.agg [(.loc 0 0 t.Free.length), (.loc 1 0 t.Tails.length), (.loc 2 0 t.Placed.length)])])) (dfs := (fun (t : TPebbles) => [(0, (.prow 3 (t.Free.map encInt))), (1, (.prow 3 (t.Tails.map encInt))), (2, (.prow 3 (t.Placed.map encInt)))])) Try.func205 rfl Try.ntmps205 (Nat.le_of_ble_eq_true rfl) rfl ?_
  intro w0 U0 R0 g0
  unfold m_spec_l4Copy
  refine AWR.seq ?_
  refine AWR.region ?_
  refine AOR.step (LT.box (n := 21) (v := (.agg [(.pv (.xs false (p.Free.map encInt))), (.pv (.xs false (p.Tails.map encInt))), (.pv (.xs false (p.Placed.map encInt)))])) rfl sz140 (by exact rfl)) ⟨rfl, trivial⟩ trivial rfl rfl ?_
  refine AOR.step (LT.alloc (n := 22) (cells := [(sC nilV), (sC nilV), (sC nilV)]) rfl ti140 rfl rfl rfl) trivial trivial rfl rfl ?_
  refine AOR.nil ?_
  refine AWR.seq ?_
  refine AWR.draw mixed ?_
  refine AOD.step (LT.tbuildSlice (n := 23) (enc := encInt) [] ([] : List Int) rfl rfl und37 ti3 rfl rfl rfl rfl (by decide) (fun _ => rfl) rfl) trivial trivial rfl rfl ?_
  refine AOD.pure (LT.fieldPl rfl fo140_0) ⟨rfl, trivial⟩ trivial rfl rfl ?_
  refine AOD.pure (LT.bload1 (c := (.pv (.xs false (p.Free.map encInt)))) rfl ag37 (by exact rfl)) ⟨rfl, trivial⟩ ⟨rfl, trivial⟩ rfl rfl ?_
  refine AOD.bind fun u1 hu1 => ?_
  refine AOD.step (LT.tappRO (enc := encInt) rfl  rfl und37 ti3 rfl (by decide) (by decide) (fun _ => rfl) (lim_le hu1)) ⟨rfl, rfl, trivial⟩ ⟨rfl, trivial⟩ rfl rfl ?_
  refine AOD.step (LT.tbuildSlice (n := 24) (enc := encInt) [] ([] : List Int) rfl rfl und37 ti3 rfl rfl rfl rfl (by decide) (fun _ => rfl) rfl) trivial trivial rfl rfl ?_
  refine AOD.pure (LT.fieldPl rfl fo140_1) ⟨rfl, trivial⟩ trivial rfl rfl ?_
  refine AOD.pure (LT.bload1 (c := (.pv (.xs false (p.Tails.map encInt)))) rfl ag37 (by exact rfl)) ⟨rfl, trivial⟩ ⟨rfl, trivial⟩ rfl rfl ?_
  refine AOD.bind fun u2 hu2 => ?_
  refine AOD.step (LT.tappRO (enc := encInt) rfl  rfl und37 ti3 rfl (by decide) (by decide) (fun _ => rfl) (lim_le hu2)) ⟨rfl, rfl, trivial⟩ ⟨rfl, trivial⟩ rfl rfl ?_
  refine AOD.step (LT.tbuildSlice (n := 25) (enc := encInt) [] ([] : List Int) rfl rfl und37 ti3 rfl rfl rfl rfl (by decide) (fun _ => rfl) rfl) trivial trivial rfl rfl ?_
  refine AOD.pure (LT.fieldPl rfl fo140_2) ⟨rfl, trivial⟩ trivial rfl rfl ?_
  refine AOD.pure (LT.bload1 (c := (.pv (.xs false (p.Placed.map encInt)))) rfl ag37 (by exact rfl)) ⟨rfl, trivial⟩ ⟨rfl, trivial⟩ rfl rfl ?_
  refine AOD.bind fun u3 hu3 => ?_
  refine AOD.step (LT.tappRO (enc := encInt) rfl  rfl und37 ti3 rfl (by decide) (by decide) (fun _ => rfl) (lim_le hu3)) ⟨rfl, rfl, trivial⟩ ⟨rfl, trivial⟩ rfl rfl ?_
  refine AOD.pure (LT.build [(0, .tmp 6, (.c (.loc 23 0 (([] : List Int) ++ p.Free).length))), (1, .tmp 10, (.c (.loc 24 0 (([] : List Int) ++ p.Tails).length))), (2, .tmp 14, (.c (.loc 25 0 (([] : List Int) ++ p.Placed).length)))] rfl rfl pl140 ti140 rfl rfl rfl) ⟨rfl, rfl, rfl, trivial⟩ trivial rfl rfl ?_
  refine AOD.step (LT.bstore (v := (.agg [(.loc 23 0 (([] : List Int) ++ p.Free).length), (.loc 24 0 (([] : List Int) ++ p.Tails).length), (.loc 25 0 (([] : List Int) ++ p.Placed).length)])) (out := [(.loc 23 0 (([] : List Int) ++ p.Free).length), (.loc 24 0 (([] : List Int) ++ p.Tails).length), (.loc 25 0 (([] : List Int) ++ p.Placed).length)]) rfl rfl (infS inf140) sz140 (by exact rfl) (by exact Nat.le_of_ble_eq_true rfl) (by exact rfl)) ⟨rfl, rfl, trivial⟩ ⟨rfl, trivial⟩ rfl rfl ?_
  refine AOD.nil (by kernel_rfl) ?_
  refine AWR.ent (Ent.of (σ' := [(2, (.s (.c (.pl 22 0))))]) (m' := [(22, (.row 140 [[(.loc 23 0 (([] : List Int) ++ p.Free).length), (.loc 24 0 (([] : List Int) ++ p.Tails).length), (.loc 25 0 (([] : List Int) ++ p.Placed).length)]])), (23, (.prow 3 ((([] : List Int) ++ p.Free).map encInt))), (24, (.prow 3 ((([] : List Int) ++ p.Tails).map encInt))), (25, (.prow 3 ((([] : List Int) ++ p.Placed).map encInt)))]) ⟨rfl, trivial⟩ ⟨rfl, rfl, rfl, rfl, trivial⟩) ?_
  refine AWR.ent (Ent.mv 23 0 rfl rfl) ?_
  refine AWR.ent (Ent.mv 24 1 rfl rfl) ?_
  refine AWR.ent (Ent.mv 25 2 rfl rfl) ?_
  refine AWR.ent (Ent.of (σ' := [(2, (.s (.c (.pl 22 0))))]) (m' := [(0, (.prow 3 ((([] : List Int) ++ p.Free).map encInt))), (1, (.prow 3 ((([] : List Int) ++ p.Tails).map encInt))), (2, (.prow 3 ((([] : List Int) ++ p.Placed).map encInt))), (22, (.row 140 [[(.loc 0 0 (([] : List Int) ++ p.Free).length), (.loc 1 0 (([] : List Int) ++ p.Tails).length), (.loc 2 0 (([] : List Int) ++ p.Placed).length)]]))]) ⟨rfl, trivial⟩ ⟨rfl, rfl, rfl, rfl, trivial⟩) ?_
  refine AWR.ret (FPost.mk (.inr rfl) ⟨⟨_, _, _, rfl, rfl, rfl, ag140, sz140, _, (infS inf140)⟩, trivial⟩ ⟨rfl, rfl, rfl, trivial⟩ rfl ⟨⟨trivial, trivial, trivial, trivial⟩, trivial⟩ ⟨PermO.prow' perm_encInt, PermO.prow' perm_encInt, PermO.prow' perm_encInt, trivial⟩)
set_option maxRecDepth 100000 in
set_option maxHeartbeats 8000000 in
theorem w_spec_l4Shift (g : TGraph) (p : TPebbles) (fromV : (List Int)) (a : Int) (u : Int) : ∀ t, m_spec_l4Shift g p fromV a u = some t → Fw.Fn Try.prog 213 [(.agg [(iC g.Points), (.pv (.xs false (g.Bars.map encTBar)))]), (.agg [(.pv (.xs false (p.Free.map encInt))), (.pv (.xs false (p.Tails.map encInt))), (.pv (.xs false (p.Placed.map encInt)))]), (.c (.pv (.xs false (fromV.map encInt)))), (.c (iC a)), (.c (iC u))] [] (.s (.agg [(.loc 0 0 t.Free.length), (.loc 1 0 t.Tails.length), (.loc 2 0 t.Placed.length)])) [(0, (.prow 3 (t.Free.map encInt))), (1, (.prow 3 (t.Tails.map encInt))), (2, (.prow 3 (t.Placed.map encInt)))] [] [0, 1, 2] := by
  refine Fw.Fn.of (P := Try.prog) (X := [0, 1, 2]) (pn := []) (rs := (fun (t : TPebbles) => [(.agg [(.loc 0 0 t.Free.length), (.loc 1 0 t.Tails.length), (.loc 2 0 t.Placed.length)])])) (dfs := (fun (t : TPebbles) => [(0, (.prow 3 (t.Free.map encInt))), (1, (.prow 3 (t.Tails.map encInt))), (2, (.prow 3 (t.Placed.map encInt)))])) Try.func213 rfl Try.ntmps213 (Nat.le_of_ble_eq_true rfl) rfl ?_
  intro w0 U0 R0 g0
  unfold m_spec_l4Shift
  refine AWR.seq ?_
  refine AWR.region ?_
  refine AOR.step (LT.box (n := 21) (v := (.agg [(iC g.Points), (.pv (.xs false (g.Bars.map encTBar)))])) rfl sz26 (by exact rfl)) ⟨rfl, trivial⟩ trivial rfl rfl ?_
  refine AOR.step (LT.box (n := 22) (v := (.agg [(.pv (.xs false (p.Free.map encInt))), (.pv (.xs false (p.Tails.map encInt))), (.pv (.xs false (p.Placed.map encInt)))])) rfl sz140 (by exact rfl)) ⟨rfl, trivial⟩ trivial rfl rfl ?_
  refine AOR.step (LT.alloc (n := 23) (cells := [(sC nilV), (sC nilV), (sC nilV)]) rfl ti140 rfl rfl rfl) trivial trivial rfl rfl ?_
  refine AOR.nil ?_
  refine AWR.seq ?_
  refine AWR.region ?_
  refine AOR.pure (LT.bloadN (out := [(.pv (.xs false (p.Free.map encInt))), (.pv (.xs false (p.Tails.map encInt))), (.pv (.xs false (p.Placed.map encInt)))]) rfl ag140 (infS inf140) sz140 (by exact rfl) (by exact rfl)) ⟨rfl, trivial⟩ ⟨rfl, trivial⟩ rfl rfl ?_
  refine AOR.bind fun r1 hr1 => ?_
  refine AOR.step (@LT.callF Try.prog _ _ 205 _ _ [(.agg [(.pv (.xs false (p.Free.map encInt))), (.pv (.xs false (p.Tails.map encInt))), (.pv (.xs false (p.Placed.map encInt)))])] _ _ [] _ _ _ _ ((show Fw.Fn Try.prog 205 [(.agg [(.pv (.xs false (p.Free.map encInt))), (.pv (.xs false (p.Tails.map encInt))), (.pv (.xs false (p.Placed.map encInt)))])] [] (.s (.agg [(.loc 25 0 r1.Free.length), (.loc 26 0 r1.Tails.length), (.loc 27 0 r1.Placed.length)])) [(25, (.prow 3 (r1.Free.map encInt))), (26, (.prow 3 (r1.Tails.map encInt))), (27, (.prow 3 (r1.Placed.map encInt)))] [] [25, 26, 27] from Fw.Fn.ren [(0, 25), (1, 26), (2, 27)] (w_spec_l4Copy p r1 hr1) rfl)) rfl cb205 (.cons (.agg (.cons (.same rfl) (.cons (.same rfl) (.cons (.same rfl) .nil)))) .nil) rfl rfl trivial) ⟨rfl, rfl, trivial⟩ trivial rfl rfl ?_
  refine AOR.step (LT.alloc (n := 28) (cells := [(sC nilV), (sC nilV), (sC nilV)]) rfl ti140 rfl rfl rfl) trivial trivial rfl rfl ?_
  refine AOR.step (LT.bstore (v := (.agg [(.loc 25 0 r1.Free.length), (.loc 26 0 r1.Tails.length), (.loc 27 0 r1.Placed.length)])) (out := [(.loc 25 0 r1.Free.length), (.loc 26 0 r1.Tails.length), (.loc 27 0 r1.Placed.length)]) rfl rfl (infS inf140) sz140 (by exact rfl) (by exact Nat.le_of_ble_eq_true rfl) (by exact rfl)) ⟨rfl, rfl, trivial⟩ ⟨rfl, trivial⟩ rfl rfl ?_
  refine AOR.nil ?_
  refine AWR.seq ?_
  refine AWR.ent (Ent.of (σ' := [(2, (.s (.c (.pv (.xs false (fromV.map encInt)))))), (3, (.s (.c (iC a)))), (4, (.s (.c (iC u)))), (5, (.s (.c (.pl 21 0)))), (6, (.s (.c (.pl 22 0)))), (10, (.s (.c (.pl 23 0)))), (11, (.s (.c (.pl 28 0))))]) (m' := [(21, (.row 26 [[(iC g.Points), (.pv (.xs false (g.Bars.map encTBar)))]])), (22, (.row 140 [[(.pv (.xs false (p.Free.map encInt))), (.pv (.xs false (p.Tails.map encInt))), (.pv (.xs false (p.Placed.map encInt)))]])), (23, (.row 140 [[(sC nilV), (sC nilV), (sC nilV)]])), (25, (.prow 3 (r1.Free.map encInt))), (26, (.prow 3 (r1.Tails.map encInt))), (27, (.prow 3 (r1.Placed.map encInt))), (28, (.row 140 [[(.loc 25 0 r1.Free.length), (.loc 26 0 r1.Tails.length), (.loc 27 0 r1.Placed.length)]]))]) ⟨rfl, rfl, rfl, rfl, rfl, rfl, rfl, trivial⟩ ⟨rfl, rfl, rfl, rfl, rfl, rfl, rfl, trivial⟩) ?_
  refine AWR.draw mixed ?_
  refine AOD.pure (LT.fieldPl rfl fo140_0) ⟨rfl, trivial⟩ trivial rfl rfl ?_
  refine AOD.pure (LT.bload1 (c := (.loc 25 0 r1.Free.length)) rfl ag37 (by exact rfl)) ⟨rfl, trivial⟩ ⟨rfl, trivial⟩ rfl rfl ?_
  refine AOD.pure (LT.move (v := (.s (.c (iC u)))) rfl) ⟨rfl, trivial⟩ trivial rfl rfl ?_
  refine AOD.pure (LT.fieldPl rfl fo140_0) ⟨rfl, trivial⟩ trivial rfl rfl ?_
  refine AOD.pure (LT.bload1 (c := (.loc 25 0 r1.Free.length)) rfl ag37 (by exact rfl)) ⟨rfl, trivial⟩ ⟨rfl, trivial⟩ rfl rfl ?_
  refine AOD.pure (LT.move (v := (.s (.c (iC u)))) rfl) ⟨rfl, trivial⟩ trivial rfl rfl ?_
  refine AOD.bind fun x2 hx2 => ?_
  refine AOD.pure (LT.tindexLoc rfl rfl el37 hx2) ⟨rfl, rfl, trivial⟩ ⟨rfl, trivial⟩ rfl rfl ?_
  refine AOD.pure (LT.tload1 (k := 0) rfl ag3 hx2 (by exact rfl) (by exact rfl)) ⟨rfl, trivial⟩ ⟨rfl, trivial⟩ rfl rfl ?_
  refine AOD.pure (LT.sub rfl) ⟨rfl, ⟨rfl, rfl⟩, trivial⟩ trivial rfl rfl ?_
  refine AOD.bind fun x3 hx3 => ?_
  refine AOD.pure (LT.tindexLoc rfl rfl el37 hx3) ⟨rfl, rfl, trivial⟩ ⟨rfl, trivial⟩ rfl rfl ?_
  refine AOD.step (LT.tstore (k := 0) (v := (.c (iC (w64 (x2 - 1))))) (b' := (w64 (x2 - 1))) rfl rfl (infS inf3) sz3 (by exact rfl) hx3 (by exact rfl) (by exact Nat.le_of_ble_eq_true rfl) (by exact rfl)) ⟨rfl, rfl, trivial⟩ ⟨rfl, trivial⟩ rfl rfl ?_
  refine AOD.nil (by kernel_rfl) ?_
  refine AWR.seq ?_
  refine AWR.ent (Ent.of (σ' := [(2, (.s (.c (.pv (.xs false (fromV.map encInt)))))), (3, (.s (.c (iC a)))), (4, (.s (.c (iC u)))), (5, (.s (.c (.pl 21 0)))), (6, (.s (.c (.pl 22 0)))), (10, (.s (.c (.pl 23 0)))), (11, (.s (.c (.pl 28 0))))]) (m' := [(21, (.row 26 [[(iC g.Points), (.pv (.xs false (g.Bars.map encTBar)))]])), (22, (.row 140 [[(.pv (.xs false (p.Free.map encInt))), (.pv (.xs false (p.Tails.map encInt))), (.pv (.xs false (p.Placed.map encInt)))]])), (23, (.row 140 [[(sC nilV), (sC nilV), (sC nilV)]])), (25, (.prow 3 ((r1.Free.set u.toNat (w64 (x2 - 1))).map encInt))), (26, (.prow 3 (r1.Tails.map encInt))), (27, (.prow 3 (r1.Placed.map encInt))), (28, (.row 140 [[(.loc 25 0 r1.Free.length), (.loc 26 0 r1.Tails.length), (.loc 27 0 r1.Placed.length)]]))]) ⟨rfl, rfl, rfl, rfl, rfl, rfl, rfl, trivial⟩ ⟨rfl, rfl, rfl, rfl, rfl, rfl, rfl, trivial⟩) ?_
  refine AWR.draw mixed ?_
  refine AOD.pure (LT.fieldPl rfl fo140_0) ⟨rfl, trivial⟩ trivial rfl rfl ?_
  refine AOD.pure (LT.bload1 (c := (.loc 25 0 r1.Free.length)) rfl ag37 (by exact rfl)) ⟨rfl, trivial⟩ ⟨rfl, trivial⟩ rfl rfl ?_
  refine AOD.pure (LT.move (v := (.s (.c (iC a)))) rfl) ⟨rfl, trivial⟩ trivial rfl rfl ?_
  refine AOD.pure (LT.fieldPl rfl fo140_0) ⟨rfl, trivial⟩ trivial rfl rfl ?_
  refine AOD.pure (LT.bload1 (c := (.loc 25 0 r1.Free.length)) rfl ag37 (by exact rfl)) ⟨rfl, trivial⟩ ⟨rfl, trivial⟩ rfl rfl ?_
  refine AOD.pure (LT.move (v := (.s (.c (iC a)))) rfl) ⟨rfl, trivial⟩ trivial rfl rfl ?_
  refine AOD.bind fun x4 hx4 => ?_
  refine AOD.pure (LT.tindexLoc (show r1.Free.length = (r1.Free.set u.toNat (w64 (x2 - 1))).length by simp only [List.length_set]) rfl el37 hx4) ⟨rfl, rfl, trivial⟩ ⟨rfl, trivial⟩ rfl rfl ?_
  refine AOD.pure (LT.tload1 (k := 0) rfl ag3 hx4 (by exact rfl) (by exact rfl)) ⟨rfl, trivial⟩ ⟨rfl, trivial⟩ rfl rfl ?_
  refine AOD.pure (LT.add rfl) ⟨rfl, ⟨rfl, rfl⟩, trivial⟩ trivial rfl rfl ?_
  refine AOD.bind fun x5 hx5 => ?_
  refine AOD.pure (LT.tindexLoc (show r1.Free.length = (r1.Free.set u.toNat (w64 (x2 - 1))).length by simp only [List.length_set]) rfl el37 hx5) ⟨rfl, rfl, trivial⟩ ⟨rfl, trivial⟩ rfl rfl ?_
  refine AOD.step (LT.tstore (k := 0) (v := (.c (iC (w64 (x4 + 1))))) (b' := (w64 (x4 + 1))) rfl rfl (infS inf3) sz3 (by exact rfl) hx5 (by exact rfl) (by exact Nat.le_of_ble_eq_true rfl) (by exact rfl)) ⟨rfl, rfl, trivial⟩ ⟨rfl, trivial⟩ rfl rfl ?_
  refine AOD.nil (by kernel_rfl) ?_
  refine AWR.seq ?_
  refine AWR.ent (Ent.of (σ' := [(2, (.s (.c (.pv (.xs false (fromV.map encInt)))))), (3, (.s (.c (iC a)))), (4, (.s (.c (iC u)))), (5, (.s (.c (.pl 21 0)))), (6, (.s (.c (.pl 22 0)))), (10, (.s (.c (.pl 23 0)))), (11, (.s (.c (.pl 28 0))))]) (m' := [(21, (.row 26 [[(iC g.Points), (.pv (.xs false (g.Bars.map encTBar)))]])), (22, (.row 140 [[(.pv (.xs false (p.Free.map encInt))), (.pv (.xs false (p.Tails.map encInt))), (.pv (.xs false (p.Placed.map encInt)))]])), (23, (.row 140 [[(sC nilV), (sC nilV), (sC nilV)]])), (25, (.prow 3 (((r1.Free.set u.toNat (w64 (x2 - 1))).set a.toNat (w64 (x4 + 1))).map encInt))), (26, (.prow 3 (r1.Tails.map encInt))), (27, (.prow 3 (r1.Placed.map encInt))), (28, (.row 140 [[(.loc 25 0 r1.Free.length), (.loc 26 0 r1.Tails.length), (.loc 27 0 r1.Placed.length)]]))]) ⟨rfl, rfl, rfl, rfl, rfl, rfl, rfl, trivial⟩ ⟨rfl, rfl, rfl, rfl, rfl, rfl, rfl, trivial⟩) ?_
  refine AWR.region ?_
  refine AOR.pure (LT.move (v := (.s (.c (iC u)))) rfl) ⟨rfl, trivial⟩ trivial rfl rfl ?_
  refine AOR.pure (LT.assign (v := (.s (.c (iC u)))) rfl) ⟨rfl, trivial⟩ trivial rfl rfl ?_
  refine AOR.nil ?_
  refine AWR.seq ?_
  refine AWR.block ?_
  refine AWR.loop1 (id := 0) (m_spec_l4Shift_L1 g p fromV a u r1 x2 x4) (fun s6 => ([(2, (.s (.c (.pv (.xs false (fromV.map encInt)))))), (3, (.s (.c (iC a)))), (5, (.s (.c (.pl 21 0)))), (6, (.s (.c (.pl 22 0)))), (10, (.s (.c (.pl 23 0)))), (11, (.s (.c (.pl 28 0)))), (12, (.s (.c (iC s6.1))))], [(21, (.row 26 [[(iC g.Points), (.pv (.xs false (g.Bars.map encTBar)))]])), (22, (.row 140 [[(.pv (.xs false (p.Free.map encInt))), (.pv (.xs false (p.Tails.map encInt))), (.pv (.xs false (p.Placed.map encInt)))]])), (23, (.row 140 [[(sC nilV), (sC nilV), (sC nilV)]])), (25, (.prow 3 (((r1.Free.set u.toNat (w64 (x2 - 1))).set a.toNat (w64 (x4 + 1))).map encInt))), (26, (.prow 3 (s6.2.map encInt))), (27, (.prow 3 (r1.Placed.map encInt))), (28, (.row 140 [[(.loc 25 0 ((r1.Free.set u.toNat (w64 (x2 - 1))).set a.toNat (w64 (x4 + 1))).length), (.loc 26 0 s6.2.length), (.loc 27 0 r1.Placed.length)]]))])) (fun b19 => ([(10, (.s (.c (.pl 23 0)))), (11, (.s (.c (.pl 28 0))))], [(23, (.row 140 [[(sC nilV), (sC nilV), (sC nilV)]])), (25, (.prow 3 (b19.1.map encInt))), (26, (.prow 3 (b19.2.1.map encInt))), (27, (.prow 3 (b19.2.2.map encInt))), (28, (.row 140 [[(.loc 25 0 b19.1.length), (.loc 26 0 b19.2.1.length), (.loc 27 0 b19.2.2.length)]]))])) ?_ (Ent.of ⟨rfl, rfl, rfl, rfl, rfl, rfl, rfl, trivial⟩ ⟨rfl, rfl, rfl, rfl, rfl, rfl, (congrArg (fun l1 => (some (Ob.row 140 [[(.loc 25 0 l1), (.loc 26 0 r1.Tails.length), (.loc 27 0 r1.Placed.length)]]) : Option Ob)) (show r1.Free.length = ((r1.Free.set u.toNat (w64 (x2 - 1))).set a.toNat (w64 (x4 + 1))).length by simp only [List.length_set])), trivial⟩) rfl (fun b19 _ => ?_)
  · intro s6
    unfold m_spec_l4Shift_L1
    refine AWR.seq ?_
    refine AWR.seq ?_
    refine AWR.region ?_
    refine AOR.pure (LT.move (v := (.s (.c (iC s6.1)))) rfl) ⟨rfl, trivial⟩ trivial rfl rfl ?_
    refine AOR.pure (LT.move (v := (.s (.c (iC a)))) rfl) ⟨rfl, trivial⟩ trivial rfl rfl ?_
    refine AOR.pure (LT.neq rfl) ⟨rfl, rfl, trivial⟩ trivial rfl rfl ?_
    refine AOR.nil ?_
    refine AWR.cond rfl (fun hc20 => ?_) (fun hc20 => ?_)
    · refine AWR.skip ?_
      refine AWR.block ?_
      refine AWR.seq ?_
      refine AWR.region ?_
      refine AOR.pure (LT.move (v := (.s (.c (.pv (.xs false (fromV.map encInt)))))) rfl) ⟨rfl, trivial⟩ trivial rfl rfl ?_
      refine AOR.pure (LT.move (v := (.s (.c (iC s6.1)))) rfl) ⟨rfl, trivial⟩ trivial rfl rfl ?_
      refine AOR.bind fun x21 hx21 => ?_
      refine AOR.pure (LT.tindexRO (enc := encInt) rfl el37 hx21 sz3) ⟨rfl, rfl, trivial⟩ trivial rfl rfl ?_
      refine AOR.pure (LT.loadPx1 rfl ag3) ⟨rfl, trivial⟩ trivial rfl rfl ?_
      refine AOR.pure (LT.assign (v := (.s (.c (iC x21)))) rfl) ⟨rfl, trivial⟩ trivial rfl rfl ?_
      refine AOR.nil ?_
      refine AWR.seq ?_
      refine AWR.draw mixed ?_
      refine AOD.pure (LT.fieldPl rfl fo26_1) ⟨rfl, trivial⟩ trivial rfl rfl ?_
      refine AOD.pure (LT.bload1 (c := (.pv (.xs false (g.Bars.map encTBar)))) rfl ag24 (by exact rfl)) ⟨rfl, trivial⟩ ⟨rfl, trivial⟩ rfl rfl ?_
      refine AOD.pure (LT.fieldPl rfl fo140_2) ⟨rfl, trivial⟩ trivial rfl rfl ?_
      refine AOD.pure (LT.bload1 (c := (.pv (.xs false (p.Placed.map encInt)))) rfl ag37 (by exact rfl)) ⟨rfl, trivial⟩ ⟨rfl, trivial⟩ rfl rfl ?_
      refine AOD.pure (LT.move (v := (.s (.c (iC x21)))) rfl) ⟨rfl, trivial⟩ trivial rfl rfl ?_
      refine AOD.bind fun x22 hx22 => ?_
      refine AOD.pure (LT.tindexRO (enc := encInt) rfl el37 hx22 sz3) ⟨rfl, rfl, trivial⟩ trivial rfl rfl ?_
      refine AOD.pure (LT.loadPx1 rfl ag3) ⟨rfl, trivial⟩ trivial rfl rfl ?_
      refine AOD.bind fun x23 hx23 => ?_
      refine AOD.pure (LT.tindexRO (enc := encTBar) rfl el24 hx23 sz79) ⟨rfl, rfl, trivial⟩ trivial rfl rfl ?_
      refine AOD.pure (LT.loadPxN rfl ag79 (infS inf79) (by exact sz79.symm)) ⟨rfl, trivial⟩ trivial rfl rfl ?_
      refine AOD.pure (LT.move (v := (.s (.c (iC s6.1)))) rfl) ⟨rfl, trivial⟩ trivial rfl rfl ?_
      refine AOD.bind fun r24 hr24 => ?_
      refine AOD.pure (@LT.callF Try.prog _ _ 105 _ _ [(.agg [(iC x23.A), (iC x23.B)]), (.c (iC s6.1))] _ _ [] _ _ _ _ (w_spec_l4Other x23 s6.1 r24 hr24) rfl cb105 (.cons (.agg (.cons (.same rfl) (.cons (.same rfl) .nil))) (.cons (.c (.same rfl)) .nil)) rfl rfl trivial) ⟨rfl, rfl, rfl, trivial⟩ trivial rfl rfl ?_
      refine AOD.pure (LT.assign (v := (.s (.c (iC r24)))) rfl) ⟨rfl, trivial⟩ trivial rfl rfl ?_
      refine AOD.nil (by kernel_rfl) ?_
      refine AWR.seq ?_
      refine AWR.ent (Ent.of (σ' := [(2, (.s (.c (.pv (.xs false (fromV.map encInt)))))), (3, (.s (.c (iC a)))), (5, (.s (.c (.pl 21 0)))), (6, (.s (.c (.pl 22 0)))), (10, (.s (.c (.pl 23 0)))), (11, (.s (.c (.pl 28 0)))), (12, (.s (.c (iC s6.1)))), (13, (.s (.c (iC x21)))), (14, (.s (.c (iC r24))))]) (m' := [(21, (.row 26 [[(iC g.Points), (.pv (.xs false (g.Bars.map encTBar)))]])), (22, (.row 140 [[(.pv (.xs false (p.Free.map encInt))), (.pv (.xs false (p.Tails.map encInt))), (.pv (.xs false (p.Placed.map encInt)))]])), (23, (.row 140 [[(sC nilV), (sC nilV), (sC nilV)]])), (25, (.prow 3 (((r1.Free.set u.toNat (w64 (x2 - 1))).set a.toNat (w64 (x4 + 1))).map encInt))), (26, (.prow 3 (s6.2.map encInt))), (27, (.prow 3 (r1.Placed.map encInt))), (28, (.row 140 [[(.loc 25 0 ((r1.Free.set u.toNat (w64 (x2 - 1))).set a.toNat (w64 (x4 + 1))).length), (.loc 26 0 s6.2.length), (.loc 27 0 r1.Placed.length)]]))]) ⟨rfl, rfl, rfl, rfl, rfl, rfl, rfl, rfl, rfl, trivial⟩ ⟨rfl, rfl, rfl, rfl, rfl, rfl, rfl, trivial⟩) ?_
      refine AWR.region ?_
      refine AOR.pure (LT.fieldPl rfl fo140_1) ⟨rfl, trivial⟩ trivial rfl rfl ?_
      refine AOR.pure (LT.bload1 (c := (.loc 26 0 s6.2.length)) rfl ag37 (by exact rfl)) ⟨rfl, trivial⟩ ⟨rfl, trivial⟩ rfl rfl ?_
      refine AOR.pure (LT.move (v := (.s (.c (iC x21)))) rfl) ⟨rfl, trivial⟩ trivial rfl rfl ?_
      refine AOR.pure (LT.move (v := (.s (.c (iC s6.1)))) rfl) ⟨rfl, trivial⟩ trivial rfl rfl ?_
      refine AOR.bind fun x25 hx25 => ?_
      refine AOR.pure (LT.tindexLoc rfl rfl el37 hx25) ⟨rfl, rfl, trivial⟩ ⟨rfl, trivial⟩ rfl rfl ?_
      refine AOR.step (LT.tstore (k := 0) (v := (.c (iC s6.1))) (b' := s6.1) rfl rfl (infS inf3) sz3 (by exact rfl) hx25 (by exact rfl) (by exact Nat.le_of_ble_eq_true rfl) (by exact rfl)) ⟨rfl, rfl, trivial⟩ ⟨rfl, trivial⟩ rfl rfl ?_
      refine AOR.nil ?_
      refine AWR.region ?_
      refine AOR.pure (LT.move (v := (.s (.c (iC r24)))) rfl) ⟨rfl, trivial⟩ trivial rfl rfl ?_
      refine AOR.pure (LT.assign (v := (.s (.c (iC r24)))) rfl) ⟨rfl, trivial⟩ trivial rfl rfl ?_
      refine AOR.nil ?_
      refine AWR.blk ?_
      refine AWR.nil ⟨rfl, Ent.of ⟨rfl, rfl, rfl, rfl, rfl, rfl, rfl, trivial⟩ ⟨rfl, rfl, rfl, rfl, rfl, rfl, (congrArg (fun l1 => (some (Ob.row 140 [[(.loc 25 0 ((r1.Free.set u.toNat (w64 (x2 - 1))).set a.toNat (w64 (x4 + 1))).length), (.loc 26 0 l1), (.loc 27 0 r1.Placed.length)]]) : Option Ob)) (show s6.2.length = (s6.2.set x21.toNat s6.1).length by simp only [List.length_set])), trivial⟩⟩
    · refine AWR.exit_end rfl ⟨rfl, Ent.of ⟨rfl, rfl, trivial⟩ ⟨rfl, rfl, rfl, rfl, rfl, trivial⟩⟩
  · refine AWR.seq ?_
    refine AWR.region ?_
    refine AOR.pure (LT.bloadN (out := [(.loc 25 0 b19.1.length), (.loc 26 0 b19.2.1.length), (.loc 27 0 b19.2.2.length)]) rfl ag140 (infS inf140) sz140 (by exact rfl) (by exact rfl)) ⟨rfl, trivial⟩ ⟨rfl, trivial⟩ rfl rfl ?_
    refine AOR.step (LT.bstore (v := (.agg [(.loc 25 0 b19.1.length), (.loc 26 0 b19.2.1.length), (.loc 27 0 b19.2.2.length)])) (out := [(.loc 25 0 b19.1.length), (.loc 26 0 b19.2.1.length), (.loc 27 0 b19.2.2.length)]) rfl rfl (infS inf140) sz140 (by exact rfl) (by exact Nat.le_of_ble_eq_true rfl) (by exact rfl)) ⟨rfl, rfl, trivial⟩ ⟨rfl, trivial⟩ rfl rfl ?_
    refine AOR.nil ?_
    refine AWR.ent (Ent.of (σ' := [(10, (.s (.c (.pl 23 0))))]) (m' := [(23, (.row 140 [[(.loc 25 0 b19.1.length), (.loc 26 0 b19.2.1.length), (.loc 27 0 b19.2.2.length)]])), (25, (.prow 3 (b19.1.map encInt))), (26, (.prow 3 (b19.2.1.map encInt))), (27, (.prow 3 (b19.2.2.map encInt)))]) ⟨rfl, trivial⟩ ⟨rfl, rfl, rfl, rfl, trivial⟩) ?_
    refine AWR.ent (Ent.mv 25 0 rfl rfl) ?_
    refine AWR.ent (Ent.mv 26 1 rfl rfl) ?_
    refine AWR.ent (Ent.mv 27 2 rfl rfl) ?_
    refine AWR.ent (Ent.of (σ' := [(10, (.s (.c (.pl 23 0))))]) (m' := [(0, (.prow 3 (b19.1.map encInt))), (1, (.prow 3 (b19.2.1.map encInt))), (2, (.prow 3 (b19.2.2.map encInt))), (23, (.row 140 [[(.loc 0 0 b19.1.length), (.loc 1 0 b19.2.1.length), (.loc 2 0 b19.2.2.length)]]))]) ⟨rfl, trivial⟩ ⟨rfl, rfl, rfl, rfl, trivial⟩) ?_
    refine AWR.ret (FPost.mk (.inr rfl) ⟨⟨_, _, _, rfl, rfl, rfl, ag140, sz140, _, (infS inf140)⟩, trivial⟩ ⟨rfl, rfl, rfl, trivial⟩ rfl ⟨⟨trivial, trivial, trivial, trivial⟩, trivial⟩ ⟨PermO.prow' perm_encInt, PermO.prow' perm_encInt, PermO.prow' perm_encInt, trivial⟩)
end Go.Proofs.Ytoeigmhhmadmbaa
end
