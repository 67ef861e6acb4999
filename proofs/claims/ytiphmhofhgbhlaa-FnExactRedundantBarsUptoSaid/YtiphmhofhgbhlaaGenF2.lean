/- The code computes the models. Written by a program of mine. -/
import Derived.Test.YtiphmhofhgbhlaaGenF1
set_option linter.unusedVariables false
set_option linter.unusedSimpArgs false
set_option linter.unnecessarySimpa false
open Go Go.Fw
namespace Go.Proofs.Ytiphmhofhgbhlaa
set_option maxRecDepth 100000 in
set_option maxHeartbeats 8000000 in
theorem w_spec_l4Find (g : TGraph) (p : TPebbles) (a : Int) (b : Int) : ∀ t, m_spec_l4Find g p a b = some t → Fw.Fn Try.prog 87 [(.agg [(iC g.Points), (.pv (.xs false (g.Bars.map encTBar)))]), (.agg [(.pv (.xs false (p.Free.map encInt))), (.pv (.xs false (p.Tails.map encInt))), (.pv (.xs false (p.Placed.map encInt)))]), (.c (iC a)), (.c (iC b))] [] (resA [(.agg [(bif t.2 then (.loc 0 0 t.1.Free.length) else .junk), (bif t.2 then (.loc 1 0 t.1.Tails.length) else .junk), (bif t.2 then (.loc 2 0 t.1.Placed.length) else .junk)]), (.c (bC t.2))]) [(0, (.prow 3 ((bif t.2 then t.1.Free else []).map encInt))), (1, (.prow 3 ((bif t.2 then t.1.Tails else []).map encInt))), (2, (.prow 3 ((bif t.2 then t.1.Placed else []).map encInt)))] [] [0, 1, 2] := by
  refine Fw.Fn.of (P := Try.prog) (X := [0, 1, 2]) (pn := []) (rs := (fun (t : (TPebbles × Bool)) => [(.agg [(bif t.2 then (.loc 0 0 t.1.Free.length) else .junk), (bif t.2 then (.loc 1 0 t.1.Tails.length) else .junk), (bif t.2 then (.loc 2 0 t.1.Placed.length) else .junk)]), (.c (bC t.2))])) (dfs := (fun (t : (TPebbles × Bool)) => [(0, (.prow 3 ((bif t.2 then t.1.Free else []).map encInt))), (1, (.prow 3 ((bif t.2 then t.1.Tails else []).map encInt))), (2, (.prow 3 ((bif t.2 then t.1.Placed else []).map encInt)))])) Try.func87 rfl Try.ntmps87 (Nat.le_of_ble_eq_true rfl) rfl ?_
  intro w0 U0 R0 g0
  unfold m_spec_l4Find
  refine AWR.seq ?_
  refine AWR.region ?_
  refine AOR.step (LT.box (n := 21) (v := (.agg [(iC g.Points), (.pv (.xs false (g.Bars.map encTBar)))])) rfl sz30 (by exact rfl)) ⟨rfl, trivial⟩ trivial rfl rfl ?_
  refine AOR.step (LT.box (n := 22) (v := (.agg [(.pv (.xs false (p.Free.map encInt))), (.pv (.xs false (p.Tails.map encInt))), (.pv (.xs false (p.Placed.map encInt)))])) rfl sz68 (by exact rfl)) ⟨rfl, trivial⟩ trivial rfl rfl ?_
  refine AOR.step (LT.alloc (n := 23) (cells := [(sC nilV), (sC nilV), (sC nilV)]) rfl ti68 rfl rfl rfl) trivial trivial rfl rfl ?_
  refine AOR.pure (LT.assign (v := (.s (.c (bC false)))) rfl) ⟨⟨rfl, rfl⟩, trivial⟩ trivial rfl rfl ?_
  refine AOR.nil ?_
  refine AWR.seq ?_
  refine AWR.region ?_
  refine AOR.pure (LT.fieldPl rfl fo30_0) ⟨rfl, trivial⟩ trivial rfl rfl ?_
  refine AOR.pure (LT.bload1 (c := (iC g.Points)) rfl ag3 (by exact rfl)) ⟨rfl, trivial⟩ ⟨rfl, trivial⟩ rfl rfl ?_
  refine AOR.bind fun u1 hu1 => ?_
  refine AOR.step (LT.tmake (n := 24) (enc := encInt) (zc := [(iC 0)]) (0 : Int) rfl und26 ti3 rfl rfl rfl (by decide) (by decide) (lenOk_le hu1) rfl) ⟨rfl, rfl, trivial⟩ trivial rfl rfl ?_
  refine AOR.pure (LT.assign (v := (.s (.c (.loc 24 0 (List.replicate g.Points.toNat (0 : Int)).length)))) rfl) ⟨rfl, trivial⟩ trivial rfl rfl ?_
  refine AOR.nil ?_
  refine AWR.seq ?_
  refine AWR.seq ?_
  refine AWR.ent (Ent.of (σ' := [(2, (.s (.c (iC a)))), (3, (.s (.c (iC b)))), (4, (.s (.c (.pl 21 0)))), (5, (.s (.c (.pl 22 0)))), (8, (.s (.c (.pl 23 0)))), (10, (.s (.c (.loc 24 0 (List.replicate g.Points.toNat (0 : Int)).length))))]) (m' := [(21, (.row 30 [[(iC g.Points), (.pv (.xs false (g.Bars.map encTBar)))]])), (22, (.row 68 [[(.pv (.xs false (p.Free.map encInt))), (.pv (.xs false (p.Tails.map encInt))), (.pv (.xs false (p.Placed.map encInt)))]])), (23, (.row 68 [[(sC nilV), (sC nilV), (sC nilV)]])), (24, (.prow 3 ((List.replicate g.Points.toNat (0 : Int)).map encInt)))]) ⟨rfl, rfl, rfl, rfl, rfl, rfl, trivial⟩ ⟨rfl, rfl, rfl, rfl, trivial⟩) ?_
  refine AWR.region ?_
  refine AOR.pure (LT.assign (v := (.s (.c (iC 0)))) rfl) ⟨⟨rfl, rfl⟩, trivial⟩ trivial rfl rfl ?_
  refine AOR.nil ?_
  refine AWR.block ?_
  refine AWR.loop1 (id := 0) (m_spec_l4Find_L1 g) (fun s2 => ([(2, (.s (.c (iC a)))), (3, (.s (.c (iC b)))), (4, (.s (.c (.pl 21 0)))), (5, (.s (.c (.pl 22 0)))), (8, (.s (.c (.pl 23 0)))), (10, (.s (.c (.loc 24 0 s2.2.length)))), (11, (.s (.c (iC s2.1))))], [(21, (.row 30 [[(iC g.Points), (.pv (.xs false (g.Bars.map encTBar)))]])), (22, (.row 68 [[(.pv (.xs false (p.Free.map encInt))), (.pv (.xs false (p.Tails.map encInt))), (.pv (.xs false (p.Placed.map encInt)))]])), (23, (.row 68 [[(sC nilV), (sC nilV), (sC nilV)]])), (24, (.prow 3 (s2.2.map encInt)))])) (fun b7 => ([(2, (.s (.c (iC a)))), (3, (.s (.c (iC b)))), (4, (.s (.c (.pl 21 0)))), (5, (.s (.c (.pl 22 0)))), (8, (.s (.c (.pl 23 0)))), (10, (.s (.c (.loc 24 0 b7.length))))], [(21, (.row 30 [[(iC g.Points), (.pv (.xs false (g.Bars.map encTBar)))]])), (22, (.row 68 [[(.pv (.xs false (p.Free.map encInt))), (.pv (.xs false (p.Tails.map encInt))), (.pv (.xs false (p.Placed.map encInt)))]])), (23, (.row 68 [[(sC nilV), (sC nilV), (sC nilV)]])), (24, (.prow 3 (b7.map encInt)))])) ?_ (Ent.of ⟨rfl, rfl, rfl, rfl, rfl, rfl, rfl, trivial⟩ ⟨rfl, rfl, rfl, rfl, trivial⟩) rfl (fun b7 _ => ?_)
  · intro s2
    unfold m_spec_l4Find_L1
    refine AWR.seq ?_
    refine AWR.seq ?_
    refine AWR.region ?_
    refine AOR.pure (LT.move (v := (.s (.c (iC s2.1)))) rfl) ⟨rfl, trivial⟩ trivial rfl rfl ?_
    refine AOR.pure (LT.fieldPl rfl fo30_0) ⟨rfl, trivial⟩ trivial rfl rfl ?_
    refine AOR.pure (LT.bload1 (c := (iC g.Points)) rfl ag3 (by exact rfl)) ⟨rfl, trivial⟩ ⟨rfl, trivial⟩ rfl rfl ?_
    refine AOR.pure (LT.lss rfl) ⟨rfl, rfl, trivial⟩ trivial rfl rfl ?_
    refine AOR.nil ?_
    refine AWR.cond rfl (fun hc8 => ?_) (fun hc8 => ?_)
    · refine AWR.skip ?_
      refine AWR.seq ?_
      refine AWR.block ?_
      refine AWR.region ?_
      refine AOR.pure (LT.move (v := (.s (.c (.loc 24 0 s2.2.length)))) rfl) ⟨rfl, trivial⟩ trivial rfl rfl ?_
      refine AOR.pure (LT.move (v := (.s (.c (iC s2.1)))) rfl) ⟨rfl, trivial⟩ trivial rfl rfl ?_
      refine AOR.bind fun x9 hx9 => ?_
      refine AOR.pure (LT.tindexLoc rfl rfl el26 hx9) ⟨rfl, rfl, trivial⟩ ⟨rfl, trivial⟩ rfl rfl ?_
      refine AOR.step (LT.tstore (k := 0) (v := (.c (iC (-1)))) (b' := (-1)) rfl rfl (infS inf3) sz3 (by exact rfl) hx9 (by exact rfl) (by exact Nat.le_of_ble_eq_true rfl) (by exact rfl)) ⟨rfl, ⟨rfl, rfl⟩, trivial⟩ ⟨rfl, trivial⟩ rfl rfl ?_
      refine AOR.nil ?_
      refine AWR.blk ?_
      refine AWR.region ?_
      refine AOR.pure (LT.move (v := (.s (.c (iC s2.1)))) rfl) ⟨rfl, trivial⟩ trivial rfl rfl ?_
      refine AOR.pure (LT.add rfl) ⟨rfl, ⟨rfl, rfl⟩, trivial⟩ trivial rfl rfl ?_
      refine AOR.pure (LT.assign (v := (.s (.c (iC (w64 (s2.1 + 1)))))) rfl) ⟨rfl, trivial⟩ trivial rfl rfl ?_
      refine AOR.nil ?_
      refine AWR.nil ⟨rfl, Ent.of ⟨rfl, rfl, rfl, rfl, rfl, (congrArg (fun l1 => (some (AV.s (.c (.loc 24 0 l1))) : Option AV)) (show s2.2.length = (s2.2.set s2.1.toNat (-1)).length by simp only [List.length_set])), rfl, trivial⟩ ⟨rfl, rfl, rfl, rfl, trivial⟩⟩
    · refine AWR.exit_end rfl ⟨rfl, Ent.of ⟨rfl, rfl, rfl, rfl, rfl, rfl, trivial⟩ ⟨rfl, rfl, rfl, rfl, trivial⟩⟩
  · refine AWR.seq ?_
    refine AWR.region ?_
    refine AOR.pure (LT.move (v := (.s (.c (iC a)))) rfl) ⟨rfl, trivial⟩ trivial rfl rfl ?_
    refine AOR.step (LT.tbuildSlice (n := 25) (enc := encInt) [(0, .tmp 30, (.c (iC a)))] ([a] : List Int) rfl rfl und26 ti3 rfl rfl rfl rfl (by decide) (fun _ => rfl) rfl) ⟨rfl, trivial⟩ trivial rfl rfl ?_
    refine AOR.pure (LT.assign (v := (.s (.c (.loc 25 0 ([a] : List Int).length)))) rfl) ⟨rfl, trivial⟩ trivial rfl rfl ?_
    refine AOR.nil ?_
    refine AWR.seq ?_
    refine AWR.region ?_
    refine AOR.pure (LT.fieldPl rfl fo30_0) ⟨rfl, trivial⟩ trivial rfl rfl ?_
    refine AOR.pure (LT.bload1 (c := (iC g.Points)) rfl ag3 (by exact rfl)) ⟨rfl, trivial⟩ ⟨rfl, trivial⟩ rfl rfl ?_
    refine AOR.bind fun u10 hu10 => ?_
    refine AOR.step (LT.tmake (n := 26) (enc := encBool) (zc := [(bC false)]) false rfl und73 ti4 rfl rfl rfl (by decide) (by decide) (lenOk_le hu10) rfl) ⟨rfl, rfl, trivial⟩ trivial rfl rfl ?_
    refine AOR.pure (LT.assign (v := (.s (.c (.loc 26 0 (List.replicate g.Points.toNat false).length)))) rfl) ⟨rfl, trivial⟩ trivial rfl rfl ?_
    refine AOR.nil ?_
    refine AWR.seq ?_
    refine AWR.ent (Ent.of (σ' := [(2, (.s (.c (iC a)))), (3, (.s (.c (iC b)))), (4, (.s (.c (.pl 21 0)))), (5, (.s (.c (.pl 22 0)))), (8, (.s (.c (.pl 23 0)))), (10, (.s (.c (.loc 24 0 b7.length)))), (12, (.s (.c (.loc 25 0 ([a] : List Int).length)))), (13, (.s (.c (.loc 26 0 (List.replicate g.Points.toNat false).length))))]) (m' := [(21, (.row 30 [[(iC g.Points), (.pv (.xs false (g.Bars.map encTBar)))]])), (22, (.row 68 [[(.pv (.xs false (p.Free.map encInt))), (.pv (.xs false (p.Tails.map encInt))), (.pv (.xs false (p.Placed.map encInt)))]])), (23, (.row 68 [[(sC nilV), (sC nilV), (sC nilV)]])), (24, (.prow 3 (b7.map encInt))), (25, (.prow 3 (([a] : List Int).map encInt))), (26, (.prow 4 ((List.replicate g.Points.toNat false).map encBool)))]) ⟨rfl, rfl, rfl, rfl, rfl, rfl, rfl, rfl, trivial⟩ ⟨rfl, rfl, rfl, rfl, rfl, rfl, trivial⟩) ?_
    refine AWR.region ?_
    refine AOR.pure (LT.move (v := (.s (.c (.loc 26 0 (List.replicate g.Points.toNat false).length)))) rfl) ⟨rfl, trivial⟩ trivial rfl rfl ?_
    refine AOR.pure (LT.move (v := (.s (.c (iC a)))) rfl) ⟨rfl, trivial⟩ trivial rfl rfl ?_
    refine AOR.bind fun x11 hx11 => ?_
    refine AOR.pure (LT.tindexLoc rfl rfl el73 hx11) ⟨rfl, rfl, trivial⟩ ⟨rfl, trivial⟩ rfl rfl ?_
    refine AOR.step (LT.tstore (k := 0) (v := (.c (bC true))) (b' := true) rfl rfl (infS inf4) sz4 (by exact rfl) hx11 (by exact rfl) (by exact Nat.le_of_ble_eq_true rfl) (by exact rfl)) ⟨rfl, ⟨rfl, rfl⟩, trivial⟩ ⟨rfl, trivial⟩ rfl rfl ?_
    refine AOR.nil ?_
    refine AWR.seq ?_
    refine AWR.seq ?_
    refine AWR.region ?_
    refine AOR.pure (LT.assign (v := (.s (.c (iC 0)))) rfl) ⟨⟨rfl, rfl⟩, trivial⟩ trivial rfl rfl ?_
    refine AOR.nil ?_
    refine AWR.block ?_
    refine AWR.loopR (id := 2) (m_spec_l4Find_L4 g p a b) (fun s12 => ([(2, (.s (.c (iC a)))), (3, (.s (.c (iC b)))), (4, (.s (.c (.pl 21 0)))), (5, (.s (.c (.pl 22 0)))), (8, (.s (.c (.pl 23 0)))), (10, (.s (.c (.loc 24 0 s12.2.1.length)))), (12, (.s (.c (.loc 25 0 s12.2.2.1.length)))), (13, (.s (.c (.loc 26 0 s12.2.2.2.length)))), (14, (.s (.c (iC s12.1))))], [(21, (.row 30 [[(iC g.Points), (.pv (.xs false (g.Bars.map encTBar)))]])), (22, (.row 68 [[(.pv (.xs false (p.Free.map encInt))), (.pv (.xs false (p.Tails.map encInt))), (.pv (.xs false (p.Placed.map encInt)))]])), (23, (.row 68 [[(sC nilV), (sC nilV), (sC nilV)]])), (24, (.prow 3 (s12.2.1.map encInt))), (25, (.prow 3 (s12.2.2.1.map encInt))), (26, (.prow 4 (s12.2.2.2.map encBool)))])) (fun b93 => ([(5, (.s (.c (.pl 22 0)))), (8, (.s (.c (.pl 23 0))))], [(22, (.row 68 [[(.pv (.xs false (p.Free.map encInt))), (.pv (.xs false (p.Tails.map encInt))), (.pv (.xs false (p.Placed.map encInt)))]])), (23, (.row 68 [[(sC nilV), (sC nilV), (sC nilV)]]))])) (FPost Try.prog Try.f87.results.toList [] [0, 1, 2] (fun (t : (TPebbles × Bool)) => [(.agg [(bif t.2 then (.loc 0 0 t.1.Free.length) else .junk), (bif t.2 then (.loc 1 0 t.1.Tails.length) else .junk), (bif t.2 then (.loc 2 0 t.1.Placed.length) else .junk)]), (.c (bC t.2))]) (fun (t : (TPebbles × Bool)) => [(0, (.prow 3 ((bif t.2 then t.1.Free else []).map encInt))), (1, (.prow 3 ((bif t.2 then t.1.Tails else []).map encInt))), (2, (.prow 3 ((bif t.2 then t.1.Placed else []).map encInt)))])) ?_ (Ent.of ⟨rfl, rfl, rfl, rfl, rfl, rfl, rfl, (congrArg (fun l1 => (some (AV.s (.c (.loc 26 0 l1))) : Option AV)) (show (List.replicate g.Points.toNat false).length = ((List.replicate g.Points.toNat false).set a.toNat true).length by simp only [List.length_set])), rfl, trivial⟩ ⟨rfl, rfl, rfl, rfl, rfl, rfl, trivial⟩) rfl (fun b93 _ => ?_) (by intro r t σ m ht hk; injection ht with ht; subst ht; exact hk)
    · intro s12
      unfold m_spec_l4Find_L4
      refine AWR.seq ?_
      refine AWR.seq ?_
      refine AWR.region ?_
      refine AOR.pure (LT.move (v := (.s (.c (iC s12.1)))) rfl) ⟨rfl, trivial⟩ trivial rfl rfl ?_
      refine AOR.pure (LT.move (v := (.s (.c (.loc 25 0 s12.2.2.1.length)))) rfl) ⟨rfl, trivial⟩ trivial rfl rfl ?_
      refine AOR.pure (LT.lenLoc rfl und26) ⟨rfl, trivial⟩ trivial rfl rfl ?_
      refine AOR.pure (LT.lss rfl) ⟨rfl, rfl, trivial⟩ trivial rfl rfl ?_
      refine AOR.nil ?_
      refine AWR.cond rfl (fun hc94 => ?_) (fun hc94 => ?_)
      · refine AWR.skip ?_
        refine AWR.seq ?_
        refine AWR.block ?_
        refine AWR.seq ?_
        refine AWR.region ?_
        refine AOR.pure (LT.move (v := (.s (.c (.loc 25 0 s12.2.2.1.length)))) rfl) ⟨rfl, trivial⟩ trivial rfl rfl ?_
        refine AOR.pure (LT.move (v := (.s (.c (iC s12.1)))) rfl) ⟨rfl, trivial⟩ trivial rfl rfl ?_
        refine AOR.bind fun x95 hx95 => ?_
        refine AOR.pure (LT.tindexLoc rfl rfl el26 hx95) ⟨rfl, rfl, trivial⟩ ⟨rfl, trivial⟩ rfl rfl ?_
        refine AOR.pure (LT.tload1 (k := 0) rfl ag3 hx95 (by exact rfl) (by exact rfl)) ⟨rfl, trivial⟩ ⟨rfl, trivial⟩ rfl rfl ?_
        refine AOR.pure (LT.assign (v := (.s (.c (iC x95)))) rfl) ⟨rfl, trivial⟩ trivial rfl rfl ?_
        refine AOR.nil ?_
        refine AWR.seq ?_
        refine AWR.region ?_
        refine AOR.pure (LT.assign (v := (.s (.c (iC 0)))) rfl) ⟨⟨rfl, rfl⟩, trivial⟩ trivial rfl rfl ?_
        refine AOR.nil ?_
        refine AWR.block ?_
        refine AWR.loopR (id := 4) (m_spec_l4Find_L5 g p a b s12 x95) (fun s96 => ([(2, (.s (.c (iC a)))), (3, (.s (.c (iC b)))), (4, (.s (.c (.pl 21 0)))), (5, (.s (.c (.pl 22 0)))), (8, (.s (.c (.pl 23 0)))), (10, (.s (.c (.loc 24 0 s96.2.1.length)))), (12, (.s (.c (.loc 25 0 s96.2.2.1.length)))), (13, (.s (.c (.loc 26 0 s96.2.2.2.length)))), (14, (.s (.c (iC s12.1)))), (15, (.s (.c (iC x95)))), (16, (.s (.c (iC s96.1))))], [(21, (.row 30 [[(iC g.Points), (.pv (.xs false (g.Bars.map encTBar)))]])), (22, (.row 68 [[(.pv (.xs false (p.Free.map encInt))), (.pv (.xs false (p.Tails.map encInt))), (.pv (.xs false (p.Placed.map encInt)))]])), (23, (.row 68 [[(sC nilV), (sC nilV), (sC nilV)]])), (24, (.prow 3 (s96.2.1.map encInt))), (25, (.prow 3 (s96.2.2.1.map encInt))), (26, (.prow 4 (s96.2.2.2.map encBool)))])) (fun b133 => ([(2, (.s (.c (iC a)))), (3, (.s (.c (iC b)))), (4, (.s (.c (.pl 21 0)))), (5, (.s (.c (.pl 22 0)))), (8, (.s (.c (.pl 23 0)))), (10, (.s (.c (.loc 24 0 b133.2.1.length)))), (12, (.s (.c (.loc 25 0 b133.2.2.1.length)))), (13, (.s (.c (.loc 26 0 b133.2.2.2.length)))), (14, (.s (.c (iC b133.1))))], [(21, (.row 30 [[(iC g.Points), (.pv (.xs false (g.Bars.map encTBar)))]])), (22, (.row 68 [[(.pv (.xs false (p.Free.map encInt))), (.pv (.xs false (p.Tails.map encInt))), (.pv (.xs false (p.Placed.map encInt)))]])), (23, (.row 68 [[(sC nilV), (sC nilV), (sC nilV)]])), (24, (.prow 3 (b133.2.1.map encInt))), (25, (.prow 3 (b133.2.2.1.map encInt))), (26, (.prow 4 (b133.2.2.2.map encBool)))])) (FPost Try.prog Try.f87.results.toList [] [0, 1, 2] (fun (t : (TPebbles × Bool)) => [(.agg [(bif t.2 then (.loc 0 0 t.1.Free.length) else .junk), (bif t.2 then (.loc 1 0 t.1.Tails.length) else .junk), (bif t.2 then (.loc 2 0 t.1.Placed.length) else .junk)]), (.c (bC t.2))]) (fun (t : (TPebbles × Bool)) => [(0, (.prow 3 ((bif t.2 then t.1.Free else []).map encInt))), (1, (.prow 3 ((bif t.2 then t.1.Tails else []).map encInt))), (2, (.prow 3 ((bif t.2 then t.1.Placed else []).map encInt)))])) ?_ (Ent.of ⟨rfl, rfl, rfl, rfl, rfl, rfl, rfl, rfl, rfl, rfl, rfl, trivial⟩ ⟨rfl, rfl, rfl, rfl, rfl, rfl, trivial⟩) rfl (fun b133 _ => ?_) (by intro r t σ m ht hk; injection ht with ht; subst ht; exact ⟨rfl, hk⟩)
        · intro s96
          unfold m_spec_l4Find_L5
          refine AWR.seq ?_
          refine AWR.seq ?_
          refine AWR.region ?_
          refine AOR.pure (LT.move (v := (.s (.c (iC s96.1)))) rfl) ⟨rfl, trivial⟩ trivial rfl rfl ?_
          refine AOR.pure (LT.fieldPl rfl fo68_2) ⟨rfl, trivial⟩ trivial rfl rfl ?_
          refine AOR.pure (LT.bload1 (c := (.pv (.xs false (p.Placed.map encInt)))) rfl ag26 (by exact rfl)) ⟨rfl, trivial⟩ ⟨rfl, trivial⟩ rfl rfl ?_
          refine AOR.pure (LT.tlenRO rfl und26) ⟨rfl, trivial⟩ trivial rfl rfl ?_
          refine AOR.pure (LT.lss rfl) ⟨rfl, rfl, trivial⟩ trivial rfl rfl ?_
          refine AOR.nil ?_
          refine AWR.cond rfl (fun hc134 => ?_) (fun hc134 => ?_)
          · refine AWR.skip ?_
            refine AWR.seq ?_
            refine AWR.block ?_
            refine AWR.seq ?_
            refine AWR.seq ?_
            refine AWR.region ?_
            refine AOR.pure (LT.fieldPl rfl fo68_1) ⟨rfl, trivial⟩ trivial rfl rfl ?_
            refine AOR.pure (LT.bload1 (c := (.pv (.xs false (p.Tails.map encInt)))) rfl ag26 (by exact rfl)) ⟨rfl, trivial⟩ ⟨rfl, trivial⟩ rfl rfl ?_
            refine AOR.pure (LT.move (v := (.s (.c (iC s96.1)))) rfl) ⟨rfl, trivial⟩ trivial rfl rfl ?_
            refine AOR.bind fun x135 hx135 => ?_
            refine AOR.pure (LT.tindexRO (enc := encInt) rfl el26 hx135 sz3) ⟨rfl, rfl, trivial⟩ trivial rfl rfl ?_
            refine AOR.pure (LT.loadPx1 rfl ag3) ⟨rfl, trivial⟩ trivial rfl rfl ?_
            refine AOR.pure (LT.move (v := (.s (.c (iC x95)))) rfl) ⟨rfl, trivial⟩ trivial rfl rfl ?_
            refine AOR.pure (LT.neq rfl) ⟨rfl, rfl, trivial⟩ trivial rfl rfl ?_
            refine AOR.nil ?_
            refine AWR.cond rfl (fun hc136 => ?_) (fun hc136 => ?_)
            · refine AWR.exit rfl ?_
              refine AWR.ent (Ent.of (σ' := [(2, (.s (.c (iC a)))), (3, (.s (.c (iC b)))), (4, (.s (.c (.pl 21 0)))), (5, (.s (.c (.pl 22 0)))), (8, (.s (.c (.pl 23 0)))), (10, (.s (.c (.loc 24 0 s96.2.1.length)))), (12, (.s (.c (.loc 25 0 s96.2.2.1.length)))), (13, (.s (.c (.loc 26 0 s96.2.2.2.length)))), (14, (.s (.c (iC s12.1)))), (15, (.s (.c (iC x95)))), (16, (.s (.c (iC s96.1))))]) (m' := [(21, (.row 30 [[(iC g.Points), (.pv (.xs false (g.Bars.map encTBar)))]])), (22, (.row 68 [[(.pv (.xs false (p.Free.map encInt))), (.pv (.xs false (p.Tails.map encInt))), (.pv (.xs false (p.Placed.map encInt)))]])), (23, (.row 68 [[(sC nilV), (sC nilV), (sC nilV)]])), (24, (.prow 3 (s96.2.1.map encInt))), (25, (.prow 3 (s96.2.2.1.map encInt))), (26, (.prow 4 (s96.2.2.2.map encBool)))]) ⟨rfl, rfl, rfl, rfl, rfl, rfl, rfl, rfl, rfl, rfl, rfl, trivial⟩ ⟨rfl, rfl, rfl, rfl, rfl, rfl, trivial⟩) ?_
              refine AWR.region ?_
              refine AOR.pure (LT.move (v := (.s (.c (iC s96.1)))) rfl) ⟨rfl, trivial⟩ trivial rfl rfl ?_
              refine AOR.pure (LT.add rfl) ⟨rfl, ⟨rfl, rfl⟩, trivial⟩ trivial rfl rfl ?_
              refine AOR.pure (LT.assign (v := (.s (.c (iC (w64 (s96.1 + 1)))))) rfl) ⟨rfl, trivial⟩ trivial rfl rfl ?_
              refine AOR.nil ?_
              refine AWR.nil ⟨rfl, Ent.of ⟨rfl, rfl, rfl, rfl, rfl, rfl, rfl, rfl, rfl, rfl, rfl, trivial⟩ ⟨rfl, rfl, rfl, rfl, rfl, rfl, trivial⟩⟩
            · refine AWR.skip ?_
              refine AWR.seq ?_
              refine AWR.ent (Ent.of (σ' := [(2, (.s (.c (iC a)))), (3, (.s (.c (iC b)))), (4, (.s (.c (.pl 21 0)))), (5, (.s (.c (.pl 22 0)))), (8, (.s (.c (.pl 23 0)))), (10, (.s (.c (.loc 24 0 s96.2.1.length)))), (12, (.s (.c (.loc 25 0 s96.2.2.1.length)))), (13, (.s (.c (.loc 26 0 s96.2.2.2.length)))), (14, (.s (.c (iC s12.1)))), (15, (.s (.c (iC x95)))), (16, (.s (.c (iC s96.1))))]) (m' := [(21, (.row 30 [[(iC g.Points), (.pv (.xs false (g.Bars.map encTBar)))]])), (22, (.row 68 [[(.pv (.xs false (p.Free.map encInt))), (.pv (.xs false (p.Tails.map encInt))), (.pv (.xs false (p.Placed.map encInt)))]])), (23, (.row 68 [[(sC nilV), (sC nilV), (sC nilV)]])), (24, (.prow 3 (s96.2.1.map encInt))), (25, (.prow 3 (s96.2.2.1.map encInt))), (26, (.prow 4 (s96.2.2.2.map encBool)))]) ⟨rfl, rfl, rfl, rfl, rfl, rfl, rfl, rfl, rfl, rfl, rfl, trivial⟩ ⟨rfl, rfl, rfl, rfl, rfl, rfl, trivial⟩) ?_
              refine AWR.draw mixed ?_
              refine AOD.pure (LT.fieldPl rfl fo30_1) ⟨rfl, trivial⟩ trivial rfl rfl ?_
              refine AOD.pure (LT.bload1 (c := (.pv (.xs false (g.Bars.map encTBar)))) rfl ag28 (by exact rfl)) ⟨rfl, trivial⟩ ⟨rfl, trivial⟩ rfl rfl ?_
              refine AOD.pure (LT.fieldPl rfl fo68_2) ⟨rfl, trivial⟩ trivial rfl rfl ?_
              refine AOD.pure (LT.bload1 (c := (.pv (.xs false (p.Placed.map encInt)))) rfl ag26 (by exact rfl)) ⟨rfl, trivial⟩ ⟨rfl, trivial⟩ rfl rfl ?_
              refine AOD.pure (LT.move (v := (.s (.c (iC s96.1)))) rfl) ⟨rfl, trivial⟩ trivial rfl rfl ?_
              refine AOD.bind fun x137 hx137 => ?_
              refine AOD.pure (LT.tindexRO (enc := encInt) rfl el26 hx137 sz3) ⟨rfl, rfl, trivial⟩ trivial rfl rfl ?_
              refine AOD.pure (LT.loadPx1 rfl ag3) ⟨rfl, trivial⟩ trivial rfl rfl ?_
              refine AOD.bind fun x138 hx138 => ?_
              refine AOD.pure (LT.tindexRO (enc := encTBar) rfl el28 hx138 sz60) ⟨rfl, rfl, trivial⟩ trivial rfl rfl ?_
              refine AOD.pure (LT.loadPxN rfl ag60 (infS inf60) (by exact sz60.symm)) ⟨rfl, trivial⟩ trivial rfl rfl ?_
              refine AOD.pure (LT.move (v := (.s (.c (iC x95)))) rfl) ⟨rfl, trivial⟩ trivial rfl rfl ?_
              refine AOD.bind fun r139 hr139 => ?_
              refine AOD.pure (@LT.callF Try.prog _ _ 90 _ _ [(.agg [(iC x138.A), (iC x138.B)]), (.c (iC x95))] _ _ [] _ _ _ _ (w_spec_l4Other x138 x95 r139 hr139) rfl cb90 (.cons (.agg (.cons (.same rfl) (.cons (.same rfl) .nil))) (.cons (.c (.same rfl)) .nil)) rfl rfl trivial) ⟨rfl, rfl, rfl, trivial⟩ trivial rfl rfl ?_
              refine AOD.pure (LT.assign (v := (.s (.c (iC r139)))) rfl) ⟨rfl, trivial⟩ trivial rfl rfl ?_
              refine AOD.nil (by kernel_rfl) ?_
              refine AWR.seq ?_
              refine AWR.seq ?_
              refine AWR.ent (Ent.of (σ' := [(2, (.s (.c (iC a)))), (3, (.s (.c (iC b)))), (4, (.s (.c (.pl 21 0)))), (5, (.s (.c (.pl 22 0)))), (8, (.s (.c (.pl 23 0)))), (10, (.s (.c (.loc 24 0 s96.2.1.length)))), (12, (.s (.c (.loc 25 0 s96.2.2.1.length)))), (13, (.s (.c (.loc 26 0 s96.2.2.2.length)))), (14, (.s (.c (iC s12.1)))), (15, (.s (.c (iC x95)))), (16, (.s (.c (iC s96.1)))), (17, (.s (.c (iC r139))))]) (m' := [(21, (.row 30 [[(iC g.Points), (.pv (.xs false (g.Bars.map encTBar)))]])), (22, (.row 68 [[(.pv (.xs false (p.Free.map encInt))), (.pv (.xs false (p.Tails.map encInt))), (.pv (.xs false (p.Placed.map encInt)))]])), (23, (.row 68 [[(sC nilV), (sC nilV), (sC nilV)]])), (24, (.prow 3 (s96.2.1.map encInt))), (25, (.prow 3 (s96.2.2.1.map encInt))), (26, (.prow 4 (s96.2.2.2.map encBool)))]) ⟨rfl, rfl, rfl, rfl, rfl, rfl, rfl, rfl, rfl, rfl, rfl, rfl, trivial⟩ ⟨rfl, rfl, rfl, rfl, rfl, rfl, trivial⟩) ?_
              refine AWR.region ?_
              refine AOR.pure (LT.move (v := (.s (.c (.loc 26 0 s96.2.2.2.length)))) rfl) ⟨rfl, trivial⟩ trivial rfl rfl ?_
              refine AOR.pure (LT.move (v := (.s (.c (iC r139)))) rfl) ⟨rfl, trivial⟩ trivial rfl rfl ?_
              refine AOR.bind fun x140 hx140 => ?_
              refine AOR.pure (LT.tindexLoc rfl rfl el73 hx140) ⟨rfl, rfl, trivial⟩ ⟨rfl, trivial⟩ rfl rfl ?_
              refine AOR.pure (LT.tload1 (k := 0) rfl ag4 hx140 (by exact rfl) (by exact rfl)) ⟨rfl, trivial⟩ ⟨rfl, trivial⟩ rfl rfl ?_
              refine AOR.nil ?_
              refine AWR.cond rfl (fun hc141 => ?_) (fun hc141 => ?_)
              · refine AWR.exit rfl ?_
                refine AWR.region ?_
                refine AOR.pure (LT.move (v := (.s (.c (iC s96.1)))) rfl) ⟨rfl, trivial⟩ trivial rfl rfl ?_
                refine AOR.pure (LT.add rfl) ⟨rfl, ⟨rfl, rfl⟩, trivial⟩ trivial rfl rfl ?_
                refine AOR.pure (LT.assign (v := (.s (.c (iC (w64 (s96.1 + 1)))))) rfl) ⟨rfl, trivial⟩ trivial rfl rfl ?_
                refine AOR.nil ?_
                refine AWR.nil ⟨rfl, Ent.of ⟨rfl, rfl, rfl, rfl, rfl, rfl, rfl, rfl, rfl, rfl, rfl, trivial⟩ ⟨rfl, rfl, rfl, rfl, rfl, rfl, trivial⟩⟩
              · refine AWR.skip ?_
                refine AWR.seq ?_
                refine AWR.region ?_
                refine AOR.pure (LT.move (v := (.s (.c (.loc 26 0 s96.2.2.2.length)))) rfl) ⟨rfl, trivial⟩ trivial rfl rfl ?_
                refine AOR.pure (LT.move (v := (.s (.c (iC r139)))) rfl) ⟨rfl, trivial⟩ trivial rfl rfl ?_
                refine AOR.bind fun x142 hx142 => ?_
                refine AOR.pure (LT.tindexLoc rfl rfl el73 hx142) ⟨rfl, rfl, trivial⟩ ⟨rfl, trivial⟩ rfl rfl ?_
                refine AOR.step (LT.tstore (k := 0) (v := (.c (bC true))) (b' := true) rfl rfl (infS inf4) sz4 (by exact rfl) hx142 (by exact rfl) (by exact Nat.le_of_ble_eq_true rfl) (by exact rfl)) ⟨rfl, ⟨rfl, rfl⟩, trivial⟩ ⟨rfl, trivial⟩ rfl rfl ?_
                refine AOR.nil ?_
                refine AWR.seq ?_
                refine AWR.region ?_
                refine AOR.pure (LT.move (v := (.s (.c (.loc 24 0 s96.2.1.length)))) rfl) ⟨rfl, trivial⟩ trivial rfl rfl ?_
                refine AOR.pure (LT.move (v := (.s (.c (iC r139)))) rfl) ⟨rfl, trivial⟩ trivial rfl rfl ?_
                refine AOR.pure (LT.move (v := (.s (.c (iC s96.1)))) rfl) ⟨rfl, trivial⟩ trivial rfl rfl ?_
                refine AOR.bind fun x143 hx143 => ?_
                refine AOR.pure (LT.tindexLoc rfl rfl el26 hx143) ⟨rfl, rfl, trivial⟩ ⟨rfl, trivial⟩ rfl rfl ?_
                refine AOR.step (LT.tstore (k := 0) (v := (.c (iC s96.1))) (b' := s96.1) rfl rfl (infS inf3) sz3 (by exact rfl) hx143 (by exact rfl) (by exact Nat.le_of_ble_eq_true rfl) (by exact rfl)) ⟨rfl, rfl, trivial⟩ ⟨rfl, trivial⟩ rfl rfl ?_
                refine AOR.nil ?_
                refine AWR.seq ?_
                refine AWR.seq ?_
                refine AWR.joinK (fun j146 => ([(2, (.s (.c (iC a)))), (3, (.s (.c (iC b)))), (4, (.s (.c (.pl 21 0)))), (5, (.s (.c (.pl 22 0)))), (8, (.s (.c (.pl 23 0)))), (10, (.s (.c (.loc 24 0 (s96.2.1.set r139.toNat s96.1).length)))), (12, (.s (.c (.loc 25 0 s96.2.2.1.length)))), (13, (.s (.c (.loc 26 0 (s96.2.2.2.set r139.toNat true).length)))), (14, (.s (.c (iC s12.1)))), (15, (.s (.c (iC x95)))), (16, (.s (.c (iC s96.1)))), (17, (.s (.c (iC r139)))), (94, (.s (.c (bC j146))))], [(21, (.row 30 [[(iC g.Points), (.pv (.xs false (g.Bars.map encTBar)))]])), (22, (.row 68 [[(.pv (.xs false (p.Free.map encInt))), (.pv (.xs false (p.Tails.map encInt))), (.pv (.xs false (p.Placed.map encInt)))]])), (23, (.row 68 [[(sC nilV), (sC nilV), (sC nilV)]])), (24, (.prow 3 ((s96.2.1.set r139.toNat s96.1).map encInt))), (25, (.prow 3 (s96.2.2.1.map encInt))), (26, (.prow 4 ((s96.2.2.2.set r139.toNat true).map encBool)))])) ?_ (fun j146 _ => ?_)
                · refine AWR.ent (Ent.of (σ' := [(2, (.s (.c (iC a)))), (3, (.s (.c (iC b)))), (4, (.s (.c (.pl 21 0)))), (5, (.s (.c (.pl 22 0)))), (8, (.s (.c (.pl 23 0)))), (10, (.s (.c (.loc 24 0 s96.2.1.length)))), (12, (.s (.c (.loc 25 0 s96.2.2.1.length)))), (13, (.s (.c (.loc 26 0 s96.2.2.2.length)))), (14, (.s (.c (iC s12.1)))), (15, (.s (.c (iC x95)))), (16, (.s (.c (iC s96.1)))), (17, (.s (.c (iC r139))))]) (m' := [(21, (.row 30 [[(iC g.Points), (.pv (.xs false (g.Bars.map encTBar)))]])), (22, (.row 68 [[(.pv (.xs false (p.Free.map encInt))), (.pv (.xs false (p.Tails.map encInt))), (.pv (.xs false (p.Placed.map encInt)))]])), (23, (.row 68 [[(sC nilV), (sC nilV), (sC nilV)]])), (24, (.prow 3 ((s96.2.1.set r139.toNat s96.1).map encInt))), (25, (.prow 3 (s96.2.2.1.map encInt))), (26, (.prow 4 ((s96.2.2.2.set r139.toNat true).map encBool)))]) ⟨rfl, rfl, rfl, rfl, rfl, rfl, rfl, rfl, rfl, rfl, rfl, rfl, trivial⟩ ⟨rfl, rfl, rfl, rfl, rfl, rfl, trivial⟩) ?_
                  refine AWR.region ?_
                  refine AOR.pure (LT.move (v := (.s (.c (iC r139)))) rfl) ⟨rfl, trivial⟩ trivial rfl rfl ?_
                  refine AOR.pure (LT.move (v := (.s (.c (iC b)))) rfl) ⟨rfl, trivial⟩ trivial rfl rfl ?_
                  refine AOR.pure (LT.neq rfl) ⟨rfl, rfl, trivial⟩ trivial rfl rfl ?_
                  refine AOR.pure (LT.move (v := (.s (.c (bC (r139 != b))))) rfl) ⟨rfl, trivial⟩ trivial rfl rfl ?_
                  refine AOR.split (fun hb147 => ?_) (fun hb147 => ?_)
                  · refine AOR.pure (LT.fieldPl rfl fo68_0) ⟨rfl, trivial⟩ trivial ⟨_, rfl, .inl ⟨_, rfl, (by rw [hb147]; rfl)⟩⟩ rfl ?_
                    refine AOR.pure (LT.bload1 (c := (.pv (.xs false (p.Free.map encInt)))) rfl ag26 (by exact rfl)) ⟨rfl, trivial⟩ ⟨rfl, trivial⟩ ⟨_, rfl, .inl ⟨_, rfl, (by rw [hb147]; rfl)⟩⟩ rfl ?_
                    refine AOR.pure (LT.move (v := (.s (.c (iC r139)))) rfl) ⟨rfl, trivial⟩ trivial ⟨_, rfl, .inl ⟨_, rfl, (by rw [hb147]; rfl)⟩⟩ rfl ?_
                    refine AOR.bind fun x148 hx148 => ?_
                    refine AOR.pure (LT.tindexRO (enc := encInt) rfl el26 hx148 sz3) ⟨rfl, rfl, trivial⟩ trivial ⟨_, rfl, .inl ⟨_, rfl, (by rw [hb147]; rfl)⟩⟩ rfl ?_
                    refine AOR.pure (LT.loadPx1 rfl ag3) ⟨rfl, trivial⟩ trivial ⟨_, rfl, .inl ⟨_, rfl, (by rw [hb147]; rfl)⟩⟩ rfl ?_
                    refine AOR.pure (LT.gtr rfl) ⟨rfl, ⟨rfl, rfl⟩, trivial⟩ trivial ⟨_, rfl, .inl ⟨_, rfl, (by rw [hb147]; rfl)⟩⟩ rfl ?_
                    refine AOR.pure (LT.pickT (v := (.s (.c (bC (decide (0 < x148)))))) rfl hb147) ⟨rfl, rfl, trivial⟩ trivial rfl rfl ?_
                    refine AOR.nil ?_
                    refine AWR.nil ⟨rfl, Ent.of ⟨rfl, rfl, rfl, rfl, rfl, (congrArg (fun l1 => (some (AV.s (.c (.loc 24 0 l1))) : Option AV)) (show s96.2.1.length = (s96.2.1.set r139.toNat s96.1).length by simp only [List.length_set])), rfl, (congrArg (fun l1 => (some (AV.s (.c (.loc 26 0 l1))) : Option AV)) (show s96.2.2.2.length = (s96.2.2.2.set r139.toNat true).length by simp only [List.length_set])), rfl, rfl, rfl, rfl, rfl, trivial⟩ ⟨rfl, rfl, rfl, rfl, rfl, rfl, trivial⟩⟩
                  · refine AOR.skip ⟨_, rfl, .inl ⟨_, rfl, (by rw [hb147]; rfl)⟩⟩ rfl ?_
                    refine AOR.skip ⟨_, rfl, .inl ⟨_, rfl, (by rw [hb147]; rfl)⟩⟩ rfl ?_
                    refine AOR.skip ⟨_, rfl, .inl ⟨_, rfl, (by rw [hb147]; rfl)⟩⟩ rfl ?_
                    refine AOR.skip ⟨_, rfl, .inl ⟨_, rfl, (by rw [hb147]; rfl)⟩⟩ rfl ?_
                    refine AOR.skip ⟨_, rfl, .inl ⟨_, rfl, (by rw [hb147]; rfl)⟩⟩ rfl ?_
                    refine AOR.skip ⟨_, rfl, .inl ⟨_, rfl, (by rw [hb147]; rfl)⟩⟩ rfl ?_
                    refine AOR.pure (LT.pickF (v := (.s (.c (bC false)))) rfl hb147) ⟨rfl, ⟨rfl, rfl⟩, trivial⟩ trivial rfl rfl ?_
                    refine AOR.nil ?_
                    refine AWR.nil ⟨rfl, Ent.of ⟨rfl, rfl, rfl, rfl, rfl, (congrArg (fun l1 => (some (AV.s (.c (.loc 24 0 l1))) : Option AV)) (show s96.2.1.length = (s96.2.1.set r139.toNat s96.1).length by simp only [List.length_set])), rfl, (congrArg (fun l1 => (some (AV.s (.c (.loc 26 0 l1))) : Option AV)) (show s96.2.2.2.length = (s96.2.2.2.set r139.toNat true).length by simp only [List.length_set])), rfl, rfl, rfl, rfl, rfl, trivial⟩ ⟨rfl, rfl, rfl, rfl, rfl, rfl, trivial⟩⟩
                · refine AWR.cond rfl (fun hc149 => ?_) (fun hc149 => ?_)
                  · refine AWR.seq ?_
                    refine AWR.region ?_
                    refine AOR.pure (LT.bloadN (out := [(iC g.Points), (.pv (.xs false (g.Bars.map encTBar)))]) rfl ag30 (infS inf30) sz30 (by exact rfl) (by exact rfl)) ⟨rfl, trivial⟩ ⟨rfl, trivial⟩ rfl rfl ?_
                    refine AOR.pure (LT.bloadN (out := [(.pv (.xs false (p.Free.map encInt))), (.pv (.xs false (p.Tails.map encInt))), (.pv (.xs false (p.Placed.map encInt)))]) rfl ag68 (infS inf68) sz68 (by exact rfl) (by exact rfl)) ⟨rfl, trivial⟩ ⟨rfl, trivial⟩ rfl rfl ?_
                    refine AOR.pure (LT.move (v := (.s (.c (.loc 24 0 (s96.2.1.set r139.toNat s96.1).length)))) rfl) ⟨rfl, trivial⟩ trivial rfl rfl ?_
                    refine AOR.pure (LT.move (v := (.s (.c (iC a)))) rfl) ⟨rfl, trivial⟩ trivial rfl rfl ?_
                    refine AOR.pure (LT.move (v := (.s (.c (iC r139)))) rfl) ⟨rfl, trivial⟩ trivial rfl rfl ?_
                    refine AOR.bind fun r150 hr150 => ?_
                    refine AOR.step (@LT.callF Try.prog _ _ 91 _ _ [(.agg [(iC g.Points), (.pv (.xs false (g.Bars.map encTBar)))]), (.agg [(.pv (.xs false (p.Free.map encInt))), (.pv (.xs false (p.Tails.map encInt))), (.pv (.xs false (p.Placed.map encInt)))]), (.c (.loc 24 0 (s96.2.1.set r139.toNat s96.1).length)), (.c (iC a)), (.c (iC r139))] _ _ [(24, (.prow 3 ((s96.2.1.set r139.toNat s96.1).map encInt)))] _ _ _ _ ((show Fw.Fn Try.prog 91 [(.agg [(iC g.Points), (.pv (.xs false (g.Bars.map encTBar)))]), (.agg [(.pv (.xs false (p.Free.map encInt))), (.pv (.xs false (p.Tails.map encInt))), (.pv (.xs false (p.Placed.map encInt)))]), (.c (.pv (.xs false ((s96.2.1.set r139.toNat s96.1).map encInt)))), (.c (iC a)), (.c (iC r139))] [] (.s (.agg [(.loc 29 0 r150.Free.length), (.loc 30 0 r150.Tails.length), (.loc 31 0 r150.Placed.length)])) [(29, (.prow 3 (r150.Free.map encInt))), (30, (.prow 3 (r150.Tails.map encInt))), (31, (.prow 3 (r150.Placed.map encInt)))] [] [29, 30, 31] from Fw.Fn.ren [(0, 29), (1, 30), (2, 31)] (w_spec_l4Shift g p (s96.2.1.set r139.toNat s96.1) a r139 r150 hr150) rfl)) rfl cb91 (.cons (.agg (.cons (.same rfl) (.cons (.same rfl) .nil))) (.cons (.agg (.cons (.same rfl) (.cons (.same rfl) (.cons (.same rfl) .nil)))) (.cons (.c (.tloc rfl rfl)) (.cons (.c (.same rfl)) (.cons (.c (.same rfl)) .nil))))) rfl rfl trivial) ⟨rfl, rfl, rfl, rfl, rfl, rfl, trivial⟩ ⟨rfl, trivial⟩ rfl rfl ?_
                    refine AOR.step (LT.bstore (v := (.agg [(.loc 29 0 r150.Free.length), (.loc 30 0 r150.Tails.length), (.loc 31 0 r150.Placed.length)])) (out := [(.loc 29 0 r150.Free.length), (.loc 30 0 r150.Tails.length), (.loc 31 0 r150.Placed.length)]) rfl rfl (infS inf68) sz68 (by exact rfl) (by exact Nat.le_of_ble_eq_true rfl) (by exact rfl)) ⟨rfl, rfl, trivial⟩ ⟨rfl, trivial⟩ rfl rfl ?_
                    refine AOR.pure (LT.assign (v := (.s (.c (bC true)))) rfl) ⟨⟨rfl, rfl⟩, trivial⟩ trivial rfl rfl ?_
                    refine AOR.nil ?_
                    refine AWR.ent (Ent.of (σ' := [(8, (.s (.c (.pl 23 0)))), (9, (.s (.c (bC true))))]) (m' := [(23, (.row 68 [[(.loc 29 0 r150.Free.length), (.loc 30 0 r150.Tails.length), (.loc 31 0 r150.Placed.length)]])), (29, (.prow 3 (r150.Free.map encInt))), (30, (.prow 3 (r150.Tails.map encInt))), (31, (.prow 3 (r150.Placed.map encInt)))]) ⟨rfl, rfl, trivial⟩ ⟨rfl, rfl, rfl, rfl, trivial⟩) ?_
                    refine AWR.ent (Ent.mv 29 0 rfl rfl) ?_
                    refine AWR.ent (Ent.mv 30 1 rfl rfl) ?_
                    refine AWR.ent (Ent.mv 31 2 rfl rfl) ?_
                    refine AWR.ent (Ent.of (σ' := [(8, (.s (.c (.pl 23 0)))), (9, (.s (.c (bC true))))]) (m' := [(0, (.prow 3 (r150.Free.map encInt))), (1, (.prow 3 (r150.Tails.map encInt))), (2, (.prow 3 (r150.Placed.map encInt))), (23, (.row 68 [[(.loc 0 0 r150.Free.length), (.loc 1 0 r150.Tails.length), (.loc 2 0 r150.Placed.length)]]))]) ⟨rfl, rfl, trivial⟩ ⟨rfl, rfl, rfl, rfl, trivial⟩) ?_
                    refine AWR.ret ⟨rfl, FPost.mk (.inr rfl) ⟨⟨_, _, _, rfl, rfl, rfl, ag68, sz68, _, (infS inf68)⟩, rfl, trivial⟩ ⟨rfl, rfl, rfl, trivial⟩ rfl ⟨⟨trivial, trivial, trivial, trivial⟩, PermP.sc, trivial⟩ ⟨PermO.prow' perm_encInt, PermO.prow' perm_encInt, PermO.prow' perm_encInt, trivial⟩⟩
                  · refine AWR.skip ?_
                    refine AWR.region ?_
                    refine AOR.pure (LT.move (v := (.s (.c (.loc 25 0 s96.2.2.1.length)))) rfl) ⟨rfl, trivial⟩ trivial rfl rfl ?_
                    refine AOR.pure (LT.move (v := (.s (.c (iC r139)))) rfl) ⟨rfl, trivial⟩ trivial rfl rfl ?_
                    refine AOR.step (LT.tbuildSlice (n := 32) (enc := encInt) [(0, .tmp 102, (.c (iC r139)))] ([r139] : List Int) rfl rfl und26 ti3 rfl rfl rfl rfl (by decide) (fun _ => rfl) rfl) ⟨rfl, trivial⟩ trivial rfl rfl ?_
                    refine AOR.bind fun u151 hu151 => ?_
                    refine AOR.step (LT.tappP (enc := encInt) rfl rfl rfl und26 ti3 rfl (by decide) (by decide) (fun _ => rfl) (lim_le hu151)) ⟨rfl, rfl, trivial⟩ ⟨rfl, rfl, trivial⟩ rfl rfl ?_
                    refine AOR.pure (LT.assign (v := (.s (.c (.loc 25 0 (s96.2.2.1 ++ ([r139] : List Int)).length)))) rfl) ⟨rfl, trivial⟩ trivial rfl rfl ?_
                    refine AOR.nil ?_
                    refine AWR.blk ?_
                    refine AWR.region ?_
                    refine AOR.pure (LT.move (v := (.s (.c (iC s96.1)))) rfl) ⟨rfl, trivial⟩ trivial rfl rfl ?_
                    refine AOR.pure (LT.add rfl) ⟨rfl, ⟨rfl, rfl⟩, trivial⟩ trivial rfl rfl ?_
                    refine AOR.pure (LT.assign (v := (.s (.c (iC (w64 (s96.1 + 1)))))) rfl) ⟨rfl, trivial⟩ trivial rfl rfl ?_
                    refine AOR.nil ?_
                    refine AWR.nil ⟨rfl, Ent.of ⟨rfl, rfl, rfl, rfl, rfl, rfl, rfl, rfl, rfl, rfl, rfl, trivial⟩ ⟨rfl, rfl, rfl, rfl, rfl, rfl, trivial⟩⟩
          · refine AWR.exit_end rfl ⟨rfl, Ent.of ⟨rfl, rfl, rfl, rfl, rfl, rfl, rfl, rfl, rfl, trivial⟩ ⟨rfl, rfl, rfl, rfl, rfl, rfl, trivial⟩⟩
        · refine AWR.blk ?_
          refine AWR.region ?_
          refine AOR.pure (LT.move (v := (.s (.c (iC b133.1)))) rfl) ⟨rfl, trivial⟩ trivial rfl rfl ?_
          refine AOR.pure (LT.add rfl) ⟨rfl, ⟨rfl, rfl⟩, trivial⟩ trivial rfl rfl ?_
          refine AOR.pure (LT.assign (v := (.s (.c (iC (w64 (b133.1 + 1)))))) rfl) ⟨rfl, trivial⟩ trivial rfl rfl ?_
          refine AOR.nil ?_
          refine AWR.nil ⟨rfl, Ent.of ⟨rfl, rfl, rfl, rfl, rfl, rfl, rfl, rfl, rfl, trivial⟩ ⟨rfl, rfl, rfl, rfl, rfl, rfl, trivial⟩⟩
      · refine AWR.exit_end rfl ⟨rfl, Ent.of ⟨rfl, rfl, trivial⟩ ⟨rfl, rfl, trivial⟩⟩
    · refine AWR.seq ?_
      refine AWR.region ?_
      refine AOR.pure (LT.bloadN (out := [(.pv (.xs false (p.Free.map encInt))), (.pv (.xs false (p.Tails.map encInt))), (.pv (.xs false (p.Placed.map encInt)))]) rfl ag68 (infS inf68) sz68 (by exact rfl) (by exact rfl)) ⟨rfl, trivial⟩ ⟨rfl, trivial⟩ rfl rfl ?_
      refine AOR.step (LT.bstore (v := (.agg [(.pv (.xs false (p.Free.map encInt))), (.pv (.xs false (p.Tails.map encInt))), (.pv (.xs false (p.Placed.map encInt)))])) (out := [(.pv (.xs false (p.Free.map encInt))), (.pv (.xs false (p.Tails.map encInt))), (.pv (.xs false (p.Placed.map encInt)))]) rfl rfl (infS inf68) sz68 (by exact rfl) (by exact Nat.le_of_ble_eq_true rfl) (by exact rfl)) ⟨rfl, rfl, trivial⟩ ⟨rfl, trivial⟩ rfl rfl ?_
      refine AOR.pure (LT.assign (v := (.s (.c (bC false)))) rfl) ⟨⟨rfl, rfl⟩, trivial⟩ trivial rfl rfl ?_
      refine AOR.nil ?_
      refine AWR.ent (Ent.junkB 23 0 rfl) ?_
      refine AWR.ent (Ent.junkB 23 1 rfl) ?_
      refine AWR.ent (Ent.junkB 23 2 rfl) ?_
      refine AWR.ent (Ent.nilNew 0 3 rfl) ?_
      refine AWR.ent (Ent.nilNew 1 3 rfl) ?_
      refine AWR.ent (Ent.nilNew 2 3 rfl) ?_
      refine AWR.ent (Ent.of (σ' := [(8, (.s (.c (.pl 23 0)))), (9, (.s (.c (bC false))))]) (m' := [(0, (.prow 3 (([] : List Int).map encInt))), (1, (.prow 3 (([] : List Int).map encInt))), (2, (.prow 3 (([] : List Int).map encInt))), (23, (.row 68 [[.junk, .junk, .junk]]))]) ⟨rfl, rfl, trivial⟩ ⟨rfl, rfl, rfl, rfl, trivial⟩) ?_
      refine AWR.ret (FPost.mk (.inr rfl) ⟨⟨_, _, _, rfl, rfl, rfl, ag68, sz68, _, (infS inf68)⟩, rfl, trivial⟩ ⟨rfl, rfl, rfl, trivial⟩ rfl ⟨⟨trivial, trivial, trivial, trivial⟩, PermP.sc, trivial⟩ ⟨PermO.prow' perm_encInt, PermO.prow' perm_encInt, PermO.prow' perm_encInt, trivial⟩)
set_option maxRecDepth 100000 in
set_option maxHeartbeats 8000000 in
theorem w_spec_l4Gather (g : TGraph) (p : TPebbles) (a : Int) (b : Int) (want : Int) : ∀ t, m_spec_l4Gather g p a b want = some t → Fw.Fn Try.prog 83 [(.agg [(iC g.Points), (.pv (.xs false (g.Bars.map encTBar)))]), (.agg [(.pv (.xs false (p.Free.map encInt))), (.pv (.xs false (p.Tails.map encInt))), (.pv (.xs false (p.Placed.map encInt)))]), (.c (iC a)), (.c (iC b)), (.c (iC want))] [] (resA [(.agg [(.loc 0 0 t.1.Free.length), (.loc 1 0 t.1.Tails.length), (.loc 2 0 t.1.Placed.length)]), (.c (bC t.2))]) [(0, (.prow 3 (t.1.Free.map encInt))), (1, (.prow 3 (t.1.Tails.map encInt))), (2, (.prow 3 (t.1.Placed.map encInt)))] [] [0, 1, 2] := by
  refine Fw.Fn.of (P := Try.prog) (X := [0, 1, 2]) (pn := []) (rs := (fun (t : (TPebbles × Bool)) => [(.agg [(.loc 0 0 t.1.Free.length), (.loc 1 0 t.1.Tails.length), (.loc 2 0 t.1.Placed.length)]), (.c (bC t.2))])) (dfs := (fun (t : (TPebbles × Bool)) => [(0, (.prow 3 (t.1.Free.map encInt))), (1, (.prow 3 (t.1.Tails.map encInt))), (2, (.prow 3 (t.1.Placed.map encInt)))])) Try.func83 rfl Try.ntmps83 (Nat.le_of_ble_eq_true rfl) rfl ?_
  intro w0 U0 R0 g0
  unfold m_spec_l4Gather
  refine AWR.seq ?_
  refine AWR.region ?_
  refine AOR.step (LT.box (n := 21) (v := (.agg [(iC g.Points), (.pv (.xs false (g.Bars.map encTBar)))])) rfl sz30 (by exact rfl)) ⟨rfl, trivial⟩ trivial rfl rfl ?_
  refine AOR.step (LT.box (n := 22) (v := (.agg [(.pv (.xs false (p.Free.map encInt))), (.pv (.xs false (p.Tails.map encInt))), (.pv (.xs false (p.Placed.map encInt)))])) rfl sz68 (by exact rfl)) ⟨rfl, trivial⟩ trivial rfl rfl ?_
  refine AOR.step (LT.alloc (n := 23) (cells := [(sC nilV), (sC nilV), (sC nilV)]) rfl ti68 rfl rfl rfl) trivial trivial rfl rfl ?_
  refine AOR.pure (LT.assign (v := (.s (.c (bC false)))) rfl) ⟨⟨rfl, rfl⟩, trivial⟩ trivial rfl rfl ?_
  refine AOR.nil ?_
  refine AWR.seq ?_
  refine AWR.region ?_
  refine AOR.pure (LT.bloadN (out := [(.pv (.xs false (p.Free.map encInt))), (.pv (.xs false (p.Tails.map encInt))), (.pv (.xs false (p.Placed.map encInt)))]) rfl ag68 (infS inf68) sz68 (by exact rfl) (by exact rfl)) ⟨rfl, trivial⟩ ⟨rfl, trivial⟩ rfl rfl ?_
  refine AOR.bind fun r1 hr1 => ?_
  refine AOR.step (@LT.callF Try.prog _ _ 82 _ _ [(.agg [(.pv (.xs false (p.Free.map encInt))), (.pv (.xs false (p.Tails.map encInt))), (.pv (.xs false (p.Placed.map encInt)))])] _ _ [] _ _ _ _ ((show Fw.Fn Try.prog 82 [(.agg [(.pv (.xs false (p.Free.map encInt))), (.pv (.xs false (p.Tails.map encInt))), (.pv (.xs false (p.Placed.map encInt)))])] [] (.s (.agg [(.loc 25 0 r1.Free.length), (.loc 26 0 r1.Tails.length), (.loc 27 0 r1.Placed.length)])) [(25, (.prow 3 (r1.Free.map encInt))), (26, (.prow 3 (r1.Tails.map encInt))), (27, (.prow 3 (r1.Placed.map encInt)))] [] [25, 26, 27] from Fw.Fn.ren [(0, 25), (1, 26), (2, 27)] (w_spec_l4Copy p r1 hr1) rfl)) rfl cb82 (.cons (.agg (.cons (.same rfl) (.cons (.same rfl) (.cons (.same rfl) .nil)))) .nil) rfl rfl trivial) ⟨rfl, rfl, trivial⟩ trivial rfl rfl ?_
  refine AOR.step (LT.alloc (n := 28) (cells := [(sC nilV), (sC nilV), (sC nilV)]) rfl ti68 rfl rfl rfl) trivial trivial rfl rfl ?_
  refine AOR.step (LT.bstore (v := (.agg [(.loc 25 0 r1.Free.length), (.loc 26 0 r1.Tails.length), (.loc 27 0 r1.Placed.length)])) (out := [(.loc 25 0 r1.Free.length), (.loc 26 0 r1.Tails.length), (.loc 27 0 r1.Placed.length)]) rfl rfl (infS inf68) sz68 (by exact rfl) (by exact Nat.le_of_ble_eq_true rfl) (by exact rfl)) ⟨rfl, rfl, trivial⟩ ⟨rfl, trivial⟩ rfl rfl ?_
  refine AOR.nil ?_
  refine AWR.seq ?_
  refine AWR.block ?_
  refine AWR.loopR (id := 0) (m_spec_l4Gather_L1 g a b want) (fun s2 => ([(2, (.s (.c (iC a)))), (3, (.s (.c (iC b)))), (4, (.s (.c (iC want)))), (5, (.s (.c (.pl 21 0)))), (10, (.s (.c (.pl 23 0)))), (12, (.s (.c (.pl 28 0))))], [(21, (.row 30 [[(iC g.Points), (.pv (.xs false (g.Bars.map encTBar)))]])), (23, (.row 68 [[(sC nilV), (sC nilV), (sC nilV)]])), (25, (.prow 3 (s2.1.map encInt))), (26, (.prow 3 (s2.2.1.map encInt))), (27, (.prow 3 (s2.2.2.map encInt))), (28, (.row 68 [[(.loc 25 0 s2.1.length), (.loc 26 0 s2.2.1.length), (.loc 27 0 s2.2.2.length)]]))])) (fun b27 => ([(10, (.s (.c (.pl 23 0)))), (12, (.s (.c (.pl 28 0))))], [(23, (.row 68 [[(sC nilV), (sC nilV), (sC nilV)]])), (25, (.prow 3 (b27.1.map encInt))), (26, (.prow 3 (b27.2.1.map encInt))), (27, (.prow 3 (b27.2.2.map encInt))), (28, (.row 68 [[(.loc 25 0 b27.1.length), (.loc 26 0 b27.2.1.length), (.loc 27 0 b27.2.2.length)]]))])) (FPost Try.prog Try.f83.results.toList [] [0, 1, 2] (fun (t : (TPebbles × Bool)) => [(.agg [(.loc 0 0 t.1.Free.length), (.loc 1 0 t.1.Tails.length), (.loc 2 0 t.1.Placed.length)]), (.c (bC t.2))]) (fun (t : (TPebbles × Bool)) => [(0, (.prow 3 (t.1.Free.map encInt))), (1, (.prow 3 (t.1.Tails.map encInt))), (2, (.prow 3 (t.1.Placed.map encInt)))])) ?_ (Ent.of ⟨rfl, rfl, rfl, rfl, rfl, rfl, trivial⟩ ⟨rfl, rfl, rfl, rfl, rfl, rfl, trivial⟩) rfl (fun b27 _ => ?_) (by intro r t σ m ht hk; injection ht with ht; subst ht; exact hk)
  · intro s2
    unfold m_spec_l4Gather_L1
    refine AWR.seq ?_
    refine AWR.seq ?_
    refine AWR.draw mixed ?_
    refine AOD.pure (LT.fieldPl rfl fo68_0) ⟨rfl, trivial⟩ trivial rfl rfl ?_
    refine AOD.pure (LT.bload1 (c := (.loc 25 0 s2.1.length)) rfl ag26 (by exact rfl)) ⟨rfl, trivial⟩ ⟨rfl, trivial⟩ rfl rfl ?_
    refine AOD.pure (LT.move (v := (.s (.c (iC a)))) rfl) ⟨rfl, trivial⟩ trivial rfl rfl ?_
    refine AOD.bind fun x28 hx28 => ?_
    refine AOD.pure (LT.tindexLoc rfl rfl el26 hx28) ⟨rfl, rfl, trivial⟩ ⟨rfl, trivial⟩ rfl rfl ?_
    refine AOD.pure (LT.tload1 (k := 0) rfl ag3 hx28 (by exact rfl) (by exact rfl)) ⟨rfl, trivial⟩ ⟨rfl, trivial⟩ rfl rfl ?_
    refine AOD.pure (LT.fieldPl rfl fo68_0) ⟨rfl, trivial⟩ trivial rfl rfl ?_
    refine AOD.pure (LT.bload1 (c := (.loc 25 0 s2.1.length)) rfl ag26 (by exact rfl)) ⟨rfl, trivial⟩ ⟨rfl, trivial⟩ rfl rfl ?_
    refine AOD.pure (LT.move (v := (.s (.c (iC b)))) rfl) ⟨rfl, trivial⟩ trivial rfl rfl ?_
    refine AOD.bind fun x29 hx29 => ?_
    refine AOD.pure (LT.tindexLoc rfl rfl el26 hx29) ⟨rfl, rfl, trivial⟩ ⟨rfl, trivial⟩ rfl rfl ?_
    refine AOD.pure (LT.tload1 (k := 0) rfl ag3 hx29 (by exact rfl) (by exact rfl)) ⟨rfl, trivial⟩ ⟨rfl, trivial⟩ rfl rfl ?_
    refine AOD.pure (LT.add rfl) ⟨rfl, rfl, trivial⟩ trivial rfl rfl ?_
    refine AOD.pure (LT.move (v := (.s (.c (iC want)))) rfl) ⟨rfl, trivial⟩ trivial rfl rfl ?_
    refine AOD.pure (LT.lss rfl) ⟨rfl, rfl, trivial⟩ trivial rfl rfl ?_
    refine AOD.nil (by kernel_rfl) ?_
    refine AWR.cond rfl (fun hc30 => ?_) (fun hc30 => ?_)
    · refine AWR.skip ?_
      refine AWR.block ?_
      refine AWR.seq ?_
      refine AWR.ent (Ent.of (σ' := [(2, (.s (.c (iC a)))), (3, (.s (.c (iC b)))), (4, (.s (.c (iC want)))), (5, (.s (.c (.pl 21 0)))), (10, (.s (.c (.pl 23 0)))), (12, (.s (.c (.pl 28 0))))]) (m' := [(21, (.row 30 [[(iC g.Points), (.pv (.xs false (g.Bars.map encTBar)))]])), (23, (.row 68 [[(sC nilV), (sC nilV), (sC nilV)]])), (25, (.prow 3 (s2.1.map encInt))), (26, (.prow 3 (s2.2.1.map encInt))), (27, (.prow 3 (s2.2.2.map encInt))), (28, (.row 68 [[(.loc 25 0 s2.1.length), (.loc 26 0 s2.2.1.length), (.loc 27 0 s2.2.2.length)]]))]) ⟨rfl, rfl, rfl, rfl, rfl, rfl, trivial⟩ ⟨rfl, rfl, rfl, rfl, rfl, rfl, trivial⟩) ?_
      refine AWR.region ?_
      refine AOR.pure (LT.bloadN (out := [(iC g.Points), (.pv (.xs false (g.Bars.map encTBar)))]) rfl ag30 (infS inf30) sz30 (by exact rfl) (by exact rfl)) ⟨rfl, trivial⟩ ⟨rfl, trivial⟩ rfl rfl ?_
      refine AOR.pure (LT.bloadN (out := [(.loc 25 0 s2.1.length), (.loc 26 0 s2.2.1.length), (.loc 27 0 s2.2.2.length)]) rfl ag68 (infS inf68) sz68 (by exact rfl) (by exact rfl)) ⟨rfl, trivial⟩ ⟨rfl, trivial⟩ rfl rfl ?_
      refine AOR.pure (LT.move (v := (.s (.c (iC a)))) rfl) ⟨rfl, trivial⟩ trivial rfl rfl ?_
      refine AOR.pure (LT.move (v := (.s (.c (iC b)))) rfl) ⟨rfl, trivial⟩ trivial rfl rfl ?_
      refine AOR.bind fun r31 hr31 => ?_
      refine AOR.split (fun hb32 => ?_) (fun hb32 => ?_)
      · refine AOR.step (@LT.callF Try.prog _ _ 87 _ _ [(.agg [(iC g.Points), (.pv (.xs false (g.Bars.map encTBar)))]), (.agg [(.loc 25 0 s2.1.length), (.loc 26 0 s2.2.1.length), (.loc 27 0 s2.2.2.length)]), (.c (iC a)), (.c (iC b))] _ _ [(25, (.prow 3 (s2.1.map encInt))), (26, (.prow 3 (s2.2.1.map encInt))), (27, (.prow 3 (s2.2.2.map encInt)))] _ _ _ _ ((show Fw.Fn Try.prog 87 [(.agg [(iC g.Points), (.pv (.xs false (g.Bars.map encTBar)))]), (.agg [(.pv (.xs false (((TPebbles.mk s2.1 s2.2.1 s2.2.2).Free).map encInt))), (.pv (.xs false (((TPebbles.mk s2.1 s2.2.1 s2.2.2).Tails).map encInt))), (.pv (.xs false (((TPebbles.mk s2.1 s2.2.1 s2.2.2).Placed).map encInt)))]), (.c (iC a)), (.c (iC b))] [] (.tup [(.agg [(.loc 30 0 r31.1.Free.length), (.loc 31 0 r31.1.Tails.length), (.loc 32 0 r31.1.Placed.length)]), (.c (bC true))]) [(30, (.prow 3 (r31.1.Free.map encInt))), (31, (.prow 3 (r31.1.Tails.map encInt))), (32, (.prow 3 (r31.1.Placed.map encInt)))] [] [30, 31, 32] from Fw.Fn.ren [(0, 30), (1, 31), (2, 32)] ((by have q := w_spec_l4Find g (TPebbles.mk s2.1 s2.2.1 s2.2.2) a b r31 hr31; rw [hb32] at q; exact q)) rfl)) rfl cb87 (.cons (.agg (.cons (.same rfl) (.cons (.same rfl) .nil))) (.cons (.agg (.cons (.tloc rfl rfl) (.cons (.tloc rfl rfl) (.cons (.tloc rfl rfl) .nil)))) (.cons (.c (.same rfl)) (.cons (.c (.same rfl)) .nil)))) rfl rfl trivial) ⟨rfl, rfl, rfl, rfl, rfl, trivial⟩ ⟨rfl, rfl, rfl, trivial⟩ rfl rfl ?_
        refine AOR.pure (LT.move (v := (.tup [(.agg [(.loc 30 0 r31.1.Free.length), (.loc 31 0 r31.1.Tails.length), (.loc 32 0 r31.1.Placed.length)]), (.c (bC true))])) rfl) ⟨rfl, trivial⟩ trivial rfl rfl ?_
        refine AOR.pure (LT.extract (v := (.agg [(.loc 30 0 r31.1.Free.length), (.loc 31 0 r31.1.Tails.length), (.loc 32 0 r31.1.Placed.length)])) rfl (by exact rfl)) ⟨rfl, trivial⟩ trivial rfl rfl ?_
        refine AOR.pure (LT.extract (v := (.c (bC true))) rfl (by exact rfl)) ⟨rfl, trivial⟩ trivial rfl rfl ?_
        refine AOR.step (LT.alloc (n := 33) (cells := [(sC nilV), (sC nilV), (sC nilV)]) rfl ti68 rfl rfl rfl) trivial trivial rfl rfl ?_
        refine AOR.step (LT.bstore (v := (.agg [(.loc 30 0 r31.1.Free.length), (.loc 31 0 r31.1.Tails.length), (.loc 32 0 r31.1.Placed.length)])) (out := [(.loc 30 0 r31.1.Free.length), (.loc 31 0 r31.1.Tails.length), (.loc 32 0 r31.1.Placed.length)]) rfl rfl (infS inf68) sz68 (by exact rfl) (by exact Nat.le_of_ble_eq_true rfl) (by exact rfl)) ⟨rfl, rfl, trivial⟩ ⟨rfl, trivial⟩ rfl rfl ?_
        refine AOR.pure (LT.assign (v := (.s (.c (bC true)))) rfl) ⟨rfl, trivial⟩ trivial rfl rfl ?_
        refine AOR.nil ?_
        refine AWR.seq ?_
        refine AWR.seq ?_
        refine AWR.ent (Ent.of (σ' := [(2, (.s (.c (iC a)))), (3, (.s (.c (iC b)))), (4, (.s (.c (iC want)))), (5, (.s (.c (.pl 21 0)))), (10, (.s (.c (.pl 23 0)))), (12, (.s (.c (.pl 28 0)))), (13, (.s (.c (.pl 33 0)))), (14, (.s (.c (bC true))))]) (m' := [(21, (.row 30 [[(iC g.Points), (.pv (.xs false (g.Bars.map encTBar)))]])), (23, (.row 68 [[(sC nilV), (sC nilV), (sC nilV)]])), (25, (.prow 3 (s2.1.map encInt))), (26, (.prow 3 (s2.2.1.map encInt))), (27, (.prow 3 (s2.2.2.map encInt))), (28, (.row 68 [[(.loc 25 0 s2.1.length), (.loc 26 0 s2.2.1.length), (.loc 27 0 s2.2.2.length)]])), (30, (.prow 3 (r31.1.Free.map encInt))), (31, (.prow 3 (r31.1.Tails.map encInt))), (32, (.prow 3 (r31.1.Placed.map encInt))), (33, (.row 68 [[(.loc 30 0 r31.1.Free.length), (.loc 31 0 r31.1.Tails.length), (.loc 32 0 r31.1.Placed.length)]]))]) ⟨rfl, rfl, rfl, rfl, rfl, rfl, rfl, rfl, trivial⟩ ⟨rfl, rfl, rfl, rfl, rfl, rfl, rfl, rfl, rfl, rfl, trivial⟩) ?_
        refine AWR.region ?_
        refine AOR.pure (LT.move (v := (.s (.c (bC true)))) rfl) ⟨rfl, trivial⟩ trivial rfl rfl ?_
        refine AOR.pure (LT.not rfl) ⟨rfl, trivial⟩ trivial rfl rfl ?_
        refine AOR.nil ?_
        refine AWR.cond rfl (fun hc33 => ?_) (fun hc33 => ?_)
        · exact AWR.none
        · refine AWR.skip ?_
          refine AWR.seq ?_
          refine AWR.seq ?_
          refine AWR.region ?_
          refine AOR.pure (LT.move (v := (.s (.c (bC true)))) rfl) ⟨rfl, trivial⟩ trivial rfl rfl ?_
          refine AOR.pure (LT.not rfl) ⟨rfl, trivial⟩ trivial rfl rfl ?_
          refine AOR.nil ?_
          refine AWR.cond rfl (fun hc34 => ?_) (fun hc34 => ?_)
          · exact AWR.none
          · refine AWR.skip ?_
            refine AWR.region ?_
            refine AOR.pure (LT.bloadN (out := [(.loc 30 0 r31.1.Free.length), (.loc 31 0 r31.1.Tails.length), (.loc 32 0 r31.1.Placed.length)]) rfl ag68 (infS inf68) sz68 (by exact rfl) (by exact rfl)) ⟨rfl, trivial⟩ ⟨rfl, trivial⟩ rfl rfl ?_
            refine AOR.step (LT.bstore (v := (.agg [(.loc 30 0 r31.1.Free.length), (.loc 31 0 r31.1.Tails.length), (.loc 32 0 r31.1.Placed.length)])) (out := [(.loc 30 0 r31.1.Free.length), (.loc 31 0 r31.1.Tails.length), (.loc 32 0 r31.1.Placed.length)]) rfl rfl (infS inf68) sz68 (by exact rfl) (by exact Nat.le_of_ble_eq_true rfl) (by exact rfl)) ⟨rfl, rfl, trivial⟩ ⟨rfl, trivial⟩ rfl rfl ?_
            refine AOR.nil ?_
            refine AWR.blk ?_
            refine AWR.ent (Ent.of (σ' := [(2, (.s (.c (iC a)))), (3, (.s (.c (iC b)))), (4, (.s (.c (iC want)))), (5, (.s (.c (.pl 21 0)))), (10, (.s (.c (.pl 23 0)))), (12, (.s (.c (.pl 28 0))))]) (m' := [(21, (.row 30 [[(iC g.Points), (.pv (.xs false (g.Bars.map encTBar)))]])), (23, (.row 68 [[(sC nilV), (sC nilV), (sC nilV)]])), (28, (.row 68 [[(.loc 30 0 r31.1.Free.length), (.loc 31 0 r31.1.Tails.length), (.loc 32 0 r31.1.Placed.length)]])), (30, (.prow 3 (r31.1.Free.map encInt))), (31, (.prow 3 (r31.1.Tails.map encInt))), (32, (.prow 3 (r31.1.Placed.map encInt)))]) ⟨rfl, rfl, rfl, rfl, rfl, rfl, trivial⟩ ⟨rfl, rfl, rfl, rfl, rfl, rfl, trivial⟩) ?_
            refine AWR.ent (Ent.mv 30 25 rfl rfl) ?_
            refine AWR.ent (Ent.mv 31 26 rfl rfl) ?_
            refine AWR.ent (Ent.mv 32 27 rfl rfl) ?_
            refine AWR.nil ⟨rfl, Ent.of ⟨rfl, rfl, rfl, rfl, rfl, rfl, trivial⟩ ⟨rfl, rfl, rfl, rfl, rfl, rfl, trivial⟩⟩
      · refine AOR.step (@LT.callF Try.prog _ _ 87 _ _ [(.agg [(iC g.Points), (.pv (.xs false (g.Bars.map encTBar)))]), (.agg [(.loc 25 0 s2.1.length), (.loc 26 0 s2.2.1.length), (.loc 27 0 s2.2.2.length)]), (.c (iC a)), (.c (iC b))] _ _ [(25, (.prow 3 (s2.1.map encInt))), (26, (.prow 3 (s2.2.1.map encInt))), (27, (.prow 3 (s2.2.2.map encInt)))] _ _ _ _ ((show Fw.Fn Try.prog 87 [(.agg [(iC g.Points), (.pv (.xs false (g.Bars.map encTBar)))]), (.agg [(.pv (.xs false (((TPebbles.mk s2.1 s2.2.1 s2.2.2).Free).map encInt))), (.pv (.xs false (((TPebbles.mk s2.1 s2.2.1 s2.2.2).Tails).map encInt))), (.pv (.xs false (((TPebbles.mk s2.1 s2.2.1 s2.2.2).Placed).map encInt)))]), (.c (iC a)), (.c (iC b))] [] (.tup [(.agg [.junk, .junk, .junk]), (.c (bC false))]) [(30, (.prow 3 (([] : List Int).map encInt))), (31, (.prow 3 (([] : List Int).map encInt))), (32, (.prow 3 (([] : List Int).map encInt)))] [] [30, 31, 32] from Fw.Fn.ren [(0, 30), (1, 31), (2, 32)] ((by have q := w_spec_l4Find g (TPebbles.mk s2.1 s2.2.1 s2.2.2) a b r31 hr31; rw [hb32] at q; exact q)) rfl)) rfl cb87 (.cons (.agg (.cons (.same rfl) (.cons (.same rfl) .nil))) (.cons (.agg (.cons (.tloc rfl rfl) (.cons (.tloc rfl rfl) (.cons (.tloc rfl rfl) .nil)))) (.cons (.c (.same rfl)) (.cons (.c (.same rfl)) .nil)))) rfl rfl trivial) ⟨rfl, rfl, rfl, rfl, rfl, trivial⟩ ⟨rfl, rfl, rfl, trivial⟩ rfl rfl ?_
        refine AOR.pure (LT.move (v := (.tup [(.agg [.junk, .junk, .junk]), (.c (bC false))])) rfl) ⟨rfl, trivial⟩ trivial rfl rfl ?_
        refine AOR.pure (LT.extract (v := (.agg [.junk, .junk, .junk])) rfl (by exact rfl)) ⟨rfl, trivial⟩ trivial rfl rfl ?_
        refine AOR.pure (LT.extract (v := (.c (bC false))) rfl (by exact rfl)) ⟨rfl, trivial⟩ trivial rfl rfl ?_
        refine AOR.step (LT.alloc (n := 33) (cells := [(sC nilV), (sC nilV), (sC nilV)]) rfl ti68 rfl rfl rfl) trivial trivial rfl rfl ?_
        refine AOR.step (LT.bstore (v := (.agg [.junk, .junk, .junk])) (out := [.junk, .junk, .junk]) rfl rfl (infS inf68) sz68 (by exact rfl) (by exact Nat.le_of_ble_eq_true rfl) (by exact rfl)) ⟨rfl, rfl, trivial⟩ ⟨rfl, trivial⟩ rfl rfl ?_
        refine AOR.pure (LT.assign (v := (.s (.c (bC false)))) rfl) ⟨rfl, trivial⟩ trivial rfl rfl ?_
        refine AOR.nil ?_
        refine AWR.seq ?_
        refine AWR.seq ?_
        refine AWR.ent (Ent.of (σ' := [(2, (.s (.c (iC a)))), (3, (.s (.c (iC b)))), (4, (.s (.c (iC want)))), (5, (.s (.c (.pl 21 0)))), (10, (.s (.c (.pl 23 0)))), (12, (.s (.c (.pl 28 0)))), (13, (.s (.c (.pl 33 0)))), (14, (.s (.c (bC false))))]) (m' := [(21, (.row 30 [[(iC g.Points), (.pv (.xs false (g.Bars.map encTBar)))]])), (23, (.row 68 [[(sC nilV), (sC nilV), (sC nilV)]])), (25, (.prow 3 (s2.1.map encInt))), (26, (.prow 3 (s2.2.1.map encInt))), (27, (.prow 3 (s2.2.2.map encInt))), (28, (.row 68 [[(.loc 25 0 s2.1.length), (.loc 26 0 s2.2.1.length), (.loc 27 0 s2.2.2.length)]])), (33, (.row 68 [[.junk, .junk, .junk]]))]) ⟨rfl, rfl, rfl, rfl, rfl, rfl, rfl, rfl, trivial⟩ ⟨rfl, rfl, rfl, rfl, rfl, rfl, rfl, trivial⟩) ?_
        refine AWR.region ?_
        refine AOR.pure (LT.move (v := (.s (.c (bC false)))) rfl) ⟨rfl, trivial⟩ trivial rfl rfl ?_
        refine AOR.pure (LT.not rfl) ⟨rfl, trivial⟩ trivial rfl rfl ?_
        refine AOR.nil ?_
        refine AWR.cond rfl (fun hc35 => ?_) (fun hc35 => ?_)
        · refine AWR.region ?_
          refine AOR.pure (LT.bloadN (out := [(iC g.Points), (.pv (.xs false (g.Bars.map encTBar)))]) rfl ag30 (infS inf30) sz30 (by exact rfl) (by exact rfl)) ⟨rfl, trivial⟩ ⟨rfl, trivial⟩ rfl rfl ?_
          refine AOR.pure (LT.bloadN (out := [(.loc 25 0 s2.1.length), (.loc 26 0 s2.2.1.length), (.loc 27 0 s2.2.2.length)]) rfl ag68 (infS inf68) sz68 (by exact rfl) (by exact rfl)) ⟨rfl, trivial⟩ ⟨rfl, trivial⟩ rfl rfl ?_
          refine AOR.pure (LT.move (v := (.s (.c (iC b)))) rfl) ⟨rfl, trivial⟩ trivial rfl rfl ?_
          refine AOR.pure (LT.move (v := (.s (.c (iC a)))) rfl) ⟨rfl, trivial⟩ trivial rfl rfl ?_
          refine AOR.bind fun r36 hr36 => ?_
          refine AOR.split (fun hb37 => ?_) (fun hb37 => ?_)
          · refine AOR.step (@LT.callF Try.prog _ _ 87 _ _ [(.agg [(iC g.Points), (.pv (.xs false (g.Bars.map encTBar)))]), (.agg [(.loc 25 0 s2.1.length), (.loc 26 0 s2.2.1.length), (.loc 27 0 s2.2.2.length)]), (.c (iC b)), (.c (iC a))] _ _ [(25, (.prow 3 (s2.1.map encInt))), (26, (.prow 3 (s2.2.1.map encInt))), (27, (.prow 3 (s2.2.2.map encInt)))] _ _ _ _ ((show Fw.Fn Try.prog 87 [(.agg [(iC g.Points), (.pv (.xs false (g.Bars.map encTBar)))]), (.agg [(.pv (.xs false (((TPebbles.mk s2.1 s2.2.1 s2.2.2).Free).map encInt))), (.pv (.xs false (((TPebbles.mk s2.1 s2.2.1 s2.2.2).Tails).map encInt))), (.pv (.xs false (((TPebbles.mk s2.1 s2.2.1 s2.2.2).Placed).map encInt)))]), (.c (iC b)), (.c (iC a))] [] (.tup [(.agg [(.loc 35 0 r36.1.Free.length), (.loc 36 0 r36.1.Tails.length), (.loc 37 0 r36.1.Placed.length)]), (.c (bC true))]) [(35, (.prow 3 (r36.1.Free.map encInt))), (36, (.prow 3 (r36.1.Tails.map encInt))), (37, (.prow 3 (r36.1.Placed.map encInt)))] [] [35, 36, 37] from Fw.Fn.ren [(0, 35), (1, 36), (2, 37)] ((by have q := w_spec_l4Find g (TPebbles.mk s2.1 s2.2.1 s2.2.2) b a r36 hr36; rw [hb37] at q; exact q)) rfl)) rfl cb87 (.cons (.agg (.cons (.same rfl) (.cons (.same rfl) .nil))) (.cons (.agg (.cons (.tloc rfl rfl) (.cons (.tloc rfl rfl) (.cons (.tloc rfl rfl) .nil)))) (.cons (.c (.same rfl)) (.cons (.c (.same rfl)) .nil)))) rfl rfl trivial) ⟨rfl, rfl, rfl, rfl, rfl, trivial⟩ ⟨rfl, rfl, rfl, trivial⟩ rfl rfl ?_
            refine AOR.pure (LT.move (v := (.tup [(.agg [(.loc 35 0 r36.1.Free.length), (.loc 36 0 r36.1.Tails.length), (.loc 37 0 r36.1.Placed.length)]), (.c (bC true))])) rfl) ⟨rfl, trivial⟩ trivial rfl rfl ?_
            refine AOR.pure (LT.extract (v := (.agg [(.loc 35 0 r36.1.Free.length), (.loc 36 0 r36.1.Tails.length), (.loc 37 0 r36.1.Placed.length)])) rfl (by exact rfl)) ⟨rfl, trivial⟩ trivial rfl rfl ?_
            refine AOR.pure (LT.extract (v := (.c (bC true))) rfl (by exact rfl)) ⟨rfl, trivial⟩ trivial rfl rfl ?_
            refine AOR.step (LT.bstore (v := (.agg [(.loc 35 0 r36.1.Free.length), (.loc 36 0 r36.1.Tails.length), (.loc 37 0 r36.1.Placed.length)])) (out := [(.loc 35 0 r36.1.Free.length), (.loc 36 0 r36.1.Tails.length), (.loc 37 0 r36.1.Placed.length)]) rfl rfl (infS inf68) sz68 (by exact rfl) (by exact Nat.le_of_ble_eq_true rfl) (by exact rfl)) ⟨rfl, rfl, trivial⟩ ⟨rfl, trivial⟩ rfl rfl ?_
            refine AOR.pure (LT.assign (v := (.s (.c (bC true)))) rfl) ⟨rfl, trivial⟩ trivial rfl rfl ?_
            refine AOR.nil ?_
            refine AWR.seq ?_
            refine AWR.seq ?_
            refine AWR.ent (Ent.of (σ' := [(2, (.s (.c (iC a)))), (3, (.s (.c (iC b)))), (4, (.s (.c (iC want)))), (5, (.s (.c (.pl 21 0)))), (10, (.s (.c (.pl 23 0)))), (12, (.s (.c (.pl 28 0)))), (13, (.s (.c (.pl 33 0)))), (14, (.s (.c (bC true))))]) (m' := [(21, (.row 30 [[(iC g.Points), (.pv (.xs false (g.Bars.map encTBar)))]])), (23, (.row 68 [[(sC nilV), (sC nilV), (sC nilV)]])), (25, (.prow 3 (s2.1.map encInt))), (26, (.prow 3 (s2.2.1.map encInt))), (27, (.prow 3 (s2.2.2.map encInt))), (28, (.row 68 [[(.loc 25 0 s2.1.length), (.loc 26 0 s2.2.1.length), (.loc 27 0 s2.2.2.length)]])), (33, (.row 68 [[(.loc 35 0 r36.1.Free.length), (.loc 36 0 r36.1.Tails.length), (.loc 37 0 r36.1.Placed.length)]])), (35, (.prow 3 (r36.1.Free.map encInt))), (36, (.prow 3 (r36.1.Tails.map encInt))), (37, (.prow 3 (r36.1.Placed.map encInt)))]) ⟨rfl, rfl, rfl, rfl, rfl, rfl, rfl, rfl, trivial⟩ ⟨rfl, rfl, rfl, rfl, rfl, rfl, rfl, rfl, rfl, rfl, trivial⟩) ?_
            refine AWR.region ?_
            refine AOR.pure (LT.move (v := (.s (.c (bC true)))) rfl) ⟨rfl, trivial⟩ trivial rfl rfl ?_
            refine AOR.pure (LT.not rfl) ⟨rfl, trivial⟩ trivial rfl rfl ?_
            refine AOR.nil ?_
            refine AWR.cond rfl (fun hc38 => ?_) (fun hc38 => ?_)
            · exact AWR.none
            · refine AWR.skip ?_
              refine AWR.region ?_
              refine AOR.pure (LT.bloadN (out := [(.loc 35 0 r36.1.Free.length), (.loc 36 0 r36.1.Tails.length), (.loc 37 0 r36.1.Placed.length)]) rfl ag68 (infS inf68) sz68 (by exact rfl) (by exact rfl)) ⟨rfl, trivial⟩ ⟨rfl, trivial⟩ rfl rfl ?_
              refine AOR.step (LT.bstore (v := (.agg [(.loc 35 0 r36.1.Free.length), (.loc 36 0 r36.1.Tails.length), (.loc 37 0 r36.1.Placed.length)])) (out := [(.loc 35 0 r36.1.Free.length), (.loc 36 0 r36.1.Tails.length), (.loc 37 0 r36.1.Placed.length)]) rfl rfl (infS inf68) sz68 (by exact rfl) (by exact Nat.le_of_ble_eq_true rfl) (by exact rfl)) ⟨rfl, rfl, trivial⟩ ⟨rfl, trivial⟩ rfl rfl ?_
              refine AOR.nil ?_
              refine AWR.blk ?_
              refine AWR.ent (Ent.of (σ' := [(2, (.s (.c (iC a)))), (3, (.s (.c (iC b)))), (4, (.s (.c (iC want)))), (5, (.s (.c (.pl 21 0)))), (10, (.s (.c (.pl 23 0)))), (12, (.s (.c (.pl 28 0))))]) (m' := [(21, (.row 30 [[(iC g.Points), (.pv (.xs false (g.Bars.map encTBar)))]])), (23, (.row 68 [[(sC nilV), (sC nilV), (sC nilV)]])), (28, (.row 68 [[(.loc 35 0 r36.1.Free.length), (.loc 36 0 r36.1.Tails.length), (.loc 37 0 r36.1.Placed.length)]])), (35, (.prow 3 (r36.1.Free.map encInt))), (36, (.prow 3 (r36.1.Tails.map encInt))), (37, (.prow 3 (r36.1.Placed.map encInt)))]) ⟨rfl, rfl, rfl, rfl, rfl, rfl, trivial⟩ ⟨rfl, rfl, rfl, rfl, rfl, rfl, trivial⟩) ?_
              refine AWR.ent (Ent.mv 35 25 rfl rfl) ?_
              refine AWR.ent (Ent.mv 36 26 rfl rfl) ?_
              refine AWR.ent (Ent.mv 37 27 rfl rfl) ?_
              refine AWR.nil ⟨rfl, Ent.of ⟨rfl, rfl, rfl, rfl, rfl, rfl, trivial⟩ ⟨rfl, rfl, rfl, rfl, rfl, rfl, trivial⟩⟩
          · refine AOR.step (@LT.callF Try.prog _ _ 87 _ _ [(.agg [(iC g.Points), (.pv (.xs false (g.Bars.map encTBar)))]), (.agg [(.loc 25 0 s2.1.length), (.loc 26 0 s2.2.1.length), (.loc 27 0 s2.2.2.length)]), (.c (iC b)), (.c (iC a))] _ _ [(25, (.prow 3 (s2.1.map encInt))), (26, (.prow 3 (s2.2.1.map encInt))), (27, (.prow 3 (s2.2.2.map encInt)))] _ _ _ _ ((show Fw.Fn Try.prog 87 [(.agg [(iC g.Points), (.pv (.xs false (g.Bars.map encTBar)))]), (.agg [(.pv (.xs false (((TPebbles.mk s2.1 s2.2.1 s2.2.2).Free).map encInt))), (.pv (.xs false (((TPebbles.mk s2.1 s2.2.1 s2.2.2).Tails).map encInt))), (.pv (.xs false (((TPebbles.mk s2.1 s2.2.1 s2.2.2).Placed).map encInt)))]), (.c (iC b)), (.c (iC a))] [] (.tup [(.agg [.junk, .junk, .junk]), (.c (bC false))]) [(35, (.prow 3 (([] : List Int).map encInt))), (36, (.prow 3 (([] : List Int).map encInt))), (37, (.prow 3 (([] : List Int).map encInt)))] [] [35, 36, 37] from Fw.Fn.ren [(0, 35), (1, 36), (2, 37)] ((by have q := w_spec_l4Find g (TPebbles.mk s2.1 s2.2.1 s2.2.2) b a r36 hr36; rw [hb37] at q; exact q)) rfl)) rfl cb87 (.cons (.agg (.cons (.same rfl) (.cons (.same rfl) .nil))) (.cons (.agg (.cons (.tloc rfl rfl) (.cons (.tloc rfl rfl) (.cons (.tloc rfl rfl) .nil)))) (.cons (.c (.same rfl)) (.cons (.c (.same rfl)) .nil)))) rfl rfl trivial) ⟨rfl, rfl, rfl, rfl, rfl, trivial⟩ ⟨rfl, rfl, rfl, trivial⟩ rfl rfl ?_
            refine AOR.pure (LT.move (v := (.tup [(.agg [.junk, .junk, .junk]), (.c (bC false))])) rfl) ⟨rfl, trivial⟩ trivial rfl rfl ?_
            refine AOR.pure (LT.extract (v := (.agg [.junk, .junk, .junk])) rfl (by exact rfl)) ⟨rfl, trivial⟩ trivial rfl rfl ?_
            refine AOR.pure (LT.extract (v := (.c (bC false))) rfl (by exact rfl)) ⟨rfl, trivial⟩ trivial rfl rfl ?_
            refine AOR.step (LT.bstore (v := (.agg [.junk, .junk, .junk])) (out := [.junk, .junk, .junk]) rfl rfl (infS inf68) sz68 (by exact rfl) (by exact Nat.le_of_ble_eq_true rfl) (by exact rfl)) ⟨rfl, rfl, trivial⟩ ⟨rfl, trivial⟩ rfl rfl ?_
            refine AOR.pure (LT.assign (v := (.s (.c (bC false)))) rfl) ⟨rfl, trivial⟩ trivial rfl rfl ?_
            refine AOR.nil ?_
            refine AWR.seq ?_
            refine AWR.seq ?_
            refine AWR.ent (Ent.of (σ' := [(2, (.s (.c (iC a)))), (3, (.s (.c (iC b)))), (4, (.s (.c (iC want)))), (5, (.s (.c (.pl 21 0)))), (10, (.s (.c (.pl 23 0)))), (12, (.s (.c (.pl 28 0)))), (13, (.s (.c (.pl 33 0)))), (14, (.s (.c (bC false))))]) (m' := [(21, (.row 30 [[(iC g.Points), (.pv (.xs false (g.Bars.map encTBar)))]])), (23, (.row 68 [[(sC nilV), (sC nilV), (sC nilV)]])), (25, (.prow 3 (s2.1.map encInt))), (26, (.prow 3 (s2.2.1.map encInt))), (27, (.prow 3 (s2.2.2.map encInt))), (28, (.row 68 [[(.loc 25 0 s2.1.length), (.loc 26 0 s2.2.1.length), (.loc 27 0 s2.2.2.length)]])), (33, (.row 68 [[.junk, .junk, .junk]]))]) ⟨rfl, rfl, rfl, rfl, rfl, rfl, rfl, rfl, trivial⟩ ⟨rfl, rfl, rfl, rfl, rfl, rfl, rfl, trivial⟩) ?_
            refine AWR.region ?_
            refine AOR.pure (LT.move (v := (.s (.c (bC false)))) rfl) ⟨rfl, trivial⟩ trivial rfl rfl ?_
            refine AOR.pure (LT.not rfl) ⟨rfl, trivial⟩ trivial rfl rfl ?_
            refine AOR.nil ?_
            refine AWR.cond rfl (fun hc39 => ?_) (fun hc39 => ?_)
            · refine AWR.seq ?_
              refine AWR.region ?_
              refine AOR.pure (LT.bloadN (out := [(.loc 25 0 s2.1.length), (.loc 26 0 s2.2.1.length), (.loc 27 0 s2.2.2.length)]) rfl ag68 (infS inf68) sz68 (by exact rfl) (by exact rfl)) ⟨rfl, trivial⟩ ⟨rfl, trivial⟩ rfl rfl ?_
              refine AOR.step (LT.bstore (v := (.agg [(.loc 25 0 s2.1.length), (.loc 26 0 s2.2.1.length), (.loc 27 0 s2.2.2.length)])) (out := [(.loc 25 0 s2.1.length), (.loc 26 0 s2.2.1.length), (.loc 27 0 s2.2.2.length)]) rfl rfl (infS inf68) sz68 (by exact rfl) (by exact Nat.le_of_ble_eq_true rfl) (by exact rfl)) ⟨rfl, rfl, trivial⟩ ⟨rfl, trivial⟩ rfl rfl ?_
              refine AOR.pure (LT.assign (v := (.s (.c (bC false)))) rfl) ⟨⟨rfl, rfl⟩, trivial⟩ trivial rfl rfl ?_
              refine AOR.nil ?_
              refine AWR.ent (Ent.of (σ' := [(10, (.s (.c (.pl 23 0)))), (11, (.s (.c (bC false))))]) (m' := [(23, (.row 68 [[(.loc 25 0 s2.1.length), (.loc 26 0 s2.2.1.length), (.loc 27 0 s2.2.2.length)]])), (25, (.prow 3 (s2.1.map encInt))), (26, (.prow 3 (s2.2.1.map encInt))), (27, (.prow 3 (s2.2.2.map encInt)))]) ⟨rfl, rfl, trivial⟩ ⟨rfl, rfl, rfl, rfl, trivial⟩) ?_
              refine AWR.ent (Ent.mv 25 0 rfl rfl) ?_
              refine AWR.ent (Ent.mv 26 1 rfl rfl) ?_
              refine AWR.ent (Ent.mv 27 2 rfl rfl) ?_
              refine AWR.ent (Ent.of (σ' := [(10, (.s (.c (.pl 23 0)))), (11, (.s (.c (bC false))))]) (m' := [(0, (.prow 3 (s2.1.map encInt))), (1, (.prow 3 (s2.2.1.map encInt))), (2, (.prow 3 (s2.2.2.map encInt))), (23, (.row 68 [[(.loc 0 0 s2.1.length), (.loc 1 0 s2.2.1.length), (.loc 2 0 s2.2.2.length)]]))]) ⟨rfl, rfl, trivial⟩ ⟨rfl, rfl, rfl, rfl, trivial⟩) ?_
              refine AWR.ret ⟨rfl, FPost.mk (.inr rfl) ⟨⟨_, _, _, rfl, rfl, rfl, ag68, sz68, _, (infS inf68)⟩, rfl, trivial⟩ ⟨rfl, rfl, rfl, trivial⟩ rfl ⟨⟨trivial, trivial, trivial, trivial⟩, PermP.sc, trivial⟩ ⟨PermO.prow' perm_encInt, PermO.prow' perm_encInt, PermO.prow' perm_encInt, trivial⟩⟩
            · exact AWR.none
        · exact AWR.none
    · refine AWR.exit_end rfl ⟨rfl, Ent.of ⟨rfl, rfl, trivial⟩ ⟨rfl, rfl, rfl, rfl, rfl, trivial⟩⟩
  · refine AWR.seq ?_
    refine AWR.region ?_
    refine AOR.pure (LT.bloadN (out := [(.loc 25 0 b27.1.length), (.loc 26 0 b27.2.1.length), (.loc 27 0 b27.2.2.length)]) rfl ag68 (infS inf68) sz68 (by exact rfl) (by exact rfl)) ⟨rfl, trivial⟩ ⟨rfl, trivial⟩ rfl rfl ?_
    refine AOR.step (LT.bstore (v := (.agg [(.loc 25 0 b27.1.length), (.loc 26 0 b27.2.1.length), (.loc 27 0 b27.2.2.length)])) (out := [(.loc 25 0 b27.1.length), (.loc 26 0 b27.2.1.length), (.loc 27 0 b27.2.2.length)]) rfl rfl (infS inf68) sz68 (by exact rfl) (by exact Nat.le_of_ble_eq_true rfl) (by exact rfl)) ⟨rfl, rfl, trivial⟩ ⟨rfl, trivial⟩ rfl rfl ?_
    refine AOR.pure (LT.assign (v := (.s (.c (bC true)))) rfl) ⟨⟨rfl, rfl⟩, trivial⟩ trivial rfl rfl ?_
    refine AOR.nil ?_
    refine AWR.ent (Ent.of (σ' := [(10, (.s (.c (.pl 23 0)))), (11, (.s (.c (bC true))))]) (m' := [(23, (.row 68 [[(.loc 25 0 b27.1.length), (.loc 26 0 b27.2.1.length), (.loc 27 0 b27.2.2.length)]])), (25, (.prow 3 (b27.1.map encInt))), (26, (.prow 3 (b27.2.1.map encInt))), (27, (.prow 3 (b27.2.2.map encInt)))]) ⟨rfl, rfl, trivial⟩ ⟨rfl, rfl, rfl, rfl, trivial⟩) ?_
    refine AWR.ent (Ent.mv 25 0 rfl rfl) ?_
    refine AWR.ent (Ent.mv 26 1 rfl rfl) ?_
    refine AWR.ent (Ent.mv 27 2 rfl rfl) ?_
    refine AWR.ent (Ent.of (σ' := [(10, (.s (.c (.pl 23 0)))), (11, (.s (.c (bC true))))]) (m' := [(0, (.prow 3 (b27.1.map encInt))), (1, (.prow 3 (b27.2.1.map encInt))), (2, (.prow 3 (b27.2.2.map encInt))), (23, (.row 68 [[(.loc 0 0 b27.1.length), (.loc 1 0 b27.2.1.length), (.loc 2 0 b27.2.2.length)]]))]) ⟨rfl, rfl, trivial⟩ ⟨rfl, rfl, rfl, rfl, trivial⟩) ?_
    refine AWR.ret (FPost.mk (.inr rfl) ⟨⟨_, _, _, rfl, rfl, rfl, ag68, sz68, _, (infS inf68)⟩, rfl, trivial⟩ ⟨rfl, rfl, rfl, trivial⟩ rfl ⟨⟨trivial, trivial, trivial, trivial⟩, PermP.sc, trivial⟩ ⟨PermO.prow' perm_encInt, PermO.prow' perm_encInt, PermO.prow' perm_encInt, trivial⟩)
end Go.Proofs.Ytiphmhofhgbhlaa
