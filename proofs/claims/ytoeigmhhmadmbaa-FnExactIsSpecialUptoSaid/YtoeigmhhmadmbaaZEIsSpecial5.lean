/- Parts of a proof that a law of the program holds: what the program computes, and why that is right. -/
import Derived.Test.YtoeigmhhmadmbaaZEIsSpecial4
section
set_option linter.unusedVariables false
set_option linter.unusedSimpArgs false
set_option linter.unnecessarySimpa false
open Go Go.Fw
namespace Go.Proofs.Ytoeigmhhmadmbaa
set_option maxRecDepth 100000 in
set_option maxHeartbeats 8000000 in
theorem w_spec_l4Find (g : TGraph) (p : TPebbles) (a : Int) (b : Int) : ∀ t, m_spec_l4Find g p a b = some t → Fw.Fn Try.prog 211 [(.agg [(iC g.Points), (.pv (.xs false (g.Bars.map encTBar)))]), (.agg [(.pv (.xs false (p.Free.map encInt))), (.pv (.xs false (p.Tails.map encInt))), (.pv (.xs false (p.Placed.map encInt)))]), (.c (iC a)), (.c (iC b))] [] (resA [(.agg [(bif t.2 then (.loc 0 0 t.1.Free.length) else .junk), (bif t.2 then (.loc 1 0 t.1.Tails.length) else .junk), (bif t.2 then (.loc 2 0 t.1.Placed.length) else .junk)]), (.c (bC t.2))]) [(0, (.prow 3 ((bif t.2 then t.1.Free else []).map encInt))), (1, (.prow 3 ((bif t.2 then t.1.Tails else []).map encInt))), (2, (.prow 3 ((bif t.2 then t.1.Placed else []).map encInt)))] [] [0, 1, 2] := by
  refine Fw.Fn.of (P := Try.prog) (X := [0, 1, 2]) (pn := []) (rs := (fun (t : (TPebbles × Bool)) => [(.agg [(bif t.2 then (.loc 0 0 t.1.Free.length) else .junk), (bif t.2 then (.loc 1 0 t.1.Tails.length) else .junk), (bif t.2 then (.loc 2 0 t.1.Placed.length) else .junk)]), (.c (bC t.2))])) (dfs := (fun (t : (TPebbles × Bool)) => [(0, (.prow 3 ((bif t.2 then t.1.Free else []).map encInt))), (1, (.prow 3 ((bif t.2 then t.1.Tails else []).map encInt))), (2, (.prow 3 ((bif t.2 then t.1.Placed else []).map encInt)))])) Try.func211 rfl Try.ntmps211 (Nat.le_of_ble_eq_true rfl) rfl ?_
  intro w0 U0 R0 g0
  unfold m_spec_l4Find
  refine AWR.seq ?_
  refine AWR.region ?_
  refine AOR.step (LT.box (n := 21) (v := (.agg [(iC g.Points), (.pv (.xs false (g.Bars.map encTBar)))])) rfl sz26 (by exact rfl)) ⟨rfl, trivial⟩ trivial rfl rfl ?_
  refine AOR.step (LT.box (n := 22) (v := (.agg [(.pv (.xs false (p.Free.map encInt))), (.pv (.xs false (p.Tails.map encInt))), (.pv (.xs false (p.Placed.map encInt)))])) rfl sz140 (by exact rfl)) ⟨rfl, trivial⟩ trivial rfl rfl ?_
  refine AOR.step (LT.alloc (n := 23) (cells := [(sC nilV), (sC nilV), (sC nilV)]) rfl ti140 rfl rfl rfl) trivial trivial rfl rfl ?_
  refine AOR.pure (LT.assign (v := (.s (.c (bC false)))) rfl) ⟨⟨rfl, rfl⟩, trivial⟩ trivial rfl rfl ?_
  refine AOR.nil ?_
  refine AWR.seq ?_
  refine AWR.region ?_
  refine AOR.pure (LT.fieldPl rfl fo26_0) ⟨rfl, trivial⟩ trivial rfl rfl ?_
  refine AOR.pure (LT.bload1 (c := (iC g.Points)) rfl ag3 (by exact rfl)) ⟨rfl, trivial⟩ ⟨rfl, trivial⟩ rfl rfl ?_
  refine AOR.bind fun u1 hu1 => ?_
  refine AOR.step (LT.tmake (n := 24) (enc := encInt) (zc := [(iC 0)]) (0 : Int) rfl und37 ti3 rfl rfl rfl (by decide) (by decide) (lenOk_le hu1) rfl) ⟨rfl, rfl, trivial⟩ trivial rfl rfl ?_
  refine AOR.pure (LT.assign (v := (.s (.c (.loc 24 0 (List.replicate g.Points.toNat (0 : Int)).length)))) rfl) ⟨rfl, trivial⟩ trivial rfl rfl ?_
  refine AOR.nil ?_
  refine AWR.seq ?_
  refine AWR.seq ?_
  refine AWR.ent (Ent.of (σ' := [(2, (.s (.c (iC a)))), (3, (.s (.c (iC b)))), (4, (.s (.c (.pl 21 0)))), (5, (.s (.c (.pl 22 0)))), (8, (.s (.c (.pl 23 0)))), (10, (.s (.c (.loc 24 0 (List.replicate g.Points.toNat (0 : Int)).length))))]) (m' := [(21, (.row 26 [[(iC g.Points), (.pv (.xs false (g.Bars.map encTBar)))]])), (22, (.row 140 [[(.pv (.xs false (p.Free.map encInt))), (.pv (.xs false (p.Tails.map encInt))), (.pv (.xs false (p.Placed.map encInt)))]])), (23, (.row 140 [[(sC nilV), (sC nilV), (sC nilV)]])), (24, (.prow 3 ((List.replicate g.Points.toNat (0 : Int)).map encInt)))]) ⟨rfl, rfl, rfl, rfl, rfl, rfl, trivial⟩ ⟨rfl, rfl, rfl, rfl, trivial⟩) ?_
  refine AWR.region ?_
  refine AOR.pure (LT.assign (v := (.s (.c (iC 0)))) rfl) ⟨⟨rfl, rfl⟩, trivial⟩ trivial rfl rfl ?_
  refine AOR.nil ?_
  refine AWR.block ?_
  refine AWR.loop1 (id := 0) (m_spec_l4Find_L1 g) (fun s2 => ([(2, (.s (.c (iC a)))), (3, (.s (.c (iC b)))), (4, (.s (.c (.pl 21 0)))), (5, (.s (.c (.pl 22 0)))), (8, (.s (.c (.pl 23 0)))), (10, (.s (.c (.loc 24 0 s2.2.length)))), (11, (.s (.c (iC s2.1))))], [(21, (.row 26 [[(iC g.Points), (.pv (.xs false (g.Bars.map encTBar)))]])), (22, (.row 140 [[(.pv (.xs false (p.Free.map encInt))), (.pv (.xs false (p.Tails.map encInt))), (.pv (.xs false (p.Placed.map encInt)))]])), (23, (.row 140 [[(sC nilV), (sC nilV), (sC nilV)]])), (24, (.prow 3 (s2.2.map encInt)))])) (fun b7 => ([(2, (.s (.c (iC a)))), (3, (.s (.c (iC b)))), (4, (.s (.c (.pl 21 0)))), (5, (.s (.c (.pl 22 0)))), (8, (.s (.c (.pl 23 0)))), (10, (.s (.c (.loc 24 0 b7.length))))], [(21, (.row 26 [[(iC g.Points), (.pv (.xs false (g.Bars.map encTBar)))]])), (22, (.row 140 [[(.pv (.xs false (p.Free.map encInt))), (.pv (.xs false (p.Tails.map encInt))), (.pv (.xs false (p.Placed.map encInt)))]])), (23, (.row 140 [[(sC nilV), (sC nilV), (sC nilV)]])), (24, (.prow 3 (b7.map encInt)))])) ?_ (Ent.of ⟨rfl, rfl, rfl, rfl, rfl, rfl, rfl, trivial⟩ ⟨rfl, rfl, rfl, rfl, trivial⟩) rfl (fun b7 _ => ?_)
  · intro s2
    unfold m_spec_l4Find_L1
    refine AWR.seq ?_
    refine AWR.seq ?_
    refine AWR.region ?_
    refine AOR.pure (LT.move (v := (.s (.c (iC s2.1)))) rfl) ⟨rfl, trivial⟩ trivial rfl rfl ?_
    refine AOR.pure (LT.fieldPl rfl fo26_0) ⟨rfl, trivial⟩ trivial rfl rfl ?_
    refine AOR.pure (LT.bload1 (c := (iC g.Points)) rfl ag3 (by exact rfl)) ⟨rfl, trivial⟩ ⟨rfl, trivial⟩ rfl rfl ?_
    refine AOR.pure (LT.lss rfl) ⟨rfl, rfl, trivial⟩ trivial rfl rfl ?_
    refine AOR.nil ?_
    refine AWR.cond rfl (fun hc8 => ?_) (fun hc8 => ?_)
    · refine AWR.skip ?_
      refine AWR.seq ?_
      refine AWR.block ?_
      refine AWR.region ?_
      refine AOR.pure (LT.move (v := (.s (.c (.loc 24 0 s2.2.length)))) rfl) ⟨rfl, trivial⟩ trivial rfl rfl ?_
      refine AOR.pure (LT.move (v := (.s (.c (iC s2.1)))) rfl) ⟨rfl, trivial⟩ trivial rfl rfl ?_
      refine AOR.bind fun x9 hx9 => ?_
      refine AOR.pure (LT.tindexLoc rfl rfl el37 hx9) ⟨rfl, rfl, trivial⟩ ⟨rfl, trivial⟩ rfl rfl ?_
      refine AOR.step (LT.tstore (k := 0) (v := (.c (iC (-1)))) (b' := (-1)) rfl rfl (infS inf3) sz3 (by exact rfl) hx9 (by exact rfl) (by exact Nat.le_of_ble_eq_true rfl) (by exact rfl)) ⟨rfl, ⟨rfl, rfl⟩, trivial⟩ ⟨rfl, trivial⟩ rfl rfl ?_
      refine AOR.nil ?_
      refine AWR.blk ?_
      refine AWR.region ?_
      refine AOR.pure (LT.move (v := (.s (.c (iC s2.1)))) rfl) ⟨rfl, trivial⟩ trivial rfl rfl ?_
      refine AOR.pure (LT.add rfl) ⟨rfl, ⟨rfl, rfl⟩, trivial⟩ trivial rfl rfl ?_
      refine AOR.pure (LT.assign (v := (.s (.c (iC (w64 (s2.1 + 1)))))) rfl) ⟨rfl, trivial⟩ trivial rfl rfl ?_
      refine AOR.nil ?_
      refine AWR.nil ⟨rfl, Ent.of ⟨rfl, rfl, rfl, rfl, rfl, (congrArg (fun l1 => (some (AV.s (.c (.loc 24 0 l1))) : Option AV)) (show s2.2.length = (s2.2.set s2.1.toNat (-1)).length by simp only [List.length_set])), rfl, trivial⟩ ⟨rfl, rfl, rfl, rfl, trivial⟩⟩
    · refine AWR.exit_end rfl ⟨rfl, Ent.of ⟨rfl, rfl, rfl, rfl, rfl, rfl, trivial⟩ ⟨rfl, rfl, rfl, rfl, trivial⟩⟩
  · refine AWR.seq ?_
    refine AWR.region ?_
    refine AOR.pure (LT.move (v := (.s (.c (iC a)))) rfl) ⟨rfl, trivial⟩ trivial rfl rfl ?_
    refine AOR.step (LT.tbuildSlice (n := 25) (enc := encInt) [(0, .tmp 30, (.c (iC a)))] ([a] : List Int) rfl rfl und37 ti3 rfl rfl rfl rfl (by decide) (fun _ => rfl) rfl) ⟨rfl, trivial⟩ trivial rfl rfl ?_
    refine AOR.pure (LT.assign (v := (.s (.c (.loc 25 0 ([a] : List Int).length)))) rfl) ⟨rfl, trivial⟩ trivial rfl rfl ?_
    refine AOR.nil ?_
    refine AWR.seq ?_
    refine AWR.region ?_
    refine AOR.pure (LT.fieldPl rfl fo26_0) ⟨rfl, trivial⟩ trivial rfl rfl ?_
    refine AOR.pure (LT.bload1 (c := (iC g.Points)) rfl ag3 (by exact rfl)) ⟨rfl, trivial⟩ ⟨rfl, trivial⟩ rfl rfl ?_
    refine AOR.bind fun u10 hu10 => ?_
    refine AOR.step (LT.tmake (n := 26) (enc := encBool) (zc := [(bC false)]) false rfl und167 ti4 rfl rfl rfl (by decide) (by decide) (lenOk_le hu10) rfl) ⟨rfl, rfl, trivial⟩ trivial rfl rfl ?_
    refine AOR.pure (LT.assign (v := (.s (.c (.loc 26 0 (List.replicate g.Points.toNat false).length)))) rfl) ⟨rfl, trivial⟩ trivial rfl rfl ?_
    refine AOR.nil ?_
    refine AWR.seq ?_
    refine AWR.ent (Ent.of (σ' := [(2, (.s (.c (iC a)))), (3, (.s (.c (iC b)))), (4, (.s (.c (.pl 21 0)))), (5, (.s (.c (.pl 22 0)))), (8, (.s (.c (.pl 23 0)))), (10, (.s (.c (.loc 24 0 b7.length)))), (12, (.s (.c (.loc 25 0 ([a] : List Int).length)))), (13, (.s (.c (.loc 26 0 (List.replicate g.Points.toNat false).length))))]) (m' := [(21, (.row 26 [[(iC g.Points), (.pv (.xs false (g.Bars.map encTBar)))]])), (22, (.row 140 [[(.pv (.xs false (p.Free.map encInt))), (.pv (.xs false (p.Tails.map encInt))), (.pv (.xs false (p.Placed.map encInt)))]])), (23, (.row 140 [[(sC nilV), (sC nilV), (sC nilV)]])), (24, (.prow 3 (b7.map encInt))), (25, (.prow 3 (([a] : List Int).map encInt))), (26, (.prow 4 ((List.replicate g.Points.toNat false).map encBool)))]) ⟨rfl, rfl, rfl, rfl, rfl, rfl, rfl, rfl, trivial⟩ ⟨rfl, rfl, rfl, rfl, rfl, rfl, trivial⟩) ?_
    refine AWR.region ?_
    refine AOR.pure (LT.move (v := (.s (.c (.loc 26 0 (List.replicate g.Points.toNat false).length)))) rfl) ⟨rfl, trivial⟩ trivial rfl rfl ?_
    refine AOR.pure (LT.move (v := (.s (.c (iC a)))) rfl) ⟨rfl, trivial⟩ trivial rfl rfl ?_
    refine AOR.bind fun x11 hx11 => ?_
    refine AOR.pure (LT.tindexLoc rfl rfl el167 hx11) ⟨rfl, rfl, trivial⟩ ⟨rfl, trivial⟩ rfl rfl ?_
    refine AOR.step (LT.tstore (k := 0) (v := (.c (bC true))) (b' := true) rfl rfl (infS inf4) sz4 (by exact rfl) hx11 (by exact rfl) (by exact Nat.le_of_ble_eq_true rfl) (by exact rfl)) ⟨rfl, ⟨rfl, rfl⟩, trivial⟩ ⟨rfl, trivial⟩ rfl rfl ?_
    refine AOR.nil ?_
    refine AWR.seq ?_
    refine AWR.seq ?_
    refine AWR.region ?_
    refine AOR.pure (LT.assign (v := (.s (.c (iC 0)))) rfl) ⟨⟨rfl, rfl⟩, trivial⟩ trivial rfl rfl ?_
    refine AOR.nil ?_
    refine AWR.block ?_
    refine AWR.loopR (id := 2) (m_spec_l4Find_L4 g p a b) (fun s12 => ([(2, (.s (.c (iC a)))), (3, (.s (.c (iC b)))), (4, (.s (.c (.pl 21 0)))), (5, (.s (.c (.pl 22 0)))), (8, (.s (.c (.pl 23 0)))), (10, (.s (.c (.loc 24 0 s12.2.1.length)))), (12, (.s (.c (.loc 25 0 s12.2.2.1.length)))), (13, (.s (.c (.loc 26 0 s12.2.2.2.length)))), (14, (.s (.c (iC s12.1))))], [(21, (.row 26 [[(iC g.Points), (.pv (.xs false (g.Bars.map encTBar)))]])), (22, (.row 140 [[(.pv (.xs false (p.Free.map encInt))), (.pv (.xs false (p.Tails.map encInt))), (.pv (.xs false (p.Placed.map encInt)))]])), (23, (.row 140 [[(sC nilV), (sC nilV), (sC nilV)]])), (24, (.prow 3 (s12.2.1.map encInt))), (25, (.prow 3 (s12.2.2.1.map encInt))), (26, (.prow 4 (s12.2.2.2.map encBool)))])) (fun b93 => ([(5, (.s (.c (.pl 22 0)))), (8, (.s (.c (.pl 23 0))))], [(22, (.row 140 [[(.pv (.xs false (p.Free.map encInt))), (.pv (.xs false (p.Tails.map encInt))), (.pv (.xs false (p.Placed.map encInt)))]])), (23, (.row 140 [[(sC nilV), (sC nilV), (sC nilV)]]))])) (FPost Try.prog Try.f211.results.toList [] [0, 1, 2] (fun (t : (TPebbles × Bool)) => [(.agg [(bif t.2 then (.loc 0 0 t.1.Free.length) else .junk), (bif t.2 then (.loc 1 0 t.1.Tails.length) else .junk), (bif t.2 then (.loc 2 0 t.1.Placed.length) else .junk)]), (.c (bC t.2))]) (fun (t : (TPebbles × Bool)) => [(0, (.prow 3 ((bif t.2 then t.1.Free else []).map encInt))), (1, (.prow 3 ((bif t.2 then t.1.Tails else []).map encInt))), (2, (.prow 3 ((bif t.2 then t.1.Placed else []).map encInt)))])) ?_ (Ent.of ⟨rfl, rfl, rfl, rfl, rfl, rfl, rfl, (congrArg (fun l1 => (some (AV.s (.c (.loc 26 0 l1))) : Option AV)) (show (List.replicate g.Points.toNat false).length = ((List.replicate g.Points.toNat false).set a.toNat true).length by simp only [List.length_set])), rfl, trivial⟩ ⟨rfl, rfl, rfl, rfl, rfl, rfl, trivial⟩) rfl (fun b93 _ => ?_) (by intro r t σ m ht hk; injection ht with ht; subst ht; exact hk)
    · intro s12
      unfold m_spec_l4Find_L4
      refine AWR.seq ?_
      refine AWR.seq ?_
      refine AWR.region ?_
      refine AOR.pure (LT.move (v := (.s (.c (iC s12.1)))) rfl) ⟨rfl, trivial⟩ trivial rfl rfl ?_
      refine AOR.pure (LT.move (v := (.s (.c (.loc 25 0 s12.2.2.1.length)))) rfl) ⟨rfl, trivial⟩ trivial rfl rfl ?_
      refine AOR.pure (LT.lenLoc rfl und37) ⟨rfl, trivial⟩ trivial rfl rfl ?_
      refine AOR.pure (LT.lss rfl) ⟨rfl, rfl, trivial⟩ trivial rfl rfl ?_
      refine AOR.nil ?_
      refine AWR.cond rfl (fun hc94 => ?_) (fun hc94 => ?_)
      · refine AWR.skip ?_
        refine AWR.seq ?_
        refine AWR.block ?_
        refine AWR.seq ?_
        refine AWR.region ?_
        refine AOR.pure (LT.move (v := (.s (.c (.loc 25 0 s12.2.2.1.length)))) rfl) ⟨rfl, trivial⟩ trivial rfl rfl ?_
        refine AOR.pure (LT.move (v := (.s (.c (iC s12.1)))) rfl) ⟨rfl, trivial⟩ trivial rfl rfl ?_
        refine AOR.bind fun x95 hx95 => ?_
        refine AOR.pure (LT.tindexLoc rfl rfl el37 hx95) ⟨rfl, rfl, trivial⟩ ⟨rfl, trivial⟩ rfl rfl ?_
        refine AOR.pure (LT.tload1 (k := 0) rfl ag3 hx95 (by exact rfl) (by exact rfl)) ⟨rfl, trivial⟩ ⟨rfl, trivial⟩ rfl rfl ?_
        refine AOR.pure (LT.assign (v := (.s (.c (iC x95)))) rfl) ⟨rfl, trivial⟩ trivial rfl rfl ?_
        refine AOR.nil ?_
        refine AWR.seq ?_
        refine AWR.region ?_
        refine AOR.pure (LT.assign (v := (.s (.c (iC 0)))) rfl) ⟨⟨rfl, rfl⟩, trivial⟩ trivial rfl rfl ?_
        refine AOR.nil ?_
        refine AWR.block ?_
        refine AWR.loopR (id := 4) (m_spec_l4Find_L5 g p a b s12 x95) (fun s96 => ([(2, (.s (.c (iC a)))), (3, (.s (.c (iC b)))), (4, (.s (.c (.pl 21 0)))), (5, (.s (.c (.pl 22 0)))), (8, (.s (.c (.pl 23 0)))), (10, (.s (.c (.loc 24 0 s96.2.1.length)))), (12, (.s (.c (.loc 25 0 s96.2.2.1.length)))), (13, (.s (.c (.loc 26 0 s96.2.2.2.length)))), (14, (.s (.c (iC s12.1)))), (15, (.s (.c (iC x95)))), (16, (.s (.c (iC s96.1))))], [(21, (.row 26 [[(iC g.Points), (.pv (.xs false (g.Bars.map encTBar)))]])), (22, (.row 140 [[(.pv (.xs false (p.Free.map encInt))), (.pv (.xs false (p.Tails.map encInt))), (.pv (.xs false (p.Placed.map encInt)))]])), (23, (.row 140 [[(sC nilV), (sC nilV), (sC nilV)]])), (24, (.prow 3 (s96.2.1.map encInt))), (25, (.prow 3 (s96.2.2.1.map encInt))), (26, (.prow 4 (s96.2.2.2.map encBool)))])) (fun b133 => ([(2, (.s (.c (iC a)))), (3, (.s (.c (iC b)))), (4, (.s (.c (.pl 21 0)))), (5, (.s (.c (.pl 22 0)))), (8, (.s (.c (.pl 23 0)))), (10, (.s (.c (.loc 24 0 b133.2.1.length)))), (12, (.s (.c (.loc 25 0 b133.2.2.1.length)))), (13, (.s (.c (.loc 26 0 b133.2.2.2.length)))), (14, (.s (.c (iC b133.1))))], [(21, (.row 26 [[(iC g.Points), (.pv (.xs false (g.Bars.map encTBar)))]])), (22, (.row 140 [[(.pv (.xs false (p.Free.map encInt))), (.pv (.xs false (p.Tails.map encInt))), (.pv (.xs false (p.Placed.map encInt)))]])), (23, (.row 140 [[(sC nilV), (sC nilV), (sC nilV)]])), (24, (.prow 3 (b133.2.1.map encInt))), (25, (.prow 3 (b133.2.2.1.map encInt))), (26, (.prow 4 (b133.2.2.2.map encBool)))])) (FPost Try.prog Try.f211.results.toList [] [0, 1, 2] (fun (t : (TPebbles × Bool)) => [(.agg [(bif t.2 then (.loc 0 0 t.1.Free.length) else .junk), (bif t.2 then (.loc 1 0 t.1.Tails.length) else .junk), (bif t.2 then (.loc 2 0 t.1.Placed.length) else .junk)]), (.c (bC t.2))]) (fun (t : (TPebbles × Bool)) => [(0, (.prow 3 ((bif t.2 then t.1.Free else []).map encInt))), (1, (.prow 3 ((bif t.2 then t.1.Tails else []).map encInt))), (2, (.prow 3 ((bif t.2 then t.1.Placed else []).map encInt)))])) ?_ (Ent.of ⟨rfl, rfl, rfl, rfl, rfl, rfl, rfl, rfl, rfl, rfl, rfl, trivial⟩ ⟨rfl, rfl, rfl, rfl, rfl, rfl, trivial⟩) rfl (fun b133 _ => ?_) (by intro r t σ m ht hk; injection ht with ht; subst ht; exact ⟨rfl, hk⟩)
        · intro s96
          unfold m_spec_l4Find_L5
          refine AWR.seq ?_
          refine AWR.seq ?_
          refine AWR.region ?_
          refine AOR.pure (LT.move (v := (.s (.c (iC s96.1)))) rfl) ⟨rfl, trivial⟩ trivial rfl rfl ?_
          refine AOR.pure (LT.fieldPl rfl fo140_2) ⟨rfl, trivial⟩ trivial rfl rfl ?_
          refine AOR.pure (LT.bload1 (c := (.pv (.xs false (p.Placed.map encInt)))) rfl ag37 (by exact rfl)) ⟨rfl, trivial⟩ ⟨rfl, trivial⟩ rfl rfl ?_
          refine AOR.pure (LT.tlenRO rfl und37) ⟨rfl, trivial⟩ trivial rfl rfl ?_
          refine AOR.pure (LT.lss rfl) ⟨rfl, rfl, trivial⟩ trivial rfl rfl ?_
          refine AOR.nil ?_
          refine AWR.cond rfl (fun hc134 => ?_) (fun hc134 => ?_)
          · refine AWR.skip ?_
            refine AWR.seq ?_
            refine AWR.block ?_
            refine AWR.seq ?_
            refine AWR.seq ?_
            refine AWR.region ?_
            refine AOR.pure (LT.fieldPl rfl fo140_1) ⟨rfl, trivial⟩ trivial rfl rfl ?_
            refine AOR.pure (LT.bload1 (c := (.pv (.xs false (p.Tails.map encInt)))) rfl ag37 (by exact rfl)) ⟨rfl, trivial⟩ ⟨rfl, trivial⟩ rfl rfl ?_
            refine AOR.pure (LT.move (v := (.s (.c (iC s96.1)))) rfl) ⟨rfl, trivial⟩ trivial rfl rfl ?_
            refine AOR.bind fun x135 hx135 => ?_
            refine AOR.pure (LT.tindexRO (enc := encInt) rfl el37 hx135 sz3) ⟨rfl, rfl, trivial⟩ trivial rfl rfl ?_
            refine AOR.pure (LT.loadPx1 rfl ag3) ⟨rfl, trivial⟩ trivial rfl rfl ?_
            refine AOR.pure (LT.move (v := (.s (.c (iC x95)))) rfl) ⟨rfl, trivial⟩ trivial rfl rfl ?_
            refine AOR.pure (LT.neq rfl) ⟨rfl, rfl, trivial⟩ trivial rfl rfl ?_
            refine AOR.nil ?_
            refine AWR.cond rfl (fun hc136 => ?_) (fun hc136 => ?_)
            · refine AWR.exit rfl ?_
              refine AWR.ent (Ent.of (σ' := [(2, (.s (.c (iC a)))), (3, (.s (.c (iC b)))), (4, (.s (.c (.pl 21 0)))), (5, (.s (.c (.pl 22 0)))), (8, (.s (.c (.pl 23 0)))), (10, (.s (.c (.loc 24 0 s96.2.1.length)))), (12, (.s (.c (.loc 25 0 s96.2.2.1.length)))), (13, (.s (.c (.loc 26 0 s96.2.2.2.length)))), (14, (.s (.c (iC s12.1)))), (15, (.s (.c (iC x95)))), (16, (.s (.c (iC s96.1))))]) (m' := [(21, (.row 26 [[(iC g.Points), (.pv (.xs false (g.Bars.map encTBar)))]])), (22, (.row 140 [[(.pv (.xs false (p.Free.map encInt))), (.pv (.xs false (p.Tails.map encInt))), (.pv (.xs false (p.Placed.map encInt)))]])), (23, (.row 140 [[(sC nilV), (sC nilV), (sC nilV)]])), (24, (.prow 3 (s96.2.1.map encInt))), (25, (.prow 3 (s96.2.2.1.map encInt))), (26, (.prow 4 (s96.2.2.2.map encBool)))]) ⟨rfl, rfl, rfl, rfl, rfl, rfl, rfl, rfl, rfl, rfl, rfl, trivial⟩ ⟨rfl, rfl, rfl, rfl, rfl, rfl, trivial⟩) ?_
              refine AWR.region ?_
              refine AOR.pure (LT.move (v := (.s (.c (iC s96.1)))) rfl) ⟨rfl, trivial⟩ trivial rfl rfl ?_
              refine AOR.pure (LT.add rfl) ⟨rfl, ⟨rfl, rfl⟩, trivial⟩ trivial rfl rfl ?_
              refine AOR.pure (LT.assign (v := (.s (.c (iC (w64 (s96.1 + 1)))))) rfl) ⟨rfl, trivial⟩ trivial rfl rfl ?_
              refine AOR.nil ?_
              refine AWR.nil ⟨rfl, Ent.of ⟨rfl, rfl, rfl, rfl, rfl, rfl, rfl, rfl, rfl, rfl, rfl, trivial⟩ ⟨rfl, rfl, rfl, rfl, rfl, rfl, trivial⟩⟩
            · refine AWR.skip ?_
              refine AWR.seq ?_
              refine AWR.ent (Ent.of (σ' := [(2, (.s (.c (iC a)))), (3, (.s (.c (iC b)))), (4, (.s (.c (.pl 21 0)))), (5, (.s (.c (.pl 22 0)))), (8, (.s (.c (.pl 23 0)))), (10, (.s (.c (.loc 24 0 s96.2.1.length)))), (12, (.s (.c (.loc 25 0 s96.2.2.1.length)))), (13, (.s (.c (.loc 26 0 s96.2.2.2.length)))), (14, (.s (.c (iC s12.1)))), (15, (.s (.c (iC x95)))), (16, (.s (.c (iC s96.1))))]) (m' := [(21, (.row 26 [[(iC g.Points), (.pv (.xs false (g.Bars.map encTBar)))]])), (22, (.row 140 [[(.pv (.xs false (p.Free.map encInt))), (.pv (.xs false (p.Tails.map encInt))), (.pv (.xs false (p.Placed.map encInt)))]])), (23, (.row 140 [[(sC nilV), (sC nilV), (sC nilV)]])), (24, (.prow 3 (s96.2.1.map encInt))), (25, (.prow 3 (s96.2.2.1.map encInt))), (26, (.prow 4 (s96.2.2.2.map encBool)))]) ⟨rfl, rfl, rfl, rfl, rfl, rfl, rfl, rfl, rfl, rfl, rfl, trivial⟩ ⟨rfl, rfl, rfl, rfl, rfl, rfl, trivial⟩) ?_
              refine AWR.draw mixed ?_
              refine AOD.pure (LT.fieldPl rfl fo26_1) ⟨rfl, trivial⟩ trivial rfl rfl ?_
              refine AOD.pure (LT.bload1 (c := (.pv (.xs false (g.Bars.map encTBar)))) rfl ag24 (by exact rfl)) ⟨rfl, trivial⟩ ⟨rfl, trivial⟩ rfl rfl ?_
              refine AOD.pure (LT.fieldPl rfl fo140_2) ⟨rfl, trivial⟩ trivial rfl rfl ?_
              refine AOD.pure (LT.bload1 (c := (.pv (.xs false (p.Placed.map encInt)))) rfl ag37 (by exact rfl)) ⟨rfl, trivial⟩ ⟨rfl, trivial⟩ rfl rfl ?_
              refine AOD.pure (LT.move (v := (.s (.c (iC s96.1)))) rfl) ⟨rfl, trivial⟩ trivial rfl rfl ?_
              refine AOD.bind fun x137 hx137 => ?_
              refine AOD.pure (LT.tindexRO (enc := encInt) rfl el37 hx137 sz3) ⟨rfl, rfl, trivial⟩ trivial rfl rfl ?_
              refine AOD.pure (LT.loadPx1 rfl ag3) ⟨rfl, trivial⟩ trivial rfl rfl ?_
              refine AOD.bind fun x138 hx138 => ?_
              refine AOD.pure (LT.tindexRO (enc := encTBar) rfl el24 hx138 sz79) ⟨rfl, rfl, trivial⟩ trivial rfl rfl ?_
              refine AOD.pure (LT.loadPxN rfl ag79 (infS inf79) (by exact sz79.symm)) ⟨rfl, trivial⟩ trivial rfl rfl ?_
              refine AOD.pure (LT.move (v := (.s (.c (iC x95)))) rfl) ⟨rfl, trivial⟩ trivial rfl rfl ?_
              refine AOD.bind fun r139 hr139 => ?_
              refine AOD.pure (@LT.callF Try.prog _ _ 105 _ _ [(.agg [(iC x138.A), (iC x138.B)]), (.c (iC x95))] _ _ [] _ _ _ _ (w_spec_l4Other x138 x95 r139 hr139) rfl cb105 (.cons (.agg (.cons (.same rfl) (.cons (.same rfl) .nil))) (.cons (.c (.same rfl)) .nil)) rfl rfl trivial) ⟨rfl, rfl, rfl, trivial⟩ trivial rfl rfl ?_
              refine AOD.pure (LT.assign (v := (.s (.c (iC r139)))) rfl) ⟨rfl, trivial⟩ trivial rfl rfl ?_
              refine AOD.nil (by kernel_rfl) ?_
              refine AWR.seq ?_
              refine AWR.seq ?_
              refine AWR.ent (Ent.of (σ' := [(2, (.s (.c (iC a)))), (3, (.s (.c (iC b)))), (4, (.s (.c (.pl 21 0)))), (5, (.s (.c (.pl 22 0)))), (8, (.s (.c (.pl 23 0)))), (10, (.s (.c (.loc 24 0 s96.2.1.length)))), (12, (.s (.c (.loc 25 0 s96.2.2.1.length)))), (13, (.s (.c (.loc 26 0 s96.2.2.2.length)))), (14, (.s (.c (iC s12.1)))), (15, (.s (.c (iC x95)))), (16, (.s (.c (iC s96.1)))), (17, (.s (.c (iC r139))))]) (m' := [(21, (.row 26 [[(iC g.Points), (.pv (.xs false (g.Bars.map encTBar)))]])), (22, (.row 140 [[(.pv (.xs false (p.Free.map encInt))), (.pv (.xs false (p.Tails.map encInt))), (.pv (.xs false (p.Placed.map encInt)))]])), (23, (.row 140 [[(sC nilV), (sC nilV), (sC nilV)]])), (24, (.prow 3 (s96.2.1.map encInt))), (25, (.prow 3 (s96.2.2.1.map encInt))), (26, (.prow 4 (s96.2.2.2.map encBool)))]) ⟨rfl, rfl, rfl, rfl, rfl, rfl, rfl, rfl, rfl, rfl, rfl, rfl, trivial⟩ ⟨rfl, rfl, rfl, rfl, rfl, rfl, trivial⟩) ?_
              refine AWR.region ?_
              refine AOR.pure (LT.move (v := (.s (.c (.loc 26 0 s96.2.2.2.length)))) rfl) ⟨rfl, trivial⟩ trivial rfl rfl ?_
              refine AOR.pure (LT.move (v := (.s (.c (iC r139)))) rfl) ⟨rfl, trivial⟩ trivial rfl rfl ?_
              refine AOR.bind fun x140 hx140 => ?_
              refine AOR.pure (LT.tindexLoc rfl rfl el167 hx140) ⟨rfl, rfl, trivial⟩ ⟨rfl, trivial⟩ rfl rfl ?_
              refine AOR.pure (LT.tload1 (k := 0) rfl ag4 hx140 (by exact rfl) (by exact rfl)) ⟨rfl, trivial⟩ ⟨rfl, trivial⟩ rfl rfl ?_
              refine AOR.nil ?_
              refine AWR.cond rfl (fun hc141 => ?_) (fun hc141 => ?_)
              · refine AWR.exit rfl ?_
                refine AWR.region ?_
                refine AOR.pure (LT.move (v := (.s (.c (iC s96.1)))) rfl) ⟨rfl, trivial⟩ trivial rfl rfl ?_
                refine AOR.pure (LT.add rfl) ⟨rfl, ⟨rfl, rfl⟩, trivial⟩ trivial rfl rfl ?_
                refine AOR.pure (LT.assign (v := (.s (.c (iC (w64 (s96.1 + 1)))))) rfl) ⟨rfl, trivial⟩ trivial rfl rfl ?_
                refine AOR.nil ?_
                refine AWR.nil ⟨rfl, Ent.of ⟨rfl, rfl, rfl, rfl, rfl, rfl, rfl, rfl, rfl, rfl, rfl, trivial⟩ ⟨rfl, rfl, rfl, rfl, rfl, rfl, trivial⟩⟩
              · refine AWR.skip ?_
                refine AWR.seq ?_
                refine AWR.region ?_
                refine AOR.pure (LT.move (v := (.s (.c (.loc 26 0 s96.2.2.2.length)))) rfl) ⟨rfl, trivial⟩ trivial rfl rfl ?_
                refine AOR.pure (LT.move (v := (.s (.c (iC r139)))) rfl) ⟨rfl, trivial⟩ trivial rfl rfl ?_
                refine AOR.bind fun x142 hx142 => ?_
                refine AOR.pure (LT.tindexLoc rfl rfl el167 hx142) ⟨rfl, rfl, trivial⟩ ⟨rfl, trivial⟩ rfl rfl ?_
                refine AOR.step (LT.tstore (k := 0) (v := (.c (bC true))) (b' := true) rfl rfl (infS inf4) sz4 (by exact rfl) hx142 (by exact rfl) (by exact Nat.le_of_ble_eq_true rfl) (by exact rfl)) ⟨rfl, ⟨rfl, rfl⟩, trivial⟩ ⟨rfl, trivial⟩ rfl rfl ?_
                refine AOR.nil ?_
                refine AWR.seq ?_
                refine AWR.region ?_
                refine AOR.pure (LT.move (v := (.s (.c (.loc 24 0 s96.2.1.length)))) rfl) ⟨rfl, trivial⟩ trivial rfl rfl ?_
                refine AOR.pure (LT.move (v := (.s (.c (iC r139)))) rfl) ⟨rfl, trivial⟩ trivial rfl rfl ?_
                refine AOR.pure (LT.move (v := (.s (.c (iC s96.1)))) rfl) ⟨rfl, trivial⟩ trivial rfl rfl ?_
                refine AOR.bind fun x143 hx143 => ?_
                refine AOR.pure (LT.tindexLoc rfl rfl el37 hx143) ⟨rfl, rfl, trivial⟩ ⟨rfl, trivial⟩ rfl rfl ?_
                refine AOR.step (LT.tstore (k := 0) (v := (.c (iC s96.1))) (b' := s96.1) rfl rfl (infS inf3) sz3 (by exact rfl) hx143 (by exact rfl) (by exact Nat.le_of_ble_eq_true rfl) (by exact rfl)) ⟨rfl, rfl, trivial⟩ ⟨rfl, trivial⟩ rfl rfl ?_
                refine AOR.nil ?_
                refine AWR.seq ?_
                refine AWR.seq ?_
                refine AWR.joinK (fun j146 => ([(2, (.s (.c (iC a)))), (3, (.s (.c (iC b)))), (4, (.s (.c (.pl 21 0)))), (5, (.s (.c (.pl 22 0)))), (8, (.s (.c (.pl 23 0)))), (10, (.s (.c (.loc 24 0 (s96.2.1.set r139.toNat s96.1).length)))), (12, (.s (.c (.loc 25 0 s96.2.2.1.length)))), (13, (.s (.c (.loc 26 0 (s96.2.2.2.set r139.toNat true).length)))), (14, (.s (.c (iC s12.1)))), (15, (.s (.c (iC x95)))), (16, (.s (.c (iC s96.1)))), (17, (.s (.c (iC r139)))), (94, (.s (.c (bC j146))))], [(21, (.row 26 [[(iC g.Points), (.pv (.xs false (g.Bars.map encTBar)))]])), (22, (.row 140 [[(.pv (.xs false (p.Free.map encInt))), (.pv (.xs false (p.Tails.map encInt))), (.pv (.xs false (p.Placed.map encInt)))]])), (23, (.row 140 [[(sC nilV), (sC nilV), (sC nilV)]])), (24, (.prow 3 ((s96.2.1.set r139.toNat s96.1).map encInt))), (25, (.prow 3 (s96.2.2.1.map encInt))), (26, (.prow 4 ((s96.2.2.2.set r139.toNat true).map encBool)))])) ?_ (fun j146 _ => ?_)
                · refine AWR.ent (Ent.of (σ' := [(2, (.s (.c (iC a)))), (3, (.s (.c (iC b)))), (4, (.s (.c (.pl 21 0)))), (5, (.s (.c (.pl 22 0)))), (8, (.s (.c (.pl 23 0)))), (10, (.s (.c (.loc 24 0 s96.2.1.length)))), (12, (.s (.c (.loc 25 0 s96.2.2.1.length)))), (13, (.s (.c (.loc 26 0 s96.2.2.2.length)))), (14, (.s (.c (iC s12.1)))), (15, (.s (.c (iC x95)))), (16, (.s (.c (iC s96.1)))), (17, (.s (.c (iC r139))))]) (m' := [(21, (.row 26 [[(iC g.Points), (.pv (.xs false (g.Bars.map encTBar)))]])), (22, (.row 140 [[(.pv (.xs false (p.Free.map encInt))), (.pv (.xs false (p.Tails.map encInt))), (.pv (.xs false (p.Placed.map encInt)))]])), (23, (.row 140 [[(sC nilV), (sC nilV), (sC nilV)]])), (24, (.prow 3 ((s96.2.1.set r139.toNat s96.1).map encInt))), (25, (.prow 3 (s96.2.2.1.map encInt))), (26, (.prow 4 ((s96.2.2.2.set r139.toNat true).map encBool)))]) ⟨rfl, rfl, rfl, rfl, rfl, rfl, rfl, rfl, rfl, rfl, rfl, rfl, trivial⟩ ⟨rfl, rfl, rfl, rfl, rfl, rfl, trivial⟩) ?_
                  refine AWR.region ?_
                  refine AOR.pure (LT.move (v := (.s (.c (iC r139)))) rfl) ⟨rfl, trivial⟩ trivial rfl rfl ?_
                  refine AOR.pure (LT.move (v := (.s (.c (iC b)))) rfl) ⟨rfl, trivial⟩ trivial rfl rfl ?_
                  refine AOR.pure (LT.neq rfl) ⟨rfl, rfl, trivial⟩ trivial rfl rfl ?_
                  refine AOR.pure (LT.move (v := (.s (.c (bC (r139 != b))))) rfl) ⟨rfl, trivial⟩ trivial rfl rfl ?_
                  refine AOR.split (fun hb147 => ?_) (fun hb147 => ?_)
                  · refine AOR.pure (LT.fieldPl rfl fo140_0) ⟨rfl, trivial⟩ trivial ⟨_, rfl, .inl ⟨_, rfl, (by rw [hb147]; rfl)⟩⟩ rfl ?_
                    refine AOR.pure (LT.bload1 (c := (.pv (.xs false (p.Free.map encInt)))) rfl ag37 (by exact rfl)) ⟨rfl, trivial⟩ ⟨rfl, trivial⟩ ⟨_, rfl, .inl ⟨_, rfl, (by rw [hb147]; rfl)⟩⟩ rfl ?_
                    refine AOR.pure (LT.move (v := (.s (.c (iC r139)))) rfl) ⟨rfl, trivial⟩ trivial ⟨_, rfl, .inl ⟨_, rfl, (by rw [hb147]; rfl)⟩⟩ rfl ?_
                    refine AOR.bind fun x148 hx148 => ?_
                    refine AOR.pure (LT.tindexRO (enc := encInt) rfl el37 hx148 sz3) ⟨rfl, rfl, trivial⟩ trivial ⟨_, rfl, .inl ⟨_, rfl, (by rw [hb147]; rfl)⟩⟩ rfl ?_
                    refine AOR.pure (LT.loadPx1 rfl ag3) ⟨rfl, trivial⟩ trivial ⟨_, rfl, .inl ⟨_, rfl, (by rw [hb147]; rfl)⟩⟩ rfl ?_
                    refine AOR.pure (LT.gtr rfl) ⟨rfl, ⟨rfl, rfl⟩, trivial⟩ trivial ⟨_, rfl, .inl ⟨_, rfl, (by rw [hb147]; rfl)⟩⟩ rfl ?_
                    refine AOR.pure (LT.pickT (v := (.s (.c (bC (decide (0 < x148)))))) rfl hb147) ⟨rfl, rfl, trivial⟩ trivial rfl rfl ?_
                    refine AOR.nil ?_
                    refine AWR.nil ⟨rfl, Ent.of ⟨rfl, rfl, rfl, rfl, rfl, (congrArg (fun l1 => (some (AV.s (.c (.loc 24 0 l1))) : Option AV)) (show s96.2.1.length = (s96.2.1.set r139.toNat s96.1).length by simp only [List.length_set])), rfl, (congrArg (fun l1 => (some (AV.s (.c (.loc 26 0 l1))) : Option AV)) (show s96.2.2.2.length = (s96.2.2.2.set r139.toNat true).length by simp only [List.length_set])), rfl, rfl, rfl, rfl, rfl, trivial⟩ ⟨rfl, rfl, rfl, rfl, rfl, rfl, trivial⟩⟩
                  · refine AOR.skip ⟨_, rfl, .inl ⟨_, rfl, (by rw [hb147]; rfl)⟩⟩ rfl ?_
                    refine AOR.skip ⟨_, rfl, .inl ⟨_, rfl, (by rw [hb147]; rfl)⟩⟩ rfl ?_
                    refine AOR.skip ⟨_, rfl, .inl ⟨_, rfl, (by rw [hb147]; rfl)⟩⟩ rfl ?_
                    refine AOR.skip ⟨_, rfl, .inl ⟨_, rfl, (by rw [hb147]; rfl)⟩⟩ rfl ?_
                    refine AOR.skip ⟨_, rfl, .inl ⟨_, rfl, (by rw [hb147]; rfl)⟩⟩ rfl ?_
                    refine AOR.skip ⟨_, rfl, .inl ⟨_, rfl, (by rw [hb147]; rfl)⟩⟩ rfl ?_
                    refine AOR.pure (LT.pickF (v := (.s (.c (bC false)))) rfl hb147) ⟨rfl, ⟨rfl, rfl⟩, trivial⟩ trivial rfl rfl ?_
                    refine AOR.nil ?_
                    refine AWR.nil ⟨rfl, Ent.of ⟨rfl, rfl, rfl, rfl, rfl, (congrArg (fun l1 => (some (AV.s (.c (.loc 24 0 l1))) : Option AV)) (show s96.2.1.length = (s96.2.1.set r139.toNat s96.1).length by simp only [List.length_set])), rfl, (congrArg (fun l1 => (some (AV.s (.c (.loc 26 0 l1))) : Option AV)) (show s96.2.2.2.length = (s96.2.2.2.set r139.toNat true).length by simp only [List.length_set])), rfl, rfl, rfl, rfl, rfl, trivial⟩ ⟨rfl, rfl, rfl, rfl, rfl, rfl, trivial⟩⟩
                · refine AWR.cond rfl (fun hc149 => ?_) (fun hc149 => ?_)
                  · refine AWR.seq ?_
                    refine AWR.region ?_
                    refine AOR.pure (LT.bloadN (out := [(iC g.Points), (.pv (.xs false (g.Bars.map encTBar)))]) rfl ag26 (infS inf26) sz26 (by exact rfl) (by exact rfl)) ⟨rfl, trivial⟩ ⟨rfl, trivial⟩ rfl rfl ?_
                    refine AOR.pure (LT.bloadN (out := [(.pv (.xs false (p.Free.map encInt))), (.pv (.xs false (p.Tails.map encInt))), (.pv (.xs false (p.Placed.map encInt)))]) rfl ag140 (infS inf140) sz140 (by exact rfl) (by exact rfl)) ⟨rfl, trivial⟩ ⟨rfl, trivial⟩ rfl rfl ?_
                    refine AOR.pure (LT.move (v := (.s (.c (.loc 24 0 (s96.2.1.set r139.toNat s96.1).length)))) rfl) ⟨rfl, trivial⟩ trivial rfl rfl ?_
                    refine AOR.pure (LT.move (v := (.s (.c (iC a)))) rfl) ⟨rfl, trivial⟩ trivial rfl rfl ?_
                    refine AOR.pure (LT.move (v := (.s (.c (iC r139)))) rfl) ⟨rfl, trivial⟩ trivial rfl rfl ?_
                    refine AOR.bind fun r150 hr150 => ?_
                    refine AOR.step (@LT.callF Try.prog _ _ 213 _ _ [(.agg [(iC g.Points), (.pv (.xs false (g.Bars.map encTBar)))]), (.agg [(.pv (.xs false (p.Free.map encInt))), (.pv (.xs false (p.Tails.map encInt))), (.pv (.xs false (p.Placed.map encInt)))]), (.c (.loc 24 0 (s96.2.1.set r139.toNat s96.1).length)), (.c (iC a)), (.c (iC r139))] _ _ [(24, (.prow 3 ((s96.2.1.set r139.toNat s96.1).map encInt)))] _ _ _ _ ((show Fw.Fn Try.prog 213 [(.agg [(iC g.Points), (.pv (.xs false (g.Bars.map encTBar)))]), (.agg [(.pv (.xs false (p.Free.map encInt))), (.pv (.xs false (p.Tails.map encInt))), (.pv (.xs false (p.Placed.map encInt)))]), (.c (.pv (.xs false ((s96.2.1.set r139.toNat s96.1).map encInt)))), (.c (iC a)), (.c (iC r139))] [] (.s (.agg [(.loc 29 0 r150.Free.length), (.loc 30 0 r150.Tails.length), (.loc 31 0 r150.Placed.length)])) [(29, (.prow 3 (r150.Free.map encInt))), (30, (.prow 3 (r150.Tails.map encInt))), (31, (.prow 3 (r150.Placed.map encInt)))] [] [29, 30, 31] from Fw.Fn.ren [(0, 29), (1, 30), (2, 31)] (w_spec_l4Shift g p (s96.2.1.set r139.toNat s96.1) a r139 r150 hr150) rfl)) rfl cb213 (.cons (.agg (.cons (.same rfl) (.cons (.same rfl) .nil))) (.cons (.agg (.cons (.same rfl) (.cons (.same rfl) (.cons (.same rfl) .nil)))) (.cons (.c (.tloc rfl rfl)) (.cons (.c (.same rfl)) (.cons (.c (.same rfl)) .nil))))) rfl rfl trivial) ⟨rfl, rfl, rfl, rfl, rfl, rfl, trivial⟩ ⟨rfl, trivial⟩ rfl rfl ?_
                    refine AOR.step (LT.bstore (v := (.agg [(.loc 29 0 r150.Free.length), (.loc 30 0 r150.Tails.length), (.loc 31 0 r150.Placed.length)])) (out := [(.loc 29 0 r150.Free.length), (.loc 30 0 r150.Tails.length), (.loc 31 0 r150.Placed.length)]) rfl rfl (infS inf140) sz140 (by exact rfl) (by exact Nat.le_of_ble_eq_true rfl) (by exact rfl)) ⟨rfl, rfl, trivial⟩ ⟨rfl, trivial⟩ rfl rfl ?_
                    refine AOR.pure (LT.assign (v := (.s (.c (bC true)))) rfl) ⟨⟨rfl, rfl⟩, trivial⟩ trivial rfl rfl ?_
                    refine AOR.nil ?_
                    refine AWR.ent (Ent.of (σ' := [(8, (.s (.c (.pl 23 0)))), (9, (.s (.c (bC true))))]) (m' := [(23, (.row 140 [[(.loc 29 0 r150.Free.length), (.loc 30 0 r150.Tails.length), (.loc 31 0 r150.Placed.length)]])), (29, (.prow 3 (r150.Free.map encInt))), (30, (.prow 3 (r150.Tails.map encInt))), (31, (.prow 3 (r150.Placed.map encInt)))]) ⟨rfl, rfl, trivial⟩ ⟨rfl, rfl, rfl, rfl, trivial⟩) ?_
                    refine AWR.ent (Ent.mv 29 0 rfl rfl) ?_
                    refine AWR.ent (Ent.mv 30 1 rfl rfl) ?_
                    refine AWR.ent (Ent.mv 31 2 rfl rfl) ?_
                    refine AWR.ent (Ent.of (σ' := [(8, (.s (.c (.pl 23 0)))), (9, (.s (.c (bC true))))]) (m' := [(0, (.prow 3 (r150.Free.map encInt))), (1, (.prow 3 (r150.Tails.map encInt))), (2, (.prow 3 (r150.Placed.map encInt))), (23, (.row 140 [[(.loc 0 0 r150.Free.length), (.loc 1 0 r150.Tails.length), (.loc 2 0 r150.Placed.length)]]))]) ⟨rfl, rfl, trivial⟩ ⟨rfl, rfl, rfl, rfl, trivial⟩) ?_
                    refine AWR.ret ⟨rfl, FPost.mk (.inr rfl) ⟨⟨_, _, _, rfl, rfl, rfl, ag140, sz140, _, (infS inf140)⟩, rfl, trivial⟩ ⟨rfl, rfl, rfl, trivial⟩ rfl ⟨⟨trivial, trivial, trivial, trivial⟩, PermP.sc, trivial⟩ ⟨PermO.prow' perm_encInt, PermO.prow' perm_encInt, PermO.prow' perm_encInt, trivial⟩⟩
                  · refine AWR.skip ?_
                    refine AWR.region ?_
                    refine AOR.pure (LT.move (v := (.s (.c (.loc 25 0 s96.2.2.1.length)))) rfl) ⟨rfl, trivial⟩ trivial rfl rfl ?_
                    refine AOR.pure (LT.move (v := (.s (.c (iC r139)))) rfl) ⟨rfl, trivial⟩ trivial rfl rfl ?_
                    refine AOR.step (LT.tbuildSlice (n := 32) (enc := encInt) [(0, .tmp 102, (.c (iC r139)))] ([r139] : List Int) rfl rfl und37 ti3 rfl rfl rfl rfl (by decide) (fun _ => rfl) rfl) ⟨rfl, trivial⟩ trivial rfl rfl ?_
                    refine AOR.bind fun u151 hu151 => ?_
                    refine AOR.step (LT.tappP (enc := encInt) rfl rfl rfl und37 ti3 rfl (by decide) (by decide) (fun _ => rfl) (lim_le hu151)) ⟨rfl, rfl, trivial⟩ ⟨rfl, rfl, trivial⟩ rfl rfl ?_
                    refine AOR.pure (LT.assign (v := (.s (.c (.loc 25 0 (s96.2.2.1 ++ ([r139] : List Int)).length)))) rfl) ⟨rfl, trivial⟩ trivial rfl rfl ?_
                    refine AOR.nil ?_
                    refine AWR.blk ?_
                    refine AWR.region ?_
                    refine AOR.pure (LT.move (v := (.s (.c (iC s96.1)))) rfl) ⟨rfl, trivial⟩ trivial rfl rfl ?_
                    refine AOR.pure (LT.add rfl) ⟨rfl, ⟨rfl, rfl⟩, trivial⟩ trivial rfl rfl ?_
                    refine AOR.pure (LT.assign (v := (.s (.c (iC (w64 (s96.1 + 1)))))) rfl) ⟨rfl, trivial⟩ trivial rfl rfl ?_
                    refine AOR.nil ?_
                    refine AWR.nil ⟨rfl, Ent.of ⟨rfl, rfl, rfl, rfl, rfl, rfl, rfl, rfl, rfl, rfl, rfl, trivial⟩ ⟨rfl, rfl, rfl, rfl, rfl, rfl, trivial⟩⟩
          · refine AWR.exit_end rfl ⟨rfl, Ent.of ⟨rfl, rfl, rfl, rfl, rfl, rfl, rfl, rfl, rfl, trivial⟩ ⟨rfl, rfl, rfl, rfl, rfl, rfl, trivial⟩⟩
        · refine AWR.blk ?_
          refine AWR.region ?_
          refine AOR.pure (LT.move (v := (.s (.c (iC b133.1)))) rfl) ⟨rfl, trivial⟩ trivial rfl rfl ?_
          refine AOR.pure (LT.add rfl) ⟨rfl, ⟨rfl, rfl⟩, trivial⟩ trivial rfl rfl ?_
          refine AOR.pure (LT.assign (v := (.s (.c (iC (w64 (b133.1 + 1)))))) rfl) ⟨rfl, trivial⟩ trivial rfl rfl ?_
          refine AOR.nil ?_
          refine AWR.nil ⟨rfl, Ent.of ⟨rfl, rfl, rfl, rfl, rfl, rfl, rfl, rfl, rfl, trivial⟩ ⟨rfl, rfl, rfl, rfl, rfl, rfl, trivial⟩⟩
      · refine AWR.exit_end rfl ⟨rfl, Ent.of ⟨rfl, rfl, trivial⟩ ⟨rfl, rfl, trivial⟩⟩
    · refine AWR.seq ?_
      refine AWR.region ?_
      refine AOR.pure (LT.bloadN (out := [(.pv (.xs false (p.Free.map encInt))), (.pv (.xs false (p.Tails.map encInt))), (.pv (.xs false (p.Placed.map encInt)))]) rfl ag140 (infS inf140) sz140 (by exact rfl) (by exact rfl)) ⟨rfl, trivial⟩ ⟨rfl, trivial⟩ rfl rfl ?_
      refine AOR.step (LT.bstore (v := (.agg [(.pv (.xs false (p.Free.map encInt))), (.pv (.xs false (p.Tails.map encInt))), (.pv (.xs false (p.Placed.map encInt)))])) (out := [(.pv (.xs false (p.Free.map encInt))), (.pv (.xs false (p.Tails.map encInt))), (.pv (.xs false (p.Placed.map encInt)))]) rfl rfl (infS inf140) sz140 (by exact rfl) (by exact Nat.le_of_ble_eq_true rfl) (by exact rfl)) ⟨rfl, rfl, trivial⟩ ⟨rfl, trivial⟩ rfl rfl ?_
      refine AOR.pure (LT.assign (v := (.s (.c (bC false)))) rfl) ⟨⟨rfl, rfl⟩, trivial⟩ trivial rfl rfl ?_
      refine AOR.nil ?_
      refine AWR.ent (Ent.junkB 23 0 rfl) ?_
      refine AWR.ent (Ent.junkB 23 1 rfl) ?_
      refine AWR.ent (Ent.junkB 23 2 rfl) ?_
      refine AWR.ent (Ent.nilNew 0 3 rfl) ?_
      refine AWR.ent (Ent.nilNew 1 3 rfl) ?_
      refine AWR.ent (Ent.nilNew 2 3 rfl) ?_
      refine AWR.ent (Ent.of (σ' := [(8, (.s (.c (.pl 23 0)))), (9, (.s (.c (bC false))))]) (m' := [(0, (.prow 3 (([] : List Int).map encInt))), (1, (.prow 3 (([] : List Int).map encInt))), (2, (.prow 3 (([] : List Int).map encInt))), (23, (.row 140 [[.junk, .junk, .junk]]))]) ⟨rfl, rfl, trivial⟩ ⟨rfl, rfl, rfl, rfl, trivial⟩) ?_
      refine AWR.ret (FPost.mk (.inr rfl) ⟨⟨_, _, _, rfl, rfl, rfl, ag140, sz140, _, (infS inf140)⟩, rfl, trivial⟩ ⟨rfl, rfl, rfl, trivial⟩ rfl ⟨⟨trivial, trivial, trivial, trivial⟩, PermP.sc, trivial⟩ ⟨PermO.prow' perm_encInt, PermO.prow' perm_encInt, PermO.prow' perm_encInt, trivial⟩)
set_option maxRecDepth 100000 in
set_option maxHeartbeats 8000000 in
theorem w_spec_l4Gather (g : TGraph) (p : TPebbles) (a : Int) (b : Int) (want : Int) : ∀ t, m_spec_l4Gather g p a b want = some t → Fw.Fn Try.prog 206 [(.agg [(iC g.Points), (.pv (.xs false (g.Bars.map encTBar)))]), (.agg [(.pv (.xs false (p.Free.map encInt))), (.pv (.xs false (p.Tails.map encInt))), (.pv (.xs false (p.Placed.map encInt)))]), (.c (iC a)), (.c (iC b)), (.c (iC want))] [] (resA [(.agg [(.loc 0 0 t.1.Free.length), (.loc 1 0 t.1.Tails.length), (.loc 2 0 t.1.Placed.length)]), (.c (bC t.2))]) [(0, (.prow 3 (t.1.Free.map encInt))), (1, (.prow 3 (t.1.Tails.map encInt))), (2, (.prow 3 (t.1.Placed.map encInt)))] [] [0, 1, 2] := by
  refine Fw.Fn.of (P := Try.prog) (X := [0, 1, 2]) (pn := []) (rs := (fun (t : (TPebbles × Bool)) => [(.agg [(.loc 0 0 t.1.Free.length), (.loc 1 0 t.1.Tails.length), (.loc 2 0 t.1.Placed.length)]), (.c (bC t.2))])) (dfs := (fun (t : (TPebbles × Bool)) => [(0, (.prow 3 (t.1.Free.map encInt))), (1, (.prow 3 (t.1.Tails.map encInt))), (2, (.prow 3 (t.1.Placed.map encInt)))])) Try.func206 rfl Try.ntmps206 (Nat.le_of_ble_eq_true rfl) rfl ?_
  intro w0 U0 R0 g0
  unfold m_spec_l4Gather
  refine AWR.seq ?_
  refine AWR.region ?_
  refine AOR.step (LT.box (n := 21) (v := (.agg [(iC g.Points), (.pv (.xs false (g.Bars.map encTBar)))])) rfl sz26 (by exact rfl)) ⟨rfl, trivial⟩ trivial rfl rfl ?_
  refine AOR.step (LT.box (n := 22) (v := (.agg [(.pv (.xs false (p.Free.map encInt))), (.pv (.xs false (p.Tails.map encInt))), (.pv (.xs false (p.Placed.map encInt)))])) rfl sz140 (by exact rfl)) ⟨rfl, trivial⟩ trivial rfl rfl ?_
  refine AOR.step (LT.alloc (n := 23) (cells := [(sC nilV), (sC nilV), (sC nilV)]) rfl ti140 rfl rfl rfl) trivial trivial rfl rfl ?_
  refine AOR.pure (LT.assign (v := (.s (.c (bC false)))) rfl) ⟨⟨rfl, rfl⟩, trivial⟩ trivial rfl rfl ?_
  refine AOR.nil ?_
  refine AWR.seq ?_
  refine AWR.region ?_
  refine AOR.pure (LT.bloadN (out := [(.pv (.xs false (p.Free.map encInt))), (.pv (.xs false (p.Tails.map encInt))), (.pv (.xs false (p.Placed.map encInt)))]) rfl ag140 (infS inf140) sz140 (by exact rfl) (by exact rfl)) ⟨rfl, trivial⟩ ⟨rfl, trivial⟩ rfl rfl ?_
  refine AOR.bind fun r1 hr1 => ?_
  refine AOR.step (@LT.callF Try.prog _ _ 205 _ _ [(.agg [(.pv (.xs false (p.Free.map encInt))), (.pv (.xs false (p.Tails.map encInt))), (.pv (.xs false (p.Placed.map encInt)))])] _ _ [] _ _ _ _ ((show Fw.Fn Try.prog 205 [(.agg [(.pv (.xs false (p.Free.map encInt))), (.pv (.xs false (p.Tails.map encInt))), (.pv (.xs false (p.Placed.map encInt)))])] [] (.s (.agg [(.loc 25 0 r1.Free.length), (.loc 26 0 r1.Tails.length), (.loc 27 0 r1.Placed.length)])) [(25, (.prow 3 (r1.Free.map encInt))), (26, (.prow 3 (r1.Tails.map encInt))), (27, (.prow 3 (r1.Placed.map encInt)))] [] [25, 26, 27] from Fw.Fn.ren [(0, 25), (1, 26), (2, 27)] (w_spec_l4Copy p r1 hr1) rfl)) rfl cb205 (.cons (.agg (.cons (.same rfl) (.cons (.same rfl) (.cons (.same rfl) .nil)))) .nil) rfl rfl trivial) ⟨rfl, rfl, trivial⟩ trivial rfl rfl ?_
  refine AOR.step (LT.alloc (n := 28) (cells := [(sC nilV), (sC nilV), (sC nilV)]) rfl ti140 rfl rfl rfl) trivial trivial rfl rfl ?_
  refine AOR.step (LT.bstore (v := (.agg [(.loc 25 0 r1.Free.length), (.loc 26 0 r1.Tails.length), (.loc 27 0 r1.Placed.length)])) (out := [(.loc 25 0 r1.Free.length), (.loc 26 0 r1.Tails.length), (.loc 27 0 r1.Placed.length)]) rfl rfl (infS inf140) sz140 (by exact rfl) (by exact Nat.le_of_ble_eq_true rfl) (by exact rfl)) ⟨rfl, rfl, trivial⟩ ⟨rfl, trivial⟩ rfl rfl ?_
  refine AOR.nil ?_
  refine AWR.seq ?_
  refine AWR.block ?_
  refine AWR.loopR (id := 0) (m_spec_l4Gather_L1 g a b want) (fun s2 => ([(2, (.s (.c (iC a)))), (3, (.s (.c (iC b)))), (4, (.s (.c (iC want)))), (5, (.s (.c (.pl 21 0)))), (10, (.s (.c (.pl 23 0)))), (12, (.s (.c (.pl 28 0))))], [(21, (.row 26 [[(iC g.Points), (.pv (.xs false (g.Bars.map encTBar)))]])), (23, (.row 140 [[(sC nilV), (sC nilV), (sC nilV)]])), (25, (.prow 3 (s2.1.map encInt))), (26, (.prow 3 (s2.2.1.map encInt))), (27, (.prow 3 (s2.2.2.map encInt))), (28, (.row 140 [[(.loc 25 0 s2.1.length), (.loc 26 0 s2.2.1.length), (.loc 27 0 s2.2.2.length)]]))])) (fun b27 => ([(10, (.s (.c (.pl 23 0)))), (12, (.s (.c (.pl 28 0))))], [(23, (.row 140 [[(sC nilV), (sC nilV), (sC nilV)]])), (25, (.prow 3 (b27.1.map encInt))), (26, (.prow 3 (b27.2.1.map encInt))), (27, (.prow 3 (b27.2.2.map encInt))), (28, (.row 140 [[(.loc 25 0 b27.1.length), (.loc 26 0 b27.2.1.length), (.loc 27 0 b27.2.2.length)]]))])) (FPost Try.prog Try.f206.results.toList [] [0, 1, 2] (fun (t : (TPebbles × Bool)) => [(.agg [(.loc 0 0 t.1.Free.length), (.loc 1 0 t.1.Tails.length), (.loc 2 0 t.1.Placed.length)]), (.c (bC t.2))]) (fun (t : (TPebbles × Bool)) => [(0, (.prow 3 (t.1.Free.map encInt))), (1, (.prow 3 (t.1.Tails.map encInt))), (2, (.prow 3 (t.1.Placed.map encInt)))])) ?_ (Ent.of ⟨rfl, rfl, rfl, rfl, rfl, rfl, trivial⟩ ⟨rfl, rfl, rfl, rfl, rfl, rfl, trivial⟩) rfl (fun b27 _ => ?_) (by intro r t σ m ht hk; injection ht with ht; subst ht; exact hk)
  · intro s2
    unfold m_spec_l4Gather_L1
    refine AWR.seq ?_
    refine AWR.seq ?_
    refine AWR.draw mixed ?_
    refine AOD.pure (LT.fieldPl rfl fo140_0) ⟨rfl, trivial⟩ trivial rfl rfl ?_
    refine AOD.pure (LT.bload1 (c := (.loc 25 0 s2.1.length)) rfl ag37 (by exact rfl)) ⟨rfl, trivial⟩ ⟨rfl, trivial⟩ rfl rfl ?_
    refine AOD.pure (LT.move (v := (.s (.c (iC a)))) rfl) ⟨rfl, trivial⟩ trivial rfl rfl ?_
    refine AOD.bind fun x28 hx28 => ?_
    refine AOD.pure (LT.tindexLoc rfl rfl el37 hx28) ⟨rfl, rfl, trivial⟩ ⟨rfl, trivial⟩ rfl rfl ?_
    refine AOD.pure (LT.tload1 (k := 0) rfl ag3 hx28 (by exact rfl) (by exact rfl)) ⟨rfl, trivial⟩ ⟨rfl, trivial⟩ rfl rfl ?_
    refine AOD.pure (LT.fieldPl rfl fo140_0) ⟨rfl, trivial⟩ trivial rfl rfl ?_
    refine AOD.pure (LT.bload1 (c := (.loc 25 0 s2.1.length)) rfl ag37 (by exact rfl)) ⟨rfl, trivial⟩ ⟨rfl, trivial⟩ rfl rfl ?_
    refine AOD.pure (LT.move (v := (.s (.c (iC b)))) rfl) ⟨rfl, trivial⟩ trivial rfl rfl ?_
    refine AOD.bind fun x29 hx29 => ?_
    refine AOD.pure (LT.tindexLoc rfl rfl el37 hx29) ⟨rfl, rfl, trivial⟩ ⟨rfl, trivial⟩ rfl rfl ?_
    refine AOD.pure (LT.tload1 (k := 0) rfl ag3 hx29 (by exact rfl) (by exact rfl)) ⟨rfl, trivial⟩ ⟨rfl, trivial⟩ rfl rfl ?_
    refine AOD.pure (LT.add rfl) ⟨rfl, rfl, trivial⟩ trivial rfl rfl ?_
    refine AOD.pure (LT.move (v := (.s (.c (iC want)))) rfl) ⟨rfl, trivial⟩ trivial rfl rfl ?_
    refine AOD.pure (LT.lss rfl) ⟨rfl, rfl, trivial⟩ trivial rfl rfl ?_
    refine AOD.nil (by kernel_rfl) ?_
    refine AWR.cond rfl (fun hc30 => ?_) (fun hc30 => ?_)
    · refine AWR.skip ?_
      refine AWR.block ?_
      refine AWR.seq ?_
      refine AWR.ent (Ent.of (σ' := [(2, (.s (.c (iC a)))), (3, (.s (.c (iC b)))), (4, (.s (.c (iC want)))), (5, (.s (.c (.pl 21 0)))), (10, (.s (.c (.pl 23 0)))), (12, (.s (.c (.pl 28 0))))]) (m' := [(21, (.row 26 [[(iC g.Points), (.pv (.xs false (g.Bars.map encTBar)))]])), (23, (.row 140 [[(sC nilV), (sC nilV), (sC nilV)]])), (25, (.prow 3 (s2.1.map encInt))), (26, (.prow 3 (s2.2.1.map encInt))), (27, (.prow 3 (s2.2.2.map encInt))), (28, (.row 140 [[(.loc 25 0 s2.1.length), (.loc 26 0 s2.2.1.length), (.loc 27 0 s2.2.2.length)]]))]) ⟨rfl, rfl, rfl, rfl, rfl, rfl, trivial⟩ ⟨rfl, rfl, rfl, rfl, rfl, rfl, trivial⟩) ?_
      refine AWR.region ?_
      refine AOR.pure (LT.bloadN (out := [(iC g.Points), (.pv (.xs false (g.Bars.map encTBar)))]) rfl ag26 (infS inf26) sz26 (by exact rfl) (by exact rfl)) ⟨rfl, trivial⟩ ⟨rfl, trivial⟩ rfl rfl ?_
      refine AOR.pure (LT.bloadN (out := [(.loc 25 0 s2.1.length), (.loc 26 0 s2.2.1.length), (.loc 27 0 s2.2.2.length)]) rfl ag140 (infS inf140) sz140 (by exact rfl) (by exact rfl)) ⟨rfl, trivial⟩ ⟨rfl, trivial⟩ rfl rfl ?_
      refine AOR.pure (LT.move (v := (.s (.c (iC a)))) rfl) ⟨rfl, trivial⟩ trivial rfl rfl ?_
      refine AOR.pure (LT.move (v := (.s (.c (iC b)))) rfl) ⟨rfl, trivial⟩ trivial rfl rfl ?_
      refine AOR.bind fun r31 hr31 => ?_
      refine AOR.split (fun hb32 => ?_) (fun hb32 => ?_)
      · refine AOR.step (@LT.callF Try.prog _ _ 211 _ _ [(.agg [(iC g.Points), (.pv (.xs false (g.Bars.map encTBar)))]), (.agg [(.loc 25 0 s2.1.length), (.loc 26 0 s2.2.1.length), (.loc 27 0 s2.2.2.length)]), (.c (iC a)), (.c (iC b))] _ _ [(25, (.prow 3 (s2.1.map encInt))), (26, (.prow 3 (s2.2.1.map encInt))), (27, (.prow 3 (s2.2.2.map encInt)))] _ _ _ _ ((show Fw.Fn Try.prog 211 [(.agg [(iC g.Points), (.pv (.xs false (g.Bars.map encTBar)))]), (.agg [(.pv (.xs false (((TPebbles.mk s2.1 s2.2.1 s2.2.2).Free).map encInt))), (.pv (.xs false (((TPebbles.mk s2.1 s2.2.1 s2.2.2).Tails).map encInt))), (.pv (.xs false (((TPebbles.mk s2.1 s2.2.1 s2.2.2).Placed).map encInt)))]), (.c (iC a)), (.c (iC b))] [] (.tup [(.agg [(.loc 30 0 r31.1.Free.length), (.loc 31 0 r31.1.Tails.length), (.loc 32 0 r31.1.Placed.length)]), (.c (bC true))]) [(30, (.prow 3 (r31.1.Free.map encInt))), (31, (.prow 3 (r31.1.Tails.map encInt))), (32, (.prow 3 (r31.1.Placed.map encInt)))] [] [30, 31, 32] from Fw.Fn.ren [(0, 30), (1, 31), (2, 32)] ((by have q := w_spec_l4Find g (TPebbles.mk s2.1 s2.2.1 s2.2.2) a b r31 hr31; rw [hb32] at q; exact q)) rfl)) rfl cb211 (.cons (.agg (.cons (.same rfl) (.cons (.same rfl) .nil))) (.cons (.agg (.cons (.tloc rfl rfl) (.cons (.tloc rfl rfl) (.cons (.tloc rfl rfl) .nil)))) (.cons (.c (.same rfl)) (.cons (.c (.same rfl)) .nil)))) rfl rfl trivial) ⟨rfl, rfl, rfl, rfl, rfl, trivial⟩ ⟨rfl, rfl, rfl, trivial⟩ rfl rfl ?_
        refine AOR.pure (LT.move (v := (.tup [(.agg [(.loc 30 0 r31.1.Free.length), (.loc 31 0 r31.1.Tails.length), (.loc 32 0 r31.1.Placed.length)]), (.c (bC true))])) rfl) ⟨rfl, trivial⟩ trivial rfl rfl ?_
        refine AOR.pure (LT.extract (v := (.agg [(.loc 30 0 r31.1.Free.length), (.loc 31 0 r31.1.Tails.length), (.loc 32 0 r31.1.Placed.length)])) rfl (by exact rfl)) ⟨rfl, trivial⟩ trivial rfl rfl ?_
        refine AOR.pure (LT.extract (v := (.c (bC true))) rfl (by exact rfl)) ⟨rfl, trivial⟩ trivial rfl rfl ?_
        refine AOR.step (LT.alloc (n := 33) (cells := [(sC nilV), (sC nilV), (sC nilV)]) rfl ti140 rfl rfl rfl) trivial trivial rfl rfl ?_
        refine AOR.step (LT.bstore (v := (.agg [(.loc 30 0 r31.1.Free.length), (.loc 31 0 r31.1.Tails.length), (.loc 32 0 r31.1.Placed.length)])) (out := [(.loc 30 0 r31.1.Free.length), (.loc 31 0 r31.1.Tails.length), (.loc 32 0 r31.1.Placed.length)]) rfl rfl (infS inf140) sz140 (by exact rfl) (by exact Nat.le_of_ble_eq_true rfl) (by exact rfl)) ⟨rfl, rfl, trivial⟩ ⟨rfl, trivial⟩ rfl rfl ?_
        refine AOR.pure (LT.assign (v := (.s (.c (bC true)))) rfl) ⟨rfl, trivial⟩ trivial rfl rfl ?_
        refine AOR.nil ?_
        refine AWR.seq ?_
        refine AWR.seq ?_
        refine AWR.ent (Ent.of (σ' := [(2, (.s (.c (iC a)))), (3, (.s (.c (iC b)))), (4, (.s (.c (iC want)))), (5, (.s (.c (.pl 21 0)))), (10, (.s (.c (.pl 23 0)))), (12, (.s (.c (.pl 28 0)))), (13, (.s (.c (.pl 33 0)))), (14, (.s (.c (bC true))))]) (m' := [(21, (.row 26 [[(iC g.Points), (.pv (.xs false (g.Bars.map encTBar)))]])), (23, (.row 140 [[(sC nilV), (sC nilV), (sC nilV)]])), (25, (.prow 3 (s2.1.map encInt))), (26, (.prow 3 (s2.2.1.map encInt))), (27, (.prow 3 (s2.2.2.map encInt))), (28, (.row 140 [[(.loc 25 0 s2.1.length), (.loc 26 0 s2.2.1.length), (.loc 27 0 s2.2.2.length)]])), (30, (.prow 3 (r31.1.Free.map encInt))), (31, (.prow 3 (r31.1.Tails.map encInt))), (32, (.prow 3 (r31.1.Placed.map encInt))), (33, (.row 140 [[(.loc 30 0 r31.1.Free.length), (.loc 31 0 r31.1.Tails.length), (.loc 32 0 r31.1.Placed.length)]]))]) ⟨rfl, rfl, rfl, rfl, rfl, rfl, rfl, rfl, trivial⟩ ⟨rfl, rfl, rfl, rfl, rfl, rfl, rfl, rfl, rfl, rfl, trivial⟩) ?_
        refine AWR.region ?_
        refine AOR.pure (LT.move (v := (.s (.c (bC true)))) rfl) ⟨rfl, trivial⟩ trivial rfl rfl ?_
        refine AOR.pure (LT.not rfl) ⟨rfl, trivial⟩ trivial rfl rfl ?_
        refine AOR.nil ?_
        refine AWR.cond rfl (fun hc33 => ?_) (fun hc33 => ?_)
        · exact AWR.none
        · refine AWR.skip ?_
          refine AWR.seq ?_
          refine AWR.seq ?_
          refine AWR.region ?_
          refine AOR.pure (LT.move (v := (.s (.c (bC true)))) rfl) ⟨rfl, trivial⟩ trivial rfl rfl ?_
          refine AOR.pure (LT.not rfl) ⟨rfl, trivial⟩ trivial rfl rfl ?_
          refine AOR.nil ?_
          refine AWR.cond rfl (fun hc34 => ?_) (fun hc34 => ?_)
          · exact AWR.none
          · refine AWR.skip ?_
            refine AWR.region ?_
            refine AOR.pure (LT.bloadN (out := [(.loc 30 0 r31.1.Free.length), (.loc 31 0 r31.1.Tails.length), (.loc 32 0 r31.1.Placed.length)]) rfl ag140 (infS inf140) sz140 (by exact rfl) (by exact rfl)) ⟨rfl, trivial⟩ ⟨rfl, trivial⟩ rfl rfl ?_
            refine AOR.step (LT.bstore (v := (.agg [(.loc 30 0 r31.1.Free.length), (.loc 31 0 r31.1.Tails.length), (.loc 32 0 r31.1.Placed.length)])) (out := [(.loc 30 0 r31.1.Free.length), (.loc 31 0 r31.1.Tails.length), (.loc 32 0 r31.1.Placed.length)]) rfl rfl (infS inf140) sz140 (by exact rfl) (by exact Nat.le_of_ble_eq_true rfl) (by exact rfl)) ⟨rfl, rfl, trivial⟩ ⟨rfl, trivial⟩ rfl rfl ?_
            refine AOR.nil ?_
            refine AWR.blk ?_
            refine AWR.ent (Ent.of (σ' := [(2, (.s (.c (iC a)))), (3, (.s (.c (iC b)))), (4, (.s (.c (iC want)))), (5, (.s (.c (.pl 21 0)))), (10, (.s (.c (.pl 23 0)))), (12, (.s (.c (.pl 28 0))))]) (m' := [(21, (.row 26 [[(iC g.Points), (.pv (.xs false (g.Bars.map encTBar)))]])), (23, (.row 140 [[(sC nilV), (sC nilV), (sC nilV)]])), (28, (.row 140 [[(.loc 30 0 r31.1.Free.length), (.loc 31 0 r31.1.Tails.length), (.loc 32 0 r31.1.Placed.length)]])), (30, (.prow 3 (r31.1.Free.map encInt))), (31, (.prow 3 (r31.1.Tails.map encInt))), (32, (.prow 3 (r31.1.Placed.map encInt)))]) ⟨rfl, rfl, rfl, rfl, rfl, rfl, trivial⟩ ⟨rfl, rfl, rfl, rfl, rfl, rfl, trivial⟩) ?_
            refine AWR.ent (Ent.mv 30 25 rfl rfl) ?_
            refine AWR.ent (Ent.mv 31 26 rfl rfl) ?_
            refine AWR.ent (Ent.mv 32 27 rfl rfl) ?_
            refine AWR.nil ⟨rfl, Ent.of ⟨rfl, rfl, rfl, rfl, rfl, rfl, trivial⟩ ⟨rfl, rfl, rfl, rfl, rfl, rfl, trivial⟩⟩
      · refine AOR.step (@LT.callF Try.prog _ _ 211 _ _ [(.agg [(iC g.Points), (.pv (.xs false (g.Bars.map encTBar)))]), (.agg [(.loc 25 0 s2.1.length), (.loc 26 0 s2.2.1.length), (.loc 27 0 s2.2.2.length)]), (.c (iC a)), (.c (iC b))] _ _ [(25, (.prow 3 (s2.1.map encInt))), (26, (.prow 3 (s2.2.1.map encInt))), (27, (.prow 3 (s2.2.2.map encInt)))] _ _ _ _ ((show Fw.Fn Try.prog 211 [(.agg [(iC g.Points), (.pv (.xs false (g.Bars.map encTBar)))]), (.agg [(.pv (.xs false (((TPebbles.mk s2.1 s2.2.1 s2.2.2).Free).map encInt))), (.pv (.xs false (((TPebbles.mk s2.1 s2.2.1 s2.2.2).Tails).map encInt))), (.pv (.xs false (((TPebbles.mk s2.1 s2.2.1 s2.2.2).Placed).map encInt)))]), (.c (iC a)), (.c (iC b))] [] (.tup [(.agg [.junk, .junk, .junk]), (.c (bC false))]) [(30, (.prow 3 (([] : List Int).map encInt))), (31, (.prow 3 (([] : List Int).map encInt))), (32, (.prow 3 (([] : List Int).map encInt)))] [] [30, 31, 32] from Fw.Fn.ren [(0, 30), (1, 31), (2, 32)] ((by have q := w_spec_l4Find g (TPebbles.mk s2.1 s2.2.1 s2.2.2) a b r31 hr31; rw [hb32] at q; exact q)) rfl)) rfl cb211 (.cons (.agg (.cons (.same rfl) (.cons (.same rfl) .nil))) (.cons (.agg (.cons (.tloc rfl rfl) (.cons (.tloc rfl rfl) (.cons (.tloc rfl rfl) .nil)))) (.cons (.c (.same rfl)) (.cons (.c (.same rfl)) .nil)))) rfl rfl trivial) ⟨rfl, rfl, rfl, rfl, rfl, trivial⟩ ⟨rfl, rfl, rfl, trivial⟩ rfl rfl ?_
        refine AOR.pure (LT.move (v := (.tup [(.agg [.junk, .junk, .junk]), (.c (bC false))])) rfl) ⟨rfl, trivial⟩ trivial rfl rfl ?_
        refine AOR.pure (LT.extract (v := (.agg [.junk, .junk, .junk])) rfl (by exact rfl)) ⟨rfl, trivial⟩ trivial rfl rfl ?_
        refine AOR.pure (LT.extract (v := (.c (bC false))) rfl (by exact rfl)) ⟨rfl, trivial⟩ trivial rfl rfl ?_
        refine AOR.step (LT.alloc (n := 33) (cells := [(sC nilV), (sC nilV), (sC nilV)]) rfl ti140 rfl rfl rfl) trivial trivial rfl rfl ?_
        refine AOR.step (LT.bstore (v := (.agg [.junk, .junk, .junk])) (out := [.junk, .junk, .junk]) rfl rfl (infS inf140) sz140 (by exact rfl) (by exact Nat.le_of_ble_eq_true rfl) (by exact rfl)) ⟨rfl, rfl, trivial⟩ ⟨rfl, trivial⟩ rfl rfl ?_
        refine AOR.pure (LT.assign (v := (.s (.c (bC false)))) rfl) ⟨rfl, trivial⟩ trivial rfl rfl ?_
        refine AOR.nil ?_
        refine AWR.seq ?_
        refine AWR.seq ?_
        refine AWR.ent (Ent.of (σ' := [(2, (.s (.c (iC a)))), (3, (.s (.c (iC b)))), (4, (.s (.c (iC want)))), (5, (.s (.c (.pl 21 0)))), (10, (.s (.c (.pl 23 0)))), (12, (.s (.c (.pl 28 0)))), (13, (.s (.c (.pl 33 0)))), (14, (.s (.c (bC false))))]) (m' := [(21, (.row 26 [[(iC g.Points), (.pv (.xs false (g.Bars.map encTBar)))]])), (23, (.row 140 [[(sC nilV), (sC nilV), (sC nilV)]])), (25, (.prow 3 (s2.1.map encInt))), (26, (.prow 3 (s2.2.1.map encInt))), (27, (.prow 3 (s2.2.2.map encInt))), (28, (.row 140 [[(.loc 25 0 s2.1.length), (.loc 26 0 s2.2.1.length), (.loc 27 0 s2.2.2.length)]])), (33, (.row 140 [[.junk, .junk, .junk]]))]) ⟨rfl, rfl, rfl, rfl, rfl, rfl, rfl, rfl, trivial⟩ ⟨rfl, rfl, rfl, rfl, rfl, rfl, rfl, trivial⟩) ?_
        refine AWR.region ?_
        refine AOR.pure (LT.move (v := (.s (.c (bC false)))) rfl) ⟨rfl, trivial⟩ trivial rfl rfl ?_
        refine AOR.pure (LT.not rfl) ⟨rfl, trivial⟩ trivial rfl rfl ?_
        refine AOR.nil ?_
        refine AWR.cond rfl (fun hc35 => ?_) (fun hc35 => ?_)
        · refine AWR.region ?_
          refine AOR.pure (LT.bloadN (out := [(iC g.Points), (.pv (.xs false (g.Bars.map encTBar)))]) rfl ag26 (infS inf26) sz26 (by exact rfl) (by exact rfl)) ⟨rfl, trivial⟩ ⟨rfl, trivial⟩ rfl rfl ?_
          refine AOR.pure (LT.bloadN (out := [(.loc 25 0 s2.1.length), (.loc 26 0 s2.2.1.length), (.loc 27 0 s2.2.2.length)]) rfl ag140 (infS inf140) sz140 (by exact rfl) (by exact rfl)) ⟨rfl, trivial⟩ ⟨rfl, trivial⟩ rfl rfl ?_
          refine AOR.pure (LT.move (v := (.s (.c (iC b)))) rfl) ⟨rfl, trivial⟩ trivial rfl rfl ?_
          refine AOR.pure (LT.move (v := (.s (.c (iC a)))) rfl) ⟨rfl, trivial⟩ trivial rfl rfl ?_
          refine AOR.bind fun r36 hr36 => ?_
          refine AOR.split (fun hb37 => ?_) (fun hb37 => ?_)
          · refine AOR.step (@LT.callF Try.prog _ _ 211 _ _ [(.agg [(iC g.Points), (.pv (.xs false (g.Bars.map encTBar)))]), (.agg [(.loc 25 0 s2.1.length), (.loc 26 0 s2.2.1.length), (.loc 27 0 s2.2.2.length)]), (.c (iC b)), (.c (iC a))] _ _ [(25, (.prow 3 (s2.1.map encInt))), (26, (.prow 3 (s2.2.1.map encInt))), (27, (.prow 3 (s2.2.2.map encInt)))] _ _ _ _ ((show Fw.Fn Try.prog 211 [(.agg [(iC g.Points), (.pv (.xs false (g.Bars.map encTBar)))]), (.agg [(.pv (.xs false (((TPebbles.mk s2.1 s2.2.1 s2.2.2).Free).map encInt))), (.pv (.xs false (((TPebbles.mk s2.1 s2.2.1 s2.2.2).Tails).map encInt))), (.pv (.xs false (((TPebbles.mk s2.1 s2.2.1 s2.2.2).Placed).map encInt)))]), (.c (iC b)), (.c (iC a))] [] (.tup [(.agg [(.loc 35 0 r36.1.Free.length), (.loc 36 0 r36.1.Tails.length), (.loc 37 0 r36.1.Placed.length)]), (.c (bC true))]) [(35, (.prow 3 (r36.1.Free.map encInt))), (36, (.prow 3 (r36.1.Tails.map encInt))), (37, (.prow 3 (r36.1.Placed.map encInt)))] [] [35, 36, 37] from Fw.Fn.ren [(0, 35), (1, 36), (2, 37)] ((by have q := w_spec_l4Find g (TPebbles.mk s2.1 s2.2.1 s2.2.2) b a r36 hr36; rw [hb37] at q; exact q)) rfl)) rfl cb211 (.cons (.agg (.cons (.same rfl) (.cons (.same rfl) .nil))) (.cons (.agg (.cons (.tloc rfl rfl) (.cons (.tloc rfl rfl) (.cons (.tloc rfl rfl) .nil)))) (.cons (.c (.same rfl)) (.cons (.c (.same rfl)) .nil)))) rfl rfl trivial) ⟨rfl, rfl, rfl, rfl, rfl, trivial⟩ ⟨rfl, rfl, rfl, trivial⟩ rfl rfl ?_
            refine AOR.pure (LT.move (v := (.tup [(.agg [(.loc 35 0 r36.1.Free.length), (.loc 36 0 r36.1.Tails.length), (.loc 37 0 r36.1.Placed.length)]), (.c (bC true))])) rfl) ⟨rfl, trivial⟩ trivial rfl rfl ?_
            refine AOR.pure (LT.extract (v := (.agg [(.loc 35 0 r36.1.Free.length), (.loc 36 0 r36.1.Tails.length), (.loc 37 0 r36.1.Placed.length)])) rfl (by exact rfl)) ⟨rfl, trivial⟩ trivial rfl rfl ?_
            refine AOR.pure (LT.extract (v := (.c (bC true))) rfl (by exact rfl)) ⟨rfl, trivial⟩ trivial rfl rfl ?_
            refine AOR.step (LT.bstore (v := (.agg [(.loc 35 0 r36.1.Free.length), (.loc 36 0 r36.1.Tails.length), (.loc 37 0 r36.1.Placed.length)])) (out := [(.loc 35 0 r36.1.Free.length), (.loc 36 0 r36.1.Tails.length), (.loc 37 0 r36.1.Placed.length)]) rfl rfl (infS inf140) sz140 (by exact rfl) (by exact Nat.le_of_ble_eq_true rfl) (by exact rfl)) ⟨rfl, rfl, trivial⟩ ⟨rfl, trivial⟩ rfl rfl ?_
            refine AOR.pure (LT.assign (v := (.s (.c (bC true)))) rfl) ⟨rfl, trivial⟩ trivial rfl rfl ?_
            refine AOR.nil ?_
            refine AWR.seq ?_
            refine AWR.seq ?_
            refine AWR.ent (Ent.of (σ' := [(2, (.s (.c (iC a)))), (3, (.s (.c (iC b)))), (4, (.s (.c (iC want)))), (5, (.s (.c (.pl 21 0)))), (10, (.s (.c (.pl 23 0)))), (12, (.s (.c (.pl 28 0)))), (13, (.s (.c (.pl 33 0)))), (14, (.s (.c (bC true))))]) (m' := [(21, (.row 26 [[(iC g.Points), (.pv (.xs false (g.Bars.map encTBar)))]])), (23, (.row 140 [[(sC nilV), (sC nilV), (sC nilV)]])), (25, (.prow 3 (s2.1.map encInt))), (26, (.prow 3 (s2.2.1.map encInt))), (27, (.prow 3 (s2.2.2.map encInt))), (28, (.row 140 [[(.loc 25 0 s2.1.length), (.loc 26 0 s2.2.1.length), (.loc 27 0 s2.2.2.length)]])), (33, (.row 140 [[(.loc 35 0 r36.1.Free.length), (.loc 36 0 r36.1.Tails.length), (.loc 37 0 r36.1.Placed.length)]])), (35, (.prow 3 (r36.1.Free.map encInt))), (36, (.prow 3 (r36.1.Tails.map encInt))), (37, (.prow 3 (r36.1.Placed.map encInt)))]) ⟨rfl, rfl, rfl, rfl, rfl, rfl, rfl, rfl, trivial⟩ ⟨rfl, rfl, rfl, rfl, rfl, rfl, rfl, rfl, rfl, rfl, trivial⟩) ?_
            refine AWR.region ?_
            refine AOR.pure (LT.move (v := (.s (.c (bC true)))) rfl) ⟨rfl, trivial⟩ trivial rfl rfl ?_
            refine AOR.pure (LT.not rfl) ⟨rfl, trivial⟩ trivial rfl rfl ?_
            refine AOR.nil ?_
            refine AWR.cond rfl (fun hc38 => ?_) (fun hc38 => ?_)
            · exact AWR.none
            · refine AWR.skip ?_
              refine AWR.region ?_
              refine AOR.pure (LT.bloadN (out := [(.loc 35 0 r36.1.Free.length), (.loc 36 0 r36.1.Tails.length), (.loc 37 0 r36.1.Placed.length)]) rfl ag140 (infS inf140) sz140 (by exact rfl) (by exact rfl)) ⟨rfl, trivial⟩ ⟨rfl, trivial⟩ rfl rfl ?_
              refine AOR.step (LT.bstore (v := (.agg [(.loc 35 0 r36.1.Free.length), (.loc 36 0 r36.1.Tails.length), (.loc 37 0 r36.1.Placed.length)])) (out := [(.loc 35 0 r36.1.Free.length), (.loc 36 0 r36.1.Tails.length), (.loc 37 0 r36.1.Placed.length)]) rfl rfl (infS inf140) sz140 (by exact rfl) (by exact Nat.le_of_ble_eq_true rfl) (by exact rfl)) ⟨rfl, rfl, trivial⟩ ⟨rfl, trivial⟩ rfl rfl ?_
              refine AOR.nil ?_
              refine AWR.blk ?_
              refine AWR.ent (Ent.of (σ' := [(2, (.s (.c (iC a)))), (3, (.s (.c (iC b)))), (4, (.s (.c (iC want)))), (5, (.s (.c (.pl 21 0)))), (10, (.s (.c (.pl 23 0)))), (12, (.s (.c (.pl 28 0))))]) (m' := [(21, (.row 26 [[(iC g.Points), (.pv (.xs false (g.Bars.map encTBar)))]])), (23, (.row 140 [[(sC nilV), (sC nilV), (sC nilV)]])), (28, (.row 140 [[(.loc 35 0 r36.1.Free.length), (.loc 36 0 r36.1.Tails.length), (.loc 37 0 r36.1.Placed.length)]])), (35, (.prow 3 (r36.1.Free.map encInt))), (36, (.prow 3 (r36.1.Tails.map encInt))), (37, (.prow 3 (r36.1.Placed.map encInt)))]) ⟨rfl, rfl, rfl, rfl, rfl, rfl, trivial⟩ ⟨rfl, rfl, rfl, rfl, rfl, rfl, trivial⟩) ?_
              refine AWR.ent (Ent.mv 35 25 rfl rfl) ?_
              refine AWR.ent (Ent.mv 36 26 rfl rfl) ?_
              refine AWR.ent (Ent.mv 37 27 rfl rfl) ?_
              refine AWR.nil ⟨rfl, Ent.of ⟨rfl, rfl, rfl, rfl, rfl, rfl, trivial⟩ ⟨rfl, rfl, rfl, rfl, rfl, rfl, trivial⟩⟩
          · refine AOR.step (@LT.callF Try.prog _ _ 211 _ _ [(.agg [(iC g.Points), (.pv (.xs false (g.Bars.map encTBar)))]), (.agg [(.loc 25 0 s2.1.length), (.loc 26 0 s2.2.1.length), (.loc 27 0 s2.2.2.length)]), (.c (iC b)), (.c (iC a))] _ _ [(25, (.prow 3 (s2.1.map encInt))), (26, (.prow 3 (s2.2.1.map encInt))), (27, (.prow 3 (s2.2.2.map encInt)))] _ _ _ _ ((show Fw.Fn Try.prog 211 [(.agg [(iC g.Points), (.pv (.xs false (g.Bars.map encTBar)))]), (.agg [(.pv (.xs false (((TPebbles.mk s2.1 s2.2.1 s2.2.2).Free).map encInt))), (.pv (.xs false (((TPebbles.mk s2.1 s2.2.1 s2.2.2).Tails).map encInt))), (.pv (.xs false (((TPebbles.mk s2.1 s2.2.1 s2.2.2).Placed).map encInt)))]), (.c (iC b)), (.c (iC a))] [] (.tup [(.agg [.junk, .junk, .junk]), (.c (bC false))]) [(35, (.prow 3 (([] : List Int).map encInt))), (36, (.prow 3 (([] : List Int).map encInt))), (37, (.prow 3 (([] : List Int).map encInt)))] [] [35, 36, 37] from Fw.Fn.ren [(0, 35), (1, 36), (2, 37)] ((by have q := w_spec_l4Find g (TPebbles.mk s2.1 s2.2.1 s2.2.2) b a r36 hr36; rw [hb37] at q; exact q)) rfl)) rfl cb211 (.cons (.agg (.cons (.same rfl) (.cons (.same rfl) .nil))) (.cons (.agg (.cons (.tloc rfl rfl) (.cons (.tloc rfl rfl) (.cons (.tloc rfl rfl) .nil)))) (.cons (.c (.same rfl)) (.cons (.c (.same rfl)) .nil)))) rfl rfl trivial) ⟨rfl, rfl, rfl, rfl, rfl, trivial⟩ ⟨rfl, rfl, rfl, trivial⟩ rfl rfl ?_
            refine AOR.pure (LT.move (v := (.tup [(.agg [.junk, .junk, .junk]), (.c (bC false))])) rfl) ⟨rfl, trivial⟩ trivial rfl rfl ?_
            refine AOR.pure (LT.extract (v := (.agg [.junk, .junk, .junk])) rfl (by exact rfl)) ⟨rfl, trivial⟩ trivial rfl rfl ?_
            refine AOR.pure (LT.extract (v := (.c (bC false))) rfl (by exact rfl)) ⟨rfl, trivial⟩ trivial rfl rfl ?_
            refine AOR.step (LT.bstore (v := (.agg [.junk, .junk, .junk])) (out := [.junk, .junk, .junk]) rfl rfl (infS inf140) sz140 (by exact rfl) (by exact Nat.le_of_ble_eq_true rfl) (by exact rfl)) ⟨rfl, rfl, trivial⟩ ⟨rfl, trivial⟩ rfl rfl ?_
            refine AOR.pure (LT.assign (v := (.s (.c (bC false)))) rfl) ⟨rfl, trivial⟩ trivial rfl rfl ?_
            refine AOR.nil ?_
            refine AWR.seq ?_
            refine AWR.seq ?_
            refine AWR.ent (Ent.of (σ' := [(2, (.s (.c (iC a)))), (3, (.s (.c (iC b)))), (4, (.s (.c (iC want)))), (5, (.s (.c (.pl 21 0)))), (10, (.s (.c (.pl 23 0)))), (12, (.s (.c (.pl 28 0)))), (13, (.s (.c (.pl 33 0)))), (14, (.s (.c (bC false))))]) (m' := [(21, (.row 26 [[(iC g.Points), (.pv (.xs false (g.Bars.map encTBar)))]])), (23, (.row 140 [[(sC nilV), (sC nilV), (sC nilV)]])), (25, (.prow 3 (s2.1.map encInt))), (26, (.prow 3 (s2.2.1.map encInt))), (27, (.prow 3 (s2.2.2.map encInt))), (28, (.row 140 [[(.loc 25 0 s2.1.length), (.loc 26 0 s2.2.1.length), (.loc 27 0 s2.2.2.length)]])), (33, (.row 140 [[.junk, .junk, .junk]]))]) ⟨rfl, rfl, rfl, rfl, rfl, rfl, rfl, rfl, trivial⟩ ⟨rfl, rfl, rfl, rfl, rfl, rfl, rfl, trivial⟩) ?_
            refine AWR.region ?_
            refine AOR.pure (LT.move (v := (.s (.c (bC false)))) rfl) ⟨rfl, trivial⟩ trivial rfl rfl ?_
            refine AOR.pure (LT.not rfl) ⟨rfl, trivial⟩ trivial rfl rfl ?_
            refine AOR.nil ?_
            refine AWR.cond rfl (fun hc39 => ?_) (fun hc39 => ?_)
            · refine AWR.seq ?_
              refine AWR.region ?_
              refine AOR.pure (LT.bloadN (out := [(.loc 25 0 s2.1.length), (.loc 26 0 s2.2.1.length), (.loc 27 0 s2.2.2.length)]) rfl ag140 (infS inf140) sz140 (by exact rfl) (by exact rfl)) ⟨rfl, trivial⟩ ⟨rfl, trivial⟩ rfl rfl ?_
              refine AOR.step (LT.bstore (v := (.agg [(.loc 25 0 s2.1.length), (.loc 26 0 s2.2.1.length), (.loc 27 0 s2.2.2.length)])) (out := [(.loc 25 0 s2.1.length), (.loc 26 0 s2.2.1.length), (.loc 27 0 s2.2.2.length)]) rfl rfl (infS inf140) sz140 (by exact rfl) (by exact Nat.le_of_ble_eq_true rfl) (by exact rfl)) ⟨rfl, rfl, trivial⟩ ⟨rfl, trivial⟩ rfl rfl ?_
              refine AOR.pure (LT.assign (v := (.s (.c (bC false)))) rfl) ⟨⟨rfl, rfl⟩, trivial⟩ trivial rfl rfl ?_
              refine AOR.nil ?_
              refine AWR.ent (Ent.of (σ' := [(10, (.s (.c (.pl 23 0)))), (11, (.s (.c (bC false))))]) (m' := [(23, (.row 140 [[(.loc 25 0 s2.1.length), (.loc 26 0 s2.2.1.length), (.loc 27 0 s2.2.2.length)]])), (25, (.prow 3 (s2.1.map encInt))), (26, (.prow 3 (s2.2.1.map encInt))), (27, (.prow 3 (s2.2.2.map encInt)))]) ⟨rfl, rfl, trivial⟩ ⟨rfl, rfl, rfl, rfl, trivial⟩) ?_
              refine AWR.ent (Ent.mv 25 0 rfl rfl) ?_
              refine AWR.ent (Ent.mv 26 1 rfl rfl) ?_
              refine AWR.ent (Ent.mv 27 2 rfl rfl) ?_
              refine AWR.ent (Ent.of (σ' := [(10, (.s (.c (.pl 23 0)))), (11, (.s (.c (bC false))))]) (m' := [(0, (.prow 3 (s2.1.map encInt))), (1, (.prow 3 (s2.2.1.map encInt))), (2, (.prow 3 (s2.2.2.map encInt))), (23, (.row 140 [[(.loc 0 0 s2.1.length), (.loc 1 0 s2.2.1.length), (.loc 2 0 s2.2.2.length)]]))]) ⟨rfl, rfl, trivial⟩ ⟨rfl, rfl, rfl, rfl, trivial⟩) ?_
              refine AWR.ret ⟨rfl, FPost.mk (.inr rfl) ⟨⟨_, _, _, rfl, rfl, rfl, ag140, sz140, _, (infS inf140)⟩, rfl, trivial⟩ ⟨rfl, rfl, rfl, trivial⟩ rfl ⟨⟨trivial, trivial, trivial, trivial⟩, PermP.sc, trivial⟩ ⟨PermO.prow' perm_encInt, PermO.prow' perm_encInt, PermO.prow' perm_encInt, trivial⟩⟩
            · exact AWR.none
        · exact AWR.none
    · refine AWR.exit_end rfl ⟨rfl, Ent.of ⟨rfl, rfl, trivial⟩ ⟨rfl, rfl, rfl, rfl, rfl, trivial⟩⟩
  · refine AWR.seq ?_
    refine AWR.region ?_
    refine AOR.pure (LT.bloadN (out := [(.loc 25 0 b27.1.length), (.loc 26 0 b27.2.1.length), (.loc 27 0 b27.2.2.length)]) rfl ag140 (infS inf140) sz140 (by exact rfl) (by exact rfl)) ⟨rfl, trivial⟩ ⟨rfl, trivial⟩ rfl rfl ?_
    refine AOR.step (LT.bstore (v := (.agg [(.loc 25 0 b27.1.length), (.loc 26 0 b27.2.1.length), (.loc 27 0 b27.2.2.length)])) (out := [(.loc 25 0 b27.1.length), (.loc 26 0 b27.2.1.length), (.loc 27 0 b27.2.2.length)]) rfl rfl (infS inf140) sz140 (by exact rfl) (by exact Nat.le_of_ble_eq_true rfl) (by exact rfl)) ⟨rfl, rfl, trivial⟩ ⟨rfl, trivial⟩ rfl rfl ?_
    refine AOR.pure (LT.assign (v := (.s (.c (bC true)))) rfl) ⟨⟨rfl, rfl⟩, trivial⟩ trivial rfl rfl ?_
    refine AOR.nil ?_
    refine AWR.ent (Ent.of (σ' := [(10, (.s (.c (.pl 23 0)))), (11, (.s (.c (bC true))))]) (m' := [(23, (.row 140 [[(.loc 25 0 b27.1.length), (.loc 26 0 b27.2.1.length), (.loc 27 0 b27.2.2.length)]])), (25, (.prow 3 (b27.1.map encInt))), (26, (.prow 3 (b27.2.1.map encInt))), (27, (.prow 3 (b27.2.2.map encInt)))]) ⟨rfl, rfl, trivial⟩ ⟨rfl, rfl, rfl, rfl, trivial⟩) ?_
    refine AWR.ent (Ent.mv 25 0 rfl rfl) ?_
    refine AWR.ent (Ent.mv 26 1 rfl rfl) ?_
    refine AWR.ent (Ent.mv 27 2 rfl rfl) ?_
    refine AWR.ent (Ent.of (σ' := [(10, (.s (.c (.pl 23 0)))), (11, (.s (.c (bC true))))]) (m' := [(0, (.prow 3 (b27.1.map encInt))), (1, (.prow 3 (b27.2.1.map encInt))), (2, (.prow 3 (b27.2.2.map encInt))), (23, (.row 140 [[(.loc 0 0 b27.1.length), (.loc 1 0 b27.2.1.length), (.loc 2 0 b27.2.2.length)]]))]) ⟨rfl, rfl, trivial⟩ ⟨rfl, rfl, rfl, rfl, trivial⟩) ?_
    refine AWR.ret (FPost.mk (.inr rfl) ⟨⟨_, _, _, rfl, rfl, rfl, ag140, sz140, _, (infS inf140)⟩, rfl, trivial⟩ ⟨rfl, rfl, rfl, trivial⟩ rfl ⟨⟨trivial, trivial, trivial, trivial⟩, PermP.sc, trivial⟩ ⟨PermO.prow' perm_encInt, PermO.prow' perm_encInt, PermO.prow' perm_encInt, trivial⟩)
end Go.Proofs.Ytoeigmhhmadmbaa
end
section
set_option linter.unusedVariables false
set_option linter.unusedSimpArgs false
set_option linter.unnecessarySimpa false
open Go Go.Fw
namespace Go.Proofs.Ytoeigmhhmadmbaa
set_option maxRecDepth 100000 in
set_option maxHeartbeats 8000000 in
theorem w_spec_PlaceBar (g : TGraph) (k : Int) (l : Int) (p : TPebbles) (bar : Int) : ∀ t, m_spec_PlaceBar g k l p bar = some t → Fw.Fn Try.prog 193 [(.agg [(iC g.Points), (.pv (.xs false (g.Bars.map encTBar)))]), (.c (iC k)), (.c (iC l)), (.agg [(.pv (.xs false (p.Free.map encInt))), (.pv (.xs false (p.Tails.map encInt))), (.pv (.xs false (p.Placed.map encInt)))]), (.c (iC bar))] [] (resA [(.agg [(.loc 0 0 t.1.Free.length), (.loc 1 0 t.1.Tails.length), (.loc 2 0 t.1.Placed.length)]), (.c (bC t.2))]) [(0, (.prow 3 (t.1.Free.map encInt))), (1, (.prow 3 (t.1.Tails.map encInt))), (2, (.prow 3 (t.1.Placed.map encInt)))] [] [0, 1, 2] := by
  refine Fw.Fn.of (P := Try.prog) (X := [0, 1, 2]) (pn := []) (rs := (fun (t : (TPebbles × Bool)) => [(.agg [(.loc 0 0 t.1.Free.length), (.loc 1 0 t.1.Tails.length), (.loc 2 0 t.1.Placed.length)]), (.c (bC t.2))])) (dfs := (fun (t : (TPebbles × Bool)) => [(0, (.prow 3 (t.1.Free.map encInt))), (1, (.prow 3 (t.1.Tails.map encInt))), (2, (.prow 3 (t.1.Placed.map encInt)))])) Try.func193 rfl Try.ntmps193 (Nat.le_of_ble_eq_true rfl) rfl ?_
  intro w0 U0 R0 g0
  unfold m_spec_PlaceBar
  refine AWR.seq ?_
  refine AWR.region ?_
  refine AOR.step (LT.box (n := 21) (v := (.agg [(iC g.Points), (.pv (.xs false (g.Bars.map encTBar)))])) rfl sz26 (by exact rfl)) ⟨rfl, trivial⟩ trivial rfl rfl ?_
  refine AOR.step (LT.box (n := 22) (v := (.agg [(.pv (.xs false (p.Free.map encInt))), (.pv (.xs false (p.Tails.map encInt))), (.pv (.xs false (p.Placed.map encInt)))])) rfl sz140 (by exact rfl)) ⟨rfl, trivial⟩ trivial rfl rfl ?_
  refine AOR.step (LT.alloc (n := 23) (cells := [(sC nilV), (sC nilV), (sC nilV)]) rfl ti140 rfl rfl rfl) trivial trivial rfl rfl ?_
  refine AOR.pure (LT.assign (v := (.s (.c (bC false)))) rfl) ⟨⟨rfl, rfl⟩, trivial⟩ trivial rfl rfl ?_
  refine AOR.nil ?_
  refine AWR.seq ?_
  refine AWR.seq ?_
  refine AWR.joinK (fun j9 => ([(2, (.s (.c (iC l)))), (4, (.s (.c (iC bar)))), (5, (.s (.c (.pl 21 0)))), (8, (.s (.c (.pl 22 0)))), (10, (.s (.c (.pl 23 0)))), (55, (.s (.c (bC j9))))], [(21, (.row 26 [[(iC g.Points), (.pv (.xs false (g.Bars.map encTBar)))]])), (22, (.row 140 [[(.pv (.xs false (p.Free.map encInt))), (.pv (.xs false (p.Tails.map encInt))), (.pv (.xs false (p.Placed.map encInt)))]])), (23, (.row 140 [[(sC nilV), (sC nilV), (sC nilV)]]))])) ?_ (fun j9 _ => ?_)
  · refine AWR.region ?_
    refine AOR.pure (LT.bloadN (out := [(iC g.Points), (.pv (.xs false (g.Bars.map encTBar)))]) rfl ag26 (infS inf26) sz26 (by exact rfl) (by exact rfl)) ⟨rfl, trivial⟩ ⟨rfl, trivial⟩ rfl rfl ?_
    refine AOR.pure (LT.move (v := (.s (.c (iC k)))) rfl) ⟨rfl, trivial⟩ trivial rfl rfl ?_
    refine AOR.pure (LT.bloadN (out := [(.pv (.xs false (p.Free.map encInt))), (.pv (.xs false (p.Tails.map encInt))), (.pv (.xs false (p.Placed.map encInt)))]) rfl ag140 (infS inf140) sz140 (by exact rfl) (by exact rfl)) ⟨rfl, trivial⟩ ⟨rfl, trivial⟩ rfl rfl ?_
    refine AOR.bind fun r10 hr10 => ?_
    refine AOR.pure (@LT.callF Try.prog _ _ 204 _ _ [(.agg [(iC g.Points), (.pv (.xs false (g.Bars.map encTBar)))]), (.c (iC k)), (.agg [(.pv (.xs false (p.Free.map encInt))), (.pv (.xs false (p.Tails.map encInt))), (.pv (.xs false (p.Placed.map encInt)))])] _ _ [] _ _ _ _ (w_spec_IsPebbles g k p r10 hr10) rfl cb204 (.cons (.agg (.cons (.same rfl) (.cons (.same rfl) .nil))) (.cons (.c (.same rfl)) (.cons (.agg (.cons (.same rfl) (.cons (.same rfl) (.cons (.same rfl) .nil)))) .nil))) rfl rfl trivial) ⟨rfl, rfl, rfl, rfl, trivial⟩ trivial rfl rfl ?_
    refine AOR.pure (LT.not rfl) ⟨rfl, trivial⟩ trivial rfl rfl ?_
    refine AOR.pure (LT.move (v := (.s (.c (bC (!r10))))) rfl) ⟨rfl, trivial⟩ trivial rfl rfl ?_
    refine AOR.split (fun hb11 => ?_) (fun hb11 => ?_)
    · refine AOR.skip ⟨_, rfl, .inl ⟨_, rfl, (by rw [hb11]; rfl)⟩⟩ rfl ?_
      refine AOR.skip ⟨_, rfl, .inl ⟨_, rfl, (by rw [hb11]; rfl)⟩⟩ rfl ?_
      refine AOR.skip ⟨_, rfl, .inl ⟨_, rfl, (by rw [hb11]; rfl)⟩⟩ rfl ?_
      refine AOR.skip ⟨_, rfl, .inl ⟨_, rfl, (by rw [hb11]; rfl)⟩⟩ rfl ?_
      refine AOR.pure (LT.pickT (v := (.s (.c (bC true)))) rfl hb11) ⟨rfl, ⟨rfl, rfl⟩, trivial⟩ trivial rfl rfl ?_
      refine AOR.pure (LT.move (v := (.s (.c (bC true)))) rfl) ⟨rfl, trivial⟩ trivial rfl rfl ?_
      refine AOR.skip ⟨_, rfl, .inl ⟨_, rfl, rfl⟩⟩ rfl ?_
      refine AOR.skip ⟨_, rfl, .inl ⟨_, rfl, rfl⟩⟩ rfl ?_
      refine AOR.pure (LT.pickT (v := (.s (.c (bC true)))) rfl rfl) ⟨rfl, ⟨rfl, rfl⟩, trivial⟩ trivial rfl rfl ?_
      refine AOR.pure (LT.move (v := (.s (.c (bC true)))) rfl) ⟨rfl, trivial⟩ trivial rfl rfl ?_
      refine AOR.skip ⟨_, rfl, .inl ⟨_, rfl, rfl⟩⟩ rfl ?_
      refine AOR.skip ⟨_, rfl, .inl ⟨_, rfl, rfl⟩⟩ rfl ?_
      refine AOR.skip ⟨_, rfl, .inl ⟨_, rfl, rfl⟩⟩ rfl ?_
      refine AOR.skip ⟨_, rfl, .inl ⟨_, rfl, rfl⟩⟩ rfl ?_
      refine AOR.skip ⟨_, rfl, .inl ⟨_, rfl, rfl⟩⟩ rfl ?_
      refine AOR.pure (LT.pickT (v := (.s (.c (bC true)))) rfl rfl) ⟨rfl, ⟨rfl, rfl⟩, trivial⟩ trivial rfl rfl ?_
      refine AOR.pure (LT.move (v := (.s (.c (bC true)))) rfl) ⟨rfl, trivial⟩ trivial rfl rfl ?_
      refine AOR.skip ⟨_, rfl, .inl ⟨_, rfl, rfl⟩⟩ rfl ?_
      refine AOR.skip ⟨_, rfl, .inl ⟨_, rfl, rfl⟩⟩ rfl ?_
      refine AOR.skip ⟨_, rfl, .inl ⟨_, rfl, rfl⟩⟩ rfl ?_
      refine AOR.skip ⟨_, rfl, .inl ⟨_, rfl, rfl⟩⟩ rfl ?_
      refine AOR.skip ⟨_, rfl, .inl ⟨_, rfl, rfl⟩⟩ rfl ?_
      refine AOR.skip ⟨_, rfl, .inr ⟨rfl, rfl⟩⟩ rfl ?_
      refine AOR.skip ⟨_, rfl, .inr ⟨rfl, rfl⟩⟩ rfl ?_
      refine AOR.skip ⟨_, rfl, .inr ⟨rfl, rfl⟩⟩ rfl ?_
      refine AOR.skip ⟨_, rfl, .inr ⟨rfl, rfl⟩⟩ rfl ?_
      refine AOR.skip ⟨_, rfl, .inr ⟨rfl, rfl⟩⟩ rfl ?_
      refine AOR.skip ⟨_, rfl, .inr ⟨rfl, rfl⟩⟩ rfl ?_
      refine AOR.skip ⟨_, rfl, .inr ⟨rfl, rfl⟩⟩ rfl ?_
      refine AOR.skip ⟨_, rfl, .inr ⟨rfl, rfl⟩⟩ rfl ?_
      refine AOR.skip ⟨_, rfl, .inr ⟨rfl, rfl⟩⟩ rfl ?_
      refine AOR.skip ⟨_, rfl, .inr ⟨rfl, rfl⟩⟩ rfl ?_
      refine AOR.skip ⟨_, rfl, .inl ⟨_, rfl, rfl⟩⟩ rfl ?_
      refine AOR.pure (LT.pickT (v := (.s (.c (bC true)))) rfl rfl) ⟨rfl, ⟨rfl, rfl⟩, trivial⟩ trivial rfl rfl ?_
      refine AOR.nil ?_
      refine AWR.nil ⟨rfl, Ent.of ⟨rfl, rfl, rfl, rfl, rfl, rfl, trivial⟩ ⟨rfl, rfl, rfl, trivial⟩⟩
    · refine AOR.pure (LT.move (v := (.s (.c (iC k)))) rfl) ⟨rfl, trivial⟩ trivial ⟨_, rfl, .inl ⟨_, rfl, (by rw [hb11]; rfl)⟩⟩ rfl ?_
      refine AOR.pure (LT.move (v := (.s (.c (iC l)))) rfl) ⟨rfl, trivial⟩ trivial ⟨_, rfl, .inl ⟨_, rfl, (by rw [hb11]; rfl)⟩⟩ rfl ?_
      refine AOR.bind fun r12 hr12 => ?_
      refine AOR.pure (@LT.callF Try.prog _ _ 192 _ _ [(.c (iC k)), (.c (iC l))] _ _ [] _ _ _ _ (w_spec_IsRange k l r12 hr12) rfl cb192 (.cons (.c (.same rfl)) (.cons (.c (.same rfl)) .nil)) rfl rfl trivial) ⟨rfl, rfl, rfl, trivial⟩ trivial ⟨_, rfl, .inl ⟨_, rfl, (by rw [hb11]; rfl)⟩⟩ rfl ?_
      refine AOR.pure (LT.not rfl) ⟨rfl, trivial⟩ trivial ⟨_, rfl, .inl ⟨_, rfl, (by rw [hb11]; rfl)⟩⟩ rfl ?_
      refine AOR.pure (LT.pickF (v := (.s (.c (bC (!r12))))) rfl hb11) ⟨rfl, rfl, trivial⟩ trivial rfl rfl ?_
      refine AOR.pure (LT.move (v := (.s (.c (bC (!r12))))) rfl) ⟨rfl, trivial⟩ trivial rfl rfl ?_
      refine AOR.split (fun hb13 => ?_) (fun hb13 => ?_)
      · refine AOR.skip ⟨_, rfl, .inl ⟨_, rfl, (by rw [hb13]; rfl)⟩⟩ rfl ?_
        refine AOR.skip ⟨_, rfl, .inl ⟨_, rfl, (by rw [hb13]; rfl)⟩⟩ rfl ?_
        refine AOR.pure (LT.pickT (v := (.s (.c (bC true)))) rfl hb13) ⟨rfl, ⟨rfl, rfl⟩, trivial⟩ trivial rfl rfl ?_
        refine AOR.pure (LT.move (v := (.s (.c (bC true)))) rfl) ⟨rfl, trivial⟩ trivial rfl rfl ?_
        refine AOR.skip ⟨_, rfl, .inl ⟨_, rfl, rfl⟩⟩ rfl ?_
        refine AOR.skip ⟨_, rfl, .inl ⟨_, rfl, rfl⟩⟩ rfl ?_
        refine AOR.skip ⟨_, rfl, .inl ⟨_, rfl, rfl⟩⟩ rfl ?_
        refine AOR.skip ⟨_, rfl, .inl ⟨_, rfl, rfl⟩⟩ rfl ?_
        refine AOR.skip ⟨_, rfl, .inl ⟨_, rfl, rfl⟩⟩ rfl ?_
        refine AOR.pure (LT.pickT (v := (.s (.c (bC true)))) rfl rfl) ⟨rfl, ⟨rfl, rfl⟩, trivial⟩ trivial rfl rfl ?_
        refine AOR.pure (LT.move (v := (.s (.c (bC true)))) rfl) ⟨rfl, trivial⟩ trivial rfl rfl ?_
        refine AOR.skip ⟨_, rfl, .inl ⟨_, rfl, rfl⟩⟩ rfl ?_
        refine AOR.skip ⟨_, rfl, .inl ⟨_, rfl, rfl⟩⟩ rfl ?_
        refine AOR.skip ⟨_, rfl, .inl ⟨_, rfl, rfl⟩⟩ rfl ?_
        refine AOR.skip ⟨_, rfl, .inl ⟨_, rfl, rfl⟩⟩ rfl ?_
        refine AOR.skip ⟨_, rfl, .inl ⟨_, rfl, rfl⟩⟩ rfl ?_
        refine AOR.skip ⟨_, rfl, .inr ⟨rfl, rfl⟩⟩ rfl ?_
        refine AOR.skip ⟨_, rfl, .inr ⟨rfl, rfl⟩⟩ rfl ?_
        refine AOR.skip ⟨_, rfl, .inr ⟨rfl, rfl⟩⟩ rfl ?_
        refine AOR.skip ⟨_, rfl, .inr ⟨rfl, rfl⟩⟩ rfl ?_
        refine AOR.skip ⟨_, rfl, .inr ⟨rfl, rfl⟩⟩ rfl ?_
        refine AOR.skip ⟨_, rfl, .inr ⟨rfl, rfl⟩⟩ rfl ?_
        refine AOR.skip ⟨_, rfl, .inr ⟨rfl, rfl⟩⟩ rfl ?_
        refine AOR.skip ⟨_, rfl, .inr ⟨rfl, rfl⟩⟩ rfl ?_
        refine AOR.skip ⟨_, rfl, .inr ⟨rfl, rfl⟩⟩ rfl ?_
        refine AOR.skip ⟨_, rfl, .inr ⟨rfl, rfl⟩⟩ rfl ?_
        refine AOR.skip ⟨_, rfl, .inl ⟨_, rfl, rfl⟩⟩ rfl ?_
        refine AOR.pure (LT.pickT (v := (.s (.c (bC true)))) rfl rfl) ⟨rfl, ⟨rfl, rfl⟩, trivial⟩ trivial rfl rfl ?_
        refine AOR.nil ?_
        refine AWR.nil ⟨rfl, Ent.of ⟨rfl, rfl, rfl, rfl, rfl, rfl, trivial⟩ ⟨rfl, rfl, rfl, trivial⟩⟩
      · refine AOR.pure (LT.move (v := (.s (.c (iC bar)))) rfl) ⟨rfl, trivial⟩ trivial ⟨_, rfl, .inl ⟨_, rfl, (by rw [hb13]; rfl)⟩⟩ rfl ?_
        refine AOR.pure (LT.lss rfl) ⟨rfl, ⟨rfl, rfl⟩, trivial⟩ trivial ⟨_, rfl, .inl ⟨_, rfl, (by rw [hb13]; rfl)⟩⟩ rfl ?_
        refine AOR.pure (LT.pickF (v := (.s (.c (bC (decide (bar < 0)))))) rfl hb13) ⟨rfl, rfl, trivial⟩ trivial rfl rfl ?_
        refine AOR.pure (LT.move (v := (.s (.c (bC (decide (bar < 0)))))) rfl) ⟨rfl, trivial⟩ trivial rfl rfl ?_
        refine AOR.split (fun hb14 => ?_) (fun hb14 => ?_)
        · refine AOR.skip ⟨_, rfl, .inl ⟨_, rfl, (by rw [hb14]; rfl)⟩⟩ rfl ?_
          refine AOR.skip ⟨_, rfl, .inl ⟨_, rfl, (by rw [hb14]; rfl)⟩⟩ rfl ?_
          refine AOR.skip ⟨_, rfl, .inl ⟨_, rfl, (by rw [hb14]; rfl)⟩⟩ rfl ?_
          refine AOR.skip ⟨_, rfl, .inl ⟨_, rfl, (by rw [hb14]; rfl)⟩⟩ rfl ?_
          refine AOR.skip ⟨_, rfl, .inl ⟨_, rfl, (by rw [hb14]; rfl)⟩⟩ rfl ?_
          refine AOR.pure (LT.pickT (v := (.s (.c (bC true)))) rfl hb14) ⟨rfl, ⟨rfl, rfl⟩, trivial⟩ trivial rfl rfl ?_
          refine AOR.pure (LT.move (v := (.s (.c (bC true)))) rfl) ⟨rfl, trivial⟩ trivial rfl rfl ?_
          refine AOR.skip ⟨_, rfl, .inl ⟨_, rfl, rfl⟩⟩ rfl ?_
          refine AOR.skip ⟨_, rfl, .inl ⟨_, rfl, rfl⟩⟩ rfl ?_
          refine AOR.skip ⟨_, rfl, .inl ⟨_, rfl, rfl⟩⟩ rfl ?_
          refine AOR.skip ⟨_, rfl, .inl ⟨_, rfl, rfl⟩⟩ rfl ?_
          refine AOR.skip ⟨_, rfl, .inl ⟨_, rfl, rfl⟩⟩ rfl ?_
          refine AOR.skip ⟨_, rfl, .inr ⟨rfl, rfl⟩⟩ rfl ?_
          refine AOR.skip ⟨_, rfl, .inr ⟨rfl, rfl⟩⟩ rfl ?_
          refine AOR.skip ⟨_, rfl, .inr ⟨rfl, rfl⟩⟩ rfl ?_
          refine AOR.skip ⟨_, rfl, .inr ⟨rfl, rfl⟩⟩ rfl ?_
          refine AOR.skip ⟨_, rfl, .inr ⟨rfl, rfl⟩⟩ rfl ?_
          refine AOR.skip ⟨_, rfl, .inr ⟨rfl, rfl⟩⟩ rfl ?_
          refine AOR.skip ⟨_, rfl, .inr ⟨rfl, rfl⟩⟩ rfl ?_
          refine AOR.skip ⟨_, rfl, .inr ⟨rfl, rfl⟩⟩ rfl ?_
          refine AOR.skip ⟨_, rfl, .inr ⟨rfl, rfl⟩⟩ rfl ?_
          refine AOR.skip ⟨_, rfl, .inr ⟨rfl, rfl⟩⟩ rfl ?_
          refine AOR.skip ⟨_, rfl, .inl ⟨_, rfl, rfl⟩⟩ rfl ?_
          refine AOR.pure (LT.pickT (v := (.s (.c (bC true)))) rfl rfl) ⟨rfl, ⟨rfl, rfl⟩, trivial⟩ trivial rfl rfl ?_
          refine AOR.nil ?_
          refine AWR.nil ⟨rfl, Ent.of ⟨rfl, rfl, rfl, rfl, rfl, rfl, trivial⟩ ⟨rfl, rfl, rfl, trivial⟩⟩
        · refine AOR.pure (LT.move (v := (.s (.c (iC bar)))) rfl) ⟨rfl, trivial⟩ trivial ⟨_, rfl, .inl ⟨_, rfl, (by rw [hb14]; rfl)⟩⟩ rfl ?_
          refine AOR.pure (LT.fieldPl rfl fo26_1) ⟨rfl, trivial⟩ trivial ⟨_, rfl, .inl ⟨_, rfl, (by rw [hb14]; rfl)⟩⟩ rfl ?_
          refine AOR.pure (LT.bload1 (c := (.pv (.xs false (g.Bars.map encTBar)))) rfl ag24 (by exact rfl)) ⟨rfl, trivial⟩ ⟨rfl, trivial⟩ ⟨_, rfl, .inl ⟨_, rfl, (by rw [hb14]; rfl)⟩⟩ rfl ?_
          refine AOR.pure (LT.tlenRO rfl und24) ⟨rfl, trivial⟩ trivial ⟨_, rfl, .inl ⟨_, rfl, (by rw [hb14]; rfl)⟩⟩ rfl ?_
          refine AOR.pure (LT.geq rfl) ⟨rfl, rfl, trivial⟩ trivial ⟨_, rfl, .inl ⟨_, rfl, (by rw [hb14]; rfl)⟩⟩ rfl ?_
          refine AOR.pure (LT.pickF (v := (.s (.c (bC (decide ((g.Bars.length : Int) ≤ bar)))))) rfl hb14) ⟨rfl, rfl, trivial⟩ trivial rfl rfl ?_
          refine AOR.pure (LT.move (v := (.s (.c (bC (decide ((g.Bars.length : Int) ≤ bar)))))) rfl) ⟨rfl, trivial⟩ trivial rfl rfl ?_
          refine AOR.split (fun hb15 => ?_) (fun hb15 => ?_)
          · refine AOR.skip ⟨_, rfl, .inl ⟨_, rfl, (by rw [hb15]; rfl)⟩⟩ rfl ?_
            refine AOR.skip ⟨_, rfl, .inl ⟨_, rfl, (by rw [hb15]; rfl)⟩⟩ rfl ?_
            refine AOR.skip ⟨_, rfl, .inl ⟨_, rfl, (by rw [hb15]; rfl)⟩⟩ rfl ?_
            refine AOR.skip ⟨_, rfl, .inl ⟨_, rfl, (by rw [hb15]; rfl)⟩⟩ rfl ?_
            refine AOR.skip ⟨_, rfl, .inl ⟨_, rfl, (by rw [hb15]; rfl)⟩⟩ rfl ?_
            refine AOR.skip ⟨_, rfl, .inr ⟨rfl, rfl⟩⟩ rfl ?_
            refine AOR.skip ⟨_, rfl, .inr ⟨rfl, rfl⟩⟩ rfl ?_
            refine AOR.skip ⟨_, rfl, .inr ⟨rfl, rfl⟩⟩ rfl ?_
            refine AOR.skip ⟨_, rfl, .inr ⟨rfl, rfl⟩⟩ rfl ?_
            refine AOR.skip ⟨_, rfl, .inr ⟨rfl, rfl⟩⟩ rfl ?_
            refine AOR.skip ⟨_, rfl, .inr ⟨rfl, rfl⟩⟩ rfl ?_
            refine AOR.skip ⟨_, rfl, .inr ⟨rfl, rfl⟩⟩ rfl ?_
            refine AOR.skip ⟨_, rfl, .inr ⟨rfl, rfl⟩⟩ rfl ?_
            refine AOR.skip ⟨_, rfl, .inr ⟨rfl, rfl⟩⟩ rfl ?_
            refine AOR.skip ⟨_, rfl, .inr ⟨rfl, rfl⟩⟩ rfl ?_
            refine AOR.skip ⟨_, rfl, .inl ⟨_, rfl, (by rw [hb15]; rfl)⟩⟩ rfl ?_
            refine AOR.pure (LT.pickT (v := (.s (.c (bC true)))) rfl hb15) ⟨rfl, ⟨rfl, rfl⟩, trivial⟩ trivial rfl rfl ?_
            refine AOR.nil ?_
            refine AWR.nil ⟨rfl, Ent.of ⟨rfl, rfl, rfl, rfl, rfl, rfl, trivial⟩ ⟨rfl, rfl, rfl, trivial⟩⟩
          · refine AOR.pure (LT.fieldPl rfl fo140_2) ⟨rfl, trivial⟩ trivial ⟨_, rfl, .inl ⟨_, rfl, (by rw [hb15]; rfl)⟩⟩ rfl ?_
            refine AOR.pure (LT.bload1 (c := (.pv (.xs false (p.Placed.map encInt)))) rfl ag37 (by exact rfl)) ⟨rfl, trivial⟩ ⟨rfl, trivial⟩ ⟨_, rfl, .inl ⟨_, rfl, (by rw [hb15]; rfl)⟩⟩ rfl ?_
            refine AOR.pure (LT.tlenRO rfl und37) ⟨rfl, trivial⟩ trivial ⟨_, rfl, .inl ⟨_, rfl, (by rw [hb15]; rfl)⟩⟩ rfl ?_
            refine AOR.pure (LT.gtr rfl) ⟨rfl, ⟨rfl, rfl⟩, trivial⟩ trivial ⟨_, rfl, .inl ⟨_, rfl, (by rw [hb15]; rfl)⟩⟩ rfl ?_
            refine AOR.pure (LT.move (v := (.s (.c (bC (decide (0 < (p.Placed.length : Int))))))) rfl) ⟨rfl, trivial⟩ trivial ⟨_, rfl, .inl ⟨_, rfl, (by rw [hb15]; rfl)⟩⟩ rfl ?_
            refine AOR.split (fun hb16 => ?_) (fun hb16 => ?_)
            · refine AOR.pure (LT.fieldPl rfl fo140_2) ⟨rfl, trivial⟩ trivial ⟨_, rfl, .inl ⟨_, rfl, (by rw [hb16]; rfl)⟩⟩ rfl ?_
              refine AOR.pure (LT.bload1 (c := (.pv (.xs false (p.Placed.map encInt)))) rfl ag37 (by exact rfl)) ⟨rfl, trivial⟩ ⟨rfl, trivial⟩ ⟨_, rfl, .inl ⟨_, rfl, (by rw [hb16]; rfl)⟩⟩ rfl ?_
              refine AOR.pure (LT.fieldPl rfl fo140_2) ⟨rfl, trivial⟩ trivial ⟨_, rfl, .inl ⟨_, rfl, (by rw [hb16]; rfl)⟩⟩ rfl ?_
              refine AOR.pure (LT.bload1 (c := (.pv (.xs false (p.Placed.map encInt)))) rfl ag37 (by exact rfl)) ⟨rfl, trivial⟩ ⟨rfl, trivial⟩ ⟨_, rfl, .inl ⟨_, rfl, (by rw [hb16]; rfl)⟩⟩ rfl ?_
              refine AOR.pure (LT.tlenRO rfl und37) ⟨rfl, trivial⟩ trivial ⟨_, rfl, .inl ⟨_, rfl, (by rw [hb16]; rfl)⟩⟩ rfl ?_
              refine AOR.pure (LT.sub rfl) ⟨rfl, ⟨rfl, rfl⟩, trivial⟩ trivial ⟨_, rfl, .inl ⟨_, rfl, (by rw [hb16]; rfl)⟩⟩ rfl ?_
              refine AOR.bind fun x17 hx17 => ?_
              refine AOR.pure (LT.tindexRO (enc := encInt) rfl el37 hx17 sz3) ⟨rfl, rfl, trivial⟩ trivial ⟨_, rfl, .inl ⟨_, rfl, (by rw [hb16]; rfl)⟩⟩ rfl ?_
              refine AOR.pure (LT.loadPx1 rfl ag3) ⟨rfl, trivial⟩ trivial ⟨_, rfl, .inl ⟨_, rfl, (by rw [hb16]; rfl)⟩⟩ rfl ?_
              refine AOR.pure (LT.move (v := (.s (.c (iC bar)))) rfl) ⟨rfl, trivial⟩ trivial ⟨_, rfl, .inl ⟨_, rfl, (by rw [hb16]; rfl)⟩⟩ rfl ?_
              refine AOR.pure (LT.geq rfl) ⟨rfl, rfl, trivial⟩ trivial ⟨_, rfl, .inl ⟨_, rfl, (by rw [hb16]; rfl)⟩⟩ rfl ?_
              refine AOR.pure (LT.pickT (v := (.s (.c (bC (decide (bar ≤ x17)))))) rfl hb16) ⟨rfl, rfl, trivial⟩ trivial ⟨_, rfl, .inl ⟨_, rfl, (by rw [hb15]; rfl)⟩⟩ rfl ?_
              refine AOR.pure (LT.pickF (v := (.s (.c (bC (decide (bar ≤ x17)))))) rfl hb15) ⟨rfl, rfl, trivial⟩ trivial rfl rfl ?_
              refine AOR.nil ?_
              refine AWR.nil ⟨rfl, Ent.of ⟨rfl, rfl, rfl, rfl, rfl, rfl, trivial⟩ ⟨rfl, rfl, rfl, trivial⟩⟩
            · refine AOR.skip ⟨_, rfl, .inl ⟨_, rfl, (by rw [hb16]; rfl)⟩⟩ rfl ?_
              refine AOR.skip ⟨_, rfl, .inl ⟨_, rfl, (by rw [hb16]; rfl)⟩⟩ rfl ?_
              refine AOR.skip ⟨_, rfl, .inl ⟨_, rfl, (by rw [hb16]; rfl)⟩⟩ rfl ?_
              refine AOR.skip ⟨_, rfl, .inl ⟨_, rfl, (by rw [hb16]; rfl)⟩⟩ rfl ?_
              refine AOR.skip ⟨_, rfl, .inl ⟨_, rfl, (by rw [hb16]; rfl)⟩⟩ rfl ?_
              refine AOR.skip ⟨_, rfl, .inl ⟨_, rfl, (by rw [hb16]; rfl)⟩⟩ rfl ?_
              refine AOR.skip ⟨_, rfl, .inl ⟨_, rfl, (by rw [hb16]; rfl)⟩⟩ rfl ?_
              refine AOR.skip ⟨_, rfl, .inl ⟨_, rfl, (by rw [hb16]; rfl)⟩⟩ rfl ?_
              refine AOR.skip ⟨_, rfl, .inl ⟨_, rfl, (by rw [hb16]; rfl)⟩⟩ rfl ?_
              refine AOR.skip ⟨_, rfl, .inl ⟨_, rfl, (by rw [hb16]; rfl)⟩⟩ rfl ?_
              refine AOR.pure (LT.pickF (v := (.s (.c (bC false)))) rfl hb16) ⟨rfl, ⟨rfl, rfl⟩, trivial⟩ trivial ⟨_, rfl, .inl ⟨_, rfl, (by rw [hb15]; rfl)⟩⟩ rfl ?_
              refine AOR.pure (LT.pickF (v := (.s (.c (bC false)))) rfl hb15) ⟨rfl, rfl, trivial⟩ trivial rfl rfl ?_
              refine AOR.nil ?_
              refine AWR.nil ⟨rfl, Ent.of ⟨rfl, rfl, rfl, rfl, rfl, rfl, trivial⟩ ⟨rfl, rfl, rfl, trivial⟩⟩
  · refine AWR.cond rfl (fun hc18 => ?_) (fun hc18 => ?_)
    · refine AWR.seq ?_
      refine AWR.region ?_
      refine AOR.pure (LT.bloadN (out := [(.pv (.xs false (p.Free.map encInt))), (.pv (.xs false (p.Tails.map encInt))), (.pv (.xs false (p.Placed.map encInt)))]) rfl ag140 (infS inf140) sz140 (by exact rfl) (by exact rfl)) ⟨rfl, trivial⟩ ⟨rfl, trivial⟩ rfl rfl ?_
      refine AOR.bind fun r19 hr19 => ?_
      refine AOR.step (@LT.callF Try.prog _ _ 205 _ _ [(.agg [(.pv (.xs false (p.Free.map encInt))), (.pv (.xs false (p.Tails.map encInt))), (.pv (.xs false (p.Placed.map encInt)))])] _ _ [] _ _ _ _ ((show Fw.Fn Try.prog 205 [(.agg [(.pv (.xs false (p.Free.map encInt))), (.pv (.xs false (p.Tails.map encInt))), (.pv (.xs false (p.Placed.map encInt)))])] [] (.s (.agg [(.loc 27 0 r19.Free.length), (.loc 28 0 r19.Tails.length), (.loc 29 0 r19.Placed.length)])) [(27, (.prow 3 (r19.Free.map encInt))), (28, (.prow 3 (r19.Tails.map encInt))), (29, (.prow 3 (r19.Placed.map encInt)))] [] [27, 28, 29] from Fw.Fn.ren [(0, 27), (1, 28), (2, 29)] (w_spec_l4Copy p r19 hr19) rfl)) rfl cb205 (.cons (.agg (.cons (.same rfl) (.cons (.same rfl) (.cons (.same rfl) .nil)))) .nil) rfl rfl trivial) ⟨rfl, rfl, trivial⟩ trivial rfl rfl ?_
      refine AOR.step (LT.bstore (v := (.agg [(.loc 27 0 r19.Free.length), (.loc 28 0 r19.Tails.length), (.loc 29 0 r19.Placed.length)])) (out := [(.loc 27 0 r19.Free.length), (.loc 28 0 r19.Tails.length), (.loc 29 0 r19.Placed.length)]) rfl rfl (infS inf140) sz140 (by exact rfl) (by exact Nat.le_of_ble_eq_true rfl) (by exact rfl)) ⟨rfl, rfl, trivial⟩ ⟨rfl, trivial⟩ rfl rfl ?_
      refine AOR.pure (LT.assign (v := (.s (.c (bC false)))) rfl) ⟨⟨rfl, rfl⟩, trivial⟩ trivial rfl rfl ?_
      refine AOR.nil ?_
      refine AWR.ent (Ent.of (σ' := [(10, (.s (.c (.pl 23 0)))), (11, (.s (.c (bC false))))]) (m' := [(23, (.row 140 [[(.loc 27 0 r19.Free.length), (.loc 28 0 r19.Tails.length), (.loc 29 0 r19.Placed.length)]])), (27, (.prow 3 (r19.Free.map encInt))), (28, (.prow 3 (r19.Tails.map encInt))), (29, (.prow 3 (r19.Placed.map encInt)))]) ⟨rfl, rfl, trivial⟩ ⟨rfl, rfl, rfl, rfl, trivial⟩) ?_
      refine AWR.ent (Ent.mv 27 0 rfl rfl) ?_
      refine AWR.ent (Ent.mv 28 1 rfl rfl) ?_
      refine AWR.ent (Ent.mv 29 2 rfl rfl) ?_
      refine AWR.ent (Ent.of (σ' := [(10, (.s (.c (.pl 23 0)))), (11, (.s (.c (bC false))))]) (m' := [(0, (.prow 3 (r19.Free.map encInt))), (1, (.prow 3 (r19.Tails.map encInt))), (2, (.prow 3 (r19.Placed.map encInt))), (23, (.row 140 [[(.loc 0 0 r19.Free.length), (.loc 1 0 r19.Tails.length), (.loc 2 0 r19.Placed.length)]]))]) ⟨rfl, rfl, trivial⟩ ⟨rfl, rfl, rfl, rfl, trivial⟩) ?_
      refine AWR.ret (FPost.mk (.inr rfl) ⟨⟨_, _, _, rfl, rfl, rfl, ag140, sz140, _, (infS inf140)⟩, rfl, trivial⟩ ⟨rfl, rfl, rfl, trivial⟩ rfl ⟨⟨trivial, trivial, trivial, trivial⟩, PermP.sc, trivial⟩ ⟨PermO.prow' perm_encInt, PermO.prow' perm_encInt, PermO.prow' perm_encInt, trivial⟩)
    · refine AWR.skip ?_
      refine AWR.seq ?_
      refine AWR.region ?_
      refine AOR.pure (LT.fieldPl rfl fo26_1) ⟨rfl, trivial⟩ trivial rfl rfl ?_
      refine AOR.pure (LT.bload1 (c := (.pv (.xs false (g.Bars.map encTBar)))) rfl ag24 (by exact rfl)) ⟨rfl, trivial⟩ ⟨rfl, trivial⟩ rfl rfl ?_
      refine AOR.pure (LT.move (v := (.s (.c (iC bar)))) rfl) ⟨rfl, trivial⟩ trivial rfl rfl ?_
      refine AOR.bind fun x20 hx20 => ?_
      refine AOR.pure (LT.tindexRO (enc := encTBar) rfl el24 hx20 sz79) ⟨rfl, rfl, trivial⟩ trivial rfl rfl ?_
      refine AOR.pure (LT.loadPxN rfl ag79 (infS inf79) (by exact sz79.symm)) ⟨rfl, trivial⟩ trivial rfl rfl ?_
      refine AOR.step (LT.alloc (n := 30) (cells := [(iC 0), (iC 0)]) rfl ti79 rfl rfl rfl) trivial trivial rfl rfl ?_
      refine AOR.step (LT.bstore (v := (.agg [(iC x20.A), (iC x20.B)])) (out := [(iC x20.A), (iC x20.B)]) rfl rfl (infS inf79) sz79 (by exact rfl) (by exact Nat.le_of_ble_eq_true rfl) (by exact rfl)) ⟨rfl, rfl, trivial⟩ ⟨rfl, trivial⟩ rfl rfl ?_
      refine AOR.nil ?_
      refine AWR.seq ?_
      refine AWR.ent (Ent.of (σ' := [(2, (.s (.c (iC l)))), (4, (.s (.c (iC bar)))), (5, (.s (.c (.pl 21 0)))), (8, (.s (.c (.pl 22 0)))), (10, (.s (.c (.pl 23 0)))), (12, (.s (.c (.pl 30 0))))]) (m' := [(21, (.row 26 [[(iC g.Points), (.pv (.xs false (g.Bars.map encTBar)))]])), (22, (.row 140 [[(.pv (.xs false (p.Free.map encInt))), (.pv (.xs false (p.Tails.map encInt))), (.pv (.xs false (p.Placed.map encInt)))]])), (23, (.row 140 [[(sC nilV), (sC nilV), (sC nilV)]])), (30, (.row 79 [[(iC x20.A), (iC x20.B)]]))]) ⟨rfl, rfl, rfl, rfl, rfl, rfl, trivial⟩ ⟨rfl, rfl, rfl, rfl, trivial⟩) ?_
      refine AWR.region ?_
      refine AOR.pure (LT.bloadN (out := [(iC g.Points), (.pv (.xs false (g.Bars.map encTBar)))]) rfl ag26 (infS inf26) sz26 (by exact rfl) (by exact rfl)) ⟨rfl, trivial⟩ ⟨rfl, trivial⟩ rfl rfl ?_
      refine AOR.pure (LT.bloadN (out := [(.pv (.xs false (p.Free.map encInt))), (.pv (.xs false (p.Tails.map encInt))), (.pv (.xs false (p.Placed.map encInt)))]) rfl ag140 (infS inf140) sz140 (by exact rfl) (by exact rfl)) ⟨rfl, trivial⟩ ⟨rfl, trivial⟩ rfl rfl ?_
      refine AOR.pure (LT.fieldPl rfl fo79_0) ⟨rfl, trivial⟩ trivial rfl rfl ?_
      refine AOR.pure (LT.bload1 (c := (iC x20.A)) rfl ag3 (by exact rfl)) ⟨rfl, trivial⟩ ⟨rfl, trivial⟩ rfl rfl ?_
      refine AOR.pure (LT.fieldPl rfl fo79_1) ⟨rfl, trivial⟩ trivial rfl rfl ?_
      refine AOR.pure (LT.bload1 (c := (iC x20.B)) rfl ag3 (by exact rfl)) ⟨rfl, trivial⟩ ⟨rfl, trivial⟩ rfl rfl ?_
      refine AOR.pure (LT.move (v := (.s (.c (iC l)))) rfl) ⟨rfl, trivial⟩ trivial rfl rfl ?_
      refine AOR.pure (LT.add rfl) ⟨rfl, ⟨rfl, rfl⟩, trivial⟩ trivial rfl rfl ?_
      refine AOR.bind fun r21 hr21 => ?_
      refine AOR.step (@LT.callF Try.prog _ _ 206 _ _ [(.agg [(iC g.Points), (.pv (.xs false (g.Bars.map encTBar)))]), (.agg [(.pv (.xs false (p.Free.map encInt))), (.pv (.xs false (p.Tails.map encInt))), (.pv (.xs false (p.Placed.map encInt)))]), (.c (iC x20.A)), (.c (iC x20.B)), (.c (iC (w64 (l + 1))))] _ _ [] _ _ _ _ ((show Fw.Fn Try.prog 206 [(.agg [(iC g.Points), (.pv (.xs false (g.Bars.map encTBar)))]), (.agg [(.pv (.xs false (p.Free.map encInt))), (.pv (.xs false (p.Tails.map encInt))), (.pv (.xs false (p.Placed.map encInt)))]), (.c (iC x20.A)), (.c (iC x20.B)), (.c (iC (w64 (l + 1))))] [] (.tup [(.agg [(.loc 32 0 r21.1.Free.length), (.loc 33 0 r21.1.Tails.length), (.loc 34 0 r21.1.Placed.length)]), (.c (bC r21.2))]) [(32, (.prow 3 (r21.1.Free.map encInt))), (33, (.prow 3 (r21.1.Tails.map encInt))), (34, (.prow 3 (r21.1.Placed.map encInt)))] [] [32, 33, 34] from Fw.Fn.ren [(0, 32), (1, 33), (2, 34)] (w_spec_l4Gather g p x20.A x20.B (w64 (l + 1)) r21 hr21) rfl)) rfl cb206 (.cons (.agg (.cons (.same rfl) (.cons (.same rfl) .nil))) (.cons (.agg (.cons (.same rfl) (.cons (.same rfl) (.cons (.same rfl) .nil)))) (.cons (.c (.same rfl)) (.cons (.c (.same rfl)) (.cons (.c (.same rfl)) .nil))))) rfl rfl trivial) ⟨rfl, rfl, rfl, rfl, rfl, rfl, trivial⟩ trivial rfl rfl ?_
      refine AOR.pure (LT.move (v := (.tup [(.agg [(.loc 32 0 r21.1.Free.length), (.loc 33 0 r21.1.Tails.length), (.loc 34 0 r21.1.Placed.length)]), (.c (bC r21.2))])) rfl) ⟨rfl, trivial⟩ trivial rfl rfl ?_
      refine AOR.pure (LT.extract (v := (.agg [(.loc 32 0 r21.1.Free.length), (.loc 33 0 r21.1.Tails.length), (.loc 34 0 r21.1.Placed.length)])) rfl (by exact rfl)) ⟨rfl, trivial⟩ trivial rfl rfl ?_
      refine AOR.pure (LT.extract (v := (.c (bC r21.2))) rfl (by exact rfl)) ⟨rfl, trivial⟩ trivial rfl rfl ?_
      refine AOR.step (LT.alloc (n := 35) (cells := [(sC nilV), (sC nilV), (sC nilV)]) rfl ti140 rfl rfl rfl) trivial trivial rfl rfl ?_
      refine AOR.step (LT.bstore (v := (.agg [(.loc 32 0 r21.1.Free.length), (.loc 33 0 r21.1.Tails.length), (.loc 34 0 r21.1.Placed.length)])) (out := [(.loc 32 0 r21.1.Free.length), (.loc 33 0 r21.1.Tails.length), (.loc 34 0 r21.1.Placed.length)]) rfl rfl (infS inf140) sz140 (by exact rfl) (by exact Nat.le_of_ble_eq_true rfl) (by exact rfl)) ⟨rfl, rfl, trivial⟩ ⟨rfl, trivial⟩ rfl rfl ?_
      refine AOR.pure (LT.assign (v := (.s (.c (bC r21.2)))) rfl) ⟨rfl, trivial⟩ trivial rfl rfl ?_
      refine AOR.nil ?_
      refine AWR.seq ?_
      refine AWR.seq ?_
      refine AWR.ent (Ent.of (σ' := [(4, (.s (.c (iC bar)))), (8, (.s (.c (.pl 22 0)))), (10, (.s (.c (.pl 23 0)))), (12, (.s (.c (.pl 30 0)))), (13, (.s (.c (.pl 35 0)))), (14, (.s (.c (bC r21.2))))]) (m' := [(22, (.row 140 [[(.pv (.xs false (p.Free.map encInt))), (.pv (.xs false (p.Tails.map encInt))), (.pv (.xs false (p.Placed.map encInt)))]])), (23, (.row 140 [[(sC nilV), (sC nilV), (sC nilV)]])), (30, (.row 79 [[(iC x20.A), (iC x20.B)]])), (32, (.prow 3 (r21.1.Free.map encInt))), (33, (.prow 3 (r21.1.Tails.map encInt))), (34, (.prow 3 (r21.1.Placed.map encInt))), (35, (.row 140 [[(.loc 32 0 r21.1.Free.length), (.loc 33 0 r21.1.Tails.length), (.loc 34 0 r21.1.Placed.length)]]))]) ⟨rfl, rfl, rfl, rfl, rfl, rfl, trivial⟩ ⟨rfl, rfl, rfl, rfl, rfl, rfl, rfl, trivial⟩) ?_
      refine AWR.region ?_
      refine AOR.pure (LT.move (v := (.s (.c (bC r21.2)))) rfl) ⟨rfl, trivial⟩ trivial rfl rfl ?_
      refine AOR.pure (LT.not rfl) ⟨rfl, trivial⟩ trivial rfl rfl ?_
      refine AOR.nil ?_
      refine AWR.cond rfl (fun hc22 => ?_) (fun hc22 => ?_)
      · refine AWR.seq ?_
        refine AWR.region ?_
        refine AOR.pure (LT.bloadN (out := [(.pv (.xs false (p.Free.map encInt))), (.pv (.xs false (p.Tails.map encInt))), (.pv (.xs false (p.Placed.map encInt)))]) rfl ag140 (infS inf140) sz140 (by exact rfl) (by exact rfl)) ⟨rfl, trivial⟩ ⟨rfl, trivial⟩ rfl rfl ?_
        refine AOR.bind fun r23 hr23 => ?_
        refine AOR.step (@LT.callF Try.prog _ _ 205 _ _ [(.agg [(.pv (.xs false (p.Free.map encInt))), (.pv (.xs false (p.Tails.map encInt))), (.pv (.xs false (p.Placed.map encInt)))])] _ _ [] _ _ _ _ ((show Fw.Fn Try.prog 205 [(.agg [(.pv (.xs false (p.Free.map encInt))), (.pv (.xs false (p.Tails.map encInt))), (.pv (.xs false (p.Placed.map encInt)))])] [] (.s (.agg [(.loc 37 0 r23.Free.length), (.loc 38 0 r23.Tails.length), (.loc 39 0 r23.Placed.length)])) [(37, (.prow 3 (r23.Free.map encInt))), (38, (.prow 3 (r23.Tails.map encInt))), (39, (.prow 3 (r23.Placed.map encInt)))] [] [37, 38, 39] from Fw.Fn.ren [(0, 37), (1, 38), (2, 39)] (w_spec_l4Copy p r23 hr23) rfl)) rfl cb205 (.cons (.agg (.cons (.same rfl) (.cons (.same rfl) (.cons (.same rfl) .nil)))) .nil) rfl rfl trivial) ⟨rfl, rfl, trivial⟩ trivial rfl rfl ?_
        refine AOR.step (LT.bstore (v := (.agg [(.loc 37 0 r23.Free.length), (.loc 38 0 r23.Tails.length), (.loc 39 0 r23.Placed.length)])) (out := [(.loc 37 0 r23.Free.length), (.loc 38 0 r23.Tails.length), (.loc 39 0 r23.Placed.length)]) rfl rfl (infS inf140) sz140 (by exact rfl) (by exact Nat.le_of_ble_eq_true rfl) (by exact rfl)) ⟨rfl, rfl, trivial⟩ ⟨rfl, trivial⟩ rfl rfl ?_
        refine AOR.pure (LT.assign (v := (.s (.c (bC false)))) rfl) ⟨⟨rfl, rfl⟩, trivial⟩ trivial rfl rfl ?_
        refine AOR.nil ?_
        refine AWR.ent (Ent.of (σ' := [(10, (.s (.c (.pl 23 0)))), (11, (.s (.c (bC false))))]) (m' := [(23, (.row 140 [[(.loc 37 0 r23.Free.length), (.loc 38 0 r23.Tails.length), (.loc 39 0 r23.Placed.length)]])), (37, (.prow 3 (r23.Free.map encInt))), (38, (.prow 3 (r23.Tails.map encInt))), (39, (.prow 3 (r23.Placed.map encInt)))]) ⟨rfl, rfl, trivial⟩ ⟨rfl, rfl, rfl, rfl, trivial⟩) ?_
        refine AWR.ent (Ent.mv 37 0 rfl rfl) ?_
        refine AWR.ent (Ent.mv 38 1 rfl rfl) ?_
        refine AWR.ent (Ent.mv 39 2 rfl rfl) ?_
        refine AWR.ent (Ent.of (σ' := [(10, (.s (.c (.pl 23 0)))), (11, (.s (.c (bC false))))]) (m' := [(0, (.prow 3 (r23.Free.map encInt))), (1, (.prow 3 (r23.Tails.map encInt))), (2, (.prow 3 (r23.Placed.map encInt))), (23, (.row 140 [[(.loc 0 0 r23.Free.length), (.loc 1 0 r23.Tails.length), (.loc 2 0 r23.Placed.length)]]))]) ⟨rfl, rfl, trivial⟩ ⟨rfl, rfl, rfl, rfl, trivial⟩) ?_
        refine AWR.ret (FPost.mk (.inr rfl) ⟨⟨_, _, _, rfl, rfl, rfl, ag140, sz140, _, (infS inf140)⟩, rfl, trivial⟩ ⟨rfl, rfl, rfl, trivial⟩ rfl ⟨⟨trivial, trivial, trivial, trivial⟩, PermP.sc, trivial⟩ ⟨PermO.prow' perm_encInt, PermO.prow' perm_encInt, PermO.prow' perm_encInt, trivial⟩)
      · refine AWR.skip ?_
        refine AWR.seq ?_
        refine AWR.region ?_
        refine AOR.pure (LT.fieldPl rfl fo79_0) ⟨rfl, trivial⟩ trivial rfl rfl ?_
        refine AOR.pure (LT.bload1 (c := (iC x20.A)) rfl ag3 (by exact rfl)) ⟨rfl, trivial⟩ ⟨rfl, trivial⟩ rfl rfl ?_
        refine AOR.pure (LT.assign (v := (.s (.c (iC x20.A)))) rfl) ⟨rfl, trivial⟩ trivial rfl rfl ?_
        refine AOR.nil ?_
        refine AWR.seq ?_
        refine AWR.seq ?_
        refine AWR.region ?_
        refine AOR.pure (LT.fieldPl rfl fo140_0) ⟨rfl, trivial⟩ trivial rfl rfl ?_
        refine AOR.pure (LT.bload1 (c := (.loc 32 0 r21.1.Free.length)) rfl ag37 (by exact rfl)) ⟨rfl, trivial⟩ ⟨rfl, trivial⟩ rfl rfl ?_
        refine AOR.pure (LT.fieldPl rfl fo79_0) ⟨rfl, trivial⟩ trivial rfl rfl ?_
        refine AOR.pure (LT.bload1 (c := (iC x20.A)) rfl ag3 (by exact rfl)) ⟨rfl, trivial⟩ ⟨rfl, trivial⟩ rfl rfl ?_
        refine AOR.bind fun x24 hx24 => ?_
        refine AOR.pure (LT.tindexLoc rfl rfl el37 hx24) ⟨rfl, rfl, trivial⟩ ⟨rfl, trivial⟩ rfl rfl ?_
        refine AOR.pure (LT.tload1 (k := 0) rfl ag3 hx24 (by exact rfl) (by exact rfl)) ⟨rfl, trivial⟩ ⟨rfl, trivial⟩ rfl rfl ?_
        refine AOR.pure (LT.eql rfl) ⟨rfl, ⟨rfl, rfl⟩, trivial⟩ trivial rfl rfl ?_
        refine AOR.nil ?_
        refine AWR.joinK (fun j26 => ([(4, (.s (.c (iC bar)))), (10, (.s (.c (.pl 23 0)))), (13, (.s (.c (.pl 35 0)))), (15, (.s (.c (iC j26))))], [(23, (.row 140 [[(sC nilV), (sC nilV), (sC nilV)]])), (32, (.prow 3 (r21.1.Free.map encInt))), (33, (.prow 3 (r21.1.Tails.map encInt))), (34, (.prow 3 (r21.1.Placed.map encInt))), (35, (.row 140 [[(.loc 32 0 r21.1.Free.length), (.loc 33 0 r21.1.Tails.length), (.loc 34 0 r21.1.Placed.length)]]))])) ?_ (fun j26 _ => ?_)
        · refine AWR.cond rfl (fun hc27 => ?_) (fun hc27 => ?_)
          · refine AWR.ent (Ent.of (σ' := [(4, (.s (.c (iC bar)))), (10, (.s (.c (.pl 23 0)))), (12, (.s (.c (.pl 30 0)))), (13, (.s (.c (.pl 35 0))))]) (m' := [(23, (.row 140 [[(sC nilV), (sC nilV), (sC nilV)]])), (30, (.row 79 [[(iC x20.A), (iC x20.B)]])), (32, (.prow 3 (r21.1.Free.map encInt))), (33, (.prow 3 (r21.1.Tails.map encInt))), (34, (.prow 3 (r21.1.Placed.map encInt))), (35, (.row 140 [[(.loc 32 0 r21.1.Free.length), (.loc 33 0 r21.1.Tails.length), (.loc 34 0 r21.1.Placed.length)]]))]) ⟨rfl, rfl, rfl, rfl, trivial⟩ ⟨rfl, rfl, rfl, rfl, rfl, rfl, trivial⟩) ?_
            refine AWR.region ?_
            refine AOR.pure (LT.fieldPl rfl fo79_1) ⟨rfl, trivial⟩ trivial rfl rfl ?_
            refine AOR.pure (LT.bload1 (c := (iC x20.B)) rfl ag3 (by exact rfl)) ⟨rfl, trivial⟩ ⟨rfl, trivial⟩ rfl rfl ?_
            refine AOR.pure (LT.assign (v := (.s (.c (iC x20.B)))) rfl) ⟨rfl, trivial⟩ trivial rfl rfl ?_
            refine AOR.nil ?_
            refine AWR.nil ⟨rfl, Ent.of ⟨rfl, rfl, rfl, rfl, trivial⟩ ⟨rfl, rfl, rfl, rfl, rfl, trivial⟩⟩
          · refine AWR.skip ?_
            refine AWR.nil ⟨rfl, Ent.of ⟨rfl, rfl, rfl, rfl, trivial⟩ ⟨rfl, rfl, rfl, rfl, rfl, trivial⟩⟩
        · refine AWR.seq ?_
          refine AWR.draw mixed ?_
          refine AOD.pure (LT.fieldPl rfl fo140_0) ⟨rfl, trivial⟩ trivial rfl rfl ?_
          refine AOD.pure (LT.bload1 (c := (.loc 32 0 r21.1.Free.length)) rfl ag37 (by exact rfl)) ⟨rfl, trivial⟩ ⟨rfl, trivial⟩ rfl rfl ?_
          refine AOD.pure (LT.move (v := (.s (.c (iC j26)))) rfl) ⟨rfl, trivial⟩ trivial rfl rfl ?_
          refine AOD.pure (LT.fieldPl rfl fo140_0) ⟨rfl, trivial⟩ trivial rfl rfl ?_
          refine AOD.pure (LT.bload1 (c := (.loc 32 0 r21.1.Free.length)) rfl ag37 (by exact rfl)) ⟨rfl, trivial⟩ ⟨rfl, trivial⟩ rfl rfl ?_
          refine AOD.pure (LT.move (v := (.s (.c (iC j26)))) rfl) ⟨rfl, trivial⟩ trivial rfl rfl ?_
          refine AOD.bind fun x28 hx28 => ?_
          refine AOD.pure (LT.tindexLoc rfl rfl el37 hx28) ⟨rfl, rfl, trivial⟩ ⟨rfl, trivial⟩ rfl rfl ?_
          refine AOD.pure (LT.tload1 (k := 0) rfl ag3 hx28 (by exact rfl) (by exact rfl)) ⟨rfl, trivial⟩ ⟨rfl, trivial⟩ rfl rfl ?_
          refine AOD.pure (LT.sub rfl) ⟨rfl, ⟨rfl, rfl⟩, trivial⟩ trivial rfl rfl ?_
          refine AOD.bind fun x29 hx29 => ?_
          refine AOD.pure (LT.tindexLoc rfl rfl el37 hx29) ⟨rfl, rfl, trivial⟩ ⟨rfl, trivial⟩ rfl rfl ?_
          refine AOD.step (LT.tstore (k := 0) (v := (.c (iC (w64 (x28 - 1))))) (b' := (w64 (x28 - 1))) rfl rfl (infS inf3) sz3 (by exact rfl) hx29 (by exact rfl) (by exact Nat.le_of_ble_eq_true rfl) (by exact rfl)) ⟨rfl, rfl, trivial⟩ ⟨rfl, trivial⟩ rfl rfl ?_
          refine AOD.nil (by kernel_rfl) ?_
          refine AWR.seq ?_
          refine AWR.ent (Ent.of (σ' := [(4, (.s (.c (iC bar)))), (10, (.s (.c (.pl 23 0)))), (13, (.s (.c (.pl 35 0)))), (15, (.s (.c (iC j26))))]) (m' := [(23, (.row 140 [[(sC nilV), (sC nilV), (sC nilV)]])), (32, (.prow 3 ((r21.1.Free.set j26.toNat (w64 (x28 - 1))).map encInt))), (33, (.prow 3 (r21.1.Tails.map encInt))), (34, (.prow 3 (r21.1.Placed.map encInt))), (35, (.row 140 [[(.loc 32 0 r21.1.Free.length), (.loc 33 0 r21.1.Tails.length), (.loc 34 0 r21.1.Placed.length)]]))]) ⟨rfl, rfl, rfl, rfl, trivial⟩ ⟨rfl, rfl, rfl, rfl, rfl, trivial⟩) ?_
          refine AWR.region ?_
          refine AOR.pure (LT.fieldPl rfl fo140_1) ⟨rfl, trivial⟩ trivial rfl rfl ?_
          refine AOR.pure (LT.bload1 (c := (.loc 33 0 r21.1.Tails.length)) rfl ag37 (by exact rfl)) ⟨rfl, trivial⟩ ⟨rfl, trivial⟩ rfl rfl ?_
          refine AOR.pure (LT.move (v := (.s (.c (iC j26)))) rfl) ⟨rfl, trivial⟩ trivial rfl rfl ?_
          refine AOR.step (LT.tbuildSlice (n := 40) (enc := encInt) [(0, .tmp 102, (.c (iC j26)))] ([j26] : List Int) rfl rfl und37 ti3 rfl rfl rfl rfl (by decide) (fun _ => rfl) rfl) ⟨rfl, trivial⟩ trivial rfl rfl ?_
          refine AOR.bind fun u30 hu30 => ?_
          refine AOR.step (LT.tappP (enc := encInt) rfl rfl rfl und37 ti3 rfl (by decide) (by decide) (fun _ => rfl) (lim_le hu30)) ⟨rfl, rfl, trivial⟩ ⟨rfl, rfl, trivial⟩ rfl rfl ?_
          refine AOR.pure (LT.fieldPl rfl fo140_1) ⟨rfl, trivial⟩ trivial rfl rfl ?_
          refine AOR.step (LT.bstore (v := (.c (.loc 33 0 (r21.1.Tails ++ ([j26] : List Int)).length))) (out := [(.loc 32 0 r21.1.Free.length), (.loc 33 0 (r21.1.Tails ++ ([j26] : List Int)).length), (.loc 34 0 r21.1.Placed.length)]) rfl rfl (infS inf37) sz37 (by exact rfl) (by exact Nat.le_of_ble_eq_true rfl) (by exact rfl)) ⟨rfl, rfl, trivial⟩ ⟨rfl, trivial⟩ rfl rfl ?_
          refine AOR.nil ?_
          refine AWR.seq ?_
          refine AWR.ent (Ent.of (σ' := [(4, (.s (.c (iC bar)))), (10, (.s (.c (.pl 23 0)))), (13, (.s (.c (.pl 35 0))))]) (m' := [(23, (.row 140 [[(sC nilV), (sC nilV), (sC nilV)]])), (32, (.prow 3 ((r21.1.Free.set j26.toNat (w64 (x28 - 1))).map encInt))), (33, (.prow 3 ((r21.1.Tails ++ ([j26] : List Int)).map encInt))), (34, (.prow 3 (r21.1.Placed.map encInt))), (35, (.row 140 [[(.loc 32 0 r21.1.Free.length), (.loc 33 0 (r21.1.Tails ++ ([j26] : List Int)).length), (.loc 34 0 r21.1.Placed.length)]]))]) ⟨rfl, rfl, rfl, trivial⟩ ⟨rfl, rfl, rfl, rfl, rfl, trivial⟩) ?_
          refine AWR.region ?_
          refine AOR.pure (LT.fieldPl rfl fo140_2) ⟨rfl, trivial⟩ trivial rfl rfl ?_
          refine AOR.pure (LT.bload1 (c := (.loc 34 0 r21.1.Placed.length)) rfl ag37 (by exact rfl)) ⟨rfl, trivial⟩ ⟨rfl, trivial⟩ rfl rfl ?_
          refine AOR.pure (LT.move (v := (.s (.c (iC bar)))) rfl) ⟨rfl, trivial⟩ trivial rfl rfl ?_
          refine AOR.step (LT.tbuildSlice (n := 41) (enc := encInt) [(0, .tmp 108, (.c (iC bar)))] ([bar] : List Int) rfl rfl und37 ti3 rfl rfl rfl rfl (by decide) (fun _ => rfl) rfl) ⟨rfl, trivial⟩ trivial rfl rfl ?_
          refine AOR.bind fun u31 hu31 => ?_
          refine AOR.step (LT.tappP (enc := encInt) rfl rfl rfl und37 ti3 rfl (by decide) (by decide) (fun _ => rfl) (lim_le hu31)) ⟨rfl, rfl, trivial⟩ ⟨rfl, rfl, trivial⟩ rfl rfl ?_
          refine AOR.pure (LT.fieldPl rfl fo140_2) ⟨rfl, trivial⟩ trivial rfl rfl ?_
          refine AOR.step (LT.bstore (v := (.c (.loc 34 0 (r21.1.Placed ++ ([bar] : List Int)).length))) (out := [(.loc 32 0 r21.1.Free.length), (.loc 33 0 (r21.1.Tails ++ ([j26] : List Int)).length), (.loc 34 0 (r21.1.Placed ++ ([bar] : List Int)).length)]) rfl rfl (infS inf37) sz37 (by exact rfl) (by exact Nat.le_of_ble_eq_true rfl) (by exact rfl)) ⟨rfl, rfl, trivial⟩ ⟨rfl, trivial⟩ rfl rfl ?_
          refine AOR.nil ?_
          refine AWR.seq ?_
          refine AWR.ent (Ent.of (σ' := [(10, (.s (.c (.pl 23 0)))), (13, (.s (.c (.pl 35 0))))]) (m' := [(23, (.row 140 [[(sC nilV), (sC nilV), (sC nilV)]])), (32, (.prow 3 ((r21.1.Free.set j26.toNat (w64 (x28 - 1))).map encInt))), (33, (.prow 3 ((r21.1.Tails ++ ([j26] : List Int)).map encInt))), (34, (.prow 3 ((r21.1.Placed ++ ([bar] : List Int)).map encInt))), (35, (.row 140 [[(.loc 32 0 r21.1.Free.length), (.loc 33 0 (r21.1.Tails ++ ([j26] : List Int)).length), (.loc 34 0 (r21.1.Placed ++ ([bar] : List Int)).length)]]))]) ⟨rfl, rfl, trivial⟩ ⟨rfl, rfl, rfl, rfl, rfl, trivial⟩) ?_
          refine AWR.region ?_
          refine AOR.pure (LT.bloadN (out := [(.loc 32 0 r21.1.Free.length), (.loc 33 0 (r21.1.Tails ++ ([j26] : List Int)).length), (.loc 34 0 (r21.1.Placed ++ ([bar] : List Int)).length)]) rfl ag140 (infS inf140) sz140 (by exact rfl) (by exact rfl)) ⟨rfl, trivial⟩ ⟨rfl, trivial⟩ rfl rfl ?_
          refine AOR.step (LT.bstore (v := (.agg [(.loc 32 0 r21.1.Free.length), (.loc 33 0 (r21.1.Tails ++ ([j26] : List Int)).length), (.loc 34 0 (r21.1.Placed ++ ([bar] : List Int)).length)])) (out := [(.loc 32 0 r21.1.Free.length), (.loc 33 0 (r21.1.Tails ++ ([j26] : List Int)).length), (.loc 34 0 (r21.1.Placed ++ ([bar] : List Int)).length)]) rfl rfl (infS inf140) sz140 (by exact rfl) (by exact Nat.le_of_ble_eq_true rfl) (by exact rfl)) ⟨rfl, rfl, trivial⟩ ⟨rfl, trivial⟩ rfl rfl ?_
          refine AOR.pure (LT.assign (v := (.s (.c (bC true)))) rfl) ⟨⟨rfl, rfl⟩, trivial⟩ trivial rfl rfl ?_
          refine AOR.nil ?_
          refine AWR.ent (Ent.of (σ' := [(10, (.s (.c (.pl 23 0)))), (11, (.s (.c (bC true))))]) (m' := [(23, (.row 140 [[(.loc 32 0 r21.1.Free.length), (.loc 33 0 (r21.1.Tails ++ ([j26] : List Int)).length), (.loc 34 0 (r21.1.Placed ++ ([bar] : List Int)).length)]])), (32, (.prow 3 ((r21.1.Free.set j26.toNat (w64 (x28 - 1))).map encInt))), (33, (.prow 3 ((r21.1.Tails ++ ([j26] : List Int)).map encInt))), (34, (.prow 3 ((r21.1.Placed ++ ([bar] : List Int)).map encInt)))]) ⟨rfl, rfl, trivial⟩ ⟨rfl, rfl, rfl, rfl, trivial⟩) ?_
          refine AWR.ent (Ent.mv 32 0 rfl rfl) ?_
          refine AWR.ent (Ent.mv 33 1 rfl rfl) ?_
          refine AWR.ent (Ent.mv 34 2 rfl rfl) ?_
          refine AWR.ent (Ent.of (σ' := [(10, (.s (.c (.pl 23 0)))), (11, (.s (.c (bC true))))]) (m' := [(0, (.prow 3 ((r21.1.Free.set j26.toNat (w64 (x28 - 1))).map encInt))), (1, (.prow 3 ((r21.1.Tails ++ ([j26] : List Int)).map encInt))), (2, (.prow 3 ((r21.1.Placed ++ ([bar] : List Int)).map encInt))), (23, (.row 140 [[(.loc 0 0 (r21.1.Free.set j26.toNat (w64 (x28 - 1))).length), (.loc 1 0 (r21.1.Tails ++ ([j26] : List Int)).length), (.loc 2 0 (r21.1.Placed ++ ([bar] : List Int)).length)]]))]) ⟨rfl, rfl, trivial⟩ ⟨rfl, rfl, rfl, (congrArg (fun l1 => (some (Ob.row 140 [[(.loc 0 0 l1), (.loc 1 0 (r21.1.Tails ++ ([j26] : List Int)).length), (.loc 2 0 (r21.1.Placed ++ ([bar] : List Int)).length)]]) : Option Ob)) (show r21.1.Free.length = (r21.1.Free.set j26.toNat (w64 (x28 - 1))).length by simp only [List.length_set])), trivial⟩) ?_
          refine AWR.ret (FPost.mk (.inr rfl) ⟨⟨_, _, _, rfl, rfl, rfl, ag140, sz140, _, (infS inf140)⟩, rfl, trivial⟩ ⟨rfl, rfl, rfl, trivial⟩ rfl ⟨⟨trivial, trivial, trivial, trivial⟩, PermP.sc, trivial⟩ ⟨PermO.prow' perm_encInt, PermO.prow' perm_encInt, PermO.prow' perm_encInt, trivial⟩)
set_option maxRecDepth 100000 in
set_option maxHeartbeats 8000000 in
theorem w_spec_RunPebbles (g : TGraph) (k : Int) (l : Int) : ∀ t, m_spec_RunPebbles g k l = some t → Fw.Fn Try.prog 169 [(.agg [(iC g.Points), (.pv (.xs false (g.Bars.map encTBar)))]), (.c (iC k)), (.c (iC l))] [] (resA [(.agg [(.loc 0 0 t.1.Free.length), (.loc 1 0 t.1.Tails.length), (.loc 2 0 t.1.Placed.length)]), (.c (bC t.2))]) [(0, (.prow 3 (t.1.Free.map encInt))), (1, (.prow 3 (t.1.Tails.map encInt))), (2, (.prow 3 (t.1.Placed.map encInt)))] [] [0, 1, 2] := by
  refine Fw.Fn.of (P := Try.prog) (X := [0, 1, 2]) (pn := []) (rs := (fun (t : (TPebbles × Bool)) => [(.agg [(.loc 0 0 t.1.Free.length), (.loc 1 0 t.1.Tails.length), (.loc 2 0 t.1.Placed.length)]), (.c (bC t.2))])) (dfs := (fun (t : (TPebbles × Bool)) => [(0, (.prow 3 (t.1.Free.map encInt))), (1, (.prow 3 (t.1.Tails.map encInt))), (2, (.prow 3 (t.1.Placed.map encInt)))])) Try.func169 rfl Try.ntmps169 (Nat.le_of_ble_eq_true rfl) rfl ?_
  intro w0 U0 R0 g0
  unfold m_spec_RunPebbles
  refine AWR.seq ?_
  refine AWR.region ?_
  refine AOR.step (LT.box (n := 21) (v := (.agg [(iC g.Points), (.pv (.xs false (g.Bars.map encTBar)))])) rfl sz26 (by exact rfl)) ⟨rfl, trivial⟩ trivial rfl rfl ?_
  refine AOR.step (LT.alloc (n := 22) (cells := [(sC nilV), (sC nilV), (sC nilV)]) rfl ti140 rfl rfl rfl) trivial trivial rfl rfl ?_
  refine AOR.pure (LT.assign (v := (.s (.c (bC false)))) rfl) ⟨⟨rfl, rfl⟩, trivial⟩ trivial rfl rfl ?_
  refine AOR.nil ?_
  refine AWR.seq ?_
  refine AWR.region ?_
  refine AOR.pure (LT.bloadN (out := [(iC g.Points), (.pv (.xs false (g.Bars.map encTBar)))]) rfl ag26 (infS inf26) sz26 (by exact rfl) (by exact rfl)) ⟨rfl, trivial⟩ ⟨rfl, trivial⟩ rfl rfl ?_
  refine AOR.pure (LT.move (v := (.s (.c (iC k)))) rfl) ⟨rfl, trivial⟩ trivial rfl rfl ?_
  refine AOR.bind fun r1 hr1 => ?_
  refine AOR.step (@LT.callF Try.prog _ _ 191 _ _ [(.agg [(iC g.Points), (.pv (.xs false (g.Bars.map encTBar)))]), (.c (iC k))] _ _ [] _ _ _ _ ((show Fw.Fn Try.prog 191 [(.agg [(iC g.Points), (.pv (.xs false (g.Bars.map encTBar)))]), (.c (iC k))] [] (.tup [(.agg [(.loc 24 0 r1.1.Free.length), (.loc 25 0 r1.1.Tails.length), (.loc 26 0 r1.1.Placed.length)]), (.c (bC r1.2))]) [(24, (.prow 3 (r1.1.Free.map encInt))), (25, (.prow 3 (r1.1.Tails.map encInt))), (26, (.prow 3 (r1.1.Placed.map encInt)))] [] [24, 25, 26] from Fw.Fn.ren [(0, 24), (1, 25), (2, 26)] (w_spec_NewPebbles g k r1 hr1) rfl)) rfl cb191 (.cons (.agg (.cons (.same rfl) (.cons (.same rfl) .nil))) (.cons (.c (.same rfl)) .nil)) rfl rfl trivial) ⟨rfl, rfl, rfl, trivial⟩ trivial rfl rfl ?_
  refine AOR.pure (LT.move (v := (.tup [(.agg [(.loc 24 0 r1.1.Free.length), (.loc 25 0 r1.1.Tails.length), (.loc 26 0 r1.1.Placed.length)]), (.c (bC r1.2))])) rfl) ⟨rfl, trivial⟩ trivial rfl rfl ?_
  refine AOR.pure (LT.extract (v := (.agg [(.loc 24 0 r1.1.Free.length), (.loc 25 0 r1.1.Tails.length), (.loc 26 0 r1.1.Placed.length)])) rfl (by exact rfl)) ⟨rfl, trivial⟩ trivial rfl rfl ?_
  refine AOR.pure (LT.extract (v := (.c (bC r1.2))) rfl (by exact rfl)) ⟨rfl, trivial⟩ trivial rfl rfl ?_
  refine AOR.step (LT.alloc (n := 27) (cells := [(sC nilV), (sC nilV), (sC nilV)]) rfl ti140 rfl rfl rfl) trivial trivial rfl rfl ?_
  refine AOR.step (LT.bstore (v := (.agg [(.loc 24 0 r1.1.Free.length), (.loc 25 0 r1.1.Tails.length), (.loc 26 0 r1.1.Placed.length)])) (out := [(.loc 24 0 r1.1.Free.length), (.loc 25 0 r1.1.Tails.length), (.loc 26 0 r1.1.Placed.length)]) rfl rfl (infS inf140) sz140 (by exact rfl) (by exact Nat.le_of_ble_eq_true rfl) (by exact rfl)) ⟨rfl, rfl, trivial⟩ ⟨rfl, trivial⟩ rfl rfl ?_
  refine AOR.pure (LT.assign (v := (.s (.c (bC r1.2)))) rfl) ⟨rfl, trivial⟩ trivial rfl rfl ?_
  refine AOR.nil ?_
  refine AWR.seq ?_
  refine AWR.seq ?_
  refine AWR.joinK (fun j4 => ([(1, (.s (.c (iC k)))), (2, (.s (.c (iC l)))), (3, (.s (.c (.pl 21 0)))), (6, (.s (.c (.pl 22 0)))), (8, (.s (.c (.pl 27 0)))), (24, (.s (.c (bC j4))))], [(21, (.row 26 [[(iC g.Points), (.pv (.xs false (g.Bars.map encTBar)))]])), (22, (.row 140 [[(sC nilV), (sC nilV), (sC nilV)]])), (24, (.prow 3 (r1.1.Free.map encInt))), (25, (.prow 3 (r1.1.Tails.map encInt))), (26, (.prow 3 (r1.1.Placed.map encInt))), (27, (.row 140 [[(.loc 24 0 r1.1.Free.length), (.loc 25 0 r1.1.Tails.length), (.loc 26 0 r1.1.Placed.length)]]))])) ?_ (fun j4 _ => ?_)
  · refine AWR.ent (Ent.of (σ' := [(1, (.s (.c (iC k)))), (2, (.s (.c (iC l)))), (3, (.s (.c (.pl 21 0)))), (6, (.s (.c (.pl 22 0)))), (8, (.s (.c (.pl 27 0)))), (9, (.s (.c (bC r1.2))))]) (m' := [(21, (.row 26 [[(iC g.Points), (.pv (.xs false (g.Bars.map encTBar)))]])), (22, (.row 140 [[(sC nilV), (sC nilV), (sC nilV)]])), (24, (.prow 3 (r1.1.Free.map encInt))), (25, (.prow 3 (r1.1.Tails.map encInt))), (26, (.prow 3 (r1.1.Placed.map encInt))), (27, (.row 140 [[(.loc 24 0 r1.1.Free.length), (.loc 25 0 r1.1.Tails.length), (.loc 26 0 r1.1.Placed.length)]]))]) ⟨rfl, rfl, rfl, rfl, rfl, rfl, trivial⟩ ⟨rfl, rfl, rfl, rfl, rfl, rfl, trivial⟩) ?_
    refine AWR.region ?_
    refine AOR.pure (LT.move (v := (.s (.c (bC r1.2)))) rfl) ⟨rfl, trivial⟩ trivial rfl rfl ?_
    refine AOR.pure (LT.not rfl) ⟨rfl, trivial⟩ trivial rfl rfl ?_
    refine AOR.pure (LT.move (v := (.s (.c (bC (!r1.2))))) rfl) ⟨rfl, trivial⟩ trivial rfl rfl ?_
    refine AOR.split (fun hb5 => ?_) (fun hb5 => ?_)
    · refine AOR.skip ⟨_, rfl, .inl ⟨_, rfl, (by rw [hb5]; rfl)⟩⟩ rfl ?_
      refine AOR.skip ⟨_, rfl, .inl ⟨_, rfl, (by rw [hb5]; rfl)⟩⟩ rfl ?_
      refine AOR.skip ⟨_, rfl, .inl ⟨_, rfl, (by rw [hb5]; rfl)⟩⟩ rfl ?_
      refine AOR.skip ⟨_, rfl, .inl ⟨_, rfl, (by rw [hb5]; rfl)⟩⟩ rfl ?_
      refine AOR.pure (LT.pickT (v := (.s (.c (bC true)))) rfl hb5) ⟨rfl, ⟨rfl, rfl⟩, trivial⟩ trivial rfl rfl ?_
      refine AOR.nil ?_
      refine AWR.nil ⟨rfl, Ent.of ⟨rfl, rfl, rfl, rfl, rfl, rfl, trivial⟩ ⟨rfl, rfl, rfl, rfl, rfl, rfl, trivial⟩⟩
    · refine AOR.pure (LT.move (v := (.s (.c (iC k)))) rfl) ⟨rfl, trivial⟩ trivial ⟨_, rfl, .inl ⟨_, rfl, (by rw [hb5]; rfl)⟩⟩ rfl ?_
      refine AOR.pure (LT.move (v := (.s (.c (iC l)))) rfl) ⟨rfl, trivial⟩ trivial ⟨_, rfl, .inl ⟨_, rfl, (by rw [hb5]; rfl)⟩⟩ rfl ?_
      refine AOR.bind fun r6 hr6 => ?_
      refine AOR.pure (@LT.callF Try.prog _ _ 192 _ _ [(.c (iC k)), (.c (iC l))] _ _ [] _ _ _ _ (w_spec_IsRange k l r6 hr6) rfl cb192 (.cons (.c (.same rfl)) (.cons (.c (.same rfl)) .nil)) rfl rfl trivial) ⟨rfl, rfl, rfl, trivial⟩ trivial ⟨_, rfl, .inl ⟨_, rfl, (by rw [hb5]; rfl)⟩⟩ rfl ?_
      refine AOR.pure (LT.not rfl) ⟨rfl, trivial⟩ trivial ⟨_, rfl, .inl ⟨_, rfl, (by rw [hb5]; rfl)⟩⟩ rfl ?_
      refine AOR.pure (LT.pickF (v := (.s (.c (bC (!r6))))) rfl hb5) ⟨rfl, rfl, trivial⟩ trivial rfl rfl ?_
      refine AOR.nil ?_
      refine AWR.nil ⟨rfl, Ent.of ⟨rfl, rfl, rfl, rfl, rfl, rfl, trivial⟩ ⟨rfl, rfl, rfl, rfl, rfl, rfl, trivial⟩⟩
  · refine AWR.cond rfl (fun hc7 => ?_) (fun hc7 => ?_)
    · refine AWR.seq ?_
      refine AWR.region ?_
      refine AOR.pure (LT.build [] rfl rfl pl140 ti140 rfl rfl rfl) trivial trivial rfl rfl ?_
      refine AOR.step (LT.bstore (v := (.agg [(sC nilV), (sC nilV), (sC nilV)])) (out := [(sC nilV), (sC nilV), (sC nilV)]) rfl rfl (infS inf140) sz140 (by exact rfl) (by exact Nat.le_of_ble_eq_true rfl) (by exact rfl)) ⟨rfl, rfl, trivial⟩ ⟨rfl, trivial⟩ rfl rfl ?_
      refine AOR.pure (LT.assign (v := (.s (.c (bC false)))) rfl) ⟨⟨rfl, rfl⟩, trivial⟩ trivial rfl rfl ?_
      refine AOR.nil ?_
      refine AWR.ent (Ent.nilB 22 0 0 3 rfl rfl rfl rfl) ?_
      refine AWR.ent (Ent.nilB 22 1 1 3 rfl rfl rfl rfl) ?_
      refine AWR.ent (Ent.nilB 22 2 2 3 rfl rfl rfl rfl) ?_
      refine AWR.ent (Ent.of (σ' := [(6, (.s (.c (.pl 22 0)))), (7, (.s (.c (bC false))))]) (m' := [(0, (.prow 3 (([] : List Int).map encInt))), (1, (.prow 3 (([] : List Int).map encInt))), (2, (.prow 3 (([] : List Int).map encInt))), (22, (.row 140 [[(.loc 0 0 ([] : List Int).length), (.loc 1 0 ([] : List Int).length), (.loc 2 0 ([] : List Int).length)]]))]) ⟨rfl, rfl, trivial⟩ ⟨rfl, rfl, rfl, rfl, trivial⟩) ?_
      refine AWR.ret (FPost.mk (.inr rfl) ⟨⟨_, _, _, rfl, rfl, rfl, ag140, sz140, _, (infS inf140)⟩, rfl, trivial⟩ ⟨rfl, rfl, rfl, trivial⟩ rfl ⟨⟨trivial, trivial, trivial, trivial⟩, PermP.sc, trivial⟩ ⟨PermO.prow' perm_encInt, PermO.prow' perm_encInt, PermO.prow' perm_encInt, trivial⟩)
    · refine AWR.skip ?_
      refine AWR.seq ?_
      refine AWR.seq ?_
      refine AWR.region ?_
      refine AOR.pure (LT.assign (v := (.s (.c (iC 0)))) rfl) ⟨⟨rfl, rfl⟩, trivial⟩ trivial rfl rfl ?_
      refine AOR.nil ?_
      refine AWR.block ?_
      refine AWR.loop1 (id := 0) (m_spec_RunPebbles_L1 g k l) (fun s8 => ([(1, (.s (.c (iC k)))), (2, (.s (.c (iC l)))), (3, (.s (.c (.pl 21 0)))), (6, (.s (.c (.pl 22 0)))), (8, (.s (.c (.pl 27 0)))), (10, (.s (.c (iC s8.1))))], [(21, (.row 26 [[(iC g.Points), (.pv (.xs false (g.Bars.map encTBar)))]])), (22, (.row 140 [[(sC nilV), (sC nilV), (sC nilV)]])), (24, (.prow 3 (s8.2.1.map encInt))), (25, (.prow 3 (s8.2.2.1.map encInt))), (26, (.prow 3 (s8.2.2.2.map encInt))), (27, (.row 140 [[(.loc 24 0 s8.2.1.length), (.loc 25 0 s8.2.2.1.length), (.loc 26 0 s8.2.2.2.length)]]))])) (fun b13 => ([(6, (.s (.c (.pl 22 0)))), (8, (.s (.c (.pl 27 0))))], [(22, (.row 140 [[(sC nilV), (sC nilV), (sC nilV)]])), (24, (.prow 3 (b13.1.map encInt))), (25, (.prow 3 (b13.2.1.map encInt))), (26, (.prow 3 (b13.2.2.map encInt))), (27, (.row 140 [[(.loc 24 0 b13.1.length), (.loc 25 0 b13.2.1.length), (.loc 26 0 b13.2.2.length)]]))])) ?_ (Ent.of ⟨rfl, rfl, rfl, rfl, rfl, rfl, trivial⟩ ⟨rfl, rfl, rfl, rfl, rfl, rfl, trivial⟩) rfl (fun b13 _ => ?_)
      · intro s8
        unfold m_spec_RunPebbles_L1
        refine AWR.seq ?_
        refine AWR.seq ?_
        refine AWR.region ?_
        refine AOR.pure (LT.move (v := (.s (.c (iC s8.1)))) rfl) ⟨rfl, trivial⟩ trivial rfl rfl ?_
        refine AOR.pure (LT.fieldPl rfl fo26_1) ⟨rfl, trivial⟩ trivial rfl rfl ?_
        refine AOR.pure (LT.bload1 (c := (.pv (.xs false (g.Bars.map encTBar)))) rfl ag24 (by exact rfl)) ⟨rfl, trivial⟩ ⟨rfl, trivial⟩ rfl rfl ?_
        refine AOR.pure (LT.tlenRO rfl und24) ⟨rfl, trivial⟩ trivial rfl rfl ?_
        refine AOR.pure (LT.lss rfl) ⟨rfl, rfl, trivial⟩ trivial rfl rfl ?_
        refine AOR.nil ?_
        refine AWR.cond rfl (fun hc14 => ?_) (fun hc14 => ?_)
        · refine AWR.skip ?_
          refine AWR.seq ?_
          refine AWR.block ?_
          refine AWR.region ?_
          refine AOR.pure (LT.bloadN (out := [(iC g.Points), (.pv (.xs false (g.Bars.map encTBar)))]) rfl ag26 (infS inf26) sz26 (by exact rfl) (by exact rfl)) ⟨rfl, trivial⟩ ⟨rfl, trivial⟩ rfl rfl ?_
          refine AOR.pure (LT.move (v := (.s (.c (iC k)))) rfl) ⟨rfl, trivial⟩ trivial rfl rfl ?_
          refine AOR.pure (LT.move (v := (.s (.c (iC l)))) rfl) ⟨rfl, trivial⟩ trivial rfl rfl ?_
          refine AOR.pure (LT.bloadN (out := [(.loc 24 0 s8.2.1.length), (.loc 25 0 s8.2.2.1.length), (.loc 26 0 s8.2.2.2.length)]) rfl ag140 (infS inf140) sz140 (by exact rfl) (by exact rfl)) ⟨rfl, trivial⟩ ⟨rfl, trivial⟩ rfl rfl ?_
          refine AOR.pure (LT.move (v := (.s (.c (iC s8.1)))) rfl) ⟨rfl, trivial⟩ trivial rfl rfl ?_
          refine AOR.bind fun r15 hr15 => ?_
          refine AOR.step (@LT.callF Try.prog _ _ 193 _ _ [(.agg [(iC g.Points), (.pv (.xs false (g.Bars.map encTBar)))]), (.c (iC k)), (.c (iC l)), (.agg [(.loc 24 0 s8.2.1.length), (.loc 25 0 s8.2.2.1.length), (.loc 26 0 s8.2.2.2.length)]), (.c (iC s8.1))] _ _ [(24, (.prow 3 (s8.2.1.map encInt))), (25, (.prow 3 (s8.2.2.1.map encInt))), (26, (.prow 3 (s8.2.2.2.map encInt)))] _ _ _ _ ((show Fw.Fn Try.prog 193 [(.agg [(iC g.Points), (.pv (.xs false (g.Bars.map encTBar)))]), (.c (iC k)), (.c (iC l)), (.agg [(.pv (.xs false (((TPebbles.mk s8.2.1 s8.2.2.1 s8.2.2.2).Free).map encInt))), (.pv (.xs false (((TPebbles.mk s8.2.1 s8.2.2.1 s8.2.2.2).Tails).map encInt))), (.pv (.xs false (((TPebbles.mk s8.2.1 s8.2.2.1 s8.2.2.2).Placed).map encInt)))]), (.c (iC s8.1))] [] (.tup [(.agg [(.loc 30 0 r15.1.Free.length), (.loc 31 0 r15.1.Tails.length), (.loc 32 0 r15.1.Placed.length)]), (.c (bC r15.2))]) [(30, (.prow 3 (r15.1.Free.map encInt))), (31, (.prow 3 (r15.1.Tails.map encInt))), (32, (.prow 3 (r15.1.Placed.map encInt)))] [] [30, 31, 32] from Fw.Fn.ren [(0, 30), (1, 31), (2, 32)] (w_spec_PlaceBar g k l (TPebbles.mk s8.2.1 s8.2.2.1 s8.2.2.2) s8.1 r15 hr15) rfl)) rfl cb193 (.cons (.agg (.cons (.same rfl) (.cons (.same rfl) .nil))) (.cons (.c (.same rfl)) (.cons (.c (.same rfl)) (.cons (.agg (.cons (.tloc rfl rfl) (.cons (.tloc rfl rfl) (.cons (.tloc rfl rfl) .nil)))) (.cons (.c (.same rfl)) .nil))))) rfl rfl trivial) ⟨rfl, rfl, rfl, rfl, rfl, rfl, trivial⟩ ⟨rfl, rfl, rfl, trivial⟩ rfl rfl ?_
          refine AOR.pure (LT.move (v := (.tup [(.agg [(.loc 30 0 r15.1.Free.length), (.loc 31 0 r15.1.Tails.length), (.loc 32 0 r15.1.Placed.length)]), (.c (bC r15.2))])) rfl) ⟨rfl, trivial⟩ trivial rfl rfl ?_
          refine AOR.pure (LT.extract (v := (.agg [(.loc 30 0 r15.1.Free.length), (.loc 31 0 r15.1.Tails.length), (.loc 32 0 r15.1.Placed.length)])) rfl (by exact rfl)) ⟨rfl, trivial⟩ trivial rfl rfl ?_
          refine AOR.pure (LT.extract (v := (.c (bC r15.2))) rfl (by exact rfl)) ⟨rfl, trivial⟩ trivial rfl rfl ?_
          refine AOR.step (LT.bstore (v := (.agg [(.loc 30 0 r15.1.Free.length), (.loc 31 0 r15.1.Tails.length), (.loc 32 0 r15.1.Placed.length)])) (out := [(.loc 30 0 r15.1.Free.length), (.loc 31 0 r15.1.Tails.length), (.loc 32 0 r15.1.Placed.length)]) rfl rfl (infS inf140) sz140 (by exact rfl) (by exact Nat.le_of_ble_eq_true rfl) (by exact rfl)) ⟨rfl, rfl, trivial⟩ ⟨rfl, trivial⟩ rfl rfl ?_
          refine AOR.nil ?_
          refine AWR.blk ?_
          refine AWR.ent (Ent.of (σ' := [(1, (.s (.c (iC k)))), (2, (.s (.c (iC l)))), (3, (.s (.c (.pl 21 0)))), (6, (.s (.c (.pl 22 0)))), (8, (.s (.c (.pl 27 0)))), (10, (.s (.c (iC s8.1))))]) (m' := [(21, (.row 26 [[(iC g.Points), (.pv (.xs false (g.Bars.map encTBar)))]])), (22, (.row 140 [[(sC nilV), (sC nilV), (sC nilV)]])), (27, (.row 140 [[(.loc 30 0 r15.1.Free.length), (.loc 31 0 r15.1.Tails.length), (.loc 32 0 r15.1.Placed.length)]])), (30, (.prow 3 (r15.1.Free.map encInt))), (31, (.prow 3 (r15.1.Tails.map encInt))), (32, (.prow 3 (r15.1.Placed.map encInt)))]) ⟨rfl, rfl, rfl, rfl, rfl, rfl, trivial⟩ ⟨rfl, rfl, rfl, rfl, rfl, rfl, trivial⟩) ?_
          refine AWR.region ?_
          refine AOR.pure (LT.move (v := (.s (.c (iC s8.1)))) rfl) ⟨rfl, trivial⟩ trivial rfl rfl ?_
          refine AOR.pure (LT.add rfl) ⟨rfl, ⟨rfl, rfl⟩, trivial⟩ trivial rfl rfl ?_
          refine AOR.pure (LT.assign (v := (.s (.c (iC (w64 (s8.1 + 1)))))) rfl) ⟨rfl, trivial⟩ trivial rfl rfl ?_
          refine AOR.nil ?_
          refine AWR.ent (Ent.of (σ' := [(1, (.s (.c (iC k)))), (2, (.s (.c (iC l)))), (3, (.s (.c (.pl 21 0)))), (6, (.s (.c (.pl 22 0)))), (8, (.s (.c (.pl 27 0)))), (10, (.s (.c (iC (w64 (s8.1 + 1))))))]) (m' := [(21, (.row 26 [[(iC g.Points), (.pv (.xs false (g.Bars.map encTBar)))]])), (22, (.row 140 [[(sC nilV), (sC nilV), (sC nilV)]])), (27, (.row 140 [[(.loc 30 0 r15.1.Free.length), (.loc 31 0 r15.1.Tails.length), (.loc 32 0 r15.1.Placed.length)]])), (30, (.prow 3 (r15.1.Free.map encInt))), (31, (.prow 3 (r15.1.Tails.map encInt))), (32, (.prow 3 (r15.1.Placed.map encInt)))]) ⟨rfl, rfl, rfl, rfl, rfl, rfl, trivial⟩ ⟨rfl, rfl, rfl, rfl, rfl, rfl, trivial⟩) ?_
          refine AWR.ent (Ent.mv 30 24 rfl rfl) ?_
          refine AWR.ent (Ent.mv 31 25 rfl rfl) ?_
          refine AWR.ent (Ent.mv 32 26 rfl rfl) ?_
          refine AWR.nil ⟨rfl, Ent.of ⟨rfl, rfl, rfl, rfl, rfl, rfl, trivial⟩ ⟨rfl, rfl, rfl, rfl, rfl, rfl, trivial⟩⟩
        · refine AWR.exit_end rfl ⟨rfl, Ent.of ⟨rfl, rfl, trivial⟩ ⟨rfl, rfl, rfl, rfl, rfl, trivial⟩⟩
      · refine AWR.seq ?_
        refine AWR.region ?_
        refine AOR.pure (LT.bloadN (out := [(.loc 24 0 b13.1.length), (.loc 25 0 b13.2.1.length), (.loc 26 0 b13.2.2.length)]) rfl ag140 (infS inf140) sz140 (by exact rfl) (by exact rfl)) ⟨rfl, trivial⟩ ⟨rfl, trivial⟩ rfl rfl ?_
        refine AOR.step (LT.bstore (v := (.agg [(.loc 24 0 b13.1.length), (.loc 25 0 b13.2.1.length), (.loc 26 0 b13.2.2.length)])) (out := [(.loc 24 0 b13.1.length), (.loc 25 0 b13.2.1.length), (.loc 26 0 b13.2.2.length)]) rfl rfl (infS inf140) sz140 (by exact rfl) (by exact Nat.le_of_ble_eq_true rfl) (by exact rfl)) ⟨rfl, rfl, trivial⟩ ⟨rfl, trivial⟩ rfl rfl ?_
        refine AOR.pure (LT.assign (v := (.s (.c (bC true)))) rfl) ⟨⟨rfl, rfl⟩, trivial⟩ trivial rfl rfl ?_
        refine AOR.nil ?_
        refine AWR.ent (Ent.of (σ' := [(6, (.s (.c (.pl 22 0)))), (7, (.s (.c (bC true))))]) (m' := [(22, (.row 140 [[(.loc 24 0 b13.1.length), (.loc 25 0 b13.2.1.length), (.loc 26 0 b13.2.2.length)]])), (24, (.prow 3 (b13.1.map encInt))), (25, (.prow 3 (b13.2.1.map encInt))), (26, (.prow 3 (b13.2.2.map encInt)))]) ⟨rfl, rfl, trivial⟩ ⟨rfl, rfl, rfl, rfl, trivial⟩) ?_
        refine AWR.ent (Ent.mv 24 0 rfl rfl) ?_
        refine AWR.ent (Ent.mv 25 1 rfl rfl) ?_
        refine AWR.ent (Ent.mv 26 2 rfl rfl) ?_
        refine AWR.ent (Ent.of (σ' := [(6, (.s (.c (.pl 22 0)))), (7, (.s (.c (bC true))))]) (m' := [(0, (.prow 3 (b13.1.map encInt))), (1, (.prow 3 (b13.2.1.map encInt))), (2, (.prow 3 (b13.2.2.map encInt))), (22, (.row 140 [[(.loc 0 0 b13.1.length), (.loc 1 0 b13.2.1.length), (.loc 2 0 b13.2.2.length)]]))]) ⟨rfl, rfl, trivial⟩ ⟨rfl, rfl, rfl, rfl, trivial⟩) ?_
        refine AWR.ret (FPost.mk (.inr rfl) ⟨⟨_, _, _, rfl, rfl, rfl, ag140, sz140, _, (infS inf140)⟩, rfl, trivial⟩ ⟨rfl, rfl, rfl, trivial⟩ rfl ⟨⟨trivial, trivial, trivial, trivial⟩, PermP.sc, trivial⟩ ⟨PermO.prow' perm_encInt, PermO.prow' perm_encInt, PermO.prow' perm_encInt, trivial⟩)
set_option maxRecDepth 100000 in
set_option maxHeartbeats 8000000 in
theorem w_impl_IsRange (k : Int) (l : Int) : ∀ t, m_impl_IsRange k l = some t → Fw.Fn Try.prog 194 [(.c (iC k)), (.c (iC l))] [] (.s (.c (bC t))) [] [] [] := by
  refine Fw.Fn.of (P := Try.prog) (X := []) (pn := []) (rs := (fun (t : Bool) => [(.c (bC t))])) (dfs := (fun (t : Bool) => [])) Try.func194 rfl Try.ntmps194 (Nat.le_of_ble_eq_true rfl) rfl ?_
  intro w0 U0 R0 g0
  unfold m_impl_IsRange
  refine AWR.seq ?_
  refine AWR.region ?_
  refine AOR.pure (LT.assign (v := (.s (.c (bC false)))) rfl) ⟨⟨rfl, rfl⟩, trivial⟩ trivial rfl rfl ?_
  refine AOR.nil ?_
  refine AWR.seq ?_
  refine AWR.joinK (fun j4 => ([(4, (.s (.c (bC j4))))], [])) ?_ (fun j4 _ => ?_)
  · refine AWR.region ?_
    refine AOR.pure (LT.move (v := (.s (.c (iC k)))) rfl) ⟨rfl, trivial⟩ trivial rfl rfl ?_
    refine AOR.bind fun r5 hr5 => ?_
    refine AOR.pure (@LT.callF Try.prog _ _ 119 _ _ [(.c (iC k)), (.c (iC 1)), (.c (iC 3))] _ _ [] _ _ _ _ (w_impl_within k 1 3 r5 hr5) rfl cb119 (.cons (.c (.same rfl)) (.cons (.c (.same rfl)) (.cons (.c (.same rfl)) .nil))) rfl rfl trivial) ⟨rfl, rfl, ⟨rfl, rfl⟩, ⟨rfl, rfl⟩, trivial⟩ trivial rfl rfl ?_
    refine AOR.pure (LT.move (v := (.s (.c (bC r5)))) rfl) ⟨rfl, trivial⟩ trivial rfl rfl ?_
    refine AOR.split (fun hb6 => ?_) (fun hb6 => ?_)
    · refine AOR.pure (LT.move (v := (.s (.c (iC l)))) rfl) ⟨rfl, trivial⟩ trivial ⟨_, rfl, .inl ⟨_, rfl, (by rw [hb6]; rfl)⟩⟩ rfl ?_
      refine AOR.pure (LT.move (v := (.s (.c (iC k)))) rfl) ⟨rfl, trivial⟩ trivial ⟨_, rfl, .inl ⟨_, rfl, (by rw [hb6]; rfl)⟩⟩ rfl ?_
      refine AOR.pure (LT.mul rfl) ⟨⟨rfl, rfl⟩, rfl, trivial⟩ trivial ⟨_, rfl, .inl ⟨_, rfl, (by rw [hb6]; rfl)⟩⟩ rfl ?_
      refine AOR.pure (LT.sub rfl) ⟨rfl, ⟨rfl, rfl⟩, trivial⟩ trivial ⟨_, rfl, .inl ⟨_, rfl, (by rw [hb6]; rfl)⟩⟩ rfl ?_
      refine AOR.bind fun r7 hr7 => ?_
      refine AOR.pure (@LT.callF Try.prog _ _ 119 _ _ [(.c (iC l)), (.c (iC 0)), (.c (iC (w64 ((w64 (2 * k)) - 1))))] _ _ [] _ _ _ _ (w_impl_within l 0 (w64 ((w64 (2 * k)) - 1)) r7 hr7) rfl cb119 (.cons (.c (.same rfl)) (.cons (.c (.same rfl)) (.cons (.c (.same rfl)) .nil))) rfl rfl trivial) ⟨rfl, rfl, ⟨rfl, rfl⟩, rfl, trivial⟩ trivial ⟨_, rfl, .inl ⟨_, rfl, (by rw [hb6]; rfl)⟩⟩ rfl ?_
      refine AOR.pure (LT.pickT (v := (.s (.c (bC r7)))) rfl hb6) ⟨rfl, rfl, trivial⟩ trivial rfl rfl ?_
      refine AOR.pure (LT.assign (v := (.s (.c (bC r7)))) rfl) ⟨rfl, trivial⟩ trivial rfl rfl ?_
      refine AOR.nil ?_
      refine AWR.nil ⟨rfl, Ent.of ⟨rfl, trivial⟩ trivial⟩
    · refine AOR.skip ⟨_, rfl, .inl ⟨_, rfl, (by rw [hb6]; rfl)⟩⟩ rfl ?_
      refine AOR.skip ⟨_, rfl, .inl ⟨_, rfl, (by rw [hb6]; rfl)⟩⟩ rfl ?_
      refine AOR.skip ⟨_, rfl, .inl ⟨_, rfl, (by rw [hb6]; rfl)⟩⟩ rfl ?_
      refine AOR.skip ⟨_, rfl, .inl ⟨_, rfl, (by rw [hb6]; rfl)⟩⟩ rfl ?_
      refine AOR.skip ⟨_, rfl, .inl ⟨_, rfl, (by rw [hb6]; rfl)⟩⟩ rfl ?_
      refine AOR.pure (LT.pickF (v := (.s (.c (bC false)))) rfl hb6) ⟨rfl, ⟨rfl, rfl⟩, trivial⟩ trivial rfl rfl ?_
      refine AOR.pure (LT.assign (v := (.s (.c (bC false)))) rfl) ⟨rfl, trivial⟩ trivial rfl rfl ?_
      refine AOR.nil ?_
      refine AWR.nil ⟨rfl, Ent.of ⟨rfl, trivial⟩ trivial⟩
  · refine AWR.ret (FPost.mk (.inr rfl) ⟨rfl, trivial⟩ trivial rfl ⟨PermP.sc, trivial⟩ trivial)
set_option maxRecDepth 100000 in
set_option maxHeartbeats 8000000 in
theorem w_impl_copyPebbles (p : TPebbles) : ∀ t, m_impl_copyPebbles p = some t → Fw.Fn Try.prog 207 [(.agg [(.pv (.xs false (p.Free.map encInt))), (.pv (.xs false (p.Tails.map encInt))), (.pv (.xs false (p.Placed.map encInt)))])] [] (.s (.agg [(.loc 0 0 t.Free.length), (.loc 1 0 t.Tails.length), (.loc 2 0 t.Placed.length)])) [(0, (.prow 3 (t.Free.map encInt))), (1, (.prow 3 (t.Tails.map encInt))), (2, (.prow 3 (t.Placed.map encInt)))] [] [0, 1, 2] := by
  refine Fw.Fn.of (P := Try.prog) (X := [0, 1, 2]) (pn := []) (rs := (fun (t : TPebbles) => [(.agg [(.loc 0 0 t.Free.length), (.loc 1 0 t.Tails.length), (.loc 2 0 t.Placed.length)])])) (dfs := (fun (t : TPebbles) => [(0, (.prow 3 (t.Free.map encInt))), (1, (.prow 3 (t.Tails.map encInt))), (2, (.prow 3 (t.Placed.map encInt)))])) Try.func207 rfl Try.ntmps207 (Nat.le_of_ble_eq_true rfl) rfl ?_
  intro w0 U0 R0 g0
  unfold m_impl_copyPebbles
  refine AWR.seq ?_
  refine AWR.region ?_
  refine AOR.step (LT.box (n := 21) (v := (.agg [(.pv (.xs false (p.Free.map encInt))), (.pv (.xs false (p.Tails.map encInt))), (.pv (.xs false (p.Placed.map encInt)))])) rfl sz140 (by exact rfl)) ⟨rfl, trivial⟩ trivial rfl rfl ?_
  refine AOR.step (LT.alloc (n := 22) (cells := [(sC nilV), (sC nilV), (sC nilV)]) rfl ti140 rfl rfl rfl) trivial trivial rfl rfl ?_
  refine AOR.nil ?_
  refine AWR.seq ?_
  refine AWR.draw mixed ?_
  refine AOD.pure (LT.fieldPl rfl fo140_0) ⟨rfl, trivial⟩ trivial rfl rfl ?_
  refine AOD.pure (LT.bload1 (c := (.pv (.xs false (p.Free.map encInt)))) rfl ag37 (by exact rfl)) ⟨rfl, trivial⟩ ⟨rfl, trivial⟩ rfl rfl ?_
  refine AOD.bind fun r1 hr1 => ?_
  refine AOD.step (@LT.callF Try.prog _ _ 96 _ _ [(.c (.pv (.xs false (p.Free.map encInt))))] _ _ [] _ _ _ _ ((show Fw.Fn Try.prog 96 [(.c (.pv (.xs false (p.Free.map encInt))))] [] (.s (.c (.loc 24 0 r1.length))) [(24, (.prow 3 (r1.map encInt)))] [] [24] from Fw.Fn.ren [(0, 24)] (w_impl_copyInts p.Free r1 hr1) rfl)) rfl cb96 (.cons (.c (.same rfl)) .nil) rfl rfl trivial) ⟨rfl, rfl, trivial⟩ trivial rfl rfl ?_
  refine AOD.pure (LT.fieldPl rfl fo140_1) ⟨rfl, trivial⟩ trivial rfl rfl ?_
  refine AOD.pure (LT.bload1 (c := (.pv (.xs false (p.Tails.map encInt)))) rfl ag37 (by exact rfl)) ⟨rfl, trivial⟩ ⟨rfl, trivial⟩ rfl rfl ?_
  refine AOD.bind fun r2 hr2 => ?_
  refine AOD.step (@LT.callF Try.prog _ _ 96 _ _ [(.c (.pv (.xs false (p.Tails.map encInt))))] _ _ [] _ _ _ _ ((show Fw.Fn Try.prog 96 [(.c (.pv (.xs false (p.Tails.map encInt))))] [] (.s (.c (.loc 26 0 r2.length))) [(26, (.prow 3 (r2.map encInt)))] [] [26] from Fw.Fn.ren [(0, 26)] (w_impl_copyInts p.Tails r2 hr2) rfl)) rfl cb96 (.cons (.c (.same rfl)) .nil) rfl rfl trivial) ⟨rfl, rfl, trivial⟩ trivial rfl rfl ?_
  refine AOD.pure (LT.fieldPl rfl fo140_2) ⟨rfl, trivial⟩ trivial rfl rfl ?_
  refine AOD.pure (LT.bload1 (c := (.pv (.xs false (p.Placed.map encInt)))) rfl ag37 (by exact rfl)) ⟨rfl, trivial⟩ ⟨rfl, trivial⟩ rfl rfl ?_
  refine AOD.bind fun r3 hr3 => ?_
  refine AOD.step (@LT.callF Try.prog _ _ 96 _ _ [(.c (.pv (.xs false (p.Placed.map encInt))))] _ _ [] _ _ _ _ ((show Fw.Fn Try.prog 96 [(.c (.pv (.xs false (p.Placed.map encInt))))] [] (.s (.c (.loc 28 0 r3.length))) [(28, (.prow 3 (r3.map encInt)))] [] [28] from Fw.Fn.ren [(0, 28)] (w_impl_copyInts p.Placed r3 hr3) rfl)) rfl cb96 (.cons (.c (.same rfl)) .nil) rfl rfl trivial) ⟨rfl, rfl, trivial⟩ trivial rfl rfl ?_
  refine AOD.pure (LT.build [(0, .tmp 5, (.c (.loc 24 0 r1.length))), (1, .tmp 8, (.c (.loc 26 0 r2.length))), (2, .tmp 11, (.c (.loc 28 0 r3.length)))] rfl rfl pl140 ti140 rfl rfl rfl) ⟨rfl, rfl, rfl, trivial⟩ trivial rfl rfl ?_
  refine AOD.step (LT.bstore (v := (.agg [(.loc 24 0 r1.length), (.loc 26 0 r2.length), (.loc 28 0 r3.length)])) (out := [(.loc 24 0 r1.length), (.loc 26 0 r2.length), (.loc 28 0 r3.length)]) rfl rfl (infS inf140) sz140 (by exact rfl) (by exact Nat.le_of_ble_eq_true rfl) (by exact rfl)) ⟨rfl, rfl, trivial⟩ ⟨rfl, trivial⟩ rfl rfl ?_
  refine AOD.nil (by kernel_rfl) ?_
  refine AWR.ent (Ent.of (σ' := [(2, (.s (.c (.pl 22 0))))]) (m' := [(22, (.row 140 [[(.loc 24 0 r1.length), (.loc 26 0 r2.length), (.loc 28 0 r3.length)]])), (24, (.prow 3 (r1.map encInt))), (26, (.prow 3 (r2.map encInt))), (28, (.prow 3 (r3.map encInt)))]) ⟨rfl, trivial⟩ ⟨rfl, rfl, rfl, rfl, trivial⟩) ?_
  refine AWR.ent (Ent.mv 24 0 rfl rfl) ?_
  refine AWR.ent (Ent.mv 26 1 rfl rfl) ?_
  refine AWR.ent (Ent.mv 28 2 rfl rfl) ?_
  refine AWR.ent (Ent.of (σ' := [(2, (.s (.c (.pl 22 0))))]) (m' := [(0, (.prow 3 (r1.map encInt))), (1, (.prow 3 (r2.map encInt))), (2, (.prow 3 (r3.map encInt))), (22, (.row 140 [[(.loc 0 0 r1.length), (.loc 1 0 r2.length), (.loc 2 0 r3.length)]]))]) ⟨rfl, trivial⟩ ⟨rfl, rfl, rfl, rfl, trivial⟩) ?_
  refine AWR.ret (FPost.mk (.inr rfl) ⟨⟨_, _, _, rfl, rfl, rfl, ag140, sz140, _, (infS inf140)⟩, trivial⟩ ⟨rfl, rfl, rfl, trivial⟩ rfl ⟨⟨trivial, trivial, trivial, trivial⟩, trivial⟩ ⟨PermO.prow' perm_encInt, PermO.prow' perm_encInt, PermO.prow' perm_encInt, trivial⟩)
set_option maxRecDepth 100000 in
set_option maxHeartbeats 8000000 in
theorem w_impl_moveTo (bars : (List TBar)) (p : TPebbles) (a : Int) (b : Int) : ∀ t, m_impl_moveTo bars p a b = some t → Fw.Fn Try.prog 214 [(.c (.pv (.xs false (bars.map encTBar)))), (.c (.pl 0 0)), (.c (iC a)), (.c (iC b))] [(0, (.row 140 [[(.loc 1 0 p.Free.length), (.loc 2 0 p.Tails.length), (.loc 3 0 p.Placed.length)]])), (1, (.prow 3 (p.Free.map encInt))), (2, (.prow 3 (p.Tails.map encInt))), (3, (.prow 3 (p.Placed.map encInt)))] (.s (.c (bC t.1))) [(0, (.row 140 [[(.loc 1 0 t.2.Free.length), (.loc 2 0 t.2.Tails.length), (.loc 3 0 t.2.Placed.length)]])), (1, (.prow 3 (t.2.Free.map encInt))), (2, (.prow 3 (t.2.Tails.map encInt))), (3, (.prow 3 (t.2.Placed.map encInt)))] [0, 1, 2, 3] [1, 2, 3] := by
  refine Fw.Fn.of (P := Try.prog) (X := [1, 2, 3]) (pn := [0]) (rs := (fun (t : (Bool × TPebbles)) => [(.c (bC t.1))])) (dfs := (fun (t : (Bool × TPebbles)) => [(0, (.row 140 [[(.loc 1 0 t.2.Free.length), (.loc 2 0 t.2.Tails.length), (.loc 3 0 t.2.Placed.length)]])), (1, (.prow 3 (t.2.Free.map encInt))), (2, (.prow 3 (t.2.Tails.map encInt))), (3, (.prow 3 (t.2.Placed.map encInt)))])) Try.func214 rfl Try.ntmps214 (Nat.le_of_ble_eq_true rfl) rfl ?_
  intro w0 U0 R0 g0
  unfold m_impl_moveTo
  refine AWR.seq ?_
  refine AWR.region ?_
  refine AOR.pure (LT.assign (v := (.s (.c (bC false)))) rfl) ⟨⟨rfl, rfl⟩, trivial⟩ trivial rfl rfl ?_
  refine AOR.nil ?_
  refine AWR.seq ?_
  refine AWR.region ?_
  refine AOR.step (LT.makeMap (n := 21) rfl) trivial trivial rfl rfl ?_
  refine AOR.pure (LT.move (v := (.s (.c (iC a)))) rfl) ⟨rfl, trivial⟩ trivial rfl rfl ?_
  refine AOR.step (LT.mapPut (v := .tup []) (.inr rfl) rfl map170) ⟨rfl, rfl, ⟨rfl, rfl⟩, trivial⟩ ⟨rfl, trivial⟩ rfl rfl ?_
  refine AOR.pure (LT.move (v := (.s (.c (.mref 21)))) rfl) ⟨rfl, trivial⟩ trivial rfl rfl ?_
  refine AOR.pure (LT.assign (v := (.s (.c (.mref 21)))) rfl) ⟨rfl, trivial⟩ trivial rfl rfl ?_
  refine AOR.nil ?_
  refine AWR.seq ?_
  refine AWR.region ?_
  refine AOR.pure (LT.move (v := (.s (.c (iC a)))) rfl) ⟨rfl, trivial⟩ trivial rfl rfl ?_
  refine AOR.step (LT.tbuildSlice (n := 22) (enc := encInt) [(0, .tmp 23, (.c (iC a)))] ([a] : List Int) rfl rfl und37 ti3 rfl rfl rfl rfl (by decide) (fun _ => rfl) rfl) ⟨rfl, trivial⟩ trivial rfl rfl ?_
  refine AOR.pure (LT.assign (v := (.s (.c (.loc 22 0 ([a] : List Int).length)))) rfl) ⟨rfl, trivial⟩ trivial rfl rfl ?_
  refine AOR.nil ?_
  refine AWR.seq ?_
  refine AWR.seq ?_
  refine AWR.ent (Ent.of (σ' := [(0, (.s (.c (.pv (.xs false (bars.map encTBar)))))), (1, (.s (.c (.pl 0 0)))), (2, (.s (.c (iC a)))), (3, (.s (.c (iC b)))), (9, (.s (.c (.mref 21)))), (10, (.s (.c (.loc 22 0 ([a] : List Int).length))))]) (m' := [(0, (.row 140 [[(.loc 1 0 p.Free.length), (.loc 2 0 p.Tails.length), (.loc 3 0 p.Placed.length)]])), (1, (.prow 3 (p.Free.map encInt))), (2, (.prow 3 (p.Tails.map encInt))), (3, (.prow 3 (p.Placed.map encInt))), (21, (.mp (mput ([] : List (Int × Int)) a (-1)))), (22, (.prow 3 (([a] : List Int).map encInt)))]) ⟨rfl, rfl, rfl, rfl, rfl, rfl, trivial⟩ ⟨rfl, rfl, rfl, rfl, rfl, rfl, trivial⟩) ?_
  refine AWR.region ?_
  refine AOR.pure (LT.assign (v := (.s (.c (iC 0)))) rfl) ⟨⟨rfl, rfl⟩, trivial⟩ trivial rfl rfl ?_
  refine AOR.nil ?_
  refine AWR.block ?_
  refine AWR.loopR (id := 0) (m_impl_moveTo_L7 bars p a b) (fun s1 => ([(0, (.s (.c (.pv (.xs false (bars.map encTBar)))))), (1, (.s (.c (.pl 0 0)))), (2, (.s (.c (iC a)))), (3, (.s (.c (iC b)))), (9, (.s (.c (.mref 21)))), (10, (.s (.c (.loc 22 0 s1.2.2.length)))), (11, (.s (.c (iC s1.1))))], [(0, (.row 140 [[(.loc 1 0 p.Free.length), (.loc 2 0 p.Tails.length), (.loc 3 0 p.Placed.length)]])), (1, (.prow 3 (p.Free.map encInt))), (2, (.prow 3 (p.Tails.map encInt))), (3, (.prow 3 (p.Placed.map encInt))), (21, (.mp s1.2.1)), (22, (.prow 3 (s1.2.2.map encInt)))])) (fun b120 => ([], [(0, (.row 140 [[(.loc 1 0 p.Free.length), (.loc 2 0 p.Tails.length), (.loc 3 0 p.Placed.length)]])), (1, (.prow 3 (p.Free.map encInt))), (2, (.prow 3 (p.Tails.map encInt))), (3, (.prow 3 (p.Placed.map encInt)))])) (FPost Try.prog Try.f214.results.toList [(0, (.row 140 [[(.loc 1 0 p.Free.length), (.loc 2 0 p.Tails.length), (.loc 3 0 p.Placed.length)]])), (1, (.prow 3 (p.Free.map encInt))), (2, (.prow 3 (p.Tails.map encInt))), (3, (.prow 3 (p.Placed.map encInt)))] [1, 2, 3] (fun (t : (Bool × TPebbles)) => [(.c (bC t.1))]) (fun (t : (Bool × TPebbles)) => [(0, (.row 140 [[(.loc 1 0 t.2.Free.length), (.loc 2 0 t.2.Tails.length), (.loc 3 0 t.2.Placed.length)]])), (1, (.prow 3 (t.2.Free.map encInt))), (2, (.prow 3 (t.2.Tails.map encInt))), (3, (.prow 3 (t.2.Placed.map encInt)))])) ?_ (Ent.of ⟨rfl, rfl, rfl, rfl, rfl, rfl, rfl, trivial⟩ ⟨rfl, rfl, rfl, rfl, rfl, rfl, trivial⟩) rfl (fun b120 _ => ?_) (by intro r t σ m ht hk; injection ht with ht; subst ht; exact hk)
  · intro s1
    unfold m_impl_moveTo_L7
    refine AWR.seq ?_
    refine AWR.seq ?_
    refine AWR.region ?_
    refine AOR.pure (LT.move (v := (.s (.c (iC s1.1)))) rfl) ⟨rfl, trivial⟩ trivial rfl rfl ?_
    refine AOR.pure (LT.move (v := (.s (.c (.loc 22 0 s1.2.2.length)))) rfl) ⟨rfl, trivial⟩ trivial rfl rfl ?_
    refine AOR.pure (LT.lenLoc rfl und37) ⟨rfl, trivial⟩ trivial rfl rfl ?_
    refine AOR.pure (LT.lss rfl) ⟨rfl, rfl, trivial⟩ trivial rfl rfl ?_
    refine AOR.nil ?_
    refine AWR.cond rfl (fun hc121 => ?_) (fun hc121 => ?_)
    · refine AWR.skip ?_
      refine AWR.seq ?_
      refine AWR.block ?_
      refine AWR.seq ?_
      refine AWR.region ?_
      refine AOR.pure (LT.move (v := (.s (.c (.pl 0 0)))) rfl) ⟨rfl, trivial⟩ trivial rfl rfl ?_
      refine AOR.pure (LT.nilPl rfl) ⟨rfl, trivial⟩ trivial rfl rfl ?_
      refine AOR.pure (LT.fieldPl rfl fo140_2) ⟨rfl, trivial⟩ trivial rfl rfl ?_
      refine AOR.pure (LT.bload1 (c := (.loc 3 0 p.Placed.length)) rfl ag37 (by exact rfl)) ⟨rfl, trivial⟩ ⟨rfl, trivial⟩ rfl rfl ?_
      refine AOR.pure (LT.lenLoc rfl und37) ⟨rfl, trivial⟩ trivial rfl rfl ?_
      refine AOR.pure (LT.move (v := (.s (.c (iC 0)))) rfl) ⟨⟨rfl, rfl⟩, trivial⟩ trivial rfl rfl ?_
      refine AOR.nil ?_
      refine AWR.block ?_
      refine AWR.loopR (id := 2) (m_impl_moveTo_L10 bars p a b s1) (fun s122 => ([(0, (.s (.c (.pv (.xs false (bars.map encTBar)))))), (1, (.s (.c (.pl 0 0)))), (2, (.s (.c (iC a)))), (3, (.s (.c (iC b)))), (9, (.s (.c (.mref 21)))), (10, (.s (.c (.loc 22 0 s122.2.2.length)))), (11, (.s (.c (iC s1.1)))), (34, (.s (.c (.loc 3 0 p.Placed.length)))), (35, (.s (.c (iC (p.Placed.length : Int))))), (36, (.s (.c (iC s122.1))))], [(0, (.row 140 [[(.loc 1 0 p.Free.length), (.loc 2 0 p.Tails.length), (.loc 3 0 p.Placed.length)]])), (1, (.prow 3 (p.Free.map encInt))), (2, (.prow 3 (p.Tails.map encInt))), (3, (.prow 3 (p.Placed.map encInt))), (21, (.mp s122.2.1)), (22, (.prow 3 (s122.2.2.map encInt)))])) (fun b179 => ([(0, (.s (.c (.pv (.xs false (bars.map encTBar)))))), (1, (.s (.c (.pl 0 0)))), (2, (.s (.c (iC a)))), (3, (.s (.c (iC b)))), (9, (.s (.c (.mref 21)))), (10, (.s (.c (.loc 22 0 b179.2.2.length)))), (11, (.s (.c (iC b179.1))))], [(0, (.row 140 [[(.loc 1 0 p.Free.length), (.loc 2 0 p.Tails.length), (.loc 3 0 p.Placed.length)]])), (1, (.prow 3 (p.Free.map encInt))), (2, (.prow 3 (p.Tails.map encInt))), (3, (.prow 3 (p.Placed.map encInt))), (21, (.mp b179.2.1)), (22, (.prow 3 (b179.2.2.map encInt)))])) (FPost Try.prog Try.f214.results.toList [(0, (.row 140 [[(.loc 1 0 p.Free.length), (.loc 2 0 p.Tails.length), (.loc 3 0 p.Placed.length)]])), (1, (.prow 3 (p.Free.map encInt))), (2, (.prow 3 (p.Tails.map encInt))), (3, (.prow 3 (p.Placed.map encInt)))] [1, 2, 3] (fun (t : (Bool × TPebbles)) => [(.c (bC t.1))]) (fun (t : (Bool × TPebbles)) => [(0, (.row 140 [[(.loc 1 0 t.2.Free.length), (.loc 2 0 t.2.Tails.length), (.loc 3 0 t.2.Placed.length)]])), (1, (.prow 3 (t.2.Free.map encInt))), (2, (.prow 3 (t.2.Tails.map encInt))), (3, (.prow 3 (t.2.Placed.map encInt)))])) ?_ (Ent.of ⟨rfl, rfl, rfl, rfl, rfl, rfl, rfl, rfl, rfl, rfl, trivial⟩ ⟨rfl, rfl, rfl, rfl, rfl, rfl, trivial⟩) rfl (fun b179 _ => ?_) (by intro r t σ m ht hk; injection ht with ht; subst ht; exact ⟨rfl, hk⟩)
      · intro s122
        unfold m_impl_moveTo_L10
        refine AWR.seq ?_
        refine AWR.region ?_
        refine AOR.pure (LT.lss rfl) ⟨rfl, rfl, trivial⟩ trivial rfl rfl ?_
        refine AOR.nil ?_
        refine AWR.seq ?_
        refine AWR.cond rfl (fun hc180 => ?_) (fun hc180 => ?_)
        · refine AWR.skip ?_
          refine AWR.seq ?_
          refine AWR.block ?_
          refine AWR.seq ?_
          refine AWR.region ?_
          refine AOR.pure (LT.move (v := (.s (.c (iC s122.1)))) rfl) ⟨rfl, trivial⟩ trivial rfl rfl ?_
          refine AOR.bind fun x181 hx181 => ?_
          refine AOR.pure (LT.tindexLoc rfl rfl el37 hx181) ⟨rfl, rfl, trivial⟩ ⟨rfl, trivial⟩ rfl rfl ?_
          refine AOR.pure (LT.tload1 (k := 0) rfl ag3 hx181 (by exact rfl) (by exact rfl)) ⟨rfl, trivial⟩ ⟨rfl, trivial⟩ rfl rfl ?_
          refine AOR.pure (LT.assign (v := (.s (.c (iC s122.1)))) rfl) ⟨rfl, trivial⟩ trivial rfl rfl ?_
          refine AOR.pure (LT.assign (v := (.s (.c (iC x181)))) rfl) ⟨rfl, trivial⟩ trivial rfl rfl ?_
          refine AOR.nil ?_
          refine AWR.seq ?_
          refine AWR.seq ?_
          refine AWR.draw mixed ?_
          refine AOD.pure (LT.move (v := (.s (.c (.pl 0 0)))) rfl) ⟨rfl, trivial⟩ trivial rfl rfl ?_
          refine AOD.pure (LT.nilPl rfl) ⟨rfl, trivial⟩ trivial rfl rfl ?_
          refine AOD.pure (LT.fieldPl rfl fo140_1) ⟨rfl, trivial⟩ trivial rfl rfl ?_
          refine AOD.pure (LT.bload1 (c := (.loc 2 0 p.Tails.length)) rfl ag37 (by exact rfl)) ⟨rfl, trivial⟩ ⟨rfl, trivial⟩ rfl rfl ?_
          refine AOD.pure (LT.move (v := (.s (.c (iC s122.1)))) rfl) ⟨rfl, trivial⟩ trivial rfl rfl ?_
          refine AOD.bind fun x182 hx182 => ?_
          refine AOD.pure (LT.tindexLoc rfl rfl el37 hx182) ⟨rfl, rfl, trivial⟩ ⟨rfl, trivial⟩ rfl rfl ?_
          refine AOD.pure (LT.tload1 (k := 0) rfl ag3 hx182 (by exact rfl) (by exact rfl)) ⟨rfl, trivial⟩ ⟨rfl, trivial⟩ rfl rfl ?_
          refine AOD.pure (LT.move (v := (.s (.c (.loc 22 0 s122.2.2.length)))) rfl) ⟨rfl, trivial⟩ trivial rfl rfl ?_
          refine AOD.pure (LT.move (v := (.s (.c (iC s1.1)))) rfl) ⟨rfl, trivial⟩ trivial rfl rfl ?_
          refine AOD.bind fun x183 hx183 => ?_
          refine AOD.pure (LT.tindexLoc rfl rfl el37 hx183) ⟨rfl, rfl, trivial⟩ ⟨rfl, trivial⟩ rfl rfl ?_
          refine AOD.pure (LT.tload1 (k := 0) rfl ag3 hx183 (by exact rfl) (by exact rfl)) ⟨rfl, trivial⟩ ⟨rfl, trivial⟩ rfl rfl ?_
          refine AOD.pure (LT.neq rfl) ⟨rfl, rfl, trivial⟩ trivial rfl rfl ?_
          refine AOD.nil (by kernel_rfl) ?_
          refine AWR.cond rfl (fun hc184 => ?_) (fun hc184 => ?_)
          · refine AWR.exit rfl ?_
            refine AWR.ent (Ent.of (σ' := [(0, (.s (.c (.pv (.xs false (bars.map encTBar)))))), (1, (.s (.c (.pl 0 0)))), (2, (.s (.c (iC a)))), (3, (.s (.c (iC b)))), (9, (.s (.c (.mref 21)))), (10, (.s (.c (.loc 22 0 s122.2.2.length)))), (11, (.s (.c (iC s1.1)))), (34, (.s (.c (.loc 3 0 p.Placed.length)))), (35, (.s (.c (iC (p.Placed.length : Int))))), (36, (.s (.c (iC s122.1))))]) (m' := [(0, (.row 140 [[(.loc 1 0 p.Free.length), (.loc 2 0 p.Tails.length), (.loc 3 0 p.Placed.length)]])), (1, (.prow 3 (p.Free.map encInt))), (2, (.prow 3 (p.Tails.map encInt))), (3, (.prow 3 (p.Placed.map encInt))), (21, (.mp s122.2.1)), (22, (.prow 3 (s122.2.2.map encInt)))]) ⟨rfl, rfl, rfl, rfl, rfl, rfl, rfl, rfl, rfl, rfl, trivial⟩ ⟨rfl, rfl, rfl, rfl, rfl, rfl, trivial⟩) ?_
            refine AWR.region ?_
            refine AOR.pure (LT.add rfl) ⟨rfl, ⟨rfl, rfl⟩, trivial⟩ trivial rfl rfl ?_
            refine AOR.pure (LT.move (v := (.s (.c (iC (w64 (s122.1 + 1)))))) rfl) ⟨rfl, trivial⟩ trivial rfl rfl ?_
            refine AOR.nil ?_
            refine AWR.nil ⟨rfl, Ent.of ⟨rfl, rfl, rfl, rfl, rfl, rfl, rfl, rfl, rfl, rfl, trivial⟩ ⟨rfl, rfl, rfl, rfl, rfl, rfl, trivial⟩⟩
          · refine AWR.skip ?_
            refine AWR.seq ?_
            refine AWR.ent (Ent.of (σ' := [(0, (.s (.c (.pv (.xs false (bars.map encTBar)))))), (1, (.s (.c (.pl 0 0)))), (2, (.s (.c (iC a)))), (3, (.s (.c (iC b)))), (9, (.s (.c (.mref 21)))), (10, (.s (.c (.loc 22 0 s122.2.2.length)))), (11, (.s (.c (iC s1.1)))), (12, (.s (.c (iC s122.1)))), (13, (.s (.c (iC x181)))), (34, (.s (.c (.loc 3 0 p.Placed.length)))), (35, (.s (.c (iC (p.Placed.length : Int))))), (36, (.s (.c (iC s122.1))))]) (m' := [(0, (.row 140 [[(.loc 1 0 p.Free.length), (.loc 2 0 p.Tails.length), (.loc 3 0 p.Placed.length)]])), (1, (.prow 3 (p.Free.map encInt))), (2, (.prow 3 (p.Tails.map encInt))), (3, (.prow 3 (p.Placed.map encInt))), (21, (.mp s122.2.1)), (22, (.prow 3 (s122.2.2.map encInt)))]) ⟨rfl, rfl, rfl, rfl, rfl, rfl, rfl, rfl, rfl, rfl, rfl, rfl, trivial⟩ ⟨rfl, rfl, rfl, rfl, rfl, rfl, trivial⟩) ?_
            refine AWR.draw mixed ?_
            refine AOD.pure (LT.move (v := (.s (.c (.pv (.xs false (bars.map encTBar)))))) rfl) ⟨rfl, trivial⟩ trivial rfl rfl ?_
            refine AOD.pure (LT.move (v := (.s (.c (iC x181)))) rfl) ⟨rfl, trivial⟩ trivial rfl rfl ?_
            refine AOD.bind fun x185 hx185 => ?_
            refine AOD.pure (LT.tindexRO (enc := encTBar) rfl el24 hx185 sz79) ⟨rfl, rfl, trivial⟩ trivial rfl rfl ?_
            refine AOD.pure (LT.loadPxN rfl ag79 (infS inf79) (by exact sz79.symm)) ⟨rfl, trivial⟩ trivial rfl rfl ?_
            refine AOD.pure (LT.move (v := (.s (.c (.loc 22 0 s122.2.2.length)))) rfl) ⟨rfl, trivial⟩ trivial rfl rfl ?_
            refine AOD.pure (LT.move (v := (.s (.c (iC s1.1)))) rfl) ⟨rfl, trivial⟩ trivial rfl rfl ?_
            refine AOD.bind fun x186 hx186 => ?_
            refine AOD.pure (LT.tindexLoc rfl rfl el37 hx186) ⟨rfl, rfl, trivial⟩ ⟨rfl, trivial⟩ rfl rfl ?_
            refine AOD.pure (LT.tload1 (k := 0) rfl ag3 hx186 (by exact rfl) (by exact rfl)) ⟨rfl, trivial⟩ ⟨rfl, trivial⟩ rfl rfl ?_
            refine AOD.bind fun r187 hr187 => ?_
            refine AOD.pure (@LT.callF Try.prog _ _ 102 _ _ [(.agg [(iC x185.A), (iC x185.B)]), (.c (iC x186))] _ _ [] _ _ _ _ (w_impl_Bar_other x185 x186 r187 hr187) rfl cb102 (.cons (.agg (.cons (.same rfl) (.cons (.same rfl) .nil))) (.cons (.c (.same rfl)) .nil)) rfl rfl trivial) ⟨rfl, rfl, rfl, trivial⟩ trivial rfl rfl ?_
            refine AOD.pure (LT.assign (v := (.s (.c (iC r187)))) rfl) ⟨rfl, trivial⟩ trivial rfl rfl ?_
            refine AOD.nil (by kernel_rfl) ?_
            refine AWR.seq ?_
            refine AWR.seq ?_
            refine AWR.region ?_
            refine AOR.pure (LT.move (v := (.s (.c (.mref 21)))) rfl) ⟨rfl, trivial⟩ trivial rfl rfl ?_
            refine AOR.pure (LT.move (v := (.s (.c (iC r187)))) rfl) ⟨rfl, trivial⟩ trivial rfl rfl ?_
            refine AOR.pure (LT.mapGetOk rfl map170) ⟨rfl, rfl, trivial⟩ ⟨rfl, trivial⟩ rfl rfl ?_
            refine AOR.pure (LT.move (v := (.tup [(.c (iC (mget s122.2.1 r187))), (.c (bC (mhas s122.2.1 r187)))])) rfl) ⟨rfl, trivial⟩ trivial rfl rfl ?_
            refine AOR.pure (LT.extract (v := (.c (iC (mget s122.2.1 r187)))) rfl (by exact rfl)) ⟨rfl, trivial⟩ trivial rfl rfl ?_
            refine AOR.pure (LT.extract (v := (.c (bC (mhas s122.2.1 r187)))) rfl (by exact rfl)) ⟨rfl, trivial⟩ trivial rfl rfl ?_
            refine AOR.pure (LT.assign (v := (.s (.c (iC (mget s122.2.1 r187))))) rfl) ⟨rfl, trivial⟩ trivial rfl rfl ?_
            refine AOR.pure (LT.assign (v := (.s (.c (bC (mhas s122.2.1 r187))))) rfl) ⟨rfl, trivial⟩ trivial rfl rfl ?_
            refine AOR.nil ?_
            refine AWR.seq ?_
            refine AWR.ent (Ent.of (σ' := [(0, (.s (.c (.pv (.xs false (bars.map encTBar)))))), (1, (.s (.c (.pl 0 0)))), (2, (.s (.c (iC a)))), (3, (.s (.c (iC b)))), (9, (.s (.c (.mref 21)))), (10, (.s (.c (.loc 22 0 s122.2.2.length)))), (11, (.s (.c (iC s1.1)))), (12, (.s (.c (iC s122.1)))), (14, (.s (.c (iC r187)))), (16, (.s (.c (bC (mhas s122.2.1 r187))))), (34, (.s (.c (.loc 3 0 p.Placed.length)))), (35, (.s (.c (iC (p.Placed.length : Int))))), (36, (.s (.c (iC s122.1))))]) (m' := [(0, (.row 140 [[(.loc 1 0 p.Free.length), (.loc 2 0 p.Tails.length), (.loc 3 0 p.Placed.length)]])), (1, (.prow 3 (p.Free.map encInt))), (2, (.prow 3 (p.Tails.map encInt))), (3, (.prow 3 (p.Placed.map encInt))), (21, (.mp s122.2.1)), (22, (.prow 3 (s122.2.2.map encInt)))]) ⟨rfl, rfl, rfl, rfl, rfl, rfl, rfl, rfl, rfl, rfl, rfl, rfl, rfl, trivial⟩ ⟨rfl, rfl, rfl, rfl, rfl, rfl, trivial⟩) ?_
            refine AWR.region ?_
            refine AOR.pure (LT.move (v := (.s (.c (bC (mhas s122.2.1 r187))))) rfl) ⟨rfl, trivial⟩ trivial rfl rfl ?_
            refine AOR.nil ?_
            refine AWR.cond rfl (fun hc188 => ?_) (fun hc188 => ?_)
            · refine AWR.exit rfl ?_
              refine AWR.region ?_
              refine AOR.pure (LT.add rfl) ⟨rfl, ⟨rfl, rfl⟩, trivial⟩ trivial rfl rfl ?_
              refine AOR.pure (LT.move (v := (.s (.c (iC (w64 (s122.1 + 1)))))) rfl) ⟨rfl, trivial⟩ trivial rfl rfl ?_
              refine AOR.nil ?_
              refine AWR.nil ⟨rfl, Ent.of ⟨rfl, rfl, rfl, rfl, rfl, rfl, rfl, rfl, rfl, rfl, trivial⟩ ⟨rfl, rfl, rfl, rfl, rfl, rfl, trivial⟩⟩
            · refine AWR.skip ?_
              refine AWR.seq ?_
              refine AWR.region ?_
              refine AOR.pure (LT.move (v := (.s (.c (.mref 21)))) rfl) ⟨rfl, trivial⟩ trivial rfl rfl ?_
              refine AOR.pure (LT.move (v := (.s (.c (iC r187)))) rfl) ⟨rfl, trivial⟩ trivial rfl rfl ?_
              refine AOR.pure (LT.move (v := (.s (.c (iC s122.1)))) rfl) ⟨rfl, trivial⟩ trivial rfl rfl ?_
              refine AOR.step (LT.mapPut (v := .tup []) (.inl rfl) rfl map170) ⟨rfl, rfl, rfl, trivial⟩ ⟨rfl, trivial⟩ rfl rfl ?_
              refine AOR.nil ?_
              refine AWR.seq ?_
              refine AWR.seq ?_
              refine AWR.joinK (fun j191 => ([(0, (.s (.c (.pv (.xs false (bars.map encTBar)))))), (1, (.s (.c (.pl 0 0)))), (2, (.s (.c (iC a)))), (3, (.s (.c (iC b)))), (9, (.s (.c (.mref 21)))), (10, (.s (.c (.loc 22 0 s122.2.2.length)))), (11, (.s (.c (iC s1.1)))), (14, (.s (.c (iC r187)))), (34, (.s (.c (.loc 3 0 p.Placed.length)))), (35, (.s (.c (iC (p.Placed.length : Int))))), (36, (.s (.c (iC s122.1)))), (84, (.s (.c (bC j191))))], [(0, (.row 140 [[(.loc 1 0 p.Free.length), (.loc 2 0 p.Tails.length), (.loc 3 0 p.Placed.length)]])), (1, (.prow 3 (p.Free.map encInt))), (2, (.prow 3 (p.Tails.map encInt))), (3, (.prow 3 (p.Placed.map encInt))), (21, (.mp (mput s122.2.1 r187 s122.1))), (22, (.prow 3 (s122.2.2.map encInt)))])) ?_ (fun j191 _ => ?_)
              · refine AWR.region ?_
                refine AOR.pure (LT.move (v := (.s (.c (iC r187)))) rfl) ⟨rfl, trivial⟩ trivial rfl rfl ?_
                refine AOR.pure (LT.move (v := (.s (.c (iC b)))) rfl) ⟨rfl, trivial⟩ trivial rfl rfl ?_
                refine AOR.pure (LT.eql rfl) ⟨rfl, rfl, trivial⟩ trivial rfl rfl ?_
                refine AOR.pure (LT.move (v := (.s (.c (bC (r187 == b))))) rfl) ⟨rfl, trivial⟩ trivial rfl rfl ?_
                refine AOR.split (fun hb192 => ?_) (fun hb192 => ?_)
                · refine AOR.skip ⟨_, rfl, .inl ⟨_, rfl, (by rw [hb192]; rfl)⟩⟩ rfl ?_
                  refine AOR.skip ⟨_, rfl, .inl ⟨_, rfl, (by rw [hb192]; rfl)⟩⟩ rfl ?_
                  refine AOR.skip ⟨_, rfl, .inl ⟨_, rfl, (by rw [hb192]; rfl)⟩⟩ rfl ?_
                  refine AOR.skip ⟨_, rfl, .inl ⟨_, rfl, (by rw [hb192]; rfl)⟩⟩ rfl ?_
                  refine AOR.skip ⟨_, rfl, .inl ⟨_, rfl, (by rw [hb192]; rfl)⟩⟩ rfl ?_
                  refine AOR.skip ⟨_, rfl, .inl ⟨_, rfl, (by rw [hb192]; rfl)⟩⟩ rfl ?_
                  refine AOR.skip ⟨_, rfl, .inl ⟨_, rfl, (by rw [hb192]; rfl)⟩⟩ rfl ?_
                  refine AOR.skip ⟨_, rfl, .inl ⟨_, rfl, (by rw [hb192]; rfl)⟩⟩ rfl ?_
                  refine AOR.pure (LT.pickT (v := (.s (.c (bC true)))) rfl hb192) ⟨rfl, ⟨rfl, rfl⟩, trivial⟩ trivial rfl rfl ?_
                  refine AOR.nil ?_
                  refine AWR.nil ⟨rfl, Ent.of ⟨rfl, rfl, rfl, rfl, rfl, rfl, rfl, rfl, rfl, rfl, rfl, rfl, trivial⟩ ⟨rfl, rfl, rfl, rfl, rfl, rfl, trivial⟩⟩
                · refine AOR.pure (LT.move (v := (.s (.c (.pl 0 0)))) rfl) ⟨rfl, trivial⟩ trivial ⟨_, rfl, .inl ⟨_, rfl, (by rw [hb192]; rfl)⟩⟩ rfl ?_
                  refine AOR.pure (LT.nilPl rfl) ⟨rfl, trivial⟩ trivial ⟨_, rfl, .inl ⟨_, rfl, (by rw [hb192]; rfl)⟩⟩ rfl ?_
                  refine AOR.pure (LT.fieldPl rfl fo140_0) ⟨rfl, trivial⟩ trivial ⟨_, rfl, .inl ⟨_, rfl, (by rw [hb192]; rfl)⟩⟩ rfl ?_
                  refine AOR.pure (LT.bload1 (c := (.loc 1 0 p.Free.length)) rfl ag37 (by exact rfl)) ⟨rfl, trivial⟩ ⟨rfl, trivial⟩ ⟨_, rfl, .inl ⟨_, rfl, (by rw [hb192]; rfl)⟩⟩ rfl ?_
                  refine AOR.pure (LT.move (v := (.s (.c (iC r187)))) rfl) ⟨rfl, trivial⟩ trivial ⟨_, rfl, .inl ⟨_, rfl, (by rw [hb192]; rfl)⟩⟩ rfl ?_
                  refine AOR.bind fun x193 hx193 => ?_
                  refine AOR.pure (LT.tindexLoc rfl rfl el37 hx193) ⟨rfl, rfl, trivial⟩ ⟨rfl, trivial⟩ ⟨_, rfl, .inl ⟨_, rfl, (by rw [hb192]; rfl)⟩⟩ rfl ?_
                  refine AOR.pure (LT.tload1 (k := 0) rfl ag3 hx193 (by exact rfl) (by exact rfl)) ⟨rfl, trivial⟩ ⟨rfl, trivial⟩ ⟨_, rfl, .inl ⟨_, rfl, (by rw [hb192]; rfl)⟩⟩ rfl ?_
                  refine AOR.pure (LT.eql rfl) ⟨rfl, ⟨rfl, rfl⟩, trivial⟩ trivial ⟨_, rfl, .inl ⟨_, rfl, (by rw [hb192]; rfl)⟩⟩ rfl ?_
                  refine AOR.pure (LT.pickF (v := (.s (.c (bC (x193 == 0))))) rfl hb192) ⟨rfl, rfl, trivial⟩ trivial rfl rfl ?_
                  refine AOR.nil ?_
                  refine AWR.nil ⟨rfl, Ent.of ⟨rfl, rfl, rfl, rfl, rfl, rfl, rfl, rfl, rfl, rfl, rfl, rfl, trivial⟩ ⟨rfl, rfl, rfl, rfl, rfl, rfl, trivial⟩⟩
              · refine AWR.cond rfl (fun hc194 => ?_) (fun hc194 => ?_)
                · refine AWR.seq ?_
                  refine AWR.region ?_
                  refine AOR.pure (LT.move (v := (.s (.c (.loc 22 0 s122.2.2.length)))) rfl) ⟨rfl, trivial⟩ trivial rfl rfl ?_
                  refine AOR.pure (LT.move (v := (.s (.c (iC r187)))) rfl) ⟨rfl, trivial⟩ trivial rfl rfl ?_
                  refine AOR.step (LT.tbuildSlice (n := 24) (enc := encInt) [(0, .tmp 86, (.c (iC r187)))] ([r187] : List Int) rfl rfl und37 ti3 rfl rfl rfl rfl (by decide) (fun _ => rfl) rfl) ⟨rfl, trivial⟩ trivial rfl rfl ?_
                  refine AOR.bind fun u195 hu195 => ?_
                  refine AOR.step (LT.tappP (enc := encInt) rfl rfl rfl und37 ti3 rfl (by decide) (by decide) (fun _ => rfl) (lim_le hu195)) ⟨rfl, rfl, trivial⟩ ⟨rfl, rfl, trivial⟩ rfl rfl ?_
                  refine AOR.pure (LT.assign (v := (.s (.c (.loc 22 0 (s122.2.2 ++ ([r187] : List Int)).length)))) rfl) ⟨rfl, trivial⟩ trivial rfl rfl ?_
                  refine AOR.nil ?_
                  refine AWR.exit rfl ?_
                  refine AWR.region ?_
                  refine AOR.pure (LT.add rfl) ⟨rfl, ⟨rfl, rfl⟩, trivial⟩ trivial rfl rfl ?_
                  refine AOR.pure (LT.move (v := (.s (.c (iC (w64 (s122.1 + 1)))))) rfl) ⟨rfl, trivial⟩ trivial rfl rfl ?_
                  refine AOR.nil ?_
                  refine AWR.nil ⟨rfl, Ent.of ⟨rfl, rfl, rfl, rfl, rfl, rfl, rfl, rfl, rfl, rfl, trivial⟩ ⟨rfl, rfl, rfl, rfl, rfl, rfl, trivial⟩⟩
                · refine AWR.skip ?_
                  refine AWR.seq ?_
                  refine AWR.region ?_
                  refine AOR.pure (LT.move (v := (.s (.c (.pl 0 0)))) rfl) ⟨rfl, trivial⟩ trivial rfl rfl ?_
                  refine AOR.pure (LT.nilPl rfl) ⟨rfl, trivial⟩ trivial rfl rfl ?_
                  refine AOR.pure (LT.fieldPl rfl fo140_0) ⟨rfl, trivial⟩ trivial rfl rfl ?_
                  refine AOR.pure (LT.bload1 (c := (.loc 1 0 p.Free.length)) rfl ag37 (by exact rfl)) ⟨rfl, trivial⟩ ⟨rfl, trivial⟩ rfl rfl ?_
                  refine AOR.pure (LT.move (v := (.s (.c (iC r187)))) rfl) ⟨rfl, trivial⟩ trivial rfl rfl ?_
                  refine AOR.bind fun x196 hx196 => ?_
                  refine AOR.pure (LT.tindexLoc rfl rfl el37 hx196) ⟨rfl, rfl, trivial⟩ ⟨rfl, trivial⟩ rfl rfl ?_
                  refine AOR.pure (LT.tload1 (k := 0) rfl ag3 hx196 (by exact rfl) (by exact rfl)) ⟨rfl, trivial⟩ ⟨rfl, trivial⟩ rfl rfl ?_
                  refine AOR.pure (LT.sub rfl) ⟨rfl, ⟨rfl, rfl⟩, trivial⟩ trivial rfl rfl ?_
                  refine AOR.bind fun x197 hx197 => ?_
                  refine AOR.pure (LT.tindexLoc rfl rfl el37 hx197) ⟨rfl, rfl, trivial⟩ ⟨rfl, trivial⟩ rfl rfl ?_
                  refine AOR.step (LT.tstore (k := 0) (v := (.c (iC (w64 (x196 - 1))))) (b' := (w64 (x196 - 1))) rfl rfl (infS inf3) sz3 (by exact rfl) hx197 (by exact rfl) (by exact Nat.le_of_ble_eq_true rfl) (by exact rfl)) ⟨rfl, rfl, trivial⟩ ⟨rfl, trivial⟩ rfl rfl ?_
                  refine AOR.nil ?_
                  refine AWR.seq ?_
                  refine AWR.ent (Ent.of (σ' := [(1, (.s (.c (.pl 0 0)))), (2, (.s (.c (iC a)))), (9, (.s (.c (.mref 21)))), (14, (.s (.c (iC r187))))]) (m' := [(0, (.row 140 [[(.loc 1 0 p.Free.length), (.loc 2 0 p.Tails.length), (.loc 3 0 p.Placed.length)]])), (1, (.prow 3 ((p.Free.set r187.toNat (w64 (x196 - 1))).map encInt))), (2, (.prow 3 (p.Tails.map encInt))), (3, (.prow 3 (p.Placed.map encInt))), (21, (.mp (mput s122.2.1 r187 s122.1)))]) ⟨rfl, rfl, rfl, rfl, trivial⟩ ⟨rfl, rfl, rfl, rfl, rfl, trivial⟩) ?_
                  refine AWR.region ?_
                  refine AOR.pure (LT.move (v := (.s (.c (.pl 0 0)))) rfl) ⟨rfl, trivial⟩ trivial rfl rfl ?_
                  refine AOR.pure (LT.nilPl rfl) ⟨rfl, trivial⟩ trivial rfl rfl ?_
                  refine AOR.pure (LT.fieldPl rfl fo140_0) ⟨rfl, trivial⟩ trivial rfl rfl ?_
                  refine AOR.pure (LT.bload1 (c := (.loc 1 0 p.Free.length)) rfl ag37 (by exact rfl)) ⟨rfl, trivial⟩ ⟨rfl, trivial⟩ rfl rfl ?_
                  refine AOR.pure (LT.move (v := (.s (.c (iC a)))) rfl) ⟨rfl, trivial⟩ trivial rfl rfl ?_
                  refine AOR.bind fun x198 hx198 => ?_
                  refine AOR.pure (LT.tindexLoc (show p.Free.length = (p.Free.set r187.toNat (w64 (x196 - 1))).length by simp only [List.length_set]) rfl el37 hx198) ⟨rfl, rfl, trivial⟩ ⟨rfl, trivial⟩ rfl rfl ?_
                  refine AOR.pure (LT.tload1 (k := 0) rfl ag3 hx198 (by exact rfl) (by exact rfl)) ⟨rfl, trivial⟩ ⟨rfl, trivial⟩ rfl rfl ?_
                  refine AOR.pure (LT.add rfl) ⟨rfl, ⟨rfl, rfl⟩, trivial⟩ trivial rfl rfl ?_
                  refine AOR.bind fun x199 hx199 => ?_
                  refine AOR.pure (LT.tindexLoc (show p.Free.length = (p.Free.set r187.toNat (w64 (x196 - 1))).length by simp only [List.length_set]) rfl el37 hx199) ⟨rfl, rfl, trivial⟩ ⟨rfl, trivial⟩ rfl rfl ?_
                  refine AOR.step (LT.tstore (k := 0) (v := (.c (iC (w64 (x198 + 1))))) (b' := (w64 (x198 + 1))) rfl rfl (infS inf3) sz3 (by exact rfl) hx199 (by exact rfl) (by exact Nat.le_of_ble_eq_true rfl) (by exact rfl)) ⟨rfl, rfl, trivial⟩ ⟨rfl, trivial⟩ rfl rfl ?_
                  refine AOR.nil ?_
                  refine AWR.seq ?_
                  refine AWR.seq ?_
                  refine AWR.ent (Ent.of (σ' := [(1, (.s (.c (.pl 0 0)))), (2, (.s (.c (iC a)))), (9, (.s (.c (.mref 21)))), (14, (.s (.c (iC r187))))]) (m' := [(0, (.row 140 [[(.loc 1 0 p.Free.length), (.loc 2 0 p.Tails.length), (.loc 3 0 p.Placed.length)]])), (1, (.prow 3 (((p.Free.set r187.toNat (w64 (x196 - 1))).set a.toNat (w64 (x198 + 1))).map encInt))), (2, (.prow 3 (p.Tails.map encInt))), (3, (.prow 3 (p.Placed.map encInt))), (21, (.mp (mput s122.2.1 r187 s122.1)))]) ⟨rfl, rfl, rfl, rfl, trivial⟩ ⟨rfl, rfl, rfl, rfl, rfl, trivial⟩) ?_
                  refine AWR.region ?_
                  refine AOR.pure (LT.move (v := (.s (.c (iC r187)))) rfl) ⟨rfl, trivial⟩ trivial rfl rfl ?_
                  refine AOR.pure (LT.assign (v := (.s (.c (iC r187)))) rfl) ⟨rfl, trivial⟩ trivial rfl rfl ?_
                  refine AOR.nil ?_
                  refine AWR.block ?_
                  refine AWR.loop1 (id := 4) (m_impl_moveTo_L11 p a s122 r187 x196 x198) (fun s200 => ([(1, (.s (.c (.pl 0 0)))), (2, (.s (.c (iC a)))), (9, (.s (.c (.mref 21)))), (17, (.s (.c (iC s200.1))))], [(0, (.row 140 [[(.loc 1 0 ((p.Free.set r187.toNat (w64 (x196 - 1))).set a.toNat (w64 (x198 + 1))).length), (.loc 2 0 s200.2.length), (.loc 3 0 p.Placed.length)]])), (1, (.prow 3 (((p.Free.set r187.toNat (w64 (x196 - 1))).set a.toNat (w64 (x198 + 1))).map encInt))), (2, (.prow 3 (s200.2.map encInt))), (3, (.prow 3 (p.Placed.map encInt))), (21, (.mp (mput s122.2.1 r187 s122.1)))])) (fun b207 => ([], [(0, (.row 140 [[(.loc 1 0 b207.1.length), (.loc 2 0 b207.2.length), (.loc 3 0 p.Placed.length)]])), (1, (.prow 3 (b207.1.map encInt))), (2, (.prow 3 (b207.2.map encInt))), (3, (.prow 3 (p.Placed.map encInt)))])) ?_ (Ent.of ⟨rfl, rfl, rfl, rfl, trivial⟩ ⟨(congrArg (fun l1 => (some (Ob.row 140 [[(.loc 1 0 l1), (.loc 2 0 p.Tails.length), (.loc 3 0 p.Placed.length)]]) : Option Ob)) (show p.Free.length = ((p.Free.set r187.toNat (w64 (x196 - 1))).set a.toNat (w64 (x198 + 1))).length by simp only [List.length_set])), rfl, rfl, rfl, rfl, trivial⟩) rfl (fun b207 _ => ?_)
                  · intro s200
                    unfold m_impl_moveTo_L11
                    refine AWR.seq ?_
                    refine AWR.seq ?_
                    refine AWR.region ?_
                    refine AOR.pure (LT.move (v := (.s (.c (iC s200.1)))) rfl) ⟨rfl, trivial⟩ trivial rfl rfl ?_
                    refine AOR.pure (LT.move (v := (.s (.c (iC a)))) rfl) ⟨rfl, trivial⟩ trivial rfl rfl ?_
                    refine AOR.pure (LT.neq rfl) ⟨rfl, rfl, trivial⟩ trivial rfl rfl ?_
                    refine AOR.nil ?_
                    refine AWR.cond rfl (fun hc208 => ?_) (fun hc208 => ?_)
                    · refine AWR.skip ?_
                      refine AWR.block ?_
                      refine AWR.seq ?_
                      refine AWR.region ?_
                      refine AOR.pure (LT.move (v := (.s (.c (.mref 21)))) rfl) ⟨rfl, trivial⟩ trivial rfl rfl ?_
                      refine AOR.pure (LT.move (v := (.s (.c (iC s200.1)))) rfl) ⟨rfl, trivial⟩ trivial rfl rfl ?_
                      refine AOR.pure (LT.mapGet rfl map170) ⟨rfl, rfl, trivial⟩ ⟨rfl, trivial⟩ rfl rfl ?_
                      refine AOR.pure (LT.assign (v := (.s (.c (iC (mget (mput s122.2.1 r187 s122.1) s200.1))))) rfl) ⟨rfl, trivial⟩ trivial rfl rfl ?_
                      refine AOR.nil ?_
                      refine AWR.seq ?_
                      refine AWR.region ?_
                      refine AOR.pure (LT.move (v := (.s (.c (.pl 0 0)))) rfl) ⟨rfl, trivial⟩ trivial rfl rfl ?_
                      refine AOR.pure (LT.nilPl rfl) ⟨rfl, trivial⟩ trivial rfl rfl ?_
                      refine AOR.pure (LT.fieldPl rfl fo140_1) ⟨rfl, trivial⟩ trivial rfl rfl ?_
                      refine AOR.pure (LT.bload1 (c := (.loc 2 0 s200.2.length)) rfl ag37 (by exact rfl)) ⟨rfl, trivial⟩ ⟨rfl, trivial⟩ rfl rfl ?_
                      refine AOR.pure (LT.move (v := (.s (.c (iC (mget (mput s122.2.1 r187 s122.1) s200.1))))) rfl) ⟨rfl, trivial⟩ trivial rfl rfl ?_
                      refine AOR.bind fun x209 hx209 => ?_
                      refine AOR.pure (LT.tindexLoc rfl rfl el37 hx209) ⟨rfl, rfl, trivial⟩ ⟨rfl, trivial⟩ rfl rfl ?_
                      refine AOR.pure (LT.tload1 (k := 0) rfl ag3 hx209 (by exact rfl) (by exact rfl)) ⟨rfl, trivial⟩ ⟨rfl, trivial⟩ rfl rfl ?_
                      refine AOR.pure (LT.assign (v := (.s (.c (iC x209)))) rfl) ⟨rfl, trivial⟩ trivial rfl rfl ?_
                      refine AOR.nil ?_
                      refine AWR.seq ?_
                      refine AWR.ent (Ent.of (σ' := [(1, (.s (.c (.pl 0 0)))), (2, (.s (.c (iC a)))), (9, (.s (.c (.mref 21)))), (17, (.s (.c (iC s200.1)))), (18, (.s (.c (iC (mget (mput s122.2.1 r187 s122.1) s200.1))))), (19, (.s (.c (iC x209))))]) (m' := [(0, (.row 140 [[(.loc 1 0 ((p.Free.set r187.toNat (w64 (x196 - 1))).set a.toNat (w64 (x198 + 1))).length), (.loc 2 0 s200.2.length), (.loc 3 0 p.Placed.length)]])), (1, (.prow 3 (((p.Free.set r187.toNat (w64 (x196 - 1))).set a.toNat (w64 (x198 + 1))).map encInt))), (2, (.prow 3 (s200.2.map encInt))), (3, (.prow 3 (p.Placed.map encInt))), (21, (.mp (mput s122.2.1 r187 s122.1)))]) ⟨rfl, rfl, rfl, rfl, rfl, rfl, trivial⟩ ⟨rfl, rfl, rfl, rfl, rfl, trivial⟩) ?_
                      refine AWR.region ?_
                      refine AOR.pure (LT.move (v := (.s (.c (.pl 0 0)))) rfl) ⟨rfl, trivial⟩ trivial rfl rfl ?_
                      refine AOR.pure (LT.nilPl rfl) ⟨rfl, trivial⟩ trivial rfl rfl ?_
                      refine AOR.pure (LT.fieldPl rfl fo140_1) ⟨rfl, trivial⟩ trivial rfl rfl ?_
                      refine AOR.pure (LT.bload1 (c := (.loc 2 0 s200.2.length)) rfl ag37 (by exact rfl)) ⟨rfl, trivial⟩ ⟨rfl, trivial⟩ rfl rfl ?_
                      refine AOR.pure (LT.move (v := (.s (.c (iC (mget (mput s122.2.1 r187 s122.1) s200.1))))) rfl) ⟨rfl, trivial⟩ trivial rfl rfl ?_
                      refine AOR.pure (LT.move (v := (.s (.c (iC s200.1)))) rfl) ⟨rfl, trivial⟩ trivial rfl rfl ?_
                      refine AOR.bind fun x210 hx210 => ?_
                      refine AOR.pure (LT.tindexLoc rfl rfl el37 hx210) ⟨rfl, rfl, trivial⟩ ⟨rfl, trivial⟩ rfl rfl ?_
                      refine AOR.step (LT.tstore (k := 0) (v := (.c (iC s200.1))) (b' := s200.1) rfl rfl (infS inf3) sz3 (by exact rfl) hx210 (by exact rfl) (by exact Nat.le_of_ble_eq_true rfl) (by exact rfl)) ⟨rfl, rfl, trivial⟩ ⟨rfl, trivial⟩ rfl rfl ?_
                      refine AOR.nil ?_
                      refine AWR.region ?_
                      refine AOR.pure (LT.move (v := (.s (.c (iC x209)))) rfl) ⟨rfl, trivial⟩ trivial rfl rfl ?_
                      refine AOR.pure (LT.assign (v := (.s (.c (iC x209)))) rfl) ⟨rfl, trivial⟩ trivial rfl rfl ?_
                      refine AOR.nil ?_
                      refine AWR.blk ?_
                      refine AWR.nil ⟨rfl, Ent.of ⟨rfl, rfl, rfl, rfl, trivial⟩ ⟨(congrArg (fun l1 => (some (Ob.row 140 [[(.loc 1 0 ((p.Free.set r187.toNat (w64 (x196 - 1))).set a.toNat (w64 (x198 + 1))).length), (.loc 2 0 l1), (.loc 3 0 p.Placed.length)]]) : Option Ob)) (show s200.2.length = (s200.2.set (mget (mput s122.2.1 r187 s122.1) s200.1).toNat s200.1).length by simp only [List.length_set])), rfl, rfl, rfl, rfl, trivial⟩⟩
                    · refine AWR.exit_end rfl ⟨rfl, Ent.of trivial ⟨rfl, rfl, rfl, rfl, trivial⟩⟩
                  · refine AWR.seq ?_
                    refine AWR.region ?_
                    refine AOR.pure (LT.assign (v := (.s (.c (bC true)))) rfl) ⟨⟨rfl, rfl⟩, trivial⟩ trivial rfl rfl ?_
                    refine AOR.nil ?_
                    refine AWR.ret ⟨rfl, FPost.mk (.inr rfl) ⟨rfl, trivial⟩ ⟨rfl, rfl, rfl, rfl, trivial⟩ rfl ⟨PermP.sc, trivial⟩ ⟨PermO.row1 ⟨trivial, trivial, trivial, trivial⟩, PermO.prow' perm_encInt, PermO.prow' perm_encInt, PermO.prow' perm_encInt, trivial⟩⟩
        · refine AWR.exit_end rfl ⟨rfl, Ent.of ⟨rfl, rfl, rfl, rfl, rfl, rfl, rfl, trivial⟩ ⟨rfl, rfl, rfl, rfl, rfl, rfl, trivial⟩⟩
      · refine AWR.blk ?_
        refine AWR.region ?_
        refine AOR.pure (LT.move (v := (.s (.c (iC b179.1)))) rfl) ⟨rfl, trivial⟩ trivial rfl rfl ?_
        refine AOR.pure (LT.add rfl) ⟨rfl, ⟨rfl, rfl⟩, trivial⟩ trivial rfl rfl ?_
        refine AOR.pure (LT.assign (v := (.s (.c (iC (w64 (b179.1 + 1)))))) rfl) ⟨rfl, trivial⟩ trivial rfl rfl ?_
        refine AOR.nil ?_
        refine AWR.nil ⟨rfl, Ent.of ⟨rfl, rfl, rfl, rfl, rfl, rfl, rfl, trivial⟩ ⟨rfl, rfl, rfl, rfl, rfl, rfl, trivial⟩⟩
    · refine AWR.exit_end rfl ⟨rfl, Ent.of trivial ⟨rfl, rfl, rfl, rfl, trivial⟩⟩
  · refine AWR.seq ?_
    refine AWR.region ?_
    refine AOR.pure (LT.assign (v := (.s (.c (bC false)))) rfl) ⟨⟨rfl, rfl⟩, trivial⟩ trivial rfl rfl ?_
    refine AOR.nil ?_
    refine AWR.ret (FPost.mk (.inr rfl) ⟨rfl, trivial⟩ ⟨rfl, rfl, rfl, rfl, trivial⟩ rfl ⟨PermP.sc, trivial⟩ ⟨PermO.row1 ⟨trivial, trivial, trivial, trivial⟩, PermO.prow' perm_encInt, PermO.prow' perm_encInt, PermO.prow' perm_encInt, trivial⟩)
end Go.Proofs.Ytoeigmhhmadmbaa
end
section
set_option linter.unusedVariables false
set_option linter.unusedSimpArgs false
set_option linter.unnecessarySimpa false
open Go Go.Fw
namespace Go.Proofs.Ytoeigmhhmadmbaa
set_option maxRecDepth 100000 in
set_option maxHeartbeats 8000000 in
theorem w_impl_gather (bars : (List TBar)) (p : TPebbles) (a : Int) (b : Int) (want : Int) : ∀ t, m_impl_gather bars p a b want = some t → Fw.Fn Try.prog 212 [(.c (.pv (.xs false (bars.map encTBar)))), (.c (.pl 0 0)), (.c (iC a)), (.c (iC b)), (.c (iC want))] [(0, (.row 140 [[(.loc 1 0 p.Free.length), (.loc 2 0 p.Tails.length), (.loc 3 0 p.Placed.length)]])), (1, (.prow 3 (p.Free.map encInt))), (2, (.prow 3 (p.Tails.map encInt))), (3, (.prow 3 (p.Placed.map encInt)))] (.s (.c (bC t.1))) [(0, (.row 140 [[(.loc 1 0 t.2.Free.length), (.loc 2 0 t.2.Tails.length), (.loc 3 0 t.2.Placed.length)]])), (1, (.prow 3 (t.2.Free.map encInt))), (2, (.prow 3 (t.2.Tails.map encInt))), (3, (.prow 3 (t.2.Placed.map encInt)))] [0, 1, 2, 3] [1, 2, 3] := by
  refine Fw.Fn.of (P := Try.prog) (X := [1, 2, 3]) (pn := [0]) (rs := (fun (t : (Bool × TPebbles)) => [(.c (bC t.1))])) (dfs := (fun (t : (Bool × TPebbles)) => [(0, (.row 140 [[(.loc 1 0 t.2.Free.length), (.loc 2 0 t.2.Tails.length), (.loc 3 0 t.2.Placed.length)]])), (1, (.prow 3 (t.2.Free.map encInt))), (2, (.prow 3 (t.2.Tails.map encInt))), (3, (.prow 3 (t.2.Placed.map encInt)))])) Try.func212 rfl Try.ntmps212 (Nat.le_of_ble_eq_true rfl) rfl ?_
  intro w0 U0 R0 g0
  unfold m_impl_gather
  refine AWR.seq ?_
  refine AWR.region ?_
  refine AOR.pure (LT.assign (v := (.s (.c (bC false)))) rfl) ⟨⟨rfl, rfl⟩, trivial⟩ trivial rfl rfl ?_
  refine AOR.nil ?_
  refine AWR.seq ?_
  refine AWR.block ?_
  refine AWR.loopR (id := 0) (m_impl_gather_L1 bars a b want) (fun s1 => ([(0, (.s (.c (.pv (.xs false (bars.map encTBar)))))), (1, (.s (.c (.pl 0 0)))), (2, (.s (.c (iC a)))), (3, (.s (.c (iC b)))), (4, (.s (.c (iC want))))], [(0, (.row 140 [[(.loc 1 0 s1.1.length), (.loc 2 0 s1.2.1.length), (.loc 3 0 s1.2.2.length)]])), (1, (.prow 3 (s1.1.map encInt))), (2, (.prow 3 (s1.2.1.map encInt))), (3, (.prow 3 (s1.2.2.map encInt)))])) (fun b24 => ([], [(0, (.row 140 [[(.loc 1 0 b24.1.length), (.loc 2 0 b24.2.1.length), (.loc 3 0 b24.2.2.length)]])), (1, (.prow 3 (b24.1.map encInt))), (2, (.prow 3 (b24.2.1.map encInt))), (3, (.prow 3 (b24.2.2.map encInt)))])) (FPost Try.prog Try.f212.results.toList [(0, (.row 140 [[(.loc 1 0 p.Free.length), (.loc 2 0 p.Tails.length), (.loc 3 0 p.Placed.length)]])), (1, (.prow 3 (p.Free.map encInt))), (2, (.prow 3 (p.Tails.map encInt))), (3, (.prow 3 (p.Placed.map encInt)))] [1, 2, 3] (fun (t : (Bool × TPebbles)) => [(.c (bC t.1))]) (fun (t : (Bool × TPebbles)) => [(0, (.row 140 [[(.loc 1 0 t.2.Free.length), (.loc 2 0 t.2.Tails.length), (.loc 3 0 t.2.Placed.length)]])), (1, (.prow 3 (t.2.Free.map encInt))), (2, (.prow 3 (t.2.Tails.map encInt))), (3, (.prow 3 (t.2.Placed.map encInt)))])) ?_ (Ent.of ⟨rfl, rfl, rfl, rfl, rfl, trivial⟩ ⟨rfl, rfl, rfl, rfl, trivial⟩) rfl (fun b24 _ => ?_) (by intro r t σ m ht hk; injection ht with ht; subst ht; exact hk)
  · intro s1
    unfold m_impl_gather_L1
    refine AWR.seq ?_
    refine AWR.seq ?_
    refine AWR.draw mixed ?_
    refine AOD.pure (LT.move (v := (.s (.c (.pl 0 0)))) rfl) ⟨rfl, trivial⟩ trivial rfl rfl ?_
    refine AOD.pure (LT.nilPl rfl) ⟨rfl, trivial⟩ trivial rfl rfl ?_
    refine AOD.pure (LT.fieldPl rfl fo140_0) ⟨rfl, trivial⟩ trivial rfl rfl ?_
    refine AOD.pure (LT.bload1 (c := (.loc 1 0 s1.1.length)) rfl ag37 (by exact rfl)) ⟨rfl, trivial⟩ ⟨rfl, trivial⟩ rfl rfl ?_
    refine AOD.pure (LT.move (v := (.s (.c (iC a)))) rfl) ⟨rfl, trivial⟩ trivial rfl rfl ?_
    refine AOD.bind fun x25 hx25 => ?_
    refine AOD.pure (LT.tindexLoc rfl rfl el37 hx25) ⟨rfl, rfl, trivial⟩ ⟨rfl, trivial⟩ rfl rfl ?_
    refine AOD.pure (LT.tload1 (k := 0) rfl ag3 hx25 (by exact rfl) (by exact rfl)) ⟨rfl, trivial⟩ ⟨rfl, trivial⟩ rfl rfl ?_
    refine AOD.pure (LT.move (v := (.s (.c (.pl 0 0)))) rfl) ⟨rfl, trivial⟩ trivial rfl rfl ?_
    refine AOD.pure (LT.nilPl rfl) ⟨rfl, trivial⟩ trivial rfl rfl ?_
    refine AOD.pure (LT.fieldPl rfl fo140_0) ⟨rfl, trivial⟩ trivial rfl rfl ?_
    refine AOD.pure (LT.bload1 (c := (.loc 1 0 s1.1.length)) rfl ag37 (by exact rfl)) ⟨rfl, trivial⟩ ⟨rfl, trivial⟩ rfl rfl ?_
    refine AOD.pure (LT.move (v := (.s (.c (iC b)))) rfl) ⟨rfl, trivial⟩ trivial rfl rfl ?_
    refine AOD.bind fun x26 hx26 => ?_
    refine AOD.pure (LT.tindexLoc rfl rfl el37 hx26) ⟨rfl, rfl, trivial⟩ ⟨rfl, trivial⟩ rfl rfl ?_
    refine AOD.pure (LT.tload1 (k := 0) rfl ag3 hx26 (by exact rfl) (by exact rfl)) ⟨rfl, trivial⟩ ⟨rfl, trivial⟩ rfl rfl ?_
    refine AOD.pure (LT.add rfl) ⟨rfl, rfl, trivial⟩ trivial rfl rfl ?_
    refine AOD.pure (LT.move (v := (.s (.c (iC want)))) rfl) ⟨rfl, trivial⟩ trivial rfl rfl ?_
    refine AOD.pure (LT.lss rfl) ⟨rfl, rfl, trivial⟩ trivial rfl rfl ?_
    refine AOD.nil (by kernel_rfl) ?_
    refine AWR.cond rfl (fun hc27 => ?_) (fun hc27 => ?_)
    · refine AWR.skip ?_
      refine AWR.block ?_
      refine AWR.seq ?_
      refine AWR.joinK (fun j31 => ([(0, (.s (.c (.pv (.xs false (bars.map encTBar)))))), (1, (.s (.c (.pl 0 0)))), (2, (.s (.c (iC a)))), (3, (.s (.c (iC b)))), (4, (.s (.c (iC want)))), (41, (.s (.c (bC j31.1))))], [(0, (.row 140 [[(.loc 1 0 j31.2.1.length), (.loc 2 0 j31.2.2.1.length), (.loc 3 0 j31.2.2.2.length)]])), (1, (.prow 3 (j31.2.1.map encInt))), (2, (.prow 3 (j31.2.2.1.map encInt))), (3, (.prow 3 (j31.2.2.2.map encInt)))])) ?_ (fun j31 _ => ?_)
      · refine AWR.ent (Ent.of (σ' := [(0, (.s (.c (.pv (.xs false (bars.map encTBar)))))), (1, (.s (.c (.pl 0 0)))), (2, (.s (.c (iC a)))), (3, (.s (.c (iC b)))), (4, (.s (.c (iC want))))]) (m' := [(0, (.row 140 [[(.loc 1 0 s1.1.length), (.loc 2 0 s1.2.1.length), (.loc 3 0 s1.2.2.length)]])), (1, (.prow 3 (s1.1.map encInt))), (2, (.prow 3 (s1.2.1.map encInt))), (3, (.prow 3 (s1.2.2.map encInt)))]) ⟨rfl, rfl, rfl, rfl, rfl, trivial⟩ ⟨rfl, rfl, rfl, rfl, trivial⟩) ?_
        refine AWR.region ?_
        refine AOR.pure (LT.move (v := (.s (.c (.pv (.xs false (bars.map encTBar)))))) rfl) ⟨rfl, trivial⟩ trivial rfl rfl ?_
        refine AOR.pure (LT.move (v := (.s (.c (.pl 0 0)))) rfl) ⟨rfl, trivial⟩ trivial rfl rfl ?_
        refine AOR.pure (LT.move (v := (.s (.c (iC a)))) rfl) ⟨rfl, trivial⟩ trivial rfl rfl ?_
        refine AOR.pure (LT.move (v := (.s (.c (iC b)))) rfl) ⟨rfl, trivial⟩ trivial rfl rfl ?_
        refine AOR.bind fun r32 hr32 => ?_
        refine AOR.step (@LT.callF Try.prog _ _ 214 _ _ [(.c (.pv (.xs false (bars.map encTBar)))), (.c (.pl 0 0)), (.c (iC a)), (.c (iC b))] _ _ [] _ _ _ _ ((show Fw.Fn Try.prog 214 [(.c (.pv (.xs false (bars.map encTBar)))), (.c (.pl 0 0)), (.c (iC a)), (.c (iC b))] [(0, (.row 140 [[(.loc 1 0 s1.1.length), (.loc 2 0 s1.2.1.length), (.loc 3 0 s1.2.2.length)]])), (1, (.prow 3 (s1.1.map encInt))), (2, (.prow 3 (s1.2.1.map encInt))), (3, (.prow 3 (s1.2.2.map encInt)))] (.s (.c (bC r32.1))) [(0, (.row 140 [[(.loc 1 0 r32.2.Free.length), (.loc 2 0 r32.2.Tails.length), (.loc 3 0 r32.2.Placed.length)]])), (1, (.prow 3 (r32.2.Free.map encInt))), (2, (.prow 3 (r32.2.Tails.map encInt))), (3, (.prow 3 (r32.2.Placed.map encInt)))] [0, 1, 2, 3] [1, 2, 3] from Fw.Fn.ren [(0, 0), (1, 1), (2, 2), (3, 3)] (w_impl_moveTo bars (TPebbles.mk s1.1 s1.2.1 s1.2.2) a b r32 hr32) rfl)) rfl cb214 (.cons (.c (.same rfl)) (.cons (.c (.same rfl)) (.cons (.c (.same rfl)) (.cons (.c (.same rfl)) .nil)))) rfl rfl ⟨rfl, rfl, rfl, rfl, trivial⟩) ⟨rfl, rfl, rfl, rfl, rfl, trivial⟩ ⟨rfl, rfl, rfl, rfl, trivial⟩ rfl rfl ?_
        refine AOR.pure (LT.not rfl) ⟨rfl, trivial⟩ trivial rfl rfl ?_
        refine AOR.pure (LT.move (v := (.s (.c (bC (!r32.1))))) rfl) ⟨rfl, trivial⟩ trivial rfl rfl ?_
        refine AOR.split (fun hb33 => ?_) (fun hb33 => ?_)
        · refine AOR.pure (LT.move (v := (.s (.c (.pv (.xs false (bars.map encTBar)))))) rfl) ⟨rfl, trivial⟩ trivial ⟨_, rfl, .inl ⟨_, rfl, (by rw [hb33]; rfl)⟩⟩ rfl ?_
          refine AOR.pure (LT.move (v := (.s (.c (.pl 0 0)))) rfl) ⟨rfl, trivial⟩ trivial ⟨_, rfl, .inl ⟨_, rfl, (by rw [hb33]; rfl)⟩⟩ rfl ?_
          refine AOR.pure (LT.move (v := (.s (.c (iC b)))) rfl) ⟨rfl, trivial⟩ trivial ⟨_, rfl, .inl ⟨_, rfl, (by rw [hb33]; rfl)⟩⟩ rfl ?_
          refine AOR.pure (LT.move (v := (.s (.c (iC a)))) rfl) ⟨rfl, trivial⟩ trivial ⟨_, rfl, .inl ⟨_, rfl, (by rw [hb33]; rfl)⟩⟩ rfl ?_
          refine AOR.bind fun r34 hr34 => ?_
          refine AOR.step (@LT.callF Try.prog _ _ 214 _ _ [(.c (.pv (.xs false (bars.map encTBar)))), (.c (.pl 0 0)), (.c (iC b)), (.c (iC a))] _ _ [] _ _ _ _ ((show Fw.Fn Try.prog 214 [(.c (.pv (.xs false (bars.map encTBar)))), (.c (.pl 0 0)), (.c (iC b)), (.c (iC a))] [(0, (.row 140 [[(.loc 1 0 r32.2.Free.length), (.loc 2 0 r32.2.Tails.length), (.loc 3 0 r32.2.Placed.length)]])), (1, (.prow 3 (r32.2.Free.map encInt))), (2, (.prow 3 (r32.2.Tails.map encInt))), (3, (.prow 3 (r32.2.Placed.map encInt)))] (.s (.c (bC r34.1))) [(0, (.row 140 [[(.loc 1 0 r34.2.Free.length), (.loc 2 0 r34.2.Tails.length), (.loc 3 0 r34.2.Placed.length)]])), (1, (.prow 3 (r34.2.Free.map encInt))), (2, (.prow 3 (r34.2.Tails.map encInt))), (3, (.prow 3 (r34.2.Placed.map encInt)))] [0, 1, 2, 3] [1, 2, 3] from Fw.Fn.ren [(0, 0), (1, 1), (2, 2), (3, 3)] (w_impl_moveTo bars r32.2 b a r34 hr34) rfl)) rfl cb214 (.cons (.c (.same rfl)) (.cons (.c (.same rfl)) (.cons (.c (.same rfl)) (.cons (.c (.same rfl)) .nil)))) rfl rfl ⟨rfl, rfl, rfl, rfl, trivial⟩) ⟨rfl, rfl, rfl, rfl, rfl, trivial⟩ ⟨rfl, rfl, rfl, rfl, trivial⟩ ⟨_, rfl, .inl ⟨_, rfl, (by rw [hb33]; rfl)⟩⟩ rfl ?_
          refine AOR.pure (LT.not rfl) ⟨rfl, trivial⟩ trivial ⟨_, rfl, .inl ⟨_, rfl, (by rw [hb33]; rfl)⟩⟩ rfl ?_
          refine AOR.pure (LT.pickT (v := (.s (.c (bC (!r34.1))))) rfl hb33) ⟨rfl, rfl, trivial⟩ trivial rfl rfl ?_
          refine AOR.nil ?_
          refine AWR.nil ⟨rfl, Ent.of ⟨rfl, rfl, rfl, rfl, rfl, rfl, trivial⟩ ⟨rfl, rfl, rfl, rfl, trivial⟩⟩
        · refine AOR.skip ⟨_, rfl, .inl ⟨_, rfl, (by rw [hb33]; rfl)⟩⟩ rfl ?_
          refine AOR.skip ⟨_, rfl, .inl ⟨_, rfl, (by rw [hb33]; rfl)⟩⟩ rfl ?_
          refine AOR.skip ⟨_, rfl, .inl ⟨_, rfl, (by rw [hb33]; rfl)⟩⟩ rfl ?_
          refine AOR.skip ⟨_, rfl, .inl ⟨_, rfl, (by rw [hb33]; rfl)⟩⟩ rfl ?_
          refine AOR.skip ⟨_, rfl, .inl ⟨_, rfl, (by rw [hb33]; rfl)⟩⟩ rfl ?_
          refine AOR.skip ⟨_, rfl, .inl ⟨_, rfl, (by rw [hb33]; rfl)⟩⟩ rfl ?_
          refine AOR.pure (LT.pickF (v := (.s (.c (bC false)))) rfl hb33) ⟨rfl, ⟨rfl, rfl⟩, trivial⟩ trivial rfl rfl ?_
          refine AOR.nil ?_
          refine AWR.nil ⟨rfl, Ent.of ⟨rfl, rfl, rfl, rfl, rfl, rfl, trivial⟩ ⟨rfl, rfl, rfl, rfl, trivial⟩⟩
      · refine AWR.cond rfl (fun hc35 => ?_) (fun hc35 => ?_)
        · refine AWR.seq ?_
          refine AWR.region ?_
          refine AOR.pure (LT.assign (v := (.s (.c (bC false)))) rfl) ⟨⟨rfl, rfl⟩, trivial⟩ trivial rfl rfl ?_
          refine AOR.nil ?_
          refine AWR.ret ⟨rfl, FPost.mk (.inr rfl) ⟨rfl, trivial⟩ ⟨rfl, rfl, rfl, rfl, trivial⟩ rfl ⟨PermP.sc, trivial⟩ ⟨PermO.row1 ⟨trivial, trivial, trivial, trivial⟩, PermO.prow' perm_encInt, PermO.prow' perm_encInt, PermO.prow' perm_encInt, trivial⟩⟩
        · refine AWR.skip ?_
          refine AWR.blk ?_
          refine AWR.nil ⟨rfl, Ent.of ⟨rfl, rfl, rfl, rfl, rfl, trivial⟩ ⟨rfl, rfl, rfl, rfl, trivial⟩⟩
    · refine AWR.exit_end rfl ⟨rfl, Ent.of trivial ⟨rfl, rfl, rfl, rfl, trivial⟩⟩
  · refine AWR.seq ?_
    refine AWR.region ?_
    refine AOR.pure (LT.assign (v := (.s (.c (bC true)))) rfl) ⟨⟨rfl, rfl⟩, trivial⟩ trivial rfl rfl ?_
    refine AOR.nil ?_
    refine AWR.ret (FPost.mk (.inr rfl) ⟨rfl, trivial⟩ ⟨rfl, rfl, rfl, rfl, trivial⟩ rfl ⟨PermP.sc, trivial⟩ ⟨PermO.row1 ⟨trivial, trivial, trivial, trivial⟩, PermO.prow' perm_encInt, PermO.prow' perm_encInt, PermO.prow' perm_encInt, trivial⟩)
set_option maxRecDepth 100000 in
set_option maxHeartbeats 8000000 in
theorem w_impl_place (bars : (List TBar)) (l : Int) (p : TPebbles) (e : Int) : ∀ t, m_impl_place bars l p e = some t → Fw.Fn Try.prog 208 [(.c (.pv (.xs false (bars.map encTBar)))), (.c (iC l)), (.c (.pl 0 0)), (.c (iC e))] [(0, (.row 140 [[(.loc 1 0 p.Free.length), (.loc 2 0 p.Tails.length), (.loc 3 0 p.Placed.length)]])), (1, (.prow 3 (p.Free.map encInt))), (2, (.prow 3 (p.Tails.map encInt))), (3, (.prow 3 (p.Placed.map encInt)))] (.s (.c (bC t.1))) [(0, (.row 140 [[(.loc 1 0 t.2.Free.length), (.loc 2 0 t.2.Tails.length), (.loc 3 0 t.2.Placed.length)]])), (1, (.prow 3 (t.2.Free.map encInt))), (2, (.prow 3 (t.2.Tails.map encInt))), (3, (.prow 3 (t.2.Placed.map encInt)))] [0, 1, 2, 3] [1, 2, 3] := by
  refine Fw.Fn.of (P := Try.prog) (X := [1, 2, 3]) (pn := [0]) (rs := (fun (t : (Bool × TPebbles)) => [(.c (bC t.1))])) (dfs := (fun (t : (Bool × TPebbles)) => [(0, (.row 140 [[(.loc 1 0 t.2.Free.length), (.loc 2 0 t.2.Tails.length), (.loc 3 0 t.2.Placed.length)]])), (1, (.prow 3 (t.2.Free.map encInt))), (2, (.prow 3 (t.2.Tails.map encInt))), (3, (.prow 3 (t.2.Placed.map encInt)))])) Try.func208 rfl Try.ntmps208 (Nat.le_of_ble_eq_true rfl) rfl ?_
  intro w0 U0 R0 g0
  unfold m_impl_place
  refine AWR.seq ?_
  refine AWR.region ?_
  refine AOR.pure (LT.assign (v := (.s (.c (bC false)))) rfl) ⟨⟨rfl, rfl⟩, trivial⟩ trivial rfl rfl ?_
  refine AOR.nil ?_
  refine AWR.seq ?_
  refine AWR.region ?_
  refine AOR.pure (LT.move (v := (.s (.c (.pv (.xs false (bars.map encTBar)))))) rfl) ⟨rfl, trivial⟩ trivial rfl rfl ?_
  refine AOR.pure (LT.move (v := (.s (.c (iC e)))) rfl) ⟨rfl, trivial⟩ trivial rfl rfl ?_
  refine AOR.bind fun x1 hx1 => ?_
  refine AOR.pure (LT.tindexRO (enc := encTBar) rfl el24 hx1 sz79) ⟨rfl, rfl, trivial⟩ trivial rfl rfl ?_
  refine AOR.pure (LT.loadPxN rfl ag79 (infS inf79) (by exact sz79.symm)) ⟨rfl, trivial⟩ trivial rfl rfl ?_
  refine AOR.step (LT.alloc (n := 21) (cells := [(iC 0), (iC 0)]) rfl ti79 rfl rfl rfl) trivial trivial rfl rfl ?_
  refine AOR.step (LT.bstore (v := (.agg [(iC x1.A), (iC x1.B)])) (out := [(iC x1.A), (iC x1.B)]) rfl rfl (infS inf79) sz79 (by exact rfl) (by exact Nat.le_of_ble_eq_true rfl) (by exact rfl)) ⟨rfl, rfl, trivial⟩ ⟨rfl, trivial⟩ rfl rfl ?_
  refine AOR.nil ?_
  refine AWR.seq ?_
  refine AWR.seq ?_
  refine AWR.ent (Ent.of (σ' := [(0, (.s (.c (.pv (.xs false (bars.map encTBar)))))), (1, (.s (.c (iC l)))), (2, (.s (.c (.pl 0 0)))), (3, (.s (.c (iC e)))), (9, (.s (.c (.pl 21 0))))]) (m' := [(0, (.row 140 [[(.loc 1 0 p.Free.length), (.loc 2 0 p.Tails.length), (.loc 3 0 p.Placed.length)]])), (1, (.prow 3 (p.Free.map encInt))), (2, (.prow 3 (p.Tails.map encInt))), (3, (.prow 3 (p.Placed.map encInt))), (21, (.row 79 [[(iC x1.A), (iC x1.B)]]))]) ⟨rfl, rfl, rfl, rfl, rfl, trivial⟩ ⟨rfl, rfl, rfl, rfl, rfl, trivial⟩) ?_
  refine AWR.region ?_
  refine AOR.pure (LT.move (v := (.s (.c (.pv (.xs false (bars.map encTBar)))))) rfl) ⟨rfl, trivial⟩ trivial rfl rfl ?_
  refine AOR.pure (LT.move (v := (.s (.c (.pl 0 0)))) rfl) ⟨rfl, trivial⟩ trivial rfl rfl ?_
  refine AOR.pure (LT.fieldPl rfl fo79_0) ⟨rfl, trivial⟩ trivial rfl rfl ?_
  refine AOR.pure (LT.bload1 (c := (iC x1.A)) rfl ag3 (by exact rfl)) ⟨rfl, trivial⟩ ⟨rfl, trivial⟩ rfl rfl ?_
  refine AOR.pure (LT.fieldPl rfl fo79_1) ⟨rfl, trivial⟩ trivial rfl rfl ?_
  refine AOR.pure (LT.bload1 (c := (iC x1.B)) rfl ag3 (by exact rfl)) ⟨rfl, trivial⟩ ⟨rfl, trivial⟩ rfl rfl ?_
  refine AOR.pure (LT.move (v := (.s (.c (iC l)))) rfl) ⟨rfl, trivial⟩ trivial rfl rfl ?_
  refine AOR.pure (LT.add rfl) ⟨rfl, ⟨rfl, rfl⟩, trivial⟩ trivial rfl rfl ?_
  refine AOR.bind fun r2 hr2 => ?_
  refine AOR.step (@LT.callF Try.prog _ _ 212 _ _ [(.c (.pv (.xs false (bars.map encTBar)))), (.c (.pl 0 0)), (.c (iC x1.A)), (.c (iC x1.B)), (.c (iC (w64 (l + 1))))] _ _ [] _ _ _ _ ((show Fw.Fn Try.prog 212 [(.c (.pv (.xs false (bars.map encTBar)))), (.c (.pl 0 0)), (.c (iC x1.A)), (.c (iC x1.B)), (.c (iC (w64 (l + 1))))] [(0, (.row 140 [[(.loc 1 0 p.Free.length), (.loc 2 0 p.Tails.length), (.loc 3 0 p.Placed.length)]])), (1, (.prow 3 (p.Free.map encInt))), (2, (.prow 3 (p.Tails.map encInt))), (3, (.prow 3 (p.Placed.map encInt)))] (.s (.c (bC r2.1))) [(0, (.row 140 [[(.loc 1 0 r2.2.Free.length), (.loc 2 0 r2.2.Tails.length), (.loc 3 0 r2.2.Placed.length)]])), (1, (.prow 3 (r2.2.Free.map encInt))), (2, (.prow 3 (r2.2.Tails.map encInt))), (3, (.prow 3 (r2.2.Placed.map encInt)))] [0, 1, 2, 3] [1, 2, 3] from Fw.Fn.ren [(0, 0), (1, 1), (2, 2), (3, 3)] (w_impl_gather bars p x1.A x1.B (w64 (l + 1)) r2 hr2) rfl)) rfl cb212 (.cons (.c (.same rfl)) (.cons (.c (.same rfl)) (.cons (.c (.same rfl)) (.cons (.c (.same rfl)) (.cons (.c (.same rfl)) .nil))))) rfl rfl ⟨rfl, rfl, rfl, rfl, trivial⟩) ⟨rfl, rfl, rfl, rfl, rfl, rfl, trivial⟩ ⟨rfl, rfl, rfl, rfl, trivial⟩ rfl rfl ?_
  refine AOR.pure (LT.not rfl) ⟨rfl, trivial⟩ trivial rfl rfl ?_
  refine AOR.nil ?_
  refine AWR.cond rfl (fun hc3 => ?_) (fun hc3 => ?_)
  · refine AWR.seq ?_
    refine AWR.ent (Ent.of (σ' := []) (m' := [(0, (.row 140 [[(.loc 1 0 r2.2.Free.length), (.loc 2 0 r2.2.Tails.length), (.loc 3 0 r2.2.Placed.length)]])), (1, (.prow 3 (r2.2.Free.map encInt))), (2, (.prow 3 (r2.2.Tails.map encInt))), (3, (.prow 3 (r2.2.Placed.map encInt)))]) trivial ⟨rfl, rfl, rfl, rfl, trivial⟩) ?_
    refine AWR.region ?_
    refine AOR.pure (LT.assign (v := (.s (.c (bC false)))) rfl) ⟨⟨rfl, rfl⟩, trivial⟩ trivial rfl rfl ?_
    refine AOR.nil ?_
    refine AWR.ret (FPost.mk (.inr rfl) ⟨rfl, trivial⟩ ⟨rfl, rfl, rfl, rfl, trivial⟩ rfl ⟨PermP.sc, trivial⟩ ⟨PermO.row1 ⟨trivial, trivial, trivial, trivial⟩, PermO.prow' perm_encInt, PermO.prow' perm_encInt, PermO.prow' perm_encInt, trivial⟩)
  · refine AWR.skip ?_
    refine AWR.seq ?_
    refine AWR.ent (Ent.of (σ' := [(2, (.s (.c (.pl 0 0)))), (3, (.s (.c (iC e)))), (9, (.s (.c (.pl 21 0))))]) (m' := [(0, (.row 140 [[(.loc 1 0 r2.2.Free.length), (.loc 2 0 r2.2.Tails.length), (.loc 3 0 r2.2.Placed.length)]])), (1, (.prow 3 (r2.2.Free.map encInt))), (2, (.prow 3 (r2.2.Tails.map encInt))), (3, (.prow 3 (r2.2.Placed.map encInt))), (21, (.row 79 [[(iC x1.A), (iC x1.B)]]))]) ⟨rfl, rfl, rfl, trivial⟩ ⟨rfl, rfl, rfl, rfl, rfl, trivial⟩) ?_
    refine AWR.region ?_
    refine AOR.pure (LT.fieldPl rfl fo79_0) ⟨rfl, trivial⟩ trivial rfl rfl ?_
    refine AOR.pure (LT.bload1 (c := (iC x1.A)) rfl ag3 (by exact rfl)) ⟨rfl, trivial⟩ ⟨rfl, trivial⟩ rfl rfl ?_
    refine AOR.pure (LT.assign (v := (.s (.c (iC x1.A)))) rfl) ⟨rfl, trivial⟩ trivial rfl rfl ?_
    refine AOR.nil ?_
    refine AWR.seq ?_
    refine AWR.seq ?_
    refine AWR.draw mixed ?_
    refine AOD.pure (LT.move (v := (.s (.c (.pl 0 0)))) rfl) ⟨rfl, trivial⟩ trivial rfl rfl ?_
    refine AOD.pure (LT.nilPl rfl) ⟨rfl, trivial⟩ trivial rfl rfl ?_
    refine AOD.pure (LT.fieldPl rfl fo140_0) ⟨rfl, trivial⟩ trivial rfl rfl ?_
    refine AOD.pure (LT.bload1 (c := (.loc 1 0 r2.2.Free.length)) rfl ag37 (by exact rfl)) ⟨rfl, trivial⟩ ⟨rfl, trivial⟩ rfl rfl ?_
    refine AOD.pure (LT.fieldPl rfl fo79_0) ⟨rfl, trivial⟩ trivial rfl rfl ?_
    refine AOD.pure (LT.bload1 (c := (iC x1.A)) rfl ag3 (by exact rfl)) ⟨rfl, trivial⟩ ⟨rfl, trivial⟩ rfl rfl ?_
    refine AOD.bind fun x4 hx4 => ?_
    refine AOD.pure (LT.tindexLoc rfl rfl el37 hx4) ⟨rfl, rfl, trivial⟩ ⟨rfl, trivial⟩ rfl rfl ?_
    refine AOD.pure (LT.tload1 (k := 0) rfl ag3 hx4 (by exact rfl) (by exact rfl)) ⟨rfl, trivial⟩ ⟨rfl, trivial⟩ rfl rfl ?_
    refine AOD.pure (LT.eql rfl) ⟨rfl, ⟨rfl, rfl⟩, trivial⟩ trivial rfl rfl ?_
    refine AOD.nil (by kernel_rfl) ?_
    refine AWR.joinK (fun j6 => ([(2, (.s (.c (.pl 0 0)))), (3, (.s (.c (iC e)))), (10, (.s (.c (iC j6))))], [(0, (.row 140 [[(.loc 1 0 r2.2.Free.length), (.loc 2 0 r2.2.Tails.length), (.loc 3 0 r2.2.Placed.length)]])), (1, (.prow 3 (r2.2.Free.map encInt))), (2, (.prow 3 (r2.2.Tails.map encInt))), (3, (.prow 3 (r2.2.Placed.map encInt)))])) ?_ (fun j6 _ => ?_)
    · refine AWR.cond rfl (fun hc7 => ?_) (fun hc7 => ?_)
      · refine AWR.ent (Ent.of (σ' := [(2, (.s (.c (.pl 0 0)))), (3, (.s (.c (iC e)))), (9, (.s (.c (.pl 21 0))))]) (m' := [(0, (.row 140 [[(.loc 1 0 r2.2.Free.length), (.loc 2 0 r2.2.Tails.length), (.loc 3 0 r2.2.Placed.length)]])), (1, (.prow 3 (r2.2.Free.map encInt))), (2, (.prow 3 (r2.2.Tails.map encInt))), (3, (.prow 3 (r2.2.Placed.map encInt))), (21, (.row 79 [[(iC x1.A), (iC x1.B)]]))]) ⟨rfl, rfl, rfl, trivial⟩ ⟨rfl, rfl, rfl, rfl, rfl, trivial⟩) ?_
        refine AWR.region ?_
        refine AOR.pure (LT.fieldPl rfl fo79_1) ⟨rfl, trivial⟩ trivial rfl rfl ?_
        refine AOR.pure (LT.bload1 (c := (iC x1.B)) rfl ag3 (by exact rfl)) ⟨rfl, trivial⟩ ⟨rfl, trivial⟩ rfl rfl ?_
        refine AOR.pure (LT.assign (v := (.s (.c (iC x1.B)))) rfl) ⟨rfl, trivial⟩ trivial rfl rfl ?_
        refine AOR.nil ?_
        refine AWR.nil ⟨rfl, Ent.of ⟨rfl, rfl, rfl, trivial⟩ ⟨rfl, rfl, rfl, rfl, trivial⟩⟩
      · refine AWR.skip ?_
        refine AWR.nil ⟨rfl, Ent.of ⟨rfl, rfl, rfl, trivial⟩ ⟨rfl, rfl, rfl, rfl, trivial⟩⟩
    · refine AWR.seq ?_
      refine AWR.region ?_
      refine AOR.pure (LT.move (v := (.s (.c (.pl 0 0)))) rfl) ⟨rfl, trivial⟩ trivial rfl rfl ?_
      refine AOR.pure (LT.nilPl rfl) ⟨rfl, trivial⟩ trivial rfl rfl ?_
      refine AOR.pure (LT.fieldPl rfl fo140_0) ⟨rfl, trivial⟩ trivial rfl rfl ?_
      refine AOR.pure (LT.bload1 (c := (.loc 1 0 r2.2.Free.length)) rfl ag37 (by exact rfl)) ⟨rfl, trivial⟩ ⟨rfl, trivial⟩ rfl rfl ?_
      refine AOR.pure (LT.move (v := (.s (.c (iC j6)))) rfl) ⟨rfl, trivial⟩ trivial rfl rfl ?_
      refine AOR.bind fun x8 hx8 => ?_
      refine AOR.pure (LT.tindexLoc rfl rfl el37 hx8) ⟨rfl, rfl, trivial⟩ ⟨rfl, trivial⟩ rfl rfl ?_
      refine AOR.pure (LT.tload1 (k := 0) rfl ag3 hx8 (by exact rfl) (by exact rfl)) ⟨rfl, trivial⟩ ⟨rfl, trivial⟩ rfl rfl ?_
      refine AOR.pure (LT.sub rfl) ⟨rfl, ⟨rfl, rfl⟩, trivial⟩ trivial rfl rfl ?_
      refine AOR.bind fun x9 hx9 => ?_
      refine AOR.pure (LT.tindexLoc rfl rfl el37 hx9) ⟨rfl, rfl, trivial⟩ ⟨rfl, trivial⟩ rfl rfl ?_
      refine AOR.step (LT.tstore (k := 0) (v := (.c (iC (w64 (x8 - 1))))) (b' := (w64 (x8 - 1))) rfl rfl (infS inf3) sz3 (by exact rfl) hx9 (by exact rfl) (by exact Nat.le_of_ble_eq_true rfl) (by exact rfl)) ⟨rfl, rfl, trivial⟩ ⟨rfl, trivial⟩ rfl rfl ?_
      refine AOR.nil ?_
      refine AWR.seq ?_
      refine AWR.ent (Ent.of (σ' := [(2, (.s (.c (.pl 0 0)))), (3, (.s (.c (iC e)))), (10, (.s (.c (iC j6))))]) (m' := [(0, (.row 140 [[(.loc 1 0 r2.2.Free.length), (.loc 2 0 r2.2.Tails.length), (.loc 3 0 r2.2.Placed.length)]])), (1, (.prow 3 ((r2.2.Free.set j6.toNat (w64 (x8 - 1))).map encInt))), (2, (.prow 3 (r2.2.Tails.map encInt))), (3, (.prow 3 (r2.2.Placed.map encInt)))]) ⟨rfl, rfl, rfl, trivial⟩ ⟨rfl, rfl, rfl, rfl, trivial⟩) ?_
      refine AWR.region ?_
      refine AOR.pure (LT.move (v := (.s (.c (.pl 0 0)))) rfl) ⟨rfl, trivial⟩ trivial rfl rfl ?_
      refine AOR.pure (LT.move (v := (.s (.c (.pl 0 0)))) rfl) ⟨rfl, trivial⟩ trivial rfl rfl ?_
      refine AOR.pure (LT.nilPl rfl) ⟨rfl, trivial⟩ trivial rfl rfl ?_
      refine AOR.pure (LT.fieldPl rfl fo140_1) ⟨rfl, trivial⟩ trivial rfl rfl ?_
      refine AOR.pure (LT.bload1 (c := (.loc 2 0 r2.2.Tails.length)) rfl ag37 (by exact rfl)) ⟨rfl, trivial⟩ ⟨rfl, trivial⟩ rfl rfl ?_
      refine AOR.pure (LT.move (v := (.s (.c (iC j6)))) rfl) ⟨rfl, trivial⟩ trivial rfl rfl ?_
      refine AOR.step (LT.tbuildSlice (n := 23) (enc := encInt) [(0, .tmp 52, (.c (iC j6)))] ([j6] : List Int) rfl rfl und37 ti3 rfl rfl rfl rfl (by decide) (fun _ => rfl) rfl) ⟨rfl, trivial⟩ trivial rfl rfl ?_
      refine AOR.bind fun u10 hu10 => ?_
      refine AOR.step (LT.tappP (enc := encInt) rfl rfl rfl und37 ti3 rfl (by decide) (by decide) (fun _ => rfl) (lim_le hu10)) ⟨rfl, rfl, trivial⟩ ⟨rfl, rfl, trivial⟩ rfl rfl ?_
      refine AOR.pure (LT.nilPl rfl) ⟨rfl, trivial⟩ trivial rfl rfl ?_
      refine AOR.pure (LT.fieldPl rfl fo140_1) ⟨rfl, trivial⟩ trivial rfl rfl ?_
      refine AOR.step (LT.bstore (v := (.c (.loc 2 0 (r2.2.Tails ++ ([j6] : List Int)).length))) (out := [(.loc 1 0 r2.2.Free.length), (.loc 2 0 (r2.2.Tails ++ ([j6] : List Int)).length), (.loc 3 0 r2.2.Placed.length)]) rfl rfl (infS inf37) sz37 (by exact rfl) (by exact Nat.le_of_ble_eq_true rfl) (by exact rfl)) ⟨rfl, rfl, trivial⟩ ⟨rfl, trivial⟩ rfl rfl ?_
      refine AOR.nil ?_
      refine AWR.seq ?_
      refine AWR.ent (Ent.of (σ' := [(2, (.s (.c (.pl 0 0)))), (3, (.s (.c (iC e))))]) (m' := [(0, (.row 140 [[(.loc 1 0 r2.2.Free.length), (.loc 2 0 (r2.2.Tails ++ ([j6] : List Int)).length), (.loc 3 0 r2.2.Placed.length)]])), (1, (.prow 3 ((r2.2.Free.set j6.toNat (w64 (x8 - 1))).map encInt))), (2, (.prow 3 ((r2.2.Tails ++ ([j6] : List Int)).map encInt))), (3, (.prow 3 (r2.2.Placed.map encInt)))]) ⟨rfl, rfl, trivial⟩ ⟨rfl, rfl, rfl, rfl, trivial⟩) ?_
      refine AWR.region ?_
      refine AOR.pure (LT.move (v := (.s (.c (.pl 0 0)))) rfl) ⟨rfl, trivial⟩ trivial rfl rfl ?_
      refine AOR.pure (LT.move (v := (.s (.c (.pl 0 0)))) rfl) ⟨rfl, trivial⟩ trivial rfl rfl ?_
      refine AOR.pure (LT.nilPl rfl) ⟨rfl, trivial⟩ trivial rfl rfl ?_
      refine AOR.pure (LT.fieldPl rfl fo140_2) ⟨rfl, trivial⟩ trivial rfl rfl ?_
      refine AOR.pure (LT.bload1 (c := (.loc 3 0 r2.2.Placed.length)) rfl ag37 (by exact rfl)) ⟨rfl, trivial⟩ ⟨rfl, trivial⟩ rfl rfl ?_
      refine AOR.pure (LT.move (v := (.s (.c (iC e)))) rfl) ⟨rfl, trivial⟩ trivial rfl rfl ?_
      refine AOR.step (LT.tbuildSlice (n := 24) (enc := encInt) [(0, .tmp 62, (.c (iC e)))] ([e] : List Int) rfl rfl und37 ti3 rfl rfl rfl rfl (by decide) (fun _ => rfl) rfl) ⟨rfl, trivial⟩ trivial rfl rfl ?_
      refine AOR.bind fun u11 hu11 => ?_
      refine AOR.step (LT.tappP (enc := encInt) rfl rfl rfl und37 ti3 rfl (by decide) (by decide) (fun _ => rfl) (lim_le hu11)) ⟨rfl, rfl, trivial⟩ ⟨rfl, rfl, trivial⟩ rfl rfl ?_
      refine AOR.pure (LT.nilPl rfl) ⟨rfl, trivial⟩ trivial rfl rfl ?_
      refine AOR.pure (LT.fieldPl rfl fo140_2) ⟨rfl, trivial⟩ trivial rfl rfl ?_
      refine AOR.step (LT.bstore (v := (.c (.loc 3 0 (r2.2.Placed ++ ([e] : List Int)).length))) (out := [(.loc 1 0 r2.2.Free.length), (.loc 2 0 (r2.2.Tails ++ ([j6] : List Int)).length), (.loc 3 0 (r2.2.Placed ++ ([e] : List Int)).length)]) rfl rfl (infS inf37) sz37 (by exact rfl) (by exact Nat.le_of_ble_eq_true rfl) (by exact rfl)) ⟨rfl, rfl, trivial⟩ ⟨rfl, trivial⟩ rfl rfl ?_
      refine AOR.nil ?_
      refine AWR.seq ?_
      refine AWR.ent (Ent.of (σ' := []) (m' := [(0, (.row 140 [[(.loc 1 0 r2.2.Free.length), (.loc 2 0 (r2.2.Tails ++ ([j6] : List Int)).length), (.loc 3 0 (r2.2.Placed ++ ([e] : List Int)).length)]])), (1, (.prow 3 ((r2.2.Free.set j6.toNat (w64 (x8 - 1))).map encInt))), (2, (.prow 3 ((r2.2.Tails ++ ([j6] : List Int)).map encInt))), (3, (.prow 3 ((r2.2.Placed ++ ([e] : List Int)).map encInt)))]) trivial ⟨rfl, rfl, rfl, rfl, trivial⟩) ?_
      refine AWR.region ?_
      refine AOR.pure (LT.assign (v := (.s (.c (bC true)))) rfl) ⟨⟨rfl, rfl⟩, trivial⟩ trivial rfl rfl ?_
      refine AOR.nil ?_
      refine AWR.ent (Ent.of (σ' := [(8, (.s (.c (bC true))))]) (m' := [(0, (.row 140 [[(.loc 1 0 (r2.2.Free.set j6.toNat (w64 (x8 - 1))).length), (.loc 2 0 (r2.2.Tails ++ ([j6] : List Int)).length), (.loc 3 0 (r2.2.Placed ++ ([e] : List Int)).length)]])), (1, (.prow 3 ((r2.2.Free.set j6.toNat (w64 (x8 - 1))).map encInt))), (2, (.prow 3 ((r2.2.Tails ++ ([j6] : List Int)).map encInt))), (3, (.prow 3 ((r2.2.Placed ++ ([e] : List Int)).map encInt)))]) ⟨rfl, trivial⟩ ⟨(congrArg (fun l1 => (some (Ob.row 140 [[(.loc 1 0 l1), (.loc 2 0 (r2.2.Tails ++ ([j6] : List Int)).length), (.loc 3 0 (r2.2.Placed ++ ([e] : List Int)).length)]]) : Option Ob)) (show r2.2.Free.length = (r2.2.Free.set j6.toNat (w64 (x8 - 1))).length by simp only [List.length_set])), rfl, rfl, rfl, trivial⟩) ?_
      refine AWR.ret (FPost.mk (.inr rfl) ⟨rfl, trivial⟩ ⟨rfl, rfl, rfl, rfl, trivial⟩ rfl ⟨PermP.sc, trivial⟩ ⟨PermO.row1 ⟨trivial, trivial, trivial, trivial⟩, PermO.prow' perm_encInt, PermO.prow' perm_encInt, PermO.prow' perm_encInt, trivial⟩)
set_option maxRecDepth 100000 in
set_option maxHeartbeats 8000000 in
theorem w_impl_play (points : Int) (bars : (List TBar)) (k : Int) (l : Int) : ∀ t, m_impl_play points bars k l = some t → Fw.Fn Try.prog 195 [(.c (iC points)), (.c (.pv (.xs false (bars.map encTBar)))), (.c (iC k)), (.c (iC l))] [] (.s (.agg [(.loc 0 0 t.Free.length), (.loc 1 0 t.Tails.length), (.loc 2 0 t.Placed.length)])) [(0, (.prow 3 (t.Free.map encInt))), (1, (.prow 3 (t.Tails.map encInt))), (2, (.prow 3 (t.Placed.map encInt)))] [] [0, 1, 2] := by
  refine Fw.Fn.of (P := Try.prog) (X := [0, 1, 2]) (pn := []) (rs := (fun (t : TPebbles) => [(.agg [(.loc 0 0 t.Free.length), (.loc 1 0 t.Tails.length), (.loc 2 0 t.Placed.length)])])) (dfs := (fun (t : TPebbles) => [(0, (.prow 3 (t.Free.map encInt))), (1, (.prow 3 (t.Tails.map encInt))), (2, (.prow 3 (t.Placed.map encInt)))])) Try.func195 rfl Try.ntmps195 (Nat.le_of_ble_eq_true rfl) rfl ?_
  intro w0 U0 R0 g0
  unfold m_impl_play
  refine AWR.seq ?_
  refine AWR.region ?_
  refine AOR.step (LT.alloc (n := 21) (cells := [(sC nilV), (sC nilV), (sC nilV)]) rfl ti140 rfl rfl rfl) trivial trivial rfl rfl ?_
  refine AOR.nil ?_
  refine AWR.seq ?_
  refine AWR.region ?_
  refine AOR.pure (LT.build [] rfl rfl pl140 ti140 rfl rfl rfl) trivial trivial rfl rfl ?_
  refine AOR.step (LT.alloc (n := 22) (cells := [(sC nilV), (sC nilV), (sC nilV)]) rfl ti140 rfl rfl rfl) trivial trivial rfl rfl ?_
  refine AOR.step (LT.bstore (v := (.agg [(sC nilV), (sC nilV), (sC nilV)])) (out := [(sC nilV), (sC nilV), (sC nilV)]) rfl rfl (infS inf140) sz140 (by exact rfl) (by exact Nat.le_of_ble_eq_true rfl) (by exact rfl)) ⟨rfl, rfl, trivial⟩ ⟨rfl, trivial⟩ rfl rfl ?_
  refine AOR.nil ?_
  refine AWR.seq ?_
  refine AWR.seq ?_
  refine AWR.region ?_
  refine AOR.pure (LT.move (v := (.s (.c (iC points)))) rfl) ⟨rfl, trivial⟩ trivial rfl rfl ?_
  refine AOR.pure (LT.move (v := (.s (.c (iC 0)))) rfl) ⟨⟨rfl, rfl⟩, trivial⟩ trivial rfl rfl ?_
  refine AOR.nil ?_
  refine AWR.block ?_
  refine AWR.ent (Ent.nilB 22 0 25 3 rfl rfl rfl rfl) ?_
  refine AWR.loop1 (id := 0) (m_impl_play_L1 points k) (fun s1 => ([(1, (.s (.c (.pv (.xs false (bars.map encTBar)))))), (2, (.s (.c (iC k)))), (3, (.s (.c (iC l)))), (8, (.s (.c (.pl 21 0)))), (9, (.s (.c (.pl 22 0)))), (13, (.s (.c (iC points)))), (14, (.s (.c (iC s1.1))))], [(21, (.row 140 [[(sC nilV), (sC nilV), (sC nilV)]])), (22, (.row 140 [[(.loc 25 0 s1.2.length), (sC nilV), (sC nilV)]])), (25, (.prow 3 (s1.2.map encInt)))])) (fun b6 => ([(1, (.s (.c (.pv (.xs false (bars.map encTBar)))))), (3, (.s (.c (iC l)))), (8, (.s (.c (.pl 21 0)))), (9, (.s (.c (.pl 22 0))))], [(21, (.row 140 [[(sC nilV), (sC nilV), (sC nilV)]])), (22, (.row 140 [[(.loc 25 0 b6.length), (sC nilV), (sC nilV)]])), (25, (.prow 3 (b6.map encInt)))])) ?_ (Ent.of ⟨rfl, rfl, rfl, rfl, rfl, rfl, rfl, trivial⟩ ⟨rfl, rfl, rfl, trivial⟩) rfl (fun b6 _ => ?_)
  · intro s1
    unfold m_impl_play_L1
    refine AWR.seq ?_
    refine AWR.region ?_
    refine AOR.pure (LT.lss rfl) ⟨rfl, rfl, trivial⟩ trivial rfl rfl ?_
    refine AOR.nil ?_
    refine AWR.seq ?_
    refine AWR.cond rfl (fun hc7 => ?_) (fun hc7 => ?_)
    · refine AWR.skip ?_
      refine AWR.seq ?_
      refine AWR.block ?_
      refine AWR.region ?_
      refine AOR.pure (LT.fieldPl rfl fo140_0) ⟨rfl, trivial⟩ trivial rfl rfl ?_
      refine AOR.pure (LT.bload1 (c := (.loc 25 0 s1.2.length)) rfl ag37 (by exact rfl)) ⟨rfl, trivial⟩ ⟨rfl, trivial⟩ rfl rfl ?_
      refine AOR.pure (LT.move (v := (.s (.c (iC k)))) rfl) ⟨rfl, trivial⟩ trivial rfl rfl ?_
      refine AOR.step (LT.tbuildSlice (n := 23) (enc := encInt) [(0, .tmp 18, (.c (iC k)))] ([k] : List Int) rfl rfl und37 ti3 rfl rfl rfl rfl (by decide) (fun _ => rfl) rfl) ⟨rfl, trivial⟩ trivial rfl rfl ?_
      refine AOR.bind fun u8 hu8 => ?_
      refine AOR.step (LT.tappP (enc := encInt) rfl rfl rfl und37 ti3 rfl (by decide) (by decide) (fun _ => rfl) (lim_le hu8)) ⟨rfl, rfl, trivial⟩ ⟨rfl, rfl, trivial⟩ rfl rfl ?_
      refine AOR.pure (LT.fieldPl rfl fo140_0) ⟨rfl, trivial⟩ trivial rfl rfl ?_
      refine AOR.step (LT.bstore (v := (.c (.loc 25 0 (s1.2 ++ ([k] : List Int)).length))) (out := [(.loc 25 0 (s1.2 ++ ([k] : List Int)).length), (sC nilV), (sC nilV)]) rfl rfl (infS inf37) sz37 (by exact rfl) (by exact Nat.le_of_ble_eq_true rfl) (by exact rfl)) ⟨rfl, rfl, trivial⟩ ⟨rfl, trivial⟩ rfl rfl ?_
      refine AOR.nil ?_
      refine AWR.blk ?_
      refine AWR.ent (Ent.of (σ' := [(1, (.s (.c (.pv (.xs false (bars.map encTBar)))))), (2, (.s (.c (iC k)))), (3, (.s (.c (iC l)))), (8, (.s (.c (.pl 21 0)))), (9, (.s (.c (.pl 22 0)))), (13, (.s (.c (iC points)))), (14, (.s (.c (iC s1.1))))]) (m' := [(21, (.row 140 [[(sC nilV), (sC nilV), (sC nilV)]])), (22, (.row 140 [[(.loc 25 0 (s1.2 ++ ([k] : List Int)).length), (sC nilV), (sC nilV)]])), (25, (.prow 3 ((s1.2 ++ ([k] : List Int)).map encInt)))]) ⟨rfl, rfl, rfl, rfl, rfl, rfl, rfl, trivial⟩ ⟨rfl, rfl, rfl, trivial⟩) ?_
      refine AWR.region ?_
      refine AOR.pure (LT.add rfl) ⟨rfl, ⟨rfl, rfl⟩, trivial⟩ trivial rfl rfl ?_
      refine AOR.pure (LT.move (v := (.s (.c (iC (w64 (s1.1 + 1)))))) rfl) ⟨rfl, trivial⟩ trivial rfl rfl ?_
      refine AOR.nil ?_
      refine AWR.nil ⟨rfl, Ent.of ⟨rfl, rfl, rfl, rfl, rfl, rfl, rfl, trivial⟩ ⟨rfl, rfl, rfl, trivial⟩⟩
    · refine AWR.exit_end rfl ⟨rfl, Ent.of ⟨rfl, rfl, rfl, rfl, trivial⟩ ⟨rfl, rfl, rfl, trivial⟩⟩
  · refine AWR.seq ?_
    refine AWR.seq ?_
    refine AWR.region ?_
    refine AOR.pure (LT.move (v := (.s (.c (.pv (.xs false (bars.map encTBar)))))) rfl) ⟨rfl, trivial⟩ trivial rfl rfl ?_
    refine AOR.pure (LT.tlenRO rfl und24) ⟨rfl, trivial⟩ trivial rfl rfl ?_
    refine AOR.pure (LT.move (v := (.s (.c (iC 0)))) rfl) ⟨⟨rfl, rfl⟩, trivial⟩ trivial rfl rfl ?_
    refine AOR.nil ?_
    refine AWR.block ?_
    refine AWR.ent (Ent.nilB 22 1 32 3 rfl rfl rfl rfl) ?_
    refine AWR.ent (Ent.nilB 22 2 33 3 rfl rfl rfl rfl) ?_
    refine AWR.loop1 (id := 2) (m_impl_play_L2 bars l) (fun s9 => ([(1, (.s (.c (.pv (.xs false (bars.map encTBar)))))), (3, (.s (.c (iC l)))), (8, (.s (.c (.pl 21 0)))), (9, (.s (.c (.pl 22 0)))), (24, (.s (.c (iC (bars.length : Int))))), (25, (.s (.c (iC s9.1))))], [(21, (.row 140 [[(sC nilV), (sC nilV), (sC nilV)]])), (22, (.row 140 [[(.loc 25 0 s9.2.1.length), (.loc 32 0 s9.2.2.1.length), (.loc 33 0 s9.2.2.2.length)]])), (25, (.prow 3 (s9.2.1.map encInt))), (32, (.prow 3 (s9.2.2.1.map encInt))), (33, (.prow 3 (s9.2.2.2.map encInt)))])) (fun b22 => ([(8, (.s (.c (.pl 21 0)))), (9, (.s (.c (.pl 22 0))))], [(21, (.row 140 [[(sC nilV), (sC nilV), (sC nilV)]])), (22, (.row 140 [[(.loc 25 0 b22.1.length), (.loc 32 0 b22.2.1.length), (.loc 33 0 b22.2.2.length)]])), (25, (.prow 3 (b22.1.map encInt))), (32, (.prow 3 (b22.2.1.map encInt))), (33, (.prow 3 (b22.2.2.map encInt)))])) ?_ (Ent.of ⟨rfl, rfl, rfl, rfl, rfl, rfl, trivial⟩ ⟨rfl, rfl, rfl, rfl, rfl, trivial⟩) rfl (fun b22 _ => ?_)
    · intro s9
      unfold m_impl_play_L2
      refine AWR.seq ?_
      refine AWR.region ?_
      refine AOR.pure (LT.lss rfl) ⟨rfl, rfl, trivial⟩ trivial rfl rfl ?_
      refine AOR.nil ?_
      refine AWR.seq ?_
      refine AWR.cond rfl (fun hc23 => ?_) (fun hc23 => ?_)
      · refine AWR.skip ?_
        refine AWR.seq ?_
        refine AWR.block ?_
        refine AWR.seq ?_
        refine AWR.region ?_
        refine AOR.pure (LT.move (v := (.s (.c (iC s9.1)))) rfl) ⟨rfl, trivial⟩ trivial rfl rfl ?_
        refine AOR.pure (LT.assign (v := (.s (.c (iC s9.1)))) rfl) ⟨rfl, trivial⟩ trivial rfl rfl ?_
        refine AOR.nil ?_
        refine AWR.seq ?_
        refine AWR.region ?_
        refine AOR.pure (LT.bloadN (out := [(.loc 25 0 s9.2.1.length), (.loc 32 0 s9.2.2.1.length), (.loc 33 0 s9.2.2.2.length)]) rfl ag140 (infS inf140) sz140 (by exact rfl) (by exact rfl)) ⟨rfl, trivial⟩ ⟨rfl, trivial⟩ rfl rfl ?_
        refine AOR.bind fun r24 hr24 => ?_
        refine AOR.step (@LT.callF Try.prog _ _ 207 _ _ [(.agg [(.loc 25 0 s9.2.1.length), (.loc 32 0 s9.2.2.1.length), (.loc 33 0 s9.2.2.2.length)])] _ _ [(25, (.prow 3 (s9.2.1.map encInt))), (32, (.prow 3 (s9.2.2.1.map encInt))), (33, (.prow 3 (s9.2.2.2.map encInt)))] _ _ _ _ ((show Fw.Fn Try.prog 207 [(.agg [(.pv (.xs false (((TPebbles.mk s9.2.1 s9.2.2.1 s9.2.2.2).Free).map encInt))), (.pv (.xs false (((TPebbles.mk s9.2.1 s9.2.2.1 s9.2.2.2).Tails).map encInt))), (.pv (.xs false (((TPebbles.mk s9.2.1 s9.2.2.1 s9.2.2.2).Placed).map encInt)))])] [] (.s (.agg [(.loc 27 0 r24.Free.length), (.loc 28 0 r24.Tails.length), (.loc 29 0 r24.Placed.length)])) [(27, (.prow 3 (r24.Free.map encInt))), (28, (.prow 3 (r24.Tails.map encInt))), (29, (.prow 3 (r24.Placed.map encInt)))] [] [27, 28, 29] from Fw.Fn.ren [(0, 27), (1, 28), (2, 29)] (w_impl_copyPebbles (TPebbles.mk s9.2.1 s9.2.2.1 s9.2.2.2) r24 hr24) rfl)) rfl cb207 (.cons (.agg (.cons (.tloc rfl rfl) (.cons (.tloc rfl rfl) (.cons (.tloc rfl rfl) .nil)))) .nil) rfl rfl trivial) ⟨rfl, rfl, trivial⟩ ⟨rfl, rfl, rfl, trivial⟩ rfl rfl ?_
        refine AOR.step (LT.alloc (n := 30) (cells := [(sC nilV), (sC nilV), (sC nilV)]) rfl ti140 rfl rfl rfl) trivial trivial rfl rfl ?_
        refine AOR.step (LT.bstore (v := (.agg [(.loc 27 0 r24.Free.length), (.loc 28 0 r24.Tails.length), (.loc 29 0 r24.Placed.length)])) (out := [(.loc 27 0 r24.Free.length), (.loc 28 0 r24.Tails.length), (.loc 29 0 r24.Placed.length)]) rfl rfl (infS inf140) sz140 (by exact rfl) (by exact Nat.le_of_ble_eq_true rfl) (by exact rfl)) ⟨rfl, rfl, trivial⟩ ⟨rfl, trivial⟩ rfl rfl ?_
        refine AOR.nil ?_
        refine AWR.seq ?_
        refine AWR.ent (Ent.of (σ' := [(1, (.s (.c (.pv (.xs false (bars.map encTBar)))))), (3, (.s (.c (iC l)))), (8, (.s (.c (.pl 21 0)))), (9, (.s (.c (.pl 22 0)))), (10, (.s (.c (iC s9.1)))), (11, (.s (.c (.pl 30 0)))), (24, (.s (.c (iC (bars.length : Int))))), (25, (.s (.c (iC s9.1))))]) (m' := [(21, (.row 140 [[(sC nilV), (sC nilV), (sC nilV)]])), (22, (.row 140 [[(.loc 25 0 s9.2.1.length), (.loc 32 0 s9.2.2.1.length), (.loc 33 0 s9.2.2.2.length)]])), (25, (.prow 3 (s9.2.1.map encInt))), (27, (.prow 3 (r24.Free.map encInt))), (28, (.prow 3 (r24.Tails.map encInt))), (29, (.prow 3 (r24.Placed.map encInt))), (30, (.row 140 [[(.loc 27 0 r24.Free.length), (.loc 28 0 r24.Tails.length), (.loc 29 0 r24.Placed.length)]])), (32, (.prow 3 (s9.2.2.1.map encInt))), (33, (.prow 3 (s9.2.2.2.map encInt)))]) ⟨rfl, rfl, rfl, rfl, rfl, rfl, rfl, rfl, trivial⟩ ⟨rfl, rfl, rfl, rfl, rfl, rfl, rfl, rfl, rfl, trivial⟩) ?_
        refine AWR.region ?_
        refine AOR.pure (LT.move (v := (.s (.c (.pv (.xs false (bars.map encTBar)))))) rfl) ⟨rfl, trivial⟩ trivial rfl rfl ?_
        refine AOR.pure (LT.move (v := (.s (.c (iC l)))) rfl) ⟨rfl, trivial⟩ trivial rfl rfl ?_
        refine AOR.pure (LT.move (v := (.s (.c (iC s9.1)))) rfl) ⟨rfl, trivial⟩ trivial rfl rfl ?_
        refine AOR.bind fun r25 hr25 => ?_
        refine AOR.step (@LT.callF Try.prog _ _ 208 _ _ [(.c (.pv (.xs false (bars.map encTBar)))), (.c (iC l)), (.c (.pl 30 0)), (.c (iC s9.1))] _ _ [] _ _ _ _ ((show Fw.Fn Try.prog 208 [(.c (.pv (.xs false (bars.map encTBar)))), (.c (iC l)), (.c (.pl 30 0)), (.c (iC s9.1))] [(30, (.row 140 [[(.loc 27 0 r24.Free.length), (.loc 28 0 r24.Tails.length), (.loc 29 0 r24.Placed.length)]])), (27, (.prow 3 (r24.Free.map encInt))), (28, (.prow 3 (r24.Tails.map encInt))), (29, (.prow 3 (r24.Placed.map encInt)))] (.s (.c (bC r25.1))) [(30, (.row 140 [[(.loc 27 0 r25.2.Free.length), (.loc 28 0 r25.2.Tails.length), (.loc 29 0 r25.2.Placed.length)]])), (27, (.prow 3 (r25.2.Free.map encInt))), (28, (.prow 3 (r25.2.Tails.map encInt))), (29, (.prow 3 (r25.2.Placed.map encInt)))] [30, 27, 28, 29] [27, 28, 29] from Fw.Fn.ren [(0, 30), (1, 27), (2, 28), (3, 29)] (w_impl_place bars l r24 s9.1 r25 hr25) rfl)) rfl cb208 (.cons (.c (.same rfl)) (.cons (.c (.same rfl)) (.cons (.c (.same rfl)) (.cons (.c (.same rfl)) .nil)))) rfl rfl ⟨rfl, rfl, rfl, rfl, trivial⟩) ⟨rfl, rfl, rfl, rfl, rfl, trivial⟩ ⟨rfl, rfl, rfl, rfl, trivial⟩ rfl rfl ?_
        refine AOR.nil ?_
        refine AWR.joinK (fun j27 => ([(1, (.s (.c (.pv (.xs false (bars.map encTBar)))))), (3, (.s (.c (iC l)))), (8, (.s (.c (.pl 21 0)))), (9, (.s (.c (.pl 22 0)))), (24, (.s (.c (iC (bars.length : Int))))), (25, (.s (.c (iC s9.1))))], [(21, (.row 140 [[(sC nilV), (sC nilV), (sC nilV)]])), (22, (.row 140 [[(.loc 27 0 j27.1.length), (.loc 28 0 j27.2.1.length), (.loc 29 0 j27.2.2.length)]])), (27, (.prow 3 (j27.1.map encInt))), (28, (.prow 3 (j27.2.1.map encInt))), (29, (.prow 3 (j27.2.2.map encInt)))])) ?_ (fun j27 _ => ?_)
        · refine AWR.cond rfl (fun hc28 => ?_) (fun hc28 => ?_)
          · refine AWR.region ?_
            refine AOR.pure (LT.bloadN (out := [(.loc 27 0 r25.2.Free.length), (.loc 28 0 r25.2.Tails.length), (.loc 29 0 r25.2.Placed.length)]) rfl ag140 (infS inf140) sz140 (by exact rfl) (by exact rfl)) ⟨rfl, trivial⟩ ⟨rfl, trivial⟩ rfl rfl ?_
            refine AOR.step (LT.bstore (v := (.agg [(.loc 27 0 r25.2.Free.length), (.loc 28 0 r25.2.Tails.length), (.loc 29 0 r25.2.Placed.length)])) (out := [(.loc 27 0 r25.2.Free.length), (.loc 28 0 r25.2.Tails.length), (.loc 29 0 r25.2.Placed.length)]) rfl rfl (infS inf140) sz140 (by exact rfl) (by exact Nat.le_of_ble_eq_true rfl) (by exact rfl)) ⟨rfl, rfl, trivial⟩ ⟨rfl, trivial⟩ rfl rfl ?_
            refine AOR.nil ?_
            refine AWR.nil ⟨rfl, Ent.of ⟨rfl, rfl, rfl, rfl, rfl, rfl, trivial⟩ ⟨rfl, rfl, rfl, rfl, rfl, trivial⟩⟩
          · refine AWR.skip ?_
            refine AWR.ent (Ent.of (σ' := [(1, (.s (.c (.pv (.xs false (bars.map encTBar)))))), (3, (.s (.c (iC l)))), (8, (.s (.c (.pl 21 0)))), (9, (.s (.c (.pl 22 0)))), (24, (.s (.c (iC (bars.length : Int))))), (25, (.s (.c (iC s9.1))))]) (m' := [(21, (.row 140 [[(sC nilV), (sC nilV), (sC nilV)]])), (22, (.row 140 [[(.loc 25 0 s9.2.1.length), (.loc 32 0 s9.2.2.1.length), (.loc 33 0 s9.2.2.2.length)]])), (25, (.prow 3 (s9.2.1.map encInt))), (32, (.prow 3 (s9.2.2.1.map encInt))), (33, (.prow 3 (s9.2.2.2.map encInt)))]) ⟨rfl, rfl, rfl, rfl, rfl, rfl, trivial⟩ ⟨rfl, rfl, rfl, rfl, rfl, trivial⟩) ?_
            refine AWR.ent (Ent.mv 25 27 rfl rfl) ?_
            refine AWR.ent (Ent.mv 32 28 rfl rfl) ?_
            refine AWR.ent (Ent.mv 33 29 rfl rfl) ?_
            refine AWR.nil ⟨rfl, Ent.of ⟨rfl, rfl, rfl, rfl, rfl, rfl, trivial⟩ ⟨rfl, rfl, rfl, rfl, rfl, trivial⟩⟩
        · refine AWR.blk ?_
          refine AWR.region ?_
          refine AOR.pure (LT.add rfl) ⟨rfl, ⟨rfl, rfl⟩, trivial⟩ trivial rfl rfl ?_
          refine AOR.pure (LT.move (v := (.s (.c (iC (w64 (s9.1 + 1)))))) rfl) ⟨rfl, trivial⟩ trivial rfl rfl ?_
          refine AOR.nil ?_
          refine AWR.ent (Ent.of (σ' := [(1, (.s (.c (.pv (.xs false (bars.map encTBar)))))), (3, (.s (.c (iC l)))), (8, (.s (.c (.pl 21 0)))), (9, (.s (.c (.pl 22 0)))), (24, (.s (.c (iC (bars.length : Int))))), (25, (.s (.c (iC (w64 (s9.1 + 1))))))]) (m' := [(21, (.row 140 [[(sC nilV), (sC nilV), (sC nilV)]])), (22, (.row 140 [[(.loc 27 0 j27.1.length), (.loc 28 0 j27.2.1.length), (.loc 29 0 j27.2.2.length)]])), (27, (.prow 3 (j27.1.map encInt))), (28, (.prow 3 (j27.2.1.map encInt))), (29, (.prow 3 (j27.2.2.map encInt)))]) ⟨rfl, rfl, rfl, rfl, rfl, rfl, trivial⟩ ⟨rfl, rfl, rfl, rfl, rfl, trivial⟩) ?_
          refine AWR.ent (Ent.mv 27 25 rfl rfl) ?_
          refine AWR.ent (Ent.mv 28 32 rfl rfl) ?_
          refine AWR.ent (Ent.mv 29 33 rfl rfl) ?_
          refine AWR.nil ⟨rfl, Ent.of ⟨rfl, rfl, rfl, rfl, rfl, rfl, trivial⟩ ⟨rfl, rfl, rfl, rfl, rfl, trivial⟩⟩
      · refine AWR.exit_end rfl ⟨rfl, Ent.of ⟨rfl, rfl, trivial⟩ ⟨rfl, rfl, rfl, rfl, rfl, trivial⟩⟩
    · refine AWR.seq ?_
      refine AWR.region ?_
      refine AOR.pure (LT.bloadN (out := [(.loc 25 0 b22.1.length), (.loc 32 0 b22.2.1.length), (.loc 33 0 b22.2.2.length)]) rfl ag140 (infS inf140) sz140 (by exact rfl) (by exact rfl)) ⟨rfl, trivial⟩ ⟨rfl, trivial⟩ rfl rfl ?_
      refine AOR.step (LT.bstore (v := (.agg [(.loc 25 0 b22.1.length), (.loc 32 0 b22.2.1.length), (.loc 33 0 b22.2.2.length)])) (out := [(.loc 25 0 b22.1.length), (.loc 32 0 b22.2.1.length), (.loc 33 0 b22.2.2.length)]) rfl rfl (infS inf140) sz140 (by exact rfl) (by exact Nat.le_of_ble_eq_true rfl) (by exact rfl)) ⟨rfl, rfl, trivial⟩ ⟨rfl, trivial⟩ rfl rfl ?_
      refine AOR.nil ?_
      refine AWR.ent (Ent.of (σ' := [(8, (.s (.c (.pl 21 0))))]) (m' := [(21, (.row 140 [[(.loc 25 0 b22.1.length), (.loc 32 0 b22.2.1.length), (.loc 33 0 b22.2.2.length)]])), (25, (.prow 3 (b22.1.map encInt))), (32, (.prow 3 (b22.2.1.map encInt))), (33, (.prow 3 (b22.2.2.map encInt)))]) ⟨rfl, trivial⟩ ⟨rfl, rfl, rfl, rfl, trivial⟩) ?_
      refine AWR.ent (Ent.mv 25 0 rfl rfl) ?_
      refine AWR.ent (Ent.mv 32 1 rfl rfl) ?_
      refine AWR.ent (Ent.mv 33 2 rfl rfl) ?_
      refine AWR.ent (Ent.of (σ' := [(8, (.s (.c (.pl 21 0))))]) (m' := [(0, (.prow 3 (b22.1.map encInt))), (1, (.prow 3 (b22.2.1.map encInt))), (2, (.prow 3 (b22.2.2.map encInt))), (21, (.row 140 [[(.loc 0 0 b22.1.length), (.loc 1 0 b22.2.1.length), (.loc 2 0 b22.2.2.length)]]))]) ⟨rfl, trivial⟩ ⟨rfl, rfl, rfl, rfl, trivial⟩) ?_
      refine AWR.ret (FPost.mk (.inr rfl) ⟨⟨_, _, _, rfl, rfl, rfl, ag140, sz140, _, (infS inf140)⟩, trivial⟩ ⟨rfl, rfl, rfl, trivial⟩ rfl ⟨⟨trivial, trivial, trivial, trivial⟩, trivial⟩ ⟨PermO.prow' perm_encInt, PermO.prow' perm_encInt, PermO.prow' perm_encInt, trivial⟩)
set_option maxRecDepth 100000 in
set_option maxHeartbeats 8000000 in
theorem w_impl_RunPebbles (g : TGraph) (k : Int) (l : Int) : ∀ t, m_impl_RunPebbles g k l = some t → Fw.Fn Try.prog 170 [(.agg [(iC g.Points), (.pv (.xs false (g.Bars.map encTBar)))]), (.c (iC k)), (.c (iC l))] [] (resA [(.agg [(.loc 0 0 t.1.Free.length), (.loc 1 0 t.1.Tails.length), (.loc 2 0 t.1.Placed.length)]), (.c (bC t.2))]) [(0, (.prow 3 (t.1.Free.map encInt))), (1, (.prow 3 (t.1.Tails.map encInt))), (2, (.prow 3 (t.1.Placed.map encInt)))] [] [0, 1, 2] := by
  refine Fw.Fn.of (P := Try.prog) (X := [0, 1, 2]) (pn := []) (rs := (fun (t : (TPebbles × Bool)) => [(.agg [(.loc 0 0 t.1.Free.length), (.loc 1 0 t.1.Tails.length), (.loc 2 0 t.1.Placed.length)]), (.c (bC t.2))])) (dfs := (fun (t : (TPebbles × Bool)) => [(0, (.prow 3 (t.1.Free.map encInt))), (1, (.prow 3 (t.1.Tails.map encInt))), (2, (.prow 3 (t.1.Placed.map encInt)))])) Try.func170 rfl Try.ntmps170 (Nat.le_of_ble_eq_true rfl) rfl ?_
  intro w0 U0 R0 g0
  unfold m_impl_RunPebbles
  refine AWR.seq ?_
  refine AWR.region ?_
  refine AOR.step (LT.box (n := 21) (v := (.agg [(iC g.Points), (.pv (.xs false (g.Bars.map encTBar)))])) rfl sz26 (by exact rfl)) ⟨rfl, trivial⟩ trivial rfl rfl ?_
  refine AOR.step (LT.alloc (n := 22) (cells := [(sC nilV), (sC nilV), (sC nilV)]) rfl ti140 rfl rfl rfl) trivial trivial rfl rfl ?_
  refine AOR.pure (LT.assign (v := (.s (.c (bC false)))) rfl) ⟨⟨rfl, rfl⟩, trivial⟩ trivial rfl rfl ?_
  refine AOR.nil ?_
  refine AWR.seq ?_
  refine AWR.seq ?_
  refine AWR.joinK (fun j4 => ([(1, (.s (.c (iC k)))), (2, (.s (.c (iC l)))), (3, (.s (.c (.pl 21 0)))), (6, (.s (.c (.pl 22 0)))), (16, (.s (.c (bC j4))))], [(21, (.row 26 [[(iC g.Points), (.pv (.xs false (g.Bars.map encTBar)))]])), (22, (.row 140 [[(sC nilV), (sC nilV), (sC nilV)]]))])) ?_ (fun j4 _ => ?_)
  · refine AWR.region ?_
    refine AOR.pure (LT.bloadN (out := [(iC g.Points), (.pv (.xs false (g.Bars.map encTBar)))]) rfl ag26 (infS inf26) sz26 (by exact rfl) (by exact rfl)) ⟨rfl, trivial⟩ ⟨rfl, trivial⟩ rfl rfl ?_
    refine AOR.bind fun r5 hr5 => ?_
    refine AOR.pure (@LT.callF Try.prog _ _ 154 _ _ [(.agg [(iC g.Points), (.pv (.xs false (g.Bars.map encTBar)))])] _ _ [] _ _ _ _ (w_impl_IsGraph g r5 hr5) rfl cb154 (.cons (.agg (.cons (.same rfl) (.cons (.same rfl) .nil))) .nil) rfl rfl trivial) ⟨rfl, rfl, trivial⟩ trivial rfl rfl ?_
    refine AOR.pure (LT.not rfl) ⟨rfl, trivial⟩ trivial rfl rfl ?_
    refine AOR.pure (LT.move (v := (.s (.c (bC (!r5))))) rfl) ⟨rfl, trivial⟩ trivial rfl rfl ?_
    refine AOR.split (fun hb6 => ?_) (fun hb6 => ?_)
    · refine AOR.skip ⟨_, rfl, .inl ⟨_, rfl, (by rw [hb6]; rfl)⟩⟩ rfl ?_
      refine AOR.skip ⟨_, rfl, .inl ⟨_, rfl, (by rw [hb6]; rfl)⟩⟩ rfl ?_
      refine AOR.skip ⟨_, rfl, .inl ⟨_, rfl, (by rw [hb6]; rfl)⟩⟩ rfl ?_
      refine AOR.skip ⟨_, rfl, .inl ⟨_, rfl, (by rw [hb6]; rfl)⟩⟩ rfl ?_
      refine AOR.pure (LT.pickT (v := (.s (.c (bC true)))) rfl hb6) ⟨rfl, ⟨rfl, rfl⟩, trivial⟩ trivial rfl rfl ?_
      refine AOR.nil ?_
      refine AWR.nil ⟨rfl, Ent.of ⟨rfl, rfl, rfl, rfl, rfl, trivial⟩ ⟨rfl, rfl, trivial⟩⟩
    · refine AOR.pure (LT.move (v := (.s (.c (iC k)))) rfl) ⟨rfl, trivial⟩ trivial ⟨_, rfl, .inl ⟨_, rfl, (by rw [hb6]; rfl)⟩⟩ rfl ?_
      refine AOR.pure (LT.move (v := (.s (.c (iC l)))) rfl) ⟨rfl, trivial⟩ trivial ⟨_, rfl, .inl ⟨_, rfl, (by rw [hb6]; rfl)⟩⟩ rfl ?_
      refine AOR.bind fun r7 hr7 => ?_
      refine AOR.pure (@LT.callF Try.prog _ _ 194 _ _ [(.c (iC k)), (.c (iC l))] _ _ [] _ _ _ _ (w_impl_IsRange k l r7 hr7) rfl cb194 (.cons (.c (.same rfl)) (.cons (.c (.same rfl)) .nil)) rfl rfl trivial) ⟨rfl, rfl, rfl, trivial⟩ trivial ⟨_, rfl, .inl ⟨_, rfl, (by rw [hb6]; rfl)⟩⟩ rfl ?_
      refine AOR.pure (LT.not rfl) ⟨rfl, trivial⟩ trivial ⟨_, rfl, .inl ⟨_, rfl, (by rw [hb6]; rfl)⟩⟩ rfl ?_
      refine AOR.pure (LT.pickF (v := (.s (.c (bC (!r7))))) rfl hb6) ⟨rfl, rfl, trivial⟩ trivial rfl rfl ?_
      refine AOR.nil ?_
      refine AWR.nil ⟨rfl, Ent.of ⟨rfl, rfl, rfl, rfl, rfl, trivial⟩ ⟨rfl, rfl, trivial⟩⟩
  · refine AWR.cond rfl (fun hc8 => ?_) (fun hc8 => ?_)
    · refine AWR.seq ?_
      refine AWR.region ?_
      refine AOR.pure (LT.build [] rfl rfl pl140 ti140 rfl rfl rfl) trivial trivial rfl rfl ?_
      refine AOR.step (LT.bstore (v := (.agg [(sC nilV), (sC nilV), (sC nilV)])) (out := [(sC nilV), (sC nilV), (sC nilV)]) rfl rfl (infS inf140) sz140 (by exact rfl) (by exact Nat.le_of_ble_eq_true rfl) (by exact rfl)) ⟨rfl, rfl, trivial⟩ ⟨rfl, trivial⟩ rfl rfl ?_
      refine AOR.pure (LT.assign (v := (.s (.c (bC false)))) rfl) ⟨⟨rfl, rfl⟩, trivial⟩ trivial rfl rfl ?_
      refine AOR.nil ?_
      refine AWR.ent (Ent.nilB 22 0 0 3 rfl rfl rfl rfl) ?_
      refine AWR.ent (Ent.nilB 22 1 1 3 rfl rfl rfl rfl) ?_
      refine AWR.ent (Ent.nilB 22 2 2 3 rfl rfl rfl rfl) ?_
      refine AWR.ent (Ent.of (σ' := [(6, (.s (.c (.pl 22 0)))), (7, (.s (.c (bC false))))]) (m' := [(0, (.prow 3 (([] : List Int).map encInt))), (1, (.prow 3 (([] : List Int).map encInt))), (2, (.prow 3 (([] : List Int).map encInt))), (22, (.row 140 [[(.loc 0 0 ([] : List Int).length), (.loc 1 0 ([] : List Int).length), (.loc 2 0 ([] : List Int).length)]]))]) ⟨rfl, rfl, trivial⟩ ⟨rfl, rfl, rfl, rfl, trivial⟩) ?_
      refine AWR.ret (FPost.mk (.inr rfl) ⟨⟨_, _, _, rfl, rfl, rfl, ag140, sz140, _, (infS inf140)⟩, rfl, trivial⟩ ⟨rfl, rfl, rfl, trivial⟩ rfl ⟨⟨trivial, trivial, trivial, trivial⟩, PermP.sc, trivial⟩ ⟨PermO.prow' perm_encInt, PermO.prow' perm_encInt, PermO.prow' perm_encInt, trivial⟩)
    · refine AWR.skip ?_
      refine AWR.seq ?_
      refine AWR.region ?_
      refine AOR.pure (LT.fieldPl rfl fo26_0) ⟨rfl, trivial⟩ trivial rfl rfl ?_
      refine AOR.pure (LT.bload1 (c := (iC g.Points)) rfl ag3 (by exact rfl)) ⟨rfl, trivial⟩ ⟨rfl, trivial⟩ rfl rfl ?_
      refine AOR.pure (LT.fieldPl rfl fo26_1) ⟨rfl, trivial⟩ trivial rfl rfl ?_
      refine AOR.pure (LT.bload1 (c := (.pv (.xs false (g.Bars.map encTBar)))) rfl ag24 (by exact rfl)) ⟨rfl, trivial⟩ ⟨rfl, trivial⟩ rfl rfl ?_
      refine AOR.pure (LT.move (v := (.s (.c (iC k)))) rfl) ⟨rfl, trivial⟩ trivial rfl rfl ?_
      refine AOR.pure (LT.move (v := (.s (.c (iC l)))) rfl) ⟨rfl, trivial⟩ trivial rfl rfl ?_
      refine AOR.bind fun r9 hr9 => ?_
      refine AOR.step (@LT.callF Try.prog _ _ 195 _ _ [(.c (iC g.Points)), (.c (.pv (.xs false (g.Bars.map encTBar)))), (.c (iC k)), (.c (iC l))] _ _ [] _ _ _ _ ((show Fw.Fn Try.prog 195 [(.c (iC g.Points)), (.c (.pv (.xs false (g.Bars.map encTBar)))), (.c (iC k)), (.c (iC l))] [] (.s (.agg [(.loc 26 0 r9.Free.length), (.loc 27 0 r9.Tails.length), (.loc 28 0 r9.Placed.length)])) [(26, (.prow 3 (r9.Free.map encInt))), (27, (.prow 3 (r9.Tails.map encInt))), (28, (.prow 3 (r9.Placed.map encInt)))] [] [26, 27, 28] from Fw.Fn.ren [(0, 26), (1, 27), (2, 28)] (w_impl_play g.Points g.Bars k l r9 hr9) rfl)) rfl cb195 (.cons (.c (.same rfl)) (.cons (.c (.same rfl)) (.cons (.c (.same rfl)) (.cons (.c (.same rfl)) .nil)))) rfl rfl trivial) ⟨rfl, rfl, rfl, rfl, rfl, trivial⟩ trivial rfl rfl ?_
      refine AOR.step (LT.bstore (v := (.agg [(.loc 26 0 r9.Free.length), (.loc 27 0 r9.Tails.length), (.loc 28 0 r9.Placed.length)])) (out := [(.loc 26 0 r9.Free.length), (.loc 27 0 r9.Tails.length), (.loc 28 0 r9.Placed.length)]) rfl rfl (infS inf140) sz140 (by exact rfl) (by exact Nat.le_of_ble_eq_true rfl) (by exact rfl)) ⟨rfl, rfl, trivial⟩ ⟨rfl, trivial⟩ rfl rfl ?_
      refine AOR.pure (LT.assign (v := (.s (.c (bC true)))) rfl) ⟨⟨rfl, rfl⟩, trivial⟩ trivial rfl rfl ?_
      refine AOR.nil ?_
      refine AWR.ent (Ent.of (σ' := [(6, (.s (.c (.pl 22 0)))), (7, (.s (.c (bC true))))]) (m' := [(22, (.row 140 [[(.loc 26 0 r9.Free.length), (.loc 27 0 r9.Tails.length), (.loc 28 0 r9.Placed.length)]])), (26, (.prow 3 (r9.Free.map encInt))), (27, (.prow 3 (r9.Tails.map encInt))), (28, (.prow 3 (r9.Placed.map encInt)))]) ⟨rfl, rfl, trivial⟩ ⟨rfl, rfl, rfl, rfl, trivial⟩) ?_
      refine AWR.ent (Ent.mv 26 0 rfl rfl) ?_
      refine AWR.ent (Ent.mv 27 1 rfl rfl) ?_
      refine AWR.ent (Ent.mv 28 2 rfl rfl) ?_
      refine AWR.ent (Ent.of (σ' := [(6, (.s (.c (.pl 22 0)))), (7, (.s (.c (bC true))))]) (m' := [(0, (.prow 3 (r9.Free.map encInt))), (1, (.prow 3 (r9.Tails.map encInt))), (2, (.prow 3 (r9.Placed.map encInt))), (22, (.row 140 [[(.loc 0 0 r9.Free.length), (.loc 1 0 r9.Tails.length), (.loc 2 0 r9.Placed.length)]]))]) ⟨rfl, rfl, trivial⟩ ⟨rfl, rfl, rfl, rfl, trivial⟩) ?_
      refine AWR.ret (FPost.mk (.inr rfl) ⟨⟨_, _, _, rfl, rfl, rfl, ag140, sz140, _, (infS inf140)⟩, rfl, trivial⟩ ⟨rfl, rfl, rfl, trivial⟩ rfl ⟨⟨trivial, trivial, trivial, trivial⟩, PermP.sc, trivial⟩ ⟨PermO.prow' perm_encInt, PermO.prow' perm_encInt, PermO.prow' perm_encInt, trivial⟩)
end Go.Proofs.Ytoeigmhhmadmbaa
end
