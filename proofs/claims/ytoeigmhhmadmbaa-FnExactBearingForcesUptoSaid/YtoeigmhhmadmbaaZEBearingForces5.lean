/- Parts of a proof that a law of the program holds: what the program computes, and why that is right. -/
import Derived.Test.YtoeigmhhmadmbaaZEBearingForces4
section
set_option linter.unusedVariables false
set_option linter.unusedSimpArgs false
set_option linter.unnecessarySimpa false
open Go Go.Fw
namespace Go.Proofs.Ytoeigmhhmadmbaa
set_option maxRecDepth 100000 in
set_option maxHeartbeats 8000000 in
theorem w_spec_l13Turned (f : TFramework) : ∀ t, m_spec_l13Turned f = some t → Fw.Fn Try.prog 90 [(.agg [(iC f.Graph.Points), (.pv (.xs false (f.Graph.Bars.map encTBar))), (.pv (.xs false (f.Places.map encTPlace)))])] [] (.s (.c (.loc 0 0 t.length))) [(0, (.trow 37 1 (lensOf t))), (1, (.pool 3 (rowsOf encInt t)))] [] [0, 1] := by
  refine Fw.Fn.of (P := Try.prog) (X := [0, 1]) (pn := []) (rs := (fun (t : (List (List Int))) => [(.c (.loc 0 0 t.length))])) (dfs := (fun (t : (List (List Int))) => [(0, (.trow 37 1 (lensOf t))), (1, (.pool 3 (rowsOf encInt t)))])) Try.func90 rfl Try.ntmps90 (Nat.le_of_ble_eq_true rfl) rfl ?_
  intro w0 U0 R0 g0
  unfold m_spec_l13Turned
  refine AWR.seq ?_
  refine AWR.region ?_
  refine AOR.step (LT.box (n := 21) (v := (.agg [(iC f.Graph.Points), (.pv (.xs false (f.Graph.Bars.map encTBar))), (.pv (.xs false (f.Places.map encTPlace)))])) rfl sz29 (by exact rfl)) ⟨rfl, trivial⟩ trivial rfl rfl ?_
  refine AOR.pure (LT.assign (v := (.s (.c (sC nilV)))) rfl) ⟨⟨rfl, rfl⟩, trivial⟩ trivial rfl rfl ?_
  refine AOR.nil ?_
  refine AWR.seq ?_
  refine AWR.region ?_
  refine AOR.pure (LT.bloadN (out := [(iC f.Graph.Points), (.pv (.xs false (f.Graph.Bars.map encTBar))), (.pv (.xs false (f.Places.map encTPlace)))]) rfl ag29 (infS inf29) sz29 (by exact rfl) (by exact rfl)) ⟨rfl, trivial⟩ ⟨rfl, trivial⟩ rfl rfl ?_
  refine AOR.bind fun r1 hr1 => ?_
  refine AOR.step (@LT.callF Try.prog _ _ 64 _ _ [(.agg [(iC f.Graph.Points), (.pv (.xs false (f.Graph.Bars.map encTBar))), (.pv (.xs false (f.Places.map encTPlace)))])] _ _ [] _ _ _ _ ((show Fw.Fn Try.prog 64 [(.agg [(iC f.Graph.Points), (.pv (.xs false (f.Graph.Bars.map encTBar))), (.pv (.xs false (f.Places.map encTPlace)))])] [] (.s (.c (.loc 23 0 r1.length))) [(23, (.prow 37 (r1.map (encLInt true))))] [] [23] from Fw.Fn.ren [(0, 23)] (w_spec_RigidityMatrix f r1 hr1) rfl)) rfl cb64 (.cons (.agg (.cons (.same rfl) (.cons (.same rfl) (.cons (.same rfl) .nil)))) .nil) rfl rfl trivial) ⟨rfl, rfl, trivial⟩ trivial rfl rfl ?_
  refine AOR.pure (LT.assign (v := (.s (.c (.loc 23 0 r1.length)))) rfl) ⟨rfl, trivial⟩ trivial rfl rfl ?_
  refine AOR.nil ?_
  refine AWR.seq ?_
  refine AWR.region ?_
  refine AOR.step (LT.buildSlice (n := 24) (els := []) [] rfl rfl und31 ti37 rfl rfl rfl rfl (by decide) rfl rfl) trivial trivial rfl rfl ?_
  refine AOR.pure (LT.assign (v := (.s (.c (.loc 24 0 0)))) rfl) ⟨rfl, trivial⟩ trivial rfl rfl ?_
  refine AOR.nil ?_
  refine AWR.ent (Ent.poolE 25 3 rfl) ?_
  refine AWR.ent (Ent.trow (n := 24) (p := 25) (lens := lensOf ([] : List (List Int))) (List.append_nil _) rfl) ?_
  refine AWR.seq ?_
  refine AWR.seq ?_
  refine AWR.region ?_
  refine AOR.pure (LT.assign (v := (.s (.c (iC 0)))) rfl) ⟨⟨rfl, rfl⟩, trivial⟩ trivial rfl rfl ?_
  refine AOR.nil ?_
  refine AWR.block ?_
  refine AWR.loop1 (id := 0) (m_spec_l13Turned_L3 f) (fun s2 => ([(1, (.s (.c (.pl 21 0)))), (3, (.s (.c (.loc 23 0 s2.2.1.length)))), (4, (.s (.c (.loc 24 0 s2.2.2.length)))), (5, (.s (.c (iC s2.1))))], [(21, (.row 29 [[(iC f.Graph.Points), (.pv (.xs false (f.Graph.Bars.map encTBar))), (.pv (.xs false (f.Places.map encTPlace)))]])), (23, (.prow 37 (s2.2.1.map (encLInt true)))), (24, (.trow 37 25 (lensOf s2.2.2))), (25, (.pool 3 (rowsOf encInt s2.2.2)))])) (fun b33 => ([(4, (.s (.c (.loc 24 0 b33.length))))], [(24, (.trow 37 25 (lensOf b33))), (25, (.pool 3 (rowsOf encInt b33)))])) ?_ (Ent.of ⟨rfl, rfl, rfl, rfl, trivial⟩ ⟨rfl, rfl, rfl, rfl, trivial⟩) rfl (fun b33 _ => ?_)
  · intro s2
    unfold m_spec_l13Turned_L3
    refine AWR.seq ?_
    refine AWR.seq ?_
    refine AWR.joinK (fun j35 => ([(1, (.s (.c (.pl 21 0)))), (3, (.s (.c (.loc 23 0 s2.2.1.length)))), (4, (.s (.c (.loc 24 0 s2.2.2.length)))), (5, (.s (.c (iC s2.1)))), (21, (.s (.c (bC j35))))], [(21, (.row 29 [[(iC f.Graph.Points), (.pv (.xs false (f.Graph.Bars.map encTBar))), (.pv (.xs false (f.Places.map encTPlace)))]])), (23, (.prow 37 (s2.2.1.map (encLInt true)))), (24, (.trow 37 25 (lensOf s2.2.2))), (25, (.pool 3 (rowsOf encInt s2.2.2)))])) ?_ (fun j35 _ => ?_)
    · refine AWR.region ?_
      refine AOR.pure (LT.move (v := (.s (.c (iC s2.1)))) rfl) ⟨rfl, trivial⟩ trivial rfl rfl ?_
      refine AOR.pure (LT.fieldPl rfl fo29_0) ⟨rfl, trivial⟩ trivial rfl rfl ?_
      refine AOR.pure (LT.fieldPl rfl fo26_0) ⟨rfl, trivial⟩ trivial rfl rfl ?_
      refine AOR.pure (LT.bload1 (c := (iC f.Graph.Points)) rfl ag3 (by exact rfl)) ⟨rfl, trivial⟩ ⟨rfl, trivial⟩ rfl rfl ?_
      refine AOR.pure (LT.mul rfl) ⟨⟨rfl, rfl⟩, rfl, trivial⟩ trivial rfl rfl ?_
      refine AOR.pure (LT.lss rfl) ⟨rfl, rfl, trivial⟩ trivial rfl rfl ?_
      refine AOR.pure (LT.move (v := (.s (.c (bC (decide (s2.1 < (w64 (2 * f.Graph.Points)))))))) rfl) ⟨rfl, trivial⟩ trivial rfl rfl ?_
      refine AOR.split (fun hb36 => ?_) (fun hb36 => ?_)
      · refine AOR.pure (LT.move (v := (.s (.c (.loc 23 0 s2.2.1.length)))) rfl) ⟨rfl, trivial⟩ trivial ⟨_, rfl, .inl ⟨_, rfl, (by rw [hb36]; rfl)⟩⟩ rfl ?_
        refine AOR.pure (LT.lenLoc rfl und31) ⟨rfl, trivial⟩ trivial ⟨_, rfl, .inl ⟨_, rfl, (by rw [hb36]; rfl)⟩⟩ rfl ?_
        refine AOR.pure (LT.gtr rfl) ⟨rfl, ⟨rfl, rfl⟩, trivial⟩ trivial ⟨_, rfl, .inl ⟨_, rfl, (by rw [hb36]; rfl)⟩⟩ rfl ?_
        refine AOR.pure (LT.pickT (v := (.s (.c (bC (decide (0 < (s2.2.1.length : Int))))))) rfl hb36) ⟨rfl, rfl, trivial⟩ trivial rfl rfl ?_
        refine AOR.nil ?_
        refine AWR.nil ⟨rfl, Ent.of ⟨rfl, rfl, rfl, rfl, rfl, trivial⟩ ⟨rfl, rfl, rfl, rfl, trivial⟩⟩
      · refine AOR.skip ⟨_, rfl, .inl ⟨_, rfl, (by rw [hb36]; rfl)⟩⟩ rfl ?_
        refine AOR.skip ⟨_, rfl, .inl ⟨_, rfl, (by rw [hb36]; rfl)⟩⟩ rfl ?_
        refine AOR.skip ⟨_, rfl, .inl ⟨_, rfl, (by rw [hb36]; rfl)⟩⟩ rfl ?_
        refine AOR.pure (LT.pickF (v := (.s (.c (bC false)))) rfl hb36) ⟨rfl, ⟨rfl, rfl⟩, trivial⟩ trivial rfl rfl ?_
        refine AOR.nil ?_
        refine AWR.nil ⟨rfl, Ent.of ⟨rfl, rfl, rfl, rfl, rfl, trivial⟩ ⟨rfl, rfl, rfl, rfl, trivial⟩⟩
    · refine AWR.cond rfl (fun hc37 => ?_) (fun hc37 => ?_)
      · refine AWR.skip ?_
        refine AWR.seq ?_
        refine AWR.block ?_
        refine AWR.seq ?_
        refine AWR.region ?_
        refine AOR.step (LT.tbuildSlice (n := 26) (enc := encInt) [] ([] : List Int) rfl rfl und37 ti3 rfl rfl rfl rfl (by decide) (fun _ => rfl) rfl) trivial trivial rfl rfl ?_
        refine AOR.pure (LT.assign (v := (.s (.c (.loc 26 0 ([] : List Int).length)))) rfl) ⟨rfl, trivial⟩ trivial rfl rfl ?_
        refine AOR.nil ?_
        refine AWR.seq ?_
        refine AWR.seq ?_
        refine AWR.region ?_
        refine AOR.pure (LT.assign (v := (.s (.c (iC 0)))) rfl) ⟨⟨rfl, rfl⟩, trivial⟩ trivial rfl rfl ?_
        refine AOR.nil ?_
        refine AWR.block ?_
        refine AWR.loop1 (id := 2) (m_spec_l13Turned_L4 s2) (fun s38 => ([(1, (.s (.c (.pl 21 0)))), (3, (.s (.c (.loc 23 0 s2.2.1.length)))), (4, (.s (.c (.loc 24 0 s2.2.2.length)))), (5, (.s (.c (iC s2.1)))), (6, (.s (.c (.loc 26 0 s38.2.length)))), (7, (.s (.c (iC s38.1))))], [(21, (.row 29 [[(iC f.Graph.Points), (.pv (.xs false (f.Graph.Bars.map encTBar))), (.pv (.xs false (f.Places.map encTPlace)))]])), (23, (.prow 37 (s2.2.1.map (encLInt true)))), (24, (.trow 37 25 (lensOf s2.2.2))), (25, (.pool 3 (rowsOf encInt s2.2.2))), (26, (.prow 3 (s38.2.map encInt)))])) (fun b47 => ([(1, (.s (.c (.pl 21 0)))), (3, (.s (.c (.loc 23 0 b47.2.1.length)))), (4, (.s (.c (.loc 24 0 b47.2.2.1.length)))), (5, (.s (.c (iC b47.1)))), (6, (.s (.c (.loc 26 0 b47.2.2.2.length))))], [(21, (.row 29 [[(iC f.Graph.Points), (.pv (.xs false (f.Graph.Bars.map encTBar))), (.pv (.xs false (f.Places.map encTPlace)))]])), (23, (.prow 37 (b47.2.1.map (encLInt true)))), (24, (.trow 37 25 (lensOf b47.2.2.1))), (25, (.pool 3 (rowsOf encInt b47.2.2.1))), (26, (.prow 3 (b47.2.2.2.map encInt)))])) ?_ (Ent.of ⟨rfl, rfl, rfl, rfl, rfl, rfl, trivial⟩ ⟨rfl, rfl, rfl, rfl, rfl, trivial⟩) rfl (fun b47 _ => ?_)
        · intro s38
          unfold m_spec_l13Turned_L4
          refine AWR.seq ?_
          refine AWR.seq ?_
          refine AWR.region ?_
          refine AOR.pure (LT.move (v := (.s (.c (iC s38.1)))) rfl) ⟨rfl, trivial⟩ trivial rfl rfl ?_
          refine AOR.pure (LT.move (v := (.s (.c (.loc 23 0 s2.2.1.length)))) rfl) ⟨rfl, trivial⟩ trivial rfl rfl ?_
          refine AOR.pure (LT.lenLoc rfl und31) ⟨rfl, trivial⟩ trivial rfl rfl ?_
          refine AOR.pure (LT.lss rfl) ⟨rfl, rfl, trivial⟩ trivial rfl rfl ?_
          refine AOR.nil ?_
          refine AWR.cond rfl (fun hc48 => ?_) (fun hc48 => ?_)
          · refine AWR.skip ?_
            refine AWR.seq ?_
            refine AWR.block ?_
            refine AWR.region ?_
            refine AOR.pure (LT.move (v := (.s (.c (.loc 26 0 s38.2.length)))) rfl) ⟨rfl, trivial⟩ trivial rfl rfl ?_
            refine AOR.pure (LT.move (v := (.s (.c (.loc 23 0 s2.2.1.length)))) rfl) ⟨rfl, trivial⟩ trivial rfl rfl ?_
            refine AOR.pure (LT.move (v := (.s (.c (iC s38.1)))) rfl) ⟨rfl, trivial⟩ trivial rfl rfl ?_
            refine AOR.bind fun x49 hx49 => ?_
            refine AOR.pure (LT.tindexLoc rfl rfl el31 hx49) ⟨rfl, rfl, trivial⟩ ⟨rfl, trivial⟩ rfl rfl ?_
            refine AOR.pure (LT.tload1 (k := 0) rfl ag37 hx49 (by exact rfl) (by exact rfl)) ⟨rfl, trivial⟩ ⟨rfl, trivial⟩ rfl rfl ?_
            refine AOR.pure (LT.move (v := (.s (.c (iC s2.1)))) rfl) ⟨rfl, trivial⟩ trivial rfl rfl ?_
            refine AOR.bind fun x50 hx50 => ?_
            refine AOR.pure (LT.tindexRO (enc := encInt) rfl el37 hx50 sz3) ⟨rfl, rfl, trivial⟩ trivial rfl rfl ?_
            refine AOR.pure (LT.loadPx1 rfl ag3) ⟨rfl, trivial⟩ trivial rfl rfl ?_
            refine AOR.step (LT.tbuildSlice (n := 27) (enc := encInt) [(0, .tmp 38, (.c (iC x50)))] ([x50] : List Int) rfl rfl und37 ti3 rfl rfl rfl rfl (by decide) (fun _ => rfl) rfl) ⟨rfl, trivial⟩ trivial rfl rfl ?_
            refine AOR.bind fun u51 hu51 => ?_
            refine AOR.step (LT.tappP (enc := encInt) rfl rfl rfl und37 ti3 rfl (by decide) (by decide) (fun _ => rfl) (lim_le hu51)) ⟨rfl, rfl, trivial⟩ ⟨rfl, rfl, trivial⟩ rfl rfl ?_
            refine AOR.pure (LT.assign (v := (.s (.c (.loc 26 0 (s38.2 ++ ([x50] : List Int)).length)))) rfl) ⟨rfl, trivial⟩ trivial rfl rfl ?_
            refine AOR.nil ?_
            refine AWR.blk ?_
            refine AWR.ent (Ent.of (σ' := [(1, (.s (.c (.pl 21 0)))), (3, (.s (.c (.loc 23 0 s2.2.1.length)))), (4, (.s (.c (.loc 24 0 s2.2.2.length)))), (5, (.s (.c (iC s2.1)))), (6, (.s (.c (.loc 26 0 (s38.2 ++ ([x50] : List Int)).length)))), (7, (.s (.c (iC s38.1))))]) (m' := [(21, (.row 29 [[(iC f.Graph.Points), (.pv (.xs false (f.Graph.Bars.map encTBar))), (.pv (.xs false (f.Places.map encTPlace)))]])), (23, (.prow 37 (s2.2.1.map (encLInt true)))), (24, (.trow 37 25 (lensOf s2.2.2))), (25, (.pool 3 (rowsOf encInt s2.2.2))), (26, (.prow 3 ((s38.2 ++ ([x50] : List Int)).map encInt)))]) ⟨rfl, rfl, rfl, rfl, rfl, rfl, trivial⟩ ⟨rfl, rfl, rfl, rfl, rfl, trivial⟩) ?_
            refine AWR.region ?_
            refine AOR.pure (LT.move (v := (.s (.c (iC s38.1)))) rfl) ⟨rfl, trivial⟩ trivial rfl rfl ?_
            refine AOR.pure (LT.add rfl) ⟨rfl, ⟨rfl, rfl⟩, trivial⟩ trivial rfl rfl ?_
            refine AOR.pure (LT.assign (v := (.s (.c (iC (w64 (s38.1 + 1)))))) rfl) ⟨rfl, trivial⟩ trivial rfl rfl ?_
            refine AOR.nil ?_
            refine AWR.nil ⟨rfl, Ent.of ⟨rfl, rfl, rfl, rfl, rfl, rfl, trivial⟩ ⟨rfl, rfl, rfl, rfl, rfl, trivial⟩⟩
          · refine AWR.exit_end rfl ⟨rfl, Ent.of ⟨rfl, rfl, rfl, rfl, rfl, trivial⟩ ⟨rfl, rfl, rfl, rfl, rfl, trivial⟩⟩
        · refine AWR.region ?_
          refine AOR.pure (LT.move (v := (.s (.c (.loc 24 0 b47.2.2.1.length)))) rfl) ⟨rfl, trivial⟩ trivial rfl rfl ?_
          refine AOR.pure (LT.move (v := (.s (.c (.loc 26 0 b47.2.2.2.length)))) rfl) ⟨rfl, trivial⟩ trivial rfl rfl ?_
          refine AOR.step (LT.buildSlice (n := 28) (els := [[(.loc 26 0 b47.2.2.2.length)]]) [(0, .tmp 42, (.c (.loc 26 0 b47.2.2.2.length)))] rfl rfl und31 ti37 rfl rfl rfl rfl (by decide) rfl rfl) ⟨rfl, trivial⟩ trivial rfl rfl ?_
          refine AOR.bind fun u52 hu52 => ?_
          refine AOR.step (LT.xapp rfl rfl rfl und31 ti37 rfl (by decide) (by decide) rfl (lim_le hu52)) ⟨rfl, rfl, trivial⟩ ⟨rfl, rfl, trivial⟩ rfl rfl ?_
          refine AOR.pure (LT.assign (v := (.s (.c (.loc 24 0 (b47.2.2.1.length + 1))))) rfl) ⟨rfl, trivial⟩ trivial rfl rfl ?_
          refine AOR.nil ?_
          refine AWR.ent (Ent.tadopt (enc := encInt) (n := 24) (m := 26) (p := 25) (rows := b47.2.2.1) (r := b47.2.2.2) (rest := []) rfl rfl rfl rfl rfl rfl) ?_
          refine AWR.ent (Ent.trow (n := 24) (p := 25) (lens := lensOf (b47.2.2.1 ++ [b47.2.2.2])) (List.append_nil _) rfl) ?_
          refine AWR.blk ?_
          refine AWR.region ?_
          refine AOR.pure (LT.move (v := (.s (.c (iC b47.1)))) rfl) ⟨rfl, trivial⟩ trivial rfl rfl ?_
          refine AOR.pure (LT.add rfl) ⟨rfl, ⟨rfl, rfl⟩, trivial⟩ trivial rfl rfl ?_
          refine AOR.pure (LT.assign (v := (.s (.c (iC (w64 (b47.1 + 1)))))) rfl) ⟨rfl, trivial⟩ trivial rfl rfl ?_
          refine AOR.nil ?_
          refine AWR.nil ⟨rfl, Ent.of ⟨rfl, rfl, (congrArg (fun l1 => (some (AV.s (.c (.loc 24 0 l1))) : Option AV)) (show (b47.2.2.1.length + 1) = (b47.2.2.1 ++ [b47.2.2.2]).length from len_snoc)), rfl, trivial⟩ ⟨rfl, rfl, rfl, rfl, trivial⟩⟩
      · refine AWR.exit_end rfl ⟨rfl, Ent.of ⟨rfl, trivial⟩ ⟨rfl, rfl, trivial⟩⟩
  · refine AWR.seq ?_
    refine AWR.region ?_
    refine AOR.pure (LT.move (v := (.s (.c (.loc 24 0 b33.length)))) rfl) ⟨rfl, trivial⟩ trivial rfl rfl ?_
    refine AOR.pure (LT.assign (v := (.s (.c (.loc 24 0 b33.length)))) rfl) ⟨rfl, trivial⟩ trivial rfl rfl ?_
    refine AOR.nil ?_
    refine AWR.ent (Ent.of (σ' := [(2, (.s (.c (.loc 24 0 b33.length))))]) (m' := [(24, (.trow 37 25 (lensOf b33))), (25, (.pool 3 (rowsOf encInt b33)))]) ⟨rfl, trivial⟩ ⟨rfl, rfl, trivial⟩) ?_
    refine AWR.ent (Ent.mv 24 0 rfl rfl) ?_
    refine AWR.ent (Ent.mv 25 1 rfl rfl) ?_
    refine AWR.ent (Ent.of (σ' := [(2, (.s (.c (.loc 0 0 b33.length))))]) (m' := [(0, (.trow 37 1 (lensOf b33))), (1, (.pool 3 (rowsOf encInt b33)))]) ⟨rfl, trivial⟩ ⟨rfl, rfl, trivial⟩) ?_
    refine AWR.ret (FPost.mk (.inr rfl) ⟨rfl, trivial⟩ ⟨rfl, rfl, trivial⟩ rfl ⟨trivial, trivial⟩ ⟨trivial, PermO.poolR perm_encInt _, trivial⟩)
set_option maxRecDepth 100000 in
set_option maxHeartbeats 8000000 in
theorem w_spec_l2Has (l : (List Int)) (x : Int) : ∀ t, m_spec_l2Has l x = some t → Fw.Fn Try.prog 158 [(.c (.pv (.xs false (l.map encInt)))), (.c (iC x))] [] (.s (.c (bC t))) [] [] [] := by
  refine Fw.Fn.of (P := Try.prog) (X := []) (pn := []) (rs := (fun (t : Bool) => [(.c (bC t))])) (dfs := (fun (t : Bool) => [])) Try.func158 rfl Try.ntmps158 (Nat.le_of_ble_eq_true rfl) rfl ?_
  intro w0 U0 R0 g0
  unfold m_spec_l2Has
  refine AWR.seq ?_
  refine AWR.region ?_
  refine AOR.pure (LT.assign (v := (.s (.c (bC false)))) rfl) ⟨⟨rfl, rfl⟩, trivial⟩ trivial rfl rfl ?_
  refine AOR.nil ?_
  refine AWR.seq ?_
  refine AWR.seq ?_
  refine AWR.region ?_
  refine AOR.pure (LT.assign (v := (.s (.c (iC 0)))) rfl) ⟨⟨rfl, rfl⟩, trivial⟩ trivial rfl rfl ?_
  refine AOR.nil ?_
  refine AWR.block ?_
  refine AWR.loopR (id := 0) (m_spec_l2Has_L1 l x) (fun s1 => ([(0, (.s (.c (.pv (.xs false (l.map encInt)))))), (1, (.s (.c (iC x)))), (5, (.s (.c (iC s1))))], [])) (fun b8 => ([], [])) (FPost Try.prog Try.f158.results.toList [] [] (fun (t : Bool) => [(.c (bC t))]) (fun (t : Bool) => [])) ?_ (Ent.of ⟨rfl, rfl, rfl, trivial⟩ trivial) rfl (fun b8 _ => ?_) (by intro r t σ m ht hk; injection ht with ht; subst ht; exact hk)
  · intro s1
    unfold m_spec_l2Has_L1
    refine AWR.seq ?_
    refine AWR.seq ?_
    refine AWR.region ?_
    refine AOR.pure (LT.move (v := (.s (.c (iC s1)))) rfl) ⟨rfl, trivial⟩ trivial rfl rfl ?_
    refine AOR.pure (LT.move (v := (.s (.c (.pv (.xs false (l.map encInt)))))) rfl) ⟨rfl, trivial⟩ trivial rfl rfl ?_
    refine AOR.pure (LT.tlenRO rfl und37) ⟨rfl, trivial⟩ trivial rfl rfl ?_
    refine AOR.pure (LT.lss rfl) ⟨rfl, rfl, trivial⟩ trivial rfl rfl ?_
    refine AOR.nil ?_
    refine AWR.cond rfl (fun hc9 => ?_) (fun hc9 => ?_)
    · refine AWR.skip ?_
      refine AWR.seq ?_
      refine AWR.block ?_
      refine AWR.seq ?_
      refine AWR.region ?_
      refine AOR.pure (LT.move (v := (.s (.c (.pv (.xs false (l.map encInt)))))) rfl) ⟨rfl, trivial⟩ trivial rfl rfl ?_
      refine AOR.pure (LT.move (v := (.s (.c (iC s1)))) rfl) ⟨rfl, trivial⟩ trivial rfl rfl ?_
      refine AOR.bind fun x10 hx10 => ?_
      refine AOR.pure (LT.tindexRO (enc := encInt) rfl el37 hx10 sz3) ⟨rfl, rfl, trivial⟩ trivial rfl rfl ?_
      refine AOR.pure (LT.loadPx1 rfl ag3) ⟨rfl, trivial⟩ trivial rfl rfl ?_
      refine AOR.pure (LT.move (v := (.s (.c (iC x)))) rfl) ⟨rfl, trivial⟩ trivial rfl rfl ?_
      refine AOR.pure (LT.eql rfl) ⟨rfl, rfl, trivial⟩ trivial rfl rfl ?_
      refine AOR.nil ?_
      refine AWR.cond rfl (fun hc11 => ?_) (fun hc11 => ?_)
      · refine AWR.seq ?_
        refine AWR.region ?_
        refine AOR.pure (LT.assign (v := (.s (.c (bC true)))) rfl) ⟨⟨rfl, rfl⟩, trivial⟩ trivial rfl rfl ?_
        refine AOR.nil ?_
        refine AWR.ret ⟨rfl, FPost.mk (.inr rfl) ⟨rfl, trivial⟩ trivial rfl ⟨PermP.sc, trivial⟩ trivial⟩
      · refine AWR.skip ?_
        refine AWR.blk ?_
        refine AWR.region ?_
        refine AOR.pure (LT.move (v := (.s (.c (iC s1)))) rfl) ⟨rfl, trivial⟩ trivial rfl rfl ?_
        refine AOR.pure (LT.add rfl) ⟨rfl, ⟨rfl, rfl⟩, trivial⟩ trivial rfl rfl ?_
        refine AOR.pure (LT.assign (v := (.s (.c (iC (w64 (s1 + 1)))))) rfl) ⟨rfl, trivial⟩ trivial rfl rfl ?_
        refine AOR.nil ?_
        refine AWR.nil ⟨rfl, Ent.of ⟨rfl, rfl, rfl, trivial⟩ trivial⟩
    · refine AWR.exit_end rfl ⟨rfl, Ent.of trivial trivial⟩
  · refine AWR.seq ?_
    refine AWR.region ?_
    refine AOR.pure (LT.assign (v := (.s (.c (bC false)))) rfl) ⟨⟨rfl, rfl⟩, trivial⟩ trivial rfl rfl ?_
    refine AOR.nil ?_
    refine AWR.ret (FPost.mk (.inr rfl) ⟨rfl, trivial⟩ trivial rfl ⟨PermP.sc, trivial⟩ trivial)
set_option maxRecDepth 100000 in
set_option maxHeartbeats 8000000 in
theorem w_spec_l9Null (m : (List (List Int))) (columns : Int) : ∀ t, m_spec_l9Null m columns = some t → Fw.Fn Try.prog 89 [(.c (.pv (.xs false (m.map (encLInt false))))), (.c (iC columns))] [] (.s (.c (.loc 0 0 t.length))) [(0, (.prow 37 (t.map (encLInt true))))] [] [0] := by
  refine Fw.Fn.ofU (P := Try.prog) (X := [0]) (pn := []) (rs := (fun (t : (List (List Int))) => [(.c (.loc 0 0 t.length))])) (dfs := (fun (t : (List (List Int))) => [(0, (.prow 37 (t.map (encLInt true))))])) Try.func89 rfl Try.ntmps89 (Nat.le_of_ble_eq_true rfl) rfl ?_
  intro w0 U0 R0 g0 hU
  unfold m_spec_l9Null
  refine AWR.seq ?_
  refine AWR.region ?_
  refine AOR.pure (LT.assign (v := (.s (.c (sC nilV)))) rfl) ⟨⟨rfl, rfl⟩, trivial⟩ trivial rfl rfl ?_
  refine AOR.nil ?_
  refine AWR.seq ?_
  refine AWR.region ?_
  refine AOR.step (LT.tbuildSlice (n := 21) (enc := (encLInt true)) [] ([] : List (List Int)) rfl rfl und31 ti37 rfl rfl rfl rfl (by decide) (fun _ => rfl) rfl) trivial trivial rfl rfl ?_
  refine AOR.pure (LT.assign (v := (.s (.c (.loc 21 0 ([] : List (List Int)).length)))) rfl) ⟨rfl, trivial⟩ trivial rfl rfl ?_
  refine AOR.nil ?_
  refine AWR.seq ?_
  refine AWR.region ?_
  refine AOR.pure (LT.move (v := (.s (.c (.pv (.xs false (m.map (encLInt false))))))) rfl) ⟨rfl, trivial⟩ trivial rfl rfl ?_
  refine AOR.bind fun r1 hr1 => ?_
  refine AOR.step (@LT.callF Try.prog _ _ 133 _ _ [(.c (.pv (.xs false (m.map (encLInt false)))))] _ _ [] _ _ _ _ ((show Fw.Fn Try.prog 133 [(.c (.pv (.xs false (m.map (encLInt false)))))] [] (.tup [(.c (.loc 23 0 r1.1.length)), (.c (.loc 24 0 r1.2.length))]) [(23, (.prow 37 (r1.1.map (encLInt true)))), (24, (.prow 3 (r1.2.map encInt)))] [] [23, 24] from Fw.Fn.ren [(0, 23), (1, 24)] (w_spec_l9Reduced m r1 hr1) rfl)) rfl cb133 (.cons (.c (.same rfl)) .nil) rfl rfl trivial) ⟨rfl, rfl, trivial⟩ trivial rfl rfl ?_
  refine AOR.pure (LT.move (v := (.tup [(.c (.loc 23 0 r1.1.length)), (.c (.loc 24 0 r1.2.length))])) rfl) ⟨rfl, trivial⟩ trivial rfl rfl ?_
  refine AOR.pure (LT.extract (v := (.c (.loc 23 0 r1.1.length))) rfl (by exact rfl)) ⟨rfl, trivial⟩ trivial rfl rfl ?_
  refine AOR.pure (LT.extract (v := (.c (.loc 24 0 r1.2.length))) rfl (by exact rfl)) ⟨rfl, trivial⟩ trivial rfl rfl ?_
  refine AOR.pure (LT.assign (v := (.s (.c (.loc 23 0 r1.1.length)))) rfl) ⟨rfl, trivial⟩ trivial rfl rfl ?_
  refine AOR.pure (LT.assign (v := (.s (.c (.loc 24 0 r1.2.length)))) rfl) ⟨rfl, trivial⟩ trivial rfl rfl ?_
  refine AOR.nil ?_
  refine AWR.seq ?_
  refine AWR.seq ?_
  refine AWR.ent (Ent.of (σ' := [(1, (.s (.c (iC columns)))), (5, (.s (.c (.loc 21 0 ([] : List (List Int)).length)))), (6, (.s (.c (.loc 23 0 r1.1.length)))), (7, (.s (.c (.loc 24 0 r1.2.length))))]) (m' := [(21, (.prow 37 (([] : List (List Int)).map (encLInt true)))), (23, (.prow 37 (r1.1.map (encLInt true)))), (24, (.prow 3 (r1.2.map encInt)))]) ⟨rfl, rfl, rfl, rfl, trivial⟩ ⟨rfl, rfl, rfl, trivial⟩) ?_
  refine AWR.region ?_
  refine AOR.pure (LT.assign (v := (.s (.c (iC 0)))) rfl) ⟨⟨rfl, rfl⟩, trivial⟩ trivial rfl rfl ?_
  refine AOR.nil ?_
  refine AWR.block ?_
  refine AWR.loop1 (id := 0) (m_spec_l9Null_L5 columns) (fun s2 => ([(1, (.s (.c (iC columns)))), (5, (.s (.c (.loc 21 0 s2.2.1.length)))), (6, (.s (.c (.loc 23 0 s2.2.2.1.length)))), (7, (.s (.c (.loc 24 0 s2.2.2.2.length)))), (8, (.s (.c (iC s2.1))))], [(21, (.prow 37 (s2.2.1.map (encLInt true)))), (23, (.prow 37 (s2.2.2.1.map (encLInt true)))), (24, (.prow 3 (s2.2.2.2.map encInt)))])) (fun b113 => ([(5, (.s (.c (.loc 21 0 b113.length))))], [(21, (.prow 37 (b113.map (encLInt true))))])) ?_ (Ent.of ⟨rfl, rfl, rfl, rfl, rfl, trivial⟩ ⟨rfl, rfl, rfl, trivial⟩) rfl (fun b113 _ => ?_)
  · intro s2
    unfold m_spec_l9Null_L5
    refine AWR.seq ?_
    refine AWR.seq ?_
    refine AWR.region ?_
    refine AOR.pure (LT.move (v := (.s (.c (iC s2.1)))) rfl) ⟨rfl, trivial⟩ trivial rfl rfl ?_
    refine AOR.pure (LT.move (v := (.s (.c (iC columns)))) rfl) ⟨rfl, trivial⟩ trivial rfl rfl ?_
    refine AOR.pure (LT.lss rfl) ⟨rfl, rfl, trivial⟩ trivial rfl rfl ?_
    refine AOR.nil ?_
    refine AWR.cond rfl (fun hc114 => ?_) (fun hc114 => ?_)
    · refine AWR.skip ?_
      refine AWR.seq ?_
      refine AWR.block ?_
      refine AWR.seq ?_
      refine AWR.seq ?_
      refine AWR.region ?_
      refine AOR.pure (LT.move (v := (.s (.c (.loc 24 0 s2.2.2.2.length)))) rfl) ⟨rfl, trivial⟩ trivial rfl rfl ?_
      refine AOR.pure (LT.move (v := (.s (.c (iC s2.1)))) rfl) ⟨rfl, trivial⟩ trivial rfl rfl ?_
      refine AOR.bind fun r115 hr115 => ?_
      refine AOR.pure (@LT.callF Try.prog _ _ 158 _ _ [(.c (.loc 24 0 s2.2.2.2.length)), (.c (iC s2.1))] _ _ [(24, (.prow 3 (s2.2.2.2.map encInt)))] _ _ _ _ (w_spec_l2Has s2.2.2.2 s2.1 r115 hr115) rfl cb158 (.cons (.c (.tloc rfl rfl)) (.cons (.c (.same rfl)) .nil)) rfl rfl trivial) ⟨rfl, rfl, rfl, trivial⟩ ⟨rfl, trivial⟩ rfl rfl ?_
      refine AOR.nil ?_
      refine AWR.cond rfl (fun hc116 => ?_) (fun hc116 => ?_)
      · refine AWR.exit rfl ?_
        refine AWR.region ?_
        refine AOR.pure (LT.move (v := (.s (.c (iC s2.1)))) rfl) ⟨rfl, trivial⟩ trivial rfl rfl ?_
        refine AOR.pure (LT.add rfl) ⟨rfl, ⟨rfl, rfl⟩, trivial⟩ trivial rfl rfl ?_
        refine AOR.pure (LT.assign (v := (.s (.c (iC (w64 (s2.1 + 1)))))) rfl) ⟨rfl, trivial⟩ trivial rfl rfl ?_
        refine AOR.nil ?_
        refine AWR.nil ⟨rfl, Ent.of ⟨rfl, rfl, rfl, rfl, rfl, trivial⟩ ⟨rfl, rfl, rfl, trivial⟩⟩
      · refine AWR.skip ?_
        refine AWR.seq ?_
        refine AWR.region ?_
        refine AOR.pure (LT.assign (v := (.s (.c (iC 1)))) rfl) ⟨⟨rfl, rfl⟩, trivial⟩ trivial rfl rfl ?_
        refine AOR.nil ?_
        refine AWR.seq ?_
        refine AWR.seq ?_
        refine AWR.region ?_
        refine AOR.pure (LT.assign (v := (.s (.c (iC 0)))) rfl) ⟨⟨rfl, rfl⟩, trivial⟩ trivial rfl rfl ?_
        refine AOR.nil ?_
        refine AWR.block ?_
        refine AWR.loop1 (id := 2) (m_spec_l9Null_L6 s2) (fun s117 => ([(1, (.s (.c (iC columns)))), (5, (.s (.c (.loc 21 0 s2.2.1.length)))), (6, (.s (.c (.loc 23 0 s2.2.2.1.length)))), (7, (.s (.c (.loc 24 0 s2.2.2.2.length)))), (8, (.s (.c (iC s2.1)))), (9, (.s (.c (iC s117.1)))), (10, (.s (.c (iC s117.2))))], [(21, (.prow 37 (s2.2.1.map (encLInt true)))), (23, (.prow 37 (s2.2.2.1.map (encLInt true)))), (24, (.prow 3 (s2.2.2.2.map encInt)))])) (fun b144 => ([(1, (.s (.c (iC columns)))), (5, (.s (.c (.loc 21 0 b144.2.2.1.length)))), (6, (.s (.c (.loc 23 0 b144.2.2.2.1.length)))), (7, (.s (.c (.loc 24 0 b144.2.2.2.2.length)))), (8, (.s (.c (iC b144.1)))), (9, (.s (.c (iC b144.2.1))))], [(21, (.prow 37 (b144.2.2.1.map (encLInt true)))), (23, (.prow 37 (b144.2.2.2.1.map (encLInt true)))), (24, (.prow 3 (b144.2.2.2.2.map encInt)))])) ?_ (Ent.of ⟨rfl, rfl, rfl, rfl, rfl, rfl, rfl, trivial⟩ ⟨rfl, rfl, rfl, trivial⟩) rfl (fun b144 _ => ?_)
        · intro s117
          unfold m_spec_l9Null_L6
          refine AWR.seq ?_
          refine AWR.seq ?_
          refine AWR.region ?_
          refine AOR.pure (LT.move (v := (.s (.c (iC s117.2)))) rfl) ⟨rfl, trivial⟩ trivial rfl rfl ?_
          refine AOR.pure (LT.move (v := (.s (.c (.loc 24 0 s2.2.2.2.length)))) rfl) ⟨rfl, trivial⟩ trivial rfl rfl ?_
          refine AOR.pure (LT.lenLoc rfl und37) ⟨rfl, trivial⟩ trivial rfl rfl ?_
          refine AOR.pure (LT.lss rfl) ⟨rfl, rfl, trivial⟩ trivial rfl rfl ?_
          refine AOR.nil ?_
          refine AWR.cond rfl (fun hc145 => ?_) (fun hc145 => ?_)
          · refine AWR.skip ?_
            refine AWR.seq ?_
            refine AWR.block ?_
            refine AWR.seq ?_
            refine AWR.draw mixed ?_
            refine AOD.pure (LT.move (v := (.s (.c (.loc 23 0 s2.2.2.1.length)))) rfl) ⟨rfl, trivial⟩ trivial rfl rfl ?_
            refine AOD.pure (LT.move (v := (.s (.c (iC s117.2)))) rfl) ⟨rfl, trivial⟩ trivial rfl rfl ?_
            refine AOD.bind fun x146 hx146 => ?_
            refine AOD.pure (LT.tindexLoc rfl rfl el31 hx146) ⟨rfl, rfl, trivial⟩ ⟨rfl, trivial⟩ rfl rfl ?_
            refine AOD.pure (LT.tload1 (k := 0) rfl ag37 hx146 (by exact rfl) (by exact rfl)) ⟨rfl, trivial⟩ ⟨rfl, trivial⟩ rfl rfl ?_
            refine AOD.pure (LT.move (v := (.s (.c (.loc 24 0 s2.2.2.2.length)))) rfl) ⟨rfl, trivial⟩ trivial rfl rfl ?_
            refine AOD.pure (LT.move (v := (.s (.c (iC s117.2)))) rfl) ⟨rfl, trivial⟩ trivial rfl rfl ?_
            refine AOD.bind fun x147 hx147 => ?_
            refine AOD.pure (LT.tindexLoc rfl rfl el37 hx147) ⟨rfl, rfl, trivial⟩ ⟨rfl, trivial⟩ rfl rfl ?_
            refine AOD.pure (LT.tload1 (k := 0) rfl ag3 hx147 (by exact rfl) (by exact rfl)) ⟨rfl, trivial⟩ ⟨rfl, trivial⟩ rfl rfl ?_
            refine AOD.bind fun x148 hx148 => ?_
            refine AOD.pure (LT.tindexRO (enc := encInt) rfl el37 hx148 sz3) ⟨rfl, rfl, trivial⟩ trivial rfl rfl ?_
            refine AOD.pure (LT.loadPx1 rfl ag3) ⟨rfl, trivial⟩ trivial rfl rfl ?_
            refine AOD.pure (LT.move (v := (.s (.c (.loc 23 0 s2.2.2.1.length)))) rfl) ⟨rfl, trivial⟩ trivial rfl rfl ?_
            refine AOD.pure (LT.move (v := (.s (.c (iC s117.2)))) rfl) ⟨rfl, trivial⟩ trivial rfl rfl ?_
            refine AOD.bind fun x149 hx149 => ?_
            refine AOD.pure (LT.tindexLoc rfl rfl el31 hx149) ⟨rfl, rfl, trivial⟩ ⟨rfl, trivial⟩ rfl rfl ?_
            refine AOD.pure (LT.tload1 (k := 0) rfl ag37 hx149 (by exact rfl) (by exact rfl)) ⟨rfl, trivial⟩ ⟨rfl, trivial⟩ rfl rfl ?_
            refine AOD.pure (LT.move (v := (.s (.c (.loc 24 0 s2.2.2.2.length)))) rfl) ⟨rfl, trivial⟩ trivial rfl rfl ?_
            refine AOD.pure (LT.move (v := (.s (.c (iC s117.2)))) rfl) ⟨rfl, trivial⟩ trivial rfl rfl ?_
            refine AOD.bind fun x150 hx150 => ?_
            refine AOD.pure (LT.tindexLoc rfl rfl el37 hx150) ⟨rfl, rfl, trivial⟩ ⟨rfl, trivial⟩ rfl rfl ?_
            refine AOD.pure (LT.tload1 (k := 0) rfl ag3 hx150 (by exact rfl) (by exact rfl)) ⟨rfl, trivial⟩ ⟨rfl, trivial⟩ rfl rfl ?_
            refine AOD.bind fun x151 hx151 => ?_
            refine AOD.pure (LT.tindexRO (enc := encInt) rfl el37 hx151 sz3) ⟨rfl, rfl, trivial⟩ trivial rfl rfl ?_
            refine AOD.pure (LT.loadPx1 rfl ag3) ⟨rfl, trivial⟩ trivial rfl rfl ?_
            refine AOD.pure (LT.neg rfl) ⟨rfl, trivial⟩ trivial rfl rfl ?_
            refine AOD.pure (LT.max rfl) ⟨rfl, rfl, trivial⟩ trivial rfl rfl ?_
            refine AOD.pure (LT.assign (v := (.s (.c (iC (if x148 < (w64 (-x151)) then (w64 (-x151)) else x148))))) rfl) ⟨rfl, trivial⟩ trivial rfl rfl ?_
            refine AOD.nil (by kernel_rfl) ?_
            refine AWR.seq ?_
            refine AWR.ent (Ent.of (σ' := [(1, (.s (.c (iC columns)))), (5, (.s (.c (.loc 21 0 s2.2.1.length)))), (6, (.s (.c (.loc 23 0 s2.2.2.1.length)))), (7, (.s (.c (.loc 24 0 s2.2.2.2.length)))), (8, (.s (.c (iC s2.1)))), (9, (.s (.c (iC s117.1)))), (10, (.s (.c (iC s117.2)))), (11, (.s (.c (iC (if x148 < (w64 (-x151)) then (w64 (-x151)) else x148)))))]) (m' := [(21, (.prow 37 (s2.2.1.map (encLInt true)))), (23, (.prow 37 (s2.2.2.1.map (encLInt true)))), (24, (.prow 3 (s2.2.2.2.map encInt)))]) ⟨rfl, rfl, rfl, rfl, rfl, rfl, rfl, rfl, trivial⟩ ⟨rfl, rfl, rfl, trivial⟩) ?_
            refine AWR.region ?_
            refine AOR.pure (LT.move (v := (.s (.c (iC (if x148 < (w64 (-x151)) then (w64 (-x151)) else x148))))) rfl) ⟨rfl, trivial⟩ trivial rfl rfl ?_
            refine AOR.pure (LT.move (v := (.s (.c (iC (if x148 < (w64 (-x151)) then (w64 (-x151)) else x148))))) rfl) ⟨rfl, trivial⟩ trivial rfl rfl ?_
            refine AOR.pure (LT.move (v := (.s (.c (.loc 23 0 s2.2.2.1.length)))) rfl) ⟨rfl, trivial⟩ trivial rfl rfl ?_
            refine AOR.pure (LT.move (v := (.s (.c (iC s117.2)))) rfl) ⟨rfl, trivial⟩ trivial rfl rfl ?_
            refine AOR.bind fun x152 hx152 => ?_
            refine AOR.pure (LT.tindexLoc rfl rfl el31 hx152) ⟨rfl, rfl, trivial⟩ ⟨rfl, trivial⟩ rfl rfl ?_
            refine AOR.pure (LT.tload1 (k := 0) rfl ag37 hx152 (by exact rfl) (by exact rfl)) ⟨rfl, trivial⟩ ⟨rfl, trivial⟩ rfl rfl ?_
            refine AOR.pure (LT.move (v := (.s (.c (iC s2.1)))) rfl) ⟨rfl, trivial⟩ trivial rfl rfl ?_
            refine AOR.bind fun x153 hx153 => ?_
            refine AOR.pure (LT.tindexRO (enc := encInt) rfl el37 hx153 sz3) ⟨rfl, rfl, trivial⟩ trivial rfl rfl ?_
            refine AOR.pure (LT.loadPx1 rfl ag3) ⟨rfl, trivial⟩ trivial rfl rfl ?_
            refine AOR.bind fun r154 hr154 => ?_
            refine AOR.pure (@LT.callF Try.prog _ _ 159 _ _ [(.c (iC (if x148 < (w64 (-x151)) then (w64 (-x151)) else x148))), (.c (iC x153))] _ _ [] _ _ _ _ (w_spec_GcdOf (if x148 < (w64 (-x151)) then (w64 (-x151)) else x148) x153 r154 hr154) rfl cb159 (.cons (.c (.same rfl)) (.cons (.c (.same rfl)) .nil)) rfl rfl trivial) ⟨rfl, rfl, rfl, trivial⟩ trivial rfl rfl ?_
            refine AOR.bind fun u155 hu155 => ?_
            refine AOR.pure (LT.quo rfl (nz_ne hu155)) ⟨rfl, rfl, trivial⟩ trivial rfl rfl ?_
            refine AOR.pure (LT.assign (v := (.s (.c (iC (w64 (Int.tdiv (if x148 < (w64 (-x151)) then (w64 (-x151)) else x148) r154)))))) rfl) ⟨rfl, trivial⟩ trivial rfl rfl ?_
            refine AOR.nil ?_
            refine AWR.ent (Ent.of (σ' := [(1, (.s (.c (iC columns)))), (5, (.s (.c (.loc 21 0 s2.2.1.length)))), (6, (.s (.c (.loc 23 0 s2.2.2.1.length)))), (7, (.s (.c (.loc 24 0 s2.2.2.2.length)))), (8, (.s (.c (iC s2.1)))), (9, (.s (.c (iC s117.1)))), (10, (.s (.c (iC s117.2)))), (12, (.s (.c (iC (w64 (Int.tdiv (if x148 < (w64 (-x151)) then (w64 (-x151)) else x148) r154))))))]) (m' := [(21, (.prow 37 (s2.2.1.map (encLInt true)))), (23, (.prow 37 (s2.2.2.1.map (encLInt true)))), (24, (.prow 3 (s2.2.2.2.map encInt)))]) ⟨rfl, rfl, rfl, rfl, rfl, rfl, rfl, rfl, trivial⟩ ⟨rfl, rfl, rfl, trivial⟩) ?_
            refine AWR.region ?_
            refine AOR.pure (LT.move (v := (.s (.c (iC s117.1)))) rfl) ⟨rfl, trivial⟩ trivial rfl rfl ?_
            refine AOR.pure (LT.move (v := (.s (.c (iC s117.1)))) rfl) ⟨rfl, trivial⟩ trivial rfl rfl ?_
            refine AOR.pure (LT.move (v := (.s (.c (iC (w64 (Int.tdiv (if x148 < (w64 (-x151)) then (w64 (-x151)) else x148) r154)))))) rfl) ⟨rfl, trivial⟩ trivial rfl rfl ?_
            refine AOR.bind fun r156 hr156 => ?_
            refine AOR.pure (@LT.callF Try.prog _ _ 159 _ _ [(.c (iC s117.1)), (.c (iC (w64 (Int.tdiv (if x148 < (w64 (-x151)) then (w64 (-x151)) else x148) r154))))] _ _ [] _ _ _ _ (w_spec_GcdOf s117.1 (w64 (Int.tdiv (if x148 < (w64 (-x151)) then (w64 (-x151)) else x148) r154)) r156 hr156) rfl cb159 (.cons (.c (.same rfl)) (.cons (.c (.same rfl)) .nil)) rfl rfl trivial) ⟨rfl, rfl, rfl, trivial⟩ trivial rfl rfl ?_
            refine AOR.bind fun u157 hu157 => ?_
            refine AOR.pure (LT.quo rfl (nz_ne hu157)) ⟨rfl, rfl, trivial⟩ trivial rfl rfl ?_
            refine AOR.pure (LT.move (v := (.s (.c (iC (w64 (Int.tdiv (if x148 < (w64 (-x151)) then (w64 (-x151)) else x148) r154)))))) rfl) ⟨rfl, trivial⟩ trivial rfl rfl ?_
            refine AOR.pure (LT.mul rfl) ⟨rfl, rfl, trivial⟩ trivial rfl rfl ?_
            refine AOR.pure (LT.assign (v := (.s (.c (iC (w64 ((w64 (Int.tdiv s117.1 r156)) * (w64 (Int.tdiv (if x148 < (w64 (-x151)) then (w64 (-x151)) else x148) r154)))))))) rfl) ⟨rfl, trivial⟩ trivial rfl rfl ?_
            refine AOR.nil ?_
            refine AWR.blk ?_
            refine AWR.region ?_
            refine AOR.pure (LT.move (v := (.s (.c (iC s117.2)))) rfl) ⟨rfl, trivial⟩ trivial rfl rfl ?_
            refine AOR.pure (LT.add rfl) ⟨rfl, ⟨rfl, rfl⟩, trivial⟩ trivial rfl rfl ?_
            refine AOR.pure (LT.assign (v := (.s (.c (iC (w64 (s117.2 + 1)))))) rfl) ⟨rfl, trivial⟩ trivial rfl rfl ?_
            refine AOR.nil ?_
            refine AWR.nil ⟨rfl, Ent.of ⟨rfl, rfl, rfl, rfl, rfl, rfl, rfl, trivial⟩ ⟨rfl, rfl, rfl, trivial⟩⟩
          · refine AWR.exit_end rfl ⟨rfl, Ent.of ⟨rfl, rfl, rfl, rfl, rfl, rfl, trivial⟩ ⟨rfl, rfl, rfl, trivial⟩⟩
        · refine AWR.seq ?_
          refine AWR.region ?_
          refine AOR.pure (LT.move (v := (.s (.c (iC columns)))) rfl) ⟨rfl, trivial⟩ trivial rfl rfl ?_
          refine AOR.bind fun u158 hu158 => ?_
          refine AOR.step (LT.tmake (n := 28) (enc := encInt) (zc := [(iC 0)]) (0 : Int) rfl und37 ti3 rfl rfl rfl (by decide) (by decide) (lenOk_le hu158) rfl) ⟨rfl, rfl, trivial⟩ trivial rfl rfl ?_
          refine AOR.pure (LT.assign (v := (.s (.c (.loc 28 0 (List.replicate columns.toNat (0 : Int)).length)))) rfl) ⟨rfl, trivial⟩ trivial rfl rfl ?_
          refine AOR.nil ?_
          refine AWR.seq ?_
          refine AWR.region ?_
          refine AOR.pure (LT.move (v := (.s (.c (.loc 28 0 (List.replicate columns.toNat (0 : Int)).length)))) rfl) ⟨rfl, trivial⟩ trivial rfl rfl ?_
          refine AOR.pure (LT.move (v := (.s (.c (iC b144.1)))) rfl) ⟨rfl, trivial⟩ trivial rfl rfl ?_
          refine AOR.pure (LT.move (v := (.s (.c (iC b144.2.1)))) rfl) ⟨rfl, trivial⟩ trivial rfl rfl ?_
          refine AOR.bind fun x159 hx159 => ?_
          refine AOR.pure (LT.tindexLoc rfl rfl el37 hx159) ⟨rfl, rfl, trivial⟩ ⟨rfl, trivial⟩ rfl rfl ?_
          refine AOR.step (LT.tstore (k := 0) (v := (.c (iC b144.2.1))) (b' := b144.2.1) rfl rfl (infS inf3) sz3 (by exact rfl) hx159 (by exact rfl) (by exact Nat.le_of_ble_eq_true rfl) (by exact rfl)) ⟨rfl, rfl, trivial⟩ ⟨rfl, trivial⟩ rfl rfl ?_
          refine AOR.nil ?_
          refine AWR.seq ?_
          refine AWR.seq ?_
          refine AWR.ent (Ent.of (σ' := [(1, (.s (.c (iC columns)))), (5, (.s (.c (.loc 21 0 b144.2.2.1.length)))), (6, (.s (.c (.loc 23 0 b144.2.2.2.1.length)))), (7, (.s (.c (.loc 24 0 b144.2.2.2.2.length)))), (8, (.s (.c (iC b144.1)))), (9, (.s (.c (iC b144.2.1)))), (13, (.s (.c (.loc 28 0 (List.replicate columns.toNat (0 : Int)).length))))]) (m' := [(21, (.prow 37 (b144.2.2.1.map (encLInt true)))), (23, (.prow 37 (b144.2.2.2.1.map (encLInt true)))), (24, (.prow 3 (b144.2.2.2.2.map encInt))), (28, (.prow 3 (((List.replicate columns.toNat (0 : Int)).set b144.1.toNat b144.2.1).map encInt)))]) ⟨rfl, rfl, rfl, rfl, rfl, rfl, rfl, trivial⟩ ⟨rfl, rfl, rfl, rfl, trivial⟩) ?_
          refine AWR.region ?_
          refine AOR.pure (LT.assign (v := (.s (.c (iC 0)))) rfl) ⟨⟨rfl, rfl⟩, trivial⟩ trivial rfl rfl ?_
          refine AOR.nil ?_
          refine AWR.block ?_
          refine AWR.loop1 (id := 4) (m_spec_l9Null_L7 b144) (fun s160 => ([(1, (.s (.c (iC columns)))), (5, (.s (.c (.loc 21 0 b144.2.2.1.length)))), (6, (.s (.c (.loc 23 0 b144.2.2.2.1.length)))), (7, (.s (.c (.loc 24 0 b144.2.2.2.2.length)))), (8, (.s (.c (iC b144.1)))), (9, (.s (.c (iC b144.2.1)))), (13, (.s (.c (.loc 28 0 s160.2.length)))), (14, (.s (.c (iC s160.1))))], [(21, (.prow 37 (b144.2.2.1.map (encLInt true)))), (23, (.prow 37 (b144.2.2.2.1.map (encLInt true)))), (24, (.prow 3 (b144.2.2.2.2.map encInt))), (28, (.prow 3 (s160.2.map encInt)))])) (fun b179 => ([(1, (.s (.c (iC columns)))), (5, (.s (.c (.loc 21 0 b179.2.1.length)))), (6, (.s (.c (.loc 23 0 b179.2.2.1.length)))), (7, (.s (.c (.loc 24 0 b179.2.2.2.1.length)))), (8, (.s (.c (iC b179.1)))), (13, (.s (.c (.loc 28 0 b179.2.2.2.2.length))))], [(21, (.prow 37 (b179.2.1.map (encLInt true)))), (23, (.prow 37 (b179.2.2.1.map (encLInt true)))), (24, (.prow 3 (b179.2.2.2.1.map encInt))), (28, (.prow 3 (b179.2.2.2.2.map encInt)))])) ?_ (Ent.of ⟨rfl, rfl, rfl, rfl, rfl, rfl, (congrArg (fun l1 => (some (AV.s (.c (.loc 28 0 l1))) : Option AV)) (show (List.replicate columns.toNat (0 : Int)).length = ((List.replicate columns.toNat (0 : Int)).set b144.1.toNat b144.2.1).length by simp only [List.length_set])), rfl, trivial⟩ ⟨rfl, rfl, rfl, rfl, trivial⟩) rfl (fun b179 _ => ?_)
          · intro s160
            unfold m_spec_l9Null_L7
            refine AWR.seq ?_
            refine AWR.seq ?_
            refine AWR.region ?_
            refine AOR.pure (LT.move (v := (.s (.c (iC s160.1)))) rfl) ⟨rfl, trivial⟩ trivial rfl rfl ?_
            refine AOR.pure (LT.move (v := (.s (.c (.loc 24 0 b144.2.2.2.2.length)))) rfl) ⟨rfl, trivial⟩ trivial rfl rfl ?_
            refine AOR.pure (LT.lenLoc rfl und37) ⟨rfl, trivial⟩ trivial rfl rfl ?_
            refine AOR.pure (LT.lss rfl) ⟨rfl, rfl, trivial⟩ trivial rfl rfl ?_
            refine AOR.nil ?_
            refine AWR.cond rfl (fun hc180 => ?_) (fun hc180 => ?_)
            · refine AWR.skip ?_
              refine AWR.seq ?_
              refine AWR.block ?_
              refine AWR.draw mixed ?_
              refine AOD.pure (LT.move (v := (.s (.c (.loc 28 0 s160.2.length)))) rfl) ⟨rfl, trivial⟩ trivial rfl rfl ?_
              refine AOD.pure (LT.move (v := (.s (.c (.loc 24 0 b144.2.2.2.2.length)))) rfl) ⟨rfl, trivial⟩ trivial rfl rfl ?_
              refine AOD.pure (LT.move (v := (.s (.c (iC s160.1)))) rfl) ⟨rfl, trivial⟩ trivial rfl rfl ?_
              refine AOD.bind fun x181 hx181 => ?_
              refine AOD.pure (LT.tindexLoc rfl rfl el37 hx181) ⟨rfl, rfl, trivial⟩ ⟨rfl, trivial⟩ rfl rfl ?_
              refine AOD.pure (LT.tload1 (k := 0) rfl ag3 hx181 (by exact rfl) (by exact rfl)) ⟨rfl, trivial⟩ ⟨rfl, trivial⟩ rfl rfl ?_
              refine AOD.pure (LT.move (v := (.s (.c (.loc 23 0 b144.2.2.2.1.length)))) rfl) ⟨rfl, trivial⟩ trivial rfl rfl ?_
              refine AOD.pure (LT.move (v := (.s (.c (iC s160.1)))) rfl) ⟨rfl, trivial⟩ trivial rfl rfl ?_
              refine AOD.bind fun x182 hx182 => ?_
              refine AOD.pure (LT.tindexLoc rfl rfl el31 hx182) ⟨rfl, rfl, trivial⟩ ⟨rfl, trivial⟩ rfl rfl ?_
              refine AOD.pure (LT.tload1 (k := 0) rfl ag37 hx182 (by exact rfl) (by exact rfl)) ⟨rfl, trivial⟩ ⟨rfl, trivial⟩ rfl rfl ?_
              refine AOD.pure (LT.move (v := (.s (.c (iC b144.1)))) rfl) ⟨rfl, trivial⟩ trivial rfl rfl ?_
              refine AOD.bind fun x183 hx183 => ?_
              refine AOD.pure (LT.tindexRO (enc := encInt) rfl el37 hx183 sz3) ⟨rfl, rfl, trivial⟩ trivial rfl rfl ?_
              refine AOD.pure (LT.loadPx1 rfl ag3) ⟨rfl, trivial⟩ trivial rfl rfl ?_
              refine AOD.pure (LT.move (v := (.s (.c (iC b144.2.1)))) rfl) ⟨rfl, trivial⟩ trivial rfl rfl ?_
              refine AOD.pure (LT.mul rfl) ⟨rfl, rfl, trivial⟩ trivial rfl rfl ?_
              refine AOD.pure (LT.move (v := (.s (.c (.loc 23 0 b144.2.2.2.1.length)))) rfl) ⟨rfl, trivial⟩ trivial rfl rfl ?_
              refine AOD.pure (LT.move (v := (.s (.c (iC s160.1)))) rfl) ⟨rfl, trivial⟩ trivial rfl rfl ?_
              refine AOD.bind fun x184 hx184 => ?_
              refine AOD.pure (LT.tindexLoc rfl rfl el31 hx184) ⟨rfl, rfl, trivial⟩ ⟨rfl, trivial⟩ rfl rfl ?_
              refine AOD.pure (LT.tload1 (k := 0) rfl ag37 hx184 (by exact rfl) (by exact rfl)) ⟨rfl, trivial⟩ ⟨rfl, trivial⟩ rfl rfl ?_
              refine AOD.pure (LT.move (v := (.s (.c (.loc 24 0 b144.2.2.2.2.length)))) rfl) ⟨rfl, trivial⟩ trivial rfl rfl ?_
              refine AOD.pure (LT.move (v := (.s (.c (iC s160.1)))) rfl) ⟨rfl, trivial⟩ trivial rfl rfl ?_
              refine AOD.bind fun x185 hx185 => ?_
              refine AOD.pure (LT.tindexLoc rfl rfl el37 hx185) ⟨rfl, rfl, trivial⟩ ⟨rfl, trivial⟩ rfl rfl ?_
              refine AOD.pure (LT.tload1 (k := 0) rfl ag3 hx185 (by exact rfl) (by exact rfl)) ⟨rfl, trivial⟩ ⟨rfl, trivial⟩ rfl rfl ?_
              refine AOD.bind fun x186 hx186 => ?_
              refine AOD.pure (LT.tindexRO (enc := encInt) rfl el37 hx186 sz3) ⟨rfl, rfl, trivial⟩ trivial rfl rfl ?_
              refine AOD.pure (LT.loadPx1 rfl ag3) ⟨rfl, trivial⟩ trivial rfl rfl ?_
              refine AOD.bind fun u187 hu187 => ?_
              refine AOD.pure (LT.quo rfl (nz_ne hu187)) ⟨rfl, rfl, trivial⟩ trivial rfl rfl ?_
              refine AOD.pure (LT.neg rfl) ⟨rfl, trivial⟩ trivial rfl rfl ?_
              refine AOD.bind fun x188 hx188 => ?_
              refine AOD.pure (LT.tindexLoc rfl rfl el37 hx188) ⟨rfl, rfl, trivial⟩ ⟨rfl, trivial⟩ rfl rfl ?_
              refine AOD.step (LT.tstore (k := 0) (v := (.c (iC (w64 (-(w64 (Int.tdiv (w64 (x183 * b144.2.1)) x186))))))) (b' := (w64 (-(w64 (Int.tdiv (w64 (x183 * b144.2.1)) x186))))) rfl rfl (infS inf3) sz3 (by exact rfl) hx188 (by exact rfl) (by exact Nat.le_of_ble_eq_true rfl) (by exact rfl)) ⟨rfl, rfl, trivial⟩ ⟨rfl, trivial⟩ rfl rfl ?_
              refine AOD.nil (by kernel_rfl) ?_
              refine AWR.blk ?_
              refine AWR.ent (Ent.of (σ' := [(1, (.s (.c (iC columns)))), (5, (.s (.c (.loc 21 0 b144.2.2.1.length)))), (6, (.s (.c (.loc 23 0 b144.2.2.2.1.length)))), (7, (.s (.c (.loc 24 0 b144.2.2.2.2.length)))), (8, (.s (.c (iC b144.1)))), (9, (.s (.c (iC b144.2.1)))), (13, (.s (.c (.loc 28 0 s160.2.length)))), (14, (.s (.c (iC s160.1))))]) (m' := [(21, (.prow 37 (b144.2.2.1.map (encLInt true)))), (23, (.prow 37 (b144.2.2.2.1.map (encLInt true)))), (24, (.prow 3 (b144.2.2.2.2.map encInt))), (28, (.prow 3 ((s160.2.set x181.toNat (w64 (-(w64 (Int.tdiv (w64 (x183 * b144.2.1)) x186))))).map encInt)))]) ⟨rfl, rfl, rfl, rfl, rfl, rfl, rfl, rfl, trivial⟩ ⟨rfl, rfl, rfl, rfl, trivial⟩) ?_
              refine AWR.region ?_
              refine AOR.pure (LT.move (v := (.s (.c (iC s160.1)))) rfl) ⟨rfl, trivial⟩ trivial rfl rfl ?_
              refine AOR.pure (LT.add rfl) ⟨rfl, ⟨rfl, rfl⟩, trivial⟩ trivial rfl rfl ?_
              refine AOR.pure (LT.assign (v := (.s (.c (iC (w64 (s160.1 + 1)))))) rfl) ⟨rfl, trivial⟩ trivial rfl rfl ?_
              refine AOR.nil ?_
              refine AWR.nil ⟨rfl, Ent.of ⟨rfl, rfl, rfl, rfl, rfl, rfl, (congrArg (fun l1 => (some (AV.s (.c (.loc 28 0 l1))) : Option AV)) (show s160.2.length = (s160.2.set x181.toNat (w64 (-(w64 (Int.tdiv (w64 (x183 * b144.2.1)) x186))))).length by simp only [List.length_set])), rfl, trivial⟩ ⟨rfl, rfl, rfl, rfl, trivial⟩⟩
            · refine AWR.exit_end rfl ⟨rfl, Ent.of ⟨rfl, rfl, rfl, rfl, rfl, rfl, trivial⟩ ⟨rfl, rfl, rfl, rfl, trivial⟩⟩
          · refine AWR.region ?_
            refine AOR.pure (LT.move (v := (.s (.c (.loc 21 0 b179.2.1.length)))) rfl) ⟨rfl, trivial⟩ trivial rfl rfl ?_
            refine AOR.pure (LT.move (v := (.s (.c (.loc 28 0 b179.2.2.2.2.length)))) rfl) ⟨rfl, trivial⟩ trivial rfl rfl ?_
            refine AOR.bind fun r189 hr189 => ?_
            refine AOR.step (@LT.callF Try.prog _ _ 160 _ _ [(.c (.loc 28 0 b179.2.2.2.2.length))] _ _ [(28, (.prow 3 (b179.2.2.2.2.map encInt)))] _ _ _ _ ((show Fw.Fn Try.prog 160 [(.c (.pv (.xs false (b179.2.2.2.2.map encInt))))] [] (.s (.c (.loc 30 0 r189.length))) [(30, (.prow 3 (r189.map encInt)))] [] [30] from Fw.Fn.ren [(0, 30)] (w_spec_PrimitiveVector b179.2.2.2.2 r189 hr189) rfl)) rfl cb160 (.cons (.c (.tloc rfl rfl)) .nil) rfl rfl trivial) ⟨rfl, rfl, trivial⟩ ⟨rfl, trivial⟩ rfl rfl ?_
            refine AOR.ent (Ent.freezeS (enc := encInt) 116 30 hU rfl rfl rfl rfl) ?_
            refine AOR.step (LT.tbuildSlice (n := 31) (enc := (encLInt true)) [(0, .tmp 116, (.c (.pv (.xs true (r189.map encInt)))))] [r189] rfl rfl und31 ti37 rfl rfl rfl rfl (by decide) (fun _ => rfl) rfl) ⟨rfl, trivial⟩ trivial rfl rfl ?_
            refine AOR.bind fun u190 hu190 => ?_
            refine AOR.step (LT.tappP (enc := (encLInt true)) rfl rfl rfl und31 ti37 rfl (by decide) (by decide) (fun _ => rfl) (lim_le hu190)) ⟨rfl, rfl, trivial⟩ ⟨rfl, rfl, trivial⟩ rfl rfl ?_
            refine AOR.pure (LT.assign (v := (.s (.c (.loc 21 0 (b179.2.1 ++ [r189]).length)))) rfl) ⟨rfl, trivial⟩ trivial rfl rfl ?_
            refine AOR.nil ?_
            refine AWR.blk ?_
            refine AWR.ent (Ent.of (σ' := [(1, (.s (.c (iC columns)))), (5, (.s (.c (.loc 21 0 (b179.2.1 ++ [r189]).length)))), (6, (.s (.c (.loc 23 0 b179.2.2.1.length)))), (7, (.s (.c (.loc 24 0 b179.2.2.2.1.length)))), (8, (.s (.c (iC b179.1))))]) (m' := [(21, (.prow 37 ((b179.2.1 ++ [r189]).map (encLInt true)))), (23, (.prow 37 (b179.2.2.1.map (encLInt true)))), (24, (.prow 3 (b179.2.2.2.1.map encInt)))]) ⟨rfl, rfl, rfl, rfl, rfl, trivial⟩ ⟨rfl, rfl, rfl, trivial⟩) ?_
            refine AWR.region ?_
            refine AOR.pure (LT.move (v := (.s (.c (iC b179.1)))) rfl) ⟨rfl, trivial⟩ trivial rfl rfl ?_
            refine AOR.pure (LT.add rfl) ⟨rfl, ⟨rfl, rfl⟩, trivial⟩ trivial rfl rfl ?_
            refine AOR.pure (LT.assign (v := (.s (.c (iC (w64 (b179.1 + 1)))))) rfl) ⟨rfl, trivial⟩ trivial rfl rfl ?_
            refine AOR.nil ?_
            refine AWR.nil ⟨rfl, Ent.of ⟨rfl, rfl, rfl, rfl, rfl, trivial⟩ ⟨rfl, rfl, rfl, trivial⟩⟩
    · refine AWR.exit_end rfl ⟨rfl, Ent.of ⟨rfl, trivial⟩ ⟨rfl, trivial⟩⟩
  · refine AWR.seq ?_
    refine AWR.region ?_
    refine AOR.pure (LT.move (v := (.s (.c (.loc 21 0 b113.length)))) rfl) ⟨rfl, trivial⟩ trivial rfl rfl ?_
    refine AOR.pure (LT.assign (v := (.s (.c (.loc 21 0 b113.length)))) rfl) ⟨rfl, trivial⟩ trivial rfl rfl ?_
    refine AOR.nil ?_
    refine AWR.ent (Ent.of (σ' := [(4, (.s (.c (.loc 21 0 b113.length))))]) (m' := [(21, (.prow 37 (b113.map (encLInt true))))]) ⟨rfl, trivial⟩ ⟨rfl, trivial⟩) ?_
    refine AWR.ent (Ent.mv 21 0 rfl rfl) ?_
    refine AWR.ent (Ent.of (σ' := [(4, (.s (.c (.loc 0 0 b113.length))))]) (m' := [(0, (.prow 37 (b113.map (encLInt true))))]) ⟨rfl, trivial⟩ ⟨rfl, trivial⟩) ?_
    refine AWR.ret (FPost.mk (.inr rfl) ⟨rfl, trivial⟩ ⟨rfl, trivial⟩ rfl ⟨trivial, trivial⟩ ⟨PermO.prow' perm_encLInt, trivial⟩)
set_option maxRecDepth 100000 in
set_option maxHeartbeats 8000000 in
theorem w_impl_transposed (m : (List (List Int))) (columns : Int) : ∀ t, m_impl_transposed m columns = some t → Fw.Fn Try.prog 88 [(.c (.pv (.xs false (m.map (encLInt false))))), (.c (iC columns))] [] (.s (.c (.loc 0 0 t.length))) [(0, (.trow 37 1 (lensOf t))), (1, (.pool 3 (rowsOf encInt t)))] [] [0, 1] := by
  refine Fw.Fn.of (P := Try.prog) (X := [0, 1]) (pn := []) (rs := (fun (t : (List (List Int))) => [(.c (.loc 0 0 t.length))])) (dfs := (fun (t : (List (List Int))) => [(0, (.trow 37 1 (lensOf t))), (1, (.pool 3 (rowsOf encInt t)))])) Try.func88 rfl Try.ntmps88 (Nat.le_of_ble_eq_true rfl) rfl ?_
  intro w0 U0 R0 g0
  unfold m_impl_transposed
  refine AWR.seq ?_
  refine AWR.region ?_
  refine AOR.pure (LT.assign (v := (.s (.c (sC nilV)))) rfl) ⟨⟨rfl, rfl⟩, trivial⟩ trivial rfl rfl ?_
  refine AOR.nil ?_
  refine AWR.seq ?_
  refine AWR.region ?_
  refine AOR.pure (LT.move (v := (.s (.c (iC columns)))) rfl) ⟨rfl, trivial⟩ trivial rfl rfl ?_
  refine AOR.bind fun u1 hu1 => ?_
  refine AOR.step (LT.xmake (n := 21) rfl und31 ti37 (by decide) (lenOk_le hu1)) ⟨rfl, rfl, trivial⟩ trivial rfl rfl ?_
  refine AOR.pure (LT.assign (v := (.s (.c (.loc 21 0 columns.toNat)))) rfl) ⟨rfl, trivial⟩ trivial rfl rfl ?_
  refine AOR.nil ?_
  refine AWR.ent (Ent.poolN (enc := encInt) (n := 21) (p := 22) (c := columns.toNat) (e2 := 3) rfl rfl) ?_
  refine AWR.seq ?_
  refine AWR.seq ?_
  refine AWR.region ?_
  refine AOR.pure (LT.move (v := (.s (.c (.loc 21 0 columns.toNat)))) rfl) ⟨rfl, trivial⟩ trivial rfl rfl ?_
  refine AOR.pure (LT.lenLoc rfl und31) ⟨rfl, trivial⟩ trivial rfl rfl ?_
  refine AOR.pure (LT.move (v := (.s (.c (iC 0)))) rfl) ⟨⟨rfl, rfl⟩, trivial⟩ trivial rfl rfl ?_
  refine AOR.nil ?_
  refine AWR.block ?_
  refine AWR.loop1 (id := 0) (m_impl_transposed_L3 m columns) (fun s2 => ([(0, (.s (.c (.pv (.xs false (m.map (encLInt false))))))), (5, (.s (.c (.loc 21 0 s2.2.length)))), (12, (.s (.c (iC (columns.toNat : Int))))), (13, (.s (.c (iC s2.1))))], [(21, (.trow 37 22 (lensOf s2.2))), (22, (.pool 3 (rowsOf encInt s2.2)))])) (fun b35 => ([(5, (.s (.c (.loc 21 0 b35.length))))], [(21, (.trow 37 22 (lensOf b35))), (22, (.pool 3 (rowsOf encInt b35)))])) ?_ (Ent.of ⟨rfl, (congrArg (fun l1 => (some (AV.s (.c (.loc 21 0 l1))) : Option AV)) (show columns.toNat = (List.replicate columns.toNat ([] : List Int)).length from List.length_replicate.symm)), rfl, rfl, trivial⟩ ⟨rfl, rfl, trivial⟩) rfl (fun b35 _ => ?_)
  · intro s2
    unfold m_impl_transposed_L3
    refine AWR.seq ?_
    refine AWR.region ?_
    refine AOR.pure (LT.lss rfl) ⟨rfl, rfl, trivial⟩ trivial rfl rfl ?_
    refine AOR.nil ?_
    refine AWR.seq ?_
    refine AWR.cond rfl (fun hc36 => ?_) (fun hc36 => ?_)
    · refine AWR.skip ?_
      refine AWR.seq ?_
      refine AWR.block ?_
      refine AWR.seq ?_
      refine AWR.region ?_
      refine AOR.pure (LT.move (v := (.s (.c (iC s2.1)))) rfl) ⟨rfl, trivial⟩ trivial rfl rfl ?_
      refine AOR.pure (LT.assign (v := (.s (.c (iC s2.1)))) rfl) ⟨rfl, trivial⟩ trivial rfl rfl ?_
      refine AOR.nil ?_
      refine AWR.seq ?_
      refine AWR.region ?_
      refine AOR.pure (LT.move (v := (.s (.c (.loc 21 0 s2.2.length)))) rfl) ⟨rfl, trivial⟩ trivial rfl rfl ?_
      refine AOR.pure (LT.move (v := (.s (.c (iC s2.1)))) rfl) ⟨rfl, trivial⟩ trivial rfl rfl ?_
      refine AOR.step (LT.tbuildSlice (n := 23) (enc := encInt) [] ([] : List Int) rfl rfl und37 ti3 rfl rfl rfl rfl (by decide) (fun _ => rfl) rfl) trivial trivial rfl rfl ?_
      refine AOR.bind fun x37 hx37 => ?_
      refine AOR.pure (LT.xindex rfl rfl el31 hx37) ⟨rfl, rfl, trivial⟩ ⟨rfl, trivial⟩ rfl rfl ?_
      refine AOR.step (LT.xstore (e := 37) (p := 22) rfl rfl (infS inf37) sz37 hx37 rfl) ⟨rfl, rfl, trivial⟩ ⟨rfl, trivial⟩ rfl rfl ?_
      refine AOR.nil ?_
      refine AWR.ent (Ent.tadoptAt (enc := encInt) (n := 21) (m := 23) (p := 22) (k := s2.1.toNat) (rows := s2.2) (r := ([] : List Int)) rfl (List.getElem?_eq_some_iff.1 (idx_get hx37)).1 rfl rfl rfl rfl) ?_
      refine AWR.ent (Ent.trow (n := 21) (p := 22) (lens := lensOf (s2.2.set s2.1.toNat ([] : List Int))) rfl rfl) ?_
      refine AWR.seq ?_
      refine AWR.region ?_
      refine AOR.pure (LT.move (v := (.s (.c (.pv (.xs false (m.map (encLInt false))))))) rfl) ⟨rfl, trivial⟩ trivial rfl rfl ?_
      refine AOR.pure (LT.tlenRO rfl und31) ⟨rfl, trivial⟩ trivial rfl rfl ?_
      refine AOR.pure (LT.move (v := (.s (.c (iC 0)))) rfl) ⟨⟨rfl, rfl⟩, trivial⟩ trivial rfl rfl ?_
      refine AOR.nil ?_
      refine AWR.block ?_
      refine AWR.loop1 (id := 2) (m_impl_transposed_L4 m s2) (fun s38 => ([(0, (.s (.c (.pv (.xs false (m.map (encLInt false))))))), (5, (.s (.c (.loc 21 0 s38.2.length)))), (6, (.s (.c (iC s2.1)))), (12, (.s (.c (iC (columns.toNat : Int))))), (13, (.s (.c (iC s2.1)))), (20, (.s (.c (.pv (.xs false (m.map (encLInt false))))))), (21, (.s (.c (iC (m.length : Int))))), (22, (.s (.c (iC s38.1))))], [(21, (.trow 37 22 (lensOf s38.2))), (22, (.pool 3 (rowsOf encInt s38.2)))])) (fun b51 => ([(0, (.s (.c (.pv (.xs false (m.map (encLInt false))))))), (5, (.s (.c (.loc 21 0 b51.2.length)))), (12, (.s (.c (iC (columns.toNat : Int))))), (13, (.s (.c (iC b51.1))))], [(21, (.trow 37 22 (lensOf b51.2))), (22, (.pool 3 (rowsOf encInt b51.2)))])) ?_ (Ent.of ⟨rfl, (congrArg (fun l1 => (some (AV.s (.c (.loc 21 0 l1))) : Option AV)) (show s2.2.length = (s2.2.set s2.1.toNat ([] : List Int)).length by simp only [List.length_set])), rfl, rfl, rfl, rfl, rfl, rfl, trivial⟩ ⟨rfl, rfl, trivial⟩) rfl (fun b51 _ => ?_)
      · intro s38
        unfold m_impl_transposed_L4
        refine AWR.seq ?_
        refine AWR.region ?_
        refine AOR.pure (LT.lss rfl) ⟨rfl, rfl, trivial⟩ trivial rfl rfl ?_
        refine AOR.nil ?_
        refine AWR.seq ?_
        refine AWR.cond rfl (fun hc52 => ?_) (fun hc52 => ?_)
        · refine AWR.skip ?_
          refine AWR.seq ?_
          refine AWR.block ?_
          refine AWR.seq ?_
          refine AWR.region ?_
          refine AOR.bind fun x53 hx53 => ?_
          refine AOR.pure (LT.tindexRO (enc := (encLInt false)) rfl el31 hx53 sz37) ⟨rfl, rfl, trivial⟩ trivial rfl rfl ?_
          refine AOR.pure (LT.loadPx1 rfl ag37) ⟨rfl, trivial⟩ trivial rfl rfl ?_
          refine AOR.pure (LT.assign (v := (.s (.c (.pv (.xs false (x53.map encInt)))))) rfl) ⟨rfl, trivial⟩ trivial rfl rfl ?_
          refine AOR.nil ?_
          refine AWR.draw mixed ?_
          refine AOD.pure (LT.move (v := (.s (.c (.loc 21 0 s38.2.length)))) rfl) ⟨rfl, trivial⟩ trivial rfl rfl ?_
          refine AOD.pure (LT.move (v := (.s (.c (iC s2.1)))) rfl) ⟨rfl, trivial⟩ trivial rfl rfl ?_
          refine AOD.pure (LT.move (v := (.s (.c (.loc 21 0 s38.2.length)))) rfl) ⟨rfl, trivial⟩ trivial rfl rfl ?_
          refine AOD.pure (LT.move (v := (.s (.c (iC s2.1)))) rfl) ⟨rfl, trivial⟩ trivial rfl rfl ?_
          refine AOD.bind fun x54 hx54 => ?_
          refine AOD.pure (LT.xindex rfl rfl el31 hx54) ⟨rfl, rfl, trivial⟩ ⟨rfl, trivial⟩ rfl rfl ?_
          refine AOD.pure (LT.xload rfl ag37 hx54 rfl) ⟨rfl, trivial⟩ ⟨rfl, trivial⟩ rfl rfl ?_
          refine AOD.pure (LT.move (v := (.s (.c (.pv (.xs false (x53.map encInt)))))) rfl) ⟨rfl, trivial⟩ trivial rfl rfl ?_
          refine AOD.pure (LT.move (v := (.s (.c (iC s2.1)))) rfl) ⟨rfl, trivial⟩ trivial rfl rfl ?_
          refine AOD.bind fun x55 hx55 => ?_
          refine AOD.pure (LT.tindexRO (enc := encInt) rfl el37 hx55 sz3) ⟨rfl, rfl, trivial⟩ trivial rfl rfl ?_
          refine AOD.pure (LT.loadPx1 rfl ag3) ⟨rfl, trivial⟩ trivial rfl rfl ?_
          refine AOD.step (LT.tbuildSlice (n := 24) (enc := encInt) [(0, .tmp 35, (.c (iC x55)))] ([x55] : List Int) rfl rfl und37 ti3 rfl rfl rfl rfl (by decide) (fun _ => rfl) rfl) ⟨rfl, trivial⟩ trivial rfl rfl ?_
          refine AOD.bind fun u56 hu56 => ?_
          refine AOD.step (LT.tunpool (p := 22) (k := s2.1.toNat) (m := 25) (n := 21) (e := 37) (enc := encInt) (LT.tappP (n := 25) (n2 := 24) (enc := encInt) rfl rfl rfl und37 ti3 rfl (by decide) (by decide) (fun _ => rfl) (lim_le hu56)) (idx_get hx54) rfl) ⟨rfl, rfl, trivial⟩ ⟨rfl, rfl, rfl, trivial⟩ rfl rfl ?_
          refine AOD.bind fun x57 hx57 => ?_
          refine AOD.pure (LT.xindexS (show s38.2.length = (s38.2.set s2.1.toNat []).length by simp only [List.length_set]) rfl el31 hx57) ⟨rfl, rfl, trivial⟩ ⟨rfl, trivial⟩ rfl rfl ?_
          refine AOD.step (LT.xstoreS (e := 37) (p := 22) rfl rfl (infS inf37) sz37 hx57 rfl) ⟨rfl, rfl, trivial⟩ ⟨rfl, trivial⟩ rfl rfl ?_
          refine AOD.nil (by kernel_rfl) ?_
          refine AWR.ent (Ent.tadoptAt (enc := encInt) (n := 21) (m := 25) (p := 22) (k := s2.1.toNat) (rows := (s38.2.set s2.1.toNat [])) (r := (x54 ++ ([x55] : List Int))) rfl (List.getElem?_eq_some_iff.1 (idx_get hx57)).1 rfl rfl rfl rfl) ?_
          refine AWR.ent (Ent.trow (n := 21) (p := 22) (lens := lensOf ((s38.2.set s2.1.toNat []).set s2.1.toNat (x54 ++ ([x55] : List Int)))) rfl rfl) ?_
          refine AWR.blk ?_
          refine AWR.region ?_
          refine AOR.pure (LT.add rfl) ⟨rfl, ⟨rfl, rfl⟩, trivial⟩ trivial rfl rfl ?_
          refine AOR.pure (LT.move (v := (.s (.c (iC (w64 (s38.1 + 1)))))) rfl) ⟨rfl, trivial⟩ trivial rfl rfl ?_
          refine AOR.nil ?_
          refine AWR.nil ⟨rfl, Ent.of ⟨rfl, (congrArg (fun l1 => (some (AV.s (.c (.loc 21 0 l1))) : Option AV)) (show s38.2.length = ((s38.2.set s2.1.toNat []).set s2.1.toNat (x54 ++ ([x55] : List Int))).length by simp only [List.length_set])), rfl, rfl, rfl, rfl, rfl, rfl, trivial⟩ ⟨rfl, rfl, trivial⟩⟩
        · refine AWR.exit_end rfl ⟨rfl, Ent.of ⟨rfl, rfl, rfl, rfl, trivial⟩ ⟨rfl, rfl, trivial⟩⟩
      · refine AWR.blk ?_
        refine AWR.region ?_
        refine AOR.pure (LT.add rfl) ⟨rfl, ⟨rfl, rfl⟩, trivial⟩ trivial rfl rfl ?_
        refine AOR.pure (LT.move (v := (.s (.c (iC (w64 (b51.1 + 1)))))) rfl) ⟨rfl, trivial⟩ trivial rfl rfl ?_
        refine AOR.nil ?_
        refine AWR.nil ⟨rfl, Ent.of ⟨rfl, rfl, rfl, rfl, trivial⟩ ⟨rfl, rfl, trivial⟩⟩
    · refine AWR.exit_end rfl ⟨rfl, Ent.of ⟨rfl, trivial⟩ ⟨rfl, rfl, trivial⟩⟩
  · refine AWR.seq ?_
    refine AWR.region ?_
    refine AOR.pure (LT.move (v := (.s (.c (.loc 21 0 b35.length)))) rfl) ⟨rfl, trivial⟩ trivial rfl rfl ?_
    refine AOR.pure (LT.assign (v := (.s (.c (.loc 21 0 b35.length)))) rfl) ⟨rfl, trivial⟩ trivial rfl rfl ?_
    refine AOR.nil ?_
    refine AWR.ent (Ent.of (σ' := [(4, (.s (.c (.loc 21 0 b35.length))))]) (m' := [(21, (.trow 37 22 (lensOf b35))), (22, (.pool 3 (rowsOf encInt b35)))]) ⟨rfl, trivial⟩ ⟨rfl, rfl, trivial⟩) ?_
    refine AWR.ent (Ent.mv 21 0 rfl rfl) ?_
    refine AWR.ent (Ent.mv 22 1 rfl rfl) ?_
    refine AWR.ent (Ent.of (σ' := [(4, (.s (.c (.loc 0 0 b35.length))))]) (m' := [(0, (.trow 37 1 (lensOf b35))), (1, (.pool 3 (rowsOf encInt b35)))]) ⟨rfl, trivial⟩ ⟨rfl, rfl, trivial⟩) ?_
    refine AWR.ret (FPost.mk (.inr rfl) ⟨rfl, trivial⟩ ⟨rfl, rfl, trivial⟩ rfl ⟨trivial, trivial⟩ ⟨trivial, PermO.poolR perm_encInt _, trivial⟩)
set_option maxRecDepth 100000 in
set_option maxHeartbeats 8000000 in
theorem w_impl_isGreat (x : Int) : ∀ t, m_impl_isGreat x = some t → Fw.Fn Try.prog 189 [(.c (iC x))] [] (.s (.c (bC t))) [] [] [] := by
  refine Fw.Fn.of (P := Try.prog) (X := []) (pn := []) (rs := (fun (t : Bool) => [(.c (bC t))])) (dfs := (fun (t : Bool) => [])) Try.func189 rfl Try.ntmps189 (Nat.le_of_ble_eq_true rfl) rfl ?_
  intro w0 U0 R0 g0
  unfold m_impl_isGreat
  refine AWR.seq ?_
  refine AWR.region ?_
  refine AOR.pure (LT.assign (v := (.s (.c (bC false)))) rfl) ⟨⟨rfl, rfl⟩, trivial⟩ trivial rfl rfl ?_
  refine AOR.nil ?_
  refine AWR.seq ?_
  refine AWR.joinK (fun j2 => ([(2, (.s (.c (bC j2))))], [])) ?_ (fun j2 _ => ?_)
  · refine AWR.region ?_
    refine AOR.pure (LT.move (v := (.s (.c (iC x)))) rfl) ⟨rfl, trivial⟩ trivial rfl rfl ?_
    refine AOR.pure (LT.gtr rfl) ⟨rfl, ⟨rfl, rfl⟩, trivial⟩ trivial rfl rfl ?_
    refine AOR.pure (LT.move (v := (.s (.c (bC (decide (9000000000000000000 < x)))))) rfl) ⟨rfl, trivial⟩ trivial rfl rfl ?_
    refine AOR.split (fun hb3 => ?_) (fun hb3 => ?_)
    · refine AOR.skip ⟨_, rfl, .inl ⟨_, rfl, (by rw [hb3]; rfl)⟩⟩ rfl ?_
      refine AOR.skip ⟨_, rfl, .inl ⟨_, rfl, (by rw [hb3]; rfl)⟩⟩ rfl ?_
      refine AOR.pure (LT.pickT (v := (.s (.c (bC true)))) rfl hb3) ⟨rfl, ⟨rfl, rfl⟩, trivial⟩ trivial rfl rfl ?_
      refine AOR.pure (LT.assign (v := (.s (.c (bC true)))) rfl) ⟨rfl, trivial⟩ trivial rfl rfl ?_
      refine AOR.nil ?_
      refine AWR.nil ⟨rfl, Ent.of ⟨rfl, trivial⟩ trivial⟩
    · refine AOR.pure (LT.move (v := (.s (.c (iC x)))) rfl) ⟨rfl, trivial⟩ trivial ⟨_, rfl, .inl ⟨_, rfl, (by rw [hb3]; rfl)⟩⟩ rfl ?_
      refine AOR.pure (LT.lss rfl) ⟨rfl, ⟨rfl, rfl⟩, trivial⟩ trivial ⟨_, rfl, .inl ⟨_, rfl, (by rw [hb3]; rfl)⟩⟩ rfl ?_
      refine AOR.pure (LT.pickF (v := (.s (.c (bC (decide (x < (-9000000000000000000))))))) rfl hb3) ⟨rfl, rfl, trivial⟩ trivial rfl rfl ?_
      refine AOR.pure (LT.assign (v := (.s (.c (bC (decide (x < (-9000000000000000000))))))) rfl) ⟨rfl, trivial⟩ trivial rfl rfl ?_
      refine AOR.nil ?_
      refine AWR.nil ⟨rfl, Ent.of ⟨rfl, trivial⟩ trivial⟩
  · refine AWR.ret (FPost.mk (.inr rfl) ⟨rfl, trivial⟩ trivial rfl ⟨PermP.sc, trivial⟩ trivial)
set_option maxRecDepth 100000 in
set_option maxHeartbeats 8000000 in
theorem w_impl_GcdOf (a : Int) (b : Int) : ∀ t, m_impl_GcdOf a b = some t → Fw.Fn Try.prog 190 [(.c (iC a)), (.c (iC b))] [] (.s (.c (iC t))) [] [] [] := by
  refine Fw.Fn.of (P := Try.prog) (X := []) (pn := []) (rs := (fun (t : Int) => [(.c (iC t))])) (dfs := (fun (t : Int) => [])) Try.func190 rfl Try.ntmps190 (Nat.le_of_ble_eq_true rfl) rfl ?_
  intro w0 U0 R0 g0
  unfold m_impl_GcdOf
  refine AWR.seq ?_
  refine AWR.region ?_
  refine AOR.pure (LT.assign (v := (.s (.c (iC 0)))) rfl) ⟨⟨rfl, rfl⟩, trivial⟩ trivial rfl rfl ?_
  refine AOR.nil ?_
  refine AWR.seq ?_
  refine AWR.seq ?_
  refine AWR.joinK (fun j4 => ([(0, (.s (.c (iC a)))), (1, (.s (.c (iC b)))), (10, (.s (.c (bC j4))))], [])) ?_ (fun j4 _ => ?_)
  · refine AWR.region ?_
    refine AOR.pure (LT.move (v := (.s (.c (iC a)))) rfl) ⟨rfl, trivial⟩ trivial rfl rfl ?_
    refine AOR.bind fun r5 hr5 => ?_
    refine AOR.pure (@LT.callF Try.prog _ _ 189 _ _ [(.c (iC a))] _ _ [] _ _ _ _ (w_impl_isGreat a r5 hr5) rfl cb189 (.cons (.c (.same rfl)) .nil) rfl rfl trivial) ⟨rfl, rfl, trivial⟩ trivial rfl rfl ?_
    refine AOR.pure (LT.move (v := (.s (.c (bC r5)))) rfl) ⟨rfl, trivial⟩ trivial rfl rfl ?_
    refine AOR.split (fun hb6 => ?_) (fun hb6 => ?_)
    · refine AOR.skip ⟨_, rfl, .inl ⟨_, rfl, (by rw [hb6]; rfl)⟩⟩ rfl ?_
      refine AOR.skip ⟨_, rfl, .inl ⟨_, rfl, (by rw [hb6]; rfl)⟩⟩ rfl ?_
      refine AOR.pure (LT.pickT (v := (.s (.c (bC true)))) rfl hb6) ⟨rfl, ⟨rfl, rfl⟩, trivial⟩ trivial rfl rfl ?_
      refine AOR.nil ?_
      refine AWR.nil ⟨rfl, Ent.of ⟨rfl, rfl, rfl, trivial⟩ trivial⟩
    · refine AOR.pure (LT.move (v := (.s (.c (iC b)))) rfl) ⟨rfl, trivial⟩ trivial ⟨_, rfl, .inl ⟨_, rfl, (by rw [hb6]; rfl)⟩⟩ rfl ?_
      refine AOR.bind fun r7 hr7 => ?_
      refine AOR.pure (@LT.callF Try.prog _ _ 189 _ _ [(.c (iC b))] _ _ [] _ _ _ _ (w_impl_isGreat b r7 hr7) rfl cb189 (.cons (.c (.same rfl)) .nil) rfl rfl trivial) ⟨rfl, rfl, trivial⟩ trivial ⟨_, rfl, .inl ⟨_, rfl, (by rw [hb6]; rfl)⟩⟩ rfl ?_
      refine AOR.pure (LT.pickF (v := (.s (.c (bC r7)))) rfl hb6) ⟨rfl, rfl, trivial⟩ trivial rfl rfl ?_
      refine AOR.nil ?_
      refine AWR.nil ⟨rfl, Ent.of ⟨rfl, rfl, rfl, trivial⟩ trivial⟩
  · refine AWR.cond rfl (fun hc8 => ?_) (fun hc8 => ?_)
    · refine AWR.seq ?_
      refine AWR.region ?_
      refine AOR.pure (LT.assign (v := (.s (.c (iC 0)))) rfl) ⟨⟨rfl, rfl⟩, trivial⟩ trivial rfl rfl ?_
      refine AOR.nil ?_
      refine AWR.ret (FPost.mk (.inr rfl) ⟨rfl, trivial⟩ trivial rfl ⟨PermP.sc, trivial⟩ trivial)
    · refine AWR.skip ?_
      refine AWR.seq ?_
      refine AWR.region ?_
      refine AOR.pure (LT.move (v := (.s (.c (iC a)))) rfl) ⟨rfl, trivial⟩ trivial rfl rfl ?_
      refine AOR.pure (LT.move (v := (.s (.c (iC a)))) rfl) ⟨rfl, trivial⟩ trivial rfl rfl ?_
      refine AOR.pure (LT.neg rfl) ⟨rfl, trivial⟩ trivial rfl rfl ?_
      refine AOR.pure (LT.max rfl) ⟨rfl, rfl, trivial⟩ trivial rfl rfl ?_
      refine AOR.pure (LT.move (v := (.s (.c (iC b)))) rfl) ⟨rfl, trivial⟩ trivial rfl rfl ?_
      refine AOR.pure (LT.move (v := (.s (.c (iC b)))) rfl) ⟨rfl, trivial⟩ trivial rfl rfl ?_
      refine AOR.pure (LT.neg rfl) ⟨rfl, trivial⟩ trivial rfl rfl ?_
      refine AOR.pure (LT.max rfl) ⟨rfl, rfl, trivial⟩ trivial rfl rfl ?_
      refine AOR.pure (LT.assign (v := (.s (.c (iC (if a < (w64 (-a)) then (w64 (-a)) else a))))) rfl) ⟨rfl, trivial⟩ trivial rfl rfl ?_
      refine AOR.pure (LT.assign (v := (.s (.c (iC (if b < (w64 (-b)) then (w64 (-b)) else b))))) rfl) ⟨rfl, trivial⟩ trivial rfl rfl ?_
      refine AOR.nil ?_
      refine AWR.seq ?_
      refine AWR.block ?_
      refine AWR.loop1 (id := 0) (m_impl_GcdOf_L1) (fun s9 => ([(0, (.s (.c (iC s9.1)))), (1, (.s (.c (iC s9.2))))], [])) (fun b14 => ([(0, (.s (.c (iC b14))))], [])) ?_ (Ent.of ⟨rfl, rfl, trivial⟩ trivial) rfl (fun b14 _ => ?_)
      · intro s9
        unfold m_impl_GcdOf_L1
        refine AWR.seq ?_
        refine AWR.seq ?_
        refine AWR.region ?_
        refine AOR.pure (LT.move (v := (.s (.c (iC s9.2)))) rfl) ⟨rfl, trivial⟩ trivial rfl rfl ?_
        refine AOR.pure (LT.neq rfl) ⟨rfl, ⟨rfl, rfl⟩, trivial⟩ trivial rfl rfl ?_
        refine AOR.nil ?_
        refine AWR.cond rfl (fun hc15 => ?_) (fun hc15 => ?_)
        · refine AWR.skip ?_
          refine AWR.block ?_
          refine AWR.draw mixed ?_
          refine AOD.pure (LT.move (v := (.s (.c (iC s9.2)))) rfl) ⟨rfl, trivial⟩ trivial rfl rfl ?_
          refine AOD.pure (LT.move (v := (.s (.c (iC s9.1)))) rfl) ⟨rfl, trivial⟩ trivial rfl rfl ?_
          refine AOD.pure (LT.move (v := (.s (.c (iC s9.2)))) rfl) ⟨rfl, trivial⟩ trivial rfl rfl ?_
          refine AOD.bind fun u16 hu16 => ?_
          refine AOD.pure (LT.rem rfl (nz_ne hu16)) ⟨rfl, rfl, trivial⟩ trivial rfl rfl ?_
          refine AOD.pure (LT.assign (v := (.s (.c (iC s9.2)))) rfl) ⟨rfl, trivial⟩ trivial rfl rfl ?_
          refine AOD.pure (LT.assign (v := (.s (.c (iC (Int.tmod s9.1 s9.2))))) rfl) ⟨rfl, trivial⟩ trivial rfl rfl ?_
          refine AOD.nil (by kernel_rfl) ?_
          refine AWR.blk ?_
          refine AWR.nil ⟨rfl, Ent.of ⟨rfl, rfl, trivial⟩ trivial⟩
        · refine AWR.exit_end rfl ⟨rfl, Ent.of ⟨rfl, trivial⟩ trivial⟩
      · refine AWR.seq ?_
        refine AWR.region ?_
        refine AOR.pure (LT.move (v := (.s (.c (iC b14)))) rfl) ⟨rfl, trivial⟩ trivial rfl rfl ?_
        refine AOR.pure (LT.assign (v := (.s (.c (iC b14)))) rfl) ⟨rfl, trivial⟩ trivial rfl rfl ?_
        refine AOR.nil ?_
        refine AWR.ret (FPost.mk (.inr rfl) ⟨rfl, trivial⟩ trivial rfl ⟨PermP.sc, trivial⟩ trivial)
set_option maxRecDepth 100000 in
set_option maxHeartbeats 8000000 in
theorem w_impl_PrimitiveVector (v : (List Int)) : ∀ t, m_impl_PrimitiveVector v = some t → Fw.Fn Try.prog 157 [(.c (.pv (.xs false (v.map encInt))))] [] (.s (.c (.loc 0 0 t.length))) [(0, (.prow 3 (t.map encInt)))] [] [0] := by
  refine Fw.Fn.of (P := Try.prog) (X := [0]) (pn := []) (rs := (fun (t : (List Int)) => [(.c (.loc 0 0 t.length))])) (dfs := (fun (t : (List Int)) => [(0, (.prow 3 (t.map encInt)))])) Try.func157 rfl Try.ntmps157 (Nat.le_of_ble_eq_true rfl) rfl ?_
  intro w0 U0 R0 g0
  unfold m_impl_PrimitiveVector
  refine AWR.seq ?_
  refine AWR.region ?_
  refine AOR.pure (LT.assign (v := (.s (.c (sC nilV)))) rfl) ⟨⟨rfl, rfl⟩, trivial⟩ trivial rfl rfl ?_
  refine AOR.nil ?_
  refine AWR.seq ?_
  refine AWR.region ?_
  refine AOR.pure (LT.move (v := (.s (.c (.pv (.xs false (v.map encInt)))))) rfl) ⟨rfl, trivial⟩ trivial rfl rfl ?_
  refine AOR.bind fun r1 hr1 => ?_
  refine AOR.step (@LT.callF Try.prog _ _ 96 _ _ [(.c (.pv (.xs false (v.map encInt))))] _ _ [] _ _ _ _ ((show Fw.Fn Try.prog 96 [(.c (.pv (.xs false (v.map encInt))))] [] (.s (.c (.loc 22 0 r1.length))) [(22, (.prow 3 (r1.map encInt)))] [] [22] from Fw.Fn.ren [(0, 22)] (w_impl_copyInts v r1 hr1) rfl)) rfl cb96 (.cons (.c (.same rfl)) .nil) rfl rfl trivial) ⟨rfl, rfl, trivial⟩ trivial rfl rfl ?_
  refine AOR.pure (LT.assign (v := (.s (.c (.loc 22 0 r1.length)))) rfl) ⟨rfl, trivial⟩ trivial rfl rfl ?_
  refine AOR.nil ?_
  refine AWR.seq ?_
  refine AWR.region ?_
  refine AOR.pure (LT.assign (v := (.s (.c (iC 0)))) rfl) ⟨⟨rfl, rfl⟩, trivial⟩ trivial rfl rfl ?_
  refine AOR.pure (LT.assign (v := (.s (.c (iC 0)))) rfl) ⟨⟨rfl, rfl⟩, trivial⟩ trivial rfl rfl ?_
  refine AOR.nil ?_
  refine AWR.seq ?_
  refine AWR.seq ?_
  refine AWR.region ?_
  refine AOR.pure (LT.move (v := (.s (.c (.pv (.xs false (v.map encInt)))))) rfl) ⟨rfl, trivial⟩ trivial rfl rfl ?_
  refine AOR.pure (LT.tlenRO rfl und37) ⟨rfl, trivial⟩ trivial rfl rfl ?_
  refine AOR.pure (LT.move (v := (.s (.c (iC 0)))) rfl) ⟨⟨rfl, rfl⟩, trivial⟩ trivial rfl rfl ?_
  refine AOR.nil ?_
  refine AWR.block ?_
  refine AWR.loopR (id := 0) (m_impl_PrimitiveVector_L1 v r1) (fun s2 => ([(3, (.s (.c (.loc 22 0 r1.length)))), (4, (.s (.c (iC s2.1)))), (5, (.s (.c (iC s2.2.1)))), (11, (.s (.c (.pv (.xs false (v.map encInt)))))), (12, (.s (.c (iC (v.length : Int))))), (13, (.s (.c (iC s2.2.2))))], [(22, (.prow 3 (r1.map encInt)))])) (fun b19 => ([(3, (.s (.c (.loc 22 0 b19.2.2.length)))), (4, (.s (.c (iC b19.1)))), (5, (.s (.c (iC b19.2.1))))], [(22, (.prow 3 (b19.2.2.map encInt)))])) (FPost Try.prog Try.f157.results.toList [] [0] (fun (t : (List Int)) => [(.c (.loc 0 0 t.length))]) (fun (t : (List Int)) => [(0, (.prow 3 (t.map encInt)))])) ?_ (Ent.of ⟨rfl, rfl, rfl, rfl, rfl, rfl, trivial⟩ ⟨rfl, trivial⟩) rfl (fun b19 _ => ?_) (by intro r t σ m ht hk; injection ht with ht; subst ht; exact hk)
  · intro s2
    unfold m_impl_PrimitiveVector_L1
    refine AWR.seq ?_
    refine AWR.region ?_
    refine AOR.pure (LT.lss rfl) ⟨rfl, rfl, trivial⟩ trivial rfl rfl ?_
    refine AOR.nil ?_
    refine AWR.seq ?_
    refine AWR.cond rfl (fun hc20 => ?_) (fun hc20 => ?_)
    · refine AWR.skip ?_
      refine AWR.seq ?_
      refine AWR.block ?_
      refine AWR.seq ?_
      refine AWR.region ?_
      refine AOR.bind fun x21 hx21 => ?_
      refine AOR.pure (LT.tindexRO (enc := encInt) rfl el37 hx21 sz3) ⟨rfl, rfl, trivial⟩ trivial rfl rfl ?_
      refine AOR.pure (LT.loadPx1 rfl ag3) ⟨rfl, trivial⟩ trivial rfl rfl ?_
      refine AOR.pure (LT.assign (v := (.s (.c (iC x21)))) rfl) ⟨rfl, trivial⟩ trivial rfl rfl ?_
      refine AOR.nil ?_
      refine AWR.seq ?_
      refine AWR.seq ?_
      refine AWR.region ?_
      refine AOR.pure (LT.move (v := (.s (.c (iC x21)))) rfl) ⟨rfl, trivial⟩ trivial rfl rfl ?_
      refine AOR.bind fun r22 hr22 => ?_
      refine AOR.pure (@LT.callF Try.prog _ _ 189 _ _ [(.c (iC x21))] _ _ [] _ _ _ _ (w_impl_isGreat x21 r22 hr22) rfl cb189 (.cons (.c (.same rfl)) .nil) rfl rfl trivial) ⟨rfl, rfl, trivial⟩ trivial rfl rfl ?_
      refine AOR.nil ?_
      refine AWR.cond rfl (fun hc23 => ?_) (fun hc23 => ?_)
      · refine AWR.seq ?_
        refine AWR.region ?_
        refine AOR.pure (LT.move (v := (.s (.c (.loc 22 0 r1.length)))) rfl) ⟨rfl, trivial⟩ trivial rfl rfl ?_
        refine AOR.pure (LT.assign (v := (.s (.c (.loc 22 0 r1.length)))) rfl) ⟨rfl, trivial⟩ trivial rfl rfl ?_
        refine AOR.nil ?_
        refine AWR.ent (Ent.of (σ' := [(2, (.s (.c (.loc 22 0 r1.length))))]) (m' := [(22, (.prow 3 (r1.map encInt)))]) ⟨rfl, trivial⟩ ⟨rfl, trivial⟩) ?_
        refine AWR.ent (Ent.mv 22 0 rfl rfl) ?_
        refine AWR.ent (Ent.of (σ' := [(2, (.s (.c (.loc 0 0 r1.length))))]) (m' := [(0, (.prow 3 (r1.map encInt)))]) ⟨rfl, trivial⟩ ⟨rfl, trivial⟩) ?_
        refine AWR.ret ⟨rfl, FPost.mk (.inr rfl) ⟨rfl, trivial⟩ ⟨rfl, trivial⟩ rfl ⟨trivial, trivial⟩ ⟨PermO.prow' perm_encInt, trivial⟩⟩
      · refine AWR.skip ?_
        refine AWR.seq ?_
        refine AWR.region ?_
        refine AOR.pure (LT.move (v := (.s (.c (iC s2.1)))) rfl) ⟨rfl, trivial⟩ trivial rfl rfl ?_
        refine AOR.pure (LT.move (v := (.s (.c (iC x21)))) rfl) ⟨rfl, trivial⟩ trivial rfl rfl ?_
        refine AOR.bind fun r24 hr24 => ?_
        refine AOR.pure (@LT.callF Try.prog _ _ 190 _ _ [(.c (iC s2.1)), (.c (iC x21))] _ _ [] _ _ _ _ (w_impl_GcdOf s2.1 x21 r24 hr24) rfl cb190 (.cons (.c (.same rfl)) (.cons (.c (.same rfl)) .nil)) rfl rfl trivial) ⟨rfl, rfl, rfl, trivial⟩ trivial rfl rfl ?_
        refine AOR.pure (LT.assign (v := (.s (.c (iC r24)))) rfl) ⟨rfl, trivial⟩ trivial rfl rfl ?_
        refine AOR.nil ?_
        refine AWR.seq ?_
        refine AWR.region ?_
        refine AOR.pure (LT.move (v := (.s (.c (iC s2.2.1)))) rfl) ⟨rfl, trivial⟩ trivial rfl rfl ?_
        refine AOR.pure (LT.eql rfl) ⟨rfl, ⟨rfl, rfl⟩, trivial⟩ trivial rfl rfl ?_
        refine AOR.nil ?_
        refine AWR.joinK (fun j26 => ([(3, (.s (.c (.loc 22 0 r1.length)))), (4, (.s (.c (iC r24)))), (5, (.s (.c (iC j26)))), (11, (.s (.c (.pv (.xs false (v.map encInt)))))), (12, (.s (.c (iC (v.length : Int))))), (13, (.s (.c (iC s2.2.2))))], [(22, (.prow 3 (r1.map encInt)))])) ?_ (fun j26 _ => ?_)
        · refine AWR.cond rfl (fun hc27 => ?_) (fun hc27 => ?_)
          · refine AWR.ent (Ent.of (σ' := [(3, (.s (.c (.loc 22 0 r1.length)))), (4, (.s (.c (iC r24)))), (7, (.s (.c (iC x21)))), (11, (.s (.c (.pv (.xs false (v.map encInt)))))), (12, (.s (.c (iC (v.length : Int))))), (13, (.s (.c (iC s2.2.2))))]) (m' := [(22, (.prow 3 (r1.map encInt)))]) ⟨rfl, rfl, rfl, rfl, rfl, rfl, trivial⟩ ⟨rfl, trivial⟩) ?_
            refine AWR.region ?_
            refine AOR.pure (LT.move (v := (.s (.c (iC x21)))) rfl) ⟨rfl, trivial⟩ trivial rfl rfl ?_
            refine AOR.pure (LT.assign (v := (.s (.c (iC x21)))) rfl) ⟨rfl, trivial⟩ trivial rfl rfl ?_
            refine AOR.nil ?_
            refine AWR.nil ⟨rfl, Ent.of ⟨rfl, rfl, rfl, rfl, rfl, rfl, trivial⟩ ⟨rfl, trivial⟩⟩
          · refine AWR.skip ?_
            refine AWR.nil ⟨rfl, Ent.of ⟨rfl, rfl, rfl, rfl, rfl, rfl, trivial⟩ ⟨rfl, trivial⟩⟩
        · refine AWR.blk ?_
          refine AWR.region ?_
          refine AOR.pure (LT.add rfl) ⟨rfl, ⟨rfl, rfl⟩, trivial⟩ trivial rfl rfl ?_
          refine AOR.pure (LT.move (v := (.s (.c (iC (w64 (s2.2.2 + 1)))))) rfl) ⟨rfl, trivial⟩ trivial rfl rfl ?_
          refine AOR.nil ?_
          refine AWR.nil ⟨rfl, Ent.of ⟨rfl, rfl, rfl, rfl, rfl, rfl, trivial⟩ ⟨rfl, trivial⟩⟩
    · refine AWR.exit_end rfl ⟨rfl, Ent.of ⟨rfl, rfl, rfl, trivial⟩ ⟨rfl, trivial⟩⟩
  · refine AWR.seq ?_
    refine AWR.seq ?_
    refine AWR.region ?_
    refine AOR.pure (LT.move (v := (.s (.c (iC b19.1)))) rfl) ⟨rfl, trivial⟩ trivial rfl rfl ?_
    refine AOR.pure (LT.eql rfl) ⟨rfl, ⟨rfl, rfl⟩, trivial⟩ trivial rfl rfl ?_
    refine AOR.nil ?_
    refine AWR.cond rfl (fun hc28 => ?_) (fun hc28 => ?_)
    · refine AWR.seq ?_
      refine AWR.region ?_
      refine AOR.pure (LT.move (v := (.s (.c (.loc 22 0 b19.2.2.length)))) rfl) ⟨rfl, trivial⟩ trivial rfl rfl ?_
      refine AOR.pure (LT.assign (v := (.s (.c (.loc 22 0 b19.2.2.length)))) rfl) ⟨rfl, trivial⟩ trivial rfl rfl ?_
      refine AOR.nil ?_
      refine AWR.ent (Ent.of (σ' := [(2, (.s (.c (.loc 22 0 b19.2.2.length))))]) (m' := [(22, (.prow 3 (b19.2.2.map encInt)))]) ⟨rfl, trivial⟩ ⟨rfl, trivial⟩) ?_
      refine AWR.ent (Ent.mv 22 0 rfl rfl) ?_
      refine AWR.ent (Ent.of (σ' := [(2, (.s (.c (.loc 0 0 b19.2.2.length))))]) (m' := [(0, (.prow 3 (b19.2.2.map encInt)))]) ⟨rfl, trivial⟩ ⟨rfl, trivial⟩) ?_
      refine AWR.ret (FPost.mk (.inr rfl) ⟨rfl, trivial⟩ ⟨rfl, trivial⟩ rfl ⟨trivial, trivial⟩ ⟨PermO.prow' perm_encInt, trivial⟩)
    · refine AWR.skip ?_
      refine AWR.seq ?_
      refine AWR.seq ?_
      refine AWR.region ?_
      refine AOR.pure (LT.move (v := (.s (.c (iC b19.2.1)))) rfl) ⟨rfl, trivial⟩ trivial rfl rfl ?_
      refine AOR.pure (LT.lss rfl) ⟨rfl, ⟨rfl, rfl⟩, trivial⟩ trivial rfl rfl ?_
      refine AOR.nil ?_
      refine AWR.joinK (fun j30 => ([(3, (.s (.c (.loc 22 0 b19.2.2.length)))), (4, (.s (.c (iC j30))))], [(22, (.prow 3 (b19.2.2.map encInt)))])) ?_ (fun j30 _ => ?_)
      · refine AWR.cond rfl (fun hc31 => ?_) (fun hc31 => ?_)
        · refine AWR.region ?_
          refine AOR.pure (LT.move (v := (.s (.c (iC b19.1)))) rfl) ⟨rfl, trivial⟩ trivial rfl rfl ?_
          refine AOR.pure (LT.neg rfl) ⟨rfl, trivial⟩ trivial rfl rfl ?_
          refine AOR.pure (LT.assign (v := (.s (.c (iC (w64 (-b19.1)))))) rfl) ⟨rfl, trivial⟩ trivial rfl rfl ?_
          refine AOR.nil ?_
          refine AWR.nil ⟨rfl, Ent.of ⟨rfl, rfl, trivial⟩ ⟨rfl, trivial⟩⟩
        · refine AWR.skip ?_
          refine AWR.nil ⟨rfl, Ent.of ⟨rfl, rfl, trivial⟩ ⟨rfl, trivial⟩⟩
      · refine AWR.seq ?_
        refine AWR.seq ?_
        refine AWR.region ?_
        refine AOR.pure (LT.move (v := (.s (.c (.loc 22 0 b19.2.2.length)))) rfl) ⟨rfl, trivial⟩ trivial rfl rfl ?_
        refine AOR.pure (LT.lenLoc rfl und37) ⟨rfl, trivial⟩ trivial rfl rfl ?_
        refine AOR.pure (LT.move (v := (.s (.c (iC 0)))) rfl) ⟨⟨rfl, rfl⟩, trivial⟩ trivial rfl rfl ?_
        refine AOR.nil ?_
        refine AWR.block ?_
        refine AWR.loop1 (id := 2) (m_impl_PrimitiveVector_L2 b19 j30) (fun s32 => ([(3, (.s (.c (.loc 22 0 s32.2.length)))), (4, (.s (.c (iC j30)))), (35, (.s (.c (iC (b19.2.2.length : Int))))), (36, (.s (.c (iC s32.1))))], [(22, (.prow 3 (s32.2.map encInt)))])) (fun b41 => ([(3, (.s (.c (.loc 22 0 b41.length))))], [(22, (.prow 3 (b41.map encInt)))])) ?_ (Ent.of ⟨rfl, rfl, rfl, rfl, trivial⟩ ⟨rfl, trivial⟩) rfl (fun b41 _ => ?_)
        · intro s32
          unfold m_impl_PrimitiveVector_L2
          refine AWR.seq ?_
          refine AWR.region ?_
          refine AOR.pure (LT.lss rfl) ⟨rfl, rfl, trivial⟩ trivial rfl rfl ?_
          refine AOR.nil ?_
          refine AWR.seq ?_
          refine AWR.cond rfl (fun hc42 => ?_) (fun hc42 => ?_)
          · refine AWR.skip ?_
            refine AWR.seq ?_
            refine AWR.block ?_
            refine AWR.seq ?_
            refine AWR.region ?_
            refine AOR.pure (LT.move (v := (.s (.c (iC s32.1)))) rfl) ⟨rfl, trivial⟩ trivial rfl rfl ?_
            refine AOR.pure (LT.assign (v := (.s (.c (iC s32.1)))) rfl) ⟨rfl, trivial⟩ trivial rfl rfl ?_
            refine AOR.nil ?_
            refine AWR.region ?_
            refine AOR.pure (LT.move (v := (.s (.c (.loc 22 0 s32.2.length)))) rfl) ⟨rfl, trivial⟩ trivial rfl rfl ?_
            refine AOR.pure (LT.move (v := (.s (.c (iC s32.1)))) rfl) ⟨rfl, trivial⟩ trivial rfl rfl ?_
            refine AOR.pure (LT.move (v := (.s (.c (.loc 22 0 s32.2.length)))) rfl) ⟨rfl, trivial⟩ trivial rfl rfl ?_
            refine AOR.pure (LT.move (v := (.s (.c (iC s32.1)))) rfl) ⟨rfl, trivial⟩ trivial rfl rfl ?_
            refine AOR.bind fun x43 hx43 => ?_
            refine AOR.pure (LT.tindexLoc rfl rfl el37 hx43) ⟨rfl, rfl, trivial⟩ ⟨rfl, trivial⟩ rfl rfl ?_
            refine AOR.pure (LT.tload1 (k := 0) rfl ag3 hx43 (by exact rfl) (by exact rfl)) ⟨rfl, trivial⟩ ⟨rfl, trivial⟩ rfl rfl ?_
            refine AOR.pure (LT.move (v := (.s (.c (iC j30)))) rfl) ⟨rfl, trivial⟩ trivial rfl rfl ?_
            refine AOR.bind fun u44 hu44 => ?_
            refine AOR.pure (LT.quo rfl (nz_ne hu44)) ⟨rfl, rfl, trivial⟩ trivial rfl rfl ?_
            refine AOR.bind fun x45 hx45 => ?_
            refine AOR.pure (LT.tindexLoc rfl rfl el37 hx45) ⟨rfl, rfl, trivial⟩ ⟨rfl, trivial⟩ rfl rfl ?_
            refine AOR.step (LT.tstore (k := 0) (v := (.c (iC (w64 (Int.tdiv x43 j30))))) (b' := (w64 (Int.tdiv x43 j30))) rfl rfl (infS inf3) sz3 (by exact rfl) hx45 (by exact rfl) (by exact Nat.le_of_ble_eq_true rfl) (by exact rfl)) ⟨rfl, rfl, trivial⟩ ⟨rfl, trivial⟩ rfl rfl ?_
            refine AOR.nil ?_
            refine AWR.blk ?_
            refine AWR.ent (Ent.of (σ' := [(3, (.s (.c (.loc 22 0 s32.2.length)))), (4, (.s (.c (iC j30)))), (35, (.s (.c (iC (b19.2.2.length : Int))))), (36, (.s (.c (iC s32.1))))]) (m' := [(22, (.prow 3 ((s32.2.set s32.1.toNat (w64 (Int.tdiv x43 j30))).map encInt)))]) ⟨rfl, rfl, rfl, rfl, trivial⟩ ⟨rfl, trivial⟩) ?_
            refine AWR.region ?_
            refine AOR.pure (LT.add rfl) ⟨rfl, ⟨rfl, rfl⟩, trivial⟩ trivial rfl rfl ?_
            refine AOR.pure (LT.move (v := (.s (.c (iC (w64 (s32.1 + 1)))))) rfl) ⟨rfl, trivial⟩ trivial rfl rfl ?_
            refine AOR.nil ?_
            refine AWR.nil ⟨rfl, Ent.of ⟨(congrArg (fun l1 => (some (AV.s (.c (.loc 22 0 l1))) : Option AV)) (show s32.2.length = (s32.2.set s32.1.toNat (w64 (Int.tdiv x43 j30))).length by simp only [List.length_set])), rfl, rfl, rfl, trivial⟩ ⟨rfl, trivial⟩⟩
          · refine AWR.exit_end rfl ⟨rfl, Ent.of ⟨rfl, trivial⟩ ⟨rfl, trivial⟩⟩
        · refine AWR.seq ?_
          refine AWR.region ?_
          refine AOR.pure (LT.move (v := (.s (.c (.loc 22 0 b41.length)))) rfl) ⟨rfl, trivial⟩ trivial rfl rfl ?_
          refine AOR.pure (LT.assign (v := (.s (.c (.loc 22 0 b41.length)))) rfl) ⟨rfl, trivial⟩ trivial rfl rfl ?_
          refine AOR.nil ?_
          refine AWR.ent (Ent.of (σ' := [(2, (.s (.c (.loc 22 0 b41.length))))]) (m' := [(22, (.prow 3 (b41.map encInt)))]) ⟨rfl, trivial⟩ ⟨rfl, trivial⟩) ?_
          refine AWR.ent (Ent.mv 22 0 rfl rfl) ?_
          refine AWR.ent (Ent.of (σ' := [(2, (.s (.c (.loc 0 0 b41.length))))]) (m' := [(0, (.prow 3 (b41.map encInt)))]) ⟨rfl, trivial⟩ ⟨rfl, trivial⟩) ?_
          refine AWR.ret (FPost.mk (.inr rfl) ⟨rfl, trivial⟩ ⟨rfl, trivial⟩ rfl ⟨trivial, trivial⟩ ⟨PermO.prow' perm_encInt, trivial⟩)
set_option maxRecDepth 100000 in
set_option maxHeartbeats 8000000 in
theorem w_impl_nullspace (m : (List (List Int))) (columns : Int) : ∀ t, m_impl_nullspace m columns = some t → Fw.Fn Try.prog 87 [(.c (.pv (.xs false (m.map (encLInt false))))), (.c (iC columns))] [] (.s (.c (.loc 0 0 t.length))) [(0, (.trow 37 1 (lensOf t))), (1, (.pool 3 (rowsOf encInt t)))] [] [0, 1] := by
  refine Fw.Fn.of (P := Try.prog) (X := [0, 1]) (pn := []) (rs := (fun (t : (List (List Int))) => [(.c (.loc 0 0 t.length))])) (dfs := (fun (t : (List (List Int))) => [(0, (.trow 37 1 (lensOf t))), (1, (.pool 3 (rowsOf encInt t)))])) Try.func87 rfl Try.ntmps87 (Nat.le_of_ble_eq_true rfl) rfl ?_
  intro w0 U0 R0 g0
  unfold m_impl_nullspace
  refine AWR.seq ?_
  refine AWR.region ?_
  refine AOR.pure (LT.assign (v := (.s (.c (sC nilV)))) rfl) ⟨⟨rfl, rfl⟩, trivial⟩ trivial rfl rfl ?_
  refine AOR.nil ?_
  refine AWR.seq ?_
  refine AWR.region ?_
  refine AOR.pure (LT.move (v := (.s (.c (.pv (.xs false (m.map (encLInt false))))))) rfl) ⟨rfl, trivial⟩ trivial rfl rfl ?_
  refine AOR.pure (LT.move (v := (.s (.c (iC columns)))) rfl) ⟨rfl, trivial⟩ trivial rfl rfl ?_
  refine AOR.bind fun r1 hr1 => ?_
  refine AOR.step (@LT.callF Try.prog _ _ 156 _ _ [(.c (.pv (.xs false (m.map (encLInt false))))), (.c (iC columns))] _ _ [] _ _ _ _ ((show Fw.Fn Try.prog 156 [(.c (.pv (.xs false (m.map (encLInt false))))), (.c (iC columns))] [] (.tup [(.c (.loc 22 0 r1.1.length)), (.c (.loc 24 0 r1.2.1.length)), (.c (iC r1.2.2))]) [(22, (.trow 37 23 (lensOf r1.1))), (23, (.pool 3 (rowsOf encInt r1.1))), (24, (.prow 3 (r1.2.1.map encInt)))] [] [22, 23, 24] from Fw.Fn.ren [(0, 22), (1, 23), (2, 24)] (w_impl_reduced m columns r1 hr1) rfl)) rfl cb156 (.cons (.c (.same rfl)) (.cons (.c (.same rfl)) .nil)) rfl rfl trivial) ⟨rfl, rfl, rfl, trivial⟩ trivial rfl rfl ?_
  refine AOR.pure (LT.move (v := (.tup [(.c (.loc 22 0 r1.1.length)), (.c (.loc 24 0 r1.2.1.length)), (.c (iC r1.2.2))])) rfl) ⟨rfl, trivial⟩ trivial rfl rfl ?_
  refine AOR.pure (LT.extract (v := (.c (.loc 22 0 r1.1.length))) rfl (by exact rfl)) ⟨rfl, trivial⟩ trivial rfl rfl ?_
  refine AOR.pure (LT.extract (v := (.c (.loc 24 0 r1.2.1.length))) rfl (by exact rfl)) ⟨rfl, trivial⟩ trivial rfl rfl ?_
  refine AOR.pure (LT.extract (v := (.c (iC r1.2.2))) rfl (by exact rfl)) ⟨rfl, trivial⟩ trivial rfl rfl ?_
  refine AOR.pure (LT.assign (v := (.s (.c (.loc 22 0 r1.1.length)))) rfl) ⟨rfl, trivial⟩ trivial rfl rfl ?_
  refine AOR.pure (LT.assign (v := (.s (.c (.loc 24 0 r1.2.1.length)))) rfl) ⟨rfl, trivial⟩ trivial rfl rfl ?_
  refine AOR.pure (LT.assign (v := (.s (.c (iC r1.2.2)))) rfl) ⟨rfl, trivial⟩ trivial rfl rfl ?_
  refine AOR.nil ?_
  refine AWR.seq ?_
  refine AWR.ent (Ent.of (σ' := [(1, (.s (.c (iC columns)))), (5, (.s (.c (.loc 22 0 r1.1.length)))), (6, (.s (.c (.loc 24 0 r1.2.1.length)))), (7, (.s (.c (iC r1.2.2))))]) (m' := [(22, (.trow 37 23 (lensOf r1.1))), (23, (.pool 3 (rowsOf encInt r1.1))), (24, (.prow 3 (r1.2.1.map encInt)))]) ⟨rfl, rfl, rfl, rfl, trivial⟩ ⟨rfl, rfl, rfl, trivial⟩) ?_
  refine AWR.region ?_
  refine AOR.pure (LT.move (v := (.s (.c (iC columns)))) rfl) ⟨rfl, trivial⟩ trivial rfl rfl ?_
  refine AOR.bind fun u2 hu2 => ?_
  refine AOR.step (LT.tmake (n := 25) (enc := encInt) (zc := [(iC 0)]) (0 : Int) rfl und37 ti3 rfl rfl rfl (by decide) (by decide) (lenOk_le hu2) rfl) ⟨rfl, rfl, trivial⟩ trivial rfl rfl ?_
  refine AOR.pure (LT.assign (v := (.s (.c (.loc 25 0 (List.replicate columns.toNat (0 : Int)).length)))) rfl) ⟨rfl, trivial⟩ trivial rfl rfl ?_
  refine AOR.nil ?_
  refine AWR.seq ?_
  refine AWR.seq ?_
  refine AWR.region ?_
  refine AOR.pure (LT.move (v := (.s (.c (.loc 25 0 (List.replicate columns.toNat (0 : Int)).length)))) rfl) ⟨rfl, trivial⟩ trivial rfl rfl ?_
  refine AOR.pure (LT.lenLoc rfl und37) ⟨rfl, trivial⟩ trivial rfl rfl ?_
  refine AOR.pure (LT.move (v := (.s (.c (iC 0)))) rfl) ⟨⟨rfl, rfl⟩, trivial⟩ trivial rfl rfl ?_
  refine AOR.nil ?_
  refine AWR.block ?_
  refine AWR.loop1 (id := 0) (m_impl_nullspace_L1 columns r1) (fun s3 => ([(1, (.s (.c (iC columns)))), (5, (.s (.c (.loc 22 0 r1.1.length)))), (6, (.s (.c (.loc 24 0 r1.2.1.length)))), (7, (.s (.c (iC r1.2.2)))), (8, (.s (.c (.loc 25 0 s3.2.length)))), (26, (.s (.c (iC ((List.replicate columns.toNat (0 : Int)).length : Int))))), (27, (.s (.c (iC s3.1))))], [(22, (.trow 37 23 (lensOf r1.1))), (23, (.pool 3 (rowsOf encInt r1.1))), (24, (.prow 3 (r1.2.1.map encInt))), (25, (.prow 3 (s3.2.map encInt)))])) (fun b8 => ([(1, (.s (.c (iC columns)))), (5, (.s (.c (.loc 22 0 b8.2.1.length)))), (6, (.s (.c (.loc 24 0 b8.2.2.1.length)))), (7, (.s (.c (iC b8.1)))), (8, (.s (.c (.loc 25 0 b8.2.2.2.length))))], [(22, (.trow 37 23 (lensOf b8.2.1))), (23, (.pool 3 (rowsOf encInt b8.2.1))), (24, (.prow 3 (b8.2.2.1.map encInt))), (25, (.prow 3 (b8.2.2.2.map encInt)))])) ?_ (Ent.of ⟨rfl, rfl, rfl, rfl, rfl, rfl, rfl, trivial⟩ ⟨rfl, rfl, rfl, rfl, trivial⟩) rfl (fun b8 _ => ?_)
  · intro s3
    unfold m_impl_nullspace_L1
    refine AWR.seq ?_
    refine AWR.region ?_
    refine AOR.pure (LT.lss rfl) ⟨rfl, rfl, trivial⟩ trivial rfl rfl ?_
    refine AOR.nil ?_
    refine AWR.seq ?_
    refine AWR.cond rfl (fun hc9 => ?_) (fun hc9 => ?_)
    · refine AWR.skip ?_
      refine AWR.seq ?_
      refine AWR.block ?_
      refine AWR.seq ?_
      refine AWR.region ?_
      refine AOR.pure (LT.move (v := (.s (.c (iC s3.1)))) rfl) ⟨rfl, trivial⟩ trivial rfl rfl ?_
      refine AOR.pure (LT.assign (v := (.s (.c (iC s3.1)))) rfl) ⟨rfl, trivial⟩ trivial rfl rfl ?_
      refine AOR.nil ?_
      refine AWR.region ?_
      refine AOR.pure (LT.move (v := (.s (.c (.loc 25 0 s3.2.length)))) rfl) ⟨rfl, trivial⟩ trivial rfl rfl ?_
      refine AOR.pure (LT.move (v := (.s (.c (iC s3.1)))) rfl) ⟨rfl, trivial⟩ trivial rfl rfl ?_
      refine AOR.bind fun x10 hx10 => ?_
      refine AOR.pure (LT.tindexLoc rfl rfl el37 hx10) ⟨rfl, rfl, trivial⟩ ⟨rfl, trivial⟩ rfl rfl ?_
      refine AOR.step (LT.tstore (k := 0) (v := (.c (iC (-1)))) (b' := (-1)) rfl rfl (infS inf3) sz3 (by exact rfl) hx10 (by exact rfl) (by exact Nat.le_of_ble_eq_true rfl) (by exact rfl)) ⟨rfl, ⟨rfl, rfl⟩, trivial⟩ ⟨rfl, trivial⟩ rfl rfl ?_
      refine AOR.nil ?_
      refine AWR.blk ?_
      refine AWR.region ?_
      refine AOR.pure (LT.add rfl) ⟨rfl, ⟨rfl, rfl⟩, trivial⟩ trivial rfl rfl ?_
      refine AOR.pure (LT.move (v := (.s (.c (iC (w64 (s3.1 + 1)))))) rfl) ⟨rfl, trivial⟩ trivial rfl rfl ?_
      refine AOR.nil ?_
      refine AWR.nil ⟨rfl, Ent.of ⟨rfl, rfl, rfl, rfl, (congrArg (fun l1 => (some (AV.s (.c (.loc 25 0 l1))) : Option AV)) (show s3.2.length = (s3.2.set s3.1.toNat (-1)).length by simp only [List.length_set])), rfl, rfl, trivial⟩ ⟨rfl, rfl, rfl, rfl, trivial⟩⟩
    · refine AWR.exit_end rfl ⟨rfl, Ent.of ⟨rfl, rfl, rfl, rfl, rfl, trivial⟩ ⟨rfl, rfl, rfl, rfl, trivial⟩⟩
  · refine AWR.seq ?_
    refine AWR.seq ?_
    refine AWR.region ?_
    refine AOR.pure (LT.move (v := (.s (.c (.loc 24 0 b8.2.2.1.length)))) rfl) ⟨rfl, trivial⟩ trivial rfl rfl ?_
    refine AOR.pure (LT.lenLoc rfl und37) ⟨rfl, trivial⟩ trivial rfl rfl ?_
    refine AOR.pure (LT.move (v := (.s (.c (iC 0)))) rfl) ⟨⟨rfl, rfl⟩, trivial⟩ trivial rfl rfl ?_
    refine AOR.nil ?_
    refine AWR.block ?_
    refine AWR.loop1 (id := 2) (m_impl_nullspace_L2 b8) (fun s11 => ([(1, (.s (.c (iC columns)))), (5, (.s (.c (.loc 22 0 b8.2.1.length)))), (7, (.s (.c (iC b8.1)))), (8, (.s (.c (.loc 25 0 s11.2.length)))), (34, (.s (.c (.loc 24 0 b8.2.2.1.length)))), (35, (.s (.c (iC (b8.2.2.1.length : Int))))), (36, (.s (.c (iC s11.1))))], [(22, (.trow 37 23 (lensOf b8.2.1))), (23, (.pool 3 (rowsOf encInt b8.2.1))), (24, (.prow 3 (b8.2.2.1.map encInt))), (25, (.prow 3 (s11.2.map encInt)))])) (fun b18 => ([(1, (.s (.c (iC columns)))), (5, (.s (.c (.loc 22 0 b18.2.1.length)))), (7, (.s (.c (iC b18.1)))), (8, (.s (.c (.loc 25 0 b18.2.2.length))))], [(22, (.trow 37 23 (lensOf b18.2.1))), (23, (.pool 3 (rowsOf encInt b18.2.1))), (25, (.prow 3 (b18.2.2.map encInt)))])) ?_ (Ent.of ⟨rfl, rfl, rfl, rfl, rfl, rfl, rfl, trivial⟩ ⟨rfl, rfl, rfl, rfl, trivial⟩) rfl (fun b18 _ => ?_)
    · intro s11
      unfold m_impl_nullspace_L2
      refine AWR.seq ?_
      refine AWR.region ?_
      refine AOR.pure (LT.lss rfl) ⟨rfl, rfl, trivial⟩ trivial rfl rfl ?_
      refine AOR.nil ?_
      refine AWR.seq ?_
      refine AWR.cond rfl (fun hc19 => ?_) (fun hc19 => ?_)
      · refine AWR.skip ?_
        refine AWR.seq ?_
        refine AWR.block ?_
        refine AWR.seq ?_
        refine AWR.region ?_
        refine AOR.pure (LT.move (v := (.s (.c (iC s11.1)))) rfl) ⟨rfl, trivial⟩ trivial rfl rfl ?_
        refine AOR.bind fun x20 hx20 => ?_
        refine AOR.pure (LT.tindexLoc rfl rfl el37 hx20) ⟨rfl, rfl, trivial⟩ ⟨rfl, trivial⟩ rfl rfl ?_
        refine AOR.pure (LT.tload1 (k := 0) rfl ag3 hx20 (by exact rfl) (by exact rfl)) ⟨rfl, trivial⟩ ⟨rfl, trivial⟩ rfl rfl ?_
        refine AOR.pure (LT.assign (v := (.s (.c (iC s11.1)))) rfl) ⟨rfl, trivial⟩ trivial rfl rfl ?_
        refine AOR.pure (LT.assign (v := (.s (.c (iC x20)))) rfl) ⟨rfl, trivial⟩ trivial rfl rfl ?_
        refine AOR.nil ?_
        refine AWR.region ?_
        refine AOR.pure (LT.move (v := (.s (.c (.loc 25 0 s11.2.length)))) rfl) ⟨rfl, trivial⟩ trivial rfl rfl ?_
        refine AOR.pure (LT.move (v := (.s (.c (iC x20)))) rfl) ⟨rfl, trivial⟩ trivial rfl rfl ?_
        refine AOR.pure (LT.move (v := (.s (.c (iC s11.1)))) rfl) ⟨rfl, trivial⟩ trivial rfl rfl ?_
        refine AOR.bind fun x21 hx21 => ?_
        refine AOR.pure (LT.tindexLoc rfl rfl el37 hx21) ⟨rfl, rfl, trivial⟩ ⟨rfl, trivial⟩ rfl rfl ?_
        refine AOR.step (LT.tstore (k := 0) (v := (.c (iC s11.1))) (b' := s11.1) rfl rfl (infS inf3) sz3 (by exact rfl) hx21 (by exact rfl) (by exact Nat.le_of_ble_eq_true rfl) (by exact rfl)) ⟨rfl, rfl, trivial⟩ ⟨rfl, trivial⟩ rfl rfl ?_
        refine AOR.nil ?_
        refine AWR.blk ?_
        refine AWR.ent (Ent.of (σ' := [(1, (.s (.c (iC columns)))), (5, (.s (.c (.loc 22 0 b8.2.1.length)))), (7, (.s (.c (iC b8.1)))), (8, (.s (.c (.loc 25 0 s11.2.length)))), (34, (.s (.c (.loc 24 0 b8.2.2.1.length)))), (35, (.s (.c (iC (b8.2.2.1.length : Int))))), (36, (.s (.c (iC s11.1))))]) (m' := [(22, (.trow 37 23 (lensOf b8.2.1))), (23, (.pool 3 (rowsOf encInt b8.2.1))), (24, (.prow 3 (b8.2.2.1.map encInt))), (25, (.prow 3 ((s11.2.set x20.toNat s11.1).map encInt)))]) ⟨rfl, rfl, rfl, rfl, rfl, rfl, rfl, trivial⟩ ⟨rfl, rfl, rfl, rfl, trivial⟩) ?_
        refine AWR.region ?_
        refine AOR.pure (LT.add rfl) ⟨rfl, ⟨rfl, rfl⟩, trivial⟩ trivial rfl rfl ?_
        refine AOR.pure (LT.move (v := (.s (.c (iC (w64 (s11.1 + 1)))))) rfl) ⟨rfl, trivial⟩ trivial rfl rfl ?_
        refine AOR.nil ?_
        refine AWR.nil ⟨rfl, Ent.of ⟨rfl, rfl, rfl, (congrArg (fun l1 => (some (AV.s (.c (.loc 25 0 l1))) : Option AV)) (show s11.2.length = (s11.2.set x20.toNat s11.1).length by simp only [List.length_set])), rfl, rfl, rfl, trivial⟩ ⟨rfl, rfl, rfl, rfl, trivial⟩⟩
      · refine AWR.exit_end rfl ⟨rfl, Ent.of ⟨rfl, rfl, rfl, rfl, trivial⟩ ⟨rfl, rfl, rfl, trivial⟩⟩
    · refine AWR.seq ?_
      refine AWR.region ?_
      refine AOR.step (LT.buildSlice (n := 26) (els := []) [] rfl rfl und31 ti37 rfl rfl rfl rfl (by decide) rfl rfl) trivial trivial rfl rfl ?_
      refine AOR.pure (LT.assign (v := (.s (.c (.loc 26 0 0)))) rfl) ⟨rfl, trivial⟩ trivial rfl rfl ?_
      refine AOR.nil ?_
      refine AWR.ent (Ent.poolE 27 3 rfl) ?_
      refine AWR.ent (Ent.trow (n := 26) (p := 27) (lens := lensOf ([] : List (List Int))) (List.append_nil _) rfl) ?_
      refine AWR.seq ?_
      refine AWR.seq ?_
      refine AWR.region ?_
      refine AOR.pure (LT.move (v := (.s (.c (iC columns)))) rfl) ⟨rfl, trivial⟩ trivial rfl rfl ?_
      refine AOR.pure (LT.move (v := (.s (.c (iC 0)))) rfl) ⟨⟨rfl, rfl⟩, trivial⟩ trivial rfl rfl ?_
      refine AOR.nil ?_
      refine AWR.block ?_
      refine AWR.loop1 (id := 4) (m_impl_nullspace_L5 columns) (fun s22 => ([(1, (.s (.c (iC columns)))), (5, (.s (.c (.loc 22 0 s22.2.2.2.1.length)))), (7, (.s (.c (iC s22.2.1)))), (8, (.s (.c (.loc 25 0 s22.2.2.1.length)))), (12, (.s (.c (.loc 26 0 s22.2.2.2.2.length)))), (47, (.s (.c (iC columns)))), (48, (.s (.c (iC s22.1))))], [(22, (.trow 37 23 (lensOf s22.2.2.2.1))), (23, (.pool 3 (rowsOf encInt s22.2.2.2.1))), (25, (.prow 3 (s22.2.2.1.map encInt))), (26, (.trow 37 27 (lensOf s22.2.2.2.2))), (27, (.pool 3 (rowsOf encInt s22.2.2.2.2)))])) (fun b93 => ([(12, (.s (.c (.loc 26 0 b93.length))))], [(26, (.trow 37 27 (lensOf b93))), (27, (.pool 3 (rowsOf encInt b93)))])) ?_ (Ent.of ⟨rfl, rfl, rfl, rfl, rfl, rfl, rfl, trivial⟩ ⟨rfl, rfl, rfl, rfl, rfl, trivial⟩) rfl (fun b93 _ => ?_)
      · intro s22
        unfold m_impl_nullspace_L5
        refine AWR.seq ?_
        refine AWR.region ?_
        refine AOR.pure (LT.lss rfl) ⟨rfl, rfl, trivial⟩ trivial rfl rfl ?_
        refine AOR.nil ?_
        refine AWR.seq ?_
        refine AWR.cond rfl (fun hc94 => ?_) (fun hc94 => ?_)
        · refine AWR.skip ?_
          refine AWR.seq ?_
          refine AWR.block ?_
          refine AWR.seq ?_
          refine AWR.region ?_
          refine AOR.pure (LT.move (v := (.s (.c (iC s22.1)))) rfl) ⟨rfl, trivial⟩ trivial rfl rfl ?_
          refine AOR.pure (LT.assign (v := (.s (.c (iC s22.1)))) rfl) ⟨rfl, trivial⟩ trivial rfl rfl ?_
          refine AOR.nil ?_
          refine AWR.seq ?_
          refine AWR.seq ?_
          refine AWR.region ?_
          refine AOR.pure (LT.move (v := (.s (.c (.loc 25 0 s22.2.2.1.length)))) rfl) ⟨rfl, trivial⟩ trivial rfl rfl ?_
          refine AOR.pure (LT.move (v := (.s (.c (iC s22.1)))) rfl) ⟨rfl, trivial⟩ trivial rfl rfl ?_
          refine AOR.bind fun x95 hx95 => ?_
          refine AOR.pure (LT.tindexLoc rfl rfl el37 hx95) ⟨rfl, rfl, trivial⟩ ⟨rfl, trivial⟩ rfl rfl ?_
          refine AOR.pure (LT.tload1 (k := 0) rfl ag3 hx95 (by exact rfl) (by exact rfl)) ⟨rfl, trivial⟩ ⟨rfl, trivial⟩ rfl rfl ?_
          refine AOR.pure (LT.geq rfl) ⟨rfl, ⟨rfl, rfl⟩, trivial⟩ trivial rfl rfl ?_
          refine AOR.nil ?_
          refine AWR.cond rfl (fun hc96 => ?_) (fun hc96 => ?_)
          · refine AWR.exit rfl ?_
            refine AWR.region ?_
            refine AOR.pure (LT.add rfl) ⟨rfl, ⟨rfl, rfl⟩, trivial⟩ trivial rfl rfl ?_
            refine AOR.pure (LT.move (v := (.s (.c (iC (w64 (s22.1 + 1)))))) rfl) ⟨rfl, trivial⟩ trivial rfl rfl ?_
            refine AOR.nil ?_
            refine AWR.nil ⟨rfl, Ent.of ⟨rfl, rfl, rfl, rfl, rfl, rfl, rfl, trivial⟩ ⟨rfl, rfl, rfl, rfl, rfl, trivial⟩⟩
          · refine AWR.skip ?_
            refine AWR.seq ?_
            refine AWR.region ?_
            refine AOR.pure (LT.move (v := (.s (.c (iC columns)))) rfl) ⟨rfl, trivial⟩ trivial rfl rfl ?_
            refine AOR.bind fun u97 hu97 => ?_
            refine AOR.step (LT.tmake (n := 28) (enc := encInt) (zc := [(iC 0)]) (0 : Int) rfl und37 ti3 rfl rfl rfl (by decide) (by decide) (lenOk_le hu97) rfl) ⟨rfl, rfl, trivial⟩ trivial rfl rfl ?_
            refine AOR.pure (LT.assign (v := (.s (.c (.loc 28 0 (List.replicate columns.toNat (0 : Int)).length)))) rfl) ⟨rfl, trivial⟩ trivial rfl rfl ?_
            refine AOR.nil ?_
            refine AWR.seq ?_
            refine AWR.ent (Ent.of (σ' := [(1, (.s (.c (iC columns)))), (5, (.s (.c (.loc 22 0 s22.2.2.2.1.length)))), (7, (.s (.c (iC s22.2.1)))), (8, (.s (.c (.loc 25 0 s22.2.2.1.length)))), (12, (.s (.c (.loc 26 0 s22.2.2.2.2.length)))), (13, (.s (.c (iC s22.1)))), (14, (.s (.c (.loc 28 0 (List.replicate columns.toNat (0 : Int)).length)))), (47, (.s (.c (iC columns)))), (48, (.s (.c (iC s22.1))))]) (m' := [(22, (.trow 37 23 (lensOf s22.2.2.2.1))), (23, (.pool 3 (rowsOf encInt s22.2.2.2.1))), (25, (.prow 3 (s22.2.2.1.map encInt))), (26, (.trow 37 27 (lensOf s22.2.2.2.2))), (27, (.pool 3 (rowsOf encInt s22.2.2.2.2))), (28, (.prow 3 ((List.replicate columns.toNat (0 : Int)).map encInt)))]) ⟨rfl, rfl, rfl, rfl, rfl, rfl, rfl, rfl, rfl, trivial⟩ ⟨rfl, rfl, rfl, rfl, rfl, rfl, trivial⟩) ?_
            refine AWR.region ?_
            refine AOR.pure (LT.move (v := (.s (.c (.loc 28 0 (List.replicate columns.toNat (0 : Int)).length)))) rfl) ⟨rfl, trivial⟩ trivial rfl rfl ?_
            refine AOR.pure (LT.move (v := (.s (.c (iC s22.1)))) rfl) ⟨rfl, trivial⟩ trivial rfl rfl ?_
            refine AOR.pure (LT.move (v := (.s (.c (iC s22.2.1)))) rfl) ⟨rfl, trivial⟩ trivial rfl rfl ?_
            refine AOR.bind fun x98 hx98 => ?_
            refine AOR.pure (LT.tindexLoc rfl rfl el37 hx98) ⟨rfl, rfl, trivial⟩ ⟨rfl, trivial⟩ rfl rfl ?_
            refine AOR.step (LT.tstore (k := 0) (v := (.c (iC s22.2.1))) (b' := s22.2.1) rfl rfl (infS inf3) sz3 (by exact rfl) hx98 (by exact rfl) (by exact Nat.le_of_ble_eq_true rfl) (by exact rfl)) ⟨rfl, rfl, trivial⟩ ⟨rfl, trivial⟩ rfl rfl ?_
            refine AOR.nil ?_
            refine AWR.seq ?_
            refine AWR.seq ?_
            refine AWR.region ?_
            refine AOR.pure (LT.move (v := (.s (.c (iC columns)))) rfl) ⟨rfl, trivial⟩ trivial rfl rfl ?_
            refine AOR.pure (LT.move (v := (.s (.c (iC 0)))) rfl) ⟨⟨rfl, rfl⟩, trivial⟩ trivial rfl rfl ?_
            refine AOR.nil ?_
            refine AWR.block ?_
            refine AWR.loop1 (id := 6) (m_impl_nullspace_L6 columns s22) (fun s99 => ([(1, (.s (.c (iC columns)))), (5, (.s (.c (.loc 22 0 s22.2.2.2.1.length)))), (7, (.s (.c (iC s22.2.1)))), (8, (.s (.c (.loc 25 0 s22.2.2.1.length)))), (12, (.s (.c (.loc 26 0 s22.2.2.2.2.length)))), (13, (.s (.c (iC s22.1)))), (14, (.s (.c (.loc 28 0 s99.2.length)))), (47, (.s (.c (iC columns)))), (48, (.s (.c (iC s22.1)))), (62, (.s (.c (iC columns)))), (63, (.s (.c (iC s99.1))))], [(22, (.trow 37 23 (lensOf s22.2.2.2.1))), (23, (.pool 3 (rowsOf encInt s22.2.2.2.1))), (25, (.prow 3 (s22.2.2.1.map encInt))), (26, (.trow 37 27 (lensOf s22.2.2.2.2))), (27, (.pool 3 (rowsOf encInt s22.2.2.2.2))), (28, (.prow 3 (s99.2.map encInt)))])) (fun b126 => ([(1, (.s (.c (iC columns)))), (5, (.s (.c (.loc 22 0 b126.2.2.1.length)))), (7, (.s (.c (iC b126.1)))), (8, (.s (.c (.loc 25 0 b126.2.2.2.1.length)))), (12, (.s (.c (.loc 26 0 b126.2.2.2.2.1.length)))), (14, (.s (.c (.loc 28 0 b126.2.2.2.2.2.length)))), (47, (.s (.c (iC columns)))), (48, (.s (.c (iC b126.2.1))))], [(22, (.trow 37 23 (lensOf b126.2.2.1))), (23, (.pool 3 (rowsOf encInt b126.2.2.1))), (25, (.prow 3 (b126.2.2.2.1.map encInt))), (26, (.trow 37 27 (lensOf b126.2.2.2.2.1))), (27, (.pool 3 (rowsOf encInt b126.2.2.2.2.1))), (28, (.prow 3 (b126.2.2.2.2.2.map encInt)))])) ?_ (Ent.of ⟨rfl, rfl, rfl, rfl, rfl, rfl, (congrArg (fun l1 => (some (AV.s (.c (.loc 28 0 l1))) : Option AV)) (show (List.replicate columns.toNat (0 : Int)).length = ((List.replicate columns.toNat (0 : Int)).set s22.1.toNat s22.2.1).length by simp only [List.length_set])), rfl, rfl, rfl, rfl, trivial⟩ ⟨rfl, rfl, rfl, rfl, rfl, rfl, trivial⟩) rfl (fun b126 _ => ?_)
            · intro s99
              unfold m_impl_nullspace_L6
              refine AWR.seq ?_
              refine AWR.region ?_
              refine AOR.pure (LT.lss rfl) ⟨rfl, rfl, trivial⟩ trivial rfl rfl ?_
              refine AOR.nil ?_
              refine AWR.seq ?_
              refine AWR.cond rfl (fun hc127 => ?_) (fun hc127 => ?_)
              · refine AWR.skip ?_
                refine AWR.seq ?_
                refine AWR.block ?_
                refine AWR.seq ?_
                refine AWR.region ?_
                refine AOR.pure (LT.move (v := (.s (.c (iC s99.1)))) rfl) ⟨rfl, trivial⟩ trivial rfl rfl ?_
                refine AOR.pure (LT.assign (v := (.s (.c (iC s99.1)))) rfl) ⟨rfl, trivial⟩ trivial rfl rfl ?_
                refine AOR.nil ?_
                refine AWR.seq ?_
                refine AWR.region ?_
                refine AOR.pure (LT.move (v := (.s (.c (.loc 25 0 s22.2.2.1.length)))) rfl) ⟨rfl, trivial⟩ trivial rfl rfl ?_
                refine AOR.pure (LT.move (v := (.s (.c (iC s99.1)))) rfl) ⟨rfl, trivial⟩ trivial rfl rfl ?_
                refine AOR.bind fun x128 hx128 => ?_
                refine AOR.pure (LT.tindexLoc rfl rfl el37 hx128) ⟨rfl, rfl, trivial⟩ ⟨rfl, trivial⟩ rfl rfl ?_
                refine AOR.pure (LT.tload1 (k := 0) rfl ag3 hx128 (by exact rfl) (by exact rfl)) ⟨rfl, trivial⟩ ⟨rfl, trivial⟩ rfl rfl ?_
                refine AOR.pure (LT.geq rfl) ⟨rfl, ⟨rfl, rfl⟩, trivial⟩ trivial rfl rfl ?_
                refine AOR.nil ?_
                refine AWR.joinK (fun j134 => ([(1, (.s (.c (iC columns)))), (5, (.s (.c (.loc 22 0 s22.2.2.2.1.length)))), (7, (.s (.c (iC s22.2.1)))), (8, (.s (.c (.loc 25 0 s22.2.2.1.length)))), (12, (.s (.c (.loc 26 0 s22.2.2.2.2.length)))), (13, (.s (.c (iC s22.1)))), (14, (.s (.c (.loc 28 0 j134.length)))), (47, (.s (.c (iC columns)))), (48, (.s (.c (iC s22.1)))), (62, (.s (.c (iC columns)))), (63, (.s (.c (iC s99.1))))], [(22, (.trow 37 23 (lensOf s22.2.2.2.1))), (23, (.pool 3 (rowsOf encInt s22.2.2.2.1))), (25, (.prow 3 (s22.2.2.1.map encInt))), (26, (.trow 37 27 (lensOf s22.2.2.2.2))), (27, (.pool 3 (rowsOf encInt s22.2.2.2.2))), (28, (.prow 3 (j134.map encInt)))])) ?_ (fun j134 _ => ?_)
                · refine AWR.cond rfl (fun hc135 => ?_) (fun hc135 => ?_)
                  · refine AWR.region ?_
                    refine AOR.pure (LT.move (v := (.s (.c (.loc 28 0 s99.2.length)))) rfl) ⟨rfl, trivial⟩ trivial rfl rfl ?_
                    refine AOR.pure (LT.move (v := (.s (.c (iC s99.1)))) rfl) ⟨rfl, trivial⟩ trivial rfl rfl ?_
                    refine AOR.pure (LT.move (v := (.s (.c (.loc 22 0 s22.2.2.2.1.length)))) rfl) ⟨rfl, trivial⟩ trivial rfl rfl ?_
                    refine AOR.pure (LT.move (v := (.s (.c (.loc 25 0 s22.2.2.1.length)))) rfl) ⟨rfl, trivial⟩ trivial rfl rfl ?_
                    refine AOR.pure (LT.move (v := (.s (.c (iC s99.1)))) rfl) ⟨rfl, trivial⟩ trivial rfl rfl ?_
                    refine AOR.bind fun x136 hx136 => ?_
                    refine AOR.pure (LT.tindexLoc rfl rfl el37 hx136) ⟨rfl, rfl, trivial⟩ ⟨rfl, trivial⟩ rfl rfl ?_
                    refine AOR.pure (LT.tload1 (k := 0) rfl ag3 hx136 (by exact rfl) (by exact rfl)) ⟨rfl, trivial⟩ ⟨rfl, trivial⟩ rfl rfl ?_
                    refine AOR.bind fun x137 hx137 => ?_
                    refine AOR.pure (LT.xindex rfl rfl el31 hx137) ⟨rfl, rfl, trivial⟩ ⟨rfl, trivial⟩ rfl rfl ?_
                    refine AOR.pure (LT.xload rfl ag37 hx137 rfl) ⟨rfl, trivial⟩ ⟨rfl, trivial⟩ rfl rfl ?_
                    refine AOR.pure (LT.move (v := (.s (.c (iC s22.1)))) rfl) ⟨rfl, trivial⟩ trivial rfl rfl ?_
                    refine AOR.bind fun x138 hx138 => ?_
                    refine AOR.pure (LT.tlindex rfl rfl el37 (idx_get hx137) hx138) ⟨rfl, rfl, trivial⟩ ⟨rfl, trivial⟩ rfl rfl ?_
                    refine AOR.pure (LT.tlload1 (enc := encInt) (j := 0) rfl ag3 (idx_get hx137) hx138 (by exact rfl) (by exact rfl)) ⟨rfl, trivial⟩ ⟨rfl, trivial⟩ rfl rfl ?_
                    refine AOR.pure (LT.neg rfl) ⟨rfl, trivial⟩ trivial rfl rfl ?_
                    refine AOR.bind fun x139 hx139 => ?_
                    refine AOR.pure (LT.tindexLoc rfl rfl el37 hx139) ⟨rfl, rfl, trivial⟩ ⟨rfl, trivial⟩ rfl rfl ?_
                    refine AOR.step (LT.tstore (k := 0) (v := (.c (iC (w64 (-x138))))) (b' := (w64 (-x138))) rfl rfl (infS inf3) sz3 (by exact rfl) hx139 (by exact rfl) (by exact Nat.le_of_ble_eq_true rfl) (by exact rfl)) ⟨rfl, rfl, trivial⟩ ⟨rfl, trivial⟩ rfl rfl ?_
                    refine AOR.nil ?_
                    refine AWR.nil ⟨rfl, Ent.of ⟨rfl, rfl, rfl, rfl, rfl, rfl, (congrArg (fun l1 => (some (AV.s (.c (.loc 28 0 l1))) : Option AV)) (show s99.2.length = (s99.2.set s99.1.toNat (w64 (-x138))).length by simp only [List.length_set])), rfl, rfl, rfl, rfl, trivial⟩ ⟨rfl, rfl, rfl, rfl, rfl, rfl, trivial⟩⟩
                  · refine AWR.skip ?_
                    refine AWR.nil ⟨rfl, Ent.of ⟨rfl, rfl, rfl, rfl, rfl, rfl, rfl, rfl, rfl, rfl, rfl, trivial⟩ ⟨rfl, rfl, rfl, rfl, rfl, rfl, trivial⟩⟩
                · refine AWR.blk ?_
                  refine AWR.region ?_
                  refine AOR.pure (LT.add rfl) ⟨rfl, ⟨rfl, rfl⟩, trivial⟩ trivial rfl rfl ?_
                  refine AOR.pure (LT.move (v := (.s (.c (iC (w64 (s99.1 + 1)))))) rfl) ⟨rfl, trivial⟩ trivial rfl rfl ?_
                  refine AOR.nil ?_
                  refine AWR.nil ⟨rfl, Ent.of ⟨rfl, rfl, rfl, rfl, rfl, rfl, rfl, rfl, rfl, rfl, rfl, trivial⟩ ⟨rfl, rfl, rfl, rfl, rfl, rfl, trivial⟩⟩
              · refine AWR.exit_end rfl ⟨rfl, Ent.of ⟨rfl, rfl, rfl, rfl, rfl, rfl, rfl, rfl, trivial⟩ ⟨rfl, rfl, rfl, rfl, rfl, rfl, trivial⟩⟩
            · refine AWR.region ?_
              refine AOR.pure (LT.move (v := (.s (.c (.loc 26 0 b126.2.2.2.2.1.length)))) rfl) ⟨rfl, trivial⟩ trivial rfl rfl ?_
              refine AOR.pure (LT.move (v := (.s (.c (.loc 28 0 b126.2.2.2.2.2.length)))) rfl) ⟨rfl, trivial⟩ trivial rfl rfl ?_
              refine AOR.bind fun r140 hr140 => ?_
              refine AOR.step (@LT.callF Try.prog _ _ 157 _ _ [(.c (.loc 28 0 b126.2.2.2.2.2.length))] _ _ [(28, (.prow 3 (b126.2.2.2.2.2.map encInt)))] _ _ _ _ ((show Fw.Fn Try.prog 157 [(.c (.pv (.xs false (b126.2.2.2.2.2.map encInt))))] [] (.s (.c (.loc 30 0 r140.length))) [(30, (.prow 3 (r140.map encInt)))] [] [30] from Fw.Fn.ren [(0, 30)] (w_impl_PrimitiveVector b126.2.2.2.2.2 r140 hr140) rfl)) rfl cb157 (.cons (.c (.tloc rfl rfl)) .nil) rfl rfl trivial) ⟨rfl, rfl, trivial⟩ ⟨rfl, trivial⟩ rfl rfl ?_
              refine AOR.step (LT.buildSlice (n := 31) (els := [[(.loc 30 0 r140.length)]]) [(0, .tmp 88, (.c (.loc 30 0 r140.length)))] rfl rfl und31 ti37 rfl rfl rfl rfl (by decide) rfl rfl) ⟨rfl, trivial⟩ trivial rfl rfl ?_
              refine AOR.bind fun u141 hu141 => ?_
              refine AOR.step (LT.xapp rfl rfl rfl und31 ti37 rfl (by decide) (by decide) rfl (lim_le hu141)) ⟨rfl, rfl, trivial⟩ ⟨rfl, rfl, trivial⟩ rfl rfl ?_
              refine AOR.pure (LT.assign (v := (.s (.c (.loc 26 0 (b126.2.2.2.2.1.length + 1))))) rfl) ⟨rfl, trivial⟩ trivial rfl rfl ?_
              refine AOR.nil ?_
              refine AWR.ent (Ent.tadopt (enc := encInt) (n := 26) (m := 30) (p := 27) (rows := b126.2.2.2.2.1) (r := r140) (rest := []) rfl rfl rfl rfl rfl rfl) ?_
              refine AWR.ent (Ent.trow (n := 26) (p := 27) (lens := lensOf (b126.2.2.2.2.1 ++ [r140])) (List.append_nil _) rfl) ?_
              refine AWR.blk ?_
              refine AWR.region ?_
              refine AOR.pure (LT.add rfl) ⟨rfl, ⟨rfl, rfl⟩, trivial⟩ trivial rfl rfl ?_
              refine AOR.pure (LT.move (v := (.s (.c (iC (w64 (b126.2.1 + 1)))))) rfl) ⟨rfl, trivial⟩ trivial rfl rfl ?_
              refine AOR.nil ?_
              refine AWR.nil ⟨rfl, Ent.of ⟨rfl, rfl, rfl, rfl, (congrArg (fun l1 => (some (AV.s (.c (.loc 26 0 l1))) : Option AV)) (show (b126.2.2.2.2.1.length + 1) = (b126.2.2.2.2.1 ++ [r140]).length from len_snoc)), rfl, rfl, trivial⟩ ⟨rfl, rfl, rfl, rfl, rfl, trivial⟩⟩
        · refine AWR.exit_end rfl ⟨rfl, Ent.of ⟨rfl, trivial⟩ ⟨rfl, rfl, trivial⟩⟩
      · refine AWR.seq ?_
        refine AWR.region ?_
        refine AOR.pure (LT.move (v := (.s (.c (.loc 26 0 b93.length)))) rfl) ⟨rfl, trivial⟩ trivial rfl rfl ?_
        refine AOR.pure (LT.assign (v := (.s (.c (.loc 26 0 b93.length)))) rfl) ⟨rfl, trivial⟩ trivial rfl rfl ?_
        refine AOR.nil ?_
        refine AWR.ent (Ent.of (σ' := [(4, (.s (.c (.loc 26 0 b93.length))))]) (m' := [(26, (.trow 37 27 (lensOf b93))), (27, (.pool 3 (rowsOf encInt b93)))]) ⟨rfl, trivial⟩ ⟨rfl, rfl, trivial⟩) ?_
        refine AWR.ent (Ent.mv 26 0 rfl rfl) ?_
        refine AWR.ent (Ent.mv 27 1 rfl rfl) ?_
        refine AWR.ent (Ent.of (σ' := [(4, (.s (.c (.loc 0 0 b93.length))))]) (m' := [(0, (.trow 37 1 (lensOf b93))), (1, (.pool 3 (rowsOf encInt b93)))]) ⟨rfl, trivial⟩ ⟨rfl, rfl, trivial⟩) ?_
        refine AWR.ret (FPost.mk (.inr rfl) ⟨rfl, trivial⟩ ⟨rfl, rfl, trivial⟩ rfl ⟨trivial, trivial⟩ ⟨trivial, PermO.poolR perm_encInt _, trivial⟩)
end Go.Proofs.Ytoeigmhhmadmbaa
end
section
set_option linter.unusedVariables false
set_option linter.unusedSimpArgs false
set_option linter.unnecessarySimpa false
open Go Go.Fw
namespace Go.Proofs.Ytoeigmhhmadmbaa
set_option maxRecDepth 100000 in
set_option maxHeartbeats 8000000 in
theorem w_spec_l13Load (f : TFramework) (load : (List Int)) : ∀ t, m_spec_l13Load f load = some t → Fw.Fn Try.prog 97 [(.agg [(iC f.Graph.Points), (.pv (.xs false (f.Graph.Bars.map encTBar))), (.pv (.xs false (f.Places.map encTPlace)))]), (.c (.pv (.xs false (load.map encInt))))] [] (.s (.c (bC t))) [] [] [] := by
  refine Fw.Fn.of (P := Try.prog) (X := []) (pn := []) (rs := (fun (t : Bool) => [(.c (bC t))])) (dfs := (fun (t : Bool) => [])) Try.func97 rfl Try.ntmps97 (Nat.le_of_ble_eq_true rfl) rfl ?_
  intro w0 U0 R0 g0
  unfold m_spec_l13Load
  refine AWR.seq ?_
  refine AWR.region ?_
  refine AOR.step (LT.box (n := 21) (v := (.agg [(iC f.Graph.Points), (.pv (.xs false (f.Graph.Bars.map encTBar))), (.pv (.xs false (f.Places.map encTPlace)))])) rfl sz29 (by exact rfl)) ⟨rfl, trivial⟩ trivial rfl rfl ?_
  refine AOR.pure (LT.assign (v := (.s (.c (bC false)))) rfl) ⟨⟨rfl, rfl⟩, trivial⟩ trivial rfl rfl ?_
  refine AOR.nil ?_
  refine AWR.seq ?_
  refine AWR.seq ?_
  refine AWR.region ?_
  refine AOR.pure (LT.assign (v := (.s (.c (iC 0)))) rfl) ⟨⟨rfl, rfl⟩, trivial⟩ trivial rfl rfl ?_
  refine AOR.nil ?_
  refine AWR.block ?_
  refine AWR.loopR (id := 0) (m_spec_l13Load_L1 load) (fun s1 => ([(1, (.s (.c (.pv (.xs false (load.map encInt)))))), (2, (.s (.c (.pl 21 0)))), (5, (.s (.c (iC s1))))], [(21, (.row 29 [[(iC f.Graph.Points), (.pv (.xs false (f.Graph.Bars.map encTBar))), (.pv (.xs false (f.Places.map encTPlace)))]]))])) (fun b10 => ([(1, (.s (.c (.pv (.xs false (load.map encInt)))))), (2, (.s (.c (.pl 21 0))))], [(21, (.row 29 [[(iC f.Graph.Points), (.pv (.xs false (f.Graph.Bars.map encTBar))), (.pv (.xs false (f.Places.map encTPlace)))]]))])) (FPost Try.prog Try.f97.results.toList [] [] (fun (t : Bool) => [(.c (bC t))]) (fun (t : Bool) => [])) ?_ (Ent.of ⟨rfl, rfl, rfl, trivial⟩ ⟨rfl, trivial⟩) rfl (fun b10 _ => ?_) (by intro r t σ m ht hk; injection ht with ht; subst ht; exact hk)
  · intro s1
    unfold m_spec_l13Load_L1
    refine AWR.seq ?_
    refine AWR.seq ?_
    refine AWR.region ?_
    refine AOR.pure (LT.move (v := (.s (.c (iC s1)))) rfl) ⟨rfl, trivial⟩ trivial rfl rfl ?_
    refine AOR.pure (LT.move (v := (.s (.c (.pv (.xs false (load.map encInt)))))) rfl) ⟨rfl, trivial⟩ trivial rfl rfl ?_
    refine AOR.pure (LT.tlenRO rfl und37) ⟨rfl, trivial⟩ trivial rfl rfl ?_
    refine AOR.pure (LT.lss rfl) ⟨rfl, rfl, trivial⟩ trivial rfl rfl ?_
    refine AOR.nil ?_
    refine AWR.cond rfl (fun hc11 => ?_) (fun hc11 => ?_)
    · refine AWR.skip ?_
      refine AWR.seq ?_
      refine AWR.block ?_
      refine AWR.seq ?_
      refine AWR.region ?_
      refine AOR.pure (LT.move (v := (.s (.c (.pv (.xs false (load.map encInt)))))) rfl) ⟨rfl, trivial⟩ trivial rfl rfl ?_
      refine AOR.pure (LT.move (v := (.s (.c (iC s1)))) rfl) ⟨rfl, trivial⟩ trivial rfl rfl ?_
      refine AOR.bind fun x12 hx12 => ?_
      refine AOR.pure (LT.tindexRO (enc := encInt) rfl el37 hx12 sz3) ⟨rfl, rfl, trivial⟩ trivial rfl rfl ?_
      refine AOR.pure (LT.loadPx1 rfl ag3) ⟨rfl, trivial⟩ trivial rfl rfl ?_
      refine AOR.bind fun r13 hr13 => ?_
      refine AOR.pure (@LT.callF Try.prog _ _ 92 _ _ [(.c (iC x12)), (.c (iC (-4))), (.c (iC 4))] _ _ [] _ _ _ _ (w_spec_l1In x12 (-4) 4 r13 hr13) rfl cb92 (.cons (.c (.same rfl)) (.cons (.c (.same rfl)) (.cons (.c (.same rfl)) .nil))) rfl rfl trivial) ⟨rfl, rfl, ⟨rfl, rfl⟩, ⟨rfl, rfl⟩, trivial⟩ trivial rfl rfl ?_
      refine AOR.pure (LT.not rfl) ⟨rfl, trivial⟩ trivial rfl rfl ?_
      refine AOR.nil ?_
      refine AWR.cond rfl (fun hc14 => ?_) (fun hc14 => ?_)
      · refine AWR.seq ?_
        refine AWR.region ?_
        refine AOR.pure (LT.assign (v := (.s (.c (bC false)))) rfl) ⟨⟨rfl, rfl⟩, trivial⟩ trivial rfl rfl ?_
        refine AOR.nil ?_
        refine AWR.ret ⟨rfl, FPost.mk (.inr rfl) ⟨rfl, trivial⟩ trivial rfl ⟨PermP.sc, trivial⟩ trivial⟩
      · refine AWR.skip ?_
        refine AWR.blk ?_
        refine AWR.region ?_
        refine AOR.pure (LT.move (v := (.s (.c (iC s1)))) rfl) ⟨rfl, trivial⟩ trivial rfl rfl ?_
        refine AOR.pure (LT.add rfl) ⟨rfl, ⟨rfl, rfl⟩, trivial⟩ trivial rfl rfl ?_
        refine AOR.pure (LT.assign (v := (.s (.c (iC (w64 (s1 + 1)))))) rfl) ⟨rfl, trivial⟩ trivial rfl rfl ?_
        refine AOR.nil ?_
        refine AWR.nil ⟨rfl, Ent.of ⟨rfl, rfl, rfl, trivial⟩ ⟨rfl, trivial⟩⟩
    · refine AWR.exit_end rfl ⟨rfl, Ent.of ⟨rfl, rfl, trivial⟩ ⟨rfl, trivial⟩⟩
  · refine AWR.seq ?_
    refine AWR.joinK (fun j17 => ([(4, (.s (.c (bC j17))))], [])) ?_ (fun j17 _ => ?_)
    · refine AWR.region ?_
      refine AOR.pure (LT.bloadN (out := [(iC f.Graph.Points), (.pv (.xs false (f.Graph.Bars.map encTBar))), (.pv (.xs false (f.Places.map encTPlace)))]) rfl ag29 (infS inf29) sz29 (by exact rfl) (by exact rfl)) ⟨rfl, trivial⟩ ⟨rfl, trivial⟩ rfl rfl ?_
      refine AOR.bind fun r18 hr18 => ?_
      refine AOR.pure (@LT.callF Try.prog _ _ 18 _ _ [(.agg [(iC f.Graph.Points), (.pv (.xs false (f.Graph.Bars.map encTBar))), (.pv (.xs false (f.Places.map encTPlace)))])] _ _ [] _ _ _ _ (w_spec_IsFramework f r18 hr18) rfl cb18 (.cons (.agg (.cons (.same rfl) (.cons (.same rfl) (.cons (.same rfl) .nil)))) .nil) rfl rfl trivial) ⟨rfl, rfl, trivial⟩ trivial rfl rfl ?_
      refine AOR.pure (LT.move (v := (.s (.c (bC r18)))) rfl) ⟨rfl, trivial⟩ trivial rfl rfl ?_
      refine AOR.split (fun hb19 => ?_) (fun hb19 => ?_)
      · refine AOR.pure (LT.move (v := (.s (.c (.pv (.xs false (load.map encInt)))))) rfl) ⟨rfl, trivial⟩ trivial ⟨_, rfl, .inl ⟨_, rfl, (by rw [hb19]; rfl)⟩⟩ rfl ?_
        refine AOR.pure (LT.tlenRO rfl und37) ⟨rfl, trivial⟩ trivial ⟨_, rfl, .inl ⟨_, rfl, (by rw [hb19]; rfl)⟩⟩ rfl ?_
        refine AOR.pure (LT.fieldPl rfl fo29_0) ⟨rfl, trivial⟩ trivial ⟨_, rfl, .inl ⟨_, rfl, (by rw [hb19]; rfl)⟩⟩ rfl ?_
        refine AOR.pure (LT.fieldPl rfl fo26_0) ⟨rfl, trivial⟩ trivial ⟨_, rfl, .inl ⟨_, rfl, (by rw [hb19]; rfl)⟩⟩ rfl ?_
        refine AOR.pure (LT.bload1 (c := (iC f.Graph.Points)) rfl ag3 (by exact rfl)) ⟨rfl, trivial⟩ ⟨rfl, trivial⟩ ⟨_, rfl, .inl ⟨_, rfl, (by rw [hb19]; rfl)⟩⟩ rfl ?_
        refine AOR.pure (LT.mul rfl) ⟨⟨rfl, rfl⟩, rfl, trivial⟩ trivial ⟨_, rfl, .inl ⟨_, rfl, (by rw [hb19]; rfl)⟩⟩ rfl ?_
        refine AOR.pure (LT.eql rfl) ⟨rfl, rfl, trivial⟩ trivial ⟨_, rfl, .inl ⟨_, rfl, (by rw [hb19]; rfl)⟩⟩ rfl ?_
        refine AOR.pure (LT.pickT (v := (.s (.c (bC ((load.length : Int) == (w64 (2 * f.Graph.Points))))))) rfl hb19) ⟨rfl, rfl, trivial⟩ trivial rfl rfl ?_
        refine AOR.pure (LT.assign (v := (.s (.c (bC ((load.length : Int) == (w64 (2 * f.Graph.Points))))))) rfl) ⟨rfl, trivial⟩ trivial rfl rfl ?_
        refine AOR.nil ?_
        refine AWR.nil ⟨rfl, Ent.of ⟨rfl, trivial⟩ trivial⟩
      · refine AOR.skip ⟨_, rfl, .inl ⟨_, rfl, (by rw [hb19]; rfl)⟩⟩ rfl ?_
        refine AOR.skip ⟨_, rfl, .inl ⟨_, rfl, (by rw [hb19]; rfl)⟩⟩ rfl ?_
        refine AOR.skip ⟨_, rfl, .inl ⟨_, rfl, (by rw [hb19]; rfl)⟩⟩ rfl ?_
        refine AOR.skip ⟨_, rfl, .inl ⟨_, rfl, (by rw [hb19]; rfl)⟩⟩ rfl ?_
        refine AOR.skip ⟨_, rfl, .inl ⟨_, rfl, (by rw [hb19]; rfl)⟩⟩ rfl ?_
        refine AOR.skip ⟨_, rfl, .inl ⟨_, rfl, (by rw [hb19]; rfl)⟩⟩ rfl ?_
        refine AOR.skip ⟨_, rfl, .inl ⟨_, rfl, (by rw [hb19]; rfl)⟩⟩ rfl ?_
        refine AOR.pure (LT.pickF (v := (.s (.c (bC false)))) rfl hb19) ⟨rfl, ⟨rfl, rfl⟩, trivial⟩ trivial rfl rfl ?_
        refine AOR.pure (LT.assign (v := (.s (.c (bC false)))) rfl) ⟨rfl, trivial⟩ trivial rfl rfl ?_
        refine AOR.nil ?_
        refine AWR.nil ⟨rfl, Ent.of ⟨rfl, trivial⟩ trivial⟩
    · refine AWR.ret (FPost.mk (.inr rfl) ⟨rfl, trivial⟩ trivial rfl ⟨PermP.sc, trivial⟩ trivial)
set_option maxRecDepth 100000 in
set_option maxHeartbeats 8000000 in
theorem w_spec_l13Solve (f : TFramework) (load : (List Int)) : ∀ t, m_spec_l13Solve f load = some t → Fw.Fn Try.prog 98 [(.agg [(iC f.Graph.Points), (.pv (.xs false (f.Graph.Bars.map encTBar))), (.pv (.xs false (f.Places.map encTPlace)))]), (.c (.pv (.xs false (load.map encInt))))] [] (.s (.c (.loc 0 0 t.length))) [(0, (.prow 37 (t.map (encLInt true))))] [] [0] := by
  refine Fw.Fn.of (P := Try.prog) (X := [0]) (pn := []) (rs := (fun (t : (List (List Int))) => [(.c (.loc 0 0 t.length))])) (dfs := (fun (t : (List (List Int))) => [(0, (.prow 37 (t.map (encLInt true))))])) Try.func98 rfl Try.ntmps98 (Nat.le_of_ble_eq_true rfl) rfl ?_
  intro w0 U0 R0 g0
  unfold m_spec_l13Solve
  refine AWR.seq ?_
  refine AWR.region ?_
  refine AOR.step (LT.box (n := 21) (v := (.agg [(iC f.Graph.Points), (.pv (.xs false (f.Graph.Bars.map encTBar))), (.pv (.xs false (f.Places.map encTPlace)))])) rfl sz29 (by exact rfl)) ⟨rfl, trivial⟩ trivial rfl rfl ?_
  refine AOR.pure (LT.assign (v := (.s (.c (sC nilV)))) rfl) ⟨⟨rfl, rfl⟩, trivial⟩ trivial rfl rfl ?_
  refine AOR.nil ?_
  refine AWR.seq ?_
  refine AWR.region ?_
  refine AOR.pure (LT.bloadN (out := [(iC f.Graph.Points), (.pv (.xs false (f.Graph.Bars.map encTBar))), (.pv (.xs false (f.Places.map encTPlace)))]) rfl ag29 (infS inf29) sz29 (by exact rfl) (by exact rfl)) ⟨rfl, trivial⟩ ⟨rfl, trivial⟩ rfl rfl ?_
  refine AOR.bind fun r1 hr1 => ?_
  refine AOR.step (@LT.callF Try.prog _ _ 90 _ _ [(.agg [(iC f.Graph.Points), (.pv (.xs false (f.Graph.Bars.map encTBar))), (.pv (.xs false (f.Places.map encTPlace)))])] _ _ [] _ _ _ _ ((show Fw.Fn Try.prog 90 [(.agg [(iC f.Graph.Points), (.pv (.xs false (f.Graph.Bars.map encTBar))), (.pv (.xs false (f.Places.map encTPlace)))])] [] (.s (.c (.loc 23 0 r1.length))) [(23, (.trow 37 24 (lensOf r1))), (24, (.pool 3 (rowsOf encInt r1)))] [] [23, 24] from Fw.Fn.ren [(0, 23), (1, 24)] (w_spec_l13Turned f r1 hr1) rfl)) rfl cb90 (.cons (.agg (.cons (.same rfl) (.cons (.same rfl) (.cons (.same rfl) .nil)))) .nil) rfl rfl trivial) ⟨rfl, rfl, trivial⟩ trivial rfl rfl ?_
  refine AOR.pure (LT.assign (v := (.s (.c (.loc 23 0 r1.length)))) rfl) ⟨rfl, trivial⟩ trivial rfl rfl ?_
  refine AOR.nil ?_
  refine AWR.seq ?_
  refine AWR.seq ?_
  refine AWR.region ?_
  refine AOR.pure (LT.assign (v := (.s (.c (iC 0)))) rfl) ⟨⟨rfl, rfl⟩, trivial⟩ trivial rfl rfl ?_
  refine AOR.nil ?_
  refine AWR.block ?_
  refine AWR.loop1 (id := 0) (m_spec_l13Solve_L1 load) (fun s2 => ([(1, (.s (.c (.pv (.xs false (load.map encInt)))))), (2, (.s (.c (.pl 21 0)))), (5, (.s (.c (.loc 23 0 s2.2.length)))), (6, (.s (.c (iC s2.1))))], [(21, (.row 29 [[(iC f.Graph.Points), (.pv (.xs false (f.Graph.Bars.map encTBar))), (.pv (.xs false (f.Places.map encTPlace)))]])), (23, (.trow 37 24 (lensOf s2.2))), (24, (.pool 3 (rowsOf encInt s2.2)))])) (fun b25 => ([(2, (.s (.c (.pl 21 0)))), (5, (.s (.c (.loc 23 0 b25.length))))], [(21, (.row 29 [[(iC f.Graph.Points), (.pv (.xs false (f.Graph.Bars.map encTBar))), (.pv (.xs false (f.Places.map encTPlace)))]])), (23, (.trow 37 24 (lensOf b25))), (24, (.pool 3 (rowsOf encInt b25)))])) ?_ (Ent.of ⟨rfl, rfl, rfl, rfl, trivial⟩ ⟨rfl, rfl, rfl, trivial⟩) rfl (fun b25 _ => ?_)
  · intro s2
    unfold m_spec_l13Solve_L1
    refine AWR.seq ?_
    refine AWR.seq ?_
    refine AWR.region ?_
    refine AOR.pure (LT.move (v := (.s (.c (iC s2.1)))) rfl) ⟨rfl, trivial⟩ trivial rfl rfl ?_
    refine AOR.pure (LT.move (v := (.s (.c (.pv (.xs false (load.map encInt)))))) rfl) ⟨rfl, trivial⟩ trivial rfl rfl ?_
    refine AOR.pure (LT.tlenRO rfl und37) ⟨rfl, trivial⟩ trivial rfl rfl ?_
    refine AOR.pure (LT.lss rfl) ⟨rfl, rfl, trivial⟩ trivial rfl rfl ?_
    refine AOR.nil ?_
    refine AWR.cond rfl (fun hc26 => ?_) (fun hc26 => ?_)
    · refine AWR.skip ?_
      refine AWR.seq ?_
      refine AWR.block ?_
      refine AWR.seq ?_
      refine AWR.seq ?_
      refine AWR.region ?_
      refine AOR.pure (LT.move (v := (.s (.c (.loc 23 0 s2.2.length)))) rfl) ⟨rfl, trivial⟩ trivial rfl rfl ?_
      refine AOR.pure (LT.lenLoc rfl und31) ⟨rfl, trivial⟩ trivial rfl rfl ?_
      refine AOR.pure (LT.move (v := (.s (.c (iC s2.1)))) rfl) ⟨rfl, trivial⟩ trivial rfl rfl ?_
      refine AOR.pure (LT.leq rfl) ⟨rfl, rfl, trivial⟩ trivial rfl rfl ?_
      refine AOR.nil ?_
      refine AWR.joinK (fun j29 => ([(1, (.s (.c (.pv (.xs false (load.map encInt)))))), (2, (.s (.c (.pl 21 0)))), (5, (.s (.c (.loc 23 0 j29.length)))), (6, (.s (.c (iC s2.1))))], [(21, (.row 29 [[(iC f.Graph.Points), (.pv (.xs false (f.Graph.Bars.map encTBar))), (.pv (.xs false (f.Places.map encTPlace)))]])), (23, (.trow 37 24 (lensOf j29))), (24, (.pool 3 (rowsOf encInt j29)))])) ?_ (fun j29 _ => ?_)
      · refine AWR.cond rfl (fun hc30 => ?_) (fun hc30 => ?_)
        · refine AWR.region ?_
          refine AOR.pure (LT.move (v := (.s (.c (.loc 23 0 s2.2.length)))) rfl) ⟨rfl, trivial⟩ trivial rfl rfl ?_
          refine AOR.step (LT.tbuildSlice (n := 25) (enc := encInt) [] ([] : List Int) rfl rfl und37 ti3 rfl rfl rfl rfl (by decide) (fun _ => rfl) rfl) trivial trivial rfl rfl ?_
          refine AOR.step (LT.buildSlice (n := 26) (els := [[(.loc 25 0 ([] : List Int).length)]]) [(0, .tmp 20, (.c (.loc 25 0 ([] : List Int).length)))] rfl rfl und31 ti37 rfl rfl rfl rfl (by decide) rfl rfl) ⟨rfl, trivial⟩ trivial rfl rfl ?_
          refine AOR.bind fun u31 hu31 => ?_
          refine AOR.step (LT.xapp rfl rfl rfl und31 ti37 rfl (by decide) (by decide) rfl (lim_le hu31)) ⟨rfl, rfl, trivial⟩ ⟨rfl, rfl, trivial⟩ rfl rfl ?_
          refine AOR.pure (LT.assign (v := (.s (.c (.loc 23 0 (s2.2.length + 1))))) rfl) ⟨rfl, trivial⟩ trivial rfl rfl ?_
          refine AOR.nil ?_
          refine AWR.ent (Ent.tadopt (enc := encInt) (n := 23) (m := 25) (p := 24) (rows := s2.2) (r := ([] : List Int)) (rest := []) rfl rfl rfl rfl rfl rfl) ?_
          refine AWR.ent (Ent.trow (n := 23) (p := 24) (lens := lensOf (s2.2 ++ [([] : List Int)])) (List.append_nil _) rfl) ?_
          refine AWR.nil ⟨rfl, Ent.of ⟨rfl, rfl, (congrArg (fun l1 => (some (AV.s (.c (.loc 23 0 l1))) : Option AV)) (show (s2.2.length + 1) = (s2.2 ++ [([] : List Int)]).length from len_snoc)), rfl, trivial⟩ ⟨rfl, rfl, rfl, trivial⟩⟩
        · refine AWR.skip ?_
          refine AWR.nil ⟨rfl, Ent.of ⟨rfl, rfl, rfl, rfl, trivial⟩ ⟨rfl, rfl, rfl, trivial⟩⟩
      · refine AWR.draw mixed ?_
        refine AOD.pure (LT.move (v := (.s (.c (.loc 23 0 j29.length)))) rfl) ⟨rfl, trivial⟩ trivial rfl rfl ?_
        refine AOD.pure (LT.move (v := (.s (.c (iC s2.1)))) rfl) ⟨rfl, trivial⟩ trivial rfl rfl ?_
        refine AOD.step (LT.tbuildSlice (n := 27) (enc := encInt) [] ([] : List Int) rfl rfl und37 ti3 rfl rfl rfl rfl (by decide) (fun _ => rfl) rfl) trivial trivial rfl rfl ?_
        refine AOD.pure (LT.move (v := (.s (.c (.loc 23 0 j29.length)))) rfl) ⟨rfl, trivial⟩ trivial rfl rfl ?_
        refine AOD.pure (LT.move (v := (.s (.c (iC s2.1)))) rfl) ⟨rfl, trivial⟩ trivial rfl rfl ?_
        refine AOD.bind fun x32 hx32 => ?_
        refine AOD.pure (LT.xindex rfl rfl el31 hx32) ⟨rfl, rfl, trivial⟩ ⟨rfl, trivial⟩ rfl rfl ?_
        refine AOD.pure (LT.xload rfl ag37 hx32 rfl) ⟨rfl, trivial⟩ ⟨rfl, trivial⟩ rfl rfl ?_
        refine AOD.bind fun u33 hu33 => ?_
        refine AOD.step (LT.tfocusR (p := 24) (k := s2.1.toNat) (m := 28) (enc := encInt) (rows := j29) (LT.us_swap (LT.tappP (n := 27) (n2 := 28) (enc := encInt) rfl rfl rfl und37 ti3 rfl (by decide) (by decide) (fun _ => rfl) (lim_le hu33))) (idx_get hx32) rfl) ⟨rfl, rfl, trivial⟩ ⟨rfl, rfl, trivial⟩ rfl rfl ?_
        refine AOD.pure (LT.move (v := (.s (.c (.pv (.xs false (load.map encInt)))))) rfl) ⟨rfl, trivial⟩ trivial rfl rfl ?_
        refine AOD.pure (LT.move (v := (.s (.c (iC s2.1)))) rfl) ⟨rfl, trivial⟩ trivial rfl rfl ?_
        refine AOD.bind fun x34 hx34 => ?_
        refine AOD.pure (LT.tindexRO (enc := encInt) rfl el37 hx34 sz3) ⟨rfl, rfl, trivial⟩ trivial rfl rfl ?_
        refine AOD.pure (LT.loadPx1 rfl ag3) ⟨rfl, trivial⟩ trivial rfl rfl ?_
        refine AOD.step (LT.tbuildSlice (n := 29) (enc := encInt) [(0, .tmp 34, (.c (iC x34)))] ([x34] : List Int) rfl rfl und37 ti3 rfl rfl rfl rfl (by decide) (fun _ => rfl) rfl) ⟨rfl, trivial⟩ trivial rfl rfl ?_
        refine AOD.bind fun u35 hu35 => ?_
        refine AOD.step (LT.tappP (enc := encInt) rfl rfl rfl und37 ti3 rfl (by decide) (by decide) (fun _ => rfl) (lim_le hu35)) ⟨rfl, rfl, trivial⟩ ⟨rfl, rfl, trivial⟩ rfl rfl ?_
        refine AOD.bind fun x36 hx36 => ?_
        refine AOD.pure (LT.xindex rfl rfl el31 hx36) ⟨rfl, rfl, trivial⟩ ⟨rfl, trivial⟩ rfl rfl ?_
        refine AOD.step (LT.xstore (e := 37) (p := 24) rfl rfl (infS inf37) sz37 hx36 rfl) ⟨rfl, rfl, trivial⟩ ⟨rfl, trivial⟩ rfl rfl ?_
        refine AOD.nil (by kernel_rfl) ?_
        refine AWR.ent (Ent.tadoptAt (enc := encInt) (n := 23) (m := 27) (p := 24) (k := s2.1.toNat) (rows := j29) (r := ((([] : List Int) ++ x32) ++ ([x34] : List Int))) rfl (List.getElem?_eq_some_iff.1 (idx_get hx36)).1 rfl rfl rfl rfl) ?_
        refine AWR.ent (Ent.trow (n := 23) (p := 24) (lens := lensOf (j29.set s2.1.toNat ((([] : List Int) ++ x32) ++ ([x34] : List Int)))) rfl rfl) ?_
        refine AWR.blk ?_
        refine AWR.region ?_
        refine AOR.pure (LT.move (v := (.s (.c (iC s2.1)))) rfl) ⟨rfl, trivial⟩ trivial rfl rfl ?_
        refine AOR.pure (LT.add rfl) ⟨rfl, ⟨rfl, rfl⟩, trivial⟩ trivial rfl rfl ?_
        refine AOR.pure (LT.assign (v := (.s (.c (iC (w64 (s2.1 + 1)))))) rfl) ⟨rfl, trivial⟩ trivial rfl rfl ?_
        refine AOR.nil ?_
        refine AWR.nil ⟨rfl, Ent.of ⟨rfl, rfl, (congrArg (fun l1 => (some (AV.s (.c (.loc 23 0 l1))) : Option AV)) (show j29.length = (j29.set s2.1.toNat ((([] : List Int) ++ x32) ++ ([x34] : List Int))).length by simp only [List.length_set])), rfl, trivial⟩ ⟨rfl, rfl, rfl, trivial⟩⟩
    · refine AWR.exit_end rfl ⟨rfl, Ent.of ⟨rfl, rfl, trivial⟩ ⟨rfl, rfl, rfl, trivial⟩⟩
  · refine AWR.seq ?_
    refine AWR.region ?_
    refine AOR.pure (LT.move (v := (.s (.c (.loc 23 0 b25.length)))) rfl) ⟨rfl, trivial⟩ trivial rfl rfl ?_
    refine AOR.pure (LT.fieldPl rfl fo29_0) ⟨rfl, trivial⟩ trivial rfl rfl ?_
    refine AOR.pure (LT.fieldPl rfl fo26_1) ⟨rfl, trivial⟩ trivial rfl rfl ?_
    refine AOR.pure (LT.bload1 (c := (.pv (.xs false (f.Graph.Bars.map encTBar)))) rfl ag24 (by exact rfl)) ⟨rfl, trivial⟩ ⟨rfl, trivial⟩ rfl rfl ?_
    refine AOR.pure (LT.tlenRO rfl und24) ⟨rfl, trivial⟩ trivial rfl rfl ?_
    refine AOR.pure (LT.add rfl) ⟨rfl, ⟨rfl, rfl⟩, trivial⟩ trivial rfl rfl ?_
    refine AOR.bind fun r37 hr37 => ?_
    refine AOR.step (@LT.callF Try.prog _ _ 89 _ _ [(.c (.loc 23 0 b25.length)), (.c (iC (w64 ((f.Graph.Bars.length : Int) + 1))))] _ _ [(23, (.trow 37 24 (lensOf b25))), (24, (.pool 3 (rowsOf encInt b25)))] _ _ _ _ ((show Fw.Fn Try.prog 89 [(.c (.pv (.xs false (b25.map (encLInt false))))), (.c (iC (w64 ((f.Graph.Bars.length : Int) + 1))))] [] (.s (.c (.loc 31 0 r37.length))) [(31, (.prow 37 (r37.map (encLInt true))))] [] [31] from Fw.Fn.ren [(0, 31)] (w_spec_l9Null b25 (w64 ((f.Graph.Bars.length : Int) + 1)) r37 hr37) rfl)) rfl cb89 (.cons (.c (.ttrow rfl rfl rfl (fun _ => rfl))) (.cons (.c (.same rfl)) .nil)) rfl rfl trivial) ⟨rfl, rfl, rfl, trivial⟩ ⟨rfl, rfl, trivial⟩ rfl rfl ?_
    refine AOR.pure (LT.assign (v := (.s (.c (.loc 31 0 r37.length)))) rfl) ⟨rfl, trivial⟩ trivial rfl rfl ?_
    refine AOR.nil ?_
    refine AWR.ent (Ent.of (σ' := [(4, (.s (.c (.loc 31 0 r37.length))))]) (m' := [(31, (.prow 37 (r37.map (encLInt true))))]) ⟨rfl, trivial⟩ ⟨rfl, trivial⟩) ?_
    refine AWR.ent (Ent.mv 31 0 rfl rfl) ?_
    refine AWR.ent (Ent.of (σ' := [(4, (.s (.c (.loc 0 0 r37.length))))]) (m' := [(0, (.prow 37 (r37.map (encLInt true))))]) ⟨rfl, trivial⟩ ⟨rfl, trivial⟩) ?_
    refine AWR.ret (FPost.mk (.inr rfl) ⟨rfl, trivial⟩ ⟨rfl, trivial⟩ rfl ⟨trivial, trivial⟩ ⟨PermO.prow' perm_encLInt, trivial⟩)
set_option maxRecDepth 100000 in
set_option maxHeartbeats 8000000 in
theorem w_spec_BearingForces (f : TFramework) (load : (List Int)) : ∀ t, m_spec_BearingForces f load = some t → Fw.Fn Try.prog 24 [(.agg [(iC f.Graph.Points), (.pv (.xs false (f.Graph.Bars.map encTBar))), (.pv (.xs false (f.Places.map encTPlace)))]), (.c (.pv (.xs false (load.map encInt))))] [] (resA [(.c (.loc 0 0 t.1.length)), (.c (iC t.2.1)), (.c (bC t.2.2))]) [(0, (.prow 3 (t.1.map encInt)))] [] [0] := by
  refine Fw.Fn.of (P := Try.prog) (X := [0]) (pn := []) (rs := (fun (t : ((List Int) × Int × Bool)) => [(.c (.loc 0 0 t.1.length)), (.c (iC t.2.1)), (.c (bC t.2.2))])) (dfs := (fun (t : ((List Int) × Int × Bool)) => [(0, (.prow 3 (t.1.map encInt)))])) Try.func24 rfl Try.ntmps24 (Nat.le_of_ble_eq_true rfl) rfl ?_
  intro w0 U0 R0 g0
  unfold m_spec_BearingForces
  refine AWR.seq ?_
  refine AWR.region ?_
  refine AOR.step (LT.box (n := 21) (v := (.agg [(iC f.Graph.Points), (.pv (.xs false (f.Graph.Bars.map encTBar))), (.pv (.xs false (f.Places.map encTPlace)))])) rfl sz29 (by exact rfl)) ⟨rfl, trivial⟩ trivial rfl rfl ?_
  refine AOR.pure (LT.assign (v := (.s (.c (sC nilV)))) rfl) ⟨⟨rfl, rfl⟩, trivial⟩ trivial rfl rfl ?_
  refine AOR.pure (LT.assign (v := (.s (.c (iC 0)))) rfl) ⟨⟨rfl, rfl⟩, trivial⟩ trivial rfl rfl ?_
  refine AOR.pure (LT.assign (v := (.s (.c (bC false)))) rfl) ⟨⟨rfl, rfl⟩, trivial⟩ trivial rfl rfl ?_
  refine AOR.nil ?_
  refine AWR.seq ?_
  refine AWR.seq ?_
  refine AWR.region ?_
  refine AOR.pure (LT.bloadN (out := [(iC f.Graph.Points), (.pv (.xs false (f.Graph.Bars.map encTBar))), (.pv (.xs false (f.Places.map encTPlace)))]) rfl ag29 (infS inf29) sz29 (by exact rfl) (by exact rfl)) ⟨rfl, trivial⟩ ⟨rfl, trivial⟩ rfl rfl ?_
  refine AOR.pure (LT.move (v := (.s (.c (.pv (.xs false (load.map encInt)))))) rfl) ⟨rfl, trivial⟩ trivial rfl rfl ?_
  refine AOR.bind fun r1 hr1 => ?_
  refine AOR.pure (@LT.callF Try.prog _ _ 97 _ _ [(.agg [(iC f.Graph.Points), (.pv (.xs false (f.Graph.Bars.map encTBar))), (.pv (.xs false (f.Places.map encTPlace)))]), (.c (.pv (.xs false (load.map encInt))))] _ _ [] _ _ _ _ (w_spec_l13Load f load r1 hr1) rfl cb97 (.cons (.agg (.cons (.same rfl) (.cons (.same rfl) (.cons (.same rfl) .nil)))) (.cons (.c (.same rfl)) .nil)) rfl rfl trivial) ⟨rfl, rfl, rfl, trivial⟩ trivial rfl rfl ?_
  refine AOR.pure (LT.not rfl) ⟨rfl, trivial⟩ trivial rfl rfl ?_
  refine AOR.nil ?_
  refine AWR.cond rfl (fun hc2 => ?_) (fun hc2 => ?_)
  · refine AWR.seq ?_
    refine AWR.region ?_
    refine AOR.step (LT.tbuildSlice (n := 23) (enc := encInt) [] ([] : List Int) rfl rfl und37 ti3 rfl rfl rfl rfl (by decide) (fun _ => rfl) rfl) trivial trivial rfl rfl ?_
    refine AOR.pure (LT.assign (v := (.s (.c (.loc 23 0 ([] : List Int).length)))) rfl) ⟨rfl, trivial⟩ trivial rfl rfl ?_
    refine AOR.pure (LT.assign (v := (.s (.c (iC 0)))) rfl) ⟨⟨rfl, rfl⟩, trivial⟩ trivial rfl rfl ?_
    refine AOR.pure (LT.assign (v := (.s (.c (bC false)))) rfl) ⟨⟨rfl, rfl⟩, trivial⟩ trivial rfl rfl ?_
    refine AOR.nil ?_
    refine AWR.ent (Ent.of (σ' := [(4, (.s (.c (.loc 23 0 ([] : List Int).length)))), (5, (.s (.c (iC 0)))), (6, (.s (.c (bC false))))]) (m' := [(23, (.prow 3 (([] : List Int).map encInt)))]) ⟨rfl, rfl, rfl, trivial⟩ ⟨rfl, trivial⟩) ?_
    refine AWR.ent (Ent.mv 23 0 rfl rfl) ?_
    refine AWR.ent (Ent.of (σ' := [(4, (.s (.c (.loc 0 0 ([] : List Int).length)))), (5, (.s (.c (iC 0)))), (6, (.s (.c (bC false))))]) (m' := [(0, (.prow 3 (([] : List Int).map encInt)))]) ⟨rfl, rfl, rfl, trivial⟩ ⟨rfl, trivial⟩) ?_
    refine AWR.ret (FPost.mk (.inr rfl) ⟨rfl, rfl, rfl, trivial⟩ ⟨rfl, trivial⟩ rfl ⟨trivial, PermP.sc, PermP.sc, trivial⟩ ⟨PermO.prow' perm_encInt, trivial⟩)
  · refine AWR.skip ?_
    refine AWR.seq ?_
    refine AWR.region ?_
    refine AOR.pure (LT.bloadN (out := [(iC f.Graph.Points), (.pv (.xs false (f.Graph.Bars.map encTBar))), (.pv (.xs false (f.Places.map encTPlace)))]) rfl ag29 (infS inf29) sz29 (by exact rfl) (by exact rfl)) ⟨rfl, trivial⟩ ⟨rfl, trivial⟩ rfl rfl ?_
    refine AOR.pure (LT.move (v := (.s (.c (.pv (.xs false (load.map encInt)))))) rfl) ⟨rfl, trivial⟩ trivial rfl rfl ?_
    refine AOR.bind fun r3 hr3 => ?_
    refine AOR.step (@LT.callF Try.prog _ _ 98 _ _ [(.agg [(iC f.Graph.Points), (.pv (.xs false (f.Graph.Bars.map encTBar))), (.pv (.xs false (f.Places.map encTPlace)))]), (.c (.pv (.xs false (load.map encInt))))] _ _ [] _ _ _ _ ((show Fw.Fn Try.prog 98 [(.agg [(iC f.Graph.Points), (.pv (.xs false (f.Graph.Bars.map encTBar))), (.pv (.xs false (f.Places.map encTPlace)))]), (.c (.pv (.xs false (load.map encInt))))] [] (.s (.c (.loc 25 0 r3.length))) [(25, (.prow 37 (r3.map (encLInt true))))] [] [25] from Fw.Fn.ren [(0, 25)] (w_spec_l13Solve f load r3 hr3) rfl)) rfl cb98 (.cons (.agg (.cons (.same rfl) (.cons (.same rfl) (.cons (.same rfl) .nil)))) (.cons (.c (.same rfl)) .nil)) rfl rfl trivial) ⟨rfl, rfl, rfl, trivial⟩ trivial rfl rfl ?_
    refine AOR.pure (LT.assign (v := (.s (.c (.loc 25 0 r3.length)))) rfl) ⟨rfl, trivial⟩ trivial rfl rfl ?_
    refine AOR.nil ?_
    refine AWR.seq ?_
    refine AWR.ent (Ent.of (σ' := [(2, (.s (.c (.pl 21 0)))), (7, (.s (.c (.loc 25 0 r3.length))))]) (m' := [(21, (.row 29 [[(iC f.Graph.Points), (.pv (.xs false (f.Graph.Bars.map encTBar))), (.pv (.xs false (f.Places.map encTPlace)))]])), (25, (.prow 37 (r3.map (encLInt true))))]) ⟨rfl, rfl, trivial⟩ ⟨rfl, rfl, trivial⟩) ?_
    refine AWR.region ?_
    refine AOR.pure (LT.fieldPl rfl fo29_0) ⟨rfl, trivial⟩ trivial rfl rfl ?_
    refine AOR.pure (LT.fieldPl rfl fo26_1) ⟨rfl, trivial⟩ trivial rfl rfl ?_
    refine AOR.pure (LT.bload1 (c := (.pv (.xs false (f.Graph.Bars.map encTBar)))) rfl ag24 (by exact rfl)) ⟨rfl, trivial⟩ ⟨rfl, trivial⟩ rfl rfl ?_
    refine AOR.pure (LT.tlenRO rfl und24) ⟨rfl, trivial⟩ trivial rfl rfl ?_
    refine AOR.pure (LT.assign (v := (.s (.c (iC (f.Graph.Bars.length : Int))))) rfl) ⟨rfl, trivial⟩ trivial rfl rfl ?_
    refine AOR.nil ?_
    refine AWR.seq ?_
    refine AWR.seq ?_
    refine AWR.region ?_
    refine AOR.pure (LT.assign (v := (.s (.c (iC 0)))) rfl) ⟨⟨rfl, rfl⟩, trivial⟩ trivial rfl rfl ?_
    refine AOR.nil ?_
    refine AWR.block ?_
    refine AWR.loopR (id := 0) (m_spec_BearingForces_L3 f r3) (fun s4 => ([(7, (.s (.c (.loc 25 0 r3.length)))), (8, (.s (.c (iC (f.Graph.Bars.length : Int))))), (9, (.s (.c (iC s4))))], [(25, (.prow 37 (r3.map (encLInt true))))])) (fun b81 => ([], [])) (FPost Try.prog Try.f24.results.toList [] [0] (fun (t : ((List Int) × Int × Bool)) => [(.c (.loc 0 0 t.1.length)), (.c (iC t.2.1)), (.c (bC t.2.2))]) (fun (t : ((List Int) × Int × Bool)) => [(0, (.prow 3 (t.1.map encInt)))])) ?_ (Ent.of ⟨rfl, rfl, rfl, trivial⟩ ⟨rfl, trivial⟩) rfl (fun b81 _ => ?_) (by intro r t σ m ht hk; injection ht with ht; subst ht; exact hk)
    · intro s4
      unfold m_spec_BearingForces_L3
      refine AWR.seq ?_
      refine AWR.seq ?_
      refine AWR.region ?_
      refine AOR.pure (LT.move (v := (.s (.c (iC s4)))) rfl) ⟨rfl, trivial⟩ trivial rfl rfl ?_
      refine AOR.pure (LT.move (v := (.s (.c (.loc 25 0 r3.length)))) rfl) ⟨rfl, trivial⟩ trivial rfl rfl ?_
      refine AOR.pure (LT.lenLoc rfl und31) ⟨rfl, trivial⟩ trivial rfl rfl ?_
      refine AOR.pure (LT.lss rfl) ⟨rfl, rfl, trivial⟩ trivial rfl rfl ?_
      refine AOR.nil ?_
      refine AWR.cond rfl (fun hc82 => ?_) (fun hc82 => ?_)
      · refine AWR.skip ?_
        refine AWR.seq ?_
        refine AWR.block ?_
        refine AWR.seq ?_
        refine AWR.region ?_
        refine AOR.pure (LT.move (v := (.s (.c (.loc 25 0 r3.length)))) rfl) ⟨rfl, trivial⟩ trivial rfl rfl ?_
        refine AOR.pure (LT.move (v := (.s (.c (iC s4)))) rfl) ⟨rfl, trivial⟩ trivial rfl rfl ?_
        refine AOR.bind fun x83 hx83 => ?_
        refine AOR.pure (LT.tindexLoc rfl rfl el31 hx83) ⟨rfl, rfl, trivial⟩ ⟨rfl, trivial⟩ rfl rfl ?_
        refine AOR.pure (LT.tload1 (k := 0) rfl ag37 hx83 (by exact rfl) (by exact rfl)) ⟨rfl, trivial⟩ ⟨rfl, trivial⟩ rfl rfl ?_
        refine AOR.pure (LT.move (v := (.s (.c (iC (f.Graph.Bars.length : Int))))) rfl) ⟨rfl, trivial⟩ trivial rfl rfl ?_
        refine AOR.bind fun x84 hx84 => ?_
        refine AOR.pure (LT.tindexRO (enc := encInt) rfl el37 hx84 sz3) ⟨rfl, rfl, trivial⟩ trivial rfl rfl ?_
        refine AOR.pure (LT.loadPx1 rfl ag3) ⟨rfl, trivial⟩ trivial rfl rfl ?_
        refine AOR.pure (LT.assign (v := (.s (.c (iC x84)))) rfl) ⟨rfl, trivial⟩ trivial rfl rfl ?_
        refine AOR.nil ?_
        refine AWR.seq ?_
        refine AWR.seq ?_
        refine AWR.ent (Ent.of (σ' := [(7, (.s (.c (.loc 25 0 r3.length)))), (8, (.s (.c (iC (f.Graph.Bars.length : Int))))), (9, (.s (.c (iC s4)))), (10, (.s (.c (iC x84))))]) (m' := [(25, (.prow 37 (r3.map (encLInt true))))]) ⟨rfl, rfl, rfl, rfl, trivial⟩ ⟨rfl, trivial⟩) ?_
        refine AWR.region ?_
        refine AOR.pure (LT.move (v := (.s (.c (iC x84)))) rfl) ⟨rfl, trivial⟩ trivial rfl rfl ?_
        refine AOR.pure (LT.eql rfl) ⟨rfl, ⟨rfl, rfl⟩, trivial⟩ trivial rfl rfl ?_
        refine AOR.nil ?_
        refine AWR.cond rfl (fun hc85 => ?_) (fun hc85 => ?_)
        · refine AWR.exit rfl ?_
          refine AWR.region ?_
          refine AOR.pure (LT.move (v := (.s (.c (iC s4)))) rfl) ⟨rfl, trivial⟩ trivial rfl rfl ?_
          refine AOR.pure (LT.add rfl) ⟨rfl, ⟨rfl, rfl⟩, trivial⟩ trivial rfl rfl ?_
          refine AOR.pure (LT.assign (v := (.s (.c (iC (w64 (s4 + 1)))))) rfl) ⟨rfl, trivial⟩ trivial rfl rfl ?_
          refine AOR.nil ?_
          refine AWR.nil ⟨rfl, Ent.of ⟨rfl, rfl, rfl, trivial⟩ ⟨rfl, trivial⟩⟩
        · refine AWR.skip ?_
          refine AWR.seq ?_
          refine AWR.region ?_
          refine AOR.step (LT.tbuildSlice (n := 26) (enc := encInt) [] ([] : List Int) rfl rfl und37 ti3 rfl rfl rfl rfl (by decide) (fun _ => rfl) rfl) trivial trivial rfl rfl ?_
          refine AOR.pure (LT.assign (v := (.s (.c (.loc 26 0 ([] : List Int).length)))) rfl) ⟨rfl, trivial⟩ trivial rfl rfl ?_
          refine AOR.nil ?_
          refine AWR.seq ?_
          refine AWR.seq ?_
          refine AWR.region ?_
          refine AOR.pure (LT.assign (v := (.s (.c (iC 0)))) rfl) ⟨⟨rfl, rfl⟩, trivial⟩ trivial rfl rfl ?_
          refine AOR.nil ?_
          refine AWR.block ?_
          refine AWR.loop1 (id := 2) (m_spec_BearingForces_L4 f r3 s4 x84) (fun s86 => ([(7, (.s (.c (.loc 25 0 r3.length)))), (8, (.s (.c (iC (f.Graph.Bars.length : Int))))), (9, (.s (.c (iC s4)))), (10, (.s (.c (iC x84)))), (11, (.s (.c (.loc 26 0 s86.2.length)))), (12, (.s (.c (iC s86.1))))], [(25, (.prow 37 (r3.map (encLInt true)))), (26, (.prow 3 (s86.2.map encInt)))])) (fun b119 => ([(10, (.s (.c (iC b119.1)))), (11, (.s (.c (.loc 26 0 b119.2.length))))], [(26, (.prow 3 (b119.2.map encInt)))])) ?_ (Ent.of ⟨rfl, rfl, rfl, rfl, rfl, rfl, trivial⟩ ⟨rfl, rfl, trivial⟩) rfl (fun b119 _ => ?_)
          · intro s86
            unfold m_spec_BearingForces_L4
            refine AWR.seq ?_
            refine AWR.seq ?_
            refine AWR.region ?_
            refine AOR.pure (LT.move (v := (.s (.c (iC s86.1)))) rfl) ⟨rfl, trivial⟩ trivial rfl rfl ?_
            refine AOR.pure (LT.move (v := (.s (.c (iC (f.Graph.Bars.length : Int))))) rfl) ⟨rfl, trivial⟩ trivial rfl rfl ?_
            refine AOR.pure (LT.lss rfl) ⟨rfl, rfl, trivial⟩ trivial rfl rfl ?_
            refine AOR.nil ?_
            refine AWR.cond rfl (fun hc120 => ?_) (fun hc120 => ?_)
            · refine AWR.skip ?_
              refine AWR.seq ?_
              refine AWR.block ?_
              refine AWR.seq ?_
              refine AWR.region ?_
              refine AOR.pure (LT.move (v := (.s (.c (iC x84)))) rfl) ⟨rfl, trivial⟩ trivial rfl rfl ?_
              refine AOR.pure (LT.gtr rfl) ⟨rfl, ⟨rfl, rfl⟩, trivial⟩ trivial rfl rfl ?_
              refine AOR.nil ?_
              refine AWR.joinK (fun j128 => ([(7, (.s (.c (.loc 25 0 r3.length)))), (8, (.s (.c (iC (f.Graph.Bars.length : Int))))), (9, (.s (.c (iC s4)))), (10, (.s (.c (iC x84)))), (11, (.s (.c (.loc 26 0 j128.length)))), (12, (.s (.c (iC s86.1))))], [(25, (.prow 37 (r3.map (encLInt true)))), (26, (.prow 3 (j128.map encInt)))])) ?_ (fun j128 _ => ?_)
              · refine AWR.cond rfl (fun hc129 => ?_) (fun hc129 => ?_)
                · refine AWR.region ?_
                  refine AOR.pure (LT.move (v := (.s (.c (.loc 26 0 s86.2.length)))) rfl) ⟨rfl, trivial⟩ trivial rfl rfl ?_
                  refine AOR.pure (LT.move (v := (.s (.c (.loc 25 0 r3.length)))) rfl) ⟨rfl, trivial⟩ trivial rfl rfl ?_
                  refine AOR.pure (LT.move (v := (.s (.c (iC s4)))) rfl) ⟨rfl, trivial⟩ trivial rfl rfl ?_
                  refine AOR.bind fun x130 hx130 => ?_
                  refine AOR.pure (LT.tindexLoc rfl rfl el31 hx130) ⟨rfl, rfl, trivial⟩ ⟨rfl, trivial⟩ rfl rfl ?_
                  refine AOR.pure (LT.tload1 (k := 0) rfl ag37 hx130 (by exact rfl) (by exact rfl)) ⟨rfl, trivial⟩ ⟨rfl, trivial⟩ rfl rfl ?_
                  refine AOR.pure (LT.move (v := (.s (.c (iC s86.1)))) rfl) ⟨rfl, trivial⟩ trivial rfl rfl ?_
                  refine AOR.bind fun x131 hx131 => ?_
                  refine AOR.pure (LT.tindexRO (enc := encInt) rfl el37 hx131 sz3) ⟨rfl, rfl, trivial⟩ trivial rfl rfl ?_
                  refine AOR.pure (LT.loadPx1 rfl ag3) ⟨rfl, trivial⟩ trivial rfl rfl ?_
                  refine AOR.pure (LT.neg rfl) ⟨rfl, trivial⟩ trivial rfl rfl ?_
                  refine AOR.step (LT.tbuildSlice (n := 27) (enc := encInt) [(0, .tmp 56, (.c (iC (w64 (-x131)))))] ([(w64 (-x131))] : List Int) rfl rfl und37 ti3 rfl rfl rfl rfl (by decide) (fun _ => rfl) rfl) ⟨rfl, trivial⟩ trivial rfl rfl ?_
                  refine AOR.bind fun u132 hu132 => ?_
                  refine AOR.step (LT.tappP (enc := encInt) rfl rfl rfl und37 ti3 rfl (by decide) (by decide) (fun _ => rfl) (lim_le hu132)) ⟨rfl, rfl, trivial⟩ ⟨rfl, rfl, trivial⟩ rfl rfl ?_
                  refine AOR.pure (LT.assign (v := (.s (.c (.loc 26 0 (s86.2 ++ ([(w64 (-x131))] : List Int)).length)))) rfl) ⟨rfl, trivial⟩ trivial rfl rfl ?_
                  refine AOR.nil ?_
                  refine AWR.nil ⟨rfl, Ent.of ⟨rfl, rfl, rfl, rfl, rfl, rfl, trivial⟩ ⟨rfl, rfl, trivial⟩⟩
                · refine AWR.region ?_
                  refine AOR.pure (LT.move (v := (.s (.c (.loc 26 0 s86.2.length)))) rfl) ⟨rfl, trivial⟩ trivial rfl rfl ?_
                  refine AOR.pure (LT.move (v := (.s (.c (.loc 25 0 r3.length)))) rfl) ⟨rfl, trivial⟩ trivial rfl rfl ?_
                  refine AOR.pure (LT.move (v := (.s (.c (iC s4)))) rfl) ⟨rfl, trivial⟩ trivial rfl rfl ?_
                  refine AOR.bind fun x133 hx133 => ?_
                  refine AOR.pure (LT.tindexLoc rfl rfl el31 hx133) ⟨rfl, rfl, trivial⟩ ⟨rfl, trivial⟩ rfl rfl ?_
                  refine AOR.pure (LT.tload1 (k := 0) rfl ag37 hx133 (by exact rfl) (by exact rfl)) ⟨rfl, trivial⟩ ⟨rfl, trivial⟩ rfl rfl ?_
                  refine AOR.pure (LT.move (v := (.s (.c (iC s86.1)))) rfl) ⟨rfl, trivial⟩ trivial rfl rfl ?_
                  refine AOR.bind fun x134 hx134 => ?_
                  refine AOR.pure (LT.tindexRO (enc := encInt) rfl el37 hx134 sz3) ⟨rfl, rfl, trivial⟩ trivial rfl rfl ?_
                  refine AOR.pure (LT.loadPx1 rfl ag3) ⟨rfl, trivial⟩ trivial rfl rfl ?_
                  refine AOR.step (LT.tbuildSlice (n := 28) (enc := encInt) [(0, .tmp 66, (.c (iC x134)))] ([x134] : List Int) rfl rfl und37 ti3 rfl rfl rfl rfl (by decide) (fun _ => rfl) rfl) ⟨rfl, trivial⟩ trivial rfl rfl ?_
                  refine AOR.bind fun u135 hu135 => ?_
                  refine AOR.step (LT.tappP (enc := encInt) rfl rfl rfl und37 ti3 rfl (by decide) (by decide) (fun _ => rfl) (lim_le hu135)) ⟨rfl, rfl, trivial⟩ ⟨rfl, rfl, trivial⟩ rfl rfl ?_
                  refine AOR.pure (LT.assign (v := (.s (.c (.loc 26 0 (s86.2 ++ ([x134] : List Int)).length)))) rfl) ⟨rfl, trivial⟩ trivial rfl rfl ?_
                  refine AOR.nil ?_
                  refine AWR.nil ⟨rfl, Ent.of ⟨rfl, rfl, rfl, rfl, rfl, rfl, trivial⟩ ⟨rfl, rfl, trivial⟩⟩
              · refine AWR.blk ?_
                refine AWR.region ?_
                refine AOR.pure (LT.move (v := (.s (.c (iC s86.1)))) rfl) ⟨rfl, trivial⟩ trivial rfl rfl ?_
                refine AOR.pure (LT.add rfl) ⟨rfl, ⟨rfl, rfl⟩, trivial⟩ trivial rfl rfl ?_
                refine AOR.pure (LT.assign (v := (.s (.c (iC (w64 (s86.1 + 1)))))) rfl) ⟨rfl, trivial⟩ trivial rfl rfl ?_
                refine AOR.nil ?_
                refine AWR.nil ⟨rfl, Ent.of ⟨rfl, rfl, rfl, rfl, rfl, rfl, trivial⟩ ⟨rfl, rfl, trivial⟩⟩
            · refine AWR.exit_end rfl ⟨rfl, Ent.of ⟨rfl, rfl, trivial⟩ ⟨rfl, trivial⟩⟩
          · refine AWR.seq ?_
            refine AWR.region ?_
            refine AOR.pure (LT.move (v := (.s (.c (.loc 26 0 b119.2.length)))) rfl) ⟨rfl, trivial⟩ trivial rfl rfl ?_
            refine AOR.pure (LT.move (v := (.s (.c (iC b119.1)))) rfl) ⟨rfl, trivial⟩ trivial rfl rfl ?_
            refine AOR.pure (LT.move (v := (.s (.c (iC b119.1)))) rfl) ⟨rfl, trivial⟩ trivial rfl rfl ?_
            refine AOR.pure (LT.neg rfl) ⟨rfl, trivial⟩ trivial rfl rfl ?_
            refine AOR.pure (LT.max rfl) ⟨rfl, rfl, trivial⟩ trivial rfl rfl ?_
            refine AOR.pure (LT.assign (v := (.s (.c (.loc 26 0 b119.2.length)))) rfl) ⟨rfl, trivial⟩ trivial rfl rfl ?_
            refine AOR.pure (LT.assign (v := (.s (.c (iC (if b119.1 < (w64 (-b119.1)) then (w64 (-b119.1)) else b119.1))))) rfl) ⟨rfl, trivial⟩ trivial rfl rfl ?_
            refine AOR.pure (LT.assign (v := (.s (.c (bC true)))) rfl) ⟨⟨rfl, rfl⟩, trivial⟩ trivial rfl rfl ?_
            refine AOR.nil ?_
            refine AWR.ent (Ent.of (σ' := [(4, (.s (.c (.loc 26 0 b119.2.length)))), (5, (.s (.c (iC (if b119.1 < (w64 (-b119.1)) then (w64 (-b119.1)) else b119.1))))), (6, (.s (.c (bC true))))]) (m' := [(26, (.prow 3 (b119.2.map encInt)))]) ⟨rfl, rfl, rfl, trivial⟩ ⟨rfl, trivial⟩) ?_
            refine AWR.ent (Ent.mv 26 0 rfl rfl) ?_
            refine AWR.ent (Ent.of (σ' := [(4, (.s (.c (.loc 0 0 b119.2.length)))), (5, (.s (.c (iC (if b119.1 < (w64 (-b119.1)) then (w64 (-b119.1)) else b119.1))))), (6, (.s (.c (bC true))))]) (m' := [(0, (.prow 3 (b119.2.map encInt)))]) ⟨rfl, rfl, rfl, trivial⟩ ⟨rfl, trivial⟩) ?_
            refine AWR.ret ⟨rfl, FPost.mk (.inr rfl) ⟨rfl, rfl, rfl, trivial⟩ ⟨rfl, trivial⟩ rfl ⟨trivial, PermP.sc, PermP.sc, trivial⟩ ⟨PermO.prow' perm_encInt, trivial⟩⟩
      · refine AWR.exit_end rfl ⟨rfl, Ent.of trivial trivial⟩
    · refine AWR.seq ?_
      refine AWR.region ?_
      refine AOR.step (LT.tbuildSlice (n := 29) (enc := encInt) [] ([] : List Int) rfl rfl und37 ti3 rfl rfl rfl rfl (by decide) (fun _ => rfl) rfl) trivial trivial rfl rfl ?_
      refine AOR.pure (LT.assign (v := (.s (.c (.loc 29 0 ([] : List Int).length)))) rfl) ⟨rfl, trivial⟩ trivial rfl rfl ?_
      refine AOR.pure (LT.assign (v := (.s (.c (iC 0)))) rfl) ⟨⟨rfl, rfl⟩, trivial⟩ trivial rfl rfl ?_
      refine AOR.pure (LT.assign (v := (.s (.c (bC false)))) rfl) ⟨⟨rfl, rfl⟩, trivial⟩ trivial rfl rfl ?_
      refine AOR.nil ?_
      refine AWR.ent (Ent.of (σ' := [(4, (.s (.c (.loc 29 0 ([] : List Int).length)))), (5, (.s (.c (iC 0)))), (6, (.s (.c (bC false))))]) (m' := [(29, (.prow 3 (([] : List Int).map encInt)))]) ⟨rfl, rfl, rfl, trivial⟩ ⟨rfl, trivial⟩) ?_
      refine AWR.ent (Ent.mv 29 0 rfl rfl) ?_
      refine AWR.ent (Ent.of (σ' := [(4, (.s (.c (.loc 0 0 ([] : List Int).length)))), (5, (.s (.c (iC 0)))), (6, (.s (.c (bC false))))]) (m' := [(0, (.prow 3 (([] : List Int).map encInt)))]) ⟨rfl, rfl, rfl, trivial⟩ ⟨rfl, trivial⟩) ?_
      refine AWR.ret (FPost.mk (.inr rfl) ⟨rfl, rfl, rfl, trivial⟩ ⟨rfl, trivial⟩ rfl ⟨trivial, PermP.sc, PermP.sc, trivial⟩ ⟨PermO.prow' perm_encInt, trivial⟩)
set_option maxRecDepth 100000 in
set_option maxHeartbeats 8000000 in
theorem w_impl_isLoad (f : TFramework) (load : (List Int)) : ∀ t, m_impl_isLoad f load = some t → Fw.Fn Try.prog 95 [(.agg [(iC f.Graph.Points), (.pv (.xs false (f.Graph.Bars.map encTBar))), (.pv (.xs false (f.Places.map encTPlace)))]), (.c (.pv (.xs false (load.map encInt))))] [] (.s (.c (bC t))) [] [] [] := by
  refine Fw.Fn.of (P := Try.prog) (X := []) (pn := []) (rs := (fun (t : Bool) => [(.c (bC t))])) (dfs := (fun (t : Bool) => [])) Try.func95 rfl Try.ntmps95 (Nat.le_of_ble_eq_true rfl) rfl ?_
  intro w0 U0 R0 g0
  unfold m_impl_isLoad
  refine AWR.seq ?_
  refine AWR.region ?_
  refine AOR.step (LT.box (n := 21) (v := (.agg [(iC f.Graph.Points), (.pv (.xs false (f.Graph.Bars.map encTBar))), (.pv (.xs false (f.Places.map encTPlace)))])) rfl sz29 (by exact rfl)) ⟨rfl, trivial⟩ trivial rfl rfl ?_
  refine AOR.pure (LT.assign (v := (.s (.c (bC false)))) rfl) ⟨⟨rfl, rfl⟩, trivial⟩ trivial rfl rfl ?_
  refine AOR.nil ?_
  refine AWR.seq ?_
  refine AWR.seq ?_
  refine AWR.region ?_
  refine AOR.pure (LT.move (v := (.s (.c (.pv (.xs false (load.map encInt)))))) rfl) ⟨rfl, trivial⟩ trivial rfl rfl ?_
  refine AOR.pure (LT.tlenRO rfl und37) ⟨rfl, trivial⟩ trivial rfl rfl ?_
  refine AOR.pure (LT.move (v := (.s (.c (iC 0)))) rfl) ⟨⟨rfl, rfl⟩, trivial⟩ trivial rfl rfl ?_
  refine AOR.nil ?_
  refine AWR.block ?_
  refine AWR.loopR (id := 0) (m_impl_isLoad_L1 load) (fun s1 => ([(1, (.s (.c (.pv (.xs false (load.map encInt)))))), (2, (.s (.c (.pl 21 0)))), (7, (.s (.c (.pv (.xs false (load.map encInt)))))), (8, (.s (.c (iC (load.length : Int))))), (9, (.s (.c (iC s1))))], [(21, (.row 29 [[(iC f.Graph.Points), (.pv (.xs false (f.Graph.Bars.map encTBar))), (.pv (.xs false (f.Places.map encTPlace)))]]))])) (fun b10 => ([(1, (.s (.c (.pv (.xs false (load.map encInt)))))), (2, (.s (.c (.pl 21 0))))], [(21, (.row 29 [[(iC f.Graph.Points), (.pv (.xs false (f.Graph.Bars.map encTBar))), (.pv (.xs false (f.Places.map encTPlace)))]]))])) (FPost Try.prog Try.f95.results.toList [] [] (fun (t : Bool) => [(.c (bC t))]) (fun (t : Bool) => [])) ?_ (Ent.of ⟨rfl, rfl, rfl, rfl, rfl, trivial⟩ ⟨rfl, trivial⟩) rfl (fun b10 _ => ?_) (by intro r t σ m ht hk; injection ht with ht; subst ht; exact hk)
  · intro s1
    unfold m_impl_isLoad_L1
    refine AWR.seq ?_
    refine AWR.region ?_
    refine AOR.pure (LT.lss rfl) ⟨rfl, rfl, trivial⟩ trivial rfl rfl ?_
    refine AOR.nil ?_
    refine AWR.seq ?_
    refine AWR.cond rfl (fun hc11 => ?_) (fun hc11 => ?_)
    · refine AWR.skip ?_
      refine AWR.seq ?_
      refine AWR.block ?_
      refine AWR.seq ?_
      refine AWR.region ?_
      refine AOR.bind fun x12 hx12 => ?_
      refine AOR.pure (LT.tindexRO (enc := encInt) rfl el37 hx12 sz3) ⟨rfl, rfl, trivial⟩ trivial rfl rfl ?_
      refine AOR.pure (LT.loadPx1 rfl ag3) ⟨rfl, trivial⟩ trivial rfl rfl ?_
      refine AOR.pure (LT.assign (v := (.s (.c (iC x12)))) rfl) ⟨rfl, trivial⟩ trivial rfl rfl ?_
      refine AOR.nil ?_
      refine AWR.seq ?_
      refine AWR.region ?_
      refine AOR.pure (LT.move (v := (.s (.c (iC x12)))) rfl) ⟨rfl, trivial⟩ trivial rfl rfl ?_
      refine AOR.bind fun r13 hr13 => ?_
      refine AOR.pure (@LT.callF Try.prog _ _ 119 _ _ [(.c (iC x12)), (.c (iC (-4))), (.c (iC 4))] _ _ [] _ _ _ _ (w_impl_within x12 (-4) 4 r13 hr13) rfl cb119 (.cons (.c (.same rfl)) (.cons (.c (.same rfl)) (.cons (.c (.same rfl)) .nil))) rfl rfl trivial) ⟨rfl, rfl, ⟨rfl, rfl⟩, ⟨rfl, rfl⟩, trivial⟩ trivial rfl rfl ?_
      refine AOR.pure (LT.not rfl) ⟨rfl, trivial⟩ trivial rfl rfl ?_
      refine AOR.nil ?_
      refine AWR.cond rfl (fun hc14 => ?_) (fun hc14 => ?_)
      · refine AWR.seq ?_
        refine AWR.region ?_
        refine AOR.pure (LT.assign (v := (.s (.c (bC false)))) rfl) ⟨⟨rfl, rfl⟩, trivial⟩ trivial rfl rfl ?_
        refine AOR.nil ?_
        refine AWR.ret ⟨rfl, FPost.mk (.inr rfl) ⟨rfl, trivial⟩ trivial rfl ⟨PermP.sc, trivial⟩ trivial⟩
      · refine AWR.skip ?_
        refine AWR.blk ?_
        refine AWR.region ?_
        refine AOR.pure (LT.add rfl) ⟨rfl, ⟨rfl, rfl⟩, trivial⟩ trivial rfl rfl ?_
        refine AOR.pure (LT.move (v := (.s (.c (iC (w64 (s1 + 1)))))) rfl) ⟨rfl, trivial⟩ trivial rfl rfl ?_
        refine AOR.nil ?_
        refine AWR.nil ⟨rfl, Ent.of ⟨rfl, rfl, rfl, rfl, rfl, trivial⟩ ⟨rfl, trivial⟩⟩
    · refine AWR.exit_end rfl ⟨rfl, Ent.of ⟨rfl, rfl, trivial⟩ ⟨rfl, trivial⟩⟩
  · refine AWR.seq ?_
    refine AWR.joinK (fun j17 => ([(4, (.s (.c (bC j17))))], [])) ?_ (fun j17 _ => ?_)
    · refine AWR.region ?_
      refine AOR.pure (LT.bloadN (out := [(iC f.Graph.Points), (.pv (.xs false (f.Graph.Bars.map encTBar))), (.pv (.xs false (f.Places.map encTPlace)))]) rfl ag29 (infS inf29) sz29 (by exact rfl) (by exact rfl)) ⟨rfl, trivial⟩ ⟨rfl, trivial⟩ rfl rfl ?_
      refine AOR.bind fun r18 hr18 => ?_
      refine AOR.pure (@LT.callF Try.prog _ _ 86 _ _ [(.agg [(iC f.Graph.Points), (.pv (.xs false (f.Graph.Bars.map encTBar))), (.pv (.xs false (f.Places.map encTPlace)))])] _ _ [] _ _ _ _ (w_impl_IsFramework f r18 hr18) rfl cb86 (.cons (.agg (.cons (.same rfl) (.cons (.same rfl) (.cons (.same rfl) .nil)))) .nil) rfl rfl trivial) ⟨rfl, rfl, trivial⟩ trivial rfl rfl ?_
      refine AOR.pure (LT.move (v := (.s (.c (bC r18)))) rfl) ⟨rfl, trivial⟩ trivial rfl rfl ?_
      refine AOR.split (fun hb19 => ?_) (fun hb19 => ?_)
      · refine AOR.pure (LT.move (v := (.s (.c (.pv (.xs false (load.map encInt)))))) rfl) ⟨rfl, trivial⟩ trivial ⟨_, rfl, .inl ⟨_, rfl, (by rw [hb19]; rfl)⟩⟩ rfl ?_
        refine AOR.pure (LT.tlenRO rfl und37) ⟨rfl, trivial⟩ trivial ⟨_, rfl, .inl ⟨_, rfl, (by rw [hb19]; rfl)⟩⟩ rfl ?_
        refine AOR.pure (LT.fieldPl rfl fo29_0) ⟨rfl, trivial⟩ trivial ⟨_, rfl, .inl ⟨_, rfl, (by rw [hb19]; rfl)⟩⟩ rfl ?_
        refine AOR.pure (LT.fieldPl rfl fo26_0) ⟨rfl, trivial⟩ trivial ⟨_, rfl, .inl ⟨_, rfl, (by rw [hb19]; rfl)⟩⟩ rfl ?_
        refine AOR.pure (LT.bload1 (c := (iC f.Graph.Points)) rfl ag3 (by exact rfl)) ⟨rfl, trivial⟩ ⟨rfl, trivial⟩ ⟨_, rfl, .inl ⟨_, rfl, (by rw [hb19]; rfl)⟩⟩ rfl ?_
        refine AOR.pure (LT.mul rfl) ⟨⟨rfl, rfl⟩, rfl, trivial⟩ trivial ⟨_, rfl, .inl ⟨_, rfl, (by rw [hb19]; rfl)⟩⟩ rfl ?_
        refine AOR.pure (LT.eql rfl) ⟨rfl, rfl, trivial⟩ trivial ⟨_, rfl, .inl ⟨_, rfl, (by rw [hb19]; rfl)⟩⟩ rfl ?_
        refine AOR.pure (LT.pickT (v := (.s (.c (bC ((load.length : Int) == (w64 (2 * f.Graph.Points))))))) rfl hb19) ⟨rfl, rfl, trivial⟩ trivial rfl rfl ?_
        refine AOR.pure (LT.assign (v := (.s (.c (bC ((load.length : Int) == (w64 (2 * f.Graph.Points))))))) rfl) ⟨rfl, trivial⟩ trivial rfl rfl ?_
        refine AOR.nil ?_
        refine AWR.nil ⟨rfl, Ent.of ⟨rfl, trivial⟩ trivial⟩
      · refine AOR.skip ⟨_, rfl, .inl ⟨_, rfl, (by rw [hb19]; rfl)⟩⟩ rfl ?_
        refine AOR.skip ⟨_, rfl, .inl ⟨_, rfl, (by rw [hb19]; rfl)⟩⟩ rfl ?_
        refine AOR.skip ⟨_, rfl, .inl ⟨_, rfl, (by rw [hb19]; rfl)⟩⟩ rfl ?_
        refine AOR.skip ⟨_, rfl, .inl ⟨_, rfl, (by rw [hb19]; rfl)⟩⟩ rfl ?_
        refine AOR.skip ⟨_, rfl, .inl ⟨_, rfl, (by rw [hb19]; rfl)⟩⟩ rfl ?_
        refine AOR.skip ⟨_, rfl, .inl ⟨_, rfl, (by rw [hb19]; rfl)⟩⟩ rfl ?_
        refine AOR.skip ⟨_, rfl, .inl ⟨_, rfl, (by rw [hb19]; rfl)⟩⟩ rfl ?_
        refine AOR.pure (LT.pickF (v := (.s (.c (bC false)))) rfl hb19) ⟨rfl, ⟨rfl, rfl⟩, trivial⟩ trivial rfl rfl ?_
        refine AOR.pure (LT.assign (v := (.s (.c (bC false)))) rfl) ⟨rfl, trivial⟩ trivial rfl rfl ?_
        refine AOR.nil ?_
        refine AWR.nil ⟨rfl, Ent.of ⟨rfl, trivial⟩ trivial⟩
    · refine AWR.ret (FPost.mk (.inr rfl) ⟨rfl, trivial⟩ trivial rfl ⟨PermP.sc, trivial⟩ trivial)
set_option maxRecDepth 100000 in
set_option maxHeartbeats 8000000 in
theorem w_impl_BearingForces (f : TFramework) (load : (List Int)) : ∀ t, m_impl_BearingForces f load = some t → Fw.Fn Try.prog 23 [(.agg [(iC f.Graph.Points), (.pv (.xs false (f.Graph.Bars.map encTBar))), (.pv (.xs false (f.Places.map encTPlace)))]), (.c (.pv (.xs false (load.map encInt))))] [] (resA [(.c (.loc 0 0 t.1.length)), (.c (iC t.2.1)), (.c (bC t.2.2))]) [(0, (.prow 3 (t.1.map encInt)))] [] [0] := by
  refine Fw.Fn.ofU (P := Try.prog) (X := [0]) (pn := []) (rs := (fun (t : ((List Int) × Int × Bool)) => [(.c (.loc 0 0 t.1.length)), (.c (iC t.2.1)), (.c (bC t.2.2))])) (dfs := (fun (t : ((List Int) × Int × Bool)) => [(0, (.prow 3 (t.1.map encInt)))])) Try.func23 rfl Try.ntmps23 (Nat.le_of_ble_eq_true rfl) rfl ?_
  intro w0 U0 R0 g0 hU
  unfold m_impl_BearingForces
  refine AWR.seq ?_
  refine AWR.region ?_
  refine AOR.step (LT.box (n := 21) (v := (.agg [(iC f.Graph.Points), (.pv (.xs false (f.Graph.Bars.map encTBar))), (.pv (.xs false (f.Places.map encTPlace)))])) rfl sz29 (by exact rfl)) ⟨rfl, trivial⟩ trivial rfl rfl ?_
  refine AOR.pure (LT.assign (v := (.s (.c (sC nilV)))) rfl) ⟨⟨rfl, rfl⟩, trivial⟩ trivial rfl rfl ?_
  refine AOR.pure (LT.assign (v := (.s (.c (iC 0)))) rfl) ⟨⟨rfl, rfl⟩, trivial⟩ trivial rfl rfl ?_
  refine AOR.pure (LT.assign (v := (.s (.c (bC false)))) rfl) ⟨⟨rfl, rfl⟩, trivial⟩ trivial rfl rfl ?_
  refine AOR.nil ?_
  refine AWR.seq ?_
  refine AWR.seq ?_
  refine AWR.region ?_
  refine AOR.pure (LT.bloadN (out := [(iC f.Graph.Points), (.pv (.xs false (f.Graph.Bars.map encTBar))), (.pv (.xs false (f.Places.map encTPlace)))]) rfl ag29 (infS inf29) sz29 (by exact rfl) (by exact rfl)) ⟨rfl, trivial⟩ ⟨rfl, trivial⟩ rfl rfl ?_
  refine AOR.pure (LT.move (v := (.s (.c (.pv (.xs false (load.map encInt)))))) rfl) ⟨rfl, trivial⟩ trivial rfl rfl ?_
  refine AOR.bind fun r1 hr1 => ?_
  refine AOR.pure (@LT.callF Try.prog _ _ 95 _ _ [(.agg [(iC f.Graph.Points), (.pv (.xs false (f.Graph.Bars.map encTBar))), (.pv (.xs false (f.Places.map encTPlace)))]), (.c (.pv (.xs false (load.map encInt))))] _ _ [] _ _ _ _ (w_impl_isLoad f load r1 hr1) rfl cb95 (.cons (.agg (.cons (.same rfl) (.cons (.same rfl) (.cons (.same rfl) .nil)))) (.cons (.c (.same rfl)) .nil)) rfl rfl trivial) ⟨rfl, rfl, rfl, trivial⟩ trivial rfl rfl ?_
  refine AOR.pure (LT.not rfl) ⟨rfl, trivial⟩ trivial rfl rfl ?_
  refine AOR.nil ?_
  refine AWR.cond rfl (fun hc2 => ?_) (fun hc2 => ?_)
  · refine AWR.seq ?_
    refine AWR.region ?_
    refine AOR.step (LT.tbuildSlice (n := 23) (enc := encInt) [] ([] : List Int) rfl rfl und37 ti3 rfl rfl rfl rfl (by decide) (fun _ => rfl) rfl) trivial trivial rfl rfl ?_
    refine AOR.pure (LT.assign (v := (.s (.c (.loc 23 0 ([] : List Int).length)))) rfl) ⟨rfl, trivial⟩ trivial rfl rfl ?_
    refine AOR.pure (LT.assign (v := (.s (.c (iC 0)))) rfl) ⟨⟨rfl, rfl⟩, trivial⟩ trivial rfl rfl ?_
    refine AOR.pure (LT.assign (v := (.s (.c (bC false)))) rfl) ⟨⟨rfl, rfl⟩, trivial⟩ trivial rfl rfl ?_
    refine AOR.nil ?_
    refine AWR.ent (Ent.of (σ' := [(4, (.s (.c (.loc 23 0 ([] : List Int).length)))), (5, (.s (.c (iC 0)))), (6, (.s (.c (bC false))))]) (m' := [(23, (.prow 3 (([] : List Int).map encInt)))]) ⟨rfl, rfl, rfl, trivial⟩ ⟨rfl, trivial⟩) ?_
    refine AWR.ent (Ent.mv 23 0 rfl rfl) ?_
    refine AWR.ent (Ent.of (σ' := [(4, (.s (.c (.loc 0 0 ([] : List Int).length)))), (5, (.s (.c (iC 0)))), (6, (.s (.c (bC false))))]) (m' := [(0, (.prow 3 (([] : List Int).map encInt)))]) ⟨rfl, rfl, rfl, trivial⟩ ⟨rfl, trivial⟩) ?_
    refine AWR.ret (FPost.mk (.inr rfl) ⟨rfl, rfl, rfl, trivial⟩ ⟨rfl, trivial⟩ rfl ⟨trivial, PermP.sc, PermP.sc, trivial⟩ ⟨PermO.prow' perm_encInt, trivial⟩)
  · refine AWR.skip ?_
    refine AWR.seq ?_
    refine AWR.region ?_
    refine AOR.pure (LT.fieldPl rfl fo29_0) ⟨rfl, trivial⟩ trivial rfl rfl ?_
    refine AOR.pure (LT.fieldPl rfl fo26_1) ⟨rfl, trivial⟩ trivial rfl rfl ?_
    refine AOR.pure (LT.bload1 (c := (.pv (.xs false (f.Graph.Bars.map encTBar)))) rfl ag24 (by exact rfl)) ⟨rfl, trivial⟩ ⟨rfl, trivial⟩ rfl rfl ?_
    refine AOR.pure (LT.tlenRO rfl und24) ⟨rfl, trivial⟩ trivial rfl rfl ?_
    refine AOR.pure (LT.assign (v := (.s (.c (iC (f.Graph.Bars.length : Int))))) rfl) ⟨rfl, trivial⟩ trivial rfl rfl ?_
    refine AOR.nil ?_
    refine AWR.seq ?_
    refine AWR.ent (Ent.of (σ' := [(1, (.s (.c (.pv (.xs false (load.map encInt)))))), (2, (.s (.c (.pl 21 0)))), (7, (.s (.c (iC (f.Graph.Bars.length : Int)))))]) (m' := [(21, (.row 29 [[(iC f.Graph.Points), (.pv (.xs false (f.Graph.Bars.map encTBar))), (.pv (.xs false (f.Places.map encTPlace)))]]))]) ⟨rfl, rfl, rfl, trivial⟩ ⟨rfl, trivial⟩) ?_
    refine AWR.draw mixed ?_
    refine AOD.pure (LT.bloadN (out := [(iC f.Graph.Points), (.pv (.xs false (f.Graph.Bars.map encTBar))), (.pv (.xs false (f.Places.map encTPlace)))]) rfl ag29 (infS inf29) sz29 (by exact rfl) (by exact rfl)) ⟨rfl, trivial⟩ ⟨rfl, trivial⟩ rfl rfl ?_
    refine AOD.bind fun r3 hr3 => ?_
    refine AOD.step (@LT.callF Try.prog _ _ 62 _ _ [(.agg [(iC f.Graph.Points), (.pv (.xs false (f.Graph.Bars.map encTBar))), (.pv (.xs false (f.Places.map encTPlace)))])] _ _ [] _ _ _ _ ((show Fw.Fn Try.prog 62 [(.agg [(iC f.Graph.Points), (.pv (.xs false (f.Graph.Bars.map encTBar))), (.pv (.xs false (f.Places.map encTPlace)))])] [] (.s (.c (.loc 25 0 r3.length))) [(25, (.trow 37 26 (lensOf r3))), (26, (.pool 3 (rowsOf encInt r3)))] [] [25, 26] from Fw.Fn.ren [(0, 25), (1, 26)] (w_impl_RigidityMatrix f r3 hr3) rfl)) rfl cb62 (.cons (.agg (.cons (.same rfl) (.cons (.same rfl) (.cons (.same rfl) .nil)))) .nil) rfl rfl trivial) ⟨rfl, rfl, trivial⟩ trivial rfl rfl ?_
    refine AOD.pure (LT.fieldPl rfl fo29_0) ⟨rfl, trivial⟩ trivial rfl rfl ?_
    refine AOD.pure (LT.fieldPl rfl fo26_0) ⟨rfl, trivial⟩ trivial rfl rfl ?_
    refine AOD.pure (LT.bload1 (c := (iC f.Graph.Points)) rfl ag3 (by exact rfl)) ⟨rfl, trivial⟩ ⟨rfl, trivial⟩ rfl rfl ?_
    refine AOD.pure (LT.mul rfl) ⟨⟨rfl, rfl⟩, rfl, trivial⟩ trivial rfl rfl ?_
    refine AOD.bind fun r4 hr4 => ?_
    refine AOD.step (@LT.callF Try.prog _ _ 88 _ _ [(.c (.loc 25 0 r3.length)), (.c (iC (w64 (2 * f.Graph.Points))))] _ _ [(25, (.trow 37 26 (lensOf r3))), (26, (.pool 3 (rowsOf encInt r3)))] _ _ _ _ ((show Fw.Fn Try.prog 88 [(.c (.pv (.xs false (r3.map (encLInt false))))), (.c (iC (w64 (2 * f.Graph.Points))))] [] (.s (.c (.loc 28 0 r4.length))) [(28, (.trow 37 29 (lensOf r4))), (29, (.pool 3 (rowsOf encInt r4)))] [] [28, 29] from Fw.Fn.ren [(0, 28), (1, 29)] (w_impl_transposed r3 (w64 (2 * f.Graph.Points)) r4 hr4) rfl)) rfl cb88 (.cons (.c (.ttrow rfl rfl rfl (fun _ => rfl))) (.cons (.c (.same rfl)) .nil)) rfl rfl trivial) ⟨rfl, rfl, rfl, trivial⟩ ⟨rfl, rfl, trivial⟩ rfl rfl ?_
    refine AOD.pure (LT.assign (v := (.s (.c (.loc 28 0 r4.length)))) rfl) ⟨rfl, trivial⟩ trivial rfl rfl ?_
    refine AOD.nil (by kernel_rfl) ?_
    refine AWR.seq ?_
    refine AWR.seq ?_
    refine AWR.ent (Ent.of (σ' := [(1, (.s (.c (.pv (.xs false (load.map encInt)))))), (7, (.s (.c (iC (f.Graph.Bars.length : Int))))), (8, (.s (.c (.loc 28 0 r4.length))))]) (m' := [(28, (.trow 37 29 (lensOf r4))), (29, (.pool 3 (rowsOf encInt r4)))]) ⟨rfl, rfl, rfl, trivial⟩ ⟨rfl, rfl, trivial⟩) ?_
    refine AWR.region ?_
    refine AOR.pure (LT.move (v := (.s (.c (.loc 28 0 r4.length)))) rfl) ⟨rfl, trivial⟩ trivial rfl rfl ?_
    refine AOR.pure (LT.lenLoc rfl und31) ⟨rfl, trivial⟩ trivial rfl rfl ?_
    refine AOR.pure (LT.move (v := (.s (.c (iC 0)))) rfl) ⟨⟨rfl, rfl⟩, trivial⟩ trivial rfl rfl ?_
    refine AOR.nil ?_
    refine AWR.block ?_
    refine AWR.loop1 (id := 0) (m_impl_BearingForces_L1 load r4) (fun s5 => ([(1, (.s (.c (.pv (.xs false (load.map encInt)))))), (7, (.s (.c (iC (f.Graph.Bars.length : Int))))), (8, (.s (.c (.loc 28 0 s5.2.length)))), (32, (.s (.c (iC (r4.length : Int))))), (33, (.s (.c (iC s5.1))))], [(28, (.trow 37 29 (lensOf s5.2))), (29, (.pool 3 (rowsOf encInt s5.2)))])) (fun b16 => ([(7, (.s (.c (iC (f.Graph.Bars.length : Int))))), (8, (.s (.c (.loc 28 0 b16.length))))], [(28, (.trow 37 29 (lensOf b16))), (29, (.pool 3 (rowsOf encInt b16)))])) ?_ (Ent.of ⟨rfl, rfl, rfl, rfl, rfl, trivial⟩ ⟨rfl, rfl, trivial⟩) rfl (fun b16 _ => ?_)
    · intro s5
      unfold m_impl_BearingForces_L1
      refine AWR.seq ?_
      refine AWR.region ?_
      refine AOR.pure (LT.lss rfl) ⟨rfl, rfl, trivial⟩ trivial rfl rfl ?_
      refine AOR.nil ?_
      refine AWR.seq ?_
      refine AWR.cond rfl (fun hc17 => ?_) (fun hc17 => ?_)
      · refine AWR.skip ?_
        refine AWR.seq ?_
        refine AWR.block ?_
        refine AWR.seq ?_
        refine AWR.region ?_
        refine AOR.pure (LT.move (v := (.s (.c (iC s5.1)))) rfl) ⟨rfl, trivial⟩ trivial rfl rfl ?_
        refine AOR.pure (LT.assign (v := (.s (.c (iC s5.1)))) rfl) ⟨rfl, trivial⟩ trivial rfl rfl ?_
        refine AOR.nil ?_
        refine AWR.draw mixed ?_
        refine AOD.pure (LT.move (v := (.s (.c (.loc 28 0 s5.2.length)))) rfl) ⟨rfl, trivial⟩ trivial rfl rfl ?_
        refine AOD.pure (LT.move (v := (.s (.c (iC s5.1)))) rfl) ⟨rfl, trivial⟩ trivial rfl rfl ?_
        refine AOD.pure (LT.move (v := (.s (.c (.loc 28 0 s5.2.length)))) rfl) ⟨rfl, trivial⟩ trivial rfl rfl ?_
        refine AOD.pure (LT.move (v := (.s (.c (iC s5.1)))) rfl) ⟨rfl, trivial⟩ trivial rfl rfl ?_
        refine AOD.bind fun x18 hx18 => ?_
        refine AOD.pure (LT.xindex rfl rfl el31 hx18) ⟨rfl, rfl, trivial⟩ ⟨rfl, trivial⟩ rfl rfl ?_
        refine AOD.pure (LT.xload rfl ag37 hx18 rfl) ⟨rfl, trivial⟩ ⟨rfl, trivial⟩ rfl rfl ?_
        refine AOD.pure (LT.move (v := (.s (.c (.pv (.xs false (load.map encInt)))))) rfl) ⟨rfl, trivial⟩ trivial rfl rfl ?_
        refine AOD.pure (LT.move (v := (.s (.c (iC s5.1)))) rfl) ⟨rfl, trivial⟩ trivial rfl rfl ?_
        refine AOD.bind fun x19 hx19 => ?_
        refine AOD.pure (LT.tindexRO (enc := encInt) rfl el37 hx19 sz3) ⟨rfl, rfl, trivial⟩ trivial rfl rfl ?_
        refine AOD.pure (LT.loadPx1 rfl ag3) ⟨rfl, trivial⟩ trivial rfl rfl ?_
        refine AOD.step (LT.tbuildSlice (n := 30) (enc := encInt) [(0, .tmp 45, (.c (iC x19)))] ([x19] : List Int) rfl rfl und37 ti3 rfl rfl rfl rfl (by decide) (fun _ => rfl) rfl) ⟨rfl, trivial⟩ trivial rfl rfl ?_
        refine AOD.bind fun u20 hu20 => ?_
        refine AOD.step (LT.tunpool (p := 29) (k := s5.1.toNat) (m := 31) (n := 28) (e := 37) (enc := encInt) (LT.tappP (n := 31) (n2 := 30) (enc := encInt) rfl rfl rfl und37 ti3 rfl (by decide) (by decide) (fun _ => rfl) (lim_le hu20)) (idx_get hx18) rfl) ⟨rfl, rfl, trivial⟩ ⟨rfl, rfl, rfl, trivial⟩ rfl rfl ?_
        refine AOD.bind fun x21 hx21 => ?_
        refine AOD.pure (LT.xindexS (show s5.2.length = (s5.2.set s5.1.toNat []).length by simp only [List.length_set]) rfl el31 hx21) ⟨rfl, rfl, trivial⟩ ⟨rfl, trivial⟩ rfl rfl ?_
        refine AOD.step (LT.xstoreS (e := 37) (p := 29) rfl rfl (infS inf37) sz37 hx21 rfl) ⟨rfl, rfl, trivial⟩ ⟨rfl, trivial⟩ rfl rfl ?_
        refine AOD.nil (by kernel_rfl) ?_
        refine AWR.ent (Ent.tadoptAt (enc := encInt) (n := 28) (m := 31) (p := 29) (k := s5.1.toNat) (rows := (s5.2.set s5.1.toNat [])) (r := (x18 ++ ([x19] : List Int))) rfl (List.getElem?_eq_some_iff.1 (idx_get hx21)).1 rfl rfl rfl rfl) ?_
        refine AWR.ent (Ent.trow (n := 28) (p := 29) (lens := lensOf ((s5.2.set s5.1.toNat []).set s5.1.toNat (x18 ++ ([x19] : List Int)))) rfl rfl) ?_
        refine AWR.blk ?_
        refine AWR.region ?_
        refine AOR.pure (LT.add rfl) ⟨rfl, ⟨rfl, rfl⟩, trivial⟩ trivial rfl rfl ?_
        refine AOR.pure (LT.move (v := (.s (.c (iC (w64 (s5.1 + 1)))))) rfl) ⟨rfl, trivial⟩ trivial rfl rfl ?_
        refine AOR.nil ?_
        refine AWR.nil ⟨rfl, Ent.of ⟨rfl, rfl, (congrArg (fun l1 => (some (AV.s (.c (.loc 28 0 l1))) : Option AV)) (show s5.2.length = ((s5.2.set s5.1.toNat []).set s5.1.toNat (x18 ++ ([x19] : List Int))).length by simp only [List.length_set])), rfl, rfl, trivial⟩ ⟨rfl, rfl, trivial⟩⟩
      · refine AWR.exit_end rfl ⟨rfl, Ent.of ⟨rfl, rfl, trivial⟩ ⟨rfl, rfl, trivial⟩⟩
    · refine AWR.seq ?_
      refine AWR.seq ?_
      refine AWR.region ?_
      refine AOR.pure (LT.move (v := (.s (.c (.loc 28 0 b16.length)))) rfl) ⟨rfl, trivial⟩ trivial rfl rfl ?_
      refine AOR.pure (LT.move (v := (.s (.c (iC (f.Graph.Bars.length : Int))))) rfl) ⟨rfl, trivial⟩ trivial rfl rfl ?_
      refine AOR.pure (LT.add rfl) ⟨rfl, ⟨rfl, rfl⟩, trivial⟩ trivial rfl rfl ?_
      refine AOR.bind fun r22 hr22 => ?_
      refine AOR.step (@LT.callF Try.prog _ _ 87 _ _ [(.c (.loc 28 0 b16.length)), (.c (iC (w64 ((f.Graph.Bars.length : Int) + 1))))] _ _ [(28, (.trow 37 29 (lensOf b16))), (29, (.pool 3 (rowsOf encInt b16)))] _ _ _ _ ((show Fw.Fn Try.prog 87 [(.c (.pv (.xs false (b16.map (encLInt false))))), (.c (iC (w64 ((f.Graph.Bars.length : Int) + 1))))] [] (.s (.c (.loc 33 0 r22.length))) [(33, (.trow 37 34 (lensOf r22))), (34, (.pool 3 (rowsOf encInt r22)))] [] [33, 34] from Fw.Fn.ren [(0, 33), (1, 34)] (w_impl_nullspace b16 (w64 ((f.Graph.Bars.length : Int) + 1)) r22 hr22) rfl)) rfl cb87 (.cons (.c (.ttrow rfl rfl rfl (fun _ => rfl))) (.cons (.c (.same rfl)) .nil)) rfl rfl trivial) ⟨rfl, rfl, rfl, trivial⟩ ⟨rfl, rfl, trivial⟩ rfl rfl ?_
      refine AOR.ent (Ent.freezeT (enc := encInt) (encL := (encLInt true)) 53 33 34 hU rfl (fun _ => rfl) rfl rfl rfl rfl) ?_
      refine AOR.pure (LT.tlenRO rfl und31) ⟨rfl, trivial⟩ trivial rfl rfl ?_
      refine AOR.pure (LT.move (v := (.s (.c (iC 0)))) rfl) ⟨⟨rfl, rfl⟩, trivial⟩ trivial rfl rfl ?_
      refine AOR.nil ?_
      refine AWR.block ?_
      refine AWR.loopR (id := 2) (m_impl_BearingForces_L6 f r22) (fun s23 => ([(7, (.s (.c (iC (f.Graph.Bars.length : Int))))), (53, (.s (.c (.pv (.xs true (r22.map (encLInt true))))))), (54, (.s (.c (iC (r22.length : Int))))), (55, (.s (.c (iC s23))))], [])) (fun b74 => ([], [])) (FPost Try.prog Try.f23.results.toList [] [0] (fun (t : ((List Int) × Int × Bool)) => [(.c (.loc 0 0 t.1.length)), (.c (iC t.2.1)), (.c (bC t.2.2))]) (fun (t : ((List Int) × Int × Bool)) => [(0, (.prow 3 (t.1.map encInt)))])) ?_ (Ent.of ⟨rfl, rfl, rfl, rfl, trivial⟩ trivial) rfl (fun b74 _ => ?_) (by intro r t σ m ht hk; injection ht with ht; subst ht; exact hk)
      · intro s23
        unfold m_impl_BearingForces_L6
        refine AWR.seq ?_
        refine AWR.region ?_
        refine AOR.pure (LT.lss rfl) ⟨rfl, rfl, trivial⟩ trivial rfl rfl ?_
        refine AOR.nil ?_
        refine AWR.seq ?_
        refine AWR.cond rfl (fun hc75 => ?_) (fun hc75 => ?_)
        · refine AWR.skip ?_
          refine AWR.seq ?_
          refine AWR.block ?_
          refine AWR.seq ?_
          refine AWR.region ?_
          refine AOR.bind fun x76 hx76 => ?_
          refine AOR.pure (LT.tindexRO (enc := (encLInt true)) rfl el31 hx76 sz37) ⟨rfl, rfl, trivial⟩ trivial rfl rfl ?_
          refine AOR.pure (LT.loadPx1 rfl ag37) ⟨rfl, trivial⟩ trivial rfl rfl ?_
          refine AOR.pure (LT.assign (v := (.s (.c (.pv (.xs true (x76.map encInt)))))) rfl) ⟨rfl, trivial⟩ trivial rfl rfl ?_
          refine AOR.nil ?_
          refine AWR.seq ?_
          refine AWR.region ?_
          refine AOR.pure (LT.move (v := (.s (.c (.pv (.xs true (x76.map encInt)))))) rfl) ⟨rfl, trivial⟩ trivial rfl rfl ?_
          refine AOR.pure (LT.move (v := (.s (.c (iC (f.Graph.Bars.length : Int))))) rfl) ⟨rfl, trivial⟩ trivial rfl rfl ?_
          refine AOR.bind fun x77 hx77 => ?_
          refine AOR.pure (LT.tindexRO (enc := encInt) rfl el37 hx77 sz3) ⟨rfl, rfl, trivial⟩ trivial rfl rfl ?_
          refine AOR.pure (LT.loadPx1 rfl ag3) ⟨rfl, trivial⟩ trivial rfl rfl ?_
          refine AOR.pure (LT.assign (v := (.s (.c (iC x77)))) rfl) ⟨rfl, trivial⟩ trivial rfl rfl ?_
          refine AOR.nil ?_
          refine AWR.seq ?_
          refine AWR.seq ?_
          refine AWR.region ?_
          refine AOR.pure (LT.move (v := (.s (.c (iC x77)))) rfl) ⟨rfl, trivial⟩ trivial rfl rfl ?_
          refine AOR.pure (LT.eql rfl) ⟨rfl, ⟨rfl, rfl⟩, trivial⟩ trivial rfl rfl ?_
          refine AOR.nil ?_
          refine AWR.cond rfl (fun hc78 => ?_) (fun hc78 => ?_)
          · refine AWR.exit rfl ?_
            refine AWR.ent (Ent.of (σ' := [(7, (.s (.c (iC (f.Graph.Bars.length : Int))))), (53, (.s (.c (.pv (.xs true (r22.map (encLInt true))))))), (54, (.s (.c (iC (r22.length : Int))))), (55, (.s (.c (iC s23))))]) (m' := []) ⟨rfl, rfl, rfl, rfl, trivial⟩ trivial) ?_
            refine AWR.region ?_
            refine AOR.pure (LT.add rfl) ⟨rfl, ⟨rfl, rfl⟩, trivial⟩ trivial rfl rfl ?_
            refine AOR.pure (LT.move (v := (.s (.c (iC (w64 (s23 + 1)))))) rfl) ⟨rfl, trivial⟩ trivial rfl rfl ?_
            refine AOR.nil ?_
            refine AWR.nil ⟨rfl, Ent.of ⟨rfl, rfl, rfl, rfl, trivial⟩ trivial⟩
          · refine AWR.skip ?_
            refine AWR.seq ?_
            refine AWR.ent (Ent.of (σ' := [(7, (.s (.c (iC (f.Graph.Bars.length : Int))))), (11, (.s (.c (.pv (.xs true (x76.map encInt)))))), (12, (.s (.c (iC x77))))]) (m' := []) ⟨rfl, rfl, rfl, trivial⟩ trivial) ?_
            refine AWR.region ?_
            refine AOR.pure (LT.move (v := (.s (.c (.pv (.xs true (x76.map encInt)))))) rfl) ⟨rfl, trivial⟩ trivial rfl rfl ?_
            refine AOR.pure (LT.move (v := (.s (.c (iC (f.Graph.Bars.length : Int))))) rfl) ⟨rfl, trivial⟩ trivial rfl rfl ?_
            refine AOR.bind fun v79 hv79 => ?_
            refine AOR.pure (LT.tsliceRO (enc := encInt) (blo := none) (bhi := (some (.tmp 66, (f.Graph.Bars.length : Int)))) (l := 0) (h := (f.Graph.Bars.length : Int).toNat) rfl rfl rfl und37 inf3 (fun _ => by rw [sz3]; rfl) (.inr ⟨rfl, rfl⟩) (.inl ⟨_, _, rfl, Int.le_trans (slc_spec hv79).1 (slc_spec hv79).2.1, rfl⟩) (slc_lh hv79) (slc_hl hv79)) ⟨rfl, rfl, trivial⟩ trivial rfl rfl ?_
            refine AOR.bind fun r80 hr80 => ?_
            refine AOR.step (@LT.callF Try.prog _ _ 96 _ _ [(.c (.pv (.xs true (((x76.take ((f.Graph.Bars.length : Int).toNat)).drop 0).map encInt))))] _ _ [] _ _ _ _ ((show Fw.Fn Try.prog 96 [(.c (.pv (.xs false (((x76.take ((f.Graph.Bars.length : Int).toNat)).drop 0).map encInt))))] [] (.s (.c (.loc 36 0 r80.length))) [(36, (.prow 3 (r80.map encInt)))] [] [36] from Fw.Fn.ren [(0, 36)] (w_impl_copyInts ((x76.take ((f.Graph.Bars.length : Int).toNat)).drop 0) r80 hr80) rfl)) rfl cb96 (.cons (.c (.weak (.same rfl) (QW.xsm qw_encInt (fun h => by cases h) _))) .nil) rfl rfl trivial) ⟨rfl, rfl, trivial⟩ trivial rfl rfl ?_
            refine AOR.pure (LT.assign (v := (.s (.c (.loc 36 0 r80.length)))) rfl) ⟨rfl, trivial⟩ trivial rfl rfl ?_
            refine AOR.nil ?_
            refine AWR.seq ?_
            refine AWR.seq ?_
            refine AWR.region ?_
            refine AOR.pure (LT.move (v := (.s (.c (iC x77)))) rfl) ⟨rfl, trivial⟩ trivial rfl rfl ?_
            refine AOR.pure (LT.gtr rfl) ⟨rfl, ⟨rfl, rfl⟩, trivial⟩ trivial rfl rfl ?_
            refine AOR.nil ?_
            refine AWR.joinK (fun j90 => ([(12, (.s (.c (iC j90.1)))), (13, (.s (.c (.loc 36 0 j90.2.length))))], [(36, (.prow 3 (j90.2.map encInt)))])) ?_ (fun j90 _ => ?_)
            · refine AWR.cond rfl (fun hc91 => ?_) (fun hc91 => ?_)
              · refine AWR.seq ?_
                refine AWR.region ?_
                refine AOR.pure (LT.move (v := (.s (.c (.loc 36 0 r80.length)))) rfl) ⟨rfl, trivial⟩ trivial rfl rfl ?_
                refine AOR.pure (LT.lenLoc rfl und37) ⟨rfl, trivial⟩ trivial rfl rfl ?_
                refine AOR.pure (LT.move (v := (.s (.c (iC 0)))) rfl) ⟨⟨rfl, rfl⟩, trivial⟩ trivial rfl rfl ?_
                refine AOR.nil ?_
                refine AWR.block ?_
                refine AWR.loop1 (id := 4) (m_impl_BearingForces_L8 x77 r80) (fun s92 => ([(12, (.s (.c (iC x77)))), (13, (.s (.c (.loc 36 0 s92.2.length)))), (72, (.s (.c (iC (r80.length : Int))))), (73, (.s (.c (iC s92.1))))], [(36, (.prow 3 (s92.2.map encInt)))])) (fun b99 => ([(12, (.s (.c (iC b99.1)))), (13, (.s (.c (.loc 36 0 b99.2.length))))], [(36, (.prow 3 (b99.2.map encInt)))])) ?_ (Ent.of ⟨rfl, rfl, rfl, rfl, trivial⟩ ⟨rfl, trivial⟩) rfl (fun b99 _ => ?_)
                · intro s92
                  unfold m_impl_BearingForces_L8
                  refine AWR.seq ?_
                  refine AWR.region ?_
                  refine AOR.pure (LT.lss rfl) ⟨rfl, rfl, trivial⟩ trivial rfl rfl ?_
                  refine AOR.nil ?_
                  refine AWR.seq ?_
                  refine AWR.cond rfl (fun hc100 => ?_) (fun hc100 => ?_)
                  · refine AWR.skip ?_
                    refine AWR.seq ?_
                    refine AWR.block ?_
                    refine AWR.seq ?_
                    refine AWR.region ?_
                    refine AOR.pure (LT.move (v := (.s (.c (iC s92.1)))) rfl) ⟨rfl, trivial⟩ trivial rfl rfl ?_
                    refine AOR.pure (LT.assign (v := (.s (.c (iC s92.1)))) rfl) ⟨rfl, trivial⟩ trivial rfl rfl ?_
                    refine AOR.nil ?_
                    refine AWR.region ?_
                    refine AOR.pure (LT.move (v := (.s (.c (.loc 36 0 s92.2.length)))) rfl) ⟨rfl, trivial⟩ trivial rfl rfl ?_
                    refine AOR.pure (LT.move (v := (.s (.c (iC s92.1)))) rfl) ⟨rfl, trivial⟩ trivial rfl rfl ?_
                    refine AOR.pure (LT.move (v := (.s (.c (.loc 36 0 s92.2.length)))) rfl) ⟨rfl, trivial⟩ trivial rfl rfl ?_
                    refine AOR.pure (LT.move (v := (.s (.c (iC s92.1)))) rfl) ⟨rfl, trivial⟩ trivial rfl rfl ?_
                    refine AOR.bind fun x101 hx101 => ?_
                    refine AOR.pure (LT.tindexLoc rfl rfl el37 hx101) ⟨rfl, rfl, trivial⟩ ⟨rfl, trivial⟩ rfl rfl ?_
                    refine AOR.pure (LT.tload1 (k := 0) rfl ag3 hx101 (by exact rfl) (by exact rfl)) ⟨rfl, trivial⟩ ⟨rfl, trivial⟩ rfl rfl ?_
                    refine AOR.pure (LT.neg rfl) ⟨rfl, trivial⟩ trivial rfl rfl ?_
                    refine AOR.bind fun x102 hx102 => ?_
                    refine AOR.pure (LT.tindexLoc rfl rfl el37 hx102) ⟨rfl, rfl, trivial⟩ ⟨rfl, trivial⟩ rfl rfl ?_
                    refine AOR.step (LT.tstore (k := 0) (v := (.c (iC (w64 (-x101))))) (b' := (w64 (-x101))) rfl rfl (infS inf3) sz3 (by exact rfl) hx102 (by exact rfl) (by exact Nat.le_of_ble_eq_true rfl) (by exact rfl)) ⟨rfl, rfl, trivial⟩ ⟨rfl, trivial⟩ rfl rfl ?_
                    refine AOR.nil ?_
                    refine AWR.blk ?_
                    refine AWR.ent (Ent.of (σ' := [(12, (.s (.c (iC x77)))), (13, (.s (.c (.loc 36 0 s92.2.length)))), (72, (.s (.c (iC (r80.length : Int))))), (73, (.s (.c (iC s92.1))))]) (m' := [(36, (.prow 3 ((s92.2.set s92.1.toNat (w64 (-x101))).map encInt)))]) ⟨rfl, rfl, rfl, rfl, trivial⟩ ⟨rfl, trivial⟩) ?_
                    refine AWR.region ?_
                    refine AOR.pure (LT.add rfl) ⟨rfl, ⟨rfl, rfl⟩, trivial⟩ trivial rfl rfl ?_
                    refine AOR.pure (LT.move (v := (.s (.c (iC (w64 (s92.1 + 1)))))) rfl) ⟨rfl, trivial⟩ trivial rfl rfl ?_
                    refine AOR.nil ?_
                    refine AWR.nil ⟨rfl, Ent.of ⟨rfl, (congrArg (fun l1 => (some (AV.s (.c (.loc 36 0 l1))) : Option AV)) (show s92.2.length = (s92.2.set s92.1.toNat (w64 (-x101))).length by simp only [List.length_set])), rfl, rfl, trivial⟩ ⟨rfl, trivial⟩⟩
                  · refine AWR.exit_end rfl ⟨rfl, Ent.of ⟨rfl, rfl, trivial⟩ ⟨rfl, trivial⟩⟩
                · refine AWR.nil ⟨rfl, Ent.of ⟨rfl, rfl, trivial⟩ ⟨rfl, trivial⟩⟩
              · refine AWR.skip ?_
                refine AWR.nil ⟨rfl, Ent.of ⟨rfl, rfl, trivial⟩ ⟨rfl, trivial⟩⟩
            · refine AWR.seq ?_
              refine AWR.region ?_
              refine AOR.pure (LT.move (v := (.s (.c (.loc 36 0 j90.2.length)))) rfl) ⟨rfl, trivial⟩ trivial rfl rfl ?_
              refine AOR.pure (LT.move (v := (.s (.c (iC j90.1)))) rfl) ⟨rfl, trivial⟩ trivial rfl rfl ?_
              refine AOR.pure (LT.move (v := (.s (.c (iC j90.1)))) rfl) ⟨rfl, trivial⟩ trivial rfl rfl ?_
              refine AOR.pure (LT.neg rfl) ⟨rfl, trivial⟩ trivial rfl rfl ?_
              refine AOR.pure (LT.max rfl) ⟨rfl, rfl, trivial⟩ trivial rfl rfl ?_
              refine AOR.pure (LT.assign (v := (.s (.c (.loc 36 0 j90.2.length)))) rfl) ⟨rfl, trivial⟩ trivial rfl rfl ?_
              refine AOR.pure (LT.assign (v := (.s (.c (iC (if j90.1 < (w64 (-j90.1)) then (w64 (-j90.1)) else j90.1))))) rfl) ⟨rfl, trivial⟩ trivial rfl rfl ?_
              refine AOR.pure (LT.assign (v := (.s (.c (bC true)))) rfl) ⟨⟨rfl, rfl⟩, trivial⟩ trivial rfl rfl ?_
              refine AOR.nil ?_
              refine AWR.ent (Ent.of (σ' := [(4, (.s (.c (.loc 36 0 j90.2.length)))), (5, (.s (.c (iC (if j90.1 < (w64 (-j90.1)) then (w64 (-j90.1)) else j90.1))))), (6, (.s (.c (bC true))))]) (m' := [(36, (.prow 3 (j90.2.map encInt)))]) ⟨rfl, rfl, rfl, trivial⟩ ⟨rfl, trivial⟩) ?_
              refine AWR.ent (Ent.mv 36 0 rfl rfl) ?_
              refine AWR.ent (Ent.of (σ' := [(4, (.s (.c (.loc 0 0 j90.2.length)))), (5, (.s (.c (iC (if j90.1 < (w64 (-j90.1)) then (w64 (-j90.1)) else j90.1))))), (6, (.s (.c (bC true))))]) (m' := [(0, (.prow 3 (j90.2.map encInt)))]) ⟨rfl, rfl, rfl, trivial⟩ ⟨rfl, trivial⟩) ?_
              refine AWR.ret ⟨rfl, FPost.mk (.inr rfl) ⟨rfl, rfl, rfl, trivial⟩ ⟨rfl, trivial⟩ rfl ⟨trivial, PermP.sc, PermP.sc, trivial⟩ ⟨PermO.prow' perm_encInt, trivial⟩⟩
        · refine AWR.exit_end rfl ⟨rfl, Ent.of trivial trivial⟩
      · refine AWR.seq ?_
        refine AWR.region ?_
        refine AOR.step (LT.tbuildSlice (n := 37) (enc := encInt) [] ([] : List Int) rfl rfl und37 ti3 rfl rfl rfl rfl (by decide) (fun _ => rfl) rfl) trivial trivial rfl rfl ?_
        refine AOR.pure (LT.assign (v := (.s (.c (.loc 37 0 ([] : List Int).length)))) rfl) ⟨rfl, trivial⟩ trivial rfl rfl ?_
        refine AOR.pure (LT.assign (v := (.s (.c (iC 0)))) rfl) ⟨⟨rfl, rfl⟩, trivial⟩ trivial rfl rfl ?_
        refine AOR.pure (LT.assign (v := (.s (.c (bC false)))) rfl) ⟨⟨rfl, rfl⟩, trivial⟩ trivial rfl rfl ?_
        refine AOR.nil ?_
        refine AWR.ent (Ent.of (σ' := [(4, (.s (.c (.loc 37 0 ([] : List Int).length)))), (5, (.s (.c (iC 0)))), (6, (.s (.c (bC false))))]) (m' := [(37, (.prow 3 (([] : List Int).map encInt)))]) ⟨rfl, rfl, rfl, trivial⟩ ⟨rfl, trivial⟩) ?_
        refine AWR.ent (Ent.mv 37 0 rfl rfl) ?_
        refine AWR.ent (Ent.of (σ' := [(4, (.s (.c (.loc 0 0 ([] : List Int).length)))), (5, (.s (.c (iC 0)))), (6, (.s (.c (bC false))))]) (m' := [(0, (.prow 3 (([] : List Int).map encInt)))]) ⟨rfl, rfl, rfl, trivial⟩ ⟨rfl, trivial⟩) ?_
        refine AWR.ret (FPost.mk (.inr rfl) ⟨rfl, rfl, rfl, trivial⟩ ⟨rfl, trivial⟩ rfl ⟨trivial, PermP.sc, PermP.sc, trivial⟩ ⟨PermO.prow' perm_encInt, trivial⟩)
end Go.Proofs.Ytoeigmhhmadmbaa
end
section
set_option linter.unusedVariables false
set_option linter.unusedSimpArgs false
set_option linter.unnecessarySimpa false
open Go Go.Fw
namespace Go.Proofs.Ytoeigmhhmadmbaa
set_option maxRecDepth 100000 in
set_option maxHeartbeats 8000000 in
theorem w_laws_markIntS (a : (List Int)) (k : Int) : ∀ t, m_laws_markIntS a k = some t → Fw.Fn Try.prog 47 [(.c (.loc 0 0 a.length)), (.c (iC k))] [(0, (.prow 3 (a.map encInt)))] (.s (.c (iC t.1))) [(0, (.prow 3 (t.2.map encInt)))] [0] [] := by
  refine Fw.Fn.of (P := Try.prog) (X := []) (pn := [0]) (rs := (fun (t : (Int × (List Int))) => [(.c (iC t.1))])) (dfs := (fun (t : (Int × (List Int))) => [(0, (.prow 3 (t.2.map encInt)))])) Try.func47 rfl Try.ntmps47 (Nat.le_of_ble_eq_true rfl) rfl ?_
  intro w0 U0 R0 g0
  unfold m_laws_markIntS
  refine AWR.seq ?_
  refine AWR.region ?_
  refine AOR.pure (LT.assign (v := (.s (.c (iC 0)))) rfl) ⟨⟨rfl, rfl⟩, trivial⟩ trivial rfl rfl ?_
  refine AOR.nil ?_
  refine AWR.seq ?_
  refine AWR.seq ?_
  refine AWR.region ?_
  refine AOR.pure (LT.assign (v := (.s (.c (iC 0)))) rfl) ⟨⟨rfl, rfl⟩, trivial⟩ trivial rfl rfl ?_
  refine AOR.nil ?_
  refine AWR.block ?_
  refine AWR.loop1 (id := 0) (m_laws_markIntS_L1) (fun s1 => ([(0, (.s (.c (.loc 0 0 s1.2.2.length)))), (1, (.s (.c (iC s1.1)))), (5, (.s (.c (iC s1.2.1))))], [(0, (.prow 3 (s1.2.2.map encInt)))])) (fun b6 => ([(1, (.s (.c (iC b6.1))))], [(0, (.prow 3 (b6.2.map encInt)))])) ?_ (Ent.of ⟨rfl, rfl, rfl, trivial⟩ ⟨rfl, trivial⟩) rfl (fun b6 _ => ?_)
  · intro s1
    unfold m_laws_markIntS_L1
    refine AWR.seq ?_
    refine AWR.seq ?_
    refine AWR.region ?_
    refine AOR.pure (LT.move (v := (.s (.c (iC s1.2.1)))) rfl) ⟨rfl, trivial⟩ trivial rfl rfl ?_
    refine AOR.pure (LT.move (v := (.s (.c (.loc 0 0 s1.2.2.length)))) rfl) ⟨rfl, trivial⟩ trivial rfl rfl ?_
    refine AOR.pure (LT.lenLoc rfl und37) ⟨rfl, trivial⟩ trivial rfl rfl ?_
    refine AOR.pure (LT.lss rfl) ⟨rfl, rfl, trivial⟩ trivial rfl rfl ?_
    refine AOR.nil ?_
    refine AWR.cond rfl (fun hc7 => ?_) (fun hc7 => ?_)
    · refine AWR.skip ?_
      refine AWR.seq ?_
      refine AWR.block ?_
      refine AWR.seq ?_
      refine AWR.region ?_
      refine AOR.pure (LT.move (v := (.s (.c (.loc 0 0 s1.2.2.length)))) rfl) ⟨rfl, trivial⟩ trivial rfl rfl ?_
      refine AOR.pure (LT.move (v := (.s (.c (iC s1.2.1)))) rfl) ⟨rfl, trivial⟩ trivial rfl rfl ?_
      refine AOR.pure (LT.move (v := (.s (.c (iC s1.1)))) rfl) ⟨rfl, trivial⟩ trivial rfl rfl ?_
      refine AOR.bind fun x8 hx8 => ?_
      refine AOR.pure (LT.tindexLoc rfl rfl el37 hx8) ⟨rfl, rfl, trivial⟩ ⟨rfl, trivial⟩ rfl rfl ?_
      refine AOR.step (LT.tstore (k := 0) (v := (.c (iC s1.1))) (b' := s1.1) rfl rfl (infS inf3) sz3 (by exact rfl) hx8 (by exact rfl) (by exact Nat.le_of_ble_eq_true rfl) (by exact rfl)) ⟨rfl, rfl, trivial⟩ ⟨rfl, trivial⟩ rfl rfl ?_
      refine AOR.nil ?_
      refine AWR.ent (Ent.of (σ' := [(0, (.s (.c (.loc 0 0 s1.2.2.length)))), (1, (.s (.c (iC s1.1)))), (5, (.s (.c (iC s1.2.1))))]) (m' := [(0, (.prow 3 ((s1.2.2.set s1.2.1.toNat s1.1).map encInt)))]) ⟨rfl, rfl, rfl, trivial⟩ ⟨rfl, trivial⟩) ?_
      refine AWR.region ?_
      refine AOR.pure (LT.move (v := (.s (.c (iC s1.1)))) rfl) ⟨rfl, trivial⟩ trivial rfl rfl ?_
      refine AOR.pure (LT.add rfl) ⟨rfl, ⟨rfl, rfl⟩, trivial⟩ trivial rfl rfl ?_
      refine AOR.pure (LT.assign (v := (.s (.c (iC (w64 (s1.1 + 1)))))) rfl) ⟨rfl, trivial⟩ trivial rfl rfl ?_
      refine AOR.nil ?_
      refine AWR.blk ?_
      refine AWR.region ?_
      refine AOR.pure (LT.move (v := (.s (.c (iC s1.2.1)))) rfl) ⟨rfl, trivial⟩ trivial rfl rfl ?_
      refine AOR.pure (LT.add rfl) ⟨rfl, ⟨rfl, rfl⟩, trivial⟩ trivial rfl rfl ?_
      refine AOR.pure (LT.assign (v := (.s (.c (iC (w64 (s1.2.1 + 1)))))) rfl) ⟨rfl, trivial⟩ trivial rfl rfl ?_
      refine AOR.nil ?_
      refine AWR.nil ⟨rfl, Ent.of ⟨(congrArg (fun l1 => (some (AV.s (.c (.loc 0 0 l1))) : Option AV)) (show s1.2.2.length = (s1.2.2.set s1.2.1.toNat s1.1).length by simp only [List.length_set])), rfl, rfl, trivial⟩ ⟨rfl, trivial⟩⟩
    · refine AWR.exit_end rfl ⟨rfl, Ent.of ⟨rfl, trivial⟩ ⟨rfl, trivial⟩⟩
  · refine AWR.seq ?_
    refine AWR.region ?_
    refine AOR.pure (LT.move (v := (.s (.c (iC b6.1)))) rfl) ⟨rfl, trivial⟩ trivial rfl rfl ?_
    refine AOR.pure (LT.assign (v := (.s (.c (iC b6.1)))) rfl) ⟨rfl, trivial⟩ trivial rfl rfl ?_
    refine AOR.nil ?_
    refine AWR.ret (FPost.mk (.inr rfl) ⟨rfl, trivial⟩ ⟨rfl, trivial⟩ rfl ⟨PermP.sc, trivial⟩ ⟨PermO.prow' perm_encInt, trivial⟩)
set_option maxRecDepth 100000 in
set_option maxHeartbeats 8000000 in
theorem w_laws_heldIntS (a : (List Int)) (k : Int) : ∀ t, m_laws_heldIntS a k = some t → Fw.Fn Try.prog 48 [(.c (.pv (.xs false (a.map encInt)))), (.c (iC k))] [] (.s (.c (iC t))) [] [] [] := by
  refine Fw.Fn.of (P := Try.prog) (X := []) (pn := []) (rs := (fun (t : Int) => [(.c (iC t))])) (dfs := (fun (t : Int) => [])) Try.func48 rfl Try.ntmps48 (Nat.le_of_ble_eq_true rfl) rfl ?_
  intro w0 U0 R0 g0
  unfold m_laws_heldIntS
  refine AWR.seq ?_
  refine AWR.region ?_
  refine AOR.pure (LT.assign (v := (.s (.c (iC 0)))) rfl) ⟨⟨rfl, rfl⟩, trivial⟩ trivial rfl rfl ?_
  refine AOR.nil ?_
  refine AWR.seq ?_
  refine AWR.seq ?_
  refine AWR.region ?_
  refine AOR.pure (LT.assign (v := (.s (.c (iC 0)))) rfl) ⟨⟨rfl, rfl⟩, trivial⟩ trivial rfl rfl ?_
  refine AOR.nil ?_
  refine AWR.block ?_
  refine AWR.loopR (id := 0) (m_laws_heldIntS_L1 a) (fun s1 => ([(0, (.s (.c (.pv (.xs false (a.map encInt)))))), (1, (.s (.c (iC s1.1)))), (5, (.s (.c (iC s1.2))))], [])) (fun b8 => ([(1, (.s (.c (iC b8))))], [])) (FPost Try.prog Try.f48.results.toList [] [] (fun (t : Int) => [(.c (iC t))]) (fun (t : Int) => [])) ?_ (Ent.of ⟨rfl, rfl, rfl, trivial⟩ trivial) rfl (fun b8 _ => ?_) (by intro r t σ m ht hk; injection ht with ht; subst ht; exact hk)
  · intro s1
    unfold m_laws_heldIntS_L1
    refine AWR.seq ?_
    refine AWR.seq ?_
    refine AWR.region ?_
    refine AOR.pure (LT.move (v := (.s (.c (iC s1.2)))) rfl) ⟨rfl, trivial⟩ trivial rfl rfl ?_
    refine AOR.pure (LT.move (v := (.s (.c (.pv (.xs false (a.map encInt)))))) rfl) ⟨rfl, trivial⟩ trivial rfl rfl ?_
    refine AOR.pure (LT.tlenRO rfl und37) ⟨rfl, trivial⟩ trivial rfl rfl ?_
    refine AOR.pure (LT.lss rfl) ⟨rfl, rfl, trivial⟩ trivial rfl rfl ?_
    refine AOR.nil ?_
    refine AWR.cond rfl (fun hc9 => ?_) (fun hc9 => ?_)
    · refine AWR.skip ?_
      refine AWR.seq ?_
      refine AWR.block ?_
      refine AWR.seq ?_
      refine AWR.seq ?_
      refine AWR.region ?_
      refine AOR.pure (LT.move (v := (.s (.c (.pv (.xs false (a.map encInt)))))) rfl) ⟨rfl, trivial⟩ trivial rfl rfl ?_
      refine AOR.pure (LT.move (v := (.s (.c (iC s1.2)))) rfl) ⟨rfl, trivial⟩ trivial rfl rfl ?_
      refine AOR.bind fun x10 hx10 => ?_
      refine AOR.pure (LT.tindexRO (enc := encInt) rfl el37 hx10 sz3) ⟨rfl, rfl, trivial⟩ trivial rfl rfl ?_
      refine AOR.pure (LT.loadPx1 rfl ag3) ⟨rfl, trivial⟩ trivial rfl rfl ?_
      refine AOR.pure (LT.move (v := (.s (.c (iC s1.1)))) rfl) ⟨rfl, trivial⟩ trivial rfl rfl ?_
      refine AOR.pure (LT.neq rfl) ⟨rfl, rfl, trivial⟩ trivial rfl rfl ?_
      refine AOR.nil ?_
      refine AWR.cond rfl (fun hc11 => ?_) (fun hc11 => ?_)
      · refine AWR.seq ?_
        refine AWR.region ?_
        refine AOR.pure (LT.assign (v := (.s (.c (iC (-1))))) rfl) ⟨⟨rfl, rfl⟩, trivial⟩ trivial rfl rfl ?_
        refine AOR.nil ?_
        refine AWR.ret ⟨rfl, FPost.mk (.inr rfl) ⟨rfl, trivial⟩ trivial rfl ⟨PermP.sc, trivial⟩ trivial⟩
      · refine AWR.skip ?_
        refine AWR.region ?_
        refine AOR.pure (LT.move (v := (.s (.c (iC s1.1)))) rfl) ⟨rfl, trivial⟩ trivial rfl rfl ?_
        refine AOR.pure (LT.add rfl) ⟨rfl, ⟨rfl, rfl⟩, trivial⟩ trivial rfl rfl ?_
        refine AOR.pure (LT.assign (v := (.s (.c (iC (w64 (s1.1 + 1)))))) rfl) ⟨rfl, trivial⟩ trivial rfl rfl ?_
        refine AOR.nil ?_
        refine AWR.blk ?_
        refine AWR.ent (Ent.of (σ' := [(0, (.s (.c (.pv (.xs false (a.map encInt)))))), (1, (.s (.c (iC (w64 (s1.1 + 1)))))), (5, (.s (.c (iC s1.2))))]) (m' := []) ⟨rfl, rfl, rfl, trivial⟩ trivial) ?_
        refine AWR.region ?_
        refine AOR.pure (LT.move (v := (.s (.c (iC s1.2)))) rfl) ⟨rfl, trivial⟩ trivial rfl rfl ?_
        refine AOR.pure (LT.add rfl) ⟨rfl, ⟨rfl, rfl⟩, trivial⟩ trivial rfl rfl ?_
        refine AOR.pure (LT.assign (v := (.s (.c (iC (w64 (s1.2 + 1)))))) rfl) ⟨rfl, trivial⟩ trivial rfl rfl ?_
        refine AOR.nil ?_
        refine AWR.nil ⟨rfl, Ent.of ⟨rfl, rfl, rfl, trivial⟩ trivial⟩
    · refine AWR.exit_end rfl ⟨rfl, Ent.of ⟨rfl, trivial⟩ trivial⟩
  · refine AWR.seq ?_
    refine AWR.region ?_
    refine AOR.pure (LT.move (v := (.s (.c (iC b8)))) rfl) ⟨rfl, trivial⟩ trivial rfl rfl ?_
    refine AOR.pure (LT.assign (v := (.s (.c (iC b8)))) rfl) ⟨rfl, trivial⟩ trivial rfl rfl ?_
    refine AOR.nil ?_
    refine AWR.ret (FPost.mk (.inr rfl) ⟨rfl, trivial⟩ trivial rfl ⟨PermP.sc, trivial⟩ trivial)
end Go.Proofs.Ytoeigmhhmadmbaa
end
section
set_option linter.unusedVariables false
set_option linter.unusedSimpArgs false
set_option linter.unnecessarySimpa false
open Go Go.Fw
namespace Go.Proofs.Ytoeigmhhmadmbaa
set_option maxRecDepth 100000 in
set_option maxHeartbeats 8000000 in
theorem w_laws_markBarS (a : (List TBar)) (k : Int) : ∀ t, m_laws_markBarS a k = some t → Fw.Fn Try.prog 123 [(.c (.loc 0 0 a.length)), (.c (iC k))] [(0, (.prow 79 (a.map encTBar)))] (.s (.c (iC t.1))) [(0, (.prow 79 (t.2.map encTBar)))] [0] [] := by
  refine Fw.Fn.of (P := Try.prog) (X := []) (pn := [0]) (rs := (fun (t : (Int × (List TBar))) => [(.c (iC t.1))])) (dfs := (fun (t : (Int × (List TBar))) => [(0, (.prow 79 (t.2.map encTBar)))])) Try.func123 rfl Try.ntmps123 (Nat.le_of_ble_eq_true rfl) rfl ?_
  intro w0 U0 R0 g0
  unfold m_laws_markBarS
  refine AWR.seq ?_
  refine AWR.region ?_
  refine AOR.pure (LT.assign (v := (.s (.c (iC 0)))) rfl) ⟨⟨rfl, rfl⟩, trivial⟩ trivial rfl rfl ?_
  refine AOR.nil ?_
  refine AWR.seq ?_
  refine AWR.seq ?_
  refine AWR.region ?_
  refine AOR.pure (LT.assign (v := (.s (.c (iC 0)))) rfl) ⟨⟨rfl, rfl⟩, trivial⟩ trivial rfl rfl ?_
  refine AOR.nil ?_
  refine AWR.block ?_
  refine AWR.loop1 (id := 0) (m_laws_markBarS_L1) (fun s1 => ([(0, (.s (.c (.loc 0 0 s1.2.2.length)))), (1, (.s (.c (iC s1.1)))), (5, (.s (.c (iC s1.2.1))))], [(0, (.prow 79 (s1.2.2.map encTBar)))])) (fun b8 => ([(1, (.s (.c (iC b8.1))))], [(0, (.prow 79 (b8.2.map encTBar)))])) ?_ (Ent.of ⟨rfl, rfl, rfl, trivial⟩ ⟨rfl, trivial⟩) rfl (fun b8 _ => ?_)
  · intro s1
    unfold m_laws_markBarS_L1
    refine AWR.seq ?_
    refine AWR.seq ?_
    refine AWR.region ?_
    refine AOR.pure (LT.move (v := (.s (.c (iC s1.2.1)))) rfl) ⟨rfl, trivial⟩ trivial rfl rfl ?_
    refine AOR.pure (LT.move (v := (.s (.c (.loc 0 0 s1.2.2.length)))) rfl) ⟨rfl, trivial⟩ trivial rfl rfl ?_
    refine AOR.pure (LT.lenLoc rfl und24) ⟨rfl, trivial⟩ trivial rfl rfl ?_
    refine AOR.pure (LT.lss rfl) ⟨rfl, rfl, trivial⟩ trivial rfl rfl ?_
    refine AOR.nil ?_
    refine AWR.cond rfl (fun hc9 => ?_) (fun hc9 => ?_)
    · refine AWR.skip ?_
      refine AWR.seq ?_
      refine AWR.block ?_
      refine AWR.seq ?_
      refine AWR.region ?_
      refine AOR.pure (LT.move (v := (.s (.c (.loc 0 0 s1.2.2.length)))) rfl) ⟨rfl, trivial⟩ trivial rfl rfl ?_
      refine AOR.pure (LT.move (v := (.s (.c (iC s1.2.1)))) rfl) ⟨rfl, trivial⟩ trivial rfl rfl ?_
      refine AOR.pure (LT.move (v := (.s (.c (iC s1.1)))) rfl) ⟨rfl, trivial⟩ trivial rfl rfl ?_
      refine AOR.bind fun x10 hx10 => ?_
      refine AOR.pure (LT.tindexLoc rfl rfl el24 hx10) ⟨rfl, rfl, trivial⟩ ⟨rfl, trivial⟩ rfl rfl ?_
      refine AOR.pure (LT.fieldPl rfl fo79_0) ⟨rfl, trivial⟩ trivial rfl rfl ?_
      refine AOR.step (LT.tstore (k := 0) (v := (.c (iC s1.1))) (b' := (TBar.mk s1.1 x10.B)) rfl rfl (infS inf3) sz3 (by exact rfl) hx10 (by exact rfl) (by exact Nat.le_of_ble_eq_true rfl) (by exact rfl)) ⟨rfl, rfl, trivial⟩ ⟨rfl, trivial⟩ rfl rfl ?_
      refine AOR.nil ?_
      refine AWR.seq ?_
      refine AWR.ent (Ent.of (σ' := [(0, (.s (.c (.loc 0 0 s1.2.2.length)))), (1, (.s (.c (iC s1.1)))), (5, (.s (.c (iC s1.2.1))))]) (m' := [(0, (.prow 79 ((s1.2.2.set s1.2.1.toNat (TBar.mk s1.1 x10.B)).map encTBar)))]) ⟨rfl, rfl, rfl, trivial⟩ ⟨rfl, trivial⟩) ?_
      refine AWR.region ?_
      refine AOR.pure (LT.move (v := (.s (.c (iC s1.1)))) rfl) ⟨rfl, trivial⟩ trivial rfl rfl ?_
      refine AOR.pure (LT.add rfl) ⟨rfl, ⟨rfl, rfl⟩, trivial⟩ trivial rfl rfl ?_
      refine AOR.pure (LT.assign (v := (.s (.c (iC (w64 (s1.1 + 1)))))) rfl) ⟨rfl, trivial⟩ trivial rfl rfl ?_
      refine AOR.nil ?_
      refine AWR.seq ?_
      refine AWR.region ?_
      refine AOR.pure (LT.move (v := (.s (.c (.loc 0 0 s1.2.2.length)))) rfl) ⟨rfl, trivial⟩ trivial rfl rfl ?_
      refine AOR.pure (LT.move (v := (.s (.c (iC s1.2.1)))) rfl) ⟨rfl, trivial⟩ trivial rfl rfl ?_
      refine AOR.pure (LT.move (v := (.s (.c (iC (w64 (s1.1 + 1)))))) rfl) ⟨rfl, trivial⟩ trivial rfl rfl ?_
      refine AOR.bind fun x11 hx11 => ?_
      refine AOR.pure (LT.tindexLoc (show s1.2.2.length = (s1.2.2.set s1.2.1.toNat (TBar.mk s1.1 x10.B)).length by simp only [List.length_set]) rfl el24 hx11) ⟨rfl, rfl, trivial⟩ ⟨rfl, trivial⟩ rfl rfl ?_
      refine AOR.pure (LT.fieldPl rfl fo79_1) ⟨rfl, trivial⟩ trivial rfl rfl ?_
      refine AOR.step (LT.tstore (k := 1) (v := (.c (iC (w64 (s1.1 + 1))))) (b' := (TBar.mk x11.A (w64 (s1.1 + 1)))) rfl rfl (infS inf3) sz3 (by exact rfl) hx11 (by exact rfl) (by exact Nat.le_of_ble_eq_true rfl) (by exact rfl)) ⟨rfl, rfl, trivial⟩ ⟨rfl, trivial⟩ rfl rfl ?_
      refine AOR.nil ?_
      refine AWR.ent (Ent.of (σ' := [(0, (.s (.c (.loc 0 0 s1.2.2.length)))), (1, (.s (.c (iC (w64 (s1.1 + 1)))))), (5, (.s (.c (iC s1.2.1))))]) (m' := [(0, (.prow 79 (((s1.2.2.set s1.2.1.toNat (TBar.mk s1.1 x10.B)).set s1.2.1.toNat (TBar.mk x11.A (w64 (s1.1 + 1)))).map encTBar)))]) ⟨rfl, rfl, rfl, trivial⟩ ⟨rfl, trivial⟩) ?_
      refine AWR.region ?_
      refine AOR.pure (LT.move (v := (.s (.c (iC (w64 (s1.1 + 1)))))) rfl) ⟨rfl, trivial⟩ trivial rfl rfl ?_
      refine AOR.pure (LT.add rfl) ⟨rfl, ⟨rfl, rfl⟩, trivial⟩ trivial rfl rfl ?_
      refine AOR.pure (LT.assign (v := (.s (.c (iC (w64 ((w64 (s1.1 + 1)) + 1)))))) rfl) ⟨rfl, trivial⟩ trivial rfl rfl ?_
      refine AOR.nil ?_
      refine AWR.blk ?_
      refine AWR.region ?_
      refine AOR.pure (LT.move (v := (.s (.c (iC s1.2.1)))) rfl) ⟨rfl, trivial⟩ trivial rfl rfl ?_
      refine AOR.pure (LT.add rfl) ⟨rfl, ⟨rfl, rfl⟩, trivial⟩ trivial rfl rfl ?_
      refine AOR.pure (LT.assign (v := (.s (.c (iC (w64 (s1.2.1 + 1)))))) rfl) ⟨rfl, trivial⟩ trivial rfl rfl ?_
      refine AOR.nil ?_
      refine AWR.nil ⟨rfl, Ent.of ⟨(congrArg (fun l1 => (some (AV.s (.c (.loc 0 0 l1))) : Option AV)) (show s1.2.2.length = ((s1.2.2.set s1.2.1.toNat (TBar.mk s1.1 x10.B)).set s1.2.1.toNat (TBar.mk x11.A (w64 (s1.1 + 1)))).length by simp only [List.length_set])), rfl, rfl, trivial⟩ ⟨rfl, trivial⟩⟩
    · refine AWR.exit_end rfl ⟨rfl, Ent.of ⟨rfl, trivial⟩ ⟨rfl, trivial⟩⟩
  · refine AWR.seq ?_
    refine AWR.region ?_
    refine AOR.pure (LT.move (v := (.s (.c (iC b8.1)))) rfl) ⟨rfl, trivial⟩ trivial rfl rfl ?_
    refine AOR.pure (LT.assign (v := (.s (.c (iC b8.1)))) rfl) ⟨rfl, trivial⟩ trivial rfl rfl ?_
    refine AOR.nil ?_
    refine AWR.ret (FPost.mk (.inr rfl) ⟨rfl, trivial⟩ ⟨rfl, trivial⟩ rfl ⟨PermP.sc, trivial⟩ ⟨PermO.prow' perm_encTBar, trivial⟩)
set_option maxRecDepth 100000 in
set_option maxHeartbeats 8000000 in
theorem w_laws_markGraph (a : TGraph) (k : Int) : ∀ t, m_laws_markGraph a k = some t → Fw.Fn Try.prog 58 [(.agg [(iC a.Points), (.loc 0 0 a.Bars.length)]), (.c (iC k))] [(0, (.prow 79 (a.Bars.map encTBar)))] (.s (.c (iC t.1))) [(0, (.prow 79 (t.2.map encTBar)))] [0] [] := by
  refine Fw.Fn.of (P := Try.prog) (X := []) (pn := [0]) (rs := (fun (t : (Int × (List TBar))) => [(.c (iC t.1))])) (dfs := (fun (t : (Int × (List TBar))) => [(0, (.prow 79 (t.2.map encTBar)))])) Try.func58 rfl Try.ntmps58 (Nat.le_of_ble_eq_true rfl) rfl ?_
  intro w0 U0 R0 g0
  unfold m_laws_markGraph
  refine AWR.seq ?_
  refine AWR.region ?_
  refine AOR.step (LT.box (n := 21) (v := (.agg [(iC a.Points), (.loc 0 0 a.Bars.length)])) rfl sz26 (by exact rfl)) ⟨rfl, trivial⟩ trivial rfl rfl ?_
  refine AOR.pure (LT.assign (v := (.s (.c (iC 0)))) rfl) ⟨⟨rfl, rfl⟩, trivial⟩ trivial rfl rfl ?_
  refine AOR.nil ?_
  refine AWR.seq ?_
  refine AWR.region ?_
  refine AOR.pure (LT.fieldPl rfl fo26_1) ⟨rfl, trivial⟩ trivial rfl rfl ?_
  refine AOR.pure (LT.bload1 (c := (.loc 0 0 a.Bars.length)) rfl ag24 (by exact rfl)) ⟨rfl, trivial⟩ ⟨rfl, trivial⟩ rfl rfl ?_
  refine AOR.pure (LT.move (v := (.s (.c (iC k)))) rfl) ⟨rfl, trivial⟩ trivial rfl rfl ?_
  refine AOR.bind fun r1 hr1 => ?_
  refine AOR.step (@LT.callF Try.prog _ _ 123 _ _ [(.c (.loc 0 0 a.Bars.length)), (.c (iC k))] _ _ [] _ _ _ _ ((show Fw.Fn Try.prog 123 [(.c (.loc 0 0 a.Bars.length)), (.c (iC k))] [(0, (.prow 79 (a.Bars.map encTBar)))] (.s (.c (iC r1.1))) [(0, (.prow 79 (r1.2.map encTBar)))] [0] [] from Fw.Fn.ren [(0, 0)] (w_laws_markBarS a.Bars k r1 hr1) rfl)) rfl cb123 (.cons (.c (.same rfl)) (.cons (.c (.same rfl)) .nil)) rfl rfl ⟨rfl, trivial⟩) ⟨rfl, rfl, rfl, trivial⟩ ⟨rfl, trivial⟩ rfl rfl ?_
  refine AOR.pure (LT.assign (v := (.s (.c (iC r1.1)))) rfl) ⟨rfl, trivial⟩ trivial rfl rfl ?_
  refine AOR.nil ?_
  refine AWR.seq ?_
  refine AWR.ent (Ent.of (σ' := [(1, (.s (.c (iC r1.1))))]) (m' := [(0, (.prow 79 (r1.2.map encTBar)))]) ⟨rfl, trivial⟩ ⟨rfl, trivial⟩) ?_
  refine AWR.region ?_
  refine AOR.pure (LT.move (v := (.s (.c (iC r1.1)))) rfl) ⟨rfl, trivial⟩ trivial rfl rfl ?_
  refine AOR.pure (LT.assign (v := (.s (.c (iC r1.1)))) rfl) ⟨rfl, trivial⟩ trivial rfl rfl ?_
  refine AOR.nil ?_
  refine AWR.ret (FPost.mk (.inr rfl) ⟨rfl, trivial⟩ ⟨rfl, trivial⟩ rfl ⟨PermP.sc, trivial⟩ ⟨PermO.prow' perm_encTBar, trivial⟩)
set_option maxRecDepth 100000 in
set_option maxHeartbeats 8000000 in
theorem w_laws_markPlaceS (a : (List TPlace)) (k : Int) : ∀ t, m_laws_markPlaceS a k = some t → Fw.Fn Try.prog 112 [(.c (.loc 0 0 a.length)), (.c (iC k))] [(0, (.prow 95 (a.map encTPlace)))] (.s (.c (iC t.1))) [(0, (.prow 95 (t.2.map encTPlace)))] [0] [] := by
  refine Fw.Fn.of (P := Try.prog) (X := []) (pn := [0]) (rs := (fun (t : (Int × (List TPlace))) => [(.c (iC t.1))])) (dfs := (fun (t : (Int × (List TPlace))) => [(0, (.prow 95 (t.2.map encTPlace)))])) Try.func112 rfl Try.ntmps112 (Nat.le_of_ble_eq_true rfl) rfl ?_
  intro w0 U0 R0 g0
  unfold m_laws_markPlaceS
  refine AWR.seq ?_
  refine AWR.region ?_
  refine AOR.pure (LT.assign (v := (.s (.c (iC 0)))) rfl) ⟨⟨rfl, rfl⟩, trivial⟩ trivial rfl rfl ?_
  refine AOR.nil ?_
  refine AWR.seq ?_
  refine AWR.seq ?_
  refine AWR.region ?_
  refine AOR.pure (LT.assign (v := (.s (.c (iC 0)))) rfl) ⟨⟨rfl, rfl⟩, trivial⟩ trivial rfl rfl ?_
  refine AOR.nil ?_
  refine AWR.block ?_
  refine AWR.loop1 (id := 0) (m_laws_markPlaceS_L1) (fun s1 => ([(0, (.s (.c (.loc 0 0 s1.2.2.length)))), (1, (.s (.c (iC s1.1)))), (5, (.s (.c (iC s1.2.1))))], [(0, (.prow 95 (s1.2.2.map encTPlace)))])) (fun b8 => ([(1, (.s (.c (iC b8.1))))], [(0, (.prow 95 (b8.2.map encTPlace)))])) ?_ (Ent.of ⟨rfl, rfl, rfl, trivial⟩ ⟨rfl, trivial⟩) rfl (fun b8 _ => ?_)
  · intro s1
    unfold m_laws_markPlaceS_L1
    refine AWR.seq ?_
    refine AWR.seq ?_
    refine AWR.region ?_
    refine AOR.pure (LT.move (v := (.s (.c (iC s1.2.1)))) rfl) ⟨rfl, trivial⟩ trivial rfl rfl ?_
    refine AOR.pure (LT.move (v := (.s (.c (.loc 0 0 s1.2.2.length)))) rfl) ⟨rfl, trivial⟩ trivial rfl rfl ?_
    refine AOR.pure (LT.lenLoc rfl und27) ⟨rfl, trivial⟩ trivial rfl rfl ?_
    refine AOR.pure (LT.lss rfl) ⟨rfl, rfl, trivial⟩ trivial rfl rfl ?_
    refine AOR.nil ?_
    refine AWR.cond rfl (fun hc9 => ?_) (fun hc9 => ?_)
    · refine AWR.skip ?_
      refine AWR.seq ?_
      refine AWR.block ?_
      refine AWR.seq ?_
      refine AWR.region ?_
      refine AOR.pure (LT.move (v := (.s (.c (.loc 0 0 s1.2.2.length)))) rfl) ⟨rfl, trivial⟩ trivial rfl rfl ?_
      refine AOR.pure (LT.move (v := (.s (.c (iC s1.2.1)))) rfl) ⟨rfl, trivial⟩ trivial rfl rfl ?_
      refine AOR.pure (LT.move (v := (.s (.c (iC s1.1)))) rfl) ⟨rfl, trivial⟩ trivial rfl rfl ?_
      refine AOR.bind fun x10 hx10 => ?_
      refine AOR.pure (LT.tindexLoc rfl rfl el27 hx10) ⟨rfl, rfl, trivial⟩ ⟨rfl, trivial⟩ rfl rfl ?_
      refine AOR.pure (LT.fieldPl rfl fo95_0) ⟨rfl, trivial⟩ trivial rfl rfl ?_
      refine AOR.step (LT.tstore (k := 0) (v := (.c (iC s1.1))) (b' := (TPlace.mk s1.1 x10.Y)) rfl rfl (infS inf3) sz3 (by exact rfl) hx10 (by exact rfl) (by exact Nat.le_of_ble_eq_true rfl) (by exact rfl)) ⟨rfl, rfl, trivial⟩ ⟨rfl, trivial⟩ rfl rfl ?_
      refine AOR.nil ?_
      refine AWR.seq ?_
      refine AWR.ent (Ent.of (σ' := [(0, (.s (.c (.loc 0 0 s1.2.2.length)))), (1, (.s (.c (iC s1.1)))), (5, (.s (.c (iC s1.2.1))))]) (m' := [(0, (.prow 95 ((s1.2.2.set s1.2.1.toNat (TPlace.mk s1.1 x10.Y)).map encTPlace)))]) ⟨rfl, rfl, rfl, trivial⟩ ⟨rfl, trivial⟩) ?_
      refine AWR.region ?_
      refine AOR.pure (LT.move (v := (.s (.c (iC s1.1)))) rfl) ⟨rfl, trivial⟩ trivial rfl rfl ?_
      refine AOR.pure (LT.add rfl) ⟨rfl, ⟨rfl, rfl⟩, trivial⟩ trivial rfl rfl ?_
      refine AOR.pure (LT.assign (v := (.s (.c (iC (w64 (s1.1 + 1)))))) rfl) ⟨rfl, trivial⟩ trivial rfl rfl ?_
      refine AOR.nil ?_
      refine AWR.seq ?_
      refine AWR.region ?_
      refine AOR.pure (LT.move (v := (.s (.c (.loc 0 0 s1.2.2.length)))) rfl) ⟨rfl, trivial⟩ trivial rfl rfl ?_
      refine AOR.pure (LT.move (v := (.s (.c (iC s1.2.1)))) rfl) ⟨rfl, trivial⟩ trivial rfl rfl ?_
      refine AOR.pure (LT.move (v := (.s (.c (iC (w64 (s1.1 + 1)))))) rfl) ⟨rfl, trivial⟩ trivial rfl rfl ?_
      refine AOR.bind fun x11 hx11 => ?_
      refine AOR.pure (LT.tindexLoc (show s1.2.2.length = (s1.2.2.set s1.2.1.toNat (TPlace.mk s1.1 x10.Y)).length by simp only [List.length_set]) rfl el27 hx11) ⟨rfl, rfl, trivial⟩ ⟨rfl, trivial⟩ rfl rfl ?_
      refine AOR.pure (LT.fieldPl rfl fo95_1) ⟨rfl, trivial⟩ trivial rfl rfl ?_
      refine AOR.step (LT.tstore (k := 1) (v := (.c (iC (w64 (s1.1 + 1))))) (b' := (TPlace.mk x11.X (w64 (s1.1 + 1)))) rfl rfl (infS inf3) sz3 (by exact rfl) hx11 (by exact rfl) (by exact Nat.le_of_ble_eq_true rfl) (by exact rfl)) ⟨rfl, rfl, trivial⟩ ⟨rfl, trivial⟩ rfl rfl ?_
      refine AOR.nil ?_
      refine AWR.ent (Ent.of (σ' := [(0, (.s (.c (.loc 0 0 s1.2.2.length)))), (1, (.s (.c (iC (w64 (s1.1 + 1)))))), (5, (.s (.c (iC s1.2.1))))]) (m' := [(0, (.prow 95 (((s1.2.2.set s1.2.1.toNat (TPlace.mk s1.1 x10.Y)).set s1.2.1.toNat (TPlace.mk x11.X (w64 (s1.1 + 1)))).map encTPlace)))]) ⟨rfl, rfl, rfl, trivial⟩ ⟨rfl, trivial⟩) ?_
      refine AWR.region ?_
      refine AOR.pure (LT.move (v := (.s (.c (iC (w64 (s1.1 + 1)))))) rfl) ⟨rfl, trivial⟩ trivial rfl rfl ?_
      refine AOR.pure (LT.add rfl) ⟨rfl, ⟨rfl, rfl⟩, trivial⟩ trivial rfl rfl ?_
      refine AOR.pure (LT.assign (v := (.s (.c (iC (w64 ((w64 (s1.1 + 1)) + 1)))))) rfl) ⟨rfl, trivial⟩ trivial rfl rfl ?_
      refine AOR.nil ?_
      refine AWR.blk ?_
      refine AWR.region ?_
      refine AOR.pure (LT.move (v := (.s (.c (iC s1.2.1)))) rfl) ⟨rfl, trivial⟩ trivial rfl rfl ?_
      refine AOR.pure (LT.add rfl) ⟨rfl, ⟨rfl, rfl⟩, trivial⟩ trivial rfl rfl ?_
      refine AOR.pure (LT.assign (v := (.s (.c (iC (w64 (s1.2.1 + 1)))))) rfl) ⟨rfl, trivial⟩ trivial rfl rfl ?_
      refine AOR.nil ?_
      refine AWR.nil ⟨rfl, Ent.of ⟨(congrArg (fun l1 => (some (AV.s (.c (.loc 0 0 l1))) : Option AV)) (show s1.2.2.length = ((s1.2.2.set s1.2.1.toNat (TPlace.mk s1.1 x10.Y)).set s1.2.1.toNat (TPlace.mk x11.X (w64 (s1.1 + 1)))).length by simp only [List.length_set])), rfl, rfl, trivial⟩ ⟨rfl, trivial⟩⟩
    · refine AWR.exit_end rfl ⟨rfl, Ent.of ⟨rfl, trivial⟩ ⟨rfl, trivial⟩⟩
  · refine AWR.seq ?_
    refine AWR.region ?_
    refine AOR.pure (LT.move (v := (.s (.c (iC b8.1)))) rfl) ⟨rfl, trivial⟩ trivial rfl rfl ?_
    refine AOR.pure (LT.assign (v := (.s (.c (iC b8.1)))) rfl) ⟨rfl, trivial⟩ trivial rfl rfl ?_
    refine AOR.nil ?_
    refine AWR.ret (FPost.mk (.inr rfl) ⟨rfl, trivial⟩ ⟨rfl, trivial⟩ rfl ⟨PermP.sc, trivial⟩ ⟨PermO.prow' perm_encTPlace, trivial⟩)
set_option maxRecDepth 100000 in
set_option maxHeartbeats 8000000 in
theorem w_laws_markFramework (a : TFramework) (k : Int) : ∀ t, m_laws_markFramework a k = some t → Fw.Fn Try.prog 46 [(.agg [(iC a.Graph.Points), (.loc 0 0 a.Graph.Bars.length), (.loc 1 0 a.Places.length)]), (.c (iC k))] [(0, (.prow 79 (a.Graph.Bars.map encTBar))), (1, (.prow 95 (a.Places.map encTPlace)))] (.s (.c (iC t.1))) [(0, (.prow 79 (t.2.1.map encTBar))), (1, (.prow 95 (t.2.2.map encTPlace)))] [0, 1] [] := by
  refine Fw.Fn.of (P := Try.prog) (X := []) (pn := [0, 1]) (rs := (fun (t : (Int × (List TBar) × (List TPlace))) => [(.c (iC t.1))])) (dfs := (fun (t : (Int × (List TBar) × (List TPlace))) => [(0, (.prow 79 (t.2.1.map encTBar))), (1, (.prow 95 (t.2.2.map encTPlace)))])) Try.func46 rfl Try.ntmps46 (Nat.le_of_ble_eq_true rfl) rfl ?_
  intro w0 U0 R0 g0
  unfold m_laws_markFramework
  refine AWR.seq ?_
  refine AWR.region ?_
  refine AOR.step (LT.box (n := 21) (v := (.agg [(iC a.Graph.Points), (.loc 0 0 a.Graph.Bars.length), (.loc 1 0 a.Places.length)])) rfl sz29 (by exact rfl)) ⟨rfl, trivial⟩ trivial rfl rfl ?_
  refine AOR.pure (LT.assign (v := (.s (.c (iC 0)))) rfl) ⟨⟨rfl, rfl⟩, trivial⟩ trivial rfl rfl ?_
  refine AOR.nil ?_
  refine AWR.seq ?_
  refine AWR.region ?_
  refine AOR.pure (LT.fieldPl rfl fo29_0) ⟨rfl, trivial⟩ trivial rfl rfl ?_
  refine AOR.pure (LT.bloadN (out := [(iC a.Graph.Points), (.loc 0 0 a.Graph.Bars.length)]) rfl ag26 (infS inf26) sz26 (by exact rfl) (by exact rfl)) ⟨rfl, trivial⟩ ⟨rfl, trivial⟩ rfl rfl ?_
  refine AOR.pure (LT.move (v := (.s (.c (iC k)))) rfl) ⟨rfl, trivial⟩ trivial rfl rfl ?_
  refine AOR.bind fun r1 hr1 => ?_
  refine AOR.step (@LT.callF Try.prog _ _ 58 _ _ [(.agg [(iC a.Graph.Points), (.loc 0 0 a.Graph.Bars.length)]), (.c (iC k))] _ _ [] _ _ _ _ ((show Fw.Fn Try.prog 58 [(.agg [(iC a.Graph.Points), (.loc 0 0 a.Graph.Bars.length)]), (.c (iC k))] [(0, (.prow 79 (a.Graph.Bars.map encTBar)))] (.s (.c (iC r1.1))) [(0, (.prow 79 (r1.2.map encTBar)))] [0] [] from Fw.Fn.ren [(0, 0)] (w_laws_markGraph a.Graph k r1 hr1) rfl)) rfl cb58 (.cons (.agg (.cons (.same rfl) (.cons (.same rfl) .nil))) (.cons (.c (.same rfl)) .nil)) rfl rfl ⟨rfl, trivial⟩) ⟨rfl, rfl, rfl, trivial⟩ ⟨rfl, trivial⟩ rfl rfl ?_
  refine AOR.pure (LT.assign (v := (.s (.c (iC r1.1)))) rfl) ⟨rfl, trivial⟩ trivial rfl rfl ?_
  refine AOR.nil ?_
  refine AWR.seq ?_
  refine AWR.ent (Ent.of (σ' := [(1, (.s (.c (iC r1.1)))), (2, (.s (.c (.pl 21 0))))]) (m' := [(0, (.prow 79 (r1.2.map encTBar))), (1, (.prow 95 (a.Places.map encTPlace))), (21, (.row 29 [[(iC a.Graph.Points), (.loc 0 0 a.Graph.Bars.length), (.loc 1 0 a.Places.length)]]))]) ⟨rfl, rfl, trivial⟩ ⟨rfl, rfl, rfl, trivial⟩) ?_
  refine AWR.region ?_
  refine AOR.pure (LT.fieldPl rfl fo29_1) ⟨rfl, trivial⟩ trivial rfl rfl ?_
  refine AOR.pure (LT.bload1 (c := (.loc 1 0 a.Places.length)) rfl ag27 (by exact rfl)) ⟨rfl, trivial⟩ ⟨rfl, trivial⟩ rfl rfl ?_
  refine AOR.pure (LT.move (v := (.s (.c (iC r1.1)))) rfl) ⟨rfl, trivial⟩ trivial rfl rfl ?_
  refine AOR.bind fun r2 hr2 => ?_
  refine AOR.step (@LT.callF Try.prog _ _ 112 _ _ [(.c (.loc 1 0 a.Places.length)), (.c (iC r1.1))] _ _ [] _ _ _ _ ((show Fw.Fn Try.prog 112 [(.c (.loc 1 0 a.Places.length)), (.c (iC r1.1))] [(1, (.prow 95 (a.Places.map encTPlace)))] (.s (.c (iC r2.1))) [(1, (.prow 95 (r2.2.map encTPlace)))] [1] [] from Fw.Fn.ren [(0, 1)] (w_laws_markPlaceS a.Places r1.1 r2 hr2) rfl)) rfl cb112 (.cons (.c (.same rfl)) (.cons (.c (.same rfl)) .nil)) rfl rfl ⟨rfl, trivial⟩) ⟨rfl, rfl, rfl, trivial⟩ ⟨rfl, trivial⟩ rfl rfl ?_
  refine AOR.pure (LT.assign (v := (.s (.c (iC r2.1)))) rfl) ⟨rfl, trivial⟩ trivial rfl rfl ?_
  refine AOR.nil ?_
  refine AWR.seq ?_
  refine AWR.region ?_
  refine AOR.pure (LT.move (v := (.s (.c (iC r2.1)))) rfl) ⟨rfl, trivial⟩ trivial rfl rfl ?_
  refine AOR.pure (LT.assign (v := (.s (.c (iC r2.1)))) rfl) ⟨rfl, trivial⟩ trivial rfl rfl ?_
  refine AOR.nil ?_
  refine AWR.ret (FPost.mk (.inr rfl) ⟨rfl, trivial⟩ ⟨rfl, rfl, trivial⟩ rfl ⟨PermP.sc, trivial⟩ ⟨PermO.prow' perm_encTBar, PermO.prow' perm_encTPlace, trivial⟩)
end Go.Proofs.Ytoeigmhhmadmbaa
end
