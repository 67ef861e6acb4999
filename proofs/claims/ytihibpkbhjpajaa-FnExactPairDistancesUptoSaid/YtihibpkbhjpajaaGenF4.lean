/- The code computes the models. Written by a program of mine. -/
import Derived.Test.YtihibpkbhjpajaaGenF3
set_option linter.unusedVariables false
set_option linter.unusedSimpArgs false
open Go Go.Fw
namespace Go.Proofs.Ytihibpkbhjpajaa
set_option maxRecDepth 100000 in
set_option maxHeartbeats 8000000 in
theorem w_spec_WithoutPoints (g : TGraph) (setV : (List Int)) : ∀ t, m_spec_WithoutPoints g setV = some t → Fw.Fn Try.prog 29 [(.agg [(iC g.Points), (.pv (.xs false (g.Bars.map encTBar)))]), (.c (.pv (.xs false (setV.map encInt))))] [] (.s (.agg [(iC t.Points), (.loc 0 0 t.Bars.length)])) [(0, (.prow 88 (t.Bars.map encTBar)))] [] [0] := by
  refine Fw.Fn.of (P := Try.prog) (X := [0]) (pn := []) (rs := (fun (t : TGraph) => [(.agg [(iC t.Points), (.loc 0 0 t.Bars.length)])])) (dfs := (fun (t : TGraph) => [(0, (.prow 88 (t.Bars.map encTBar)))])) Try.func29 rfl Try.ntmps29 (Nat.le_of_ble_eq_true rfl) rfl ?_
  intro w0 U0 R0 g0
  unfold m_spec_WithoutPoints
  refine AWR.seq ?_
  refine AWR.region ?_
  refine AOR.step (LT.box (n := 21) (v := (.agg [(iC g.Points), (.pv (.xs false (g.Bars.map encTBar)))])) rfl sz30 (by exact rfl)) ⟨rfl, trivial⟩ trivial rfl rfl ?_
  refine AOR.step (LT.alloc (n := 22) (cells := [(iC 0), (sC nilV)]) rfl ti30 rfl rfl rfl) trivial trivial rfl rfl ?_
  refine AOR.nil ?_
  refine AWR.seq ?_
  refine AWR.region ?_
  refine AOR.pure (LT.fieldPl rfl fo30_0) ⟨rfl, trivial⟩ trivial rfl rfl ?_
  refine AOR.pure (LT.bload1 (c := (iC g.Points)) rfl ag3 (by exact rfl)) ⟨rfl, trivial⟩ ⟨rfl, trivial⟩ rfl rfl ?_
  refine AOR.pure (LT.min rfl) ⟨⟨rfl, rfl⟩, rfl, trivial⟩ trivial rfl rfl ?_
  refine AOR.pure (LT.max rfl) ⟨⟨rfl, rfl⟩, rfl, trivial⟩ trivial rfl rfl ?_
  refine AOR.bind fun u1 hu1 => ?_
  refine AOR.step (LT.tmake (n := 23) (enc := encInt) (zc := [(iC 0)]) (0 : Int) rfl und40 ti3 rfl rfl rfl (by decide) (by decide) (lenOk_le hu1) rfl) ⟨rfl, rfl, trivial⟩ trivial rfl rfl ?_
  refine AOR.pure (LT.assign (v := (.s (.c (.loc 23 0 (List.replicate (if 0 < (if g.Points < 8 then g.Points else 8) then (if g.Points < 8 then g.Points else 8) else 0).toNat (0 : Int)).length)))) rfl) ⟨rfl, trivial⟩ trivial rfl rfl ?_
  refine AOR.nil ?_
  refine AWR.seq ?_
  refine AWR.ent (Ent.of (σ' := [(1, (.s (.c (.pv (.xs false (setV.map encInt)))))), (2, (.s (.c (.pl 21 0)))), (4, (.s (.c (.pl 22 0)))), (5, (.s (.c (.loc 23 0 (List.replicate (if 0 < (if g.Points < 8 then g.Points else 8) then (if g.Points < 8 then g.Points else 8) else 0).toNat (0 : Int)).length))))]) (m' := [(21, (.row 30 [[(iC g.Points), (.pv (.xs false (g.Bars.map encTBar)))]])), (22, (.row 30 [[(iC 0), (sC nilV)]])), (23, (.prow 3 ((List.replicate (if 0 < (if g.Points < 8 then g.Points else 8) then (if g.Points < 8 then g.Points else 8) else 0).toNat (0 : Int)).map encInt)))]) ⟨rfl, rfl, rfl, rfl, trivial⟩ ⟨rfl, rfl, rfl, trivial⟩) ?_
  refine AWR.region ?_
  refine AOR.pure (LT.assign (v := (.s (.c (iC 0)))) rfl) ⟨⟨rfl, rfl⟩, trivial⟩ trivial rfl rfl ?_
  refine AOR.nil ?_
  refine AWR.seq ?_
  refine AWR.seq ?_
  refine AWR.region ?_
  refine AOR.pure (LT.assign (v := (.s (.c (iC 0)))) rfl) ⟨⟨rfl, rfl⟩, trivial⟩ trivial rfl rfl ?_
  refine AOR.nil ?_
  refine AWR.block ?_
  refine AWR.loop1 (id := 0) (m_spec_WithoutPoints_L1 setV) (fun s2 => ([(1, (.s (.c (.pv (.xs false (setV.map encInt)))))), (2, (.s (.c (.pl 21 0)))), (4, (.s (.c (.pl 22 0)))), (5, (.s (.c (.loc 23 0 s2.2.2.length)))), (6, (.s (.c (iC s2.1)))), (7, (.s (.c (iC s2.2.1))))], [(21, (.row 30 [[(iC g.Points), (.pv (.xs false (g.Bars.map encTBar)))]])), (22, (.row 30 [[(iC 0), (sC nilV)]])), (23, (.prow 3 (s2.2.2.map encInt)))])) (fun b19 => ([(2, (.s (.c (.pl 21 0)))), (4, (.s (.c (.pl 22 0)))), (5, (.s (.c (.loc 23 0 b19.2.length)))), (6, (.s (.c (iC b19.1))))], [(21, (.row 30 [[(iC g.Points), (.pv (.xs false (g.Bars.map encTBar)))]])), (22, (.row 30 [[(iC 0), (sC nilV)]])), (23, (.prow 3 (b19.2.map encInt)))])) ?_ (Ent.of ⟨rfl, rfl, rfl, rfl, rfl, rfl, trivial⟩ ⟨rfl, rfl, rfl, trivial⟩) rfl (fun b19 _ => ?_)
  · intro s2
    unfold m_spec_WithoutPoints_L1
    refine AWR.seq ?_
    refine AWR.seq ?_
    refine AWR.region ?_
    refine AOR.pure (LT.move (v := (.s (.c (iC s2.2.1)))) rfl) ⟨rfl, trivial⟩ trivial rfl rfl ?_
    refine AOR.pure (LT.move (v := (.s (.c (.loc 23 0 s2.2.2.length)))) rfl) ⟨rfl, trivial⟩ trivial rfl rfl ?_
    refine AOR.pure (LT.lenLoc rfl und40) ⟨rfl, trivial⟩ trivial rfl rfl ?_
    refine AOR.pure (LT.lss rfl) ⟨rfl, rfl, trivial⟩ trivial rfl rfl ?_
    refine AOR.nil ?_
    refine AWR.cond rfl (fun hc20 => ?_) (fun hc20 => ?_)
    · refine AWR.skip ?_
      refine AWR.seq ?_
      refine AWR.block ?_
      refine AWR.seq ?_
      refine AWR.region ?_
      refine AOR.pure (LT.move (v := (.s (.c (.loc 23 0 s2.2.2.length)))) rfl) ⟨rfl, trivial⟩ trivial rfl rfl ?_
      refine AOR.pure (LT.move (v := (.s (.c (iC s2.2.1)))) rfl) ⟨rfl, trivial⟩ trivial rfl rfl ?_
      refine AOR.bind fun x21 hx21 => ?_
      refine AOR.pure (LT.tindexLoc rfl rfl el40 hx21) ⟨rfl, rfl, trivial⟩ ⟨rfl, trivial⟩ rfl rfl ?_
      refine AOR.step (LT.tstore (k := 0) (v := (.c (iC (-1)))) (b' := (-1)) rfl rfl (infS inf3) sz3 (by exact rfl) hx21 (by exact rfl) (by exact Nat.le_of_ble_eq_true rfl) (by exact rfl)) ⟨rfl, ⟨rfl, rfl⟩, trivial⟩ ⟨rfl, trivial⟩ rfl rfl ?_
      refine AOR.nil ?_
      refine AWR.seq ?_
      refine AWR.region ?_
      refine AOR.pure (LT.move (v := (.s (.c (.pv (.xs false (setV.map encInt)))))) rfl) ⟨rfl, trivial⟩ trivial rfl rfl ?_
      refine AOR.pure (LT.move (v := (.s (.c (iC s2.2.1)))) rfl) ⟨rfl, trivial⟩ trivial rfl rfl ?_
      refine AOR.bind fun r22 hr22 => ?_
      refine AOR.pure (@LT.callF Try.prog _ _ 72 _ _ [(.c (.pv (.xs false (setV.map encInt)))), (.c (iC s2.2.1))] _ _ [] _ _ _ _ (w_spec_l2Has setV s2.2.1 r22 hr22) rfl cb72 (.cons (.c (.same rfl)) (.cons (.c (.same rfl)) .nil)) rfl rfl trivial) ⟨rfl, rfl, rfl, trivial⟩ trivial rfl rfl ?_
      refine AOR.pure (LT.not rfl) ⟨rfl, trivial⟩ trivial rfl rfl ?_
      refine AOR.nil ?_
      refine AWR.joinK (fun j25 => ([(1, (.s (.c (.pv (.xs false (setV.map encInt)))))), (2, (.s (.c (.pl 21 0)))), (4, (.s (.c (.pl 22 0)))), (5, (.s (.c (.loc 23 0 j25.2.length)))), (6, (.s (.c (iC j25.1)))), (7, (.s (.c (iC s2.2.1))))], [(21, (.row 30 [[(iC g.Points), (.pv (.xs false (g.Bars.map encTBar)))]])), (22, (.row 30 [[(iC 0), (sC nilV)]])), (23, (.prow 3 (j25.2.map encInt)))])) ?_ (fun j25 _ => ?_)
      · refine AWR.cond rfl (fun hc26 => ?_) (fun hc26 => ?_)
        · refine AWR.seq ?_
          refine AWR.ent (Ent.of (σ' := [(1, (.s (.c (.pv (.xs false (setV.map encInt)))))), (2, (.s (.c (.pl 21 0)))), (4, (.s (.c (.pl 22 0)))), (5, (.s (.c (.loc 23 0 s2.2.2.length)))), (6, (.s (.c (iC s2.1)))), (7, (.s (.c (iC s2.2.1))))]) (m' := [(21, (.row 30 [[(iC g.Points), (.pv (.xs false (g.Bars.map encTBar)))]])), (22, (.row 30 [[(iC 0), (sC nilV)]])), (23, (.prow 3 ((s2.2.2.set s2.2.1.toNat (-1)).map encInt)))]) ⟨rfl, rfl, rfl, rfl, rfl, rfl, trivial⟩ ⟨rfl, rfl, rfl, trivial⟩) ?_
          refine AWR.region ?_
          refine AOR.pure (LT.move (v := (.s (.c (.loc 23 0 s2.2.2.length)))) rfl) ⟨rfl, trivial⟩ trivial rfl rfl ?_
          refine AOR.pure (LT.move (v := (.s (.c (iC s2.2.1)))) rfl) ⟨rfl, trivial⟩ trivial rfl rfl ?_
          refine AOR.pure (LT.move (v := (.s (.c (iC s2.1)))) rfl) ⟨rfl, trivial⟩ trivial rfl rfl ?_
          refine AOR.bind fun x27 hx27 => ?_
          refine AOR.pure (LT.tindexLoc (show s2.2.2.length = (s2.2.2.set s2.2.1.toNat (-1)).length by simp only [List.length_set]) rfl el40 hx27) ⟨rfl, rfl, trivial⟩ ⟨rfl, trivial⟩ rfl rfl ?_
          refine AOR.step (LT.tstore (k := 0) (v := (.c (iC s2.1))) (b' := s2.1) rfl rfl (infS inf3) sz3 (by exact rfl) hx27 (by exact rfl) (by exact Nat.le_of_ble_eq_true rfl) (by exact rfl)) ⟨rfl, rfl, trivial⟩ ⟨rfl, trivial⟩ rfl rfl ?_
          refine AOR.nil ?_
          refine AWR.region ?_
          refine AOR.pure (LT.move (v := (.s (.c (iC s2.1)))) rfl) ⟨rfl, trivial⟩ trivial rfl rfl ?_
          refine AOR.pure (LT.add rfl) ⟨rfl, ⟨rfl, rfl⟩, trivial⟩ trivial rfl rfl ?_
          refine AOR.pure (LT.assign (v := (.s (.c (iC (w64 (s2.1 + 1)))))) rfl) ⟨rfl, trivial⟩ trivial rfl rfl ?_
          refine AOR.nil ?_
          refine AWR.nil ⟨rfl, Ent.of ⟨rfl, rfl, rfl, (congrArg (fun l1 => (some (AV.s (.c (.loc 23 0 l1))) : Option AV)) (show s2.2.2.length = ((s2.2.2.set s2.2.1.toNat (-1)).set s2.2.1.toNat s2.1).length by simp only [List.length_set])), rfl, rfl, trivial⟩ ⟨rfl, rfl, rfl, trivial⟩⟩
        · refine AWR.skip ?_
          refine AWR.nil ⟨rfl, Ent.of ⟨rfl, rfl, rfl, (congrArg (fun l1 => (some (AV.s (.c (.loc 23 0 l1))) : Option AV)) (show s2.2.2.length = (s2.2.2.set s2.2.1.toNat (-1)).length by simp only [List.length_set])), rfl, rfl, trivial⟩ ⟨rfl, rfl, rfl, trivial⟩⟩
      · refine AWR.blk ?_
        refine AWR.region ?_
        refine AOR.pure (LT.move (v := (.s (.c (iC s2.2.1)))) rfl) ⟨rfl, trivial⟩ trivial rfl rfl ?_
        refine AOR.pure (LT.add rfl) ⟨rfl, ⟨rfl, rfl⟩, trivial⟩ trivial rfl rfl ?_
        refine AOR.pure (LT.assign (v := (.s (.c (iC (w64 (s2.2.1 + 1)))))) rfl) ⟨rfl, trivial⟩ trivial rfl rfl ?_
        refine AOR.nil ?_
        refine AWR.nil ⟨rfl, Ent.of ⟨rfl, rfl, rfl, rfl, rfl, rfl, trivial⟩ ⟨rfl, rfl, rfl, trivial⟩⟩
    · refine AWR.exit_end rfl ⟨rfl, Ent.of ⟨rfl, rfl, rfl, rfl, trivial⟩ ⟨rfl, rfl, rfl, trivial⟩⟩
  · refine AWR.seq ?_
    refine AWR.region ?_
    refine AOR.pure (LT.move (v := (.s (.c (iC b19.1)))) rfl) ⟨rfl, trivial⟩ trivial rfl rfl ?_
    refine AOR.step (LT.tbuildSlice (n := 25) (enc := encTBar) [] ([] : List TBar) rfl rfl und28 ti88 rfl rfl rfl rfl (by decide) (fun _ => rfl) rfl) trivial trivial rfl rfl ?_
    refine AOR.pure (LT.build [(0, .tmp 36, (.c (iC b19.1))), (1, .tmp 37, (.c (.loc 25 0 ([] : List TBar).length)))] rfl rfl pl30 ti30 rfl rfl rfl) ⟨rfl, rfl, trivial⟩ trivial rfl rfl ?_
    refine AOR.step (LT.alloc (n := 26) (cells := [(iC 0), (sC nilV)]) rfl ti30 rfl rfl rfl) trivial trivial rfl rfl ?_
    refine AOR.step (LT.bstore (v := (.agg [(iC b19.1), (.loc 25 0 ([] : List TBar).length)])) (out := [(iC b19.1), (.loc 25 0 ([] : List TBar).length)]) rfl rfl (infS inf30) sz30 (by exact rfl) (by exact Nat.le_of_ble_eq_true rfl) (by exact rfl)) ⟨rfl, rfl, trivial⟩ ⟨rfl, trivial⟩ rfl rfl ?_
    refine AOR.nil ?_
    refine AWR.seq ?_
    refine AWR.seq ?_
    refine AWR.ent (Ent.of (σ' := [(2, (.s (.c (.pl 21 0)))), (4, (.s (.c (.pl 22 0)))), (5, (.s (.c (.loc 23 0 b19.2.length)))), (8, (.s (.c (.pl 26 0))))]) (m' := [(21, (.row 30 [[(iC g.Points), (.pv (.xs false (g.Bars.map encTBar)))]])), (22, (.row 30 [[(iC 0), (sC nilV)]])), (23, (.prow 3 (b19.2.map encInt))), (25, (.prow 88 (([] : List TBar).map encTBar))), (26, (.row 30 [[(iC b19.1), (.loc 25 0 ([] : List TBar).length)]]))]) ⟨rfl, rfl, rfl, rfl, trivial⟩ ⟨rfl, rfl, rfl, rfl, rfl, trivial⟩) ?_
    refine AWR.region ?_
    refine AOR.pure (LT.assign (v := (.s (.c (iC 0)))) rfl) ⟨⟨rfl, rfl⟩, trivial⟩ trivial rfl rfl ?_
    refine AOR.nil ?_
    refine AWR.block ?_
    refine AWR.loop1 (id := 2) (m_spec_WithoutPoints_L2 g b19) (fun s28 => ([(2, (.s (.c (.pl 21 0)))), (4, (.s (.c (.pl 22 0)))), (5, (.s (.c (.loc 23 0 b19.2.length)))), (8, (.s (.c (.pl 26 0)))), (9, (.s (.c (iC s28.1))))], [(21, (.row 30 [[(iC g.Points), (.pv (.xs false (g.Bars.map encTBar)))]])), (22, (.row 30 [[(iC 0), (sC nilV)]])), (23, (.prow 3 (b19.2.map encInt))), (25, (.prow 88 (s28.2.map encTBar))), (26, (.row 30 [[(iC b19.1), (.loc 25 0 s28.2.length)]]))])) (fun b65 => ([(4, (.s (.c (.pl 22 0)))), (8, (.s (.c (.pl 26 0))))], [(22, (.row 30 [[(iC 0), (sC nilV)]])), (25, (.prow 88 (b65.1.map encTBar))), (26, (.row 30 [[(iC b65.2), (.loc 25 0 b65.1.length)]]))])) ?_ (Ent.of ⟨rfl, rfl, rfl, rfl, rfl, trivial⟩ ⟨rfl, rfl, rfl, rfl, rfl, trivial⟩) rfl (fun b65 _ => ?_)
    · intro s28
      unfold m_spec_WithoutPoints_L2
      refine AWR.seq ?_
      refine AWR.seq ?_
      refine AWR.joinK (fun j68 => ([(2, (.s (.c (.pl 21 0)))), (4, (.s (.c (.pl 22 0)))), (5, (.s (.c (.loc 23 0 b19.2.length)))), (8, (.s (.c (.pl 26 0)))), (9, (.s (.c (iC s28.1)))), (47, (.s (.c (bC j68))))], [(21, (.row 30 [[(iC g.Points), (.pv (.xs false (g.Bars.map encTBar)))]])), (22, (.row 30 [[(iC 0), (sC nilV)]])), (23, (.prow 3 (b19.2.map encInt))), (25, (.prow 88 (s28.2.map encTBar))), (26, (.row 30 [[(iC b19.1), (.loc 25 0 s28.2.length)]]))])) ?_ (fun j68 _ => ?_)
      · refine AWR.region ?_
        refine AOR.pure (LT.move (v := (.s (.c (iC s28.1)))) rfl) ⟨rfl, trivial⟩ trivial rfl rfl ?_
        refine AOR.pure (LT.fieldPl rfl fo30_1) ⟨rfl, trivial⟩ trivial rfl rfl ?_
        refine AOR.pure (LT.bload1 (c := (.pv (.xs false (g.Bars.map encTBar)))) rfl ag28 (by exact rfl)) ⟨rfl, trivial⟩ ⟨rfl, trivial⟩ rfl rfl ?_
        refine AOR.pure (LT.tlenRO rfl und28) ⟨rfl, trivial⟩ trivial rfl rfl ?_
        refine AOR.pure (LT.lss rfl) ⟨rfl, rfl, trivial⟩ trivial rfl rfl ?_
        refine AOR.pure (LT.move (v := (.s (.c (bC (decide (s28.1 < (g.Bars.length : Int))))))) rfl) ⟨rfl, trivial⟩ trivial rfl rfl ?_
        refine AOR.split (fun hb69 => ?_) (fun hb69 => ?_)
        · refine AOR.pure (LT.bloadN (out := [(iC g.Points), (.pv (.xs false (g.Bars.map encTBar)))]) rfl ag30 (infS inf30) sz30 (by exact rfl) (by exact rfl)) ⟨rfl, trivial⟩ ⟨rfl, trivial⟩ ⟨_, rfl, .inl ⟨_, rfl, (by rw [hb69]; rfl)⟩⟩ rfl ?_
          refine AOR.bind fun r70 hr70 => ?_
          refine AOR.pure (@LT.callF Try.prog _ _ 66 _ _ [(.agg [(iC g.Points), (.pv (.xs false (g.Bars.map encTBar)))])] _ _ [] _ _ _ _ (w_spec_IsGraph g r70 hr70) rfl cb66 (.cons (.agg (.cons (.same rfl) (.cons (.same rfl) .nil))) .nil) rfl rfl trivial) ⟨rfl, rfl, trivial⟩ trivial ⟨_, rfl, .inl ⟨_, rfl, (by rw [hb69]; rfl)⟩⟩ rfl ?_
          refine AOR.pure (LT.pickT (v := (.s (.c (bC r70)))) rfl hb69) ⟨rfl, rfl, trivial⟩ trivial rfl rfl ?_
          refine AOR.nil ?_
          refine AWR.nil ⟨rfl, Ent.of ⟨rfl, rfl, rfl, rfl, rfl, rfl, trivial⟩ ⟨rfl, rfl, rfl, rfl, rfl, trivial⟩⟩
        · refine AOR.skip ⟨_, rfl, .inl ⟨_, rfl, (by rw [hb69]; rfl)⟩⟩ rfl ?_
          refine AOR.skip ⟨_, rfl, .inl ⟨_, rfl, (by rw [hb69]; rfl)⟩⟩ rfl ?_
          refine AOR.pure (LT.pickF (v := (.s (.c (bC false)))) rfl hb69) ⟨rfl, ⟨rfl, rfl⟩, trivial⟩ trivial rfl rfl ?_
          refine AOR.nil ?_
          refine AWR.nil ⟨rfl, Ent.of ⟨rfl, rfl, rfl, rfl, rfl, rfl, trivial⟩ ⟨rfl, rfl, rfl, rfl, rfl, trivial⟩⟩
      · refine AWR.cond rfl (fun hc71 => ?_) (fun hc71 => ?_)
        · refine AWR.skip ?_
          refine AWR.seq ?_
          refine AWR.block ?_
          refine AWR.seq ?_
          refine AWR.region ?_
          refine AOR.pure (LT.move (v := (.s (.c (.loc 23 0 b19.2.length)))) rfl) ⟨rfl, trivial⟩ trivial rfl rfl ?_
          refine AOR.pure (LT.fieldPl rfl fo30_1) ⟨rfl, trivial⟩ trivial rfl rfl ?_
          refine AOR.pure (LT.bload1 (c := (.pv (.xs false (g.Bars.map encTBar)))) rfl ag28 (by exact rfl)) ⟨rfl, trivial⟩ ⟨rfl, trivial⟩ rfl rfl ?_
          refine AOR.pure (LT.move (v := (.s (.c (iC s28.1)))) rfl) ⟨rfl, trivial⟩ trivial rfl rfl ?_
          refine AOR.bind fun x72 hx72 => ?_
          refine AOR.pure (LT.tindexRO (enc := encTBar) rfl el28 hx72 sz88) ⟨rfl, rfl, trivial⟩ trivial rfl rfl ?_
          refine AOR.pure (LT.fieldPx rfl fo88_0) ⟨rfl, trivial⟩ trivial rfl rfl ?_
          refine AOR.pure (LT.loadPx1 rfl ag3) ⟨rfl, trivial⟩ trivial rfl rfl ?_
          refine AOR.bind fun x73 hx73 => ?_
          refine AOR.pure (LT.tindexLoc rfl rfl el40 hx73) ⟨rfl, rfl, trivial⟩ ⟨rfl, trivial⟩ rfl rfl ?_
          refine AOR.pure (LT.tload1 (k := 0) rfl ag3 hx73 (by exact rfl) (by exact rfl)) ⟨rfl, trivial⟩ ⟨rfl, trivial⟩ rfl rfl ?_
          refine AOR.pure (LT.assign (v := (.s (.c (iC x73)))) rfl) ⟨rfl, trivial⟩ trivial rfl rfl ?_
          refine AOR.nil ?_
          refine AWR.seq ?_
          refine AWR.region ?_
          refine AOR.pure (LT.move (v := (.s (.c (.loc 23 0 b19.2.length)))) rfl) ⟨rfl, trivial⟩ trivial rfl rfl ?_
          refine AOR.pure (LT.fieldPl rfl fo30_1) ⟨rfl, trivial⟩ trivial rfl rfl ?_
          refine AOR.pure (LT.bload1 (c := (.pv (.xs false (g.Bars.map encTBar)))) rfl ag28 (by exact rfl)) ⟨rfl, trivial⟩ ⟨rfl, trivial⟩ rfl rfl ?_
          refine AOR.pure (LT.move (v := (.s (.c (iC s28.1)))) rfl) ⟨rfl, trivial⟩ trivial rfl rfl ?_
          refine AOR.bind fun x74 hx74 => ?_
          refine AOR.pure (LT.tindexRO (enc := encTBar) rfl el28 hx74 sz88) ⟨rfl, rfl, trivial⟩ trivial rfl rfl ?_
          refine AOR.pure (LT.fieldPx rfl fo88_1) ⟨rfl, trivial⟩ trivial rfl rfl ?_
          refine AOR.pure (LT.loadPx1 rfl ag3) ⟨rfl, trivial⟩ trivial rfl rfl ?_
          refine AOR.bind fun x75 hx75 => ?_
          refine AOR.pure (LT.tindexLoc rfl rfl el40 hx75) ⟨rfl, rfl, trivial⟩ ⟨rfl, trivial⟩ rfl rfl ?_
          refine AOR.pure (LT.tload1 (k := 0) rfl ag3 hx75 (by exact rfl) (by exact rfl)) ⟨rfl, trivial⟩ ⟨rfl, trivial⟩ rfl rfl ?_
          refine AOR.pure (LT.assign (v := (.s (.c (iC x75)))) rfl) ⟨rfl, trivial⟩ trivial rfl rfl ?_
          refine AOR.nil ?_
          refine AWR.seq ?_
          refine AWR.joinK (fun j77 => ([(2, (.s (.c (.pl 21 0)))), (4, (.s (.c (.pl 22 0)))), (5, (.s (.c (.loc 23 0 b19.2.length)))), (8, (.s (.c (.pl 26 0)))), (9, (.s (.c (iC s28.1)))), (10, (.s (.c (iC x73)))), (11, (.s (.c (iC x75)))), (73, (.s (.c (bC j77))))], [(21, (.row 30 [[(iC g.Points), (.pv (.xs false (g.Bars.map encTBar)))]])), (22, (.row 30 [[(iC 0), (sC nilV)]])), (23, (.prow 3 (b19.2.map encInt))), (25, (.prow 88 (s28.2.map encTBar))), (26, (.row 30 [[(iC b19.1), (.loc 25 0 s28.2.length)]]))])) ?_ (fun j77 _ => ?_)
          · refine AWR.ent (Ent.of (σ' := [(2, (.s (.c (.pl 21 0)))), (4, (.s (.c (.pl 22 0)))), (5, (.s (.c (.loc 23 0 b19.2.length)))), (8, (.s (.c (.pl 26 0)))), (9, (.s (.c (iC s28.1)))), (10, (.s (.c (iC x73)))), (11, (.s (.c (iC x75))))]) (m' := [(21, (.row 30 [[(iC g.Points), (.pv (.xs false (g.Bars.map encTBar)))]])), (22, (.row 30 [[(iC 0), (sC nilV)]])), (23, (.prow 3 (b19.2.map encInt))), (25, (.prow 88 (s28.2.map encTBar))), (26, (.row 30 [[(iC b19.1), (.loc 25 0 s28.2.length)]]))]) ⟨rfl, rfl, rfl, rfl, rfl, rfl, rfl, trivial⟩ ⟨rfl, rfl, rfl, rfl, rfl, trivial⟩) ?_
            refine AWR.region ?_
            refine AOR.pure (LT.move (v := (.s (.c (iC x73)))) rfl) ⟨rfl, trivial⟩ trivial rfl rfl ?_
            refine AOR.pure (LT.geq rfl) ⟨rfl, ⟨rfl, rfl⟩, trivial⟩ trivial rfl rfl ?_
            refine AOR.pure (LT.move (v := (.s (.c (bC (decide (0 ≤ x73)))))) rfl) ⟨rfl, trivial⟩ trivial rfl rfl ?_
            refine AOR.split (fun hb78 => ?_) (fun hb78 => ?_)
            · refine AOR.pure (LT.move (v := (.s (.c (iC x75)))) rfl) ⟨rfl, trivial⟩ trivial ⟨_, rfl, .inl ⟨_, rfl, (by rw [hb78]; rfl)⟩⟩ rfl ?_
              refine AOR.pure (LT.geq rfl) ⟨rfl, ⟨rfl, rfl⟩, trivial⟩ trivial ⟨_, rfl, .inl ⟨_, rfl, (by rw [hb78]; rfl)⟩⟩ rfl ?_
              refine AOR.pure (LT.pickT (v := (.s (.c (bC (decide (0 ≤ x75)))))) rfl hb78) ⟨rfl, rfl, trivial⟩ trivial rfl rfl ?_
              refine AOR.nil ?_
              refine AWR.nil ⟨rfl, Ent.of ⟨rfl, rfl, rfl, rfl, rfl, rfl, rfl, rfl, trivial⟩ ⟨rfl, rfl, rfl, rfl, rfl, trivial⟩⟩
            · refine AOR.skip ⟨_, rfl, .inl ⟨_, rfl, (by rw [hb78]; rfl)⟩⟩ rfl ?_
              refine AOR.skip ⟨_, rfl, .inl ⟨_, rfl, (by rw [hb78]; rfl)⟩⟩ rfl ?_
              refine AOR.pure (LT.pickF (v := (.s (.c (bC false)))) rfl hb78) ⟨rfl, ⟨rfl, rfl⟩, trivial⟩ trivial rfl rfl ?_
              refine AOR.nil ?_
              refine AWR.nil ⟨rfl, Ent.of ⟨rfl, rfl, rfl, rfl, rfl, rfl, rfl, rfl, trivial⟩ ⟨rfl, rfl, rfl, rfl, rfl, trivial⟩⟩
          · refine AWR.joinK (fun j81 => ([(2, (.s (.c (.pl 21 0)))), (4, (.s (.c (.pl 22 0)))), (5, (.s (.c (.loc 23 0 b19.2.length)))), (8, (.s (.c (.pl 26 0)))), (9, (.s (.c (iC s28.1))))], [(21, (.row 30 [[(iC g.Points), (.pv (.xs false (g.Bars.map encTBar)))]])), (22, (.row 30 [[(iC 0), (sC nilV)]])), (23, (.prow 3 (b19.2.map encInt))), (25, (.prow 88 (j81.map encTBar))), (26, (.row 30 [[(iC b19.1), (.loc 25 0 j81.length)]]))])) ?_ (fun j81 _ => ?_)
            · refine AWR.cond rfl (fun hc82 => ?_) (fun hc82 => ?_)
              · refine AWR.region ?_
                refine AOR.pure (LT.fieldPl rfl fo30_1) ⟨rfl, trivial⟩ trivial rfl rfl ?_
                refine AOR.pure (LT.bload1 (c := (.loc 25 0 s28.2.length)) rfl ag28 (by exact rfl)) ⟨rfl, trivial⟩ ⟨rfl, trivial⟩ rfl rfl ?_
                refine AOR.pure (LT.move (v := (.s (.c (iC x73)))) rfl) ⟨rfl, trivial⟩ trivial rfl rfl ?_
                refine AOR.pure (LT.move (v := (.s (.c (iC x75)))) rfl) ⟨rfl, trivial⟩ trivial rfl rfl ?_
                refine AOR.pure (LT.build [(0, .tmp 76, (.c (iC x73))), (1, .tmp 77, (.c (iC x75)))] rfl rfl pl88 ti88 rfl rfl rfl) ⟨rfl, rfl, trivial⟩ trivial rfl rfl ?_
                refine AOR.step (LT.tbuildSlice (n := 28) (enc := encTBar) [(0, .tmp 78, (.agg [(iC x73), (iC x75)]))] [(TBar.mk x73 x75)] rfl rfl und28 ti88 rfl rfl rfl rfl (by decide) (fun _ => rfl) rfl) ⟨rfl, trivial⟩ trivial rfl rfl ?_
                refine AOR.bind fun u83 hu83 => ?_
                refine AOR.step (LT.tappP (enc := encTBar) rfl rfl rfl und28 ti88 rfl (by decide) (by decide) (fun _ => rfl) (lim_le hu83)) ⟨rfl, rfl, trivial⟩ ⟨rfl, rfl, trivial⟩ rfl rfl ?_
                refine AOR.pure (LT.fieldPl rfl fo30_1) ⟨rfl, trivial⟩ trivial rfl rfl ?_
                refine AOR.step (LT.bstore (v := (.c (.loc 25 0 (s28.2 ++ [(TBar.mk x73 x75)]).length))) (out := [(iC b19.1), (.loc 25 0 (s28.2 ++ [(TBar.mk x73 x75)]).length)]) rfl rfl (infS inf28) sz28 (by exact rfl) (by exact Nat.le_of_ble_eq_true rfl) (by exact rfl)) ⟨rfl, rfl, trivial⟩ ⟨rfl, trivial⟩ rfl rfl ?_
                refine AOR.nil ?_
                refine AWR.nil ⟨rfl, Ent.of ⟨rfl, rfl, rfl, rfl, rfl, trivial⟩ ⟨rfl, rfl, rfl, rfl, rfl, trivial⟩⟩
              · refine AWR.skip ?_
                refine AWR.nil ⟨rfl, Ent.of ⟨rfl, rfl, rfl, rfl, rfl, trivial⟩ ⟨rfl, rfl, rfl, rfl, rfl, trivial⟩⟩
            · refine AWR.blk ?_
              refine AWR.region ?_
              refine AOR.pure (LT.move (v := (.s (.c (iC s28.1)))) rfl) ⟨rfl, trivial⟩ trivial rfl rfl ?_
              refine AOR.pure (LT.add rfl) ⟨rfl, ⟨rfl, rfl⟩, trivial⟩ trivial rfl rfl ?_
              refine AOR.pure (LT.assign (v := (.s (.c (iC (w64 (s28.1 + 1)))))) rfl) ⟨rfl, trivial⟩ trivial rfl rfl ?_
              refine AOR.nil ?_
              refine AWR.nil ⟨rfl, Ent.of ⟨rfl, rfl, rfl, rfl, rfl, trivial⟩ ⟨rfl, rfl, rfl, rfl, rfl, trivial⟩⟩
        · refine AWR.exit_end rfl ⟨rfl, Ent.of ⟨rfl, rfl, trivial⟩ ⟨rfl, rfl, rfl, trivial⟩⟩
    · refine AWR.seq ?_
      refine AWR.region ?_
      refine AOR.pure (LT.bloadN (out := [(iC b65.2), (.loc 25 0 b65.1.length)]) rfl ag30 (infS inf30) sz30 (by exact rfl) (by exact rfl)) ⟨rfl, trivial⟩ ⟨rfl, trivial⟩ rfl rfl ?_
      refine AOR.step (LT.bstore (v := (.agg [(iC b65.2), (.loc 25 0 b65.1.length)])) (out := [(iC b65.2), (.loc 25 0 b65.1.length)]) rfl rfl (infS inf30) sz30 (by exact rfl) (by exact Nat.le_of_ble_eq_true rfl) (by exact rfl)) ⟨rfl, rfl, trivial⟩ ⟨rfl, trivial⟩ rfl rfl ?_
      refine AOR.nil ?_
      refine AWR.ent (Ent.of (σ' := [(4, (.s (.c (.pl 22 0))))]) (m' := [(22, (.row 30 [[(iC b65.2), (.loc 25 0 b65.1.length)]])), (25, (.prow 88 (b65.1.map encTBar)))]) ⟨rfl, trivial⟩ ⟨rfl, rfl, trivial⟩) ?_
      refine AWR.ent (Ent.mv 25 0 rfl rfl) ?_
      refine AWR.ent (Ent.of (σ' := [(4, (.s (.c (.pl 22 0))))]) (m' := [(0, (.prow 88 (b65.1.map encTBar))), (22, (.row 30 [[(iC b65.2), (.loc 0 0 b65.1.length)]]))]) ⟨rfl, trivial⟩ ⟨rfl, rfl, trivial⟩) ?_
      refine AWR.ret (FPost.mk (.inr rfl) ⟨⟨_, _, _, rfl, rfl, rfl, ag30, sz30, _, (infS inf30)⟩, trivial⟩ ⟨rfl, trivial⟩ rfl ⟨⟨PermP.sc, trivial, trivial⟩, trivial⟩ ⟨PermO.prow' perm_encTBar, trivial⟩)
set_option maxRecDepth 100000 in
set_option maxHeartbeats 8000000 in
theorem w_slices_Index (s : (List Int)) (v : Int) : ∀ t, m_slices_Index s v = some t → Fw.Fn Try.prog 95 [(.c (.pv (.xs false (s.map encInt)))), (.c (iC v))] [] (.s (.c (iC t))) [] [] [] := by
  refine Fw.Fn.of (P := Try.prog) (X := []) (pn := []) (rs := (fun (t : Int) => [(.c (iC t))])) (dfs := (fun (t : Int) => [])) Try.func95 rfl Try.ntmps95 (Nat.le_of_ble_eq_true rfl) rfl ?_
  intro w0 U0 R0 g0
  unfold m_slices_Index
  refine AWR.seq ?_
  refine AWR.region ?_
  refine AOR.pure (LT.assign (v := (.s (.c (iC 0)))) rfl) ⟨⟨rfl, rfl⟩, trivial⟩ trivial rfl rfl ?_
  refine AOR.nil ?_
  refine AWR.seq ?_
  refine AWR.seq ?_
  refine AWR.region ?_
  refine AOR.pure (LT.move (v := (.s (.c (.pv (.xs false (s.map encInt)))))) rfl) ⟨rfl, trivial⟩ trivial rfl rfl ?_
  refine AOR.pure (LT.tlenRO rfl und40) ⟨rfl, trivial⟩ trivial rfl rfl ?_
  refine AOR.pure (LT.move (v := (.s (.c (iC 0)))) rfl) ⟨⟨rfl, rfl⟩, trivial⟩ trivial rfl rfl ?_
  refine AOR.nil ?_
  refine AWR.block ?_
  refine AWR.loopR (id := 0) (m_slices_Index_L1 s v) (fun s1 => ([(0, (.s (.c (.pv (.xs false (s.map encInt)))))), (1, (.s (.c (iC v)))), (7, (.s (.c (iC (s.length : Int))))), (8, (.s (.c (iC s1))))], [])) (fun b8 => ([], [])) (FPost Try.prog Try.f95.results.toList [] [] (fun (t : Int) => [(.c (iC t))]) (fun (t : Int) => [])) ?_ (Ent.of ⟨rfl, rfl, rfl, rfl, trivial⟩ trivial) rfl (fun b8 _ => ?_) (by intro r t σ m ht hk; injection ht with ht; subst ht; exact hk)
  · intro s1
    unfold m_slices_Index_L1
    refine AWR.seq ?_
    refine AWR.region ?_
    refine AOR.pure (LT.lss rfl) ⟨rfl, rfl, trivial⟩ trivial rfl rfl ?_
    refine AOR.nil ?_
    refine AWR.seq ?_
    refine AWR.cond rfl (fun hc9 => ?_) (fun hc9 => ?_)
    · refine AWR.skip ?_
      refine AWR.seq ?_
      refine AWR.block ?_
      refine AWR.seq ?_
      refine AWR.region ?_
      refine AOR.pure (LT.move (v := (.s (.c (iC s1)))) rfl) ⟨rfl, trivial⟩ trivial rfl rfl ?_
      refine AOR.pure (LT.assign (v := (.s (.c (iC s1)))) rfl) ⟨rfl, trivial⟩ trivial rfl rfl ?_
      refine AOR.nil ?_
      refine AWR.seq ?_
      refine AWR.region ?_
      refine AOR.pure (LT.move (v := (.s (.c (iC v)))) rfl) ⟨rfl, trivial⟩ trivial rfl rfl ?_
      refine AOR.pure (LT.move (v := (.s (.c (.pv (.xs false (s.map encInt)))))) rfl) ⟨rfl, trivial⟩ trivial rfl rfl ?_
      refine AOR.pure (LT.move (v := (.s (.c (iC s1)))) rfl) ⟨rfl, trivial⟩ trivial rfl rfl ?_
      refine AOR.bind fun x10 hx10 => ?_
      refine AOR.pure (LT.tindexRO (enc := encInt) rfl el40 hx10 sz3) ⟨rfl, rfl, trivial⟩ trivial rfl rfl ?_
      refine AOR.pure (LT.loadPx1 rfl ag3) ⟨rfl, trivial⟩ trivial rfl rfl ?_
      refine AOR.pure (LT.eql rfl) ⟨rfl, rfl, trivial⟩ trivial rfl rfl ?_
      refine AOR.nil ?_
      refine AWR.cond rfl (fun hc11 => ?_) (fun hc11 => ?_)
      · refine AWR.seq ?_
        refine AWR.region ?_
        refine AOR.pure (LT.move (v := (.s (.c (iC s1)))) rfl) ⟨rfl, trivial⟩ trivial rfl rfl ?_
        refine AOR.pure (LT.assign (v := (.s (.c (iC s1)))) rfl) ⟨rfl, trivial⟩ trivial rfl rfl ?_
        refine AOR.nil ?_
        refine AWR.ret ⟨rfl, FPost.mk (.inr rfl) ⟨rfl, trivial⟩ trivial rfl ⟨PermP.sc, trivial⟩ trivial⟩
      · refine AWR.skip ?_
        refine AWR.blk ?_
        refine AWR.region ?_
        refine AOR.pure (LT.add rfl) ⟨rfl, ⟨rfl, rfl⟩, trivial⟩ trivial rfl rfl ?_
        refine AOR.pure (LT.move (v := (.s (.c (iC (w64 (s1 + 1)))))) rfl) ⟨rfl, trivial⟩ trivial rfl rfl ?_
        refine AOR.nil ?_
        refine AWR.nil ⟨rfl, Ent.of ⟨rfl, rfl, rfl, rfl, trivial⟩ trivial⟩
    · refine AWR.exit_end rfl ⟨rfl, Ent.of trivial trivial⟩
  · refine AWR.seq ?_
    refine AWR.region ?_
    refine AOR.pure (LT.assign (v := (.s (.c (iC (-1))))) rfl) ⟨⟨rfl, rfl⟩, trivial⟩ trivial rfl rfl ?_
    refine AOR.nil ?_
    refine AWR.ret (FPost.mk (.inr rfl) ⟨rfl, trivial⟩ trivial rfl ⟨PermP.sc, trivial⟩ trivial)
set_option maxRecDepth 100000 in
set_option maxHeartbeats 8000000 in
theorem w_slices_Contains (s : (List Int)) (v : Int) : ∀ t, m_slices_Contains s v = some t → Fw.Fn Try.prog 73 [(.c (.pv (.xs false (s.map encInt)))), (.c (iC v))] [] (.s (.c (bC t))) [] [] [] := by
  refine Fw.Fn.of (P := Try.prog) (X := []) (pn := []) (rs := (fun (t : Bool) => [(.c (bC t))])) (dfs := (fun (t : Bool) => [])) Try.func73 rfl Try.ntmps73 (Nat.le_of_ble_eq_true rfl) rfl ?_
  intro w0 U0 R0 g0
  unfold m_slices_Contains
  refine AWR.seq ?_
  refine AWR.region ?_
  refine AOR.pure (LT.assign (v := (.s (.c (bC false)))) rfl) ⟨⟨rfl, rfl⟩, trivial⟩ trivial rfl rfl ?_
  refine AOR.nil ?_
  refine AWR.seq ?_
  refine AWR.region ?_
  refine AOR.pure (LT.move (v := (.s (.c (.pv (.xs false (s.map encInt)))))) rfl) ⟨rfl, trivial⟩ trivial rfl rfl ?_
  refine AOR.pure (LT.move (v := (.s (.c (iC v)))) rfl) ⟨rfl, trivial⟩ trivial rfl rfl ?_
  refine AOR.bind fun r1 hr1 => ?_
  refine AOR.pure (@LT.callF Try.prog _ _ 95 _ _ [(.c (.pv (.xs false (s.map encInt)))), (.c (iC v))] _ _ [] _ _ _ _ (w_slices_Index s v r1 hr1) rfl cb95 (.cons (.c (.same rfl)) (.cons (.c (.same rfl)) .nil)) rfl rfl trivial) ⟨rfl, rfl, rfl, trivial⟩ trivial rfl rfl ?_
  refine AOR.pure (LT.geq rfl) ⟨rfl, ⟨rfl, rfl⟩, trivial⟩ trivial rfl rfl ?_
  refine AOR.pure (LT.assign (v := (.s (.c (bC (decide (0 ≤ r1)))))) rfl) ⟨rfl, trivial⟩ trivial rfl rfl ?_
  refine AOR.nil ?_
  refine AWR.ret (FPost.mk (.inr rfl) ⟨rfl, trivial⟩ trivial rfl ⟨PermP.sc, trivial⟩ trivial)
set_option maxRecDepth 100000 in
set_option maxHeartbeats 8000000 in
theorem w_impl_WithoutPoints (g : TGraph) (setV : (List Int)) : ∀ t, m_impl_WithoutPoints g setV = some t → Fw.Fn Try.prog 31 [(.agg [(iC g.Points), (.pv (.xs false (g.Bars.map encTBar)))]), (.c (.pv (.xs false (setV.map encInt))))] [] (.s (.agg [(iC t.Points), (.loc 0 0 t.Bars.length)])) [(0, (.prow 88 (t.Bars.map encTBar)))] [] [0] := by
  refine Fw.Fn.of (P := Try.prog) (X := [0]) (pn := []) (rs := (fun (t : TGraph) => [(.agg [(iC t.Points), (.loc 0 0 t.Bars.length)])])) (dfs := (fun (t : TGraph) => [(0, (.prow 88 (t.Bars.map encTBar)))])) Try.func31 rfl Try.ntmps31 (Nat.le_of_ble_eq_true rfl) rfl ?_
  intro w0 U0 R0 g0
  unfold m_impl_WithoutPoints
  refine AWR.seq ?_
  refine AWR.region ?_
  refine AOR.step (LT.box (n := 21) (v := (.agg [(iC g.Points), (.pv (.xs false (g.Bars.map encTBar)))])) rfl sz30 (by exact rfl)) ⟨rfl, trivial⟩ trivial rfl rfl ?_
  refine AOR.step (LT.alloc (n := 22) (cells := [(iC 0), (sC nilV)]) rfl ti30 rfl rfl rfl) trivial trivial rfl rfl ?_
  refine AOR.nil ?_
  refine AWR.seq ?_
  refine AWR.region ?_
  refine AOR.pure (LT.fieldPl rfl fo30_0) ⟨rfl, trivial⟩ trivial rfl rfl ?_
  refine AOR.pure (LT.bload1 (c := (iC g.Points)) rfl ag3 (by exact rfl)) ⟨rfl, trivial⟩ ⟨rfl, trivial⟩ rfl rfl ?_
  refine AOR.pure (LT.min rfl) ⟨rfl, ⟨rfl, rfl⟩, trivial⟩ trivial rfl rfl ?_
  refine AOR.pure (LT.max rfl) ⟨⟨rfl, rfl⟩, rfl, trivial⟩ trivial rfl rfl ?_
  refine AOR.bind fun u1 hu1 => ?_
  refine AOR.step (LT.tmake (n := 23) (enc := encInt) (zc := [(iC 0)]) (0 : Int) rfl und40 ti3 rfl rfl rfl (by decide) (by decide) (lenOk_le hu1) rfl) ⟨rfl, rfl, trivial⟩ trivial rfl rfl ?_
  refine AOR.pure (LT.assign (v := (.s (.c (.loc 23 0 (List.replicate (if 0 < (if 8 < g.Points then 8 else g.Points) then (if 8 < g.Points then 8 else g.Points) else 0).toNat (0 : Int)).length)))) rfl) ⟨rfl, trivial⟩ trivial rfl rfl ?_
  refine AOR.nil ?_
  refine AWR.seq ?_
  refine AWR.ent (Ent.of (σ' := [(1, (.s (.c (.pv (.xs false (setV.map encInt)))))), (2, (.s (.c (.pl 21 0)))), (4, (.s (.c (.pl 22 0)))), (5, (.s (.c (.loc 23 0 (List.replicate (if 0 < (if 8 < g.Points then 8 else g.Points) then (if 8 < g.Points then 8 else g.Points) else 0).toNat (0 : Int)).length))))]) (m' := [(21, (.row 30 [[(iC g.Points), (.pv (.xs false (g.Bars.map encTBar)))]])), (22, (.row 30 [[(iC 0), (sC nilV)]])), (23, (.prow 3 ((List.replicate (if 0 < (if 8 < g.Points then 8 else g.Points) then (if 8 < g.Points then 8 else g.Points) else 0).toNat (0 : Int)).map encInt)))]) ⟨rfl, rfl, rfl, rfl, trivial⟩ ⟨rfl, rfl, rfl, trivial⟩) ?_
  refine AWR.region ?_
  refine AOR.pure (LT.build [] rfl rfl pl30 ti30 rfl rfl rfl) trivial trivial rfl rfl ?_
  refine AOR.step (LT.alloc (n := 24) (cells := [(iC 0), (sC nilV)]) rfl ti30 rfl rfl rfl) trivial trivial rfl rfl ?_
  refine AOR.step (LT.bstore (v := (.agg [(iC 0), (sC nilV)])) (out := [(iC 0), (sC nilV)]) rfl rfl (infS inf30) sz30 (by exact rfl) (by exact Nat.le_of_ble_eq_true rfl) (by exact rfl)) ⟨rfl, rfl, trivial⟩ ⟨rfl, trivial⟩ rfl rfl ?_
  refine AOR.nil ?_
  refine AWR.seq ?_
  refine AWR.seq ?_
  refine AWR.region ?_
  refine AOR.pure (LT.move (v := (.s (.c (.loc 23 0 (List.replicate (if 0 < (if 8 < g.Points then 8 else g.Points) then (if 8 < g.Points then 8 else g.Points) else 0).toNat (0 : Int)).length)))) rfl) ⟨rfl, trivial⟩ trivial rfl rfl ?_
  refine AOR.pure (LT.lenLoc rfl und40) ⟨rfl, trivial⟩ trivial rfl rfl ?_
  refine AOR.pure (LT.move (v := (.s (.c (iC 0)))) rfl) ⟨⟨rfl, rfl⟩, trivial⟩ trivial rfl rfl ?_
  refine AOR.nil ?_
  refine AWR.block ?_
  refine AWR.loop1 (id := 0) (m_impl_WithoutPoints_L1 g setV) (fun s2 => ([(1, (.s (.c (.pv (.xs false (setV.map encInt)))))), (2, (.s (.c (.pl 21 0)))), (4, (.s (.c (.pl 22 0)))), (5, (.s (.c (.loc 23 0 s2.2.1.length)))), (6, (.s (.c (.pl 24 0)))), (19, (.s (.c (iC ((List.replicate (if 0 < (if 8 < g.Points then 8 else g.Points) then (if 8 < g.Points then 8 else g.Points) else 0).toNat (0 : Int)).length : Int))))), (20, (.s (.c (iC s2.1))))], [(21, (.row 30 [[(iC g.Points), (.pv (.xs false (g.Bars.map encTBar)))]])), (22, (.row 30 [[(iC 0), (sC nilV)]])), (23, (.prow 3 (s2.2.1.map encInt))), (24, (.row 30 [[(iC s2.2.2), (sC nilV)]]))])) (fun b19 => ([(2, (.s (.c (.pl 21 0)))), (4, (.s (.c (.pl 22 0)))), (5, (.s (.c (.loc 23 0 b19.1.length)))), (6, (.s (.c (.pl 24 0))))], [(21, (.row 30 [[(iC g.Points), (.pv (.xs false (g.Bars.map encTBar)))]])), (22, (.row 30 [[(iC 0), (sC nilV)]])), (23, (.prow 3 (b19.1.map encInt))), (24, (.row 30 [[(iC b19.2), (sC nilV)]]))])) ?_ (Ent.of ⟨rfl, rfl, rfl, rfl, rfl, rfl, rfl, trivial⟩ ⟨rfl, rfl, rfl, rfl, trivial⟩) rfl (fun b19 _ => ?_)
  · intro s2
    unfold m_impl_WithoutPoints_L1
    refine AWR.seq ?_
    refine AWR.region ?_
    refine AOR.pure (LT.lss rfl) ⟨rfl, rfl, trivial⟩ trivial rfl rfl ?_
    refine AOR.nil ?_
    refine AWR.seq ?_
    refine AWR.cond rfl (fun hc20 => ?_) (fun hc20 => ?_)
    · refine AWR.skip ?_
      refine AWR.seq ?_
      refine AWR.block ?_
      refine AWR.seq ?_
      refine AWR.region ?_
      refine AOR.pure (LT.move (v := (.s (.c (iC s2.1)))) rfl) ⟨rfl, trivial⟩ trivial rfl rfl ?_
      refine AOR.pure (LT.assign (v := (.s (.c (iC s2.1)))) rfl) ⟨rfl, trivial⟩ trivial rfl rfl ?_
      refine AOR.nil ?_
      refine AWR.seq ?_
      refine AWR.region ?_
      refine AOR.pure (LT.move (v := (.s (.c (.loc 23 0 s2.2.1.length)))) rfl) ⟨rfl, trivial⟩ trivial rfl rfl ?_
      refine AOR.pure (LT.move (v := (.s (.c (iC s2.1)))) rfl) ⟨rfl, trivial⟩ trivial rfl rfl ?_
      refine AOR.bind fun x21 hx21 => ?_
      refine AOR.pure (LT.tindexLoc rfl rfl el40 hx21) ⟨rfl, rfl, trivial⟩ ⟨rfl, trivial⟩ rfl rfl ?_
      refine AOR.step (LT.tstore (k := 0) (v := (.c (iC (-1)))) (b' := (-1)) rfl rfl (infS inf3) sz3 (by exact rfl) hx21 (by exact rfl) (by exact Nat.le_of_ble_eq_true rfl) (by exact rfl)) ⟨rfl, ⟨rfl, rfl⟩, trivial⟩ ⟨rfl, trivial⟩ rfl rfl ?_
      refine AOR.nil ?_
      refine AWR.seq ?_
      refine AWR.region ?_
      refine AOR.pure (LT.move (v := (.s (.c (.pv (.xs false (setV.map encInt)))))) rfl) ⟨rfl, trivial⟩ trivial rfl rfl ?_
      refine AOR.pure (LT.move (v := (.s (.c (iC s2.1)))) rfl) ⟨rfl, trivial⟩ trivial rfl rfl ?_
      refine AOR.bind fun r22 hr22 => ?_
      refine AOR.pure (@LT.callF Try.prog _ _ 73 _ _ [(.c (.pv (.xs false (setV.map encInt)))), (.c (iC s2.1))] _ _ [] _ _ _ _ (w_slices_Contains setV s2.1 r22 hr22) rfl cb73 (.cons (.c (.same rfl)) (.cons (.c (.same rfl)) .nil)) rfl rfl trivial) ⟨rfl, rfl, rfl, trivial⟩ trivial rfl rfl ?_
      refine AOR.pure (LT.not rfl) ⟨rfl, trivial⟩ trivial rfl rfl ?_
      refine AOR.nil ?_
      refine AWR.joinK (fun j25 => ([(1, (.s (.c (.pv (.xs false (setV.map encInt)))))), (2, (.s (.c (.pl 21 0)))), (4, (.s (.c (.pl 22 0)))), (5, (.s (.c (.loc 23 0 j25.1.length)))), (6, (.s (.c (.pl 24 0)))), (19, (.s (.c (iC ((List.replicate (if 0 < (if 8 < g.Points then 8 else g.Points) then (if 8 < g.Points then 8 else g.Points) else 0).toNat (0 : Int)).length : Int))))), (20, (.s (.c (iC s2.1))))], [(21, (.row 30 [[(iC g.Points), (.pv (.xs false (g.Bars.map encTBar)))]])), (22, (.row 30 [[(iC 0), (sC nilV)]])), (23, (.prow 3 (j25.1.map encInt))), (24, (.row 30 [[(iC j25.2), (sC nilV)]]))])) ?_ (fun j25 _ => ?_)
      · refine AWR.cond rfl (fun hc26 => ?_) (fun hc26 => ?_)
        · refine AWR.seq ?_
          refine AWR.ent (Ent.of (σ' := [(1, (.s (.c (.pv (.xs false (setV.map encInt)))))), (2, (.s (.c (.pl 21 0)))), (4, (.s (.c (.pl 22 0)))), (5, (.s (.c (.loc 23 0 s2.2.1.length)))), (6, (.s (.c (.pl 24 0)))), (7, (.s (.c (iC s2.1)))), (19, (.s (.c (iC ((List.replicate (if 0 < (if 8 < g.Points then 8 else g.Points) then (if 8 < g.Points then 8 else g.Points) else 0).toNat (0 : Int)).length : Int))))), (20, (.s (.c (iC s2.1))))]) (m' := [(21, (.row 30 [[(iC g.Points), (.pv (.xs false (g.Bars.map encTBar)))]])), (22, (.row 30 [[(iC 0), (sC nilV)]])), (23, (.prow 3 ((s2.2.1.set s2.1.toNat (-1)).map encInt))), (24, (.row 30 [[(iC s2.2.2), (sC nilV)]]))]) ⟨rfl, rfl, rfl, rfl, rfl, rfl, rfl, rfl, trivial⟩ ⟨rfl, rfl, rfl, rfl, trivial⟩) ?_
          refine AWR.region ?_
          refine AOR.pure (LT.move (v := (.s (.c (.loc 23 0 s2.2.1.length)))) rfl) ⟨rfl, trivial⟩ trivial rfl rfl ?_
          refine AOR.pure (LT.move (v := (.s (.c (iC s2.1)))) rfl) ⟨rfl, trivial⟩ trivial rfl rfl ?_
          refine AOR.pure (LT.fieldPl rfl fo30_0) ⟨rfl, trivial⟩ trivial rfl rfl ?_
          refine AOR.pure (LT.bload1 (c := (iC s2.2.2)) rfl ag3 (by exact rfl)) ⟨rfl, trivial⟩ ⟨rfl, trivial⟩ rfl rfl ?_
          refine AOR.bind fun x27 hx27 => ?_
          refine AOR.pure (LT.tindexLoc (show s2.2.1.length = (s2.2.1.set s2.1.toNat (-1)).length by simp only [List.length_set]) rfl el40 hx27) ⟨rfl, rfl, trivial⟩ ⟨rfl, trivial⟩ rfl rfl ?_
          refine AOR.step (LT.tstore (k := 0) (v := (.c (iC s2.2.2))) (b' := s2.2.2) rfl rfl (infS inf3) sz3 (by exact rfl) hx27 (by exact rfl) (by exact Nat.le_of_ble_eq_true rfl) (by exact rfl)) ⟨rfl, rfl, trivial⟩ ⟨rfl, trivial⟩ rfl rfl ?_
          refine AOR.nil ?_
          refine AWR.region ?_
          refine AOR.pure (LT.fieldPl rfl fo30_0) ⟨rfl, trivial⟩ trivial rfl rfl ?_
          refine AOR.pure (LT.bload1 (c := (iC s2.2.2)) rfl ag3 (by exact rfl)) ⟨rfl, trivial⟩ ⟨rfl, trivial⟩ rfl rfl ?_
          refine AOR.pure (LT.add rfl) ⟨rfl, ⟨rfl, rfl⟩, trivial⟩ trivial rfl rfl ?_
          refine AOR.pure (LT.fieldPl rfl fo30_0) ⟨rfl, trivial⟩ trivial rfl rfl ?_
          refine AOR.step (LT.bstore (v := (.c (iC (w64 (s2.2.2 + 1))))) (out := [(iC (w64 (s2.2.2 + 1))), (sC nilV)]) rfl rfl (infS inf3) sz3 (by exact rfl) (by exact Nat.le_of_ble_eq_true rfl) (by exact rfl)) ⟨rfl, rfl, trivial⟩ ⟨rfl, trivial⟩ rfl rfl ?_
          refine AOR.nil ?_
          refine AWR.nil ⟨rfl, Ent.of ⟨rfl, rfl, rfl, (congrArg (fun l1 => (some (AV.s (.c (.loc 23 0 l1))) : Option AV)) (show s2.2.1.length = ((s2.2.1.set s2.1.toNat (-1)).set s2.1.toNat s2.2.2).length by simp only [List.length_set])), rfl, rfl, rfl, trivial⟩ ⟨rfl, rfl, rfl, rfl, trivial⟩⟩
        · refine AWR.skip ?_
          refine AWR.nil ⟨rfl, Ent.of ⟨rfl, rfl, rfl, (congrArg (fun l1 => (some (AV.s (.c (.loc 23 0 l1))) : Option AV)) (show s2.2.1.length = (s2.2.1.set s2.1.toNat (-1)).length by simp only [List.length_set])), rfl, rfl, rfl, trivial⟩ ⟨rfl, rfl, rfl, rfl, trivial⟩⟩
      · refine AWR.blk ?_
        refine AWR.region ?_
        refine AOR.pure (LT.add rfl) ⟨rfl, ⟨rfl, rfl⟩, trivial⟩ trivial rfl rfl ?_
        refine AOR.pure (LT.move (v := (.s (.c (iC (w64 (s2.1 + 1)))))) rfl) ⟨rfl, trivial⟩ trivial rfl rfl ?_
        refine AOR.nil ?_
        refine AWR.nil ⟨rfl, Ent.of ⟨rfl, rfl, rfl, rfl, rfl, rfl, rfl, trivial⟩ ⟨rfl, rfl, rfl, rfl, trivial⟩⟩
    · refine AWR.exit_end rfl ⟨rfl, Ent.of ⟨rfl, rfl, rfl, rfl, trivial⟩ ⟨rfl, rfl, rfl, rfl, trivial⟩⟩
  · refine AWR.seq ?_
    refine AWR.seq ?_
    refine AWR.region ?_
    refine AOR.pure (LT.bloadN (out := [(iC g.Points), (.pv (.xs false (g.Bars.map encTBar)))]) rfl ag30 (infS inf30) sz30 (by exact rfl) (by exact rfl)) ⟨rfl, trivial⟩ ⟨rfl, trivial⟩ rfl rfl ?_
    refine AOR.bind fun r28 hr28 => ?_
    refine AOR.pure (@LT.callF Try.prog _ _ 68 _ _ [(.agg [(iC g.Points), (.pv (.xs false (g.Bars.map encTBar)))])] _ _ [] _ _ _ _ (w_impl_IsGraph g r28 hr28) rfl cb68 (.cons (.agg (.cons (.same rfl) (.cons (.same rfl) .nil))) .nil) rfl rfl trivial) ⟨rfl, rfl, trivial⟩ trivial rfl rfl ?_
    refine AOR.pure (LT.not rfl) ⟨rfl, trivial⟩ trivial rfl rfl ?_
    refine AOR.nil ?_
    refine AWR.cond rfl (fun hc29 => ?_) (fun hc29 => ?_)
    · refine AWR.seq ?_
      refine AWR.region ?_
      refine AOR.pure (LT.bloadN (out := [(iC b19.2), (sC nilV)]) rfl ag30 (infS inf30) sz30 (by exact rfl) (by exact rfl)) ⟨rfl, trivial⟩ ⟨rfl, trivial⟩ rfl rfl ?_
      refine AOR.step (LT.bstore (v := (.agg [(iC b19.2), (sC nilV)])) (out := [(iC b19.2), (sC nilV)]) rfl rfl (infS inf30) sz30 (by exact rfl) (by exact Nat.le_of_ble_eq_true rfl) (by exact rfl)) ⟨rfl, rfl, trivial⟩ ⟨rfl, trivial⟩ rfl rfl ?_
      refine AOR.nil ?_
      refine AWR.ent (Ent.nilB 22 1 0 88 rfl rfl rfl rfl) ?_
      refine AWR.ent (Ent.of (σ' := [(4, (.s (.c (.pl 22 0))))]) (m' := [(0, (.prow 88 (([] : List TBar).map encTBar))), (22, (.row 30 [[(iC b19.2), (.loc 0 0 ([] : List TBar).length)]]))]) ⟨rfl, trivial⟩ ⟨rfl, rfl, trivial⟩) ?_
      refine AWR.ret (FPost.mk (.inr rfl) ⟨⟨_, _, _, rfl, rfl, rfl, ag30, sz30, _, (infS inf30)⟩, trivial⟩ ⟨rfl, trivial⟩ rfl ⟨⟨PermP.sc, trivial, trivial⟩, trivial⟩ ⟨PermO.prow' perm_encTBar, trivial⟩)
    · refine AWR.skip ?_
      refine AWR.seq ?_
      refine AWR.seq ?_
      refine AWR.region ?_
      refine AOR.pure (LT.fieldPl rfl fo30_1) ⟨rfl, trivial⟩ trivial rfl rfl ?_
      refine AOR.pure (LT.bload1 (c := (.pv (.xs false (g.Bars.map encTBar)))) rfl ag28 (by exact rfl)) ⟨rfl, trivial⟩ ⟨rfl, trivial⟩ rfl rfl ?_
      refine AOR.pure (LT.tlenRO rfl und28) ⟨rfl, trivial⟩ trivial rfl rfl ?_
      refine AOR.pure (LT.move (v := (.s (.c (iC 0)))) rfl) ⟨⟨rfl, rfl⟩, trivial⟩ trivial rfl rfl ?_
      refine AOR.nil ?_
      refine AWR.block ?_
      refine AWR.ent (Ent.nilB 24 1 29 88 rfl rfl rfl rfl) ?_
      refine AWR.loop1 (id := 2) (m_impl_WithoutPoints_L2 g b19) (fun s30 => ([(4, (.s (.c (.pl 22 0)))), (5, (.s (.c (.loc 23 0 b19.1.length)))), (6, (.s (.c (.pl 24 0)))), (45, (.s (.c (.pv (.xs false (g.Bars.map encTBar)))))), (46, (.s (.c (iC (g.Bars.length : Int))))), (47, (.s (.c (iC s30.1))))], [(22, (.row 30 [[(iC 0), (sC nilV)]])), (23, (.prow 3 (b19.1.map encInt))), (24, (.row 30 [[(iC b19.2), (.loc 29 0 s30.2.length)]])), (29, (.prow 88 (s30.2.map encTBar)))])) (fun b55 => ([(4, (.s (.c (.pl 22 0)))), (6, (.s (.c (.pl 24 0))))], [(22, (.row 30 [[(iC 0), (sC nilV)]])), (24, (.row 30 [[(iC b55.1), (.loc 29 0 b55.2.length)]])), (29, (.prow 88 (b55.2.map encTBar)))])) ?_ (Ent.of ⟨rfl, rfl, rfl, rfl, rfl, rfl, trivial⟩ ⟨rfl, rfl, rfl, rfl, trivial⟩) rfl (fun b55 _ => ?_)
      · intro s30
        unfold m_impl_WithoutPoints_L2
        refine AWR.seq ?_
        refine AWR.region ?_
        refine AOR.pure (LT.lss rfl) ⟨rfl, rfl, trivial⟩ trivial rfl rfl ?_
        refine AOR.nil ?_
        refine AWR.seq ?_
        refine AWR.cond rfl (fun hc56 => ?_) (fun hc56 => ?_)
        · refine AWR.skip ?_
          refine AWR.seq ?_
          refine AWR.block ?_
          refine AWR.seq ?_
          refine AWR.region ?_
          refine AOR.bind fun x57 hx57 => ?_
          refine AOR.pure (LT.tindexRO (enc := encTBar) rfl el28 hx57 sz88) ⟨rfl, rfl, trivial⟩ trivial rfl rfl ?_
          refine AOR.pure (LT.loadPxN rfl ag88 (infS inf88) (by exact sz88.symm)) ⟨rfl, trivial⟩ trivial rfl rfl ?_
          refine AOR.step (LT.alloc (n := 27) (cells := [(iC 0), (iC 0)]) rfl ti88 rfl rfl rfl) trivial trivial rfl rfl ?_
          refine AOR.step (LT.bstore (v := (.agg [(iC x57.A), (iC x57.B)])) (out := [(iC x57.A), (iC x57.B)]) rfl rfl (infS inf88) sz88 (by exact rfl) (by exact Nat.le_of_ble_eq_true rfl) (by exact rfl)) ⟨rfl, rfl, trivial⟩ ⟨rfl, trivial⟩ rfl rfl ?_
          refine AOR.nil ?_
          refine AWR.seq ?_
          refine AWR.draw mixed ?_
          refine AOD.pure (LT.move (v := (.s (.c (.loc 23 0 b19.1.length)))) rfl) ⟨rfl, trivial⟩ trivial rfl rfl ?_
          refine AOD.pure (LT.fieldPl rfl fo88_0) ⟨rfl, trivial⟩ trivial rfl rfl ?_
          refine AOD.pure (LT.bload1 (c := (iC x57.A)) rfl ag3 (by exact rfl)) ⟨rfl, trivial⟩ ⟨rfl, trivial⟩ rfl rfl ?_
          refine AOD.bind fun x58 hx58 => ?_
          refine AOD.pure (LT.tindexLoc rfl rfl el40 hx58) ⟨rfl, rfl, trivial⟩ ⟨rfl, trivial⟩ rfl rfl ?_
          refine AOD.pure (LT.tload1 (k := 0) rfl ag3 hx58 (by exact rfl) (by exact rfl)) ⟨rfl, trivial⟩ ⟨rfl, trivial⟩ rfl rfl ?_
          refine AOD.pure (LT.move (v := (.s (.c (.loc 23 0 b19.1.length)))) rfl) ⟨rfl, trivial⟩ trivial rfl rfl ?_
          refine AOD.pure (LT.fieldPl rfl fo88_1) ⟨rfl, trivial⟩ trivial rfl rfl ?_
          refine AOD.pure (LT.bload1 (c := (iC x57.B)) rfl ag3 (by exact rfl)) ⟨rfl, trivial⟩ ⟨rfl, trivial⟩ rfl rfl ?_
          refine AOD.bind fun x59 hx59 => ?_
          refine AOD.pure (LT.tindexLoc rfl rfl el40 hx59) ⟨rfl, rfl, trivial⟩ ⟨rfl, trivial⟩ rfl rfl ?_
          refine AOD.pure (LT.tload1 (k := 0) rfl ag3 hx59 (by exact rfl) (by exact rfl)) ⟨rfl, trivial⟩ ⟨rfl, trivial⟩ rfl rfl ?_
          refine AOD.pure (LT.assign (v := (.s (.c (iC x58)))) rfl) ⟨rfl, trivial⟩ trivial rfl rfl ?_
          refine AOD.pure (LT.assign (v := (.s (.c (iC x59)))) rfl) ⟨rfl, trivial⟩ trivial rfl rfl ?_
          refine AOD.nil (by kernel_rfl) ?_
          refine AWR.seq ?_
          refine AWR.joinK (fun j61 => ([(4, (.s (.c (.pl 22 0)))), (5, (.s (.c (.loc 23 0 b19.1.length)))), (6, (.s (.c (.pl 24 0)))), (10, (.s (.c (iC x58)))), (11, (.s (.c (iC x59)))), (45, (.s (.c (.pv (.xs false (g.Bars.map encTBar)))))), (46, (.s (.c (iC (g.Bars.length : Int))))), (47, (.s (.c (iC s30.1)))), (66, (.s (.c (bC j61))))], [(22, (.row 30 [[(iC 0), (sC nilV)]])), (23, (.prow 3 (b19.1.map encInt))), (24, (.row 30 [[(iC b19.2), (.loc 29 0 s30.2.length)]])), (29, (.prow 88 (s30.2.map encTBar)))])) ?_ (fun j61 _ => ?_)
          · refine AWR.ent (Ent.of (σ' := [(4, (.s (.c (.pl 22 0)))), (5, (.s (.c (.loc 23 0 b19.1.length)))), (6, (.s (.c (.pl 24 0)))), (10, (.s (.c (iC x58)))), (11, (.s (.c (iC x59)))), (45, (.s (.c (.pv (.xs false (g.Bars.map encTBar)))))), (46, (.s (.c (iC (g.Bars.length : Int))))), (47, (.s (.c (iC s30.1))))]) (m' := [(22, (.row 30 [[(iC 0), (sC nilV)]])), (23, (.prow 3 (b19.1.map encInt))), (24, (.row 30 [[(iC b19.2), (.loc 29 0 s30.2.length)]])), (29, (.prow 88 (s30.2.map encTBar)))]) ⟨rfl, rfl, rfl, rfl, rfl, rfl, rfl, rfl, trivial⟩ ⟨rfl, rfl, rfl, rfl, trivial⟩) ?_
            refine AWR.region ?_
            refine AOR.pure (LT.move (v := (.s (.c (iC x58)))) rfl) ⟨rfl, trivial⟩ trivial rfl rfl ?_
            refine AOR.pure (LT.geq rfl) ⟨rfl, ⟨rfl, rfl⟩, trivial⟩ trivial rfl rfl ?_
            refine AOR.pure (LT.move (v := (.s (.c (bC (decide (0 ≤ x58)))))) rfl) ⟨rfl, trivial⟩ trivial rfl rfl ?_
            refine AOR.split (fun hb62 => ?_) (fun hb62 => ?_)
            · refine AOR.pure (LT.move (v := (.s (.c (iC x59)))) rfl) ⟨rfl, trivial⟩ trivial ⟨_, rfl, .inl ⟨_, rfl, (by rw [hb62]; rfl)⟩⟩ rfl ?_
              refine AOR.pure (LT.geq rfl) ⟨rfl, ⟨rfl, rfl⟩, trivial⟩ trivial ⟨_, rfl, .inl ⟨_, rfl, (by rw [hb62]; rfl)⟩⟩ rfl ?_
              refine AOR.pure (LT.pickT (v := (.s (.c (bC (decide (0 ≤ x59)))))) rfl hb62) ⟨rfl, rfl, trivial⟩ trivial rfl rfl ?_
              refine AOR.nil ?_
              refine AWR.nil ⟨rfl, Ent.of ⟨rfl, rfl, rfl, rfl, rfl, rfl, rfl, rfl, rfl, trivial⟩ ⟨rfl, rfl, rfl, rfl, trivial⟩⟩
            · refine AOR.skip ⟨_, rfl, .inl ⟨_, rfl, (by rw [hb62]; rfl)⟩⟩ rfl ?_
              refine AOR.skip ⟨_, rfl, .inl ⟨_, rfl, (by rw [hb62]; rfl)⟩⟩ rfl ?_
              refine AOR.pure (LT.pickF (v := (.s (.c (bC false)))) rfl hb62) ⟨rfl, ⟨rfl, rfl⟩, trivial⟩ trivial rfl rfl ?_
              refine AOR.nil ?_
              refine AWR.nil ⟨rfl, Ent.of ⟨rfl, rfl, rfl, rfl, rfl, rfl, rfl, rfl, rfl, trivial⟩ ⟨rfl, rfl, rfl, rfl, trivial⟩⟩
          · refine AWR.joinK (fun j65 => ([(4, (.s (.c (.pl 22 0)))), (5, (.s (.c (.loc 23 0 b19.1.length)))), (6, (.s (.c (.pl 24 0)))), (45, (.s (.c (.pv (.xs false (g.Bars.map encTBar)))))), (46, (.s (.c (iC (g.Bars.length : Int))))), (47, (.s (.c (iC s30.1))))], [(22, (.row 30 [[(iC 0), (sC nilV)]])), (23, (.prow 3 (b19.1.map encInt))), (24, (.row 30 [[(iC b19.2), (.loc 29 0 j65.length)]])), (29, (.prow 88 (j65.map encTBar)))])) ?_ (fun j65 _ => ?_)
            · refine AWR.cond rfl (fun hc66 => ?_) (fun hc66 => ?_)
              · refine AWR.region ?_
                refine AOR.pure (LT.fieldPl rfl fo30_1) ⟨rfl, trivial⟩ trivial rfl rfl ?_
                refine AOR.pure (LT.bload1 (c := (.loc 29 0 s30.2.length)) rfl ag28 (by exact rfl)) ⟨rfl, trivial⟩ ⟨rfl, trivial⟩ rfl rfl ?_
                refine AOR.pure (LT.move (v := (.s (.c (iC x58)))) rfl) ⟨rfl, trivial⟩ trivial rfl rfl ?_
                refine AOR.pure (LT.move (v := (.s (.c (iC x59)))) rfl) ⟨rfl, trivial⟩ trivial rfl rfl ?_
                refine AOR.pure (LT.build [(0, .tmp 69, (.c (iC x58))), (1, .tmp 70, (.c (iC x59)))] rfl rfl pl88 ti88 rfl rfl rfl) ⟨rfl, rfl, trivial⟩ trivial rfl rfl ?_
                refine AOR.step (LT.tbuildSlice (n := 28) (enc := encTBar) [(0, .tmp 71, (.agg [(iC x58), (iC x59)]))] [(TBar.mk x58 x59)] rfl rfl und28 ti88 rfl rfl rfl rfl (by decide) (fun _ => rfl) rfl) ⟨rfl, trivial⟩ trivial rfl rfl ?_
                refine AOR.bind fun u67 hu67 => ?_
                refine AOR.step (LT.tappP (enc := encTBar) rfl rfl rfl und28 ti88 rfl (by decide) (by decide) (fun _ => rfl) (lim_le hu67)) ⟨rfl, rfl, trivial⟩ ⟨rfl, rfl, trivial⟩ rfl rfl ?_
                refine AOR.pure (LT.fieldPl rfl fo30_1) ⟨rfl, trivial⟩ trivial rfl rfl ?_
                refine AOR.step (LT.bstore (v := (.c (.loc 29 0 (s30.2 ++ [(TBar.mk x58 x59)]).length))) (out := [(iC b19.2), (.loc 29 0 (s30.2 ++ [(TBar.mk x58 x59)]).length)]) rfl rfl (infS inf28) sz28 (by exact rfl) (by exact Nat.le_of_ble_eq_true rfl) (by exact rfl)) ⟨rfl, rfl, trivial⟩ ⟨rfl, trivial⟩ rfl rfl ?_
                refine AOR.nil ?_
                refine AWR.nil ⟨rfl, Ent.of ⟨rfl, rfl, rfl, rfl, rfl, rfl, trivial⟩ ⟨rfl, rfl, rfl, rfl, trivial⟩⟩
              · refine AWR.skip ?_
                refine AWR.nil ⟨rfl, Ent.of ⟨rfl, rfl, rfl, rfl, rfl, rfl, trivial⟩ ⟨rfl, rfl, rfl, rfl, trivial⟩⟩
            · refine AWR.blk ?_
              refine AWR.region ?_
              refine AOR.pure (LT.add rfl) ⟨rfl, ⟨rfl, rfl⟩, trivial⟩ trivial rfl rfl ?_
              refine AOR.pure (LT.move (v := (.s (.c (iC (w64 (s30.1 + 1)))))) rfl) ⟨rfl, trivial⟩ trivial rfl rfl ?_
              refine AOR.nil ?_
              refine AWR.nil ⟨rfl, Ent.of ⟨rfl, rfl, rfl, rfl, rfl, rfl, trivial⟩ ⟨rfl, rfl, rfl, rfl, trivial⟩⟩
        · refine AWR.exit_end rfl ⟨rfl, Ent.of ⟨rfl, rfl, trivial⟩ ⟨rfl, rfl, rfl, trivial⟩⟩
      · refine AWR.seq ?_
        refine AWR.region ?_
        refine AOR.pure (LT.bloadN (out := [(iC b55.1), (.loc 29 0 b55.2.length)]) rfl ag30 (infS inf30) sz30 (by exact rfl) (by exact rfl)) ⟨rfl, trivial⟩ ⟨rfl, trivial⟩ rfl rfl ?_
        refine AOR.step (LT.bstore (v := (.agg [(iC b55.1), (.loc 29 0 b55.2.length)])) (out := [(iC b55.1), (.loc 29 0 b55.2.length)]) rfl rfl (infS inf30) sz30 (by exact rfl) (by exact Nat.le_of_ble_eq_true rfl) (by exact rfl)) ⟨rfl, rfl, trivial⟩ ⟨rfl, trivial⟩ rfl rfl ?_
        refine AOR.nil ?_
        refine AWR.ent (Ent.of (σ' := [(4, (.s (.c (.pl 22 0))))]) (m' := [(22, (.row 30 [[(iC b55.1), (.loc 29 0 b55.2.length)]])), (29, (.prow 88 (b55.2.map encTBar)))]) ⟨rfl, trivial⟩ ⟨rfl, rfl, trivial⟩) ?_
        refine AWR.ent (Ent.mv 29 0 rfl rfl) ?_
        refine AWR.ent (Ent.of (σ' := [(4, (.s (.c (.pl 22 0))))]) (m' := [(0, (.prow 88 (b55.2.map encTBar))), (22, (.row 30 [[(iC b55.1), (.loc 0 0 b55.2.length)]]))]) ⟨rfl, trivial⟩ ⟨rfl, rfl, trivial⟩) ?_
        refine AWR.ret (FPost.mk (.inr rfl) ⟨⟨_, _, _, rfl, rfl, rfl, ag30, sz30, _, (infS inf30)⟩, trivial⟩ ⟨rfl, trivial⟩ rfl ⟨⟨PermP.sc, trivial, trivial⟩, trivial⟩ ⟨PermO.prow' perm_encTBar, trivial⟩)
set_option maxRecDepth 100000 in
set_option maxHeartbeats 8000000 in
theorem w_laws_eqIntS (a : (List Int)) (b : (List Int)) : ∀ t, m_laws_eqIntS a b = some t → Fw.Fn Try.prog 32 [(.c (.pv (.xs false (a.map encInt)))), (.c (.pv (.xs false (b.map encInt))))] [] (.s (.c (bC t))) [] [] [] := by
  refine Fw.Fn.of (P := Try.prog) (X := []) (pn := []) (rs := (fun (t : Bool) => [(.c (bC t))])) (dfs := (fun (t : Bool) => [])) Try.func32 rfl Try.ntmps32 (Nat.le_of_ble_eq_true rfl) rfl ?_
  intro w0 U0 R0 g0
  unfold m_laws_eqIntS
  refine AWR.seq ?_
  refine AWR.region ?_
  refine AOR.pure (LT.assign (v := (.s (.c (bC false)))) rfl) ⟨⟨rfl, rfl⟩, trivial⟩ trivial rfl rfl ?_
  refine AOR.nil ?_
  refine AWR.seq ?_
  refine AWR.seq ?_
  refine AWR.region ?_
  refine AOR.pure (LT.move (v := (.s (.c (.pv (.xs false (a.map encInt)))))) rfl) ⟨rfl, trivial⟩ trivial rfl rfl ?_
  refine AOR.pure (LT.tlenRO rfl und40) ⟨rfl, trivial⟩ trivial rfl rfl ?_
  refine AOR.pure (LT.move (v := (.s (.c (.pv (.xs false (b.map encInt)))))) rfl) ⟨rfl, trivial⟩ trivial rfl rfl ?_
  refine AOR.pure (LT.tlenRO rfl und40) ⟨rfl, trivial⟩ trivial rfl rfl ?_
  refine AOR.pure (LT.neq rfl) ⟨rfl, rfl, trivial⟩ trivial rfl rfl ?_
  refine AOR.nil ?_
  refine AWR.cond rfl (fun hc1 => ?_) (fun hc1 => ?_)
  · refine AWR.seq ?_
    refine AWR.region ?_
    refine AOR.pure (LT.assign (v := (.s (.c (bC false)))) rfl) ⟨⟨rfl, rfl⟩, trivial⟩ trivial rfl rfl ?_
    refine AOR.nil ?_
    refine AWR.ret (FPost.mk (.inr rfl) ⟨rfl, trivial⟩ trivial rfl ⟨PermP.sc, trivial⟩ trivial)
  · refine AWR.skip ?_
    refine AWR.seq ?_
    refine AWR.seq ?_
    refine AWR.region ?_
    refine AOR.pure (LT.assign (v := (.s (.c (iC 0)))) rfl) ⟨⟨rfl, rfl⟩, trivial⟩ trivial rfl rfl ?_
    refine AOR.nil ?_
    refine AWR.block ?_
    refine AWR.loopR (id := 0) (m_laws_eqIntS_L1 a b) (fun s2 => ([(0, (.s (.c (.pv (.xs false (a.map encInt)))))), (1, (.s (.c (.pv (.xs false (b.map encInt)))))), (5, (.s (.c (iC s2))))], [])) (fun b11 => ([], [])) (FPost Try.prog Try.f32.results.toList [] [] (fun (t : Bool) => [(.c (bC t))]) (fun (t : Bool) => [])) ?_ (Ent.of ⟨rfl, rfl, rfl, trivial⟩ trivial) rfl (fun b11 _ => ?_) (by intro r t σ m ht hk; injection ht with ht; subst ht; exact hk)
    · intro s2
      unfold m_laws_eqIntS_L1
      refine AWR.seq ?_
      refine AWR.seq ?_
      refine AWR.region ?_
      refine AOR.pure (LT.move (v := (.s (.c (iC s2)))) rfl) ⟨rfl, trivial⟩ trivial rfl rfl ?_
      refine AOR.pure (LT.move (v := (.s (.c (.pv (.xs false (a.map encInt)))))) rfl) ⟨rfl, trivial⟩ trivial rfl rfl ?_
      refine AOR.pure (LT.tlenRO rfl und40) ⟨rfl, trivial⟩ trivial rfl rfl ?_
      refine AOR.pure (LT.lss rfl) ⟨rfl, rfl, trivial⟩ trivial rfl rfl ?_
      refine AOR.nil ?_
      refine AWR.cond rfl (fun hc12 => ?_) (fun hc12 => ?_)
      · refine AWR.skip ?_
        refine AWR.seq ?_
        refine AWR.block ?_
        refine AWR.seq ?_
        refine AWR.draw mixed ?_
        refine AOD.pure (LT.move (v := (.s (.c (.pv (.xs false (a.map encInt)))))) rfl) ⟨rfl, trivial⟩ trivial rfl rfl ?_
        refine AOD.pure (LT.move (v := (.s (.c (iC s2)))) rfl) ⟨rfl, trivial⟩ trivial rfl rfl ?_
        refine AOD.bind fun x13 hx13 => ?_
        refine AOD.pure (LT.tindexRO (enc := encInt) rfl el40 hx13 sz3) ⟨rfl, rfl, trivial⟩ trivial rfl rfl ?_
        refine AOD.pure (LT.loadPx1 rfl ag3) ⟨rfl, trivial⟩ trivial rfl rfl ?_
        refine AOD.pure (LT.move (v := (.s (.c (.pv (.xs false (b.map encInt)))))) rfl) ⟨rfl, trivial⟩ trivial rfl rfl ?_
        refine AOD.pure (LT.move (v := (.s (.c (iC s2)))) rfl) ⟨rfl, trivial⟩ trivial rfl rfl ?_
        refine AOD.bind fun x14 hx14 => ?_
        refine AOD.pure (LT.tindexRO (enc := encInt) rfl el40 hx14 sz3) ⟨rfl, rfl, trivial⟩ trivial rfl rfl ?_
        refine AOD.pure (LT.loadPx1 rfl ag3) ⟨rfl, trivial⟩ trivial rfl rfl ?_
        refine AOD.pure (LT.neq rfl) ⟨rfl, rfl, trivial⟩ trivial rfl rfl ?_
        refine AOD.nil (by kernel_rfl) ?_
        refine AWR.cond rfl (fun hc15 => ?_) (fun hc15 => ?_)
        · refine AWR.seq ?_
          refine AWR.ent (Ent.of (σ' := []) (m' := []) trivial trivial) ?_
          refine AWR.region ?_
          refine AOR.pure (LT.assign (v := (.s (.c (bC false)))) rfl) ⟨⟨rfl, rfl⟩, trivial⟩ trivial rfl rfl ?_
          refine AOR.nil ?_
          refine AWR.ret ⟨rfl, FPost.mk (.inr rfl) ⟨rfl, trivial⟩ trivial rfl ⟨PermP.sc, trivial⟩ trivial⟩
        · refine AWR.skip ?_
          refine AWR.blk ?_
          refine AWR.ent (Ent.of (σ' := [(0, (.s (.c (.pv (.xs false (a.map encInt)))))), (1, (.s (.c (.pv (.xs false (b.map encInt)))))), (5, (.s (.c (iC s2))))]) (m' := []) ⟨rfl, rfl, rfl, trivial⟩ trivial) ?_
          refine AWR.region ?_
          refine AOR.pure (LT.move (v := (.s (.c (iC s2)))) rfl) ⟨rfl, trivial⟩ trivial rfl rfl ?_
          refine AOR.pure (LT.add rfl) ⟨rfl, ⟨rfl, rfl⟩, trivial⟩ trivial rfl rfl ?_
          refine AOR.pure (LT.assign (v := (.s (.c (iC (w64 (s2 + 1)))))) rfl) ⟨rfl, trivial⟩ trivial rfl rfl ?_
          refine AOR.nil ?_
          refine AWR.nil ⟨rfl, Ent.of ⟨rfl, rfl, rfl, trivial⟩ trivial⟩
      · refine AWR.exit_end rfl ⟨rfl, Ent.of trivial trivial⟩
    · refine AWR.seq ?_
      refine AWR.region ?_
      refine AOR.pure (LT.assign (v := (.s (.c (bC true)))) rfl) ⟨⟨rfl, rfl⟩, trivial⟩ trivial rfl rfl ?_
      refine AOR.nil ?_
      refine AWR.ret (FPost.mk (.inr rfl) ⟨rfl, trivial⟩ trivial rfl ⟨PermP.sc, trivial⟩ trivial)
set_option maxRecDepth 100000 in
set_option maxHeartbeats 8000000 in
theorem w_laws_markIntS (a : (List Int)) (k : Int) : ∀ t, m_laws_markIntS a k = some t → Fw.Fn Try.prog 33 [(.c (.loc 0 0 a.length)), (.c (iC k))] [(0, (.prow 3 (a.map encInt)))] (.s (.c (iC t.1))) [(0, (.prow 3 (t.2.map encInt)))] [0] [] := by
  refine Fw.Fn.of (P := Try.prog) (X := []) (pn := [0]) (rs := (fun (t : (Int × (List Int))) => [(.c (iC t.1))])) (dfs := (fun (t : (Int × (List Int))) => [(0, (.prow 3 (t.2.map encInt)))])) Try.func33 rfl Try.ntmps33 (Nat.le_of_ble_eq_true rfl) rfl ?_
  intro w0 U0 R0 g0
  unfold m_laws_markIntS
  refine AWR.seq ?_
  refine AWR.region ?_
  refine AOR.pure (LT.assign (v := (.s (.c (iC 0)))) rfl) ⟨⟨rfl, rfl⟩, trivial⟩ trivial rfl rfl ?_
  refine AOR.nil ?_
  refine AWR.seq ?_
  refine AWR.seq ?_
  refine AWR.region ?_
  refine AOR.pure (LT.assign (v := (.s (.c (iC 0)))) rfl) ⟨⟨rfl, rfl⟩, trivial⟩ trivial rfl rfl ?_
  refine AOR.nil ?_
  refine AWR.block ?_
  refine AWR.loop1 (id := 0) (m_laws_markIntS_L1) (fun s1 => ([(0, (.s (.c (.loc 0 0 s1.2.2.length)))), (1, (.s (.c (iC s1.1)))), (5, (.s (.c (iC s1.2.1))))], [(0, (.prow 3 (s1.2.2.map encInt)))])) (fun b6 => ([(1, (.s (.c (iC b6.1))))], [(0, (.prow 3 (b6.2.map encInt)))])) ?_ (Ent.of ⟨rfl, rfl, rfl, trivial⟩ ⟨rfl, trivial⟩) rfl (fun b6 _ => ?_)
  · intro s1
    unfold m_laws_markIntS_L1
    refine AWR.seq ?_
    refine AWR.seq ?_
    refine AWR.region ?_
    refine AOR.pure (LT.move (v := (.s (.c (iC s1.2.1)))) rfl) ⟨rfl, trivial⟩ trivial rfl rfl ?_
    refine AOR.pure (LT.move (v := (.s (.c (.loc 0 0 s1.2.2.length)))) rfl) ⟨rfl, trivial⟩ trivial rfl rfl ?_
    refine AOR.pure (LT.lenLoc rfl und40) ⟨rfl, trivial⟩ trivial rfl rfl ?_
    refine AOR.pure (LT.lss rfl) ⟨rfl, rfl, trivial⟩ trivial rfl rfl ?_
    refine AOR.nil ?_
    refine AWR.cond rfl (fun hc7 => ?_) (fun hc7 => ?_)
    · refine AWR.skip ?_
      refine AWR.seq ?_
      refine AWR.block ?_
      refine AWR.seq ?_
      refine AWR.region ?_
      refine AOR.pure (LT.move (v := (.s (.c (.loc 0 0 s1.2.2.length)))) rfl) ⟨rfl, trivial⟩ trivial rfl rfl ?_
      refine AOR.pure (LT.move (v := (.s (.c (iC s1.2.1)))) rfl) ⟨rfl, trivial⟩ trivial rfl rfl ?_
      refine AOR.pure (LT.move (v := (.s (.c (iC s1.1)))) rfl) ⟨rfl, trivial⟩ trivial rfl rfl ?_
      refine AOR.bind fun x8 hx8 => ?_
      refine AOR.pure (LT.tindexLoc rfl rfl el40 hx8) ⟨rfl, rfl, trivial⟩ ⟨rfl, trivial⟩ rfl rfl ?_
      refine AOR.step (LT.tstore (k := 0) (v := (.c (iC s1.1))) (b' := s1.1) rfl rfl (infS inf3) sz3 (by exact rfl) hx8 (by exact rfl) (by exact Nat.le_of_ble_eq_true rfl) (by exact rfl)) ⟨rfl, rfl, trivial⟩ ⟨rfl, trivial⟩ rfl rfl ?_
      refine AOR.nil ?_
      refine AWR.ent (Ent.of (σ' := [(0, (.s (.c (.loc 0 0 s1.2.2.length)))), (1, (.s (.c (iC s1.1)))), (5, (.s (.c (iC s1.2.1))))]) (m' := [(0, (.prow 3 ((s1.2.2.set s1.2.1.toNat s1.1).map encInt)))]) ⟨rfl, rfl, rfl, trivial⟩ ⟨rfl, trivial⟩) ?_
      refine AWR.region ?_
      refine AOR.pure (LT.move (v := (.s (.c (iC s1.1)))) rfl) ⟨rfl, trivial⟩ trivial rfl rfl ?_
      refine AOR.pure (LT.add rfl) ⟨rfl, ⟨rfl, rfl⟩, trivial⟩ trivial rfl rfl ?_
      refine AOR.pure (LT.assign (v := (.s (.c (iC (w64 (s1.1 + 1)))))) rfl) ⟨rfl, trivial⟩ trivial rfl rfl ?_
      refine AOR.nil ?_
      refine AWR.blk ?_
      refine AWR.region ?_
      refine AOR.pure (LT.move (v := (.s (.c (iC s1.2.1)))) rfl) ⟨rfl, trivial⟩ trivial rfl rfl ?_
      refine AOR.pure (LT.add rfl) ⟨rfl, ⟨rfl, rfl⟩, trivial⟩ trivial rfl rfl ?_
      refine AOR.pure (LT.assign (v := (.s (.c (iC (w64 (s1.2.1 + 1)))))) rfl) ⟨rfl, trivial⟩ trivial rfl rfl ?_
      refine AOR.nil ?_
      refine AWR.nil ⟨rfl, Ent.of ⟨(congrArg (fun l1 => (some (AV.s (.c (.loc 0 0 l1))) : Option AV)) (show s1.2.2.length = (s1.2.2.set s1.2.1.toNat s1.1).length by simp only [List.length_set])), rfl, rfl, trivial⟩ ⟨rfl, trivial⟩⟩
    · refine AWR.exit_end rfl ⟨rfl, Ent.of ⟨rfl, trivial⟩ ⟨rfl, trivial⟩⟩
  · refine AWR.seq ?_
    refine AWR.region ?_
    refine AOR.pure (LT.move (v := (.s (.c (iC b6.1)))) rfl) ⟨rfl, trivial⟩ trivial rfl rfl ?_
    refine AOR.pure (LT.assign (v := (.s (.c (iC b6.1)))) rfl) ⟨rfl, trivial⟩ trivial rfl rfl ?_
    refine AOR.nil ?_
    refine AWR.ret (FPost.mk (.inr rfl) ⟨rfl, trivial⟩ ⟨rfl, trivial⟩ rfl ⟨PermP.sc, trivial⟩ ⟨PermO.prow' perm_encInt, trivial⟩)
set_option maxRecDepth 100000 in
set_option maxHeartbeats 8000000 in
theorem w_laws_FnExactWithoutPoints (aG : TGraph) (aSet : (List Int)) : ∀ t, m_laws_FnExactWithoutPoints aG aSet = some t → Fw.Fn Try.prog 6 [(.agg [(iC aG.Points), (.pv (.xs false (aG.Bars.map encTBar)))]), (.c (.pv (.xs false (aSet.map encInt))))] [] (.s (.c (bC t))) [] [] [] := by
  refine Fw.Fn.of (P := Try.prog) (X := []) (pn := []) (rs := (fun (t : Bool) => [(.c (bC t))])) (dfs := (fun (t : Bool) => [])) Try.func6 rfl Try.ntmps6 (Nat.le_of_ble_eq_true rfl) rfl ?_
  intro w0 U0 R0 g0
  unfold m_laws_FnExactWithoutPoints
  refine AWR.seq ?_
  refine AWR.region ?_
  refine AOR.step (LT.box (n := 21) (v := (.agg [(iC aG.Points), (.pv (.xs false (aG.Bars.map encTBar)))])) rfl sz26 (by exact rfl)) ⟨rfl, trivial⟩ trivial rfl rfl ?_
  refine AOR.pure (LT.assign (v := (.s (.c (bC false)))) rfl) ⟨⟨rfl, rfl⟩, trivial⟩ trivial rfl rfl ?_
  refine AOR.nil ?_
  refine AWR.seq ?_
  refine AWR.seq ?_
  refine AWR.region ?_
  refine AOR.pure (LT.move (v := (.s (.c (.pv (.xs false (aSet.map encInt)))))) rfl) ⟨rfl, trivial⟩ trivial rfl rfl ?_
  refine AOR.pure (LT.tlenRO rfl und40) ⟨rfl, trivial⟩ trivial rfl rfl ?_
  refine AOR.pure (LT.gtr rfl) ⟨rfl, ⟨rfl, rfl⟩, trivial⟩ trivial rfl rfl ?_
  refine AOR.nil ?_
  refine AWR.cond rfl (fun hc1 => ?_) (fun hc1 => ?_)
  · refine AWR.seq ?_
    refine AWR.region ?_
    refine AOR.pure (LT.assign (v := (.s (.c (bC true)))) rfl) ⟨⟨rfl, rfl⟩, trivial⟩ trivial rfl rfl ?_
    refine AOR.nil ?_
    refine AWR.ret (FPost.mk (.inr rfl) ⟨rfl, trivial⟩ trivial rfl ⟨PermP.sc, trivial⟩ trivial)
  · refine AWR.skip ?_
    refine AWR.seq ?_
    refine AWR.region ?_
    refine AOR.pure (LT.assign (v := (.s (.c (iC 1048576)))) rfl) ⟨⟨rfl, rfl⟩, trivial⟩ trivial rfl rfl ?_
    refine AOR.nil ?_
    refine AWR.seq ?_
    refine AWR.region ?_
    refine AOR.pure (LT.bloadN (out := [(iC aG.Points), (.pv (.xs false (aG.Bars.map encTBar)))]) rfl ag26 (infS inf26) sz26 (by exact rfl) (by exact rfl)) ⟨rfl, trivial⟩ ⟨rfl, trivial⟩ rfl rfl ?_
    refine AOR.pure (LT.move (v := (.s (.c (iC 1048576)))) rfl) ⟨rfl, trivial⟩ trivial rfl rfl ?_
    refine AOR.bind fun r2 hr2 => ?_
    refine AOR.pure (@LT.callF Try.prog _ _ 17 _ _ [(.agg [(iC aG.Points), (.pv (.xs false (aG.Bars.map encTBar)))]), (.c (iC 1048576))] _ _ [] _ _ _ _ (w_laws_szGraph aG 1048576 r2 hr2) rfl cb17 (.cons (.agg (.cons (.same rfl) (.cons (.same rfl) .nil))) (.cons (.c (.same rfl)) .nil)) rfl rfl trivial) ⟨rfl, rfl, rfl, trivial⟩ trivial rfl rfl ?_
    refine AOR.pure (LT.assign (v := (.s (.c (iC r2)))) rfl) ⟨rfl, trivial⟩ trivial rfl rfl ?_
    refine AOR.nil ?_
    refine AWR.seq ?_
    refine AWR.seq ?_
    refine AWR.ent (Ent.of (σ' := [(1, (.s (.c (.pv (.xs false (aSet.map encInt)))))), (2, (.s (.c (.pl 21 0)))), (5, (.s (.c (iC r2))))]) (m' := [(21, (.row 26 [[(iC aG.Points), (.pv (.xs false (aG.Bars.map encTBar)))]]))]) ⟨rfl, rfl, rfl, trivial⟩ ⟨rfl, trivial⟩) ?_
    refine AWR.region ?_
    refine AOR.pure (LT.move (v := (.s (.c (iC r2)))) rfl) ⟨rfl, trivial⟩ trivial rfl rfl ?_
    refine AOR.pure (LT.lss rfl) ⟨rfl, ⟨rfl, rfl⟩, trivial⟩ trivial rfl rfl ?_
    refine AOR.nil ?_
    refine AWR.cond rfl (fun hc3 => ?_) (fun hc3 => ?_)
    · refine AWR.seq ?_
      refine AWR.region ?_
      refine AOR.pure (LT.assign (v := (.s (.c (bC true)))) rfl) ⟨⟨rfl, rfl⟩, trivial⟩ trivial rfl rfl ?_
      refine AOR.nil ?_
      refine AWR.ret (FPost.mk (.inr rfl) ⟨rfl, trivial⟩ trivial rfl ⟨PermP.sc, trivial⟩ trivial)
    · refine AWR.skip ?_
      refine AWR.seq ?_
      refine AWR.region ?_
      refine AOR.pure (LT.bloadN (out := [(iC aG.Points), (.pv (.xs false (aG.Bars.map encTBar)))]) rfl ag26 (infS inf26) sz26 (by exact rfl) (by exact rfl)) ⟨rfl, trivial⟩ ⟨rfl, trivial⟩ rfl rfl ?_
      refine AOR.bind fun r4 hr4 => ?_
      refine AOR.step (@LT.callF Try.prog _ _ 19 _ _ [(.agg [(iC aG.Points), (.pv (.xs false (aG.Bars.map encTBar)))])] _ _ [] _ _ _ _ ((show Fw.Fn Try.prog 19 [(.agg [(iC aG.Points), (.pv (.xs false (aG.Bars.map encTBar)))])] [] (.s (.agg [(iC r4.Points), (.loc 24 0 r4.Bars.length)])) [(24, (.prow 88 (r4.Bars.map encTBar)))] [] [24] from Fw.Fn.ren [(0, 24)] (w_laws_toGraph aG r4 hr4) rfl)) rfl cb19 (.cons (.agg (.cons (.same rfl) (.cons (.same rfl) .nil))) .nil) rfl rfl trivial) ⟨rfl, rfl, trivial⟩ trivial rfl rfl ?_
      refine AOR.pure (LT.move (v := (.s (.c (.pv (.xs false (aSet.map encInt)))))) rfl) ⟨rfl, trivial⟩ trivial rfl rfl ?_
      refine AOR.bind fun r5 hr5 => ?_
      refine AOR.step (@LT.callF Try.prog _ _ 30 _ _ [(.c (.pv (.xs false (aSet.map encInt))))] _ _ [] _ _ _ _ ((show Fw.Fn Try.prog 30 [(.c (.pv (.xs false (aSet.map encInt))))] [] (.s (.c (.loc 26 0 r5.length))) [(26, (.prow 3 (r5.map encInt)))] [] [26] from Fw.Fn.ren [(0, 26)] (w_laws_toIntS aSet r5 hr5) rfl)) rfl cb30 (.cons (.c (.same rfl)) .nil) rfl rfl trivial) ⟨rfl, rfl, trivial⟩ trivial rfl rfl ?_
      refine AOR.bind fun r6 hr6 => ?_
      refine AOR.step (@LT.callF Try.prog _ _ 29 _ _ [(.agg [(iC r4.Points), (.loc 24 0 r4.Bars.length)]), (.c (.loc 26 0 r5.length))] _ _ [(24, (.prow 88 (r4.Bars.map encTBar))), (26, (.prow 3 (r5.map encInt)))] _ _ _ _ ((show Fw.Fn Try.prog 29 [(.agg [(iC r4.Points), (.pv (.xs false (r4.Bars.map encTBar)))]), (.c (.pv (.xs false (r5.map encInt))))] [] (.s (.agg [(iC r6.Points), (.loc 28 0 r6.Bars.length)])) [(28, (.prow 88 (r6.Bars.map encTBar)))] [] [28] from Fw.Fn.ren [(0, 28)] (w_spec_WithoutPoints r4 r5 r6 hr6) rfl)) rfl cb29 (.cons (.agg (.cons (.same rfl) (.cons (.tloc rfl rfl) .nil))) (.cons (.c (.tloc rfl rfl)) .nil)) rfl rfl trivial) ⟨rfl, rfl, rfl, trivial⟩ ⟨rfl, rfl, trivial⟩ rfl rfl ?_
      refine AOR.step (LT.alloc (n := 29) (cells := [(iC 0), (sC nilV)]) rfl ti30 rfl rfl rfl) trivial trivial rfl rfl ?_
      refine AOR.step (LT.bstore (v := (.agg [(iC r6.Points), (.loc 28 0 r6.Bars.length)])) (out := [(iC r6.Points), (.loc 28 0 r6.Bars.length)]) rfl rfl (infS inf30) sz30 (by exact rfl) (by exact Nat.le_of_ble_eq_true rfl) (by exact rfl)) ⟨rfl, rfl, trivial⟩ ⟨rfl, trivial⟩ rfl rfl ?_
      refine AOR.nil ?_
      refine AWR.seq ?_
      refine AWR.ent (Ent.of (σ' := [(1, (.s (.c (.pv (.xs false (aSet.map encInt)))))), (2, (.s (.c (.pl 21 0)))), (6, (.s (.c (.pl 29 0))))]) (m' := [(21, (.row 26 [[(iC aG.Points), (.pv (.xs false (aG.Bars.map encTBar)))]])), (28, (.prow 88 (r6.Bars.map encTBar))), (29, (.row 30 [[(iC r6.Points), (.loc 28 0 r6.Bars.length)]]))]) ⟨rfl, rfl, rfl, trivial⟩ ⟨rfl, rfl, rfl, trivial⟩) ?_
      refine AWR.region ?_
      refine AOR.pure (LT.bloadN (out := [(iC aG.Points), (.pv (.xs false (aG.Bars.map encTBar)))]) rfl ag26 (infS inf26) sz26 (by exact rfl) (by exact rfl)) ⟨rfl, trivial⟩ ⟨rfl, trivial⟩ rfl rfl ?_
      refine AOR.bind fun r7 hr7 => ?_
      refine AOR.step (@LT.callF Try.prog _ _ 19 _ _ [(.agg [(iC aG.Points), (.pv (.xs false (aG.Bars.map encTBar)))])] _ _ [] _ _ _ _ ((show Fw.Fn Try.prog 19 [(.agg [(iC aG.Points), (.pv (.xs false (aG.Bars.map encTBar)))])] [] (.s (.agg [(iC r7.Points), (.loc 31 0 r7.Bars.length)])) [(31, (.prow 88 (r7.Bars.map encTBar)))] [] [31] from Fw.Fn.ren [(0, 31)] (w_laws_toGraph aG r7 hr7) rfl)) rfl cb19 (.cons (.agg (.cons (.same rfl) (.cons (.same rfl) .nil))) .nil) rfl rfl trivial) ⟨rfl, rfl, trivial⟩ trivial rfl rfl ?_
      refine AOR.step (LT.alloc (n := 32) (cells := [(iC 0), (sC nilV)]) rfl ti30 rfl rfl rfl) trivial trivial rfl rfl ?_
      refine AOR.step (LT.bstore (v := (.agg [(iC r7.Points), (.loc 31 0 r7.Bars.length)])) (out := [(iC r7.Points), (.loc 31 0 r7.Bars.length)]) rfl rfl (infS inf30) sz30 (by exact rfl) (by exact Nat.le_of_ble_eq_true rfl) (by exact rfl)) ⟨rfl, rfl, trivial⟩ ⟨rfl, trivial⟩ rfl rfl ?_
      refine AOR.nil ?_
      refine AWR.seq ?_
      refine AWR.region ?_
      refine AOR.pure (LT.move (v := (.s (.c (.pv (.xs false (aSet.map encInt)))))) rfl) ⟨rfl, trivial⟩ trivial rfl rfl ?_
      refine AOR.bind fun r8 hr8 => ?_
      refine AOR.step (@LT.callF Try.prog _ _ 30 _ _ [(.c (.pv (.xs false (aSet.map encInt))))] _ _ [] _ _ _ _ ((show Fw.Fn Try.prog 30 [(.c (.pv (.xs false (aSet.map encInt))))] [] (.s (.c (.loc 34 0 r8.length))) [(34, (.prow 3 (r8.map encInt)))] [] [34] from Fw.Fn.ren [(0, 34)] (w_laws_toIntS aSet r8 hr8) rfl)) rfl cb30 (.cons (.c (.same rfl)) .nil) rfl rfl trivial) ⟨rfl, rfl, trivial⟩ trivial rfl rfl ?_
      refine AOR.pure (LT.assign (v := (.s (.c (.loc 34 0 r8.length)))) rfl) ⟨rfl, trivial⟩ trivial rfl rfl ?_
      refine AOR.nil ?_
      refine AWR.seq ?_
      refine AWR.ent (Ent.of (σ' := [(1, (.s (.c (.pv (.xs false (aSet.map encInt)))))), (2, (.s (.c (.pl 21 0)))), (6, (.s (.c (.pl 29 0)))), (7, (.s (.c (.pl 32 0)))), (8, (.s (.c (.loc 34 0 r8.length))))]) (m' := [(21, (.row 26 [[(iC aG.Points), (.pv (.xs false (aG.Bars.map encTBar)))]])), (28, (.prow 88 (r6.Bars.map encTBar))), (29, (.row 30 [[(iC r6.Points), (.loc 28 0 r6.Bars.length)]])), (31, (.prow 88 (r7.Bars.map encTBar))), (32, (.row 30 [[(iC r7.Points), (.loc 31 0 r7.Bars.length)]])), (34, (.prow 3 (r8.map encInt)))]) ⟨rfl, rfl, rfl, rfl, rfl, trivial⟩ ⟨rfl, rfl, rfl, rfl, rfl, rfl, trivial⟩) ?_
      refine AWR.region ?_
      refine AOR.pure (LT.bloadN (out := [(iC r7.Points), (.loc 31 0 r7.Bars.length)]) rfl ag30 (infS inf30) sz30 (by exact rfl) (by exact rfl)) ⟨rfl, trivial⟩ ⟨rfl, trivial⟩ rfl rfl ?_
      refine AOR.pure (LT.move (v := (.s (.c (.loc 34 0 r8.length)))) rfl) ⟨rfl, trivial⟩ trivial rfl rfl ?_
      refine AOR.bind fun r9 hr9 => ?_
      refine AOR.step (@LT.callF Try.prog _ _ 31 _ _ [(.agg [(iC r7.Points), (.loc 31 0 r7.Bars.length)]), (.c (.loc 34 0 r8.length))] _ _ [(31, (.prow 88 (r7.Bars.map encTBar))), (34, (.prow 3 (r8.map encInt)))] _ _ _ _ ((show Fw.Fn Try.prog 31 [(.agg [(iC r7.Points), (.pv (.xs false (r7.Bars.map encTBar)))]), (.c (.pv (.xs false (r8.map encInt))))] [] (.s (.agg [(iC r9.Points), (.loc 36 0 r9.Bars.length)])) [(36, (.prow 88 (r9.Bars.map encTBar)))] [] [36] from Fw.Fn.ren [(0, 36)] (w_impl_WithoutPoints r7 r8 r9 hr9) rfl)) rfl cb31 (.cons (.agg (.cons (.same rfl) (.cons (.tloc rfl rfl) .nil))) (.cons (.c (.tloc rfl rfl)) .nil)) rfl rfl trivial) ⟨rfl, rfl, rfl, trivial⟩ ⟨rfl, rfl, trivial⟩ rfl rfl ?_
      refine AOR.step (LT.alloc (n := 37) (cells := [(iC 0), (sC nilV)]) rfl ti30 rfl rfl rfl) trivial trivial rfl rfl ?_
      refine AOR.step (LT.bstore (v := (.agg [(iC r9.Points), (.loc 36 0 r9.Bars.length)])) (out := [(iC r9.Points), (.loc 36 0 r9.Bars.length)]) rfl rfl (infS inf30) sz30 (by exact rfl) (by exact Nat.le_of_ble_eq_true rfl) (by exact rfl)) ⟨rfl, rfl, trivial⟩ ⟨rfl, trivial⟩ rfl rfl ?_
      refine AOR.nil ?_
      refine AWR.seq ?_
      refine AWR.seq ?_
      refine AWR.ent (Ent.of (σ' := [(1, (.s (.c (.pv (.xs false (aSet.map encInt)))))), (2, (.s (.c (.pl 21 0)))), (6, (.s (.c (.pl 29 0)))), (7, (.s (.c (.pl 32 0)))), (8, (.s (.c (.loc 34 0 r8.length)))), (9, (.s (.c (.pl 37 0))))]) (m' := [(21, (.row 26 [[(iC aG.Points), (.pv (.xs false (aG.Bars.map encTBar)))]])), (28, (.prow 88 (r6.Bars.map encTBar))), (29, (.row 30 [[(iC r6.Points), (.loc 28 0 r6.Bars.length)]])), (31, (.prow 88 (r7.Bars.map encTBar))), (32, (.row 30 [[(iC r7.Points), (.loc 31 0 r7.Bars.length)]])), (34, (.prow 3 (r8.map encInt))), (36, (.prow 88 (r9.Bars.map encTBar))), (37, (.row 30 [[(iC r9.Points), (.loc 36 0 r9.Bars.length)]]))]) ⟨rfl, rfl, rfl, rfl, rfl, rfl, trivial⟩ ⟨rfl, rfl, rfl, rfl, rfl, rfl, rfl, rfl, trivial⟩) ?_
      refine AWR.region ?_
      refine AOR.pure (LT.bloadN (out := [(iC r9.Points), (.loc 36 0 r9.Bars.length)]) rfl ag30 (infS inf30) sz30 (by exact rfl) (by exact rfl)) ⟨rfl, trivial⟩ ⟨rfl, trivial⟩ rfl rfl ?_
      refine AOR.pure (LT.bloadN (out := [(iC r6.Points), (.loc 28 0 r6.Bars.length)]) rfl ag30 (infS inf30) sz30 (by exact rfl) (by exact rfl)) ⟨rfl, trivial⟩ ⟨rfl, trivial⟩ rfl rfl ?_
      refine AOR.bind fun r10 hr10 => ?_
      refine AOR.pure (@LT.callF Try.prog _ _ 21 _ _ [(.agg [(iC r9.Points), (.loc 36 0 r9.Bars.length)]), (.agg [(iC r6.Points), (.loc 28 0 r6.Bars.length)])] _ _ [(36, (.prow 88 (r9.Bars.map encTBar))), (28, (.prow 88 (r6.Bars.map encTBar)))] _ _ _ _ (w_laws_eqGraph r9 r6 r10 hr10) rfl cb21 (.cons (.agg (.cons (.same rfl) (.cons (.tloc rfl rfl) .nil))) (.cons (.agg (.cons (.same rfl) (.cons (.tloc rfl rfl) .nil))) .nil)) rfl rfl trivial) ⟨rfl, rfl, rfl, trivial⟩ ⟨rfl, rfl, trivial⟩ rfl rfl ?_
      refine AOR.pure (LT.not rfl) ⟨rfl, trivial⟩ trivial rfl rfl ?_
      refine AOR.nil ?_
      refine AWR.cond rfl (fun hc11 => ?_) (fun hc11 => ?_)
      · refine AWR.seq ?_
        refine AWR.region ?_
        refine AOR.pure (LT.assign (v := (.s (.c (bC false)))) rfl) ⟨⟨rfl, rfl⟩, trivial⟩ trivial rfl rfl ?_
        refine AOR.nil ?_
        refine AWR.ret (FPost.mk (.inr rfl) ⟨rfl, trivial⟩ trivial rfl ⟨PermP.sc, trivial⟩ trivial)
      · refine AWR.skip ?_
        refine AWR.seq ?_
        refine AWR.seq ?_
        refine AWR.draw mixed ?_
        refine AOD.pure (LT.bloadN (out := [(iC r7.Points), (.loc 31 0 r7.Bars.length)]) rfl ag30 (infS inf30) sz30 (by exact rfl) (by exact rfl)) ⟨rfl, trivial⟩ ⟨rfl, trivial⟩ rfl rfl ?_
        refine AOD.pure (LT.bloadN (out := [(iC aG.Points), (.pv (.xs false (aG.Bars.map encTBar)))]) rfl ag26 (infS inf26) sz26 (by exact rfl) (by exact rfl)) ⟨rfl, trivial⟩ ⟨rfl, trivial⟩ rfl rfl ?_
        refine AOD.bind fun r12 hr12 => ?_
        refine AOD.step (@LT.callF Try.prog _ _ 19 _ _ [(.agg [(iC aG.Points), (.pv (.xs false (aG.Bars.map encTBar)))])] _ _ [] _ _ _ _ ((show Fw.Fn Try.prog 19 [(.agg [(iC aG.Points), (.pv (.xs false (aG.Bars.map encTBar)))])] [] (.s (.agg [(iC r12.Points), (.loc 40 0 r12.Bars.length)])) [(40, (.prow 88 (r12.Bars.map encTBar)))] [] [40] from Fw.Fn.ren [(0, 40)] (w_laws_toGraph aG r12 hr12) rfl)) rfl cb19 (.cons (.agg (.cons (.same rfl) (.cons (.same rfl) .nil))) .nil) rfl rfl trivial) ⟨rfl, rfl, trivial⟩ trivial rfl rfl ?_
        refine AOD.bind fun r13 hr13 => ?_
        refine AOD.pure (@LT.callF Try.prog _ _ 21 _ _ [(.agg [(iC r7.Points), (.loc 31 0 r7.Bars.length)]), (.agg [(iC r12.Points), (.loc 40 0 r12.Bars.length)])] _ _ [(31, (.prow 88 (r7.Bars.map encTBar))), (40, (.prow 88 (r12.Bars.map encTBar)))] _ _ _ _ (w_laws_eqGraph r7 r12 r13 hr13) rfl cb21 (.cons (.agg (.cons (.same rfl) (.cons (.tloc rfl rfl) .nil))) (.cons (.agg (.cons (.same rfl) (.cons (.tloc rfl rfl) .nil))) .nil)) rfl rfl trivial) ⟨rfl, rfl, rfl, trivial⟩ ⟨rfl, rfl, trivial⟩ rfl rfl ?_
        refine AOD.pure (LT.not rfl) ⟨rfl, trivial⟩ trivial rfl rfl ?_
        refine AOD.nil (by kernel_rfl) ?_
        refine AWR.cond rfl (fun hc14 => ?_) (fun hc14 => ?_)
        · refine AWR.seq ?_
          refine AWR.ent (Ent.of (σ' := []) (m' := []) trivial trivial) ?_
          refine AWR.region ?_
          refine AOR.pure (LT.assign (v := (.s (.c (bC false)))) rfl) ⟨⟨rfl, rfl⟩, trivial⟩ trivial rfl rfl ?_
          refine AOR.nil ?_
          refine AWR.ret (FPost.mk (.inr rfl) ⟨rfl, trivial⟩ trivial rfl ⟨PermP.sc, trivial⟩ trivial)
        · refine AWR.skip ?_
          refine AWR.seq ?_
          refine AWR.seq ?_
          refine AWR.ent (Ent.of (σ' := [(1, (.s (.c (.pv (.xs false (aSet.map encInt)))))), (2, (.s (.c (.pl 21 0)))), (6, (.s (.c (.pl 29 0)))), (7, (.s (.c (.pl 32 0)))), (8, (.s (.c (.loc 34 0 r8.length)))), (9, (.s (.c (.pl 37 0))))]) (m' := [(21, (.row 26 [[(iC aG.Points), (.pv (.xs false (aG.Bars.map encTBar)))]])), (28, (.prow 88 (r6.Bars.map encTBar))), (29, (.row 30 [[(iC r6.Points), (.loc 28 0 r6.Bars.length)]])), (31, (.prow 88 (r7.Bars.map encTBar))), (32, (.row 30 [[(iC r7.Points), (.loc 31 0 r7.Bars.length)]])), (34, (.prow 3 (r8.map encInt))), (36, (.prow 88 (r9.Bars.map encTBar))), (37, (.row 30 [[(iC r9.Points), (.loc 36 0 r9.Bars.length)]]))]) ⟨rfl, rfl, rfl, rfl, rfl, rfl, trivial⟩ ⟨rfl, rfl, rfl, rfl, rfl, rfl, rfl, rfl, trivial⟩) ?_
          refine AWR.region ?_
          refine AOR.pure (LT.move (v := (.s (.c (.loc 34 0 r8.length)))) rfl) ⟨rfl, trivial⟩ trivial rfl rfl ?_
          refine AOR.pure (LT.move (v := (.s (.c (.pv (.xs false (aSet.map encInt)))))) rfl) ⟨rfl, trivial⟩ trivial rfl rfl ?_
          refine AOR.bind fun r15 hr15 => ?_
          refine AOR.step (@LT.callF Try.prog _ _ 30 _ _ [(.c (.pv (.xs false (aSet.map encInt))))] _ _ [] _ _ _ _ ((show Fw.Fn Try.prog 30 [(.c (.pv (.xs false (aSet.map encInt))))] [] (.s (.c (.loc 43 0 r15.length))) [(43, (.prow 3 (r15.map encInt)))] [] [43] from Fw.Fn.ren [(0, 43)] (w_laws_toIntS aSet r15 hr15) rfl)) rfl cb30 (.cons (.c (.same rfl)) .nil) rfl rfl trivial) ⟨rfl, rfl, trivial⟩ trivial rfl rfl ?_
          refine AOR.bind fun r16 hr16 => ?_
          refine AOR.pure (@LT.callF Try.prog _ _ 32 _ _ [(.c (.loc 34 0 r8.length)), (.c (.loc 43 0 r15.length))] _ _ [(34, (.prow 3 (r8.map encInt))), (43, (.prow 3 (r15.map encInt)))] _ _ _ _ (w_laws_eqIntS r8 r15 r16 hr16) rfl cb32 (.cons (.c (.tloc rfl rfl)) (.cons (.c (.tloc rfl rfl)) .nil)) rfl rfl trivial) ⟨rfl, rfl, rfl, trivial⟩ ⟨rfl, rfl, trivial⟩ rfl rfl ?_
          refine AOR.pure (LT.not rfl) ⟨rfl, trivial⟩ trivial rfl rfl ?_
          refine AOR.nil ?_
          refine AWR.cond rfl (fun hc17 => ?_) (fun hc17 => ?_)
          · refine AWR.seq ?_
            refine AWR.region ?_
            refine AOR.pure (LT.assign (v := (.s (.c (bC false)))) rfl) ⟨⟨rfl, rfl⟩, trivial⟩ trivial rfl rfl ?_
            refine AOR.nil ?_
            refine AWR.ret (FPost.mk (.inr rfl) ⟨rfl, trivial⟩ trivial rfl ⟨PermP.sc, trivial⟩ trivial)
          · refine AWR.skip ?_
            refine AWR.seq ?_
            refine AWR.region ?_
            refine AOR.pure (LT.assign (v := (.s (.c (iC 1)))) rfl) ⟨⟨rfl, rfl⟩, trivial⟩ trivial rfl rfl ?_
            refine AOR.nil ?_
            refine AWR.seq ?_
            refine AWR.region ?_
            refine AOR.pure (LT.bloadN (out := [(iC r7.Points), (.loc 31 0 r7.Bars.length)]) rfl ag30 (infS inf30) sz30 (by exact rfl) (by exact rfl)) ⟨rfl, trivial⟩ ⟨rfl, trivial⟩ rfl rfl ?_
            refine AOR.pure (LT.move (v := (.s (.c (iC 1)))) rfl) ⟨rfl, trivial⟩ trivial rfl rfl ?_
            refine AOR.bind fun r18 hr18 => ?_
            refine AOR.step (@LT.callF Try.prog _ _ 22 _ _ [(.agg [(iC r7.Points), (.loc 31 0 r7.Bars.length)]), (.c (iC 1))] _ _ [] _ _ _ _ ((show Fw.Fn Try.prog 22 [(.agg [(iC r7.Points), (.loc 31 0 r7.Bars.length)]), (.c (iC 1))] [(31, (.prow 88 (r7.Bars.map encTBar)))] (.s (.c (iC r18.1))) [(31, (.prow 88 (r18.2.map encTBar)))] [31] [] from Fw.Fn.ren [(0, 31)] (w_laws_markGraph r7 1 r18 hr18) rfl)) rfl cb22 (.cons (.agg (.cons (.same rfl) (.cons (.same rfl) .nil))) (.cons (.c (.same rfl)) .nil)) rfl rfl ⟨rfl, trivial⟩) ⟨rfl, rfl, rfl, trivial⟩ ⟨rfl, trivial⟩ rfl rfl ?_
            refine AOR.pure (LT.assign (v := (.s (.c (iC r18.1)))) rfl) ⟨rfl, trivial⟩ trivial rfl rfl ?_
            refine AOR.nil ?_
            refine AWR.seq ?_
            refine AWR.ent (Ent.of (σ' := [(1, (.s (.c (.pv (.xs false (aSet.map encInt)))))), (2, (.s (.c (.pl 21 0)))), (6, (.s (.c (.pl 29 0)))), (8, (.s (.c (.loc 34 0 r8.length)))), (9, (.s (.c (.pl 37 0)))), (10, (.s (.c (iC r18.1))))]) (m' := [(21, (.row 26 [[(iC aG.Points), (.pv (.xs false (aG.Bars.map encTBar)))]])), (28, (.prow 88 (r6.Bars.map encTBar))), (29, (.row 30 [[(iC r6.Points), (.loc 28 0 r6.Bars.length)]])), (34, (.prow 3 (r8.map encInt))), (36, (.prow 88 (r9.Bars.map encTBar))), (37, (.row 30 [[(iC r9.Points), (.loc 36 0 r9.Bars.length)]]))]) ⟨rfl, rfl, rfl, rfl, rfl, rfl, trivial⟩ ⟨rfl, rfl, rfl, rfl, rfl, rfl, trivial⟩) ?_
            refine AWR.region ?_
            refine AOR.pure (LT.move (v := (.s (.c (.loc 34 0 r8.length)))) rfl) ⟨rfl, trivial⟩ trivial rfl rfl ?_
            refine AOR.pure (LT.move (v := (.s (.c (iC r18.1)))) rfl) ⟨rfl, trivial⟩ trivial rfl rfl ?_
            refine AOR.bind fun r19 hr19 => ?_
            refine AOR.step (@LT.callF Try.prog _ _ 33 _ _ [(.c (.loc 34 0 r8.length)), (.c (iC r18.1))] _ _ [] _ _ _ _ ((show Fw.Fn Try.prog 33 [(.c (.loc 34 0 r8.length)), (.c (iC r18.1))] [(34, (.prow 3 (r8.map encInt)))] (.s (.c (iC r19.1))) [(34, (.prow 3 (r19.2.map encInt)))] [34] [] from Fw.Fn.ren [(0, 34)] (w_laws_markIntS r8 r18.1 r19 hr19) rfl)) rfl cb33 (.cons (.c (.same rfl)) (.cons (.c (.same rfl)) .nil)) rfl rfl ⟨rfl, trivial⟩) ⟨rfl, rfl, rfl, trivial⟩ ⟨rfl, trivial⟩ rfl rfl ?_
            refine AOR.pure (LT.assign (v := (.s (.c (iC r19.1)))) rfl) ⟨rfl, trivial⟩ trivial rfl rfl ?_
            refine AOR.nil ?_
            refine AWR.seq ?_
            refine AWR.seq ?_
            refine AWR.joinK (fun j22 => ([(1, (.s (.c (.pv (.xs false (aSet.map encInt)))))), (2, (.s (.c (.pl 21 0)))), (6, (.s (.c (.pl 29 0)))), (9, (.s (.c (.pl 37 0)))), (61, (.s (.c (bC j22))))], [(21, (.row 26 [[(iC aG.Points), (.pv (.xs false (aG.Bars.map encTBar)))]])), (28, (.prow 88 (r6.Bars.map encTBar))), (29, (.row 30 [[(iC r6.Points), (.loc 28 0 r6.Bars.length)]])), (36, (.prow 88 (r9.Bars.map encTBar))), (37, (.row 30 [[(iC r9.Points), (.loc 36 0 r9.Bars.length)]]))])) ?_ (fun j22 _ => ?_)
            · refine AWR.region ?_
              refine AOR.pure (LT.move (v := (.s (.c (iC r19.1)))) rfl) ⟨rfl, trivial⟩ trivial rfl rfl ?_
              refine AOR.pure (LT.lss rfl) ⟨rfl, ⟨rfl, rfl⟩, trivial⟩ trivial rfl rfl ?_
              refine AOR.pure (LT.move (v := (.s (.c (bC (decide (r19.1 < 0)))))) rfl) ⟨rfl, trivial⟩ trivial rfl rfl ?_
              refine AOR.split (fun hb23 => ?_) (fun hb23 => ?_)
              · refine AOR.skip ⟨_, rfl, .inl ⟨_, rfl, (by rw [hb23]; rfl)⟩⟩ rfl ?_
                refine AOR.skip ⟨_, rfl, .inl ⟨_, rfl, (by rw [hb23]; rfl)⟩⟩ rfl ?_
                refine AOR.skip ⟨_, rfl, .inl ⟨_, rfl, (by rw [hb23]; rfl)⟩⟩ rfl ?_
                refine AOR.skip ⟨_, rfl, .inl ⟨_, rfl, (by rw [hb23]; rfl)⟩⟩ rfl ?_
                refine AOR.pure (LT.pickT (v := (.s (.c (bC true)))) rfl hb23) ⟨rfl, ⟨rfl, rfl⟩, trivial⟩ trivial rfl rfl ?_
                refine AOR.nil ?_
                refine AWR.nil ⟨rfl, Ent.of ⟨rfl, rfl, rfl, rfl, rfl, trivial⟩ ⟨rfl, rfl, rfl, rfl, rfl, trivial⟩⟩
              · refine AOR.pure (LT.bloadN (out := [(iC r9.Points), (.loc 36 0 r9.Bars.length)]) rfl ag30 (infS inf30) sz30 (by exact rfl) (by exact rfl)) ⟨rfl, trivial⟩ ⟨rfl, trivial⟩ ⟨_, rfl, .inl ⟨_, rfl, (by rw [hb23]; rfl)⟩⟩ rfl ?_
                refine AOR.pure (LT.bloadN (out := [(iC r6.Points), (.loc 28 0 r6.Bars.length)]) rfl ag30 (infS inf30) sz30 (by exact rfl) (by exact rfl)) ⟨rfl, trivial⟩ ⟨rfl, trivial⟩ ⟨_, rfl, .inl ⟨_, rfl, (by rw [hb23]; rfl)⟩⟩ rfl ?_
                refine AOR.bind fun r24 hr24 => ?_
                refine AOR.pure (@LT.callF Try.prog _ _ 21 _ _ [(.agg [(iC r9.Points), (.loc 36 0 r9.Bars.length)]), (.agg [(iC r6.Points), (.loc 28 0 r6.Bars.length)])] _ _ [(36, (.prow 88 (r9.Bars.map encTBar))), (28, (.prow 88 (r6.Bars.map encTBar)))] _ _ _ _ (w_laws_eqGraph r9 r6 r24 hr24) rfl cb21 (.cons (.agg (.cons (.same rfl) (.cons (.tloc rfl rfl) .nil))) (.cons (.agg (.cons (.same rfl) (.cons (.tloc rfl rfl) .nil))) .nil)) rfl rfl trivial) ⟨rfl, rfl, rfl, trivial⟩ ⟨rfl, rfl, trivial⟩ ⟨_, rfl, .inl ⟨_, rfl, (by rw [hb23]; rfl)⟩⟩ rfl ?_
                refine AOR.pure (LT.not rfl) ⟨rfl, trivial⟩ trivial ⟨_, rfl, .inl ⟨_, rfl, (by rw [hb23]; rfl)⟩⟩ rfl ?_
                refine AOR.pure (LT.pickF (v := (.s (.c (bC (!r24))))) rfl hb23) ⟨rfl, rfl, trivial⟩ trivial rfl rfl ?_
                refine AOR.nil ?_
                refine AWR.nil ⟨rfl, Ent.of ⟨rfl, rfl, rfl, rfl, rfl, trivial⟩ ⟨rfl, rfl, rfl, rfl, rfl, trivial⟩⟩
            · refine AWR.cond rfl (fun hc25 => ?_) (fun hc25 => ?_)
              · refine AWR.seq ?_
                refine AWR.region ?_
                refine AOR.pure (LT.assign (v := (.s (.c (bC false)))) rfl) ⟨⟨rfl, rfl⟩, trivial⟩ trivial rfl rfl ?_
                refine AOR.nil ?_
                refine AWR.ret (FPost.mk (.inr rfl) ⟨rfl, trivial⟩ trivial rfl ⟨PermP.sc, trivial⟩ trivial)
              · refine AWR.skip ?_
                refine AWR.seq ?_
                refine AWR.region ?_
                refine AOR.pure (LT.assign (v := (.s (.c (iC 1)))) rfl) ⟨⟨rfl, rfl⟩, trivial⟩ trivial rfl rfl ?_
                refine AOR.nil ?_
                refine AWR.seq ?_
                refine AWR.region ?_
                refine AOR.pure (LT.bloadN (out := [(iC r9.Points), (.loc 36 0 r9.Bars.length)]) rfl ag30 (infS inf30) sz30 (by exact rfl) (by exact rfl)) ⟨rfl, trivial⟩ ⟨rfl, trivial⟩ rfl rfl ?_
                refine AOR.pure (LT.move (v := (.s (.c (iC 1)))) rfl) ⟨rfl, trivial⟩ trivial rfl rfl ?_
                refine AOR.bind fun r26 hr26 => ?_
                refine AOR.step (@LT.callF Try.prog _ _ 22 _ _ [(.agg [(iC r9.Points), (.loc 36 0 r9.Bars.length)]), (.c (iC 1))] _ _ [] _ _ _ _ ((show Fw.Fn Try.prog 22 [(.agg [(iC r9.Points), (.loc 36 0 r9.Bars.length)]), (.c (iC 1))] [(36, (.prow 88 (r9.Bars.map encTBar)))] (.s (.c (iC r26.1))) [(36, (.prow 88 (r26.2.map encTBar)))] [36] [] from Fw.Fn.ren [(0, 36)] (w_laws_markGraph r9 1 r26 hr26) rfl)) rfl cb22 (.cons (.agg (.cons (.same rfl) (.cons (.same rfl) .nil))) (.cons (.c (.same rfl)) .nil)) rfl rfl ⟨rfl, trivial⟩) ⟨rfl, rfl, rfl, trivial⟩ ⟨rfl, trivial⟩ rfl rfl ?_
                refine AOR.pure (LT.assign (v := (.s (.c (iC r26.1)))) rfl) ⟨rfl, trivial⟩ trivial rfl rfl ?_
                refine AOR.nil ?_
                refine AWR.seq ?_
                refine AWR.region ?_
                refine AOR.pure (LT.assign (v := (.s (.c (iC 1)))) rfl) ⟨⟨rfl, rfl⟩, trivial⟩ trivial rfl rfl ?_
                refine AOR.nil ?_
                refine AWR.seq ?_
                refine AWR.region ?_
                refine AOR.pure (LT.bloadN (out := [(iC r9.Points), (.loc 36 0 r9.Bars.length)]) rfl ag30 (infS inf30) sz30 (by exact rfl) (by exact rfl)) ⟨rfl, trivial⟩ ⟨rfl, trivial⟩ rfl rfl ?_
                refine AOR.pure (LT.move (v := (.s (.c (iC 1)))) rfl) ⟨rfl, trivial⟩ trivial rfl rfl ?_
                refine AOR.bind fun u27 hu27 => ?_
                refine AOR.bind fun r28 hr28 => ?_
                refine AOR.pure (@LT.callF Try.prog _ _ 23 _ _ [(.agg [(iC r9.Points), (.loc 36 0 r9.Bars.length)]), (.c (iC 1))] _ _ [(36, (.prow 88 (r26.2.map encTBar)))] _ _ _ _ (w_laws_heldGraph (TGraph.mk r9.Points r26.2) 1 r28 hr28) rfl cb23 (.cons (.agg (.cons (.same rfl) (.cons (.tloc (same_eq hu27) rfl) .nil))) (.cons (.c (.same rfl)) .nil)) rfl rfl trivial) ⟨rfl, rfl, rfl, trivial⟩ ⟨rfl, trivial⟩ rfl rfl ?_
                refine AOR.pure (LT.assign (v := (.s (.c (iC r28)))) rfl) ⟨rfl, trivial⟩ trivial rfl rfl ?_
                refine AOR.nil ?_
                refine AWR.seq ?_
                refine AWR.seq ?_
                refine AWR.ent (Ent.of (σ' := [(1, (.s (.c (.pv (.xs false (aSet.map encInt)))))), (2, (.s (.c (.pl 21 0)))), (6, (.s (.c (.pl 29 0)))), (9, (.s (.c (.pl 37 0)))), (11, (.s (.c (iC r26.1)))), (12, (.s (.c (iC r28))))]) (m' := [(21, (.row 26 [[(iC aG.Points), (.pv (.xs false (aG.Bars.map encTBar)))]])), (28, (.prow 88 (r6.Bars.map encTBar))), (29, (.row 30 [[(iC r6.Points), (.loc 28 0 r6.Bars.length)]])), (36, (.prow 88 (r26.2.map encTBar))), (37, (.row 30 [[(iC r9.Points), (.loc 36 0 r9.Bars.length)]]))]) ⟨rfl, rfl, rfl, rfl, rfl, rfl, trivial⟩ ⟨rfl, rfl, rfl, rfl, rfl, trivial⟩) ?_
                refine AWR.region ?_
                refine AOR.pure (LT.move (v := (.s (.c (iC r28)))) rfl) ⟨rfl, trivial⟩ trivial rfl rfl ?_
                refine AOR.pure (LT.lss rfl) ⟨rfl, ⟨rfl, rfl⟩, trivial⟩ trivial rfl rfl ?_
                refine AOR.nil ?_
                refine AWR.cond rfl (fun hc29 => ?_) (fun hc29 => ?_)
                · refine AWR.seq ?_
                  refine AWR.region ?_
                  refine AOR.pure (LT.assign (v := (.s (.c (bC false)))) rfl) ⟨⟨rfl, rfl⟩, trivial⟩ trivial rfl rfl ?_
                  refine AOR.nil ?_
                  refine AWR.ret (FPost.mk (.inr rfl) ⟨rfl, trivial⟩ trivial rfl ⟨PermP.sc, trivial⟩ trivial)
                · refine AWR.skip ?_
                  refine AWR.seq ?_
                  refine AWR.seq ?_
                  refine AWR.region ?_
                  refine AOR.pure (LT.move (v := (.s (.c (iC r28)))) rfl) ⟨rfl, trivial⟩ trivial rfl rfl ?_
                  refine AOR.pure (LT.move (v := (.s (.c (iC r26.1)))) rfl) ⟨rfl, trivial⟩ trivial rfl rfl ?_
                  refine AOR.pure (LT.neq rfl) ⟨rfl, rfl, trivial⟩ trivial rfl rfl ?_
                  refine AOR.nil ?_
                  refine AWR.cond rfl (fun hc30 => ?_) (fun hc30 => ?_)
                  · refine AWR.seq ?_
                    refine AWR.region ?_
                    refine AOR.pure (LT.assign (v := (.s (.c (bC false)))) rfl) ⟨⟨rfl, rfl⟩, trivial⟩ trivial rfl rfl ?_
                    refine AOR.nil ?_
                    refine AWR.ret (FPost.mk (.inr rfl) ⟨rfl, trivial⟩ trivial rfl ⟨PermP.sc, trivial⟩ trivial)
                  · refine AWR.skip ?_
                    refine AWR.seq ?_
                    refine AWR.region ?_
                    refine AOR.pure (LT.bloadN (out := [(iC aG.Points), (.pv (.xs false (aG.Bars.map encTBar)))]) rfl ag26 (infS inf26) sz26 (by exact rfl) (by exact rfl)) ⟨rfl, trivial⟩ ⟨rfl, trivial⟩ rfl rfl ?_
                    refine AOR.bind fun r31 hr31 => ?_
                    refine AOR.step (@LT.callF Try.prog _ _ 19 _ _ [(.agg [(iC aG.Points), (.pv (.xs false (aG.Bars.map encTBar)))])] _ _ [] _ _ _ _ ((show Fw.Fn Try.prog 19 [(.agg [(iC aG.Points), (.pv (.xs false (aG.Bars.map encTBar)))])] [] (.s (.agg [(iC r31.Points), (.loc 51 0 r31.Bars.length)])) [(51, (.prow 88 (r31.Bars.map encTBar)))] [] [51] from Fw.Fn.ren [(0, 51)] (w_laws_toGraph aG r31 hr31) rfl)) rfl cb19 (.cons (.agg (.cons (.same rfl) (.cons (.same rfl) .nil))) .nil) rfl rfl trivial) ⟨rfl, rfl, trivial⟩ trivial rfl rfl ?_
                    refine AOR.pure (LT.move (v := (.s (.c (.pv (.xs false (aSet.map encInt)))))) rfl) ⟨rfl, trivial⟩ trivial rfl rfl ?_
                    refine AOR.bind fun r32 hr32 => ?_
                    refine AOR.step (@LT.callF Try.prog _ _ 30 _ _ [(.c (.pv (.xs false (aSet.map encInt))))] _ _ [] _ _ _ _ ((show Fw.Fn Try.prog 30 [(.c (.pv (.xs false (aSet.map encInt))))] [] (.s (.c (.loc 53 0 r32.length))) [(53, (.prow 3 (r32.map encInt)))] [] [53] from Fw.Fn.ren [(0, 53)] (w_laws_toIntS aSet r32 hr32) rfl)) rfl cb30 (.cons (.c (.same rfl)) .nil) rfl rfl trivial) ⟨rfl, rfl, trivial⟩ trivial rfl rfl ?_
                    refine AOR.bind fun r33 hr33 => ?_
                    refine AOR.step (@LT.callF Try.prog _ _ 31 _ _ [(.agg [(iC r31.Points), (.loc 51 0 r31.Bars.length)]), (.c (.loc 53 0 r32.length))] _ _ [(51, (.prow 88 (r31.Bars.map encTBar))), (53, (.prow 3 (r32.map encInt)))] _ _ _ _ ((show Fw.Fn Try.prog 31 [(.agg [(iC r31.Points), (.pv (.xs false (r31.Bars.map encTBar)))]), (.c (.pv (.xs false (r32.map encInt))))] [] (.s (.agg [(iC r33.Points), (.loc 55 0 r33.Bars.length)])) [(55, (.prow 88 (r33.Bars.map encTBar)))] [] [55] from Fw.Fn.ren [(0, 55)] (w_impl_WithoutPoints r31 r32 r33 hr33) rfl)) rfl cb31 (.cons (.agg (.cons (.same rfl) (.cons (.tloc rfl rfl) .nil))) (.cons (.c (.tloc rfl rfl)) .nil)) rfl rfl trivial) ⟨rfl, rfl, rfl, trivial⟩ ⟨rfl, rfl, trivial⟩ rfl rfl ?_
                    refine AOR.step (LT.alloc (n := 56) (cells := [(iC 0), (sC nilV)]) rfl ti30 rfl rfl rfl) trivial trivial rfl rfl ?_
                    refine AOR.step (LT.bstore (v := (.agg [(iC r33.Points), (.loc 55 0 r33.Bars.length)])) (out := [(iC r33.Points), (.loc 55 0 r33.Bars.length)]) rfl rfl (infS inf30) sz30 (by exact rfl) (by exact Nat.le_of_ble_eq_true rfl) (by exact rfl)) ⟨rfl, rfl, trivial⟩ ⟨rfl, trivial⟩ rfl rfl ?_
                    refine AOR.nil ?_
                    refine AWR.seq ?_
                    refine AWR.seq ?_
                    refine AWR.ent (Ent.of (σ' := [(6, (.s (.c (.pl 29 0)))), (9, (.s (.c (.pl 37 0)))), (11, (.s (.c (iC r26.1)))), (13, (.s (.c (.pl 56 0))))]) (m' := [(28, (.prow 88 (r6.Bars.map encTBar))), (29, (.row 30 [[(iC r6.Points), (.loc 28 0 r6.Bars.length)]])), (36, (.prow 88 (r26.2.map encTBar))), (37, (.row 30 [[(iC r9.Points), (.loc 36 0 r9.Bars.length)]])), (55, (.prow 88 (r33.Bars.map encTBar))), (56, (.row 30 [[(iC r33.Points), (.loc 55 0 r33.Bars.length)]]))]) ⟨rfl, rfl, rfl, rfl, trivial⟩ ⟨rfl, rfl, rfl, rfl, rfl, rfl, trivial⟩) ?_
                    refine AWR.region ?_
                    refine AOR.pure (LT.bloadN (out := [(iC r33.Points), (.loc 55 0 r33.Bars.length)]) rfl ag30 (infS inf30) sz30 (by exact rfl) (by exact rfl)) ⟨rfl, trivial⟩ ⟨rfl, trivial⟩ rfl rfl ?_
                    refine AOR.pure (LT.bloadN (out := [(iC r6.Points), (.loc 28 0 r6.Bars.length)]) rfl ag30 (infS inf30) sz30 (by exact rfl) (by exact rfl)) ⟨rfl, trivial⟩ ⟨rfl, trivial⟩ rfl rfl ?_
                    refine AOR.bind fun r34 hr34 => ?_
                    refine AOR.pure (@LT.callF Try.prog _ _ 21 _ _ [(.agg [(iC r33.Points), (.loc 55 0 r33.Bars.length)]), (.agg [(iC r6.Points), (.loc 28 0 r6.Bars.length)])] _ _ [(55, (.prow 88 (r33.Bars.map encTBar))), (28, (.prow 88 (r6.Bars.map encTBar)))] _ _ _ _ (w_laws_eqGraph r33 r6 r34 hr34) rfl cb21 (.cons (.agg (.cons (.same rfl) (.cons (.tloc rfl rfl) .nil))) (.cons (.agg (.cons (.same rfl) (.cons (.tloc rfl rfl) .nil))) .nil)) rfl rfl trivial) ⟨rfl, rfl, rfl, trivial⟩ ⟨rfl, rfl, trivial⟩ rfl rfl ?_
                    refine AOR.pure (LT.not rfl) ⟨rfl, trivial⟩ trivial rfl rfl ?_
                    refine AOR.nil ?_
                    refine AWR.cond rfl (fun hc35 => ?_) (fun hc35 => ?_)
                    · refine AWR.seq ?_
                      refine AWR.region ?_
                      refine AOR.pure (LT.assign (v := (.s (.c (bC false)))) rfl) ⟨⟨rfl, rfl⟩, trivial⟩ trivial rfl rfl ?_
                      refine AOR.nil ?_
                      refine AWR.ret (FPost.mk (.inr rfl) ⟨rfl, trivial⟩ trivial rfl ⟨PermP.sc, trivial⟩ trivial)
                    · refine AWR.skip ?_
                      refine AWR.seq ?_
                      refine AWR.region ?_
                      refine AOR.pure (LT.assign (v := (.s (.c (iC 1)))) rfl) ⟨⟨rfl, rfl⟩, trivial⟩ trivial rfl rfl ?_
                      refine AOR.nil ?_
                      refine AWR.seq ?_
                      refine AWR.region ?_
                      refine AOR.pure (LT.bloadN (out := [(iC r9.Points), (.loc 36 0 r9.Bars.length)]) rfl ag30 (infS inf30) sz30 (by exact rfl) (by exact rfl)) ⟨rfl, trivial⟩ ⟨rfl, trivial⟩ rfl rfl ?_
                      refine AOR.pure (LT.move (v := (.s (.c (iC 1)))) rfl) ⟨rfl, trivial⟩ trivial rfl rfl ?_
                      refine AOR.bind fun u36 hu36 => ?_
                      refine AOR.bind fun r37 hr37 => ?_
                      refine AOR.pure (@LT.callF Try.prog _ _ 23 _ _ [(.agg [(iC r9.Points), (.loc 36 0 r9.Bars.length)]), (.c (iC 1))] _ _ [(36, (.prow 88 (r26.2.map encTBar)))] _ _ _ _ (w_laws_heldGraph (TGraph.mk r9.Points r26.2) 1 r37 hr37) rfl cb23 (.cons (.agg (.cons (.same rfl) (.cons (.tloc (same_eq hu36) rfl) .nil))) (.cons (.c (.same rfl)) .nil)) rfl rfl trivial) ⟨rfl, rfl, rfl, trivial⟩ ⟨rfl, trivial⟩ rfl rfl ?_
                      refine AOR.pure (LT.assign (v := (.s (.c (iC r37)))) rfl) ⟨rfl, trivial⟩ trivial rfl rfl ?_
                      refine AOR.nil ?_
                      refine AWR.seq ?_
                      refine AWR.seq ?_
                      refine AWR.region ?_
                      refine AOR.pure (LT.move (v := (.s (.c (iC r37)))) rfl) ⟨rfl, trivial⟩ trivial rfl rfl ?_
                      refine AOR.pure (LT.lss rfl) ⟨rfl, ⟨rfl, rfl⟩, trivial⟩ trivial rfl rfl ?_
                      refine AOR.nil ?_
                      refine AWR.cond rfl (fun hc38 => ?_) (fun hc38 => ?_)
                      · refine AWR.seq ?_
                        refine AWR.ent (Ent.of (σ' := []) (m' := []) trivial trivial) ?_
                        refine AWR.region ?_
                        refine AOR.pure (LT.assign (v := (.s (.c (bC false)))) rfl) ⟨⟨rfl, rfl⟩, trivial⟩ trivial rfl rfl ?_
                        refine AOR.nil ?_
                        refine AWR.ret (FPost.mk (.inr rfl) ⟨rfl, trivial⟩ trivial rfl ⟨PermP.sc, trivial⟩ trivial)
                      · refine AWR.skip ?_
                        refine AWR.seq ?_
                        refine AWR.seq ?_
                        refine AWR.ent (Ent.of (σ' := [(11, (.s (.c (iC r26.1)))), (12, (.s (.c (iC r37))))]) (m' := []) ⟨rfl, rfl, trivial⟩ trivial) ?_
                        refine AWR.region ?_
                        refine AOR.pure (LT.move (v := (.s (.c (iC r37)))) rfl) ⟨rfl, trivial⟩ trivial rfl rfl ?_
                        refine AOR.pure (LT.move (v := (.s (.c (iC r26.1)))) rfl) ⟨rfl, trivial⟩ trivial rfl rfl ?_
                        refine AOR.pure (LT.neq rfl) ⟨rfl, rfl, trivial⟩ trivial rfl rfl ?_
                        refine AOR.nil ?_
                        refine AWR.cond rfl (fun hc39 => ?_) (fun hc39 => ?_)
                        · refine AWR.seq ?_
                          refine AWR.region ?_
                          refine AOR.pure (LT.assign (v := (.s (.c (bC false)))) rfl) ⟨⟨rfl, rfl⟩, trivial⟩ trivial rfl rfl ?_
                          refine AOR.nil ?_
                          refine AWR.ret (FPost.mk (.inr rfl) ⟨rfl, trivial⟩ trivial rfl ⟨PermP.sc, trivial⟩ trivial)
                        · refine AWR.skip ?_
                          refine AWR.seq ?_
                          refine AWR.region ?_
                          refine AOR.pure (LT.assign (v := (.s (.c (bC true)))) rfl) ⟨⟨rfl, rfl⟩, trivial⟩ trivial rfl rfl ?_
                          refine AOR.nil ?_
                          refine AWR.ret (FPost.mk (.inr rfl) ⟨rfl, trivial⟩ trivial rfl ⟨PermP.sc, trivial⟩ trivial)
set_option maxRecDepth 100000 in
set_option maxHeartbeats 8000000 in
theorem w_laws_szIntS (a : (List Int)) (leftV : Int) : ∀ t, m_laws_szIntS a leftV = some t → Fw.Fn Try.prog 74 [(.c (.pv (.xs false (a.map encInt)))), (.c (iC leftV))] [] (.s (.c (iC t))) [] [] [] := by
  refine Fw.Fn.of (P := Try.prog) (X := []) (pn := []) (rs := (fun (t : Int) => [(.c (iC t))])) (dfs := (fun (t : Int) => [])) Try.func74 rfl Try.ntmps74 (Nat.le_of_ble_eq_true rfl) rfl ?_
  intro w0 U0 R0 g0
  unfold m_laws_szIntS
  refine AWR.seq ?_
  refine AWR.region ?_
  refine AOR.pure (LT.assign (v := (.s (.c (iC 0)))) rfl) ⟨⟨rfl, rfl⟩, trivial⟩ trivial rfl rfl ?_
  refine AOR.nil ?_
  refine AWR.seq ?_
  refine AWR.region ?_
  refine AOR.pure (LT.move (v := (.s (.c (iC leftV)))) rfl) ⟨rfl, trivial⟩ trivial rfl rfl ?_
  refine AOR.pure (LT.move (v := (.s (.c (.pv (.xs false (a.map encInt)))))) rfl) ⟨rfl, trivial⟩ trivial rfl rfl ?_
  refine AOR.pure (LT.tlenRO rfl und40) ⟨rfl, trivial⟩ trivial rfl rfl ?_
  refine AOR.pure (LT.sub rfl) ⟨rfl, rfl, trivial⟩ trivial rfl rfl ?_
  refine AOR.pure (LT.assign (v := (.s (.c (iC (w64 (leftV - (a.length : Int))))))) rfl) ⟨rfl, trivial⟩ trivial rfl rfl ?_
  refine AOR.nil ?_
  refine AWR.seq ?_
  refine AWR.seq ?_
  refine AWR.region ?_
  refine AOR.pure (LT.move (v := (.s (.c (iC (w64 (leftV - (a.length : Int))))))) rfl) ⟨rfl, trivial⟩ trivial rfl rfl ?_
  refine AOR.pure (LT.lss rfl) ⟨rfl, ⟨rfl, rfl⟩, trivial⟩ trivial rfl rfl ?_
  refine AOR.nil ?_
  refine AWR.cond rfl (fun hc1 => ?_) (fun hc1 => ?_)
  · refine AWR.seq ?_
    refine AWR.region ?_
    refine AOR.pure (LT.assign (v := (.s (.c (iC (-1))))) rfl) ⟨⟨rfl, rfl⟩, trivial⟩ trivial rfl rfl ?_
    refine AOR.nil ?_
    refine AWR.ret (FPost.mk (.inr rfl) ⟨rfl, trivial⟩ trivial rfl ⟨PermP.sc, trivial⟩ trivial)
  · refine AWR.skip ?_
    refine AWR.seq ?_
    refine AWR.region ?_
    refine AOR.pure (LT.move (v := (.s (.c (iC (w64 (leftV - (a.length : Int))))))) rfl) ⟨rfl, trivial⟩ trivial rfl rfl ?_
    refine AOR.pure (LT.assign (v := (.s (.c (iC (w64 (leftV - (a.length : Int))))))) rfl) ⟨rfl, trivial⟩ trivial rfl rfl ?_
    refine AOR.nil ?_
    refine AWR.ret (FPost.mk (.inr rfl) ⟨rfl, trivial⟩ trivial rfl ⟨PermP.sc, trivial⟩ trivial)
end Go.Proofs.Ytihibpkbhjpajaa
