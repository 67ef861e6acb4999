/- The code computes the models. Written by a program of mine. -/
import Derived.Test.YtihibpkbhjpajaaGenF3
import Derived.Test.YtihibpkbhjpajaaGenF4
import Derived.Test.YtihibpkbhjpajaaGenF11
set_option linter.unusedVariables false
set_option linter.unusedSimpArgs false
set_option linter.unnecessarySimpa false
open Go Go.Fw
namespace Go.Proofs.Ytihibpkbhjpajaa
set_option maxRecDepth 100000 in
set_option maxHeartbeats 8000000 in
theorem w_spec_WithoutPoints (g : TGraph) (setV : (List Int)) : ∀ t, m_spec_WithoutPoints g setV = some t → Fw.Fn Try.prog 29 [(.agg [(iC g.Points), (.pv (.xs false (g.Bars.map encTBar)))]), (.c (.pv (.xs false (setV.map encInt))))] [] (.s (.agg [(iC t.Points), (.loc 0 0 t.Bars.length)])) [(0, (.prow 88 (t.Bars.map encTBar)))] [] [0] := by
  refine Fw.Fn.of (P := Try.prog) (X := [0]) (pn := []) (rs := (fun (t : TGraph) => [(.agg [(iC t.Points), (.loc 0 0 t.Bars.length)])])) (dfs := (fun (t : TGraph) => [(0, (.prow 88 (t.Bars.map encTBar)))])) Try.func29 rfl Try.ntmps29 (Nat.le_of_ble_eq_true rfl) rfl ?_
  intro w0 U0 R0 g0
  unfold m_spec_WithoutPoints
  refine AWR.seq ?_
  refine AWR.region ?_
  refine AOR.step (LT.box (n := 21) (v := (.agg [(iC g.Points), (.pv (.xs false (g.Bars.map encTBar)))])) rfl sz30 (by exact rfl)) ⟨rfl, trivial⟩ trivial rfl rfl ?_
  refine AOR.step (LT.alloc (n := 22) (cells := [(iC 0), (sC nilV)]) rfl ti30 rfl rfl rfl) trivial trivial rfl rfl ?_
  refine AOR.nil ?_
  refine AWR.seq ?_
  refine AWR.region ?_
  refine AOR.pure (LT.fieldPl rfl fo30_0) ⟨rfl, trivial⟩ trivial rfl rfl ?_
  refine AOR.pure (LT.bload1 (c := (iC g.Points)) rfl ag3 (by exact rfl)) ⟨rfl, trivial⟩ ⟨rfl, trivial⟩ rfl rfl ?_
  refine AOR.pure (LT.min rfl) ⟨⟨rfl, rfl⟩, rfl, trivial⟩ trivial rfl rfl ?_
  refine AOR.pure (LT.max rfl) ⟨⟨rfl, rfl⟩, rfl, trivial⟩ trivial rfl rfl ?_
  refine AOR.bind fun u1 hu1 => ?_
  refine AOR.step (LT.tmake (n := 23) (enc := encInt) (zc := [(iC 0)]) (0 : Int) rfl und40 ti3 rfl rfl rfl (by decide) (by decide) (lenOk_le hu1) rfl) ⟨rfl, rfl, trivial⟩ trivial rfl rfl ?_
  refine AOR.pure (LT.assign (v := (.s (.c (.loc 23 0 (List.replicate (if 0 < (if g.Points < 8 then g.Points else 8) then (if g.Points < 8 then g.Points else 8) else 0).toNat (0 : Int)).length)))) rfl) ⟨rfl, trivial⟩ trivial rfl rfl ?_
  refine AOR.nil ?_
  refine AWR.seq ?_
  refine AWR.ent (Ent.of (σ' := [(1, (.s (.c (.pv (.xs false (setV.map encInt)))))), (2, (.s (.c (.pl 21 0)))), (4, (.s (.c (.pl 22 0)))), (5, (.s (.c (.loc 23 0 (List.replicate (if 0 < (if g.Points < 8 then g.Points else 8) then (if g.Points < 8 then g.Points else 8) else 0).toNat (0 : Int)).length))))]) (m' := [(21, (.row 30 [[(iC g.Points), (.pv (.xs false (g.Bars.map encTBar)))]])), (22, (.row 30 [[(iC 0), (sC nilV)]])), (23, (.prow 3 ((List.replicate (if 0 < (if g.Points < 8 then g.Points else 8) then (if g.Points < 8 then g.Points else 8) else 0).toNat (0 : Int)).map encInt)))]) ⟨rfl, rfl, rfl, rfl, trivial⟩ ⟨rfl, rfl, rfl, trivial⟩) ?_
  refine AWR.region ?_
  refine AOR.pure (LT.assign (v := (.s (.c (iC 0)))) rfl) ⟨⟨rfl, rfl⟩, trivial⟩ trivial rfl rfl ?_
  refine AOR.nil ?_
  refine AWR.seq ?_
  refine AWR.seq ?_
  refine AWR.region ?_
  refine AOR.pure (LT.assign (v := (.s (.c (iC 0)))) rfl) ⟨⟨rfl, rfl⟩, trivial⟩ trivial rfl rfl ?_
  refine AOR.nil ?_
  refine AWR.block ?_
  refine AWR.loop1 (id := 0) (m_spec_WithoutPoints_L1 setV) (fun s2 => ([(1, (.s (.c (.pv (.xs false (setV.map encInt)))))), (2, (.s (.c (.pl 21 0)))), (4, (.s (.c (.pl 22 0)))), (5, (.s (.c (.loc 23 0 s2.2.2.length)))), (6, (.s (.c (iC s2.1)))), (7, (.s (.c (iC s2.2.1))))], [(21, (.row 30 [[(iC g.Points), (.pv (.xs false (g.Bars.map encTBar)))]])), (22, (.row 30 [[(iC 0), (sC nilV)]])), (23, (.prow 3 (s2.2.2.map encInt)))])) (fun b19 => ([(2, (.s (.c (.pl 21 0)))), (4, (.s (.c (.pl 22 0)))), (5, (.s (.c (.loc 23 0 b19.2.length)))), (6, (.s (.c (iC b19.1))))], [(21, (.row 30 [[(iC g.Points), (.pv (.xs false (g.Bars.map encTBar)))]])), (22, (.row 30 [[(iC 0), (sC nilV)]])), (23, (.prow 3 (b19.2.map encInt)))])) ?_ (Ent.of ⟨rfl, rfl, rfl, rfl, rfl, rfl, trivial⟩ ⟨rfl, rfl, rfl, trivial⟩) rfl (fun b19 _ => ?_)
  · intro s2
    unfold m_spec_WithoutPoints_L1
    refine AWR.seq ?_
    refine AWR.seq ?_
    refine AWR.region ?_
    refine AOR.pure (LT.move (v := (.s (.c (iC s2.2.1)))) rfl) ⟨rfl, trivial⟩ trivial rfl rfl ?_
    refine AOR.pure (LT.move (v := (.s (.c (.loc 23 0 s2.2.2.length)))) rfl) ⟨rfl, trivial⟩ trivial rfl rfl ?_
    refine AOR.pure (LT.lenLoc rfl und40) ⟨rfl, trivial⟩ trivial rfl rfl ?_
    refine AOR.pure (LT.lss rfl) ⟨rfl, rfl, trivial⟩ trivial rfl rfl ?_
    refine AOR.nil ?_
    refine AWR.cond rfl (fun hc20 => ?_) (fun hc20 => ?_)
    · refine AWR.skip ?_
      refine AWR.seq ?_
      refine AWR.block ?_
      refine AWR.seq ?_
      refine AWR.region ?_
      refine AOR.pure (LT.move (v := (.s (.c (.loc 23 0 s2.2.2.length)))) rfl) ⟨rfl, trivial⟩ trivial rfl rfl ?_
      refine AOR.pure (LT.move (v := (.s (.c (iC s2.2.1)))) rfl) ⟨rfl, trivial⟩ trivial rfl rfl ?_
      refine AOR.bind fun x21 hx21 => ?_
      refine AOR.pure (LT.tindexLoc rfl rfl el40 hx21) ⟨rfl, rfl, trivial⟩ ⟨rfl, trivial⟩ rfl rfl ?_
      refine AOR.step (LT.tstore (k := 0) (v := (.c (iC (-1)))) (b' := (-1)) rfl rfl (infS inf3) sz3 (by exact rfl) hx21 (by exact rfl) (by exact Nat.le_of_ble_eq_true rfl) (by exact rfl)) ⟨rfl, ⟨rfl, rfl⟩, trivial⟩ ⟨rfl, trivial⟩ rfl rfl ?_
      refine AOR.nil ?_
      refine AWR.seq ?_
      refine AWR.region ?_
      refine AOR.pure (LT.move (v := (.s (.c (.pv (.xs false (setV.map encInt)))))) rfl) ⟨rfl, trivial⟩ trivial rfl rfl ?_
      refine AOR.pure (LT.move (v := (.s (.c (iC s2.2.1)))) rfl) ⟨rfl, trivial⟩ trivial rfl rfl ?_
      refine AOR.bind fun r22 hr22 => ?_
      refine AOR.pure (@LT.callF Try.prog _ _ 72 _ _ [(.c (.pv (.xs false (setV.map encInt)))), (.c (iC s2.2.1))] _ _ [] _ _ _ _ (w_spec_l2Has setV s2.2.1 r22 hr22) rfl cb72 (.cons (.c (.same rfl)) (.cons (.c (.same rfl)) .nil)) rfl rfl trivial) ⟨rfl, rfl, rfl, trivial⟩ trivial rfl rfl ?_
      refine AOR.pure (LT.not rfl) ⟨rfl, trivial⟩ trivial rfl rfl ?_
      refine AOR.nil ?_
      refine AWR.joinK (fun j25 => ([(1, (.s (.c (.pv (.xs false (setV.map encInt)))))), (2, (.s (.c (.pl 21 0)))), (4, (.s (.c (.pl 22 0)))), (5, (.s (.c (.loc 23 0 j25.2.length)))), (6, (.s (.c (iC j25.1)))), (7, (.s (.c (iC s2.2.1))))], [(21, (.row 30 [[(iC g.Points), (.pv (.xs false (g.Bars.map encTBar)))]])), (22, (.row 30 [[(iC 0), (sC nilV)]])), (23, (.prow 3 (j25.2.map encInt)))])) ?_ (fun j25 _ => ?_)
      · refine AWR.cond rfl (fun hc26 => ?_) (fun hc26 => ?_)
        · refine AWR.seq ?_
          refine AWR.ent (Ent.of (σ' := [(1, (.s (.c (.pv (.xs false (setV.map encInt)))))), (2, (.s (.c (.pl 21 0)))), (4, (.s (.c (.pl 22 0)))), (5, (.s (.c (.loc 23 0 s2.2.2.length)))), (6, (.s (.c (iC s2.1)))), (7, (.s (.c (iC s2.2.1))))]) (m' := [(21, (.row 30 [[(iC g.Points), (.pv (.xs false (g.Bars.map encTBar)))]])), (22, (.row 30 [[(iC 0), (sC nilV)]])), (23, (.prow 3 ((s2.2.2.set s2.2.1.toNat (-1)).map encInt)))]) ⟨rfl, rfl, rfl, rfl, rfl, rfl, trivial⟩ ⟨rfl, rfl, rfl, trivial⟩) ?_
          refine AWR.region ?_
          refine AOR.pure (LT.move (v := (.s (.c (.loc 23 0 s2.2.2.length)))) rfl) ⟨rfl, trivial⟩ trivial rfl rfl ?_
          refine AOR.pure (LT.move (v := (.s (.c (iC s2.2.1)))) rfl) ⟨rfl, trivial⟩ trivial rfl rfl ?_
          refine AOR.pure (LT.move (v := (.s (.c (iC s2.1)))) rfl) ⟨rfl, trivial⟩ trivial rfl rfl ?_
          refine AOR.bind fun x27 hx27 => ?_
          refine AOR.pure (LT.tindexLoc (show s2.2.2.length = (s2.2.2.set s2.2.1.toNat (-1)).length by simp only [List.length_set]) rfl el40 hx27) ⟨rfl, rfl, trivial⟩ ⟨rfl, trivial⟩ rfl rfl ?_
          refine AOR.step (LT.tstore (k := 0) (v := (.c (iC s2.1))) (b' := s2.1) rfl rfl (infS inf3) sz3 (by exact rfl) hx27 (by exact rfl) (by exact Nat.le_of_ble_eq_true rfl) (by exact rfl)) ⟨rfl, rfl, trivial⟩ ⟨rfl, trivial⟩ rfl rfl ?_
          refine AOR.nil ?_
          refine AWR.region ?_
          refine AOR.pure (LT.move (v := (.s (.c (iC s2.1)))) rfl) ⟨rfl, trivial⟩ trivial rfl rfl ?_
          refine AOR.pure (LT.add rfl) ⟨rfl, ⟨rfl, rfl⟩, trivial⟩ trivial rfl rfl ?_
          refine AOR.pure (LT.assign (v := (.s (.c (iC (w64 (s2.1 + 1)))))) rfl) ⟨rfl, trivial⟩ trivial rfl rfl ?_
          refine AOR.nil ?_
          refine AWR.nil ⟨rfl, Ent.of ⟨rfl, rfl, rfl, (congrArg (fun l1 => (some (AV.s (.c (.loc 23 0 l1))) : Option AV)) (show s2.2.2.length = ((s2.2.2.set s2.2.1.toNat (-1)).set s2.2.1.toNat s2.1).length by simp only [List.length_set])), rfl, rfl, trivial⟩ ⟨rfl, rfl, rfl, trivial⟩⟩
        · refine AWR.skip ?_
          refine AWR.nil ⟨rfl, Ent.of ⟨rfl, rfl, rfl, (congrArg (fun l1 => (some (AV.s (.c (.loc 23 0 l1))) : Option AV)) (show s2.2.2.length = (s2.2.2.set s2.2.1.toNat (-1)).length by simp only [List.length_set])), rfl, rfl, trivial⟩ ⟨rfl, rfl, rfl, trivial⟩⟩
      · refine AWR.blk ?_
        refine AWR.region ?_
        refine AOR.pure (LT.move (v := (.s (.c (iC s2.2.1)))) rfl) ⟨rfl, trivial⟩ trivial rfl rfl ?_
        refine AOR.pure (LT.add rfl) ⟨rfl, ⟨rfl, rfl⟩, trivial⟩ trivial rfl rfl ?_
        refine AOR.pure (LT.assign (v := (.s (.c (iC (w64 (s2.2.1 + 1)))))) rfl) ⟨rfl, trivial⟩ trivial rfl rfl ?_
        refine AOR.nil ?_
        refine AWR.nil ⟨rfl, Ent.of ⟨rfl, rfl, rfl, rfl, rfl, rfl, trivial⟩ ⟨rfl, rfl, rfl, trivial⟩⟩
    · refine AWR.exit_end rfl ⟨rfl, Ent.of ⟨rfl, rfl, rfl, rfl, trivial⟩ ⟨rfl, rfl, rfl, trivial⟩⟩
  · refine AWR.seq ?_
    refine AWR.region ?_
    refine AOR.pure (LT.move (v := (.s (.c (iC b19.1)))) rfl) ⟨rfl, trivial⟩ trivial rfl rfl ?_
    refine AOR.step (LT.tbuildSlice (n := 25) (enc := encTBar) [] ([] : List TBar) rfl rfl und28 ti88 rfl rfl rfl rfl (by decide) (fun _ => rfl) rfl) trivial trivial rfl rfl ?_
    refine AOR.pure (LT.build [(0, .tmp 36, (.c (iC b19.1))), (1, .tmp 37, (.c (.loc 25 0 ([] : List TBar).length)))] rfl rfl pl30 ti30 rfl rfl rfl) ⟨rfl, rfl, trivial⟩ trivial rfl rfl ?_
    refine AOR.step (LT.alloc (n := 26) (cells := [(iC 0), (sC nilV)]) rfl ti30 rfl rfl rfl) trivial trivial rfl rfl ?_
    refine AOR.step (LT.bstore (v := (.agg [(iC b19.1), (.loc 25 0 ([] : List TBar).length)])) (out := [(iC b19.1), (.loc 25 0 ([] : List TBar).length)]) rfl rfl (infS inf30) sz30 (by exact rfl) (by exact Nat.le_of_ble_eq_true rfl) (by exact rfl)) ⟨rfl, rfl, trivial⟩ ⟨rfl, trivial⟩ rfl rfl ?_
    refine AOR.nil ?_
    refine AWR.seq ?_
    refine AWR.seq ?_
    refine AWR.ent (Ent.of (σ' := [(2, (.s (.c (.pl 21 0)))), (4, (.s (.c (.pl 22 0)))), (5, (.s (.c (.loc 23 0 b19.2.length)))), (8, (.s (.c (.pl 26 0))))]) (m' := [(21, (.row 30 [[(iC g.Points), (.pv (.xs false (g.Bars.map encTBar)))]])), (22, (.row 30 [[(iC 0), (sC nilV)]])), (23, (.prow 3 (b19.2.map encInt))), (25, (.prow 88 (([] : List TBar).map encTBar))), (26, (.row 30 [[(iC b19.1), (.loc 25 0 ([] : List TBar).length)]]))]) ⟨rfl, rfl, rfl, rfl, trivial⟩ ⟨rfl, rfl, rfl, rfl, rfl, trivial⟩) ?_
    refine AWR.region ?_
    refine AOR.pure (LT.assign (v := (.s (.c (iC 0)))) rfl) ⟨⟨rfl, rfl⟩, trivial⟩ trivial rfl rfl ?_
    refine AOR.nil ?_
    refine AWR.block ?_
    refine AWR.loop1 (id := 2) (m_spec_WithoutPoints_L2 g b19) (fun s28 => ([(2, (.s (.c (.pl 21 0)))), (4, (.s (.c (.pl 22 0)))), (5, (.s (.c (.loc 23 0 b19.2.length)))), (8, (.s (.c (.pl 26 0)))), (9, (.s (.c (iC s28.1))))], [(21, (.row 30 [[(iC g.Points), (.pv (.xs false (g.Bars.map encTBar)))]])), (22, (.row 30 [[(iC 0), (sC nilV)]])), (23, (.prow 3 (b19.2.map encInt))), (25, (.prow 88 (s28.2.map encTBar))), (26, (.row 30 [[(iC b19.1), (.loc 25 0 s28.2.length)]]))])) (fun b65 => ([(4, (.s (.c (.pl 22 0)))), (8, (.s (.c (.pl 26 0))))], [(22, (.row 30 [[(iC 0), (sC nilV)]])), (25, (.prow 88 (b65.1.map encTBar))), (26, (.row 30 [[(iC b65.2), (.loc 25 0 b65.1.length)]]))])) ?_ (Ent.of ⟨rfl, rfl, rfl, rfl, rfl, trivial⟩ ⟨rfl, rfl, rfl, rfl, rfl, trivial⟩) rfl (fun b65 _ => ?_)
    · intro s28
      unfold m_spec_WithoutPoints_L2
      refine AWR.seq ?_
      refine AWR.seq ?_
      refine AWR.joinK (fun j68 => ([(2, (.s (.c (.pl 21 0)))), (4, (.s (.c (.pl 22 0)))), (5, (.s (.c (.loc 23 0 b19.2.length)))), (8, (.s (.c (.pl 26 0)))), (9, (.s (.c (iC s28.1)))), (47, (.s (.c (bC j68))))], [(21, (.row 30 [[(iC g.Points), (.pv (.xs false (g.Bars.map encTBar)))]])), (22, (.row 30 [[(iC 0), (sC nilV)]])), (23, (.prow 3 (b19.2.map encInt))), (25, (.prow 88 (s28.2.map encTBar))), (26, (.row 30 [[(iC b19.1), (.loc 25 0 s28.2.length)]]))])) ?_ (fun j68 _ => ?_)
      · refine AWR.region ?_
        refine AOR.pure (LT.move (v := (.s (.c (iC s28.1)))) rfl) ⟨rfl, trivial⟩ trivial rfl rfl ?_
        refine AOR.pure (LT.fieldPl rfl fo30_1) ⟨rfl, trivial⟩ trivial rfl rfl ?_
        refine AOR.pure (LT.bload1 (c := (.pv (.xs false (g.Bars.map encTBar)))) rfl ag28 (by exact rfl)) ⟨rfl, trivial⟩ ⟨rfl, trivial⟩ rfl rfl ?_
        refine AOR.pure (LT.tlenRO rfl und28) ⟨rfl, trivial⟩ trivial rfl rfl ?_
        refine AOR.pure (LT.lss rfl) ⟨rfl, rfl, trivial⟩ trivial rfl rfl ?_
        refine AOR.pure (LT.move (v := (.s (.c (bC (decide (s28.1 < (g.Bars.length : Int))))))) rfl) ⟨rfl, trivial⟩ trivial rfl rfl ?_
        refine AOR.split (fun hb69 => ?_) (fun hb69 => ?_)
        · refine AOR.pure (LT.bloadN (out := [(iC g.Points), (.pv (.xs false (g.Bars.map encTBar)))]) rfl ag30 (infS inf30) sz30 (by exact rfl) (by exact rfl)) ⟨rfl, trivial⟩ ⟨rfl, trivial⟩ ⟨_, rfl, .inl ⟨_, rfl, (by rw [hb69]; rfl)⟩⟩ rfl ?_
          refine AOR.bind fun r70 hr70 => ?_
          refine AOR.pure (@LT.callF Try.prog _ _ 66 _ _ [(.agg [(iC g.Points), (.pv (.xs false (g.Bars.map encTBar)))])] _ _ [] _ _ _ _ (w_spec_IsGraph g r70 hr70) rfl cb66 (.cons (.agg (.cons (.same rfl) (.cons (.same rfl) .nil))) .nil) rfl rfl trivial) ⟨rfl, rfl, trivial⟩ trivial ⟨_, rfl, .inl ⟨_, rfl, (by rw [hb69]; rfl)⟩⟩ rfl ?_
          refine AOR.pure (LT.pickT (v := (.s (.c (bC r70)))) rfl hb69) ⟨rfl, rfl, trivial⟩ trivial rfl rfl ?_
          refine AOR.nil ?_
          refine AWR.nil ⟨rfl, Ent.of ⟨rfl, rfl, rfl, rfl, rfl, rfl, trivial⟩ ⟨rfl, rfl, rfl, rfl, rfl, trivial⟩⟩
        · refine AOR.skip ⟨_, rfl, .inl ⟨_, rfl, (by rw [hb69]; rfl)⟩⟩ rfl ?_
          refine AOR.skip ⟨_, rfl, .inl ⟨_, rfl, (by rw [hb69]; rfl)⟩⟩ rfl ?_
          refine AOR.pure (LT.pickF (v := (.s (.c (bC false)))) rfl hb69) ⟨rfl, ⟨rfl, rfl⟩, trivial⟩ trivial rfl rfl ?_
          refine AOR.nil ?_
          refine AWR.nil ⟨rfl, Ent.of ⟨rfl, rfl, rfl, rfl, rfl, rfl, trivial⟩ ⟨rfl, rfl, rfl, rfl, rfl, trivial⟩⟩
      · refine AWR.cond rfl (fun hc71 => ?_) (fun hc71 => ?_)
        · refine AWR.skip ?_
          refine AWR.seq ?_
          refine AWR.block ?_
          refine AWR.seq ?_
          refine AWR.region ?_
          refine AOR.pure (LT.move (v := (.s (.c (.loc 23 0 b19.2.length)))) rfl) ⟨rfl, trivial⟩ trivial rfl rfl ?_
          refine AOR.pure (LT.fieldPl rfl fo30_1) ⟨rfl, trivial⟩ trivial rfl rfl ?_
          refine AOR.pure (LT.bload1 (c := (.pv (.xs false (g.Bars.map encTBar)))) rfl ag28 (by exact rfl)) ⟨rfl, trivial⟩ ⟨rfl, trivial⟩ rfl rfl ?_
          refine AOR.pure (LT.move (v := (.s (.c (iC s28.1)))) rfl) ⟨rfl, trivial⟩ trivial rfl rfl ?_
          refine AOR.bind fun x72 hx72 => ?_
          refine AOR.pure (LT.tindexRO (enc := encTBar) rfl el28 hx72 sz88) ⟨rfl, rfl, trivial⟩ trivial rfl rfl ?_
          refine AOR.pure (LT.fieldPx rfl fo88_0) ⟨rfl, trivial⟩ trivial rfl rfl ?_
          refine AOR.pure (LT.loadPx1 rfl ag3) ⟨rfl, trivial⟩ trivial rfl rfl ?_
          refine AOR.bind fun x73 hx73 => ?_
          refine AOR.pure (LT.tindexLoc rfl rfl el40 hx73) ⟨rfl, rfl, trivial⟩ ⟨rfl, trivial⟩ rfl rfl ?_
          refine AOR.pure (LT.tload1 (k := 0) rfl ag3 hx73 (by exact rfl) (by exact rfl)) ⟨rfl, trivial⟩ ⟨rfl, trivial⟩ rfl rfl ?_
          refine AOR.pure (LT.assign (v := (.s (.c (iC x73)))) rfl) ⟨rfl, trivial⟩ trivial rfl rfl ?_
          refine AOR.nil ?_
          refine AWR.seq ?_
          refine AWR.region ?_
          refine AOR.pure (LT.move (v := (.s (.c (.loc 23 0 b19.2.length)))) rfl) ⟨rfl, trivial⟩ trivial rfl rfl ?_
          refine AOR.pure (LT.fieldPl rfl fo30_1) ⟨rfl, trivial⟩ trivial rfl rfl ?_
          refine AOR.pure (LT.bload1 (c := (.pv (.xs false (g.Bars.map encTBar)))) rfl ag28 (by exact rfl)) ⟨rfl, trivial⟩ ⟨rfl, trivial⟩ rfl rfl ?_
          refine AOR.pure (LT.move (v := (.s (.c (iC s28.1)))) rfl) ⟨rfl, trivial⟩ trivial rfl rfl ?_
          refine AOR.bind fun x74 hx74 => ?_
          refine AOR.pure (LT.tindexRO (enc := encTBar) rfl el28 hx74 sz88) ⟨rfl, rfl, trivial⟩ trivial rfl rfl ?_
          refine AOR.pure (LT.fieldPx rfl fo88_1) ⟨rfl, trivial⟩ trivial rfl rfl ?_
          refine AOR.pure (LT.loadPx1 rfl ag3) ⟨rfl, trivial⟩ trivial rfl rfl ?_
          refine AOR.bind fun x75 hx75 => ?_
          refine AOR.pure (LT.tindexLoc rfl rfl el40 hx75) ⟨rfl, rfl, trivial⟩ ⟨rfl, trivial⟩ rfl rfl ?_
          refine AOR.pure (LT.tload1 (k := 0) rfl ag3 hx75 (by exact rfl) (by exact rfl)) ⟨rfl, trivial⟩ ⟨rfl, trivial⟩ rfl rfl ?_
          refine AOR.pure (LT.assign (v := (.s (.c (iC x75)))) rfl) ⟨rfl, trivial⟩ trivial rfl rfl ?_
          refine AOR.nil ?_
          refine AWR.seq ?_
          refine AWR.joinK (fun j77 => ([(2, (.s (.c (.pl 21 0)))), (4, (.s (.c (.pl 22 0)))), (5, (.s (.c (.loc 23 0 b19.2.length)))), (8, (.s (.c (.pl 26 0)))), (9, (.s (.c (iC s28.1)))), (10, (.s (.c (iC x73)))), (11, (.s (.c (iC x75)))), (73, (.s (.c (bC j77))))], [(21, (.row 30 [[(iC g.Points), (.pv (.xs false (g.Bars.map encTBar)))]])), (22, (.row 30 [[(iC 0), (sC nilV)]])), (23, (.prow 3 (b19.2.map encInt))), (25, (.prow 88 (s28.2.map encTBar))), (26, (.row 30 [[(iC b19.1), (.loc 25 0 s28.2.length)]]))])) ?_ (fun j77 _ => ?_)
          · refine AWR.ent (Ent.of (σ' := [(2, (.s (.c (.pl 21 0)))), (4, (.s (.c (.pl 22 0)))), (5, (.s (.c (.loc 23 0 b19.2.length)))), (8, (.s (.c (.pl 26 0)))), (9, (.s (.c (iC s28.1)))), (10, (.s (.c (iC x73)))), (11, (.s (.c (iC x75))))]) (m' := [(21, (.row 30 [[(iC g.Points), (.pv (.xs false (g.Bars.map encTBar)))]])), (22, (.row 30 [[(iC 0), (sC nilV)]])), (23, (.prow 3 (b19.2.map encInt))), (25, (.prow 88 (s28.2.map encTBar))), (26, (.row 30 [[(iC b19.1), (.loc 25 0 s28.2.length)]]))]) ⟨rfl, rfl, rfl, rfl, rfl, rfl, rfl, trivial⟩ ⟨rfl, rfl, rfl, rfl, rfl, trivial⟩) ?_
            refine AWR.region ?_
            refine AOR.pure (LT.move (v := (.s (.c (iC x73)))) rfl) ⟨rfl, trivial⟩ trivial rfl rfl ?_
            refine AOR.pure (LT.geq rfl) ⟨rfl, ⟨rfl, rfl⟩, trivial⟩ trivial rfl rfl ?_
            refine AOR.pure (LT.move (v := (.s (.c (bC (decide (0 ≤ x73)))))) rfl) ⟨rfl, trivial⟩ trivial rfl rfl ?_
            refine AOR.split (fun hb78 => ?_) (fun hb78 => ?_)
            · refine AOR.pure (LT.move (v := (.s (.c (iC x75)))) rfl) ⟨rfl, trivial⟩ trivial ⟨_, rfl, .inl ⟨_, rfl, (by rw [hb78]; rfl)⟩⟩ rfl ?_
              refine AOR.pure (LT.geq rfl) ⟨rfl, ⟨rfl, rfl⟩, trivial⟩ trivial ⟨_, rfl, .inl ⟨_, rfl, (by rw [hb78]; rfl)⟩⟩ rfl ?_
              refine AOR.pure (LT.pickT (v := (.s (.c (bC (decide (0 ≤ x75)))))) rfl hb78) ⟨rfl, rfl, trivial⟩ trivial rfl rfl ?_
              refine AOR.nil ?_
              refine AWR.nil ⟨rfl, Ent.of ⟨rfl, rfl, rfl, rfl, rfl, rfl, rfl, rfl, trivial⟩ ⟨rfl, rfl, rfl, rfl, rfl, trivial⟩⟩
            · refine AOR.skip ⟨_, rfl, .inl ⟨_, rfl, (by rw [hb78]; rfl)⟩⟩ rfl ?_
              refine AOR.skip ⟨_, rfl, .inl ⟨_, rfl, (by rw [hb78]; rfl)⟩⟩ rfl ?_
              refine AOR.pure (LT.pickF (v := (.s (.c (bC false)))) rfl hb78) ⟨rfl, ⟨rfl, rfl⟩, trivial⟩ trivial rfl rfl ?_
              refine AOR.nil ?_
              refine AWR.nil ⟨rfl, Ent.of ⟨rfl, rfl, rfl, rfl, rfl, rfl, rfl, rfl, trivial⟩ ⟨rfl, rfl, rfl, rfl, rfl, trivial⟩⟩
          · refine AWR.joinK (fun j81 => ([(2, (.s (.c (.pl 21 0)))), (4, (.s (.c (.pl 22 0)))), (5, (.s (.c (.loc 23 0 b19.2.length)))), (8, (.s (.c (.pl 26 0)))), (9, (.s (.c (iC s28.1))))], [(21, (.row 30 [[(iC g.Points), (.pv (.xs false (g.Bars.map encTBar)))]])), (22, (.row 30 [[(iC 0), (sC nilV)]])), (23, (.prow 3 (b19.2.map encInt))), (25, (.prow 88 (j81.map encTBar))), (26, (.row 30 [[(iC b19.1), (.loc 25 0 j81.length)]]))])) ?_ (fun j81 _ => ?_)
            · refine AWR.cond rfl (fun hc82 => ?_) (fun hc82 => ?_)
              · refine AWR.region ?_
                refine AOR.pure (LT.fieldPl rfl fo30_1) ⟨rfl, trivial⟩ trivial rfl rfl ?_
                refine AOR.pure (LT.bload1 (c := (.loc 25 0 s28.2.length)) rfl ag28 (by exact rfl)) ⟨rfl, trivial⟩ ⟨rfl, trivial⟩ rfl rfl ?_
                refine AOR.pure (LT.move (v := (.s (.c (iC x73)))) rfl) ⟨rfl, trivial⟩ trivial rfl rfl ?_
                refine AOR.pure (LT.move (v := (.s (.c (iC x75)))) rfl) ⟨rfl, trivial⟩ trivial rfl rfl ?_
                refine AOR.pure (LT.build [(0, .tmp 76, (.c (iC x73))), (1, .tmp 77, (.c (iC x75)))] rfl rfl pl88 ti88 rfl rfl rfl) ⟨rfl, rfl, trivial⟩ trivial rfl rfl ?_
                refine AOR.step (LT.tbuildSlice (n := 28) (enc := encTBar) [(0, .tmp 78, (.agg [(iC x73), (iC x75)]))] [(TBar.mk x73 x75)] rfl rfl und28 ti88 rfl rfl rfl rfl (by decide) (fun _ => rfl) rfl) ⟨rfl, trivial⟩ trivial rfl rfl ?_
                refine AOR.bind fun u83 hu83 => ?_
                refine AOR.step (LT.tappP (enc := encTBar) rfl rfl rfl und28 ti88 rfl (by decide) (by decide) (fun _ => rfl) (lim_le hu83)) ⟨rfl, rfl, trivial⟩ ⟨rfl, rfl, trivial⟩ rfl rfl ?_
                refine AOR.pure (LT.fieldPl rfl fo30_1) ⟨rfl, trivial⟩ trivial rfl rfl ?_
                refine AOR.step (LT.bstore (v := (.c (.loc 25 0 (s28.2 ++ [(TBar.mk x73 x75)]).length))) (out := [(iC b19.1), (.loc 25 0 (s28.2 ++ [(TBar.mk x73 x75)]).length)]) rfl rfl (infS inf28) sz28 (by exact rfl) (by exact Nat.le_of_ble_eq_true rfl) (by exact rfl)) ⟨rfl, rfl, trivial⟩ ⟨rfl, trivial⟩ rfl rfl ?_
                refine AOR.nil ?_
                refine AWR.nil ⟨rfl, Ent.of ⟨rfl, rfl, rfl, rfl, rfl, trivial⟩ ⟨rfl, rfl, rfl, rfl, rfl, trivial⟩⟩
              · refine AWR.skip ?_
                refine AWR.nil ⟨rfl, Ent.of ⟨rfl, rfl, rfl, rfl, rfl, trivial⟩ ⟨rfl, rfl, rfl, rfl, rfl, trivial⟩⟩
            · refine AWR.blk ?_
              refine AWR.region ?_
              refine AOR.pure (LT.move (v := (.s (.c (iC s28.1)))) rfl) ⟨rfl, trivial⟩ trivial rfl rfl ?_
              refine AOR.pure (LT.add rfl) ⟨rfl, ⟨rfl, rfl⟩, trivial⟩ trivial rfl rfl ?_
              refine AOR.pure (LT.assign (v := (.s (.c (iC (w64 (s28.1 + 1)))))) rfl) ⟨rfl, trivial⟩ trivial rfl rfl ?_
              refine AOR.nil ?_
              refine AWR.nil ⟨rfl, Ent.of ⟨rfl, rfl, rfl, rfl, rfl, trivial⟩ ⟨rfl, rfl, rfl, rfl, rfl, trivial⟩⟩
        · refine AWR.exit_end rfl ⟨rfl, Ent.of ⟨rfl, rfl, trivial⟩ ⟨rfl, rfl, rfl, trivial⟩⟩
    · refine AWR.seq ?_
      refine AWR.region ?_
      refine AOR.pure (LT.bloadN (out := [(iC b65.2), (.loc 25 0 b65.1.length)]) rfl ag30 (infS inf30) sz30 (by exact rfl) (by exact rfl)) ⟨rfl, trivial⟩ ⟨rfl, trivial⟩ rfl rfl ?_
      refine AOR.step (LT.bstore (v := (.agg [(iC b65.2), (.loc 25 0 b65.1.length)])) (out := [(iC b65.2), (.loc 25 0 b65.1.length)]) rfl rfl (infS inf30) sz30 (by exact rfl) (by exact Nat.le_of_ble_eq_true rfl) (by exact rfl)) ⟨rfl, rfl, trivial⟩ ⟨rfl, trivial⟩ rfl rfl ?_
      refine AOR.nil ?_
      refine AWR.ent (Ent.of (σ' := [(4, (.s (.c (.pl 22 0))))]) (m' := [(22, (.row 30 [[(iC b65.2), (.loc 25 0 b65.1.length)]])), (25, (.prow 88 (b65.1.map encTBar)))]) ⟨rfl, trivial⟩ ⟨rfl, rfl, trivial⟩) ?_
      refine AWR.ent (Ent.mv 25 0 rfl rfl) ?_
      refine AWR.ent (Ent.of (σ' := [(4, (.s (.c (.pl 22 0))))]) (m' := [(0, (.prow 88 (b65.1.map encTBar))), (22, (.row 30 [[(iC b65.2), (.loc 0 0 b65.1.length)]]))]) ⟨rfl, trivial⟩ ⟨rfl, rfl, trivial⟩) ?_
      refine AWR.ret (FPost.mk (.inr rfl) ⟨⟨_, _, _, rfl, rfl, rfl, ag30, sz30, _, (infS inf30)⟩, trivial⟩ ⟨rfl, trivial⟩ rfl ⟨⟨PermP.sc, trivial, trivial⟩, trivial⟩ ⟨PermO.prow' perm_encTBar, trivial⟩)
set_option maxRecDepth 100000 in
set_option maxHeartbeats 8000000 in
theorem w_impl_WithoutPoints (g : TGraph) (setV : (List Int)) : ∀ t, m_impl_WithoutPoints g setV = some t → Fw.Fn Try.prog 31 [(.agg [(iC g.Points), (.pv (.xs false (g.Bars.map encTBar)))]), (.c (.pv (.xs false (setV.map encInt))))] [] (.s (.agg [(iC t.Points), (.loc 0 0 t.Bars.length)])) [(0, (.prow 88 (t.Bars.map encTBar)))] [] [0] := by
  refine Fw.Fn.of (P := Try.prog) (X := [0]) (pn := []) (rs := (fun (t : TGraph) => [(.agg [(iC t.Points), (.loc 0 0 t.Bars.length)])])) (dfs := (fun (t : TGraph) => [(0, (.prow 88 (t.Bars.map encTBar)))])) Try.func31 rfl Try.ntmps31 (Nat.le_of_ble_eq_true rfl) rfl ?_
  intro w0 U0 R0 g0
  unfold m_impl_WithoutPoints
  refine AWR.seq ?_
  refine AWR.region ?_
  refine AOR.step (LT.box (n := 21) (v := (.agg [(iC g.Points), (.pv (.xs false (g.Bars.map encTBar)))])) rfl sz30 (by exact rfl)) ⟨rfl, trivial⟩ trivial rfl rfl ?_
  refine AOR.step (LT.alloc (n := 22) (cells := [(iC 0), (sC nilV)]) rfl ti30 rfl rfl rfl) trivial trivial rfl rfl ?_
  refine AOR.nil ?_
  refine AWR.seq ?_
  refine AWR.region ?_
  refine AOR.pure (LT.fieldPl rfl fo30_0) ⟨rfl, trivial⟩ trivial rfl rfl ?_
  refine AOR.pure (LT.bload1 (c := (iC g.Points)) rfl ag3 (by exact rfl)) ⟨rfl, trivial⟩ ⟨rfl, trivial⟩ rfl rfl ?_
  refine AOR.pure (LT.min rfl) ⟨rfl, ⟨rfl, rfl⟩, trivial⟩ trivial rfl rfl ?_
  refine AOR.pure (LT.max rfl) ⟨⟨rfl, rfl⟩, rfl, trivial⟩ trivial rfl rfl ?_
  refine AOR.bind fun u1 hu1 => ?_
  refine AOR.step (LT.tmake (n := 23) (enc := encInt) (zc := [(iC 0)]) (0 : Int) rfl und40 ti3 rfl rfl rfl (by decide) (by decide) (lenOk_le hu1) rfl) ⟨rfl, rfl, trivial⟩ trivial rfl rfl ?_
  refine AOR.pure (LT.assign (v := (.s (.c (.loc 23 0 (List.replicate (if 0 < (if 8 < g.Points then 8 else g.Points) then (if 8 < g.Points then 8 else g.Points) else 0).toNat (0 : Int)).length)))) rfl) ⟨rfl, trivial⟩ trivial rfl rfl ?_
  refine AOR.nil ?_
  refine AWR.seq ?_
  refine AWR.ent (Ent.of (σ' := [(1, (.s (.c (.pv (.xs false (setV.map encInt)))))), (2, (.s (.c (.pl 21 0)))), (4, (.s (.c (.pl 22 0)))), (5, (.s (.c (.loc 23 0 (List.replicate (if 0 < (if 8 < g.Points then 8 else g.Points) then (if 8 < g.Points then 8 else g.Points) else 0).toNat (0 : Int)).length))))]) (m' := [(21, (.row 30 [[(iC g.Points), (.pv (.xs false (g.Bars.map encTBar)))]])), (22, (.row 30 [[(iC 0), (sC nilV)]])), (23, (.prow 3 ((List.replicate (if 0 < (if 8 < g.Points then 8 else g.Points) then (if 8 < g.Points then 8 else g.Points) else 0).toNat (0 : Int)).map encInt)))]) ⟨rfl, rfl, rfl, rfl, trivial⟩ ⟨rfl, rfl, rfl, trivial⟩) ?_
  refine AWR.region ?_
  refine AOR.pure (LT.build [] rfl rfl pl30 ti30 rfl rfl rfl) trivial trivial rfl rfl ?_
  refine AOR.step (LT.alloc (n := 24) (cells := [(iC 0), (sC nilV)]) rfl ti30 rfl rfl rfl) trivial trivial rfl rfl ?_
  refine AOR.step (LT.bstore (v := (.agg [(iC 0), (sC nilV)])) (out := [(iC 0), (sC nilV)]) rfl rfl (infS inf30) sz30 (by exact rfl) (by exact Nat.le_of_ble_eq_true rfl) (by exact rfl)) ⟨rfl, rfl, trivial⟩ ⟨rfl, trivial⟩ rfl rfl ?_
  refine AOR.nil ?_
  refine AWR.seq ?_
  refine AWR.seq ?_
  refine AWR.region ?_
  refine AOR.pure (LT.move (v := (.s (.c (.loc 23 0 (List.replicate (if 0 < (if 8 < g.Points then 8 else g.Points) then (if 8 < g.Points then 8 else g.Points) else 0).toNat (0 : Int)).length)))) rfl) ⟨rfl, trivial⟩ trivial rfl rfl ?_
  refine AOR.pure (LT.lenLoc rfl und40) ⟨rfl, trivial⟩ trivial rfl rfl ?_
  refine AOR.pure (LT.move (v := (.s (.c (iC 0)))) rfl) ⟨⟨rfl, rfl⟩, trivial⟩ trivial rfl rfl ?_
  refine AOR.nil ?_
  refine AWR.block ?_
  refine AWR.loop1 (id := 0) (m_impl_WithoutPoints_L1 g setV) (fun s2 => ([(1, (.s (.c (.pv (.xs false (setV.map encInt)))))), (2, (.s (.c (.pl 21 0)))), (4, (.s (.c (.pl 22 0)))), (5, (.s (.c (.loc 23 0 s2.2.1.length)))), (6, (.s (.c (.pl 24 0)))), (19, (.s (.c (iC ((List.replicate (if 0 < (if 8 < g.Points then 8 else g.Points) then (if 8 < g.Points then 8 else g.Points) else 0).toNat (0 : Int)).length : Int))))), (20, (.s (.c (iC s2.1))))], [(21, (.row 30 [[(iC g.Points), (.pv (.xs false (g.Bars.map encTBar)))]])), (22, (.row 30 [[(iC 0), (sC nilV)]])), (23, (.prow 3 (s2.2.1.map encInt))), (24, (.row 30 [[(iC s2.2.2), (sC nilV)]]))])) (fun b19 => ([(2, (.s (.c (.pl 21 0)))), (4, (.s (.c (.pl 22 0)))), (5, (.s (.c (.loc 23 0 b19.1.length)))), (6, (.s (.c (.pl 24 0))))], [(21, (.row 30 [[(iC g.Points), (.pv (.xs false (g.Bars.map encTBar)))]])), (22, (.row 30 [[(iC 0), (sC nilV)]])), (23, (.prow 3 (b19.1.map encInt))), (24, (.row 30 [[(iC b19.2), (sC nilV)]]))])) ?_ (Ent.of ⟨rfl, rfl, rfl, rfl, rfl, rfl, rfl, trivial⟩ ⟨rfl, rfl, rfl, rfl, trivial⟩) rfl (fun b19 _ => ?_)
  · intro s2
    unfold m_impl_WithoutPoints_L1
    refine AWR.seq ?_
    refine AWR.region ?_
    refine AOR.pure (LT.lss rfl) ⟨rfl, rfl, trivial⟩ trivial rfl rfl ?_
    refine AOR.nil ?_
    refine AWR.seq ?_
    refine AWR.cond rfl (fun hc20 => ?_) (fun hc20 => ?_)
    · refine AWR.skip ?_
      refine AWR.seq ?_
      refine AWR.block ?_
      refine AWR.seq ?_
      refine AWR.region ?_
      refine AOR.pure (LT.move (v := (.s (.c (iC s2.1)))) rfl) ⟨rfl, trivial⟩ trivial rfl rfl ?_
      refine AOR.pure (LT.assign (v := (.s (.c (iC s2.1)))) rfl) ⟨rfl, trivial⟩ trivial rfl rfl ?_
      refine AOR.nil ?_
      refine AWR.seq ?_
      refine AWR.region ?_
      refine AOR.pure (LT.move (v := (.s (.c (.loc 23 0 s2.2.1.length)))) rfl) ⟨rfl, trivial⟩ trivial rfl rfl ?_
      refine AOR.pure (LT.move (v := (.s (.c (iC s2.1)))) rfl) ⟨rfl, trivial⟩ trivial rfl rfl ?_
      refine AOR.bind fun x21 hx21 => ?_
      refine AOR.pure (LT.tindexLoc rfl rfl el40 hx21) ⟨rfl, rfl, trivial⟩ ⟨rfl, trivial⟩ rfl rfl ?_
      refine AOR.step (LT.tstore (k := 0) (v := (.c (iC (-1)))) (b' := (-1)) rfl rfl (infS inf3) sz3 (by exact rfl) hx21 (by exact rfl) (by exact Nat.le_of_ble_eq_true rfl) (by exact rfl)) ⟨rfl, ⟨rfl, rfl⟩, trivial⟩ ⟨rfl, trivial⟩ rfl rfl ?_
      refine AOR.nil ?_
      refine AWR.seq ?_
      refine AWR.region ?_
      refine AOR.pure (LT.move (v := (.s (.c (.pv (.xs false (setV.map encInt)))))) rfl) ⟨rfl, trivial⟩ trivial rfl rfl ?_
      refine AOR.pure (LT.move (v := (.s (.c (iC s2.1)))) rfl) ⟨rfl, trivial⟩ trivial rfl rfl ?_
      refine AOR.bind fun r22 hr22 => ?_
      refine AOR.pure (@LT.callF Try.prog _ _ 73 _ _ [(.c (.pv (.xs false (setV.map encInt)))), (.c (iC s2.1))] _ _ [] _ _ _ _ (w_slices_Contains setV s2.1 r22 hr22) rfl cb73 (.cons (.c (.same rfl)) (.cons (.c (.same rfl)) .nil)) rfl rfl trivial) ⟨rfl, rfl, rfl, trivial⟩ trivial rfl rfl ?_
      refine AOR.pure (LT.not rfl) ⟨rfl, trivial⟩ trivial rfl rfl ?_
      refine AOR.nil ?_
      refine AWR.joinK (fun j25 => ([(1, (.s (.c (.pv (.xs false (setV.map encInt)))))), (2, (.s (.c (.pl 21 0)))), (4, (.s (.c (.pl 22 0)))), (5, (.s (.c (.loc 23 0 j25.1.length)))), (6, (.s (.c (.pl 24 0)))), (19, (.s (.c (iC ((List.replicate (if 0 < (if 8 < g.Points then 8 else g.Points) then (if 8 < g.Points then 8 else g.Points) else 0).toNat (0 : Int)).length : Int))))), (20, (.s (.c (iC s2.1))))], [(21, (.row 30 [[(iC g.Points), (.pv (.xs false (g.Bars.map encTBar)))]])), (22, (.row 30 [[(iC 0), (sC nilV)]])), (23, (.prow 3 (j25.1.map encInt))), (24, (.row 30 [[(iC j25.2), (sC nilV)]]))])) ?_ (fun j25 _ => ?_)
      · refine AWR.cond rfl (fun hc26 => ?_) (fun hc26 => ?_)
        · refine AWR.seq ?_
          refine AWR.ent (Ent.of (σ' := [(1, (.s (.c (.pv (.xs false (setV.map encInt)))))), (2, (.s (.c (.pl 21 0)))), (4, (.s (.c (.pl 22 0)))), (5, (.s (.c (.loc 23 0 s2.2.1.length)))), (6, (.s (.c (.pl 24 0)))), (7, (.s (.c (iC s2.1)))), (19, (.s (.c (iC ((List.replicate (if 0 < (if 8 < g.Points then 8 else g.Points) then (if 8 < g.Points then 8 else g.Points) else 0).toNat (0 : Int)).length : Int))))), (20, (.s (.c (iC s2.1))))]) (m' := [(21, (.row 30 [[(iC g.Points), (.pv (.xs false (g.Bars.map encTBar)))]])), (22, (.row 30 [[(iC 0), (sC nilV)]])), (23, (.prow 3 ((s2.2.1.set s2.1.toNat (-1)).map encInt))), (24, (.row 30 [[(iC s2.2.2), (sC nilV)]]))]) ⟨rfl, rfl, rfl, rfl, rfl, rfl, rfl, rfl, trivial⟩ ⟨rfl, rfl, rfl, rfl, trivial⟩) ?_
          refine AWR.region ?_
          refine AOR.pure (LT.move (v := (.s (.c (.loc 23 0 s2.2.1.length)))) rfl) ⟨rfl, trivial⟩ trivial rfl rfl ?_
          refine AOR.pure (LT.move (v := (.s (.c (iC s2.1)))) rfl) ⟨rfl, trivial⟩ trivial rfl rfl ?_
          refine AOR.pure (LT.fieldPl rfl fo30_0) ⟨rfl, trivial⟩ trivial rfl rfl ?_
          refine AOR.pure (LT.bload1 (c := (iC s2.2.2)) rfl ag3 (by exact rfl)) ⟨rfl, trivial⟩ ⟨rfl, trivial⟩ rfl rfl ?_
          refine AOR.bind fun x27 hx27 => ?_
          refine AOR.pure (LT.tindexLoc (show s2.2.1.length = (s2.2.1.set s2.1.toNat (-1)).length by simp only [List.length_set]) rfl el40 hx27) ⟨rfl, rfl, trivial⟩ ⟨rfl, trivial⟩ rfl rfl ?_
          refine AOR.step (LT.tstore (k := 0) (v := (.c (iC s2.2.2))) (b' := s2.2.2) rfl rfl (infS inf3) sz3 (by exact rfl) hx27 (by exact rfl) (by exact Nat.le_of_ble_eq_true rfl) (by exact rfl)) ⟨rfl, rfl, trivial⟩ ⟨rfl, trivial⟩ rfl rfl ?_
          refine AOR.nil ?_
          refine AWR.region ?_
          refine AOR.pure (LT.fieldPl rfl fo30_0) ⟨rfl, trivial⟩ trivial rfl rfl ?_
          refine AOR.pure (LT.bload1 (c := (iC s2.2.2)) rfl ag3 (by exact rfl)) ⟨rfl, trivial⟩ ⟨rfl, trivial⟩ rfl rfl ?_
          refine AOR.pure (LT.add rfl) ⟨rfl, ⟨rfl, rfl⟩, trivial⟩ trivial rfl rfl ?_
          refine AOR.pure (LT.fieldPl rfl fo30_0) ⟨rfl, trivial⟩ trivial rfl rfl ?_
          refine AOR.step (LT.bstore (v := (.c (iC (w64 (s2.2.2 + 1))))) (out := [(iC (w64 (s2.2.2 + 1))), (sC nilV)]) rfl rfl (infS inf3) sz3 (by exact rfl) (by exact Nat.le_of_ble_eq_true rfl) (by exact rfl)) ⟨rfl, rfl, trivial⟩ ⟨rfl, trivial⟩ rfl rfl ?_
          refine AOR.nil ?_
          refine AWR.nil ⟨rfl, Ent.of ⟨rfl, rfl, rfl, (congrArg (fun l1 => (some (AV.s (.c (.loc 23 0 l1))) : Option AV)) (show s2.2.1.length = ((s2.2.1.set s2.1.toNat (-1)).set s2.1.toNat s2.2.2).length by simp only [List.length_set])), rfl, rfl, rfl, trivial⟩ ⟨rfl, rfl, rfl, rfl, trivial⟩⟩
        · refine AWR.skip ?_
          refine AWR.nil ⟨rfl, Ent.of ⟨rfl, rfl, rfl, (congrArg (fun l1 => (some (AV.s (.c (.loc 23 0 l1))) : Option AV)) (show s2.2.1.length = (s2.2.1.set s2.1.toNat (-1)).length by simp only [List.length_set])), rfl, rfl, rfl, trivial⟩ ⟨rfl, rfl, rfl, rfl, trivial⟩⟩
      · refine AWR.blk ?_
        refine AWR.region ?_
        refine AOR.pure (LT.add rfl) ⟨rfl, ⟨rfl, rfl⟩, trivial⟩ trivial rfl rfl ?_
        refine AOR.pure (LT.move (v := (.s (.c (iC (w64 (s2.1 + 1)))))) rfl) ⟨rfl, trivial⟩ trivial rfl rfl ?_
        refine AOR.nil ?_
        refine AWR.nil ⟨rfl, Ent.of ⟨rfl, rfl, rfl, rfl, rfl, rfl, rfl, trivial⟩ ⟨rfl, rfl, rfl, rfl, trivial⟩⟩
    · refine AWR.exit_end rfl ⟨rfl, Ent.of ⟨rfl, rfl, rfl, rfl, trivial⟩ ⟨rfl, rfl, rfl, rfl, trivial⟩⟩
  · refine AWR.seq ?_
    refine AWR.seq ?_
    refine AWR.region ?_
    refine AOR.pure (LT.bloadN (out := [(iC g.Points), (.pv (.xs false (g.Bars.map encTBar)))]) rfl ag30 (infS inf30) sz30 (by exact rfl) (by exact rfl)) ⟨rfl, trivial⟩ ⟨rfl, trivial⟩ rfl rfl ?_
    refine AOR.bind fun r28 hr28 => ?_
    refine AOR.pure (@LT.callF Try.prog _ _ 68 _ _ [(.agg [(iC g.Points), (.pv (.xs false (g.Bars.map encTBar)))])] _ _ [] _ _ _ _ (w_impl_IsGraph g r28 hr28) rfl cb68 (.cons (.agg (.cons (.same rfl) (.cons (.same rfl) .nil))) .nil) rfl rfl trivial) ⟨rfl, rfl, trivial⟩ trivial rfl rfl ?_
    refine AOR.pure (LT.not rfl) ⟨rfl, trivial⟩ trivial rfl rfl ?_
    refine AOR.nil ?_
    refine AWR.cond rfl (fun hc29 => ?_) (fun hc29 => ?_)
    · refine AWR.seq ?_
      refine AWR.region ?_
      refine AOR.pure (LT.bloadN (out := [(iC b19.2), (sC nilV)]) rfl ag30 (infS inf30) sz30 (by exact rfl) (by exact rfl)) ⟨rfl, trivial⟩ ⟨rfl, trivial⟩ rfl rfl ?_
      refine AOR.step (LT.bstore (v := (.agg [(iC b19.2), (sC nilV)])) (out := [(iC b19.2), (sC nilV)]) rfl rfl (infS inf30) sz30 (by exact rfl) (by exact Nat.le_of_ble_eq_true rfl) (by exact rfl)) ⟨rfl, rfl, trivial⟩ ⟨rfl, trivial⟩ rfl rfl ?_
      refine AOR.nil ?_
      refine AWR.ent (Ent.nilB 22 1 0 88 rfl rfl rfl rfl) ?_
      refine AWR.ent (Ent.of (σ' := [(4, (.s (.c (.pl 22 0))))]) (m' := [(0, (.prow 88 (([] : List TBar).map encTBar))), (22, (.row 30 [[(iC b19.2), (.loc 0 0 ([] : List TBar).length)]]))]) ⟨rfl, trivial⟩ ⟨rfl, rfl, trivial⟩) ?_
      refine AWR.ret (FPost.mk (.inr rfl) ⟨⟨_, _, _, rfl, rfl, rfl, ag30, sz30, _, (infS inf30)⟩, trivial⟩ ⟨rfl, trivial⟩ rfl ⟨⟨PermP.sc, trivial, trivial⟩, trivial⟩ ⟨PermO.prow' perm_encTBar, trivial⟩)
    · refine AWR.skip ?_
      refine AWR.seq ?_
      refine AWR.seq ?_
      refine AWR.region ?_
      refine AOR.pure (LT.fieldPl rfl fo30_1) ⟨rfl, trivial⟩ trivial rfl rfl ?_
      refine AOR.pure (LT.bload1 (c := (.pv (.xs false (g.Bars.map encTBar)))) rfl ag28 (by exact rfl)) ⟨rfl, trivial⟩ ⟨rfl, trivial⟩ rfl rfl ?_
      refine AOR.pure (LT.tlenRO rfl und28) ⟨rfl, trivial⟩ trivial rfl rfl ?_
      refine AOR.pure (LT.move (v := (.s (.c (iC 0)))) rfl) ⟨⟨rfl, rfl⟩, trivial⟩ trivial rfl rfl ?_
      refine AOR.nil ?_
      refine AWR.block ?_
      refine AWR.ent (Ent.nilB 24 1 30 88 rfl rfl rfl rfl) ?_
      refine AWR.loop1 (id := 2) (m_impl_WithoutPoints_L2 g b19) (fun s30 => ([(4, (.s (.c (.pl 22 0)))), (5, (.s (.c (.loc 23 0 b19.1.length)))), (6, (.s (.c (.pl 24 0)))), (45, (.s (.c (.pv (.xs false (g.Bars.map encTBar)))))), (46, (.s (.c (iC (g.Bars.length : Int))))), (47, (.s (.c (iC s30.1))))], [(22, (.row 30 [[(iC 0), (sC nilV)]])), (23, (.prow 3 (b19.1.map encInt))), (24, (.row 30 [[(iC b19.2), (.loc 30 0 s30.2.length)]])), (30, (.prow 88 (s30.2.map encTBar)))])) (fun b55 => ([(4, (.s (.c (.pl 22 0)))), (6, (.s (.c (.pl 24 0))))], [(22, (.row 30 [[(iC 0), (sC nilV)]])), (24, (.row 30 [[(iC b55.1), (.loc 30 0 b55.2.length)]])), (30, (.prow 88 (b55.2.map encTBar)))])) ?_ (Ent.of ⟨rfl, rfl, rfl, rfl, rfl, rfl, trivial⟩ ⟨rfl, rfl, rfl, rfl, trivial⟩) rfl (fun b55 _ => ?_)
      · intro s30
        unfold m_impl_WithoutPoints_L2
        refine AWR.seq ?_
        refine AWR.region ?_
        refine AOR.pure (LT.lss rfl) ⟨rfl, rfl, trivial⟩ trivial rfl rfl ?_
        refine AOR.nil ?_
        refine AWR.seq ?_
        refine AWR.cond rfl (fun hc56 => ?_) (fun hc56 => ?_)
        · refine AWR.skip ?_
          refine AWR.seq ?_
          refine AWR.block ?_
          refine AWR.seq ?_
          refine AWR.region ?_
          refine AOR.bind fun x57 hx57 => ?_
          refine AOR.pure (LT.tindexRO (enc := encTBar) rfl el28 hx57 sz88) ⟨rfl, rfl, trivial⟩ trivial rfl rfl ?_
          refine AOR.pure (LT.loadPxN rfl ag88 (infS inf88) (by exact sz88.symm)) ⟨rfl, trivial⟩ trivial rfl rfl ?_
          refine AOR.step (LT.alloc (n := 27) (cells := [(iC 0), (iC 0)]) rfl ti88 rfl rfl rfl) trivial trivial rfl rfl ?_
          refine AOR.step (LT.bstore (v := (.agg [(iC x57.A), (iC x57.B)])) (out := [(iC x57.A), (iC x57.B)]) rfl rfl (infS inf88) sz88 (by exact rfl) (by exact Nat.le_of_ble_eq_true rfl) (by exact rfl)) ⟨rfl, rfl, trivial⟩ ⟨rfl, trivial⟩ rfl rfl ?_
          refine AOR.nil ?_
          refine AWR.seq ?_
          refine AWR.draw mixed ?_
          refine AOD.pure (LT.move (v := (.s (.c (.loc 23 0 b19.1.length)))) rfl) ⟨rfl, trivial⟩ trivial rfl rfl ?_
          refine AOD.pure (LT.fieldPl rfl fo88_0) ⟨rfl, trivial⟩ trivial rfl rfl ?_
          refine AOD.pure (LT.bload1 (c := (iC x57.A)) rfl ag3 (by exact rfl)) ⟨rfl, trivial⟩ ⟨rfl, trivial⟩ rfl rfl ?_
          refine AOD.bind fun x58 hx58 => ?_
          refine AOD.pure (LT.tindexLoc rfl rfl el40 hx58) ⟨rfl, rfl, trivial⟩ ⟨rfl, trivial⟩ rfl rfl ?_
          refine AOD.pure (LT.tload1 (k := 0) rfl ag3 hx58 (by exact rfl) (by exact rfl)) ⟨rfl, trivial⟩ ⟨rfl, trivial⟩ rfl rfl ?_
          refine AOD.pure (LT.move (v := (.s (.c (.loc 23 0 b19.1.length)))) rfl) ⟨rfl, trivial⟩ trivial rfl rfl ?_
          refine AOD.pure (LT.fieldPl rfl fo88_1) ⟨rfl, trivial⟩ trivial rfl rfl ?_
          refine AOD.pure (LT.bload1 (c := (iC x57.B)) rfl ag3 (by exact rfl)) ⟨rfl, trivial⟩ ⟨rfl, trivial⟩ rfl rfl ?_
          refine AOD.bind fun x59 hx59 => ?_
          refine AOD.pure (LT.tindexLoc rfl rfl el40 hx59) ⟨rfl, rfl, trivial⟩ ⟨rfl, trivial⟩ rfl rfl ?_
          refine AOD.pure (LT.tload1 (k := 0) rfl ag3 hx59 (by exact rfl) (by exact rfl)) ⟨rfl, trivial⟩ ⟨rfl, trivial⟩ rfl rfl ?_
          refine AOD.pure (LT.assign (v := (.s (.c (iC x58)))) rfl) ⟨rfl, trivial⟩ trivial rfl rfl ?_
          refine AOD.pure (LT.assign (v := (.s (.c (iC x59)))) rfl) ⟨rfl, trivial⟩ trivial rfl rfl ?_
          refine AOD.nil (by kernel_rfl) ?_
          refine AWR.seq ?_
          refine AWR.joinK (fun j61 => ([(4, (.s (.c (.pl 22 0)))), (5, (.s (.c (.loc 23 0 b19.1.length)))), (6, (.s (.c (.pl 24 0)))), (10, (.s (.c (iC x58)))), (11, (.s (.c (iC x59)))), (45, (.s (.c (.pv (.xs false (g.Bars.map encTBar)))))), (46, (.s (.c (iC (g.Bars.length : Int))))), (47, (.s (.c (iC s30.1)))), (66, (.s (.c (bC j61))))], [(22, (.row 30 [[(iC 0), (sC nilV)]])), (23, (.prow 3 (b19.1.map encInt))), (24, (.row 30 [[(iC b19.2), (.loc 30 0 s30.2.length)]])), (30, (.prow 88 (s30.2.map encTBar)))])) ?_ (fun j61 _ => ?_)
          · refine AWR.ent (Ent.of (σ' := [(4, (.s (.c (.pl 22 0)))), (5, (.s (.c (.loc 23 0 b19.1.length)))), (6, (.s (.c (.pl 24 0)))), (10, (.s (.c (iC x58)))), (11, (.s (.c (iC x59)))), (45, (.s (.c (.pv (.xs false (g.Bars.map encTBar)))))), (46, (.s (.c (iC (g.Bars.length : Int))))), (47, (.s (.c (iC s30.1))))]) (m' := [(22, (.row 30 [[(iC 0), (sC nilV)]])), (23, (.prow 3 (b19.1.map encInt))), (24, (.row 30 [[(iC b19.2), (.loc 30 0 s30.2.length)]])), (30, (.prow 88 (s30.2.map encTBar)))]) ⟨rfl, rfl, rfl, rfl, rfl, rfl, rfl, rfl, trivial⟩ ⟨rfl, rfl, rfl, rfl, trivial⟩) ?_
            refine AWR.region ?_
            refine AOR.pure (LT.move (v := (.s (.c (iC x58)))) rfl) ⟨rfl, trivial⟩ trivial rfl rfl ?_
            refine AOR.pure (LT.geq rfl) ⟨rfl, ⟨rfl, rfl⟩, trivial⟩ trivial rfl rfl ?_
            refine AOR.pure (LT.move (v := (.s (.c (bC (decide (0 ≤ x58)))))) rfl) ⟨rfl, trivial⟩ trivial rfl rfl ?_
            refine AOR.split (fun hb62 => ?_) (fun hb62 => ?_)
            · refine AOR.pure (LT.move (v := (.s (.c (iC x59)))) rfl) ⟨rfl, trivial⟩ trivial ⟨_, rfl, .inl ⟨_, rfl, (by rw [hb62]; rfl)⟩⟩ rfl ?_
              refine AOR.pure (LT.geq rfl) ⟨rfl, ⟨rfl, rfl⟩, trivial⟩ trivial ⟨_, rfl, .inl ⟨_, rfl, (by rw [hb62]; rfl)⟩⟩ rfl ?_
              refine AOR.pure (LT.pickT (v := (.s (.c (bC (decide (0 ≤ x59)))))) rfl hb62) ⟨rfl, rfl, trivial⟩ trivial rfl rfl ?_
              refine AOR.nil ?_
              refine AWR.nil ⟨rfl, Ent.of ⟨rfl, rfl, rfl, rfl, rfl, rfl, rfl, rfl, rfl, trivial⟩ ⟨rfl, rfl, rfl, rfl, trivial⟩⟩
            · refine AOR.skip ⟨_, rfl, .inl ⟨_, rfl, (by rw [hb62]; rfl)⟩⟩ rfl ?_
              refine AOR.skip ⟨_, rfl, .inl ⟨_, rfl, (by rw [hb62]; rfl)⟩⟩ rfl ?_
              refine AOR.pure (LT.pickF (v := (.s (.c (bC false)))) rfl hb62) ⟨rfl, ⟨rfl, rfl⟩, trivial⟩ trivial rfl rfl ?_
              refine AOR.nil ?_
              refine AWR.nil ⟨rfl, Ent.of ⟨rfl, rfl, rfl, rfl, rfl, rfl, rfl, rfl, rfl, trivial⟩ ⟨rfl, rfl, rfl, rfl, trivial⟩⟩
          · refine AWR.joinK (fun j65 => ([(4, (.s (.c (.pl 22 0)))), (5, (.s (.c (.loc 23 0 b19.1.length)))), (6, (.s (.c (.pl 24 0)))), (45, (.s (.c (.pv (.xs false (g.Bars.map encTBar)))))), (46, (.s (.c (iC (g.Bars.length : Int))))), (47, (.s (.c (iC s30.1))))], [(22, (.row 30 [[(iC 0), (sC nilV)]])), (23, (.prow 3 (b19.1.map encInt))), (24, (.row 30 [[(iC b19.2), (.loc 30 0 j65.length)]])), (30, (.prow 88 (j65.map encTBar)))])) ?_ (fun j65 _ => ?_)
            · refine AWR.cond rfl (fun hc66 => ?_) (fun hc66 => ?_)
              · refine AWR.region ?_
                refine AOR.pure (LT.fieldPl rfl fo30_1) ⟨rfl, trivial⟩ trivial rfl rfl ?_
                refine AOR.pure (LT.bload1 (c := (.loc 30 0 s30.2.length)) rfl ag28 (by exact rfl)) ⟨rfl, trivial⟩ ⟨rfl, trivial⟩ rfl rfl ?_
                refine AOR.pure (LT.move (v := (.s (.c (iC x58)))) rfl) ⟨rfl, trivial⟩ trivial rfl rfl ?_
                refine AOR.pure (LT.move (v := (.s (.c (iC x59)))) rfl) ⟨rfl, trivial⟩ trivial rfl rfl ?_
                refine AOR.pure (LT.build [(0, .tmp 69, (.c (iC x58))), (1, .tmp 70, (.c (iC x59)))] rfl rfl pl88 ti88 rfl rfl rfl) ⟨rfl, rfl, trivial⟩ trivial rfl rfl ?_
                refine AOR.step (LT.tbuildSlice (n := 28) (enc := encTBar) [(0, .tmp 71, (.agg [(iC x58), (iC x59)]))] [(TBar.mk x58 x59)] rfl rfl und28 ti88 rfl rfl rfl rfl (by decide) (fun _ => rfl) rfl) ⟨rfl, trivial⟩ trivial rfl rfl ?_
                refine AOR.bind fun u67 hu67 => ?_
                refine AOR.step (LT.tappP (enc := encTBar) rfl rfl rfl und28 ti88 rfl (by decide) (by decide) (fun _ => rfl) (lim_le hu67)) ⟨rfl, rfl, trivial⟩ ⟨rfl, rfl, trivial⟩ rfl rfl ?_
                refine AOR.pure (LT.fieldPl rfl fo30_1) ⟨rfl, trivial⟩ trivial rfl rfl ?_
                refine AOR.step (LT.bstore (v := (.c (.loc 30 0 (s30.2 ++ [(TBar.mk x58 x59)]).length))) (out := [(iC b19.2), (.loc 30 0 (s30.2 ++ [(TBar.mk x58 x59)]).length)]) rfl rfl (infS inf28) sz28 (by exact rfl) (by exact Nat.le_of_ble_eq_true rfl) (by exact rfl)) ⟨rfl, rfl, trivial⟩ ⟨rfl, trivial⟩ rfl rfl ?_
                refine AOR.nil ?_
                refine AWR.nil ⟨rfl, Ent.of ⟨rfl, rfl, rfl, rfl, rfl, rfl, trivial⟩ ⟨rfl, rfl, rfl, rfl, trivial⟩⟩
              · refine AWR.skip ?_
                refine AWR.nil ⟨rfl, Ent.of ⟨rfl, rfl, rfl, rfl, rfl, rfl, trivial⟩ ⟨rfl, rfl, rfl, rfl, trivial⟩⟩
            · refine AWR.blk ?_
              refine AWR.region ?_
              refine AOR.pure (LT.add rfl) ⟨rfl, ⟨rfl, rfl⟩, trivial⟩ trivial rfl rfl ?_
              refine AOR.pure (LT.move (v := (.s (.c (iC (w64 (s30.1 + 1)))))) rfl) ⟨rfl, trivial⟩ trivial rfl rfl ?_
              refine AOR.nil ?_
              refine AWR.nil ⟨rfl, Ent.of ⟨rfl, rfl, rfl, rfl, rfl, rfl, trivial⟩ ⟨rfl, rfl, rfl, rfl, trivial⟩⟩
        · refine AWR.exit_end rfl ⟨rfl, Ent.of ⟨rfl, rfl, trivial⟩ ⟨rfl, rfl, rfl, trivial⟩⟩
      · refine AWR.seq ?_
        refine AWR.region ?_
        refine AOR.pure (LT.bloadN (out := [(iC b55.1), (.loc 30 0 b55.2.length)]) rfl ag30 (infS inf30) sz30 (by exact rfl) (by exact rfl)) ⟨rfl, trivial⟩ ⟨rfl, trivial⟩ rfl rfl ?_
        refine AOR.step (LT.bstore (v := (.agg [(iC b55.1), (.loc 30 0 b55.2.length)])) (out := [(iC b55.1), (.loc 30 0 b55.2.length)]) rfl rfl (infS inf30) sz30 (by exact rfl) (by exact Nat.le_of_ble_eq_true rfl) (by exact rfl)) ⟨rfl, rfl, trivial⟩ ⟨rfl, trivial⟩ rfl rfl ?_
        refine AOR.nil ?_
        refine AWR.ent (Ent.of (σ' := [(4, (.s (.c (.pl 22 0))))]) (m' := [(22, (.row 30 [[(iC b55.1), (.loc 30 0 b55.2.length)]])), (30, (.prow 88 (b55.2.map encTBar)))]) ⟨rfl, trivial⟩ ⟨rfl, rfl, trivial⟩) ?_
        refine AWR.ent (Ent.mv 30 0 rfl rfl) ?_
        refine AWR.ent (Ent.of (σ' := [(4, (.s (.c (.pl 22 0))))]) (m' := [(0, (.prow 88 (b55.2.map encTBar))), (22, (.row 30 [[(iC b55.1), (.loc 0 0 b55.2.length)]]))]) ⟨rfl, trivial⟩ ⟨rfl, rfl, trivial⟩) ?_
        refine AWR.ret (FPost.mk (.inr rfl) ⟨⟨_, _, _, rfl, rfl, rfl, ag30, sz30, _, (infS inf30)⟩, trivial⟩ ⟨rfl, trivial⟩ rfl ⟨⟨PermP.sc, trivial, trivial⟩, trivial⟩ ⟨PermO.prow' perm_encTBar, trivial⟩)
end Go.Proofs.Ytihibpkbhjpajaa
