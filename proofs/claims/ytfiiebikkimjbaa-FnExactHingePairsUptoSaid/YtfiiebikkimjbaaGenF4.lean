/- The code computes the models. Written by a program of mine. -/
import Derived.Test.YtfiiebikkimjbaaGenF0
import Derived.Test.YtfiiebikkimjbaaGenF1
import Derived.Test.YtfiiebikkimjbaaGenF2
import Derived.Test.YtfiiebikkimjbaaGenF3
set_option linter.unusedVariables false
set_option linter.unusedSimpArgs false
set_option linter.unnecessarySimpa false
open Go Go.Fw
namespace Go.Proofs.Ytfiiebikkimjbaa
set_option maxRecDepth 100000 in
set_option maxHeartbeats 8000000 in
theorem w_spec_l3Set (n : Int) (mask : Int) : ∀ t, m_spec_l3Set n mask = some t → Fw.Fn Try.prog 96 [(.c (iC n)), (.c (iC mask))] [] (.s (.c (.loc 0 0 t.length))) [(0, (.prow 3 (t.map encInt)))] [] [0] := by
  refine Fw.Fn.of (P := Try.prog) (X := [0]) (pn := []) (rs := (fun (t : (List Int)) => [(.c (.loc 0 0 t.length))])) (dfs := (fun (t : (List Int)) => [(0, (.prow 3 (t.map encInt)))])) Try.func96 rfl Try.ntmps96 (Nat.le_of_ble_eq_true rfl) rfl ?_
  intro w0 U0 R0 g0
  unfold m_spec_l3Set
  refine AWR.seq ?_
  refine AWR.region ?_
  refine AOR.pure (LT.assign (v := (.s (.c (sC nilV)))) rfl) ⟨⟨rfl, rfl⟩, trivial⟩ trivial rfl rfl ?_
  refine AOR.nil ?_
  refine AWR.seq ?_
  refine AWR.region ?_
  refine AOR.step (LT.tbuildSlice (n := 21) (enc := encInt) [] ([] : List Int) rfl rfl und54 ti3 rfl rfl rfl rfl (by decide) (fun _ => rfl) rfl) trivial trivial rfl rfl ?_
  refine AOR.pure (LT.assign (v := (.s (.c (.loc 21 0 ([] : List Int).length)))) rfl) ⟨rfl, trivial⟩ trivial rfl rfl ?_
  refine AOR.nil ?_
  refine AWR.seq ?_
  refine AWR.seq ?_
  refine AWR.region ?_
  refine AOR.pure (LT.assign (v := (.s (.c (iC 0)))) rfl) ⟨⟨rfl, rfl⟩, trivial⟩ trivial rfl rfl ?_
  refine AOR.nil ?_
  refine AWR.block ?_
  refine AWR.loop1 (id := 0) (m_spec_l3Set_L1 n mask) (fun s1 => ([(0, (.s (.c (iC n)))), (1, (.s (.c (iC mask)))), (5, (.s (.c (.loc 21 0 s1.2.length)))), (6, (.s (.c (iC s1.1))))], [(21, (.prow 3 (s1.2.map encInt)))])) (fun b15 => ([(5, (.s (.c (.loc 21 0 b15.length))))], [(21, (.prow 3 (b15.map encInt)))])) ?_ (Ent.of ⟨rfl, rfl, rfl, rfl, trivial⟩ ⟨rfl, trivial⟩) rfl (fun b15 _ => ?_)
  · intro s1
    unfold m_spec_l3Set_L1
    refine AWR.seq ?_
    refine AWR.seq ?_
    refine AWR.region ?_
    refine AOR.pure (LT.move (v := (.s (.c (iC s1.1)))) rfl) ⟨rfl, trivial⟩ trivial rfl rfl ?_
    refine AOR.pure (LT.move (v := (.s (.c (iC n)))) rfl) ⟨rfl, trivial⟩ trivial rfl rfl ?_
    refine AOR.pure (LT.lss rfl) ⟨rfl, rfl, trivial⟩ trivial rfl rfl ?_
    refine AOR.nil ?_
    refine AWR.cond rfl (fun hc16 => ?_) (fun hc16 => ?_)
    · refine AWR.skip ?_
      refine AWR.seq ?_
      refine AWR.block ?_
      refine AWR.seq ?_
      refine AWR.region ?_
      refine AOR.pure (LT.move (v := (.s (.c (iC mask)))) rfl) ⟨rfl, trivial⟩ trivial rfl rfl ?_
      refine AOR.pure (LT.move (v := (.s (.c (iC s1.1)))) rfl) ⟨rfl, trivial⟩ trivial rfl rfl ?_
      refine AOR.bind fun u17 hu17 => ?_
      refine AOR.pure (LT.shr rfl (nn_le hu17)) ⟨rfl, rfl, trivial⟩ trivial rfl rfl ?_
      refine AOR.pure (LT.and rfl) ⟨rfl, ⟨rfl, rfl⟩, trivial⟩ trivial rfl rfl ?_
      refine AOR.pure (LT.eql rfl) ⟨rfl, ⟨rfl, rfl⟩, trivial⟩ trivial rfl rfl ?_
      refine AOR.nil ?_
      refine AWR.joinK (fun j20 => ([(0, (.s (.c (iC n)))), (1, (.s (.c (iC mask)))), (5, (.s (.c (.loc 21 0 j20.length)))), (6, (.s (.c (iC s1.1))))], [(21, (.prow 3 (j20.map encInt)))])) ?_ (fun j20 _ => ?_)
      · refine AWR.cond rfl (fun hc21 => ?_) (fun hc21 => ?_)
        · refine AWR.region ?_
          refine AOR.pure (LT.move (v := (.s (.c (.loc 21 0 s1.2.length)))) rfl) ⟨rfl, trivial⟩ trivial rfl rfl ?_
          refine AOR.pure (LT.move (v := (.s (.c (iC s1.1)))) rfl) ⟨rfl, trivial⟩ trivial rfl rfl ?_
          refine AOR.step (LT.tbuildSlice (n := 22) (enc := encInt) [(0, .tmp 19, (.c (iC s1.1)))] ([s1.1] : List Int) rfl rfl und54 ti3 rfl rfl rfl rfl (by decide) (fun _ => rfl) rfl) ⟨rfl, trivial⟩ trivial rfl rfl ?_
          refine AOR.bind fun u22 hu22 => ?_
          refine AOR.step (LT.tappP (enc := encInt) rfl rfl rfl und54 ti3 rfl (by decide) (by decide) (fun _ => rfl) (lim_le hu22)) ⟨rfl, rfl, trivial⟩ ⟨rfl, rfl, trivial⟩ rfl rfl ?_
          refine AOR.pure (LT.assign (v := (.s (.c (.loc 21 0 (s1.2 ++ ([s1.1] : List Int)).length)))) rfl) ⟨rfl, trivial⟩ trivial rfl rfl ?_
          refine AOR.nil ?_
          refine AWR.nil ⟨rfl, Ent.of ⟨rfl, rfl, rfl, rfl, trivial⟩ ⟨rfl, trivial⟩⟩
        · refine AWR.skip ?_
          refine AWR.nil ⟨rfl, Ent.of ⟨rfl, rfl, rfl, rfl, trivial⟩ ⟨rfl, trivial⟩⟩
      · refine AWR.blk ?_
        refine AWR.region ?_
        refine AOR.pure (LT.move (v := (.s (.c (iC s1.1)))) rfl) ⟨rfl, trivial⟩ trivial rfl rfl ?_
        refine AOR.pure (LT.add rfl) ⟨rfl, ⟨rfl, rfl⟩, trivial⟩ trivial rfl rfl ?_
        refine AOR.pure (LT.assign (v := (.s (.c (iC (w64 (s1.1 + 1)))))) rfl) ⟨rfl, trivial⟩ trivial rfl rfl ?_
        refine AOR.nil ?_
        refine AWR.nil ⟨rfl, Ent.of ⟨rfl, rfl, rfl, rfl, trivial⟩ ⟨rfl, trivial⟩⟩
    · refine AWR.exit_end rfl ⟨rfl, Ent.of ⟨rfl, trivial⟩ ⟨rfl, trivial⟩⟩
  · refine AWR.seq ?_
    refine AWR.region ?_
    refine AOR.pure (LT.move (v := (.s (.c (.loc 21 0 b15.length)))) rfl) ⟨rfl, trivial⟩ trivial rfl rfl ?_
    refine AOR.pure (LT.assign (v := (.s (.c (.loc 21 0 b15.length)))) rfl) ⟨rfl, trivial⟩ trivial rfl rfl ?_
    refine AOR.nil ?_
    refine AWR.ent (Ent.of (σ' := [(4, (.s (.c (.loc 21 0 b15.length))))]) (m' := [(21, (.prow 3 (b15.map encInt)))]) ⟨rfl, trivial⟩ ⟨rfl, trivial⟩) ?_
    refine AWR.ent (Ent.mv 21 0 rfl rfl) ?_
    refine AWR.ent (Ent.of (σ' := [(4, (.s (.c (.loc 0 0 b15.length))))]) (m' := [(0, (.prow 3 (b15.map encInt)))]) ⟨rfl, trivial⟩ ⟨rfl, trivial⟩) ?_
    refine AWR.ret (FPost.mk (.inr rfl) ⟨rfl, trivial⟩ ⟨rfl, trivial⟩ rfl ⟨trivial, trivial⟩ ⟨PermO.prow' perm_encInt, trivial⟩)
set_option maxRecDepth 100000 in
set_option maxHeartbeats 8000000 in
theorem w_spec_WithoutPoints (g : TGraph) (setV : (List Int)) : ∀ t, m_spec_WithoutPoints g setV = some t → Fw.Fn Try.prog 98 [(.agg [(iC g.Points), (.pv (.xs false (g.Bars.map encTBar)))]), (.c (.pv (.xs false (setV.map encInt))))] [] (.s (.agg [(iC t.Points), (.loc 0 0 t.Bars.length)])) [(0, (.prow 88 (t.Bars.map encTBar)))] [] [0] := by
  refine Fw.Fn.of (P := Try.prog) (X := [0]) (pn := []) (rs := (fun (t : TGraph) => [(.agg [(iC t.Points), (.loc 0 0 t.Bars.length)])])) (dfs := (fun (t : TGraph) => [(0, (.prow 88 (t.Bars.map encTBar)))])) Try.func98 rfl Try.ntmps98 (Nat.le_of_ble_eq_true rfl) rfl ?_
  intro w0 U0 R0 g0
  unfold m_spec_WithoutPoints
  refine AWR.seq ?_
  refine AWR.region ?_
  refine AOR.step (LT.box (n := 21) (v := (.agg [(iC g.Points), (.pv (.xs false (g.Bars.map encTBar)))])) rfl sz30 (by exact rfl)) ⟨rfl, trivial⟩ trivial rfl rfl ?_
  refine AOR.step (LT.alloc (n := 22) (cells := [(iC 0), (sC nilV)]) rfl ti30 rfl rfl rfl) trivial trivial rfl rfl ?_
  refine AOR.nil ?_
  refine AWR.seq ?_
  refine AWR.region ?_
  refine AOR.pure (LT.fieldPl rfl fo30_0) ⟨rfl, trivial⟩ trivial rfl rfl ?_
  refine AOR.pure (LT.bload1 (c := (iC g.Points)) rfl ag3 (by exact rfl)) ⟨rfl, trivial⟩ ⟨rfl, trivial⟩ rfl rfl ?_
  refine AOR.pure (LT.min rfl) ⟨⟨rfl, rfl⟩, rfl, trivial⟩ trivial rfl rfl ?_
  refine AOR.pure (LT.max rfl) ⟨⟨rfl, rfl⟩, rfl, trivial⟩ trivial rfl rfl ?_
  refine AOR.bind fun u1 hu1 => ?_
  refine AOR.step (LT.tmake (n := 23) (enc := encInt) (zc := [(iC 0)]) (0 : Int) rfl und54 ti3 rfl rfl rfl (by decide) (by decide) (lenOk_le hu1) rfl) ⟨rfl, rfl, trivial⟩ trivial rfl rfl ?_
  refine AOR.pure (LT.assign (v := (.s (.c (.loc 23 0 (List.replicate (if 0 < (if g.Points < 8 then g.Points else 8) then (if g.Points < 8 then g.Points else 8) else 0).toNat (0 : Int)).length)))) rfl) ⟨rfl, trivial⟩ trivial rfl rfl ?_
  refine AOR.nil ?_
  refine AWR.seq ?_
  refine AWR.ent (Ent.of (σ' := [(1, (.s (.c (.pv (.xs false (setV.map encInt)))))), (2, (.s (.c (.pl 21 0)))), (4, (.s (.c (.pl 22 0)))), (5, (.s (.c (.loc 23 0 (List.replicate (if 0 < (if g.Points < 8 then g.Points else 8) then (if g.Points < 8 then g.Points else 8) else 0).toNat (0 : Int)).length))))]) (m' := [(21, (.row 30 [[(iC g.Points), (.pv (.xs false (g.Bars.map encTBar)))]])), (22, (.row 30 [[(iC 0), (sC nilV)]])), (23, (.prow 3 ((List.replicate (if 0 < (if g.Points < 8 then g.Points else 8) then (if g.Points < 8 then g.Points else 8) else 0).toNat (0 : Int)).map encInt)))]) ⟨rfl, rfl, rfl, rfl, trivial⟩ ⟨rfl, rfl, rfl, trivial⟩) ?_
  refine AWR.region ?_
  refine AOR.pure (LT.assign (v := (.s (.c (iC 0)))) rfl) ⟨⟨rfl, rfl⟩, trivial⟩ trivial rfl rfl ?_
  refine AOR.nil ?_
  refine AWR.seq ?_
  refine AWR.seq ?_
  refine AWR.region ?_
  refine AOR.pure (LT.assign (v := (.s (.c (iC 0)))) rfl) ⟨⟨rfl, rfl⟩, trivial⟩ trivial rfl rfl ?_
  refine AOR.nil ?_
  refine AWR.block ?_
  refine AWR.loop1 (id := 0) (m_spec_WithoutPoints_L1 setV) (fun s2 => ([(1, (.s (.c (.pv (.xs false (setV.map encInt)))))), (2, (.s (.c (.pl 21 0)))), (4, (.s (.c (.pl 22 0)))), (5, (.s (.c (.loc 23 0 s2.2.2.length)))), (6, (.s (.c (iC s2.1)))), (7, (.s (.c (iC s2.2.1))))], [(21, (.row 30 [[(iC g.Points), (.pv (.xs false (g.Bars.map encTBar)))]])), (22, (.row 30 [[(iC 0), (sC nilV)]])), (23, (.prow 3 (s2.2.2.map encInt)))])) (fun b19 => ([(2, (.s (.c (.pl 21 0)))), (4, (.s (.c (.pl 22 0)))), (5, (.s (.c (.loc 23 0 b19.2.length)))), (6, (.s (.c (iC b19.1))))], [(21, (.row 30 [[(iC g.Points), (.pv (.xs false (g.Bars.map encTBar)))]])), (22, (.row 30 [[(iC 0), (sC nilV)]])), (23, (.prow 3 (b19.2.map encInt)))])) ?_ (Ent.of ⟨rfl, rfl, rfl, rfl, rfl, rfl, trivial⟩ ⟨rfl, rfl, rfl, trivial⟩) rfl (fun b19 _ => ?_)
  · intro s2
    unfold m_spec_WithoutPoints_L1
    refine AWR.seq ?_
    refine AWR.seq ?_
    refine AWR.region ?_
    refine AOR.pure (LT.move (v := (.s (.c (iC s2.2.1)))) rfl) ⟨rfl, trivial⟩ trivial rfl rfl ?_
    refine AOR.pure (LT.move (v := (.s (.c (.loc 23 0 s2.2.2.length)))) rfl) ⟨rfl, trivial⟩ trivial rfl rfl ?_
    refine AOR.pure (LT.lenLoc rfl und54) ⟨rfl, trivial⟩ trivial rfl rfl ?_
    refine AOR.pure (LT.lss rfl) ⟨rfl, rfl, trivial⟩ trivial rfl rfl ?_
    refine AOR.nil ?_
    refine AWR.cond rfl (fun hc20 => ?_) (fun hc20 => ?_)
    · refine AWR.skip ?_
      refine AWR.seq ?_
      refine AWR.block ?_
      refine AWR.seq ?_
      refine AWR.region ?_
      refine AOR.pure (LT.move (v := (.s (.c (.loc 23 0 s2.2.2.length)))) rfl) ⟨rfl, trivial⟩ trivial rfl rfl ?_
      refine AOR.pure (LT.move (v := (.s (.c (iC s2.2.1)))) rfl) ⟨rfl, trivial⟩ trivial rfl rfl ?_
      refine AOR.bind fun x21 hx21 => ?_
      refine AOR.pure (LT.tindexLoc rfl rfl el54 hx21) ⟨rfl, rfl, trivial⟩ ⟨rfl, trivial⟩ rfl rfl ?_
      refine AOR.step (LT.tstore (k := 0) (v := (.c (iC (-1)))) (b' := (-1)) rfl rfl (infS inf3) sz3 (by exact rfl) hx21 (by exact rfl) (by exact Nat.le_of_ble_eq_true rfl) (by exact rfl)) ⟨rfl, ⟨rfl, rfl⟩, trivial⟩ ⟨rfl, trivial⟩ rfl rfl ?_
      refine AOR.nil ?_
      refine AWR.seq ?_
      refine AWR.region ?_
      refine AOR.pure (LT.move (v := (.s (.c (.pv (.xs false (setV.map encInt)))))) rfl) ⟨rfl, trivial⟩ trivial rfl rfl ?_
      refine AOR.pure (LT.move (v := (.s (.c (iC s2.2.1)))) rfl) ⟨rfl, trivial⟩ trivial rfl rfl ?_
      refine AOR.bind fun r22 hr22 => ?_
      refine AOR.pure (@LT.callF Try.prog _ _ 169 _ _ [(.c (.pv (.xs false (setV.map encInt)))), (.c (iC s2.2.1))] _ _ [] _ _ _ _ (w_spec_l2Has setV s2.2.1 r22 hr22) rfl cb169 (.cons (.c (.same rfl)) (.cons (.c (.same rfl)) .nil)) rfl rfl trivial) ⟨rfl, rfl, rfl, trivial⟩ trivial rfl rfl ?_
      refine AOR.pure (LT.not rfl) ⟨rfl, trivial⟩ trivial rfl rfl ?_
      refine AOR.nil ?_
      refine AWR.joinK (fun j25 => ([(1, (.s (.c (.pv (.xs false (setV.map encInt)))))), (2, (.s (.c (.pl 21 0)))), (4, (.s (.c (.pl 22 0)))), (5, (.s (.c (.loc 23 0 j25.2.length)))), (6, (.s (.c (iC j25.1)))), (7, (.s (.c (iC s2.2.1))))], [(21, (.row 30 [[(iC g.Points), (.pv (.xs false (g.Bars.map encTBar)))]])), (22, (.row 30 [[(iC 0), (sC nilV)]])), (23, (.prow 3 (j25.2.map encInt)))])) ?_ (fun j25 _ => ?_)
      · refine AWR.cond rfl (fun hc26 => ?_) (fun hc26 => ?_)
        · refine AWR.seq ?_
          refine AWR.ent (Ent.of (σ' := [(1, (.s (.c (.pv (.xs false (setV.map encInt)))))), (2, (.s (.c (.pl 21 0)))), (4, (.s (.c (.pl 22 0)))), (5, (.s (.c (.loc 23 0 s2.2.2.length)))), (6, (.s (.c (iC s2.1)))), (7, (.s (.c (iC s2.2.1))))]) (m' := [(21, (.row 30 [[(iC g.Points), (.pv (.xs false (g.Bars.map encTBar)))]])), (22, (.row 30 [[(iC 0), (sC nilV)]])), (23, (.prow 3 ((s2.2.2.set s2.2.1.toNat (-1)).map encInt)))]) ⟨rfl, rfl, rfl, rfl, rfl, rfl, trivial⟩ ⟨rfl, rfl, rfl, trivial⟩) ?_
          refine AWR.region ?_
          refine AOR.pure (LT.move (v := (.s (.c (.loc 23 0 s2.2.2.length)))) rfl) ⟨rfl, trivial⟩ trivial rfl rfl ?_
          refine AOR.pure (LT.move (v := (.s (.c (iC s2.2.1)))) rfl) ⟨rfl, trivial⟩ trivial rfl rfl ?_
          refine AOR.pure (LT.move (v := (.s (.c (iC s2.1)))) rfl) ⟨rfl, trivial⟩ trivial rfl rfl ?_
          refine AOR.bind fun x27 hx27 => ?_
          refine AOR.pure (LT.tindexLoc (show s2.2.2.length = (s2.2.2.set s2.2.1.toNat (-1)).length by simp only [List.length_set]) rfl el54 hx27) ⟨rfl, rfl, trivial⟩ ⟨rfl, trivial⟩ rfl rfl ?_
          refine AOR.step (LT.tstore (k := 0) (v := (.c (iC s2.1))) (b' := s2.1) rfl rfl (infS inf3) sz3 (by exact rfl) hx27 (by exact rfl) (by exact Nat.le_of_ble_eq_true rfl) (by exact rfl)) ⟨rfl, rfl, trivial⟩ ⟨rfl, trivial⟩ rfl rfl ?_
          refine AOR.nil ?_
          refine AWR.region ?_
          refine AOR.pure (LT.move (v := (.s (.c (iC s2.1)))) rfl) ⟨rfl, trivial⟩ trivial rfl rfl ?_
          refine AOR.pure (LT.add rfl) ⟨rfl, ⟨rfl, rfl⟩, trivial⟩ trivial rfl rfl ?_
          refine AOR.pure (LT.assign (v := (.s (.c (iC (w64 (s2.1 + 1)))))) rfl) ⟨rfl, trivial⟩ trivial rfl rfl ?_
          refine AOR.nil ?_
          refine AWR.nil ⟨rfl, Ent.of ⟨rfl, rfl, rfl, (congrArg (fun l1 => (some (AV.s (.c (.loc 23 0 l1))) : Option AV)) (show s2.2.2.length = ((s2.2.2.set s2.2.1.toNat (-1)).set s2.2.1.toNat s2.1).length by simp only [List.length_set])), rfl, rfl, trivial⟩ ⟨rfl, rfl, rfl, trivial⟩⟩
        · refine AWR.skip ?_
          refine AWR.nil ⟨rfl, Ent.of ⟨rfl, rfl, rfl, (congrArg (fun l1 => (some (AV.s (.c (.loc 23 0 l1))) : Option AV)) (show s2.2.2.length = (s2.2.2.set s2.2.1.toNat (-1)).length by simp only [List.length_set])), rfl, rfl, trivial⟩ ⟨rfl, rfl, rfl, trivial⟩⟩
      · refine AWR.blk ?_
        refine AWR.region ?_
        refine AOR.pure (LT.move (v := (.s (.c (iC s2.2.1)))) rfl) ⟨rfl, trivial⟩ trivial rfl rfl ?_
        refine AOR.pure (LT.add rfl) ⟨rfl, ⟨rfl, rfl⟩, trivial⟩ trivial rfl rfl ?_
        refine AOR.pure (LT.assign (v := (.s (.c (iC (w64 (s2.2.1 + 1)))))) rfl) ⟨rfl, trivial⟩ trivial rfl rfl ?_
        refine AOR.nil ?_
        refine AWR.nil ⟨rfl, Ent.of ⟨rfl, rfl, rfl, rfl, rfl, rfl, trivial⟩ ⟨rfl, rfl, rfl, trivial⟩⟩
    · refine AWR.exit_end rfl ⟨rfl, Ent.of ⟨rfl, rfl, rfl, rfl, trivial⟩ ⟨rfl, rfl, rfl, trivial⟩⟩
  · refine AWR.seq ?_
    refine AWR.region ?_
    refine AOR.pure (LT.move (v := (.s (.c (iC b19.1)))) rfl) ⟨rfl, trivial⟩ trivial rfl rfl ?_
    refine AOR.step (LT.tbuildSlice (n := 25) (enc := encTBar) [] ([] : List TBar) rfl rfl und28 ti88 rfl rfl rfl rfl (by decide) (fun _ => rfl) rfl) trivial trivial rfl rfl ?_
    refine AOR.pure (LT.build [(0, .tmp 36, (.c (iC b19.1))), (1, .tmp 37, (.c (.loc 25 0 ([] : List TBar).length)))] rfl rfl pl30 ti30 rfl rfl rfl) ⟨rfl, rfl, trivial⟩ trivial rfl rfl ?_
    refine AOR.step (LT.alloc (n := 26) (cells := [(iC 0), (sC nilV)]) rfl ti30 rfl rfl rfl) trivial trivial rfl rfl ?_
    refine AOR.step (LT.bstore (v := (.agg [(iC b19.1), (.loc 25 0 ([] : List TBar).length)])) (out := [(iC b19.1), (.loc 25 0 ([] : List TBar).length)]) rfl rfl (infS inf30) sz30 (by exact rfl) (by exact Nat.le_of_ble_eq_true rfl) (by exact rfl)) ⟨rfl, rfl, trivial⟩ ⟨rfl, trivial⟩ rfl rfl ?_
    refine AOR.nil ?_
    refine AWR.seq ?_
    refine AWR.seq ?_
    refine AWR.ent (Ent.of (σ' := [(2, (.s (.c (.pl 21 0)))), (4, (.s (.c (.pl 22 0)))), (5, (.s (.c (.loc 23 0 b19.2.length)))), (8, (.s (.c (.pl 26 0))))]) (m' := [(21, (.row 30 [[(iC g.Points), (.pv (.xs false (g.Bars.map encTBar)))]])), (22, (.row 30 [[(iC 0), (sC nilV)]])), (23, (.prow 3 (b19.2.map encInt))), (25, (.prow 88 (([] : List TBar).map encTBar))), (26, (.row 30 [[(iC b19.1), (.loc 25 0 ([] : List TBar).length)]]))]) ⟨rfl, rfl, rfl, rfl, trivial⟩ ⟨rfl, rfl, rfl, rfl, rfl, trivial⟩) ?_
    refine AWR.region ?_
    refine AOR.pure (LT.assign (v := (.s (.c (iC 0)))) rfl) ⟨⟨rfl, rfl⟩, trivial⟩ trivial rfl rfl ?_
    refine AOR.nil ?_
    refine AWR.block ?_
    refine AWR.loop1 (id := 2) (m_spec_WithoutPoints_L2 g b19) (fun s28 => ([(2, (.s (.c (.pl 21 0)))), (4, (.s (.c (.pl 22 0)))), (5, (.s (.c (.loc 23 0 b19.2.length)))), (8, (.s (.c (.pl 26 0)))), (9, (.s (.c (iC s28.1))))], [(21, (.row 30 [[(iC g.Points), (.pv (.xs false (g.Bars.map encTBar)))]])), (22, (.row 30 [[(iC 0), (sC nilV)]])), (23, (.prow 3 (b19.2.map encInt))), (25, (.prow 88 (s28.2.map encTBar))), (26, (.row 30 [[(iC b19.1), (.loc 25 0 s28.2.length)]]))])) (fun b65 => ([(4, (.s (.c (.pl 22 0)))), (8, (.s (.c (.pl 26 0))))], [(22, (.row 30 [[(iC 0), (sC nilV)]])), (25, (.prow 88 (b65.1.map encTBar))), (26, (.row 30 [[(iC b65.2), (.loc 25 0 b65.1.length)]]))])) ?_ (Ent.of ⟨rfl, rfl, rfl, rfl, rfl, trivial⟩ ⟨rfl, rfl, rfl, rfl, rfl, trivial⟩) rfl (fun b65 _ => ?_)
    · intro s28
      unfold m_spec_WithoutPoints_L2
      refine AWR.seq ?_
      refine AWR.seq ?_
      refine AWR.joinK (fun j68 => ([(2, (.s (.c (.pl 21 0)))), (4, (.s (.c (.pl 22 0)))), (5, (.s (.c (.loc 23 0 b19.2.length)))), (8, (.s (.c (.pl 26 0)))), (9, (.s (.c (iC s28.1)))), (47, (.s (.c (bC j68))))], [(21, (.row 30 [[(iC g.Points), (.pv (.xs false (g.Bars.map encTBar)))]])), (22, (.row 30 [[(iC 0), (sC nilV)]])), (23, (.prow 3 (b19.2.map encInt))), (25, (.prow 88 (s28.2.map encTBar))), (26, (.row 30 [[(iC b19.1), (.loc 25 0 s28.2.length)]]))])) ?_ (fun j68 _ => ?_)
      · refine AWR.region ?_
        refine AOR.pure (LT.move (v := (.s (.c (iC s28.1)))) rfl) ⟨rfl, trivial⟩ trivial rfl rfl ?_
        refine AOR.pure (LT.fieldPl rfl fo30_1) ⟨rfl, trivial⟩ trivial rfl rfl ?_
        refine AOR.pure (LT.bload1 (c := (.pv (.xs false (g.Bars.map encTBar)))) rfl ag28 (by exact rfl)) ⟨rfl, trivial⟩ ⟨rfl, trivial⟩ rfl rfl ?_
        refine AOR.pure (LT.tlenRO rfl und28) ⟨rfl, trivial⟩ trivial rfl rfl ?_
        refine AOR.pure (LT.lss rfl) ⟨rfl, rfl, trivial⟩ trivial rfl rfl ?_
        refine AOR.pure (LT.move (v := (.s (.c (bC (decide (s28.1 < (g.Bars.length : Int))))))) rfl) ⟨rfl, trivial⟩ trivial rfl rfl ?_
        refine AOR.split (fun hb69 => ?_) (fun hb69 => ?_)
        · refine AOR.pure (LT.bloadN (out := [(iC g.Points), (.pv (.xs false (g.Bars.map encTBar)))]) rfl ag30 (infS inf30) sz30 (by exact rfl) (by exact rfl)) ⟨rfl, trivial⟩ ⟨rfl, trivial⟩ ⟨_, rfl, .inl ⟨_, rfl, (by rw [hb69]; rfl)⟩⟩ rfl ?_
          refine AOR.bind fun r70 hr70 => ?_
          refine AOR.pure (@LT.callF Try.prog _ _ 94 _ _ [(.agg [(iC g.Points), (.pv (.xs false (g.Bars.map encTBar)))])] _ _ [] _ _ _ _ (w_spec_IsGraph g r70 hr70) rfl cb94 (.cons (.agg (.cons (.same rfl) (.cons (.same rfl) .nil))) .nil) rfl rfl trivial) ⟨rfl, rfl, trivial⟩ trivial ⟨_, rfl, .inl ⟨_, rfl, (by rw [hb69]; rfl)⟩⟩ rfl ?_
          refine AOR.pure (LT.pickT (v := (.s (.c (bC r70)))) rfl hb69) ⟨rfl, rfl, trivial⟩ trivial rfl rfl ?_
          refine AOR.nil ?_
          refine AWR.nil ⟨rfl, Ent.of ⟨rfl, rfl, rfl, rfl, rfl, rfl, trivial⟩ ⟨rfl, rfl, rfl, rfl, rfl, trivial⟩⟩
        · refine AOR.skip ⟨_, rfl, .inl ⟨_, rfl, (by rw [hb69]; rfl)⟩⟩ rfl ?_
          refine AOR.skip ⟨_, rfl, .inl ⟨_, rfl, (by rw [hb69]; rfl)⟩⟩ rfl ?_
          refine AOR.pure (LT.pickF (v := (.s (.c (bC false)))) rfl hb69) ⟨rfl, ⟨rfl, rfl⟩, trivial⟩ trivial rfl rfl ?_
          refine AOR.nil ?_
          refine AWR.nil ⟨rfl, Ent.of ⟨rfl, rfl, rfl, rfl, rfl, rfl, trivial⟩ ⟨rfl, rfl, rfl, rfl, rfl, trivial⟩⟩
      · refine AWR.cond rfl (fun hc71 => ?_) (fun hc71 => ?_)
        · refine AWR.skip ?_
          refine AWR.seq ?_
          refine AWR.block ?_
          refine AWR.seq ?_
          refine AWR.region ?_
          refine AOR.pure (LT.move (v := (.s (.c (.loc 23 0 b19.2.length)))) rfl) ⟨rfl, trivial⟩ trivial rfl rfl ?_
          refine AOR.pure (LT.fieldPl rfl fo30_1) ⟨rfl, trivial⟩ trivial rfl rfl ?_
          refine AOR.pure (LT.bload1 (c := (.pv (.xs false (g.Bars.map encTBar)))) rfl ag28 (by exact rfl)) ⟨rfl, trivial⟩ ⟨rfl, trivial⟩ rfl rfl ?_
          refine AOR.pure (LT.move (v := (.s (.c (iC s28.1)))) rfl) ⟨rfl, trivial⟩ trivial rfl rfl ?_
          refine AOR.bind fun x72 hx72 => ?_
          refine AOR.pure (LT.tindexRO (enc := encTBar) rfl el28 hx72 sz88) ⟨rfl, rfl, trivial⟩ trivial rfl rfl ?_
          refine AOR.pure (LT.fieldPx rfl fo88_0) ⟨rfl, trivial⟩ trivial rfl rfl ?_
          refine AOR.pure (LT.loadPx1 rfl ag3) ⟨rfl, trivial⟩ trivial rfl rfl ?_
          refine AOR.bind fun x73 hx73 => ?_
          refine AOR.pure (LT.tindexLoc rfl rfl el54 hx73) ⟨rfl, rfl, trivial⟩ ⟨rfl, trivial⟩ rfl rfl ?_
          refine AOR.pure (LT.tload1 (k := 0) rfl ag3 hx73 (by exact rfl) (by exact rfl)) ⟨rfl, trivial⟩ ⟨rfl, trivial⟩ rfl rfl ?_
          refine AOR.pure (LT.assign (v := (.s (.c (iC x73)))) rfl) ⟨rfl, trivial⟩ trivial rfl rfl ?_
          refine AOR.nil ?_
          refine AWR.seq ?_
          refine AWR.region ?_
          refine AOR.pure (LT.move (v := (.s (.c (.loc 23 0 b19.2.length)))) rfl) ⟨rfl, trivial⟩ trivial rfl rfl ?_
          refine AOR.pure (LT.fieldPl rfl fo30_1) ⟨rfl, trivial⟩ trivial rfl rfl ?_
          refine AOR.pure (LT.bload1 (c := (.pv (.xs false (g.Bars.map encTBar)))) rfl ag28 (by exact rfl)) ⟨rfl, trivial⟩ ⟨rfl, trivial⟩ rfl rfl ?_
          refine AOR.pure (LT.move (v := (.s (.c (iC s28.1)))) rfl) ⟨rfl, trivial⟩ trivial rfl rfl ?_
          refine AOR.bind fun x74 hx74 => ?_
          refine AOR.pure (LT.tindexRO (enc := encTBar) rfl el28 hx74 sz88) ⟨rfl, rfl, trivial⟩ trivial rfl rfl ?_
          refine AOR.pure (LT.fieldPx rfl fo88_1) ⟨rfl, trivial⟩ trivial rfl rfl ?_
          refine AOR.pure (LT.loadPx1 rfl ag3) ⟨rfl, trivial⟩ trivial rfl rfl ?_
          refine AOR.bind fun x75 hx75 => ?_
          refine AOR.pure (LT.tindexLoc rfl rfl el54 hx75) ⟨rfl, rfl, trivial⟩ ⟨rfl, trivial⟩ rfl rfl ?_
          refine AOR.pure (LT.tload1 (k := 0) rfl ag3 hx75 (by exact rfl) (by exact rfl)) ⟨rfl, trivial⟩ ⟨rfl, trivial⟩ rfl rfl ?_
          refine AOR.pure (LT.assign (v := (.s (.c (iC x75)))) rfl) ⟨rfl, trivial⟩ trivial rfl rfl ?_
          refine AOR.nil ?_
          refine AWR.seq ?_
          refine AWR.joinK (fun j77 => ([(2, (.s (.c (.pl 21 0)))), (4, (.s (.c (.pl 22 0)))), (5, (.s (.c (.loc 23 0 b19.2.length)))), (8, (.s (.c (.pl 26 0)))), (9, (.s (.c (iC s28.1)))), (10, (.s (.c (iC x73)))), (11, (.s (.c (iC x75)))), (73, (.s (.c (bC j77))))], [(21, (.row 30 [[(iC g.Points), (.pv (.xs false (g.Bars.map encTBar)))]])), (22, (.row 30 [[(iC 0), (sC nilV)]])), (23, (.prow 3 (b19.2.map encInt))), (25, (.prow 88 (s28.2.map encTBar))), (26, (.row 30 [[(iC b19.1), (.loc 25 0 s28.2.length)]]))])) ?_ (fun j77 _ => ?_)
          · refine AWR.ent (Ent.of (σ' := [(2, (.s (.c (.pl 21 0)))), (4, (.s (.c (.pl 22 0)))), (5, (.s (.c (.loc 23 0 b19.2.length)))), (8, (.s (.c (.pl 26 0)))), (9, (.s (.c (iC s28.1)))), (10, (.s (.c (iC x73)))), (11, (.s (.c (iC x75))))]) (m' := [(21, (.row 30 [[(iC g.Points), (.pv (.xs false (g.Bars.map encTBar)))]])), (22, (.row 30 [[(iC 0), (sC nilV)]])), (23, (.prow 3 (b19.2.map encInt))), (25, (.prow 88 (s28.2.map encTBar))), (26, (.row 30 [[(iC b19.1), (.loc 25 0 s28.2.length)]]))]) ⟨rfl, rfl, rfl, rfl, rfl, rfl, rfl, trivial⟩ ⟨rfl, rfl, rfl, rfl, rfl, trivial⟩) ?_
            refine AWR.region ?_
            refine AOR.pure (LT.move (v := (.s (.c (iC x73)))) rfl) ⟨rfl, trivial⟩ trivial rfl rfl ?_
            refine AOR.pure (LT.geq rfl) ⟨rfl, ⟨rfl, rfl⟩, trivial⟩ trivial rfl rfl ?_
            refine AOR.pure (LT.move (v := (.s (.c (bC (decide (0 ≤ x73)))))) rfl) ⟨rfl, trivial⟩ trivial rfl rfl ?_
            refine AOR.split (fun hb78 => ?_) (fun hb78 => ?_)
            · refine AOR.pure (LT.move (v := (.s (.c (iC x75)))) rfl) ⟨rfl, trivial⟩ trivial ⟨_, rfl, .inl ⟨_, rfl, (by rw [hb78]; rfl)⟩⟩ rfl ?_
              refine AOR.pure (LT.geq rfl) ⟨rfl, ⟨rfl, rfl⟩, trivial⟩ trivial ⟨_, rfl, .inl ⟨_, rfl, (by rw [hb78]; rfl)⟩⟩ rfl ?_
              refine AOR.pure (LT.pickT (v := (.s (.c (bC (decide (0 ≤ x75)))))) rfl hb78) ⟨rfl, rfl, trivial⟩ trivial rfl rfl ?_
              refine AOR.nil ?_
              refine AWR.nil ⟨rfl, Ent.of ⟨rfl, rfl, rfl, rfl, rfl, rfl, rfl, rfl, trivial⟩ ⟨rfl, rfl, rfl, rfl, rfl, trivial⟩⟩
            · refine AOR.skip ⟨_, rfl, .inl ⟨_, rfl, (by rw [hb78]; rfl)⟩⟩ rfl ?_
              refine AOR.skip ⟨_, rfl, .inl ⟨_, rfl, (by rw [hb78]; rfl)⟩⟩ rfl ?_
              refine AOR.pure (LT.pickF (v := (.s (.c (bC false)))) rfl hb78) ⟨rfl, ⟨rfl, rfl⟩, trivial⟩ trivial rfl rfl ?_
              refine AOR.nil ?_
              refine AWR.nil ⟨rfl, Ent.of ⟨rfl, rfl, rfl, rfl, rfl, rfl, rfl, rfl, trivial⟩ ⟨rfl, rfl, rfl, rfl, rfl, trivial⟩⟩
          · refine AWR.joinK (fun j81 => ([(2, (.s (.c (.pl 21 0)))), (4, (.s (.c (.pl 22 0)))), (5, (.s (.c (.loc 23 0 b19.2.length)))), (8, (.s (.c (.pl 26 0)))), (9, (.s (.c (iC s28.1))))], [(21, (.row 30 [[(iC g.Points), (.pv (.xs false (g.Bars.map encTBar)))]])), (22, (.row 30 [[(iC 0), (sC nilV)]])), (23, (.prow 3 (b19.2.map encInt))), (25, (.prow 88 (j81.map encTBar))), (26, (.row 30 [[(iC b19.1), (.loc 25 0 j81.length)]]))])) ?_ (fun j81 _ => ?_)
            · refine AWR.cond rfl (fun hc82 => ?_) (fun hc82 => ?_)
              · refine AWR.region ?_
                refine AOR.pure (LT.fieldPl rfl fo30_1) ⟨rfl, trivial⟩ trivial rfl rfl ?_
                refine AOR.pure (LT.bload1 (c := (.loc 25 0 s28.2.length)) rfl ag28 (by exact rfl)) ⟨rfl, trivial⟩ ⟨rfl, trivial⟩ rfl rfl ?_
                refine AOR.pure (LT.move (v := (.s (.c (iC x73)))) rfl) ⟨rfl, trivial⟩ trivial rfl rfl ?_
                refine AOR.pure (LT.move (v := (.s (.c (iC x75)))) rfl) ⟨rfl, trivial⟩ trivial rfl rfl ?_
                refine AOR.pure (LT.build [(0, .tmp 76, (.c (iC x73))), (1, .tmp 77, (.c (iC x75)))] rfl rfl pl88 ti88 rfl rfl rfl) ⟨rfl, rfl, trivial⟩ trivial rfl rfl ?_
                refine AOR.step (LT.tbuildSlice (n := 28) (enc := encTBar) [(0, .tmp 78, (.agg [(iC x73), (iC x75)]))] [(TBar.mk x73 x75)] rfl rfl und28 ti88 rfl rfl rfl rfl (by decide) (fun _ => rfl) rfl) ⟨rfl, trivial⟩ trivial rfl rfl ?_
                refine AOR.bind fun u83 hu83 => ?_
                refine AOR.step (LT.tappP (enc := encTBar) rfl rfl rfl und28 ti88 rfl (by decide) (by decide) (fun _ => rfl) (lim_le hu83)) ⟨rfl, rfl, trivial⟩ ⟨rfl, rfl, trivial⟩ rfl rfl ?_
                refine AOR.pure (LT.fieldPl rfl fo30_1) ⟨rfl, trivial⟩ trivial rfl rfl ?_
                refine AOR.step (LT.bstore (v := (.c (.loc 25 0 (s28.2 ++ [(TBar.mk x73 x75)]).length))) (out := [(iC b19.1), (.loc 25 0 (s28.2 ++ [(TBar.mk x73 x75)]).length)]) rfl rfl (infS inf28) sz28 (by exact rfl) (by exact Nat.le_of_ble_eq_true rfl) (by exact rfl)) ⟨rfl, rfl, trivial⟩ ⟨rfl, trivial⟩ rfl rfl ?_
                refine AOR.nil ?_
                refine AWR.nil ⟨rfl, Ent.of ⟨rfl, rfl, rfl, rfl, rfl, trivial⟩ ⟨rfl, rfl, rfl, rfl, rfl, trivial⟩⟩
              · refine AWR.skip ?_
                refine AWR.nil ⟨rfl, Ent.of ⟨rfl, rfl, rfl, rfl, rfl, trivial⟩ ⟨rfl, rfl, rfl, rfl, rfl, trivial⟩⟩
            · refine AWR.blk ?_
              refine AWR.region ?_
              refine AOR.pure (LT.move (v := (.s (.c (iC s28.1)))) rfl) ⟨rfl, trivial⟩ trivial rfl rfl ?_
              refine AOR.pure (LT.add rfl) ⟨rfl, ⟨rfl, rfl⟩, trivial⟩ trivial rfl rfl ?_
              refine AOR.pure (LT.assign (v := (.s (.c (iC (w64 (s28.1 + 1)))))) rfl) ⟨rfl, trivial⟩ trivial rfl rfl ?_
              refine AOR.nil ?_
              refine AWR.nil ⟨rfl, Ent.of ⟨rfl, rfl, rfl, rfl, rfl, trivial⟩ ⟨rfl, rfl, rfl, rfl, rfl, trivial⟩⟩
        · refine AWR.exit_end rfl ⟨rfl, Ent.of ⟨rfl, rfl, trivial⟩ ⟨rfl, rfl, rfl, trivial⟩⟩
    · refine AWR.seq ?_
      refine AWR.region ?_
      refine AOR.pure (LT.bloadN (out := [(iC b65.2), (.loc 25 0 b65.1.length)]) rfl ag30 (infS inf30) sz30 (by exact rfl) (by exact rfl)) ⟨rfl, trivial⟩ ⟨rfl, trivial⟩ rfl rfl ?_
      refine AOR.step (LT.bstore (v := (.agg [(iC b65.2), (.loc 25 0 b65.1.length)])) (out := [(iC b65.2), (.loc 25 0 b65.1.length)]) rfl rfl (infS inf30) sz30 (by exact rfl) (by exact Nat.le_of_ble_eq_true rfl) (by exact rfl)) ⟨rfl, rfl, trivial⟩ ⟨rfl, trivial⟩ rfl rfl ?_
      refine AOR.nil ?_
      refine AWR.ent (Ent.of (σ' := [(4, (.s (.c (.pl 22 0))))]) (m' := [(22, (.row 30 [[(iC b65.2), (.loc 25 0 b65.1.length)]])), (25, (.prow 88 (b65.1.map encTBar)))]) ⟨rfl, trivial⟩ ⟨rfl, rfl, trivial⟩) ?_
      refine AWR.ent (Ent.mv 25 0 rfl rfl) ?_
      refine AWR.ent (Ent.of (σ' := [(4, (.s (.c (.pl 22 0))))]) (m' := [(0, (.prow 88 (b65.1.map encTBar))), (22, (.row 30 [[(iC b65.2), (.loc 0 0 b65.1.length)]]))]) ⟨rfl, trivial⟩ ⟨rfl, rfl, trivial⟩) ?_
      refine AWR.ret (FPost.mk (.inr rfl) ⟨⟨_, _, _, rfl, rfl, rfl, ag30, sz30, _, (infS inf30)⟩, trivial⟩ ⟨rfl, trivial⟩ rfl ⟨⟨PermP.sc, trivial, trivial⟩, trivial⟩ ⟨PermO.prow' perm_encTBar, trivial⟩)
set_option maxRecDepth 100000 in
set_option maxHeartbeats 8000000 in
theorem w_spec_ReachOf (g : TGraph) (v : Int) : ∀ t, m_spec_ReachOf g v = some t → Fw.Fn Try.prog 168 [(.agg [(iC g.Points), (.pv (.xs false (g.Bars.map encTBar)))]), (.c (iC v))] [] (.s (.c (.loc 0 0 t.length))) [(0, (.prow 3 (t.map encInt)))] [] [0] := by
  refine Fw.Fn.of (P := Try.prog) (X := [0]) (pn := []) (rs := (fun (t : (List Int)) => [(.c (.loc 0 0 t.length))])) (dfs := (fun (t : (List Int)) => [(0, (.prow 3 (t.map encInt)))])) Try.func168 rfl Try.ntmps168 (Nat.le_of_ble_eq_true rfl) rfl ?_
  intro w0 U0 R0 g0
  unfold m_spec_ReachOf
  refine AWR.seq ?_
  refine AWR.region ?_
  refine AOR.step (LT.box (n := 21) (v := (.agg [(iC g.Points), (.pv (.xs false (g.Bars.map encTBar)))])) rfl sz30 (by exact rfl)) ⟨rfl, trivial⟩ trivial rfl rfl ?_
  refine AOR.pure (LT.assign (v := (.s (.c (sC nilV)))) rfl) ⟨⟨rfl, rfl⟩, trivial⟩ trivial rfl rfl ?_
  refine AOR.nil ?_
  refine AWR.seq ?_
  refine AWR.region ?_
  refine AOR.step (LT.tbuildSlice (n := 22) (enc := encInt) [] ([] : List Int) rfl rfl und54 ti3 rfl rfl rfl rfl (by decide) (fun _ => rfl) rfl) trivial trivial rfl rfl ?_
  refine AOR.pure (LT.assign (v := (.s (.c (.loc 22 0 ([] : List Int).length)))) rfl) ⟨rfl, trivial⟩ trivial rfl rfl ?_
  refine AOR.nil ?_
  refine AWR.seq ?_
  refine AWR.seq ?_
  refine AWR.joinK (fun j4 => ([(1, (.s (.c (iC v)))), (2, (.s (.c (.pl 21 0)))), (5, (.s (.c (.loc 22 0 ([] : List Int).length)))), (23, (.s (.c (bC j4))))], [(21, (.row 30 [[(iC g.Points), (.pv (.xs false (g.Bars.map encTBar)))]])), (22, (.prow 3 (([] : List Int).map encInt)))])) ?_ (fun j4 _ => ?_)
  · refine AWR.region ?_
    refine AOR.pure (LT.bloadN (out := [(iC g.Points), (.pv (.xs false (g.Bars.map encTBar)))]) rfl ag30 (infS inf30) sz30 (by exact rfl) (by exact rfl)) ⟨rfl, trivial⟩ ⟨rfl, trivial⟩ rfl rfl ?_
    refine AOR.bind fun r5 hr5 => ?_
    refine AOR.pure (@LT.callF Try.prog _ _ 94 _ _ [(.agg [(iC g.Points), (.pv (.xs false (g.Bars.map encTBar)))])] _ _ [] _ _ _ _ (w_spec_IsGraph g r5 hr5) rfl cb94 (.cons (.agg (.cons (.same rfl) (.cons (.same rfl) .nil))) .nil) rfl rfl trivial) ⟨rfl, rfl, trivial⟩ trivial rfl rfl ?_
    refine AOR.pure (LT.not rfl) ⟨rfl, trivial⟩ trivial rfl rfl ?_
    refine AOR.pure (LT.move (v := (.s (.c (bC (!r5))))) rfl) ⟨rfl, trivial⟩ trivial rfl rfl ?_
    refine AOR.split (fun hb6 => ?_) (fun hb6 => ?_)
    · refine AOR.skip ⟨_, rfl, .inl ⟨_, rfl, (by rw [hb6]; rfl)⟩⟩ rfl ?_
      refine AOR.skip ⟨_, rfl, .inl ⟨_, rfl, (by rw [hb6]; rfl)⟩⟩ rfl ?_
      refine AOR.pure (LT.pickT (v := (.s (.c (bC true)))) rfl hb6) ⟨rfl, ⟨rfl, rfl⟩, trivial⟩ trivial rfl rfl ?_
      refine AOR.pure (LT.move (v := (.s (.c (bC true)))) rfl) ⟨rfl, trivial⟩ trivial rfl rfl ?_
      refine AOR.skip ⟨_, rfl, .inl ⟨_, rfl, rfl⟩⟩ rfl ?_
      refine AOR.skip ⟨_, rfl, .inl ⟨_, rfl, rfl⟩⟩ rfl ?_
      refine AOR.skip ⟨_, rfl, .inl ⟨_, rfl, rfl⟩⟩ rfl ?_
      refine AOR.skip ⟨_, rfl, .inl ⟨_, rfl, rfl⟩⟩ rfl ?_
      refine AOR.pure (LT.pickT (v := (.s (.c (bC true)))) rfl rfl) ⟨rfl, ⟨rfl, rfl⟩, trivial⟩ trivial rfl rfl ?_
      refine AOR.nil ?_
      refine AWR.nil ⟨rfl, Ent.of ⟨rfl, rfl, rfl, rfl, trivial⟩ ⟨rfl, rfl, trivial⟩⟩
    · refine AOR.pure (LT.move (v := (.s (.c (iC v)))) rfl) ⟨rfl, trivial⟩ trivial ⟨_, rfl, .inl ⟨_, rfl, (by rw [hb6]; rfl)⟩⟩ rfl ?_
      refine AOR.pure (LT.lss rfl) ⟨rfl, ⟨rfl, rfl⟩, trivial⟩ trivial ⟨_, rfl, .inl ⟨_, rfl, (by rw [hb6]; rfl)⟩⟩ rfl ?_
      refine AOR.pure (LT.pickF (v := (.s (.c (bC (decide (v < 0)))))) rfl hb6) ⟨rfl, rfl, trivial⟩ trivial rfl rfl ?_
      refine AOR.pure (LT.move (v := (.s (.c (bC (decide (v < 0)))))) rfl) ⟨rfl, trivial⟩ trivial rfl rfl ?_
      refine AOR.split (fun hb7 => ?_) (fun hb7 => ?_)
      · refine AOR.skip ⟨_, rfl, .inl ⟨_, rfl, (by rw [hb7]; rfl)⟩⟩ rfl ?_
        refine AOR.skip ⟨_, rfl, .inl ⟨_, rfl, (by rw [hb7]; rfl)⟩⟩ rfl ?_
        refine AOR.skip ⟨_, rfl, .inl ⟨_, rfl, (by rw [hb7]; rfl)⟩⟩ rfl ?_
        refine AOR.skip ⟨_, rfl, .inl ⟨_, rfl, (by rw [hb7]; rfl)⟩⟩ rfl ?_
        refine AOR.pure (LT.pickT (v := (.s (.c (bC true)))) rfl hb7) ⟨rfl, ⟨rfl, rfl⟩, trivial⟩ trivial rfl rfl ?_
        refine AOR.nil ?_
        refine AWR.nil ⟨rfl, Ent.of ⟨rfl, rfl, rfl, rfl, trivial⟩ ⟨rfl, rfl, trivial⟩⟩
      · refine AOR.pure (LT.move (v := (.s (.c (iC v)))) rfl) ⟨rfl, trivial⟩ trivial ⟨_, rfl, .inl ⟨_, rfl, (by rw [hb7]; rfl)⟩⟩ rfl ?_
        refine AOR.pure (LT.fieldPl rfl fo30_0) ⟨rfl, trivial⟩ trivial ⟨_, rfl, .inl ⟨_, rfl, (by rw [hb7]; rfl)⟩⟩ rfl ?_
        refine AOR.pure (LT.bload1 (c := (iC g.Points)) rfl ag3 (by exact rfl)) ⟨rfl, trivial⟩ ⟨rfl, trivial⟩ ⟨_, rfl, .inl ⟨_, rfl, (by rw [hb7]; rfl)⟩⟩ rfl ?_
        refine AOR.pure (LT.geq rfl) ⟨rfl, rfl, trivial⟩ trivial ⟨_, rfl, .inl ⟨_, rfl, (by rw [hb7]; rfl)⟩⟩ rfl ?_
        refine AOR.pure (LT.pickF (v := (.s (.c (bC (decide (g.Points ≤ v)))))) rfl hb7) ⟨rfl, rfl, trivial⟩ trivial rfl rfl ?_
        refine AOR.nil ?_
        refine AWR.nil ⟨rfl, Ent.of ⟨rfl, rfl, rfl, rfl, trivial⟩ ⟨rfl, rfl, trivial⟩⟩
  · refine AWR.cond rfl (fun hc8 => ?_) (fun hc8 => ?_)
    · refine AWR.seq ?_
      refine AWR.region ?_
      refine AOR.pure (LT.move (v := (.s (.c (.loc 22 0 ([] : List Int).length)))) rfl) ⟨rfl, trivial⟩ trivial rfl rfl ?_
      refine AOR.pure (LT.assign (v := (.s (.c (.loc 22 0 ([] : List Int).length)))) rfl) ⟨rfl, trivial⟩ trivial rfl rfl ?_
      refine AOR.nil ?_
      refine AWR.ent (Ent.of (σ' := [(4, (.s (.c (.loc 22 0 ([] : List Int).length))))]) (m' := [(22, (.prow 3 (([] : List Int).map encInt)))]) ⟨rfl, trivial⟩ ⟨rfl, trivial⟩) ?_
      refine AWR.ent (Ent.mv 22 0 rfl rfl) ?_
      refine AWR.ent (Ent.of (σ' := [(4, (.s (.c (.loc 0 0 ([] : List Int).length))))]) (m' := [(0, (.prow 3 (([] : List Int).map encInt)))]) ⟨rfl, trivial⟩ ⟨rfl, trivial⟩) ?_
      refine AWR.ret (FPost.mk (.inr rfl) ⟨rfl, trivial⟩ ⟨rfl, trivial⟩ rfl ⟨trivial, trivial⟩ ⟨PermO.prow' perm_encInt, trivial⟩)
    · refine AWR.skip ?_
      refine AWR.seq ?_
      refine AWR.region ?_
      refine AOR.pure (LT.fieldPl rfl fo30_0) ⟨rfl, trivial⟩ trivial rfl rfl ?_
      refine AOR.pure (LT.bload1 (c := (iC g.Points)) rfl ag3 (by exact rfl)) ⟨rfl, trivial⟩ ⟨rfl, trivial⟩ rfl rfl ?_
      refine AOR.bind fun u9 hu9 => ?_
      refine AOR.step (LT.tmake (n := 24) (enc := encBool) (zc := [(bC false)]) false rfl und152 ti4 rfl rfl rfl (by decide) (by decide) (lenOk_le hu9) rfl) ⟨rfl, rfl, trivial⟩ trivial rfl rfl ?_
      refine AOR.pure (LT.assign (v := (.s (.c (.loc 24 0 (List.replicate g.Points.toNat false).length)))) rfl) ⟨rfl, trivial⟩ trivial rfl rfl ?_
      refine AOR.nil ?_
      refine AWR.seq ?_
      refine AWR.region ?_
      refine AOR.pure (LT.move (v := (.s (.c (.loc 24 0 (List.replicate g.Points.toNat false).length)))) rfl) ⟨rfl, trivial⟩ trivial rfl rfl ?_
      refine AOR.pure (LT.move (v := (.s (.c (iC v)))) rfl) ⟨rfl, trivial⟩ trivial rfl rfl ?_
      refine AOR.bind fun x10 hx10 => ?_
      refine AOR.pure (LT.tindexLoc rfl rfl el152 hx10) ⟨rfl, rfl, trivial⟩ ⟨rfl, trivial⟩ rfl rfl ?_
      refine AOR.step (LT.tstore (k := 0) (v := (.c (bC true))) (b' := true) rfl rfl (infS inf4) sz4 (by exact rfl) hx10 (by exact rfl) (by exact Nat.le_of_ble_eq_true rfl) (by exact rfl)) ⟨rfl, ⟨rfl, rfl⟩, trivial⟩ ⟨rfl, trivial⟩ rfl rfl ?_
      refine AOR.nil ?_
      refine AWR.seq ?_
      refine AWR.seq ?_
      refine AWR.ent (Ent.of (σ' := [(2, (.s (.c (.pl 21 0)))), (5, (.s (.c (.loc 22 0 ([] : List Int).length)))), (6, (.s (.c (.loc 24 0 (List.replicate g.Points.toNat false).length))))]) (m' := [(21, (.row 30 [[(iC g.Points), (.pv (.xs false (g.Bars.map encTBar)))]])), (22, (.prow 3 (([] : List Int).map encInt))), (24, (.prow 4 (((List.replicate g.Points.toNat false).set v.toNat true).map encBool)))]) ⟨rfl, rfl, rfl, trivial⟩ ⟨rfl, rfl, rfl, trivial⟩) ?_
      refine AWR.region ?_
      refine AOR.pure (LT.assign (v := (.s (.c (iC 0)))) rfl) ⟨⟨rfl, rfl⟩, trivial⟩ trivial rfl rfl ?_
      refine AOR.nil ?_
      refine AWR.block ?_
      refine AWR.loop1 (id := 0) (m_spec_ReachOf_L3 g) (fun s11 => ([(2, (.s (.c (.pl 21 0)))), (5, (.s (.c (.loc 22 0 ([] : List Int).length)))), (6, (.s (.c (.loc 24 0 s11.2.length)))), (7, (.s (.c (iC s11.1))))], [(21, (.row 30 [[(iC g.Points), (.pv (.xs false (g.Bars.map encTBar)))]])), (22, (.prow 3 (([] : List Int).map encInt))), (24, (.prow 4 (s11.2.map encBool)))])) (fun b110 => ([(2, (.s (.c (.pl 21 0)))), (5, (.s (.c (.loc 22 0 ([] : List Int).length)))), (6, (.s (.c (.loc 24 0 b110.length))))], [(21, (.row 30 [[(iC g.Points), (.pv (.xs false (g.Bars.map encTBar)))]])), (22, (.prow 3 (([] : List Int).map encInt))), (24, (.prow 4 (b110.map encBool)))])) ?_ (Ent.of ⟨rfl, rfl, (congrArg (fun l1 => (some (AV.s (.c (.loc 24 0 l1))) : Option AV)) (show (List.replicate g.Points.toNat false).length = ((List.replicate g.Points.toNat false).set v.toNat true).length by simp only [List.length_set])), rfl, trivial⟩ ⟨rfl, rfl, rfl, trivial⟩) rfl (fun b110 _ => ?_)
      · intro s11
        unfold m_spec_ReachOf_L3
        refine AWR.seq ?_
        refine AWR.seq ?_
        refine AWR.region ?_
        refine AOR.pure (LT.move (v := (.s (.c (iC s11.1)))) rfl) ⟨rfl, trivial⟩ trivial rfl rfl ?_
        refine AOR.pure (LT.fieldPl rfl fo30_0) ⟨rfl, trivial⟩ trivial rfl rfl ?_
        refine AOR.pure (LT.bload1 (c := (iC g.Points)) rfl ag3 (by exact rfl)) ⟨rfl, trivial⟩ ⟨rfl, trivial⟩ rfl rfl ?_
        refine AOR.pure (LT.lss rfl) ⟨rfl, rfl, trivial⟩ trivial rfl rfl ?_
        refine AOR.nil ?_
        refine AWR.cond rfl (fun hc111 => ?_) (fun hc111 => ?_)
        · refine AWR.skip ?_
          refine AWR.seq ?_
          refine AWR.block ?_
          refine AWR.seq ?_
          refine AWR.region ?_
          refine AOR.pure (LT.assign (v := (.s (.c (iC 0)))) rfl) ⟨⟨rfl, rfl⟩, trivial⟩ trivial rfl rfl ?_
          refine AOR.nil ?_
          refine AWR.block ?_
          refine AWR.loop1 (id := 2) (m_spec_ReachOf_L4 g s11) (fun s112 => ([(2, (.s (.c (.pl 21 0)))), (5, (.s (.c (.loc 22 0 ([] : List Int).length)))), (6, (.s (.c (.loc 24 0 s112.2.length)))), (7, (.s (.c (iC s11.1)))), (8, (.s (.c (iC s112.1))))], [(21, (.row 30 [[(iC g.Points), (.pv (.xs false (g.Bars.map encTBar)))]])), (22, (.prow 3 (([] : List Int).map encInt))), (24, (.prow 4 (s112.2.map encBool)))])) (fun b159 => ([(2, (.s (.c (.pl 21 0)))), (5, (.s (.c (.loc 22 0 ([] : List Int).length)))), (6, (.s (.c (.loc 24 0 b159.2.length)))), (7, (.s (.c (iC b159.1))))], [(21, (.row 30 [[(iC g.Points), (.pv (.xs false (g.Bars.map encTBar)))]])), (22, (.prow 3 (([] : List Int).map encInt))), (24, (.prow 4 (b159.2.map encBool)))])) ?_ (Ent.of ⟨rfl, rfl, rfl, rfl, rfl, trivial⟩ ⟨rfl, rfl, rfl, trivial⟩) rfl (fun b159 _ => ?_)
          · intro s112
            unfold m_spec_ReachOf_L4
            refine AWR.seq ?_
            refine AWR.seq ?_
            refine AWR.region ?_
            refine AOR.pure (LT.move (v := (.s (.c (iC s112.1)))) rfl) ⟨rfl, trivial⟩ trivial rfl rfl ?_
            refine AOR.pure (LT.fieldPl rfl fo30_1) ⟨rfl, trivial⟩ trivial rfl rfl ?_
            refine AOR.pure (LT.bload1 (c := (.pv (.xs false (g.Bars.map encTBar)))) rfl ag28 (by exact rfl)) ⟨rfl, trivial⟩ ⟨rfl, trivial⟩ rfl rfl ?_
            refine AOR.pure (LT.tlenRO rfl und28) ⟨rfl, trivial⟩ trivial rfl rfl ?_
            refine AOR.pure (LT.lss rfl) ⟨rfl, rfl, trivial⟩ trivial rfl rfl ?_
            refine AOR.nil ?_
            refine AWR.cond rfl (fun hc160 => ?_) (fun hc160 => ?_)
            · refine AWR.skip ?_
              refine AWR.seq ?_
              refine AWR.block ?_
              refine AWR.seq ?_
              refine AWR.joinK (fun j166 => ([(2, (.s (.c (.pl 21 0)))), (5, (.s (.c (.loc 22 0 ([] : List Int).length)))), (6, (.s (.c (.loc 24 0 s112.2.length)))), (7, (.s (.c (iC s11.1)))), (8, (.s (.c (iC s112.1)))), (63, (.s (.c (bC j166))))], [(21, (.row 30 [[(iC g.Points), (.pv (.xs false (g.Bars.map encTBar)))]])), (22, (.prow 3 (([] : List Int).map encInt))), (24, (.prow 4 (s112.2.map encBool)))])) ?_ (fun j166 _ => ?_)
              · refine AWR.region ?_
                refine AOR.pure (LT.move (v := (.s (.c (.loc 24 0 s112.2.length)))) rfl) ⟨rfl, trivial⟩ trivial rfl rfl ?_
                refine AOR.pure (LT.fieldPl rfl fo30_1) ⟨rfl, trivial⟩ trivial rfl rfl ?_
                refine AOR.pure (LT.bload1 (c := (.pv (.xs false (g.Bars.map encTBar)))) rfl ag28 (by exact rfl)) ⟨rfl, trivial⟩ ⟨rfl, trivial⟩ rfl rfl ?_
                refine AOR.pure (LT.move (v := (.s (.c (iC s112.1)))) rfl) ⟨rfl, trivial⟩ trivial rfl rfl ?_
                refine AOR.bind fun x167 hx167 => ?_
                refine AOR.pure (LT.tindexRO (enc := encTBar) rfl el28 hx167 sz88) ⟨rfl, rfl, trivial⟩ trivial rfl rfl ?_
                refine AOR.pure (LT.fieldPx rfl fo88_0) ⟨rfl, trivial⟩ trivial rfl rfl ?_
                refine AOR.pure (LT.loadPx1 rfl ag3) ⟨rfl, trivial⟩ trivial rfl rfl ?_
                refine AOR.bind fun x168 hx168 => ?_
                refine AOR.pure (LT.tindexLoc rfl rfl el152 hx168) ⟨rfl, rfl, trivial⟩ ⟨rfl, trivial⟩ rfl rfl ?_
                refine AOR.pure (LT.tload1 (k := 0) rfl ag4 hx168 (by exact rfl) (by exact rfl)) ⟨rfl, trivial⟩ ⟨rfl, trivial⟩ rfl rfl ?_
                refine AOR.pure (LT.move (v := (.s (.c (bC x168)))) rfl) ⟨rfl, trivial⟩ trivial rfl rfl ?_
                refine AOR.split (fun hb169 => ?_) (fun hb169 => ?_)
                · refine AOR.skip ⟨_, rfl, .inl ⟨_, rfl, (by rw [hb169]; rfl)⟩⟩ rfl ?_
                  refine AOR.skip ⟨_, rfl, .inl ⟨_, rfl, (by rw [hb169]; rfl)⟩⟩ rfl ?_
                  refine AOR.skip ⟨_, rfl, .inl ⟨_, rfl, (by rw [hb169]; rfl)⟩⟩ rfl ?_
                  refine AOR.skip ⟨_, rfl, .inl ⟨_, rfl, (by rw [hb169]; rfl)⟩⟩ rfl ?_
                  refine AOR.skip ⟨_, rfl, .inl ⟨_, rfl, (by rw [hb169]; rfl)⟩⟩ rfl ?_
                  refine AOR.skip ⟨_, rfl, .inl ⟨_, rfl, (by rw [hb169]; rfl)⟩⟩ rfl ?_
                  refine AOR.skip ⟨_, rfl, .inl ⟨_, rfl, (by rw [hb169]; rfl)⟩⟩ rfl ?_
                  refine AOR.skip ⟨_, rfl, .inl ⟨_, rfl, (by rw [hb169]; rfl)⟩⟩ rfl ?_
                  refine AOR.skip ⟨_, rfl, .inl ⟨_, rfl, (by rw [hb169]; rfl)⟩⟩ rfl ?_
                  refine AOR.pure (LT.pickT (v := (.s (.c (bC true)))) rfl hb169) ⟨rfl, ⟨rfl, rfl⟩, trivial⟩ trivial rfl rfl ?_
                  refine AOR.nil ?_
                  refine AWR.nil ⟨rfl, Ent.of ⟨rfl, rfl, rfl, rfl, rfl, rfl, trivial⟩ ⟨rfl, rfl, rfl, trivial⟩⟩
                · refine AOR.pure (LT.move (v := (.s (.c (.loc 24 0 s112.2.length)))) rfl) ⟨rfl, trivial⟩ trivial ⟨_, rfl, .inl ⟨_, rfl, (by rw [hb169]; rfl)⟩⟩ rfl ?_
                  refine AOR.pure (LT.fieldPl rfl fo30_1) ⟨rfl, trivial⟩ trivial ⟨_, rfl, .inl ⟨_, rfl, (by rw [hb169]; rfl)⟩⟩ rfl ?_
                  refine AOR.pure (LT.bload1 (c := (.pv (.xs false (g.Bars.map encTBar)))) rfl ag28 (by exact rfl)) ⟨rfl, trivial⟩ ⟨rfl, trivial⟩ ⟨_, rfl, .inl ⟨_, rfl, (by rw [hb169]; rfl)⟩⟩ rfl ?_
                  refine AOR.pure (LT.move (v := (.s (.c (iC s112.1)))) rfl) ⟨rfl, trivial⟩ trivial ⟨_, rfl, .inl ⟨_, rfl, (by rw [hb169]; rfl)⟩⟩ rfl ?_
                  refine AOR.bind fun x170 hx170 => ?_
                  refine AOR.pure (LT.tindexRO (enc := encTBar) rfl el28 hx170 sz88) ⟨rfl, rfl, trivial⟩ trivial ⟨_, rfl, .inl ⟨_, rfl, (by rw [hb169]; rfl)⟩⟩ rfl ?_
                  refine AOR.pure (LT.fieldPx rfl fo88_1) ⟨rfl, trivial⟩ trivial ⟨_, rfl, .inl ⟨_, rfl, (by rw [hb169]; rfl)⟩⟩ rfl ?_
                  refine AOR.pure (LT.loadPx1 rfl ag3) ⟨rfl, trivial⟩ trivial ⟨_, rfl, .inl ⟨_, rfl, (by rw [hb169]; rfl)⟩⟩ rfl ?_
                  refine AOR.bind fun x171 hx171 => ?_
                  refine AOR.pure (LT.tindexLoc rfl rfl el152 hx171) ⟨rfl, rfl, trivial⟩ ⟨rfl, trivial⟩ ⟨_, rfl, .inl ⟨_, rfl, (by rw [hb169]; rfl)⟩⟩ rfl ?_
                  refine AOR.pure (LT.tload1 (k := 0) rfl ag4 hx171 (by exact rfl) (by exact rfl)) ⟨rfl, trivial⟩ ⟨rfl, trivial⟩ ⟨_, rfl, .inl ⟨_, rfl, (by rw [hb169]; rfl)⟩⟩ rfl ?_
                  refine AOR.pure (LT.pickF (v := (.s (.c (bC x171)))) rfl hb169) ⟨rfl, rfl, trivial⟩ trivial rfl rfl ?_
                  refine AOR.nil ?_
                  refine AWR.nil ⟨rfl, Ent.of ⟨rfl, rfl, rfl, rfl, rfl, rfl, trivial⟩ ⟨rfl, rfl, rfl, trivial⟩⟩
              · refine AWR.joinK (fun j177 => ([(2, (.s (.c (.pl 21 0)))), (5, (.s (.c (.loc 22 0 ([] : List Int).length)))), (6, (.s (.c (.loc 24 0 j177.length)))), (7, (.s (.c (iC s11.1)))), (8, (.s (.c (iC s112.1))))], [(21, (.row 30 [[(iC g.Points), (.pv (.xs false (g.Bars.map encTBar)))]])), (22, (.prow 3 (([] : List Int).map encInt))), (24, (.prow 4 (j177.map encBool)))])) ?_ (fun j177 _ => ?_)
                · refine AWR.cond rfl (fun hc178 => ?_) (fun hc178 => ?_)
                  · refine AWR.seq ?_
                    refine AWR.region ?_
                    refine AOR.pure (LT.move (v := (.s (.c (.loc 24 0 s112.2.length)))) rfl) ⟨rfl, trivial⟩ trivial rfl rfl ?_
                    refine AOR.pure (LT.fieldPl rfl fo30_1) ⟨rfl, trivial⟩ trivial rfl rfl ?_
                    refine AOR.pure (LT.bload1 (c := (.pv (.xs false (g.Bars.map encTBar)))) rfl ag28 (by exact rfl)) ⟨rfl, trivial⟩ ⟨rfl, trivial⟩ rfl rfl ?_
                    refine AOR.pure (LT.move (v := (.s (.c (iC s112.1)))) rfl) ⟨rfl, trivial⟩ trivial rfl rfl ?_
                    refine AOR.bind fun x179 hx179 => ?_
                    refine AOR.pure (LT.tindexRO (enc := encTBar) rfl el28 hx179 sz88) ⟨rfl, rfl, trivial⟩ trivial rfl rfl ?_
                    refine AOR.pure (LT.fieldPx rfl fo88_0) ⟨rfl, trivial⟩ trivial rfl rfl ?_
                    refine AOR.pure (LT.loadPx1 rfl ag3) ⟨rfl, trivial⟩ trivial rfl rfl ?_
                    refine AOR.bind fun x180 hx180 => ?_
                    refine AOR.pure (LT.tindexLoc rfl rfl el152 hx180) ⟨rfl, rfl, trivial⟩ ⟨rfl, trivial⟩ rfl rfl ?_
                    refine AOR.step (LT.tstore (k := 0) (v := (.c (bC true))) (b' := true) rfl rfl (infS inf4) sz4 (by exact rfl) hx180 (by exact rfl) (by exact Nat.le_of_ble_eq_true rfl) (by exact rfl)) ⟨rfl, ⟨rfl, rfl⟩, trivial⟩ ⟨rfl, trivial⟩ rfl rfl ?_
                    refine AOR.nil ?_
                    refine AWR.ent (Ent.of (σ' := [(2, (.s (.c (.pl 21 0)))), (5, (.s (.c (.loc 22 0 ([] : List Int).length)))), (6, (.s (.c (.loc 24 0 s112.2.length)))), (7, (.s (.c (iC s11.1)))), (8, (.s (.c (iC s112.1))))]) (m' := [(21, (.row 30 [[(iC g.Points), (.pv (.xs false (g.Bars.map encTBar)))]])), (22, (.prow 3 (([] : List Int).map encInt))), (24, (.prow 4 ((s112.2.set x179.A.toNat true).map encBool)))]) ⟨rfl, rfl, rfl, rfl, rfl, trivial⟩ ⟨rfl, rfl, rfl, trivial⟩) ?_
                    refine AWR.region ?_
                    refine AOR.pure (LT.move (v := (.s (.c (.loc 24 0 s112.2.length)))) rfl) ⟨rfl, trivial⟩ trivial rfl rfl ?_
                    refine AOR.pure (LT.fieldPl rfl fo30_1) ⟨rfl, trivial⟩ trivial rfl rfl ?_
                    refine AOR.pure (LT.bload1 (c := (.pv (.xs false (g.Bars.map encTBar)))) rfl ag28 (by exact rfl)) ⟨rfl, trivial⟩ ⟨rfl, trivial⟩ rfl rfl ?_
                    refine AOR.pure (LT.move (v := (.s (.c (iC s112.1)))) rfl) ⟨rfl, trivial⟩ trivial rfl rfl ?_
                    refine AOR.bind fun x181 hx181 => ?_
                    refine AOR.pure (LT.tindexRO (enc := encTBar) rfl el28 hx181 sz88) ⟨rfl, rfl, trivial⟩ trivial rfl rfl ?_
                    refine AOR.pure (LT.fieldPx rfl fo88_1) ⟨rfl, trivial⟩ trivial rfl rfl ?_
                    refine AOR.pure (LT.loadPx1 rfl ag3) ⟨rfl, trivial⟩ trivial rfl rfl ?_
                    refine AOR.bind fun x182 hx182 => ?_
                    refine AOR.pure (LT.tindexLoc (show s112.2.length = (s112.2.set x179.A.toNat true).length by simp only [List.length_set]) rfl el152 hx182) ⟨rfl, rfl, trivial⟩ ⟨rfl, trivial⟩ rfl rfl ?_
                    refine AOR.step (LT.tstore (k := 0) (v := (.c (bC true))) (b' := true) rfl rfl (infS inf4) sz4 (by exact rfl) hx182 (by exact rfl) (by exact Nat.le_of_ble_eq_true rfl) (by exact rfl)) ⟨rfl, ⟨rfl, rfl⟩, trivial⟩ ⟨rfl, trivial⟩ rfl rfl ?_
                    refine AOR.nil ?_
                    refine AWR.nil ⟨rfl, Ent.of ⟨rfl, rfl, (congrArg (fun l1 => (some (AV.s (.c (.loc 24 0 l1))) : Option AV)) (show s112.2.length = ((s112.2.set x179.A.toNat true).set x181.B.toNat true).length by simp only [List.length_set])), rfl, rfl, trivial⟩ ⟨rfl, rfl, rfl, trivial⟩⟩
                  · refine AWR.skip ?_
                    refine AWR.nil ⟨rfl, Ent.of ⟨rfl, rfl, rfl, rfl, rfl, trivial⟩ ⟨rfl, rfl, rfl, trivial⟩⟩
                · refine AWR.blk ?_
                  refine AWR.region ?_
                  refine AOR.pure (LT.move (v := (.s (.c (iC s112.1)))) rfl) ⟨rfl, trivial⟩ trivial rfl rfl ?_
                  refine AOR.pure (LT.add rfl) ⟨rfl, ⟨rfl, rfl⟩, trivial⟩ trivial rfl rfl ?_
                  refine AOR.pure (LT.assign (v := (.s (.c (iC (w64 (s112.1 + 1)))))) rfl) ⟨rfl, trivial⟩ trivial rfl rfl ?_
                  refine AOR.nil ?_
                  refine AWR.nil ⟨rfl, Ent.of ⟨rfl, rfl, rfl, rfl, rfl, trivial⟩ ⟨rfl, rfl, rfl, trivial⟩⟩
            · refine AWR.exit_end rfl ⟨rfl, Ent.of ⟨rfl, rfl, rfl, rfl, trivial⟩ ⟨rfl, rfl, rfl, trivial⟩⟩
          · refine AWR.blk ?_
            refine AWR.region ?_
            refine AOR.pure (LT.move (v := (.s (.c (iC b159.1)))) rfl) ⟨rfl, trivial⟩ trivial rfl rfl ?_
            refine AOR.pure (LT.add rfl) ⟨rfl, ⟨rfl, rfl⟩, trivial⟩ trivial rfl rfl ?_
            refine AOR.pure (LT.assign (v := (.s (.c (iC (w64 (b159.1 + 1)))))) rfl) ⟨rfl, trivial⟩ trivial rfl rfl ?_
            refine AOR.nil ?_
            refine AWR.nil ⟨rfl, Ent.of ⟨rfl, rfl, rfl, rfl, trivial⟩ ⟨rfl, rfl, rfl, trivial⟩⟩
        · refine AWR.exit_end rfl ⟨rfl, Ent.of ⟨rfl, rfl, rfl, trivial⟩ ⟨rfl, rfl, rfl, trivial⟩⟩
      · refine AWR.seq ?_
        refine AWR.seq ?_
        refine AWR.region ?_
        refine AOR.pure (LT.assign (v := (.s (.c (iC 0)))) rfl) ⟨⟨rfl, rfl⟩, trivial⟩ trivial rfl rfl ?_
        refine AOR.nil ?_
        refine AWR.block ?_
        refine AWR.loop1 (id := 4) (m_spec_ReachOf_L5 g b110) (fun s183 => ([(2, (.s (.c (.pl 21 0)))), (5, (.s (.c (.loc 22 0 s183.2.length)))), (6, (.s (.c (.loc 24 0 b110.length)))), (9, (.s (.c (iC s183.1))))], [(21, (.row 30 [[(iC g.Points), (.pv (.xs false (g.Bars.map encTBar)))]])), (22, (.prow 3 (s183.2.map encInt))), (24, (.prow 4 (b110.map encBool)))])) (fun b198 => ([(5, (.s (.c (.loc 22 0 b198.length))))], [(22, (.prow 3 (b198.map encInt)))])) ?_ (Ent.of ⟨rfl, rfl, rfl, rfl, trivial⟩ ⟨rfl, rfl, rfl, trivial⟩) rfl (fun b198 _ => ?_)
        · intro s183
          unfold m_spec_ReachOf_L5
          refine AWR.seq ?_
          refine AWR.seq ?_
          refine AWR.region ?_
          refine AOR.pure (LT.move (v := (.s (.c (iC s183.1)))) rfl) ⟨rfl, trivial⟩ trivial rfl rfl ?_
          refine AOR.pure (LT.fieldPl rfl fo30_0) ⟨rfl, trivial⟩ trivial rfl rfl ?_
          refine AOR.pure (LT.bload1 (c := (iC g.Points)) rfl ag3 (by exact rfl)) ⟨rfl, trivial⟩ ⟨rfl, trivial⟩ rfl rfl ?_
          refine AOR.pure (LT.lss rfl) ⟨rfl, rfl, trivial⟩ trivial rfl rfl ?_
          refine AOR.nil ?_
          refine AWR.cond rfl (fun hc199 => ?_) (fun hc199 => ?_)
          · refine AWR.skip ?_
            refine AWR.seq ?_
            refine AWR.block ?_
            refine AWR.seq ?_
            refine AWR.region ?_
            refine AOR.pure (LT.move (v := (.s (.c (.loc 24 0 b110.length)))) rfl) ⟨rfl, trivial⟩ trivial rfl rfl ?_
            refine AOR.pure (LT.move (v := (.s (.c (iC s183.1)))) rfl) ⟨rfl, trivial⟩ trivial rfl rfl ?_
            refine AOR.bind fun x200 hx200 => ?_
            refine AOR.pure (LT.tindexLoc rfl rfl el152 hx200) ⟨rfl, rfl, trivial⟩ ⟨rfl, trivial⟩ rfl rfl ?_
            refine AOR.pure (LT.tload1 (k := 0) rfl ag4 hx200 (by exact rfl) (by exact rfl)) ⟨rfl, trivial⟩ ⟨rfl, trivial⟩ rfl rfl ?_
            refine AOR.nil ?_
            refine AWR.joinK (fun j203 => ([(2, (.s (.c (.pl 21 0)))), (5, (.s (.c (.loc 22 0 j203.length)))), (6, (.s (.c (.loc 24 0 b110.length)))), (9, (.s (.c (iC s183.1))))], [(21, (.row 30 [[(iC g.Points), (.pv (.xs false (g.Bars.map encTBar)))]])), (22, (.prow 3 (j203.map encInt))), (24, (.prow 4 (b110.map encBool)))])) ?_ (fun j203 _ => ?_)
            · refine AWR.cond rfl (fun hc204 => ?_) (fun hc204 => ?_)
              · refine AWR.region ?_
                refine AOR.pure (LT.move (v := (.s (.c (.loc 22 0 s183.2.length)))) rfl) ⟨rfl, trivial⟩ trivial rfl rfl ?_
                refine AOR.pure (LT.move (v := (.s (.c (iC s183.1)))) rfl) ⟨rfl, trivial⟩ trivial rfl rfl ?_
                refine AOR.step (LT.tbuildSlice (n := 25) (enc := encInt) [(0, .tmp 91, (.c (iC s183.1)))] ([s183.1] : List Int) rfl rfl und54 ti3 rfl rfl rfl rfl (by decide) (fun _ => rfl) rfl) ⟨rfl, trivial⟩ trivial rfl rfl ?_
                refine AOR.bind fun u205 hu205 => ?_
                refine AOR.step (LT.tappP (enc := encInt) rfl rfl rfl und54 ti3 rfl (by decide) (by decide) (fun _ => rfl) (lim_le hu205)) ⟨rfl, rfl, trivial⟩ ⟨rfl, rfl, trivial⟩ rfl rfl ?_
                refine AOR.pure (LT.assign (v := (.s (.c (.loc 22 0 (s183.2 ++ ([s183.1] : List Int)).length)))) rfl) ⟨rfl, trivial⟩ trivial rfl rfl ?_
                refine AOR.nil ?_
                refine AWR.nil ⟨rfl, Ent.of ⟨rfl, rfl, rfl, rfl, trivial⟩ ⟨rfl, rfl, rfl, trivial⟩⟩
              · refine AWR.skip ?_
                refine AWR.nil ⟨rfl, Ent.of ⟨rfl, rfl, rfl, rfl, trivial⟩ ⟨rfl, rfl, rfl, trivial⟩⟩
            · refine AWR.blk ?_
              refine AWR.region ?_
              refine AOR.pure (LT.move (v := (.s (.c (iC s183.1)))) rfl) ⟨rfl, trivial⟩ trivial rfl rfl ?_
              refine AOR.pure (LT.add rfl) ⟨rfl, ⟨rfl, rfl⟩, trivial⟩ trivial rfl rfl ?_
              refine AOR.pure (LT.assign (v := (.s (.c (iC (w64 (s183.1 + 1)))))) rfl) ⟨rfl, trivial⟩ trivial rfl rfl ?_
              refine AOR.nil ?_
              refine AWR.nil ⟨rfl, Ent.of ⟨rfl, rfl, rfl, rfl, trivial⟩ ⟨rfl, rfl, rfl, trivial⟩⟩
          · refine AWR.exit_end rfl ⟨rfl, Ent.of ⟨rfl, trivial⟩ ⟨rfl, trivial⟩⟩
        · refine AWR.seq ?_
          refine AWR.region ?_
          refine AOR.pure (LT.move (v := (.s (.c (.loc 22 0 b198.length)))) rfl) ⟨rfl, trivial⟩ trivial rfl rfl ?_
          refine AOR.pure (LT.assign (v := (.s (.c (.loc 22 0 b198.length)))) rfl) ⟨rfl, trivial⟩ trivial rfl rfl ?_
          refine AOR.nil ?_
          refine AWR.ent (Ent.of (σ' := [(4, (.s (.c (.loc 22 0 b198.length))))]) (m' := [(22, (.prow 3 (b198.map encInt)))]) ⟨rfl, trivial⟩ ⟨rfl, trivial⟩) ?_
          refine AWR.ent (Ent.mv 22 0 rfl rfl) ?_
          refine AWR.ent (Ent.of (σ' := [(4, (.s (.c (.loc 0 0 b198.length))))]) (m' := [(0, (.prow 3 (b198.map encInt)))]) ⟨rfl, trivial⟩ ⟨rfl, trivial⟩) ?_
          refine AWR.ret (FPost.mk (.inr rfl) ⟨rfl, trivial⟩ ⟨rfl, trivial⟩ rfl ⟨trivial, trivial⟩ ⟨PermO.prow' perm_encInt, trivial⟩)
set_option maxRecDepth 100000 in
set_option maxHeartbeats 8000000 in
theorem w_spec_IsConnected (g : TGraph) : ∀ t, m_spec_IsConnected g = some t → Fw.Fn Try.prog 97 [(.agg [(iC g.Points), (.pv (.xs false (g.Bars.map encTBar)))])] [] (.s (.c (bC t))) [] [] [] := by
  refine Fw.Fn.of (P := Try.prog) (X := []) (pn := []) (rs := (fun (t : Bool) => [(.c (bC t))])) (dfs := (fun (t : Bool) => [])) Try.func97 rfl Try.ntmps97 (Nat.le_of_ble_eq_true rfl) rfl ?_
  intro w0 U0 R0 g0
  unfold m_spec_IsConnected
  refine AWR.seq ?_
  refine AWR.region ?_
  refine AOR.step (LT.box (n := 21) (v := (.agg [(iC g.Points), (.pv (.xs false (g.Bars.map encTBar)))])) rfl sz30 (by exact rfl)) ⟨rfl, trivial⟩ trivial rfl rfl ?_
  refine AOR.pure (LT.assign (v := (.s (.c (bC false)))) rfl) ⟨⟨rfl, rfl⟩, trivial⟩ trivial rfl rfl ?_
  refine AOR.nil ?_
  refine AWR.seq ?_
  refine AWR.joinK (fun j4 => ([(2, (.s (.c (bC j4))))], [])) ?_ (fun j4 _ => ?_)
  · refine AWR.draw mixed ?_
    refine AOD.pure (LT.bloadN (out := [(iC g.Points), (.pv (.xs false (g.Bars.map encTBar)))]) rfl ag30 (infS inf30) sz30 (by exact rfl) (by exact rfl)) ⟨rfl, trivial⟩ ⟨rfl, trivial⟩ rfl rfl ?_
    refine AOD.bind fun r5 hr5 => ?_
    refine AOD.pure (@LT.callF Try.prog _ _ 94 _ _ [(.agg [(iC g.Points), (.pv (.xs false (g.Bars.map encTBar)))])] _ _ [] _ _ _ _ (w_spec_IsGraph g r5 hr5) rfl cb94 (.cons (.agg (.cons (.same rfl) (.cons (.same rfl) .nil))) .nil) rfl rfl trivial) ⟨rfl, rfl, trivial⟩ trivial rfl rfl ?_
    refine AOD.pure (LT.move (v := (.s (.c (bC r5)))) rfl) ⟨rfl, trivial⟩ trivial rfl rfl ?_
    refine AOD.split (fun hb6 => ?_) (fun hb6 => ?_)
    · refine AOD.pure (LT.bloadN (out := [(iC g.Points), (.pv (.xs false (g.Bars.map encTBar)))]) rfl ag30 (infS inf30) sz30 (by exact rfl) (by exact rfl)) ⟨rfl, trivial⟩ ⟨rfl, trivial⟩ ⟨_, rfl, .inl ⟨_, rfl, (by rw [hb6]; rfl)⟩⟩ rfl ?_
      refine AOD.bind fun r7 hr7 => ?_
      refine AOD.step (@LT.callF Try.prog _ _ 168 _ _ [(.agg [(iC g.Points), (.pv (.xs false (g.Bars.map encTBar)))]), (.c (iC 0))] _ _ [] _ _ _ _ ((show Fw.Fn Try.prog 168 [(.agg [(iC g.Points), (.pv (.xs false (g.Bars.map encTBar)))]), (.c (iC 0))] [] (.s (.c (.loc 24 0 r7.length))) [(24, (.prow 3 (r7.map encInt)))] [] [24] from Fw.Fn.ren [(0, 24)] (w_spec_ReachOf g 0 r7 hr7) rfl)) rfl cb168 (.cons (.agg (.cons (.same rfl) (.cons (.same rfl) .nil))) (.cons (.c (.same rfl)) .nil)) rfl rfl trivial) ⟨rfl, rfl, ⟨rfl, rfl⟩, trivial⟩ trivial ⟨_, rfl, .inl ⟨_, rfl, (by rw [hb6]; rfl)⟩⟩ rfl ?_
      refine AOD.pure (LT.lenLoc rfl und54) ⟨rfl, trivial⟩ trivial ⟨_, rfl, .inl ⟨_, rfl, (by rw [hb6]; rfl)⟩⟩ rfl ?_
      refine AOD.pure (LT.fieldPl rfl fo30_0) ⟨rfl, trivial⟩ trivial ⟨_, rfl, .inl ⟨_, rfl, (by rw [hb6]; rfl)⟩⟩ rfl ?_
      refine AOD.pure (LT.bload1 (c := (iC g.Points)) rfl ag3 (by exact rfl)) ⟨rfl, trivial⟩ ⟨rfl, trivial⟩ ⟨_, rfl, .inl ⟨_, rfl, (by rw [hb6]; rfl)⟩⟩ rfl ?_
      refine AOD.pure (LT.eql rfl) ⟨rfl, rfl, trivial⟩ trivial ⟨_, rfl, .inl ⟨_, rfl, (by rw [hb6]; rfl)⟩⟩ rfl ?_
      refine AOD.pure (LT.pickT (v := (.s (.c (bC ((r7.length : Int) == g.Points))))) rfl hb6) ⟨rfl, rfl, trivial⟩ trivial rfl rfl ?_
      refine AOD.pure (LT.assign (v := (.s (.c (bC ((r7.length : Int) == g.Points))))) rfl) ⟨rfl, trivial⟩ trivial rfl rfl ?_
      refine AOD.nil (by kernel_rfl) ?_
      refine AWR.nil ⟨rfl, Ent.of ⟨rfl, trivial⟩ trivial⟩
    · refine AOD.skip ⟨_, rfl, .inl ⟨_, rfl, (by rw [hb6]; rfl)⟩⟩ rfl ?_
      refine AOD.skip ⟨_, rfl, .inl ⟨_, rfl, (by rw [hb6]; rfl)⟩⟩ rfl ?_
      refine AOD.skip ⟨_, rfl, .inl ⟨_, rfl, (by rw [hb6]; rfl)⟩⟩ rfl ?_
      refine AOD.skip ⟨_, rfl, .inl ⟨_, rfl, (by rw [hb6]; rfl)⟩⟩ rfl ?_
      refine AOD.skip ⟨_, rfl, .inl ⟨_, rfl, (by rw [hb6]; rfl)⟩⟩ rfl ?_
      refine AOD.skip ⟨_, rfl, .inl ⟨_, rfl, (by rw [hb6]; rfl)⟩⟩ rfl ?_
      refine AOD.pure (LT.pickF (v := (.s (.c (bC false)))) rfl hb6) ⟨rfl, ⟨rfl, rfl⟩, trivial⟩ trivial rfl rfl ?_
      refine AOD.pure (LT.assign (v := (.s (.c (bC false)))) rfl) ⟨rfl, trivial⟩ trivial rfl rfl ?_
      refine AOD.nil (by kernel_rfl) ?_
      refine AWR.nil ⟨rfl, Ent.of ⟨rfl, trivial⟩ trivial⟩
  · refine AWR.ret (FPost.mk (.inr rfl) ⟨rfl, trivial⟩ trivial rfl ⟨PermP.sc, trivial⟩ trivial)
set_option maxRecDepth 100000 in
set_option maxHeartbeats 8000000 in
theorem w_spec_CutSets (g : TGraph) (k : Int) : ∀ t, m_spec_CutSets g k = some t → Fw.Fn Try.prog 16 [(.agg [(iC g.Points), (.pv (.xs false (g.Bars.map encTBar)))]), (.c (iC k))] [] (.s (.c (.loc 0 0 t.length))) [(0, (.prow 54 (t.map (encLInt true))))] [] [0] := by
  refine Fw.Fn.ofU (P := Try.prog) (X := [0]) (pn := []) (rs := (fun (t : (List (List Int))) => [(.c (.loc 0 0 t.length))])) (dfs := (fun (t : (List (List Int))) => [(0, (.prow 54 (t.map (encLInt true))))])) Try.func16 rfl Try.ntmps16 (Nat.le_of_ble_eq_true rfl) rfl ?_
  intro w0 U0 R0 g0 hU
  unfold m_spec_CutSets
  refine AWR.seq ?_
  refine AWR.region ?_
  refine AOR.step (LT.box (n := 21) (v := (.agg [(iC g.Points), (.pv (.xs false (g.Bars.map encTBar)))])) rfl sz30 (by exact rfl)) ⟨rfl, trivial⟩ trivial rfl rfl ?_
  refine AOR.pure (LT.assign (v := (.s (.c (sC nilV)))) rfl) ⟨⟨rfl, rfl⟩, trivial⟩ trivial rfl rfl ?_
  refine AOR.nil ?_
  refine AWR.seq ?_
  refine AWR.region ?_
  refine AOR.step (LT.tbuildSlice (n := 22) (enc := (encLInt true)) [] ([] : List (List Int)) rfl rfl und26 ti54 rfl rfl rfl rfl (by decide) (fun _ => rfl) rfl) trivial trivial rfl rfl ?_
  refine AOR.pure (LT.assign (v := (.s (.c (.loc 22 0 ([] : List (List Int)).length)))) rfl) ⟨rfl, trivial⟩ trivial rfl rfl ?_
  refine AOR.nil ?_
  refine AWR.seq ?_
  refine AWR.seq ?_
  refine AWR.joinK (fun j4 => ([(1, (.s (.c (iC k)))), (2, (.s (.c (.pl 21 0)))), (5, (.s (.c (.loc 22 0 ([] : List (List Int)).length)))), (16, (.s (.c (bC j4))))], [(21, (.row 30 [[(iC g.Points), (.pv (.xs false (g.Bars.map encTBar)))]])), (22, (.prow 54 (([] : List (List Int)).map (encLInt true))))])) ?_ (fun j4 _ => ?_)
  · refine AWR.region ?_
    refine AOR.pure (LT.bloadN (out := [(iC g.Points), (.pv (.xs false (g.Bars.map encTBar)))]) rfl ag30 (infS inf30) sz30 (by exact rfl) (by exact rfl)) ⟨rfl, trivial⟩ ⟨rfl, trivial⟩ rfl rfl ?_
    refine AOR.bind fun r5 hr5 => ?_
    refine AOR.pure (@LT.callF Try.prog _ _ 94 _ _ [(.agg [(iC g.Points), (.pv (.xs false (g.Bars.map encTBar)))])] _ _ [] _ _ _ _ (w_spec_IsGraph g r5 hr5) rfl cb94 (.cons (.agg (.cons (.same rfl) (.cons (.same rfl) .nil))) .nil) rfl rfl trivial) ⟨rfl, rfl, trivial⟩ trivial rfl rfl ?_
    refine AOR.pure (LT.not rfl) ⟨rfl, trivial⟩ trivial rfl rfl ?_
    refine AOR.pure (LT.move (v := (.s (.c (bC (!r5))))) rfl) ⟨rfl, trivial⟩ trivial rfl rfl ?_
    refine AOR.split (fun hb6 => ?_) (fun hb6 => ?_)
    · refine AOR.skip ⟨_, rfl, .inl ⟨_, rfl, (by rw [hb6]; rfl)⟩⟩ rfl ?_
      refine AOR.skip ⟨_, rfl, .inl ⟨_, rfl, (by rw [hb6]; rfl)⟩⟩ rfl ?_
      refine AOR.skip ⟨_, rfl, .inl ⟨_, rfl, (by rw [hb6]; rfl)⟩⟩ rfl ?_
      refine AOR.pure (LT.pickT (v := (.s (.c (bC true)))) rfl hb6) ⟨rfl, ⟨rfl, rfl⟩, trivial⟩ trivial rfl rfl ?_
      refine AOR.nil ?_
      refine AWR.nil ⟨rfl, Ent.of ⟨rfl, rfl, rfl, rfl, trivial⟩ ⟨rfl, rfl, trivial⟩⟩
    · refine AOR.pure (LT.move (v := (.s (.c (iC k)))) rfl) ⟨rfl, trivial⟩ trivial ⟨_, rfl, .inl ⟨_, rfl, (by rw [hb6]; rfl)⟩⟩ rfl ?_
      refine AOR.bind fun r7 hr7 => ?_
      refine AOR.pure (@LT.callF Try.prog _ _ 95 _ _ [(.c (iC k)), (.c (iC 0)), (.c (iC 3))] _ _ [] _ _ _ _ (w_spec_l1In k 0 3 r7 hr7) rfl cb95 (.cons (.c (.same rfl)) (.cons (.c (.same rfl)) (.cons (.c (.same rfl)) .nil))) rfl rfl trivial) ⟨rfl, rfl, ⟨rfl, rfl⟩, ⟨rfl, rfl⟩, trivial⟩ trivial ⟨_, rfl, .inl ⟨_, rfl, (by rw [hb6]; rfl)⟩⟩ rfl ?_
      refine AOR.pure (LT.not rfl) ⟨rfl, trivial⟩ trivial ⟨_, rfl, .inl ⟨_, rfl, (by rw [hb6]; rfl)⟩⟩ rfl ?_
      refine AOR.pure (LT.pickF (v := (.s (.c (bC (!r7))))) rfl hb6) ⟨rfl, rfl, trivial⟩ trivial rfl rfl ?_
      refine AOR.nil ?_
      refine AWR.nil ⟨rfl, Ent.of ⟨rfl, rfl, rfl, rfl, trivial⟩ ⟨rfl, rfl, trivial⟩⟩
  · refine AWR.cond rfl (fun hc8 => ?_) (fun hc8 => ?_)
    · refine AWR.seq ?_
      refine AWR.region ?_
      refine AOR.pure (LT.move (v := (.s (.c (.loc 22 0 ([] : List (List Int)).length)))) rfl) ⟨rfl, trivial⟩ trivial rfl rfl ?_
      refine AOR.pure (LT.assign (v := (.s (.c (.loc 22 0 ([] : List (List Int)).length)))) rfl) ⟨rfl, trivial⟩ trivial rfl rfl ?_
      refine AOR.nil ?_
      refine AWR.ent (Ent.of (σ' := [(4, (.s (.c (.loc 22 0 ([] : List (List Int)).length))))]) (m' := [(22, (.prow 54 (([] : List (List Int)).map (encLInt true))))]) ⟨rfl, trivial⟩ ⟨rfl, trivial⟩) ?_
      refine AWR.ent (Ent.mv 22 0 rfl rfl) ?_
      refine AWR.ent (Ent.of (σ' := [(4, (.s (.c (.loc 0 0 ([] : List (List Int)).length))))]) (m' := [(0, (.prow 54 (([] : List (List Int)).map (encLInt true))))]) ⟨rfl, trivial⟩ ⟨rfl, trivial⟩) ?_
      refine AWR.ret (FPost.mk (.inr rfl) ⟨rfl, trivial⟩ ⟨rfl, trivial⟩ rfl ⟨trivial, trivial⟩ ⟨PermO.prow' perm_encLInt, trivial⟩)
    · refine AWR.skip ?_
      refine AWR.seq ?_
      refine AWR.seq ?_
      refine AWR.region ?_
      refine AOR.pure (LT.assign (v := (.s (.c (iC 0)))) rfl) ⟨⟨rfl, rfl⟩, trivial⟩ trivial rfl rfl ?_
      refine AOR.nil ?_
      refine AWR.block ?_
      refine AWR.loop1 (id := 0) (m_spec_CutSets_L1 g k) (fun s9 => ([(1, (.s (.c (iC k)))), (2, (.s (.c (.pl 21 0)))), (5, (.s (.c (.loc 22 0 s9.2.length)))), (6, (.s (.c (iC s9.1))))], [(21, (.row 30 [[(iC g.Points), (.pv (.xs false (g.Bars.map encTBar)))]])), (22, (.prow 54 (s9.2.map (encLInt true))))])) (fun b44 => ([(5, (.s (.c (.loc 22 0 b44.length))))], [(22, (.prow 54 (b44.map (encLInt true))))])) ?_ (Ent.of ⟨rfl, rfl, rfl, rfl, trivial⟩ ⟨rfl, rfl, trivial⟩) rfl (fun b44 _ => ?_)
      · intro s9
        unfold m_spec_CutSets_L1
        refine AWR.seq ?_
        refine AWR.seq ?_
        refine AWR.region ?_
        refine AOR.pure (LT.move (v := (.s (.c (iC s9.1)))) rfl) ⟨rfl, trivial⟩ trivial rfl rfl ?_
        refine AOR.pure (LT.fieldPl rfl fo30_0) ⟨rfl, trivial⟩ trivial rfl rfl ?_
        refine AOR.pure (LT.bload1 (c := (iC g.Points)) rfl ag3 (by exact rfl)) ⟨rfl, trivial⟩ ⟨rfl, trivial⟩ rfl rfl ?_
        refine AOR.bind fun u45 hu45 => ?_
        refine AOR.pure (LT.shl rfl (nn_le hu45)) ⟨⟨rfl, rfl⟩, rfl, trivial⟩ trivial rfl rfl ?_
        refine AOR.pure (LT.lss rfl) ⟨rfl, rfl, trivial⟩ trivial rfl rfl ?_
        refine AOR.nil ?_
        refine AWR.cond rfl (fun hc46 => ?_) (fun hc46 => ?_)
        · refine AWR.skip ?_
          refine AWR.seq ?_
          refine AWR.block ?_
          refine AWR.seq ?_
          refine AWR.region ?_
          refine AOR.pure (LT.fieldPl rfl fo30_0) ⟨rfl, trivial⟩ trivial rfl rfl ?_
          refine AOR.pure (LT.bload1 (c := (iC g.Points)) rfl ag3 (by exact rfl)) ⟨rfl, trivial⟩ ⟨rfl, trivial⟩ rfl rfl ?_
          refine AOR.pure (LT.move (v := (.s (.c (iC s9.1)))) rfl) ⟨rfl, trivial⟩ trivial rfl rfl ?_
          refine AOR.bind fun r47 hr47 => ?_
          refine AOR.step (@LT.callF Try.prog _ _ 96 _ _ [(.c (iC g.Points)), (.c (iC s9.1))] _ _ [] _ _ _ _ ((show Fw.Fn Try.prog 96 [(.c (iC g.Points)), (.c (iC s9.1))] [] (.s (.c (.loc 26 0 r47.length))) [(26, (.prow 3 (r47.map encInt)))] [] [26] from Fw.Fn.ren [(0, 26)] (w_spec_l3Set g.Points s9.1 r47 hr47) rfl)) rfl cb96 (.cons (.c (.same rfl)) (.cons (.c (.same rfl)) .nil)) rfl rfl trivial) ⟨rfl, rfl, rfl, trivial⟩ trivial rfl rfl ?_
          refine AOR.pure (LT.assign (v := (.s (.c (.loc 26 0 r47.length)))) rfl) ⟨rfl, trivial⟩ trivial rfl rfl ?_
          refine AOR.nil ?_
          refine AWR.seq ?_
          refine AWR.joinK (fun j52 => ([(1, (.s (.c (iC k)))), (2, (.s (.c (.pl 21 0)))), (5, (.s (.c (.loc 22 0 s9.2.length)))), (6, (.s (.c (iC s9.1)))), (7, (.s (.c (.loc 26 0 r47.length)))), (46, (.s (.c (bC j52))))], [(21, (.row 30 [[(iC g.Points), (.pv (.xs false (g.Bars.map encTBar)))]])), (22, (.prow 54 (s9.2.map (encLInt true)))), (26, (.prow 3 (r47.map encInt)))])) ?_ (fun j52 _ => ?_)
          · refine AWR.ent (Ent.of (σ' := [(1, (.s (.c (iC k)))), (2, (.s (.c (.pl 21 0)))), (5, (.s (.c (.loc 22 0 s9.2.length)))), (6, (.s (.c (iC s9.1)))), (7, (.s (.c (.loc 26 0 r47.length))))]) (m' := [(21, (.row 30 [[(iC g.Points), (.pv (.xs false (g.Bars.map encTBar)))]])), (22, (.prow 54 (s9.2.map (encLInt true)))), (26, (.prow 3 (r47.map encInt)))]) ⟨rfl, rfl, rfl, rfl, rfl, trivial⟩ ⟨rfl, rfl, rfl, trivial⟩) ?_
            refine AWR.region ?_
            refine AOR.pure (LT.move (v := (.s (.c (.loc 26 0 r47.length)))) rfl) ⟨rfl, trivial⟩ trivial rfl rfl ?_
            refine AOR.pure (LT.lenLoc rfl und54) ⟨rfl, trivial⟩ trivial rfl rfl ?_
            refine AOR.pure (LT.move (v := (.s (.c (iC k)))) rfl) ⟨rfl, trivial⟩ trivial rfl rfl ?_
            refine AOR.pure (LT.eql rfl) ⟨rfl, rfl, trivial⟩ trivial rfl rfl ?_
            refine AOR.pure (LT.move (v := (.s (.c (bC ((r47.length : Int) == k))))) rfl) ⟨rfl, trivial⟩ trivial rfl rfl ?_
            refine AOR.split (fun hb53 => ?_) (fun hb53 => ?_)
            · refine AOR.pure (LT.fieldPl rfl fo30_0) ⟨rfl, trivial⟩ trivial ⟨_, rfl, .inl ⟨_, rfl, (by rw [hb53]; rfl)⟩⟩ rfl ?_
              refine AOR.pure (LT.bload1 (c := (iC g.Points)) rfl ag3 (by exact rfl)) ⟨rfl, trivial⟩ ⟨rfl, trivial⟩ ⟨_, rfl, .inl ⟨_, rfl, (by rw [hb53]; rfl)⟩⟩ rfl ?_
              refine AOR.pure (LT.move (v := (.s (.c (iC k)))) rfl) ⟨rfl, trivial⟩ trivial ⟨_, rfl, .inl ⟨_, rfl, (by rw [hb53]; rfl)⟩⟩ rfl ?_
              refine AOR.pure (LT.sub rfl) ⟨rfl, rfl, trivial⟩ trivial ⟨_, rfl, .inl ⟨_, rfl, (by rw [hb53]; rfl)⟩⟩ rfl ?_
              refine AOR.pure (LT.geq rfl) ⟨rfl, ⟨rfl, rfl⟩, trivial⟩ trivial ⟨_, rfl, .inl ⟨_, rfl, (by rw [hb53]; rfl)⟩⟩ rfl ?_
              refine AOR.pure (LT.pickT (v := (.s (.c (bC (decide (2 ≤ (w64 (g.Points - k)))))))) rfl hb53) ⟨rfl, rfl, trivial⟩ trivial rfl rfl ?_
              refine AOR.pure (LT.move (v := (.s (.c (bC (decide (2 ≤ (w64 (g.Points - k)))))))) rfl) ⟨rfl, trivial⟩ trivial rfl rfl ?_
              refine AOR.split (fun hb54 => ?_) (fun hb54 => ?_)
              · refine AOR.pure (LT.bloadN (out := [(iC g.Points), (.pv (.xs false (g.Bars.map encTBar)))]) rfl ag30 (infS inf30) sz30 (by exact rfl) (by exact rfl)) ⟨rfl, trivial⟩ ⟨rfl, trivial⟩ ⟨_, rfl, .inl ⟨_, rfl, (by rw [hb54]; rfl)⟩⟩ rfl ?_
                refine AOR.pure (LT.move (v := (.s (.c (.loc 26 0 r47.length)))) rfl) ⟨rfl, trivial⟩ trivial ⟨_, rfl, .inl ⟨_, rfl, (by rw [hb54]; rfl)⟩⟩ rfl ?_
                refine AOR.bind fun r55 hr55 => ?_
                refine AOR.step (@LT.callF Try.prog _ _ 98 _ _ [(.agg [(iC g.Points), (.pv (.xs false (g.Bars.map encTBar)))]), (.c (.loc 26 0 r47.length))] _ _ [(26, (.prow 3 (r47.map encInt)))] _ _ _ _ ((show Fw.Fn Try.prog 98 [(.agg [(iC g.Points), (.pv (.xs false (g.Bars.map encTBar)))]), (.c (.pv (.xs false (r47.map encInt))))] [] (.s (.agg [(iC r55.Points), (.loc 28 0 r55.Bars.length)])) [(28, (.prow 88 (r55.Bars.map encTBar)))] [] [28] from Fw.Fn.ren [(0, 28)] (w_spec_WithoutPoints g r47 r55 hr55) rfl)) rfl cb98 (.cons (.agg (.cons (.same rfl) (.cons (.same rfl) .nil))) (.cons (.c (.tloc rfl rfl)) .nil)) rfl rfl trivial) ⟨rfl, rfl, rfl, trivial⟩ ⟨rfl, trivial⟩ ⟨_, rfl, .inl ⟨_, rfl, (by rw [hb54]; rfl)⟩⟩ rfl ?_
                refine AOR.bind fun r56 hr56 => ?_
                refine AOR.pure (@LT.callF Try.prog _ _ 97 _ _ [(.agg [(iC r55.Points), (.loc 28 0 r55.Bars.length)])] _ _ [(28, (.prow 88 (r55.Bars.map encTBar)))] _ _ _ _ (w_spec_IsConnected r55 r56 hr56) rfl cb97 (.cons (.agg (.cons (.same rfl) (.cons (.tloc rfl rfl) .nil))) .nil) rfl rfl trivial) ⟨rfl, rfl, trivial⟩ ⟨rfl, trivial⟩ ⟨_, rfl, .inl ⟨_, rfl, (by rw [hb54]; rfl)⟩⟩ rfl ?_
                refine AOR.pure (LT.not rfl) ⟨rfl, trivial⟩ trivial ⟨_, rfl, .inl ⟨_, rfl, (by rw [hb54]; rfl)⟩⟩ rfl ?_
                refine AOR.pure (LT.pickT (v := (.s (.c (bC (!r56))))) rfl hb54) ⟨rfl, rfl, trivial⟩ trivial rfl rfl ?_
                refine AOR.nil ?_
                refine AWR.nil ⟨rfl, Ent.of ⟨rfl, rfl, rfl, rfl, rfl, rfl, trivial⟩ ⟨rfl, rfl, rfl, trivial⟩⟩
              · refine AOR.skip ⟨_, rfl, .inl ⟨_, rfl, (by rw [hb54]; rfl)⟩⟩ rfl ?_
                refine AOR.skip ⟨_, rfl, .inl ⟨_, rfl, (by rw [hb54]; rfl)⟩⟩ rfl ?_
                refine AOR.skip ⟨_, rfl, .inl ⟨_, rfl, (by rw [hb54]; rfl)⟩⟩ rfl ?_
                refine AOR.skip ⟨_, rfl, .inl ⟨_, rfl, (by rw [hb54]; rfl)⟩⟩ rfl ?_
                refine AOR.skip ⟨_, rfl, .inl ⟨_, rfl, (by rw [hb54]; rfl)⟩⟩ rfl ?_
                refine AOR.pure (LT.pickF (v := (.s (.c (bC false)))) rfl hb54) ⟨rfl, ⟨rfl, rfl⟩, trivial⟩ trivial rfl rfl ?_
                refine AOR.nil ?_
                refine AWR.nil ⟨rfl, Ent.of ⟨rfl, rfl, rfl, rfl, rfl, rfl, trivial⟩ ⟨rfl, rfl, rfl, trivial⟩⟩
            · refine AOR.skip ⟨_, rfl, .inl ⟨_, rfl, (by rw [hb53]; rfl)⟩⟩ rfl ?_
              refine AOR.skip ⟨_, rfl, .inl ⟨_, rfl, (by rw [hb53]; rfl)⟩⟩ rfl ?_
              refine AOR.skip ⟨_, rfl, .inl ⟨_, rfl, (by rw [hb53]; rfl)⟩⟩ rfl ?_
              refine AOR.skip ⟨_, rfl, .inl ⟨_, rfl, (by rw [hb53]; rfl)⟩⟩ rfl ?_
              refine AOR.skip ⟨_, rfl, .inl ⟨_, rfl, (by rw [hb53]; rfl)⟩⟩ rfl ?_
              refine AOR.pure (LT.pickF (v := (.s (.c (bC false)))) rfl hb53) ⟨rfl, ⟨rfl, rfl⟩, trivial⟩ trivial rfl rfl ?_
              refine AOR.pure (LT.move (v := (.s (.c (bC false)))) rfl) ⟨rfl, trivial⟩ trivial rfl rfl ?_
              refine AOR.skip ⟨_, rfl, .inl ⟨_, rfl, rfl⟩⟩ rfl ?_
              refine AOR.skip ⟨_, rfl, .inl ⟨_, rfl, rfl⟩⟩ rfl ?_
              refine AOR.skip ⟨_, rfl, .inl ⟨_, rfl, rfl⟩⟩ rfl ?_
              refine AOR.skip ⟨_, rfl, .inl ⟨_, rfl, rfl⟩⟩ rfl ?_
              refine AOR.skip ⟨_, rfl, .inl ⟨_, rfl, rfl⟩⟩ rfl ?_
              refine AOR.pure (LT.pickF (v := (.s (.c (bC false)))) rfl rfl) ⟨rfl, ⟨rfl, rfl⟩, trivial⟩ trivial rfl rfl ?_
              refine AOR.nil ?_
              refine AWR.nil ⟨rfl, Ent.of ⟨rfl, rfl, rfl, rfl, rfl, rfl, trivial⟩ ⟨rfl, rfl, rfl, trivial⟩⟩
          · refine AWR.joinK (fun j59 => ([(1, (.s (.c (iC k)))), (2, (.s (.c (.pl 21 0)))), (5, (.s (.c (.loc 22 0 j59.length)))), (6, (.s (.c (iC s9.1))))], [(21, (.row 30 [[(iC g.Points), (.pv (.xs false (g.Bars.map encTBar)))]])), (22, (.prow 54 (j59.map (encLInt true))))])) ?_ (fun j59 _ => ?_)
            · refine AWR.cond rfl (fun hc60 => ?_) (fun hc60 => ?_)
              · refine AWR.region ?_
                refine AOR.pure (LT.move (v := (.s (.c (.loc 22 0 s9.2.length)))) rfl) ⟨rfl, trivial⟩ trivial rfl rfl ?_
                refine AOR.pure (LT.move (v := (.s (.c (.loc 26 0 r47.length)))) rfl) ⟨rfl, trivial⟩ trivial rfl rfl ?_
                refine AOR.ent (Ent.freezeS (enc := encInt) 48 26 hU rfl rfl rfl rfl) ?_
                refine AOR.step (LT.tbuildSlice (n := 30) (enc := (encLInt true)) [(0, .tmp 48, (.c (.pv (.xs true (r47.map encInt)))))] [r47] rfl rfl und26 ti54 rfl rfl rfl rfl (by decide) (fun _ => rfl) rfl) ⟨rfl, trivial⟩ trivial rfl rfl ?_
                refine AOR.bind fun u61 hu61 => ?_
                refine AOR.step (LT.tappP (enc := (encLInt true)) rfl rfl rfl und26 ti54 rfl (by decide) (by decide) (fun _ => rfl) (lim_le hu61)) ⟨rfl, rfl, trivial⟩ ⟨rfl, rfl, trivial⟩ rfl rfl ?_
                refine AOR.pure (LT.assign (v := (.s (.c (.loc 22 0 (s9.2 ++ [r47]).length)))) rfl) ⟨rfl, trivial⟩ trivial rfl rfl ?_
                refine AOR.nil ?_
                refine AWR.nil ⟨rfl, Ent.of ⟨rfl, rfl, rfl, rfl, trivial⟩ ⟨rfl, rfl, trivial⟩⟩
              · refine AWR.skip ?_
                refine AWR.nil ⟨rfl, Ent.of ⟨rfl, rfl, rfl, rfl, trivial⟩ ⟨rfl, rfl, trivial⟩⟩
            · refine AWR.blk ?_
              refine AWR.region ?_
              refine AOR.pure (LT.move (v := (.s (.c (iC s9.1)))) rfl) ⟨rfl, trivial⟩ trivial rfl rfl ?_
              refine AOR.pure (LT.add rfl) ⟨rfl, ⟨rfl, rfl⟩, trivial⟩ trivial rfl rfl ?_
              refine AOR.pure (LT.assign (v := (.s (.c (iC (w64 (s9.1 + 1)))))) rfl) ⟨rfl, trivial⟩ trivial rfl rfl ?_
              refine AOR.nil ?_
              refine AWR.nil ⟨rfl, Ent.of ⟨rfl, rfl, rfl, rfl, trivial⟩ ⟨rfl, rfl, trivial⟩⟩
        · refine AWR.exit_end rfl ⟨rfl, Ent.of ⟨rfl, trivial⟩ ⟨rfl, trivial⟩⟩
      · refine AWR.seq ?_
        refine AWR.region ?_
        refine AOR.pure (LT.move (v := (.s (.c (.loc 22 0 b44.length)))) rfl) ⟨rfl, trivial⟩ trivial rfl rfl ?_
        refine AOR.pure (LT.assign (v := (.s (.c (.loc 22 0 b44.length)))) rfl) ⟨rfl, trivial⟩ trivial rfl rfl ?_
        refine AOR.nil ?_
        refine AWR.ent (Ent.of (σ' := [(4, (.s (.c (.loc 22 0 b44.length))))]) (m' := [(22, (.prow 54 (b44.map (encLInt true))))]) ⟨rfl, trivial⟩ ⟨rfl, trivial⟩) ?_
        refine AWR.ent (Ent.mv 22 0 rfl rfl) ?_
        refine AWR.ent (Ent.of (σ' := [(4, (.s (.c (.loc 0 0 b44.length))))]) (m' := [(0, (.prow 54 (b44.map (encLInt true))))]) ⟨rfl, trivial⟩ ⟨rfl, trivial⟩) ?_
        refine AWR.ret (FPost.mk (.inr rfl) ⟨rfl, trivial⟩ ⟨rfl, trivial⟩ rfl ⟨trivial, trivial⟩ ⟨PermO.prow' perm_encLInt, trivial⟩)
set_option maxRecDepth 100000 in
set_option maxHeartbeats 8000000 in
theorem w_impl_setOf (mask : Int) (n : Int) : ∀ t, m_impl_setOf mask n = some t → Fw.Fn Try.prog 102 [(.c (iC mask)), (.c (iC n))] [] (.s (.c (.loc 0 0 t.length))) [(0, (.prow 3 (t.map encInt)))] [] [0] := by
  refine Fw.Fn.of (P := Try.prog) (X := [0]) (pn := []) (rs := (fun (t : (List Int)) => [(.c (.loc 0 0 t.length))])) (dfs := (fun (t : (List Int)) => [(0, (.prow 3 (t.map encInt)))])) Try.func102 rfl Try.ntmps102 (Nat.le_of_ble_eq_true rfl) rfl ?_
  intro w0 U0 R0 g0
  unfold m_impl_setOf
  refine AWR.seq ?_
  refine AWR.region ?_
  refine AOR.pure (LT.assign (v := (.s (.c (sC nilV)))) rfl) ⟨⟨rfl, rfl⟩, trivial⟩ trivial rfl rfl ?_
  refine AOR.nil ?_
  refine AWR.seq ?_
  refine AWR.region ?_
  refine AOR.step (LT.tbuildSlice (n := 21) (enc := encInt) [] ([] : List Int) rfl rfl und54 ti3 rfl rfl rfl rfl (by decide) (fun _ => rfl) rfl) trivial trivial rfl rfl ?_
  refine AOR.pure (LT.assign (v := (.s (.c (.loc 21 0 ([] : List Int).length)))) rfl) ⟨rfl, trivial⟩ trivial rfl rfl ?_
  refine AOR.nil ?_
  refine AWR.seq ?_
  refine AWR.seq ?_
  refine AWR.region ?_
  refine AOR.pure (LT.move (v := (.s (.c (iC n)))) rfl) ⟨rfl, trivial⟩ trivial rfl rfl ?_
  refine AOR.pure (LT.move (v := (.s (.c (iC 0)))) rfl) ⟨⟨rfl, rfl⟩, trivial⟩ trivial rfl rfl ?_
  refine AOR.nil ?_
  refine AWR.block ?_
  refine AWR.loop1 (id := 0) (m_impl_setOf_L1 mask n) (fun s1 => ([(0, (.s (.c (iC mask)))), (5, (.s (.c (.loc 21 0 s1.2.length)))), (8, (.s (.c (iC n)))), (9, (.s (.c (iC s1.1))))], [(21, (.prow 3 (s1.2.map encInt)))])) (fun b15 => ([(5, (.s (.c (.loc 21 0 b15.length))))], [(21, (.prow 3 (b15.map encInt)))])) ?_ (Ent.of ⟨rfl, rfl, rfl, rfl, trivial⟩ ⟨rfl, trivial⟩) rfl (fun b15 _ => ?_)
  · intro s1
    unfold m_impl_setOf_L1
    refine AWR.seq ?_
    refine AWR.region ?_
    refine AOR.pure (LT.lss rfl) ⟨rfl, rfl, trivial⟩ trivial rfl rfl ?_
    refine AOR.nil ?_
    refine AWR.seq ?_
    refine AWR.cond rfl (fun hc16 => ?_) (fun hc16 => ?_)
    · refine AWR.skip ?_
      refine AWR.seq ?_
      refine AWR.block ?_
      refine AWR.seq ?_
      refine AWR.region ?_
      refine AOR.pure (LT.move (v := (.s (.c (iC s1.1)))) rfl) ⟨rfl, trivial⟩ trivial rfl rfl ?_
      refine AOR.pure (LT.assign (v := (.s (.c (iC s1.1)))) rfl) ⟨rfl, trivial⟩ trivial rfl rfl ?_
      refine AOR.nil ?_
      refine AWR.seq ?_
      refine AWR.region ?_
      refine AOR.pure (LT.move (v := (.s (.c (iC mask)))) rfl) ⟨rfl, trivial⟩ trivial rfl rfl ?_
      refine AOR.pure (LT.move (v := (.s (.c (iC s1.1)))) rfl) ⟨rfl, trivial⟩ trivial rfl rfl ?_
      refine AOR.bind fun u17 hu17 => ?_
      refine AOR.pure (LT.shr rfl (nn_le hu17)) ⟨rfl, rfl, trivial⟩ trivial rfl rfl ?_
      refine AOR.pure (LT.and rfl) ⟨rfl, ⟨rfl, rfl⟩, trivial⟩ trivial rfl rfl ?_
      refine AOR.pure (LT.eql rfl) ⟨rfl, ⟨rfl, rfl⟩, trivial⟩ trivial rfl rfl ?_
      refine AOR.nil ?_
      refine AWR.joinK (fun j20 => ([(0, (.s (.c (iC mask)))), (5, (.s (.c (.loc 21 0 j20.length)))), (8, (.s (.c (iC n)))), (9, (.s (.c (iC s1.1))))], [(21, (.prow 3 (j20.map encInt)))])) ?_ (fun j20 _ => ?_)
      · refine AWR.cond rfl (fun hc21 => ?_) (fun hc21 => ?_)
        · refine AWR.region ?_
          refine AOR.pure (LT.move (v := (.s (.c (.loc 21 0 s1.2.length)))) rfl) ⟨rfl, trivial⟩ trivial rfl rfl ?_
          refine AOR.pure (LT.move (v := (.s (.c (iC s1.1)))) rfl) ⟨rfl, trivial⟩ trivial rfl rfl ?_
          refine AOR.step (LT.tbuildSlice (n := 22) (enc := encInt) [(0, .tmp 18, (.c (iC s1.1)))] ([s1.1] : List Int) rfl rfl und54 ti3 rfl rfl rfl rfl (by decide) (fun _ => rfl) rfl) ⟨rfl, trivial⟩ trivial rfl rfl ?_
          refine AOR.bind fun u22 hu22 => ?_
          refine AOR.step (LT.tappP (enc := encInt) rfl rfl rfl und54 ti3 rfl (by decide) (by decide) (fun _ => rfl) (lim_le hu22)) ⟨rfl, rfl, trivial⟩ ⟨rfl, rfl, trivial⟩ rfl rfl ?_
          refine AOR.pure (LT.assign (v := (.s (.c (.loc 21 0 (s1.2 ++ ([s1.1] : List Int)).length)))) rfl) ⟨rfl, trivial⟩ trivial rfl rfl ?_
          refine AOR.nil ?_
          refine AWR.nil ⟨rfl, Ent.of ⟨rfl, rfl, rfl, rfl, trivial⟩ ⟨rfl, trivial⟩⟩
        · refine AWR.skip ?_
          refine AWR.nil ⟨rfl, Ent.of ⟨rfl, rfl, rfl, rfl, trivial⟩ ⟨rfl, trivial⟩⟩
      · refine AWR.blk ?_
        refine AWR.region ?_
        refine AOR.pure (LT.add rfl) ⟨rfl, ⟨rfl, rfl⟩, trivial⟩ trivial rfl rfl ?_
        refine AOR.pure (LT.move (v := (.s (.c (iC (w64 (s1.1 + 1)))))) rfl) ⟨rfl, trivial⟩ trivial rfl rfl ?_
        refine AOR.nil ?_
        refine AWR.nil ⟨rfl, Ent.of ⟨rfl, rfl, rfl, rfl, trivial⟩ ⟨rfl, trivial⟩⟩
    · refine AWR.exit_end rfl ⟨rfl, Ent.of ⟨rfl, trivial⟩ ⟨rfl, trivial⟩⟩
  · refine AWR.seq ?_
    refine AWR.region ?_
    refine AOR.pure (LT.move (v := (.s (.c (.loc 21 0 b15.length)))) rfl) ⟨rfl, trivial⟩ trivial rfl rfl ?_
    refine AOR.pure (LT.assign (v := (.s (.c (.loc 21 0 b15.length)))) rfl) ⟨rfl, trivial⟩ trivial rfl rfl ?_
    refine AOR.nil ?_
    refine AWR.ent (Ent.of (σ' := [(4, (.s (.c (.loc 21 0 b15.length))))]) (m' := [(21, (.prow 3 (b15.map encInt)))]) ⟨rfl, trivial⟩ ⟨rfl, trivial⟩) ?_
    refine AWR.ent (Ent.mv 21 0 rfl rfl) ?_
    refine AWR.ent (Ent.of (σ' := [(4, (.s (.c (.loc 0 0 b15.length))))]) (m' := [(0, (.prow 3 (b15.map encInt)))]) ⟨rfl, trivial⟩ ⟨rfl, trivial⟩) ?_
    refine AWR.ret (FPost.mk (.inr rfl) ⟨rfl, trivial⟩ ⟨rfl, trivial⟩ rfl ⟨trivial, trivial⟩ ⟨PermO.prow' perm_encInt, trivial⟩)
set_option maxRecDepth 100000 in
set_option maxHeartbeats 8000000 in
theorem w_impl_WithoutPoints (g : TGraph) (setV : (List Int)) : ∀ t, m_impl_WithoutPoints g setV = some t → Fw.Fn Try.prog 103 [(.agg [(iC g.Points), (.pv (.xs false (g.Bars.map encTBar)))]), (.c (.pv (.xs false (setV.map encInt))))] [] (.s (.agg [(iC t.Points), (.loc 0 0 t.Bars.length)])) [(0, (.prow 88 (t.Bars.map encTBar)))] [] [0] := by
  refine Fw.Fn.of (P := Try.prog) (X := [0]) (pn := []) (rs := (fun (t : TGraph) => [(.agg [(iC t.Points), (.loc 0 0 t.Bars.length)])])) (dfs := (fun (t : TGraph) => [(0, (.prow 88 (t.Bars.map encTBar)))])) Try.func103 rfl Try.ntmps103 (Nat.le_of_ble_eq_true rfl) rfl ?_
  intro w0 U0 R0 g0
  unfold m_impl_WithoutPoints
  refine AWR.seq ?_
  refine AWR.region ?_
  refine AOR.step (LT.box (n := 21) (v := (.agg [(iC g.Points), (.pv (.xs false (g.Bars.map encTBar)))])) rfl sz30 (by exact rfl)) ⟨rfl, trivial⟩ trivial rfl rfl ?_
  refine AOR.step (LT.alloc (n := 22) (cells := [(iC 0), (sC nilV)]) rfl ti30 rfl rfl rfl) trivial trivial rfl rfl ?_
  refine AOR.nil ?_
  refine AWR.seq ?_
  refine AWR.region ?_
  refine AOR.pure (LT.fieldPl rfl fo30_0) ⟨rfl, trivial⟩ trivial rfl rfl ?_
  refine AOR.pure (LT.bload1 (c := (iC g.Points)) rfl ag3 (by exact rfl)) ⟨rfl, trivial⟩ ⟨rfl, trivial⟩ rfl rfl ?_
  refine AOR.pure (LT.min rfl) ⟨rfl, ⟨rfl, rfl⟩, trivial⟩ trivial rfl rfl ?_
  refine AOR.pure (LT.max rfl) ⟨⟨rfl, rfl⟩, rfl, trivial⟩ trivial rfl rfl ?_
  refine AOR.bind fun u1 hu1 => ?_
  refine AOR.step (LT.tmake (n := 23) (enc := encInt) (zc := [(iC 0)]) (0 : Int) rfl und54 ti3 rfl rfl rfl (by decide) (by decide) (lenOk_le hu1) rfl) ⟨rfl, rfl, trivial⟩ trivial rfl rfl ?_
  refine AOR.pure (LT.assign (v := (.s (.c (.loc 23 0 (List.replicate (if 0 < (if 8 < g.Points then 8 else g.Points) then (if 8 < g.Points then 8 else g.Points) else 0).toNat (0 : Int)).length)))) rfl) ⟨rfl, trivial⟩ trivial rfl rfl ?_
  refine AOR.nil ?_
  refine AWR.seq ?_
  refine AWR.ent (Ent.of (σ' := [(1, (.s (.c (.pv (.xs false (setV.map encInt)))))), (2, (.s (.c (.pl 21 0)))), (4, (.s (.c (.pl 22 0)))), (5, (.s (.c (.loc 23 0 (List.replicate (if 0 < (if 8 < g.Points then 8 else g.Points) then (if 8 < g.Points then 8 else g.Points) else 0).toNat (0 : Int)).length))))]) (m' := [(21, (.row 30 [[(iC g.Points), (.pv (.xs false (g.Bars.map encTBar)))]])), (22, (.row 30 [[(iC 0), (sC nilV)]])), (23, (.prow 3 ((List.replicate (if 0 < (if 8 < g.Points then 8 else g.Points) then (if 8 < g.Points then 8 else g.Points) else 0).toNat (0 : Int)).map encInt)))]) ⟨rfl, rfl, rfl, rfl, trivial⟩ ⟨rfl, rfl, rfl, trivial⟩) ?_
  refine AWR.region ?_
  refine AOR.pure (LT.build [] rfl rfl pl30 ti30 rfl rfl rfl) trivial trivial rfl rfl ?_
  refine AOR.step (LT.alloc (n := 24) (cells := [(iC 0), (sC nilV)]) rfl ti30 rfl rfl rfl) trivial trivial rfl rfl ?_
  refine AOR.step (LT.bstore (v := (.agg [(iC 0), (sC nilV)])) (out := [(iC 0), (sC nilV)]) rfl rfl (infS inf30) sz30 (by exact rfl) (by exact Nat.le_of_ble_eq_true rfl) (by exact rfl)) ⟨rfl, rfl, trivial⟩ ⟨rfl, trivial⟩ rfl rfl ?_
  refine AOR.nil ?_
  refine AWR.seq ?_
  refine AWR.seq ?_
  refine AWR.region ?_
  refine AOR.pure (LT.move (v := (.s (.c (.loc 23 0 (List.replicate (if 0 < (if 8 < g.Points then 8 else g.Points) then (if 8 < g.Points then 8 else g.Points) else 0).toNat (0 : Int)).length)))) rfl) ⟨rfl, trivial⟩ trivial rfl rfl ?_
  refine AOR.pure (LT.lenLoc rfl und54) ⟨rfl, trivial⟩ trivial rfl rfl ?_
  refine AOR.pure (LT.move (v := (.s (.c (iC 0)))) rfl) ⟨⟨rfl, rfl⟩, trivial⟩ trivial rfl rfl ?_
  refine AOR.nil ?_
  refine AWR.block ?_
  refine AWR.loop1 (id := 0) (m_impl_WithoutPoints_L1 g setV) (fun s2 => ([(1, (.s (.c (.pv (.xs false (setV.map encInt)))))), (2, (.s (.c (.pl 21 0)))), (4, (.s (.c (.pl 22 0)))), (5, (.s (.c (.loc 23 0 s2.2.1.length)))), (6, (.s (.c (.pl 24 0)))), (19, (.s (.c (iC ((List.replicate (if 0 < (if 8 < g.Points then 8 else g.Points) then (if 8 < g.Points then 8 else g.Points) else 0).toNat (0 : Int)).length : Int))))), (20, (.s (.c (iC s2.1))))], [(21, (.row 30 [[(iC g.Points), (.pv (.xs false (g.Bars.map encTBar)))]])), (22, (.row 30 [[(iC 0), (sC nilV)]])), (23, (.prow 3 (s2.2.1.map encInt))), (24, (.row 30 [[(iC s2.2.2), (sC nilV)]]))])) (fun b19 => ([(2, (.s (.c (.pl 21 0)))), (4, (.s (.c (.pl 22 0)))), (5, (.s (.c (.loc 23 0 b19.1.length)))), (6, (.s (.c (.pl 24 0))))], [(21, (.row 30 [[(iC g.Points), (.pv (.xs false (g.Bars.map encTBar)))]])), (22, (.row 30 [[(iC 0), (sC nilV)]])), (23, (.prow 3 (b19.1.map encInt))), (24, (.row 30 [[(iC b19.2), (sC nilV)]]))])) ?_ (Ent.of ⟨rfl, rfl, rfl, rfl, rfl, rfl, rfl, trivial⟩ ⟨rfl, rfl, rfl, rfl, trivial⟩) rfl (fun b19 _ => ?_)
  · intro s2
    unfold m_impl_WithoutPoints_L1
    refine AWR.seq ?_
    refine AWR.region ?_
    refine AOR.pure (LT.lss rfl) ⟨rfl, rfl, trivial⟩ trivial rfl rfl ?_
    refine AOR.nil ?_
    refine AWR.seq ?_
    refine AWR.cond rfl (fun hc20 => ?_) (fun hc20 => ?_)
    · refine AWR.skip ?_
      refine AWR.seq ?_
      refine AWR.block ?_
      refine AWR.seq ?_
      refine AWR.region ?_
      refine AOR.pure (LT.move (v := (.s (.c (iC s2.1)))) rfl) ⟨rfl, trivial⟩ trivial rfl rfl ?_
      refine AOR.pure (LT.assign (v := (.s (.c (iC s2.1)))) rfl) ⟨rfl, trivial⟩ trivial rfl rfl ?_
      refine AOR.nil ?_
      refine AWR.seq ?_
      refine AWR.region ?_
      refine AOR.pure (LT.move (v := (.s (.c (.loc 23 0 s2.2.1.length)))) rfl) ⟨rfl, trivial⟩ trivial rfl rfl ?_
      refine AOR.pure (LT.move (v := (.s (.c (iC s2.1)))) rfl) ⟨rfl, trivial⟩ trivial rfl rfl ?_
      refine AOR.bind fun x21 hx21 => ?_
      refine AOR.pure (LT.tindexLoc rfl rfl el54 hx21) ⟨rfl, rfl, trivial⟩ ⟨rfl, trivial⟩ rfl rfl ?_
      refine AOR.step (LT.tstore (k := 0) (v := (.c (iC (-1)))) (b' := (-1)) rfl rfl (infS inf3) sz3 (by exact rfl) hx21 (by exact rfl) (by exact Nat.le_of_ble_eq_true rfl) (by exact rfl)) ⟨rfl, ⟨rfl, rfl⟩, trivial⟩ ⟨rfl, trivial⟩ rfl rfl ?_
      refine AOR.nil ?_
      refine AWR.seq ?_
      refine AWR.region ?_
      refine AOR.pure (LT.move (v := (.s (.c (.pv (.xs false (setV.map encInt)))))) rfl) ⟨rfl, trivial⟩ trivial rfl rfl ?_
      refine AOR.pure (LT.move (v := (.s (.c (iC s2.1)))) rfl) ⟨rfl, trivial⟩ trivial rfl rfl ?_
      refine AOR.bind fun r22 hr22 => ?_
      refine AOR.pure (@LT.callF Try.prog _ _ 172 _ _ [(.c (.pv (.xs false (setV.map encInt)))), (.c (iC s2.1))] _ _ [] _ _ _ _ (w_slices_Contains setV s2.1 r22 hr22) rfl cb172 (.cons (.c (.same rfl)) (.cons (.c (.same rfl)) .nil)) rfl rfl trivial) ⟨rfl, rfl, rfl, trivial⟩ trivial rfl rfl ?_
      refine AOR.pure (LT.not rfl) ⟨rfl, trivial⟩ trivial rfl rfl ?_
      refine AOR.nil ?_
      refine AWR.joinK (fun j25 => ([(1, (.s (.c (.pv (.xs false (setV.map encInt)))))), (2, (.s (.c (.pl 21 0)))), (4, (.s (.c (.pl 22 0)))), (5, (.s (.c (.loc 23 0 j25.1.length)))), (6, (.s (.c (.pl 24 0)))), (19, (.s (.c (iC ((List.replicate (if 0 < (if 8 < g.Points then 8 else g.Points) then (if 8 < g.Points then 8 else g.Points) else 0).toNat (0 : Int)).length : Int))))), (20, (.s (.c (iC s2.1))))], [(21, (.row 30 [[(iC g.Points), (.pv (.xs false (g.Bars.map encTBar)))]])), (22, (.row 30 [[(iC 0), (sC nilV)]])), (23, (.prow 3 (j25.1.map encInt))), (24, (.row 30 [[(iC j25.2), (sC nilV)]]))])) ?_ (fun j25 _ => ?_)
      · refine AWR.cond rfl (fun hc26 => ?_) (fun hc26 => ?_)
        · refine AWR.seq ?_
          refine AWR.ent (Ent.of (σ' := [(1, (.s (.c (.pv (.xs false (setV.map encInt)))))), (2, (.s (.c (.pl 21 0)))), (4, (.s (.c (.pl 22 0)))), (5, (.s (.c (.loc 23 0 s2.2.1.length)))), (6, (.s (.c (.pl 24 0)))), (7, (.s (.c (iC s2.1)))), (19, (.s (.c (iC ((List.replicate (if 0 < (if 8 < g.Points then 8 else g.Points) then (if 8 < g.Points then 8 else g.Points) else 0).toNat (0 : Int)).length : Int))))), (20, (.s (.c (iC s2.1))))]) (m' := [(21, (.row 30 [[(iC g.Points), (.pv (.xs false (g.Bars.map encTBar)))]])), (22, (.row 30 [[(iC 0), (sC nilV)]])), (23, (.prow 3 ((s2.2.1.set s2.1.toNat (-1)).map encInt))), (24, (.row 30 [[(iC s2.2.2), (sC nilV)]]))]) ⟨rfl, rfl, rfl, rfl, rfl, rfl, rfl, rfl, trivial⟩ ⟨rfl, rfl, rfl, rfl, trivial⟩) ?_
          refine AWR.region ?_
          refine AOR.pure (LT.move (v := (.s (.c (.loc 23 0 s2.2.1.length)))) rfl) ⟨rfl, trivial⟩ trivial rfl rfl ?_
          refine AOR.pure (LT.move (v := (.s (.c (iC s2.1)))) rfl) ⟨rfl, trivial⟩ trivial rfl rfl ?_
          refine AOR.pure (LT.fieldPl rfl fo30_0) ⟨rfl, trivial⟩ trivial rfl rfl ?_
          refine AOR.pure (LT.bload1 (c := (iC s2.2.2)) rfl ag3 (by exact rfl)) ⟨rfl, trivial⟩ ⟨rfl, trivial⟩ rfl rfl ?_
          refine AOR.bind fun x27 hx27 => ?_
          refine AOR.pure (LT.tindexLoc (show s2.2.1.length = (s2.2.1.set s2.1.toNat (-1)).length by simp only [List.length_set]) rfl el54 hx27) ⟨rfl, rfl, trivial⟩ ⟨rfl, trivial⟩ rfl rfl ?_
          refine AOR.step (LT.tstore (k := 0) (v := (.c (iC s2.2.2))) (b' := s2.2.2) rfl rfl (infS inf3) sz3 (by exact rfl) hx27 (by exact rfl) (by exact Nat.le_of_ble_eq_true rfl) (by exact rfl)) ⟨rfl, rfl, trivial⟩ ⟨rfl, trivial⟩ rfl rfl ?_
          refine AOR.nil ?_
          refine AWR.region ?_
          refine AOR.pure (LT.fieldPl rfl fo30_0) ⟨rfl, trivial⟩ trivial rfl rfl ?_
          refine AOR.pure (LT.bload1 (c := (iC s2.2.2)) rfl ag3 (by exact rfl)) ⟨rfl, trivial⟩ ⟨rfl, trivial⟩ rfl rfl ?_
          refine AOR.pure (LT.add rfl) ⟨rfl, ⟨rfl, rfl⟩, trivial⟩ trivial rfl rfl ?_
          refine AOR.pure (LT.fieldPl rfl fo30_0) ⟨rfl, trivial⟩ trivial rfl rfl ?_
          refine AOR.step (LT.bstore (v := (.c (iC (w64 (s2.2.2 + 1))))) (out := [(iC (w64 (s2.2.2 + 1))), (sC nilV)]) rfl rfl (infS inf3) sz3 (by exact rfl) (by exact Nat.le_of_ble_eq_true rfl) (by exact rfl)) ⟨rfl, rfl, trivial⟩ ⟨rfl, trivial⟩ rfl rfl ?_
          refine AOR.nil ?_
          refine AWR.nil ⟨rfl, Ent.of ⟨rfl, rfl, rfl, (congrArg (fun l1 => (some (AV.s (.c (.loc 23 0 l1))) : Option AV)) (show s2.2.1.length = ((s2.2.1.set s2.1.toNat (-1)).set s2.1.toNat s2.2.2).length by simp only [List.length_set])), rfl, rfl, rfl, trivial⟩ ⟨rfl, rfl, rfl, rfl, trivial⟩⟩
        · refine AWR.skip ?_
          refine AWR.nil ⟨rfl, Ent.of ⟨rfl, rfl, rfl, (congrArg (fun l1 => (some (AV.s (.c (.loc 23 0 l1))) : Option AV)) (show s2.2.1.length = (s2.2.1.set s2.1.toNat (-1)).length by simp only [List.length_set])), rfl, rfl, rfl, trivial⟩ ⟨rfl, rfl, rfl, rfl, trivial⟩⟩
      · refine AWR.blk ?_
        refine AWR.region ?_
        refine AOR.pure (LT.add rfl) ⟨rfl, ⟨rfl, rfl⟩, trivial⟩ trivial rfl rfl ?_
        refine AOR.pure (LT.move (v := (.s (.c (iC (w64 (s2.1 + 1)))))) rfl) ⟨rfl, trivial⟩ trivial rfl rfl ?_
        refine AOR.nil ?_
        refine AWR.nil ⟨rfl, Ent.of ⟨rfl, rfl, rfl, rfl, rfl, rfl, rfl, trivial⟩ ⟨rfl, rfl, rfl, rfl, trivial⟩⟩
    · refine AWR.exit_end rfl ⟨rfl, Ent.of ⟨rfl, rfl, rfl, rfl, trivial⟩ ⟨rfl, rfl, rfl, rfl, trivial⟩⟩
  · refine AWR.seq ?_
    refine AWR.seq ?_
    refine AWR.region ?_
    refine AOR.pure (LT.bloadN (out := [(iC g.Points), (.pv (.xs false (g.Bars.map encTBar)))]) rfl ag30 (infS inf30) sz30 (by exact rfl) (by exact rfl)) ⟨rfl, trivial⟩ ⟨rfl, trivial⟩ rfl rfl ?_
    refine AOR.bind fun r28 hr28 => ?_
    refine AOR.pure (@LT.callF Try.prog _ _ 100 _ _ [(.agg [(iC g.Points), (.pv (.xs false (g.Bars.map encTBar)))])] _ _ [] _ _ _ _ (w_impl_IsGraph g r28 hr28) rfl cb100 (.cons (.agg (.cons (.same rfl) (.cons (.same rfl) .nil))) .nil) rfl rfl trivial) ⟨rfl, rfl, trivial⟩ trivial rfl rfl ?_
    refine AOR.pure (LT.not rfl) ⟨rfl, trivial⟩ trivial rfl rfl ?_
    refine AOR.nil ?_
    refine AWR.cond rfl (fun hc29 => ?_) (fun hc29 => ?_)
    · refine AWR.seq ?_
      refine AWR.region ?_
      refine AOR.pure (LT.bloadN (out := [(iC b19.2), (sC nilV)]) rfl ag30 (infS inf30) sz30 (by exact rfl) (by exact rfl)) ⟨rfl, trivial⟩ ⟨rfl, trivial⟩ rfl rfl ?_
      refine AOR.step (LT.bstore (v := (.agg [(iC b19.2), (sC nilV)])) (out := [(iC b19.2), (sC nilV)]) rfl rfl (infS inf30) sz30 (by exact rfl) (by exact Nat.le_of_ble_eq_true rfl) (by exact rfl)) ⟨rfl, rfl, trivial⟩ ⟨rfl, trivial⟩ rfl rfl ?_
      refine AOR.nil ?_
      refine AWR.ent (Ent.nilB 22 1 0 88 rfl rfl rfl rfl) ?_
      refine AWR.ent (Ent.of (σ' := [(4, (.s (.c (.pl 22 0))))]) (m' := [(0, (.prow 88 (([] : List TBar).map encTBar))), (22, (.row 30 [[(iC b19.2), (.loc 0 0 ([] : List TBar).length)]]))]) ⟨rfl, trivial⟩ ⟨rfl, rfl, trivial⟩) ?_
      refine AWR.ret (FPost.mk (.inr rfl) ⟨⟨_, _, _, rfl, rfl, rfl, ag30, sz30, _, (infS inf30)⟩, trivial⟩ ⟨rfl, trivial⟩ rfl ⟨⟨PermP.sc, trivial, trivial⟩, trivial⟩ ⟨PermO.prow' perm_encTBar, trivial⟩)
    · refine AWR.skip ?_
      refine AWR.seq ?_
      refine AWR.seq ?_
      refine AWR.region ?_
      refine AOR.pure (LT.fieldPl rfl fo30_1) ⟨rfl, trivial⟩ trivial rfl rfl ?_
      refine AOR.pure (LT.bload1 (c := (.pv (.xs false (g.Bars.map encTBar)))) rfl ag28 (by exact rfl)) ⟨rfl, trivial⟩ ⟨rfl, trivial⟩ rfl rfl ?_
      refine AOR.pure (LT.tlenRO rfl und28) ⟨rfl, trivial⟩ trivial rfl rfl ?_
      refine AOR.pure (LT.move (v := (.s (.c (iC 0)))) rfl) ⟨⟨rfl, rfl⟩, trivial⟩ trivial rfl rfl ?_
      refine AOR.nil ?_
      refine AWR.block ?_
      refine AWR.ent (Ent.nilB 24 1 30 88 rfl rfl rfl rfl) ?_
      refine AWR.loop1 (id := 2) (m_impl_WithoutPoints_L2 g b19) (fun s30 => ([(4, (.s (.c (.pl 22 0)))), (5, (.s (.c (.loc 23 0 b19.1.length)))), (6, (.s (.c (.pl 24 0)))), (45, (.s (.c (.pv (.xs false (g.Bars.map encTBar)))))), (46, (.s (.c (iC (g.Bars.length : Int))))), (47, (.s (.c (iC s30.1))))], [(22, (.row 30 [[(iC 0), (sC nilV)]])), (23, (.prow 3 (b19.1.map encInt))), (24, (.row 30 [[(iC b19.2), (.loc 30 0 s30.2.length)]])), (30, (.prow 88 (s30.2.map encTBar)))])) (fun b55 => ([(4, (.s (.c (.pl 22 0)))), (6, (.s (.c (.pl 24 0))))], [(22, (.row 30 [[(iC 0), (sC nilV)]])), (24, (.row 30 [[(iC b55.1), (.loc 30 0 b55.2.length)]])), (30, (.prow 88 (b55.2.map encTBar)))])) ?_ (Ent.of ⟨rfl, rfl, rfl, rfl, rfl, rfl, trivial⟩ ⟨rfl, rfl, rfl, rfl, trivial⟩) rfl (fun b55 _ => ?_)
      · intro s30
        unfold m_impl_WithoutPoints_L2
        refine AWR.seq ?_
        refine AWR.region ?_
        refine AOR.pure (LT.lss rfl) ⟨rfl, rfl, trivial⟩ trivial rfl rfl ?_
        refine AOR.nil ?_
        refine AWR.seq ?_
        refine AWR.cond rfl (fun hc56 => ?_) (fun hc56 => ?_)
        · refine AWR.skip ?_
          refine AWR.seq ?_
          refine AWR.block ?_
          refine AWR.seq ?_
          refine AWR.region ?_
          refine AOR.bind fun x57 hx57 => ?_
          refine AOR.pure (LT.tindexRO (enc := encTBar) rfl el28 hx57 sz88) ⟨rfl, rfl, trivial⟩ trivial rfl rfl ?_
          refine AOR.pure (LT.loadPxN rfl ag88 (infS inf88) (by exact sz88.symm)) ⟨rfl, trivial⟩ trivial rfl rfl ?_
          refine AOR.step (LT.alloc (n := 27) (cells := [(iC 0), (iC 0)]) rfl ti88 rfl rfl rfl) trivial trivial rfl rfl ?_
          refine AOR.step (LT.bstore (v := (.agg [(iC x57.A), (iC x57.B)])) (out := [(iC x57.A), (iC x57.B)]) rfl rfl (infS inf88) sz88 (by exact rfl) (by exact Nat.le_of_ble_eq_true rfl) (by exact rfl)) ⟨rfl, rfl, trivial⟩ ⟨rfl, trivial⟩ rfl rfl ?_
          refine AOR.nil ?_
          refine AWR.seq ?_
          refine AWR.draw mixed ?_
          refine AOD.pure (LT.move (v := (.s (.c (.loc 23 0 b19.1.length)))) rfl) ⟨rfl, trivial⟩ trivial rfl rfl ?_
          refine AOD.pure (LT.fieldPl rfl fo88_0) ⟨rfl, trivial⟩ trivial rfl rfl ?_
          refine AOD.pure (LT.bload1 (c := (iC x57.A)) rfl ag3 (by exact rfl)) ⟨rfl, trivial⟩ ⟨rfl, trivial⟩ rfl rfl ?_
          refine AOD.bind fun x58 hx58 => ?_
          refine AOD.pure (LT.tindexLoc rfl rfl el54 hx58) ⟨rfl, rfl, trivial⟩ ⟨rfl, trivial⟩ rfl rfl ?_
          refine AOD.pure (LT.tload1 (k := 0) rfl ag3 hx58 (by exact rfl) (by exact rfl)) ⟨rfl, trivial⟩ ⟨rfl, trivial⟩ rfl rfl ?_
          refine AOD.pure (LT.move (v := (.s (.c (.loc 23 0 b19.1.length)))) rfl) ⟨rfl, trivial⟩ trivial rfl rfl ?_
          refine AOD.pure (LT.fieldPl rfl fo88_1) ⟨rfl, trivial⟩ trivial rfl rfl ?_
          refine AOD.pure (LT.bload1 (c := (iC x57.B)) rfl ag3 (by exact rfl)) ⟨rfl, trivial⟩ ⟨rfl, trivial⟩ rfl rfl ?_
          refine AOD.bind fun x59 hx59 => ?_
          refine AOD.pure (LT.tindexLoc rfl rfl el54 hx59) ⟨rfl, rfl, trivial⟩ ⟨rfl, trivial⟩ rfl rfl ?_
          refine AOD.pure (LT.tload1 (k := 0) rfl ag3 hx59 (by exact rfl) (by exact rfl)) ⟨rfl, trivial⟩ ⟨rfl, trivial⟩ rfl rfl ?_
          refine AOD.pure (LT.assign (v := (.s (.c (iC x58)))) rfl) ⟨rfl, trivial⟩ trivial rfl rfl ?_
          refine AOD.pure (LT.assign (v := (.s (.c (iC x59)))) rfl) ⟨rfl, trivial⟩ trivial rfl rfl ?_
          refine AOD.nil (by kernel_rfl) ?_
          refine AWR.seq ?_
          refine AWR.joinK (fun j61 => ([(4, (.s (.c (.pl 22 0)))), (5, (.s (.c (.loc 23 0 b19.1.length)))), (6, (.s (.c (.pl 24 0)))), (10, (.s (.c (iC x58)))), (11, (.s (.c (iC x59)))), (45, (.s (.c (.pv (.xs false (g.Bars.map encTBar)))))), (46, (.s (.c (iC (g.Bars.length : Int))))), (47, (.s (.c (iC s30.1)))), (66, (.s (.c (bC j61))))], [(22, (.row 30 [[(iC 0), (sC nilV)]])), (23, (.prow 3 (b19.1.map encInt))), (24, (.row 30 [[(iC b19.2), (.loc 30 0 s30.2.length)]])), (30, (.prow 88 (s30.2.map encTBar)))])) ?_ (fun j61 _ => ?_)
          · refine AWR.ent (Ent.of (σ' := [(4, (.s (.c (.pl 22 0)))), (5, (.s (.c (.loc 23 0 b19.1.length)))), (6, (.s (.c (.pl 24 0)))), (10, (.s (.c (iC x58)))), (11, (.s (.c (iC x59)))), (45, (.s (.c (.pv (.xs false (g.Bars.map encTBar)))))), (46, (.s (.c (iC (g.Bars.length : Int))))), (47, (.s (.c (iC s30.1))))]) (m' := [(22, (.row 30 [[(iC 0), (sC nilV)]])), (23, (.prow 3 (b19.1.map encInt))), (24, (.row 30 [[(iC b19.2), (.loc 30 0 s30.2.length)]])), (30, (.prow 88 (s30.2.map encTBar)))]) ⟨rfl, rfl, rfl, rfl, rfl, rfl, rfl, rfl, trivial⟩ ⟨rfl, rfl, rfl, rfl, trivial⟩) ?_
            refine AWR.region ?_
            refine AOR.pure (LT.move (v := (.s (.c (iC x58)))) rfl) ⟨rfl, trivial⟩ trivial rfl rfl ?_
            refine AOR.pure (LT.geq rfl) ⟨rfl, ⟨rfl, rfl⟩, trivial⟩ trivial rfl rfl ?_
            refine AOR.pure (LT.move (v := (.s (.c (bC (decide (0 ≤ x58)))))) rfl) ⟨rfl, trivial⟩ trivial rfl rfl ?_
            refine AOR.split (fun hb62 => ?_) (fun hb62 => ?_)
            · refine AOR.pure (LT.move (v := (.s (.c (iC x59)))) rfl) ⟨rfl, trivial⟩ trivial ⟨_, rfl, .inl ⟨_, rfl, (by rw [hb62]; rfl)⟩⟩ rfl ?_
              refine AOR.pure (LT.geq rfl) ⟨rfl, ⟨rfl, rfl⟩, trivial⟩ trivial ⟨_, rfl, .inl ⟨_, rfl, (by rw [hb62]; rfl)⟩⟩ rfl ?_
              refine AOR.pure (LT.pickT (v := (.s (.c (bC (decide (0 ≤ x59)))))) rfl hb62) ⟨rfl, rfl, trivial⟩ trivial rfl rfl ?_
              refine AOR.nil ?_
              refine AWR.nil ⟨rfl, Ent.of ⟨rfl, rfl, rfl, rfl, rfl, rfl, rfl, rfl, rfl, trivial⟩ ⟨rfl, rfl, rfl, rfl, trivial⟩⟩
            · refine AOR.skip ⟨_, rfl, .inl ⟨_, rfl, (by rw [hb62]; rfl)⟩⟩ rfl ?_
              refine AOR.skip ⟨_, rfl, .inl ⟨_, rfl, (by rw [hb62]; rfl)⟩⟩ rfl ?_
              refine AOR.pure (LT.pickF (v := (.s (.c (bC false)))) rfl hb62) ⟨rfl, ⟨rfl, rfl⟩, trivial⟩ trivial rfl rfl ?_
              refine AOR.nil ?_
              refine AWR.nil ⟨rfl, Ent.of ⟨rfl, rfl, rfl, rfl, rfl, rfl, rfl, rfl, rfl, trivial⟩ ⟨rfl, rfl, rfl, rfl, trivial⟩⟩
          · refine AWR.joinK (fun j65 => ([(4, (.s (.c (.pl 22 0)))), (5, (.s (.c (.loc 23 0 b19.1.length)))), (6, (.s (.c (.pl 24 0)))), (45, (.s (.c (.pv (.xs false (g.Bars.map encTBar)))))), (46, (.s (.c (iC (g.Bars.length : Int))))), (47, (.s (.c (iC s30.1))))], [(22, (.row 30 [[(iC 0), (sC nilV)]])), (23, (.prow 3 (b19.1.map encInt))), (24, (.row 30 [[(iC b19.2), (.loc 30 0 j65.length)]])), (30, (.prow 88 (j65.map encTBar)))])) ?_ (fun j65 _ => ?_)
            · refine AWR.cond rfl (fun hc66 => ?_) (fun hc66 => ?_)
              · refine AWR.region ?_
                refine AOR.pure (LT.fieldPl rfl fo30_1) ⟨rfl, trivial⟩ trivial rfl rfl ?_
                refine AOR.pure (LT.bload1 (c := (.loc 30 0 s30.2.length)) rfl ag28 (by exact rfl)) ⟨rfl, trivial⟩ ⟨rfl, trivial⟩ rfl rfl ?_
                refine AOR.pure (LT.move (v := (.s (.c (iC x58)))) rfl) ⟨rfl, trivial⟩ trivial rfl rfl ?_
                refine AOR.pure (LT.move (v := (.s (.c (iC x59)))) rfl) ⟨rfl, trivial⟩ trivial rfl rfl ?_
                refine AOR.pure (LT.build [(0, .tmp 69, (.c (iC x58))), (1, .tmp 70, (.c (iC x59)))] rfl rfl pl88 ti88 rfl rfl rfl) ⟨rfl, rfl, trivial⟩ trivial rfl rfl ?_
                refine AOR.step (LT.tbuildSlice (n := 28) (enc := encTBar) [(0, .tmp 71, (.agg [(iC x58), (iC x59)]))] [(TBar.mk x58 x59)] rfl rfl und28 ti88 rfl rfl rfl rfl (by decide) (fun _ => rfl) rfl) ⟨rfl, trivial⟩ trivial rfl rfl ?_
                refine AOR.bind fun u67 hu67 => ?_
                refine AOR.step (LT.tappP (enc := encTBar) rfl rfl rfl und28 ti88 rfl (by decide) (by decide) (fun _ => rfl) (lim_le hu67)) ⟨rfl, rfl, trivial⟩ ⟨rfl, rfl, trivial⟩ rfl rfl ?_
                refine AOR.pure (LT.fieldPl rfl fo30_1) ⟨rfl, trivial⟩ trivial rfl rfl ?_
                refine AOR.step (LT.bstore (v := (.c (.loc 30 0 (s30.2 ++ [(TBar.mk x58 x59)]).length))) (out := [(iC b19.2), (.loc 30 0 (s30.2 ++ [(TBar.mk x58 x59)]).length)]) rfl rfl (infS inf28) sz28 (by exact rfl) (by exact Nat.le_of_ble_eq_true rfl) (by exact rfl)) ⟨rfl, rfl, trivial⟩ ⟨rfl, trivial⟩ rfl rfl ?_
                refine AOR.nil ?_
                refine AWR.nil ⟨rfl, Ent.of ⟨rfl, rfl, rfl, rfl, rfl, rfl, trivial⟩ ⟨rfl, rfl, rfl, rfl, trivial⟩⟩
              · refine AWR.skip ?_
                refine AWR.nil ⟨rfl, Ent.of ⟨rfl, rfl, rfl, rfl, rfl, rfl, trivial⟩ ⟨rfl, rfl, rfl, rfl, trivial⟩⟩
            · refine AWR.blk ?_
              refine AWR.region ?_
              refine AOR.pure (LT.add rfl) ⟨rfl, ⟨rfl, rfl⟩, trivial⟩ trivial rfl rfl ?_
              refine AOR.pure (LT.move (v := (.s (.c (iC (w64 (s30.1 + 1)))))) rfl) ⟨rfl, trivial⟩ trivial rfl rfl ?_
              refine AOR.nil ?_
              refine AWR.nil ⟨rfl, Ent.of ⟨rfl, rfl, rfl, rfl, rfl, rfl, trivial⟩ ⟨rfl, rfl, rfl, rfl, trivial⟩⟩
        · refine AWR.exit_end rfl ⟨rfl, Ent.of ⟨rfl, rfl, trivial⟩ ⟨rfl, rfl, rfl, trivial⟩⟩
      · refine AWR.seq ?_
        refine AWR.region ?_
        refine AOR.pure (LT.bloadN (out := [(iC b55.1), (.loc 30 0 b55.2.length)]) rfl ag30 (infS inf30) sz30 (by exact rfl) (by exact rfl)) ⟨rfl, trivial⟩ ⟨rfl, trivial⟩ rfl rfl ?_
        refine AOR.step (LT.bstore (v := (.agg [(iC b55.1), (.loc 30 0 b55.2.length)])) (out := [(iC b55.1), (.loc 30 0 b55.2.length)]) rfl rfl (infS inf30) sz30 (by exact rfl) (by exact Nat.le_of_ble_eq_true rfl) (by exact rfl)) ⟨rfl, rfl, trivial⟩ ⟨rfl, trivial⟩ rfl rfl ?_
        refine AOR.nil ?_
        refine AWR.ent (Ent.of (σ' := [(4, (.s (.c (.pl 22 0))))]) (m' := [(22, (.row 30 [[(iC b55.1), (.loc 30 0 b55.2.length)]])), (30, (.prow 88 (b55.2.map encTBar)))]) ⟨rfl, trivial⟩ ⟨rfl, rfl, trivial⟩) ?_
        refine AWR.ent (Ent.mv 30 0 rfl rfl) ?_
        refine AWR.ent (Ent.of (σ' := [(4, (.s (.c (.pl 22 0))))]) (m' := [(0, (.prow 88 (b55.2.map encTBar))), (22, (.row 30 [[(iC b55.1), (.loc 0 0 b55.2.length)]]))]) ⟨rfl, trivial⟩ ⟨rfl, rfl, trivial⟩) ?_
        refine AWR.ret (FPost.mk (.inr rfl) ⟨⟨_, _, _, rfl, rfl, rfl, ag30, sz30, _, (infS inf30)⟩, trivial⟩ ⟨rfl, trivial⟩ rfl ⟨⟨PermP.sc, trivial, trivial⟩, trivial⟩ ⟨PermO.prow' perm_encTBar, trivial⟩)
set_option maxRecDepth 100000 in
set_option maxHeartbeats 8000000 in
theorem w_impl_Graph_has (g : TGraph) (v : Int) : ∀ t, m_impl_Graph_has g v = some t → Fw.Fn Try.prog 202 [(.agg [(iC g.Points), (.pv (.xs false (g.Bars.map encTBar)))]), (.c (iC v))] [] (.s (.c (bC t))) [] [] [] := by
  refine Fw.Fn.of (P := Try.prog) (X := []) (pn := []) (rs := (fun (t : Bool) => [(.c (bC t))])) (dfs := (fun (t : Bool) => [])) Try.func202 rfl Try.ntmps202 (Nat.le_of_ble_eq_true rfl) rfl ?_
  intro w0 U0 R0 g0
  unfold m_impl_Graph_has
  refine AWR.seq ?_
  refine AWR.region ?_
  refine AOR.step (LT.box (n := 21) (v := (.agg [(iC g.Points), (.pv (.xs false (g.Bars.map encTBar)))])) rfl sz30 (by exact rfl)) ⟨rfl, trivial⟩ trivial rfl rfl ?_
  refine AOR.pure (LT.assign (v := (.s (.c (bC false)))) rfl) ⟨⟨rfl, rfl⟩, trivial⟩ trivial rfl rfl ?_
  refine AOR.nil ?_
  refine AWR.seq ?_
  refine AWR.region ?_
  refine AOR.pure (LT.move (v := (.s (.c (iC v)))) rfl) ⟨rfl, trivial⟩ trivial rfl rfl ?_
  refine AOR.pure (LT.fieldPl rfl fo30_0) ⟨rfl, trivial⟩ trivial rfl rfl ?_
  refine AOR.pure (LT.bload1 (c := (iC g.Points)) rfl ag3 (by exact rfl)) ⟨rfl, trivial⟩ ⟨rfl, trivial⟩ rfl rfl ?_
  refine AOR.pure (LT.sub rfl) ⟨rfl, ⟨rfl, rfl⟩, trivial⟩ trivial rfl rfl ?_
  refine AOR.bind fun r1 hr1 => ?_
  refine AOR.pure (@LT.callF Try.prog _ _ 101 _ _ [(.c (iC v)), (.c (iC 0)), (.c (iC (w64 (g.Points - 1))))] _ _ [] _ _ _ _ (w_impl_within v 0 (w64 (g.Points - 1)) r1 hr1) rfl cb101 (.cons (.c (.same rfl)) (.cons (.c (.same rfl)) (.cons (.c (.same rfl)) .nil))) rfl rfl trivial) ⟨rfl, rfl, ⟨rfl, rfl⟩, rfl, trivial⟩ trivial rfl rfl ?_
  refine AOR.pure (LT.assign (v := (.s (.c (bC r1)))) rfl) ⟨rfl, trivial⟩ trivial rfl rfl ?_
  refine AOR.nil ?_
  refine AWR.ret (FPost.mk (.inr rfl) ⟨rfl, trivial⟩ trivial rfl ⟨PermP.sc, trivial⟩ trivial)
end Go.Proofs.Ytfiiebikkimjbaa
