/- The code computes the models. Written by a program of mine. -/
import Derived.Test.YtihibpkbhjpajaaGenF5
set_option linter.unusedVariables false
set_option linter.unusedSimpArgs false
set_option linter.unnecessarySimpa false
open Go Go.Fw
namespace Go.Proofs.Ytihibpkbhjpajaa
set_option maxRecDepth 100000 in
set_option maxHeartbeats 8000000 in
theorem w_laws_markPlaceS (a : (List TPlace)) (k : Int) : ∀ t, m_laws_markPlaceS a k = some t → Fw.Fn Try.prog 88 [(.c (.loc 0 0 a.length)), (.c (iC k))] [(0, (.prow 100 (a.map encTPlace)))] (.s (.c (iC t.1))) [(0, (.prow 100 (t.2.map encTPlace)))] [0] [] := by
  refine Fw.Fn.of (P := Try.prog) (X := []) (pn := [0]) (rs := (fun (t : (Int × (List TPlace))) => [(.c (iC t.1))])) (dfs := (fun (t : (Int × (List TPlace))) => [(0, (.prow 100 (t.2.map encTPlace)))])) Try.func88 rfl Try.ntmps88 (Nat.le_of_ble_eq_true rfl) rfl ?_
  intro w0 U0 R0 g0
  unfold m_laws_markPlaceS
  refine AWR.seq ?_
  refine AWR.region ?_
  refine AOR.pure (LT.assign (v := (.s (.c (iC 0)))) rfl) ⟨⟨rfl, rfl⟩, trivial⟩ trivial rfl rfl ?_
  refine AOR.nil ?_
  refine AWR.seq ?_
  refine AWR.seq ?_
  refine AWR.region ?_
  refine AOR.pure (LT.assign (v := (.s (.c (iC 0)))) rfl) ⟨⟨rfl, rfl⟩, trivial⟩ trivial rfl rfl ?_
  refine AOR.nil ?_
  refine AWR.block ?_
  refine AWR.loop1 (id := 0) (m_laws_markPlaceS_L1) (fun s1 => ([(0, (.s (.c (.loc 0 0 s1.2.2.length)))), (1, (.s (.c (iC s1.1)))), (5, (.s (.c (iC s1.2.1))))], [(0, (.prow 100 (s1.2.2.map encTPlace)))])) (fun b8 => ([(1, (.s (.c (iC b8.1))))], [(0, (.prow 100 (b8.2.map encTPlace)))])) ?_ (Ent.of ⟨rfl, rfl, rfl, trivial⟩ ⟨rfl, trivial⟩) rfl (fun b8 _ => ?_)
  · intro s1
    unfold m_laws_markPlaceS_L1
    refine AWR.seq ?_
    refine AWR.seq ?_
    refine AWR.region ?_
    refine AOR.pure (LT.move (v := (.s (.c (iC s1.2.1)))) rfl) ⟨rfl, trivial⟩ trivial rfl rfl ?_
    refine AOR.pure (LT.move (v := (.s (.c (.loc 0 0 s1.2.2.length)))) rfl) ⟨rfl, trivial⟩ trivial rfl rfl ?_
    refine AOR.pure (LT.lenLoc rfl und60) ⟨rfl, trivial⟩ trivial rfl rfl ?_
    refine AOR.pure (LT.lss rfl) ⟨rfl, rfl, trivial⟩ trivial rfl rfl ?_
    refine AOR.nil ?_
    refine AWR.cond rfl (fun hc9 => ?_) (fun hc9 => ?_)
    · refine AWR.skip ?_
      refine AWR.seq ?_
      refine AWR.block ?_
      refine AWR.seq ?_
      refine AWR.region ?_
      refine AOR.pure (LT.move (v := (.s (.c (.loc 0 0 s1.2.2.length)))) rfl) ⟨rfl, trivial⟩ trivial rfl rfl ?_
      refine AOR.pure (LT.move (v := (.s (.c (iC s1.2.1)))) rfl) ⟨rfl, trivial⟩ trivial rfl rfl ?_
      refine AOR.pure (LT.move (v := (.s (.c (iC s1.1)))) rfl) ⟨rfl, trivial⟩ trivial rfl rfl ?_
      refine AOR.bind fun x10 hx10 => ?_
      refine AOR.pure (LT.tindexLoc rfl rfl el60 hx10) ⟨rfl, rfl, trivial⟩ ⟨rfl, trivial⟩ rfl rfl ?_
      refine AOR.pure (LT.fieldPl rfl fo100_0) ⟨rfl, trivial⟩ trivial rfl rfl ?_
      refine AOR.step (LT.tstore (k := 0) (v := (.c (iC s1.1))) (b' := (TPlace.mk s1.1 x10.Y)) rfl rfl (infS inf3) sz3 (by exact rfl) hx10 (by exact rfl) (by exact Nat.le_of_ble_eq_true rfl) (by exact rfl)) ⟨rfl, rfl, trivial⟩ ⟨rfl, trivial⟩ rfl rfl ?_
      refine AOR.nil ?_
      refine AWR.seq ?_
      refine AWR.ent (Ent.of (σ' := [(0, (.s (.c (.loc 0 0 s1.2.2.length)))), (1, (.s (.c (iC s1.1)))), (5, (.s (.c (iC s1.2.1))))]) (m' := [(0, (.prow 100 ((s1.2.2.set s1.2.1.toNat (TPlace.mk s1.1 x10.Y)).map encTPlace)))]) ⟨rfl, rfl, rfl, trivial⟩ ⟨rfl, trivial⟩) ?_
      refine AWR.region ?_
      refine AOR.pure (LT.move (v := (.s (.c (iC s1.1)))) rfl) ⟨rfl, trivial⟩ trivial rfl rfl ?_
      refine AOR.pure (LT.add rfl) ⟨rfl, ⟨rfl, rfl⟩, trivial⟩ trivial rfl rfl ?_
      refine AOR.pure (LT.assign (v := (.s (.c (iC (w64 (s1.1 + 1)))))) rfl) ⟨rfl, trivial⟩ trivial rfl rfl ?_
      refine AOR.nil ?_
      refine AWR.seq ?_
      refine AWR.region ?_
      refine AOR.pure (LT.move (v := (.s (.c (.loc 0 0 s1.2.2.length)))) rfl) ⟨rfl, trivial⟩ trivial rfl rfl ?_
      refine AOR.pure (LT.move (v := (.s (.c (iC s1.2.1)))) rfl) ⟨rfl, trivial⟩ trivial rfl rfl ?_
      refine AOR.pure (LT.move (v := (.s (.c (iC (w64 (s1.1 + 1)))))) rfl) ⟨rfl, trivial⟩ trivial rfl rfl ?_
      refine AOR.bind fun x11 hx11 => ?_
      refine AOR.pure (LT.tindexLoc (show s1.2.2.length = (s1.2.2.set s1.2.1.toNat (TPlace.mk s1.1 x10.Y)).length by simp only [List.length_set]) rfl el60 hx11) ⟨rfl, rfl, trivial⟩ ⟨rfl, trivial⟩ rfl rfl ?_
      refine AOR.pure (LT.fieldPl rfl fo100_1) ⟨rfl, trivial⟩ trivial rfl rfl ?_
      refine AOR.step (LT.tstore (k := 1) (v := (.c (iC (w64 (s1.1 + 1))))) (b' := (TPlace.mk x11.X (w64 (s1.1 + 1)))) rfl rfl (infS inf3) sz3 (by exact rfl) hx11 (by exact rfl) (by exact Nat.le_of_ble_eq_true rfl) (by exact rfl)) ⟨rfl, rfl, trivial⟩ ⟨rfl, trivial⟩ rfl rfl ?_
      refine AOR.nil ?_
      refine AWR.ent (Ent.of (σ' := [(0, (.s (.c (.loc 0 0 s1.2.2.length)))), (1, (.s (.c (iC (w64 (s1.1 + 1)))))), (5, (.s (.c (iC s1.2.1))))]) (m' := [(0, (.prow 100 (((s1.2.2.set s1.2.1.toNat (TPlace.mk s1.1 x10.Y)).set s1.2.1.toNat (TPlace.mk x11.X (w64 (s1.1 + 1)))).map encTPlace)))]) ⟨rfl, rfl, rfl, trivial⟩ ⟨rfl, trivial⟩) ?_
      refine AWR.region ?_
      refine AOR.pure (LT.move (v := (.s (.c (iC (w64 (s1.1 + 1)))))) rfl) ⟨rfl, trivial⟩ trivial rfl rfl ?_
      refine AOR.pure (LT.add rfl) ⟨rfl, ⟨rfl, rfl⟩, trivial⟩ trivial rfl rfl ?_
      refine AOR.pure (LT.assign (v := (.s (.c (iC (w64 ((w64 (s1.1 + 1)) + 1)))))) rfl) ⟨rfl, trivial⟩ trivial rfl rfl ?_
      refine AOR.nil ?_
      refine AWR.blk ?_
      refine AWR.region ?_
      refine AOR.pure (LT.move (v := (.s (.c (iC s1.2.1)))) rfl) ⟨rfl, trivial⟩ trivial rfl rfl ?_
      refine AOR.pure (LT.add rfl) ⟨rfl, ⟨rfl, rfl⟩, trivial⟩ trivial rfl rfl ?_
      refine AOR.pure (LT.assign (v := (.s (.c (iC (w64 (s1.2.1 + 1)))))) rfl) ⟨rfl, trivial⟩ trivial rfl rfl ?_
      refine AOR.nil ?_
      refine AWR.nil ⟨rfl, Ent.of ⟨(congrArg (fun l1 => (some (AV.s (.c (.loc 0 0 l1))) : Option AV)) (show s1.2.2.length = ((s1.2.2.set s1.2.1.toNat (TPlace.mk s1.1 x10.Y)).set s1.2.1.toNat (TPlace.mk x11.X (w64 (s1.1 + 1)))).length by simp only [List.length_set])), rfl, rfl, trivial⟩ ⟨rfl, trivial⟩⟩
    · refine AWR.exit_end rfl ⟨rfl, Ent.of ⟨rfl, trivial⟩ ⟨rfl, trivial⟩⟩
  · refine AWR.seq ?_
    refine AWR.region ?_
    refine AOR.pure (LT.move (v := (.s (.c (iC b8.1)))) rfl) ⟨rfl, trivial⟩ trivial rfl rfl ?_
    refine AOR.pure (LT.assign (v := (.s (.c (iC b8.1)))) rfl) ⟨rfl, trivial⟩ trivial rfl rfl ?_
    refine AOR.nil ?_
    refine AWR.ret (FPost.mk (.inr rfl) ⟨rfl, trivial⟩ ⟨rfl, trivial⟩ rfl ⟨PermP.sc, trivial⟩ ⟨PermO.prow' perm_encTPlace, trivial⟩)
set_option maxRecDepth 100000 in
set_option maxHeartbeats 8000000 in
theorem w_laws_markFramework (a : TFramework) (k : Int) : ∀ t, m_laws_markFramework a k = some t → Fw.Fn Try.prog 57 [(.agg [(iC a.Graph.Points), (.loc 0 0 a.Graph.Bars.length), (.loc 1 0 a.Places.length)]), (.c (iC k))] [(0, (.prow 88 (a.Graph.Bars.map encTBar))), (1, (.prow 100 (a.Places.map encTPlace)))] (.s (.c (iC t.1))) [(0, (.prow 88 (t.2.1.map encTBar))), (1, (.prow 100 (t.2.2.map encTPlace)))] [0, 1] [] := by
  refine Fw.Fn.of (P := Try.prog) (X := []) (pn := [0, 1]) (rs := (fun (t : (Int × (List TBar) × (List TPlace))) => [(.c (iC t.1))])) (dfs := (fun (t : (Int × (List TBar) × (List TPlace))) => [(0, (.prow 88 (t.2.1.map encTBar))), (1, (.prow 100 (t.2.2.map encTPlace)))])) Try.func57 rfl Try.ntmps57 (Nat.le_of_ble_eq_true rfl) rfl ?_
  intro w0 U0 R0 g0
  unfold m_laws_markFramework
  refine AWR.seq ?_
  refine AWR.region ?_
  refine AOR.step (LT.box (n := 21) (v := (.agg [(iC a.Graph.Points), (.loc 0 0 a.Graph.Bars.length), (.loc 1 0 a.Places.length)])) rfl sz62 (by exact rfl)) ⟨rfl, trivial⟩ trivial rfl rfl ?_
  refine AOR.pure (LT.assign (v := (.s (.c (iC 0)))) rfl) ⟨⟨rfl, rfl⟩, trivial⟩ trivial rfl rfl ?_
  refine AOR.nil ?_
  refine AWR.seq ?_
  refine AWR.region ?_
  refine AOR.pure (LT.fieldPl rfl fo62_0) ⟨rfl, trivial⟩ trivial rfl rfl ?_
  refine AOR.pure (LT.bloadN (out := [(iC a.Graph.Points), (.loc 0 0 a.Graph.Bars.length)]) rfl ag30 (infS inf30) sz30 (by exact rfl) (by exact rfl)) ⟨rfl, trivial⟩ ⟨rfl, trivial⟩ rfl rfl ?_
  refine AOR.pure (LT.move (v := (.s (.c (iC k)))) rfl) ⟨rfl, trivial⟩ trivial rfl rfl ?_
  refine AOR.bind fun r1 hr1 => ?_
  refine AOR.step (@LT.callF Try.prog _ _ 22 _ _ [(.agg [(iC a.Graph.Points), (.loc 0 0 a.Graph.Bars.length)]), (.c (iC k))] _ _ [] _ _ _ _ ((show Fw.Fn Try.prog 22 [(.agg [(iC a.Graph.Points), (.loc 0 0 a.Graph.Bars.length)]), (.c (iC k))] [(0, (.prow 88 (a.Graph.Bars.map encTBar)))] (.s (.c (iC r1.1))) [(0, (.prow 88 (r1.2.map encTBar)))] [0] [] from Fw.Fn.ren [(0, 0)] (w_laws_markGraph a.Graph k r1 hr1) rfl)) rfl cb22 (.cons (.agg (.cons (.same rfl) (.cons (.same rfl) .nil))) (.cons (.c (.same rfl)) .nil)) rfl rfl ⟨rfl, trivial⟩) ⟨rfl, rfl, rfl, trivial⟩ ⟨rfl, trivial⟩ rfl rfl ?_
  refine AOR.pure (LT.assign (v := (.s (.c (iC r1.1)))) rfl) ⟨rfl, trivial⟩ trivial rfl rfl ?_
  refine AOR.nil ?_
  refine AWR.seq ?_
  refine AWR.ent (Ent.of (σ' := [(1, (.s (.c (iC r1.1)))), (2, (.s (.c (.pl 21 0))))]) (m' := [(0, (.prow 88 (r1.2.map encTBar))), (1, (.prow 100 (a.Places.map encTPlace))), (21, (.row 62 [[(iC a.Graph.Points), (.loc 0 0 a.Graph.Bars.length), (.loc 1 0 a.Places.length)]]))]) ⟨rfl, rfl, trivial⟩ ⟨rfl, rfl, rfl, trivial⟩) ?_
  refine AWR.region ?_
  refine AOR.pure (LT.fieldPl rfl fo62_1) ⟨rfl, trivial⟩ trivial rfl rfl ?_
  refine AOR.pure (LT.bload1 (c := (.loc 1 0 a.Places.length)) rfl ag60 (by exact rfl)) ⟨rfl, trivial⟩ ⟨rfl, trivial⟩ rfl rfl ?_
  refine AOR.pure (LT.move (v := (.s (.c (iC r1.1)))) rfl) ⟨rfl, trivial⟩ trivial rfl rfl ?_
  refine AOR.bind fun r2 hr2 => ?_
  refine AOR.step (@LT.callF Try.prog _ _ 88 _ _ [(.c (.loc 1 0 a.Places.length)), (.c (iC r1.1))] _ _ [] _ _ _ _ ((show Fw.Fn Try.prog 88 [(.c (.loc 1 0 a.Places.length)), (.c (iC r1.1))] [(1, (.prow 100 (a.Places.map encTPlace)))] (.s (.c (iC r2.1))) [(1, (.prow 100 (r2.2.map encTPlace)))] [1] [] from Fw.Fn.ren [(0, 1)] (w_laws_markPlaceS a.Places r1.1 r2 hr2) rfl)) rfl cb88 (.cons (.c (.same rfl)) (.cons (.c (.same rfl)) .nil)) rfl rfl ⟨rfl, trivial⟩) ⟨rfl, rfl, rfl, trivial⟩ ⟨rfl, trivial⟩ rfl rfl ?_
  refine AOR.pure (LT.assign (v := (.s (.c (iC r2.1)))) rfl) ⟨rfl, trivial⟩ trivial rfl rfl ?_
  refine AOR.nil ?_
  refine AWR.seq ?_
  refine AWR.region ?_
  refine AOR.pure (LT.move (v := (.s (.c (iC r2.1)))) rfl) ⟨rfl, trivial⟩ trivial rfl rfl ?_
  refine AOR.pure (LT.assign (v := (.s (.c (iC r2.1)))) rfl) ⟨rfl, trivial⟩ trivial rfl rfl ?_
  refine AOR.nil ?_
  refine AWR.ret (FPost.mk (.inr rfl) ⟨rfl, trivial⟩ ⟨rfl, rfl, trivial⟩ rfl ⟨PermP.sc, trivial⟩ ⟨PermO.prow' perm_encTBar, PermO.prow' perm_encTPlace, trivial⟩)
end Go.Proofs.Ytihibpkbhjpajaa
