/- The code computes the models. Written by a program of mine. -/
import Derived.Test.YtihibpkbhjpajaaGenF0
import Derived.Test.YtihibpkbhjpajaaGenF1
import Derived.Test.YtihibpkbhjpajaaGenF3
import Derived.Test.YtihibpkbhjpajaaGenF4
import Derived.Test.YtihibpkbhjpajaaGenF5
import Derived.Test.YtihibpkbhjpajaaGenF7
import Derived.Test.YtihibpkbhjpajaaGenF21
import Derived.Test.YtihibpkbhjpajaaGenF30
set_option linter.unusedVariables false
set_option linter.unusedSimpArgs false
set_option linter.unnecessarySimpa false
open Go Go.Fw
namespace Go.Proofs.Ytihibpkbhjpajaa
set_option maxRecDepth 100000 in
set_option maxHeartbeats 8000000 in
theorem w_spec_l2Copy (g : TGraph) : ∀ t, m_spec_l2Copy g = some t → Fw.Fn Try.prog 89 [(.agg [(iC g.Points), (.pv (.xs false (g.Bars.map encTBar)))])] [] (.s (.agg [(iC t.Points), (.loc 0 0 t.Bars.length)])) [(0, (.prow 88 (t.Bars.map encTBar)))] [] [0] := by
  refine Fw.Fn.of (P := Try.prog) (X := [0]) (pn := []) (rs := (fun (t : TGraph) => [(.agg [(iC t.Points), (.loc 0 0 t.Bars.length)])])) (dfs := (fun (t : TGraph) => [(0, (.prow 88 (t.Bars.map encTBar)))])) Try.func89 rfl Try.ntmps89 (Nat.le_of_ble_eq_true rfl) rfl ?_
  intro w0 U0 R0 g0
  unfold m_spec_l2Copy
  refine AWR.seq ?_
  refine AWR.region ?_
  refine AOR.step (LT.box (n := 21) (v := (.agg [(iC g.Points), (.pv (.xs false (g.Bars.map encTBar)))])) rfl sz30 (by exact rfl)) ⟨rfl, trivial⟩ trivial rfl rfl ?_
  refine AOR.step (LT.alloc (n := 22) (cells := [(iC 0), (sC nilV)]) rfl ti30 rfl rfl rfl) trivial trivial rfl rfl ?_
  refine AOR.nil ?_
  refine AWR.seq ?_
  refine AWR.draw mixed ?_
  refine AOD.pure (LT.fieldPl rfl fo30_0) ⟨rfl, trivial⟩ trivial rfl rfl ?_
  refine AOD.pure (LT.bload1 (c := (iC g.Points)) rfl ag3 (by exact rfl)) ⟨rfl, trivial⟩ ⟨rfl, trivial⟩ rfl rfl ?_
  refine AOD.step (LT.tbuildSlice (n := 23) (enc := encTBar) [] ([] : List TBar) rfl rfl und28 ti88 rfl rfl rfl rfl (by decide) (fun _ => rfl) rfl) trivial trivial rfl rfl ?_
  refine AOD.pure (LT.fieldPl rfl fo30_1) ⟨rfl, trivial⟩ trivial rfl rfl ?_
  refine AOD.pure (LT.bload1 (c := (.pv (.xs false (g.Bars.map encTBar)))) rfl ag28 (by exact rfl)) ⟨rfl, trivial⟩ ⟨rfl, trivial⟩ rfl rfl ?_
  refine AOD.bind fun u1 hu1 => ?_
  refine AOD.step (LT.tappRO (enc := encTBar) rfl  rfl und28 ti88 rfl (by decide) (by decide) (fun _ => rfl) (lim_le hu1)) ⟨rfl, rfl, trivial⟩ ⟨rfl, trivial⟩ rfl rfl ?_
  refine AOD.pure (LT.build [(0, .tmp 4, (.c (iC g.Points))), (1, .tmp 8, (.c (.loc 23 0 (([] : List TBar) ++ g.Bars).length)))] rfl rfl pl30 ti30 rfl rfl rfl) ⟨rfl, rfl, trivial⟩ trivial rfl rfl ?_
  refine AOD.step (LT.bstore (v := (.agg [(iC g.Points), (.loc 23 0 (([] : List TBar) ++ g.Bars).length)])) (out := [(iC g.Points), (.loc 23 0 (([] : List TBar) ++ g.Bars).length)]) rfl rfl (infS inf30) sz30 (by exact rfl) (by exact Nat.le_of_ble_eq_true rfl) (by exact rfl)) ⟨rfl, rfl, trivial⟩ ⟨rfl, trivial⟩ rfl rfl ?_
  refine AOD.nil (by kernel_rfl) ?_
  refine AWR.ent (Ent.of (σ' := [(2, (.s (.c (.pl 22 0))))]) (m' := [(22, (.row 30 [[(iC g.Points), (.loc 23 0 (([] : List TBar) ++ g.Bars).length)]])), (23, (.prow 88 ((([] : List TBar) ++ g.Bars).map encTBar)))]) ⟨rfl, trivial⟩ ⟨rfl, rfl, trivial⟩) ?_
  refine AWR.ent (Ent.mv 23 0 rfl rfl) ?_
  refine AWR.ent (Ent.of (σ' := [(2, (.s (.c (.pl 22 0))))]) (m' := [(0, (.prow 88 ((([] : List TBar) ++ g.Bars).map encTBar))), (22, (.row 30 [[(iC g.Points), (.loc 0 0 (([] : List TBar) ++ g.Bars).length)]]))]) ⟨rfl, trivial⟩ ⟨rfl, rfl, trivial⟩) ?_
  refine AWR.ret (FPost.mk (.inr rfl) ⟨⟨_, _, _, rfl, rfl, rfl, ag30, sz30, _, (infS inf30)⟩, trivial⟩ ⟨rfl, trivial⟩ rfl ⟨⟨PermP.sc, trivial, trivial⟩, trivial⟩ ⟨PermO.prow' perm_encTBar, trivial⟩)
set_option maxRecDepth 100000 in
set_option maxHeartbeats 8000000 in
theorem w_spec_PlacesFor (g : TGraph) (seed : Int) : ∀ t, m_spec_PlacesFor g seed = some t → Fw.Fn Try.prog 58 [(.agg [(iC g.Points), (.pv (.xs false (g.Bars.map encTBar)))]), (.c (iC seed))] [] (resA [(.agg [(iC t.1.Graph.Points), (.loc 0 0 t.1.Graph.Bars.length), (.loc 1 0 t.1.Places.length)]), (.c (bC t.2))]) [(0, (.prow 88 (t.1.Graph.Bars.map encTBar))), (1, (.prow 100 (t.1.Places.map encTPlace)))] [] [0, 1] := by
  refine Fw.Fn.of (P := Try.prog) (X := [0, 1]) (pn := []) (rs := (fun (t : (TFramework × Bool)) => [(.agg [(iC t.1.Graph.Points), (.loc 0 0 t.1.Graph.Bars.length), (.loc 1 0 t.1.Places.length)]), (.c (bC t.2))])) (dfs := (fun (t : (TFramework × Bool)) => [(0, (.prow 88 (t.1.Graph.Bars.map encTBar))), (1, (.prow 100 (t.1.Places.map encTPlace)))])) Try.func58 rfl Try.ntmps58 (Nat.le_of_ble_eq_true rfl) rfl ?_
  intro w0 U0 R0 g0
  unfold m_spec_PlacesFor
  refine AWR.seq ?_
  refine AWR.region ?_
  refine AOR.step (LT.box (n := 21) (v := (.agg [(iC g.Points), (.pv (.xs false (g.Bars.map encTBar)))])) rfl sz30 (by exact rfl)) ⟨rfl, trivial⟩ trivial rfl rfl ?_
  refine AOR.step (LT.alloc (n := 22) (cells := [(iC 0), (sC nilV), (sC nilV)]) rfl ti62 rfl rfl rfl) trivial trivial rfl rfl ?_
  refine AOR.pure (LT.assign (v := (.s (.c (bC false)))) rfl) ⟨⟨rfl, rfl⟩, trivial⟩ trivial rfl rfl ?_
  refine AOR.nil ?_
  refine AWR.seq ?_
  refine AWR.region ?_
  refine AOR.pure (LT.bloadN (out := [(iC g.Points), (.pv (.xs false (g.Bars.map encTBar)))]) rfl ag30 (infS inf30) sz30 (by exact rfl) (by exact rfl)) ⟨rfl, trivial⟩ ⟨rfl, trivial⟩ rfl rfl ?_
  refine AOR.bind fun r1 hr1 => ?_
  refine AOR.step (@LT.callF Try.prog _ _ 89 _ _ [(.agg [(iC g.Points), (.pv (.xs false (g.Bars.map encTBar)))])] _ _ [] _ _ _ _ ((show Fw.Fn Try.prog 89 [(.agg [(iC g.Points), (.pv (.xs false (g.Bars.map encTBar)))])] [] (.s (.agg [(iC r1.Points), (.loc 24 0 r1.Bars.length)])) [(24, (.prow 88 (r1.Bars.map encTBar)))] [] [24] from Fw.Fn.ren [(0, 24)] (w_spec_l2Copy g r1 hr1) rfl)) rfl cb89 (.cons (.agg (.cons (.same rfl) (.cons (.same rfl) .nil))) .nil) rfl rfl trivial) ⟨rfl, rfl, trivial⟩ trivial rfl rfl ?_
  refine AOR.step (LT.tbuildSlice (n := 25) (enc := encTPlace) [] ([] : List TPlace) rfl rfl und60 ti100 rfl rfl rfl rfl (by decide) (fun _ => rfl) rfl) trivial trivial rfl rfl ?_
  refine AOR.pure (LT.build [(0, .tmp 10, (.agg [(iC r1.Points), (.loc 24 0 r1.Bars.length)])), (1, .tmp 11, (.c (.loc 25 0 ([] : List TPlace).length)))] rfl rfl pl62 ti62 rfl rfl rfl) ⟨rfl, rfl, trivial⟩ trivial rfl rfl ?_
  refine AOR.step (LT.alloc (n := 26) (cells := [(iC 0), (sC nilV), (sC nilV)]) rfl ti62 rfl rfl rfl) trivial trivial rfl rfl ?_
  refine AOR.step (LT.bstore (v := (.agg [(iC r1.Points), (.loc 24 0 r1.Bars.length), (.loc 25 0 ([] : List TPlace).length)])) (out := [(iC r1.Points), (.loc 24 0 r1.Bars.length), (.loc 25 0 ([] : List TPlace).length)]) rfl rfl (infS inf62) sz62 (by exact rfl) (by exact Nat.le_of_ble_eq_true rfl) (by exact rfl)) ⟨rfl, rfl, trivial⟩ ⟨rfl, trivial⟩ rfl rfl ?_
  refine AOR.nil ?_
  refine AWR.seq ?_
  refine AWR.seq ?_
  refine AWR.joinK (fun j5 => ([(1, (.s (.c (iC seed)))), (2, (.s (.c (.pl 21 0)))), (4, (.s (.c (.pl 22 0)))), (6, (.s (.c (.pl 26 0)))), (20, (.s (.c (bC j5))))], [(21, (.row 30 [[(iC g.Points), (.pv (.xs false (g.Bars.map encTBar)))]])), (22, (.row 62 [[(iC 0), (sC nilV), (sC nilV)]])), (24, (.prow 88 (r1.Bars.map encTBar))), (25, (.prow 100 (([] : List TPlace).map encTPlace))), (26, (.row 62 [[(iC r1.Points), (.loc 24 0 r1.Bars.length), (.loc 25 0 ([] : List TPlace).length)]]))])) ?_ (fun j5 _ => ?_)
  · refine AWR.ent (Ent.of (σ' := [(1, (.s (.c (iC seed)))), (2, (.s (.c (.pl 21 0)))), (4, (.s (.c (.pl 22 0)))), (6, (.s (.c (.pl 26 0))))]) (m' := [(21, (.row 30 [[(iC g.Points), (.pv (.xs false (g.Bars.map encTBar)))]])), (22, (.row 62 [[(iC 0), (sC nilV), (sC nilV)]])), (24, (.prow 88 (r1.Bars.map encTBar))), (25, (.prow 100 (([] : List TPlace).map encTPlace))), (26, (.row 62 [[(iC r1.Points), (.loc 24 0 r1.Bars.length), (.loc 25 0 ([] : List TPlace).length)]]))]) ⟨rfl, rfl, rfl, rfl, trivial⟩ ⟨rfl, rfl, rfl, rfl, rfl, trivial⟩) ?_
    refine AWR.region ?_
    refine AOR.pure (LT.bloadN (out := [(iC g.Points), (.pv (.xs false (g.Bars.map encTBar)))]) rfl ag30 (infS inf30) sz30 (by exact rfl) (by exact rfl)) ⟨rfl, trivial⟩ ⟨rfl, trivial⟩ rfl rfl ?_
    refine AOR.bind fun r6 hr6 => ?_
    refine AOR.pure (@LT.callF Try.prog _ _ 66 _ _ [(.agg [(iC g.Points), (.pv (.xs false (g.Bars.map encTBar)))])] _ _ [] _ _ _ _ (w_spec_IsGraph g r6 hr6) rfl cb66 (.cons (.agg (.cons (.same rfl) (.cons (.same rfl) .nil))) .nil) rfl rfl trivial) ⟨rfl, rfl, trivial⟩ trivial rfl rfl ?_
    refine AOR.pure (LT.not rfl) ⟨rfl, trivial⟩ trivial rfl rfl ?_
    refine AOR.pure (LT.move (v := (.s (.c (bC (!r6))))) rfl) ⟨rfl, trivial⟩ trivial rfl rfl ?_
    refine AOR.split (fun hb7 => ?_) (fun hb7 => ?_)
    · refine AOR.skip ⟨_, rfl, .inl ⟨_, rfl, (by rw [hb7]; rfl)⟩⟩ rfl ?_
      refine AOR.skip ⟨_, rfl, .inl ⟨_, rfl, (by rw [hb7]; rfl)⟩⟩ rfl ?_
      refine AOR.skip ⟨_, rfl, .inl ⟨_, rfl, (by rw [hb7]; rfl)⟩⟩ rfl ?_
      refine AOR.pure (LT.pickT (v := (.s (.c (bC true)))) rfl hb7) ⟨rfl, ⟨rfl, rfl⟩, trivial⟩ trivial rfl rfl ?_
      refine AOR.nil ?_
      refine AWR.nil ⟨rfl, Ent.of ⟨rfl, rfl, rfl, rfl, rfl, trivial⟩ ⟨rfl, rfl, rfl, rfl, rfl, trivial⟩⟩
    · refine AOR.pure (LT.move (v := (.s (.c (iC seed)))) rfl) ⟨rfl, trivial⟩ trivial ⟨_, rfl, .inl ⟨_, rfl, (by rw [hb7]; rfl)⟩⟩ rfl ?_
      refine AOR.bind fun r8 hr8 => ?_
      refine AOR.pure (@LT.callF Try.prog _ _ 63 _ _ [(.c (iC seed)), (.c (iC 0)), (.c (iC 65535))] _ _ [] _ _ _ _ (w_spec_l1In seed 0 65535 r8 hr8) rfl cb63 (.cons (.c (.same rfl)) (.cons (.c (.same rfl)) (.cons (.c (.same rfl)) .nil))) rfl rfl trivial) ⟨rfl, rfl, ⟨rfl, rfl⟩, ⟨rfl, rfl⟩, trivial⟩ trivial ⟨_, rfl, .inl ⟨_, rfl, (by rw [hb7]; rfl)⟩⟩ rfl ?_
      refine AOR.pure (LT.not rfl) ⟨rfl, trivial⟩ trivial ⟨_, rfl, .inl ⟨_, rfl, (by rw [hb7]; rfl)⟩⟩ rfl ?_
      refine AOR.pure (LT.pickF (v := (.s (.c (bC (!r8))))) rfl hb7) ⟨rfl, rfl, trivial⟩ trivial rfl rfl ?_
      refine AOR.nil ?_
      refine AWR.nil ⟨rfl, Ent.of ⟨rfl, rfl, rfl, rfl, rfl, trivial⟩ ⟨rfl, rfl, rfl, rfl, rfl, trivial⟩⟩
  · refine AWR.cond rfl (fun hc9 => ?_) (fun hc9 => ?_)
    · refine AWR.seq ?_
      refine AWR.region ?_
      refine AOR.pure (LT.build [] rfl rfl pl62 ti62 rfl rfl rfl) trivial trivial rfl rfl ?_
      refine AOR.step (LT.bstore (v := (.agg [(iC 0), (sC nilV), (sC nilV)])) (out := [(iC 0), (sC nilV), (sC nilV)]) rfl rfl (infS inf62) sz62 (by exact rfl) (by exact Nat.le_of_ble_eq_true rfl) (by exact rfl)) ⟨rfl, rfl, trivial⟩ ⟨rfl, trivial⟩ rfl rfl ?_
      refine AOR.pure (LT.assign (v := (.s (.c (bC false)))) rfl) ⟨⟨rfl, rfl⟩, trivial⟩ trivial rfl rfl ?_
      refine AOR.nil ?_
      refine AWR.ent (Ent.nilB 22 1 0 88 rfl rfl rfl rfl) ?_
      refine AWR.ent (Ent.nilB 22 2 1 100 rfl rfl rfl rfl) ?_
      refine AWR.ent (Ent.of (σ' := [(4, (.s (.c (.pl 22 0)))), (5, (.s (.c (bC false))))]) (m' := [(0, (.prow 88 (([] : List TBar).map encTBar))), (1, (.prow 100 (([] : List TPlace).map encTPlace))), (22, (.row 62 [[(iC 0), (.loc 0 0 ([] : List TBar).length), (.loc 1 0 ([] : List TPlace).length)]]))]) ⟨rfl, rfl, trivial⟩ ⟨rfl, rfl, rfl, trivial⟩) ?_
      refine AWR.ret (FPost.mk (.inr rfl) ⟨⟨_, _, _, rfl, rfl, rfl, ag62, sz62, _, (infS inf62)⟩, rfl, trivial⟩ ⟨rfl, rfl, trivial⟩ rfl ⟨⟨PermP.sc, trivial, trivial, trivial⟩, PermP.sc, trivial⟩ ⟨PermO.prow' perm_encTBar, PermO.prow' perm_encTPlace, trivial⟩)
    · refine AWR.skip ?_
      refine AWR.seq ?_
      refine AWR.seq ?_
      refine AWR.region ?_
      refine AOR.pure (LT.assign (v := (.s (.c (iC 0)))) rfl) ⟨⟨rfl, rfl⟩, trivial⟩ trivial rfl rfl ?_
      refine AOR.nil ?_
      refine AWR.block ?_
      refine AWR.loop1 (id := 0) (m_spec_PlacesFor_L1 g r1) (fun s10 => ([(1, (.s (.c (iC s10.1)))), (2, (.s (.c (.pl 21 0)))), (4, (.s (.c (.pl 22 0)))), (6, (.s (.c (.pl 26 0)))), (7, (.s (.c (iC s10.2.1))))], [(21, (.row 30 [[(iC g.Points), (.pv (.xs false (g.Bars.map encTBar)))]])), (22, (.row 62 [[(iC 0), (sC nilV), (sC nilV)]])), (24, (.prow 88 (r1.Bars.map encTBar))), (25, (.prow 100 (s10.2.2.map encTPlace))), (26, (.row 62 [[(iC r1.Points), (.loc 24 0 r1.Bars.length), (.loc 25 0 s10.2.2.length)]]))])) (fun b17 => ([(4, (.s (.c (.pl 22 0)))), (6, (.s (.c (.pl 26 0))))], [(22, (.row 62 [[(iC 0), (sC nilV), (sC nilV)]])), (24, (.prow 88 (b17.1.map encTBar))), (25, (.prow 100 (b17.2.1.map encTPlace))), (26, (.row 62 [[(iC b17.2.2), (.loc 24 0 b17.1.length), (.loc 25 0 b17.2.1.length)]]))])) ?_ (Ent.of ⟨rfl, rfl, rfl, rfl, rfl, trivial⟩ ⟨rfl, rfl, rfl, rfl, rfl, trivial⟩) rfl (fun b17 _ => ?_)
      · intro s10
        unfold m_spec_PlacesFor_L1
        refine AWR.seq ?_
        refine AWR.seq ?_
        refine AWR.region ?_
        refine AOR.pure (LT.move (v := (.s (.c (iC s10.2.1)))) rfl) ⟨rfl, trivial⟩ trivial rfl rfl ?_
        refine AOR.pure (LT.fieldPl rfl fo30_0) ⟨rfl, trivial⟩ trivial rfl rfl ?_
        refine AOR.pure (LT.bload1 (c := (iC g.Points)) rfl ag3 (by exact rfl)) ⟨rfl, trivial⟩ ⟨rfl, trivial⟩ rfl rfl ?_
        refine AOR.pure (LT.lss rfl) ⟨rfl, rfl, trivial⟩ trivial rfl rfl ?_
        refine AOR.nil ?_
        refine AWR.cond rfl (fun hc18 => ?_) (fun hc18 => ?_)
        · refine AWR.skip ?_
          refine AWR.seq ?_
          refine AWR.block ?_
          refine AWR.seq ?_
          refine AWR.region ?_
          refine AOR.pure (LT.move (v := (.s (.c (iC s10.1)))) rfl) ⟨rfl, trivial⟩ trivial rfl rfl ?_
          refine AOR.bind fun r19 hr19 => ?_
          refine AOR.pure (@LT.callF Try.prog _ _ 15 _ _ [(.c (iC s10.1))] _ _ [] _ _ _ _ (w_spec_NextSeed s10.1 r19 hr19) rfl cb15 (.cons (.c (.same rfl)) .nil) rfl rfl trivial) ⟨rfl, rfl, trivial⟩ trivial rfl rfl ?_
          refine AOR.pure (LT.assign (v := (.s (.c (iC r19)))) rfl) ⟨rfl, trivial⟩ trivial rfl rfl ?_
          refine AOR.nil ?_
          refine AWR.seq ?_
          refine AWR.region ?_
          refine AOR.pure (LT.move (v := (.s (.c (iC r19)))) rfl) ⟨rfl, trivial⟩ trivial rfl rfl ?_
          refine AOR.pure (LT.quo rfl (by decide)) ⟨rfl, ⟨rfl, rfl⟩, trivial⟩ trivial rfl rfl ?_
          refine AOR.pure (LT.rem rfl (by decide)) ⟨rfl, ⟨rfl, rfl⟩, trivial⟩ trivial rfl rfl ?_
          refine AOR.pure (LT.assign (v := (.s (.c (iC (Int.tmod (w64 (Int.tdiv r19 16)) 25))))) rfl) ⟨rfl, trivial⟩ trivial rfl rfl ?_
          refine AOR.nil ?_
          refine AWR.ent (Ent.of (σ' := [(1, (.s (.c (iC r19)))), (2, (.s (.c (.pl 21 0)))), (4, (.s (.c (.pl 22 0)))), (6, (.s (.c (.pl 26 0)))), (7, (.s (.c (iC s10.2.1)))), (8, (.s (.c (iC (Int.tmod (w64 (Int.tdiv r19 16)) 25)))))]) (m' := [(21, (.row 30 [[(iC g.Points), (.pv (.xs false (g.Bars.map encTBar)))]])), (22, (.row 62 [[(iC 0), (sC nilV), (sC nilV)]])), (24, (.prow 88 (r1.Bars.map encTBar))), (25, (.prow 100 (s10.2.2.map encTPlace))), (26, (.row 62 [[(iC r1.Points), (.loc 24 0 r1.Bars.length), (.loc 25 0 s10.2.2.length)]]))]) ⟨rfl, rfl, rfl, rfl, rfl, rfl, trivial⟩ ⟨rfl, rfl, rfl, rfl, rfl, trivial⟩) ?_
          refine AWR.region ?_
          refine AOR.pure (LT.fieldPl rfl fo62_1) ⟨rfl, trivial⟩ trivial rfl rfl ?_
          refine AOR.pure (LT.bload1 (c := (.loc 25 0 s10.2.2.length)) rfl ag60 (by exact rfl)) ⟨rfl, trivial⟩ ⟨rfl, trivial⟩ rfl rfl ?_
          refine AOR.pure (LT.move (v := (.s (.c (iC (Int.tmod (w64 (Int.tdiv r19 16)) 25))))) rfl) ⟨rfl, trivial⟩ trivial rfl rfl ?_
          refine AOR.pure (LT.rem rfl (by decide)) ⟨rfl, ⟨rfl, rfl⟩, trivial⟩ trivial rfl rfl ?_
          refine AOR.pure (LT.move (v := (.s (.c (iC (Int.tmod (w64 (Int.tdiv r19 16)) 25))))) rfl) ⟨rfl, trivial⟩ trivial rfl rfl ?_
          refine AOR.pure (LT.quo rfl (by decide)) ⟨rfl, ⟨rfl, rfl⟩, trivial⟩ trivial rfl rfl ?_
          refine AOR.pure (LT.build [(0, .tmp 36, (.c (iC (Int.tmod (Int.tmod (w64 (Int.tdiv r19 16)) 25) 5)))), (1, .tmp 38, (.c (iC (w64 (Int.tdiv (Int.tmod (w64 (Int.tdiv r19 16)) 25) 5)))))] rfl rfl pl100 ti100 rfl rfl rfl) ⟨rfl, rfl, trivial⟩ trivial rfl rfl ?_
          refine AOR.step (LT.tbuildSlice (n := 30) (enc := encTPlace) [(0, .tmp 39, (.agg [(iC (Int.tmod (Int.tmod (w64 (Int.tdiv r19 16)) 25) 5)), (iC (w64 (Int.tdiv (Int.tmod (w64 (Int.tdiv r19 16)) 25) 5)))]))] [(TPlace.mk (Int.tmod (Int.tmod (w64 (Int.tdiv r19 16)) 25) 5) (w64 (Int.tdiv (Int.tmod (w64 (Int.tdiv r19 16)) 25) 5)))] rfl rfl und60 ti100 rfl rfl rfl rfl (by decide) (fun _ => rfl) rfl) ⟨rfl, trivial⟩ trivial rfl rfl ?_
          refine AOR.bind fun u20 hu20 => ?_
          refine AOR.step (LT.tappP (enc := encTPlace) rfl rfl rfl und60 ti100 rfl (by decide) (by decide) (fun _ => rfl) (lim_le hu20)) ⟨rfl, rfl, trivial⟩ ⟨rfl, rfl, trivial⟩ rfl rfl ?_
          refine AOR.pure (LT.fieldPl rfl fo62_1) ⟨rfl, trivial⟩ trivial rfl rfl ?_
          refine AOR.step (LT.bstore (v := (.c (.loc 25 0 (s10.2.2 ++ [(TPlace.mk (Int.tmod (Int.tmod (w64 (Int.tdiv r19 16)) 25) 5) (w64 (Int.tdiv (Int.tmod (w64 (Int.tdiv r19 16)) 25) 5)))]).length))) (out := [(iC r1.Points), (.loc 24 0 r1.Bars.length), (.loc 25 0 (s10.2.2 ++ [(TPlace.mk (Int.tmod (Int.tmod (w64 (Int.tdiv r19 16)) 25) 5) (w64 (Int.tdiv (Int.tmod (w64 (Int.tdiv r19 16)) 25) 5)))]).length)]) rfl rfl (infS inf60) sz60 (by exact rfl) (by exact Nat.le_of_ble_eq_true rfl) (by exact rfl)) ⟨rfl, rfl, trivial⟩ ⟨rfl, trivial⟩ rfl rfl ?_
          refine AOR.nil ?_
          refine AWR.blk ?_
          refine AWR.ent (Ent.of (σ' := [(1, (.s (.c (iC r19)))), (2, (.s (.c (.pl 21 0)))), (4, (.s (.c (.pl 22 0)))), (6, (.s (.c (.pl 26 0)))), (7, (.s (.c (iC s10.2.1))))]) (m' := [(21, (.row 30 [[(iC g.Points), (.pv (.xs false (g.Bars.map encTBar)))]])), (22, (.row 62 [[(iC 0), (sC nilV), (sC nilV)]])), (24, (.prow 88 (r1.Bars.map encTBar))), (25, (.prow 100 ((s10.2.2 ++ [(TPlace.mk (Int.tmod (Int.tmod (w64 (Int.tdiv r19 16)) 25) 5) (w64 (Int.tdiv (Int.tmod (w64 (Int.tdiv r19 16)) 25) 5)))]).map encTPlace))), (26, (.row 62 [[(iC r1.Points), (.loc 24 0 r1.Bars.length), (.loc 25 0 (s10.2.2 ++ [(TPlace.mk (Int.tmod (Int.tmod (w64 (Int.tdiv r19 16)) 25) 5) (w64 (Int.tdiv (Int.tmod (w64 (Int.tdiv r19 16)) 25) 5)))]).length)]]))]) ⟨rfl, rfl, rfl, rfl, rfl, trivial⟩ ⟨rfl, rfl, rfl, rfl, rfl, trivial⟩) ?_
          refine AWR.region ?_
          refine AOR.pure (LT.move (v := (.s (.c (iC s10.2.1)))) rfl) ⟨rfl, trivial⟩ trivial rfl rfl ?_
          refine AOR.pure (LT.add rfl) ⟨rfl, ⟨rfl, rfl⟩, trivial⟩ trivial rfl rfl ?_
          refine AOR.pure (LT.assign (v := (.s (.c (iC (w64 (s10.2.1 + 1)))))) rfl) ⟨rfl, trivial⟩ trivial rfl rfl ?_
          refine AOR.nil ?_
          refine AWR.nil ⟨rfl, Ent.of ⟨rfl, rfl, rfl, rfl, rfl, trivial⟩ ⟨rfl, rfl, rfl, rfl, rfl, trivial⟩⟩
        · refine AWR.exit_end rfl ⟨rfl, Ent.of ⟨rfl, rfl, trivial⟩ ⟨rfl, rfl, rfl, rfl, trivial⟩⟩
      · refine AWR.seq ?_
        refine AWR.seq ?_
        refine AWR.region ?_
        refine AOR.pure (LT.bloadN (out := [(iC b17.2.2), (.loc 24 0 b17.1.length), (.loc 25 0 b17.2.1.length)]) rfl ag62 (infS inf62) sz62 (by exact rfl) (by exact rfl)) ⟨rfl, trivial⟩ ⟨rfl, trivial⟩ rfl rfl ?_
        refine AOR.bind fun r21 hr21 => ?_
        refine AOR.pure (@LT.callF Try.prog _ _ 79 _ _ [(.agg [(iC b17.2.2), (.loc 24 0 b17.1.length), (.loc 25 0 b17.2.1.length)])] _ _ [(24, (.prow 88 (b17.1.map encTBar))), (25, (.prow 100 (b17.2.1.map encTPlace)))] _ _ _ _ (w_spec_IsFramework (TFramework.mk (TGraph.mk b17.2.2 b17.1) b17.2.1) r21 hr21) rfl cb79 (.cons (.agg (.cons (.same rfl) (.cons (.tloc rfl rfl) (.cons (.tloc rfl rfl) .nil)))) .nil) rfl rfl trivial) ⟨rfl, rfl, trivial⟩ ⟨rfl, rfl, trivial⟩ rfl rfl ?_
        refine AOR.pure (LT.not rfl) ⟨rfl, trivial⟩ trivial rfl rfl ?_
        refine AOR.nil ?_
        refine AWR.cond rfl (fun hc22 => ?_) (fun hc22 => ?_)
        · refine AWR.seq ?_
          refine AWR.region ?_
          refine AOR.pure (LT.build [] rfl rfl pl62 ti62 rfl rfl rfl) trivial trivial rfl rfl ?_
          refine AOR.step (LT.bstore (v := (.agg [(iC 0), (sC nilV), (sC nilV)])) (out := [(iC 0), (sC nilV), (sC nilV)]) rfl rfl (infS inf62) sz62 (by exact rfl) (by exact Nat.le_of_ble_eq_true rfl) (by exact rfl)) ⟨rfl, rfl, trivial⟩ ⟨rfl, trivial⟩ rfl rfl ?_
          refine AOR.pure (LT.assign (v := (.s (.c (bC false)))) rfl) ⟨⟨rfl, rfl⟩, trivial⟩ trivial rfl rfl ?_
          refine AOR.nil ?_
          refine AWR.ent (Ent.nilB 22 1 0 88 rfl rfl rfl rfl) ?_
          refine AWR.ent (Ent.nilB 22 2 1 100 rfl rfl rfl rfl) ?_
          refine AWR.ent (Ent.of (σ' := [(4, (.s (.c (.pl 22 0)))), (5, (.s (.c (bC false))))]) (m' := [(0, (.prow 88 (([] : List TBar).map encTBar))), (1, (.prow 100 (([] : List TPlace).map encTPlace))), (22, (.row 62 [[(iC 0), (.loc 0 0 ([] : List TBar).length), (.loc 1 0 ([] : List TPlace).length)]]))]) ⟨rfl, rfl, trivial⟩ ⟨rfl, rfl, rfl, trivial⟩) ?_
          refine AWR.ret (FPost.mk (.inr rfl) ⟨⟨_, _, _, rfl, rfl, rfl, ag62, sz62, _, (infS inf62)⟩, rfl, trivial⟩ ⟨rfl, rfl, trivial⟩ rfl ⟨⟨PermP.sc, trivial, trivial, trivial⟩, PermP.sc, trivial⟩ ⟨PermO.prow' perm_encTBar, PermO.prow' perm_encTPlace, trivial⟩)
        · refine AWR.skip ?_
          refine AWR.seq ?_
          refine AWR.region ?_
          refine AOR.pure (LT.bloadN (out := [(iC b17.2.2), (.loc 24 0 b17.1.length), (.loc 25 0 b17.2.1.length)]) rfl ag62 (infS inf62) sz62 (by exact rfl) (by exact rfl)) ⟨rfl, trivial⟩ ⟨rfl, trivial⟩ rfl rfl ?_
          refine AOR.step (LT.bstore (v := (.agg [(iC b17.2.2), (.loc 24 0 b17.1.length), (.loc 25 0 b17.2.1.length)])) (out := [(iC b17.2.2), (.loc 24 0 b17.1.length), (.loc 25 0 b17.2.1.length)]) rfl rfl (infS inf62) sz62 (by exact rfl) (by exact Nat.le_of_ble_eq_true rfl) (by exact rfl)) ⟨rfl, rfl, trivial⟩ ⟨rfl, trivial⟩ rfl rfl ?_
          refine AOR.pure (LT.assign (v := (.s (.c (bC true)))) rfl) ⟨⟨rfl, rfl⟩, trivial⟩ trivial rfl rfl ?_
          refine AOR.nil ?_
          refine AWR.ent (Ent.of (σ' := [(4, (.s (.c (.pl 22 0)))), (5, (.s (.c (bC true))))]) (m' := [(22, (.row 62 [[(iC b17.2.2), (.loc 24 0 b17.1.length), (.loc 25 0 b17.2.1.length)]])), (24, (.prow 88 (b17.1.map encTBar))), (25, (.prow 100 (b17.2.1.map encTPlace)))]) ⟨rfl, rfl, trivial⟩ ⟨rfl, rfl, rfl, trivial⟩) ?_
          refine AWR.ent (Ent.mv 24 0 rfl rfl) ?_
          refine AWR.ent (Ent.mv 25 1 rfl rfl) ?_
          refine AWR.ent (Ent.of (σ' := [(4, (.s (.c (.pl 22 0)))), (5, (.s (.c (bC true))))]) (m' := [(0, (.prow 88 (b17.1.map encTBar))), (1, (.prow 100 (b17.2.1.map encTPlace))), (22, (.row 62 [[(iC b17.2.2), (.loc 0 0 b17.1.length), (.loc 1 0 b17.2.1.length)]]))]) ⟨rfl, rfl, trivial⟩ ⟨rfl, rfl, rfl, trivial⟩) ?_
          refine AWR.ret (FPost.mk (.inr rfl) ⟨⟨_, _, _, rfl, rfl, rfl, ag62, sz62, _, (infS inf62)⟩, rfl, trivial⟩ ⟨rfl, rfl, trivial⟩ rfl ⟨⟨PermP.sc, trivial, trivial, trivial⟩, PermP.sc, trivial⟩ ⟨PermO.prow' perm_encTBar, PermO.prow' perm_encTPlace, trivial⟩)
set_option maxRecDepth 100000 in
set_option maxHeartbeats 8000000 in
theorem w_impl_copyGraph (g : TGraph) : ∀ t, m_impl_copyGraph g = some t → Fw.Fn Try.prog 90 [(.agg [(iC g.Points), (.pv (.xs false (g.Bars.map encTBar)))])] [] (.s (.agg [(iC t.Points), (.loc 0 0 t.Bars.length)])) [(0, (.prow 88 (t.Bars.map encTBar)))] [] [0] := by
  refine Fw.Fn.of (P := Try.prog) (X := [0]) (pn := []) (rs := (fun (t : TGraph) => [(.agg [(iC t.Points), (.loc 0 0 t.Bars.length)])])) (dfs := (fun (t : TGraph) => [(0, (.prow 88 (t.Bars.map encTBar)))])) Try.func90 rfl Try.ntmps90 (Nat.le_of_ble_eq_true rfl) rfl ?_
  intro w0 U0 R0 g0
  unfold m_impl_copyGraph
  refine AWR.seq ?_
  refine AWR.region ?_
  refine AOR.step (LT.box (n := 21) (v := (.agg [(iC g.Points), (.pv (.xs false (g.Bars.map encTBar)))])) rfl sz30 (by exact rfl)) ⟨rfl, trivial⟩ trivial rfl rfl ?_
  refine AOR.step (LT.alloc (n := 22) (cells := [(iC 0), (sC nilV)]) rfl ti30 rfl rfl rfl) trivial trivial rfl rfl ?_
  refine AOR.nil ?_
  refine AWR.seq ?_
  refine AWR.draw mixed ?_
  refine AOD.pure (LT.fieldPl rfl fo30_0) ⟨rfl, trivial⟩ trivial rfl rfl ?_
  refine AOD.pure (LT.bload1 (c := (iC g.Points)) rfl ag3 (by exact rfl)) ⟨rfl, trivial⟩ ⟨rfl, trivial⟩ rfl rfl ?_
  refine AOD.step (LT.tbuildSlice (n := 23) (enc := encTBar) [] ([] : List TBar) rfl rfl und28 ti88 rfl rfl rfl rfl (by decide) (fun _ => rfl) rfl) trivial trivial rfl rfl ?_
  refine AOD.pure (LT.fieldPl rfl fo30_1) ⟨rfl, trivial⟩ trivial rfl rfl ?_
  refine AOD.pure (LT.bload1 (c := (.pv (.xs false (g.Bars.map encTBar)))) rfl ag28 (by exact rfl)) ⟨rfl, trivial⟩ ⟨rfl, trivial⟩ rfl rfl ?_
  refine AOD.bind fun u1 hu1 => ?_
  refine AOD.step (LT.tappRO (enc := encTBar) rfl  rfl und28 ti88 rfl (by decide) (by decide) (fun _ => rfl) (lim_le hu1)) ⟨rfl, rfl, trivial⟩ ⟨rfl, trivial⟩ rfl rfl ?_
  refine AOD.pure (LT.build [(0, .tmp 4, (.c (iC g.Points))), (1, .tmp 8, (.c (.loc 23 0 (([] : List TBar) ++ g.Bars).length)))] rfl rfl pl30 ti30 rfl rfl rfl) ⟨rfl, rfl, trivial⟩ trivial rfl rfl ?_
  refine AOD.step (LT.bstore (v := (.agg [(iC g.Points), (.loc 23 0 (([] : List TBar) ++ g.Bars).length)])) (out := [(iC g.Points), (.loc 23 0 (([] : List TBar) ++ g.Bars).length)]) rfl rfl (infS inf30) sz30 (by exact rfl) (by exact Nat.le_of_ble_eq_true rfl) (by exact rfl)) ⟨rfl, rfl, trivial⟩ ⟨rfl, trivial⟩ rfl rfl ?_
  refine AOD.nil (by kernel_rfl) ?_
  refine AWR.ent (Ent.of (σ' := [(2, (.s (.c (.pl 22 0))))]) (m' := [(22, (.row 30 [[(iC g.Points), (.loc 23 0 (([] : List TBar) ++ g.Bars).length)]])), (23, (.prow 88 ((([] : List TBar) ++ g.Bars).map encTBar)))]) ⟨rfl, trivial⟩ ⟨rfl, rfl, trivial⟩) ?_
  refine AWR.ent (Ent.mv 23 0 rfl rfl) ?_
  refine AWR.ent (Ent.of (σ' := [(2, (.s (.c (.pl 22 0))))]) (m' := [(0, (.prow 88 ((([] : List TBar) ++ g.Bars).map encTBar))), (22, (.row 30 [[(iC g.Points), (.loc 0 0 (([] : List TBar) ++ g.Bars).length)]]))]) ⟨rfl, trivial⟩ ⟨rfl, rfl, trivial⟩) ?_
  refine AWR.ret (FPost.mk (.inr rfl) ⟨⟨_, _, _, rfl, rfl, rfl, ag30, sz30, _, (infS inf30)⟩, trivial⟩ ⟨rfl, trivial⟩ rfl ⟨⟨PermP.sc, trivial, trivial⟩, trivial⟩ ⟨PermO.prow' perm_encTBar, trivial⟩)
set_option maxRecDepth 100000 in
set_option maxHeartbeats 8000000 in
theorem w_impl_PlacesFor (g : TGraph) (seed : Int) : ∀ t, m_impl_PlacesFor g seed = some t → Fw.Fn Try.prog 59 [(.agg [(iC g.Points), (.pv (.xs false (g.Bars.map encTBar)))]), (.c (iC seed))] [] (resA [(.agg [(iC t.1.Graph.Points), (.loc 0 0 t.1.Graph.Bars.length), (.loc 1 0 t.1.Places.length)]), (.c (bC t.2))]) [(0, (.prow 88 (t.1.Graph.Bars.map encTBar))), (1, (.prow 100 (t.1.Places.map encTPlace)))] [] [0, 1] := by
  refine Fw.Fn.of (P := Try.prog) (X := [0, 1]) (pn := []) (rs := (fun (t : (TFramework × Bool)) => [(.agg [(iC t.1.Graph.Points), (.loc 0 0 t.1.Graph.Bars.length), (.loc 1 0 t.1.Places.length)]), (.c (bC t.2))])) (dfs := (fun (t : (TFramework × Bool)) => [(0, (.prow 88 (t.1.Graph.Bars.map encTBar))), (1, (.prow 100 (t.1.Places.map encTPlace)))])) Try.func59 rfl Try.ntmps59 (Nat.le_of_ble_eq_true rfl) rfl ?_
  intro w0 U0 R0 g0
  unfold m_impl_PlacesFor
  refine AWR.seq ?_
  refine AWR.region ?_
  refine AOR.step (LT.box (n := 21) (v := (.agg [(iC g.Points), (.pv (.xs false (g.Bars.map encTBar)))])) rfl sz30 (by exact rfl)) ⟨rfl, trivial⟩ trivial rfl rfl ?_
  refine AOR.step (LT.alloc (n := 22) (cells := [(iC 0), (sC nilV), (sC nilV)]) rfl ti62 rfl rfl rfl) trivial trivial rfl rfl ?_
  refine AOR.pure (LT.assign (v := (.s (.c (bC false)))) rfl) ⟨⟨rfl, rfl⟩, trivial⟩ trivial rfl rfl ?_
  refine AOR.nil ?_
  refine AWR.seq ?_
  refine AWR.seq ?_
  refine AWR.joinK (fun j4 => ([(1, (.s (.c (iC seed)))), (2, (.s (.c (.pl 21 0)))), (4, (.s (.c (.pl 22 0)))), (15, (.s (.c (bC j4))))], [(21, (.row 30 [[(iC g.Points), (.pv (.xs false (g.Bars.map encTBar)))]])), (22, (.row 62 [[(iC 0), (sC nilV), (sC nilV)]]))])) ?_ (fun j4 _ => ?_)
  · refine AWR.region ?_
    refine AOR.pure (LT.bloadN (out := [(iC g.Points), (.pv (.xs false (g.Bars.map encTBar)))]) rfl ag30 (infS inf30) sz30 (by exact rfl) (by exact rfl)) ⟨rfl, trivial⟩ ⟨rfl, trivial⟩ rfl rfl ?_
    refine AOR.bind fun r5 hr5 => ?_
    refine AOR.pure (@LT.callF Try.prog _ _ 68 _ _ [(.agg [(iC g.Points), (.pv (.xs false (g.Bars.map encTBar)))])] _ _ [] _ _ _ _ (w_impl_IsGraph g r5 hr5) rfl cb68 (.cons (.agg (.cons (.same rfl) (.cons (.same rfl) .nil))) .nil) rfl rfl trivial) ⟨rfl, rfl, trivial⟩ trivial rfl rfl ?_
    refine AOR.pure (LT.not rfl) ⟨rfl, trivial⟩ trivial rfl rfl ?_
    refine AOR.pure (LT.move (v := (.s (.c (bC (!r5))))) rfl) ⟨rfl, trivial⟩ trivial rfl rfl ?_
    refine AOR.split (fun hb6 => ?_) (fun hb6 => ?_)
    · refine AOR.skip ⟨_, rfl, .inl ⟨_, rfl, (by rw [hb6]; rfl)⟩⟩ rfl ?_
      refine AOR.skip ⟨_, rfl, .inl ⟨_, rfl, (by rw [hb6]; rfl)⟩⟩ rfl ?_
      refine AOR.skip ⟨_, rfl, .inl ⟨_, rfl, (by rw [hb6]; rfl)⟩⟩ rfl ?_
      refine AOR.pure (LT.pickT (v := (.s (.c (bC true)))) rfl hb6) ⟨rfl, ⟨rfl, rfl⟩, trivial⟩ trivial rfl rfl ?_
      refine AOR.nil ?_
      refine AWR.nil ⟨rfl, Ent.of ⟨rfl, rfl, rfl, rfl, trivial⟩ ⟨rfl, rfl, trivial⟩⟩
    · refine AOR.pure (LT.move (v := (.s (.c (iC seed)))) rfl) ⟨rfl, trivial⟩ trivial ⟨_, rfl, .inl ⟨_, rfl, (by rw [hb6]; rfl)⟩⟩ rfl ?_
      refine AOR.bind fun r7 hr7 => ?_
      refine AOR.pure (@LT.callF Try.prog _ _ 64 _ _ [(.c (iC seed)), (.c (iC 0)), (.c (iC 65535))] _ _ [] _ _ _ _ (w_impl_within seed 0 65535 r7 hr7) rfl cb64 (.cons (.c (.same rfl)) (.cons (.c (.same rfl)) (.cons (.c (.same rfl)) .nil))) rfl rfl trivial) ⟨rfl, rfl, ⟨rfl, rfl⟩, ⟨rfl, rfl⟩, trivial⟩ trivial ⟨_, rfl, .inl ⟨_, rfl, (by rw [hb6]; rfl)⟩⟩ rfl ?_
      refine AOR.pure (LT.not rfl) ⟨rfl, trivial⟩ trivial ⟨_, rfl, .inl ⟨_, rfl, (by rw [hb6]; rfl)⟩⟩ rfl ?_
      refine AOR.pure (LT.pickF (v := (.s (.c (bC (!r7))))) rfl hb6) ⟨rfl, rfl, trivial⟩ trivial rfl rfl ?_
      refine AOR.nil ?_
      refine AWR.nil ⟨rfl, Ent.of ⟨rfl, rfl, rfl, rfl, trivial⟩ ⟨rfl, rfl, trivial⟩⟩
  · refine AWR.cond rfl (fun hc8 => ?_) (fun hc8 => ?_)
    · refine AWR.seq ?_
      refine AWR.region ?_
      refine AOR.pure (LT.build [] rfl rfl pl62 ti62 rfl rfl rfl) trivial trivial rfl rfl ?_
      refine AOR.step (LT.bstore (v := (.agg [(iC 0), (sC nilV), (sC nilV)])) (out := [(iC 0), (sC nilV), (sC nilV)]) rfl rfl (infS inf62) sz62 (by exact rfl) (by exact Nat.le_of_ble_eq_true rfl) (by exact rfl)) ⟨rfl, rfl, trivial⟩ ⟨rfl, trivial⟩ rfl rfl ?_
      refine AOR.pure (LT.assign (v := (.s (.c (bC false)))) rfl) ⟨⟨rfl, rfl⟩, trivial⟩ trivial rfl rfl ?_
      refine AOR.nil ?_
      refine AWR.ent (Ent.nilB 22 1 0 88 rfl rfl rfl rfl) ?_
      refine AWR.ent (Ent.nilB 22 2 1 100 rfl rfl rfl rfl) ?_
      refine AWR.ent (Ent.of (σ' := [(4, (.s (.c (.pl 22 0)))), (5, (.s (.c (bC false))))]) (m' := [(0, (.prow 88 (([] : List TBar).map encTBar))), (1, (.prow 100 (([] : List TPlace).map encTPlace))), (22, (.row 62 [[(iC 0), (.loc 0 0 ([] : List TBar).length), (.loc 1 0 ([] : List TPlace).length)]]))]) ⟨rfl, rfl, trivial⟩ ⟨rfl, rfl, rfl, trivial⟩) ?_
      refine AWR.ret (FPost.mk (.inr rfl) ⟨⟨_, _, _, rfl, rfl, rfl, ag62, sz62, _, (infS inf62)⟩, rfl, trivial⟩ ⟨rfl, rfl, trivial⟩ rfl ⟨⟨PermP.sc, trivial, trivial, trivial⟩, PermP.sc, trivial⟩ ⟨PermO.prow' perm_encTBar, PermO.prow' perm_encTPlace, trivial⟩)
    · refine AWR.skip ?_
      refine AWR.seq ?_
      refine AWR.region ?_
      refine AOR.pure (LT.bloadN (out := [(iC g.Points), (.pv (.xs false (g.Bars.map encTBar)))]) rfl ag30 (infS inf30) sz30 (by exact rfl) (by exact rfl)) ⟨rfl, trivial⟩ ⟨rfl, trivial⟩ rfl rfl ?_
      refine AOR.bind fun r9 hr9 => ?_
      refine AOR.step (@LT.callF Try.prog _ _ 90 _ _ [(.agg [(iC g.Points), (.pv (.xs false (g.Bars.map encTBar)))])] _ _ [] _ _ _ _ ((show Fw.Fn Try.prog 90 [(.agg [(iC g.Points), (.pv (.xs false (g.Bars.map encTBar)))])] [] (.s (.agg [(iC r9.Points), (.loc 26 0 r9.Bars.length)])) [(26, (.prow 88 (r9.Bars.map encTBar)))] [] [26] from Fw.Fn.ren [(0, 26)] (w_impl_copyGraph g r9 hr9) rfl)) rfl cb90 (.cons (.agg (.cons (.same rfl) (.cons (.same rfl) .nil))) .nil) rfl rfl trivial) ⟨rfl, rfl, trivial⟩ trivial rfl rfl ?_
      refine AOR.pure (LT.build [(0, .tmp 18, (.agg [(iC r9.Points), (.loc 26 0 r9.Bars.length)]))] rfl rfl pl62 ti62 rfl rfl rfl) ⟨rfl, trivial⟩ trivial rfl rfl ?_
      refine AOR.step (LT.alloc (n := 27) (cells := [(iC 0), (sC nilV), (sC nilV)]) rfl ti62 rfl rfl rfl) trivial trivial rfl rfl ?_
      refine AOR.step (LT.bstore (v := (.agg [(iC r9.Points), (.loc 26 0 r9.Bars.length), (sC nilV)])) (out := [(iC r9.Points), (.loc 26 0 r9.Bars.length), (sC nilV)]) rfl rfl (infS inf62) sz62 (by exact rfl) (by exact Nat.le_of_ble_eq_true rfl) (by exact rfl)) ⟨rfl, rfl, trivial⟩ ⟨rfl, trivial⟩ rfl rfl ?_
      refine AOR.nil ?_
      refine AWR.seq ?_
      refine AWR.seq ?_
      refine AWR.ent (Ent.of (σ' := [(1, (.s (.c (iC seed)))), (2, (.s (.c (.pl 21 0)))), (4, (.s (.c (.pl 22 0)))), (6, (.s (.c (.pl 27 0))))]) (m' := [(21, (.row 30 [[(iC g.Points), (.pv (.xs false (g.Bars.map encTBar)))]])), (22, (.row 62 [[(iC 0), (sC nilV), (sC nilV)]])), (26, (.prow 88 (r9.Bars.map encTBar))), (27, (.row 62 [[(iC r9.Points), (.loc 26 0 r9.Bars.length), (sC nilV)]]))]) ⟨rfl, rfl, rfl, rfl, trivial⟩ ⟨rfl, rfl, rfl, rfl, trivial⟩) ?_
      refine AWR.region ?_
      refine AOR.pure (LT.fieldPl rfl fo30_0) ⟨rfl, trivial⟩ trivial rfl rfl ?_
      refine AOR.pure (LT.bload1 (c := (iC g.Points)) rfl ag3 (by exact rfl)) ⟨rfl, trivial⟩ ⟨rfl, trivial⟩ rfl rfl ?_
      refine AOR.pure (LT.move (v := (.s (.c (iC 0)))) rfl) ⟨⟨rfl, rfl⟩, trivial⟩ trivial rfl rfl ?_
      refine AOR.nil ?_
      refine AWR.block ?_
      refine AWR.ent (Ent.nilB 27 2 31 100 rfl rfl rfl rfl) ?_
      refine AWR.loop1 (id := 0) (m_impl_PlacesFor_L1 g r9) (fun s10 => ([(1, (.s (.c (iC s10.1)))), (4, (.s (.c (.pl 22 0)))), (6, (.s (.c (.pl 27 0)))), (21, (.s (.c (iC g.Points)))), (22, (.s (.c (iC s10.2.1))))], [(22, (.row 62 [[(iC 0), (sC nilV), (sC nilV)]])), (26, (.prow 88 (r9.Bars.map encTBar))), (27, (.row 62 [[(iC r9.Points), (.loc 26 0 r9.Bars.length), (.loc 31 0 s10.2.2.length)]])), (31, (.prow 100 (s10.2.2.map encTPlace)))])) (fun b17 => ([(4, (.s (.c (.pl 22 0)))), (6, (.s (.c (.pl 27 0))))], [(22, (.row 62 [[(iC 0), (sC nilV), (sC nilV)]])), (26, (.prow 88 (b17.1.map encTBar))), (27, (.row 62 [[(iC b17.2.1), (.loc 26 0 b17.1.length), (.loc 31 0 b17.2.2.length)]])), (31, (.prow 100 (b17.2.2.map encTPlace)))])) ?_ (Ent.of ⟨rfl, rfl, rfl, rfl, rfl, trivial⟩ ⟨rfl, rfl, rfl, rfl, trivial⟩) rfl (fun b17 _ => ?_)
      · intro s10
        unfold m_impl_PlacesFor_L1
        refine AWR.seq ?_
        refine AWR.region ?_
        refine AOR.pure (LT.lss rfl) ⟨rfl, rfl, trivial⟩ trivial rfl rfl ?_
        refine AOR.nil ?_
        refine AWR.seq ?_
        refine AWR.cond rfl (fun hc18 => ?_) (fun hc18 => ?_)
        · refine AWR.skip ?_
          refine AWR.seq ?_
          refine AWR.block ?_
          refine AWR.seq ?_
          refine AWR.region ?_
          refine AOR.pure (LT.move (v := (.s (.c (iC s10.1)))) rfl) ⟨rfl, trivial⟩ trivial rfl rfl ?_
          refine AOR.bind fun r19 hr19 => ?_
          refine AOR.pure (@LT.callF Try.prog _ _ 16 _ _ [(.c (iC s10.1))] _ _ [] _ _ _ _ (w_impl_NextSeed s10.1 r19 hr19) rfl cb16 (.cons (.c (.same rfl)) .nil) rfl rfl trivial) ⟨rfl, rfl, trivial⟩ trivial rfl rfl ?_
          refine AOR.pure (LT.assign (v := (.s (.c (iC r19)))) rfl) ⟨rfl, trivial⟩ trivial rfl rfl ?_
          refine AOR.nil ?_
          refine AWR.seq ?_
          refine AWR.region ?_
          refine AOR.pure (LT.move (v := (.s (.c (iC r19)))) rfl) ⟨rfl, trivial⟩ trivial rfl rfl ?_
          refine AOR.pure (LT.quo rfl (by decide)) ⟨rfl, ⟨rfl, rfl⟩, trivial⟩ trivial rfl rfl ?_
          refine AOR.pure (LT.rem rfl (by decide)) ⟨rfl, ⟨rfl, rfl⟩, trivial⟩ trivial rfl rfl ?_
          refine AOR.pure (LT.assign (v := (.s (.c (iC (Int.tmod (w64 (Int.tdiv r19 16)) 25))))) rfl) ⟨rfl, trivial⟩ trivial rfl rfl ?_
          refine AOR.nil ?_
          refine AWR.region ?_
          refine AOR.pure (LT.fieldPl rfl fo62_1) ⟨rfl, trivial⟩ trivial rfl rfl ?_
          refine AOR.pure (LT.bload1 (c := (.loc 31 0 s10.2.2.length)) rfl ag60 (by exact rfl)) ⟨rfl, trivial⟩ ⟨rfl, trivial⟩ rfl rfl ?_
          refine AOR.pure (LT.move (v := (.s (.c (iC (Int.tmod (w64 (Int.tdiv r19 16)) 25))))) rfl) ⟨rfl, trivial⟩ trivial rfl rfl ?_
          refine AOR.pure (LT.rem rfl (by decide)) ⟨rfl, ⟨rfl, rfl⟩, trivial⟩ trivial rfl rfl ?_
          refine AOR.pure (LT.move (v := (.s (.c (iC (Int.tmod (w64 (Int.tdiv r19 16)) 25))))) rfl) ⟨rfl, trivial⟩ trivial rfl rfl ?_
          refine AOR.pure (LT.quo rfl (by decide)) ⟨rfl, ⟨rfl, rfl⟩, trivial⟩ trivial rfl rfl ?_
          refine AOR.pure (LT.build [(0, .tmp 32, (.c (iC (Int.tmod (Int.tmod (w64 (Int.tdiv r19 16)) 25) 5)))), (1, .tmp 34, (.c (iC (w64 (Int.tdiv (Int.tmod (w64 (Int.tdiv r19 16)) 25) 5)))))] rfl rfl pl100 ti100 rfl rfl rfl) ⟨rfl, rfl, trivial⟩ trivial rfl rfl ?_
          refine AOR.step (LT.tbuildSlice (n := 29) (enc := encTPlace) [(0, .tmp 35, (.agg [(iC (Int.tmod (Int.tmod (w64 (Int.tdiv r19 16)) 25) 5)), (iC (w64 (Int.tdiv (Int.tmod (w64 (Int.tdiv r19 16)) 25) 5)))]))] [(TPlace.mk (Int.tmod (Int.tmod (w64 (Int.tdiv r19 16)) 25) 5) (w64 (Int.tdiv (Int.tmod (w64 (Int.tdiv r19 16)) 25) 5)))] rfl rfl und60 ti100 rfl rfl rfl rfl (by decide) (fun _ => rfl) rfl) ⟨rfl, trivial⟩ trivial rfl rfl ?_
          refine AOR.bind fun u20 hu20 => ?_
          refine AOR.step (LT.tappP (enc := encTPlace) rfl rfl rfl und60 ti100 rfl (by decide) (by decide) (fun _ => rfl) (lim_le hu20)) ⟨rfl, rfl, trivial⟩ ⟨rfl, rfl, trivial⟩ rfl rfl ?_
          refine AOR.pure (LT.fieldPl rfl fo62_1) ⟨rfl, trivial⟩ trivial rfl rfl ?_
          refine AOR.step (LT.bstore (v := (.c (.loc 31 0 (s10.2.2 ++ [(TPlace.mk (Int.tmod (Int.tmod (w64 (Int.tdiv r19 16)) 25) 5) (w64 (Int.tdiv (Int.tmod (w64 (Int.tdiv r19 16)) 25) 5)))]).length))) (out := [(iC r9.Points), (.loc 26 0 r9.Bars.length), (.loc 31 0 (s10.2.2 ++ [(TPlace.mk (Int.tmod (Int.tmod (w64 (Int.tdiv r19 16)) 25) 5) (w64 (Int.tdiv (Int.tmod (w64 (Int.tdiv r19 16)) 25) 5)))]).length)]) rfl rfl (infS inf60) sz60 (by exact rfl) (by exact Nat.le_of_ble_eq_true rfl) (by exact rfl)) ⟨rfl, rfl, trivial⟩ ⟨rfl, trivial⟩ rfl rfl ?_
          refine AOR.nil ?_
          refine AWR.blk ?_
          refine AWR.ent (Ent.of (σ' := [(1, (.s (.c (iC r19)))), (4, (.s (.c (.pl 22 0)))), (6, (.s (.c (.pl 27 0)))), (21, (.s (.c (iC g.Points)))), (22, (.s (.c (iC s10.2.1))))]) (m' := [(22, (.row 62 [[(iC 0), (sC nilV), (sC nilV)]])), (26, (.prow 88 (r9.Bars.map encTBar))), (27, (.row 62 [[(iC r9.Points), (.loc 26 0 r9.Bars.length), (.loc 31 0 (s10.2.2 ++ [(TPlace.mk (Int.tmod (Int.tmod (w64 (Int.tdiv r19 16)) 25) 5) (w64 (Int.tdiv (Int.tmod (w64 (Int.tdiv r19 16)) 25) 5)))]).length)]])), (31, (.prow 100 ((s10.2.2 ++ [(TPlace.mk (Int.tmod (Int.tmod (w64 (Int.tdiv r19 16)) 25) 5) (w64 (Int.tdiv (Int.tmod (w64 (Int.tdiv r19 16)) 25) 5)))]).map encTPlace)))]) ⟨rfl, rfl, rfl, rfl, rfl, trivial⟩ ⟨rfl, rfl, rfl, rfl, trivial⟩) ?_
          refine AWR.region ?_
          refine AOR.pure (LT.add rfl) ⟨rfl, ⟨rfl, rfl⟩, trivial⟩ trivial rfl rfl ?_
          refine AOR.pure (LT.move (v := (.s (.c (iC (w64 (s10.2.1 + 1)))))) rfl) ⟨rfl, trivial⟩ trivial rfl rfl ?_
          refine AOR.nil ?_
          refine AWR.nil ⟨rfl, Ent.of ⟨rfl, rfl, rfl, rfl, rfl, trivial⟩ ⟨rfl, rfl, rfl, rfl, trivial⟩⟩
        · refine AWR.exit_end rfl ⟨rfl, Ent.of ⟨rfl, rfl, trivial⟩ ⟨rfl, rfl, rfl, rfl, trivial⟩⟩
      · refine AWR.seq ?_
        refine AWR.seq ?_
        refine AWR.region ?_
        refine AOR.pure (LT.bloadN (out := [(iC b17.2.1), (.loc 26 0 b17.1.length), (.loc 31 0 b17.2.2.length)]) rfl ag62 (infS inf62) sz62 (by exact rfl) (by exact rfl)) ⟨rfl, trivial⟩ ⟨rfl, trivial⟩ rfl rfl ?_
        refine AOR.bind fun r21 hr21 => ?_
        refine AOR.pure (@LT.callF Try.prog _ _ 82 _ _ [(.agg [(iC b17.2.1), (.loc 26 0 b17.1.length), (.loc 31 0 b17.2.2.length)])] _ _ [(26, (.prow 88 (b17.1.map encTBar))), (31, (.prow 100 (b17.2.2.map encTPlace)))] _ _ _ _ (w_impl_IsFramework (TFramework.mk (TGraph.mk b17.2.1 b17.1) b17.2.2) r21 hr21) rfl cb82 (.cons (.agg (.cons (.same rfl) (.cons (.tloc rfl rfl) (.cons (.tloc rfl rfl) .nil)))) .nil) rfl rfl trivial) ⟨rfl, rfl, trivial⟩ ⟨rfl, rfl, trivial⟩ rfl rfl ?_
        refine AOR.pure (LT.not rfl) ⟨rfl, trivial⟩ trivial rfl rfl ?_
        refine AOR.nil ?_
        refine AWR.cond rfl (fun hc22 => ?_) (fun hc22 => ?_)
        · refine AWR.seq ?_
          refine AWR.region ?_
          refine AOR.pure (LT.build [] rfl rfl pl62 ti62 rfl rfl rfl) trivial trivial rfl rfl ?_
          refine AOR.step (LT.bstore (v := (.agg [(iC 0), (sC nilV), (sC nilV)])) (out := [(iC 0), (sC nilV), (sC nilV)]) rfl rfl (infS inf62) sz62 (by exact rfl) (by exact Nat.le_of_ble_eq_true rfl) (by exact rfl)) ⟨rfl, rfl, trivial⟩ ⟨rfl, trivial⟩ rfl rfl ?_
          refine AOR.pure (LT.assign (v := (.s (.c (bC false)))) rfl) ⟨⟨rfl, rfl⟩, trivial⟩ trivial rfl rfl ?_
          refine AOR.nil ?_
          refine AWR.ent (Ent.nilB 22 1 0 88 rfl rfl rfl rfl) ?_
          refine AWR.ent (Ent.nilB 22 2 1 100 rfl rfl rfl rfl) ?_
          refine AWR.ent (Ent.of (σ' := [(4, (.s (.c (.pl 22 0)))), (5, (.s (.c (bC false))))]) (m' := [(0, (.prow 88 (([] : List TBar).map encTBar))), (1, (.prow 100 (([] : List TPlace).map encTPlace))), (22, (.row 62 [[(iC 0), (.loc 0 0 ([] : List TBar).length), (.loc 1 0 ([] : List TPlace).length)]]))]) ⟨rfl, rfl, trivial⟩ ⟨rfl, rfl, rfl, trivial⟩) ?_
          refine AWR.ret (FPost.mk (.inr rfl) ⟨⟨_, _, _, rfl, rfl, rfl, ag62, sz62, _, (infS inf62)⟩, rfl, trivial⟩ ⟨rfl, rfl, trivial⟩ rfl ⟨⟨PermP.sc, trivial, trivial, trivial⟩, PermP.sc, trivial⟩ ⟨PermO.prow' perm_encTBar, PermO.prow' perm_encTPlace, trivial⟩)
        · refine AWR.skip ?_
          refine AWR.seq ?_
          refine AWR.region ?_
          refine AOR.pure (LT.bloadN (out := [(iC b17.2.1), (.loc 26 0 b17.1.length), (.loc 31 0 b17.2.2.length)]) rfl ag62 (infS inf62) sz62 (by exact rfl) (by exact rfl)) ⟨rfl, trivial⟩ ⟨rfl, trivial⟩ rfl rfl ?_
          refine AOR.step (LT.bstore (v := (.agg [(iC b17.2.1), (.loc 26 0 b17.1.length), (.loc 31 0 b17.2.2.length)])) (out := [(iC b17.2.1), (.loc 26 0 b17.1.length), (.loc 31 0 b17.2.2.length)]) rfl rfl (infS inf62) sz62 (by exact rfl) (by exact Nat.le_of_ble_eq_true rfl) (by exact rfl)) ⟨rfl, rfl, trivial⟩ ⟨rfl, trivial⟩ rfl rfl ?_
          refine AOR.pure (LT.assign (v := (.s (.c (bC true)))) rfl) ⟨⟨rfl, rfl⟩, trivial⟩ trivial rfl rfl ?_
          refine AOR.nil ?_
          refine AWR.ent (Ent.of (σ' := [(4, (.s (.c (.pl 22 0)))), (5, (.s (.c (bC true))))]) (m' := [(22, (.row 62 [[(iC b17.2.1), (.loc 26 0 b17.1.length), (.loc 31 0 b17.2.2.length)]])), (26, (.prow 88 (b17.1.map encTBar))), (31, (.prow 100 (b17.2.2.map encTPlace)))]) ⟨rfl, rfl, trivial⟩ ⟨rfl, rfl, rfl, trivial⟩) ?_
          refine AWR.ent (Ent.mv 26 0 rfl rfl) ?_
          refine AWR.ent (Ent.mv 31 1 rfl rfl) ?_
          refine AWR.ent (Ent.of (σ' := [(4, (.s (.c (.pl 22 0)))), (5, (.s (.c (bC true))))]) (m' := [(0, (.prow 88 (b17.1.map encTBar))), (1, (.prow 100 (b17.2.2.map encTPlace))), (22, (.row 62 [[(iC b17.2.1), (.loc 0 0 b17.1.length), (.loc 1 0 b17.2.2.length)]]))]) ⟨rfl, rfl, trivial⟩ ⟨rfl, rfl, rfl, trivial⟩) ?_
          refine AWR.ret (FPost.mk (.inr rfl) ⟨⟨_, _, _, rfl, rfl, rfl, ag62, sz62, _, (infS inf62)⟩, rfl, trivial⟩ ⟨rfl, rfl, trivial⟩ rfl ⟨⟨PermP.sc, trivial, trivial, trivial⟩, PermP.sc, trivial⟩ ⟨PermO.prow' perm_encTBar, PermO.prow' perm_encTPlace, trivial⟩)
set_option maxRecDepth 100000 in
set_option maxHeartbeats 8000000 in
theorem w_laws_heldPlaceS (a : (List TPlace)) (k : Int) : ∀ t, m_laws_heldPlaceS a k = some t → Fw.Fn Try.prog 91 [(.c (.pv (.xs false (a.map encTPlace)))), (.c (iC k))] [] (.s (.c (iC t))) [] [] [] := by
  refine Fw.Fn.of (P := Try.prog) (X := []) (pn := []) (rs := (fun (t : Int) => [(.c (iC t))])) (dfs := (fun (t : Int) => [])) Try.func91 rfl Try.ntmps91 (Nat.le_of_ble_eq_true rfl) rfl ?_
  intro w0 U0 R0 g0
  unfold m_laws_heldPlaceS
  refine AWR.seq ?_
  refine AWR.region ?_
  refine AOR.pure (LT.assign (v := (.s (.c (iC 0)))) rfl) ⟨⟨rfl, rfl⟩, trivial⟩ trivial rfl rfl ?_
  refine AOR.nil ?_
  refine AWR.seq ?_
  refine AWR.seq ?_
  refine AWR.region ?_
  refine AOR.pure (LT.assign (v := (.s (.c (iC 0)))) rfl) ⟨⟨rfl, rfl⟩, trivial⟩ trivial rfl rfl ?_
  refine AOR.nil ?_
  refine AWR.block ?_
  refine AWR.loopR (id := 0) (m_laws_heldPlaceS_L1 a) (fun s1 => ([(0, (.s (.c (.pv (.xs false (a.map encTPlace)))))), (1, (.s (.c (iC s1.1)))), (5, (.s (.c (iC s1.2))))], [])) (fun b12 => ([(1, (.s (.c (iC b12))))], [])) (FPost Try.prog Try.f91.results.toList [] [] (fun (t : Int) => [(.c (iC t))]) (fun (t : Int) => [])) ?_ (Ent.of ⟨rfl, rfl, rfl, trivial⟩ trivial) rfl (fun b12 _ => ?_) (by intro r t σ m ht hk; injection ht with ht; subst ht; exact hk)
  · intro s1
    unfold m_laws_heldPlaceS_L1
    refine AWR.seq ?_
    refine AWR.seq ?_
    refine AWR.region ?_
    refine AOR.pure (LT.move (v := (.s (.c (iC s1.2)))) rfl) ⟨rfl, trivial⟩ trivial rfl rfl ?_
    refine AOR.pure (LT.move (v := (.s (.c (.pv (.xs false (a.map encTPlace)))))) rfl) ⟨rfl, trivial⟩ trivial rfl rfl ?_
    refine AOR.pure (LT.tlenRO rfl und60) ⟨rfl, trivial⟩ trivial rfl rfl ?_
    refine AOR.pure (LT.lss rfl) ⟨rfl, rfl, trivial⟩ trivial rfl rfl ?_
    refine AOR.nil ?_
    refine AWR.cond rfl (fun hc13 => ?_) (fun hc13 => ?_)
    · refine AWR.skip ?_
      refine AWR.seq ?_
      refine AWR.block ?_
      refine AWR.seq ?_
      refine AWR.seq ?_
      refine AWR.region ?_
      refine AOR.pure (LT.move (v := (.s (.c (.pv (.xs false (a.map encTPlace)))))) rfl) ⟨rfl, trivial⟩ trivial rfl rfl ?_
      refine AOR.pure (LT.move (v := (.s (.c (iC s1.2)))) rfl) ⟨rfl, trivial⟩ trivial rfl rfl ?_
      refine AOR.bind fun x14 hx14 => ?_
      refine AOR.pure (LT.tindexRO (enc := encTPlace) rfl el60 hx14 sz100) ⟨rfl, rfl, trivial⟩ trivial rfl rfl ?_
      refine AOR.pure (LT.fieldPx rfl fo100_0) ⟨rfl, trivial⟩ trivial rfl rfl ?_
      refine AOR.pure (LT.loadPx1 rfl ag3) ⟨rfl, trivial⟩ trivial rfl rfl ?_
      refine AOR.pure (LT.move (v := (.s (.c (iC s1.1)))) rfl) ⟨rfl, trivial⟩ trivial rfl rfl ?_
      refine AOR.pure (LT.neq rfl) ⟨rfl, rfl, trivial⟩ trivial rfl rfl ?_
      refine AOR.nil ?_
      refine AWR.cond rfl (fun hc15 => ?_) (fun hc15 => ?_)
      · refine AWR.seq ?_
        refine AWR.ent (Ent.of (σ' := []) (m' := []) trivial trivial) ?_
        refine AWR.region ?_
        refine AOR.pure (LT.assign (v := (.s (.c (iC (-1))))) rfl) ⟨⟨rfl, rfl⟩, trivial⟩ trivial rfl rfl ?_
        refine AOR.nil ?_
        refine AWR.ret ⟨rfl, FPost.mk (.inr rfl) ⟨rfl, trivial⟩ trivial rfl ⟨PermP.sc, trivial⟩ trivial⟩
      · refine AWR.skip ?_
        refine AWR.seq ?_
        refine AWR.ent (Ent.of (σ' := [(0, (.s (.c (.pv (.xs false (a.map encTPlace)))))), (1, (.s (.c (iC s1.1)))), (5, (.s (.c (iC s1.2))))]) (m' := []) ⟨rfl, rfl, rfl, trivial⟩ trivial) ?_
        refine AWR.region ?_
        refine AOR.pure (LT.move (v := (.s (.c (iC s1.1)))) rfl) ⟨rfl, trivial⟩ trivial rfl rfl ?_
        refine AOR.pure (LT.add rfl) ⟨rfl, ⟨rfl, rfl⟩, trivial⟩ trivial rfl rfl ?_
        refine AOR.pure (LT.assign (v := (.s (.c (iC (w64 (s1.1 + 1)))))) rfl) ⟨rfl, trivial⟩ trivial rfl rfl ?_
        refine AOR.nil ?_
        refine AWR.seq ?_
        refine AWR.seq ?_
        refine AWR.region ?_
        refine AOR.pure (LT.move (v := (.s (.c (.pv (.xs false (a.map encTPlace)))))) rfl) ⟨rfl, trivial⟩ trivial rfl rfl ?_
        refine AOR.pure (LT.move (v := (.s (.c (iC s1.2)))) rfl) ⟨rfl, trivial⟩ trivial rfl rfl ?_
        refine AOR.bind fun x16 hx16 => ?_
        refine AOR.pure (LT.tindexRO (enc := encTPlace) rfl el60 hx16 sz100) ⟨rfl, rfl, trivial⟩ trivial rfl rfl ?_
        refine AOR.pure (LT.fieldPx rfl fo100_1) ⟨rfl, trivial⟩ trivial rfl rfl ?_
        refine AOR.pure (LT.loadPx1 rfl ag3) ⟨rfl, trivial⟩ trivial rfl rfl ?_
        refine AOR.pure (LT.move (v := (.s (.c (iC (w64 (s1.1 + 1)))))) rfl) ⟨rfl, trivial⟩ trivial rfl rfl ?_
        refine AOR.pure (LT.neq rfl) ⟨rfl, rfl, trivial⟩ trivial rfl rfl ?_
        refine AOR.nil ?_
        refine AWR.cond rfl (fun hc17 => ?_) (fun hc17 => ?_)
        · refine AWR.seq ?_
          refine AWR.region ?_
          refine AOR.pure (LT.assign (v := (.s (.c (iC (-1))))) rfl) ⟨⟨rfl, rfl⟩, trivial⟩ trivial rfl rfl ?_
          refine AOR.nil ?_
          refine AWR.ret ⟨rfl, FPost.mk (.inr rfl) ⟨rfl, trivial⟩ trivial rfl ⟨PermP.sc, trivial⟩ trivial⟩
        · refine AWR.skip ?_
          refine AWR.region ?_
          refine AOR.pure (LT.move (v := (.s (.c (iC (w64 (s1.1 + 1)))))) rfl) ⟨rfl, trivial⟩ trivial rfl rfl ?_
          refine AOR.pure (LT.add rfl) ⟨rfl, ⟨rfl, rfl⟩, trivial⟩ trivial rfl rfl ?_
          refine AOR.pure (LT.assign (v := (.s (.c (iC (w64 ((w64 (s1.1 + 1)) + 1)))))) rfl) ⟨rfl, trivial⟩ trivial rfl rfl ?_
          refine AOR.nil ?_
          refine AWR.blk ?_
          refine AWR.ent (Ent.of (σ' := [(0, (.s (.c (.pv (.xs false (a.map encTPlace)))))), (1, (.s (.c (iC (w64 ((w64 (s1.1 + 1)) + 1)))))), (5, (.s (.c (iC s1.2))))]) (m' := []) ⟨rfl, rfl, rfl, trivial⟩ trivial) ?_
          refine AWR.region ?_
          refine AOR.pure (LT.move (v := (.s (.c (iC s1.2)))) rfl) ⟨rfl, trivial⟩ trivial rfl rfl ?_
          refine AOR.pure (LT.add rfl) ⟨rfl, ⟨rfl, rfl⟩, trivial⟩ trivial rfl rfl ?_
          refine AOR.pure (LT.assign (v := (.s (.c (iC (w64 (s1.2 + 1)))))) rfl) ⟨rfl, trivial⟩ trivial rfl rfl ?_
          refine AOR.nil ?_
          refine AWR.nil ⟨rfl, Ent.of ⟨rfl, rfl, rfl, trivial⟩ trivial⟩
    · refine AWR.exit_end rfl ⟨rfl, Ent.of ⟨rfl, trivial⟩ trivial⟩
  · refine AWR.seq ?_
    refine AWR.region ?_
    refine AOR.pure (LT.move (v := (.s (.c (iC b12)))) rfl) ⟨rfl, trivial⟩ trivial rfl rfl ?_
    refine AOR.pure (LT.assign (v := (.s (.c (iC b12)))) rfl) ⟨rfl, trivial⟩ trivial rfl rfl ?_
    refine AOR.nil ?_
    refine AWR.ret (FPost.mk (.inr rfl) ⟨rfl, trivial⟩ trivial rfl ⟨PermP.sc, trivial⟩ trivial)
set_option maxRecDepth 100000 in
set_option maxHeartbeats 8000000 in
theorem w_laws_heldFramework (a : TFramework) (k : Int) : ∀ t, m_laws_heldFramework a k = some t → Fw.Fn Try.prog 60 [(.agg [(iC a.Graph.Points), (.pv (.xs false (a.Graph.Bars.map encTBar))), (.pv (.xs false (a.Places.map encTPlace)))]), (.c (iC k))] [] (.s (.c (iC t))) [] [] [] := by
  refine Fw.Fn.of (P := Try.prog) (X := []) (pn := []) (rs := (fun (t : Int) => [(.c (iC t))])) (dfs := (fun (t : Int) => [])) Try.func60 rfl Try.ntmps60 (Nat.le_of_ble_eq_true rfl) rfl ?_
  intro w0 U0 R0 g0
  unfold m_laws_heldFramework
  refine AWR.seq ?_
  refine AWR.region ?_
  refine AOR.step (LT.box (n := 21) (v := (.agg [(iC a.Graph.Points), (.pv (.xs false (a.Graph.Bars.map encTBar))), (.pv (.xs false (a.Places.map encTPlace)))])) rfl sz62 (by exact rfl)) ⟨rfl, trivial⟩ trivial rfl rfl ?_
  refine AOR.pure (LT.assign (v := (.s (.c (iC 0)))) rfl) ⟨⟨rfl, rfl⟩, trivial⟩ trivial rfl rfl ?_
  refine AOR.nil ?_
  refine AWR.seq ?_
  refine AWR.region ?_
  refine AOR.pure (LT.fieldPl rfl fo62_0) ⟨rfl, trivial⟩ trivial rfl rfl ?_
  refine AOR.pure (LT.bloadN (out := [(iC a.Graph.Points), (.pv (.xs false (a.Graph.Bars.map encTBar)))]) rfl ag30 (infS inf30) sz30 (by exact rfl) (by exact rfl)) ⟨rfl, trivial⟩ ⟨rfl, trivial⟩ rfl rfl ?_
  refine AOR.pure (LT.move (v := (.s (.c (iC k)))) rfl) ⟨rfl, trivial⟩ trivial rfl rfl ?_
  refine AOR.bind fun r1 hr1 => ?_
  refine AOR.pure (@LT.callF Try.prog _ _ 23 _ _ [(.agg [(iC a.Graph.Points), (.pv (.xs false (a.Graph.Bars.map encTBar)))]), (.c (iC k))] _ _ [] _ _ _ _ (w_laws_heldGraph a.Graph k r1 hr1) rfl cb23 (.cons (.agg (.cons (.same rfl) (.cons (.same rfl) .nil))) (.cons (.c (.same rfl)) .nil)) rfl rfl trivial) ⟨rfl, rfl, rfl, trivial⟩ trivial rfl rfl ?_
  refine AOR.pure (LT.assign (v := (.s (.c (iC r1)))) rfl) ⟨rfl, trivial⟩ trivial rfl rfl ?_
  refine AOR.nil ?_
  refine AWR.seq ?_
  refine AWR.seq ?_
  refine AWR.region ?_
  refine AOR.pure (LT.move (v := (.s (.c (iC r1)))) rfl) ⟨rfl, trivial⟩ trivial rfl rfl ?_
  refine AOR.pure (LT.lss rfl) ⟨rfl, ⟨rfl, rfl⟩, trivial⟩ trivial rfl rfl ?_
  refine AOR.nil ?_
  refine AWR.cond rfl (fun hc2 => ?_) (fun hc2 => ?_)
  · refine AWR.seq ?_
    refine AWR.ent (Ent.of (σ' := []) (m' := []) trivial trivial) ?_
    refine AWR.region ?_
    refine AOR.pure (LT.assign (v := (.s (.c (iC (-1))))) rfl) ⟨⟨rfl, rfl⟩, trivial⟩ trivial rfl rfl ?_
    refine AOR.nil ?_
    refine AWR.ret (FPost.mk (.inr rfl) ⟨rfl, trivial⟩ trivial rfl ⟨PermP.sc, trivial⟩ trivial)
  · refine AWR.skip ?_
    refine AWR.seq ?_
    refine AWR.ent (Ent.of (σ' := [(1, (.s (.c (iC r1)))), (2, (.s (.c (.pl 21 0))))]) (m' := [(21, (.row 62 [[(iC a.Graph.Points), (.pv (.xs false (a.Graph.Bars.map encTBar))), (.pv (.xs false (a.Places.map encTPlace)))]]))]) ⟨rfl, rfl, trivial⟩ ⟨rfl, trivial⟩) ?_
    refine AWR.region ?_
    refine AOR.pure (LT.fieldPl rfl fo62_1) ⟨rfl, trivial⟩ trivial rfl rfl ?_
    refine AOR.pure (LT.bload1 (c := (.pv (.xs false (a.Places.map encTPlace)))) rfl ag60 (by exact rfl)) ⟨rfl, trivial⟩ ⟨rfl, trivial⟩ rfl rfl ?_
    refine AOR.pure (LT.move (v := (.s (.c (iC r1)))) rfl) ⟨rfl, trivial⟩ trivial rfl rfl ?_
    refine AOR.bind fun r3 hr3 => ?_
    refine AOR.pure (@LT.callF Try.prog _ _ 91 _ _ [(.c (.pv (.xs false (a.Places.map encTPlace)))), (.c (iC r1))] _ _ [] _ _ _ _ (w_laws_heldPlaceS a.Places r1 r3 hr3) rfl cb91 (.cons (.c (.same rfl)) (.cons (.c (.same rfl)) .nil)) rfl rfl trivial) ⟨rfl, rfl, rfl, trivial⟩ trivial rfl rfl ?_
    refine AOR.pure (LT.assign (v := (.s (.c (iC r3)))) rfl) ⟨rfl, trivial⟩ trivial rfl rfl ?_
    refine AOR.nil ?_
    refine AWR.seq ?_
    refine AWR.seq ?_
    refine AWR.region ?_
    refine AOR.pure (LT.move (v := (.s (.c (iC r3)))) rfl) ⟨rfl, trivial⟩ trivial rfl rfl ?_
    refine AOR.pure (LT.lss rfl) ⟨rfl, ⟨rfl, rfl⟩, trivial⟩ trivial rfl rfl ?_
    refine AOR.nil ?_
    refine AWR.cond rfl (fun hc4 => ?_) (fun hc4 => ?_)
    · refine AWR.seq ?_
      refine AWR.region ?_
      refine AOR.pure (LT.assign (v := (.s (.c (iC (-1))))) rfl) ⟨⟨rfl, rfl⟩, trivial⟩ trivial rfl rfl ?_
      refine AOR.nil ?_
      refine AWR.ret (FPost.mk (.inr rfl) ⟨rfl, trivial⟩ trivial rfl ⟨PermP.sc, trivial⟩ trivial)
    · refine AWR.skip ?_
      refine AWR.seq ?_
      refine AWR.region ?_
      refine AOR.pure (LT.move (v := (.s (.c (iC r3)))) rfl) ⟨rfl, trivial⟩ trivial rfl rfl ?_
      refine AOR.pure (LT.assign (v := (.s (.c (iC r3)))) rfl) ⟨rfl, trivial⟩ trivial rfl rfl ?_
      refine AOR.nil ?_
      refine AWR.ret (FPost.mk (.inr rfl) ⟨rfl, trivial⟩ trivial rfl ⟨PermP.sc, trivial⟩ trivial)
set_option maxRecDepth 100000 in
set_option maxHeartbeats 8000000 in
theorem w_laws_FnExactPlacesFor (aG : TGraph) (aSeed : Int) : ∀ t, m_laws_FnExactPlacesFor aG aSeed = some t → Fw.Fn Try.prog 13 [(.agg [(iC aG.Points), (.pv (.xs false (aG.Bars.map encTBar)))]), (.c (iC aSeed))] [] (.s (.c (bC t))) [] [] [] := by
  refine Fw.Fn.of (P := Try.prog) (X := []) (pn := []) (rs := (fun (t : Bool) => [(.c (bC t))])) (dfs := (fun (t : Bool) => [])) Try.func13 rfl Try.ntmps13 (Nat.le_of_ble_eq_true rfl) rfl ?_
  intro w0 U0 R0 g0
  unfold m_laws_FnExactPlacesFor
  refine AWR.seq ?_
  refine AWR.region ?_
  refine AOR.step (LT.box (n := 21) (v := (.agg [(iC aG.Points), (.pv (.xs false (aG.Bars.map encTBar)))])) rfl sz26 (by exact rfl)) ⟨rfl, trivial⟩ trivial rfl rfl ?_
  refine AOR.pure (LT.assign (v := (.s (.c (bC false)))) rfl) ⟨⟨rfl, rfl⟩, trivial⟩ trivial rfl rfl ?_
  refine AOR.nil ?_
  refine AWR.seq ?_
  refine AWR.region ?_
  refine AOR.pure (LT.assign (v := (.s (.c (iC 1048576)))) rfl) ⟨⟨rfl, rfl⟩, trivial⟩ trivial rfl rfl ?_
  refine AOR.nil ?_
  refine AWR.seq ?_
  refine AWR.region ?_
  refine AOR.pure (LT.bloadN (out := [(iC aG.Points), (.pv (.xs false (aG.Bars.map encTBar)))]) rfl ag26 (infS inf26) sz26 (by exact rfl) (by exact rfl)) ⟨rfl, trivial⟩ ⟨rfl, trivial⟩ rfl rfl ?_
  refine AOR.pure (LT.move (v := (.s (.c (iC 1048576)))) rfl) ⟨rfl, trivial⟩ trivial rfl rfl ?_
  refine AOR.bind fun r1 hr1 => ?_
  refine AOR.pure (@LT.callF Try.prog _ _ 17 _ _ [(.agg [(iC aG.Points), (.pv (.xs false (aG.Bars.map encTBar)))]), (.c (iC 1048576))] _ _ [] _ _ _ _ (w_laws_szGraph aG 1048576 r1 hr1) rfl cb17 (.cons (.agg (.cons (.same rfl) (.cons (.same rfl) .nil))) (.cons (.c (.same rfl)) .nil)) rfl rfl trivial) ⟨rfl, rfl, rfl, trivial⟩ trivial rfl rfl ?_
  refine AOR.pure (LT.assign (v := (.s (.c (iC r1)))) rfl) ⟨rfl, trivial⟩ trivial rfl rfl ?_
  refine AOR.nil ?_
  refine AWR.seq ?_
  refine AWR.seq ?_
  refine AWR.region ?_
  refine AOR.pure (LT.move (v := (.s (.c (iC r1)))) rfl) ⟨rfl, trivial⟩ trivial rfl rfl ?_
  refine AOR.pure (LT.lss rfl) ⟨rfl, ⟨rfl, rfl⟩, trivial⟩ trivial rfl rfl ?_
  refine AOR.nil ?_
  refine AWR.cond rfl (fun hc2 => ?_) (fun hc2 => ?_)
  · refine AWR.seq ?_
    refine AWR.ent (Ent.of (σ' := []) (m' := []) trivial trivial) ?_
    refine AWR.region ?_
    refine AOR.pure (LT.assign (v := (.s (.c (bC true)))) rfl) ⟨⟨rfl, rfl⟩, trivial⟩ trivial rfl rfl ?_
    refine AOR.nil ?_
    refine AWR.ret (FPost.mk (.inr rfl) ⟨rfl, trivial⟩ trivial rfl ⟨PermP.sc, trivial⟩ trivial)
  · refine AWR.skip ?_
    refine AWR.seq ?_
    refine AWR.ent (Ent.of (σ' := [(1, (.s (.c (iC aSeed)))), (2, (.s (.c (.pl 21 0))))]) (m' := [(21, (.row 26 [[(iC aG.Points), (.pv (.xs false (aG.Bars.map encTBar)))]]))]) ⟨rfl, rfl, trivial⟩ ⟨rfl, trivial⟩) ?_
    refine AWR.region ?_
    refine AOR.pure (LT.bloadN (out := [(iC aG.Points), (.pv (.xs false (aG.Bars.map encTBar)))]) rfl ag26 (infS inf26) sz26 (by exact rfl) (by exact rfl)) ⟨rfl, trivial⟩ ⟨rfl, trivial⟩ rfl rfl ?_
    refine AOR.bind fun r3 hr3 => ?_
    refine AOR.step (@LT.callF Try.prog _ _ 19 _ _ [(.agg [(iC aG.Points), (.pv (.xs false (aG.Bars.map encTBar)))])] _ _ [] _ _ _ _ ((show Fw.Fn Try.prog 19 [(.agg [(iC aG.Points), (.pv (.xs false (aG.Bars.map encTBar)))])] [] (.s (.agg [(iC r3.Points), (.loc 24 0 r3.Bars.length)])) [(24, (.prow 88 (r3.Bars.map encTBar)))] [] [24] from Fw.Fn.ren [(0, 24)] (w_laws_toGraph aG r3 hr3) rfl)) rfl cb19 (.cons (.agg (.cons (.same rfl) (.cons (.same rfl) .nil))) .nil) rfl rfl trivial) ⟨rfl, rfl, trivial⟩ trivial rfl rfl ?_
    refine AOR.pure (LT.move (v := (.s (.c (iC aSeed)))) rfl) ⟨rfl, trivial⟩ trivial rfl rfl ?_
    refine AOR.bind fun r4 hr4 => ?_
    refine AOR.step (@LT.callF Try.prog _ _ 58 _ _ [(.agg [(iC r3.Points), (.loc 24 0 r3.Bars.length)]), (.c (iC aSeed))] _ _ [(24, (.prow 88 (r3.Bars.map encTBar)))] _ _ _ _ ((show Fw.Fn Try.prog 58 [(.agg [(iC r3.Points), (.pv (.xs false (r3.Bars.map encTBar)))]), (.c (iC aSeed))] [] (.tup [(.agg [(iC r4.1.Graph.Points), (.loc 26 0 r4.1.Graph.Bars.length), (.loc 27 0 r4.1.Places.length)]), (.c (bC r4.2))]) [(26, (.prow 88 (r4.1.Graph.Bars.map encTBar))), (27, (.prow 100 (r4.1.Places.map encTPlace)))] [] [26, 27] from Fw.Fn.ren [(0, 26), (1, 27)] (w_spec_PlacesFor r3 aSeed r4 hr4) rfl)) rfl cb58 (.cons (.agg (.cons (.same rfl) (.cons (.tloc rfl rfl) .nil))) (.cons (.c (.same rfl)) .nil)) rfl rfl trivial) ⟨rfl, rfl, rfl, trivial⟩ ⟨rfl, trivial⟩ rfl rfl ?_
    refine AOR.pure (LT.move (v := (.tup [(.agg [(iC r4.1.Graph.Points), (.loc 26 0 r4.1.Graph.Bars.length), (.loc 27 0 r4.1.Places.length)]), (.c (bC r4.2))])) rfl) ⟨rfl, trivial⟩ trivial rfl rfl ?_
    refine AOR.pure (LT.extract (v := (.agg [(iC r4.1.Graph.Points), (.loc 26 0 r4.1.Graph.Bars.length), (.loc 27 0 r4.1.Places.length)])) rfl (by exact rfl)) ⟨rfl, trivial⟩ trivial rfl rfl ?_
    refine AOR.pure (LT.extract (v := (.c (bC r4.2))) rfl (by exact rfl)) ⟨rfl, trivial⟩ trivial rfl rfl ?_
    refine AOR.step (LT.alloc (n := 28) (cells := [(iC 0), (sC nilV), (sC nilV)]) rfl ti62 rfl rfl rfl) trivial trivial rfl rfl ?_
    refine AOR.step (LT.bstore (v := (.agg [(iC r4.1.Graph.Points), (.loc 26 0 r4.1.Graph.Bars.length), (.loc 27 0 r4.1.Places.length)])) (out := [(iC r4.1.Graph.Points), (.loc 26 0 r4.1.Graph.Bars.length), (.loc 27 0 r4.1.Places.length)]) rfl rfl (infS inf62) sz62 (by exact rfl) (by exact Nat.le_of_ble_eq_true rfl) (by exact rfl)) ⟨rfl, rfl, trivial⟩ ⟨rfl, trivial⟩ rfl rfl ?_
    refine AOR.pure (LT.assign (v := (.s (.c (bC r4.2)))) rfl) ⟨rfl, trivial⟩ trivial rfl rfl ?_
    refine AOR.nil ?_
    refine AWR.seq ?_
    refine AWR.ent (Ent.of (σ' := [(1, (.s (.c (iC aSeed)))), (2, (.s (.c (.pl 21 0)))), (6, (.s (.c (.pl 28 0)))), (7, (.s (.c (bC r4.2))))]) (m' := [(21, (.row 26 [[(iC aG.Points), (.pv (.xs false (aG.Bars.map encTBar)))]])), (26, (.prow 88 (r4.1.Graph.Bars.map encTBar))), (27, (.prow 100 (r4.1.Places.map encTPlace))), (28, (.row 62 [[(iC r4.1.Graph.Points), (.loc 26 0 r4.1.Graph.Bars.length), (.loc 27 0 r4.1.Places.length)]]))]) ⟨rfl, rfl, rfl, rfl, trivial⟩ ⟨rfl, rfl, rfl, rfl, trivial⟩) ?_
    refine AWR.region ?_
    refine AOR.pure (LT.bloadN (out := [(iC aG.Points), (.pv (.xs false (aG.Bars.map encTBar)))]) rfl ag26 (infS inf26) sz26 (by exact rfl) (by exact rfl)) ⟨rfl, trivial⟩ ⟨rfl, trivial⟩ rfl rfl ?_
    refine AOR.bind fun r5 hr5 => ?_
    refine AOR.step (@LT.callF Try.prog _ _ 19 _ _ [(.agg [(iC aG.Points), (.pv (.xs false (aG.Bars.map encTBar)))])] _ _ [] _ _ _ _ ((show Fw.Fn Try.prog 19 [(.agg [(iC aG.Points), (.pv (.xs false (aG.Bars.map encTBar)))])] [] (.s (.agg [(iC r5.Points), (.loc 30 0 r5.Bars.length)])) [(30, (.prow 88 (r5.Bars.map encTBar)))] [] [30] from Fw.Fn.ren [(0, 30)] (w_laws_toGraph aG r5 hr5) rfl)) rfl cb19 (.cons (.agg (.cons (.same rfl) (.cons (.same rfl) .nil))) .nil) rfl rfl trivial) ⟨rfl, rfl, trivial⟩ trivial rfl rfl ?_
    refine AOR.step (LT.alloc (n := 31) (cells := [(iC 0), (sC nilV)]) rfl ti30 rfl rfl rfl) trivial trivial rfl rfl ?_
    refine AOR.step (LT.bstore (v := (.agg [(iC r5.Points), (.loc 30 0 r5.Bars.length)])) (out := [(iC r5.Points), (.loc 30 0 r5.Bars.length)]) rfl rfl (infS inf30) sz30 (by exact rfl) (by exact Nat.le_of_ble_eq_true rfl) (by exact rfl)) ⟨rfl, rfl, trivial⟩ ⟨rfl, trivial⟩ rfl rfl ?_
    refine AOR.nil ?_
    refine AWR.seq ?_
    refine AWR.region ?_
    refine AOR.pure (LT.bloadN (out := [(iC r5.Points), (.loc 30 0 r5.Bars.length)]) rfl ag30 (infS inf30) sz30 (by exact rfl) (by exact rfl)) ⟨rfl, trivial⟩ ⟨rfl, trivial⟩ rfl rfl ?_
    refine AOR.pure (LT.move (v := (.s (.c (iC aSeed)))) rfl) ⟨rfl, trivial⟩ trivial rfl rfl ?_
    refine AOR.bind fun r6 hr6 => ?_
    refine AOR.step (@LT.callF Try.prog _ _ 59 _ _ [(.agg [(iC r5.Points), (.loc 30 0 r5.Bars.length)]), (.c (iC aSeed))] _ _ [(30, (.prow 88 (r5.Bars.map encTBar)))] _ _ _ _ ((show Fw.Fn Try.prog 59 [(.agg [(iC r5.Points), (.pv (.xs false (r5.Bars.map encTBar)))]), (.c (iC aSeed))] [] (.tup [(.agg [(iC r6.1.Graph.Points), (.loc 33 0 r6.1.Graph.Bars.length), (.loc 34 0 r6.1.Places.length)]), (.c (bC r6.2))]) [(33, (.prow 88 (r6.1.Graph.Bars.map encTBar))), (34, (.prow 100 (r6.1.Places.map encTPlace)))] [] [33, 34] from Fw.Fn.ren [(0, 33), (1, 34)] (w_impl_PlacesFor r5 aSeed r6 hr6) rfl)) rfl cb59 (.cons (.agg (.cons (.same rfl) (.cons (.tloc rfl rfl) .nil))) (.cons (.c (.same rfl)) .nil)) rfl rfl trivial) ⟨rfl, rfl, rfl, trivial⟩ ⟨rfl, trivial⟩ rfl rfl ?_
    refine AOR.pure (LT.move (v := (.tup [(.agg [(iC r6.1.Graph.Points), (.loc 33 0 r6.1.Graph.Bars.length), (.loc 34 0 r6.1.Places.length)]), (.c (bC r6.2))])) rfl) ⟨rfl, trivial⟩ trivial rfl rfl ?_
    refine AOR.pure (LT.extract (v := (.agg [(iC r6.1.Graph.Points), (.loc 33 0 r6.1.Graph.Bars.length), (.loc 34 0 r6.1.Places.length)])) rfl (by exact rfl)) ⟨rfl, trivial⟩ trivial rfl rfl ?_
    refine AOR.pure (LT.extract (v := (.c (bC r6.2))) rfl (by exact rfl)) ⟨rfl, trivial⟩ trivial rfl rfl ?_
    refine AOR.step (LT.alloc (n := 35) (cells := [(iC 0), (sC nilV), (sC nilV)]) rfl ti62 rfl rfl rfl) trivial trivial rfl rfl ?_
    refine AOR.step (LT.bstore (v := (.agg [(iC r6.1.Graph.Points), (.loc 33 0 r6.1.Graph.Bars.length), (.loc 34 0 r6.1.Places.length)])) (out := [(iC r6.1.Graph.Points), (.loc 33 0 r6.1.Graph.Bars.length), (.loc 34 0 r6.1.Places.length)]) rfl rfl (infS inf62) sz62 (by exact rfl) (by exact Nat.le_of_ble_eq_true rfl) (by exact rfl)) ⟨rfl, rfl, trivial⟩ ⟨rfl, trivial⟩ rfl rfl ?_
    refine AOR.pure (LT.assign (v := (.s (.c (bC r6.2)))) rfl) ⟨rfl, trivial⟩ trivial rfl rfl ?_
    refine AOR.nil ?_
    refine AWR.seq ?_
    refine AWR.seq ?_
    refine AWR.joinK (fun j9 => ([(1, (.s (.c (iC aSeed)))), (2, (.s (.c (.pl 21 0)))), (6, (.s (.c (.pl 28 0)))), (7, (.s (.c (bC r4.2)))), (8, (.s (.c (.pl 31 0)))), (9, (.s (.c (.pl 35 0)))), (10, (.s (.c (bC r6.2)))), (44, (.s (.c (bC j9))))], [(21, (.row 26 [[(iC aG.Points), (.pv (.xs false (aG.Bars.map encTBar)))]])), (26, (.prow 88 (r4.1.Graph.Bars.map encTBar))), (27, (.prow 100 (r4.1.Places.map encTPlace))), (28, (.row 62 [[(iC r4.1.Graph.Points), (.loc 26 0 r4.1.Graph.Bars.length), (.loc 27 0 r4.1.Places.length)]])), (30, (.prow 88 (r5.Bars.map encTBar))), (31, (.row 30 [[(iC r5.Points), (.loc 30 0 r5.Bars.length)]])), (33, (.prow 88 (r6.1.Graph.Bars.map encTBar))), (34, (.prow 100 (r6.1.Places.map encTPlace))), (35, (.row 62 [[(iC r6.1.Graph.Points), (.loc 33 0 r6.1.Graph.Bars.length), (.loc 34 0 r6.1.Places.length)]]))])) ?_ (fun j9 _ => ?_)
    · refine AWR.ent (Ent.of (σ' := [(1, (.s (.c (iC aSeed)))), (2, (.s (.c (.pl 21 0)))), (6, (.s (.c (.pl 28 0)))), (7, (.s (.c (bC r4.2)))), (8, (.s (.c (.pl 31 0)))), (9, (.s (.c (.pl 35 0)))), (10, (.s (.c (bC r6.2))))]) (m' := [(21, (.row 26 [[(iC aG.Points), (.pv (.xs false (aG.Bars.map encTBar)))]])), (26, (.prow 88 (r4.1.Graph.Bars.map encTBar))), (27, (.prow 100 (r4.1.Places.map encTPlace))), (28, (.row 62 [[(iC r4.1.Graph.Points), (.loc 26 0 r4.1.Graph.Bars.length), (.loc 27 0 r4.1.Places.length)]])), (30, (.prow 88 (r5.Bars.map encTBar))), (31, (.row 30 [[(iC r5.Points), (.loc 30 0 r5.Bars.length)]])), (33, (.prow 88 (r6.1.Graph.Bars.map encTBar))), (34, (.prow 100 (r6.1.Places.map encTPlace))), (35, (.row 62 [[(iC r6.1.Graph.Points), (.loc 33 0 r6.1.Graph.Bars.length), (.loc 34 0 r6.1.Places.length)]]))]) ⟨rfl, rfl, rfl, rfl, rfl, rfl, rfl, trivial⟩ ⟨rfl, rfl, rfl, rfl, rfl, rfl, rfl, rfl, rfl, trivial⟩) ?_
      refine AWR.region ?_
      refine AOR.pure (LT.bloadN (out := [(iC r6.1.Graph.Points), (.loc 33 0 r6.1.Graph.Bars.length), (.loc 34 0 r6.1.Places.length)]) rfl ag62 (infS inf62) sz62 (by exact rfl) (by exact rfl)) ⟨rfl, trivial⟩ ⟨rfl, trivial⟩ rfl rfl ?_
      refine AOR.pure (LT.bloadN (out := [(iC r4.1.Graph.Points), (.loc 26 0 r4.1.Graph.Bars.length), (.loc 27 0 r4.1.Places.length)]) rfl ag62 (infS inf62) sz62 (by exact rfl) (by exact rfl)) ⟨rfl, trivial⟩ ⟨rfl, trivial⟩ rfl rfl ?_
      refine AOR.bind fun r10 hr10 => ?_
      refine AOR.pure (@LT.callF Try.prog _ _ 43 _ _ [(.agg [(iC r6.1.Graph.Points), (.loc 33 0 r6.1.Graph.Bars.length), (.loc 34 0 r6.1.Places.length)]), (.agg [(iC r4.1.Graph.Points), (.loc 26 0 r4.1.Graph.Bars.length), (.loc 27 0 r4.1.Places.length)])] _ _ [(33, (.prow 88 (r6.1.Graph.Bars.map encTBar))), (34, (.prow 100 (r6.1.Places.map encTPlace))), (26, (.prow 88 (r4.1.Graph.Bars.map encTBar))), (27, (.prow 100 (r4.1.Places.map encTPlace)))] _ _ _ _ (w_laws_eqFramework r6.1 r4.1 r10 hr10) rfl cb43 (.cons (.agg (.cons (.same rfl) (.cons (.tloc rfl rfl) (.cons (.tloc rfl rfl) .nil)))) (.cons (.agg (.cons (.same rfl) (.cons (.tloc rfl rfl) (.cons (.tloc rfl rfl) .nil)))) .nil)) rfl rfl trivial) ⟨rfl, rfl, rfl, trivial⟩ ⟨rfl, rfl, rfl, rfl, trivial⟩ rfl rfl ?_
      refine AOR.pure (LT.not rfl) ⟨rfl, trivial⟩ trivial rfl rfl ?_
      refine AOR.pure (LT.move (v := (.s (.c (bC (!r10))))) rfl) ⟨rfl, trivial⟩ trivial rfl rfl ?_
      refine AOR.split (fun hb11 => ?_) (fun hb11 => ?_)
      · refine AOR.skip ⟨_, rfl, .inl ⟨_, rfl, (by rw [hb11]; rfl)⟩⟩ rfl ?_
        refine AOR.skip ⟨_, rfl, .inl ⟨_, rfl, (by rw [hb11]; rfl)⟩⟩ rfl ?_
        refine AOR.skip ⟨_, rfl, .inl ⟨_, rfl, (by rw [hb11]; rfl)⟩⟩ rfl ?_
        refine AOR.pure (LT.pickT (v := (.s (.c (bC true)))) rfl hb11) ⟨rfl, ⟨rfl, rfl⟩, trivial⟩ trivial rfl rfl ?_
        refine AOR.nil ?_
        refine AWR.nil ⟨rfl, Ent.of ⟨rfl, rfl, rfl, rfl, rfl, rfl, rfl, rfl, trivial⟩ ⟨rfl, rfl, rfl, rfl, rfl, rfl, rfl, rfl, rfl, trivial⟩⟩
      · refine AOR.pure (LT.move (v := (.s (.c (bC r6.2)))) rfl) ⟨rfl, trivial⟩ trivial ⟨_, rfl, .inl ⟨_, rfl, (by rw [hb11]; rfl)⟩⟩ rfl ?_
        refine AOR.pure (LT.move (v := (.s (.c (bC r4.2)))) rfl) ⟨rfl, trivial⟩ trivial ⟨_, rfl, .inl ⟨_, rfl, (by rw [hb11]; rfl)⟩⟩ rfl ?_
        refine AOR.pure (LT.neqB rfl und4) ⟨rfl, rfl, trivial⟩ trivial ⟨_, rfl, .inl ⟨_, rfl, (by rw [hb11]; rfl)⟩⟩ rfl ?_
        refine AOR.pure (LT.pickF (v := (.s (.c (bC (r6.2 != r4.2))))) rfl hb11) ⟨rfl, rfl, trivial⟩ trivial rfl rfl ?_
        refine AOR.nil ?_
        refine AWR.nil ⟨rfl, Ent.of ⟨rfl, rfl, rfl, rfl, rfl, rfl, rfl, rfl, trivial⟩ ⟨rfl, rfl, rfl, rfl, rfl, rfl, rfl, rfl, rfl, trivial⟩⟩
    · refine AWR.cond rfl (fun hc12 => ?_) (fun hc12 => ?_)
      · refine AWR.seq ?_
        refine AWR.region ?_
        refine AOR.pure (LT.assign (v := (.s (.c (bC false)))) rfl) ⟨⟨rfl, rfl⟩, trivial⟩ trivial rfl rfl ?_
        refine AOR.nil ?_
        refine AWR.ret (FPost.mk (.inr rfl) ⟨rfl, trivial⟩ trivial rfl ⟨PermP.sc, trivial⟩ trivial)
      · refine AWR.skip ?_
        refine AWR.seq ?_
        refine AWR.seq ?_
        refine AWR.draw mixed ?_
        refine AOD.pure (LT.bloadN (out := [(iC r5.Points), (.loc 30 0 r5.Bars.length)]) rfl ag30 (infS inf30) sz30 (by exact rfl) (by exact rfl)) ⟨rfl, trivial⟩ ⟨rfl, trivial⟩ rfl rfl ?_
        refine AOD.pure (LT.bloadN (out := [(iC aG.Points), (.pv (.xs false (aG.Bars.map encTBar)))]) rfl ag26 (infS inf26) sz26 (by exact rfl) (by exact rfl)) ⟨rfl, trivial⟩ ⟨rfl, trivial⟩ rfl rfl ?_
        refine AOD.bind fun r13 hr13 => ?_
        refine AOD.step (@LT.callF Try.prog _ _ 19 _ _ [(.agg [(iC aG.Points), (.pv (.xs false (aG.Bars.map encTBar)))])] _ _ [] _ _ _ _ ((show Fw.Fn Try.prog 19 [(.agg [(iC aG.Points), (.pv (.xs false (aG.Bars.map encTBar)))])] [] (.s (.agg [(iC r13.Points), (.loc 38 0 r13.Bars.length)])) [(38, (.prow 88 (r13.Bars.map encTBar)))] [] [38] from Fw.Fn.ren [(0, 38)] (w_laws_toGraph aG r13 hr13) rfl)) rfl cb19 (.cons (.agg (.cons (.same rfl) (.cons (.same rfl) .nil))) .nil) rfl rfl trivial) ⟨rfl, rfl, trivial⟩ trivial rfl rfl ?_
        refine AOD.bind fun r14 hr14 => ?_
        refine AOD.pure (@LT.callF Try.prog _ _ 21 _ _ [(.agg [(iC r5.Points), (.loc 30 0 r5.Bars.length)]), (.agg [(iC r13.Points), (.loc 38 0 r13.Bars.length)])] _ _ [(30, (.prow 88 (r5.Bars.map encTBar))), (38, (.prow 88 (r13.Bars.map encTBar)))] _ _ _ _ (w_laws_eqGraph r5 r13 r14 hr14) rfl cb21 (.cons (.agg (.cons (.same rfl) (.cons (.tloc rfl rfl) .nil))) (.cons (.agg (.cons (.same rfl) (.cons (.tloc rfl rfl) .nil))) .nil)) rfl rfl trivial) ⟨rfl, rfl, rfl, trivial⟩ ⟨rfl, rfl, trivial⟩ rfl rfl ?_
        refine AOD.pure (LT.not rfl) ⟨rfl, trivial⟩ trivial rfl rfl ?_
        refine AOD.nil (by kernel_rfl) ?_
        refine AWR.cond rfl (fun hc15 => ?_) (fun hc15 => ?_)
        · refine AWR.seq ?_
          refine AWR.region ?_
          refine AOR.pure (LT.assign (v := (.s (.c (bC false)))) rfl) ⟨⟨rfl, rfl⟩, trivial⟩ trivial rfl rfl ?_
          refine AOR.nil ?_
          refine AWR.ret (FPost.mk (.inr rfl) ⟨rfl, trivial⟩ trivial rfl ⟨PermP.sc, trivial⟩ trivial)
        · refine AWR.skip ?_
          refine AWR.seq ?_
          refine AWR.region ?_
          refine AOR.pure (LT.assign (v := (.s (.c (iC 1)))) rfl) ⟨⟨rfl, rfl⟩, trivial⟩ trivial rfl rfl ?_
          refine AOR.nil ?_
          refine AWR.seq ?_
          refine AWR.region ?_
          refine AOR.pure (LT.bloadN (out := [(iC r5.Points), (.loc 30 0 r5.Bars.length)]) rfl ag30 (infS inf30) sz30 (by exact rfl) (by exact rfl)) ⟨rfl, trivial⟩ ⟨rfl, trivial⟩ rfl rfl ?_
          refine AOR.pure (LT.move (v := (.s (.c (iC 1)))) rfl) ⟨rfl, trivial⟩ trivial rfl rfl ?_
          refine AOR.bind fun r16 hr16 => ?_
          refine AOR.step (@LT.callF Try.prog _ _ 22 _ _ [(.agg [(iC r5.Points), (.loc 30 0 r5.Bars.length)]), (.c (iC 1))] _ _ [] _ _ _ _ ((show Fw.Fn Try.prog 22 [(.agg [(iC r5.Points), (.loc 30 0 r5.Bars.length)]), (.c (iC 1))] [(30, (.prow 88 (r5.Bars.map encTBar)))] (.s (.c (iC r16.1))) [(30, (.prow 88 (r16.2.map encTBar)))] [30] [] from Fw.Fn.ren [(0, 30)] (w_laws_markGraph r5 1 r16 hr16) rfl)) rfl cb22 (.cons (.agg (.cons (.same rfl) (.cons (.same rfl) .nil))) (.cons (.c (.same rfl)) .nil)) rfl rfl ⟨rfl, trivial⟩) ⟨rfl, rfl, rfl, trivial⟩ ⟨rfl, trivial⟩ rfl rfl ?_
          refine AOR.pure (LT.assign (v := (.s (.c (iC r16.1)))) rfl) ⟨rfl, trivial⟩ trivial rfl rfl ?_
          refine AOR.nil ?_
          refine AWR.seq ?_
          refine AWR.seq ?_
          refine AWR.joinK (fun j20 => ([(1, (.s (.c (iC aSeed)))), (2, (.s (.c (.pl 21 0)))), (6, (.s (.c (.pl 28 0)))), (7, (.s (.c (bC r4.2)))), (9, (.s (.c (.pl 35 0)))), (65, (.s (.c (bC j20))))], [(21, (.row 26 [[(iC aG.Points), (.pv (.xs false (aG.Bars.map encTBar)))]])), (26, (.prow 88 (r4.1.Graph.Bars.map encTBar))), (27, (.prow 100 (r4.1.Places.map encTPlace))), (28, (.row 62 [[(iC r4.1.Graph.Points), (.loc 26 0 r4.1.Graph.Bars.length), (.loc 27 0 r4.1.Places.length)]])), (33, (.prow 88 (r6.1.Graph.Bars.map encTBar))), (34, (.prow 100 (r6.1.Places.map encTPlace))), (35, (.row 62 [[(iC r6.1.Graph.Points), (.loc 33 0 r6.1.Graph.Bars.length), (.loc 34 0 r6.1.Places.length)]]))])) ?_ (fun j20 _ => ?_)
          · refine AWR.ent (Ent.of (σ' := [(1, (.s (.c (iC aSeed)))), (2, (.s (.c (.pl 21 0)))), (6, (.s (.c (.pl 28 0)))), (7, (.s (.c (bC r4.2)))), (9, (.s (.c (.pl 35 0)))), (10, (.s (.c (bC r6.2)))), (11, (.s (.c (iC r16.1))))]) (m' := [(21, (.row 26 [[(iC aG.Points), (.pv (.xs false (aG.Bars.map encTBar)))]])), (26, (.prow 88 (r4.1.Graph.Bars.map encTBar))), (27, (.prow 100 (r4.1.Places.map encTPlace))), (28, (.row 62 [[(iC r4.1.Graph.Points), (.loc 26 0 r4.1.Graph.Bars.length), (.loc 27 0 r4.1.Places.length)]])), (33, (.prow 88 (r6.1.Graph.Bars.map encTBar))), (34, (.prow 100 (r6.1.Places.map encTPlace))), (35, (.row 62 [[(iC r6.1.Graph.Points), (.loc 33 0 r6.1.Graph.Bars.length), (.loc 34 0 r6.1.Places.length)]]))]) ⟨rfl, rfl, rfl, rfl, rfl, rfl, rfl, trivial⟩ ⟨rfl, rfl, rfl, rfl, rfl, rfl, rfl, trivial⟩) ?_
            refine AWR.region ?_
            refine AOR.pure (LT.move (v := (.s (.c (iC r16.1)))) rfl) ⟨rfl, trivial⟩ trivial rfl rfl ?_
            refine AOR.pure (LT.lss rfl) ⟨rfl, ⟨rfl, rfl⟩, trivial⟩ trivial rfl rfl ?_
            refine AOR.pure (LT.move (v := (.s (.c (bC (decide (r16.1 < 0)))))) rfl) ⟨rfl, trivial⟩ trivial rfl rfl ?_
            refine AOR.split (fun hb21 => ?_) (fun hb21 => ?_)
            · refine AOR.skip ⟨_, rfl, .inl ⟨_, rfl, (by rw [hb21]; rfl)⟩⟩ rfl ?_
              refine AOR.skip ⟨_, rfl, .inl ⟨_, rfl, (by rw [hb21]; rfl)⟩⟩ rfl ?_
              refine AOR.skip ⟨_, rfl, .inl ⟨_, rfl, (by rw [hb21]; rfl)⟩⟩ rfl ?_
              refine AOR.skip ⟨_, rfl, .inl ⟨_, rfl, (by rw [hb21]; rfl)⟩⟩ rfl ?_
              refine AOR.pure (LT.pickT (v := (.s (.c (bC true)))) rfl hb21) ⟨rfl, ⟨rfl, rfl⟩, trivial⟩ trivial rfl rfl ?_
              refine AOR.pure (LT.move (v := (.s (.c (bC true)))) rfl) ⟨rfl, trivial⟩ trivial rfl rfl ?_
              refine AOR.skip ⟨_, rfl, .inl ⟨_, rfl, rfl⟩⟩ rfl ?_
              refine AOR.skip ⟨_, rfl, .inl ⟨_, rfl, rfl⟩⟩ rfl ?_
              refine AOR.skip ⟨_, rfl, .inl ⟨_, rfl, rfl⟩⟩ rfl ?_
              refine AOR.pure (LT.pickT (v := (.s (.c (bC true)))) rfl rfl) ⟨rfl, ⟨rfl, rfl⟩, trivial⟩ trivial rfl rfl ?_
              refine AOR.nil ?_
              refine AWR.nil ⟨rfl, Ent.of ⟨rfl, rfl, rfl, rfl, rfl, rfl, trivial⟩ ⟨rfl, rfl, rfl, rfl, rfl, rfl, rfl, trivial⟩⟩
            · refine AOR.pure (LT.bloadN (out := [(iC r6.1.Graph.Points), (.loc 33 0 r6.1.Graph.Bars.length), (.loc 34 0 r6.1.Places.length)]) rfl ag62 (infS inf62) sz62 (by exact rfl) (by exact rfl)) ⟨rfl, trivial⟩ ⟨rfl, trivial⟩ ⟨_, rfl, .inl ⟨_, rfl, (by rw [hb21]; rfl)⟩⟩ rfl ?_
              refine AOR.pure (LT.bloadN (out := [(iC r4.1.Graph.Points), (.loc 26 0 r4.1.Graph.Bars.length), (.loc 27 0 r4.1.Places.length)]) rfl ag62 (infS inf62) sz62 (by exact rfl) (by exact rfl)) ⟨rfl, trivial⟩ ⟨rfl, trivial⟩ ⟨_, rfl, .inl ⟨_, rfl, (by rw [hb21]; rfl)⟩⟩ rfl ?_
              refine AOR.bind fun r22 hr22 => ?_
              refine AOR.pure (@LT.callF Try.prog _ _ 43 _ _ [(.agg [(iC r6.1.Graph.Points), (.loc 33 0 r6.1.Graph.Bars.length), (.loc 34 0 r6.1.Places.length)]), (.agg [(iC r4.1.Graph.Points), (.loc 26 0 r4.1.Graph.Bars.length), (.loc 27 0 r4.1.Places.length)])] _ _ [(33, (.prow 88 (r6.1.Graph.Bars.map encTBar))), (34, (.prow 100 (r6.1.Places.map encTPlace))), (26, (.prow 88 (r4.1.Graph.Bars.map encTBar))), (27, (.prow 100 (r4.1.Places.map encTPlace)))] _ _ _ _ (w_laws_eqFramework r6.1 r4.1 r22 hr22) rfl cb43 (.cons (.agg (.cons (.same rfl) (.cons (.tloc rfl rfl) (.cons (.tloc rfl rfl) .nil)))) (.cons (.agg (.cons (.same rfl) (.cons (.tloc rfl rfl) (.cons (.tloc rfl rfl) .nil)))) .nil)) rfl rfl trivial) ⟨rfl, rfl, rfl, trivial⟩ ⟨rfl, rfl, rfl, rfl, trivial⟩ ⟨_, rfl, .inl ⟨_, rfl, (by rw [hb21]; rfl)⟩⟩ rfl ?_
              refine AOR.pure (LT.not rfl) ⟨rfl, trivial⟩ trivial ⟨_, rfl, .inl ⟨_, rfl, (by rw [hb21]; rfl)⟩⟩ rfl ?_
              refine AOR.pure (LT.pickF (v := (.s (.c (bC (!r22))))) rfl hb21) ⟨rfl, rfl, trivial⟩ trivial rfl rfl ?_
              refine AOR.pure (LT.move (v := (.s (.c (bC (!r22))))) rfl) ⟨rfl, trivial⟩ trivial rfl rfl ?_
              refine AOR.split (fun hb23 => ?_) (fun hb23 => ?_)
              · refine AOR.skip ⟨_, rfl, .inl ⟨_, rfl, (by rw [hb23]; rfl)⟩⟩ rfl ?_
                refine AOR.skip ⟨_, rfl, .inl ⟨_, rfl, (by rw [hb23]; rfl)⟩⟩ rfl ?_
                refine AOR.skip ⟨_, rfl, .inl ⟨_, rfl, (by rw [hb23]; rfl)⟩⟩ rfl ?_
                refine AOR.pure (LT.pickT (v := (.s (.c (bC true)))) rfl hb23) ⟨rfl, ⟨rfl, rfl⟩, trivial⟩ trivial rfl rfl ?_
                refine AOR.nil ?_
                refine AWR.nil ⟨rfl, Ent.of ⟨rfl, rfl, rfl, rfl, rfl, rfl, trivial⟩ ⟨rfl, rfl, rfl, rfl, rfl, rfl, rfl, trivial⟩⟩
              · refine AOR.pure (LT.move (v := (.s (.c (bC r6.2)))) rfl) ⟨rfl, trivial⟩ trivial ⟨_, rfl, .inl ⟨_, rfl, (by rw [hb23]; rfl)⟩⟩ rfl ?_
                refine AOR.pure (LT.move (v := (.s (.c (bC r4.2)))) rfl) ⟨rfl, trivial⟩ trivial ⟨_, rfl, .inl ⟨_, rfl, (by rw [hb23]; rfl)⟩⟩ rfl ?_
                refine AOR.pure (LT.neqB rfl und4) ⟨rfl, rfl, trivial⟩ trivial ⟨_, rfl, .inl ⟨_, rfl, (by rw [hb23]; rfl)⟩⟩ rfl ?_
                refine AOR.pure (LT.pickF (v := (.s (.c (bC (r6.2 != r4.2))))) rfl hb23) ⟨rfl, rfl, trivial⟩ trivial rfl rfl ?_
                refine AOR.nil ?_
                refine AWR.nil ⟨rfl, Ent.of ⟨rfl, rfl, rfl, rfl, rfl, rfl, trivial⟩ ⟨rfl, rfl, rfl, rfl, rfl, rfl, rfl, trivial⟩⟩
          · refine AWR.cond rfl (fun hc24 => ?_) (fun hc24 => ?_)
            · refine AWR.seq ?_
              refine AWR.region ?_
              refine AOR.pure (LT.assign (v := (.s (.c (bC false)))) rfl) ⟨⟨rfl, rfl⟩, trivial⟩ trivial rfl rfl ?_
              refine AOR.nil ?_
              refine AWR.ret (FPost.mk (.inr rfl) ⟨rfl, trivial⟩ trivial rfl ⟨PermP.sc, trivial⟩ trivial)
            · refine AWR.skip ?_
              refine AWR.seq ?_
              refine AWR.region ?_
              refine AOR.pure (LT.assign (v := (.s (.c (iC 1)))) rfl) ⟨⟨rfl, rfl⟩, trivial⟩ trivial rfl rfl ?_
              refine AOR.nil ?_
              refine AWR.seq ?_
              refine AWR.region ?_
              refine AOR.pure (LT.bloadN (out := [(iC r6.1.Graph.Points), (.loc 33 0 r6.1.Graph.Bars.length), (.loc 34 0 r6.1.Places.length)]) rfl ag62 (infS inf62) sz62 (by exact rfl) (by exact rfl)) ⟨rfl, trivial⟩ ⟨rfl, trivial⟩ rfl rfl ?_
              refine AOR.pure (LT.move (v := (.s (.c (iC 1)))) rfl) ⟨rfl, trivial⟩ trivial rfl rfl ?_
              refine AOR.bind fun r25 hr25 => ?_
              refine AOR.step (@LT.callF Try.prog _ _ 57 _ _ [(.agg [(iC r6.1.Graph.Points), (.loc 33 0 r6.1.Graph.Bars.length), (.loc 34 0 r6.1.Places.length)]), (.c (iC 1))] _ _ [] _ _ _ _ ((show Fw.Fn Try.prog 57 [(.agg [(iC r6.1.Graph.Points), (.loc 33 0 r6.1.Graph.Bars.length), (.loc 34 0 r6.1.Places.length)]), (.c (iC 1))] [(33, (.prow 88 (r6.1.Graph.Bars.map encTBar))), (34, (.prow 100 (r6.1.Places.map encTPlace)))] (.s (.c (iC r25.1))) [(33, (.prow 88 (r25.2.1.map encTBar))), (34, (.prow 100 (r25.2.2.map encTPlace)))] [33, 34] [] from Fw.Fn.ren [(0, 33), (1, 34)] (w_laws_markFramework r6.1 1 r25 hr25) rfl)) rfl cb57 (.cons (.agg (.cons (.same rfl) (.cons (.same rfl) (.cons (.same rfl) .nil)))) (.cons (.c (.same rfl)) .nil)) rfl rfl ⟨rfl, rfl, trivial⟩) ⟨rfl, rfl, rfl, trivial⟩ ⟨rfl, rfl, trivial⟩ rfl rfl ?_
              refine AOR.pure (LT.assign (v := (.s (.c (iC r25.1)))) rfl) ⟨rfl, trivial⟩ trivial rfl rfl ?_
              refine AOR.nil ?_
              refine AWR.seq ?_
              refine AWR.region ?_
              refine AOR.pure (LT.assign (v := (.s (.c (iC 1)))) rfl) ⟨⟨rfl, rfl⟩, trivial⟩ trivial rfl rfl ?_
              refine AOR.nil ?_
              refine AWR.seq ?_
              refine AWR.region ?_
              refine AOR.pure (LT.bloadN (out := [(iC r6.1.Graph.Points), (.loc 33 0 r6.1.Graph.Bars.length), (.loc 34 0 r6.1.Places.length)]) rfl ag62 (infS inf62) sz62 (by exact rfl) (by exact rfl)) ⟨rfl, trivial⟩ ⟨rfl, trivial⟩ rfl rfl ?_
              refine AOR.pure (LT.move (v := (.s (.c (iC 1)))) rfl) ⟨rfl, trivial⟩ trivial rfl rfl ?_
              refine AOR.bind fun u26 hu26 => ?_
              refine AOR.bind fun u27 hu27 => ?_
              refine AOR.bind fun r28 hr28 => ?_
              refine AOR.pure (@LT.callF Try.prog _ _ 60 _ _ [(.agg [(iC r6.1.Graph.Points), (.loc 33 0 r6.1.Graph.Bars.length), (.loc 34 0 r6.1.Places.length)]), (.c (iC 1))] _ _ [(33, (.prow 88 (r25.2.1.map encTBar))), (34, (.prow 100 (r25.2.2.map encTPlace)))] _ _ _ _ (w_laws_heldFramework (TFramework.mk (TGraph.mk r6.1.Graph.Points r25.2.1) r25.2.2) 1 r28 hr28) rfl cb60 (.cons (.agg (.cons (.same rfl) (.cons (.tloc (same_eq hu26) rfl) (.cons (.tloc (same_eq hu27) rfl) .nil)))) (.cons (.c (.same rfl)) .nil)) rfl rfl trivial) ⟨rfl, rfl, rfl, trivial⟩ ⟨rfl, rfl, trivial⟩ rfl rfl ?_
              refine AOR.pure (LT.assign (v := (.s (.c (iC r28)))) rfl) ⟨rfl, trivial⟩ trivial rfl rfl ?_
              refine AOR.nil ?_
              refine AWR.seq ?_
              refine AWR.seq ?_
              refine AWR.ent (Ent.of (σ' := [(1, (.s (.c (iC aSeed)))), (2, (.s (.c (.pl 21 0)))), (6, (.s (.c (.pl 28 0)))), (7, (.s (.c (bC r4.2)))), (9, (.s (.c (.pl 35 0)))), (12, (.s (.c (iC r25.1)))), (13, (.s (.c (iC r28))))]) (m' := [(21, (.row 26 [[(iC aG.Points), (.pv (.xs false (aG.Bars.map encTBar)))]])), (26, (.prow 88 (r4.1.Graph.Bars.map encTBar))), (27, (.prow 100 (r4.1.Places.map encTPlace))), (28, (.row 62 [[(iC r4.1.Graph.Points), (.loc 26 0 r4.1.Graph.Bars.length), (.loc 27 0 r4.1.Places.length)]])), (33, (.prow 88 (r25.2.1.map encTBar))), (34, (.prow 100 (r25.2.2.map encTPlace))), (35, (.row 62 [[(iC r6.1.Graph.Points), (.loc 33 0 r6.1.Graph.Bars.length), (.loc 34 0 r6.1.Places.length)]]))]) ⟨rfl, rfl, rfl, rfl, rfl, rfl, rfl, trivial⟩ ⟨rfl, rfl, rfl, rfl, rfl, rfl, rfl, trivial⟩) ?_
              refine AWR.region ?_
              refine AOR.pure (LT.move (v := (.s (.c (iC r28)))) rfl) ⟨rfl, trivial⟩ trivial rfl rfl ?_
              refine AOR.pure (LT.lss rfl) ⟨rfl, ⟨rfl, rfl⟩, trivial⟩ trivial rfl rfl ?_
              refine AOR.nil ?_
              refine AWR.cond rfl (fun hc29 => ?_) (fun hc29 => ?_)
              · refine AWR.seq ?_
                refine AWR.region ?_
                refine AOR.pure (LT.assign (v := (.s (.c (bC false)))) rfl) ⟨⟨rfl, rfl⟩, trivial⟩ trivial rfl rfl ?_
                refine AOR.nil ?_
                refine AWR.ret (FPost.mk (.inr rfl) ⟨rfl, trivial⟩ trivial rfl ⟨PermP.sc, trivial⟩ trivial)
              · refine AWR.skip ?_
                refine AWR.seq ?_
                refine AWR.seq ?_
                refine AWR.region ?_
                refine AOR.pure (LT.move (v := (.s (.c (iC r28)))) rfl) ⟨rfl, trivial⟩ trivial rfl rfl ?_
                refine AOR.pure (LT.move (v := (.s (.c (iC r25.1)))) rfl) ⟨rfl, trivial⟩ trivial rfl rfl ?_
                refine AOR.pure (LT.neq rfl) ⟨rfl, rfl, trivial⟩ trivial rfl rfl ?_
                refine AOR.nil ?_
                refine AWR.cond rfl (fun hc30 => ?_) (fun hc30 => ?_)
                · refine AWR.seq ?_
                  refine AWR.region ?_
                  refine AOR.pure (LT.assign (v := (.s (.c (bC false)))) rfl) ⟨⟨rfl, rfl⟩, trivial⟩ trivial rfl rfl ?_
                  refine AOR.nil ?_
                  refine AWR.ret (FPost.mk (.inr rfl) ⟨rfl, trivial⟩ trivial rfl ⟨PermP.sc, trivial⟩ trivial)
                · refine AWR.skip ?_
                  refine AWR.seq ?_
                  refine AWR.region ?_
                  refine AOR.pure (LT.bloadN (out := [(iC aG.Points), (.pv (.xs false (aG.Bars.map encTBar)))]) rfl ag26 (infS inf26) sz26 (by exact rfl) (by exact rfl)) ⟨rfl, trivial⟩ ⟨rfl, trivial⟩ rfl rfl ?_
                  refine AOR.bind fun r31 hr31 => ?_
                  refine AOR.step (@LT.callF Try.prog _ _ 19 _ _ [(.agg [(iC aG.Points), (.pv (.xs false (aG.Bars.map encTBar)))])] _ _ [] _ _ _ _ ((show Fw.Fn Try.prog 19 [(.agg [(iC aG.Points), (.pv (.xs false (aG.Bars.map encTBar)))])] [] (.s (.agg [(iC r31.Points), (.loc 45 0 r31.Bars.length)])) [(45, (.prow 88 (r31.Bars.map encTBar)))] [] [45] from Fw.Fn.ren [(0, 45)] (w_laws_toGraph aG r31 hr31) rfl)) rfl cb19 (.cons (.agg (.cons (.same rfl) (.cons (.same rfl) .nil))) .nil) rfl rfl trivial) ⟨rfl, rfl, trivial⟩ trivial rfl rfl ?_
                  refine AOR.pure (LT.move (v := (.s (.c (iC aSeed)))) rfl) ⟨rfl, trivial⟩ trivial rfl rfl ?_
                  refine AOR.bind fun r32 hr32 => ?_
                  refine AOR.step (@LT.callF Try.prog _ _ 59 _ _ [(.agg [(iC r31.Points), (.loc 45 0 r31.Bars.length)]), (.c (iC aSeed))] _ _ [(45, (.prow 88 (r31.Bars.map encTBar)))] _ _ _ _ ((show Fw.Fn Try.prog 59 [(.agg [(iC r31.Points), (.pv (.xs false (r31.Bars.map encTBar)))]), (.c (iC aSeed))] [] (.tup [(.agg [(iC r32.1.Graph.Points), (.loc 47 0 r32.1.Graph.Bars.length), (.loc 48 0 r32.1.Places.length)]), (.c (bC r32.2))]) [(47, (.prow 88 (r32.1.Graph.Bars.map encTBar))), (48, (.prow 100 (r32.1.Places.map encTPlace)))] [] [47, 48] from Fw.Fn.ren [(0, 47), (1, 48)] (w_impl_PlacesFor r31 aSeed r32 hr32) rfl)) rfl cb59 (.cons (.agg (.cons (.same rfl) (.cons (.tloc rfl rfl) .nil))) (.cons (.c (.same rfl)) .nil)) rfl rfl trivial) ⟨rfl, rfl, rfl, trivial⟩ ⟨rfl, trivial⟩ rfl rfl ?_
                  refine AOR.pure (LT.move (v := (.tup [(.agg [(iC r32.1.Graph.Points), (.loc 47 0 r32.1.Graph.Bars.length), (.loc 48 0 r32.1.Places.length)]), (.c (bC r32.2))])) rfl) ⟨rfl, trivial⟩ trivial rfl rfl ?_
                  refine AOR.pure (LT.extract (v := (.agg [(iC r32.1.Graph.Points), (.loc 47 0 r32.1.Graph.Bars.length), (.loc 48 0 r32.1.Places.length)])) rfl (by exact rfl)) ⟨rfl, trivial⟩ trivial rfl rfl ?_
                  refine AOR.pure (LT.extract (v := (.c (bC r32.2))) rfl (by exact rfl)) ⟨rfl, trivial⟩ trivial rfl rfl ?_
                  refine AOR.step (LT.alloc (n := 49) (cells := [(iC 0), (sC nilV), (sC nilV)]) rfl ti62 rfl rfl rfl) trivial trivial rfl rfl ?_
                  refine AOR.step (LT.bstore (v := (.agg [(iC r32.1.Graph.Points), (.loc 47 0 r32.1.Graph.Bars.length), (.loc 48 0 r32.1.Places.length)])) (out := [(iC r32.1.Graph.Points), (.loc 47 0 r32.1.Graph.Bars.length), (.loc 48 0 r32.1.Places.length)]) rfl rfl (infS inf62) sz62 (by exact rfl) (by exact Nat.le_of_ble_eq_true rfl) (by exact rfl)) ⟨rfl, rfl, trivial⟩ ⟨rfl, trivial⟩ rfl rfl ?_
                  refine AOR.pure (LT.assign (v := (.s (.c (bC r32.2)))) rfl) ⟨rfl, trivial⟩ trivial rfl rfl ?_
                  refine AOR.nil ?_
                  refine AWR.seq ?_
                  refine AWR.seq ?_
                  refine AWR.joinK (fun j35 => ([(9, (.s (.c (.pl 35 0)))), (12, (.s (.c (iC r25.1)))), (92, (.s (.c (bC j35))))], [(33, (.prow 88 (r25.2.1.map encTBar))), (34, (.prow 100 (r25.2.2.map encTPlace))), (35, (.row 62 [[(iC r6.1.Graph.Points), (.loc 33 0 r25.2.1.length), (.loc 34 0 r25.2.2.length)]]))])) ?_ (fun j35 _ => ?_)
                  · refine AWR.ent (Ent.of (σ' := [(6, (.s (.c (.pl 28 0)))), (7, (.s (.c (bC r4.2)))), (9, (.s (.c (.pl 35 0)))), (12, (.s (.c (iC r25.1)))), (14, (.s (.c (.pl 49 0)))), (15, (.s (.c (bC r32.2))))]) (m' := [(26, (.prow 88 (r4.1.Graph.Bars.map encTBar))), (27, (.prow 100 (r4.1.Places.map encTPlace))), (28, (.row 62 [[(iC r4.1.Graph.Points), (.loc 26 0 r4.1.Graph.Bars.length), (.loc 27 0 r4.1.Places.length)]])), (33, (.prow 88 (r25.2.1.map encTBar))), (34, (.prow 100 (r25.2.2.map encTPlace))), (35, (.row 62 [[(iC r6.1.Graph.Points), (.loc 33 0 r6.1.Graph.Bars.length), (.loc 34 0 r6.1.Places.length)]])), (47, (.prow 88 (r32.1.Graph.Bars.map encTBar))), (48, (.prow 100 (r32.1.Places.map encTPlace))), (49, (.row 62 [[(iC r32.1.Graph.Points), (.loc 47 0 r32.1.Graph.Bars.length), (.loc 48 0 r32.1.Places.length)]]))]) ⟨rfl, rfl, rfl, rfl, rfl, rfl, trivial⟩ ⟨rfl, rfl, rfl, rfl, rfl, rfl, rfl, rfl, rfl, trivial⟩) ?_
                    refine AWR.region ?_
                    refine AOR.pure (LT.bloadN (out := [(iC r32.1.Graph.Points), (.loc 47 0 r32.1.Graph.Bars.length), (.loc 48 0 r32.1.Places.length)]) rfl ag62 (infS inf62) sz62 (by exact rfl) (by exact rfl)) ⟨rfl, trivial⟩ ⟨rfl, trivial⟩ rfl rfl ?_
                    refine AOR.pure (LT.bloadN (out := [(iC r4.1.Graph.Points), (.loc 26 0 r4.1.Graph.Bars.length), (.loc 27 0 r4.1.Places.length)]) rfl ag62 (infS inf62) sz62 (by exact rfl) (by exact rfl)) ⟨rfl, trivial⟩ ⟨rfl, trivial⟩ rfl rfl ?_
                    refine AOR.bind fun r36 hr36 => ?_
                    refine AOR.pure (@LT.callF Try.prog _ _ 43 _ _ [(.agg [(iC r32.1.Graph.Points), (.loc 47 0 r32.1.Graph.Bars.length), (.loc 48 0 r32.1.Places.length)]), (.agg [(iC r4.1.Graph.Points), (.loc 26 0 r4.1.Graph.Bars.length), (.loc 27 0 r4.1.Places.length)])] _ _ [(47, (.prow 88 (r32.1.Graph.Bars.map encTBar))), (48, (.prow 100 (r32.1.Places.map encTPlace))), (26, (.prow 88 (r4.1.Graph.Bars.map encTBar))), (27, (.prow 100 (r4.1.Places.map encTPlace)))] _ _ _ _ (w_laws_eqFramework r32.1 r4.1 r36 hr36) rfl cb43 (.cons (.agg (.cons (.same rfl) (.cons (.tloc rfl rfl) (.cons (.tloc rfl rfl) .nil)))) (.cons (.agg (.cons (.same rfl) (.cons (.tloc rfl rfl) (.cons (.tloc rfl rfl) .nil)))) .nil)) rfl rfl trivial) ⟨rfl, rfl, rfl, trivial⟩ ⟨rfl, rfl, rfl, rfl, trivial⟩ rfl rfl ?_
                    refine AOR.pure (LT.not rfl) ⟨rfl, trivial⟩ trivial rfl rfl ?_
                    refine AOR.pure (LT.move (v := (.s (.c (bC (!r36))))) rfl) ⟨rfl, trivial⟩ trivial rfl rfl ?_
                    refine AOR.split (fun hb37 => ?_) (fun hb37 => ?_)
                    · refine AOR.skip ⟨_, rfl, .inl ⟨_, rfl, (by rw [hb37]; rfl)⟩⟩ rfl ?_
                      refine AOR.skip ⟨_, rfl, .inl ⟨_, rfl, (by rw [hb37]; rfl)⟩⟩ rfl ?_
                      refine AOR.skip ⟨_, rfl, .inl ⟨_, rfl, (by rw [hb37]; rfl)⟩⟩ rfl ?_
                      refine AOR.pure (LT.pickT (v := (.s (.c (bC true)))) rfl hb37) ⟨rfl, ⟨rfl, rfl⟩, trivial⟩ trivial rfl rfl ?_
                      refine AOR.nil ?_
                      refine AWR.bind fun u38 hu38 => ?_
                      refine AWR.bind fun u39 hu39 => ?_
                      refine AWR.nil ⟨rfl, Ent.of ⟨rfl, rfl, rfl, trivial⟩ ⟨rfl, rfl, (congr (congrArg (fun l1 l2 => (some (Ob.row 62 [[(iC r6.1.Graph.Points), (.loc 33 0 l1), (.loc 34 0 l2)]]) : Option Ob)) (same_eq hu38)) (same_eq hu39)), trivial⟩⟩
                    · refine AOR.pure (LT.move (v := (.s (.c (bC r32.2)))) rfl) ⟨rfl, trivial⟩ trivial ⟨_, rfl, .inl ⟨_, rfl, (by rw [hb37]; rfl)⟩⟩ rfl ?_
                      refine AOR.pure (LT.move (v := (.s (.c (bC r4.2)))) rfl) ⟨rfl, trivial⟩ trivial ⟨_, rfl, .inl ⟨_, rfl, (by rw [hb37]; rfl)⟩⟩ rfl ?_
                      refine AOR.pure (LT.neqB rfl und4) ⟨rfl, rfl, trivial⟩ trivial ⟨_, rfl, .inl ⟨_, rfl, (by rw [hb37]; rfl)⟩⟩ rfl ?_
                      refine AOR.pure (LT.pickF (v := (.s (.c (bC (r32.2 != r4.2))))) rfl hb37) ⟨rfl, rfl, trivial⟩ trivial rfl rfl ?_
                      refine AOR.nil ?_
                      refine AWR.bind fun u40 hu40 => ?_
                      refine AWR.bind fun u41 hu41 => ?_
                      refine AWR.nil ⟨rfl, Ent.of ⟨rfl, rfl, rfl, trivial⟩ ⟨rfl, rfl, (congr (congrArg (fun l1 l2 => (some (Ob.row 62 [[(iC r6.1.Graph.Points), (.loc 33 0 l1), (.loc 34 0 l2)]]) : Option Ob)) (same_eq hu40)) (same_eq hu41)), trivial⟩⟩
                  · refine AWR.cond rfl (fun hc42 => ?_) (fun hc42 => ?_)
                    · refine AWR.seq ?_
                      refine AWR.region ?_
                      refine AOR.pure (LT.assign (v := (.s (.c (bC false)))) rfl) ⟨⟨rfl, rfl⟩, trivial⟩ trivial rfl rfl ?_
                      refine AOR.nil ?_
                      refine AWR.ret (FPost.mk (.inr rfl) ⟨rfl, trivial⟩ trivial rfl ⟨PermP.sc, trivial⟩ trivial)
                    · refine AWR.skip ?_
                      refine AWR.seq ?_
                      refine AWR.region ?_
                      refine AOR.pure (LT.assign (v := (.s (.c (iC 1)))) rfl) ⟨⟨rfl, rfl⟩, trivial⟩ trivial rfl rfl ?_
                      refine AOR.nil ?_
                      refine AWR.seq ?_
                      refine AWR.region ?_
                      refine AOR.pure (LT.bloadN (out := [(iC r6.1.Graph.Points), (.loc 33 0 r25.2.1.length), (.loc 34 0 r25.2.2.length)]) rfl ag62 (infS inf62) sz62 (by exact rfl) (by exact rfl)) ⟨rfl, trivial⟩ ⟨rfl, trivial⟩ rfl rfl ?_
                      refine AOR.pure (LT.move (v := (.s (.c (iC 1)))) rfl) ⟨rfl, trivial⟩ trivial rfl rfl ?_
                      refine AOR.bind fun r43 hr43 => ?_
                      refine AOR.pure (@LT.callF Try.prog _ _ 60 _ _ [(.agg [(iC r6.1.Graph.Points), (.loc 33 0 r25.2.1.length), (.loc 34 0 r25.2.2.length)]), (.c (iC 1))] _ _ [(33, (.prow 88 (r25.2.1.map encTBar))), (34, (.prow 100 (r25.2.2.map encTPlace)))] _ _ _ _ (w_laws_heldFramework (TFramework.mk (TGraph.mk r6.1.Graph.Points r25.2.1) r25.2.2) 1 r43 hr43) rfl cb60 (.cons (.agg (.cons (.same rfl) (.cons (.tloc rfl rfl) (.cons (.tloc rfl rfl) .nil)))) (.cons (.c (.same rfl)) .nil)) rfl rfl trivial) ⟨rfl, rfl, rfl, trivial⟩ ⟨rfl, rfl, trivial⟩ rfl rfl ?_
                      refine AOR.pure (LT.assign (v := (.s (.c (iC r43)))) rfl) ⟨rfl, trivial⟩ trivial rfl rfl ?_
                      refine AOR.nil ?_
                      refine AWR.seq ?_
                      refine AWR.seq ?_
                      refine AWR.region ?_
                      refine AOR.pure (LT.move (v := (.s (.c (iC r43)))) rfl) ⟨rfl, trivial⟩ trivial rfl rfl ?_
                      refine AOR.pure (LT.lss rfl) ⟨rfl, ⟨rfl, rfl⟩, trivial⟩ trivial rfl rfl ?_
                      refine AOR.nil ?_
                      refine AWR.cond rfl (fun hc44 => ?_) (fun hc44 => ?_)
                      · refine AWR.seq ?_
                        refine AWR.region ?_
                        refine AOR.pure (LT.assign (v := (.s (.c (bC false)))) rfl) ⟨⟨rfl, rfl⟩, trivial⟩ trivial rfl rfl ?_
                        refine AOR.nil ?_
                        refine AWR.ret (FPost.mk (.inr rfl) ⟨rfl, trivial⟩ trivial rfl ⟨PermP.sc, trivial⟩ trivial)
                      · refine AWR.skip ?_
                        refine AWR.seq ?_
                        refine AWR.seq ?_
                        refine AWR.region ?_
                        refine AOR.pure (LT.move (v := (.s (.c (iC r43)))) rfl) ⟨rfl, trivial⟩ trivial rfl rfl ?_
                        refine AOR.pure (LT.move (v := (.s (.c (iC r25.1)))) rfl) ⟨rfl, trivial⟩ trivial rfl rfl ?_
                        refine AOR.pure (LT.neq rfl) ⟨rfl, rfl, trivial⟩ trivial rfl rfl ?_
                        refine AOR.nil ?_
                        refine AWR.cond rfl (fun hc45 => ?_) (fun hc45 => ?_)
                        · refine AWR.seq ?_
                          refine AWR.region ?_
                          refine AOR.pure (LT.assign (v := (.s (.c (bC false)))) rfl) ⟨⟨rfl, rfl⟩, trivial⟩ trivial rfl rfl ?_
                          refine AOR.nil ?_
                          refine AWR.ret (FPost.mk (.inr rfl) ⟨rfl, trivial⟩ trivial rfl ⟨PermP.sc, trivial⟩ trivial)
                        · refine AWR.skip ?_
                          refine AWR.seq ?_
                          refine AWR.region ?_
                          refine AOR.pure (LT.assign (v := (.s (.c (bC true)))) rfl) ⟨⟨rfl, rfl⟩, trivial⟩ trivial rfl rfl ?_
                          refine AOR.nil ?_
                          refine AWR.ret (FPost.mk (.inr rfl) ⟨rfl, trivial⟩ trivial rfl ⟨PermP.sc, trivial⟩ trivial)
end Go.Proofs.Ytihibpkbhjpajaa
