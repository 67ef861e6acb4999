/- The code computes the models. Written by a program of mine. -/
import Derived.Test.YtoedmjkipecloaaGenF0
import Derived.Test.YtoedmjkipecloaaGenF10
import Derived.Test.YtoedmjkipecloaaGenF27
set_option linter.unusedVariables false
set_option linter.unusedSimpArgs false
set_option linter.unnecessarySimpa false
open Go Go.Fw
namespace Go.Proofs.Ytoedmjkipecloaa
set_option maxRecDepth 100000 in
set_option maxHeartbeats 8000000 in
theorem w_spec_HingeGraph (g : TGraph) : ∀ t, m_spec_HingeGraph g = some t → Fw.Fn Try.prog 78 [(.agg [(iC g.Points), (.pv (.xs false (g.Bars.map encTBar)))])] [] (resA [(.agg [(iC t.1.Points), (.loc 0 0 t.1.Bars.length)]), (.c (bC t.2))]) [(0, (.prow 69 (t.1.Bars.map encTBar)))] [] [0] := by
  refine Fw.Fn.of (P := Try.prog) (X := [0]) (pn := []) (rs := (fun (t : (TGraph × Bool)) => [(.agg [(iC t.1.Points), (.loc 0 0 t.1.Bars.length)]), (.c (bC t.2))])) (dfs := (fun (t : (TGraph × Bool)) => [(0, (.prow 69 (t.1.Bars.map encTBar)))])) Try.func78 rfl Try.ntmps78 (Nat.le_of_ble_eq_true rfl) rfl ?_
  intro w0 U0 R0 g0
  unfold m_spec_HingeGraph
  refine AWR.seq ?_
  refine AWR.region ?_
  refine AOR.step (LT.box (n := 21) (v := (.agg [(iC g.Points), (.pv (.xs false (g.Bars.map encTBar)))])) rfl sz34 (by exact rfl)) ⟨rfl, trivial⟩ trivial rfl rfl ?_
  refine AOR.step (LT.alloc (n := 22) (cells := [(iC 0), (sC nilV)]) rfl ti34 rfl rfl rfl) trivial trivial rfl rfl ?_
  refine AOR.pure (LT.assign (v := (.s (.c (bC false)))) rfl) ⟨⟨rfl, rfl⟩, trivial⟩ trivial rfl rfl ?_
  refine AOR.nil ?_
  refine AWR.seq ?_
  refine AWR.region ?_
  refine AOR.pure (LT.fieldPl rfl fo34_0) ⟨rfl, trivial⟩ trivial rfl rfl ?_
  refine AOR.pure (LT.bload1 (c := (iC g.Points)) rfl ag3 (by exact rfl)) ⟨rfl, trivial⟩ ⟨rfl, trivial⟩ rfl rfl ?_
  refine AOR.step (LT.tbuildSlice (n := 23) (enc := encTBar) [] ([] : List TBar) rfl rfl und32 ti69 rfl rfl rfl rfl (by decide) (fun _ => rfl) rfl) trivial trivial rfl rfl ?_
  refine AOR.pure (LT.build [(0, .tmp 7, (.c (iC g.Points))), (1, .tmp 8, (.c (.loc 23 0 ([] : List TBar).length)))] rfl rfl pl34 ti34 rfl rfl rfl) ⟨rfl, rfl, trivial⟩ trivial rfl rfl ?_
  refine AOR.step (LT.alloc (n := 24) (cells := [(iC 0), (sC nilV)]) rfl ti34 rfl rfl rfl) trivial trivial rfl rfl ?_
  refine AOR.step (LT.bstore (v := (.agg [(iC g.Points), (.loc 23 0 ([] : List TBar).length)])) (out := [(iC g.Points), (.loc 23 0 ([] : List TBar).length)]) rfl rfl (infS inf34) sz34 (by exact rfl) (by exact Nat.le_of_ble_eq_true rfl) (by exact rfl)) ⟨rfl, rfl, trivial⟩ ⟨rfl, trivial⟩ rfl rfl ?_
  refine AOR.nil ?_
  refine AWR.seq ?_
  refine AWR.seq ?_
  refine AWR.joinK (fun j3 => ([(1, (.s (.c (.pl 21 0)))), (2, (.s (.c (.pl 22 0)))), (4, (.s (.c (.pl 24 0)))), (19, (.s (.c (bC j3))))], [(21, (.row 34 [[(iC g.Points), (.pv (.xs false (g.Bars.map encTBar)))]])), (22, (.row 34 [[(iC 0), (sC nilV)]])), (23, (.prow 69 (([] : List TBar).map encTBar))), (24, (.row 34 [[(iC g.Points), (.loc 23 0 ([] : List TBar).length)]]))])) ?_ (fun j3 _ => ?_)
  · refine AWR.ent (Ent.of (σ' := [(1, (.s (.c (.pl 21 0)))), (2, (.s (.c (.pl 22 0)))), (4, (.s (.c (.pl 24 0))))]) (m' := [(21, (.row 34 [[(iC g.Points), (.pv (.xs false (g.Bars.map encTBar)))]])), (22, (.row 34 [[(iC 0), (sC nilV)]])), (23, (.prow 69 (([] : List TBar).map encTBar))), (24, (.row 34 [[(iC g.Points), (.loc 23 0 ([] : List TBar).length)]]))]) ⟨rfl, rfl, rfl, trivial⟩ ⟨rfl, rfl, rfl, rfl, trivial⟩) ?_
    refine AWR.region ?_
    refine AOR.pure (LT.bloadN (out := [(iC g.Points), (.pv (.xs false (g.Bars.map encTBar)))]) rfl ag34 (infS inf34) sz34 (by exact rfl) (by exact rfl)) ⟨rfl, trivial⟩ ⟨rfl, trivial⟩ rfl rfl ?_
    refine AOR.bind fun r4 hr4 => ?_
    refine AOR.pure (@LT.callF Try.prog _ _ 76 _ _ [(.agg [(iC g.Points), (.pv (.xs false (g.Bars.map encTBar)))])] _ _ [] _ _ _ _ (w_spec_IsGraph g r4 hr4) rfl cb76 (.cons (.agg (.cons (.same rfl) (.cons (.same rfl) .nil))) .nil) rfl rfl trivial) ⟨rfl, rfl, trivial⟩ trivial rfl rfl ?_
    refine AOR.pure (LT.not rfl) ⟨rfl, trivial⟩ trivial rfl rfl ?_
    refine AOR.pure (LT.move (v := (.s (.c (bC (!r4))))) rfl) ⟨rfl, trivial⟩ trivial rfl rfl ?_
    refine AOR.split (fun hb5 => ?_) (fun hb5 => ?_)
    · refine AOR.skip ⟨_, rfl, .inl ⟨_, rfl, (by rw [hb5]; rfl)⟩⟩ rfl ?_
      refine AOR.skip ⟨_, rfl, .inl ⟨_, rfl, (by rw [hb5]; rfl)⟩⟩ rfl ?_
      refine AOR.skip ⟨_, rfl, .inl ⟨_, rfl, (by rw [hb5]; rfl)⟩⟩ rfl ?_
      refine AOR.skip ⟨_, rfl, .inl ⟨_, rfl, (by rw [hb5]; rfl)⟩⟩ rfl ?_
      refine AOR.skip ⟨_, rfl, .inl ⟨_, rfl, (by rw [hb5]; rfl)⟩⟩ rfl ?_
      refine AOR.pure (LT.pickT (v := (.s (.c (bC true)))) rfl hb5) ⟨rfl, ⟨rfl, rfl⟩, trivial⟩ trivial rfl rfl ?_
      refine AOR.nil ?_
      refine AWR.nil ⟨rfl, Ent.of ⟨rfl, rfl, rfl, rfl, trivial⟩ ⟨rfl, rfl, rfl, rfl, trivial⟩⟩
    · refine AOR.pure (LT.fieldPl rfl fo34_1) ⟨rfl, trivial⟩ trivial ⟨_, rfl, .inl ⟨_, rfl, (by rw [hb5]; rfl)⟩⟩ rfl ?_
      refine AOR.pure (LT.bload1 (c := (.pv (.xs false (g.Bars.map encTBar)))) rfl ag32 (by exact rfl)) ⟨rfl, trivial⟩ ⟨rfl, trivial⟩ ⟨_, rfl, .inl ⟨_, rfl, (by rw [hb5]; rfl)⟩⟩ rfl ?_
      refine AOR.pure (LT.tlenRO rfl und32) ⟨rfl, trivial⟩ trivial ⟨_, rfl, .inl ⟨_, rfl, (by rw [hb5]; rfl)⟩⟩ rfl ?_
      refine AOR.pure (LT.mul rfl) ⟨⟨rfl, rfl⟩, rfl, trivial⟩ trivial ⟨_, rfl, .inl ⟨_, rfl, (by rw [hb5]; rfl)⟩⟩ rfl ?_
      refine AOR.pure (LT.gtr rfl) ⟨rfl, ⟨rfl, rfl⟩, trivial⟩ trivial ⟨_, rfl, .inl ⟨_, rfl, (by rw [hb5]; rfl)⟩⟩ rfl ?_
      refine AOR.pure (LT.pickF (v := (.s (.c (bC (decide (24 < (w64 (2 * (g.Bars.length : Int))))))))) rfl hb5) ⟨rfl, rfl, trivial⟩ trivial rfl rfl ?_
      refine AOR.nil ?_
      refine AWR.nil ⟨rfl, Ent.of ⟨rfl, rfl, rfl, rfl, trivial⟩ ⟨rfl, rfl, rfl, rfl, trivial⟩⟩
  · refine AWR.cond rfl (fun hc6 => ?_) (fun hc6 => ?_)
    · refine AWR.seq ?_
      refine AWR.region ?_
      refine AOR.pure (LT.build [] rfl rfl pl34 ti34 rfl rfl rfl) trivial trivial rfl rfl ?_
      refine AOR.step (LT.bstore (v := (.agg [(iC 0), (sC nilV)])) (out := [(iC 0), (sC nilV)]) rfl rfl (infS inf34) sz34 (by exact rfl) (by exact Nat.le_of_ble_eq_true rfl) (by exact rfl)) ⟨rfl, rfl, trivial⟩ ⟨rfl, trivial⟩ rfl rfl ?_
      refine AOR.pure (LT.assign (v := (.s (.c (bC false)))) rfl) ⟨⟨rfl, rfl⟩, trivial⟩ trivial rfl rfl ?_
      refine AOR.nil ?_
      refine AWR.ent (Ent.nilB 22 1 0 69 rfl rfl rfl rfl) ?_
      refine AWR.ent (Ent.of (σ' := [(2, (.s (.c (.pl 22 0)))), (3, (.s (.c (bC false))))]) (m' := [(0, (.prow 69 (([] : List TBar).map encTBar))), (22, (.row 34 [[(iC 0), (.loc 0 0 ([] : List TBar).length)]]))]) ⟨rfl, rfl, trivial⟩ ⟨rfl, rfl, trivial⟩) ?_
      refine AWR.ret (FPost.mk (.inr rfl) ⟨⟨_, _, _, rfl, rfl, rfl, ag34, sz34, _, (infS inf34)⟩, rfl, trivial⟩ ⟨rfl, trivial⟩ rfl ⟨⟨PermP.sc, trivial, trivial⟩, PermP.sc, trivial⟩ ⟨PermO.prow' perm_encTBar, trivial⟩)
    · refine AWR.skip ?_
      refine AWR.seq ?_
      refine AWR.seq ?_
      refine AWR.region ?_
      refine AOR.pure (LT.assign (v := (.s (.c (iC 0)))) rfl) ⟨⟨rfl, rfl⟩, trivial⟩ trivial rfl rfl ?_
      refine AOR.nil ?_
      refine AWR.block ?_
      refine AWR.loop1 (id := 0) (m_spec_HingeGraph_L1 g) (fun s7 => ([(1, (.s (.c (.pl 21 0)))), (2, (.s (.c (.pl 22 0)))), (4, (.s (.c (.pl 24 0)))), (5, (.s (.c (iC s7.1))))], [(21, (.row 34 [[(iC g.Points), (.pv (.xs false (g.Bars.map encTBar)))]])), (22, (.row 34 [[(iC 0), (sC nilV)]])), (23, (.prow 69 (s7.2.map encTBar))), (24, (.row 34 [[(iC g.Points), (.loc 23 0 s7.2.length)]]))])) (fun b16 => ([(2, (.s (.c (.pl 22 0)))), (4, (.s (.c (.pl 24 0))))], [(22, (.row 34 [[(iC 0), (sC nilV)]])), (23, (.prow 69 (b16.map encTBar))), (24, (.row 34 [[(iC g.Points), (.loc 23 0 b16.length)]]))])) ?_ (Ent.of ⟨rfl, rfl, rfl, rfl, trivial⟩ ⟨rfl, rfl, rfl, rfl, trivial⟩) rfl (fun b16 _ => ?_)
      · intro s7
        unfold m_spec_HingeGraph_L1
        refine AWR.seq ?_
        refine AWR.seq ?_
        refine AWR.region ?_
        refine AOR.pure (LT.move (v := (.s (.c (iC s7.1)))) rfl) ⟨rfl, trivial⟩ trivial rfl rfl ?_
        refine AOR.pure (LT.fieldPl rfl fo34_1) ⟨rfl, trivial⟩ trivial rfl rfl ?_
        refine AOR.pure (LT.bload1 (c := (.pv (.xs false (g.Bars.map encTBar)))) rfl ag32 (by exact rfl)) ⟨rfl, trivial⟩ ⟨rfl, trivial⟩ rfl rfl ?_
        refine AOR.pure (LT.tlenRO rfl und32) ⟨rfl, trivial⟩ trivial rfl rfl ?_
        refine AOR.pure (LT.lss rfl) ⟨rfl, rfl, trivial⟩ trivial rfl rfl ?_
        refine AOR.nil ?_
        refine AWR.cond rfl (fun hc17 => ?_) (fun hc17 => ?_)
        · refine AWR.skip ?_
          refine AWR.seq ?_
          refine AWR.block ?_
          refine AWR.draw mixed ?_
          refine AOD.pure (LT.fieldPl rfl fo34_1) ⟨rfl, trivial⟩ trivial rfl rfl ?_
          refine AOD.pure (LT.bload1 (c := (.loc 23 0 s7.2.length)) rfl ag32 (by exact rfl)) ⟨rfl, trivial⟩ ⟨rfl, trivial⟩ rfl rfl ?_
          refine AOD.pure (LT.fieldPl rfl fo34_1) ⟨rfl, trivial⟩ trivial rfl rfl ?_
          refine AOD.pure (LT.bload1 (c := (.pv (.xs false (g.Bars.map encTBar)))) rfl ag32 (by exact rfl)) ⟨rfl, trivial⟩ ⟨rfl, trivial⟩ rfl rfl ?_
          refine AOD.pure (LT.move (v := (.s (.c (iC s7.1)))) rfl) ⟨rfl, trivial⟩ trivial rfl rfl ?_
          refine AOD.bind fun x18 hx18 => ?_
          refine AOD.pure (LT.tindexRO (enc := encTBar) rfl el32 hx18 sz69) ⟨rfl, rfl, trivial⟩ trivial rfl rfl ?_
          refine AOD.pure (LT.loadPxN rfl ag69 (infS inf69) (by exact sz69.symm)) ⟨rfl, trivial⟩ trivial rfl rfl ?_
          refine AOD.pure (LT.fieldPl rfl fo34_1) ⟨rfl, trivial⟩ trivial rfl rfl ?_
          refine AOD.pure (LT.bload1 (c := (.pv (.xs false (g.Bars.map encTBar)))) rfl ag32 (by exact rfl)) ⟨rfl, trivial⟩ ⟨rfl, trivial⟩ rfl rfl ?_
          refine AOD.pure (LT.move (v := (.s (.c (iC s7.1)))) rfl) ⟨rfl, trivial⟩ trivial rfl rfl ?_
          refine AOD.bind fun x19 hx19 => ?_
          refine AOD.pure (LT.tindexRO (enc := encTBar) rfl el32 hx19 sz69) ⟨rfl, rfl, trivial⟩ trivial rfl rfl ?_
          refine AOD.pure (LT.loadPxN rfl ag69 (infS inf69) (by exact sz69.symm)) ⟨rfl, trivial⟩ trivial rfl rfl ?_
          refine AOD.step (LT.tbuildSlice (n := 26) (enc := encTBar) [(0, .tmp 34, (.agg [(iC x18.A), (iC x18.B)])), (1, .tmp 39, (.agg [(iC x19.A), (iC x19.B)]))] [x18, x19] rfl rfl und32 ti69 rfl rfl rfl rfl (by decide) (fun _ => rfl) rfl) ⟨rfl, rfl, trivial⟩ trivial rfl rfl ?_
          refine AOD.bind fun u20 hu20 => ?_
          refine AOD.step (LT.tappP (enc := encTBar) rfl rfl rfl und32 ti69 rfl (by decide) (by decide) (fun _ => rfl) (lim_le hu20)) ⟨rfl, rfl, trivial⟩ ⟨rfl, rfl, trivial⟩ rfl rfl ?_
          refine AOD.pure (LT.fieldPl rfl fo34_1) ⟨rfl, trivial⟩ trivial rfl rfl ?_
          refine AOD.step (LT.bstore (v := (.c (.loc 23 0 (s7.2 ++ [x18, x19]).length))) (out := [(iC g.Points), (.loc 23 0 (s7.2 ++ [x18, x19]).length)]) rfl rfl (infS inf32) sz32 (by exact rfl) (by exact Nat.le_of_ble_eq_true rfl) (by exact rfl)) ⟨rfl, rfl, trivial⟩ ⟨rfl, trivial⟩ rfl rfl ?_
          refine AOD.nil (by kernel_rfl) ?_
          refine AWR.blk ?_
          refine AWR.ent (Ent.of (σ' := [(1, (.s (.c (.pl 21 0)))), (2, (.s (.c (.pl 22 0)))), (4, (.s (.c (.pl 24 0)))), (5, (.s (.c (iC s7.1))))]) (m' := [(21, (.row 34 [[(iC g.Points), (.pv (.xs false (g.Bars.map encTBar)))]])), (22, (.row 34 [[(iC 0), (sC nilV)]])), (23, (.prow 69 ((s7.2 ++ [x18, x19]).map encTBar))), (24, (.row 34 [[(iC g.Points), (.loc 23 0 (s7.2 ++ [x18, x19]).length)]]))]) ⟨rfl, rfl, rfl, rfl, trivial⟩ ⟨rfl, rfl, rfl, rfl, trivial⟩) ?_
          refine AWR.region ?_
          refine AOR.pure (LT.move (v := (.s (.c (iC s7.1)))) rfl) ⟨rfl, trivial⟩ trivial rfl rfl ?_
          refine AOR.pure (LT.add rfl) ⟨rfl, ⟨rfl, rfl⟩, trivial⟩ trivial rfl rfl ?_
          refine AOR.pure (LT.assign (v := (.s (.c (iC (w64 (s7.1 + 1)))))) rfl) ⟨rfl, trivial⟩ trivial rfl rfl ?_
          refine AOR.nil ?_
          refine AWR.nil ⟨rfl, Ent.of ⟨rfl, rfl, rfl, rfl, trivial⟩ ⟨rfl, rfl, rfl, rfl, trivial⟩⟩
        · refine AWR.exit_end rfl ⟨rfl, Ent.of ⟨rfl, rfl, trivial⟩ ⟨rfl, rfl, rfl, trivial⟩⟩
      · refine AWR.seq ?_
        refine AWR.region ?_
        refine AOR.pure (LT.bloadN (out := [(iC g.Points), (.loc 23 0 b16.length)]) rfl ag34 (infS inf34) sz34 (by exact rfl) (by exact rfl)) ⟨rfl, trivial⟩ ⟨rfl, trivial⟩ rfl rfl ?_
        refine AOR.step (LT.bstore (v := (.agg [(iC g.Points), (.loc 23 0 b16.length)])) (out := [(iC g.Points), (.loc 23 0 b16.length)]) rfl rfl (infS inf34) sz34 (by exact rfl) (by exact Nat.le_of_ble_eq_true rfl) (by exact rfl)) ⟨rfl, rfl, trivial⟩ ⟨rfl, trivial⟩ rfl rfl ?_
        refine AOR.pure (LT.assign (v := (.s (.c (bC true)))) rfl) ⟨⟨rfl, rfl⟩, trivial⟩ trivial rfl rfl ?_
        refine AOR.nil ?_
        refine AWR.ent (Ent.of (σ' := [(2, (.s (.c (.pl 22 0)))), (3, (.s (.c (bC true))))]) (m' := [(22, (.row 34 [[(iC g.Points), (.loc 23 0 b16.length)]])), (23, (.prow 69 (b16.map encTBar)))]) ⟨rfl, rfl, trivial⟩ ⟨rfl, rfl, trivial⟩) ?_
        refine AWR.ent (Ent.mv 23 0 rfl rfl) ?_
        refine AWR.ent (Ent.of (σ' := [(2, (.s (.c (.pl 22 0)))), (3, (.s (.c (bC true))))]) (m' := [(0, (.prow 69 (b16.map encTBar))), (22, (.row 34 [[(iC g.Points), (.loc 0 0 b16.length)]]))]) ⟨rfl, rfl, trivial⟩ ⟨rfl, rfl, trivial⟩) ?_
        refine AWR.ret (FPost.mk (.inr rfl) ⟨⟨_, _, _, rfl, rfl, rfl, ag34, sz34, _, (infS inf34)⟩, rfl, trivial⟩ ⟨rfl, trivial⟩ rfl ⟨⟨PermP.sc, trivial, trivial⟩, PermP.sc, trivial⟩ ⟨PermO.prow' perm_encTBar, trivial⟩)
set_option maxRecDepth 100000 in
set_option maxHeartbeats 8000000 in
theorem w_spec_HingeFreedom (g : TGraph) : ∀ t, m_spec_HingeFreedom g = some t → Fw.Fn Try.prog 41 [(.agg [(iC g.Points), (.pv (.xs false (g.Bars.map encTBar)))])] [] (.s (.c (iC t))) [] [] [] := by
  refine Fw.Fn.of (P := Try.prog) (X := []) (pn := []) (rs := (fun (t : Int) => [(.c (iC t))])) (dfs := (fun (t : Int) => [])) Try.func41 rfl Try.ntmps41 (Nat.le_of_ble_eq_true rfl) rfl ?_
  intro w0 U0 R0 g0
  unfold m_spec_HingeFreedom
  refine AWR.seq ?_
  refine AWR.region ?_
  refine AOR.step (LT.box (n := 21) (v := (.agg [(iC g.Points), (.pv (.xs false (g.Bars.map encTBar)))])) rfl sz34 (by exact rfl)) ⟨rfl, trivial⟩ trivial rfl rfl ?_
  refine AOR.pure (LT.assign (v := (.s (.c (iC 0)))) rfl) ⟨⟨rfl, rfl⟩, trivial⟩ trivial rfl rfl ?_
  refine AOR.nil ?_
  refine AWR.seq ?_
  refine AWR.region ?_
  refine AOR.pure (LT.bloadN (out := [(iC g.Points), (.pv (.xs false (g.Bars.map encTBar)))]) rfl ag34 (infS inf34) sz34 (by exact rfl) (by exact rfl)) ⟨rfl, trivial⟩ ⟨rfl, trivial⟩ rfl rfl ?_
  refine AOR.bind fun r1 hr1 => ?_
  refine AOR.step (@LT.callF Try.prog _ _ 78 _ _ [(.agg [(iC g.Points), (.pv (.xs false (g.Bars.map encTBar)))])] _ _ [] _ _ _ _ ((show Fw.Fn Try.prog 78 [(.agg [(iC g.Points), (.pv (.xs false (g.Bars.map encTBar)))])] [] (.tup [(.agg [(iC r1.1.Points), (.loc 23 0 r1.1.Bars.length)]), (.c (bC r1.2))]) [(23, (.prow 69 (r1.1.Bars.map encTBar)))] [] [23] from Fw.Fn.ren [(0, 23)] (w_spec_HingeGraph g r1 hr1) rfl)) rfl cb78 (.cons (.agg (.cons (.same rfl) (.cons (.same rfl) .nil))) .nil) rfl rfl trivial) ⟨rfl, rfl, trivial⟩ trivial rfl rfl ?_
  refine AOR.pure (LT.move (v := (.tup [(.agg [(iC r1.1.Points), (.loc 23 0 r1.1.Bars.length)]), (.c (bC r1.2))])) rfl) ⟨rfl, trivial⟩ trivial rfl rfl ?_
  refine AOR.pure (LT.extract (v := (.agg [(iC r1.1.Points), (.loc 23 0 r1.1.Bars.length)])) rfl (by exact rfl)) ⟨rfl, trivial⟩ trivial rfl rfl ?_
  refine AOR.pure (LT.extract (v := (.c (bC r1.2))) rfl (by exact rfl)) ⟨rfl, trivial⟩ trivial rfl rfl ?_
  refine AOR.step (LT.alloc (n := 24) (cells := [(iC 0), (sC nilV)]) rfl ti34 rfl rfl rfl) trivial trivial rfl rfl ?_
  refine AOR.step (LT.bstore (v := (.agg [(iC r1.1.Points), (.loc 23 0 r1.1.Bars.length)])) (out := [(iC r1.1.Points), (.loc 23 0 r1.1.Bars.length)]) rfl rfl (infS inf34) sz34 (by exact rfl) (by exact Nat.le_of_ble_eq_true rfl) (by exact rfl)) ⟨rfl, rfl, trivial⟩ ⟨rfl, trivial⟩ rfl rfl ?_
  refine AOR.pure (LT.assign (v := (.s (.c (bC r1.2)))) rfl) ⟨rfl, trivial⟩ trivial rfl rfl ?_
  refine AOR.nil ?_
  refine AWR.seq ?_
  refine AWR.seq ?_
  refine AWR.ent (Ent.of (σ' := [(3, (.s (.c (.pl 24 0)))), (4, (.s (.c (bC r1.2))))]) (m' := [(23, (.prow 69 (r1.1.Bars.map encTBar))), (24, (.row 34 [[(iC r1.1.Points), (.loc 23 0 r1.1.Bars.length)]]))]) ⟨rfl, rfl, trivial⟩ ⟨rfl, rfl, trivial⟩) ?_
  refine AWR.region ?_
  refine AOR.pure (LT.move (v := (.s (.c (bC r1.2)))) rfl) ⟨rfl, trivial⟩ trivial rfl rfl ?_
  refine AOR.pure (LT.not rfl) ⟨rfl, trivial⟩ trivial rfl rfl ?_
  refine AOR.nil ?_
  refine AWR.cond rfl (fun hc2 => ?_) (fun hc2 => ?_)
  · refine AWR.seq ?_
    refine AWR.region ?_
    refine AOR.pure (LT.assign (v := (.s (.c (iC (-1))))) rfl) ⟨⟨rfl, rfl⟩, trivial⟩ trivial rfl rfl ?_
    refine AOR.nil ?_
    refine AWR.ret (FPost.mk (.inr rfl) ⟨rfl, trivial⟩ trivial rfl ⟨PermP.sc, trivial⟩ trivial)
  · refine AWR.skip ?_
    refine AWR.seq ?_
    refine AWR.region ?_
    refine AOR.pure (LT.bloadN (out := [(iC r1.1.Points), (.loc 23 0 r1.1.Bars.length)]) rfl ag34 (infS inf34) sz34 (by exact rfl) (by exact rfl)) ⟨rfl, trivial⟩ ⟨rfl, trivial⟩ rfl rfl ?_
    refine AOR.bind fun r3 hr3 => ?_
    refine AOR.pure (@LT.callF Try.prog _ _ 37 _ _ [(.agg [(iC r1.1.Points), (.loc 23 0 r1.1.Bars.length)])] _ _ [(23, (.prow 69 (r1.1.Bars.map encTBar)))] _ _ _ _ (w_spec_BodyFreedom r1.1 r3 hr3) rfl cb37 (.cons (.agg (.cons (.same rfl) (.cons (.tloc rfl rfl) .nil))) .nil) rfl rfl trivial) ⟨rfl, rfl, trivial⟩ ⟨rfl, trivial⟩ rfl rfl ?_
    refine AOR.pure (LT.assign (v := (.s (.c (iC r3)))) rfl) ⟨rfl, trivial⟩ trivial rfl rfl ?_
    refine AOR.nil ?_
    refine AWR.ret (FPost.mk (.inr rfl) ⟨rfl, trivial⟩ trivial rfl ⟨PermP.sc, trivial⟩ trivial)
set_option maxRecDepth 100000 in
set_option maxHeartbeats 8000000 in
theorem w_impl_HingeGraph (g : TGraph) : ∀ t, m_impl_HingeGraph g = some t → Fw.Fn Try.prog 79 [(.agg [(iC g.Points), (.pv (.xs false (g.Bars.map encTBar)))])] [] (resA [(.agg [(iC t.1.Points), (.loc 0 0 t.1.Bars.length)]), (.c (bC t.2))]) [(0, (.prow 69 (t.1.Bars.map encTBar)))] [] [0] := by
  refine Fw.Fn.of (P := Try.prog) (X := [0]) (pn := []) (rs := (fun (t : (TGraph × Bool)) => [(.agg [(iC t.1.Points), (.loc 0 0 t.1.Bars.length)]), (.c (bC t.2))])) (dfs := (fun (t : (TGraph × Bool)) => [(0, (.prow 69 (t.1.Bars.map encTBar)))])) Try.func79 rfl Try.ntmps79 (Nat.le_of_ble_eq_true rfl) rfl ?_
  intro w0 U0 R0 g0
  unfold m_impl_HingeGraph
  refine AWR.seq ?_
  refine AWR.region ?_
  refine AOR.step (LT.box (n := 21) (v := (.agg [(iC g.Points), (.pv (.xs false (g.Bars.map encTBar)))])) rfl sz34 (by exact rfl)) ⟨rfl, trivial⟩ trivial rfl rfl ?_
  refine AOR.step (LT.alloc (n := 22) (cells := [(iC 0), (sC nilV)]) rfl ti34 rfl rfl rfl) trivial trivial rfl rfl ?_
  refine AOR.pure (LT.assign (v := (.s (.c (bC false)))) rfl) ⟨⟨rfl, rfl⟩, trivial⟩ trivial rfl rfl ?_
  refine AOR.nil ?_
  refine AWR.seq ?_
  refine AWR.seq ?_
  refine AWR.joinK (fun j3 => ([(1, (.s (.c (.pl 21 0)))), (2, (.s (.c (.pl 22 0)))), (16, (.s (.c (bC j3))))], [(21, (.row 34 [[(iC g.Points), (.pv (.xs false (g.Bars.map encTBar)))]])), (22, (.row 34 [[(iC 0), (sC nilV)]]))])) ?_ (fun j3 _ => ?_)
  · refine AWR.region ?_
    refine AOR.pure (LT.bloadN (out := [(iC g.Points), (.pv (.xs false (g.Bars.map encTBar)))]) rfl ag34 (infS inf34) sz34 (by exact rfl) (by exact rfl)) ⟨rfl, trivial⟩ ⟨rfl, trivial⟩ rfl rfl ?_
    refine AOR.bind fun r4 hr4 => ?_
    refine AOR.pure (@LT.callF Try.prog _ _ 77 _ _ [(.agg [(iC g.Points), (.pv (.xs false (g.Bars.map encTBar)))])] _ _ [] _ _ _ _ (w_impl_IsGraph g r4 hr4) rfl cb77 (.cons (.agg (.cons (.same rfl) (.cons (.same rfl) .nil))) .nil) rfl rfl trivial) ⟨rfl, rfl, trivial⟩ trivial rfl rfl ?_
    refine AOR.pure (LT.not rfl) ⟨rfl, trivial⟩ trivial rfl rfl ?_
    refine AOR.pure (LT.move (v := (.s (.c (bC (!r4))))) rfl) ⟨rfl, trivial⟩ trivial rfl rfl ?_
    refine AOR.split (fun hb5 => ?_) (fun hb5 => ?_)
    · refine AOR.skip ⟨_, rfl, .inl ⟨_, rfl, (by rw [hb5]; rfl)⟩⟩ rfl ?_
      refine AOR.skip ⟨_, rfl, .inl ⟨_, rfl, (by rw [hb5]; rfl)⟩⟩ rfl ?_
      refine AOR.skip ⟨_, rfl, .inl ⟨_, rfl, (by rw [hb5]; rfl)⟩⟩ rfl ?_
      refine AOR.skip ⟨_, rfl, .inl ⟨_, rfl, (by rw [hb5]; rfl)⟩⟩ rfl ?_
      refine AOR.skip ⟨_, rfl, .inl ⟨_, rfl, (by rw [hb5]; rfl)⟩⟩ rfl ?_
      refine AOR.pure (LT.pickT (v := (.s (.c (bC true)))) rfl hb5) ⟨rfl, ⟨rfl, rfl⟩, trivial⟩ trivial rfl rfl ?_
      refine AOR.nil ?_
      refine AWR.nil ⟨rfl, Ent.of ⟨rfl, rfl, rfl, trivial⟩ ⟨rfl, rfl, trivial⟩⟩
    · refine AOR.pure (LT.fieldPl rfl fo34_1) ⟨rfl, trivial⟩ trivial ⟨_, rfl, .inl ⟨_, rfl, (by rw [hb5]; rfl)⟩⟩ rfl ?_
      refine AOR.pure (LT.bload1 (c := (.pv (.xs false (g.Bars.map encTBar)))) rfl ag32 (by exact rfl)) ⟨rfl, trivial⟩ ⟨rfl, trivial⟩ ⟨_, rfl, .inl ⟨_, rfl, (by rw [hb5]; rfl)⟩⟩ rfl ?_
      refine AOR.pure (LT.tlenRO rfl und32) ⟨rfl, trivial⟩ trivial ⟨_, rfl, .inl ⟨_, rfl, (by rw [hb5]; rfl)⟩⟩ rfl ?_
      refine AOR.pure (LT.mul rfl) ⟨⟨rfl, rfl⟩, rfl, trivial⟩ trivial ⟨_, rfl, .inl ⟨_, rfl, (by rw [hb5]; rfl)⟩⟩ rfl ?_
      refine AOR.pure (LT.gtr rfl) ⟨rfl, ⟨rfl, rfl⟩, trivial⟩ trivial ⟨_, rfl, .inl ⟨_, rfl, (by rw [hb5]; rfl)⟩⟩ rfl ?_
      refine AOR.pure (LT.pickF (v := (.s (.c (bC (decide (24 < (w64 (2 * (g.Bars.length : Int))))))))) rfl hb5) ⟨rfl, rfl, trivial⟩ trivial rfl rfl ?_
      refine AOR.nil ?_
      refine AWR.nil ⟨rfl, Ent.of ⟨rfl, rfl, rfl, trivial⟩ ⟨rfl, rfl, trivial⟩⟩
  · refine AWR.cond rfl (fun hc6 => ?_) (fun hc6 => ?_)
    · refine AWR.seq ?_
      refine AWR.region ?_
      refine AOR.pure (LT.build [] rfl rfl pl34 ti34 rfl rfl rfl) trivial trivial rfl rfl ?_
      refine AOR.step (LT.bstore (v := (.agg [(iC 0), (sC nilV)])) (out := [(iC 0), (sC nilV)]) rfl rfl (infS inf34) sz34 (by exact rfl) (by exact Nat.le_of_ble_eq_true rfl) (by exact rfl)) ⟨rfl, rfl, trivial⟩ ⟨rfl, trivial⟩ rfl rfl ?_
      refine AOR.pure (LT.assign (v := (.s (.c (bC false)))) rfl) ⟨⟨rfl, rfl⟩, trivial⟩ trivial rfl rfl ?_
      refine AOR.nil ?_
      refine AWR.ent (Ent.nilB 22 1 0 69 rfl rfl rfl rfl) ?_
      refine AWR.ent (Ent.of (σ' := [(2, (.s (.c (.pl 22 0)))), (3, (.s (.c (bC false))))]) (m' := [(0, (.prow 69 (([] : List TBar).map encTBar))), (22, (.row 34 [[(iC 0), (.loc 0 0 ([] : List TBar).length)]]))]) ⟨rfl, rfl, trivial⟩ ⟨rfl, rfl, trivial⟩) ?_
      refine AWR.ret (FPost.mk (.inr rfl) ⟨⟨_, _, _, rfl, rfl, rfl, ag34, sz34, _, (infS inf34)⟩, rfl, trivial⟩ ⟨rfl, trivial⟩ rfl ⟨⟨PermP.sc, trivial, trivial⟩, PermP.sc, trivial⟩ ⟨PermO.prow' perm_encTBar, trivial⟩)
    · refine AWR.skip ?_
      refine AWR.seq ?_
      refine AWR.region ?_
      refine AOR.pure (LT.fieldPl rfl fo34_0) ⟨rfl, trivial⟩ trivial rfl rfl ?_
      refine AOR.pure (LT.bload1 (c := (iC g.Points)) rfl ag3 (by exact rfl)) ⟨rfl, trivial⟩ ⟨rfl, trivial⟩ rfl rfl ?_
      refine AOR.pure (LT.build [(0, .tmp 19, (.c (iC g.Points)))] rfl rfl pl34 ti34 rfl rfl rfl) ⟨rfl, trivial⟩ trivial rfl rfl ?_
      refine AOR.step (LT.alloc (n := 24) (cells := [(iC 0), (sC nilV)]) rfl ti34 rfl rfl rfl) trivial trivial rfl rfl ?_
      refine AOR.step (LT.bstore (v := (.agg [(iC g.Points), (sC nilV)])) (out := [(iC g.Points), (sC nilV)]) rfl rfl (infS inf34) sz34 (by exact rfl) (by exact Nat.le_of_ble_eq_true rfl) (by exact rfl)) ⟨rfl, rfl, trivial⟩ ⟨rfl, trivial⟩ rfl rfl ?_
      refine AOR.nil ?_
      refine AWR.seq ?_
      refine AWR.seq ?_
      refine AWR.region ?_
      refine AOR.pure (LT.fieldPl rfl fo34_1) ⟨rfl, trivial⟩ trivial rfl rfl ?_
      refine AOR.pure (LT.bload1 (c := (.pv (.xs false (g.Bars.map encTBar)))) rfl ag32 (by exact rfl)) ⟨rfl, trivial⟩ ⟨rfl, trivial⟩ rfl rfl ?_
      refine AOR.pure (LT.tlenRO rfl und32) ⟨rfl, trivial⟩ trivial rfl rfl ?_
      refine AOR.pure (LT.move (v := (.s (.c (iC 0)))) rfl) ⟨⟨rfl, rfl⟩, trivial⟩ trivial rfl rfl ?_
      refine AOR.nil ?_
      refine AWR.block ?_
      refine AWR.ent (Ent.nilB 24 1 28 69 rfl rfl rfl rfl) ?_
      refine AWR.loop1 (id := 0) (m_impl_HingeGraph_L1 g) (fun s7 => ([(2, (.s (.c (.pl 22 0)))), (4, (.s (.c (.pl 24 0)))), (22, (.s (.c (.pv (.xs false (g.Bars.map encTBar)))))), (23, (.s (.c (iC (g.Bars.length : Int))))), (24, (.s (.c (iC s7.1))))], [(22, (.row 34 [[(iC 0), (sC nilV)]])), (24, (.row 34 [[(iC g.Points), (.loc 28 0 s7.2.length)]])), (28, (.prow 69 (s7.2.map encTBar)))])) (fun b14 => ([(2, (.s (.c (.pl 22 0)))), (4, (.s (.c (.pl 24 0))))], [(22, (.row 34 [[(iC 0), (sC nilV)]])), (24, (.row 34 [[(iC g.Points), (.loc 28 0 b14.length)]])), (28, (.prow 69 (b14.map encTBar)))])) ?_ (Ent.of ⟨rfl, rfl, rfl, rfl, rfl, trivial⟩ ⟨rfl, rfl, rfl, trivial⟩) rfl (fun b14 _ => ?_)
      · intro s7
        unfold m_impl_HingeGraph_L1
        refine AWR.seq ?_
        refine AWR.region ?_
        refine AOR.pure (LT.lss rfl) ⟨rfl, rfl, trivial⟩ trivial rfl rfl ?_
        refine AOR.nil ?_
        refine AWR.seq ?_
        refine AWR.cond rfl (fun hc15 => ?_) (fun hc15 => ?_)
        · refine AWR.skip ?_
          refine AWR.seq ?_
          refine AWR.block ?_
          refine AWR.seq ?_
          refine AWR.region ?_
          refine AOR.bind fun x16 hx16 => ?_
          refine AOR.pure (LT.tindexRO (enc := encTBar) rfl el32 hx16 sz69) ⟨rfl, rfl, trivial⟩ trivial rfl rfl ?_
          refine AOR.pure (LT.loadPxN rfl ag69 (infS inf69) (by exact sz69.symm)) ⟨rfl, trivial⟩ trivial rfl rfl ?_
          refine AOR.step (LT.alloc (n := 25) (cells := [(iC 0), (iC 0)]) rfl ti69 rfl rfl rfl) trivial trivial rfl rfl ?_
          refine AOR.step (LT.bstore (v := (.agg [(iC x16.A), (iC x16.B)])) (out := [(iC x16.A), (iC x16.B)]) rfl rfl (infS inf69) sz69 (by exact rfl) (by exact Nat.le_of_ble_eq_true rfl) (by exact rfl)) ⟨rfl, rfl, trivial⟩ ⟨rfl, trivial⟩ rfl rfl ?_
          refine AOR.nil ?_
          refine AWR.region ?_
          refine AOR.pure (LT.fieldPl rfl fo34_1) ⟨rfl, trivial⟩ trivial rfl rfl ?_
          refine AOR.pure (LT.bload1 (c := (.loc 28 0 s7.2.length)) rfl ag32 (by exact rfl)) ⟨rfl, trivial⟩ ⟨rfl, trivial⟩ rfl rfl ?_
          refine AOR.pure (LT.bloadN (out := [(iC x16.A), (iC x16.B)]) rfl ag69 (infS inf69) sz69 (by exact rfl) (by exact rfl)) ⟨rfl, trivial⟩ ⟨rfl, trivial⟩ rfl rfl ?_
          refine AOR.pure (LT.bloadN (out := [(iC x16.A), (iC x16.B)]) rfl ag69 (infS inf69) sz69 (by exact rfl) (by exact rfl)) ⟨rfl, trivial⟩ ⟨rfl, trivial⟩ rfl rfl ?_
          refine AOR.step (LT.tbuildSlice (n := 26) (enc := encTBar) [(0, .tmp 30, (.agg [(iC x16.A), (iC x16.B)])), (1, .tmp 31, (.agg [(iC x16.A), (iC x16.B)]))] [x16, x16] rfl rfl und32 ti69 rfl rfl rfl rfl (by decide) (fun _ => rfl) rfl) ⟨rfl, rfl, trivial⟩ trivial rfl rfl ?_
          refine AOR.bind fun u17 hu17 => ?_
          refine AOR.step (LT.tappP (enc := encTBar) rfl rfl rfl und32 ti69 rfl (by decide) (by decide) (fun _ => rfl) (lim_le hu17)) ⟨rfl, rfl, trivial⟩ ⟨rfl, rfl, trivial⟩ rfl rfl ?_
          refine AOR.pure (LT.fieldPl rfl fo34_1) ⟨rfl, trivial⟩ trivial rfl rfl ?_
          refine AOR.step (LT.bstore (v := (.c (.loc 28 0 (s7.2 ++ [x16, x16]).length))) (out := [(iC g.Points), (.loc 28 0 (s7.2 ++ [x16, x16]).length)]) rfl rfl (infS inf32) sz32 (by exact rfl) (by exact Nat.le_of_ble_eq_true rfl) (by exact rfl)) ⟨rfl, rfl, trivial⟩ ⟨rfl, trivial⟩ rfl rfl ?_
          refine AOR.nil ?_
          refine AWR.blk ?_
          refine AWR.ent (Ent.of (σ' := [(2, (.s (.c (.pl 22 0)))), (4, (.s (.c (.pl 24 0)))), (22, (.s (.c (.pv (.xs false (g.Bars.map encTBar)))))), (23, (.s (.c (iC (g.Bars.length : Int))))), (24, (.s (.c (iC s7.1))))]) (m' := [(22, (.row 34 [[(iC 0), (sC nilV)]])), (24, (.row 34 [[(iC g.Points), (.loc 28 0 (s7.2 ++ [x16, x16]).length)]])), (28, (.prow 69 ((s7.2 ++ [x16, x16]).map encTBar)))]) ⟨rfl, rfl, rfl, rfl, rfl, trivial⟩ ⟨rfl, rfl, rfl, trivial⟩) ?_
          refine AWR.region ?_
          refine AOR.pure (LT.add rfl) ⟨rfl, ⟨rfl, rfl⟩, trivial⟩ trivial rfl rfl ?_
          refine AOR.pure (LT.move (v := (.s (.c (iC (w64 (s7.1 + 1)))))) rfl) ⟨rfl, trivial⟩ trivial rfl rfl ?_
          refine AOR.nil ?_
          refine AWR.nil ⟨rfl, Ent.of ⟨rfl, rfl, rfl, rfl, rfl, trivial⟩ ⟨rfl, rfl, rfl, trivial⟩⟩
        · refine AWR.exit_end rfl ⟨rfl, Ent.of ⟨rfl, rfl, trivial⟩ ⟨rfl, rfl, rfl, trivial⟩⟩
      · refine AWR.seq ?_
        refine AWR.region ?_
        refine AOR.pure (LT.bloadN (out := [(iC g.Points), (.loc 28 0 b14.length)]) rfl ag34 (infS inf34) sz34 (by exact rfl) (by exact rfl)) ⟨rfl, trivial⟩ ⟨rfl, trivial⟩ rfl rfl ?_
        refine AOR.step (LT.bstore (v := (.agg [(iC g.Points), (.loc 28 0 b14.length)])) (out := [(iC g.Points), (.loc 28 0 b14.length)]) rfl rfl (infS inf34) sz34 (by exact rfl) (by exact Nat.le_of_ble_eq_true rfl) (by exact rfl)) ⟨rfl, rfl, trivial⟩ ⟨rfl, trivial⟩ rfl rfl ?_
        refine AOR.pure (LT.assign (v := (.s (.c (bC true)))) rfl) ⟨⟨rfl, rfl⟩, trivial⟩ trivial rfl rfl ?_
        refine AOR.nil ?_
        refine AWR.ent (Ent.of (σ' := [(2, (.s (.c (.pl 22 0)))), (3, (.s (.c (bC true))))]) (m' := [(22, (.row 34 [[(iC g.Points), (.loc 28 0 b14.length)]])), (28, (.prow 69 (b14.map encTBar)))]) ⟨rfl, rfl, trivial⟩ ⟨rfl, rfl, trivial⟩) ?_
        refine AWR.ent (Ent.mv 28 0 rfl rfl) ?_
        refine AWR.ent (Ent.of (σ' := [(2, (.s (.c (.pl 22 0)))), (3, (.s (.c (bC true))))]) (m' := [(0, (.prow 69 (b14.map encTBar))), (22, (.row 34 [[(iC g.Points), (.loc 0 0 b14.length)]]))]) ⟨rfl, rfl, trivial⟩ ⟨rfl, rfl, trivial⟩) ?_
        refine AWR.ret (FPost.mk (.inr rfl) ⟨⟨_, _, _, rfl, rfl, rfl, ag34, sz34, _, (infS inf34)⟩, rfl, trivial⟩ ⟨rfl, trivial⟩ rfl ⟨⟨PermP.sc, trivial, trivial⟩, PermP.sc, trivial⟩ ⟨PermO.prow' perm_encTBar, trivial⟩)
set_option maxRecDepth 100000 in
set_option maxHeartbeats 8000000 in
theorem w_impl_HingeFreedom (g : TGraph) : ∀ t, m_impl_HingeFreedom g = some t → Fw.Fn Try.prog 42 [(.agg [(iC g.Points), (.pv (.xs false (g.Bars.map encTBar)))])] [] (.s (.c (iC t))) [] [] [] := by
  refine Fw.Fn.of (P := Try.prog) (X := []) (pn := []) (rs := (fun (t : Int) => [(.c (iC t))])) (dfs := (fun (t : Int) => [])) Try.func42 rfl Try.ntmps42 (Nat.le_of_ble_eq_true rfl) rfl ?_
  intro w0 U0 R0 g0
  unfold m_impl_HingeFreedom
  refine AWR.seq ?_
  refine AWR.region ?_
  refine AOR.step (LT.box (n := 21) (v := (.agg [(iC g.Points), (.pv (.xs false (g.Bars.map encTBar)))])) rfl sz34 (by exact rfl)) ⟨rfl, trivial⟩ trivial rfl rfl ?_
  refine AOR.pure (LT.assign (v := (.s (.c (iC 0)))) rfl) ⟨⟨rfl, rfl⟩, trivial⟩ trivial rfl rfl ?_
  refine AOR.nil ?_
  refine AWR.seq ?_
  refine AWR.region ?_
  refine AOR.pure (LT.bloadN (out := [(iC g.Points), (.pv (.xs false (g.Bars.map encTBar)))]) rfl ag34 (infS inf34) sz34 (by exact rfl) (by exact rfl)) ⟨rfl, trivial⟩ ⟨rfl, trivial⟩ rfl rfl ?_
  refine AOR.bind fun r1 hr1 => ?_
  refine AOR.step (@LT.callF Try.prog _ _ 79 _ _ [(.agg [(iC g.Points), (.pv (.xs false (g.Bars.map encTBar)))])] _ _ [] _ _ _ _ ((show Fw.Fn Try.prog 79 [(.agg [(iC g.Points), (.pv (.xs false (g.Bars.map encTBar)))])] [] (.tup [(.agg [(iC r1.1.Points), (.loc 23 0 r1.1.Bars.length)]), (.c (bC r1.2))]) [(23, (.prow 69 (r1.1.Bars.map encTBar)))] [] [23] from Fw.Fn.ren [(0, 23)] (w_impl_HingeGraph g r1 hr1) rfl)) rfl cb79 (.cons (.agg (.cons (.same rfl) (.cons (.same rfl) .nil))) .nil) rfl rfl trivial) ⟨rfl, rfl, trivial⟩ trivial rfl rfl ?_
  refine AOR.pure (LT.move (v := (.tup [(.agg [(iC r1.1.Points), (.loc 23 0 r1.1.Bars.length)]), (.c (bC r1.2))])) rfl) ⟨rfl, trivial⟩ trivial rfl rfl ?_
  refine AOR.pure (LT.extract (v := (.agg [(iC r1.1.Points), (.loc 23 0 r1.1.Bars.length)])) rfl (by exact rfl)) ⟨rfl, trivial⟩ trivial rfl rfl ?_
  refine AOR.pure (LT.extract (v := (.c (bC r1.2))) rfl (by exact rfl)) ⟨rfl, trivial⟩ trivial rfl rfl ?_
  refine AOR.step (LT.alloc (n := 24) (cells := [(iC 0), (sC nilV)]) rfl ti34 rfl rfl rfl) trivial trivial rfl rfl ?_
  refine AOR.step (LT.bstore (v := (.agg [(iC r1.1.Points), (.loc 23 0 r1.1.Bars.length)])) (out := [(iC r1.1.Points), (.loc 23 0 r1.1.Bars.length)]) rfl rfl (infS inf34) sz34 (by exact rfl) (by exact Nat.le_of_ble_eq_true rfl) (by exact rfl)) ⟨rfl, rfl, trivial⟩ ⟨rfl, trivial⟩ rfl rfl ?_
  refine AOR.pure (LT.assign (v := (.s (.c (bC r1.2)))) rfl) ⟨rfl, trivial⟩ trivial rfl rfl ?_
  refine AOR.nil ?_
  refine AWR.seq ?_
  refine AWR.seq ?_
  refine AWR.ent (Ent.of (σ' := [(3, (.s (.c (.pl 24 0)))), (4, (.s (.c (bC r1.2))))]) (m' := [(23, (.prow 69 (r1.1.Bars.map encTBar))), (24, (.row 34 [[(iC r1.1.Points), (.loc 23 0 r1.1.Bars.length)]]))]) ⟨rfl, rfl, trivial⟩ ⟨rfl, rfl, trivial⟩) ?_
  refine AWR.region ?_
  refine AOR.pure (LT.move (v := (.s (.c (bC r1.2)))) rfl) ⟨rfl, trivial⟩ trivial rfl rfl ?_
  refine AOR.pure (LT.not rfl) ⟨rfl, trivial⟩ trivial rfl rfl ?_
  refine AOR.nil ?_
  refine AWR.cond rfl (fun hc2 => ?_) (fun hc2 => ?_)
  · refine AWR.seq ?_
    refine AWR.region ?_
    refine AOR.pure (LT.assign (v := (.s (.c (iC (-1))))) rfl) ⟨⟨rfl, rfl⟩, trivial⟩ trivial rfl rfl ?_
    refine AOR.nil ?_
    refine AWR.ret (FPost.mk (.inr rfl) ⟨rfl, trivial⟩ trivial rfl ⟨PermP.sc, trivial⟩ trivial)
  · refine AWR.skip ?_
    refine AWR.seq ?_
    refine AWR.region ?_
    refine AOR.pure (LT.bloadN (out := [(iC r1.1.Points), (.loc 23 0 r1.1.Bars.length)]) rfl ag34 (infS inf34) sz34 (by exact rfl) (by exact rfl)) ⟨rfl, trivial⟩ ⟨rfl, trivial⟩ rfl rfl ?_
    refine AOR.bind fun r3 hr3 => ?_
    refine AOR.pure (@LT.callF Try.prog _ _ 38 _ _ [(.agg [(iC r1.1.Points), (.loc 23 0 r1.1.Bars.length)])] _ _ [(23, (.prow 69 (r1.1.Bars.map encTBar)))] _ _ _ _ (w_impl_BodyFreedom r1.1 r3 hr3) rfl cb38 (.cons (.agg (.cons (.same rfl) (.cons (.tloc rfl rfl) .nil))) .nil) rfl rfl trivial) ⟨rfl, rfl, trivial⟩ ⟨rfl, trivial⟩ rfl rfl ?_
    refine AOR.pure (LT.assign (v := (.s (.c (iC r3)))) rfl) ⟨rfl, trivial⟩ trivial rfl rfl ?_
    refine AOR.nil ?_
    refine AWR.ret (FPost.mk (.inr rfl) ⟨rfl, trivial⟩ trivial rfl ⟨PermP.sc, trivial⟩ trivial)
set_option maxRecDepth 100000 in
set_option maxHeartbeats 8000000 in
theorem w_laws_FnExactHingeFreedom (aG : TGraph) : ∀ t, m_laws_FnExactHingeFreedom aG = some t → Fw.Fn Try.prog 11 [(.agg [(iC aG.Points), (.pv (.xs false (aG.Bars.map encTBar)))])] [] (.s (.c (bC t))) [] [] [] := by
  refine Fw.Fn.of (P := Try.prog) (X := []) (pn := []) (rs := (fun (t : Bool) => [(.c (bC t))])) (dfs := (fun (t : Bool) => [])) Try.func11 rfl Try.ntmps11 (Nat.le_of_ble_eq_true rfl) rfl ?_
  intro w0 U0 R0 g0
  unfold m_laws_FnExactHingeFreedom
  refine AWR.seq ?_
  refine AWR.region ?_
  refine AOR.step (LT.box (n := 21) (v := (.agg [(iC aG.Points), (.pv (.xs false (aG.Bars.map encTBar)))])) rfl sz24 (by exact rfl)) ⟨rfl, trivial⟩ trivial rfl rfl ?_
  refine AOR.pure (LT.assign (v := (.s (.c (bC false)))) rfl) ⟨⟨rfl, rfl⟩, trivial⟩ trivial rfl rfl ?_
  refine AOR.nil ?_
  refine AWR.seq ?_
  refine AWR.region ?_
  refine AOR.pure (LT.assign (v := (.s (.c (iC 1048576)))) rfl) ⟨⟨rfl, rfl⟩, trivial⟩ trivial rfl rfl ?_
  refine AOR.nil ?_
  refine AWR.seq ?_
  refine AWR.region ?_
  refine AOR.pure (LT.bloadN (out := [(iC aG.Points), (.pv (.xs false (aG.Bars.map encTBar)))]) rfl ag24 (infS inf24) sz24 (by exact rfl) (by exact rfl)) ⟨rfl, trivial⟩ ⟨rfl, trivial⟩ rfl rfl ?_
  refine AOR.pure (LT.move (v := (.s (.c (iC 1048576)))) rfl) ⟨rfl, trivial⟩ trivial rfl rfl ?_
  refine AOR.bind fun r1 hr1 => ?_
  refine AOR.pure (@LT.callF Try.prog _ _ 32 _ _ [(.agg [(iC aG.Points), (.pv (.xs false (aG.Bars.map encTBar)))]), (.c (iC 1048576))] _ _ [] _ _ _ _ (w_laws_szGraph aG 1048576 r1 hr1) rfl cb32 (.cons (.agg (.cons (.same rfl) (.cons (.same rfl) .nil))) (.cons (.c (.same rfl)) .nil)) rfl rfl trivial) ⟨rfl, rfl, rfl, trivial⟩ trivial rfl rfl ?_
  refine AOR.pure (LT.assign (v := (.s (.c (iC r1)))) rfl) ⟨rfl, trivial⟩ trivial rfl rfl ?_
  refine AOR.nil ?_
  refine AWR.seq ?_
  refine AWR.seq ?_
  refine AWR.region ?_
  refine AOR.pure (LT.move (v := (.s (.c (iC r1)))) rfl) ⟨rfl, trivial⟩ trivial rfl rfl ?_
  refine AOR.pure (LT.lss rfl) ⟨rfl, ⟨rfl, rfl⟩, trivial⟩ trivial rfl rfl ?_
  refine AOR.nil ?_
  refine AWR.cond rfl (fun hc2 => ?_) (fun hc2 => ?_)
  · refine AWR.seq ?_
    refine AWR.ent (Ent.of (σ' := []) (m' := []) trivial trivial) ?_
    refine AWR.region ?_
    refine AOR.pure (LT.assign (v := (.s (.c (bC true)))) rfl) ⟨⟨rfl, rfl⟩, trivial⟩ trivial rfl rfl ?_
    refine AOR.nil ?_
    refine AWR.ret (FPost.mk (.inr rfl) ⟨rfl, trivial⟩ trivial rfl ⟨PermP.sc, trivial⟩ trivial)
  · refine AWR.skip ?_
    refine AWR.seq ?_
    refine AWR.ent (Ent.of (σ' := [(1, (.s (.c (.pl 21 0))))]) (m' := [(21, (.row 24 [[(iC aG.Points), (.pv (.xs false (aG.Bars.map encTBar)))]]))]) ⟨rfl, trivial⟩ ⟨rfl, trivial⟩) ?_
    refine AWR.region ?_
    refine AOR.pure (LT.bloadN (out := [(iC aG.Points), (.pv (.xs false (aG.Bars.map encTBar)))]) rfl ag24 (infS inf24) sz24 (by exact rfl) (by exact rfl)) ⟨rfl, trivial⟩ ⟨rfl, trivial⟩ rfl rfl ?_
    refine AOR.bind fun r3 hr3 => ?_
    refine AOR.step (@LT.callF Try.prog _ _ 34 _ _ [(.agg [(iC aG.Points), (.pv (.xs false (aG.Bars.map encTBar)))])] _ _ [] _ _ _ _ ((show Fw.Fn Try.prog 34 [(.agg [(iC aG.Points), (.pv (.xs false (aG.Bars.map encTBar)))])] [] (.s (.agg [(iC r3.Points), (.loc 24 0 r3.Bars.length)])) [(24, (.prow 69 (r3.Bars.map encTBar)))] [] [24] from Fw.Fn.ren [(0, 24)] (w_laws_toGraph aG r3 hr3) rfl)) rfl cb34 (.cons (.agg (.cons (.same rfl) (.cons (.same rfl) .nil))) .nil) rfl rfl trivial) ⟨rfl, rfl, trivial⟩ trivial rfl rfl ?_
    refine AOR.bind fun r4 hr4 => ?_
    refine AOR.pure (@LT.callF Try.prog _ _ 41 _ _ [(.agg [(iC r3.Points), (.loc 24 0 r3.Bars.length)])] _ _ [(24, (.prow 69 (r3.Bars.map encTBar)))] _ _ _ _ (w_spec_HingeFreedom r3 r4 hr4) rfl cb41 (.cons (.agg (.cons (.same rfl) (.cons (.tloc rfl rfl) .nil))) .nil) rfl rfl trivial) ⟨rfl, rfl, trivial⟩ ⟨rfl, trivial⟩ rfl rfl ?_
    refine AOR.pure (LT.assign (v := (.s (.c (iC r4)))) rfl) ⟨rfl, trivial⟩ trivial rfl rfl ?_
    refine AOR.nil ?_
    refine AWR.seq ?_
    refine AWR.region ?_
    refine AOR.pure (LT.bloadN (out := [(iC aG.Points), (.pv (.xs false (aG.Bars.map encTBar)))]) rfl ag24 (infS inf24) sz24 (by exact rfl) (by exact rfl)) ⟨rfl, trivial⟩ ⟨rfl, trivial⟩ rfl rfl ?_
    refine AOR.bind fun r5 hr5 => ?_
    refine AOR.step (@LT.callF Try.prog _ _ 34 _ _ [(.agg [(iC aG.Points), (.pv (.xs false (aG.Bars.map encTBar)))])] _ _ [] _ _ _ _ ((show Fw.Fn Try.prog 34 [(.agg [(iC aG.Points), (.pv (.xs false (aG.Bars.map encTBar)))])] [] (.s (.agg [(iC r5.Points), (.loc 27 0 r5.Bars.length)])) [(27, (.prow 69 (r5.Bars.map encTBar)))] [] [27] from Fw.Fn.ren [(0, 27)] (w_laws_toGraph aG r5 hr5) rfl)) rfl cb34 (.cons (.agg (.cons (.same rfl) (.cons (.same rfl) .nil))) .nil) rfl rfl trivial) ⟨rfl, rfl, trivial⟩ trivial rfl rfl ?_
    refine AOR.step (LT.alloc (n := 28) (cells := [(iC 0), (sC nilV)]) rfl ti34 rfl rfl rfl) trivial trivial rfl rfl ?_
    refine AOR.step (LT.bstore (v := (.agg [(iC r5.Points), (.loc 27 0 r5.Bars.length)])) (out := [(iC r5.Points), (.loc 27 0 r5.Bars.length)]) rfl rfl (infS inf34) sz34 (by exact rfl) (by exact Nat.le_of_ble_eq_true rfl) (by exact rfl)) ⟨rfl, rfl, trivial⟩ ⟨rfl, trivial⟩ rfl rfl ?_
    refine AOR.nil ?_
    refine AWR.seq ?_
    refine AWR.ent (Ent.of (σ' := [(1, (.s (.c (.pl 21 0)))), (4, (.s (.c (iC r4)))), (5, (.s (.c (.pl 28 0))))]) (m' := [(21, (.row 24 [[(iC aG.Points), (.pv (.xs false (aG.Bars.map encTBar)))]])), (27, (.prow 69 (r5.Bars.map encTBar))), (28, (.row 34 [[(iC r5.Points), (.loc 27 0 r5.Bars.length)]]))]) ⟨rfl, rfl, rfl, trivial⟩ ⟨rfl, rfl, rfl, trivial⟩) ?_
    refine AWR.region ?_
    refine AOR.pure (LT.bloadN (out := [(iC r5.Points), (.loc 27 0 r5.Bars.length)]) rfl ag34 (infS inf34) sz34 (by exact rfl) (by exact rfl)) ⟨rfl, trivial⟩ ⟨rfl, trivial⟩ rfl rfl ?_
    refine AOR.bind fun r6 hr6 => ?_
    refine AOR.pure (@LT.callF Try.prog _ _ 42 _ _ [(.agg [(iC r5.Points), (.loc 27 0 r5.Bars.length)])] _ _ [(27, (.prow 69 (r5.Bars.map encTBar)))] _ _ _ _ (w_impl_HingeFreedom r5 r6 hr6) rfl cb42 (.cons (.agg (.cons (.same rfl) (.cons (.tloc rfl rfl) .nil))) .nil) rfl rfl trivial) ⟨rfl, rfl, trivial⟩ ⟨rfl, trivial⟩ rfl rfl ?_
    refine AOR.pure (LT.assign (v := (.s (.c (iC r6)))) rfl) ⟨rfl, trivial⟩ trivial rfl rfl ?_
    refine AOR.nil ?_
    refine AWR.seq ?_
    refine AWR.seq ?_
    refine AWR.region ?_
    refine AOR.pure (LT.move (v := (.s (.c (iC r6)))) rfl) ⟨rfl, trivial⟩ trivial rfl rfl ?_
    refine AOR.pure (LT.move (v := (.s (.c (iC r4)))) rfl) ⟨rfl, trivial⟩ trivial rfl rfl ?_
    refine AOR.pure (LT.neq rfl) ⟨rfl, rfl, trivial⟩ trivial rfl rfl ?_
    refine AOR.nil ?_
    refine AWR.cond rfl (fun hc7 => ?_) (fun hc7 => ?_)
    · refine AWR.seq ?_
      refine AWR.region ?_
      refine AOR.pure (LT.assign (v := (.s (.c (bC false)))) rfl) ⟨⟨rfl, rfl⟩, trivial⟩ trivial rfl rfl ?_
      refine AOR.nil ?_
      refine AWR.ret (FPost.mk (.inr rfl) ⟨rfl, trivial⟩ trivial rfl ⟨PermP.sc, trivial⟩ trivial)
    · refine AWR.skip ?_
      refine AWR.seq ?_
      refine AWR.seq ?_
      refine AWR.draw mixed ?_
      refine AOD.pure (LT.bloadN (out := [(iC r5.Points), (.loc 27 0 r5.Bars.length)]) rfl ag34 (infS inf34) sz34 (by exact rfl) (by exact rfl)) ⟨rfl, trivial⟩ ⟨rfl, trivial⟩ rfl rfl ?_
      refine AOD.pure (LT.bloadN (out := [(iC aG.Points), (.pv (.xs false (aG.Bars.map encTBar)))]) rfl ag24 (infS inf24) sz24 (by exact rfl) (by exact rfl)) ⟨rfl, trivial⟩ ⟨rfl, trivial⟩ rfl rfl ?_
      refine AOD.bind fun r8 hr8 => ?_
      refine AOD.step (@LT.callF Try.prog _ _ 34 _ _ [(.agg [(iC aG.Points), (.pv (.xs false (aG.Bars.map encTBar)))])] _ _ [] _ _ _ _ ((show Fw.Fn Try.prog 34 [(.agg [(iC aG.Points), (.pv (.xs false (aG.Bars.map encTBar)))])] [] (.s (.agg [(iC r8.Points), (.loc 31 0 r8.Bars.length)])) [(31, (.prow 69 (r8.Bars.map encTBar)))] [] [31] from Fw.Fn.ren [(0, 31)] (w_laws_toGraph aG r8 hr8) rfl)) rfl cb34 (.cons (.agg (.cons (.same rfl) (.cons (.same rfl) .nil))) .nil) rfl rfl trivial) ⟨rfl, rfl, trivial⟩ trivial rfl rfl ?_
      refine AOD.bind fun r9 hr9 => ?_
      refine AOD.pure (@LT.callF Try.prog _ _ 36 _ _ [(.agg [(iC r5.Points), (.loc 27 0 r5.Bars.length)]), (.agg [(iC r8.Points), (.loc 31 0 r8.Bars.length)])] _ _ [(27, (.prow 69 (r5.Bars.map encTBar))), (31, (.prow 69 (r8.Bars.map encTBar)))] _ _ _ _ (w_laws_eqGraph r5 r8 r9 hr9) rfl cb36 (.cons (.agg (.cons (.same rfl) (.cons (.tloc rfl rfl) .nil))) (.cons (.agg (.cons (.same rfl) (.cons (.tloc rfl rfl) .nil))) .nil)) rfl rfl trivial) ⟨rfl, rfl, rfl, trivial⟩ ⟨rfl, rfl, trivial⟩ rfl rfl ?_
      refine AOD.pure (LT.not rfl) ⟨rfl, trivial⟩ trivial rfl rfl ?_
      refine AOD.nil (by kernel_rfl) ?_
      refine AWR.cond rfl (fun hc10 => ?_) (fun hc10 => ?_)
      · refine AWR.seq ?_
        refine AWR.ent (Ent.of (σ' := []) (m' := []) trivial trivial) ?_
        refine AWR.region ?_
        refine AOR.pure (LT.assign (v := (.s (.c (bC false)))) rfl) ⟨⟨rfl, rfl⟩, trivial⟩ trivial rfl rfl ?_
        refine AOR.nil ?_
        refine AWR.ret (FPost.mk (.inr rfl) ⟨rfl, trivial⟩ trivial rfl ⟨PermP.sc, trivial⟩ trivial)
      · refine AWR.skip ?_
        refine AWR.seq ?_
        refine AWR.ent (Ent.of (σ' := []) (m' := []) trivial trivial) ?_
        refine AWR.region ?_
        refine AOR.pure (LT.assign (v := (.s (.c (bC true)))) rfl) ⟨⟨rfl, rfl⟩, trivial⟩ trivial rfl rfl ?_
        refine AOR.nil ?_
        refine AWR.ret (FPost.mk (.inr rfl) ⟨rfl, trivial⟩ trivial rfl ⟨PermP.sc, trivial⟩ trivial)
end Go.Proofs.Ytoedmjkipecloaa
