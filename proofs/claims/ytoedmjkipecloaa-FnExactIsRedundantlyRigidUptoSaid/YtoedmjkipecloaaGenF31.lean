/- The code computes the models. Written by a program of mine. -/
import Derived.Test.YtoedmjkipecloaaGenF5
import Derived.Test.YtoedmjkipecloaaGenF10
import Derived.Test.YtoedmjkipecloaaGenF23
import Derived.Test.YtoedmjkipecloaaGenF24
set_option linter.unusedVariables false
set_option linter.unusedSimpArgs false
set_option linter.unnecessarySimpa false
open Go Go.Fw
namespace Go.Proofs.Ytoedmjkipecloaa
set_option maxRecDepth 100000 in
set_option maxHeartbeats 8000000 in
theorem w_spec_RemoveBar (g : TGraph) (k : Int) : ∀ t, m_spec_RemoveBar g k = some t → Fw.Fn Try.prog 114 [(.agg [(iC g.Points), (.pv (.xs false (g.Bars.map encTBar)))]), (.c (iC k))] [] (resA [(.agg [(iC t.1.Points), (.loc 0 0 t.1.Bars.length)]), (.c (bC t.2))]) [(0, (.prow 69 (t.1.Bars.map encTBar)))] [] [0] := by
  refine Fw.Fn.of (P := Try.prog) (X := [0]) (pn := []) (rs := (fun (t : (TGraph × Bool)) => [(.agg [(iC t.1.Points), (.loc 0 0 t.1.Bars.length)]), (.c (bC t.2))])) (dfs := (fun (t : (TGraph × Bool)) => [(0, (.prow 69 (t.1.Bars.map encTBar)))])) Try.func114 rfl Try.ntmps114 (Nat.le_of_ble_eq_true rfl) rfl ?_
  intro w0 U0 R0 g0
  unfold m_spec_RemoveBar
  refine AWR.seq ?_
  refine AWR.region ?_
  refine AOR.step (LT.box (n := 21) (v := (.agg [(iC g.Points), (.pv (.xs false (g.Bars.map encTBar)))])) rfl sz34 (by exact rfl)) ⟨rfl, trivial⟩ trivial rfl rfl ?_
  refine AOR.step (LT.alloc (n := 22) (cells := [(iC 0), (sC nilV)]) rfl ti34 rfl rfl rfl) trivial trivial rfl rfl ?_
  refine AOR.pure (LT.assign (v := (.s (.c (bC false)))) rfl) ⟨⟨rfl, rfl⟩, trivial⟩ trivial rfl rfl ?_
  refine AOR.nil ?_
  refine AWR.seq ?_
  refine AWR.seq ?_
  refine AWR.joinK (fun j4 => ([(1, (.s (.c (iC k)))), (2, (.s (.c (.pl 21 0)))), (4, (.s (.c (.pl 22 0)))), (19, (.s (.c (bC j4))))], [(21, (.row 34 [[(iC g.Points), (.pv (.xs false (g.Bars.map encTBar)))]])), (22, (.row 34 [[(iC 0), (sC nilV)]]))])) ?_ (fun j4 _ => ?_)
  · refine AWR.region ?_
    refine AOR.pure (LT.bloadN (out := [(iC g.Points), (.pv (.xs false (g.Bars.map encTBar)))]) rfl ag34 (infS inf34) sz34 (by exact rfl) (by exact rfl)) ⟨rfl, trivial⟩ ⟨rfl, trivial⟩ rfl rfl ?_
    refine AOR.bind fun r5 hr5 => ?_
    refine AOR.pure (@LT.callF Try.prog _ _ 76 _ _ [(.agg [(iC g.Points), (.pv (.xs false (g.Bars.map encTBar)))])] _ _ [] _ _ _ _ (w_spec_IsGraph g r5 hr5) rfl cb76 (.cons (.agg (.cons (.same rfl) (.cons (.same rfl) .nil))) .nil) rfl rfl trivial) ⟨rfl, rfl, trivial⟩ trivial rfl rfl ?_
    refine AOR.pure (LT.not rfl) ⟨rfl, trivial⟩ trivial rfl rfl ?_
    refine AOR.pure (LT.move (v := (.s (.c (bC (!r5))))) rfl) ⟨rfl, trivial⟩ trivial rfl rfl ?_
    refine AOR.split (fun hb6 => ?_) (fun hb6 => ?_)
    · refine AOR.skip ⟨_, rfl, .inl ⟨_, rfl, (by rw [hb6]; rfl)⟩⟩ rfl ?_
      refine AOR.skip ⟨_, rfl, .inl ⟨_, rfl, (by rw [hb6]; rfl)⟩⟩ rfl ?_
      refine AOR.pure (LT.pickT (v := (.s (.c (bC true)))) rfl hb6) ⟨rfl, ⟨rfl, rfl⟩, trivial⟩ trivial rfl rfl ?_
      refine AOR.pure (LT.move (v := (.s (.c (bC true)))) rfl) ⟨rfl, trivial⟩ trivial rfl rfl ?_
      refine AOR.skip ⟨_, rfl, .inl ⟨_, rfl, rfl⟩⟩ rfl ?_
      refine AOR.skip ⟨_, rfl, .inl ⟨_, rfl, rfl⟩⟩ rfl ?_
      refine AOR.skip ⟨_, rfl, .inl ⟨_, rfl, rfl⟩⟩ rfl ?_
      refine AOR.skip ⟨_, rfl, .inl ⟨_, rfl, rfl⟩⟩ rfl ?_
      refine AOR.skip ⟨_, rfl, .inl ⟨_, rfl, rfl⟩⟩ rfl ?_
      refine AOR.pure (LT.pickT (v := (.s (.c (bC true)))) rfl rfl) ⟨rfl, ⟨rfl, rfl⟩, trivial⟩ trivial rfl rfl ?_
      refine AOR.nil ?_
      refine AWR.nil ⟨rfl, Ent.of ⟨rfl, rfl, rfl, rfl, trivial⟩ ⟨rfl, rfl, trivial⟩⟩
    · refine AOR.pure (LT.move (v := (.s (.c (iC k)))) rfl) ⟨rfl, trivial⟩ trivial ⟨_, rfl, .inl ⟨_, rfl, (by rw [hb6]; rfl)⟩⟩ rfl ?_
      refine AOR.pure (LT.lss rfl) ⟨rfl, ⟨rfl, rfl⟩, trivial⟩ trivial ⟨_, rfl, .inl ⟨_, rfl, (by rw [hb6]; rfl)⟩⟩ rfl ?_
      refine AOR.pure (LT.pickF (v := (.s (.c (bC (decide (k < 0)))))) rfl hb6) ⟨rfl, rfl, trivial⟩ trivial rfl rfl ?_
      refine AOR.pure (LT.move (v := (.s (.c (bC (decide (k < 0)))))) rfl) ⟨rfl, trivial⟩ trivial rfl rfl ?_
      refine AOR.split (fun hb7 => ?_) (fun hb7 => ?_)
      · refine AOR.skip ⟨_, rfl, .inl ⟨_, rfl, (by rw [hb7]; rfl)⟩⟩ rfl ?_
        refine AOR.skip ⟨_, rfl, .inl ⟨_, rfl, (by rw [hb7]; rfl)⟩⟩ rfl ?_
        refine AOR.skip ⟨_, rfl, .inl ⟨_, rfl, (by rw [hb7]; rfl)⟩⟩ rfl ?_
        refine AOR.skip ⟨_, rfl, .inl ⟨_, rfl, (by rw [hb7]; rfl)⟩⟩ rfl ?_
        refine AOR.skip ⟨_, rfl, .inl ⟨_, rfl, (by rw [hb7]; rfl)⟩⟩ rfl ?_
        refine AOR.pure (LT.pickT (v := (.s (.c (bC true)))) rfl hb7) ⟨rfl, ⟨rfl, rfl⟩, trivial⟩ trivial rfl rfl ?_
        refine AOR.nil ?_
        refine AWR.nil ⟨rfl, Ent.of ⟨rfl, rfl, rfl, rfl, trivial⟩ ⟨rfl, rfl, trivial⟩⟩
      · refine AOR.pure (LT.move (v := (.s (.c (iC k)))) rfl) ⟨rfl, trivial⟩ trivial ⟨_, rfl, .inl ⟨_, rfl, (by rw [hb7]; rfl)⟩⟩ rfl ?_
        refine AOR.pure (LT.fieldPl rfl fo34_1) ⟨rfl, trivial⟩ trivial ⟨_, rfl, .inl ⟨_, rfl, (by rw [hb7]; rfl)⟩⟩ rfl ?_
        refine AOR.pure (LT.bload1 (c := (.pv (.xs false (g.Bars.map encTBar)))) rfl ag32 (by exact rfl)) ⟨rfl, trivial⟩ ⟨rfl, trivial⟩ ⟨_, rfl, .inl ⟨_, rfl, (by rw [hb7]; rfl)⟩⟩ rfl ?_
        refine AOR.pure (LT.tlenRO rfl und32) ⟨rfl, trivial⟩ trivial ⟨_, rfl, .inl ⟨_, rfl, (by rw [hb7]; rfl)⟩⟩ rfl ?_
        refine AOR.pure (LT.geq rfl) ⟨rfl, rfl, trivial⟩ trivial ⟨_, rfl, .inl ⟨_, rfl, (by rw [hb7]; rfl)⟩⟩ rfl ?_
        refine AOR.pure (LT.pickF (v := (.s (.c (bC (decide ((g.Bars.length : Int) ≤ k)))))) rfl hb7) ⟨rfl, rfl, trivial⟩ trivial rfl rfl ?_
        refine AOR.nil ?_
        refine AWR.nil ⟨rfl, Ent.of ⟨rfl, rfl, rfl, rfl, trivial⟩ ⟨rfl, rfl, trivial⟩⟩
  · refine AWR.cond rfl (fun hc8 => ?_) (fun hc8 => ?_)
    · refine AWR.seq ?_
      refine AWR.region ?_
      refine AOR.pure (LT.bloadN (out := [(iC g.Points), (.pv (.xs false (g.Bars.map encTBar)))]) rfl ag34 (infS inf34) sz34 (by exact rfl) (by exact rfl)) ⟨rfl, trivial⟩ ⟨rfl, trivial⟩ rfl rfl ?_
      refine AOR.bind fun r9 hr9 => ?_
      refine AOR.step (@LT.callF Try.prog _ _ 119 _ _ [(.agg [(iC g.Points), (.pv (.xs false (g.Bars.map encTBar)))])] _ _ [] _ _ _ _ ((show Fw.Fn Try.prog 119 [(.agg [(iC g.Points), (.pv (.xs false (g.Bars.map encTBar)))])] [] (.s (.agg [(iC r9.Points), (.loc 25 0 r9.Bars.length)])) [(25, (.prow 69 (r9.Bars.map encTBar)))] [] [25] from Fw.Fn.ren [(0, 25)] (w_spec_l2Copy g r9 hr9) rfl)) rfl cb119 (.cons (.agg (.cons (.same rfl) (.cons (.same rfl) .nil))) .nil) rfl rfl trivial) ⟨rfl, rfl, trivial⟩ trivial rfl rfl ?_
      refine AOR.step (LT.bstore (v := (.agg [(iC r9.Points), (.loc 25 0 r9.Bars.length)])) (out := [(iC r9.Points), (.loc 25 0 r9.Bars.length)]) rfl rfl (infS inf34) sz34 (by exact rfl) (by exact Nat.le_of_ble_eq_true rfl) (by exact rfl)) ⟨rfl, rfl, trivial⟩ ⟨rfl, trivial⟩ rfl rfl ?_
      refine AOR.pure (LT.assign (v := (.s (.c (bC false)))) rfl) ⟨⟨rfl, rfl⟩, trivial⟩ trivial rfl rfl ?_
      refine AOR.nil ?_
      refine AWR.ent (Ent.of (σ' := [(4, (.s (.c (.pl 22 0)))), (5, (.s (.c (bC false))))]) (m' := [(22, (.row 34 [[(iC r9.Points), (.loc 25 0 r9.Bars.length)]])), (25, (.prow 69 (r9.Bars.map encTBar)))]) ⟨rfl, rfl, trivial⟩ ⟨rfl, rfl, trivial⟩) ?_
      refine AWR.ent (Ent.mv 25 0 rfl rfl) ?_
      refine AWR.ent (Ent.of (σ' := [(4, (.s (.c (.pl 22 0)))), (5, (.s (.c (bC false))))]) (m' := [(0, (.prow 69 (r9.Bars.map encTBar))), (22, (.row 34 [[(iC r9.Points), (.loc 0 0 r9.Bars.length)]]))]) ⟨rfl, rfl, trivial⟩ ⟨rfl, rfl, trivial⟩) ?_
      refine AWR.ret (FPost.mk (.inr rfl) ⟨⟨_, _, _, rfl, rfl, rfl, ag34, sz34, _, (infS inf34)⟩, rfl, trivial⟩ ⟨rfl, trivial⟩ rfl ⟨⟨PermP.sc, trivial, trivial⟩, PermP.sc, trivial⟩ ⟨PermO.prow' perm_encTBar, trivial⟩)
    · refine AWR.skip ?_
      refine AWR.seq ?_
      refine AWR.draw mixed ?_
      refine AOD.pure (LT.fieldPl rfl fo34_0) ⟨rfl, trivial⟩ trivial rfl rfl ?_
      refine AOD.pure (LT.bload1 (c := (iC g.Points)) rfl ag3 (by exact rfl)) ⟨rfl, trivial⟩ ⟨rfl, trivial⟩ rfl rfl ?_
      refine AOD.step (LT.tbuildSlice (n := 26) (enc := encTBar) [] ([] : List TBar) rfl rfl und32 ti69 rfl rfl rfl rfl (by decide) (fun _ => rfl) rfl) trivial trivial rfl rfl ?_
      refine AOD.pure (LT.fieldPl rfl fo34_1) ⟨rfl, trivial⟩ trivial rfl rfl ?_
      refine AOD.pure (LT.bload1 (c := (.pv (.xs false (g.Bars.map encTBar)))) rfl ag32 (by exact rfl)) ⟨rfl, trivial⟩ ⟨rfl, trivial⟩ rfl rfl ?_
      refine AOD.pure (LT.move (v := (.s (.c (iC k)))) rfl) ⟨rfl, trivial⟩ trivial rfl rfl ?_
      refine AOD.bind fun v10 hv10 => ?_
      refine AOD.pure (LT.tsliceRO (enc := encTBar) (blo := none) (bhi := (some (.tmp 27, k))) (l := 0) (h := k.toNat) rfl rfl rfl und32 inf69 (fun _ => by rw [sz69]; rfl) (.inr ⟨rfl, rfl⟩) (.inl ⟨_, _, rfl, Int.le_trans (slc_spec hv10).1 (slc_spec hv10).2.1, rfl⟩) (slc_lh hv10) (slc_hl hv10)) ⟨rfl, rfl, trivial⟩ trivial rfl rfl ?_
      refine AOD.bind fun u11 hu11 => ?_
      refine AOD.step (LT.tappRO (enc := encTBar) rfl  rfl und32 ti69 rfl (by decide) (by decide) (fun _ => rfl) (lim_le hu11)) ⟨rfl, rfl, trivial⟩ ⟨rfl, trivial⟩ rfl rfl ?_
      refine AOD.pure (LT.fieldPl rfl fo34_1) ⟨rfl, trivial⟩ trivial rfl rfl ?_
      refine AOD.pure (LT.bload1 (c := (.pv (.xs false (g.Bars.map encTBar)))) rfl ag32 (by exact rfl)) ⟨rfl, trivial⟩ ⟨rfl, trivial⟩ rfl rfl ?_
      refine AOD.pure (LT.move (v := (.s (.c (iC k)))) rfl) ⟨rfl, trivial⟩ trivial rfl rfl ?_
      refine AOD.pure (LT.add rfl) ⟨rfl, ⟨rfl, rfl⟩, trivial⟩ trivial rfl rfl ?_
      refine AOD.bind fun v12 hv12 => ?_
      refine AOD.pure (LT.tsliceRO (enc := encTBar) (blo := (some (.tmp 33, (w64 (k + 1))))) (bhi := none) (l := (w64 (k + 1)).toNat) (h := g.Bars.length) rfl rfl rfl und32 inf69 (fun _ => by rw [sz69]; rfl) (.inl ⟨_, _, rfl, (slc_spec hv12).1, rfl⟩) (.inr ⟨rfl, rfl⟩) (slc_lh hv12) (slc_hl hv12)) ⟨rfl, rfl, trivial⟩ trivial rfl rfl ?_
      refine AOD.bind fun u13 hu13 => ?_
      refine AOD.step (LT.tappRO (enc := encTBar) rfl  rfl und32 ti69 rfl (by decide) (by decide) (fun _ => rfl) (lim_le hu13)) ⟨rfl, rfl, trivial⟩ ⟨rfl, trivial⟩ rfl rfl ?_
      refine AOD.pure (LT.build [(0, .tmp 23, (.c (iC g.Points))), (1, .tmp 35, (.c (.loc 26 0 ((([] : List TBar) ++ ((g.Bars.take k.toNat).drop 0)) ++ ((g.Bars.take g.Bars.length).drop ((w64 (k + 1)).toNat))).length)))] rfl rfl pl34 ti34 rfl rfl rfl) ⟨rfl, rfl, trivial⟩ trivial rfl rfl ?_
      refine AOD.step (LT.bstore (v := (.agg [(iC g.Points), (.loc 26 0 ((([] : List TBar) ++ ((g.Bars.take k.toNat).drop 0)) ++ ((g.Bars.take g.Bars.length).drop ((w64 (k + 1)).toNat))).length)])) (out := [(iC g.Points), (.loc 26 0 ((([] : List TBar) ++ ((g.Bars.take k.toNat).drop 0)) ++ ((g.Bars.take g.Bars.length).drop ((w64 (k + 1)).toNat))).length)]) rfl rfl (infS inf34) sz34 (by exact rfl) (by exact Nat.le_of_ble_eq_true rfl) (by exact rfl)) ⟨rfl, rfl, trivial⟩ ⟨rfl, trivial⟩ rfl rfl ?_
      refine AOD.pure (LT.assign (v := (.s (.c (bC true)))) rfl) ⟨⟨rfl, rfl⟩, trivial⟩ trivial rfl rfl ?_
      refine AOD.nil (by kernel_rfl) ?_
      refine AWR.ent (Ent.of (σ' := [(4, (.s (.c (.pl 22 0)))), (5, (.s (.c (bC true))))]) (m' := [(22, (.row 34 [[(iC g.Points), (.loc 26 0 ((([] : List TBar) ++ ((g.Bars.take k.toNat).drop 0)) ++ ((g.Bars.take g.Bars.length).drop ((w64 (k + 1)).toNat))).length)]])), (26, (.prow 69 (((([] : List TBar) ++ ((g.Bars.take k.toNat).drop 0)) ++ ((g.Bars.take g.Bars.length).drop ((w64 (k + 1)).toNat))).map encTBar)))]) ⟨rfl, rfl, trivial⟩ ⟨rfl, rfl, trivial⟩) ?_
      refine AWR.ent (Ent.mv 26 0 rfl rfl) ?_
      refine AWR.ent (Ent.of (σ' := [(4, (.s (.c (.pl 22 0)))), (5, (.s (.c (bC true))))]) (m' := [(0, (.prow 69 (((([] : List TBar) ++ ((g.Bars.take k.toNat).drop 0)) ++ ((g.Bars.take g.Bars.length).drop ((w64 (k + 1)).toNat))).map encTBar))), (22, (.row 34 [[(iC g.Points), (.loc 0 0 ((([] : List TBar) ++ ((g.Bars.take k.toNat).drop 0)) ++ ((g.Bars.take g.Bars.length).drop ((w64 (k + 1)).toNat))).length)]]))]) ⟨rfl, rfl, trivial⟩ ⟨rfl, rfl, trivial⟩) ?_
      refine AWR.ret (FPost.mk (.inr rfl) ⟨⟨_, _, _, rfl, rfl, rfl, ag34, sz34, _, (infS inf34)⟩, rfl, trivial⟩ ⟨rfl, trivial⟩ rfl ⟨⟨PermP.sc, trivial, trivial⟩, PermP.sc, trivial⟩ ⟨PermO.prow' perm_encTBar, trivial⟩)
set_option maxRecDepth 100000 in
set_option maxHeartbeats 8000000 in
theorem w_spec_BridgesOf (g : TGraph) (k : Int) (l : Int) : ∀ t, m_spec_BridgesOf g k l = some t → Fw.Fn Try.prog 80 [(.agg [(iC g.Points), (.pv (.xs false (g.Bars.map encTBar)))]), (.c (iC k)), (.c (iC l))] [] (.s (.c (.loc 0 0 t.length))) [(0, (.prow 3 (t.map encInt)))] [] [0] := by
  refine Fw.Fn.of (P := Try.prog) (X := [0]) (pn := []) (rs := (fun (t : (List Int)) => [(.c (.loc 0 0 t.length))])) (dfs := (fun (t : (List Int)) => [(0, (.prow 3 (t.map encInt)))])) Try.func80 rfl Try.ntmps80 (Nat.le_of_ble_eq_true rfl) rfl ?_
  intro w0 U0 R0 g0
  unfold m_spec_BridgesOf
  refine AWR.seq ?_
  refine AWR.region ?_
  refine AOR.step (LT.box (n := 21) (v := (.agg [(iC g.Points), (.pv (.xs false (g.Bars.map encTBar)))])) rfl sz34 (by exact rfl)) ⟨rfl, trivial⟩ trivial rfl rfl ?_
  refine AOR.pure (LT.assign (v := (.s (.c (sC nilV)))) rfl) ⟨⟨rfl, rfl⟩, trivial⟩ trivial rfl rfl ?_
  refine AOR.nil ?_
  refine AWR.seq ?_
  refine AWR.region ?_
  refine AOR.step (LT.tbuildSlice (n := 22) (enc := encInt) [] ([] : List Int) rfl rfl und28 ti3 rfl rfl rfl rfl (by decide) (fun _ => rfl) rfl) trivial trivial rfl rfl ?_
  refine AOR.pure (LT.assign (v := (.s (.c (.loc 22 0 ([] : List Int).length)))) rfl) ⟨rfl, trivial⟩ trivial rfl rfl ?_
  refine AOR.nil ?_
  refine AWR.seq ?_
  refine AWR.region ?_
  refine AOR.pure (LT.bloadN (out := [(iC g.Points), (.pv (.xs false (g.Bars.map encTBar)))]) rfl ag34 (infS inf34) sz34 (by exact rfl) (by exact rfl)) ⟨rfl, trivial⟩ ⟨rfl, trivial⟩ rfl rfl ?_
  refine AOR.pure (LT.move (v := (.s (.c (iC k)))) rfl) ⟨rfl, trivial⟩ trivial rfl rfl ?_
  refine AOR.pure (LT.move (v := (.s (.c (iC l)))) rfl) ⟨rfl, trivial⟩ trivial rfl rfl ?_
  refine AOR.bind fun r1 hr1 => ?_
  refine AOR.pure (@LT.callF Try.prog _ _ 72 _ _ [(.agg [(iC g.Points), (.pv (.xs false (g.Bars.map encTBar)))]), (.c (iC k)), (.c (iC l))] _ _ [] _ _ _ _ (w_spec_RankOf g k l r1 hr1) rfl cb72 (.cons (.agg (.cons (.same rfl) (.cons (.same rfl) .nil))) (.cons (.c (.same rfl)) (.cons (.c (.same rfl)) .nil))) rfl rfl trivial) ⟨rfl, rfl, rfl, rfl, trivial⟩ trivial rfl rfl ?_
  refine AOR.pure (LT.assign (v := (.s (.c (iC r1)))) rfl) ⟨rfl, trivial⟩ trivial rfl rfl ?_
  refine AOR.nil ?_
  refine AWR.seq ?_
  refine AWR.seq ?_
  refine AWR.ent (Ent.of (σ' := [(1, (.s (.c (iC k)))), (2, (.s (.c (iC l)))), (3, (.s (.c (.pl 21 0)))), (7, (.s (.c (.loc 22 0 ([] : List Int).length)))), (8, (.s (.c (iC r1))))]) (m' := [(21, (.row 34 [[(iC g.Points), (.pv (.xs false (g.Bars.map encTBar)))]])), (22, (.prow 3 (([] : List Int).map encInt)))]) ⟨rfl, rfl, rfl, rfl, rfl, trivial⟩ ⟨rfl, rfl, trivial⟩) ?_
  refine AWR.region ?_
  refine AOR.pure (LT.assign (v := (.s (.c (iC 0)))) rfl) ⟨⟨rfl, rfl⟩, trivial⟩ trivial rfl rfl ?_
  refine AOR.nil ?_
  refine AWR.block ?_
  refine AWR.loop1 (id := 0) (m_spec_BridgesOf_L1 g k l r1) (fun s2 => ([(1, (.s (.c (iC k)))), (2, (.s (.c (iC l)))), (3, (.s (.c (.pl 21 0)))), (7, (.s (.c (.loc 22 0 s2.2.length)))), (8, (.s (.c (iC r1)))), (9, (.s (.c (iC s2.1))))], [(21, (.row 34 [[(iC g.Points), (.pv (.xs false (g.Bars.map encTBar)))]])), (22, (.prow 3 (s2.2.map encInt)))])) (fun b25 => ([(7, (.s (.c (.loc 22 0 b25.length))))], [(22, (.prow 3 (b25.map encInt)))])) ?_ (Ent.of ⟨rfl, rfl, rfl, rfl, rfl, rfl, trivial⟩ ⟨rfl, rfl, trivial⟩) rfl (fun b25 _ => ?_)
  · intro s2
    unfold m_spec_BridgesOf_L1
    refine AWR.seq ?_
    refine AWR.seq ?_
    refine AWR.joinK (fun j27 => ([(1, (.s (.c (iC k)))), (2, (.s (.c (iC l)))), (3, (.s (.c (.pl 21 0)))), (7, (.s (.c (.loc 22 0 s2.2.length)))), (8, (.s (.c (iC r1)))), (9, (.s (.c (iC s2.1)))), (25, (.s (.c (bC j27))))], [(21, (.row 34 [[(iC g.Points), (.pv (.xs false (g.Bars.map encTBar)))]])), (22, (.prow 3 (s2.2.map encInt)))])) ?_ (fun j27 _ => ?_)
    · refine AWR.region ?_
      refine AOR.pure (LT.move (v := (.s (.c (iC s2.1)))) rfl) ⟨rfl, trivial⟩ trivial rfl rfl ?_
      refine AOR.pure (LT.fieldPl rfl fo34_1) ⟨rfl, trivial⟩ trivial rfl rfl ?_
      refine AOR.pure (LT.bload1 (c := (.pv (.xs false (g.Bars.map encTBar)))) rfl ag32 (by exact rfl)) ⟨rfl, trivial⟩ ⟨rfl, trivial⟩ rfl rfl ?_
      refine AOR.pure (LT.tlenRO rfl und32) ⟨rfl, trivial⟩ trivial rfl rfl ?_
      refine AOR.pure (LT.lss rfl) ⟨rfl, rfl, trivial⟩ trivial rfl rfl ?_
      refine AOR.pure (LT.move (v := (.s (.c (bC (decide (s2.1 < (g.Bars.length : Int))))))) rfl) ⟨rfl, trivial⟩ trivial rfl rfl ?_
      refine AOR.split (fun hb28 => ?_) (fun hb28 => ?_)
      · refine AOR.pure (LT.move (v := (.s (.c (iC r1)))) rfl) ⟨rfl, trivial⟩ trivial ⟨_, rfl, .inl ⟨_, rfl, (by rw [hb28]; rfl)⟩⟩ rfl ?_
        refine AOR.pure (LT.geq rfl) ⟨rfl, ⟨rfl, rfl⟩, trivial⟩ trivial ⟨_, rfl, .inl ⟨_, rfl, (by rw [hb28]; rfl)⟩⟩ rfl ?_
        refine AOR.pure (LT.pickT (v := (.s (.c (bC (decide (0 ≤ r1)))))) rfl hb28) ⟨rfl, rfl, trivial⟩ trivial rfl rfl ?_
        refine AOR.nil ?_
        refine AWR.nil ⟨rfl, Ent.of ⟨rfl, rfl, rfl, rfl, rfl, rfl, rfl, trivial⟩ ⟨rfl, rfl, trivial⟩⟩
      · refine AOR.skip ⟨_, rfl, .inl ⟨_, rfl, (by rw [hb28]; rfl)⟩⟩ rfl ?_
        refine AOR.skip ⟨_, rfl, .inl ⟨_, rfl, (by rw [hb28]; rfl)⟩⟩ rfl ?_
        refine AOR.pure (LT.pickF (v := (.s (.c (bC false)))) rfl hb28) ⟨rfl, ⟨rfl, rfl⟩, trivial⟩ trivial rfl rfl ?_
        refine AOR.nil ?_
        refine AWR.nil ⟨rfl, Ent.of ⟨rfl, rfl, rfl, rfl, rfl, rfl, rfl, trivial⟩ ⟨rfl, rfl, trivial⟩⟩
    · refine AWR.cond rfl (fun hc29 => ?_) (fun hc29 => ?_)
      · refine AWR.skip ?_
        refine AWR.seq ?_
        refine AWR.block ?_
        refine AWR.seq ?_
        refine AWR.region ?_
        refine AOR.pure (LT.bloadN (out := [(iC g.Points), (.pv (.xs false (g.Bars.map encTBar)))]) rfl ag34 (infS inf34) sz34 (by exact rfl) (by exact rfl)) ⟨rfl, trivial⟩ ⟨rfl, trivial⟩ rfl rfl ?_
        refine AOR.pure (LT.move (v := (.s (.c (iC s2.1)))) rfl) ⟨rfl, trivial⟩ trivial rfl rfl ?_
        refine AOR.bind fun r30 hr30 => ?_
        refine AOR.step (@LT.callF Try.prog _ _ 114 _ _ [(.agg [(iC g.Points), (.pv (.xs false (g.Bars.map encTBar)))]), (.c (iC s2.1))] _ _ [] _ _ _ _ ((show Fw.Fn Try.prog 114 [(.agg [(iC g.Points), (.pv (.xs false (g.Bars.map encTBar)))]), (.c (iC s2.1))] [] (.tup [(.agg [(iC r30.1.Points), (.loc 25 0 r30.1.Bars.length)]), (.c (bC r30.2))]) [(25, (.prow 69 (r30.1.Bars.map encTBar)))] [] [25] from Fw.Fn.ren [(0, 25)] (w_spec_RemoveBar g s2.1 r30 hr30) rfl)) rfl cb114 (.cons (.agg (.cons (.same rfl) (.cons (.same rfl) .nil))) (.cons (.c (.same rfl)) .nil)) rfl rfl trivial) ⟨rfl, rfl, rfl, trivial⟩ trivial rfl rfl ?_
        refine AOR.pure (LT.move (v := (.tup [(.agg [(iC r30.1.Points), (.loc 25 0 r30.1.Bars.length)]), (.c (bC r30.2))])) rfl) ⟨rfl, trivial⟩ trivial rfl rfl ?_
        refine AOR.pure (LT.extract (v := (.agg [(iC r30.1.Points), (.loc 25 0 r30.1.Bars.length)])) rfl (by exact rfl)) ⟨rfl, trivial⟩ trivial rfl rfl ?_
        refine AOR.pure (LT.extract (v := (.c (bC r30.2))) rfl (by exact rfl)) ⟨rfl, trivial⟩ trivial rfl rfl ?_
        refine AOR.step (LT.alloc (n := 26) (cells := [(iC 0), (sC nilV)]) rfl ti34 rfl rfl rfl) trivial trivial rfl rfl ?_
        refine AOR.step (LT.bstore (v := (.agg [(iC r30.1.Points), (.loc 25 0 r30.1.Bars.length)])) (out := [(iC r30.1.Points), (.loc 25 0 r30.1.Bars.length)]) rfl rfl (infS inf34) sz34 (by exact rfl) (by exact Nat.le_of_ble_eq_true rfl) (by exact rfl)) ⟨rfl, rfl, trivial⟩ ⟨rfl, trivial⟩ rfl rfl ?_
        refine AOR.pure (LT.assign (v := (.s (.c (bC r30.2)))) rfl) ⟨rfl, trivial⟩ trivial rfl rfl ?_
        refine AOR.nil ?_
        refine AWR.seq ?_
        refine AWR.ent (Ent.of (σ' := [(1, (.s (.c (iC k)))), (2, (.s (.c (iC l)))), (3, (.s (.c (.pl 21 0)))), (7, (.s (.c (.loc 22 0 s2.2.length)))), (8, (.s (.c (iC r1)))), (9, (.s (.c (iC s2.1)))), (10, (.s (.c (.pl 26 0))))]) (m' := [(21, (.row 34 [[(iC g.Points), (.pv (.xs false (g.Bars.map encTBar)))]])), (22, (.prow 3 (s2.2.map encInt))), (25, (.prow 69 (r30.1.Bars.map encTBar))), (26, (.row 34 [[(iC r30.1.Points), (.loc 25 0 r30.1.Bars.length)]]))]) ⟨rfl, rfl, rfl, rfl, rfl, rfl, rfl, trivial⟩ ⟨rfl, rfl, rfl, rfl, trivial⟩) ?_
        refine AWR.region ?_
        refine AOR.pure (LT.bloadN (out := [(iC r30.1.Points), (.loc 25 0 r30.1.Bars.length)]) rfl ag34 (infS inf34) sz34 (by exact rfl) (by exact rfl)) ⟨rfl, trivial⟩ ⟨rfl, trivial⟩ rfl rfl ?_
        refine AOR.pure (LT.move (v := (.s (.c (iC k)))) rfl) ⟨rfl, trivial⟩ trivial rfl rfl ?_
        refine AOR.pure (LT.move (v := (.s (.c (iC l)))) rfl) ⟨rfl, trivial⟩ trivial rfl rfl ?_
        refine AOR.bind fun r31 hr31 => ?_
        refine AOR.pure (@LT.callF Try.prog _ _ 72 _ _ [(.agg [(iC r30.1.Points), (.loc 25 0 r30.1.Bars.length)]), (.c (iC k)), (.c (iC l))] _ _ [(25, (.prow 69 (r30.1.Bars.map encTBar)))] _ _ _ _ (w_spec_RankOf r30.1 k l r31 hr31) rfl cb72 (.cons (.agg (.cons (.same rfl) (.cons (.tloc rfl rfl) .nil))) (.cons (.c (.same rfl)) (.cons (.c (.same rfl)) .nil))) rfl rfl trivial) ⟨rfl, rfl, rfl, rfl, trivial⟩ ⟨rfl, trivial⟩ rfl rfl ?_
        refine AOR.pure (LT.move (v := (.s (.c (iC r1)))) rfl) ⟨rfl, trivial⟩ trivial rfl rfl ?_
        refine AOR.pure (LT.lss rfl) ⟨rfl, rfl, trivial⟩ trivial rfl rfl ?_
        refine AOR.nil ?_
        refine AWR.joinK (fun j34 => ([(1, (.s (.c (iC k)))), (2, (.s (.c (iC l)))), (3, (.s (.c (.pl 21 0)))), (7, (.s (.c (.loc 22 0 j34.length)))), (8, (.s (.c (iC r1)))), (9, (.s (.c (iC s2.1))))], [(21, (.row 34 [[(iC g.Points), (.pv (.xs false (g.Bars.map encTBar)))]])), (22, (.prow 3 (j34.map encInt)))])) ?_ (fun j34 _ => ?_)
        · refine AWR.cond rfl (fun hc35 => ?_) (fun hc35 => ?_)
          · refine AWR.region ?_
            refine AOR.pure (LT.move (v := (.s (.c (.loc 22 0 s2.2.length)))) rfl) ⟨rfl, trivial⟩ trivial rfl rfl ?_
            refine AOR.pure (LT.move (v := (.s (.c (iC s2.1)))) rfl) ⟨rfl, trivial⟩ trivial rfl rfl ?_
            refine AOR.step (LT.tbuildSlice (n := 28) (enc := encInt) [(0, .tmp 41, (.c (iC s2.1)))] ([s2.1] : List Int) rfl rfl und28 ti3 rfl rfl rfl rfl (by decide) (fun _ => rfl) rfl) ⟨rfl, trivial⟩ trivial rfl rfl ?_
            refine AOR.bind fun u36 hu36 => ?_
            refine AOR.step (LT.tappP (enc := encInt) rfl rfl rfl und28 ti3 rfl (by decide) (by decide) (fun _ => rfl) (lim_le hu36)) ⟨rfl, rfl, trivial⟩ ⟨rfl, rfl, trivial⟩ rfl rfl ?_
            refine AOR.pure (LT.assign (v := (.s (.c (.loc 22 0 (s2.2 ++ ([s2.1] : List Int)).length)))) rfl) ⟨rfl, trivial⟩ trivial rfl rfl ?_
            refine AOR.nil ?_
            refine AWR.nil ⟨rfl, Ent.of ⟨rfl, rfl, rfl, rfl, rfl, rfl, trivial⟩ ⟨rfl, rfl, trivial⟩⟩
          · refine AWR.skip ?_
            refine AWR.nil ⟨rfl, Ent.of ⟨rfl, rfl, rfl, rfl, rfl, rfl, trivial⟩ ⟨rfl, rfl, trivial⟩⟩
        · refine AWR.blk ?_
          refine AWR.region ?_
          refine AOR.pure (LT.move (v := (.s (.c (iC s2.1)))) rfl) ⟨rfl, trivial⟩ trivial rfl rfl ?_
          refine AOR.pure (LT.add rfl) ⟨rfl, ⟨rfl, rfl⟩, trivial⟩ trivial rfl rfl ?_
          refine AOR.pure (LT.assign (v := (.s (.c (iC (w64 (s2.1 + 1)))))) rfl) ⟨rfl, trivial⟩ trivial rfl rfl ?_
          refine AOR.nil ?_
          refine AWR.nil ⟨rfl, Ent.of ⟨rfl, rfl, rfl, rfl, rfl, rfl, trivial⟩ ⟨rfl, rfl, trivial⟩⟩
      · refine AWR.exit_end rfl ⟨rfl, Ent.of ⟨rfl, trivial⟩ ⟨rfl, trivial⟩⟩
  · refine AWR.seq ?_
    refine AWR.region ?_
    refine AOR.pure (LT.move (v := (.s (.c (.loc 22 0 b25.length)))) rfl) ⟨rfl, trivial⟩ trivial rfl rfl ?_
    refine AOR.pure (LT.assign (v := (.s (.c (.loc 22 0 b25.length)))) rfl) ⟨rfl, trivial⟩ trivial rfl rfl ?_
    refine AOR.nil ?_
    refine AWR.ent (Ent.of (σ' := [(6, (.s (.c (.loc 22 0 b25.length))))]) (m' := [(22, (.prow 3 (b25.map encInt)))]) ⟨rfl, trivial⟩ ⟨rfl, trivial⟩) ?_
    refine AWR.ent (Ent.mv 22 0 rfl rfl) ?_
    refine AWR.ent (Ent.of (σ' := [(6, (.s (.c (.loc 0 0 b25.length))))]) (m' := [(0, (.prow 3 (b25.map encInt)))]) ⟨rfl, trivial⟩ ⟨rfl, trivial⟩) ?_
    refine AWR.ret (FPost.mk (.inr rfl) ⟨rfl, trivial⟩ ⟨rfl, trivial⟩ rfl ⟨trivial, trivial⟩ ⟨PermO.prow' perm_encInt, trivial⟩)
set_option maxRecDepth 100000 in
set_option maxHeartbeats 8000000 in
theorem w_spec_FragileBars (g : TGraph) : ∀ t, m_spec_FragileBars g = some t → Fw.Fn Try.prog 43 [(.agg [(iC g.Points), (.pv (.xs false (g.Bars.map encTBar)))])] [] (.s (.c (.loc 0 0 t.length))) [(0, (.prow 3 (t.map encInt)))] [] [0] := by
  refine Fw.Fn.of (P := Try.prog) (X := [0]) (pn := []) (rs := (fun (t : (List Int)) => [(.c (.loc 0 0 t.length))])) (dfs := (fun (t : (List Int)) => [(0, (.prow 3 (t.map encInt)))])) Try.func43 rfl Try.ntmps43 (Nat.le_of_ble_eq_true rfl) rfl ?_
  intro w0 U0 R0 g0
  unfold m_spec_FragileBars
  refine AWR.seq ?_
  refine AWR.region ?_
  refine AOR.step (LT.box (n := 21) (v := (.agg [(iC g.Points), (.pv (.xs false (g.Bars.map encTBar)))])) rfl sz34 (by exact rfl)) ⟨rfl, trivial⟩ trivial rfl rfl ?_
  refine AOR.pure (LT.assign (v := (.s (.c (sC nilV)))) rfl) ⟨⟨rfl, rfl⟩, trivial⟩ trivial rfl rfl ?_
  refine AOR.nil ?_
  refine AWR.seq ?_
  refine AWR.region ?_
  refine AOR.pure (LT.bloadN (out := [(iC g.Points), (.pv (.xs false (g.Bars.map encTBar)))]) rfl ag34 (infS inf34) sz34 (by exact rfl) (by exact rfl)) ⟨rfl, trivial⟩ ⟨rfl, trivial⟩ rfl rfl ?_
  refine AOR.bind fun r1 hr1 => ?_
  refine AOR.step (@LT.callF Try.prog _ _ 80 _ _ [(.agg [(iC g.Points), (.pv (.xs false (g.Bars.map encTBar)))]), (.c (iC 2)), (.c (iC 3))] _ _ [] _ _ _ _ ((show Fw.Fn Try.prog 80 [(.agg [(iC g.Points), (.pv (.xs false (g.Bars.map encTBar)))]), (.c (iC 2)), (.c (iC 3))] [] (.s (.c (.loc 23 0 r1.length))) [(23, (.prow 3 (r1.map encInt)))] [] [23] from Fw.Fn.ren [(0, 23)] (w_spec_BridgesOf g 2 3 r1 hr1) rfl)) rfl cb80 (.cons (.agg (.cons (.same rfl) (.cons (.same rfl) .nil))) (.cons (.c (.same rfl)) (.cons (.c (.same rfl)) .nil))) rfl rfl trivial) ⟨rfl, rfl, ⟨rfl, rfl⟩, ⟨rfl, rfl⟩, trivial⟩ trivial rfl rfl ?_
  refine AOR.pure (LT.assign (v := (.s (.c (.loc 23 0 r1.length)))) rfl) ⟨rfl, trivial⟩ trivial rfl rfl ?_
  refine AOR.nil ?_
  refine AWR.ent (Ent.of (σ' := [(2, (.s (.c (.loc 23 0 r1.length))))]) (m' := [(23, (.prow 3 (r1.map encInt)))]) ⟨rfl, trivial⟩ ⟨rfl, trivial⟩) ?_
  refine AWR.ent (Ent.mv 23 0 rfl rfl) ?_
  refine AWR.ent (Ent.of (σ' := [(2, (.s (.c (.loc 0 0 r1.length))))]) (m' := [(0, (.prow 3 (r1.map encInt)))]) ⟨rfl, trivial⟩ ⟨rfl, trivial⟩) ?_
  refine AWR.ret (FPost.mk (.inr rfl) ⟨rfl, trivial⟩ ⟨rfl, trivial⟩ rfl ⟨trivial, trivial⟩ ⟨PermO.prow' perm_encInt, trivial⟩)
set_option maxRecDepth 100000 in
set_option maxHeartbeats 8000000 in
theorem w_impl_RemoveBar (g : TGraph) (k : Int) : ∀ t, m_impl_RemoveBar g k = some t → Fw.Fn Try.prog 115 [(.agg [(iC g.Points), (.pv (.xs false (g.Bars.map encTBar)))]), (.c (iC k))] [] (resA [(.agg [(iC t.1.Points), (.loc 0 0 t.1.Bars.length)]), (.c (bC t.2))]) [(0, (.prow 69 (t.1.Bars.map encTBar)))] [] [0] := by
  refine Fw.Fn.of (P := Try.prog) (X := [0]) (pn := []) (rs := (fun (t : (TGraph × Bool)) => [(.agg [(iC t.1.Points), (.loc 0 0 t.1.Bars.length)]), (.c (bC t.2))])) (dfs := (fun (t : (TGraph × Bool)) => [(0, (.prow 69 (t.1.Bars.map encTBar)))])) Try.func115 rfl Try.ntmps115 (Nat.le_of_ble_eq_true rfl) rfl ?_
  intro w0 U0 R0 g0
  unfold m_impl_RemoveBar
  refine AWR.seq ?_
  refine AWR.region ?_
  refine AOR.step (LT.box (n := 21) (v := (.agg [(iC g.Points), (.pv (.xs false (g.Bars.map encTBar)))])) rfl sz34 (by exact rfl)) ⟨rfl, trivial⟩ trivial rfl rfl ?_
  refine AOR.step (LT.alloc (n := 22) (cells := [(iC 0), (sC nilV)]) rfl ti34 rfl rfl rfl) trivial trivial rfl rfl ?_
  refine AOR.pure (LT.assign (v := (.s (.c (bC false)))) rfl) ⟨⟨rfl, rfl⟩, trivial⟩ trivial rfl rfl ?_
  refine AOR.nil ?_
  refine AWR.seq ?_
  refine AWR.region ?_
  refine AOR.pure (LT.bloadN (out := [(iC g.Points), (.pv (.xs false (g.Bars.map encTBar)))]) rfl ag34 (infS inf34) sz34 (by exact rfl) (by exact rfl)) ⟨rfl, trivial⟩ ⟨rfl, trivial⟩ rfl rfl ?_
  refine AOR.bind fun r1 hr1 => ?_
  refine AOR.step (@LT.callF Try.prog _ _ 92 _ _ [(.agg [(iC g.Points), (.pv (.xs false (g.Bars.map encTBar)))])] _ _ [] _ _ _ _ ((show Fw.Fn Try.prog 92 [(.agg [(iC g.Points), (.pv (.xs false (g.Bars.map encTBar)))])] [] (.s (.agg [(iC r1.Points), (.loc 24 0 r1.Bars.length)])) [(24, (.prow 69 (r1.Bars.map encTBar)))] [] [24] from Fw.Fn.ren [(0, 24)] (w_impl_copyGraph g r1 hr1) rfl)) rfl cb92 (.cons (.agg (.cons (.same rfl) (.cons (.same rfl) .nil))) .nil) rfl rfl trivial) ⟨rfl, rfl, trivial⟩ trivial rfl rfl ?_
  refine AOR.step (LT.alloc (n := 25) (cells := [(iC 0), (sC nilV)]) rfl ti34 rfl rfl rfl) trivial trivial rfl rfl ?_
  refine AOR.step (LT.bstore (v := (.agg [(iC r1.Points), (.loc 24 0 r1.Bars.length)])) (out := [(iC r1.Points), (.loc 24 0 r1.Bars.length)]) rfl rfl (infS inf34) sz34 (by exact rfl) (by exact Nat.le_of_ble_eq_true rfl) (by exact rfl)) ⟨rfl, rfl, trivial⟩ ⟨rfl, trivial⟩ rfl rfl ?_
  refine AOR.nil ?_
  refine AWR.seq ?_
  refine AWR.seq ?_
  refine AWR.joinK (fun j5 => ([(1, (.s (.c (iC k)))), (4, (.s (.c (.pl 22 0)))), (6, (.s (.c (.pl 25 0)))), (20, (.s (.c (bC j5))))], [(22, (.row 34 [[(iC 0), (sC nilV)]])), (24, (.prow 69 (r1.Bars.map encTBar))), (25, (.row 34 [[(iC r1.Points), (.loc 24 0 r1.Bars.length)]]))])) ?_ (fun j5 _ => ?_)
  · refine AWR.ent (Ent.of (σ' := [(1, (.s (.c (iC k)))), (2, (.s (.c (.pl 21 0)))), (4, (.s (.c (.pl 22 0)))), (6, (.s (.c (.pl 25 0))))]) (m' := [(21, (.row 34 [[(iC g.Points), (.pv (.xs false (g.Bars.map encTBar)))]])), (22, (.row 34 [[(iC 0), (sC nilV)]])), (24, (.prow 69 (r1.Bars.map encTBar))), (25, (.row 34 [[(iC r1.Points), (.loc 24 0 r1.Bars.length)]]))]) ⟨rfl, rfl, rfl, rfl, trivial⟩ ⟨rfl, rfl, rfl, rfl, trivial⟩) ?_
    refine AWR.region ?_
    refine AOR.pure (LT.bloadN (out := [(iC g.Points), (.pv (.xs false (g.Bars.map encTBar)))]) rfl ag34 (infS inf34) sz34 (by exact rfl) (by exact rfl)) ⟨rfl, trivial⟩ ⟨rfl, trivial⟩ rfl rfl ?_
    refine AOR.bind fun r6 hr6 => ?_
    refine AOR.pure (@LT.callF Try.prog _ _ 77 _ _ [(.agg [(iC g.Points), (.pv (.xs false (g.Bars.map encTBar)))])] _ _ [] _ _ _ _ (w_impl_IsGraph g r6 hr6) rfl cb77 (.cons (.agg (.cons (.same rfl) (.cons (.same rfl) .nil))) .nil) rfl rfl trivial) ⟨rfl, rfl, trivial⟩ trivial rfl rfl ?_
    refine AOR.pure (LT.not rfl) ⟨rfl, trivial⟩ trivial rfl rfl ?_
    refine AOR.pure (LT.move (v := (.s (.c (bC (!r6))))) rfl) ⟨rfl, trivial⟩ trivial rfl rfl ?_
    refine AOR.split (fun hb7 => ?_) (fun hb7 => ?_)
    · refine AOR.skip ⟨_, rfl, .inl ⟨_, rfl, (by rw [hb7]; rfl)⟩⟩ rfl ?_
      refine AOR.skip ⟨_, rfl, .inl ⟨_, rfl, (by rw [hb7]; rfl)⟩⟩ rfl ?_
      refine AOR.skip ⟨_, rfl, .inl ⟨_, rfl, (by rw [hb7]; rfl)⟩⟩ rfl ?_
      refine AOR.skip ⟨_, rfl, .inl ⟨_, rfl, (by rw [hb7]; rfl)⟩⟩ rfl ?_
      refine AOR.skip ⟨_, rfl, .inl ⟨_, rfl, (by rw [hb7]; rfl)⟩⟩ rfl ?_
      refine AOR.skip ⟨_, rfl, .inl ⟨_, rfl, (by rw [hb7]; rfl)⟩⟩ rfl ?_
      refine AOR.skip ⟨_, rfl, .inl ⟨_, rfl, (by rw [hb7]; rfl)⟩⟩ rfl ?_
      refine AOR.pure (LT.pickT (v := (.s (.c (bC true)))) rfl hb7) ⟨rfl, ⟨rfl, rfl⟩, trivial⟩ trivial rfl rfl ?_
      refine AOR.nil ?_
      refine AWR.nil ⟨rfl, Ent.of ⟨rfl, rfl, rfl, rfl, trivial⟩ ⟨rfl, rfl, rfl, trivial⟩⟩
    · refine AOR.pure (LT.move (v := (.s (.c (iC k)))) rfl) ⟨rfl, trivial⟩ trivial ⟨_, rfl, .inl ⟨_, rfl, (by rw [hb7]; rfl)⟩⟩ rfl ?_
      refine AOR.pure (LT.fieldPl rfl fo34_1) ⟨rfl, trivial⟩ trivial ⟨_, rfl, .inl ⟨_, rfl, (by rw [hb7]; rfl)⟩⟩ rfl ?_
      refine AOR.pure (LT.bload1 (c := (.pv (.xs false (g.Bars.map encTBar)))) rfl ag32 (by exact rfl)) ⟨rfl, trivial⟩ ⟨rfl, trivial⟩ ⟨_, rfl, .inl ⟨_, rfl, (by rw [hb7]; rfl)⟩⟩ rfl ?_
      refine AOR.pure (LT.tlenRO rfl und32) ⟨rfl, trivial⟩ trivial ⟨_, rfl, .inl ⟨_, rfl, (by rw [hb7]; rfl)⟩⟩ rfl ?_
      refine AOR.pure (LT.sub rfl) ⟨rfl, ⟨rfl, rfl⟩, trivial⟩ trivial ⟨_, rfl, .inl ⟨_, rfl, (by rw [hb7]; rfl)⟩⟩ rfl ?_
      refine AOR.bind fun r8 hr8 => ?_
      refine AOR.pure (@LT.callF Try.prog _ _ 99 _ _ [(.c (iC k)), (.c (iC 0)), (.c (iC (w64 ((g.Bars.length : Int) - 1))))] _ _ [] _ _ _ _ (w_impl_within k 0 (w64 ((g.Bars.length : Int) - 1)) r8 hr8) rfl cb99 (.cons (.c (.same rfl)) (.cons (.c (.same rfl)) (.cons (.c (.same rfl)) .nil))) rfl rfl trivial) ⟨rfl, rfl, ⟨rfl, rfl⟩, rfl, trivial⟩ trivial ⟨_, rfl, .inl ⟨_, rfl, (by rw [hb7]; rfl)⟩⟩ rfl ?_
      refine AOR.pure (LT.not rfl) ⟨rfl, trivial⟩ trivial ⟨_, rfl, .inl ⟨_, rfl, (by rw [hb7]; rfl)⟩⟩ rfl ?_
      refine AOR.pure (LT.pickF (v := (.s (.c (bC (!r8))))) rfl hb7) ⟨rfl, rfl, trivial⟩ trivial rfl rfl ?_
      refine AOR.nil ?_
      refine AWR.nil ⟨rfl, Ent.of ⟨rfl, rfl, rfl, rfl, trivial⟩ ⟨rfl, rfl, rfl, trivial⟩⟩
  · refine AWR.cond rfl (fun hc9 => ?_) (fun hc9 => ?_)
    · refine AWR.seq ?_
      refine AWR.region ?_
      refine AOR.pure (LT.bloadN (out := [(iC r1.Points), (.loc 24 0 r1.Bars.length)]) rfl ag34 (infS inf34) sz34 (by exact rfl) (by exact rfl)) ⟨rfl, trivial⟩ ⟨rfl, trivial⟩ rfl rfl ?_
      refine AOR.step (LT.bstore (v := (.agg [(iC r1.Points), (.loc 24 0 r1.Bars.length)])) (out := [(iC r1.Points), (.loc 24 0 r1.Bars.length)]) rfl rfl (infS inf34) sz34 (by exact rfl) (by exact Nat.le_of_ble_eq_true rfl) (by exact rfl)) ⟨rfl, rfl, trivial⟩ ⟨rfl, trivial⟩ rfl rfl ?_
      refine AOR.pure (LT.assign (v := (.s (.c (bC false)))) rfl) ⟨⟨rfl, rfl⟩, trivial⟩ trivial rfl rfl ?_
      refine AOR.nil ?_
      refine AWR.ent (Ent.of (σ' := [(4, (.s (.c (.pl 22 0)))), (5, (.s (.c (bC false))))]) (m' := [(22, (.row 34 [[(iC r1.Points), (.loc 24 0 r1.Bars.length)]])), (24, (.prow 69 (r1.Bars.map encTBar)))]) ⟨rfl, rfl, trivial⟩ ⟨rfl, rfl, trivial⟩) ?_
      refine AWR.ent (Ent.mv 24 0 rfl rfl) ?_
      refine AWR.ent (Ent.of (σ' := [(4, (.s (.c (.pl 22 0)))), (5, (.s (.c (bC false))))]) (m' := [(0, (.prow 69 (r1.Bars.map encTBar))), (22, (.row 34 [[(iC r1.Points), (.loc 0 0 r1.Bars.length)]]))]) ⟨rfl, rfl, trivial⟩ ⟨rfl, rfl, trivial⟩) ?_
      refine AWR.ret (FPost.mk (.inr rfl) ⟨⟨_, _, _, rfl, rfl, rfl, ag34, sz34, _, (infS inf34)⟩, rfl, trivial⟩ ⟨rfl, trivial⟩ rfl ⟨⟨PermP.sc, trivial, trivial⟩, PermP.sc, trivial⟩ ⟨PermO.prow' perm_encTBar, trivial⟩)
    · refine AWR.skip ?_
      refine AWR.seq ?_
      refine AWR.draw mixed ?_
      refine AOD.pure (LT.fieldPl rfl fo34_1) ⟨rfl, trivial⟩ trivial rfl rfl ?_
      refine AOD.pure (LT.bload1 (c := (.loc 24 0 r1.Bars.length)) rfl ag32 (by exact rfl)) ⟨rfl, trivial⟩ ⟨rfl, trivial⟩ rfl rfl ?_
      refine AOD.pure (LT.move (v := (.s (.c (iC k)))) rfl) ⟨rfl, trivial⟩ trivial rfl rfl ?_
      refine AOD.bind fun v10 hv10 => ?_
      refine AOD.pure (LT.tsliceLoc (enc := encTBar) (blo := none) (bhi := (some (.tmp 24, k))) (l := 0) (h := k.toNat) rfl rfl rfl und32 inf69 (.inr ⟨rfl, rfl⟩) (.inl ⟨_, _, rfl, Int.le_trans (slc_spec hv10).1 (slc_spec hv10).2.1, rfl⟩) (slc_lh hv10) (slc_hl hv10)) ⟨rfl, rfl, trivial⟩ ⟨rfl, trivial⟩ rfl rfl ?_
      refine AOD.pure (LT.fieldPl rfl fo34_1) ⟨rfl, trivial⟩ trivial rfl rfl ?_
      refine AOD.pure (LT.bload1 (c := (.loc 24 0 r1.Bars.length)) rfl ag32 (by exact rfl)) ⟨rfl, trivial⟩ ⟨rfl, trivial⟩ rfl rfl ?_
      refine AOD.pure (LT.move (v := (.s (.c (iC k)))) rfl) ⟨rfl, trivial⟩ trivial rfl rfl ?_
      refine AOD.pure (LT.add rfl) ⟨rfl, ⟨rfl, rfl⟩, trivial⟩ trivial rfl rfl ?_
      refine AOD.bind fun v11 hv11 => ?_
      refine AOD.pure (LT.tsliceLoc (enc := encTBar) (blo := (some (.tmp 29, (w64 (k + 1))))) (bhi := none) (l := (w64 (k + 1)).toNat) (h := r1.Bars.length) rfl rfl rfl und32 inf69 (.inl ⟨_, _, rfl, (slc_spec hv11).1, rfl⟩) (.inr ⟨rfl, rfl⟩) (slc_lh hv11) (slc_hl hv11)) ⟨rfl, rfl, trivial⟩ ⟨rfl, trivial⟩ rfl rfl ?_
      refine AOD.bind fun u12 hu12 => ?_
      refine AOD.bind fun u13 hu13 => ?_
      refine AOD.bind fun u14 hu14 => ?_
      refine AOD.step (LT.tappSelf (enc := encTBar) rfl und32 ti69 rfl (by decide) (by decide) (fun _ => rfl) (Nat.le_of_sub_eq_zero (same_eq hu14)) (Nat.le_of_sub_eq_zero (same_eq hu13)) (lim_le hu12)) ⟨rfl, rfl, trivial⟩ ⟨rfl, trivial⟩ rfl rfl ?_
      refine AOD.pure (LT.fieldPl rfl fo34_1) ⟨rfl, trivial⟩ trivial rfl rfl ?_
      refine AOD.step (LT.bstore (v := (.c (.loc 24 0 (r1.Bars.take (k.toNat - 0) ++ (r1.Bars.drop ((w64 (k + 1)).toNat)).take (r1.Bars.length - (w64 (k + 1)).toNat)).length))) (out := [(iC r1.Points), (.loc 24 0 (r1.Bars.take (k.toNat - 0) ++ (r1.Bars.drop ((w64 (k + 1)).toNat)).take (r1.Bars.length - (w64 (k + 1)).toNat)).length)]) rfl rfl (infS inf32) sz32 (by exact rfl) (by exact Nat.le_of_ble_eq_true rfl) (by exact rfl)) ⟨rfl, rfl, trivial⟩ ⟨rfl, trivial⟩ rfl rfl ?_
      refine AOD.nil (by kernel_rfl) ?_
      refine AWR.seq ?_
      refine AWR.ent (Ent.of (σ' := [(4, (.s (.c (.pl 22 0)))), (6, (.s (.c (.pl 25 0))))]) (m' := [(22, (.row 34 [[(iC 0), (sC nilV)]])), (24, (.prow 69 ((r1.Bars.take (k.toNat - 0) ++ (r1.Bars.drop ((w64 (k + 1)).toNat)).take (r1.Bars.length - (w64 (k + 1)).toNat)).map encTBar))), (25, (.row 34 [[(iC r1.Points), (.loc 24 0 (r1.Bars.take (k.toNat - 0) ++ (r1.Bars.drop ((w64 (k + 1)).toNat)).take (r1.Bars.length - (w64 (k + 1)).toNat)).length)]]))]) ⟨rfl, rfl, trivial⟩ ⟨rfl, rfl, rfl, trivial⟩) ?_
      refine AWR.region ?_
      refine AOR.pure (LT.bloadN (out := [(iC r1.Points), (.loc 24 0 (r1.Bars.take (k.toNat - 0) ++ (r1.Bars.drop ((w64 (k + 1)).toNat)).take (r1.Bars.length - (w64 (k + 1)).toNat)).length)]) rfl ag34 (infS inf34) sz34 (by exact rfl) (by exact rfl)) ⟨rfl, trivial⟩ ⟨rfl, trivial⟩ rfl rfl ?_
      refine AOR.step (LT.bstore (v := (.agg [(iC r1.Points), (.loc 24 0 (r1.Bars.take (k.toNat - 0) ++ (r1.Bars.drop ((w64 (k + 1)).toNat)).take (r1.Bars.length - (w64 (k + 1)).toNat)).length)])) (out := [(iC r1.Points), (.loc 24 0 (r1.Bars.take (k.toNat - 0) ++ (r1.Bars.drop ((w64 (k + 1)).toNat)).take (r1.Bars.length - (w64 (k + 1)).toNat)).length)]) rfl rfl (infS inf34) sz34 (by exact rfl) (by exact Nat.le_of_ble_eq_true rfl) (by exact rfl)) ⟨rfl, rfl, trivial⟩ ⟨rfl, trivial⟩ rfl rfl ?_
      refine AOR.pure (LT.assign (v := (.s (.c (bC true)))) rfl) ⟨⟨rfl, rfl⟩, trivial⟩ trivial rfl rfl ?_
      refine AOR.nil ?_
      refine AWR.ent (Ent.of (σ' := [(4, (.s (.c (.pl 22 0)))), (5, (.s (.c (bC true))))]) (m' := [(22, (.row 34 [[(iC r1.Points), (.loc 24 0 (r1.Bars.take (k.toNat - 0) ++ (r1.Bars.drop ((w64 (k + 1)).toNat)).take (r1.Bars.length - (w64 (k + 1)).toNat)).length)]])), (24, (.prow 69 ((r1.Bars.take (k.toNat - 0) ++ (r1.Bars.drop ((w64 (k + 1)).toNat)).take (r1.Bars.length - (w64 (k + 1)).toNat)).map encTBar)))]) ⟨rfl, rfl, trivial⟩ ⟨rfl, rfl, trivial⟩) ?_
      refine AWR.ent (Ent.mv 24 0 rfl rfl) ?_
      refine AWR.ent (Ent.of (σ' := [(4, (.s (.c (.pl 22 0)))), (5, (.s (.c (bC true))))]) (m' := [(0, (.prow 69 ((r1.Bars.take (k.toNat - 0) ++ (r1.Bars.drop ((w64 (k + 1)).toNat)).take (r1.Bars.length - (w64 (k + 1)).toNat)).map encTBar))), (22, (.row 34 [[(iC r1.Points), (.loc 0 0 (r1.Bars.take (k.toNat - 0) ++ (r1.Bars.drop ((w64 (k + 1)).toNat)).take (r1.Bars.length - (w64 (k + 1)).toNat)).length)]]))]) ⟨rfl, rfl, trivial⟩ ⟨rfl, rfl, trivial⟩) ?_
      refine AWR.ret (FPost.mk (.inr rfl) ⟨⟨_, _, _, rfl, rfl, rfl, ag34, sz34, _, (infS inf34)⟩, rfl, trivial⟩ ⟨rfl, trivial⟩ rfl ⟨⟨PermP.sc, trivial, trivial⟩, PermP.sc, trivial⟩ ⟨PermO.prow' perm_encTBar, trivial⟩)
set_option maxRecDepth 100000 in
set_option maxHeartbeats 8000000 in
theorem w_impl_BridgesOf (g : TGraph) (k : Int) (l : Int) : ∀ t, m_impl_BridgesOf g k l = some t → Fw.Fn Try.prog 81 [(.agg [(iC g.Points), (.pv (.xs false (g.Bars.map encTBar)))]), (.c (iC k)), (.c (iC l))] [] (.s (.c (.loc 0 0 t.length))) [(0, (.prow 3 (t.map encInt)))] [] [0] := by
  refine Fw.Fn.of (P := Try.prog) (X := [0]) (pn := []) (rs := (fun (t : (List Int)) => [(.c (.loc 0 0 t.length))])) (dfs := (fun (t : (List Int)) => [(0, (.prow 3 (t.map encInt)))])) Try.func81 rfl Try.ntmps81 (Nat.le_of_ble_eq_true rfl) rfl ?_
  intro w0 U0 R0 g0
  unfold m_impl_BridgesOf
  refine AWR.seq ?_
  refine AWR.region ?_
  refine AOR.step (LT.box (n := 21) (v := (.agg [(iC g.Points), (.pv (.xs false (g.Bars.map encTBar)))])) rfl sz34 (by exact rfl)) ⟨rfl, trivial⟩ trivial rfl rfl ?_
  refine AOR.pure (LT.assign (v := (.s (.c (sC nilV)))) rfl) ⟨⟨rfl, rfl⟩, trivial⟩ trivial rfl rfl ?_
  refine AOR.nil ?_
  refine AWR.seq ?_
  refine AWR.region ?_
  refine AOR.step (LT.tbuildSlice (n := 22) (enc := encInt) [] ([] : List Int) rfl rfl und28 ti3 rfl rfl rfl rfl (by decide) (fun _ => rfl) rfl) trivial trivial rfl rfl ?_
  refine AOR.pure (LT.assign (v := (.s (.c (.loc 22 0 ([] : List Int).length)))) rfl) ⟨rfl, trivial⟩ trivial rfl rfl ?_
  refine AOR.nil ?_
  refine AWR.seq ?_
  refine AWR.region ?_
  refine AOR.pure (LT.bloadN (out := [(iC g.Points), (.pv (.xs false (g.Bars.map encTBar)))]) rfl ag34 (infS inf34) sz34 (by exact rfl) (by exact rfl)) ⟨rfl, trivial⟩ ⟨rfl, trivial⟩ rfl rfl ?_
  refine AOR.pure (LT.move (v := (.s (.c (iC k)))) rfl) ⟨rfl, trivial⟩ trivial rfl rfl ?_
  refine AOR.pure (LT.move (v := (.s (.c (iC l)))) rfl) ⟨rfl, trivial⟩ trivial rfl rfl ?_
  refine AOR.bind fun r1 hr1 => ?_
  refine AOR.pure (@LT.callF Try.prog _ _ 74 _ _ [(.agg [(iC g.Points), (.pv (.xs false (g.Bars.map encTBar)))]), (.c (iC k)), (.c (iC l))] _ _ [] _ _ _ _ (w_impl_RankOf g k l r1 hr1) rfl cb74 (.cons (.agg (.cons (.same rfl) (.cons (.same rfl) .nil))) (.cons (.c (.same rfl)) (.cons (.c (.same rfl)) .nil))) rfl rfl trivial) ⟨rfl, rfl, rfl, rfl, trivial⟩ trivial rfl rfl ?_
  refine AOR.pure (LT.assign (v := (.s (.c (iC r1)))) rfl) ⟨rfl, trivial⟩ trivial rfl rfl ?_
  refine AOR.nil ?_
  refine AWR.seq ?_
  refine AWR.seq ?_
  refine AWR.ent (Ent.of (σ' := [(1, (.s (.c (iC k)))), (2, (.s (.c (iC l)))), (3, (.s (.c (.pl 21 0)))), (7, (.s (.c (.loc 22 0 ([] : List Int).length)))), (8, (.s (.c (iC r1))))]) (m' := [(21, (.row 34 [[(iC g.Points), (.pv (.xs false (g.Bars.map encTBar)))]])), (22, (.prow 3 (([] : List Int).map encInt)))]) ⟨rfl, rfl, rfl, rfl, rfl, trivial⟩ ⟨rfl, rfl, trivial⟩) ?_
  refine AWR.region ?_
  refine AOR.pure (LT.move (v := (.s (.c (iC r1)))) rfl) ⟨rfl, trivial⟩ trivial rfl rfl ?_
  refine AOR.pure (LT.lss rfl) ⟨rfl, ⟨rfl, rfl⟩, trivial⟩ trivial rfl rfl ?_
  refine AOR.nil ?_
  refine AWR.cond rfl (fun hc2 => ?_) (fun hc2 => ?_)
  · refine AWR.seq ?_
    refine AWR.region ?_
    refine AOR.pure (LT.move (v := (.s (.c (.loc 22 0 ([] : List Int).length)))) rfl) ⟨rfl, trivial⟩ trivial rfl rfl ?_
    refine AOR.pure (LT.assign (v := (.s (.c (.loc 22 0 ([] : List Int).length)))) rfl) ⟨rfl, trivial⟩ trivial rfl rfl ?_
    refine AOR.nil ?_
    refine AWR.ent (Ent.of (σ' := [(6, (.s (.c (.loc 22 0 ([] : List Int).length))))]) (m' := [(22, (.prow 3 (([] : List Int).map encInt)))]) ⟨rfl, trivial⟩ ⟨rfl, trivial⟩) ?_
    refine AWR.ent (Ent.mv 22 0 rfl rfl) ?_
    refine AWR.ent (Ent.of (σ' := [(6, (.s (.c (.loc 0 0 ([] : List Int).length))))]) (m' := [(0, (.prow 3 (([] : List Int).map encInt)))]) ⟨rfl, trivial⟩ ⟨rfl, trivial⟩) ?_
    refine AWR.ret (FPost.mk (.inr rfl) ⟨rfl, trivial⟩ ⟨rfl, trivial⟩ rfl ⟨trivial, trivial⟩ ⟨PermO.prow' perm_encInt, trivial⟩)
  · refine AWR.skip ?_
    refine AWR.seq ?_
    refine AWR.seq ?_
    refine AWR.region ?_
    refine AOR.pure (LT.fieldPl rfl fo34_1) ⟨rfl, trivial⟩ trivial rfl rfl ?_
    refine AOR.pure (LT.bload1 (c := (.pv (.xs false (g.Bars.map encTBar)))) rfl ag32 (by exact rfl)) ⟨rfl, trivial⟩ ⟨rfl, trivial⟩ rfl rfl ?_
    refine AOR.pure (LT.tlenRO rfl und32) ⟨rfl, trivial⟩ trivial rfl rfl ?_
    refine AOR.pure (LT.move (v := (.s (.c (iC 0)))) rfl) ⟨⟨rfl, rfl⟩, trivial⟩ trivial rfl rfl ?_
    refine AOR.nil ?_
    refine AWR.block ?_
    refine AWR.loop1 (id := 0) (m_impl_BridgesOf_L1 g k l r1) (fun s3 => ([(1, (.s (.c (iC k)))), (2, (.s (.c (iC l)))), (3, (.s (.c (.pl 21 0)))), (7, (.s (.c (.loc 22 0 s3.2.length)))), (8, (.s (.c (iC r1)))), (22, (.s (.c (iC (g.Bars.length : Int))))), (23, (.s (.c (iC s3.1))))], [(21, (.row 34 [[(iC g.Points), (.pv (.xs false (g.Bars.map encTBar)))]])), (22, (.prow 3 (s3.2.map encInt)))])) (fun b20 => ([(7, (.s (.c (.loc 22 0 b20.length))))], [(22, (.prow 3 (b20.map encInt)))])) ?_ (Ent.of ⟨rfl, rfl, rfl, rfl, rfl, rfl, rfl, trivial⟩ ⟨rfl, rfl, trivial⟩) rfl (fun b20 _ => ?_)
    · intro s3
      unfold m_impl_BridgesOf_L1
      refine AWR.seq ?_
      refine AWR.region ?_
      refine AOR.pure (LT.lss rfl) ⟨rfl, rfl, trivial⟩ trivial rfl rfl ?_
      refine AOR.nil ?_
      refine AWR.seq ?_
      refine AWR.cond rfl (fun hc21 => ?_) (fun hc21 => ?_)
      · refine AWR.skip ?_
        refine AWR.seq ?_
        refine AWR.block ?_
        refine AWR.seq ?_
        refine AWR.region ?_
        refine AOR.pure (LT.move (v := (.s (.c (iC s3.1)))) rfl) ⟨rfl, trivial⟩ trivial rfl rfl ?_
        refine AOR.pure (LT.assign (v := (.s (.c (iC s3.1)))) rfl) ⟨rfl, trivial⟩ trivial rfl rfl ?_
        refine AOR.nil ?_
        refine AWR.seq ?_
        refine AWR.region ?_
        refine AOR.pure (LT.bloadN (out := [(iC g.Points), (.pv (.xs false (g.Bars.map encTBar)))]) rfl ag34 (infS inf34) sz34 (by exact rfl) (by exact rfl)) ⟨rfl, trivial⟩ ⟨rfl, trivial⟩ rfl rfl ?_
        refine AOR.pure (LT.move (v := (.s (.c (iC s3.1)))) rfl) ⟨rfl, trivial⟩ trivial rfl rfl ?_
        refine AOR.bind fun r22 hr22 => ?_
        refine AOR.step (@LT.callF Try.prog _ _ 115 _ _ [(.agg [(iC g.Points), (.pv (.xs false (g.Bars.map encTBar)))]), (.c (iC s3.1))] _ _ [] _ _ _ _ ((show Fw.Fn Try.prog 115 [(.agg [(iC g.Points), (.pv (.xs false (g.Bars.map encTBar)))]), (.c (iC s3.1))] [] (.tup [(.agg [(iC r22.1.Points), (.loc 25 0 r22.1.Bars.length)]), (.c (bC r22.2))]) [(25, (.prow 69 (r22.1.Bars.map encTBar)))] [] [25] from Fw.Fn.ren [(0, 25)] (w_impl_RemoveBar g s3.1 r22 hr22) rfl)) rfl cb115 (.cons (.agg (.cons (.same rfl) (.cons (.same rfl) .nil))) (.cons (.c (.same rfl)) .nil)) rfl rfl trivial) ⟨rfl, rfl, rfl, trivial⟩ trivial rfl rfl ?_
        refine AOR.pure (LT.move (v := (.tup [(.agg [(iC r22.1.Points), (.loc 25 0 r22.1.Bars.length)]), (.c (bC r22.2))])) rfl) ⟨rfl, trivial⟩ trivial rfl rfl ?_
        refine AOR.pure (LT.extract (v := (.agg [(iC r22.1.Points), (.loc 25 0 r22.1.Bars.length)])) rfl (by exact rfl)) ⟨rfl, trivial⟩ trivial rfl rfl ?_
        refine AOR.pure (LT.extract (v := (.c (bC r22.2))) rfl (by exact rfl)) ⟨rfl, trivial⟩ trivial rfl rfl ?_
        refine AOR.step (LT.alloc (n := 26) (cells := [(iC 0), (sC nilV)]) rfl ti34 rfl rfl rfl) trivial trivial rfl rfl ?_
        refine AOR.step (LT.bstore (v := (.agg [(iC r22.1.Points), (.loc 25 0 r22.1.Bars.length)])) (out := [(iC r22.1.Points), (.loc 25 0 r22.1.Bars.length)]) rfl rfl (infS inf34) sz34 (by exact rfl) (by exact Nat.le_of_ble_eq_true rfl) (by exact rfl)) ⟨rfl, rfl, trivial⟩ ⟨rfl, trivial⟩ rfl rfl ?_
        refine AOR.pure (LT.assign (v := (.s (.c (bC r22.2)))) rfl) ⟨rfl, trivial⟩ trivial rfl rfl ?_
        refine AOR.nil ?_
        refine AWR.seq ?_
        refine AWR.ent (Ent.of (σ' := [(1, (.s (.c (iC k)))), (2, (.s (.c (iC l)))), (3, (.s (.c (.pl 21 0)))), (7, (.s (.c (.loc 22 0 s3.2.length)))), (8, (.s (.c (iC r1)))), (9, (.s (.c (iC s3.1)))), (10, (.s (.c (.pl 26 0)))), (22, (.s (.c (iC (g.Bars.length : Int))))), (23, (.s (.c (iC s3.1))))]) (m' := [(21, (.row 34 [[(iC g.Points), (.pv (.xs false (g.Bars.map encTBar)))]])), (22, (.prow 3 (s3.2.map encInt))), (25, (.prow 69 (r22.1.Bars.map encTBar))), (26, (.row 34 [[(iC r22.1.Points), (.loc 25 0 r22.1.Bars.length)]]))]) ⟨rfl, rfl, rfl, rfl, rfl, rfl, rfl, rfl, rfl, trivial⟩ ⟨rfl, rfl, rfl, rfl, trivial⟩) ?_
        refine AWR.region ?_
        refine AOR.pure (LT.bloadN (out := [(iC r22.1.Points), (.loc 25 0 r22.1.Bars.length)]) rfl ag34 (infS inf34) sz34 (by exact rfl) (by exact rfl)) ⟨rfl, trivial⟩ ⟨rfl, trivial⟩ rfl rfl ?_
        refine AOR.pure (LT.move (v := (.s (.c (iC k)))) rfl) ⟨rfl, trivial⟩ trivial rfl rfl ?_
        refine AOR.pure (LT.move (v := (.s (.c (iC l)))) rfl) ⟨rfl, trivial⟩ trivial rfl rfl ?_
        refine AOR.bind fun r23 hr23 => ?_
        refine AOR.pure (@LT.callF Try.prog _ _ 74 _ _ [(.agg [(iC r22.1.Points), (.loc 25 0 r22.1.Bars.length)]), (.c (iC k)), (.c (iC l))] _ _ [(25, (.prow 69 (r22.1.Bars.map encTBar)))] _ _ _ _ (w_impl_RankOf r22.1 k l r23 hr23) rfl cb74 (.cons (.agg (.cons (.same rfl) (.cons (.tloc rfl rfl) .nil))) (.cons (.c (.same rfl)) (.cons (.c (.same rfl)) .nil))) rfl rfl trivial) ⟨rfl, rfl, rfl, rfl, trivial⟩ ⟨rfl, trivial⟩ rfl rfl ?_
        refine AOR.pure (LT.move (v := (.s (.c (iC r1)))) rfl) ⟨rfl, trivial⟩ trivial rfl rfl ?_
        refine AOR.pure (LT.lss rfl) ⟨rfl, rfl, trivial⟩ trivial rfl rfl ?_
        refine AOR.nil ?_
        refine AWR.joinK (fun j26 => ([(1, (.s (.c (iC k)))), (2, (.s (.c (iC l)))), (3, (.s (.c (.pl 21 0)))), (7, (.s (.c (.loc 22 0 j26.length)))), (8, (.s (.c (iC r1)))), (22, (.s (.c (iC (g.Bars.length : Int))))), (23, (.s (.c (iC s3.1))))], [(21, (.row 34 [[(iC g.Points), (.pv (.xs false (g.Bars.map encTBar)))]])), (22, (.prow 3 (j26.map encInt)))])) ?_ (fun j26 _ => ?_)
        · refine AWR.cond rfl (fun hc27 => ?_) (fun hc27 => ?_)
          · refine AWR.region ?_
            refine AOR.pure (LT.move (v := (.s (.c (.loc 22 0 s3.2.length)))) rfl) ⟨rfl, trivial⟩ trivial rfl rfl ?_
            refine AOR.pure (LT.move (v := (.s (.c (iC s3.1)))) rfl) ⟨rfl, trivial⟩ trivial rfl rfl ?_
            refine AOR.step (LT.tbuildSlice (n := 28) (enc := encInt) [(0, .tmp 39, (.c (iC s3.1)))] ([s3.1] : List Int) rfl rfl und28 ti3 rfl rfl rfl rfl (by decide) (fun _ => rfl) rfl) ⟨rfl, trivial⟩ trivial rfl rfl ?_
            refine AOR.bind fun u28 hu28 => ?_
            refine AOR.step (LT.tappP (enc := encInt) rfl rfl rfl und28 ti3 rfl (by decide) (by decide) (fun _ => rfl) (lim_le hu28)) ⟨rfl, rfl, trivial⟩ ⟨rfl, rfl, trivial⟩ rfl rfl ?_
            refine AOR.pure (LT.assign (v := (.s (.c (.loc 22 0 (s3.2 ++ ([s3.1] : List Int)).length)))) rfl) ⟨rfl, trivial⟩ trivial rfl rfl ?_
            refine AOR.nil ?_
            refine AWR.nil ⟨rfl, Ent.of ⟨rfl, rfl, rfl, rfl, rfl, rfl, rfl, trivial⟩ ⟨rfl, rfl, trivial⟩⟩
          · refine AWR.skip ?_
            refine AWR.nil ⟨rfl, Ent.of ⟨rfl, rfl, rfl, rfl, rfl, rfl, rfl, trivial⟩ ⟨rfl, rfl, trivial⟩⟩
        · refine AWR.blk ?_
          refine AWR.region ?_
          refine AOR.pure (LT.add rfl) ⟨rfl, ⟨rfl, rfl⟩, trivial⟩ trivial rfl rfl ?_
          refine AOR.pure (LT.move (v := (.s (.c (iC (w64 (s3.1 + 1)))))) rfl) ⟨rfl, trivial⟩ trivial rfl rfl ?_
          refine AOR.nil ?_
          refine AWR.nil ⟨rfl, Ent.of ⟨rfl, rfl, rfl, rfl, rfl, rfl, rfl, trivial⟩ ⟨rfl, rfl, trivial⟩⟩
      · refine AWR.exit_end rfl ⟨rfl, Ent.of ⟨rfl, trivial⟩ ⟨rfl, trivial⟩⟩
    · refine AWR.seq ?_
      refine AWR.region ?_
      refine AOR.pure (LT.move (v := (.s (.c (.loc 22 0 b20.length)))) rfl) ⟨rfl, trivial⟩ trivial rfl rfl ?_
      refine AOR.pure (LT.assign (v := (.s (.c (.loc 22 0 b20.length)))) rfl) ⟨rfl, trivial⟩ trivial rfl rfl ?_
      refine AOR.nil ?_
      refine AWR.ent (Ent.of (σ' := [(6, (.s (.c (.loc 22 0 b20.length))))]) (m' := [(22, (.prow 3 (b20.map encInt)))]) ⟨rfl, trivial⟩ ⟨rfl, trivial⟩) ?_
      refine AWR.ent (Ent.mv 22 0 rfl rfl) ?_
      refine AWR.ent (Ent.of (σ' := [(6, (.s (.c (.loc 0 0 b20.length))))]) (m' := [(0, (.prow 3 (b20.map encInt)))]) ⟨rfl, trivial⟩ ⟨rfl, trivial⟩) ?_
      refine AWR.ret (FPost.mk (.inr rfl) ⟨rfl, trivial⟩ ⟨rfl, trivial⟩ rfl ⟨trivial, trivial⟩ ⟨PermO.prow' perm_encInt, trivial⟩)
set_option maxRecDepth 100000 in
set_option maxHeartbeats 8000000 in
theorem w_impl_FragileBars (g : TGraph) : ∀ t, m_impl_FragileBars g = some t → Fw.Fn Try.prog 44 [(.agg [(iC g.Points), (.pv (.xs false (g.Bars.map encTBar)))])] [] (.s (.c (.loc 0 0 t.length))) [(0, (.prow 3 (t.map encInt)))] [] [0] := by
  refine Fw.Fn.of (P := Try.prog) (X := [0]) (pn := []) (rs := (fun (t : (List Int)) => [(.c (.loc 0 0 t.length))])) (dfs := (fun (t : (List Int)) => [(0, (.prow 3 (t.map encInt)))])) Try.func44 rfl Try.ntmps44 (Nat.le_of_ble_eq_true rfl) rfl ?_
  intro w0 U0 R0 g0
  unfold m_impl_FragileBars
  refine AWR.seq ?_
  refine AWR.region ?_
  refine AOR.step (LT.box (n := 21) (v := (.agg [(iC g.Points), (.pv (.xs false (g.Bars.map encTBar)))])) rfl sz34 (by exact rfl)) ⟨rfl, trivial⟩ trivial rfl rfl ?_
  refine AOR.pure (LT.assign (v := (.s (.c (sC nilV)))) rfl) ⟨⟨rfl, rfl⟩, trivial⟩ trivial rfl rfl ?_
  refine AOR.nil ?_
  refine AWR.seq ?_
  refine AWR.region ?_
  refine AOR.pure (LT.bloadN (out := [(iC g.Points), (.pv (.xs false (g.Bars.map encTBar)))]) rfl ag34 (infS inf34) sz34 (by exact rfl) (by exact rfl)) ⟨rfl, trivial⟩ ⟨rfl, trivial⟩ rfl rfl ?_
  refine AOR.bind fun r1 hr1 => ?_
  refine AOR.step (@LT.callF Try.prog _ _ 81 _ _ [(.agg [(iC g.Points), (.pv (.xs false (g.Bars.map encTBar)))]), (.c (iC 2)), (.c (iC 3))] _ _ [] _ _ _ _ ((show Fw.Fn Try.prog 81 [(.agg [(iC g.Points), (.pv (.xs false (g.Bars.map encTBar)))]), (.c (iC 2)), (.c (iC 3))] [] (.s (.c (.loc 23 0 r1.length))) [(23, (.prow 3 (r1.map encInt)))] [] [23] from Fw.Fn.ren [(0, 23)] (w_impl_BridgesOf g 2 3 r1 hr1) rfl)) rfl cb81 (.cons (.agg (.cons (.same rfl) (.cons (.same rfl) .nil))) (.cons (.c (.same rfl)) (.cons (.c (.same rfl)) .nil))) rfl rfl trivial) ⟨rfl, rfl, ⟨rfl, rfl⟩, ⟨rfl, rfl⟩, trivial⟩ trivial rfl rfl ?_
  refine AOR.pure (LT.assign (v := (.s (.c (.loc 23 0 r1.length)))) rfl) ⟨rfl, trivial⟩ trivial rfl rfl ?_
  refine AOR.nil ?_
  refine AWR.ent (Ent.of (σ' := [(2, (.s (.c (.loc 23 0 r1.length))))]) (m' := [(23, (.prow 3 (r1.map encInt)))]) ⟨rfl, trivial⟩ ⟨rfl, trivial⟩) ?_
  refine AWR.ent (Ent.mv 23 0 rfl rfl) ?_
  refine AWR.ent (Ent.of (σ' := [(2, (.s (.c (.loc 0 0 r1.length))))]) (m' := [(0, (.prow 3 (r1.map encInt)))]) ⟨rfl, trivial⟩ ⟨rfl, trivial⟩) ?_
  refine AWR.ret (FPost.mk (.inr rfl) ⟨rfl, trivial⟩ ⟨rfl, trivial⟩ rfl ⟨trivial, trivial⟩ ⟨PermO.prow' perm_encInt, trivial⟩)
end Go.Proofs.Ytoedmjkipecloaa
