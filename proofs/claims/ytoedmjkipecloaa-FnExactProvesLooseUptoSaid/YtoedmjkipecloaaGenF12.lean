/- The code computes the models. Written by a program of mine. -/
import Derived.Test.YtoedmjkipecloaaGenF10
import Derived.Test.YtoedmjkipecloaaGenF11
set_option linter.unusedVariables false
set_option linter.unusedSimpArgs false
set_option linter.unnecessarySimpa false
open Go Go.Fw
namespace Go.Proofs.Ytoedmjkipecloaa
set_option maxRecDepth 100000 in
set_option maxHeartbeats 8000000 in
theorem w_spec_l12Vector (f : TFramework) (v : (List Int)) : ∀ t, m_spec_l12Vector f v = some t → Fw.Fn Try.prog 62 [(.agg [(iC f.Graph.Points), (.pv (.xs false (f.Graph.Bars.map encTBar))), (.pv (.xs false (f.Places.map encTPlace)))]), (.c (.pv (.xs false (v.map encInt))))] [] (.s (.c (bC t))) [] [] [] := by
  refine Fw.Fn.of (P := Try.prog) (X := []) (pn := []) (rs := (fun (t : Bool) => [(.c (bC t))])) (dfs := (fun (t : Bool) => [])) Try.func62 rfl Try.ntmps62 (Nat.le_of_ble_eq_true rfl) rfl ?_
  intro w0 U0 R0 g0
  unfold m_spec_l12Vector
  refine AWR.seq ?_
  refine AWR.region ?_
  refine AOR.step (LT.box (n := 21) (v := (.agg [(iC f.Graph.Points), (.pv (.xs false (f.Graph.Bars.map encTBar))), (.pv (.xs false (f.Places.map encTPlace)))])) rfl sz37 (by exact rfl)) ⟨rfl, trivial⟩ trivial rfl rfl ?_
  refine AOR.pure (LT.assign (v := (.s (.c (bC false)))) rfl) ⟨⟨rfl, rfl⟩, trivial⟩ trivial rfl rfl ?_
  refine AOR.nil ?_
  refine AWR.seq ?_
  refine AWR.seq ?_
  refine AWR.region ?_
  refine AOR.pure (LT.assign (v := (.s (.c (iC 0)))) rfl) ⟨⟨rfl, rfl⟩, trivial⟩ trivial rfl rfl ?_
  refine AOR.nil ?_
  refine AWR.block ?_
  refine AWR.loopR (id := 0) (m_spec_l12Vector_L1 v) (fun s1 => ([(1, (.s (.c (.pv (.xs false (v.map encInt)))))), (2, (.s (.c (.pl 21 0)))), (5, (.s (.c (iC s1))))], [(21, (.row 37 [[(iC f.Graph.Points), (.pv (.xs false (f.Graph.Bars.map encTBar))), (.pv (.xs false (f.Places.map encTPlace)))]]))])) (fun b10 => ([(1, (.s (.c (.pv (.xs false (v.map encInt)))))), (2, (.s (.c (.pl 21 0))))], [(21, (.row 37 [[(iC f.Graph.Points), (.pv (.xs false (f.Graph.Bars.map encTBar))), (.pv (.xs false (f.Places.map encTPlace)))]]))])) (FPost Try.prog Try.f62.results.toList [] [] (fun (t : Bool) => [(.c (bC t))]) (fun (t : Bool) => [])) ?_ (Ent.of ⟨rfl, rfl, rfl, trivial⟩ ⟨rfl, trivial⟩) rfl (fun b10 _ => ?_) (by intro r t σ m ht hk; injection ht with ht; subst ht; exact hk)
  · intro s1
    unfold m_spec_l12Vector_L1
    refine AWR.seq ?_
    refine AWR.seq ?_
    refine AWR.region ?_
    refine AOR.pure (LT.move (v := (.s (.c (iC s1)))) rfl) ⟨rfl, trivial⟩ trivial rfl rfl ?_
    refine AOR.pure (LT.move (v := (.s (.c (.pv (.xs false (v.map encInt)))))) rfl) ⟨rfl, trivial⟩ trivial rfl rfl ?_
    refine AOR.pure (LT.tlenRO rfl und28) ⟨rfl, trivial⟩ trivial rfl rfl ?_
    refine AOR.pure (LT.lss rfl) ⟨rfl, rfl, trivial⟩ trivial rfl rfl ?_
    refine AOR.nil ?_
    refine AWR.cond rfl (fun hc11 => ?_) (fun hc11 => ?_)
    · refine AWR.skip ?_
      refine AWR.seq ?_
      refine AWR.block ?_
      refine AWR.seq ?_
      refine AWR.region ?_
      refine AOR.pure (LT.move (v := (.s (.c (.pv (.xs false (v.map encInt)))))) rfl) ⟨rfl, trivial⟩ trivial rfl rfl ?_
      refine AOR.pure (LT.move (v := (.s (.c (iC s1)))) rfl) ⟨rfl, trivial⟩ trivial rfl rfl ?_
      refine AOR.bind fun x12 hx12 => ?_
      refine AOR.pure (LT.tindexRO (enc := encInt) rfl el28 hx12 sz3) ⟨rfl, rfl, trivial⟩ trivial rfl rfl ?_
      refine AOR.pure (LT.loadPx1 rfl ag3) ⟨rfl, trivial⟩ trivial rfl rfl ?_
      refine AOR.bind fun r13 hr13 => ?_
      refine AOR.pure (@LT.callF Try.prog _ _ 97 _ _ [(.c (iC x12)), (.c (iC (-10000000000))), (.c (iC 10000000000))] _ _ [] _ _ _ _ (w_spec_l1In x12 (-10000000000) 10000000000 r13 hr13) rfl cb97 (.cons (.c (.same rfl)) (.cons (.c (.same rfl)) (.cons (.c (.same rfl)) .nil))) rfl rfl trivial) ⟨rfl, rfl, ⟨rfl, rfl⟩, ⟨rfl, rfl⟩, trivial⟩ trivial rfl rfl ?_
      refine AOR.pure (LT.not rfl) ⟨rfl, trivial⟩ trivial rfl rfl ?_
      refine AOR.nil ?_
      refine AWR.cond rfl (fun hc14 => ?_) (fun hc14 => ?_)
      · refine AWR.seq ?_
        refine AWR.region ?_
        refine AOR.pure (LT.assign (v := (.s (.c (bC false)))) rfl) ⟨⟨rfl, rfl⟩, trivial⟩ trivial rfl rfl ?_
        refine AOR.nil ?_
        refine AWR.ret ⟨rfl, FPost.mk (.inr rfl) ⟨rfl, trivial⟩ trivial rfl ⟨PermP.sc, trivial⟩ trivial⟩
      · refine AWR.skip ?_
        refine AWR.blk ?_
        refine AWR.region ?_
        refine AOR.pure (LT.move (v := (.s (.c (iC s1)))) rfl) ⟨rfl, trivial⟩ trivial rfl rfl ?_
        refine AOR.pure (LT.add rfl) ⟨rfl, ⟨rfl, rfl⟩, trivial⟩ trivial rfl rfl ?_
        refine AOR.pure (LT.assign (v := (.s (.c (iC (w64 (s1 + 1)))))) rfl) ⟨rfl, trivial⟩ trivial rfl rfl ?_
        refine AOR.nil ?_
        refine AWR.nil ⟨rfl, Ent.of ⟨rfl, rfl, rfl, trivial⟩ ⟨rfl, trivial⟩⟩
    · refine AWR.exit_end rfl ⟨rfl, Ent.of ⟨rfl, rfl, trivial⟩ ⟨rfl, trivial⟩⟩
  · refine AWR.seq ?_
    refine AWR.joinK (fun j17 => ([(4, (.s (.c (bC j17))))], [])) ?_ (fun j17 _ => ?_)
    · refine AWR.region ?_
      refine AOR.pure (LT.bloadN (out := [(iC f.Graph.Points), (.pv (.xs false (f.Graph.Bars.map encTBar))), (.pv (.xs false (f.Places.map encTPlace)))]) rfl ag37 (infS inf37) sz37 (by exact rfl) (by exact rfl)) ⟨rfl, trivial⟩ ⟨rfl, trivial⟩ rfl rfl ?_
      refine AOR.bind fun r18 hr18 => ?_
      refine AOR.pure (@LT.callF Try.prog _ _ 98 _ _ [(.agg [(iC f.Graph.Points), (.pv (.xs false (f.Graph.Bars.map encTBar))), (.pv (.xs false (f.Places.map encTPlace)))])] _ _ [] _ _ _ _ (w_spec_IsFramework f r18 hr18) rfl cb98 (.cons (.agg (.cons (.same rfl) (.cons (.same rfl) (.cons (.same rfl) .nil)))) .nil) rfl rfl trivial) ⟨rfl, rfl, trivial⟩ trivial rfl rfl ?_
      refine AOR.pure (LT.move (v := (.s (.c (bC r18)))) rfl) ⟨rfl, trivial⟩ trivial rfl rfl ?_
      refine AOR.split (fun hb19 => ?_) (fun hb19 => ?_)
      · refine AOR.pure (LT.move (v := (.s (.c (.pv (.xs false (v.map encInt)))))) rfl) ⟨rfl, trivial⟩ trivial ⟨_, rfl, .inl ⟨_, rfl, (by rw [hb19]; rfl)⟩⟩ rfl ?_
        refine AOR.pure (LT.tlenRO rfl und28) ⟨rfl, trivial⟩ trivial ⟨_, rfl, .inl ⟨_, rfl, (by rw [hb19]; rfl)⟩⟩ rfl ?_
        refine AOR.pure (LT.fieldPl rfl fo37_0) ⟨rfl, trivial⟩ trivial ⟨_, rfl, .inl ⟨_, rfl, (by rw [hb19]; rfl)⟩⟩ rfl ?_
        refine AOR.pure (LT.fieldPl rfl fo34_0) ⟨rfl, trivial⟩ trivial ⟨_, rfl, .inl ⟨_, rfl, (by rw [hb19]; rfl)⟩⟩ rfl ?_
        refine AOR.pure (LT.bload1 (c := (iC f.Graph.Points)) rfl ag3 (by exact rfl)) ⟨rfl, trivial⟩ ⟨rfl, trivial⟩ ⟨_, rfl, .inl ⟨_, rfl, (by rw [hb19]; rfl)⟩⟩ rfl ?_
        refine AOR.pure (LT.mul rfl) ⟨⟨rfl, rfl⟩, rfl, trivial⟩ trivial ⟨_, rfl, .inl ⟨_, rfl, (by rw [hb19]; rfl)⟩⟩ rfl ?_
        refine AOR.pure (LT.eql rfl) ⟨rfl, rfl, trivial⟩ trivial ⟨_, rfl, .inl ⟨_, rfl, (by rw [hb19]; rfl)⟩⟩ rfl ?_
        refine AOR.pure (LT.pickT (v := (.s (.c (bC ((v.length : Int) == (w64 (2 * f.Graph.Points))))))) rfl hb19) ⟨rfl, rfl, trivial⟩ trivial rfl rfl ?_
        refine AOR.pure (LT.assign (v := (.s (.c (bC ((v.length : Int) == (w64 (2 * f.Graph.Points))))))) rfl) ⟨rfl, trivial⟩ trivial rfl rfl ?_
        refine AOR.nil ?_
        refine AWR.nil ⟨rfl, Ent.of ⟨rfl, trivial⟩ trivial⟩
      · refine AOR.skip ⟨_, rfl, .inl ⟨_, rfl, (by rw [hb19]; rfl)⟩⟩ rfl ?_
        refine AOR.skip ⟨_, rfl, .inl ⟨_, rfl, (by rw [hb19]; rfl)⟩⟩ rfl ?_
        refine AOR.skip ⟨_, rfl, .inl ⟨_, rfl, (by rw [hb19]; rfl)⟩⟩ rfl ?_
        refine AOR.skip ⟨_, rfl, .inl ⟨_, rfl, (by rw [hb19]; rfl)⟩⟩ rfl ?_
        refine AOR.skip ⟨_, rfl, .inl ⟨_, rfl, (by rw [hb19]; rfl)⟩⟩ rfl ?_
        refine AOR.skip ⟨_, rfl, .inl ⟨_, rfl, (by rw [hb19]; rfl)⟩⟩ rfl ?_
        refine AOR.skip ⟨_, rfl, .inl ⟨_, rfl, (by rw [hb19]; rfl)⟩⟩ rfl ?_
        refine AOR.pure (LT.pickF (v := (.s (.c (bC false)))) rfl hb19) ⟨rfl, ⟨rfl, rfl⟩, trivial⟩ trivial rfl rfl ?_
        refine AOR.pure (LT.assign (v := (.s (.c (bC false)))) rfl) ⟨rfl, trivial⟩ trivial rfl rfl ?_
        refine AOR.nil ?_
        refine AWR.nil ⟨rfl, Ent.of ⟨rfl, trivial⟩ trivial⟩
    · refine AWR.ret (FPost.mk (.inr rfl) ⟨rfl, trivial⟩ trivial rfl ⟨PermP.sc, trivial⟩ trivial)
set_option maxRecDepth 100000 in
set_option maxHeartbeats 8000000 in
theorem w_spec_ChangeOf (f : TFramework) (v : (List Int)) (a : Int) (b : Int) : ∀ t, m_spec_ChangeOf f v a b = some t → Fw.Fn Try.prog 63 [(.agg [(iC f.Graph.Points), (.pv (.xs false (f.Graph.Bars.map encTBar))), (.pv (.xs false (f.Places.map encTPlace)))]), (.c (.pv (.xs false (v.map encInt)))), (.c (iC a)), (.c (iC b))] [] (.s (.c (iC t))) [] [] [] := by
  refine Fw.Fn.of (P := Try.prog) (X := []) (pn := []) (rs := (fun (t : Int) => [(.c (iC t))])) (dfs := (fun (t : Int) => [])) Try.func63 rfl Try.ntmps63 (Nat.le_of_ble_eq_true rfl) rfl ?_
  intro w0 U0 R0 g0
  unfold m_spec_ChangeOf
  refine AWR.seq ?_
  refine AWR.region ?_
  refine AOR.step (LT.box (n := 21) (v := (.agg [(iC f.Graph.Points), (.pv (.xs false (f.Graph.Bars.map encTBar))), (.pv (.xs false (f.Places.map encTPlace)))])) rfl sz37 (by exact rfl)) ⟨rfl, trivial⟩ trivial rfl rfl ?_
  refine AOR.pure (LT.assign (v := (.s (.c (iC 0)))) rfl) ⟨⟨rfl, rfl⟩, trivial⟩ trivial rfl rfl ?_
  refine AOR.nil ?_
  refine AWR.seq ?_
  refine AWR.seq ?_
  refine AWR.joinK (fun j6 => ([(1, (.s (.c (.pv (.xs false (v.map encInt)))))), (2, (.s (.c (iC a)))), (3, (.s (.c (iC b)))), (4, (.s (.c (.pl 21 0)))), (34, (.s (.c (bC j6))))], [(21, (.row 37 [[(iC f.Graph.Points), (.pv (.xs false (f.Graph.Bars.map encTBar))), (.pv (.xs false (f.Places.map encTPlace)))]]))])) ?_ (fun j6 _ => ?_)
  · refine AWR.region ?_
    refine AOR.pure (LT.bloadN (out := [(iC f.Graph.Points), (.pv (.xs false (f.Graph.Bars.map encTBar))), (.pv (.xs false (f.Places.map encTPlace)))]) rfl ag37 (infS inf37) sz37 (by exact rfl) (by exact rfl)) ⟨rfl, trivial⟩ ⟨rfl, trivial⟩ rfl rfl ?_
    refine AOR.pure (LT.move (v := (.s (.c (.pv (.xs false (v.map encInt)))))) rfl) ⟨rfl, trivial⟩ trivial rfl rfl ?_
    refine AOR.bind fun r7 hr7 => ?_
    refine AOR.pure (@LT.callF Try.prog _ _ 62 _ _ [(.agg [(iC f.Graph.Points), (.pv (.xs false (f.Graph.Bars.map encTBar))), (.pv (.xs false (f.Places.map encTPlace)))]), (.c (.pv (.xs false (v.map encInt))))] _ _ [] _ _ _ _ (w_spec_l12Vector f v r7 hr7) rfl cb62 (.cons (.agg (.cons (.same rfl) (.cons (.same rfl) (.cons (.same rfl) .nil)))) (.cons (.c (.same rfl)) .nil)) rfl rfl trivial) ⟨rfl, rfl, rfl, trivial⟩ trivial rfl rfl ?_
    refine AOR.pure (LT.not rfl) ⟨rfl, trivial⟩ trivial rfl rfl ?_
    refine AOR.pure (LT.move (v := (.s (.c (bC (!r7))))) rfl) ⟨rfl, trivial⟩ trivial rfl rfl ?_
    refine AOR.split (fun hb8 => ?_) (fun hb8 => ?_)
    · refine AOR.skip ⟨_, rfl, .inl ⟨_, rfl, (by rw [hb8]; rfl)⟩⟩ rfl ?_
      refine AOR.skip ⟨_, rfl, .inl ⟨_, rfl, (by rw [hb8]; rfl)⟩⟩ rfl ?_
      refine AOR.pure (LT.pickT (v := (.s (.c (bC true)))) rfl hb8) ⟨rfl, ⟨rfl, rfl⟩, trivial⟩ trivial rfl rfl ?_
      refine AOR.pure (LT.move (v := (.s (.c (bC true)))) rfl) ⟨rfl, trivial⟩ trivial rfl rfl ?_
      refine AOR.skip ⟨_, rfl, .inl ⟨_, rfl, rfl⟩⟩ rfl ?_
      refine AOR.skip ⟨_, rfl, .inl ⟨_, rfl, rfl⟩⟩ rfl ?_
      refine AOR.pure (LT.pickT (v := (.s (.c (bC true)))) rfl rfl) ⟨rfl, ⟨rfl, rfl⟩, trivial⟩ trivial rfl rfl ?_
      refine AOR.pure (LT.move (v := (.s (.c (bC true)))) rfl) ⟨rfl, trivial⟩ trivial rfl rfl ?_
      refine AOR.skip ⟨_, rfl, .inl ⟨_, rfl, rfl⟩⟩ rfl ?_
      refine AOR.skip ⟨_, rfl, .inl ⟨_, rfl, rfl⟩⟩ rfl ?_
      refine AOR.skip ⟨_, rfl, .inl ⟨_, rfl, rfl⟩⟩ rfl ?_
      refine AOR.skip ⟨_, rfl, .inl ⟨_, rfl, rfl⟩⟩ rfl ?_
      refine AOR.skip ⟨_, rfl, .inl ⟨_, rfl, rfl⟩⟩ rfl ?_
      refine AOR.pure (LT.pickT (v := (.s (.c (bC true)))) rfl rfl) ⟨rfl, ⟨rfl, rfl⟩, trivial⟩ trivial rfl rfl ?_
      refine AOR.pure (LT.move (v := (.s (.c (bC true)))) rfl) ⟨rfl, trivial⟩ trivial rfl rfl ?_
      refine AOR.skip ⟨_, rfl, .inl ⟨_, rfl, rfl⟩⟩ rfl ?_
      refine AOR.skip ⟨_, rfl, .inl ⟨_, rfl, rfl⟩⟩ rfl ?_
      refine AOR.skip ⟨_, rfl, .inl ⟨_, rfl, rfl⟩⟩ rfl ?_
      refine AOR.skip ⟨_, rfl, .inl ⟨_, rfl, rfl⟩⟩ rfl ?_
      refine AOR.skip ⟨_, rfl, .inl ⟨_, rfl, rfl⟩⟩ rfl ?_
      refine AOR.pure (LT.pickT (v := (.s (.c (bC true)))) rfl rfl) ⟨rfl, ⟨rfl, rfl⟩, trivial⟩ trivial rfl rfl ?_
      refine AOR.nil ?_
      refine AWR.nil ⟨rfl, Ent.of ⟨rfl, rfl, rfl, rfl, rfl, trivial⟩ ⟨rfl, trivial⟩⟩
    · refine AOR.pure (LT.move (v := (.s (.c (iC a)))) rfl) ⟨rfl, trivial⟩ trivial ⟨_, rfl, .inl ⟨_, rfl, (by rw [hb8]; rfl)⟩⟩ rfl ?_
      refine AOR.pure (LT.lss rfl) ⟨rfl, ⟨rfl, rfl⟩, trivial⟩ trivial ⟨_, rfl, .inl ⟨_, rfl, (by rw [hb8]; rfl)⟩⟩ rfl ?_
      refine AOR.pure (LT.pickF (v := (.s (.c (bC (decide (a < 0)))))) rfl hb8) ⟨rfl, rfl, trivial⟩ trivial rfl rfl ?_
      refine AOR.pure (LT.move (v := (.s (.c (bC (decide (a < 0)))))) rfl) ⟨rfl, trivial⟩ trivial rfl rfl ?_
      refine AOR.split (fun hb9 => ?_) (fun hb9 => ?_)
      · refine AOR.skip ⟨_, rfl, .inl ⟨_, rfl, (by rw [hb9]; rfl)⟩⟩ rfl ?_
        refine AOR.skip ⟨_, rfl, .inl ⟨_, rfl, (by rw [hb9]; rfl)⟩⟩ rfl ?_
        refine AOR.pure (LT.pickT (v := (.s (.c (bC true)))) rfl hb9) ⟨rfl, ⟨rfl, rfl⟩, trivial⟩ trivial rfl rfl ?_
        refine AOR.pure (LT.move (v := (.s (.c (bC true)))) rfl) ⟨rfl, trivial⟩ trivial rfl rfl ?_
        refine AOR.skip ⟨_, rfl, .inl ⟨_, rfl, rfl⟩⟩ rfl ?_
        refine AOR.skip ⟨_, rfl, .inl ⟨_, rfl, rfl⟩⟩ rfl ?_
        refine AOR.skip ⟨_, rfl, .inl ⟨_, rfl, rfl⟩⟩ rfl ?_
        refine AOR.skip ⟨_, rfl, .inl ⟨_, rfl, rfl⟩⟩ rfl ?_
        refine AOR.skip ⟨_, rfl, .inl ⟨_, rfl, rfl⟩⟩ rfl ?_
        refine AOR.pure (LT.pickT (v := (.s (.c (bC true)))) rfl rfl) ⟨rfl, ⟨rfl, rfl⟩, trivial⟩ trivial rfl rfl ?_
        refine AOR.pure (LT.move (v := (.s (.c (bC true)))) rfl) ⟨rfl, trivial⟩ trivial rfl rfl ?_
        refine AOR.skip ⟨_, rfl, .inl ⟨_, rfl, rfl⟩⟩ rfl ?_
        refine AOR.skip ⟨_, rfl, .inl ⟨_, rfl, rfl⟩⟩ rfl ?_
        refine AOR.skip ⟨_, rfl, .inl ⟨_, rfl, rfl⟩⟩ rfl ?_
        refine AOR.skip ⟨_, rfl, .inl ⟨_, rfl, rfl⟩⟩ rfl ?_
        refine AOR.skip ⟨_, rfl, .inl ⟨_, rfl, rfl⟩⟩ rfl ?_
        refine AOR.pure (LT.pickT (v := (.s (.c (bC true)))) rfl rfl) ⟨rfl, ⟨rfl, rfl⟩, trivial⟩ trivial rfl rfl ?_
        refine AOR.nil ?_
        refine AWR.nil ⟨rfl, Ent.of ⟨rfl, rfl, rfl, rfl, rfl, trivial⟩ ⟨rfl, trivial⟩⟩
      · refine AOR.pure (LT.move (v := (.s (.c (iC b)))) rfl) ⟨rfl, trivial⟩ trivial ⟨_, rfl, .inl ⟨_, rfl, (by rw [hb9]; rfl)⟩⟩ rfl ?_
        refine AOR.pure (LT.lss rfl) ⟨rfl, ⟨rfl, rfl⟩, trivial⟩ trivial ⟨_, rfl, .inl ⟨_, rfl, (by rw [hb9]; rfl)⟩⟩ rfl ?_
        refine AOR.pure (LT.pickF (v := (.s (.c (bC (decide (b < 0)))))) rfl hb9) ⟨rfl, rfl, trivial⟩ trivial rfl rfl ?_
        refine AOR.pure (LT.move (v := (.s (.c (bC (decide (b < 0)))))) rfl) ⟨rfl, trivial⟩ trivial rfl rfl ?_
        refine AOR.split (fun hb10 => ?_) (fun hb10 => ?_)
        · refine AOR.skip ⟨_, rfl, .inl ⟨_, rfl, (by rw [hb10]; rfl)⟩⟩ rfl ?_
          refine AOR.skip ⟨_, rfl, .inl ⟨_, rfl, (by rw [hb10]; rfl)⟩⟩ rfl ?_
          refine AOR.skip ⟨_, rfl, .inl ⟨_, rfl, (by rw [hb10]; rfl)⟩⟩ rfl ?_
          refine AOR.skip ⟨_, rfl, .inl ⟨_, rfl, (by rw [hb10]; rfl)⟩⟩ rfl ?_
          refine AOR.skip ⟨_, rfl, .inl ⟨_, rfl, (by rw [hb10]; rfl)⟩⟩ rfl ?_
          refine AOR.pure (LT.pickT (v := (.s (.c (bC true)))) rfl hb10) ⟨rfl, ⟨rfl, rfl⟩, trivial⟩ trivial rfl rfl ?_
          refine AOR.pure (LT.move (v := (.s (.c (bC true)))) rfl) ⟨rfl, trivial⟩ trivial rfl rfl ?_
          refine AOR.skip ⟨_, rfl, .inl ⟨_, rfl, rfl⟩⟩ rfl ?_
          refine AOR.skip ⟨_, rfl, .inl ⟨_, rfl, rfl⟩⟩ rfl ?_
          refine AOR.skip ⟨_, rfl, .inl ⟨_, rfl, rfl⟩⟩ rfl ?_
          refine AOR.skip ⟨_, rfl, .inl ⟨_, rfl, rfl⟩⟩ rfl ?_
          refine AOR.skip ⟨_, rfl, .inl ⟨_, rfl, rfl⟩⟩ rfl ?_
          refine AOR.pure (LT.pickT (v := (.s (.c (bC true)))) rfl rfl) ⟨rfl, ⟨rfl, rfl⟩, trivial⟩ trivial rfl rfl ?_
          refine AOR.nil ?_
          refine AWR.nil ⟨rfl, Ent.of ⟨rfl, rfl, rfl, rfl, rfl, trivial⟩ ⟨rfl, trivial⟩⟩
        · refine AOR.pure (LT.move (v := (.s (.c (iC a)))) rfl) ⟨rfl, trivial⟩ trivial ⟨_, rfl, .inl ⟨_, rfl, (by rw [hb10]; rfl)⟩⟩ rfl ?_
          refine AOR.pure (LT.fieldPl rfl fo37_0) ⟨rfl, trivial⟩ trivial ⟨_, rfl, .inl ⟨_, rfl, (by rw [hb10]; rfl)⟩⟩ rfl ?_
          refine AOR.pure (LT.fieldPl rfl fo34_0) ⟨rfl, trivial⟩ trivial ⟨_, rfl, .inl ⟨_, rfl, (by rw [hb10]; rfl)⟩⟩ rfl ?_
          refine AOR.pure (LT.bload1 (c := (iC f.Graph.Points)) rfl ag3 (by exact rfl)) ⟨rfl, trivial⟩ ⟨rfl, trivial⟩ ⟨_, rfl, .inl ⟨_, rfl, (by rw [hb10]; rfl)⟩⟩ rfl ?_
          refine AOR.pure (LT.geq rfl) ⟨rfl, rfl, trivial⟩ trivial ⟨_, rfl, .inl ⟨_, rfl, (by rw [hb10]; rfl)⟩⟩ rfl ?_
          refine AOR.pure (LT.pickF (v := (.s (.c (bC (decide (f.Graph.Points ≤ a)))))) rfl hb10) ⟨rfl, rfl, trivial⟩ trivial rfl rfl ?_
          refine AOR.pure (LT.move (v := (.s (.c (bC (decide (f.Graph.Points ≤ a)))))) rfl) ⟨rfl, trivial⟩ trivial rfl rfl ?_
          refine AOR.split (fun hb11 => ?_) (fun hb11 => ?_)
          · refine AOR.skip ⟨_, rfl, .inl ⟨_, rfl, (by rw [hb11]; rfl)⟩⟩ rfl ?_
            refine AOR.skip ⟨_, rfl, .inl ⟨_, rfl, (by rw [hb11]; rfl)⟩⟩ rfl ?_
            refine AOR.skip ⟨_, rfl, .inl ⟨_, rfl, (by rw [hb11]; rfl)⟩⟩ rfl ?_
            refine AOR.skip ⟨_, rfl, .inl ⟨_, rfl, (by rw [hb11]; rfl)⟩⟩ rfl ?_
            refine AOR.skip ⟨_, rfl, .inl ⟨_, rfl, (by rw [hb11]; rfl)⟩⟩ rfl ?_
            refine AOR.pure (LT.pickT (v := (.s (.c (bC true)))) rfl hb11) ⟨rfl, ⟨rfl, rfl⟩, trivial⟩ trivial rfl rfl ?_
            refine AOR.nil ?_
            refine AWR.nil ⟨rfl, Ent.of ⟨rfl, rfl, rfl, rfl, rfl, trivial⟩ ⟨rfl, trivial⟩⟩
          · refine AOR.pure (LT.move (v := (.s (.c (iC b)))) rfl) ⟨rfl, trivial⟩ trivial ⟨_, rfl, .inl ⟨_, rfl, (by rw [hb11]; rfl)⟩⟩ rfl ?_
            refine AOR.pure (LT.fieldPl rfl fo37_0) ⟨rfl, trivial⟩ trivial ⟨_, rfl, .inl ⟨_, rfl, (by rw [hb11]; rfl)⟩⟩ rfl ?_
            refine AOR.pure (LT.fieldPl rfl fo34_0) ⟨rfl, trivial⟩ trivial ⟨_, rfl, .inl ⟨_, rfl, (by rw [hb11]; rfl)⟩⟩ rfl ?_
            refine AOR.pure (LT.bload1 (c := (iC f.Graph.Points)) rfl ag3 (by exact rfl)) ⟨rfl, trivial⟩ ⟨rfl, trivial⟩ ⟨_, rfl, .inl ⟨_, rfl, (by rw [hb11]; rfl)⟩⟩ rfl ?_
            refine AOR.pure (LT.geq rfl) ⟨rfl, rfl, trivial⟩ trivial ⟨_, rfl, .inl ⟨_, rfl, (by rw [hb11]; rfl)⟩⟩ rfl ?_
            refine AOR.pure (LT.pickF (v := (.s (.c (bC (decide (f.Graph.Points ≤ b)))))) rfl hb11) ⟨rfl, rfl, trivial⟩ trivial rfl rfl ?_
            refine AOR.nil ?_
            refine AWR.nil ⟨rfl, Ent.of ⟨rfl, rfl, rfl, rfl, rfl, trivial⟩ ⟨rfl, trivial⟩⟩
  · refine AWR.cond rfl (fun hc12 => ?_) (fun hc12 => ?_)
    · refine AWR.seq ?_
      refine AWR.region ?_
      refine AOR.pure (LT.assign (v := (.s (.c (iC 0)))) rfl) ⟨⟨rfl, rfl⟩, trivial⟩ trivial rfl rfl ?_
      refine AOR.nil ?_
      refine AWR.ret (FPost.mk (.inr rfl) ⟨rfl, trivial⟩ trivial rfl ⟨PermP.sc, trivial⟩ trivial)
    · refine AWR.skip ?_
      refine AWR.seq ?_
      refine AWR.draw mixed ?_
      refine AOD.pure (LT.fieldPl rfl fo37_1) ⟨rfl, trivial⟩ trivial rfl rfl ?_
      refine AOD.pure (LT.bload1 (c := (.pv (.xs false (f.Places.map encTPlace)))) rfl ag35 (by exact rfl)) ⟨rfl, trivial⟩ ⟨rfl, trivial⟩ rfl rfl ?_
      refine AOD.pure (LT.move (v := (.s (.c (iC a)))) rfl) ⟨rfl, trivial⟩ trivial rfl rfl ?_
      refine AOD.bind fun x13 hx13 => ?_
      refine AOD.pure (LT.tindexRO (enc := encTPlace) rfl el35 hx13 sz88) ⟨rfl, rfl, trivial⟩ trivial rfl rfl ?_
      refine AOD.pure (LT.fieldPx rfl fo88_0) ⟨rfl, trivial⟩ trivial rfl rfl ?_
      refine AOD.pure (LT.loadPx1 rfl ag3) ⟨rfl, trivial⟩ trivial rfl rfl ?_
      refine AOD.pure (LT.fieldPl rfl fo37_1) ⟨rfl, trivial⟩ trivial rfl rfl ?_
      refine AOD.pure (LT.bload1 (c := (.pv (.xs false (f.Places.map encTPlace)))) rfl ag35 (by exact rfl)) ⟨rfl, trivial⟩ ⟨rfl, trivial⟩ rfl rfl ?_
      refine AOD.pure (LT.move (v := (.s (.c (iC b)))) rfl) ⟨rfl, trivial⟩ trivial rfl rfl ?_
      refine AOD.bind fun x14 hx14 => ?_
      refine AOD.pure (LT.tindexRO (enc := encTPlace) rfl el35 hx14 sz88) ⟨rfl, rfl, trivial⟩ trivial rfl rfl ?_
      refine AOD.pure (LT.fieldPx rfl fo88_0) ⟨rfl, trivial⟩ trivial rfl rfl ?_
      refine AOD.pure (LT.loadPx1 rfl ag3) ⟨rfl, trivial⟩ trivial rfl rfl ?_
      refine AOD.pure (LT.sub rfl) ⟨rfl, rfl, trivial⟩ trivial rfl rfl ?_
      refine AOD.pure (LT.move (v := (.s (.c (.pv (.xs false (v.map encInt)))))) rfl) ⟨rfl, trivial⟩ trivial rfl rfl ?_
      refine AOD.pure (LT.move (v := (.s (.c (iC a)))) rfl) ⟨rfl, trivial⟩ trivial rfl rfl ?_
      refine AOD.pure (LT.mul rfl) ⟨⟨rfl, rfl⟩, rfl, trivial⟩ trivial rfl rfl ?_
      refine AOD.bind fun x15 hx15 => ?_
      refine AOD.pure (LT.tindexRO (enc := encInt) rfl el28 hx15 sz3) ⟨rfl, rfl, trivial⟩ trivial rfl rfl ?_
      refine AOD.pure (LT.loadPx1 rfl ag3) ⟨rfl, trivial⟩ trivial rfl rfl ?_
      refine AOD.pure (LT.move (v := (.s (.c (.pv (.xs false (v.map encInt)))))) rfl) ⟨rfl, trivial⟩ trivial rfl rfl ?_
      refine AOD.pure (LT.move (v := (.s (.c (iC b)))) rfl) ⟨rfl, trivial⟩ trivial rfl rfl ?_
      refine AOD.pure (LT.mul rfl) ⟨⟨rfl, rfl⟩, rfl, trivial⟩ trivial rfl rfl ?_
      refine AOD.bind fun x16 hx16 => ?_
      refine AOD.pure (LT.tindexRO (enc := encInt) rfl el28 hx16 sz3) ⟨rfl, rfl, trivial⟩ trivial rfl rfl ?_
      refine AOD.pure (LT.loadPx1 rfl ag3) ⟨rfl, trivial⟩ trivial rfl rfl ?_
      refine AOD.pure (LT.sub rfl) ⟨rfl, rfl, trivial⟩ trivial rfl rfl ?_
      refine AOD.pure (LT.mul rfl) ⟨rfl, rfl, trivial⟩ trivial rfl rfl ?_
      refine AOD.pure (LT.fieldPl rfl fo37_1) ⟨rfl, trivial⟩ trivial rfl rfl ?_
      refine AOD.pure (LT.bload1 (c := (.pv (.xs false (f.Places.map encTPlace)))) rfl ag35 (by exact rfl)) ⟨rfl, trivial⟩ ⟨rfl, trivial⟩ rfl rfl ?_
      refine AOD.pure (LT.move (v := (.s (.c (iC a)))) rfl) ⟨rfl, trivial⟩ trivial rfl rfl ?_
      refine AOD.bind fun x17 hx17 => ?_
      refine AOD.pure (LT.tindexRO (enc := encTPlace) rfl el35 hx17 sz88) ⟨rfl, rfl, trivial⟩ trivial rfl rfl ?_
      refine AOD.pure (LT.fieldPx rfl fo88_1) ⟨rfl, trivial⟩ trivial rfl rfl ?_
      refine AOD.pure (LT.loadPx1 rfl ag3) ⟨rfl, trivial⟩ trivial rfl rfl ?_
      refine AOD.pure (LT.fieldPl rfl fo37_1) ⟨rfl, trivial⟩ trivial rfl rfl ?_
      refine AOD.pure (LT.bload1 (c := (.pv (.xs false (f.Places.map encTPlace)))) rfl ag35 (by exact rfl)) ⟨rfl, trivial⟩ ⟨rfl, trivial⟩ rfl rfl ?_
      refine AOD.pure (LT.move (v := (.s (.c (iC b)))) rfl) ⟨rfl, trivial⟩ trivial rfl rfl ?_
      refine AOD.bind fun x18 hx18 => ?_
      refine AOD.pure (LT.tindexRO (enc := encTPlace) rfl el35 hx18 sz88) ⟨rfl, rfl, trivial⟩ trivial rfl rfl ?_
      refine AOD.pure (LT.fieldPx rfl fo88_1) ⟨rfl, trivial⟩ trivial rfl rfl ?_
      refine AOD.pure (LT.loadPx1 rfl ag3) ⟨rfl, trivial⟩ trivial rfl rfl ?_
      refine AOD.pure (LT.sub rfl) ⟨rfl, rfl, trivial⟩ trivial rfl rfl ?_
      refine AOD.pure (LT.move (v := (.s (.c (.pv (.xs false (v.map encInt)))))) rfl) ⟨rfl, trivial⟩ trivial rfl rfl ?_
      refine AOD.pure (LT.move (v := (.s (.c (iC a)))) rfl) ⟨rfl, trivial⟩ trivial rfl rfl ?_
      refine AOD.pure (LT.mul rfl) ⟨⟨rfl, rfl⟩, rfl, trivial⟩ trivial rfl rfl ?_
      refine AOD.pure (LT.add rfl) ⟨rfl, ⟨rfl, rfl⟩, trivial⟩ trivial rfl rfl ?_
      refine AOD.bind fun x19 hx19 => ?_
      refine AOD.pure (LT.tindexRO (enc := encInt) rfl el28 hx19 sz3) ⟨rfl, rfl, trivial⟩ trivial rfl rfl ?_
      refine AOD.pure (LT.loadPx1 rfl ag3) ⟨rfl, trivial⟩ trivial rfl rfl ?_
      refine AOD.pure (LT.move (v := (.s (.c (.pv (.xs false (v.map encInt)))))) rfl) ⟨rfl, trivial⟩ trivial rfl rfl ?_
      refine AOD.pure (LT.move (v := (.s (.c (iC b)))) rfl) ⟨rfl, trivial⟩ trivial rfl rfl ?_
      refine AOD.pure (LT.mul rfl) ⟨⟨rfl, rfl⟩, rfl, trivial⟩ trivial rfl rfl ?_
      refine AOD.pure (LT.add rfl) ⟨rfl, ⟨rfl, rfl⟩, trivial⟩ trivial rfl rfl ?_
      refine AOD.bind fun x20 hx20 => ?_
      refine AOD.pure (LT.tindexRO (enc := encInt) rfl el28 hx20 sz3) ⟨rfl, rfl, trivial⟩ trivial rfl rfl ?_
      refine AOD.pure (LT.loadPx1 rfl ag3) ⟨rfl, trivial⟩ trivial rfl rfl ?_
      refine AOD.pure (LT.sub rfl) ⟨rfl, rfl, trivial⟩ trivial rfl rfl ?_
      refine AOD.pure (LT.mul rfl) ⟨rfl, rfl, trivial⟩ trivial rfl rfl ?_
      refine AOD.pure (LT.add rfl) ⟨rfl, rfl, trivial⟩ trivial rfl rfl ?_
      refine AOD.pure (LT.assign (v := (.s (.c (iC (w64 ((w64 ((w64 (x13.X - x14.X)) * (w64 (x15 - x16)))) + (w64 ((w64 (x17.Y - x18.Y)) * (w64 (x19 - x20)))))))))) rfl) ⟨rfl, trivial⟩ trivial rfl rfl ?_
      refine AOD.nil (by kernel_rfl) ?_
      refine AWR.ret (FPost.mk (.inr rfl) ⟨rfl, trivial⟩ trivial rfl ⟨PermP.sc, trivial⟩ trivial)
set_option maxRecDepth 100000 in
set_option maxHeartbeats 8000000 in
theorem w_spec_IsAllowedMotion (tV : TTensegrity) (v : (List Int)) : ∀ t, m_spec_IsAllowedMotion tV v = some t → Fw.Fn Try.prog 22 [(.agg [(iC tV.Framework.Graph.Points), (.pv (.xs false (tV.Framework.Graph.Bars.map encTBar))), (.pv (.xs false (tV.Framework.Places.map encTPlace))), (.pv (.xs false (tV.Kinds.map encInt)))]), (.c (.pv (.xs false (v.map encInt))))] [] (.s (.c (bC t))) [] [] [] := by
  refine Fw.Fn.of (P := Try.prog) (X := []) (pn := []) (rs := (fun (t : Bool) => [(.c (bC t))])) (dfs := (fun (t : Bool) => [])) Try.func22 rfl Try.ntmps22 (Nat.le_of_ble_eq_true rfl) rfl ?_
  intro w0 U0 R0 g0
  unfold m_spec_IsAllowedMotion
  refine AWR.seq ?_
  refine AWR.region ?_
  refine AOR.step (LT.box (n := 21) (v := (.agg [(iC tV.Framework.Graph.Points), (.pv (.xs false (tV.Framework.Graph.Bars.map encTBar))), (.pv (.xs false (tV.Framework.Places.map encTPlace))), (.pv (.xs false (tV.Kinds.map encInt)))])) rfl sz39 (by exact rfl)) ⟨rfl, trivial⟩ trivial rfl rfl ?_
  refine AOR.pure (LT.assign (v := (.s (.c (bC false)))) rfl) ⟨⟨rfl, rfl⟩, trivial⟩ trivial rfl rfl ?_
  refine AOR.nil ?_
  refine AWR.seq ?_
  refine AWR.seq ?_
  refine AWR.joinK (fun j4 => ([(1, (.s (.c (.pv (.xs false (v.map encInt)))))), (2, (.s (.c (.pl 21 0)))), (16, (.s (.c (bC j4))))], [(21, (.row 39 [[(iC tV.Framework.Graph.Points), (.pv (.xs false (tV.Framework.Graph.Bars.map encTBar))), (.pv (.xs false (tV.Framework.Places.map encTPlace))), (.pv (.xs false (tV.Kinds.map encInt)))]]))])) ?_ (fun j4 _ => ?_)
  · refine AWR.region ?_
    refine AOR.pure (LT.bloadN (out := [(iC tV.Framework.Graph.Points), (.pv (.xs false (tV.Framework.Graph.Bars.map encTBar))), (.pv (.xs false (tV.Framework.Places.map encTPlace))), (.pv (.xs false (tV.Kinds.map encInt)))]) rfl ag39 (infS inf39) sz39 (by exact rfl) (by exact rfl)) ⟨rfl, trivial⟩ ⟨rfl, trivial⟩ rfl rfl ?_
    refine AOR.bind fun r5 hr5 => ?_
    refine AOR.pure (@LT.callF Try.prog _ _ 61 _ _ [(.agg [(iC tV.Framework.Graph.Points), (.pv (.xs false (tV.Framework.Graph.Bars.map encTBar))), (.pv (.xs false (tV.Framework.Places.map encTPlace))), (.pv (.xs false (tV.Kinds.map encInt)))])] _ _ [] _ _ _ _ (w_spec_IsTensegrity tV r5 hr5) rfl cb61 (.cons (.agg (.cons (.same rfl) (.cons (.same rfl) (.cons (.same rfl) (.cons (.same rfl) .nil))))) .nil) rfl rfl trivial) ⟨rfl, rfl, trivial⟩ trivial rfl rfl ?_
    refine AOR.pure (LT.not rfl) ⟨rfl, trivial⟩ trivial rfl rfl ?_
    refine AOR.pure (LT.move (v := (.s (.c (bC (!r5))))) rfl) ⟨rfl, trivial⟩ trivial rfl rfl ?_
    refine AOR.split (fun hb6 => ?_) (fun hb6 => ?_)
    · refine AOR.skip ⟨_, rfl, .inl ⟨_, rfl, (by rw [hb6]; rfl)⟩⟩ rfl ?_
      refine AOR.skip ⟨_, rfl, .inl ⟨_, rfl, (by rw [hb6]; rfl)⟩⟩ rfl ?_
      refine AOR.skip ⟨_, rfl, .inl ⟨_, rfl, (by rw [hb6]; rfl)⟩⟩ rfl ?_
      refine AOR.skip ⟨_, rfl, .inl ⟨_, rfl, (by rw [hb6]; rfl)⟩⟩ rfl ?_
      refine AOR.skip ⟨_, rfl, .inl ⟨_, rfl, (by rw [hb6]; rfl)⟩⟩ rfl ?_
      refine AOR.pure (LT.pickT (v := (.s (.c (bC true)))) rfl hb6) ⟨rfl, ⟨rfl, rfl⟩, trivial⟩ trivial rfl rfl ?_
      refine AOR.nil ?_
      refine AWR.nil ⟨rfl, Ent.of ⟨rfl, rfl, rfl, trivial⟩ ⟨rfl, trivial⟩⟩
    · refine AOR.pure (LT.fieldPl rfl fo39_0) ⟨rfl, trivial⟩ trivial ⟨_, rfl, .inl ⟨_, rfl, (by rw [hb6]; rfl)⟩⟩ rfl ?_
      refine AOR.pure (LT.bloadN (out := [(iC tV.Framework.Graph.Points), (.pv (.xs false (tV.Framework.Graph.Bars.map encTBar))), (.pv (.xs false (tV.Framework.Places.map encTPlace)))]) rfl ag37 (infS inf37) sz37 (by exact rfl) (by exact rfl)) ⟨rfl, trivial⟩ ⟨rfl, trivial⟩ ⟨_, rfl, .inl ⟨_, rfl, (by rw [hb6]; rfl)⟩⟩ rfl ?_
      refine AOR.pure (LT.move (v := (.s (.c (.pv (.xs false (v.map encInt)))))) rfl) ⟨rfl, trivial⟩ trivial ⟨_, rfl, .inl ⟨_, rfl, (by rw [hb6]; rfl)⟩⟩ rfl ?_
      refine AOR.bind fun r7 hr7 => ?_
      refine AOR.pure (@LT.callF Try.prog _ _ 62 _ _ [(.agg [(iC tV.Framework.Graph.Points), (.pv (.xs false (tV.Framework.Graph.Bars.map encTBar))), (.pv (.xs false (tV.Framework.Places.map encTPlace)))]), (.c (.pv (.xs false (v.map encInt))))] _ _ [] _ _ _ _ (w_spec_l12Vector tV.Framework v r7 hr7) rfl cb62 (.cons (.agg (.cons (.same rfl) (.cons (.same rfl) (.cons (.same rfl) .nil)))) (.cons (.c (.same rfl)) .nil)) rfl rfl trivial) ⟨rfl, rfl, rfl, trivial⟩ trivial ⟨_, rfl, .inl ⟨_, rfl, (by rw [hb6]; rfl)⟩⟩ rfl ?_
      refine AOR.pure (LT.not rfl) ⟨rfl, trivial⟩ trivial ⟨_, rfl, .inl ⟨_, rfl, (by rw [hb6]; rfl)⟩⟩ rfl ?_
      refine AOR.pure (LT.pickF (v := (.s (.c (bC (!r7))))) rfl hb6) ⟨rfl, rfl, trivial⟩ trivial rfl rfl ?_
      refine AOR.nil ?_
      refine AWR.nil ⟨rfl, Ent.of ⟨rfl, rfl, rfl, trivial⟩ ⟨rfl, trivial⟩⟩
  · refine AWR.cond rfl (fun hc8 => ?_) (fun hc8 => ?_)
    · refine AWR.seq ?_
      refine AWR.region ?_
      refine AOR.pure (LT.assign (v := (.s (.c (bC false)))) rfl) ⟨⟨rfl, rfl⟩, trivial⟩ trivial rfl rfl ?_
      refine AOR.nil ?_
      refine AWR.ret (FPost.mk (.inr rfl) ⟨rfl, trivial⟩ trivial rfl ⟨PermP.sc, trivial⟩ trivial)
    · refine AWR.skip ?_
      refine AWR.seq ?_
      refine AWR.seq ?_
      refine AWR.region ?_
      refine AOR.pure (LT.assign (v := (.s (.c (iC 0)))) rfl) ⟨⟨rfl, rfl⟩, trivial⟩ trivial rfl rfl ?_
      refine AOR.nil ?_
      refine AWR.block ?_
      refine AWR.loopR (id := 0) (m_spec_IsAllowedMotion_L1 tV v) (fun s9 => ([(1, (.s (.c (.pv (.xs false (v.map encInt)))))), (2, (.s (.c (.pl 21 0)))), (5, (.s (.c (iC s9))))], [(21, (.row 39 [[(iC tV.Framework.Graph.Points), (.pv (.xs false (tV.Framework.Graph.Bars.map encTBar))), (.pv (.xs false (tV.Framework.Places.map encTPlace))), (.pv (.xs false (tV.Kinds.map encInt)))]]))])) (fun b90 => ([], [])) (FPost Try.prog Try.f22.results.toList [] [] (fun (t : Bool) => [(.c (bC t))]) (fun (t : Bool) => [])) ?_ (Ent.of ⟨rfl, rfl, rfl, trivial⟩ ⟨rfl, trivial⟩) rfl (fun b90 _ => ?_) (by intro r t σ m ht hk; injection ht with ht; subst ht; exact hk)
      · intro s9
        unfold m_spec_IsAllowedMotion_L1
        refine AWR.seq ?_
        refine AWR.seq ?_
        refine AWR.region ?_
        refine AOR.pure (LT.move (v := (.s (.c (iC s9)))) rfl) ⟨rfl, trivial⟩ trivial rfl rfl ?_
        refine AOR.pure (LT.fieldPl rfl fo39_1) ⟨rfl, trivial⟩ trivial rfl rfl ?_
        refine AOR.pure (LT.bload1 (c := (.pv (.xs false (tV.Kinds.map encInt)))) rfl ag28 (by exact rfl)) ⟨rfl, trivial⟩ ⟨rfl, trivial⟩ rfl rfl ?_
        refine AOR.pure (LT.tlenRO rfl und28) ⟨rfl, trivial⟩ trivial rfl rfl ?_
        refine AOR.pure (LT.lss rfl) ⟨rfl, rfl, trivial⟩ trivial rfl rfl ?_
        refine AOR.nil ?_
        refine AWR.cond rfl (fun hc91 => ?_) (fun hc91 => ?_)
        · refine AWR.skip ?_
          refine AWR.seq ?_
          refine AWR.block ?_
          refine AWR.seq ?_
          refine AWR.draw mixed ?_
          refine AOD.pure (LT.fieldPl rfl fo39_0) ⟨rfl, trivial⟩ trivial rfl rfl ?_
          refine AOD.pure (LT.bloadN (out := [(iC tV.Framework.Graph.Points), (.pv (.xs false (tV.Framework.Graph.Bars.map encTBar))), (.pv (.xs false (tV.Framework.Places.map encTPlace)))]) rfl ag37 (infS inf37) sz37 (by exact rfl) (by exact rfl)) ⟨rfl, trivial⟩ ⟨rfl, trivial⟩ rfl rfl ?_
          refine AOD.pure (LT.move (v := (.s (.c (.pv (.xs false (v.map encInt)))))) rfl) ⟨rfl, trivial⟩ trivial rfl rfl ?_
          refine AOD.pure (LT.fieldPl rfl fo39_0) ⟨rfl, trivial⟩ trivial rfl rfl ?_
          refine AOD.pure (LT.fieldPl rfl fo37_0) ⟨rfl, trivial⟩ trivial rfl rfl ?_
          refine AOD.pure (LT.fieldPl rfl fo34_1) ⟨rfl, trivial⟩ trivial rfl rfl ?_
          refine AOD.pure (LT.bload1 (c := (.pv (.xs false (tV.Framework.Graph.Bars.map encTBar)))) rfl ag32 (by exact rfl)) ⟨rfl, trivial⟩ ⟨rfl, trivial⟩ rfl rfl ?_
          refine AOD.pure (LT.move (v := (.s (.c (iC s9)))) rfl) ⟨rfl, trivial⟩ trivial rfl rfl ?_
          refine AOD.bind fun x92 hx92 => ?_
          refine AOD.pure (LT.tindexRO (enc := encTBar) rfl el32 hx92 sz69) ⟨rfl, rfl, trivial⟩ trivial rfl rfl ?_
          refine AOD.pure (LT.fieldPx rfl fo69_0) ⟨rfl, trivial⟩ trivial rfl rfl ?_
          refine AOD.pure (LT.loadPx1 rfl ag3) ⟨rfl, trivial⟩ trivial rfl rfl ?_
          refine AOD.pure (LT.fieldPl rfl fo39_0) ⟨rfl, trivial⟩ trivial rfl rfl ?_
          refine AOD.pure (LT.fieldPl rfl fo37_0) ⟨rfl, trivial⟩ trivial rfl rfl ?_
          refine AOD.pure (LT.fieldPl rfl fo34_1) ⟨rfl, trivial⟩ trivial rfl rfl ?_
          refine AOD.pure (LT.bload1 (c := (.pv (.xs false (tV.Framework.Graph.Bars.map encTBar)))) rfl ag32 (by exact rfl)) ⟨rfl, trivial⟩ ⟨rfl, trivial⟩ rfl rfl ?_
          refine AOD.pure (LT.move (v := (.s (.c (iC s9)))) rfl) ⟨rfl, trivial⟩ trivial rfl rfl ?_
          refine AOD.bind fun x93 hx93 => ?_
          refine AOD.pure (LT.tindexRO (enc := encTBar) rfl el32 hx93 sz69) ⟨rfl, rfl, trivial⟩ trivial rfl rfl ?_
          refine AOD.pure (LT.fieldPx rfl fo69_1) ⟨rfl, trivial⟩ trivial rfl rfl ?_
          refine AOD.pure (LT.loadPx1 rfl ag3) ⟨rfl, trivial⟩ trivial rfl rfl ?_
          refine AOD.bind fun r94 hr94 => ?_
          refine AOD.pure (@LT.callF Try.prog _ _ 63 _ _ [(.agg [(iC tV.Framework.Graph.Points), (.pv (.xs false (tV.Framework.Graph.Bars.map encTBar))), (.pv (.xs false (tV.Framework.Places.map encTPlace)))]), (.c (.pv (.xs false (v.map encInt)))), (.c (iC x92.A)), (.c (iC x93.B))] _ _ [] _ _ _ _ (w_spec_ChangeOf tV.Framework v x92.A x93.B r94 hr94) rfl cb63 (.cons (.agg (.cons (.same rfl) (.cons (.same rfl) (.cons (.same rfl) .nil)))) (.cons (.c (.same rfl)) (.cons (.c (.same rfl)) (.cons (.c (.same rfl)) .nil)))) rfl rfl trivial) ⟨rfl, rfl, rfl, rfl, rfl, trivial⟩ trivial rfl rfl ?_
          refine AOD.pure (LT.assign (v := (.s (.c (iC r94)))) rfl) ⟨rfl, trivial⟩ trivial rfl rfl ?_
          refine AOD.nil (by kernel_rfl) ?_
          refine AWR.seq ?_
          refine AWR.joinK (fun j112 => ([(1, (.s (.c (.pv (.xs false (v.map encInt)))))), (2, (.s (.c (.pl 21 0)))), (5, (.s (.c (iC s9)))), (77, (.s (.c (bC j112))))], [(21, (.row 39 [[(iC tV.Framework.Graph.Points), (.pv (.xs false (tV.Framework.Graph.Bars.map encTBar))), (.pv (.xs false (tV.Framework.Places.map encTPlace))), (.pv (.xs false (tV.Kinds.map encInt)))]]))])) ?_ (fun j112 _ => ?_)
          · refine AWR.ent (Ent.of (σ' := [(1, (.s (.c (.pv (.xs false (v.map encInt)))))), (2, (.s (.c (.pl 21 0)))), (5, (.s (.c (iC s9)))), (6, (.s (.c (iC r94))))]) (m' := [(21, (.row 39 [[(iC tV.Framework.Graph.Points), (.pv (.xs false (tV.Framework.Graph.Bars.map encTBar))), (.pv (.xs false (tV.Framework.Places.map encTPlace))), (.pv (.xs false (tV.Kinds.map encInt)))]]))]) ⟨rfl, rfl, rfl, rfl, trivial⟩ ⟨rfl, trivial⟩) ?_
            refine AWR.region ?_
            refine AOR.pure (LT.fieldPl rfl fo39_1) ⟨rfl, trivial⟩ trivial rfl rfl ?_
            refine AOR.pure (LT.bload1 (c := (.pv (.xs false (tV.Kinds.map encInt)))) rfl ag28 (by exact rfl)) ⟨rfl, trivial⟩ ⟨rfl, trivial⟩ rfl rfl ?_
            refine AOR.pure (LT.move (v := (.s (.c (iC s9)))) rfl) ⟨rfl, trivial⟩ trivial rfl rfl ?_
            refine AOR.bind fun x113 hx113 => ?_
            refine AOR.pure (LT.tindexRO (enc := encInt) rfl el28 hx113 sz3) ⟨rfl, rfl, trivial⟩ trivial rfl rfl ?_
            refine AOR.pure (LT.loadPx1 rfl ag3) ⟨rfl, trivial⟩ trivial rfl rfl ?_
            refine AOR.pure (LT.eql rfl) ⟨rfl, ⟨rfl, rfl⟩, trivial⟩ trivial rfl rfl ?_
            refine AOR.pure (LT.move (v := (.s (.c (bC (x113 == 0))))) rfl) ⟨rfl, trivial⟩ trivial rfl rfl ?_
            refine AOR.split (fun hb114 => ?_) (fun hb114 => ?_)
            · refine AOR.pure (LT.move (v := (.s (.c (iC r94)))) rfl) ⟨rfl, trivial⟩ trivial ⟨_, rfl, .inl ⟨_, rfl, (by rw [hb114]; rfl)⟩⟩ rfl ?_
              refine AOR.pure (LT.neq rfl) ⟨rfl, ⟨rfl, rfl⟩, trivial⟩ trivial ⟨_, rfl, .inl ⟨_, rfl, (by rw [hb114]; rfl)⟩⟩ rfl ?_
              refine AOR.pure (LT.pickT (v := (.s (.c (bC (r94 != 0))))) rfl hb114) ⟨rfl, rfl, trivial⟩ trivial rfl rfl ?_
              refine AOR.pure (LT.move (v := (.s (.c (bC (r94 != 0))))) rfl) ⟨rfl, trivial⟩ trivial rfl rfl ?_
              refine AOR.split (fun hb115 => ?_) (fun hb115 => ?_)
              · refine AOR.skip ⟨_, rfl, .inl ⟨_, rfl, (by rw [hb115]; rfl)⟩⟩ rfl ?_
                refine AOR.skip ⟨_, rfl, .inl ⟨_, rfl, (by rw [hb115]; rfl)⟩⟩ rfl ?_
                refine AOR.skip ⟨_, rfl, .inl ⟨_, rfl, (by rw [hb115]; rfl)⟩⟩ rfl ?_
                refine AOR.skip ⟨_, rfl, .inl ⟨_, rfl, (by rw [hb115]; rfl)⟩⟩ rfl ?_
                refine AOR.skip ⟨_, rfl, .inl ⟨_, rfl, (by rw [hb115]; rfl)⟩⟩ rfl ?_
                refine AOR.skip ⟨_, rfl, .inl ⟨_, rfl, (by rw [hb115]; rfl)⟩⟩ rfl ?_
                refine AOR.skip ⟨_, rfl, .inl ⟨_, rfl, (by rw [hb115]; rfl)⟩⟩ rfl ?_
                refine AOR.skip ⟨_, rfl, .inr ⟨rfl, rfl⟩⟩ rfl ?_
                refine AOR.skip ⟨_, rfl, .inr ⟨rfl, rfl⟩⟩ rfl ?_
                refine AOR.skip ⟨_, rfl, .inl ⟨_, rfl, (by rw [hb115]; rfl)⟩⟩ rfl ?_
                refine AOR.pure (LT.pickT (v := (.s (.c (bC true)))) rfl hb115) ⟨rfl, ⟨rfl, rfl⟩, trivial⟩ trivial rfl rfl ?_
                refine AOR.pure (LT.move (v := (.s (.c (bC true)))) rfl) ⟨rfl, trivial⟩ trivial rfl rfl ?_
                refine AOR.skip ⟨_, rfl, .inl ⟨_, rfl, rfl⟩⟩ rfl ?_
                refine AOR.skip ⟨_, rfl, .inl ⟨_, rfl, rfl⟩⟩ rfl ?_
                refine AOR.skip ⟨_, rfl, .inl ⟨_, rfl, rfl⟩⟩ rfl ?_
                refine AOR.skip ⟨_, rfl, .inl ⟨_, rfl, rfl⟩⟩ rfl ?_
                refine AOR.skip ⟨_, rfl, .inl ⟨_, rfl, rfl⟩⟩ rfl ?_
                refine AOR.skip ⟨_, rfl, .inl ⟨_, rfl, rfl⟩⟩ rfl ?_
                refine AOR.skip ⟨_, rfl, .inl ⟨_, rfl, rfl⟩⟩ rfl ?_
                refine AOR.skip ⟨_, rfl, .inr ⟨rfl, rfl⟩⟩ rfl ?_
                refine AOR.skip ⟨_, rfl, .inr ⟨rfl, rfl⟩⟩ rfl ?_
                refine AOR.skip ⟨_, rfl, .inl ⟨_, rfl, rfl⟩⟩ rfl ?_
                refine AOR.pure (LT.pickT (v := (.s (.c (bC true)))) rfl rfl) ⟨rfl, ⟨rfl, rfl⟩, trivial⟩ trivial rfl rfl ?_
                refine AOR.nil ?_
                refine AWR.nil ⟨rfl, Ent.of ⟨rfl, rfl, rfl, rfl, trivial⟩ ⟨rfl, trivial⟩⟩
              · refine AOR.pure (LT.fieldPl rfl fo39_1) ⟨rfl, trivial⟩ trivial ⟨_, rfl, .inl ⟨_, rfl, (by rw [hb115]; rfl)⟩⟩ rfl ?_
                refine AOR.pure (LT.bload1 (c := (.pv (.xs false (tV.Kinds.map encInt)))) rfl ag28 (by exact rfl)) ⟨rfl, trivial⟩ ⟨rfl, trivial⟩ ⟨_, rfl, .inl ⟨_, rfl, (by rw [hb115]; rfl)⟩⟩ rfl ?_
                refine AOR.pure (LT.move (v := (.s (.c (iC s9)))) rfl) ⟨rfl, trivial⟩ trivial ⟨_, rfl, .inl ⟨_, rfl, (by rw [hb115]; rfl)⟩⟩ rfl ?_
                refine AOR.bind fun x116 hx116 => ?_
                refine AOR.pure (LT.tindexRO (enc := encInt) rfl el28 hx116 sz3) ⟨rfl, rfl, trivial⟩ trivial ⟨_, rfl, .inl ⟨_, rfl, (by rw [hb115]; rfl)⟩⟩ rfl ?_
                refine AOR.pure (LT.loadPx1 rfl ag3) ⟨rfl, trivial⟩ trivial ⟨_, rfl, .inl ⟨_, rfl, (by rw [hb115]; rfl)⟩⟩ rfl ?_
                refine AOR.pure (LT.eql rfl) ⟨rfl, ⟨rfl, rfl⟩, trivial⟩ trivial ⟨_, rfl, .inl ⟨_, rfl, (by rw [hb115]; rfl)⟩⟩ rfl ?_
                refine AOR.pure (LT.move (v := (.s (.c (bC (x116 == 1))))) rfl) ⟨rfl, trivial⟩ trivial ⟨_, rfl, .inl ⟨_, rfl, (by rw [hb115]; rfl)⟩⟩ rfl ?_
                refine AOR.split (fun hb117 => ?_) (fun hb117 => ?_)
                · refine AOR.pure (LT.move (v := (.s (.c (iC r94)))) rfl) ⟨rfl, trivial⟩ trivial ⟨_, rfl, .inl ⟨_, rfl, (by rw [hb117]; rfl)⟩⟩ rfl ?_
                  refine AOR.pure (LT.gtr rfl) ⟨rfl, ⟨rfl, rfl⟩, trivial⟩ trivial ⟨_, rfl, .inl ⟨_, rfl, (by rw [hb117]; rfl)⟩⟩ rfl ?_
                  refine AOR.pure (LT.pickT (v := (.s (.c (bC (decide (0 < r94)))))) rfl hb117) ⟨rfl, rfl, trivial⟩ trivial ⟨_, rfl, .inl ⟨_, rfl, (by rw [hb115]; rfl)⟩⟩ rfl ?_
                  refine AOR.pure (LT.pickF (v := (.s (.c (bC (decide (0 < r94)))))) rfl hb115) ⟨rfl, rfl, trivial⟩ trivial rfl rfl ?_
                  refine AOR.pure (LT.move (v := (.s (.c (bC (decide (0 < r94)))))) rfl) ⟨rfl, trivial⟩ trivial rfl rfl ?_
                  refine AOR.split (fun hb118 => ?_) (fun hb118 => ?_)
                  · refine AOR.skip ⟨_, rfl, .inl ⟨_, rfl, (by rw [hb118]; rfl)⟩⟩ rfl ?_
                    refine AOR.skip ⟨_, rfl, .inl ⟨_, rfl, (by rw [hb118]; rfl)⟩⟩ rfl ?_
                    refine AOR.skip ⟨_, rfl, .inl ⟨_, rfl, (by rw [hb118]; rfl)⟩⟩ rfl ?_
                    refine AOR.skip ⟨_, rfl, .inl ⟨_, rfl, (by rw [hb118]; rfl)⟩⟩ rfl ?_
                    refine AOR.skip ⟨_, rfl, .inl ⟨_, rfl, (by rw [hb118]; rfl)⟩⟩ rfl ?_
                    refine AOR.skip ⟨_, rfl, .inl ⟨_, rfl, (by rw [hb118]; rfl)⟩⟩ rfl ?_
                    refine AOR.skip ⟨_, rfl, .inl ⟨_, rfl, (by rw [hb118]; rfl)⟩⟩ rfl ?_
                    refine AOR.skip ⟨_, rfl, .inr ⟨rfl, rfl⟩⟩ rfl ?_
                    refine AOR.skip ⟨_, rfl, .inr ⟨rfl, rfl⟩⟩ rfl ?_
                    refine AOR.skip ⟨_, rfl, .inl ⟨_, rfl, (by rw [hb118]; rfl)⟩⟩ rfl ?_
                    refine AOR.pure (LT.pickT (v := (.s (.c (bC true)))) rfl hb118) ⟨rfl, ⟨rfl, rfl⟩, trivial⟩ trivial rfl rfl ?_
                    refine AOR.nil ?_
                    refine AWR.nil ⟨rfl, Ent.of ⟨rfl, rfl, rfl, rfl, trivial⟩ ⟨rfl, trivial⟩⟩
                  · refine AOR.pure (LT.fieldPl rfl fo39_1) ⟨rfl, trivial⟩ trivial ⟨_, rfl, .inl ⟨_, rfl, (by rw [hb118]; rfl)⟩⟩ rfl ?_
                    refine AOR.pure (LT.bload1 (c := (.pv (.xs false (tV.Kinds.map encInt)))) rfl ag28 (by exact rfl)) ⟨rfl, trivial⟩ ⟨rfl, trivial⟩ ⟨_, rfl, .inl ⟨_, rfl, (by rw [hb118]; rfl)⟩⟩ rfl ?_
                    refine AOR.pure (LT.move (v := (.s (.c (iC s9)))) rfl) ⟨rfl, trivial⟩ trivial ⟨_, rfl, .inl ⟨_, rfl, (by rw [hb118]; rfl)⟩⟩ rfl ?_
                    refine AOR.bind fun x119 hx119 => ?_
                    refine AOR.pure (LT.tindexRO (enc := encInt) rfl el28 hx119 sz3) ⟨rfl, rfl, trivial⟩ trivial ⟨_, rfl, .inl ⟨_, rfl, (by rw [hb118]; rfl)⟩⟩ rfl ?_
                    refine AOR.pure (LT.loadPx1 rfl ag3) ⟨rfl, trivial⟩ trivial ⟨_, rfl, .inl ⟨_, rfl, (by rw [hb118]; rfl)⟩⟩ rfl ?_
                    refine AOR.pure (LT.eql rfl) ⟨rfl, ⟨rfl, rfl⟩, trivial⟩ trivial ⟨_, rfl, .inl ⟨_, rfl, (by rw [hb118]; rfl)⟩⟩ rfl ?_
                    refine AOR.pure (LT.move (v := (.s (.c (bC (x119 == 2))))) rfl) ⟨rfl, trivial⟩ trivial ⟨_, rfl, .inl ⟨_, rfl, (by rw [hb118]; rfl)⟩⟩ rfl ?_
                    refine AOR.split (fun hb120 => ?_) (fun hb120 => ?_)
                    · refine AOR.pure (LT.move (v := (.s (.c (iC r94)))) rfl) ⟨rfl, trivial⟩ trivial ⟨_, rfl, .inl ⟨_, rfl, (by rw [hb120]; rfl)⟩⟩ rfl ?_
                      refine AOR.pure (LT.lss rfl) ⟨rfl, ⟨rfl, rfl⟩, trivial⟩ trivial ⟨_, rfl, .inl ⟨_, rfl, (by rw [hb120]; rfl)⟩⟩ rfl ?_
                      refine AOR.pure (LT.pickT (v := (.s (.c (bC (decide (r94 < 0)))))) rfl hb120) ⟨rfl, rfl, trivial⟩ trivial ⟨_, rfl, .inl ⟨_, rfl, (by rw [hb118]; rfl)⟩⟩ rfl ?_
                      refine AOR.pure (LT.pickF (v := (.s (.c (bC (decide (r94 < 0)))))) rfl hb118) ⟨rfl, rfl, trivial⟩ trivial rfl rfl ?_
                      refine AOR.nil ?_
                      refine AWR.nil ⟨rfl, Ent.of ⟨rfl, rfl, rfl, rfl, trivial⟩ ⟨rfl, trivial⟩⟩
                    · refine AOR.skip ⟨_, rfl, .inl ⟨_, rfl, (by rw [hb120]; rfl)⟩⟩ rfl ?_
                      refine AOR.skip ⟨_, rfl, .inl ⟨_, rfl, (by rw [hb120]; rfl)⟩⟩ rfl ?_
                      refine AOR.pure (LT.pickF (v := (.s (.c (bC false)))) rfl hb120) ⟨rfl, ⟨rfl, rfl⟩, trivial⟩ trivial ⟨_, rfl, .inl ⟨_, rfl, (by rw [hb118]; rfl)⟩⟩ rfl ?_
                      refine AOR.pure (LT.pickF (v := (.s (.c (bC false)))) rfl hb118) ⟨rfl, rfl, trivial⟩ trivial rfl rfl ?_
                      refine AOR.nil ?_
                      refine AWR.nil ⟨rfl, Ent.of ⟨rfl, rfl, rfl, rfl, trivial⟩ ⟨rfl, trivial⟩⟩
                · refine AOR.skip ⟨_, rfl, .inl ⟨_, rfl, (by rw [hb117]; rfl)⟩⟩ rfl ?_
                  refine AOR.skip ⟨_, rfl, .inl ⟨_, rfl, (by rw [hb117]; rfl)⟩⟩ rfl ?_
                  refine AOR.pure (LT.pickF (v := (.s (.c (bC false)))) rfl hb117) ⟨rfl, ⟨rfl, rfl⟩, trivial⟩ trivial ⟨_, rfl, .inl ⟨_, rfl, (by rw [hb115]; rfl)⟩⟩ rfl ?_
                  refine AOR.pure (LT.pickF (v := (.s (.c (bC false)))) rfl hb115) ⟨rfl, rfl, trivial⟩ trivial rfl rfl ?_
                  refine AOR.pure (LT.move (v := (.s (.c (bC false)))) rfl) ⟨rfl, trivial⟩ trivial rfl rfl ?_
                  refine AOR.pure (LT.fieldPl rfl fo39_1) ⟨rfl, trivial⟩ trivial ⟨_, rfl, .inl ⟨_, rfl, rfl⟩⟩ rfl ?_
                  refine AOR.pure (LT.bload1 (c := (.pv (.xs false (tV.Kinds.map encInt)))) rfl ag28 (by exact rfl)) ⟨rfl, trivial⟩ ⟨rfl, trivial⟩ ⟨_, rfl, .inl ⟨_, rfl, rfl⟩⟩ rfl ?_
                  refine AOR.pure (LT.move (v := (.s (.c (iC s9)))) rfl) ⟨rfl, trivial⟩ trivial ⟨_, rfl, .inl ⟨_, rfl, rfl⟩⟩ rfl ?_
                  refine AOR.bind fun x121 hx121 => ?_
                  refine AOR.pure (LT.tindexRO (enc := encInt) rfl el28 hx121 sz3) ⟨rfl, rfl, trivial⟩ trivial ⟨_, rfl, .inl ⟨_, rfl, rfl⟩⟩ rfl ?_
                  refine AOR.pure (LT.loadPx1 rfl ag3) ⟨rfl, trivial⟩ trivial ⟨_, rfl, .inl ⟨_, rfl, rfl⟩⟩ rfl ?_
                  refine AOR.pure (LT.eql rfl) ⟨rfl, ⟨rfl, rfl⟩, trivial⟩ trivial ⟨_, rfl, .inl ⟨_, rfl, rfl⟩⟩ rfl ?_
                  refine AOR.pure (LT.move (v := (.s (.c (bC (x121 == 2))))) rfl) ⟨rfl, trivial⟩ trivial ⟨_, rfl, .inl ⟨_, rfl, rfl⟩⟩ rfl ?_
                  refine AOR.split (fun hb122 => ?_) (fun hb122 => ?_)
                  · refine AOR.pure (LT.move (v := (.s (.c (iC r94)))) rfl) ⟨rfl, trivial⟩ trivial ⟨_, rfl, .inl ⟨_, rfl, (by rw [hb122]; rfl)⟩⟩ rfl ?_
                    refine AOR.pure (LT.lss rfl) ⟨rfl, ⟨rfl, rfl⟩, trivial⟩ trivial ⟨_, rfl, .inl ⟨_, rfl, (by rw [hb122]; rfl)⟩⟩ rfl ?_
                    refine AOR.pure (LT.pickT (v := (.s (.c (bC (decide (r94 < 0)))))) rfl hb122) ⟨rfl, rfl, trivial⟩ trivial ⟨_, rfl, .inl ⟨_, rfl, rfl⟩⟩ rfl ?_
                    refine AOR.pure (LT.pickF (v := (.s (.c (bC (decide (r94 < 0)))))) rfl rfl) ⟨rfl, rfl, trivial⟩ trivial rfl rfl ?_
                    refine AOR.nil ?_
                    refine AWR.nil ⟨rfl, Ent.of ⟨rfl, rfl, rfl, rfl, trivial⟩ ⟨rfl, trivial⟩⟩
                  · refine AOR.skip ⟨_, rfl, .inl ⟨_, rfl, (by rw [hb122]; rfl)⟩⟩ rfl ?_
                    refine AOR.skip ⟨_, rfl, .inl ⟨_, rfl, (by rw [hb122]; rfl)⟩⟩ rfl ?_
                    refine AOR.pure (LT.pickF (v := (.s (.c (bC false)))) rfl hb122) ⟨rfl, ⟨rfl, rfl⟩, trivial⟩ trivial ⟨_, rfl, .inl ⟨_, rfl, rfl⟩⟩ rfl ?_
                    refine AOR.pure (LT.pickF (v := (.s (.c (bC false)))) rfl rfl) ⟨rfl, rfl, trivial⟩ trivial rfl rfl ?_
                    refine AOR.nil ?_
                    refine AWR.nil ⟨rfl, Ent.of ⟨rfl, rfl, rfl, rfl, trivial⟩ ⟨rfl, trivial⟩⟩
            · refine AOR.skip ⟨_, rfl, .inl ⟨_, rfl, (by rw [hb114]; rfl)⟩⟩ rfl ?_
              refine AOR.skip ⟨_, rfl, .inl ⟨_, rfl, (by rw [hb114]; rfl)⟩⟩ rfl ?_
              refine AOR.pure (LT.pickF (v := (.s (.c (bC false)))) rfl hb114) ⟨rfl, ⟨rfl, rfl⟩, trivial⟩ trivial rfl rfl ?_
              refine AOR.pure (LT.move (v := (.s (.c (bC false)))) rfl) ⟨rfl, trivial⟩ trivial rfl rfl ?_
              refine AOR.pure (LT.fieldPl rfl fo39_1) ⟨rfl, trivial⟩ trivial ⟨_, rfl, .inl ⟨_, rfl, rfl⟩⟩ rfl ?_
              refine AOR.pure (LT.bload1 (c := (.pv (.xs false (tV.Kinds.map encInt)))) rfl ag28 (by exact rfl)) ⟨rfl, trivial⟩ ⟨rfl, trivial⟩ ⟨_, rfl, .inl ⟨_, rfl, rfl⟩⟩ rfl ?_
              refine AOR.pure (LT.move (v := (.s (.c (iC s9)))) rfl) ⟨rfl, trivial⟩ trivial ⟨_, rfl, .inl ⟨_, rfl, rfl⟩⟩ rfl ?_
              refine AOR.bind fun x123 hx123 => ?_
              refine AOR.pure (LT.tindexRO (enc := encInt) rfl el28 hx123 sz3) ⟨rfl, rfl, trivial⟩ trivial ⟨_, rfl, .inl ⟨_, rfl, rfl⟩⟩ rfl ?_
              refine AOR.pure (LT.loadPx1 rfl ag3) ⟨rfl, trivial⟩ trivial ⟨_, rfl, .inl ⟨_, rfl, rfl⟩⟩ rfl ?_
              refine AOR.pure (LT.eql rfl) ⟨rfl, ⟨rfl, rfl⟩, trivial⟩ trivial ⟨_, rfl, .inl ⟨_, rfl, rfl⟩⟩ rfl ?_
              refine AOR.pure (LT.move (v := (.s (.c (bC (x123 == 1))))) rfl) ⟨rfl, trivial⟩ trivial ⟨_, rfl, .inl ⟨_, rfl, rfl⟩⟩ rfl ?_
              refine AOR.split (fun hb124 => ?_) (fun hb124 => ?_)
              · refine AOR.pure (LT.move (v := (.s (.c (iC r94)))) rfl) ⟨rfl, trivial⟩ trivial ⟨_, rfl, .inl ⟨_, rfl, (by rw [hb124]; rfl)⟩⟩ rfl ?_
                refine AOR.pure (LT.gtr rfl) ⟨rfl, ⟨rfl, rfl⟩, trivial⟩ trivial ⟨_, rfl, .inl ⟨_, rfl, (by rw [hb124]; rfl)⟩⟩ rfl ?_
                refine AOR.pure (LT.pickT (v := (.s (.c (bC (decide (0 < r94)))))) rfl hb124) ⟨rfl, rfl, trivial⟩ trivial ⟨_, rfl, .inl ⟨_, rfl, rfl⟩⟩ rfl ?_
                refine AOR.pure (LT.pickF (v := (.s (.c (bC (decide (0 < r94)))))) rfl rfl) ⟨rfl, rfl, trivial⟩ trivial rfl rfl ?_
                refine AOR.pure (LT.move (v := (.s (.c (bC (decide (0 < r94)))))) rfl) ⟨rfl, trivial⟩ trivial rfl rfl ?_
                refine AOR.split (fun hb125 => ?_) (fun hb125 => ?_)
                · refine AOR.skip ⟨_, rfl, .inl ⟨_, rfl, (by rw [hb125]; rfl)⟩⟩ rfl ?_
                  refine AOR.skip ⟨_, rfl, .inl ⟨_, rfl, (by rw [hb125]; rfl)⟩⟩ rfl ?_
                  refine AOR.skip ⟨_, rfl, .inl ⟨_, rfl, (by rw [hb125]; rfl)⟩⟩ rfl ?_
                  refine AOR.skip ⟨_, rfl, .inl ⟨_, rfl, (by rw [hb125]; rfl)⟩⟩ rfl ?_
                  refine AOR.skip ⟨_, rfl, .inl ⟨_, rfl, (by rw [hb125]; rfl)⟩⟩ rfl ?_
                  refine AOR.skip ⟨_, rfl, .inl ⟨_, rfl, (by rw [hb125]; rfl)⟩⟩ rfl ?_
                  refine AOR.skip ⟨_, rfl, .inl ⟨_, rfl, (by rw [hb125]; rfl)⟩⟩ rfl ?_
                  refine AOR.skip ⟨_, rfl, .inr ⟨rfl, rfl⟩⟩ rfl ?_
                  refine AOR.skip ⟨_, rfl, .inr ⟨rfl, rfl⟩⟩ rfl ?_
                  refine AOR.skip ⟨_, rfl, .inl ⟨_, rfl, (by rw [hb125]; rfl)⟩⟩ rfl ?_
                  refine AOR.pure (LT.pickT (v := (.s (.c (bC true)))) rfl hb125) ⟨rfl, ⟨rfl, rfl⟩, trivial⟩ trivial rfl rfl ?_
                  refine AOR.nil ?_
                  refine AWR.nil ⟨rfl, Ent.of ⟨rfl, rfl, rfl, rfl, trivial⟩ ⟨rfl, trivial⟩⟩
                · refine AOR.pure (LT.fieldPl rfl fo39_1) ⟨rfl, trivial⟩ trivial ⟨_, rfl, .inl ⟨_, rfl, (by rw [hb125]; rfl)⟩⟩ rfl ?_
                  refine AOR.pure (LT.bload1 (c := (.pv (.xs false (tV.Kinds.map encInt)))) rfl ag28 (by exact rfl)) ⟨rfl, trivial⟩ ⟨rfl, trivial⟩ ⟨_, rfl, .inl ⟨_, rfl, (by rw [hb125]; rfl)⟩⟩ rfl ?_
                  refine AOR.pure (LT.move (v := (.s (.c (iC s9)))) rfl) ⟨rfl, trivial⟩ trivial ⟨_, rfl, .inl ⟨_, rfl, (by rw [hb125]; rfl)⟩⟩ rfl ?_
                  refine AOR.bind fun x126 hx126 => ?_
                  refine AOR.pure (LT.tindexRO (enc := encInt) rfl el28 hx126 sz3) ⟨rfl, rfl, trivial⟩ trivial ⟨_, rfl, .inl ⟨_, rfl, (by rw [hb125]; rfl)⟩⟩ rfl ?_
                  refine AOR.pure (LT.loadPx1 rfl ag3) ⟨rfl, trivial⟩ trivial ⟨_, rfl, .inl ⟨_, rfl, (by rw [hb125]; rfl)⟩⟩ rfl ?_
                  refine AOR.pure (LT.eql rfl) ⟨rfl, ⟨rfl, rfl⟩, trivial⟩ trivial ⟨_, rfl, .inl ⟨_, rfl, (by rw [hb125]; rfl)⟩⟩ rfl ?_
                  refine AOR.pure (LT.move (v := (.s (.c (bC (x126 == 2))))) rfl) ⟨rfl, trivial⟩ trivial ⟨_, rfl, .inl ⟨_, rfl, (by rw [hb125]; rfl)⟩⟩ rfl ?_
                  refine AOR.split (fun hb127 => ?_) (fun hb127 => ?_)
                  · refine AOR.pure (LT.move (v := (.s (.c (iC r94)))) rfl) ⟨rfl, trivial⟩ trivial ⟨_, rfl, .inl ⟨_, rfl, (by rw [hb127]; rfl)⟩⟩ rfl ?_
                    refine AOR.pure (LT.lss rfl) ⟨rfl, ⟨rfl, rfl⟩, trivial⟩ trivial ⟨_, rfl, .inl ⟨_, rfl, (by rw [hb127]; rfl)⟩⟩ rfl ?_
                    refine AOR.pure (LT.pickT (v := (.s (.c (bC (decide (r94 < 0)))))) rfl hb127) ⟨rfl, rfl, trivial⟩ trivial ⟨_, rfl, .inl ⟨_, rfl, (by rw [hb125]; rfl)⟩⟩ rfl ?_
                    refine AOR.pure (LT.pickF (v := (.s (.c (bC (decide (r94 < 0)))))) rfl hb125) ⟨rfl, rfl, trivial⟩ trivial rfl rfl ?_
                    refine AOR.nil ?_
                    refine AWR.nil ⟨rfl, Ent.of ⟨rfl, rfl, rfl, rfl, trivial⟩ ⟨rfl, trivial⟩⟩
                  · refine AOR.skip ⟨_, rfl, .inl ⟨_, rfl, (by rw [hb127]; rfl)⟩⟩ rfl ?_
                    refine AOR.skip ⟨_, rfl, .inl ⟨_, rfl, (by rw [hb127]; rfl)⟩⟩ rfl ?_
                    refine AOR.pure (LT.pickF (v := (.s (.c (bC false)))) rfl hb127) ⟨rfl, ⟨rfl, rfl⟩, trivial⟩ trivial ⟨_, rfl, .inl ⟨_, rfl, (by rw [hb125]; rfl)⟩⟩ rfl ?_
                    refine AOR.pure (LT.pickF (v := (.s (.c (bC false)))) rfl hb125) ⟨rfl, rfl, trivial⟩ trivial rfl rfl ?_
                    refine AOR.nil ?_
                    refine AWR.nil ⟨rfl, Ent.of ⟨rfl, rfl, rfl, rfl, trivial⟩ ⟨rfl, trivial⟩⟩
              · refine AOR.skip ⟨_, rfl, .inl ⟨_, rfl, (by rw [hb124]; rfl)⟩⟩ rfl ?_
                refine AOR.skip ⟨_, rfl, .inl ⟨_, rfl, (by rw [hb124]; rfl)⟩⟩ rfl ?_
                refine AOR.pure (LT.pickF (v := (.s (.c (bC false)))) rfl hb124) ⟨rfl, ⟨rfl, rfl⟩, trivial⟩ trivial ⟨_, rfl, .inl ⟨_, rfl, rfl⟩⟩ rfl ?_
                refine AOR.pure (LT.pickF (v := (.s (.c (bC false)))) rfl rfl) ⟨rfl, rfl, trivial⟩ trivial rfl rfl ?_
                refine AOR.pure (LT.move (v := (.s (.c (bC false)))) rfl) ⟨rfl, trivial⟩ trivial rfl rfl ?_
                refine AOR.pure (LT.fieldPl rfl fo39_1) ⟨rfl, trivial⟩ trivial ⟨_, rfl, .inl ⟨_, rfl, rfl⟩⟩ rfl ?_
                refine AOR.pure (LT.bload1 (c := (.pv (.xs false (tV.Kinds.map encInt)))) rfl ag28 (by exact rfl)) ⟨rfl, trivial⟩ ⟨rfl, trivial⟩ ⟨_, rfl, .inl ⟨_, rfl, rfl⟩⟩ rfl ?_
                refine AOR.pure (LT.move (v := (.s (.c (iC s9)))) rfl) ⟨rfl, trivial⟩ trivial ⟨_, rfl, .inl ⟨_, rfl, rfl⟩⟩ rfl ?_
                refine AOR.bind fun x128 hx128 => ?_
                refine AOR.pure (LT.tindexRO (enc := encInt) rfl el28 hx128 sz3) ⟨rfl, rfl, trivial⟩ trivial ⟨_, rfl, .inl ⟨_, rfl, rfl⟩⟩ rfl ?_
                refine AOR.pure (LT.loadPx1 rfl ag3) ⟨rfl, trivial⟩ trivial ⟨_, rfl, .inl ⟨_, rfl, rfl⟩⟩ rfl ?_
                refine AOR.pure (LT.eql rfl) ⟨rfl, ⟨rfl, rfl⟩, trivial⟩ trivial ⟨_, rfl, .inl ⟨_, rfl, rfl⟩⟩ rfl ?_
                refine AOR.pure (LT.move (v := (.s (.c (bC (x128 == 2))))) rfl) ⟨rfl, trivial⟩ trivial ⟨_, rfl, .inl ⟨_, rfl, rfl⟩⟩ rfl ?_
                refine AOR.split (fun hb129 => ?_) (fun hb129 => ?_)
                · refine AOR.pure (LT.move (v := (.s (.c (iC r94)))) rfl) ⟨rfl, trivial⟩ trivial ⟨_, rfl, .inl ⟨_, rfl, (by rw [hb129]; rfl)⟩⟩ rfl ?_
                  refine AOR.pure (LT.lss rfl) ⟨rfl, ⟨rfl, rfl⟩, trivial⟩ trivial ⟨_, rfl, .inl ⟨_, rfl, (by rw [hb129]; rfl)⟩⟩ rfl ?_
                  refine AOR.pure (LT.pickT (v := (.s (.c (bC (decide (r94 < 0)))))) rfl hb129) ⟨rfl, rfl, trivial⟩ trivial ⟨_, rfl, .inl ⟨_, rfl, rfl⟩⟩ rfl ?_
                  refine AOR.pure (LT.pickF (v := (.s (.c (bC (decide (r94 < 0)))))) rfl rfl) ⟨rfl, rfl, trivial⟩ trivial rfl rfl ?_
                  refine AOR.nil ?_
                  refine AWR.nil ⟨rfl, Ent.of ⟨rfl, rfl, rfl, rfl, trivial⟩ ⟨rfl, trivial⟩⟩
                · refine AOR.skip ⟨_, rfl, .inl ⟨_, rfl, (by rw [hb129]; rfl)⟩⟩ rfl ?_
                  refine AOR.skip ⟨_, rfl, .inl ⟨_, rfl, (by rw [hb129]; rfl)⟩⟩ rfl ?_
                  refine AOR.pure (LT.pickF (v := (.s (.c (bC false)))) rfl hb129) ⟨rfl, ⟨rfl, rfl⟩, trivial⟩ trivial ⟨_, rfl, .inl ⟨_, rfl, rfl⟩⟩ rfl ?_
                  refine AOR.pure (LT.pickF (v := (.s (.c (bC false)))) rfl rfl) ⟨rfl, rfl, trivial⟩ trivial rfl rfl ?_
                  refine AOR.nil ?_
                  refine AWR.nil ⟨rfl, Ent.of ⟨rfl, rfl, rfl, rfl, trivial⟩ ⟨rfl, trivial⟩⟩
          · refine AWR.cond rfl (fun hc130 => ?_) (fun hc130 => ?_)
            · refine AWR.seq ?_
              refine AWR.region ?_
              refine AOR.pure (LT.assign (v := (.s (.c (bC false)))) rfl) ⟨⟨rfl, rfl⟩, trivial⟩ trivial rfl rfl ?_
              refine AOR.nil ?_
              refine AWR.ret ⟨rfl, FPost.mk (.inr rfl) ⟨rfl, trivial⟩ trivial rfl ⟨PermP.sc, trivial⟩ trivial⟩
            · refine AWR.skip ?_
              refine AWR.blk ?_
              refine AWR.region ?_
              refine AOR.pure (LT.move (v := (.s (.c (iC s9)))) rfl) ⟨rfl, trivial⟩ trivial rfl rfl ?_
              refine AOR.pure (LT.add rfl) ⟨rfl, ⟨rfl, rfl⟩, trivial⟩ trivial rfl rfl ?_
              refine AOR.pure (LT.assign (v := (.s (.c (iC (w64 (s9 + 1)))))) rfl) ⟨rfl, trivial⟩ trivial rfl rfl ?_
              refine AOR.nil ?_
              refine AWR.nil ⟨rfl, Ent.of ⟨rfl, rfl, rfl, trivial⟩ ⟨rfl, trivial⟩⟩
        · refine AWR.exit_end rfl ⟨rfl, Ent.of trivial trivial⟩
      · refine AWR.seq ?_
        refine AWR.region ?_
        refine AOR.pure (LT.assign (v := (.s (.c (bC true)))) rfl) ⟨⟨rfl, rfl⟩, trivial⟩ trivial rfl rfl ?_
        refine AOR.nil ?_
        refine AWR.ret (FPost.mk (.inr rfl) ⟨rfl, trivial⟩ trivial rfl ⟨PermP.sc, trivial⟩ trivial)
set_option maxRecDepth 100000 in
set_option maxHeartbeats 8000000 in
theorem w_impl_isVelocity (f : TFramework) (v : (List Int)) : ∀ t, m_impl_isVelocity f v = some t → Fw.Fn Try.prog 65 [(.agg [(iC f.Graph.Points), (.pv (.xs false (f.Graph.Bars.map encTBar))), (.pv (.xs false (f.Places.map encTPlace)))]), (.c (.pv (.xs false (v.map encInt))))] [] (.s (.c (bC t))) [] [] [] := by
  refine Fw.Fn.of (P := Try.prog) (X := []) (pn := []) (rs := (fun (t : Bool) => [(.c (bC t))])) (dfs := (fun (t : Bool) => [])) Try.func65 rfl Try.ntmps65 (Nat.le_of_ble_eq_true rfl) rfl ?_
  intro w0 U0 R0 g0
  unfold m_impl_isVelocity
  refine AWR.seq ?_
  refine AWR.region ?_
  refine AOR.step (LT.box (n := 21) (v := (.agg [(iC f.Graph.Points), (.pv (.xs false (f.Graph.Bars.map encTBar))), (.pv (.xs false (f.Places.map encTPlace)))])) rfl sz37 (by exact rfl)) ⟨rfl, trivial⟩ trivial rfl rfl ?_
  refine AOR.pure (LT.assign (v := (.s (.c (bC false)))) rfl) ⟨⟨rfl, rfl⟩, trivial⟩ trivial rfl rfl ?_
  refine AOR.nil ?_
  refine AWR.seq ?_
  refine AWR.joinK (fun j4 => ([(4, (.s (.c (bC j4))))], [])) ?_ (fun j4 _ => ?_)
  · refine AWR.region ?_
    refine AOR.pure (LT.bloadN (out := [(iC f.Graph.Points), (.pv (.xs false (f.Graph.Bars.map encTBar))), (.pv (.xs false (f.Places.map encTPlace)))]) rfl ag37 (infS inf37) sz37 (by exact rfl) (by exact rfl)) ⟨rfl, trivial⟩ ⟨rfl, trivial⟩ rfl rfl ?_
    refine AOR.bind fun r5 hr5 => ?_
    refine AOR.pure (@LT.callF Try.prog _ _ 100 _ _ [(.agg [(iC f.Graph.Points), (.pv (.xs false (f.Graph.Bars.map encTBar))), (.pv (.xs false (f.Places.map encTPlace)))])] _ _ [] _ _ _ _ (w_impl_IsFramework f r5 hr5) rfl cb100 (.cons (.agg (.cons (.same rfl) (.cons (.same rfl) (.cons (.same rfl) .nil)))) .nil) rfl rfl trivial) ⟨rfl, rfl, trivial⟩ trivial rfl rfl ?_
    refine AOR.pure (LT.move (v := (.s (.c (bC r5)))) rfl) ⟨rfl, trivial⟩ trivial rfl rfl ?_
    refine AOR.split (fun hb6 => ?_) (fun hb6 => ?_)
    · refine AOR.pure (LT.move (v := (.s (.c (.pv (.xs false (v.map encInt)))))) rfl) ⟨rfl, trivial⟩ trivial ⟨_, rfl, .inl ⟨_, rfl, (by rw [hb6]; rfl)⟩⟩ rfl ?_
      refine AOR.pure (LT.fieldPl rfl fo37_0) ⟨rfl, trivial⟩ trivial ⟨_, rfl, .inl ⟨_, rfl, (by rw [hb6]; rfl)⟩⟩ rfl ?_
      refine AOR.pure (LT.fieldPl rfl fo34_0) ⟨rfl, trivial⟩ trivial ⟨_, rfl, .inl ⟨_, rfl, (by rw [hb6]; rfl)⟩⟩ rfl ?_
      refine AOR.pure (LT.bload1 (c := (iC f.Graph.Points)) rfl ag3 (by exact rfl)) ⟨rfl, trivial⟩ ⟨rfl, trivial⟩ ⟨_, rfl, .inl ⟨_, rfl, (by rw [hb6]; rfl)⟩⟩ rfl ?_
      refine AOR.pure (LT.mul rfl) ⟨⟨rfl, rfl⟩, rfl, trivial⟩ trivial ⟨_, rfl, .inl ⟨_, rfl, (by rw [hb6]; rfl)⟩⟩ rfl ?_
      refine AOR.bind fun r7 hr7 => ?_
      refine AOR.pure (@LT.callF Try.prog _ _ 101 _ _ [(.c (.pv (.xs false (v.map encInt)))), (.c (iC (w64 (2 * f.Graph.Points))))] _ _ [] _ _ _ _ (w_impl_areSmall v (w64 (2 * f.Graph.Points)) r7 hr7) rfl cb101 (.cons (.c (.same rfl)) (.cons (.c (.same rfl)) .nil)) rfl rfl trivial) ⟨rfl, rfl, rfl, trivial⟩ trivial ⟨_, rfl, .inl ⟨_, rfl, (by rw [hb6]; rfl)⟩⟩ rfl ?_
      refine AOR.pure (LT.pickT (v := (.s (.c (bC r7)))) rfl hb6) ⟨rfl, rfl, trivial⟩ trivial rfl rfl ?_
      refine AOR.pure (LT.assign (v := (.s (.c (bC r7)))) rfl) ⟨rfl, trivial⟩ trivial rfl rfl ?_
      refine AOR.nil ?_
      refine AWR.nil ⟨rfl, Ent.of ⟨rfl, trivial⟩ trivial⟩
    · refine AOR.skip ⟨_, rfl, .inl ⟨_, rfl, (by rw [hb6]; rfl)⟩⟩ rfl ?_
      refine AOR.skip ⟨_, rfl, .inl ⟨_, rfl, (by rw [hb6]; rfl)⟩⟩ rfl ?_
      refine AOR.skip ⟨_, rfl, .inl ⟨_, rfl, (by rw [hb6]; rfl)⟩⟩ rfl ?_
      refine AOR.skip ⟨_, rfl, .inl ⟨_, rfl, (by rw [hb6]; rfl)⟩⟩ rfl ?_
      refine AOR.skip ⟨_, rfl, .inl ⟨_, rfl, (by rw [hb6]; rfl)⟩⟩ rfl ?_
      refine AOR.skip ⟨_, rfl, .inl ⟨_, rfl, (by rw [hb6]; rfl)⟩⟩ rfl ?_
      refine AOR.pure (LT.pickF (v := (.s (.c (bC false)))) rfl hb6) ⟨rfl, ⟨rfl, rfl⟩, trivial⟩ trivial rfl rfl ?_
      refine AOR.pure (LT.assign (v := (.s (.c (bC false)))) rfl) ⟨rfl, trivial⟩ trivial rfl rfl ?_
      refine AOR.nil ?_
      refine AWR.nil ⟨rfl, Ent.of ⟨rfl, trivial⟩ trivial⟩
  · refine AWR.ret (FPost.mk (.inr rfl) ⟨rfl, trivial⟩ trivial rfl ⟨PermP.sc, trivial⟩ trivial)
set_option maxRecDepth 100000 in
set_option maxHeartbeats 8000000 in
theorem w_impl_Graph_has (g : TGraph) (v : Int) : ∀ t, m_impl_Graph_has g v = some t → Fw.Fn Try.prog 102 [(.agg [(iC g.Points), (.pv (.xs false (g.Bars.map encTBar)))]), (.c (iC v))] [] (.s (.c (bC t))) [] [] [] := by
  refine Fw.Fn.of (P := Try.prog) (X := []) (pn := []) (rs := (fun (t : Bool) => [(.c (bC t))])) (dfs := (fun (t : Bool) => [])) Try.func102 rfl Try.ntmps102 (Nat.le_of_ble_eq_true rfl) rfl ?_
  intro w0 U0 R0 g0
  unfold m_impl_Graph_has
  refine AWR.seq ?_
  refine AWR.region ?_
  refine AOR.step (LT.box (n := 21) (v := (.agg [(iC g.Points), (.pv (.xs false (g.Bars.map encTBar)))])) rfl sz34 (by exact rfl)) ⟨rfl, trivial⟩ trivial rfl rfl ?_
  refine AOR.pure (LT.assign (v := (.s (.c (bC false)))) rfl) ⟨⟨rfl, rfl⟩, trivial⟩ trivial rfl rfl ?_
  refine AOR.nil ?_
  refine AWR.seq ?_
  refine AWR.region ?_
  refine AOR.pure (LT.move (v := (.s (.c (iC v)))) rfl) ⟨rfl, trivial⟩ trivial rfl rfl ?_
  refine AOR.pure (LT.fieldPl rfl fo34_0) ⟨rfl, trivial⟩ trivial rfl rfl ?_
  refine AOR.pure (LT.bload1 (c := (iC g.Points)) rfl ag3 (by exact rfl)) ⟨rfl, trivial⟩ ⟨rfl, trivial⟩ rfl rfl ?_
  refine AOR.pure (LT.sub rfl) ⟨rfl, ⟨rfl, rfl⟩, trivial⟩ trivial rfl rfl ?_
  refine AOR.bind fun r1 hr1 => ?_
  refine AOR.pure (@LT.callF Try.prog _ _ 99 _ _ [(.c (iC v)), (.c (iC 0)), (.c (iC (w64 (g.Points - 1))))] _ _ [] _ _ _ _ (w_impl_within v 0 (w64 (g.Points - 1)) r1 hr1) rfl cb99 (.cons (.c (.same rfl)) (.cons (.c (.same rfl)) (.cons (.c (.same rfl)) .nil))) rfl rfl trivial) ⟨rfl, rfl, ⟨rfl, rfl⟩, rfl, trivial⟩ trivial rfl rfl ?_
  refine AOR.pure (LT.assign (v := (.s (.c (bC r1)))) rfl) ⟨rfl, trivial⟩ trivial rfl rfl ?_
  refine AOR.nil ?_
  refine AWR.ret (FPost.mk (.inr rfl) ⟨rfl, trivial⟩ trivial rfl ⟨PermP.sc, trivial⟩ trivial)
set_option maxRecDepth 100000 in
set_option maxHeartbeats 8000000 in
theorem w_impl_ChangeOf (f : TFramework) (v : (List Int)) (a : Int) (b : Int) : ∀ t, m_impl_ChangeOf f v a b = some t → Fw.Fn Try.prog 66 [(.agg [(iC f.Graph.Points), (.pv (.xs false (f.Graph.Bars.map encTBar))), (.pv (.xs false (f.Places.map encTPlace)))]), (.c (.pv (.xs false (v.map encInt)))), (.c (iC a)), (.c (iC b))] [] (.s (.c (iC t))) [] [] [] := by
  refine Fw.Fn.of (P := Try.prog) (X := []) (pn := []) (rs := (fun (t : Int) => [(.c (iC t))])) (dfs := (fun (t : Int) => [])) Try.func66 rfl Try.ntmps66 (Nat.le_of_ble_eq_true rfl) rfl ?_
  intro w0 U0 R0 g0
  unfold m_impl_ChangeOf
  refine AWR.seq ?_
  refine AWR.region ?_
  refine AOR.step (LT.box (n := 21) (v := (.agg [(iC f.Graph.Points), (.pv (.xs false (f.Graph.Bars.map encTBar))), (.pv (.xs false (f.Places.map encTPlace)))])) rfl sz37 (by exact rfl)) ⟨rfl, trivial⟩ trivial rfl rfl ?_
  refine AOR.pure (LT.assign (v := (.s (.c (iC 0)))) rfl) ⟨⟨rfl, rfl⟩, trivial⟩ trivial rfl rfl ?_
  refine AOR.nil ?_
  refine AWR.seq ?_
  refine AWR.seq ?_
  refine AWR.joinK (fun j6 => ([(1, (.s (.c (.pv (.xs false (v.map encInt)))))), (2, (.s (.c (iC a)))), (3, (.s (.c (iC b)))), (4, (.s (.c (.pl 21 0)))), (28, (.s (.c (bC j6))))], [(21, (.row 37 [[(iC f.Graph.Points), (.pv (.xs false (f.Graph.Bars.map encTBar))), (.pv (.xs false (f.Places.map encTPlace)))]]))])) ?_ (fun j6 _ => ?_)
  · refine AWR.region ?_
    refine AOR.pure (LT.bloadN (out := [(iC f.Graph.Points), (.pv (.xs false (f.Graph.Bars.map encTBar))), (.pv (.xs false (f.Places.map encTPlace)))]) rfl ag37 (infS inf37) sz37 (by exact rfl) (by exact rfl)) ⟨rfl, trivial⟩ ⟨rfl, trivial⟩ rfl rfl ?_
    refine AOR.pure (LT.move (v := (.s (.c (.pv (.xs false (v.map encInt)))))) rfl) ⟨rfl, trivial⟩ trivial rfl rfl ?_
    refine AOR.bind fun r7 hr7 => ?_
    refine AOR.pure (@LT.callF Try.prog _ _ 65 _ _ [(.agg [(iC f.Graph.Points), (.pv (.xs false (f.Graph.Bars.map encTBar))), (.pv (.xs false (f.Places.map encTPlace)))]), (.c (.pv (.xs false (v.map encInt))))] _ _ [] _ _ _ _ (w_impl_isVelocity f v r7 hr7) rfl cb65 (.cons (.agg (.cons (.same rfl) (.cons (.same rfl) (.cons (.same rfl) .nil)))) (.cons (.c (.same rfl)) .nil)) rfl rfl trivial) ⟨rfl, rfl, rfl, trivial⟩ trivial rfl rfl ?_
    refine AOR.pure (LT.not rfl) ⟨rfl, trivial⟩ trivial rfl rfl ?_
    refine AOR.pure (LT.move (v := (.s (.c (bC (!r7))))) rfl) ⟨rfl, trivial⟩ trivial rfl rfl ?_
    refine AOR.split (fun hb8 => ?_) (fun hb8 => ?_)
    · refine AOR.skip ⟨_, rfl, .inl ⟨_, rfl, (by rw [hb8]; rfl)⟩⟩ rfl ?_
      refine AOR.skip ⟨_, rfl, .inl ⟨_, rfl, (by rw [hb8]; rfl)⟩⟩ rfl ?_
      refine AOR.skip ⟨_, rfl, .inl ⟨_, rfl, (by rw [hb8]; rfl)⟩⟩ rfl ?_
      refine AOR.skip ⟨_, rfl, .inl ⟨_, rfl, (by rw [hb8]; rfl)⟩⟩ rfl ?_
      refine AOR.skip ⟨_, rfl, .inl ⟨_, rfl, (by rw [hb8]; rfl)⟩⟩ rfl ?_
      refine AOR.pure (LT.pickT (v := (.s (.c (bC true)))) rfl hb8) ⟨rfl, ⟨rfl, rfl⟩, trivial⟩ trivial rfl rfl ?_
      refine AOR.pure (LT.move (v := (.s (.c (bC true)))) rfl) ⟨rfl, trivial⟩ trivial rfl rfl ?_
      refine AOR.skip ⟨_, rfl, .inl ⟨_, rfl, rfl⟩⟩ rfl ?_
      refine AOR.skip ⟨_, rfl, .inl ⟨_, rfl, rfl⟩⟩ rfl ?_
      refine AOR.skip ⟨_, rfl, .inl ⟨_, rfl, rfl⟩⟩ rfl ?_
      refine AOR.skip ⟨_, rfl, .inl ⟨_, rfl, rfl⟩⟩ rfl ?_
      refine AOR.skip ⟨_, rfl, .inl ⟨_, rfl, rfl⟩⟩ rfl ?_
      refine AOR.pure (LT.pickT (v := (.s (.c (bC true)))) rfl rfl) ⟨rfl, ⟨rfl, rfl⟩, trivial⟩ trivial rfl rfl ?_
      refine AOR.nil ?_
      refine AWR.nil ⟨rfl, Ent.of ⟨rfl, rfl, rfl, rfl, rfl, trivial⟩ ⟨rfl, trivial⟩⟩
    · refine AOR.pure (LT.fieldPl rfl fo37_0) ⟨rfl, trivial⟩ trivial ⟨_, rfl, .inl ⟨_, rfl, (by rw [hb8]; rfl)⟩⟩ rfl ?_
      refine AOR.pure (LT.bloadN (out := [(iC f.Graph.Points), (.pv (.xs false (f.Graph.Bars.map encTBar)))]) rfl ag34 (infS inf34) sz34 (by exact rfl) (by exact rfl)) ⟨rfl, trivial⟩ ⟨rfl, trivial⟩ ⟨_, rfl, .inl ⟨_, rfl, (by rw [hb8]; rfl)⟩⟩ rfl ?_
      refine AOR.pure (LT.move (v := (.s (.c (iC a)))) rfl) ⟨rfl, trivial⟩ trivial ⟨_, rfl, .inl ⟨_, rfl, (by rw [hb8]; rfl)⟩⟩ rfl ?_
      refine AOR.bind fun r9 hr9 => ?_
      refine AOR.pure (@LT.callF Try.prog _ _ 102 _ _ [(.agg [(iC f.Graph.Points), (.pv (.xs false (f.Graph.Bars.map encTBar)))]), (.c (iC a))] _ _ [] _ _ _ _ (w_impl_Graph_has f.Graph a r9 hr9) rfl cb102 (.cons (.agg (.cons (.same rfl) (.cons (.same rfl) .nil))) (.cons (.c (.same rfl)) .nil)) rfl rfl trivial) ⟨rfl, rfl, rfl, trivial⟩ trivial ⟨_, rfl, .inl ⟨_, rfl, (by rw [hb8]; rfl)⟩⟩ rfl ?_
      refine AOR.pure (LT.not rfl) ⟨rfl, trivial⟩ trivial ⟨_, rfl, .inl ⟨_, rfl, (by rw [hb8]; rfl)⟩⟩ rfl ?_
      refine AOR.pure (LT.pickF (v := (.s (.c (bC (!r9))))) rfl hb8) ⟨rfl, rfl, trivial⟩ trivial rfl rfl ?_
      refine AOR.pure (LT.move (v := (.s (.c (bC (!r9))))) rfl) ⟨rfl, trivial⟩ trivial rfl rfl ?_
      refine AOR.split (fun hb10 => ?_) (fun hb10 => ?_)
      · refine AOR.skip ⟨_, rfl, .inl ⟨_, rfl, (by rw [hb10]; rfl)⟩⟩ rfl ?_
        refine AOR.skip ⟨_, rfl, .inl ⟨_, rfl, (by rw [hb10]; rfl)⟩⟩ rfl ?_
        refine AOR.skip ⟨_, rfl, .inl ⟨_, rfl, (by rw [hb10]; rfl)⟩⟩ rfl ?_
        refine AOR.skip ⟨_, rfl, .inl ⟨_, rfl, (by rw [hb10]; rfl)⟩⟩ rfl ?_
        refine AOR.skip ⟨_, rfl, .inl ⟨_, rfl, (by rw [hb10]; rfl)⟩⟩ rfl ?_
        refine AOR.pure (LT.pickT (v := (.s (.c (bC true)))) rfl hb10) ⟨rfl, ⟨rfl, rfl⟩, trivial⟩ trivial rfl rfl ?_
        refine AOR.nil ?_
        refine AWR.nil ⟨rfl, Ent.of ⟨rfl, rfl, rfl, rfl, rfl, trivial⟩ ⟨rfl, trivial⟩⟩
      · refine AOR.pure (LT.fieldPl rfl fo37_0) ⟨rfl, trivial⟩ trivial ⟨_, rfl, .inl ⟨_, rfl, (by rw [hb10]; rfl)⟩⟩ rfl ?_
        refine AOR.pure (LT.bloadN (out := [(iC f.Graph.Points), (.pv (.xs false (f.Graph.Bars.map encTBar)))]) rfl ag34 (infS inf34) sz34 (by exact rfl) (by exact rfl)) ⟨rfl, trivial⟩ ⟨rfl, trivial⟩ ⟨_, rfl, .inl ⟨_, rfl, (by rw [hb10]; rfl)⟩⟩ rfl ?_
        refine AOR.pure (LT.move (v := (.s (.c (iC b)))) rfl) ⟨rfl, trivial⟩ trivial ⟨_, rfl, .inl ⟨_, rfl, (by rw [hb10]; rfl)⟩⟩ rfl ?_
        refine AOR.bind fun r11 hr11 => ?_
        refine AOR.pure (@LT.callF Try.prog _ _ 102 _ _ [(.agg [(iC f.Graph.Points), (.pv (.xs false (f.Graph.Bars.map encTBar)))]), (.c (iC b))] _ _ [] _ _ _ _ (w_impl_Graph_has f.Graph b r11 hr11) rfl cb102 (.cons (.agg (.cons (.same rfl) (.cons (.same rfl) .nil))) (.cons (.c (.same rfl)) .nil)) rfl rfl trivial) ⟨rfl, rfl, rfl, trivial⟩ trivial ⟨_, rfl, .inl ⟨_, rfl, (by rw [hb10]; rfl)⟩⟩ rfl ?_
        refine AOR.pure (LT.not rfl) ⟨rfl, trivial⟩ trivial ⟨_, rfl, .inl ⟨_, rfl, (by rw [hb10]; rfl)⟩⟩ rfl ?_
        refine AOR.pure (LT.pickF (v := (.s (.c (bC (!r11))))) rfl hb10) ⟨rfl, rfl, trivial⟩ trivial rfl rfl ?_
        refine AOR.nil ?_
        refine AWR.nil ⟨rfl, Ent.of ⟨rfl, rfl, rfl, rfl, rfl, trivial⟩ ⟨rfl, trivial⟩⟩
  · refine AWR.cond rfl (fun hc12 => ?_) (fun hc12 => ?_)
    · refine AWR.seq ?_
      refine AWR.region ?_
      refine AOR.pure (LT.assign (v := (.s (.c (iC 0)))) rfl) ⟨⟨rfl, rfl⟩, trivial⟩ trivial rfl rfl ?_
      refine AOR.nil ?_
      refine AWR.ret (FPost.mk (.inr rfl) ⟨rfl, trivial⟩ trivial rfl ⟨PermP.sc, trivial⟩ trivial)
    · refine AWR.skip ?_
      refine AWR.seq ?_
      refine AWR.draw mixed ?_
      refine AOD.pure (LT.fieldPl rfl fo37_1) ⟨rfl, trivial⟩ trivial rfl rfl ?_
      refine AOD.pure (LT.bload1 (c := (.pv (.xs false (f.Places.map encTPlace)))) rfl ag35 (by exact rfl)) ⟨rfl, trivial⟩ ⟨rfl, trivial⟩ rfl rfl ?_
      refine AOD.pure (LT.move (v := (.s (.c (iC a)))) rfl) ⟨rfl, trivial⟩ trivial rfl rfl ?_
      refine AOD.bind fun x13 hx13 => ?_
      refine AOD.pure (LT.tindexRO (enc := encTPlace) rfl el35 hx13 sz88) ⟨rfl, rfl, trivial⟩ trivial rfl rfl ?_
      refine AOD.pure (LT.loadPxN rfl ag88 (infS inf88) (by exact sz88.symm)) ⟨rfl, trivial⟩ trivial rfl rfl ?_
      refine AOD.pure (LT.fieldPl rfl fo37_1) ⟨rfl, trivial⟩ trivial rfl rfl ?_
      refine AOD.pure (LT.bload1 (c := (.pv (.xs false (f.Places.map encTPlace)))) rfl ag35 (by exact rfl)) ⟨rfl, trivial⟩ ⟨rfl, trivial⟩ rfl rfl ?_
      refine AOD.pure (LT.move (v := (.s (.c (iC b)))) rfl) ⟨rfl, trivial⟩ trivial rfl rfl ?_
      refine AOD.bind fun x14 hx14 => ?_
      refine AOD.pure (LT.tindexRO (enc := encTPlace) rfl el35 hx14 sz88) ⟨rfl, rfl, trivial⟩ trivial rfl rfl ?_
      refine AOD.pure (LT.loadPxN rfl ag88 (infS inf88) (by exact sz88.symm)) ⟨rfl, trivial⟩ trivial rfl rfl ?_
      refine AOD.step (LT.alloc (n := 25) (cells := [(iC 0), (iC 0)]) rfl ti88 rfl rfl rfl) trivial trivial rfl rfl ?_
      refine AOD.step (LT.alloc (n := 26) (cells := [(iC 0), (iC 0)]) rfl ti88 rfl rfl rfl) trivial trivial rfl rfl ?_
      refine AOD.step (LT.bstore (v := (.agg [(iC x13.X), (iC x13.Y)])) (out := [(iC x13.X), (iC x13.Y)]) rfl rfl (infS inf88) sz88 (by exact rfl) (by exact Nat.le_of_ble_eq_true rfl) (by exact rfl)) ⟨rfl, rfl, trivial⟩ ⟨rfl, trivial⟩ rfl rfl ?_
      refine AOD.step (LT.bstore (v := (.agg [(iC x14.X), (iC x14.Y)])) (out := [(iC x14.X), (iC x14.Y)]) rfl rfl (infS inf88) sz88 (by exact rfl) (by exact Nat.le_of_ble_eq_true rfl) (by exact rfl)) ⟨rfl, rfl, trivial⟩ ⟨rfl, trivial⟩ rfl rfl ?_
      refine AOD.nil (by kernel_rfl) ?_
      refine AWR.seq ?_
      refine AWR.ent (Ent.of (σ' := [(1, (.s (.c (.pv (.xs false (v.map encInt)))))), (2, (.s (.c (iC a)))), (3, (.s (.c (iC b)))), (9, (.s (.c (.pl 25 0)))), (10, (.s (.c (.pl 26 0))))]) (m' := [(25, (.row 88 [[(iC x13.X), (iC x13.Y)]])), (26, (.row 88 [[(iC x14.X), (iC x14.Y)]]))]) ⟨rfl, rfl, rfl, rfl, rfl, trivial⟩ ⟨rfl, rfl, trivial⟩) ?_
      refine AWR.draw mixed ?_
      refine AOD.pure (LT.fieldPl rfl fo88_0) ⟨rfl, trivial⟩ trivial rfl rfl ?_
      refine AOD.pure (LT.bload1 (c := (iC x13.X)) rfl ag3 (by exact rfl)) ⟨rfl, trivial⟩ ⟨rfl, trivial⟩ rfl rfl ?_
      refine AOD.pure (LT.fieldPl rfl fo88_0) ⟨rfl, trivial⟩ trivial rfl rfl ?_
      refine AOD.pure (LT.bload1 (c := (iC x14.X)) rfl ag3 (by exact rfl)) ⟨rfl, trivial⟩ ⟨rfl, trivial⟩ rfl rfl ?_
      refine AOD.pure (LT.sub rfl) ⟨rfl, rfl, trivial⟩ trivial rfl rfl ?_
      refine AOD.pure (LT.move (v := (.s (.c (.pv (.xs false (v.map encInt)))))) rfl) ⟨rfl, trivial⟩ trivial rfl rfl ?_
      refine AOD.pure (LT.move (v := (.s (.c (iC a)))) rfl) ⟨rfl, trivial⟩ trivial rfl rfl ?_
      refine AOD.pure (LT.mul rfl) ⟨⟨rfl, rfl⟩, rfl, trivial⟩ trivial rfl rfl ?_
      refine AOD.bind fun x15 hx15 => ?_
      refine AOD.pure (LT.tindexRO (enc := encInt) rfl el28 hx15 sz3) ⟨rfl, rfl, trivial⟩ trivial rfl rfl ?_
      refine AOD.pure (LT.loadPx1 rfl ag3) ⟨rfl, trivial⟩ trivial rfl rfl ?_
      refine AOD.pure (LT.move (v := (.s (.c (.pv (.xs false (v.map encInt)))))) rfl) ⟨rfl, trivial⟩ trivial rfl rfl ?_
      refine AOD.pure (LT.move (v := (.s (.c (iC b)))) rfl) ⟨rfl, trivial⟩ trivial rfl rfl ?_
      refine AOD.pure (LT.mul rfl) ⟨⟨rfl, rfl⟩, rfl, trivial⟩ trivial rfl rfl ?_
      refine AOD.bind fun x16 hx16 => ?_
      refine AOD.pure (LT.tindexRO (enc := encInt) rfl el28 hx16 sz3) ⟨rfl, rfl, trivial⟩ trivial rfl rfl ?_
      refine AOD.pure (LT.loadPx1 rfl ag3) ⟨rfl, trivial⟩ trivial rfl rfl ?_
      refine AOD.pure (LT.sub rfl) ⟨rfl, rfl, trivial⟩ trivial rfl rfl ?_
      refine AOD.pure (LT.mul rfl) ⟨rfl, rfl, trivial⟩ trivial rfl rfl ?_
      refine AOD.pure (LT.fieldPl rfl fo88_1) ⟨rfl, trivial⟩ trivial rfl rfl ?_
      refine AOD.pure (LT.bload1 (c := (iC x13.Y)) rfl ag3 (by exact rfl)) ⟨rfl, trivial⟩ ⟨rfl, trivial⟩ rfl rfl ?_
      refine AOD.pure (LT.fieldPl rfl fo88_1) ⟨rfl, trivial⟩ trivial rfl rfl ?_
      refine AOD.pure (LT.bload1 (c := (iC x14.Y)) rfl ag3 (by exact rfl)) ⟨rfl, trivial⟩ ⟨rfl, trivial⟩ rfl rfl ?_
      refine AOD.pure (LT.sub rfl) ⟨rfl, rfl, trivial⟩ trivial rfl rfl ?_
      refine AOD.pure (LT.move (v := (.s (.c (.pv (.xs false (v.map encInt)))))) rfl) ⟨rfl, trivial⟩ trivial rfl rfl ?_
      refine AOD.pure (LT.move (v := (.s (.c (iC a)))) rfl) ⟨rfl, trivial⟩ trivial rfl rfl ?_
      refine AOD.pure (LT.mul rfl) ⟨⟨rfl, rfl⟩, rfl, trivial⟩ trivial rfl rfl ?_
      refine AOD.pure (LT.add rfl) ⟨rfl, ⟨rfl, rfl⟩, trivial⟩ trivial rfl rfl ?_
      refine AOD.bind fun x17 hx17 => ?_
      refine AOD.pure (LT.tindexRO (enc := encInt) rfl el28 hx17 sz3) ⟨rfl, rfl, trivial⟩ trivial rfl rfl ?_
      refine AOD.pure (LT.loadPx1 rfl ag3) ⟨rfl, trivial⟩ trivial rfl rfl ?_
      refine AOD.pure (LT.move (v := (.s (.c (.pv (.xs false (v.map encInt)))))) rfl) ⟨rfl, trivial⟩ trivial rfl rfl ?_
      refine AOD.pure (LT.move (v := (.s (.c (iC b)))) rfl) ⟨rfl, trivial⟩ trivial rfl rfl ?_
      refine AOD.pure (LT.mul rfl) ⟨⟨rfl, rfl⟩, rfl, trivial⟩ trivial rfl rfl ?_
      refine AOD.pure (LT.add rfl) ⟨rfl, ⟨rfl, rfl⟩, trivial⟩ trivial rfl rfl ?_
      refine AOD.bind fun x18 hx18 => ?_
      refine AOD.pure (LT.tindexRO (enc := encInt) rfl el28 hx18 sz3) ⟨rfl, rfl, trivial⟩ trivial rfl rfl ?_
      refine AOD.pure (LT.loadPx1 rfl ag3) ⟨rfl, trivial⟩ trivial rfl rfl ?_
      refine AOD.pure (LT.sub rfl) ⟨rfl, rfl, trivial⟩ trivial rfl rfl ?_
      refine AOD.pure (LT.mul rfl) ⟨rfl, rfl, trivial⟩ trivial rfl rfl ?_
      refine AOD.pure (LT.add rfl) ⟨rfl, rfl, trivial⟩ trivial rfl rfl ?_
      refine AOD.pure (LT.assign (v := (.s (.c (iC (w64 ((w64 ((w64 (x13.X - x14.X)) * (w64 (x15 - x16)))) + (w64 ((w64 (x13.Y - x14.Y)) * (w64 (x17 - x18)))))))))) rfl) ⟨rfl, trivial⟩ trivial rfl rfl ?_
      refine AOD.nil (by kernel_rfl) ?_
      refine AWR.ret (FPost.mk (.inr rfl) ⟨rfl, trivial⟩ trivial rfl ⟨PermP.sc, trivial⟩ trivial)
set_option maxRecDepth 100000 in
set_option maxHeartbeats 8000000 in
theorem w_impl_IsAllowedMotion (tV : TTensegrity) (v : (List Int)) : ∀ t, m_impl_IsAllowedMotion tV v = some t → Fw.Fn Try.prog 24 [(.agg [(iC tV.Framework.Graph.Points), (.pv (.xs false (tV.Framework.Graph.Bars.map encTBar))), (.pv (.xs false (tV.Framework.Places.map encTPlace))), (.pv (.xs false (tV.Kinds.map encInt)))]), (.c (.pv (.xs false (v.map encInt))))] [] (.s (.c (bC t))) [] [] [] := by
  refine Fw.Fn.of (P := Try.prog) (X := []) (pn := []) (rs := (fun (t : Bool) => [(.c (bC t))])) (dfs := (fun (t : Bool) => [])) Try.func24 rfl Try.ntmps24 (Nat.le_of_ble_eq_true rfl) rfl ?_
  intro w0 U0 R0 g0
  unfold m_impl_IsAllowedMotion
  refine AWR.seq ?_
  refine AWR.region ?_
  refine AOR.step (LT.box (n := 21) (v := (.agg [(iC tV.Framework.Graph.Points), (.pv (.xs false (tV.Framework.Graph.Bars.map encTBar))), (.pv (.xs false (tV.Framework.Places.map encTPlace))), (.pv (.xs false (tV.Kinds.map encInt)))])) rfl sz39 (by exact rfl)) ⟨rfl, trivial⟩ trivial rfl rfl ?_
  refine AOR.pure (LT.assign (v := (.s (.c (bC false)))) rfl) ⟨⟨rfl, rfl⟩, trivial⟩ trivial rfl rfl ?_
  refine AOR.nil ?_
  refine AWR.seq ?_
  refine AWR.seq ?_
  refine AWR.joinK (fun j4 => ([(1, (.s (.c (.pv (.xs false (v.map encInt)))))), (2, (.s (.c (.pl 21 0)))), (17, (.s (.c (bC j4))))], [(21, (.row 39 [[(iC tV.Framework.Graph.Points), (.pv (.xs false (tV.Framework.Graph.Bars.map encTBar))), (.pv (.xs false (tV.Framework.Places.map encTPlace))), (.pv (.xs false (tV.Kinds.map encInt)))]]))])) ?_ (fun j4 _ => ?_)
  · refine AWR.region ?_
    refine AOR.pure (LT.bloadN (out := [(iC tV.Framework.Graph.Points), (.pv (.xs false (tV.Framework.Graph.Bars.map encTBar))), (.pv (.xs false (tV.Framework.Places.map encTPlace))), (.pv (.xs false (tV.Kinds.map encInt)))]) rfl ag39 (infS inf39) sz39 (by exact rfl) (by exact rfl)) ⟨rfl, trivial⟩ ⟨rfl, trivial⟩ rfl rfl ?_
    refine AOR.bind fun r5 hr5 => ?_
    refine AOR.pure (@LT.callF Try.prog _ _ 64 _ _ [(.agg [(iC tV.Framework.Graph.Points), (.pv (.xs false (tV.Framework.Graph.Bars.map encTBar))), (.pv (.xs false (tV.Framework.Places.map encTPlace))), (.pv (.xs false (tV.Kinds.map encInt)))])] _ _ [] _ _ _ _ (w_impl_IsTensegrity tV r5 hr5) rfl cb64 (.cons (.agg (.cons (.same rfl) (.cons (.same rfl) (.cons (.same rfl) (.cons (.same rfl) .nil))))) .nil) rfl rfl trivial) ⟨rfl, rfl, trivial⟩ trivial rfl rfl ?_
    refine AOR.pure (LT.not rfl) ⟨rfl, trivial⟩ trivial rfl rfl ?_
    refine AOR.pure (LT.move (v := (.s (.c (bC (!r5))))) rfl) ⟨rfl, trivial⟩ trivial rfl rfl ?_
    refine AOR.split (fun hb6 => ?_) (fun hb6 => ?_)
    · refine AOR.skip ⟨_, rfl, .inl ⟨_, rfl, (by rw [hb6]; rfl)⟩⟩ rfl ?_
      refine AOR.skip ⟨_, rfl, .inl ⟨_, rfl, (by rw [hb6]; rfl)⟩⟩ rfl ?_
      refine AOR.skip ⟨_, rfl, .inl ⟨_, rfl, (by rw [hb6]; rfl)⟩⟩ rfl ?_
      refine AOR.skip ⟨_, rfl, .inl ⟨_, rfl, (by rw [hb6]; rfl)⟩⟩ rfl ?_
      refine AOR.skip ⟨_, rfl, .inl ⟨_, rfl, (by rw [hb6]; rfl)⟩⟩ rfl ?_
      refine AOR.pure (LT.pickT (v := (.s (.c (bC true)))) rfl hb6) ⟨rfl, ⟨rfl, rfl⟩, trivial⟩ trivial rfl rfl ?_
      refine AOR.nil ?_
      refine AWR.nil ⟨rfl, Ent.of ⟨rfl, rfl, rfl, trivial⟩ ⟨rfl, trivial⟩⟩
    · refine AOR.pure (LT.fieldPl rfl fo39_0) ⟨rfl, trivial⟩ trivial ⟨_, rfl, .inl ⟨_, rfl, (by rw [hb6]; rfl)⟩⟩ rfl ?_
      refine AOR.pure (LT.bloadN (out := [(iC tV.Framework.Graph.Points), (.pv (.xs false (tV.Framework.Graph.Bars.map encTBar))), (.pv (.xs false (tV.Framework.Places.map encTPlace)))]) rfl ag37 (infS inf37) sz37 (by exact rfl) (by exact rfl)) ⟨rfl, trivial⟩ ⟨rfl, trivial⟩ ⟨_, rfl, .inl ⟨_, rfl, (by rw [hb6]; rfl)⟩⟩ rfl ?_
      refine AOR.pure (LT.move (v := (.s (.c (.pv (.xs false (v.map encInt)))))) rfl) ⟨rfl, trivial⟩ trivial ⟨_, rfl, .inl ⟨_, rfl, (by rw [hb6]; rfl)⟩⟩ rfl ?_
      refine AOR.bind fun r7 hr7 => ?_
      refine AOR.pure (@LT.callF Try.prog _ _ 65 _ _ [(.agg [(iC tV.Framework.Graph.Points), (.pv (.xs false (tV.Framework.Graph.Bars.map encTBar))), (.pv (.xs false (tV.Framework.Places.map encTPlace)))]), (.c (.pv (.xs false (v.map encInt))))] _ _ [] _ _ _ _ (w_impl_isVelocity tV.Framework v r7 hr7) rfl cb65 (.cons (.agg (.cons (.same rfl) (.cons (.same rfl) (.cons (.same rfl) .nil)))) (.cons (.c (.same rfl)) .nil)) rfl rfl trivial) ⟨rfl, rfl, rfl, trivial⟩ trivial ⟨_, rfl, .inl ⟨_, rfl, (by rw [hb6]; rfl)⟩⟩ rfl ?_
      refine AOR.pure (LT.not rfl) ⟨rfl, trivial⟩ trivial ⟨_, rfl, .inl ⟨_, rfl, (by rw [hb6]; rfl)⟩⟩ rfl ?_
      refine AOR.pure (LT.pickF (v := (.s (.c (bC (!r7))))) rfl hb6) ⟨rfl, rfl, trivial⟩ trivial rfl rfl ?_
      refine AOR.nil ?_
      refine AWR.nil ⟨rfl, Ent.of ⟨rfl, rfl, rfl, trivial⟩ ⟨rfl, trivial⟩⟩
  · refine AWR.cond rfl (fun hc8 => ?_) (fun hc8 => ?_)
    · refine AWR.seq ?_
      refine AWR.region ?_
      refine AOR.pure (LT.assign (v := (.s (.c (bC false)))) rfl) ⟨⟨rfl, rfl⟩, trivial⟩ trivial rfl rfl ?_
      refine AOR.nil ?_
      refine AWR.ret (FPost.mk (.inr rfl) ⟨rfl, trivial⟩ trivial rfl ⟨PermP.sc, trivial⟩ trivial)
    · refine AWR.skip ?_
      refine AWR.seq ?_
      refine AWR.seq ?_
      refine AWR.region ?_
      refine AOR.pure (LT.fieldPl rfl fo39_0) ⟨rfl, trivial⟩ trivial rfl rfl ?_
      refine AOR.pure (LT.fieldPl rfl fo37_0) ⟨rfl, trivial⟩ trivial rfl rfl ?_
      refine AOR.pure (LT.fieldPl rfl fo34_1) ⟨rfl, trivial⟩ trivial rfl rfl ?_
      refine AOR.pure (LT.bload1 (c := (.pv (.xs false (tV.Framework.Graph.Bars.map encTBar)))) rfl ag32 (by exact rfl)) ⟨rfl, trivial⟩ ⟨rfl, trivial⟩ rfl rfl ?_
      refine AOR.pure (LT.tlenRO rfl und32) ⟨rfl, trivial⟩ trivial rfl rfl ?_
      refine AOR.pure (LT.move (v := (.s (.c (iC 0)))) rfl) ⟨⟨rfl, rfl⟩, trivial⟩ trivial rfl rfl ?_
      refine AOR.nil ?_
      refine AWR.block ?_
      refine AWR.loopR (id := 0) (m_impl_IsAllowedMotion_L1 tV v) (fun s9 => ([(1, (.s (.c (.pv (.xs false (v.map encInt)))))), (2, (.s (.c (.pl 21 0)))), (21, (.s (.c (.pv (.xs false (tV.Framework.Graph.Bars.map encTBar)))))), (22, (.s (.c (iC (tV.Framework.Graph.Bars.length : Int))))), (23, (.s (.c (iC s9))))], [(21, (.row 39 [[(iC tV.Framework.Graph.Points), (.pv (.xs false (tV.Framework.Graph.Bars.map encTBar))), (.pv (.xs false (tV.Framework.Places.map encTPlace))), (.pv (.xs false (tV.Kinds.map encInt)))]]))])) (fun b88 => ([], [])) (FPost Try.prog Try.f24.results.toList [] [] (fun (t : Bool) => [(.c (bC t))]) (fun (t : Bool) => [])) ?_ (Ent.of ⟨rfl, rfl, rfl, rfl, rfl, trivial⟩ ⟨rfl, trivial⟩) rfl (fun b88 _ => ?_) (by intro r t σ m ht hk; injection ht with ht; subst ht; exact hk)
      · intro s9
        unfold m_impl_IsAllowedMotion_L1
        refine AWR.seq ?_
        refine AWR.region ?_
        refine AOR.pure (LT.lss rfl) ⟨rfl, rfl, trivial⟩ trivial rfl rfl ?_
        refine AOR.nil ?_
        refine AWR.seq ?_
        refine AWR.cond rfl (fun hc89 => ?_) (fun hc89 => ?_)
        · refine AWR.skip ?_
          refine AWR.seq ?_
          refine AWR.block ?_
          refine AWR.seq ?_
          refine AWR.region ?_
          refine AOR.pure (LT.move (v := (.s (.c (iC s9)))) rfl) ⟨rfl, trivial⟩ trivial rfl rfl ?_
          refine AOR.bind fun x90 hx90 => ?_
          refine AOR.pure (LT.tindexRO (enc := encTBar) rfl el32 hx90 sz69) ⟨rfl, rfl, trivial⟩ trivial rfl rfl ?_
          refine AOR.pure (LT.loadPxN rfl ag69 (infS inf69) (by exact sz69.symm)) ⟨rfl, trivial⟩ trivial rfl rfl ?_
          refine AOR.step (LT.alloc (n := 24) (cells := [(iC 0), (iC 0)]) rfl ti69 rfl rfl rfl) trivial trivial rfl rfl ?_
          refine AOR.pure (LT.assign (v := (.s (.c (iC s9)))) rfl) ⟨rfl, trivial⟩ trivial rfl rfl ?_
          refine AOR.step (LT.bstore (v := (.agg [(iC x90.A), (iC x90.B)])) (out := [(iC x90.A), (iC x90.B)]) rfl rfl (infS inf69) sz69 (by exact rfl) (by exact Nat.le_of_ble_eq_true rfl) (by exact rfl)) ⟨rfl, rfl, trivial⟩ ⟨rfl, trivial⟩ rfl rfl ?_
          refine AOR.nil ?_
          refine AWR.seq ?_
          refine AWR.ent (Ent.of (σ' := [(1, (.s (.c (.pv (.xs false (v.map encInt)))))), (2, (.s (.c (.pl 21 0)))), (5, (.s (.c (iC s9)))), (6, (.s (.c (.pl 24 0)))), (21, (.s (.c (.pv (.xs false (tV.Framework.Graph.Bars.map encTBar)))))), (22, (.s (.c (iC (tV.Framework.Graph.Bars.length : Int))))), (23, (.s (.c (iC s9))))]) (m' := [(21, (.row 39 [[(iC tV.Framework.Graph.Points), (.pv (.xs false (tV.Framework.Graph.Bars.map encTBar))), (.pv (.xs false (tV.Framework.Places.map encTPlace))), (.pv (.xs false (tV.Kinds.map encInt)))]])), (24, (.row 69 [[(iC x90.A), (iC x90.B)]]))]) ⟨rfl, rfl, rfl, rfl, rfl, rfl, rfl, trivial⟩ ⟨rfl, rfl, trivial⟩) ?_
          refine AWR.region ?_
          refine AOR.pure (LT.fieldPl rfl fo39_0) ⟨rfl, trivial⟩ trivial rfl rfl ?_
          refine AOR.pure (LT.bloadN (out := [(iC tV.Framework.Graph.Points), (.pv (.xs false (tV.Framework.Graph.Bars.map encTBar))), (.pv (.xs false (tV.Framework.Places.map encTPlace)))]) rfl ag37 (infS inf37) sz37 (by exact rfl) (by exact rfl)) ⟨rfl, trivial⟩ ⟨rfl, trivial⟩ rfl rfl ?_
          refine AOR.pure (LT.move (v := (.s (.c (.pv (.xs false (v.map encInt)))))) rfl) ⟨rfl, trivial⟩ trivial rfl rfl ?_
          refine AOR.pure (LT.fieldPl rfl fo69_0) ⟨rfl, trivial⟩ trivial rfl rfl ?_
          refine AOR.pure (LT.bload1 (c := (iC x90.A)) rfl ag3 (by exact rfl)) ⟨rfl, trivial⟩ ⟨rfl, trivial⟩ rfl rfl ?_
          refine AOR.pure (LT.fieldPl rfl fo69_1) ⟨rfl, trivial⟩ trivial rfl rfl ?_
          refine AOR.pure (LT.bload1 (c := (iC x90.B)) rfl ag3 (by exact rfl)) ⟨rfl, trivial⟩ ⟨rfl, trivial⟩ rfl rfl ?_
          refine AOR.bind fun r91 hr91 => ?_
          refine AOR.pure (@LT.callF Try.prog _ _ 66 _ _ [(.agg [(iC tV.Framework.Graph.Points), (.pv (.xs false (tV.Framework.Graph.Bars.map encTBar))), (.pv (.xs false (tV.Framework.Places.map encTPlace)))]), (.c (.pv (.xs false (v.map encInt)))), (.c (iC x90.A)), (.c (iC x90.B))] _ _ [] _ _ _ _ (w_impl_ChangeOf tV.Framework v x90.A x90.B r91 hr91) rfl cb66 (.cons (.agg (.cons (.same rfl) (.cons (.same rfl) (.cons (.same rfl) .nil)))) (.cons (.c (.same rfl)) (.cons (.c (.same rfl)) (.cons (.c (.same rfl)) .nil)))) rfl rfl trivial) ⟨rfl, rfl, rfl, rfl, rfl, trivial⟩ trivial rfl rfl ?_
          refine AOR.pure (LT.assign (v := (.s (.c (iC r91)))) rfl) ⟨rfl, trivial⟩ trivial rfl rfl ?_
          refine AOR.nil ?_
          refine AWR.seq ?_
          refine AWR.joinK (fun j109 => ([(1, (.s (.c (.pv (.xs false (v.map encInt)))))), (2, (.s (.c (.pl 21 0)))), (21, (.s (.c (.pv (.xs false (tV.Framework.Graph.Bars.map encTBar)))))), (22, (.s (.c (iC (tV.Framework.Graph.Bars.length : Int))))), (23, (.s (.c (iC s9)))), (69, (.s (.c (bC j109))))], [(21, (.row 39 [[(iC tV.Framework.Graph.Points), (.pv (.xs false (tV.Framework.Graph.Bars.map encTBar))), (.pv (.xs false (tV.Framework.Places.map encTPlace))), (.pv (.xs false (tV.Kinds.map encInt)))]]))])) ?_ (fun j109 _ => ?_)
          · refine AWR.region ?_
            refine AOR.pure (LT.fieldPl rfl fo39_1) ⟨rfl, trivial⟩ trivial rfl rfl ?_
            refine AOR.pure (LT.bload1 (c := (.pv (.xs false (tV.Kinds.map encInt)))) rfl ag28 (by exact rfl)) ⟨rfl, trivial⟩ ⟨rfl, trivial⟩ rfl rfl ?_
            refine AOR.pure (LT.move (v := (.s (.c (iC s9)))) rfl) ⟨rfl, trivial⟩ trivial rfl rfl ?_
            refine AOR.bind fun x110 hx110 => ?_
            refine AOR.pure (LT.tindexRO (enc := encInt) rfl el28 hx110 sz3) ⟨rfl, rfl, trivial⟩ trivial rfl rfl ?_
            refine AOR.pure (LT.loadPx1 rfl ag3) ⟨rfl, trivial⟩ trivial rfl rfl ?_
            refine AOR.pure (LT.eql rfl) ⟨rfl, ⟨rfl, rfl⟩, trivial⟩ trivial rfl rfl ?_
            refine AOR.pure (LT.move (v := (.s (.c (bC (x110 == 0))))) rfl) ⟨rfl, trivial⟩ trivial rfl rfl ?_
            refine AOR.split (fun hb111 => ?_) (fun hb111 => ?_)
            · refine AOR.pure (LT.move (v := (.s (.c (iC r91)))) rfl) ⟨rfl, trivial⟩ trivial ⟨_, rfl, .inl ⟨_, rfl, (by rw [hb111]; rfl)⟩⟩ rfl ?_
              refine AOR.pure (LT.neq rfl) ⟨rfl, ⟨rfl, rfl⟩, trivial⟩ trivial ⟨_, rfl, .inl ⟨_, rfl, (by rw [hb111]; rfl)⟩⟩ rfl ?_
              refine AOR.pure (LT.pickT (v := (.s (.c (bC (r91 != 0))))) rfl hb111) ⟨rfl, rfl, trivial⟩ trivial rfl rfl ?_
              refine AOR.pure (LT.move (v := (.s (.c (bC (r91 != 0))))) rfl) ⟨rfl, trivial⟩ trivial rfl rfl ?_
              refine AOR.split (fun hb112 => ?_) (fun hb112 => ?_)
              · refine AOR.skip ⟨_, rfl, .inl ⟨_, rfl, (by rw [hb112]; rfl)⟩⟩ rfl ?_
                refine AOR.skip ⟨_, rfl, .inl ⟨_, rfl, (by rw [hb112]; rfl)⟩⟩ rfl ?_
                refine AOR.skip ⟨_, rfl, .inl ⟨_, rfl, (by rw [hb112]; rfl)⟩⟩ rfl ?_
                refine AOR.skip ⟨_, rfl, .inl ⟨_, rfl, (by rw [hb112]; rfl)⟩⟩ rfl ?_
                refine AOR.skip ⟨_, rfl, .inl ⟨_, rfl, (by rw [hb112]; rfl)⟩⟩ rfl ?_
                refine AOR.skip ⟨_, rfl, .inl ⟨_, rfl, (by rw [hb112]; rfl)⟩⟩ rfl ?_
                refine AOR.skip ⟨_, rfl, .inl ⟨_, rfl, (by rw [hb112]; rfl)⟩⟩ rfl ?_
                refine AOR.skip ⟨_, rfl, .inr ⟨rfl, rfl⟩⟩ rfl ?_
                refine AOR.skip ⟨_, rfl, .inr ⟨rfl, rfl⟩⟩ rfl ?_
                refine AOR.skip ⟨_, rfl, .inl ⟨_, rfl, (by rw [hb112]; rfl)⟩⟩ rfl ?_
                refine AOR.pure (LT.pickT (v := (.s (.c (bC true)))) rfl hb112) ⟨rfl, ⟨rfl, rfl⟩, trivial⟩ trivial rfl rfl ?_
                refine AOR.pure (LT.move (v := (.s (.c (bC true)))) rfl) ⟨rfl, trivial⟩ trivial rfl rfl ?_
                refine AOR.skip ⟨_, rfl, .inl ⟨_, rfl, rfl⟩⟩ rfl ?_
                refine AOR.skip ⟨_, rfl, .inl ⟨_, rfl, rfl⟩⟩ rfl ?_
                refine AOR.skip ⟨_, rfl, .inl ⟨_, rfl, rfl⟩⟩ rfl ?_
                refine AOR.skip ⟨_, rfl, .inl ⟨_, rfl, rfl⟩⟩ rfl ?_
                refine AOR.skip ⟨_, rfl, .inl ⟨_, rfl, rfl⟩⟩ rfl ?_
                refine AOR.skip ⟨_, rfl, .inl ⟨_, rfl, rfl⟩⟩ rfl ?_
                refine AOR.skip ⟨_, rfl, .inl ⟨_, rfl, rfl⟩⟩ rfl ?_
                refine AOR.skip ⟨_, rfl, .inr ⟨rfl, rfl⟩⟩ rfl ?_
                refine AOR.skip ⟨_, rfl, .inr ⟨rfl, rfl⟩⟩ rfl ?_
                refine AOR.skip ⟨_, rfl, .inl ⟨_, rfl, rfl⟩⟩ rfl ?_
                refine AOR.pure (LT.pickT (v := (.s (.c (bC true)))) rfl rfl) ⟨rfl, ⟨rfl, rfl⟩, trivial⟩ trivial rfl rfl ?_
                refine AOR.nil ?_
                refine AWR.nil ⟨rfl, Ent.of ⟨rfl, rfl, rfl, rfl, rfl, rfl, trivial⟩ ⟨rfl, trivial⟩⟩
              · refine AOR.pure (LT.fieldPl rfl fo39_1) ⟨rfl, trivial⟩ trivial ⟨_, rfl, .inl ⟨_, rfl, (by rw [hb112]; rfl)⟩⟩ rfl ?_
                refine AOR.pure (LT.bload1 (c := (.pv (.xs false (tV.Kinds.map encInt)))) rfl ag28 (by exact rfl)) ⟨rfl, trivial⟩ ⟨rfl, trivial⟩ ⟨_, rfl, .inl ⟨_, rfl, (by rw [hb112]; rfl)⟩⟩ rfl ?_
                refine AOR.pure (LT.move (v := (.s (.c (iC s9)))) rfl) ⟨rfl, trivial⟩ trivial ⟨_, rfl, .inl ⟨_, rfl, (by rw [hb112]; rfl)⟩⟩ rfl ?_
                refine AOR.bind fun x113 hx113 => ?_
                refine AOR.pure (LT.tindexRO (enc := encInt) rfl el28 hx113 sz3) ⟨rfl, rfl, trivial⟩ trivial ⟨_, rfl, .inl ⟨_, rfl, (by rw [hb112]; rfl)⟩⟩ rfl ?_
                refine AOR.pure (LT.loadPx1 rfl ag3) ⟨rfl, trivial⟩ trivial ⟨_, rfl, .inl ⟨_, rfl, (by rw [hb112]; rfl)⟩⟩ rfl ?_
                refine AOR.pure (LT.eql rfl) ⟨rfl, ⟨rfl, rfl⟩, trivial⟩ trivial ⟨_, rfl, .inl ⟨_, rfl, (by rw [hb112]; rfl)⟩⟩ rfl ?_
                refine AOR.pure (LT.move (v := (.s (.c (bC (x113 == 1))))) rfl) ⟨rfl, trivial⟩ trivial ⟨_, rfl, .inl ⟨_, rfl, (by rw [hb112]; rfl)⟩⟩ rfl ?_
                refine AOR.split (fun hb114 => ?_) (fun hb114 => ?_)
                · refine AOR.pure (LT.move (v := (.s (.c (iC r91)))) rfl) ⟨rfl, trivial⟩ trivial ⟨_, rfl, .inl ⟨_, rfl, (by rw [hb114]; rfl)⟩⟩ rfl ?_
                  refine AOR.pure (LT.gtr rfl) ⟨rfl, ⟨rfl, rfl⟩, trivial⟩ trivial ⟨_, rfl, .inl ⟨_, rfl, (by rw [hb114]; rfl)⟩⟩ rfl ?_
                  refine AOR.pure (LT.pickT (v := (.s (.c (bC (decide (0 < r91)))))) rfl hb114) ⟨rfl, rfl, trivial⟩ trivial ⟨_, rfl, .inl ⟨_, rfl, (by rw [hb112]; rfl)⟩⟩ rfl ?_
                  refine AOR.pure (LT.pickF (v := (.s (.c (bC (decide (0 < r91)))))) rfl hb112) ⟨rfl, rfl, trivial⟩ trivial rfl rfl ?_
                  refine AOR.pure (LT.move (v := (.s (.c (bC (decide (0 < r91)))))) rfl) ⟨rfl, trivial⟩ trivial rfl rfl ?_
                  refine AOR.split (fun hb115 => ?_) (fun hb115 => ?_)
                  · refine AOR.skip ⟨_, rfl, .inl ⟨_, rfl, (by rw [hb115]; rfl)⟩⟩ rfl ?_
                    refine AOR.skip ⟨_, rfl, .inl ⟨_, rfl, (by rw [hb115]; rfl)⟩⟩ rfl ?_
                    refine AOR.skip ⟨_, rfl, .inl ⟨_, rfl, (by rw [hb115]; rfl)⟩⟩ rfl ?_
                    refine AOR.skip ⟨_, rfl, .inl ⟨_, rfl, (by rw [hb115]; rfl)⟩⟩ rfl ?_
                    refine AOR.skip ⟨_, rfl, .inl ⟨_, rfl, (by rw [hb115]; rfl)⟩⟩ rfl ?_
                    refine AOR.skip ⟨_, rfl, .inl ⟨_, rfl, (by rw [hb115]; rfl)⟩⟩ rfl ?_
                    refine AOR.skip ⟨_, rfl, .inl ⟨_, rfl, (by rw [hb115]; rfl)⟩⟩ rfl ?_
                    refine AOR.skip ⟨_, rfl, .inr ⟨rfl, rfl⟩⟩ rfl ?_
                    refine AOR.skip ⟨_, rfl, .inr ⟨rfl, rfl⟩⟩ rfl ?_
                    refine AOR.skip ⟨_, rfl, .inl ⟨_, rfl, (by rw [hb115]; rfl)⟩⟩ rfl ?_
                    refine AOR.pure (LT.pickT (v := (.s (.c (bC true)))) rfl hb115) ⟨rfl, ⟨rfl, rfl⟩, trivial⟩ trivial rfl rfl ?_
                    refine AOR.nil ?_
                    refine AWR.nil ⟨rfl, Ent.of ⟨rfl, rfl, rfl, rfl, rfl, rfl, trivial⟩ ⟨rfl, trivial⟩⟩
                  · refine AOR.pure (LT.fieldPl rfl fo39_1) ⟨rfl, trivial⟩ trivial ⟨_, rfl, .inl ⟨_, rfl, (by rw [hb115]; rfl)⟩⟩ rfl ?_
                    refine AOR.pure (LT.bload1 (c := (.pv (.xs false (tV.Kinds.map encInt)))) rfl ag28 (by exact rfl)) ⟨rfl, trivial⟩ ⟨rfl, trivial⟩ ⟨_, rfl, .inl ⟨_, rfl, (by rw [hb115]; rfl)⟩⟩ rfl ?_
                    refine AOR.pure (LT.move (v := (.s (.c (iC s9)))) rfl) ⟨rfl, trivial⟩ trivial ⟨_, rfl, .inl ⟨_, rfl, (by rw [hb115]; rfl)⟩⟩ rfl ?_
                    refine AOR.bind fun x116 hx116 => ?_
                    refine AOR.pure (LT.tindexRO (enc := encInt) rfl el28 hx116 sz3) ⟨rfl, rfl, trivial⟩ trivial ⟨_, rfl, .inl ⟨_, rfl, (by rw [hb115]; rfl)⟩⟩ rfl ?_
                    refine AOR.pure (LT.loadPx1 rfl ag3) ⟨rfl, trivial⟩ trivial ⟨_, rfl, .inl ⟨_, rfl, (by rw [hb115]; rfl)⟩⟩ rfl ?_
                    refine AOR.pure (LT.eql rfl) ⟨rfl, ⟨rfl, rfl⟩, trivial⟩ trivial ⟨_, rfl, .inl ⟨_, rfl, (by rw [hb115]; rfl)⟩⟩ rfl ?_
                    refine AOR.pure (LT.move (v := (.s (.c (bC (x116 == 2))))) rfl) ⟨rfl, trivial⟩ trivial ⟨_, rfl, .inl ⟨_, rfl, (by rw [hb115]; rfl)⟩⟩ rfl ?_
                    refine AOR.split (fun hb117 => ?_) (fun hb117 => ?_)
                    · refine AOR.pure (LT.move (v := (.s (.c (iC r91)))) rfl) ⟨rfl, trivial⟩ trivial ⟨_, rfl, .inl ⟨_, rfl, (by rw [hb117]; rfl)⟩⟩ rfl ?_
                      refine AOR.pure (LT.lss rfl) ⟨rfl, ⟨rfl, rfl⟩, trivial⟩ trivial ⟨_, rfl, .inl ⟨_, rfl, (by rw [hb117]; rfl)⟩⟩ rfl ?_
                      refine AOR.pure (LT.pickT (v := (.s (.c (bC (decide (r91 < 0)))))) rfl hb117) ⟨rfl, rfl, trivial⟩ trivial ⟨_, rfl, .inl ⟨_, rfl, (by rw [hb115]; rfl)⟩⟩ rfl ?_
                      refine AOR.pure (LT.pickF (v := (.s (.c (bC (decide (r91 < 0)))))) rfl hb115) ⟨rfl, rfl, trivial⟩ trivial rfl rfl ?_
                      refine AOR.nil ?_
                      refine AWR.nil ⟨rfl, Ent.of ⟨rfl, rfl, rfl, rfl, rfl, rfl, trivial⟩ ⟨rfl, trivial⟩⟩
                    · refine AOR.skip ⟨_, rfl, .inl ⟨_, rfl, (by rw [hb117]; rfl)⟩⟩ rfl ?_
                      refine AOR.skip ⟨_, rfl, .inl ⟨_, rfl, (by rw [hb117]; rfl)⟩⟩ rfl ?_
                      refine AOR.pure (LT.pickF (v := (.s (.c (bC false)))) rfl hb117) ⟨rfl, ⟨rfl, rfl⟩, trivial⟩ trivial ⟨_, rfl, .inl ⟨_, rfl, (by rw [hb115]; rfl)⟩⟩ rfl ?_
                      refine AOR.pure (LT.pickF (v := (.s (.c (bC false)))) rfl hb115) ⟨rfl, rfl, trivial⟩ trivial rfl rfl ?_
                      refine AOR.nil ?_
                      refine AWR.nil ⟨rfl, Ent.of ⟨rfl, rfl, rfl, rfl, rfl, rfl, trivial⟩ ⟨rfl, trivial⟩⟩
                · refine AOR.skip ⟨_, rfl, .inl ⟨_, rfl, (by rw [hb114]; rfl)⟩⟩ rfl ?_
                  refine AOR.skip ⟨_, rfl, .inl ⟨_, rfl, (by rw [hb114]; rfl)⟩⟩ rfl ?_
                  refine AOR.pure (LT.pickF (v := (.s (.c (bC false)))) rfl hb114) ⟨rfl, ⟨rfl, rfl⟩, trivial⟩ trivial ⟨_, rfl, .inl ⟨_, rfl, (by rw [hb112]; rfl)⟩⟩ rfl ?_
                  refine AOR.pure (LT.pickF (v := (.s (.c (bC false)))) rfl hb112) ⟨rfl, rfl, trivial⟩ trivial rfl rfl ?_
                  refine AOR.pure (LT.move (v := (.s (.c (bC false)))) rfl) ⟨rfl, trivial⟩ trivial rfl rfl ?_
                  refine AOR.pure (LT.fieldPl rfl fo39_1) ⟨rfl, trivial⟩ trivial ⟨_, rfl, .inl ⟨_, rfl, rfl⟩⟩ rfl ?_
                  refine AOR.pure (LT.bload1 (c := (.pv (.xs false (tV.Kinds.map encInt)))) rfl ag28 (by exact rfl)) ⟨rfl, trivial⟩ ⟨rfl, trivial⟩ ⟨_, rfl, .inl ⟨_, rfl, rfl⟩⟩ rfl ?_
                  refine AOR.pure (LT.move (v := (.s (.c (iC s9)))) rfl) ⟨rfl, trivial⟩ trivial ⟨_, rfl, .inl ⟨_, rfl, rfl⟩⟩ rfl ?_
                  refine AOR.bind fun x118 hx118 => ?_
                  refine AOR.pure (LT.tindexRO (enc := encInt) rfl el28 hx118 sz3) ⟨rfl, rfl, trivial⟩ trivial ⟨_, rfl, .inl ⟨_, rfl, rfl⟩⟩ rfl ?_
                  refine AOR.pure (LT.loadPx1 rfl ag3) ⟨rfl, trivial⟩ trivial ⟨_, rfl, .inl ⟨_, rfl, rfl⟩⟩ rfl ?_
                  refine AOR.pure (LT.eql rfl) ⟨rfl, ⟨rfl, rfl⟩, trivial⟩ trivial ⟨_, rfl, .inl ⟨_, rfl, rfl⟩⟩ rfl ?_
                  refine AOR.pure (LT.move (v := (.s (.c (bC (x118 == 2))))) rfl) ⟨rfl, trivial⟩ trivial ⟨_, rfl, .inl ⟨_, rfl, rfl⟩⟩ rfl ?_
                  refine AOR.split (fun hb119 => ?_) (fun hb119 => ?_)
                  · refine AOR.pure (LT.move (v := (.s (.c (iC r91)))) rfl) ⟨rfl, trivial⟩ trivial ⟨_, rfl, .inl ⟨_, rfl, (by rw [hb119]; rfl)⟩⟩ rfl ?_
                    refine AOR.pure (LT.lss rfl) ⟨rfl, ⟨rfl, rfl⟩, trivial⟩ trivial ⟨_, rfl, .inl ⟨_, rfl, (by rw [hb119]; rfl)⟩⟩ rfl ?_
                    refine AOR.pure (LT.pickT (v := (.s (.c (bC (decide (r91 < 0)))))) rfl hb119) ⟨rfl, rfl, trivial⟩ trivial ⟨_, rfl, .inl ⟨_, rfl, rfl⟩⟩ rfl ?_
                    refine AOR.pure (LT.pickF (v := (.s (.c (bC (decide (r91 < 0)))))) rfl rfl) ⟨rfl, rfl, trivial⟩ trivial rfl rfl ?_
                    refine AOR.nil ?_
                    refine AWR.nil ⟨rfl, Ent.of ⟨rfl, rfl, rfl, rfl, rfl, rfl, trivial⟩ ⟨rfl, trivial⟩⟩
                  · refine AOR.skip ⟨_, rfl, .inl ⟨_, rfl, (by rw [hb119]; rfl)⟩⟩ rfl ?_
                    refine AOR.skip ⟨_, rfl, .inl ⟨_, rfl, (by rw [hb119]; rfl)⟩⟩ rfl ?_
                    refine AOR.pure (LT.pickF (v := (.s (.c (bC false)))) rfl hb119) ⟨rfl, ⟨rfl, rfl⟩, trivial⟩ trivial ⟨_, rfl, .inl ⟨_, rfl, rfl⟩⟩ rfl ?_
                    refine AOR.pure (LT.pickF (v := (.s (.c (bC false)))) rfl rfl) ⟨rfl, rfl, trivial⟩ trivial rfl rfl ?_
                    refine AOR.nil ?_
                    refine AWR.nil ⟨rfl, Ent.of ⟨rfl, rfl, rfl, rfl, rfl, rfl, trivial⟩ ⟨rfl, trivial⟩⟩
            · refine AOR.skip ⟨_, rfl, .inl ⟨_, rfl, (by rw [hb111]; rfl)⟩⟩ rfl ?_
              refine AOR.skip ⟨_, rfl, .inl ⟨_, rfl, (by rw [hb111]; rfl)⟩⟩ rfl ?_
              refine AOR.pure (LT.pickF (v := (.s (.c (bC false)))) rfl hb111) ⟨rfl, ⟨rfl, rfl⟩, trivial⟩ trivial rfl rfl ?_
              refine AOR.pure (LT.move (v := (.s (.c (bC false)))) rfl) ⟨rfl, trivial⟩ trivial rfl rfl ?_
              refine AOR.pure (LT.fieldPl rfl fo39_1) ⟨rfl, trivial⟩ trivial ⟨_, rfl, .inl ⟨_, rfl, rfl⟩⟩ rfl ?_
              refine AOR.pure (LT.bload1 (c := (.pv (.xs false (tV.Kinds.map encInt)))) rfl ag28 (by exact rfl)) ⟨rfl, trivial⟩ ⟨rfl, trivial⟩ ⟨_, rfl, .inl ⟨_, rfl, rfl⟩⟩ rfl ?_
              refine AOR.pure (LT.move (v := (.s (.c (iC s9)))) rfl) ⟨rfl, trivial⟩ trivial ⟨_, rfl, .inl ⟨_, rfl, rfl⟩⟩ rfl ?_
              refine AOR.bind fun x120 hx120 => ?_
              refine AOR.pure (LT.tindexRO (enc := encInt) rfl el28 hx120 sz3) ⟨rfl, rfl, trivial⟩ trivial ⟨_, rfl, .inl ⟨_, rfl, rfl⟩⟩ rfl ?_
              refine AOR.pure (LT.loadPx1 rfl ag3) ⟨rfl, trivial⟩ trivial ⟨_, rfl, .inl ⟨_, rfl, rfl⟩⟩ rfl ?_
              refine AOR.pure (LT.eql rfl) ⟨rfl, ⟨rfl, rfl⟩, trivial⟩ trivial ⟨_, rfl, .inl ⟨_, rfl, rfl⟩⟩ rfl ?_
              refine AOR.pure (LT.move (v := (.s (.c (bC (x120 == 1))))) rfl) ⟨rfl, trivial⟩ trivial ⟨_, rfl, .inl ⟨_, rfl, rfl⟩⟩ rfl ?_
              refine AOR.split (fun hb121 => ?_) (fun hb121 => ?_)
              · refine AOR.pure (LT.move (v := (.s (.c (iC r91)))) rfl) ⟨rfl, trivial⟩ trivial ⟨_, rfl, .inl ⟨_, rfl, (by rw [hb121]; rfl)⟩⟩ rfl ?_
                refine AOR.pure (LT.gtr rfl) ⟨rfl, ⟨rfl, rfl⟩, trivial⟩ trivial ⟨_, rfl, .inl ⟨_, rfl, (by rw [hb121]; rfl)⟩⟩ rfl ?_
                refine AOR.pure (LT.pickT (v := (.s (.c (bC (decide (0 < r91)))))) rfl hb121) ⟨rfl, rfl, trivial⟩ trivial ⟨_, rfl, .inl ⟨_, rfl, rfl⟩⟩ rfl ?_
                refine AOR.pure (LT.pickF (v := (.s (.c (bC (decide (0 < r91)))))) rfl rfl) ⟨rfl, rfl, trivial⟩ trivial rfl rfl ?_
                refine AOR.pure (LT.move (v := (.s (.c (bC (decide (0 < r91)))))) rfl) ⟨rfl, trivial⟩ trivial rfl rfl ?_
                refine AOR.split (fun hb122 => ?_) (fun hb122 => ?_)
                · refine AOR.skip ⟨_, rfl, .inl ⟨_, rfl, (by rw [hb122]; rfl)⟩⟩ rfl ?_
                  refine AOR.skip ⟨_, rfl, .inl ⟨_, rfl, (by rw [hb122]; rfl)⟩⟩ rfl ?_
                  refine AOR.skip ⟨_, rfl, .inl ⟨_, rfl, (by rw [hb122]; rfl)⟩⟩ rfl ?_
                  refine AOR.skip ⟨_, rfl, .inl ⟨_, rfl, (by rw [hb122]; rfl)⟩⟩ rfl ?_
                  refine AOR.skip ⟨_, rfl, .inl ⟨_, rfl, (by rw [hb122]; rfl)⟩⟩ rfl ?_
                  refine AOR.skip ⟨_, rfl, .inl ⟨_, rfl, (by rw [hb122]; rfl)⟩⟩ rfl ?_
                  refine AOR.skip ⟨_, rfl, .inl ⟨_, rfl, (by rw [hb122]; rfl)⟩⟩ rfl ?_
                  refine AOR.skip ⟨_, rfl, .inr ⟨rfl, rfl⟩⟩ rfl ?_
                  refine AOR.skip ⟨_, rfl, .inr ⟨rfl, rfl⟩⟩ rfl ?_
                  refine AOR.skip ⟨_, rfl, .inl ⟨_, rfl, (by rw [hb122]; rfl)⟩⟩ rfl ?_
                  refine AOR.pure (LT.pickT (v := (.s (.c (bC true)))) rfl hb122) ⟨rfl, ⟨rfl, rfl⟩, trivial⟩ trivial rfl rfl ?_
                  refine AOR.nil ?_
                  refine AWR.nil ⟨rfl, Ent.of ⟨rfl, rfl, rfl, rfl, rfl, rfl, trivial⟩ ⟨rfl, trivial⟩⟩
                · refine AOR.pure (LT.fieldPl rfl fo39_1) ⟨rfl, trivial⟩ trivial ⟨_, rfl, .inl ⟨_, rfl, (by rw [hb122]; rfl)⟩⟩ rfl ?_
                  refine AOR.pure (LT.bload1 (c := (.pv (.xs false (tV.Kinds.map encInt)))) rfl ag28 (by exact rfl)) ⟨rfl, trivial⟩ ⟨rfl, trivial⟩ ⟨_, rfl, .inl ⟨_, rfl, (by rw [hb122]; rfl)⟩⟩ rfl ?_
                  refine AOR.pure (LT.move (v := (.s (.c (iC s9)))) rfl) ⟨rfl, trivial⟩ trivial ⟨_, rfl, .inl ⟨_, rfl, (by rw [hb122]; rfl)⟩⟩ rfl ?_
                  refine AOR.bind fun x123 hx123 => ?_
                  refine AOR.pure (LT.tindexRO (enc := encInt) rfl el28 hx123 sz3) ⟨rfl, rfl, trivial⟩ trivial ⟨_, rfl, .inl ⟨_, rfl, (by rw [hb122]; rfl)⟩⟩ rfl ?_
                  refine AOR.pure (LT.loadPx1 rfl ag3) ⟨rfl, trivial⟩ trivial ⟨_, rfl, .inl ⟨_, rfl, (by rw [hb122]; rfl)⟩⟩ rfl ?_
                  refine AOR.pure (LT.eql rfl) ⟨rfl, ⟨rfl, rfl⟩, trivial⟩ trivial ⟨_, rfl, .inl ⟨_, rfl, (by rw [hb122]; rfl)⟩⟩ rfl ?_
                  refine AOR.pure (LT.move (v := (.s (.c (bC (x123 == 2))))) rfl) ⟨rfl, trivial⟩ trivial ⟨_, rfl, .inl ⟨_, rfl, (by rw [hb122]; rfl)⟩⟩ rfl ?_
                  refine AOR.split (fun hb124 => ?_) (fun hb124 => ?_)
                  · refine AOR.pure (LT.move (v := (.s (.c (iC r91)))) rfl) ⟨rfl, trivial⟩ trivial ⟨_, rfl, .inl ⟨_, rfl, (by rw [hb124]; rfl)⟩⟩ rfl ?_
                    refine AOR.pure (LT.lss rfl) ⟨rfl, ⟨rfl, rfl⟩, trivial⟩ trivial ⟨_, rfl, .inl ⟨_, rfl, (by rw [hb124]; rfl)⟩⟩ rfl ?_
                    refine AOR.pure (LT.pickT (v := (.s (.c (bC (decide (r91 < 0)))))) rfl hb124) ⟨rfl, rfl, trivial⟩ trivial ⟨_, rfl, .inl ⟨_, rfl, (by rw [hb122]; rfl)⟩⟩ rfl ?_
                    refine AOR.pure (LT.pickF (v := (.s (.c (bC (decide (r91 < 0)))))) rfl hb122) ⟨rfl, rfl, trivial⟩ trivial rfl rfl ?_
                    refine AOR.nil ?_
                    refine AWR.nil ⟨rfl, Ent.of ⟨rfl, rfl, rfl, rfl, rfl, rfl, trivial⟩ ⟨rfl, trivial⟩⟩
                  · refine AOR.skip ⟨_, rfl, .inl ⟨_, rfl, (by rw [hb124]; rfl)⟩⟩ rfl ?_
                    refine AOR.skip ⟨_, rfl, .inl ⟨_, rfl, (by rw [hb124]; rfl)⟩⟩ rfl ?_
                    refine AOR.pure (LT.pickF (v := (.s (.c (bC false)))) rfl hb124) ⟨rfl, ⟨rfl, rfl⟩, trivial⟩ trivial ⟨_, rfl, .inl ⟨_, rfl, (by rw [hb122]; rfl)⟩⟩ rfl ?_
                    refine AOR.pure (LT.pickF (v := (.s (.c (bC false)))) rfl hb122) ⟨rfl, rfl, trivial⟩ trivial rfl rfl ?_
                    refine AOR.nil ?_
                    refine AWR.nil ⟨rfl, Ent.of ⟨rfl, rfl, rfl, rfl, rfl, rfl, trivial⟩ ⟨rfl, trivial⟩⟩
              · refine AOR.skip ⟨_, rfl, .inl ⟨_, rfl, (by rw [hb121]; rfl)⟩⟩ rfl ?_
                refine AOR.skip ⟨_, rfl, .inl ⟨_, rfl, (by rw [hb121]; rfl)⟩⟩ rfl ?_
                refine AOR.pure (LT.pickF (v := (.s (.c (bC false)))) rfl hb121) ⟨rfl, ⟨rfl, rfl⟩, trivial⟩ trivial ⟨_, rfl, .inl ⟨_, rfl, rfl⟩⟩ rfl ?_
                refine AOR.pure (LT.pickF (v := (.s (.c (bC false)))) rfl rfl) ⟨rfl, rfl, trivial⟩ trivial rfl rfl ?_
                refine AOR.pure (LT.move (v := (.s (.c (bC false)))) rfl) ⟨rfl, trivial⟩ trivial rfl rfl ?_
                refine AOR.pure (LT.fieldPl rfl fo39_1) ⟨rfl, trivial⟩ trivial ⟨_, rfl, .inl ⟨_, rfl, rfl⟩⟩ rfl ?_
                refine AOR.pure (LT.bload1 (c := (.pv (.xs false (tV.Kinds.map encInt)))) rfl ag28 (by exact rfl)) ⟨rfl, trivial⟩ ⟨rfl, trivial⟩ ⟨_, rfl, .inl ⟨_, rfl, rfl⟩⟩ rfl ?_
                refine AOR.pure (LT.move (v := (.s (.c (iC s9)))) rfl) ⟨rfl, trivial⟩ trivial ⟨_, rfl, .inl ⟨_, rfl, rfl⟩⟩ rfl ?_
                refine AOR.bind fun x125 hx125 => ?_
                refine AOR.pure (LT.tindexRO (enc := encInt) rfl el28 hx125 sz3) ⟨rfl, rfl, trivial⟩ trivial ⟨_, rfl, .inl ⟨_, rfl, rfl⟩⟩ rfl ?_
                refine AOR.pure (LT.loadPx1 rfl ag3) ⟨rfl, trivial⟩ trivial ⟨_, rfl, .inl ⟨_, rfl, rfl⟩⟩ rfl ?_
                refine AOR.pure (LT.eql rfl) ⟨rfl, ⟨rfl, rfl⟩, trivial⟩ trivial ⟨_, rfl, .inl ⟨_, rfl, rfl⟩⟩ rfl ?_
                refine AOR.pure (LT.move (v := (.s (.c (bC (x125 == 2))))) rfl) ⟨rfl, trivial⟩ trivial ⟨_, rfl, .inl ⟨_, rfl, rfl⟩⟩ rfl ?_
                refine AOR.split (fun hb126 => ?_) (fun hb126 => ?_)
                · refine AOR.pure (LT.move (v := (.s (.c (iC r91)))) rfl) ⟨rfl, trivial⟩ trivial ⟨_, rfl, .inl ⟨_, rfl, (by rw [hb126]; rfl)⟩⟩ rfl ?_
                  refine AOR.pure (LT.lss rfl) ⟨rfl, ⟨rfl, rfl⟩, trivial⟩ trivial ⟨_, rfl, .inl ⟨_, rfl, (by rw [hb126]; rfl)⟩⟩ rfl ?_
                  refine AOR.pure (LT.pickT (v := (.s (.c (bC (decide (r91 < 0)))))) rfl hb126) ⟨rfl, rfl, trivial⟩ trivial ⟨_, rfl, .inl ⟨_, rfl, rfl⟩⟩ rfl ?_
                  refine AOR.pure (LT.pickF (v := (.s (.c (bC (decide (r91 < 0)))))) rfl rfl) ⟨rfl, rfl, trivial⟩ trivial rfl rfl ?_
                  refine AOR.nil ?_
                  refine AWR.nil ⟨rfl, Ent.of ⟨rfl, rfl, rfl, rfl, rfl, rfl, trivial⟩ ⟨rfl, trivial⟩⟩
                · refine AOR.skip ⟨_, rfl, .inl ⟨_, rfl, (by rw [hb126]; rfl)⟩⟩ rfl ?_
                  refine AOR.skip ⟨_, rfl, .inl ⟨_, rfl, (by rw [hb126]; rfl)⟩⟩ rfl ?_
                  refine AOR.pure (LT.pickF (v := (.s (.c (bC false)))) rfl hb126) ⟨rfl, ⟨rfl, rfl⟩, trivial⟩ trivial ⟨_, rfl, .inl ⟨_, rfl, rfl⟩⟩ rfl ?_
                  refine AOR.pure (LT.pickF (v := (.s (.c (bC false)))) rfl rfl) ⟨rfl, rfl, trivial⟩ trivial rfl rfl ?_
                  refine AOR.nil ?_
                  refine AWR.nil ⟨rfl, Ent.of ⟨rfl, rfl, rfl, rfl, rfl, rfl, trivial⟩ ⟨rfl, trivial⟩⟩
          · refine AWR.cond rfl (fun hc127 => ?_) (fun hc127 => ?_)
            · refine AWR.seq ?_
              refine AWR.region ?_
              refine AOR.pure (LT.assign (v := (.s (.c (bC false)))) rfl) ⟨⟨rfl, rfl⟩, trivial⟩ trivial rfl rfl ?_
              refine AOR.nil ?_
              refine AWR.ret ⟨rfl, FPost.mk (.inr rfl) ⟨rfl, trivial⟩ trivial rfl ⟨PermP.sc, trivial⟩ trivial⟩
            · refine AWR.skip ?_
              refine AWR.blk ?_
              refine AWR.region ?_
              refine AOR.pure (LT.add rfl) ⟨rfl, ⟨rfl, rfl⟩, trivial⟩ trivial rfl rfl ?_
              refine AOR.pure (LT.move (v := (.s (.c (iC (w64 (s9 + 1)))))) rfl) ⟨rfl, trivial⟩ trivial rfl rfl ?_
              refine AOR.nil ?_
              refine AWR.nil ⟨rfl, Ent.of ⟨rfl, rfl, rfl, rfl, rfl, trivial⟩ ⟨rfl, trivial⟩⟩
        · refine AWR.exit_end rfl ⟨rfl, Ent.of trivial trivial⟩
      · refine AWR.seq ?_
        refine AWR.region ?_
        refine AOR.pure (LT.assign (v := (.s (.c (bC true)))) rfl) ⟨⟨rfl, rfl⟩, trivial⟩ trivial rfl rfl ?_
        refine AOR.nil ?_
        refine AWR.ret (FPost.mk (.inr rfl) ⟨rfl, trivial⟩ trivial rfl ⟨PermP.sc, trivial⟩ trivial)
end Go.Proofs.Ytoedmjkipecloaa
