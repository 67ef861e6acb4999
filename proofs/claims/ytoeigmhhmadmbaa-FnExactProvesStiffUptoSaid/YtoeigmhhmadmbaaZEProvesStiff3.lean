/- Parts of a proof that a law of the program holds: what the program computes, and why that is right. -/
import Derived.Test.YtoeigmhhmadmbaaZEProvesStiff2
section
set_option linter.unusedVariables false
set_option linter.unusedSimpArgs false
set_option linter.unnecessarySimpa false
open Go Go.Fw
namespace Go.Proofs.Ytoeigmhhmadmbaa
set_option maxRecDepth 100000 in
set_option maxHeartbeats 8000000 in
theorem w_spec_IsFramework (f : TFramework) : ∀ t, m_spec_IsFramework f = some t → Fw.Fn Try.prog 18 [(.agg [(iC f.Graph.Points), (.pv (.xs false (f.Graph.Bars.map encTBar))), (.pv (.xs false (f.Places.map encTPlace)))])] [] (.s (.c (bC t))) [] [] [] := by
  refine Fw.Fn.of (P := Try.prog) (X := []) (pn := []) (rs := (fun (t : Bool) => [(.c (bC t))])) (dfs := (fun (t : Bool) => [])) Try.func18 rfl Try.ntmps18 (Nat.le_of_ble_eq_true rfl) rfl ?_
  intro w0 U0 R0 g0
  unfold m_spec_IsFramework
  refine AWR.seq ?_
  refine AWR.region ?_
  refine AOR.step (LT.box (n := 21) (v := (.agg [(iC f.Graph.Points), (.pv (.xs false (f.Graph.Bars.map encTBar))), (.pv (.xs false (f.Places.map encTPlace)))])) rfl sz29 (by exact rfl)) ⟨rfl, trivial⟩ trivial rfl rfl ?_
  refine AOR.pure (LT.assign (v := (.s (.c (bC false)))) rfl) ⟨⟨rfl, rfl⟩, trivial⟩ trivial rfl rfl ?_
  refine AOR.nil ?_
  refine AWR.seq ?_
  refine AWR.seq ?_
  refine AWR.joinK (fun j5 => ([(1, (.s (.c (.pl 21 0)))), (31, (.s (.c (bC j5))))], [(21, (.row 29 [[(iC f.Graph.Points), (.pv (.xs false (f.Graph.Bars.map encTBar))), (.pv (.xs false (f.Places.map encTPlace)))]]))])) ?_ (fun j5 _ => ?_)
  · refine AWR.region ?_
    refine AOR.pure (LT.fieldPl rfl fo29_0) ⟨rfl, trivial⟩ trivial rfl rfl ?_
    refine AOR.pure (LT.bloadN (out := [(iC f.Graph.Points), (.pv (.xs false (f.Graph.Bars.map encTBar)))]) rfl ag26 (infS inf26) sz26 (by exact rfl) (by exact rfl)) ⟨rfl, trivial⟩ ⟨rfl, trivial⟩ rfl rfl ?_
    refine AOR.bind fun r6 hr6 => ?_
    refine AOR.pure (@LT.callF Try.prog _ _ 91 _ _ [(.agg [(iC f.Graph.Points), (.pv (.xs false (f.Graph.Bars.map encTBar)))])] _ _ [] _ _ _ _ (w_spec_IsGraph f.Graph r6 hr6) rfl cb91 (.cons (.agg (.cons (.same rfl) (.cons (.same rfl) .nil))) .nil) rfl rfl trivial) ⟨rfl, rfl, trivial⟩ trivial rfl rfl ?_
    refine AOR.pure (LT.not rfl) ⟨rfl, trivial⟩ trivial rfl rfl ?_
    refine AOR.pure (LT.move (v := (.s (.c (bC (!r6))))) rfl) ⟨rfl, trivial⟩ trivial rfl rfl ?_
    refine AOR.split (fun hb7 => ?_) (fun hb7 => ?_)
    · refine AOR.skip ⟨_, rfl, .inl ⟨_, rfl, (by rw [hb7]; rfl)⟩⟩ rfl ?_
      refine AOR.skip ⟨_, rfl, .inl ⟨_, rfl, (by rw [hb7]; rfl)⟩⟩ rfl ?_
      refine AOR.skip ⟨_, rfl, .inl ⟨_, rfl, (by rw [hb7]; rfl)⟩⟩ rfl ?_
      refine AOR.skip ⟨_, rfl, .inl ⟨_, rfl, (by rw [hb7]; rfl)⟩⟩ rfl ?_
      refine AOR.pure (LT.pickT (v := (.s (.c (bC true)))) rfl hb7) ⟨rfl, ⟨rfl, rfl⟩, trivial⟩ trivial rfl rfl ?_
      refine AOR.pure (LT.move (v := (.s (.c (bC true)))) rfl) ⟨rfl, trivial⟩ trivial rfl rfl ?_
      refine AOR.skip ⟨_, rfl, .inl ⟨_, rfl, rfl⟩⟩ rfl ?_
      refine AOR.skip ⟨_, rfl, .inl ⟨_, rfl, rfl⟩⟩ rfl ?_
      refine AOR.skip ⟨_, rfl, .inl ⟨_, rfl, rfl⟩⟩ rfl ?_
      refine AOR.skip ⟨_, rfl, .inl ⟨_, rfl, rfl⟩⟩ rfl ?_
      refine AOR.skip ⟨_, rfl, .inl ⟨_, rfl, rfl⟩⟩ rfl ?_
      refine AOR.skip ⟨_, rfl, .inl ⟨_, rfl, rfl⟩⟩ rfl ?_
      refine AOR.skip ⟨_, rfl, .inl ⟨_, rfl, rfl⟩⟩ rfl ?_
      refine AOR.pure (LT.pickT (v := (.s (.c (bC true)))) rfl rfl) ⟨rfl, ⟨rfl, rfl⟩, trivial⟩ trivial rfl rfl ?_
      refine AOR.pure (LT.move (v := (.s (.c (bC true)))) rfl) ⟨rfl, trivial⟩ trivial rfl rfl ?_
      refine AOR.skip ⟨_, rfl, .inl ⟨_, rfl, rfl⟩⟩ rfl ?_
      refine AOR.skip ⟨_, rfl, .inl ⟨_, rfl, rfl⟩⟩ rfl ?_
      refine AOR.skip ⟨_, rfl, .inl ⟨_, rfl, rfl⟩⟩ rfl ?_
      refine AOR.skip ⟨_, rfl, .inl ⟨_, rfl, rfl⟩⟩ rfl ?_
      refine AOR.skip ⟨_, rfl, .inl ⟨_, rfl, rfl⟩⟩ rfl ?_
      refine AOR.pure (LT.pickT (v := (.s (.c (bC true)))) rfl rfl) ⟨rfl, ⟨rfl, rfl⟩, trivial⟩ trivial rfl rfl ?_
      refine AOR.nil ?_
      refine AWR.nil ⟨rfl, Ent.of ⟨rfl, rfl, trivial⟩ ⟨rfl, trivial⟩⟩
    · refine AOR.pure (LT.fieldPl rfl fo29_0) ⟨rfl, trivial⟩ trivial ⟨_, rfl, .inl ⟨_, rfl, (by rw [hb7]; rfl)⟩⟩ rfl ?_
      refine AOR.pure (LT.fieldPl rfl fo26_0) ⟨rfl, trivial⟩ trivial ⟨_, rfl, .inl ⟨_, rfl, (by rw [hb7]; rfl)⟩⟩ rfl ?_
      refine AOR.pure (LT.bload1 (c := (iC f.Graph.Points)) rfl ag3 (by exact rfl)) ⟨rfl, trivial⟩ ⟨rfl, trivial⟩ ⟨_, rfl, .inl ⟨_, rfl, (by rw [hb7]; rfl)⟩⟩ rfl ?_
      refine AOR.pure (LT.gtr rfl) ⟨rfl, ⟨rfl, rfl⟩, trivial⟩ trivial ⟨_, rfl, .inl ⟨_, rfl, (by rw [hb7]; rfl)⟩⟩ rfl ?_
      refine AOR.pure (LT.pickF (v := (.s (.c (bC (decide (6 < f.Graph.Points)))))) rfl hb7) ⟨rfl, rfl, trivial⟩ trivial rfl rfl ?_
      refine AOR.pure (LT.move (v := (.s (.c (bC (decide (6 < f.Graph.Points)))))) rfl) ⟨rfl, trivial⟩ trivial rfl rfl ?_
      refine AOR.split (fun hb8 => ?_) (fun hb8 => ?_)
      · refine AOR.skip ⟨_, rfl, .inl ⟨_, rfl, (by rw [hb8]; rfl)⟩⟩ rfl ?_
        refine AOR.skip ⟨_, rfl, .inl ⟨_, rfl, (by rw [hb8]; rfl)⟩⟩ rfl ?_
        refine AOR.skip ⟨_, rfl, .inl ⟨_, rfl, (by rw [hb8]; rfl)⟩⟩ rfl ?_
        refine AOR.skip ⟨_, rfl, .inl ⟨_, rfl, (by rw [hb8]; rfl)⟩⟩ rfl ?_
        refine AOR.skip ⟨_, rfl, .inl ⟨_, rfl, (by rw [hb8]; rfl)⟩⟩ rfl ?_
        refine AOR.skip ⟨_, rfl, .inl ⟨_, rfl, (by rw [hb8]; rfl)⟩⟩ rfl ?_
        refine AOR.skip ⟨_, rfl, .inl ⟨_, rfl, (by rw [hb8]; rfl)⟩⟩ rfl ?_
        refine AOR.pure (LT.pickT (v := (.s (.c (bC true)))) rfl hb8) ⟨rfl, ⟨rfl, rfl⟩, trivial⟩ trivial rfl rfl ?_
        refine AOR.pure (LT.move (v := (.s (.c (bC true)))) rfl) ⟨rfl, trivial⟩ trivial rfl rfl ?_
        refine AOR.skip ⟨_, rfl, .inl ⟨_, rfl, rfl⟩⟩ rfl ?_
        refine AOR.skip ⟨_, rfl, .inl ⟨_, rfl, rfl⟩⟩ rfl ?_
        refine AOR.skip ⟨_, rfl, .inl ⟨_, rfl, rfl⟩⟩ rfl ?_
        refine AOR.skip ⟨_, rfl, .inl ⟨_, rfl, rfl⟩⟩ rfl ?_
        refine AOR.skip ⟨_, rfl, .inl ⟨_, rfl, rfl⟩⟩ rfl ?_
        refine AOR.pure (LT.pickT (v := (.s (.c (bC true)))) rfl rfl) ⟨rfl, ⟨rfl, rfl⟩, trivial⟩ trivial rfl rfl ?_
        refine AOR.nil ?_
        refine AWR.nil ⟨rfl, Ent.of ⟨rfl, rfl, trivial⟩ ⟨rfl, trivial⟩⟩
      · refine AOR.pure (LT.fieldPl rfl fo29_1) ⟨rfl, trivial⟩ trivial ⟨_, rfl, .inl ⟨_, rfl, (by rw [hb8]; rfl)⟩⟩ rfl ?_
        refine AOR.pure (LT.bload1 (c := (.pv (.xs false (f.Places.map encTPlace)))) rfl ag27 (by exact rfl)) ⟨rfl, trivial⟩ ⟨rfl, trivial⟩ ⟨_, rfl, .inl ⟨_, rfl, (by rw [hb8]; rfl)⟩⟩ rfl ?_
        refine AOR.pure (LT.tlenRO rfl und27) ⟨rfl, trivial⟩ trivial ⟨_, rfl, .inl ⟨_, rfl, (by rw [hb8]; rfl)⟩⟩ rfl ?_
        refine AOR.pure (LT.fieldPl rfl fo29_0) ⟨rfl, trivial⟩ trivial ⟨_, rfl, .inl ⟨_, rfl, (by rw [hb8]; rfl)⟩⟩ rfl ?_
        refine AOR.pure (LT.fieldPl rfl fo26_0) ⟨rfl, trivial⟩ trivial ⟨_, rfl, .inl ⟨_, rfl, (by rw [hb8]; rfl)⟩⟩ rfl ?_
        refine AOR.pure (LT.bload1 (c := (iC f.Graph.Points)) rfl ag3 (by exact rfl)) ⟨rfl, trivial⟩ ⟨rfl, trivial⟩ ⟨_, rfl, .inl ⟨_, rfl, (by rw [hb8]; rfl)⟩⟩ rfl ?_
        refine AOR.pure (LT.neq rfl) ⟨rfl, rfl, trivial⟩ trivial ⟨_, rfl, .inl ⟨_, rfl, (by rw [hb8]; rfl)⟩⟩ rfl ?_
        refine AOR.pure (LT.pickF (v := (.s (.c (bC ((f.Places.length : Int) != f.Graph.Points))))) rfl hb8) ⟨rfl, rfl, trivial⟩ trivial rfl rfl ?_
        refine AOR.pure (LT.move (v := (.s (.c (bC ((f.Places.length : Int) != f.Graph.Points))))) rfl) ⟨rfl, trivial⟩ trivial rfl rfl ?_
        refine AOR.split (fun hb9 => ?_) (fun hb9 => ?_)
        · refine AOR.skip ⟨_, rfl, .inl ⟨_, rfl, (by rw [hb9]; rfl)⟩⟩ rfl ?_
          refine AOR.skip ⟨_, rfl, .inl ⟨_, rfl, (by rw [hb9]; rfl)⟩⟩ rfl ?_
          refine AOR.skip ⟨_, rfl, .inl ⟨_, rfl, (by rw [hb9]; rfl)⟩⟩ rfl ?_
          refine AOR.skip ⟨_, rfl, .inl ⟨_, rfl, (by rw [hb9]; rfl)⟩⟩ rfl ?_
          refine AOR.skip ⟨_, rfl, .inl ⟨_, rfl, (by rw [hb9]; rfl)⟩⟩ rfl ?_
          refine AOR.pure (LT.pickT (v := (.s (.c (bC true)))) rfl hb9) ⟨rfl, ⟨rfl, rfl⟩, trivial⟩ trivial rfl rfl ?_
          refine AOR.nil ?_
          refine AWR.nil ⟨rfl, Ent.of ⟨rfl, rfl, trivial⟩ ⟨rfl, trivial⟩⟩
        · refine AOR.pure (LT.fieldPl rfl fo29_0) ⟨rfl, trivial⟩ trivial ⟨_, rfl, .inl ⟨_, rfl, (by rw [hb9]; rfl)⟩⟩ rfl ?_
          refine AOR.pure (LT.fieldPl rfl fo26_1) ⟨rfl, trivial⟩ trivial ⟨_, rfl, .inl ⟨_, rfl, (by rw [hb9]; rfl)⟩⟩ rfl ?_
          refine AOR.pure (LT.bload1 (c := (.pv (.xs false (f.Graph.Bars.map encTBar)))) rfl ag24 (by exact rfl)) ⟨rfl, trivial⟩ ⟨rfl, trivial⟩ ⟨_, rfl, .inl ⟨_, rfl, (by rw [hb9]; rfl)⟩⟩ rfl ?_
          refine AOR.pure (LT.tlenRO rfl und24) ⟨rfl, trivial⟩ trivial ⟨_, rfl, .inl ⟨_, rfl, (by rw [hb9]; rfl)⟩⟩ rfl ?_
          refine AOR.pure (LT.gtr rfl) ⟨rfl, ⟨rfl, rfl⟩, trivial⟩ trivial ⟨_, rfl, .inl ⟨_, rfl, (by rw [hb9]; rfl)⟩⟩ rfl ?_
          refine AOR.pure (LT.pickF (v := (.s (.c (bC (decide (15 < (f.Graph.Bars.length : Int))))))) rfl hb9) ⟨rfl, rfl, trivial⟩ trivial rfl rfl ?_
          refine AOR.nil ?_
          refine AWR.nil ⟨rfl, Ent.of ⟨rfl, rfl, trivial⟩ ⟨rfl, trivial⟩⟩
  · refine AWR.cond rfl (fun hc10 => ?_) (fun hc10 => ?_)
    · refine AWR.seq ?_
      refine AWR.region ?_
      refine AOR.pure (LT.assign (v := (.s (.c (bC false)))) rfl) ⟨⟨rfl, rfl⟩, trivial⟩ trivial rfl rfl ?_
      refine AOR.nil ?_
      refine AWR.ret (FPost.mk (.inr rfl) ⟨rfl, trivial⟩ trivial rfl ⟨PermP.sc, trivial⟩ trivial)
    · refine AWR.skip ?_
      refine AWR.seq ?_
      refine AWR.seq ?_
      refine AWR.region ?_
      refine AOR.pure (LT.assign (v := (.s (.c (iC 0)))) rfl) ⟨⟨rfl, rfl⟩, trivial⟩ trivial rfl rfl ?_
      refine AOR.nil ?_
      refine AWR.block ?_
      refine AWR.loopR (id := 0) (m_spec_IsFramework_L1 f) (fun s11 => ([(1, (.s (.c (.pl 21 0)))), (3, (.s (.c (iC s11))))], [(21, (.row 29 [[(iC f.Graph.Points), (.pv (.xs false (f.Graph.Bars.map encTBar))), (.pv (.xs false (f.Places.map encTPlace)))]]))])) (fun b38 => ([(1, (.s (.c (.pl 21 0))))], [(21, (.row 29 [[(iC f.Graph.Points), (.pv (.xs false (f.Graph.Bars.map encTBar))), (.pv (.xs false (f.Places.map encTPlace)))]]))])) (FPost Try.prog Try.f18.results.toList [] [] (fun (t : Bool) => [(.c (bC t))]) (fun (t : Bool) => [])) ?_ (Ent.of ⟨rfl, rfl, trivial⟩ ⟨rfl, trivial⟩) rfl (fun b38 _ => ?_) (by intro r t σ m ht hk; injection ht with ht; subst ht; exact hk)
      · intro s11
        unfold m_spec_IsFramework_L1
        refine AWR.seq ?_
        refine AWR.seq ?_
        refine AWR.region ?_
        refine AOR.pure (LT.move (v := (.s (.c (iC s11)))) rfl) ⟨rfl, trivial⟩ trivial rfl rfl ?_
        refine AOR.pure (LT.fieldPl rfl fo29_1) ⟨rfl, trivial⟩ trivial rfl rfl ?_
        refine AOR.pure (LT.bload1 (c := (.pv (.xs false (f.Places.map encTPlace)))) rfl ag27 (by exact rfl)) ⟨rfl, trivial⟩ ⟨rfl, trivial⟩ rfl rfl ?_
        refine AOR.pure (LT.tlenRO rfl und27) ⟨rfl, trivial⟩ trivial rfl rfl ?_
        refine AOR.pure (LT.lss rfl) ⟨rfl, rfl, trivial⟩ trivial rfl rfl ?_
        refine AOR.nil ?_
        refine AWR.cond rfl (fun hc39 => ?_) (fun hc39 => ?_)
        · refine AWR.skip ?_
          refine AWR.seq ?_
          refine AWR.block ?_
          refine AWR.seq ?_
          refine AWR.joinK (fun j45 => ([(1, (.s (.c (.pl 21 0)))), (3, (.s (.c (iC s11)))), (56, (.s (.c (bC j45))))], [(21, (.row 29 [[(iC f.Graph.Points), (.pv (.xs false (f.Graph.Bars.map encTBar))), (.pv (.xs false (f.Places.map encTPlace)))]]))])) ?_ (fun j45 _ => ?_)
          · refine AWR.region ?_
            refine AOR.pure (LT.fieldPl rfl fo29_1) ⟨rfl, trivial⟩ trivial rfl rfl ?_
            refine AOR.pure (LT.bload1 (c := (.pv (.xs false (f.Places.map encTPlace)))) rfl ag27 (by exact rfl)) ⟨rfl, trivial⟩ ⟨rfl, trivial⟩ rfl rfl ?_
            refine AOR.pure (LT.move (v := (.s (.c (iC s11)))) rfl) ⟨rfl, trivial⟩ trivial rfl rfl ?_
            refine AOR.bind fun x46 hx46 => ?_
            refine AOR.pure (LT.tindexRO (enc := encTPlace) rfl el27 hx46 sz95) ⟨rfl, rfl, trivial⟩ trivial rfl rfl ?_
            refine AOR.pure (LT.fieldPx rfl fo95_0) ⟨rfl, trivial⟩ trivial rfl rfl ?_
            refine AOR.pure (LT.loadPx1 rfl ag3) ⟨rfl, trivial⟩ trivial rfl rfl ?_
            refine AOR.bind fun r47 hr47 => ?_
            refine AOR.pure (@LT.callF Try.prog _ _ 92 _ _ [(.c (iC x46.X)), (.c (iC 0)), (.c (iC 4))] _ _ [] _ _ _ _ (w_spec_l1In x46.X 0 4 r47 hr47) rfl cb92 (.cons (.c (.same rfl)) (.cons (.c (.same rfl)) (.cons (.c (.same rfl)) .nil))) rfl rfl trivial) ⟨rfl, rfl, ⟨rfl, rfl⟩, ⟨rfl, rfl⟩, trivial⟩ trivial rfl rfl ?_
            refine AOR.pure (LT.not rfl) ⟨rfl, trivial⟩ trivial rfl rfl ?_
            refine AOR.pure (LT.move (v := (.s (.c (bC (!r47))))) rfl) ⟨rfl, trivial⟩ trivial rfl rfl ?_
            refine AOR.split (fun hb48 => ?_) (fun hb48 => ?_)
            · refine AOR.skip ⟨_, rfl, .inl ⟨_, rfl, (by rw [hb48]; rfl)⟩⟩ rfl ?_
              refine AOR.skip ⟨_, rfl, .inl ⟨_, rfl, (by rw [hb48]; rfl)⟩⟩ rfl ?_
              refine AOR.skip ⟨_, rfl, .inl ⟨_, rfl, (by rw [hb48]; rfl)⟩⟩ rfl ?_
              refine AOR.skip ⟨_, rfl, .inl ⟨_, rfl, (by rw [hb48]; rfl)⟩⟩ rfl ?_
              refine AOR.skip ⟨_, rfl, .inl ⟨_, rfl, (by rw [hb48]; rfl)⟩⟩ rfl ?_
              refine AOR.skip ⟨_, rfl, .inl ⟨_, rfl, (by rw [hb48]; rfl)⟩⟩ rfl ?_
              refine AOR.skip ⟨_, rfl, .inl ⟨_, rfl, (by rw [hb48]; rfl)⟩⟩ rfl ?_
              refine AOR.skip ⟨_, rfl, .inl ⟨_, rfl, (by rw [hb48]; rfl)⟩⟩ rfl ?_
              refine AOR.pure (LT.pickT (v := (.s (.c (bC true)))) rfl hb48) ⟨rfl, ⟨rfl, rfl⟩, trivial⟩ trivial rfl rfl ?_
              refine AOR.nil ?_
              refine AWR.nil ⟨rfl, Ent.of ⟨rfl, rfl, rfl, trivial⟩ ⟨rfl, trivial⟩⟩
            · refine AOR.pure (LT.fieldPl rfl fo29_1) ⟨rfl, trivial⟩ trivial ⟨_, rfl, .inl ⟨_, rfl, (by rw [hb48]; rfl)⟩⟩ rfl ?_
              refine AOR.pure (LT.bload1 (c := (.pv (.xs false (f.Places.map encTPlace)))) rfl ag27 (by exact rfl)) ⟨rfl, trivial⟩ ⟨rfl, trivial⟩ ⟨_, rfl, .inl ⟨_, rfl, (by rw [hb48]; rfl)⟩⟩ rfl ?_
              refine AOR.pure (LT.move (v := (.s (.c (iC s11)))) rfl) ⟨rfl, trivial⟩ trivial ⟨_, rfl, .inl ⟨_, rfl, (by rw [hb48]; rfl)⟩⟩ rfl ?_
              refine AOR.bind fun x49 hx49 => ?_
              refine AOR.pure (LT.tindexRO (enc := encTPlace) rfl el27 hx49 sz95) ⟨rfl, rfl, trivial⟩ trivial ⟨_, rfl, .inl ⟨_, rfl, (by rw [hb48]; rfl)⟩⟩ rfl ?_
              refine AOR.pure (LT.fieldPx rfl fo95_1) ⟨rfl, trivial⟩ trivial ⟨_, rfl, .inl ⟨_, rfl, (by rw [hb48]; rfl)⟩⟩ rfl ?_
              refine AOR.pure (LT.loadPx1 rfl ag3) ⟨rfl, trivial⟩ trivial ⟨_, rfl, .inl ⟨_, rfl, (by rw [hb48]; rfl)⟩⟩ rfl ?_
              refine AOR.bind fun r50 hr50 => ?_
              refine AOR.pure (@LT.callF Try.prog _ _ 92 _ _ [(.c (iC x49.Y)), (.c (iC 0)), (.c (iC 4))] _ _ [] _ _ _ _ (w_spec_l1In x49.Y 0 4 r50 hr50) rfl cb92 (.cons (.c (.same rfl)) (.cons (.c (.same rfl)) (.cons (.c (.same rfl)) .nil))) rfl rfl trivial) ⟨rfl, rfl, ⟨rfl, rfl⟩, ⟨rfl, rfl⟩, trivial⟩ trivial ⟨_, rfl, .inl ⟨_, rfl, (by rw [hb48]; rfl)⟩⟩ rfl ?_
              refine AOR.pure (LT.not rfl) ⟨rfl, trivial⟩ trivial ⟨_, rfl, .inl ⟨_, rfl, (by rw [hb48]; rfl)⟩⟩ rfl ?_
              refine AOR.pure (LT.pickF (v := (.s (.c (bC (!r50))))) rfl hb48) ⟨rfl, rfl, trivial⟩ trivial rfl rfl ?_
              refine AOR.nil ?_
              refine AWR.nil ⟨rfl, Ent.of ⟨rfl, rfl, rfl, trivial⟩ ⟨rfl, trivial⟩⟩
          · refine AWR.cond rfl (fun hc51 => ?_) (fun hc51 => ?_)
            · refine AWR.seq ?_
              refine AWR.region ?_
              refine AOR.pure (LT.assign (v := (.s (.c (bC false)))) rfl) ⟨⟨rfl, rfl⟩, trivial⟩ trivial rfl rfl ?_
              refine AOR.nil ?_
              refine AWR.ret ⟨rfl, FPost.mk (.inr rfl) ⟨rfl, trivial⟩ trivial rfl ⟨PermP.sc, trivial⟩ trivial⟩
            · refine AWR.skip ?_
              refine AWR.blk ?_
              refine AWR.region ?_
              refine AOR.pure (LT.move (v := (.s (.c (iC s11)))) rfl) ⟨rfl, trivial⟩ trivial rfl rfl ?_
              refine AOR.pure (LT.add rfl) ⟨rfl, ⟨rfl, rfl⟩, trivial⟩ trivial rfl rfl ?_
              refine AOR.pure (LT.assign (v := (.s (.c (iC (w64 (s11 + 1)))))) rfl) ⟨rfl, trivial⟩ trivial rfl rfl ?_
              refine AOR.nil ?_
              refine AWR.nil ⟨rfl, Ent.of ⟨rfl, rfl, trivial⟩ ⟨rfl, trivial⟩⟩
        · refine AWR.exit_end rfl ⟨rfl, Ent.of ⟨rfl, trivial⟩ ⟨rfl, trivial⟩⟩
      · refine AWR.seq ?_
        refine AWR.seq ?_
        refine AWR.region ?_
        refine AOR.pure (LT.assign (v := (.s (.c (iC 0)))) rfl) ⟨⟨rfl, rfl⟩, trivial⟩ trivial rfl rfl ?_
        refine AOR.nil ?_
        refine AWR.block ?_
        refine AWR.loopR (id := 2) (m_spec_IsFramework_L2 f) (fun s52 => ([(1, (.s (.c (.pl 21 0)))), (4, (.s (.c (iC s52))))], [(21, (.row 29 [[(iC f.Graph.Points), (.pv (.xs false (f.Graph.Bars.map encTBar))), (.pv (.xs false (f.Places.map encTPlace)))]]))])) (fun b81 => ([], [])) (FPost Try.prog Try.f18.results.toList [] [] (fun (t : Bool) => [(.c (bC t))]) (fun (t : Bool) => [])) ?_ (Ent.of ⟨rfl, rfl, trivial⟩ ⟨rfl, trivial⟩) rfl (fun b81 _ => ?_) (by intro r t σ m ht hk; injection ht with ht; subst ht; exact hk)
        · intro s52
          unfold m_spec_IsFramework_L2
          refine AWR.seq ?_
          refine AWR.seq ?_
          refine AWR.region ?_
          refine AOR.pure (LT.move (v := (.s (.c (iC s52)))) rfl) ⟨rfl, trivial⟩ trivial rfl rfl ?_
          refine AOR.pure (LT.fieldPl rfl fo29_0) ⟨rfl, trivial⟩ trivial rfl rfl ?_
          refine AOR.pure (LT.fieldPl rfl fo26_1) ⟨rfl, trivial⟩ trivial rfl rfl ?_
          refine AOR.pure (LT.bload1 (c := (.pv (.xs false (f.Graph.Bars.map encTBar)))) rfl ag24 (by exact rfl)) ⟨rfl, trivial⟩ ⟨rfl, trivial⟩ rfl rfl ?_
          refine AOR.pure (LT.tlenRO rfl und24) ⟨rfl, trivial⟩ trivial rfl rfl ?_
          refine AOR.pure (LT.lss rfl) ⟨rfl, rfl, trivial⟩ trivial rfl rfl ?_
          refine AOR.nil ?_
          refine AWR.cond rfl (fun hc82 => ?_) (fun hc82 => ?_)
          · refine AWR.skip ?_
            refine AWR.seq ?_
            refine AWR.block ?_
            refine AWR.seq ?_
            refine AWR.region ?_
            refine AOR.pure (LT.fieldPl rfl fo29_0) ⟨rfl, trivial⟩ trivial rfl rfl ?_
            refine AOR.pure (LT.fieldPl rfl fo26_1) ⟨rfl, trivial⟩ trivial rfl rfl ?_
            refine AOR.pure (LT.bload1 (c := (.pv (.xs false (f.Graph.Bars.map encTBar)))) rfl ag24 (by exact rfl)) ⟨rfl, trivial⟩ ⟨rfl, trivial⟩ rfl rfl ?_
            refine AOR.pure (LT.move (v := (.s (.c (iC s52)))) rfl) ⟨rfl, trivial⟩ trivial rfl rfl ?_
            refine AOR.bind fun x83 hx83 => ?_
            refine AOR.pure (LT.tindexRO (enc := encTBar) rfl el24 hx83 sz79) ⟨rfl, rfl, trivial⟩ trivial rfl rfl ?_
            refine AOR.pure (LT.loadPxN rfl ag79 (infS inf79) (by exact sz79.symm)) ⟨rfl, trivial⟩ trivial rfl rfl ?_
            refine AOR.step (LT.alloc (n := 25) (cells := [(iC 0), (iC 0)]) rfl ti79 rfl rfl rfl) trivial trivial rfl rfl ?_
            refine AOR.step (LT.bstore (v := (.agg [(iC x83.A), (iC x83.B)])) (out := [(iC x83.A), (iC x83.B)]) rfl rfl (infS inf79) sz79 (by exact rfl) (by exact Nat.le_of_ble_eq_true rfl) (by exact rfl)) ⟨rfl, rfl, trivial⟩ ⟨rfl, trivial⟩ rfl rfl ?_
            refine AOR.nil ?_
            refine AWR.seq ?_
            refine AWR.joinK (fun j89 => ([(1, (.s (.c (.pl 21 0)))), (4, (.s (.c (iC s52)))), (98, (.s (.c (bC j89))))], [(21, (.row 29 [[(iC f.Graph.Points), (.pv (.xs false (f.Graph.Bars.map encTBar))), (.pv (.xs false (f.Places.map encTPlace)))]]))])) ?_ (fun j89 _ => ?_)
            · refine AWR.ent (Ent.of (σ' := [(1, (.s (.c (.pl 21 0)))), (4, (.s (.c (iC s52)))), (5, (.s (.c (.pl 25 0))))]) (m' := [(21, (.row 29 [[(iC f.Graph.Points), (.pv (.xs false (f.Graph.Bars.map encTBar))), (.pv (.xs false (f.Places.map encTPlace)))]])), (25, (.row 79 [[(iC x83.A), (iC x83.B)]]))]) ⟨rfl, rfl, rfl, trivial⟩ ⟨rfl, rfl, trivial⟩) ?_
              refine AWR.draw mixed ?_
              refine AOD.pure (LT.fieldPl rfl fo29_1) ⟨rfl, trivial⟩ trivial rfl rfl ?_
              refine AOD.pure (LT.bload1 (c := (.pv (.xs false (f.Places.map encTPlace)))) rfl ag27 (by exact rfl)) ⟨rfl, trivial⟩ ⟨rfl, trivial⟩ rfl rfl ?_
              refine AOD.pure (LT.fieldPl rfl fo79_0) ⟨rfl, trivial⟩ trivial rfl rfl ?_
              refine AOD.pure (LT.bload1 (c := (iC x83.A)) rfl ag3 (by exact rfl)) ⟨rfl, trivial⟩ ⟨rfl, trivial⟩ rfl rfl ?_
              refine AOD.bind fun x90 hx90 => ?_
              refine AOD.pure (LT.tindexRO (enc := encTPlace) rfl el27 hx90 sz95) ⟨rfl, rfl, trivial⟩ trivial rfl rfl ?_
              refine AOD.pure (LT.loadPxN rfl ag95 (infS inf95) (by exact sz95.symm)) ⟨rfl, trivial⟩ trivial rfl rfl ?_
              refine AOD.pure (LT.fieldPl rfl fo29_1) ⟨rfl, trivial⟩ trivial rfl rfl ?_
              refine AOD.pure (LT.bload1 (c := (.pv (.xs false (f.Places.map encTPlace)))) rfl ag27 (by exact rfl)) ⟨rfl, trivial⟩ ⟨rfl, trivial⟩ rfl rfl ?_
              refine AOD.pure (LT.fieldPl rfl fo79_1) ⟨rfl, trivial⟩ trivial rfl rfl ?_
              refine AOD.pure (LT.bload1 (c := (iC x83.B)) rfl ag3 (by exact rfl)) ⟨rfl, trivial⟩ ⟨rfl, trivial⟩ rfl rfl ?_
              refine AOD.bind fun x91 hx91 => ?_
              refine AOD.pure (LT.tindexRO (enc := encTPlace) rfl el27 hx91 sz95) ⟨rfl, rfl, trivial⟩ trivial rfl rfl ?_
              refine AOD.pure (LT.loadPxN rfl ag95 (infS inf95) (by exact sz95.symm)) ⟨rfl, trivial⟩ trivial rfl rfl ?_
              refine AOD.pure (LT.eqlStruct [x90.X, x90.Y] [x91.X, x91.Y] rfl ist95 rfl rfl) ⟨rfl, rfl, trivial⟩ trivial rfl rfl ?_
              refine AOD.pure (LT.move (v := (.s (.c (bC (eqI [x90.X, x90.Y] [x91.X, x91.Y]))))) rfl) ⟨rfl, trivial⟩ trivial rfl rfl ?_
              refine AOD.split (fun hb92 => ?_) (fun hb92 => ?_)
              · refine AOD.skip ⟨_, rfl, .inl ⟨_, rfl, (by rw [hb92]; rfl)⟩⟩ rfl ?_
                refine AOD.skip ⟨_, rfl, .inl ⟨_, rfl, (by rw [hb92]; rfl)⟩⟩ rfl ?_
                refine AOD.skip ⟨_, rfl, .inl ⟨_, rfl, (by rw [hb92]; rfl)⟩⟩ rfl ?_
                refine AOD.skip ⟨_, rfl, .inr ⟨rfl, rfl⟩⟩ rfl ?_
                refine AOD.skip ⟨_, rfl, .inr ⟨rfl, rfl⟩⟩ rfl ?_
                refine AOD.skip ⟨_, rfl, .inr ⟨rfl, rfl⟩⟩ rfl ?_
                refine AOD.skip ⟨_, rfl, .inr ⟨rfl, rfl⟩⟩ rfl ?_
                refine AOD.skip ⟨_, rfl, .inr ⟨rfl, rfl⟩⟩ rfl ?_
                refine AOD.skip ⟨_, rfl, .inr ⟨rfl, rfl⟩⟩ rfl ?_
                refine AOD.skip ⟨_, rfl, .inr ⟨rfl, rfl⟩⟩ rfl ?_
                refine AOD.skip ⟨_, rfl, .inr ⟨rfl, rfl⟩⟩ rfl ?_
                refine AOD.skip ⟨_, rfl, .inr ⟨rfl, rfl⟩⟩ rfl ?_
                refine AOD.skip ⟨_, rfl, .inl ⟨_, rfl, (by rw [hb92]; rfl)⟩⟩ rfl ?_
                refine AOD.pure (LT.pickT (v := (.s (.c (bC true)))) rfl hb92) ⟨rfl, ⟨rfl, rfl⟩, trivial⟩ trivial rfl rfl ?_
                refine AOD.nil (by kernel_rfl) ?_
                refine AWR.nil ⟨rfl, Ent.of ⟨rfl, rfl, rfl, trivial⟩ ⟨rfl, trivial⟩⟩
              · refine AOD.pure (LT.move (v := (.s (.c (iC s52)))) rfl) ⟨rfl, trivial⟩ trivial ⟨_, rfl, .inl ⟨_, rfl, (by rw [hb92]; rfl)⟩⟩ rfl ?_
                refine AOD.pure (LT.gtr rfl) ⟨rfl, ⟨rfl, rfl⟩, trivial⟩ trivial ⟨_, rfl, .inl ⟨_, rfl, (by rw [hb92]; rfl)⟩⟩ rfl ?_
                refine AOD.pure (LT.move (v := (.s (.c (bC (decide (0 < s52)))))) rfl) ⟨rfl, trivial⟩ trivial ⟨_, rfl, .inl ⟨_, rfl, (by rw [hb92]; rfl)⟩⟩ rfl ?_
                refine AOD.split (fun hb93 => ?_) (fun hb93 => ?_)
                · refine AOD.pure (LT.fieldPl rfl fo29_0) ⟨rfl, trivial⟩ trivial ⟨_, rfl, .inl ⟨_, rfl, (by rw [hb93]; rfl)⟩⟩ rfl ?_
                  refine AOD.pure (LT.fieldPl rfl fo26_1) ⟨rfl, trivial⟩ trivial ⟨_, rfl, .inl ⟨_, rfl, (by rw [hb93]; rfl)⟩⟩ rfl ?_
                  refine AOD.pure (LT.bload1 (c := (.pv (.xs false (f.Graph.Bars.map encTBar)))) rfl ag24 (by exact rfl)) ⟨rfl, trivial⟩ ⟨rfl, trivial⟩ ⟨_, rfl, .inl ⟨_, rfl, (by rw [hb93]; rfl)⟩⟩ rfl ?_
                  refine AOD.pure (LT.move (v := (.s (.c (iC s52)))) rfl) ⟨rfl, trivial⟩ trivial ⟨_, rfl, .inl ⟨_, rfl, (by rw [hb93]; rfl)⟩⟩ rfl ?_
                  refine AOD.pure (LT.sub rfl) ⟨rfl, ⟨rfl, rfl⟩, trivial⟩ trivial ⟨_, rfl, .inl ⟨_, rfl, (by rw [hb93]; rfl)⟩⟩ rfl ?_
                  refine AOD.bind fun x94 hx94 => ?_
                  refine AOD.pure (LT.tindexRO (enc := encTBar) rfl el24 hx94 sz79) ⟨rfl, rfl, trivial⟩ trivial ⟨_, rfl, .inl ⟨_, rfl, (by rw [hb93]; rfl)⟩⟩ rfl ?_
                  refine AOD.pure (LT.loadPxN rfl ag79 (infS inf79) (by exact sz79.symm)) ⟨rfl, trivial⟩ trivial ⟨_, rfl, .inl ⟨_, rfl, (by rw [hb93]; rfl)⟩⟩ rfl ?_
                  refine AOD.pure (LT.bloadN (out := [(iC x83.A), (iC x83.B)]) rfl ag79 (infS inf79) sz79 (by exact rfl) (by exact rfl)) ⟨rfl, trivial⟩ ⟨rfl, trivial⟩ ⟨_, rfl, .inl ⟨_, rfl, (by rw [hb93]; rfl)⟩⟩ rfl ?_
                  refine AOD.pure (LT.eqlStruct [x94.A, x94.B] [x83.A, x83.B] rfl ist79 rfl rfl) ⟨rfl, rfl, trivial⟩ trivial ⟨_, rfl, .inl ⟨_, rfl, (by rw [hb93]; rfl)⟩⟩ rfl ?_
                  refine AOD.pure (LT.pickT (v := (.s (.c (bC (eqI [x94.A, x94.B] [x83.A, x83.B]))))) rfl hb93) ⟨rfl, rfl, trivial⟩ trivial ⟨_, rfl, .inl ⟨_, rfl, (by rw [hb92]; rfl)⟩⟩ rfl ?_
                  refine AOD.pure (LT.pickF (v := (.s (.c (bC (eqI [x94.A, x94.B] [x83.A, x83.B]))))) rfl hb92) ⟨rfl, rfl, trivial⟩ trivial rfl rfl ?_
                  refine AOD.nil (by kernel_rfl) ?_
                  refine AWR.nil ⟨rfl, Ent.of ⟨rfl, rfl, rfl, trivial⟩ ⟨rfl, trivial⟩⟩
                · refine AOD.skip ⟨_, rfl, .inl ⟨_, rfl, (by rw [hb93]; rfl)⟩⟩ rfl ?_
                  refine AOD.skip ⟨_, rfl, .inl ⟨_, rfl, (by rw [hb93]; rfl)⟩⟩ rfl ?_
                  refine AOD.skip ⟨_, rfl, .inl ⟨_, rfl, (by rw [hb93]; rfl)⟩⟩ rfl ?_
                  refine AOD.skip ⟨_, rfl, .inl ⟨_, rfl, (by rw [hb93]; rfl)⟩⟩ rfl ?_
                  refine AOD.skip ⟨_, rfl, .inl ⟨_, rfl, (by rw [hb93]; rfl)⟩⟩ rfl ?_
                  refine AOD.skip ⟨_, rfl, .inl ⟨_, rfl, (by rw [hb93]; rfl)⟩⟩ rfl ?_
                  refine AOD.skip ⟨_, rfl, .inl ⟨_, rfl, (by rw [hb93]; rfl)⟩⟩ rfl ?_
                  refine AOD.skip ⟨_, rfl, .inl ⟨_, rfl, (by rw [hb93]; rfl)⟩⟩ rfl ?_
                  refine AOD.skip ⟨_, rfl, .inl ⟨_, rfl, (by rw [hb93]; rfl)⟩⟩ rfl ?_
                  refine AOD.pure (LT.pickF (v := (.s (.c (bC false)))) rfl hb93) ⟨rfl, ⟨rfl, rfl⟩, trivial⟩ trivial ⟨_, rfl, .inl ⟨_, rfl, (by rw [hb92]; rfl)⟩⟩ rfl ?_
                  refine AOD.pure (LT.pickF (v := (.s (.c (bC false)))) rfl hb92) ⟨rfl, rfl, trivial⟩ trivial rfl rfl ?_
                  refine AOD.nil (by kernel_rfl) ?_
                  refine AWR.nil ⟨rfl, Ent.of ⟨rfl, rfl, rfl, trivial⟩ ⟨rfl, trivial⟩⟩
            · refine AWR.cond rfl (fun hc95 => ?_) (fun hc95 => ?_)
              · refine AWR.seq ?_
                refine AWR.region ?_
                refine AOR.pure (LT.assign (v := (.s (.c (bC false)))) rfl) ⟨⟨rfl, rfl⟩, trivial⟩ trivial rfl rfl ?_
                refine AOR.nil ?_
                refine AWR.ret ⟨rfl, FPost.mk (.inr rfl) ⟨rfl, trivial⟩ trivial rfl ⟨PermP.sc, trivial⟩ trivial⟩
              · refine AWR.skip ?_
                refine AWR.blk ?_
                refine AWR.region ?_
                refine AOR.pure (LT.move (v := (.s (.c (iC s52)))) rfl) ⟨rfl, trivial⟩ trivial rfl rfl ?_
                refine AOR.pure (LT.add rfl) ⟨rfl, ⟨rfl, rfl⟩, trivial⟩ trivial rfl rfl ?_
                refine AOR.pure (LT.assign (v := (.s (.c (iC (w64 (s52 + 1)))))) rfl) ⟨rfl, trivial⟩ trivial rfl rfl ?_
                refine AOR.nil ?_
                refine AWR.nil ⟨rfl, Ent.of ⟨rfl, rfl, trivial⟩ ⟨rfl, trivial⟩⟩
          · refine AWR.exit_end rfl ⟨rfl, Ent.of trivial trivial⟩
        · refine AWR.seq ?_
          refine AWR.region ?_
          refine AOR.pure (LT.assign (v := (.s (.c (bC true)))) rfl) ⟨⟨rfl, rfl⟩, trivial⟩ trivial rfl rfl ?_
          refine AOR.nil ?_
          refine AWR.ret (FPost.mk (.inr rfl) ⟨rfl, trivial⟩ trivial rfl ⟨PermP.sc, trivial⟩ trivial)
set_option maxRecDepth 100000 in
set_option maxHeartbeats 8000000 in
theorem w_spec_RigidityMatrix (f : TFramework) : ∀ t, m_spec_RigidityMatrix f = some t → Fw.Fn Try.prog 64 [(.agg [(iC f.Graph.Points), (.pv (.xs false (f.Graph.Bars.map encTBar))), (.pv (.xs false (f.Places.map encTPlace)))])] [] (.s (.c (.loc 0 0 t.length))) [(0, (.prow 37 (t.map (encLInt true))))] [] [0] := by
  refine Fw.Fn.ofU (P := Try.prog) (X := [0]) (pn := []) (rs := (fun (t : (List (List Int))) => [(.c (.loc 0 0 t.length))])) (dfs := (fun (t : (List (List Int))) => [(0, (.prow 37 (t.map (encLInt true))))])) Try.func64 rfl Try.ntmps64 (Nat.le_of_ble_eq_true rfl) rfl ?_
  intro w0 U0 R0 g0 hU
  unfold m_spec_RigidityMatrix
  refine AWR.seq ?_
  refine AWR.region ?_
  refine AOR.step (LT.box (n := 21) (v := (.agg [(iC f.Graph.Points), (.pv (.xs false (f.Graph.Bars.map encTBar))), (.pv (.xs false (f.Places.map encTPlace)))])) rfl sz29 (by exact rfl)) ⟨rfl, trivial⟩ trivial rfl rfl ?_
  refine AOR.pure (LT.assign (v := (.s (.c (sC nilV)))) rfl) ⟨⟨rfl, rfl⟩, trivial⟩ trivial rfl rfl ?_
  refine AOR.nil ?_
  refine AWR.seq ?_
  refine AWR.region ?_
  refine AOR.step (LT.tbuildSlice (n := 22) (enc := (encLInt true)) [] ([] : List (List Int)) rfl rfl und31 ti37 rfl rfl rfl rfl (by decide) (fun _ => rfl) rfl) trivial trivial rfl rfl ?_
  refine AOR.pure (LT.assign (v := (.s (.c (.loc 22 0 ([] : List (List Int)).length)))) rfl) ⟨rfl, trivial⟩ trivial rfl rfl ?_
  refine AOR.nil ?_
  refine AWR.seq ?_
  refine AWR.seq ?_
  refine AWR.region ?_
  refine AOR.pure (LT.assign (v := (.s (.c (iC 0)))) rfl) ⟨⟨rfl, rfl⟩, trivial⟩ trivial rfl rfl ?_
  refine AOR.nil ?_
  refine AWR.block ?_
  refine AWR.loop1 (id := 0) (m_spec_RigidityMatrix_L1 f) (fun s1 => ([(1, (.s (.c (.pl 21 0)))), (3, (.s (.c (.loc 22 0 s1.2.length)))), (4, (.s (.c (iC s1.1))))], [(21, (.row 29 [[(iC f.Graph.Points), (.pv (.xs false (f.Graph.Bars.map encTBar))), (.pv (.xs false (f.Places.map encTPlace)))]])), (22, (.prow 37 (s1.2.map (encLInt true))))])) (fun b36 => ([(3, (.s (.c (.loc 22 0 b36.length))))], [(22, (.prow 37 (b36.map (encLInt true))))])) ?_ (Ent.of ⟨rfl, rfl, rfl, trivial⟩ ⟨rfl, rfl, trivial⟩) rfl (fun b36 _ => ?_)
  · intro s1
    unfold m_spec_RigidityMatrix_L1
    refine AWR.seq ?_
    refine AWR.seq ?_
    refine AWR.joinK (fun j39 => ([(1, (.s (.c (.pl 21 0)))), (3, (.s (.c (.loc 22 0 s1.2.length)))), (4, (.s (.c (iC s1.1)))), (19, (.s (.c (bC j39))))], [(21, (.row 29 [[(iC f.Graph.Points), (.pv (.xs false (f.Graph.Bars.map encTBar))), (.pv (.xs false (f.Places.map encTPlace)))]])), (22, (.prow 37 (s1.2.map (encLInt true))))])) ?_ (fun j39 _ => ?_)
    · refine AWR.region ?_
      refine AOR.pure (LT.move (v := (.s (.c (iC s1.1)))) rfl) ⟨rfl, trivial⟩ trivial rfl rfl ?_
      refine AOR.pure (LT.fieldPl rfl fo29_0) ⟨rfl, trivial⟩ trivial rfl rfl ?_
      refine AOR.pure (LT.fieldPl rfl fo26_1) ⟨rfl, trivial⟩ trivial rfl rfl ?_
      refine AOR.pure (LT.bload1 (c := (.pv (.xs false (f.Graph.Bars.map encTBar)))) rfl ag24 (by exact rfl)) ⟨rfl, trivial⟩ ⟨rfl, trivial⟩ rfl rfl ?_
      refine AOR.pure (LT.tlenRO rfl und24) ⟨rfl, trivial⟩ trivial rfl rfl ?_
      refine AOR.pure (LT.lss rfl) ⟨rfl, rfl, trivial⟩ trivial rfl rfl ?_
      refine AOR.pure (LT.move (v := (.s (.c (bC (decide (s1.1 < (f.Graph.Bars.length : Int))))))) rfl) ⟨rfl, trivial⟩ trivial rfl rfl ?_
      refine AOR.split (fun hb40 => ?_) (fun hb40 => ?_)
      · refine AOR.pure (LT.bloadN (out := [(iC f.Graph.Points), (.pv (.xs false (f.Graph.Bars.map encTBar))), (.pv (.xs false (f.Places.map encTPlace)))]) rfl ag29 (infS inf29) sz29 (by exact rfl) (by exact rfl)) ⟨rfl, trivial⟩ ⟨rfl, trivial⟩ ⟨_, rfl, .inl ⟨_, rfl, (by rw [hb40]; rfl)⟩⟩ rfl ?_
        refine AOR.bind fun r41 hr41 => ?_
        refine AOR.pure (@LT.callF Try.prog _ _ 18 _ _ [(.agg [(iC f.Graph.Points), (.pv (.xs false (f.Graph.Bars.map encTBar))), (.pv (.xs false (f.Places.map encTPlace)))])] _ _ [] _ _ _ _ (w_spec_IsFramework f r41 hr41) rfl cb18 (.cons (.agg (.cons (.same rfl) (.cons (.same rfl) (.cons (.same rfl) .nil)))) .nil) rfl rfl trivial) ⟨rfl, rfl, trivial⟩ trivial ⟨_, rfl, .inl ⟨_, rfl, (by rw [hb40]; rfl)⟩⟩ rfl ?_
        refine AOR.pure (LT.pickT (v := (.s (.c (bC r41)))) rfl hb40) ⟨rfl, rfl, trivial⟩ trivial rfl rfl ?_
        refine AOR.nil ?_
        refine AWR.nil ⟨rfl, Ent.of ⟨rfl, rfl, rfl, rfl, trivial⟩ ⟨rfl, rfl, trivial⟩⟩
      · refine AOR.skip ⟨_, rfl, .inl ⟨_, rfl, (by rw [hb40]; rfl)⟩⟩ rfl ?_
        refine AOR.skip ⟨_, rfl, .inl ⟨_, rfl, (by rw [hb40]; rfl)⟩⟩ rfl ?_
        refine AOR.pure (LT.pickF (v := (.s (.c (bC false)))) rfl hb40) ⟨rfl, ⟨rfl, rfl⟩, trivial⟩ trivial rfl rfl ?_
        refine AOR.nil ?_
        refine AWR.nil ⟨rfl, Ent.of ⟨rfl, rfl, rfl, rfl, trivial⟩ ⟨rfl, rfl, trivial⟩⟩
    · refine AWR.cond rfl (fun hc42 => ?_) (fun hc42 => ?_)
      · refine AWR.skip ?_
        refine AWR.seq ?_
        refine AWR.block ?_
        refine AWR.seq ?_
        refine AWR.region ?_
        refine AOR.pure (LT.fieldPl rfl fo29_0) ⟨rfl, trivial⟩ trivial rfl rfl ?_
        refine AOR.pure (LT.fieldPl rfl fo26_1) ⟨rfl, trivial⟩ trivial rfl rfl ?_
        refine AOR.pure (LT.bload1 (c := (.pv (.xs false (f.Graph.Bars.map encTBar)))) rfl ag24 (by exact rfl)) ⟨rfl, trivial⟩ ⟨rfl, trivial⟩ rfl rfl ?_
        refine AOR.pure (LT.move (v := (.s (.c (iC s1.1)))) rfl) ⟨rfl, trivial⟩ trivial rfl rfl ?_
        refine AOR.bind fun x43 hx43 => ?_
        refine AOR.pure (LT.tindexRO (enc := encTBar) rfl el24 hx43 sz79) ⟨rfl, rfl, trivial⟩ trivial rfl rfl ?_
        refine AOR.pure (LT.loadPxN rfl ag79 (infS inf79) (by exact sz79.symm)) ⟨rfl, trivial⟩ trivial rfl rfl ?_
        refine AOR.step (LT.alloc (n := 24) (cells := [(iC 0), (iC 0)]) rfl ti79 rfl rfl rfl) trivial trivial rfl rfl ?_
        refine AOR.step (LT.bstore (v := (.agg [(iC x43.A), (iC x43.B)])) (out := [(iC x43.A), (iC x43.B)]) rfl rfl (infS inf79) sz79 (by exact rfl) (by exact Nat.le_of_ble_eq_true rfl) (by exact rfl)) ⟨rfl, rfl, trivial⟩ ⟨rfl, trivial⟩ rfl rfl ?_
        refine AOR.nil ?_
        refine AWR.seq ?_
        refine AWR.ent (Ent.of (σ' := [(1, (.s (.c (.pl 21 0)))), (3, (.s (.c (.loc 22 0 s1.2.length)))), (4, (.s (.c (iC s1.1)))), (5, (.s (.c (.pl 24 0))))]) (m' := [(21, (.row 29 [[(iC f.Graph.Points), (.pv (.xs false (f.Graph.Bars.map encTBar))), (.pv (.xs false (f.Places.map encTPlace)))]])), (22, (.prow 37 (s1.2.map (encLInt true)))), (24, (.row 79 [[(iC x43.A), (iC x43.B)]]))]) ⟨rfl, rfl, rfl, rfl, trivial⟩ ⟨rfl, rfl, rfl, trivial⟩) ?_
        refine AWR.region ?_
        refine AOR.pure (LT.fieldPl rfl fo29_0) ⟨rfl, trivial⟩ trivial rfl rfl ?_
        refine AOR.pure (LT.fieldPl rfl fo26_0) ⟨rfl, trivial⟩ trivial rfl rfl ?_
        refine AOR.pure (LT.bload1 (c := (iC f.Graph.Points)) rfl ag3 (by exact rfl)) ⟨rfl, trivial⟩ ⟨rfl, trivial⟩ rfl rfl ?_
        refine AOR.pure (LT.mul rfl) ⟨⟨rfl, rfl⟩, rfl, trivial⟩ trivial rfl rfl ?_
        refine AOR.bind fun u44 hu44 => ?_
        refine AOR.step (LT.tmake (n := 25) (enc := encInt) (zc := [(iC 0)]) (0 : Int) rfl und37 ti3 rfl rfl rfl (by decide) (by decide) (lenOk_le hu44) rfl) ⟨rfl, rfl, trivial⟩ trivial rfl rfl ?_
        refine AOR.pure (LT.assign (v := (.s (.c (.loc 25 0 (List.replicate (w64 (2 * f.Graph.Points)).toNat (0 : Int)).length)))) rfl) ⟨rfl, trivial⟩ trivial rfl rfl ?_
        refine AOR.nil ?_
        refine AWR.seq ?_
        refine AWR.draw mixed ?_
        refine AOD.pure (LT.fieldPl rfl fo29_1) ⟨rfl, trivial⟩ trivial rfl rfl ?_
        refine AOD.pure (LT.bload1 (c := (.pv (.xs false (f.Places.map encTPlace)))) rfl ag27 (by exact rfl)) ⟨rfl, trivial⟩ ⟨rfl, trivial⟩ rfl rfl ?_
        refine AOD.pure (LT.fieldPl rfl fo79_0) ⟨rfl, trivial⟩ trivial rfl rfl ?_
        refine AOD.pure (LT.bload1 (c := (iC x43.A)) rfl ag3 (by exact rfl)) ⟨rfl, trivial⟩ ⟨rfl, trivial⟩ rfl rfl ?_
        refine AOD.bind fun x45 hx45 => ?_
        refine AOD.pure (LT.tindexRO (enc := encTPlace) rfl el27 hx45 sz95) ⟨rfl, rfl, trivial⟩ trivial rfl rfl ?_
        refine AOD.pure (LT.fieldPx rfl fo95_0) ⟨rfl, trivial⟩ trivial rfl rfl ?_
        refine AOD.pure (LT.loadPx1 rfl ag3) ⟨rfl, trivial⟩ trivial rfl rfl ?_
        refine AOD.pure (LT.fieldPl rfl fo29_1) ⟨rfl, trivial⟩ trivial rfl rfl ?_
        refine AOD.pure (LT.bload1 (c := (.pv (.xs false (f.Places.map encTPlace)))) rfl ag27 (by exact rfl)) ⟨rfl, trivial⟩ ⟨rfl, trivial⟩ rfl rfl ?_
        refine AOD.pure (LT.fieldPl rfl fo79_1) ⟨rfl, trivial⟩ trivial rfl rfl ?_
        refine AOD.pure (LT.bload1 (c := (iC x43.B)) rfl ag3 (by exact rfl)) ⟨rfl, trivial⟩ ⟨rfl, trivial⟩ rfl rfl ?_
        refine AOD.bind fun x46 hx46 => ?_
        refine AOD.pure (LT.tindexRO (enc := encTPlace) rfl el27 hx46 sz95) ⟨rfl, rfl, trivial⟩ trivial rfl rfl ?_
        refine AOD.pure (LT.fieldPx rfl fo95_0) ⟨rfl, trivial⟩ trivial rfl rfl ?_
        refine AOD.pure (LT.loadPx1 rfl ag3) ⟨rfl, trivial⟩ trivial rfl rfl ?_
        refine AOD.pure (LT.sub rfl) ⟨rfl, rfl, trivial⟩ trivial rfl rfl ?_
        refine AOD.pure (LT.assign (v := (.s (.c (iC (w64 (x45.X - x46.X)))))) rfl) ⟨rfl, trivial⟩ trivial rfl rfl ?_
        refine AOD.nil (by kernel_rfl) ?_
        refine AWR.seq ?_
        refine AWR.ent (Ent.of (σ' := [(1, (.s (.c (.pl 21 0)))), (3, (.s (.c (.loc 22 0 s1.2.length)))), (4, (.s (.c (iC s1.1)))), (5, (.s (.c (.pl 24 0)))), (6, (.s (.c (.loc 25 0 (List.replicate (w64 (2 * f.Graph.Points)).toNat (0 : Int)).length)))), (7, (.s (.c (iC (w64 (x45.X - x46.X))))))]) (m' := [(21, (.row 29 [[(iC f.Graph.Points), (.pv (.xs false (f.Graph.Bars.map encTBar))), (.pv (.xs false (f.Places.map encTPlace)))]])), (22, (.prow 37 (s1.2.map (encLInt true)))), (24, (.row 79 [[(iC x43.A), (iC x43.B)]])), (25, (.prow 3 ((List.replicate (w64 (2 * f.Graph.Points)).toNat (0 : Int)).map encInt)))]) ⟨rfl, rfl, rfl, rfl, rfl, rfl, trivial⟩ ⟨rfl, rfl, rfl, rfl, trivial⟩) ?_
        refine AWR.draw mixed ?_
        refine AOD.pure (LT.fieldPl rfl fo29_1) ⟨rfl, trivial⟩ trivial rfl rfl ?_
        refine AOD.pure (LT.bload1 (c := (.pv (.xs false (f.Places.map encTPlace)))) rfl ag27 (by exact rfl)) ⟨rfl, trivial⟩ ⟨rfl, trivial⟩ rfl rfl ?_
        refine AOD.pure (LT.fieldPl rfl fo79_0) ⟨rfl, trivial⟩ trivial rfl rfl ?_
        refine AOD.pure (LT.bload1 (c := (iC x43.A)) rfl ag3 (by exact rfl)) ⟨rfl, trivial⟩ ⟨rfl, trivial⟩ rfl rfl ?_
        refine AOD.bind fun x47 hx47 => ?_
        refine AOD.pure (LT.tindexRO (enc := encTPlace) rfl el27 hx47 sz95) ⟨rfl, rfl, trivial⟩ trivial rfl rfl ?_
        refine AOD.pure (LT.fieldPx rfl fo95_1) ⟨rfl, trivial⟩ trivial rfl rfl ?_
        refine AOD.pure (LT.loadPx1 rfl ag3) ⟨rfl, trivial⟩ trivial rfl rfl ?_
        refine AOD.pure (LT.fieldPl rfl fo29_1) ⟨rfl, trivial⟩ trivial rfl rfl ?_
        refine AOD.pure (LT.bload1 (c := (.pv (.xs false (f.Places.map encTPlace)))) rfl ag27 (by exact rfl)) ⟨rfl, trivial⟩ ⟨rfl, trivial⟩ rfl rfl ?_
        refine AOD.pure (LT.fieldPl rfl fo79_1) ⟨rfl, trivial⟩ trivial rfl rfl ?_
        refine AOD.pure (LT.bload1 (c := (iC x43.B)) rfl ag3 (by exact rfl)) ⟨rfl, trivial⟩ ⟨rfl, trivial⟩ rfl rfl ?_
        refine AOD.bind fun x48 hx48 => ?_
        refine AOD.pure (LT.tindexRO (enc := encTPlace) rfl el27 hx48 sz95) ⟨rfl, rfl, trivial⟩ trivial rfl rfl ?_
        refine AOD.pure (LT.fieldPx rfl fo95_1) ⟨rfl, trivial⟩ trivial rfl rfl ?_
        refine AOD.pure (LT.loadPx1 rfl ag3) ⟨rfl, trivial⟩ trivial rfl rfl ?_
        refine AOD.pure (LT.sub rfl) ⟨rfl, rfl, trivial⟩ trivial rfl rfl ?_
        refine AOD.pure (LT.assign (v := (.s (.c (iC (w64 (x47.Y - x48.Y)))))) rfl) ⟨rfl, trivial⟩ trivial rfl rfl ?_
        refine AOD.nil (by kernel_rfl) ?_
        refine AWR.seq ?_
        refine AWR.ent (Ent.of (σ' := [(1, (.s (.c (.pl 21 0)))), (3, (.s (.c (.loc 22 0 s1.2.length)))), (4, (.s (.c (iC s1.1)))), (5, (.s (.c (.pl 24 0)))), (6, (.s (.c (.loc 25 0 (List.replicate (w64 (2 * f.Graph.Points)).toNat (0 : Int)).length)))), (7, (.s (.c (iC (w64 (x45.X - x46.X)))))), (8, (.s (.c (iC (w64 (x47.Y - x48.Y))))))]) (m' := [(21, (.row 29 [[(iC f.Graph.Points), (.pv (.xs false (f.Graph.Bars.map encTBar))), (.pv (.xs false (f.Places.map encTPlace)))]])), (22, (.prow 37 (s1.2.map (encLInt true)))), (24, (.row 79 [[(iC x43.A), (iC x43.B)]])), (25, (.prow 3 ((List.replicate (w64 (2 * f.Graph.Points)).toNat (0 : Int)).map encInt)))]) ⟨rfl, rfl, rfl, rfl, rfl, rfl, rfl, trivial⟩ ⟨rfl, rfl, rfl, rfl, trivial⟩) ?_
        refine AWR.region ?_
        refine AOR.pure (LT.move (v := (.s (.c (.loc 25 0 (List.replicate (w64 (2 * f.Graph.Points)).toNat (0 : Int)).length)))) rfl) ⟨rfl, trivial⟩ trivial rfl rfl ?_
        refine AOR.pure (LT.fieldPl rfl fo79_0) ⟨rfl, trivial⟩ trivial rfl rfl ?_
        refine AOR.pure (LT.bload1 (c := (iC x43.A)) rfl ag3 (by exact rfl)) ⟨rfl, trivial⟩ ⟨rfl, trivial⟩ rfl rfl ?_
        refine AOR.pure (LT.mul rfl) ⟨⟨rfl, rfl⟩, rfl, trivial⟩ trivial rfl rfl ?_
        refine AOR.pure (LT.move (v := (.s (.c (iC (w64 (x45.X - x46.X)))))) rfl) ⟨rfl, trivial⟩ trivial rfl rfl ?_
        refine AOR.bind fun x49 hx49 => ?_
        refine AOR.pure (LT.tindexLoc rfl rfl el37 hx49) ⟨rfl, rfl, trivial⟩ ⟨rfl, trivial⟩ rfl rfl ?_
        refine AOR.step (LT.tstore (k := 0) (v := (.c (iC (w64 (x45.X - x46.X))))) (b' := (w64 (x45.X - x46.X))) rfl rfl (infS inf3) sz3 (by exact rfl) hx49 (by exact rfl) (by exact Nat.le_of_ble_eq_true rfl) (by exact rfl)) ⟨rfl, rfl, trivial⟩ ⟨rfl, trivial⟩ rfl rfl ?_
        refine AOR.nil ?_
        refine AWR.seq ?_
        refine AWR.region ?_
        refine AOR.pure (LT.move (v := (.s (.c (.loc 25 0 (List.replicate (w64 (2 * f.Graph.Points)).toNat (0 : Int)).length)))) rfl) ⟨rfl, trivial⟩ trivial rfl rfl ?_
        refine AOR.pure (LT.fieldPl rfl fo79_0) ⟨rfl, trivial⟩ trivial rfl rfl ?_
        refine AOR.pure (LT.bload1 (c := (iC x43.A)) rfl ag3 (by exact rfl)) ⟨rfl, trivial⟩ ⟨rfl, trivial⟩ rfl rfl ?_
        refine AOR.pure (LT.mul rfl) ⟨⟨rfl, rfl⟩, rfl, trivial⟩ trivial rfl rfl ?_
        refine AOR.pure (LT.add rfl) ⟨rfl, ⟨rfl, rfl⟩, trivial⟩ trivial rfl rfl ?_
        refine AOR.pure (LT.move (v := (.s (.c (iC (w64 (x47.Y - x48.Y)))))) rfl) ⟨rfl, trivial⟩ trivial rfl rfl ?_
        refine AOR.bind fun x50 hx50 => ?_
        refine AOR.pure (LT.tindexLoc (show (List.replicate (w64 (2 * f.Graph.Points)).toNat (0 : Int)).length = ((List.replicate (w64 (2 * f.Graph.Points)).toNat (0 : Int)).set (w64 (2 * x43.A)).toNat (w64 (x45.X - x46.X))).length by simp only [List.length_set]) rfl el37 hx50) ⟨rfl, rfl, trivial⟩ ⟨rfl, trivial⟩ rfl rfl ?_
        refine AOR.step (LT.tstore (k := 0) (v := (.c (iC (w64 (x47.Y - x48.Y))))) (b' := (w64 (x47.Y - x48.Y))) rfl rfl (infS inf3) sz3 (by exact rfl) hx50 (by exact rfl) (by exact Nat.le_of_ble_eq_true rfl) (by exact rfl)) ⟨rfl, rfl, trivial⟩ ⟨rfl, trivial⟩ rfl rfl ?_
        refine AOR.nil ?_
        refine AWR.seq ?_
        refine AWR.ent (Ent.of (σ' := [(1, (.s (.c (.pl 21 0)))), (3, (.s (.c (.loc 22 0 s1.2.length)))), (4, (.s (.c (iC s1.1)))), (5, (.s (.c (.pl 24 0)))), (6, (.s (.c (.loc 25 0 (List.replicate (w64 (2 * f.Graph.Points)).toNat (0 : Int)).length)))), (7, (.s (.c (iC (w64 (x45.X - x46.X)))))), (8, (.s (.c (iC (w64 (x47.Y - x48.Y))))))]) (m' := [(21, (.row 29 [[(iC f.Graph.Points), (.pv (.xs false (f.Graph.Bars.map encTBar))), (.pv (.xs false (f.Places.map encTPlace)))]])), (22, (.prow 37 (s1.2.map (encLInt true)))), (24, (.row 79 [[(iC x43.A), (iC x43.B)]])), (25, (.prow 3 ((((List.replicate (w64 (2 * f.Graph.Points)).toNat (0 : Int)).set (w64 (2 * x43.A)).toNat (w64 (x45.X - x46.X))).set (w64 ((w64 (2 * x43.A)) + 1)).toNat (w64 (x47.Y - x48.Y))).map encInt)))]) ⟨rfl, rfl, rfl, rfl, rfl, rfl, rfl, trivial⟩ ⟨rfl, rfl, rfl, rfl, trivial⟩) ?_
        refine AWR.region ?_
        refine AOR.pure (LT.move (v := (.s (.c (.loc 25 0 (List.replicate (w64 (2 * f.Graph.Points)).toNat (0 : Int)).length)))) rfl) ⟨rfl, trivial⟩ trivial rfl rfl ?_
        refine AOR.pure (LT.fieldPl rfl fo79_1) ⟨rfl, trivial⟩ trivial rfl rfl ?_
        refine AOR.pure (LT.bload1 (c := (iC x43.B)) rfl ag3 (by exact rfl)) ⟨rfl, trivial⟩ ⟨rfl, trivial⟩ rfl rfl ?_
        refine AOR.pure (LT.mul rfl) ⟨⟨rfl, rfl⟩, rfl, trivial⟩ trivial rfl rfl ?_
        refine AOR.pure (LT.move (v := (.s (.c (iC (w64 (x45.X - x46.X)))))) rfl) ⟨rfl, trivial⟩ trivial rfl rfl ?_
        refine AOR.pure (LT.neg rfl) ⟨rfl, trivial⟩ trivial rfl rfl ?_
        refine AOR.bind fun x51 hx51 => ?_
        refine AOR.pure (LT.tindexLoc (show (List.replicate (w64 (2 * f.Graph.Points)).toNat (0 : Int)).length = (((List.replicate (w64 (2 * f.Graph.Points)).toNat (0 : Int)).set (w64 (2 * x43.A)).toNat (w64 (x45.X - x46.X))).set (w64 ((w64 (2 * x43.A)) + 1)).toNat (w64 (x47.Y - x48.Y))).length by simp only [List.length_set]) rfl el37 hx51) ⟨rfl, rfl, trivial⟩ ⟨rfl, trivial⟩ rfl rfl ?_
        refine AOR.step (LT.tstore (k := 0) (v := (.c (iC (w64 (-(w64 (x45.X - x46.X))))))) (b' := (w64 (-(w64 (x45.X - x46.X))))) rfl rfl (infS inf3) sz3 (by exact rfl) hx51 (by exact rfl) (by exact Nat.le_of_ble_eq_true rfl) (by exact rfl)) ⟨rfl, rfl, trivial⟩ ⟨rfl, trivial⟩ rfl rfl ?_
        refine AOR.nil ?_
        refine AWR.seq ?_
        refine AWR.region ?_
        refine AOR.pure (LT.move (v := (.s (.c (.loc 25 0 (List.replicate (w64 (2 * f.Graph.Points)).toNat (0 : Int)).length)))) rfl) ⟨rfl, trivial⟩ trivial rfl rfl ?_
        refine AOR.pure (LT.fieldPl rfl fo79_1) ⟨rfl, trivial⟩ trivial rfl rfl ?_
        refine AOR.pure (LT.bload1 (c := (iC x43.B)) rfl ag3 (by exact rfl)) ⟨rfl, trivial⟩ ⟨rfl, trivial⟩ rfl rfl ?_
        refine AOR.pure (LT.mul rfl) ⟨⟨rfl, rfl⟩, rfl, trivial⟩ trivial rfl rfl ?_
        refine AOR.pure (LT.add rfl) ⟨rfl, ⟨rfl, rfl⟩, trivial⟩ trivial rfl rfl ?_
        refine AOR.pure (LT.move (v := (.s (.c (iC (w64 (x47.Y - x48.Y)))))) rfl) ⟨rfl, trivial⟩ trivial rfl rfl ?_
        refine AOR.pure (LT.neg rfl) ⟨rfl, trivial⟩ trivial rfl rfl ?_
        refine AOR.bind fun x52 hx52 => ?_
        refine AOR.pure (LT.tindexLoc (show (List.replicate (w64 (2 * f.Graph.Points)).toNat (0 : Int)).length = ((((List.replicate (w64 (2 * f.Graph.Points)).toNat (0 : Int)).set (w64 (2 * x43.A)).toNat (w64 (x45.X - x46.X))).set (w64 ((w64 (2 * x43.A)) + 1)).toNat (w64 (x47.Y - x48.Y))).set (w64 (2 * x43.B)).toNat (w64 (-(w64 (x45.X - x46.X))))).length by simp only [List.length_set]) rfl el37 hx52) ⟨rfl, rfl, trivial⟩ ⟨rfl, trivial⟩ rfl rfl ?_
        refine AOR.step (LT.tstore (k := 0) (v := (.c (iC (w64 (-(w64 (x47.Y - x48.Y))))))) (b' := (w64 (-(w64 (x47.Y - x48.Y))))) rfl rfl (infS inf3) sz3 (by exact rfl) hx52 (by exact rfl) (by exact Nat.le_of_ble_eq_true rfl) (by exact rfl)) ⟨rfl, rfl, trivial⟩ ⟨rfl, trivial⟩ rfl rfl ?_
        refine AOR.nil ?_
        refine AWR.ent (Ent.of (σ' := [(1, (.s (.c (.pl 21 0)))), (3, (.s (.c (.loc 22 0 s1.2.length)))), (4, (.s (.c (iC s1.1)))), (6, (.s (.c (.loc 25 0 (List.replicate (w64 (2 * f.Graph.Points)).toNat (0 : Int)).length))))]) (m' := [(21, (.row 29 [[(iC f.Graph.Points), (.pv (.xs false (f.Graph.Bars.map encTBar))), (.pv (.xs false (f.Places.map encTPlace)))]])), (22, (.prow 37 (s1.2.map (encLInt true)))), (25, (.prow 3 ((((((List.replicate (w64 (2 * f.Graph.Points)).toNat (0 : Int)).set (w64 (2 * x43.A)).toNat (w64 (x45.X - x46.X))).set (w64 ((w64 (2 * x43.A)) + 1)).toNat (w64 (x47.Y - x48.Y))).set (w64 (2 * x43.B)).toNat (w64 (-(w64 (x45.X - x46.X))))).set (w64 ((w64 (2 * x43.B)) + 1)).toNat (w64 (-(w64 (x47.Y - x48.Y))))).map encInt)))]) ⟨rfl, rfl, rfl, rfl, trivial⟩ ⟨rfl, rfl, rfl, trivial⟩) ?_
        refine AWR.region ?_
        refine AOR.pure (LT.move (v := (.s (.c (.loc 22 0 s1.2.length)))) rfl) ⟨rfl, trivial⟩ trivial rfl rfl ?_
        refine AOR.pure (LT.move (v := (.s (.c (.loc 25 0 (List.replicate (w64 (2 * f.Graph.Points)).toNat (0 : Int)).length)))) rfl) ⟨rfl, trivial⟩ trivial rfl rfl ?_
        refine AOR.ent (Ent.freezeS (enc := encInt) 92 25 hU rfl (show (List.replicate (w64 (2 * f.Graph.Points)).toNat (0 : Int)).length = (((((List.replicate (w64 (2 * f.Graph.Points)).toNat (0 : Int)).set (w64 (2 * x43.A)).toNat (w64 (x45.X - x46.X))).set (w64 ((w64 (2 * x43.A)) + 1)).toNat (w64 (x47.Y - x48.Y))).set (w64 (2 * x43.B)).toNat (w64 (-(w64 (x45.X - x46.X))))).set (w64 ((w64 (2 * x43.B)) + 1)).toNat (w64 (-(w64 (x47.Y - x48.Y))))).length by simp only [List.length_set]) rfl rfl) ?_
        refine AOR.step (LT.tbuildSlice (n := 26) (enc := (encLInt true)) [(0, .tmp 92, (.c (.pv (.xs true ((((((List.replicate (w64 (2 * f.Graph.Points)).toNat (0 : Int)).set (w64 (2 * x43.A)).toNat (w64 (x45.X - x46.X))).set (w64 ((w64 (2 * x43.A)) + 1)).toNat (w64 (x47.Y - x48.Y))).set (w64 (2 * x43.B)).toNat (w64 (-(w64 (x45.X - x46.X))))).set (w64 ((w64 (2 * x43.B)) + 1)).toNat (w64 (-(w64 (x47.Y - x48.Y))))).map encInt)))))] [(((((List.replicate (w64 (2 * f.Graph.Points)).toNat (0 : Int)).set (w64 (2 * x43.A)).toNat (w64 (x45.X - x46.X))).set (w64 ((w64 (2 * x43.A)) + 1)).toNat (w64 (x47.Y - x48.Y))).set (w64 (2 * x43.B)).toNat (w64 (-(w64 (x45.X - x46.X))))).set (w64 ((w64 (2 * x43.B)) + 1)).toNat (w64 (-(w64 (x47.Y - x48.Y)))))] rfl rfl und31 ti37 rfl rfl rfl rfl (by decide) (fun _ => rfl) rfl) ⟨rfl, trivial⟩ trivial rfl rfl ?_
        refine AOR.bind fun u53 hu53 => ?_
        refine AOR.step (LT.tappP (enc := (encLInt true)) rfl rfl rfl und31 ti37 rfl (by decide) (by decide) (fun _ => rfl) (lim_le hu53)) ⟨rfl, rfl, trivial⟩ ⟨rfl, rfl, trivial⟩ rfl rfl ?_
        refine AOR.pure (LT.assign (v := (.s (.c (.loc 22 0 (s1.2 ++ [(((((List.replicate (w64 (2 * f.Graph.Points)).toNat (0 : Int)).set (w64 (2 * x43.A)).toNat (w64 (x45.X - x46.X))).set (w64 ((w64 (2 * x43.A)) + 1)).toNat (w64 (x47.Y - x48.Y))).set (w64 (2 * x43.B)).toNat (w64 (-(w64 (x45.X - x46.X))))).set (w64 ((w64 (2 * x43.B)) + 1)).toNat (w64 (-(w64 (x47.Y - x48.Y)))))]).length)))) rfl) ⟨rfl, trivial⟩ trivial rfl rfl ?_
        refine AOR.nil ?_
        refine AWR.blk ?_
        refine AWR.region ?_
        refine AOR.pure (LT.move (v := (.s (.c (iC s1.1)))) rfl) ⟨rfl, trivial⟩ trivial rfl rfl ?_
        refine AOR.pure (LT.add rfl) ⟨rfl, ⟨rfl, rfl⟩, trivial⟩ trivial rfl rfl ?_
        refine AOR.pure (LT.assign (v := (.s (.c (iC (w64 (s1.1 + 1)))))) rfl) ⟨rfl, trivial⟩ trivial rfl rfl ?_
        refine AOR.nil ?_
        refine AWR.nil ⟨rfl, Ent.of ⟨rfl, rfl, rfl, trivial⟩ ⟨rfl, rfl, trivial⟩⟩
      · refine AWR.exit_end rfl ⟨rfl, Ent.of ⟨rfl, trivial⟩ ⟨rfl, trivial⟩⟩
  · refine AWR.seq ?_
    refine AWR.region ?_
    refine AOR.pure (LT.move (v := (.s (.c (.loc 22 0 b36.length)))) rfl) ⟨rfl, trivial⟩ trivial rfl rfl ?_
    refine AOR.pure (LT.assign (v := (.s (.c (.loc 22 0 b36.length)))) rfl) ⟨rfl, trivial⟩ trivial rfl rfl ?_
    refine AOR.nil ?_
    refine AWR.ent (Ent.of (σ' := [(2, (.s (.c (.loc 22 0 b36.length))))]) (m' := [(22, (.prow 37 (b36.map (encLInt true))))]) ⟨rfl, trivial⟩ ⟨rfl, trivial⟩) ?_
    refine AWR.ent (Ent.mv 22 0 rfl rfl) ?_
    refine AWR.ent (Ent.of (σ' := [(2, (.s (.c (.loc 0 0 b36.length))))]) (m' := [(0, (.prow 37 (b36.map (encLInt true))))]) ⟨rfl, trivial⟩ ⟨rfl, trivial⟩) ?_
    refine AWR.ret (FPost.mk (.inr rfl) ⟨rfl, trivial⟩ ⟨rfl, trivial⟩ rfl ⟨trivial, trivial⟩ ⟨PermO.prow' perm_encLInt, trivial⟩)
set_option maxRecDepth 100000 in
set_option maxHeartbeats 8000000 in
theorem w_spec_GcdOf (a : Int) (b : Int) : ∀ t, m_spec_GcdOf a b = some t → Fw.Fn Try.prog 159 [(.c (iC a)), (.c (iC b))] [] (.s (.c (iC t))) [] [] [] := by
  refine Fw.Fn.of (P := Try.prog) (X := []) (pn := []) (rs := (fun (t : Int) => [(.c (iC t))])) (dfs := (fun (t : Int) => [])) Try.func159 rfl Try.ntmps159 (Nat.le_of_ble_eq_true rfl) rfl ?_
  intro w0 U0 R0 g0
  unfold m_spec_GcdOf
  refine AWR.seq ?_
  refine AWR.region ?_
  refine AOR.pure (LT.assign (v := (.s (.c (iC 0)))) rfl) ⟨⟨rfl, rfl⟩, trivial⟩ trivial rfl rfl ?_
  refine AOR.nil ?_
  refine AWR.seq ?_
  refine AWR.seq ?_
  refine AWR.joinK (fun j4 => ([(0, (.s (.c (iC a)))), (1, (.s (.c (iC b)))), (13, (.s (.c (bC j4))))], [])) ?_ (fun j4 _ => ?_)
  · refine AWR.region ?_
    refine AOR.pure (LT.move (v := (.s (.c (iC a)))) rfl) ⟨rfl, trivial⟩ trivial rfl rfl ?_
    refine AOR.bind fun r5 hr5 => ?_
    refine AOR.pure (@LT.callF Try.prog _ _ 92 _ _ [(.c (iC a)), (.c (iC (-9000000000000000000))), (.c (iC 9000000000000000000))] _ _ [] _ _ _ _ (w_spec_l1In a (-9000000000000000000) 9000000000000000000 r5 hr5) rfl cb92 (.cons (.c (.same rfl)) (.cons (.c (.same rfl)) (.cons (.c (.same rfl)) .nil))) rfl rfl trivial) ⟨rfl, rfl, ⟨rfl, rfl⟩, ⟨rfl, rfl⟩, trivial⟩ trivial rfl rfl ?_
    refine AOR.pure (LT.not rfl) ⟨rfl, trivial⟩ trivial rfl rfl ?_
    refine AOR.pure (LT.move (v := (.s (.c (bC (!r5))))) rfl) ⟨rfl, trivial⟩ trivial rfl rfl ?_
    refine AOR.split (fun hb6 => ?_) (fun hb6 => ?_)
    · refine AOR.skip ⟨_, rfl, .inl ⟨_, rfl, (by rw [hb6]; rfl)⟩⟩ rfl ?_
      refine AOR.skip ⟨_, rfl, .inl ⟨_, rfl, (by rw [hb6]; rfl)⟩⟩ rfl ?_
      refine AOR.skip ⟨_, rfl, .inl ⟨_, rfl, (by rw [hb6]; rfl)⟩⟩ rfl ?_
      refine AOR.pure (LT.pickT (v := (.s (.c (bC true)))) rfl hb6) ⟨rfl, ⟨rfl, rfl⟩, trivial⟩ trivial rfl rfl ?_
      refine AOR.nil ?_
      refine AWR.nil ⟨rfl, Ent.of ⟨rfl, rfl, rfl, trivial⟩ trivial⟩
    · refine AOR.pure (LT.move (v := (.s (.c (iC b)))) rfl) ⟨rfl, trivial⟩ trivial ⟨_, rfl, .inl ⟨_, rfl, (by rw [hb6]; rfl)⟩⟩ rfl ?_
      refine AOR.bind fun r7 hr7 => ?_
      refine AOR.pure (@LT.callF Try.prog _ _ 92 _ _ [(.c (iC b)), (.c (iC (-9000000000000000000))), (.c (iC 9000000000000000000))] _ _ [] _ _ _ _ (w_spec_l1In b (-9000000000000000000) 9000000000000000000 r7 hr7) rfl cb92 (.cons (.c (.same rfl)) (.cons (.c (.same rfl)) (.cons (.c (.same rfl)) .nil))) rfl rfl trivial) ⟨rfl, rfl, ⟨rfl, rfl⟩, ⟨rfl, rfl⟩, trivial⟩ trivial ⟨_, rfl, .inl ⟨_, rfl, (by rw [hb6]; rfl)⟩⟩ rfl ?_
      refine AOR.pure (LT.not rfl) ⟨rfl, trivial⟩ trivial ⟨_, rfl, .inl ⟨_, rfl, (by rw [hb6]; rfl)⟩⟩ rfl ?_
      refine AOR.pure (LT.pickF (v := (.s (.c (bC (!r7))))) rfl hb6) ⟨rfl, rfl, trivial⟩ trivial rfl rfl ?_
      refine AOR.nil ?_
      refine AWR.nil ⟨rfl, Ent.of ⟨rfl, rfl, rfl, trivial⟩ trivial⟩
  · refine AWR.cond rfl (fun hc8 => ?_) (fun hc8 => ?_)
    · refine AWR.seq ?_
      refine AWR.region ?_
      refine AOR.pure (LT.assign (v := (.s (.c (iC 0)))) rfl) ⟨⟨rfl, rfl⟩, trivial⟩ trivial rfl rfl ?_
      refine AOR.nil ?_
      refine AWR.ret (FPost.mk (.inr rfl) ⟨rfl, trivial⟩ trivial rfl ⟨PermP.sc, trivial⟩ trivial)
    · refine AWR.skip ?_
      refine AWR.seq ?_
      refine AWR.region ?_
      refine AOR.pure (LT.move (v := (.s (.c (iC a)))) rfl) ⟨rfl, trivial⟩ trivial rfl rfl ?_
      refine AOR.pure (LT.move (v := (.s (.c (iC a)))) rfl) ⟨rfl, trivial⟩ trivial rfl rfl ?_
      refine AOR.pure (LT.neg rfl) ⟨rfl, trivial⟩ trivial rfl rfl ?_
      refine AOR.pure (LT.max rfl) ⟨rfl, rfl, trivial⟩ trivial rfl rfl ?_
      refine AOR.pure (LT.assign (v := (.s (.c (iC (if a < (w64 (-a)) then (w64 (-a)) else a))))) rfl) ⟨rfl, trivial⟩ trivial rfl rfl ?_
      refine AOR.nil ?_
      refine AWR.seq ?_
      refine AWR.region ?_
      refine AOR.pure (LT.move (v := (.s (.c (iC b)))) rfl) ⟨rfl, trivial⟩ trivial rfl rfl ?_
      refine AOR.pure (LT.move (v := (.s (.c (iC b)))) rfl) ⟨rfl, trivial⟩ trivial rfl rfl ?_
      refine AOR.pure (LT.neg rfl) ⟨rfl, trivial⟩ trivial rfl rfl ?_
      refine AOR.pure (LT.max rfl) ⟨rfl, rfl, trivial⟩ trivial rfl rfl ?_
      refine AOR.pure (LT.assign (v := (.s (.c (iC (if b < (w64 (-b)) then (w64 (-b)) else b))))) rfl) ⟨rfl, trivial⟩ trivial rfl rfl ?_
      refine AOR.nil ?_
      refine AWR.seq ?_
      refine AWR.block ?_
      refine AWR.loop1 (id := 0) (m_spec_GcdOf_L1) (fun s9 => ([(0, (.s (.c (iC s9.1)))), (1, (.s (.c (iC s9.2))))], [])) (fun b14 => ([(0, (.s (.c (iC b14))))], [])) ?_ (Ent.of ⟨rfl, rfl, trivial⟩ trivial) rfl (fun b14 _ => ?_)
      · intro s9
        unfold m_spec_GcdOf_L1
        refine AWR.seq ?_
        refine AWR.seq ?_
        refine AWR.region ?_
        refine AOR.pure (LT.move (v := (.s (.c (iC s9.2)))) rfl) ⟨rfl, trivial⟩ trivial rfl rfl ?_
        refine AOR.pure (LT.gtr rfl) ⟨rfl, ⟨rfl, rfl⟩, trivial⟩ trivial rfl rfl ?_
        refine AOR.nil ?_
        refine AWR.cond rfl (fun hc15 => ?_) (fun hc15 => ?_)
        · refine AWR.skip ?_
          refine AWR.block ?_
          refine AWR.seq ?_
          refine AWR.region ?_
          refine AOR.pure (LT.move (v := (.s (.c (iC s9.1)))) rfl) ⟨rfl, trivial⟩ trivial rfl rfl ?_
          refine AOR.pure (LT.move (v := (.s (.c (iC s9.2)))) rfl) ⟨rfl, trivial⟩ trivial rfl rfl ?_
          refine AOR.bind fun u16 hu16 => ?_
          refine AOR.pure (LT.rem rfl (nz_ne hu16)) ⟨rfl, rfl, trivial⟩ trivial rfl rfl ?_
          refine AOR.pure (LT.assign (v := (.s (.c (iC (Int.tmod s9.1 s9.2))))) rfl) ⟨rfl, trivial⟩ trivial rfl rfl ?_
          refine AOR.nil ?_
          refine AWR.seq ?_
          refine AWR.region ?_
          refine AOR.pure (LT.move (v := (.s (.c (iC s9.2)))) rfl) ⟨rfl, trivial⟩ trivial rfl rfl ?_
          refine AOR.pure (LT.assign (v := (.s (.c (iC s9.2)))) rfl) ⟨rfl, trivial⟩ trivial rfl rfl ?_
          refine AOR.nil ?_
          refine AWR.region ?_
          refine AOR.pure (LT.move (v := (.s (.c (iC (Int.tmod s9.1 s9.2))))) rfl) ⟨rfl, trivial⟩ trivial rfl rfl ?_
          refine AOR.pure (LT.assign (v := (.s (.c (iC (Int.tmod s9.1 s9.2))))) rfl) ⟨rfl, trivial⟩ trivial rfl rfl ?_
          refine AOR.nil ?_
          refine AWR.blk ?_
          refine AWR.nil ⟨rfl, Ent.of ⟨rfl, rfl, trivial⟩ trivial⟩
        · refine AWR.exit_end rfl ⟨rfl, Ent.of ⟨rfl, trivial⟩ trivial⟩
      · refine AWR.seq ?_
        refine AWR.region ?_
        refine AOR.pure (LT.move (v := (.s (.c (iC b14)))) rfl) ⟨rfl, trivial⟩ trivial rfl rfl ?_
        refine AOR.pure (LT.assign (v := (.s (.c (iC b14)))) rfl) ⟨rfl, trivial⟩ trivial rfl rfl ?_
        refine AOR.nil ?_
        refine AWR.ret (FPost.mk (.inr rfl) ⟨rfl, trivial⟩ trivial rfl ⟨PermP.sc, trivial⟩ trivial)
set_option maxRecDepth 100000 in
set_option maxHeartbeats 8000000 in
theorem w_spec_PrimitiveVector (v : (List Int)) : ∀ t, m_spec_PrimitiveVector v = some t → Fw.Fn Try.prog 160 [(.c (.pv (.xs false (v.map encInt))))] [] (.s (.c (.loc 0 0 t.length))) [(0, (.prow 3 (t.map encInt)))] [] [0] := by
  refine Fw.Fn.of (P := Try.prog) (X := [0]) (pn := []) (rs := (fun (t : (List Int)) => [(.c (.loc 0 0 t.length))])) (dfs := (fun (t : (List Int)) => [(0, (.prow 3 (t.map encInt)))])) Try.func160 rfl Try.ntmps160 (Nat.le_of_ble_eq_true rfl) rfl ?_
  intro w0 U0 R0 g0
  unfold m_spec_PrimitiveVector
  refine AWR.seq ?_
  refine AWR.region ?_
  refine AOR.pure (LT.assign (v := (.s (.c (sC nilV)))) rfl) ⟨⟨rfl, rfl⟩, trivial⟩ trivial rfl rfl ?_
  refine AOR.nil ?_
  refine AWR.seq ?_
  refine AWR.region ?_
  refine AOR.pure (LT.assign (v := (.s (.c (iC 0)))) rfl) ⟨⟨rfl, rfl⟩, trivial⟩ trivial rfl rfl ?_
  refine AOR.nil ?_
  refine AWR.seq ?_
  refine AWR.seq ?_
  refine AWR.region ?_
  refine AOR.pure (LT.assign (v := (.s (.c (iC 0)))) rfl) ⟨⟨rfl, rfl⟩, trivial⟩ trivial rfl rfl ?_
  refine AOR.nil ?_
  refine AWR.block ?_
  refine AWR.loopR (id := 0) (m_spec_PrimitiveVector_L1 v) (fun s1 => ([(0, (.s (.c (.pv (.xs false (v.map encInt)))))), (3, (.s (.c (iC s1.1)))), (4, (.s (.c (iC s1.2))))], [])) (fun b16 => ([(0, (.s (.c (.pv (.xs false (v.map encInt)))))), (3, (.s (.c (iC b16))))], [])) (FPost Try.prog Try.f160.results.toList [] [0] (fun (t : (List Int)) => [(.c (.loc 0 0 t.length))]) (fun (t : (List Int)) => [(0, (.prow 3 (t.map encInt)))])) ?_ (Ent.of ⟨rfl, rfl, rfl, trivial⟩ trivial) rfl (fun b16 _ => ?_) (by intro r t σ m ht hk; injection ht with ht; subst ht; exact hk)
  · intro s1
    unfold m_spec_PrimitiveVector_L1
    refine AWR.seq ?_
    refine AWR.seq ?_
    refine AWR.region ?_
    refine AOR.pure (LT.move (v := (.s (.c (iC s1.2)))) rfl) ⟨rfl, trivial⟩ trivial rfl rfl ?_
    refine AOR.pure (LT.move (v := (.s (.c (.pv (.xs false (v.map encInt)))))) rfl) ⟨rfl, trivial⟩ trivial rfl rfl ?_
    refine AOR.pure (LT.tlenRO rfl und37) ⟨rfl, trivial⟩ trivial rfl rfl ?_
    refine AOR.pure (LT.lss rfl) ⟨rfl, rfl, trivial⟩ trivial rfl rfl ?_
    refine AOR.nil ?_
    refine AWR.cond rfl (fun hc17 => ?_) (fun hc17 => ?_)
    · refine AWR.skip ?_
      refine AWR.seq ?_
      refine AWR.block ?_
      refine AWR.seq ?_
      refine AWR.seq ?_
      refine AWR.region ?_
      refine AOR.pure (LT.move (v := (.s (.c (.pv (.xs false (v.map encInt)))))) rfl) ⟨rfl, trivial⟩ trivial rfl rfl ?_
      refine AOR.pure (LT.move (v := (.s (.c (iC s1.2)))) rfl) ⟨rfl, trivial⟩ trivial rfl rfl ?_
      refine AOR.bind fun x18 hx18 => ?_
      refine AOR.pure (LT.tindexRO (enc := encInt) rfl el37 hx18 sz3) ⟨rfl, rfl, trivial⟩ trivial rfl rfl ?_
      refine AOR.pure (LT.loadPx1 rfl ag3) ⟨rfl, trivial⟩ trivial rfl rfl ?_
      refine AOR.bind fun r19 hr19 => ?_
      refine AOR.pure (@LT.callF Try.prog _ _ 92 _ _ [(.c (iC x18)), (.c (iC (-9000000000000000000))), (.c (iC 9000000000000000000))] _ _ [] _ _ _ _ (w_spec_l1In x18 (-9000000000000000000) 9000000000000000000 r19 hr19) rfl cb92 (.cons (.c (.same rfl)) (.cons (.c (.same rfl)) (.cons (.c (.same rfl)) .nil))) rfl rfl trivial) ⟨rfl, rfl, ⟨rfl, rfl⟩, ⟨rfl, rfl⟩, trivial⟩ trivial rfl rfl ?_
      refine AOR.pure (LT.not rfl) ⟨rfl, trivial⟩ trivial rfl rfl ?_
      refine AOR.nil ?_
      refine AWR.cond rfl (fun hc20 => ?_) (fun hc20 => ?_)
      · refine AWR.seq ?_
        refine AWR.region ?_
        refine AOR.step (LT.tbuildSlice (n := 22) (enc := encInt) [] ([] : List Int) rfl rfl und37 ti3 rfl rfl rfl rfl (by decide) (fun _ => rfl) rfl) trivial trivial rfl rfl ?_
        refine AOR.pure (LT.move (v := (.s (.c (.pv (.xs false (v.map encInt)))))) rfl) ⟨rfl, trivial⟩ trivial rfl rfl ?_
        refine AOR.bind fun u21 hu21 => ?_
        refine AOR.step (LT.tappRO (enc := encInt) rfl  rfl und37 ti3 rfl (by decide) (by decide) (fun _ => rfl) (lim_le hu21)) ⟨rfl, rfl, trivial⟩ ⟨rfl, trivial⟩ rfl rfl ?_
        refine AOR.pure (LT.assign (v := (.s (.c (.loc 22 0 (([] : List Int) ++ v).length)))) rfl) ⟨rfl, trivial⟩ trivial rfl rfl ?_
        refine AOR.nil ?_
        refine AWR.ent (Ent.of (σ' := [(2, (.s (.c (.loc 22 0 (([] : List Int) ++ v).length))))]) (m' := [(22, (.prow 3 ((([] : List Int) ++ v).map encInt)))]) ⟨rfl, trivial⟩ ⟨rfl, trivial⟩) ?_
        refine AWR.ent (Ent.mv 22 0 rfl rfl) ?_
        refine AWR.ent (Ent.of (σ' := [(2, (.s (.c (.loc 0 0 (([] : List Int) ++ v).length))))]) (m' := [(0, (.prow 3 ((([] : List Int) ++ v).map encInt)))]) ⟨rfl, trivial⟩ ⟨rfl, trivial⟩) ?_
        refine AWR.ret ⟨rfl, FPost.mk (.inr rfl) ⟨rfl, trivial⟩ ⟨rfl, trivial⟩ rfl ⟨trivial, trivial⟩ ⟨PermO.prow' perm_encInt, trivial⟩⟩
      · refine AWR.skip ?_
        refine AWR.region ?_
        refine AOR.pure (LT.move (v := (.s (.c (iC s1.1)))) rfl) ⟨rfl, trivial⟩ trivial rfl rfl ?_
        refine AOR.pure (LT.move (v := (.s (.c (.pv (.xs false (v.map encInt)))))) rfl) ⟨rfl, trivial⟩ trivial rfl rfl ?_
        refine AOR.pure (LT.move (v := (.s (.c (iC s1.2)))) rfl) ⟨rfl, trivial⟩ trivial rfl rfl ?_
        refine AOR.bind fun x22 hx22 => ?_
        refine AOR.pure (LT.tindexRO (enc := encInt) rfl el37 hx22 sz3) ⟨rfl, rfl, trivial⟩ trivial rfl rfl ?_
        refine AOR.pure (LT.loadPx1 rfl ag3) ⟨rfl, trivial⟩ trivial rfl rfl ?_
        refine AOR.bind fun r23 hr23 => ?_
        refine AOR.pure (@LT.callF Try.prog _ _ 159 _ _ [(.c (iC s1.1)), (.c (iC x22))] _ _ [] _ _ _ _ (w_spec_GcdOf s1.1 x22 r23 hr23) rfl cb159 (.cons (.c (.same rfl)) (.cons (.c (.same rfl)) .nil)) rfl rfl trivial) ⟨rfl, rfl, rfl, trivial⟩ trivial rfl rfl ?_
        refine AOR.pure (LT.assign (v := (.s (.c (iC r23)))) rfl) ⟨rfl, trivial⟩ trivial rfl rfl ?_
        refine AOR.nil ?_
        refine AWR.blk ?_
        refine AWR.ent (Ent.of (σ' := [(0, (.s (.c (.pv (.xs false (v.map encInt)))))), (3, (.s (.c (iC r23)))), (4, (.s (.c (iC s1.2))))]) (m' := []) ⟨rfl, rfl, rfl, trivial⟩ trivial) ?_
        refine AWR.region ?_
        refine AOR.pure (LT.move (v := (.s (.c (iC s1.2)))) rfl) ⟨rfl, trivial⟩ trivial rfl rfl ?_
        refine AOR.pure (LT.add rfl) ⟨rfl, ⟨rfl, rfl⟩, trivial⟩ trivial rfl rfl ?_
        refine AOR.pure (LT.assign (v := (.s (.c (iC (w64 (s1.2 + 1)))))) rfl) ⟨rfl, trivial⟩ trivial rfl rfl ?_
        refine AOR.nil ?_
        refine AWR.nil ⟨rfl, Ent.of ⟨rfl, rfl, rfl, trivial⟩ trivial⟩
    · refine AWR.exit_end rfl ⟨rfl, Ent.of ⟨rfl, rfl, trivial⟩ trivial⟩
  · refine AWR.seq ?_
    refine AWR.seq ?_
    refine AWR.region ?_
    refine AOR.pure (LT.move (v := (.s (.c (iC b16)))) rfl) ⟨rfl, trivial⟩ trivial rfl rfl ?_
    refine AOR.pure (LT.eql rfl) ⟨rfl, ⟨rfl, rfl⟩, trivial⟩ trivial rfl rfl ?_
    refine AOR.nil ?_
    refine AWR.cond rfl (fun hc24 => ?_) (fun hc24 => ?_)
    · refine AWR.seq ?_
      refine AWR.region ?_
      refine AOR.step (LT.tbuildSlice (n := 24) (enc := encInt) [] ([] : List Int) rfl rfl und37 ti3 rfl rfl rfl rfl (by decide) (fun _ => rfl) rfl) trivial trivial rfl rfl ?_
      refine AOR.pure (LT.move (v := (.s (.c (.pv (.xs false (v.map encInt)))))) rfl) ⟨rfl, trivial⟩ trivial rfl rfl ?_
      refine AOR.bind fun u25 hu25 => ?_
      refine AOR.step (LT.tappRO (enc := encInt) rfl  rfl und37 ti3 rfl (by decide) (by decide) (fun _ => rfl) (lim_le hu25)) ⟨rfl, rfl, trivial⟩ ⟨rfl, trivial⟩ rfl rfl ?_
      refine AOR.pure (LT.assign (v := (.s (.c (.loc 24 0 (([] : List Int) ++ v).length)))) rfl) ⟨rfl, trivial⟩ trivial rfl rfl ?_
      refine AOR.nil ?_
      refine AWR.ent (Ent.of (σ' := [(2, (.s (.c (.loc 24 0 (([] : List Int) ++ v).length))))]) (m' := [(24, (.prow 3 ((([] : List Int) ++ v).map encInt)))]) ⟨rfl, trivial⟩ ⟨rfl, trivial⟩) ?_
      refine AWR.ent (Ent.mv 24 0 rfl rfl) ?_
      refine AWR.ent (Ent.of (σ' := [(2, (.s (.c (.loc 0 0 (([] : List Int) ++ v).length))))]) (m' := [(0, (.prow 3 ((([] : List Int) ++ v).map encInt)))]) ⟨rfl, trivial⟩ ⟨rfl, trivial⟩) ?_
      refine AWR.ret (FPost.mk (.inr rfl) ⟨rfl, trivial⟩ ⟨rfl, trivial⟩ rfl ⟨trivial, trivial⟩ ⟨PermO.prow' perm_encInt, trivial⟩)
    · refine AWR.skip ?_
      refine AWR.seq ?_
      refine AWR.region ?_
      refine AOR.pure (LT.assign (v := (.s (.c (iC 0)))) rfl) ⟨⟨rfl, rfl⟩, trivial⟩ trivial rfl rfl ?_
      refine AOR.nil ?_
      refine AWR.seq ?_
      refine AWR.seq ?_
      refine AWR.region ?_
      refine AOR.pure (LT.assign (v := (.s (.c (iC 0)))) rfl) ⟨⟨rfl, rfl⟩, trivial⟩ trivial rfl rfl ?_
      refine AOR.nil ?_
      refine AWR.block ?_
      refine AWR.loop1 (id := 2) (m_spec_PrimitiveVector_L2 v b16) (fun s26 => ([(0, (.s (.c (.pv (.xs false (v.map encInt)))))), (3, (.s (.c (iC b16)))), (5, (.s (.c (iC s26.1)))), (6, (.s (.c (iC s26.2))))], [])) (fun b39 => ([(0, (.s (.c (.pv (.xs false (v.map encInt)))))), (3, (.s (.c (iC b39.1)))), (5, (.s (.c (iC b39.2))))], [])) ?_ (Ent.of ⟨rfl, rfl, rfl, rfl, trivial⟩ trivial) rfl (fun b39 _ => ?_)
      · intro s26
        unfold m_spec_PrimitiveVector_L2
        refine AWR.seq ?_
        refine AWR.seq ?_
        refine AWR.region ?_
        refine AOR.pure (LT.move (v := (.s (.c (iC s26.2)))) rfl) ⟨rfl, trivial⟩ trivial rfl rfl ?_
        refine AOR.pure (LT.move (v := (.s (.c (.pv (.xs false (v.map encInt)))))) rfl) ⟨rfl, trivial⟩ trivial rfl rfl ?_
        refine AOR.pure (LT.tlenRO rfl und37) ⟨rfl, trivial⟩ trivial rfl rfl ?_
        refine AOR.pure (LT.lss rfl) ⟨rfl, rfl, trivial⟩ trivial rfl rfl ?_
        refine AOR.nil ?_
        refine AWR.cond rfl (fun hc40 => ?_) (fun hc40 => ?_)
        · refine AWR.skip ?_
          refine AWR.seq ?_
          refine AWR.block ?_
          refine AWR.seq ?_
          refine AWR.region ?_
          refine AOR.pure (LT.move (v := (.s (.c (iC s26.1)))) rfl) ⟨rfl, trivial⟩ trivial rfl rfl ?_
          refine AOR.pure (LT.eql rfl) ⟨rfl, ⟨rfl, rfl⟩, trivial⟩ trivial rfl rfl ?_
          refine AOR.nil ?_
          refine AWR.joinK (fun j43 => ([(0, (.s (.c (.pv (.xs false (v.map encInt)))))), (3, (.s (.c (iC b16)))), (5, (.s (.c (iC j43)))), (6, (.s (.c (iC s26.2))))], [])) ?_ (fun j43 _ => ?_)
          · refine AWR.cond rfl (fun hc44 => ?_) (fun hc44 => ?_)
            · refine AWR.region ?_
              refine AOR.pure (LT.move (v := (.s (.c (.pv (.xs false (v.map encInt)))))) rfl) ⟨rfl, trivial⟩ trivial rfl rfl ?_
              refine AOR.pure (LT.move (v := (.s (.c (iC s26.2)))) rfl) ⟨rfl, trivial⟩ trivial rfl rfl ?_
              refine AOR.bind fun x45 hx45 => ?_
              refine AOR.pure (LT.tindexRO (enc := encInt) rfl el37 hx45 sz3) ⟨rfl, rfl, trivial⟩ trivial rfl rfl ?_
              refine AOR.pure (LT.loadPx1 rfl ag3) ⟨rfl, trivial⟩ trivial rfl rfl ?_
              refine AOR.pure (LT.assign (v := (.s (.c (iC x45)))) rfl) ⟨rfl, trivial⟩ trivial rfl rfl ?_
              refine AOR.nil ?_
              refine AWR.nil ⟨rfl, Ent.of ⟨rfl, rfl, rfl, rfl, trivial⟩ trivial⟩
            · refine AWR.skip ?_
              refine AWR.nil ⟨rfl, Ent.of ⟨rfl, rfl, rfl, rfl, trivial⟩ trivial⟩
          · refine AWR.blk ?_
            refine AWR.region ?_
            refine AOR.pure (LT.move (v := (.s (.c (iC s26.2)))) rfl) ⟨rfl, trivial⟩ trivial rfl rfl ?_
            refine AOR.pure (LT.add rfl) ⟨rfl, ⟨rfl, rfl⟩, trivial⟩ trivial rfl rfl ?_
            refine AOR.pure (LT.assign (v := (.s (.c (iC (w64 (s26.2 + 1)))))) rfl) ⟨rfl, trivial⟩ trivial rfl rfl ?_
            refine AOR.nil ?_
            refine AWR.nil ⟨rfl, Ent.of ⟨rfl, rfl, rfl, rfl, trivial⟩ trivial⟩
        · refine AWR.exit_end rfl ⟨rfl, Ent.of ⟨rfl, rfl, rfl, trivial⟩ trivial⟩
      · refine AWR.seq ?_
        refine AWR.seq ?_
        refine AWR.region ?_
        refine AOR.pure (LT.move (v := (.s (.c (iC b39.2)))) rfl) ⟨rfl, trivial⟩ trivial rfl rfl ?_
        refine AOR.pure (LT.lss rfl) ⟨rfl, ⟨rfl, rfl⟩, trivial⟩ trivial rfl rfl ?_
        refine AOR.nil ?_
        refine AWR.joinK (fun j47 => ([(0, (.s (.c (.pv (.xs false (v.map encInt)))))), (3, (.s (.c (iC j47))))], [])) ?_ (fun j47 _ => ?_)
        · refine AWR.cond rfl (fun hc48 => ?_) (fun hc48 => ?_)
          · refine AWR.region ?_
            refine AOR.pure (LT.move (v := (.s (.c (iC b39.1)))) rfl) ⟨rfl, trivial⟩ trivial rfl rfl ?_
            refine AOR.pure (LT.neg rfl) ⟨rfl, trivial⟩ trivial rfl rfl ?_
            refine AOR.pure (LT.assign (v := (.s (.c (iC (w64 (-b39.1)))))) rfl) ⟨rfl, trivial⟩ trivial rfl rfl ?_
            refine AOR.nil ?_
            refine AWR.nil ⟨rfl, Ent.of ⟨rfl, rfl, trivial⟩ trivial⟩
          · refine AWR.skip ?_
            refine AWR.nil ⟨rfl, Ent.of ⟨rfl, rfl, trivial⟩ trivial⟩
        · refine AWR.seq ?_
          refine AWR.region ?_
          refine AOR.step (LT.tbuildSlice (n := 25) (enc := encInt) [] ([] : List Int) rfl rfl und37 ti3 rfl rfl rfl rfl (by decide) (fun _ => rfl) rfl) trivial trivial rfl rfl ?_
          refine AOR.pure (LT.assign (v := (.s (.c (.loc 25 0 ([] : List Int).length)))) rfl) ⟨rfl, trivial⟩ trivial rfl rfl ?_
          refine AOR.nil ?_
          refine AWR.seq ?_
          refine AWR.seq ?_
          refine AWR.region ?_
          refine AOR.pure (LT.assign (v := (.s (.c (iC 0)))) rfl) ⟨⟨rfl, rfl⟩, trivial⟩ trivial rfl rfl ?_
          refine AOR.nil ?_
          refine AWR.block ?_
          refine AWR.loop1 (id := 4) (m_spec_PrimitiveVector_L3 v j47) (fun s49 => ([(0, (.s (.c (.pv (.xs false (v.map encInt)))))), (3, (.s (.c (iC j47)))), (7, (.s (.c (.loc 25 0 s49.2.length)))), (8, (.s (.c (iC s49.1))))], [(25, (.prow 3 (s49.2.map encInt)))])) (fun b58 => ([(7, (.s (.c (.loc 25 0 b58.length))))], [(25, (.prow 3 (b58.map encInt)))])) ?_ (Ent.of ⟨rfl, rfl, rfl, rfl, trivial⟩ ⟨rfl, trivial⟩) rfl (fun b58 _ => ?_)
          · intro s49
            unfold m_spec_PrimitiveVector_L3
            refine AWR.seq ?_
            refine AWR.seq ?_
            refine AWR.region ?_
            refine AOR.pure (LT.move (v := (.s (.c (iC s49.1)))) rfl) ⟨rfl, trivial⟩ trivial rfl rfl ?_
            refine AOR.pure (LT.move (v := (.s (.c (.pv (.xs false (v.map encInt)))))) rfl) ⟨rfl, trivial⟩ trivial rfl rfl ?_
            refine AOR.pure (LT.tlenRO rfl und37) ⟨rfl, trivial⟩ trivial rfl rfl ?_
            refine AOR.pure (LT.lss rfl) ⟨rfl, rfl, trivial⟩ trivial rfl rfl ?_
            refine AOR.nil ?_
            refine AWR.cond rfl (fun hc59 => ?_) (fun hc59 => ?_)
            · refine AWR.skip ?_
              refine AWR.seq ?_
              refine AWR.block ?_
              refine AWR.region ?_
              refine AOR.pure (LT.move (v := (.s (.c (.loc 25 0 s49.2.length)))) rfl) ⟨rfl, trivial⟩ trivial rfl rfl ?_
              refine AOR.pure (LT.move (v := (.s (.c (.pv (.xs false (v.map encInt)))))) rfl) ⟨rfl, trivial⟩ trivial rfl rfl ?_
              refine AOR.pure (LT.move (v := (.s (.c (iC s49.1)))) rfl) ⟨rfl, trivial⟩ trivial rfl rfl ?_
              refine AOR.bind fun x60 hx60 => ?_
              refine AOR.pure (LT.tindexRO (enc := encInt) rfl el37 hx60 sz3) ⟨rfl, rfl, trivial⟩ trivial rfl rfl ?_
              refine AOR.pure (LT.loadPx1 rfl ag3) ⟨rfl, trivial⟩ trivial rfl rfl ?_
              refine AOR.pure (LT.move (v := (.s (.c (iC j47)))) rfl) ⟨rfl, trivial⟩ trivial rfl rfl ?_
              refine AOR.bind fun u61 hu61 => ?_
              refine AOR.pure (LT.quo rfl (nz_ne hu61)) ⟨rfl, rfl, trivial⟩ trivial rfl rfl ?_
              refine AOR.step (LT.tbuildSlice (n := 26) (enc := encInt) [(0, .tmp 64, (.c (iC (w64 (Int.tdiv x60 j47)))))] ([(w64 (Int.tdiv x60 j47))] : List Int) rfl rfl und37 ti3 rfl rfl rfl rfl (by decide) (fun _ => rfl) rfl) ⟨rfl, trivial⟩ trivial rfl rfl ?_
              refine AOR.bind fun u62 hu62 => ?_
              refine AOR.step (LT.tappP (enc := encInt) rfl rfl rfl und37 ti3 rfl (by decide) (by decide) (fun _ => rfl) (lim_le hu62)) ⟨rfl, rfl, trivial⟩ ⟨rfl, rfl, trivial⟩ rfl rfl ?_
              refine AOR.pure (LT.assign (v := (.s (.c (.loc 25 0 (s49.2 ++ ([(w64 (Int.tdiv x60 j47))] : List Int)).length)))) rfl) ⟨rfl, trivial⟩ trivial rfl rfl ?_
              refine AOR.nil ?_
              refine AWR.blk ?_
              refine AWR.ent (Ent.of (σ' := [(0, (.s (.c (.pv (.xs false (v.map encInt)))))), (3, (.s (.c (iC j47)))), (7, (.s (.c (.loc 25 0 (s49.2 ++ ([(w64 (Int.tdiv x60 j47))] : List Int)).length)))), (8, (.s (.c (iC s49.1))))]) (m' := [(25, (.prow 3 ((s49.2 ++ ([(w64 (Int.tdiv x60 j47))] : List Int)).map encInt)))]) ⟨rfl, rfl, rfl, rfl, trivial⟩ ⟨rfl, trivial⟩) ?_
              refine AWR.region ?_
              refine AOR.pure (LT.move (v := (.s (.c (iC s49.1)))) rfl) ⟨rfl, trivial⟩ trivial rfl rfl ?_
              refine AOR.pure (LT.add rfl) ⟨rfl, ⟨rfl, rfl⟩, trivial⟩ trivial rfl rfl ?_
              refine AOR.pure (LT.assign (v := (.s (.c (iC (w64 (s49.1 + 1)))))) rfl) ⟨rfl, trivial⟩ trivial rfl rfl ?_
              refine AOR.nil ?_
              refine AWR.nil ⟨rfl, Ent.of ⟨rfl, rfl, rfl, rfl, trivial⟩ ⟨rfl, trivial⟩⟩
            · refine AWR.exit_end rfl ⟨rfl, Ent.of ⟨rfl, trivial⟩ ⟨rfl, trivial⟩⟩
          · refine AWR.seq ?_
            refine AWR.region ?_
            refine AOR.pure (LT.move (v := (.s (.c (.loc 25 0 b58.length)))) rfl) ⟨rfl, trivial⟩ trivial rfl rfl ?_
            refine AOR.pure (LT.assign (v := (.s (.c (.loc 25 0 b58.length)))) rfl) ⟨rfl, trivial⟩ trivial rfl rfl ?_
            refine AOR.nil ?_
            refine AWR.ent (Ent.of (σ' := [(2, (.s (.c (.loc 25 0 b58.length))))]) (m' := [(25, (.prow 3 (b58.map encInt)))]) ⟨rfl, trivial⟩ ⟨rfl, trivial⟩) ?_
            refine AWR.ent (Ent.mv 25 0 rfl rfl) ?_
            refine AWR.ent (Ent.of (σ' := [(2, (.s (.c (.loc 0 0 b58.length))))]) (m' := [(0, (.prow 3 (b58.map encInt)))]) ⟨rfl, trivial⟩ ⟨rfl, trivial⟩) ?_
            refine AWR.ret (FPost.mk (.inr rfl) ⟨rfl, trivial⟩ ⟨rfl, trivial⟩ rfl ⟨trivial, trivial⟩ ⟨PermO.prow' perm_encInt, trivial⟩)
set_option maxRecDepth 100000 in
set_option maxHeartbeats 8000000 in
theorem w_spec_l9Clean (row : (List Int)) : ∀ t, m_spec_l9Clean row = some t → Fw.Fn Try.prog 176 [(.c (.pv (.xs false (row.map encInt))))] [] (.s (.c (.loc 0 0 t.length))) [(0, (.prow 3 (t.map encInt)))] [] [0] := by
  refine Fw.Fn.of (P := Try.prog) (X := [0]) (pn := []) (rs := (fun (t : (List Int)) => [(.c (.loc 0 0 t.length))])) (dfs := (fun (t : (List Int)) => [(0, (.prow 3 (t.map encInt)))])) Try.func176 rfl Try.ntmps176 (Nat.le_of_ble_eq_true rfl) rfl ?_
  intro w0 U0 R0 g0
  unfold m_spec_l9Clean
  refine AWR.seq ?_
  refine AWR.region ?_
  refine AOR.pure (LT.assign (v := (.s (.c (sC nilV)))) rfl) ⟨⟨rfl, rfl⟩, trivial⟩ trivial rfl rfl ?_
  refine AOR.nil ?_
  refine AWR.seq ?_
  refine AWR.region ?_
  refine AOR.pure (LT.move (v := (.s (.c (.pv (.xs false (row.map encInt)))))) rfl) ⟨rfl, trivial⟩ trivial rfl rfl ?_
  refine AOR.bind fun r1 hr1 => ?_
  refine AOR.step (@LT.callF Try.prog _ _ 160 _ _ [(.c (.pv (.xs false (row.map encInt))))] _ _ [] _ _ _ _ ((show Fw.Fn Try.prog 160 [(.c (.pv (.xs false (row.map encInt))))] [] (.s (.c (.loc 22 0 r1.length))) [(22, (.prow 3 (r1.map encInt)))] [] [22] from Fw.Fn.ren [(0, 22)] (w_spec_PrimitiveVector row r1 hr1) rfl)) rfl cb160 (.cons (.c (.same rfl)) .nil) rfl rfl trivial) ⟨rfl, rfl, trivial⟩ trivial rfl rfl ?_
  refine AOR.pure (LT.assign (v := (.s (.c (.loc 22 0 r1.length)))) rfl) ⟨rfl, trivial⟩ trivial rfl rfl ?_
  refine AOR.nil ?_
  refine AWR.ent (Ent.of (σ' := [(2, (.s (.c (.loc 22 0 r1.length))))]) (m' := [(22, (.prow 3 (r1.map encInt)))]) ⟨rfl, trivial⟩ ⟨rfl, trivial⟩) ?_
  refine AWR.ent (Ent.mv 22 0 rfl rfl) ?_
  refine AWR.ent (Ent.of (σ' := [(2, (.s (.c (.loc 0 0 r1.length))))]) (m' := [(0, (.prow 3 (r1.map encInt)))]) ⟨rfl, trivial⟩ ⟨rfl, trivial⟩) ?_
  refine AWR.ret (FPost.mk (.inr rfl) ⟨rfl, trivial⟩ ⟨rfl, trivial⟩ rfl ⟨trivial, trivial⟩ ⟨PermO.prow' perm_encInt, trivial⟩)
set_option maxRecDepth 100000 in
set_option maxHeartbeats 8000000 in
theorem w_spec_l9Without (a : (List Int)) (row : (List Int)) (j : Int) : ∀ t, m_spec_l9Without a row j = some t → Fw.Fn Try.prog 177 [(.c (.pv (.xs false (a.map encInt)))), (.c (.pv (.xs false (row.map encInt)))), (.c (iC j))] [] (.s (.c (.loc 0 0 t.length))) [(0, (.prow 3 (t.map encInt)))] [] [0] := by
  refine Fw.Fn.of (P := Try.prog) (X := [0]) (pn := []) (rs := (fun (t : (List Int)) => [(.c (.loc 0 0 t.length))])) (dfs := (fun (t : (List Int)) => [(0, (.prow 3 (t.map encInt)))])) Try.func177 rfl Try.ntmps177 (Nat.le_of_ble_eq_true rfl) rfl ?_
  intro w0 U0 R0 g0
  unfold m_spec_l9Without
  refine AWR.seq ?_
  refine AWR.region ?_
  refine AOR.pure (LT.assign (v := (.s (.c (sC nilV)))) rfl) ⟨⟨rfl, rfl⟩, trivial⟩ trivial rfl rfl ?_
  refine AOR.nil ?_
  refine AWR.seq ?_
  refine AWR.draw mixed ?_
  refine AOD.pure (LT.move (v := (.s (.c (.pv (.xs false (a.map encInt)))))) rfl) ⟨rfl, trivial⟩ trivial rfl rfl ?_
  refine AOD.pure (LT.move (v := (.s (.c (iC j)))) rfl) ⟨rfl, trivial⟩ trivial rfl rfl ?_
  refine AOD.bind fun x1 hx1 => ?_
  refine AOD.pure (LT.tindexRO (enc := encInt) rfl el37 hx1 sz3) ⟨rfl, rfl, trivial⟩ trivial rfl rfl ?_
  refine AOD.pure (LT.loadPx1 rfl ag3) ⟨rfl, trivial⟩ trivial rfl rfl ?_
  refine AOD.pure (LT.move (v := (.s (.c (.pv (.xs false (row.map encInt)))))) rfl) ⟨rfl, trivial⟩ trivial rfl rfl ?_
  refine AOD.pure (LT.move (v := (.s (.c (iC j)))) rfl) ⟨rfl, trivial⟩ trivial rfl rfl ?_
  refine AOD.bind fun x2 hx2 => ?_
  refine AOD.pure (LT.tindexRO (enc := encInt) rfl el37 hx2 sz3) ⟨rfl, rfl, trivial⟩ trivial rfl rfl ?_
  refine AOD.pure (LT.loadPx1 rfl ag3) ⟨rfl, trivial⟩ trivial rfl rfl ?_
  refine AOD.bind fun r3 hr3 => ?_
  refine AOD.pure (@LT.callF Try.prog _ _ 159 _ _ [(.c (iC x1)), (.c (iC x2))] _ _ [] _ _ _ _ (w_spec_GcdOf x1 x2 r3 hr3) rfl cb159 (.cons (.c (.same rfl)) (.cons (.c (.same rfl)) .nil)) rfl rfl trivial) ⟨rfl, rfl, rfl, trivial⟩ trivial rfl rfl ?_
  refine AOD.pure (LT.assign (v := (.s (.c (iC r3)))) rfl) ⟨rfl, trivial⟩ trivial rfl rfl ?_
  refine AOD.nil (by kernel_rfl) ?_
  refine AWR.seq ?_
  refine AWR.ent (Ent.of (σ' := [(0, (.s (.c (.pv (.xs false (a.map encInt)))))), (1, (.s (.c (.pv (.xs false (row.map encInt)))))), (2, (.s (.c (iC j)))), (7, (.s (.c (iC r3))))]) (m' := []) ⟨rfl, rfl, rfl, rfl, trivial⟩ trivial) ?_
  refine AWR.region ?_
  refine AOR.pure (LT.move (v := (.s (.c (.pv (.xs false (row.map encInt)))))) rfl) ⟨rfl, trivial⟩ trivial rfl rfl ?_
  refine AOR.pure (LT.move (v := (.s (.c (iC j)))) rfl) ⟨rfl, trivial⟩ trivial rfl rfl ?_
  refine AOR.bind fun x4 hx4 => ?_
  refine AOR.pure (LT.tindexRO (enc := encInt) rfl el37 hx4 sz3) ⟨rfl, rfl, trivial⟩ trivial rfl rfl ?_
  refine AOR.pure (LT.loadPx1 rfl ag3) ⟨rfl, trivial⟩ trivial rfl rfl ?_
  refine AOR.pure (LT.move (v := (.s (.c (iC r3)))) rfl) ⟨rfl, trivial⟩ trivial rfl rfl ?_
  refine AOR.bind fun u5 hu5 => ?_
  refine AOR.pure (LT.quo rfl (nz_ne hu5)) ⟨rfl, rfl, trivial⟩ trivial rfl rfl ?_
  refine AOR.pure (LT.assign (v := (.s (.c (iC (w64 (Int.tdiv x4 r3)))))) rfl) ⟨rfl, trivial⟩ trivial rfl rfl ?_
  refine AOR.nil ?_
  refine AWR.seq ?_
  refine AWR.region ?_
  refine AOR.pure (LT.move (v := (.s (.c (.pv (.xs false (a.map encInt)))))) rfl) ⟨rfl, trivial⟩ trivial rfl rfl ?_
  refine AOR.pure (LT.move (v := (.s (.c (iC j)))) rfl) ⟨rfl, trivial⟩ trivial rfl rfl ?_
  refine AOR.bind fun x6 hx6 => ?_
  refine AOR.pure (LT.tindexRO (enc := encInt) rfl el37 hx6 sz3) ⟨rfl, rfl, trivial⟩ trivial rfl rfl ?_
  refine AOR.pure (LT.loadPx1 rfl ag3) ⟨rfl, trivial⟩ trivial rfl rfl ?_
  refine AOR.pure (LT.move (v := (.s (.c (iC r3)))) rfl) ⟨rfl, trivial⟩ trivial rfl rfl ?_
  refine AOR.bind fun u7 hu7 => ?_
  refine AOR.pure (LT.quo rfl (nz_ne hu7)) ⟨rfl, rfl, trivial⟩ trivial rfl rfl ?_
  refine AOR.pure (LT.assign (v := (.s (.c (iC (w64 (Int.tdiv x6 r3)))))) rfl) ⟨rfl, trivial⟩ trivial rfl rfl ?_
  refine AOR.nil ?_
  refine AWR.seq ?_
  refine AWR.ent (Ent.of (σ' := [(0, (.s (.c (.pv (.xs false (a.map encInt)))))), (1, (.s (.c (.pv (.xs false (row.map encInt)))))), (8, (.s (.c (iC (w64 (Int.tdiv x4 r3)))))), (9, (.s (.c (iC (w64 (Int.tdiv x6 r3))))))]) (m' := []) ⟨rfl, rfl, rfl, rfl, trivial⟩ trivial) ?_
  refine AWR.region ?_
  refine AOR.step (LT.tbuildSlice (n := 22) (enc := encInt) [] ([] : List Int) rfl rfl und37 ti3 rfl rfl rfl rfl (by decide) (fun _ => rfl) rfl) trivial trivial rfl rfl ?_
  refine AOR.pure (LT.assign (v := (.s (.c (.loc 22 0 ([] : List Int).length)))) rfl) ⟨rfl, trivial⟩ trivial rfl rfl ?_
  refine AOR.nil ?_
  refine AWR.seq ?_
  refine AWR.seq ?_
  refine AWR.region ?_
  refine AOR.pure (LT.assign (v := (.s (.c (iC 0)))) rfl) ⟨⟨rfl, rfl⟩, trivial⟩ trivial rfl rfl ?_
  refine AOR.nil ?_
  refine AWR.block ?_
  refine AWR.loop1 (id := 0) (m_spec_l9Without_L1 a row r3 x4 x6) (fun s8 => ([(0, (.s (.c (.pv (.xs false (a.map encInt)))))), (1, (.s (.c (.pv (.xs false (row.map encInt)))))), (8, (.s (.c (iC (w64 (Int.tdiv x4 r3)))))), (9, (.s (.c (iC (w64 (Int.tdiv x6 r3)))))), (10, (.s (.c (.loc 22 0 s8.2.length)))), (11, (.s (.c (iC s8.1))))], [(22, (.prow 3 (s8.2.map encInt)))])) (fun b17 => ([(10, (.s (.c (.loc 22 0 b17.length))))], [(22, (.prow 3 (b17.map encInt)))])) ?_ (Ent.of ⟨rfl, rfl, rfl, rfl, rfl, rfl, trivial⟩ ⟨rfl, trivial⟩) rfl (fun b17 _ => ?_)
  · intro s8
    unfold m_spec_l9Without_L1
    refine AWR.seq ?_
    refine AWR.seq ?_
    refine AWR.region ?_
    refine AOR.pure (LT.move (v := (.s (.c (iC s8.1)))) rfl) ⟨rfl, trivial⟩ trivial rfl rfl ?_
    refine AOR.pure (LT.move (v := (.s (.c (.pv (.xs false (a.map encInt)))))) rfl) ⟨rfl, trivial⟩ trivial rfl rfl ?_
    refine AOR.pure (LT.tlenRO rfl und37) ⟨rfl, trivial⟩ trivial rfl rfl ?_
    refine AOR.pure (LT.lss rfl) ⟨rfl, rfl, trivial⟩ trivial rfl rfl ?_
    refine AOR.nil ?_
    refine AWR.cond rfl (fun hc18 => ?_) (fun hc18 => ?_)
    · refine AWR.skip ?_
      refine AWR.seq ?_
      refine AWR.block ?_
      refine AWR.draw mixed ?_
      refine AOD.pure (LT.move (v := (.s (.c (.loc 22 0 s8.2.length)))) rfl) ⟨rfl, trivial⟩ trivial rfl rfl ?_
      refine AOD.pure (LT.move (v := (.s (.c (.pv (.xs false (a.map encInt)))))) rfl) ⟨rfl, trivial⟩ trivial rfl rfl ?_
      refine AOD.pure (LT.move (v := (.s (.c (iC s8.1)))) rfl) ⟨rfl, trivial⟩ trivial rfl rfl ?_
      refine AOD.bind fun x19 hx19 => ?_
      refine AOD.pure (LT.tindexRO (enc := encInt) rfl el37 hx19 sz3) ⟨rfl, rfl, trivial⟩ trivial rfl rfl ?_
      refine AOD.pure (LT.loadPx1 rfl ag3) ⟨rfl, trivial⟩ trivial rfl rfl ?_
      refine AOD.pure (LT.move (v := (.s (.c (iC (w64 (Int.tdiv x4 r3)))))) rfl) ⟨rfl, trivial⟩ trivial rfl rfl ?_
      refine AOD.pure (LT.mul rfl) ⟨rfl, rfl, trivial⟩ trivial rfl rfl ?_
      refine AOD.pure (LT.move (v := (.s (.c (.pv (.xs false (row.map encInt)))))) rfl) ⟨rfl, trivial⟩ trivial rfl rfl ?_
      refine AOD.pure (LT.move (v := (.s (.c (iC s8.1)))) rfl) ⟨rfl, trivial⟩ trivial rfl rfl ?_
      refine AOD.bind fun x20 hx20 => ?_
      refine AOD.pure (LT.tindexRO (enc := encInt) rfl el37 hx20 sz3) ⟨rfl, rfl, trivial⟩ trivial rfl rfl ?_
      refine AOD.pure (LT.loadPx1 rfl ag3) ⟨rfl, trivial⟩ trivial rfl rfl ?_
      refine AOD.pure (LT.move (v := (.s (.c (iC (w64 (Int.tdiv x6 r3)))))) rfl) ⟨rfl, trivial⟩ trivial rfl rfl ?_
      refine AOD.pure (LT.mul rfl) ⟨rfl, rfl, trivial⟩ trivial rfl rfl ?_
      refine AOD.pure (LT.sub rfl) ⟨rfl, rfl, trivial⟩ trivial rfl rfl ?_
      refine AOD.step (LT.tbuildSlice (n := 23) (enc := encInt) [(0, .tmp 53, (.c (iC (w64 ((w64 (x19 * (w64 (Int.tdiv x4 r3)))) - (w64 (x20 * (w64 (Int.tdiv x6 r3)))))))))] ([(w64 ((w64 (x19 * (w64 (Int.tdiv x4 r3)))) - (w64 (x20 * (w64 (Int.tdiv x6 r3))))))] : List Int) rfl rfl und37 ti3 rfl rfl rfl rfl (by decide) (fun _ => rfl) rfl) ⟨rfl, trivial⟩ trivial rfl rfl ?_
      refine AOD.bind fun u21 hu21 => ?_
      refine AOD.step (LT.tappP (enc := encInt) rfl rfl rfl und37 ti3 rfl (by decide) (by decide) (fun _ => rfl) (lim_le hu21)) ⟨rfl, rfl, trivial⟩ ⟨rfl, rfl, trivial⟩ rfl rfl ?_
      refine AOD.pure (LT.assign (v := (.s (.c (.loc 22 0 (s8.2 ++ ([(w64 ((w64 (x19 * (w64 (Int.tdiv x4 r3)))) - (w64 (x20 * (w64 (Int.tdiv x6 r3))))))] : List Int)).length)))) rfl) ⟨rfl, trivial⟩ trivial rfl rfl ?_
      refine AOD.nil (by kernel_rfl) ?_
      refine AWR.blk ?_
      refine AWR.ent (Ent.of (σ' := [(0, (.s (.c (.pv (.xs false (a.map encInt)))))), (1, (.s (.c (.pv (.xs false (row.map encInt)))))), (8, (.s (.c (iC (w64 (Int.tdiv x4 r3)))))), (9, (.s (.c (iC (w64 (Int.tdiv x6 r3)))))), (10, (.s (.c (.loc 22 0 (s8.2 ++ ([(w64 ((w64 (x19 * (w64 (Int.tdiv x4 r3)))) - (w64 (x20 * (w64 (Int.tdiv x6 r3))))))] : List Int)).length)))), (11, (.s (.c (iC s8.1))))]) (m' := [(22, (.prow 3 ((s8.2 ++ ([(w64 ((w64 (x19 * (w64 (Int.tdiv x4 r3)))) - (w64 (x20 * (w64 (Int.tdiv x6 r3))))))] : List Int)).map encInt)))]) ⟨rfl, rfl, rfl, rfl, rfl, rfl, trivial⟩ ⟨rfl, trivial⟩) ?_
      refine AWR.region ?_
      refine AOR.pure (LT.move (v := (.s (.c (iC s8.1)))) rfl) ⟨rfl, trivial⟩ trivial rfl rfl ?_
      refine AOR.pure (LT.add rfl) ⟨rfl, ⟨rfl, rfl⟩, trivial⟩ trivial rfl rfl ?_
      refine AOR.pure (LT.assign (v := (.s (.c (iC (w64 (s8.1 + 1)))))) rfl) ⟨rfl, trivial⟩ trivial rfl rfl ?_
      refine AOR.nil ?_
      refine AWR.nil ⟨rfl, Ent.of ⟨rfl, rfl, rfl, rfl, rfl, rfl, trivial⟩ ⟨rfl, trivial⟩⟩
    · refine AWR.exit_end rfl ⟨rfl, Ent.of ⟨rfl, trivial⟩ ⟨rfl, trivial⟩⟩
  · refine AWR.seq ?_
    refine AWR.region ?_
    refine AOR.pure (LT.move (v := (.s (.c (.loc 22 0 b17.length)))) rfl) ⟨rfl, trivial⟩ trivial rfl rfl ?_
    refine AOR.bind fun r22 hr22 => ?_
    refine AOR.step (@LT.callF Try.prog _ _ 176 _ _ [(.c (.loc 22 0 b17.length))] _ _ [(22, (.prow 3 (b17.map encInt)))] _ _ _ _ ((show Fw.Fn Try.prog 176 [(.c (.pv (.xs false (b17.map encInt))))] [] (.s (.c (.loc 25 0 r22.length))) [(25, (.prow 3 (r22.map encInt)))] [] [25] from Fw.Fn.ren [(0, 25)] (w_spec_l9Clean b17 r22 hr22) rfl)) rfl cb176 (.cons (.c (.tloc rfl rfl)) .nil) rfl rfl trivial) ⟨rfl, rfl, trivial⟩ ⟨rfl, trivial⟩ rfl rfl ?_
    refine AOR.pure (LT.assign (v := (.s (.c (.loc 25 0 r22.length)))) rfl) ⟨rfl, trivial⟩ trivial rfl rfl ?_
    refine AOR.nil ?_
    refine AWR.ent (Ent.of (σ' := [(6, (.s (.c (.loc 25 0 r22.length))))]) (m' := [(25, (.prow 3 (r22.map encInt)))]) ⟨rfl, trivial⟩ ⟨rfl, trivial⟩) ?_
    refine AWR.ent (Ent.mv 25 0 rfl rfl) ?_
    refine AWR.ent (Ent.of (σ' := [(6, (.s (.c (.loc 0 0 r22.length))))]) (m' := [(0, (.prow 3 (r22.map encInt)))]) ⟨rfl, trivial⟩ ⟨rfl, trivial⟩) ?_
    refine AWR.ret (FPost.mk (.inr rfl) ⟨rfl, trivial⟩ ⟨rfl, trivial⟩ rfl ⟨trivial, trivial⟩ ⟨PermO.prow' perm_encInt, trivial⟩)
end Go.Proofs.Ytoeigmhhmadmbaa
end
section
set_option linter.unusedVariables false
set_option linter.unusedSimpArgs false
set_option linter.unnecessarySimpa false
open Go Go.Fw
namespace Go.Proofs.Ytoeigmhhmadmbaa
set_option maxRecDepth 100000 in
set_option maxHeartbeats 8000000 in
theorem w_spec_l9Reduced (m : (List (List Int))) : ∀ t, m_spec_l9Reduced m = some t → Fw.Fn Try.prog 133 [(.c (.pv (.xs false (m.map (encLInt false)))))] [] (resA [(.c (.loc 0 0 t.1.length)), (.c (.loc 1 0 t.2.length))]) [(0, (.prow 37 (t.1.map (encLInt true)))), (1, (.prow 3 (t.2.map encInt)))] [] [0, 1] := by
  refine Fw.Fn.ofU (P := Try.prog) (X := [0, 1]) (pn := []) (rs := (fun (t : ((List (List Int)) × (List Int))) => [(.c (.loc 0 0 t.1.length)), (.c (.loc 1 0 t.2.length))])) (dfs := (fun (t : ((List (List Int)) × (List Int))) => [(0, (.prow 37 (t.1.map (encLInt true)))), (1, (.prow 3 (t.2.map encInt)))])) Try.func133 rfl Try.ntmps133 (Nat.le_of_ble_eq_true rfl) rfl ?_
  intro w0 U0 R0 g0 hU
  unfold m_spec_l9Reduced
  refine AWR.seq ?_
  refine AWR.region ?_
  refine AOR.pure (LT.assign (v := (.s (.c (sC nilV)))) rfl) ⟨⟨rfl, rfl⟩, trivial⟩ trivial rfl rfl ?_
  refine AOR.pure (LT.assign (v := (.s (.c (sC nilV)))) rfl) ⟨⟨rfl, rfl⟩, trivial⟩ trivial rfl rfl ?_
  refine AOR.nil ?_
  refine AWR.seq ?_
  refine AWR.region ?_
  refine AOR.step (LT.tbuildSlice (n := 21) (enc := (encLInt true)) [] ([] : List (List Int)) rfl rfl und31 ti37 rfl rfl rfl rfl (by decide) (fun _ => rfl) rfl) trivial trivial rfl rfl ?_
  refine AOR.pure (LT.assign (v := (.s (.c (.loc 21 0 ([] : List (List Int)).length)))) rfl) ⟨rfl, trivial⟩ trivial rfl rfl ?_
  refine AOR.nil ?_
  refine AWR.seq ?_
  refine AWR.seq ?_
  refine AWR.region ?_
  refine AOR.pure (LT.assign (v := (.s (.c (iC 0)))) rfl) ⟨⟨rfl, rfl⟩, trivial⟩ trivial rfl rfl ?_
  refine AOR.nil ?_
  refine AWR.block ?_
  refine AWR.loop1 (id := 0) (m_spec_l9Reduced_L1 m) (fun s1 => ([(0, (.s (.c (.pv (.xs false (m.map (encLInt false))))))), (4, (.s (.c (.loc 21 0 s1.2.length)))), (5, (.s (.c (iC s1.1))))], [(21, (.prow 37 (s1.2.map (encLInt true))))])) (fun b10 => ([(4, (.s (.c (.loc 21 0 b10.length))))], [(21, (.prow 37 (b10.map (encLInt true))))])) ?_ (Ent.of ⟨rfl, rfl, rfl, trivial⟩ ⟨rfl, trivial⟩) rfl (fun b10 _ => ?_)
  · intro s1
    unfold m_spec_l9Reduced_L1
    refine AWR.seq ?_
    refine AWR.seq ?_
    refine AWR.region ?_
    refine AOR.pure (LT.move (v := (.s (.c (iC s1.1)))) rfl) ⟨rfl, trivial⟩ trivial rfl rfl ?_
    refine AOR.pure (LT.move (v := (.s (.c (.pv (.xs false (m.map (encLInt false))))))) rfl) ⟨rfl, trivial⟩ trivial rfl rfl ?_
    refine AOR.pure (LT.tlenRO rfl und31) ⟨rfl, trivial⟩ trivial rfl rfl ?_
    refine AOR.pure (LT.lss rfl) ⟨rfl, rfl, trivial⟩ trivial rfl rfl ?_
    refine AOR.nil ?_
    refine AWR.cond rfl (fun hc11 => ?_) (fun hc11 => ?_)
    · refine AWR.skip ?_
      refine AWR.seq ?_
      refine AWR.block ?_
      refine AWR.region ?_
      refine AOR.pure (LT.move (v := (.s (.c (.loc 21 0 s1.2.length)))) rfl) ⟨rfl, trivial⟩ trivial rfl rfl ?_
      refine AOR.pure (LT.move (v := (.s (.c (.pv (.xs false (m.map (encLInt false))))))) rfl) ⟨rfl, trivial⟩ trivial rfl rfl ?_
      refine AOR.pure (LT.move (v := (.s (.c (iC s1.1)))) rfl) ⟨rfl, trivial⟩ trivial rfl rfl ?_
      refine AOR.bind fun x12 hx12 => ?_
      refine AOR.pure (LT.tindexRO (enc := (encLInt false)) rfl el31 hx12 sz37) ⟨rfl, rfl, trivial⟩ trivial rfl rfl ?_
      refine AOR.pure (LT.loadPx1 rfl ag37) ⟨rfl, trivial⟩ trivial rfl rfl ?_
      refine AOR.bind fun r13 hr13 => ?_
      refine AOR.step (@LT.callF Try.prog _ _ 176 _ _ [(.c (.pv (.xs false (x12.map encInt))))] _ _ [] _ _ _ _ ((show Fw.Fn Try.prog 176 [(.c (.pv (.xs false (x12.map encInt))))] [] (.s (.c (.loc 23 0 r13.length))) [(23, (.prow 3 (r13.map encInt)))] [] [23] from Fw.Fn.ren [(0, 23)] (w_spec_l9Clean x12 r13 hr13) rfl)) rfl cb176 (.cons (.c (.same rfl)) .nil) rfl rfl trivial) ⟨rfl, rfl, trivial⟩ trivial rfl rfl ?_
      refine AOR.ent (Ent.freezeS (enc := encInt) 23 23 hU rfl rfl rfl rfl) ?_
      refine AOR.step (LT.tbuildSlice (n := 24) (enc := (encLInt true)) [(0, .tmp 23, (.c (.pv (.xs true (r13.map encInt)))))] [r13] rfl rfl und31 ti37 rfl rfl rfl rfl (by decide) (fun _ => rfl) rfl) ⟨rfl, trivial⟩ trivial rfl rfl ?_
      refine AOR.bind fun u14 hu14 => ?_
      refine AOR.step (LT.tappP (enc := (encLInt true)) rfl rfl rfl und31 ti37 rfl (by decide) (by decide) (fun _ => rfl) (lim_le hu14)) ⟨rfl, rfl, trivial⟩ ⟨rfl, rfl, trivial⟩ rfl rfl ?_
      refine AOR.pure (LT.assign (v := (.s (.c (.loc 21 0 (s1.2 ++ [r13]).length)))) rfl) ⟨rfl, trivial⟩ trivial rfl rfl ?_
      refine AOR.nil ?_
      refine AWR.blk ?_
      refine AWR.ent (Ent.of (σ' := [(0, (.s (.c (.pv (.xs false (m.map (encLInt false))))))), (4, (.s (.c (.loc 21 0 (s1.2 ++ [r13]).length)))), (5, (.s (.c (iC s1.1))))]) (m' := [(21, (.prow 37 ((s1.2 ++ [r13]).map (encLInt true))))]) ⟨rfl, rfl, rfl, trivial⟩ ⟨rfl, trivial⟩) ?_
      refine AWR.region ?_
      refine AOR.pure (LT.move (v := (.s (.c (iC s1.1)))) rfl) ⟨rfl, trivial⟩ trivial rfl rfl ?_
      refine AOR.pure (LT.add rfl) ⟨rfl, ⟨rfl, rfl⟩, trivial⟩ trivial rfl rfl ?_
      refine AOR.pure (LT.assign (v := (.s (.c (iC (w64 (s1.1 + 1)))))) rfl) ⟨rfl, trivial⟩ trivial rfl rfl ?_
      refine AOR.nil ?_
      refine AWR.nil ⟨rfl, Ent.of ⟨rfl, rfl, rfl, trivial⟩ ⟨rfl, trivial⟩⟩
    · refine AWR.exit_end rfl ⟨rfl, Ent.of ⟨rfl, trivial⟩ ⟨rfl, trivial⟩⟩
  · refine AWR.seq ?_
    refine AWR.region ?_
    refine AOR.step (LT.tbuildSlice (n := 25) (enc := encInt) [] ([] : List Int) rfl rfl und37 ti3 rfl rfl rfl rfl (by decide) (fun _ => rfl) rfl) trivial trivial rfl rfl ?_
    refine AOR.pure (LT.assign (v := (.s (.c (.loc 25 0 ([] : List Int).length)))) rfl) ⟨rfl, trivial⟩ trivial rfl rfl ?_
    refine AOR.nil ?_
    refine AWR.seq ?_
    refine AWR.seq ?_
    refine AWR.region ?_
    refine AOR.pure (LT.assign (v := (.s (.c (iC 0)))) rfl) ⟨⟨rfl, rfl⟩, trivial⟩ trivial rfl rfl ?_
    refine AOR.nil ?_
    refine AWR.block ?_
    refine AWR.loop1 (id := 2) (m_spec_l9Reduced_L6) (fun s15 => ([(4, (.s (.c (.loc 21 0 s15.2.1.length)))), (6, (.s (.c (.loc 25 0 s15.2.2.length)))), (7, (.s (.c (iC s15.1))))], [(21, (.prow 37 (s15.2.1.map (encLInt true)))), (25, (.prow 3 (s15.2.2.map encInt)))])) (fun b148 => ([(4, (.s (.c (.loc 21 0 b148.1.length)))), (6, (.s (.c (.loc 25 0 b148.2.length))))], [(21, (.prow 37 (b148.1.map (encLInt true)))), (25, (.prow 3 (b148.2.map encInt)))])) ?_ (Ent.of ⟨rfl, rfl, rfl, trivial⟩ ⟨rfl, rfl, trivial⟩) rfl (fun b148 _ => ?_)
    · intro s15
      unfold m_spec_l9Reduced_L6
      refine AWR.seq ?_
      refine AWR.seq ?_
      refine AWR.joinK (fun j151 => ([(4, (.s (.c (.loc 21 0 s15.2.1.length)))), (6, (.s (.c (.loc 25 0 s15.2.2.length)))), (7, (.s (.c (iC s15.1)))), (37, (.s (.c (bC j151))))], [(21, (.prow 37 (s15.2.1.map (encLInt true)))), (25, (.prow 3 (s15.2.2.map encInt)))])) ?_ (fun j151 _ => ?_)
      · refine AWR.region ?_
        refine AOR.pure (LT.move (v := (.s (.c (.loc 21 0 s15.2.1.length)))) rfl) ⟨rfl, trivial⟩ trivial rfl rfl ?_
        refine AOR.pure (LT.lenLoc rfl und31) ⟨rfl, trivial⟩ trivial rfl rfl ?_
        refine AOR.pure (LT.gtr rfl) ⟨rfl, ⟨rfl, rfl⟩, trivial⟩ trivial rfl rfl ?_
        refine AOR.pure (LT.move (v := (.s (.c (bC (decide (0 < (s15.2.1.length : Int))))))) rfl) ⟨rfl, trivial⟩ trivial rfl rfl ?_
        refine AOR.split (fun hb152 => ?_) (fun hb152 => ?_)
        · refine AOR.pure (LT.move (v := (.s (.c (iC s15.1)))) rfl) ⟨rfl, trivial⟩ trivial ⟨_, rfl, .inl ⟨_, rfl, (by rw [hb152]; rfl)⟩⟩ rfl ?_
          refine AOR.pure (LT.move (v := (.s (.c (.loc 21 0 s15.2.1.length)))) rfl) ⟨rfl, trivial⟩ trivial ⟨_, rfl, .inl ⟨_, rfl, (by rw [hb152]; rfl)⟩⟩ rfl ?_
          refine AOR.bind fun x153 hx153 => ?_
          refine AOR.pure (LT.tindexLoc rfl rfl el31 hx153) ⟨rfl, ⟨rfl, rfl⟩, trivial⟩ ⟨rfl, trivial⟩ ⟨_, rfl, .inl ⟨_, rfl, (by rw [hb152]; rfl)⟩⟩ rfl ?_
          refine AOR.pure (LT.tload1 (k := 0) rfl ag37 hx153 (by exact rfl) (by exact rfl)) ⟨rfl, trivial⟩ ⟨rfl, trivial⟩ ⟨_, rfl, .inl ⟨_, rfl, (by rw [hb152]; rfl)⟩⟩ rfl ?_
          refine AOR.pure (LT.tlenRO rfl und37) ⟨rfl, trivial⟩ trivial ⟨_, rfl, .inl ⟨_, rfl, (by rw [hb152]; rfl)⟩⟩ rfl ?_
          refine AOR.pure (LT.lss rfl) ⟨rfl, rfl, trivial⟩ trivial ⟨_, rfl, .inl ⟨_, rfl, (by rw [hb152]; rfl)⟩⟩ rfl ?_
          refine AOR.pure (LT.pickT (v := (.s (.c (bC (decide (s15.1 < (x153.length : Int))))))) rfl hb152) ⟨rfl, rfl, trivial⟩ trivial rfl rfl ?_
          refine AOR.nil ?_
          refine AWR.nil ⟨rfl, Ent.of ⟨rfl, rfl, rfl, rfl, trivial⟩ ⟨rfl, rfl, trivial⟩⟩
        · refine AOR.skip ⟨_, rfl, .inl ⟨_, rfl, (by rw [hb152]; rfl)⟩⟩ rfl ?_
          refine AOR.skip ⟨_, rfl, .inl ⟨_, rfl, (by rw [hb152]; rfl)⟩⟩ rfl ?_
          refine AOR.skip ⟨_, rfl, .inl ⟨_, rfl, (by rw [hb152]; rfl)⟩⟩ rfl ?_
          refine AOR.skip ⟨_, rfl, .inl ⟨_, rfl, (by rw [hb152]; rfl)⟩⟩ rfl ?_
          refine AOR.skip ⟨_, rfl, .inl ⟨_, rfl, (by rw [hb152]; rfl)⟩⟩ rfl ?_
          refine AOR.skip ⟨_, rfl, .inl ⟨_, rfl, (by rw [hb152]; rfl)⟩⟩ rfl ?_
          refine AOR.pure (LT.pickF (v := (.s (.c (bC false)))) rfl hb152) ⟨rfl, ⟨rfl, rfl⟩, trivial⟩ trivial rfl rfl ?_
          refine AOR.nil ?_
          refine AWR.nil ⟨rfl, Ent.of ⟨rfl, rfl, rfl, rfl, trivial⟩ ⟨rfl, rfl, trivial⟩⟩
      · refine AWR.cond rfl (fun hc154 => ?_) (fun hc154 => ?_)
        · refine AWR.skip ?_
          refine AWR.seq ?_
          refine AWR.block ?_
          refine AWR.seq ?_
          refine AWR.region ?_
          refine AOR.pure (LT.move (v := (.s (.c (.loc 25 0 s15.2.2.length)))) rfl) ⟨rfl, trivial⟩ trivial rfl rfl ?_
          refine AOR.pure (LT.lenLoc rfl und37) ⟨rfl, trivial⟩ trivial rfl rfl ?_
          refine AOR.pure (LT.assign (v := (.s (.c (iC (s15.2.2.length : Int))))) rfl) ⟨rfl, trivial⟩ trivial rfl rfl ?_
          refine AOR.nil ?_
          refine AWR.seq ?_
          refine AWR.block ?_
          refine AWR.loop1 (id := 4) (m_spec_l9Reduced_L7 s15) (fun s155 => ([(4, (.s (.c (.loc 21 0 s15.2.1.length)))), (6, (.s (.c (.loc 25 0 s15.2.2.length)))), (7, (.s (.c (iC s15.1)))), (8, (.s (.c (iC s155))))], [(21, (.prow 37 (s15.2.1.map (encLInt true)))), (25, (.prow 3 (s15.2.2.map encInt)))])) (fun b172 => ([(4, (.s (.c (.loc 21 0 b172.2.2.1.length)))), (6, (.s (.c (.loc 25 0 b172.2.2.2.length)))), (7, (.s (.c (iC b172.1)))), (8, (.s (.c (iC b172.2.1))))], [(21, (.prow 37 (b172.2.2.1.map (encLInt true)))), (25, (.prow 3 (b172.2.2.2.map encInt)))])) ?_ (Ent.of ⟨rfl, rfl, rfl, rfl, trivial⟩ ⟨rfl, rfl, trivial⟩) rfl (fun b172 _ => ?_)
          · intro s155
            unfold m_spec_l9Reduced_L7
            refine AWR.seq ?_
            refine AWR.seq ?_
            refine AWR.joinK (fun j176 => ([(4, (.s (.c (.loc 21 0 s15.2.1.length)))), (6, (.s (.c (.loc 25 0 s15.2.2.length)))), (7, (.s (.c (iC s15.1)))), (8, (.s (.c (iC s155)))), (55, (.s (.c (bC j176))))], [(21, (.prow 37 (s15.2.1.map (encLInt true)))), (25, (.prow 3 (s15.2.2.map encInt)))])) ?_ (fun j176 _ => ?_)
            · refine AWR.region ?_
              refine AOR.pure (LT.move (v := (.s (.c (iC s155)))) rfl) ⟨rfl, trivial⟩ trivial rfl rfl ?_
              refine AOR.pure (LT.move (v := (.s (.c (.loc 21 0 s15.2.1.length)))) rfl) ⟨rfl, trivial⟩ trivial rfl rfl ?_
              refine AOR.pure (LT.lenLoc rfl und31) ⟨rfl, trivial⟩ trivial rfl rfl ?_
              refine AOR.pure (LT.lss rfl) ⟨rfl, rfl, trivial⟩ trivial rfl rfl ?_
              refine AOR.pure (LT.move (v := (.s (.c (bC (decide (s155 < (s15.2.1.length : Int))))))) rfl) ⟨rfl, trivial⟩ trivial rfl rfl ?_
              refine AOR.split (fun hb177 => ?_) (fun hb177 => ?_)
              · refine AOR.pure (LT.move (v := (.s (.c (.loc 21 0 s15.2.1.length)))) rfl) ⟨rfl, trivial⟩ trivial ⟨_, rfl, .inl ⟨_, rfl, (by rw [hb177]; rfl)⟩⟩ rfl ?_
                refine AOR.pure (LT.move (v := (.s (.c (iC s155)))) rfl) ⟨rfl, trivial⟩ trivial ⟨_, rfl, .inl ⟨_, rfl, (by rw [hb177]; rfl)⟩⟩ rfl ?_
                refine AOR.bind fun x178 hx178 => ?_
                refine AOR.pure (LT.tindexLoc rfl rfl el31 hx178) ⟨rfl, rfl, trivial⟩ ⟨rfl, trivial⟩ ⟨_, rfl, .inl ⟨_, rfl, (by rw [hb177]; rfl)⟩⟩ rfl ?_
                refine AOR.pure (LT.tload1 (k := 0) rfl ag37 hx178 (by exact rfl) (by exact rfl)) ⟨rfl, trivial⟩ ⟨rfl, trivial⟩ ⟨_, rfl, .inl ⟨_, rfl, (by rw [hb177]; rfl)⟩⟩ rfl ?_
                refine AOR.pure (LT.move (v := (.s (.c (iC s15.1)))) rfl) ⟨rfl, trivial⟩ trivial ⟨_, rfl, .inl ⟨_, rfl, (by rw [hb177]; rfl)⟩⟩ rfl ?_
                refine AOR.bind fun x179 hx179 => ?_
                refine AOR.pure (LT.tindexRO (enc := encInt) rfl el37 hx179 sz3) ⟨rfl, rfl, trivial⟩ trivial ⟨_, rfl, .inl ⟨_, rfl, (by rw [hb177]; rfl)⟩⟩ rfl ?_
                refine AOR.pure (LT.loadPx1 rfl ag3) ⟨rfl, trivial⟩ trivial ⟨_, rfl, .inl ⟨_, rfl, (by rw [hb177]; rfl)⟩⟩ rfl ?_
                refine AOR.pure (LT.eql rfl) ⟨rfl, ⟨rfl, rfl⟩, trivial⟩ trivial ⟨_, rfl, .inl ⟨_, rfl, (by rw [hb177]; rfl)⟩⟩ rfl ?_
                refine AOR.pure (LT.pickT (v := (.s (.c (bC (x179 == 0))))) rfl hb177) ⟨rfl, rfl, trivial⟩ trivial rfl rfl ?_
                refine AOR.nil ?_
                refine AWR.nil ⟨rfl, Ent.of ⟨rfl, rfl, rfl, rfl, rfl, trivial⟩ ⟨rfl, rfl, trivial⟩⟩
              · refine AOR.skip ⟨_, rfl, .inl ⟨_, rfl, (by rw [hb177]; rfl)⟩⟩ rfl ?_
                refine AOR.skip ⟨_, rfl, .inl ⟨_, rfl, (by rw [hb177]; rfl)⟩⟩ rfl ?_
                refine AOR.skip ⟨_, rfl, .inl ⟨_, rfl, (by rw [hb177]; rfl)⟩⟩ rfl ?_
                refine AOR.skip ⟨_, rfl, .inl ⟨_, rfl, (by rw [hb177]; rfl)⟩⟩ rfl ?_
                refine AOR.skip ⟨_, rfl, .inl ⟨_, rfl, (by rw [hb177]; rfl)⟩⟩ rfl ?_
                refine AOR.skip ⟨_, rfl, .inl ⟨_, rfl, (by rw [hb177]; rfl)⟩⟩ rfl ?_
                refine AOR.skip ⟨_, rfl, .inl ⟨_, rfl, (by rw [hb177]; rfl)⟩⟩ rfl ?_
                refine AOR.skip ⟨_, rfl, .inl ⟨_, rfl, (by rw [hb177]; rfl)⟩⟩ rfl ?_
                refine AOR.pure (LT.pickF (v := (.s (.c (bC false)))) rfl hb177) ⟨rfl, ⟨rfl, rfl⟩, trivial⟩ trivial rfl rfl ?_
                refine AOR.nil ?_
                refine AWR.nil ⟨rfl, Ent.of ⟨rfl, rfl, rfl, rfl, rfl, trivial⟩ ⟨rfl, rfl, trivial⟩⟩
            · refine AWR.cond rfl (fun hc180 => ?_) (fun hc180 => ?_)
              · refine AWR.skip ?_
                refine AWR.block ?_
                refine AWR.region ?_
                refine AOR.pure (LT.move (v := (.s (.c (iC s155)))) rfl) ⟨rfl, trivial⟩ trivial rfl rfl ?_
                refine AOR.pure (LT.add rfl) ⟨rfl, ⟨rfl, rfl⟩, trivial⟩ trivial rfl rfl ?_
                refine AOR.pure (LT.assign (v := (.s (.c (iC (w64 (s155 + 1)))))) rfl) ⟨rfl, trivial⟩ trivial rfl rfl ?_
                refine AOR.nil ?_
                refine AWR.blk ?_
                refine AWR.nil ⟨rfl, Ent.of ⟨rfl, rfl, rfl, rfl, trivial⟩ ⟨rfl, rfl, trivial⟩⟩
              · refine AWR.exit_end rfl ⟨rfl, Ent.of ⟨rfl, rfl, rfl, rfl, trivial⟩ ⟨rfl, rfl, trivial⟩⟩
          · refine AWR.seq ?_
            refine AWR.seq ?_
            refine AWR.region ?_
            refine AOR.pure (LT.move (v := (.s (.c (iC b172.2.1)))) rfl) ⟨rfl, trivial⟩ trivial rfl rfl ?_
            refine AOR.pure (LT.move (v := (.s (.c (.loc 21 0 b172.2.2.1.length)))) rfl) ⟨rfl, trivial⟩ trivial rfl rfl ?_
            refine AOR.pure (LT.lenLoc rfl und31) ⟨rfl, trivial⟩ trivial rfl rfl ?_
            refine AOR.pure (LT.eql rfl) ⟨rfl, rfl, trivial⟩ trivial rfl rfl ?_
            refine AOR.nil ?_
            refine AWR.cond rfl (fun hc181 => ?_) (fun hc181 => ?_)
            · refine AWR.exit rfl ?_
              refine AWR.region ?_
              refine AOR.pure (LT.move (v := (.s (.c (iC b172.1)))) rfl) ⟨rfl, trivial⟩ trivial rfl rfl ?_
              refine AOR.pure (LT.add rfl) ⟨rfl, ⟨rfl, rfl⟩, trivial⟩ trivial rfl rfl ?_
              refine AOR.pure (LT.assign (v := (.s (.c (iC (w64 (b172.1 + 1)))))) rfl) ⟨rfl, trivial⟩ trivial rfl rfl ?_
              refine AOR.nil ?_
              refine AWR.nil ⟨rfl, Ent.of ⟨rfl, rfl, rfl, trivial⟩ ⟨rfl, rfl, trivial⟩⟩
            · refine AWR.skip ?_
              refine AWR.seq ?_
              refine AWR.region ?_
              refine AOR.pure (LT.move (v := (.s (.c (.loc 21 0 b172.2.2.1.length)))) rfl) ⟨rfl, trivial⟩ trivial rfl rfl ?_
              refine AOR.pure (LT.move (v := (.s (.c (iC b172.2.1)))) rfl) ⟨rfl, trivial⟩ trivial rfl rfl ?_
              refine AOR.bind fun x182 hx182 => ?_
              refine AOR.pure (LT.tindexLoc rfl rfl el31 hx182) ⟨rfl, rfl, trivial⟩ ⟨rfl, trivial⟩ rfl rfl ?_
              refine AOR.pure (LT.tload1 (k := 0) rfl ag37 hx182 (by exact rfl) (by exact rfl)) ⟨rfl, trivial⟩ ⟨rfl, trivial⟩ rfl rfl ?_
              refine AOR.pure (LT.assign (v := (.s (.c (.pv (.xs true (x182.map encInt)))))) rfl) ⟨rfl, trivial⟩ trivial rfl rfl ?_
              refine AOR.nil ?_
              refine AWR.seq ?_
              refine AWR.region ?_
              refine AOR.pure (LT.move (v := (.s (.c (.loc 21 0 b172.2.2.1.length)))) rfl) ⟨rfl, trivial⟩ trivial rfl rfl ?_
              refine AOR.pure (LT.move (v := (.s (.c (iC b172.2.1)))) rfl) ⟨rfl, trivial⟩ trivial rfl rfl ?_
              refine AOR.pure (LT.move (v := (.s (.c (.loc 21 0 b172.2.2.1.length)))) rfl) ⟨rfl, trivial⟩ trivial rfl rfl ?_
              refine AOR.pure (LT.move (v := (.s (.c (.loc 25 0 b172.2.2.2.length)))) rfl) ⟨rfl, trivial⟩ trivial rfl rfl ?_
              refine AOR.pure (LT.lenLoc rfl und37) ⟨rfl, trivial⟩ trivial rfl rfl ?_
              refine AOR.bind fun x183 hx183 => ?_
              refine AOR.pure (LT.tindexLoc rfl rfl el31 hx183) ⟨rfl, rfl, trivial⟩ ⟨rfl, trivial⟩ rfl rfl ?_
              refine AOR.pure (LT.tload1 (k := 0) rfl ag37 hx183 (by exact rfl) (by exact rfl)) ⟨rfl, trivial⟩ ⟨rfl, trivial⟩ rfl rfl ?_
              refine AOR.bind fun x184 hx184 => ?_
              refine AOR.pure (LT.tindexLoc rfl rfl el31 hx184) ⟨rfl, rfl, trivial⟩ ⟨rfl, trivial⟩ rfl rfl ?_
              refine AOR.step (LT.tstore (k := 0) (v := (.c (.pv (.xs true (x183.map encInt))))) (b' := x183) rfl rfl (infS inf37) sz37 (by exact rfl) hx184 (by exact rfl) (by exact Nat.le_of_ble_eq_true rfl) (by exact rfl)) ⟨rfl, rfl, trivial⟩ ⟨rfl, trivial⟩ rfl rfl ?_
              refine AOR.nil ?_
              refine AWR.seq ?_
              refine AWR.ent (Ent.of (σ' := [(4, (.s (.c (.loc 21 0 b172.2.2.1.length)))), (6, (.s (.c (.loc 25 0 b172.2.2.2.length)))), (7, (.s (.c (iC b172.1)))), (9, (.s (.c (.pv (.xs true (x182.map encInt))))))]) (m' := [(21, (.prow 37 ((b172.2.2.1.set b172.2.1.toNat x183).map (encLInt true)))), (25, (.prow 3 (b172.2.2.2.map encInt)))]) ⟨rfl, rfl, rfl, rfl, trivial⟩ ⟨rfl, rfl, trivial⟩) ?_
              refine AWR.region ?_
              refine AOR.pure (LT.move (v := (.s (.c (.loc 21 0 b172.2.2.1.length)))) rfl) ⟨rfl, trivial⟩ trivial rfl rfl ?_
              refine AOR.pure (LT.move (v := (.s (.c (.loc 25 0 b172.2.2.2.length)))) rfl) ⟨rfl, trivial⟩ trivial rfl rfl ?_
              refine AOR.pure (LT.lenLoc rfl und37) ⟨rfl, trivial⟩ trivial rfl rfl ?_
              refine AOR.pure (LT.move (v := (.s (.c (.pv (.xs true (x182.map encInt)))))) rfl) ⟨rfl, trivial⟩ trivial rfl rfl ?_
              refine AOR.bind fun x185 hx185 => ?_
              refine AOR.pure (LT.tindexLoc (show b172.2.2.1.length = (b172.2.2.1.set b172.2.1.toNat x183).length by simp only [List.length_set]) rfl el31 hx185) ⟨rfl, rfl, trivial⟩ ⟨rfl, trivial⟩ rfl rfl ?_
              refine AOR.step (LT.tstore (k := 0) (v := (.c (.pv (.xs true (x182.map encInt))))) (b' := x182) rfl rfl (infS inf37) sz37 (by exact rfl) hx185 (by exact rfl) (by exact Nat.le_of_ble_eq_true rfl) (by exact rfl)) ⟨rfl, rfl, trivial⟩ ⟨rfl, trivial⟩ rfl rfl ?_
              refine AOR.nil ?_
              refine AWR.seq ?_
              refine AWR.seq ?_
              refine AWR.region ?_
              refine AOR.pure (LT.assign (v := (.s (.c (iC 0)))) rfl) ⟨⟨rfl, rfl⟩, trivial⟩ trivial rfl rfl ?_
              refine AOR.nil ?_
              refine AWR.block ?_
              refine AWR.loop1 (id := 6) (m_spec_l9Reduced_L8 b172 x182) (fun s186 => ([(4, (.s (.c (.loc 21 0 s186.2.length)))), (6, (.s (.c (.loc 25 0 b172.2.2.2.length)))), (7, (.s (.c (iC b172.1)))), (9, (.s (.c (.pv (.xs true (x182.map encInt)))))), (10, (.s (.c (iC s186.1))))], [(21, (.prow 37 (s186.2.map (encLInt true)))), (25, (.prow 3 (b172.2.2.2.map encInt)))])) (fun b221 => ([(4, (.s (.c (.loc 21 0 b221.2.1.length)))), (6, (.s (.c (.loc 25 0 b221.2.2.length)))), (7, (.s (.c (iC b221.1))))], [(21, (.prow 37 (b221.2.1.map (encLInt true)))), (25, (.prow 3 (b221.2.2.map encInt)))])) ?_ (Ent.of ⟨(congrArg (fun l1 => (some (AV.s (.c (.loc 21 0 l1))) : Option AV)) (show b172.2.2.1.length = ((b172.2.2.1.set b172.2.1.toNat x183).set (b172.2.2.2.length : Int).toNat x182).length by simp only [List.length_set])), rfl, rfl, rfl, rfl, trivial⟩ ⟨rfl, rfl, trivial⟩) rfl (fun b221 _ => ?_)
              · intro s186
                unfold m_spec_l9Reduced_L8
                refine AWR.seq ?_
                refine AWR.seq ?_
                refine AWR.region ?_
                refine AOR.pure (LT.move (v := (.s (.c (iC s186.1)))) rfl) ⟨rfl, trivial⟩ trivial rfl rfl ?_
                refine AOR.pure (LT.move (v := (.s (.c (.loc 21 0 s186.2.length)))) rfl) ⟨rfl, trivial⟩ trivial rfl rfl ?_
                refine AOR.pure (LT.lenLoc rfl und31) ⟨rfl, trivial⟩ trivial rfl rfl ?_
                refine AOR.pure (LT.lss rfl) ⟨rfl, rfl, trivial⟩ trivial rfl rfl ?_
                refine AOR.nil ?_
                refine AWR.cond rfl (fun hc222 => ?_) (fun hc222 => ?_)
                · refine AWR.skip ?_
                  refine AWR.seq ?_
                  refine AWR.block ?_
                  refine AWR.seq ?_
                  refine AWR.joinK (fun j226 => ([(4, (.s (.c (.loc 21 0 s186.2.length)))), (6, (.s (.c (.loc 25 0 b172.2.2.2.length)))), (7, (.s (.c (iC b172.1)))), (9, (.s (.c (.pv (.xs true (x182.map encInt)))))), (10, (.s (.c (iC s186.1)))), (98, (.s (.c (bC j226))))], [(21, (.prow 37 (s186.2.map (encLInt true)))), (25, (.prow 3 (b172.2.2.2.map encInt)))])) ?_ (fun j226 _ => ?_)
                  · refine AWR.region ?_
                    refine AOR.pure (LT.move (v := (.s (.c (iC s186.1)))) rfl) ⟨rfl, trivial⟩ trivial rfl rfl ?_
                    refine AOR.pure (LT.move (v := (.s (.c (.loc 25 0 b172.2.2.2.length)))) rfl) ⟨rfl, trivial⟩ trivial rfl rfl ?_
                    refine AOR.pure (LT.lenLoc rfl und37) ⟨rfl, trivial⟩ trivial rfl rfl ?_
                    refine AOR.pure (LT.neq rfl) ⟨rfl, rfl, trivial⟩ trivial rfl rfl ?_
                    refine AOR.pure (LT.move (v := (.s (.c (bC (s186.1 != (b172.2.2.2.length : Int)))))) rfl) ⟨rfl, trivial⟩ trivial rfl rfl ?_
                    refine AOR.split (fun hb227 => ?_) (fun hb227 => ?_)
                    · refine AOR.pure (LT.move (v := (.s (.c (.loc 21 0 s186.2.length)))) rfl) ⟨rfl, trivial⟩ trivial ⟨_, rfl, .inl ⟨_, rfl, (by rw [hb227]; rfl)⟩⟩ rfl ?_
                      refine AOR.pure (LT.move (v := (.s (.c (iC s186.1)))) rfl) ⟨rfl, trivial⟩ trivial ⟨_, rfl, .inl ⟨_, rfl, (by rw [hb227]; rfl)⟩⟩ rfl ?_
                      refine AOR.bind fun x228 hx228 => ?_
                      refine AOR.pure (LT.tindexLoc rfl rfl el31 hx228) ⟨rfl, rfl, trivial⟩ ⟨rfl, trivial⟩ ⟨_, rfl, .inl ⟨_, rfl, (by rw [hb227]; rfl)⟩⟩ rfl ?_
                      refine AOR.pure (LT.tload1 (k := 0) rfl ag37 hx228 (by exact rfl) (by exact rfl)) ⟨rfl, trivial⟩ ⟨rfl, trivial⟩ ⟨_, rfl, .inl ⟨_, rfl, (by rw [hb227]; rfl)⟩⟩ rfl ?_
                      refine AOR.pure (LT.move (v := (.s (.c (iC b172.1)))) rfl) ⟨rfl, trivial⟩ trivial ⟨_, rfl, .inl ⟨_, rfl, (by rw [hb227]; rfl)⟩⟩ rfl ?_
                      refine AOR.bind fun x229 hx229 => ?_
                      refine AOR.pure (LT.tindexRO (enc := encInt) rfl el37 hx229 sz3) ⟨rfl, rfl, trivial⟩ trivial ⟨_, rfl, .inl ⟨_, rfl, (by rw [hb227]; rfl)⟩⟩ rfl ?_
                      refine AOR.pure (LT.loadPx1 rfl ag3) ⟨rfl, trivial⟩ trivial ⟨_, rfl, .inl ⟨_, rfl, (by rw [hb227]; rfl)⟩⟩ rfl ?_
                      refine AOR.pure (LT.neq rfl) ⟨rfl, ⟨rfl, rfl⟩, trivial⟩ trivial ⟨_, rfl, .inl ⟨_, rfl, (by rw [hb227]; rfl)⟩⟩ rfl ?_
                      refine AOR.pure (LT.pickT (v := (.s (.c (bC (x229 != 0))))) rfl hb227) ⟨rfl, rfl, trivial⟩ trivial rfl rfl ?_
                      refine AOR.nil ?_
                      refine AWR.nil ⟨rfl, Ent.of ⟨rfl, rfl, rfl, rfl, rfl, rfl, trivial⟩ ⟨rfl, rfl, trivial⟩⟩
                    · refine AOR.skip ⟨_, rfl, .inl ⟨_, rfl, (by rw [hb227]; rfl)⟩⟩ rfl ?_
                      refine AOR.skip ⟨_, rfl, .inl ⟨_, rfl, (by rw [hb227]; rfl)⟩⟩ rfl ?_
                      refine AOR.skip ⟨_, rfl, .inl ⟨_, rfl, (by rw [hb227]; rfl)⟩⟩ rfl ?_
                      refine AOR.skip ⟨_, rfl, .inl ⟨_, rfl, (by rw [hb227]; rfl)⟩⟩ rfl ?_
                      refine AOR.skip ⟨_, rfl, .inl ⟨_, rfl, (by rw [hb227]; rfl)⟩⟩ rfl ?_
                      refine AOR.skip ⟨_, rfl, .inl ⟨_, rfl, (by rw [hb227]; rfl)⟩⟩ rfl ?_
                      refine AOR.skip ⟨_, rfl, .inl ⟨_, rfl, (by rw [hb227]; rfl)⟩⟩ rfl ?_
                      refine AOR.skip ⟨_, rfl, .inl ⟨_, rfl, (by rw [hb227]; rfl)⟩⟩ rfl ?_
                      refine AOR.pure (LT.pickF (v := (.s (.c (bC false)))) rfl hb227) ⟨rfl, ⟨rfl, rfl⟩, trivial⟩ trivial rfl rfl ?_
                      refine AOR.nil ?_
                      refine AWR.nil ⟨rfl, Ent.of ⟨rfl, rfl, rfl, rfl, rfl, rfl, trivial⟩ ⟨rfl, rfl, trivial⟩⟩
                  · refine AWR.joinK (fun j234 => ([(4, (.s (.c (.loc 21 0 j234.length)))), (6, (.s (.c (.loc 25 0 b172.2.2.2.length)))), (7, (.s (.c (iC b172.1)))), (9, (.s (.c (.pv (.xs true (x182.map encInt)))))), (10, (.s (.c (iC s186.1))))], [(21, (.prow 37 (j234.map (encLInt true)))), (25, (.prow 3 (b172.2.2.2.map encInt)))])) ?_ (fun j234 _ => ?_)
                    · refine AWR.cond rfl (fun hc235 => ?_) (fun hc235 => ?_)
                      · refine AWR.region ?_
                        refine AOR.pure (LT.move (v := (.s (.c (.loc 21 0 s186.2.length)))) rfl) ⟨rfl, trivial⟩ trivial rfl rfl ?_
                        refine AOR.pure (LT.move (v := (.s (.c (iC s186.1)))) rfl) ⟨rfl, trivial⟩ trivial rfl rfl ?_
                        refine AOR.pure (LT.move (v := (.s (.c (.loc 21 0 s186.2.length)))) rfl) ⟨rfl, trivial⟩ trivial rfl rfl ?_
                        refine AOR.pure (LT.move (v := (.s (.c (iC s186.1)))) rfl) ⟨rfl, trivial⟩ trivial rfl rfl ?_
                        refine AOR.bind fun x236 hx236 => ?_
                        refine AOR.pure (LT.tindexLoc rfl rfl el31 hx236) ⟨rfl, rfl, trivial⟩ ⟨rfl, trivial⟩ rfl rfl ?_
                        refine AOR.pure (LT.tload1 (k := 0) rfl ag37 hx236 (by exact rfl) (by exact rfl)) ⟨rfl, trivial⟩ ⟨rfl, trivial⟩ rfl rfl ?_
                        refine AOR.pure (LT.move (v := (.s (.c (.pv (.xs true (x182.map encInt)))))) rfl) ⟨rfl, trivial⟩ trivial rfl rfl ?_
                        refine AOR.pure (LT.move (v := (.s (.c (iC b172.1)))) rfl) ⟨rfl, trivial⟩ trivial rfl rfl ?_
                        refine AOR.bind fun r237 hr237 => ?_
                        refine AOR.step (@LT.callF Try.prog _ _ 177 _ _ [(.c (.pv (.xs true (x236.map encInt)))), (.c (.pv (.xs true (x182.map encInt)))), (.c (iC b172.1))] _ _ [] _ _ _ _ ((show Fw.Fn Try.prog 177 [(.c (.pv (.xs false (x236.map encInt)))), (.c (.pv (.xs false (x182.map encInt)))), (.c (iC b172.1))] [] (.s (.c (.loc 27 0 r237.length))) [(27, (.prow 3 (r237.map encInt)))] [] [27] from Fw.Fn.ren [(0, 27)] (w_spec_l9Without x236 x182 b172.1 r237 hr237) rfl)) rfl cb177 (.cons (.c (.weak (.same rfl) (QW.xsm qw_encInt (fun h => by cases h) _))) (.cons (.c (.weak (.same rfl) (QW.xsm qw_encInt (fun h => by cases h) _))) (.cons (.c (.same rfl)) .nil))) rfl rfl trivial) ⟨rfl, rfl, rfl, rfl, trivial⟩ trivial rfl rfl ?_
                        refine AOR.bind fun x238 hx238 => ?_
                        refine AOR.pure (LT.tindexLoc rfl rfl el31 hx238) ⟨rfl, rfl, trivial⟩ ⟨rfl, trivial⟩ rfl rfl ?_
                        refine AOR.ent (Ent.freezeS (enc := encInt) 107 27 hU rfl rfl rfl rfl) ?_
                        refine AOR.step (LT.tstore (k := 0) (v := (.c (.pv (.xs true (r237.map encInt))))) (b' := r237) rfl rfl (infS inf37) sz37 (by exact rfl) hx238 (by exact rfl) (by exact Nat.le_of_ble_eq_true rfl) (by exact rfl)) ⟨rfl, rfl, trivial⟩ ⟨rfl, trivial⟩ rfl rfl ?_
                        refine AOR.nil ?_
                        refine AWR.nil ⟨rfl, Ent.of ⟨(congrArg (fun l1 => (some (AV.s (.c (.loc 21 0 l1))) : Option AV)) (show s186.2.length = (s186.2.set s186.1.toNat r237).length by simp only [List.length_set])), rfl, rfl, rfl, rfl, trivial⟩ ⟨rfl, rfl, trivial⟩⟩
                      · refine AWR.skip ?_
                        refine AWR.nil ⟨rfl, Ent.of ⟨rfl, rfl, rfl, rfl, rfl, trivial⟩ ⟨rfl, rfl, trivial⟩⟩
                    · refine AWR.blk ?_
                      refine AWR.region ?_
                      refine AOR.pure (LT.move (v := (.s (.c (iC s186.1)))) rfl) ⟨rfl, trivial⟩ trivial rfl rfl ?_
                      refine AOR.pure (LT.add rfl) ⟨rfl, ⟨rfl, rfl⟩, trivial⟩ trivial rfl rfl ?_
                      refine AOR.pure (LT.assign (v := (.s (.c (iC (w64 (s186.1 + 1)))))) rfl) ⟨rfl, trivial⟩ trivial rfl rfl ?_
                      refine AOR.nil ?_
                      refine AWR.nil ⟨rfl, Ent.of ⟨rfl, rfl, rfl, rfl, rfl, trivial⟩ ⟨rfl, rfl, trivial⟩⟩
                · refine AWR.exit_end rfl ⟨rfl, Ent.of ⟨rfl, rfl, rfl, trivial⟩ ⟨rfl, rfl, trivial⟩⟩
              · refine AWR.region ?_
                refine AOR.pure (LT.move (v := (.s (.c (.loc 25 0 b221.2.2.length)))) rfl) ⟨rfl, trivial⟩ trivial rfl rfl ?_
                refine AOR.pure (LT.move (v := (.s (.c (iC b221.1)))) rfl) ⟨rfl, trivial⟩ trivial rfl rfl ?_
                refine AOR.step (LT.tbuildSlice (n := 28) (enc := encInt) [(0, .tmp 110, (.c (iC b221.1)))] ([b221.1] : List Int) rfl rfl und37 ti3 rfl rfl rfl rfl (by decide) (fun _ => rfl) rfl) ⟨rfl, trivial⟩ trivial rfl rfl ?_
                refine AOR.bind fun u239 hu239 => ?_
                refine AOR.step (LT.tappP (enc := encInt) rfl rfl rfl und37 ti3 rfl (by decide) (by decide) (fun _ => rfl) (lim_le hu239)) ⟨rfl, rfl, trivial⟩ ⟨rfl, rfl, trivial⟩ rfl rfl ?_
                refine AOR.pure (LT.assign (v := (.s (.c (.loc 25 0 (b221.2.2 ++ ([b221.1] : List Int)).length)))) rfl) ⟨rfl, trivial⟩ trivial rfl rfl ?_
                refine AOR.nil ?_
                refine AWR.blk ?_
                refine AWR.region ?_
                refine AOR.pure (LT.move (v := (.s (.c (iC b221.1)))) rfl) ⟨rfl, trivial⟩ trivial rfl rfl ?_
                refine AOR.pure (LT.add rfl) ⟨rfl, ⟨rfl, rfl⟩, trivial⟩ trivial rfl rfl ?_
                refine AOR.pure (LT.assign (v := (.s (.c (iC (w64 (b221.1 + 1)))))) rfl) ⟨rfl, trivial⟩ trivial rfl rfl ?_
                refine AOR.nil ?_
                refine AWR.nil ⟨rfl, Ent.of ⟨rfl, rfl, rfl, trivial⟩ ⟨rfl, rfl, trivial⟩⟩
        · refine AWR.exit_end rfl ⟨rfl, Ent.of ⟨rfl, rfl, trivial⟩ ⟨rfl, rfl, trivial⟩⟩
    · refine AWR.seq ?_
      refine AWR.region ?_
      refine AOR.pure (LT.move (v := (.s (.c (.loc 21 0 b148.1.length)))) rfl) ⟨rfl, trivial⟩ trivial rfl rfl ?_
      refine AOR.pure (LT.move (v := (.s (.c (.loc 25 0 b148.2.length)))) rfl) ⟨rfl, trivial⟩ trivial rfl rfl ?_
      refine AOR.pure (LT.assign (v := (.s (.c (.loc 21 0 b148.1.length)))) rfl) ⟨rfl, trivial⟩ trivial rfl rfl ?_
      refine AOR.pure (LT.assign (v := (.s (.c (.loc 25 0 b148.2.length)))) rfl) ⟨rfl, trivial⟩ trivial rfl rfl ?_
      refine AOR.nil ?_
      refine AWR.ent (Ent.of (σ' := [(2, (.s (.c (.loc 21 0 b148.1.length)))), (3, (.s (.c (.loc 25 0 b148.2.length))))]) (m' := [(21, (.prow 37 (b148.1.map (encLInt true)))), (25, (.prow 3 (b148.2.map encInt)))]) ⟨rfl, rfl, trivial⟩ ⟨rfl, rfl, trivial⟩) ?_
      refine AWR.ent (Ent.mv 21 0 rfl rfl) ?_
      refine AWR.ent (Ent.mv 25 1 rfl rfl) ?_
      refine AWR.ent (Ent.of (σ' := [(2, (.s (.c (.loc 0 0 b148.1.length)))), (3, (.s (.c (.loc 1 0 b148.2.length))))]) (m' := [(0, (.prow 37 (b148.1.map (encLInt true)))), (1, (.prow 3 (b148.2.map encInt)))]) ⟨rfl, rfl, trivial⟩ ⟨rfl, rfl, trivial⟩) ?_
      refine AWR.ret (FPost.mk (.inr rfl) ⟨rfl, rfl, trivial⟩ ⟨rfl, rfl, trivial⟩ rfl ⟨trivial, trivial, trivial⟩ ⟨PermO.prow' perm_encLInt, PermO.prow' perm_encInt, trivial⟩)
set_option maxRecDepth 100000 in
set_option maxHeartbeats 8000000 in
theorem w_impl_within (x : Int) (lo : Int) (hi : Int) : ∀ t, m_impl_within x lo hi = some t → Fw.Fn Try.prog 119 [(.c (iC x)), (.c (iC lo)), (.c (iC hi))] [] (.s (.c (bC t))) [] [] [] := by
  refine Fw.Fn.of (P := Try.prog) (X := []) (pn := []) (rs := (fun (t : Bool) => [(.c (bC t))])) (dfs := (fun (t : Bool) => [])) Try.func119 rfl Try.ntmps119 (Nat.le_of_ble_eq_true rfl) rfl ?_
  intro w0 U0 R0 g0
  unfold m_impl_within
  refine AWR.seq ?_
  refine AWR.region ?_
  refine AOR.pure (LT.assign (v := (.s (.c (bC false)))) rfl) ⟨⟨rfl, rfl⟩, trivial⟩ trivial rfl rfl ?_
  refine AOR.nil ?_
  refine AWR.seq ?_
  refine AWR.joinK (fun j2 => ([(6, (.s (.c (bC j2))))], [])) ?_ (fun j2 _ => ?_)
  · refine AWR.region ?_
    refine AOR.pure (LT.move (v := (.s (.c (iC x)))) rfl) ⟨rfl, trivial⟩ trivial rfl rfl ?_
    refine AOR.pure (LT.move (v := (.s (.c (iC lo)))) rfl) ⟨rfl, trivial⟩ trivial rfl rfl ?_
    refine AOR.pure (LT.geq rfl) ⟨rfl, rfl, trivial⟩ trivial rfl rfl ?_
    refine AOR.pure (LT.move (v := (.s (.c (bC (decide (lo ≤ x)))))) rfl) ⟨rfl, trivial⟩ trivial rfl rfl ?_
    refine AOR.split (fun hb3 => ?_) (fun hb3 => ?_)
    · refine AOR.pure (LT.move (v := (.s (.c (iC x)))) rfl) ⟨rfl, trivial⟩ trivial ⟨_, rfl, .inl ⟨_, rfl, (by rw [hb3]; rfl)⟩⟩ rfl ?_
      refine AOR.pure (LT.move (v := (.s (.c (iC hi)))) rfl) ⟨rfl, trivial⟩ trivial ⟨_, rfl, .inl ⟨_, rfl, (by rw [hb3]; rfl)⟩⟩ rfl ?_
      refine AOR.pure (LT.leq rfl) ⟨rfl, rfl, trivial⟩ trivial ⟨_, rfl, .inl ⟨_, rfl, (by rw [hb3]; rfl)⟩⟩ rfl ?_
      refine AOR.pure (LT.pickT (v := (.s (.c (bC (decide (x ≤ hi)))))) rfl hb3) ⟨rfl, rfl, trivial⟩ trivial rfl rfl ?_
      refine AOR.pure (LT.assign (v := (.s (.c (bC (decide (x ≤ hi)))))) rfl) ⟨rfl, trivial⟩ trivial rfl rfl ?_
      refine AOR.nil ?_
      refine AWR.nil ⟨rfl, Ent.of ⟨rfl, trivial⟩ trivial⟩
    · refine AOR.skip ⟨_, rfl, .inl ⟨_, rfl, (by rw [hb3]; rfl)⟩⟩ rfl ?_
      refine AOR.skip ⟨_, rfl, .inl ⟨_, rfl, (by rw [hb3]; rfl)⟩⟩ rfl ?_
      refine AOR.skip ⟨_, rfl, .inl ⟨_, rfl, (by rw [hb3]; rfl)⟩⟩ rfl ?_
      refine AOR.pure (LT.pickF (v := (.s (.c (bC false)))) rfl hb3) ⟨rfl, ⟨rfl, rfl⟩, trivial⟩ trivial rfl rfl ?_
      refine AOR.pure (LT.assign (v := (.s (.c (bC false)))) rfl) ⟨rfl, trivial⟩ trivial rfl rfl ?_
      refine AOR.nil ?_
      refine AWR.nil ⟨rfl, Ent.of ⟨rfl, trivial⟩ trivial⟩
  · refine AWR.ret (FPost.mk (.inr rfl) ⟨rfl, trivial⟩ trivial rfl ⟨PermP.sc, trivial⟩ trivial)
set_option maxRecDepth 100000 in
set_option maxHeartbeats 8000000 in
theorem w_impl_compareInts (a : Int) (b : Int) : ∀ t, m_impl_compareInts a b = some t → Fw.Fn Try.prog 203 [(.c (iC a)), (.c (iC b))] [] (.s (.c (iC t))) [] [] [] := by
  refine Fw.Fn.of (P := Try.prog) (X := []) (pn := []) (rs := (fun (t : Int) => [(.c (iC t))])) (dfs := (fun (t : Int) => [])) Try.func203 rfl Try.ntmps203 (Nat.le_of_ble_eq_true rfl) rfl ?_
  intro w0 U0 R0 g0
  unfold m_impl_compareInts
  refine AWR.seq ?_
  refine AWR.region ?_
  refine AOR.pure (LT.assign (v := (.s (.c (iC 0)))) rfl) ⟨⟨rfl, rfl⟩, trivial⟩ trivial rfl rfl ?_
  refine AOR.nil ?_
  refine AWR.seq ?_
  refine AWR.block ?_
  refine AWR.seq ?_
  refine AWR.region ?_
  refine AOR.pure (LT.move (v := (.s (.c (iC a)))) rfl) ⟨rfl, trivial⟩ trivial rfl rfl ?_
  refine AOR.pure (LT.move (v := (.s (.c (iC b)))) rfl) ⟨rfl, trivial⟩ trivial rfl rfl ?_
  refine AOR.pure (LT.lss rfl) ⟨rfl, rfl, trivial⟩ trivial rfl rfl ?_
  refine AOR.pure (LT.assign (v := (.s (.c (bC (decide (a < b)))))) rfl) ⟨rfl, trivial⟩ trivial rfl rfl ?_
  refine AOR.nil ?_
  refine AWR.cond rfl (fun hc1 => ?_) (fun hc1 => ?_)
  · refine AWR.seq ?_
    refine AWR.region ?_
    refine AOR.pure (LT.assign (v := (.s (.c (iC (-1))))) rfl) ⟨⟨rfl, rfl⟩, trivial⟩ trivial rfl rfl ?_
    refine AOR.nil ?_
    refine AWR.ret (FPost.mk (.inr rfl) ⟨rfl, trivial⟩ trivial rfl ⟨PermP.sc, trivial⟩ trivial)
  · refine AWR.seq ?_
    refine AWR.region ?_
    refine AOR.pure (LT.move (v := (.s (.c (iC a)))) rfl) ⟨rfl, trivial⟩ trivial rfl rfl ?_
    refine AOR.pure (LT.move (v := (.s (.c (iC b)))) rfl) ⟨rfl, trivial⟩ trivial rfl rfl ?_
    refine AOR.pure (LT.gtr rfl) ⟨rfl, rfl, trivial⟩ trivial rfl rfl ?_
    refine AOR.pure (LT.assign (v := (.s (.c (bC (decide (b < a)))))) rfl) ⟨rfl, trivial⟩ trivial rfl rfl ?_
    refine AOR.nil ?_
    refine AWR.cond rfl (fun hc2 => ?_) (fun hc2 => ?_)
    · refine AWR.seq ?_
      refine AWR.region ?_
      refine AOR.pure (LT.assign (v := (.s (.c (iC 1)))) rfl) ⟨⟨rfl, rfl⟩, trivial⟩ trivial rfl rfl ?_
      refine AOR.nil ?_
      refine AWR.ret (FPost.mk (.inr rfl) ⟨rfl, trivial⟩ trivial rfl ⟨PermP.sc, trivial⟩ trivial)
    · refine AWR.skip ?_
      refine AWR.blk ?_
      refine AWR.seq ?_
      refine AWR.region ?_
      refine AOR.pure (LT.assign (v := (.s (.c (iC 0)))) rfl) ⟨⟨rfl, rfl⟩, trivial⟩ trivial rfl rfl ?_
      refine AOR.nil ?_
      refine AWR.ret (FPost.mk (.inr rfl) ⟨rfl, trivial⟩ trivial rfl ⟨PermP.sc, trivial⟩ trivial)
set_option maxRecDepth 100000 in
set_option maxHeartbeats 8000000 in
theorem w_impl_compareBars (x : TBar) (y : TBar) : ∀ t, m_impl_compareBars x y = some t → Fw.Fn Try.prog 187 [(.agg [(iC x.A), (iC x.B)]), (.agg [(iC y.A), (iC y.B)])] [] (.s (.c (iC t))) [] [] [] := by
  refine Fw.Fn.of (P := Try.prog) (X := []) (pn := []) (rs := (fun (t : Int) => [(.c (iC t))])) (dfs := (fun (t : Int) => [])) Try.func187 rfl Try.ntmps187 (Nat.le_of_ble_eq_true rfl) rfl ?_
  intro w0 U0 R0 g0
  unfold m_impl_compareBars
  refine AWR.seq ?_
  refine AWR.region ?_
  refine AOR.step (LT.box (n := 21) (v := (.agg [(iC x.A), (iC x.B)])) rfl sz79 (by exact rfl)) ⟨rfl, trivial⟩ trivial rfl rfl ?_
  refine AOR.step (LT.box (n := 22) (v := (.agg [(iC y.A), (iC y.B)])) rfl sz79 (by exact rfl)) ⟨rfl, trivial⟩ trivial rfl rfl ?_
  refine AOR.pure (LT.assign (v := (.s (.c (iC 0)))) rfl) ⟨⟨rfl, rfl⟩, trivial⟩ trivial rfl rfl ?_
  refine AOR.nil ?_
  refine AWR.seq ?_
  refine AWR.seq ?_
  refine AWR.region ?_
  refine AOR.pure (LT.fieldPl rfl fo79_0) ⟨rfl, trivial⟩ trivial rfl rfl ?_
  refine AOR.pure (LT.bload1 (c := (iC x.A)) rfl ag3 (by exact rfl)) ⟨rfl, trivial⟩ ⟨rfl, trivial⟩ rfl rfl ?_
  refine AOR.pure (LT.fieldPl rfl fo79_0) ⟨rfl, trivial⟩ trivial rfl rfl ?_
  refine AOR.pure (LT.bload1 (c := (iC y.A)) rfl ag3 (by exact rfl)) ⟨rfl, trivial⟩ ⟨rfl, trivial⟩ rfl rfl ?_
  refine AOR.bind fun r1 hr1 => ?_
  refine AOR.pure (@LT.callF Try.prog _ _ 203 _ _ [(.c (iC x.A)), (.c (iC y.A))] _ _ [] _ _ _ _ (w_impl_compareInts x.A y.A r1 hr1) rfl cb203 (.cons (.c (.same rfl)) (.cons (.c (.same rfl)) .nil)) rfl rfl trivial) ⟨rfl, rfl, rfl, trivial⟩ trivial rfl rfl ?_
  refine AOR.pure (LT.assign (v := (.s (.c (iC r1)))) rfl) ⟨rfl, trivial⟩ trivial rfl rfl ?_
  refine AOR.nil ?_
  refine AWR.seq ?_
  refine AWR.ent (Ent.of (σ' := [(2, (.s (.c (.pl 21 0)))), (3, (.s (.c (.pl 22 0)))), (5, (.s (.c (iC r1))))]) (m' := [(21, (.row 79 [[(iC x.A), (iC x.B)]])), (22, (.row 79 [[(iC y.A), (iC y.B)]]))]) ⟨rfl, rfl, rfl, trivial⟩ ⟨rfl, rfl, trivial⟩) ?_
  refine AWR.region ?_
  refine AOR.pure (LT.move (v := (.s (.c (iC r1)))) rfl) ⟨rfl, trivial⟩ trivial rfl rfl ?_
  refine AOR.pure (LT.neq rfl) ⟨rfl, ⟨rfl, rfl⟩, trivial⟩ trivial rfl rfl ?_
  refine AOR.nil ?_
  refine AWR.cond rfl (fun hc2 => ?_) (fun hc2 => ?_)
  · refine AWR.seq ?_
    refine AWR.region ?_
    refine AOR.pure (LT.move (v := (.s (.c (iC r1)))) rfl) ⟨rfl, trivial⟩ trivial rfl rfl ?_
    refine AOR.pure (LT.assign (v := (.s (.c (iC r1)))) rfl) ⟨rfl, trivial⟩ trivial rfl rfl ?_
    refine AOR.nil ?_
    refine AWR.ret (FPost.mk (.inr rfl) ⟨rfl, trivial⟩ trivial rfl ⟨PermP.sc, trivial⟩ trivial)
  · refine AWR.skip ?_
    refine AWR.seq ?_
    refine AWR.region ?_
    refine AOR.pure (LT.fieldPl rfl fo79_1) ⟨rfl, trivial⟩ trivial rfl rfl ?_
    refine AOR.pure (LT.bload1 (c := (iC x.B)) rfl ag3 (by exact rfl)) ⟨rfl, trivial⟩ ⟨rfl, trivial⟩ rfl rfl ?_
    refine AOR.pure (LT.fieldPl rfl fo79_1) ⟨rfl, trivial⟩ trivial rfl rfl ?_
    refine AOR.pure (LT.bload1 (c := (iC y.B)) rfl ag3 (by exact rfl)) ⟨rfl, trivial⟩ ⟨rfl, trivial⟩ rfl rfl ?_
    refine AOR.bind fun r3 hr3 => ?_
    refine AOR.pure (@LT.callF Try.prog _ _ 203 _ _ [(.c (iC x.B)), (.c (iC y.B))] _ _ [] _ _ _ _ (w_impl_compareInts x.B y.B r3 hr3) rfl cb203 (.cons (.c (.same rfl)) (.cons (.c (.same rfl)) .nil)) rfl rfl trivial) ⟨rfl, rfl, rfl, trivial⟩ trivial rfl rfl ?_
    refine AOR.pure (LT.assign (v := (.s (.c (iC r3)))) rfl) ⟨rfl, trivial⟩ trivial rfl rfl ?_
    refine AOR.nil ?_
    refine AWR.ret (FPost.mk (.inr rfl) ⟨rfl, trivial⟩ trivial rfl ⟨PermP.sc, trivial⟩ trivial)
set_option maxRecDepth 100000 in
set_option maxHeartbeats 8000000 in
theorem w_impl_IsGraph (g : TGraph) : ∀ t, m_impl_IsGraph g = some t → Fw.Fn Try.prog 154 [(.agg [(iC g.Points), (.pv (.xs false (g.Bars.map encTBar)))])] [] (.s (.c (bC t))) [] [] [] := by
  refine Fw.Fn.of (P := Try.prog) (X := []) (pn := []) (rs := (fun (t : Bool) => [(.c (bC t))])) (dfs := (fun (t : Bool) => [])) Try.func154 rfl Try.ntmps154 (Nat.le_of_ble_eq_true rfl) rfl ?_
  intro w0 U0 R0 g0
  unfold m_impl_IsGraph
  refine AWR.seq ?_
  refine AWR.region ?_
  refine AOR.step (LT.box (n := 21) (v := (.agg [(iC g.Points), (.pv (.xs false (g.Bars.map encTBar)))])) rfl sz26 (by exact rfl)) ⟨rfl, trivial⟩ trivial rfl rfl ?_
  refine AOR.pure (LT.assign (v := (.s (.c (bC false)))) rfl) ⟨⟨rfl, rfl⟩, trivial⟩ trivial rfl rfl ?_
  refine AOR.nil ?_
  refine AWR.seq ?_
  refine AWR.seq ?_
  refine AWR.joinK (fun j3 => ([(1, (.s (.c (.pl 21 0)))), (14, (.s (.c (bC j3))))], [(21, (.row 26 [[(iC g.Points), (.pv (.xs false (g.Bars.map encTBar)))]]))])) ?_ (fun j3 _ => ?_)
  · refine AWR.region ?_
    refine AOR.pure (LT.fieldPl rfl fo26_0) ⟨rfl, trivial⟩ trivial rfl rfl ?_
    refine AOR.pure (LT.bload1 (c := (iC g.Points)) rfl ag3 (by exact rfl)) ⟨rfl, trivial⟩ ⟨rfl, trivial⟩ rfl rfl ?_
    refine AOR.bind fun r4 hr4 => ?_
    refine AOR.pure (@LT.callF Try.prog _ _ 119 _ _ [(.c (iC g.Points)), (.c (iC 1)), (.c (iC 8))] _ _ [] _ _ _ _ (w_impl_within g.Points 1 8 r4 hr4) rfl cb119 (.cons (.c (.same rfl)) (.cons (.c (.same rfl)) (.cons (.c (.same rfl)) .nil))) rfl rfl trivial) ⟨rfl, rfl, ⟨rfl, rfl⟩, ⟨rfl, rfl⟩, trivial⟩ trivial rfl rfl ?_
    refine AOR.pure (LT.not rfl) ⟨rfl, trivial⟩ trivial rfl rfl ?_
    refine AOR.pure (LT.move (v := (.s (.c (bC (!r4))))) rfl) ⟨rfl, trivial⟩ trivial rfl rfl ?_
    refine AOR.split (fun hb5 => ?_) (fun hb5 => ?_)
    · refine AOR.skip ⟨_, rfl, .inl ⟨_, rfl, (by rw [hb5]; rfl)⟩⟩ rfl ?_
      refine AOR.skip ⟨_, rfl, .inl ⟨_, rfl, (by rw [hb5]; rfl)⟩⟩ rfl ?_
      refine AOR.skip ⟨_, rfl, .inl ⟨_, rfl, (by rw [hb5]; rfl)⟩⟩ rfl ?_
      refine AOR.skip ⟨_, rfl, .inl ⟨_, rfl, (by rw [hb5]; rfl)⟩⟩ rfl ?_
      refine AOR.pure (LT.pickT (v := (.s (.c (bC true)))) rfl hb5) ⟨rfl, ⟨rfl, rfl⟩, trivial⟩ trivial rfl rfl ?_
      refine AOR.nil ?_
      refine AWR.nil ⟨rfl, Ent.of ⟨rfl, rfl, trivial⟩ ⟨rfl, trivial⟩⟩
    · refine AOR.pure (LT.fieldPl rfl fo26_1) ⟨rfl, trivial⟩ trivial ⟨_, rfl, .inl ⟨_, rfl, (by rw [hb5]; rfl)⟩⟩ rfl ?_
      refine AOR.pure (LT.bload1 (c := (.pv (.xs false (g.Bars.map encTBar)))) rfl ag24 (by exact rfl)) ⟨rfl, trivial⟩ ⟨rfl, trivial⟩ ⟨_, rfl, .inl ⟨_, rfl, (by rw [hb5]; rfl)⟩⟩ rfl ?_
      refine AOR.pure (LT.tlenRO rfl und24) ⟨rfl, trivial⟩ trivial ⟨_, rfl, .inl ⟨_, rfl, (by rw [hb5]; rfl)⟩⟩ rfl ?_
      refine AOR.pure (LT.gtr rfl) ⟨rfl, ⟨rfl, rfl⟩, trivial⟩ trivial ⟨_, rfl, .inl ⟨_, rfl, (by rw [hb5]; rfl)⟩⟩ rfl ?_
      refine AOR.pure (LT.pickF (v := (.s (.c (bC (decide (24 < (g.Bars.length : Int))))))) rfl hb5) ⟨rfl, rfl, trivial⟩ trivial rfl rfl ?_
      refine AOR.nil ?_
      refine AWR.nil ⟨rfl, Ent.of ⟨rfl, rfl, trivial⟩ ⟨rfl, trivial⟩⟩
  · refine AWR.cond rfl (fun hc6 => ?_) (fun hc6 => ?_)
    · refine AWR.seq ?_
      refine AWR.region ?_
      refine AOR.pure (LT.assign (v := (.s (.c (bC false)))) rfl) ⟨⟨rfl, rfl⟩, trivial⟩ trivial rfl rfl ?_
      refine AOR.nil ?_
      refine AWR.ret (FPost.mk (.inr rfl) ⟨rfl, trivial⟩ trivial rfl ⟨PermP.sc, trivial⟩ trivial)
    · refine AWR.skip ?_
      refine AWR.seq ?_
      refine AWR.seq ?_
      refine AWR.region ?_
      refine AOR.pure (LT.fieldPl rfl fo26_1) ⟨rfl, trivial⟩ trivial rfl rfl ?_
      refine AOR.pure (LT.bload1 (c := (.pv (.xs false (g.Bars.map encTBar)))) rfl ag24 (by exact rfl)) ⟨rfl, trivial⟩ ⟨rfl, trivial⟩ rfl rfl ?_
      refine AOR.pure (LT.tlenRO rfl und24) ⟨rfl, trivial⟩ trivial rfl rfl ?_
      refine AOR.pure (LT.move (v := (.s (.c (iC 0)))) rfl) ⟨⟨rfl, rfl⟩, trivial⟩ trivial rfl rfl ?_
      refine AOR.nil ?_
      refine AWR.block ?_
      refine AWR.loopR (id := 0) (m_impl_IsGraph_L1 g) (fun s7 => ([(1, (.s (.c (.pl 21 0)))), (16, (.s (.c (.pv (.xs false (g.Bars.map encTBar)))))), (17, (.s (.c (iC (g.Bars.length : Int))))), (18, (.s (.c (iC s7))))], [(21, (.row 26 [[(iC g.Points), (.pv (.xs false (g.Bars.map encTBar)))]]))])) (fun b40 => ([], [])) (FPost Try.prog Try.f154.results.toList [] [] (fun (t : Bool) => [(.c (bC t))]) (fun (t : Bool) => [])) ?_ (Ent.of ⟨rfl, rfl, rfl, rfl, trivial⟩ ⟨rfl, trivial⟩) rfl (fun b40 _ => ?_) (by intro r t σ m ht hk; injection ht with ht; subst ht; exact hk)
      · intro s7
        unfold m_impl_IsGraph_L1
        refine AWR.seq ?_
        refine AWR.region ?_
        refine AOR.pure (LT.lss rfl) ⟨rfl, rfl, trivial⟩ trivial rfl rfl ?_
        refine AOR.nil ?_
        refine AWR.seq ?_
        refine AWR.cond rfl (fun hc41 => ?_) (fun hc41 => ?_)
        · refine AWR.skip ?_
          refine AWR.seq ?_
          refine AWR.block ?_
          refine AWR.seq ?_
          refine AWR.region ?_
          refine AOR.pure (LT.move (v := (.s (.c (iC s7)))) rfl) ⟨rfl, trivial⟩ trivial rfl rfl ?_
          refine AOR.bind fun x42 hx42 => ?_
          refine AOR.pure (LT.tindexRO (enc := encTBar) rfl el24 hx42 sz79) ⟨rfl, rfl, trivial⟩ trivial rfl rfl ?_
          refine AOR.pure (LT.loadPxN rfl ag79 (infS inf79) (by exact sz79.symm)) ⟨rfl, trivial⟩ trivial rfl rfl ?_
          refine AOR.step (LT.alloc (n := 23) (cells := [(iC 0), (iC 0)]) rfl ti79 rfl rfl rfl) trivial trivial rfl rfl ?_
          refine AOR.pure (LT.assign (v := (.s (.c (iC s7)))) rfl) ⟨rfl, trivial⟩ trivial rfl rfl ?_
          refine AOR.step (LT.bstore (v := (.agg [(iC x42.A), (iC x42.B)])) (out := [(iC x42.A), (iC x42.B)]) rfl rfl (infS inf79) sz79 (by exact rfl) (by exact Nat.le_of_ble_eq_true rfl) (by exact rfl)) ⟨rfl, rfl, trivial⟩ ⟨rfl, trivial⟩ rfl rfl ?_
          refine AOR.nil ?_
          refine AWR.seq ?_
          refine AWR.joinK (fun j49 => ([(1, (.s (.c (.pl 21 0)))), (16, (.s (.c (.pv (.xs false (g.Bars.map encTBar)))))), (17, (.s (.c (iC (g.Bars.length : Int))))), (18, (.s (.c (iC s7)))), (54, (.s (.c (bC j49))))], [(21, (.row 26 [[(iC g.Points), (.pv (.xs false (g.Bars.map encTBar)))]]))])) ?_ (fun j49 _ => ?_)
          · refine AWR.ent (Ent.of (σ' := [(1, (.s (.c (.pl 21 0)))), (3, (.s (.c (iC s7)))), (4, (.s (.c (.pl 23 0)))), (16, (.s (.c (.pv (.xs false (g.Bars.map encTBar)))))), (17, (.s (.c (iC (g.Bars.length : Int))))), (18, (.s (.c (iC s7))))]) (m' := [(21, (.row 26 [[(iC g.Points), (.pv (.xs false (g.Bars.map encTBar)))]])), (23, (.row 79 [[(iC x42.A), (iC x42.B)]]))]) ⟨rfl, rfl, rfl, rfl, rfl, rfl, trivial⟩ ⟨rfl, rfl, trivial⟩) ?_
            refine AWR.draw mixed ?_
            refine AOD.pure (LT.fieldPl rfl fo79_0) ⟨rfl, trivial⟩ trivial rfl rfl ?_
            refine AOD.pure (LT.bload1 (c := (iC x42.A)) rfl ag3 (by exact rfl)) ⟨rfl, trivial⟩ ⟨rfl, trivial⟩ rfl rfl ?_
            refine AOD.pure (LT.lss rfl) ⟨rfl, ⟨rfl, rfl⟩, trivial⟩ trivial rfl rfl ?_
            refine AOD.pure (LT.move (v := (.s (.c (bC (decide (x42.A < 0)))))) rfl) ⟨rfl, trivial⟩ trivial rfl rfl ?_
            refine AOD.split (fun hb50 => ?_) (fun hb50 => ?_)
            · refine AOD.skip ⟨_, rfl, .inl ⟨_, rfl, (by rw [hb50]; rfl)⟩⟩ rfl ?_
              refine AOD.skip ⟨_, rfl, .inl ⟨_, rfl, (by rw [hb50]; rfl)⟩⟩ rfl ?_
              refine AOD.skip ⟨_, rfl, .inl ⟨_, rfl, (by rw [hb50]; rfl)⟩⟩ rfl ?_
              refine AOD.skip ⟨_, rfl, .inl ⟨_, rfl, (by rw [hb50]; rfl)⟩⟩ rfl ?_
              refine AOD.skip ⟨_, rfl, .inl ⟨_, rfl, (by rw [hb50]; rfl)⟩⟩ rfl ?_
              refine AOD.pure (LT.pickT (v := (.s (.c (bC true)))) rfl hb50) ⟨rfl, ⟨rfl, rfl⟩, trivial⟩ trivial rfl rfl ?_
              refine AOD.pure (LT.move (v := (.s (.c (bC true)))) rfl) ⟨rfl, trivial⟩ trivial rfl rfl ?_
              refine AOD.skip ⟨_, rfl, .inl ⟨_, rfl, rfl⟩⟩ rfl ?_
              refine AOD.skip ⟨_, rfl, .inl ⟨_, rfl, rfl⟩⟩ rfl ?_
              refine AOD.skip ⟨_, rfl, .inl ⟨_, rfl, rfl⟩⟩ rfl ?_
              refine AOD.skip ⟨_, rfl, .inl ⟨_, rfl, rfl⟩⟩ rfl ?_
              refine AOD.skip ⟨_, rfl, .inl ⟨_, rfl, rfl⟩⟩ rfl ?_
              refine AOD.pure (LT.pickT (v := (.s (.c (bC true)))) rfl rfl) ⟨rfl, ⟨rfl, rfl⟩, trivial⟩ trivial rfl rfl ?_
              refine AOD.pure (LT.move (v := (.s (.c (bC true)))) rfl) ⟨rfl, trivial⟩ trivial rfl rfl ?_
              refine AOD.skip ⟨_, rfl, .inl ⟨_, rfl, rfl⟩⟩ rfl ?_
              refine AOD.skip ⟨_, rfl, .inl ⟨_, rfl, rfl⟩⟩ rfl ?_
              refine AOD.skip ⟨_, rfl, .inl ⟨_, rfl, rfl⟩⟩ rfl ?_
              refine AOD.skip ⟨_, rfl, .inr ⟨rfl, rfl⟩⟩ rfl ?_
              refine AOD.skip ⟨_, rfl, .inr ⟨rfl, rfl⟩⟩ rfl ?_
              refine AOD.skip ⟨_, rfl, .inr ⟨rfl, rfl⟩⟩ rfl ?_
              refine AOD.skip ⟨_, rfl, .inr ⟨rfl, rfl⟩⟩ rfl ?_
              refine AOD.skip ⟨_, rfl, .inr ⟨rfl, rfl⟩⟩ rfl ?_
              refine AOD.skip ⟨_, rfl, .inr ⟨rfl, rfl⟩⟩ rfl ?_
              refine AOD.skip ⟨_, rfl, .inr ⟨rfl, rfl⟩⟩ rfl ?_
              refine AOD.skip ⟨_, rfl, .inr ⟨rfl, rfl⟩⟩ rfl ?_
              refine AOD.skip ⟨_, rfl, .inr ⟨rfl, rfl⟩⟩ rfl ?_
              refine AOD.skip ⟨_, rfl, .inl ⟨_, rfl, rfl⟩⟩ rfl ?_
              refine AOD.pure (LT.pickT (v := (.s (.c (bC true)))) rfl rfl) ⟨rfl, ⟨rfl, rfl⟩, trivial⟩ trivial rfl rfl ?_
              refine AOD.nil (by kernel_rfl) ?_
              refine AWR.nil ⟨rfl, Ent.of ⟨rfl, rfl, rfl, rfl, rfl, trivial⟩ ⟨rfl, trivial⟩⟩
            · refine AOD.pure (LT.fieldPl rfl fo79_0) ⟨rfl, trivial⟩ trivial ⟨_, rfl, .inl ⟨_, rfl, (by rw [hb50]; rfl)⟩⟩ rfl ?_
              refine AOD.pure (LT.bload1 (c := (iC x42.A)) rfl ag3 (by exact rfl)) ⟨rfl, trivial⟩ ⟨rfl, trivial⟩ ⟨_, rfl, .inl ⟨_, rfl, (by rw [hb50]; rfl)⟩⟩ rfl ?_
              refine AOD.pure (LT.fieldPl rfl fo79_1) ⟨rfl, trivial⟩ trivial ⟨_, rfl, .inl ⟨_, rfl, (by rw [hb50]; rfl)⟩⟩ rfl ?_
              refine AOD.pure (LT.bload1 (c := (iC x42.B)) rfl ag3 (by exact rfl)) ⟨rfl, trivial⟩ ⟨rfl, trivial⟩ ⟨_, rfl, .inl ⟨_, rfl, (by rw [hb50]; rfl)⟩⟩ rfl ?_
              refine AOD.pure (LT.geq rfl) ⟨rfl, rfl, trivial⟩ trivial ⟨_, rfl, .inl ⟨_, rfl, (by rw [hb50]; rfl)⟩⟩ rfl ?_
              refine AOD.pure (LT.pickF (v := (.s (.c (bC (decide (x42.B ≤ x42.A)))))) rfl hb50) ⟨rfl, rfl, trivial⟩ trivial rfl rfl ?_
              refine AOD.pure (LT.move (v := (.s (.c (bC (decide (x42.B ≤ x42.A)))))) rfl) ⟨rfl, trivial⟩ trivial rfl rfl ?_
              refine AOD.split (fun hb51 => ?_) (fun hb51 => ?_)
              · refine AOD.skip ⟨_, rfl, .inl ⟨_, rfl, (by rw [hb51]; rfl)⟩⟩ rfl ?_
                refine AOD.skip ⟨_, rfl, .inl ⟨_, rfl, (by rw [hb51]; rfl)⟩⟩ rfl ?_
                refine AOD.skip ⟨_, rfl, .inl ⟨_, rfl, (by rw [hb51]; rfl)⟩⟩ rfl ?_
                refine AOD.skip ⟨_, rfl, .inl ⟨_, rfl, (by rw [hb51]; rfl)⟩⟩ rfl ?_
                refine AOD.skip ⟨_, rfl, .inl ⟨_, rfl, (by rw [hb51]; rfl)⟩⟩ rfl ?_
                refine AOD.pure (LT.pickT (v := (.s (.c (bC true)))) rfl hb51) ⟨rfl, ⟨rfl, rfl⟩, trivial⟩ trivial rfl rfl ?_
                refine AOD.pure (LT.move (v := (.s (.c (bC true)))) rfl) ⟨rfl, trivial⟩ trivial rfl rfl ?_
                refine AOD.skip ⟨_, rfl, .inl ⟨_, rfl, rfl⟩⟩ rfl ?_
                refine AOD.skip ⟨_, rfl, .inl ⟨_, rfl, rfl⟩⟩ rfl ?_
                refine AOD.skip ⟨_, rfl, .inl ⟨_, rfl, rfl⟩⟩ rfl ?_
                refine AOD.skip ⟨_, rfl, .inr ⟨rfl, rfl⟩⟩ rfl ?_
                refine AOD.skip ⟨_, rfl, .inr ⟨rfl, rfl⟩⟩ rfl ?_
                refine AOD.skip ⟨_, rfl, .inr ⟨rfl, rfl⟩⟩ rfl ?_
                refine AOD.skip ⟨_, rfl, .inr ⟨rfl, rfl⟩⟩ rfl ?_
                refine AOD.skip ⟨_, rfl, .inr ⟨rfl, rfl⟩⟩ rfl ?_
                refine AOD.skip ⟨_, rfl, .inr ⟨rfl, rfl⟩⟩ rfl ?_
                refine AOD.skip ⟨_, rfl, .inr ⟨rfl, rfl⟩⟩ rfl ?_
                refine AOD.skip ⟨_, rfl, .inr ⟨rfl, rfl⟩⟩ rfl ?_
                refine AOD.skip ⟨_, rfl, .inr ⟨rfl, rfl⟩⟩ rfl ?_
                refine AOD.skip ⟨_, rfl, .inl ⟨_, rfl, rfl⟩⟩ rfl ?_
                refine AOD.pure (LT.pickT (v := (.s (.c (bC true)))) rfl rfl) ⟨rfl, ⟨rfl, rfl⟩, trivial⟩ trivial rfl rfl ?_
                refine AOD.nil (by kernel_rfl) ?_
                refine AWR.nil ⟨rfl, Ent.of ⟨rfl, rfl, rfl, rfl, rfl, trivial⟩ ⟨rfl, trivial⟩⟩
              · refine AOD.pure (LT.fieldPl rfl fo79_1) ⟨rfl, trivial⟩ trivial ⟨_, rfl, .inl ⟨_, rfl, (by rw [hb51]; rfl)⟩⟩ rfl ?_
                refine AOD.pure (LT.bload1 (c := (iC x42.B)) rfl ag3 (by exact rfl)) ⟨rfl, trivial⟩ ⟨rfl, trivial⟩ ⟨_, rfl, .inl ⟨_, rfl, (by rw [hb51]; rfl)⟩⟩ rfl ?_
                refine AOD.pure (LT.fieldPl rfl fo26_0) ⟨rfl, trivial⟩ trivial ⟨_, rfl, .inl ⟨_, rfl, (by rw [hb51]; rfl)⟩⟩ rfl ?_
                refine AOD.pure (LT.bload1 (c := (iC g.Points)) rfl ag3 (by exact rfl)) ⟨rfl, trivial⟩ ⟨rfl, trivial⟩ ⟨_, rfl, .inl ⟨_, rfl, (by rw [hb51]; rfl)⟩⟩ rfl ?_
                refine AOD.pure (LT.geq rfl) ⟨rfl, rfl, trivial⟩ trivial ⟨_, rfl, .inl ⟨_, rfl, (by rw [hb51]; rfl)⟩⟩ rfl ?_
                refine AOD.pure (LT.pickF (v := (.s (.c (bC (decide (g.Points ≤ x42.B)))))) rfl hb51) ⟨rfl, rfl, trivial⟩ trivial rfl rfl ?_
                refine AOD.pure (LT.move (v := (.s (.c (bC (decide (g.Points ≤ x42.B)))))) rfl) ⟨rfl, trivial⟩ trivial rfl rfl ?_
                refine AOD.split (fun hb52 => ?_) (fun hb52 => ?_)
                · refine AOD.skip ⟨_, rfl, .inl ⟨_, rfl, (by rw [hb52]; rfl)⟩⟩ rfl ?_
                  refine AOD.skip ⟨_, rfl, .inl ⟨_, rfl, (by rw [hb52]; rfl)⟩⟩ rfl ?_
                  refine AOD.skip ⟨_, rfl, .inl ⟨_, rfl, (by rw [hb52]; rfl)⟩⟩ rfl ?_
                  refine AOD.skip ⟨_, rfl, .inr ⟨rfl, rfl⟩⟩ rfl ?_
                  refine AOD.skip ⟨_, rfl, .inr ⟨rfl, rfl⟩⟩ rfl ?_
                  refine AOD.skip ⟨_, rfl, .inr ⟨rfl, rfl⟩⟩ rfl ?_
                  refine AOD.skip ⟨_, rfl, .inr ⟨rfl, rfl⟩⟩ rfl ?_
                  refine AOD.skip ⟨_, rfl, .inr ⟨rfl, rfl⟩⟩ rfl ?_
                  refine AOD.skip ⟨_, rfl, .inr ⟨rfl, rfl⟩⟩ rfl ?_
                  refine AOD.skip ⟨_, rfl, .inr ⟨rfl, rfl⟩⟩ rfl ?_
                  refine AOD.skip ⟨_, rfl, .inr ⟨rfl, rfl⟩⟩ rfl ?_
                  refine AOD.skip ⟨_, rfl, .inr ⟨rfl, rfl⟩⟩ rfl ?_
                  refine AOD.skip ⟨_, rfl, .inl ⟨_, rfl, (by rw [hb52]; rfl)⟩⟩ rfl ?_
                  refine AOD.pure (LT.pickT (v := (.s (.c (bC true)))) rfl hb52) ⟨rfl, ⟨rfl, rfl⟩, trivial⟩ trivial rfl rfl ?_
                  refine AOD.nil (by kernel_rfl) ?_
                  refine AWR.nil ⟨rfl, Ent.of ⟨rfl, rfl, rfl, rfl, rfl, trivial⟩ ⟨rfl, trivial⟩⟩
                · refine AOD.pure (LT.move (v := (.s (.c (iC s7)))) rfl) ⟨rfl, trivial⟩ trivial ⟨_, rfl, .inl ⟨_, rfl, (by rw [hb52]; rfl)⟩⟩ rfl ?_
                  refine AOD.pure (LT.gtr rfl) ⟨rfl, ⟨rfl, rfl⟩, trivial⟩ trivial ⟨_, rfl, .inl ⟨_, rfl, (by rw [hb52]; rfl)⟩⟩ rfl ?_
                  refine AOD.pure (LT.move (v := (.s (.c (bC (decide (0 < s7)))))) rfl) ⟨rfl, trivial⟩ trivial ⟨_, rfl, .inl ⟨_, rfl, (by rw [hb52]; rfl)⟩⟩ rfl ?_
                  refine AOD.split (fun hb53 => ?_) (fun hb53 => ?_)
                  · refine AOD.pure (LT.fieldPl rfl fo26_1) ⟨rfl, trivial⟩ trivial ⟨_, rfl, .inl ⟨_, rfl, (by rw [hb53]; rfl)⟩⟩ rfl ?_
                    refine AOD.pure (LT.bload1 (c := (.pv (.xs false (g.Bars.map encTBar)))) rfl ag24 (by exact rfl)) ⟨rfl, trivial⟩ ⟨rfl, trivial⟩ ⟨_, rfl, .inl ⟨_, rfl, (by rw [hb53]; rfl)⟩⟩ rfl ?_
                    refine AOD.pure (LT.move (v := (.s (.c (iC s7)))) rfl) ⟨rfl, trivial⟩ trivial ⟨_, rfl, .inl ⟨_, rfl, (by rw [hb53]; rfl)⟩⟩ rfl ?_
                    refine AOD.pure (LT.sub rfl) ⟨rfl, ⟨rfl, rfl⟩, trivial⟩ trivial ⟨_, rfl, .inl ⟨_, rfl, (by rw [hb53]; rfl)⟩⟩ rfl ?_
                    refine AOD.bind fun x54 hx54 => ?_
                    refine AOD.pure (LT.tindexRO (enc := encTBar) rfl el24 hx54 sz79) ⟨rfl, rfl, trivial⟩ trivial ⟨_, rfl, .inl ⟨_, rfl, (by rw [hb53]; rfl)⟩⟩ rfl ?_
                    refine AOD.pure (LT.loadPxN rfl ag79 (infS inf79) (by exact sz79.symm)) ⟨rfl, trivial⟩ trivial ⟨_, rfl, .inl ⟨_, rfl, (by rw [hb53]; rfl)⟩⟩ rfl ?_
                    refine AOD.pure (LT.bloadN (out := [(iC x42.A), (iC x42.B)]) rfl ag79 (infS inf79) sz79 (by exact rfl) (by exact rfl)) ⟨rfl, trivial⟩ ⟨rfl, trivial⟩ ⟨_, rfl, .inl ⟨_, rfl, (by rw [hb53]; rfl)⟩⟩ rfl ?_
                    refine AOD.bind fun r55 hr55 => ?_
                    refine AOD.pure (@LT.callF Try.prog _ _ 187 _ _ [(.agg [(iC x54.A), (iC x54.B)]), (.agg [(iC x42.A), (iC x42.B)])] _ _ [] _ _ _ _ (w_impl_compareBars x54 x42 r55 hr55) rfl cb187 (.cons (.agg (.cons (.same rfl) (.cons (.same rfl) .nil))) (.cons (.agg (.cons (.same rfl) (.cons (.same rfl) .nil))) .nil)) rfl rfl trivial) ⟨rfl, rfl, rfl, trivial⟩ trivial ⟨_, rfl, .inl ⟨_, rfl, (by rw [hb53]; rfl)⟩⟩ rfl ?_
                    refine AOD.pure (LT.gtr rfl) ⟨rfl, ⟨rfl, rfl⟩, trivial⟩ trivial ⟨_, rfl, .inl ⟨_, rfl, (by rw [hb53]; rfl)⟩⟩ rfl ?_
                    refine AOD.pure (LT.pickT (v := (.s (.c (bC (decide (0 < r55)))))) rfl hb53) ⟨rfl, rfl, trivial⟩ trivial ⟨_, rfl, .inl ⟨_, rfl, (by rw [hb52]; rfl)⟩⟩ rfl ?_
                    refine AOD.pure (LT.pickF (v := (.s (.c (bC (decide (0 < r55)))))) rfl hb52) ⟨rfl, rfl, trivial⟩ trivial rfl rfl ?_
                    refine AOD.nil (by kernel_rfl) ?_
                    refine AWR.nil ⟨rfl, Ent.of ⟨rfl, rfl, rfl, rfl, rfl, trivial⟩ ⟨rfl, trivial⟩⟩
                  · refine AOD.skip ⟨_, rfl, .inl ⟨_, rfl, (by rw [hb53]; rfl)⟩⟩ rfl ?_
                    refine AOD.skip ⟨_, rfl, .inl ⟨_, rfl, (by rw [hb53]; rfl)⟩⟩ rfl ?_
                    refine AOD.skip ⟨_, rfl, .inl ⟨_, rfl, (by rw [hb53]; rfl)⟩⟩ rfl ?_
                    refine AOD.skip ⟨_, rfl, .inl ⟨_, rfl, (by rw [hb53]; rfl)⟩⟩ rfl ?_
                    refine AOD.skip ⟨_, rfl, .inl ⟨_, rfl, (by rw [hb53]; rfl)⟩⟩ rfl ?_
                    refine AOD.skip ⟨_, rfl, .inl ⟨_, rfl, (by rw [hb53]; rfl)⟩⟩ rfl ?_
                    refine AOD.skip ⟨_, rfl, .inl ⟨_, rfl, (by rw [hb53]; rfl)⟩⟩ rfl ?_
                    refine AOD.skip ⟨_, rfl, .inl ⟨_, rfl, (by rw [hb53]; rfl)⟩⟩ rfl ?_
                    refine AOD.skip ⟨_, rfl, .inl ⟨_, rfl, (by rw [hb53]; rfl)⟩⟩ rfl ?_
                    refine AOD.pure (LT.pickF (v := (.s (.c (bC false)))) rfl hb53) ⟨rfl, ⟨rfl, rfl⟩, trivial⟩ trivial ⟨_, rfl, .inl ⟨_, rfl, (by rw [hb52]; rfl)⟩⟩ rfl ?_
                    refine AOD.pure (LT.pickF (v := (.s (.c (bC false)))) rfl hb52) ⟨rfl, rfl, trivial⟩ trivial rfl rfl ?_
                    refine AOD.nil (by kernel_rfl) ?_
                    refine AWR.nil ⟨rfl, Ent.of ⟨rfl, rfl, rfl, rfl, rfl, trivial⟩ ⟨rfl, trivial⟩⟩
          · refine AWR.cond rfl (fun hc56 => ?_) (fun hc56 => ?_)
            · refine AWR.seq ?_
              refine AWR.region ?_
              refine AOR.pure (LT.assign (v := (.s (.c (bC false)))) rfl) ⟨⟨rfl, rfl⟩, trivial⟩ trivial rfl rfl ?_
              refine AOR.nil ?_
              refine AWR.ret ⟨rfl, FPost.mk (.inr rfl) ⟨rfl, trivial⟩ trivial rfl ⟨PermP.sc, trivial⟩ trivial⟩
            · refine AWR.skip ?_
              refine AWR.blk ?_
              refine AWR.region ?_
              refine AOR.pure (LT.add rfl) ⟨rfl, ⟨rfl, rfl⟩, trivial⟩ trivial rfl rfl ?_
              refine AOR.pure (LT.move (v := (.s (.c (iC (w64 (s7 + 1)))))) rfl) ⟨rfl, trivial⟩ trivial rfl rfl ?_
              refine AOR.nil ?_
              refine AWR.nil ⟨rfl, Ent.of ⟨rfl, rfl, rfl, rfl, trivial⟩ ⟨rfl, trivial⟩⟩
        · refine AWR.exit_end rfl ⟨rfl, Ent.of trivial trivial⟩
      · refine AWR.seq ?_
        refine AWR.region ?_
        refine AOR.pure (LT.assign (v := (.s (.c (bC true)))) rfl) ⟨⟨rfl, rfl⟩, trivial⟩ trivial rfl rfl ?_
        refine AOR.nil ?_
        refine AWR.ret (FPost.mk (.inr rfl) ⟨rfl, trivial⟩ trivial rfl ⟨PermP.sc, trivial⟩ trivial)
set_option maxRecDepth 100000 in
set_option maxHeartbeats 8000000 in
theorem w_impl_isPlace (p : TPlace) : ∀ t, m_impl_isPlace p = some t → Fw.Fn Try.prog 155 [(.agg [(iC p.X), (iC p.Y)])] [] (.s (.c (bC t))) [] [] [] := by
  refine Fw.Fn.of (P := Try.prog) (X := []) (pn := []) (rs := (fun (t : Bool) => [(.c (bC t))])) (dfs := (fun (t : Bool) => [])) Try.func155 rfl Try.ntmps155 (Nat.le_of_ble_eq_true rfl) rfl ?_
  intro w0 U0 R0 g0
  unfold m_impl_isPlace
  refine AWR.seq ?_
  refine AWR.region ?_
  refine AOR.step (LT.box (n := 21) (v := (.agg [(iC p.X), (iC p.Y)])) rfl sz95 (by exact rfl)) ⟨rfl, trivial⟩ trivial rfl rfl ?_
  refine AOR.pure (LT.assign (v := (.s (.c (bC false)))) rfl) ⟨⟨rfl, rfl⟩, trivial⟩ trivial rfl rfl ?_
  refine AOR.nil ?_
  refine AWR.seq ?_
  refine AWR.joinK (fun j4 => ([(2, (.s (.c (bC j4))))], [])) ?_ (fun j4 _ => ?_)
  · refine AWR.region ?_
    refine AOR.pure (LT.fieldPl rfl fo95_0) ⟨rfl, trivial⟩ trivial rfl rfl ?_
    refine AOR.pure (LT.bload1 (c := (iC p.X)) rfl ag3 (by exact rfl)) ⟨rfl, trivial⟩ ⟨rfl, trivial⟩ rfl rfl ?_
    refine AOR.bind fun r5 hr5 => ?_
    refine AOR.pure (@LT.callF Try.prog _ _ 119 _ _ [(.c (iC p.X)), (.c (iC 0)), (.c (iC 4))] _ _ [] _ _ _ _ (w_impl_within p.X 0 4 r5 hr5) rfl cb119 (.cons (.c (.same rfl)) (.cons (.c (.same rfl)) (.cons (.c (.same rfl)) .nil))) rfl rfl trivial) ⟨rfl, rfl, ⟨rfl, rfl⟩, ⟨rfl, rfl⟩, trivial⟩ trivial rfl rfl ?_
    refine AOR.pure (LT.move (v := (.s (.c (bC r5)))) rfl) ⟨rfl, trivial⟩ trivial rfl rfl ?_
    refine AOR.split (fun hb6 => ?_) (fun hb6 => ?_)
    · refine AOR.pure (LT.fieldPl rfl fo95_1) ⟨rfl, trivial⟩ trivial ⟨_, rfl, .inl ⟨_, rfl, (by rw [hb6]; rfl)⟩⟩ rfl ?_
      refine AOR.pure (LT.bload1 (c := (iC p.Y)) rfl ag3 (by exact rfl)) ⟨rfl, trivial⟩ ⟨rfl, trivial⟩ ⟨_, rfl, .inl ⟨_, rfl, (by rw [hb6]; rfl)⟩⟩ rfl ?_
      refine AOR.bind fun r7 hr7 => ?_
      refine AOR.pure (@LT.callF Try.prog _ _ 119 _ _ [(.c (iC p.Y)), (.c (iC 0)), (.c (iC 4))] _ _ [] _ _ _ _ (w_impl_within p.Y 0 4 r7 hr7) rfl cb119 (.cons (.c (.same rfl)) (.cons (.c (.same rfl)) (.cons (.c (.same rfl)) .nil))) rfl rfl trivial) ⟨rfl, rfl, ⟨rfl, rfl⟩, ⟨rfl, rfl⟩, trivial⟩ trivial ⟨_, rfl, .inl ⟨_, rfl, (by rw [hb6]; rfl)⟩⟩ rfl ?_
      refine AOR.pure (LT.pickT (v := (.s (.c (bC r7)))) rfl hb6) ⟨rfl, rfl, trivial⟩ trivial rfl rfl ?_
      refine AOR.pure (LT.assign (v := (.s (.c (bC r7)))) rfl) ⟨rfl, trivial⟩ trivial rfl rfl ?_
      refine AOR.nil ?_
      refine AWR.nil ⟨rfl, Ent.of ⟨rfl, trivial⟩ trivial⟩
    · refine AOR.skip ⟨_, rfl, .inl ⟨_, rfl, (by rw [hb6]; rfl)⟩⟩ rfl ?_
      refine AOR.skip ⟨_, rfl, .inl ⟨_, rfl, (by rw [hb6]; rfl)⟩⟩ rfl ?_
      refine AOR.skip ⟨_, rfl, .inl ⟨_, rfl, (by rw [hb6]; rfl)⟩⟩ rfl ?_
      refine AOR.pure (LT.pickF (v := (.s (.c (bC false)))) rfl hb6) ⟨rfl, ⟨rfl, rfl⟩, trivial⟩ trivial rfl rfl ?_
      refine AOR.pure (LT.assign (v := (.s (.c (bC false)))) rfl) ⟨rfl, trivial⟩ trivial rfl rfl ?_
      refine AOR.nil ?_
      refine AWR.nil ⟨rfl, Ent.of ⟨rfl, trivial⟩ trivial⟩
  · refine AWR.ret (FPost.mk (.inr rfl) ⟨rfl, trivial⟩ trivial rfl ⟨PermP.sc, trivial⟩ trivial)
set_option maxRecDepth 100000 in
set_option maxHeartbeats 8000000 in
theorem w_impl_IsFramework (f : TFramework) : ∀ t, m_impl_IsFramework f = some t → Fw.Fn Try.prog 86 [(.agg [(iC f.Graph.Points), (.pv (.xs false (f.Graph.Bars.map encTBar))), (.pv (.xs false (f.Places.map encTPlace)))])] [] (.s (.c (bC t))) [] [] [] := by
  refine Fw.Fn.of (P := Try.prog) (X := []) (pn := []) (rs := (fun (t : Bool) => [(.c (bC t))])) (dfs := (fun (t : Bool) => [])) Try.func86 rfl Try.ntmps86 (Nat.le_of_ble_eq_true rfl) rfl ?_
  intro w0 U0 R0 g0
  unfold m_impl_IsFramework
  refine AWR.seq ?_
  refine AWR.region ?_
  refine AOR.step (LT.box (n := 21) (v := (.agg [(iC f.Graph.Points), (.pv (.xs false (f.Graph.Bars.map encTBar))), (.pv (.xs false (f.Places.map encTPlace)))])) rfl sz29 (by exact rfl)) ⟨rfl, trivial⟩ trivial rfl rfl ?_
  refine AOR.pure (LT.assign (v := (.s (.c (bC false)))) rfl) ⟨⟨rfl, rfl⟩, trivial⟩ trivial rfl rfl ?_
  refine AOR.nil ?_
  refine AWR.seq ?_
  refine AWR.region ?_
  refine AOR.pure (LT.fieldPl rfl fo29_0) ⟨rfl, trivial⟩ trivial rfl rfl ?_
  refine AOR.pure (LT.bloadN (out := [(iC f.Graph.Points), (.pv (.xs false (f.Graph.Bars.map encTBar)))]) rfl ag26 (infS inf26) sz26 (by exact rfl) (by exact rfl)) ⟨rfl, trivial⟩ ⟨rfl, trivial⟩ rfl rfl ?_
  refine AOR.step (LT.alloc (n := 22) (cells := [(iC 0), (sC nilV)]) rfl ti26 rfl rfl rfl) trivial trivial rfl rfl ?_
  refine AOR.step (LT.bstore (v := (.agg [(iC f.Graph.Points), (.pv (.xs false (f.Graph.Bars.map encTBar)))])) (out := [(iC f.Graph.Points), (.pv (.xs false (f.Graph.Bars.map encTBar)))]) rfl rfl (infS inf26) sz26 (by exact rfl) (by exact Nat.le_of_ble_eq_true rfl) (by exact rfl)) ⟨rfl, rfl, trivial⟩ ⟨rfl, trivial⟩ rfl rfl ?_
  refine AOR.nil ?_
  refine AWR.seq ?_
  refine AWR.seq ?_
  refine AWR.joinK (fun j5 => ([(1, (.s (.c (.pl 21 0)))), (3, (.s (.c (.pl 22 0)))), (31, (.s (.c (bC j5))))], [(21, (.row 29 [[(iC f.Graph.Points), (.pv (.xs false (f.Graph.Bars.map encTBar))), (.pv (.xs false (f.Places.map encTPlace)))]])), (22, (.row 26 [[(iC f.Graph.Points), (.pv (.xs false (f.Graph.Bars.map encTBar)))]]))])) ?_ (fun j5 _ => ?_)
  · refine AWR.ent (Ent.of (σ' := [(1, (.s (.c (.pl 21 0)))), (3, (.s (.c (.pl 22 0))))]) (m' := [(21, (.row 29 [[(iC f.Graph.Points), (.pv (.xs false (f.Graph.Bars.map encTBar))), (.pv (.xs false (f.Places.map encTPlace)))]])), (22, (.row 26 [[(iC f.Graph.Points), (.pv (.xs false (f.Graph.Bars.map encTBar)))]]))]) ⟨rfl, rfl, trivial⟩ ⟨rfl, rfl, trivial⟩) ?_
    refine AWR.region ?_
    refine AOR.pure (LT.bloadN (out := [(iC f.Graph.Points), (.pv (.xs false (f.Graph.Bars.map encTBar)))]) rfl ag26 (infS inf26) sz26 (by exact rfl) (by exact rfl)) ⟨rfl, trivial⟩ ⟨rfl, trivial⟩ rfl rfl ?_
    refine AOR.bind fun r6 hr6 => ?_
    refine AOR.pure (@LT.callF Try.prog _ _ 154 _ _ [(.agg [(iC f.Graph.Points), (.pv (.xs false (f.Graph.Bars.map encTBar)))])] _ _ [] _ _ _ _ (w_impl_IsGraph f.Graph r6 hr6) rfl cb154 (.cons (.agg (.cons (.same rfl) (.cons (.same rfl) .nil))) .nil) rfl rfl trivial) ⟨rfl, rfl, trivial⟩ trivial rfl rfl ?_
    refine AOR.pure (LT.not rfl) ⟨rfl, trivial⟩ trivial rfl rfl ?_
    refine AOR.pure (LT.move (v := (.s (.c (bC (!r6))))) rfl) ⟨rfl, trivial⟩ trivial rfl rfl ?_
    refine AOR.split (fun hb7 => ?_) (fun hb7 => ?_)
    · refine AOR.skip ⟨_, rfl, .inl ⟨_, rfl, (by rw [hb7]; rfl)⟩⟩ rfl ?_
      refine AOR.skip ⟨_, rfl, .inl ⟨_, rfl, (by rw [hb7]; rfl)⟩⟩ rfl ?_
      refine AOR.skip ⟨_, rfl, .inl ⟨_, rfl, (by rw [hb7]; rfl)⟩⟩ rfl ?_
      refine AOR.pure (LT.pickT (v := (.s (.c (bC true)))) rfl hb7) ⟨rfl, ⟨rfl, rfl⟩, trivial⟩ trivial rfl rfl ?_
      refine AOR.pure (LT.move (v := (.s (.c (bC true)))) rfl) ⟨rfl, trivial⟩ trivial rfl rfl ?_
      refine AOR.skip ⟨_, rfl, .inl ⟨_, rfl, rfl⟩⟩ rfl ?_
      refine AOR.skip ⟨_, rfl, .inl ⟨_, rfl, rfl⟩⟩ rfl ?_
      refine AOR.skip ⟨_, rfl, .inl ⟨_, rfl, rfl⟩⟩ rfl ?_
      refine AOR.skip ⟨_, rfl, .inl ⟨_, rfl, rfl⟩⟩ rfl ?_
      refine AOR.pure (LT.pickT (v := (.s (.c (bC true)))) rfl rfl) ⟨rfl, ⟨rfl, rfl⟩, trivial⟩ trivial rfl rfl ?_
      refine AOR.pure (LT.move (v := (.s (.c (bC true)))) rfl) ⟨rfl, trivial⟩ trivial rfl rfl ?_
      refine AOR.skip ⟨_, rfl, .inl ⟨_, rfl, rfl⟩⟩ rfl ?_
      refine AOR.skip ⟨_, rfl, .inl ⟨_, rfl, rfl⟩⟩ rfl ?_
      refine AOR.skip ⟨_, rfl, .inl ⟨_, rfl, rfl⟩⟩ rfl ?_
      refine AOR.skip ⟨_, rfl, .inl ⟨_, rfl, rfl⟩⟩ rfl ?_
      refine AOR.skip ⟨_, rfl, .inl ⟨_, rfl, rfl⟩⟩ rfl ?_
      refine AOR.skip ⟨_, rfl, .inl ⟨_, rfl, rfl⟩⟩ rfl ?_
      refine AOR.pure (LT.pickT (v := (.s (.c (bC true)))) rfl rfl) ⟨rfl, ⟨rfl, rfl⟩, trivial⟩ trivial rfl rfl ?_
      refine AOR.nil ?_
      refine AWR.nil ⟨rfl, Ent.of ⟨rfl, rfl, rfl, trivial⟩ ⟨rfl, rfl, trivial⟩⟩
    · refine AOR.pure (LT.fieldPl rfl fo26_0) ⟨rfl, trivial⟩ trivial ⟨_, rfl, .inl ⟨_, rfl, (by rw [hb7]; rfl)⟩⟩ rfl ?_
      refine AOR.pure (LT.bload1 (c := (iC f.Graph.Points)) rfl ag3 (by exact rfl)) ⟨rfl, trivial⟩ ⟨rfl, trivial⟩ ⟨_, rfl, .inl ⟨_, rfl, (by rw [hb7]; rfl)⟩⟩ rfl ?_
      refine AOR.pure (LT.gtr rfl) ⟨rfl, ⟨rfl, rfl⟩, trivial⟩ trivial ⟨_, rfl, .inl ⟨_, rfl, (by rw [hb7]; rfl)⟩⟩ rfl ?_
      refine AOR.pure (LT.pickF (v := (.s (.c (bC (decide (6 < f.Graph.Points)))))) rfl hb7) ⟨rfl, rfl, trivial⟩ trivial rfl rfl ?_
      refine AOR.pure (LT.move (v := (.s (.c (bC (decide (6 < f.Graph.Points)))))) rfl) ⟨rfl, trivial⟩ trivial rfl rfl ?_
      refine AOR.split (fun hb8 => ?_) (fun hb8 => ?_)
      · refine AOR.skip ⟨_, rfl, .inl ⟨_, rfl, (by rw [hb8]; rfl)⟩⟩ rfl ?_
        refine AOR.skip ⟨_, rfl, .inl ⟨_, rfl, (by rw [hb8]; rfl)⟩⟩ rfl ?_
        refine AOR.skip ⟨_, rfl, .inl ⟨_, rfl, (by rw [hb8]; rfl)⟩⟩ rfl ?_
        refine AOR.skip ⟨_, rfl, .inl ⟨_, rfl, (by rw [hb8]; rfl)⟩⟩ rfl ?_
        refine AOR.pure (LT.pickT (v := (.s (.c (bC true)))) rfl hb8) ⟨rfl, ⟨rfl, rfl⟩, trivial⟩ trivial rfl rfl ?_
        refine AOR.pure (LT.move (v := (.s (.c (bC true)))) rfl) ⟨rfl, trivial⟩ trivial rfl rfl ?_
        refine AOR.skip ⟨_, rfl, .inl ⟨_, rfl, rfl⟩⟩ rfl ?_
        refine AOR.skip ⟨_, rfl, .inl ⟨_, rfl, rfl⟩⟩ rfl ?_
        refine AOR.skip ⟨_, rfl, .inl ⟨_, rfl, rfl⟩⟩ rfl ?_
        refine AOR.skip ⟨_, rfl, .inl ⟨_, rfl, rfl⟩⟩ rfl ?_
        refine AOR.skip ⟨_, rfl, .inl ⟨_, rfl, rfl⟩⟩ rfl ?_
        refine AOR.skip ⟨_, rfl, .inl ⟨_, rfl, rfl⟩⟩ rfl ?_
        refine AOR.pure (LT.pickT (v := (.s (.c (bC true)))) rfl rfl) ⟨rfl, ⟨rfl, rfl⟩, trivial⟩ trivial rfl rfl ?_
        refine AOR.nil ?_
        refine AWR.nil ⟨rfl, Ent.of ⟨rfl, rfl, rfl, trivial⟩ ⟨rfl, rfl, trivial⟩⟩
      · refine AOR.pure (LT.fieldPl rfl fo26_1) ⟨rfl, trivial⟩ trivial ⟨_, rfl, .inl ⟨_, rfl, (by rw [hb8]; rfl)⟩⟩ rfl ?_
        refine AOR.pure (LT.bload1 (c := (.pv (.xs false (f.Graph.Bars.map encTBar)))) rfl ag24 (by exact rfl)) ⟨rfl, trivial⟩ ⟨rfl, trivial⟩ ⟨_, rfl, .inl ⟨_, rfl, (by rw [hb8]; rfl)⟩⟩ rfl ?_
        refine AOR.pure (LT.tlenRO rfl und24) ⟨rfl, trivial⟩ trivial ⟨_, rfl, .inl ⟨_, rfl, (by rw [hb8]; rfl)⟩⟩ rfl ?_
        refine AOR.pure (LT.gtr rfl) ⟨rfl, ⟨rfl, rfl⟩, trivial⟩ trivial ⟨_, rfl, .inl ⟨_, rfl, (by rw [hb8]; rfl)⟩⟩ rfl ?_
        refine AOR.pure (LT.pickF (v := (.s (.c (bC (decide (15 < (f.Graph.Bars.length : Int))))))) rfl hb8) ⟨rfl, rfl, trivial⟩ trivial rfl rfl ?_
        refine AOR.pure (LT.move (v := (.s (.c (bC (decide (15 < (f.Graph.Bars.length : Int))))))) rfl) ⟨rfl, trivial⟩ trivial rfl rfl ?_
        refine AOR.split (fun hb9 => ?_) (fun hb9 => ?_)
        · refine AOR.skip ⟨_, rfl, .inl ⟨_, rfl, (by rw [hb9]; rfl)⟩⟩ rfl ?_
          refine AOR.skip ⟨_, rfl, .inl ⟨_, rfl, (by rw [hb9]; rfl)⟩⟩ rfl ?_
          refine AOR.skip ⟨_, rfl, .inl ⟨_, rfl, (by rw [hb9]; rfl)⟩⟩ rfl ?_
          refine AOR.skip ⟨_, rfl, .inl ⟨_, rfl, (by rw [hb9]; rfl)⟩⟩ rfl ?_
          refine AOR.skip ⟨_, rfl, .inl ⟨_, rfl, (by rw [hb9]; rfl)⟩⟩ rfl ?_
          refine AOR.skip ⟨_, rfl, .inl ⟨_, rfl, (by rw [hb9]; rfl)⟩⟩ rfl ?_
          refine AOR.pure (LT.pickT (v := (.s (.c (bC true)))) rfl hb9) ⟨rfl, ⟨rfl, rfl⟩, trivial⟩ trivial rfl rfl ?_
          refine AOR.nil ?_
          refine AWR.nil ⟨rfl, Ent.of ⟨rfl, rfl, rfl, trivial⟩ ⟨rfl, rfl, trivial⟩⟩
        · refine AOR.pure (LT.fieldPl rfl fo29_1) ⟨rfl, trivial⟩ trivial ⟨_, rfl, .inl ⟨_, rfl, (by rw [hb9]; rfl)⟩⟩ rfl ?_
          refine AOR.pure (LT.bload1 (c := (.pv (.xs false (f.Places.map encTPlace)))) rfl ag27 (by exact rfl)) ⟨rfl, trivial⟩ ⟨rfl, trivial⟩ ⟨_, rfl, .inl ⟨_, rfl, (by rw [hb9]; rfl)⟩⟩ rfl ?_
          refine AOR.pure (LT.tlenRO rfl und27) ⟨rfl, trivial⟩ trivial ⟨_, rfl, .inl ⟨_, rfl, (by rw [hb9]; rfl)⟩⟩ rfl ?_
          refine AOR.pure (LT.fieldPl rfl fo26_0) ⟨rfl, trivial⟩ trivial ⟨_, rfl, .inl ⟨_, rfl, (by rw [hb9]; rfl)⟩⟩ rfl ?_
          refine AOR.pure (LT.bload1 (c := (iC f.Graph.Points)) rfl ag3 (by exact rfl)) ⟨rfl, trivial⟩ ⟨rfl, trivial⟩ ⟨_, rfl, .inl ⟨_, rfl, (by rw [hb9]; rfl)⟩⟩ rfl ?_
          refine AOR.pure (LT.neq rfl) ⟨rfl, rfl, trivial⟩ trivial ⟨_, rfl, .inl ⟨_, rfl, (by rw [hb9]; rfl)⟩⟩ rfl ?_
          refine AOR.pure (LT.pickF (v := (.s (.c (bC ((f.Places.length : Int) != f.Graph.Points))))) rfl hb9) ⟨rfl, rfl, trivial⟩ trivial rfl rfl ?_
          refine AOR.nil ?_
          refine AWR.nil ⟨rfl, Ent.of ⟨rfl, rfl, rfl, trivial⟩ ⟨rfl, rfl, trivial⟩⟩
  · refine AWR.cond rfl (fun hc10 => ?_) (fun hc10 => ?_)
    · refine AWR.seq ?_
      refine AWR.region ?_
      refine AOR.pure (LT.assign (v := (.s (.c (bC false)))) rfl) ⟨⟨rfl, rfl⟩, trivial⟩ trivial rfl rfl ?_
      refine AOR.nil ?_
      refine AWR.ret (FPost.mk (.inr rfl) ⟨rfl, trivial⟩ trivial rfl ⟨PermP.sc, trivial⟩ trivial)
    · refine AWR.skip ?_
      refine AWR.seq ?_
      refine AWR.seq ?_
      refine AWR.region ?_
      refine AOR.pure (LT.fieldPl rfl fo29_1) ⟨rfl, trivial⟩ trivial rfl rfl ?_
      refine AOR.pure (LT.bload1 (c := (.pv (.xs false (f.Places.map encTPlace)))) rfl ag27 (by exact rfl)) ⟨rfl, trivial⟩ ⟨rfl, trivial⟩ rfl rfl ?_
      refine AOR.pure (LT.tlenRO rfl und27) ⟨rfl, trivial⟩ trivial rfl rfl ?_
      refine AOR.pure (LT.move (v := (.s (.c (iC 0)))) rfl) ⟨⟨rfl, rfl⟩, trivial⟩ trivial rfl rfl ?_
      refine AOR.nil ?_
      refine AWR.block ?_
      refine AWR.loopR (id := 0) (m_impl_IsFramework_L1 f) (fun s11 => ([(1, (.s (.c (.pl 21 0)))), (3, (.s (.c (.pl 22 0)))), (33, (.s (.c (.pv (.xs false (f.Places.map encTPlace)))))), (34, (.s (.c (iC (f.Places.length : Int))))), (35, (.s (.c (iC s11))))], [(21, (.row 29 [[(iC f.Graph.Points), (.pv (.xs false (f.Graph.Bars.map encTBar))), (.pv (.xs false (f.Places.map encTPlace)))]])), (22, (.row 26 [[(iC f.Graph.Points), (.pv (.xs false (f.Graph.Bars.map encTBar)))]]))])) (fun b20 => ([(1, (.s (.c (.pl 21 0)))), (3, (.s (.c (.pl 22 0))))], [(21, (.row 29 [[(iC f.Graph.Points), (.pv (.xs false (f.Graph.Bars.map encTBar))), (.pv (.xs false (f.Places.map encTPlace)))]])), (22, (.row 26 [[(iC f.Graph.Points), (.pv (.xs false (f.Graph.Bars.map encTBar)))]]))])) (FPost Try.prog Try.f86.results.toList [] [] (fun (t : Bool) => [(.c (bC t))]) (fun (t : Bool) => [])) ?_ (Ent.of ⟨rfl, rfl, rfl, rfl, rfl, trivial⟩ ⟨rfl, rfl, trivial⟩) rfl (fun b20 _ => ?_) (by intro r t σ m ht hk; injection ht with ht; subst ht; exact hk)
      · intro s11
        unfold m_impl_IsFramework_L1
        refine AWR.seq ?_
        refine AWR.region ?_
        refine AOR.pure (LT.lss rfl) ⟨rfl, rfl, trivial⟩ trivial rfl rfl ?_
        refine AOR.nil ?_
        refine AWR.seq ?_
        refine AWR.cond rfl (fun hc21 => ?_) (fun hc21 => ?_)
        · refine AWR.skip ?_
          refine AWR.seq ?_
          refine AWR.block ?_
          refine AWR.seq ?_
          refine AWR.region ?_
          refine AOR.bind fun x22 hx22 => ?_
          refine AOR.pure (LT.tindexRO (enc := encTPlace) rfl el27 hx22 sz95) ⟨rfl, rfl, trivial⟩ trivial rfl rfl ?_
          refine AOR.pure (LT.loadPxN rfl ag95 (infS inf95) (by exact sz95.symm)) ⟨rfl, trivial⟩ trivial rfl rfl ?_
          refine AOR.step (LT.alloc (n := 24) (cells := [(iC 0), (iC 0)]) rfl ti95 rfl rfl rfl) trivial trivial rfl rfl ?_
          refine AOR.step (LT.bstore (v := (.agg [(iC x22.X), (iC x22.Y)])) (out := [(iC x22.X), (iC x22.Y)]) rfl rfl (infS inf95) sz95 (by exact rfl) (by exact Nat.le_of_ble_eq_true rfl) (by exact rfl)) ⟨rfl, rfl, trivial⟩ ⟨rfl, trivial⟩ rfl rfl ?_
          refine AOR.nil ?_
          refine AWR.seq ?_
          refine AWR.region ?_
          refine AOR.pure (LT.bloadN (out := [(iC x22.X), (iC x22.Y)]) rfl ag95 (infS inf95) sz95 (by exact rfl) (by exact rfl)) ⟨rfl, trivial⟩ ⟨rfl, trivial⟩ rfl rfl ?_
          refine AOR.bind fun r23 hr23 => ?_
          refine AOR.pure (@LT.callF Try.prog _ _ 155 _ _ [(.agg [(iC x22.X), (iC x22.Y)])] _ _ [] _ _ _ _ (w_impl_isPlace x22 r23 hr23) rfl cb155 (.cons (.agg (.cons (.same rfl) (.cons (.same rfl) .nil))) .nil) rfl rfl trivial) ⟨rfl, rfl, trivial⟩ trivial rfl rfl ?_
          refine AOR.pure (LT.not rfl) ⟨rfl, trivial⟩ trivial rfl rfl ?_
          refine AOR.nil ?_
          refine AWR.cond rfl (fun hc24 => ?_) (fun hc24 => ?_)
          · refine AWR.seq ?_
            refine AWR.ent (Ent.of (σ' := []) (m' := []) trivial trivial) ?_
            refine AWR.region ?_
            refine AOR.pure (LT.assign (v := (.s (.c (bC false)))) rfl) ⟨⟨rfl, rfl⟩, trivial⟩ trivial rfl rfl ?_
            refine AOR.nil ?_
            refine AWR.ret ⟨rfl, FPost.mk (.inr rfl) ⟨rfl, trivial⟩ trivial rfl ⟨PermP.sc, trivial⟩ trivial⟩
          · refine AWR.skip ?_
            refine AWR.blk ?_
            refine AWR.ent (Ent.of (σ' := [(1, (.s (.c (.pl 21 0)))), (3, (.s (.c (.pl 22 0)))), (33, (.s (.c (.pv (.xs false (f.Places.map encTPlace)))))), (34, (.s (.c (iC (f.Places.length : Int))))), (35, (.s (.c (iC s11))))]) (m' := [(21, (.row 29 [[(iC f.Graph.Points), (.pv (.xs false (f.Graph.Bars.map encTBar))), (.pv (.xs false (f.Places.map encTPlace)))]])), (22, (.row 26 [[(iC f.Graph.Points), (.pv (.xs false (f.Graph.Bars.map encTBar)))]]))]) ⟨rfl, rfl, rfl, rfl, rfl, trivial⟩ ⟨rfl, rfl, trivial⟩) ?_
            refine AWR.region ?_
            refine AOR.pure (LT.add rfl) ⟨rfl, ⟨rfl, rfl⟩, trivial⟩ trivial rfl rfl ?_
            refine AOR.pure (LT.move (v := (.s (.c (iC (w64 (s11 + 1)))))) rfl) ⟨rfl, trivial⟩ trivial rfl rfl ?_
            refine AOR.nil ?_
            refine AWR.nil ⟨rfl, Ent.of ⟨rfl, rfl, rfl, rfl, rfl, trivial⟩ ⟨rfl, rfl, trivial⟩⟩
        · refine AWR.exit_end rfl ⟨rfl, Ent.of ⟨rfl, rfl, trivial⟩ ⟨rfl, rfl, trivial⟩⟩
      · refine AWR.seq ?_
        refine AWR.seq ?_
        refine AWR.region ?_
        refine AOR.pure (LT.fieldPl rfl fo26_1) ⟨rfl, trivial⟩ trivial rfl rfl ?_
        refine AOR.pure (LT.bload1 (c := (.pv (.xs false (f.Graph.Bars.map encTBar)))) rfl ag24 (by exact rfl)) ⟨rfl, trivial⟩ ⟨rfl, trivial⟩ rfl rfl ?_
        refine AOR.pure (LT.tlenRO rfl und24) ⟨rfl, trivial⟩ trivial rfl rfl ?_
        refine AOR.pure (LT.move (v := (.s (.c (iC 0)))) rfl) ⟨⟨rfl, rfl⟩, trivial⟩ trivial rfl rfl ?_
        refine AOR.nil ?_
        refine AWR.block ?_
        refine AWR.loopR (id := 2) (m_impl_IsFramework_L2 f) (fun s25 => ([(1, (.s (.c (.pl 21 0)))), (3, (.s (.c (.pl 22 0)))), (44, (.s (.c (.pv (.xs false (f.Graph.Bars.map encTBar)))))), (45, (.s (.c (iC (f.Graph.Bars.length : Int))))), (46, (.s (.c (iC s25))))], [(21, (.row 29 [[(iC f.Graph.Points), (.pv (.xs false (f.Graph.Bars.map encTBar))), (.pv (.xs false (f.Places.map encTPlace)))]])), (22, (.row 26 [[(iC f.Graph.Points), (.pv (.xs false (f.Graph.Bars.map encTBar)))]]))])) (fun b62 => ([], [])) (FPost Try.prog Try.f86.results.toList [] [] (fun (t : Bool) => [(.c (bC t))]) (fun (t : Bool) => [])) ?_ (Ent.of ⟨rfl, rfl, rfl, rfl, rfl, trivial⟩ ⟨rfl, rfl, trivial⟩) rfl (fun b62 _ => ?_) (by intro r t σ m ht hk; injection ht with ht; subst ht; exact hk)
        · intro s25
          unfold m_impl_IsFramework_L2
          refine AWR.seq ?_
          refine AWR.region ?_
          refine AOR.pure (LT.lss rfl) ⟨rfl, rfl, trivial⟩ trivial rfl rfl ?_
          refine AOR.nil ?_
          refine AWR.seq ?_
          refine AWR.cond rfl (fun hc63 => ?_) (fun hc63 => ?_)
          · refine AWR.skip ?_
            refine AWR.seq ?_
            refine AWR.block ?_
            refine AWR.seq ?_
            refine AWR.region ?_
            refine AOR.pure (LT.move (v := (.s (.c (iC s25)))) rfl) ⟨rfl, trivial⟩ trivial rfl rfl ?_
            refine AOR.bind fun x64 hx64 => ?_
            refine AOR.pure (LT.tindexRO (enc := encTBar) rfl el24 hx64 sz79) ⟨rfl, rfl, trivial⟩ trivial rfl rfl ?_
            refine AOR.pure (LT.loadPxN rfl ag79 (infS inf79) (by exact sz79.symm)) ⟨rfl, trivial⟩ trivial rfl rfl ?_
            refine AOR.step (LT.alloc (n := 26) (cells := [(iC 0), (iC 0)]) rfl ti79 rfl rfl rfl) trivial trivial rfl rfl ?_
            refine AOR.pure (LT.assign (v := (.s (.c (iC s25)))) rfl) ⟨rfl, trivial⟩ trivial rfl rfl ?_
            refine AOR.step (LT.bstore (v := (.agg [(iC x64.A), (iC x64.B)])) (out := [(iC x64.A), (iC x64.B)]) rfl rfl (infS inf79) sz79 (by exact rfl) (by exact Nat.le_of_ble_eq_true rfl) (by exact rfl)) ⟨rfl, rfl, trivial⟩ ⟨rfl, trivial⟩ rfl rfl ?_
            refine AOR.nil ?_
            refine AWR.seq ?_
            refine AWR.joinK (fun j72 => ([(1, (.s (.c (.pl 21 0)))), (3, (.s (.c (.pl 22 0)))), (44, (.s (.c (.pv (.xs false (f.Graph.Bars.map encTBar)))))), (45, (.s (.c (iC (f.Graph.Bars.length : Int))))), (46, (.s (.c (iC s25)))), (77, (.s (.c (bC j72))))], [(21, (.row 29 [[(iC f.Graph.Points), (.pv (.xs false (f.Graph.Bars.map encTBar))), (.pv (.xs false (f.Places.map encTPlace)))]])), (22, (.row 26 [[(iC f.Graph.Points), (.pv (.xs false (f.Graph.Bars.map encTBar)))]]))])) ?_ (fun j72 _ => ?_)
            · refine AWR.ent (Ent.of (σ' := [(1, (.s (.c (.pl 21 0)))), (3, (.s (.c (.pl 22 0)))), (6, (.s (.c (iC s25)))), (7, (.s (.c (.pl 26 0)))), (44, (.s (.c (.pv (.xs false (f.Graph.Bars.map encTBar)))))), (45, (.s (.c (iC (f.Graph.Bars.length : Int))))), (46, (.s (.c (iC s25))))]) (m' := [(21, (.row 29 [[(iC f.Graph.Points), (.pv (.xs false (f.Graph.Bars.map encTBar))), (.pv (.xs false (f.Places.map encTPlace)))]])), (22, (.row 26 [[(iC f.Graph.Points), (.pv (.xs false (f.Graph.Bars.map encTBar)))]])), (26, (.row 79 [[(iC x64.A), (iC x64.B)]]))]) ⟨rfl, rfl, rfl, rfl, rfl, rfl, rfl, trivial⟩ ⟨rfl, rfl, rfl, trivial⟩) ?_
              refine AWR.draw mixed ?_
              refine AOD.pure (LT.move (v := (.s (.c (iC s25)))) rfl) ⟨rfl, trivial⟩ trivial rfl rfl ?_
              refine AOD.pure (LT.gtr rfl) ⟨rfl, ⟨rfl, rfl⟩, trivial⟩ trivial rfl rfl ?_
              refine AOD.pure (LT.move (v := (.s (.c (bC (decide (0 < s25)))))) rfl) ⟨rfl, trivial⟩ trivial rfl rfl ?_
              refine AOD.split (fun hb73 => ?_) (fun hb73 => ?_)
              · refine AOD.pure (LT.fieldPl rfl fo26_1) ⟨rfl, trivial⟩ trivial ⟨_, rfl, .inl ⟨_, rfl, (by rw [hb73]; rfl)⟩⟩ rfl ?_
                refine AOD.pure (LT.bload1 (c := (.pv (.xs false (f.Graph.Bars.map encTBar)))) rfl ag24 (by exact rfl)) ⟨rfl, trivial⟩ ⟨rfl, trivial⟩ ⟨_, rfl, .inl ⟨_, rfl, (by rw [hb73]; rfl)⟩⟩ rfl ?_
                refine AOD.pure (LT.move (v := (.s (.c (iC s25)))) rfl) ⟨rfl, trivial⟩ trivial ⟨_, rfl, .inl ⟨_, rfl, (by rw [hb73]; rfl)⟩⟩ rfl ?_
                refine AOD.pure (LT.sub rfl) ⟨rfl, ⟨rfl, rfl⟩, trivial⟩ trivial ⟨_, rfl, .inl ⟨_, rfl, (by rw [hb73]; rfl)⟩⟩ rfl ?_
                refine AOD.bind fun x74 hx74 => ?_
                refine AOD.pure (LT.tindexRO (enc := encTBar) rfl el24 hx74 sz79) ⟨rfl, rfl, trivial⟩ trivial ⟨_, rfl, .inl ⟨_, rfl, (by rw [hb73]; rfl)⟩⟩ rfl ?_
                refine AOD.pure (LT.loadPxN rfl ag79 (infS inf79) (by exact sz79.symm)) ⟨rfl, trivial⟩ trivial ⟨_, rfl, .inl ⟨_, rfl, (by rw [hb73]; rfl)⟩⟩ rfl ?_
                refine AOD.pure (LT.bloadN (out := [(iC x64.A), (iC x64.B)]) rfl ag79 (infS inf79) sz79 (by exact rfl) (by exact rfl)) ⟨rfl, trivial⟩ ⟨rfl, trivial⟩ ⟨_, rfl, .inl ⟨_, rfl, (by rw [hb73]; rfl)⟩⟩ rfl ?_
                refine AOD.pure (LT.eqlStruct [x74.A, x74.B] [x64.A, x64.B] rfl ist79 rfl rfl) ⟨rfl, rfl, trivial⟩ trivial ⟨_, rfl, .inl ⟨_, rfl, (by rw [hb73]; rfl)⟩⟩ rfl ?_
                refine AOD.pure (LT.pickT (v := (.s (.c (bC (eqI [x74.A, x74.B] [x64.A, x64.B]))))) rfl hb73) ⟨rfl, rfl, trivial⟩ trivial rfl rfl ?_
                refine AOD.pure (LT.move (v := (.s (.c (bC (eqI [x74.A, x74.B] [x64.A, x64.B]))))) rfl) ⟨rfl, trivial⟩ trivial rfl rfl ?_
                refine AOD.split (fun hb75 => ?_) (fun hb75 => ?_)
                · refine AOD.skip ⟨_, rfl, .inl ⟨_, rfl, (by rw [hb75]; rfl)⟩⟩ rfl ?_
                  refine AOD.skip ⟨_, rfl, .inl ⟨_, rfl, (by rw [hb75]; rfl)⟩⟩ rfl ?_
                  refine AOD.skip ⟨_, rfl, .inl ⟨_, rfl, (by rw [hb75]; rfl)⟩⟩ rfl ?_
                  refine AOD.skip ⟨_, rfl, .inl ⟨_, rfl, (by rw [hb75]; rfl)⟩⟩ rfl ?_
                  refine AOD.skip ⟨_, rfl, .inl ⟨_, rfl, (by rw [hb75]; rfl)⟩⟩ rfl ?_
                  refine AOD.skip ⟨_, rfl, .inl ⟨_, rfl, (by rw [hb75]; rfl)⟩⟩ rfl ?_
                  refine AOD.skip ⟨_, rfl, .inl ⟨_, rfl, (by rw [hb75]; rfl)⟩⟩ rfl ?_
                  refine AOD.skip ⟨_, rfl, .inl ⟨_, rfl, (by rw [hb75]; rfl)⟩⟩ rfl ?_
                  refine AOD.skip ⟨_, rfl, .inl ⟨_, rfl, (by rw [hb75]; rfl)⟩⟩ rfl ?_
                  refine AOD.skip ⟨_, rfl, .inl ⟨_, rfl, (by rw [hb75]; rfl)⟩⟩ rfl ?_
                  refine AOD.skip ⟨_, rfl, .inl ⟨_, rfl, (by rw [hb75]; rfl)⟩⟩ rfl ?_
                  refine AOD.skip ⟨_, rfl, .inl ⟨_, rfl, (by rw [hb75]; rfl)⟩⟩ rfl ?_
                  refine AOD.skip ⟨_, rfl, .inl ⟨_, rfl, (by rw [hb75]; rfl)⟩⟩ rfl ?_
                  refine AOD.pure (LT.pickT (v := (.s (.c (bC true)))) rfl hb75) ⟨rfl, ⟨rfl, rfl⟩, trivial⟩ trivial rfl rfl ?_
                  refine AOD.nil (by kernel_rfl) ?_
                  refine AWR.nil ⟨rfl, Ent.of ⟨rfl, rfl, rfl, rfl, rfl, rfl, trivial⟩ ⟨rfl, rfl, trivial⟩⟩
                · refine AOD.pure (LT.fieldPl rfl fo29_1) ⟨rfl, trivial⟩ trivial ⟨_, rfl, .inl ⟨_, rfl, (by rw [hb75]; rfl)⟩⟩ rfl ?_
                  refine AOD.pure (LT.bload1 (c := (.pv (.xs false (f.Places.map encTPlace)))) rfl ag27 (by exact rfl)) ⟨rfl, trivial⟩ ⟨rfl, trivial⟩ ⟨_, rfl, .inl ⟨_, rfl, (by rw [hb75]; rfl)⟩⟩ rfl ?_
                  refine AOD.pure (LT.fieldPl rfl fo79_0) ⟨rfl, trivial⟩ trivial ⟨_, rfl, .inl ⟨_, rfl, (by rw [hb75]; rfl)⟩⟩ rfl ?_
                  refine AOD.pure (LT.bload1 (c := (iC x64.A)) rfl ag3 (by exact rfl)) ⟨rfl, trivial⟩ ⟨rfl, trivial⟩ ⟨_, rfl, .inl ⟨_, rfl, (by rw [hb75]; rfl)⟩⟩ rfl ?_
                  refine AOD.bind fun x76 hx76 => ?_
                  refine AOD.pure (LT.tindexRO (enc := encTPlace) rfl el27 hx76 sz95) ⟨rfl, rfl, trivial⟩ trivial ⟨_, rfl, .inl ⟨_, rfl, (by rw [hb75]; rfl)⟩⟩ rfl ?_
                  refine AOD.pure (LT.loadPxN rfl ag95 (infS inf95) (by exact sz95.symm)) ⟨rfl, trivial⟩ trivial ⟨_, rfl, .inl ⟨_, rfl, (by rw [hb75]; rfl)⟩⟩ rfl ?_
                  refine AOD.pure (LT.fieldPl rfl fo29_1) ⟨rfl, trivial⟩ trivial ⟨_, rfl, .inl ⟨_, rfl, (by rw [hb75]; rfl)⟩⟩ rfl ?_
                  refine AOD.pure (LT.bload1 (c := (.pv (.xs false (f.Places.map encTPlace)))) rfl ag27 (by exact rfl)) ⟨rfl, trivial⟩ ⟨rfl, trivial⟩ ⟨_, rfl, .inl ⟨_, rfl, (by rw [hb75]; rfl)⟩⟩ rfl ?_
                  refine AOD.pure (LT.fieldPl rfl fo79_1) ⟨rfl, trivial⟩ trivial ⟨_, rfl, .inl ⟨_, rfl, (by rw [hb75]; rfl)⟩⟩ rfl ?_
                  refine AOD.pure (LT.bload1 (c := (iC x64.B)) rfl ag3 (by exact rfl)) ⟨rfl, trivial⟩ ⟨rfl, trivial⟩ ⟨_, rfl, .inl ⟨_, rfl, (by rw [hb75]; rfl)⟩⟩ rfl ?_
                  refine AOD.bind fun x77 hx77 => ?_
                  refine AOD.pure (LT.tindexRO (enc := encTPlace) rfl el27 hx77 sz95) ⟨rfl, rfl, trivial⟩ trivial ⟨_, rfl, .inl ⟨_, rfl, (by rw [hb75]; rfl)⟩⟩ rfl ?_
                  refine AOD.pure (LT.loadPxN rfl ag95 (infS inf95) (by exact sz95.symm)) ⟨rfl, trivial⟩ trivial ⟨_, rfl, .inl ⟨_, rfl, (by rw [hb75]; rfl)⟩⟩ rfl ?_
                  refine AOD.pure (LT.eqlStruct [x76.X, x76.Y] [x77.X, x77.Y] rfl ist95 rfl rfl) ⟨rfl, rfl, trivial⟩ trivial ⟨_, rfl, .inl ⟨_, rfl, (by rw [hb75]; rfl)⟩⟩ rfl ?_
                  refine AOD.pure (LT.pickF (v := (.s (.c (bC (eqI [x76.X, x76.Y] [x77.X, x77.Y]))))) rfl hb75) ⟨rfl, rfl, trivial⟩ trivial rfl rfl ?_
                  refine AOD.nil (by kernel_rfl) ?_
                  refine AWR.nil ⟨rfl, Ent.of ⟨rfl, rfl, rfl, rfl, rfl, rfl, trivial⟩ ⟨rfl, rfl, trivial⟩⟩
              · refine AOD.skip ⟨_, rfl, .inl ⟨_, rfl, (by rw [hb73]; rfl)⟩⟩ rfl ?_
                refine AOD.skip ⟨_, rfl, .inl ⟨_, rfl, (by rw [hb73]; rfl)⟩⟩ rfl ?_
                refine AOD.skip ⟨_, rfl, .inl ⟨_, rfl, (by rw [hb73]; rfl)⟩⟩ rfl ?_
                refine AOD.skip ⟨_, rfl, .inl ⟨_, rfl, (by rw [hb73]; rfl)⟩⟩ rfl ?_
                refine AOD.skip ⟨_, rfl, .inl ⟨_, rfl, (by rw [hb73]; rfl)⟩⟩ rfl ?_
                refine AOD.skip ⟨_, rfl, .inl ⟨_, rfl, (by rw [hb73]; rfl)⟩⟩ rfl ?_
                refine AOD.skip ⟨_, rfl, .inl ⟨_, rfl, (by rw [hb73]; rfl)⟩⟩ rfl ?_
                refine AOD.skip ⟨_, rfl, .inl ⟨_, rfl, (by rw [hb73]; rfl)⟩⟩ rfl ?_
                refine AOD.pure (LT.pickF (v := (.s (.c (bC false)))) rfl hb73) ⟨rfl, ⟨rfl, rfl⟩, trivial⟩ trivial rfl rfl ?_
                refine AOD.pure (LT.move (v := (.s (.c (bC false)))) rfl) ⟨rfl, trivial⟩ trivial rfl rfl ?_
                refine AOD.pure (LT.fieldPl rfl fo29_1) ⟨rfl, trivial⟩ trivial ⟨_, rfl, .inl ⟨_, rfl, rfl⟩⟩ rfl ?_
                refine AOD.pure (LT.bload1 (c := (.pv (.xs false (f.Places.map encTPlace)))) rfl ag27 (by exact rfl)) ⟨rfl, trivial⟩ ⟨rfl, trivial⟩ ⟨_, rfl, .inl ⟨_, rfl, rfl⟩⟩ rfl ?_
                refine AOD.pure (LT.fieldPl rfl fo79_0) ⟨rfl, trivial⟩ trivial ⟨_, rfl, .inl ⟨_, rfl, rfl⟩⟩ rfl ?_
                refine AOD.pure (LT.bload1 (c := (iC x64.A)) rfl ag3 (by exact rfl)) ⟨rfl, trivial⟩ ⟨rfl, trivial⟩ ⟨_, rfl, .inl ⟨_, rfl, rfl⟩⟩ rfl ?_
                refine AOD.bind fun x78 hx78 => ?_
                refine AOD.pure (LT.tindexRO (enc := encTPlace) rfl el27 hx78 sz95) ⟨rfl, rfl, trivial⟩ trivial ⟨_, rfl, .inl ⟨_, rfl, rfl⟩⟩ rfl ?_
                refine AOD.pure (LT.loadPxN rfl ag95 (infS inf95) (by exact sz95.symm)) ⟨rfl, trivial⟩ trivial ⟨_, rfl, .inl ⟨_, rfl, rfl⟩⟩ rfl ?_
                refine AOD.pure (LT.fieldPl rfl fo29_1) ⟨rfl, trivial⟩ trivial ⟨_, rfl, .inl ⟨_, rfl, rfl⟩⟩ rfl ?_
                refine AOD.pure (LT.bload1 (c := (.pv (.xs false (f.Places.map encTPlace)))) rfl ag27 (by exact rfl)) ⟨rfl, trivial⟩ ⟨rfl, trivial⟩ ⟨_, rfl, .inl ⟨_, rfl, rfl⟩⟩ rfl ?_
                refine AOD.pure (LT.fieldPl rfl fo79_1) ⟨rfl, trivial⟩ trivial ⟨_, rfl, .inl ⟨_, rfl, rfl⟩⟩ rfl ?_
                refine AOD.pure (LT.bload1 (c := (iC x64.B)) rfl ag3 (by exact rfl)) ⟨rfl, trivial⟩ ⟨rfl, trivial⟩ ⟨_, rfl, .inl ⟨_, rfl, rfl⟩⟩ rfl ?_
                refine AOD.bind fun x79 hx79 => ?_
                refine AOD.pure (LT.tindexRO (enc := encTPlace) rfl el27 hx79 sz95) ⟨rfl, rfl, trivial⟩ trivial ⟨_, rfl, .inl ⟨_, rfl, rfl⟩⟩ rfl ?_
                refine AOD.pure (LT.loadPxN rfl ag95 (infS inf95) (by exact sz95.symm)) ⟨rfl, trivial⟩ trivial ⟨_, rfl, .inl ⟨_, rfl, rfl⟩⟩ rfl ?_
                refine AOD.pure (LT.eqlStruct [x78.X, x78.Y] [x79.X, x79.Y] rfl ist95 rfl rfl) ⟨rfl, rfl, trivial⟩ trivial ⟨_, rfl, .inl ⟨_, rfl, rfl⟩⟩ rfl ?_
                refine AOD.pure (LT.pickF (v := (.s (.c (bC (eqI [x78.X, x78.Y] [x79.X, x79.Y]))))) rfl rfl) ⟨rfl, rfl, trivial⟩ trivial rfl rfl ?_
                refine AOD.nil (by kernel_rfl) ?_
                refine AWR.nil ⟨rfl, Ent.of ⟨rfl, rfl, rfl, rfl, rfl, rfl, trivial⟩ ⟨rfl, rfl, trivial⟩⟩
            · refine AWR.cond rfl (fun hc80 => ?_) (fun hc80 => ?_)
              · refine AWR.seq ?_
                refine AWR.region ?_
                refine AOR.pure (LT.assign (v := (.s (.c (bC false)))) rfl) ⟨⟨rfl, rfl⟩, trivial⟩ trivial rfl rfl ?_
                refine AOR.nil ?_
                refine AWR.ret ⟨rfl, FPost.mk (.inr rfl) ⟨rfl, trivial⟩ trivial rfl ⟨PermP.sc, trivial⟩ trivial⟩
              · refine AWR.skip ?_
                refine AWR.blk ?_
                refine AWR.region ?_
                refine AOR.pure (LT.add rfl) ⟨rfl, ⟨rfl, rfl⟩, trivial⟩ trivial rfl rfl ?_
                refine AOR.pure (LT.move (v := (.s (.c (iC (w64 (s25 + 1)))))) rfl) ⟨rfl, trivial⟩ trivial rfl rfl ?_
                refine AOR.nil ?_
                refine AWR.nil ⟨rfl, Ent.of ⟨rfl, rfl, rfl, rfl, rfl, trivial⟩ ⟨rfl, rfl, trivial⟩⟩
          · refine AWR.exit_end rfl ⟨rfl, Ent.of trivial trivial⟩
        · refine AWR.seq ?_
          refine AWR.region ?_
          refine AOR.pure (LT.assign (v := (.s (.c (bC true)))) rfl) ⟨⟨rfl, rfl⟩, trivial⟩ trivial rfl rfl ?_
          refine AOR.nil ?_
          refine AWR.ret (FPost.mk (.inr rfl) ⟨rfl, trivial⟩ trivial rfl ⟨PermP.sc, trivial⟩ trivial)
end Go.Proofs.Ytoeigmhhmadmbaa
end
