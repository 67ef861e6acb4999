/- The code computes the models. Written by a program of mine. -/
import Derived.Test.YtiphmhofhgbhlaaGenF3
set_option linter.unusedVariables false
set_option linter.unusedSimpArgs false
set_option linter.unnecessarySimpa false
open Go Go.Fw
namespace Go.Proofs.Ytiphmhofhgbhlaa
set_option maxRecDepth 100000 in
set_option maxHeartbeats 8000000 in
theorem w_impl_compareInts (a : Int) (b : Int) : ∀ t, m_impl_compareInts a b = some t → Fw.Fn Try.prog 71 [(.c (iC a)), (.c (iC b))] [] (.s (.c (iC t))) [] [] [] := by
  refine Fw.Fn.of (P := Try.prog) (X := []) (pn := []) (rs := (fun (t : Int) => [(.c (iC t))])) (dfs := (fun (t : Int) => [])) Try.func71 rfl Try.ntmps71 (Nat.le_of_ble_eq_true rfl) rfl ?_
  intro w0 U0 R0 g0
  unfold m_impl_compareInts
  refine AWR.seq ?_
  refine AWR.region ?_
  refine AOR.pure (LT.assign (v := (.s (.c (iC 0)))) rfl) ⟨⟨rfl, rfl⟩, trivial⟩ trivial rfl rfl ?_
  refine AOR.nil ?_
  refine AWR.seq ?_
  refine AWR.block ?_
  refine AWR.seq ?_
  refine AWR.region ?_
  refine AOR.pure (LT.move (v := (.s (.c (iC a)))) rfl) ⟨rfl, trivial⟩ trivial rfl rfl ?_
  refine AOR.pure (LT.move (v := (.s (.c (iC b)))) rfl) ⟨rfl, trivial⟩ trivial rfl rfl ?_
  refine AOR.pure (LT.lss rfl) ⟨rfl, rfl, trivial⟩ trivial rfl rfl ?_
  refine AOR.pure (LT.assign (v := (.s (.c (bC (decide (a < b)))))) rfl) ⟨rfl, trivial⟩ trivial rfl rfl ?_
  refine AOR.nil ?_
  refine AWR.cond rfl (fun hc1 => ?_) (fun hc1 => ?_)
  · refine AWR.seq ?_
    refine AWR.region ?_
    refine AOR.pure (LT.assign (v := (.s (.c (iC (-1))))) rfl) ⟨⟨rfl, rfl⟩, trivial⟩ trivial rfl rfl ?_
    refine AOR.nil ?_
    refine AWR.ret (FPost.mk (.inr rfl) ⟨rfl, trivial⟩ trivial rfl ⟨PermP.sc, trivial⟩ trivial)
  · refine AWR.seq ?_
    refine AWR.region ?_
    refine AOR.pure (LT.move (v := (.s (.c (iC a)))) rfl) ⟨rfl, trivial⟩ trivial rfl rfl ?_
    refine AOR.pure (LT.move (v := (.s (.c (iC b)))) rfl) ⟨rfl, trivial⟩ trivial rfl rfl ?_
    refine AOR.pure (LT.gtr rfl) ⟨rfl, rfl, trivial⟩ trivial rfl rfl ?_
    refine AOR.pure (LT.assign (v := (.s (.c (bC (decide (b < a)))))) rfl) ⟨rfl, trivial⟩ trivial rfl rfl ?_
    refine AOR.nil ?_
    refine AWR.cond rfl (fun hc2 => ?_) (fun hc2 => ?_)
    · refine AWR.seq ?_
      refine AWR.region ?_
      refine AOR.pure (LT.assign (v := (.s (.c (iC 1)))) rfl) ⟨⟨rfl, rfl⟩, trivial⟩ trivial rfl rfl ?_
      refine AOR.nil ?_
      refine AWR.ret (FPost.mk (.inr rfl) ⟨rfl, trivial⟩ trivial rfl ⟨PermP.sc, trivial⟩ trivial)
    · refine AWR.skip ?_
      refine AWR.blk ?_
      refine AWR.seq ?_
      refine AWR.region ?_
      refine AOR.pure (LT.assign (v := (.s (.c (iC 0)))) rfl) ⟨⟨rfl, rfl⟩, trivial⟩ trivial rfl rfl ?_
      refine AOR.nil ?_
      refine AWR.ret (FPost.mk (.inr rfl) ⟨rfl, trivial⟩ trivial rfl ⟨PermP.sc, trivial⟩ trivial)
set_option maxRecDepth 100000 in
set_option maxHeartbeats 8000000 in
theorem w_impl_compareBars (x : TBar) (y : TBar) : ∀ t, m_impl_compareBars x y = some t → Fw.Fn Try.prog 59 [(.agg [(iC x.A), (iC x.B)]), (.agg [(iC y.A), (iC y.B)])] [] (.s (.c (iC t))) [] [] [] := by
  refine Fw.Fn.of (P := Try.prog) (X := []) (pn := []) (rs := (fun (t : Int) => [(.c (iC t))])) (dfs := (fun (t : Int) => [])) Try.func59 rfl Try.ntmps59 (Nat.le_of_ble_eq_true rfl) rfl ?_
  intro w0 U0 R0 g0
  unfold m_impl_compareBars
  refine AWR.seq ?_
  refine AWR.region ?_
  refine AOR.step (LT.box (n := 21) (v := (.agg [(iC x.A), (iC x.B)])) rfl sz60 (by exact rfl)) ⟨rfl, trivial⟩ trivial rfl rfl ?_
  refine AOR.step (LT.box (n := 22) (v := (.agg [(iC y.A), (iC y.B)])) rfl sz60 (by exact rfl)) ⟨rfl, trivial⟩ trivial rfl rfl ?_
  refine AOR.pure (LT.assign (v := (.s (.c (iC 0)))) rfl) ⟨⟨rfl, rfl⟩, trivial⟩ trivial rfl rfl ?_
  refine AOR.nil ?_
  refine AWR.seq ?_
  refine AWR.seq ?_
  refine AWR.region ?_
  refine AOR.pure (LT.fieldPl rfl fo60_0) ⟨rfl, trivial⟩ trivial rfl rfl ?_
  refine AOR.pure (LT.bload1 (c := (iC x.A)) rfl ag3 (by exact rfl)) ⟨rfl, trivial⟩ ⟨rfl, trivial⟩ rfl rfl ?_
  refine AOR.pure (LT.fieldPl rfl fo60_0) ⟨rfl, trivial⟩ trivial rfl rfl ?_
  refine AOR.pure (LT.bload1 (c := (iC y.A)) rfl ag3 (by exact rfl)) ⟨rfl, trivial⟩ ⟨rfl, trivial⟩ rfl rfl ?_
  refine AOR.bind fun r1 hr1 => ?_
  refine AOR.pure (@LT.callF Try.prog _ _ 71 _ _ [(.c (iC x.A)), (.c (iC y.A))] _ _ [] _ _ _ _ (w_impl_compareInts x.A y.A r1 hr1) rfl cb71 (.cons (.c (.same rfl)) (.cons (.c (.same rfl)) .nil)) rfl rfl trivial) ⟨rfl, rfl, rfl, trivial⟩ trivial rfl rfl ?_
  refine AOR.pure (LT.assign (v := (.s (.c (iC r1)))) rfl) ⟨rfl, trivial⟩ trivial rfl rfl ?_
  refine AOR.nil ?_
  refine AWR.seq ?_
  refine AWR.ent (Ent.of (σ' := [(2, (.s (.c (.pl 21 0)))), (3, (.s (.c (.pl 22 0)))), (5, (.s (.c (iC r1))))]) (m' := [(21, (.row 60 [[(iC x.A), (iC x.B)]])), (22, (.row 60 [[(iC y.A), (iC y.B)]]))]) ⟨rfl, rfl, rfl, trivial⟩ ⟨rfl, rfl, trivial⟩) ?_
  refine AWR.region ?_
  refine AOR.pure (LT.move (v := (.s (.c (iC r1)))) rfl) ⟨rfl, trivial⟩ trivial rfl rfl ?_
  refine AOR.pure (LT.neq rfl) ⟨rfl, ⟨rfl, rfl⟩, trivial⟩ trivial rfl rfl ?_
  refine AOR.nil ?_
  refine AWR.cond rfl (fun hc2 => ?_) (fun hc2 => ?_)
  · refine AWR.seq ?_
    refine AWR.region ?_
    refine AOR.pure (LT.move (v := (.s (.c (iC r1)))) rfl) ⟨rfl, trivial⟩ trivial rfl rfl ?_
    refine AOR.pure (LT.assign (v := (.s (.c (iC r1)))) rfl) ⟨rfl, trivial⟩ trivial rfl rfl ?_
    refine AOR.nil ?_
    refine AWR.ret (FPost.mk (.inr rfl) ⟨rfl, trivial⟩ trivial rfl ⟨PermP.sc, trivial⟩ trivial)
  · refine AWR.skip ?_
    refine AWR.seq ?_
    refine AWR.region ?_
    refine AOR.pure (LT.fieldPl rfl fo60_1) ⟨rfl, trivial⟩ trivial rfl rfl ?_
    refine AOR.pure (LT.bload1 (c := (iC x.B)) rfl ag3 (by exact rfl)) ⟨rfl, trivial⟩ ⟨rfl, trivial⟩ rfl rfl ?_
    refine AOR.pure (LT.fieldPl rfl fo60_1) ⟨rfl, trivial⟩ trivial rfl rfl ?_
    refine AOR.pure (LT.bload1 (c := (iC y.B)) rfl ag3 (by exact rfl)) ⟨rfl, trivial⟩ ⟨rfl, trivial⟩ rfl rfl ?_
    refine AOR.bind fun r3 hr3 => ?_
    refine AOR.pure (@LT.callF Try.prog _ _ 71 _ _ [(.c (iC x.B)), (.c (iC y.B))] _ _ [] _ _ _ _ (w_impl_compareInts x.B y.B r3 hr3) rfl cb71 (.cons (.c (.same rfl)) (.cons (.c (.same rfl)) .nil)) rfl rfl trivial) ⟨rfl, rfl, rfl, trivial⟩ trivial rfl rfl ?_
    refine AOR.pure (LT.assign (v := (.s (.c (iC r3)))) rfl) ⟨rfl, trivial⟩ trivial rfl rfl ?_
    refine AOR.nil ?_
    refine AWR.ret (FPost.mk (.inr rfl) ⟨rfl, trivial⟩ trivial rfl ⟨PermP.sc, trivial⟩ trivial)
set_option maxRecDepth 100000 in
set_option maxHeartbeats 8000000 in
theorem w_impl_IsGraph (g : TGraph) : ∀ t, m_impl_IsGraph g = some t → Fw.Fn Try.prog 33 [(.agg [(iC g.Points), (.pv (.xs false (g.Bars.map encTBar)))])] [] (.s (.c (bC t))) [] [] [] := by
  refine Fw.Fn.of (P := Try.prog) (X := []) (pn := []) (rs := (fun (t : Bool) => [(.c (bC t))])) (dfs := (fun (t : Bool) => [])) Try.func33 rfl Try.ntmps33 (Nat.le_of_ble_eq_true rfl) rfl ?_
  intro w0 U0 R0 g0
  unfold m_impl_IsGraph
  refine AWR.seq ?_
  refine AWR.region ?_
  refine AOR.step (LT.box (n := 21) (v := (.agg [(iC g.Points), (.pv (.xs false (g.Bars.map encTBar)))])) rfl sz30 (by exact rfl)) ⟨rfl, trivial⟩ trivial rfl rfl ?_
  refine AOR.pure (LT.assign (v := (.s (.c (bC false)))) rfl) ⟨⟨rfl, rfl⟩, trivial⟩ trivial rfl rfl ?_
  refine AOR.nil ?_
  refine AWR.seq ?_
  refine AWR.seq ?_
  refine AWR.joinK (fun j3 => ([(1, (.s (.c (.pl 21 0)))), (14, (.s (.c (bC j3))))], [(21, (.row 30 [[(iC g.Points), (.pv (.xs false (g.Bars.map encTBar)))]]))])) ?_ (fun j3 _ => ?_)
  · refine AWR.region ?_
    refine AOR.pure (LT.fieldPl rfl fo30_0) ⟨rfl, trivial⟩ trivial rfl rfl ?_
    refine AOR.pure (LT.bload1 (c := (iC g.Points)) rfl ag3 (by exact rfl)) ⟨rfl, trivial⟩ ⟨rfl, trivial⟩ rfl rfl ?_
    refine AOR.bind fun r4 hr4 => ?_
    refine AOR.pure (@LT.callF Try.prog _ _ 51 _ _ [(.c (iC g.Points)), (.c (iC 1)), (.c (iC 8))] _ _ [] _ _ _ _ (w_impl_within g.Points 1 8 r4 hr4) rfl cb51 (.cons (.c (.same rfl)) (.cons (.c (.same rfl)) (.cons (.c (.same rfl)) .nil))) rfl rfl trivial) ⟨rfl, rfl, ⟨rfl, rfl⟩, ⟨rfl, rfl⟩, trivial⟩ trivial rfl rfl ?_
    refine AOR.pure (LT.not rfl) ⟨rfl, trivial⟩ trivial rfl rfl ?_
    refine AOR.pure (LT.move (v := (.s (.c (bC (!r4))))) rfl) ⟨rfl, trivial⟩ trivial rfl rfl ?_
    refine AOR.split (fun hb5 => ?_) (fun hb5 => ?_)
    · refine AOR.skip ⟨_, rfl, .inl ⟨_, rfl, (by rw [hb5]; rfl)⟩⟩ rfl ?_
      refine AOR.skip ⟨_, rfl, .inl ⟨_, rfl, (by rw [hb5]; rfl)⟩⟩ rfl ?_
      refine AOR.skip ⟨_, rfl, .inl ⟨_, rfl, (by rw [hb5]; rfl)⟩⟩ rfl ?_
      refine AOR.skip ⟨_, rfl, .inl ⟨_, rfl, (by rw [hb5]; rfl)⟩⟩ rfl ?_
      refine AOR.pure (LT.pickT (v := (.s (.c (bC true)))) rfl hb5) ⟨rfl, ⟨rfl, rfl⟩, trivial⟩ trivial rfl rfl ?_
      refine AOR.nil ?_
      refine AWR.nil ⟨rfl, Ent.of ⟨rfl, rfl, trivial⟩ ⟨rfl, trivial⟩⟩
    · refine AOR.pure (LT.fieldPl rfl fo30_1) ⟨rfl, trivial⟩ trivial ⟨_, rfl, .inl ⟨_, rfl, (by rw [hb5]; rfl)⟩⟩ rfl ?_
      refine AOR.pure (LT.bload1 (c := (.pv (.xs false (g.Bars.map encTBar)))) rfl ag28 (by exact rfl)) ⟨rfl, trivial⟩ ⟨rfl, trivial⟩ ⟨_, rfl, .inl ⟨_, rfl, (by rw [hb5]; rfl)⟩⟩ rfl ?_
      refine AOR.pure (LT.tlenRO rfl und28) ⟨rfl, trivial⟩ trivial ⟨_, rfl, .inl ⟨_, rfl, (by rw [hb5]; rfl)⟩⟩ rfl ?_
      refine AOR.pure (LT.gtr rfl) ⟨rfl, ⟨rfl, rfl⟩, trivial⟩ trivial ⟨_, rfl, .inl ⟨_, rfl, (by rw [hb5]; rfl)⟩⟩ rfl ?_
      refine AOR.pure (LT.pickF (v := (.s (.c (bC (decide (24 < (g.Bars.length : Int))))))) rfl hb5) ⟨rfl, rfl, trivial⟩ trivial rfl rfl ?_
      refine AOR.nil ?_
      refine AWR.nil ⟨rfl, Ent.of ⟨rfl, rfl, trivial⟩ ⟨rfl, trivial⟩⟩
  · refine AWR.cond rfl (fun hc6 => ?_) (fun hc6 => ?_)
    · refine AWR.seq ?_
      refine AWR.region ?_
      refine AOR.pure (LT.assign (v := (.s (.c (bC false)))) rfl) ⟨⟨rfl, rfl⟩, trivial⟩ trivial rfl rfl ?_
      refine AOR.nil ?_
      refine AWR.ret (FPost.mk (.inr rfl) ⟨rfl, trivial⟩ trivial rfl ⟨PermP.sc, trivial⟩ trivial)
    · refine AWR.skip ?_
      refine AWR.seq ?_
      refine AWR.seq ?_
      refine AWR.region ?_
      refine AOR.pure (LT.fieldPl rfl fo30_1) ⟨rfl, trivial⟩ trivial rfl rfl ?_
      refine AOR.pure (LT.bload1 (c := (.pv (.xs false (g.Bars.map encTBar)))) rfl ag28 (by exact rfl)) ⟨rfl, trivial⟩ ⟨rfl, trivial⟩ rfl rfl ?_
      refine AOR.pure (LT.tlenRO rfl und28) ⟨rfl, trivial⟩ trivial rfl rfl ?_
      refine AOR.pure (LT.move (v := (.s (.c (iC 0)))) rfl) ⟨⟨rfl, rfl⟩, trivial⟩ trivial rfl rfl ?_
      refine AOR.nil ?_
      refine AWR.block ?_
      refine AWR.loopR (id := 0) (m_impl_IsGraph_L1 g) (fun s7 => ([(1, (.s (.c (.pl 21 0)))), (16, (.s (.c (.pv (.xs false (g.Bars.map encTBar)))))), (17, (.s (.c (iC (g.Bars.length : Int))))), (18, (.s (.c (iC s7))))], [(21, (.row 30 [[(iC g.Points), (.pv (.xs false (g.Bars.map encTBar)))]]))])) (fun b40 => ([], [])) (FPost Try.prog Try.f33.results.toList [] [] (fun (t : Bool) => [(.c (bC t))]) (fun (t : Bool) => [])) ?_ (Ent.of ⟨rfl, rfl, rfl, rfl, trivial⟩ ⟨rfl, trivial⟩) rfl (fun b40 _ => ?_) (by intro r t σ m ht hk; injection ht with ht; subst ht; exact hk)
      · intro s7
        unfold m_impl_IsGraph_L1
        refine AWR.seq ?_
        refine AWR.region ?_
        refine AOR.pure (LT.lss rfl) ⟨rfl, rfl, trivial⟩ trivial rfl rfl ?_
        refine AOR.nil ?_
        refine AWR.seq ?_
        refine AWR.cond rfl (fun hc41 => ?_) (fun hc41 => ?_)
        · refine AWR.skip ?_
          refine AWR.seq ?_
          refine AWR.block ?_
          refine AWR.seq ?_
          refine AWR.region ?_
          refine AOR.pure (LT.move (v := (.s (.c (iC s7)))) rfl) ⟨rfl, trivial⟩ trivial rfl rfl ?_
          refine AOR.bind fun x42 hx42 => ?_
          refine AOR.pure (LT.tindexRO (enc := encTBar) rfl el28 hx42 sz60) ⟨rfl, rfl, trivial⟩ trivial rfl rfl ?_
          refine AOR.pure (LT.loadPxN rfl ag60 (infS inf60) (by exact sz60.symm)) ⟨rfl, trivial⟩ trivial rfl rfl ?_
          refine AOR.step (LT.alloc (n := 23) (cells := [(iC 0), (iC 0)]) rfl ti60 rfl rfl rfl) trivial trivial rfl rfl ?_
          refine AOR.pure (LT.assign (v := (.s (.c (iC s7)))) rfl) ⟨rfl, trivial⟩ trivial rfl rfl ?_
          refine AOR.step (LT.bstore (v := (.agg [(iC x42.A), (iC x42.B)])) (out := [(iC x42.A), (iC x42.B)]) rfl rfl (infS inf60) sz60 (by exact rfl) (by exact Nat.le_of_ble_eq_true rfl) (by exact rfl)) ⟨rfl, rfl, trivial⟩ ⟨rfl, trivial⟩ rfl rfl ?_
          refine AOR.nil ?_
          refine AWR.seq ?_
          refine AWR.joinK (fun j49 => ([(1, (.s (.c (.pl 21 0)))), (16, (.s (.c (.pv (.xs false (g.Bars.map encTBar)))))), (17, (.s (.c (iC (g.Bars.length : Int))))), (18, (.s (.c (iC s7)))), (54, (.s (.c (bC j49))))], [(21, (.row 30 [[(iC g.Points), (.pv (.xs false (g.Bars.map encTBar)))]]))])) ?_ (fun j49 _ => ?_)
          · refine AWR.ent (Ent.of (σ' := [(1, (.s (.c (.pl 21 0)))), (3, (.s (.c (iC s7)))), (4, (.s (.c (.pl 23 0)))), (16, (.s (.c (.pv (.xs false (g.Bars.map encTBar)))))), (17, (.s (.c (iC (g.Bars.length : Int))))), (18, (.s (.c (iC s7))))]) (m' := [(21, (.row 30 [[(iC g.Points), (.pv (.xs false (g.Bars.map encTBar)))]])), (23, (.row 60 [[(iC x42.A), (iC x42.B)]]))]) ⟨rfl, rfl, rfl, rfl, rfl, rfl, trivial⟩ ⟨rfl, rfl, trivial⟩) ?_
            refine AWR.draw mixed ?_
            refine AOD.pure (LT.fieldPl rfl fo60_0) ⟨rfl, trivial⟩ trivial rfl rfl ?_
            refine AOD.pure (LT.bload1 (c := (iC x42.A)) rfl ag3 (by exact rfl)) ⟨rfl, trivial⟩ ⟨rfl, trivial⟩ rfl rfl ?_
            refine AOD.pure (LT.lss rfl) ⟨rfl, ⟨rfl, rfl⟩, trivial⟩ trivial rfl rfl ?_
            refine AOD.pure (LT.move (v := (.s (.c (bC (decide (x42.A < 0)))))) rfl) ⟨rfl, trivial⟩ trivial rfl rfl ?_
            refine AOD.split (fun hb50 => ?_) (fun hb50 => ?_)
            · refine AOD.skip ⟨_, rfl, .inl ⟨_, rfl, (by rw [hb50]; rfl)⟩⟩ rfl ?_
              refine AOD.skip ⟨_, rfl, .inl ⟨_, rfl, (by rw [hb50]; rfl)⟩⟩ rfl ?_
              refine AOD.skip ⟨_, rfl, .inl ⟨_, rfl, (by rw [hb50]; rfl)⟩⟩ rfl ?_
              refine AOD.skip ⟨_, rfl, .inl ⟨_, rfl, (by rw [hb50]; rfl)⟩⟩ rfl ?_
              refine AOD.skip ⟨_, rfl, .inl ⟨_, rfl, (by rw [hb50]; rfl)⟩⟩ rfl ?_
              refine AOD.pure (LT.pickT (v := (.s (.c (bC true)))) rfl hb50) ⟨rfl, ⟨rfl, rfl⟩, trivial⟩ trivial rfl rfl ?_
              refine AOD.pure (LT.move (v := (.s (.c (bC true)))) rfl) ⟨rfl, trivial⟩ trivial rfl rfl ?_
              refine AOD.skip ⟨_, rfl, .inl ⟨_, rfl, rfl⟩⟩ rfl ?_
              refine AOD.skip ⟨_, rfl, .inl ⟨_, rfl, rfl⟩⟩ rfl ?_
              refine AOD.skip ⟨_, rfl, .inl ⟨_, rfl, rfl⟩⟩ rfl ?_
              refine AOD.skip ⟨_, rfl, .inl ⟨_, rfl, rfl⟩⟩ rfl ?_
              refine AOD.skip ⟨_, rfl, .inl ⟨_, rfl, rfl⟩⟩ rfl ?_
              refine AOD.pure (LT.pickT (v := (.s (.c (bC true)))) rfl rfl) ⟨rfl, ⟨rfl, rfl⟩, trivial⟩ trivial rfl rfl ?_
              refine AOD.pure (LT.move (v := (.s (.c (bC true)))) rfl) ⟨rfl, trivial⟩ trivial rfl rfl ?_
              refine AOD.skip ⟨_, rfl, .inl ⟨_, rfl, rfl⟩⟩ rfl ?_
              refine AOD.skip ⟨_, rfl, .inl ⟨_, rfl, rfl⟩⟩ rfl ?_
              refine AOD.skip ⟨_, rfl, .inl ⟨_, rfl, rfl⟩⟩ rfl ?_
              refine AOD.skip ⟨_, rfl, .inr ⟨rfl, rfl⟩⟩ rfl ?_
              refine AOD.skip ⟨_, rfl, .inr ⟨rfl, rfl⟩⟩ rfl ?_
              refine AOD.skip ⟨_, rfl, .inr ⟨rfl, rfl⟩⟩ rfl ?_
              refine AOD.skip ⟨_, rfl, .inr ⟨rfl, rfl⟩⟩ rfl ?_
              refine AOD.skip ⟨_, rfl, .inr ⟨rfl, rfl⟩⟩ rfl ?_
              refine AOD.skip ⟨_, rfl, .inr ⟨rfl, rfl⟩⟩ rfl ?_
              refine AOD.skip ⟨_, rfl, .inr ⟨rfl, rfl⟩⟩ rfl ?_
              refine AOD.skip ⟨_, rfl, .inr ⟨rfl, rfl⟩⟩ rfl ?_
              refine AOD.skip ⟨_, rfl, .inr ⟨rfl, rfl⟩⟩ rfl ?_
              refine AOD.skip ⟨_, rfl, .inl ⟨_, rfl, rfl⟩⟩ rfl ?_
              refine AOD.pure (LT.pickT (v := (.s (.c (bC true)))) rfl rfl) ⟨rfl, ⟨rfl, rfl⟩, trivial⟩ trivial rfl rfl ?_
              refine AOD.nil (by kernel_rfl) ?_
              refine AWR.nil ⟨rfl, Ent.of ⟨rfl, rfl, rfl, rfl, rfl, trivial⟩ ⟨rfl, trivial⟩⟩
            · refine AOD.pure (LT.fieldPl rfl fo60_0) ⟨rfl, trivial⟩ trivial ⟨_, rfl, .inl ⟨_, rfl, (by rw [hb50]; rfl)⟩⟩ rfl ?_
              refine AOD.pure (LT.bload1 (c := (iC x42.A)) rfl ag3 (by exact rfl)) ⟨rfl, trivial⟩ ⟨rfl, trivial⟩ ⟨_, rfl, .inl ⟨_, rfl, (by rw [hb50]; rfl)⟩⟩ rfl ?_
              refine AOD.pure (LT.fieldPl rfl fo60_1) ⟨rfl, trivial⟩ trivial ⟨_, rfl, .inl ⟨_, rfl, (by rw [hb50]; rfl)⟩⟩ rfl ?_
              refine AOD.pure (LT.bload1 (c := (iC x42.B)) rfl ag3 (by exact rfl)) ⟨rfl, trivial⟩ ⟨rfl, trivial⟩ ⟨_, rfl, .inl ⟨_, rfl, (by rw [hb50]; rfl)⟩⟩ rfl ?_
              refine AOD.pure (LT.geq rfl) ⟨rfl, rfl, trivial⟩ trivial ⟨_, rfl, .inl ⟨_, rfl, (by rw [hb50]; rfl)⟩⟩ rfl ?_
              refine AOD.pure (LT.pickF (v := (.s (.c (bC (decide (x42.B ≤ x42.A)))))) rfl hb50) ⟨rfl, rfl, trivial⟩ trivial rfl rfl ?_
              refine AOD.pure (LT.move (v := (.s (.c (bC (decide (x42.B ≤ x42.A)))))) rfl) ⟨rfl, trivial⟩ trivial rfl rfl ?_
              refine AOD.split (fun hb51 => ?_) (fun hb51 => ?_)
              · refine AOD.skip ⟨_, rfl, .inl ⟨_, rfl, (by rw [hb51]; rfl)⟩⟩ rfl ?_
                refine AOD.skip ⟨_, rfl, .inl ⟨_, rfl, (by rw [hb51]; rfl)⟩⟩ rfl ?_
                refine AOD.skip ⟨_, rfl, .inl ⟨_, rfl, (by rw [hb51]; rfl)⟩⟩ rfl ?_
                refine AOD.skip ⟨_, rfl, .inl ⟨_, rfl, (by rw [hb51]; rfl)⟩⟩ rfl ?_
                refine AOD.skip ⟨_, rfl, .inl ⟨_, rfl, (by rw [hb51]; rfl)⟩⟩ rfl ?_
                refine AOD.pure (LT.pickT (v := (.s (.c (bC true)))) rfl hb51) ⟨rfl, ⟨rfl, rfl⟩, trivial⟩ trivial rfl rfl ?_
                refine AOD.pure (LT.move (v := (.s (.c (bC true)))) rfl) ⟨rfl, trivial⟩ trivial rfl rfl ?_
                refine AOD.skip ⟨_, rfl, .inl ⟨_, rfl, rfl⟩⟩ rfl ?_
                refine AOD.skip ⟨_, rfl, .inl ⟨_, rfl, rfl⟩⟩ rfl ?_
                refine AOD.skip ⟨_, rfl, .inl ⟨_, rfl, rfl⟩⟩ rfl ?_
                refine AOD.skip ⟨_, rfl, .inr ⟨rfl, rfl⟩⟩ rfl ?_
                refine AOD.skip ⟨_, rfl, .inr ⟨rfl, rfl⟩⟩ rfl ?_
                refine AOD.skip ⟨_, rfl, .inr ⟨rfl, rfl⟩⟩ rfl ?_
                refine AOD.skip ⟨_, rfl, .inr ⟨rfl, rfl⟩⟩ rfl ?_
                refine AOD.skip ⟨_, rfl, .inr ⟨rfl, rfl⟩⟩ rfl ?_
                refine AOD.skip ⟨_, rfl, .inr ⟨rfl, rfl⟩⟩ rfl ?_
                refine AOD.skip ⟨_, rfl, .inr ⟨rfl, rfl⟩⟩ rfl ?_
                refine AOD.skip ⟨_, rfl, .inr ⟨rfl, rfl⟩⟩ rfl ?_
                refine AOD.skip ⟨_, rfl, .inr ⟨rfl, rfl⟩⟩ rfl ?_
                refine AOD.skip ⟨_, rfl, .inl ⟨_, rfl, rfl⟩⟩ rfl ?_
                refine AOD.pure (LT.pickT (v := (.s (.c (bC true)))) rfl rfl) ⟨rfl, ⟨rfl, rfl⟩, trivial⟩ trivial rfl rfl ?_
                refine AOD.nil (by kernel_rfl) ?_
                refine AWR.nil ⟨rfl, Ent.of ⟨rfl, rfl, rfl, rfl, rfl, trivial⟩ ⟨rfl, trivial⟩⟩
              · refine AOD.pure (LT.fieldPl rfl fo60_1) ⟨rfl, trivial⟩ trivial ⟨_, rfl, .inl ⟨_, rfl, (by rw [hb51]; rfl)⟩⟩ rfl ?_
                refine AOD.pure (LT.bload1 (c := (iC x42.B)) rfl ag3 (by exact rfl)) ⟨rfl, trivial⟩ ⟨rfl, trivial⟩ ⟨_, rfl, .inl ⟨_, rfl, (by rw [hb51]; rfl)⟩⟩ rfl ?_
                refine AOD.pure (LT.fieldPl rfl fo30_0) ⟨rfl, trivial⟩ trivial ⟨_, rfl, .inl ⟨_, rfl, (by rw [hb51]; rfl)⟩⟩ rfl ?_
                refine AOD.pure (LT.bload1 (c := (iC g.Points)) rfl ag3 (by exact rfl)) ⟨rfl, trivial⟩ ⟨rfl, trivial⟩ ⟨_, rfl, .inl ⟨_, rfl, (by rw [hb51]; rfl)⟩⟩ rfl ?_
                refine AOD.pure (LT.geq rfl) ⟨rfl, rfl, trivial⟩ trivial ⟨_, rfl, .inl ⟨_, rfl, (by rw [hb51]; rfl)⟩⟩ rfl ?_
                refine AOD.pure (LT.pickF (v := (.s (.c (bC (decide (g.Points ≤ x42.B)))))) rfl hb51) ⟨rfl, rfl, trivial⟩ trivial rfl rfl ?_
                refine AOD.pure (LT.move (v := (.s (.c (bC (decide (g.Points ≤ x42.B)))))) rfl) ⟨rfl, trivial⟩ trivial rfl rfl ?_
                refine AOD.split (fun hb52 => ?_) (fun hb52 => ?_)
                · refine AOD.skip ⟨_, rfl, .inl ⟨_, rfl, (by rw [hb52]; rfl)⟩⟩ rfl ?_
                  refine AOD.skip ⟨_, rfl, .inl ⟨_, rfl, (by rw [hb52]; rfl)⟩⟩ rfl ?_
                  refine AOD.skip ⟨_, rfl, .inl ⟨_, rfl, (by rw [hb52]; rfl)⟩⟩ rfl ?_
                  refine AOD.skip ⟨_, rfl, .inr ⟨rfl, rfl⟩⟩ rfl ?_
                  refine AOD.skip ⟨_, rfl, .inr ⟨rfl, rfl⟩⟩ rfl ?_
                  refine AOD.skip ⟨_, rfl, .inr ⟨rfl, rfl⟩⟩ rfl ?_
                  refine AOD.skip ⟨_, rfl, .inr ⟨rfl, rfl⟩⟩ rfl ?_
                  refine AOD.skip ⟨_, rfl, .inr ⟨rfl, rfl⟩⟩ rfl ?_
                  refine AOD.skip ⟨_, rfl, .inr ⟨rfl, rfl⟩⟩ rfl ?_
                  refine AOD.skip ⟨_, rfl, .inr ⟨rfl, rfl⟩⟩ rfl ?_
                  refine AOD.skip ⟨_, rfl, .inr ⟨rfl, rfl⟩⟩ rfl ?_
                  refine AOD.skip ⟨_, rfl, .inr ⟨rfl, rfl⟩⟩ rfl ?_
                  refine AOD.skip ⟨_, rfl, .inl ⟨_, rfl, (by rw [hb52]; rfl)⟩⟩ rfl ?_
                  refine AOD.pure (LT.pickT (v := (.s (.c (bC true)))) rfl hb52) ⟨rfl, ⟨rfl, rfl⟩, trivial⟩ trivial rfl rfl ?_
                  refine AOD.nil (by kernel_rfl) ?_
                  refine AWR.nil ⟨rfl, Ent.of ⟨rfl, rfl, rfl, rfl, rfl, trivial⟩ ⟨rfl, trivial⟩⟩
                · refine AOD.pure (LT.move (v := (.s (.c (iC s7)))) rfl) ⟨rfl, trivial⟩ trivial ⟨_, rfl, .inl ⟨_, rfl, (by rw [hb52]; rfl)⟩⟩ rfl ?_
                  refine AOD.pure (LT.gtr rfl) ⟨rfl, ⟨rfl, rfl⟩, trivial⟩ trivial ⟨_, rfl, .inl ⟨_, rfl, (by rw [hb52]; rfl)⟩⟩ rfl ?_
                  refine AOD.pure (LT.move (v := (.s (.c (bC (decide (0 < s7)))))) rfl) ⟨rfl, trivial⟩ trivial ⟨_, rfl, .inl ⟨_, rfl, (by rw [hb52]; rfl)⟩⟩ rfl ?_
                  refine AOD.split (fun hb53 => ?_) (fun hb53 => ?_)
                  · refine AOD.pure (LT.fieldPl rfl fo30_1) ⟨rfl, trivial⟩ trivial ⟨_, rfl, .inl ⟨_, rfl, (by rw [hb53]; rfl)⟩⟩ rfl ?_
                    refine AOD.pure (LT.bload1 (c := (.pv (.xs false (g.Bars.map encTBar)))) rfl ag28 (by exact rfl)) ⟨rfl, trivial⟩ ⟨rfl, trivial⟩ ⟨_, rfl, .inl ⟨_, rfl, (by rw [hb53]; rfl)⟩⟩ rfl ?_
                    refine AOD.pure (LT.move (v := (.s (.c (iC s7)))) rfl) ⟨rfl, trivial⟩ trivial ⟨_, rfl, .inl ⟨_, rfl, (by rw [hb53]; rfl)⟩⟩ rfl ?_
                    refine AOD.pure (LT.sub rfl) ⟨rfl, ⟨rfl, rfl⟩, trivial⟩ trivial ⟨_, rfl, .inl ⟨_, rfl, (by rw [hb53]; rfl)⟩⟩ rfl ?_
                    refine AOD.bind fun x54 hx54 => ?_
                    refine AOD.pure (LT.tindexRO (enc := encTBar) rfl el28 hx54 sz60) ⟨rfl, rfl, trivial⟩ trivial ⟨_, rfl, .inl ⟨_, rfl, (by rw [hb53]; rfl)⟩⟩ rfl ?_
                    refine AOD.pure (LT.loadPxN rfl ag60 (infS inf60) (by exact sz60.symm)) ⟨rfl, trivial⟩ trivial ⟨_, rfl, .inl ⟨_, rfl, (by rw [hb53]; rfl)⟩⟩ rfl ?_
                    refine AOD.pure (LT.bloadN (out := [(iC x42.A), (iC x42.B)]) rfl ag60 (infS inf60) sz60 (by exact rfl) (by exact rfl)) ⟨rfl, trivial⟩ ⟨rfl, trivial⟩ ⟨_, rfl, .inl ⟨_, rfl, (by rw [hb53]; rfl)⟩⟩ rfl ?_
                    refine AOD.bind fun r55 hr55 => ?_
                    refine AOD.pure (@LT.callF Try.prog _ _ 59 _ _ [(.agg [(iC x54.A), (iC x54.B)]), (.agg [(iC x42.A), (iC x42.B)])] _ _ [] _ _ _ _ (w_impl_compareBars x54 x42 r55 hr55) rfl cb59 (.cons (.agg (.cons (.same rfl) (.cons (.same rfl) .nil))) (.cons (.agg (.cons (.same rfl) (.cons (.same rfl) .nil))) .nil)) rfl rfl trivial) ⟨rfl, rfl, rfl, trivial⟩ trivial ⟨_, rfl, .inl ⟨_, rfl, (by rw [hb53]; rfl)⟩⟩ rfl ?_
                    refine AOD.pure (LT.gtr rfl) ⟨rfl, ⟨rfl, rfl⟩, trivial⟩ trivial ⟨_, rfl, .inl ⟨_, rfl, (by rw [hb53]; rfl)⟩⟩ rfl ?_
                    refine AOD.pure (LT.pickT (v := (.s (.c (bC (decide (0 < r55)))))) rfl hb53) ⟨rfl, rfl, trivial⟩ trivial ⟨_, rfl, .inl ⟨_, rfl, (by rw [hb52]; rfl)⟩⟩ rfl ?_
                    refine AOD.pure (LT.pickF (v := (.s (.c (bC (decide (0 < r55)))))) rfl hb52) ⟨rfl, rfl, trivial⟩ trivial rfl rfl ?_
                    refine AOD.nil (by kernel_rfl) ?_
                    refine AWR.nil ⟨rfl, Ent.of ⟨rfl, rfl, rfl, rfl, rfl, trivial⟩ ⟨rfl, trivial⟩⟩
                  · refine AOD.skip ⟨_, rfl, .inl ⟨_, rfl, (by rw [hb53]; rfl)⟩⟩ rfl ?_
                    refine AOD.skip ⟨_, rfl, .inl ⟨_, rfl, (by rw [hb53]; rfl)⟩⟩ rfl ?_
                    refine AOD.skip ⟨_, rfl, .inl ⟨_, rfl, (by rw [hb53]; rfl)⟩⟩ rfl ?_
                    refine AOD.skip ⟨_, rfl, .inl ⟨_, rfl, (by rw [hb53]; rfl)⟩⟩ rfl ?_
                    refine AOD.skip ⟨_, rfl, .inl ⟨_, rfl, (by rw [hb53]; rfl)⟩⟩ rfl ?_
                    refine AOD.skip ⟨_, rfl, .inl ⟨_, rfl, (by rw [hb53]; rfl)⟩⟩ rfl ?_
                    refine AOD.skip ⟨_, rfl, .inl ⟨_, rfl, (by rw [hb53]; rfl)⟩⟩ rfl ?_
                    refine AOD.skip ⟨_, rfl, .inl ⟨_, rfl, (by rw [hb53]; rfl)⟩⟩ rfl ?_
                    refine AOD.skip ⟨_, rfl, .inl ⟨_, rfl, (by rw [hb53]; rfl)⟩⟩ rfl ?_
                    refine AOD.pure (LT.pickF (v := (.s (.c (bC false)))) rfl hb53) ⟨rfl, ⟨rfl, rfl⟩, trivial⟩ trivial ⟨_, rfl, .inl ⟨_, rfl, (by rw [hb52]; rfl)⟩⟩ rfl ?_
                    refine AOD.pure (LT.pickF (v := (.s (.c (bC false)))) rfl hb52) ⟨rfl, rfl, trivial⟩ trivial rfl rfl ?_
                    refine AOD.nil (by kernel_rfl) ?_
                    refine AWR.nil ⟨rfl, Ent.of ⟨rfl, rfl, rfl, rfl, rfl, trivial⟩ ⟨rfl, trivial⟩⟩
          · refine AWR.cond rfl (fun hc56 => ?_) (fun hc56 => ?_)
            · refine AWR.seq ?_
              refine AWR.region ?_
              refine AOR.pure (LT.assign (v := (.s (.c (bC false)))) rfl) ⟨⟨rfl, rfl⟩, trivial⟩ trivial rfl rfl ?_
              refine AOR.nil ?_
              refine AWR.ret ⟨rfl, FPost.mk (.inr rfl) ⟨rfl, trivial⟩ trivial rfl ⟨PermP.sc, trivial⟩ trivial⟩
            · refine AWR.skip ?_
              refine AWR.blk ?_
              refine AWR.region ?_
              refine AOR.pure (LT.add rfl) ⟨rfl, ⟨rfl, rfl⟩, trivial⟩ trivial rfl rfl ?_
              refine AOR.pure (LT.move (v := (.s (.c (iC (w64 (s7 + 1)))))) rfl) ⟨rfl, trivial⟩ trivial rfl rfl ?_
              refine AOR.nil ?_
              refine AWR.nil ⟨rfl, Ent.of ⟨rfl, rfl, rfl, rfl, trivial⟩ ⟨rfl, trivial⟩⟩
        · refine AWR.exit_end rfl ⟨rfl, Ent.of trivial trivial⟩
      · refine AWR.seq ?_
        refine AWR.region ?_
        refine AOR.pure (LT.assign (v := (.s (.c (bC true)))) rfl) ⟨⟨rfl, rfl⟩, trivial⟩ trivial rfl rfl ?_
        refine AOR.nil ?_
        refine AWR.ret (FPost.mk (.inr rfl) ⟨rfl, trivial⟩ trivial rfl ⟨PermP.sc, trivial⟩ trivial)
set_option maxRecDepth 100000 in
set_option maxHeartbeats 8000000 in
theorem w_impl_IsRange (k : Int) (l : Int) : ∀ t, m_impl_IsRange k l = some t → Fw.Fn Try.prog 84 [(.c (iC k)), (.c (iC l))] [] (.s (.c (bC t))) [] [] [] := by
  refine Fw.Fn.of (P := Try.prog) (X := []) (pn := []) (rs := (fun (t : Bool) => [(.c (bC t))])) (dfs := (fun (t : Bool) => [])) Try.func84 rfl Try.ntmps84 (Nat.le_of_ble_eq_true rfl) rfl ?_
  intro w0 U0 R0 g0
  unfold m_impl_IsRange
  refine AWR.seq ?_
  refine AWR.region ?_
  refine AOR.pure (LT.assign (v := (.s (.c (bC false)))) rfl) ⟨⟨rfl, rfl⟩, trivial⟩ trivial rfl rfl ?_
  refine AOR.nil ?_
  refine AWR.seq ?_
  refine AWR.joinK (fun j4 => ([(4, (.s (.c (bC j4))))], [])) ?_ (fun j4 _ => ?_)
  · refine AWR.region ?_
    refine AOR.pure (LT.move (v := (.s (.c (iC k)))) rfl) ⟨rfl, trivial⟩ trivial rfl rfl ?_
    refine AOR.bind fun r5 hr5 => ?_
    refine AOR.pure (@LT.callF Try.prog _ _ 51 _ _ [(.c (iC k)), (.c (iC 1)), (.c (iC 3))] _ _ [] _ _ _ _ (w_impl_within k 1 3 r5 hr5) rfl cb51 (.cons (.c (.same rfl)) (.cons (.c (.same rfl)) (.cons (.c (.same rfl)) .nil))) rfl rfl trivial) ⟨rfl, rfl, ⟨rfl, rfl⟩, ⟨rfl, rfl⟩, trivial⟩ trivial rfl rfl ?_
    refine AOR.pure (LT.move (v := (.s (.c (bC r5)))) rfl) ⟨rfl, trivial⟩ trivial rfl rfl ?_
    refine AOR.split (fun hb6 => ?_) (fun hb6 => ?_)
    · refine AOR.pure (LT.move (v := (.s (.c (iC l)))) rfl) ⟨rfl, trivial⟩ trivial ⟨_, rfl, .inl ⟨_, rfl, (by rw [hb6]; rfl)⟩⟩ rfl ?_
      refine AOR.pure (LT.move (v := (.s (.c (iC k)))) rfl) ⟨rfl, trivial⟩ trivial ⟨_, rfl, .inl ⟨_, rfl, (by rw [hb6]; rfl)⟩⟩ rfl ?_
      refine AOR.pure (LT.mul rfl) ⟨⟨rfl, rfl⟩, rfl, trivial⟩ trivial ⟨_, rfl, .inl ⟨_, rfl, (by rw [hb6]; rfl)⟩⟩ rfl ?_
      refine AOR.pure (LT.sub rfl) ⟨rfl, ⟨rfl, rfl⟩, trivial⟩ trivial ⟨_, rfl, .inl ⟨_, rfl, (by rw [hb6]; rfl)⟩⟩ rfl ?_
      refine AOR.bind fun r7 hr7 => ?_
      refine AOR.pure (@LT.callF Try.prog _ _ 51 _ _ [(.c (iC l)), (.c (iC 0)), (.c (iC (w64 ((w64 (2 * k)) - 1))))] _ _ [] _ _ _ _ (w_impl_within l 0 (w64 ((w64 (2 * k)) - 1)) r7 hr7) rfl cb51 (.cons (.c (.same rfl)) (.cons (.c (.same rfl)) (.cons (.c (.same rfl)) .nil))) rfl rfl trivial) ⟨rfl, rfl, ⟨rfl, rfl⟩, rfl, trivial⟩ trivial ⟨_, rfl, .inl ⟨_, rfl, (by rw [hb6]; rfl)⟩⟩ rfl ?_
      refine AOR.pure (LT.pickT (v := (.s (.c (bC r7)))) rfl hb6) ⟨rfl, rfl, trivial⟩ trivial rfl rfl ?_
      refine AOR.pure (LT.assign (v := (.s (.c (bC r7)))) rfl) ⟨rfl, trivial⟩ trivial rfl rfl ?_
      refine AOR.nil ?_
      refine AWR.nil ⟨rfl, Ent.of ⟨rfl, trivial⟩ trivial⟩
    · refine AOR.skip ⟨_, rfl, .inl ⟨_, rfl, (by rw [hb6]; rfl)⟩⟩ rfl ?_
      refine AOR.skip ⟨_, rfl, .inl ⟨_, rfl, (by rw [hb6]; rfl)⟩⟩ rfl ?_
      refine AOR.skip ⟨_, rfl, .inl ⟨_, rfl, (by rw [hb6]; rfl)⟩⟩ rfl ?_
      refine AOR.skip ⟨_, rfl, .inl ⟨_, rfl, (by rw [hb6]; rfl)⟩⟩ rfl ?_
      refine AOR.skip ⟨_, rfl, .inl ⟨_, rfl, (by rw [hb6]; rfl)⟩⟩ rfl ?_
      refine AOR.pure (LT.pickF (v := (.s (.c (bC false)))) rfl hb6) ⟨rfl, ⟨rfl, rfl⟩, trivial⟩ trivial rfl rfl ?_
      refine AOR.pure (LT.assign (v := (.s (.c (bC false)))) rfl) ⟨rfl, trivial⟩ trivial rfl rfl ?_
      refine AOR.nil ?_
      refine AWR.nil ⟨rfl, Ent.of ⟨rfl, trivial⟩ trivial⟩
  · refine AWR.ret (FPost.mk (.inr rfl) ⟨rfl, trivial⟩ trivial rfl ⟨PermP.sc, trivial⟩ trivial)
set_option maxRecDepth 100000 in
set_option maxHeartbeats 8000000 in
theorem w_impl_copyInts (l : (List Int)) : ∀ t, m_impl_copyInts l = some t → Fw.Fn Try.prog 92 [(.c (.pv (.xs false (l.map encInt))))] [] (.s (.c (.loc 0 0 t.length))) [(0, (.prow 3 (t.map encInt)))] [] [0] := by
  refine Fw.Fn.of (P := Try.prog) (X := [0]) (pn := []) (rs := (fun (t : (List Int)) => [(.c (.loc 0 0 t.length))])) (dfs := (fun (t : (List Int)) => [(0, (.prow 3 (t.map encInt)))])) Try.func92 rfl Try.ntmps92 (Nat.le_of_ble_eq_true rfl) rfl ?_
  intro w0 U0 R0 g0
  unfold m_impl_copyInts
  refine AWR.seq ?_
  refine AWR.region ?_
  refine AOR.pure (LT.assign (v := (.s (.c (sC nilV)))) rfl) ⟨⟨rfl, rfl⟩, trivial⟩ trivial rfl rfl ?_
  refine AOR.nil ?_
  refine AWR.seq ?_
  refine AWR.region ?_
  refine AOR.step (LT.tbuildSlice (n := 21) (enc := encInt) [] ([] : List Int) rfl rfl und26 ti3 rfl rfl rfl rfl (by decide) (fun _ => rfl) rfl) trivial trivial rfl rfl ?_
  refine AOR.pure (LT.move (v := (.s (.c (.pv (.xs false (l.map encInt)))))) rfl) ⟨rfl, trivial⟩ trivial rfl rfl ?_
  refine AOR.bind fun u1 hu1 => ?_
  refine AOR.step (LT.tappRO (enc := encInt) rfl  rfl und26 ti3 rfl (by decide) (by decide) (fun _ => rfl) (lim_le hu1)) ⟨rfl, rfl, trivial⟩ ⟨rfl, trivial⟩ rfl rfl ?_
  refine AOR.pure (LT.assign (v := (.s (.c (.loc 21 0 (([] : List Int) ++ l).length)))) rfl) ⟨rfl, trivial⟩ trivial rfl rfl ?_
  refine AOR.nil ?_
  refine AWR.ent (Ent.of (σ' := [(2, (.s (.c (.loc 21 0 (([] : List Int) ++ l).length))))]) (m' := [(21, (.prow 3 ((([] : List Int) ++ l).map encInt)))]) ⟨rfl, trivial⟩ ⟨rfl, trivial⟩) ?_
  refine AWR.ent (Ent.mv 21 0 rfl rfl) ?_
  refine AWR.ent (Ent.of (σ' := [(2, (.s (.c (.loc 0 0 (([] : List Int) ++ l).length))))]) (m' := [(0, (.prow 3 ((([] : List Int) ++ l).map encInt)))]) ⟨rfl, trivial⟩ ⟨rfl, trivial⟩) ?_
  refine AWR.ret (FPost.mk (.inr rfl) ⟨rfl, trivial⟩ ⟨rfl, trivial⟩ rfl ⟨trivial, trivial⟩ ⟨PermO.prow' perm_encInt, trivial⟩)
set_option maxRecDepth 100000 in
set_option maxHeartbeats 8000000 in
theorem w_impl_copyPebbles (p : TPebbles) : ∀ t, m_impl_copyPebbles p = some t → Fw.Fn Try.prog 88 [(.agg [(.pv (.xs false (p.Free.map encInt))), (.pv (.xs false (p.Tails.map encInt))), (.pv (.xs false (p.Placed.map encInt)))])] [] (.s (.agg [(.loc 0 0 t.Free.length), (.loc 1 0 t.Tails.length), (.loc 2 0 t.Placed.length)])) [(0, (.prow 3 (t.Free.map encInt))), (1, (.prow 3 (t.Tails.map encInt))), (2, (.prow 3 (t.Placed.map encInt)))] [] [0, 1, 2] := by
  refine Fw.Fn.of (P := Try.prog) (X := [0, 1, 2]) (pn := []) (rs := (fun (t : TPebbles) => [(.agg [(.loc 0 0 t.Free.length), (.loc 1 0 t.Tails.length), (.loc 2 0 t.Placed.length)])])) (dfs := (fun (t : TPebbles) => [(0, (.prow 3 (t.Free.map encInt))), (1, (.prow 3 (t.Tails.map encInt))), (2, (.prow 3 (t.Placed.map encInt)))])) Try.func88 rfl Try.ntmps88 (Nat.le_of_ble_eq_true rfl) rfl ?_
  intro w0 U0 R0 g0
  unfold m_impl_copyPebbles
  refine AWR.seq ?_
  refine AWR.region ?_
  refine AOR.step (LT.box (n := 21) (v := (.agg [(.pv (.xs false (p.Free.map encInt))), (.pv (.xs false (p.Tails.map encInt))), (.pv (.xs false (p.Placed.map encInt)))])) rfl sz68 (by exact rfl)) ⟨rfl, trivial⟩ trivial rfl rfl ?_
  refine AOR.step (LT.alloc (n := 22) (cells := [(sC nilV), (sC nilV), (sC nilV)]) rfl ti68 rfl rfl rfl) trivial trivial rfl rfl ?_
  refine AOR.nil ?_
  refine AWR.seq ?_
  refine AWR.draw mixed ?_
  refine AOD.pure (LT.fieldPl rfl fo68_0) ⟨rfl, trivial⟩ trivial rfl rfl ?_
  refine AOD.pure (LT.bload1 (c := (.pv (.xs false (p.Free.map encInt)))) rfl ag26 (by exact rfl)) ⟨rfl, trivial⟩ ⟨rfl, trivial⟩ rfl rfl ?_
  refine AOD.bind fun r1 hr1 => ?_
  refine AOD.step (@LT.callF Try.prog _ _ 92 _ _ [(.c (.pv (.xs false (p.Free.map encInt))))] _ _ [] _ _ _ _ ((show Fw.Fn Try.prog 92 [(.c (.pv (.xs false (p.Free.map encInt))))] [] (.s (.c (.loc 24 0 r1.length))) [(24, (.prow 3 (r1.map encInt)))] [] [24] from Fw.Fn.ren [(0, 24)] (w_impl_copyInts p.Free r1 hr1) rfl)) rfl cb92 (.cons (.c (.same rfl)) .nil) rfl rfl trivial) ⟨rfl, rfl, trivial⟩ trivial rfl rfl ?_
  refine AOD.pure (LT.fieldPl rfl fo68_1) ⟨rfl, trivial⟩ trivial rfl rfl ?_
  refine AOD.pure (LT.bload1 (c := (.pv (.xs false (p.Tails.map encInt)))) rfl ag26 (by exact rfl)) ⟨rfl, trivial⟩ ⟨rfl, trivial⟩ rfl rfl ?_
  refine AOD.bind fun r2 hr2 => ?_
  refine AOD.step (@LT.callF Try.prog _ _ 92 _ _ [(.c (.pv (.xs false (p.Tails.map encInt))))] _ _ [] _ _ _ _ ((show Fw.Fn Try.prog 92 [(.c (.pv (.xs false (p.Tails.map encInt))))] [] (.s (.c (.loc 26 0 r2.length))) [(26, (.prow 3 (r2.map encInt)))] [] [26] from Fw.Fn.ren [(0, 26)] (w_impl_copyInts p.Tails r2 hr2) rfl)) rfl cb92 (.cons (.c (.same rfl)) .nil) rfl rfl trivial) ⟨rfl, rfl, trivial⟩ trivial rfl rfl ?_
  refine AOD.pure (LT.fieldPl rfl fo68_2) ⟨rfl, trivial⟩ trivial rfl rfl ?_
  refine AOD.pure (LT.bload1 (c := (.pv (.xs false (p.Placed.map encInt)))) rfl ag26 (by exact rfl)) ⟨rfl, trivial⟩ ⟨rfl, trivial⟩ rfl rfl ?_
  refine AOD.bind fun r3 hr3 => ?_
  refine AOD.step (@LT.callF Try.prog _ _ 92 _ _ [(.c (.pv (.xs false (p.Placed.map encInt))))] _ _ [] _ _ _ _ ((show Fw.Fn Try.prog 92 [(.c (.pv (.xs false (p.Placed.map encInt))))] [] (.s (.c (.loc 28 0 r3.length))) [(28, (.prow 3 (r3.map encInt)))] [] [28] from Fw.Fn.ren [(0, 28)] (w_impl_copyInts p.Placed r3 hr3) rfl)) rfl cb92 (.cons (.c (.same rfl)) .nil) rfl rfl trivial) ⟨rfl, rfl, trivial⟩ trivial rfl rfl ?_
  refine AOD.pure (LT.build [(0, .tmp 5, (.c (.loc 24 0 r1.length))), (1, .tmp 8, (.c (.loc 26 0 r2.length))), (2, .tmp 11, (.c (.loc 28 0 r3.length)))] rfl rfl pl68 ti68 rfl rfl rfl) ⟨rfl, rfl, rfl, trivial⟩ trivial rfl rfl ?_
  refine AOD.step (LT.bstore (v := (.agg [(.loc 24 0 r1.length), (.loc 26 0 r2.length), (.loc 28 0 r3.length)])) (out := [(.loc 24 0 r1.length), (.loc 26 0 r2.length), (.loc 28 0 r3.length)]) rfl rfl (infS inf68) sz68 (by exact rfl) (by exact Nat.le_of_ble_eq_true rfl) (by exact rfl)) ⟨rfl, rfl, trivial⟩ ⟨rfl, trivial⟩ rfl rfl ?_
  refine AOD.nil (by kernel_rfl) ?_
  refine AWR.ent (Ent.of (σ' := [(2, (.s (.c (.pl 22 0))))]) (m' := [(22, (.row 68 [[(.loc 24 0 r1.length), (.loc 26 0 r2.length), (.loc 28 0 r3.length)]])), (24, (.prow 3 (r1.map encInt))), (26, (.prow 3 (r2.map encInt))), (28, (.prow 3 (r3.map encInt)))]) ⟨rfl, trivial⟩ ⟨rfl, rfl, rfl, rfl, trivial⟩) ?_
  refine AWR.ent (Ent.mv 24 0 rfl rfl) ?_
  refine AWR.ent (Ent.mv 26 1 rfl rfl) ?_
  refine AWR.ent (Ent.mv 28 2 rfl rfl) ?_
  refine AWR.ent (Ent.of (σ' := [(2, (.s (.c (.pl 22 0))))]) (m' := [(0, (.prow 3 (r1.map encInt))), (1, (.prow 3 (r2.map encInt))), (2, (.prow 3 (r3.map encInt))), (22, (.row 68 [[(.loc 0 0 r1.length), (.loc 1 0 r2.length), (.loc 2 0 r3.length)]]))]) ⟨rfl, trivial⟩ ⟨rfl, rfl, rfl, rfl, trivial⟩) ?_
  refine AWR.ret (FPost.mk (.inr rfl) ⟨⟨_, _, _, rfl, rfl, rfl, ag68, sz68, _, (infS inf68)⟩, trivial⟩ ⟨rfl, rfl, rfl, trivial⟩ rfl ⟨⟨trivial, trivial, trivial, trivial⟩, trivial⟩ ⟨PermO.prow' perm_encInt, PermO.prow' perm_encInt, PermO.prow' perm_encInt, trivial⟩)
set_option maxRecDepth 100000 in
set_option maxHeartbeats 8000000 in
theorem w_impl_Bar_other (x : TBar) (v : Int) : ∀ t, m_impl_Bar_other x v = some t → Fw.Fn Try.prog 95 [(.agg [(iC x.A), (iC x.B)]), (.c (iC v))] [] (.s (.c (iC t))) [] [] [] := by
  refine Fw.Fn.of (P := Try.prog) (X := []) (pn := []) (rs := (fun (t : Int) => [(.c (iC t))])) (dfs := (fun (t : Int) => [])) Try.func95 rfl Try.ntmps95 (Nat.le_of_ble_eq_true rfl) rfl ?_
  intro w0 U0 R0 g0
  unfold m_impl_Bar_other
  refine AWR.seq ?_
  refine AWR.region ?_
  refine AOR.step (LT.box (n := 21) (v := (.agg [(iC x.A), (iC x.B)])) rfl sz60 (by exact rfl)) ⟨rfl, trivial⟩ trivial rfl rfl ?_
  refine AOR.pure (LT.assign (v := (.s (.c (iC 0)))) rfl) ⟨⟨rfl, rfl⟩, trivial⟩ trivial rfl rfl ?_
  refine AOR.nil ?_
  refine AWR.seq ?_
  refine AWR.seq ?_
  refine AWR.region ?_
  refine AOR.pure (LT.fieldPl rfl fo60_0) ⟨rfl, trivial⟩ trivial rfl rfl ?_
  refine AOR.pure (LT.bload1 (c := (iC x.A)) rfl ag3 (by exact rfl)) ⟨rfl, trivial⟩ ⟨rfl, trivial⟩ rfl rfl ?_
  refine AOR.pure (LT.move (v := (.s (.c (iC v)))) rfl) ⟨rfl, trivial⟩ trivial rfl rfl ?_
  refine AOR.pure (LT.eql rfl) ⟨rfl, rfl, trivial⟩ trivial rfl rfl ?_
  refine AOR.nil ?_
  refine AWR.cond rfl (fun hc1 => ?_) (fun hc1 => ?_)
  · refine AWR.seq ?_
    refine AWR.region ?_
    refine AOR.pure (LT.fieldPl rfl fo60_1) ⟨rfl, trivial⟩ trivial rfl rfl ?_
    refine AOR.pure (LT.bload1 (c := (iC x.B)) rfl ag3 (by exact rfl)) ⟨rfl, trivial⟩ ⟨rfl, trivial⟩ rfl rfl ?_
    refine AOR.pure (LT.assign (v := (.s (.c (iC x.B)))) rfl) ⟨rfl, trivial⟩ trivial rfl rfl ?_
    refine AOR.nil ?_
    refine AWR.ret (FPost.mk (.inr rfl) ⟨rfl, trivial⟩ trivial rfl ⟨PermP.sc, trivial⟩ trivial)
  · refine AWR.skip ?_
    refine AWR.seq ?_
    refine AWR.region ?_
    refine AOR.pure (LT.fieldPl rfl fo60_0) ⟨rfl, trivial⟩ trivial rfl rfl ?_
    refine AOR.pure (LT.bload1 (c := (iC x.A)) rfl ag3 (by exact rfl)) ⟨rfl, trivial⟩ ⟨rfl, trivial⟩ rfl rfl ?_
    refine AOR.pure (LT.assign (v := (.s (.c (iC x.A)))) rfl) ⟨rfl, trivial⟩ trivial rfl rfl ?_
    refine AOR.nil ?_
    refine AWR.ret (FPost.mk (.inr rfl) ⟨rfl, trivial⟩ trivial rfl ⟨PermP.sc, trivial⟩ trivial)
set_option maxRecDepth 100000 in
set_option maxHeartbeats 8000000 in
theorem w_impl_moveTo (bars : (List TBar)) (p : TPebbles) (a : Int) (b : Int) : ∀ t, m_impl_moveTo bars p a b = some t → Fw.Fn Try.prog 94 [(.c (.pv (.xs false (bars.map encTBar)))), (.c (.pl 0 0)), (.c (iC a)), (.c (iC b))] [(0, (.row 68 [[(.loc 1 0 p.Free.length), (.loc 2 0 p.Tails.length), (.loc 3 0 p.Placed.length)]])), (1, (.prow 3 (p.Free.map encInt))), (2, (.prow 3 (p.Tails.map encInt))), (3, (.prow 3 (p.Placed.map encInt)))] (.s (.c (bC t.1))) [(0, (.row 68 [[(.loc 1 0 t.2.Free.length), (.loc 2 0 t.2.Tails.length), (.loc 3 0 t.2.Placed.length)]])), (1, (.prow 3 (t.2.Free.map encInt))), (2, (.prow 3 (t.2.Tails.map encInt))), (3, (.prow 3 (t.2.Placed.map encInt)))] [0, 1, 2, 3] [1, 2, 3] := by
  refine Fw.Fn.of (P := Try.prog) (X := [1, 2, 3]) (pn := [0]) (rs := (fun (t : (Bool × TPebbles)) => [(.c (bC t.1))])) (dfs := (fun (t : (Bool × TPebbles)) => [(0, (.row 68 [[(.loc 1 0 t.2.Free.length), (.loc 2 0 t.2.Tails.length), (.loc 3 0 t.2.Placed.length)]])), (1, (.prow 3 (t.2.Free.map encInt))), (2, (.prow 3 (t.2.Tails.map encInt))), (3, (.prow 3 (t.2.Placed.map encInt)))])) Try.func94 rfl Try.ntmps94 (Nat.le_of_ble_eq_true rfl) rfl ?_
  intro w0 U0 R0 g0
  unfold m_impl_moveTo
  refine AWR.seq ?_
  refine AWR.region ?_
  refine AOR.pure (LT.assign (v := (.s (.c (bC false)))) rfl) ⟨⟨rfl, rfl⟩, trivial⟩ trivial rfl rfl ?_
  refine AOR.nil ?_
  refine AWR.seq ?_
  refine AWR.region ?_
  refine AOR.step (LT.makeMap (n := 21) rfl) trivial trivial rfl rfl ?_
  refine AOR.pure (LT.move (v := (.s (.c (iC a)))) rfl) ⟨rfl, trivial⟩ trivial rfl rfl ?_
  refine AOR.step (LT.mapPut (v := .tup []) (.inr rfl) rfl map92) ⟨rfl, rfl, ⟨rfl, rfl⟩, trivial⟩ ⟨rfl, trivial⟩ rfl rfl ?_
  refine AOR.pure (LT.move (v := (.s (.c (.mref 21)))) rfl) ⟨rfl, trivial⟩ trivial rfl rfl ?_
  refine AOR.pure (LT.assign (v := (.s (.c (.mref 21)))) rfl) ⟨rfl, trivial⟩ trivial rfl rfl ?_
  refine AOR.nil ?_
  refine AWR.seq ?_
  refine AWR.region ?_
  refine AOR.pure (LT.move (v := (.s (.c (iC a)))) rfl) ⟨rfl, trivial⟩ trivial rfl rfl ?_
  refine AOR.step (LT.tbuildSlice (n := 22) (enc := encInt) [(0, .tmp 23, (.c (iC a)))] ([a] : List Int) rfl rfl und26 ti3 rfl rfl rfl rfl (by decide) (fun _ => rfl) rfl) ⟨rfl, trivial⟩ trivial rfl rfl ?_
  refine AOR.pure (LT.assign (v := (.s (.c (.loc 22 0 ([a] : List Int).length)))) rfl) ⟨rfl, trivial⟩ trivial rfl rfl ?_
  refine AOR.nil ?_
  refine AWR.seq ?_
  refine AWR.seq ?_
  refine AWR.ent (Ent.of (σ' := [(0, (.s (.c (.pv (.xs false (bars.map encTBar)))))), (1, (.s (.c (.pl 0 0)))), (2, (.s (.c (iC a)))), (3, (.s (.c (iC b)))), (9, (.s (.c (.mref 21)))), (10, (.s (.c (.loc 22 0 ([a] : List Int).length))))]) (m' := [(0, (.row 68 [[(.loc 1 0 p.Free.length), (.loc 2 0 p.Tails.length), (.loc 3 0 p.Placed.length)]])), (1, (.prow 3 (p.Free.map encInt))), (2, (.prow 3 (p.Tails.map encInt))), (3, (.prow 3 (p.Placed.map encInt))), (21, (.mp (mput ([] : List (Int × Int)) a (-1)))), (22, (.prow 3 (([a] : List Int).map encInt)))]) ⟨rfl, rfl, rfl, rfl, rfl, rfl, trivial⟩ ⟨rfl, rfl, rfl, rfl, rfl, rfl, trivial⟩) ?_
  refine AWR.region ?_
  refine AOR.pure (LT.assign (v := (.s (.c (iC 0)))) rfl) ⟨⟨rfl, rfl⟩, trivial⟩ trivial rfl rfl ?_
  refine AOR.nil ?_
  refine AWR.block ?_
  refine AWR.loopR (id := 0) (m_impl_moveTo_L7 bars p a b) (fun s1 => ([(0, (.s (.c (.pv (.xs false (bars.map encTBar)))))), (1, (.s (.c (.pl 0 0)))), (2, (.s (.c (iC a)))), (3, (.s (.c (iC b)))), (9, (.s (.c (.mref 21)))), (10, (.s (.c (.loc 22 0 s1.2.2.length)))), (11, (.s (.c (iC s1.1))))], [(0, (.row 68 [[(.loc 1 0 p.Free.length), (.loc 2 0 p.Tails.length), (.loc 3 0 p.Placed.length)]])), (1, (.prow 3 (p.Free.map encInt))), (2, (.prow 3 (p.Tails.map encInt))), (3, (.prow 3 (p.Placed.map encInt))), (21, (.mp s1.2.1)), (22, (.prow 3 (s1.2.2.map encInt)))])) (fun b120 => ([], [(0, (.row 68 [[(.loc 1 0 p.Free.length), (.loc 2 0 p.Tails.length), (.loc 3 0 p.Placed.length)]])), (1, (.prow 3 (p.Free.map encInt))), (2, (.prow 3 (p.Tails.map encInt))), (3, (.prow 3 (p.Placed.map encInt)))])) (FPost Try.prog Try.f94.results.toList [(0, (.row 68 [[(.loc 1 0 p.Free.length), (.loc 2 0 p.Tails.length), (.loc 3 0 p.Placed.length)]])), (1, (.prow 3 (p.Free.map encInt))), (2, (.prow 3 (p.Tails.map encInt))), (3, (.prow 3 (p.Placed.map encInt)))] [1, 2, 3] (fun (t : (Bool × TPebbles)) => [(.c (bC t.1))]) (fun (t : (Bool × TPebbles)) => [(0, (.row 68 [[(.loc 1 0 t.2.Free.length), (.loc 2 0 t.2.Tails.length), (.loc 3 0 t.2.Placed.length)]])), (1, (.prow 3 (t.2.Free.map encInt))), (2, (.prow 3 (t.2.Tails.map encInt))), (3, (.prow 3 (t.2.Placed.map encInt)))])) ?_ (Ent.of ⟨rfl, rfl, rfl, rfl, rfl, rfl, rfl, trivial⟩ ⟨rfl, rfl, rfl, rfl, rfl, rfl, trivial⟩) rfl (fun b120 _ => ?_) (by intro r t σ m ht hk; injection ht with ht; subst ht; exact hk)
  · intro s1
    unfold m_impl_moveTo_L7
    refine AWR.seq ?_
    refine AWR.seq ?_
    refine AWR.region ?_
    refine AOR.pure (LT.move (v := (.s (.c (iC s1.1)))) rfl) ⟨rfl, trivial⟩ trivial rfl rfl ?_
    refine AOR.pure (LT.move (v := (.s (.c (.loc 22 0 s1.2.2.length)))) rfl) ⟨rfl, trivial⟩ trivial rfl rfl ?_
    refine AOR.pure (LT.lenLoc rfl und26) ⟨rfl, trivial⟩ trivial rfl rfl ?_
    refine AOR.pure (LT.lss rfl) ⟨rfl, rfl, trivial⟩ trivial rfl rfl ?_
    refine AOR.nil ?_
    refine AWR.cond rfl (fun hc121 => ?_) (fun hc121 => ?_)
    · refine AWR.skip ?_
      refine AWR.seq ?_
      refine AWR.block ?_
      refine AWR.seq ?_
      refine AWR.region ?_
      refine AOR.pure (LT.move (v := (.s (.c (.pl 0 0)))) rfl) ⟨rfl, trivial⟩ trivial rfl rfl ?_
      refine AOR.pure (LT.nilPl rfl) ⟨rfl, trivial⟩ trivial rfl rfl ?_
      refine AOR.pure (LT.fieldPl rfl fo68_2) ⟨rfl, trivial⟩ trivial rfl rfl ?_
      refine AOR.pure (LT.bload1 (c := (.loc 3 0 p.Placed.length)) rfl ag26 (by exact rfl)) ⟨rfl, trivial⟩ ⟨rfl, trivial⟩ rfl rfl ?_
      refine AOR.pure (LT.lenLoc rfl und26) ⟨rfl, trivial⟩ trivial rfl rfl ?_
      refine AOR.pure (LT.move (v := (.s (.c (iC 0)))) rfl) ⟨⟨rfl, rfl⟩, trivial⟩ trivial rfl rfl ?_
      refine AOR.nil ?_
      refine AWR.block ?_
      refine AWR.loopR (id := 2) (m_impl_moveTo_L10 bars p a b s1) (fun s122 => ([(0, (.s (.c (.pv (.xs false (bars.map encTBar)))))), (1, (.s (.c (.pl 0 0)))), (2, (.s (.c (iC a)))), (3, (.s (.c (iC b)))), (9, (.s (.c (.mref 21)))), (10, (.s (.c (.loc 22 0 s122.2.2.length)))), (11, (.s (.c (iC s1.1)))), (34, (.s (.c (.loc 3 0 p.Placed.length)))), (35, (.s (.c (iC (p.Placed.length : Int))))), (36, (.s (.c (iC s122.1))))], [(0, (.row 68 [[(.loc 1 0 p.Free.length), (.loc 2 0 p.Tails.length), (.loc 3 0 p.Placed.length)]])), (1, (.prow 3 (p.Free.map encInt))), (2, (.prow 3 (p.Tails.map encInt))), (3, (.prow 3 (p.Placed.map encInt))), (21, (.mp s122.2.1)), (22, (.prow 3 (s122.2.2.map encInt)))])) (fun b179 => ([(0, (.s (.c (.pv (.xs false (bars.map encTBar)))))), (1, (.s (.c (.pl 0 0)))), (2, (.s (.c (iC a)))), (3, (.s (.c (iC b)))), (9, (.s (.c (.mref 21)))), (10, (.s (.c (.loc 22 0 b179.2.2.length)))), (11, (.s (.c (iC b179.1))))], [(0, (.row 68 [[(.loc 1 0 p.Free.length), (.loc 2 0 p.Tails.length), (.loc 3 0 p.Placed.length)]])), (1, (.prow 3 (p.Free.map encInt))), (2, (.prow 3 (p.Tails.map encInt))), (3, (.prow 3 (p.Placed.map encInt))), (21, (.mp b179.2.1)), (22, (.prow 3 (b179.2.2.map encInt)))])) (FPost Try.prog Try.f94.results.toList [(0, (.row 68 [[(.loc 1 0 p.Free.length), (.loc 2 0 p.Tails.length), (.loc 3 0 p.Placed.length)]])), (1, (.prow 3 (p.Free.map encInt))), (2, (.prow 3 (p.Tails.map encInt))), (3, (.prow 3 (p.Placed.map encInt)))] [1, 2, 3] (fun (t : (Bool × TPebbles)) => [(.c (bC t.1))]) (fun (t : (Bool × TPebbles)) => [(0, (.row 68 [[(.loc 1 0 t.2.Free.length), (.loc 2 0 t.2.Tails.length), (.loc 3 0 t.2.Placed.length)]])), (1, (.prow 3 (t.2.Free.map encInt))), (2, (.prow 3 (t.2.Tails.map encInt))), (3, (.prow 3 (t.2.Placed.map encInt)))])) ?_ (Ent.of ⟨rfl, rfl, rfl, rfl, rfl, rfl, rfl, rfl, rfl, rfl, trivial⟩ ⟨rfl, rfl, rfl, rfl, rfl, rfl, trivial⟩) rfl (fun b179 _ => ?_) (by intro r t σ m ht hk; injection ht with ht; subst ht; exact ⟨rfl, hk⟩)
      · intro s122
        unfold m_impl_moveTo_L10
        refine AWR.seq ?_
        refine AWR.region ?_
        refine AOR.pure (LT.lss rfl) ⟨rfl, rfl, trivial⟩ trivial rfl rfl ?_
        refine AOR.nil ?_
        refine AWR.seq ?_
        refine AWR.cond rfl (fun hc180 => ?_) (fun hc180 => ?_)
        · refine AWR.skip ?_
          refine AWR.seq ?_
          refine AWR.block ?_
          refine AWR.seq ?_
          refine AWR.region ?_
          refine AOR.pure (LT.move (v := (.s (.c (iC s122.1)))) rfl) ⟨rfl, trivial⟩ trivial rfl rfl ?_
          refine AOR.bind fun x181 hx181 => ?_
          refine AOR.pure (LT.tindexLoc rfl rfl el26 hx181) ⟨rfl, rfl, trivial⟩ ⟨rfl, trivial⟩ rfl rfl ?_
          refine AOR.pure (LT.tload1 (k := 0) rfl ag3 hx181 (by exact rfl) (by exact rfl)) ⟨rfl, trivial⟩ ⟨rfl, trivial⟩ rfl rfl ?_
          refine AOR.pure (LT.assign (v := (.s (.c (iC s122.1)))) rfl) ⟨rfl, trivial⟩ trivial rfl rfl ?_
          refine AOR.pure (LT.assign (v := (.s (.c (iC x181)))) rfl) ⟨rfl, trivial⟩ trivial rfl rfl ?_
          refine AOR.nil ?_
          refine AWR.seq ?_
          refine AWR.seq ?_
          refine AWR.draw mixed ?_
          refine AOD.pure (LT.move (v := (.s (.c (.pl 0 0)))) rfl) ⟨rfl, trivial⟩ trivial rfl rfl ?_
          refine AOD.pure (LT.nilPl rfl) ⟨rfl, trivial⟩ trivial rfl rfl ?_
          refine AOD.pure (LT.fieldPl rfl fo68_1) ⟨rfl, trivial⟩ trivial rfl rfl ?_
          refine AOD.pure (LT.bload1 (c := (.loc 2 0 p.Tails.length)) rfl ag26 (by exact rfl)) ⟨rfl, trivial⟩ ⟨rfl, trivial⟩ rfl rfl ?_
          refine AOD.pure (LT.move (v := (.s (.c (iC s122.1)))) rfl) ⟨rfl, trivial⟩ trivial rfl rfl ?_
          refine AOD.bind fun x182 hx182 => ?_
          refine AOD.pure (LT.tindexLoc rfl rfl el26 hx182) ⟨rfl, rfl, trivial⟩ ⟨rfl, trivial⟩ rfl rfl ?_
          refine AOD.pure (LT.tload1 (k := 0) rfl ag3 hx182 (by exact rfl) (by exact rfl)) ⟨rfl, trivial⟩ ⟨rfl, trivial⟩ rfl rfl ?_
          refine AOD.pure (LT.move (v := (.s (.c (.loc 22 0 s122.2.2.length)))) rfl) ⟨rfl, trivial⟩ trivial rfl rfl ?_
          refine AOD.pure (LT.move (v := (.s (.c (iC s1.1)))) rfl) ⟨rfl, trivial⟩ trivial rfl rfl ?_
          refine AOD.bind fun x183 hx183 => ?_
          refine AOD.pure (LT.tindexLoc rfl rfl el26 hx183) ⟨rfl, rfl, trivial⟩ ⟨rfl, trivial⟩ rfl rfl ?_
          refine AOD.pure (LT.tload1 (k := 0) rfl ag3 hx183 (by exact rfl) (by exact rfl)) ⟨rfl, trivial⟩ ⟨rfl, trivial⟩ rfl rfl ?_
          refine AOD.pure (LT.neq rfl) ⟨rfl, rfl, trivial⟩ trivial rfl rfl ?_
          refine AOD.nil (by kernel_rfl) ?_
          refine AWR.cond rfl (fun hc184 => ?_) (fun hc184 => ?_)
          · refine AWR.exit rfl ?_
            refine AWR.ent (Ent.of (σ' := [(0, (.s (.c (.pv (.xs false (bars.map encTBar)))))), (1, (.s (.c (.pl 0 0)))), (2, (.s (.c (iC a)))), (3, (.s (.c (iC b)))), (9, (.s (.c (.mref 21)))), (10, (.s (.c (.loc 22 0 s122.2.2.length)))), (11, (.s (.c (iC s1.1)))), (34, (.s (.c (.loc 3 0 p.Placed.length)))), (35, (.s (.c (iC (p.Placed.length : Int))))), (36, (.s (.c (iC s122.1))))]) (m' := [(0, (.row 68 [[(.loc 1 0 p.Free.length), (.loc 2 0 p.Tails.length), (.loc 3 0 p.Placed.length)]])), (1, (.prow 3 (p.Free.map encInt))), (2, (.prow 3 (p.Tails.map encInt))), (3, (.prow 3 (p.Placed.map encInt))), (21, (.mp s122.2.1)), (22, (.prow 3 (s122.2.2.map encInt)))]) ⟨rfl, rfl, rfl, rfl, rfl, rfl, rfl, rfl, rfl, rfl, trivial⟩ ⟨rfl, rfl, rfl, rfl, rfl, rfl, trivial⟩) ?_
            refine AWR.region ?_
            refine AOR.pure (LT.add rfl) ⟨rfl, ⟨rfl, rfl⟩, trivial⟩ trivial rfl rfl ?_
            refine AOR.pure (LT.move (v := (.s (.c (iC (w64 (s122.1 + 1)))))) rfl) ⟨rfl, trivial⟩ trivial rfl rfl ?_
            refine AOR.nil ?_
            refine AWR.nil ⟨rfl, Ent.of ⟨rfl, rfl, rfl, rfl, rfl, rfl, rfl, rfl, rfl, rfl, trivial⟩ ⟨rfl, rfl, rfl, rfl, rfl, rfl, trivial⟩⟩
          · refine AWR.skip ?_
            refine AWR.seq ?_
            refine AWR.ent (Ent.of (σ' := [(0, (.s (.c (.pv (.xs false (bars.map encTBar)))))), (1, (.s (.c (.pl 0 0)))), (2, (.s (.c (iC a)))), (3, (.s (.c (iC b)))), (9, (.s (.c (.mref 21)))), (10, (.s (.c (.loc 22 0 s122.2.2.length)))), (11, (.s (.c (iC s1.1)))), (12, (.s (.c (iC s122.1)))), (13, (.s (.c (iC x181)))), (34, (.s (.c (.loc 3 0 p.Placed.length)))), (35, (.s (.c (iC (p.Placed.length : Int))))), (36, (.s (.c (iC s122.1))))]) (m' := [(0, (.row 68 [[(.loc 1 0 p.Free.length), (.loc 2 0 p.Tails.length), (.loc 3 0 p.Placed.length)]])), (1, (.prow 3 (p.Free.map encInt))), (2, (.prow 3 (p.Tails.map encInt))), (3, (.prow 3 (p.Placed.map encInt))), (21, (.mp s122.2.1)), (22, (.prow 3 (s122.2.2.map encInt)))]) ⟨rfl, rfl, rfl, rfl, rfl, rfl, rfl, rfl, rfl, rfl, rfl, rfl, trivial⟩ ⟨rfl, rfl, rfl, rfl, rfl, rfl, trivial⟩) ?_
            refine AWR.draw mixed ?_
            refine AOD.pure (LT.move (v := (.s (.c (.pv (.xs false (bars.map encTBar)))))) rfl) ⟨rfl, trivial⟩ trivial rfl rfl ?_
            refine AOD.pure (LT.move (v := (.s (.c (iC x181)))) rfl) ⟨rfl, trivial⟩ trivial rfl rfl ?_
            refine AOD.bind fun x185 hx185 => ?_
            refine AOD.pure (LT.tindexRO (enc := encTBar) rfl el28 hx185 sz60) ⟨rfl, rfl, trivial⟩ trivial rfl rfl ?_
            refine AOD.pure (LT.loadPxN rfl ag60 (infS inf60) (by exact sz60.symm)) ⟨rfl, trivial⟩ trivial rfl rfl ?_
            refine AOD.pure (LT.move (v := (.s (.c (.loc 22 0 s122.2.2.length)))) rfl) ⟨rfl, trivial⟩ trivial rfl rfl ?_
            refine AOD.pure (LT.move (v := (.s (.c (iC s1.1)))) rfl) ⟨rfl, trivial⟩ trivial rfl rfl ?_
            refine AOD.bind fun x186 hx186 => ?_
            refine AOD.pure (LT.tindexLoc rfl rfl el26 hx186) ⟨rfl, rfl, trivial⟩ ⟨rfl, trivial⟩ rfl rfl ?_
            refine AOD.pure (LT.tload1 (k := 0) rfl ag3 hx186 (by exact rfl) (by exact rfl)) ⟨rfl, trivial⟩ ⟨rfl, trivial⟩ rfl rfl ?_
            refine AOD.bind fun r187 hr187 => ?_
            refine AOD.pure (@LT.callF Try.prog _ _ 95 _ _ [(.agg [(iC x185.A), (iC x185.B)]), (.c (iC x186))] _ _ [] _ _ _ _ (w_impl_Bar_other x185 x186 r187 hr187) rfl cb95 (.cons (.agg (.cons (.same rfl) (.cons (.same rfl) .nil))) (.cons (.c (.same rfl)) .nil)) rfl rfl trivial) ⟨rfl, rfl, rfl, trivial⟩ trivial rfl rfl ?_
            refine AOD.pure (LT.assign (v := (.s (.c (iC r187)))) rfl) ⟨rfl, trivial⟩ trivial rfl rfl ?_
            refine AOD.nil (by kernel_rfl) ?_
            refine AWR.seq ?_
            refine AWR.seq ?_
            refine AWR.region ?_
            refine AOR.pure (LT.move (v := (.s (.c (.mref 21)))) rfl) ⟨rfl, trivial⟩ trivial rfl rfl ?_
            refine AOR.pure (LT.move (v := (.s (.c (iC r187)))) rfl) ⟨rfl, trivial⟩ trivial rfl rfl ?_
            refine AOR.pure (LT.mapGetOk rfl map92) ⟨rfl, rfl, trivial⟩ ⟨rfl, trivial⟩ rfl rfl ?_
            refine AOR.pure (LT.move (v := (.tup [(.c (iC (mget s122.2.1 r187))), (.c (bC (mhas s122.2.1 r187)))])) rfl) ⟨rfl, trivial⟩ trivial rfl rfl ?_
            refine AOR.pure (LT.extract (v := (.c (iC (mget s122.2.1 r187)))) rfl (by exact rfl)) ⟨rfl, trivial⟩ trivial rfl rfl ?_
            refine AOR.pure (LT.extract (v := (.c (bC (mhas s122.2.1 r187)))) rfl (by exact rfl)) ⟨rfl, trivial⟩ trivial rfl rfl ?_
            refine AOR.pure (LT.assign (v := (.s (.c (iC (mget s122.2.1 r187))))) rfl) ⟨rfl, trivial⟩ trivial rfl rfl ?_
            refine AOR.pure (LT.assign (v := (.s (.c (bC (mhas s122.2.1 r187))))) rfl) ⟨rfl, trivial⟩ trivial rfl rfl ?_
            refine AOR.nil ?_
            refine AWR.seq ?_
            refine AWR.ent (Ent.of (σ' := [(0, (.s (.c (.pv (.xs false (bars.map encTBar)))))), (1, (.s (.c (.pl 0 0)))), (2, (.s (.c (iC a)))), (3, (.s (.c (iC b)))), (9, (.s (.c (.mref 21)))), (10, (.s (.c (.loc 22 0 s122.2.2.length)))), (11, (.s (.c (iC s1.1)))), (12, (.s (.c (iC s122.1)))), (14, (.s (.c (iC r187)))), (16, (.s (.c (bC (mhas s122.2.1 r187))))), (34, (.s (.c (.loc 3 0 p.Placed.length)))), (35, (.s (.c (iC (p.Placed.length : Int))))), (36, (.s (.c (iC s122.1))))]) (m' := [(0, (.row 68 [[(.loc 1 0 p.Free.length), (.loc 2 0 p.Tails.length), (.loc 3 0 p.Placed.length)]])), (1, (.prow 3 (p.Free.map encInt))), (2, (.prow 3 (p.Tails.map encInt))), (3, (.prow 3 (p.Placed.map encInt))), (21, (.mp s122.2.1)), (22, (.prow 3 (s122.2.2.map encInt)))]) ⟨rfl, rfl, rfl, rfl, rfl, rfl, rfl, rfl, rfl, rfl, rfl, rfl, rfl, trivial⟩ ⟨rfl, rfl, rfl, rfl, rfl, rfl, trivial⟩) ?_
            refine AWR.region ?_
            refine AOR.pure (LT.move (v := (.s (.c (bC (mhas s122.2.1 r187))))) rfl) ⟨rfl, trivial⟩ trivial rfl rfl ?_
            refine AOR.nil ?_
            refine AWR.cond rfl (fun hc188 => ?_) (fun hc188 => ?_)
            · refine AWR.exit rfl ?_
              refine AWR.region ?_
              refine AOR.pure (LT.add rfl) ⟨rfl, ⟨rfl, rfl⟩, trivial⟩ trivial rfl rfl ?_
              refine AOR.pure (LT.move (v := (.s (.c (iC (w64 (s122.1 + 1)))))) rfl) ⟨rfl, trivial⟩ trivial rfl rfl ?_
              refine AOR.nil ?_
              refine AWR.nil ⟨rfl, Ent.of ⟨rfl, rfl, rfl, rfl, rfl, rfl, rfl, rfl, rfl, rfl, trivial⟩ ⟨rfl, rfl, rfl, rfl, rfl, rfl, trivial⟩⟩
            · refine AWR.skip ?_
              refine AWR.seq ?_
              refine AWR.region ?_
              refine AOR.pure (LT.move (v := (.s (.c (.mref 21)))) rfl) ⟨rfl, trivial⟩ trivial rfl rfl ?_
              refine AOR.pure (LT.move (v := (.s (.c (iC r187)))) rfl) ⟨rfl, trivial⟩ trivial rfl rfl ?_
              refine AOR.pure (LT.move (v := (.s (.c (iC s122.1)))) rfl) ⟨rfl, trivial⟩ trivial rfl rfl ?_
              refine AOR.step (LT.mapPut (v := .tup []) (.inl rfl) rfl map92) ⟨rfl, rfl, rfl, trivial⟩ ⟨rfl, trivial⟩ rfl rfl ?_
              refine AOR.nil ?_
              refine AWR.seq ?_
              refine AWR.seq ?_
              refine AWR.joinK (fun j191 => ([(0, (.s (.c (.pv (.xs false (bars.map encTBar)))))), (1, (.s (.c (.pl 0 0)))), (2, (.s (.c (iC a)))), (3, (.s (.c (iC b)))), (9, (.s (.c (.mref 21)))), (10, (.s (.c (.loc 22 0 s122.2.2.length)))), (11, (.s (.c (iC s1.1)))), (14, (.s (.c (iC r187)))), (34, (.s (.c (.loc 3 0 p.Placed.length)))), (35, (.s (.c (iC (p.Placed.length : Int))))), (36, (.s (.c (iC s122.1)))), (84, (.s (.c (bC j191))))], [(0, (.row 68 [[(.loc 1 0 p.Free.length), (.loc 2 0 p.Tails.length), (.loc 3 0 p.Placed.length)]])), (1, (.prow 3 (p.Free.map encInt))), (2, (.prow 3 (p.Tails.map encInt))), (3, (.prow 3 (p.Placed.map encInt))), (21, (.mp (mput s122.2.1 r187 s122.1))), (22, (.prow 3 (s122.2.2.map encInt)))])) ?_ (fun j191 _ => ?_)
              · refine AWR.region ?_
                refine AOR.pure (LT.move (v := (.s (.c (iC r187)))) rfl) ⟨rfl, trivial⟩ trivial rfl rfl ?_
                refine AOR.pure (LT.move (v := (.s (.c (iC b)))) rfl) ⟨rfl, trivial⟩ trivial rfl rfl ?_
                refine AOR.pure (LT.eql rfl) ⟨rfl, rfl, trivial⟩ trivial rfl rfl ?_
                refine AOR.pure (LT.move (v := (.s (.c (bC (r187 == b))))) rfl) ⟨rfl, trivial⟩ trivial rfl rfl ?_
                refine AOR.split (fun hb192 => ?_) (fun hb192 => ?_)
                · refine AOR.skip ⟨_, rfl, .inl ⟨_, rfl, (by rw [hb192]; rfl)⟩⟩ rfl ?_
                  refine AOR.skip ⟨_, rfl, .inl ⟨_, rfl, (by rw [hb192]; rfl)⟩⟩ rfl ?_
                  refine AOR.skip ⟨_, rfl, .inl ⟨_, rfl, (by rw [hb192]; rfl)⟩⟩ rfl ?_
                  refine AOR.skip ⟨_, rfl, .inl ⟨_, rfl, (by rw [hb192]; rfl)⟩⟩ rfl ?_
                  refine AOR.skip ⟨_, rfl, .inl ⟨_, rfl, (by rw [hb192]; rfl)⟩⟩ rfl ?_
                  refine AOR.skip ⟨_, rfl, .inl ⟨_, rfl, (by rw [hb192]; rfl)⟩⟩ rfl ?_
                  refine AOR.skip ⟨_, rfl, .inl ⟨_, rfl, (by rw [hb192]; rfl)⟩⟩ rfl ?_
                  refine AOR.skip ⟨_, rfl, .inl ⟨_, rfl, (by rw [hb192]; rfl)⟩⟩ rfl ?_
                  refine AOR.pure (LT.pickT (v := (.s (.c (bC true)))) rfl hb192) ⟨rfl, ⟨rfl, rfl⟩, trivial⟩ trivial rfl rfl ?_
                  refine AOR.nil ?_
                  refine AWR.nil ⟨rfl, Ent.of ⟨rfl, rfl, rfl, rfl, rfl, rfl, rfl, rfl, rfl, rfl, rfl, rfl, trivial⟩ ⟨rfl, rfl, rfl, rfl, rfl, rfl, trivial⟩⟩
                · refine AOR.pure (LT.move (v := (.s (.c (.pl 0 0)))) rfl) ⟨rfl, trivial⟩ trivial ⟨_, rfl, .inl ⟨_, rfl, (by rw [hb192]; rfl)⟩⟩ rfl ?_
                  refine AOR.pure (LT.nilPl rfl) ⟨rfl, trivial⟩ trivial ⟨_, rfl, .inl ⟨_, rfl, (by rw [hb192]; rfl)⟩⟩ rfl ?_
                  refine AOR.pure (LT.fieldPl rfl fo68_0) ⟨rfl, trivial⟩ trivial ⟨_, rfl, .inl ⟨_, rfl, (by rw [hb192]; rfl)⟩⟩ rfl ?_
                  refine AOR.pure (LT.bload1 (c := (.loc 1 0 p.Free.length)) rfl ag26 (by exact rfl)) ⟨rfl, trivial⟩ ⟨rfl, trivial⟩ ⟨_, rfl, .inl ⟨_, rfl, (by rw [hb192]; rfl)⟩⟩ rfl ?_
                  refine AOR.pure (LT.move (v := (.s (.c (iC r187)))) rfl) ⟨rfl, trivial⟩ trivial ⟨_, rfl, .inl ⟨_, rfl, (by rw [hb192]; rfl)⟩⟩ rfl ?_
                  refine AOR.bind fun x193 hx193 => ?_
                  refine AOR.pure (LT.tindexLoc rfl rfl el26 hx193) ⟨rfl, rfl, trivial⟩ ⟨rfl, trivial⟩ ⟨_, rfl, .inl ⟨_, rfl, (by rw [hb192]; rfl)⟩⟩ rfl ?_
                  refine AOR.pure (LT.tload1 (k := 0) rfl ag3 hx193 (by exact rfl) (by exact rfl)) ⟨rfl, trivial⟩ ⟨rfl, trivial⟩ ⟨_, rfl, .inl ⟨_, rfl, (by rw [hb192]; rfl)⟩⟩ rfl ?_
                  refine AOR.pure (LT.eql rfl) ⟨rfl, ⟨rfl, rfl⟩, trivial⟩ trivial ⟨_, rfl, .inl ⟨_, rfl, (by rw [hb192]; rfl)⟩⟩ rfl ?_
                  refine AOR.pure (LT.pickF (v := (.s (.c (bC (x193 == 0))))) rfl hb192) ⟨rfl, rfl, trivial⟩ trivial rfl rfl ?_
                  refine AOR.nil ?_
                  refine AWR.nil ⟨rfl, Ent.of ⟨rfl, rfl, rfl, rfl, rfl, rfl, rfl, rfl, rfl, rfl, rfl, rfl, trivial⟩ ⟨rfl, rfl, rfl, rfl, rfl, rfl, trivial⟩⟩
              · refine AWR.cond rfl (fun hc194 => ?_) (fun hc194 => ?_)
                · refine AWR.seq ?_
                  refine AWR.region ?_
                  refine AOR.pure (LT.move (v := (.s (.c (.loc 22 0 s122.2.2.length)))) rfl) ⟨rfl, trivial⟩ trivial rfl rfl ?_
                  refine AOR.pure (LT.move (v := (.s (.c (iC r187)))) rfl) ⟨rfl, trivial⟩ trivial rfl rfl ?_
                  refine AOR.step (LT.tbuildSlice (n := 24) (enc := encInt) [(0, .tmp 86, (.c (iC r187)))] ([r187] : List Int) rfl rfl und26 ti3 rfl rfl rfl rfl (by decide) (fun _ => rfl) rfl) ⟨rfl, trivial⟩ trivial rfl rfl ?_
                  refine AOR.bind fun u195 hu195 => ?_
                  refine AOR.step (LT.tappP (enc := encInt) rfl rfl rfl und26 ti3 rfl (by decide) (by decide) (fun _ => rfl) (lim_le hu195)) ⟨rfl, rfl, trivial⟩ ⟨rfl, rfl, trivial⟩ rfl rfl ?_
                  refine AOR.pure (LT.assign (v := (.s (.c (.loc 22 0 (s122.2.2 ++ ([r187] : List Int)).length)))) rfl) ⟨rfl, trivial⟩ trivial rfl rfl ?_
                  refine AOR.nil ?_
                  refine AWR.exit rfl ?_
                  refine AWR.region ?_
                  refine AOR.pure (LT.add rfl) ⟨rfl, ⟨rfl, rfl⟩, trivial⟩ trivial rfl rfl ?_
                  refine AOR.pure (LT.move (v := (.s (.c (iC (w64 (s122.1 + 1)))))) rfl) ⟨rfl, trivial⟩ trivial rfl rfl ?_
                  refine AOR.nil ?_
                  refine AWR.nil ⟨rfl, Ent.of ⟨rfl, rfl, rfl, rfl, rfl, rfl, rfl, rfl, rfl, rfl, trivial⟩ ⟨rfl, rfl, rfl, rfl, rfl, rfl, trivial⟩⟩
                · refine AWR.skip ?_
                  refine AWR.seq ?_
                  refine AWR.region ?_
                  refine AOR.pure (LT.move (v := (.s (.c (.pl 0 0)))) rfl) ⟨rfl, trivial⟩ trivial rfl rfl ?_
                  refine AOR.pure (LT.nilPl rfl) ⟨rfl, trivial⟩ trivial rfl rfl ?_
                  refine AOR.pure (LT.fieldPl rfl fo68_0) ⟨rfl, trivial⟩ trivial rfl rfl ?_
                  refine AOR.pure (LT.bload1 (c := (.loc 1 0 p.Free.length)) rfl ag26 (by exact rfl)) ⟨rfl, trivial⟩ ⟨rfl, trivial⟩ rfl rfl ?_
                  refine AOR.pure (LT.move (v := (.s (.c (iC r187)))) rfl) ⟨rfl, trivial⟩ trivial rfl rfl ?_
                  refine AOR.bind fun x196 hx196 => ?_
                  refine AOR.pure (LT.tindexLoc rfl rfl el26 hx196) ⟨rfl, rfl, trivial⟩ ⟨rfl, trivial⟩ rfl rfl ?_
                  refine AOR.pure (LT.tload1 (k := 0) rfl ag3 hx196 (by exact rfl) (by exact rfl)) ⟨rfl, trivial⟩ ⟨rfl, trivial⟩ rfl rfl ?_
                  refine AOR.pure (LT.sub rfl) ⟨rfl, ⟨rfl, rfl⟩, trivial⟩ trivial rfl rfl ?_
                  refine AOR.bind fun x197 hx197 => ?_
                  refine AOR.pure (LT.tindexLoc rfl rfl el26 hx197) ⟨rfl, rfl, trivial⟩ ⟨rfl, trivial⟩ rfl rfl ?_
                  refine AOR.step (LT.tstore (k := 0) (v := (.c (iC (w64 (x196 - 1))))) (b' := (w64 (x196 - 1))) rfl rfl (infS inf3) sz3 (by exact rfl) hx197 (by exact rfl) (by exact Nat.le_of_ble_eq_true rfl) (by exact rfl)) ⟨rfl, rfl, trivial⟩ ⟨rfl, trivial⟩ rfl rfl ?_
                  refine AOR.nil ?_
                  refine AWR.seq ?_
                  refine AWR.ent (Ent.of (σ' := [(1, (.s (.c (.pl 0 0)))), (2, (.s (.c (iC a)))), (9, (.s (.c (.mref 21)))), (14, (.s (.c (iC r187))))]) (m' := [(0, (.row 68 [[(.loc 1 0 p.Free.length), (.loc 2 0 p.Tails.length), (.loc 3 0 p.Placed.length)]])), (1, (.prow 3 ((p.Free.set r187.toNat (w64 (x196 - 1))).map encInt))), (2, (.prow 3 (p.Tails.map encInt))), (3, (.prow 3 (p.Placed.map encInt))), (21, (.mp (mput s122.2.1 r187 s122.1)))]) ⟨rfl, rfl, rfl, rfl, trivial⟩ ⟨rfl, rfl, rfl, rfl, rfl, trivial⟩) ?_
                  refine AWR.region ?_
                  refine AOR.pure (LT.move (v := (.s (.c (.pl 0 0)))) rfl) ⟨rfl, trivial⟩ trivial rfl rfl ?_
                  refine AOR.pure (LT.nilPl rfl) ⟨rfl, trivial⟩ trivial rfl rfl ?_
                  refine AOR.pure (LT.fieldPl rfl fo68_0) ⟨rfl, trivial⟩ trivial rfl rfl ?_
                  refine AOR.pure (LT.bload1 (c := (.loc 1 0 p.Free.length)) rfl ag26 (by exact rfl)) ⟨rfl, trivial⟩ ⟨rfl, trivial⟩ rfl rfl ?_
                  refine AOR.pure (LT.move (v := (.s (.c (iC a)))) rfl) ⟨rfl, trivial⟩ trivial rfl rfl ?_
                  refine AOR.bind fun x198 hx198 => ?_
                  refine AOR.pure (LT.tindexLoc (show p.Free.length = (p.Free.set r187.toNat (w64 (x196 - 1))).length by simp only [List.length_set]) rfl el26 hx198) ⟨rfl, rfl, trivial⟩ ⟨rfl, trivial⟩ rfl rfl ?_
                  refine AOR.pure (LT.tload1 (k := 0) rfl ag3 hx198 (by exact rfl) (by exact rfl)) ⟨rfl, trivial⟩ ⟨rfl, trivial⟩ rfl rfl ?_
                  refine AOR.pure (LT.add rfl) ⟨rfl, ⟨rfl, rfl⟩, trivial⟩ trivial rfl rfl ?_
                  refine AOR.bind fun x199 hx199 => ?_
                  refine AOR.pure (LT.tindexLoc (show p.Free.length = (p.Free.set r187.toNat (w64 (x196 - 1))).length by simp only [List.length_set]) rfl el26 hx199) ⟨rfl, rfl, trivial⟩ ⟨rfl, trivial⟩ rfl rfl ?_
                  refine AOR.step (LT.tstore (k := 0) (v := (.c (iC (w64 (x198 + 1))))) (b' := (w64 (x198 + 1))) rfl rfl (infS inf3) sz3 (by exact rfl) hx199 (by exact rfl) (by exact Nat.le_of_ble_eq_true rfl) (by exact rfl)) ⟨rfl, rfl, trivial⟩ ⟨rfl, trivial⟩ rfl rfl ?_
                  refine AOR.nil ?_
                  refine AWR.seq ?_
                  refine AWR.seq ?_
                  refine AWR.ent (Ent.of (σ' := [(1, (.s (.c (.pl 0 0)))), (2, (.s (.c (iC a)))), (9, (.s (.c (.mref 21)))), (14, (.s (.c (iC r187))))]) (m' := [(0, (.row 68 [[(.loc 1 0 p.Free.length), (.loc 2 0 p.Tails.length), (.loc 3 0 p.Placed.length)]])), (1, (.prow 3 (((p.Free.set r187.toNat (w64 (x196 - 1))).set a.toNat (w64 (x198 + 1))).map encInt))), (2, (.prow 3 (p.Tails.map encInt))), (3, (.prow 3 (p.Placed.map encInt))), (21, (.mp (mput s122.2.1 r187 s122.1)))]) ⟨rfl, rfl, rfl, rfl, trivial⟩ ⟨rfl, rfl, rfl, rfl, rfl, trivial⟩) ?_
                  refine AWR.region ?_
                  refine AOR.pure (LT.move (v := (.s (.c (iC r187)))) rfl) ⟨rfl, trivial⟩ trivial rfl rfl ?_
                  refine AOR.pure (LT.assign (v := (.s (.c (iC r187)))) rfl) ⟨rfl, trivial⟩ trivial rfl rfl ?_
                  refine AOR.nil ?_
                  refine AWR.block ?_
                  refine AWR.loop1 (id := 4) (m_impl_moveTo_L11 p a s122 r187 x196 x198) (fun s200 => ([(1, (.s (.c (.pl 0 0)))), (2, (.s (.c (iC a)))), (9, (.s (.c (.mref 21)))), (17, (.s (.c (iC s200.1))))], [(0, (.row 68 [[(.loc 1 0 ((p.Free.set r187.toNat (w64 (x196 - 1))).set a.toNat (w64 (x198 + 1))).length), (.loc 2 0 s200.2.length), (.loc 3 0 p.Placed.length)]])), (1, (.prow 3 (((p.Free.set r187.toNat (w64 (x196 - 1))).set a.toNat (w64 (x198 + 1))).map encInt))), (2, (.prow 3 (s200.2.map encInt))), (3, (.prow 3 (p.Placed.map encInt))), (21, (.mp (mput s122.2.1 r187 s122.1)))])) (fun b207 => ([], [(0, (.row 68 [[(.loc 1 0 b207.1.length), (.loc 2 0 b207.2.length), (.loc 3 0 p.Placed.length)]])), (1, (.prow 3 (b207.1.map encInt))), (2, (.prow 3 (b207.2.map encInt))), (3, (.prow 3 (p.Placed.map encInt)))])) ?_ (Ent.of ⟨rfl, rfl, rfl, rfl, trivial⟩ ⟨(congrArg (fun l1 => (some (Ob.row 68 [[(.loc 1 0 l1), (.loc 2 0 p.Tails.length), (.loc 3 0 p.Placed.length)]]) : Option Ob)) (show p.Free.length = ((p.Free.set r187.toNat (w64 (x196 - 1))).set a.toNat (w64 (x198 + 1))).length by simp only [List.length_set])), rfl, rfl, rfl, rfl, trivial⟩) rfl (fun b207 _ => ?_)
                  · intro s200
                    unfold m_impl_moveTo_L11
                    refine AWR.seq ?_
                    refine AWR.seq ?_
                    refine AWR.region ?_
                    refine AOR.pure (LT.move (v := (.s (.c (iC s200.1)))) rfl) ⟨rfl, trivial⟩ trivial rfl rfl ?_
                    refine AOR.pure (LT.move (v := (.s (.c (iC a)))) rfl) ⟨rfl, trivial⟩ trivial rfl rfl ?_
                    refine AOR.pure (LT.neq rfl) ⟨rfl, rfl, trivial⟩ trivial rfl rfl ?_
                    refine AOR.nil ?_
                    refine AWR.cond rfl (fun hc208 => ?_) (fun hc208 => ?_)
                    · refine AWR.skip ?_
                      refine AWR.block ?_
                      refine AWR.seq ?_
                      refine AWR.region ?_
                      refine AOR.pure (LT.move (v := (.s (.c (.mref 21)))) rfl) ⟨rfl, trivial⟩ trivial rfl rfl ?_
                      refine AOR.pure (LT.move (v := (.s (.c (iC s200.1)))) rfl) ⟨rfl, trivial⟩ trivial rfl rfl ?_
                      refine AOR.pure (LT.mapGet rfl map92) ⟨rfl, rfl, trivial⟩ ⟨rfl, trivial⟩ rfl rfl ?_
                      refine AOR.pure (LT.assign (v := (.s (.c (iC (mget (mput s122.2.1 r187 s122.1) s200.1))))) rfl) ⟨rfl, trivial⟩ trivial rfl rfl ?_
                      refine AOR.nil ?_
                      refine AWR.seq ?_
                      refine AWR.region ?_
                      refine AOR.pure (LT.move (v := (.s (.c (.pl 0 0)))) rfl) ⟨rfl, trivial⟩ trivial rfl rfl ?_
                      refine AOR.pure (LT.nilPl rfl) ⟨rfl, trivial⟩ trivial rfl rfl ?_
                      refine AOR.pure (LT.fieldPl rfl fo68_1) ⟨rfl, trivial⟩ trivial rfl rfl ?_
                      refine AOR.pure (LT.bload1 (c := (.loc 2 0 s200.2.length)) rfl ag26 (by exact rfl)) ⟨rfl, trivial⟩ ⟨rfl, trivial⟩ rfl rfl ?_
                      refine AOR.pure (LT.move (v := (.s (.c (iC (mget (mput s122.2.1 r187 s122.1) s200.1))))) rfl) ⟨rfl, trivial⟩ trivial rfl rfl ?_
                      refine AOR.bind fun x209 hx209 => ?_
                      refine AOR.pure (LT.tindexLoc rfl rfl el26 hx209) ⟨rfl, rfl, trivial⟩ ⟨rfl, trivial⟩ rfl rfl ?_
                      refine AOR.pure (LT.tload1 (k := 0) rfl ag3 hx209 (by exact rfl) (by exact rfl)) ⟨rfl, trivial⟩ ⟨rfl, trivial⟩ rfl rfl ?_
                      refine AOR.pure (LT.assign (v := (.s (.c (iC x209)))) rfl) ⟨rfl, trivial⟩ trivial rfl rfl ?_
                      refine AOR.nil ?_
                      refine AWR.seq ?_
                      refine AWR.ent (Ent.of (σ' := [(1, (.s (.c (.pl 0 0)))), (2, (.s (.c (iC a)))), (9, (.s (.c (.mref 21)))), (17, (.s (.c (iC s200.1)))), (18, (.s (.c (iC (mget (mput s122.2.1 r187 s122.1) s200.1))))), (19, (.s (.c (iC x209))))]) (m' := [(0, (.row 68 [[(.loc 1 0 ((p.Free.set r187.toNat (w64 (x196 - 1))).set a.toNat (w64 (x198 + 1))).length), (.loc 2 0 s200.2.length), (.loc 3 0 p.Placed.length)]])), (1, (.prow 3 (((p.Free.set r187.toNat (w64 (x196 - 1))).set a.toNat (w64 (x198 + 1))).map encInt))), (2, (.prow 3 (s200.2.map encInt))), (3, (.prow 3 (p.Placed.map encInt))), (21, (.mp (mput s122.2.1 r187 s122.1)))]) ⟨rfl, rfl, rfl, rfl, rfl, rfl, trivial⟩ ⟨rfl, rfl, rfl, rfl, rfl, trivial⟩) ?_
                      refine AWR.region ?_
                      refine AOR.pure (LT.move (v := (.s (.c (.pl 0 0)))) rfl) ⟨rfl, trivial⟩ trivial rfl rfl ?_
                      refine AOR.pure (LT.nilPl rfl) ⟨rfl, trivial⟩ trivial rfl rfl ?_
                      refine AOR.pure (LT.fieldPl rfl fo68_1) ⟨rfl, trivial⟩ trivial rfl rfl ?_
                      refine AOR.pure (LT.bload1 (c := (.loc 2 0 s200.2.length)) rfl ag26 (by exact rfl)) ⟨rfl, trivial⟩ ⟨rfl, trivial⟩ rfl rfl ?_
                      refine AOR.pure (LT.move (v := (.s (.c (iC (mget (mput s122.2.1 r187 s122.1) s200.1))))) rfl) ⟨rfl, trivial⟩ trivial rfl rfl ?_
                      refine AOR.pure (LT.move (v := (.s (.c (iC s200.1)))) rfl) ⟨rfl, trivial⟩ trivial rfl rfl ?_
                      refine AOR.bind fun x210 hx210 => ?_
                      refine AOR.pure (LT.tindexLoc rfl rfl el26 hx210) ⟨rfl, rfl, trivial⟩ ⟨rfl, trivial⟩ rfl rfl ?_
                      refine AOR.step (LT.tstore (k := 0) (v := (.c (iC s200.1))) (b' := s200.1) rfl rfl (infS inf3) sz3 (by exact rfl) hx210 (by exact rfl) (by exact Nat.le_of_ble_eq_true rfl) (by exact rfl)) ⟨rfl, rfl, trivial⟩ ⟨rfl, trivial⟩ rfl rfl ?_
                      refine AOR.nil ?_
                      refine AWR.region ?_
                      refine AOR.pure (LT.move (v := (.s (.c (iC x209)))) rfl) ⟨rfl, trivial⟩ trivial rfl rfl ?_
                      refine AOR.pure (LT.assign (v := (.s (.c (iC x209)))) rfl) ⟨rfl, trivial⟩ trivial rfl rfl ?_
                      refine AOR.nil ?_
                      refine AWR.blk ?_
                      refine AWR.nil ⟨rfl, Ent.of ⟨rfl, rfl, rfl, rfl, trivial⟩ ⟨(congrArg (fun l1 => (some (Ob.row 68 [[(.loc 1 0 ((p.Free.set r187.toNat (w64 (x196 - 1))).set a.toNat (w64 (x198 + 1))).length), (.loc 2 0 l1), (.loc 3 0 p.Placed.length)]]) : Option Ob)) (show s200.2.length = (s200.2.set (mget (mput s122.2.1 r187 s122.1) s200.1).toNat s200.1).length by simp only [List.length_set])), rfl, rfl, rfl, rfl, trivial⟩⟩
                    · refine AWR.exit_end rfl ⟨rfl, Ent.of trivial ⟨rfl, rfl, rfl, rfl, trivial⟩⟩
                  · refine AWR.seq ?_
                    refine AWR.region ?_
                    refine AOR.pure (LT.assign (v := (.s (.c (bC true)))) rfl) ⟨⟨rfl, rfl⟩, trivial⟩ trivial rfl rfl ?_
                    refine AOR.nil ?_
                    refine AWR.ret ⟨rfl, FPost.mk (.inr rfl) ⟨rfl, trivial⟩ ⟨rfl, rfl, rfl, rfl, trivial⟩ rfl ⟨PermP.sc, trivial⟩ ⟨PermO.row1 ⟨trivial, trivial, trivial, trivial⟩, PermO.prow' perm_encInt, PermO.prow' perm_encInt, PermO.prow' perm_encInt, trivial⟩⟩
        · refine AWR.exit_end rfl ⟨rfl, Ent.of ⟨rfl, rfl, rfl, rfl, rfl, rfl, rfl, trivial⟩ ⟨rfl, rfl, rfl, rfl, rfl, rfl, trivial⟩⟩
      · refine AWR.blk ?_
        refine AWR.region ?_
        refine AOR.pure (LT.move (v := (.s (.c (iC b179.1)))) rfl) ⟨rfl, trivial⟩ trivial rfl rfl ?_
        refine AOR.pure (LT.add rfl) ⟨rfl, ⟨rfl, rfl⟩, trivial⟩ trivial rfl rfl ?_
        refine AOR.pure (LT.assign (v := (.s (.c (iC (w64 (b179.1 + 1)))))) rfl) ⟨rfl, trivial⟩ trivial rfl rfl ?_
        refine AOR.nil ?_
        refine AWR.nil ⟨rfl, Ent.of ⟨rfl, rfl, rfl, rfl, rfl, rfl, rfl, trivial⟩ ⟨rfl, rfl, rfl, rfl, rfl, rfl, trivial⟩⟩
    · refine AWR.exit_end rfl ⟨rfl, Ent.of trivial ⟨rfl, rfl, rfl, rfl, trivial⟩⟩
  · refine AWR.seq ?_
    refine AWR.region ?_
    refine AOR.pure (LT.assign (v := (.s (.c (bC false)))) rfl) ⟨⟨rfl, rfl⟩, trivial⟩ trivial rfl rfl ?_
    refine AOR.nil ?_
    refine AWR.ret (FPost.mk (.inr rfl) ⟨rfl, trivial⟩ ⟨rfl, rfl, rfl, rfl, trivial⟩ rfl ⟨PermP.sc, trivial⟩ ⟨PermO.row1 ⟨trivial, trivial, trivial, trivial⟩, PermO.prow' perm_encInt, PermO.prow' perm_encInt, PermO.prow' perm_encInt, trivial⟩)
end Go.Proofs.Ytiphmhofhgbhlaa
