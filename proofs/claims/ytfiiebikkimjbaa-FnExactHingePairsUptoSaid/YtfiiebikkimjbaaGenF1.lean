/- The code computes the models. Written by a program of mine. -/
import Derived.Test.YtfiiebikkimjbaaGenT
set_option linter.unusedVariables false
set_option linter.unusedSimpArgs false
set_option linter.unnecessarySimpa false
open Go Go.Fw
namespace Go.Proofs.Ytfiiebikkimjbaa
set_option maxRecDepth 100000 in
set_option maxHeartbeats 8000000 in
theorem w_impl_within (x : Int) (lo : Int) (hi : Int) : ∀ t, m_impl_within x lo hi = some t → Fw.Fn Try.prog 101 [(.c (iC x)), (.c (iC lo)), (.c (iC hi))] [] (.s (.c (bC t))) [] [] [] := by
  refine Fw.Fn.of (P := Try.prog) (X := []) (pn := []) (rs := (fun (t : Bool) => [(.c (bC t))])) (dfs := (fun (t : Bool) => [])) Try.func101 rfl Try.ntmps101 (Nat.le_of_ble_eq_true rfl) rfl ?_
  intro w0 U0 R0 g0
  unfold m_impl_within
  refine AWR.seq ?_
  refine AWR.region ?_
  refine AOR.pure (LT.assign (v := (.s (.c (bC false)))) rfl) ⟨⟨rfl, rfl⟩, trivial⟩ trivial rfl rfl ?_
  refine AOR.nil ?_
  refine AWR.seq ?_
  refine AWR.joinK (fun j2 => ([(6, (.s (.c (bC j2))))], [])) ?_ (fun j2 _ => ?_)
  · refine AWR.region ?_
    refine AOR.pure (LT.move (v := (.s (.c (iC x)))) rfl) ⟨rfl, trivial⟩ trivial rfl rfl ?_
    refine AOR.pure (LT.move (v := (.s (.c (iC lo)))) rfl) ⟨rfl, trivial⟩ trivial rfl rfl ?_
    refine AOR.pure (LT.geq rfl) ⟨rfl, rfl, trivial⟩ trivial rfl rfl ?_
    refine AOR.pure (LT.move (v := (.s (.c (bC (decide (lo ≤ x)))))) rfl) ⟨rfl, trivial⟩ trivial rfl rfl ?_
    refine AOR.split (fun hb3 => ?_) (fun hb3 => ?_)
    · refine AOR.pure (LT.move (v := (.s (.c (iC x)))) rfl) ⟨rfl, trivial⟩ trivial ⟨_, rfl, .inl ⟨_, rfl, (by rw [hb3]; rfl)⟩⟩ rfl ?_
      refine AOR.pure (LT.move (v := (.s (.c (iC hi)))) rfl) ⟨rfl, trivial⟩ trivial ⟨_, rfl, .inl ⟨_, rfl, (by rw [hb3]; rfl)⟩⟩ rfl ?_
      refine AOR.pure (LT.leq rfl) ⟨rfl, rfl, trivial⟩ trivial ⟨_, rfl, .inl ⟨_, rfl, (by rw [hb3]; rfl)⟩⟩ rfl ?_
      refine AOR.pure (LT.pickT (v := (.s (.c (bC (decide (x ≤ hi)))))) rfl hb3) ⟨rfl, rfl, trivial⟩ trivial rfl rfl ?_
      refine AOR.pure (LT.assign (v := (.s (.c (bC (decide (x ≤ hi)))))) rfl) ⟨rfl, trivial⟩ trivial rfl rfl ?_
      refine AOR.nil ?_
      refine AWR.nil ⟨rfl, Ent.of ⟨rfl, trivial⟩ trivial⟩
    · refine AOR.skip ⟨_, rfl, .inl ⟨_, rfl, (by rw [hb3]; rfl)⟩⟩ rfl ?_
      refine AOR.skip ⟨_, rfl, .inl ⟨_, rfl, (by rw [hb3]; rfl)⟩⟩ rfl ?_
      refine AOR.skip ⟨_, rfl, .inl ⟨_, rfl, (by rw [hb3]; rfl)⟩⟩ rfl ?_
      refine AOR.pure (LT.pickF (v := (.s (.c (bC false)))) rfl hb3) ⟨rfl, ⟨rfl, rfl⟩, trivial⟩ trivial rfl rfl ?_
      refine AOR.pure (LT.assign (v := (.s (.c (bC false)))) rfl) ⟨rfl, trivial⟩ trivial rfl rfl ?_
      refine AOR.nil ?_
      refine AWR.nil ⟨rfl, Ent.of ⟨rfl, trivial⟩ trivial⟩
  · refine AWR.ret (FPost.mk (.inr rfl) ⟨rfl, trivial⟩ trivial rfl ⟨PermP.sc, trivial⟩ trivial)
set_option maxRecDepth 100000 in
set_option maxHeartbeats 8000000 in
theorem w_impl_compareInts (a : Int) (b : Int) : ∀ t, m_impl_compareInts a b = some t → Fw.Fn Try.prog 201 [(.c (iC a)), (.c (iC b))] [] (.s (.c (iC t))) [] [] [] := by
  refine Fw.Fn.of (P := Try.prog) (X := []) (pn := []) (rs := (fun (t : Int) => [(.c (iC t))])) (dfs := (fun (t : Int) => [])) Try.func201 rfl Try.ntmps201 (Nat.le_of_ble_eq_true rfl) rfl ?_
  intro w0 U0 R0 g0
  unfold m_impl_compareInts
  refine AWR.seq ?_
  refine AWR.region ?_
  refine AOR.pure (LT.assign (v := (.s (.c (iC 0)))) rfl) ⟨⟨rfl, rfl⟩, trivial⟩ trivial rfl rfl ?_
  refine AOR.nil ?_
  refine AWR.seq ?_
  refine AWR.block ?_
  refine AWR.seq ?_
  refine AWR.region ?_
  refine AOR.pure (LT.move (v := (.s (.c (iC a)))) rfl) ⟨rfl, trivial⟩ trivial rfl rfl ?_
  refine AOR.pure (LT.move (v := (.s (.c (iC b)))) rfl) ⟨rfl, trivial⟩ trivial rfl rfl ?_
  refine AOR.pure (LT.lss rfl) ⟨rfl, rfl, trivial⟩ trivial rfl rfl ?_
  refine AOR.pure (LT.assign (v := (.s (.c (bC (decide (a < b)))))) rfl) ⟨rfl, trivial⟩ trivial rfl rfl ?_
  refine AOR.nil ?_
  refine AWR.cond rfl (fun hc1 => ?_) (fun hc1 => ?_)
  · refine AWR.seq ?_
    refine AWR.region ?_
    refine AOR.pure (LT.assign (v := (.s (.c (iC (-1))))) rfl) ⟨⟨rfl, rfl⟩, trivial⟩ trivial rfl rfl ?_
    refine AOR.nil ?_
    refine AWR.ret (FPost.mk (.inr rfl) ⟨rfl, trivial⟩ trivial rfl ⟨PermP.sc, trivial⟩ trivial)
  · refine AWR.seq ?_
    refine AWR.region ?_
    refine AOR.pure (LT.move (v := (.s (.c (iC a)))) rfl) ⟨rfl, trivial⟩ trivial rfl rfl ?_
    refine AOR.pure (LT.move (v := (.s (.c (iC b)))) rfl) ⟨rfl, trivial⟩ trivial rfl rfl ?_
    refine AOR.pure (LT.gtr rfl) ⟨rfl, rfl, trivial⟩ trivial rfl rfl ?_
    refine AOR.pure (LT.assign (v := (.s (.c (bC (decide (b < a)))))) rfl) ⟨rfl, trivial⟩ trivial rfl rfl ?_
    refine AOR.nil ?_
    refine AWR.cond rfl (fun hc2 => ?_) (fun hc2 => ?_)
    · refine AWR.seq ?_
      refine AWR.region ?_
      refine AOR.pure (LT.assign (v := (.s (.c (iC 1)))) rfl) ⟨⟨rfl, rfl⟩, trivial⟩ trivial rfl rfl ?_
      refine AOR.nil ?_
      refine AWR.ret (FPost.mk (.inr rfl) ⟨rfl, trivial⟩ trivial rfl ⟨PermP.sc, trivial⟩ trivial)
    · refine AWR.skip ?_
      refine AWR.blk ?_
      refine AWR.seq ?_
      refine AWR.region ?_
      refine AOR.pure (LT.assign (v := (.s (.c (iC 0)))) rfl) ⟨⟨rfl, rfl⟩, trivial⟩ trivial rfl rfl ?_
      refine AOR.nil ?_
      refine AWR.ret (FPost.mk (.inr rfl) ⟨rfl, trivial⟩ trivial rfl ⟨PermP.sc, trivial⟩ trivial)
set_option maxRecDepth 100000 in
set_option maxHeartbeats 8000000 in
theorem w_impl_compareBars (x : TBar) (y : TBar) : ∀ t, m_impl_compareBars x y = some t → Fw.Fn Try.prog 171 [(.agg [(iC x.A), (iC x.B)]), (.agg [(iC y.A), (iC y.B)])] [] (.s (.c (iC t))) [] [] [] := by
  refine Fw.Fn.of (P := Try.prog) (X := []) (pn := []) (rs := (fun (t : Int) => [(.c (iC t))])) (dfs := (fun (t : Int) => [])) Try.func171 rfl Try.ntmps171 (Nat.le_of_ble_eq_true rfl) rfl ?_
  intro w0 U0 R0 g0
  unfold m_impl_compareBars
  refine AWR.seq ?_
  refine AWR.region ?_
  refine AOR.step (LT.box (n := 21) (v := (.agg [(iC x.A), (iC x.B)])) rfl sz88 (by exact rfl)) ⟨rfl, trivial⟩ trivial rfl rfl ?_
  refine AOR.step (LT.box (n := 22) (v := (.agg [(iC y.A), (iC y.B)])) rfl sz88 (by exact rfl)) ⟨rfl, trivial⟩ trivial rfl rfl ?_
  refine AOR.pure (LT.assign (v := (.s (.c (iC 0)))) rfl) ⟨⟨rfl, rfl⟩, trivial⟩ trivial rfl rfl ?_
  refine AOR.nil ?_
  refine AWR.seq ?_
  refine AWR.seq ?_
  refine AWR.region ?_
  refine AOR.pure (LT.fieldPl rfl fo88_0) ⟨rfl, trivial⟩ trivial rfl rfl ?_
  refine AOR.pure (LT.bload1 (c := (iC x.A)) rfl ag3 (by exact rfl)) ⟨rfl, trivial⟩ ⟨rfl, trivial⟩ rfl rfl ?_
  refine AOR.pure (LT.fieldPl rfl fo88_0) ⟨rfl, trivial⟩ trivial rfl rfl ?_
  refine AOR.pure (LT.bload1 (c := (iC y.A)) rfl ag3 (by exact rfl)) ⟨rfl, trivial⟩ ⟨rfl, trivial⟩ rfl rfl ?_
  refine AOR.bind fun r1 hr1 => ?_
  refine AOR.pure (@LT.callF Try.prog _ _ 201 _ _ [(.c (iC x.A)), (.c (iC y.A))] _ _ [] _ _ _ _ (w_impl_compareInts x.A y.A r1 hr1) rfl cb201 (.cons (.c (.same rfl)) (.cons (.c (.same rfl)) .nil)) rfl rfl trivial) ⟨rfl, rfl, rfl, trivial⟩ trivial rfl rfl ?_
  refine AOR.pure (LT.assign (v := (.s (.c (iC r1)))) rfl) ⟨rfl, trivial⟩ trivial rfl rfl ?_
  refine AOR.nil ?_
  refine AWR.seq ?_
  refine AWR.ent (Ent.of (σ' := [(2, (.s (.c (.pl 21 0)))), (3, (.s (.c (.pl 22 0)))), (5, (.s (.c (iC r1))))]) (m' := [(21, (.row 88 [[(iC x.A), (iC x.B)]])), (22, (.row 88 [[(iC y.A), (iC y.B)]]))]) ⟨rfl, rfl, rfl, trivial⟩ ⟨rfl, rfl, trivial⟩) ?_
  refine AWR.region ?_
  refine AOR.pure (LT.move (v := (.s (.c (iC r1)))) rfl) ⟨rfl, trivial⟩ trivial rfl rfl ?_
  refine AOR.pure (LT.neq rfl) ⟨rfl, ⟨rfl, rfl⟩, trivial⟩ trivial rfl rfl ?_
  refine AOR.nil ?_
  refine AWR.cond rfl (fun hc2 => ?_) (fun hc2 => ?_)
  · refine AWR.seq ?_
    refine AWR.region ?_
    refine AOR.pure (LT.move (v := (.s (.c (iC r1)))) rfl) ⟨rfl, trivial⟩ trivial rfl rfl ?_
    refine AOR.pure (LT.assign (v := (.s (.c (iC r1)))) rfl) ⟨rfl, trivial⟩ trivial rfl rfl ?_
    refine AOR.nil ?_
    refine AWR.ret (FPost.mk (.inr rfl) ⟨rfl, trivial⟩ trivial rfl ⟨PermP.sc, trivial⟩ trivial)
  · refine AWR.skip ?_
    refine AWR.seq ?_
    refine AWR.region ?_
    refine AOR.pure (LT.fieldPl rfl fo88_1) ⟨rfl, trivial⟩ trivial rfl rfl ?_
    refine AOR.pure (LT.bload1 (c := (iC x.B)) rfl ag3 (by exact rfl)) ⟨rfl, trivial⟩ ⟨rfl, trivial⟩ rfl rfl ?_
    refine AOR.pure (LT.fieldPl rfl fo88_1) ⟨rfl, trivial⟩ trivial rfl rfl ?_
    refine AOR.pure (LT.bload1 (c := (iC y.B)) rfl ag3 (by exact rfl)) ⟨rfl, trivial⟩ ⟨rfl, trivial⟩ rfl rfl ?_
    refine AOR.bind fun r3 hr3 => ?_
    refine AOR.pure (@LT.callF Try.prog _ _ 201 _ _ [(.c (iC x.B)), (.c (iC y.B))] _ _ [] _ _ _ _ (w_impl_compareInts x.B y.B r3 hr3) rfl cb201 (.cons (.c (.same rfl)) (.cons (.c (.same rfl)) .nil)) rfl rfl trivial) ⟨rfl, rfl, rfl, trivial⟩ trivial rfl rfl ?_
    refine AOR.pure (LT.assign (v := (.s (.c (iC r3)))) rfl) ⟨rfl, trivial⟩ trivial rfl rfl ?_
    refine AOR.nil ?_
    refine AWR.ret (FPost.mk (.inr rfl) ⟨rfl, trivial⟩ trivial rfl ⟨PermP.sc, trivial⟩ trivial)
set_option maxRecDepth 100000 in
set_option maxHeartbeats 8000000 in
theorem w_impl_IsGraph (g : TGraph) : ∀ t, m_impl_IsGraph g = some t → Fw.Fn Try.prog 100 [(.agg [(iC g.Points), (.pv (.xs false (g.Bars.map encTBar)))])] [] (.s (.c (bC t))) [] [] [] := by
  refine Fw.Fn.of (P := Try.prog) (X := []) (pn := []) (rs := (fun (t : Bool) => [(.c (bC t))])) (dfs := (fun (t : Bool) => [])) Try.func100 rfl Try.ntmps100 (Nat.le_of_ble_eq_true rfl) rfl ?_
  intro w0 U0 R0 g0
  unfold m_impl_IsGraph
  refine AWR.seq ?_
  refine AWR.region ?_
  refine AOR.step (LT.box (n := 21) (v := (.agg [(iC g.Points), (.pv (.xs false (g.Bars.map encTBar)))])) rfl sz30 (by exact rfl)) ⟨rfl, trivial⟩ trivial rfl rfl ?_
  refine AOR.pure (LT.assign (v := (.s (.c (bC false)))) rfl) ⟨⟨rfl, rfl⟩, trivial⟩ trivial rfl rfl ?_
  refine AOR.nil ?_
  refine AWR.seq ?_
  refine AWR.seq ?_
  refine AWR.joinK (fun j3 => ([(1, (.s (.c (.pl 21 0)))), (14, (.s (.c (bC j3))))], [(21, (.row 30 [[(iC g.Points), (.pv (.xs false (g.Bars.map encTBar)))]]))])) ?_ (fun j3 _ => ?_)
  · refine AWR.region ?_
    refine AOR.pure (LT.fieldPl rfl fo30_0) ⟨rfl, trivial⟩ trivial rfl rfl ?_
    refine AOR.pure (LT.bload1 (c := (iC g.Points)) rfl ag3 (by exact rfl)) ⟨rfl, trivial⟩ ⟨rfl, trivial⟩ rfl rfl ?_
    refine AOR.bind fun r4 hr4 => ?_
    refine AOR.pure (@LT.callF Try.prog _ _ 101 _ _ [(.c (iC g.Points)), (.c (iC 1)), (.c (iC 8))] _ _ [] _ _ _ _ (w_impl_within g.Points 1 8 r4 hr4) rfl cb101 (.cons (.c (.same rfl)) (.cons (.c (.same rfl)) (.cons (.c (.same rfl)) .nil))) rfl rfl trivial) ⟨rfl, rfl, ⟨rfl, rfl⟩, ⟨rfl, rfl⟩, trivial⟩ trivial rfl rfl ?_
    refine AOR.pure (LT.not rfl) ⟨rfl, trivial⟩ trivial rfl rfl ?_
    refine AOR.pure (LT.move (v := (.s (.c (bC (!r4))))) rfl) ⟨rfl, trivial⟩ trivial rfl rfl ?_
    refine AOR.split (fun hb5 => ?_) (fun hb5 => ?_)
    · refine AOR.skip ⟨_, rfl, .inl ⟨_, rfl, (by rw [hb5]; rfl)⟩⟩ rfl ?_
      refine AOR.skip ⟨_, rfl, .inl ⟨_, rfl, (by rw [hb5]; rfl)⟩⟩ rfl ?_
      refine AOR.skip ⟨_, rfl, .inl ⟨_, rfl, (by rw [hb5]; rfl)⟩⟩ rfl ?_
      refine AOR.skip ⟨_, rfl, .inl ⟨_, rfl, (by rw [hb5]; rfl)⟩⟩ rfl ?_
      refine AOR.pure (LT.pickT (v := (.s (.c (bC true)))) rfl hb5) ⟨rfl, ⟨rfl, rfl⟩, trivial⟩ trivial rfl rfl ?_
      refine AOR.nil ?_
      refine AWR.nil ⟨rfl, Ent.of ⟨rfl, rfl, trivial⟩ ⟨rfl, trivial⟩⟩
    · refine AOR.pure (LT.fieldPl rfl fo30_1) ⟨rfl, trivial⟩ trivial ⟨_, rfl, .inl ⟨_, rfl, (by rw [hb5]; rfl)⟩⟩ rfl ?_
      refine AOR.pure (LT.bload1 (c := (.pv (.xs false (g.Bars.map encTBar)))) rfl ag28 (by exact rfl)) ⟨rfl, trivial⟩ ⟨rfl, trivial⟩ ⟨_, rfl, .inl ⟨_, rfl, (by rw [hb5]; rfl)⟩⟩ rfl ?_
      refine AOR.pure (LT.tlenRO rfl und28) ⟨rfl, trivial⟩ trivial ⟨_, rfl, .inl ⟨_, rfl, (by rw [hb5]; rfl)⟩⟩ rfl ?_
      refine AOR.pure (LT.gtr rfl) ⟨rfl, ⟨rfl, rfl⟩, trivial⟩ trivial ⟨_, rfl, .inl ⟨_, rfl, (by rw [hb5]; rfl)⟩⟩ rfl ?_
      refine AOR.pure (LT.pickF (v := (.s (.c (bC (decide (24 < (g.Bars.length : Int))))))) rfl hb5) ⟨rfl, rfl, trivial⟩ trivial rfl rfl ?_
      refine AOR.nil ?_
      refine AWR.nil ⟨rfl, Ent.of ⟨rfl, rfl, trivial⟩ ⟨rfl, trivial⟩⟩
  · refine AWR.cond rfl (fun hc6 => ?_) (fun hc6 => ?_)
    · refine AWR.seq ?_
      refine AWR.region ?_
      refine AOR.pure (LT.assign (v := (.s (.c (bC false)))) rfl) ⟨⟨rfl, rfl⟩, trivial⟩ trivial rfl rfl ?_
      refine AOR.nil ?_
      refine AWR.ret (FPost.mk (.inr rfl) ⟨rfl, trivial⟩ trivial rfl ⟨PermP.sc, trivial⟩ trivial)
    · refine AWR.skip ?_
      refine AWR.seq ?_
      refine AWR.seq ?_
      refine AWR.region ?_
      refine AOR.pure (LT.fieldPl rfl fo30_1) ⟨rfl, trivial⟩ trivial rfl rfl ?_
      refine AOR.pure (LT.bload1 (c := (.pv (.xs false (g.Bars.map encTBar)))) rfl ag28 (by exact rfl)) ⟨rfl, trivial⟩ ⟨rfl, trivial⟩ rfl rfl ?_
      refine AOR.pure (LT.tlenRO rfl und28) ⟨rfl, trivial⟩ trivial rfl rfl ?_
      refine AOR.pure (LT.move (v := (.s (.c (iC 0)))) rfl) ⟨⟨rfl, rfl⟩, trivial⟩ trivial rfl rfl ?_
      refine AOR.nil ?_
      refine AWR.block ?_
      refine AWR.loopR (id := 0) (m_impl_IsGraph_L1 g) (fun s7 => ([(1, (.s (.c (.pl 21 0)))), (16, (.s (.c (.pv (.xs false (g.Bars.map encTBar)))))), (17, (.s (.c (iC (g.Bars.length : Int))))), (18, (.s (.c (iC s7))))], [(21, (.row 30 [[(iC g.Points), (.pv (.xs false (g.Bars.map encTBar)))]]))])) (fun b40 => ([], [])) (FPost Try.prog Try.f100.results.toList [] [] (fun (t : Bool) => [(.c (bC t))]) (fun (t : Bool) => [])) ?_ (Ent.of ⟨rfl, rfl, rfl, rfl, trivial⟩ ⟨rfl, trivial⟩) rfl (fun b40 _ => ?_) (by intro r t σ m ht hk; injection ht with ht; subst ht; exact hk)
      · intro s7
        unfold m_impl_IsGraph_L1
        refine AWR.seq ?_
        refine AWR.region ?_
        refine AOR.pure (LT.lss rfl) ⟨rfl, rfl, trivial⟩ trivial rfl rfl ?_
        refine AOR.nil ?_
        refine AWR.seq ?_
        refine AWR.cond rfl (fun hc41 => ?_) (fun hc41 => ?_)
        · refine AWR.skip ?_
          refine AWR.seq ?_
          refine AWR.block ?_
          refine AWR.seq ?_
          refine AWR.region ?_
          refine AOR.pure (LT.move (v := (.s (.c (iC s7)))) rfl) ⟨rfl, trivial⟩ trivial rfl rfl ?_
          refine AOR.bind fun x42 hx42 => ?_
          refine AOR.pure (LT.tindexRO (enc := encTBar) rfl el28 hx42 sz88) ⟨rfl, rfl, trivial⟩ trivial rfl rfl ?_
          refine AOR.pure (LT.loadPxN rfl ag88 (infS inf88) (by exact sz88.symm)) ⟨rfl, trivial⟩ trivial rfl rfl ?_
          refine AOR.step (LT.alloc (n := 23) (cells := [(iC 0), (iC 0)]) rfl ti88 rfl rfl rfl) trivial trivial rfl rfl ?_
          refine AOR.pure (LT.assign (v := (.s (.c (iC s7)))) rfl) ⟨rfl, trivial⟩ trivial rfl rfl ?_
          refine AOR.step (LT.bstore (v := (.agg [(iC x42.A), (iC x42.B)])) (out := [(iC x42.A), (iC x42.B)]) rfl rfl (infS inf88) sz88 (by exact rfl) (by exact Nat.le_of_ble_eq_true rfl) (by exact rfl)) ⟨rfl, rfl, trivial⟩ ⟨rfl, trivial⟩ rfl rfl ?_
          refine AOR.nil ?_
          refine AWR.seq ?_
          refine AWR.joinK (fun j49 => ([(1, (.s (.c (.pl 21 0)))), (16, (.s (.c (.pv (.xs false (g.Bars.map encTBar)))))), (17, (.s (.c (iC (g.Bars.length : Int))))), (18, (.s (.c (iC s7)))), (54, (.s (.c (bC j49))))], [(21, (.row 30 [[(iC g.Points), (.pv (.xs false (g.Bars.map encTBar)))]]))])) ?_ (fun j49 _ => ?_)
          · refine AWR.ent (Ent.of (σ' := [(1, (.s (.c (.pl 21 0)))), (3, (.s (.c (iC s7)))), (4, (.s (.c (.pl 23 0)))), (16, (.s (.c (.pv (.xs false (g.Bars.map encTBar)))))), (17, (.s (.c (iC (g.Bars.length : Int))))), (18, (.s (.c (iC s7))))]) (m' := [(21, (.row 30 [[(iC g.Points), (.pv (.xs false (g.Bars.map encTBar)))]])), (23, (.row 88 [[(iC x42.A), (iC x42.B)]]))]) ⟨rfl, rfl, rfl, rfl, rfl, rfl, trivial⟩ ⟨rfl, rfl, trivial⟩) ?_
            refine AWR.draw mixed ?_
            refine AOD.pure (LT.fieldPl rfl fo88_0) ⟨rfl, trivial⟩ trivial rfl rfl ?_
            refine AOD.pure (LT.bload1 (c := (iC x42.A)) rfl ag3 (by exact rfl)) ⟨rfl, trivial⟩ ⟨rfl, trivial⟩ rfl rfl ?_
            refine AOD.pure (LT.lss rfl) ⟨rfl, ⟨rfl, rfl⟩, trivial⟩ trivial rfl rfl ?_
            refine AOD.pure (LT.move (v := (.s (.c (bC (decide (x42.A < 0)))))) rfl) ⟨rfl, trivial⟩ trivial rfl rfl ?_
            refine AOD.split (fun hb50 => ?_) (fun hb50 => ?_)
            · refine AOD.skip ⟨_, rfl, .inl ⟨_, rfl, (by rw [hb50]; rfl)⟩⟩ rfl ?_
              refine AOD.skip ⟨_, rfl, .inl ⟨_, rfl, (by rw [hb50]; rfl)⟩⟩ rfl ?_
              refine AOD.skip ⟨_, rfl, .inl ⟨_, rfl, (by rw [hb50]; rfl)⟩⟩ rfl ?_
              refine AOD.skip ⟨_, rfl, .inl ⟨_, rfl, (by rw [hb50]; rfl)⟩⟩ rfl ?_
              refine AOD.skip ⟨_, rfl, .inl ⟨_, rfl, (by rw [hb50]; rfl)⟩⟩ rfl ?_
              refine AOD.pure (LT.pickT (v := (.s (.c (bC true)))) rfl hb50) ⟨rfl, ⟨rfl, rfl⟩, trivial⟩ trivial rfl rfl ?_
              refine AOD.pure (LT.move (v := (.s (.c (bC true)))) rfl) ⟨rfl, trivial⟩ trivial rfl rfl ?_
              refine AOD.skip ⟨_, rfl, .inl ⟨_, rfl, rfl⟩⟩ rfl ?_
              refine AOD.skip ⟨_, rfl, .inl ⟨_, rfl, rfl⟩⟩ rfl ?_
              refine AOD.skip ⟨_, rfl, .inl ⟨_, rfl, rfl⟩⟩ rfl ?_
              refine AOD.skip ⟨_, rfl, .inl ⟨_, rfl, rfl⟩⟩ rfl ?_
              refine AOD.skip ⟨_, rfl, .inl ⟨_, rfl, rfl⟩⟩ rfl ?_
              refine AOD.pure (LT.pickT (v := (.s (.c (bC true)))) rfl rfl) ⟨rfl, ⟨rfl, rfl⟩, trivial⟩ trivial rfl rfl ?_
              refine AOD.pure (LT.move (v := (.s (.c (bC true)))) rfl) ⟨rfl, trivial⟩ trivial rfl rfl ?_
              refine AOD.skip ⟨_, rfl, .inl ⟨_, rfl, rfl⟩⟩ rfl ?_
              refine AOD.skip ⟨_, rfl, .inl ⟨_, rfl, rfl⟩⟩ rfl ?_
              refine AOD.skip ⟨_, rfl, .inl ⟨_, rfl, rfl⟩⟩ rfl ?_
              refine AOD.skip ⟨_, rfl, .inr ⟨rfl, rfl⟩⟩ rfl ?_
              refine AOD.skip ⟨_, rfl, .inr ⟨rfl, rfl⟩⟩ rfl ?_
              refine AOD.skip ⟨_, rfl, .inr ⟨rfl, rfl⟩⟩ rfl ?_
              refine AOD.skip ⟨_, rfl, .inr ⟨rfl, rfl⟩⟩ rfl ?_
              refine AOD.skip ⟨_, rfl, .inr ⟨rfl, rfl⟩⟩ rfl ?_
              refine AOD.skip ⟨_, rfl, .inr ⟨rfl, rfl⟩⟩ rfl ?_
              refine AOD.skip ⟨_, rfl, .inr ⟨rfl, rfl⟩⟩ rfl ?_
              refine AOD.skip ⟨_, rfl, .inr ⟨rfl, rfl⟩⟩ rfl ?_
              refine AOD.skip ⟨_, rfl, .inr ⟨rfl, rfl⟩⟩ rfl ?_
              refine AOD.skip ⟨_, rfl, .inl ⟨_, rfl, rfl⟩⟩ rfl ?_
              refine AOD.pure (LT.pickT (v := (.s (.c (bC true)))) rfl rfl) ⟨rfl, ⟨rfl, rfl⟩, trivial⟩ trivial rfl rfl ?_
              refine AOD.nil (by kernel_rfl) ?_
              refine AWR.nil ⟨rfl, Ent.of ⟨rfl, rfl, rfl, rfl, rfl, trivial⟩ ⟨rfl, trivial⟩⟩
            · refine AOD.pure (LT.fieldPl rfl fo88_0) ⟨rfl, trivial⟩ trivial ⟨_, rfl, .inl ⟨_, rfl, (by rw [hb50]; rfl)⟩⟩ rfl ?_
              refine AOD.pure (LT.bload1 (c := (iC x42.A)) rfl ag3 (by exact rfl)) ⟨rfl, trivial⟩ ⟨rfl, trivial⟩ ⟨_, rfl, .inl ⟨_, rfl, (by rw [hb50]; rfl)⟩⟩ rfl ?_
              refine AOD.pure (LT.fieldPl rfl fo88_1) ⟨rfl, trivial⟩ trivial ⟨_, rfl, .inl ⟨_, rfl, (by rw [hb50]; rfl)⟩⟩ rfl ?_
              refine AOD.pure (LT.bload1 (c := (iC x42.B)) rfl ag3 (by exact rfl)) ⟨rfl, trivial⟩ ⟨rfl, trivial⟩ ⟨_, rfl, .inl ⟨_, rfl, (by rw [hb50]; rfl)⟩⟩ rfl ?_
              refine AOD.pure (LT.geq rfl) ⟨rfl, rfl, trivial⟩ trivial ⟨_, rfl, .inl ⟨_, rfl, (by rw [hb50]; rfl)⟩⟩ rfl ?_
              refine AOD.pure (LT.pickF (v := (.s (.c (bC (decide (x42.B ≤ x42.A)))))) rfl hb50) ⟨rfl, rfl, trivial⟩ trivial rfl rfl ?_
              refine AOD.pure (LT.move (v := (.s (.c (bC (decide (x42.B ≤ x42.A)))))) rfl) ⟨rfl, trivial⟩ trivial rfl rfl ?_
              refine AOD.split (fun hb51 => ?_) (fun hb51 => ?_)
              · refine AOD.skip ⟨_, rfl, .inl ⟨_, rfl, (by rw [hb51]; rfl)⟩⟩ rfl ?_
                refine AOD.skip ⟨_, rfl, .inl ⟨_, rfl, (by rw [hb51]; rfl)⟩⟩ rfl ?_
                refine AOD.skip ⟨_, rfl, .inl ⟨_, rfl, (by rw [hb51]; rfl)⟩⟩ rfl ?_
                refine AOD.skip ⟨_, rfl, .inl ⟨_, rfl, (by rw [hb51]; rfl)⟩⟩ rfl ?_
                refine AOD.skip ⟨_, rfl, .inl ⟨_, rfl, (by rw [hb51]; rfl)⟩⟩ rfl ?_
                refine AOD.pure (LT.pickT (v := (.s (.c (bC true)))) rfl hb51) ⟨rfl, ⟨rfl, rfl⟩, trivial⟩ trivial rfl rfl ?_
                refine AOD.pure (LT.move (v := (.s (.c (bC true)))) rfl) ⟨rfl, trivial⟩ trivial rfl rfl ?_
                refine AOD.skip ⟨_, rfl, .inl ⟨_, rfl, rfl⟩⟩ rfl ?_
                refine AOD.skip ⟨_, rfl, .inl ⟨_, rfl, rfl⟩⟩ rfl ?_
                refine AOD.skip ⟨_, rfl, .inl ⟨_, rfl, rfl⟩⟩ rfl ?_
                refine AOD.skip ⟨_, rfl, .inr ⟨rfl, rfl⟩⟩ rfl ?_
                refine AOD.skip ⟨_, rfl, .inr ⟨rfl, rfl⟩⟩ rfl ?_
                refine AOD.skip ⟨_, rfl, .inr ⟨rfl, rfl⟩⟩ rfl ?_
                refine AOD.skip ⟨_, rfl, .inr ⟨rfl, rfl⟩⟩ rfl ?_
                refine AOD.skip ⟨_, rfl, .inr ⟨rfl, rfl⟩⟩ rfl ?_
                refine AOD.skip ⟨_, rfl, .inr ⟨rfl, rfl⟩⟩ rfl ?_
                refine AOD.skip ⟨_, rfl, .inr ⟨rfl, rfl⟩⟩ rfl ?_
                refine AOD.skip ⟨_, rfl, .inr ⟨rfl, rfl⟩⟩ rfl ?_
                refine AOD.skip ⟨_, rfl, .inr ⟨rfl, rfl⟩⟩ rfl ?_
                refine AOD.skip ⟨_, rfl, .inl ⟨_, rfl, rfl⟩⟩ rfl ?_
                refine AOD.pure (LT.pickT (v := (.s (.c (bC true)))) rfl rfl) ⟨rfl, ⟨rfl, rfl⟩, trivial⟩ trivial rfl rfl ?_
                refine AOD.nil (by kernel_rfl) ?_
                refine AWR.nil ⟨rfl, Ent.of ⟨rfl, rfl, rfl, rfl, rfl, trivial⟩ ⟨rfl, trivial⟩⟩
              · refine AOD.pure (LT.fieldPl rfl fo88_1) ⟨rfl, trivial⟩ trivial ⟨_, rfl, .inl ⟨_, rfl, (by rw [hb51]; rfl)⟩⟩ rfl ?_
                refine AOD.pure (LT.bload1 (c := (iC x42.B)) rfl ag3 (by exact rfl)) ⟨rfl, trivial⟩ ⟨rfl, trivial⟩ ⟨_, rfl, .inl ⟨_, rfl, (by rw [hb51]; rfl)⟩⟩ rfl ?_
                refine AOD.pure (LT.fieldPl rfl fo30_0) ⟨rfl, trivial⟩ trivial ⟨_, rfl, .inl ⟨_, rfl, (by rw [hb51]; rfl)⟩⟩ rfl ?_
                refine AOD.pure (LT.bload1 (c := (iC g.Points)) rfl ag3 (by exact rfl)) ⟨rfl, trivial⟩ ⟨rfl, trivial⟩ ⟨_, rfl, .inl ⟨_, rfl, (by rw [hb51]; rfl)⟩⟩ rfl ?_
                refine AOD.pure (LT.geq rfl) ⟨rfl, rfl, trivial⟩ trivial ⟨_, rfl, .inl ⟨_, rfl, (by rw [hb51]; rfl)⟩⟩ rfl ?_
                refine AOD.pure (LT.pickF (v := (.s (.c (bC (decide (g.Points ≤ x42.B)))))) rfl hb51) ⟨rfl, rfl, trivial⟩ trivial rfl rfl ?_
                refine AOD.pure (LT.move (v := (.s (.c (bC (decide (g.Points ≤ x42.B)))))) rfl) ⟨rfl, trivial⟩ trivial rfl rfl ?_
                refine AOD.split (fun hb52 => ?_) (fun hb52 => ?_)
                · refine AOD.skip ⟨_, rfl, .inl ⟨_, rfl, (by rw [hb52]; rfl)⟩⟩ rfl ?_
                  refine AOD.skip ⟨_, rfl, .inl ⟨_, rfl, (by rw [hb52]; rfl)⟩⟩ rfl ?_
                  refine AOD.skip ⟨_, rfl, .inl ⟨_, rfl, (by rw [hb52]; rfl)⟩⟩ rfl ?_
                  refine AOD.skip ⟨_, rfl, .inr ⟨rfl, rfl⟩⟩ rfl ?_
                  refine AOD.skip ⟨_, rfl, .inr ⟨rfl, rfl⟩⟩ rfl ?_
                  refine AOD.skip ⟨_, rfl, .inr ⟨rfl, rfl⟩⟩ rfl ?_
                  refine AOD.skip ⟨_, rfl, .inr ⟨rfl, rfl⟩⟩ rfl ?_
                  refine AOD.skip ⟨_, rfl, .inr ⟨rfl, rfl⟩⟩ rfl ?_
                  refine AOD.skip ⟨_, rfl, .inr ⟨rfl, rfl⟩⟩ rfl ?_
                  refine AOD.skip ⟨_, rfl, .inr ⟨rfl, rfl⟩⟩ rfl ?_
                  refine AOD.skip ⟨_, rfl, .inr ⟨rfl, rfl⟩⟩ rfl ?_
                  refine AOD.skip ⟨_, rfl, .inr ⟨rfl, rfl⟩⟩ rfl ?_
                  refine AOD.skip ⟨_, rfl, .inl ⟨_, rfl, (by rw [hb52]; rfl)⟩⟩ rfl ?_
                  refine AOD.pure (LT.pickT (v := (.s (.c (bC true)))) rfl hb52) ⟨rfl, ⟨rfl, rfl⟩, trivial⟩ trivial rfl rfl ?_
                  refine AOD.nil (by kernel_rfl) ?_
                  refine AWR.nil ⟨rfl, Ent.of ⟨rfl, rfl, rfl, rfl, rfl, trivial⟩ ⟨rfl, trivial⟩⟩
                · refine AOD.pure (LT.move (v := (.s (.c (iC s7)))) rfl) ⟨rfl, trivial⟩ trivial ⟨_, rfl, .inl ⟨_, rfl, (by rw [hb52]; rfl)⟩⟩ rfl ?_
                  refine AOD.pure (LT.gtr rfl) ⟨rfl, ⟨rfl, rfl⟩, trivial⟩ trivial ⟨_, rfl, .inl ⟨_, rfl, (by rw [hb52]; rfl)⟩⟩ rfl ?_
                  refine AOD.pure (LT.move (v := (.s (.c (bC (decide (0 < s7)))))) rfl) ⟨rfl, trivial⟩ trivial ⟨_, rfl, .inl ⟨_, rfl, (by rw [hb52]; rfl)⟩⟩ rfl ?_
                  refine AOD.split (fun hb53 => ?_) (fun hb53 => ?_)
                  · refine AOD.pure (LT.fieldPl rfl fo30_1) ⟨rfl, trivial⟩ trivial ⟨_, rfl, .inl ⟨_, rfl, (by rw [hb53]; rfl)⟩⟩ rfl ?_
                    refine AOD.pure (LT.bload1 (c := (.pv (.xs false (g.Bars.map encTBar)))) rfl ag28 (by exact rfl)) ⟨rfl, trivial⟩ ⟨rfl, trivial⟩ ⟨_, rfl, .inl ⟨_, rfl, (by rw [hb53]; rfl)⟩⟩ rfl ?_
                    refine AOD.pure (LT.move (v := (.s (.c (iC s7)))) rfl) ⟨rfl, trivial⟩ trivial ⟨_, rfl, .inl ⟨_, rfl, (by rw [hb53]; rfl)⟩⟩ rfl ?_
                    refine AOD.pure (LT.sub rfl) ⟨rfl, ⟨rfl, rfl⟩, trivial⟩ trivial ⟨_, rfl, .inl ⟨_, rfl, (by rw [hb53]; rfl)⟩⟩ rfl ?_
                    refine AOD.bind fun x54 hx54 => ?_
                    refine AOD.pure (LT.tindexRO (enc := encTBar) rfl el28 hx54 sz88) ⟨rfl, rfl, trivial⟩ trivial ⟨_, rfl, .inl ⟨_, rfl, (by rw [hb53]; rfl)⟩⟩ rfl ?_
                    refine AOD.pure (LT.loadPxN rfl ag88 (infS inf88) (by exact sz88.symm)) ⟨rfl, trivial⟩ trivial ⟨_, rfl, .inl ⟨_, rfl, (by rw [hb53]; rfl)⟩⟩ rfl ?_
                    refine AOD.pure (LT.bloadN (out := [(iC x42.A), (iC x42.B)]) rfl ag88 (infS inf88) sz88 (by exact rfl) (by exact rfl)) ⟨rfl, trivial⟩ ⟨rfl, trivial⟩ ⟨_, rfl, .inl ⟨_, rfl, (by rw [hb53]; rfl)⟩⟩ rfl ?_
                    refine AOD.bind fun r55 hr55 => ?_
                    refine AOD.pure (@LT.callF Try.prog _ _ 171 _ _ [(.agg [(iC x54.A), (iC x54.B)]), (.agg [(iC x42.A), (iC x42.B)])] _ _ [] _ _ _ _ (w_impl_compareBars x54 x42 r55 hr55) rfl cb171 (.cons (.agg (.cons (.same rfl) (.cons (.same rfl) .nil))) (.cons (.agg (.cons (.same rfl) (.cons (.same rfl) .nil))) .nil)) rfl rfl trivial) ⟨rfl, rfl, rfl, trivial⟩ trivial ⟨_, rfl, .inl ⟨_, rfl, (by rw [hb53]; rfl)⟩⟩ rfl ?_
                    refine AOD.pure (LT.gtr rfl) ⟨rfl, ⟨rfl, rfl⟩, trivial⟩ trivial ⟨_, rfl, .inl ⟨_, rfl, (by rw [hb53]; rfl)⟩⟩ rfl ?_
                    refine AOD.pure (LT.pickT (v := (.s (.c (bC (decide (0 < r55)))))) rfl hb53) ⟨rfl, rfl, trivial⟩ trivial ⟨_, rfl, .inl ⟨_, rfl, (by rw [hb52]; rfl)⟩⟩ rfl ?_
                    refine AOD.pure (LT.pickF (v := (.s (.c (bC (decide (0 < r55)))))) rfl hb52) ⟨rfl, rfl, trivial⟩ trivial rfl rfl ?_
                    refine AOD.nil (by kernel_rfl) ?_
                    refine AWR.nil ⟨rfl, Ent.of ⟨rfl, rfl, rfl, rfl, rfl, trivial⟩ ⟨rfl, trivial⟩⟩
                  · refine AOD.skip ⟨_, rfl, .inl ⟨_, rfl, (by rw [hb53]; rfl)⟩⟩ rfl ?_
                    refine AOD.skip ⟨_, rfl, .inl ⟨_, rfl, (by rw [hb53]; rfl)⟩⟩ rfl ?_
                    refine AOD.skip ⟨_, rfl, .inl ⟨_, rfl, (by rw [hb53]; rfl)⟩⟩ rfl ?_
                    refine AOD.skip ⟨_, rfl, .inl ⟨_, rfl, (by rw [hb53]; rfl)⟩⟩ rfl ?_
                    refine AOD.skip ⟨_, rfl, .inl ⟨_, rfl, (by rw [hb53]; rfl)⟩⟩ rfl ?_
                    refine AOD.skip ⟨_, rfl, .inl ⟨_, rfl, (by rw [hb53]; rfl)⟩⟩ rfl ?_
                    refine AOD.skip ⟨_, rfl, .inl ⟨_, rfl, (by rw [hb53]; rfl)⟩⟩ rfl ?_
                    refine AOD.skip ⟨_, rfl, .inl ⟨_, rfl, (by rw [hb53]; rfl)⟩⟩ rfl ?_
                    refine AOD.skip ⟨_, rfl, .inl ⟨_, rfl, (by rw [hb53]; rfl)⟩⟩ rfl ?_
                    refine AOD.pure (LT.pickF (v := (.s (.c (bC false)))) rfl hb53) ⟨rfl, ⟨rfl, rfl⟩, trivial⟩ trivial ⟨_, rfl, .inl ⟨_, rfl, (by rw [hb52]; rfl)⟩⟩ rfl ?_
                    refine AOD.pure (LT.pickF (v := (.s (.c (bC false)))) rfl hb52) ⟨rfl, rfl, trivial⟩ trivial rfl rfl ?_
                    refine AOD.nil (by kernel_rfl) ?_
                    refine AWR.nil ⟨rfl, Ent.of ⟨rfl, rfl, rfl, rfl, rfl, trivial⟩ ⟨rfl, trivial⟩⟩
          · refine AWR.cond rfl (fun hc56 => ?_) (fun hc56 => ?_)
            · refine AWR.seq ?_
              refine AWR.region ?_
              refine AOR.pure (LT.assign (v := (.s (.c (bC false)))) rfl) ⟨⟨rfl, rfl⟩, trivial⟩ trivial rfl rfl ?_
              refine AOR.nil ?_
              refine AWR.ret ⟨rfl, FPost.mk (.inr rfl) ⟨rfl, trivial⟩ trivial rfl ⟨PermP.sc, trivial⟩ trivial⟩
            · refine AWR.skip ?_
              refine AWR.blk ?_
              refine AWR.region ?_
              refine AOR.pure (LT.add rfl) ⟨rfl, ⟨rfl, rfl⟩, trivial⟩ trivial rfl rfl ?_
              refine AOR.pure (LT.move (v := (.s (.c (iC (w64 (s7 + 1)))))) rfl) ⟨rfl, trivial⟩ trivial rfl rfl ?_
              refine AOR.nil ?_
              refine AWR.nil ⟨rfl, Ent.of ⟨rfl, rfl, rfl, rfl, trivial⟩ ⟨rfl, trivial⟩⟩
        · refine AWR.exit_end rfl ⟨rfl, Ent.of trivial trivial⟩
      · refine AWR.seq ?_
        refine AWR.region ?_
        refine AOR.pure (LT.assign (v := (.s (.c (bC true)))) rfl) ⟨⟨rfl, rfl⟩, trivial⟩ trivial rfl rfl ?_
        refine AOR.nil ?_
        refine AWR.ret (FPost.mk (.inr rfl) ⟨rfl, trivial⟩ trivial rfl ⟨PermP.sc, trivial⟩ trivial)
set_option maxRecDepth 100000 in
set_option maxHeartbeats 8000000 in
theorem w_laws_eqBar (a : TBar) (b : TBar) : ∀ t, m_laws_eqBar a b = some t → Fw.Fn Try.prog 174 [(.agg [(iC a.A), (iC a.B)]), (.agg [(iC b.A), (iC b.B)])] [] (.s (.c (bC t))) [] [] [] := by
  refine Fw.Fn.of (P := Try.prog) (X := []) (pn := []) (rs := (fun (t : Bool) => [(.c (bC t))])) (dfs := (fun (t : Bool) => [])) Try.func174 rfl Try.ntmps174 (Nat.le_of_ble_eq_true rfl) rfl ?_
  intro w0 U0 R0 g0
  unfold m_laws_eqBar
  refine AWR.seq ?_
  refine AWR.region ?_
  refine AOR.step (LT.box (n := 21) (v := (.agg [(iC a.A), (iC a.B)])) rfl sz88 (by exact rfl)) ⟨rfl, trivial⟩ trivial rfl rfl ?_
  refine AOR.step (LT.box (n := 22) (v := (.agg [(iC b.A), (iC b.B)])) rfl sz88 (by exact rfl)) ⟨rfl, trivial⟩ trivial rfl rfl ?_
  refine AOR.pure (LT.assign (v := (.s (.c (bC false)))) rfl) ⟨⟨rfl, rfl⟩, trivial⟩ trivial rfl rfl ?_
  refine AOR.nil ?_
  refine AWR.seq ?_
  refine AWR.seq ?_
  refine AWR.region ?_
  refine AOR.pure (LT.fieldPl rfl fo88_0) ⟨rfl, trivial⟩ trivial rfl rfl ?_
  refine AOR.pure (LT.bload1 (c := (iC a.A)) rfl ag3 (by exact rfl)) ⟨rfl, trivial⟩ ⟨rfl, trivial⟩ rfl rfl ?_
  refine AOR.pure (LT.fieldPl rfl fo88_0) ⟨rfl, trivial⟩ trivial rfl rfl ?_
  refine AOR.pure (LT.bload1 (c := (iC b.A)) rfl ag3 (by exact rfl)) ⟨rfl, trivial⟩ ⟨rfl, trivial⟩ rfl rfl ?_
  refine AOR.pure (LT.neq rfl) ⟨rfl, rfl, trivial⟩ trivial rfl rfl ?_
  refine AOR.nil ?_
  refine AWR.cond rfl (fun hc1 => ?_) (fun hc1 => ?_)
  · refine AWR.seq ?_
    refine AWR.ent (Ent.of (σ' := []) (m' := []) trivial trivial) ?_
    refine AWR.region ?_
    refine AOR.pure (LT.assign (v := (.s (.c (bC false)))) rfl) ⟨⟨rfl, rfl⟩, trivial⟩ trivial rfl rfl ?_
    refine AOR.nil ?_
    refine AWR.ret (FPost.mk (.inr rfl) ⟨rfl, trivial⟩ trivial rfl ⟨PermP.sc, trivial⟩ trivial)
  · refine AWR.skip ?_
    refine AWR.seq ?_
    refine AWR.seq ?_
    refine AWR.ent (Ent.of (σ' := [(2, (.s (.c (.pl 21 0)))), (3, (.s (.c (.pl 22 0))))]) (m' := [(21, (.row 88 [[(iC a.A), (iC a.B)]])), (22, (.row 88 [[(iC b.A), (iC b.B)]]))]) ⟨rfl, rfl, trivial⟩ ⟨rfl, rfl, trivial⟩) ?_
    refine AWR.region ?_
    refine AOR.pure (LT.fieldPl rfl fo88_1) ⟨rfl, trivial⟩ trivial rfl rfl ?_
    refine AOR.pure (LT.bload1 (c := (iC a.B)) rfl ag3 (by exact rfl)) ⟨rfl, trivial⟩ ⟨rfl, trivial⟩ rfl rfl ?_
    refine AOR.pure (LT.fieldPl rfl fo88_1) ⟨rfl, trivial⟩ trivial rfl rfl ?_
    refine AOR.pure (LT.bload1 (c := (iC b.B)) rfl ag3 (by exact rfl)) ⟨rfl, trivial⟩ ⟨rfl, trivial⟩ rfl rfl ?_
    refine AOR.pure (LT.neq rfl) ⟨rfl, rfl, trivial⟩ trivial rfl rfl ?_
    refine AOR.nil ?_
    refine AWR.cond rfl (fun hc2 => ?_) (fun hc2 => ?_)
    · refine AWR.seq ?_
      refine AWR.region ?_
      refine AOR.pure (LT.assign (v := (.s (.c (bC false)))) rfl) ⟨⟨rfl, rfl⟩, trivial⟩ trivial rfl rfl ?_
      refine AOR.nil ?_
      refine AWR.ret (FPost.mk (.inr rfl) ⟨rfl, trivial⟩ trivial rfl ⟨PermP.sc, trivial⟩ trivial)
    · refine AWR.skip ?_
      refine AWR.seq ?_
      refine AWR.region ?_
      refine AOR.pure (LT.assign (v := (.s (.c (bC true)))) rfl) ⟨⟨rfl, rfl⟩, trivial⟩ trivial rfl rfl ?_
      refine AOR.nil ?_
      refine AWR.ret (FPost.mk (.inr rfl) ⟨rfl, trivial⟩ trivial rfl ⟨PermP.sc, trivial⟩ trivial)
set_option maxRecDepth 100000 in
set_option maxHeartbeats 8000000 in
theorem w_laws_eqBarS (a : (List TBar)) (b : (List TBar)) : ∀ t, m_laws_eqBarS a b = some t → Fw.Fn Try.prog 105 [(.c (.pv (.xs false (a.map encTBar)))), (.c (.pv (.xs false (b.map encTBar))))] [] (.s (.c (bC t))) [] [] [] := by
  refine Fw.Fn.of (P := Try.prog) (X := []) (pn := []) (rs := (fun (t : Bool) => [(.c (bC t))])) (dfs := (fun (t : Bool) => [])) Try.func105 rfl Try.ntmps105 (Nat.le_of_ble_eq_true rfl) rfl ?_
  intro w0 U0 R0 g0
  unfold m_laws_eqBarS
  refine AWR.seq ?_
  refine AWR.region ?_
  refine AOR.pure (LT.assign (v := (.s (.c (bC false)))) rfl) ⟨⟨rfl, rfl⟩, trivial⟩ trivial rfl rfl ?_
  refine AOR.nil ?_
  refine AWR.seq ?_
  refine AWR.seq ?_
  refine AWR.region ?_
  refine AOR.pure (LT.move (v := (.s (.c (.pv (.xs false (a.map encTBar)))))) rfl) ⟨rfl, trivial⟩ trivial rfl rfl ?_
  refine AOR.pure (LT.tlenRO rfl und28) ⟨rfl, trivial⟩ trivial rfl rfl ?_
  refine AOR.pure (LT.move (v := (.s (.c (.pv (.xs false (b.map encTBar)))))) rfl) ⟨rfl, trivial⟩ trivial rfl rfl ?_
  refine AOR.pure (LT.tlenRO rfl und28) ⟨rfl, trivial⟩ trivial rfl rfl ?_
  refine AOR.pure (LT.neq rfl) ⟨rfl, rfl, trivial⟩ trivial rfl rfl ?_
  refine AOR.nil ?_
  refine AWR.cond rfl (fun hc1 => ?_) (fun hc1 => ?_)
  · refine AWR.seq ?_
    refine AWR.region ?_
    refine AOR.pure (LT.assign (v := (.s (.c (bC false)))) rfl) ⟨⟨rfl, rfl⟩, trivial⟩ trivial rfl rfl ?_
    refine AOR.nil ?_
    refine AWR.ret (FPost.mk (.inr rfl) ⟨rfl, trivial⟩ trivial rfl ⟨PermP.sc, trivial⟩ trivial)
  · refine AWR.skip ?_
    refine AWR.seq ?_
    refine AWR.seq ?_
    refine AWR.region ?_
    refine AOR.pure (LT.assign (v := (.s (.c (iC 0)))) rfl) ⟨⟨rfl, rfl⟩, trivial⟩ trivial rfl rfl ?_
    refine AOR.nil ?_
    refine AWR.block ?_
    refine AWR.loopR (id := 0) (m_laws_eqBarS_L1 a b) (fun s2 => ([(0, (.s (.c (.pv (.xs false (a.map encTBar)))))), (1, (.s (.c (.pv (.xs false (b.map encTBar)))))), (5, (.s (.c (iC s2))))], [])) (fun b13 => ([], [])) (FPost Try.prog Try.f105.results.toList [] [] (fun (t : Bool) => [(.c (bC t))]) (fun (t : Bool) => [])) ?_ (Ent.of ⟨rfl, rfl, rfl, trivial⟩ trivial) rfl (fun b13 _ => ?_) (by intro r t σ m ht hk; injection ht with ht; subst ht; exact hk)
    · intro s2
      unfold m_laws_eqBarS_L1
      refine AWR.seq ?_
      refine AWR.seq ?_
      refine AWR.region ?_
      refine AOR.pure (LT.move (v := (.s (.c (iC s2)))) rfl) ⟨rfl, trivial⟩ trivial rfl rfl ?_
      refine AOR.pure (LT.move (v := (.s (.c (.pv (.xs false (a.map encTBar)))))) rfl) ⟨rfl, trivial⟩ trivial rfl rfl ?_
      refine AOR.pure (LT.tlenRO rfl und28) ⟨rfl, trivial⟩ trivial rfl rfl ?_
      refine AOR.pure (LT.lss rfl) ⟨rfl, rfl, trivial⟩ trivial rfl rfl ?_
      refine AOR.nil ?_
      refine AWR.cond rfl (fun hc14 => ?_) (fun hc14 => ?_)
      · refine AWR.skip ?_
        refine AWR.seq ?_
        refine AWR.block ?_
        refine AWR.seq ?_
        refine AWR.draw mixed ?_
        refine AOD.pure (LT.move (v := (.s (.c (.pv (.xs false (a.map encTBar)))))) rfl) ⟨rfl, trivial⟩ trivial rfl rfl ?_
        refine AOD.pure (LT.move (v := (.s (.c (iC s2)))) rfl) ⟨rfl, trivial⟩ trivial rfl rfl ?_
        refine AOD.bind fun x15 hx15 => ?_
        refine AOD.pure (LT.tindexRO (enc := encTBar) rfl el28 hx15 sz88) ⟨rfl, rfl, trivial⟩ trivial rfl rfl ?_
        refine AOD.pure (LT.loadPxN rfl ag88 (infS inf88) (by exact sz88.symm)) ⟨rfl, trivial⟩ trivial rfl rfl ?_
        refine AOD.pure (LT.move (v := (.s (.c (.pv (.xs false (b.map encTBar)))))) rfl) ⟨rfl, trivial⟩ trivial rfl rfl ?_
        refine AOD.pure (LT.move (v := (.s (.c (iC s2)))) rfl) ⟨rfl, trivial⟩ trivial rfl rfl ?_
        refine AOD.bind fun x16 hx16 => ?_
        refine AOD.pure (LT.tindexRO (enc := encTBar) rfl el28 hx16 sz88) ⟨rfl, rfl, trivial⟩ trivial rfl rfl ?_
        refine AOD.pure (LT.loadPxN rfl ag88 (infS inf88) (by exact sz88.symm)) ⟨rfl, trivial⟩ trivial rfl rfl ?_
        refine AOD.bind fun r17 hr17 => ?_
        refine AOD.pure (@LT.callF Try.prog _ _ 174 _ _ [(.agg [(iC x15.A), (iC x15.B)]), (.agg [(iC x16.A), (iC x16.B)])] _ _ [] _ _ _ _ (w_laws_eqBar x15 x16 r17 hr17) rfl cb174 (.cons (.agg (.cons (.same rfl) (.cons (.same rfl) .nil))) (.cons (.agg (.cons (.same rfl) (.cons (.same rfl) .nil))) .nil)) rfl rfl trivial) ⟨rfl, rfl, rfl, trivial⟩ trivial rfl rfl ?_
        refine AOD.pure (LT.not rfl) ⟨rfl, trivial⟩ trivial rfl rfl ?_
        refine AOD.nil (by kernel_rfl) ?_
        refine AWR.cond rfl (fun hc18 => ?_) (fun hc18 => ?_)
        · refine AWR.seq ?_
          refine AWR.ent (Ent.of (σ' := []) (m' := []) trivial trivial) ?_
          refine AWR.region ?_
          refine AOR.pure (LT.assign (v := (.s (.c (bC false)))) rfl) ⟨⟨rfl, rfl⟩, trivial⟩ trivial rfl rfl ?_
          refine AOR.nil ?_
          refine AWR.ret ⟨rfl, FPost.mk (.inr rfl) ⟨rfl, trivial⟩ trivial rfl ⟨PermP.sc, trivial⟩ trivial⟩
        · refine AWR.skip ?_
          refine AWR.blk ?_
          refine AWR.ent (Ent.of (σ' := [(0, (.s (.c (.pv (.xs false (a.map encTBar)))))), (1, (.s (.c (.pv (.xs false (b.map encTBar)))))), (5, (.s (.c (iC s2))))]) (m' := []) ⟨rfl, rfl, rfl, trivial⟩ trivial) ?_
          refine AWR.region ?_
          refine AOR.pure (LT.move (v := (.s (.c (iC s2)))) rfl) ⟨rfl, trivial⟩ trivial rfl rfl ?_
          refine AOR.pure (LT.add rfl) ⟨rfl, ⟨rfl, rfl⟩, trivial⟩ trivial rfl rfl ?_
          refine AOR.pure (LT.assign (v := (.s (.c (iC (w64 (s2 + 1)))))) rfl) ⟨rfl, trivial⟩ trivial rfl rfl ?_
          refine AOR.nil ?_
          refine AWR.nil ⟨rfl, Ent.of ⟨rfl, rfl, rfl, trivial⟩ trivial⟩
      · refine AWR.exit_end rfl ⟨rfl, Ent.of trivial trivial⟩
    · refine AWR.seq ?_
      refine AWR.region ?_
      refine AOR.pure (LT.assign (v := (.s (.c (bC true)))) rfl) ⟨⟨rfl, rfl⟩, trivial⟩ trivial rfl rfl ?_
      refine AOR.nil ?_
      refine AWR.ret (FPost.mk (.inr rfl) ⟨rfl, trivial⟩ trivial rfl ⟨PermP.sc, trivial⟩ trivial)
set_option maxRecDepth 100000 in
set_option maxHeartbeats 8000000 in
theorem w_laws_eqGraph (a : TGraph) (b : TGraph) : ∀ t, m_laws_eqGraph a b = some t → Fw.Fn Try.prog 20 [(.agg [(iC a.Points), (.pv (.xs false (a.Bars.map encTBar)))]), (.agg [(iC b.Points), (.pv (.xs false (b.Bars.map encTBar)))])] [] (.s (.c (bC t))) [] [] [] := by
  refine Fw.Fn.of (P := Try.prog) (X := []) (pn := []) (rs := (fun (t : Bool) => [(.c (bC t))])) (dfs := (fun (t : Bool) => [])) Try.func20 rfl Try.ntmps20 (Nat.le_of_ble_eq_true rfl) rfl ?_
  intro w0 U0 R0 g0
  unfold m_laws_eqGraph
  refine AWR.seq ?_
  refine AWR.region ?_
  refine AOR.step (LT.box (n := 21) (v := (.agg [(iC a.Points), (.pv (.xs false (a.Bars.map encTBar)))])) rfl sz30 (by exact rfl)) ⟨rfl, trivial⟩ trivial rfl rfl ?_
  refine AOR.step (LT.box (n := 22) (v := (.agg [(iC b.Points), (.pv (.xs false (b.Bars.map encTBar)))])) rfl sz30 (by exact rfl)) ⟨rfl, trivial⟩ trivial rfl rfl ?_
  refine AOR.pure (LT.assign (v := (.s (.c (bC false)))) rfl) ⟨⟨rfl, rfl⟩, trivial⟩ trivial rfl rfl ?_
  refine AOR.nil ?_
  refine AWR.seq ?_
  refine AWR.seq ?_
  refine AWR.region ?_
  refine AOR.pure (LT.fieldPl rfl fo30_0) ⟨rfl, trivial⟩ trivial rfl rfl ?_
  refine AOR.pure (LT.bload1 (c := (iC a.Points)) rfl ag3 (by exact rfl)) ⟨rfl, trivial⟩ ⟨rfl, trivial⟩ rfl rfl ?_
  refine AOR.pure (LT.fieldPl rfl fo30_0) ⟨rfl, trivial⟩ trivial rfl rfl ?_
  refine AOR.pure (LT.bload1 (c := (iC b.Points)) rfl ag3 (by exact rfl)) ⟨rfl, trivial⟩ ⟨rfl, trivial⟩ rfl rfl ?_
  refine AOR.pure (LT.neq rfl) ⟨rfl, rfl, trivial⟩ trivial rfl rfl ?_
  refine AOR.nil ?_
  refine AWR.cond rfl (fun hc1 => ?_) (fun hc1 => ?_)
  · refine AWR.seq ?_
    refine AWR.ent (Ent.of (σ' := []) (m' := []) trivial trivial) ?_
    refine AWR.region ?_
    refine AOR.pure (LT.assign (v := (.s (.c (bC false)))) rfl) ⟨⟨rfl, rfl⟩, trivial⟩ trivial rfl rfl ?_
    refine AOR.nil ?_
    refine AWR.ret (FPost.mk (.inr rfl) ⟨rfl, trivial⟩ trivial rfl ⟨PermP.sc, trivial⟩ trivial)
  · refine AWR.skip ?_
    refine AWR.seq ?_
    refine AWR.seq ?_
    refine AWR.ent (Ent.of (σ' := [(2, (.s (.c (.pl 21 0)))), (3, (.s (.c (.pl 22 0))))]) (m' := [(21, (.row 30 [[(iC a.Points), (.pv (.xs false (a.Bars.map encTBar)))]])), (22, (.row 30 [[(iC b.Points), (.pv (.xs false (b.Bars.map encTBar)))]]))]) ⟨rfl, rfl, trivial⟩ ⟨rfl, rfl, trivial⟩) ?_
    refine AWR.region ?_
    refine AOR.pure (LT.fieldPl rfl fo30_1) ⟨rfl, trivial⟩ trivial rfl rfl ?_
    refine AOR.pure (LT.bload1 (c := (.pv (.xs false (a.Bars.map encTBar)))) rfl ag28 (by exact rfl)) ⟨rfl, trivial⟩ ⟨rfl, trivial⟩ rfl rfl ?_
    refine AOR.pure (LT.fieldPl rfl fo30_1) ⟨rfl, trivial⟩ trivial rfl rfl ?_
    refine AOR.pure (LT.bload1 (c := (.pv (.xs false (b.Bars.map encTBar)))) rfl ag28 (by exact rfl)) ⟨rfl, trivial⟩ ⟨rfl, trivial⟩ rfl rfl ?_
    refine AOR.bind fun r2 hr2 => ?_
    refine AOR.pure (@LT.callF Try.prog _ _ 105 _ _ [(.c (.pv (.xs false (a.Bars.map encTBar)))), (.c (.pv (.xs false (b.Bars.map encTBar))))] _ _ [] _ _ _ _ (w_laws_eqBarS a.Bars b.Bars r2 hr2) rfl cb105 (.cons (.c (.same rfl)) (.cons (.c (.same rfl)) .nil)) rfl rfl trivial) ⟨rfl, rfl, rfl, trivial⟩ trivial rfl rfl ?_
    refine AOR.pure (LT.not rfl) ⟨rfl, trivial⟩ trivial rfl rfl ?_
    refine AOR.nil ?_
    refine AWR.cond rfl (fun hc3 => ?_) (fun hc3 => ?_)
    · refine AWR.seq ?_
      refine AWR.region ?_
      refine AOR.pure (LT.assign (v := (.s (.c (bC false)))) rfl) ⟨⟨rfl, rfl⟩, trivial⟩ trivial rfl rfl ?_
      refine AOR.nil ?_
      refine AWR.ret (FPost.mk (.inr rfl) ⟨rfl, trivial⟩ trivial rfl ⟨PermP.sc, trivial⟩ trivial)
    · refine AWR.skip ?_
      refine AWR.seq ?_
      refine AWR.region ?_
      refine AOR.pure (LT.assign (v := (.s (.c (bC true)))) rfl) ⟨⟨rfl, rfl⟩, trivial⟩ trivial rfl rfl ?_
      refine AOR.nil ?_
      refine AWR.ret (FPost.mk (.inr rfl) ⟨rfl, trivial⟩ trivial rfl ⟨PermP.sc, trivial⟩ trivial)
end Go.Proofs.Ytfiiebikkimjbaa
