/- The code computes the models. Written by a program of mine. -/
import Derived.Test.YtoedmjkipecloaaGenT
set_option linter.unusedVariables false
set_option linter.unusedSimpArgs false
set_option linter.unnecessarySimpa false
open Go Go.Fw
namespace Go.Proofs.Ytoedmjkipecloaa
set_option maxRecDepth 100000 in
set_option maxHeartbeats 8000000 in
theorem w_spec_l4Other (b : TBar) (v : Int) : ∀ t, m_spec_l4Other b v = some t → Fw.Fn Try.prog 124 [(.agg [(iC b.A), (iC b.B)]), (.c (iC v))] [] (.s (.c (iC t))) [] [] [] := by
  refine Fw.Fn.of (P := Try.prog) (X := []) (pn := []) (rs := (fun (t : Int) => [(.c (iC t))])) (dfs := (fun (t : Int) => [])) Try.func124 rfl Try.ntmps124 (Nat.le_of_ble_eq_true rfl) rfl ?_
  intro w0 U0 R0 g0
  unfold m_spec_l4Other
  refine AWR.seq ?_
  refine AWR.region ?_
  refine AOR.step (LT.box (n := 21) (v := (.agg [(iC b.A), (iC b.B)])) rfl sz69 (by exact rfl)) ⟨rfl, trivial⟩ trivial rfl rfl ?_
  refine AOR.pure (LT.assign (v := (.s (.c (iC 0)))) rfl) ⟨⟨rfl, rfl⟩, trivial⟩ trivial rfl rfl ?_
  refine AOR.nil ?_
  refine AWR.seq ?_
  refine AWR.region ?_
  refine AOR.pure (LT.fieldPl rfl fo69_0) ⟨rfl, trivial⟩ trivial rfl rfl ?_
  refine AOR.pure (LT.bload1 (c := (iC b.A)) rfl ag3 (by exact rfl)) ⟨rfl, trivial⟩ ⟨rfl, trivial⟩ rfl rfl ?_
  refine AOR.pure (LT.fieldPl rfl fo69_1) ⟨rfl, trivial⟩ trivial rfl rfl ?_
  refine AOR.pure (LT.bload1 (c := (iC b.B)) rfl ag3 (by exact rfl)) ⟨rfl, trivial⟩ ⟨rfl, trivial⟩ rfl rfl ?_
  refine AOR.pure (LT.add rfl) ⟨rfl, rfl, trivial⟩ trivial rfl rfl ?_
  refine AOR.pure (LT.move (v := (.s (.c (iC v)))) rfl) ⟨rfl, trivial⟩ trivial rfl rfl ?_
  refine AOR.pure (LT.sub rfl) ⟨rfl, rfl, trivial⟩ trivial rfl rfl ?_
  refine AOR.pure (LT.assign (v := (.s (.c (iC (w64 ((w64 (b.A + b.B)) - v)))))) rfl) ⟨rfl, trivial⟩ trivial rfl rfl ?_
  refine AOR.nil ?_
  refine AWR.ret (FPost.mk (.inr rfl) ⟨rfl, trivial⟩ trivial rfl ⟨PermP.sc, trivial⟩ trivial)
set_option maxRecDepth 100000 in
set_option maxHeartbeats 8000000 in
theorem w_impl_Bar_other (x : TBar) (v : Int) : ∀ t, m_impl_Bar_other x v = some t → Fw.Fn Try.prog 126 [(.agg [(iC x.A), (iC x.B)]), (.c (iC v))] [] (.s (.c (iC t))) [] [] [] := by
  refine Fw.Fn.of (P := Try.prog) (X := []) (pn := []) (rs := (fun (t : Int) => [(.c (iC t))])) (dfs := (fun (t : Int) => [])) Try.func126 rfl Try.ntmps126 (Nat.le_of_ble_eq_true rfl) rfl ?_
  intro w0 U0 R0 g0
  unfold m_impl_Bar_other
  refine AWR.seq ?_
  refine AWR.region ?_
  refine AOR.step (LT.box (n := 21) (v := (.agg [(iC x.A), (iC x.B)])) rfl sz69 (by exact rfl)) ⟨rfl, trivial⟩ trivial rfl rfl ?_
  refine AOR.pure (LT.assign (v := (.s (.c (iC 0)))) rfl) ⟨⟨rfl, rfl⟩, trivial⟩ trivial rfl rfl ?_
  refine AOR.nil ?_
  refine AWR.seq ?_
  refine AWR.seq ?_
  refine AWR.region ?_
  refine AOR.pure (LT.fieldPl rfl fo69_0) ⟨rfl, trivial⟩ trivial rfl rfl ?_
  refine AOR.pure (LT.bload1 (c := (iC x.A)) rfl ag3 (by exact rfl)) ⟨rfl, trivial⟩ ⟨rfl, trivial⟩ rfl rfl ?_
  refine AOR.pure (LT.move (v := (.s (.c (iC v)))) rfl) ⟨rfl, trivial⟩ trivial rfl rfl ?_
  refine AOR.pure (LT.eql rfl) ⟨rfl, rfl, trivial⟩ trivial rfl rfl ?_
  refine AOR.nil ?_
  refine AWR.cond rfl (fun hc1 => ?_) (fun hc1 => ?_)
  · refine AWR.seq ?_
    refine AWR.region ?_
    refine AOR.pure (LT.fieldPl rfl fo69_1) ⟨rfl, trivial⟩ trivial rfl rfl ?_
    refine AOR.pure (LT.bload1 (c := (iC x.B)) rfl ag3 (by exact rfl)) ⟨rfl, trivial⟩ ⟨rfl, trivial⟩ rfl rfl ?_
    refine AOR.pure (LT.assign (v := (.s (.c (iC x.B)))) rfl) ⟨rfl, trivial⟩ trivial rfl rfl ?_
    refine AOR.nil ?_
    refine AWR.ret (FPost.mk (.inr rfl) ⟨rfl, trivial⟩ trivial rfl ⟨PermP.sc, trivial⟩ trivial)
  · refine AWR.skip ?_
    refine AWR.seq ?_
    refine AWR.region ?_
    refine AOR.pure (LT.fieldPl rfl fo69_0) ⟨rfl, trivial⟩ trivial rfl rfl ?_
    refine AOR.pure (LT.bload1 (c := (iC x.A)) rfl ag3 (by exact rfl)) ⟨rfl, trivial⟩ ⟨rfl, trivial⟩ rfl rfl ?_
    refine AOR.pure (LT.assign (v := (.s (.c (iC x.A)))) rfl) ⟨rfl, trivial⟩ trivial rfl rfl ?_
    refine AOR.nil ?_
    refine AWR.ret (FPost.mk (.inr rfl) ⟨rfl, trivial⟩ trivial rfl ⟨PermP.sc, trivial⟩ trivial)
end Go.Proofs.Ytoedmjkipecloaa
