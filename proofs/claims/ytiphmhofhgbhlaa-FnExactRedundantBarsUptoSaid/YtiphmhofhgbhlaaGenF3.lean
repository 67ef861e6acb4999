/- The code computes the models. Written by a program of mine. -/
import Derived.Test.YtiphmhofhgbhlaaGenF0
import Derived.Test.YtiphmhofhgbhlaaGenF1
import Derived.Test.YtiphmhofhgbhlaaGenF2
set_option linter.unusedVariables false
set_option linter.unusedSimpArgs false
set_option linter.unnecessarySimpa false
open Go Go.Fw
namespace Go.Proofs.Ytiphmhofhgbhlaa
set_option maxRecDepth 100000 in
set_option maxHeartbeats 8000000 in
theorem w_spec_PlaceBar (g : TGraph) (k : Int) (l : Int) (p : TPebbles) (bar : Int) : ∀ t, m_spec_PlaceBar g k l p bar = some t → Fw.Fn Try.prog 78 [(.agg [(iC g.Points), (.pv (.xs false (g.Bars.map encTBar)))]), (.c (iC k)), (.c (iC l)), (.agg [(.pv (.xs false (p.Free.map encInt))), (.pv (.xs false (p.Tails.map encInt))), (.pv (.xs false (p.Placed.map encInt)))]), (.c (iC bar))] [] (resA [(.agg [(.loc 0 0 t.1.Free.length), (.loc 1 0 t.1.Tails.length), (.loc 2 0 t.1.Placed.length)]), (.c (bC t.2))]) [(0, (.prow 3 (t.1.Free.map encInt))), (1, (.prow 3 (t.1.Tails.map encInt))), (2, (.prow 3 (t.1.Placed.map encInt)))] [] [0, 1, 2] := by
  refine Fw.Fn.of (P := Try.prog) (X := [0, 1, 2]) (pn := []) (rs := (fun (t : (TPebbles × Bool)) => [(.agg [(.loc 0 0 t.1.Free.length), (.loc 1 0 t.1.Tails.length), (.loc 2 0 t.1.Placed.length)]), (.c (bC t.2))])) (dfs := (fun (t : (TPebbles × Bool)) => [(0, (.prow 3 (t.1.Free.map encInt))), (1, (.prow 3 (t.1.Tails.map encInt))), (2, (.prow 3 (t.1.Placed.map encInt)))])) Try.func78 rfl Try.ntmps78 (Nat.le_of_ble_eq_true rfl) rfl ?_
  intro w0 U0 R0 g0
  unfold m_spec_PlaceBar
  refine AWR.seq ?_
  refine AWR.region ?_
  refine AOR.step (LT.box (n := 21) (v := (.agg [(iC g.Points), (.pv (.xs false (g.Bars.map encTBar)))])) rfl sz30 (by exact rfl)) ⟨rfl, trivial⟩ trivial rfl rfl ?_
  refine AOR.step (LT.box (n := 22) (v := (.agg [(.pv (.xs false (p.Free.map encInt))), (.pv (.xs false (p.Tails.map encInt))), (.pv (.xs false (p.Placed.map encInt)))])) rfl sz68 (by exact rfl)) ⟨rfl, trivial⟩ trivial rfl rfl ?_
  refine AOR.step (LT.alloc (n := 23) (cells := [(sC nilV), (sC nilV), (sC nilV)]) rfl ti68 rfl rfl rfl) trivial trivial rfl rfl ?_
  refine AOR.pure (LT.assign (v := (.s (.c (bC false)))) rfl) ⟨⟨rfl, rfl⟩, trivial⟩ trivial rfl rfl ?_
  refine AOR.nil ?_
  refine AWR.seq ?_
  refine AWR.seq ?_
  refine AWR.joinK (fun j9 => ([(2, (.s (.c (iC l)))), (4, (.s (.c (iC bar)))), (5, (.s (.c (.pl 21 0)))), (8, (.s (.c (.pl 22 0)))), (10, (.s (.c (.pl 23 0)))), (55, (.s (.c (bC j9))))], [(21, (.row 30 [[(iC g.Points), (.pv (.xs false (g.Bars.map encTBar)))]])), (22, (.row 68 [[(.pv (.xs false (p.Free.map encInt))), (.pv (.xs false (p.Tails.map encInt))), (.pv (.xs false (p.Placed.map encInt)))]])), (23, (.row 68 [[(sC nilV), (sC nilV), (sC nilV)]]))])) ?_ (fun j9 _ => ?_)
  · refine AWR.region ?_
    refine AOR.pure (LT.bloadN (out := [(iC g.Points), (.pv (.xs false (g.Bars.map encTBar)))]) rfl ag30 (infS inf30) sz30 (by exact rfl) (by exact rfl)) ⟨rfl, trivial⟩ ⟨rfl, trivial⟩ rfl rfl ?_
    refine AOR.pure (LT.move (v := (.s (.c (iC k)))) rfl) ⟨rfl, trivial⟩ trivial rfl rfl ?_
    refine AOR.pure (LT.bloadN (out := [(.pv (.xs false (p.Free.map encInt))), (.pv (.xs false (p.Tails.map encInt))), (.pv (.xs false (p.Placed.map encInt)))]) rfl ag68 (infS inf68) sz68 (by exact rfl) (by exact rfl)) ⟨rfl, trivial⟩ ⟨rfl, trivial⟩ rfl rfl ?_
    refine AOR.bind fun r10 hr10 => ?_
    refine AOR.pure (@LT.callF Try.prog _ _ 81 _ _ [(.agg [(iC g.Points), (.pv (.xs false (g.Bars.map encTBar)))]), (.c (iC k)), (.agg [(.pv (.xs false (p.Free.map encInt))), (.pv (.xs false (p.Tails.map encInt))), (.pv (.xs false (p.Placed.map encInt)))])] _ _ [] _ _ _ _ (w_spec_IsPebbles g k p r10 hr10) rfl cb81 (.cons (.agg (.cons (.same rfl) (.cons (.same rfl) .nil))) (.cons (.c (.same rfl)) (.cons (.agg (.cons (.same rfl) (.cons (.same rfl) (.cons (.same rfl) .nil)))) .nil))) rfl rfl trivial) ⟨rfl, rfl, rfl, rfl, trivial⟩ trivial rfl rfl ?_
    refine AOR.pure (LT.not rfl) ⟨rfl, trivial⟩ trivial rfl rfl ?_
    refine AOR.pure (LT.move (v := (.s (.c (bC (!r10))))) rfl) ⟨rfl, trivial⟩ trivial rfl rfl ?_
    refine AOR.split (fun hb11 => ?_) (fun hb11 => ?_)
    · refine AOR.skip ⟨_, rfl, .inl ⟨_, rfl, (by rw [hb11]; rfl)⟩⟩ rfl ?_
      refine AOR.skip ⟨_, rfl, .inl ⟨_, rfl, (by rw [hb11]; rfl)⟩⟩ rfl ?_
      refine AOR.skip ⟨_, rfl, .inl ⟨_, rfl, (by rw [hb11]; rfl)⟩⟩ rfl ?_
      refine AOR.skip ⟨_, rfl, .inl ⟨_, rfl, (by rw [hb11]; rfl)⟩⟩ rfl ?_
      refine AOR.pure (LT.pickT (v := (.s (.c (bC true)))) rfl hb11) ⟨rfl, ⟨rfl, rfl⟩, trivial⟩ trivial rfl rfl ?_
      refine AOR.pure (LT.move (v := (.s (.c (bC true)))) rfl) ⟨rfl, trivial⟩ trivial rfl rfl ?_
      refine AOR.skip ⟨_, rfl, .inl ⟨_, rfl, rfl⟩⟩ rfl ?_
      refine AOR.skip ⟨_, rfl, .inl ⟨_, rfl, rfl⟩⟩ rfl ?_
      refine AOR.pure (LT.pickT (v := (.s (.c (bC true)))) rfl rfl) ⟨rfl, ⟨rfl, rfl⟩, trivial⟩ trivial rfl rfl ?_
      refine AOR.pure (LT.move (v := (.s (.c (bC true)))) rfl) ⟨rfl, trivial⟩ trivial rfl rfl ?_
      refine AOR.skip ⟨_, rfl, .inl ⟨_, rfl, rfl⟩⟩ rfl ?_
      refine AOR.skip ⟨_, rfl, .inl ⟨_, rfl, rfl⟩⟩ rfl ?_
      refine AOR.skip ⟨_, rfl, .inl ⟨_, rfl, rfl⟩⟩ rfl ?_
      refine AOR.skip ⟨_, rfl, .inl ⟨_, rfl, rfl⟩⟩ rfl ?_
      refine AOR.skip ⟨_, rfl, .inl ⟨_, rfl, rfl⟩⟩ rfl ?_
      refine AOR.pure (LT.pickT (v := (.s (.c (bC true)))) rfl rfl) ⟨rfl, ⟨rfl, rfl⟩, trivial⟩ trivial rfl rfl ?_
      refine AOR.pure (LT.move (v := (.s (.c (bC true)))) rfl) ⟨rfl, trivial⟩ trivial rfl rfl ?_
      refine AOR.skip ⟨_, rfl, .inl ⟨_, rfl, rfl⟩⟩ rfl ?_
      refine AOR.skip ⟨_, rfl, .inl ⟨_, rfl, rfl⟩⟩ rfl ?_
      refine AOR.skip ⟨_, rfl, .inl ⟨_, rfl, rfl⟩⟩ rfl ?_
      refine AOR.skip ⟨_, rfl, .inl ⟨_, rfl, rfl⟩⟩ rfl ?_
      refine AOR.skip ⟨_, rfl, .inl ⟨_, rfl, rfl⟩⟩ rfl ?_
      refine AOR.skip ⟨_, rfl, .inr ⟨rfl, rfl⟩⟩ rfl ?_
      refine AOR.skip ⟨_, rfl, .inr ⟨rfl, rfl⟩⟩ rfl ?_
      refine AOR.skip ⟨_, rfl, .inr ⟨rfl, rfl⟩⟩ rfl ?_
      refine AOR.skip ⟨_, rfl, .inr ⟨rfl, rfl⟩⟩ rfl ?_
      refine AOR.skip ⟨_, rfl, .inr ⟨rfl, rfl⟩⟩ rfl ?_
      refine AOR.skip ⟨_, rfl, .inr ⟨rfl, rfl⟩⟩ rfl ?_
      refine AOR.skip ⟨_, rfl, .inr ⟨rfl, rfl⟩⟩ rfl ?_
      refine AOR.skip ⟨_, rfl, .inr ⟨rfl, rfl⟩⟩ rfl ?_
      refine AOR.skip ⟨_, rfl, .inr ⟨rfl, rfl⟩⟩ rfl ?_
      refine AOR.skip ⟨_, rfl, .inr ⟨rfl, rfl⟩⟩ rfl ?_
      refine AOR.skip ⟨_, rfl, .inl ⟨_, rfl, rfl⟩⟩ rfl ?_
      refine AOR.pure (LT.pickT (v := (.s (.c (bC true)))) rfl rfl) ⟨rfl, ⟨rfl, rfl⟩, trivial⟩ trivial rfl rfl ?_
      refine AOR.nil ?_
      refine AWR.nil ⟨rfl, Ent.of ⟨rfl, rfl, rfl, rfl, rfl, rfl, trivial⟩ ⟨rfl, rfl, rfl, trivial⟩⟩
    · refine AOR.pure (LT.move (v := (.s (.c (iC k)))) rfl) ⟨rfl, trivial⟩ trivial ⟨_, rfl, .inl ⟨_, rfl, (by rw [hb11]; rfl)⟩⟩ rfl ?_
      refine AOR.pure (LT.move (v := (.s (.c (iC l)))) rfl) ⟨rfl, trivial⟩ trivial ⟨_, rfl, .inl ⟨_, rfl, (by rw [hb11]; rfl)⟩⟩ rfl ?_
      refine AOR.bind fun r12 hr12 => ?_
      refine AOR.pure (@LT.callF Try.prog _ _ 77 _ _ [(.c (iC k)), (.c (iC l))] _ _ [] _ _ _ _ (w_spec_IsRange k l r12 hr12) rfl cb77 (.cons (.c (.same rfl)) (.cons (.c (.same rfl)) .nil)) rfl rfl trivial) ⟨rfl, rfl, rfl, trivial⟩ trivial ⟨_, rfl, .inl ⟨_, rfl, (by rw [hb11]; rfl)⟩⟩ rfl ?_
      refine AOR.pure (LT.not rfl) ⟨rfl, trivial⟩ trivial ⟨_, rfl, .inl ⟨_, rfl, (by rw [hb11]; rfl)⟩⟩ rfl ?_
      refine AOR.pure (LT.pickF (v := (.s (.c (bC (!r12))))) rfl hb11) ⟨rfl, rfl, trivial⟩ trivial rfl rfl ?_
      refine AOR.pure (LT.move (v := (.s (.c (bC (!r12))))) rfl) ⟨rfl, trivial⟩ trivial rfl rfl ?_
      refine AOR.split (fun hb13 => ?_) (fun hb13 => ?_)
      · refine AOR.skip ⟨_, rfl, .inl ⟨_, rfl, (by rw [hb13]; rfl)⟩⟩ rfl ?_
        refine AOR.skip ⟨_, rfl, .inl ⟨_, rfl, (by rw [hb13]; rfl)⟩⟩ rfl ?_
        refine AOR.pure (LT.pickT (v := (.s (.c (bC true)))) rfl hb13) ⟨rfl, ⟨rfl, rfl⟩, trivial⟩ trivial rfl rfl ?_
        refine AOR.pure (LT.move (v := (.s (.c (bC true)))) rfl) ⟨rfl, trivial⟩ trivial rfl rfl ?_
        refine AOR.skip ⟨_, rfl, .inl ⟨_, rfl, rfl⟩⟩ rfl ?_
        refine AOR.skip ⟨_, rfl, .inl ⟨_, rfl, rfl⟩⟩ rfl ?_
        refine AOR.skip ⟨_, rfl, .inl ⟨_, rfl, rfl⟩⟩ rfl ?_
        refine AOR.skip ⟨_, rfl, .inl ⟨_, rfl, rfl⟩⟩ rfl ?_
        refine AOR.skip ⟨_, rfl, .inl ⟨_, rfl, rfl⟩⟩ rfl ?_
        refine AOR.pure (LT.pickT (v := (.s (.c (bC true)))) rfl rfl) ⟨rfl, ⟨rfl, rfl⟩, trivial⟩ trivial rfl rfl ?_
        refine AOR.pure (LT.move (v := (.s (.c (bC true)))) rfl) ⟨rfl, trivial⟩ trivial rfl rfl ?_
        refine AOR.skip ⟨_, rfl, .inl ⟨_, rfl, rfl⟩⟩ rfl ?_
        refine AOR.skip ⟨_, rfl, .inl ⟨_, rfl, rfl⟩⟩ rfl ?_
        refine AOR.skip ⟨_, rfl, .inl ⟨_, rfl, rfl⟩⟩ rfl ?_
        refine AOR.skip ⟨_, rfl, .inl ⟨_, rfl, rfl⟩⟩ rfl ?_
        refine AOR.skip ⟨_, rfl, .inl ⟨_, rfl, rfl⟩⟩ rfl ?_
        refine AOR.skip ⟨_, rfl, .inr ⟨rfl, rfl⟩⟩ rfl ?_
        refine AOR.skip ⟨_, rfl, .inr ⟨rfl, rfl⟩⟩ rfl ?_
        refine AOR.skip ⟨_, rfl, .inr ⟨rfl, rfl⟩⟩ rfl ?_
        refine AOR.skip ⟨_, rfl, .inr ⟨rfl, rfl⟩⟩ rfl ?_
        refine AOR.skip ⟨_, rfl, .inr ⟨rfl, rfl⟩⟩ rfl ?_
        refine AOR.skip ⟨_, rfl, .inr ⟨rfl, rfl⟩⟩ rfl ?_
        refine AOR.skip ⟨_, rfl, .inr ⟨rfl, rfl⟩⟩ rfl ?_
        refine AOR.skip ⟨_, rfl, .inr ⟨rfl, rfl⟩⟩ rfl ?_
        refine AOR.skip ⟨_, rfl, .inr ⟨rfl, rfl⟩⟩ rfl ?_
        refine AOR.skip ⟨_, rfl, .inr ⟨rfl, rfl⟩⟩ rfl ?_
        refine AOR.skip ⟨_, rfl, .inl ⟨_, rfl, rfl⟩⟩ rfl ?_
        refine AOR.pure (LT.pickT (v := (.s (.c (bC true)))) rfl rfl) ⟨rfl, ⟨rfl, rfl⟩, trivial⟩ trivial rfl rfl ?_
        refine AOR.nil ?_
        refine AWR.nil ⟨rfl, Ent.of ⟨rfl, rfl, rfl, rfl, rfl, rfl, trivial⟩ ⟨rfl, rfl, rfl, trivial⟩⟩
      · refine AOR.pure (LT.move (v := (.s (.c (iC bar)))) rfl) ⟨rfl, trivial⟩ trivial ⟨_, rfl, .inl ⟨_, rfl, (by rw [hb13]; rfl)⟩⟩ rfl ?_
        refine AOR.pure (LT.lss rfl) ⟨rfl, ⟨rfl, rfl⟩, trivial⟩ trivial ⟨_, rfl, .inl ⟨_, rfl, (by rw [hb13]; rfl)⟩⟩ rfl ?_
        refine AOR.pure (LT.pickF (v := (.s (.c (bC (decide (bar < 0)))))) rfl hb13) ⟨rfl, rfl, trivial⟩ trivial rfl rfl ?_
        refine AOR.pure (LT.move (v := (.s (.c (bC (decide (bar < 0)))))) rfl) ⟨rfl, trivial⟩ trivial rfl rfl ?_
        refine AOR.split (fun hb14 => ?_) (fun hb14 => ?_)
        · refine AOR.skip ⟨_, rfl, .inl ⟨_, rfl, (by rw [hb14]; rfl)⟩⟩ rfl ?_
          refine AOR.skip ⟨_, rfl, .inl ⟨_, rfl, (by rw [hb14]; rfl)⟩⟩ rfl ?_
          refine AOR.skip ⟨_, rfl, .inl ⟨_, rfl, (by rw [hb14]; rfl)⟩⟩ rfl ?_
          refine AOR.skip ⟨_, rfl, .inl ⟨_, rfl, (by rw [hb14]; rfl)⟩⟩ rfl ?_
          refine AOR.skip ⟨_, rfl, .inl ⟨_, rfl, (by rw [hb14]; rfl)⟩⟩ rfl ?_
          refine AOR.pure (LT.pickT (v := (.s (.c (bC true)))) rfl hb14) ⟨rfl, ⟨rfl, rfl⟩, trivial⟩ trivial rfl rfl ?_
          refine AOR.pure (LT.move (v := (.s (.c (bC true)))) rfl) ⟨rfl, trivial⟩ trivial rfl rfl ?_
          refine AOR.skip ⟨_, rfl, .inl ⟨_, rfl, rfl⟩⟩ rfl ?_
          refine AOR.skip ⟨_, rfl, .inl ⟨_, rfl, rfl⟩⟩ rfl ?_
          refine AOR.skip ⟨_, rfl, .inl ⟨_, rfl, rfl⟩⟩ rfl ?_
          refine AOR.skip ⟨_, rfl, .inl ⟨_, rfl, rfl⟩⟩ rfl ?_
          refine AOR.skip ⟨_, rfl, .inl ⟨_, rfl, rfl⟩⟩ rfl ?_
          refine AOR.skip ⟨_, rfl, .inr ⟨rfl, rfl⟩⟩ rfl ?_
          refine AOR.skip ⟨_, rfl, .inr ⟨rfl, rfl⟩⟩ rfl ?_
          refine AOR.skip ⟨_, rfl, .inr ⟨rfl, rfl⟩⟩ rfl ?_
          refine AOR.skip ⟨_, rfl, .inr ⟨rfl, rfl⟩⟩ rfl ?_
          refine AOR.skip ⟨_, rfl, .inr ⟨rfl, rfl⟩⟩ rfl ?_
          refine AOR.skip ⟨_, rfl, .inr ⟨rfl, rfl⟩⟩ rfl ?_
          refine AOR.skip ⟨_, rfl, .inr ⟨rfl, rfl⟩⟩ rfl ?_
          refine AOR.skip ⟨_, rfl, .inr ⟨rfl, rfl⟩⟩ rfl ?_
          refine AOR.skip ⟨_, rfl, .inr ⟨rfl, rfl⟩⟩ rfl ?_
          refine AOR.skip ⟨_, rfl, .inr ⟨rfl, rfl⟩⟩ rfl ?_
          refine AOR.skip ⟨_, rfl, .inl ⟨_, rfl, rfl⟩⟩ rfl ?_
          refine AOR.pure (LT.pickT (v := (.s (.c (bC true)))) rfl rfl) ⟨rfl, ⟨rfl, rfl⟩, trivial⟩ trivial rfl rfl ?_
          refine AOR.nil ?_
          refine AWR.nil ⟨rfl, Ent.of ⟨rfl, rfl, rfl, rfl, rfl, rfl, trivial⟩ ⟨rfl, rfl, rfl, trivial⟩⟩
        · refine AOR.pure (LT.move (v := (.s (.c (iC bar)))) rfl) ⟨rfl, trivial⟩ trivial ⟨_, rfl, .inl ⟨_, rfl, (by rw [hb14]; rfl)⟩⟩ rfl ?_
          refine AOR.pure (LT.fieldPl rfl fo30_1) ⟨rfl, trivial⟩ trivial ⟨_, rfl, .inl ⟨_, rfl, (by rw [hb14]; rfl)⟩⟩ rfl ?_
          refine AOR.pure (LT.bload1 (c := (.pv (.xs false (g.Bars.map encTBar)))) rfl ag28 (by exact rfl)) ⟨rfl, trivial⟩ ⟨rfl, trivial⟩ ⟨_, rfl, .inl ⟨_, rfl, (by rw [hb14]; rfl)⟩⟩ rfl ?_
          refine AOR.pure (LT.tlenRO rfl und28) ⟨rfl, trivial⟩ trivial ⟨_, rfl, .inl ⟨_, rfl, (by rw [hb14]; rfl)⟩⟩ rfl ?_
          refine AOR.pure (LT.geq rfl) ⟨rfl, rfl, trivial⟩ trivial ⟨_, rfl, .inl ⟨_, rfl, (by rw [hb14]; rfl)⟩⟩ rfl ?_
          refine AOR.pure (LT.pickF (v := (.s (.c (bC (decide ((g.Bars.length : Int) ≤ bar)))))) rfl hb14) ⟨rfl, rfl, trivial⟩ trivial rfl rfl ?_
          refine AOR.pure (LT.move (v := (.s (.c (bC (decide ((g.Bars.length : Int) ≤ bar)))))) rfl) ⟨rfl, trivial⟩ trivial rfl rfl ?_
          refine AOR.split (fun hb15 => ?_) (fun hb15 => ?_)
          · refine AOR.skip ⟨_, rfl, .inl ⟨_, rfl, (by rw [hb15]; rfl)⟩⟩ rfl ?_
            refine AOR.skip ⟨_, rfl, .inl ⟨_, rfl, (by rw [hb15]; rfl)⟩⟩ rfl ?_
            refine AOR.skip ⟨_, rfl, .inl ⟨_, rfl, (by rw [hb15]; rfl)⟩⟩ rfl ?_
            refine AOR.skip ⟨_, rfl, .inl ⟨_, rfl, (by rw [hb15]; rfl)⟩⟩ rfl ?_
            refine AOR.skip ⟨_, rfl, .inl ⟨_, rfl, (by rw [hb15]; rfl)⟩⟩ rfl ?_
            refine AOR.skip ⟨_, rfl, .inr ⟨rfl, rfl⟩⟩ rfl ?_
            refine AOR.skip ⟨_, rfl, .inr ⟨rfl, rfl⟩⟩ rfl ?_
            refine AOR.skip ⟨_, rfl, .inr ⟨rfl, rfl⟩⟩ rfl ?_
            refine AOR.skip ⟨_, rfl, .inr ⟨rfl, rfl⟩⟩ rfl ?_
            refine AOR.skip ⟨_, rfl, .inr ⟨rfl, rfl⟩⟩ rfl ?_
            refine AOR.skip ⟨_, rfl, .inr ⟨rfl, rfl⟩⟩ rfl ?_
            refine AOR.skip ⟨_, rfl, .inr ⟨rfl, rfl⟩⟩ rfl ?_
            refine AOR.skip ⟨_, rfl, .inr ⟨rfl, rfl⟩⟩ rfl ?_
            refine AOR.skip ⟨_, rfl, .inr ⟨rfl, rfl⟩⟩ rfl ?_
            refine AOR.skip ⟨_, rfl, .inr ⟨rfl, rfl⟩⟩ rfl ?_
            refine AOR.skip ⟨_, rfl, .inl ⟨_, rfl, (by rw [hb15]; rfl)⟩⟩ rfl ?_
            refine AOR.pure (LT.pickT (v := (.s (.c (bC true)))) rfl hb15) ⟨rfl, ⟨rfl, rfl⟩, trivial⟩ trivial rfl rfl ?_
            refine AOR.nil ?_
            refine AWR.nil ⟨rfl, Ent.of ⟨rfl, rfl, rfl, rfl, rfl, rfl, trivial⟩ ⟨rfl, rfl, rfl, trivial⟩⟩
          · refine AOR.pure (LT.fieldPl rfl fo68_2) ⟨rfl, trivial⟩ trivial ⟨_, rfl, .inl ⟨_, rfl, (by rw [hb15]; rfl)⟩⟩ rfl ?_
            refine AOR.pure (LT.bload1 (c := (.pv (.xs false (p.Placed.map encInt)))) rfl ag26 (by exact rfl)) ⟨rfl, trivial⟩ ⟨rfl, trivial⟩ ⟨_, rfl, .inl ⟨_, rfl, (by rw [hb15]; rfl)⟩⟩ rfl ?_
            refine AOR.pure (LT.tlenRO rfl und26) ⟨rfl, trivial⟩ trivial ⟨_, rfl, .inl ⟨_, rfl, (by rw [hb15]; rfl)⟩⟩ rfl ?_
            refine AOR.pure (LT.gtr rfl) ⟨rfl, ⟨rfl, rfl⟩, trivial⟩ trivial ⟨_, rfl, .inl ⟨_, rfl, (by rw [hb15]; rfl)⟩⟩ rfl ?_
            refine AOR.pure (LT.move (v := (.s (.c (bC (decide (0 < (p.Placed.length : Int))))))) rfl) ⟨rfl, trivial⟩ trivial ⟨_, rfl, .inl ⟨_, rfl, (by rw [hb15]; rfl)⟩⟩ rfl ?_
            refine AOR.split (fun hb16 => ?_) (fun hb16 => ?_)
            · refine AOR.pure (LT.fieldPl rfl fo68_2) ⟨rfl, trivial⟩ trivial ⟨_, rfl, .inl ⟨_, rfl, (by rw [hb16]; rfl)⟩⟩ rfl ?_
              refine AOR.pure (LT.bload1 (c := (.pv (.xs false (p.Placed.map encInt)))) rfl ag26 (by exact rfl)) ⟨rfl, trivial⟩ ⟨rfl, trivial⟩ ⟨_, rfl, .inl ⟨_, rfl, (by rw [hb16]; rfl)⟩⟩ rfl ?_
              refine AOR.pure (LT.fieldPl rfl fo68_2) ⟨rfl, trivial⟩ trivial ⟨_, rfl, .inl ⟨_, rfl, (by rw [hb16]; rfl)⟩⟩ rfl ?_
              refine AOR.pure (LT.bload1 (c := (.pv (.xs false (p.Placed.map encInt)))) rfl ag26 (by exact rfl)) ⟨rfl, trivial⟩ ⟨rfl, trivial⟩ ⟨_, rfl, .inl ⟨_, rfl, (by rw [hb16]; rfl)⟩⟩ rfl ?_
              refine AOR.pure (LT.tlenRO rfl und26) ⟨rfl, trivial⟩ trivial ⟨_, rfl, .inl ⟨_, rfl, (by rw [hb16]; rfl)⟩⟩ rfl ?_
              refine AOR.pure (LT.sub rfl) ⟨rfl, ⟨rfl, rfl⟩, trivial⟩ trivial ⟨_, rfl, .inl ⟨_, rfl, (by rw [hb16]; rfl)⟩⟩ rfl ?_
              refine AOR.bind fun x17 hx17 => ?_
              refine AOR.pure (LT.tindexRO (enc := encInt) rfl el26 hx17 sz3) ⟨rfl, rfl, trivial⟩ trivial ⟨_, rfl, .inl ⟨_, rfl, (by rw [hb16]; rfl)⟩⟩ rfl ?_
              refine AOR.pure (LT.loadPx1 rfl ag3) ⟨rfl, trivial⟩ trivial ⟨_, rfl, .inl ⟨_, rfl, (by rw [hb16]; rfl)⟩⟩ rfl ?_
              refine AOR.pure (LT.move (v := (.s (.c (iC bar)))) rfl) ⟨rfl, trivial⟩ trivial ⟨_, rfl, .inl ⟨_, rfl, (by rw [hb16]; rfl)⟩⟩ rfl ?_
              refine AOR.pure (LT.geq rfl) ⟨rfl, rfl, trivial⟩ trivial ⟨_, rfl, .inl ⟨_, rfl, (by rw [hb16]; rfl)⟩⟩ rfl ?_
              refine AOR.pure (LT.pickT (v := (.s (.c (bC (decide (bar ≤ x17)))))) rfl hb16) ⟨rfl, rfl, trivial⟩ trivial ⟨_, rfl, .inl ⟨_, rfl, (by rw [hb15]; rfl)⟩⟩ rfl ?_
              refine AOR.pure (LT.pickF (v := (.s (.c (bC (decide (bar ≤ x17)))))) rfl hb15) ⟨rfl, rfl, trivial⟩ trivial rfl rfl ?_
              refine AOR.nil ?_
              refine AWR.nil ⟨rfl, Ent.of ⟨rfl, rfl, rfl, rfl, rfl, rfl, trivial⟩ ⟨rfl, rfl, rfl, trivial⟩⟩
            · refine AOR.skip ⟨_, rfl, .inl ⟨_, rfl, (by rw [hb16]; rfl)⟩⟩ rfl ?_
              refine AOR.skip ⟨_, rfl, .inl ⟨_, rfl, (by rw [hb16]; rfl)⟩⟩ rfl ?_
              refine AOR.skip ⟨_, rfl, .inl ⟨_, rfl, (by rw [hb16]; rfl)⟩⟩ rfl ?_
              refine AOR.skip ⟨_, rfl, .inl ⟨_, rfl, (by rw [hb16]; rfl)⟩⟩ rfl ?_
              refine AOR.skip ⟨_, rfl, .inl ⟨_, rfl, (by rw [hb16]; rfl)⟩⟩ rfl ?_
              refine AOR.skip ⟨_, rfl, .inl ⟨_, rfl, (by rw [hb16]; rfl)⟩⟩ rfl ?_
              refine AOR.skip ⟨_, rfl, .inl ⟨_, rfl, (by rw [hb16]; rfl)⟩⟩ rfl ?_
              refine AOR.skip ⟨_, rfl, .inl ⟨_, rfl, (by rw [hb16]; rfl)⟩⟩ rfl ?_
              refine AOR.skip ⟨_, rfl, .inl ⟨_, rfl, (by rw [hb16]; rfl)⟩⟩ rfl ?_
              refine AOR.skip ⟨_, rfl, .inl ⟨_, rfl, (by rw [hb16]; rfl)⟩⟩ rfl ?_
              refine AOR.pure (LT.pickF (v := (.s (.c (bC false)))) rfl hb16) ⟨rfl, ⟨rfl, rfl⟩, trivial⟩ trivial ⟨_, rfl, .inl ⟨_, rfl, (by rw [hb15]; rfl)⟩⟩ rfl ?_
              refine AOR.pure (LT.pickF (v := (.s (.c (bC false)))) rfl hb15) ⟨rfl, rfl, trivial⟩ trivial rfl rfl ?_
              refine AOR.nil ?_
              refine AWR.nil ⟨rfl, Ent.of ⟨rfl, rfl, rfl, rfl, rfl, rfl, trivial⟩ ⟨rfl, rfl, rfl, trivial⟩⟩
  · refine AWR.cond rfl (fun hc18 => ?_) (fun hc18 => ?_)
    · refine AWR.seq ?_
      refine AWR.region ?_
      refine AOR.pure (LT.bloadN (out := [(.pv (.xs false (p.Free.map encInt))), (.pv (.xs false (p.Tails.map encInt))), (.pv (.xs false (p.Placed.map encInt)))]) rfl ag68 (infS inf68) sz68 (by exact rfl) (by exact rfl)) ⟨rfl, trivial⟩ ⟨rfl, trivial⟩ rfl rfl ?_
      refine AOR.bind fun r19 hr19 => ?_
      refine AOR.step (@LT.callF Try.prog _ _ 82 _ _ [(.agg [(.pv (.xs false (p.Free.map encInt))), (.pv (.xs false (p.Tails.map encInt))), (.pv (.xs false (p.Placed.map encInt)))])] _ _ [] _ _ _ _ ((show Fw.Fn Try.prog 82 [(.agg [(.pv (.xs false (p.Free.map encInt))), (.pv (.xs false (p.Tails.map encInt))), (.pv (.xs false (p.Placed.map encInt)))])] [] (.s (.agg [(.loc 27 0 r19.Free.length), (.loc 28 0 r19.Tails.length), (.loc 29 0 r19.Placed.length)])) [(27, (.prow 3 (r19.Free.map encInt))), (28, (.prow 3 (r19.Tails.map encInt))), (29, (.prow 3 (r19.Placed.map encInt)))] [] [27, 28, 29] from Fw.Fn.ren [(0, 27), (1, 28), (2, 29)] (w_spec_l4Copy p r19 hr19) rfl)) rfl cb82 (.cons (.agg (.cons (.same rfl) (.cons (.same rfl) (.cons (.same rfl) .nil)))) .nil) rfl rfl trivial) ⟨rfl, rfl, trivial⟩ trivial rfl rfl ?_
      refine AOR.step (LT.bstore (v := (.agg [(.loc 27 0 r19.Free.length), (.loc 28 0 r19.Tails.length), (.loc 29 0 r19.Placed.length)])) (out := [(.loc 27 0 r19.Free.length), (.loc 28 0 r19.Tails.length), (.loc 29 0 r19.Placed.length)]) rfl rfl (infS inf68) sz68 (by exact rfl) (by exact Nat.le_of_ble_eq_true rfl) (by exact rfl)) ⟨rfl, rfl, trivial⟩ ⟨rfl, trivial⟩ rfl rfl ?_
      refine AOR.pure (LT.assign (v := (.s (.c (bC false)))) rfl) ⟨⟨rfl, rfl⟩, trivial⟩ trivial rfl rfl ?_
      refine AOR.nil ?_
      refine AWR.ent (Ent.of (σ' := [(10, (.s (.c (.pl 23 0)))), (11, (.s (.c (bC false))))]) (m' := [(23, (.row 68 [[(.loc 27 0 r19.Free.length), (.loc 28 0 r19.Tails.length), (.loc 29 0 r19.Placed.length)]])), (27, (.prow 3 (r19.Free.map encInt))), (28, (.prow 3 (r19.Tails.map encInt))), (29, (.prow 3 (r19.Placed.map encInt)))]) ⟨rfl, rfl, trivial⟩ ⟨rfl, rfl, rfl, rfl, trivial⟩) ?_
      refine AWR.ent (Ent.mv 27 0 rfl rfl) ?_
      refine AWR.ent (Ent.mv 28 1 rfl rfl) ?_
      refine AWR.ent (Ent.mv 29 2 rfl rfl) ?_
      refine AWR.ent (Ent.of (σ' := [(10, (.s (.c (.pl 23 0)))), (11, (.s (.c (bC false))))]) (m' := [(0, (.prow 3 (r19.Free.map encInt))), (1, (.prow 3 (r19.Tails.map encInt))), (2, (.prow 3 (r19.Placed.map encInt))), (23, (.row 68 [[(.loc 0 0 r19.Free.length), (.loc 1 0 r19.Tails.length), (.loc 2 0 r19.Placed.length)]]))]) ⟨rfl, rfl, trivial⟩ ⟨rfl, rfl, rfl, rfl, trivial⟩) ?_
      refine AWR.ret (FPost.mk (.inr rfl) ⟨⟨_, _, _, rfl, rfl, rfl, ag68, sz68, _, (infS inf68)⟩, rfl, trivial⟩ ⟨rfl, rfl, rfl, trivial⟩ rfl ⟨⟨trivial, trivial, trivial, trivial⟩, PermP.sc, trivial⟩ ⟨PermO.prow' perm_encInt, PermO.prow' perm_encInt, PermO.prow' perm_encInt, trivial⟩)
    · refine AWR.skip ?_
      refine AWR.seq ?_
      refine AWR.region ?_
      refine AOR.pure (LT.fieldPl rfl fo30_1) ⟨rfl, trivial⟩ trivial rfl rfl ?_
      refine AOR.pure (LT.bload1 (c := (.pv (.xs false (g.Bars.map encTBar)))) rfl ag28 (by exact rfl)) ⟨rfl, trivial⟩ ⟨rfl, trivial⟩ rfl rfl ?_
      refine AOR.pure (LT.move (v := (.s (.c (iC bar)))) rfl) ⟨rfl, trivial⟩ trivial rfl rfl ?_
      refine AOR.bind fun x20 hx20 => ?_
      refine AOR.pure (LT.tindexRO (enc := encTBar) rfl el28 hx20 sz60) ⟨rfl, rfl, trivial⟩ trivial rfl rfl ?_
      refine AOR.pure (LT.loadPxN rfl ag60 (infS inf60) (by exact sz60.symm)) ⟨rfl, trivial⟩ trivial rfl rfl ?_
      refine AOR.step (LT.alloc (n := 30) (cells := [(iC 0), (iC 0)]) rfl ti60 rfl rfl rfl) trivial trivial rfl rfl ?_
      refine AOR.step (LT.bstore (v := (.agg [(iC x20.A), (iC x20.B)])) (out := [(iC x20.A), (iC x20.B)]) rfl rfl (infS inf60) sz60 (by exact rfl) (by exact Nat.le_of_ble_eq_true rfl) (by exact rfl)) ⟨rfl, rfl, trivial⟩ ⟨rfl, trivial⟩ rfl rfl ?_
      refine AOR.nil ?_
      refine AWR.seq ?_
      refine AWR.ent (Ent.of (σ' := [(2, (.s (.c (iC l)))), (4, (.s (.c (iC bar)))), (5, (.s (.c (.pl 21 0)))), (8, (.s (.c (.pl 22 0)))), (10, (.s (.c (.pl 23 0)))), (12, (.s (.c (.pl 30 0))))]) (m' := [(21, (.row 30 [[(iC g.Points), (.pv (.xs false (g.Bars.map encTBar)))]])), (22, (.row 68 [[(.pv (.xs false (p.Free.map encInt))), (.pv (.xs false (p.Tails.map encInt))), (.pv (.xs false (p.Placed.map encInt)))]])), (23, (.row 68 [[(sC nilV), (sC nilV), (sC nilV)]])), (30, (.row 60 [[(iC x20.A), (iC x20.B)]]))]) ⟨rfl, rfl, rfl, rfl, rfl, rfl, trivial⟩ ⟨rfl, rfl, rfl, rfl, trivial⟩) ?_
      refine AWR.region ?_
      refine AOR.pure (LT.bloadN (out := [(iC g.Points), (.pv (.xs false (g.Bars.map encTBar)))]) rfl ag30 (infS inf30) sz30 (by exact rfl) (by exact rfl)) ⟨rfl, trivial⟩ ⟨rfl, trivial⟩ rfl rfl ?_
      refine AOR.pure (LT.bloadN (out := [(.pv (.xs false (p.Free.map encInt))), (.pv (.xs false (p.Tails.map encInt))), (.pv (.xs false (p.Placed.map encInt)))]) rfl ag68 (infS inf68) sz68 (by exact rfl) (by exact rfl)) ⟨rfl, trivial⟩ ⟨rfl, trivial⟩ rfl rfl ?_
      refine AOR.pure (LT.fieldPl rfl fo60_0) ⟨rfl, trivial⟩ trivial rfl rfl ?_
      refine AOR.pure (LT.bload1 (c := (iC x20.A)) rfl ag3 (by exact rfl)) ⟨rfl, trivial⟩ ⟨rfl, trivial⟩ rfl rfl ?_
      refine AOR.pure (LT.fieldPl rfl fo60_1) ⟨rfl, trivial⟩ trivial rfl rfl ?_
      refine AOR.pure (LT.bload1 (c := (iC x20.B)) rfl ag3 (by exact rfl)) ⟨rfl, trivial⟩ ⟨rfl, trivial⟩ rfl rfl ?_
      refine AOR.pure (LT.move (v := (.s (.c (iC l)))) rfl) ⟨rfl, trivial⟩ trivial rfl rfl ?_
      refine AOR.pure (LT.add rfl) ⟨rfl, ⟨rfl, rfl⟩, trivial⟩ trivial rfl rfl ?_
      refine AOR.bind fun r21 hr21 => ?_
      refine AOR.step (@LT.callF Try.prog _ _ 83 _ _ [(.agg [(iC g.Points), (.pv (.xs false (g.Bars.map encTBar)))]), (.agg [(.pv (.xs false (p.Free.map encInt))), (.pv (.xs false (p.Tails.map encInt))), (.pv (.xs false (p.Placed.map encInt)))]), (.c (iC x20.A)), (.c (iC x20.B)), (.c (iC (w64 (l + 1))))] _ _ [] _ _ _ _ ((show Fw.Fn Try.prog 83 [(.agg [(iC g.Points), (.pv (.xs false (g.Bars.map encTBar)))]), (.agg [(.pv (.xs false (p.Free.map encInt))), (.pv (.xs false (p.Tails.map encInt))), (.pv (.xs false (p.Placed.map encInt)))]), (.c (iC x20.A)), (.c (iC x20.B)), (.c (iC (w64 (l + 1))))] [] (.tup [(.agg [(.loc 32 0 r21.1.Free.length), (.loc 33 0 r21.1.Tails.length), (.loc 34 0 r21.1.Placed.length)]), (.c (bC r21.2))]) [(32, (.prow 3 (r21.1.Free.map encInt))), (33, (.prow 3 (r21.1.Tails.map encInt))), (34, (.prow 3 (r21.1.Placed.map encInt)))] [] [32, 33, 34] from Fw.Fn.ren [(0, 32), (1, 33), (2, 34)] (w_spec_l4Gather g p x20.A x20.B (w64 (l + 1)) r21 hr21) rfl)) rfl cb83 (.cons (.agg (.cons (.same rfl) (.cons (.same rfl) .nil))) (.cons (.agg (.cons (.same rfl) (.cons (.same rfl) (.cons (.same rfl) .nil)))) (.cons (.c (.same rfl)) (.cons (.c (.same rfl)) (.cons (.c (.same rfl)) .nil))))) rfl rfl trivial) ⟨rfl, rfl, rfl, rfl, rfl, rfl, trivial⟩ trivial rfl rfl ?_
      refine AOR.pure (LT.move (v := (.tup [(.agg [(.loc 32 0 r21.1.Free.length), (.loc 33 0 r21.1.Tails.length), (.loc 34 0 r21.1.Placed.length)]), (.c (bC r21.2))])) rfl) ⟨rfl, trivial⟩ trivial rfl rfl ?_
      refine AOR.pure (LT.extract (v := (.agg [(.loc 32 0 r21.1.Free.length), (.loc 33 0 r21.1.Tails.length), (.loc 34 0 r21.1.Placed.length)])) rfl (by exact rfl)) ⟨rfl, trivial⟩ trivial rfl rfl ?_
      refine AOR.pure (LT.extract (v := (.c (bC r21.2))) rfl (by exact rfl)) ⟨rfl, trivial⟩ trivial rfl rfl ?_
      refine AOR.step (LT.alloc (n := 35) (cells := [(sC nilV), (sC nilV), (sC nilV)]) rfl ti68 rfl rfl rfl) trivial trivial rfl rfl ?_
      refine AOR.step (LT.bstore (v := (.agg [(.loc 32 0 r21.1.Free.length), (.loc 33 0 r21.1.Tails.length), (.loc 34 0 r21.1.Placed.length)])) (out := [(.loc 32 0 r21.1.Free.length), (.loc 33 0 r21.1.Tails.length), (.loc 34 0 r21.1.Placed.length)]) rfl rfl (infS inf68) sz68 (by exact rfl) (by exact Nat.le_of_ble_eq_true rfl) (by exact rfl)) ⟨rfl, rfl, trivial⟩ ⟨rfl, trivial⟩ rfl rfl ?_
      refine AOR.pure (LT.assign (v := (.s (.c (bC r21.2)))) rfl) ⟨rfl, trivial⟩ trivial rfl rfl ?_
      refine AOR.nil ?_
      refine AWR.seq ?_
      refine AWR.seq ?_
      refine AWR.ent (Ent.of (σ' := [(4, (.s (.c (iC bar)))), (8, (.s (.c (.pl 22 0)))), (10, (.s (.c (.pl 23 0)))), (12, (.s (.c (.pl 30 0)))), (13, (.s (.c (.pl 35 0)))), (14, (.s (.c (bC r21.2))))]) (m' := [(22, (.row 68 [[(.pv (.xs false (p.Free.map encInt))), (.pv (.xs false (p.Tails.map encInt))), (.pv (.xs false (p.Placed.map encInt)))]])), (23, (.row 68 [[(sC nilV), (sC nilV), (sC nilV)]])), (30, (.row 60 [[(iC x20.A), (iC x20.B)]])), (32, (.prow 3 (r21.1.Free.map encInt))), (33, (.prow 3 (r21.1.Tails.map encInt))), (34, (.prow 3 (r21.1.Placed.map encInt))), (35, (.row 68 [[(.loc 32 0 r21.1.Free.length), (.loc 33 0 r21.1.Tails.length), (.loc 34 0 r21.1.Placed.length)]]))]) ⟨rfl, rfl, rfl, rfl, rfl, rfl, trivial⟩ ⟨rfl, rfl, rfl, rfl, rfl, rfl, rfl, trivial⟩) ?_
      refine AWR.region ?_
      refine AOR.pure (LT.move (v := (.s (.c (bC r21.2)))) rfl) ⟨rfl, trivial⟩ trivial rfl rfl ?_
      refine AOR.pure (LT.not rfl) ⟨rfl, trivial⟩ trivial rfl rfl ?_
      refine AOR.nil ?_
      refine AWR.cond rfl (fun hc22 => ?_) (fun hc22 => ?_)
      · refine AWR.seq ?_
        refine AWR.region ?_
        refine AOR.pure (LT.bloadN (out := [(.pv (.xs false (p.Free.map encInt))), (.pv (.xs false (p.Tails.map encInt))), (.pv (.xs false (p.Placed.map encInt)))]) rfl ag68 (infS inf68) sz68 (by exact rfl) (by exact rfl)) ⟨rfl, trivial⟩ ⟨rfl, trivial⟩ rfl rfl ?_
        refine AOR.bind fun r23 hr23 => ?_
        refine AOR.step (@LT.callF Try.prog _ _ 82 _ _ [(.agg [(.pv (.xs false (p.Free.map encInt))), (.pv (.xs false (p.Tails.map encInt))), (.pv (.xs false (p.Placed.map encInt)))])] _ _ [] _ _ _ _ ((show Fw.Fn Try.prog 82 [(.agg [(.pv (.xs false (p.Free.map encInt))), (.pv (.xs false (p.Tails.map encInt))), (.pv (.xs false (p.Placed.map encInt)))])] [] (.s (.agg [(.loc 37 0 r23.Free.length), (.loc 38 0 r23.Tails.length), (.loc 39 0 r23.Placed.length)])) [(37, (.prow 3 (r23.Free.map encInt))), (38, (.prow 3 (r23.Tails.map encInt))), (39, (.prow 3 (r23.Placed.map encInt)))] [] [37, 38, 39] from Fw.Fn.ren [(0, 37), (1, 38), (2, 39)] (w_spec_l4Copy p r23 hr23) rfl)) rfl cb82 (.cons (.agg (.cons (.same rfl) (.cons (.same rfl) (.cons (.same rfl) .nil)))) .nil) rfl rfl trivial) ⟨rfl, rfl, trivial⟩ trivial rfl rfl ?_
        refine AOR.step (LT.bstore (v := (.agg [(.loc 37 0 r23.Free.length), (.loc 38 0 r23.Tails.length), (.loc 39 0 r23.Placed.length)])) (out := [(.loc 37 0 r23.Free.length), (.loc 38 0 r23.Tails.length), (.loc 39 0 r23.Placed.length)]) rfl rfl (infS inf68) sz68 (by exact rfl) (by exact Nat.le_of_ble_eq_true rfl) (by exact rfl)) ⟨rfl, rfl, trivial⟩ ⟨rfl, trivial⟩ rfl rfl ?_
        refine AOR.pure (LT.assign (v := (.s (.c (bC false)))) rfl) ⟨⟨rfl, rfl⟩, trivial⟩ trivial rfl rfl ?_
        refine AOR.nil ?_
        refine AWR.ent (Ent.of (σ' := [(10, (.s (.c (.pl 23 0)))), (11, (.s (.c (bC false))))]) (m' := [(23, (.row 68 [[(.loc 37 0 r23.Free.length), (.loc 38 0 r23.Tails.length), (.loc 39 0 r23.Placed.length)]])), (37, (.prow 3 (r23.Free.map encInt))), (38, (.prow 3 (r23.Tails.map encInt))), (39, (.prow 3 (r23.Placed.map encInt)))]) ⟨rfl, rfl, trivial⟩ ⟨rfl, rfl, rfl, rfl, trivial⟩) ?_
        refine AWR.ent (Ent.mv 37 0 rfl rfl) ?_
        refine AWR.ent (Ent.mv 38 1 rfl rfl) ?_
        refine AWR.ent (Ent.mv 39 2 rfl rfl) ?_
        refine AWR.ent (Ent.of (σ' := [(10, (.s (.c (.pl 23 0)))), (11, (.s (.c (bC false))))]) (m' := [(0, (.prow 3 (r23.Free.map encInt))), (1, (.prow 3 (r23.Tails.map encInt))), (2, (.prow 3 (r23.Placed.map encInt))), (23, (.row 68 [[(.loc 0 0 r23.Free.length), (.loc 1 0 r23.Tails.length), (.loc 2 0 r23.Placed.length)]]))]) ⟨rfl, rfl, trivial⟩ ⟨rfl, rfl, rfl, rfl, trivial⟩) ?_
        refine AWR.ret (FPost.mk (.inr rfl) ⟨⟨_, _, _, rfl, rfl, rfl, ag68, sz68, _, (infS inf68)⟩, rfl, trivial⟩ ⟨rfl, rfl, rfl, trivial⟩ rfl ⟨⟨trivial, trivial, trivial, trivial⟩, PermP.sc, trivial⟩ ⟨PermO.prow' perm_encInt, PermO.prow' perm_encInt, PermO.prow' perm_encInt, trivial⟩)
      · refine AWR.skip ?_
        refine AWR.seq ?_
        refine AWR.region ?_
        refine AOR.pure (LT.fieldPl rfl fo60_0) ⟨rfl, trivial⟩ trivial rfl rfl ?_
        refine AOR.pure (LT.bload1 (c := (iC x20.A)) rfl ag3 (by exact rfl)) ⟨rfl, trivial⟩ ⟨rfl, trivial⟩ rfl rfl ?_
        refine AOR.pure (LT.assign (v := (.s (.c (iC x20.A)))) rfl) ⟨rfl, trivial⟩ trivial rfl rfl ?_
        refine AOR.nil ?_
        refine AWR.seq ?_
        refine AWR.seq ?_
        refine AWR.region ?_
        refine AOR.pure (LT.fieldPl rfl fo68_0) ⟨rfl, trivial⟩ trivial rfl rfl ?_
        refine AOR.pure (LT.bload1 (c := (.loc 32 0 r21.1.Free.length)) rfl ag26 (by exact rfl)) ⟨rfl, trivial⟩ ⟨rfl, trivial⟩ rfl rfl ?_
        refine AOR.pure (LT.fieldPl rfl fo60_0) ⟨rfl, trivial⟩ trivial rfl rfl ?_
        refine AOR.pure (LT.bload1 (c := (iC x20.A)) rfl ag3 (by exact rfl)) ⟨rfl, trivial⟩ ⟨rfl, trivial⟩ rfl rfl ?_
        refine AOR.bind fun x24 hx24 => ?_
        refine AOR.pure (LT.tindexLoc rfl rfl el26 hx24) ⟨rfl, rfl, trivial⟩ ⟨rfl, trivial⟩ rfl rfl ?_
        refine AOR.pure (LT.tload1 (k := 0) rfl ag3 hx24 (by exact rfl) (by exact rfl)) ⟨rfl, trivial⟩ ⟨rfl, trivial⟩ rfl rfl ?_
        refine AOR.pure (LT.eql rfl) ⟨rfl, ⟨rfl, rfl⟩, trivial⟩ trivial rfl rfl ?_
        refine AOR.nil ?_
        refine AWR.joinK (fun j26 => ([(4, (.s (.c (iC bar)))), (10, (.s (.c (.pl 23 0)))), (13, (.s (.c (.pl 35 0)))), (15, (.s (.c (iC j26))))], [(23, (.row 68 [[(sC nilV), (sC nilV), (sC nilV)]])), (32, (.prow 3 (r21.1.Free.map encInt))), (33, (.prow 3 (r21.1.Tails.map encInt))), (34, (.prow 3 (r21.1.Placed.map encInt))), (35, (.row 68 [[(.loc 32 0 r21.1.Free.length), (.loc 33 0 r21.1.Tails.length), (.loc 34 0 r21.1.Placed.length)]]))])) ?_ (fun j26 _ => ?_)
        · refine AWR.cond rfl (fun hc27 => ?_) (fun hc27 => ?_)
          · refine AWR.ent (Ent.of (σ' := [(4, (.s (.c (iC bar)))), (10, (.s (.c (.pl 23 0)))), (12, (.s (.c (.pl 30 0)))), (13, (.s (.c (.pl 35 0))))]) (m' := [(23, (.row 68 [[(sC nilV), (sC nilV), (sC nilV)]])), (30, (.row 60 [[(iC x20.A), (iC x20.B)]])), (32, (.prow 3 (r21.1.Free.map encInt))), (33, (.prow 3 (r21.1.Tails.map encInt))), (34, (.prow 3 (r21.1.Placed.map encInt))), (35, (.row 68 [[(.loc 32 0 r21.1.Free.length), (.loc 33 0 r21.1.Tails.length), (.loc 34 0 r21.1.Placed.length)]]))]) ⟨rfl, rfl, rfl, rfl, trivial⟩ ⟨rfl, rfl, rfl, rfl, rfl, rfl, trivial⟩) ?_
            refine AWR.region ?_
            refine AOR.pure (LT.fieldPl rfl fo60_1) ⟨rfl, trivial⟩ trivial rfl rfl ?_
            refine AOR.pure (LT.bload1 (c := (iC x20.B)) rfl ag3 (by exact rfl)) ⟨rfl, trivial⟩ ⟨rfl, trivial⟩ rfl rfl ?_
            refine AOR.pure (LT.assign (v := (.s (.c (iC x20.B)))) rfl) ⟨rfl, trivial⟩ trivial rfl rfl ?_
            refine AOR.nil ?_
            refine AWR.nil ⟨rfl, Ent.of ⟨rfl, rfl, rfl, rfl, trivial⟩ ⟨rfl, rfl, rfl, rfl, rfl, trivial⟩⟩
          · refine AWR.skip ?_
            refine AWR.nil ⟨rfl, Ent.of ⟨rfl, rfl, rfl, rfl, trivial⟩ ⟨rfl, rfl, rfl, rfl, rfl, trivial⟩⟩
        · refine AWR.seq ?_
          refine AWR.draw mixed ?_
          refine AOD.pure (LT.fieldPl rfl fo68_0) ⟨rfl, trivial⟩ trivial rfl rfl ?_
          refine AOD.pure (LT.bload1 (c := (.loc 32 0 r21.1.Free.length)) rfl ag26 (by exact rfl)) ⟨rfl, trivial⟩ ⟨rfl, trivial⟩ rfl rfl ?_
          refine AOD.pure (LT.move (v := (.s (.c (iC j26)))) rfl) ⟨rfl, trivial⟩ trivial rfl rfl ?_
          refine AOD.pure (LT.fieldPl rfl fo68_0) ⟨rfl, trivial⟩ trivial rfl rfl ?_
          refine AOD.pure (LT.bload1 (c := (.loc 32 0 r21.1.Free.length)) rfl ag26 (by exact rfl)) ⟨rfl, trivial⟩ ⟨rfl, trivial⟩ rfl rfl ?_
          refine AOD.pure (LT.move (v := (.s (.c (iC j26)))) rfl) ⟨rfl, trivial⟩ trivial rfl rfl ?_
          refine AOD.bind fun x28 hx28 => ?_
          refine AOD.pure (LT.tindexLoc rfl rfl el26 hx28) ⟨rfl, rfl, trivial⟩ ⟨rfl, trivial⟩ rfl rfl ?_
          refine AOD.pure (LT.tload1 (k := 0) rfl ag3 hx28 (by exact rfl) (by exact rfl)) ⟨rfl, trivial⟩ ⟨rfl, trivial⟩ rfl rfl ?_
          refine AOD.pure (LT.sub rfl) ⟨rfl, ⟨rfl, rfl⟩, trivial⟩ trivial rfl rfl ?_
          refine AOD.bind fun x29 hx29 => ?_
          refine AOD.pure (LT.tindexLoc rfl rfl el26 hx29) ⟨rfl, rfl, trivial⟩ ⟨rfl, trivial⟩ rfl rfl ?_
          refine AOD.step (LT.tstore (k := 0) (v := (.c (iC (w64 (x28 - 1))))) (b' := (w64 (x28 - 1))) rfl rfl (infS inf3) sz3 (by exact rfl) hx29 (by exact rfl) (by exact Nat.le_of_ble_eq_true rfl) (by exact rfl)) ⟨rfl, rfl, trivial⟩ ⟨rfl, trivial⟩ rfl rfl ?_
          refine AOD.nil (by kernel_rfl) ?_
          refine AWR.seq ?_
          refine AWR.ent (Ent.of (σ' := [(4, (.s (.c (iC bar)))), (10, (.s (.c (.pl 23 0)))), (13, (.s (.c (.pl 35 0)))), (15, (.s (.c (iC j26))))]) (m' := [(23, (.row 68 [[(sC nilV), (sC nilV), (sC nilV)]])), (32, (.prow 3 ((r21.1.Free.set j26.toNat (w64 (x28 - 1))).map encInt))), (33, (.prow 3 (r21.1.Tails.map encInt))), (34, (.prow 3 (r21.1.Placed.map encInt))), (35, (.row 68 [[(.loc 32 0 r21.1.Free.length), (.loc 33 0 r21.1.Tails.length), (.loc 34 0 r21.1.Placed.length)]]))]) ⟨rfl, rfl, rfl, rfl, trivial⟩ ⟨rfl, rfl, rfl, rfl, rfl, trivial⟩) ?_
          refine AWR.region ?_
          refine AOR.pure (LT.fieldPl rfl fo68_1) ⟨rfl, trivial⟩ trivial rfl rfl ?_
          refine AOR.pure (LT.bload1 (c := (.loc 33 0 r21.1.Tails.length)) rfl ag26 (by exact rfl)) ⟨rfl, trivial⟩ ⟨rfl, trivial⟩ rfl rfl ?_
          refine AOR.pure (LT.move (v := (.s (.c (iC j26)))) rfl) ⟨rfl, trivial⟩ trivial rfl rfl ?_
          refine AOR.step (LT.tbuildSlice (n := 40) (enc := encInt) [(0, .tmp 102, (.c (iC j26)))] ([j26] : List Int) rfl rfl und26 ti3 rfl rfl rfl rfl (by decide) (fun _ => rfl) rfl) ⟨rfl, trivial⟩ trivial rfl rfl ?_
          refine AOR.bind fun u30 hu30 => ?_
          refine AOR.step (LT.tappP (enc := encInt) rfl rfl rfl und26 ti3 rfl (by decide) (by decide) (fun _ => rfl) (lim_le hu30)) ⟨rfl, rfl, trivial⟩ ⟨rfl, rfl, trivial⟩ rfl rfl ?_
          refine AOR.pure (LT.fieldPl rfl fo68_1) ⟨rfl, trivial⟩ trivial rfl rfl ?_
          refine AOR.step (LT.bstore (v := (.c (.loc 33 0 (r21.1.Tails ++ ([j26] : List Int)).length))) (out := [(.loc 32 0 r21.1.Free.length), (.loc 33 0 (r21.1.Tails ++ ([j26] : List Int)).length), (.loc 34 0 r21.1.Placed.length)]) rfl rfl (infS inf26) sz26 (by exact rfl) (by exact Nat.le_of_ble_eq_true rfl) (by exact rfl)) ⟨rfl, rfl, trivial⟩ ⟨rfl, trivial⟩ rfl rfl ?_
          refine AOR.nil ?_
          refine AWR.seq ?_
          refine AWR.ent (Ent.of (σ' := [(4, (.s (.c (iC bar)))), (10, (.s (.c (.pl 23 0)))), (13, (.s (.c (.pl 35 0))))]) (m' := [(23, (.row 68 [[(sC nilV), (sC nilV), (sC nilV)]])), (32, (.prow 3 ((r21.1.Free.set j26.toNat (w64 (x28 - 1))).map encInt))), (33, (.prow 3 ((r21.1.Tails ++ ([j26] : List Int)).map encInt))), (34, (.prow 3 (r21.1.Placed.map encInt))), (35, (.row 68 [[(.loc 32 0 r21.1.Free.length), (.loc 33 0 (r21.1.Tails ++ ([j26] : List Int)).length), (.loc 34 0 r21.1.Placed.length)]]))]) ⟨rfl, rfl, rfl, trivial⟩ ⟨rfl, rfl, rfl, rfl, rfl, trivial⟩) ?_
          refine AWR.region ?_
          refine AOR.pure (LT.fieldPl rfl fo68_2) ⟨rfl, trivial⟩ trivial rfl rfl ?_
          refine AOR.pure (LT.bload1 (c := (.loc 34 0 r21.1.Placed.length)) rfl ag26 (by exact rfl)) ⟨rfl, trivial⟩ ⟨rfl, trivial⟩ rfl rfl ?_
          refine AOR.pure (LT.move (v := (.s (.c (iC bar)))) rfl) ⟨rfl, trivial⟩ trivial rfl rfl ?_
          refine AOR.step (LT.tbuildSlice (n := 41) (enc := encInt) [(0, .tmp 108, (.c (iC bar)))] ([bar] : List Int) rfl rfl und26 ti3 rfl rfl rfl rfl (by decide) (fun _ => rfl) rfl) ⟨rfl, trivial⟩ trivial rfl rfl ?_
          refine AOR.bind fun u31 hu31 => ?_
          refine AOR.step (LT.tappP (enc := encInt) rfl rfl rfl und26 ti3 rfl (by decide) (by decide) (fun _ => rfl) (lim_le hu31)) ⟨rfl, rfl, trivial⟩ ⟨rfl, rfl, trivial⟩ rfl rfl ?_
          refine AOR.pure (LT.fieldPl rfl fo68_2) ⟨rfl, trivial⟩ trivial rfl rfl ?_
          refine AOR.step (LT.bstore (v := (.c (.loc 34 0 (r21.1.Placed ++ ([bar] : List Int)).length))) (out := [(.loc 32 0 r21.1.Free.length), (.loc 33 0 (r21.1.Tails ++ ([j26] : List Int)).length), (.loc 34 0 (r21.1.Placed ++ ([bar] : List Int)).length)]) rfl rfl (infS inf26) sz26 (by exact rfl) (by exact Nat.le_of_ble_eq_true rfl) (by exact rfl)) ⟨rfl, rfl, trivial⟩ ⟨rfl, trivial⟩ rfl rfl ?_
          refine AOR.nil ?_
          refine AWR.seq ?_
          refine AWR.ent (Ent.of (σ' := [(10, (.s (.c (.pl 23 0)))), (13, (.s (.c (.pl 35 0))))]) (m' := [(23, (.row 68 [[(sC nilV), (sC nilV), (sC nilV)]])), (32, (.prow 3 ((r21.1.Free.set j26.toNat (w64 (x28 - 1))).map encInt))), (33, (.prow 3 ((r21.1.Tails ++ ([j26] : List Int)).map encInt))), (34, (.prow 3 ((r21.1.Placed ++ ([bar] : List Int)).map encInt))), (35, (.row 68 [[(.loc 32 0 r21.1.Free.length), (.loc 33 0 (r21.1.Tails ++ ([j26] : List Int)).length), (.loc 34 0 (r21.1.Placed ++ ([bar] : List Int)).length)]]))]) ⟨rfl, rfl, trivial⟩ ⟨rfl, rfl, rfl, rfl, rfl, trivial⟩) ?_
          refine AWR.region ?_
          refine AOR.pure (LT.bloadN (out := [(.loc 32 0 r21.1.Free.length), (.loc 33 0 (r21.1.Tails ++ ([j26] : List Int)).length), (.loc 34 0 (r21.1.Placed ++ ([bar] : List Int)).length)]) rfl ag68 (infS inf68) sz68 (by exact rfl) (by exact rfl)) ⟨rfl, trivial⟩ ⟨rfl, trivial⟩ rfl rfl ?_
          refine AOR.step (LT.bstore (v := (.agg [(.loc 32 0 r21.1.Free.length), (.loc 33 0 (r21.1.Tails ++ ([j26] : List Int)).length), (.loc 34 0 (r21.1.Placed ++ ([bar] : List Int)).length)])) (out := [(.loc 32 0 r21.1.Free.length), (.loc 33 0 (r21.1.Tails ++ ([j26] : List Int)).length), (.loc 34 0 (r21.1.Placed ++ ([bar] : List Int)).length)]) rfl rfl (infS inf68) sz68 (by exact rfl) (by exact Nat.le_of_ble_eq_true rfl) (by exact rfl)) ⟨rfl, rfl, trivial⟩ ⟨rfl, trivial⟩ rfl rfl ?_
          refine AOR.pure (LT.assign (v := (.s (.c (bC true)))) rfl) ⟨⟨rfl, rfl⟩, trivial⟩ trivial rfl rfl ?_
          refine AOR.nil ?_
          refine AWR.ent (Ent.of (σ' := [(10, (.s (.c (.pl 23 0)))), (11, (.s (.c (bC true))))]) (m' := [(23, (.row 68 [[(.loc 32 0 r21.1.Free.length), (.loc 33 0 (r21.1.Tails ++ ([j26] : List Int)).length), (.loc 34 0 (r21.1.Placed ++ ([bar] : List Int)).length)]])), (32, (.prow 3 ((r21.1.Free.set j26.toNat (w64 (x28 - 1))).map encInt))), (33, (.prow 3 ((r21.1.Tails ++ ([j26] : List Int)).map encInt))), (34, (.prow 3 ((r21.1.Placed ++ ([bar] : List Int)).map encInt)))]) ⟨rfl, rfl, trivial⟩ ⟨rfl, rfl, rfl, rfl, trivial⟩) ?_
          refine AWR.ent (Ent.mv 32 0 rfl rfl) ?_
          refine AWR.ent (Ent.mv 33 1 rfl rfl) ?_
          refine AWR.ent (Ent.mv 34 2 rfl rfl) ?_
          refine AWR.ent (Ent.of (σ' := [(10, (.s (.c (.pl 23 0)))), (11, (.s (.c (bC true))))]) (m' := [(0, (.prow 3 ((r21.1.Free.set j26.toNat (w64 (x28 - 1))).map encInt))), (1, (.prow 3 ((r21.1.Tails ++ ([j26] : List Int)).map encInt))), (2, (.prow 3 ((r21.1.Placed ++ ([bar] : List Int)).map encInt))), (23, (.row 68 [[(.loc 0 0 (r21.1.Free.set j26.toNat (w64 (x28 - 1))).length), (.loc 1 0 (r21.1.Tails ++ ([j26] : List Int)).length), (.loc 2 0 (r21.1.Placed ++ ([bar] : List Int)).length)]]))]) ⟨rfl, rfl, trivial⟩ ⟨rfl, rfl, rfl, (congrArg (fun l1 => (some (Ob.row 68 [[(.loc 0 0 l1), (.loc 1 0 (r21.1.Tails ++ ([j26] : List Int)).length), (.loc 2 0 (r21.1.Placed ++ ([bar] : List Int)).length)]]) : Option Ob)) (show r21.1.Free.length = (r21.1.Free.set j26.toNat (w64 (x28 - 1))).length by simp only [List.length_set])), trivial⟩) ?_
          refine AWR.ret (FPost.mk (.inr rfl) ⟨⟨_, _, _, rfl, rfl, rfl, ag68, sz68, _, (infS inf68)⟩, rfl, trivial⟩ ⟨rfl, rfl, rfl, trivial⟩ rfl ⟨⟨trivial, trivial, trivial, trivial⟩, PermP.sc, trivial⟩ ⟨PermO.prow' perm_encInt, PermO.prow' perm_encInt, PermO.prow' perm_encInt, trivial⟩)
set_option maxRecDepth 100000 in
set_option maxHeartbeats 8000000 in
theorem w_spec_RunPebbles (g : TGraph) (k : Int) (l : Int) : ∀ t, m_spec_RunPebbles g k l = some t → Fw.Fn Try.prog 69 [(.agg [(iC g.Points), (.pv (.xs false (g.Bars.map encTBar)))]), (.c (iC k)), (.c (iC l))] [] (resA [(.agg [(.loc 0 0 t.1.Free.length), (.loc 1 0 t.1.Tails.length), (.loc 2 0 t.1.Placed.length)]), (.c (bC t.2))]) [(0, (.prow 3 (t.1.Free.map encInt))), (1, (.prow 3 (t.1.Tails.map encInt))), (2, (.prow 3 (t.1.Placed.map encInt)))] [] [0, 1, 2] := by
  refine Fw.Fn.of (P := Try.prog) (X := [0, 1, 2]) (pn := []) (rs := (fun (t : (TPebbles × Bool)) => [(.agg [(.loc 0 0 t.1.Free.length), (.loc 1 0 t.1.Tails.length), (.loc 2 0 t.1.Placed.length)]), (.c (bC t.2))])) (dfs := (fun (t : (TPebbles × Bool)) => [(0, (.prow 3 (t.1.Free.map encInt))), (1, (.prow 3 (t.1.Tails.map encInt))), (2, (.prow 3 (t.1.Placed.map encInt)))])) Try.func69 rfl Try.ntmps69 (Nat.le_of_ble_eq_true rfl) rfl ?_
  intro w0 U0 R0 g0
  unfold m_spec_RunPebbles
  refine AWR.seq ?_
  refine AWR.region ?_
  refine AOR.step (LT.box (n := 21) (v := (.agg [(iC g.Points), (.pv (.xs false (g.Bars.map encTBar)))])) rfl sz30 (by exact rfl)) ⟨rfl, trivial⟩ trivial rfl rfl ?_
  refine AOR.step (LT.alloc (n := 22) (cells := [(sC nilV), (sC nilV), (sC nilV)]) rfl ti68 rfl rfl rfl) trivial trivial rfl rfl ?_
  refine AOR.pure (LT.assign (v := (.s (.c (bC false)))) rfl) ⟨⟨rfl, rfl⟩, trivial⟩ trivial rfl rfl ?_
  refine AOR.nil ?_
  refine AWR.seq ?_
  refine AWR.region ?_
  refine AOR.pure (LT.bloadN (out := [(iC g.Points), (.pv (.xs false (g.Bars.map encTBar)))]) rfl ag30 (infS inf30) sz30 (by exact rfl) (by exact rfl)) ⟨rfl, trivial⟩ ⟨rfl, trivial⟩ rfl rfl ?_
  refine AOR.pure (LT.move (v := (.s (.c (iC k)))) rfl) ⟨rfl, trivial⟩ trivial rfl rfl ?_
  refine AOR.bind fun r1 hr1 => ?_
  refine AOR.step (@LT.callF Try.prog _ _ 76 _ _ [(.agg [(iC g.Points), (.pv (.xs false (g.Bars.map encTBar)))]), (.c (iC k))] _ _ [] _ _ _ _ ((show Fw.Fn Try.prog 76 [(.agg [(iC g.Points), (.pv (.xs false (g.Bars.map encTBar)))]), (.c (iC k))] [] (.tup [(.agg [(.loc 24 0 r1.1.Free.length), (.loc 25 0 r1.1.Tails.length), (.loc 26 0 r1.1.Placed.length)]), (.c (bC r1.2))]) [(24, (.prow 3 (r1.1.Free.map encInt))), (25, (.prow 3 (r1.1.Tails.map encInt))), (26, (.prow 3 (r1.1.Placed.map encInt)))] [] [24, 25, 26] from Fw.Fn.ren [(0, 24), (1, 25), (2, 26)] (w_spec_NewPebbles g k r1 hr1) rfl)) rfl cb76 (.cons (.agg (.cons (.same rfl) (.cons (.same rfl) .nil))) (.cons (.c (.same rfl)) .nil)) rfl rfl trivial) ⟨rfl, rfl, rfl, trivial⟩ trivial rfl rfl ?_
  refine AOR.pure (LT.move (v := (.tup [(.agg [(.loc 24 0 r1.1.Free.length), (.loc 25 0 r1.1.Tails.length), (.loc 26 0 r1.1.Placed.length)]), (.c (bC r1.2))])) rfl) ⟨rfl, trivial⟩ trivial rfl rfl ?_
  refine AOR.pure (LT.extract (v := (.agg [(.loc 24 0 r1.1.Free.length), (.loc 25 0 r1.1.Tails.length), (.loc 26 0 r1.1.Placed.length)])) rfl (by exact rfl)) ⟨rfl, trivial⟩ trivial rfl rfl ?_
  refine AOR.pure (LT.extract (v := (.c (bC r1.2))) rfl (by exact rfl)) ⟨rfl, trivial⟩ trivial rfl rfl ?_
  refine AOR.step (LT.alloc (n := 27) (cells := [(sC nilV), (sC nilV), (sC nilV)]) rfl ti68 rfl rfl rfl) trivial trivial rfl rfl ?_
  refine AOR.step (LT.bstore (v := (.agg [(.loc 24 0 r1.1.Free.length), (.loc 25 0 r1.1.Tails.length), (.loc 26 0 r1.1.Placed.length)])) (out := [(.loc 24 0 r1.1.Free.length), (.loc 25 0 r1.1.Tails.length), (.loc 26 0 r1.1.Placed.length)]) rfl rfl (infS inf68) sz68 (by exact rfl) (by exact Nat.le_of_ble_eq_true rfl) (by exact rfl)) ⟨rfl, rfl, trivial⟩ ⟨rfl, trivial⟩ rfl rfl ?_
  refine AOR.pure (LT.assign (v := (.s (.c (bC r1.2)))) rfl) ⟨rfl, trivial⟩ trivial rfl rfl ?_
  refine AOR.nil ?_
  refine AWR.seq ?_
  refine AWR.seq ?_
  refine AWR.joinK (fun j4 => ([(1, (.s (.c (iC k)))), (2, (.s (.c (iC l)))), (3, (.s (.c (.pl 21 0)))), (6, (.s (.c (.pl 22 0)))), (8, (.s (.c (.pl 27 0)))), (24, (.s (.c (bC j4))))], [(21, (.row 30 [[(iC g.Points), (.pv (.xs false (g.Bars.map encTBar)))]])), (22, (.row 68 [[(sC nilV), (sC nilV), (sC nilV)]])), (24, (.prow 3 (r1.1.Free.map encInt))), (25, (.prow 3 (r1.1.Tails.map encInt))), (26, (.prow 3 (r1.1.Placed.map encInt))), (27, (.row 68 [[(.loc 24 0 r1.1.Free.length), (.loc 25 0 r1.1.Tails.length), (.loc 26 0 r1.1.Placed.length)]]))])) ?_ (fun j4 _ => ?_)
  · refine AWR.ent (Ent.of (σ' := [(1, (.s (.c (iC k)))), (2, (.s (.c (iC l)))), (3, (.s (.c (.pl 21 0)))), (6, (.s (.c (.pl 22 0)))), (8, (.s (.c (.pl 27 0)))), (9, (.s (.c (bC r1.2))))]) (m' := [(21, (.row 30 [[(iC g.Points), (.pv (.xs false (g.Bars.map encTBar)))]])), (22, (.row 68 [[(sC nilV), (sC nilV), (sC nilV)]])), (24, (.prow 3 (r1.1.Free.map encInt))), (25, (.prow 3 (r1.1.Tails.map encInt))), (26, (.prow 3 (r1.1.Placed.map encInt))), (27, (.row 68 [[(.loc 24 0 r1.1.Free.length), (.loc 25 0 r1.1.Tails.length), (.loc 26 0 r1.1.Placed.length)]]))]) ⟨rfl, rfl, rfl, rfl, rfl, rfl, trivial⟩ ⟨rfl, rfl, rfl, rfl, rfl, rfl, trivial⟩) ?_
    refine AWR.region ?_
    refine AOR.pure (LT.move (v := (.s (.c (bC r1.2)))) rfl) ⟨rfl, trivial⟩ trivial rfl rfl ?_
    refine AOR.pure (LT.not rfl) ⟨rfl, trivial⟩ trivial rfl rfl ?_
    refine AOR.pure (LT.move (v := (.s (.c (bC (!r1.2))))) rfl) ⟨rfl, trivial⟩ trivial rfl rfl ?_
    refine AOR.split (fun hb5 => ?_) (fun hb5 => ?_)
    · refine AOR.skip ⟨_, rfl, .inl ⟨_, rfl, (by rw [hb5]; rfl)⟩⟩ rfl ?_
      refine AOR.skip ⟨_, rfl, .inl ⟨_, rfl, (by rw [hb5]; rfl)⟩⟩ rfl ?_
      refine AOR.skip ⟨_, rfl, .inl ⟨_, rfl, (by rw [hb5]; rfl)⟩⟩ rfl ?_
      refine AOR.skip ⟨_, rfl, .inl ⟨_, rfl, (by rw [hb5]; rfl)⟩⟩ rfl ?_
      refine AOR.pure (LT.pickT (v := (.s (.c (bC true)))) rfl hb5) ⟨rfl, ⟨rfl, rfl⟩, trivial⟩ trivial rfl rfl ?_
      refine AOR.nil ?_
      refine AWR.nil ⟨rfl, Ent.of ⟨rfl, rfl, rfl, rfl, rfl, rfl, trivial⟩ ⟨rfl, rfl, rfl, rfl, rfl, rfl, trivial⟩⟩
    · refine AOR.pure (LT.move (v := (.s (.c (iC k)))) rfl) ⟨rfl, trivial⟩ trivial ⟨_, rfl, .inl ⟨_, rfl, (by rw [hb5]; rfl)⟩⟩ rfl ?_
      refine AOR.pure (LT.move (v := (.s (.c (iC l)))) rfl) ⟨rfl, trivial⟩ trivial ⟨_, rfl, .inl ⟨_, rfl, (by rw [hb5]; rfl)⟩⟩ rfl ?_
      refine AOR.bind fun r6 hr6 => ?_
      refine AOR.pure (@LT.callF Try.prog _ _ 77 _ _ [(.c (iC k)), (.c (iC l))] _ _ [] _ _ _ _ (w_spec_IsRange k l r6 hr6) rfl cb77 (.cons (.c (.same rfl)) (.cons (.c (.same rfl)) .nil)) rfl rfl trivial) ⟨rfl, rfl, rfl, trivial⟩ trivial ⟨_, rfl, .inl ⟨_, rfl, (by rw [hb5]; rfl)⟩⟩ rfl ?_
      refine AOR.pure (LT.not rfl) ⟨rfl, trivial⟩ trivial ⟨_, rfl, .inl ⟨_, rfl, (by rw [hb5]; rfl)⟩⟩ rfl ?_
      refine AOR.pure (LT.pickF (v := (.s (.c (bC (!r6))))) rfl hb5) ⟨rfl, rfl, trivial⟩ trivial rfl rfl ?_
      refine AOR.nil ?_
      refine AWR.nil ⟨rfl, Ent.of ⟨rfl, rfl, rfl, rfl, rfl, rfl, trivial⟩ ⟨rfl, rfl, rfl, rfl, rfl, rfl, trivial⟩⟩
  · refine AWR.cond rfl (fun hc7 => ?_) (fun hc7 => ?_)
    · refine AWR.seq ?_
      refine AWR.region ?_
      refine AOR.pure (LT.build [] rfl rfl pl68 ti68 rfl rfl rfl) trivial trivial rfl rfl ?_
      refine AOR.step (LT.bstore (v := (.agg [(sC nilV), (sC nilV), (sC nilV)])) (out := [(sC nilV), (sC nilV), (sC nilV)]) rfl rfl (infS inf68) sz68 (by exact rfl) (by exact Nat.le_of_ble_eq_true rfl) (by exact rfl)) ⟨rfl, rfl, trivial⟩ ⟨rfl, trivial⟩ rfl rfl ?_
      refine AOR.pure (LT.assign (v := (.s (.c (bC false)))) rfl) ⟨⟨rfl, rfl⟩, trivial⟩ trivial rfl rfl ?_
      refine AOR.nil ?_
      refine AWR.ent (Ent.nilB 22 0 0 3 rfl rfl rfl rfl) ?_
      refine AWR.ent (Ent.nilB 22 1 1 3 rfl rfl rfl rfl) ?_
      refine AWR.ent (Ent.nilB 22 2 2 3 rfl rfl rfl rfl) ?_
      refine AWR.ent (Ent.of (σ' := [(6, (.s (.c (.pl 22 0)))), (7, (.s (.c (bC false))))]) (m' := [(0, (.prow 3 (([] : List Int).map encInt))), (1, (.prow 3 (([] : List Int).map encInt))), (2, (.prow 3 (([] : List Int).map encInt))), (22, (.row 68 [[(.loc 0 0 ([] : List Int).length), (.loc 1 0 ([] : List Int).length), (.loc 2 0 ([] : List Int).length)]]))]) ⟨rfl, rfl, trivial⟩ ⟨rfl, rfl, rfl, rfl, trivial⟩) ?_
      refine AWR.ret (FPost.mk (.inr rfl) ⟨⟨_, _, _, rfl, rfl, rfl, ag68, sz68, _, (infS inf68)⟩, rfl, trivial⟩ ⟨rfl, rfl, rfl, trivial⟩ rfl ⟨⟨trivial, trivial, trivial, trivial⟩, PermP.sc, trivial⟩ ⟨PermO.prow' perm_encInt, PermO.prow' perm_encInt, PermO.prow' perm_encInt, trivial⟩)
    · refine AWR.skip ?_
      refine AWR.seq ?_
      refine AWR.seq ?_
      refine AWR.region ?_
      refine AOR.pure (LT.assign (v := (.s (.c (iC 0)))) rfl) ⟨⟨rfl, rfl⟩, trivial⟩ trivial rfl rfl ?_
      refine AOR.nil ?_
      refine AWR.block ?_
      refine AWR.loop1 (id := 0) (m_spec_RunPebbles_L1 g k l) (fun s8 => ([(1, (.s (.c (iC k)))), (2, (.s (.c (iC l)))), (3, (.s (.c (.pl 21 0)))), (6, (.s (.c (.pl 22 0)))), (8, (.s (.c (.pl 27 0)))), (10, (.s (.c (iC s8.1))))], [(21, (.row 30 [[(iC g.Points), (.pv (.xs false (g.Bars.map encTBar)))]])), (22, (.row 68 [[(sC nilV), (sC nilV), (sC nilV)]])), (24, (.prow 3 (s8.2.1.map encInt))), (25, (.prow 3 (s8.2.2.1.map encInt))), (26, (.prow 3 (s8.2.2.2.map encInt))), (27, (.row 68 [[(.loc 24 0 s8.2.1.length), (.loc 25 0 s8.2.2.1.length), (.loc 26 0 s8.2.2.2.length)]]))])) (fun b13 => ([(6, (.s (.c (.pl 22 0)))), (8, (.s (.c (.pl 27 0))))], [(22, (.row 68 [[(sC nilV), (sC nilV), (sC nilV)]])), (24, (.prow 3 (b13.1.map encInt))), (25, (.prow 3 (b13.2.1.map encInt))), (26, (.prow 3 (b13.2.2.map encInt))), (27, (.row 68 [[(.loc 24 0 b13.1.length), (.loc 25 0 b13.2.1.length), (.loc 26 0 b13.2.2.length)]]))])) ?_ (Ent.of ⟨rfl, rfl, rfl, rfl, rfl, rfl, trivial⟩ ⟨rfl, rfl, rfl, rfl, rfl, rfl, trivial⟩) rfl (fun b13 _ => ?_)
      · intro s8
        unfold m_spec_RunPebbles_L1
        refine AWR.seq ?_
        refine AWR.seq ?_
        refine AWR.region ?_
        refine AOR.pure (LT.move (v := (.s (.c (iC s8.1)))) rfl) ⟨rfl, trivial⟩ trivial rfl rfl ?_
        refine AOR.pure (LT.fieldPl rfl fo30_1) ⟨rfl, trivial⟩ trivial rfl rfl ?_
        refine AOR.pure (LT.bload1 (c := (.pv (.xs false (g.Bars.map encTBar)))) rfl ag28 (by exact rfl)) ⟨rfl, trivial⟩ ⟨rfl, trivial⟩ rfl rfl ?_
        refine AOR.pure (LT.tlenRO rfl und28) ⟨rfl, trivial⟩ trivial rfl rfl ?_
        refine AOR.pure (LT.lss rfl) ⟨rfl, rfl, trivial⟩ trivial rfl rfl ?_
        refine AOR.nil ?_
        refine AWR.cond rfl (fun hc14 => ?_) (fun hc14 => ?_)
        · refine AWR.skip ?_
          refine AWR.seq ?_
          refine AWR.block ?_
          refine AWR.region ?_
          refine AOR.pure (LT.bloadN (out := [(iC g.Points), (.pv (.xs false (g.Bars.map encTBar)))]) rfl ag30 (infS inf30) sz30 (by exact rfl) (by exact rfl)) ⟨rfl, trivial⟩ ⟨rfl, trivial⟩ rfl rfl ?_
          refine AOR.pure (LT.move (v := (.s (.c (iC k)))) rfl) ⟨rfl, trivial⟩ trivial rfl rfl ?_
          refine AOR.pure (LT.move (v := (.s (.c (iC l)))) rfl) ⟨rfl, trivial⟩ trivial rfl rfl ?_
          refine AOR.pure (LT.bloadN (out := [(.loc 24 0 s8.2.1.length), (.loc 25 0 s8.2.2.1.length), (.loc 26 0 s8.2.2.2.length)]) rfl ag68 (infS inf68) sz68 (by exact rfl) (by exact rfl)) ⟨rfl, trivial⟩ ⟨rfl, trivial⟩ rfl rfl ?_
          refine AOR.pure (LT.move (v := (.s (.c (iC s8.1)))) rfl) ⟨rfl, trivial⟩ trivial rfl rfl ?_
          refine AOR.bind fun r15 hr15 => ?_
          refine AOR.step (@LT.callF Try.prog _ _ 78 _ _ [(.agg [(iC g.Points), (.pv (.xs false (g.Bars.map encTBar)))]), (.c (iC k)), (.c (iC l)), (.agg [(.loc 24 0 s8.2.1.length), (.loc 25 0 s8.2.2.1.length), (.loc 26 0 s8.2.2.2.length)]), (.c (iC s8.1))] _ _ [(24, (.prow 3 (s8.2.1.map encInt))), (25, (.prow 3 (s8.2.2.1.map encInt))), (26, (.prow 3 (s8.2.2.2.map encInt)))] _ _ _ _ ((show Fw.Fn Try.prog 78 [(.agg [(iC g.Points), (.pv (.xs false (g.Bars.map encTBar)))]), (.c (iC k)), (.c (iC l)), (.agg [(.pv (.xs false (((TPebbles.mk s8.2.1 s8.2.2.1 s8.2.2.2).Free).map encInt))), (.pv (.xs false (((TPebbles.mk s8.2.1 s8.2.2.1 s8.2.2.2).Tails).map encInt))), (.pv (.xs false (((TPebbles.mk s8.2.1 s8.2.2.1 s8.2.2.2).Placed).map encInt)))]), (.c (iC s8.1))] [] (.tup [(.agg [(.loc 30 0 r15.1.Free.length), (.loc 31 0 r15.1.Tails.length), (.loc 32 0 r15.1.Placed.length)]), (.c (bC r15.2))]) [(30, (.prow 3 (r15.1.Free.map encInt))), (31, (.prow 3 (r15.1.Tails.map encInt))), (32, (.prow 3 (r15.1.Placed.map encInt)))] [] [30, 31, 32] from Fw.Fn.ren [(0, 30), (1, 31), (2, 32)] (w_spec_PlaceBar g k l (TPebbles.mk s8.2.1 s8.2.2.1 s8.2.2.2) s8.1 r15 hr15) rfl)) rfl cb78 (.cons (.agg (.cons (.same rfl) (.cons (.same rfl) .nil))) (.cons (.c (.same rfl)) (.cons (.c (.same rfl)) (.cons (.agg (.cons (.tloc rfl rfl) (.cons (.tloc rfl rfl) (.cons (.tloc rfl rfl) .nil)))) (.cons (.c (.same rfl)) .nil))))) rfl rfl trivial) ⟨rfl, rfl, rfl, rfl, rfl, rfl, trivial⟩ ⟨rfl, rfl, rfl, trivial⟩ rfl rfl ?_
          refine AOR.pure (LT.move (v := (.tup [(.agg [(.loc 30 0 r15.1.Free.length), (.loc 31 0 r15.1.Tails.length), (.loc 32 0 r15.1.Placed.length)]), (.c (bC r15.2))])) rfl) ⟨rfl, trivial⟩ trivial rfl rfl ?_
          refine AOR.pure (LT.extract (v := (.agg [(.loc 30 0 r15.1.Free.length), (.loc 31 0 r15.1.Tails.length), (.loc 32 0 r15.1.Placed.length)])) rfl (by exact rfl)) ⟨rfl, trivial⟩ trivial rfl rfl ?_
          refine AOR.pure (LT.extract (v := (.c (bC r15.2))) rfl (by exact rfl)) ⟨rfl, trivial⟩ trivial rfl rfl ?_
          refine AOR.step (LT.bstore (v := (.agg [(.loc 30 0 r15.1.Free.length), (.loc 31 0 r15.1.Tails.length), (.loc 32 0 r15.1.Placed.length)])) (out := [(.loc 30 0 r15.1.Free.length), (.loc 31 0 r15.1.Tails.length), (.loc 32 0 r15.1.Placed.length)]) rfl rfl (infS inf68) sz68 (by exact rfl) (by exact Nat.le_of_ble_eq_true rfl) (by exact rfl)) ⟨rfl, rfl, trivial⟩ ⟨rfl, trivial⟩ rfl rfl ?_
          refine AOR.nil ?_
          refine AWR.blk ?_
          refine AWR.ent (Ent.of (σ' := [(1, (.s (.c (iC k)))), (2, (.s (.c (iC l)))), (3, (.s (.c (.pl 21 0)))), (6, (.s (.c (.pl 22 0)))), (8, (.s (.c (.pl 27 0)))), (10, (.s (.c (iC s8.1))))]) (m' := [(21, (.row 30 [[(iC g.Points), (.pv (.xs false (g.Bars.map encTBar)))]])), (22, (.row 68 [[(sC nilV), (sC nilV), (sC nilV)]])), (27, (.row 68 [[(.loc 30 0 r15.1.Free.length), (.loc 31 0 r15.1.Tails.length), (.loc 32 0 r15.1.Placed.length)]])), (30, (.prow 3 (r15.1.Free.map encInt))), (31, (.prow 3 (r15.1.Tails.map encInt))), (32, (.prow 3 (r15.1.Placed.map encInt)))]) ⟨rfl, rfl, rfl, rfl, rfl, rfl, trivial⟩ ⟨rfl, rfl, rfl, rfl, rfl, rfl, trivial⟩) ?_
          refine AWR.region ?_
          refine AOR.pure (LT.move (v := (.s (.c (iC s8.1)))) rfl) ⟨rfl, trivial⟩ trivial rfl rfl ?_
          refine AOR.pure (LT.add rfl) ⟨rfl, ⟨rfl, rfl⟩, trivial⟩ trivial rfl rfl ?_
          refine AOR.pure (LT.assign (v := (.s (.c (iC (w64 (s8.1 + 1)))))) rfl) ⟨rfl, trivial⟩ trivial rfl rfl ?_
          refine AOR.nil ?_
          refine AWR.ent (Ent.of (σ' := [(1, (.s (.c (iC k)))), (2, (.s (.c (iC l)))), (3, (.s (.c (.pl 21 0)))), (6, (.s (.c (.pl 22 0)))), (8, (.s (.c (.pl 27 0)))), (10, (.s (.c (iC (w64 (s8.1 + 1))))))]) (m' := [(21, (.row 30 [[(iC g.Points), (.pv (.xs false (g.Bars.map encTBar)))]])), (22, (.row 68 [[(sC nilV), (sC nilV), (sC nilV)]])), (27, (.row 68 [[(.loc 30 0 r15.1.Free.length), (.loc 31 0 r15.1.Tails.length), (.loc 32 0 r15.1.Placed.length)]])), (30, (.prow 3 (r15.1.Free.map encInt))), (31, (.prow 3 (r15.1.Tails.map encInt))), (32, (.prow 3 (r15.1.Placed.map encInt)))]) ⟨rfl, rfl, rfl, rfl, rfl, rfl, trivial⟩ ⟨rfl, rfl, rfl, rfl, rfl, rfl, trivial⟩) ?_
          refine AWR.ent (Ent.mv 30 24 rfl rfl) ?_
          refine AWR.ent (Ent.mv 31 25 rfl rfl) ?_
          refine AWR.ent (Ent.mv 32 26 rfl rfl) ?_
          refine AWR.nil ⟨rfl, Ent.of ⟨rfl, rfl, rfl, rfl, rfl, rfl, trivial⟩ ⟨rfl, rfl, rfl, rfl, rfl, rfl, trivial⟩⟩
        · refine AWR.exit_end rfl ⟨rfl, Ent.of ⟨rfl, rfl, trivial⟩ ⟨rfl, rfl, rfl, rfl, rfl, trivial⟩⟩
      · refine AWR.seq ?_
        refine AWR.region ?_
        refine AOR.pure (LT.bloadN (out := [(.loc 24 0 b13.1.length), (.loc 25 0 b13.2.1.length), (.loc 26 0 b13.2.2.length)]) rfl ag68 (infS inf68) sz68 (by exact rfl) (by exact rfl)) ⟨rfl, trivial⟩ ⟨rfl, trivial⟩ rfl rfl ?_
        refine AOR.step (LT.bstore (v := (.agg [(.loc 24 0 b13.1.length), (.loc 25 0 b13.2.1.length), (.loc 26 0 b13.2.2.length)])) (out := [(.loc 24 0 b13.1.length), (.loc 25 0 b13.2.1.length), (.loc 26 0 b13.2.2.length)]) rfl rfl (infS inf68) sz68 (by exact rfl) (by exact Nat.le_of_ble_eq_true rfl) (by exact rfl)) ⟨rfl, rfl, trivial⟩ ⟨rfl, trivial⟩ rfl rfl ?_
        refine AOR.pure (LT.assign (v := (.s (.c (bC true)))) rfl) ⟨⟨rfl, rfl⟩, trivial⟩ trivial rfl rfl ?_
        refine AOR.nil ?_
        refine AWR.ent (Ent.of (σ' := [(6, (.s (.c (.pl 22 0)))), (7, (.s (.c (bC true))))]) (m' := [(22, (.row 68 [[(.loc 24 0 b13.1.length), (.loc 25 0 b13.2.1.length), (.loc 26 0 b13.2.2.length)]])), (24, (.prow 3 (b13.1.map encInt))), (25, (.prow 3 (b13.2.1.map encInt))), (26, (.prow 3 (b13.2.2.map encInt)))]) ⟨rfl, rfl, trivial⟩ ⟨rfl, rfl, rfl, rfl, trivial⟩) ?_
        refine AWR.ent (Ent.mv 24 0 rfl rfl) ?_
        refine AWR.ent (Ent.mv 25 1 rfl rfl) ?_
        refine AWR.ent (Ent.mv 26 2 rfl rfl) ?_
        refine AWR.ent (Ent.of (σ' := [(6, (.s (.c (.pl 22 0)))), (7, (.s (.c (bC true))))]) (m' := [(0, (.prow 3 (b13.1.map encInt))), (1, (.prow 3 (b13.2.1.map encInt))), (2, (.prow 3 (b13.2.2.map encInt))), (22, (.row 68 [[(.loc 0 0 b13.1.length), (.loc 1 0 b13.2.1.length), (.loc 2 0 b13.2.2.length)]]))]) ⟨rfl, rfl, trivial⟩ ⟨rfl, rfl, rfl, rfl, trivial⟩) ?_
        refine AWR.ret (FPost.mk (.inr rfl) ⟨⟨_, _, _, rfl, rfl, rfl, ag68, sz68, _, (infS inf68)⟩, rfl, trivial⟩ ⟨rfl, rfl, rfl, trivial⟩ rfl ⟨⟨trivial, trivial, trivial, trivial⟩, PermP.sc, trivial⟩ ⟨PermO.prow' perm_encInt, PermO.prow' perm_encInt, PermO.prow' perm_encInt, trivial⟩)
set_option maxRecDepth 100000 in
set_option maxHeartbeats 8000000 in
theorem w_spec_RankOf (g : TGraph) (k : Int) (l : Int) : ∀ t, m_spec_RankOf g k l = some t → Fw.Fn Try.prog 55 [(.agg [(iC g.Points), (.pv (.xs false (g.Bars.map encTBar)))]), (.c (iC k)), (.c (iC l))] [] (.s (.c (iC t))) [] [] [] := by
  refine Fw.Fn.of (P := Try.prog) (X := []) (pn := []) (rs := (fun (t : Int) => [(.c (iC t))])) (dfs := (fun (t : Int) => [])) Try.func55 rfl Try.ntmps55 (Nat.le_of_ble_eq_true rfl) rfl ?_
  intro w0 U0 R0 g0
  unfold m_spec_RankOf
  refine AWR.seq ?_
  refine AWR.region ?_
  refine AOR.step (LT.box (n := 21) (v := (.agg [(iC g.Points), (.pv (.xs false (g.Bars.map encTBar)))])) rfl sz30 (by exact rfl)) ⟨rfl, trivial⟩ trivial rfl rfl ?_
  refine AOR.pure (LT.assign (v := (.s (.c (iC 0)))) rfl) ⟨⟨rfl, rfl⟩, trivial⟩ trivial rfl rfl ?_
  refine AOR.nil ?_
  refine AWR.seq ?_
  refine AWR.region ?_
  refine AOR.pure (LT.bloadN (out := [(iC g.Points), (.pv (.xs false (g.Bars.map encTBar)))]) rfl ag30 (infS inf30) sz30 (by exact rfl) (by exact rfl)) ⟨rfl, trivial⟩ ⟨rfl, trivial⟩ rfl rfl ?_
  refine AOR.pure (LT.move (v := (.s (.c (iC k)))) rfl) ⟨rfl, trivial⟩ trivial rfl rfl ?_
  refine AOR.pure (LT.move (v := (.s (.c (iC l)))) rfl) ⟨rfl, trivial⟩ trivial rfl rfl ?_
  refine AOR.bind fun r1 hr1 => ?_
  refine AOR.step (@LT.callF Try.prog _ _ 69 _ _ [(.agg [(iC g.Points), (.pv (.xs false (g.Bars.map encTBar)))]), (.c (iC k)), (.c (iC l))] _ _ [] _ _ _ _ ((show Fw.Fn Try.prog 69 [(.agg [(iC g.Points), (.pv (.xs false (g.Bars.map encTBar)))]), (.c (iC k)), (.c (iC l))] [] (.tup [(.agg [(.loc 23 0 r1.1.Free.length), (.loc 24 0 r1.1.Tails.length), (.loc 25 0 r1.1.Placed.length)]), (.c (bC r1.2))]) [(23, (.prow 3 (r1.1.Free.map encInt))), (24, (.prow 3 (r1.1.Tails.map encInt))), (25, (.prow 3 (r1.1.Placed.map encInt)))] [] [23, 24, 25] from Fw.Fn.ren [(0, 23), (1, 24), (2, 25)] (w_spec_RunPebbles g k l r1 hr1) rfl)) rfl cb69 (.cons (.agg (.cons (.same rfl) (.cons (.same rfl) .nil))) (.cons (.c (.same rfl)) (.cons (.c (.same rfl)) .nil))) rfl rfl trivial) ⟨rfl, rfl, rfl, rfl, trivial⟩ trivial rfl rfl ?_
  refine AOR.pure (LT.move (v := (.tup [(.agg [(.loc 23 0 r1.1.Free.length), (.loc 24 0 r1.1.Tails.length), (.loc 25 0 r1.1.Placed.length)]), (.c (bC r1.2))])) rfl) ⟨rfl, trivial⟩ trivial rfl rfl ?_
  refine AOR.pure (LT.extract (v := (.agg [(.loc 23 0 r1.1.Free.length), (.loc 24 0 r1.1.Tails.length), (.loc 25 0 r1.1.Placed.length)])) rfl (by exact rfl)) ⟨rfl, trivial⟩ trivial rfl rfl ?_
  refine AOR.pure (LT.extract (v := (.c (bC r1.2))) rfl (by exact rfl)) ⟨rfl, trivial⟩ trivial rfl rfl ?_
  refine AOR.step (LT.alloc (n := 26) (cells := [(sC nilV), (sC nilV), (sC nilV)]) rfl ti68 rfl rfl rfl) trivial trivial rfl rfl ?_
  refine AOR.step (LT.bstore (v := (.agg [(.loc 23 0 r1.1.Free.length), (.loc 24 0 r1.1.Tails.length), (.loc 25 0 r1.1.Placed.length)])) (out := [(.loc 23 0 r1.1.Free.length), (.loc 24 0 r1.1.Tails.length), (.loc 25 0 r1.1.Placed.length)]) rfl rfl (infS inf68) sz68 (by exact rfl) (by exact Nat.le_of_ble_eq_true rfl) (by exact rfl)) ⟨rfl, rfl, trivial⟩ ⟨rfl, trivial⟩ rfl rfl ?_
  refine AOR.pure (LT.assign (v := (.s (.c (bC r1.2)))) rfl) ⟨rfl, trivial⟩ trivial rfl rfl ?_
  refine AOR.nil ?_
  refine AWR.seq ?_
  refine AWR.seq ?_
  refine AWR.ent (Ent.of (σ' := [(7, (.s (.c (.pl 26 0)))), (8, (.s (.c (bC r1.2))))]) (m' := [(23, (.prow 3 (r1.1.Free.map encInt))), (24, (.prow 3 (r1.1.Tails.map encInt))), (25, (.prow 3 (r1.1.Placed.map encInt))), (26, (.row 68 [[(.loc 23 0 r1.1.Free.length), (.loc 24 0 r1.1.Tails.length), (.loc 25 0 r1.1.Placed.length)]]))]) ⟨rfl, rfl, trivial⟩ ⟨rfl, rfl, rfl, rfl, trivial⟩) ?_
  refine AWR.region ?_
  refine AOR.pure (LT.move (v := (.s (.c (bC r1.2)))) rfl) ⟨rfl, trivial⟩ trivial rfl rfl ?_
  refine AOR.pure (LT.not rfl) ⟨rfl, trivial⟩ trivial rfl rfl ?_
  refine AOR.nil ?_
  refine AWR.cond rfl (fun hc2 => ?_) (fun hc2 => ?_)
  · refine AWR.seq ?_
    refine AWR.region ?_
    refine AOR.pure (LT.assign (v := (.s (.c (iC (-1))))) rfl) ⟨⟨rfl, rfl⟩, trivial⟩ trivial rfl rfl ?_
    refine AOR.nil ?_
    refine AWR.ret (FPost.mk (.inr rfl) ⟨rfl, trivial⟩ trivial rfl ⟨PermP.sc, trivial⟩ trivial)
  · refine AWR.skip ?_
    refine AWR.seq ?_
    refine AWR.region ?_
    refine AOR.pure (LT.fieldPl rfl fo68_2) ⟨rfl, trivial⟩ trivial rfl rfl ?_
    refine AOR.pure (LT.bload1 (c := (.loc 25 0 r1.1.Placed.length)) rfl ag26 (by exact rfl)) ⟨rfl, trivial⟩ ⟨rfl, trivial⟩ rfl rfl ?_
    refine AOR.pure (LT.lenLoc rfl und26) ⟨rfl, trivial⟩ trivial rfl rfl ?_
    refine AOR.pure (LT.assign (v := (.s (.c (iC (r1.1.Placed.length : Int))))) rfl) ⟨rfl, trivial⟩ trivial rfl rfl ?_
    refine AOR.nil ?_
    refine AWR.ret (FPost.mk (.inr rfl) ⟨rfl, trivial⟩ trivial rfl ⟨PermP.sc, trivial⟩ trivial)
set_option maxRecDepth 100000 in
set_option maxHeartbeats 8000000 in
theorem w_spec_l2Copy (g : TGraph) : ∀ t, m_spec_l2Copy g = some t → Fw.Fn Try.prog 70 [(.agg [(iC g.Points), (.pv (.xs false (g.Bars.map encTBar)))])] [] (.s (.agg [(iC t.Points), (.loc 0 0 t.Bars.length)])) [(0, (.prow 60 (t.Bars.map encTBar)))] [] [0] := by
  refine Fw.Fn.of (P := Try.prog) (X := [0]) (pn := []) (rs := (fun (t : TGraph) => [(.agg [(iC t.Points), (.loc 0 0 t.Bars.length)])])) (dfs := (fun (t : TGraph) => [(0, (.prow 60 (t.Bars.map encTBar)))])) Try.func70 rfl Try.ntmps70 (Nat.le_of_ble_eq_true rfl) rfl ?_
  intro w0 U0 R0 g0
  unfold m_spec_l2Copy
  refine AWR.seq ?_
  refine AWR.region ?_
  refine AOR.step (LT.box (n := 21) (v := (.agg [(iC g.Points), (.pv (.xs false (g.Bars.map encTBar)))])) rfl sz30 (by exact rfl)) ⟨rfl, trivial⟩ trivial rfl rfl ?_
  refine AOR.step (LT.alloc (n := 22) (cells := [(iC 0), (sC nilV)]) rfl ti30 rfl rfl rfl) trivial trivial rfl rfl ?_
  refine AOR.nil ?_
  refine AWR.seq ?_
  refine AWR.draw mixed ?_
  refine AOD.pure (LT.fieldPl rfl fo30_0) ⟨rfl, trivial⟩ trivial rfl rfl ?_
  refine AOD.pure (LT.bload1 (c := (iC g.Points)) rfl ag3 (by exact rfl)) ⟨rfl, trivial⟩ ⟨rfl, trivial⟩ rfl rfl ?_
  refine AOD.step (LT.tbuildSlice (n := 23) (enc := encTBar) [] ([] : List TBar) rfl rfl und28 ti60 rfl rfl rfl rfl (by decide) (fun _ => rfl) rfl) trivial trivial rfl rfl ?_
  refine AOD.pure (LT.fieldPl rfl fo30_1) ⟨rfl, trivial⟩ trivial rfl rfl ?_
  refine AOD.pure (LT.bload1 (c := (.pv (.xs false (g.Bars.map encTBar)))) rfl ag28 (by exact rfl)) ⟨rfl, trivial⟩ ⟨rfl, trivial⟩ rfl rfl ?_
  refine AOD.bind fun u1 hu1 => ?_
  refine AOD.step (LT.tappRO (enc := encTBar) rfl  rfl und28 ti60 rfl (by decide) (by decide) (fun _ => rfl) (lim_le hu1)) ⟨rfl, rfl, trivial⟩ ⟨rfl, trivial⟩ rfl rfl ?_
  refine AOD.pure (LT.build [(0, .tmp 4, (.c (iC g.Points))), (1, .tmp 8, (.c (.loc 23 0 (([] : List TBar) ++ g.Bars).length)))] rfl rfl pl30 ti30 rfl rfl rfl) ⟨rfl, rfl, trivial⟩ trivial rfl rfl ?_
  refine AOD.step (LT.bstore (v := (.agg [(iC g.Points), (.loc 23 0 (([] : List TBar) ++ g.Bars).length)])) (out := [(iC g.Points), (.loc 23 0 (([] : List TBar) ++ g.Bars).length)]) rfl rfl (infS inf30) sz30 (by exact rfl) (by exact Nat.le_of_ble_eq_true rfl) (by exact rfl)) ⟨rfl, rfl, trivial⟩ ⟨rfl, trivial⟩ rfl rfl ?_
  refine AOD.nil (by kernel_rfl) ?_
  refine AWR.ent (Ent.of (σ' := [(2, (.s (.c (.pl 22 0))))]) (m' := [(22, (.row 30 [[(iC g.Points), (.loc 23 0 (([] : List TBar) ++ g.Bars).length)]])), (23, (.prow 60 ((([] : List TBar) ++ g.Bars).map encTBar)))]) ⟨rfl, trivial⟩ ⟨rfl, rfl, trivial⟩) ?_
  refine AWR.ent (Ent.mv 23 0 rfl rfl) ?_
  refine AWR.ent (Ent.of (σ' := [(2, (.s (.c (.pl 22 0))))]) (m' := [(0, (.prow 60 ((([] : List TBar) ++ g.Bars).map encTBar))), (22, (.row 30 [[(iC g.Points), (.loc 0 0 (([] : List TBar) ++ g.Bars).length)]]))]) ⟨rfl, trivial⟩ ⟨rfl, rfl, trivial⟩) ?_
  refine AWR.ret (FPost.mk (.inr rfl) ⟨⟨_, _, _, rfl, rfl, rfl, ag30, sz30, _, (infS inf30)⟩, trivial⟩ ⟨rfl, trivial⟩ rfl ⟨⟨PermP.sc, trivial, trivial⟩, trivial⟩ ⟨PermO.prow' perm_encTBar, trivial⟩)
set_option maxRecDepth 100000 in
set_option maxHeartbeats 8000000 in
theorem w_spec_RemoveBar (g : TGraph) (k : Int) : ∀ t, m_spec_RemoveBar g k = some t → Fw.Fn Try.prog 56 [(.agg [(iC g.Points), (.pv (.xs false (g.Bars.map encTBar)))]), (.c (iC k))] [] (resA [(.agg [(iC t.1.Points), (.loc 0 0 t.1.Bars.length)]), (.c (bC t.2))]) [(0, (.prow 60 (t.1.Bars.map encTBar)))] [] [0] := by
  refine Fw.Fn.of (P := Try.prog) (X := [0]) (pn := []) (rs := (fun (t : (TGraph × Bool)) => [(.agg [(iC t.1.Points), (.loc 0 0 t.1.Bars.length)]), (.c (bC t.2))])) (dfs := (fun (t : (TGraph × Bool)) => [(0, (.prow 60 (t.1.Bars.map encTBar)))])) Try.func56 rfl Try.ntmps56 (Nat.le_of_ble_eq_true rfl) rfl ?_
  intro w0 U0 R0 g0
  unfold m_spec_RemoveBar
  refine AWR.seq ?_
  refine AWR.region ?_
  refine AOR.step (LT.box (n := 21) (v := (.agg [(iC g.Points), (.pv (.xs false (g.Bars.map encTBar)))])) rfl sz30 (by exact rfl)) ⟨rfl, trivial⟩ trivial rfl rfl ?_
  refine AOR.step (LT.alloc (n := 22) (cells := [(iC 0), (sC nilV)]) rfl ti30 rfl rfl rfl) trivial trivial rfl rfl ?_
  refine AOR.pure (LT.assign (v := (.s (.c (bC false)))) rfl) ⟨⟨rfl, rfl⟩, trivial⟩ trivial rfl rfl ?_
  refine AOR.nil ?_
  refine AWR.seq ?_
  refine AWR.seq ?_
  refine AWR.joinK (fun j4 => ([(1, (.s (.c (iC k)))), (2, (.s (.c (.pl 21 0)))), (4, (.s (.c (.pl 22 0)))), (19, (.s (.c (bC j4))))], [(21, (.row 30 [[(iC g.Points), (.pv (.xs false (g.Bars.map encTBar)))]])), (22, (.row 30 [[(iC 0), (sC nilV)]]))])) ?_ (fun j4 _ => ?_)
  · refine AWR.region ?_
    refine AOR.pure (LT.bloadN (out := [(iC g.Points), (.pv (.xs false (g.Bars.map encTBar)))]) rfl ag30 (infS inf30) sz30 (by exact rfl) (by exact rfl)) ⟨rfl, trivial⟩ ⟨rfl, trivial⟩ rfl rfl ?_
    refine AOR.bind fun r5 hr5 => ?_
    refine AOR.pure (@LT.callF Try.prog _ _ 30 _ _ [(.agg [(iC g.Points), (.pv (.xs false (g.Bars.map encTBar)))])] _ _ [] _ _ _ _ (w_spec_IsGraph g r5 hr5) rfl cb30 (.cons (.agg (.cons (.same rfl) (.cons (.same rfl) .nil))) .nil) rfl rfl trivial) ⟨rfl, rfl, trivial⟩ trivial rfl rfl ?_
    refine AOR.pure (LT.not rfl) ⟨rfl, trivial⟩ trivial rfl rfl ?_
    refine AOR.pure (LT.move (v := (.s (.c (bC (!r5))))) rfl) ⟨rfl, trivial⟩ trivial rfl rfl ?_
    refine AOR.split (fun hb6 => ?_) (fun hb6 => ?_)
    · refine AOR.skip ⟨_, rfl, .inl ⟨_, rfl, (by rw [hb6]; rfl)⟩⟩ rfl ?_
      refine AOR.skip ⟨_, rfl, .inl ⟨_, rfl, (by rw [hb6]; rfl)⟩⟩ rfl ?_
      refine AOR.pure (LT.pickT (v := (.s (.c (bC true)))) rfl hb6) ⟨rfl, ⟨rfl, rfl⟩, trivial⟩ trivial rfl rfl ?_
      refine AOR.pure (LT.move (v := (.s (.c (bC true)))) rfl) ⟨rfl, trivial⟩ trivial rfl rfl ?_
      refine AOR.skip ⟨_, rfl, .inl ⟨_, rfl, rfl⟩⟩ rfl ?_
      refine AOR.skip ⟨_, rfl, .inl ⟨_, rfl, rfl⟩⟩ rfl ?_
      refine AOR.skip ⟨_, rfl, .inl ⟨_, rfl, rfl⟩⟩ rfl ?_
      refine AOR.skip ⟨_, rfl, .inl ⟨_, rfl, rfl⟩⟩ rfl ?_
      refine AOR.skip ⟨_, rfl, .inl ⟨_, rfl, rfl⟩⟩ rfl ?_
      refine AOR.pure (LT.pickT (v := (.s (.c (bC true)))) rfl rfl) ⟨rfl, ⟨rfl, rfl⟩, trivial⟩ trivial rfl rfl ?_
      refine AOR.nil ?_
      refine AWR.nil ⟨rfl, Ent.of ⟨rfl, rfl, rfl, rfl, trivial⟩ ⟨rfl, rfl, trivial⟩⟩
    · refine AOR.pure (LT.move (v := (.s (.c (iC k)))) rfl) ⟨rfl, trivial⟩ trivial ⟨_, rfl, .inl ⟨_, rfl, (by rw [hb6]; rfl)⟩⟩ rfl ?_
      refine AOR.pure (LT.lss rfl) ⟨rfl, ⟨rfl, rfl⟩, trivial⟩ trivial ⟨_, rfl, .inl ⟨_, rfl, (by rw [hb6]; rfl)⟩⟩ rfl ?_
      refine AOR.pure (LT.pickF (v := (.s (.c (bC (decide (k < 0)))))) rfl hb6) ⟨rfl, rfl, trivial⟩ trivial rfl rfl ?_
      refine AOR.pure (LT.move (v := (.s (.c (bC (decide (k < 0)))))) rfl) ⟨rfl, trivial⟩ trivial rfl rfl ?_
      refine AOR.split (fun hb7 => ?_) (fun hb7 => ?_)
      · refine AOR.skip ⟨_, rfl, .inl ⟨_, rfl, (by rw [hb7]; rfl)⟩⟩ rfl ?_
        refine AOR.skip ⟨_, rfl, .inl ⟨_, rfl, (by rw [hb7]; rfl)⟩⟩ rfl ?_
        refine AOR.skip ⟨_, rfl, .inl ⟨_, rfl, (by rw [hb7]; rfl)⟩⟩ rfl ?_
        refine AOR.skip ⟨_, rfl, .inl ⟨_, rfl, (by rw [hb7]; rfl)⟩⟩ rfl ?_
        refine AOR.skip ⟨_, rfl, .inl ⟨_, rfl, (by rw [hb7]; rfl)⟩⟩ rfl ?_
        refine AOR.pure (LT.pickT (v := (.s (.c (bC true)))) rfl hb7) ⟨rfl, ⟨rfl, rfl⟩, trivial⟩ trivial rfl rfl ?_
        refine AOR.nil ?_
        refine AWR.nil ⟨rfl, Ent.of ⟨rfl, rfl, rfl, rfl, trivial⟩ ⟨rfl, rfl, trivial⟩⟩
      · refine AOR.pure (LT.move (v := (.s (.c (iC k)))) rfl) ⟨rfl, trivial⟩ trivial ⟨_, rfl, .inl ⟨_, rfl, (by rw [hb7]; rfl)⟩⟩ rfl ?_
        refine AOR.pure (LT.fieldPl rfl fo30_1) ⟨rfl, trivial⟩ trivial ⟨_, rfl, .inl ⟨_, rfl, (by rw [hb7]; rfl)⟩⟩ rfl ?_
        refine AOR.pure (LT.bload1 (c := (.pv (.xs false (g.Bars.map encTBar)))) rfl ag28 (by exact rfl)) ⟨rfl, trivial⟩ ⟨rfl, trivial⟩ ⟨_, rfl, .inl ⟨_, rfl, (by rw [hb7]; rfl)⟩⟩ rfl ?_
        refine AOR.pure (LT.tlenRO rfl und28) ⟨rfl, trivial⟩ trivial ⟨_, rfl, .inl ⟨_, rfl, (by rw [hb7]; rfl)⟩⟩ rfl ?_
        refine AOR.pure (LT.geq rfl) ⟨rfl, rfl, trivial⟩ trivial ⟨_, rfl, .inl ⟨_, rfl, (by rw [hb7]; rfl)⟩⟩ rfl ?_
        refine AOR.pure (LT.pickF (v := (.s (.c (bC (decide ((g.Bars.length : Int) ≤ k)))))) rfl hb7) ⟨rfl, rfl, trivial⟩ trivial rfl rfl ?_
        refine AOR.nil ?_
        refine AWR.nil ⟨rfl, Ent.of ⟨rfl, rfl, rfl, rfl, trivial⟩ ⟨rfl, rfl, trivial⟩⟩
  · refine AWR.cond rfl (fun hc8 => ?_) (fun hc8 => ?_)
    · refine AWR.seq ?_
      refine AWR.region ?_
      refine AOR.pure (LT.bloadN (out := [(iC g.Points), (.pv (.xs false (g.Bars.map encTBar)))]) rfl ag30 (infS inf30) sz30 (by exact rfl) (by exact rfl)) ⟨rfl, trivial⟩ ⟨rfl, trivial⟩ rfl rfl ?_
      refine AOR.bind fun r9 hr9 => ?_
      refine AOR.step (@LT.callF Try.prog _ _ 70 _ _ [(.agg [(iC g.Points), (.pv (.xs false (g.Bars.map encTBar)))])] _ _ [] _ _ _ _ ((show Fw.Fn Try.prog 70 [(.agg [(iC g.Points), (.pv (.xs false (g.Bars.map encTBar)))])] [] (.s (.agg [(iC r9.Points), (.loc 25 0 r9.Bars.length)])) [(25, (.prow 60 (r9.Bars.map encTBar)))] [] [25] from Fw.Fn.ren [(0, 25)] (w_spec_l2Copy g r9 hr9) rfl)) rfl cb70 (.cons (.agg (.cons (.same rfl) (.cons (.same rfl) .nil))) .nil) rfl rfl trivial) ⟨rfl, rfl, trivial⟩ trivial rfl rfl ?_
      refine AOR.step (LT.bstore (v := (.agg [(iC r9.Points), (.loc 25 0 r9.Bars.length)])) (out := [(iC r9.Points), (.loc 25 0 r9.Bars.length)]) rfl rfl (infS inf30) sz30 (by exact rfl) (by exact Nat.le_of_ble_eq_true rfl) (by exact rfl)) ⟨rfl, rfl, trivial⟩ ⟨rfl, trivial⟩ rfl rfl ?_
      refine AOR.pure (LT.assign (v := (.s (.c (bC false)))) rfl) ⟨⟨rfl, rfl⟩, trivial⟩ trivial rfl rfl ?_
      refine AOR.nil ?_
      refine AWR.ent (Ent.of (σ' := [(4, (.s (.c (.pl 22 0)))), (5, (.s (.c (bC false))))]) (m' := [(22, (.row 30 [[(iC r9.Points), (.loc 25 0 r9.Bars.length)]])), (25, (.prow 60 (r9.Bars.map encTBar)))]) ⟨rfl, rfl, trivial⟩ ⟨rfl, rfl, trivial⟩) ?_
      refine AWR.ent (Ent.mv 25 0 rfl rfl) ?_
      refine AWR.ent (Ent.of (σ' := [(4, (.s (.c (.pl 22 0)))), (5, (.s (.c (bC false))))]) (m' := [(0, (.prow 60 (r9.Bars.map encTBar))), (22, (.row 30 [[(iC r9.Points), (.loc 0 0 r9.Bars.length)]]))]) ⟨rfl, rfl, trivial⟩ ⟨rfl, rfl, trivial⟩) ?_
      refine AWR.ret (FPost.mk (.inr rfl) ⟨⟨_, _, _, rfl, rfl, rfl, ag30, sz30, _, (infS inf30)⟩, rfl, trivial⟩ ⟨rfl, trivial⟩ rfl ⟨⟨PermP.sc, trivial, trivial⟩, PermP.sc, trivial⟩ ⟨PermO.prow' perm_encTBar, trivial⟩)
    · refine AWR.skip ?_
      refine AWR.seq ?_
      refine AWR.draw mixed ?_
      refine AOD.pure (LT.fieldPl rfl fo30_0) ⟨rfl, trivial⟩ trivial rfl rfl ?_
      refine AOD.pure (LT.bload1 (c := (iC g.Points)) rfl ag3 (by exact rfl)) ⟨rfl, trivial⟩ ⟨rfl, trivial⟩ rfl rfl ?_
      refine AOD.step (LT.tbuildSlice (n := 26) (enc := encTBar) [] ([] : List TBar) rfl rfl und28 ti60 rfl rfl rfl rfl (by decide) (fun _ => rfl) rfl) trivial trivial rfl rfl ?_
      refine AOD.pure (LT.fieldPl rfl fo30_1) ⟨rfl, trivial⟩ trivial rfl rfl ?_
      refine AOD.pure (LT.bload1 (c := (.pv (.xs false (g.Bars.map encTBar)))) rfl ag28 (by exact rfl)) ⟨rfl, trivial⟩ ⟨rfl, trivial⟩ rfl rfl ?_
      refine AOD.pure (LT.move (v := (.s (.c (iC k)))) rfl) ⟨rfl, trivial⟩ trivial rfl rfl ?_
      refine AOD.bind fun v10 hv10 => ?_
      refine AOD.pure (LT.tsliceRO (enc := encTBar) (blo := none) (bhi := (some (.tmp 27, k))) (l := 0) (h := k.toNat) rfl rfl rfl und28 inf60 (fun _ => by rw [sz60]; rfl) (.inr ⟨rfl, rfl⟩) (.inl ⟨_, _, rfl, Int.le_trans (slc_spec hv10).1 (slc_spec hv10).2.1, rfl⟩) (slc_lh hv10) (slc_hl hv10)) ⟨rfl, rfl, trivial⟩ trivial rfl rfl ?_
      refine AOD.bind fun u11 hu11 => ?_
      refine AOD.step (LT.tappRO (enc := encTBar) rfl  rfl und28 ti60 rfl (by decide) (by decide) (fun _ => rfl) (lim_le hu11)) ⟨rfl, rfl, trivial⟩ ⟨rfl, trivial⟩ rfl rfl ?_
      refine AOD.pure (LT.fieldPl rfl fo30_1) ⟨rfl, trivial⟩ trivial rfl rfl ?_
      refine AOD.pure (LT.bload1 (c := (.pv (.xs false (g.Bars.map encTBar)))) rfl ag28 (by exact rfl)) ⟨rfl, trivial⟩ ⟨rfl, trivial⟩ rfl rfl ?_
      refine AOD.pure (LT.move (v := (.s (.c (iC k)))) rfl) ⟨rfl, trivial⟩ trivial rfl rfl ?_
      refine AOD.pure (LT.add rfl) ⟨rfl, ⟨rfl, rfl⟩, trivial⟩ trivial rfl rfl ?_
      refine AOD.bind fun v12 hv12 => ?_
      refine AOD.pure (LT.tsliceRO (enc := encTBar) (blo := (some (.tmp 33, (w64 (k + 1))))) (bhi := none) (l := (w64 (k + 1)).toNat) (h := g.Bars.length) rfl rfl rfl und28 inf60 (fun _ => by rw [sz60]; rfl) (.inl ⟨_, _, rfl, (slc_spec hv12).1, rfl⟩) (.inr ⟨rfl, rfl⟩) (slc_lh hv12) (slc_hl hv12)) ⟨rfl, rfl, trivial⟩ trivial rfl rfl ?_
      refine AOD.bind fun u13 hu13 => ?_
      refine AOD.step (LT.tappRO (enc := encTBar) rfl  rfl und28 ti60 rfl (by decide) (by decide) (fun _ => rfl) (lim_le hu13)) ⟨rfl, rfl, trivial⟩ ⟨rfl, trivial⟩ rfl rfl ?_
      refine AOD.pure (LT.build [(0, .tmp 23, (.c (iC g.Points))), (1, .tmp 35, (.c (.loc 26 0 ((([] : List TBar) ++ ((g.Bars.take k.toNat).drop 0)) ++ ((g.Bars.take g.Bars.length).drop ((w64 (k + 1)).toNat))).length)))] rfl rfl pl30 ti30 rfl rfl rfl) ⟨rfl, rfl, trivial⟩ trivial rfl rfl ?_
      refine AOD.step (LT.bstore (v := (.agg [(iC g.Points), (.loc 26 0 ((([] : List TBar) ++ ((g.Bars.take k.toNat).drop 0)) ++ ((g.Bars.take g.Bars.length).drop ((w64 (k + 1)).toNat))).length)])) (out := [(iC g.Points), (.loc 26 0 ((([] : List TBar) ++ ((g.Bars.take k.toNat).drop 0)) ++ ((g.Bars.take g.Bars.length).drop ((w64 (k + 1)).toNat))).length)]) rfl rfl (infS inf30) sz30 (by exact rfl) (by exact Nat.le_of_ble_eq_true rfl) (by exact rfl)) ⟨rfl, rfl, trivial⟩ ⟨rfl, trivial⟩ rfl rfl ?_
      refine AOD.pure (LT.assign (v := (.s (.c (bC true)))) rfl) ⟨⟨rfl, rfl⟩, trivial⟩ trivial rfl rfl ?_
      refine AOD.nil (by kernel_rfl) ?_
      refine AWR.ent (Ent.of (σ' := [(4, (.s (.c (.pl 22 0)))), (5, (.s (.c (bC true))))]) (m' := [(22, (.row 30 [[(iC g.Points), (.loc 26 0 ((([] : List TBar) ++ ((g.Bars.take k.toNat).drop 0)) ++ ((g.Bars.take g.Bars.length).drop ((w64 (k + 1)).toNat))).length)]])), (26, (.prow 60 (((([] : List TBar) ++ ((g.Bars.take k.toNat).drop 0)) ++ ((g.Bars.take g.Bars.length).drop ((w64 (k + 1)).toNat))).map encTBar)))]) ⟨rfl, rfl, trivial⟩ ⟨rfl, rfl, trivial⟩) ?_
      refine AWR.ent (Ent.mv 26 0 rfl rfl) ?_
      refine AWR.ent (Ent.of (σ' := [(4, (.s (.c (.pl 22 0)))), (5, (.s (.c (bC true))))]) (m' := [(0, (.prow 60 (((([] : List TBar) ++ ((g.Bars.take k.toNat).drop 0)) ++ ((g.Bars.take g.Bars.length).drop ((w64 (k + 1)).toNat))).map encTBar))), (22, (.row 30 [[(iC g.Points), (.loc 0 0 ((([] : List TBar) ++ ((g.Bars.take k.toNat).drop 0)) ++ ((g.Bars.take g.Bars.length).drop ((w64 (k + 1)).toNat))).length)]]))]) ⟨rfl, rfl, trivial⟩ ⟨rfl, rfl, trivial⟩) ?_
      refine AWR.ret (FPost.mk (.inr rfl) ⟨⟨_, _, _, rfl, rfl, rfl, ag30, sz30, _, (infS inf30)⟩, rfl, trivial⟩ ⟨rfl, trivial⟩ rfl ⟨⟨PermP.sc, trivial, trivial⟩, PermP.sc, trivial⟩ ⟨PermO.prow' perm_encTBar, trivial⟩)
set_option maxRecDepth 100000 in
set_option maxHeartbeats 8000000 in
theorem w_spec_BridgesOf (g : TGraph) (k : Int) (l : Int) : ∀ t, m_spec_BridgesOf g k l = some t → Fw.Fn Try.prog 29 [(.agg [(iC g.Points), (.pv (.xs false (g.Bars.map encTBar)))]), (.c (iC k)), (.c (iC l))] [] (.s (.c (.loc 0 0 t.length))) [(0, (.prow 3 (t.map encInt)))] [] [0] := by
  refine Fw.Fn.of (P := Try.prog) (X := [0]) (pn := []) (rs := (fun (t : (List Int)) => [(.c (.loc 0 0 t.length))])) (dfs := (fun (t : (List Int)) => [(0, (.prow 3 (t.map encInt)))])) Try.func29 rfl Try.ntmps29 (Nat.le_of_ble_eq_true rfl) rfl ?_
  intro w0 U0 R0 g0
  unfold m_spec_BridgesOf
  refine AWR.seq ?_
  refine AWR.region ?_
  refine AOR.step (LT.box (n := 21) (v := (.agg [(iC g.Points), (.pv (.xs false (g.Bars.map encTBar)))])) rfl sz30 (by exact rfl)) ⟨rfl, trivial⟩ trivial rfl rfl ?_
  refine AOR.pure (LT.assign (v := (.s (.c (sC nilV)))) rfl) ⟨⟨rfl, rfl⟩, trivial⟩ trivial rfl rfl ?_
  refine AOR.nil ?_
  refine AWR.seq ?_
  refine AWR.region ?_
  refine AOR.step (LT.tbuildSlice (n := 22) (enc := encInt) [] ([] : List Int) rfl rfl und26 ti3 rfl rfl rfl rfl (by decide) (fun _ => rfl) rfl) trivial trivial rfl rfl ?_
  refine AOR.pure (LT.assign (v := (.s (.c (.loc 22 0 ([] : List Int).length)))) rfl) ⟨rfl, trivial⟩ trivial rfl rfl ?_
  refine AOR.nil ?_
  refine AWR.seq ?_
  refine AWR.region ?_
  refine AOR.pure (LT.bloadN (out := [(iC g.Points), (.pv (.xs false (g.Bars.map encTBar)))]) rfl ag30 (infS inf30) sz30 (by exact rfl) (by exact rfl)) ⟨rfl, trivial⟩ ⟨rfl, trivial⟩ rfl rfl ?_
  refine AOR.pure (LT.move (v := (.s (.c (iC k)))) rfl) ⟨rfl, trivial⟩ trivial rfl rfl ?_
  refine AOR.pure (LT.move (v := (.s (.c (iC l)))) rfl) ⟨rfl, trivial⟩ trivial rfl rfl ?_
  refine AOR.bind fun r1 hr1 => ?_
  refine AOR.pure (@LT.callF Try.prog _ _ 55 _ _ [(.agg [(iC g.Points), (.pv (.xs false (g.Bars.map encTBar)))]), (.c (iC k)), (.c (iC l))] _ _ [] _ _ _ _ (w_spec_RankOf g k l r1 hr1) rfl cb55 (.cons (.agg (.cons (.same rfl) (.cons (.same rfl) .nil))) (.cons (.c (.same rfl)) (.cons (.c (.same rfl)) .nil))) rfl rfl trivial) ⟨rfl, rfl, rfl, rfl, trivial⟩ trivial rfl rfl ?_
  refine AOR.pure (LT.assign (v := (.s (.c (iC r1)))) rfl) ⟨rfl, trivial⟩ trivial rfl rfl ?_
  refine AOR.nil ?_
  refine AWR.seq ?_
  refine AWR.seq ?_
  refine AWR.ent (Ent.of (σ' := [(1, (.s (.c (iC k)))), (2, (.s (.c (iC l)))), (3, (.s (.c (.pl 21 0)))), (7, (.s (.c (.loc 22 0 ([] : List Int).length)))), (8, (.s (.c (iC r1))))]) (m' := [(21, (.row 30 [[(iC g.Points), (.pv (.xs false (g.Bars.map encTBar)))]])), (22, (.prow 3 (([] : List Int).map encInt)))]) ⟨rfl, rfl, rfl, rfl, rfl, trivial⟩ ⟨rfl, rfl, trivial⟩) ?_
  refine AWR.region ?_
  refine AOR.pure (LT.assign (v := (.s (.c (iC 0)))) rfl) ⟨⟨rfl, rfl⟩, trivial⟩ trivial rfl rfl ?_
  refine AOR.nil ?_
  refine AWR.block ?_
  refine AWR.loop1 (id := 0) (m_spec_BridgesOf_L1 g k l r1) (fun s2 => ([(1, (.s (.c (iC k)))), (2, (.s (.c (iC l)))), (3, (.s (.c (.pl 21 0)))), (7, (.s (.c (.loc 22 0 s2.2.length)))), (8, (.s (.c (iC r1)))), (9, (.s (.c (iC s2.1))))], [(21, (.row 30 [[(iC g.Points), (.pv (.xs false (g.Bars.map encTBar)))]])), (22, (.prow 3 (s2.2.map encInt)))])) (fun b25 => ([(7, (.s (.c (.loc 22 0 b25.length))))], [(22, (.prow 3 (b25.map encInt)))])) ?_ (Ent.of ⟨rfl, rfl, rfl, rfl, rfl, rfl, trivial⟩ ⟨rfl, rfl, trivial⟩) rfl (fun b25 _ => ?_)
  · intro s2
    unfold m_spec_BridgesOf_L1
    refine AWR.seq ?_
    refine AWR.seq ?_
    refine AWR.joinK (fun j27 => ([(1, (.s (.c (iC k)))), (2, (.s (.c (iC l)))), (3, (.s (.c (.pl 21 0)))), (7, (.s (.c (.loc 22 0 s2.2.length)))), (8, (.s (.c (iC r1)))), (9, (.s (.c (iC s2.1)))), (25, (.s (.c (bC j27))))], [(21, (.row 30 [[(iC g.Points), (.pv (.xs false (g.Bars.map encTBar)))]])), (22, (.prow 3 (s2.2.map encInt)))])) ?_ (fun j27 _ => ?_)
    · refine AWR.region ?_
      refine AOR.pure (LT.move (v := (.s (.c (iC s2.1)))) rfl) ⟨rfl, trivial⟩ trivial rfl rfl ?_
      refine AOR.pure (LT.fieldPl rfl fo30_1) ⟨rfl, trivial⟩ trivial rfl rfl ?_
      refine AOR.pure (LT.bload1 (c := (.pv (.xs false (g.Bars.map encTBar)))) rfl ag28 (by exact rfl)) ⟨rfl, trivial⟩ ⟨rfl, trivial⟩ rfl rfl ?_
      refine AOR.pure (LT.tlenRO rfl und28) ⟨rfl, trivial⟩ trivial rfl rfl ?_
      refine AOR.pure (LT.lss rfl) ⟨rfl, rfl, trivial⟩ trivial rfl rfl ?_
      refine AOR.pure (LT.move (v := (.s (.c (bC (decide (s2.1 < (g.Bars.length : Int))))))) rfl) ⟨rfl, trivial⟩ trivial rfl rfl ?_
      refine AOR.split (fun hb28 => ?_) (fun hb28 => ?_)
      · refine AOR.pure (LT.move (v := (.s (.c (iC r1)))) rfl) ⟨rfl, trivial⟩ trivial ⟨_, rfl, .inl ⟨_, rfl, (by rw [hb28]; rfl)⟩⟩ rfl ?_
        refine AOR.pure (LT.geq rfl) ⟨rfl, ⟨rfl, rfl⟩, trivial⟩ trivial ⟨_, rfl, .inl ⟨_, rfl, (by rw [hb28]; rfl)⟩⟩ rfl ?_
        refine AOR.pure (LT.pickT (v := (.s (.c (bC (decide (0 ≤ r1)))))) rfl hb28) ⟨rfl, rfl, trivial⟩ trivial rfl rfl ?_
        refine AOR.nil ?_
        refine AWR.nil ⟨rfl, Ent.of ⟨rfl, rfl, rfl, rfl, rfl, rfl, rfl, trivial⟩ ⟨rfl, rfl, trivial⟩⟩
      · refine AOR.skip ⟨_, rfl, .inl ⟨_, rfl, (by rw [hb28]; rfl)⟩⟩ rfl ?_
        refine AOR.skip ⟨_, rfl, .inl ⟨_, rfl, (by rw [hb28]; rfl)⟩⟩ rfl ?_
        refine AOR.pure (LT.pickF (v := (.s (.c (bC false)))) rfl hb28) ⟨rfl, ⟨rfl, rfl⟩, trivial⟩ trivial rfl rfl ?_
        refine AOR.nil ?_
        refine AWR.nil ⟨rfl, Ent.of ⟨rfl, rfl, rfl, rfl, rfl, rfl, rfl, trivial⟩ ⟨rfl, rfl, trivial⟩⟩
    · refine AWR.cond rfl (fun hc29 => ?_) (fun hc29 => ?_)
      · refine AWR.skip ?_
        refine AWR.seq ?_
        refine AWR.block ?_
        refine AWR.seq ?_
        refine AWR.region ?_
        refine AOR.pure (LT.bloadN (out := [(iC g.Points), (.pv (.xs false (g.Bars.map encTBar)))]) rfl ag30 (infS inf30) sz30 (by exact rfl) (by exact rfl)) ⟨rfl, trivial⟩ ⟨rfl, trivial⟩ rfl rfl ?_
        refine AOR.pure (LT.move (v := (.s (.c (iC s2.1)))) rfl) ⟨rfl, trivial⟩ trivial rfl rfl ?_
        refine AOR.bind fun r30 hr30 => ?_
        refine AOR.step (@LT.callF Try.prog _ _ 56 _ _ [(.agg [(iC g.Points), (.pv (.xs false (g.Bars.map encTBar)))]), (.c (iC s2.1))] _ _ [] _ _ _ _ ((show Fw.Fn Try.prog 56 [(.agg [(iC g.Points), (.pv (.xs false (g.Bars.map encTBar)))]), (.c (iC s2.1))] [] (.tup [(.agg [(iC r30.1.Points), (.loc 25 0 r30.1.Bars.length)]), (.c (bC r30.2))]) [(25, (.prow 60 (r30.1.Bars.map encTBar)))] [] [25] from Fw.Fn.ren [(0, 25)] (w_spec_RemoveBar g s2.1 r30 hr30) rfl)) rfl cb56 (.cons (.agg (.cons (.same rfl) (.cons (.same rfl) .nil))) (.cons (.c (.same rfl)) .nil)) rfl rfl trivial) ⟨rfl, rfl, rfl, trivial⟩ trivial rfl rfl ?_
        refine AOR.pure (LT.move (v := (.tup [(.agg [(iC r30.1.Points), (.loc 25 0 r30.1.Bars.length)]), (.c (bC r30.2))])) rfl) ⟨rfl, trivial⟩ trivial rfl rfl ?_
        refine AOR.pure (LT.extract (v := (.agg [(iC r30.1.Points), (.loc 25 0 r30.1.Bars.length)])) rfl (by exact rfl)) ⟨rfl, trivial⟩ trivial rfl rfl ?_
        refine AOR.pure (LT.extract (v := (.c (bC r30.2))) rfl (by exact rfl)) ⟨rfl, trivial⟩ trivial rfl rfl ?_
        refine AOR.step (LT.alloc (n := 26) (cells := [(iC 0), (sC nilV)]) rfl ti30 rfl rfl rfl) trivial trivial rfl rfl ?_
        refine AOR.step (LT.bstore (v := (.agg [(iC r30.1.Points), (.loc 25 0 r30.1.Bars.length)])) (out := [(iC r30.1.Points), (.loc 25 0 r30.1.Bars.length)]) rfl rfl (infS inf30) sz30 (by exact rfl) (by exact Nat.le_of_ble_eq_true rfl) (by exact rfl)) ⟨rfl, rfl, trivial⟩ ⟨rfl, trivial⟩ rfl rfl ?_
        refine AOR.pure (LT.assign (v := (.s (.c (bC r30.2)))) rfl) ⟨rfl, trivial⟩ trivial rfl rfl ?_
        refine AOR.nil ?_
        refine AWR.seq ?_
        refine AWR.ent (Ent.of (σ' := [(1, (.s (.c (iC k)))), (2, (.s (.c (iC l)))), (3, (.s (.c (.pl 21 0)))), (7, (.s (.c (.loc 22 0 s2.2.length)))), (8, (.s (.c (iC r1)))), (9, (.s (.c (iC s2.1)))), (10, (.s (.c (.pl 26 0))))]) (m' := [(21, (.row 30 [[(iC g.Points), (.pv (.xs false (g.Bars.map encTBar)))]])), (22, (.prow 3 (s2.2.map encInt))), (25, (.prow 60 (r30.1.Bars.map encTBar))), (26, (.row 30 [[(iC r30.1.Points), (.loc 25 0 r30.1.Bars.length)]]))]) ⟨rfl, rfl, rfl, rfl, rfl, rfl, rfl, trivial⟩ ⟨rfl, rfl, rfl, rfl, trivial⟩) ?_
        refine AWR.region ?_
        refine AOR.pure (LT.bloadN (out := [(iC r30.1.Points), (.loc 25 0 r30.1.Bars.length)]) rfl ag30 (infS inf30) sz30 (by exact rfl) (by exact rfl)) ⟨rfl, trivial⟩ ⟨rfl, trivial⟩ rfl rfl ?_
        refine AOR.pure (LT.move (v := (.s (.c (iC k)))) rfl) ⟨rfl, trivial⟩ trivial rfl rfl ?_
        refine AOR.pure (LT.move (v := (.s (.c (iC l)))) rfl) ⟨rfl, trivial⟩ trivial rfl rfl ?_
        refine AOR.bind fun r31 hr31 => ?_
        refine AOR.pure (@LT.callF Try.prog _ _ 55 _ _ [(.agg [(iC r30.1.Points), (.loc 25 0 r30.1.Bars.length)]), (.c (iC k)), (.c (iC l))] _ _ [(25, (.prow 60 (r30.1.Bars.map encTBar)))] _ _ _ _ (w_spec_RankOf r30.1 k l r31 hr31) rfl cb55 (.cons (.agg (.cons (.same rfl) (.cons (.tloc rfl rfl) .nil))) (.cons (.c (.same rfl)) (.cons (.c (.same rfl)) .nil))) rfl rfl trivial) ⟨rfl, rfl, rfl, rfl, trivial⟩ ⟨rfl, trivial⟩ rfl rfl ?_
        refine AOR.pure (LT.move (v := (.s (.c (iC r1)))) rfl) ⟨rfl, trivial⟩ trivial rfl rfl ?_
        refine AOR.pure (LT.lss rfl) ⟨rfl, rfl, trivial⟩ trivial rfl rfl ?_
        refine AOR.nil ?_
        refine AWR.joinK (fun j34 => ([(1, (.s (.c (iC k)))), (2, (.s (.c (iC l)))), (3, (.s (.c (.pl 21 0)))), (7, (.s (.c (.loc 22 0 j34.length)))), (8, (.s (.c (iC r1)))), (9, (.s (.c (iC s2.1))))], [(21, (.row 30 [[(iC g.Points), (.pv (.xs false (g.Bars.map encTBar)))]])), (22, (.prow 3 (j34.map encInt)))])) ?_ (fun j34 _ => ?_)
        · refine AWR.cond rfl (fun hc35 => ?_) (fun hc35 => ?_)
          · refine AWR.region ?_
            refine AOR.pure (LT.move (v := (.s (.c (.loc 22 0 s2.2.length)))) rfl) ⟨rfl, trivial⟩ trivial rfl rfl ?_
            refine AOR.pure (LT.move (v := (.s (.c (iC s2.1)))) rfl) ⟨rfl, trivial⟩ trivial rfl rfl ?_
            refine AOR.step (LT.tbuildSlice (n := 28) (enc := encInt) [(0, .tmp 41, (.c (iC s2.1)))] ([s2.1] : List Int) rfl rfl und26 ti3 rfl rfl rfl rfl (by decide) (fun _ => rfl) rfl) ⟨rfl, trivial⟩ trivial rfl rfl ?_
            refine AOR.bind fun u36 hu36 => ?_
            refine AOR.step (LT.tappP (enc := encInt) rfl rfl rfl und26 ti3 rfl (by decide) (by decide) (fun _ => rfl) (lim_le hu36)) ⟨rfl, rfl, trivial⟩ ⟨rfl, rfl, trivial⟩ rfl rfl ?_
            refine AOR.pure (LT.assign (v := (.s (.c (.loc 22 0 (s2.2 ++ ([s2.1] : List Int)).length)))) rfl) ⟨rfl, trivial⟩ trivial rfl rfl ?_
            refine AOR.nil ?_
            refine AWR.nil ⟨rfl, Ent.of ⟨rfl, rfl, rfl, rfl, rfl, rfl, trivial⟩ ⟨rfl, rfl, trivial⟩⟩
          · refine AWR.skip ?_
            refine AWR.nil ⟨rfl, Ent.of ⟨rfl, rfl, rfl, rfl, rfl, rfl, trivial⟩ ⟨rfl, rfl, trivial⟩⟩
        · refine AWR.blk ?_
          refine AWR.region ?_
          refine AOR.pure (LT.move (v := (.s (.c (iC s2.1)))) rfl) ⟨rfl, trivial⟩ trivial rfl rfl ?_
          refine AOR.pure (LT.add rfl) ⟨rfl, ⟨rfl, rfl⟩, trivial⟩ trivial rfl rfl ?_
          refine AOR.pure (LT.assign (v := (.s (.c (iC (w64 (s2.1 + 1)))))) rfl) ⟨rfl, trivial⟩ trivial rfl rfl ?_
          refine AOR.nil ?_
          refine AWR.nil ⟨rfl, Ent.of ⟨rfl, rfl, rfl, rfl, rfl, rfl, trivial⟩ ⟨rfl, rfl, trivial⟩⟩
      · refine AWR.exit_end rfl ⟨rfl, Ent.of ⟨rfl, trivial⟩ ⟨rfl, trivial⟩⟩
  · refine AWR.seq ?_
    refine AWR.region ?_
    refine AOR.pure (LT.move (v := (.s (.c (.loc 22 0 b25.length)))) rfl) ⟨rfl, trivial⟩ trivial rfl rfl ?_
    refine AOR.pure (LT.assign (v := (.s (.c (.loc 22 0 b25.length)))) rfl) ⟨rfl, trivial⟩ trivial rfl rfl ?_
    refine AOR.nil ?_
    refine AWR.ent (Ent.of (σ' := [(6, (.s (.c (.loc 22 0 b25.length))))]) (m' := [(22, (.prow 3 (b25.map encInt)))]) ⟨rfl, trivial⟩ ⟨rfl, trivial⟩) ?_
    refine AWR.ent (Ent.mv 22 0 rfl rfl) ?_
    refine AWR.ent (Ent.of (σ' := [(6, (.s (.c (.loc 0 0 b25.length))))]) (m' := [(0, (.prow 3 (b25.map encInt)))]) ⟨rfl, trivial⟩ ⟨rfl, trivial⟩) ?_
    refine AWR.ret (FPost.mk (.inr rfl) ⟨rfl, trivial⟩ ⟨rfl, trivial⟩ rfl ⟨trivial, trivial⟩ ⟨PermO.prow' perm_encInt, trivial⟩)
set_option maxRecDepth 100000 in
set_option maxHeartbeats 8000000 in
theorem w_spec_l2Has (l : (List Int)) (x : Int) : ∀ t, m_spec_l2Has l x = some t → Fw.Fn Try.prog 31 [(.c (.pv (.xs false (l.map encInt)))), (.c (iC x))] [] (.s (.c (bC t))) [] [] [] := by
  refine Fw.Fn.of (P := Try.prog) (X := []) (pn := []) (rs := (fun (t : Bool) => [(.c (bC t))])) (dfs := (fun (t : Bool) => [])) Try.func31 rfl Try.ntmps31 (Nat.le_of_ble_eq_true rfl) rfl ?_
  intro w0 U0 R0 g0
  unfold m_spec_l2Has
  refine AWR.seq ?_
  refine AWR.region ?_
  refine AOR.pure (LT.assign (v := (.s (.c (bC false)))) rfl) ⟨⟨rfl, rfl⟩, trivial⟩ trivial rfl rfl ?_
  refine AOR.nil ?_
  refine AWR.seq ?_
  refine AWR.seq ?_
  refine AWR.region ?_
  refine AOR.pure (LT.assign (v := (.s (.c (iC 0)))) rfl) ⟨⟨rfl, rfl⟩, trivial⟩ trivial rfl rfl ?_
  refine AOR.nil ?_
  refine AWR.block ?_
  refine AWR.loopR (id := 0) (m_spec_l2Has_L1 l x) (fun s1 => ([(0, (.s (.c (.pv (.xs false (l.map encInt)))))), (1, (.s (.c (iC x)))), (5, (.s (.c (iC s1))))], [])) (fun b8 => ([], [])) (FPost Try.prog Try.f31.results.toList [] [] (fun (t : Bool) => [(.c (bC t))]) (fun (t : Bool) => [])) ?_ (Ent.of ⟨rfl, rfl, rfl, trivial⟩ trivial) rfl (fun b8 _ => ?_) (by intro r t σ m ht hk; injection ht with ht; subst ht; exact hk)
  · intro s1
    unfold m_spec_l2Has_L1
    refine AWR.seq ?_
    refine AWR.seq ?_
    refine AWR.region ?_
    refine AOR.pure (LT.move (v := (.s (.c (iC s1)))) rfl) ⟨rfl, trivial⟩ trivial rfl rfl ?_
    refine AOR.pure (LT.move (v := (.s (.c (.pv (.xs false (l.map encInt)))))) rfl) ⟨rfl, trivial⟩ trivial rfl rfl ?_
    refine AOR.pure (LT.tlenRO rfl und26) ⟨rfl, trivial⟩ trivial rfl rfl ?_
    refine AOR.pure (LT.lss rfl) ⟨rfl, rfl, trivial⟩ trivial rfl rfl ?_
    refine AOR.nil ?_
    refine AWR.cond rfl (fun hc9 => ?_) (fun hc9 => ?_)
    · refine AWR.skip ?_
      refine AWR.seq ?_
      refine AWR.block ?_
      refine AWR.seq ?_
      refine AWR.region ?_
      refine AOR.pure (LT.move (v := (.s (.c (.pv (.xs false (l.map encInt)))))) rfl) ⟨rfl, trivial⟩ trivial rfl rfl ?_
      refine AOR.pure (LT.move (v := (.s (.c (iC s1)))) rfl) ⟨rfl, trivial⟩ trivial rfl rfl ?_
      refine AOR.bind fun x10 hx10 => ?_
      refine AOR.pure (LT.tindexRO (enc := encInt) rfl el26 hx10 sz3) ⟨rfl, rfl, trivial⟩ trivial rfl rfl ?_
      refine AOR.pure (LT.loadPx1 rfl ag3) ⟨rfl, trivial⟩ trivial rfl rfl ?_
      refine AOR.pure (LT.move (v := (.s (.c (iC x)))) rfl) ⟨rfl, trivial⟩ trivial rfl rfl ?_
      refine AOR.pure (LT.eql rfl) ⟨rfl, rfl, trivial⟩ trivial rfl rfl ?_
      refine AOR.nil ?_
      refine AWR.cond rfl (fun hc11 => ?_) (fun hc11 => ?_)
      · refine AWR.seq ?_
        refine AWR.region ?_
        refine AOR.pure (LT.assign (v := (.s (.c (bC true)))) rfl) ⟨⟨rfl, rfl⟩, trivial⟩ trivial rfl rfl ?_
        refine AOR.nil ?_
        refine AWR.ret ⟨rfl, FPost.mk (.inr rfl) ⟨rfl, trivial⟩ trivial rfl ⟨PermP.sc, trivial⟩ trivial⟩
      · refine AWR.skip ?_
        refine AWR.blk ?_
        refine AWR.region ?_
        refine AOR.pure (LT.move (v := (.s (.c (iC s1)))) rfl) ⟨rfl, trivial⟩ trivial rfl rfl ?_
        refine AOR.pure (LT.add rfl) ⟨rfl, ⟨rfl, rfl⟩, trivial⟩ trivial rfl rfl ?_
        refine AOR.pure (LT.assign (v := (.s (.c (iC (w64 (s1 + 1)))))) rfl) ⟨rfl, trivial⟩ trivial rfl rfl ?_
        refine AOR.nil ?_
        refine AWR.nil ⟨rfl, Ent.of ⟨rfl, rfl, rfl, trivial⟩ trivial⟩
    · refine AWR.exit_end rfl ⟨rfl, Ent.of trivial trivial⟩
  · refine AWR.seq ?_
    refine AWR.region ?_
    refine AOR.pure (LT.assign (v := (.s (.c (bC false)))) rfl) ⟨⟨rfl, rfl⟩, trivial⟩ trivial rfl rfl ?_
    refine AOR.nil ?_
    refine AWR.ret (FPost.mk (.inr rfl) ⟨rfl, trivial⟩ trivial rfl ⟨PermP.sc, trivial⟩ trivial)
set_option maxRecDepth 100000 in
set_option maxHeartbeats 8000000 in
theorem w_impl_within (x : Int) (lo : Int) (hi : Int) : ∀ t, m_impl_within x lo hi = some t → Fw.Fn Try.prog 51 [(.c (iC x)), (.c (iC lo)), (.c (iC hi))] [] (.s (.c (bC t))) [] [] [] := by
  refine Fw.Fn.of (P := Try.prog) (X := []) (pn := []) (rs := (fun (t : Bool) => [(.c (bC t))])) (dfs := (fun (t : Bool) => [])) Try.func51 rfl Try.ntmps51 (Nat.le_of_ble_eq_true rfl) rfl ?_
  intro w0 U0 R0 g0
  unfold m_impl_within
  refine AWR.seq ?_
  refine AWR.region ?_
  refine AOR.pure (LT.assign (v := (.s (.c (bC false)))) rfl) ⟨⟨rfl, rfl⟩, trivial⟩ trivial rfl rfl ?_
  refine AOR.nil ?_
  refine AWR.seq ?_
  refine AWR.joinK (fun j2 => ([(6, (.s (.c (bC j2))))], [])) ?_ (fun j2 _ => ?_)
  · refine AWR.region ?_
    refine AOR.pure (LT.move (v := (.s (.c (iC x)))) rfl) ⟨rfl, trivial⟩ trivial rfl rfl ?_
    refine AOR.pure (LT.move (v := (.s (.c (iC lo)))) rfl) ⟨rfl, trivial⟩ trivial rfl rfl ?_
    refine AOR.pure (LT.geq rfl) ⟨rfl, rfl, trivial⟩ trivial rfl rfl ?_
    refine AOR.pure (LT.move (v := (.s (.c (bC (decide (lo ≤ x)))))) rfl) ⟨rfl, trivial⟩ trivial rfl rfl ?_
    refine AOR.split (fun hb3 => ?_) (fun hb3 => ?_)
    · refine AOR.pure (LT.move (v := (.s (.c (iC x)))) rfl) ⟨rfl, trivial⟩ trivial ⟨_, rfl, .inl ⟨_, rfl, (by rw [hb3]; rfl)⟩⟩ rfl ?_
      refine AOR.pure (LT.move (v := (.s (.c (iC hi)))) rfl) ⟨rfl, trivial⟩ trivial ⟨_, rfl, .inl ⟨_, rfl, (by rw [hb3]; rfl)⟩⟩ rfl ?_
      refine AOR.pure (LT.leq rfl) ⟨rfl, rfl, trivial⟩ trivial ⟨_, rfl, .inl ⟨_, rfl, (by rw [hb3]; rfl)⟩⟩ rfl ?_
      refine AOR.pure (LT.pickT (v := (.s (.c (bC (decide (x ≤ hi)))))) rfl hb3) ⟨rfl, rfl, trivial⟩ trivial rfl rfl ?_
      refine AOR.pure (LT.assign (v := (.s (.c (bC (decide (x ≤ hi)))))) rfl) ⟨rfl, trivial⟩ trivial rfl rfl ?_
      refine AOR.nil ?_
      refine AWR.nil ⟨rfl, Ent.of ⟨rfl, trivial⟩ trivial⟩
    · refine AOR.skip ⟨_, rfl, .inl ⟨_, rfl, (by rw [hb3]; rfl)⟩⟩ rfl ?_
      refine AOR.skip ⟨_, rfl, .inl ⟨_, rfl, (by rw [hb3]; rfl)⟩⟩ rfl ?_
      refine AOR.skip ⟨_, rfl, .inl ⟨_, rfl, (by rw [hb3]; rfl)⟩⟩ rfl ?_
      refine AOR.pure (LT.pickF (v := (.s (.c (bC false)))) rfl hb3) ⟨rfl, ⟨rfl, rfl⟩, trivial⟩ trivial rfl rfl ?_
      refine AOR.pure (LT.assign (v := (.s (.c (bC false)))) rfl) ⟨rfl, trivial⟩ trivial rfl rfl ?_
      refine AOR.nil ?_
      refine AWR.nil ⟨rfl, Ent.of ⟨rfl, trivial⟩ trivial⟩
  · refine AWR.ret (FPost.mk (.inr rfl) ⟨rfl, trivial⟩ trivial rfl ⟨PermP.sc, trivial⟩ trivial)
end Go.Proofs.Ytiphmhofhgbhlaa
