/- The code computes the models. Written by a program of mine. -/
import Derived.Test.YtoedmjkipecloaaGenF11
import Derived.Test.YtoedmjkipecloaaGenF15
set_option linter.unusedVariables false
set_option linter.unusedSimpArgs false
set_option linter.unnecessarySimpa false
open Go Go.Fw
namespace Go.Proofs.Ytoedmjkipecloaa
set_option maxRecDepth 100000 in
set_option maxHeartbeats 8000000 in
theorem w_impl_IsProperStress (tV : TTensegrity) (w : (List Int)) : ∀ t, m_impl_IsProperStress tV w = some t → Fw.Fn Try.prog 27 [(.agg [(iC tV.Framework.Graph.Points), (.pv (.xs false (tV.Framework.Graph.Bars.map encTBar))), (.pv (.xs false (tV.Framework.Places.map encTPlace))), (.pv (.xs false (tV.Kinds.map encInt)))]), (.c (.pv (.xs false (w.map encInt))))] [] (.s (.c (bC t))) [] [] [] := by
  refine Fw.Fn.of (P := Try.prog) (X := []) (pn := []) (rs := (fun (t : Bool) => [(.c (bC t))])) (dfs := (fun (t : Bool) => [])) Try.func27 rfl Try.ntmps27 (Nat.le_of_ble_eq_true rfl) rfl ?_
  intro w0 U0 R0 g0
  unfold m_impl_IsProperStress
  refine AWR.seq ?_
  refine AWR.region ?_
  refine AOR.step (LT.box (n := 21) (v := (.agg [(iC tV.Framework.Graph.Points), (.pv (.xs false (tV.Framework.Graph.Bars.map encTBar))), (.pv (.xs false (tV.Framework.Places.map encTPlace))), (.pv (.xs false (tV.Kinds.map encInt)))])) rfl sz39 (by exact rfl)) ⟨rfl, trivial⟩ trivial rfl rfl ?_
  refine AOR.pure (LT.assign (v := (.s (.c (bC false)))) rfl) ⟨⟨rfl, rfl⟩, trivial⟩ trivial rfl rfl ?_
  refine AOR.nil ?_
  refine AWR.seq ?_
  refine AWR.seq ?_
  refine AWR.joinK (fun j4 => ([(1, (.s (.c (.pv (.xs false (w.map encInt)))))), (2, (.s (.c (.pl 21 0)))), (16, (.s (.c (bC j4))))], [(21, (.row 39 [[(iC tV.Framework.Graph.Points), (.pv (.xs false (tV.Framework.Graph.Bars.map encTBar))), (.pv (.xs false (tV.Framework.Places.map encTPlace))), (.pv (.xs false (tV.Kinds.map encInt)))]]))])) ?_ (fun j4 _ => ?_)
  · refine AWR.region ?_
    refine AOR.pure (LT.bloadN (out := [(iC tV.Framework.Graph.Points), (.pv (.xs false (tV.Framework.Graph.Bars.map encTBar))), (.pv (.xs false (tV.Framework.Places.map encTPlace))), (.pv (.xs false (tV.Kinds.map encInt)))]) rfl ag39 (infS inf39) sz39 (by exact rfl) (by exact rfl)) ⟨rfl, trivial⟩ ⟨rfl, trivial⟩ rfl rfl ?_
    refine AOR.bind fun r5 hr5 => ?_
    refine AOR.pure (@LT.callF Try.prog _ _ 64 _ _ [(.agg [(iC tV.Framework.Graph.Points), (.pv (.xs false (tV.Framework.Graph.Bars.map encTBar))), (.pv (.xs false (tV.Framework.Places.map encTPlace))), (.pv (.xs false (tV.Kinds.map encInt)))])] _ _ [] _ _ _ _ (w_impl_IsTensegrity tV r5 hr5) rfl cb64 (.cons (.agg (.cons (.same rfl) (.cons (.same rfl) (.cons (.same rfl) (.cons (.same rfl) .nil))))) .nil) rfl rfl trivial) ⟨rfl, rfl, trivial⟩ trivial rfl rfl ?_
    refine AOR.pure (LT.not rfl) ⟨rfl, trivial⟩ trivial rfl rfl ?_
    refine AOR.pure (LT.move (v := (.s (.c (bC (!r5))))) rfl) ⟨rfl, trivial⟩ trivial rfl rfl ?_
    refine AOR.split (fun hb6 => ?_) (fun hb6 => ?_)
    · refine AOR.skip ⟨_, rfl, .inl ⟨_, rfl, (by rw [hb6]; rfl)⟩⟩ rfl ?_
      refine AOR.skip ⟨_, rfl, .inl ⟨_, rfl, (by rw [hb6]; rfl)⟩⟩ rfl ?_
      refine AOR.skip ⟨_, rfl, .inl ⟨_, rfl, (by rw [hb6]; rfl)⟩⟩ rfl ?_
      refine AOR.skip ⟨_, rfl, .inl ⟨_, rfl, (by rw [hb6]; rfl)⟩⟩ rfl ?_
      refine AOR.skip ⟨_, rfl, .inl ⟨_, rfl, (by rw [hb6]; rfl)⟩⟩ rfl ?_
      refine AOR.pure (LT.pickT (v := (.s (.c (bC true)))) rfl hb6) ⟨rfl, ⟨rfl, rfl⟩, trivial⟩ trivial rfl rfl ?_
      refine AOR.nil ?_
      refine AWR.nil ⟨rfl, Ent.of ⟨rfl, rfl, rfl, trivial⟩ ⟨rfl, trivial⟩⟩
    · refine AOR.pure (LT.fieldPl rfl fo39_0) ⟨rfl, trivial⟩ trivial ⟨_, rfl, .inl ⟨_, rfl, (by rw [hb6]; rfl)⟩⟩ rfl ?_
      refine AOR.pure (LT.bloadN (out := [(iC tV.Framework.Graph.Points), (.pv (.xs false (tV.Framework.Graph.Bars.map encTBar))), (.pv (.xs false (tV.Framework.Places.map encTPlace)))]) rfl ag37 (infS inf37) sz37 (by exact rfl) (by exact rfl)) ⟨rfl, trivial⟩ ⟨rfl, trivial⟩ ⟨_, rfl, .inl ⟨_, rfl, (by rw [hb6]; rfl)⟩⟩ rfl ?_
      refine AOR.pure (LT.move (v := (.s (.c (.pv (.xs false (w.map encInt)))))) rfl) ⟨rfl, trivial⟩ trivial ⟨_, rfl, .inl ⟨_, rfl, (by rw [hb6]; rfl)⟩⟩ rfl ?_
      refine AOR.bind fun r7 hr7 => ?_
      refine AOR.pure (@LT.callF Try.prog _ _ 68 _ _ [(.agg [(iC tV.Framework.Graph.Points), (.pv (.xs false (tV.Framework.Graph.Bars.map encTBar))), (.pv (.xs false (tV.Framework.Places.map encTPlace)))]), (.c (.pv (.xs false (w.map encInt))))] _ _ [] _ _ _ _ (w_impl_IsStress tV.Framework w r7 hr7) rfl cb68 (.cons (.agg (.cons (.same rfl) (.cons (.same rfl) (.cons (.same rfl) .nil)))) (.cons (.c (.same rfl)) .nil)) rfl rfl trivial) ⟨rfl, rfl, rfl, trivial⟩ trivial ⟨_, rfl, .inl ⟨_, rfl, (by rw [hb6]; rfl)⟩⟩ rfl ?_
      refine AOR.pure (LT.not rfl) ⟨rfl, trivial⟩ trivial ⟨_, rfl, .inl ⟨_, rfl, (by rw [hb6]; rfl)⟩⟩ rfl ?_
      refine AOR.pure (LT.pickF (v := (.s (.c (bC (!r7))))) rfl hb6) ⟨rfl, rfl, trivial⟩ trivial rfl rfl ?_
      refine AOR.nil ?_
      refine AWR.nil ⟨rfl, Ent.of ⟨rfl, rfl, rfl, trivial⟩ ⟨rfl, trivial⟩⟩
  · refine AWR.cond rfl (fun hc8 => ?_) (fun hc8 => ?_)
    · refine AWR.seq ?_
      refine AWR.region ?_
      refine AOR.pure (LT.assign (v := (.s (.c (bC false)))) rfl) ⟨⟨rfl, rfl⟩, trivial⟩ trivial rfl rfl ?_
      refine AOR.nil ?_
      refine AWR.ret (FPost.mk (.inr rfl) ⟨rfl, trivial⟩ trivial rfl ⟨PermP.sc, trivial⟩ trivial)
    · refine AWR.skip ?_
      refine AWR.seq ?_
      refine AWR.seq ?_
      refine AWR.region ?_
      refine AOR.pure (LT.fieldPl rfl fo39_1) ⟨rfl, trivial⟩ trivial rfl rfl ?_
      refine AOR.pure (LT.bload1 (c := (.pv (.xs false (tV.Kinds.map encInt)))) rfl ag28 (by exact rfl)) ⟨rfl, trivial⟩ ⟨rfl, trivial⟩ rfl rfl ?_
      refine AOR.pure (LT.tlenRO rfl und28) ⟨rfl, trivial⟩ trivial rfl rfl ?_
      refine AOR.pure (LT.move (v := (.s (.c (iC 0)))) rfl) ⟨⟨rfl, rfl⟩, trivial⟩ trivial rfl rfl ?_
      refine AOR.nil ?_
      refine AWR.block ?_
      refine AWR.loopR (id := 0) (m_impl_IsProperStress_L1 tV w) (fun s9 => ([(1, (.s (.c (.pv (.xs false (w.map encInt)))))), (18, (.s (.c (.pv (.xs false (tV.Kinds.map encInt)))))), (19, (.s (.c (iC (tV.Kinds.length : Int))))), (20, (.s (.c (iC s9))))], [])) (fun b46 => ([], [])) (FPost Try.prog Try.f27.results.toList [] [] (fun (t : Bool) => [(.c (bC t))]) (fun (t : Bool) => [])) ?_ (Ent.of ⟨rfl, rfl, rfl, rfl, trivial⟩ trivial) rfl (fun b46 _ => ?_) (by intro r t σ m ht hk; injection ht with ht; subst ht; exact hk)
      · intro s9
        unfold m_impl_IsProperStress_L1
        refine AWR.seq ?_
        refine AWR.region ?_
        refine AOR.pure (LT.lss rfl) ⟨rfl, rfl, trivial⟩ trivial rfl rfl ?_
        refine AOR.nil ?_
        refine AWR.seq ?_
        refine AWR.cond rfl (fun hc47 => ?_) (fun hc47 => ?_)
        · refine AWR.skip ?_
          refine AWR.seq ?_
          refine AWR.block ?_
          refine AWR.seq ?_
          refine AWR.region ?_
          refine AOR.pure (LT.move (v := (.s (.c (iC s9)))) rfl) ⟨rfl, trivial⟩ trivial rfl rfl ?_
          refine AOR.bind fun x48 hx48 => ?_
          refine AOR.pure (LT.tindexRO (enc := encInt) rfl el28 hx48 sz3) ⟨rfl, rfl, trivial⟩ trivial rfl rfl ?_
          refine AOR.pure (LT.loadPx1 rfl ag3) ⟨rfl, trivial⟩ trivial rfl rfl ?_
          refine AOR.pure (LT.assign (v := (.s (.c (iC s9)))) rfl) ⟨rfl, trivial⟩ trivial rfl rfl ?_
          refine AOR.pure (LT.assign (v := (.s (.c (iC x48)))) rfl) ⟨rfl, trivial⟩ trivial rfl rfl ?_
          refine AOR.nil ?_
          refine AWR.seq ?_
          refine AWR.joinK (fun j56 => ([(1, (.s (.c (.pv (.xs false (w.map encInt)))))), (18, (.s (.c (.pv (.xs false (tV.Kinds.map encInt)))))), (19, (.s (.c (iC (tV.Kinds.length : Int))))), (20, (.s (.c (iC s9)))), (44, (.s (.c (bC j56))))], [])) ?_ (fun j56 _ => ?_)
          · refine AWR.region ?_
            refine AOR.pure (LT.move (v := (.s (.c (iC x48)))) rfl) ⟨rfl, trivial⟩ trivial rfl rfl ?_
            refine AOR.pure (LT.eql rfl) ⟨rfl, ⟨rfl, rfl⟩, trivial⟩ trivial rfl rfl ?_
            refine AOR.pure (LT.move (v := (.s (.c (bC (x48 == 1))))) rfl) ⟨rfl, trivial⟩ trivial rfl rfl ?_
            refine AOR.split (fun hb57 => ?_) (fun hb57 => ?_)
            · refine AOR.pure (LT.move (v := (.s (.c (.pv (.xs false (w.map encInt)))))) rfl) ⟨rfl, trivial⟩ trivial ⟨_, rfl, .inl ⟨_, rfl, (by rw [hb57]; rfl)⟩⟩ rfl ?_
              refine AOR.pure (LT.move (v := (.s (.c (iC s9)))) rfl) ⟨rfl, trivial⟩ trivial ⟨_, rfl, .inl ⟨_, rfl, (by rw [hb57]; rfl)⟩⟩ rfl ?_
              refine AOR.bind fun x58 hx58 => ?_
              refine AOR.pure (LT.tindexRO (enc := encInt) rfl el28 hx58 sz3) ⟨rfl, rfl, trivial⟩ trivial ⟨_, rfl, .inl ⟨_, rfl, (by rw [hb57]; rfl)⟩⟩ rfl ?_
              refine AOR.pure (LT.loadPx1 rfl ag3) ⟨rfl, trivial⟩ trivial ⟨_, rfl, .inl ⟨_, rfl, (by rw [hb57]; rfl)⟩⟩ rfl ?_
              refine AOR.pure (LT.lss rfl) ⟨rfl, ⟨rfl, rfl⟩, trivial⟩ trivial ⟨_, rfl, .inl ⟨_, rfl, (by rw [hb57]; rfl)⟩⟩ rfl ?_
              refine AOR.pure (LT.pickT (v := (.s (.c (bC (decide (x58 < 0)))))) rfl hb57) ⟨rfl, rfl, trivial⟩ trivial rfl rfl ?_
              refine AOR.pure (LT.move (v := (.s (.c (bC (decide (x58 < 0)))))) rfl) ⟨rfl, trivial⟩ trivial rfl rfl ?_
              refine AOR.split (fun hb59 => ?_) (fun hb59 => ?_)
              · refine AOR.skip ⟨_, rfl, .inl ⟨_, rfl, (by rw [hb59]; rfl)⟩⟩ rfl ?_
                refine AOR.skip ⟨_, rfl, .inl ⟨_, rfl, (by rw [hb59]; rfl)⟩⟩ rfl ?_
                refine AOR.skip ⟨_, rfl, .inl ⟨_, rfl, (by rw [hb59]; rfl)⟩⟩ rfl ?_
                refine AOR.skip ⟨_, rfl, .inr ⟨rfl, rfl⟩⟩ rfl ?_
                refine AOR.skip ⟨_, rfl, .inr ⟨rfl, rfl⟩⟩ rfl ?_
                refine AOR.skip ⟨_, rfl, .inr ⟨rfl, rfl⟩⟩ rfl ?_
                refine AOR.skip ⟨_, rfl, .inr ⟨rfl, rfl⟩⟩ rfl ?_
                refine AOR.skip ⟨_, rfl, .inr ⟨rfl, rfl⟩⟩ rfl ?_
                refine AOR.skip ⟨_, rfl, .inl ⟨_, rfl, (by rw [hb59]; rfl)⟩⟩ rfl ?_
                refine AOR.pure (LT.pickT (v := (.s (.c (bC true)))) rfl hb59) ⟨rfl, ⟨rfl, rfl⟩, trivial⟩ trivial rfl rfl ?_
                refine AOR.nil ?_
                refine AWR.nil ⟨rfl, Ent.of ⟨rfl, rfl, rfl, rfl, rfl, trivial⟩ trivial⟩
              · refine AOR.pure (LT.move (v := (.s (.c (iC x48)))) rfl) ⟨rfl, trivial⟩ trivial ⟨_, rfl, .inl ⟨_, rfl, (by rw [hb59]; rfl)⟩⟩ rfl ?_
                refine AOR.pure (LT.eql rfl) ⟨rfl, ⟨rfl, rfl⟩, trivial⟩ trivial ⟨_, rfl, .inl ⟨_, rfl, (by rw [hb59]; rfl)⟩⟩ rfl ?_
                refine AOR.pure (LT.move (v := (.s (.c (bC (x48 == 2))))) rfl) ⟨rfl, trivial⟩ trivial ⟨_, rfl, .inl ⟨_, rfl, (by rw [hb59]; rfl)⟩⟩ rfl ?_
                refine AOR.split (fun hb60 => ?_) (fun hb60 => ?_)
                · refine AOR.pure (LT.move (v := (.s (.c (.pv (.xs false (w.map encInt)))))) rfl) ⟨rfl, trivial⟩ trivial ⟨_, rfl, .inl ⟨_, rfl, (by rw [hb60]; rfl)⟩⟩ rfl ?_
                  refine AOR.pure (LT.move (v := (.s (.c (iC s9)))) rfl) ⟨rfl, trivial⟩ trivial ⟨_, rfl, .inl ⟨_, rfl, (by rw [hb60]; rfl)⟩⟩ rfl ?_
                  refine AOR.bind fun x61 hx61 => ?_
                  refine AOR.pure (LT.tindexRO (enc := encInt) rfl el28 hx61 sz3) ⟨rfl, rfl, trivial⟩ trivial ⟨_, rfl, .inl ⟨_, rfl, (by rw [hb60]; rfl)⟩⟩ rfl ?_
                  refine AOR.pure (LT.loadPx1 rfl ag3) ⟨rfl, trivial⟩ trivial ⟨_, rfl, .inl ⟨_, rfl, (by rw [hb60]; rfl)⟩⟩ rfl ?_
                  refine AOR.pure (LT.gtr rfl) ⟨rfl, ⟨rfl, rfl⟩, trivial⟩ trivial ⟨_, rfl, .inl ⟨_, rfl, (by rw [hb60]; rfl)⟩⟩ rfl ?_
                  refine AOR.pure (LT.pickT (v := (.s (.c (bC (decide (0 < x61)))))) rfl hb60) ⟨rfl, rfl, trivial⟩ trivial ⟨_, rfl, .inl ⟨_, rfl, (by rw [hb59]; rfl)⟩⟩ rfl ?_
                  refine AOR.pure (LT.pickF (v := (.s (.c (bC (decide (0 < x61)))))) rfl hb59) ⟨rfl, rfl, trivial⟩ trivial rfl rfl ?_
                  refine AOR.nil ?_
                  refine AWR.nil ⟨rfl, Ent.of ⟨rfl, rfl, rfl, rfl, rfl, trivial⟩ trivial⟩
                · refine AOR.skip ⟨_, rfl, .inl ⟨_, rfl, (by rw [hb60]; rfl)⟩⟩ rfl ?_
                  refine AOR.skip ⟨_, rfl, .inl ⟨_, rfl, (by rw [hb60]; rfl)⟩⟩ rfl ?_
                  refine AOR.skip ⟨_, rfl, .inl ⟨_, rfl, (by rw [hb60]; rfl)⟩⟩ rfl ?_
                  refine AOR.skip ⟨_, rfl, .inl ⟨_, rfl, (by rw [hb60]; rfl)⟩⟩ rfl ?_
                  refine AOR.skip ⟨_, rfl, .inl ⟨_, rfl, (by rw [hb60]; rfl)⟩⟩ rfl ?_
                  refine AOR.pure (LT.pickF (v := (.s (.c (bC false)))) rfl hb60) ⟨rfl, ⟨rfl, rfl⟩, trivial⟩ trivial ⟨_, rfl, .inl ⟨_, rfl, (by rw [hb59]; rfl)⟩⟩ rfl ?_
                  refine AOR.pure (LT.pickF (v := (.s (.c (bC false)))) rfl hb59) ⟨rfl, rfl, trivial⟩ trivial rfl rfl ?_
                  refine AOR.nil ?_
                  refine AWR.nil ⟨rfl, Ent.of ⟨rfl, rfl, rfl, rfl, rfl, trivial⟩ trivial⟩
            · refine AOR.skip ⟨_, rfl, .inl ⟨_, rfl, (by rw [hb57]; rfl)⟩⟩ rfl ?_
              refine AOR.skip ⟨_, rfl, .inl ⟨_, rfl, (by rw [hb57]; rfl)⟩⟩ rfl ?_
              refine AOR.skip ⟨_, rfl, .inl ⟨_, rfl, (by rw [hb57]; rfl)⟩⟩ rfl ?_
              refine AOR.skip ⟨_, rfl, .inl ⟨_, rfl, (by rw [hb57]; rfl)⟩⟩ rfl ?_
              refine AOR.skip ⟨_, rfl, .inl ⟨_, rfl, (by rw [hb57]; rfl)⟩⟩ rfl ?_
              refine AOR.pure (LT.pickF (v := (.s (.c (bC false)))) rfl hb57) ⟨rfl, ⟨rfl, rfl⟩, trivial⟩ trivial rfl rfl ?_
              refine AOR.pure (LT.move (v := (.s (.c (bC false)))) rfl) ⟨rfl, trivial⟩ trivial rfl rfl ?_
              refine AOR.pure (LT.move (v := (.s (.c (iC x48)))) rfl) ⟨rfl, trivial⟩ trivial ⟨_, rfl, .inl ⟨_, rfl, rfl⟩⟩ rfl ?_
              refine AOR.pure (LT.eql rfl) ⟨rfl, ⟨rfl, rfl⟩, trivial⟩ trivial ⟨_, rfl, .inl ⟨_, rfl, rfl⟩⟩ rfl ?_
              refine AOR.pure (LT.move (v := (.s (.c (bC (x48 == 2))))) rfl) ⟨rfl, trivial⟩ trivial ⟨_, rfl, .inl ⟨_, rfl, rfl⟩⟩ rfl ?_
              refine AOR.split (fun hb62 => ?_) (fun hb62 => ?_)
              · refine AOR.pure (LT.move (v := (.s (.c (.pv (.xs false (w.map encInt)))))) rfl) ⟨rfl, trivial⟩ trivial ⟨_, rfl, .inl ⟨_, rfl, (by rw [hb62]; rfl)⟩⟩ rfl ?_
                refine AOR.pure (LT.move (v := (.s (.c (iC s9)))) rfl) ⟨rfl, trivial⟩ trivial ⟨_, rfl, .inl ⟨_, rfl, (by rw [hb62]; rfl)⟩⟩ rfl ?_
                refine AOR.bind fun x63 hx63 => ?_
                refine AOR.pure (LT.tindexRO (enc := encInt) rfl el28 hx63 sz3) ⟨rfl, rfl, trivial⟩ trivial ⟨_, rfl, .inl ⟨_, rfl, (by rw [hb62]; rfl)⟩⟩ rfl ?_
                refine AOR.pure (LT.loadPx1 rfl ag3) ⟨rfl, trivial⟩ trivial ⟨_, rfl, .inl ⟨_, rfl, (by rw [hb62]; rfl)⟩⟩ rfl ?_
                refine AOR.pure (LT.gtr rfl) ⟨rfl, ⟨rfl, rfl⟩, trivial⟩ trivial ⟨_, rfl, .inl ⟨_, rfl, (by rw [hb62]; rfl)⟩⟩ rfl ?_
                refine AOR.pure (LT.pickT (v := (.s (.c (bC (decide (0 < x63)))))) rfl hb62) ⟨rfl, rfl, trivial⟩ trivial ⟨_, rfl, .inl ⟨_, rfl, rfl⟩⟩ rfl ?_
                refine AOR.pure (LT.pickF (v := (.s (.c (bC (decide (0 < x63)))))) rfl rfl) ⟨rfl, rfl, trivial⟩ trivial rfl rfl ?_
                refine AOR.nil ?_
                refine AWR.nil ⟨rfl, Ent.of ⟨rfl, rfl, rfl, rfl, rfl, trivial⟩ trivial⟩
              · refine AOR.skip ⟨_, rfl, .inl ⟨_, rfl, (by rw [hb62]; rfl)⟩⟩ rfl ?_
                refine AOR.skip ⟨_, rfl, .inl ⟨_, rfl, (by rw [hb62]; rfl)⟩⟩ rfl ?_
                refine AOR.skip ⟨_, rfl, .inl ⟨_, rfl, (by rw [hb62]; rfl)⟩⟩ rfl ?_
                refine AOR.skip ⟨_, rfl, .inl ⟨_, rfl, (by rw [hb62]; rfl)⟩⟩ rfl ?_
                refine AOR.skip ⟨_, rfl, .inl ⟨_, rfl, (by rw [hb62]; rfl)⟩⟩ rfl ?_
                refine AOR.pure (LT.pickF (v := (.s (.c (bC false)))) rfl hb62) ⟨rfl, ⟨rfl, rfl⟩, trivial⟩ trivial ⟨_, rfl, .inl ⟨_, rfl, rfl⟩⟩ rfl ?_
                refine AOR.pure (LT.pickF (v := (.s (.c (bC false)))) rfl rfl) ⟨rfl, rfl, trivial⟩ trivial rfl rfl ?_
                refine AOR.nil ?_
                refine AWR.nil ⟨rfl, Ent.of ⟨rfl, rfl, rfl, rfl, rfl, trivial⟩ trivial⟩
          · refine AWR.cond rfl (fun hc64 => ?_) (fun hc64 => ?_)
            · refine AWR.seq ?_
              refine AWR.region ?_
              refine AOR.pure (LT.assign (v := (.s (.c (bC false)))) rfl) ⟨⟨rfl, rfl⟩, trivial⟩ trivial rfl rfl ?_
              refine AOR.nil ?_
              refine AWR.ret ⟨rfl, FPost.mk (.inr rfl) ⟨rfl, trivial⟩ trivial rfl ⟨PermP.sc, trivial⟩ trivial⟩
            · refine AWR.skip ?_
              refine AWR.blk ?_
              refine AWR.region ?_
              refine AOR.pure (LT.add rfl) ⟨rfl, ⟨rfl, rfl⟩, trivial⟩ trivial rfl rfl ?_
              refine AOR.pure (LT.move (v := (.s (.c (iC (w64 (s9 + 1)))))) rfl) ⟨rfl, trivial⟩ trivial rfl rfl ?_
              refine AOR.nil ?_
              refine AWR.nil ⟨rfl, Ent.of ⟨rfl, rfl, rfl, rfl, trivial⟩ trivial⟩
        · refine AWR.exit_end rfl ⟨rfl, Ent.of trivial trivial⟩
      · refine AWR.seq ?_
        refine AWR.region ?_
        refine AOR.pure (LT.assign (v := (.s (.c (bC true)))) rfl) ⟨⟨rfl, rfl⟩, trivial⟩ trivial rfl rfl ?_
        refine AOR.nil ?_
        refine AWR.ret (FPost.mk (.inr rfl) ⟨rfl, trivial⟩ trivial rfl ⟨PermP.sc, trivial⟩ trivial)
end Go.Proofs.Ytoedmjkipecloaa
