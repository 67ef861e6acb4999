/- The code computes the models. Written by a program of mine. -/
import Derived.Test.YtoedmjkipecloaaGenF2
import Derived.Test.YtoedmjkipecloaaGenF4
import Derived.Test.YtoedmjkipecloaaGenF8
import Derived.Test.YtoedmjkipecloaaGenF7
set_option linter.unusedVariables false
set_option linter.unusedSimpArgs false
set_option linter.unnecessarySimpa false
open Go Go.Fw
namespace Go.Proofs.Ytoedmjkipecloaa
set_option maxRecDepth 100000 in
set_option maxHeartbeats 8000000 in
theorem w_laws_heldBarS (a : (List TBar)) (k : Int) : ∀ t, m_laws_heldBarS a k = some t → Fw.Fn Try.prog 122 [(.c (.pv (.xs false (a.map encTBar)))), (.c (iC k))] [] (.s (.c (iC t))) [] [] [] := by
  refine Fw.Fn.of (P := Try.prog) (X := []) (pn := []) (rs := (fun (t : Int) => [(.c (iC t))])) (dfs := (fun (t : Int) => [])) Try.func122 rfl Try.ntmps122 (Nat.le_of_ble_eq_true rfl) rfl ?_
  intro w0 U0 R0 g0
  unfold m_laws_heldBarS
  refine AWR.seq ?_
  refine AWR.region ?_
  refine AOR.pure (LT.assign (v := (.s (.c (iC 0)))) rfl) ⟨⟨rfl, rfl⟩, trivial⟩ trivial rfl rfl ?_
  refine AOR.nil ?_
  refine AWR.seq ?_
  refine AWR.seq ?_
  refine AWR.region ?_
  refine AOR.pure (LT.assign (v := (.s (.c (iC 0)))) rfl) ⟨⟨rfl, rfl⟩, trivial⟩ trivial rfl rfl ?_
  refine AOR.nil ?_
  refine AWR.block ?_
  refine AWR.loopR (id := 0) (m_laws_heldBarS_L1 a) (fun s1 => ([(0, (.s (.c (.pv (.xs false (a.map encTBar)))))), (1, (.s (.c (iC s1.1)))), (5, (.s (.c (iC s1.2))))], [])) (fun b12 => ([(1, (.s (.c (iC b12))))], [])) (FPost Try.prog Try.f122.results.toList [] [] (fun (t : Int) => [(.c (iC t))]) (fun (t : Int) => [])) ?_ (Ent.of ⟨rfl, rfl, rfl, trivial⟩ trivial) rfl (fun b12 _ => ?_) (by intro r t σ m ht hk; injection ht with ht; subst ht; exact hk)
  · intro s1
    unfold m_laws_heldBarS_L1
    refine AWR.seq ?_
    refine AWR.seq ?_
    refine AWR.region ?_
    refine AOR.pure (LT.move (v := (.s (.c (iC s1.2)))) rfl) ⟨rfl, trivial⟩ trivial rfl rfl ?_
    refine AOR.pure (LT.move (v := (.s (.c (.pv (.xs false (a.map encTBar)))))) rfl) ⟨rfl, trivial⟩ trivial rfl rfl ?_
    refine AOR.pure (LT.tlenRO rfl und32) ⟨rfl, trivial⟩ trivial rfl rfl ?_
    refine AOR.pure (LT.lss rfl) ⟨rfl, rfl, trivial⟩ trivial rfl rfl ?_
    refine AOR.nil ?_
    refine AWR.cond rfl (fun hc13 => ?_) (fun hc13 => ?_)
    · refine AWR.skip ?_
      refine AWR.seq ?_
      refine AWR.block ?_
      refine AWR.seq ?_
      refine AWR.seq ?_
      refine AWR.region ?_
      refine AOR.pure (LT.move (v := (.s (.c (.pv (.xs false (a.map encTBar)))))) rfl) ⟨rfl, trivial⟩ trivial rfl rfl ?_
      refine AOR.pure (LT.move (v := (.s (.c (iC s1.2)))) rfl) ⟨rfl, trivial⟩ trivial rfl rfl ?_
      refine AOR.bind fun x14 hx14 => ?_
      refine AOR.pure (LT.tindexRO (enc := encTBar) rfl el32 hx14 sz69) ⟨rfl, rfl, trivial⟩ trivial rfl rfl ?_
      refine AOR.pure (LT.fieldPx rfl fo69_0) ⟨rfl, trivial⟩ trivial rfl rfl ?_
      refine AOR.pure (LT.loadPx1 rfl ag3) ⟨rfl, trivial⟩ trivial rfl rfl ?_
      refine AOR.pure (LT.move (v := (.s (.c (iC s1.1)))) rfl) ⟨rfl, trivial⟩ trivial rfl rfl ?_
      refine AOR.pure (LT.neq rfl) ⟨rfl, rfl, trivial⟩ trivial rfl rfl ?_
      refine AOR.nil ?_
      refine AWR.cond rfl (fun hc15 => ?_) (fun hc15 => ?_)
      · refine AWR.seq ?_
        refine AWR.ent (Ent.of (σ' := []) (m' := []) trivial trivial) ?_
        refine AWR.region ?_
        refine AOR.pure (LT.assign (v := (.s (.c (iC (-1))))) rfl) ⟨⟨rfl, rfl⟩, trivial⟩ trivial rfl rfl ?_
        refine AOR.nil ?_
        refine AWR.ret ⟨rfl, FPost.mk (.inr rfl) ⟨rfl, trivial⟩ trivial rfl ⟨PermP.sc, trivial⟩ trivial⟩
      · refine AWR.skip ?_
        refine AWR.seq ?_
        refine AWR.ent (Ent.of (σ' := [(0, (.s (.c (.pv (.xs false (a.map encTBar)))))), (1, (.s (.c (iC s1.1)))), (5, (.s (.c (iC s1.2))))]) (m' := []) ⟨rfl, rfl, rfl, trivial⟩ trivial) ?_
        refine AWR.region ?_
        refine AOR.pure (LT.move (v := (.s (.c (iC s1.1)))) rfl) ⟨rfl, trivial⟩ trivial rfl rfl ?_
        refine AOR.pure (LT.add rfl) ⟨rfl, ⟨rfl, rfl⟩, trivial⟩ trivial rfl rfl ?_
        refine AOR.pure (LT.assign (v := (.s (.c (iC (w64 (s1.1 + 1)))))) rfl) ⟨rfl, trivial⟩ trivial rfl rfl ?_
        refine AOR.nil ?_
        refine AWR.seq ?_
        refine AWR.seq ?_
        refine AWR.region ?_
        refine AOR.pure (LT.move (v := (.s (.c (.pv (.xs false (a.map encTBar)))))) rfl) ⟨rfl, trivial⟩ trivial rfl rfl ?_
        refine AOR.pure (LT.move (v := (.s (.c (iC s1.2)))) rfl) ⟨rfl, trivial⟩ trivial rfl rfl ?_
        refine AOR.bind fun x16 hx16 => ?_
        refine AOR.pure (LT.tindexRO (enc := encTBar) rfl el32 hx16 sz69) ⟨rfl, rfl, trivial⟩ trivial rfl rfl ?_
        refine AOR.pure (LT.fieldPx rfl fo69_1) ⟨rfl, trivial⟩ trivial rfl rfl ?_
        refine AOR.pure (LT.loadPx1 rfl ag3) ⟨rfl, trivial⟩ trivial rfl rfl ?_
        refine AOR.pure (LT.move (v := (.s (.c (iC (w64 (s1.1 + 1)))))) rfl) ⟨rfl, trivial⟩ trivial rfl rfl ?_
        refine AOR.pure (LT.neq rfl) ⟨rfl, rfl, trivial⟩ trivial rfl rfl ?_
        refine AOR.nil ?_
        refine AWR.cond rfl (fun hc17 => ?_) (fun hc17 => ?_)
        · refine AWR.seq ?_
          refine AWR.region ?_
          refine AOR.pure (LT.assign (v := (.s (.c (iC (-1))))) rfl) ⟨⟨rfl, rfl⟩, trivial⟩ trivial rfl rfl ?_
          refine AOR.nil ?_
          refine AWR.ret ⟨rfl, FPost.mk (.inr rfl) ⟨rfl, trivial⟩ trivial rfl ⟨PermP.sc, trivial⟩ trivial⟩
        · refine AWR.skip ?_
          refine AWR.region ?_
          refine AOR.pure (LT.move (v := (.s (.c (iC (w64 (s1.1 + 1)))))) rfl) ⟨rfl, trivial⟩ trivial rfl rfl ?_
          refine AOR.pure (LT.add rfl) ⟨rfl, ⟨rfl, rfl⟩, trivial⟩ trivial rfl rfl ?_
          refine AOR.pure (LT.assign (v := (.s (.c (iC (w64 ((w64 (s1.1 + 1)) + 1)))))) rfl) ⟨rfl, trivial⟩ trivial rfl rfl ?_
          refine AOR.nil ?_
          refine AWR.blk ?_
          refine AWR.ent (Ent.of (σ' := [(0, (.s (.c (.pv (.xs false (a.map encTBar)))))), (1, (.s (.c (iC (w64 ((w64 (s1.1 + 1)) + 1)))))), (5, (.s (.c (iC s1.2))))]) (m' := []) ⟨rfl, rfl, rfl, trivial⟩ trivial) ?_
          refine AWR.region ?_
          refine AOR.pure (LT.move (v := (.s (.c (iC s1.2)))) rfl) ⟨rfl, trivial⟩ trivial rfl rfl ?_
          refine AOR.pure (LT.add rfl) ⟨rfl, ⟨rfl, rfl⟩, trivial⟩ trivial rfl rfl ?_
          refine AOR.pure (LT.assign (v := (.s (.c (iC (w64 (s1.2 + 1)))))) rfl) ⟨rfl, trivial⟩ trivial rfl rfl ?_
          refine AOR.nil ?_
          refine AWR.nil ⟨rfl, Ent.of ⟨rfl, rfl, rfl, trivial⟩ trivial⟩
    · refine AWR.exit_end rfl ⟨rfl, Ent.of ⟨rfl, trivial⟩ trivial⟩
  · refine AWR.seq ?_
    refine AWR.region ?_
    refine AOR.pure (LT.move (v := (.s (.c (iC b12)))) rfl) ⟨rfl, trivial⟩ trivial rfl rfl ?_
    refine AOR.pure (LT.assign (v := (.s (.c (iC b12)))) rfl) ⟨rfl, trivial⟩ trivial rfl rfl ?_
    refine AOR.nil ?_
    refine AWR.ret (FPost.mk (.inr rfl) ⟨rfl, trivial⟩ trivial rfl ⟨PermP.sc, trivial⟩ trivial)
set_option maxRecDepth 100000 in
set_option maxHeartbeats 8000000 in
theorem w_laws_heldGraph (a : TGraph) (k : Int) : ∀ t, m_laws_heldGraph a k = some t → Fw.Fn Try.prog 95 [(.agg [(iC a.Points), (.pv (.xs false (a.Bars.map encTBar)))]), (.c (iC k))] [] (.s (.c (iC t))) [] [] [] := by
  refine Fw.Fn.of (P := Try.prog) (X := []) (pn := []) (rs := (fun (t : Int) => [(.c (iC t))])) (dfs := (fun (t : Int) => [])) Try.func95 rfl Try.ntmps95 (Nat.le_of_ble_eq_true rfl) rfl ?_
  intro w0 U0 R0 g0
  unfold m_laws_heldGraph
  refine AWR.seq ?_
  refine AWR.region ?_
  refine AOR.step (LT.box (n := 21) (v := (.agg [(iC a.Points), (.pv (.xs false (a.Bars.map encTBar)))])) rfl sz34 (by exact rfl)) ⟨rfl, trivial⟩ trivial rfl rfl ?_
  refine AOR.pure (LT.assign (v := (.s (.c (iC 0)))) rfl) ⟨⟨rfl, rfl⟩, trivial⟩ trivial rfl rfl ?_
  refine AOR.nil ?_
  refine AWR.seq ?_
  refine AWR.region ?_
  refine AOR.pure (LT.fieldPl rfl fo34_1) ⟨rfl, trivial⟩ trivial rfl rfl ?_
  refine AOR.pure (LT.bload1 (c := (.pv (.xs false (a.Bars.map encTBar)))) rfl ag32 (by exact rfl)) ⟨rfl, trivial⟩ ⟨rfl, trivial⟩ rfl rfl ?_
  refine AOR.pure (LT.move (v := (.s (.c (iC k)))) rfl) ⟨rfl, trivial⟩ trivial rfl rfl ?_
  refine AOR.bind fun r1 hr1 => ?_
  refine AOR.pure (@LT.callF Try.prog _ _ 122 _ _ [(.c (.pv (.xs false (a.Bars.map encTBar)))), (.c (iC k))] _ _ [] _ _ _ _ (w_laws_heldBarS a.Bars k r1 hr1) rfl cb122 (.cons (.c (.same rfl)) (.cons (.c (.same rfl)) .nil)) rfl rfl trivial) ⟨rfl, rfl, rfl, trivial⟩ trivial rfl rfl ?_
  refine AOR.pure (LT.assign (v := (.s (.c (iC r1)))) rfl) ⟨rfl, trivial⟩ trivial rfl rfl ?_
  refine AOR.nil ?_
  refine AWR.seq ?_
  refine AWR.seq ?_
  refine AWR.region ?_
  refine AOR.pure (LT.move (v := (.s (.c (iC r1)))) rfl) ⟨rfl, trivial⟩ trivial rfl rfl ?_
  refine AOR.pure (LT.lss rfl) ⟨rfl, ⟨rfl, rfl⟩, trivial⟩ trivial rfl rfl ?_
  refine AOR.nil ?_
  refine AWR.cond rfl (fun hc2 => ?_) (fun hc2 => ?_)
  · refine AWR.seq ?_
    refine AWR.ent (Ent.of (σ' := []) (m' := []) trivial trivial) ?_
    refine AWR.region ?_
    refine AOR.pure (LT.assign (v := (.s (.c (iC (-1))))) rfl) ⟨⟨rfl, rfl⟩, trivial⟩ trivial rfl rfl ?_
    refine AOR.nil ?_
    refine AWR.ret (FPost.mk (.inr rfl) ⟨rfl, trivial⟩ trivial rfl ⟨PermP.sc, trivial⟩ trivial)
  · refine AWR.skip ?_
    refine AWR.seq ?_
    refine AWR.ent (Ent.of (σ' := [(1, (.s (.c (iC r1))))]) (m' := []) ⟨rfl, trivial⟩ trivial) ?_
    refine AWR.region ?_
    refine AOR.pure (LT.move (v := (.s (.c (iC r1)))) rfl) ⟨rfl, trivial⟩ trivial rfl rfl ?_
    refine AOR.pure (LT.assign (v := (.s (.c (iC r1)))) rfl) ⟨rfl, trivial⟩ trivial rfl rfl ?_
    refine AOR.nil ?_
    refine AWR.ret (FPost.mk (.inr rfl) ⟨rfl, trivial⟩ trivial rfl ⟨PermP.sc, trivial⟩ trivial)
set_option maxRecDepth 100000 in
set_option maxHeartbeats 8000000 in
theorem w_laws_heldPlaceS (a : (List TPlace)) (k : Int) : ∀ t, m_laws_heldPlaceS a k = some t → Fw.Fn Try.prog 96 [(.c (.pv (.xs false (a.map encTPlace)))), (.c (iC k))] [] (.s (.c (iC t))) [] [] [] := by
  refine Fw.Fn.of (P := Try.prog) (X := []) (pn := []) (rs := (fun (t : Int) => [(.c (iC t))])) (dfs := (fun (t : Int) => [])) Try.func96 rfl Try.ntmps96 (Nat.le_of_ble_eq_true rfl) rfl ?_
  intro w0 U0 R0 g0
  unfold m_laws_heldPlaceS
  refine AWR.seq ?_
  refine AWR.region ?_
  refine AOR.pure (LT.assign (v := (.s (.c (iC 0)))) rfl) ⟨⟨rfl, rfl⟩, trivial⟩ trivial rfl rfl ?_
  refine AOR.nil ?_
  refine AWR.seq ?_
  refine AWR.seq ?_
  refine AWR.region ?_
  refine AOR.pure (LT.assign (v := (.s (.c (iC 0)))) rfl) ⟨⟨rfl, rfl⟩, trivial⟩ trivial rfl rfl ?_
  refine AOR.nil ?_
  refine AWR.block ?_
  refine AWR.loopR (id := 0) (m_laws_heldPlaceS_L1 a) (fun s1 => ([(0, (.s (.c (.pv (.xs false (a.map encTPlace)))))), (1, (.s (.c (iC s1.1)))), (5, (.s (.c (iC s1.2))))], [])) (fun b12 => ([(1, (.s (.c (iC b12))))], [])) (FPost Try.prog Try.f96.results.toList [] [] (fun (t : Int) => [(.c (iC t))]) (fun (t : Int) => [])) ?_ (Ent.of ⟨rfl, rfl, rfl, trivial⟩ trivial) rfl (fun b12 _ => ?_) (by intro r t σ m ht hk; injection ht with ht; subst ht; exact hk)
  · intro s1
    unfold m_laws_heldPlaceS_L1
    refine AWR.seq ?_
    refine AWR.seq ?_
    refine AWR.region ?_
    refine AOR.pure (LT.move (v := (.s (.c (iC s1.2)))) rfl) ⟨rfl, trivial⟩ trivial rfl rfl ?_
    refine AOR.pure (LT.move (v := (.s (.c (.pv (.xs false (a.map encTPlace)))))) rfl) ⟨rfl, trivial⟩ trivial rfl rfl ?_
    refine AOR.pure (LT.tlenRO rfl und35) ⟨rfl, trivial⟩ trivial rfl rfl ?_
    refine AOR.pure (LT.lss rfl) ⟨rfl, rfl, trivial⟩ trivial rfl rfl ?_
    refine AOR.nil ?_
    refine AWR.cond rfl (fun hc13 => ?_) (fun hc13 => ?_)
    · refine AWR.skip ?_
      refine AWR.seq ?_
      refine AWR.block ?_
      refine AWR.seq ?_
      refine AWR.seq ?_
      refine AWR.region ?_
      refine AOR.pure (LT.move (v := (.s (.c (.pv (.xs false (a.map encTPlace)))))) rfl) ⟨rfl, trivial⟩ trivial rfl rfl ?_
      refine AOR.pure (LT.move (v := (.s (.c (iC s1.2)))) rfl) ⟨rfl, trivial⟩ trivial rfl rfl ?_
      refine AOR.bind fun x14 hx14 => ?_
      refine AOR.pure (LT.tindexRO (enc := encTPlace) rfl el35 hx14 sz88) ⟨rfl, rfl, trivial⟩ trivial rfl rfl ?_
      refine AOR.pure (LT.fieldPx rfl fo88_0) ⟨rfl, trivial⟩ trivial rfl rfl ?_
      refine AOR.pure (LT.loadPx1 rfl ag3) ⟨rfl, trivial⟩ trivial rfl rfl ?_
      refine AOR.pure (LT.move (v := (.s (.c (iC s1.1)))) rfl) ⟨rfl, trivial⟩ trivial rfl rfl ?_
      refine AOR.pure (LT.neq rfl) ⟨rfl, rfl, trivial⟩ trivial rfl rfl ?_
      refine AOR.nil ?_
      refine AWR.cond rfl (fun hc15 => ?_) (fun hc15 => ?_)
      · refine AWR.seq ?_
        refine AWR.ent (Ent.of (σ' := []) (m' := []) trivial trivial) ?_
        refine AWR.region ?_
        refine AOR.pure (LT.assign (v := (.s (.c (iC (-1))))) rfl) ⟨⟨rfl, rfl⟩, trivial⟩ trivial rfl rfl ?_
        refine AOR.nil ?_
        refine AWR.ret ⟨rfl, FPost.mk (.inr rfl) ⟨rfl, trivial⟩ trivial rfl ⟨PermP.sc, trivial⟩ trivial⟩
      · refine AWR.skip ?_
        refine AWR.seq ?_
        refine AWR.ent (Ent.of (σ' := [(0, (.s (.c (.pv (.xs false (a.map encTPlace)))))), (1, (.s (.c (iC s1.1)))), (5, (.s (.c (iC s1.2))))]) (m' := []) ⟨rfl, rfl, rfl, trivial⟩ trivial) ?_
        refine AWR.region ?_
        refine AOR.pure (LT.move (v := (.s (.c (iC s1.1)))) rfl) ⟨rfl, trivial⟩ trivial rfl rfl ?_
        refine AOR.pure (LT.add rfl) ⟨rfl, ⟨rfl, rfl⟩, trivial⟩ trivial rfl rfl ?_
        refine AOR.pure (LT.assign (v := (.s (.c (iC (w64 (s1.1 + 1)))))) rfl) ⟨rfl, trivial⟩ trivial rfl rfl ?_
        refine AOR.nil ?_
        refine AWR.seq ?_
        refine AWR.seq ?_
        refine AWR.region ?_
        refine AOR.pure (LT.move (v := (.s (.c (.pv (.xs false (a.map encTPlace)))))) rfl) ⟨rfl, trivial⟩ trivial rfl rfl ?_
        refine AOR.pure (LT.move (v := (.s (.c (iC s1.2)))) rfl) ⟨rfl, trivial⟩ trivial rfl rfl ?_
        refine AOR.bind fun x16 hx16 => ?_
        refine AOR.pure (LT.tindexRO (enc := encTPlace) rfl el35 hx16 sz88) ⟨rfl, rfl, trivial⟩ trivial rfl rfl ?_
        refine AOR.pure (LT.fieldPx rfl fo88_1) ⟨rfl, trivial⟩ trivial rfl rfl ?_
        refine AOR.pure (LT.loadPx1 rfl ag3) ⟨rfl, trivial⟩ trivial rfl rfl ?_
        refine AOR.pure (LT.move (v := (.s (.c (iC (w64 (s1.1 + 1)))))) rfl) ⟨rfl, trivial⟩ trivial rfl rfl ?_
        refine AOR.pure (LT.neq rfl) ⟨rfl, rfl, trivial⟩ trivial rfl rfl ?_
        refine AOR.nil ?_
        refine AWR.cond rfl (fun hc17 => ?_) (fun hc17 => ?_)
        · refine AWR.seq ?_
          refine AWR.region ?_
          refine AOR.pure (LT.assign (v := (.s (.c (iC (-1))))) rfl) ⟨⟨rfl, rfl⟩, trivial⟩ trivial rfl rfl ?_
          refine AOR.nil ?_
          refine AWR.ret ⟨rfl, FPost.mk (.inr rfl) ⟨rfl, trivial⟩ trivial rfl ⟨PermP.sc, trivial⟩ trivial⟩
        · refine AWR.skip ?_
          refine AWR.region ?_
          refine AOR.pure (LT.move (v := (.s (.c (iC (w64 (s1.1 + 1)))))) rfl) ⟨rfl, trivial⟩ trivial rfl rfl ?_
          refine AOR.pure (LT.add rfl) ⟨rfl, ⟨rfl, rfl⟩, trivial⟩ trivial rfl rfl ?_
          refine AOR.pure (LT.assign (v := (.s (.c (iC (w64 ((w64 (s1.1 + 1)) + 1)))))) rfl) ⟨rfl, trivial⟩ trivial rfl rfl ?_
          refine AOR.nil ?_
          refine AWR.blk ?_
          refine AWR.ent (Ent.of (σ' := [(0, (.s (.c (.pv (.xs false (a.map encTPlace)))))), (1, (.s (.c (iC (w64 ((w64 (s1.1 + 1)) + 1)))))), (5, (.s (.c (iC s1.2))))]) (m' := []) ⟨rfl, rfl, rfl, trivial⟩ trivial) ?_
          refine AWR.region ?_
          refine AOR.pure (LT.move (v := (.s (.c (iC s1.2)))) rfl) ⟨rfl, trivial⟩ trivial rfl rfl ?_
          refine AOR.pure (LT.add rfl) ⟨rfl, ⟨rfl, rfl⟩, trivial⟩ trivial rfl rfl ?_
          refine AOR.pure (LT.assign (v := (.s (.c (iC (w64 (s1.2 + 1)))))) rfl) ⟨rfl, trivial⟩ trivial rfl rfl ?_
          refine AOR.nil ?_
          refine AWR.nil ⟨rfl, Ent.of ⟨rfl, rfl, rfl, trivial⟩ trivial⟩
    · refine AWR.exit_end rfl ⟨rfl, Ent.of ⟨rfl, trivial⟩ trivial⟩
  · refine AWR.seq ?_
    refine AWR.region ?_
    refine AOR.pure (LT.move (v := (.s (.c (iC b12)))) rfl) ⟨rfl, trivial⟩ trivial rfl rfl ?_
    refine AOR.pure (LT.assign (v := (.s (.c (iC b12)))) rfl) ⟨rfl, trivial⟩ trivial rfl rfl ?_
    refine AOR.nil ?_
    refine AWR.ret (FPost.mk (.inr rfl) ⟨rfl, trivial⟩ trivial rfl ⟨PermP.sc, trivial⟩ trivial)
set_option maxRecDepth 100000 in
set_option maxHeartbeats 8000000 in
theorem w_laws_heldFramework (a : TFramework) (k : Int) : ∀ t, m_laws_heldFramework a k = some t → Fw.Fn Try.prog 60 [(.agg [(iC a.Graph.Points), (.pv (.xs false (a.Graph.Bars.map encTBar))), (.pv (.xs false (a.Places.map encTPlace)))]), (.c (iC k))] [] (.s (.c (iC t))) [] [] [] := by
  refine Fw.Fn.of (P := Try.prog) (X := []) (pn := []) (rs := (fun (t : Int) => [(.c (iC t))])) (dfs := (fun (t : Int) => [])) Try.func60 rfl Try.ntmps60 (Nat.le_of_ble_eq_true rfl) rfl ?_
  intro w0 U0 R0 g0
  unfold m_laws_heldFramework
  refine AWR.seq ?_
  refine AWR.region ?_
  refine AOR.step (LT.box (n := 21) (v := (.agg [(iC a.Graph.Points), (.pv (.xs false (a.Graph.Bars.map encTBar))), (.pv (.xs false (a.Places.map encTPlace)))])) rfl sz37 (by exact rfl)) ⟨rfl, trivial⟩ trivial rfl rfl ?_
  refine AOR.pure (LT.assign (v := (.s (.c (iC 0)))) rfl) ⟨⟨rfl, rfl⟩, trivial⟩ trivial rfl rfl ?_
  refine AOR.nil ?_
  refine AWR.seq ?_
  refine AWR.region ?_
  refine AOR.pure (LT.fieldPl rfl fo37_0) ⟨rfl, trivial⟩ trivial rfl rfl ?_
  refine AOR.pure (LT.bloadN (out := [(iC a.Graph.Points), (.pv (.xs false (a.Graph.Bars.map encTBar)))]) rfl ag34 (infS inf34) sz34 (by exact rfl) (by exact rfl)) ⟨rfl, trivial⟩ ⟨rfl, trivial⟩ rfl rfl ?_
  refine AOR.pure (LT.move (v := (.s (.c (iC k)))) rfl) ⟨rfl, trivial⟩ trivial rfl rfl ?_
  refine AOR.bind fun r1 hr1 => ?_
  refine AOR.pure (@LT.callF Try.prog _ _ 95 _ _ [(.agg [(iC a.Graph.Points), (.pv (.xs false (a.Graph.Bars.map encTBar)))]), (.c (iC k))] _ _ [] _ _ _ _ (w_laws_heldGraph a.Graph k r1 hr1) rfl cb95 (.cons (.agg (.cons (.same rfl) (.cons (.same rfl) .nil))) (.cons (.c (.same rfl)) .nil)) rfl rfl trivial) ⟨rfl, rfl, rfl, trivial⟩ trivial rfl rfl ?_
  refine AOR.pure (LT.assign (v := (.s (.c (iC r1)))) rfl) ⟨rfl, trivial⟩ trivial rfl rfl ?_
  refine AOR.nil ?_
  refine AWR.seq ?_
  refine AWR.seq ?_
  refine AWR.region ?_
  refine AOR.pure (LT.move (v := (.s (.c (iC r1)))) rfl) ⟨rfl, trivial⟩ trivial rfl rfl ?_
  refine AOR.pure (LT.lss rfl) ⟨rfl, ⟨rfl, rfl⟩, trivial⟩ trivial rfl rfl ?_
  refine AOR.nil ?_
  refine AWR.cond rfl (fun hc2 => ?_) (fun hc2 => ?_)
  · refine AWR.seq ?_
    refine AWR.ent (Ent.of (σ' := []) (m' := []) trivial trivial) ?_
    refine AWR.region ?_
    refine AOR.pure (LT.assign (v := (.s (.c (iC (-1))))) rfl) ⟨⟨rfl, rfl⟩, trivial⟩ trivial rfl rfl ?_
    refine AOR.nil ?_
    refine AWR.ret (FPost.mk (.inr rfl) ⟨rfl, trivial⟩ trivial rfl ⟨PermP.sc, trivial⟩ trivial)
  · refine AWR.skip ?_
    refine AWR.seq ?_
    refine AWR.ent (Ent.of (σ' := [(1, (.s (.c (iC r1)))), (2, (.s (.c (.pl 21 0))))]) (m' := [(21, (.row 37 [[(iC a.Graph.Points), (.pv (.xs false (a.Graph.Bars.map encTBar))), (.pv (.xs false (a.Places.map encTPlace)))]]))]) ⟨rfl, rfl, trivial⟩ ⟨rfl, trivial⟩) ?_
    refine AWR.region ?_
    refine AOR.pure (LT.fieldPl rfl fo37_1) ⟨rfl, trivial⟩ trivial rfl rfl ?_
    refine AOR.pure (LT.bload1 (c := (.pv (.xs false (a.Places.map encTPlace)))) rfl ag35 (by exact rfl)) ⟨rfl, trivial⟩ ⟨rfl, trivial⟩ rfl rfl ?_
    refine AOR.pure (LT.move (v := (.s (.c (iC r1)))) rfl) ⟨rfl, trivial⟩ trivial rfl rfl ?_
    refine AOR.bind fun r3 hr3 => ?_
    refine AOR.pure (@LT.callF Try.prog _ _ 96 _ _ [(.c (.pv (.xs false (a.Places.map encTPlace)))), (.c (iC r1))] _ _ [] _ _ _ _ (w_laws_heldPlaceS a.Places r1 r3 hr3) rfl cb96 (.cons (.c (.same rfl)) (.cons (.c (.same rfl)) .nil)) rfl rfl trivial) ⟨rfl, rfl, rfl, trivial⟩ trivial rfl rfl ?_
    refine AOR.pure (LT.assign (v := (.s (.c (iC r3)))) rfl) ⟨rfl, trivial⟩ trivial rfl rfl ?_
    refine AOR.nil ?_
    refine AWR.seq ?_
    refine AWR.seq ?_
    refine AWR.region ?_
    refine AOR.pure (LT.move (v := (.s (.c (iC r3)))) rfl) ⟨rfl, trivial⟩ trivial rfl rfl ?_
    refine AOR.pure (LT.lss rfl) ⟨rfl, ⟨rfl, rfl⟩, trivial⟩ trivial rfl rfl ?_
    refine AOR.nil ?_
    refine AWR.cond rfl (fun hc4 => ?_) (fun hc4 => ?_)
    · refine AWR.seq ?_
      refine AWR.region ?_
      refine AOR.pure (LT.assign (v := (.s (.c (iC (-1))))) rfl) ⟨⟨rfl, rfl⟩, trivial⟩ trivial rfl rfl ?_
      refine AOR.nil ?_
      refine AWR.ret (FPost.mk (.inr rfl) ⟨rfl, trivial⟩ trivial rfl ⟨PermP.sc, trivial⟩ trivial)
    · refine AWR.skip ?_
      refine AWR.seq ?_
      refine AWR.region ?_
      refine AOR.pure (LT.move (v := (.s (.c (iC r3)))) rfl) ⟨rfl, trivial⟩ trivial rfl rfl ?_
      refine AOR.pure (LT.assign (v := (.s (.c (iC r3)))) rfl) ⟨rfl, trivial⟩ trivial rfl rfl ?_
      refine AOR.nil ?_
      refine AWR.ret (FPost.mk (.inr rfl) ⟨rfl, trivial⟩ trivial rfl ⟨PermP.sc, trivial⟩ trivial)
set_option maxRecDepth 100000 in
set_option maxHeartbeats 8000000 in
theorem w_laws_heldTensegrity (a : TTensegrity) (k : Int) : ∀ t, m_laws_heldTensegrity a k = some t → Fw.Fn Try.prog 21 [(.agg [(iC a.Framework.Graph.Points), (.pv (.xs false (a.Framework.Graph.Bars.map encTBar))), (.pv (.xs false (a.Framework.Places.map encTPlace))), (.pv (.xs false (a.Kinds.map encInt)))]), (.c (iC k))] [] (.s (.c (iC t))) [] [] [] := by
  refine Fw.Fn.of (P := Try.prog) (X := []) (pn := []) (rs := (fun (t : Int) => [(.c (iC t))])) (dfs := (fun (t : Int) => [])) Try.func21 rfl Try.ntmps21 (Nat.le_of_ble_eq_true rfl) rfl ?_
  intro w0 U0 R0 g0
  unfold m_laws_heldTensegrity
  refine AWR.seq ?_
  refine AWR.region ?_
  refine AOR.step (LT.box (n := 21) (v := (.agg [(iC a.Framework.Graph.Points), (.pv (.xs false (a.Framework.Graph.Bars.map encTBar))), (.pv (.xs false (a.Framework.Places.map encTPlace))), (.pv (.xs false (a.Kinds.map encInt)))])) rfl sz39 (by exact rfl)) ⟨rfl, trivial⟩ trivial rfl rfl ?_
  refine AOR.pure (LT.assign (v := (.s (.c (iC 0)))) rfl) ⟨⟨rfl, rfl⟩, trivial⟩ trivial rfl rfl ?_
  refine AOR.nil ?_
  refine AWR.seq ?_
  refine AWR.region ?_
  refine AOR.pure (LT.fieldPl rfl fo39_0) ⟨rfl, trivial⟩ trivial rfl rfl ?_
  refine AOR.pure (LT.bloadN (out := [(iC a.Framework.Graph.Points), (.pv (.xs false (a.Framework.Graph.Bars.map encTBar))), (.pv (.xs false (a.Framework.Places.map encTPlace)))]) rfl ag37 (infS inf37) sz37 (by exact rfl) (by exact rfl)) ⟨rfl, trivial⟩ ⟨rfl, trivial⟩ rfl rfl ?_
  refine AOR.pure (LT.move (v := (.s (.c (iC k)))) rfl) ⟨rfl, trivial⟩ trivial rfl rfl ?_
  refine AOR.bind fun r1 hr1 => ?_
  refine AOR.pure (@LT.callF Try.prog _ _ 60 _ _ [(.agg [(iC a.Framework.Graph.Points), (.pv (.xs false (a.Framework.Graph.Bars.map encTBar))), (.pv (.xs false (a.Framework.Places.map encTPlace)))]), (.c (iC k))] _ _ [] _ _ _ _ (w_laws_heldFramework a.Framework k r1 hr1) rfl cb60 (.cons (.agg (.cons (.same rfl) (.cons (.same rfl) (.cons (.same rfl) .nil)))) (.cons (.c (.same rfl)) .nil)) rfl rfl trivial) ⟨rfl, rfl, rfl, trivial⟩ trivial rfl rfl ?_
  refine AOR.pure (LT.assign (v := (.s (.c (iC r1)))) rfl) ⟨rfl, trivial⟩ trivial rfl rfl ?_
  refine AOR.nil ?_
  refine AWR.seq ?_
  refine AWR.seq ?_
  refine AWR.region ?_
  refine AOR.pure (LT.move (v := (.s (.c (iC r1)))) rfl) ⟨rfl, trivial⟩ trivial rfl rfl ?_
  refine AOR.pure (LT.lss rfl) ⟨rfl, ⟨rfl, rfl⟩, trivial⟩ trivial rfl rfl ?_
  refine AOR.nil ?_
  refine AWR.cond rfl (fun hc2 => ?_) (fun hc2 => ?_)
  · refine AWR.seq ?_
    refine AWR.ent (Ent.of (σ' := []) (m' := []) trivial trivial) ?_
    refine AWR.region ?_
    refine AOR.pure (LT.assign (v := (.s (.c (iC (-1))))) rfl) ⟨⟨rfl, rfl⟩, trivial⟩ trivial rfl rfl ?_
    refine AOR.nil ?_
    refine AWR.ret (FPost.mk (.inr rfl) ⟨rfl, trivial⟩ trivial rfl ⟨PermP.sc, trivial⟩ trivial)
  · refine AWR.skip ?_
    refine AWR.seq ?_
    refine AWR.ent (Ent.of (σ' := [(1, (.s (.c (iC r1)))), (2, (.s (.c (.pl 21 0))))]) (m' := [(21, (.row 39 [[(iC a.Framework.Graph.Points), (.pv (.xs false (a.Framework.Graph.Bars.map encTBar))), (.pv (.xs false (a.Framework.Places.map encTPlace))), (.pv (.xs false (a.Kinds.map encInt)))]]))]) ⟨rfl, rfl, trivial⟩ ⟨rfl, trivial⟩) ?_
    refine AWR.region ?_
    refine AOR.pure (LT.fieldPl rfl fo39_1) ⟨rfl, trivial⟩ trivial rfl rfl ?_
    refine AOR.pure (LT.bload1 (c := (.pv (.xs false (a.Kinds.map encInt)))) rfl ag28 (by exact rfl)) ⟨rfl, trivial⟩ ⟨rfl, trivial⟩ rfl rfl ?_
    refine AOR.pure (LT.move (v := (.s (.c (iC r1)))) rfl) ⟨rfl, trivial⟩ trivial rfl rfl ?_
    refine AOR.bind fun r3 hr3 => ?_
    refine AOR.pure (@LT.callF Try.prog _ _ 47 _ _ [(.c (.pv (.xs false (a.Kinds.map encInt)))), (.c (iC r1))] _ _ [] _ _ _ _ (w_laws_heldIntS a.Kinds r1 r3 hr3) rfl cb47 (.cons (.c (.same rfl)) (.cons (.c (.same rfl)) .nil)) rfl rfl trivial) ⟨rfl, rfl, rfl, trivial⟩ trivial rfl rfl ?_
    refine AOR.pure (LT.assign (v := (.s (.c (iC r3)))) rfl) ⟨rfl, trivial⟩ trivial rfl rfl ?_
    refine AOR.nil ?_
    refine AWR.seq ?_
    refine AWR.seq ?_
    refine AWR.region ?_
    refine AOR.pure (LT.move (v := (.s (.c (iC r3)))) rfl) ⟨rfl, trivial⟩ trivial rfl rfl ?_
    refine AOR.pure (LT.lss rfl) ⟨rfl, ⟨rfl, rfl⟩, trivial⟩ trivial rfl rfl ?_
    refine AOR.nil ?_
    refine AWR.cond rfl (fun hc4 => ?_) (fun hc4 => ?_)
    · refine AWR.seq ?_
      refine AWR.region ?_
      refine AOR.pure (LT.assign (v := (.s (.c (iC (-1))))) rfl) ⟨⟨rfl, rfl⟩, trivial⟩ trivial rfl rfl ?_
      refine AOR.nil ?_
      refine AWR.ret (FPost.mk (.inr rfl) ⟨rfl, trivial⟩ trivial rfl ⟨PermP.sc, trivial⟩ trivial)
    · refine AWR.skip ?_
      refine AWR.seq ?_
      refine AWR.region ?_
      refine AOR.pure (LT.move (v := (.s (.c (iC r3)))) rfl) ⟨rfl, trivial⟩ trivial rfl rfl ?_
      refine AOR.pure (LT.assign (v := (.s (.c (iC r3)))) rfl) ⟨rfl, trivial⟩ trivial rfl rfl ?_
      refine AOR.nil ?_
      refine AWR.ret (FPost.mk (.inr rfl) ⟨rfl, trivial⟩ trivial rfl ⟨PermP.sc, trivial⟩ trivial)
set_option maxRecDepth 100000 in
set_option maxHeartbeats 8000000 in
theorem w_laws_FnExactSwapKinds (aT : TTensegrity) : ∀ t, m_laws_FnExactSwapKinds aT = some t → Fw.Fn Try.prog 3 [(.agg [(iC aT.Framework.Graph.Points), (.pv (.xs false (aT.Framework.Graph.Bars.map encTBar))), (.pv (.xs false (aT.Framework.Places.map encTPlace))), (.pv (.xs false (aT.Kinds.map encInt)))])] [] (.s (.c (bC t))) [] [] [] := by
  refine Fw.Fn.of (P := Try.prog) (X := []) (pn := []) (rs := (fun (t : Bool) => [(.c (bC t))])) (dfs := (fun (t : Bool) => [])) Try.func3 rfl Try.ntmps3 (Nat.le_of_ble_eq_true rfl) rfl ?_
  intro w0 U0 R0 g0
  unfold m_laws_FnExactSwapKinds
  refine AWR.seq ?_
  refine AWR.region ?_
  refine AOR.step (LT.box (n := 21) (v := (.agg [(iC aT.Framework.Graph.Points), (.pv (.xs false (aT.Framework.Graph.Bars.map encTBar))), (.pv (.xs false (aT.Framework.Places.map encTPlace))), (.pv (.xs false (aT.Kinds.map encInt)))])) rfl sz30 (by exact rfl)) ⟨rfl, trivial⟩ trivial rfl rfl ?_
  refine AOR.pure (LT.assign (v := (.s (.c (bC false)))) rfl) ⟨⟨rfl, rfl⟩, trivial⟩ trivial rfl rfl ?_
  refine AOR.nil ?_
  refine AWR.seq ?_
  refine AWR.region ?_
  refine AOR.pure (LT.assign (v := (.s (.c (iC 1048576)))) rfl) ⟨⟨rfl, rfl⟩, trivial⟩ trivial rfl rfl ?_
  refine AOR.nil ?_
  refine AWR.seq ?_
  refine AWR.region ?_
  refine AOR.pure (LT.bloadN (out := [(iC aT.Framework.Graph.Points), (.pv (.xs false (aT.Framework.Graph.Bars.map encTBar))), (.pv (.xs false (aT.Framework.Places.map encTPlace))), (.pv (.xs false (aT.Kinds.map encInt)))]) rfl ag30 (infS inf30) sz30 (by exact rfl) (by exact rfl)) ⟨rfl, trivial⟩ ⟨rfl, trivial⟩ rfl rfl ?_
  refine AOR.pure (LT.move (v := (.s (.c (iC 1048576)))) rfl) ⟨rfl, trivial⟩ trivial rfl rfl ?_
  refine AOR.bind fun r1 hr1 => ?_
  refine AOR.pure (@LT.callF Try.prog _ _ 15 _ _ [(.agg [(iC aT.Framework.Graph.Points), (.pv (.xs false (aT.Framework.Graph.Bars.map encTBar))), (.pv (.xs false (aT.Framework.Places.map encTPlace))), (.pv (.xs false (aT.Kinds.map encInt)))]), (.c (iC 1048576))] _ _ [] _ _ _ _ (w_laws_szTensegrity aT 1048576 r1 hr1) rfl cb15 (.cons (.agg (.cons (.same rfl) (.cons (.same rfl) (.cons (.same rfl) (.cons (.same rfl) .nil))))) (.cons (.c (.same rfl)) .nil)) rfl rfl trivial) ⟨rfl, rfl, rfl, trivial⟩ trivial rfl rfl ?_
  refine AOR.pure (LT.assign (v := (.s (.c (iC r1)))) rfl) ⟨rfl, trivial⟩ trivial rfl rfl ?_
  refine AOR.nil ?_
  refine AWR.seq ?_
  refine AWR.seq ?_
  refine AWR.region ?_
  refine AOR.pure (LT.move (v := (.s (.c (iC r1)))) rfl) ⟨rfl, trivial⟩ trivial rfl rfl ?_
  refine AOR.pure (LT.lss rfl) ⟨rfl, ⟨rfl, rfl⟩, trivial⟩ trivial rfl rfl ?_
  refine AOR.nil ?_
  refine AWR.cond rfl (fun hc2 => ?_) (fun hc2 => ?_)
  · refine AWR.seq ?_
    refine AWR.ent (Ent.of (σ' := []) (m' := []) trivial trivial) ?_
    refine AWR.region ?_
    refine AOR.pure (LT.assign (v := (.s (.c (bC true)))) rfl) ⟨⟨rfl, rfl⟩, trivial⟩ trivial rfl rfl ?_
    refine AOR.nil ?_
    refine AWR.ret (FPost.mk (.inr rfl) ⟨rfl, trivial⟩ trivial rfl ⟨PermP.sc, trivial⟩ trivial)
  · refine AWR.skip ?_
    refine AWR.seq ?_
    refine AWR.ent (Ent.of (σ' := [(1, (.s (.c (.pl 21 0))))]) (m' := [(21, (.row 30 [[(iC aT.Framework.Graph.Points), (.pv (.xs false (aT.Framework.Graph.Bars.map encTBar))), (.pv (.xs false (aT.Framework.Places.map encTPlace))), (.pv (.xs false (aT.Kinds.map encInt)))]]))]) ⟨rfl, trivial⟩ ⟨rfl, trivial⟩) ?_
    refine AWR.region ?_
    refine AOR.pure (LT.bloadN (out := [(iC aT.Framework.Graph.Points), (.pv (.xs false (aT.Framework.Graph.Bars.map encTBar))), (.pv (.xs false (aT.Framework.Places.map encTPlace))), (.pv (.xs false (aT.Kinds.map encInt)))]) rfl ag30 (infS inf30) sz30 (by exact rfl) (by exact rfl)) ⟨rfl, trivial⟩ ⟨rfl, trivial⟩ rfl rfl ?_
    refine AOR.bind fun r3 hr3 => ?_
    refine AOR.step (@LT.callF Try.prog _ _ 17 _ _ [(.agg [(iC aT.Framework.Graph.Points), (.pv (.xs false (aT.Framework.Graph.Bars.map encTBar))), (.pv (.xs false (aT.Framework.Places.map encTPlace))), (.pv (.xs false (aT.Kinds.map encInt)))])] _ _ [] _ _ _ _ ((show Fw.Fn Try.prog 17 [(.agg [(iC aT.Framework.Graph.Points), (.pv (.xs false (aT.Framework.Graph.Bars.map encTBar))), (.pv (.xs false (aT.Framework.Places.map encTPlace))), (.pv (.xs false (aT.Kinds.map encInt)))])] [] (.s (.agg [(iC r3.Framework.Graph.Points), (.loc 24 0 r3.Framework.Graph.Bars.length), (.loc 25 0 r3.Framework.Places.length), (.loc 26 0 r3.Kinds.length)])) [(24, (.prow 69 (r3.Framework.Graph.Bars.map encTBar))), (25, (.prow 88 (r3.Framework.Places.map encTPlace))), (26, (.prow 3 (r3.Kinds.map encInt)))] [] [24, 25, 26] from Fw.Fn.ren [(0, 24), (1, 25), (2, 26)] (w_laws_toTensegrity aT r3 hr3) rfl)) rfl cb17 (.cons (.agg (.cons (.same rfl) (.cons (.same rfl) (.cons (.same rfl) (.cons (.same rfl) .nil))))) .nil) rfl rfl trivial) ⟨rfl, rfl, trivial⟩ trivial rfl rfl ?_
    refine AOR.bind fun r4 hr4 => ?_
    refine AOR.step (@LT.callF Try.prog _ _ 16 _ _ [(.agg [(iC r3.Framework.Graph.Points), (.loc 24 0 r3.Framework.Graph.Bars.length), (.loc 25 0 r3.Framework.Places.length), (.loc 26 0 r3.Kinds.length)])] _ _ [(24, (.prow 69 (r3.Framework.Graph.Bars.map encTBar))), (25, (.prow 88 (r3.Framework.Places.map encTPlace))), (26, (.prow 3 (r3.Kinds.map encInt)))] _ _ _ _ ((show Fw.Fn Try.prog 16 [(.agg [(iC r3.Framework.Graph.Points), (.pv (.xs false (r3.Framework.Graph.Bars.map encTBar))), (.pv (.xs false (r3.Framework.Places.map encTPlace))), (.pv (.xs false (r3.Kinds.map encInt)))])] [] (.s (.agg [(iC r4.Framework.Graph.Points), (.loc 28 0 r4.Framework.Graph.Bars.length), (.loc 29 0 r4.Framework.Places.length), (.loc 30 0 r4.Kinds.length)])) [(28, (.prow 69 (r4.Framework.Graph.Bars.map encTBar))), (29, (.prow 88 (r4.Framework.Places.map encTPlace))), (30, (.prow 3 (r4.Kinds.map encInt)))] [] [28, 29, 30] from Fw.Fn.ren [(0, 28), (1, 29), (2, 30)] (w_spec_SwapKinds r3 r4 hr4) rfl)) rfl cb16 (.cons (.agg (.cons (.same rfl) (.cons (.tloc rfl rfl) (.cons (.tloc rfl rfl) (.cons (.tloc rfl rfl) .nil))))) .nil) rfl rfl trivial) ⟨rfl, rfl, trivial⟩ ⟨rfl, rfl, rfl, trivial⟩ rfl rfl ?_
    refine AOR.step (LT.alloc (n := 31) (cells := [(iC 0), (sC nilV), (sC nilV), (sC nilV)]) rfl ti39 rfl rfl rfl) trivial trivial rfl rfl ?_
    refine AOR.step (LT.bstore (v := (.agg [(iC r4.Framework.Graph.Points), (.loc 28 0 r4.Framework.Graph.Bars.length), (.loc 29 0 r4.Framework.Places.length), (.loc 30 0 r4.Kinds.length)])) (out := [(iC r4.Framework.Graph.Points), (.loc 28 0 r4.Framework.Graph.Bars.length), (.loc 29 0 r4.Framework.Places.length), (.loc 30 0 r4.Kinds.length)]) rfl rfl (infS inf39) sz39 (by exact rfl) (by exact Nat.le_of_ble_eq_true rfl) (by exact rfl)) ⟨rfl, rfl, trivial⟩ ⟨rfl, trivial⟩ rfl rfl ?_
    refine AOR.nil ?_
    refine AWR.seq ?_
    refine AWR.ent (Ent.of (σ' := [(1, (.s (.c (.pl 21 0)))), (4, (.s (.c (.pl 31 0))))]) (m' := [(21, (.row 30 [[(iC aT.Framework.Graph.Points), (.pv (.xs false (aT.Framework.Graph.Bars.map encTBar))), (.pv (.xs false (aT.Framework.Places.map encTPlace))), (.pv (.xs false (aT.Kinds.map encInt)))]])), (28, (.prow 69 (r4.Framework.Graph.Bars.map encTBar))), (29, (.prow 88 (r4.Framework.Places.map encTPlace))), (30, (.prow 3 (r4.Kinds.map encInt))), (31, (.row 39 [[(iC r4.Framework.Graph.Points), (.loc 28 0 r4.Framework.Graph.Bars.length), (.loc 29 0 r4.Framework.Places.length), (.loc 30 0 r4.Kinds.length)]]))]) ⟨rfl, rfl, trivial⟩ ⟨rfl, rfl, rfl, rfl, rfl, trivial⟩) ?_
    refine AWR.region ?_
    refine AOR.pure (LT.bloadN (out := [(iC aT.Framework.Graph.Points), (.pv (.xs false (aT.Framework.Graph.Bars.map encTBar))), (.pv (.xs false (aT.Framework.Places.map encTPlace))), (.pv (.xs false (aT.Kinds.map encInt)))]) rfl ag30 (infS inf30) sz30 (by exact rfl) (by exact rfl)) ⟨rfl, trivial⟩ ⟨rfl, trivial⟩ rfl rfl ?_
    refine AOR.bind fun r5 hr5 => ?_
    refine AOR.step (@LT.callF Try.prog _ _ 17 _ _ [(.agg [(iC aT.Framework.Graph.Points), (.pv (.xs false (aT.Framework.Graph.Bars.map encTBar))), (.pv (.xs false (aT.Framework.Places.map encTPlace))), (.pv (.xs false (aT.Kinds.map encInt)))])] _ _ [] _ _ _ _ ((show Fw.Fn Try.prog 17 [(.agg [(iC aT.Framework.Graph.Points), (.pv (.xs false (aT.Framework.Graph.Bars.map encTBar))), (.pv (.xs false (aT.Framework.Places.map encTPlace))), (.pv (.xs false (aT.Kinds.map encInt)))])] [] (.s (.agg [(iC r5.Framework.Graph.Points), (.loc 33 0 r5.Framework.Graph.Bars.length), (.loc 34 0 r5.Framework.Places.length), (.loc 35 0 r5.Kinds.length)])) [(33, (.prow 69 (r5.Framework.Graph.Bars.map encTBar))), (34, (.prow 88 (r5.Framework.Places.map encTPlace))), (35, (.prow 3 (r5.Kinds.map encInt)))] [] [33, 34, 35] from Fw.Fn.ren [(0, 33), (1, 34), (2, 35)] (w_laws_toTensegrity aT r5 hr5) rfl)) rfl cb17 (.cons (.agg (.cons (.same rfl) (.cons (.same rfl) (.cons (.same rfl) (.cons (.same rfl) .nil))))) .nil) rfl rfl trivial) ⟨rfl, rfl, trivial⟩ trivial rfl rfl ?_
    refine AOR.step (LT.alloc (n := 36) (cells := [(iC 0), (sC nilV), (sC nilV), (sC nilV)]) rfl ti39 rfl rfl rfl) trivial trivial rfl rfl ?_
    refine AOR.step (LT.bstore (v := (.agg [(iC r5.Framework.Graph.Points), (.loc 33 0 r5.Framework.Graph.Bars.length), (.loc 34 0 r5.Framework.Places.length), (.loc 35 0 r5.Kinds.length)])) (out := [(iC r5.Framework.Graph.Points), (.loc 33 0 r5.Framework.Graph.Bars.length), (.loc 34 0 r5.Framework.Places.length), (.loc 35 0 r5.Kinds.length)]) rfl rfl (infS inf39) sz39 (by exact rfl) (by exact Nat.le_of_ble_eq_true rfl) (by exact rfl)) ⟨rfl, rfl, trivial⟩ ⟨rfl, trivial⟩ rfl rfl ?_
    refine AOR.nil ?_
    refine AWR.seq ?_
    refine AWR.region ?_
    refine AOR.pure (LT.bloadN (out := [(iC r5.Framework.Graph.Points), (.loc 33 0 r5.Framework.Graph.Bars.length), (.loc 34 0 r5.Framework.Places.length), (.loc 35 0 r5.Kinds.length)]) rfl ag39 (infS inf39) sz39 (by exact rfl) (by exact rfl)) ⟨rfl, trivial⟩ ⟨rfl, trivial⟩ rfl rfl ?_
    refine AOR.bind fun r6 hr6 => ?_
    refine AOR.step (@LT.callF Try.prog _ _ 18 _ _ [(.agg [(iC r5.Framework.Graph.Points), (.loc 33 0 r5.Framework.Graph.Bars.length), (.loc 34 0 r5.Framework.Places.length), (.loc 35 0 r5.Kinds.length)])] _ _ [(33, (.prow 69 (r5.Framework.Graph.Bars.map encTBar))), (34, (.prow 88 (r5.Framework.Places.map encTPlace))), (35, (.prow 3 (r5.Kinds.map encInt)))] _ _ _ _ ((show Fw.Fn Try.prog 18 [(.agg [(iC r5.Framework.Graph.Points), (.pv (.xs false (r5.Framework.Graph.Bars.map encTBar))), (.pv (.xs false (r5.Framework.Places.map encTPlace))), (.pv (.xs false (r5.Kinds.map encInt)))])] [] (.s (.agg [(iC r6.Framework.Graph.Points), (.loc 38 0 r6.Framework.Graph.Bars.length), (.loc 39 0 r6.Framework.Places.length), (.loc 40 0 r6.Kinds.length)])) [(38, (.prow 69 (r6.Framework.Graph.Bars.map encTBar))), (39, (.prow 88 (r6.Framework.Places.map encTPlace))), (40, (.prow 3 (r6.Kinds.map encInt)))] [] [38, 39, 40] from Fw.Fn.ren [(0, 38), (1, 39), (2, 40)] (w_impl_SwapKinds r5 r6 hr6) rfl)) rfl cb18 (.cons (.agg (.cons (.same rfl) (.cons (.tloc rfl rfl) (.cons (.tloc rfl rfl) (.cons (.tloc rfl rfl) .nil))))) .nil) rfl rfl trivial) ⟨rfl, rfl, trivial⟩ ⟨rfl, rfl, rfl, trivial⟩ rfl rfl ?_
    refine AOR.step (LT.alloc (n := 41) (cells := [(iC 0), (sC nilV), (sC nilV), (sC nilV)]) rfl ti39 rfl rfl rfl) trivial trivial rfl rfl ?_
    refine AOR.step (LT.bstore (v := (.agg [(iC r6.Framework.Graph.Points), (.loc 38 0 r6.Framework.Graph.Bars.length), (.loc 39 0 r6.Framework.Places.length), (.loc 40 0 r6.Kinds.length)])) (out := [(iC r6.Framework.Graph.Points), (.loc 38 0 r6.Framework.Graph.Bars.length), (.loc 39 0 r6.Framework.Places.length), (.loc 40 0 r6.Kinds.length)]) rfl rfl (infS inf39) sz39 (by exact rfl) (by exact Nat.le_of_ble_eq_true rfl) (by exact rfl)) ⟨rfl, rfl, trivial⟩ ⟨rfl, trivial⟩ rfl rfl ?_
    refine AOR.nil ?_
    refine AWR.seq ?_
    refine AWR.seq ?_
    refine AWR.ent (Ent.of (σ' := [(1, (.s (.c (.pl 21 0)))), (4, (.s (.c (.pl 31 0)))), (5, (.s (.c (.pl 36 0)))), (6, (.s (.c (.pl 41 0))))]) (m' := [(21, (.row 30 [[(iC aT.Framework.Graph.Points), (.pv (.xs false (aT.Framework.Graph.Bars.map encTBar))), (.pv (.xs false (aT.Framework.Places.map encTPlace))), (.pv (.xs false (aT.Kinds.map encInt)))]])), (28, (.prow 69 (r4.Framework.Graph.Bars.map encTBar))), (29, (.prow 88 (r4.Framework.Places.map encTPlace))), (30, (.prow 3 (r4.Kinds.map encInt))), (31, (.row 39 [[(iC r4.Framework.Graph.Points), (.loc 28 0 r4.Framework.Graph.Bars.length), (.loc 29 0 r4.Framework.Places.length), (.loc 30 0 r4.Kinds.length)]])), (33, (.prow 69 (r5.Framework.Graph.Bars.map encTBar))), (34, (.prow 88 (r5.Framework.Places.map encTPlace))), (35, (.prow 3 (r5.Kinds.map encInt))), (36, (.row 39 [[(iC r5.Framework.Graph.Points), (.loc 33 0 r5.Framework.Graph.Bars.length), (.loc 34 0 r5.Framework.Places.length), (.loc 35 0 r5.Kinds.length)]])), (38, (.prow 69 (r6.Framework.Graph.Bars.map encTBar))), (39, (.prow 88 (r6.Framework.Places.map encTPlace))), (40, (.prow 3 (r6.Kinds.map encInt))), (41, (.row 39 [[(iC r6.Framework.Graph.Points), (.loc 38 0 r6.Framework.Graph.Bars.length), (.loc 39 0 r6.Framework.Places.length), (.loc 40 0 r6.Kinds.length)]]))]) ⟨rfl, rfl, rfl, rfl, trivial⟩ ⟨rfl, rfl, rfl, rfl, rfl, rfl, rfl, rfl, rfl, rfl, rfl, rfl, rfl, trivial⟩) ?_
    refine AWR.region ?_
    refine AOR.pure (LT.bloadN (out := [(iC r6.Framework.Graph.Points), (.loc 38 0 r6.Framework.Graph.Bars.length), (.loc 39 0 r6.Framework.Places.length), (.loc 40 0 r6.Kinds.length)]) rfl ag39 (infS inf39) sz39 (by exact rfl) (by exact rfl)) ⟨rfl, trivial⟩ ⟨rfl, trivial⟩ rfl rfl ?_
    refine AOR.pure (LT.bloadN (out := [(iC r4.Framework.Graph.Points), (.loc 28 0 r4.Framework.Graph.Bars.length), (.loc 29 0 r4.Framework.Places.length), (.loc 30 0 r4.Kinds.length)]) rfl ag39 (infS inf39) sz39 (by exact rfl) (by exact rfl)) ⟨rfl, trivial⟩ ⟨rfl, trivial⟩ rfl rfl ?_
    refine AOR.bind fun r7 hr7 => ?_
    refine AOR.pure (@LT.callF Try.prog _ _ 19 _ _ [(.agg [(iC r6.Framework.Graph.Points), (.loc 38 0 r6.Framework.Graph.Bars.length), (.loc 39 0 r6.Framework.Places.length), (.loc 40 0 r6.Kinds.length)]), (.agg [(iC r4.Framework.Graph.Points), (.loc 28 0 r4.Framework.Graph.Bars.length), (.loc 29 0 r4.Framework.Places.length), (.loc 30 0 r4.Kinds.length)])] _ _ [(38, (.prow 69 (r6.Framework.Graph.Bars.map encTBar))), (39, (.prow 88 (r6.Framework.Places.map encTPlace))), (40, (.prow 3 (r6.Kinds.map encInt))), (28, (.prow 69 (r4.Framework.Graph.Bars.map encTBar))), (29, (.prow 88 (r4.Framework.Places.map encTPlace))), (30, (.prow 3 (r4.Kinds.map encInt)))] _ _ _ _ (w_laws_eqTensegrity r6 r4 r7 hr7) rfl cb19 (.cons (.agg (.cons (.same rfl) (.cons (.tloc rfl rfl) (.cons (.tloc rfl rfl) (.cons (.tloc rfl rfl) .nil))))) (.cons (.agg (.cons (.same rfl) (.cons (.tloc rfl rfl) (.cons (.tloc rfl rfl) (.cons (.tloc rfl rfl) .nil))))) .nil)) rfl rfl trivial) ⟨rfl, rfl, rfl, trivial⟩ ⟨rfl, rfl, rfl, rfl, rfl, rfl, trivial⟩ rfl rfl ?_
    refine AOR.pure (LT.not rfl) ⟨rfl, trivial⟩ trivial rfl rfl ?_
    refine AOR.nil ?_
    refine AWR.cond rfl (fun hc8 => ?_) (fun hc8 => ?_)
    · refine AWR.seq ?_
      refine AWR.region ?_
      refine AOR.pure (LT.assign (v := (.s (.c (bC false)))) rfl) ⟨⟨rfl, rfl⟩, trivial⟩ trivial rfl rfl ?_
      refine AOR.nil ?_
      refine AWR.ret (FPost.mk (.inr rfl) ⟨rfl, trivial⟩ trivial rfl ⟨PermP.sc, trivial⟩ trivial)
    · refine AWR.skip ?_
      refine AWR.seq ?_
      refine AWR.seq ?_
      refine AWR.draw mixed ?_
      refine AOD.pure (LT.bloadN (out := [(iC r5.Framework.Graph.Points), (.loc 33 0 r5.Framework.Graph.Bars.length), (.loc 34 0 r5.Framework.Places.length), (.loc 35 0 r5.Kinds.length)]) rfl ag39 (infS inf39) sz39 (by exact rfl) (by exact rfl)) ⟨rfl, trivial⟩ ⟨rfl, trivial⟩ rfl rfl ?_
      refine AOD.pure (LT.bloadN (out := [(iC aT.Framework.Graph.Points), (.pv (.xs false (aT.Framework.Graph.Bars.map encTBar))), (.pv (.xs false (aT.Framework.Places.map encTPlace))), (.pv (.xs false (aT.Kinds.map encInt)))]) rfl ag30 (infS inf30) sz30 (by exact rfl) (by exact rfl)) ⟨rfl, trivial⟩ ⟨rfl, trivial⟩ rfl rfl ?_
      refine AOD.bind fun r9 hr9 => ?_
      refine AOD.step (@LT.callF Try.prog _ _ 17 _ _ [(.agg [(iC aT.Framework.Graph.Points), (.pv (.xs false (aT.Framework.Graph.Bars.map encTBar))), (.pv (.xs false (aT.Framework.Places.map encTPlace))), (.pv (.xs false (aT.Kinds.map encInt)))])] _ _ [] _ _ _ _ ((show Fw.Fn Try.prog 17 [(.agg [(iC aT.Framework.Graph.Points), (.pv (.xs false (aT.Framework.Graph.Bars.map encTBar))), (.pv (.xs false (aT.Framework.Places.map encTPlace))), (.pv (.xs false (aT.Kinds.map encInt)))])] [] (.s (.agg [(iC r9.Framework.Graph.Points), (.loc 44 0 r9.Framework.Graph.Bars.length), (.loc 45 0 r9.Framework.Places.length), (.loc 46 0 r9.Kinds.length)])) [(44, (.prow 69 (r9.Framework.Graph.Bars.map encTBar))), (45, (.prow 88 (r9.Framework.Places.map encTPlace))), (46, (.prow 3 (r9.Kinds.map encInt)))] [] [44, 45, 46] from Fw.Fn.ren [(0, 44), (1, 45), (2, 46)] (w_laws_toTensegrity aT r9 hr9) rfl)) rfl cb17 (.cons (.agg (.cons (.same rfl) (.cons (.same rfl) (.cons (.same rfl) (.cons (.same rfl) .nil))))) .nil) rfl rfl trivial) ⟨rfl, rfl, trivial⟩ trivial rfl rfl ?_
      refine AOD.bind fun r10 hr10 => ?_
      refine AOD.pure (@LT.callF Try.prog _ _ 19 _ _ [(.agg [(iC r5.Framework.Graph.Points), (.loc 33 0 r5.Framework.Graph.Bars.length), (.loc 34 0 r5.Framework.Places.length), (.loc 35 0 r5.Kinds.length)]), (.agg [(iC r9.Framework.Graph.Points), (.loc 44 0 r9.Framework.Graph.Bars.length), (.loc 45 0 r9.Framework.Places.length), (.loc 46 0 r9.Kinds.length)])] _ _ [(33, (.prow 69 (r5.Framework.Graph.Bars.map encTBar))), (34, (.prow 88 (r5.Framework.Places.map encTPlace))), (35, (.prow 3 (r5.Kinds.map encInt))), (44, (.prow 69 (r9.Framework.Graph.Bars.map encTBar))), (45, (.prow 88 (r9.Framework.Places.map encTPlace))), (46, (.prow 3 (r9.Kinds.map encInt)))] _ _ _ _ (w_laws_eqTensegrity r5 r9 r10 hr10) rfl cb19 (.cons (.agg (.cons (.same rfl) (.cons (.tloc rfl rfl) (.cons (.tloc rfl rfl) (.cons (.tloc rfl rfl) .nil))))) (.cons (.agg (.cons (.same rfl) (.cons (.tloc rfl rfl) (.cons (.tloc rfl rfl) (.cons (.tloc rfl rfl) .nil))))) .nil)) rfl rfl trivial) ⟨rfl, rfl, rfl, trivial⟩ ⟨rfl, rfl, rfl, rfl, rfl, rfl, trivial⟩ rfl rfl ?_
      refine AOD.pure (LT.not rfl) ⟨rfl, trivial⟩ trivial rfl rfl ?_
      refine AOD.nil (by kernel_rfl) ?_
      refine AWR.cond rfl (fun hc11 => ?_) (fun hc11 => ?_)
      · refine AWR.seq ?_
        refine AWR.ent (Ent.of (σ' := []) (m' := []) trivial trivial) ?_
        refine AWR.region ?_
        refine AOR.pure (LT.assign (v := (.s (.c (bC false)))) rfl) ⟨⟨rfl, rfl⟩, trivial⟩ trivial rfl rfl ?_
        refine AOR.nil ?_
        refine AWR.ret (FPost.mk (.inr rfl) ⟨rfl, trivial⟩ trivial rfl ⟨PermP.sc, trivial⟩ trivial)
      · refine AWR.skip ?_
        refine AWR.seq ?_
        refine AWR.ent (Ent.of (σ' := [(1, (.s (.c (.pl 21 0)))), (4, (.s (.c (.pl 31 0)))), (5, (.s (.c (.pl 36 0)))), (6, (.s (.c (.pl 41 0))))]) (m' := [(21, (.row 30 [[(iC aT.Framework.Graph.Points), (.pv (.xs false (aT.Framework.Graph.Bars.map encTBar))), (.pv (.xs false (aT.Framework.Places.map encTPlace))), (.pv (.xs false (aT.Kinds.map encInt)))]])), (28, (.prow 69 (r4.Framework.Graph.Bars.map encTBar))), (29, (.prow 88 (r4.Framework.Places.map encTPlace))), (30, (.prow 3 (r4.Kinds.map encInt))), (31, (.row 39 [[(iC r4.Framework.Graph.Points), (.loc 28 0 r4.Framework.Graph.Bars.length), (.loc 29 0 r4.Framework.Places.length), (.loc 30 0 r4.Kinds.length)]])), (33, (.prow 69 (r5.Framework.Graph.Bars.map encTBar))), (34, (.prow 88 (r5.Framework.Places.map encTPlace))), (35, (.prow 3 (r5.Kinds.map encInt))), (36, (.row 39 [[(iC r5.Framework.Graph.Points), (.loc 33 0 r5.Framework.Graph.Bars.length), (.loc 34 0 r5.Framework.Places.length), (.loc 35 0 r5.Kinds.length)]])), (38, (.prow 69 (r6.Framework.Graph.Bars.map encTBar))), (39, (.prow 88 (r6.Framework.Places.map encTPlace))), (40, (.prow 3 (r6.Kinds.map encInt))), (41, (.row 39 [[(iC r6.Framework.Graph.Points), (.loc 38 0 r6.Framework.Graph.Bars.length), (.loc 39 0 r6.Framework.Places.length), (.loc 40 0 r6.Kinds.length)]]))]) ⟨rfl, rfl, rfl, rfl, trivial⟩ ⟨rfl, rfl, rfl, rfl, rfl, rfl, rfl, rfl, rfl, rfl, rfl, rfl, rfl, trivial⟩) ?_
        refine AWR.region ?_
        refine AOR.pure (LT.assign (v := (.s (.c (iC 1)))) rfl) ⟨⟨rfl, rfl⟩, trivial⟩ trivial rfl rfl ?_
        refine AOR.nil ?_
        refine AWR.seq ?_
        refine AWR.region ?_
        refine AOR.pure (LT.bloadN (out := [(iC r5.Framework.Graph.Points), (.loc 33 0 r5.Framework.Graph.Bars.length), (.loc 34 0 r5.Framework.Places.length), (.loc 35 0 r5.Kinds.length)]) rfl ag39 (infS inf39) sz39 (by exact rfl) (by exact rfl)) ⟨rfl, trivial⟩ ⟨rfl, trivial⟩ rfl rfl ?_
        refine AOR.pure (LT.move (v := (.s (.c (iC 1)))) rfl) ⟨rfl, trivial⟩ trivial rfl rfl ?_
        refine AOR.bind fun r12 hr12 => ?_
        refine AOR.step (@LT.callF Try.prog _ _ 20 _ _ [(.agg [(iC r5.Framework.Graph.Points), (.loc 33 0 r5.Framework.Graph.Bars.length), (.loc 34 0 r5.Framework.Places.length), (.loc 35 0 r5.Kinds.length)]), (.c (iC 1))] _ _ [] _ _ _ _ ((show Fw.Fn Try.prog 20 [(.agg [(iC r5.Framework.Graph.Points), (.loc 33 0 r5.Framework.Graph.Bars.length), (.loc 34 0 r5.Framework.Places.length), (.loc 35 0 r5.Kinds.length)]), (.c (iC 1))] [(33, (.prow 69 (r5.Framework.Graph.Bars.map encTBar))), (34, (.prow 88 (r5.Framework.Places.map encTPlace))), (35, (.prow 3 (r5.Kinds.map encInt)))] (.s (.c (iC r12.1))) [(33, (.prow 69 (r12.2.1.map encTBar))), (34, (.prow 88 (r12.2.2.1.map encTPlace))), (35, (.prow 3 (r12.2.2.2.map encInt)))] [33, 34, 35] [] from Fw.Fn.ren [(0, 33), (1, 34), (2, 35)] (w_laws_markTensegrity r5 1 r12 hr12) rfl)) rfl cb20 (.cons (.agg (.cons (.same rfl) (.cons (.same rfl) (.cons (.same rfl) (.cons (.same rfl) .nil))))) (.cons (.c (.same rfl)) .nil)) rfl rfl ⟨rfl, rfl, rfl, trivial⟩) ⟨rfl, rfl, rfl, trivial⟩ ⟨rfl, rfl, rfl, trivial⟩ rfl rfl ?_
        refine AOR.pure (LT.assign (v := (.s (.c (iC r12.1)))) rfl) ⟨rfl, trivial⟩ trivial rfl rfl ?_
        refine AOR.nil ?_
        refine AWR.seq ?_
        refine AWR.seq ?_
        refine AWR.joinK (fun j15 => ([(1, (.s (.c (.pl 21 0)))), (4, (.s (.c (.pl 31 0)))), (6, (.s (.c (.pl 41 0)))), (42, (.s (.c (bC j15))))], [(21, (.row 30 [[(iC aT.Framework.Graph.Points), (.pv (.xs false (aT.Framework.Graph.Bars.map encTBar))), (.pv (.xs false (aT.Framework.Places.map encTPlace))), (.pv (.xs false (aT.Kinds.map encInt)))]])), (28, (.prow 69 (r4.Framework.Graph.Bars.map encTBar))), (29, (.prow 88 (r4.Framework.Places.map encTPlace))), (30, (.prow 3 (r4.Kinds.map encInt))), (31, (.row 39 [[(iC r4.Framework.Graph.Points), (.loc 28 0 r4.Framework.Graph.Bars.length), (.loc 29 0 r4.Framework.Places.length), (.loc 30 0 r4.Kinds.length)]])), (38, (.prow 69 (r6.Framework.Graph.Bars.map encTBar))), (39, (.prow 88 (r6.Framework.Places.map encTPlace))), (40, (.prow 3 (r6.Kinds.map encInt))), (41, (.row 39 [[(iC r6.Framework.Graph.Points), (.loc 38 0 r6.Framework.Graph.Bars.length), (.loc 39 0 r6.Framework.Places.length), (.loc 40 0 r6.Kinds.length)]]))])) ?_ (fun j15 _ => ?_)
        · refine AWR.region ?_
          refine AOR.pure (LT.move (v := (.s (.c (iC r12.1)))) rfl) ⟨rfl, trivial⟩ trivial rfl rfl ?_
          refine AOR.pure (LT.lss rfl) ⟨rfl, ⟨rfl, rfl⟩, trivial⟩ trivial rfl rfl ?_
          refine AOR.pure (LT.move (v := (.s (.c (bC (decide (r12.1 < 0)))))) rfl) ⟨rfl, trivial⟩ trivial rfl rfl ?_
          refine AOR.split (fun hb16 => ?_) (fun hb16 => ?_)
          · refine AOR.skip ⟨_, rfl, .inl ⟨_, rfl, (by rw [hb16]; rfl)⟩⟩ rfl ?_
            refine AOR.skip ⟨_, rfl, .inl ⟨_, rfl, (by rw [hb16]; rfl)⟩⟩ rfl ?_
            refine AOR.skip ⟨_, rfl, .inl ⟨_, rfl, (by rw [hb16]; rfl)⟩⟩ rfl ?_
            refine AOR.skip ⟨_, rfl, .inl ⟨_, rfl, (by rw [hb16]; rfl)⟩⟩ rfl ?_
            refine AOR.pure (LT.pickT (v := (.s (.c (bC true)))) rfl hb16) ⟨rfl, ⟨rfl, rfl⟩, trivial⟩ trivial rfl rfl ?_
            refine AOR.nil ?_
            refine AWR.nil ⟨rfl, Ent.of ⟨rfl, rfl, rfl, rfl, trivial⟩ ⟨rfl, rfl, rfl, rfl, rfl, rfl, rfl, rfl, rfl, trivial⟩⟩
          · refine AOR.pure (LT.bloadN (out := [(iC r6.Framework.Graph.Points), (.loc 38 0 r6.Framework.Graph.Bars.length), (.loc 39 0 r6.Framework.Places.length), (.loc 40 0 r6.Kinds.length)]) rfl ag39 (infS inf39) sz39 (by exact rfl) (by exact rfl)) ⟨rfl, trivial⟩ ⟨rfl, trivial⟩ ⟨_, rfl, .inl ⟨_, rfl, (by rw [hb16]; rfl)⟩⟩ rfl ?_
            refine AOR.pure (LT.bloadN (out := [(iC r4.Framework.Graph.Points), (.loc 28 0 r4.Framework.Graph.Bars.length), (.loc 29 0 r4.Framework.Places.length), (.loc 30 0 r4.Kinds.length)]) rfl ag39 (infS inf39) sz39 (by exact rfl) (by exact rfl)) ⟨rfl, trivial⟩ ⟨rfl, trivial⟩ ⟨_, rfl, .inl ⟨_, rfl, (by rw [hb16]; rfl)⟩⟩ rfl ?_
            refine AOR.bind fun r17 hr17 => ?_
            refine AOR.pure (@LT.callF Try.prog _ _ 19 _ _ [(.agg [(iC r6.Framework.Graph.Points), (.loc 38 0 r6.Framework.Graph.Bars.length), (.loc 39 0 r6.Framework.Places.length), (.loc 40 0 r6.Kinds.length)]), (.agg [(iC r4.Framework.Graph.Points), (.loc 28 0 r4.Framework.Graph.Bars.length), (.loc 29 0 r4.Framework.Places.length), (.loc 30 0 r4.Kinds.length)])] _ _ [(38, (.prow 69 (r6.Framework.Graph.Bars.map encTBar))), (39, (.prow 88 (r6.Framework.Places.map encTPlace))), (40, (.prow 3 (r6.Kinds.map encInt))), (28, (.prow 69 (r4.Framework.Graph.Bars.map encTBar))), (29, (.prow 88 (r4.Framework.Places.map encTPlace))), (30, (.prow 3 (r4.Kinds.map encInt)))] _ _ _ _ (w_laws_eqTensegrity r6 r4 r17 hr17) rfl cb19 (.cons (.agg (.cons (.same rfl) (.cons (.tloc rfl rfl) (.cons (.tloc rfl rfl) (.cons (.tloc rfl rfl) .nil))))) (.cons (.agg (.cons (.same rfl) (.cons (.tloc rfl rfl) (.cons (.tloc rfl rfl) (.cons (.tloc rfl rfl) .nil))))) .nil)) rfl rfl trivial) ⟨rfl, rfl, rfl, trivial⟩ ⟨rfl, rfl, rfl, rfl, rfl, rfl, trivial⟩ ⟨_, rfl, .inl ⟨_, rfl, (by rw [hb16]; rfl)⟩⟩ rfl ?_
            refine AOR.pure (LT.not rfl) ⟨rfl, trivial⟩ trivial ⟨_, rfl, .inl ⟨_, rfl, (by rw [hb16]; rfl)⟩⟩ rfl ?_
            refine AOR.pure (LT.pickF (v := (.s (.c (bC (!r17))))) rfl hb16) ⟨rfl, rfl, trivial⟩ trivial rfl rfl ?_
            refine AOR.nil ?_
            refine AWR.nil ⟨rfl, Ent.of ⟨rfl, rfl, rfl, rfl, trivial⟩ ⟨rfl, rfl, rfl, rfl, rfl, rfl, rfl, rfl, rfl, trivial⟩⟩
        · refine AWR.cond rfl (fun hc18 => ?_) (fun hc18 => ?_)
          · refine AWR.seq ?_
            refine AWR.region ?_
            refine AOR.pure (LT.assign (v := (.s (.c (bC false)))) rfl) ⟨⟨rfl, rfl⟩, trivial⟩ trivial rfl rfl ?_
            refine AOR.nil ?_
            refine AWR.ret (FPost.mk (.inr rfl) ⟨rfl, trivial⟩ trivial rfl ⟨PermP.sc, trivial⟩ trivial)
          · refine AWR.skip ?_
            refine AWR.seq ?_
            refine AWR.region ?_
            refine AOR.pure (LT.assign (v := (.s (.c (iC 1)))) rfl) ⟨⟨rfl, rfl⟩, trivial⟩ trivial rfl rfl ?_
            refine AOR.nil ?_
            refine AWR.seq ?_
            refine AWR.region ?_
            refine AOR.pure (LT.bloadN (out := [(iC r6.Framework.Graph.Points), (.loc 38 0 r6.Framework.Graph.Bars.length), (.loc 39 0 r6.Framework.Places.length), (.loc 40 0 r6.Kinds.length)]) rfl ag39 (infS inf39) sz39 (by exact rfl) (by exact rfl)) ⟨rfl, trivial⟩ ⟨rfl, trivial⟩ rfl rfl ?_
            refine AOR.pure (LT.move (v := (.s (.c (iC 1)))) rfl) ⟨rfl, trivial⟩ trivial rfl rfl ?_
            refine AOR.bind fun r19 hr19 => ?_
            refine AOR.step (@LT.callF Try.prog _ _ 20 _ _ [(.agg [(iC r6.Framework.Graph.Points), (.loc 38 0 r6.Framework.Graph.Bars.length), (.loc 39 0 r6.Framework.Places.length), (.loc 40 0 r6.Kinds.length)]), (.c (iC 1))] _ _ [] _ _ _ _ ((show Fw.Fn Try.prog 20 [(.agg [(iC r6.Framework.Graph.Points), (.loc 38 0 r6.Framework.Graph.Bars.length), (.loc 39 0 r6.Framework.Places.length), (.loc 40 0 r6.Kinds.length)]), (.c (iC 1))] [(38, (.prow 69 (r6.Framework.Graph.Bars.map encTBar))), (39, (.prow 88 (r6.Framework.Places.map encTPlace))), (40, (.prow 3 (r6.Kinds.map encInt)))] (.s (.c (iC r19.1))) [(38, (.prow 69 (r19.2.1.map encTBar))), (39, (.prow 88 (r19.2.2.1.map encTPlace))), (40, (.prow 3 (r19.2.2.2.map encInt)))] [38, 39, 40] [] from Fw.Fn.ren [(0, 38), (1, 39), (2, 40)] (w_laws_markTensegrity r6 1 r19 hr19) rfl)) rfl cb20 (.cons (.agg (.cons (.same rfl) (.cons (.same rfl) (.cons (.same rfl) (.cons (.same rfl) .nil))))) (.cons (.c (.same rfl)) .nil)) rfl rfl ⟨rfl, rfl, rfl, trivial⟩) ⟨rfl, rfl, rfl, trivial⟩ ⟨rfl, rfl, rfl, trivial⟩ rfl rfl ?_
            refine AOR.pure (LT.assign (v := (.s (.c (iC r19.1)))) rfl) ⟨rfl, trivial⟩ trivial rfl rfl ?_
            refine AOR.nil ?_
            refine AWR.seq ?_
            refine AWR.region ?_
            refine AOR.pure (LT.assign (v := (.s (.c (iC 1)))) rfl) ⟨⟨rfl, rfl⟩, trivial⟩ trivial rfl rfl ?_
            refine AOR.nil ?_
            refine AWR.seq ?_
            refine AWR.region ?_
            refine AOR.pure (LT.bloadN (out := [(iC r6.Framework.Graph.Points), (.loc 38 0 r6.Framework.Graph.Bars.length), (.loc 39 0 r6.Framework.Places.length), (.loc 40 0 r6.Kinds.length)]) rfl ag39 (infS inf39) sz39 (by exact rfl) (by exact rfl)) ⟨rfl, trivial⟩ ⟨rfl, trivial⟩ rfl rfl ?_
            refine AOR.pure (LT.move (v := (.s (.c (iC 1)))) rfl) ⟨rfl, trivial⟩ trivial rfl rfl ?_
            refine AOR.bind fun u20 hu20 => ?_
            refine AOR.bind fun u21 hu21 => ?_
            refine AOR.bind fun u22 hu22 => ?_
            refine AOR.bind fun r23 hr23 => ?_
            refine AOR.pure (@LT.callF Try.prog _ _ 21 _ _ [(.agg [(iC r6.Framework.Graph.Points), (.loc 38 0 r6.Framework.Graph.Bars.length), (.loc 39 0 r6.Framework.Places.length), (.loc 40 0 r6.Kinds.length)]), (.c (iC 1))] _ _ [(38, (.prow 69 (r19.2.1.map encTBar))), (39, (.prow 88 (r19.2.2.1.map encTPlace))), (40, (.prow 3 (r19.2.2.2.map encInt)))] _ _ _ _ (w_laws_heldTensegrity (TTensegrity.mk (TFramework.mk (TGraph.mk r6.Framework.Graph.Points r19.2.1) r19.2.2.1) r19.2.2.2) 1 r23 hr23) rfl cb21 (.cons (.agg (.cons (.same rfl) (.cons (.tloc (same_eq hu20) rfl) (.cons (.tloc (same_eq hu21) rfl) (.cons (.tloc (same_eq hu22) rfl) .nil))))) (.cons (.c (.same rfl)) .nil)) rfl rfl trivial) ⟨rfl, rfl, rfl, trivial⟩ ⟨rfl, rfl, rfl, trivial⟩ rfl rfl ?_
            refine AOR.pure (LT.assign (v := (.s (.c (iC r23)))) rfl) ⟨rfl, trivial⟩ trivial rfl rfl ?_
            refine AOR.nil ?_
            refine AWR.seq ?_
            refine AWR.seq ?_
            refine AWR.ent (Ent.of (σ' := [(1, (.s (.c (.pl 21 0)))), (4, (.s (.c (.pl 31 0)))), (6, (.s (.c (.pl 41 0)))), (8, (.s (.c (iC r19.1)))), (9, (.s (.c (iC r23))))]) (m' := [(21, (.row 30 [[(iC aT.Framework.Graph.Points), (.pv (.xs false (aT.Framework.Graph.Bars.map encTBar))), (.pv (.xs false (aT.Framework.Places.map encTPlace))), (.pv (.xs false (aT.Kinds.map encInt)))]])), (28, (.prow 69 (r4.Framework.Graph.Bars.map encTBar))), (29, (.prow 88 (r4.Framework.Places.map encTPlace))), (30, (.prow 3 (r4.Kinds.map encInt))), (31, (.row 39 [[(iC r4.Framework.Graph.Points), (.loc 28 0 r4.Framework.Graph.Bars.length), (.loc 29 0 r4.Framework.Places.length), (.loc 30 0 r4.Kinds.length)]])), (38, (.prow 69 (r19.2.1.map encTBar))), (39, (.prow 88 (r19.2.2.1.map encTPlace))), (40, (.prow 3 (r19.2.2.2.map encInt))), (41, (.row 39 [[(iC r6.Framework.Graph.Points), (.loc 38 0 r6.Framework.Graph.Bars.length), (.loc 39 0 r6.Framework.Places.length), (.loc 40 0 r6.Kinds.length)]]))]) ⟨rfl, rfl, rfl, rfl, rfl, trivial⟩ ⟨rfl, rfl, rfl, rfl, rfl, rfl, rfl, rfl, rfl, trivial⟩) ?_
            refine AWR.region ?_
            refine AOR.pure (LT.move (v := (.s (.c (iC r23)))) rfl) ⟨rfl, trivial⟩ trivial rfl rfl ?_
            refine AOR.pure (LT.lss rfl) ⟨rfl, ⟨rfl, rfl⟩, trivial⟩ trivial rfl rfl ?_
            refine AOR.nil ?_
            refine AWR.cond rfl (fun hc24 => ?_) (fun hc24 => ?_)
            · refine AWR.seq ?_
              refine AWR.region ?_
              refine AOR.pure (LT.assign (v := (.s (.c (bC false)))) rfl) ⟨⟨rfl, rfl⟩, trivial⟩ trivial rfl rfl ?_
              refine AOR.nil ?_
              refine AWR.ret (FPost.mk (.inr rfl) ⟨rfl, trivial⟩ trivial rfl ⟨PermP.sc, trivial⟩ trivial)
            · refine AWR.skip ?_
              refine AWR.seq ?_
              refine AWR.seq ?_
              refine AWR.region ?_
              refine AOR.pure (LT.move (v := (.s (.c (iC r23)))) rfl) ⟨rfl, trivial⟩ trivial rfl rfl ?_
              refine AOR.pure (LT.move (v := (.s (.c (iC r19.1)))) rfl) ⟨rfl, trivial⟩ trivial rfl rfl ?_
              refine AOR.pure (LT.neq rfl) ⟨rfl, rfl, trivial⟩ trivial rfl rfl ?_
              refine AOR.nil ?_
              refine AWR.cond rfl (fun hc25 => ?_) (fun hc25 => ?_)
              · refine AWR.seq ?_
                refine AWR.region ?_
                refine AOR.pure (LT.assign (v := (.s (.c (bC false)))) rfl) ⟨⟨rfl, rfl⟩, trivial⟩ trivial rfl rfl ?_
                refine AOR.nil ?_
                refine AWR.ret (FPost.mk (.inr rfl) ⟨rfl, trivial⟩ trivial rfl ⟨PermP.sc, trivial⟩ trivial)
              · refine AWR.skip ?_
                refine AWR.seq ?_
                refine AWR.region ?_
                refine AOR.pure (LT.bloadN (out := [(iC aT.Framework.Graph.Points), (.pv (.xs false (aT.Framework.Graph.Bars.map encTBar))), (.pv (.xs false (aT.Framework.Places.map encTPlace))), (.pv (.xs false (aT.Kinds.map encInt)))]) rfl ag30 (infS inf30) sz30 (by exact rfl) (by exact rfl)) ⟨rfl, trivial⟩ ⟨rfl, trivial⟩ rfl rfl ?_
                refine AOR.bind fun r26 hr26 => ?_
                refine AOR.step (@LT.callF Try.prog _ _ 17 _ _ [(.agg [(iC aT.Framework.Graph.Points), (.pv (.xs false (aT.Framework.Graph.Bars.map encTBar))), (.pv (.xs false (aT.Framework.Places.map encTPlace))), (.pv (.xs false (aT.Kinds.map encInt)))])] _ _ [] _ _ _ _ ((show Fw.Fn Try.prog 17 [(.agg [(iC aT.Framework.Graph.Points), (.pv (.xs false (aT.Framework.Graph.Bars.map encTBar))), (.pv (.xs false (aT.Framework.Places.map encTPlace))), (.pv (.xs false (aT.Kinds.map encInt)))])] [] (.s (.agg [(iC r26.Framework.Graph.Points), (.loc 53 0 r26.Framework.Graph.Bars.length), (.loc 54 0 r26.Framework.Places.length), (.loc 55 0 r26.Kinds.length)])) [(53, (.prow 69 (r26.Framework.Graph.Bars.map encTBar))), (54, (.prow 88 (r26.Framework.Places.map encTPlace))), (55, (.prow 3 (r26.Kinds.map encInt)))] [] [53, 54, 55] from Fw.Fn.ren [(0, 53), (1, 54), (2, 55)] (w_laws_toTensegrity aT r26 hr26) rfl)) rfl cb17 (.cons (.agg (.cons (.same rfl) (.cons (.same rfl) (.cons (.same rfl) (.cons (.same rfl) .nil))))) .nil) rfl rfl trivial) ⟨rfl, rfl, trivial⟩ trivial rfl rfl ?_
                refine AOR.bind fun r27 hr27 => ?_
                refine AOR.step (@LT.callF Try.prog _ _ 18 _ _ [(.agg [(iC r26.Framework.Graph.Points), (.loc 53 0 r26.Framework.Graph.Bars.length), (.loc 54 0 r26.Framework.Places.length), (.loc 55 0 r26.Kinds.length)])] _ _ [(53, (.prow 69 (r26.Framework.Graph.Bars.map encTBar))), (54, (.prow 88 (r26.Framework.Places.map encTPlace))), (55, (.prow 3 (r26.Kinds.map encInt)))] _ _ _ _ ((show Fw.Fn Try.prog 18 [(.agg [(iC r26.Framework.Graph.Points), (.pv (.xs false (r26.Framework.Graph.Bars.map encTBar))), (.pv (.xs false (r26.Framework.Places.map encTPlace))), (.pv (.xs false (r26.Kinds.map encInt)))])] [] (.s (.agg [(iC r27.Framework.Graph.Points), (.loc 57 0 r27.Framework.Graph.Bars.length), (.loc 58 0 r27.Framework.Places.length), (.loc 59 0 r27.Kinds.length)])) [(57, (.prow 69 (r27.Framework.Graph.Bars.map encTBar))), (58, (.prow 88 (r27.Framework.Places.map encTPlace))), (59, (.prow 3 (r27.Kinds.map encInt)))] [] [57, 58, 59] from Fw.Fn.ren [(0, 57), (1, 58), (2, 59)] (w_impl_SwapKinds r26 r27 hr27) rfl)) rfl cb18 (.cons (.agg (.cons (.same rfl) (.cons (.tloc rfl rfl) (.cons (.tloc rfl rfl) (.cons (.tloc rfl rfl) .nil))))) .nil) rfl rfl trivial) ⟨rfl, rfl, trivial⟩ ⟨rfl, rfl, rfl, trivial⟩ rfl rfl ?_
                refine AOR.step (LT.alloc (n := 60) (cells := [(iC 0), (sC nilV), (sC nilV), (sC nilV)]) rfl ti39 rfl rfl rfl) trivial trivial rfl rfl ?_
                refine AOR.step (LT.bstore (v := (.agg [(iC r27.Framework.Graph.Points), (.loc 57 0 r27.Framework.Graph.Bars.length), (.loc 58 0 r27.Framework.Places.length), (.loc 59 0 r27.Kinds.length)])) (out := [(iC r27.Framework.Graph.Points), (.loc 57 0 r27.Framework.Graph.Bars.length), (.loc 58 0 r27.Framework.Places.length), (.loc 59 0 r27.Kinds.length)]) rfl rfl (infS inf39) sz39 (by exact rfl) (by exact Nat.le_of_ble_eq_true rfl) (by exact rfl)) ⟨rfl, rfl, trivial⟩ ⟨rfl, trivial⟩ rfl rfl ?_
                refine AOR.nil ?_
                refine AWR.seq ?_
                refine AWR.seq ?_
                refine AWR.ent (Ent.of (σ' := [(4, (.s (.c (.pl 31 0)))), (6, (.s (.c (.pl 41 0)))), (8, (.s (.c (iC r19.1)))), (10, (.s (.c (.pl 60 0))))]) (m' := [(28, (.prow 69 (r4.Framework.Graph.Bars.map encTBar))), (29, (.prow 88 (r4.Framework.Places.map encTPlace))), (30, (.prow 3 (r4.Kinds.map encInt))), (31, (.row 39 [[(iC r4.Framework.Graph.Points), (.loc 28 0 r4.Framework.Graph.Bars.length), (.loc 29 0 r4.Framework.Places.length), (.loc 30 0 r4.Kinds.length)]])), (38, (.prow 69 (r19.2.1.map encTBar))), (39, (.prow 88 (r19.2.2.1.map encTPlace))), (40, (.prow 3 (r19.2.2.2.map encInt))), (41, (.row 39 [[(iC r6.Framework.Graph.Points), (.loc 38 0 r6.Framework.Graph.Bars.length), (.loc 39 0 r6.Framework.Places.length), (.loc 40 0 r6.Kinds.length)]])), (57, (.prow 69 (r27.Framework.Graph.Bars.map encTBar))), (58, (.prow 88 (r27.Framework.Places.map encTPlace))), (59, (.prow 3 (r27.Kinds.map encInt))), (60, (.row 39 [[(iC r27.Framework.Graph.Points), (.loc 57 0 r27.Framework.Graph.Bars.length), (.loc 58 0 r27.Framework.Places.length), (.loc 59 0 r27.Kinds.length)]]))]) ⟨rfl, rfl, rfl, rfl, trivial⟩ ⟨rfl, rfl, rfl, rfl, rfl, rfl, rfl, rfl, rfl, rfl, rfl, rfl, trivial⟩) ?_
                refine AWR.region ?_
                refine AOR.pure (LT.bloadN (out := [(iC r27.Framework.Graph.Points), (.loc 57 0 r27.Framework.Graph.Bars.length), (.loc 58 0 r27.Framework.Places.length), (.loc 59 0 r27.Kinds.length)]) rfl ag39 (infS inf39) sz39 (by exact rfl) (by exact rfl)) ⟨rfl, trivial⟩ ⟨rfl, trivial⟩ rfl rfl ?_
                refine AOR.pure (LT.bloadN (out := [(iC r4.Framework.Graph.Points), (.loc 28 0 r4.Framework.Graph.Bars.length), (.loc 29 0 r4.Framework.Places.length), (.loc 30 0 r4.Kinds.length)]) rfl ag39 (infS inf39) sz39 (by exact rfl) (by exact rfl)) ⟨rfl, trivial⟩ ⟨rfl, trivial⟩ rfl rfl ?_
                refine AOR.bind fun r28 hr28 => ?_
                refine AOR.pure (@LT.callF Try.prog _ _ 19 _ _ [(.agg [(iC r27.Framework.Graph.Points), (.loc 57 0 r27.Framework.Graph.Bars.length), (.loc 58 0 r27.Framework.Places.length), (.loc 59 0 r27.Kinds.length)]), (.agg [(iC r4.Framework.Graph.Points), (.loc 28 0 r4.Framework.Graph.Bars.length), (.loc 29 0 r4.Framework.Places.length), (.loc 30 0 r4.Kinds.length)])] _ _ [(57, (.prow 69 (r27.Framework.Graph.Bars.map encTBar))), (58, (.prow 88 (r27.Framework.Places.map encTPlace))), (59, (.prow 3 (r27.Kinds.map encInt))), (28, (.prow 69 (r4.Framework.Graph.Bars.map encTBar))), (29, (.prow 88 (r4.Framework.Places.map encTPlace))), (30, (.prow 3 (r4.Kinds.map encInt)))] _ _ _ _ (w_laws_eqTensegrity r27 r4 r28 hr28) rfl cb19 (.cons (.agg (.cons (.same rfl) (.cons (.tloc rfl rfl) (.cons (.tloc rfl rfl) (.cons (.tloc rfl rfl) .nil))))) (.cons (.agg (.cons (.same rfl) (.cons (.tloc rfl rfl) (.cons (.tloc rfl rfl) (.cons (.tloc rfl rfl) .nil))))) .nil)) rfl rfl trivial) ⟨rfl, rfl, rfl, trivial⟩ ⟨rfl, rfl, rfl, rfl, rfl, rfl, trivial⟩ rfl rfl ?_
                refine AOR.pure (LT.not rfl) ⟨rfl, trivial⟩ trivial rfl rfl ?_
                refine AOR.nil ?_
                refine AWR.cond rfl (fun hc29 => ?_) (fun hc29 => ?_)
                · refine AWR.seq ?_
                  refine AWR.region ?_
                  refine AOR.pure (LT.assign (v := (.s (.c (bC false)))) rfl) ⟨⟨rfl, rfl⟩, trivial⟩ trivial rfl rfl ?_
                  refine AOR.nil ?_
                  refine AWR.ret (FPost.mk (.inr rfl) ⟨rfl, trivial⟩ trivial rfl ⟨PermP.sc, trivial⟩ trivial)
                · refine AWR.skip ?_
                  refine AWR.seq ?_
                  refine AWR.region ?_
                  refine AOR.pure (LT.assign (v := (.s (.c (iC 1)))) rfl) ⟨⟨rfl, rfl⟩, trivial⟩ trivial rfl rfl ?_
                  refine AOR.nil ?_
                  refine AWR.seq ?_
                  refine AWR.region ?_
                  refine AOR.pure (LT.bloadN (out := [(iC r6.Framework.Graph.Points), (.loc 38 0 r6.Framework.Graph.Bars.length), (.loc 39 0 r6.Framework.Places.length), (.loc 40 0 r6.Kinds.length)]) rfl ag39 (infS inf39) sz39 (by exact rfl) (by exact rfl)) ⟨rfl, trivial⟩ ⟨rfl, trivial⟩ rfl rfl ?_
                  refine AOR.pure (LT.move (v := (.s (.c (iC 1)))) rfl) ⟨rfl, trivial⟩ trivial rfl rfl ?_
                  refine AOR.bind fun u30 hu30 => ?_
                  refine AOR.bind fun u31 hu31 => ?_
                  refine AOR.bind fun u32 hu32 => ?_
                  refine AOR.bind fun r33 hr33 => ?_
                  refine AOR.pure (@LT.callF Try.prog _ _ 21 _ _ [(.agg [(iC r6.Framework.Graph.Points), (.loc 38 0 r6.Framework.Graph.Bars.length), (.loc 39 0 r6.Framework.Places.length), (.loc 40 0 r6.Kinds.length)]), (.c (iC 1))] _ _ [(38, (.prow 69 (r19.2.1.map encTBar))), (39, (.prow 88 (r19.2.2.1.map encTPlace))), (40, (.prow 3 (r19.2.2.2.map encInt)))] _ _ _ _ (w_laws_heldTensegrity (TTensegrity.mk (TFramework.mk (TGraph.mk r6.Framework.Graph.Points r19.2.1) r19.2.2.1) r19.2.2.2) 1 r33 hr33) rfl cb21 (.cons (.agg (.cons (.same rfl) (.cons (.tloc (same_eq hu30) rfl) (.cons (.tloc (same_eq hu31) rfl) (.cons (.tloc (same_eq hu32) rfl) .nil))))) (.cons (.c (.same rfl)) .nil)) rfl rfl trivial) ⟨rfl, rfl, rfl, trivial⟩ ⟨rfl, rfl, rfl, trivial⟩ rfl rfl ?_
                  refine AOR.pure (LT.assign (v := (.s (.c (iC r33)))) rfl) ⟨rfl, trivial⟩ trivial rfl rfl ?_
                  refine AOR.nil ?_
                  refine AWR.seq ?_
                  refine AWR.seq ?_
                  refine AWR.region ?_
                  refine AOR.pure (LT.move (v := (.s (.c (iC r33)))) rfl) ⟨rfl, trivial⟩ trivial rfl rfl ?_
                  refine AOR.pure (LT.lss rfl) ⟨rfl, ⟨rfl, rfl⟩, trivial⟩ trivial rfl rfl ?_
                  refine AOR.nil ?_
                  refine AWR.cond rfl (fun hc34 => ?_) (fun hc34 => ?_)
                  · refine AWR.seq ?_
                    refine AWR.ent (Ent.of (σ' := []) (m' := []) trivial trivial) ?_
                    refine AWR.region ?_
                    refine AOR.pure (LT.assign (v := (.s (.c (bC false)))) rfl) ⟨⟨rfl, rfl⟩, trivial⟩ trivial rfl rfl ?_
                    refine AOR.nil ?_
                    refine AWR.ret (FPost.mk (.inr rfl) ⟨rfl, trivial⟩ trivial rfl ⟨PermP.sc, trivial⟩ trivial)
                  · refine AWR.skip ?_
                    refine AWR.seq ?_
                    refine AWR.seq ?_
                    refine AWR.ent (Ent.of (σ' := [(8, (.s (.c (iC r19.1)))), (9, (.s (.c (iC r33))))]) (m' := []) ⟨rfl, rfl, trivial⟩ trivial) ?_
                    refine AWR.region ?_
                    refine AOR.pure (LT.move (v := (.s (.c (iC r33)))) rfl) ⟨rfl, trivial⟩ trivial rfl rfl ?_
                    refine AOR.pure (LT.move (v := (.s (.c (iC r19.1)))) rfl) ⟨rfl, trivial⟩ trivial rfl rfl ?_
                    refine AOR.pure (LT.neq rfl) ⟨rfl, rfl, trivial⟩ trivial rfl rfl ?_
                    refine AOR.nil ?_
                    refine AWR.cond rfl (fun hc35 => ?_) (fun hc35 => ?_)
                    · refine AWR.seq ?_
                      refine AWR.region ?_
                      refine AOR.pure (LT.assign (v := (.s (.c (bC false)))) rfl) ⟨⟨rfl, rfl⟩, trivial⟩ trivial rfl rfl ?_
                      refine AOR.nil ?_
                      refine AWR.ret (FPost.mk (.inr rfl) ⟨rfl, trivial⟩ trivial rfl ⟨PermP.sc, trivial⟩ trivial)
                    · refine AWR.skip ?_
                      refine AWR.seq ?_
                      refine AWR.region ?_
                      refine AOR.pure (LT.assign (v := (.s (.c (bC true)))) rfl) ⟨⟨rfl, rfl⟩, trivial⟩ trivial rfl rfl ?_
                      refine AOR.nil ?_
                      refine AWR.ret (FPost.mk (.inr rfl) ⟨rfl, trivial⟩ trivial rfl ⟨PermP.sc, trivial⟩ trivial)
end Go.Proofs.Ytoedmjkipecloaa
