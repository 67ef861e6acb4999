/- The code computes the models. Written by a program of mine. -/
import Derived.Test.YtfiiebikkimjbaaGenT
set_option linter.unusedVariables false
set_option linter.unusedSimpArgs false
set_option linter.unnecessarySimpa false
open Go Go.Fw
namespace Go.Proofs.Ytfiiebikkimjbaa
set_option maxRecDepth 100000 in
set_option maxHeartbeats 8000000 in
theorem w_laws_szBarS (a : (List TBar)) (leftV : Int) : ∀ t, m_laws_szBarS a leftV = some t → Fw.Fn Try.prog 93 [(.c (.pv (.xs false (a.map encTBar)))), (.c (iC leftV))] [] (.s (.c (iC t))) [] [] [] := by
  refine Fw.Fn.of (P := Try.prog) (X := []) (pn := []) (rs := (fun (t : Int) => [(.c (iC t))])) (dfs := (fun (t : Int) => [])) Try.func93 rfl Try.ntmps93 (Nat.le_of_ble_eq_true rfl) rfl ?_
  intro w0 U0 R0 g0
  unfold m_laws_szBarS
  refine AWR.seq ?_
  refine AWR.region ?_
  refine AOR.pure (LT.assign (v := (.s (.c (iC 0)))) rfl) ⟨⟨rfl, rfl⟩, trivial⟩ trivial rfl rfl ?_
  refine AOR.nil ?_
  refine AWR.seq ?_
  refine AWR.region ?_
  refine AOR.pure (LT.move (v := (.s (.c (iC leftV)))) rfl) ⟨rfl, trivial⟩ trivial rfl rfl ?_
  refine AOR.pure (LT.move (v := (.s (.c (.pv (.xs false (a.map encTBar)))))) rfl) ⟨rfl, trivial⟩ trivial rfl rfl ?_
  refine AOR.pure (LT.tlenRO rfl und22) ⟨rfl, trivial⟩ trivial rfl rfl ?_
  refine AOR.pure (LT.sub rfl) ⟨rfl, rfl, trivial⟩ trivial rfl rfl ?_
  refine AOR.pure (LT.assign (v := (.s (.c (iC (w64 (leftV - (a.length : Int))))))) rfl) ⟨rfl, trivial⟩ trivial rfl rfl ?_
  refine AOR.nil ?_
  refine AWR.seq ?_
  refine AWR.seq ?_
  refine AWR.region ?_
  refine AOR.pure (LT.move (v := (.s (.c (iC (w64 (leftV - (a.length : Int))))))) rfl) ⟨rfl, trivial⟩ trivial rfl rfl ?_
  refine AOR.pure (LT.lss rfl) ⟨rfl, ⟨rfl, rfl⟩, trivial⟩ trivial rfl rfl ?_
  refine AOR.nil ?_
  refine AWR.cond rfl (fun hc1 => ?_) (fun hc1 => ?_)
  · refine AWR.seq ?_
    refine AWR.region ?_
    refine AOR.pure (LT.assign (v := (.s (.c (iC (-1))))) rfl) ⟨⟨rfl, rfl⟩, trivial⟩ trivial rfl rfl ?_
    refine AOR.nil ?_
    refine AWR.ret (FPost.mk (.inr rfl) ⟨rfl, trivial⟩ trivial rfl ⟨PermP.sc, trivial⟩ trivial)
  · refine AWR.skip ?_
    refine AWR.seq ?_
    refine AWR.region ?_
    refine AOR.pure (LT.move (v := (.s (.c (iC (w64 (leftV - (a.length : Int))))))) rfl) ⟨rfl, trivial⟩ trivial rfl rfl ?_
    refine AOR.pure (LT.assign (v := (.s (.c (iC (w64 (leftV - (a.length : Int))))))) rfl) ⟨rfl, trivial⟩ trivial rfl rfl ?_
    refine AOR.nil ?_
    refine AWR.ret (FPost.mk (.inr rfl) ⟨rfl, trivial⟩ trivial rfl ⟨PermP.sc, trivial⟩ trivial)
set_option maxRecDepth 100000 in
set_option maxHeartbeats 8000000 in
theorem w_laws_szGraph (a : TGraph) (leftV : Int) : ∀ t, m_laws_szGraph a leftV = some t → Fw.Fn Try.prog 15 [(.agg [(iC a.Points), (.pv (.xs false (a.Bars.map encTBar)))]), (.c (iC leftV))] [] (.s (.c (iC t))) [] [] [] := by
  refine Fw.Fn.of (P := Try.prog) (X := []) (pn := []) (rs := (fun (t : Int) => [(.c (iC t))])) (dfs := (fun (t : Int) => [])) Try.func15 rfl Try.ntmps15 (Nat.le_of_ble_eq_true rfl) rfl ?_
  intro w0 U0 R0 g0
  unfold m_laws_szGraph
  refine AWR.seq ?_
  refine AWR.region ?_
  refine AOR.step (LT.box (n := 21) (v := (.agg [(iC a.Points), (.pv (.xs false (a.Bars.map encTBar)))])) rfl sz24 (by exact rfl)) ⟨rfl, trivial⟩ trivial rfl rfl ?_
  refine AOR.pure (LT.assign (v := (.s (.c (iC 0)))) rfl) ⟨⟨rfl, rfl⟩, trivial⟩ trivial rfl rfl ?_
  refine AOR.nil ?_
  refine AWR.seq ?_
  refine AWR.region ?_
  refine AOR.pure (LT.fieldPl rfl fo24_1) ⟨rfl, trivial⟩ trivial rfl rfl ?_
  refine AOR.pure (LT.bload1 (c := (.pv (.xs false (a.Bars.map encTBar)))) rfl ag22 (by exact rfl)) ⟨rfl, trivial⟩ ⟨rfl, trivial⟩ rfl rfl ?_
  refine AOR.pure (LT.move (v := (.s (.c (iC leftV)))) rfl) ⟨rfl, trivial⟩ trivial rfl rfl ?_
  refine AOR.bind fun r1 hr1 => ?_
  refine AOR.pure (@LT.callF Try.prog _ _ 93 _ _ [(.c (.pv (.xs false (a.Bars.map encTBar)))), (.c (iC leftV))] _ _ [] _ _ _ _ (w_laws_szBarS a.Bars leftV r1 hr1) rfl cb93 (.cons (.c (.same rfl)) (.cons (.c (.same rfl)) .nil)) rfl rfl trivial) ⟨rfl, rfl, rfl, trivial⟩ trivial rfl rfl ?_
  refine AOR.pure (LT.assign (v := (.s (.c (iC r1)))) rfl) ⟨rfl, trivial⟩ trivial rfl rfl ?_
  refine AOR.nil ?_
  refine AWR.seq ?_
  refine AWR.seq ?_
  refine AWR.region ?_
  refine AOR.pure (LT.move (v := (.s (.c (iC r1)))) rfl) ⟨rfl, trivial⟩ trivial rfl rfl ?_
  refine AOR.pure (LT.lss rfl) ⟨rfl, ⟨rfl, rfl⟩, trivial⟩ trivial rfl rfl ?_
  refine AOR.nil ?_
  refine AWR.cond rfl (fun hc2 => ?_) (fun hc2 => ?_)
  · refine AWR.seq ?_
    refine AWR.ent (Ent.of (σ' := []) (m' := []) trivial trivial) ?_
    refine AWR.region ?_
    refine AOR.pure (LT.assign (v := (.s (.c (iC (-1))))) rfl) ⟨⟨rfl, rfl⟩, trivial⟩ trivial rfl rfl ?_
    refine AOR.nil ?_
    refine AWR.ret (FPost.mk (.inr rfl) ⟨rfl, trivial⟩ trivial rfl ⟨PermP.sc, trivial⟩ trivial)
  · refine AWR.skip ?_
    refine AWR.seq ?_
    refine AWR.ent (Ent.of (σ' := [(1, (.s (.c (iC r1))))]) (m' := []) ⟨rfl, trivial⟩ trivial) ?_
    refine AWR.region ?_
    refine AOR.pure (LT.move (v := (.s (.c (iC r1)))) rfl) ⟨rfl, trivial⟩ trivial rfl rfl ?_
    refine AOR.pure (LT.assign (v := (.s (.c (iC r1)))) rfl) ⟨rfl, trivial⟩ trivial rfl rfl ?_
    refine AOR.nil ?_
    refine AWR.ret (FPost.mk (.inr rfl) ⟨rfl, trivial⟩ trivial rfl ⟨PermP.sc, trivial⟩ trivial)
set_option maxRecDepth 100000 in
set_option maxHeartbeats 8000000 in
theorem w_laws_toBar (a : TBar) : ∀ t, m_laws_toBar a = some t → Fw.Fn Try.prog 170 [(.agg [(iC a.A), (iC a.B)])] [] (.s (.agg [(iC t.A), (iC t.B)])) [] [] [] := by
  refine Fw.Fn.of (P := Try.prog) (X := []) (pn := []) (rs := (fun (t : TBar) => [(.agg [(iC t.A), (iC t.B)])])) (dfs := (fun (t : TBar) => [])) Try.func170 rfl Try.ntmps170 (Nat.le_of_ble_eq_true rfl) rfl ?_
  intro w0 U0 R0 g0
  unfold m_laws_toBar
  refine AWR.seq ?_
  refine AWR.region ?_
  refine AOR.step (LT.box (n := 21) (v := (.agg [(iC a.A), (iC a.B)])) rfl sz132 (by exact rfl)) ⟨rfl, trivial⟩ trivial rfl rfl ?_
  refine AOR.step (LT.alloc (n := 22) (cells := [(iC 0), (iC 0)]) rfl ti88 rfl rfl rfl) trivial trivial rfl rfl ?_
  refine AOR.nil ?_
  refine AWR.seq ?_
  refine AWR.region ?_
  refine AOR.step (LT.alloc (n := 23) (cells := [(iC 0), (iC 0)]) rfl ti88 rfl rfl rfl) trivial trivial rfl rfl ?_
  refine AOR.nil ?_
  refine AWR.seq ?_
  refine AWR.region ?_
  refine AOR.pure (LT.fieldPl rfl fo132_0) ⟨rfl, trivial⟩ trivial rfl rfl ?_
  refine AOR.pure (LT.bload1 (c := (iC a.A)) rfl ag3 (by exact rfl)) ⟨rfl, trivial⟩ ⟨rfl, trivial⟩ rfl rfl ?_
  refine AOR.pure (LT.fieldPl rfl fo88_0) ⟨rfl, trivial⟩ trivial rfl rfl ?_
  refine AOR.step (LT.bstore (v := (.c (iC a.A))) (out := [(iC a.A), (iC 0)]) rfl rfl (infS inf3) sz3 (by exact rfl) (by exact Nat.le_of_ble_eq_true rfl) (by exact rfl)) ⟨rfl, rfl, trivial⟩ ⟨rfl, trivial⟩ rfl rfl ?_
  refine AOR.nil ?_
  refine AWR.seq ?_
  refine AWR.ent (Ent.of (σ' := [(1, (.s (.c (.pl 21 0)))), (2, (.s (.c (.pl 22 0)))), (3, (.s (.c (.pl 23 0))))]) (m' := [(21, (.row 132 [[(iC a.A), (iC a.B)]])), (22, (.row 88 [[(iC 0), (iC 0)]])), (23, (.row 88 [[(iC a.A), (iC 0)]]))]) ⟨rfl, rfl, rfl, trivial⟩ ⟨rfl, rfl, rfl, trivial⟩) ?_
  refine AWR.region ?_
  refine AOR.pure (LT.fieldPl rfl fo132_1) ⟨rfl, trivial⟩ trivial rfl rfl ?_
  refine AOR.pure (LT.bload1 (c := (iC a.B)) rfl ag3 (by exact rfl)) ⟨rfl, trivial⟩ ⟨rfl, trivial⟩ rfl rfl ?_
  refine AOR.pure (LT.fieldPl rfl fo88_1) ⟨rfl, trivial⟩ trivial rfl rfl ?_
  refine AOR.step (LT.bstore (v := (.c (iC a.B))) (out := [(iC a.A), (iC a.B)]) rfl rfl (infS inf3) sz3 (by exact rfl) (by exact Nat.le_of_ble_eq_true rfl) (by exact rfl)) ⟨rfl, rfl, trivial⟩ ⟨rfl, trivial⟩ rfl rfl ?_
  refine AOR.nil ?_
  refine AWR.seq ?_
  refine AWR.region ?_
  refine AOR.pure (LT.bloadN (out := [(iC a.A), (iC a.B)]) rfl ag88 (infS inf88) sz88 (by exact rfl) (by exact rfl)) ⟨rfl, trivial⟩ ⟨rfl, trivial⟩ rfl rfl ?_
  refine AOR.step (LT.bstore (v := (.agg [(iC a.A), (iC a.B)])) (out := [(iC a.A), (iC a.B)]) rfl rfl (infS inf88) sz88 (by exact rfl) (by exact Nat.le_of_ble_eq_true rfl) (by exact rfl)) ⟨rfl, rfl, trivial⟩ ⟨rfl, trivial⟩ rfl rfl ?_
  refine AOR.nil ?_
  refine AWR.ret (FPost.mk (.inr rfl) ⟨⟨_, _, _, rfl, rfl, rfl, ag88, sz88, _, (infS inf88)⟩, trivial⟩ trivial rfl ⟨⟨PermP.sc, PermP.sc, trivial⟩, trivial⟩ trivial)
set_option maxRecDepth 100000 in
set_option maxHeartbeats 8000000 in
theorem w_laws_toBarS (a : (List TBar)) : ∀ t, m_laws_toBarS a = some t → Fw.Fn Try.prog 99 [(.c (.pv (.xs false (a.map encTBar))))] [] (.s (.c (.loc 0 0 t.length))) [(0, (.prow 88 (t.map encTBar)))] [] [0] := by
  refine Fw.Fn.of (P := Try.prog) (X := [0]) (pn := []) (rs := (fun (t : (List TBar)) => [(.c (.loc 0 0 t.length))])) (dfs := (fun (t : (List TBar)) => [(0, (.prow 88 (t.map encTBar)))])) Try.func99 rfl Try.ntmps99 (Nat.le_of_ble_eq_true rfl) rfl ?_
  intro w0 U0 R0 g0
  unfold m_laws_toBarS
  refine AWR.seq ?_
  refine AWR.region ?_
  refine AOR.pure (LT.assign (v := (.s (.c (sC nilV)))) rfl) ⟨⟨rfl, rfl⟩, trivial⟩ trivial rfl rfl ?_
  refine AOR.nil ?_
  refine AWR.seq ?_
  refine AWR.region ?_
  refine AOR.pure (LT.move (v := (.s (.c (.pv (.xs false (a.map encTBar)))))) rfl) ⟨rfl, trivial⟩ trivial rfl rfl ?_
  refine AOR.pure (LT.tlenRO rfl und22) ⟨rfl, trivial⟩ trivial rfl rfl ?_
  refine AOR.bind fun u1 hu1 => ?_
  refine AOR.step (LT.tmake (n := 21) (enc := encTBar) (zc := [(iC 0), (iC 0)]) (TBar.mk (0 : Int) (0 : Int)) rfl und28 ti88 rfl rfl rfl (by decide) (by decide) (lenOk_le hu1) rfl) ⟨rfl, rfl, trivial⟩ trivial rfl rfl ?_
  refine AOR.pure (LT.assign (v := (.s (.c (.loc 21 0 (List.replicate (a.length : Int).toNat (TBar.mk (0 : Int) (0 : Int))).length)))) rfl) ⟨rfl, trivial⟩ trivial rfl rfl ?_
  refine AOR.nil ?_
  refine AWR.seq ?_
  refine AWR.seq ?_
  refine AWR.region ?_
  refine AOR.pure (LT.assign (v := (.s (.c (iC 0)))) rfl) ⟨⟨rfl, rfl⟩, trivial⟩ trivial rfl rfl ?_
  refine AOR.nil ?_
  refine AWR.block ?_
  refine AWR.loop1 (id := 0) (m_laws_toBarS_L1 a) (fun s2 => ([(0, (.s (.c (.pv (.xs false (a.map encTBar)))))), (3, (.s (.c (.loc 21 0 s2.2.length)))), (4, (.s (.c (iC s2.1))))], [(21, (.prow 88 (s2.2.map encTBar)))])) (fun b11 => ([(3, (.s (.c (.loc 21 0 b11.length))))], [(21, (.prow 88 (b11.map encTBar)))])) ?_ (Ent.of ⟨rfl, rfl, rfl, trivial⟩ ⟨rfl, trivial⟩) rfl (fun b11 _ => ?_)
  · intro s2
    unfold m_laws_toBarS_L1
    refine AWR.seq ?_
    refine AWR.seq ?_
    refine AWR.region ?_
    refine AOR.pure (LT.move (v := (.s (.c (iC s2.1)))) rfl) ⟨rfl, trivial⟩ trivial rfl rfl ?_
    refine AOR.pure (LT.move (v := (.s (.c (.pv (.xs false (a.map encTBar)))))) rfl) ⟨rfl, trivial⟩ trivial rfl rfl ?_
    refine AOR.pure (LT.tlenRO rfl und22) ⟨rfl, trivial⟩ trivial rfl rfl ?_
    refine AOR.pure (LT.lss rfl) ⟨rfl, rfl, trivial⟩ trivial rfl rfl ?_
    refine AOR.nil ?_
    refine AWR.cond rfl (fun hc12 => ?_) (fun hc12 => ?_)
    · refine AWR.skip ?_
      refine AWR.seq ?_
      refine AWR.block ?_
      refine AWR.region ?_
      refine AOR.pure (LT.move (v := (.s (.c (.loc 21 0 s2.2.length)))) rfl) ⟨rfl, trivial⟩ trivial rfl rfl ?_
      refine AOR.pure (LT.move (v := (.s (.c (iC s2.1)))) rfl) ⟨rfl, trivial⟩ trivial rfl rfl ?_
      refine AOR.pure (LT.move (v := (.s (.c (.pv (.xs false (a.map encTBar)))))) rfl) ⟨rfl, trivial⟩ trivial rfl rfl ?_
      refine AOR.pure (LT.move (v := (.s (.c (iC s2.1)))) rfl) ⟨rfl, trivial⟩ trivial rfl rfl ?_
      refine AOR.bind fun x13 hx13 => ?_
      refine AOR.pure (LT.tindexRO (enc := encTBar) rfl el22 hx13 sz132) ⟨rfl, rfl, trivial⟩ trivial rfl rfl ?_
      refine AOR.pure (LT.loadPxN rfl ag132 (infS inf132) (by exact sz132.symm)) ⟨rfl, trivial⟩ trivial rfl rfl ?_
      refine AOR.bind fun r14 hr14 => ?_
      refine AOR.pure (@LT.callF Try.prog _ _ 170 _ _ [(.agg [(iC x13.A), (iC x13.B)])] _ _ [] _ _ _ _ (w_laws_toBar x13 r14 hr14) rfl cb170 (.cons (.agg (.cons (.same rfl) (.cons (.same rfl) .nil))) .nil) rfl rfl trivial) ⟨rfl, rfl, trivial⟩ trivial rfl rfl ?_
      refine AOR.bind fun x15 hx15 => ?_
      refine AOR.pure (LT.tindexLoc rfl rfl el28 hx15) ⟨rfl, rfl, trivial⟩ ⟨rfl, trivial⟩ rfl rfl ?_
      refine AOR.step (LT.tstore (k := 0) (v := (.agg [(iC r14.A), (iC r14.B)])) (b' := r14) rfl rfl (infS inf88) sz88 (by exact rfl) hx15 (by exact rfl) (by exact Nat.le_of_ble_eq_true rfl) (by exact rfl)) ⟨rfl, rfl, trivial⟩ ⟨rfl, trivial⟩ rfl rfl ?_
      refine AOR.nil ?_
      refine AWR.blk ?_
      refine AWR.ent (Ent.of (σ' := [(0, (.s (.c (.pv (.xs false (a.map encTBar)))))), (3, (.s (.c (.loc 21 0 s2.2.length)))), (4, (.s (.c (iC s2.1))))]) (m' := [(21, (.prow 88 ((s2.2.set s2.1.toNat r14).map encTBar)))]) ⟨rfl, rfl, rfl, trivial⟩ ⟨rfl, trivial⟩) ?_
      refine AWR.region ?_
      refine AOR.pure (LT.move (v := (.s (.c (iC s2.1)))) rfl) ⟨rfl, trivial⟩ trivial rfl rfl ?_
      refine AOR.pure (LT.add rfl) ⟨rfl, ⟨rfl, rfl⟩, trivial⟩ trivial rfl rfl ?_
      refine AOR.pure (LT.assign (v := (.s (.c (iC (w64 (s2.1 + 1)))))) rfl) ⟨rfl, trivial⟩ trivial rfl rfl ?_
      refine AOR.nil ?_
      refine AWR.nil ⟨rfl, Ent.of ⟨rfl, (congrArg (fun l1 => (some (AV.s (.c (.loc 21 0 l1))) : Option AV)) (show s2.2.length = (s2.2.set s2.1.toNat r14).length by simp only [List.length_set])), rfl, trivial⟩ ⟨rfl, trivial⟩⟩
    · refine AWR.exit_end rfl ⟨rfl, Ent.of ⟨rfl, trivial⟩ ⟨rfl, trivial⟩⟩
  · refine AWR.seq ?_
    refine AWR.region ?_
    refine AOR.pure (LT.move (v := (.s (.c (.loc 21 0 b11.length)))) rfl) ⟨rfl, trivial⟩ trivial rfl rfl ?_
    refine AOR.pure (LT.assign (v := (.s (.c (.loc 21 0 b11.length)))) rfl) ⟨rfl, trivial⟩ trivial rfl rfl ?_
    refine AOR.nil ?_
    refine AWR.ent (Ent.of (σ' := [(2, (.s (.c (.loc 21 0 b11.length))))]) (m' := [(21, (.prow 88 (b11.map encTBar)))]) ⟨rfl, trivial⟩ ⟨rfl, trivial⟩) ?_
    refine AWR.ent (Ent.mv 21 0 rfl rfl) ?_
    refine AWR.ent (Ent.of (σ' := [(2, (.s (.c (.loc 0 0 b11.length))))]) (m' := [(0, (.prow 88 (b11.map encTBar)))]) ⟨rfl, trivial⟩ ⟨rfl, trivial⟩) ?_
    refine AWR.ret (FPost.mk (.inr rfl) ⟨rfl, trivial⟩ ⟨rfl, trivial⟩ rfl ⟨trivial, trivial⟩ ⟨PermO.prow' perm_encTBar, trivial⟩)
set_option maxRecDepth 100000 in
set_option maxHeartbeats 8000000 in
theorem w_laws_toGraph (a : TGraph) : ∀ t, m_laws_toGraph a = some t → Fw.Fn Try.prog 17 [(.agg [(iC a.Points), (.pv (.xs false (a.Bars.map encTBar)))])] [] (.s (.agg [(iC t.Points), (.loc 0 0 t.Bars.length)])) [(0, (.prow 88 (t.Bars.map encTBar)))] [] [0] := by
  refine Fw.Fn.of (P := Try.prog) (X := [0]) (pn := []) (rs := (fun (t : TGraph) => [(.agg [(iC t.Points), (.loc 0 0 t.Bars.length)])])) (dfs := (fun (t : TGraph) => [(0, (.prow 88 (t.Bars.map encTBar)))])) Try.func17 rfl Try.ntmps17 (Nat.le_of_ble_eq_true rfl) rfl ?_
  intro w0 U0 R0 g0
  unfold m_laws_toGraph
  refine AWR.seq ?_
  refine AWR.region ?_
  refine AOR.step (LT.box (n := 21) (v := (.agg [(iC a.Points), (.pv (.xs false (a.Bars.map encTBar)))])) rfl sz24 (by exact rfl)) ⟨rfl, trivial⟩ trivial rfl rfl ?_
  refine AOR.step (LT.alloc (n := 22) (cells := [(iC 0), (sC nilV)]) rfl ti30 rfl rfl rfl) trivial trivial rfl rfl ?_
  refine AOR.nil ?_
  refine AWR.seq ?_
  refine AWR.region ?_
  refine AOR.step (LT.alloc (n := 23) (cells := [(iC 0), (sC nilV)]) rfl ti30 rfl rfl rfl) trivial trivial rfl rfl ?_
  refine AOR.nil ?_
  refine AWR.seq ?_
  refine AWR.region ?_
  refine AOR.pure (LT.fieldPl rfl fo24_0) ⟨rfl, trivial⟩ trivial rfl rfl ?_
  refine AOR.pure (LT.bload1 (c := (iC a.Points)) rfl ag3 (by exact rfl)) ⟨rfl, trivial⟩ ⟨rfl, trivial⟩ rfl rfl ?_
  refine AOR.pure (LT.fieldPl rfl fo30_0) ⟨rfl, trivial⟩ trivial rfl rfl ?_
  refine AOR.step (LT.bstore (v := (.c (iC a.Points))) (out := [(iC a.Points), (sC nilV)]) rfl rfl (infS inf3) sz3 (by exact rfl) (by exact Nat.le_of_ble_eq_true rfl) (by exact rfl)) ⟨rfl, rfl, trivial⟩ ⟨rfl, trivial⟩ rfl rfl ?_
  refine AOR.nil ?_
  refine AWR.seq ?_
  refine AWR.ent (Ent.of (σ' := [(1, (.s (.c (.pl 21 0)))), (2, (.s (.c (.pl 22 0)))), (3, (.s (.c (.pl 23 0))))]) (m' := [(21, (.row 24 [[(iC a.Points), (.pv (.xs false (a.Bars.map encTBar)))]])), (22, (.row 30 [[(iC 0), (sC nilV)]])), (23, (.row 30 [[(iC a.Points), (sC nilV)]]))]) ⟨rfl, rfl, rfl, trivial⟩ ⟨rfl, rfl, rfl, trivial⟩) ?_
  refine AWR.region ?_
  refine AOR.pure (LT.fieldPl rfl fo24_1) ⟨rfl, trivial⟩ trivial rfl rfl ?_
  refine AOR.pure (LT.bload1 (c := (.pv (.xs false (a.Bars.map encTBar)))) rfl ag22 (by exact rfl)) ⟨rfl, trivial⟩ ⟨rfl, trivial⟩ rfl rfl ?_
  refine AOR.bind fun r1 hr1 => ?_
  refine AOR.step (@LT.callF Try.prog _ _ 99 _ _ [(.c (.pv (.xs false (a.Bars.map encTBar))))] _ _ [] _ _ _ _ ((show Fw.Fn Try.prog 99 [(.c (.pv (.xs false (a.Bars.map encTBar))))] [] (.s (.c (.loc 25 0 r1.length))) [(25, (.prow 88 (r1.map encTBar)))] [] [25] from Fw.Fn.ren [(0, 25)] (w_laws_toBarS a.Bars r1 hr1) rfl)) rfl cb99 (.cons (.c (.same rfl)) .nil) rfl rfl trivial) ⟨rfl, rfl, trivial⟩ trivial rfl rfl ?_
  refine AOR.pure (LT.fieldPl rfl fo30_1) ⟨rfl, trivial⟩ trivial rfl rfl ?_
  refine AOR.step (LT.bstore (v := (.c (.loc 25 0 r1.length))) (out := [(iC a.Points), (.loc 25 0 r1.length)]) rfl rfl (infS inf28) sz28 (by exact rfl) (by exact Nat.le_of_ble_eq_true rfl) (by exact rfl)) ⟨rfl, rfl, trivial⟩ ⟨rfl, trivial⟩ rfl rfl ?_
  refine AOR.nil ?_
  refine AWR.seq ?_
  refine AWR.region ?_
  refine AOR.pure (LT.bloadN (out := [(iC a.Points), (.loc 25 0 r1.length)]) rfl ag30 (infS inf30) sz30 (by exact rfl) (by exact rfl)) ⟨rfl, trivial⟩ ⟨rfl, trivial⟩ rfl rfl ?_
  refine AOR.step (LT.bstore (v := (.agg [(iC a.Points), (.loc 25 0 r1.length)])) (out := [(iC a.Points), (.loc 25 0 r1.length)]) rfl rfl (infS inf30) sz30 (by exact rfl) (by exact Nat.le_of_ble_eq_true rfl) (by exact rfl)) ⟨rfl, rfl, trivial⟩ ⟨rfl, trivial⟩ rfl rfl ?_
  refine AOR.nil ?_
  refine AWR.ent (Ent.of (σ' := [(2, (.s (.c (.pl 22 0))))]) (m' := [(22, (.row 30 [[(iC a.Points), (.loc 25 0 r1.length)]])), (25, (.prow 88 (r1.map encTBar)))]) ⟨rfl, trivial⟩ ⟨rfl, rfl, trivial⟩) ?_
  refine AWR.ent (Ent.mv 25 0 rfl rfl) ?_
  refine AWR.ent (Ent.of (σ' := [(2, (.s (.c (.pl 22 0))))]) (m' := [(0, (.prow 88 (r1.map encTBar))), (22, (.row 30 [[(iC a.Points), (.loc 0 0 r1.length)]]))]) ⟨rfl, trivial⟩ ⟨rfl, rfl, trivial⟩) ?_
  refine AWR.ret (FPost.mk (.inr rfl) ⟨⟨_, _, _, rfl, rfl, rfl, ag30, sz30, _, (infS inf30)⟩, trivial⟩ ⟨rfl, trivial⟩ rfl ⟨⟨PermP.sc, trivial, trivial⟩, trivial⟩ ⟨PermO.prow' perm_encTBar, trivial⟩)
set_option maxRecDepth 100000 in
set_option maxHeartbeats 8000000 in
theorem w_spec_l1In (x : Int) (low : Int) (high : Int) : ∀ t, m_spec_l1In x low high = some t → Fw.Fn Try.prog 95 [(.c (iC x)), (.c (iC low)), (.c (iC high))] [] (.s (.c (bC t))) [] [] [] := by
  refine Fw.Fn.of (P := Try.prog) (X := []) (pn := []) (rs := (fun (t : Bool) => [(.c (bC t))])) (dfs := (fun (t : Bool) => [])) Try.func95 rfl Try.ntmps95 (Nat.le_of_ble_eq_true rfl) rfl ?_
  intro w0 U0 R0 g0
  unfold m_spec_l1In
  refine AWR.seq ?_
  refine AWR.region ?_
  refine AOR.pure (LT.assign (v := (.s (.c (bC false)))) rfl) ⟨⟨rfl, rfl⟩, trivial⟩ trivial rfl rfl ?_
  refine AOR.nil ?_
  refine AWR.seq ?_
  refine AWR.joinK (fun j2 => ([(6, (.s (.c (bC j2))))], [])) ?_ (fun j2 _ => ?_)
  · refine AWR.region ?_
    refine AOR.pure (LT.move (v := (.s (.c (iC x)))) rfl) ⟨rfl, trivial⟩ trivial rfl rfl ?_
    refine AOR.pure (LT.move (v := (.s (.c (iC low)))) rfl) ⟨rfl, trivial⟩ trivial rfl rfl ?_
    refine AOR.pure (LT.geq rfl) ⟨rfl, rfl, trivial⟩ trivial rfl rfl ?_
    refine AOR.pure (LT.move (v := (.s (.c (bC (decide (low ≤ x)))))) rfl) ⟨rfl, trivial⟩ trivial rfl rfl ?_
    refine AOR.split (fun hb3 => ?_) (fun hb3 => ?_)
    · refine AOR.pure (LT.move (v := (.s (.c (iC x)))) rfl) ⟨rfl, trivial⟩ trivial ⟨_, rfl, .inl ⟨_, rfl, (by rw [hb3]; rfl)⟩⟩ rfl ?_
      refine AOR.pure (LT.move (v := (.s (.c (iC high)))) rfl) ⟨rfl, trivial⟩ trivial ⟨_, rfl, .inl ⟨_, rfl, (by rw [hb3]; rfl)⟩⟩ rfl ?_
      refine AOR.pure (LT.leq rfl) ⟨rfl, rfl, trivial⟩ trivial ⟨_, rfl, .inl ⟨_, rfl, (by rw [hb3]; rfl)⟩⟩ rfl ?_
      refine AOR.pure (LT.pickT (v := (.s (.c (bC (decide (x ≤ high)))))) rfl hb3) ⟨rfl, rfl, trivial⟩ trivial rfl rfl ?_
      refine AOR.pure (LT.assign (v := (.s (.c (bC (decide (x ≤ high)))))) rfl) ⟨rfl, trivial⟩ trivial rfl rfl ?_
      refine AOR.nil ?_
      refine AWR.nil ⟨rfl, Ent.of ⟨rfl, trivial⟩ trivial⟩
    · refine AOR.skip ⟨_, rfl, .inl ⟨_, rfl, (by rw [hb3]; rfl)⟩⟩ rfl ?_
      refine AOR.skip ⟨_, rfl, .inl ⟨_, rfl, (by rw [hb3]; rfl)⟩⟩ rfl ?_
      refine AOR.skip ⟨_, rfl, .inl ⟨_, rfl, (by rw [hb3]; rfl)⟩⟩ rfl ?_
      refine AOR.pure (LT.pickF (v := (.s (.c (bC false)))) rfl hb3) ⟨rfl, ⟨rfl, rfl⟩, trivial⟩ trivial rfl rfl ?_
      refine AOR.pure (LT.assign (v := (.s (.c (bC false)))) rfl) ⟨rfl, trivial⟩ trivial rfl rfl ?_
      refine AOR.nil ?_
      refine AWR.nil ⟨rfl, Ent.of ⟨rfl, trivial⟩ trivial⟩
  · refine AWR.ret (FPost.mk (.inr rfl) ⟨rfl, trivial⟩ trivial rfl ⟨PermP.sc, trivial⟩ trivial)
set_option maxRecDepth 100000 in
set_option maxHeartbeats 8000000 in
theorem w_spec_l2After (a : TBar) (b : TBar) : ∀ t, m_spec_l2After a b = some t → Fw.Fn Try.prog 167 [(.agg [(iC a.A), (iC a.B)]), (.agg [(iC b.A), (iC b.B)])] [] (.s (.c (bC t))) [] [] [] := by
  refine Fw.Fn.of (P := Try.prog) (X := []) (pn := []) (rs := (fun (t : Bool) => [(.c (bC t))])) (dfs := (fun (t : Bool) => [])) Try.func167 rfl Try.ntmps167 (Nat.le_of_ble_eq_true rfl) rfl ?_
  intro w0 U0 R0 g0
  unfold m_spec_l2After
  refine AWR.seq ?_
  refine AWR.region ?_
  refine AOR.step (LT.box (n := 21) (v := (.agg [(iC a.A), (iC a.B)])) rfl sz88 (by exact rfl)) ⟨rfl, trivial⟩ trivial rfl rfl ?_
  refine AOR.step (LT.box (n := 22) (v := (.agg [(iC b.A), (iC b.B)])) rfl sz88 (by exact rfl)) ⟨rfl, trivial⟩ trivial rfl rfl ?_
  refine AOR.pure (LT.assign (v := (.s (.c (bC false)))) rfl) ⟨⟨rfl, rfl⟩, trivial⟩ trivial rfl rfl ?_
  refine AOR.nil ?_
  refine AWR.seq ?_
  refine AWR.joinK (fun j3 => ([(4, (.s (.c (bC j3))))], [])) ?_ (fun j3 _ => ?_)
  · refine AWR.region ?_
    refine AOR.pure (LT.fieldPl rfl fo88_0) ⟨rfl, trivial⟩ trivial rfl rfl ?_
    refine AOR.pure (LT.bload1 (c := (iC a.A)) rfl ag3 (by exact rfl)) ⟨rfl, trivial⟩ ⟨rfl, trivial⟩ rfl rfl ?_
    refine AOR.pure (LT.fieldPl rfl fo88_0) ⟨rfl, trivial⟩ trivial rfl rfl ?_
    refine AOR.pure (LT.bload1 (c := (iC b.A)) rfl ag3 (by exact rfl)) ⟨rfl, trivial⟩ ⟨rfl, trivial⟩ rfl rfl ?_
    refine AOR.pure (LT.lss rfl) ⟨rfl, rfl, trivial⟩ trivial rfl rfl ?_
    refine AOR.pure (LT.move (v := (.s (.c (bC (decide (a.A < b.A)))))) rfl) ⟨rfl, trivial⟩ trivial rfl rfl ?_
    refine AOR.split (fun hb4 => ?_) (fun hb4 => ?_)
    · refine AOR.skip ⟨_, rfl, .inl ⟨_, rfl, (by rw [hb4]; rfl)⟩⟩ rfl ?_
      refine AOR.skip ⟨_, rfl, .inl ⟨_, rfl, (by rw [hb4]; rfl)⟩⟩ rfl ?_
      refine AOR.skip ⟨_, rfl, .inl ⟨_, rfl, (by rw [hb4]; rfl)⟩⟩ rfl ?_
      refine AOR.skip ⟨_, rfl, .inl ⟨_, rfl, (by rw [hb4]; rfl)⟩⟩ rfl ?_
      refine AOR.skip ⟨_, rfl, .inl ⟨_, rfl, (by rw [hb4]; rfl)⟩⟩ rfl ?_
      refine AOR.skip ⟨_, rfl, .inl ⟨_, rfl, (by rw [hb4]; rfl)⟩⟩ rfl ?_
      refine AOR.skip ⟨_, rfl, .inr ⟨rfl, rfl⟩⟩ rfl ?_
      refine AOR.skip ⟨_, rfl, .inr ⟨rfl, rfl⟩⟩ rfl ?_
      refine AOR.skip ⟨_, rfl, .inr ⟨rfl, rfl⟩⟩ rfl ?_
      refine AOR.skip ⟨_, rfl, .inr ⟨rfl, rfl⟩⟩ rfl ?_
      refine AOR.skip ⟨_, rfl, .inr ⟨rfl, rfl⟩⟩ rfl ?_
      refine AOR.skip ⟨_, rfl, .inl ⟨_, rfl, (by rw [hb4]; rfl)⟩⟩ rfl ?_
      refine AOR.pure (LT.pickT (v := (.s (.c (bC true)))) rfl hb4) ⟨rfl, ⟨rfl, rfl⟩, trivial⟩ trivial rfl rfl ?_
      refine AOR.pure (LT.assign (v := (.s (.c (bC true)))) rfl) ⟨rfl, trivial⟩ trivial rfl rfl ?_
      refine AOR.nil ?_
      refine AWR.nil ⟨rfl, Ent.of ⟨rfl, trivial⟩ trivial⟩
    · refine AOR.pure (LT.fieldPl rfl fo88_0) ⟨rfl, trivial⟩ trivial ⟨_, rfl, .inl ⟨_, rfl, (by rw [hb4]; rfl)⟩⟩ rfl ?_
      refine AOR.pure (LT.bload1 (c := (iC a.A)) rfl ag3 (by exact rfl)) ⟨rfl, trivial⟩ ⟨rfl, trivial⟩ ⟨_, rfl, .inl ⟨_, rfl, (by rw [hb4]; rfl)⟩⟩ rfl ?_
      refine AOR.pure (LT.fieldPl rfl fo88_0) ⟨rfl, trivial⟩ trivial ⟨_, rfl, .inl ⟨_, rfl, (by rw [hb4]; rfl)⟩⟩ rfl ?_
      refine AOR.pure (LT.bload1 (c := (iC b.A)) rfl ag3 (by exact rfl)) ⟨rfl, trivial⟩ ⟨rfl, trivial⟩ ⟨_, rfl, .inl ⟨_, rfl, (by rw [hb4]; rfl)⟩⟩ rfl ?_
      refine AOR.pure (LT.eql rfl) ⟨rfl, rfl, trivial⟩ trivial ⟨_, rfl, .inl ⟨_, rfl, (by rw [hb4]; rfl)⟩⟩ rfl ?_
      refine AOR.pure (LT.move (v := (.s (.c (bC (a.A == b.A))))) rfl) ⟨rfl, trivial⟩ trivial ⟨_, rfl, .inl ⟨_, rfl, (by rw [hb4]; rfl)⟩⟩ rfl ?_
      refine AOR.split (fun hb5 => ?_) (fun hb5 => ?_)
      · refine AOR.pure (LT.fieldPl rfl fo88_1) ⟨rfl, trivial⟩ trivial ⟨_, rfl, .inl ⟨_, rfl, (by rw [hb5]; rfl)⟩⟩ rfl ?_
        refine AOR.pure (LT.bload1 (c := (iC a.B)) rfl ag3 (by exact rfl)) ⟨rfl, trivial⟩ ⟨rfl, trivial⟩ ⟨_, rfl, .inl ⟨_, rfl, (by rw [hb5]; rfl)⟩⟩ rfl ?_
        refine AOR.pure (LT.fieldPl rfl fo88_1) ⟨rfl, trivial⟩ trivial ⟨_, rfl, .inl ⟨_, rfl, (by rw [hb5]; rfl)⟩⟩ rfl ?_
        refine AOR.pure (LT.bload1 (c := (iC b.B)) rfl ag3 (by exact rfl)) ⟨rfl, trivial⟩ ⟨rfl, trivial⟩ ⟨_, rfl, .inl ⟨_, rfl, (by rw [hb5]; rfl)⟩⟩ rfl ?_
        refine AOR.pure (LT.leq rfl) ⟨rfl, rfl, trivial⟩ trivial ⟨_, rfl, .inl ⟨_, rfl, (by rw [hb5]; rfl)⟩⟩ rfl ?_
        refine AOR.pure (LT.pickT (v := (.s (.c (bC (decide (a.B ≤ b.B)))))) rfl hb5) ⟨rfl, rfl, trivial⟩ trivial ⟨_, rfl, .inl ⟨_, rfl, (by rw [hb4]; rfl)⟩⟩ rfl ?_
        refine AOR.pure (LT.pickF (v := (.s (.c (bC (decide (a.B ≤ b.B)))))) rfl hb4) ⟨rfl, rfl, trivial⟩ trivial rfl rfl ?_
        refine AOR.pure (LT.assign (v := (.s (.c (bC (decide (a.B ≤ b.B)))))) rfl) ⟨rfl, trivial⟩ trivial rfl rfl ?_
        refine AOR.nil ?_
        refine AWR.nil ⟨rfl, Ent.of ⟨rfl, trivial⟩ trivial⟩
      · refine AOR.skip ⟨_, rfl, .inl ⟨_, rfl, (by rw [hb5]; rfl)⟩⟩ rfl ?_
        refine AOR.skip ⟨_, rfl, .inl ⟨_, rfl, (by rw [hb5]; rfl)⟩⟩ rfl ?_
        refine AOR.skip ⟨_, rfl, .inl ⟨_, rfl, (by rw [hb5]; rfl)⟩⟩ rfl ?_
        refine AOR.skip ⟨_, rfl, .inl ⟨_, rfl, (by rw [hb5]; rfl)⟩⟩ rfl ?_
        refine AOR.skip ⟨_, rfl, .inl ⟨_, rfl, (by rw [hb5]; rfl)⟩⟩ rfl ?_
        refine AOR.pure (LT.pickF (v := (.s (.c (bC false)))) rfl hb5) ⟨rfl, ⟨rfl, rfl⟩, trivial⟩ trivial ⟨_, rfl, .inl ⟨_, rfl, (by rw [hb4]; rfl)⟩⟩ rfl ?_
        refine AOR.pure (LT.pickF (v := (.s (.c (bC false)))) rfl hb4) ⟨rfl, rfl, trivial⟩ trivial rfl rfl ?_
        refine AOR.pure (LT.assign (v := (.s (.c (bC false)))) rfl) ⟨rfl, trivial⟩ trivial rfl rfl ?_
        refine AOR.nil ?_
        refine AWR.nil ⟨rfl, Ent.of ⟨rfl, trivial⟩ trivial⟩
  · refine AWR.ret (FPost.mk (.inr rfl) ⟨rfl, trivial⟩ trivial rfl ⟨PermP.sc, trivial⟩ trivial)
set_option maxRecDepth 100000 in
set_option maxHeartbeats 8000000 in
theorem w_spec_IsGraph (g : TGraph) : ∀ t, m_spec_IsGraph g = some t → Fw.Fn Try.prog 94 [(.agg [(iC g.Points), (.pv (.xs false (g.Bars.map encTBar)))])] [] (.s (.c (bC t))) [] [] [] := by
  refine Fw.Fn.of (P := Try.prog) (X := []) (pn := []) (rs := (fun (t : Bool) => [(.c (bC t))])) (dfs := (fun (t : Bool) => [])) Try.func94 rfl Try.ntmps94 (Nat.le_of_ble_eq_true rfl) rfl ?_
  intro w0 U0 R0 g0
  unfold m_spec_IsGraph
  refine AWR.seq ?_
  refine AWR.region ?_
  refine AOR.step (LT.box (n := 21) (v := (.agg [(iC g.Points), (.pv (.xs false (g.Bars.map encTBar)))])) rfl sz30 (by exact rfl)) ⟨rfl, trivial⟩ trivial rfl rfl ?_
  refine AOR.pure (LT.assign (v := (.s (.c (bC false)))) rfl) ⟨⟨rfl, rfl⟩, trivial⟩ trivial rfl rfl ?_
  refine AOR.nil ?_
  refine AWR.seq ?_
  refine AWR.seq ?_
  refine AWR.joinK (fun j3 => ([(1, (.s (.c (.pl 21 0)))), (14, (.s (.c (bC j3))))], [(21, (.row 30 [[(iC g.Points), (.pv (.xs false (g.Bars.map encTBar)))]]))])) ?_ (fun j3 _ => ?_)
  · refine AWR.region ?_
    refine AOR.pure (LT.fieldPl rfl fo30_0) ⟨rfl, trivial⟩ trivial rfl rfl ?_
    refine AOR.pure (LT.bload1 (c := (iC g.Points)) rfl ag3 (by exact rfl)) ⟨rfl, trivial⟩ ⟨rfl, trivial⟩ rfl rfl ?_
    refine AOR.bind fun r4 hr4 => ?_
    refine AOR.pure (@LT.callF Try.prog _ _ 95 _ _ [(.c (iC g.Points)), (.c (iC 1)), (.c (iC 8))] _ _ [] _ _ _ _ (w_spec_l1In g.Points 1 8 r4 hr4) rfl cb95 (.cons (.c (.same rfl)) (.cons (.c (.same rfl)) (.cons (.c (.same rfl)) .nil))) rfl rfl trivial) ⟨rfl, rfl, ⟨rfl, rfl⟩, ⟨rfl, rfl⟩, trivial⟩ trivial rfl rfl ?_
    refine AOR.pure (LT.not rfl) ⟨rfl, trivial⟩ trivial rfl rfl ?_
    refine AOR.pure (LT.move (v := (.s (.c (bC (!r4))))) rfl) ⟨rfl, trivial⟩ trivial rfl rfl ?_
    refine AOR.split (fun hb5 => ?_) (fun hb5 => ?_)
    · refine AOR.skip ⟨_, rfl, .inl ⟨_, rfl, (by rw [hb5]; rfl)⟩⟩ rfl ?_
      refine AOR.skip ⟨_, rfl, .inl ⟨_, rfl, (by rw [hb5]; rfl)⟩⟩ rfl ?_
      refine AOR.skip ⟨_, rfl, .inl ⟨_, rfl, (by rw [hb5]; rfl)⟩⟩ rfl ?_
      refine AOR.skip ⟨_, rfl, .inl ⟨_, rfl, (by rw [hb5]; rfl)⟩⟩ rfl ?_
      refine AOR.pure (LT.pickT (v := (.s (.c (bC true)))) rfl hb5) ⟨rfl, ⟨rfl, rfl⟩, trivial⟩ trivial rfl rfl ?_
      refine AOR.nil ?_
      refine AWR.nil ⟨rfl, Ent.of ⟨rfl, rfl, trivial⟩ ⟨rfl, trivial⟩⟩
    · refine AOR.pure (LT.fieldPl rfl fo30_1) ⟨rfl, trivial⟩ trivial ⟨_, rfl, .inl ⟨_, rfl, (by rw [hb5]; rfl)⟩⟩ rfl ?_
      refine AOR.pure (LT.bload1 (c := (.pv (.xs false (g.Bars.map encTBar)))) rfl ag28 (by exact rfl)) ⟨rfl, trivial⟩ ⟨rfl, trivial⟩ ⟨_, rfl, .inl ⟨_, rfl, (by rw [hb5]; rfl)⟩⟩ rfl ?_
      refine AOR.pure (LT.tlenRO rfl und28) ⟨rfl, trivial⟩ trivial ⟨_, rfl, .inl ⟨_, rfl, (by rw [hb5]; rfl)⟩⟩ rfl ?_
      refine AOR.pure (LT.gtr rfl) ⟨rfl, ⟨rfl, rfl⟩, trivial⟩ trivial ⟨_, rfl, .inl ⟨_, rfl, (by rw [hb5]; rfl)⟩⟩ rfl ?_
      refine AOR.pure (LT.pickF (v := (.s (.c (bC (decide (24 < (g.Bars.length : Int))))))) rfl hb5) ⟨rfl, rfl, trivial⟩ trivial rfl rfl ?_
      refine AOR.nil ?_
      refine AWR.nil ⟨rfl, Ent.of ⟨rfl, rfl, trivial⟩ ⟨rfl, trivial⟩⟩
  · refine AWR.cond rfl (fun hc6 => ?_) (fun hc6 => ?_)
    · refine AWR.seq ?_
      refine AWR.region ?_
      refine AOR.pure (LT.assign (v := (.s (.c (bC false)))) rfl) ⟨⟨rfl, rfl⟩, trivial⟩ trivial rfl rfl ?_
      refine AOR.nil ?_
      refine AWR.ret (FPost.mk (.inr rfl) ⟨rfl, trivial⟩ trivial rfl ⟨PermP.sc, trivial⟩ trivial)
    · refine AWR.skip ?_
      refine AWR.seq ?_
      refine AWR.seq ?_
      refine AWR.region ?_
      refine AOR.pure (LT.assign (v := (.s (.c (iC 0)))) rfl) ⟨⟨rfl, rfl⟩, trivial⟩ trivial rfl rfl ?_
      refine AOR.nil ?_
      refine AWR.block ?_
      refine AWR.loopR (id := 0) (m_spec_IsGraph_L1 g) (fun s7 => ([(1, (.s (.c (.pl 21 0)))), (3, (.s (.c (iC s7))))], [(21, (.row 30 [[(iC g.Points), (.pv (.xs false (g.Bars.map encTBar)))]]))])) (fun b40 => ([], [])) (FPost Try.prog Try.f94.results.toList [] [] (fun (t : Bool) => [(.c (bC t))]) (fun (t : Bool) => [])) ?_ (Ent.of ⟨rfl, rfl, trivial⟩ ⟨rfl, trivial⟩) rfl (fun b40 _ => ?_) (by intro r t σ m ht hk; injection ht with ht; subst ht; exact hk)
      · intro s7
        unfold m_spec_IsGraph_L1
        refine AWR.seq ?_
        refine AWR.seq ?_
        refine AWR.region ?_
        refine AOR.pure (LT.move (v := (.s (.c (iC s7)))) rfl) ⟨rfl, trivial⟩ trivial rfl rfl ?_
        refine AOR.pure (LT.fieldPl rfl fo30_1) ⟨rfl, trivial⟩ trivial rfl rfl ?_
        refine AOR.pure (LT.bload1 (c := (.pv (.xs false (g.Bars.map encTBar)))) rfl ag28 (by exact rfl)) ⟨rfl, trivial⟩ ⟨rfl, trivial⟩ rfl rfl ?_
        refine AOR.pure (LT.tlenRO rfl und28) ⟨rfl, trivial⟩ trivial rfl rfl ?_
        refine AOR.pure (LT.lss rfl) ⟨rfl, rfl, trivial⟩ trivial rfl rfl ?_
        refine AOR.nil ?_
        refine AWR.cond rfl (fun hc41 => ?_) (fun hc41 => ?_)
        · refine AWR.skip ?_
          refine AWR.seq ?_
          refine AWR.block ?_
          refine AWR.seq ?_
          refine AWR.region ?_
          refine AOR.pure (LT.fieldPl rfl fo30_1) ⟨rfl, trivial⟩ trivial rfl rfl ?_
          refine AOR.pure (LT.bload1 (c := (.pv (.xs false (g.Bars.map encTBar)))) rfl ag28 (by exact rfl)) ⟨rfl, trivial⟩ ⟨rfl, trivial⟩ rfl rfl ?_
          refine AOR.pure (LT.move (v := (.s (.c (iC s7)))) rfl) ⟨rfl, trivial⟩ trivial rfl rfl ?_
          refine AOR.bind fun x42 hx42 => ?_
          refine AOR.pure (LT.tindexRO (enc := encTBar) rfl el28 hx42 sz88) ⟨rfl, rfl, trivial⟩ trivial rfl rfl ?_
          refine AOR.pure (LT.loadPxN rfl ag88 (infS inf88) (by exact sz88.symm)) ⟨rfl, trivial⟩ trivial rfl rfl ?_
          refine AOR.step (LT.alloc (n := 23) (cells := [(iC 0), (iC 0)]) rfl ti88 rfl rfl rfl) trivial trivial rfl rfl ?_
          refine AOR.step (LT.bstore (v := (.agg [(iC x42.A), (iC x42.B)])) (out := [(iC x42.A), (iC x42.B)]) rfl rfl (infS inf88) sz88 (by exact rfl) (by exact Nat.le_of_ble_eq_true rfl) (by exact rfl)) ⟨rfl, rfl, trivial⟩ ⟨rfl, trivial⟩ rfl rfl ?_
          refine AOR.nil ?_
          refine AWR.seq ?_
          refine AWR.joinK (fun j49 => ([(1, (.s (.c (.pl 21 0)))), (3, (.s (.c (iC s7)))), (58, (.s (.c (bC j49))))], [(21, (.row 30 [[(iC g.Points), (.pv (.xs false (g.Bars.map encTBar)))]]))])) ?_ (fun j49 _ => ?_)
          · refine AWR.ent (Ent.of (σ' := [(1, (.s (.c (.pl 21 0)))), (3, (.s (.c (iC s7)))), (4, (.s (.c (.pl 23 0))))]) (m' := [(21, (.row 30 [[(iC g.Points), (.pv (.xs false (g.Bars.map encTBar)))]])), (23, (.row 88 [[(iC x42.A), (iC x42.B)]]))]) ⟨rfl, rfl, rfl, trivial⟩ ⟨rfl, rfl, trivial⟩) ?_
            refine AWR.draw mixed ?_
            refine AOD.pure (LT.fieldPl rfl fo88_0) ⟨rfl, trivial⟩ trivial rfl rfl ?_
            refine AOD.pure (LT.bload1 (c := (iC x42.A)) rfl ag3 (by exact rfl)) ⟨rfl, trivial⟩ ⟨rfl, trivial⟩ rfl rfl ?_
            refine AOD.pure (LT.lss rfl) ⟨rfl, ⟨rfl, rfl⟩, trivial⟩ trivial rfl rfl ?_
            refine AOD.pure (LT.move (v := (.s (.c (bC (decide (x42.A < 0)))))) rfl) ⟨rfl, trivial⟩ trivial rfl rfl ?_
            refine AOD.split (fun hb50 => ?_) (fun hb50 => ?_)
            · refine AOD.skip ⟨_, rfl, .inl ⟨_, rfl, (by rw [hb50]; rfl)⟩⟩ rfl ?_
              refine AOD.skip ⟨_, rfl, .inl ⟨_, rfl, (by rw [hb50]; rfl)⟩⟩ rfl ?_
              refine AOD.skip ⟨_, rfl, .inl ⟨_, rfl, (by rw [hb50]; rfl)⟩⟩ rfl ?_
              refine AOD.skip ⟨_, rfl, .inl ⟨_, rfl, (by rw [hb50]; rfl)⟩⟩ rfl ?_
              refine AOD.skip ⟨_, rfl, .inl ⟨_, rfl, (by rw [hb50]; rfl)⟩⟩ rfl ?_
              refine AOD.pure (LT.pickT (v := (.s (.c (bC true)))) rfl hb50) ⟨rfl, ⟨rfl, rfl⟩, trivial⟩ trivial rfl rfl ?_
              refine AOD.pure (LT.move (v := (.s (.c (bC true)))) rfl) ⟨rfl, trivial⟩ trivial rfl rfl ?_
              refine AOD.skip ⟨_, rfl, .inl ⟨_, rfl, rfl⟩⟩ rfl ?_
              refine AOD.skip ⟨_, rfl, .inl ⟨_, rfl, rfl⟩⟩ rfl ?_
              refine AOD.skip ⟨_, rfl, .inl ⟨_, rfl, rfl⟩⟩ rfl ?_
              refine AOD.skip ⟨_, rfl, .inl ⟨_, rfl, rfl⟩⟩ rfl ?_
              refine AOD.skip ⟨_, rfl, .inl ⟨_, rfl, rfl⟩⟩ rfl ?_
              refine AOD.pure (LT.pickT (v := (.s (.c (bC true)))) rfl rfl) ⟨rfl, ⟨rfl, rfl⟩, trivial⟩ trivial rfl rfl ?_
              refine AOD.pure (LT.move (v := (.s (.c (bC true)))) rfl) ⟨rfl, trivial⟩ trivial rfl rfl ?_
              refine AOD.skip ⟨_, rfl, .inl ⟨_, rfl, rfl⟩⟩ rfl ?_
              refine AOD.skip ⟨_, rfl, .inl ⟨_, rfl, rfl⟩⟩ rfl ?_
              refine AOD.skip ⟨_, rfl, .inl ⟨_, rfl, rfl⟩⟩ rfl ?_
              refine AOD.skip ⟨_, rfl, .inr ⟨rfl, rfl⟩⟩ rfl ?_
              refine AOD.skip ⟨_, rfl, .inr ⟨rfl, rfl⟩⟩ rfl ?_
              refine AOD.skip ⟨_, rfl, .inr ⟨rfl, rfl⟩⟩ rfl ?_
              refine AOD.skip ⟨_, rfl, .inr ⟨rfl, rfl⟩⟩ rfl ?_
              refine AOD.skip ⟨_, rfl, .inr ⟨rfl, rfl⟩⟩ rfl ?_
              refine AOD.skip ⟨_, rfl, .inr ⟨rfl, rfl⟩⟩ rfl ?_
              refine AOD.skip ⟨_, rfl, .inr ⟨rfl, rfl⟩⟩ rfl ?_
              refine AOD.skip ⟨_, rfl, .inr ⟨rfl, rfl⟩⟩ rfl ?_
              refine AOD.skip ⟨_, rfl, .inr ⟨rfl, rfl⟩⟩ rfl ?_
              refine AOD.skip ⟨_, rfl, .inl ⟨_, rfl, rfl⟩⟩ rfl ?_
              refine AOD.pure (LT.pickT (v := (.s (.c (bC true)))) rfl rfl) ⟨rfl, ⟨rfl, rfl⟩, trivial⟩ trivial rfl rfl ?_
              refine AOD.nil (by kernel_rfl) ?_
              refine AWR.nil ⟨rfl, Ent.of ⟨rfl, rfl, rfl, trivial⟩ ⟨rfl, trivial⟩⟩
            · refine AOD.pure (LT.fieldPl rfl fo88_0) ⟨rfl, trivial⟩ trivial ⟨_, rfl, .inl ⟨_, rfl, (by rw [hb50]; rfl)⟩⟩ rfl ?_
              refine AOD.pure (LT.bload1 (c := (iC x42.A)) rfl ag3 (by exact rfl)) ⟨rfl, trivial⟩ ⟨rfl, trivial⟩ ⟨_, rfl, .inl ⟨_, rfl, (by rw [hb50]; rfl)⟩⟩ rfl ?_
              refine AOD.pure (LT.fieldPl rfl fo88_1) ⟨rfl, trivial⟩ trivial ⟨_, rfl, .inl ⟨_, rfl, (by rw [hb50]; rfl)⟩⟩ rfl ?_
              refine AOD.pure (LT.bload1 (c := (iC x42.B)) rfl ag3 (by exact rfl)) ⟨rfl, trivial⟩ ⟨rfl, trivial⟩ ⟨_, rfl, .inl ⟨_, rfl, (by rw [hb50]; rfl)⟩⟩ rfl ?_
              refine AOD.pure (LT.geq rfl) ⟨rfl, rfl, trivial⟩ trivial ⟨_, rfl, .inl ⟨_, rfl, (by rw [hb50]; rfl)⟩⟩ rfl ?_
              refine AOD.pure (LT.pickF (v := (.s (.c (bC (decide (x42.B ≤ x42.A)))))) rfl hb50) ⟨rfl, rfl, trivial⟩ trivial rfl rfl ?_
              refine AOD.pure (LT.move (v := (.s (.c (bC (decide (x42.B ≤ x42.A)))))) rfl) ⟨rfl, trivial⟩ trivial rfl rfl ?_
              refine AOD.split (fun hb51 => ?_) (fun hb51 => ?_)
              · refine AOD.skip ⟨_, rfl, .inl ⟨_, rfl, (by rw [hb51]; rfl)⟩⟩ rfl ?_
                refine AOD.skip ⟨_, rfl, .inl ⟨_, rfl, (by rw [hb51]; rfl)⟩⟩ rfl ?_
                refine AOD.skip ⟨_, rfl, .inl ⟨_, rfl, (by rw [hb51]; rfl)⟩⟩ rfl ?_
                refine AOD.skip ⟨_, rfl, .inl ⟨_, rfl, (by rw [hb51]; rfl)⟩⟩ rfl ?_
                refine AOD.skip ⟨_, rfl, .inl ⟨_, rfl, (by rw [hb51]; rfl)⟩⟩ rfl ?_
                refine AOD.pure (LT.pickT (v := (.s (.c (bC true)))) rfl hb51) ⟨rfl, ⟨rfl, rfl⟩, trivial⟩ trivial rfl rfl ?_
                refine AOD.pure (LT.move (v := (.s (.c (bC true)))) rfl) ⟨rfl, trivial⟩ trivial rfl rfl ?_
                refine AOD.skip ⟨_, rfl, .inl ⟨_, rfl, rfl⟩⟩ rfl ?_
                refine AOD.skip ⟨_, rfl, .inl ⟨_, rfl, rfl⟩⟩ rfl ?_
                refine AOD.skip ⟨_, rfl, .inl ⟨_, rfl, rfl⟩⟩ rfl ?_
                refine AOD.skip ⟨_, rfl, .inr ⟨rfl, rfl⟩⟩ rfl ?_
                refine AOD.skip ⟨_, rfl, .inr ⟨rfl, rfl⟩⟩ rfl ?_
                refine AOD.skip ⟨_, rfl, .inr ⟨rfl, rfl⟩⟩ rfl ?_
                refine AOD.skip ⟨_, rfl, .inr ⟨rfl, rfl⟩⟩ rfl ?_
                refine AOD.skip ⟨_, rfl, .inr ⟨rfl, rfl⟩⟩ rfl ?_
                refine AOD.skip ⟨_, rfl, .inr ⟨rfl, rfl⟩⟩ rfl ?_
                refine AOD.skip ⟨_, rfl, .inr ⟨rfl, rfl⟩⟩ rfl ?_
                refine AOD.skip ⟨_, rfl, .inr ⟨rfl, rfl⟩⟩ rfl ?_
                refine AOD.skip ⟨_, rfl, .inr ⟨rfl, rfl⟩⟩ rfl ?_
                refine AOD.skip ⟨_, rfl, .inl ⟨_, rfl, rfl⟩⟩ rfl ?_
                refine AOD.pure (LT.pickT (v := (.s (.c (bC true)))) rfl rfl) ⟨rfl, ⟨rfl, rfl⟩, trivial⟩ trivial rfl rfl ?_
                refine AOD.nil (by kernel_rfl) ?_
                refine AWR.nil ⟨rfl, Ent.of ⟨rfl, rfl, rfl, trivial⟩ ⟨rfl, trivial⟩⟩
              · refine AOD.pure (LT.fieldPl rfl fo88_1) ⟨rfl, trivial⟩ trivial ⟨_, rfl, .inl ⟨_, rfl, (by rw [hb51]; rfl)⟩⟩ rfl ?_
                refine AOD.pure (LT.bload1 (c := (iC x42.B)) rfl ag3 (by exact rfl)) ⟨rfl, trivial⟩ ⟨rfl, trivial⟩ ⟨_, rfl, .inl ⟨_, rfl, (by rw [hb51]; rfl)⟩⟩ rfl ?_
                refine AOD.pure (LT.fieldPl rfl fo30_0) ⟨rfl, trivial⟩ trivial ⟨_, rfl, .inl ⟨_, rfl, (by rw [hb51]; rfl)⟩⟩ rfl ?_
                refine AOD.pure (LT.bload1 (c := (iC g.Points)) rfl ag3 (by exact rfl)) ⟨rfl, trivial⟩ ⟨rfl, trivial⟩ ⟨_, rfl, .inl ⟨_, rfl, (by rw [hb51]; rfl)⟩⟩ rfl ?_
                refine AOD.pure (LT.geq rfl) ⟨rfl, rfl, trivial⟩ trivial ⟨_, rfl, .inl ⟨_, rfl, (by rw [hb51]; rfl)⟩⟩ rfl ?_
                refine AOD.pure (LT.pickF (v := (.s (.c (bC (decide (g.Points ≤ x42.B)))))) rfl hb51) ⟨rfl, rfl, trivial⟩ trivial rfl rfl ?_
                refine AOD.pure (LT.move (v := (.s (.c (bC (decide (g.Points ≤ x42.B)))))) rfl) ⟨rfl, trivial⟩ trivial rfl rfl ?_
                refine AOD.split (fun hb52 => ?_) (fun hb52 => ?_)
                · refine AOD.skip ⟨_, rfl, .inl ⟨_, rfl, (by rw [hb52]; rfl)⟩⟩ rfl ?_
                  refine AOD.skip ⟨_, rfl, .inl ⟨_, rfl, (by rw [hb52]; rfl)⟩⟩ rfl ?_
                  refine AOD.skip ⟨_, rfl, .inl ⟨_, rfl, (by rw [hb52]; rfl)⟩⟩ rfl ?_
                  refine AOD.skip ⟨_, rfl, .inr ⟨rfl, rfl⟩⟩ rfl ?_
                  refine AOD.skip ⟨_, rfl, .inr ⟨rfl, rfl⟩⟩ rfl ?_
                  refine AOD.skip ⟨_, rfl, .inr ⟨rfl, rfl⟩⟩ rfl ?_
                  refine AOD.skip ⟨_, rfl, .inr ⟨rfl, rfl⟩⟩ rfl ?_
                  refine AOD.skip ⟨_, rfl, .inr ⟨rfl, rfl⟩⟩ rfl ?_
                  refine AOD.skip ⟨_, rfl, .inr ⟨rfl, rfl⟩⟩ rfl ?_
                  refine AOD.skip ⟨_, rfl, .inr ⟨rfl, rfl⟩⟩ rfl ?_
                  refine AOD.skip ⟨_, rfl, .inr ⟨rfl, rfl⟩⟩ rfl ?_
                  refine AOD.skip ⟨_, rfl, .inr ⟨rfl, rfl⟩⟩ rfl ?_
                  refine AOD.skip ⟨_, rfl, .inl ⟨_, rfl, (by rw [hb52]; rfl)⟩⟩ rfl ?_
                  refine AOD.pure (LT.pickT (v := (.s (.c (bC true)))) rfl hb52) ⟨rfl, ⟨rfl, rfl⟩, trivial⟩ trivial rfl rfl ?_
                  refine AOD.nil (by kernel_rfl) ?_
                  refine AWR.nil ⟨rfl, Ent.of ⟨rfl, rfl, rfl, trivial⟩ ⟨rfl, trivial⟩⟩
                · refine AOD.pure (LT.move (v := (.s (.c (iC s7)))) rfl) ⟨rfl, trivial⟩ trivial ⟨_, rfl, .inl ⟨_, rfl, (by rw [hb52]; rfl)⟩⟩ rfl ?_
                  refine AOD.pure (LT.gtr rfl) ⟨rfl, ⟨rfl, rfl⟩, trivial⟩ trivial ⟨_, rfl, .inl ⟨_, rfl, (by rw [hb52]; rfl)⟩⟩ rfl ?_
                  refine AOD.pure (LT.move (v := (.s (.c (bC (decide (0 < s7)))))) rfl) ⟨rfl, trivial⟩ trivial ⟨_, rfl, .inl ⟨_, rfl, (by rw [hb52]; rfl)⟩⟩ rfl ?_
                  refine AOD.split (fun hb53 => ?_) (fun hb53 => ?_)
                  · refine AOD.pure (LT.fieldPl rfl fo30_1) ⟨rfl, trivial⟩ trivial ⟨_, rfl, .inl ⟨_, rfl, (by rw [hb53]; rfl)⟩⟩ rfl ?_
                    refine AOD.pure (LT.bload1 (c := (.pv (.xs false (g.Bars.map encTBar)))) rfl ag28 (by exact rfl)) ⟨rfl, trivial⟩ ⟨rfl, trivial⟩ ⟨_, rfl, .inl ⟨_, rfl, (by rw [hb53]; rfl)⟩⟩ rfl ?_
                    refine AOD.pure (LT.move (v := (.s (.c (iC s7)))) rfl) ⟨rfl, trivial⟩ trivial ⟨_, rfl, .inl ⟨_, rfl, (by rw [hb53]; rfl)⟩⟩ rfl ?_
                    refine AOD.pure (LT.sub rfl) ⟨rfl, ⟨rfl, rfl⟩, trivial⟩ trivial ⟨_, rfl, .inl ⟨_, rfl, (by rw [hb53]; rfl)⟩⟩ rfl ?_
                    refine AOD.bind fun x54 hx54 => ?_
                    refine AOD.pure (LT.tindexRO (enc := encTBar) rfl el28 hx54 sz88) ⟨rfl, rfl, trivial⟩ trivial ⟨_, rfl, .inl ⟨_, rfl, (by rw [hb53]; rfl)⟩⟩ rfl ?_
                    refine AOD.pure (LT.loadPxN rfl ag88 (infS inf88) (by exact sz88.symm)) ⟨rfl, trivial⟩ trivial ⟨_, rfl, .inl ⟨_, rfl, (by rw [hb53]; rfl)⟩⟩ rfl ?_
                    refine AOD.pure (LT.bloadN (out := [(iC x42.A), (iC x42.B)]) rfl ag88 (infS inf88) sz88 (by exact rfl) (by exact rfl)) ⟨rfl, trivial⟩ ⟨rfl, trivial⟩ ⟨_, rfl, .inl ⟨_, rfl, (by rw [hb53]; rfl)⟩⟩ rfl ?_
                    refine AOD.bind fun r55 hr55 => ?_
                    refine AOD.pure (@LT.callF Try.prog _ _ 167 _ _ [(.agg [(iC x54.A), (iC x54.B)]), (.agg [(iC x42.A), (iC x42.B)])] _ _ [] _ _ _ _ (w_spec_l2After x54 x42 r55 hr55) rfl cb167 (.cons (.agg (.cons (.same rfl) (.cons (.same rfl) .nil))) (.cons (.agg (.cons (.same rfl) (.cons (.same rfl) .nil))) .nil)) rfl rfl trivial) ⟨rfl, rfl, rfl, trivial⟩ trivial ⟨_, rfl, .inl ⟨_, rfl, (by rw [hb53]; rfl)⟩⟩ rfl ?_
                    refine AOD.pure (LT.not rfl) ⟨rfl, trivial⟩ trivial ⟨_, rfl, .inl ⟨_, rfl, (by rw [hb53]; rfl)⟩⟩ rfl ?_
                    refine AOD.pure (LT.pickT (v := (.s (.c (bC (!r55))))) rfl hb53) ⟨rfl, rfl, trivial⟩ trivial ⟨_, rfl, .inl ⟨_, rfl, (by rw [hb52]; rfl)⟩⟩ rfl ?_
                    refine AOD.pure (LT.pickF (v := (.s (.c (bC (!r55))))) rfl hb52) ⟨rfl, rfl, trivial⟩ trivial rfl rfl ?_
                    refine AOD.nil (by kernel_rfl) ?_
                    refine AWR.nil ⟨rfl, Ent.of ⟨rfl, rfl, rfl, trivial⟩ ⟨rfl, trivial⟩⟩
                  · refine AOD.skip ⟨_, rfl, .inl ⟨_, rfl, (by rw [hb53]; rfl)⟩⟩ rfl ?_
                    refine AOD.skip ⟨_, rfl, .inl ⟨_, rfl, (by rw [hb53]; rfl)⟩⟩ rfl ?_
                    refine AOD.skip ⟨_, rfl, .inl ⟨_, rfl, (by rw [hb53]; rfl)⟩⟩ rfl ?_
                    refine AOD.skip ⟨_, rfl, .inl ⟨_, rfl, (by rw [hb53]; rfl)⟩⟩ rfl ?_
                    refine AOD.skip ⟨_, rfl, .inl ⟨_, rfl, (by rw [hb53]; rfl)⟩⟩ rfl ?_
                    refine AOD.skip ⟨_, rfl, .inl ⟨_, rfl, (by rw [hb53]; rfl)⟩⟩ rfl ?_
                    refine AOD.skip ⟨_, rfl, .inl ⟨_, rfl, (by rw [hb53]; rfl)⟩⟩ rfl ?_
                    refine AOD.skip ⟨_, rfl, .inl ⟨_, rfl, (by rw [hb53]; rfl)⟩⟩ rfl ?_
                    refine AOD.skip ⟨_, rfl, .inl ⟨_, rfl, (by rw [hb53]; rfl)⟩⟩ rfl ?_
                    refine AOD.pure (LT.pickF (v := (.s (.c (bC false)))) rfl hb53) ⟨rfl, ⟨rfl, rfl⟩, trivial⟩ trivial ⟨_, rfl, .inl ⟨_, rfl, (by rw [hb52]; rfl)⟩⟩ rfl ?_
                    refine AOD.pure (LT.pickF (v := (.s (.c (bC false)))) rfl hb52) ⟨rfl, rfl, trivial⟩ trivial rfl rfl ?_
                    refine AOD.nil (by kernel_rfl) ?_
                    refine AWR.nil ⟨rfl, Ent.of ⟨rfl, rfl, rfl, trivial⟩ ⟨rfl, trivial⟩⟩
          · refine AWR.cond rfl (fun hc56 => ?_) (fun hc56 => ?_)
            · refine AWR.seq ?_
              refine AWR.region ?_
              refine AOR.pure (LT.assign (v := (.s (.c (bC false)))) rfl) ⟨⟨rfl, rfl⟩, trivial⟩ trivial rfl rfl ?_
              refine AOR.nil ?_
              refine AWR.ret ⟨rfl, FPost.mk (.inr rfl) ⟨rfl, trivial⟩ trivial rfl ⟨PermP.sc, trivial⟩ trivial⟩
            · refine AWR.skip ?_
              refine AWR.blk ?_
              refine AWR.region ?_
              refine AOR.pure (LT.move (v := (.s (.c (iC s7)))) rfl) ⟨rfl, trivial⟩ trivial rfl rfl ?_
              refine AOR.pure (LT.add rfl) ⟨rfl, ⟨rfl, rfl⟩, trivial⟩ trivial rfl rfl ?_
              refine AOR.pure (LT.assign (v := (.s (.c (iC (w64 (s7 + 1)))))) rfl) ⟨rfl, trivial⟩ trivial rfl rfl ?_
              refine AOR.nil ?_
              refine AWR.nil ⟨rfl, Ent.of ⟨rfl, rfl, trivial⟩ ⟨rfl, trivial⟩⟩
        · refine AWR.exit_end rfl ⟨rfl, Ent.of trivial trivial⟩
      · refine AWR.seq ?_
        refine AWR.region ?_
        refine AOR.pure (LT.assign (v := (.s (.c (bC true)))) rfl) ⟨⟨rfl, rfl⟩, trivial⟩ trivial rfl rfl ?_
        refine AOR.nil ?_
        refine AWR.ret (FPost.mk (.inr rfl) ⟨rfl, trivial⟩ trivial rfl ⟨PermP.sc, trivial⟩ trivial)
end Go.Proofs.Ytfiiebikkimjbaa
