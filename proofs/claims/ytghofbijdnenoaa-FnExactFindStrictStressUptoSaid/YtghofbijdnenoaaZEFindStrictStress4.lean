/- Parts of a proof that a law of the program holds: what the program computes, and why that is right. -/
import Derived.Test.YtghofbijdnenoaaZEFindStrictStress3
section
set_option linter.unusedVariables false
set_option linter.unusedSimpArgs false
set_option linter.unnecessarySimpa false
set_option maxRecDepth 100000
set_option maxHeartbeats 8000000
open Go Go.Fw
namespace Go.Proofs.Ytghofbijdnenoaa
theorem w_spec_l2After (a : TBar) (b : TBar) : ∀ t, m_spec_l2After a b = some t → Fw.Fn Try.prog 207 [(.agg [(iC a.A), (iC a.B)]), (.agg [(iC b.A), (iC b.B)])] [] (.s (.c (bC t))) [] [] [] := by
 refine Fw.Fn.of (P := Try.prog) (X := []) (pn := []) (rs := (fun (t : Bool) => [(.c (bC t))])) (dfs := (fun (t : Bool) => [])) Try.func207 rfl Try.ntmps207 (Nat.le_of_ble_eq_true rfl) rfl ?_
 intro w0 U0 R0 g0
 unfold m_spec_l2After
 refine Ws (Wr ?_)
 refine Os10 (LT.box (n := 21) (v := (.agg [(iC a.A), (iC a.B)])) rfl sz62 (by exact rfl)) rfl rfl rfl ?_
 refine Os10 (LT.box (n := 22) (v := (.agg [(iC b.A), (iC b.B)])) rfl sz62 (by exact rfl)) rfl rfl rfl ?_
 refine asg (Bv false) rfl ⟨rfl, rfl⟩ rfl rfl ?_
 refine On (Ws ?_)
 refine AWR.joinK (fun j3 => ([(4, (Bv j3))], [])) ?_ (fun j3 _ => ?_)
 ·refine Wr ?_
  refine Op10 (LT.fieldPl rfl fo62_0) rfl rfl rfl ?_
  refine Op11 (LT.bload1 (c := (iC a.A)) rfl ag3 (by exact rfl)) rfl rfl rfl rfl ?_
  refine Op10 (LT.fieldPl rfl fo62_0) rfl rfl rfl ?_
  refine Op11 (LT.bload1 (c := (iC b.A)) rfl ag3 (by exact rfl)) rfl rfl rfl rfl ?_
  refine Op20 (LT.lss rfl) rfl rfl rfl rfl ?_
  refine mv (Bv (decide (a.A < b.A))) rfl rfl rfl rfl ?_
  refine AOR.split (fun hb4 => ?_) (fun hb4 => ?_)
  ·refine Ok rfl rfl rfl (by rw [hb4]; rfl) rfl ?_
   refine Ok rfl rfl rfl (by rw [hb4]; rfl) rfl ?_
   refine Ok rfl rfl rfl (by rw [hb4]; rfl) rfl ?_
   refine Ok rfl rfl rfl (by rw [hb4]; rfl) rfl ?_
   refine Ok rfl rfl rfl (by rw [hb4]; rfl) rfl ?_
   refine Ok rfl rfl rfl (by rw [hb4]; rfl) rfl ?_
   refine Oj rfl rfl rfl rfl ?_
   refine Oj rfl rfl rfl rfl ?_
   refine Oj rfl rfl rfl rfl ?_
   refine Oj rfl rfl rfl rfl ?_
   refine Oj rfl rfl rfl rfl ?_
   refine Ok rfl rfl rfl (by rw [hb4]; rfl) rfl ?_
   refine Op20 (LT.pickT (v := (Bv true)) rfl hb4) rfl ⟨rfl, rfl⟩ rfl rfl ?_
   refine asg (Bv true) rfl rfl rfl rfl ?_
   refine On ?_
   refine AWR.nil ⟨rfl, Ent.of ⟨rfl, trivial⟩ trivial⟩
  ·refine Op10 (LT.fieldPl rfl fo62_0) rfl ⟨_, rfl, .inl ⟨_, rfl, (by rw [hb4]; rfl)⟩⟩ rfl ?_
   refine Op11 (LT.bload1 (c := (iC a.A)) rfl ag3 (by exact rfl)) rfl rfl ⟨_, rfl, .inl ⟨_, rfl, (by rw [hb4]; rfl)⟩⟩ rfl ?_
   refine Op10 (LT.fieldPl rfl fo62_0) rfl ⟨_, rfl, .inl ⟨_, rfl, (by rw [hb4]; rfl)⟩⟩ rfl ?_
   refine Op11 (LT.bload1 (c := (iC b.A)) rfl ag3 (by exact rfl)) rfl rfl ⟨_, rfl, .inl ⟨_, rfl, (by rw [hb4]; rfl)⟩⟩ rfl ?_
   refine Op20 (LT.eql rfl) rfl rfl ⟨_, rfl, .inl ⟨_, rfl, (by rw [hb4]; rfl)⟩⟩ rfl ?_
   refine mv (Bv (a.A == b.A)) rfl rfl ⟨_, rfl, .inl ⟨_, rfl, (by rw [hb4]; rfl)⟩⟩ rfl ?_
   refine AOR.split (fun hb5 => ?_) (fun hb5 => ?_)
   ·refine Op10 (LT.fieldPl rfl fo62_1) rfl ⟨_, rfl, .inl ⟨_, rfl, (by rw [hb5]; rfl)⟩⟩ rfl ?_
    refine Op11 (LT.bload1 (c := (iC a.B)) rfl ag3 (by exact rfl)) rfl rfl ⟨_, rfl, .inl ⟨_, rfl, (by rw [hb5]; rfl)⟩⟩ rfl ?_
    refine Op10 (LT.fieldPl rfl fo62_1) rfl ⟨_, rfl, .inl ⟨_, rfl, (by rw [hb5]; rfl)⟩⟩ rfl ?_
    refine Op11 (LT.bload1 (c := (iC b.B)) rfl ag3 (by exact rfl)) rfl rfl ⟨_, rfl, .inl ⟨_, rfl, (by rw [hb5]; rfl)⟩⟩ rfl ?_
    refine Op20 (LT.leq rfl) rfl rfl ⟨_, rfl, .inl ⟨_, rfl, (by rw [hb5]; rfl)⟩⟩ rfl ?_
    refine Op20 (LT.pickT (v := (Bv (decide (a.B ≤ b.B)))) rfl hb5) rfl rfl ⟨_, rfl, .inl ⟨_, rfl, (by rw [hb4]; rfl)⟩⟩ rfl ?_
    refine Op20 (LT.pickF (v := (Bv (decide (a.B ≤ b.B)))) rfl hb4) rfl rfl rfl rfl ?_
    refine asg (Bv (decide (a.B ≤ b.B))) rfl rfl rfl rfl ?_
    refine On ?_
    refine AWR.nil ⟨rfl, Ent.of ⟨rfl, trivial⟩ trivial⟩
   ·refine Ok rfl rfl rfl (by rw [hb5]; rfl) rfl ?_
    refine Ok rfl rfl rfl (by rw [hb5]; rfl) rfl ?_
    refine Ok rfl rfl rfl (by rw [hb5]; rfl) rfl ?_
    refine Ok rfl rfl rfl (by rw [hb5]; rfl) rfl ?_
    refine Ok rfl rfl rfl (by rw [hb5]; rfl) rfl ?_
    refine Op20 (LT.pickF (v := (Bv false)) rfl hb5) rfl ⟨rfl, rfl⟩ ⟨_, rfl, .inl ⟨_, rfl, (by rw [hb4]; rfl)⟩⟩ rfl ?_
    refine Op20 (LT.pickF (v := (Bv false)) rfl hb4) rfl rfl rfl rfl ?_
    refine asg (Bv false) rfl rfl rfl rfl ?_
    refine On ?_
    refine AWR.nil ⟨rfl, Ent.of ⟨rfl, trivial⟩ trivial⟩
 ·refine AWR.ret (FPost.mk (.inr rfl) ⟨rfl, trivial⟩ trivial rfl ⟨PermP.sc, trivial⟩ trivial)
theorem w_spec_l1In (x : Int) (low : Int) (high : Int) : ∀ t, m_spec_l1In x low high = some t → Fw.Fn Try.prog 110 [(.c (iC x)), (.c (iC low)), (.c (iC high))] [] (.s (.c (bC t))) [] [] [] := by
 refine Fw.Fn.of (P := Try.prog) (X := []) (pn := []) (rs := (fun (t : Bool) => [(.c (bC t))])) (dfs := (fun (t : Bool) => [])) Try.func110 rfl Try.ntmps110 (Nat.le_of_ble_eq_true rfl) rfl ?_
 intro w0 U0 R0 g0
 unfold m_spec_l1In
 refine Ws (Wr ?_)
 refine asg (Bv false) rfl ⟨rfl, rfl⟩ rfl rfl ?_
 refine On (Ws ?_)
 refine AWR.joinK (fun j2 => ([(6, (Bv j2))], [])) ?_ (fun j2 _ => ?_)
 ·refine Wr ?_
  refine mv (Iv x) rfl rfl rfl rfl ?_
  refine mv (Iv low) rfl rfl rfl rfl ?_
  refine Op20 (LT.geq rfl) rfl rfl rfl rfl ?_
  refine mv (Bv (decide (low ≤ x))) rfl rfl rfl rfl ?_
  refine AOR.split (fun hb3 => ?_) (fun hb3 => ?_)
  ·refine mv (Iv x) rfl rfl ⟨_, rfl, .inl ⟨_, rfl, (by rw [hb3]; rfl)⟩⟩ rfl ?_
   refine mv (Iv high) rfl rfl ⟨_, rfl, .inl ⟨_, rfl, (by rw [hb3]; rfl)⟩⟩ rfl ?_
   refine Op20 (LT.leq rfl) rfl rfl ⟨_, rfl, .inl ⟨_, rfl, (by rw [hb3]; rfl)⟩⟩ rfl ?_
   refine Op20 (LT.pickT (v := (Bv (decide (x ≤ high)))) rfl hb3) rfl rfl rfl rfl ?_
   refine asg (Bv (decide (x ≤ high))) rfl rfl rfl rfl ?_
   refine On ?_
   refine AWR.nil ⟨rfl, Ent.of ⟨rfl, trivial⟩ trivial⟩
  ·refine Ok rfl rfl rfl (by rw [hb3]; rfl) rfl ?_
   refine Ok rfl rfl rfl (by rw [hb3]; rfl) rfl ?_
   refine Ok rfl rfl rfl (by rw [hb3]; rfl) rfl ?_
   refine Op20 (LT.pickF (v := (Bv false)) rfl hb3) rfl ⟨rfl, rfl⟩ rfl rfl ?_
   refine asg (Bv false) rfl rfl rfl rfl ?_
   refine On ?_
   refine AWR.nil ⟨rfl, Ent.of ⟨rfl, trivial⟩ trivial⟩
 ·refine AWR.ret (FPost.mk (.inr rfl) ⟨rfl, trivial⟩ trivial rfl ⟨PermP.sc, trivial⟩ trivial)
theorem w_spec_IsGraph (g : TGraph) : ∀ t, m_spec_IsGraph g = some t → Fw.Fn Try.prog 109 [(.agg [(iC g.Points), (xF encTBar g.Bars)])] [] (.s (.c (bC t))) [] [] [] := by
 refine Fw.Fn.of (P := Try.prog) (X := []) (pn := []) (rs := (fun (t : Bool) => [(.c (bC t))])) (dfs := (fun (t : Bool) => [])) Try.func109 rfl Try.ntmps109 (Nat.le_of_ble_eq_true rfl) rfl ?_
 intro w0 U0 R0 g0
 unfold m_spec_IsGraph
 refine Ws (Wr ?_)
 refine Os10 (LT.box (n := 21) (v := (.agg [(iC g.Points), (xF encTBar g.Bars)])) rfl sz26 (by exact rfl)) rfl rfl rfl ?_
 refine asg (Bv false) rfl ⟨rfl, rfl⟩ rfl rfl ?_
 refine On (Ws (Ws ?_))
 refine AWR.joinK (fun j3 => ([(1, (Cc (.pl 21 0))), (14, (Bv j3))], [(21, (.row 26 [[(iC g.Points), (xF encTBar g.Bars)]]))])) ?_ (fun j3 _ => ?_)
 ·refine Wr ?_
  refine Op10 (LT.fieldPl rfl fo26_0) rfl rfl rfl ?_
  refine Op11 (LT.bload1 (c := (iC g.Points)) rfl ag3 (by exact rfl)) rfl rfl rfl rfl ?_
  refine Ob' fun r4 hr4 => ?_
  refine AOR.pure (@LT.callF Try.prog _ _ 110 _ _ [(.c (iC g.Points)), (.c (iC 1)), (.c (iC 8))] _ _ [] _ _ _ _ (w_spec_l1In g.Points 1 8 r4 hr4) rfl cb110 (.cons (.c (.same rfl)) (.cons (.c (.same rfl)) (.cons (.c (.same rfl)) .nil))) rfl rfl trivial) ⟨rfl, rfl, ⟨rfl, rfl⟩, ⟨rfl, rfl⟩, trivial⟩ trivial rfl rfl ?_
  refine Op10 (LT.not rfl) rfl rfl rfl ?_
  refine mv (Bv (!r4)) rfl rfl rfl rfl ?_
  refine AOR.split (fun hb5 => ?_) (fun hb5 => ?_)
  ·refine Ok rfl rfl rfl (by rw [hb5]; rfl) rfl ?_
   refine Ok rfl rfl rfl (by rw [hb5]; rfl) rfl ?_
   refine Ok rfl rfl rfl (by rw [hb5]; rfl) rfl ?_
   refine Ok rfl rfl rfl (by rw [hb5]; rfl) rfl ?_
   refine Op20 (LT.pickT (v := (Bv true)) rfl hb5) rfl ⟨rfl, rfl⟩ rfl rfl ?_
   refine On ?_
   refine AWR.nil ⟨rfl, Ent.of ⟨rfl, rfl, trivial⟩ ⟨rfl, trivial⟩⟩
  ·refine Op10 (LT.fieldPl rfl fo26_1) rfl ⟨_, rfl, .inl ⟨_, rfl, (by rw [hb5]; rfl)⟩⟩ rfl ?_
   refine Op11 (LT.bload1 (c := (xF encTBar g.Bars)) rfl ag24 (by exact rfl)) rfl rfl ⟨_, rfl, .inl ⟨_, rfl, (by rw [hb5]; rfl)⟩⟩ rfl ?_
   refine Op10 (LT.tlenRO rfl und24) rfl ⟨_, rfl, .inl ⟨_, rfl, (by rw [hb5]; rfl)⟩⟩ rfl ?_
   refine Op20 (LT.gtr rfl) rfl ⟨rfl, rfl⟩ ⟨_, rfl, .inl ⟨_, rfl, (by rw [hb5]; rfl)⟩⟩ rfl ?_
   refine Op20 (LT.pickF (v := (Bv (decide (24 < (g.Bars.length : Int))))) rfl hb5) rfl rfl rfl rfl ?_
   refine On ?_
   refine AWR.nil ⟨rfl, Ent.of ⟨rfl, rfl, trivial⟩ ⟨rfl, trivial⟩⟩
 ·refine AWR.cond rfl (fun hc6 => ?_) (fun hc6 => ?_)
  ·refine Ws (Wr ?_)
   refine asg (Bv false) rfl ⟨rfl, rfl⟩ rfl rfl ?_
   refine On ?_
   refine AWR.ret (FPost.mk (.inr rfl) ⟨rfl, trivial⟩ trivial rfl ⟨PermP.sc, trivial⟩ trivial)
  ·refine AWR.skip (Ws (Ws (Wr ?_)))
   refine asg (Iv 0) rfl ⟨rfl, rfl⟩ rfl rfl ?_
   refine On (AWR.block ?_)
   refine AWR.loopR (id := 0) (m_spec_IsGraph_L1 g) (fun s7 => ([(1, (Cc (.pl 21 0))), (3, (Iv s7))], [(21, (.row 26 [[(iC g.Points), (xF encTBar g.Bars)]]))])) (fun b40 => ([], [])) (FPost Try.prog Try.f109.results.toList [] [] (fun (t : Bool) => [(.c (bC t))]) (fun (t : Bool) => [])) ?_ (Ent.of ⟨rfl, rfl, trivial⟩ ⟨rfl, trivial⟩) rfl (fun b40 _ => ?_) (by intro r t σ m ht hk; injection ht with ht; subst ht; exact hk)
   ·intro s7
    unfold m_spec_IsGraph_L1
    refine Ws (Ws (Wr ?_))
    refine mv (Iv s7) rfl rfl rfl rfl ?_
    refine Op10 (LT.fieldPl rfl fo26_1) rfl rfl rfl ?_
    refine Op11 (LT.bload1 (c := (xF encTBar g.Bars)) rfl ag24 (by exact rfl)) rfl rfl rfl rfl ?_
    refine Op10 (LT.tlenRO rfl und24) rfl rfl rfl ?_
    refine Op20 (LT.lss rfl) rfl rfl rfl rfl ?_
    refine On ?_
    refine AWR.cond rfl (fun hc41 => ?_) (fun hc41 => ?_)
    ·refine AWR.skip (Ws (AWR.block (Ws (Wr ?_))))
     refine Op10 (LT.fieldPl rfl fo26_1) rfl rfl rfl ?_
     refine Op11 (LT.bload1 (c := (xF encTBar g.Bars)) rfl ag24 (by exact rfl)) rfl rfl rfl rfl ?_
     refine mv (Iv s7) rfl rfl rfl rfl ?_
     refine Ob' fun x42 hx42 => ?_
     refine Op20 (LT.tindexRO (enc := encTBar) rfl el24 hx42 sz62) rfl rfl rfl rfl ?_
     refine Op10 (LT.loadPxN rfl ag62 (infS inf62) (by exact sz62.symm)) rfl rfl rfl ?_
     refine Os00 (LT.alloc (n := 23) (cells := [(iC 0), (iC 0)]) rfl ti62 rfl rfl rfl) rfl rfl ?_
     refine Os21 (LT.bstore (v := (.agg [(iC x42.A), (iC x42.B)])) (out := [(iC x42.A), (iC x42.B)]) rfl rfl (infS inf62) sz62 (by exact rfl) (by exact Nat.le_of_ble_eq_true rfl) (by exact rfl)) rfl rfl rfl rfl rfl ?_
     refine On (Ws ?_)
     refine AWR.joinK (fun j49 => ([(1, (Cc (.pl 21 0))), (3, (Iv s7)), (58, (Bv j49))], [(21, (.row 26 [[(iC g.Points), (xF encTBar g.Bars)]]))])) ?_ (fun j49 _ => ?_)
     ·refine en [(1, (Cc (.pl 21 0))), (3, (Iv s7)), (4, (Cc (.pl 23 0)))] [(21, (.row 26 [[(iC g.Points), (xF encTBar g.Bars)]])), (23, (.row 62 [[(iC x42.A), (iC x42.B)]]))] ⟨rfl, rfl, rfl, trivial⟩ ⟨rfl, rfl, trivial⟩ ?_
      refine AWR.draw mixed ?_
      refine Dp10 (LT.fieldPl rfl fo62_0) rfl rfl rfl ?_
      refine Dp11 (LT.bload1 (c := (iC x42.A)) rfl ag3 (by exact rfl)) rfl rfl rfl rfl ?_
      refine Dp20 (LT.lss rfl) rfl ⟨rfl, rfl⟩ rfl rfl ?_
      refine Dp10 (LT.move (v := (Bv (decide (x42.A < 0)))) rfl) rfl rfl rfl ?_
      refine AOD.split (fun hb50 => ?_) (fun hb50 => ?_)
      ·refine AOD.skip ⟨_, rfl, .inl ⟨_, rfl, (by rw [hb50]; rfl)⟩⟩ rfl ?_
       refine AOD.skip ⟨_, rfl, .inl ⟨_, rfl, (by rw [hb50]; rfl)⟩⟩ rfl ?_
       refine AOD.skip ⟨_, rfl, .inl ⟨_, rfl, (by rw [hb50]; rfl)⟩⟩ rfl ?_
       refine AOD.skip ⟨_, rfl, .inl ⟨_, rfl, (by rw [hb50]; rfl)⟩⟩ rfl ?_
       refine AOD.skip ⟨_, rfl, .inl ⟨_, rfl, (by rw [hb50]; rfl)⟩⟩ rfl ?_
       refine Dp20 (LT.pickT (v := (Bv true)) rfl hb50) rfl ⟨rfl, rfl⟩ rfl rfl ?_
       refine Dp10 (LT.move (v := (Bv true)) rfl) rfl rfl rfl ?_
       refine AOD.skip ⟨_, rfl, .inl ⟨_, rfl, rfl⟩⟩ rfl ?_
       refine AOD.skip ⟨_, rfl, .inl ⟨_, rfl, rfl⟩⟩ rfl ?_
       refine AOD.skip ⟨_, rfl, .inl ⟨_, rfl, rfl⟩⟩ rfl ?_
       refine AOD.skip ⟨_, rfl, .inl ⟨_, rfl, rfl⟩⟩ rfl ?_
       refine AOD.skip ⟨_, rfl, .inl ⟨_, rfl, rfl⟩⟩ rfl ?_
       refine Dp20 (LT.pickT (v := (Bv true)) rfl rfl) rfl ⟨rfl, rfl⟩ rfl rfl ?_
       refine Dp10 (LT.move (v := (Bv true)) rfl) rfl rfl rfl ?_
       refine AOD.skip ⟨_, rfl, .inl ⟨_, rfl, rfl⟩⟩ rfl ?_
       refine AOD.skip ⟨_, rfl, .inl ⟨_, rfl, rfl⟩⟩ rfl ?_
       refine AOD.skip ⟨_, rfl, .inl ⟨_, rfl, rfl⟩⟩ rfl ?_
       refine AOD.skip ⟨_, rfl, .inr ⟨rfl, rfl⟩⟩ rfl ?_
       refine AOD.skip ⟨_, rfl, .inr ⟨rfl, rfl⟩⟩ rfl ?_
       refine AOD.skip ⟨_, rfl, .inr ⟨rfl, rfl⟩⟩ rfl ?_
       refine AOD.skip ⟨_, rfl, .inr ⟨rfl, rfl⟩⟩ rfl ?_
       refine AOD.skip ⟨_, rfl, .inr ⟨rfl, rfl⟩⟩ rfl ?_
       refine AOD.skip ⟨_, rfl, .inr ⟨rfl, rfl⟩⟩ rfl ?_
       refine AOD.skip ⟨_, rfl, .inr ⟨rfl, rfl⟩⟩ rfl ?_
       refine AOD.skip ⟨_, rfl, .inr ⟨rfl, rfl⟩⟩ rfl ?_
       refine AOD.skip ⟨_, rfl, .inr ⟨rfl, rfl⟩⟩ rfl ?_
       refine AOD.skip ⟨_, rfl, .inl ⟨_, rfl, rfl⟩⟩ rfl ?_
       refine Dp20 (LT.pickT (v := (Bv true)) rfl rfl) rfl ⟨rfl, rfl⟩ rfl rfl ?_
       refine AOD.nil (by kernel_rfl) ?_
       refine AWR.nil ⟨rfl, Ent.of ⟨rfl, rfl, rfl, trivial⟩ ⟨rfl, trivial⟩⟩
      ·refine Dp10 (LT.fieldPl rfl fo62_0) rfl ⟨_, rfl, .inl ⟨_, rfl, (by rw [hb50]; rfl)⟩⟩ rfl ?_
       refine Dp11 (LT.bload1 (c := (iC x42.A)) rfl ag3 (by exact rfl)) rfl rfl ⟨_, rfl, .inl ⟨_, rfl, (by rw [hb50]; rfl)⟩⟩ rfl ?_
       refine Dp10 (LT.fieldPl rfl fo62_1) rfl ⟨_, rfl, .inl ⟨_, rfl, (by rw [hb50]; rfl)⟩⟩ rfl ?_
       refine Dp11 (LT.bload1 (c := (iC x42.B)) rfl ag3 (by exact rfl)) rfl rfl ⟨_, rfl, .inl ⟨_, rfl, (by rw [hb50]; rfl)⟩⟩ rfl ?_
       refine Dp20 (LT.geq rfl) rfl rfl ⟨_, rfl, .inl ⟨_, rfl, (by rw [hb50]; rfl)⟩⟩ rfl ?_
       refine Dp20 (LT.pickF (v := (Bv (decide (x42.B ≤ x42.A)))) rfl hb50) rfl rfl rfl rfl ?_
       refine Dp10 (LT.move (v := (Bv (decide (x42.B ≤ x42.A)))) rfl) rfl rfl rfl ?_
       refine AOD.split (fun hb51 => ?_) (fun hb51 => ?_)
       ·refine AOD.skip ⟨_, rfl, .inl ⟨_, rfl, (by rw [hb51]; rfl)⟩⟩ rfl ?_
        refine AOD.skip ⟨_, rfl, .inl ⟨_, rfl, (by rw [hb51]; rfl)⟩⟩ rfl ?_
        refine AOD.skip ⟨_, rfl, .inl ⟨_, rfl, (by rw [hb51]; rfl)⟩⟩ rfl ?_
        refine AOD.skip ⟨_, rfl, .inl ⟨_, rfl, (by rw [hb51]; rfl)⟩⟩ rfl ?_
        refine AOD.skip ⟨_, rfl, .inl ⟨_, rfl, (by rw [hb51]; rfl)⟩⟩ rfl ?_
        refine Dp20 (LT.pickT (v := (Bv true)) rfl hb51) rfl ⟨rfl, rfl⟩ rfl rfl ?_
        refine Dp10 (LT.move (v := (Bv true)) rfl) rfl rfl rfl ?_
        refine AOD.skip ⟨_, rfl, .inl ⟨_, rfl, rfl⟩⟩ rfl ?_
        refine AOD.skip ⟨_, rfl, .inl ⟨_, rfl, rfl⟩⟩ rfl ?_
        refine AOD.skip ⟨_, rfl, .inl ⟨_, rfl, rfl⟩⟩ rfl ?_
        refine AOD.skip ⟨_, rfl, .inr ⟨rfl, rfl⟩⟩ rfl ?_
        refine AOD.skip ⟨_, rfl, .inr ⟨rfl, rfl⟩⟩ rfl ?_
        refine AOD.skip ⟨_, rfl, .inr ⟨rfl, rfl⟩⟩ rfl ?_
        refine AOD.skip ⟨_, rfl, .inr ⟨rfl, rfl⟩⟩ rfl ?_
        refine AOD.skip ⟨_, rfl, .inr ⟨rfl, rfl⟩⟩ rfl ?_
        refine AOD.skip ⟨_, rfl, .inr ⟨rfl, rfl⟩⟩ rfl ?_
        refine AOD.skip ⟨_, rfl, .inr ⟨rfl, rfl⟩⟩ rfl ?_
        refine AOD.skip ⟨_, rfl, .inr ⟨rfl, rfl⟩⟩ rfl ?_
        refine AOD.skip ⟨_, rfl, .inr ⟨rfl, rfl⟩⟩ rfl ?_
        refine AOD.skip ⟨_, rfl, .inl ⟨_, rfl, rfl⟩⟩ rfl ?_
        refine Dp20 (LT.pickT (v := (Bv true)) rfl rfl) rfl ⟨rfl, rfl⟩ rfl rfl ?_
        refine AOD.nil (by kernel_rfl) ?_
        refine AWR.nil ⟨rfl, Ent.of ⟨rfl, rfl, rfl, trivial⟩ ⟨rfl, trivial⟩⟩
       ·refine Dp10 (LT.fieldPl rfl fo62_1) rfl ⟨_, rfl, .inl ⟨_, rfl, (by rw [hb51]; rfl)⟩⟩ rfl ?_
        refine Dp11 (LT.bload1 (c := (iC x42.B)) rfl ag3 (by exact rfl)) rfl rfl ⟨_, rfl, .inl ⟨_, rfl, (by rw [hb51]; rfl)⟩⟩ rfl ?_
        refine Dp10 (LT.fieldPl rfl fo26_0) rfl ⟨_, rfl, .inl ⟨_, rfl, (by rw [hb51]; rfl)⟩⟩ rfl ?_
        refine Dp11 (LT.bload1 (c := (iC g.Points)) rfl ag3 (by exact rfl)) rfl rfl ⟨_, rfl, .inl ⟨_, rfl, (by rw [hb51]; rfl)⟩⟩ rfl ?_
        refine Dp20 (LT.geq rfl) rfl rfl ⟨_, rfl, .inl ⟨_, rfl, (by rw [hb51]; rfl)⟩⟩ rfl ?_
        refine Dp20 (LT.pickF (v := (Bv (decide (g.Points ≤ x42.B)))) rfl hb51) rfl rfl rfl rfl ?_
        refine Dp10 (LT.move (v := (Bv (decide (g.Points ≤ x42.B)))) rfl) rfl rfl rfl ?_
        refine AOD.split (fun hb52 => ?_) (fun hb52 => ?_)
        ·refine AOD.skip ⟨_, rfl, .inl ⟨_, rfl, (by rw [hb52]; rfl)⟩⟩ rfl ?_
         refine AOD.skip ⟨_, rfl, .inl ⟨_, rfl, (by rw [hb52]; rfl)⟩⟩ rfl ?_
         refine AOD.skip ⟨_, rfl, .inl ⟨_, rfl, (by rw [hb52]; rfl)⟩⟩ rfl ?_
         refine AOD.skip ⟨_, rfl, .inr ⟨rfl, rfl⟩⟩ rfl ?_
         refine AOD.skip ⟨_, rfl, .inr ⟨rfl, rfl⟩⟩ rfl ?_
         refine AOD.skip ⟨_, rfl, .inr ⟨rfl, rfl⟩⟩ rfl ?_
         refine AOD.skip ⟨_, rfl, .inr ⟨rfl, rfl⟩⟩ rfl ?_
         refine AOD.skip ⟨_, rfl, .inr ⟨rfl, rfl⟩⟩ rfl ?_
         refine AOD.skip ⟨_, rfl, .inr ⟨rfl, rfl⟩⟩ rfl ?_
         refine AOD.skip ⟨_, rfl, .inr ⟨rfl, rfl⟩⟩ rfl ?_
         refine AOD.skip ⟨_, rfl, .inr ⟨rfl, rfl⟩⟩ rfl ?_
         refine AOD.skip ⟨_, rfl, .inr ⟨rfl, rfl⟩⟩ rfl ?_
         refine AOD.skip ⟨_, rfl, .inl ⟨_, rfl, (by rw [hb52]; rfl)⟩⟩ rfl ?_
         refine Dp20 (LT.pickT (v := (Bv true)) rfl hb52) rfl ⟨rfl, rfl⟩ rfl rfl ?_
         refine AOD.nil (by kernel_rfl) ?_
         refine AWR.nil ⟨rfl, Ent.of ⟨rfl, rfl, rfl, trivial⟩ ⟨rfl, trivial⟩⟩
        ·refine Dp10 (LT.move (v := (Iv s7)) rfl) rfl ⟨_, rfl, .inl ⟨_, rfl, (by rw [hb52]; rfl)⟩⟩ rfl ?_
         refine Dp20 (LT.gtr rfl) rfl ⟨rfl, rfl⟩ ⟨_, rfl, .inl ⟨_, rfl, (by rw [hb52]; rfl)⟩⟩ rfl ?_
         refine Dp10 (LT.move (v := (Bv (decide (0 < s7)))) rfl) rfl ⟨_, rfl, .inl ⟨_, rfl, (by rw [hb52]; rfl)⟩⟩ rfl ?_
         refine AOD.split (fun hb53 => ?_) (fun hb53 => ?_)
         ·refine Dp10 (LT.fieldPl rfl fo26_1) rfl ⟨_, rfl, .inl ⟨_, rfl, (by rw [hb53]; rfl)⟩⟩ rfl ?_
          refine Dp11 (LT.bload1 (c := (xF encTBar g.Bars)) rfl ag24 (by exact rfl)) rfl rfl ⟨_, rfl, .inl ⟨_, rfl, (by rw [hb53]; rfl)⟩⟩ rfl ?_
          refine Dp10 (LT.move (v := (Iv s7)) rfl) rfl ⟨_, rfl, .inl ⟨_, rfl, (by rw [hb53]; rfl)⟩⟩ rfl ?_
          refine Dp20 (LT.sub rfl) rfl ⟨rfl, rfl⟩ ⟨_, rfl, .inl ⟨_, rfl, (by rw [hb53]; rfl)⟩⟩ rfl ?_
          refine AOD.bind fun x54 hx54 => ?_
          refine Dp20 (LT.tindexRO (enc := encTBar) rfl el24 hx54 sz62) rfl rfl ⟨_, rfl, .inl ⟨_, rfl, (by rw [hb53]; rfl)⟩⟩ rfl ?_
          refine Dp10 (LT.loadPxN rfl ag62 (infS inf62) (by exact sz62.symm)) rfl ⟨_, rfl, .inl ⟨_, rfl, (by rw [hb53]; rfl)⟩⟩ rfl ?_
          refine Dp11 (LT.bloadN (out := [(iC x42.A), (iC x42.B)]) rfl ag62 (infS inf62) sz62 (by exact rfl) (by exact rfl)) rfl rfl ⟨_, rfl, .inl ⟨_, rfl, (by rw [hb53]; rfl)⟩⟩ rfl ?_
          refine AOD.bind fun r55 hr55 => ?_
          refine AOD.pure (@LT.callF Try.prog _ _ 207 _ _ [(.agg [(iC x54.A), (iC x54.B)]), (.agg [(iC x42.A), (iC x42.B)])] _ _ [] _ _ _ _ (w_spec_l2After x54 x42 r55 hr55) rfl cb207 (.cons (.agg (.cons (.same rfl) (.cons (.same rfl) .nil))) (.cons (.agg (.cons (.same rfl) (.cons (.same rfl) .nil))) .nil)) rfl rfl trivial) ⟨rfl, rfl, rfl, trivial⟩ trivial ⟨_, rfl, .inl ⟨_, rfl, (by rw [hb53]; rfl)⟩⟩ rfl ?_
          refine Dp10 (LT.not rfl) rfl ⟨_, rfl, .inl ⟨_, rfl, (by rw [hb53]; rfl)⟩⟩ rfl ?_
          refine Dp20 (LT.pickT (v := (Bv (!r55))) rfl hb53) rfl rfl ⟨_, rfl, .inl ⟨_, rfl, (by rw [hb52]; rfl)⟩⟩ rfl ?_
          refine Dp20 (LT.pickF (v := (Bv (!r55))) rfl hb52) rfl rfl rfl rfl ?_
          refine AOD.nil (by kernel_rfl) ?_
          refine AWR.nil ⟨rfl, Ent.of ⟨rfl, rfl, rfl, trivial⟩ ⟨rfl, trivial⟩⟩
         ·refine AOD.skip ⟨_, rfl, .inl ⟨_, rfl, (by rw [hb53]; rfl)⟩⟩ rfl ?_
          refine AOD.skip ⟨_, rfl, .inl ⟨_, rfl, (by rw [hb53]; rfl)⟩⟩ rfl ?_
          refine AOD.skip ⟨_, rfl, .inl ⟨_, rfl, (by rw [hb53]; rfl)⟩⟩ rfl ?_
          refine AOD.skip ⟨_, rfl, .inl ⟨_, rfl, (by rw [hb53]; rfl)⟩⟩ rfl ?_
          refine AOD.skip ⟨_, rfl, .inl ⟨_, rfl, (by rw [hb53]; rfl)⟩⟩ rfl ?_
          refine AOD.skip ⟨_, rfl, .inl ⟨_, rfl, (by rw [hb53]; rfl)⟩⟩ rfl ?_
          refine AOD.skip ⟨_, rfl, .inl ⟨_, rfl, (by rw [hb53]; rfl)⟩⟩ rfl ?_
          refine AOD.skip ⟨_, rfl, .inl ⟨_, rfl, (by rw [hb53]; rfl)⟩⟩ rfl ?_
          refine AOD.skip ⟨_, rfl, .inl ⟨_, rfl, (by rw [hb53]; rfl)⟩⟩ rfl ?_
          refine Dp20 (LT.pickF (v := (Bv false)) rfl hb53) rfl ⟨rfl, rfl⟩ ⟨_, rfl, .inl ⟨_, rfl, (by rw [hb52]; rfl)⟩⟩ rfl ?_
          refine Dp20 (LT.pickF (v := (Bv false)) rfl hb52) rfl rfl rfl rfl ?_
          refine AOD.nil (by kernel_rfl) ?_
          refine AWR.nil ⟨rfl, Ent.of ⟨rfl, rfl, rfl, trivial⟩ ⟨rfl, trivial⟩⟩
     ·refine AWR.cond rfl (fun hc56 => ?_) (fun hc56 => ?_)
      ·refine Ws (Wr ?_)
       refine asg (Bv false) rfl ⟨rfl, rfl⟩ rfl rfl ?_
       refine On ?_
       refine AWR.ret ⟨rfl, FPost.mk (.inr rfl) ⟨rfl, trivial⟩ trivial rfl ⟨PermP.sc, trivial⟩ trivial⟩
      ·refine AWR.skip (AWR.blk (Wr ?_))
       refine mv (Iv s7) rfl rfl rfl rfl ?_
       refine Op20 (LT.add rfl) rfl ⟨rfl, rfl⟩ rfl rfl ?_
       refine asg (Iv (w64 (s7 + 1))) rfl rfl rfl rfl ?_
       refine On ?_
       refine AWR.nil ⟨rfl, Ent.of ⟨rfl, rfl, trivial⟩ ⟨rfl, trivial⟩⟩
    ·refine AWR.exit_end rfl ⟨rfl, Ent.of trivial trivial⟩
   ·refine Ws (Wr ?_)
    refine asg (Bv true) rfl ⟨rfl, rfl⟩ rfl rfl ?_
    refine On ?_
    refine AWR.ret (FPost.mk (.inr rfl) ⟨rfl, trivial⟩ trivial rfl ⟨PermP.sc, trivial⟩ trivial)
theorem w_impl_within (x : Int) (lo : Int) (hi : Int) : ∀ t, m_impl_within x lo hi = some t → Fw.Fn Try.prog 128 [(.c (iC x)), (.c (iC lo)), (.c (iC hi))] [] (.s (.c (bC t))) [] [] [] := by
 refine Fw.Fn.of (P := Try.prog) (X := []) (pn := []) (rs := (fun (t : Bool) => [(.c (bC t))])) (dfs := (fun (t : Bool) => [])) Try.func128 rfl Try.ntmps128 (Nat.le_of_ble_eq_true rfl) rfl ?_
 intro w0 U0 R0 g0
 unfold m_impl_within
 refine Ws (Wr ?_)
 refine asg (Bv false) rfl ⟨rfl, rfl⟩ rfl rfl ?_
 refine On (Ws ?_)
 refine AWR.joinK (fun j2 => ([(6, (Bv j2))], [])) ?_ (fun j2 _ => ?_)
 ·refine Wr ?_
  refine mv (Iv x) rfl rfl rfl rfl ?_
  refine mv (Iv lo) rfl rfl rfl rfl ?_
  refine Op20 (LT.geq rfl) rfl rfl rfl rfl ?_
  refine mv (Bv (decide (lo ≤ x))) rfl rfl rfl rfl ?_
  refine AOR.split (fun hb3 => ?_) (fun hb3 => ?_)
  ·refine mv (Iv x) rfl rfl ⟨_, rfl, .inl ⟨_, rfl, (by rw [hb3]; rfl)⟩⟩ rfl ?_
   refine mv (Iv hi) rfl rfl ⟨_, rfl, .inl ⟨_, rfl, (by rw [hb3]; rfl)⟩⟩ rfl ?_
   refine Op20 (LT.leq rfl) rfl rfl ⟨_, rfl, .inl ⟨_, rfl, (by rw [hb3]; rfl)⟩⟩ rfl ?_
   refine Op20 (LT.pickT (v := (Bv (decide (x ≤ hi)))) rfl hb3) rfl rfl rfl rfl ?_
   refine asg (Bv (decide (x ≤ hi))) rfl rfl rfl rfl ?_
   refine On ?_
   refine AWR.nil ⟨rfl, Ent.of ⟨rfl, trivial⟩ trivial⟩
  ·refine Ok rfl rfl rfl (by rw [hb3]; rfl) rfl ?_
   refine Ok rfl rfl rfl (by rw [hb3]; rfl) rfl ?_
   refine Ok rfl rfl rfl (by rw [hb3]; rfl) rfl ?_
   refine Op20 (LT.pickF (v := (Bv false)) rfl hb3) rfl ⟨rfl, rfl⟩ rfl rfl ?_
   refine asg (Bv false) rfl rfl rfl rfl ?_
   refine On ?_
   refine AWR.nil ⟨rfl, Ent.of ⟨rfl, trivial⟩ trivial⟩
 ·refine AWR.ret (FPost.mk (.inr rfl) ⟨rfl, trivial⟩ trivial rfl ⟨PermP.sc, trivial⟩ trivial)
theorem w_impl_compareInts (a : Int) (b : Int) : ∀ t, m_impl_compareInts a b = some t → Fw.Fn Try.prog 248 [(.c (iC a)), (.c (iC b))] [] (.s (.c (iC t))) [] [] [] := by
 refine Fw.Fn.of (P := Try.prog) (X := []) (pn := []) (rs := (fun (t : Int) => [(.c (iC t))])) (dfs := (fun (t : Int) => [])) Try.func248 rfl Try.ntmps248 (Nat.le_of_ble_eq_true rfl) rfl ?_
 intro w0 U0 R0 g0
 unfold m_impl_compareInts
 refine Ws (Wr ?_)
 refine asg (Iv 0) rfl ⟨rfl, rfl⟩ rfl rfl ?_
 refine On (Ws (AWR.block (Ws (Wr ?_))))
 refine mv (Iv a) rfl rfl rfl rfl ?_
 refine mv (Iv b) rfl rfl rfl rfl ?_
 refine Op20 (LT.lss rfl) rfl rfl rfl rfl ?_
 refine asg (Bv (decide (a < b))) rfl rfl rfl rfl ?_
 refine On ?_
 refine AWR.cond rfl (fun hc1 => ?_) (fun hc1 => ?_)
 ·refine Ws (Wr ?_)
  refine asg (Iv (-1)) rfl ⟨rfl, rfl⟩ rfl rfl ?_
  refine On ?_
  refine AWR.ret (FPost.mk (.inr rfl) ⟨rfl, trivial⟩ trivial rfl ⟨PermP.sc, trivial⟩ trivial)
 ·refine Ws (Wr ?_)
  refine mv (Iv a) rfl rfl rfl rfl ?_
  refine mv (Iv b) rfl rfl rfl rfl ?_
  refine Op20 (LT.gtr rfl) rfl rfl rfl rfl ?_
  refine asg (Bv (decide (b < a))) rfl rfl rfl rfl ?_
  refine On ?_
  refine AWR.cond rfl (fun hc2 => ?_) (fun hc2 => ?_)
  ·refine Ws (Wr ?_)
   refine asg (Iv 1) rfl ⟨rfl, rfl⟩ rfl rfl ?_
   refine On ?_
   refine AWR.ret (FPost.mk (.inr rfl) ⟨rfl, trivial⟩ trivial rfl ⟨PermP.sc, trivial⟩ trivial)
  ·refine AWR.skip (AWR.blk (Ws (Wr ?_)))
   refine asg (Iv 0) rfl ⟨rfl, rfl⟩ rfl rfl ?_
   refine On ?_
   refine AWR.ret (FPost.mk (.inr rfl) ⟨rfl, trivial⟩ trivial rfl ⟨PermP.sc, trivial⟩ trivial)
theorem w_impl_compareBars (x : TBar) (y : TBar) : ∀ t, m_impl_compareBars x y = some t → Fw.Fn Try.prog 227 [(.agg [(iC x.A), (iC x.B)]), (.agg [(iC y.A), (iC y.B)])] [] (.s (.c (iC t))) [] [] [] := by
 refine Fw.Fn.of (P := Try.prog) (X := []) (pn := []) (rs := (fun (t : Int) => [(.c (iC t))])) (dfs := (fun (t : Int) => [])) Try.func227 rfl Try.ntmps227 (Nat.le_of_ble_eq_true rfl) rfl ?_
 intro w0 U0 R0 g0
 unfold m_impl_compareBars
 refine Ws (Wr ?_)
 refine Os10 (LT.box (n := 21) (v := (.agg [(iC x.A), (iC x.B)])) rfl sz62 (by exact rfl)) rfl rfl rfl ?_
 refine Os10 (LT.box (n := 22) (v := (.agg [(iC y.A), (iC y.B)])) rfl sz62 (by exact rfl)) rfl rfl rfl ?_
 refine asg (Iv 0) rfl ⟨rfl, rfl⟩ rfl rfl ?_
 refine On (Ws (Ws (Wr ?_)))
 refine Op10 (LT.fieldPl rfl fo62_0) rfl rfl rfl ?_
 refine Op11 (LT.bload1 (c := (iC x.A)) rfl ag3 (by exact rfl)) rfl rfl rfl rfl ?_
 refine Op10 (LT.fieldPl rfl fo62_0) rfl rfl rfl ?_
 refine Op11 (LT.bload1 (c := (iC y.A)) rfl ag3 (by exact rfl)) rfl rfl rfl rfl ?_
 refine Ob' fun r1 hr1 => ?_
 refine AOR.pure (@LT.callF Try.prog _ _ 248 _ _ [(.c (iC x.A)), (.c (iC y.A))] _ _ [] _ _ _ _ (w_impl_compareInts x.A y.A r1 hr1) rfl cb248 (.cons (.c (.same rfl)) (.cons (.c (.same rfl)) .nil)) rfl rfl trivial) ⟨rfl, rfl, rfl, trivial⟩ trivial rfl rfl ?_
 refine asg (Iv r1) rfl rfl rfl rfl ?_
 refine On (Ws ?_)
 refine en [(2, (Cc (.pl 21 0))), (3, (Cc (.pl 22 0))), (5, (Iv r1))] [(21, (.row 62 [[(iC x.A), (iC x.B)]])), (22, (.row 62 [[(iC y.A), (iC y.B)]]))] ⟨rfl, rfl, rfl, trivial⟩ ⟨rfl, rfl, trivial⟩ ?_
 refine Wr ?_
 refine mv (Iv r1) rfl rfl rfl rfl ?_
 refine Op20 (LT.neq rfl) rfl ⟨rfl, rfl⟩ rfl rfl ?_
 refine On ?_
 refine AWR.cond rfl (fun hc2 => ?_) (fun hc2 => ?_)
 ·refine Ws (Wr ?_)
  refine mv (Iv r1) rfl rfl rfl rfl ?_
  refine asg (Iv r1) rfl rfl rfl rfl ?_
  refine On ?_
  refine AWR.ret (FPost.mk (.inr rfl) ⟨rfl, trivial⟩ trivial rfl ⟨PermP.sc, trivial⟩ trivial)
 ·refine AWR.skip (Ws (Wr ?_))
  refine Op10 (LT.fieldPl rfl fo62_1) rfl rfl rfl ?_
  refine Op11 (LT.bload1 (c := (iC x.B)) rfl ag3 (by exact rfl)) rfl rfl rfl rfl ?_
  refine Op10 (LT.fieldPl rfl fo62_1) rfl rfl rfl ?_
  refine Op11 (LT.bload1 (c := (iC y.B)) rfl ag3 (by exact rfl)) rfl rfl rfl rfl ?_
  refine Ob' fun r3 hr3 => ?_
  refine AOR.pure (@LT.callF Try.prog _ _ 248 _ _ [(.c (iC x.B)), (.c (iC y.B))] _ _ [] _ _ _ _ (w_impl_compareInts x.B y.B r3 hr3) rfl cb248 (.cons (.c (.same rfl)) (.cons (.c (.same rfl)) .nil)) rfl rfl trivial) ⟨rfl, rfl, rfl, trivial⟩ trivial rfl rfl ?_
  refine asg (Iv r3) rfl rfl rfl rfl ?_
  refine On ?_
  refine AWR.ret (FPost.mk (.inr rfl) ⟨rfl, trivial⟩ trivial rfl ⟨PermP.sc, trivial⟩ trivial)
theorem w_impl_IsGraph (g : TGraph) : ∀ t, m_impl_IsGraph g = some t → Fw.Fn Try.prog 173 [(.agg [(iC g.Points), (xF encTBar g.Bars)])] [] (.s (.c (bC t))) [] [] [] := by
 refine Fw.Fn.of (P := Try.prog) (X := []) (pn := []) (rs := (fun (t : Bool) => [(.c (bC t))])) (dfs := (fun (t : Bool) => [])) Try.func173 rfl Try.ntmps173 (Nat.le_of_ble_eq_true rfl) rfl ?_
 intro w0 U0 R0 g0
 unfold m_impl_IsGraph
 refine Ws (Wr ?_)
 refine Os10 (LT.box (n := 21) (v := (.agg [(iC g.Points), (xF encTBar g.Bars)])) rfl sz26 (by exact rfl)) rfl rfl rfl ?_
 refine asg (Bv false) rfl ⟨rfl, rfl⟩ rfl rfl ?_
 refine On (Ws (Ws ?_))
 refine AWR.joinK (fun j3 => ([(1, (Cc (.pl 21 0))), (14, (Bv j3))], [(21, (.row 26 [[(iC g.Points), (xF encTBar g.Bars)]]))])) ?_ (fun j3 _ => ?_)
 ·refine Wr ?_
  refine Op10 (LT.fieldPl rfl fo26_0) rfl rfl rfl ?_
  refine Op11 (LT.bload1 (c := (iC g.Points)) rfl ag3 (by exact rfl)) rfl rfl rfl rfl ?_
  refine Ob' fun r4 hr4 => ?_
  refine AOR.pure (@LT.callF Try.prog _ _ 128 _ _ [(.c (iC g.Points)), (.c (iC 1)), (.c (iC 8))] _ _ [] _ _ _ _ (w_impl_within g.Points 1 8 r4 hr4) rfl cb128 (.cons (.c (.same rfl)) (.cons (.c (.same rfl)) (.cons (.c (.same rfl)) .nil))) rfl rfl trivial) ⟨rfl, rfl, ⟨rfl, rfl⟩, ⟨rfl, rfl⟩, trivial⟩ trivial rfl rfl ?_
  refine Op10 (LT.not rfl) rfl rfl rfl ?_
  refine mv (Bv (!r4)) rfl rfl rfl rfl ?_
  refine AOR.split (fun hb5 => ?_) (fun hb5 => ?_)
  ·refine Ok rfl rfl rfl (by rw [hb5]; rfl) rfl ?_
   refine Ok rfl rfl rfl (by rw [hb5]; rfl) rfl ?_
   refine Ok rfl rfl rfl (by rw [hb5]; rfl) rfl ?_
   refine Ok rfl rfl rfl (by rw [hb5]; rfl) rfl ?_
   refine Op20 (LT.pickT (v := (Bv true)) rfl hb5) rfl ⟨rfl, rfl⟩ rfl rfl ?_
   refine On ?_
   refine AWR.nil ⟨rfl, Ent.of ⟨rfl, rfl, trivial⟩ ⟨rfl, trivial⟩⟩
  ·refine Op10 (LT.fieldPl rfl fo26_1) rfl ⟨_, rfl, .inl ⟨_, rfl, (by rw [hb5]; rfl)⟩⟩ rfl ?_
   refine Op11 (LT.bload1 (c := (xF encTBar g.Bars)) rfl ag24 (by exact rfl)) rfl rfl ⟨_, rfl, .inl ⟨_, rfl, (by rw [hb5]; rfl)⟩⟩ rfl ?_
   refine Op10 (LT.tlenRO rfl und24) rfl ⟨_, rfl, .inl ⟨_, rfl, (by rw [hb5]; rfl)⟩⟩ rfl ?_
   refine Op20 (LT.gtr rfl) rfl ⟨rfl, rfl⟩ ⟨_, rfl, .inl ⟨_, rfl, (by rw [hb5]; rfl)⟩⟩ rfl ?_
   refine Op20 (LT.pickF (v := (Bv (decide (24 < (g.Bars.length : Int))))) rfl hb5) rfl rfl rfl rfl ?_
   refine On ?_
   refine AWR.nil ⟨rfl, Ent.of ⟨rfl, rfl, trivial⟩ ⟨rfl, trivial⟩⟩
 ·refine AWR.cond rfl (fun hc6 => ?_) (fun hc6 => ?_)
  ·refine Ws (Wr ?_)
   refine asg (Bv false) rfl ⟨rfl, rfl⟩ rfl rfl ?_
   refine On ?_
   refine AWR.ret (FPost.mk (.inr rfl) ⟨rfl, trivial⟩ trivial rfl ⟨PermP.sc, trivial⟩ trivial)
  ·refine AWR.skip (Ws (Ws (Wr ?_)))
   refine Op10 (LT.fieldPl rfl fo26_1) rfl rfl rfl ?_
   refine Op11 (LT.bload1 (c := (xF encTBar g.Bars)) rfl ag24 (by exact rfl)) rfl rfl rfl rfl ?_
   refine Op10 (LT.tlenRO rfl und24) rfl rfl rfl ?_
   refine mv (Iv 0) rfl ⟨rfl, rfl⟩ rfl rfl ?_
   refine On (AWR.block ?_)
   refine AWR.loopR (id := 0) (m_impl_IsGraph_L1 g) (fun s7 => ([(1, (Cc (.pl 21 0))), (16, (Cc (xF encTBar g.Bars))), (17, (Iv (g.Bars.length : Int))), (18, (Iv s7))], [(21, (.row 26 [[(iC g.Points), (xF encTBar g.Bars)]]))])) (fun b40 => ([], [])) (FPost Try.prog Try.f173.results.toList [] [] (fun (t : Bool) => [(.c (bC t))]) (fun (t : Bool) => [])) ?_ (Ent.of ⟨rfl, rfl, rfl, rfl, trivial⟩ ⟨rfl, trivial⟩) rfl (fun b40 _ => ?_) (by intro r t σ m ht hk; injection ht with ht; subst ht; exact hk)
   ·intro s7
    unfold m_impl_IsGraph_L1
    refine Ws (Wr ?_)
    refine Op20 (LT.lss rfl) rfl rfl rfl rfl ?_
    refine On (Ws ?_)
    refine AWR.cond rfl (fun hc41 => ?_) (fun hc41 => ?_)
    ·refine AWR.skip (Ws (AWR.block (Ws (Wr ?_))))
     refine mv (Iv s7) rfl rfl rfl rfl ?_
     refine Ob' fun x42 hx42 => ?_
     refine Op20 (LT.tindexRO (enc := encTBar) rfl el24 hx42 sz62) rfl rfl rfl rfl ?_
     refine Op10 (LT.loadPxN rfl ag62 (infS inf62) (by exact sz62.symm)) rfl rfl rfl ?_
     refine Os00 (LT.alloc (n := 23) (cells := [(iC 0), (iC 0)]) rfl ti62 rfl rfl rfl) rfl rfl ?_
     refine asg (Iv s7) rfl rfl rfl rfl ?_
     refine Os21 (LT.bstore (v := (.agg [(iC x42.A), (iC x42.B)])) (out := [(iC x42.A), (iC x42.B)]) rfl rfl (infS inf62) sz62 (by exact rfl) (by exact Nat.le_of_ble_eq_true rfl) (by exact rfl)) rfl rfl rfl rfl rfl ?_
     refine On (Ws ?_)
     refine AWR.joinK (fun j49 => ([(1, (Cc (.pl 21 0))), (16, (Cc (xF encTBar g.Bars))), (17, (Iv (g.Bars.length : Int))), (18, (Iv s7)), (54, (Bv j49))], [(21, (.row 26 [[(iC g.Points), (xF encTBar g.Bars)]]))])) ?_ (fun j49 _ => ?_)
     ·refine en [(1, (Cc (.pl 21 0))), (3, (Iv s7)), (4, (Cc (.pl 23 0))), (16, (Cc (xF encTBar g.Bars))), (17, (Iv (g.Bars.length : Int))), (18, (Iv s7))] [(21, (.row 26 [[(iC g.Points), (xF encTBar g.Bars)]])), (23, (.row 62 [[(iC x42.A), (iC x42.B)]]))] ⟨rfl, rfl, rfl, rfl, rfl, rfl, trivial⟩ ⟨rfl, rfl, trivial⟩ ?_
      refine AWR.draw mixed ?_
      refine Dp10 (LT.fieldPl rfl fo62_0) rfl rfl rfl ?_
      refine Dp11 (LT.bload1 (c := (iC x42.A)) rfl ag3 (by exact rfl)) rfl rfl rfl rfl ?_
      refine Dp20 (LT.lss rfl) rfl ⟨rfl, rfl⟩ rfl rfl ?_
      refine Dp10 (LT.move (v := (Bv (decide (x42.A < 0)))) rfl) rfl rfl rfl ?_
      refine AOD.split (fun hb50 => ?_) (fun hb50 => ?_)
      ·refine AOD.skip ⟨_, rfl, .inl ⟨_, rfl, (by rw [hb50]; rfl)⟩⟩ rfl ?_
       refine AOD.skip ⟨_, rfl, .inl ⟨_, rfl, (by rw [hb50]; rfl)⟩⟩ rfl ?_
       refine AOD.skip ⟨_, rfl, .inl ⟨_, rfl, (by rw [hb50]; rfl)⟩⟩ rfl ?_
       refine AOD.skip ⟨_, rfl, .inl ⟨_, rfl, (by rw [hb50]; rfl)⟩⟩ rfl ?_
       refine AOD.skip ⟨_, rfl, .inl ⟨_, rfl, (by rw [hb50]; rfl)⟩⟩ rfl ?_
       refine Dp20 (LT.pickT (v := (Bv true)) rfl hb50) rfl ⟨rfl, rfl⟩ rfl rfl ?_
       refine Dp10 (LT.move (v := (Bv true)) rfl) rfl rfl rfl ?_
       refine AOD.skip ⟨_, rfl, .inl ⟨_, rfl, rfl⟩⟩ rfl ?_
       refine AOD.skip ⟨_, rfl, .inl ⟨_, rfl, rfl⟩⟩ rfl ?_
       refine AOD.skip ⟨_, rfl, .inl ⟨_, rfl, rfl⟩⟩ rfl ?_
       refine AOD.skip ⟨_, rfl, .inl ⟨_, rfl, rfl⟩⟩ rfl ?_
       refine AOD.skip ⟨_, rfl, .inl ⟨_, rfl, rfl⟩⟩ rfl ?_
       refine Dp20 (LT.pickT (v := (Bv true)) rfl rfl) rfl ⟨rfl, rfl⟩ rfl rfl ?_
       refine Dp10 (LT.move (v := (Bv true)) rfl) rfl rfl rfl ?_
       refine AOD.skip ⟨_, rfl, .inl ⟨_, rfl, rfl⟩⟩ rfl ?_
       refine AOD.skip ⟨_, rfl, .inl ⟨_, rfl, rfl⟩⟩ rfl ?_
       refine AOD.skip ⟨_, rfl, .inl ⟨_, rfl, rfl⟩⟩ rfl ?_
       refine AOD.skip ⟨_, rfl, .inr ⟨rfl, rfl⟩⟩ rfl ?_
       refine AOD.skip ⟨_, rfl, .inr ⟨rfl, rfl⟩⟩ rfl ?_
       refine AOD.skip ⟨_, rfl, .inr ⟨rfl, rfl⟩⟩ rfl ?_
       refine AOD.skip ⟨_, rfl, .inr ⟨rfl, rfl⟩⟩ rfl ?_
       refine AOD.skip ⟨_, rfl, .inr ⟨rfl, rfl⟩⟩ rfl ?_
       refine AOD.skip ⟨_, rfl, .inr ⟨rfl, rfl⟩⟩ rfl ?_
       refine AOD.skip ⟨_, rfl, .inr ⟨rfl, rfl⟩⟩ rfl ?_
       refine AOD.skip ⟨_, rfl, .inr ⟨rfl, rfl⟩⟩ rfl ?_
       refine AOD.skip ⟨_, rfl, .inr ⟨rfl, rfl⟩⟩ rfl ?_
       refine AOD.skip ⟨_, rfl, .inl ⟨_, rfl, rfl⟩⟩ rfl ?_
       refine Dp20 (LT.pickT (v := (Bv true)) rfl rfl) rfl ⟨rfl, rfl⟩ rfl rfl ?_
       refine AOD.nil (by kernel_rfl) ?_
       refine AWR.nil ⟨rfl, Ent.of ⟨rfl, rfl, rfl, rfl, rfl, trivial⟩ ⟨rfl, trivial⟩⟩
      ·refine Dp10 (LT.fieldPl rfl fo62_0) rfl ⟨_, rfl, .inl ⟨_, rfl, (by rw [hb50]; rfl)⟩⟩ rfl ?_
       refine Dp11 (LT.bload1 (c := (iC x42.A)) rfl ag3 (by exact rfl)) rfl rfl ⟨_, rfl, .inl ⟨_, rfl, (by rw [hb50]; rfl)⟩⟩ rfl ?_
       refine Dp10 (LT.fieldPl rfl fo62_1) rfl ⟨_, rfl, .inl ⟨_, rfl, (by rw [hb50]; rfl)⟩⟩ rfl ?_
       refine Dp11 (LT.bload1 (c := (iC x42.B)) rfl ag3 (by exact rfl)) rfl rfl ⟨_, rfl, .inl ⟨_, rfl, (by rw [hb50]; rfl)⟩⟩ rfl ?_
       refine Dp20 (LT.geq rfl) rfl rfl ⟨_, rfl, .inl ⟨_, rfl, (by rw [hb50]; rfl)⟩⟩ rfl ?_
       refine Dp20 (LT.pickF (v := (Bv (decide (x42.B ≤ x42.A)))) rfl hb50) rfl rfl rfl rfl ?_
       refine Dp10 (LT.move (v := (Bv (decide (x42.B ≤ x42.A)))) rfl) rfl rfl rfl ?_
       refine AOD.split (fun hb51 => ?_) (fun hb51 => ?_)
       ·refine AOD.skip ⟨_, rfl, .inl ⟨_, rfl, (by rw [hb51]; rfl)⟩⟩ rfl ?_
        refine AOD.skip ⟨_, rfl, .inl ⟨_, rfl, (by rw [hb51]; rfl)⟩⟩ rfl ?_
        refine AOD.skip ⟨_, rfl, .inl ⟨_, rfl, (by rw [hb51]; rfl)⟩⟩ rfl ?_
        refine AOD.skip ⟨_, rfl, .inl ⟨_, rfl, (by rw [hb51]; rfl)⟩⟩ rfl ?_
        refine AOD.skip ⟨_, rfl, .inl ⟨_, rfl, (by rw [hb51]; rfl)⟩⟩ rfl ?_
        refine Dp20 (LT.pickT (v := (Bv true)) rfl hb51) rfl ⟨rfl, rfl⟩ rfl rfl ?_
        refine Dp10 (LT.move (v := (Bv true)) rfl) rfl rfl rfl ?_
        refine AOD.skip ⟨_, rfl, .inl ⟨_, rfl, rfl⟩⟩ rfl ?_
        refine AOD.skip ⟨_, rfl, .inl ⟨_, rfl, rfl⟩⟩ rfl ?_
        refine AOD.skip ⟨_, rfl, .inl ⟨_, rfl, rfl⟩⟩ rfl ?_
        refine AOD.skip ⟨_, rfl, .inr ⟨rfl, rfl⟩⟩ rfl ?_
        refine AOD.skip ⟨_, rfl, .inr ⟨rfl, rfl⟩⟩ rfl ?_
        refine AOD.skip ⟨_, rfl, .inr ⟨rfl, rfl⟩⟩ rfl ?_
        refine AOD.skip ⟨_, rfl, .inr ⟨rfl, rfl⟩⟩ rfl ?_
        refine AOD.skip ⟨_, rfl, .inr ⟨rfl, rfl⟩⟩ rfl ?_
        refine AOD.skip ⟨_, rfl, .inr ⟨rfl, rfl⟩⟩ rfl ?_
        refine AOD.skip ⟨_, rfl, .inr ⟨rfl, rfl⟩⟩ rfl ?_
        refine AOD.skip ⟨_, rfl, .inr ⟨rfl, rfl⟩⟩ rfl ?_
        refine AOD.skip ⟨_, rfl, .inr ⟨rfl, rfl⟩⟩ rfl ?_
        refine AOD.skip ⟨_, rfl, .inl ⟨_, rfl, rfl⟩⟩ rfl ?_
        refine Dp20 (LT.pickT (v := (Bv true)) rfl rfl) rfl ⟨rfl, rfl⟩ rfl rfl ?_
        refine AOD.nil (by kernel_rfl) ?_
        refine AWR.nil ⟨rfl, Ent.of ⟨rfl, rfl, rfl, rfl, rfl, trivial⟩ ⟨rfl, trivial⟩⟩
       ·refine Dp10 (LT.fieldPl rfl fo62_1) rfl ⟨_, rfl, .inl ⟨_, rfl, (by rw [hb51]; rfl)⟩⟩ rfl ?_
        refine Dp11 (LT.bload1 (c := (iC x42.B)) rfl ag3 (by exact rfl)) rfl rfl ⟨_, rfl, .inl ⟨_, rfl, (by rw [hb51]; rfl)⟩⟩ rfl ?_
        refine Dp10 (LT.fieldPl rfl fo26_0) rfl ⟨_, rfl, .inl ⟨_, rfl, (by rw [hb51]; rfl)⟩⟩ rfl ?_
        refine Dp11 (LT.bload1 (c := (iC g.Points)) rfl ag3 (by exact rfl)) rfl rfl ⟨_, rfl, .inl ⟨_, rfl, (by rw [hb51]; rfl)⟩⟩ rfl ?_
        refine Dp20 (LT.geq rfl) rfl rfl ⟨_, rfl, .inl ⟨_, rfl, (by rw [hb51]; rfl)⟩⟩ rfl ?_
        refine Dp20 (LT.pickF (v := (Bv (decide (g.Points ≤ x42.B)))) rfl hb51) rfl rfl rfl rfl ?_
        refine Dp10 (LT.move (v := (Bv (decide (g.Points ≤ x42.B)))) rfl) rfl rfl rfl ?_
        refine AOD.split (fun hb52 => ?_) (fun hb52 => ?_)
        ·refine AOD.skip ⟨_, rfl, .inl ⟨_, rfl, (by rw [hb52]; rfl)⟩⟩ rfl ?_
         refine AOD.skip ⟨_, rfl, .inl ⟨_, rfl, (by rw [hb52]; rfl)⟩⟩ rfl ?_
         refine AOD.skip ⟨_, rfl, .inl ⟨_, rfl, (by rw [hb52]; rfl)⟩⟩ rfl ?_
         refine AOD.skip ⟨_, rfl, .inr ⟨rfl, rfl⟩⟩ rfl ?_
         refine AOD.skip ⟨_, rfl, .inr ⟨rfl, rfl⟩⟩ rfl ?_
         refine AOD.skip ⟨_, rfl, .inr ⟨rfl, rfl⟩⟩ rfl ?_
         refine AOD.skip ⟨_, rfl, .inr ⟨rfl, rfl⟩⟩ rfl ?_
         refine AOD.skip ⟨_, rfl, .inr ⟨rfl, rfl⟩⟩ rfl ?_
         refine AOD.skip ⟨_, rfl, .inr ⟨rfl, rfl⟩⟩ rfl ?_
         refine AOD.skip ⟨_, rfl, .inr ⟨rfl, rfl⟩⟩ rfl ?_
         refine AOD.skip ⟨_, rfl, .inr ⟨rfl, rfl⟩⟩ rfl ?_
         refine AOD.skip ⟨_, rfl, .inr ⟨rfl, rfl⟩⟩ rfl ?_
         refine AOD.skip ⟨_, rfl, .inl ⟨_, rfl, (by rw [hb52]; rfl)⟩⟩ rfl ?_
         refine Dp20 (LT.pickT (v := (Bv true)) rfl hb52) rfl ⟨rfl, rfl⟩ rfl rfl ?_
         refine AOD.nil (by kernel_rfl) ?_
         refine AWR.nil ⟨rfl, Ent.of ⟨rfl, rfl, rfl, rfl, rfl, trivial⟩ ⟨rfl, trivial⟩⟩
        ·refine Dp10 (LT.move (v := (Iv s7)) rfl) rfl ⟨_, rfl, .inl ⟨_, rfl, (by rw [hb52]; rfl)⟩⟩ rfl ?_
         refine Dp20 (LT.gtr rfl) rfl ⟨rfl, rfl⟩ ⟨_, rfl, .inl ⟨_, rfl, (by rw [hb52]; rfl)⟩⟩ rfl ?_
         refine Dp10 (LT.move (v := (Bv (decide (0 < s7)))) rfl) rfl ⟨_, rfl, .inl ⟨_, rfl, (by rw [hb52]; rfl)⟩⟩ rfl ?_
         refine AOD.split (fun hb53 => ?_) (fun hb53 => ?_)
         ·refine Dp10 (LT.fieldPl rfl fo26_1) rfl ⟨_, rfl, .inl ⟨_, rfl, (by rw [hb53]; rfl)⟩⟩ rfl ?_
          refine Dp11 (LT.bload1 (c := (xF encTBar g.Bars)) rfl ag24 (by exact rfl)) rfl rfl ⟨_, rfl, .inl ⟨_, rfl, (by rw [hb53]; rfl)⟩⟩ rfl ?_
          refine Dp10 (LT.move (v := (Iv s7)) rfl) rfl ⟨_, rfl, .inl ⟨_, rfl, (by rw [hb53]; rfl)⟩⟩ rfl ?_
          refine Dp20 (LT.sub rfl) rfl ⟨rfl, rfl⟩ ⟨_, rfl, .inl ⟨_, rfl, (by rw [hb53]; rfl)⟩⟩ rfl ?_
          refine AOD.bind fun x54 hx54 => ?_
          refine Dp20 (LT.tindexRO (enc := encTBar) rfl el24 hx54 sz62) rfl rfl ⟨_, rfl, .inl ⟨_, rfl, (by rw [hb53]; rfl)⟩⟩ rfl ?_
          refine Dp10 (LT.loadPxN rfl ag62 (infS inf62) (by exact sz62.symm)) rfl ⟨_, rfl, .inl ⟨_, rfl, (by rw [hb53]; rfl)⟩⟩ rfl ?_
          refine Dp11 (LT.bloadN (out := [(iC x42.A), (iC x42.B)]) rfl ag62 (infS inf62) sz62 (by exact rfl) (by exact rfl)) rfl rfl ⟨_, rfl, .inl ⟨_, rfl, (by rw [hb53]; rfl)⟩⟩ rfl ?_
          refine AOD.bind fun r55 hr55 => ?_
          refine AOD.pure (@LT.callF Try.prog _ _ 227 _ _ [(.agg [(iC x54.A), (iC x54.B)]), (.agg [(iC x42.A), (iC x42.B)])] _ _ [] _ _ _ _ (w_impl_compareBars x54 x42 r55 hr55) rfl cb227 (.cons (.agg (.cons (.same rfl) (.cons (.same rfl) .nil))) (.cons (.agg (.cons (.same rfl) (.cons (.same rfl) .nil))) .nil)) rfl rfl trivial) ⟨rfl, rfl, rfl, trivial⟩ trivial ⟨_, rfl, .inl ⟨_, rfl, (by rw [hb53]; rfl)⟩⟩ rfl ?_
          refine Dp20 (LT.gtr rfl) rfl ⟨rfl, rfl⟩ ⟨_, rfl, .inl ⟨_, rfl, (by rw [hb53]; rfl)⟩⟩ rfl ?_
          refine Dp20 (LT.pickT (v := (Bv (decide (0 < r55)))) rfl hb53) rfl rfl ⟨_, rfl, .inl ⟨_, rfl, (by rw [hb52]; rfl)⟩⟩ rfl ?_
          refine Dp20 (LT.pickF (v := (Bv (decide (0 < r55)))) rfl hb52) rfl rfl rfl rfl ?_
          refine AOD.nil (by kernel_rfl) ?_
          refine AWR.nil ⟨rfl, Ent.of ⟨rfl, rfl, rfl, rfl, rfl, trivial⟩ ⟨rfl, trivial⟩⟩
         ·refine AOD.skip ⟨_, rfl, .inl ⟨_, rfl, (by rw [hb53]; rfl)⟩⟩ rfl ?_
          refine AOD.skip ⟨_, rfl, .inl ⟨_, rfl, (by rw [hb53]; rfl)⟩⟩ rfl ?_
          refine AOD.skip ⟨_, rfl, .inl ⟨_, rfl, (by rw [hb53]; rfl)⟩⟩ rfl ?_
          refine AOD.skip ⟨_, rfl, .inl ⟨_, rfl, (by rw [hb53]; rfl)⟩⟩ rfl ?_
          refine AOD.skip ⟨_, rfl, .inl ⟨_, rfl, (by rw [hb53]; rfl)⟩⟩ rfl ?_
          refine AOD.skip ⟨_, rfl, .inl ⟨_, rfl, (by rw [hb53]; rfl)⟩⟩ rfl ?_
          refine AOD.skip ⟨_, rfl, .inl ⟨_, rfl, (by rw [hb53]; rfl)⟩⟩ rfl ?_
          refine AOD.skip ⟨_, rfl, .inl ⟨_, rfl, (by rw [hb53]; rfl)⟩⟩ rfl ?_
          refine AOD.skip ⟨_, rfl, .inl ⟨_, rfl, (by rw [hb53]; rfl)⟩⟩ rfl ?_
          refine Dp20 (LT.pickF (v := (Bv false)) rfl hb53) rfl ⟨rfl, rfl⟩ ⟨_, rfl, .inl ⟨_, rfl, (by rw [hb52]; rfl)⟩⟩ rfl ?_
          refine Dp20 (LT.pickF (v := (Bv false)) rfl hb52) rfl rfl rfl rfl ?_
          refine AOD.nil (by kernel_rfl) ?_
          refine AWR.nil ⟨rfl, Ent.of ⟨rfl, rfl, rfl, rfl, rfl, trivial⟩ ⟨rfl, trivial⟩⟩
     ·refine AWR.cond rfl (fun hc56 => ?_) (fun hc56 => ?_)
      ·refine Ws (Wr ?_)
       refine asg (Bv false) rfl ⟨rfl, rfl⟩ rfl rfl ?_
       refine On ?_
       refine AWR.ret ⟨rfl, FPost.mk (.inr rfl) ⟨rfl, trivial⟩ trivial rfl ⟨PermP.sc, trivial⟩ trivial⟩
      ·refine AWR.skip (AWR.blk (Wr ?_))
       refine Op20 (LT.add rfl) rfl ⟨rfl, rfl⟩ rfl rfl ?_
       refine mv (Iv (w64 (s7 + 1))) rfl rfl rfl rfl ?_
       refine On ?_
       refine AWR.nil ⟨rfl, Ent.of ⟨rfl, rfl, rfl, rfl, trivial⟩ ⟨rfl, trivial⟩⟩
    ·refine AWR.exit_end rfl ⟨rfl, Ent.of trivial trivial⟩
   ·refine Ws (Wr ?_)
    refine asg (Bv true) rfl ⟨rfl, rfl⟩ rfl rfl ?_
    refine On ?_
    refine AWR.ret (FPost.mk (.inr rfl) ⟨rfl, trivial⟩ trivial rfl ⟨PermP.sc, trivial⟩ trivial)
theorem w_impl_isPlace (p : TPlace) : ∀ t, m_impl_isPlace p = some t → Fw.Fn Try.prog 174 [(.agg [(iC p.X), (iC p.Y)])] [] (.s (.c (bC t))) [] [] [] := by
 refine Fw.Fn.of (P := Try.prog) (X := []) (pn := []) (rs := (fun (t : Bool) => [(.c (bC t))])) (dfs := (fun (t : Bool) => [])) Try.func174 rfl Try.ntmps174 (Nat.le_of_ble_eq_true rfl) rfl ?_
 intro w0 U0 R0 g0
 unfold m_impl_isPlace
 refine Ws (Wr ?_)
 refine Os10 (LT.box (n := 21) (v := (.agg [(iC p.X), (iC p.Y)])) rfl sz94 (by exact rfl)) rfl rfl rfl ?_
 refine asg (Bv false) rfl ⟨rfl, rfl⟩ rfl rfl ?_
 refine On (Ws ?_)
 refine AWR.joinK (fun j4 => ([(2, (Bv j4))], [])) ?_ (fun j4 _ => ?_)
 ·refine Wr ?_
  refine Op10 (LT.fieldPl rfl fo94_0) rfl rfl rfl ?_
  refine Op11 (LT.bload1 (c := (iC p.X)) rfl ag3 (by exact rfl)) rfl rfl rfl rfl ?_
  refine Ob' fun r5 hr5 => ?_
  refine AOR.pure (@LT.callF Try.prog _ _ 128 _ _ [(.c (iC p.X)), (.c (iC 0)), (.c (iC 4))] _ _ [] _ _ _ _ (w_impl_within p.X 0 4 r5 hr5) rfl cb128 (.cons (.c (.same rfl)) (.cons (.c (.same rfl)) (.cons (.c (.same rfl)) .nil))) rfl rfl trivial) ⟨rfl, rfl, ⟨rfl, rfl⟩, ⟨rfl, rfl⟩, trivial⟩ trivial rfl rfl ?_
  refine mv (Bv r5) rfl rfl rfl rfl ?_
  refine AOR.split (fun hb6 => ?_) (fun hb6 => ?_)
  ·refine Op10 (LT.fieldPl rfl fo94_1) rfl ⟨_, rfl, .inl ⟨_, rfl, (by rw [hb6]; rfl)⟩⟩ rfl ?_
   refine Op11 (LT.bload1 (c := (iC p.Y)) rfl ag3 (by exact rfl)) rfl rfl ⟨_, rfl, .inl ⟨_, rfl, (by rw [hb6]; rfl)⟩⟩ rfl ?_
   refine Ob' fun r7 hr7 => ?_
   refine AOR.pure (@LT.callF Try.prog _ _ 128 _ _ [(.c (iC p.Y)), (.c (iC 0)), (.c (iC 4))] _ _ [] _ _ _ _ (w_impl_within p.Y 0 4 r7 hr7) rfl cb128 (.cons (.c (.same rfl)) (.cons (.c (.same rfl)) (.cons (.c (.same rfl)) .nil))) rfl rfl trivial) ⟨rfl, rfl, ⟨rfl, rfl⟩, ⟨rfl, rfl⟩, trivial⟩ trivial ⟨_, rfl, .inl ⟨_, rfl, (by rw [hb6]; rfl)⟩⟩ rfl ?_
   refine Op20 (LT.pickT (v := (Bv r7)) rfl hb6) rfl rfl rfl rfl ?_
   refine asg (Bv r7) rfl rfl rfl rfl ?_
   refine On ?_
   refine AWR.nil ⟨rfl, Ent.of ⟨rfl, trivial⟩ trivial⟩
  ·refine Ok rfl rfl rfl (by rw [hb6]; rfl) rfl ?_
   refine Ok rfl rfl rfl (by rw [hb6]; rfl) rfl ?_
   refine Ok rfl rfl rfl (by rw [hb6]; rfl) rfl ?_
   refine Op20 (LT.pickF (v := (Bv false)) rfl hb6) rfl ⟨rfl, rfl⟩ rfl rfl ?_
   refine asg (Bv false) rfl rfl rfl rfl ?_
   refine On ?_
   refine AWR.nil ⟨rfl, Ent.of ⟨rfl, trivial⟩ trivial⟩
 ·refine AWR.ret (FPost.mk (.inr rfl) ⟨rfl, trivial⟩ trivial rfl ⟨PermP.sc, trivial⟩ trivial)
end Go.Proofs.Ytghofbijdnenoaa
end
section
set_option linter.unusedVariables false
set_option linter.unusedSimpArgs false
set_option linter.unnecessarySimpa false
set_option maxRecDepth 100000
set_option maxHeartbeats 8000000
open Go Go.Fw
namespace Go.Proofs.Ytghofbijdnenoaa
theorem w_impl_IsFramework (f : TFramework) : ∀ t, m_impl_IsFramework f = some t → Fw.Fn Try.prog 80 [(.agg [(iC f.Graph.Points), (xF encTBar f.Graph.Bars), (xF encTPlace f.Places)])] [] (.s (.c (bC t))) [] [] [] := by
 refine Fw.Fn.of (P := Try.prog) (X := []) (pn := []) (rs := (fun (t : Bool) => [(.c (bC t))])) (dfs := (fun (t : Bool) => [])) Try.func80 rfl Try.ntmps80 (Nat.le_of_ble_eq_true rfl) rfl ?_
 intro w0 U0 R0 g0
 unfold m_impl_IsFramework
 refine Ws (Wr ?_)
 refine Os10 (LT.box (n := 21) (v := (.agg [(iC f.Graph.Points), (xF encTBar f.Graph.Bars), (xF encTPlace f.Places)])) rfl sz29 (by exact rfl)) rfl rfl rfl ?_
 refine asg (Bv false) rfl ⟨rfl, rfl⟩ rfl rfl ?_
 refine On (Ws (Wr ?_))
 refine Op10 (LT.fieldPl rfl fo29_0) rfl rfl rfl ?_
 refine Op11 (LT.bloadN (out := [(iC f.Graph.Points), (xF encTBar f.Graph.Bars)]) rfl ag26 (infS inf26) sz26 (by exact rfl) (by exact rfl)) rfl rfl rfl rfl ?_
 refine Os00 (LT.alloc (n := 22) (cells := [(iC 0), (sC nilV)]) rfl ti26 rfl rfl rfl) rfl rfl ?_
 refine Os21 (LT.bstore (v := (.agg [(iC f.Graph.Points), (xF encTBar f.Graph.Bars)])) (out := [(iC f.Graph.Points), (xF encTBar f.Graph.Bars)]) rfl rfl (infS inf26) sz26 (by exact rfl) (by exact Nat.le_of_ble_eq_true rfl) (by exact rfl)) rfl rfl rfl rfl rfl ?_
 refine On (Ws (Ws ?_))
 refine AWR.joinK (fun j5 => ([(1, (Cc (.pl 21 0))), (3, (Cc (.pl 22 0))), (31, (Bv j5))], [(21, (.row 29 [[(iC f.Graph.Points), (xF encTBar f.Graph.Bars), (xF encTPlace f.Places)]])), (22, (.row 26 [[(iC f.Graph.Points), (xF encTBar f.Graph.Bars)]]))])) ?_ (fun j5 _ => ?_)
 ·refine en [(1, (Cc (.pl 21 0))), (3, (Cc (.pl 22 0)))] [(21, (.row 29 [[(iC f.Graph.Points), (xF encTBar f.Graph.Bars), (xF encTPlace f.Places)]])), (22, (.row 26 [[(iC f.Graph.Points), (xF encTBar f.Graph.Bars)]]))] ⟨rfl, rfl, trivial⟩ ⟨rfl, rfl, trivial⟩ ?_
  refine Wr ?_
  refine Op11 (LT.bloadN (out := [(iC f.Graph.Points), (xF encTBar f.Graph.Bars)]) rfl ag26 (infS inf26) sz26 (by exact rfl) (by exact rfl)) rfl rfl rfl rfl ?_
  refine Ob' fun r6 hr6 => ?_
  refine AOR.pure (@LT.callF Try.prog _ _ 173 _ _ [(.agg [(iC f.Graph.Points), (xF encTBar f.Graph.Bars)])] _ _ [] _ _ _ _ (w_impl_IsGraph f.Graph r6 hr6) rfl cb173 (.cons (.agg (.cons (.same rfl) (.cons (.same rfl) .nil))) .nil) rfl rfl trivial) ⟨rfl, rfl, trivial⟩ trivial rfl rfl ?_
  refine Op10 (LT.not rfl) rfl rfl rfl ?_
  refine mv (Bv (!r6)) rfl rfl rfl rfl ?_
  refine AOR.split (fun hb7 => ?_) (fun hb7 => ?_)
  ·refine Ok rfl rfl rfl (by rw [hb7]; rfl) rfl ?_
   refine Ok rfl rfl rfl (by rw [hb7]; rfl) rfl ?_
   refine Ok rfl rfl rfl (by rw [hb7]; rfl) rfl ?_
   refine Op20 (LT.pickT (v := (Bv true)) rfl hb7) rfl ⟨rfl, rfl⟩ rfl rfl ?_
   refine mv (Bv true) rfl rfl rfl rfl ?_
   refine Ok rfl rfl rfl rfl rfl ?_
   refine Ok rfl rfl rfl rfl rfl ?_
   refine Ok rfl rfl rfl rfl rfl ?_
   refine Ok rfl rfl rfl rfl rfl ?_
   refine Op20 (LT.pickT (v := (Bv true)) rfl rfl) rfl ⟨rfl, rfl⟩ rfl rfl ?_
   refine mv (Bv true) rfl rfl rfl rfl ?_
   refine Ok rfl rfl rfl rfl rfl ?_
   refine Ok rfl rfl rfl rfl rfl ?_
   refine Ok rfl rfl rfl rfl rfl ?_
   refine Ok rfl rfl rfl rfl rfl ?_
   refine Ok rfl rfl rfl rfl rfl ?_
   refine Ok rfl rfl rfl rfl rfl ?_
   refine Op20 (LT.pickT (v := (Bv true)) rfl rfl) rfl ⟨rfl, rfl⟩ rfl rfl ?_
   refine On ?_
   refine AWR.nil ⟨rfl, Ent.of ⟨rfl, rfl, rfl, trivial⟩ ⟨rfl, rfl, trivial⟩⟩
  ·refine Op10 (LT.fieldPl rfl fo26_0) rfl ⟨_, rfl, .inl ⟨_, rfl, (by rw [hb7]; rfl)⟩⟩ rfl ?_
   refine Op11 (LT.bload1 (c := (iC f.Graph.Points)) rfl ag3 (by exact rfl)) rfl rfl ⟨_, rfl, .inl ⟨_, rfl, (by rw [hb7]; rfl)⟩⟩ rfl ?_
   refine Op20 (LT.gtr rfl) rfl ⟨rfl, rfl⟩ ⟨_, rfl, .inl ⟨_, rfl, (by rw [hb7]; rfl)⟩⟩ rfl ?_
   refine Op20 (LT.pickF (v := (Bv (decide (6 < f.Graph.Points)))) rfl hb7) rfl rfl rfl rfl ?_
   refine mv (Bv (decide (6 < f.Graph.Points))) rfl rfl rfl rfl ?_
   refine AOR.split (fun hb8 => ?_) (fun hb8 => ?_)
   ·refine Ok rfl rfl rfl (by rw [hb8]; rfl) rfl ?_
    refine Ok rfl rfl rfl (by rw [hb8]; rfl) rfl ?_
    refine Ok rfl rfl rfl (by rw [hb8]; rfl) rfl ?_
    refine Ok rfl rfl rfl (by rw [hb8]; rfl) rfl ?_
    refine Op20 (LT.pickT (v := (Bv true)) rfl hb8) rfl ⟨rfl, rfl⟩ rfl rfl ?_
    refine mv (Bv true) rfl rfl rfl rfl ?_
    refine Ok rfl rfl rfl rfl rfl ?_
    refine Ok rfl rfl rfl rfl rfl ?_
    refine Ok rfl rfl rfl rfl rfl ?_
    refine Ok rfl rfl rfl rfl rfl ?_
    refine Ok rfl rfl rfl rfl rfl ?_
    refine Ok rfl rfl rfl rfl rfl ?_
    refine Op20 (LT.pickT (v := (Bv true)) rfl rfl) rfl ⟨rfl, rfl⟩ rfl rfl ?_
    refine On ?_
    refine AWR.nil ⟨rfl, Ent.of ⟨rfl, rfl, rfl, trivial⟩ ⟨rfl, rfl, trivial⟩⟩
   ·refine Op10 (LT.fieldPl rfl fo26_1) rfl ⟨_, rfl, .inl ⟨_, rfl, (by rw [hb8]; rfl)⟩⟩ rfl ?_
    refine Op11 (LT.bload1 (c := (xF encTBar f.Graph.Bars)) rfl ag24 (by exact rfl)) rfl rfl ⟨_, rfl, .inl ⟨_, rfl, (by rw [hb8]; rfl)⟩⟩ rfl ?_
    refine Op10 (LT.tlenRO rfl und24) rfl ⟨_, rfl, .inl ⟨_, rfl, (by rw [hb8]; rfl)⟩⟩ rfl ?_
    refine Op20 (LT.gtr rfl) rfl ⟨rfl, rfl⟩ ⟨_, rfl, .inl ⟨_, rfl, (by rw [hb8]; rfl)⟩⟩ rfl ?_
    refine Op20 (LT.pickF (v := (Bv (decide (15 < (f.Graph.Bars.length : Int))))) rfl hb8) rfl rfl rfl rfl ?_
    refine mv (Bv (decide (15 < (f.Graph.Bars.length : Int)))) rfl rfl rfl rfl ?_
    refine AOR.split (fun hb9 => ?_) (fun hb9 => ?_)
    ·refine Ok rfl rfl rfl (by rw [hb9]; rfl) rfl ?_
     refine Ok rfl rfl rfl (by rw [hb9]; rfl) rfl ?_
     refine Ok rfl rfl rfl (by rw [hb9]; rfl) rfl ?_
     refine Ok rfl rfl rfl (by rw [hb9]; rfl) rfl ?_
     refine Ok rfl rfl rfl (by rw [hb9]; rfl) rfl ?_
     refine Ok rfl rfl rfl (by rw [hb9]; rfl) rfl ?_
     refine Op20 (LT.pickT (v := (Bv true)) rfl hb9) rfl ⟨rfl, rfl⟩ rfl rfl ?_
     refine On ?_
     refine AWR.nil ⟨rfl, Ent.of ⟨rfl, rfl, rfl, trivial⟩ ⟨rfl, rfl, trivial⟩⟩
    ·refine Op10 (LT.fieldPl rfl fo29_1) rfl ⟨_, rfl, .inl ⟨_, rfl, (by rw [hb9]; rfl)⟩⟩ rfl ?_
     refine Op11 (LT.bload1 (c := (xF encTPlace f.Places)) rfl ag27 (by exact rfl)) rfl rfl ⟨_, rfl, .inl ⟨_, rfl, (by rw [hb9]; rfl)⟩⟩ rfl ?_
     refine Op10 (LT.tlenRO rfl und27) rfl ⟨_, rfl, .inl ⟨_, rfl, (by rw [hb9]; rfl)⟩⟩ rfl ?_
     refine Op10 (LT.fieldPl rfl fo26_0) rfl ⟨_, rfl, .inl ⟨_, rfl, (by rw [hb9]; rfl)⟩⟩ rfl ?_
     refine Op11 (LT.bload1 (c := (iC f.Graph.Points)) rfl ag3 (by exact rfl)) rfl rfl ⟨_, rfl, .inl ⟨_, rfl, (by rw [hb9]; rfl)⟩⟩ rfl ?_
     refine Op20 (LT.neq rfl) rfl rfl ⟨_, rfl, .inl ⟨_, rfl, (by rw [hb9]; rfl)⟩⟩ rfl ?_
     refine Op20 (LT.pickF (v := (Bv ((f.Places.length : Int) != f.Graph.Points))) rfl hb9) rfl rfl rfl rfl ?_
     refine On ?_
     refine AWR.nil ⟨rfl, Ent.of ⟨rfl, rfl, rfl, trivial⟩ ⟨rfl, rfl, trivial⟩⟩
 ·refine AWR.cond rfl (fun hc10 => ?_) (fun hc10 => ?_)
  ·refine Ws (Wr ?_)
   refine asg (Bv false) rfl ⟨rfl, rfl⟩ rfl rfl ?_
   refine On ?_
   refine AWR.ret (FPost.mk (.inr rfl) ⟨rfl, trivial⟩ trivial rfl ⟨PermP.sc, trivial⟩ trivial)
  ·refine AWR.skip (Ws (Ws (Wr ?_)))
   refine Op10 (LT.fieldPl rfl fo29_1) rfl rfl rfl ?_
   refine Op11 (LT.bload1 (c := (xF encTPlace f.Places)) rfl ag27 (by exact rfl)) rfl rfl rfl rfl ?_
   refine Op10 (LT.tlenRO rfl und27) rfl rfl rfl ?_
   refine mv (Iv 0) rfl ⟨rfl, rfl⟩ rfl rfl ?_
   refine On (AWR.block ?_)
   refine AWR.loopR (id := 0) (m_impl_IsFramework_L1 f) (fun s11 => ([(1, (Cc (.pl 21 0))), (3, (Cc (.pl 22 0))), (33, (Cc (xF encTPlace f.Places))), (34, (Iv (f.Places.length : Int))), (35, (Iv s11))], [(21, (.row 29 [[(iC f.Graph.Points), (xF encTBar f.Graph.Bars), (xF encTPlace f.Places)]])), (22, (.row 26 [[(iC f.Graph.Points), (xF encTBar f.Graph.Bars)]]))])) (fun b20 => ([(1, (Cc (.pl 21 0))), (3, (Cc (.pl 22 0)))], [(21, (.row 29 [[(iC f.Graph.Points), (xF encTBar f.Graph.Bars), (xF encTPlace f.Places)]])), (22, (.row 26 [[(iC f.Graph.Points), (xF encTBar f.Graph.Bars)]]))])) (FPost Try.prog Try.f80.results.toList [] [] (fun (t : Bool) => [(.c (bC t))]) (fun (t : Bool) => [])) ?_ (Ent.of ⟨rfl, rfl, rfl, rfl, rfl, trivial⟩ ⟨rfl, rfl, trivial⟩) rfl (fun b20 _ => ?_) (by intro r t σ m ht hk; injection ht with ht; subst ht; exact hk)
   ·intro s11
    unfold m_impl_IsFramework_L1
    refine Ws (Wr ?_)
    refine Op20 (LT.lss rfl) rfl rfl rfl rfl ?_
    refine On (Ws ?_)
    refine AWR.cond rfl (fun hc21 => ?_) (fun hc21 => ?_)
    ·refine AWR.skip (Ws (AWR.block (Ws (Wr ?_))))
     refine Ob' fun x22 hx22 => ?_
     refine Op20 (LT.tindexRO (enc := encTPlace) rfl el27 hx22 sz94) rfl rfl rfl rfl ?_
     refine Op10 (LT.loadPxN rfl ag94 (infS inf94) (by exact sz94.symm)) rfl rfl rfl ?_
     refine Os00 (LT.alloc (n := 24) (cells := [(iC 0), (iC 0)]) rfl ti94 rfl rfl rfl) rfl rfl ?_
     refine Os21 (LT.bstore (v := (.agg [(iC x22.X), (iC x22.Y)])) (out := [(iC x22.X), (iC x22.Y)]) rfl rfl (infS inf94) sz94 (by exact rfl) (by exact Nat.le_of_ble_eq_true rfl) (by exact rfl)) rfl rfl rfl rfl rfl ?_
     refine On (Ws (Wr ?_))
     refine Op11 (LT.bloadN (out := [(iC x22.X), (iC x22.Y)]) rfl ag94 (infS inf94) sz94 (by exact rfl) (by exact rfl)) rfl rfl rfl rfl ?_
     refine Ob' fun r23 hr23 => ?_
     refine AOR.pure (@LT.callF Try.prog _ _ 174 _ _ [(.agg [(iC x22.X), (iC x22.Y)])] _ _ [] _ _ _ _ (w_impl_isPlace x22 r23 hr23) rfl cb174 (.cons (.agg (.cons (.same rfl) (.cons (.same rfl) .nil))) .nil) rfl rfl trivial) ⟨rfl, rfl, trivial⟩ trivial rfl rfl ?_
     refine Op10 (LT.not rfl) rfl rfl rfl ?_
     refine On ?_
     refine AWR.cond rfl (fun hc24 => ?_) (fun hc24 => ?_)
     ·refine Ws ?_
      refine en [] [] trivial trivial ?_
      refine Wr ?_
      refine asg (Bv false) rfl ⟨rfl, rfl⟩ rfl rfl ?_
      refine On ?_
      refine AWR.ret ⟨rfl, FPost.mk (.inr rfl) ⟨rfl, trivial⟩ trivial rfl ⟨PermP.sc, trivial⟩ trivial⟩
     ·refine AWR.skip (AWR.blk ?_)
      refine en [(1, (Cc (.pl 21 0))), (3, (Cc (.pl 22 0))), (33, (Cc (xF encTPlace f.Places))), (34, (Iv (f.Places.length : Int))), (35, (Iv s11))] [(21, (.row 29 [[(iC f.Graph.Points), (xF encTBar f.Graph.Bars), (xF encTPlace f.Places)]])), (22, (.row 26 [[(iC f.Graph.Points), (xF encTBar f.Graph.Bars)]]))] ⟨rfl, rfl, rfl, rfl, rfl, trivial⟩ ⟨rfl, rfl, trivial⟩ ?_
      refine Wr ?_
      refine Op20 (LT.add rfl) rfl ⟨rfl, rfl⟩ rfl rfl ?_
      refine mv (Iv (w64 (s11 + 1))) rfl rfl rfl rfl ?_
      refine On ?_
      refine AWR.nil ⟨rfl, Ent.of ⟨rfl, rfl, rfl, rfl, rfl, trivial⟩ ⟨rfl, rfl, trivial⟩⟩
    ·refine AWR.exit_end rfl ⟨rfl, Ent.of ⟨rfl, rfl, trivial⟩ ⟨rfl, rfl, trivial⟩⟩
   ·refine Ws (Ws (Wr ?_))
    refine Op10 (LT.fieldPl rfl fo26_1) rfl rfl rfl ?_
    refine Op11 (LT.bload1 (c := (xF encTBar f.Graph.Bars)) rfl ag24 (by exact rfl)) rfl rfl rfl rfl ?_
    refine Op10 (LT.tlenRO rfl und24) rfl rfl rfl ?_
    refine mv (Iv 0) rfl ⟨rfl, rfl⟩ rfl rfl ?_
    refine On (AWR.block ?_)
    refine AWR.loopR (id := 2) (m_impl_IsFramework_L2 f) (fun s25 => ([(1, (Cc (.pl 21 0))), (3, (Cc (.pl 22 0))), (44, (Cc (xF encTBar f.Graph.Bars))), (45, (Iv (f.Graph.Bars.length : Int))), (46, (Iv s25))], [(21, (.row 29 [[(iC f.Graph.Points), (xF encTBar f.Graph.Bars), (xF encTPlace f.Places)]])), (22, (.row 26 [[(iC f.Graph.Points), (xF encTBar f.Graph.Bars)]]))])) (fun b62 => ([], [])) (FPost Try.prog Try.f80.results.toList [] [] (fun (t : Bool) => [(.c (bC t))]) (fun (t : Bool) => [])) ?_ (Ent.of ⟨rfl, rfl, rfl, rfl, rfl, trivial⟩ ⟨rfl, rfl, trivial⟩) rfl (fun b62 _ => ?_) (by intro r t σ m ht hk; injection ht with ht; subst ht; exact hk)
    ·intro s25
     unfold m_impl_IsFramework_L2
     refine Ws (Wr ?_)
     refine Op20 (LT.lss rfl) rfl rfl rfl rfl ?_
     refine On (Ws ?_)
     refine AWR.cond rfl (fun hc63 => ?_) (fun hc63 => ?_)
     ·refine AWR.skip (Ws (AWR.block (Ws (Wr ?_))))
      refine mv (Iv s25) rfl rfl rfl rfl ?_
      refine Ob' fun x64 hx64 => ?_
      refine Op20 (LT.tindexRO (enc := encTBar) rfl el24 hx64 sz62) rfl rfl rfl rfl ?_
      refine Op10 (LT.loadPxN rfl ag62 (infS inf62) (by exact sz62.symm)) rfl rfl rfl ?_
      refine Os00 (LT.alloc (n := 26) (cells := [(iC 0), (iC 0)]) rfl ti62 rfl rfl rfl) rfl rfl ?_
      refine asg (Iv s25) rfl rfl rfl rfl ?_
      refine Os21 (LT.bstore (v := (.agg [(iC x64.A), (iC x64.B)])) (out := [(iC x64.A), (iC x64.B)]) rfl rfl (infS inf62) sz62 (by exact rfl) (by exact Nat.le_of_ble_eq_true rfl) (by exact rfl)) rfl rfl rfl rfl rfl ?_
      refine On (Ws ?_)
      refine AWR.joinK (fun j72 => ([(1, (Cc (.pl 21 0))), (3, (Cc (.pl 22 0))), (44, (Cc (xF encTBar f.Graph.Bars))), (45, (Iv (f.Graph.Bars.length : Int))), (46, (Iv s25)), (77, (Bv j72))], [(21, (.row 29 [[(iC f.Graph.Points), (xF encTBar f.Graph.Bars), (xF encTPlace f.Places)]])), (22, (.row 26 [[(iC f.Graph.Points), (xF encTBar f.Graph.Bars)]]))])) ?_ (fun j72 _ => ?_)
      ·refine en [(1, (Cc (.pl 21 0))), (3, (Cc (.pl 22 0))), (6, (Iv s25)), (7, (Cc (.pl 26 0))), (44, (Cc (xF encTBar f.Graph.Bars))), (45, (Iv (f.Graph.Bars.length : Int))), (46, (Iv s25))] [(21, (.row 29 [[(iC f.Graph.Points), (xF encTBar f.Graph.Bars), (xF encTPlace f.Places)]])), (22, (.row 26 [[(iC f.Graph.Points), (xF encTBar f.Graph.Bars)]])), (26, (.row 62 [[(iC x64.A), (iC x64.B)]]))] ⟨rfl, rfl, rfl, rfl, rfl, rfl, rfl, trivial⟩ ⟨rfl, rfl, rfl, trivial⟩ ?_
       refine AWR.draw mixed ?_
       refine Dp10 (LT.move (v := (Iv s25)) rfl) rfl rfl rfl ?_
       refine Dp20 (LT.gtr rfl) rfl ⟨rfl, rfl⟩ rfl rfl ?_
       refine Dp10 (LT.move (v := (Bv (decide (0 < s25)))) rfl) rfl rfl rfl ?_
       refine AOD.split (fun hb73 => ?_) (fun hb73 => ?_)
       ·refine Dp10 (LT.fieldPl rfl fo26_1) rfl ⟨_, rfl, .inl ⟨_, rfl, (by rw [hb73]; rfl)⟩⟩ rfl ?_
        refine Dp11 (LT.bload1 (c := (xF encTBar f.Graph.Bars)) rfl ag24 (by exact rfl)) rfl rfl ⟨_, rfl, .inl ⟨_, rfl, (by rw [hb73]; rfl)⟩⟩ rfl ?_
        refine Dp10 (LT.move (v := (Iv s25)) rfl) rfl ⟨_, rfl, .inl ⟨_, rfl, (by rw [hb73]; rfl)⟩⟩ rfl ?_
        refine Dp20 (LT.sub rfl) rfl ⟨rfl, rfl⟩ ⟨_, rfl, .inl ⟨_, rfl, (by rw [hb73]; rfl)⟩⟩ rfl ?_
        refine AOD.bind fun x74 hx74 => ?_
        refine Dp20 (LT.tindexRO (enc := encTBar) rfl el24 hx74 sz62) rfl rfl ⟨_, rfl, .inl ⟨_, rfl, (by rw [hb73]; rfl)⟩⟩ rfl ?_
        refine Dp10 (LT.loadPxN rfl ag62 (infS inf62) (by exact sz62.symm)) rfl ⟨_, rfl, .inl ⟨_, rfl, (by rw [hb73]; rfl)⟩⟩ rfl ?_
        refine Dp11 (LT.bloadN (out := [(iC x64.A), (iC x64.B)]) rfl ag62 (infS inf62) sz62 (by exact rfl) (by exact rfl)) rfl rfl ⟨_, rfl, .inl ⟨_, rfl, (by rw [hb73]; rfl)⟩⟩ rfl ?_
        refine Dp20 (LT.eqlStruct [x74.A, x74.B] [x64.A, x64.B] rfl ist62 rfl rfl) rfl rfl ⟨_, rfl, .inl ⟨_, rfl, (by rw [hb73]; rfl)⟩⟩ rfl ?_
        refine Dp20 (LT.pickT (v := (Bv (eqI [x74.A, x74.B] [x64.A, x64.B]))) rfl hb73) rfl rfl rfl rfl ?_
        refine Dp10 (LT.move (v := (Bv (eqI [x74.A, x74.B] [x64.A, x64.B]))) rfl) rfl rfl rfl ?_
        refine AOD.split (fun hb75 => ?_) (fun hb75 => ?_)
        ·refine AOD.skip ⟨_, rfl, .inl ⟨_, rfl, (by rw [hb75]; rfl)⟩⟩ rfl ?_
         refine AOD.skip ⟨_, rfl, .inl ⟨_, rfl, (by rw [hb75]; rfl)⟩⟩ rfl ?_
         refine AOD.skip ⟨_, rfl, .inl ⟨_, rfl, (by rw [hb75]; rfl)⟩⟩ rfl ?_
         refine AOD.skip ⟨_, rfl, .inl ⟨_, rfl, (by rw [hb75]; rfl)⟩⟩ rfl ?_
         refine AOD.skip ⟨_, rfl, .inl ⟨_, rfl, (by rw [hb75]; rfl)⟩⟩ rfl ?_
         refine AOD.skip ⟨_, rfl, .inl ⟨_, rfl, (by rw [hb75]; rfl)⟩⟩ rfl ?_
         refine AOD.skip ⟨_, rfl, .inl ⟨_, rfl, (by rw [hb75]; rfl)⟩⟩ rfl ?_
         refine AOD.skip ⟨_, rfl, .inl ⟨_, rfl, (by rw [hb75]; rfl)⟩⟩ rfl ?_
         refine AOD.skip ⟨_, rfl, .inl ⟨_, rfl, (by rw [hb75]; rfl)⟩⟩ rfl ?_
         refine AOD.skip ⟨_, rfl, .inl ⟨_, rfl, (by rw [hb75]; rfl)⟩⟩ rfl ?_
         refine AOD.skip ⟨_, rfl, .inl ⟨_, rfl, (by rw [hb75]; rfl)⟩⟩ rfl ?_
         refine AOD.skip ⟨_, rfl, .inl ⟨_, rfl, (by rw [hb75]; rfl)⟩⟩ rfl ?_
         refine AOD.skip ⟨_, rfl, .inl ⟨_, rfl, (by rw [hb75]; rfl)⟩⟩ rfl ?_
         refine Dp20 (LT.pickT (v := (Bv true)) rfl hb75) rfl ⟨rfl, rfl⟩ rfl rfl ?_
         refine AOD.nil (by kernel_rfl) ?_
         refine AWR.nil ⟨rfl, Ent.of ⟨rfl, rfl, rfl, rfl, rfl, rfl, trivial⟩ ⟨rfl, rfl, trivial⟩⟩
        ·refine Dp10 (LT.fieldPl rfl fo29_1) rfl ⟨_, rfl, .inl ⟨_, rfl, (by rw [hb75]; rfl)⟩⟩ rfl ?_
         refine Dp11 (LT.bload1 (c := (xF encTPlace f.Places)) rfl ag27 (by exact rfl)) rfl rfl ⟨_, rfl, .inl ⟨_, rfl, (by rw [hb75]; rfl)⟩⟩ rfl ?_
         refine Dp10 (LT.fieldPl rfl fo62_0) rfl ⟨_, rfl, .inl ⟨_, rfl, (by rw [hb75]; rfl)⟩⟩ rfl ?_
         refine Dp11 (LT.bload1 (c := (iC x64.A)) rfl ag3 (by exact rfl)) rfl rfl ⟨_, rfl, .inl ⟨_, rfl, (by rw [hb75]; rfl)⟩⟩ rfl ?_
         refine AOD.bind fun x76 hx76 => ?_
         refine Dp20 (LT.tindexRO (enc := encTPlace) rfl el27 hx76 sz94) rfl rfl ⟨_, rfl, .inl ⟨_, rfl, (by rw [hb75]; rfl)⟩⟩ rfl ?_
         refine Dp10 (LT.loadPxN rfl ag94 (infS inf94) (by exact sz94.symm)) rfl ⟨_, rfl, .inl ⟨_, rfl, (by rw [hb75]; rfl)⟩⟩ rfl ?_
         refine Dp10 (LT.fieldPl rfl fo29_1) rfl ⟨_, rfl, .inl ⟨_, rfl, (by rw [hb75]; rfl)⟩⟩ rfl ?_
         refine Dp11 (LT.bload1 (c := (xF encTPlace f.Places)) rfl ag27 (by exact rfl)) rfl rfl ⟨_, rfl, .inl ⟨_, rfl, (by rw [hb75]; rfl)⟩⟩ rfl ?_
         refine Dp10 (LT.fieldPl rfl fo62_1) rfl ⟨_, rfl, .inl ⟨_, rfl, (by rw [hb75]; rfl)⟩⟩ rfl ?_
         refine Dp11 (LT.bload1 (c := (iC x64.B)) rfl ag3 (by exact rfl)) rfl rfl ⟨_, rfl, .inl ⟨_, rfl, (by rw [hb75]; rfl)⟩⟩ rfl ?_
         refine AOD.bind fun x77 hx77 => ?_
         refine Dp20 (LT.tindexRO (enc := encTPlace) rfl el27 hx77 sz94) rfl rfl ⟨_, rfl, .inl ⟨_, rfl, (by rw [hb75]; rfl)⟩⟩ rfl ?_
         refine Dp10 (LT.loadPxN rfl ag94 (infS inf94) (by exact sz94.symm)) rfl ⟨_, rfl, .inl ⟨_, rfl, (by rw [hb75]; rfl)⟩⟩ rfl ?_
         refine Dp20 (LT.eqlStruct [x76.X, x76.Y] [x77.X, x77.Y] rfl ist94 rfl rfl) rfl rfl ⟨_, rfl, .inl ⟨_, rfl, (by rw [hb75]; rfl)⟩⟩ rfl ?_
         refine Dp20 (LT.pickF (v := (Bv (eqI [x76.X, x76.Y] [x77.X, x77.Y]))) rfl hb75) rfl rfl rfl rfl ?_
         refine AOD.nil (by kernel_rfl) ?_
         refine AWR.nil ⟨rfl, Ent.of ⟨rfl, rfl, rfl, rfl, rfl, rfl, trivial⟩ ⟨rfl, rfl, trivial⟩⟩
       ·refine AOD.skip ⟨_, rfl, .inl ⟨_, rfl, (by rw [hb73]; rfl)⟩⟩ rfl ?_
        refine AOD.skip ⟨_, rfl, .inl ⟨_, rfl, (by rw [hb73]; rfl)⟩⟩ rfl ?_
        refine AOD.skip ⟨_, rfl, .inl ⟨_, rfl, (by rw [hb73]; rfl)⟩⟩ rfl ?_
        refine AOD.skip ⟨_, rfl, .inl ⟨_, rfl, (by rw [hb73]; rfl)⟩⟩ rfl ?_
        refine AOD.skip ⟨_, rfl, .inl ⟨_, rfl, (by rw [hb73]; rfl)⟩⟩ rfl ?_
        refine AOD.skip ⟨_, rfl, .inl ⟨_, rfl, (by rw [hb73]; rfl)⟩⟩ rfl ?_
        refine AOD.skip ⟨_, rfl, .inl ⟨_, rfl, (by rw [hb73]; rfl)⟩⟩ rfl ?_
        refine AOD.skip ⟨_, rfl, .inl ⟨_, rfl, (by rw [hb73]; rfl)⟩⟩ rfl ?_
        refine Dp20 (LT.pickF (v := (Bv false)) rfl hb73) rfl ⟨rfl, rfl⟩ rfl rfl ?_
        refine Dp10 (LT.move (v := (Bv false)) rfl) rfl rfl rfl ?_
        refine Dp10 (LT.fieldPl rfl fo29_1) rfl ⟨_, rfl, .inl ⟨_, rfl, rfl⟩⟩ rfl ?_
        refine Dp11 (LT.bload1 (c := (xF encTPlace f.Places)) rfl ag27 (by exact rfl)) rfl rfl ⟨_, rfl, .inl ⟨_, rfl, rfl⟩⟩ rfl ?_
        refine Dp10 (LT.fieldPl rfl fo62_0) rfl ⟨_, rfl, .inl ⟨_, rfl, rfl⟩⟩ rfl ?_
        refine Dp11 (LT.bload1 (c := (iC x64.A)) rfl ag3 (by exact rfl)) rfl rfl ⟨_, rfl, .inl ⟨_, rfl, rfl⟩⟩ rfl ?_
        refine AOD.bind fun x78 hx78 => ?_
        refine Dp20 (LT.tindexRO (enc := encTPlace) rfl el27 hx78 sz94) rfl rfl ⟨_, rfl, .inl ⟨_, rfl, rfl⟩⟩ rfl ?_
        refine Dp10 (LT.loadPxN rfl ag94 (infS inf94) (by exact sz94.symm)) rfl ⟨_, rfl, .inl ⟨_, rfl, rfl⟩⟩ rfl ?_
        refine Dp10 (LT.fieldPl rfl fo29_1) rfl ⟨_, rfl, .inl ⟨_, rfl, rfl⟩⟩ rfl ?_
        refine Dp11 (LT.bload1 (c := (xF encTPlace f.Places)) rfl ag27 (by exact rfl)) rfl rfl ⟨_, rfl, .inl ⟨_, rfl, rfl⟩⟩ rfl ?_
        refine Dp10 (LT.fieldPl rfl fo62_1) rfl ⟨_, rfl, .inl ⟨_, rfl, rfl⟩⟩ rfl ?_
        refine Dp11 (LT.bload1 (c := (iC x64.B)) rfl ag3 (by exact rfl)) rfl rfl ⟨_, rfl, .inl ⟨_, rfl, rfl⟩⟩ rfl ?_
        refine AOD.bind fun x79 hx79 => ?_
        refine Dp20 (LT.tindexRO (enc := encTPlace) rfl el27 hx79 sz94) rfl rfl ⟨_, rfl, .inl ⟨_, rfl, rfl⟩⟩ rfl ?_
        refine Dp10 (LT.loadPxN rfl ag94 (infS inf94) (by exact sz94.symm)) rfl ⟨_, rfl, .inl ⟨_, rfl, rfl⟩⟩ rfl ?_
        refine Dp20 (LT.eqlStruct [x78.X, x78.Y] [x79.X, x79.Y] rfl ist94 rfl rfl) rfl rfl ⟨_, rfl, .inl ⟨_, rfl, rfl⟩⟩ rfl ?_
        refine Dp20 (LT.pickF (v := (Bv (eqI [x78.X, x78.Y] [x79.X, x79.Y]))) rfl rfl) rfl rfl rfl rfl ?_
        refine AOD.nil (by kernel_rfl) ?_
        refine AWR.nil ⟨rfl, Ent.of ⟨rfl, rfl, rfl, rfl, rfl, rfl, trivial⟩ ⟨rfl, rfl, trivial⟩⟩
      ·refine AWR.cond rfl (fun hc80 => ?_) (fun hc80 => ?_)
       ·refine Ws (Wr ?_)
        refine asg (Bv false) rfl ⟨rfl, rfl⟩ rfl rfl ?_
        refine On ?_
        refine AWR.ret ⟨rfl, FPost.mk (.inr rfl) ⟨rfl, trivial⟩ trivial rfl ⟨PermP.sc, trivial⟩ trivial⟩
       ·refine AWR.skip (AWR.blk (Wr ?_))
        refine Op20 (LT.add rfl) rfl ⟨rfl, rfl⟩ rfl rfl ?_
        refine mv (Iv (w64 (s25 + 1))) rfl rfl rfl rfl ?_
        refine On ?_
        refine AWR.nil ⟨rfl, Ent.of ⟨rfl, rfl, rfl, rfl, rfl, trivial⟩ ⟨rfl, rfl, trivial⟩⟩
     ·refine AWR.exit_end rfl ⟨rfl, Ent.of trivial trivial⟩
    ·refine Ws (Wr ?_)
     refine asg (Bv true) rfl ⟨rfl, rfl⟩ rfl rfl ?_
     refine On ?_
     refine AWR.ret (FPost.mk (.inr rfl) ⟨rfl, trivial⟩ trivial rfl ⟨PermP.sc, trivial⟩ trivial)
theorem w_impl_RigidityMatrix (f : TFramework) : ∀ t, m_impl_RigidityMatrix f = some t → Fw.Fn Try.prog 44 [(.agg [(iC f.Graph.Points), (xF encTBar f.Graph.Bars), (xF encTPlace f.Places)])] [] (.s (.c (lo 0 t.length))) [(0, (.trow 37 1 (lensOf t))), (1, (.pool 3 (rowsOf encInt t)))] [] [0, 1] := by
 refine Fw.Fn.of (P := Try.prog) (X := [0, 1]) (pn := []) (rs := (fun (t : (List (List Int))) => [(.c (lo 0 t.length))])) (dfs := (fun (t : (List (List Int))) => [(0, (.trow 37 1 (lensOf t))), (1, (.pool 3 (rowsOf encInt t)))])) Try.func44 rfl Try.ntmps44 (Nat.le_of_ble_eq_true rfl) rfl ?_
 intro w0 U0 R0 g0
 unfold m_impl_RigidityMatrix
 refine Ws (Wr ?_)
 refine Os10 (LT.box (n := 21) (v := (.agg [(iC f.Graph.Points), (xF encTBar f.Graph.Bars), (xF encTPlace f.Places)])) rfl sz29 (by exact rfl)) rfl rfl rfl ?_
 refine asg (Cc (sC nilV)) rfl ⟨rfl, rfl⟩ rfl rfl ?_
 refine On (Ws (Wr ?_))
 refine Os00 (LT.buildSlice (n := 22) (els := []) [] rfl rfl und31 ti37 rfl rfl rfl rfl (by decide) rfl rfl) rfl rfl ?_
 refine asg (Cc (lo 22 0)) rfl rfl rfl rfl ?_
 refine On ?_
 refine AWR.ent (Ent.poolE 23 3 rfl) ?_
 refine AWR.ent (Ent.trow (n := 22) (p := 23) (lens := lensOf ([] : List (List Int))) (List.append_nil _) rfl) ?_
 refine Ws (Ws (Wr ?_))
 refine Op11 (LT.bloadN (out := [(iC f.Graph.Points), (xF encTBar f.Graph.Bars), (xF encTPlace f.Places)]) rfl ag29 (infS inf29) sz29 (by exact rfl) (by exact rfl)) rfl rfl rfl rfl ?_
 refine Ob' fun r1 hr1 => ?_
 refine AOR.pure (@LT.callF Try.prog _ _ 80 _ _ [(.agg [(iC f.Graph.Points), (xF encTBar f.Graph.Bars), (xF encTPlace f.Places)])] _ _ [] _ _ _ _ (w_impl_IsFramework f r1 hr1) rfl cb80 (.cons (.agg (.cons (.same rfl) (.cons (.same rfl) (.cons (.same rfl) .nil)))) .nil) rfl rfl trivial) ⟨rfl, rfl, trivial⟩ trivial rfl rfl ?_
 refine Op10 (LT.not rfl) rfl rfl rfl ?_
 refine On ?_
 refine AWR.cond rfl (fun hc2 => ?_) (fun hc2 => ?_)
 ·refine Ws (Wr ?_)
  refine mv (Cc (lo 22 0)) rfl rfl rfl rfl ?_
  refine asg (Cc (lo 22 0)) rfl rfl rfl rfl ?_
  refine On ?_
  refine en [(2, (Cc (lo 22 0)))] [(22, (.trow 37 23 (lensOf ([] : List (List Int))))), (23, (.pool 3 (rowsOf encInt ([] : List (List Int)))))] ⟨rfl, trivial⟩ ⟨rfl, rfl, trivial⟩ ?_
  refine AWR.ent (Ent.mv 22 0 rfl rfl) ?_
  refine AWR.ent (Ent.mv 23 1 rfl rfl) ?_
  refine en [(2, (Cc (lo 0 (([] : List (List Int)).length))))] [(0, (.trow 37 1 (lensOf ([] : List (List Int))))), (1, (.pool 3 (rowsOf encInt ([] : List (List Int)))))] ⟨rfl, trivial⟩ ⟨rfl, rfl, trivial⟩ ?_
  refine AWR.ret (FPost.mk (.inr rfl) ⟨rfl, trivial⟩ ⟨rfl, rfl, trivial⟩ rfl ⟨trivial, trivial⟩ ⟨trivial, PermO.poolR perm_encInt _, trivial⟩)
 ·refine AWR.skip (Ws (Ws (Wr ?_)))
  refine Op10 (LT.fieldPl rfl fo29_0) rfl rfl rfl ?_
  refine Op10 (LT.fieldPl rfl fo26_1) rfl rfl rfl ?_
  refine Op11 (LT.bload1 (c := (xF encTBar f.Graph.Bars)) rfl ag24 (by exact rfl)) rfl rfl rfl rfl ?_
  refine Op10 (LT.tlenRO rfl und24) rfl rfl rfl ?_
  refine mv (Iv 0) rfl ⟨rfl, rfl⟩ rfl rfl ?_
  refine On (AWR.block ?_)
  refine AWR.loop1 (id := 0) (m_impl_RigidityMatrix_L1 f) (fun s3 => ([(1, (Cc (.pl 21 0))), (3, (Cc (lo 22 s3.2.length))), (16, (Cc (xF encTBar f.Graph.Bars))), (17, (Iv (f.Graph.Bars.length : Int))), (18, (Iv s3.1))], [(21, (.row 29 [[(iC f.Graph.Points), (xF encTBar f.Graph.Bars), (xF encTPlace f.Places)]])), (22, (.trow 37 23 (lensOf s3.2))), (23, (.pool 3 (rowsOf encInt s3.2)))])) (fun b24 => ([(3, (Cc (lo 22 b24.length)))], [(22, (.trow 37 23 (lensOf b24))), (23, (.pool 3 (rowsOf encInt b24)))])) ?_ (Ent.of ⟨rfl, rfl, rfl, rfl, rfl, trivial⟩ ⟨rfl, rfl, rfl, trivial⟩) rfl (fun b24 _ => ?_)
  ·intro s3
   unfold m_impl_RigidityMatrix_L1
   refine Ws (Wr ?_)
   refine Op20 (LT.lss rfl) rfl rfl rfl rfl ?_
   refine On (Ws ?_)
   refine AWR.cond rfl (fun hc25 => ?_) (fun hc25 => ?_)
   ·refine AWR.skip (Ws (AWR.block (Ws (Wr ?_))))
    refine Ob' fun x26 hx26 => ?_
    refine Op20 (LT.tindexRO (enc := encTBar) rfl el24 hx26 sz62) rfl rfl rfl rfl ?_
    refine Op10 (LT.loadPxN rfl ag62 (infS inf62) (by exact sz62.symm)) rfl rfl rfl ?_
    refine Os00 (LT.alloc (n := 25) (cells := [(iC 0), (iC 0)]) rfl ti62 rfl rfl rfl) rfl rfl ?_
    refine Os21 (LT.bstore (v := (.agg [(iC x26.A), (iC x26.B)])) (out := [(iC x26.A), (iC x26.B)]) rfl rfl (infS inf62) sz62 (by exact rfl) (by exact Nat.le_of_ble_eq_true rfl) (by exact rfl)) rfl rfl rfl rfl rfl ?_
    refine On (Ws (Wr ?_))
    refine Op10 (LT.fieldPl rfl fo29_0) rfl rfl rfl ?_
    refine Op10 (LT.fieldPl rfl fo26_0) rfl rfl rfl ?_
    refine Op11 (LT.bload1 (c := (iC f.Graph.Points)) rfl ag3 (by exact rfl)) rfl rfl rfl rfl ?_
    refine Op20 (LT.mul rfl) ⟨rfl, rfl⟩ rfl rfl rfl ?_
    refine Ob' fun u27 hu27 => ?_
    refine Os20 (LT.tmake (n := 26) (enc := encInt) (zc := [(iC 0)]) (0 : Int) rfl und37 ti3 rfl rfl rfl (by decide) (by decide) (lenOk_le hu27) rfl) rfl rfl rfl rfl ?_
    refine asg (Cc (lo 26 ((List.replicate (w64 (2 * f.Graph.Points)).toNat (0 : Int)).length))) rfl rfl rfl rfl ?_
    refine On (Ws ?_)
    refine en [(1, (Cc (.pl 21 0))), (3, (Cc (lo 22 s3.2.length))), (5, (Cc (.pl 25 0))), (6, (Cc (lo 26 ((List.replicate (w64 (2 * f.Graph.Points)).toNat (0 : Int)).length)))), (16, (Cc (xF encTBar f.Graph.Bars))), (17, (Iv (f.Graph.Bars.length : Int))), (18, (Iv s3.1))] [(21, (.row 29 [[(iC f.Graph.Points), (xF encTBar f.Graph.Bars), (xF encTPlace f.Places)]])), (22, (.trow 37 23 (lensOf s3.2))), (23, (.pool 3 (rowsOf encInt s3.2))), (25, (.row 62 [[(iC x26.A), (iC x26.B)]])), (26, (pR 3 encInt (List.replicate (w64 (2 * f.Graph.Points)).toNat (0 : Int))))] ⟨rfl, rfl, rfl, rfl, rfl, rfl, rfl, trivial⟩ ⟨rfl, rfl, rfl, rfl, rfl, trivial⟩ ?_
    refine AWR.draw mixed ?_
    refine Dp10 (LT.fieldPl rfl fo29_1) rfl rfl rfl ?_
    refine Dp11 (LT.bload1 (c := (xF encTPlace f.Places)) rfl ag27 (by exact rfl)) rfl rfl rfl rfl ?_
    refine Dp10 (LT.fieldPl rfl fo62_0) rfl rfl rfl ?_
    refine Dp11 (LT.bload1 (c := (iC x26.A)) rfl ag3 (by exact rfl)) rfl rfl rfl rfl ?_
    refine AOD.bind fun x28 hx28 => ?_
    refine Dp20 (LT.tindexRO (enc := encTPlace) rfl el27 hx28 sz94) rfl rfl rfl rfl ?_
    refine Dp10 (LT.loadPxN rfl ag94 (infS inf94) (by exact sz94.symm)) rfl rfl rfl ?_
    refine Dp10 (LT.fieldPl rfl fo29_1) rfl rfl rfl ?_
    refine Dp11 (LT.bload1 (c := (xF encTPlace f.Places)) rfl ag27 (by exact rfl)) rfl rfl rfl rfl ?_
    refine Dp10 (LT.fieldPl rfl fo62_1) rfl rfl rfl ?_
    refine Dp11 (LT.bload1 (c := (iC x26.B)) rfl ag3 (by exact rfl)) rfl rfl rfl rfl ?_
    refine AOD.bind fun x29 hx29 => ?_
    refine Dp20 (LT.tindexRO (enc := encTPlace) rfl el27 hx29 sz94) rfl rfl rfl rfl ?_
    refine Dp10 (LT.loadPxN rfl ag94 (infS inf94) (by exact sz94.symm)) rfl rfl rfl ?_
    refine Ds00 (LT.alloc (n := 27) (cells := [(iC 0), (iC 0)]) rfl ti94 rfl rfl rfl) rfl rfl ?_
    refine Ds00 (LT.alloc (n := 28) (cells := [(iC 0), (iC 0)]) rfl ti94 rfl rfl rfl) rfl rfl ?_
    refine Ds21 (LT.bstore (v := (.agg [(iC x28.X), (iC x28.Y)])) (out := [(iC x28.X), (iC x28.Y)]) rfl rfl (infS inf94) sz94 (by exact rfl) (by exact Nat.le_of_ble_eq_true rfl) (by exact rfl)) rfl rfl rfl rfl rfl ?_
    refine Ds21 (LT.bstore (v := (.agg [(iC x29.X), (iC x29.Y)])) (out := [(iC x29.X), (iC x29.Y)]) rfl rfl (infS inf94) sz94 (by exact rfl) (by exact Nat.le_of_ble_eq_true rfl) (by exact rfl)) rfl rfl rfl rfl rfl ?_
    refine AOD.nil (by kernel_rfl) ?_
    refine Ws ?_
    refine en [(1, (Cc (.pl 21 0))), (3, (Cc (lo 22 s3.2.length))), (5, (Cc (.pl 25 0))), (6, (Cc (lo 26 ((List.replicate (w64 (2 * f.Graph.Points)).toNat (0 : Int)).length)))), (7, (Cc (.pl 27 0))), (8, (Cc (.pl 28 0))), (16, (Cc (xF encTBar f.Graph.Bars))), (17, (Iv (f.Graph.Bars.length : Int))), (18, (Iv s3.1))] [(21, (.row 29 [[(iC f.Graph.Points), (xF encTBar f.Graph.Bars), (xF encTPlace f.Places)]])), (22, (.trow 37 23 (lensOf s3.2))), (23, (.pool 3 (rowsOf encInt s3.2))), (25, (.row 62 [[(iC x26.A), (iC x26.B)]])), (26, (pR 3 encInt (List.replicate (w64 (2 * f.Graph.Points)).toNat (0 : Int)))), (27, (.row 94 [[(iC x28.X), (iC x28.Y)]])), (28, (.row 94 [[(iC x29.X), (iC x29.Y)]]))] ⟨rfl, rfl, rfl, rfl, rfl, rfl, rfl, rfl, rfl, trivial⟩ ⟨rfl, rfl, rfl, rfl, rfl, rfl, rfl, trivial⟩ ?_
    refine AWR.draw mixed ?_
    refine Dp10 (LT.move (v := (Cc (lo 26 ((List.replicate (w64 (2 * f.Graph.Points)).toNat (0 : Int)).length)))) rfl) rfl rfl rfl ?_
    refine Dp10 (LT.fieldPl rfl fo62_0) rfl rfl rfl ?_
    refine Dp11 (LT.bload1 (c := (iC x26.A)) rfl ag3 (by exact rfl)) rfl rfl rfl rfl ?_
    refine Dp20 (LT.mul rfl) ⟨rfl, rfl⟩ rfl rfl rfl ?_
    refine Dp10 (LT.move (v := (Cc (lo 26 ((List.replicate (w64 (2 * f.Graph.Points)).toNat (0 : Int)).length)))) rfl) rfl rfl rfl ?_
    refine Dp10 (LT.fieldPl rfl fo62_0) rfl rfl rfl ?_
    refine Dp11 (LT.bload1 (c := (iC x26.A)) rfl ag3 (by exact rfl)) rfl rfl rfl rfl ?_
    refine Dp20 (LT.mul rfl) ⟨rfl, rfl⟩ rfl rfl rfl ?_
    refine Dp20 (LT.add rfl) rfl ⟨rfl, rfl⟩ rfl rfl ?_
    refine Dp10 (LT.fieldPl rfl fo94_0) rfl rfl rfl ?_
    refine Dp11 (LT.bload1 (c := (iC x28.X)) rfl ag3 (by exact rfl)) rfl rfl rfl rfl ?_
    refine Dp10 (LT.fieldPl rfl fo94_0) rfl rfl rfl ?_
    refine Dp11 (LT.bload1 (c := (iC x29.X)) rfl ag3 (by exact rfl)) rfl rfl rfl rfl ?_
    refine Dp20 (LT.sub rfl) rfl rfl rfl rfl ?_
    refine Dp10 (LT.fieldPl rfl fo94_1) rfl rfl rfl ?_
    refine Dp11 (LT.bload1 (c := (iC x28.Y)) rfl ag3 (by exact rfl)) rfl rfl rfl rfl ?_
    refine Dp10 (LT.fieldPl rfl fo94_1) rfl rfl rfl ?_
    refine Dp11 (LT.bload1 (c := (iC x29.Y)) rfl ag3 (by exact rfl)) rfl rfl rfl rfl ?_
    refine Dp20 (LT.sub rfl) rfl rfl rfl rfl ?_
    refine AOD.bind fun x30 hx30 => ?_
    refine Dp21 (LT.tindexLoc rfl rfl el37 hx30) rfl rfl rfl rfl rfl ?_
    refine Ds21 (LT.tstore (k := 0) (v := (.c (iC (w64 (x28.X - x29.X))))) (b' := (w64 (x28.X - x29.X))) rfl rfl (infS inf3) sz3 (by exact rfl) hx30 (by exact rfl) (by exact Nat.le_of_ble_eq_true rfl) (by exact rfl)) rfl rfl rfl rfl rfl ?_
    refine AOD.bind fun x31 hx31 => ?_
    refine Dp21 (LT.tindexLoc (show (List.replicate (w64 (2 * f.Graph.Points)).toNat (0 : Int)).length = ((List.replicate (w64 (2 * f.Graph.Points)).toNat (0 : Int)).set (w64 (2 * x26.A)).toNat (w64 (x28.X - x29.X))).length by simp only [List.length_set]) rfl el37 hx31) rfl rfl rfl rfl rfl ?_
    refine Ds21 (LT.tstore (k := 0) (v := (.c (iC (w64 (x28.Y - x29.Y))))) (b' := (w64 (x28.Y - x29.Y))) rfl rfl (infS inf3) sz3 (by exact rfl) hx31 (by exact rfl) (by exact Nat.le_of_ble_eq_true rfl) (by exact rfl)) rfl rfl rfl rfl rfl ?_
    refine AOD.nil (by kernel_rfl) ?_
    refine Ws ?_
    refine en [(1, (Cc (.pl 21 0))), (3, (Cc (lo 22 s3.2.length))), (5, (Cc (.pl 25 0))), (6, (Cc (lo 26 ((List.replicate (w64 (2 * f.Graph.Points)).toNat (0 : Int)).length)))), (7, (Cc (.pl 27 0))), (8, (Cc (.pl 28 0))), (16, (Cc (xF encTBar f.Graph.Bars))), (17, (Iv (f.Graph.Bars.length : Int))), (18, (Iv s3.1))] [(21, (.row 29 [[(iC f.Graph.Points), (xF encTBar f.Graph.Bars), (xF encTPlace f.Places)]])), (22, (.trow 37 23 (lensOf s3.2))), (23, (.pool 3 (rowsOf encInt s3.2))), (25, (.row 62 [[(iC x26.A), (iC x26.B)]])), (26, (pR 3 encInt (((List.replicate (w64 (2 * f.Graph.Points)).toNat (0 : Int)).set (w64 (2 * x26.A)).toNat (w64 (x28.X - x29.X))).set (w64 ((w64 (2 * x26.A)) + 1)).toNat (w64 (x28.Y - x29.Y))))), (27, (.row 94 [[(iC x28.X), (iC x28.Y)]])), (28, (.row 94 [[(iC x29.X), (iC x29.Y)]]))] ⟨rfl, rfl, rfl, rfl, rfl, rfl, rfl, rfl, rfl, trivial⟩ ⟨rfl, rfl, rfl, rfl, rfl, rfl, rfl, trivial⟩ ?_
    refine AWR.draw mixed ?_
    refine Dp10 (LT.move (v := (Cc (lo 26 ((List.replicate (w64 (2 * f.Graph.Points)).toNat (0 : Int)).length)))) rfl) rfl rfl rfl ?_
    refine Dp10 (LT.fieldPl rfl fo62_1) rfl rfl rfl ?_
    refine Dp11 (LT.bload1 (c := (iC x26.B)) rfl ag3 (by exact rfl)) rfl rfl rfl rfl ?_
    refine Dp20 (LT.mul rfl) ⟨rfl, rfl⟩ rfl rfl rfl ?_
    refine Dp10 (LT.move (v := (Cc (lo 26 ((List.replicate (w64 (2 * f.Graph.Points)).toNat (0 : Int)).length)))) rfl) rfl rfl rfl ?_
    refine Dp10 (LT.fieldPl rfl fo62_1) rfl rfl rfl ?_
    refine Dp11 (LT.bload1 (c := (iC x26.B)) rfl ag3 (by exact rfl)) rfl rfl rfl rfl ?_
    refine Dp20 (LT.mul rfl) ⟨rfl, rfl⟩ rfl rfl rfl ?_
    refine Dp20 (LT.add rfl) rfl ⟨rfl, rfl⟩ rfl rfl ?_
    refine Dp10 (LT.fieldPl rfl fo94_0) rfl rfl rfl ?_
    refine Dp11 (LT.bload1 (c := (iC x29.X)) rfl ag3 (by exact rfl)) rfl rfl rfl rfl ?_
    refine Dp10 (LT.fieldPl rfl fo94_0) rfl rfl rfl ?_
    refine Dp11 (LT.bload1 (c := (iC x28.X)) rfl ag3 (by exact rfl)) rfl rfl rfl rfl ?_
    refine Dp20 (LT.sub rfl) rfl rfl rfl rfl ?_
    refine Dp10 (LT.fieldPl rfl fo94_1) rfl rfl rfl ?_
    refine Dp11 (LT.bload1 (c := (iC x29.Y)) rfl ag3 (by exact rfl)) rfl rfl rfl rfl ?_
    refine Dp10 (LT.fieldPl rfl fo94_1) rfl rfl rfl ?_
    refine Dp11 (LT.bload1 (c := (iC x28.Y)) rfl ag3 (by exact rfl)) rfl rfl rfl rfl ?_
    refine Dp20 (LT.sub rfl) rfl rfl rfl rfl ?_
    refine AOD.bind fun x32 hx32 => ?_
    refine Dp21 (LT.tindexLoc (show (List.replicate (w64 (2 * f.Graph.Points)).toNat (0 : Int)).length = (((List.replicate (w64 (2 * f.Graph.Points)).toNat (0 : Int)).set (w64 (2 * x26.A)).toNat (w64 (x28.X - x29.X))).set (w64 ((w64 (2 * x26.A)) + 1)).toNat (w64 (x28.Y - x29.Y))).length by simp only [List.length_set]) rfl el37 hx32) rfl rfl rfl rfl rfl ?_
    refine Ds21 (LT.tstore (k := 0) (v := (.c (iC (w64 (x29.X - x28.X))))) (b' := (w64 (x29.X - x28.X))) rfl rfl (infS inf3) sz3 (by exact rfl) hx32 (by exact rfl) (by exact Nat.le_of_ble_eq_true rfl) (by exact rfl)) rfl rfl rfl rfl rfl ?_
    refine AOD.bind fun x33 hx33 => ?_
    refine Dp21 (LT.tindexLoc (show (List.replicate (w64 (2 * f.Graph.Points)).toNat (0 : Int)).length = ((((List.replicate (w64 (2 * f.Graph.Points)).toNat (0 : Int)).set (w64 (2 * x26.A)).toNat (w64 (x28.X - x29.X))).set (w64 ((w64 (2 * x26.A)) + 1)).toNat (w64 (x28.Y - x29.Y))).set (w64 (2 * x26.B)).toNat (w64 (x29.X - x28.X))).length by simp only [List.length_set]) rfl el37 hx33) rfl rfl rfl rfl rfl ?_
    refine Ds21 (LT.tstore (k := 0) (v := (.c (iC (w64 (x29.Y - x28.Y))))) (b' := (w64 (x29.Y - x28.Y))) rfl rfl (infS inf3) sz3 (by exact rfl) hx33 (by exact rfl) (by exact Nat.le_of_ble_eq_true rfl) (by exact rfl)) rfl rfl rfl rfl rfl ?_
    refine AOD.nil (by kernel_rfl) ?_
    refine en [(1, (Cc (.pl 21 0))), (3, (Cc (lo 22 s3.2.length))), (6, (Cc (lo 26 ((List.replicate (w64 (2 * f.Graph.Points)).toNat (0 : Int)).length)))), (16, (Cc (xF encTBar f.Graph.Bars))), (17, (Iv (f.Graph.Bars.length : Int))), (18, (Iv s3.1))] [(21, (.row 29 [[(iC f.Graph.Points), (xF encTBar f.Graph.Bars), (xF encTPlace f.Places)]])), (22, (.trow 37 23 (lensOf s3.2))), (23, (.pool 3 (rowsOf encInt s3.2))), (26, (pR 3 encInt (((((List.replicate (w64 (2 * f.Graph.Points)).toNat (0 : Int)).set (w64 (2 * x26.A)).toNat (w64 (x28.X - x29.X))).set (w64 ((w64 (2 * x26.A)) + 1)).toNat (w64 (x28.Y - x29.Y))).set (w64 (2 * x26.B)).toNat (w64 (x29.X - x28.X))).set (w64 ((w64 (2 * x26.B)) + 1)).toNat (w64 (x29.Y - x28.Y)))))] ⟨rfl, rfl, rfl, rfl, rfl, rfl, trivial⟩ ⟨rfl, rfl, rfl, rfl, trivial⟩ ?_
    refine Wr ?_
    refine mv (Cc (lo 22 s3.2.length)) rfl rfl rfl rfl ?_
    refine mv (Cc (lo 26 ((List.replicate (w64 (2 * f.Graph.Points)).toNat (0 : Int)).length))) rfl rfl rfl rfl ?_
    refine Os10 (LT.buildSlice (n := 29) (els := [[(lo 26 ((List.replicate (w64 (2 * f.Graph.Points)).toNat (0 : Int)).length))]]) [(0, .tmp 82, (.c (lo 26 ((List.replicate (w64 (2 * f.Graph.Points)).toNat (0 : Int)).length))))] rfl rfl und31 ti37 rfl rfl rfl rfl (by decide) rfl rfl) rfl rfl rfl ?_
    refine Ob' fun u34 hu34 => ?_
    refine Os22 (LT.xapp rfl rfl rfl und31 ti37 rfl (by decide) (by decide) rfl (lim_le hu34)) rfl rfl rfl rfl rfl rfl ?_
    refine asg (Cc (lo 22 (s3.2.length + 1))) rfl rfl rfl rfl ?_
    refine On ?_
    refine AWR.ent (Ent.tadopt (enc := encInt) (n := 22) (m := 26) (p := 23) (rows := s3.2) (r := (((((List.replicate (w64 (2 * f.Graph.Points)).toNat (0 : Int)).set (w64 (2 * x26.A)).toNat (w64 (x28.X - x29.X))).set (w64 ((w64 (2 * x26.A)) + 1)).toNat (w64 (x28.Y - x29.Y))).set (w64 (2 * x26.B)).toNat (w64 (x29.X - x28.X))).set (w64 ((w64 (2 * x26.B)) + 1)).toNat (w64 (x29.Y - x28.Y)))) (rest := []) (show (List.replicate (w64 (2 * f.Graph.Points)).toNat (0 : Int)).length = (((((List.replicate (w64 (2 * f.Graph.Points)).toNat (0 : Int)).set (w64 (2 * x26.A)).toNat (w64 (x28.X - x29.X))).set (w64 ((w64 (2 * x26.A)) + 1)).toNat (w64 (x28.Y - x29.Y))).set (w64 (2 * x26.B)).toNat (w64 (x29.X - x28.X))).set (w64 ((w64 (2 * x26.B)) + 1)).toNat (w64 (x29.Y - x28.Y))).length by simp only [List.length_set]) rfl rfl rfl rfl rfl) ?_
    refine AWR.ent (Ent.trow (n := 22) (p := 23) (lens := lensOf (s3.2 ++ [(((((List.replicate (w64 (2 * f.Graph.Points)).toNat (0 : Int)).set (w64 (2 * x26.A)).toNat (w64 (x28.X - x29.X))).set (w64 ((w64 (2 * x26.A)) + 1)).toNat (w64 (x28.Y - x29.Y))).set (w64 (2 * x26.B)).toNat (w64 (x29.X - x28.X))).set (w64 ((w64 (2 * x26.B)) + 1)).toNat (w64 (x29.Y - x28.Y)))])) (List.append_nil _) rfl) ?_
    refine AWR.blk (Wr ?_)
    refine Op20 (LT.add rfl) rfl ⟨rfl, rfl⟩ rfl rfl ?_
    refine mv (Iv (w64 (s3.1 + 1))) rfl rfl rfl rfl ?_
    refine On ?_
    refine AWR.nil ⟨rfl, Ent.of ⟨rfl, (congrArg (fun l1 => (some (AV.s (.c (lo 22 l1))) : Option AV)) (show (s3.2.length + 1) = (s3.2 ++ [(((((List.replicate (w64 (2 * f.Graph.Points)).toNat (0 : Int)).set (w64 (2 * x26.A)).toNat (w64 (x28.X - x29.X))).set (w64 ((w64 (2 * x26.A)) + 1)).toNat (w64 (x28.Y - x29.Y))).set (w64 (2 * x26.B)).toNat (w64 (x29.X - x28.X))).set (w64 ((w64 (2 * x26.B)) + 1)).toNat (w64 (x29.Y - x28.Y)))]).length from len_snoc)), rfl, rfl, rfl, trivial⟩ ⟨rfl, rfl, rfl, trivial⟩⟩
   ·refine AWR.exit_end rfl ⟨rfl, Ent.of ⟨rfl, trivial⟩ ⟨rfl, rfl, trivial⟩⟩
  ·refine Ws (Wr ?_)
   refine mv (Cc (lo 22 b24.length)) rfl rfl rfl rfl ?_
   refine asg (Cc (lo 22 b24.length)) rfl rfl rfl rfl ?_
   refine On ?_
   refine en [(2, (Cc (lo 22 b24.length)))] [(22, (.trow 37 23 (lensOf b24))), (23, (.pool 3 (rowsOf encInt b24)))] ⟨rfl, trivial⟩ ⟨rfl, rfl, trivial⟩ ?_
   refine AWR.ent (Ent.mv 22 0 rfl rfl) ?_
   refine AWR.ent (Ent.mv 23 1 rfl rfl) ?_
   refine en [(2, (Cc (lo 0 b24.length)))] [(0, (.trow 37 1 (lensOf b24))), (1, (.pool 3 (rowsOf encInt b24)))] ⟨rfl, trivial⟩ ⟨rfl, rfl, trivial⟩ ?_
   refine AWR.ret (FPost.mk (.inr rfl) ⟨rfl, trivial⟩ ⟨rfl, rfl, trivial⟩ rfl ⟨trivial, trivial⟩ ⟨trivial, PermO.poolR perm_encInt _, trivial⟩)
theorem w_impl_copyInts (l : (List Int)) : ∀ t, m_impl_copyInts l = some t → Fw.Fn Try.prog 114 [(.c (xF encInt l))] [] (.s (.c (lo 0 t.length))) [(0, (pR 3 encInt t))] [] [0] := by
 refine Fw.Fn.of (P := Try.prog) (X := [0]) (pn := []) (rs := (fun (t : (List Int)) => [(.c (lo 0 t.length))])) (dfs := (fun (t : (List Int)) => [(0, (pR 3 encInt t))])) Try.func114 rfl Try.ntmps114 (Nat.le_of_ble_eq_true rfl) rfl ?_
 intro w0 U0 R0 g0
 unfold m_impl_copyInts
 refine Ws (Wr ?_)
 refine asg (Cc (sC nilV)) rfl ⟨rfl, rfl⟩ rfl rfl ?_
 refine On (Ws (Wr ?_))
 refine Os00 (LT.tbuildSlice (n := 21) (enc := encInt) [] ([] : List Int) rfl rfl und37 ti3 rfl rfl rfl rfl (by decide) (fun _ => rfl) rfl) rfl rfl ?_
 refine mv (Cc (xF encInt l)) rfl rfl rfl rfl ?_
 refine Ob' fun u1 hu1 => ?_
 refine Os21 (LT.tappRO (enc := encInt) rfl  rfl und37 ti3 rfl (by decide) (by decide) (fun _ => rfl) (lim_le hu1)) rfl rfl rfl rfl rfl ?_
 refine asg (Cc (lo 21 ((([] : List Int) ++ l).length))) rfl rfl rfl rfl ?_
 refine On ?_
 refine en [(2, (Cc (lo 21 ((([] : List Int) ++ l).length))))] [(21, (pR 3 encInt (([] : List Int) ++ l)))] ⟨rfl, trivial⟩ ⟨rfl, trivial⟩ ?_
 refine AWR.ent (Ent.mv 21 0 rfl rfl) ?_
 refine en [(2, (Cc (lo 0 ((([] : List Int) ++ l).length))))] [(0, (pR 3 encInt (([] : List Int) ++ l)))] ⟨rfl, trivial⟩ ⟨rfl, trivial⟩ ?_
 refine AWR.ret (FPost.mk (.inr rfl) ⟨rfl, trivial⟩ ⟨rfl, trivial⟩ rfl ⟨trivial, trivial⟩ ⟨PermO.prow' perm_encInt, trivial⟩)
theorem w_impl_copyLists (l : (List (List Int))) : ∀ t, m_impl_copyLists l = some t → Fw.Fn Try.prog 234 [(.c (xF (encLInt false) l))] [] (.s (.c (lo 0 t.length))) [(0, (.trow 37 1 (lensOf t))), (1, (.pool 3 (rowsOf encInt t)))] [] [0, 1] := by
 refine Fw.Fn.of (P := Try.prog) (X := [0, 1]) (pn := []) (rs := (fun (t : (List (List Int))) => [(.c (lo 0 t.length))])) (dfs := (fun (t : (List (List Int))) => [(0, (.trow 37 1 (lensOf t))), (1, (.pool 3 (rowsOf encInt t)))])) Try.func234 rfl Try.ntmps234 (Nat.le_of_ble_eq_true rfl) rfl ?_
 intro w0 U0 R0 g0
 unfold m_impl_copyLists
 refine Ws (Wr ?_)
 refine asg (Cc (sC nilV)) rfl ⟨rfl, rfl⟩ rfl rfl ?_
 refine On (Ws (Wr ?_))
 refine Os00 (LT.buildSlice (n := 21) (els := []) [] rfl rfl und31 ti37 rfl rfl rfl rfl (by decide) rfl rfl) rfl rfl ?_
 refine asg (Cc (lo 21 0)) rfl rfl rfl rfl ?_
 refine On ?_
 refine AWR.ent (Ent.poolE 22 3 rfl) ?_
 refine AWR.ent (Ent.trow (n := 21) (p := 22) (lens := lensOf ([] : List (List Int))) (List.append_nil _) rfl) ?_
 refine Ws (Ws (Wr ?_))
 refine mv (Cc (xF (encLInt false) l)) rfl rfl rfl rfl ?_
 refine Op10 (LT.tlenRO rfl und31) rfl rfl rfl ?_
 refine mv (Iv 0) rfl ⟨rfl, rfl⟩ rfl rfl ?_
 refine On (AWR.block ?_)
 refine AWR.loop1 (id := 0) (m_impl_copyLists_L1 l) (fun s1 => ([(3, (Cc (lo 21 s1.2.length))), (7, (Cc (xF (encLInt false) l))), (8, (Iv (l.length : Int))), (9, (Iv s1.1))], [(21, (.trow 37 22 (lensOf s1.2))), (22, (.pool 3 (rowsOf encInt s1.2)))])) (fun b10 => ([(3, (Cc (lo 21 b10.length)))], [(21, (.trow 37 22 (lensOf b10))), (22, (.pool 3 (rowsOf encInt b10)))])) ?_ (Ent.of ⟨rfl, rfl, rfl, rfl, trivial⟩ ⟨rfl, rfl, trivial⟩) rfl (fun b10 _ => ?_)
 ·intro s1
  unfold m_impl_copyLists_L1
  refine Ws (Wr ?_)
  refine Op20 (LT.lss rfl) rfl rfl rfl rfl ?_
  refine On (Ws ?_)
  refine AWR.cond rfl (fun hc11 => ?_) (fun hc11 => ?_)
  ·refine AWR.skip (Ws (AWR.block (Ws (Wr ?_))))
   refine Ob' fun x12 hx12 => ?_
   refine Op20 (LT.tindexRO (enc := (encLInt false)) rfl el31 hx12 sz37) rfl rfl rfl rfl ?_
   refine Op10 (LT.loadPx1 rfl ag37) rfl rfl rfl ?_
   refine asg (Cc (xF encInt x12)) rfl rfl rfl rfl ?_
   refine On (Wr ?_)
   refine mv (Cc (lo 21 s1.2.length)) rfl rfl rfl rfl ?_
   refine mv (Cc (xF encInt x12)) rfl rfl rfl rfl ?_
   refine Ob' fun r13 hr13 => ?_
   refine AOR.step (@LT.callF Try.prog _ _ 114 _ _ [(.c (xF encInt x12))] _ _ [] _ _ _ _ ((show Fw.Fn Try.prog 114 [(.c (xF encInt x12))] [] (Cc (lo 24 r13.length)) [(24, (pR 3 encInt r13))] [] [24] from Fw.Fn.ren [(0, 24)] (w_impl_copyInts x12 r13 hr13) rfl)) rfl cb114 (.cons (.c (.same rfl)) .nil) rfl rfl trivial) ⟨rfl, rfl, trivial⟩ trivial rfl rfl ?_
   refine Os10 (LT.buildSlice (n := 25) (els := [[(lo 24 r13.length)]]) [(0, .tmp 15, (.c (lo 24 r13.length)))] rfl rfl und31 ti37 rfl rfl rfl rfl (by decide) rfl rfl) rfl rfl rfl ?_
   refine Ob' fun u14 hu14 => ?_
   refine Os22 (LT.xapp rfl rfl rfl und31 ti37 rfl (by decide) (by decide) rfl (lim_le hu14)) rfl rfl rfl rfl rfl rfl ?_
   refine asg (Cc (lo 21 (s1.2.length + 1))) rfl rfl rfl rfl ?_
   refine On ?_
   refine AWR.ent (Ent.tadopt (enc := encInt) (n := 21) (m := 24) (p := 22) (rows := s1.2) (r := r13) (rest := []) rfl rfl rfl rfl rfl rfl) ?_
   refine AWR.ent (Ent.trow (n := 21) (p := 22) (lens := lensOf (s1.2 ++ [r13])) (List.append_nil _) rfl) ?_
   refine AWR.blk (Wr ?_)
   refine Op20 (LT.add rfl) rfl ⟨rfl, rfl⟩ rfl rfl ?_
   refine mv (Iv (w64 (s1.1 + 1))) rfl rfl rfl rfl ?_
   refine On ?_
   refine AWR.nil ⟨rfl, Ent.of ⟨(congrArg (fun l1 => (some (AV.s (.c (lo 21 l1))) : Option AV)) (show (s1.2.length + 1) = (s1.2 ++ [r13]).length from len_snoc)), rfl, rfl, rfl, trivial⟩ ⟨rfl, rfl, trivial⟩⟩
  ·refine AWR.exit_end rfl ⟨rfl, Ent.of ⟨rfl, trivial⟩ ⟨rfl, rfl, trivial⟩⟩
 ·refine Ws (Wr ?_)
  refine mv (Cc (lo 21 b10.length)) rfl rfl rfl rfl ?_
  refine asg (Cc (lo 21 b10.length)) rfl rfl rfl rfl ?_
  refine On ?_
  refine en [(2, (Cc (lo 21 b10.length)))] [(21, (.trow 37 22 (lensOf b10))), (22, (.pool 3 (rowsOf encInt b10)))] ⟨rfl, trivial⟩ ⟨rfl, rfl, trivial⟩ ?_
  refine AWR.ent (Ent.mv 21 0 rfl rfl) ?_
  refine AWR.ent (Ent.mv 22 1 rfl rfl) ?_
  refine en [(2, (Cc (lo 0 b10.length)))] [(0, (.trow 37 1 (lensOf b10))), (1, (.pool 3 (rowsOf encInt b10)))] ⟨rfl, trivial⟩ ⟨rfl, rfl, trivial⟩ ?_
  refine AWR.ret (FPost.mk (.inr rfl) ⟨rfl, trivial⟩ ⟨rfl, rfl, trivial⟩ rfl ⟨trivial, trivial⟩ ⟨trivial, PermO.poolR perm_encInt _, trivial⟩)
theorem w_impl_reduced (m : (List (List Int))) (columns : Int) : ∀ t, m_impl_reduced m columns = some t → Fw.Fn Try.prog 202 [(.c (xF (encLInt false) m)), (.c (iC columns))] [] (resA [(.c (lo 0 t.1.length)), (.c (lo 2 t.2.1.length)), (.c (iC t.2.2))]) [(0, (.trow 37 1 (lensOf t.1))), (1, (.pool 3 (rowsOf encInt t.1))), (2, (pR 3 encInt t.2.1))] [] [0, 1, 2] := by
 refine Fw.Fn.of (P := Try.prog) (X := [0, 1, 2]) (pn := []) (rs := (fun (t : ((List (List Int)) × (List Int) × Int)) => [(.c (lo 0 t.1.length)), (.c (lo 2 t.2.1.length)), (.c (iC t.2.2))])) (dfs := (fun (t : ((List (List Int)) × (List Int) × Int)) => [(0, (.trow 37 1 (lensOf t.1))), (1, (.pool 3 (rowsOf encInt t.1))), (2, (pR 3 encInt t.2.1))])) Try.func202 rfl Try.ntmps202 (Nat.le_of_ble_eq_true rfl) rfl ?_
 intro w0 U0 R0 g0
 unfold m_impl_reduced
 refine Ws (Wr ?_)
 refine asg (Cc (sC nilV)) rfl ⟨rfl, rfl⟩ rfl rfl ?_
 refine asg (Cc (sC nilV)) rfl ⟨rfl, rfl⟩ rfl rfl ?_
 refine asg (Iv 0) rfl ⟨rfl, rfl⟩ rfl rfl ?_
 refine On (Ws (Wr ?_))
 refine mv (Cc (xF (encLInt false) m)) rfl rfl rfl rfl ?_
 refine Ob' fun r1 hr1 => ?_
 refine AOR.step (@LT.callF Try.prog _ _ 234 _ _ [(.c (xF (encLInt false) m))] _ _ [] _ _ _ _ ((show Fw.Fn Try.prog 234 [(.c (xF (encLInt false) m))] [] (Cc (lo 22 r1.length)) [(22, (.trow 37 23 (lensOf r1))), (23, (.pool 3 (rowsOf encInt r1)))] [] [22, 23] from Fw.Fn.ren [(0, 22), (1, 23)] (w_impl_copyLists m r1 hr1) rfl)) rfl cb234 (.cons (.c (.same rfl)) .nil) rfl rfl trivial) ⟨rfl, rfl, trivial⟩ trivial rfl rfl ?_
 refine asg (Cc (lo 22 r1.length)) rfl rfl rfl rfl ?_
 refine On (Ws (Wr ?_))
 refine Os00 (LT.tbuildSlice (n := 24) (enc := encInt) [] ([] : List Int) rfl rfl und37 ti3 rfl rfl rfl rfl (by decide) (fun _ => rfl) rfl) rfl rfl ?_
 refine asg (Cc (lo 24 (([] : List Int).length))) rfl rfl rfl rfl ?_
 refine On (Ws ?_)
 refine en [(1, (Iv columns)), (7, (Cc (lo 22 r1.length))), (8, (Cc (lo 24 (([] : List Int).length))))] [(22, (.trow 37 23 (lensOf r1))), (23, (.pool 3 (rowsOf encInt r1))), (24, (pR 3 encInt ([] : List Int)))] ⟨rfl, rfl, rfl, trivial⟩ ⟨rfl, rfl, rfl, trivial⟩ ?_
 refine Wr ?_
 refine asg (Iv 1) rfl ⟨rfl, rfl⟩ rfl rfl ?_
 refine On (Ws (Ws (Wr ?_)))
 refine asg (Iv 0) rfl ⟨rfl, rfl⟩ rfl rfl ?_
 refine On (AWR.block ?_)
 refine AWR.loop1 (id := 0) (m_impl_reduced_L9 columns) (fun s2 => ([(1, (Iv columns)), (7, (Cc (lo 22 s2.2.1.length))), (8, (Cc (lo 24 s2.2.2.2.length))), (9, (Iv s2.2.2.1)), (10, (Iv s2.1))], [(22, (.trow 37 23 (lensOf s2.2.1))), (23, (.pool 3 (rowsOf encInt s2.2.1))), (24, (pR 3 encInt s2.2.2.2))])) (fun b151 => ([(7, (Cc (lo 22 b151.2.1.length))), (8, (Cc (lo 24 b151.2.2.length))), (9, (Iv b151.1))], [(22, (.trow 37 23 (lensOf b151.2.1))), (23, (.pool 3 (rowsOf encInt b151.2.1))), (24, (pR 3 encInt b151.2.2))])) ?_ (Ent.of ⟨rfl, rfl, rfl, rfl, rfl, trivial⟩ ⟨rfl, rfl, rfl, trivial⟩) rfl (fun b151 _ => ?_)
 ·intro s2
  unfold m_impl_reduced_L9
  refine Ws (Ws ?_)
  refine AWR.joinK (fun j153 => ([(1, (Iv columns)), (7, (Cc (lo 22 s2.2.1.length))), (8, (Cc (lo 24 s2.2.2.2.length))), (9, (Iv s2.2.2.1)), (10, (Iv s2.1)), (29, (Bv j153))], [(22, (.trow 37 23 (lensOf s2.2.1))), (23, (.pool 3 (rowsOf encInt s2.2.1))), (24, (pR 3 encInt s2.2.2.2))])) ?_ (fun j153 _ => ?_)
  ·refine Wr ?_
   refine mv (Iv s2.1) rfl rfl rfl rfl ?_
   refine mv (Iv columns) rfl rfl rfl rfl ?_
   refine Op20 (LT.lss rfl) rfl rfl rfl rfl ?_
   refine mv (Bv (decide (s2.1 < columns))) rfl rfl rfl rfl ?_
   refine AOR.split (fun hb154 => ?_) (fun hb154 => ?_)
   ·refine mv (Cc (lo 24 s2.2.2.2.length)) rfl rfl ⟨_, rfl, .inl ⟨_, rfl, (by rw [hb154]; rfl)⟩⟩ rfl ?_
    refine Op10 (LT.lenLoc rfl und37) rfl ⟨_, rfl, .inl ⟨_, rfl, (by rw [hb154]; rfl)⟩⟩ rfl ?_
    refine mv (Cc (lo 22 s2.2.1.length)) rfl rfl ⟨_, rfl, .inl ⟨_, rfl, (by rw [hb154]; rfl)⟩⟩ rfl ?_
    refine Op10 (LT.lenLoc rfl und31) rfl ⟨_, rfl, .inl ⟨_, rfl, (by rw [hb154]; rfl)⟩⟩ rfl ?_
    refine Op20 (LT.lss rfl) rfl rfl ⟨_, rfl, .inl ⟨_, rfl, (by rw [hb154]; rfl)⟩⟩ rfl ?_
    refine Op20 (LT.pickT (v := (Bv (decide ((s2.2.2.2.length : Int) < (s2.2.1.length : Int))))) rfl hb154) rfl rfl rfl rfl ?_
    refine On ?_
    refine AWR.nil ⟨rfl, Ent.of ⟨rfl, rfl, rfl, rfl, rfl, rfl, trivial⟩ ⟨rfl, rfl, rfl, trivial⟩⟩
   ·refine Ok rfl rfl rfl (by rw [hb154]; rfl) rfl ?_
    refine Ok rfl rfl rfl (by rw [hb154]; rfl) rfl ?_
    refine Ok rfl rfl rfl (by rw [hb154]; rfl) rfl ?_
    refine Ok rfl rfl rfl (by rw [hb154]; rfl) rfl ?_
    refine Ok rfl rfl rfl (by rw [hb154]; rfl) rfl ?_
    refine Op20 (LT.pickF (v := (Bv false)) rfl hb154) rfl ⟨rfl, rfl⟩ rfl rfl ?_
    refine On ?_
    refine AWR.nil ⟨rfl, Ent.of ⟨rfl, rfl, rfl, rfl, rfl, rfl, trivial⟩ ⟨rfl, rfl, rfl, trivial⟩⟩
  ·refine AWR.cond rfl (fun hc155 => ?_) (fun hc155 => ?_)
   ·refine AWR.skip (Ws (AWR.block (Ws (Wr ?_))))
    refine mv (Cc (lo 24 s2.2.2.2.length)) rfl rfl rfl rfl ?_
    refine Op10 (LT.lenLoc rfl und37) rfl rfl rfl ?_
    refine asg (Iv (s2.2.2.2.length : Int)) rfl rfl rfl rfl ?_
    refine On (Ws (Wr ?_))
    refine mv (Iv (s2.2.2.2.length : Int)) rfl rfl rfl rfl ?_
    refine asg (Iv (s2.2.2.2.length : Int)) rfl rfl rfl rfl ?_
    refine On (Ws (AWR.block ?_))
    refine AWR.loop1 (id := 2) (m_impl_reduced_L10 s2) (fun s156 => ([(1, (Iv columns)), (7, (Cc (lo 22 s2.2.1.length))), (8, (Cc (lo 24 s2.2.2.2.length))), (9, (Iv s2.2.2.1)), (10, (Iv s2.1)), (11, (Iv (s2.2.2.2.length : Int))), (12, (Iv s156))], [(22, (.trow 37 23 (lensOf s2.2.1))), (23, (.pool 3 (rowsOf encInt s2.2.1))), (24, (pR 3 encInt s2.2.2.2))])) (fun b173 => ([(1, (Iv columns)), (7, (Cc (lo 22 b173.2.2.2.2.1.length))), (8, (Cc (lo 24 b173.2.2.2.2.2.length))), (9, (Iv b173.1)), (10, (Iv b173.2.1)), (11, (Iv b173.2.2.1)), (12, (Iv b173.2.2.2.1))], [(22, (.trow 37 23 (lensOf b173.2.2.2.2.1))), (23, (.pool 3 (rowsOf encInt b173.2.2.2.2.1))), (24, (pR 3 encInt b173.2.2.2.2.2))])) ?_ (Ent.of ⟨rfl, rfl, rfl, rfl, rfl, rfl, rfl, trivial⟩ ⟨rfl, rfl, rfl, trivial⟩) rfl (fun b173 _ => ?_)
    ·intro s156
     unfold m_impl_reduced_L10
     refine Ws (Ws ?_)
     refine AWR.joinK (fun j177 => ([(1, (Iv columns)), (7, (Cc (lo 22 s2.2.1.length))), (8, (Cc (lo 24 s2.2.2.2.length))), (9, (Iv s2.2.2.1)), (10, (Iv s2.1)), (11, (Iv (s2.2.2.2.length : Int))), (12, (Iv s156)), (48, (Bv j177))], [(22, (.trow 37 23 (lensOf s2.2.1))), (23, (.pool 3 (rowsOf encInt s2.2.1))), (24, (pR 3 encInt s2.2.2.2))])) ?_ (fun j177 _ => ?_)
     ·refine Wr ?_
      refine mv (Iv s156) rfl rfl rfl rfl ?_
      refine mv (Cc (lo 22 s2.2.1.length)) rfl rfl rfl rfl ?_
      refine Op10 (LT.lenLoc rfl und31) rfl rfl rfl ?_
      refine Op20 (LT.lss rfl) rfl rfl rfl rfl ?_
      refine mv (Bv (decide (s156 < (s2.2.1.length : Int)))) rfl rfl rfl rfl ?_
      refine AOR.split (fun hb178 => ?_) (fun hb178 => ?_)
      ·refine mv (Cc (lo 22 s2.2.1.length)) rfl rfl ⟨_, rfl, .inl ⟨_, rfl, (by rw [hb178]; rfl)⟩⟩ rfl ?_
       refine mv (Iv s156) rfl rfl ⟨_, rfl, .inl ⟨_, rfl, (by rw [hb178]; rfl)⟩⟩ rfl ?_
       refine Ob' fun x179 hx179 => ?_
       refine Op21 (LT.xindex rfl rfl el31 hx179) rfl rfl rfl ⟨_, rfl, .inl ⟨_, rfl, (by rw [hb178]; rfl)⟩⟩ rfl ?_
       refine Op11 (LT.xload rfl ag37 hx179 rfl) rfl rfl ⟨_, rfl, .inl ⟨_, rfl, (by rw [hb178]; rfl)⟩⟩ rfl ?_
       refine mv (Iv s2.1) rfl rfl ⟨_, rfl, .inl ⟨_, rfl, (by rw [hb178]; rfl)⟩⟩ rfl ?_
       refine Ob' fun x180 hx180 => ?_
       refine Op21 (LT.tlindex rfl rfl el37 (idx_get hx179) hx180) rfl rfl rfl ⟨_, rfl, .inl ⟨_, rfl, (by rw [hb178]; rfl)⟩⟩ rfl ?_
       refine Op11 (LT.tlload1 (enc := encInt) (j := 0) rfl ag3 (idx_get hx179) hx180 (by exact rfl) (by exact rfl)) rfl rfl ⟨_, rfl, .inl ⟨_, rfl, (by rw [hb178]; rfl)⟩⟩ rfl ?_
       refine Op20 (LT.eql rfl) rfl ⟨rfl, rfl⟩ ⟨_, rfl, .inl ⟨_, rfl, (by rw [hb178]; rfl)⟩⟩ rfl ?_
       refine Op20 (LT.pickT (v := (Bv (x180 == 0))) rfl hb178) rfl rfl rfl rfl ?_
       refine On ?_
       refine AWR.nil ⟨rfl, Ent.of ⟨rfl, rfl, rfl, rfl, rfl, rfl, rfl, rfl, trivial⟩ ⟨rfl, rfl, rfl, trivial⟩⟩
      ·refine Ok rfl rfl rfl (by rw [hb178]; rfl) rfl ?_
       refine Ok rfl rfl rfl (by rw [hb178]; rfl) rfl ?_
       refine Ok rfl rfl rfl (by rw [hb178]; rfl) rfl ?_
       refine Ok rfl rfl rfl (by rw [hb178]; rfl) rfl ?_
       refine Ok rfl rfl rfl (by rw [hb178]; rfl) rfl ?_
       refine Ok rfl rfl rfl (by rw [hb178]; rfl) rfl ?_
       refine Ok rfl rfl rfl (by rw [hb178]; rfl) rfl ?_
       refine Ok rfl rfl rfl (by rw [hb178]; rfl) rfl ?_
       refine Op20 (LT.pickF (v := (Bv false)) rfl hb178) rfl ⟨rfl, rfl⟩ rfl rfl ?_
       refine On ?_
       refine AWR.nil ⟨rfl, Ent.of ⟨rfl, rfl, rfl, rfl, rfl, rfl, rfl, rfl, trivial⟩ ⟨rfl, rfl, rfl, trivial⟩⟩
     ·refine AWR.cond rfl (fun hc181 => ?_) (fun hc181 => ?_)
      ·refine AWR.skip (AWR.block (Wr ?_))
       refine mv (Iv s156) rfl rfl rfl rfl ?_
       refine Op20 (LT.add rfl) rfl ⟨rfl, rfl⟩ rfl rfl ?_
       refine asg (Iv (w64 (s156 + 1))) rfl rfl rfl rfl ?_
       refine On (AWR.blk ?_)
       refine AWR.nil ⟨rfl, Ent.of ⟨rfl, rfl, rfl, rfl, rfl, rfl, rfl, trivial⟩ ⟨rfl, rfl, rfl, trivial⟩⟩
      ·refine AWR.exit_end rfl ⟨rfl, Ent.of ⟨rfl, rfl, rfl, rfl, rfl, rfl, rfl, trivial⟩ ⟨rfl, rfl, rfl, trivial⟩⟩
    ·refine Ws (Ws (Wr ?_))
     refine mv (Iv b173.2.2.2.1) rfl rfl rfl rfl ?_
     refine mv (Cc (lo 22 b173.2.2.2.2.1.length)) rfl rfl rfl rfl ?_
     refine Op10 (LT.lenLoc rfl und31) rfl rfl rfl ?_
     refine Op20 (LT.eql rfl) rfl rfl rfl rfl ?_
     refine On ?_
     refine AWR.cond rfl (fun hc182 => ?_) (fun hc182 => ?_)
     ·refine AWR.exit rfl (Wr ?_)
      refine mv (Iv b173.2.1) rfl rfl rfl rfl ?_
      refine Op20 (LT.add rfl) rfl ⟨rfl, rfl⟩ rfl rfl ?_
      refine asg (Iv (w64 (b173.2.1 + 1))) rfl rfl rfl rfl ?_
      refine On ?_
      refine AWR.nil ⟨rfl, Ent.of ⟨rfl, rfl, rfl, rfl, rfl, trivial⟩ ⟨rfl, rfl, rfl, trivial⟩⟩
     ·refine AWR.skip (Ws (AWR.draw mixed ?_))
      refine Dp10 (LT.move (v := (Cc (lo 22 b173.2.2.2.2.1.length))) rfl) rfl rfl rfl ?_
      refine Dp10 (LT.move (v := (Iv b173.2.2.1)) rfl) rfl rfl rfl ?_
      refine Dp10 (LT.move (v := (Cc (lo 22 b173.2.2.2.2.1.length))) rfl) rfl rfl rfl ?_
      refine Dp10 (LT.move (v := (Iv b173.2.2.2.1)) rfl) rfl rfl rfl ?_
      refine Dp10 (LT.move (v := (Cc (lo 22 b173.2.2.2.2.1.length))) rfl) rfl rfl rfl ?_
      refine Dp10 (LT.move (v := (Iv b173.2.2.2.1)) rfl) rfl rfl rfl ?_
      refine AOD.bind fun x183 hx183 => ?_
      refine Dp21 (LT.xindex rfl rfl el31 hx183) rfl rfl rfl rfl rfl ?_
      refine Dp11 (LT.xload rfl ag37 hx183 rfl) rfl rfl rfl rfl ?_
      refine Dp10 (LT.move (v := (Cc (lo 22 b173.2.2.2.2.1.length))) rfl) rfl rfl rfl ?_
      refine Dp10 (LT.move (v := (Iv b173.2.2.1)) rfl) rfl rfl rfl ?_
      refine AOD.bind fun x184 hx184 => ?_
      refine Dp21 (LT.xindex rfl rfl el31 hx184) rfl rfl rfl rfl rfl ?_
      refine Dp11 (LT.xload rfl ag37 hx184 rfl) rfl rfl rfl rfl ?_
      refine AOD.bind fun x185 hx185 => ?_
      refine Dp21 (LT.xindex rfl rfl el31 hx185) rfl rfl rfl rfl rfl ?_
      refine Ds21 (LT.xstore (e := 37) (p := 23) rfl rfl (infS inf37) sz37 hx185 rfl) rfl rfl rfl rfl rfl ?_
      refine AOD.bind fun x186 hx186 => ?_
      refine Dp21 (LT.xindexS rfl rfl el31 hx186) rfl rfl rfl rfl rfl ?_
      refine Ds21 (LT.xstore2 (e := 37) (p := 23) rfl rfl (infS inf37) sz37 hx186 rfl) rfl rfl rfl rfl rfl ?_
      refine AOD.nil (by kernel_rfl) ?_
      refine AWR.ent (Ent.tswap (enc := encInt) (n := 22) (p := 23) (rows := b173.2.2.2.2.1) (idx_get hx184) (idx_get hx183) rfl rfl rfl) ?_
      refine Ws (Wr ?_)
      refine mv (Cc (lo 22 b173.2.2.2.2.1.length)) rfl rfl rfl rfl ?_
      refine mv (Iv b173.2.2.1) rfl rfl rfl rfl ?_
      refine Ob' fun x187 hx187 => ?_
      refine Op21 (LT.xindex (show b173.2.2.2.2.1.length = ((b173.2.2.2.2.1.set b173.2.2.1.toNat x183).set b173.2.2.2.1.toNat x184).length by simp only [List.length_set]) rfl el31 hx187) rfl rfl rfl rfl rfl ?_
      refine Op11 (LT.xload rfl ag37 hx187 rfl) rfl rfl rfl rfl ?_
      refine mv (Iv b173.2.1) rfl rfl rfl rfl ?_
      refine Ob' fun x188 hx188 => ?_
      refine Op21 (LT.tlindex rfl rfl el37 (idx_get hx187) hx188) rfl rfl rfl rfl rfl ?_
      refine Op11 (LT.tlload1 (enc := encInt) (j := 0) rfl ag3 (idx_get hx187) hx188 (by exact rfl) (by exact rfl)) rfl rfl rfl rfl ?_
      refine asg (Iv x188) rfl rfl rfl rfl ?_
      refine On (Ws (Ws (Wr ?_)))
      refine mv (Cc (lo 22 b173.2.2.2.2.1.length)) rfl rfl rfl rfl ?_
      refine Op10 (LT.lenLoc rfl und31) rfl rfl rfl ?_
      refine mv (Iv 0) rfl ⟨rfl, rfl⟩ rfl rfl ?_
      refine On (AWR.block ?_)
      refine AWR.loop1 (id := 4) (m_impl_reduced_L13 columns) (fun s189 => ([(1, (Iv columns)), (7, (Cc (lo 22 s189.2.2.2.2.2.2.2.length))), (8, (Cc (lo 24 s189.2.2.2.2.2.2.1.length))), (9, (Iv s189.2.1)), (10, (Iv s189.2.2.1)), (11, (Iv s189.2.2.2.1)), (13, (Iv s189.2.2.2.2.1)), (77, (Iv s189.2.2.2.2.2.1)), (78, (Iv s189.1))], [(22, (.trow 37 23 (lensOf s189.2.2.2.2.2.2.2))), (23, (.pool 3 (rowsOf encInt s189.2.2.2.2.2.2.2))), (24, (pR 3 encInt s189.2.2.2.2.2.2.1))])) (fun b234 => ([(1, (Iv columns)), (7, (Cc (lo 22 b234.2.2.1.length))), (8, (Cc (lo 24 b234.2.2.2.length))), (10, (Iv b234.1)), (13, (Iv b234.2.1))], [(22, (.trow 37 23 (lensOf b234.2.2.1))), (23, (.pool 3 (rowsOf encInt b234.2.2.1))), (24, (pR 3 encInt b234.2.2.2))])) ?_ (Ent.of ⟨rfl, (congrArg (fun l1 => (some (AV.s (.c (lo 22 l1))) : Option AV)) (show b173.2.2.2.2.1.length = ((b173.2.2.2.2.1.set b173.2.2.1.toNat x183).set b173.2.2.2.1.toNat x184).length by simp only [List.length_set])), rfl, rfl, rfl, rfl, rfl, rfl, rfl, trivial⟩ ⟨rfl, rfl, rfl, trivial⟩) rfl (fun b234 _ => ?_)
      ·intro s189
       unfold m_impl_reduced_L13
       refine Ws (Wr ?_)
       refine Op20 (LT.lss rfl) rfl rfl rfl rfl ?_
       refine On (Ws ?_)
       refine AWR.cond rfl (fun hc235 => ?_) (fun hc235 => ?_)
       ·refine AWR.skip (Ws (AWR.block (Ws (Wr ?_))))
        refine mv (Iv s189.1) rfl rfl rfl rfl ?_
        refine asg (Iv s189.1) rfl rfl rfl rfl ?_
        refine On (Ws (Ws (Wr ?_)))
        refine mv (Iv s189.1) rfl rfl rfl rfl ?_
        refine mv (Iv s189.2.2.2.1) rfl rfl rfl rfl ?_
        refine Op20 (LT.eql rfl) rfl rfl rfl rfl ?_
        refine On ?_
        refine AWR.cond rfl (fun hc236 => ?_) (fun hc236 => ?_)
        ·refine AWR.exit rfl (Wr ?_)
         refine Op20 (LT.add rfl) rfl ⟨rfl, rfl⟩ rfl rfl ?_
         refine mv (Iv (w64 (s189.1 + 1))) rfl rfl rfl rfl ?_
         refine On ?_
         refine AWR.nil ⟨rfl, Ent.of ⟨rfl, rfl, rfl, rfl, rfl, rfl, rfl, rfl, rfl, trivial⟩ ⟨rfl, rfl, rfl, trivial⟩⟩
        ·refine AWR.skip (Ws (Wr ?_))
         refine mv (Cc (lo 22 s189.2.2.2.2.2.2.2.length)) rfl rfl rfl rfl ?_
         refine mv (Iv s189.1) rfl rfl rfl rfl ?_
         refine Ob' fun x237 hx237 => ?_
         refine Op21 (LT.xindex rfl rfl el31 hx237) rfl rfl rfl rfl rfl ?_
         refine Op11 (LT.xload rfl ag37 hx237 rfl) rfl rfl rfl rfl ?_
         refine mv (Iv s189.2.2.1) rfl rfl rfl rfl ?_
         refine Ob' fun x238 hx238 => ?_
         refine Op21 (LT.tlindex rfl rfl el37 (idx_get hx237) hx238) rfl rfl rfl rfl rfl ?_
         refine Op11 (LT.tlload1 (enc := encInt) (j := 0) rfl ag3 (idx_get hx237) hx238 (by exact rfl) (by exact rfl)) rfl rfl rfl rfl ?_
         refine asg (Iv x238) rfl rfl rfl rfl ?_
         refine On (Ws ?_)
         refine en [(1, (Iv columns)), (7, (Cc (lo 22 s189.2.2.2.2.2.2.2.length))), (8, (Cc (lo 24 s189.2.2.2.2.2.2.1.length))), (9, (Iv s189.2.1)), (10, (Iv s189.2.2.1)), (11, (Iv s189.2.2.2.1)), (13, (Iv s189.2.2.2.2.1)), (14, (Iv s189.1)), (15, (Iv x238)), (77, (Iv s189.2.2.2.2.2.1)), (78, (Iv s189.1))] [(22, (.trow 37 23 (lensOf s189.2.2.2.2.2.2.2))), (23, (.pool 3 (rowsOf encInt s189.2.2.2.2.2.2.2))), (24, (pR 3 encInt s189.2.2.2.2.2.2.1))] ⟨rfl, rfl, rfl, rfl, rfl, rfl, rfl, rfl, rfl, rfl, rfl, trivial⟩ ⟨rfl, rfl, rfl, trivial⟩ ?_
         refine Wr ?_
         refine mv (Iv columns) rfl rfl rfl rfl ?_
         refine mv (Iv 0) rfl ⟨rfl, rfl⟩ rfl rfl ?_
         refine On (AWR.block ?_)
         refine AWR.loop1 (id := 6) (m_impl_reduced_L14 columns s189 x238) (fun s239 => ([(1, (Iv columns)), (7, (Cc (lo 22 s239.2.length))), (8, (Cc (lo 24 s189.2.2.2.2.2.2.1.length))), (9, (Iv s189.2.1)), (10, (Iv s189.2.2.1)), (11, (Iv s189.2.2.2.1)), (13, (Iv s189.2.2.2.2.1)), (14, (Iv s189.1)), (15, (Iv x238)), (77, (Iv s189.2.2.2.2.2.1)), (78, (Iv s189.1)), (91, (Iv columns)), (92, (Iv s239.1))], [(22, (.trow 37 23 (lensOf s239.2))), (23, (.pool 3 (rowsOf encInt s239.2))), (24, (pR 3 encInt s189.2.2.2.2.2.2.1))])) (fun b256 => ([(1, (Iv columns)), (7, (Cc (lo 22 b256.2.2.2.2.2.2.1.length))), (8, (Cc (lo 24 b256.2.2.2.2.2.2.2.length))), (9, (Iv b256.1)), (10, (Iv b256.2.1)), (11, (Iv b256.2.2.1)), (13, (Iv b256.2.2.2.1)), (77, (Iv b256.2.2.2.2.1)), (78, (Iv b256.2.2.2.2.2.1))], [(22, (.trow 37 23 (lensOf b256.2.2.2.2.2.2.1))), (23, (.pool 3 (rowsOf encInt b256.2.2.2.2.2.2.1))), (24, (pR 3 encInt b256.2.2.2.2.2.2.2))])) ?_ (Ent.of ⟨rfl, rfl, rfl, rfl, rfl, rfl, rfl, rfl, rfl, rfl, rfl, rfl, rfl, trivial⟩ ⟨rfl, rfl, rfl, trivial⟩) rfl (fun b256 _ => ?_)
         ·intro s239
          unfold m_impl_reduced_L14
          refine Ws (Wr ?_)
          refine Op20 (LT.lss rfl) rfl rfl rfl rfl ?_
          refine On (Ws ?_)
          refine AWR.cond rfl (fun hc257 => ?_) (fun hc257 => ?_)
          ·refine AWR.skip (Ws (AWR.block (Ws (Wr ?_))))
           refine mv (Iv s239.1) rfl rfl rfl rfl ?_
           refine asg (Iv s239.1) rfl rfl rfl rfl ?_
           refine On (AWR.draw mixed ?_)
           refine Dp10 (LT.move (v := (Cc (lo 22 s239.2.length))) rfl) rfl rfl rfl ?_
           refine Dp10 (LT.move (v := (Iv s189.1)) rfl) rfl rfl rfl ?_
           refine AOD.bind fun x258 hx258 => ?_
           refine Dp21 (LT.xindex rfl rfl el31 hx258) rfl rfl rfl rfl rfl ?_
           refine Dp11 (LT.xload rfl ag37 hx258 rfl) rfl rfl rfl rfl ?_
           refine Dp10 (LT.move (v := (Iv s239.1)) rfl) rfl rfl rfl ?_
           refine Dp10 (LT.move (v := (Iv s189.2.2.2.2.1)) rfl) rfl rfl rfl ?_
           refine Dp10 (LT.move (v := (Cc (lo 22 s239.2.length))) rfl) rfl rfl rfl ?_
           refine Dp10 (LT.move (v := (Iv s189.1)) rfl) rfl rfl rfl ?_
           refine AOD.bind fun x259 hx259 => ?_
           refine Dp21 (LT.xindex rfl rfl el31 hx259) rfl rfl rfl rfl rfl ?_
           refine Dp11 (LT.xload rfl ag37 hx259 rfl) rfl rfl rfl rfl ?_
           refine Dp10 (LT.move (v := (Iv s239.1)) rfl) rfl rfl rfl ?_
           refine AOD.bind fun x260 hx260 => ?_
           refine Dp21 (LT.tlindex rfl rfl el37 (idx_get hx259) hx260) rfl rfl rfl rfl rfl ?_
           refine Dp11 (LT.tlload1 (enc := encInt) (j := 0) rfl ag3 (idx_get hx259) hx260 (by exact rfl) (by exact rfl)) rfl rfl rfl rfl ?_
           refine Dp20 (LT.mul rfl) rfl rfl rfl rfl ?_
           refine Dp10 (LT.move (v := (Iv x238)) rfl) rfl rfl rfl ?_
           refine Dp10 (LT.move (v := (Cc (lo 22 s239.2.length))) rfl) rfl rfl rfl ?_
           refine Dp10 (LT.move (v := (Iv s189.2.2.2.1)) rfl) rfl rfl rfl ?_
           refine AOD.bind fun x261 hx261 => ?_
           refine Dp21 (LT.xindex rfl rfl el31 hx261) rfl rfl rfl rfl rfl ?_
           refine Dp11 (LT.xload rfl ag37 hx261 rfl) rfl rfl rfl rfl ?_
           refine Dp10 (LT.move (v := (Iv s239.1)) rfl) rfl rfl rfl ?_
           refine AOD.bind fun x262 hx262 => ?_
           refine Dp21 (LT.tlindex rfl rfl el37 (idx_get hx261) hx262) rfl rfl rfl rfl rfl ?_
           refine Dp11 (LT.tlload1 (enc := encInt) (j := 0) rfl ag3 (idx_get hx261) hx262 (by exact rfl) (by exact rfl)) rfl rfl rfl rfl ?_
           refine Dp20 (LT.mul rfl) rfl rfl rfl rfl ?_
           refine Dp20 (LT.sub rfl) rfl rfl rfl rfl ?_
           refine Dp10 (LT.move (v := (Iv s189.2.1)) rfl) rfl rfl rfl ?_
           refine AOD.bind fun u263 hu263 => ?_
           refine Dp20 (LT.quo rfl (nz_ne hu263)) rfl rfl rfl rfl ?_
           refine AOD.bind fun x264 hx264 => ?_
           refine Dp21 (LT.tlindex rfl rfl el37 (idx_get hx258) hx264) rfl rfl rfl rfl rfl ?_
           refine Ds21 (LT.tlstore (enc := encInt) (j := 0) (b' := (w64 (Int.tdiv (w64 ((w64 (s189.2.2.2.2.1 * x260)) - (w64 (x238 * x262)))) s189.2.1))) (v := (.int .i64 (w64 (Int.tdiv (w64 ((w64 (s189.2.2.2.2.1 * x260)) - (w64 (x238 * x262)))) s189.2.1)))) 25 rfl rfl (infS inf3) sz3 rfl (idx_get hx258) hx264 (by exact rfl) (by exact Nat.le_of_ble_eq_true rfl) (by exact rfl) rfl) rfl rfl rfl rfl rfl ?_
           refine AOD.nil (by kernel_rfl) ?_
           refine AWR.ent (Ent.lens (n := 22) (lens_set (r' := (x258.set s239.1.toNat (w64 (Int.tdiv (w64 ((w64 (s189.2.2.2.2.1 * x260)) - (w64 (x238 * x262)))) s189.2.1)))) (idx_get hx258) (List.length_set ..)) rfl) ?_
           refine AWR.blk ?_
           refine en [(1, (Iv columns)), (7, (Cc (lo 22 s239.2.length))), (8, (Cc (lo 24 s189.2.2.2.2.2.2.1.length))), (9, (Iv s189.2.1)), (10, (Iv s189.2.2.1)), (11, (Iv s189.2.2.2.1)), (13, (Iv s189.2.2.2.2.1)), (14, (Iv s189.1)), (15, (Iv x238)), (77, (Iv s189.2.2.2.2.2.1)), (78, (Iv s189.1)), (91, (Iv columns)), (92, (Iv s239.1))] [(22, (.trow 37 23 (lensOf (s239.2.set s189.1.toNat (x258.set s239.1.toNat (w64 (Int.tdiv (w64 ((w64 (s189.2.2.2.2.1 * x260)) - (w64 (x238 * x262)))) s189.2.1))))))), (23, (.pool 3 (rowsOf encInt (s239.2.set s189.1.toNat (x258.set s239.1.toNat (w64 (Int.tdiv (w64 ((w64 (s189.2.2.2.2.1 * x260)) - (w64 (x238 * x262)))) s189.2.1))))))), (24, (pR 3 encInt s189.2.2.2.2.2.2.1))] ⟨rfl, rfl, rfl, rfl, rfl, rfl, rfl, rfl, rfl, rfl, rfl, rfl, rfl, trivial⟩ ⟨rfl, rfl, rfl, trivial⟩ ?_
           refine Wr ?_
           refine Op20 (LT.add rfl) rfl ⟨rfl, rfl⟩ rfl rfl ?_
           refine mv (Iv (w64 (s239.1 + 1))) rfl rfl rfl rfl ?_
           refine On ?_
           refine AWR.nil ⟨rfl, Ent.of ⟨rfl, (congrArg (fun l1 => (some (AV.s (.c (lo 22 l1))) : Option AV)) (show s239.2.length = (s239.2.set s189.1.toNat (x258.set s239.1.toNat (w64 (Int.tdiv (w64 ((w64 (s189.2.2.2.2.1 * x260)) - (w64 (x238 * x262)))) s189.2.1)))).length by simp only [List.length_set])), rfl, rfl, rfl, rfl, rfl, rfl, rfl, rfl, rfl, rfl, rfl, trivial⟩ ⟨rfl, rfl, rfl, trivial⟩⟩
          ·refine AWR.exit_end rfl ⟨rfl, Ent.of ⟨rfl, rfl, rfl, rfl, rfl, rfl, rfl, rfl, rfl, trivial⟩ ⟨rfl, rfl, rfl, trivial⟩⟩
         ·refine AWR.blk (Wr ?_)
          refine Op20 (LT.add rfl) rfl ⟨rfl, rfl⟩ rfl rfl ?_
          refine mv (Iv (w64 (b256.2.2.2.2.2.1 + 1))) rfl rfl rfl rfl ?_
          refine On ?_
          refine AWR.nil ⟨rfl, Ent.of ⟨rfl, rfl, rfl, rfl, rfl, rfl, rfl, rfl, rfl, trivial⟩ ⟨rfl, rfl, rfl, trivial⟩⟩
       ·refine AWR.exit_end rfl ⟨rfl, Ent.of ⟨rfl, rfl, rfl, rfl, rfl, trivial⟩ ⟨rfl, rfl, rfl, trivial⟩⟩
      ·refine Ws (Wr ?_)
       refine mv (Cc (lo 24 b234.2.2.2.length)) rfl rfl rfl rfl ?_
       refine mv (Iv b234.1) rfl rfl rfl rfl ?_
       refine Os10 (LT.tbuildSlice (n := 26) (enc := encInt) [(0, .tmp 125, (.c (iC b234.1)))] ([b234.1] : List Int) rfl rfl und37 ti3 rfl rfl rfl rfl (by decide) (fun _ => rfl) rfl) rfl rfl rfl ?_
       refine Ob' fun u265 hu265 => ?_
       refine Os22 (LT.tappP (enc := encInt) rfl rfl rfl und37 ti3 rfl (by decide) (by decide) (fun _ => rfl) (lim_le hu265)) rfl rfl rfl rfl rfl rfl ?_
       refine asg (Cc (lo 24 ((b234.2.2.2 ++ ([b234.1] : List Int)).length))) rfl rfl rfl rfl ?_
       refine On (Wr ?_)
       refine mv (Iv b234.2.1) rfl rfl rfl rfl ?_
       refine asg (Iv b234.2.1) rfl rfl rfl rfl ?_
       refine On (AWR.blk ?_)
       refine en [(1, (Iv columns)), (7, (Cc (lo 22 b234.2.2.1.length))), (8, (Cc (lo 24 ((b234.2.2.2 ++ ([b234.1] : List Int)).length)))), (9, (Iv b234.2.1)), (10, (Iv b234.1))] [(22, (.trow 37 23 (lensOf b234.2.2.1))), (23, (.pool 3 (rowsOf encInt b234.2.2.1))), (24, (pR 3 encInt (b234.2.2.2 ++ ([b234.1] : List Int))))] ⟨rfl, rfl, rfl, rfl, rfl, trivial⟩ ⟨rfl, rfl, rfl, trivial⟩ ?_
       refine Wr ?_
       refine mv (Iv b234.1) rfl rfl rfl rfl ?_
       refine Op20 (LT.add rfl) rfl ⟨rfl, rfl⟩ rfl rfl ?_
       refine asg (Iv (w64 (b234.1 + 1))) rfl rfl rfl rfl ?_
       refine On ?_
       refine AWR.nil ⟨rfl, Ent.of ⟨rfl, rfl, rfl, rfl, rfl, trivial⟩ ⟨rfl, rfl, rfl, trivial⟩⟩
   ·refine AWR.exit_end rfl ⟨rfl, Ent.of ⟨rfl, rfl, rfl, trivial⟩ ⟨rfl, rfl, rfl, trivial⟩⟩
 ·refine Ws (Wr ?_)
  refine mv (Cc (lo 22 b151.2.1.length)) rfl rfl rfl rfl ?_
  refine mv (Cc (lo 24 b151.2.2.length)) rfl rfl rfl rfl ?_
  refine mv (Iv b151.1) rfl rfl rfl rfl ?_
  refine asg (Cc (lo 22 b151.2.1.length)) rfl rfl rfl rfl ?_
  refine asg (Cc (lo 24 b151.2.2.length)) rfl rfl rfl rfl ?_
  refine asg (Iv b151.1) rfl rfl rfl rfl ?_
  refine On ?_
  refine en [(4, (Cc (lo 22 b151.2.1.length))), (5, (Cc (lo 24 b151.2.2.length))), (6, (Iv b151.1))] [(22, (.trow 37 23 (lensOf b151.2.1))), (23, (.pool 3 (rowsOf encInt b151.2.1))), (24, (pR 3 encInt b151.2.2))] ⟨rfl, rfl, rfl, trivial⟩ ⟨rfl, rfl, rfl, trivial⟩ ?_
  refine AWR.ent (Ent.mv 22 0 rfl rfl) ?_
  refine AWR.ent (Ent.mv 24 2 rfl rfl) ?_
  refine AWR.ent (Ent.mv 23 1 rfl rfl) ?_
  refine en [(4, (Cc (lo 0 b151.2.1.length))), (5, (Cc (lo 2 b151.2.2.length))), (6, (Iv b151.1))] [(0, (.trow 37 1 (lensOf b151.2.1))), (1, (.pool 3 (rowsOf encInt b151.2.1))), (2, (pR 3 encInt b151.2.2))] ⟨rfl, rfl, rfl, trivial⟩ ⟨rfl, rfl, rfl, trivial⟩ ?_
  refine AWR.ret (FPost.mk (.inr rfl) ⟨rfl, rfl, rfl, trivial⟩ ⟨rfl, rfl, rfl, trivial⟩ rfl ⟨trivial, trivial, PermP.sc, trivial⟩ ⟨trivial, PermO.poolR perm_encInt _, PermO.prow' perm_encInt, trivial⟩)
theorem w_spec_IsFramework (f : TFramework) : ∀ t, m_spec_IsFramework f = some t → Fw.Fn Try.prog 15 [(.agg [(iC f.Graph.Points), (xF encTBar f.Graph.Bars), (xF encTPlace f.Places)])] [] (.s (.c (bC t))) [] [] [] := by
 refine Fw.Fn.of (P := Try.prog) (X := []) (pn := []) (rs := (fun (t : Bool) => [(.c (bC t))])) (dfs := (fun (t : Bool) => [])) Try.func15 rfl Try.ntmps15 (Nat.le_of_ble_eq_true rfl) rfl ?_
 intro w0 U0 R0 g0
 unfold m_spec_IsFramework
 refine Ws (Wr ?_)
 refine Os10 (LT.box (n := 21) (v := (.agg [(iC f.Graph.Points), (xF encTBar f.Graph.Bars), (xF encTPlace f.Places)])) rfl sz29 (by exact rfl)) rfl rfl rfl ?_
 refine asg (Bv false) rfl ⟨rfl, rfl⟩ rfl rfl ?_
 refine On (Ws (Ws ?_))
 refine AWR.joinK (fun j5 => ([(1, (Cc (.pl 21 0))), (31, (Bv j5))], [(21, (.row 29 [[(iC f.Graph.Points), (xF encTBar f.Graph.Bars), (xF encTPlace f.Places)]]))])) ?_ (fun j5 _ => ?_)
 ·refine Wr ?_
  refine Op10 (LT.fieldPl rfl fo29_0) rfl rfl rfl ?_
  refine Op11 (LT.bloadN (out := [(iC f.Graph.Points), (xF encTBar f.Graph.Bars)]) rfl ag26 (infS inf26) sz26 (by exact rfl) (by exact rfl)) rfl rfl rfl rfl ?_
  refine Ob' fun r6 hr6 => ?_
  refine AOR.pure (@LT.callF Try.prog _ _ 109 _ _ [(.agg [(iC f.Graph.Points), (xF encTBar f.Graph.Bars)])] _ _ [] _ _ _ _ (w_spec_IsGraph f.Graph r6 hr6) rfl cb109 (.cons (.agg (.cons (.same rfl) (.cons (.same rfl) .nil))) .nil) rfl rfl trivial) ⟨rfl, rfl, trivial⟩ trivial rfl rfl ?_
  refine Op10 (LT.not rfl) rfl rfl rfl ?_
  refine mv (Bv (!r6)) rfl rfl rfl rfl ?_
  refine AOR.split (fun hb7 => ?_) (fun hb7 => ?_)
  ·refine Ok rfl rfl rfl (by rw [hb7]; rfl) rfl ?_
   refine Ok rfl rfl rfl (by rw [hb7]; rfl) rfl ?_
   refine Ok rfl rfl rfl (by rw [hb7]; rfl) rfl ?_
   refine Ok rfl rfl rfl (by rw [hb7]; rfl) rfl ?_
   refine Op20 (LT.pickT (v := (Bv true)) rfl hb7) rfl ⟨rfl, rfl⟩ rfl rfl ?_
   refine mv (Bv true) rfl rfl rfl rfl ?_
   refine Ok rfl rfl rfl rfl rfl ?_
   refine Ok rfl rfl rfl rfl rfl ?_
   refine Ok rfl rfl rfl rfl rfl ?_
   refine Ok rfl rfl rfl rfl rfl ?_
   refine Ok rfl rfl rfl rfl rfl ?_
   refine Ok rfl rfl rfl rfl rfl ?_
   refine Ok rfl rfl rfl rfl rfl ?_
   refine Op20 (LT.pickT (v := (Bv true)) rfl rfl) rfl ⟨rfl, rfl⟩ rfl rfl ?_
   refine mv (Bv true) rfl rfl rfl rfl ?_
   refine Ok rfl rfl rfl rfl rfl ?_
   refine Ok rfl rfl rfl rfl rfl ?_
   refine Ok rfl rfl rfl rfl rfl ?_
   refine Ok rfl rfl rfl rfl rfl ?_
   refine Ok rfl rfl rfl rfl rfl ?_
   refine Op20 (LT.pickT (v := (Bv true)) rfl rfl) rfl ⟨rfl, rfl⟩ rfl rfl ?_
   refine On ?_
   refine AWR.nil ⟨rfl, Ent.of ⟨rfl, rfl, trivial⟩ ⟨rfl, trivial⟩⟩
  ·refine Op10 (LT.fieldPl rfl fo29_0) rfl ⟨_, rfl, .inl ⟨_, rfl, (by rw [hb7]; rfl)⟩⟩ rfl ?_
   refine Op10 (LT.fieldPl rfl fo26_0) rfl ⟨_, rfl, .inl ⟨_, rfl, (by rw [hb7]; rfl)⟩⟩ rfl ?_
   refine Op11 (LT.bload1 (c := (iC f.Graph.Points)) rfl ag3 (by exact rfl)) rfl rfl ⟨_, rfl, .inl ⟨_, rfl, (by rw [hb7]; rfl)⟩⟩ rfl ?_
   refine Op20 (LT.gtr rfl) rfl ⟨rfl, rfl⟩ ⟨_, rfl, .inl ⟨_, rfl, (by rw [hb7]; rfl)⟩⟩ rfl ?_
   refine Op20 (LT.pickF (v := (Bv (decide (6 < f.Graph.Points)))) rfl hb7) rfl rfl rfl rfl ?_
   refine mv (Bv (decide (6 < f.Graph.Points))) rfl rfl rfl rfl ?_
   refine AOR.split (fun hb8 => ?_) (fun hb8 => ?_)
   ·refine Ok rfl rfl rfl (by rw [hb8]; rfl) rfl ?_
    refine Ok rfl rfl rfl (by rw [hb8]; rfl) rfl ?_
    refine Ok rfl rfl rfl (by rw [hb8]; rfl) rfl ?_
    refine Ok rfl rfl rfl (by rw [hb8]; rfl) rfl ?_
    refine Ok rfl rfl rfl (by rw [hb8]; rfl) rfl ?_
    refine Ok rfl rfl rfl (by rw [hb8]; rfl) rfl ?_
    refine Ok rfl rfl rfl (by rw [hb8]; rfl) rfl ?_
    refine Op20 (LT.pickT (v := (Bv true)) rfl hb8) rfl ⟨rfl, rfl⟩ rfl rfl ?_
    refine mv (Bv true) rfl rfl rfl rfl ?_
    refine Ok rfl rfl rfl rfl rfl ?_
    refine Ok rfl rfl rfl rfl rfl ?_
    refine Ok rfl rfl rfl rfl rfl ?_
    refine Ok rfl rfl rfl rfl rfl ?_
    refine Ok rfl rfl rfl rfl rfl ?_
    refine Op20 (LT.pickT (v := (Bv true)) rfl rfl) rfl ⟨rfl, rfl⟩ rfl rfl ?_
    refine On ?_
    refine AWR.nil ⟨rfl, Ent.of ⟨rfl, rfl, trivial⟩ ⟨rfl, trivial⟩⟩
   ·refine Op10 (LT.fieldPl rfl fo29_1) rfl ⟨_, rfl, .inl ⟨_, rfl, (by rw [hb8]; rfl)⟩⟩ rfl ?_
    refine Op11 (LT.bload1 (c := (xF encTPlace f.Places)) rfl ag27 (by exact rfl)) rfl rfl ⟨_, rfl, .inl ⟨_, rfl, (by rw [hb8]; rfl)⟩⟩ rfl ?_
    refine Op10 (LT.tlenRO rfl und27) rfl ⟨_, rfl, .inl ⟨_, rfl, (by rw [hb8]; rfl)⟩⟩ rfl ?_
    refine Op10 (LT.fieldPl rfl fo29_0) rfl ⟨_, rfl, .inl ⟨_, rfl, (by rw [hb8]; rfl)⟩⟩ rfl ?_
    refine Op10 (LT.fieldPl rfl fo26_0) rfl ⟨_, rfl, .inl ⟨_, rfl, (by rw [hb8]; rfl)⟩⟩ rfl ?_
    refine Op11 (LT.bload1 (c := (iC f.Graph.Points)) rfl ag3 (by exact rfl)) rfl rfl ⟨_, rfl, .inl ⟨_, rfl, (by rw [hb8]; rfl)⟩⟩ rfl ?_
    refine Op20 (LT.neq rfl) rfl rfl ⟨_, rfl, .inl ⟨_, rfl, (by rw [hb8]; rfl)⟩⟩ rfl ?_
    refine Op20 (LT.pickF (v := (Bv ((f.Places.length : Int) != f.Graph.Points))) rfl hb8) rfl rfl rfl rfl ?_
    refine mv (Bv ((f.Places.length : Int) != f.Graph.Points)) rfl rfl rfl rfl ?_
    refine AOR.split (fun hb9 => ?_) (fun hb9 => ?_)
    ·refine Ok rfl rfl rfl (by rw [hb9]; rfl) rfl ?_
     refine Ok rfl rfl rfl (by rw [hb9]; rfl) rfl ?_
     refine Ok rfl rfl rfl (by rw [hb9]; rfl) rfl ?_
     refine Ok rfl rfl rfl (by rw [hb9]; rfl) rfl ?_
     refine Ok rfl rfl rfl (by rw [hb9]; rfl) rfl ?_
     refine Op20 (LT.pickT (v := (Bv true)) rfl hb9) rfl ⟨rfl, rfl⟩ rfl rfl ?_
     refine On ?_
     refine AWR.nil ⟨rfl, Ent.of ⟨rfl, rfl, trivial⟩ ⟨rfl, trivial⟩⟩
    ·refine Op10 (LT.fieldPl rfl fo29_0) rfl ⟨_, rfl, .inl ⟨_, rfl, (by rw [hb9]; rfl)⟩⟩ rfl ?_
     refine Op10 (LT.fieldPl rfl fo26_1) rfl ⟨_, rfl, .inl ⟨_, rfl, (by rw [hb9]; rfl)⟩⟩ rfl ?_
     refine Op11 (LT.bload1 (c := (xF encTBar f.Graph.Bars)) rfl ag24 (by exact rfl)) rfl rfl ⟨_, rfl, .inl ⟨_, rfl, (by rw [hb9]; rfl)⟩⟩ rfl ?_
     refine Op10 (LT.tlenRO rfl und24) rfl ⟨_, rfl, .inl ⟨_, rfl, (by rw [hb9]; rfl)⟩⟩ rfl ?_
     refine Op20 (LT.gtr rfl) rfl ⟨rfl, rfl⟩ ⟨_, rfl, .inl ⟨_, rfl, (by rw [hb9]; rfl)⟩⟩ rfl ?_
     refine Op20 (LT.pickF (v := (Bv (decide (15 < (f.Graph.Bars.length : Int))))) rfl hb9) rfl rfl rfl rfl ?_
     refine On ?_
     refine AWR.nil ⟨rfl, Ent.of ⟨rfl, rfl, trivial⟩ ⟨rfl, trivial⟩⟩
 ·refine AWR.cond rfl (fun hc10 => ?_) (fun hc10 => ?_)
  ·refine Ws (Wr ?_)
   refine asg (Bv false) rfl ⟨rfl, rfl⟩ rfl rfl ?_
   refine On ?_
   refine AWR.ret (FPost.mk (.inr rfl) ⟨rfl, trivial⟩ trivial rfl ⟨PermP.sc, trivial⟩ trivial)
  ·refine AWR.skip (Ws (Ws (Wr ?_)))
   refine asg (Iv 0) rfl ⟨rfl, rfl⟩ rfl rfl ?_
   refine On (AWR.block ?_)
   refine AWR.loopR (id := 0) (m_spec_IsFramework_L1 f) (fun s11 => ([(1, (Cc (.pl 21 0))), (3, (Iv s11))], [(21, (.row 29 [[(iC f.Graph.Points), (xF encTBar f.Graph.Bars), (xF encTPlace f.Places)]]))])) (fun b38 => ([(1, (Cc (.pl 21 0)))], [(21, (.row 29 [[(iC f.Graph.Points), (xF encTBar f.Graph.Bars), (xF encTPlace f.Places)]]))])) (FPost Try.prog Try.f15.results.toList [] [] (fun (t : Bool) => [(.c (bC t))]) (fun (t : Bool) => [])) ?_ (Ent.of ⟨rfl, rfl, trivial⟩ ⟨rfl, trivial⟩) rfl (fun b38 _ => ?_) (by intro r t σ m ht hk; injection ht with ht; subst ht; exact hk)
   ·intro s11
    unfold m_spec_IsFramework_L1
    refine Ws (Ws (Wr ?_))
    refine mv (Iv s11) rfl rfl rfl rfl ?_
    refine Op10 (LT.fieldPl rfl fo29_1) rfl rfl rfl ?_
    refine Op11 (LT.bload1 (c := (xF encTPlace f.Places)) rfl ag27 (by exact rfl)) rfl rfl rfl rfl ?_
    refine Op10 (LT.tlenRO rfl und27) rfl rfl rfl ?_
    refine Op20 (LT.lss rfl) rfl rfl rfl rfl ?_
    refine On ?_
    refine AWR.cond rfl (fun hc39 => ?_) (fun hc39 => ?_)
    ·refine AWR.skip (Ws (AWR.block (Ws ?_)))
     refine AWR.joinK (fun j45 => ([(1, (Cc (.pl 21 0))), (3, (Iv s11)), (56, (Bv j45))], [(21, (.row 29 [[(iC f.Graph.Points), (xF encTBar f.Graph.Bars), (xF encTPlace f.Places)]]))])) ?_ (fun j45 _ => ?_)
     ·refine Wr ?_
      refine Op10 (LT.fieldPl rfl fo29_1) rfl rfl rfl ?_
      refine Op11 (LT.bload1 (c := (xF encTPlace f.Places)) rfl ag27 (by exact rfl)) rfl rfl rfl rfl ?_
      refine mv (Iv s11) rfl rfl rfl rfl ?_
      refine Ob' fun x46 hx46 => ?_
      refine Op20 (LT.tindexRO (enc := encTPlace) rfl el27 hx46 sz94) rfl rfl rfl rfl ?_
      refine Op10 (LT.fieldPx rfl fo94_0) rfl rfl rfl ?_
      refine Op10 (LT.loadPx1 rfl ag3) rfl rfl rfl ?_
      refine Ob' fun r47 hr47 => ?_
      refine AOR.pure (@LT.callF Try.prog _ _ 110 _ _ [(.c (iC x46.X)), (.c (iC 0)), (.c (iC 4))] _ _ [] _ _ _ _ (w_spec_l1In x46.X 0 4 r47 hr47) rfl cb110 (.cons (.c (.same rfl)) (.cons (.c (.same rfl)) (.cons (.c (.same rfl)) .nil))) rfl rfl trivial) ⟨rfl, rfl, ⟨rfl, rfl⟩, ⟨rfl, rfl⟩, trivial⟩ trivial rfl rfl ?_
      refine Op10 (LT.not rfl) rfl rfl rfl ?_
      refine mv (Bv (!r47)) rfl rfl rfl rfl ?_
      refine AOR.split (fun hb48 => ?_) (fun hb48 => ?_)
      ·refine Ok rfl rfl rfl (by rw [hb48]; rfl) rfl ?_
       refine Ok rfl rfl rfl (by rw [hb48]; rfl) rfl ?_
       refine Ok rfl rfl rfl (by rw [hb48]; rfl) rfl ?_
       refine Ok rfl rfl rfl (by rw [hb48]; rfl) rfl ?_
       refine Ok rfl rfl rfl (by rw [hb48]; rfl) rfl ?_
       refine Ok rfl rfl rfl (by rw [hb48]; rfl) rfl ?_
       refine Ok rfl rfl rfl (by rw [hb48]; rfl) rfl ?_
       refine Ok rfl rfl rfl (by rw [hb48]; rfl) rfl ?_
       refine Op20 (LT.pickT (v := (Bv true)) rfl hb48) rfl ⟨rfl, rfl⟩ rfl rfl ?_
       refine On ?_
       refine AWR.nil ⟨rfl, Ent.of ⟨rfl, rfl, rfl, trivial⟩ ⟨rfl, trivial⟩⟩
      ·refine Op10 (LT.fieldPl rfl fo29_1) rfl ⟨_, rfl, .inl ⟨_, rfl, (by rw [hb48]; rfl)⟩⟩ rfl ?_
       refine Op11 (LT.bload1 (c := (xF encTPlace f.Places)) rfl ag27 (by exact rfl)) rfl rfl ⟨_, rfl, .inl ⟨_, rfl, (by rw [hb48]; rfl)⟩⟩ rfl ?_
       refine mv (Iv s11) rfl rfl ⟨_, rfl, .inl ⟨_, rfl, (by rw [hb48]; rfl)⟩⟩ rfl ?_
       refine Ob' fun x49 hx49 => ?_
       refine Op20 (LT.tindexRO (enc := encTPlace) rfl el27 hx49 sz94) rfl rfl ⟨_, rfl, .inl ⟨_, rfl, (by rw [hb48]; rfl)⟩⟩ rfl ?_
       refine Op10 (LT.fieldPx rfl fo94_1) rfl ⟨_, rfl, .inl ⟨_, rfl, (by rw [hb48]; rfl)⟩⟩ rfl ?_
       refine Op10 (LT.loadPx1 rfl ag3) rfl ⟨_, rfl, .inl ⟨_, rfl, (by rw [hb48]; rfl)⟩⟩ rfl ?_
       refine Ob' fun r50 hr50 => ?_
       refine AOR.pure (@LT.callF Try.prog _ _ 110 _ _ [(.c (iC x49.Y)), (.c (iC 0)), (.c (iC 4))] _ _ [] _ _ _ _ (w_spec_l1In x49.Y 0 4 r50 hr50) rfl cb110 (.cons (.c (.same rfl)) (.cons (.c (.same rfl)) (.cons (.c (.same rfl)) .nil))) rfl rfl trivial) ⟨rfl, rfl, ⟨rfl, rfl⟩, ⟨rfl, rfl⟩, trivial⟩ trivial ⟨_, rfl, .inl ⟨_, rfl, (by rw [hb48]; rfl)⟩⟩ rfl ?_
       refine Op10 (LT.not rfl) rfl ⟨_, rfl, .inl ⟨_, rfl, (by rw [hb48]; rfl)⟩⟩ rfl ?_
       refine Op20 (LT.pickF (v := (Bv (!r50))) rfl hb48) rfl rfl rfl rfl ?_
       refine On ?_
       refine AWR.nil ⟨rfl, Ent.of ⟨rfl, rfl, rfl, trivial⟩ ⟨rfl, trivial⟩⟩
     ·refine AWR.cond rfl (fun hc51 => ?_) (fun hc51 => ?_)
      ·refine Ws (Wr ?_)
       refine asg (Bv false) rfl ⟨rfl, rfl⟩ rfl rfl ?_
       refine On ?_
       refine AWR.ret ⟨rfl, FPost.mk (.inr rfl) ⟨rfl, trivial⟩ trivial rfl ⟨PermP.sc, trivial⟩ trivial⟩
      ·refine AWR.skip (AWR.blk (Wr ?_))
       refine mv (Iv s11) rfl rfl rfl rfl ?_
       refine Op20 (LT.add rfl) rfl ⟨rfl, rfl⟩ rfl rfl ?_
       refine asg (Iv (w64 (s11 + 1))) rfl rfl rfl rfl ?_
       refine On ?_
       refine AWR.nil ⟨rfl, Ent.of ⟨rfl, rfl, trivial⟩ ⟨rfl, trivial⟩⟩
    ·refine AWR.exit_end rfl ⟨rfl, Ent.of ⟨rfl, trivial⟩ ⟨rfl, trivial⟩⟩
   ·refine Ws (Ws (Wr ?_))
    refine asg (Iv 0) rfl ⟨rfl, rfl⟩ rfl rfl ?_
    refine On (AWR.block ?_)
    refine AWR.loopR (id := 2) (m_spec_IsFramework_L2 f) (fun s52 => ([(1, (Cc (.pl 21 0))), (4, (Iv s52))], [(21, (.row 29 [[(iC f.Graph.Points), (xF encTBar f.Graph.Bars), (xF encTPlace f.Places)]]))])) (fun b81 => ([], [])) (FPost Try.prog Try.f15.results.toList [] [] (fun (t : Bool) => [(.c (bC t))]) (fun (t : Bool) => [])) ?_ (Ent.of ⟨rfl, rfl, trivial⟩ ⟨rfl, trivial⟩) rfl (fun b81 _ => ?_) (by intro r t σ m ht hk; injection ht with ht; subst ht; exact hk)
    ·intro s52
     unfold m_spec_IsFramework_L2
     refine Ws (Ws (Wr ?_))
     refine mv (Iv s52) rfl rfl rfl rfl ?_
     refine Op10 (LT.fieldPl rfl fo29_0) rfl rfl rfl ?_
     refine Op10 (LT.fieldPl rfl fo26_1) rfl rfl rfl ?_
     refine Op11 (LT.bload1 (c := (xF encTBar f.Graph.Bars)) rfl ag24 (by exact rfl)) rfl rfl rfl rfl ?_
     refine Op10 (LT.tlenRO rfl und24) rfl rfl rfl ?_
     refine Op20 (LT.lss rfl) rfl rfl rfl rfl ?_
     refine On ?_
     refine AWR.cond rfl (fun hc82 => ?_) (fun hc82 => ?_)
     ·refine AWR.skip (Ws (AWR.block (Ws (Wr ?_))))
      refine Op10 (LT.fieldPl rfl fo29_0) rfl rfl rfl ?_
      refine Op10 (LT.fieldPl rfl fo26_1) rfl rfl rfl ?_
      refine Op11 (LT.bload1 (c := (xF encTBar f.Graph.Bars)) rfl ag24 (by exact rfl)) rfl rfl rfl rfl ?_
      refine mv (Iv s52) rfl rfl rfl rfl ?_
      refine Ob' fun x83 hx83 => ?_
      refine Op20 (LT.tindexRO (enc := encTBar) rfl el24 hx83 sz62) rfl rfl rfl rfl ?_
      refine Op10 (LT.loadPxN rfl ag62 (infS inf62) (by exact sz62.symm)) rfl rfl rfl ?_
      refine Os00 (LT.alloc (n := 25) (cells := [(iC 0), (iC 0)]) rfl ti62 rfl rfl rfl) rfl rfl ?_
      refine Os21 (LT.bstore (v := (.agg [(iC x83.A), (iC x83.B)])) (out := [(iC x83.A), (iC x83.B)]) rfl rfl (infS inf62) sz62 (by exact rfl) (by exact Nat.le_of_ble_eq_true rfl) (by exact rfl)) rfl rfl rfl rfl rfl ?_
      refine On (Ws ?_)
      refine AWR.joinK (fun j89 => ([(1, (Cc (.pl 21 0))), (4, (Iv s52)), (98, (Bv j89))], [(21, (.row 29 [[(iC f.Graph.Points), (xF encTBar f.Graph.Bars), (xF encTPlace f.Places)]]))])) ?_ (fun j89 _ => ?_)
      ·refine en [(1, (Cc (.pl 21 0))), (4, (Iv s52)), (5, (Cc (.pl 25 0)))] [(21, (.row 29 [[(iC f.Graph.Points), (xF encTBar f.Graph.Bars), (xF encTPlace f.Places)]])), (25, (.row 62 [[(iC x83.A), (iC x83.B)]]))] ⟨rfl, rfl, rfl, trivial⟩ ⟨rfl, rfl, trivial⟩ ?_
       refine AWR.draw mixed ?_
       refine Dp10 (LT.fieldPl rfl fo29_1) rfl rfl rfl ?_
       refine Dp11 (LT.bload1 (c := (xF encTPlace f.Places)) rfl ag27 (by exact rfl)) rfl rfl rfl rfl ?_
       refine Dp10 (LT.fieldPl rfl fo62_0) rfl rfl rfl ?_
       refine Dp11 (LT.bload1 (c := (iC x83.A)) rfl ag3 (by exact rfl)) rfl rfl rfl rfl ?_
       refine AOD.bind fun x90 hx90 => ?_
       refine Dp20 (LT.tindexRO (enc := encTPlace) rfl el27 hx90 sz94) rfl rfl rfl rfl ?_
       refine Dp10 (LT.loadPxN rfl ag94 (infS inf94) (by exact sz94.symm)) rfl rfl rfl ?_
       refine Dp10 (LT.fieldPl rfl fo29_1) rfl rfl rfl ?_
       refine Dp11 (LT.bload1 (c := (xF encTPlace f.Places)) rfl ag27 (by exact rfl)) rfl rfl rfl rfl ?_
       refine Dp10 (LT.fieldPl rfl fo62_1) rfl rfl rfl ?_
       refine Dp11 (LT.bload1 (c := (iC x83.B)) rfl ag3 (by exact rfl)) rfl rfl rfl rfl ?_
       refine AOD.bind fun x91 hx91 => ?_
       refine Dp20 (LT.tindexRO (enc := encTPlace) rfl el27 hx91 sz94) rfl rfl rfl rfl ?_
       refine Dp10 (LT.loadPxN rfl ag94 (infS inf94) (by exact sz94.symm)) rfl rfl rfl ?_
       refine Dp20 (LT.eqlStruct [x90.X, x90.Y] [x91.X, x91.Y] rfl ist94 rfl rfl) rfl rfl rfl rfl ?_
       refine Dp10 (LT.move (v := (Bv (eqI [x90.X, x90.Y] [x91.X, x91.Y]))) rfl) rfl rfl rfl ?_
       refine AOD.split (fun hb92 => ?_) (fun hb92 => ?_)
       ·refine AOD.skip ⟨_, rfl, .inl ⟨_, rfl, (by rw [hb92]; rfl)⟩⟩ rfl ?_
        refine AOD.skip ⟨_, rfl, .inl ⟨_, rfl, (by rw [hb92]; rfl)⟩⟩ rfl ?_
        refine AOD.skip ⟨_, rfl, .inl ⟨_, rfl, (by rw [hb92]; rfl)⟩⟩ rfl ?_
        refine AOD.skip ⟨_, rfl, .inr ⟨rfl, rfl⟩⟩ rfl ?_
        refine AOD.skip ⟨_, rfl, .inr ⟨rfl, rfl⟩⟩ rfl ?_
        refine AOD.skip ⟨_, rfl, .inr ⟨rfl, rfl⟩⟩ rfl ?_
        refine AOD.skip ⟨_, rfl, .inr ⟨rfl, rfl⟩⟩ rfl ?_
        refine AOD.skip ⟨_, rfl, .inr ⟨rfl, rfl⟩⟩ rfl ?_
        refine AOD.skip ⟨_, rfl, .inr ⟨rfl, rfl⟩⟩ rfl ?_
        refine AOD.skip ⟨_, rfl, .inr ⟨rfl, rfl⟩⟩ rfl ?_
        refine AOD.skip ⟨_, rfl, .inr ⟨rfl, rfl⟩⟩ rfl ?_
        refine AOD.skip ⟨_, rfl, .inr ⟨rfl, rfl⟩⟩ rfl ?_
        refine AOD.skip ⟨_, rfl, .inl ⟨_, rfl, (by rw [hb92]; rfl)⟩⟩ rfl ?_
        refine Dp20 (LT.pickT (v := (Bv true)) rfl hb92) rfl ⟨rfl, rfl⟩ rfl rfl ?_
        refine AOD.nil (by kernel_rfl) ?_
        refine AWR.nil ⟨rfl, Ent.of ⟨rfl, rfl, rfl, trivial⟩ ⟨rfl, trivial⟩⟩
       ·refine Dp10 (LT.move (v := (Iv s52)) rfl) rfl ⟨_, rfl, .inl ⟨_, rfl, (by rw [hb92]; rfl)⟩⟩ rfl ?_
        refine Dp20 (LT.gtr rfl) rfl ⟨rfl, rfl⟩ ⟨_, rfl, .inl ⟨_, rfl, (by rw [hb92]; rfl)⟩⟩ rfl ?_
        refine Dp10 (LT.move (v := (Bv (decide (0 < s52)))) rfl) rfl ⟨_, rfl, .inl ⟨_, rfl, (by rw [hb92]; rfl)⟩⟩ rfl ?_
        refine AOD.split (fun hb93 => ?_) (fun hb93 => ?_)
        ·refine Dp10 (LT.fieldPl rfl fo29_0) rfl ⟨_, rfl, .inl ⟨_, rfl, (by rw [hb93]; rfl)⟩⟩ rfl ?_
         refine Dp10 (LT.fieldPl rfl fo26_1) rfl ⟨_, rfl, .inl ⟨_, rfl, (by rw [hb93]; rfl)⟩⟩ rfl ?_
         refine Dp11 (LT.bload1 (c := (xF encTBar f.Graph.Bars)) rfl ag24 (by exact rfl)) rfl rfl ⟨_, rfl, .inl ⟨_, rfl, (by rw [hb93]; rfl)⟩⟩ rfl ?_
         refine Dp10 (LT.move (v := (Iv s52)) rfl) rfl ⟨_, rfl, .inl ⟨_, rfl, (by rw [hb93]; rfl)⟩⟩ rfl ?_
         refine Dp20 (LT.sub rfl) rfl ⟨rfl, rfl⟩ ⟨_, rfl, .inl ⟨_, rfl, (by rw [hb93]; rfl)⟩⟩ rfl ?_
         refine AOD.bind fun x94 hx94 => ?_
         refine Dp20 (LT.tindexRO (enc := encTBar) rfl el24 hx94 sz62) rfl rfl ⟨_, rfl, .inl ⟨_, rfl, (by rw [hb93]; rfl)⟩⟩ rfl ?_
         refine Dp10 (LT.loadPxN rfl ag62 (infS inf62) (by exact sz62.symm)) rfl ⟨_, rfl, .inl ⟨_, rfl, (by rw [hb93]; rfl)⟩⟩ rfl ?_
         refine Dp11 (LT.bloadN (out := [(iC x83.A), (iC x83.B)]) rfl ag62 (infS inf62) sz62 (by exact rfl) (by exact rfl)) rfl rfl ⟨_, rfl, .inl ⟨_, rfl, (by rw [hb93]; rfl)⟩⟩ rfl ?_
         refine Dp20 (LT.eqlStruct [x94.A, x94.B] [x83.A, x83.B] rfl ist62 rfl rfl) rfl rfl ⟨_, rfl, .inl ⟨_, rfl, (by rw [hb93]; rfl)⟩⟩ rfl ?_
         refine Dp20 (LT.pickT (v := (Bv (eqI [x94.A, x94.B] [x83.A, x83.B]))) rfl hb93) rfl rfl ⟨_, rfl, .inl ⟨_, rfl, (by rw [hb92]; rfl)⟩⟩ rfl ?_
         refine Dp20 (LT.pickF (v := (Bv (eqI [x94.A, x94.B] [x83.A, x83.B]))) rfl hb92) rfl rfl rfl rfl ?_
         refine AOD.nil (by kernel_rfl) ?_
         refine AWR.nil ⟨rfl, Ent.of ⟨rfl, rfl, rfl, trivial⟩ ⟨rfl, trivial⟩⟩
        ·refine AOD.skip ⟨_, rfl, .inl ⟨_, rfl, (by rw [hb93]; rfl)⟩⟩ rfl ?_
         refine AOD.skip ⟨_, rfl, .inl ⟨_, rfl, (by rw [hb93]; rfl)⟩⟩ rfl ?_
         refine AOD.skip ⟨_, rfl, .inl ⟨_, rfl, (by rw [hb93]; rfl)⟩⟩ rfl ?_
         refine AOD.skip ⟨_, rfl, .inl ⟨_, rfl, (by rw [hb93]; rfl)⟩⟩ rfl ?_
         refine AOD.skip ⟨_, rfl, .inl ⟨_, rfl, (by rw [hb93]; rfl)⟩⟩ rfl ?_
         refine AOD.skip ⟨_, rfl, .inl ⟨_, rfl, (by rw [hb93]; rfl)⟩⟩ rfl ?_
         refine AOD.skip ⟨_, rfl, .inl ⟨_, rfl, (by rw [hb93]; rfl)⟩⟩ rfl ?_
         refine AOD.skip ⟨_, rfl, .inl ⟨_, rfl, (by rw [hb93]; rfl)⟩⟩ rfl ?_
         refine AOD.skip ⟨_, rfl, .inl ⟨_, rfl, (by rw [hb93]; rfl)⟩⟩ rfl ?_
         refine Dp20 (LT.pickF (v := (Bv false)) rfl hb93) rfl ⟨rfl, rfl⟩ ⟨_, rfl, .inl ⟨_, rfl, (by rw [hb92]; rfl)⟩⟩ rfl ?_
         refine Dp20 (LT.pickF (v := (Bv false)) rfl hb92) rfl rfl rfl rfl ?_
         refine AOD.nil (by kernel_rfl) ?_
         refine AWR.nil ⟨rfl, Ent.of ⟨rfl, rfl, rfl, trivial⟩ ⟨rfl, trivial⟩⟩
      ·refine AWR.cond rfl (fun hc95 => ?_) (fun hc95 => ?_)
       ·refine Ws (Wr ?_)
        refine asg (Bv false) rfl ⟨rfl, rfl⟩ rfl rfl ?_
        refine On ?_
        refine AWR.ret ⟨rfl, FPost.mk (.inr rfl) ⟨rfl, trivial⟩ trivial rfl ⟨PermP.sc, trivial⟩ trivial⟩
       ·refine AWR.skip (AWR.blk (Wr ?_))
        refine mv (Iv s52) rfl rfl rfl rfl ?_
        refine Op20 (LT.add rfl) rfl ⟨rfl, rfl⟩ rfl rfl ?_
        refine asg (Iv (w64 (s52 + 1))) rfl rfl rfl rfl ?_
        refine On ?_
        refine AWR.nil ⟨rfl, Ent.of ⟨rfl, rfl, trivial⟩ ⟨rfl, trivial⟩⟩
     ·refine AWR.exit_end rfl ⟨rfl, Ent.of trivial trivial⟩
    ·refine Ws (Wr ?_)
     refine asg (Bv true) rfl ⟨rfl, rfl⟩ rfl rfl ?_
     refine On ?_
     refine AWR.ret (FPost.mk (.inr rfl) ⟨rfl, trivial⟩ trivial rfl ⟨PermP.sc, trivial⟩ trivial)
theorem w_spec_RigidityMatrix (f : TFramework) : ∀ t, m_spec_RigidityMatrix f = some t → Fw.Fn Try.prog 46 [(.agg [(iC f.Graph.Points), (xF encTBar f.Graph.Bars), (xF encTPlace f.Places)])] [] (.s (.c (lo 0 t.length))) [(0, (pR 37 (encLInt true) t))] [] [0] := by
 refine Fw.Fn.ofU (P := Try.prog) (X := [0]) (pn := []) (rs := (fun (t : (List (List Int))) => [(.c (lo 0 t.length))])) (dfs := (fun (t : (List (List Int))) => [(0, (pR 37 (encLInt true) t))])) Try.func46 rfl Try.ntmps46 (Nat.le_of_ble_eq_true rfl) rfl ?_
 intro w0 U0 R0 g0 hU
 unfold m_spec_RigidityMatrix
 refine Ws (Wr ?_)
 refine Os10 (LT.box (n := 21) (v := (.agg [(iC f.Graph.Points), (xF encTBar f.Graph.Bars), (xF encTPlace f.Places)])) rfl sz29 (by exact rfl)) rfl rfl rfl ?_
 refine asg (Cc (sC nilV)) rfl ⟨rfl, rfl⟩ rfl rfl ?_
 refine On (Ws (Wr ?_))
 refine Os00 (LT.tbuildSlice (n := 22) (enc := (encLInt true)) [] ([] : List (List Int)) rfl rfl und31 ti37 rfl rfl rfl rfl (by decide) (fun _ => rfl) rfl) rfl rfl ?_
 refine asg (Cc (lo 22 (([] : List (List Int)).length))) rfl rfl rfl rfl ?_
 refine On (Ws (Ws (Wr ?_)))
 refine asg (Iv 0) rfl ⟨rfl, rfl⟩ rfl rfl ?_
 refine On (AWR.block ?_)
 refine AWR.loop1 (id := 0) (m_spec_RigidityMatrix_L1 f) (fun s1 => ([(1, (Cc (.pl 21 0))), (3, (Cc (lo 22 s1.2.length))), (4, (Iv s1.1))], [(21, (.row 29 [[(iC f.Graph.Points), (xF encTBar f.Graph.Bars), (xF encTPlace f.Places)]])), (22, (pR 37 (encLInt true) s1.2))])) (fun b36 => ([(3, (Cc (lo 22 b36.length)))], [(22, (pR 37 (encLInt true) b36))])) ?_ (Ent.of ⟨rfl, rfl, rfl, trivial⟩ ⟨rfl, rfl, trivial⟩) rfl (fun b36 _ => ?_)
 ·intro s1
  unfold m_spec_RigidityMatrix_L1
  refine Ws (Ws ?_)
  refine AWR.joinK (fun j39 => ([(1, (Cc (.pl 21 0))), (3, (Cc (lo 22 s1.2.length))), (4, (Iv s1.1)), (19, (Bv j39))], [(21, (.row 29 [[(iC f.Graph.Points), (xF encTBar f.Graph.Bars), (xF encTPlace f.Places)]])), (22, (pR 37 (encLInt true) s1.2))])) ?_ (fun j39 _ => ?_)
  ·refine Wr ?_
   refine mv (Iv s1.1) rfl rfl rfl rfl ?_
   refine Op10 (LT.fieldPl rfl fo29_0) rfl rfl rfl ?_
   refine Op10 (LT.fieldPl rfl fo26_1) rfl rfl rfl ?_
   refine Op11 (LT.bload1 (c := (xF encTBar f.Graph.Bars)) rfl ag24 (by exact rfl)) rfl rfl rfl rfl ?_
   refine Op10 (LT.tlenRO rfl und24) rfl rfl rfl ?_
   refine Op20 (LT.lss rfl) rfl rfl rfl rfl ?_
   refine mv (Bv (decide (s1.1 < (f.Graph.Bars.length : Int)))) rfl rfl rfl rfl ?_
   refine AOR.split (fun hb40 => ?_) (fun hb40 => ?_)
   ·refine Op11 (LT.bloadN (out := [(iC f.Graph.Points), (xF encTBar f.Graph.Bars), (xF encTPlace f.Places)]) rfl ag29 (infS inf29) sz29 (by exact rfl) (by exact rfl)) rfl rfl ⟨_, rfl, .inl ⟨_, rfl, (by rw [hb40]; rfl)⟩⟩ rfl ?_
    refine Ob' fun r41 hr41 => ?_
    refine AOR.pure (@LT.callF Try.prog _ _ 15 _ _ [(.agg [(iC f.Graph.Points), (xF encTBar f.Graph.Bars), (xF encTPlace f.Places)])] _ _ [] _ _ _ _ (w_spec_IsFramework f r41 hr41) rfl cb15 (.cons (.agg (.cons (.same rfl) (.cons (.same rfl) (.cons (.same rfl) .nil)))) .nil) rfl rfl trivial) ⟨rfl, rfl, trivial⟩ trivial ⟨_, rfl, .inl ⟨_, rfl, (by rw [hb40]; rfl)⟩⟩ rfl ?_
    refine Op20 (LT.pickT (v := (Bv r41)) rfl hb40) rfl rfl rfl rfl ?_
    refine On ?_
    refine AWR.nil ⟨rfl, Ent.of ⟨rfl, rfl, rfl, rfl, trivial⟩ ⟨rfl, rfl, trivial⟩⟩
   ·refine Ok rfl rfl rfl (by rw [hb40]; rfl) rfl ?_
    refine Ok rfl rfl rfl (by rw [hb40]; rfl) rfl ?_
    refine Op20 (LT.pickF (v := (Bv false)) rfl hb40) rfl ⟨rfl, rfl⟩ rfl rfl ?_
    refine On ?_
    refine AWR.nil ⟨rfl, Ent.of ⟨rfl, rfl, rfl, rfl, trivial⟩ ⟨rfl, rfl, trivial⟩⟩
  ·refine AWR.cond rfl (fun hc42 => ?_) (fun hc42 => ?_)
   ·refine AWR.skip (Ws (AWR.block (Ws (Wr ?_))))
    refine Op10 (LT.fieldPl rfl fo29_0) rfl rfl rfl ?_
    refine Op10 (LT.fieldPl rfl fo26_1) rfl rfl rfl ?_
    refine Op11 (LT.bload1 (c := (xF encTBar f.Graph.Bars)) rfl ag24 (by exact rfl)) rfl rfl rfl rfl ?_
    refine mv (Iv s1.1) rfl rfl rfl rfl ?_
    refine Ob' fun x43 hx43 => ?_
    refine Op20 (LT.tindexRO (enc := encTBar) rfl el24 hx43 sz62) rfl rfl rfl rfl ?_
    refine Op10 (LT.loadPxN rfl ag62 (infS inf62) (by exact sz62.symm)) rfl rfl rfl ?_
    refine Os00 (LT.alloc (n := 24) (cells := [(iC 0), (iC 0)]) rfl ti62 rfl rfl rfl) rfl rfl ?_
    refine Os21 (LT.bstore (v := (.agg [(iC x43.A), (iC x43.B)])) (out := [(iC x43.A), (iC x43.B)]) rfl rfl (infS inf62) sz62 (by exact rfl) (by exact Nat.le_of_ble_eq_true rfl) (by exact rfl)) rfl rfl rfl rfl rfl ?_
    refine On (Ws ?_)
    refine en [(1, (Cc (.pl 21 0))), (3, (Cc (lo 22 s1.2.length))), (4, (Iv s1.1)), (5, (Cc (.pl 24 0)))] [(21, (.row 29 [[(iC f.Graph.Points), (xF encTBar f.Graph.Bars), (xF encTPlace f.Places)]])), (22, (pR 37 (encLInt true) s1.2)), (24, (.row 62 [[(iC x43.A), (iC x43.B)]]))] ⟨rfl, rfl, rfl, rfl, trivial⟩ ⟨rfl, rfl, rfl, trivial⟩ ?_
    refine Wr ?_
    refine Op10 (LT.fieldPl rfl fo29_0) rfl rfl rfl ?_
    refine Op10 (LT.fieldPl rfl fo26_0) rfl rfl rfl ?_
    refine Op11 (LT.bload1 (c := (iC f.Graph.Points)) rfl ag3 (by exact rfl)) rfl rfl rfl rfl ?_
    refine Op20 (LT.mul rfl) ⟨rfl, rfl⟩ rfl rfl rfl ?_
    refine Ob' fun u44 hu44 => ?_
    refine Os20 (LT.tmake (n := 25) (enc := encInt) (zc := [(iC 0)]) (0 : Int) rfl und37 ti3 rfl rfl rfl (by decide) (by decide) (lenOk_le hu44) rfl) rfl rfl rfl rfl ?_
    refine asg (Cc (lo 25 ((List.replicate (w64 (2 * f.Graph.Points)).toNat (0 : Int)).length))) rfl rfl rfl rfl ?_
    refine On (Ws (AWR.draw mixed ?_))
    refine Dp10 (LT.fieldPl rfl fo29_1) rfl rfl rfl ?_
    refine Dp11 (LT.bload1 (c := (xF encTPlace f.Places)) rfl ag27 (by exact rfl)) rfl rfl rfl rfl ?_
    refine Dp10 (LT.fieldPl rfl fo62_0) rfl rfl rfl ?_
    refine Dp11 (LT.bload1 (c := (iC x43.A)) rfl ag3 (by exact rfl)) rfl rfl rfl rfl ?_
    refine AOD.bind fun x45 hx45 => ?_
    refine Dp20 (LT.tindexRO (enc := encTPlace) rfl el27 hx45 sz94) rfl rfl rfl rfl ?_
    refine Dp10 (LT.fieldPx rfl fo94_0) rfl rfl rfl ?_
    refine Dp10 (LT.loadPx1 rfl ag3) rfl rfl rfl ?_
    refine Dp10 (LT.fieldPl rfl fo29_1) rfl rfl rfl ?_
    refine Dp11 (LT.bload1 (c := (xF encTPlace f.Places)) rfl ag27 (by exact rfl)) rfl rfl rfl rfl ?_
    refine Dp10 (LT.fieldPl rfl fo62_1) rfl rfl rfl ?_
    refine Dp11 (LT.bload1 (c := (iC x43.B)) rfl ag3 (by exact rfl)) rfl rfl rfl rfl ?_
    refine AOD.bind fun x46 hx46 => ?_
    refine Dp20 (LT.tindexRO (enc := encTPlace) rfl el27 hx46 sz94) rfl rfl rfl rfl ?_
    refine Dp10 (LT.fieldPx rfl fo94_0) rfl rfl rfl ?_
    refine Dp10 (LT.loadPx1 rfl ag3) rfl rfl rfl ?_
    refine Dp20 (LT.sub rfl) rfl rfl rfl rfl ?_
    refine Dp10 (LT.assign (v := (Iv (w64 (x45.X - x46.X)))) rfl) rfl rfl rfl ?_
    refine AOD.nil (by kernel_rfl) ?_
    refine Ws ?_
    refine en [(1, (Cc (.pl 21 0))), (3, (Cc (lo 22 s1.2.length))), (4, (Iv s1.1)), (5, (Cc (.pl 24 0))), (6, (Cc (lo 25 ((List.replicate (w64 (2 * f.Graph.Points)).toNat (0 : Int)).length)))), (7, (Iv (w64 (x45.X - x46.X))))] [(21, (.row 29 [[(iC f.Graph.Points), (xF encTBar f.Graph.Bars), (xF encTPlace f.Places)]])), (22, (pR 37 (encLInt true) s1.2)), (24, (.row 62 [[(iC x43.A), (iC x43.B)]])), (25, (pR 3 encInt (List.replicate (w64 (2 * f.Graph.Points)).toNat (0 : Int))))] ⟨rfl, rfl, rfl, rfl, rfl, rfl, trivial⟩ ⟨rfl, rfl, rfl, rfl, trivial⟩ ?_
    refine AWR.draw mixed ?_
    refine Dp10 (LT.fieldPl rfl fo29_1) rfl rfl rfl ?_
    refine Dp11 (LT.bload1 (c := (xF encTPlace f.Places)) rfl ag27 (by exact rfl)) rfl rfl rfl rfl ?_
    refine Dp10 (LT.fieldPl rfl fo62_0) rfl rfl rfl ?_
    refine Dp11 (LT.bload1 (c := (iC x43.A)) rfl ag3 (by exact rfl)) rfl rfl rfl rfl ?_
    refine AOD.bind fun x47 hx47 => ?_
    refine Dp20 (LT.tindexRO (enc := encTPlace) rfl el27 hx47 sz94) rfl rfl rfl rfl ?_
    refine Dp10 (LT.fieldPx rfl fo94_1) rfl rfl rfl ?_
    refine Dp10 (LT.loadPx1 rfl ag3) rfl rfl rfl ?_
    refine Dp10 (LT.fieldPl rfl fo29_1) rfl rfl rfl ?_
    refine Dp11 (LT.bload1 (c := (xF encTPlace f.Places)) rfl ag27 (by exact rfl)) rfl rfl rfl rfl ?_
    refine Dp10 (LT.fieldPl rfl fo62_1) rfl rfl rfl ?_
    refine Dp11 (LT.bload1 (c := (iC x43.B)) rfl ag3 (by exact rfl)) rfl rfl rfl rfl ?_
    refine AOD.bind fun x48 hx48 => ?_
    refine Dp20 (LT.tindexRO (enc := encTPlace) rfl el27 hx48 sz94) rfl rfl rfl rfl ?_
    refine Dp10 (LT.fieldPx rfl fo94_1) rfl rfl rfl ?_
    refine Dp10 (LT.loadPx1 rfl ag3) rfl rfl rfl ?_
    refine Dp20 (LT.sub rfl) rfl rfl rfl rfl ?_
    refine Dp10 (LT.assign (v := (Iv (w64 (x47.Y - x48.Y)))) rfl) rfl rfl rfl ?_
    refine AOD.nil (by kernel_rfl) ?_
    refine Ws ?_
    refine en [(1, (Cc (.pl 21 0))), (3, (Cc (lo 22 s1.2.length))), (4, (Iv s1.1)), (5, (Cc (.pl 24 0))), (6, (Cc (lo 25 ((List.replicate (w64 (2 * f.Graph.Points)).toNat (0 : Int)).length)))), (7, (Iv (w64 (x45.X - x46.X)))), (8, (Iv (w64 (x47.Y - x48.Y))))] [(21, (.row 29 [[(iC f.Graph.Points), (xF encTBar f.Graph.Bars), (xF encTPlace f.Places)]])), (22, (pR 37 (encLInt true) s1.2)), (24, (.row 62 [[(iC x43.A), (iC x43.B)]])), (25, (pR 3 encInt (List.replicate (w64 (2 * f.Graph.Points)).toNat (0 : Int))))] ⟨rfl, rfl, rfl, rfl, rfl, rfl, rfl, trivial⟩ ⟨rfl, rfl, rfl, rfl, trivial⟩ ?_
    refine Wr ?_
    refine mv (Cc (lo 25 ((List.replicate (w64 (2 * f.Graph.Points)).toNat (0 : Int)).length))) rfl rfl rfl rfl ?_
    refine Op10 (LT.fieldPl rfl fo62_0) rfl rfl rfl ?_
    refine Op11 (LT.bload1 (c := (iC x43.A)) rfl ag3 (by exact rfl)) rfl rfl rfl rfl ?_
    refine Op20 (LT.mul rfl) ⟨rfl, rfl⟩ rfl rfl rfl ?_
    refine mv (Iv (w64 (x45.X - x46.X))) rfl rfl rfl rfl ?_
    refine Ob' fun x49 hx49 => ?_
    refine Op21 (LT.tindexLoc rfl rfl el37 hx49) rfl rfl rfl rfl rfl ?_
    refine Os21 (LT.tstore (k := 0) (v := (.c (iC (w64 (x45.X - x46.X))))) (b' := (w64 (x45.X - x46.X))) rfl rfl (infS inf3) sz3 (by exact rfl) hx49 (by exact rfl) (by exact Nat.le_of_ble_eq_true rfl) (by exact rfl)) rfl rfl rfl rfl rfl ?_
    refine On (Ws (Wr ?_))
    refine mv (Cc (lo 25 ((List.replicate (w64 (2 * f.Graph.Points)).toNat (0 : Int)).length))) rfl rfl rfl rfl ?_
    refine Op10 (LT.fieldPl rfl fo62_0) rfl rfl rfl ?_
    refine Op11 (LT.bload1 (c := (iC x43.A)) rfl ag3 (by exact rfl)) rfl rfl rfl rfl ?_
    refine Op20 (LT.mul rfl) ⟨rfl, rfl⟩ rfl rfl rfl ?_
    refine Op20 (LT.add rfl) rfl ⟨rfl, rfl⟩ rfl rfl ?_
    refine mv (Iv (w64 (x47.Y - x48.Y))) rfl rfl rfl rfl ?_
    refine Ob' fun x50 hx50 => ?_
    refine Op21 (LT.tindexLoc (show (List.replicate (w64 (2 * f.Graph.Points)).toNat (0 : Int)).length = ((List.replicate (w64 (2 * f.Graph.Points)).toNat (0 : Int)).set (w64 (2 * x43.A)).toNat (w64 (x45.X - x46.X))).length by simp only [List.length_set]) rfl el37 hx50) rfl rfl rfl rfl rfl ?_
    refine Os21 (LT.tstore (k := 0) (v := (.c (iC (w64 (x47.Y - x48.Y))))) (b' := (w64 (x47.Y - x48.Y))) rfl rfl (infS inf3) sz3 (by exact rfl) hx50 (by exact rfl) (by exact Nat.le_of_ble_eq_true rfl) (by exact rfl)) rfl rfl rfl rfl rfl ?_
    refine On (Ws ?_)
    refine en [(1, (Cc (.pl 21 0))), (3, (Cc (lo 22 s1.2.length))), (4, (Iv s1.1)), (5, (Cc (.pl 24 0))), (6, (Cc (lo 25 ((List.replicate (w64 (2 * f.Graph.Points)).toNat (0 : Int)).length)))), (7, (Iv (w64 (x45.X - x46.X)))), (8, (Iv (w64 (x47.Y - x48.Y))))] [(21, (.row 29 [[(iC f.Graph.Points), (xF encTBar f.Graph.Bars), (xF encTPlace f.Places)]])), (22, (pR 37 (encLInt true) s1.2)), (24, (.row 62 [[(iC x43.A), (iC x43.B)]])), (25, (pR 3 encInt (((List.replicate (w64 (2 * f.Graph.Points)).toNat (0 : Int)).set (w64 (2 * x43.A)).toNat (w64 (x45.X - x46.X))).set (w64 ((w64 (2 * x43.A)) + 1)).toNat (w64 (x47.Y - x48.Y)))))] ⟨rfl, rfl, rfl, rfl, rfl, rfl, rfl, trivial⟩ ⟨rfl, rfl, rfl, rfl, trivial⟩ ?_
    refine Wr ?_
    refine mv (Cc (lo 25 ((List.replicate (w64 (2 * f.Graph.Points)).toNat (0 : Int)).length))) rfl rfl rfl rfl ?_
    refine Op10 (LT.fieldPl rfl fo62_1) rfl rfl rfl ?_
    refine Op11 (LT.bload1 (c := (iC x43.B)) rfl ag3 (by exact rfl)) rfl rfl rfl rfl ?_
    refine Op20 (LT.mul rfl) ⟨rfl, rfl⟩ rfl rfl rfl ?_
    refine mv (Iv (w64 (x45.X - x46.X))) rfl rfl rfl rfl ?_
    refine Op10 (LT.neg rfl) rfl rfl rfl ?_
    refine Ob' fun x51 hx51 => ?_
    refine Op21 (LT.tindexLoc (show (List.replicate (w64 (2 * f.Graph.Points)).toNat (0 : Int)).length = (((List.replicate (w64 (2 * f.Graph.Points)).toNat (0 : Int)).set (w64 (2 * x43.A)).toNat (w64 (x45.X - x46.X))).set (w64 ((w64 (2 * x43.A)) + 1)).toNat (w64 (x47.Y - x48.Y))).length by simp only [List.length_set]) rfl el37 hx51) rfl rfl rfl rfl rfl ?_
    refine Os21 (LT.tstore (k := 0) (v := (.c (iC (w64 (-(w64 (x45.X - x46.X))))))) (b' := (w64 (-(w64 (x45.X - x46.X))))) rfl rfl (infS inf3) sz3 (by exact rfl) hx51 (by exact rfl) (by exact Nat.le_of_ble_eq_true rfl) (by exact rfl)) rfl rfl rfl rfl rfl ?_
    refine On (Ws (Wr ?_))
    refine mv (Cc (lo 25 ((List.replicate (w64 (2 * f.Graph.Points)).toNat (0 : Int)).length))) rfl rfl rfl rfl ?_
    refine Op10 (LT.fieldPl rfl fo62_1) rfl rfl rfl ?_
    refine Op11 (LT.bload1 (c := (iC x43.B)) rfl ag3 (by exact rfl)) rfl rfl rfl rfl ?_
    refine Op20 (LT.mul rfl) ⟨rfl, rfl⟩ rfl rfl rfl ?_
    refine Op20 (LT.add rfl) rfl ⟨rfl, rfl⟩ rfl rfl ?_
    refine mv (Iv (w64 (x47.Y - x48.Y))) rfl rfl rfl rfl ?_
    refine Op10 (LT.neg rfl) rfl rfl rfl ?_
    refine Ob' fun x52 hx52 => ?_
    refine Op21 (LT.tindexLoc (show (List.replicate (w64 (2 * f.Graph.Points)).toNat (0 : Int)).length = ((((List.replicate (w64 (2 * f.Graph.Points)).toNat (0 : Int)).set (w64 (2 * x43.A)).toNat (w64 (x45.X - x46.X))).set (w64 ((w64 (2 * x43.A)) + 1)).toNat (w64 (x47.Y - x48.Y))).set (w64 (2 * x43.B)).toNat (w64 (-(w64 (x45.X - x46.X))))).length by simp only [List.length_set]) rfl el37 hx52) rfl rfl rfl rfl rfl ?_
    refine Os21 (LT.tstore (k := 0) (v := (.c (iC (w64 (-(w64 (x47.Y - x48.Y))))))) (b' := (w64 (-(w64 (x47.Y - x48.Y))))) rfl rfl (infS inf3) sz3 (by exact rfl) hx52 (by exact rfl) (by exact Nat.le_of_ble_eq_true rfl) (by exact rfl)) rfl rfl rfl rfl rfl ?_
    refine On ?_
    refine en [(1, (Cc (.pl 21 0))), (3, (Cc (lo 22 s1.2.length))), (4, (Iv s1.1)), (6, (Cc (lo 25 ((List.replicate (w64 (2 * f.Graph.Points)).toNat (0 : Int)).length))))] [(21, (.row 29 [[(iC f.Graph.Points), (xF encTBar f.Graph.Bars), (xF encTPlace f.Places)]])), (22, (pR 37 (encLInt true) s1.2)), (25, (pR 3 encInt (((((List.replicate (w64 (2 * f.Graph.Points)).toNat (0 : Int)).set (w64 (2 * x43.A)).toNat (w64 (x45.X - x46.X))).set (w64 ((w64 (2 * x43.A)) + 1)).toNat (w64 (x47.Y - x48.Y))).set (w64 (2 * x43.B)).toNat (w64 (-(w64 (x45.X - x46.X))))).set (w64 ((w64 (2 * x43.B)) + 1)).toNat (w64 (-(w64 (x47.Y - x48.Y)))))))] ⟨rfl, rfl, rfl, rfl, trivial⟩ ⟨rfl, rfl, rfl, trivial⟩ ?_
    refine Wr ?_
    refine mv (Cc (lo 22 s1.2.length)) rfl rfl rfl rfl ?_
    refine mv (Cc (lo 25 ((List.replicate (w64 (2 * f.Graph.Points)).toNat (0 : Int)).length))) rfl rfl rfl rfl ?_
    refine AOR.ent (Ent.freezeS (enc := encInt) 92 25 hU rfl (show (List.replicate (w64 (2 * f.Graph.Points)).toNat (0 : Int)).length = (((((List.replicate (w64 (2 * f.Graph.Points)).toNat (0 : Int)).set (w64 (2 * x43.A)).toNat (w64 (x45.X - x46.X))).set (w64 ((w64 (2 * x43.A)) + 1)).toNat (w64 (x47.Y - x48.Y))).set (w64 (2 * x43.B)).toNat (w64 (-(w64 (x45.X - x46.X))))).set (w64 ((w64 (2 * x43.B)) + 1)).toNat (w64 (-(w64 (x47.Y - x48.Y))))).length by simp only [List.length_set]) rfl rfl) ?_
    refine Os10 (LT.tbuildSlice (n := 26) (enc := (encLInt true)) [(0, .tmp 92, (.c (xT encInt (((((List.replicate (w64 (2 * f.Graph.Points)).toNat (0 : Int)).set (w64 (2 * x43.A)).toNat (w64 (x45.X - x46.X))).set (w64 ((w64 (2 * x43.A)) + 1)).toNat (w64 (x47.Y - x48.Y))).set (w64 (2 * x43.B)).toNat (w64 (-(w64 (x45.X - x46.X))))).set (w64 ((w64 (2 * x43.B)) + 1)).toNat (w64 (-(w64 (x47.Y - x48.Y))))))))] [(((((List.replicate (w64 (2 * f.Graph.Points)).toNat (0 : Int)).set (w64 (2 * x43.A)).toNat (w64 (x45.X - x46.X))).set (w64 ((w64 (2 * x43.A)) + 1)).toNat (w64 (x47.Y - x48.Y))).set (w64 (2 * x43.B)).toNat (w64 (-(w64 (x45.X - x46.X))))).set (w64 ((w64 (2 * x43.B)) + 1)).toNat (w64 (-(w64 (x47.Y - x48.Y)))))] rfl rfl und31 ti37 rfl rfl rfl rfl (by decide) (fun _ => rfl) rfl) rfl rfl rfl ?_
    refine Ob' fun u53 hu53 => ?_
    refine Os22 (LT.tappP (enc := (encLInt true)) rfl rfl rfl und31 ti37 rfl (by decide) (by decide) (fun _ => rfl) (lim_le hu53)) rfl rfl rfl rfl rfl rfl ?_
    refine asg (Cc (lo 22 ((s1.2 ++ [(((((List.replicate (w64 (2 * f.Graph.Points)).toNat (0 : Int)).set (w64 (2 * x43.A)).toNat (w64 (x45.X - x46.X))).set (w64 ((w64 (2 * x43.A)) + 1)).toNat (w64 (x47.Y - x48.Y))).set (w64 (2 * x43.B)).toNat (w64 (-(w64 (x45.X - x46.X))))).set (w64 ((w64 (2 * x43.B)) + 1)).toNat (w64 (-(w64 (x47.Y - x48.Y)))))]).length))) rfl rfl rfl rfl ?_
    refine On (AWR.blk (Wr ?_))
    refine mv (Iv s1.1) rfl rfl rfl rfl ?_
    refine Op20 (LT.add rfl) rfl ⟨rfl, rfl⟩ rfl rfl ?_
    refine asg (Iv (w64 (s1.1 + 1))) rfl rfl rfl rfl ?_
    refine On ?_
    refine AWR.nil ⟨rfl, Ent.of ⟨rfl, rfl, rfl, trivial⟩ ⟨rfl, rfl, trivial⟩⟩
   ·refine AWR.exit_end rfl ⟨rfl, Ent.of ⟨rfl, trivial⟩ ⟨rfl, trivial⟩⟩
 ·refine Ws (Wr ?_)
  refine mv (Cc (lo 22 b36.length)) rfl rfl rfl rfl ?_
  refine asg (Cc (lo 22 b36.length)) rfl rfl rfl rfl ?_
  refine On ?_
  refine en [(2, (Cc (lo 22 b36.length)))] [(22, (pR 37 (encLInt true) b36))] ⟨rfl, trivial⟩ ⟨rfl, trivial⟩ ?_
  refine AWR.ent (Ent.mv 22 0 rfl rfl) ?_
  refine en [(2, (Cc (lo 0 b36.length)))] [(0, (pR 37 (encLInt true) b36))] ⟨rfl, trivial⟩ ⟨rfl, trivial⟩ ?_
  refine AWR.ret (FPost.mk (.inr rfl) ⟨rfl, trivial⟩ ⟨rfl, trivial⟩ rfl ⟨trivial, trivial⟩ ⟨PermO.prow' perm_encLInt, trivial⟩)
end Go.Proofs.Ytghofbijdnenoaa
end
section
set_option linter.unusedVariables false
set_option linter.unusedSimpArgs false
set_option linter.unnecessarySimpa false
set_option maxRecDepth 100000
set_option maxHeartbeats 8000000
open Go Go.Fw
namespace Go.Proofs.Ytghofbijdnenoaa
theorem w_laws_eqPlace (a : TPlace) (b : TPlace) : ∀ t, m_laws_eqPlace a b = some t → Fw.Fn Try.prog 212 [(.agg [(iC a.X), (iC a.Y)]), (.agg [(iC b.X), (iC b.Y)])] [] (.s (.c (bC t))) [] [] [] := by
 refine Fw.Fn.of (P := Try.prog) (X := []) (pn := []) (rs := (fun (t : Bool) => [(.c (bC t))])) (dfs := (fun (t : Bool) => [])) Try.func212 rfl Try.ntmps212 (Nat.le_of_ble_eq_true rfl) rfl ?_
 intro w0 U0 R0 g0
 unfold m_laws_eqPlace
 refine Ws (Wr ?_)
 refine Os10 (LT.box (n := 21) (v := (.agg [(iC a.X), (iC a.Y)])) rfl sz94 (by exact rfl)) rfl rfl rfl ?_
 refine Os10 (LT.box (n := 22) (v := (.agg [(iC b.X), (iC b.Y)])) rfl sz94 (by exact rfl)) rfl rfl rfl ?_
 refine asg (Bv false) rfl ⟨rfl, rfl⟩ rfl rfl ?_
 refine On (Ws (Ws (Wr ?_)))
 refine Op10 (LT.fieldPl rfl fo94_0) rfl rfl rfl ?_
 refine Op11 (LT.bload1 (c := (iC a.X)) rfl ag3 (by exact rfl)) rfl rfl rfl rfl ?_
 refine Op10 (LT.fieldPl rfl fo94_0) rfl rfl rfl ?_
 refine Op11 (LT.bload1 (c := (iC b.X)) rfl ag3 (by exact rfl)) rfl rfl rfl rfl ?_
 refine Op20 (LT.neq rfl) rfl rfl rfl rfl ?_
 refine On ?_
 refine AWR.cond rfl (fun hc1 => ?_) (fun hc1 => ?_)
 ·refine Ws ?_
  refine en [] [] trivial trivial ?_
  refine Wr ?_
  refine asg (Bv false) rfl ⟨rfl, rfl⟩ rfl rfl ?_
  refine On ?_
  refine AWR.ret (FPost.mk (.inr rfl) ⟨rfl, trivial⟩ trivial rfl ⟨PermP.sc, trivial⟩ trivial)
 ·refine AWR.skip (Ws (Ws ?_))
  refine en [(2, (Cc (.pl 21 0))), (3, (Cc (.pl 22 0)))] [(21, (.row 94 [[(iC a.X), (iC a.Y)]])), (22, (.row 94 [[(iC b.X), (iC b.Y)]]))] ⟨rfl, rfl, trivial⟩ ⟨rfl, rfl, trivial⟩ ?_
  refine Wr ?_
  refine Op10 (LT.fieldPl rfl fo94_1) rfl rfl rfl ?_
  refine Op11 (LT.bload1 (c := (iC a.Y)) rfl ag3 (by exact rfl)) rfl rfl rfl rfl ?_
  refine Op10 (LT.fieldPl rfl fo94_1) rfl rfl rfl ?_
  refine Op11 (LT.bload1 (c := (iC b.Y)) rfl ag3 (by exact rfl)) rfl rfl rfl rfl ?_
  refine Op20 (LT.neq rfl) rfl rfl rfl rfl ?_
  refine On ?_
  refine AWR.cond rfl (fun hc2 => ?_) (fun hc2 => ?_)
  ·refine Ws (Wr ?_)
   refine asg (Bv false) rfl ⟨rfl, rfl⟩ rfl rfl ?_
   refine On ?_
   refine AWR.ret (FPost.mk (.inr rfl) ⟨rfl, trivial⟩ trivial rfl ⟨PermP.sc, trivial⟩ trivial)
  ·refine AWR.skip (Ws (Wr ?_))
   refine asg (Bv true) rfl ⟨rfl, rfl⟩ rfl rfl ?_
   refine On ?_
   refine AWR.ret (FPost.mk (.inr rfl) ⟨rfl, trivial⟩ trivial rfl ⟨PermP.sc, trivial⟩ trivial)
theorem w_laws_eqPlaceS (a : (List TPlace)) (b : (List TPlace)) : ∀ t, m_laws_eqPlaceS a b = some t → Fw.Fn Try.prog 131 [(.c (xF encTPlace a)), (.c (xF encTPlace b))] [] (.s (.c (bC t))) [] [] [] := by
 refine Fw.Fn.of (P := Try.prog) (X := []) (pn := []) (rs := (fun (t : Bool) => [(.c (bC t))])) (dfs := (fun (t : Bool) => [])) Try.func131 rfl Try.ntmps131 (Nat.le_of_ble_eq_true rfl) rfl ?_
 intro w0 U0 R0 g0
 unfold m_laws_eqPlaceS
 refine Ws (Wr ?_)
 refine asg (Bv false) rfl ⟨rfl, rfl⟩ rfl rfl ?_
 refine On (Ws (Ws (Wr ?_)))
 refine mv (Cc (xF encTPlace a)) rfl rfl rfl rfl ?_
 refine Op10 (LT.tlenRO rfl und27) rfl rfl rfl ?_
 refine mv (Cc (xF encTPlace b)) rfl rfl rfl rfl ?_
 refine Op10 (LT.tlenRO rfl und27) rfl rfl rfl ?_
 refine Op20 (LT.neq rfl) rfl rfl rfl rfl ?_
 refine On ?_
 refine AWR.cond rfl (fun hc1 => ?_) (fun hc1 => ?_)
 ·refine Ws (Wr ?_)
  refine asg (Bv false) rfl ⟨rfl, rfl⟩ rfl rfl ?_
  refine On ?_
  refine AWR.ret (FPost.mk (.inr rfl) ⟨rfl, trivial⟩ trivial rfl ⟨PermP.sc, trivial⟩ trivial)
 ·refine AWR.skip (Ws (Ws (Wr ?_)))
  refine asg (Iv 0) rfl ⟨rfl, rfl⟩ rfl rfl ?_
  refine On (AWR.block ?_)
  refine AWR.loopR (id := 0) (m_laws_eqPlaceS_L1 a b) (fun s2 => ([(0, (Cc (xF encTPlace a))), (1, (Cc (xF encTPlace b))), (5, (Iv s2))], [])) (fun b13 => ([], [])) (FPost Try.prog Try.f131.results.toList [] [] (fun (t : Bool) => [(.c (bC t))]) (fun (t : Bool) => [])) ?_ (Ent.of ⟨rfl, rfl, rfl, trivial⟩ trivial) rfl (fun b13 _ => ?_) (by intro r t σ m ht hk; injection ht with ht; subst ht; exact hk)
  ·intro s2
   unfold m_laws_eqPlaceS_L1
   refine Ws (Ws (Wr ?_))
   refine mv (Iv s2) rfl rfl rfl rfl ?_
   refine mv (Cc (xF encTPlace a)) rfl rfl rfl rfl ?_
   refine Op10 (LT.tlenRO rfl und27) rfl rfl rfl ?_
   refine Op20 (LT.lss rfl) rfl rfl rfl rfl ?_
   refine On ?_
   refine AWR.cond rfl (fun hc14 => ?_) (fun hc14 => ?_)
   ·refine AWR.skip (Ws (AWR.block (Ws (AWR.draw mixed ?_))))
    refine Dp10 (LT.move (v := (Cc (xF encTPlace a))) rfl) rfl rfl rfl ?_
    refine Dp10 (LT.move (v := (Iv s2)) rfl) rfl rfl rfl ?_
    refine AOD.bind fun x15 hx15 => ?_
    refine Dp20 (LT.tindexRO (enc := encTPlace) rfl el27 hx15 sz94) rfl rfl rfl rfl ?_
    refine Dp10 (LT.loadPxN rfl ag94 (infS inf94) (by exact sz94.symm)) rfl rfl rfl ?_
    refine Dp10 (LT.move (v := (Cc (xF encTPlace b))) rfl) rfl rfl rfl ?_
    refine Dp10 (LT.move (v := (Iv s2)) rfl) rfl rfl rfl ?_
    refine AOD.bind fun x16 hx16 => ?_
    refine Dp20 (LT.tindexRO (enc := encTPlace) rfl el27 hx16 sz94) rfl rfl rfl rfl ?_
    refine Dp10 (LT.loadPxN rfl ag94 (infS inf94) (by exact sz94.symm)) rfl rfl rfl ?_
    refine AOD.bind fun r17 hr17 => ?_
    refine AOD.pure (@LT.callF Try.prog _ _ 212 _ _ [(.agg [(iC x15.X), (iC x15.Y)]), (.agg [(iC x16.X), (iC x16.Y)])] _ _ [] _ _ _ _ (w_laws_eqPlace x15 x16 r17 hr17) rfl cb212 (.cons (.agg (.cons (.same rfl) (.cons (.same rfl) .nil))) (.cons (.agg (.cons (.same rfl) (.cons (.same rfl) .nil))) .nil)) rfl rfl trivial) ⟨rfl, rfl, rfl, trivial⟩ trivial rfl rfl ?_
    refine Dp10 (LT.not rfl) rfl rfl rfl ?_
    refine AOD.nil (by kernel_rfl) ?_
    refine AWR.cond rfl (fun hc18 => ?_) (fun hc18 => ?_)
    ·refine Ws ?_
     refine en [] [] trivial trivial ?_
     refine Wr ?_
     refine asg (Bv false) rfl ⟨rfl, rfl⟩ rfl rfl ?_
     refine On ?_
     refine AWR.ret ⟨rfl, FPost.mk (.inr rfl) ⟨rfl, trivial⟩ trivial rfl ⟨PermP.sc, trivial⟩ trivial⟩
    ·refine AWR.skip (AWR.blk ?_)
     refine en [(0, (Cc (xF encTPlace a))), (1, (Cc (xF encTPlace b))), (5, (Iv s2))] [] ⟨rfl, rfl, rfl, trivial⟩ trivial ?_
     refine Wr ?_
     refine mv (Iv s2) rfl rfl rfl rfl ?_
     refine Op20 (LT.add rfl) rfl ⟨rfl, rfl⟩ rfl rfl ?_
     refine asg (Iv (w64 (s2 + 1))) rfl rfl rfl rfl ?_
     refine On ?_
     refine AWR.nil ⟨rfl, Ent.of ⟨rfl, rfl, rfl, trivial⟩ trivial⟩
   ·refine AWR.exit_end rfl ⟨rfl, Ent.of trivial trivial⟩
  ·refine Ws (Wr ?_)
   refine asg (Bv true) rfl ⟨rfl, rfl⟩ rfl rfl ?_
   refine On ?_
   refine AWR.ret (FPost.mk (.inr rfl) ⟨rfl, trivial⟩ trivial rfl ⟨PermP.sc, trivial⟩ trivial)
theorem w_laws_eqFramework (a : TFramework) (b : TFramework) : ∀ t, m_laws_eqFramework a b = some t → Fw.Fn Try.prog 37 [(.agg [(iC a.Graph.Points), (xF encTBar a.Graph.Bars), (xF encTPlace a.Places)]), (.agg [(iC b.Graph.Points), (xF encTBar b.Graph.Bars), (xF encTPlace b.Places)])] [] (.s (.c (bC t))) [] [] [] := by
 refine Fw.Fn.of (P := Try.prog) (X := []) (pn := []) (rs := (fun (t : Bool) => [(.c (bC t))])) (dfs := (fun (t : Bool) => [])) Try.func37 rfl Try.ntmps37 (Nat.le_of_ble_eq_true rfl) rfl ?_
 intro w0 U0 R0 g0
 unfold m_laws_eqFramework
 refine Ws (Wr ?_)
 refine Os10 (LT.box (n := 21) (v := (.agg [(iC a.Graph.Points), (xF encTBar a.Graph.Bars), (xF encTPlace a.Places)])) rfl sz29 (by exact rfl)) rfl rfl rfl ?_
 refine Os10 (LT.box (n := 22) (v := (.agg [(iC b.Graph.Points), (xF encTBar b.Graph.Bars), (xF encTPlace b.Places)])) rfl sz29 (by exact rfl)) rfl rfl rfl ?_
 refine asg (Bv false) rfl ⟨rfl, rfl⟩ rfl rfl ?_
 refine On (Ws (Ws (Wr ?_)))
 refine Op10 (LT.fieldPl rfl fo29_0) rfl rfl rfl ?_
 refine Op11 (LT.bloadN (out := [(iC a.Graph.Points), (xF encTBar a.Graph.Bars)]) rfl ag26 (infS inf26) sz26 (by exact rfl) (by exact rfl)) rfl rfl rfl rfl ?_
 refine Op10 (LT.fieldPl rfl fo29_0) rfl rfl rfl ?_
 refine Op11 (LT.bloadN (out := [(iC b.Graph.Points), (xF encTBar b.Graph.Bars)]) rfl ag26 (infS inf26) sz26 (by exact rfl) (by exact rfl)) rfl rfl rfl rfl ?_
 refine Ob' fun r1 hr1 => ?_
 refine AOR.pure (@LT.callF Try.prog _ _ 38 _ _ [(.agg [(iC a.Graph.Points), (xF encTBar a.Graph.Bars)]), (.agg [(iC b.Graph.Points), (xF encTBar b.Graph.Bars)])] _ _ [] _ _ _ _ (w_laws_eqGraph a.Graph b.Graph r1 hr1) rfl cb38 (.cons (.agg (.cons (.same rfl) (.cons (.same rfl) .nil))) (.cons (.agg (.cons (.same rfl) (.cons (.same rfl) .nil))) .nil)) rfl rfl trivial) ⟨rfl, rfl, rfl, trivial⟩ trivial rfl rfl ?_
 refine Op10 (LT.not rfl) rfl rfl rfl ?_
 refine On ?_
 refine AWR.cond rfl (fun hc2 => ?_) (fun hc2 => ?_)
 ·refine Ws ?_
  refine en [] [] trivial trivial ?_
  refine Wr ?_
  refine asg (Bv false) rfl ⟨rfl, rfl⟩ rfl rfl ?_
  refine On ?_
  refine AWR.ret (FPost.mk (.inr rfl) ⟨rfl, trivial⟩ trivial rfl ⟨PermP.sc, trivial⟩ trivial)
 ·refine AWR.skip (Ws (Ws ?_))
  refine en [(2, (Cc (.pl 21 0))), (3, (Cc (.pl 22 0)))] [(21, (.row 29 [[(iC a.Graph.Points), (xF encTBar a.Graph.Bars), (xF encTPlace a.Places)]])), (22, (.row 29 [[(iC b.Graph.Points), (xF encTBar b.Graph.Bars), (xF encTPlace b.Places)]]))] ⟨rfl, rfl, trivial⟩ ⟨rfl, rfl, trivial⟩ ?_
  refine Wr ?_
  refine Op10 (LT.fieldPl rfl fo29_1) rfl rfl rfl ?_
  refine Op11 (LT.bload1 (c := (xF encTPlace a.Places)) rfl ag27 (by exact rfl)) rfl rfl rfl rfl ?_
  refine Op10 (LT.fieldPl rfl fo29_1) rfl rfl rfl ?_
  refine Op11 (LT.bload1 (c := (xF encTPlace b.Places)) rfl ag27 (by exact rfl)) rfl rfl rfl rfl ?_
  refine Ob' fun r3 hr3 => ?_
  refine AOR.pure (@LT.callF Try.prog _ _ 131 _ _ [(.c (xF encTPlace a.Places)), (.c (xF encTPlace b.Places))] _ _ [] _ _ _ _ (w_laws_eqPlaceS a.Places b.Places r3 hr3) rfl cb131 (.cons (.c (.same rfl)) (.cons (.c (.same rfl)) .nil)) rfl rfl trivial) ⟨rfl, rfl, rfl, trivial⟩ trivial rfl rfl ?_
  refine Op10 (LT.not rfl) rfl rfl rfl ?_
  refine On ?_
  refine AWR.cond rfl (fun hc4 => ?_) (fun hc4 => ?_)
  ·refine Ws (Wr ?_)
   refine asg (Bv false) rfl ⟨rfl, rfl⟩ rfl rfl ?_
   refine On ?_
   refine AWR.ret (FPost.mk (.inr rfl) ⟨rfl, trivial⟩ trivial rfl ⟨PermP.sc, trivial⟩ trivial)
  ·refine AWR.skip (Ws (Wr ?_))
   refine asg (Bv true) rfl ⟨rfl, rfl⟩ rfl rfl ?_
   refine On ?_
   refine AWR.ret (FPost.mk (.inr rfl) ⟨rfl, trivial⟩ trivial rfl ⟨PermP.sc, trivial⟩ trivial)
theorem w_laws_markBarS (a : (List TBar)) (k : Int) : ∀ t, m_laws_markBarS a k = some t → Fw.Fn Try.prog 133 [(.c (lo 0 a.length)), (.c (iC k))] [(0, (pR 62 encTBar a))] (.s (.c (iC t.1))) [(0, (pR 62 encTBar t.2))] [0] [] := by
 refine Fw.Fn.of (P := Try.prog) (X := []) (pn := [0]) (rs := (fun (t : (Int × (List TBar))) => [(.c (iC t.1))])) (dfs := (fun (t : (Int × (List TBar))) => [(0, (pR 62 encTBar t.2))])) Try.func133 rfl Try.ntmps133 (Nat.le_of_ble_eq_true rfl) rfl ?_
 intro w0 U0 R0 g0
 unfold m_laws_markBarS
 refine Ws (Wr ?_)
 refine asg (Iv 0) rfl ⟨rfl, rfl⟩ rfl rfl ?_
 refine On (Ws (Ws (Wr ?_)))
 refine asg (Iv 0) rfl ⟨rfl, rfl⟩ rfl rfl ?_
 refine On (AWR.block ?_)
 refine AWR.loop1 (id := 0) (m_laws_markBarS_L1) (fun s1 => ([(0, (Cc (lo 0 s1.2.2.length))), (1, (Iv s1.1)), (5, (Iv s1.2.1))], [(0, (pR 62 encTBar s1.2.2))])) (fun b8 => ([(1, (Iv b8.1))], [(0, (pR 62 encTBar b8.2))])) ?_ (Ent.of ⟨rfl, rfl, rfl, trivial⟩ ⟨rfl, trivial⟩) rfl (fun b8 _ => ?_)
 ·intro s1
  unfold m_laws_markBarS_L1
  refine Ws (Ws (Wr ?_))
  refine mv (Iv s1.2.1) rfl rfl rfl rfl ?_
  refine mv (Cc (lo 0 s1.2.2.length)) rfl rfl rfl rfl ?_
  refine Op10 (LT.lenLoc rfl und24) rfl rfl rfl ?_
  refine Op20 (LT.lss rfl) rfl rfl rfl rfl ?_
  refine On ?_
  refine AWR.cond rfl (fun hc9 => ?_) (fun hc9 => ?_)
  ·refine AWR.skip (Ws (AWR.block (Ws (Wr ?_))))
   refine mv (Cc (lo 0 s1.2.2.length)) rfl rfl rfl rfl ?_
   refine mv (Iv s1.2.1) rfl rfl rfl rfl ?_
   refine mv (Iv s1.1) rfl rfl rfl rfl ?_
   refine Ob' fun x10 hx10 => ?_
   refine Op21 (LT.tindexLoc rfl rfl el24 hx10) rfl rfl rfl rfl rfl ?_
   refine Op10 (LT.fieldPl rfl fo62_0) rfl rfl rfl ?_
   refine Os21 (LT.tstore (k := 0) (v := (.c (iC s1.1))) (b' := (TBar.mk s1.1 x10.B)) rfl rfl (infS inf3) sz3 (by exact rfl) hx10 (by exact rfl) (by exact Nat.le_of_ble_eq_true rfl) (by exact rfl)) rfl rfl rfl rfl rfl ?_
   refine On (Ws ?_)
   refine en [(0, (Cc (lo 0 s1.2.2.length))), (1, (Iv s1.1)), (5, (Iv s1.2.1))] [(0, (pR 62 encTBar (s1.2.2.set s1.2.1.toNat (TBar.mk s1.1 x10.B))))] ⟨rfl, rfl, rfl, trivial⟩ ⟨rfl, trivial⟩ ?_
   refine Wr ?_
   refine mv (Iv s1.1) rfl rfl rfl rfl ?_
   refine Op20 (LT.add rfl) rfl ⟨rfl, rfl⟩ rfl rfl ?_
   refine asg (Iv (w64 (s1.1 + 1))) rfl rfl rfl rfl ?_
   refine On (Ws (Wr ?_))
   refine mv (Cc (lo 0 s1.2.2.length)) rfl rfl rfl rfl ?_
   refine mv (Iv s1.2.1) rfl rfl rfl rfl ?_
   refine mv (Iv (w64 (s1.1 + 1))) rfl rfl rfl rfl ?_
   refine Ob' fun x11 hx11 => ?_
   refine Op21 (LT.tindexLoc (show s1.2.2.length = (s1.2.2.set s1.2.1.toNat (TBar.mk s1.1 x10.B)).length by simp only [List.length_set]) rfl el24 hx11) rfl rfl rfl rfl rfl ?_
   refine Op10 (LT.fieldPl rfl fo62_1) rfl rfl rfl ?_
   refine Os21 (LT.tstore (k := 1) (v := (.c (iC (w64 (s1.1 + 1))))) (b' := (TBar.mk x11.A (w64 (s1.1 + 1)))) rfl rfl (infS inf3) sz3 (by exact rfl) hx11 (by exact rfl) (by exact Nat.le_of_ble_eq_true rfl) (by exact rfl)) rfl rfl rfl rfl rfl ?_
   refine On ?_
   refine en [(0, (Cc (lo 0 s1.2.2.length))), (1, (Iv (w64 (s1.1 + 1)))), (5, (Iv s1.2.1))] [(0, (pR 62 encTBar ((s1.2.2.set s1.2.1.toNat (TBar.mk s1.1 x10.B)).set s1.2.1.toNat (TBar.mk x11.A (w64 (s1.1 + 1))))))] ⟨rfl, rfl, rfl, trivial⟩ ⟨rfl, trivial⟩ ?_
   refine Wr ?_
   refine mv (Iv (w64 (s1.1 + 1))) rfl rfl rfl rfl ?_
   refine Op20 (LT.add rfl) rfl ⟨rfl, rfl⟩ rfl rfl ?_
   refine asg (Iv (w64 ((w64 (s1.1 + 1)) + 1))) rfl rfl rfl rfl ?_
   refine On (AWR.blk (Wr ?_))
   refine mv (Iv s1.2.1) rfl rfl rfl rfl ?_
   refine Op20 (LT.add rfl) rfl ⟨rfl, rfl⟩ rfl rfl ?_
   refine asg (Iv (w64 (s1.2.1 + 1))) rfl rfl rfl rfl ?_
   refine On ?_
   refine AWR.nil ⟨rfl, Ent.of ⟨(congrArg (fun l1 => (some (AV.s (.c (lo 0 l1))) : Option AV)) (show s1.2.2.length = ((s1.2.2.set s1.2.1.toNat (TBar.mk s1.1 x10.B)).set s1.2.1.toNat (TBar.mk x11.A (w64 (s1.1 + 1)))).length by simp only [List.length_set])), rfl, rfl, trivial⟩ ⟨rfl, trivial⟩⟩
  ·refine AWR.exit_end rfl ⟨rfl, Ent.of ⟨rfl, trivial⟩ ⟨rfl, trivial⟩⟩
 ·refine Ws (Wr ?_)
  refine mv (Iv b8.1) rfl rfl rfl rfl ?_
  refine asg (Iv b8.1) rfl rfl rfl rfl ?_
  refine On ?_
  refine AWR.ret (FPost.mk (.inr rfl) ⟨rfl, trivial⟩ ⟨rfl, trivial⟩ rfl ⟨PermP.sc, trivial⟩ ⟨PermO.prow' perm_encTBar, trivial⟩)
theorem w_laws_markGraph (a : TGraph) (k : Int) : ∀ t, m_laws_markGraph a k = some t → Fw.Fn Try.prog 39 [(.agg [(iC a.Points), (lo 0 a.Bars.length)]), (.c (iC k))] [(0, (pR 62 encTBar a.Bars))] (.s (.c (iC t.1))) [(0, (pR 62 encTBar t.2))] [0] [] := by
 refine Fw.Fn.of (P := Try.prog) (X := []) (pn := [0]) (rs := (fun (t : (Int × (List TBar))) => [(.c (iC t.1))])) (dfs := (fun (t : (Int × (List TBar))) => [(0, (pR 62 encTBar t.2))])) Try.func39 rfl Try.ntmps39 (Nat.le_of_ble_eq_true rfl) rfl ?_
 intro w0 U0 R0 g0
 unfold m_laws_markGraph
 refine Ws (Wr ?_)
 refine Os10 (LT.box (n := 21) (v := (.agg [(iC a.Points), (lo 0 a.Bars.length)])) rfl sz26 (by exact rfl)) rfl rfl rfl ?_
 refine asg (Iv 0) rfl ⟨rfl, rfl⟩ rfl rfl ?_
 refine On (Ws (Wr ?_))
 refine Op10 (LT.fieldPl rfl fo26_1) rfl rfl rfl ?_
 refine Op11 (LT.bload1 (c := (lo 0 a.Bars.length)) rfl ag24 (by exact rfl)) rfl rfl rfl rfl ?_
 refine mv (Iv k) rfl rfl rfl rfl ?_
 refine Ob' fun r1 hr1 => ?_
 refine AOR.step (@LT.callF Try.prog _ _ 133 _ _ [(.c (lo 0 a.Bars.length)), (.c (iC k))] _ _ [] _ _ _ _ ((show Fw.Fn Try.prog 133 [(.c (lo 0 a.Bars.length)), (.c (iC k))] [(0, (pR 62 encTBar a.Bars))] (Iv r1.1) [(0, (pR 62 encTBar r1.2))] [0] [] from Fw.Fn.ren [(0, 0)] (w_laws_markBarS a.Bars k r1 hr1) rfl)) rfl cb133 (.cons (.c (.same rfl)) (.cons (.c (.same rfl)) .nil)) rfl rfl ⟨rfl, trivial⟩) ⟨rfl, rfl, rfl, trivial⟩ ⟨rfl, trivial⟩ rfl rfl ?_
 refine asg (Iv r1.1) rfl rfl rfl rfl ?_
 refine On (Ws ?_)
 refine en [(1, (Iv r1.1))] [(0, (pR 62 encTBar r1.2))] ⟨rfl, trivial⟩ ⟨rfl, trivial⟩ ?_
 refine Wr ?_
 refine mv (Iv r1.1) rfl rfl rfl rfl ?_
 refine asg (Iv r1.1) rfl rfl rfl rfl ?_
 refine On ?_
 refine AWR.ret (FPost.mk (.inr rfl) ⟨rfl, trivial⟩ ⟨rfl, trivial⟩ rfl ⟨PermP.sc, trivial⟩ ⟨PermO.prow' perm_encTBar, trivial⟩)
theorem w_laws_markPlaceS (a : (List TPlace)) (k : Int) : ∀ t, m_laws_markPlaceS a k = some t → Fw.Fn Try.prog 134 [(.c (lo 0 a.length)), (.c (iC k))] [(0, (pR 94 encTPlace a))] (.s (.c (iC t.1))) [(0, (pR 94 encTPlace t.2))] [0] [] := by
 refine Fw.Fn.of (P := Try.prog) (X := []) (pn := [0]) (rs := (fun (t : (Int × (List TPlace))) => [(.c (iC t.1))])) (dfs := (fun (t : (Int × (List TPlace))) => [(0, (pR 94 encTPlace t.2))])) Try.func134 rfl Try.ntmps134 (Nat.le_of_ble_eq_true rfl) rfl ?_
 intro w0 U0 R0 g0
 unfold m_laws_markPlaceS
 refine Ws (Wr ?_)
 refine asg (Iv 0) rfl ⟨rfl, rfl⟩ rfl rfl ?_
 refine On (Ws (Ws (Wr ?_)))
 refine asg (Iv 0) rfl ⟨rfl, rfl⟩ rfl rfl ?_
 refine On (AWR.block ?_)
 refine AWR.loop1 (id := 0) (m_laws_markPlaceS_L1) (fun s1 => ([(0, (Cc (lo 0 s1.2.2.length))), (1, (Iv s1.1)), (5, (Iv s1.2.1))], [(0, (pR 94 encTPlace s1.2.2))])) (fun b8 => ([(1, (Iv b8.1))], [(0, (pR 94 encTPlace b8.2))])) ?_ (Ent.of ⟨rfl, rfl, rfl, trivial⟩ ⟨rfl, trivial⟩) rfl (fun b8 _ => ?_)
 ·intro s1
  unfold m_laws_markPlaceS_L1
  refine Ws (Ws (Wr ?_))
  refine mv (Iv s1.2.1) rfl rfl rfl rfl ?_
  refine mv (Cc (lo 0 s1.2.2.length)) rfl rfl rfl rfl ?_
  refine Op10 (LT.lenLoc rfl und27) rfl rfl rfl ?_
  refine Op20 (LT.lss rfl) rfl rfl rfl rfl ?_
  refine On ?_
  refine AWR.cond rfl (fun hc9 => ?_) (fun hc9 => ?_)
  ·refine AWR.skip (Ws (AWR.block (Ws (Wr ?_))))
   refine mv (Cc (lo 0 s1.2.2.length)) rfl rfl rfl rfl ?_
   refine mv (Iv s1.2.1) rfl rfl rfl rfl ?_
   refine mv (Iv s1.1) rfl rfl rfl rfl ?_
   refine Ob' fun x10 hx10 => ?_
   refine Op21 (LT.tindexLoc rfl rfl el27 hx10) rfl rfl rfl rfl rfl ?_
   refine Op10 (LT.fieldPl rfl fo94_0) rfl rfl rfl ?_
   refine Os21 (LT.tstore (k := 0) (v := (.c (iC s1.1))) (b' := (TPlace.mk s1.1 x10.Y)) rfl rfl (infS inf3) sz3 (by exact rfl) hx10 (by exact rfl) (by exact Nat.le_of_ble_eq_true rfl) (by exact rfl)) rfl rfl rfl rfl rfl ?_
   refine On (Ws ?_)
   refine en [(0, (Cc (lo 0 s1.2.2.length))), (1, (Iv s1.1)), (5, (Iv s1.2.1))] [(0, (pR 94 encTPlace (s1.2.2.set s1.2.1.toNat (TPlace.mk s1.1 x10.Y))))] ⟨rfl, rfl, rfl, trivial⟩ ⟨rfl, trivial⟩ ?_
   refine Wr ?_
   refine mv (Iv s1.1) rfl rfl rfl rfl ?_
   refine Op20 (LT.add rfl) rfl ⟨rfl, rfl⟩ rfl rfl ?_
   refine asg (Iv (w64 (s1.1 + 1))) rfl rfl rfl rfl ?_
   refine On (Ws (Wr ?_))
   refine mv (Cc (lo 0 s1.2.2.length)) rfl rfl rfl rfl ?_
   refine mv (Iv s1.2.1) rfl rfl rfl rfl ?_
   refine mv (Iv (w64 (s1.1 + 1))) rfl rfl rfl rfl ?_
   refine Ob' fun x11 hx11 => ?_
   refine Op21 (LT.tindexLoc (show s1.2.2.length = (s1.2.2.set s1.2.1.toNat (TPlace.mk s1.1 x10.Y)).length by simp only [List.length_set]) rfl el27 hx11) rfl rfl rfl rfl rfl ?_
   refine Op10 (LT.fieldPl rfl fo94_1) rfl rfl rfl ?_
   refine Os21 (LT.tstore (k := 1) (v := (.c (iC (w64 (s1.1 + 1))))) (b' := (TPlace.mk x11.X (w64 (s1.1 + 1)))) rfl rfl (infS inf3) sz3 (by exact rfl) hx11 (by exact rfl) (by exact Nat.le_of_ble_eq_true rfl) (by exact rfl)) rfl rfl rfl rfl rfl ?_
   refine On ?_
   refine en [(0, (Cc (lo 0 s1.2.2.length))), (1, (Iv (w64 (s1.1 + 1)))), (5, (Iv s1.2.1))] [(0, (pR 94 encTPlace ((s1.2.2.set s1.2.1.toNat (TPlace.mk s1.1 x10.Y)).set s1.2.1.toNat (TPlace.mk x11.X (w64 (s1.1 + 1))))))] ⟨rfl, rfl, rfl, trivial⟩ ⟨rfl, trivial⟩ ?_
   refine Wr ?_
   refine mv (Iv (w64 (s1.1 + 1))) rfl rfl rfl rfl ?_
   refine Op20 (LT.add rfl) rfl ⟨rfl, rfl⟩ rfl rfl ?_
   refine asg (Iv (w64 ((w64 (s1.1 + 1)) + 1))) rfl rfl rfl rfl ?_
   refine On (AWR.blk (Wr ?_))
   refine mv (Iv s1.2.1) rfl rfl rfl rfl ?_
   refine Op20 (LT.add rfl) rfl ⟨rfl, rfl⟩ rfl rfl ?_
   refine asg (Iv (w64 (s1.2.1 + 1))) rfl rfl rfl rfl ?_
   refine On ?_
   refine AWR.nil ⟨rfl, Ent.of ⟨(congrArg (fun l1 => (some (AV.s (.c (lo 0 l1))) : Option AV)) (show s1.2.2.length = ((s1.2.2.set s1.2.1.toNat (TPlace.mk s1.1 x10.Y)).set s1.2.1.toNat (TPlace.mk x11.X (w64 (s1.1 + 1)))).length by simp only [List.length_set])), rfl, rfl, trivial⟩ ⟨rfl, trivial⟩⟩
  ·refine AWR.exit_end rfl ⟨rfl, Ent.of ⟨rfl, trivial⟩ ⟨rfl, trivial⟩⟩
 ·refine Ws (Wr ?_)
  refine mv (Iv b8.1) rfl rfl rfl rfl ?_
  refine asg (Iv b8.1) rfl rfl rfl rfl ?_
  refine On ?_
  refine AWR.ret (FPost.mk (.inr rfl) ⟨rfl, trivial⟩ ⟨rfl, trivial⟩ rfl ⟨PermP.sc, trivial⟩ ⟨PermO.prow' perm_encTPlace, trivial⟩)
theorem w_laws_markFramework (a : TFramework) (k : Int) : ∀ t, m_laws_markFramework a k = some t → Fw.Fn Try.prog 40 [(.agg [(iC a.Graph.Points), (lo 0 a.Graph.Bars.length), (lo 1 a.Places.length)]), (.c (iC k))] [(0, (pR 62 encTBar a.Graph.Bars)), (1, (pR 94 encTPlace a.Places))] (.s (.c (iC t.1))) [(0, (pR 62 encTBar t.2.1)), (1, (pR 94 encTPlace t.2.2))] [0, 1] [] := by
 refine Fw.Fn.of (P := Try.prog) (X := []) (pn := [0, 1]) (rs := (fun (t : (Int × (List TBar) × (List TPlace))) => [(.c (iC t.1))])) (dfs := (fun (t : (Int × (List TBar) × (List TPlace))) => [(0, (pR 62 encTBar t.2.1)), (1, (pR 94 encTPlace t.2.2))])) Try.func40 rfl Try.ntmps40 (Nat.le_of_ble_eq_true rfl) rfl ?_
 intro w0 U0 R0 g0
 unfold m_laws_markFramework
 refine Ws (Wr ?_)
 refine Os10 (LT.box (n := 21) (v := (.agg [(iC a.Graph.Points), (lo 0 a.Graph.Bars.length), (lo 1 a.Places.length)])) rfl sz29 (by exact rfl)) rfl rfl rfl ?_
 refine asg (Iv 0) rfl ⟨rfl, rfl⟩ rfl rfl ?_
 refine On (Ws (Wr ?_))
 refine Op10 (LT.fieldPl rfl fo29_0) rfl rfl rfl ?_
 refine Op11 (LT.bloadN (out := [(iC a.Graph.Points), (lo 0 a.Graph.Bars.length)]) rfl ag26 (infS inf26) sz26 (by exact rfl) (by exact rfl)) rfl rfl rfl rfl ?_
 refine mv (Iv k) rfl rfl rfl rfl ?_
 refine Ob' fun r1 hr1 => ?_
 refine AOR.step (@LT.callF Try.prog _ _ 39 _ _ [(.agg [(iC a.Graph.Points), (lo 0 a.Graph.Bars.length)]), (.c (iC k))] _ _ [] _ _ _ _ ((show Fw.Fn Try.prog 39 [(.agg [(iC a.Graph.Points), (lo 0 a.Graph.Bars.length)]), (.c (iC k))] [(0, (pR 62 encTBar a.Graph.Bars))] (Iv r1.1) [(0, (pR 62 encTBar r1.2))] [0] [] from Fw.Fn.ren [(0, 0)] (w_laws_markGraph a.Graph k r1 hr1) rfl)) rfl cb39 (.cons (.agg (.cons (.same rfl) (.cons (.same rfl) .nil))) (.cons (.c (.same rfl)) .nil)) rfl rfl ⟨rfl, trivial⟩) ⟨rfl, rfl, rfl, trivial⟩ ⟨rfl, trivial⟩ rfl rfl ?_
 refine asg (Iv r1.1) rfl rfl rfl rfl ?_
 refine On (Ws ?_)
 refine en [(1, (Iv r1.1)), (2, (Cc (.pl 21 0)))] [(0, (pR 62 encTBar r1.2)), (1, (pR 94 encTPlace a.Places)), (21, (.row 29 [[(iC a.Graph.Points), (lo 0 a.Graph.Bars.length), (lo 1 a.Places.length)]]))] ⟨rfl, rfl, trivial⟩ ⟨rfl, rfl, rfl, trivial⟩ ?_
 refine Wr ?_
 refine Op10 (LT.fieldPl rfl fo29_1) rfl rfl rfl ?_
 refine Op11 (LT.bload1 (c := (lo 1 a.Places.length)) rfl ag27 (by exact rfl)) rfl rfl rfl rfl ?_
 refine mv (Iv r1.1) rfl rfl rfl rfl ?_
 refine Ob' fun r2 hr2 => ?_
 refine AOR.step (@LT.callF Try.prog _ _ 134 _ _ [(.c (lo 1 a.Places.length)), (.c (iC r1.1))] _ _ [] _ _ _ _ ((show Fw.Fn Try.prog 134 [(.c (lo 1 a.Places.length)), (.c (iC r1.1))] [(1, (pR 94 encTPlace a.Places))] (Iv r2.1) [(1, (pR 94 encTPlace r2.2))] [1] [] from Fw.Fn.ren [(0, 1)] (w_laws_markPlaceS a.Places r1.1 r2 hr2) rfl)) rfl cb134 (.cons (.c (.same rfl)) (.cons (.c (.same rfl)) .nil)) rfl rfl ⟨rfl, trivial⟩) ⟨rfl, rfl, rfl, trivial⟩ ⟨rfl, trivial⟩ rfl rfl ?_
 refine asg (Iv r2.1) rfl rfl rfl rfl ?_
 refine On (Ws (Wr ?_))
 refine mv (Iv r2.1) rfl rfl rfl rfl ?_
 refine asg (Iv r2.1) rfl rfl rfl rfl ?_
 refine On ?_
 refine AWR.ret (FPost.mk (.inr rfl) ⟨rfl, trivial⟩ ⟨rfl, rfl, trivial⟩ rfl ⟨PermP.sc, trivial⟩ ⟨PermO.prow' perm_encTBar, PermO.prow' perm_encTPlace, trivial⟩)
end Go.Proofs.Ytghofbijdnenoaa
end
section
set_option linter.unusedVariables false
set_option linter.unusedSimpArgs false
set_option linter.unnecessarySimpa false
set_option maxRecDepth 100000
set_option maxHeartbeats 8000000
open Go Go.Fw
namespace Go.Proofs.Ytghofbijdnenoaa
theorem w_laws_szIntS (a : (List Int)) (leftV : Int) : ∀ t, m_laws_szIntS a leftV = some t → Fw.Fn Try.prog 145 [(.c (xF encInt a)), (.c (iC leftV))] [] (.s (.c (iC t))) [] [] [] := by
 refine Fw.Fn.of (P := Try.prog) (X := []) (pn := []) (rs := (fun (t : Int) => [(.c (iC t))])) (dfs := (fun (t : Int) => [])) Try.func145 rfl Try.ntmps145 (Nat.le_of_ble_eq_true rfl) rfl ?_
 intro w0 U0 R0 g0
 unfold m_laws_szIntS
 refine Ws (Wr ?_)
 refine asg (Iv 0) rfl ⟨rfl, rfl⟩ rfl rfl ?_
 refine On (Ws (Wr ?_))
 refine mv (Iv leftV) rfl rfl rfl rfl ?_
 refine mv (Cc (xF encInt a)) rfl rfl rfl rfl ?_
 refine Op10 (LT.tlenRO rfl und37) rfl rfl rfl ?_
 refine Op20 (LT.sub rfl) rfl rfl rfl rfl ?_
 refine asg (Iv (w64 (leftV - (a.length : Int)))) rfl rfl rfl rfl ?_
 refine On (Ws (Ws (Wr ?_)))
 refine mv (Iv (w64 (leftV - (a.length : Int)))) rfl rfl rfl rfl ?_
 refine Op20 (LT.lss rfl) rfl ⟨rfl, rfl⟩ rfl rfl ?_
 refine On ?_
 refine AWR.cond rfl (fun hc1 => ?_) (fun hc1 => ?_)
 ·refine Ws (Wr ?_)
  refine asg (Iv (-1)) rfl ⟨rfl, rfl⟩ rfl rfl ?_
  refine On ?_
  refine AWR.ret (FPost.mk (.inr rfl) ⟨rfl, trivial⟩ trivial rfl ⟨PermP.sc, trivial⟩ trivial)
 ·refine AWR.skip (Ws (Wr ?_))
  refine mv (Iv (w64 (leftV - (a.length : Int)))) rfl rfl rfl rfl ?_
  refine asg (Iv (w64 (leftV - (a.length : Int)))) rfl rfl rfl rfl ?_
  refine On ?_
  refine AWR.ret (FPost.mk (.inr rfl) ⟨rfl, trivial⟩ trivial rfl ⟨PermP.sc, trivial⟩ trivial)
theorem w_laws_szTensegrity (a : TTensegrity) (leftV : Int) : ∀ t, m_laws_szTensegrity a leftV = some t → Fw.Fn Try.prog 59 [(.agg [(iC a.Framework.Graph.Points), (xF encTBar a.Framework.Graph.Bars), (xF encTPlace a.Framework.Places), (xF encInt a.Kinds)]), (.c (iC leftV))] [] (.s (.c (iC t))) [] [] [] := by
 refine Fw.Fn.of (P := Try.prog) (X := []) (pn := []) (rs := (fun (t : Int) => [(.c (iC t))])) (dfs := (fun (t : Int) => [])) Try.func59 rfl Try.ntmps59 (Nat.le_of_ble_eq_true rfl) rfl ?_
 intro w0 U0 R0 g0
 unfold m_laws_szTensegrity
 refine Ws (Wr ?_)
 refine Os10 (LT.box (n := 21) (v := (.agg [(iC a.Framework.Graph.Points), (xF encTBar a.Framework.Graph.Bars), (xF encTPlace a.Framework.Places), (xF encInt a.Kinds)])) rfl sz70 (by exact rfl)) rfl rfl rfl ?_
 refine asg (Iv 0) rfl ⟨rfl, rfl⟩ rfl rfl ?_
 refine On (Ws (Wr ?_))
 refine Op10 (LT.fieldPl rfl fo70_0) rfl rfl rfl ?_
 refine Op11 (LT.bloadN (out := [(iC a.Framework.Graph.Points), (xF encTBar a.Framework.Graph.Bars), (xF encTPlace a.Framework.Places)]) rfl ag68 (infS inf68) sz68 (by exact rfl) (by exact rfl)) rfl rfl rfl rfl ?_
 refine mv (Iv leftV) rfl rfl rfl rfl ?_
 refine Ob' fun r1 hr1 => ?_
 refine AOR.pure (@LT.callF Try.prog _ _ 68 _ _ [(.agg [(iC a.Framework.Graph.Points), (xF encTBar a.Framework.Graph.Bars), (xF encTPlace a.Framework.Places)]), (.c (iC leftV))] _ _ [] _ _ _ _ (w_laws_szFramework a.Framework leftV r1 hr1) rfl cb68 (.cons (.agg (.cons (.same rfl) (.cons (.same rfl) (.cons (.same rfl) .nil)))) (.cons (.c (.same rfl)) .nil)) rfl rfl trivial) ⟨rfl, rfl, rfl, trivial⟩ trivial rfl rfl ?_
 refine asg (Iv r1) rfl rfl rfl rfl ?_
 refine On (Ws (Ws (Wr ?_)))
 refine mv (Iv r1) rfl rfl rfl rfl ?_
 refine Op20 (LT.lss rfl) rfl ⟨rfl, rfl⟩ rfl rfl ?_
 refine On ?_
 refine AWR.cond rfl (fun hc2 => ?_) (fun hc2 => ?_)
 ·refine Ws ?_
  refine en [] [] trivial trivial ?_
  refine Wr ?_
  refine asg (Iv (-1)) rfl ⟨rfl, rfl⟩ rfl rfl ?_
  refine On ?_
  refine AWR.ret (FPost.mk (.inr rfl) ⟨rfl, trivial⟩ trivial rfl ⟨PermP.sc, trivial⟩ trivial)
 ·refine AWR.skip (Ws ?_)
  refine en [(1, (Iv r1)), (2, (Cc (.pl 21 0)))] [(21, (.row 70 [[(iC a.Framework.Graph.Points), (xF encTBar a.Framework.Graph.Bars), (xF encTPlace a.Framework.Places), (xF encInt a.Kinds)]]))] ⟨rfl, rfl, trivial⟩ ⟨rfl, trivial⟩ ?_
  refine Wr ?_
  refine Op10 (LT.fieldPl rfl fo70_1) rfl rfl rfl ?_
  refine Op11 (LT.bload1 (c := (xF encInt a.Kinds)) rfl ag37 (by exact rfl)) rfl rfl rfl rfl ?_
  refine mv (Iv r1) rfl rfl rfl rfl ?_
  refine Ob' fun r3 hr3 => ?_
  refine AOR.pure (@LT.callF Try.prog _ _ 145 _ _ [(.c (xF encInt a.Kinds)), (.c (iC r1))] _ _ [] _ _ _ _ (w_laws_szIntS a.Kinds r1 r3 hr3) rfl cb145 (.cons (.c (.same rfl)) (.cons (.c (.same rfl)) .nil)) rfl rfl trivial) ⟨rfl, rfl, rfl, trivial⟩ trivial rfl rfl ?_
  refine asg (Iv r3) rfl rfl rfl rfl ?_
  refine On (Ws (Ws (Wr ?_)))
  refine mv (Iv r3) rfl rfl rfl rfl ?_
  refine Op20 (LT.lss rfl) rfl ⟨rfl, rfl⟩ rfl rfl ?_
  refine On ?_
  refine AWR.cond rfl (fun hc4 => ?_) (fun hc4 => ?_)
  ·refine Ws (Wr ?_)
   refine asg (Iv (-1)) rfl ⟨rfl, rfl⟩ rfl rfl ?_
   refine On ?_
   refine AWR.ret (FPost.mk (.inr rfl) ⟨rfl, trivial⟩ trivial rfl ⟨PermP.sc, trivial⟩ trivial)
  ·refine AWR.skip (Ws (Wr ?_))
   refine mv (Iv r3) rfl rfl rfl rfl ?_
   refine asg (Iv r3) rfl rfl rfl rfl ?_
   refine On ?_
   refine AWR.ret (FPost.mk (.inr rfl) ⟨rfl, trivial⟩ trivial rfl ⟨PermP.sc, trivial⟩ trivial)
theorem w_laws_toIntS (a : (List Int)) : ∀ t, m_laws_toIntS a = some t → Fw.Fn Try.prog 149 [(.c (xF encInt a))] [] (.s (.c (lo 0 t.length))) [(0, (pR 3 encInt t))] [] [0] := by
 refine Fw.Fn.of (P := Try.prog) (X := [0]) (pn := []) (rs := (fun (t : (List Int)) => [(.c (lo 0 t.length))])) (dfs := (fun (t : (List Int)) => [(0, (pR 3 encInt t))])) Try.func149 rfl Try.ntmps149 (Nat.le_of_ble_eq_true rfl) rfl ?_
 intro w0 U0 R0 g0
 unfold m_laws_toIntS
 refine Ws (Wr ?_)
 refine asg (Cc (sC nilV)) rfl ⟨rfl, rfl⟩ rfl rfl ?_
 refine On (Ws (Wr ?_))
 refine mv (Cc (xF encInt a)) rfl rfl rfl rfl ?_
 refine Op10 (LT.tlenRO rfl und37) rfl rfl rfl ?_
 refine Ob' fun u1 hu1 => ?_
 refine Os20 (LT.tmake (n := 21) (enc := encInt) (zc := [(iC 0)]) (0 : Int) rfl und37 ti3 rfl rfl rfl (by decide) (by decide) (lenOk_le hu1) rfl) rfl rfl rfl rfl ?_
 refine asg (Cc (lo 21 ((List.replicate (a.length : Int).toNat (0 : Int)).length))) rfl rfl rfl rfl ?_
 refine On (Ws (Ws (Wr ?_)))
 refine asg (Iv 0) rfl ⟨rfl, rfl⟩ rfl rfl ?_
 refine On (AWR.block ?_)
 refine AWR.loop1 (id := 0) (m_laws_toIntS_L1 a) (fun s2 => ([(0, (Cc (xF encInt a))), (3, (Cc (lo 21 s2.2.length))), (4, (Iv s2.1))], [(21, (pR 3 encInt s2.2))])) (fun b9 => ([(3, (Cc (lo 21 b9.length)))], [(21, (pR 3 encInt b9))])) ?_ (Ent.of ⟨rfl, rfl, rfl, trivial⟩ ⟨rfl, trivial⟩) rfl (fun b9 _ => ?_)
 ·intro s2
  unfold m_laws_toIntS_L1
  refine Ws (Ws (Wr ?_))
  refine mv (Iv s2.1) rfl rfl rfl rfl ?_
  refine mv (Cc (xF encInt a)) rfl rfl rfl rfl ?_
  refine Op10 (LT.tlenRO rfl und37) rfl rfl rfl ?_
  refine Op20 (LT.lss rfl) rfl rfl rfl rfl ?_
  refine On ?_
  refine AWR.cond rfl (fun hc10 => ?_) (fun hc10 => ?_)
  ·refine AWR.skip (Ws (AWR.block (Wr ?_)))
   refine mv (Cc (lo 21 s2.2.length)) rfl rfl rfl rfl ?_
   refine mv (Iv s2.1) rfl rfl rfl rfl ?_
   refine mv (Cc (xF encInt a)) rfl rfl rfl rfl ?_
   refine mv (Iv s2.1) rfl rfl rfl rfl ?_
   refine Ob' fun x11 hx11 => ?_
   refine Op20 (LT.tindexRO (enc := encInt) rfl el37 hx11 sz3) rfl rfl rfl rfl ?_
   refine Op10 (LT.loadPx1 rfl ag3) rfl rfl rfl ?_
   refine Ob' fun x12 hx12 => ?_
   refine Op21 (LT.tindexLoc rfl rfl el37 hx12) rfl rfl rfl rfl rfl ?_
   refine Os21 (LT.tstore (k := 0) (v := (.c (iC x11))) (b' := x11) rfl rfl (infS inf3) sz3 (by exact rfl) hx12 (by exact rfl) (by exact Nat.le_of_ble_eq_true rfl) (by exact rfl)) rfl rfl rfl rfl rfl ?_
   refine On (AWR.blk ?_)
   refine en [(0, (Cc (xF encInt a))), (3, (Cc (lo 21 s2.2.length))), (4, (Iv s2.1))] [(21, (pR 3 encInt (s2.2.set s2.1.toNat x11)))] ⟨rfl, rfl, rfl, trivial⟩ ⟨rfl, trivial⟩ ?_
   refine Wr ?_
   refine mv (Iv s2.1) rfl rfl rfl rfl ?_
   refine Op20 (LT.add rfl) rfl ⟨rfl, rfl⟩ rfl rfl ?_
   refine asg (Iv (w64 (s2.1 + 1))) rfl rfl rfl rfl ?_
   refine On ?_
   refine AWR.nil ⟨rfl, Ent.of ⟨rfl, (congrArg (fun l1 => (some (AV.s (.c (lo 21 l1))) : Option AV)) (show s2.2.length = (s2.2.set s2.1.toNat x11).length by simp only [List.length_set])), rfl, trivial⟩ ⟨rfl, trivial⟩⟩
  ·refine AWR.exit_end rfl ⟨rfl, Ent.of ⟨rfl, trivial⟩ ⟨rfl, trivial⟩⟩
 ·refine Ws (Wr ?_)
  refine mv (Cc (lo 21 b9.length)) rfl rfl rfl rfl ?_
  refine asg (Cc (lo 21 b9.length)) rfl rfl rfl rfl ?_
  refine On ?_
  refine en [(2, (Cc (lo 21 b9.length)))] [(21, (pR 3 encInt b9))] ⟨rfl, trivial⟩ ⟨rfl, trivial⟩ ?_
  refine AWR.ent (Ent.mv 21 0 rfl rfl) ?_
  refine en [(2, (Cc (lo 0 b9.length)))] [(0, (pR 3 encInt b9))] ⟨rfl, trivial⟩ ⟨rfl, trivial⟩ ?_
  refine AWR.ret (FPost.mk (.inr rfl) ⟨rfl, trivial⟩ ⟨rfl, trivial⟩ rfl ⟨trivial, trivial⟩ ⟨PermO.prow' perm_encInt, trivial⟩)
theorem w_laws_toTensegrity (a : TTensegrity) : ∀ t, m_laws_toTensegrity a = some t → Fw.Fn Try.prog 61 [(.agg [(iC a.Framework.Graph.Points), (xF encTBar a.Framework.Graph.Bars), (xF encTPlace a.Framework.Places), (xF encInt a.Kinds)])] [] (.s (.agg [(iC t.Framework.Graph.Points), (lo 0 t.Framework.Graph.Bars.length), (lo 1 t.Framework.Places.length), (lo 2 t.Kinds.length)])) [(0, (pR 62 encTBar t.Framework.Graph.Bars)), (1, (pR 94 encTPlace t.Framework.Places)), (2, (pR 3 encInt t.Kinds))] [] [0, 1, 2] := by
 refine Fw.Fn.of (P := Try.prog) (X := [0, 1, 2]) (pn := []) (rs := (fun (t : TTensegrity) => [(.agg [(iC t.Framework.Graph.Points), (lo 0 t.Framework.Graph.Bars.length), (lo 1 t.Framework.Places.length), (lo 2 t.Kinds.length)])])) (dfs := (fun (t : TTensegrity) => [(0, (pR 62 encTBar t.Framework.Graph.Bars)), (1, (pR 94 encTPlace t.Framework.Places)), (2, (pR 3 encInt t.Kinds))])) Try.func61 rfl Try.ntmps61 (Nat.le_of_ble_eq_true rfl) rfl ?_
 intro w0 U0 R0 g0
 unfold m_laws_toTensegrity
 refine Ws (Wr ?_)
 refine Os10 (LT.box (n := 21) (v := (.agg [(iC a.Framework.Graph.Points), (xF encTBar a.Framework.Graph.Bars), (xF encTPlace a.Framework.Places), (xF encInt a.Kinds)])) rfl sz70 (by exact rfl)) rfl rfl rfl ?_
 refine Os00 (LT.alloc (n := 22) (cells := [(iC 0), (sC nilV), (sC nilV), (sC nilV)]) rfl ti75 rfl rfl rfl) rfl rfl ?_
 refine On (Ws (Wr ?_))
 refine Os00 (LT.alloc (n := 23) (cells := [(iC 0), (sC nilV), (sC nilV), (sC nilV)]) rfl ti75 rfl rfl rfl) rfl rfl ?_
 refine On (Ws (Wr ?_))
 refine Op10 (LT.fieldPl rfl fo70_0) rfl rfl rfl ?_
 refine Op11 (LT.bloadN (out := [(iC a.Framework.Graph.Points), (xF encTBar a.Framework.Graph.Bars), (xF encTPlace a.Framework.Places)]) rfl ag68 (infS inf68) sz68 (by exact rfl) (by exact rfl)) rfl rfl rfl rfl ?_
 refine Ob' fun r1 hr1 => ?_
 refine AOR.step (@LT.callF Try.prog _ _ 70 _ _ [(.agg [(iC a.Framework.Graph.Points), (xF encTBar a.Framework.Graph.Bars), (xF encTPlace a.Framework.Places)])] _ _ [] _ _ _ _ ((show Fw.Fn Try.prog 70 [(.agg [(iC a.Framework.Graph.Points), (xF encTBar a.Framework.Graph.Bars), (xF encTPlace a.Framework.Places)])] [] (Ag  [(iC r1.Graph.Points), (lo 25 r1.Graph.Bars.length), (lo 26 r1.Places.length)]) [(25, (pR 62 encTBar r1.Graph.Bars)), (26, (pR 94 encTPlace r1.Places))] [] [25, 26] from Fw.Fn.ren [(0, 25), (1, 26)] (w_laws_toFramework a.Framework r1 hr1) rfl)) rfl cb70 (.cons (.agg (.cons (.same rfl) (.cons (.same rfl) (.cons (.same rfl) .nil)))) .nil) rfl rfl trivial) ⟨rfl, rfl, trivial⟩ trivial rfl rfl ?_
 refine Op10 (LT.fieldPl rfl fo75_0) rfl rfl rfl ?_
 refine Os21 (LT.bstore (v := (.agg [(iC r1.Graph.Points), (lo 25 r1.Graph.Bars.length), (lo 26 r1.Places.length)])) (out := [(iC r1.Graph.Points), (lo 25 r1.Graph.Bars.length), (lo 26 r1.Places.length), (sC nilV)]) rfl rfl (infS inf29) sz29 (by exact rfl) (by exact Nat.le_of_ble_eq_true rfl) (by exact rfl)) rfl rfl rfl rfl rfl ?_
 refine On (Ws ?_)
 refine en [(1, (Cc (.pl 21 0))), (2, (Cc (.pl 22 0))), (3, (Cc (.pl 23 0)))] [(21, (.row 70 [[(iC a.Framework.Graph.Points), (xF encTBar a.Framework.Graph.Bars), (xF encTPlace a.Framework.Places), (xF encInt a.Kinds)]])), (22, (.row 75 [[(iC 0), (sC nilV), (sC nilV), (sC nilV)]])), (23, (.row 75 [[(iC r1.Graph.Points), (lo 25 r1.Graph.Bars.length), (lo 26 r1.Places.length), (sC nilV)]])), (25, (pR 62 encTBar r1.Graph.Bars)), (26, (pR 94 encTPlace r1.Places))] ⟨rfl, rfl, rfl, trivial⟩ ⟨rfl, rfl, rfl, rfl, rfl, trivial⟩ ?_
 refine Wr ?_
 refine Op10 (LT.fieldPl rfl fo70_1) rfl rfl rfl ?_
 refine Op11 (LT.bload1 (c := (xF encInt a.Kinds)) rfl ag37 (by exact rfl)) rfl rfl rfl rfl ?_
 refine Ob' fun r2 hr2 => ?_
 refine AOR.step (@LT.callF Try.prog _ _ 149 _ _ [(.c (xF encInt a.Kinds))] _ _ [] _ _ _ _ ((show Fw.Fn Try.prog 149 [(.c (xF encInt a.Kinds))] [] (Cc (lo 28 r2.length)) [(28, (pR 3 encInt r2))] [] [28] from Fw.Fn.ren [(0, 28)] (w_laws_toIntS a.Kinds r2 hr2) rfl)) rfl cb149 (.cons (.c (.same rfl)) .nil) rfl rfl trivial) ⟨rfl, rfl, trivial⟩ trivial rfl rfl ?_
 refine Op10 (LT.fieldPl rfl fo75_1) rfl rfl rfl ?_
 refine Os21 (LT.bstore (v := (.c (lo 28 r2.length))) (out := [(iC r1.Graph.Points), (lo 25 r1.Graph.Bars.length), (lo 26 r1.Places.length), (lo 28 r2.length)]) rfl rfl (infS inf37) sz37 (by exact rfl) (by exact Nat.le_of_ble_eq_true rfl) (by exact rfl)) rfl rfl rfl rfl rfl ?_
 refine On (Ws (Wr ?_))
 refine Op11 (LT.bloadN (out := [(iC r1.Graph.Points), (lo 25 r1.Graph.Bars.length), (lo 26 r1.Places.length), (lo 28 r2.length)]) rfl ag75 (infS inf75) sz75 (by exact rfl) (by exact rfl)) rfl rfl rfl rfl ?_
 refine Os21 (LT.bstore (v := (.agg [(iC r1.Graph.Points), (lo 25 r1.Graph.Bars.length), (lo 26 r1.Places.length), (lo 28 r2.length)])) (out := [(iC r1.Graph.Points), (lo 25 r1.Graph.Bars.length), (lo 26 r1.Places.length), (lo 28 r2.length)]) rfl rfl (infS inf75) sz75 (by exact rfl) (by exact Nat.le_of_ble_eq_true rfl) (by exact rfl)) rfl rfl rfl rfl rfl ?_
 refine On ?_
 refine en [(2, (Cc (.pl 22 0)))] [(22, (.row 75 [[(iC r1.Graph.Points), (lo 25 r1.Graph.Bars.length), (lo 26 r1.Places.length), (lo 28 r2.length)]])), (25, (pR 62 encTBar r1.Graph.Bars)), (26, (pR 94 encTPlace r1.Places)), (28, (pR 3 encInt r2))] ⟨rfl, trivial⟩ ⟨rfl, rfl, rfl, rfl, trivial⟩ ?_
 refine AWR.ent (Ent.mv 25 0 rfl rfl) ?_
 refine AWR.ent (Ent.mv 26 1 rfl rfl) ?_
 refine AWR.ent (Ent.mv 28 2 rfl rfl) ?_
 refine en [(2, (Cc (.pl 22 0)))] [(0, (pR 62 encTBar r1.Graph.Bars)), (1, (pR 94 encTPlace r1.Places)), (2, (pR 3 encInt r2)), (22, (.row 75 [[(iC r1.Graph.Points), (lo 0 r1.Graph.Bars.length), (lo 1 r1.Places.length), (lo 2 r2.length)]]))] ⟨rfl, trivial⟩ ⟨rfl, rfl, rfl, rfl, trivial⟩ ?_
 refine AWR.ret (FPost.mk (.inr rfl) ⟨⟨_, _, _, rfl, rfl, rfl, ag75, sz75, _, (infS inf75)⟩, trivial⟩ ⟨rfl, rfl, rfl, trivial⟩ rfl ⟨⟨PermP.sc, trivial, trivial, trivial, trivial⟩, trivial⟩ ⟨PermO.prow' perm_encTBar, PermO.prow' perm_encTPlace, PermO.prow' perm_encInt, trivial⟩)
theorem w_spec_IsTensegrity (tV : TTensegrity) : ∀ t, m_spec_IsTensegrity tV = some t → Fw.Fn Try.prog 146 [(.agg [(iC tV.Framework.Graph.Points), (xF encTBar tV.Framework.Graph.Bars), (xF encTPlace tV.Framework.Places), (xF encInt tV.Kinds)])] [] (.s (.c (bC t))) [] [] [] := by
 refine Fw.Fn.of (P := Try.prog) (X := []) (pn := []) (rs := (fun (t : Bool) => [(.c (bC t))])) (dfs := (fun (t : Bool) => [])) Try.func146 rfl Try.ntmps146 (Nat.le_of_ble_eq_true rfl) rfl ?_
 intro w0 U0 R0 g0
 unfold m_spec_IsTensegrity
 refine Ws (Wr ?_)
 refine Os10 (LT.box (n := 21) (v := (.agg [(iC tV.Framework.Graph.Points), (xF encTBar tV.Framework.Graph.Bars), (xF encTPlace tV.Framework.Places), (xF encInt tV.Kinds)])) rfl sz75 (by exact rfl)) rfl rfl rfl ?_
 refine asg (Bv false) rfl ⟨rfl, rfl⟩ rfl rfl ?_
 refine On (Ws (Ws (Wr ?_)))
 refine asg (Iv 0) rfl ⟨rfl, rfl⟩ rfl rfl ?_
 refine On (AWR.block ?_)
 refine AWR.loopR (id := 0) (m_spec_IsTensegrity_L1 tV) (fun s1 => ([(1, (Cc (.pl 21 0))), (3, (Iv s1))], [(21, (.row 75 [[(iC tV.Framework.Graph.Points), (xF encTBar tV.Framework.Graph.Bars), (xF encTPlace tV.Framework.Places), (xF encInt tV.Kinds)]]))])) (fun b10 => ([(1, (Cc (.pl 21 0)))], [(21, (.row 75 [[(iC tV.Framework.Graph.Points), (xF encTBar tV.Framework.Graph.Bars), (xF encTPlace tV.Framework.Places), (xF encInt tV.Kinds)]]))])) (FPost Try.prog Try.f146.results.toList [] [] (fun (t : Bool) => [(.c (bC t))]) (fun (t : Bool) => [])) ?_ (Ent.of ⟨rfl, rfl, trivial⟩ ⟨rfl, trivial⟩) rfl (fun b10 _ => ?_) (by intro r t σ m ht hk; injection ht with ht; subst ht; exact hk)
 ·intro s1
  unfold m_spec_IsTensegrity_L1
  refine Ws (Ws (Wr ?_))
  refine mv (Iv s1) rfl rfl rfl rfl ?_
  refine Op10 (LT.fieldPl rfl fo75_1) rfl rfl rfl ?_
  refine Op11 (LT.bload1 (c := (xF encInt tV.Kinds)) rfl ag37 (by exact rfl)) rfl rfl rfl rfl ?_
  refine Op10 (LT.tlenRO rfl und37) rfl rfl rfl ?_
  refine Op20 (LT.lss rfl) rfl rfl rfl rfl ?_
  refine On ?_
  refine AWR.cond rfl (fun hc11 => ?_) (fun hc11 => ?_)
  ·refine AWR.skip (Ws (AWR.block (Ws (Wr ?_))))
   refine Op10 (LT.fieldPl rfl fo75_1) rfl rfl rfl ?_
   refine Op11 (LT.bload1 (c := (xF encInt tV.Kinds)) rfl ag37 (by exact rfl)) rfl rfl rfl rfl ?_
   refine mv (Iv s1) rfl rfl rfl rfl ?_
   refine Ob' fun x12 hx12 => ?_
   refine Op20 (LT.tindexRO (enc := encInt) rfl el37 hx12 sz3) rfl rfl rfl rfl ?_
   refine Op10 (LT.loadPx1 rfl ag3) rfl rfl rfl ?_
   refine Ob' fun r13 hr13 => ?_
   refine AOR.pure (@LT.callF Try.prog _ _ 110 _ _ [(.c (iC x12)), (.c (iC 0)), (.c (iC 2))] _ _ [] _ _ _ _ (w_spec_l1In x12 0 2 r13 hr13) rfl cb110 (.cons (.c (.same rfl)) (.cons (.c (.same rfl)) (.cons (.c (.same rfl)) .nil))) rfl rfl trivial) ⟨rfl, rfl, ⟨rfl, rfl⟩, ⟨rfl, rfl⟩, trivial⟩ trivial rfl rfl ?_
   refine Op10 (LT.not rfl) rfl rfl rfl ?_
   refine On ?_
   refine AWR.cond rfl (fun hc14 => ?_) (fun hc14 => ?_)
   ·refine Ws ?_
    refine en [] [] trivial trivial ?_
    refine Wr ?_
    refine asg (Bv false) rfl ⟨rfl, rfl⟩ rfl rfl ?_
    refine On ?_
    refine AWR.ret ⟨rfl, FPost.mk (.inr rfl) ⟨rfl, trivial⟩ trivial rfl ⟨PermP.sc, trivial⟩ trivial⟩
   ·refine AWR.skip (AWR.blk ?_)
    refine en [(1, (Cc (.pl 21 0))), (3, (Iv s1))] [(21, (.row 75 [[(iC tV.Framework.Graph.Points), (xF encTBar tV.Framework.Graph.Bars), (xF encTPlace tV.Framework.Places), (xF encInt tV.Kinds)]]))] ⟨rfl, rfl, trivial⟩ ⟨rfl, trivial⟩ ?_
    refine Wr ?_
    refine mv (Iv s1) rfl rfl rfl rfl ?_
    refine Op20 (LT.add rfl) rfl ⟨rfl, rfl⟩ rfl rfl ?_
    refine asg (Iv (w64 (s1 + 1))) rfl rfl rfl rfl ?_
    refine On ?_
    refine AWR.nil ⟨rfl, Ent.of ⟨rfl, rfl, trivial⟩ ⟨rfl, trivial⟩⟩
  ·refine AWR.exit_end rfl ⟨rfl, Ent.of ⟨rfl, trivial⟩ ⟨rfl, trivial⟩⟩
 ·refine Ws ?_
  refine AWR.joinK (fun j17 => ([(2, (Bv j17))], [])) ?_ (fun j17 _ => ?_)
  ·refine Wr ?_
   refine Op10 (LT.fieldPl rfl fo75_0) rfl rfl rfl ?_
   refine Op11 (LT.bloadN (out := [(iC tV.Framework.Graph.Points), (xF encTBar tV.Framework.Graph.Bars), (xF encTPlace tV.Framework.Places)]) rfl ag29 (infS inf29) sz29 (by exact rfl) (by exact rfl)) rfl rfl rfl rfl ?_
   refine Ob' fun r18 hr18 => ?_
   refine AOR.pure (@LT.callF Try.prog _ _ 15 _ _ [(.agg [(iC tV.Framework.Graph.Points), (xF encTBar tV.Framework.Graph.Bars), (xF encTPlace tV.Framework.Places)])] _ _ [] _ _ _ _ (w_spec_IsFramework tV.Framework r18 hr18) rfl cb15 (.cons (.agg (.cons (.same rfl) (.cons (.same rfl) (.cons (.same rfl) .nil)))) .nil) rfl rfl trivial) ⟨rfl, rfl, trivial⟩ trivial rfl rfl ?_
   refine mv (Bv r18) rfl rfl rfl rfl ?_
   refine AOR.split (fun hb19 => ?_) (fun hb19 => ?_)
   ·refine Op10 (LT.fieldPl rfl fo75_1) rfl ⟨_, rfl, .inl ⟨_, rfl, (by rw [hb19]; rfl)⟩⟩ rfl ?_
    refine Op11 (LT.bload1 (c := (xF encInt tV.Kinds)) rfl ag37 (by exact rfl)) rfl rfl ⟨_, rfl, .inl ⟨_, rfl, (by rw [hb19]; rfl)⟩⟩ rfl ?_
    refine Op10 (LT.tlenRO rfl und37) rfl ⟨_, rfl, .inl ⟨_, rfl, (by rw [hb19]; rfl)⟩⟩ rfl ?_
    refine Op10 (LT.fieldPl rfl fo75_0) rfl ⟨_, rfl, .inl ⟨_, rfl, (by rw [hb19]; rfl)⟩⟩ rfl ?_
    refine Op10 (LT.fieldPl rfl fo29_0) rfl ⟨_, rfl, .inl ⟨_, rfl, (by rw [hb19]; rfl)⟩⟩ rfl ?_
    refine Op10 (LT.fieldPl rfl fo26_1) rfl ⟨_, rfl, .inl ⟨_, rfl, (by rw [hb19]; rfl)⟩⟩ rfl ?_
    refine Op11 (LT.bload1 (c := (xF encTBar tV.Framework.Graph.Bars)) rfl ag24 (by exact rfl)) rfl rfl ⟨_, rfl, .inl ⟨_, rfl, (by rw [hb19]; rfl)⟩⟩ rfl ?_
    refine Op10 (LT.tlenRO rfl und24) rfl ⟨_, rfl, .inl ⟨_, rfl, (by rw [hb19]; rfl)⟩⟩ rfl ?_
    refine Op20 (LT.eql rfl) rfl rfl ⟨_, rfl, .inl ⟨_, rfl, (by rw [hb19]; rfl)⟩⟩ rfl ?_
    refine Op20 (LT.pickT (v := (Bv ((tV.Kinds.length : Int) == (tV.Framework.Graph.Bars.length : Int)))) rfl hb19) rfl rfl rfl rfl ?_
    refine asg (Bv ((tV.Kinds.length : Int) == (tV.Framework.Graph.Bars.length : Int))) rfl rfl rfl rfl ?_
    refine On ?_
    refine AWR.nil ⟨rfl, Ent.of ⟨rfl, trivial⟩ trivial⟩
   ·refine Ok rfl rfl rfl (by rw [hb19]; rfl) rfl ?_
    refine Ok rfl rfl rfl (by rw [hb19]; rfl) rfl ?_
    refine Ok rfl rfl rfl (by rw [hb19]; rfl) rfl ?_
    refine Ok rfl rfl rfl (by rw [hb19]; rfl) rfl ?_
    refine Ok rfl rfl rfl (by rw [hb19]; rfl) rfl ?_
    refine Ok rfl rfl rfl (by rw [hb19]; rfl) rfl ?_
    refine Ok rfl rfl rfl (by rw [hb19]; rfl) rfl ?_
    refine Ok rfl rfl rfl (by rw [hb19]; rfl) rfl ?_
    refine Ok rfl rfl rfl (by rw [hb19]; rfl) rfl ?_
    refine Op20 (LT.pickF (v := (Bv false)) rfl hb19) rfl ⟨rfl, rfl⟩ rfl rfl ?_
    refine asg (Bv false) rfl rfl rfl rfl ?_
    refine On ?_
    refine AWR.nil ⟨rfl, Ent.of ⟨rfl, trivial⟩ trivial⟩
  ·refine AWR.ret (FPost.mk (.inr rfl) ⟨rfl, trivial⟩ trivial rfl ⟨PermP.sc, trivial⟩ trivial)
theorem w_impl_IsTensegrity (tV : TTensegrity) : ∀ t, m_impl_IsTensegrity tV = some t → Fw.Fn Try.prog 150 [(.agg [(iC tV.Framework.Graph.Points), (xF encTBar tV.Framework.Graph.Bars), (xF encTPlace tV.Framework.Places), (xF encInt tV.Kinds)])] [] (.s (.c (bC t))) [] [] [] := by
 refine Fw.Fn.of (P := Try.prog) (X := []) (pn := []) (rs := (fun (t : Bool) => [(.c (bC t))])) (dfs := (fun (t : Bool) => [])) Try.func150 rfl Try.ntmps150 (Nat.le_of_ble_eq_true rfl) rfl ?_
 intro w0 U0 R0 g0
 unfold m_impl_IsTensegrity
 refine Ws (Wr ?_)
 refine Os10 (LT.box (n := 21) (v := (.agg [(iC tV.Framework.Graph.Points), (xF encTBar tV.Framework.Graph.Bars), (xF encTPlace tV.Framework.Places), (xF encInt tV.Kinds)])) rfl sz75 (by exact rfl)) rfl rfl rfl ?_
 refine asg (Bv false) rfl ⟨rfl, rfl⟩ rfl rfl ?_
 refine On (Ws (Ws (Wr ?_)))
 refine Op10 (LT.fieldPl rfl fo75_1) rfl rfl rfl ?_
 refine Op11 (LT.bload1 (c := (xF encInt tV.Kinds)) rfl ag37 (by exact rfl)) rfl rfl rfl rfl ?_
 refine Op10 (LT.tlenRO rfl und37) rfl rfl rfl ?_
 refine mv (Iv 0) rfl ⟨rfl, rfl⟩ rfl rfl ?_
 refine On (AWR.block ?_)
 refine AWR.loopR (id := 0) (m_impl_IsTensegrity_L1 tV) (fun s1 => ([(1, (Cc (.pl 21 0))), (6, (Cc (xF encInt tV.Kinds))), (7, (Iv (tV.Kinds.length : Int))), (8, (Iv s1))], [(21, (.row 75 [[(iC tV.Framework.Graph.Points), (xF encTBar tV.Framework.Graph.Bars), (xF encTPlace tV.Framework.Places), (xF encInt tV.Kinds)]]))])) (fun b10 => ([(1, (Cc (.pl 21 0)))], [(21, (.row 75 [[(iC tV.Framework.Graph.Points), (xF encTBar tV.Framework.Graph.Bars), (xF encTPlace tV.Framework.Places), (xF encInt tV.Kinds)]]))])) (FPost Try.prog Try.f150.results.toList [] [] (fun (t : Bool) => [(.c (bC t))]) (fun (t : Bool) => [])) ?_ (Ent.of ⟨rfl, rfl, rfl, rfl, trivial⟩ ⟨rfl, trivial⟩) rfl (fun b10 _ => ?_) (by intro r t σ m ht hk; injection ht with ht; subst ht; exact hk)
 ·intro s1
  unfold m_impl_IsTensegrity_L1
  refine Ws (Wr ?_)
  refine Op20 (LT.lss rfl) rfl rfl rfl rfl ?_
  refine On (Ws ?_)
  refine AWR.cond rfl (fun hc11 => ?_) (fun hc11 => ?_)
  ·refine AWR.skip (Ws (AWR.block (Ws (Wr ?_))))
   refine Ob' fun x12 hx12 => ?_
   refine Op20 (LT.tindexRO (enc := encInt) rfl el37 hx12 sz3) rfl rfl rfl rfl ?_
   refine Op10 (LT.loadPx1 rfl ag3) rfl rfl rfl ?_
   refine asg (Iv x12) rfl rfl rfl rfl ?_
   refine On (Ws (Wr ?_))
   refine mv (Iv x12) rfl rfl rfl rfl ?_
   refine Ob' fun r13 hr13 => ?_
   refine AOR.pure (@LT.callF Try.prog _ _ 128 _ _ [(.c (iC x12)), (.c (iC 0)), (.c (iC 2))] _ _ [] _ _ _ _ (w_impl_within x12 0 2 r13 hr13) rfl cb128 (.cons (.c (.same rfl)) (.cons (.c (.same rfl)) (.cons (.c (.same rfl)) .nil))) rfl rfl trivial) ⟨rfl, rfl, ⟨rfl, rfl⟩, ⟨rfl, rfl⟩, trivial⟩ trivial rfl rfl ?_
   refine Op10 (LT.not rfl) rfl rfl rfl ?_
   refine On ?_
   refine AWR.cond rfl (fun hc14 => ?_) (fun hc14 => ?_)
   ·refine Ws (Wr ?_)
    refine asg (Bv false) rfl ⟨rfl, rfl⟩ rfl rfl ?_
    refine On ?_
    refine AWR.ret ⟨rfl, FPost.mk (.inr rfl) ⟨rfl, trivial⟩ trivial rfl ⟨PermP.sc, trivial⟩ trivial⟩
   ·refine AWR.skip (AWR.blk (Wr ?_))
    refine Op20 (LT.add rfl) rfl ⟨rfl, rfl⟩ rfl rfl ?_
    refine mv (Iv (w64 (s1 + 1))) rfl rfl rfl rfl ?_
    refine On ?_
    refine AWR.nil ⟨rfl, Ent.of ⟨rfl, rfl, rfl, rfl, trivial⟩ ⟨rfl, trivial⟩⟩
  ·refine AWR.exit_end rfl ⟨rfl, Ent.of ⟨rfl, trivial⟩ ⟨rfl, trivial⟩⟩
 ·refine Ws ?_
  refine AWR.joinK (fun j17 => ([(2, (Bv j17))], [])) ?_ (fun j17 _ => ?_)
  ·refine Wr ?_
   refine Op10 (LT.fieldPl rfl fo75_0) rfl rfl rfl ?_
   refine Op11 (LT.bloadN (out := [(iC tV.Framework.Graph.Points), (xF encTBar tV.Framework.Graph.Bars), (xF encTPlace tV.Framework.Places)]) rfl ag29 (infS inf29) sz29 (by exact rfl) (by exact rfl)) rfl rfl rfl rfl ?_
   refine Ob' fun r18 hr18 => ?_
   refine AOR.pure (@LT.callF Try.prog _ _ 80 _ _ [(.agg [(iC tV.Framework.Graph.Points), (xF encTBar tV.Framework.Graph.Bars), (xF encTPlace tV.Framework.Places)])] _ _ [] _ _ _ _ (w_impl_IsFramework tV.Framework r18 hr18) rfl cb80 (.cons (.agg (.cons (.same rfl) (.cons (.same rfl) (.cons (.same rfl) .nil)))) .nil) rfl rfl trivial) ⟨rfl, rfl, trivial⟩ trivial rfl rfl ?_
   refine mv (Bv r18) rfl rfl rfl rfl ?_
   refine AOR.split (fun hb19 => ?_) (fun hb19 => ?_)
   ·refine Op10 (LT.fieldPl rfl fo75_1) rfl ⟨_, rfl, .inl ⟨_, rfl, (by rw [hb19]; rfl)⟩⟩ rfl ?_
    refine Op11 (LT.bload1 (c := (xF encInt tV.Kinds)) rfl ag37 (by exact rfl)) rfl rfl ⟨_, rfl, .inl ⟨_, rfl, (by rw [hb19]; rfl)⟩⟩ rfl ?_
    refine Op10 (LT.tlenRO rfl und37) rfl ⟨_, rfl, .inl ⟨_, rfl, (by rw [hb19]; rfl)⟩⟩ rfl ?_
    refine Op10 (LT.fieldPl rfl fo75_0) rfl ⟨_, rfl, .inl ⟨_, rfl, (by rw [hb19]; rfl)⟩⟩ rfl ?_
    refine Op10 (LT.fieldPl rfl fo29_0) rfl ⟨_, rfl, .inl ⟨_, rfl, (by rw [hb19]; rfl)⟩⟩ rfl ?_
    refine Op10 (LT.fieldPl rfl fo26_1) rfl ⟨_, rfl, .inl ⟨_, rfl, (by rw [hb19]; rfl)⟩⟩ rfl ?_
    refine Op11 (LT.bload1 (c := (xF encTBar tV.Framework.Graph.Bars)) rfl ag24 (by exact rfl)) rfl rfl ⟨_, rfl, .inl ⟨_, rfl, (by rw [hb19]; rfl)⟩⟩ rfl ?_
    refine Op10 (LT.tlenRO rfl und24) rfl ⟨_, rfl, .inl ⟨_, rfl, (by rw [hb19]; rfl)⟩⟩ rfl ?_
    refine Op20 (LT.eql rfl) rfl rfl ⟨_, rfl, .inl ⟨_, rfl, (by rw [hb19]; rfl)⟩⟩ rfl ?_
    refine Op20 (LT.pickT (v := (Bv ((tV.Kinds.length : Int) == (tV.Framework.Graph.Bars.length : Int)))) rfl hb19) rfl rfl rfl rfl ?_
    refine asg (Bv ((tV.Kinds.length : Int) == (tV.Framework.Graph.Bars.length : Int))) rfl rfl rfl rfl ?_
    refine On ?_
    refine AWR.nil ⟨rfl, Ent.of ⟨rfl, trivial⟩ trivial⟩
   ·refine Ok rfl rfl rfl (by rw [hb19]; rfl) rfl ?_
    refine Ok rfl rfl rfl (by rw [hb19]; rfl) rfl ?_
    refine Ok rfl rfl rfl (by rw [hb19]; rfl) rfl ?_
    refine Ok rfl rfl rfl (by rw [hb19]; rfl) rfl ?_
    refine Ok rfl rfl rfl (by rw [hb19]; rfl) rfl ?_
    refine Ok rfl rfl rfl (by rw [hb19]; rfl) rfl ?_
    refine Ok rfl rfl rfl (by rw [hb19]; rfl) rfl ?_
    refine Ok rfl rfl rfl (by rw [hb19]; rfl) rfl ?_
    refine Ok rfl rfl rfl (by rw [hb19]; rfl) rfl ?_
    refine Op20 (LT.pickF (v := (Bv false)) rfl hb19) rfl ⟨rfl, rfl⟩ rfl rfl ?_
    refine asg (Bv false) rfl rfl rfl rfl ?_
    refine On ?_
    refine AWR.nil ⟨rfl, Ent.of ⟨rfl, trivial⟩ trivial⟩
  ·refine AWR.ret (FPost.mk (.inr rfl) ⟨rfl, trivial⟩ trivial rfl ⟨PermP.sc, trivial⟩ trivial)
theorem w_laws_eqTensegrity (a : TTensegrity) (b : TTensegrity) : ∀ t, m_laws_eqTensegrity a b = some t → Fw.Fn Try.prog 64 [(.agg [(iC a.Framework.Graph.Points), (xF encTBar a.Framework.Graph.Bars), (xF encTPlace a.Framework.Places), (xF encInt a.Kinds)]), (.agg [(iC b.Framework.Graph.Points), (xF encTBar b.Framework.Graph.Bars), (xF encTPlace b.Framework.Places), (xF encInt b.Kinds)])] [] (.s (.c (bC t))) [] [] [] := by
 refine Fw.Fn.of (P := Try.prog) (X := []) (pn := []) (rs := (fun (t : Bool) => [(.c (bC t))])) (dfs := (fun (t : Bool) => [])) Try.func64 rfl Try.ntmps64 (Nat.le_of_ble_eq_true rfl) rfl ?_
 intro w0 U0 R0 g0
 unfold m_laws_eqTensegrity
 refine Ws (Wr ?_)
 refine Os10 (LT.box (n := 21) (v := (.agg [(iC a.Framework.Graph.Points), (xF encTBar a.Framework.Graph.Bars), (xF encTPlace a.Framework.Places), (xF encInt a.Kinds)])) rfl sz75 (by exact rfl)) rfl rfl rfl ?_
 refine Os10 (LT.box (n := 22) (v := (.agg [(iC b.Framework.Graph.Points), (xF encTBar b.Framework.Graph.Bars), (xF encTPlace b.Framework.Places), (xF encInt b.Kinds)])) rfl sz75 (by exact rfl)) rfl rfl rfl ?_
 refine asg (Bv false) rfl ⟨rfl, rfl⟩ rfl rfl ?_
 refine On (Ws (Ws (Wr ?_)))
 refine Op10 (LT.fieldPl rfl fo75_0) rfl rfl rfl ?_
 refine Op11 (LT.bloadN (out := [(iC a.Framework.Graph.Points), (xF encTBar a.Framework.Graph.Bars), (xF encTPlace a.Framework.Places)]) rfl ag29 (infS inf29) sz29 (by exact rfl) (by exact rfl)) rfl rfl rfl rfl ?_
 refine Op10 (LT.fieldPl rfl fo75_0) rfl rfl rfl ?_
 refine Op11 (LT.bloadN (out := [(iC b.Framework.Graph.Points), (xF encTBar b.Framework.Graph.Bars), (xF encTPlace b.Framework.Places)]) rfl ag29 (infS inf29) sz29 (by exact rfl) (by exact rfl)) rfl rfl rfl rfl ?_
 refine Ob' fun r1 hr1 => ?_
 refine AOR.pure (@LT.callF Try.prog _ _ 37 _ _ [(.agg [(iC a.Framework.Graph.Points), (xF encTBar a.Framework.Graph.Bars), (xF encTPlace a.Framework.Places)]), (.agg [(iC b.Framework.Graph.Points), (xF encTBar b.Framework.Graph.Bars), (xF encTPlace b.Framework.Places)])] _ _ [] _ _ _ _ (w_laws_eqFramework a.Framework b.Framework r1 hr1) rfl cb37 (.cons (.agg (.cons (.same rfl) (.cons (.same rfl) (.cons (.same rfl) .nil)))) (.cons (.agg (.cons (.same rfl) (.cons (.same rfl) (.cons (.same rfl) .nil)))) .nil)) rfl rfl trivial) ⟨rfl, rfl, rfl, trivial⟩ trivial rfl rfl ?_
 refine Op10 (LT.not rfl) rfl rfl rfl ?_
 refine On ?_
 refine AWR.cond rfl (fun hc2 => ?_) (fun hc2 => ?_)
 ·refine Ws ?_
  refine en [] [] trivial trivial ?_
  refine Wr ?_
  refine asg (Bv false) rfl ⟨rfl, rfl⟩ rfl rfl ?_
  refine On ?_
  refine AWR.ret (FPost.mk (.inr rfl) ⟨rfl, trivial⟩ trivial rfl ⟨PermP.sc, trivial⟩ trivial)
 ·refine AWR.skip (Ws (Ws ?_))
  refine en [(2, (Cc (.pl 21 0))), (3, (Cc (.pl 22 0)))] [(21, (.row 75 [[(iC a.Framework.Graph.Points), (xF encTBar a.Framework.Graph.Bars), (xF encTPlace a.Framework.Places), (xF encInt a.Kinds)]])), (22, (.row 75 [[(iC b.Framework.Graph.Points), (xF encTBar b.Framework.Graph.Bars), (xF encTPlace b.Framework.Places), (xF encInt b.Kinds)]]))] ⟨rfl, rfl, trivial⟩ ⟨rfl, rfl, trivial⟩ ?_
  refine Wr ?_
  refine Op10 (LT.fieldPl rfl fo75_1) rfl rfl rfl ?_
  refine Op11 (LT.bload1 (c := (xF encInt a.Kinds)) rfl ag37 (by exact rfl)) rfl rfl rfl rfl ?_
  refine Op10 (LT.fieldPl rfl fo75_1) rfl rfl rfl ?_
  refine Op11 (LT.bload1 (c := (xF encInt b.Kinds)) rfl ag37 (by exact rfl)) rfl rfl rfl rfl ?_
  refine Ob' fun r3 hr3 => ?_
  refine AOR.pure (@LT.callF Try.prog _ _ 63 _ _ [(.c (xF encInt a.Kinds)), (.c (xF encInt b.Kinds))] _ _ [] _ _ _ _ (w_laws_eqIntS a.Kinds b.Kinds r3 hr3) rfl cb63 (.cons (.c (.same rfl)) (.cons (.c (.same rfl)) .nil)) rfl rfl trivial) ⟨rfl, rfl, rfl, trivial⟩ trivial rfl rfl ?_
  refine Op10 (LT.not rfl) rfl rfl rfl ?_
  refine On ?_
  refine AWR.cond rfl (fun hc4 => ?_) (fun hc4 => ?_)
  ·refine Ws (Wr ?_)
   refine asg (Bv false) rfl ⟨rfl, rfl⟩ rfl rfl ?_
   refine On ?_
   refine AWR.ret (FPost.mk (.inr rfl) ⟨rfl, trivial⟩ trivial rfl ⟨PermP.sc, trivial⟩ trivial)
  ·refine AWR.skip (Ws (Wr ?_))
   refine asg (Bv true) rfl ⟨rfl, rfl⟩ rfl rfl ?_
   refine On ?_
   refine AWR.ret (FPost.mk (.inr rfl) ⟨rfl, trivial⟩ trivial rfl ⟨PermP.sc, trivial⟩ trivial)
theorem w_laws_markTensegrity (a : TTensegrity) (k : Int) : ∀ t, m_laws_markTensegrity a k = some t → Fw.Fn Try.prog 65 [(.agg [(iC a.Framework.Graph.Points), (lo 0 a.Framework.Graph.Bars.length), (lo 1 a.Framework.Places.length), (lo 2 a.Kinds.length)]), (.c (iC k))] [(0, (pR 62 encTBar a.Framework.Graph.Bars)), (1, (pR 94 encTPlace a.Framework.Places)), (2, (pR 3 encInt a.Kinds))] (.s (.c (iC t.1))) [(0, (pR 62 encTBar t.2.1)), (1, (pR 94 encTPlace t.2.2.1)), (2, (pR 3 encInt t.2.2.2))] [0, 1, 2] [] := by
 refine Fw.Fn.of (P := Try.prog) (X := []) (pn := [0, 1, 2]) (rs := (fun (t : (Int × (List TBar) × (List TPlace) × (List Int))) => [(.c (iC t.1))])) (dfs := (fun (t : (Int × (List TBar) × (List TPlace) × (List Int))) => [(0, (pR 62 encTBar t.2.1)), (1, (pR 94 encTPlace t.2.2.1)), (2, (pR 3 encInt t.2.2.2))])) Try.func65 rfl Try.ntmps65 (Nat.le_of_ble_eq_true rfl) rfl ?_
 intro w0 U0 R0 g0
 unfold m_laws_markTensegrity
 refine Ws (Wr ?_)
 refine Os10 (LT.box (n := 21) (v := (.agg [(iC a.Framework.Graph.Points), (lo 0 a.Framework.Graph.Bars.length), (lo 1 a.Framework.Places.length), (lo 2 a.Kinds.length)])) rfl sz75 (by exact rfl)) rfl rfl rfl ?_
 refine asg (Iv 0) rfl ⟨rfl, rfl⟩ rfl rfl ?_
 refine On (Ws (Wr ?_))
 refine Op10 (LT.fieldPl rfl fo75_0) rfl rfl rfl ?_
 refine Op11 (LT.bloadN (out := [(iC a.Framework.Graph.Points), (lo 0 a.Framework.Graph.Bars.length), (lo 1 a.Framework.Places.length)]) rfl ag29 (infS inf29) sz29 (by exact rfl) (by exact rfl)) rfl rfl rfl rfl ?_
 refine mv (Iv k) rfl rfl rfl rfl ?_
 refine Ob' fun r1 hr1 => ?_
 refine AOR.step (@LT.callF Try.prog _ _ 40 _ _ [(.agg [(iC a.Framework.Graph.Points), (lo 0 a.Framework.Graph.Bars.length), (lo 1 a.Framework.Places.length)]), (.c (iC k))] _ _ [] _ _ _ _ ((show Fw.Fn Try.prog 40 [(.agg [(iC a.Framework.Graph.Points), (lo 0 a.Framework.Graph.Bars.length), (lo 1 a.Framework.Places.length)]), (.c (iC k))] [(0, (pR 62 encTBar a.Framework.Graph.Bars)), (1, (pR 94 encTPlace a.Framework.Places))] (Iv r1.1) [(0, (pR 62 encTBar r1.2.1)), (1, (pR 94 encTPlace r1.2.2))] [0, 1] [] from Fw.Fn.ren [(0, 0), (1, 1)] (w_laws_markFramework a.Framework k r1 hr1) rfl)) rfl cb40 (.cons (.agg (.cons (.same rfl) (.cons (.same rfl) (.cons (.same rfl) .nil)))) (.cons (.c (.same rfl)) .nil)) rfl rfl ⟨rfl, rfl, trivial⟩) ⟨rfl, rfl, rfl, trivial⟩ ⟨rfl, rfl, trivial⟩ rfl rfl ?_
 refine asg (Iv r1.1) rfl rfl rfl rfl ?_
 refine On (Ws ?_)
 refine en [(1, (Iv r1.1)), (2, (Cc (.pl 21 0)))] [(0, (pR 62 encTBar r1.2.1)), (1, (pR 94 encTPlace r1.2.2)), (2, (pR 3 encInt a.Kinds)), (21, (.row 75 [[(iC a.Framework.Graph.Points), (lo 0 a.Framework.Graph.Bars.length), (lo 1 a.Framework.Places.length), (lo 2 a.Kinds.length)]]))] ⟨rfl, rfl, trivial⟩ ⟨rfl, rfl, rfl, rfl, trivial⟩ ?_
 refine Wr ?_
 refine Op10 (LT.fieldPl rfl fo75_1) rfl rfl rfl ?_
 refine Op11 (LT.bload1 (c := (lo 2 a.Kinds.length)) rfl ag37 (by exact rfl)) rfl rfl rfl rfl ?_
 refine mv (Iv r1.1) rfl rfl rfl rfl ?_
 refine Ob' fun r2 hr2 => ?_
 refine AOR.step (@LT.callF Try.prog _ _ 66 _ _ [(.c (lo 2 a.Kinds.length)), (.c (iC r1.1))] _ _ [] _ _ _ _ ((show Fw.Fn Try.prog 66 [(.c (lo 2 a.Kinds.length)), (.c (iC r1.1))] [(2, (pR 3 encInt a.Kinds))] (Iv r2.1) [(2, (pR 3 encInt r2.2))] [2] [] from Fw.Fn.ren [(0, 2)] (w_laws_markIntS a.Kinds r1.1 r2 hr2) rfl)) rfl cb66 (.cons (.c (.same rfl)) (.cons (.c (.same rfl)) .nil)) rfl rfl ⟨rfl, trivial⟩) ⟨rfl, rfl, rfl, trivial⟩ ⟨rfl, trivial⟩ rfl rfl ?_
 refine asg (Iv r2.1) rfl rfl rfl rfl ?_
 refine On (Ws (Wr ?_))
 refine mv (Iv r2.1) rfl rfl rfl rfl ?_
 refine asg (Iv r2.1) rfl rfl rfl rfl ?_
 refine On ?_
 refine AWR.ret (FPost.mk (.inr rfl) ⟨rfl, trivial⟩ ⟨rfl, rfl, rfl, trivial⟩ rfl ⟨PermP.sc, trivial⟩ ⟨PermO.prow' perm_encTBar, PermO.prow' perm_encTPlace, PermO.prow' perm_encInt, trivial⟩)
end Go.Proofs.Ytghofbijdnenoaa
end
