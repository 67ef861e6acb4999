/- Parts of a proof that a law of the program holds: what the program computes, and why that is right. -/
import Derived.Test.YteognanhfpbghaaRows
import Derived.ProofKit
import Derived.OpenShut
import Derived.JoinedCond
import Derived.Carry
import Derived.Deep.Slices
import Derived.ChangeSame
import Derived.Test.YteognanhfpbghaaZEIsPinnedRigid3
section
set_option linter.unusedVariables false
set_option linter.unusedSimpArgs false
set_option linter.unnecessarySimpa false
set_option maxRecDepth 100000
set_option maxHeartbeats 8000000
open Go Go.Fw
namespace Go.Proofs.Yteognanhfpbghaa
theorem w_impl_IsPinned (p : TPinned) : ∀ t, m_impl_IsPinned p = some t → Fw.Fn Try.prog 99 [(.agg [(iC p.Graph.Points), (xF encTBar p.Graph.Bars), (xF encInt p.Ground)])] [] (.s (.c (bC t))) [] [] [] := by
 refine Fw.Fn.of (P := Try.prog) (X := []) (pn := []) (rs := (fun (t : Bool) => [(.c (bC t))])) (dfs := (fun (t : Bool) => [])) Try.func99 rfl Try.ntmps99 (Nat.le_of_ble_eq_true rfl) rfl ?_
 intro w0 U0 R0 g0
 unfold m_impl_IsPinned
 refine Ws (Wr ?_)
 refine Os10 (LT.box (n := 21) (v := (.agg [(iC p.Graph.Points), (xF encTBar p.Graph.Bars), (xF encInt p.Ground)])) rfl sz51 (by exact rfl)) rfl rfl rfl (asg (Bv false) rfl ⟨rfl, rfl⟩ rfl rfl (On (Ws (Wr ?_))))
 refine Op10 (LT.fieldPl rfl fo51_0) rfl rfl rfl (Op11 (LT.bloadN (out := [(iC p.Graph.Points), (xF encTBar p.Graph.Bars)]) rfl ag32 (infS inf32) sz32 (by exact rfl) (by exact rfl)) rfl rfl rfl rfl (Os00 (LT.alloc (n := 22) (cells := [(iC 0), (sC nilV)]) rfl ti32 rfl rfl rfl) rfl rfl (Os21 (LT.bstore (v := (.agg [(iC p.Graph.Points), (xF encTBar p.Graph.Bars)])) (out := [(iC p.Graph.Points), (xF encTBar p.Graph.Bars)]) rfl rfl (infS inf32) sz32 (by exact rfl) (by exact Nat.le_of_ble_eq_true rfl) (by exact rfl)) rfl rfl rfl rfl rfl (On (Ws (Ws ?_))))))
 refine AWR.joinK (fun j7 => ([(1, (Cc (.pl 21 0))), (3, (Cc (.pl 22 0))), (40, (Bv j7))], [(21, (.row 51 [[(iC p.Graph.Points), (xF encTBar p.Graph.Bars), (xF encInt p.Ground)]])), (22, (.row 32 [[(iC p.Graph.Points), (xF encTBar p.Graph.Bars)]]))])) ?_ (fun j7 _ => ?_)
 ·refine en [(1, (Cc (.pl 21 0))), (3, (Cc (.pl 22 0)))] [(21, (.row 51 [[(iC p.Graph.Points), (xF encTBar p.Graph.Bars), (xF encInt p.Ground)]])), (22, (.row 32 [[(iC p.Graph.Points), (xF encTBar p.Graph.Bars)]]))] ⟨rfl, rfl, trivial⟩ ⟨rfl, rfl, trivial⟩ (Wr (Op11 (LT.bloadN (out := [(iC p.Graph.Points), (xF encTBar p.Graph.Bars)]) rfl ag32 (infS inf32) sz32 (by exact rfl) (by exact rfl)) rfl rfl rfl rfl (Ob' fun r8 hr8 => (AOR.pure (@LT.callF Try.prog _ _ 131 _ _ [(.agg [(iC p.Graph.Points), (xF encTBar p.Graph.Bars)])] _ _ [] _ _ _ _ (w_impl_IsGraph p.Graph r8 hr8) rfl cb131 (.cons (.agg (.cons (.same rfl) (.cons (.same rfl) .nil))) .nil) rfl rfl trivial) ⟨rfl, rfl, trivial⟩ trivial rfl rfl (Op10 (LT.not rfl) rfl rfl rfl (mv (Bv (!r8)) rfl rfl rfl rfl (AOR.split (fun hb9 => ?_) (fun hb9 => ?_))))))))
  ·refine Ok rfl rfl rfl (by rw [hb9]; rfl) rfl (Ok rfl rfl rfl (by rw [hb9]; rfl) rfl (Op20 (LT.pickT (v := (Bv true)) rfl hb9) rfl ⟨rfl, rfl⟩ rfl rfl (mv (Bv true) rfl rfl rfl rfl (Ok rfl rfl rfl rfl rfl (Ok rfl rfl rfl rfl rfl (Ok rfl rfl rfl rfl rfl (Ok rfl rfl rfl rfl rfl (Op20 (LT.pickT (v := (Bv true)) rfl rfl) rfl ⟨rfl, rfl⟩ rfl rfl (mv (Bv true) rfl rfl rfl rfl (Ok rfl rfl rfl rfl rfl (Ok rfl rfl rfl rfl rfl ?_)))))))))))
   refine Ok rfl rfl rfl rfl rfl (Ok rfl rfl rfl rfl rfl (Op20 (LT.pickT (v := (Bv true)) rfl rfl) rfl ⟨rfl, rfl⟩ rfl rfl (mv (Bv true) rfl rfl rfl rfl (Ok rfl rfl rfl rfl rfl (Ok rfl rfl rfl rfl rfl (Ok rfl rfl rfl rfl rfl (Ok rfl rfl rfl rfl rfl (Ok rfl rfl rfl rfl rfl (Ok rfl rfl rfl rfl rfl (Ok rfl rfl rfl rfl rfl (Ok rfl rfl rfl rfl rfl ?_)))))))))))
   refine Ok rfl rfl rfl rfl rfl (Ok rfl rfl rfl rfl rfl (Op20 (LT.pickT (v := (Bv true)) rfl rfl) rfl ⟨rfl, rfl⟩ rfl rfl (On (AWR.nil ⟨rfl, Ent.of ⟨rfl, rfl, rfl, trivial⟩ ⟨rfl, rfl, trivial⟩⟩))))
  ·refine Op11 (LT.bloadN (out := [(iC p.Graph.Points), (xF encTBar p.Graph.Bars)]) rfl ag32 (infS inf32) sz32 (by exact rfl) (by exact rfl)) rfl rfl ⟨_, rfl, .inl ⟨_, rfl, (by rw [hb9]; rfl)⟩⟩ rfl (Ob' fun r10 hr10 => (AOR.pure (@LT.callF Try.prog _ _ 132 _ _ [(.agg [(iC p.Graph.Points), (xF encTBar p.Graph.Bars)])] _ _ [] _ _ _ _ (w_impl_hasDoubles p.Graph r10 hr10) rfl cb132 (.cons (.agg (.cons (.same rfl) (.cons (.same rfl) .nil))) .nil) rfl rfl trivial) ⟨rfl, rfl, trivial⟩ trivial ⟨_, rfl, .inl ⟨_, rfl, (by rw [hb9]; rfl)⟩⟩ rfl (Op20 (LT.pickF (v := (Bv r10)) rfl hb9) rfl rfl rfl rfl (mv (Bv r10) rfl rfl rfl rfl (AOR.split (fun hb11 => ?_) (fun hb11 => ?_))))))
   ·refine Ok rfl rfl rfl (by rw [hb11]; rfl) rfl (Ok rfl rfl rfl (by rw [hb11]; rfl) rfl (Ok rfl rfl rfl (by rw [hb11]; rfl) rfl (Ok rfl rfl rfl (by rw [hb11]; rfl) rfl (Op20 (LT.pickT (v := (Bv true)) rfl hb11) rfl ⟨rfl, rfl⟩ rfl rfl (mv (Bv true) rfl rfl rfl rfl (Ok rfl rfl rfl rfl rfl (Ok rfl rfl rfl rfl rfl (Ok rfl rfl rfl rfl rfl (Ok rfl rfl rfl rfl rfl (Op20 (LT.pickT (v := (Bv true)) rfl rfl) rfl ⟨rfl, rfl⟩ rfl rfl (mv (Bv true) rfl rfl rfl rfl ?_)))))))))))
    refine Ok rfl rfl rfl rfl rfl (Ok rfl rfl rfl rfl rfl (Ok rfl rfl rfl rfl rfl (Ok rfl rfl rfl rfl rfl (Ok rfl rfl rfl rfl rfl (Ok rfl rfl rfl rfl rfl (Ok rfl rfl rfl rfl rfl (Ok rfl rfl rfl rfl rfl (Ok rfl rfl rfl rfl rfl (Ok rfl rfl rfl rfl rfl (Op20 (LT.pickT (v := (Bv true)) rfl rfl) rfl ⟨rfl, rfl⟩ rfl rfl (On ?_)))))))))))
    refine AWR.nil ⟨rfl, Ent.of ⟨rfl, rfl, rfl, trivial⟩ ⟨rfl, rfl, trivial⟩⟩
   ·refine Op10 (LT.fieldPl rfl fo51_1) rfl ⟨_, rfl, .inl ⟨_, rfl, (by rw [hb11]; rfl)⟩⟩ rfl (Op11 (LT.bload1 (c := (xF encInt p.Ground)) rfl ag45 (by exact rfl)) rfl rfl ⟨_, rfl, .inl ⟨_, rfl, (by rw [hb11]; rfl)⟩⟩ rfl (Op10 (LT.tlenRO rfl und45) rfl ⟨_, rfl, .inl ⟨_, rfl, (by rw [hb11]; rfl)⟩⟩ rfl (Op20 (LT.lss rfl) rfl ⟨rfl, rfl⟩ ⟨_, rfl, .inl ⟨_, rfl, (by rw [hb11]; rfl)⟩⟩ rfl (Op20 (LT.pickF (v := (Bv (decide ((p.Ground.length : Int) < 2)))) rfl hb11) rfl rfl rfl rfl (mv (Bv (decide ((p.Ground.length : Int) < 2))) rfl rfl rfl rfl (AOR.split (fun hb12 => ?_) (fun hb12 => ?_)))))))
    ·refine Ok rfl rfl rfl (by rw [hb12]; rfl) rfl (Ok rfl rfl rfl (by rw [hb12]; rfl) rfl (Ok rfl rfl rfl (by rw [hb12]; rfl) rfl (Ok rfl rfl rfl (by rw [hb12]; rfl) rfl (Op20 (LT.pickT (v := (Bv true)) rfl hb12) rfl ⟨rfl, rfl⟩ rfl rfl (mv (Bv true) rfl rfl rfl rfl (Ok rfl rfl rfl rfl rfl (Ok rfl rfl rfl rfl rfl (Ok rfl rfl rfl rfl rfl (Ok rfl rfl rfl rfl rfl (Ok rfl rfl rfl rfl rfl (Ok rfl rfl rfl rfl rfl ?_)))))))))))
     refine Ok rfl rfl rfl rfl rfl (Ok rfl rfl rfl rfl rfl (Ok rfl rfl rfl rfl rfl (Ok rfl rfl rfl rfl rfl (Op20 (LT.pickT (v := (Bv true)) rfl rfl) rfl ⟨rfl, rfl⟩ rfl rfl (On (AWR.nil ⟨rfl, Ent.of ⟨rfl, rfl, rfl, trivial⟩ ⟨rfl, rfl, trivial⟩⟩))))))
    ·refine Op10 (LT.fieldPl rfl fo32_1) rfl ⟨_, rfl, .inl ⟨_, rfl, (by rw [hb12]; rfl)⟩⟩ rfl (Op11 (LT.bload1 (c := (xF encTBar p.Graph.Bars)) rfl ag30 (by exact rfl)) rfl rfl ⟨_, rfl, .inl ⟨_, rfl, (by rw [hb12]; rfl)⟩⟩ rfl (Op10 (LT.tlenRO rfl und30) rfl ⟨_, rfl, .inl ⟨_, rfl, (by rw [hb12]; rfl)⟩⟩ rfl (Op20 (LT.gtr rfl) rfl ⟨rfl, rfl⟩ ⟨_, rfl, .inl ⟨_, rfl, (by rw [hb12]; rfl)⟩⟩ rfl (Op20 (LT.pickF (v := (Bv (decide (15 < (p.Graph.Bars.length : Int))))) rfl hb12) rfl rfl rfl rfl (mv (Bv (decide (15 < (p.Graph.Bars.length : Int)))) rfl rfl rfl rfl (AOR.split (fun hb13 => ?_) (fun hb13 => ?_)))))))
     ·refine Ok rfl rfl rfl (by rw [hb13]; rfl) rfl (Ok rfl rfl rfl (by rw [hb13]; rfl) rfl (Ok rfl rfl rfl (by rw [hb13]; rfl) rfl (Ok rfl rfl rfl (by rw [hb13]; rfl) rfl (Ok rfl rfl rfl (by rw [hb13]; rfl) rfl (Ok rfl rfl rfl (by rw [hb13]; rfl) rfl (Ok rfl rfl rfl (by rw [hb13]; rfl) rfl (Ok rfl rfl rfl (by rw [hb13]; rfl) rfl (Ok rfl rfl rfl (by rw [hb13]; rfl) rfl (Ok rfl rfl rfl (by rw [hb13]; rfl) rfl (Op20 (LT.pickT (v := (Bv true)) rfl hb13) rfl ⟨rfl, rfl⟩ rfl rfl (On ?_)))))))))))
      refine AWR.nil ⟨rfl, Ent.of ⟨rfl, rfl, rfl, trivial⟩ ⟨rfl, rfl, trivial⟩⟩
     ·refine Op10 (LT.fieldPl rfl fo32_1) rfl ⟨_, rfl, .inl ⟨_, rfl, (by rw [hb13]; rfl)⟩⟩ rfl (Op11 (LT.bload1 (c := (xF encTBar p.Graph.Bars)) rfl ag30 (by exact rfl)) rfl rfl ⟨_, rfl, .inl ⟨_, rfl, (by rw [hb13]; rfl)⟩⟩ rfl (Op10 (LT.tlenRO rfl und30) rfl ⟨_, rfl, .inl ⟨_, rfl, (by rw [hb13]; rfl)⟩⟩ rfl (Op10 (LT.fieldPl rfl fo51_1) rfl ⟨_, rfl, .inl ⟨_, rfl, (by rw [hb13]; rfl)⟩⟩ rfl (Op11 (LT.bload1 (c := (xF encInt p.Ground)) rfl ag45 (by exact rfl)) rfl rfl ⟨_, rfl, .inl ⟨_, rfl, (by rw [hb13]; rfl)⟩⟩ rfl (Op10 (LT.tlenRO rfl und45) rfl ⟨_, rfl, .inl ⟨_, rfl, (by rw [hb13]; rfl)⟩⟩ rfl (Op20 (LT.mul rfl) ⟨rfl, rfl⟩ rfl ⟨_, rfl, .inl ⟨_, rfl, (by rw [hb13]; rfl)⟩⟩ rfl (Op20 (LT.add rfl) rfl rfl ⟨_, rfl, .inl ⟨_, rfl, (by rw [hb13]; rfl)⟩⟩ rfl (Op20 (LT.sub rfl) rfl ⟨rfl, rfl⟩ ⟨_, rfl, .inl ⟨_, rfl, (by rw [hb13]; rfl)⟩⟩ rfl (Op20 (LT.gtr rfl) rfl ⟨rfl, rfl⟩ ⟨_, rfl, .inl ⟨_, rfl, (by rw [hb13]; rfl)⟩⟩ rfl (Op20 (LT.pickF (v := (Bv (decide (24 < (w64 ((w64 ((p.Graph.Bars.length : Int) + (w64 (2 * (p.Ground.length : Int))))) - 3)))))) rfl hb13) rfl rfl rfl rfl (On ?_)))))))))))
      refine AWR.nil ⟨rfl, Ent.of ⟨rfl, rfl, rfl, trivial⟩ ⟨rfl, rfl, trivial⟩⟩
 ·refine AWR.cond rfl (fun hc14 => ?_) (fun hc14 => ?_)
  ·refine Ws (Wr ?_)
   refine asg (Bv false) rfl ⟨rfl, rfl⟩ rfl rfl (On (AWR.ret (FPost.mk (.inr rfl) ⟨rfl, trivial⟩ trivial rfl ⟨PermP.sc, trivial⟩ trivial)))
  ·refine AWR.skip (Ws (Ws (Wr ?_)))
   refine Op10 (LT.fieldPl rfl fo51_1) rfl rfl rfl (Op11 (LT.bload1 (c := (xF encInt p.Ground)) rfl ag45 (by exact rfl)) rfl rfl rfl rfl (Op10 (LT.tlenRO rfl und45) rfl rfl rfl (mv (Iv 0) rfl ⟨rfl, rfl⟩ rfl rfl (On (AWR.block ?_)))))
   refine AWR.loopR (id := 0) (m_impl_IsPinned_L1 p) (fun s15 => ([(1, (Cc (.pl 21 0))), (3, (Cc (.pl 22 0))), (42, (Cc (xF encInt p.Ground))), (43, (Iv (p.Ground.length : Int))), (44, (Iv s15))], [(21, (.row 51 [[(iC p.Graph.Points), (xF encTBar p.Graph.Bars), (xF encInt p.Ground)]])), (22, (.row 32 [[(iC p.Graph.Points), (xF encTBar p.Graph.Bars)]]))])) (fun b40 => ([(1, (Cc (.pl 21 0))), (3, (Cc (.pl 22 0)))], [(21, (.row 51 [[(iC p.Graph.Points), (xF encTBar p.Graph.Bars), (xF encInt p.Ground)]])), (22, (.row 32 [[(iC p.Graph.Points), (xF encTBar p.Graph.Bars)]]))])) (FPost Try.prog Try.f99.results.toList [] [] (fun (t : Bool) => [(.c (bC t))]) (fun (t : Bool) => [])) ?_ (Ent.of ⟨rfl, rfl, rfl, rfl, rfl, trivial⟩ ⟨rfl, rfl, trivial⟩) rfl (fun b40 _ => ?_) (by intro r t σ m ht hk; injection ht with ht; subst ht; exact hk)
   ·intro s15
    unfold m_impl_IsPinned_L1
    refine Ws (Wr ?_)
    refine Op20 (LT.lss rfl) rfl rfl rfl rfl (On (Ws ?_))
    refine AWR.cond rfl (fun hc41 => ?_) (fun hc41 => ?_)
    ·refine AWR.skip (Ws (AWR.block (Ws (Wr ?_))))
     refine mv (Iv s15) rfl rfl rfl rfl (Ob' fun x42 hx42 => (Op20 (LT.tindexRO (enc := encInt) rfl el45 hx42 sz3) rfl rfl rfl rfl (Op10 (LT.loadPx1 rfl ag3) rfl rfl rfl (asg (Iv s15) rfl rfl rfl rfl (asg (Iv x42) rfl rfl rfl rfl (On (Ws ?_)))))))
     refine AWR.joinK (fun j47 => ([(1, (Cc (.pl 21 0))), (3, (Cc (.pl 22 0))), (42, (Cc (xF encInt p.Ground))), (43, (Iv (p.Ground.length : Int))), (44, (Iv s15)), (66, (Bv j47))], [(21, (.row 51 [[(iC p.Graph.Points), (xF encTBar p.Graph.Bars), (xF encInt p.Ground)]])), (22, (.row 32 [[(iC p.Graph.Points), (xF encTBar p.Graph.Bars)]]))])) ?_ (fun j47 _ => ?_)
     ·refine Wr (Op11 (LT.bloadN (out := [(iC p.Graph.Points), (xF encTBar p.Graph.Bars)]) rfl ag32 (infS inf32) sz32 (by exact rfl) (by exact rfl)) rfl rfl rfl rfl (mv (Iv x42) rfl rfl rfl rfl (Ob' fun r48 hr48 => (AOR.pure (@LT.callF Try.prog _ _ 165 _ _ [(.agg [(iC p.Graph.Points), (xF encTBar p.Graph.Bars)]), (.c (iC x42))] _ _ [] _ _ _ _ (w_impl_Graph_has p.Graph x42 r48 hr48) rfl cb165 (.cons (.agg (.cons (.same rfl) (.cons (.same rfl) .nil))) (.cons (.c (.same rfl)) .nil)) rfl rfl trivial) ⟨rfl, rfl, rfl, trivial⟩ trivial rfl rfl (Op10 (LT.not rfl) rfl rfl rfl (mv (Bv (!r48)) rfl rfl rfl rfl (AOR.split (fun hb49 => ?_) (fun hb49 => ?_))))))))
      ·refine Ok rfl rfl rfl (by rw [hb49]; rfl) rfl (Ok rfl rfl rfl (by rw [hb49]; rfl) rfl (Ok rfl rfl rfl (by rw [hb49]; rfl) rfl (Oj rfl rfl rfl rfl (Oj rfl rfl rfl rfl (Oj rfl rfl rfl rfl (Oj rfl rfl rfl rfl (Oj rfl rfl rfl rfl (Oj rfl rfl rfl rfl (Oj rfl rfl rfl rfl (Oj rfl rfl rfl rfl (Ok rfl rfl rfl (by rw [hb49]; rfl) rfl ?_)))))))))))
       refine Op20 (LT.pickT (v := (Bv true)) rfl hb49) rfl ⟨rfl, rfl⟩ rfl rfl (On (AWR.nil ⟨rfl, Ent.of ⟨rfl, rfl, rfl, rfl, rfl, rfl, trivial⟩ ⟨rfl, rfl, trivial⟩⟩))
      ·refine mv (Iv s15) rfl rfl ⟨_, rfl, .inl ⟨_, rfl, (by rw [hb49]; rfl)⟩⟩ rfl (Op20 (LT.gtr rfl) rfl ⟨rfl, rfl⟩ ⟨_, rfl, .inl ⟨_, rfl, (by rw [hb49]; rfl)⟩⟩ rfl (mv (Bv (decide (0 < s15))) rfl rfl ⟨_, rfl, .inl ⟨_, rfl, (by rw [hb49]; rfl)⟩⟩ rfl (AOR.split (fun hb50 => ?_) (fun hb50 => ?_))))
       ·refine Op10 (LT.fieldPl rfl fo51_1) rfl ⟨_, rfl, .inl ⟨_, rfl, (by rw [hb50]; rfl)⟩⟩ rfl (Op11 (LT.bload1 (c := (xF encInt p.Ground)) rfl ag45 (by exact rfl)) rfl rfl ⟨_, rfl, .inl ⟨_, rfl, (by rw [hb50]; rfl)⟩⟩ rfl (mv (Iv s15) rfl rfl ⟨_, rfl, .inl ⟨_, rfl, (by rw [hb50]; rfl)⟩⟩ rfl (Op20 (LT.sub rfl) rfl ⟨rfl, rfl⟩ ⟨_, rfl, .inl ⟨_, rfl, (by rw [hb50]; rfl)⟩⟩ rfl (Ob' fun x51 hx51 => (Op20 (LT.tindexRO (enc := encInt) rfl el45 hx51 sz3) rfl rfl ⟨_, rfl, .inl ⟨_, rfl, (by rw [hb50]; rfl)⟩⟩ rfl (Op10 (LT.loadPx1 rfl ag3) rfl ⟨_, rfl, .inl ⟨_, rfl, (by rw [hb50]; rfl)⟩⟩ rfl (mv (Iv x42) rfl rfl ⟨_, rfl, .inl ⟨_, rfl, (by rw [hb50]; rfl)⟩⟩ rfl (Op20 (LT.geq rfl) rfl rfl ⟨_, rfl, .inl ⟨_, rfl, (by rw [hb50]; rfl)⟩⟩ rfl (Op20 (LT.pickT (v := (Bv (decide (x42 ≤ x51)))) rfl hb50) rfl rfl ⟨_, rfl, .inl ⟨_, rfl, (by rw [hb49]; rfl)⟩⟩ rfl (Op20 (LT.pickF (v := (Bv (decide (x42 ≤ x51)))) rfl hb49) rfl rfl rfl rfl (On ?_)))))))))))
        refine AWR.nil ⟨rfl, Ent.of ⟨rfl, rfl, rfl, rfl, rfl, rfl, trivial⟩ ⟨rfl, rfl, trivial⟩⟩
       ·refine Ok rfl rfl rfl (by rw [hb50]; rfl) rfl (Ok rfl rfl rfl (by rw [hb50]; rfl) rfl (Ok rfl rfl rfl (by rw [hb50]; rfl) rfl (Ok rfl rfl rfl (by rw [hb50]; rfl) rfl (Ok rfl rfl rfl (by rw [hb50]; rfl) rfl (Ok rfl rfl rfl (by rw [hb50]; rfl) rfl (Ok rfl rfl rfl (by rw [hb50]; rfl) rfl (Ok rfl rfl rfl (by rw [hb50]; rfl) rfl (Op20 (LT.pickF (v := (Bv false)) rfl hb50) rfl ⟨rfl, rfl⟩ ⟨_, rfl, .inl ⟨_, rfl, (by rw [hb49]; rfl)⟩⟩ rfl (Op20 (LT.pickF (v := (Bv false)) rfl hb49) rfl rfl rfl rfl (On (AWR.nil ⟨rfl, Ent.of ⟨rfl, rfl, rfl, rfl, rfl, rfl, trivial⟩ ⟨rfl, rfl, trivial⟩⟩)))))))))))
     ·refine AWR.cond rfl (fun hc52 => ?_) (fun hc52 => ?_)
      ·refine Ws (Wr ?_)
       refine asg (Bv false) rfl ⟨rfl, rfl⟩ rfl rfl (On (AWR.ret ⟨rfl, FPost.mk (.inr rfl) ⟨rfl, trivial⟩ trivial rfl ⟨PermP.sc, trivial⟩ trivial⟩))
      ·refine AWR.skip (AWR.blk (Wr ?_))
       refine Op20 (LT.add rfl) rfl ⟨rfl, rfl⟩ rfl rfl (mv (Iv (w64 (s15 + 1))) rfl rfl rfl rfl (On (AWR.nil ⟨rfl, Ent.of ⟨rfl, rfl, rfl, rfl, rfl, trivial⟩ ⟨rfl, rfl, trivial⟩⟩)))
    ·refine AWR.exit_end rfl ⟨rfl, Ent.of ⟨rfl, rfl, trivial⟩ ⟨rfl, rfl, trivial⟩⟩
   ·refine Ws (Ws (Wr ?_))
    refine Op10 (LT.fieldPl rfl fo32_1) rfl rfl rfl (Op11 (LT.bload1 (c := (xF encTBar p.Graph.Bars)) rfl ag30 (by exact rfl)) rfl rfl rfl rfl (Op10 (LT.tlenRO rfl und30) rfl rfl rfl (mv (Iv 0) rfl ⟨rfl, rfl⟩ rfl rfl (On (AWR.block ?_)))))
    refine AWR.loopR (id := 2) (m_impl_IsPinned_L2 p) (fun s53 => ([(1, (Cc (.pl 21 0))), (69, (Cc (xF encTBar p.Graph.Bars))), (70, (Iv (p.Graph.Bars.length : Int))), (71, (Iv s53))], [(21, (.row 51 [[(iC p.Graph.Points), (xF encTBar p.Graph.Bars), (xF encInt p.Ground)]]))])) (fun b74 => ([], [])) (FPost Try.prog Try.f99.results.toList [] [] (fun (t : Bool) => [(.c (bC t))]) (fun (t : Bool) => [])) ?_ (Ent.of ⟨rfl, rfl, rfl, rfl, trivial⟩ ⟨rfl, trivial⟩) rfl (fun b74 _ => ?_) (by intro r t σ m ht hk; injection ht with ht; subst ht; exact hk)
    ·intro s53
     unfold m_impl_IsPinned_L2
     refine Ws (Wr ?_)
     refine Op20 (LT.lss rfl) rfl rfl rfl rfl (On (Ws ?_))
     refine AWR.cond rfl (fun hc75 => ?_) (fun hc75 => ?_)
     ·refine AWR.skip (Ws (AWR.block (Ws (Wr ?_))))
      refine Ob' fun x76 hx76 => (Op20 (LT.tindexRO (enc := encTBar) rfl el30 hx76 sz112) rfl rfl rfl rfl (Op10 (LT.loadPxN rfl ag112 (infS inf112) (by exact sz112.symm)) rfl rfl rfl (Os00 (LT.alloc (n := 26) (cells := [(iC 0), (iC 0)]) rfl ti112 rfl rfl rfl) rfl rfl (Os21 (LT.bstore (v := (.agg [(iC x76.A), (iC x76.B)])) (out := [(iC x76.A), (iC x76.B)]) rfl rfl (infS inf112) sz112 (by exact rfl) (by exact Nat.le_of_ble_eq_true rfl) (by exact rfl)) rfl rfl rfl rfl rfl (On (Ws ?_))))))
      refine AWR.joinK (fun j80 => ([(1, (Cc (.pl 21 0))), (69, (Cc (xF encTBar p.Graph.Bars))), (70, (Iv (p.Graph.Bars.length : Int))), (71, (Iv s53)), (86, (Bv j80))], [(21, (.row 51 [[(iC p.Graph.Points), (xF encTBar p.Graph.Bars), (xF encInt p.Ground)]]))])) ?_ (fun j80 _ => ?_)
      ·refine Wr (Op10 (LT.fieldPl rfl fo51_1) rfl rfl rfl (Op11 (LT.bload1 (c := (xF encInt p.Ground)) rfl ag45 (by exact rfl)) rfl rfl rfl rfl (Op10 (LT.fieldPl rfl fo112_0) rfl rfl rfl (Op11 (LT.bload1 (c := (iC x76.A)) rfl ag3 (by exact rfl)) rfl rfl rfl rfl (Ob' fun r81 hr81 => (AOR.pure (@LT.callF Try.prog _ _ 149 _ _ [(.c (xF encInt p.Ground)), (.c (iC x76.A))] _ _ [] _ _ _ _ (w_slices_Contains p.Ground x76.A r81 hr81) rfl cb149 (.cons (.c (.same rfl)) (.cons (.c (.same rfl)) .nil)) rfl rfl trivial) ⟨rfl, rfl, rfl, trivial⟩ trivial rfl rfl (mv (Bv r81) rfl rfl rfl rfl (AOR.split (fun hb82 => ?_) (fun hb82 => ?_)))))))))
       ·refine Op10 (LT.fieldPl rfl fo51_1) rfl ⟨_, rfl, .inl ⟨_, rfl, (by rw [hb82]; rfl)⟩⟩ rfl (Op11 (LT.bload1 (c := (xF encInt p.Ground)) rfl ag45 (by exact rfl)) rfl rfl ⟨_, rfl, .inl ⟨_, rfl, (by rw [hb82]; rfl)⟩⟩ rfl (Op10 (LT.fieldPl rfl fo112_1) rfl ⟨_, rfl, .inl ⟨_, rfl, (by rw [hb82]; rfl)⟩⟩ rfl (Op11 (LT.bload1 (c := (iC x76.B)) rfl ag3 (by exact rfl)) rfl rfl ⟨_, rfl, .inl ⟨_, rfl, (by rw [hb82]; rfl)⟩⟩ rfl (Ob' fun r83 hr83 => (AOR.pure (@LT.callF Try.prog _ _ 149 _ _ [(.c (xF encInt p.Ground)), (.c (iC x76.B))] _ _ [] _ _ _ _ (w_slices_Contains p.Ground x76.B r83 hr83) rfl cb149 (.cons (.c (.same rfl)) (.cons (.c (.same rfl)) .nil)) rfl rfl trivial) ⟨rfl, rfl, rfl, trivial⟩ trivial ⟨_, rfl, .inl ⟨_, rfl, (by rw [hb82]; rfl)⟩⟩ rfl (Op20 (LT.pickT (v := (Bv r83)) rfl hb82) rfl rfl rfl rfl (On (AWR.nil ⟨rfl, Ent.of ⟨rfl, rfl, rfl, rfl, rfl, trivial⟩ ⟨rfl, trivial⟩⟩))))))))
       ·refine Ok rfl rfl rfl (by rw [hb82]; rfl) rfl (Ok rfl rfl rfl (by rw [hb82]; rfl) rfl (Ok rfl rfl rfl (by rw [hb82]; rfl) rfl (Ok rfl rfl rfl (by rw [hb82]; rfl) rfl (Ok rfl rfl rfl (by rw [hb82]; rfl) rfl (Op20 (LT.pickF (v := (Bv false)) rfl hb82) rfl ⟨rfl, rfl⟩ rfl rfl (On (AWR.nil ⟨rfl, Ent.of ⟨rfl, rfl, rfl, rfl, rfl, trivial⟩ ⟨rfl, trivial⟩⟩)))))))
      ·refine AWR.cond rfl (fun hc84 => ?_) (fun hc84 => ?_)
       ·refine Ws (Wr ?_)
        refine asg (Bv false) rfl ⟨rfl, rfl⟩ rfl rfl (On (AWR.ret ⟨rfl, FPost.mk (.inr rfl) ⟨rfl, trivial⟩ trivial rfl ⟨PermP.sc, trivial⟩ trivial⟩))
       ·refine AWR.skip (AWR.blk (Wr ?_))
        refine Op20 (LT.add rfl) rfl ⟨rfl, rfl⟩ rfl rfl (mv (Iv (w64 (s53 + 1))) rfl rfl rfl rfl (On (AWR.nil ⟨rfl, Ent.of ⟨rfl, rfl, rfl, rfl, trivial⟩ ⟨rfl, trivial⟩⟩)))
     ·refine AWR.exit_end rfl ⟨rfl, Ent.of trivial trivial⟩
    ·refine Ws (Wr ?_)
     refine asg (Bv true) rfl ⟨rfl, rfl⟩ rfl rfl (On (AWR.ret (FPost.mk (.inr rfl) ⟨rfl, trivial⟩ trivial rfl ⟨PermP.sc, trivial⟩ trivial)))
theorem w_impl_Pinned_held (p : TPinned) : ∀ t, m_impl_Pinned_held p = some t → Fw.Fn Try.prog 101 [(.agg [(iC p.Graph.Points), (xF encTBar p.Graph.Bars), (xF encInt p.Ground)])] [] (.s (.c (lo 0 t.length))) [(0, (pR 112 encTBar t))] [] [0] := by
 refine Fw.Fn.of (P := Try.prog) (X := [0]) (pn := []) (rs := (fun (t : (List TBar)) => [(.c (lo 0 t.length))])) (dfs := (fun (t : (List TBar)) => [(0, (pR 112 encTBar t))])) Try.func101 rfl Try.ntmps101 (Nat.le_of_ble_eq_true rfl) rfl ?_
 intro w0 U0 R0 g0
 unfold m_impl_Pinned_held
 refine Ws (Wr ?_)
 refine Os10 (LT.box (n := 21) (v := (.agg [(iC p.Graph.Points), (xF encTBar p.Graph.Bars), (xF encInt p.Ground)])) rfl sz51 (by exact rfl)) rfl rfl rfl (asg (Cc (sC nilV)) rfl ⟨rfl, rfl⟩ rfl rfl (On (Ws (Wr ?_))))
 refine Os00 (LT.tbuildSlice (n := 22) (enc := encTBar) [] ([] : List TBar) rfl rfl und30 ti112 rfl rfl rfl rfl (by decide) (fun _ => rfl) rfl) rfl rfl (asg (Cc (lo 22 (([] : List TBar).length))) rfl rfl rfl rfl (On (Ws (Ws (Wr ?_)))))
 refine Op10 (LT.fieldPl rfl fo51_1) rfl rfl rfl (Op11 (LT.bload1 (c := (xF encInt p.Ground)) rfl ag45 (by exact rfl)) rfl rfl rfl rfl (Op10 (LT.tlenRO rfl und45) rfl rfl rfl (mv (Iv 0) rfl ⟨rfl, rfl⟩ rfl rfl (On (AWR.block ?_)))))
 refine AWR.loop1 (id := 0) (m_impl_Pinned_held_L3 p) (fun s1 => ([(1, (Cc (.pl 21 0))), (3, (Cc (lo 22 s1.2.length))), (10, (Cc (xF encInt p.Ground))), (11, (Iv (p.Ground.length : Int))), (12, (Iv s1.1))], [(21, (.row 51 [[(iC p.Graph.Points), (xF encTBar p.Graph.Bars), (xF encInt p.Ground)]])), (22, (pR 112 encTBar s1.2))])) (fun b28 => ([(3, (Cc (lo 22 b28.length)))], [(22, (pR 112 encTBar b28))])) ?_ (Ent.of ⟨rfl, rfl, rfl, rfl, rfl, trivial⟩ ⟨rfl, rfl, trivial⟩) rfl (fun b28 _ => ?_)
 ·intro s1
  unfold m_impl_Pinned_held_L3
  refine Ws (Wr ?_)
  refine Op20 (LT.lss rfl) rfl rfl rfl rfl (On (Ws ?_))
  refine AWR.cond rfl (fun hc29 => ?_) (fun hc29 => ?_)
  ·refine AWR.skip (Ws (AWR.block (Ws (Wr ?_))))
   refine mv (Iv s1.1) rfl rfl rfl rfl (Ob' fun x30 hx30 => (Op20 (LT.tindexRO (enc := encInt) rfl el45 hx30 sz3) rfl rfl rfl rfl (Op10 (LT.loadPx1 rfl ag3) rfl rfl rfl (asg (Iv s1.1) rfl rfl rfl rfl (asg (Iv x30) rfl rfl rfl rfl (On (Ws (Wr ?_))))))))
   refine Op10 (LT.fieldPl rfl fo51_1) rfl rfl rfl (Op11 (LT.bload1 (c := (xF encInt p.Ground)) rfl ag45 (by exact rfl)) rfl rfl rfl rfl (mv (Iv s1.1) rfl rfl rfl rfl (Op20 (LT.add rfl) rfl ⟨rfl, rfl⟩ rfl rfl (Ob' fun v31 hv31 => (Op20 (LT.tsliceRO (enc := encInt) (blo := (some (.tmp 20, (w64 (s1.1 + 1))))) (bhi := none) (l := (w64 (s1.1 + 1)).toNat) (h := p.Ground.length) rfl rfl rfl und45 inf3 (fun _ => by rw [sz3]; rfl) (.inl ⟨_, _, rfl, (slc_spec hv31).1, rfl⟩) (.inr ⟨rfl, rfl⟩) (slc_lh hv31) (slc_hl hv31)) rfl rfl rfl rfl (Op10 (LT.tlenRO rfl und45) rfl rfl rfl (mv (Iv 0) rfl ⟨rfl, rfl⟩ rfl rfl (On (AWR.block ?_)))))))))
   refine AWR.loop1 (id := 2) (m_impl_Pinned_held_L4 p s1 x30) (fun s32 => ([(1, (Cc (.pl 21 0))), (3, (Cc (lo 22 s32.2.length))), (5, (Iv x30)), (10, (Cc (xF encInt p.Ground))), (11, (Iv (p.Ground.length : Int))), (12, (Iv s1.1)), (21, (Cc (xF encInt ((p.Ground.take p.Ground.length).drop ((w64 (s1.1 + 1)).toNat))))), (22, (Iv (((p.Ground.take p.Ground.length).drop ((w64 (s1.1 + 1)).toNat)).length : Int))), (23, (Iv s32.1))], [(21, (.row 51 [[(iC p.Graph.Points), (xF encTBar p.Graph.Bars), (xF encInt p.Ground)]])), (22, (pR 112 encTBar s32.2))])) (fun b41 => ([(1, (Cc (.pl 21 0))), (3, (Cc (lo 22 b41.2.length))), (10, (Cc (xF encInt p.Ground))), (11, (Iv (p.Ground.length : Int))), (12, (Iv b41.1))], [(21, (.row 51 [[(iC p.Graph.Points), (xF encTBar p.Graph.Bars), (xF encInt p.Ground)]])), (22, (pR 112 encTBar b41.2))])) ?_ (Ent.of ⟨rfl, rfl, rfl, rfl, rfl, rfl, rfl, rfl, rfl, trivial⟩ ⟨rfl, rfl, trivial⟩) rfl (fun b41 _ => ?_)
   ·intro s32
    unfold m_impl_Pinned_held_L4
    refine Ws (Wr ?_)
    refine Op20 (LT.lss rfl) rfl rfl rfl rfl (On (Ws ?_))
    refine AWR.cond rfl (fun hc42 => ?_) (fun hc42 => ?_)
    ·refine AWR.skip (Ws (AWR.block (Ws (Wr ?_))))
     refine Ob' fun x43 hx43 => (Op20 (LT.tindexRO (enc := encInt) rfl el45 hx43 sz3) rfl rfl rfl rfl (Op10 (LT.loadPx1 rfl ag3) rfl rfl rfl (asg (Iv x43) rfl rfl rfl rfl (On (Wr ?_)))))
     refine mv (Cc (lo 22 s32.2.length)) rfl rfl rfl rfl (mv (Iv x30) rfl rfl rfl rfl (mv (Iv x43) rfl rfl rfl rfl (Ob' fun r44 hr44 => (AOR.pure (@LT.callF Try.prog _ _ 115 _ _ [(.c (iC x30)), (.c (iC x43))] _ _ [] _ _ _ _ (w_impl_bar x30 x43 r44 hr44) rfl cb115 (.cons (.c (.same rfl)) (.cons (.c (.same rfl)) .nil)) rfl rfl trivial) ⟨rfl, rfl, rfl, trivial⟩ trivial rfl rfl (Os10 (LT.tbuildSlice (n := 24) (enc := encTBar) [(0, .tmp 30, (.agg [(iC r44.A), (iC r44.B)]))] [r44] rfl rfl und30 ti112 rfl rfl rfl rfl (by decide) (fun _ => rfl) rfl) rfl rfl rfl (Ob' fun u45 hu45 => (Os22 (LT.tappP (enc := encTBar) rfl rfl rfl und30 ti112 rfl (by decide) (by decide) (fun _ => rfl) (lim_le hu45)) rfl rfl rfl rfl rfl rfl (asg (Cc (lo 22 ((s32.2 ++ [r44]).length))) rfl rfl rfl rfl (On (AWR.blk ?_))))))))))
     refine en [(1, (Cc (.pl 21 0))), (3, (Cc (lo 22 ((s32.2 ++ [r44]).length)))), (5, (Iv x30)), (10, (Cc (xF encInt p.Ground))), (11, (Iv (p.Ground.length : Int))), (12, (Iv s1.1)), (21, (Cc (xF encInt ((p.Ground.take p.Ground.length).drop ((w64 (s1.1 + 1)).toNat))))), (22, (Iv (((p.Ground.take p.Ground.length).drop ((w64 (s1.1 + 1)).toNat)).length : Int))), (23, (Iv s32.1))] [(21, (.row 51 [[(iC p.Graph.Points), (xF encTBar p.Graph.Bars), (xF encInt p.Ground)]])), (22, (pR 112 encTBar (s32.2 ++ [r44])))] ⟨rfl, rfl, rfl, rfl, rfl, rfl, rfl, rfl, rfl, trivial⟩ ⟨rfl, rfl, trivial⟩ (Wr (Op20 (LT.add rfl) rfl ⟨rfl, rfl⟩ rfl rfl (mv (Iv (w64 (s32.1 + 1))) rfl rfl rfl rfl (On (AWR.nil ⟨rfl, Ent.of ⟨rfl, rfl, rfl, rfl, rfl, rfl, rfl, rfl, rfl, trivial⟩ ⟨rfl, rfl, trivial⟩⟩)))))
    ·refine AWR.exit_end rfl ⟨rfl, Ent.of ⟨rfl, rfl, rfl, rfl, rfl, trivial⟩ ⟨rfl, rfl, trivial⟩⟩
   ·refine AWR.blk (Wr ?_)
    refine Op20 (LT.add rfl) rfl ⟨rfl, rfl⟩ rfl rfl (mv (Iv (w64 (b41.1 + 1))) rfl rfl rfl rfl (On (AWR.nil ⟨rfl, Ent.of ⟨rfl, rfl, rfl, rfl, rfl, trivial⟩ ⟨rfl, rfl, trivial⟩⟩)))
  ·refine AWR.exit_end rfl ⟨rfl, Ent.of ⟨rfl, trivial⟩ ⟨rfl, trivial⟩⟩
 ·refine Ws (Wr ?_)
  refine mv (Cc (lo 22 b28.length)) rfl rfl rfl rfl (asg (Cc (lo 22 b28.length)) rfl rfl rfl rfl (On (en [(2, (Cc (lo 22 b28.length)))] [(22, (pR 112 encTBar b28))] ⟨rfl, trivial⟩ ⟨rfl, trivial⟩ (AWR.ent (Ent.mv 22 0 rfl rfl) (en [(2, (Cc (lo 0 b28.length)))] [(0, (pR 112 encTBar b28))] ⟨rfl, trivial⟩ ⟨rfl, trivial⟩ (AWR.ret (FPost.mk (.inr rfl) ⟨rfl, trivial⟩ ⟨rfl, trivial⟩ rfl ⟨trivial, trivial⟩ ⟨PermO.prow' perm_encTBar, trivial⟩)))))))
theorem w_impl_PinnedRank (p : TPinned) : ∀ t, m_impl_PinnedRank p = some t → Fw.Fn Try.prog 27 [(.agg [(iC p.Graph.Points), (xF encTBar p.Graph.Bars), (xF encInt p.Ground)])] [] (.s (.c (iC t))) [] [] [] := by
 refine Fw.Fn.of (P := Try.prog) (X := []) (pn := []) (rs := (fun (t : Int) => [(.c (iC t))])) (dfs := (fun (t : Int) => [])) Try.func27 rfl Try.ntmps27 (Nat.le_of_ble_eq_true rfl) rfl ?_
 intro w0 U0 R0 g0
 unfold m_impl_PinnedRank
 refine Ws (Wr ?_)
 refine Os10 (LT.box (n := 21) (v := (.agg [(iC p.Graph.Points), (xF encTBar p.Graph.Bars), (xF encInt p.Ground)])) rfl sz51 (by exact rfl)) rfl rfl rfl (asg (Iv 0) rfl ⟨rfl, rfl⟩ rfl rfl (On (Ws (Ws (Wr ?_)))))
 refine Op11 (LT.bloadN (out := [(iC p.Graph.Points), (xF encTBar p.Graph.Bars), (xF encInt p.Ground)]) rfl ag51 (infS inf51) sz51 (by exact rfl) (by exact rfl)) rfl rfl rfl rfl (Ob' fun r1 hr1 => (AOR.pure (@LT.callF Try.prog _ _ 99 _ _ [(.agg [(iC p.Graph.Points), (xF encTBar p.Graph.Bars), (xF encInt p.Ground)])] _ _ [] _ _ _ _ (w_impl_IsPinned p r1 hr1) rfl cb99 (.cons (.agg (.cons (.same rfl) (.cons (.same rfl) (.cons (.same rfl) .nil)))) .nil) rfl rfl trivial) ⟨rfl, rfl, trivial⟩ trivial rfl rfl (Op10 (LT.not rfl) rfl rfl rfl (On (AWR.cond rfl (fun hc2 => ?_) (fun hc2 => ?_))))))
 ·refine Ws (Wr ?_)
  refine asg (Iv (-1)) rfl ⟨rfl, rfl⟩ rfl rfl (On (AWR.ret (FPost.mk (.inr rfl) ⟨rfl, trivial⟩ trivial rfl ⟨PermP.sc, trivial⟩ trivial)))
 ·refine AWR.skip (Ws (Wr ?_))
  refine Op10 (LT.fieldPl rfl fo51_0) rfl rfl rfl (Op10 (LT.fieldPl rfl fo32_0) rfl rfl rfl (Op11 (LT.bload1 (c := (iC p.Graph.Points)) rfl ag3 (by exact rfl)) rfl rfl rfl rfl (asg (Iv p.Graph.Points) rfl rfl rfl rfl (On (Ws ?_)))))
  refine en [(1, (Cc (.pl 21 0))), (3, (Iv p.Graph.Points))] [(21, (.row 51 [[(iC p.Graph.Points), (xF encTBar p.Graph.Bars), (xF encInt p.Ground)]]))] ⟨rfl, rfl, trivial⟩ ⟨rfl, trivial⟩ (AWR.draw mixed (Dp10 (LT.move (v := (Iv p.Graph.Points)) rfl) rfl rfl rfl (Dp11 (LT.bloadN (out := [(iC p.Graph.Points), (xF encTBar p.Graph.Bars), (xF encInt p.Ground)]) rfl ag51 (infS inf51) sz51 (by exact rfl) (by exact rfl)) rfl rfl rfl rfl (AOD.bind fun r3 hr3 => (AOD.step (@LT.callF Try.prog _ _ 101 _ _ [(.agg [(iC p.Graph.Points), (xF encTBar p.Graph.Bars), (xF encInt p.Ground)])] _ _ [] _ _ _ _ ((show Fw.Fn Try.prog 101 [(.agg [(iC p.Graph.Points), (xF encTBar p.Graph.Bars), (xF encInt p.Ground)])] [] (Cc (lo 24 r3.length)) [(24, (pR 112 encTBar r3))] [] [24] from Fw.Fn.ren [(0, 24)] (w_impl_Pinned_held p r3 hr3) rfl)) rfl cb101 (.cons (.agg (.cons (.same rfl) (.cons (.same rfl) (.cons (.same rfl) .nil)))) .nil) rfl rfl trivial) ⟨rfl, rfl, trivial⟩ trivial rfl rfl (Dp10 (LT.fieldPl rfl fo51_0) rfl rfl rfl (Dp10 (LT.fieldPl rfl fo32_1) rfl rfl rfl (Dp11 (LT.bload1 (c := (xF encTBar p.Graph.Bars)) rfl ag30 (by exact rfl)) rfl rfl rfl rfl (AOD.bind fun u4 hu4 => (Ds21 (LT.tappRO (enc := encTBar) rfl  rfl und30 ti112 rfl (by decide) (by decide) (fun _ => rfl) (lim_le hu4)) rfl rfl rfl rfl rfl (AOD.bind fun r5 hr5 => ?_)))))))))))
  refine AOD.pure (@LT.callF Try.prog _ _ 100 _ _ [(.c (iC p.Graph.Points)), (.c (lo 24 ((r3 ++ p.Graph.Bars).length)))] _ _ [(24, (pR 112 encTBar (r3 ++ p.Graph.Bars)))] _ _ _ _ (w_impl_planeRank p.Graph.Points (r3 ++ p.Graph.Bars) r5 hr5) rfl cb100 (.cons (.c (.same rfl)) (.cons (.c (.tloc rfl rfl)) .nil)) rfl rfl trivial) ⟨rfl, rfl, rfl, trivial⟩ ⟨rfl, trivial⟩ rfl rfl (Dp10 (LT.move (v := (Iv p.Graph.Points)) rfl) rfl rfl rfl (Dp11 (LT.bloadN (out := [(iC p.Graph.Points), (xF encTBar p.Graph.Bars), (xF encInt p.Ground)]) rfl ag51 (infS inf51) sz51 (by exact rfl) (by exact rfl)) rfl rfl rfl rfl (AOD.bind fun r6 hr6 => (AOD.step (@LT.callF Try.prog _ _ 101 _ _ [(.agg [(iC p.Graph.Points), (xF encTBar p.Graph.Bars), (xF encInt p.Ground)])] _ _ [] _ _ _ _ ((show Fw.Fn Try.prog 101 [(.agg [(iC p.Graph.Points), (xF encTBar p.Graph.Bars), (xF encInt p.Ground)])] [] (Cc (lo 27 r6.length)) [(27, (pR 112 encTBar r6))] [] [27] from Fw.Fn.ren [(0, 27)] (w_impl_Pinned_held p r6 hr6) rfl)) rfl cb101 (.cons (.agg (.cons (.same rfl) (.cons (.same rfl) (.cons (.same rfl) .nil)))) .nil) rfl rfl trivial) ⟨rfl, rfl, trivial⟩ trivial rfl rfl (AOD.bind fun r7 hr7 => (AOD.pure (@LT.callF Try.prog _ _ 100 _ _ [(.c (iC p.Graph.Points)), (.c (lo 27 r6.length))] _ _ [(27, (pR 112 encTBar r6))] _ _ _ _ (w_impl_planeRank p.Graph.Points r6 r7 hr7) rfl cb100 (.cons (.c (.same rfl)) (.cons (.c (.tloc rfl rfl)) .nil)) rfl rfl trivial) ⟨rfl, rfl, rfl, trivial⟩ ⟨rfl, trivial⟩ rfl rfl (Dp20 (LT.sub rfl) rfl rfl rfl rfl (Dp10 (LT.assign (v := (Iv (w64 (r5 - r7)))) rfl) rfl rfl rfl (AOD.nil (by kernel_rfl) (AWR.ret (FPost.mk (.inr rfl) ⟨rfl, trivial⟩ trivial rfl ⟨PermP.sc, trivial⟩ trivial)))))))))))
theorem w_laws_eqPinned (a : TPinned) (b : TPinned) : ∀ t, m_laws_eqPinned a b = some t → Fw.Fn Try.prog 28 [(.agg [(iC a.Graph.Points), (xF encTBar a.Graph.Bars), (xF encInt a.Ground)]), (.agg [(iC b.Graph.Points), (xF encTBar b.Graph.Bars), (xF encInt b.Ground)])] [] (.s (.c (bC t))) [] [] [] := by
 refine Fw.Fn.of (P := Try.prog) (X := []) (pn := []) (rs := (fun (t : Bool) => [(.c (bC t))])) (dfs := (fun (t : Bool) => [])) Try.func28 rfl Try.ntmps28 (Nat.le_of_ble_eq_true rfl) rfl ?_
 intro w0 U0 R0 g0
 unfold m_laws_eqPinned
 refine Ws (Wr ?_)
 refine Os10 (LT.box (n := 21) (v := (.agg [(iC a.Graph.Points), (xF encTBar a.Graph.Bars), (xF encInt a.Ground)])) rfl sz51 (by exact rfl)) rfl rfl rfl (Os10 (LT.box (n := 22) (v := (.agg [(iC b.Graph.Points), (xF encTBar b.Graph.Bars), (xF encInt b.Ground)])) rfl sz51 (by exact rfl)) rfl rfl rfl (asg (Bv false) rfl ⟨rfl, rfl⟩ rfl rfl (On (Ws (Ws (Wr ?_))))))
 refine Op10 (LT.fieldPl rfl fo51_0) rfl rfl rfl (Op11 (LT.bloadN (out := [(iC a.Graph.Points), (xF encTBar a.Graph.Bars)]) rfl ag32 (infS inf32) sz32 (by exact rfl) (by exact rfl)) rfl rfl rfl rfl (Op10 (LT.fieldPl rfl fo51_0) rfl rfl rfl (Op11 (LT.bloadN (out := [(iC b.Graph.Points), (xF encTBar b.Graph.Bars)]) rfl ag32 (infS inf32) sz32 (by exact rfl) (by exact rfl)) rfl rfl rfl rfl (Ob' fun r1 hr1 => (AOR.pure (@LT.callF Try.prog _ _ 37 _ _ [(.agg [(iC a.Graph.Points), (xF encTBar a.Graph.Bars)]), (.agg [(iC b.Graph.Points), (xF encTBar b.Graph.Bars)])] _ _ [] _ _ _ _ (w_laws_eqGraph a.Graph b.Graph r1 hr1) rfl cb37 (.cons (.agg (.cons (.same rfl) (.cons (.same rfl) .nil))) (.cons (.agg (.cons (.same rfl) (.cons (.same rfl) .nil))) .nil)) rfl rfl trivial) ⟨rfl, rfl, rfl, trivial⟩ trivial rfl rfl (Op10 (LT.not rfl) rfl rfl rfl (On (AWR.cond rfl (fun hc2 => ?_) (fun hc2 => ?_)))))))))
 ·refine Ws (en [] [] trivial trivial (Wr (asg (Bv false) rfl ⟨rfl, rfl⟩ rfl rfl (On (AWR.ret (FPost.mk (.inr rfl) ⟨rfl, trivial⟩ trivial rfl ⟨PermP.sc, trivial⟩ trivial))))))
 ·refine AWR.skip (Ws (Ws ?_))
  refine en [(2, (Cc (.pl 21 0))), (3, (Cc (.pl 22 0)))] [(21, (.row 51 [[(iC a.Graph.Points), (xF encTBar a.Graph.Bars), (xF encInt a.Ground)]])), (22, (.row 51 [[(iC b.Graph.Points), (xF encTBar b.Graph.Bars), (xF encInt b.Ground)]]))] ⟨rfl, rfl, trivial⟩ ⟨rfl, rfl, trivial⟩ (Wr (Op10 (LT.fieldPl rfl fo51_1) rfl rfl rfl (Op11 (LT.bload1 (c := (xF encInt a.Ground)) rfl ag45 (by exact rfl)) rfl rfl rfl rfl (Op10 (LT.fieldPl rfl fo51_1) rfl rfl rfl (Op11 (LT.bload1 (c := (xF encInt b.Ground)) rfl ag45 (by exact rfl)) rfl rfl rfl rfl (Ob' fun r3 hr3 => (AOR.pure (@LT.callF Try.prog _ _ 102 _ _ [(.c (xF encInt a.Ground)), (.c (xF encInt b.Ground))] _ _ [] _ _ _ _ (w_laws_eqIntS a.Ground b.Ground r3 hr3) rfl cb102 (.cons (.c (.same rfl)) (.cons (.c (.same rfl)) .nil)) rfl rfl trivial) ⟨rfl, rfl, rfl, trivial⟩ trivial rfl rfl (Op10 (LT.not rfl) rfl rfl rfl (On (AWR.cond rfl (fun hc4 => ?_) (fun hc4 => ?_)))))))))))
  ·refine Ws (Wr ?_)
   refine asg (Bv false) rfl ⟨rfl, rfl⟩ rfl rfl (On (AWR.ret (FPost.mk (.inr rfl) ⟨rfl, trivial⟩ trivial rfl ⟨PermP.sc, trivial⟩ trivial)))
  ·refine AWR.skip (Ws (Wr ?_))
   refine asg (Bv true) rfl ⟨rfl, rfl⟩ rfl rfl (On (AWR.ret (FPost.mk (.inr rfl) ⟨rfl, trivial⟩ trivial rfl ⟨PermP.sc, trivial⟩ trivial)))
end Go.Proofs.Yteognanhfpbghaa
end
section
set_option linter.unusedVariables false
set_option linter.unusedSimpArgs false
set_option linter.unnecessarySimpa false
set_option maxRecDepth 100000
set_option maxHeartbeats 8000000
open Go Go.Fw
namespace Go.Proofs.Yteognanhfpbghaa
theorem w_spec_InnerPoints (p : TPinned) : ∀ t, m_spec_InnerPoints p = some t → Fw.Fn Try.prog 116 [(.agg [(iC p.Graph.Points), (xF encTBar p.Graph.Bars), (xF encInt p.Ground)])] [] (.s (.c (lo 0 t.length))) [(0, (pR 3 encInt t))] [] [0] := by
 refine Fw.Fn.of (P := Try.prog) (X := [0]) (pn := []) (rs := (fun (t : (List Int)) => [(.c (lo 0 t.length))])) (dfs := (fun (t : (List Int)) => [(0, (pR 3 encInt t))])) Try.func116 rfl Try.ntmps116 (Nat.le_of_ble_eq_true rfl) rfl ?_
 intro w0 U0 R0 g0
 unfold m_spec_InnerPoints
 refine Ws (Wr ?_)
 refine Os10 (LT.box (n := 21) (v := (.agg [(iC p.Graph.Points), (xF encTBar p.Graph.Bars), (xF encInt p.Ground)])) rfl sz51 (by exact rfl)) rfl rfl rfl (asg (Cc (sC nilV)) rfl ⟨rfl, rfl⟩ rfl rfl (On (Ws (Wr ?_))))
 refine Os00 (LT.tbuildSlice (n := 22) (enc := encInt) [] ([] : List Int) rfl rfl und45 ti3 rfl rfl rfl rfl (by decide) (fun _ => rfl) rfl) rfl rfl (asg (Cc (lo 22 (([] : List Int).length))) rfl rfl rfl rfl (On (Ws (Ws (Wr ?_)))))
 refine asg (Iv 0) rfl ⟨rfl, rfl⟩ rfl rfl (On (AWR.block ?_))
 refine AWR.loop1 (id := 0) (m_spec_InnerPoints_L1 p) (fun s1 => ([(1, (Cc (.pl 21 0))), (3, (Cc (lo 22 s1.2.length))), (4, (Iv s1.1))], [(21, (.row 51 [[(iC p.Graph.Points), (xF encTBar p.Graph.Bars), (xF encInt p.Ground)]])), (22, (pR 3 encInt s1.2))])) (fun b26 => ([(3, (Cc (lo 22 b26.length)))], [(22, (pR 3 encInt b26))])) ?_ (Ent.of ⟨rfl, rfl, rfl, trivial⟩ ⟨rfl, rfl, trivial⟩) rfl (fun b26 _ => ?_)
 ·intro s1
  unfold m_spec_InnerPoints_L1
  refine Ws (Ws ?_)
  refine AWR.joinK (fun j29 => ([(1, (Cc (.pl 21 0))), (3, (Cc (lo 22 s1.2.length))), (4, (Iv s1.1)), (14, (Bv j29))], [(21, (.row 51 [[(iC p.Graph.Points), (xF encTBar p.Graph.Bars), (xF encInt p.Ground)]])), (22, (pR 3 encInt s1.2))])) ?_ (fun j29 _ => ?_)
  ·refine Wr (mv (Iv s1.1) rfl rfl rfl rfl (Op10 (LT.fieldPl rfl fo51_0) rfl rfl rfl (Op10 (LT.fieldPl rfl fo32_0) rfl rfl rfl (Op11 (LT.bload1 (c := (iC p.Graph.Points)) rfl ag3 (by exact rfl)) rfl rfl rfl rfl (Op20 (LT.lss rfl) rfl rfl rfl rfl (mv (Bv (decide (s1.1 < p.Graph.Points))) rfl rfl rfl rfl (AOR.split (fun hb30 => ?_) (fun hb30 => ?_))))))))
   ·refine Op11 (LT.bloadN (out := [(iC p.Graph.Points), (xF encTBar p.Graph.Bars), (xF encInt p.Ground)]) rfl ag51 (infS inf51) sz51 (by exact rfl) (by exact rfl)) rfl rfl ⟨_, rfl, .inl ⟨_, rfl, (by rw [hb30]; rfl)⟩⟩ rfl (Ob' fun r31 hr31 => (AOR.pure (@LT.callF Try.prog _ _ 94 _ _ [(.agg [(iC p.Graph.Points), (xF encTBar p.Graph.Bars), (xF encInt p.Ground)])] _ _ [] _ _ _ _ (w_spec_IsPinned p r31 hr31) rfl cb94 (.cons (.agg (.cons (.same rfl) (.cons (.same rfl) (.cons (.same rfl) .nil)))) .nil) rfl rfl trivial) ⟨rfl, rfl, trivial⟩ trivial ⟨_, rfl, .inl ⟨_, rfl, (by rw [hb30]; rfl)⟩⟩ rfl (Op20 (LT.pickT (v := (Bv r31)) rfl hb30) rfl rfl rfl rfl (On (AWR.nil ⟨rfl, Ent.of ⟨rfl, rfl, rfl, rfl, trivial⟩ ⟨rfl, rfl, trivial⟩⟩)))))
   ·refine Ok rfl rfl rfl (by rw [hb30]; rfl) rfl (Ok rfl rfl rfl (by rw [hb30]; rfl) rfl (Op20 (LT.pickF (v := (Bv false)) rfl hb30) rfl ⟨rfl, rfl⟩ rfl rfl (On (AWR.nil ⟨rfl, Ent.of ⟨rfl, rfl, rfl, rfl, trivial⟩ ⟨rfl, rfl, trivial⟩⟩))))
  ·refine AWR.cond rfl (fun hc32 => ?_) (fun hc32 => ?_)
   ·refine AWR.skip (Ws (AWR.block (Ws (Wr ?_))))
    refine Op10 (LT.fieldPl rfl fo51_1) rfl rfl rfl (Op11 (LT.bload1 (c := (xF encInt p.Ground)) rfl ag45 (by exact rfl)) rfl rfl rfl rfl (mv (Iv s1.1) rfl rfl rfl rfl (Ob' fun r33 hr33 => (AOR.pure (@LT.callF Try.prog _ _ 150 _ _ [(.c (xF encInt p.Ground)), (.c (iC s1.1))] _ _ [] _ _ _ _ (w_spec_l2Has p.Ground s1.1 r33 hr33) rfl cb150 (.cons (.c (.same rfl)) (.cons (.c (.same rfl)) .nil)) rfl rfl trivial) ⟨rfl, rfl, rfl, trivial⟩ trivial rfl rfl (Op10 (LT.not rfl) rfl rfl rfl (On (AWR.joinK (fun j36 => ([(1, (Cc (.pl 21 0))), (3, (Cc (lo 22 j36.length))), (4, (Iv s1.1))], [(21, (.row 51 [[(iC p.Graph.Points), (xF encTBar p.Graph.Bars), (xF encInt p.Ground)]])), (22, (pR 3 encInt j36))])) ?_ (fun j36 _ => ?_))))))))
    ·refine AWR.cond rfl (fun hc37 => ?_) (fun hc37 => ?_)
     ·refine Wr (mv (Cc (lo 22 s1.2.length)) rfl rfl rfl rfl (mv (Iv s1.1) rfl rfl rfl rfl (Os10 (LT.tbuildSlice (n := 25) (enc := encInt) [(0, .tmp 23, (.c (iC s1.1)))] ([s1.1] : List Int) rfl rfl und45 ti3 rfl rfl rfl rfl (by decide) (fun _ => rfl) rfl) rfl rfl rfl (Ob' fun u38 hu38 => (Os22 (LT.tappP (enc := encInt) rfl rfl rfl und45 ti3 rfl (by decide) (by decide) (fun _ => rfl) (lim_le hu38)) rfl rfl rfl rfl rfl rfl (asg (Cc (lo 22 ((s1.2 ++ ([s1.1] : List Int)).length))) rfl rfl rfl rfl (On (AWR.nil ⟨rfl, Ent.of ⟨rfl, rfl, rfl, trivial⟩ ⟨rfl, rfl, trivial⟩⟩))))))))
     ·refine AWR.skip (AWR.nil ⟨rfl, Ent.of ⟨rfl, rfl, rfl, trivial⟩ ⟨rfl, rfl, trivial⟩⟩)
    ·refine AWR.blk (Wr ?_)
     refine mv (Iv s1.1) rfl rfl rfl rfl (Op20 (LT.add rfl) rfl ⟨rfl, rfl⟩ rfl rfl (asg (Iv (w64 (s1.1 + 1))) rfl rfl rfl rfl (On (AWR.nil ⟨rfl, Ent.of ⟨rfl, rfl, rfl, trivial⟩ ⟨rfl, rfl, trivial⟩⟩))))
   ·refine AWR.exit_end rfl ⟨rfl, Ent.of ⟨rfl, trivial⟩ ⟨rfl, trivial⟩⟩
 ·refine Ws (Wr ?_)
  refine mv (Cc (lo 22 b26.length)) rfl rfl rfl rfl (asg (Cc (lo 22 b26.length)) rfl rfl rfl rfl (On (en [(2, (Cc (lo 22 b26.length)))] [(22, (pR 3 encInt b26))] ⟨rfl, trivial⟩ ⟨rfl, trivial⟩ (AWR.ent (Ent.mv 22 0 rfl rfl) (en [(2, (Cc (lo 0 b26.length)))] [(0, (pR 3 encInt b26))] ⟨rfl, trivial⟩ ⟨rfl, trivial⟩ (AWR.ret (FPost.mk (.inr rfl) ⟨rfl, trivial⟩ ⟨rfl, trivial⟩ rfl ⟨trivial, trivial⟩ ⟨PermO.prow' perm_encInt, trivial⟩)))))))
theorem w_spec_PinnedFreedom (p : TPinned) : ∀ t, m_spec_PinnedFreedom p = some t → Fw.Fn Try.prog 40 [(.agg [(iC p.Graph.Points), (xF encTBar p.Graph.Bars), (xF encInt p.Ground)])] [] (.s (.c (iC t))) [] [] [] := by
 refine Fw.Fn.of (P := Try.prog) (X := []) (pn := []) (rs := (fun (t : Int) => [(.c (iC t))])) (dfs := (fun (t : Int) => [])) Try.func40 rfl Try.ntmps40 (Nat.le_of_ble_eq_true rfl) rfl ?_
 intro w0 U0 R0 g0
 unfold m_spec_PinnedFreedom
 refine Ws (Wr ?_)
 refine Os10 (LT.box (n := 21) (v := (.agg [(iC p.Graph.Points), (xF encTBar p.Graph.Bars), (xF encInt p.Ground)])) rfl sz51 (by exact rfl)) rfl rfl rfl (asg (Iv 0) rfl ⟨rfl, rfl⟩ rfl rfl (On (Ws (Ws (Wr ?_)))))
 refine Op11 (LT.bloadN (out := [(iC p.Graph.Points), (xF encTBar p.Graph.Bars), (xF encInt p.Ground)]) rfl ag51 (infS inf51) sz51 (by exact rfl) (by exact rfl)) rfl rfl rfl rfl (Ob' fun r1 hr1 => (AOR.pure (@LT.callF Try.prog _ _ 94 _ _ [(.agg [(iC p.Graph.Points), (xF encTBar p.Graph.Bars), (xF encInt p.Ground)])] _ _ [] _ _ _ _ (w_spec_IsPinned p r1 hr1) rfl cb94 (.cons (.agg (.cons (.same rfl) (.cons (.same rfl) (.cons (.same rfl) .nil)))) .nil) rfl rfl trivial) ⟨rfl, rfl, trivial⟩ trivial rfl rfl (Op10 (LT.not rfl) rfl rfl rfl (On (AWR.cond rfl (fun hc2 => ?_) (fun hc2 => ?_))))))
 ·refine Ws (Wr ?_)
  refine asg (Iv (-1)) rfl ⟨rfl, rfl⟩ rfl rfl (On (AWR.ret (FPost.mk (.inr rfl) ⟨rfl, trivial⟩ trivial rfl ⟨PermP.sc, trivial⟩ trivial)))
 ·refine AWR.skip (Ws (AWR.draw mixed ?_))
  refine Dp11 (LT.bloadN (out := [(iC p.Graph.Points), (xF encTBar p.Graph.Bars), (xF encInt p.Ground)]) rfl ag51 (infS inf51) sz51 (by exact rfl) (by exact rfl)) rfl rfl rfl rfl (AOD.bind fun r3 hr3 => (AOD.step (@LT.callF Try.prog _ _ 116 _ _ [(.agg [(iC p.Graph.Points), (xF encTBar p.Graph.Bars), (xF encInt p.Ground)])] _ _ [] _ _ _ _ ((show Fw.Fn Try.prog 116 [(.agg [(iC p.Graph.Points), (xF encTBar p.Graph.Bars), (xF encInt p.Ground)])] [] (Cc (lo 24 r3.length)) [(24, (pR 3 encInt r3))] [] [24] from Fw.Fn.ren [(0, 24)] (w_spec_InnerPoints p r3 hr3) rfl)) rfl cb116 (.cons (.agg (.cons (.same rfl) (.cons (.same rfl) (.cons (.same rfl) .nil)))) .nil) rfl rfl trivial) ⟨rfl, rfl, trivial⟩ trivial rfl rfl (Dp10 (LT.lenLoc rfl und45) rfl rfl rfl (Dp20 (LT.mul rfl) ⟨rfl, rfl⟩ rfl rfl rfl (Dp11 (LT.bloadN (out := [(iC p.Graph.Points), (xF encTBar p.Graph.Bars), (xF encInt p.Ground)]) rfl ag51 (infS inf51) sz51 (by exact rfl) (by exact rfl)) rfl rfl rfl rfl (AOD.bind fun r4 hr4 => (AOD.pure (@LT.callF Try.prog _ _ 25 _ _ [(.agg [(iC p.Graph.Points), (xF encTBar p.Graph.Bars), (xF encInt p.Ground)])] _ _ [] _ _ _ _ (w_spec_PinnedRank p r4 hr4) rfl cb25 (.cons (.agg (.cons (.same rfl) (.cons (.same rfl) (.cons (.same rfl) .nil)))) .nil) rfl rfl trivial) ⟨rfl, rfl, trivial⟩ trivial rfl rfl (Dp20 (LT.sub rfl) rfl rfl rfl rfl (Dp10 (LT.assign (v := (Iv (w64 ((w64 (2 * (r3.length : Int))) - r4)))) rfl) rfl rfl rfl (AOD.nil (by kernel_rfl) (AWR.ret (FPost.mk (.inr rfl) ⟨rfl, trivial⟩ trivial rfl ⟨PermP.sc, trivial⟩ trivial))))))))))))
theorem w_impl_InnerPoints (p : TPinned) : ∀ t, m_impl_InnerPoints p = some t → Fw.Fn Try.prog 117 [(.agg [(iC p.Graph.Points), (xF encTBar p.Graph.Bars), (xF encInt p.Ground)])] [] (.s (.c (lo 0 t.length))) [(0, (pR 3 encInt t))] [] [0] := by
 refine Fw.Fn.of (P := Try.prog) (X := [0]) (pn := []) (rs := (fun (t : (List Int)) => [(.c (lo 0 t.length))])) (dfs := (fun (t : (List Int)) => [(0, (pR 3 encInt t))])) Try.func117 rfl Try.ntmps117 (Nat.le_of_ble_eq_true rfl) rfl ?_
 intro w0 U0 R0 g0
 unfold m_impl_InnerPoints
 refine Ws (Wr ?_)
 refine Os10 (LT.box (n := 21) (v := (.agg [(iC p.Graph.Points), (xF encTBar p.Graph.Bars), (xF encInt p.Ground)])) rfl sz51 (by exact rfl)) rfl rfl rfl (asg (Cc (sC nilV)) rfl ⟨rfl, rfl⟩ rfl rfl (On (Ws (Wr ?_))))
 refine Os00 (LT.tbuildSlice (n := 22) (enc := encInt) [] ([] : List Int) rfl rfl und45 ti3 rfl rfl rfl rfl (by decide) (fun _ => rfl) rfl) rfl rfl (asg (Cc (lo 22 (([] : List Int).length))) rfl rfl rfl rfl (On (Ws (Ws (Wr ?_)))))
 refine Op11 (LT.bloadN (out := [(iC p.Graph.Points), (xF encTBar p.Graph.Bars), (xF encInt p.Ground)]) rfl ag51 (infS inf51) sz51 (by exact rfl) (by exact rfl)) rfl rfl rfl rfl (Ob' fun r1 hr1 => (AOR.pure (@LT.callF Try.prog _ _ 99 _ _ [(.agg [(iC p.Graph.Points), (xF encTBar p.Graph.Bars), (xF encInt p.Ground)])] _ _ [] _ _ _ _ (w_impl_IsPinned p r1 hr1) rfl cb99 (.cons (.agg (.cons (.same rfl) (.cons (.same rfl) (.cons (.same rfl) .nil)))) .nil) rfl rfl trivial) ⟨rfl, rfl, trivial⟩ trivial rfl rfl (Op10 (LT.not rfl) rfl rfl rfl (On (AWR.cond rfl (fun hc2 => ?_) (fun hc2 => ?_))))))
 ·refine Ws (en [(3, (Cc (lo 22 (([] : List Int).length))))] [(22, (pR 3 encInt ([] : List Int)))] ⟨rfl, trivial⟩ ⟨rfl, trivial⟩ (Wr (mv (Cc (lo 22 (([] : List Int).length))) rfl rfl rfl rfl (asg (Cc (lo 22 (([] : List Int).length))) rfl rfl rfl rfl (On (en [(2, (Cc (lo 22 (([] : List Int).length))))] [(22, (pR 3 encInt ([] : List Int)))] ⟨rfl, trivial⟩ ⟨rfl, trivial⟩ (AWR.ent (Ent.mv 22 0 rfl rfl) (en [(2, (Cc (lo 0 (([] : List Int).length))))] [(0, (pR 3 encInt ([] : List Int)))] ⟨rfl, trivial⟩ ⟨rfl, trivial⟩ (AWR.ret (FPost.mk (.inr rfl) ⟨rfl, trivial⟩ ⟨rfl, trivial⟩ rfl ⟨trivial, trivial⟩ ⟨PermO.prow' perm_encInt, trivial⟩))))))))))
 ·refine AWR.skip (Ws (Ws ?_))
  refine en [(1, (Cc (.pl 21 0))), (3, (Cc (lo 22 (([] : List Int).length))))] [(21, (.row 51 [[(iC p.Graph.Points), (xF encTBar p.Graph.Bars), (xF encInt p.Ground)]])), (22, (pR 3 encInt ([] : List Int)))] ⟨rfl, rfl, trivial⟩ ⟨rfl, rfl, trivial⟩ (Wr (Op10 (LT.fieldPl rfl fo51_0) rfl rfl rfl (Op10 (LT.fieldPl rfl fo32_0) rfl rfl rfl (Op11 (LT.bload1 (c := (iC p.Graph.Points)) rfl ag3 (by exact rfl)) rfl rfl rfl rfl (mv (Iv 0) rfl ⟨rfl, rfl⟩ rfl rfl (On (AWR.block ?_)))))))
  refine AWR.loop1 (id := 0) (m_impl_InnerPoints_L1 p) (fun s3 => ([(1, (Cc (.pl 21 0))), (3, (Cc (lo 22 s3.2.length))), (12, (Iv p.Graph.Points)), (13, (Iv s3.1))], [(21, (.row 51 [[(iC p.Graph.Points), (xF encTBar p.Graph.Bars), (xF encInt p.Ground)]])), (22, (pR 3 encInt s3.2))])) (fun b18 => ([(3, (Cc (lo 22 b18.length)))], [(22, (pR 3 encInt b18))])) ?_ (Ent.of ⟨rfl, rfl, rfl, rfl, trivial⟩ ⟨rfl, rfl, trivial⟩) rfl (fun b18 _ => ?_)
  ·intro s3
   unfold m_impl_InnerPoints_L1
   refine Ws (Wr ?_)
   refine Op20 (LT.lss rfl) rfl rfl rfl rfl (On (Ws ?_))
   refine AWR.cond rfl (fun hc19 => ?_) (fun hc19 => ?_)
   ·refine AWR.skip (Ws (AWR.block (Ws (Wr ?_))))
    refine mv (Iv s3.1) rfl rfl rfl rfl (asg (Iv s3.1) rfl rfl rfl rfl (On (Ws (Wr ?_))))
    refine Op10 (LT.fieldPl rfl fo51_1) rfl rfl rfl (Op11 (LT.bload1 (c := (xF encInt p.Ground)) rfl ag45 (by exact rfl)) rfl rfl rfl rfl (mv (Iv s3.1) rfl rfl rfl rfl (Ob' fun r20 hr20 => (AOR.pure (@LT.callF Try.prog _ _ 149 _ _ [(.c (xF encInt p.Ground)), (.c (iC s3.1))] _ _ [] _ _ _ _ (w_slices_Contains p.Ground s3.1 r20 hr20) rfl cb149 (.cons (.c (.same rfl)) (.cons (.c (.same rfl)) .nil)) rfl rfl trivial) ⟨rfl, rfl, rfl, trivial⟩ trivial rfl rfl (Op10 (LT.not rfl) rfl rfl rfl (On (AWR.joinK (fun j23 => ([(1, (Cc (.pl 21 0))), (3, (Cc (lo 22 j23.length))), (12, (Iv p.Graph.Points)), (13, (Iv s3.1))], [(21, (.row 51 [[(iC p.Graph.Points), (xF encTBar p.Graph.Bars), (xF encInt p.Ground)]])), (22, (pR 3 encInt j23))])) ?_ (fun j23 _ => ?_))))))))
    ·refine AWR.cond rfl (fun hc24 => ?_) (fun hc24 => ?_)
     ·refine Wr (mv (Cc (lo 22 s3.2.length)) rfl rfl rfl rfl (mv (Iv s3.1) rfl rfl rfl rfl (Os10 (LT.tbuildSlice (n := 25) (enc := encInt) [(0, .tmp 22, (.c (iC s3.1)))] ([s3.1] : List Int) rfl rfl und45 ti3 rfl rfl rfl rfl (by decide) (fun _ => rfl) rfl) rfl rfl rfl (Ob' fun u25 hu25 => (Os22 (LT.tappP (enc := encInt) rfl rfl rfl und45 ti3 rfl (by decide) (by decide) (fun _ => rfl) (lim_le hu25)) rfl rfl rfl rfl rfl rfl (asg (Cc (lo 22 ((s3.2 ++ ([s3.1] : List Int)).length))) rfl rfl rfl rfl (On (AWR.nil ⟨rfl, Ent.of ⟨rfl, rfl, rfl, rfl, trivial⟩ ⟨rfl, rfl, trivial⟩⟩))))))))
     ·refine AWR.skip (AWR.nil ⟨rfl, Ent.of ⟨rfl, rfl, rfl, rfl, trivial⟩ ⟨rfl, rfl, trivial⟩⟩)
    ·refine AWR.blk (Wr ?_)
     refine Op20 (LT.add rfl) rfl ⟨rfl, rfl⟩ rfl rfl (mv (Iv (w64 (s3.1 + 1))) rfl rfl rfl rfl (On (AWR.nil ⟨rfl, Ent.of ⟨rfl, rfl, rfl, rfl, trivial⟩ ⟨rfl, rfl, trivial⟩⟩)))
   ·refine AWR.exit_end rfl ⟨rfl, Ent.of ⟨rfl, trivial⟩ ⟨rfl, trivial⟩⟩
  ·refine Ws (Wr ?_)
   refine mv (Cc (lo 22 b18.length)) rfl rfl rfl rfl (asg (Cc (lo 22 b18.length)) rfl rfl rfl rfl (On (en [(2, (Cc (lo 22 b18.length)))] [(22, (pR 3 encInt b18))] ⟨rfl, trivial⟩ ⟨rfl, trivial⟩ (AWR.ent (Ent.mv 22 0 rfl rfl) (en [(2, (Cc (lo 0 b18.length)))] [(0, (pR 3 encInt b18))] ⟨rfl, trivial⟩ ⟨rfl, trivial⟩ (AWR.ret (FPost.mk (.inr rfl) ⟨rfl, trivial⟩ ⟨rfl, trivial⟩ rfl ⟨trivial, trivial⟩ ⟨PermO.prow' perm_encInt, trivial⟩)))))))
theorem w_impl_PinnedFreedom (p : TPinned) : ∀ t, m_impl_PinnedFreedom p = some t → Fw.Fn Try.prog 41 [(.agg [(iC p.Graph.Points), (xF encTBar p.Graph.Bars), (xF encInt p.Ground)])] [] (.s (.c (iC t))) [] [] [] := by
 refine Fw.Fn.of (P := Try.prog) (X := []) (pn := []) (rs := (fun (t : Int) => [(.c (iC t))])) (dfs := (fun (t : Int) => [])) Try.func41 rfl Try.ntmps41 (Nat.le_of_ble_eq_true rfl) rfl ?_
 intro w0 U0 R0 g0
 unfold m_impl_PinnedFreedom
 refine Ws (Wr ?_)
 refine Os10 (LT.box (n := 21) (v := (.agg [(iC p.Graph.Points), (xF encTBar p.Graph.Bars), (xF encInt p.Ground)])) rfl sz51 (by exact rfl)) rfl rfl rfl (asg (Iv 0) rfl ⟨rfl, rfl⟩ rfl rfl (On (Ws (Ws (Wr ?_)))))
 refine Op11 (LT.bloadN (out := [(iC p.Graph.Points), (xF encTBar p.Graph.Bars), (xF encInt p.Ground)]) rfl ag51 (infS inf51) sz51 (by exact rfl) (by exact rfl)) rfl rfl rfl rfl (Ob' fun r1 hr1 => (AOR.pure (@LT.callF Try.prog _ _ 99 _ _ [(.agg [(iC p.Graph.Points), (xF encTBar p.Graph.Bars), (xF encInt p.Ground)])] _ _ [] _ _ _ _ (w_impl_IsPinned p r1 hr1) rfl cb99 (.cons (.agg (.cons (.same rfl) (.cons (.same rfl) (.cons (.same rfl) .nil)))) .nil) rfl rfl trivial) ⟨rfl, rfl, trivial⟩ trivial rfl rfl (Op10 (LT.not rfl) rfl rfl rfl (On (AWR.cond rfl (fun hc2 => ?_) (fun hc2 => ?_))))))
 ·refine Ws (Wr ?_)
  refine asg (Iv (-1)) rfl ⟨rfl, rfl⟩ rfl rfl (On (AWR.ret (FPost.mk (.inr rfl) ⟨rfl, trivial⟩ trivial rfl ⟨PermP.sc, trivial⟩ trivial)))
 ·refine AWR.skip (Ws (AWR.draw mixed ?_))
  refine Dp11 (LT.bloadN (out := [(iC p.Graph.Points), (xF encTBar p.Graph.Bars), (xF encInt p.Ground)]) rfl ag51 (infS inf51) sz51 (by exact rfl) (by exact rfl)) rfl rfl rfl rfl (AOD.bind fun r3 hr3 => (AOD.step (@LT.callF Try.prog _ _ 117 _ _ [(.agg [(iC p.Graph.Points), (xF encTBar p.Graph.Bars), (xF encInt p.Ground)])] _ _ [] _ _ _ _ ((show Fw.Fn Try.prog 117 [(.agg [(iC p.Graph.Points), (xF encTBar p.Graph.Bars), (xF encInt p.Ground)])] [] (Cc (lo 24 r3.length)) [(24, (pR 3 encInt r3))] [] [24] from Fw.Fn.ren [(0, 24)] (w_impl_InnerPoints p r3 hr3) rfl)) rfl cb117 (.cons (.agg (.cons (.same rfl) (.cons (.same rfl) (.cons (.same rfl) .nil)))) .nil) rfl rfl trivial) ⟨rfl, rfl, trivial⟩ trivial rfl rfl (Dp10 (LT.lenLoc rfl und45) rfl rfl rfl (Dp20 (LT.mul rfl) ⟨rfl, rfl⟩ rfl rfl rfl (Dp11 (LT.bloadN (out := [(iC p.Graph.Points), (xF encTBar p.Graph.Bars), (xF encInt p.Ground)]) rfl ag51 (infS inf51) sz51 (by exact rfl) (by exact rfl)) rfl rfl rfl rfl (AOD.bind fun r4 hr4 => (AOD.pure (@LT.callF Try.prog _ _ 27 _ _ [(.agg [(iC p.Graph.Points), (xF encTBar p.Graph.Bars), (xF encInt p.Ground)])] _ _ [] _ _ _ _ (w_impl_PinnedRank p r4 hr4) rfl cb27 (.cons (.agg (.cons (.same rfl) (.cons (.same rfl) (.cons (.same rfl) .nil)))) .nil) rfl rfl trivial) ⟨rfl, rfl, trivial⟩ trivial rfl rfl (Dp20 (LT.sub rfl) rfl rfl rfl rfl (Dp10 (LT.assign (v := (Iv (w64 ((w64 (2 * (r3.length : Int))) - r4)))) rfl) rfl rfl rfl (AOD.nil (by kernel_rfl) (AWR.ret (FPost.mk (.inr rfl) ⟨rfl, trivial⟩ trivial rfl ⟨PermP.sc, trivial⟩ trivial))))))))))))
end Go.Proofs.Yteognanhfpbghaa
end
section
set_option linter.unusedVariables false
set_option linter.unusedSimpArgs false
set_option linter.unnecessarySimpa false
set_option maxRecDepth 100000
set_option maxHeartbeats 8000000
open Go Go.Fw
namespace Go.Proofs.Yteognanhfpbghaa
theorem w_spec_IsPinnedRigid (p : TPinned) : ∀ t, m_spec_IsPinnedRigid p = some t → Fw.Fn Try.prog 42 [(.agg [(iC p.Graph.Points), (xF encTBar p.Graph.Bars), (xF encInt p.Ground)])] [] (.s (.c (bC t))) [] [] [] := by
 refine Fw.Fn.of (P := Try.prog) (X := []) (pn := []) (rs := (fun (t : Bool) => [(.c (bC t))])) (dfs := (fun (t : Bool) => [])) Try.func42 rfl Try.ntmps42 (Nat.le_of_ble_eq_true rfl) rfl ?_
 intro w0 U0 R0 g0
 unfold m_spec_IsPinnedRigid
 refine Ws (Wr ?_)
 refine Os10 (LT.box (n := 21) (v := (.agg [(iC p.Graph.Points), (xF encTBar p.Graph.Bars), (xF encInt p.Ground)])) rfl sz51 (by exact rfl)) rfl rfl rfl (asg (Bv false) rfl ⟨rfl, rfl⟩ rfl rfl (On (Ws (Wr ?_))))
 refine Op11 (LT.bloadN (out := [(iC p.Graph.Points), (xF encTBar p.Graph.Bars), (xF encInt p.Ground)]) rfl ag51 (infS inf51) sz51 (by exact rfl) (by exact rfl)) rfl rfl rfl rfl (Ob' fun r1 hr1 => (AOR.pure (@LT.callF Try.prog _ _ 40 _ _ [(.agg [(iC p.Graph.Points), (xF encTBar p.Graph.Bars), (xF encInt p.Ground)])] _ _ [] _ _ _ _ (w_spec_PinnedFreedom p r1 hr1) rfl cb40 (.cons (.agg (.cons (.same rfl) (.cons (.same rfl) (.cons (.same rfl) .nil)))) .nil) rfl rfl trivial) ⟨rfl, rfl, trivial⟩ trivial rfl rfl (Op20 (LT.eql rfl) rfl ⟨rfl, rfl⟩ rfl rfl (asg (Bv (r1 == 0)) rfl rfl rfl rfl (On (AWR.ret (FPost.mk (.inr rfl) ⟨rfl, trivial⟩ trivial rfl ⟨PermP.sc, trivial⟩ trivial)))))))
theorem w_impl_IsPinnedRigid (p : TPinned) : ∀ t, m_impl_IsPinnedRigid p = some t → Fw.Fn Try.prog 43 [(.agg [(iC p.Graph.Points), (xF encTBar p.Graph.Bars), (xF encInt p.Ground)])] [] (.s (.c (bC t))) [] [] [] := by
 refine Fw.Fn.of (P := Try.prog) (X := []) (pn := []) (rs := (fun (t : Bool) => [(.c (bC t))])) (dfs := (fun (t : Bool) => [])) Try.func43 rfl Try.ntmps43 (Nat.le_of_ble_eq_true rfl) rfl ?_
 intro w0 U0 R0 g0
 unfold m_impl_IsPinnedRigid
 refine Ws (Wr ?_)
 refine Os10 (LT.box (n := 21) (v := (.agg [(iC p.Graph.Points), (xF encTBar p.Graph.Bars), (xF encInt p.Ground)])) rfl sz51 (by exact rfl)) rfl rfl rfl (asg (Bv false) rfl ⟨rfl, rfl⟩ rfl rfl (On (Ws (Wr ?_))))
 refine Op11 (LT.bloadN (out := [(iC p.Graph.Points), (xF encTBar p.Graph.Bars), (xF encInt p.Ground)]) rfl ag51 (infS inf51) sz51 (by exact rfl) (by exact rfl)) rfl rfl rfl rfl (Ob' fun r1 hr1 => (AOR.pure (@LT.callF Try.prog _ _ 41 _ _ [(.agg [(iC p.Graph.Points), (xF encTBar p.Graph.Bars), (xF encInt p.Ground)])] _ _ [] _ _ _ _ (w_impl_PinnedFreedom p r1 hr1) rfl cb41 (.cons (.agg (.cons (.same rfl) (.cons (.same rfl) (.cons (.same rfl) .nil)))) .nil) rfl rfl trivial) ⟨rfl, rfl, trivial⟩ trivial rfl rfl (Op20 (LT.eql rfl) rfl ⟨rfl, rfl⟩ rfl rfl (asg (Bv (r1 == 0)) rfl rfl rfl rfl (On (AWR.ret (FPost.mk (.inr rfl) ⟨rfl, trivial⟩ trivial rfl ⟨PermP.sc, trivial⟩ trivial)))))))
theorem w_laws_FnExactIsPinnedRigid (aP : TPinned) : ∀ t, m_laws_FnExactIsPinnedRigid aP = some t → Fw.Fn Try.prog 9 [(.agg [(iC aP.Graph.Points), (xF encTBar aP.Graph.Bars), (xF encInt aP.Ground)])] [] (.s (.c (bC t))) [] [] [] := by
 refine Fw.Fn.of (P := Try.prog) (X := []) (pn := []) (rs := (fun (t : Bool) => [(.c (bC t))])) (dfs := (fun (t : Bool) => [])) Try.func9 rfl Try.ntmps9 (Nat.le_of_ble_eq_true rfl) rfl ?_
 intro w0 U0 R0 g0
 unfold m_laws_FnExactIsPinnedRigid
 refine Ws (Wr ?_)
 refine Os10 (LT.box (n := 21) (v := (.agg [(iC aP.Graph.Points), (xF encTBar aP.Graph.Bars), (xF encInt aP.Ground)])) rfl sz47 (by exact rfl)) rfl rfl rfl (asg (Bv false) rfl ⟨rfl, rfl⟩ rfl rfl (On (Ws (Wr ?_))))
 refine asg (Iv 1048576) rfl ⟨rfl, rfl⟩ rfl rfl (On (Ws (Wr ?_)))
 refine Op11 (LT.bloadN (out := [(iC aP.Graph.Points), (xF encTBar aP.Graph.Bars), (xF encInt aP.Ground)]) rfl ag47 (infS inf47) sz47 (by exact rfl) (by exact rfl)) rfl rfl rfl rfl (mv (Iv 1048576) rfl rfl rfl rfl (Ob' fun r1 hr1 => (AOR.pure (@LT.callF Try.prog _ _ 24 _ _ [(.agg [(iC aP.Graph.Points), (xF encTBar aP.Graph.Bars), (xF encInt aP.Ground)]), (.c (iC 1048576))] _ _ [] _ _ _ _ (w_laws_szPinned aP 1048576 r1 hr1) rfl cb24 (.cons (.agg (.cons (.same rfl) (.cons (.same rfl) (.cons (.same rfl) .nil)))) (.cons (.c (.same rfl)) .nil)) rfl rfl trivial) ⟨rfl, rfl, rfl, trivial⟩ trivial rfl rfl (asg (Iv r1) rfl rfl rfl rfl (On (Ws (Ws (Wr ?_))))))))
 refine mv (Iv r1) rfl rfl rfl rfl (Op20 (LT.lss rfl) rfl ⟨rfl, rfl⟩ rfl rfl (On (AWR.cond rfl (fun hc2 => ?_) (fun hc2 => ?_))))
 ·refine Ws (en [] [] trivial trivial (Wr (asg (Bv true) rfl ⟨rfl, rfl⟩ rfl rfl (On (AWR.ret (FPost.mk (.inr rfl) ⟨rfl, trivial⟩ trivial rfl ⟨PermP.sc, trivial⟩ trivial))))))
 ·refine AWR.skip (Ws ?_)
  refine en [(1, (Cc (.pl 21 0)))] [(21, (.row 47 [[(iC aP.Graph.Points), (xF encTBar aP.Graph.Bars), (xF encInt aP.Ground)]]))] ⟨rfl, trivial⟩ ⟨rfl, trivial⟩ (Wr (Op11 (LT.bloadN (out := [(iC aP.Graph.Points), (xF encTBar aP.Graph.Bars), (xF encInt aP.Ground)]) rfl ag47 (infS inf47) sz47 (by exact rfl) (by exact rfl)) rfl rfl rfl rfl (Ob' fun r3 hr3 => (AOR.step (@LT.callF Try.prog _ _ 26 _ _ [(.agg [(iC aP.Graph.Points), (xF encTBar aP.Graph.Bars), (xF encInt aP.Ground)])] _ _ [] _ _ _ _ ((show Fw.Fn Try.prog 26 [(.agg [(iC aP.Graph.Points), (xF encTBar aP.Graph.Bars), (xF encInt aP.Ground)])] [] (Ag  [(iC r3.Graph.Points), (lo 24 r3.Graph.Bars.length), (lo 25 r3.Ground.length)]) [(24, (pR 112 encTBar r3.Graph.Bars)), (25, (pR 3 encInt r3.Ground))] [] [24, 25] from Fw.Fn.ren [(0, 24), (1, 25)] (w_laws_toPinned aP r3 hr3) rfl)) rfl cb26 (.cons (.agg (.cons (.same rfl) (.cons (.same rfl) (.cons (.same rfl) .nil)))) .nil) rfl rfl trivial) ⟨rfl, rfl, trivial⟩ trivial rfl rfl (Ob' fun r4 hr4 => (AOR.pure (@LT.callF Try.prog _ _ 42 _ _ [(.agg [(iC r3.Graph.Points), (lo 24 r3.Graph.Bars.length), (lo 25 r3.Ground.length)])] _ _ [(24, (pR 112 encTBar r3.Graph.Bars)), (25, (pR 3 encInt r3.Ground))] _ _ _ _ (w_spec_IsPinnedRigid r3 r4 hr4) rfl cb42 (.cons (.agg (.cons (.same rfl) (.cons (.tloc rfl rfl) (.cons (.tloc rfl rfl) .nil)))) .nil) rfl rfl trivial) ⟨rfl, rfl, trivial⟩ ⟨rfl, rfl, trivial⟩ rfl rfl (asg (Bv r4) rfl rfl rfl rfl (On (Ws (Wr ?_))))))))))
  refine Op11 (LT.bloadN (out := [(iC aP.Graph.Points), (xF encTBar aP.Graph.Bars), (xF encInt aP.Ground)]) rfl ag47 (infS inf47) sz47 (by exact rfl) (by exact rfl)) rfl rfl rfl rfl (Ob' fun r5 hr5 => (AOR.step (@LT.callF Try.prog _ _ 26 _ _ [(.agg [(iC aP.Graph.Points), (xF encTBar aP.Graph.Bars), (xF encInt aP.Ground)])] _ _ [] _ _ _ _ ((show Fw.Fn Try.prog 26 [(.agg [(iC aP.Graph.Points), (xF encTBar aP.Graph.Bars), (xF encInt aP.Ground)])] [] (Ag  [(iC r5.Graph.Points), (lo 28 r5.Graph.Bars.length), (lo 29 r5.Ground.length)]) [(28, (pR 112 encTBar r5.Graph.Bars)), (29, (pR 3 encInt r5.Ground))] [] [28, 29] from Fw.Fn.ren [(0, 28), (1, 29)] (w_laws_toPinned aP r5 hr5) rfl)) rfl cb26 (.cons (.agg (.cons (.same rfl) (.cons (.same rfl) (.cons (.same rfl) .nil)))) .nil) rfl rfl trivial) ⟨rfl, rfl, trivial⟩ trivial rfl rfl (Os00 (LT.alloc (n := 30) (cells := [(iC 0), (sC nilV), (sC nilV)]) rfl ti51 rfl rfl rfl) rfl rfl (Os21 (LT.bstore (v := (.agg [(iC r5.Graph.Points), (lo 28 r5.Graph.Bars.length), (lo 29 r5.Ground.length)])) (out := [(iC r5.Graph.Points), (lo 28 r5.Graph.Bars.length), (lo 29 r5.Ground.length)]) rfl rfl (infS inf51) sz51 (by exact rfl) (by exact Nat.le_of_ble_eq_true rfl) (by exact rfl)) rfl rfl rfl rfl rfl (On (Ws ?_))))))
  refine en [(1, (Cc (.pl 21 0))), (4, (Bv r4)), (5, (Cc (.pl 30 0)))] [(21, (.row 47 [[(iC aP.Graph.Points), (xF encTBar aP.Graph.Bars), (xF encInt aP.Ground)]])), (28, (pR 112 encTBar r5.Graph.Bars)), (29, (pR 3 encInt r5.Ground)), (30, (.row 51 [[(iC r5.Graph.Points), (lo 28 r5.Graph.Bars.length), (lo 29 r5.Ground.length)]]))] ⟨rfl, rfl, rfl, trivial⟩ ⟨rfl, rfl, rfl, rfl, trivial⟩ (Wr (Op11 (LT.bloadN (out := [(iC r5.Graph.Points), (lo 28 r5.Graph.Bars.length), (lo 29 r5.Ground.length)]) rfl ag51 (infS inf51) sz51 (by exact rfl) (by exact rfl)) rfl rfl rfl rfl (Ob' fun r6 hr6 => (AOR.pure (@LT.callF Try.prog _ _ 43 _ _ [(.agg [(iC r5.Graph.Points), (lo 28 r5.Graph.Bars.length), (lo 29 r5.Ground.length)])] _ _ [(28, (pR 112 encTBar r5.Graph.Bars)), (29, (pR 3 encInt r5.Ground))] _ _ _ _ (w_impl_IsPinnedRigid r5 r6 hr6) rfl cb43 (.cons (.agg (.cons (.same rfl) (.cons (.tloc rfl rfl) (.cons (.tloc rfl rfl) .nil)))) .nil) rfl rfl trivial) ⟨rfl, rfl, trivial⟩ ⟨rfl, rfl, trivial⟩ rfl rfl (asg (Bv r6) rfl rfl rfl rfl (On (Ws (Ws (Wr ?_)))))))))
  refine mv (Bv r6) rfl rfl rfl rfl (mv (Bv r4) rfl rfl rfl rfl (Op20 (LT.neqB rfl und4) rfl rfl rfl rfl (On (AWR.cond rfl (fun hc7 => ?_) (fun hc7 => ?_)))))
  ·refine Ws (Wr ?_)
   refine asg (Bv false) rfl ⟨rfl, rfl⟩ rfl rfl (On (AWR.ret (FPost.mk (.inr rfl) ⟨rfl, trivial⟩ trivial rfl ⟨PermP.sc, trivial⟩ trivial)))
  ·refine AWR.skip (Ws (Ws (AWR.draw mixed ?_)))
   refine Dp11 (LT.bloadN (out := [(iC r5.Graph.Points), (lo 28 r5.Graph.Bars.length), (lo 29 r5.Ground.length)]) rfl ag51 (infS inf51) sz51 (by exact rfl) (by exact rfl)) rfl rfl rfl rfl (Dp11 (LT.bloadN (out := [(iC aP.Graph.Points), (xF encTBar aP.Graph.Bars), (xF encInt aP.Ground)]) rfl ag47 (infS inf47) sz47 (by exact rfl) (by exact rfl)) rfl rfl rfl rfl (AOD.bind fun r8 hr8 => (AOD.step (@LT.callF Try.prog _ _ 26 _ _ [(.agg [(iC aP.Graph.Points), (xF encTBar aP.Graph.Bars), (xF encInt aP.Ground)])] _ _ [] _ _ _ _ ((show Fw.Fn Try.prog 26 [(.agg [(iC aP.Graph.Points), (xF encTBar aP.Graph.Bars), (xF encInt aP.Ground)])] [] (Ag  [(iC r8.Graph.Points), (lo 33 r8.Graph.Bars.length), (lo 34 r8.Ground.length)]) [(33, (pR 112 encTBar r8.Graph.Bars)), (34, (pR 3 encInt r8.Ground))] [] [33, 34] from Fw.Fn.ren [(0, 33), (1, 34)] (w_laws_toPinned aP r8 hr8) rfl)) rfl cb26 (.cons (.agg (.cons (.same rfl) (.cons (.same rfl) (.cons (.same rfl) .nil)))) .nil) rfl rfl trivial) ⟨rfl, rfl, trivial⟩ trivial rfl rfl (AOD.bind fun r9 hr9 => (AOD.pure (@LT.callF Try.prog _ _ 28 _ _ [(.agg [(iC r5.Graph.Points), (lo 28 r5.Graph.Bars.length), (lo 29 r5.Ground.length)]), (.agg [(iC r8.Graph.Points), (lo 33 r8.Graph.Bars.length), (lo 34 r8.Ground.length)])] _ _ [(28, (pR 112 encTBar r5.Graph.Bars)), (29, (pR 3 encInt r5.Ground)), (33, (pR 112 encTBar r8.Graph.Bars)), (34, (pR 3 encInt r8.Ground))] _ _ _ _ (w_laws_eqPinned r5 r8 r9 hr9) rfl cb28 (.cons (.agg (.cons (.same rfl) (.cons (.tloc rfl rfl) (.cons (.tloc rfl rfl) .nil)))) (.cons (.agg (.cons (.same rfl) (.cons (.tloc rfl rfl) (.cons (.tloc rfl rfl) .nil)))) .nil)) rfl rfl trivial) ⟨rfl, rfl, rfl, trivial⟩ ⟨rfl, rfl, rfl, rfl, trivial⟩ rfl rfl (Dp10 (LT.not rfl) rfl rfl rfl (AOD.nil (by kernel_rfl) (AWR.cond rfl (fun hc10 => ?_) (fun hc10 => ?_)))))))))
   ·refine Ws (en [] [] trivial trivial (Wr (asg (Bv false) rfl ⟨rfl, rfl⟩ rfl rfl (On (AWR.ret (FPost.mk (.inr rfl) ⟨rfl, trivial⟩ trivial rfl ⟨PermP.sc, trivial⟩ trivial))))))
   ·refine AWR.skip (Ws ?_)
    refine en [] [] trivial trivial (Wr (asg (Bv true) rfl ⟨rfl, rfl⟩ rfl rfl (On (AWR.ret (FPost.mk (.inr rfl) ⟨rfl, trivial⟩ trivial rfl ⟨PermP.sc, trivial⟩ trivial)))))
end Go.Proofs.Yteognanhfpbghaa
end
section
set_option linter.unusedVariables false
set_option linter.unusedSimpArgs false
set_option linter.unnecessarySimpa false
namespace Go.Fw
open Go.ChangeShapes Go.WideShapes Go.ChangeAt Go.RowKit
open Go.Proofs.Yteognanhfpbghaa (Rows.uptoBulk Rows.uptoBulkAll)
abbrev Bof (W : World) : Nat → Prop := fun b => b < W.heap.size
abbrev Rno : Nat → Prop := fun _ => False
abbrev gno : Nat → GS := fun _ => .dead
def Opn {α : Type} (P : Program) (t : TypeId) (s : Nat) (enc : α → List PV) (wt : α → Nat) (ok : α → Prop) : Prop :=
  ∀ (H : Type) (e : TypeId × Value → H) (W : World) (base : Nat) (spare : Nat → Bool) (held : Bool) (fuel : Nat) (cs : List Value) (x : DataW H × List MemPlace), DataW.trod e P W base spare held fuel t cs = some x →
    ∃ a : α, ok a ∧ wt a ≤ Go.Proofs.Yteognanhfpbghaa.Rows.uptoBulk x.1 ∧ cs.length = s ∧ (enc a).length = s ∧ ∀ (k : Nat) p, (enc a)[k]? = some p → ∃ u, cs[k]? = some u ∧ RPV W Rno (Bof W) p u
def okI (n : Int) : Prop := -9223372036854775808 ≤ n ∧ n ≤ 9223372036854775807
def okL {α : Type} (ok : α → Prop) (xs : List α) : Prop := ∀ x ∈ xs, ok x
def wtI (_ : Int) : Nat := 1
def wtL {α : Type} (wt : α → Nat) (xs : List α) : Nat := (xs.map wt).sum + 1
section
variable {P : Program}
theorem one1 {p q : PV} {cs : List Value} {v : Value} {W : World} (hcs : cs = [v]) (h : RPV W Rno (Bof W) p v) : ∀ (k : Nat) r, [p][k]? = some r → ∃ u, cs[k]? = some u ∧ RPV W Rno (Bof W) r u := fun k r hk => by
  subst hcs
  cases k with
  | zero => simp at hk; subst hk; exact ⟨v, rfl, h⟩
  | succ k => simp at hk
theorem Opn.int {t : TypeId} (ht : P.underlying t = some (.int .i64)) : Opn P t 1 (fun n : Int => [.sc (.int .i64 n)]) wtI okI := fun H e W base spare held fuel cs x h => by
  obtain ⟨n, rfl, rfl, hw⟩ := DataW.trod_int ht h
  refine ⟨n, ?_, by simp [wtI, Go.Proofs.Yteognanhfpbghaa.Rows.uptoBulk], rfl, rfl, one1 (q := .sc (.int .i64 n)) rfl (.sc rfl)⟩
  simp [Lit.wf, IntKind.min, IntKind.max, IntKind.signed, IntKind.bits] at hw
  exact ⟨by omega, by omega⟩
theorem list_of {α : Type} {p : Nat → α → Prop} : ∀ n : Nat, (∀ i, i < n → ∃ a, p i a) → ∃ xs : List α, xs.length = n ∧ ∀ (i : Nat) a, xs[i]? = some a → p i a
  | 0, _ => ⟨[], rfl, fun i a h => by simp at h⟩
  | n + 1, h => by
    obtain ⟨xs, h1, h2⟩ := list_of n fun i hi => h i (by omega)
    obtain ⟨a, ha⟩ := h n (by omega)
    refine ⟨xs ++ [a], by simp [h1], fun i b hb => ?_⟩
    rw [List.getElem?_append] at hb
    split at hb
    · exact h2 i b hb
    · rename_i hn
      have hi : i - xs.length = 0 := by
        have := (List.getElem?_eq_some_iff.1 hb).1
        simp at this
        omega
      rw [hi] at hb
      simp at hb
      subst hb
      have : i = n := by omega
      subst this
      exact ha
theorem bulk_sum {α : Type} {H : Type} {wt : α → Nat} {D : Nat → DataW H} : ∀ (xs : List α) (k : Nat), (∀ (i : Nat) a, xs[i]? = some a → wt a ≤ Go.Proofs.Yteognanhfpbghaa.Rows.uptoBulk (D (k + i))) →
    (xs.map wt).sum ≤ Go.Proofs.Yteognanhfpbghaa.Rows.uptoBulkAll ((List.range' k xs.length).map D)
  | [], _, _ => by simp [Go.Proofs.Yteognanhfpbghaa.Rows.uptoBulkAll]
  | a :: r, k, h => by
    have h0 := h 0 a rfl
    have ih := bulk_sum r (k + 1) fun i b hb => by
      have := h (i + 1) b (by simpa using hb)
      rwa [show k + 1 + i = k + (i + 1) by omega]
    rw [Nat.add_zero] at h0
    simp only [List.map_cons, List.sum_cons, List.length_cons, List.range'_succ, Go.Proofs.Yteognanhfpbghaa.Rows.uptoBulkAll]
    omega
theorem cell_lt {w : World} {a : Addr} {v : Value} (h : w.cell? a = some v) : a.block < w.heap.size := by
  unfold World.cell? at h
  cases hb : w.heap[a.block]? with
  | none => rw [hb] at h; simp at h
  | some o => exact (Array.getElem?_eq_some_iff.1 hb).1
theorem Opn.slice {α : Type} {t e : TypeId} {s : Nat} {enc : α → List PV} {wt : α → Nat} {ok : α → Prop} (ht : P.underlying t = some (.slice e)) (hs : P.cellsOf e = s) (hs0 : 0 < s) (he : Opn P e s enc wt ok) :
    Opn P t 1 (fun xs : List α => [.xs false (xs.map enc)]) (wtL wt) (okL ok) := fun H en W base spare held fuel cs x h => by
  rcases Go.Deep.open_slice ht h with ⟨rfl, rfl⟩ | ⟨a, len, cap, m, n, D, Pl, rfl, hb, hl, hm, hmm, rfl, hi⟩
  · refine ⟨[], ?_, ?_, rfl, rfl, one1 (q := .xs false []) rfl .emp⟩
    · intro x hx; cases hx
    · simp [wtL, Go.Proofs.Yteognanhfpbghaa.Rows.uptoBulk]
  · have hml : len ≤ m := by rw [hmm]; split <;> omega
    obtain ⟨xs, hxl, hx⟩ := list_of (p := fun i (b : α) => ok b ∧ wt b ≤ Go.Proofs.Yteognanhfpbghaa.Rows.uptoBulk (D i) ∧ (enc b).length = s ∧ ∀ (k : Nat) p, (enc b)[k]? = some p → ∃ u, W.cell? (a.add (i * s + k)) = some u ∧ RPV W Rno (Bof W) p u) len (fun i hil => by
      obtain ⟨cs', hc, htr⟩ := hi i (by omega)
      obtain ⟨b, h1, h2, h3, h4, h5⟩ := he _ _ _ _ _ _ _ _ _ htr
      obtain ⟨_, hcl, hat⟩ := World.cells?_some hc
      refine ⟨b, h1, h2, h4, fun k p hk => ?_⟩
      obtain ⟨u, hu, hr⟩ := h5 k p hk
      refine ⟨u, ?_, hr⟩
      have hks : k < s := by rw [← h4]; exact (List.getElem?_eq_some_iff.1 hk).1
      have := hat k (by rw [hs]; exact hks)
      rw [add_add, hs] at this
      rw [this]
      exact hu)
    refine ⟨xs, fun b hb => ?_, ?_, rfl, rfl, one1 (q := .sc undef) rfl ?_⟩
    · obtain ⟨i, hib⟩ := List.getElem?_of_mem hb
      exact (hx i b hib).1
    · have := bulk_sum (wt := wt) (D := D) xs 0 (fun i b hb => by rw [Nat.zero_add]; exact (hx i b hb).2.1)
      simp only [wtL, Go.Proofs.Yteognanhfpbghaa.Rows.uptoBulk]
      rw [hxl, ← List.range_eq_range'] at this
      omega
    · cases hxs : xs with
      | nil =>
        have : len = 0 := by rw [← hxl, hxs]; rfl
        subst this
        exact .emp
      | cons b r =>
        rw [← hxs]
        have hget : ∀ (j k : Nat) cs p, (xs.map enc)[j]? = some cs → cs[k]? = some p → ∃ u, W.cell? (a.add (j * s + k)) = some u ∧ RPV W Rno (Bof W) p u := fun j k cs p hj hk => by
          rw [List.getElem?_map] at hj
          cases hjx : xs[j]? with
          | none => rw [hjx] at hj; cases hj
          | some c =>
            rw [hjx] at hj
            injection hj with hj
            subst hj
            exact (hx j c hjx).2.2.2 k p hk
        refine .xs (s := s) (fun j k => (W.cell? (a.add (j * s + k))).getD undef) (by simp [hxl]) ?_ (by simp [hxl]; exact hl) (fun cs hcs => ?_) (fun j k cs p hj hk => ?_) (fun j k cs p hj hk => ?_)
        · have h0 := hx 0 b (by rw [hxs]; rfl)
          have hlt : 0 < (enc b).length := by rw [h0.2.2.1]; exact hs0
          obtain ⟨u, hu, _⟩ := h0.2.2.2 0 (enc b)[0] (List.getElem?_eq_getElem hlt)
          have := cell_lt hu
          rw [add_block] at this
          exact this
        · obtain ⟨c, hc, rfl⟩ := List.mem_map.1 hcs
          obtain ⟨i, hic⟩ := List.getElem?_of_mem hc
          exact (hx i c hic).2.2.1
        · obtain ⟨u, hu, _⟩ := hget j k cs p hj hk
          rw [hu]; rfl
        · obtain ⟨u, hu, hr⟩ := hget j k cs p hj hk
          rw [hu]
          exact hr
def st2 (P : Program) (t : TypeId) : Option (Nat × Nat × Nat × Nat) := match P.underlying t with
  | some (.struct fs) => match fs.toList with
    | [f0, f1] => some (f0.type, f0.offset, f1.type, f1.offset)
    | _ => none
  | _ => none
theorem Opn.struct2 {α β γ : Type} {t t1 t2 : TypeId} {s1 s2 : Nat} {enc1 : α → List PV} {enc2 : β → List PV} {enc : γ → List PV} {wt1 : α → Nat} {wt2 : β → Nat} {wt : γ → Nat} {ok1 : α → Prop} {ok2 : β → Prop} {ok : γ → Prop} (mk : α → β → γ)
    (ht : st2 P t = some (t1, 0, t2, s1)) (hc : P.cellsOf t = s1 + s2) (hc1 : P.cellsOf t1 = s1) (hc2 : P.cellsOf t2 = s2) (h1 : Opn P t1 s1 enc1 wt1 ok1) (h2 : Opn P t2 s2 enc2 wt2 ok2)
    (he : ∀ a b, enc (mk a b) = enc1 a ++ enc2 b) (hw : ∀ a b, wt (mk a b) = wt1 a + wt2 b) (ho : ∀ a b, ok1 a → ok2 b → ok (mk a b)) : Opn P t (s1 + s2) enc wt ok := fun H e W base spare held fuel cs x h => by
  unfold st2 at ht
  split at ht
  · rename_i fs hfs
    split at ht
    · rename_i f0 f1 hfl
      obtain ⟨l⟩ := fs
      simp only at hfl
      subst hfl
      simp only [Option.some.injEq, Prod.mk.injEq] at ht
      obtain ⟨rfl, ho0, rfl, ho1⟩ := ht
      obtain ⟨y0, y1, n, rfl, hl, h3, h4⟩ := Go.ChangeShapes.trod_struct2 hfs h
      rw [ho0, hc1] at h3
      rw [ho1, hc2] at h4
      obtain ⟨a, a1, a2, a3, a4, a5⟩ := h1 _ _ _ _ _ _ _ _ _ h3
      obtain ⟨b, b1, b2, b3, b4, b5⟩ := h2 _ _ _ _ _ _ _ _ _ h4
      refine ⟨mk a b, ho a b a1 b1, ?_, by rw [hl, hc], by rw [he, List.length_append, a4, b4], fun k p hk => ?_⟩
      · rw [hw]
        simp only [Go.Proofs.Yteognanhfpbghaa.Rows.uptoBulk, Go.Proofs.Yteognanhfpbghaa.Rows.uptoBulkAll]
        omega
      · rw [he, List.getElem?_append] at hk
        split at hk
        · rename_i hlt
          rw [a4] at hlt
          obtain ⟨u, hu, hr⟩ := a5 k p hk
          refine ⟨u, ?_, hr⟩
          rw [List.getElem?_take, if_pos hlt, List.drop_zero] at hu
          exact hu
        · rename_i hlt
          rw [a4] at hlt hk
          obtain ⟨u, hu, hr⟩ := b5 _ p hk
          refine ⟨u, ?_, hr⟩
          rw [List.getElem?_take] at hu
          split at hu
          · rw [List.getElem?_drop] at hu
            rwa [show s1 + (k - s1) = k by omega] at hu
          · cases hu
    · cases ht
  · cases ht
theorem len_wtL {α : Type} {wt : α → Nat} (h : ∀ x, 1 ≤ wt x) (xs : List α) : xs.length ≤ wtL wt xs := by
  unfold wtL
  induction xs with
  | nil => simp
  | cons x r ih =>
    have := h x
    simp only [List.map_cons, List.sum_cons, List.length_cons] at ih ⊢
    omega
theorem Opn.argN {α : Type} {t : TypeId} {s : Nat} {enc : α → List PV} {wt : α → Nat} {ok : α → Prop} (h : Opn P t s enc wt ok) {H : Type} {e : TypeId × Value → H} {W : World} {sp : Nat → Bool} {v : Value} {d : DataW H} {ps : List MemPlace}
    (hv : ∃ cs : Array Value, v = .agg cs) (hd : DataW.Trod e P W 0 sp true t v d ps) : ∃ a : α, ok a ∧ wt a ≤ Go.Proofs.Yteognanhfpbghaa.Rows.uptoBulk d ∧ RS P W Rno (Bof W) gno (.agg ((enc a).map .pv)) v := by
  obtain ⟨cs, rfl⟩ := hv
  obtain ⟨fuel, hf⟩ := hd
  obtain ⟨a, h1, h2, h3, h4, h5⟩ := h _ _ _ _ _ _ _ _ _ hf
  refine ⟨a, h1, h2, cs.toList, by simp, by rw [List.length_map, h4]; simpa [Value.cells] using h3, fun k x hk => ?_⟩
  rw [List.getElem?_map] at hk
  cases hp : (enc a)[k]? with
  | none => rw [hp] at hk; cases hk
  | some p =>
    rw [hp] at hk
    injection hk with hk
    subst hk
    obtain ⟨u, hu, hr⟩ := h5 k p hp
    exact ⟨u, by simpa [Value.cells] using hu, hr.oneCell, hr⟩
def ArgR (P : Program) (W : World) : List SV → List Value → Prop
  | [], [] => True
  | x :: xs, v :: vs => RS P W Rno (Bof W) gno x v ∧ ArgR P W xs vs
  | _, _ => False
theorem ArgR.spec {W : World} : ∀ {xs : List SV} {vs : List Value}, ArgR P W xs vs → vs.length = xs.length ∧ ∀ (k : Nat) x, xs[k]? = some x → ∃ u, vs[k]? = some u ∧ RS P W Rno (Bof W) gno x u
  | [], [], _ => ⟨rfl, fun k x hk => by simp at hk⟩
  | [], _ :: _, h => h.elim
  | _ :: _, [], h => h.elim
  | x :: xs, v :: vs, h => by
    obtain ⟨h1, h2⟩ := ArgR.spec h.2
    refine ⟨by simp [h1], fun k y hk => ?_⟩
    cases k with
    | zero => simp at hk; subst hk; exact ⟨v, rfl, h.1⟩
    | succ k => exact h2 k y (by simpa using hk)
theorem Fn.called {f : FuncId} {xs : List SV} (hf : Fw.Fn P f xs [] (.s (.c (bC true))) [] [] []) {W : World} {args : Array Value} (ha : ArgR P W xs args.toList) : Calls P f args W fun e W' => e = .returned (.bool true) ∧ Below W.heap.size W W' := by
  obtain ⟨h1, h2⟩ := ha.spec
  have hw : WF Rno (Bof W) gno W := ⟨fun b hb => hb.elim, fun b hb => hb, fun n b hg => hg.elim, fun n m b hg => hg.elim, fun n j k b h => (by cases h)⟩
  have := hf Rno (Bof W) gno W args.toList hw h1 h2 (fun p hp => by cases hp)
  rw [show args.toList.toArray = args from by simp] at this
  refine this.mono fun e W' hp => ?_
  obtain ⟨u, R', B', g', rfl, had, _, hv, _⟩ := hp
  have hu : u = .bool true := by
    obtain ⟨_, h3⟩ := hv
    cases h3
    rfl
  subst hu
  exact ⟨rfl, had.os, had.tape, had.output, had.size, fun k hk => had.heap k hk fun n hn => by cases hn⟩
theorem trodAll_stays {H : Type} {e : TypeId × Value → H} (hl : laidOutB P = true) {W W' : World} {sp : Nat → Bool} (hb : Below W.heap.size W W') : ∀ {ts : List TypeId} {vs : List Value} {ds : List (DataW H)} {ps : List MemPlace}, (ts.all fun t => P.readableRec t && decide (t < P.types.size)) = true →
    DataW.TrodAll e P W 0 (fun _ => true) true ts vs ds ps → (∀ p ∈ ps, p.block < W.heap.size) → (∀ p ∈ ps, sp p.block = true) → DataW.TrodAll e P W' 0 sp true ts vs ds ps
  | [], [], [], _, _, h, _, _ => h
  | t :: ts, v :: vs, d :: ds, ps, hr, h, hlt, hs => by
    obtain ⟨p, q, h1, h2, rfl⟩ := h
    simp only [List.all_cons, Bool.and_eq_true, decide_eq_true_eq] at hr
    exact ⟨p, q, Go.WideElems.Trod_stays hl hr.1.1 hr.1.2 h1 (fun x hx => hb.same (hlt x (List.mem_append_left _ hx))) (fun x hx => hs x (List.mem_append_left _ hx)), trodAll_stays hl hb hr.2 h2 (fun x hx => hlt x (List.mem_append_right _ hx)) (fun x hx => hs x (List.mem_append_right _ hx)), rfl⟩
  | [], [], _ :: _, _, _, h, _, _ => h.elim
  | [], _ :: _, _, _, _, h, _, _ => h.elim
  | _ :: _, [], _, _, _, h, _, _ => h.elim
  | _ :: _, _ :: _, [], _, _, h, _, _ => h.elim
theorem post_of_fw {H : Type} {e : TypeId × Value → H} {f : Func} {s : ChangeSpec} {apart handsOn again : Bool} {fresh : Bool} {W W' : World} {args : Array Value} {ds gs : List (DataW H)} {before : List MemPlace} {tb : TypeId} (hW : DataW.Whole e P f.params.toList s.vars apart W args.toList ds gs before) (hl : laidOutB P = true)
    (hr : (f.params.toList.all fun t => P.readableRec t && decide (t < P.types.size)) = true) (hb : Below W.heap.size W W') (hv : s.vars = []) (hf : s.fn H ds = { results := [.lit (.bool true)], args := ds }) (hrt : f.resultTypes = #[tb]) (htb : P.underlying tb = some .bool) :
    s.post e P f apart fresh handsOn again W args (.bool true) W' := by
  have hlt : ∀ p ∈ before, p.block < W.heap.size := fun p hp => hW.lt p hp
  have hW0 := hW
  obtain ⟨p, q, hA, hV, hpq, hz, hn⟩ := hW
  rw [hv] at hV
  obtain ⟨rfl, rfl⟩ : gs = [] ∧ q = [] := by
    cases gs with
    | nil => exact ⟨rfl, hV⟩
    | cons _ _ => exact hV.elim
  rw [List.append_nil] at hpq
  subst hpq
  have hargs : ∀ sp : Nat → Bool, (∀ p ∈ before, sp p.block = true) → DataW.TrodAll e P W' 0 sp true f.params.toList args.toList ds before := fun sp hs => trodAll_stays hl hb hr hA hlt hs
  have hres : ∀ (b : Nat) (sp : Nat → Bool) (hd : Bool), DataW.TrodAll e P W' b sp hd f.resultTypes.toList ((Value.bool true).resultList f.resultTypes.size) [.lit (.bool true)] [] := fun b sp hd => by
    rw [hrt]
    exact ⟨[], [], shut_bool htb _, rfl, rfl⟩
  have hfd : s.fn H (ds ++ []) = { results := [.lit (.bool true)], args := ds } := by rw [List.append_nil]; exact hf
  have hold : ∀ p ∈ before, (fun b => decide (b < W.heap.size)) p.block = true := fun p hp => by simpa using hlt p hp
  have hvs : ∀ sp : Nat → Bool, DataW.TrodVars e P W' sp s.vars [] [] := fun sp => by rw [hv]; rfl
  refine ⟨ds, [], before, [], before, [], hW0, ?_, ?_, ?_, World.keptBut_mono (fun p hp => ⟨hp, ?_⟩) (hb.frame (· ∈ before)), fun _ => ?_⟩
  · rw [hfd]; exact hres _ _ _
  · rw [hfd]; exact hargs _ hold
  · rw [hfd]; exact hvs _
  · exact Or.inr (Or.inl hp)
  · refine ⟨ok_one hrt rfl (okWide_bool_mk htb _), ?_⟩
    · refine ⟨_, _, ([] ++ before) ++ [], ⟨[] ++ before, [], trodAll_append (hargs _ (fun _ _ => rfl)) (hres _ _ _), hvs _, rfl, ?_, ?_⟩, ?_⟩
      · intro b off hp
        have hin : MemPlace.cell b off ∈ before := by simpa using hp
        rw [hb.frozen (hlt _ hin)]
        exact hz b off hin
      · intro ha
        simpa using hn ha
      · intro p hp _
        simpa using hp
end
end Go.Fw
end
section
set_option linter.unusedVariables false
set_option linter.unusedSimpArgs false
set_option linter.unnecessarySimpa false
open Go Go.Fw
namespace Go.Proofs.Yteognanhfpbghaa
theorem oC149 : Try.prog.cellsOf 149 = 2 := by kernel_rfl
theorem oC22 : Try.prog.cellsOf 22 = 1 := by kernel_rfl
theorem oC24 : Try.prog.cellsOf 24 = 2 := by kernel_rfl
theorem oC3 : Try.prog.cellsOf 3 = 1 := by kernel_rfl
theorem oC45 : Try.prog.cellsOf 45 = 1 := by kernel_rfl
theorem oC47 : Try.prog.cellsOf 47 = 3 := by kernel_rfl
theorem oS149 : st2 Try.prog 149 = some (3, 0, 3, 1) := by kernel_rfl
theorem oS24 : st2 Try.prog 24 = some (3, 0, 22, 1) := by kernel_rfl
theorem oS47 : st2 Try.prog 47 = some (24, 0, 45, 2) := by kernel_rfl
theorem oU22 : Try.prog.underlying 22 = some (.slice 149) := by kernel_rfl
theorem oU3 : Try.prog.underlying 3 = some (.int .i64) := by kernel_rfl
theorem oU45 : Try.prog.underlying 45 = some (.slice 3) := by kernel_rfl
theorem oX47 : Try.prog.underlying 47 = some (.struct (Try.prog.fieldsOf 47)) := by kernel_rfl
def e_TBar (a : TBar) : List PV := [.sc (.int .i64 a.A), .sc (.int .i64 a.B)]
def wt_TBar (a : TBar) : Nat := wtI a.A + wtI a.B
def ok_TBar (a : TBar) : Prop := okI a.A ∧ okI a.B
theorem opn_149 : Opn Try.prog 149 2 e_TBar wt_TBar ok_TBar := Opn.struct2 (enc1 := (fun n : Int => [.sc (.int .i64 n)])) (enc2 := (fun n : Int => [.sc (.int .i64 n)])) TBar.mk oS149 oC149 oC3 oC3 (Opn.int oU3) (Opn.int oU3) (fun _ _ => rfl) (fun _ _ => rfl) (fun _ _ h1 h2 => ⟨h1, h2⟩)
def e_TGraph (a : TGraph) : List PV := [.sc (.int .i64 a.Points), .xs false (a.Bars.map encTBar)]
def wt_TGraph (a : TGraph) : Nat := wtI a.Points + (wtL wt_TBar) a.Bars
def ok_TGraph (a : TGraph) : Prop := okI a.Points ∧ (okL ok_TBar) a.Bars
theorem opn_24 : Opn Try.prog 24 2 e_TGraph wt_TGraph ok_TGraph := Opn.struct2 (enc1 := (fun n : Int => [.sc (.int .i64 n)])) (enc2 := (fun xs => [.xs false (xs.map e_TBar)])) TGraph.mk oS24 oC24 oC3 oC22 (Opn.int oU3) (Opn.slice oU22 oC149 (by decide) opn_149) (fun _ _ => rfl) (fun _ _ => rfl) (fun _ _ h1 h2 => ⟨h1, h2⟩)
def e_TPinned (a : TPinned) : List PV := [.sc (.int .i64 a.Graph.Points), .xs false (a.Graph.Bars.map encTBar), .xs false (a.Ground.map encInt)]
def wt_TPinned (a : TPinned) : Nat := wt_TGraph a.Graph + (wtL wtI) a.Ground
def ok_TPinned (a : TPinned) : Prop := ok_TGraph a.Graph ∧ (okL okI) a.Ground
theorem opn_47 : Opn Try.prog 47 3 e_TPinned wt_TPinned ok_TPinned := Opn.struct2 (enc1 := e_TGraph) (enc2 := (fun xs => [.xs false (xs.map (fun n : Int => [.sc (.int .i64 n)]))])) TPinned.mk oS47 oC47 oC24 oC45 opn_24 (Opn.slice oU45 oC3 (by decide) (Opn.int oU3)) (fun _ _ => rfl) (fun _ _ => rfl) (fun _ _ h1 h2 => ⟨h1, h2⟩)
end Go.Proofs.Yteognanhfpbghaa
end
