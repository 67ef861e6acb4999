/- Parts of a proof that a law of the program holds: what the program computes, and why that is right. -/
import Derived.Test.YtghofbijdnenoaaZEGenericPlaces3
section
set_option linter.unusedVariables false
set_option linter.unusedSimpArgs false
set_option linter.unnecessarySimpa false
set_option maxRecDepth 100000
set_option maxHeartbeats 8000000
open Go Go.Fw
namespace Go.Proofs.Ytghofbijdnenoaa
theorem w_impl_IsFramework (f : TFramework) : ∀ t, m_impl_IsFramework f = some t → Fw.Fn Try.prog 80 [(.agg [(iC f.Graph.Points), (xF encTBar f.Graph.Bars), (xF encTPlace f.Places)])] [] (.s (.c (bC t))) [] [] [] := by
 refine Fw.Fn.of (P := Try.prog) (X := []) (pn := []) (rs := (fun (t : Bool) => [(.c (bC t))])) (dfs := (fun (t : Bool) => [])) Try.func80 rfl Try.ntmps80 (Nat.le_of_ble_eq_true rfl) rfl ?_
 intro w0 U0 R0 g0
 unfold m_impl_IsFramework
 refine Ws (Wr ?_)
 refine Os10 (LT.box (n := 21) (v := (.agg [(iC f.Graph.Points), (xF encTBar f.Graph.Bars), (xF encTPlace f.Places)])) rfl sz29 (by exact rfl)) rfl rfl rfl ?_
 refine asg (Bv false) rfl ⟨rfl, rfl⟩ rfl rfl ?_
 refine On (Ws (Wr ?_))
 refine Op10 (LT.fieldPl rfl fo29_0) rfl rfl rfl ?_
 refine Op11 (LT.bloadN (out := [(iC f.Graph.Points), (xF encTBar f.Graph.Bars)]) rfl ag26 (infS inf26) sz26 (by exact rfl) (by exact rfl)) rfl rfl rfl rfl ?_
 refine Os00 (LT.alloc (n := 22) (cells := [(iC 0), (sC nilV)]) rfl ti26 rfl rfl rfl) rfl rfl ?_
 refine Os21 (LT.bstore (v := (.agg [(iC f.Graph.Points), (xF encTBar f.Graph.Bars)])) (out := [(iC f.Graph.Points), (xF encTBar f.Graph.Bars)]) rfl rfl (infS inf26) sz26 (by exact rfl) (by exact Nat.le_of_ble_eq_true rfl) (by exact rfl)) rfl rfl rfl rfl rfl ?_
 refine On (Ws (Ws ?_))
 refine AWR.joinK (fun j5 => ([(1, (Cc (.pl 21 0))), (3, (Cc (.pl 22 0))), (31, (Bv j5))], [(21, (.row 29 [[(iC f.Graph.Points), (xF encTBar f.Graph.Bars), (xF encTPlace f.Places)]])), (22, (.row 26 [[(iC f.Graph.Points), (xF encTBar f.Graph.Bars)]]))])) ?_ (fun j5 _ => ?_)
 ·refine en [(1, (Cc (.pl 21 0))), (3, (Cc (.pl 22 0)))] [(21, (.row 29 [[(iC f.Graph.Points), (xF encTBar f.Graph.Bars), (xF encTPlace f.Places)]])), (22, (.row 26 [[(iC f.Graph.Points), (xF encTBar f.Graph.Bars)]]))] ⟨rfl, rfl, trivial⟩ ⟨rfl, rfl, trivial⟩ ?_
  refine Wr ?_
  refine Op11 (LT.bloadN (out := [(iC f.Graph.Points), (xF encTBar f.Graph.Bars)]) rfl ag26 (infS inf26) sz26 (by exact rfl) (by exact rfl)) rfl rfl rfl rfl ?_
  refine Ob' fun r6 hr6 => ?_
  refine AOR.pure (@LT.callF Try.prog _ _ 173 _ _ [(.agg [(iC f.Graph.Points), (xF encTBar f.Graph.Bars)])] _ _ [] _ _ _ _ (w_impl_IsGraph f.Graph r6 hr6) rfl cb173 (.cons (.agg (.cons (.same rfl) (.cons (.same rfl) .nil))) .nil) rfl rfl trivial) ⟨rfl, rfl, trivial⟩ trivial rfl rfl ?_
  refine Op10 (LT.not rfl) rfl rfl rfl ?_
  refine mv (Bv (!r6)) rfl rfl rfl rfl ?_
  refine AOR.split (fun hb7 => ?_) (fun hb7 => ?_)
  ·refine Ok rfl rfl rfl (by rw [hb7]; rfl) rfl ?_
   refine Ok rfl rfl rfl (by rw [hb7]; rfl) rfl ?_
   refine Ok rfl rfl rfl (by rw [hb7]; rfl) rfl ?_
   refine Op20 (LT.pickT (v := (Bv true)) rfl hb7) rfl ⟨rfl, rfl⟩ rfl rfl ?_
   refine mv (Bv true) rfl rfl rfl rfl ?_
   refine Ok rfl rfl rfl rfl rfl ?_
   refine Ok rfl rfl rfl rfl rfl ?_
   refine Ok rfl rfl rfl rfl rfl ?_
   refine Ok rfl rfl rfl rfl rfl ?_
   refine Op20 (LT.pickT (v := (Bv true)) rfl rfl) rfl ⟨rfl, rfl⟩ rfl rfl ?_
   refine mv (Bv true) rfl rfl rfl rfl ?_
   refine Ok rfl rfl rfl rfl rfl ?_
   refine Ok rfl rfl rfl rfl rfl ?_
   refine Ok rfl rfl rfl rfl rfl ?_
   refine Ok rfl rfl rfl rfl rfl ?_
   refine Ok rfl rfl rfl rfl rfl ?_
   refine Ok rfl rfl rfl rfl rfl ?_
   refine Op20 (LT.pickT (v := (Bv true)) rfl rfl) rfl ⟨rfl, rfl⟩ rfl rfl ?_
   refine On ?_
   refine AWR.nil ⟨rfl, Ent.of ⟨rfl, rfl, rfl, trivial⟩ ⟨rfl, rfl, trivial⟩⟩
  ·refine Op10 (LT.fieldPl rfl fo26_0) rfl ⟨_, rfl, .inl ⟨_, rfl, (by rw [hb7]; rfl)⟩⟩ rfl ?_
   refine Op11 (LT.bload1 (c := (iC f.Graph.Points)) rfl ag3 (by exact rfl)) rfl rfl ⟨_, rfl, .inl ⟨_, rfl, (by rw [hb7]; rfl)⟩⟩ rfl ?_
   refine Op20 (LT.gtr rfl) rfl ⟨rfl, rfl⟩ ⟨_, rfl, .inl ⟨_, rfl, (by rw [hb7]; rfl)⟩⟩ rfl ?_
   refine Op20 (LT.pickF (v := (Bv (decide (6 < f.Graph.Points)))) rfl hb7) rfl rfl rfl rfl ?_
   refine mv (Bv (decide (6 < f.Graph.Points))) rfl rfl rfl rfl ?_
   refine AOR.split (fun hb8 => ?_) (fun hb8 => ?_)
   ·refine Ok rfl rfl rfl (by rw [hb8]; rfl) rfl ?_
    refine Ok rfl rfl rfl (by rw [hb8]; rfl) rfl ?_
    refine Ok rfl rfl rfl (by rw [hb8]; rfl) rfl ?_
    refine Ok rfl rfl rfl (by rw [hb8]; rfl) rfl ?_
    refine Op20 (LT.pickT (v := (Bv true)) rfl hb8) rfl ⟨rfl, rfl⟩ rfl rfl ?_
    refine mv (Bv true) rfl rfl rfl rfl ?_
    refine Ok rfl rfl rfl rfl rfl ?_
    refine Ok rfl rfl rfl rfl rfl ?_
    refine Ok rfl rfl rfl rfl rfl ?_
    refine Ok rfl rfl rfl rfl rfl ?_
    refine Ok rfl rfl rfl rfl rfl ?_
    refine Ok rfl rfl rfl rfl rfl ?_
    refine Op20 (LT.pickT (v := (Bv true)) rfl rfl) rfl ⟨rfl, rfl⟩ rfl rfl ?_
    refine On ?_
    refine AWR.nil ⟨rfl, Ent.of ⟨rfl, rfl, rfl, trivial⟩ ⟨rfl, rfl, trivial⟩⟩
   ·refine Op10 (LT.fieldPl rfl fo26_1) rfl ⟨_, rfl, .inl ⟨_, rfl, (by rw [hb8]; rfl)⟩⟩ rfl ?_
    refine Op11 (LT.bload1 (c := (xF encTBar f.Graph.Bars)) rfl ag24 (by exact rfl)) rfl rfl ⟨_, rfl, .inl ⟨_, rfl, (by rw [hb8]; rfl)⟩⟩ rfl ?_
    refine Op10 (LT.tlenRO rfl und24) rfl ⟨_, rfl, .inl ⟨_, rfl, (by rw [hb8]; rfl)⟩⟩ rfl ?_
    refine Op20 (LT.gtr rfl) rfl ⟨rfl, rfl⟩ ⟨_, rfl, .inl ⟨_, rfl, (by rw [hb8]; rfl)⟩⟩ rfl ?_
    refine Op20 (LT.pickF (v := (Bv (decide (15 < (f.Graph.Bars.length : Int))))) rfl hb8) rfl rfl rfl rfl ?_
    refine mv (Bv (decide (15 < (f.Graph.Bars.length : Int)))) rfl rfl rfl rfl ?_
    refine AOR.split (fun hb9 => ?_) (fun hb9 => ?_)
    ·refine Ok rfl rfl rfl (by rw [hb9]; rfl) rfl ?_
     refine Ok rfl rfl rfl (by rw [hb9]; rfl) rfl ?_
     refine Ok rfl rfl rfl (by rw [hb9]; rfl) rfl ?_
     refine Ok rfl rfl rfl (by rw [hb9]; rfl) rfl ?_
     refine Ok rfl rfl rfl (by rw [hb9]; rfl) rfl ?_
     refine Ok rfl rfl rfl (by rw [hb9]; rfl) rfl ?_
     refine Op20 (LT.pickT (v := (Bv true)) rfl hb9) rfl ⟨rfl, rfl⟩ rfl rfl ?_
     refine On ?_
     refine AWR.nil ⟨rfl, Ent.of ⟨rfl, rfl, rfl, trivial⟩ ⟨rfl, rfl, trivial⟩⟩
    ·refine Op10 (LT.fieldPl rfl fo29_1) rfl ⟨_, rfl, .inl ⟨_, rfl, (by rw [hb9]; rfl)⟩⟩ rfl ?_
     refine Op11 (LT.bload1 (c := (xF encTPlace f.Places)) rfl ag27 (by exact rfl)) rfl rfl ⟨_, rfl, .inl ⟨_, rfl, (by rw [hb9]; rfl)⟩⟩ rfl ?_
     refine Op10 (LT.tlenRO rfl und27) rfl ⟨_, rfl, .inl ⟨_, rfl, (by rw [hb9]; rfl)⟩⟩ rfl ?_
     refine Op10 (LT.fieldPl rfl fo26_0) rfl ⟨_, rfl, .inl ⟨_, rfl, (by rw [hb9]; rfl)⟩⟩ rfl ?_
     refine Op11 (LT.bload1 (c := (iC f.Graph.Points)) rfl ag3 (by exact rfl)) rfl rfl ⟨_, rfl, .inl ⟨_, rfl, (by rw [hb9]; rfl)⟩⟩ rfl ?_
     refine Op20 (LT.neq rfl) rfl rfl ⟨_, rfl, .inl ⟨_, rfl, (by rw [hb9]; rfl)⟩⟩ rfl ?_
     refine Op20 (LT.pickF (v := (Bv ((f.Places.length : Int) != f.Graph.Points))) rfl hb9) rfl rfl rfl rfl ?_
     refine On ?_
     refine AWR.nil ⟨rfl, Ent.of ⟨rfl, rfl, rfl, trivial⟩ ⟨rfl, rfl, trivial⟩⟩
 ·refine AWR.cond rfl (fun hc10 => ?_) (fun hc10 => ?_)
  ·refine Ws (Wr ?_)
   refine asg (Bv false) rfl ⟨rfl, rfl⟩ rfl rfl ?_
   refine On ?_
   refine AWR.ret (FPost.mk (.inr rfl) ⟨rfl, trivial⟩ trivial rfl ⟨PermP.sc, trivial⟩ trivial)
  ·refine AWR.skip (Ws (Ws (Wr ?_)))
   refine Op10 (LT.fieldPl rfl fo29_1) rfl rfl rfl ?_
   refine Op11 (LT.bload1 (c := (xF encTPlace f.Places)) rfl ag27 (by exact rfl)) rfl rfl rfl rfl ?_
   refine Op10 (LT.tlenRO rfl und27) rfl rfl rfl ?_
   refine mv (Iv 0) rfl ⟨rfl, rfl⟩ rfl rfl ?_
   refine On (AWR.block ?_)
   refine AWR.loopR (id := 0) (m_impl_IsFramework_L1 f) (fun s11 => ([(1, (Cc (.pl 21 0))), (3, (Cc (.pl 22 0))), (33, (Cc (xF encTPlace f.Places))), (34, (Iv (f.Places.length : Int))), (35, (Iv s11))], [(21, (.row 29 [[(iC f.Graph.Points), (xF encTBar f.Graph.Bars), (xF encTPlace f.Places)]])), (22, (.row 26 [[(iC f.Graph.Points), (xF encTBar f.Graph.Bars)]]))])) (fun b20 => ([(1, (Cc (.pl 21 0))), (3, (Cc (.pl 22 0)))], [(21, (.row 29 [[(iC f.Graph.Points), (xF encTBar f.Graph.Bars), (xF encTPlace f.Places)]])), (22, (.row 26 [[(iC f.Graph.Points), (xF encTBar f.Graph.Bars)]]))])) (FPost Try.prog Try.f80.results.toList [] [] (fun (t : Bool) => [(.c (bC t))]) (fun (t : Bool) => [])) ?_ (Ent.of ⟨rfl, rfl, rfl, rfl, rfl, trivial⟩ ⟨rfl, rfl, trivial⟩) rfl (fun b20 _ => ?_) (by intro r t σ m ht hk; injection ht with ht; subst ht; exact hk)
   ·intro s11
    unfold m_impl_IsFramework_L1
    refine Ws (Wr ?_)
    refine Op20 (LT.lss rfl) rfl rfl rfl rfl ?_
    refine On (Ws ?_)
    refine AWR.cond rfl (fun hc21 => ?_) (fun hc21 => ?_)
    ·refine AWR.skip (Ws (AWR.block (Ws (Wr ?_))))
     refine Ob' fun x22 hx22 => ?_
     refine Op20 (LT.tindexRO (enc := encTPlace) rfl el27 hx22 sz94) rfl rfl rfl rfl ?_
     refine Op10 (LT.loadPxN rfl ag94 (infS inf94) (by exact sz94.symm)) rfl rfl rfl ?_
     refine Os00 (LT.alloc (n := 24) (cells := [(iC 0), (iC 0)]) rfl ti94 rfl rfl rfl) rfl rfl ?_
     refine Os21 (LT.bstore (v := (.agg [(iC x22.X), (iC x22.Y)])) (out := [(iC x22.X), (iC x22.Y)]) rfl rfl (infS inf94) sz94 (by exact rfl) (by exact Nat.le_of_ble_eq_true rfl) (by exact rfl)) rfl rfl rfl rfl rfl ?_
     refine On (Ws (Wr ?_))
     refine Op11 (LT.bloadN (out := [(iC x22.X), (iC x22.Y)]) rfl ag94 (infS inf94) sz94 (by exact rfl) (by exact rfl)) rfl rfl rfl rfl ?_
     refine Ob' fun r23 hr23 => ?_
     refine AOR.pure (@LT.callF Try.prog _ _ 174 _ _ [(.agg [(iC x22.X), (iC x22.Y)])] _ _ [] _ _ _ _ (w_impl_isPlace x22 r23 hr23) rfl cb174 (.cons (.agg (.cons (.same rfl) (.cons (.same rfl) .nil))) .nil) rfl rfl trivial) ⟨rfl, rfl, trivial⟩ trivial rfl rfl ?_
     refine Op10 (LT.not rfl) rfl rfl rfl ?_
     refine On ?_
     refine AWR.cond rfl (fun hc24 => ?_) (fun hc24 => ?_)
     ·refine Ws ?_
      refine en [] [] trivial trivial ?_
      refine Wr ?_
      refine asg (Bv false) rfl ⟨rfl, rfl⟩ rfl rfl ?_
      refine On ?_
      refine AWR.ret ⟨rfl, FPost.mk (.inr rfl) ⟨rfl, trivial⟩ trivial rfl ⟨PermP.sc, trivial⟩ trivial⟩
     ·refine AWR.skip (AWR.blk ?_)
      refine en [(1, (Cc (.pl 21 0))), (3, (Cc (.pl 22 0))), (33, (Cc (xF encTPlace f.Places))), (34, (Iv (f.Places.length : Int))), (35, (Iv s11))] [(21, (.row 29 [[(iC f.Graph.Points), (xF encTBar f.Graph.Bars), (xF encTPlace f.Places)]])), (22, (.row 26 [[(iC f.Graph.Points), (xF encTBar f.Graph.Bars)]]))] ⟨rfl, rfl, rfl, rfl, rfl, trivial⟩ ⟨rfl, rfl, trivial⟩ ?_
      refine Wr ?_
      refine Op20 (LT.add rfl) rfl ⟨rfl, rfl⟩ rfl rfl ?_
      refine mv (Iv (w64 (s11 + 1))) rfl rfl rfl rfl ?_
      refine On ?_
      refine AWR.nil ⟨rfl, Ent.of ⟨rfl, rfl, rfl, rfl, rfl, trivial⟩ ⟨rfl, rfl, trivial⟩⟩
    ·refine AWR.exit_end rfl ⟨rfl, Ent.of ⟨rfl, rfl, trivial⟩ ⟨rfl, rfl, trivial⟩⟩
   ·refine Ws (Ws (Wr ?_))
    refine Op10 (LT.fieldPl rfl fo26_1) rfl rfl rfl ?_
    refine Op11 (LT.bload1 (c := (xF encTBar f.Graph.Bars)) rfl ag24 (by exact rfl)) rfl rfl rfl rfl ?_
    refine Op10 (LT.tlenRO rfl und24) rfl rfl rfl ?_
    refine mv (Iv 0) rfl ⟨rfl, rfl⟩ rfl rfl ?_
    refine On (AWR.block ?_)
    refine AWR.loopR (id := 2) (m_impl_IsFramework_L2 f) (fun s25 => ([(1, (Cc (.pl 21 0))), (3, (Cc (.pl 22 0))), (44, (Cc (xF encTBar f.Graph.Bars))), (45, (Iv (f.Graph.Bars.length : Int))), (46, (Iv s25))], [(21, (.row 29 [[(iC f.Graph.Points), (xF encTBar f.Graph.Bars), (xF encTPlace f.Places)]])), (22, (.row 26 [[(iC f.Graph.Points), (xF encTBar f.Graph.Bars)]]))])) (fun b62 => ([], [])) (FPost Try.prog Try.f80.results.toList [] [] (fun (t : Bool) => [(.c (bC t))]) (fun (t : Bool) => [])) ?_ (Ent.of ⟨rfl, rfl, rfl, rfl, rfl, trivial⟩ ⟨rfl, rfl, trivial⟩) rfl (fun b62 _ => ?_) (by intro r t σ m ht hk; injection ht with ht; subst ht; exact hk)
    ·intro s25
     unfold m_impl_IsFramework_L2
     refine Ws (Wr ?_)
     refine Op20 (LT.lss rfl) rfl rfl rfl rfl ?_
     refine On (Ws ?_)
     refine AWR.cond rfl (fun hc63 => ?_) (fun hc63 => ?_)
     ·refine AWR.skip (Ws (AWR.block (Ws (Wr ?_))))
      refine mv (Iv s25) rfl rfl rfl rfl ?_
      refine Ob' fun x64 hx64 => ?_
      refine Op20 (LT.tindexRO (enc := encTBar) rfl el24 hx64 sz62) rfl rfl rfl rfl ?_
      refine Op10 (LT.loadPxN rfl ag62 (infS inf62) (by exact sz62.symm)) rfl rfl rfl ?_
      refine Os00 (LT.alloc (n := 26) (cells := [(iC 0), (iC 0)]) rfl ti62 rfl rfl rfl) rfl rfl ?_
      refine asg (Iv s25) rfl rfl rfl rfl ?_
      refine Os21 (LT.bstore (v := (.agg [(iC x64.A), (iC x64.B)])) (out := [(iC x64.A), (iC x64.B)]) rfl rfl (infS inf62) sz62 (by exact rfl) (by exact Nat.le_of_ble_eq_true rfl) (by exact rfl)) rfl rfl rfl rfl rfl ?_
      refine On (Ws ?_)
      refine AWR.joinK (fun j72 => ([(1, (Cc (.pl 21 0))), (3, (Cc (.pl 22 0))), (44, (Cc (xF encTBar f.Graph.Bars))), (45, (Iv (f.Graph.Bars.length : Int))), (46, (Iv s25)), (77, (Bv j72))], [(21, (.row 29 [[(iC f.Graph.Points), (xF encTBar f.Graph.Bars), (xF encTPlace f.Places)]])), (22, (.row 26 [[(iC f.Graph.Points), (xF encTBar f.Graph.Bars)]]))])) ?_ (fun j72 _ => ?_)
      ·refine en [(1, (Cc (.pl 21 0))), (3, (Cc (.pl 22 0))), (6, (Iv s25)), (7, (Cc (.pl 26 0))), (44, (Cc (xF encTBar f.Graph.Bars))), (45, (Iv (f.Graph.Bars.length : Int))), (46, (Iv s25))] [(21, (.row 29 [[(iC f.Graph.Points), (xF encTBar f.Graph.Bars), (xF encTPlace f.Places)]])), (22, (.row 26 [[(iC f.Graph.Points), (xF encTBar f.Graph.Bars)]])), (26, (.row 62 [[(iC x64.A), (iC x64.B)]]))] ⟨rfl, rfl, rfl, rfl, rfl, rfl, rfl, trivial⟩ ⟨rfl, rfl, rfl, trivial⟩ ?_
       refine AWR.draw mixed ?_
       refine Dp10 (LT.move (v := (Iv s25)) rfl) rfl rfl rfl ?_
       refine Dp20 (LT.gtr rfl) rfl ⟨rfl, rfl⟩ rfl rfl ?_
       refine Dp10 (LT.move (v := (Bv (decide (0 < s25)))) rfl) rfl rfl rfl ?_
       refine AOD.split (fun hb73 => ?_) (fun hb73 => ?_)
       ·refine Dp10 (LT.fieldPl rfl fo26_1) rfl ⟨_, rfl, .inl ⟨_, rfl, (by rw [hb73]; rfl)⟩⟩ rfl ?_
        refine Dp11 (LT.bload1 (c := (xF encTBar f.Graph.Bars)) rfl ag24 (by exact rfl)) rfl rfl ⟨_, rfl, .inl ⟨_, rfl, (by rw [hb73]; rfl)⟩⟩ rfl ?_
        refine Dp10 (LT.move (v := (Iv s25)) rfl) rfl ⟨_, rfl, .inl ⟨_, rfl, (by rw [hb73]; rfl)⟩⟩ rfl ?_
        refine Dp20 (LT.sub rfl) rfl ⟨rfl, rfl⟩ ⟨_, rfl, .inl ⟨_, rfl, (by rw [hb73]; rfl)⟩⟩ rfl ?_
        refine AOD.bind fun x74 hx74 => ?_
        refine Dp20 (LT.tindexRO (enc := encTBar) rfl el24 hx74 sz62) rfl rfl ⟨_, rfl, .inl ⟨_, rfl, (by rw [hb73]; rfl)⟩⟩ rfl ?_
        refine Dp10 (LT.loadPxN rfl ag62 (infS inf62) (by exact sz62.symm)) rfl ⟨_, rfl, .inl ⟨_, rfl, (by rw [hb73]; rfl)⟩⟩ rfl ?_
        refine Dp11 (LT.bloadN (out := [(iC x64.A), (iC x64.B)]) rfl ag62 (infS inf62) sz62 (by exact rfl) (by exact rfl)) rfl rfl ⟨_, rfl, .inl ⟨_, rfl, (by rw [hb73]; rfl)⟩⟩ rfl ?_
        refine Dp20 (LT.eqlStruct [x74.A, x74.B] [x64.A, x64.B] rfl ist62 rfl rfl) rfl rfl ⟨_, rfl, .inl ⟨_, rfl, (by rw [hb73]; rfl)⟩⟩ rfl ?_
        refine Dp20 (LT.pickT (v := (Bv (eqI [x74.A, x74.B] [x64.A, x64.B]))) rfl hb73) rfl rfl rfl rfl ?_
        refine Dp10 (LT.move (v := (Bv (eqI [x74.A, x74.B] [x64.A, x64.B]))) rfl) rfl rfl rfl ?_
        refine AOD.split (fun hb75 => ?_) (fun hb75 => ?_)
        ·refine AOD.skip ⟨_, rfl, .inl ⟨_, rfl, (by rw [hb75]; rfl)⟩⟩ rfl ?_
         refine AOD.skip ⟨_, rfl, .inl ⟨_, rfl, (by rw [hb75]; rfl)⟩⟩ rfl ?_
         refine AOD.skip ⟨_, rfl, .inl ⟨_, rfl, (by rw [hb75]; rfl)⟩⟩ rfl ?_
         refine AOD.skip ⟨_, rfl, .inl ⟨_, rfl, (by rw [hb75]; rfl)⟩⟩ rfl ?_
         refine AOD.skip ⟨_, rfl, .inl ⟨_, rfl, (by rw [hb75]; rfl)⟩⟩ rfl ?_
         refine AOD.skip ⟨_, rfl, .inl ⟨_, rfl, (by rw [hb75]; rfl)⟩⟩ rfl ?_
         refine AOD.skip ⟨_, rfl, .inl ⟨_, rfl, (by rw [hb75]; rfl)⟩⟩ rfl ?_
         refine AOD.skip ⟨_, rfl, .inl ⟨_, rfl, (by rw [hb75]; rfl)⟩⟩ rfl ?_
         refine AOD.skip ⟨_, rfl, .inl ⟨_, rfl, (by rw [hb75]; rfl)⟩⟩ rfl ?_
         refine AOD.skip ⟨_, rfl, .inl ⟨_, rfl, (by rw [hb75]; rfl)⟩⟩ rfl ?_
         refine AOD.skip ⟨_, rfl, .inl ⟨_, rfl, (by rw [hb75]; rfl)⟩⟩ rfl ?_
         refine AOD.skip ⟨_, rfl, .inl ⟨_, rfl, (by rw [hb75]; rfl)⟩⟩ rfl ?_
         refine AOD.skip ⟨_, rfl, .inl ⟨_, rfl, (by rw [hb75]; rfl)⟩⟩ rfl ?_
         refine Dp20 (LT.pickT (v := (Bv true)) rfl hb75) rfl ⟨rfl, rfl⟩ rfl rfl ?_
         refine AOD.nil (by kernel_rfl) ?_
         refine AWR.nil ⟨rfl, Ent.of ⟨rfl, rfl, rfl, rfl, rfl, rfl, trivial⟩ ⟨rfl, rfl, trivial⟩⟩
        ·refine Dp10 (LT.fieldPl rfl fo29_1) rfl ⟨_, rfl, .inl ⟨_, rfl, (by rw [hb75]; rfl)⟩⟩ rfl ?_
         refine Dp11 (LT.bload1 (c := (xF encTPlace f.Places)) rfl ag27 (by exact rfl)) rfl rfl ⟨_, rfl, .inl ⟨_, rfl, (by rw [hb75]; rfl)⟩⟩ rfl ?_
         refine Dp10 (LT.fieldPl rfl fo62_0) rfl ⟨_, rfl, .inl ⟨_, rfl, (by rw [hb75]; rfl)⟩⟩ rfl ?_
         refine Dp11 (LT.bload1 (c := (iC x64.A)) rfl ag3 (by exact rfl)) rfl rfl ⟨_, rfl, .inl ⟨_, rfl, (by rw [hb75]; rfl)⟩⟩ rfl ?_
         refine AOD.bind fun x76 hx76 => ?_
         refine Dp20 (LT.tindexRO (enc := encTPlace) rfl el27 hx76 sz94) rfl rfl ⟨_, rfl, .inl ⟨_, rfl, (by rw [hb75]; rfl)⟩⟩ rfl ?_
         refine Dp10 (LT.loadPxN rfl ag94 (infS inf94) (by exact sz94.symm)) rfl ⟨_, rfl, .inl ⟨_, rfl, (by rw [hb75]; rfl)⟩⟩ rfl ?_
         refine Dp10 (LT.fieldPl rfl fo29_1) rfl ⟨_, rfl, .inl ⟨_, rfl, (by rw [hb75]; rfl)⟩⟩ rfl ?_
         refine Dp11 (LT.bload1 (c := (xF encTPlace f.Places)) rfl ag27 (by exact rfl)) rfl rfl ⟨_, rfl, .inl ⟨_, rfl, (by rw [hb75]; rfl)⟩⟩ rfl ?_
         refine Dp10 (LT.fieldPl rfl fo62_1) rfl ⟨_, rfl, .inl ⟨_, rfl, (by rw [hb75]; rfl)⟩⟩ rfl ?_
         refine Dp11 (LT.bload1 (c := (iC x64.B)) rfl ag3 (by exact rfl)) rfl rfl ⟨_, rfl, .inl ⟨_, rfl, (by rw [hb75]; rfl)⟩⟩ rfl ?_
         refine AOD.bind fun x77 hx77 => ?_
         refine Dp20 (LT.tindexRO (enc := encTPlace) rfl el27 hx77 sz94) rfl rfl ⟨_, rfl, .inl ⟨_, rfl, (by rw [hb75]; rfl)⟩⟩ rfl ?_
         refine Dp10 (LT.loadPxN rfl ag94 (infS inf94) (by exact sz94.symm)) rfl ⟨_, rfl, .inl ⟨_, rfl, (by rw [hb75]; rfl)⟩⟩ rfl ?_
         refine Dp20 (LT.eqlStruct [x76.X, x76.Y] [x77.X, x77.Y] rfl ist94 rfl rfl) rfl rfl ⟨_, rfl, .inl ⟨_, rfl, (by rw [hb75]; rfl)⟩⟩ rfl ?_
         refine Dp20 (LT.pickF (v := (Bv (eqI [x76.X, x76.Y] [x77.X, x77.Y]))) rfl hb75) rfl rfl rfl rfl ?_
         refine AOD.nil (by kernel_rfl) ?_
         refine AWR.nil ⟨rfl, Ent.of ⟨rfl, rfl, rfl, rfl, rfl, rfl, trivial⟩ ⟨rfl, rfl, trivial⟩⟩
       ·refine AOD.skip ⟨_, rfl, .inl ⟨_, rfl, (by rw [hb73]; rfl)⟩⟩ rfl ?_
        refine AOD.skip ⟨_, rfl, .inl ⟨_, rfl, (by rw [hb73]; rfl)⟩⟩ rfl ?_
        refine AOD.skip ⟨_, rfl, .inl ⟨_, rfl, (by rw [hb73]; rfl)⟩⟩ rfl ?_
        refine AOD.skip ⟨_, rfl, .inl ⟨_, rfl, (by rw [hb73]; rfl)⟩⟩ rfl ?_
        refine AOD.skip ⟨_, rfl, .inl ⟨_, rfl, (by rw [hb73]; rfl)⟩⟩ rfl ?_
        refine AOD.skip ⟨_, rfl, .inl ⟨_, rfl, (by rw [hb73]; rfl)⟩⟩ rfl ?_
        refine AOD.skip ⟨_, rfl, .inl ⟨_, rfl, (by rw [hb73]; rfl)⟩⟩ rfl ?_
        refine AOD.skip ⟨_, rfl, .inl ⟨_, rfl, (by rw [hb73]; rfl)⟩⟩ rfl ?_
        refine Dp20 (LT.pickF (v := (Bv false)) rfl hb73) rfl ⟨rfl, rfl⟩ rfl rfl ?_
        refine Dp10 (LT.move (v := (Bv false)) rfl) rfl rfl rfl ?_
        refine Dp10 (LT.fieldPl rfl fo29_1) rfl ⟨_, rfl, .inl ⟨_, rfl, rfl⟩⟩ rfl ?_
        refine Dp11 (LT.bload1 (c := (xF encTPlace f.Places)) rfl ag27 (by exact rfl)) rfl rfl ⟨_, rfl, .inl ⟨_, rfl, rfl⟩⟩ rfl ?_
        refine Dp10 (LT.fieldPl rfl fo62_0) rfl ⟨_, rfl, .inl ⟨_, rfl, rfl⟩⟩ rfl ?_
        refine Dp11 (LT.bload1 (c := (iC x64.A)) rfl ag3 (by exact rfl)) rfl rfl ⟨_, rfl, .inl ⟨_, rfl, rfl⟩⟩ rfl ?_
        refine AOD.bind fun x78 hx78 => ?_
        refine Dp20 (LT.tindexRO (enc := encTPlace) rfl el27 hx78 sz94) rfl rfl ⟨_, rfl, .inl ⟨_, rfl, rfl⟩⟩ rfl ?_
        refine Dp10 (LT.loadPxN rfl ag94 (infS inf94) (by exact sz94.symm)) rfl ⟨_, rfl, .inl ⟨_, rfl, rfl⟩⟩ rfl ?_
        refine Dp10 (LT.fieldPl rfl fo29_1) rfl ⟨_, rfl, .inl ⟨_, rfl, rfl⟩⟩ rfl ?_
        refine Dp11 (LT.bload1 (c := (xF encTPlace f.Places)) rfl ag27 (by exact rfl)) rfl rfl ⟨_, rfl, .inl ⟨_, rfl, rfl⟩⟩ rfl ?_
        refine Dp10 (LT.fieldPl rfl fo62_1) rfl ⟨_, rfl, .inl ⟨_, rfl, rfl⟩⟩ rfl ?_
        refine Dp11 (LT.bload1 (c := (iC x64.B)) rfl ag3 (by exact rfl)) rfl rfl ⟨_, rfl, .inl ⟨_, rfl, rfl⟩⟩ rfl ?_
        refine AOD.bind fun x79 hx79 => ?_
        refine Dp20 (LT.tindexRO (enc := encTPlace) rfl el27 hx79 sz94) rfl rfl ⟨_, rfl, .inl ⟨_, rfl, rfl⟩⟩ rfl ?_
        refine Dp10 (LT.loadPxN rfl ag94 (infS inf94) (by exact sz94.symm)) rfl ⟨_, rfl, .inl ⟨_, rfl, rfl⟩⟩ rfl ?_
        refine Dp20 (LT.eqlStruct [x78.X, x78.Y] [x79.X, x79.Y] rfl ist94 rfl rfl) rfl rfl ⟨_, rfl, .inl ⟨_, rfl, rfl⟩⟩ rfl ?_
        refine Dp20 (LT.pickF (v := (Bv (eqI [x78.X, x78.Y] [x79.X, x79.Y]))) rfl rfl) rfl rfl rfl rfl ?_
        refine AOD.nil (by kernel_rfl) ?_
        refine AWR.nil ⟨rfl, Ent.of ⟨rfl, rfl, rfl, rfl, rfl, rfl, trivial⟩ ⟨rfl, rfl, trivial⟩⟩
      ·refine AWR.cond rfl (fun hc80 => ?_) (fun hc80 => ?_)
       ·refine Ws (Wr ?_)
        refine asg (Bv false) rfl ⟨rfl, rfl⟩ rfl rfl ?_
        refine On ?_
        refine AWR.ret ⟨rfl, FPost.mk (.inr rfl) ⟨rfl, trivial⟩ trivial rfl ⟨PermP.sc, trivial⟩ trivial⟩
       ·refine AWR.skip (AWR.blk (Wr ?_))
        refine Op20 (LT.add rfl) rfl ⟨rfl, rfl⟩ rfl rfl ?_
        refine mv (Iv (w64 (s25 + 1))) rfl rfl rfl rfl ?_
        refine On ?_
        refine AWR.nil ⟨rfl, Ent.of ⟨rfl, rfl, rfl, rfl, rfl, trivial⟩ ⟨rfl, rfl, trivial⟩⟩
     ·refine AWR.exit_end rfl ⟨rfl, Ent.of trivial trivial⟩
    ·refine Ws (Wr ?_)
     refine asg (Bv true) rfl ⟨rfl, rfl⟩ rfl rfl ?_
     refine On ?_
     refine AWR.ret (FPost.mk (.inr rfl) ⟨rfl, trivial⟩ trivial rfl ⟨PermP.sc, trivial⟩ trivial)
theorem w_impl_RigidityMatrix (f : TFramework) : ∀ t, m_impl_RigidityMatrix f = some t → Fw.Fn Try.prog 44 [(.agg [(iC f.Graph.Points), (xF encTBar f.Graph.Bars), (xF encTPlace f.Places)])] [] (.s (.c (lo 0 t.length))) [(0, (.trow 37 1 (lensOf t))), (1, (.pool 3 (rowsOf encInt t)))] [] [0, 1] := by
 refine Fw.Fn.of (P := Try.prog) (X := [0, 1]) (pn := []) (rs := (fun (t : (List (List Int))) => [(.c (lo 0 t.length))])) (dfs := (fun (t : (List (List Int))) => [(0, (.trow 37 1 (lensOf t))), (1, (.pool 3 (rowsOf encInt t)))])) Try.func44 rfl Try.ntmps44 (Nat.le_of_ble_eq_true rfl) rfl ?_
 intro w0 U0 R0 g0
 unfold m_impl_RigidityMatrix
 refine Ws (Wr ?_)
 refine Os10 (LT.box (n := 21) (v := (.agg [(iC f.Graph.Points), (xF encTBar f.Graph.Bars), (xF encTPlace f.Places)])) rfl sz29 (by exact rfl)) rfl rfl rfl ?_
 refine asg (Cc (sC nilV)) rfl ⟨rfl, rfl⟩ rfl rfl ?_
 refine On (Ws (Wr ?_))
 refine Os00 (LT.buildSlice (n := 22) (els := []) [] rfl rfl und31 ti37 rfl rfl rfl rfl (by decide) rfl rfl) rfl rfl ?_
 refine asg (Cc (lo 22 0)) rfl rfl rfl rfl ?_
 refine On ?_
 refine AWR.ent (Ent.poolE 23 3 rfl) ?_
 refine AWR.ent (Ent.trow (n := 22) (p := 23) (lens := lensOf ([] : List (List Int))) (List.append_nil _) rfl) ?_
 refine Ws (Ws (Wr ?_))
 refine Op11 (LT.bloadN (out := [(iC f.Graph.Points), (xF encTBar f.Graph.Bars), (xF encTPlace f.Places)]) rfl ag29 (infS inf29) sz29 (by exact rfl) (by exact rfl)) rfl rfl rfl rfl ?_
 refine Ob' fun r1 hr1 => ?_
 refine AOR.pure (@LT.callF Try.prog _ _ 80 _ _ [(.agg [(iC f.Graph.Points), (xF encTBar f.Graph.Bars), (xF encTPlace f.Places)])] _ _ [] _ _ _ _ (w_impl_IsFramework f r1 hr1) rfl cb80 (.cons (.agg (.cons (.same rfl) (.cons (.same rfl) (.cons (.same rfl) .nil)))) .nil) rfl rfl trivial) ⟨rfl, rfl, trivial⟩ trivial rfl rfl ?_
 refine Op10 (LT.not rfl) rfl rfl rfl ?_
 refine On ?_
 refine AWR.cond rfl (fun hc2 => ?_) (fun hc2 => ?_)
 ·refine Ws (Wr ?_)
  refine mv (Cc (lo 22 0)) rfl rfl rfl rfl ?_
  refine asg (Cc (lo 22 0)) rfl rfl rfl rfl ?_
  refine On ?_
  refine en [(2, (Cc (lo 22 0)))] [(22, (.trow 37 23 (lensOf ([] : List (List Int))))), (23, (.pool 3 (rowsOf encInt ([] : List (List Int)))))] ⟨rfl, trivial⟩ ⟨rfl, rfl, trivial⟩ ?_
  refine AWR.ent (Ent.mv 22 0 rfl rfl) ?_
  refine AWR.ent (Ent.mv 23 1 rfl rfl) ?_
  refine en [(2, (Cc (lo 0 (([] : List (List Int)).length))))] [(0, (.trow 37 1 (lensOf ([] : List (List Int))))), (1, (.pool 3 (rowsOf encInt ([] : List (List Int)))))] ⟨rfl, trivial⟩ ⟨rfl, rfl, trivial⟩ ?_
  refine AWR.ret (FPost.mk (.inr rfl) ⟨rfl, trivial⟩ ⟨rfl, rfl, trivial⟩ rfl ⟨trivial, trivial⟩ ⟨trivial, PermO.poolR perm_encInt _, trivial⟩)
 ·refine AWR.skip (Ws (Ws (Wr ?_)))
  refine Op10 (LT.fieldPl rfl fo29_0) rfl rfl rfl ?_
  refine Op10 (LT.fieldPl rfl fo26_1) rfl rfl rfl ?_
  refine Op11 (LT.bload1 (c := (xF encTBar f.Graph.Bars)) rfl ag24 (by exact rfl)) rfl rfl rfl rfl ?_
  refine Op10 (LT.tlenRO rfl und24) rfl rfl rfl ?_
  refine mv (Iv 0) rfl ⟨rfl, rfl⟩ rfl rfl ?_
  refine On (AWR.block ?_)
  refine AWR.loop1 (id := 0) (m_impl_RigidityMatrix_L1 f) (fun s3 => ([(1, (Cc (.pl 21 0))), (3, (Cc (lo 22 s3.2.length))), (16, (Cc (xF encTBar f.Graph.Bars))), (17, (Iv (f.Graph.Bars.length : Int))), (18, (Iv s3.1))], [(21, (.row 29 [[(iC f.Graph.Points), (xF encTBar f.Graph.Bars), (xF encTPlace f.Places)]])), (22, (.trow 37 23 (lensOf s3.2))), (23, (.pool 3 (rowsOf encInt s3.2)))])) (fun b24 => ([(3, (Cc (lo 22 b24.length)))], [(22, (.trow 37 23 (lensOf b24))), (23, (.pool 3 (rowsOf encInt b24)))])) ?_ (Ent.of ⟨rfl, rfl, rfl, rfl, rfl, trivial⟩ ⟨rfl, rfl, rfl, trivial⟩) rfl (fun b24 _ => ?_)
  ·intro s3
   unfold m_impl_RigidityMatrix_L1
   refine Ws (Wr ?_)
   refine Op20 (LT.lss rfl) rfl rfl rfl rfl ?_
   refine On (Ws ?_)
   refine AWR.cond rfl (fun hc25 => ?_) (fun hc25 => ?_)
   ·refine AWR.skip (Ws (AWR.block (Ws (Wr ?_))))
    refine Ob' fun x26 hx26 => ?_
    refine Op20 (LT.tindexRO (enc := encTBar) rfl el24 hx26 sz62) rfl rfl rfl rfl ?_
    refine Op10 (LT.loadPxN rfl ag62 (infS inf62) (by exact sz62.symm)) rfl rfl rfl ?_
    refine Os00 (LT.alloc (n := 25) (cells := [(iC 0), (iC 0)]) rfl ti62 rfl rfl rfl) rfl rfl ?_
    refine Os21 (LT.bstore (v := (.agg [(iC x26.A), (iC x26.B)])) (out := [(iC x26.A), (iC x26.B)]) rfl rfl (infS inf62) sz62 (by exact rfl) (by exact Nat.le_of_ble_eq_true rfl) (by exact rfl)) rfl rfl rfl rfl rfl ?_
    refine On (Ws (Wr ?_))
    refine Op10 (LT.fieldPl rfl fo29_0) rfl rfl rfl ?_
    refine Op10 (LT.fieldPl rfl fo26_0) rfl rfl rfl ?_
    refine Op11 (LT.bload1 (c := (iC f.Graph.Points)) rfl ag3 (by exact rfl)) rfl rfl rfl rfl ?_
    refine Op20 (LT.mul rfl) ⟨rfl, rfl⟩ rfl rfl rfl ?_
    refine Ob' fun u27 hu27 => ?_
    refine Os20 (LT.tmake (n := 26) (enc := encInt) (zc := [(iC 0)]) (0 : Int) rfl und37 ti3 rfl rfl rfl (by decide) (by decide) (lenOk_le hu27) rfl) rfl rfl rfl rfl ?_
    refine asg (Cc (lo 26 ((List.replicate (w64 (2 * f.Graph.Points)).toNat (0 : Int)).length))) rfl rfl rfl rfl ?_
    refine On (Ws ?_)
    refine en [(1, (Cc (.pl 21 0))), (3, (Cc (lo 22 s3.2.length))), (5, (Cc (.pl 25 0))), (6, (Cc (lo 26 ((List.replicate (w64 (2 * f.Graph.Points)).toNat (0 : Int)).length)))), (16, (Cc (xF encTBar f.Graph.Bars))), (17, (Iv (f.Graph.Bars.length : Int))), (18, (Iv s3.1))] [(21, (.row 29 [[(iC f.Graph.Points), (xF encTBar f.Graph.Bars), (xF encTPlace f.Places)]])), (22, (.trow 37 23 (lensOf s3.2))), (23, (.pool 3 (rowsOf encInt s3.2))), (25, (.row 62 [[(iC x26.A), (iC x26.B)]])), (26, (pR 3 encInt (List.replicate (w64 (2 * f.Graph.Points)).toNat (0 : Int))))] ⟨rfl, rfl, rfl, rfl, rfl, rfl, rfl, trivial⟩ ⟨rfl, rfl, rfl, rfl, rfl, trivial⟩ ?_
    refine AWR.draw mixed ?_
    refine Dp10 (LT.fieldPl rfl fo29_1) rfl rfl rfl ?_
    refine Dp11 (LT.bload1 (c := (xF encTPlace f.Places)) rfl ag27 (by exact rfl)) rfl rfl rfl rfl ?_
    refine Dp10 (LT.fieldPl rfl fo62_0) rfl rfl rfl ?_
    refine Dp11 (LT.bload1 (c := (iC x26.A)) rfl ag3 (by exact rfl)) rfl rfl rfl rfl ?_
    refine AOD.bind fun x28 hx28 => ?_
    refine Dp20 (LT.tindexRO (enc := encTPlace) rfl el27 hx28 sz94) rfl rfl rfl rfl ?_
    refine Dp10 (LT.loadPxN rfl ag94 (infS inf94) (by exact sz94.symm)) rfl rfl rfl ?_
    refine Dp10 (LT.fieldPl rfl fo29_1) rfl rfl rfl ?_
    refine Dp11 (LT.bload1 (c := (xF encTPlace f.Places)) rfl ag27 (by exact rfl)) rfl rfl rfl rfl ?_
    refine Dp10 (LT.fieldPl rfl fo62_1) rfl rfl rfl ?_
    refine Dp11 (LT.bload1 (c := (iC x26.B)) rfl ag3 (by exact rfl)) rfl rfl rfl rfl ?_
    refine AOD.bind fun x29 hx29 => ?_
    refine Dp20 (LT.tindexRO (enc := encTPlace) rfl el27 hx29 sz94) rfl rfl rfl rfl ?_
    refine Dp10 (LT.loadPxN rfl ag94 (infS inf94) (by exact sz94.symm)) rfl rfl rfl ?_
    refine Ds00 (LT.alloc (n := 27) (cells := [(iC 0), (iC 0)]) rfl ti94 rfl rfl rfl) rfl rfl ?_
    refine Ds00 (LT.alloc (n := 28) (cells := [(iC 0), (iC 0)]) rfl ti94 rfl rfl rfl) rfl rfl ?_
    refine Ds21 (LT.bstore (v := (.agg [(iC x28.X), (iC x28.Y)])) (out := [(iC x28.X), (iC x28.Y)]) rfl rfl (infS inf94) sz94 (by exact rfl) (by exact Nat.le_of_ble_eq_true rfl) (by exact rfl)) rfl rfl rfl rfl rfl ?_
    refine Ds21 (LT.bstore (v := (.agg [(iC x29.X), (iC x29.Y)])) (out := [(iC x29.X), (iC x29.Y)]) rfl rfl (infS inf94) sz94 (by exact rfl) (by exact Nat.le_of_ble_eq_true rfl) (by exact rfl)) rfl rfl rfl rfl rfl ?_
    refine AOD.nil (by kernel_rfl) ?_
    refine Ws ?_
    refine en [(1, (Cc (.pl 21 0))), (3, (Cc (lo 22 s3.2.length))), (5, (Cc (.pl 25 0))), (6, (Cc (lo 26 ((List.replicate (w64 (2 * f.Graph.Points)).toNat (0 : Int)).length)))), (7, (Cc (.pl 27 0))), (8, (Cc (.pl 28 0))), (16, (Cc (xF encTBar f.Graph.Bars))), (17, (Iv (f.Graph.Bars.length : Int))), (18, (Iv s3.1))] [(21, (.row 29 [[(iC f.Graph.Points), (xF encTBar f.Graph.Bars), (xF encTPlace f.Places)]])), (22, (.trow 37 23 (lensOf s3.2))), (23, (.pool 3 (rowsOf encInt s3.2))), (25, (.row 62 [[(iC x26.A), (iC x26.B)]])), (26, (pR 3 encInt (List.replicate (w64 (2 * f.Graph.Points)).toNat (0 : Int)))), (27, (.row 94 [[(iC x28.X), (iC x28.Y)]])), (28, (.row 94 [[(iC x29.X), (iC x29.Y)]]))] ⟨rfl, rfl, rfl, rfl, rfl, rfl, rfl, rfl, rfl, trivial⟩ ⟨rfl, rfl, rfl, rfl, rfl, rfl, rfl, trivial⟩ ?_
    refine AWR.draw mixed ?_
    refine Dp10 (LT.move (v := (Cc (lo 26 ((List.replicate (w64 (2 * f.Graph.Points)).toNat (0 : Int)).length)))) rfl) rfl rfl rfl ?_
    refine Dp10 (LT.fieldPl rfl fo62_0) rfl rfl rfl ?_
    refine Dp11 (LT.bload1 (c := (iC x26.A)) rfl ag3 (by exact rfl)) rfl rfl rfl rfl ?_
    refine Dp20 (LT.mul rfl) ⟨rfl, rfl⟩ rfl rfl rfl ?_
    refine Dp10 (LT.move (v := (Cc (lo 26 ((List.replicate (w64 (2 * f.Graph.Points)).toNat (0 : Int)).length)))) rfl) rfl rfl rfl ?_
    refine Dp10 (LT.fieldPl rfl fo62_0) rfl rfl rfl ?_
    refine Dp11 (LT.bload1 (c := (iC x26.A)) rfl ag3 (by exact rfl)) rfl rfl rfl rfl ?_
    refine Dp20 (LT.mul rfl) ⟨rfl, rfl⟩ rfl rfl rfl ?_
    refine Dp20 (LT.add rfl) rfl ⟨rfl, rfl⟩ rfl rfl ?_
    refine Dp10 (LT.fieldPl rfl fo94_0) rfl rfl rfl ?_
    refine Dp11 (LT.bload1 (c := (iC x28.X)) rfl ag3 (by exact rfl)) rfl rfl rfl rfl ?_
    refine Dp10 (LT.fieldPl rfl fo94_0) rfl rfl rfl ?_
    refine Dp11 (LT.bload1 (c := (iC x29.X)) rfl ag3 (by exact rfl)) rfl rfl rfl rfl ?_
    refine Dp20 (LT.sub rfl) rfl rfl rfl rfl ?_
    refine Dp10 (LT.fieldPl rfl fo94_1) rfl rfl rfl ?_
    refine Dp11 (LT.bload1 (c := (iC x28.Y)) rfl ag3 (by exact rfl)) rfl rfl rfl rfl ?_
    refine Dp10 (LT.fieldPl rfl fo94_1) rfl rfl rfl ?_
    refine Dp11 (LT.bload1 (c := (iC x29.Y)) rfl ag3 (by exact rfl)) rfl rfl rfl rfl ?_
    refine Dp20 (LT.sub rfl) rfl rfl rfl rfl ?_
    refine AOD.bind fun x30 hx30 => ?_
    refine Dp21 (LT.tindexLoc rfl rfl el37 hx30) rfl rfl rfl rfl rfl ?_
    refine Ds21 (LT.tstore (k := 0) (v := (.c (iC (w64 (x28.X - x29.X))))) (b' := (w64 (x28.X - x29.X))) rfl rfl (infS inf3) sz3 (by exact rfl) hx30 (by exact rfl) (by exact Nat.le_of_ble_eq_true rfl) (by exact rfl)) rfl rfl rfl rfl rfl ?_
    refine AOD.bind fun x31 hx31 => ?_
    refine Dp21 (LT.tindexLoc (show (List.replicate (w64 (2 * f.Graph.Points)).toNat (0 : Int)).length = ((List.replicate (w64 (2 * f.Graph.Points)).toNat (0 : Int)).set (w64 (2 * x26.A)).toNat (w64 (x28.X - x29.X))).length by simp only [List.length_set]) rfl el37 hx31) rfl rfl rfl rfl rfl ?_
    refine Ds21 (LT.tstore (k := 0) (v := (.c (iC (w64 (x28.Y - x29.Y))))) (b' := (w64 (x28.Y - x29.Y))) rfl rfl (infS inf3) sz3 (by exact rfl) hx31 (by exact rfl) (by exact Nat.le_of_ble_eq_true rfl) (by exact rfl)) rfl rfl rfl rfl rfl ?_
    refine AOD.nil (by kernel_rfl) ?_
    refine Ws ?_
    refine en [(1, (Cc (.pl 21 0))), (3, (Cc (lo 22 s3.2.length))), (5, (Cc (.pl 25 0))), (6, (Cc (lo 26 ((List.replicate (w64 (2 * f.Graph.Points)).toNat (0 : Int)).length)))), (7, (Cc (.pl 27 0))), (8, (Cc (.pl 28 0))), (16, (Cc (xF encTBar f.Graph.Bars))), (17, (Iv (f.Graph.Bars.length : Int))), (18, (Iv s3.1))] [(21, (.row 29 [[(iC f.Graph.Points), (xF encTBar f.Graph.Bars), (xF encTPlace f.Places)]])), (22, (.trow 37 23 (lensOf s3.2))), (23, (.pool 3 (rowsOf encInt s3.2))), (25, (.row 62 [[(iC x26.A), (iC x26.B)]])), (26, (pR 3 encInt (((List.replicate (w64 (2 * f.Graph.Points)).toNat (0 : Int)).set (w64 (2 * x26.A)).toNat (w64 (x28.X - x29.X))).set (w64 ((w64 (2 * x26.A)) + 1)).toNat (w64 (x28.Y - x29.Y))))), (27, (.row 94 [[(iC x28.X), (iC x28.Y)]])), (28, (.row 94 [[(iC x29.X), (iC x29.Y)]]))] ⟨rfl, rfl, rfl, rfl, rfl, rfl, rfl, rfl, rfl, trivial⟩ ⟨rfl, rfl, rfl, rfl, rfl, rfl, rfl, trivial⟩ ?_
    refine AWR.draw mixed ?_
    refine Dp10 (LT.move (v := (Cc (lo 26 ((List.replicate (w64 (2 * f.Graph.Points)).toNat (0 : Int)).length)))) rfl) rfl rfl rfl ?_
    refine Dp10 (LT.fieldPl rfl fo62_1) rfl rfl rfl ?_
    refine Dp11 (LT.bload1 (c := (iC x26.B)) rfl ag3 (by exact rfl)) rfl rfl rfl rfl ?_
    refine Dp20 (LT.mul rfl) ⟨rfl, rfl⟩ rfl rfl rfl ?_
    refine Dp10 (LT.move (v := (Cc (lo 26 ((List.replicate (w64 (2 * f.Graph.Points)).toNat (0 : Int)).length)))) rfl) rfl rfl rfl ?_
    refine Dp10 (LT.fieldPl rfl fo62_1) rfl rfl rfl ?_
    refine Dp11 (LT.bload1 (c := (iC x26.B)) rfl ag3 (by exact rfl)) rfl rfl rfl rfl ?_
    refine Dp20 (LT.mul rfl) ⟨rfl, rfl⟩ rfl rfl rfl ?_
    refine Dp20 (LT.add rfl) rfl ⟨rfl, rfl⟩ rfl rfl ?_
    refine Dp10 (LT.fieldPl rfl fo94_0) rfl rfl rfl ?_
    refine Dp11 (LT.bload1 (c := (iC x29.X)) rfl ag3 (by exact rfl)) rfl rfl rfl rfl ?_
    refine Dp10 (LT.fieldPl rfl fo94_0) rfl rfl rfl ?_
    refine Dp11 (LT.bload1 (c := (iC x28.X)) rfl ag3 (by exact rfl)) rfl rfl rfl rfl ?_
    refine Dp20 (LT.sub rfl) rfl rfl rfl rfl ?_
    refine Dp10 (LT.fieldPl rfl fo94_1) rfl rfl rfl ?_
    refine Dp11 (LT.bload1 (c := (iC x29.Y)) rfl ag3 (by exact rfl)) rfl rfl rfl rfl ?_
    refine Dp10 (LT.fieldPl rfl fo94_1) rfl rfl rfl ?_
    refine Dp11 (LT.bload1 (c := (iC x28.Y)) rfl ag3 (by exact rfl)) rfl rfl rfl rfl ?_
    refine Dp20 (LT.sub rfl) rfl rfl rfl rfl ?_
    refine AOD.bind fun x32 hx32 => ?_
    refine Dp21 (LT.tindexLoc (show (List.replicate (w64 (2 * f.Graph.Points)).toNat (0 : Int)).length = (((List.replicate (w64 (2 * f.Graph.Points)).toNat (0 : Int)).set (w64 (2 * x26.A)).toNat (w64 (x28.X - x29.X))).set (w64 ((w64 (2 * x26.A)) + 1)).toNat (w64 (x28.Y - x29.Y))).length by simp only [List.length_set]) rfl el37 hx32) rfl rfl rfl rfl rfl ?_
    refine Ds21 (LT.tstore (k := 0) (v := (.c (iC (w64 (x29.X - x28.X))))) (b' := (w64 (x29.X - x28.X))) rfl rfl (infS inf3) sz3 (by exact rfl) hx32 (by exact rfl) (by exact Nat.le_of_ble_eq_true rfl) (by exact rfl)) rfl rfl rfl rfl rfl ?_
    refine AOD.bind fun x33 hx33 => ?_
    refine Dp21 (LT.tindexLoc (show (List.replicate (w64 (2 * f.Graph.Points)).toNat (0 : Int)).length = ((((List.replicate (w64 (2 * f.Graph.Points)).toNat (0 : Int)).set (w64 (2 * x26.A)).toNat (w64 (x28.X - x29.X))).set (w64 ((w64 (2 * x26.A)) + 1)).toNat (w64 (x28.Y - x29.Y))).set (w64 (2 * x26.B)).toNat (w64 (x29.X - x28.X))).length by simp only [List.length_set]) rfl el37 hx33) rfl rfl rfl rfl rfl ?_
    refine Ds21 (LT.tstore (k := 0) (v := (.c (iC (w64 (x29.Y - x28.Y))))) (b' := (w64 (x29.Y - x28.Y))) rfl rfl (infS inf3) sz3 (by exact rfl) hx33 (by exact rfl) (by exact Nat.le_of_ble_eq_true rfl) (by exact rfl)) rfl rfl rfl rfl rfl ?_
    refine AOD.nil (by kernel_rfl) ?_
    refine en [(1, (Cc (.pl 21 0))), (3, (Cc (lo 22 s3.2.length))), (6, (Cc (lo 26 ((List.replicate (w64 (2 * f.Graph.Points)).toNat (0 : Int)).length)))), (16, (Cc (xF encTBar f.Graph.Bars))), (17, (Iv (f.Graph.Bars.length : Int))), (18, (Iv s3.1))] [(21, (.row 29 [[(iC f.Graph.Points), (xF encTBar f.Graph.Bars), (xF encTPlace f.Places)]])), (22, (.trow 37 23 (lensOf s3.2))), (23, (.pool 3 (rowsOf encInt s3.2))), (26, (pR 3 encInt (((((List.replicate (w64 (2 * f.Graph.Points)).toNat (0 : Int)).set (w64 (2 * x26.A)).toNat (w64 (x28.X - x29.X))).set (w64 ((w64 (2 * x26.A)) + 1)).toNat (w64 (x28.Y - x29.Y))).set (w64 (2 * x26.B)).toNat (w64 (x29.X - x28.X))).set (w64 ((w64 (2 * x26.B)) + 1)).toNat (w64 (x29.Y - x28.Y)))))] ⟨rfl, rfl, rfl, rfl, rfl, rfl, trivial⟩ ⟨rfl, rfl, rfl, rfl, trivial⟩ ?_
    refine Wr ?_
    refine mv (Cc (lo 22 s3.2.length)) rfl rfl rfl rfl ?_
    refine mv (Cc (lo 26 ((List.replicate (w64 (2 * f.Graph.Points)).toNat (0 : Int)).length))) rfl rfl rfl rfl ?_
    refine Os10 (LT.buildSlice (n := 29) (els := [[(lo 26 ((List.replicate (w64 (2 * f.Graph.Points)).toNat (0 : Int)).length))]]) [(0, .tmp 82, (.c (lo 26 ((List.replicate (w64 (2 * f.Graph.Points)).toNat (0 : Int)).length))))] rfl rfl und31 ti37 rfl rfl rfl rfl (by decide) rfl rfl) rfl rfl rfl ?_
    refine Ob' fun u34 hu34 => ?_
    refine Os22 (LT.xapp rfl rfl rfl und31 ti37 rfl (by decide) (by decide) rfl (lim_le hu34)) rfl rfl rfl rfl rfl rfl ?_
    refine asg (Cc (lo 22 (s3.2.length + 1))) rfl rfl rfl rfl ?_
    refine On ?_
    refine AWR.ent (Ent.tadopt (enc := encInt) (n := 22) (m := 26) (p := 23) (rows := s3.2) (r := (((((List.replicate (w64 (2 * f.Graph.Points)).toNat (0 : Int)).set (w64 (2 * x26.A)).toNat (w64 (x28.X - x29.X))).set (w64 ((w64 (2 * x26.A)) + 1)).toNat (w64 (x28.Y - x29.Y))).set (w64 (2 * x26.B)).toNat (w64 (x29.X - x28.X))).set (w64 ((w64 (2 * x26.B)) + 1)).toNat (w64 (x29.Y - x28.Y)))) (rest := []) (show (List.replicate (w64 (2 * f.Graph.Points)).toNat (0 : Int)).length = (((((List.replicate (w64 (2 * f.Graph.Points)).toNat (0 : Int)).set (w64 (2 * x26.A)).toNat (w64 (x28.X - x29.X))).set (w64 ((w64 (2 * x26.A)) + 1)).toNat (w64 (x28.Y - x29.Y))).set (w64 (2 * x26.B)).toNat (w64 (x29.X - x28.X))).set (w64 ((w64 (2 * x26.B)) + 1)).toNat (w64 (x29.Y - x28.Y))).length by simp only [List.length_set]) rfl rfl rfl rfl rfl) ?_
    refine AWR.ent (Ent.trow (n := 22) (p := 23) (lens := lensOf (s3.2 ++ [(((((List.replicate (w64 (2 * f.Graph.Points)).toNat (0 : Int)).set (w64 (2 * x26.A)).toNat (w64 (x28.X - x29.X))).set (w64 ((w64 (2 * x26.A)) + 1)).toNat (w64 (x28.Y - x29.Y))).set (w64 (2 * x26.B)).toNat (w64 (x29.X - x28.X))).set (w64 ((w64 (2 * x26.B)) + 1)).toNat (w64 (x29.Y - x28.Y)))])) (List.append_nil _) rfl) ?_
    refine AWR.blk (Wr ?_)
    refine Op20 (LT.add rfl) rfl ⟨rfl, rfl⟩ rfl rfl ?_
    refine mv (Iv (w64 (s3.1 + 1))) rfl rfl rfl rfl ?_
    refine On ?_
    refine AWR.nil ⟨rfl, Ent.of ⟨rfl, (congrArg (fun l1 => (some (AV.s (.c (lo 22 l1))) : Option AV)) (show (s3.2.length + 1) = (s3.2 ++ [(((((List.replicate (w64 (2 * f.Graph.Points)).toNat (0 : Int)).set (w64 (2 * x26.A)).toNat (w64 (x28.X - x29.X))).set (w64 ((w64 (2 * x26.A)) + 1)).toNat (w64 (x28.Y - x29.Y))).set (w64 (2 * x26.B)).toNat (w64 (x29.X - x28.X))).set (w64 ((w64 (2 * x26.B)) + 1)).toNat (w64 (x29.Y - x28.Y)))]).length from len_snoc)), rfl, rfl, rfl, trivial⟩ ⟨rfl, rfl, rfl, trivial⟩⟩
   ·refine AWR.exit_end rfl ⟨rfl, Ent.of ⟨rfl, trivial⟩ ⟨rfl, rfl, trivial⟩⟩
  ·refine Ws (Wr ?_)
   refine mv (Cc (lo 22 b24.length)) rfl rfl rfl rfl ?_
   refine asg (Cc (lo 22 b24.length)) rfl rfl rfl rfl ?_
   refine On ?_
   refine en [(2, (Cc (lo 22 b24.length)))] [(22, (.trow 37 23 (lensOf b24))), (23, (.pool 3 (rowsOf encInt b24)))] ⟨rfl, trivial⟩ ⟨rfl, rfl, trivial⟩ ?_
   refine AWR.ent (Ent.mv 22 0 rfl rfl) ?_
   refine AWR.ent (Ent.mv 23 1 rfl rfl) ?_
   refine en [(2, (Cc (lo 0 b24.length)))] [(0, (.trow 37 1 (lensOf b24))), (1, (.pool 3 (rowsOf encInt b24)))] ⟨rfl, trivial⟩ ⟨rfl, rfl, trivial⟩ ?_
   refine AWR.ret (FPost.mk (.inr rfl) ⟨rfl, trivial⟩ ⟨rfl, rfl, trivial⟩ rfl ⟨trivial, trivial⟩ ⟨trivial, PermO.poolR perm_encInt _, trivial⟩)
theorem w_impl_copyInts (l : (List Int)) : ∀ t, m_impl_copyInts l = some t → Fw.Fn Try.prog 114 [(.c (xF encInt l))] [] (.s (.c (lo 0 t.length))) [(0, (pR 3 encInt t))] [] [0] := by
 refine Fw.Fn.of (P := Try.prog) (X := [0]) (pn := []) (rs := (fun (t : (List Int)) => [(.c (lo 0 t.length))])) (dfs := (fun (t : (List Int)) => [(0, (pR 3 encInt t))])) Try.func114 rfl Try.ntmps114 (Nat.le_of_ble_eq_true rfl) rfl ?_
 intro w0 U0 R0 g0
 unfold m_impl_copyInts
 refine Ws (Wr ?_)
 refine asg (Cc (sC nilV)) rfl ⟨rfl, rfl⟩ rfl rfl ?_
 refine On (Ws (Wr ?_))
 refine Os00 (LT.tbuildSlice (n := 21) (enc := encInt) [] ([] : List Int) rfl rfl und37 ti3 rfl rfl rfl rfl (by decide) (fun _ => rfl) rfl) rfl rfl ?_
 refine mv (Cc (xF encInt l)) rfl rfl rfl rfl ?_
 refine Ob' fun u1 hu1 => ?_
 refine Os21 (LT.tappRO (enc := encInt) rfl  rfl und37 ti3 rfl (by decide) (by decide) (fun _ => rfl) (lim_le hu1)) rfl rfl rfl rfl rfl ?_
 refine asg (Cc (lo 21 ((([] : List Int) ++ l).length))) rfl rfl rfl rfl ?_
 refine On ?_
 refine en [(2, (Cc (lo 21 ((([] : List Int) ++ l).length))))] [(21, (pR 3 encInt (([] : List Int) ++ l)))] ⟨rfl, trivial⟩ ⟨rfl, trivial⟩ ?_
 refine AWR.ent (Ent.mv 21 0 rfl rfl) ?_
 refine en [(2, (Cc (lo 0 ((([] : List Int) ++ l).length))))] [(0, (pR 3 encInt (([] : List Int) ++ l)))] ⟨rfl, trivial⟩ ⟨rfl, trivial⟩ ?_
 refine AWR.ret (FPost.mk (.inr rfl) ⟨rfl, trivial⟩ ⟨rfl, trivial⟩ rfl ⟨trivial, trivial⟩ ⟨PermO.prow' perm_encInt, trivial⟩)
theorem w_impl_copyLists (l : (List (List Int))) : ∀ t, m_impl_copyLists l = some t → Fw.Fn Try.prog 234 [(.c (xF (encLInt false) l))] [] (.s (.c (lo 0 t.length))) [(0, (.trow 37 1 (lensOf t))), (1, (.pool 3 (rowsOf encInt t)))] [] [0, 1] := by
 refine Fw.Fn.of (P := Try.prog) (X := [0, 1]) (pn := []) (rs := (fun (t : (List (List Int))) => [(.c (lo 0 t.length))])) (dfs := (fun (t : (List (List Int))) => [(0, (.trow 37 1 (lensOf t))), (1, (.pool 3 (rowsOf encInt t)))])) Try.func234 rfl Try.ntmps234 (Nat.le_of_ble_eq_true rfl) rfl ?_
 intro w0 U0 R0 g0
 unfold m_impl_copyLists
 refine Ws (Wr ?_)
 refine asg (Cc (sC nilV)) rfl ⟨rfl, rfl⟩ rfl rfl ?_
 refine On (Ws (Wr ?_))
 refine Os00 (LT.buildSlice (n := 21) (els := []) [] rfl rfl und31 ti37 rfl rfl rfl rfl (by decide) rfl rfl) rfl rfl ?_
 refine asg (Cc (lo 21 0)) rfl rfl rfl rfl ?_
 refine On ?_
 refine AWR.ent (Ent.poolE 22 3 rfl) ?_
 refine AWR.ent (Ent.trow (n := 21) (p := 22) (lens := lensOf ([] : List (List Int))) (List.append_nil _) rfl) ?_
 refine Ws (Ws (Wr ?_))
 refine mv (Cc (xF (encLInt false) l)) rfl rfl rfl rfl ?_
 refine Op10 (LT.tlenRO rfl und31) rfl rfl rfl ?_
 refine mv (Iv 0) rfl ⟨rfl, rfl⟩ rfl rfl ?_
 refine On (AWR.block ?_)
 refine AWR.loop1 (id := 0) (m_impl_copyLists_L1 l) (fun s1 => ([(3, (Cc (lo 21 s1.2.length))), (7, (Cc (xF (encLInt false) l))), (8, (Iv (l.length : Int))), (9, (Iv s1.1))], [(21, (.trow 37 22 (lensOf s1.2))), (22, (.pool 3 (rowsOf encInt s1.2)))])) (fun b10 => ([(3, (Cc (lo 21 b10.length)))], [(21, (.trow 37 22 (lensOf b10))), (22, (.pool 3 (rowsOf encInt b10)))])) ?_ (Ent.of ⟨rfl, rfl, rfl, rfl, trivial⟩ ⟨rfl, rfl, trivial⟩) rfl (fun b10 _ => ?_)
 ·intro s1
  unfold m_impl_copyLists_L1
  refine Ws (Wr ?_)
  refine Op20 (LT.lss rfl) rfl rfl rfl rfl ?_
  refine On (Ws ?_)
  refine AWR.cond rfl (fun hc11 => ?_) (fun hc11 => ?_)
  ·refine AWR.skip (Ws (AWR.block (Ws (Wr ?_))))
   refine Ob' fun x12 hx12 => ?_
   refine Op20 (LT.tindexRO (enc := (encLInt false)) rfl el31 hx12 sz37) rfl rfl rfl rfl ?_
   refine Op10 (LT.loadPx1 rfl ag37) rfl rfl rfl ?_
   refine asg (Cc (xF encInt x12)) rfl rfl rfl rfl ?_
   refine On (Wr ?_)
   refine mv (Cc (lo 21 s1.2.length)) rfl rfl rfl rfl ?_
   refine mv (Cc (xF encInt x12)) rfl rfl rfl rfl ?_
   refine Ob' fun r13 hr13 => ?_
   refine AOR.step (@LT.callF Try.prog _ _ 114 _ _ [(.c (xF encInt x12))] _ _ [] _ _ _ _ ((show Fw.Fn Try.prog 114 [(.c (xF encInt x12))] [] (Cc (lo 24 r13.length)) [(24, (pR 3 encInt r13))] [] [24] from Fw.Fn.ren [(0, 24)] (w_impl_copyInts x12 r13 hr13) rfl)) rfl cb114 (.cons (.c (.same rfl)) .nil) rfl rfl trivial) ⟨rfl, rfl, trivial⟩ trivial rfl rfl ?_
   refine Os10 (LT.buildSlice (n := 25) (els := [[(lo 24 r13.length)]]) [(0, .tmp 15, (.c (lo 24 r13.length)))] rfl rfl und31 ti37 rfl rfl rfl rfl (by decide) rfl rfl) rfl rfl rfl ?_
   refine Ob' fun u14 hu14 => ?_
   refine Os22 (LT.xapp rfl rfl rfl und31 ti37 rfl (by decide) (by decide) rfl (lim_le hu14)) rfl rfl rfl rfl rfl rfl ?_
   refine asg (Cc (lo 21 (s1.2.length + 1))) rfl rfl rfl rfl ?_
   refine On ?_
   refine AWR.ent (Ent.tadopt (enc := encInt) (n := 21) (m := 24) (p := 22) (rows := s1.2) (r := r13) (rest := []) rfl rfl rfl rfl rfl rfl) ?_
   refine AWR.ent (Ent.trow (n := 21) (p := 22) (lens := lensOf (s1.2 ++ [r13])) (List.append_nil _) rfl) ?_
   refine AWR.blk (Wr ?_)
   refine Op20 (LT.add rfl) rfl ⟨rfl, rfl⟩ rfl rfl ?_
   refine mv (Iv (w64 (s1.1 + 1))) rfl rfl rfl rfl ?_
   refine On ?_
   refine AWR.nil ⟨rfl, Ent.of ⟨(congrArg (fun l1 => (some (AV.s (.c (lo 21 l1))) : Option AV)) (show (s1.2.length + 1) = (s1.2 ++ [r13]).length from len_snoc)), rfl, rfl, rfl, trivial⟩ ⟨rfl, rfl, trivial⟩⟩
  ·refine AWR.exit_end rfl ⟨rfl, Ent.of ⟨rfl, trivial⟩ ⟨rfl, rfl, trivial⟩⟩
 ·refine Ws (Wr ?_)
  refine mv (Cc (lo 21 b10.length)) rfl rfl rfl rfl ?_
  refine asg (Cc (lo 21 b10.length)) rfl rfl rfl rfl ?_
  refine On ?_
  refine en [(2, (Cc (lo 21 b10.length)))] [(21, (.trow 37 22 (lensOf b10))), (22, (.pool 3 (rowsOf encInt b10)))] ⟨rfl, trivial⟩ ⟨rfl, rfl, trivial⟩ ?_
  refine AWR.ent (Ent.mv 21 0 rfl rfl) ?_
  refine AWR.ent (Ent.mv 22 1 rfl rfl) ?_
  refine en [(2, (Cc (lo 0 b10.length)))] [(0, (.trow 37 1 (lensOf b10))), (1, (.pool 3 (rowsOf encInt b10)))] ⟨rfl, trivial⟩ ⟨rfl, rfl, trivial⟩ ?_
  refine AWR.ret (FPost.mk (.inr rfl) ⟨rfl, trivial⟩ ⟨rfl, rfl, trivial⟩ rfl ⟨trivial, trivial⟩ ⟨trivial, PermO.poolR perm_encInt _, trivial⟩)
theorem w_impl_reduced (m : (List (List Int))) (columns : Int) : ∀ t, m_impl_reduced m columns = some t → Fw.Fn Try.prog 202 [(.c (xF (encLInt false) m)), (.c (iC columns))] [] (resA [(.c (lo 0 t.1.length)), (.c (lo 2 t.2.1.length)), (.c (iC t.2.2))]) [(0, (.trow 37 1 (lensOf t.1))), (1, (.pool 3 (rowsOf encInt t.1))), (2, (pR 3 encInt t.2.1))] [] [0, 1, 2] := by
 refine Fw.Fn.of (P := Try.prog) (X := [0, 1, 2]) (pn := []) (rs := (fun (t : ((List (List Int)) × (List Int) × Int)) => [(.c (lo 0 t.1.length)), (.c (lo 2 t.2.1.length)), (.c (iC t.2.2))])) (dfs := (fun (t : ((List (List Int)) × (List Int) × Int)) => [(0, (.trow 37 1 (lensOf t.1))), (1, (.pool 3 (rowsOf encInt t.1))), (2, (pR 3 encInt t.2.1))])) Try.func202 rfl Try.ntmps202 (Nat.le_of_ble_eq_true rfl) rfl ?_
 intro w0 U0 R0 g0
 unfold m_impl_reduced
 refine Ws (Wr ?_)
 refine asg (Cc (sC nilV)) rfl ⟨rfl, rfl⟩ rfl rfl ?_
 refine asg (Cc (sC nilV)) rfl ⟨rfl, rfl⟩ rfl rfl ?_
 refine asg (Iv 0) rfl ⟨rfl, rfl⟩ rfl rfl ?_
 refine On (Ws (Wr ?_))
 refine mv (Cc (xF (encLInt false) m)) rfl rfl rfl rfl ?_
 refine Ob' fun r1 hr1 => ?_
 refine AOR.step (@LT.callF Try.prog _ _ 234 _ _ [(.c (xF (encLInt false) m))] _ _ [] _ _ _ _ ((show Fw.Fn Try.prog 234 [(.c (xF (encLInt false) m))] [] (Cc (lo 22 r1.length)) [(22, (.trow 37 23 (lensOf r1))), (23, (.pool 3 (rowsOf encInt r1)))] [] [22, 23] from Fw.Fn.ren [(0, 22), (1, 23)] (w_impl_copyLists m r1 hr1) rfl)) rfl cb234 (.cons (.c (.same rfl)) .nil) rfl rfl trivial) ⟨rfl, rfl, trivial⟩ trivial rfl rfl ?_
 refine asg (Cc (lo 22 r1.length)) rfl rfl rfl rfl ?_
 refine On (Ws (Wr ?_))
 refine Os00 (LT.tbuildSlice (n := 24) (enc := encInt) [] ([] : List Int) rfl rfl und37 ti3 rfl rfl rfl rfl (by decide) (fun _ => rfl) rfl) rfl rfl ?_
 refine asg (Cc (lo 24 (([] : List Int).length))) rfl rfl rfl rfl ?_
 refine On (Ws ?_)
 refine en [(1, (Iv columns)), (7, (Cc (lo 22 r1.length))), (8, (Cc (lo 24 (([] : List Int).length))))] [(22, (.trow 37 23 (lensOf r1))), (23, (.pool 3 (rowsOf encInt r1))), (24, (pR 3 encInt ([] : List Int)))] ⟨rfl, rfl, rfl, trivial⟩ ⟨rfl, rfl, rfl, trivial⟩ ?_
 refine Wr ?_
 refine asg (Iv 1) rfl ⟨rfl, rfl⟩ rfl rfl ?_
 refine On (Ws (Ws (Wr ?_)))
 refine asg (Iv 0) rfl ⟨rfl, rfl⟩ rfl rfl ?_
 refine On (AWR.block ?_)
 refine AWR.loop1 (id := 0) (m_impl_reduced_L9 columns) (fun s2 => ([(1, (Iv columns)), (7, (Cc (lo 22 s2.2.1.length))), (8, (Cc (lo 24 s2.2.2.2.length))), (9, (Iv s2.2.2.1)), (10, (Iv s2.1))], [(22, (.trow 37 23 (lensOf s2.2.1))), (23, (.pool 3 (rowsOf encInt s2.2.1))), (24, (pR 3 encInt s2.2.2.2))])) (fun b151 => ([(7, (Cc (lo 22 b151.2.1.length))), (8, (Cc (lo 24 b151.2.2.length))), (9, (Iv b151.1))], [(22, (.trow 37 23 (lensOf b151.2.1))), (23, (.pool 3 (rowsOf encInt b151.2.1))), (24, (pR 3 encInt b151.2.2))])) ?_ (Ent.of ⟨rfl, rfl, rfl, rfl, rfl, trivial⟩ ⟨rfl, rfl, rfl, trivial⟩) rfl (fun b151 _ => ?_)
 ·intro s2
  unfold m_impl_reduced_L9
  refine Ws (Ws ?_)
  refine AWR.joinK (fun j153 => ([(1, (Iv columns)), (7, (Cc (lo 22 s2.2.1.length))), (8, (Cc (lo 24 s2.2.2.2.length))), (9, (Iv s2.2.2.1)), (10, (Iv s2.1)), (29, (Bv j153))], [(22, (.trow 37 23 (lensOf s2.2.1))), (23, (.pool 3 (rowsOf encInt s2.2.1))), (24, (pR 3 encInt s2.2.2.2))])) ?_ (fun j153 _ => ?_)
  ·refine Wr ?_
   refine mv (Iv s2.1) rfl rfl rfl rfl ?_
   refine mv (Iv columns) rfl rfl rfl rfl ?_
   refine Op20 (LT.lss rfl) rfl rfl rfl rfl ?_
   refine mv (Bv (decide (s2.1 < columns))) rfl rfl rfl rfl ?_
   refine AOR.split (fun hb154 => ?_) (fun hb154 => ?_)
   ·refine mv (Cc (lo 24 s2.2.2.2.length)) rfl rfl ⟨_, rfl, .inl ⟨_, rfl, (by rw [hb154]; rfl)⟩⟩ rfl ?_
    refine Op10 (LT.lenLoc rfl und37) rfl ⟨_, rfl, .inl ⟨_, rfl, (by rw [hb154]; rfl)⟩⟩ rfl ?_
    refine mv (Cc (lo 22 s2.2.1.length)) rfl rfl ⟨_, rfl, .inl ⟨_, rfl, (by rw [hb154]; rfl)⟩⟩ rfl ?_
    refine Op10 (LT.lenLoc rfl und31) rfl ⟨_, rfl, .inl ⟨_, rfl, (by rw [hb154]; rfl)⟩⟩ rfl ?_
    refine Op20 (LT.lss rfl) rfl rfl ⟨_, rfl, .inl ⟨_, rfl, (by rw [hb154]; rfl)⟩⟩ rfl ?_
    refine Op20 (LT.pickT (v := (Bv (decide ((s2.2.2.2.length : Int) < (s2.2.1.length : Int))))) rfl hb154) rfl rfl rfl rfl ?_
    refine On ?_
    refine AWR.nil ⟨rfl, Ent.of ⟨rfl, rfl, rfl, rfl, rfl, rfl, trivial⟩ ⟨rfl, rfl, rfl, trivial⟩⟩
   ·refine Ok rfl rfl rfl (by rw [hb154]; rfl) rfl ?_
    refine Ok rfl rfl rfl (by rw [hb154]; rfl) rfl ?_
    refine Ok rfl rfl rfl (by rw [hb154]; rfl) rfl ?_
    refine Ok rfl rfl rfl (by rw [hb154]; rfl) rfl ?_
    refine Ok rfl rfl rfl (by rw [hb154]; rfl) rfl ?_
    refine Op20 (LT.pickF (v := (Bv false)) rfl hb154) rfl ⟨rfl, rfl⟩ rfl rfl ?_
    refine On ?_
    refine AWR.nil ⟨rfl, Ent.of ⟨rfl, rfl, rfl, rfl, rfl, rfl, trivial⟩ ⟨rfl, rfl, rfl, trivial⟩⟩
  ·refine AWR.cond rfl (fun hc155 => ?_) (fun hc155 => ?_)
   ·refine AWR.skip (Ws (AWR.block (Ws (Wr ?_))))
    refine mv (Cc (lo 24 s2.2.2.2.length)) rfl rfl rfl rfl ?_
    refine Op10 (LT.lenLoc rfl und37) rfl rfl rfl ?_
    refine asg (Iv (s2.2.2.2.length : Int)) rfl rfl rfl rfl ?_
    refine On (Ws (Wr ?_))
    refine mv (Iv (s2.2.2.2.length : Int)) rfl rfl rfl rfl ?_
    refine asg (Iv (s2.2.2.2.length : Int)) rfl rfl rfl rfl ?_
    refine On (Ws (AWR.block ?_))
    refine AWR.loop1 (id := 2) (m_impl_reduced_L10 s2) (fun s156 => ([(1, (Iv columns)), (7, (Cc (lo 22 s2.2.1.length))), (8, (Cc (lo 24 s2.2.2.2.length))), (9, (Iv s2.2.2.1)), (10, (Iv s2.1)), (11, (Iv (s2.2.2.2.length : Int))), (12, (Iv s156))], [(22, (.trow 37 23 (lensOf s2.2.1))), (23, (.pool 3 (rowsOf encInt s2.2.1))), (24, (pR 3 encInt s2.2.2.2))])) (fun b173 => ([(1, (Iv columns)), (7, (Cc (lo 22 b173.2.2.2.2.1.length))), (8, (Cc (lo 24 b173.2.2.2.2.2.length))), (9, (Iv b173.1)), (10, (Iv b173.2.1)), (11, (Iv b173.2.2.1)), (12, (Iv b173.2.2.2.1))], [(22, (.trow 37 23 (lensOf b173.2.2.2.2.1))), (23, (.pool 3 (rowsOf encInt b173.2.2.2.2.1))), (24, (pR 3 encInt b173.2.2.2.2.2))])) ?_ (Ent.of ⟨rfl, rfl, rfl, rfl, rfl, rfl, rfl, trivial⟩ ⟨rfl, rfl, rfl, trivial⟩) rfl (fun b173 _ => ?_)
    ·intro s156
     unfold m_impl_reduced_L10
     refine Ws (Ws ?_)
     refine AWR.joinK (fun j177 => ([(1, (Iv columns)), (7, (Cc (lo 22 s2.2.1.length))), (8, (Cc (lo 24 s2.2.2.2.length))), (9, (Iv s2.2.2.1)), (10, (Iv s2.1)), (11, (Iv (s2.2.2.2.length : Int))), (12, (Iv s156)), (48, (Bv j177))], [(22, (.trow 37 23 (lensOf s2.2.1))), (23, (.pool 3 (rowsOf encInt s2.2.1))), (24, (pR 3 encInt s2.2.2.2))])) ?_ (fun j177 _ => ?_)
     ·refine Wr ?_
      refine mv (Iv s156) rfl rfl rfl rfl ?_
      refine mv (Cc (lo 22 s2.2.1.length)) rfl rfl rfl rfl ?_
      refine Op10 (LT.lenLoc rfl und31) rfl rfl rfl ?_
      refine Op20 (LT.lss rfl) rfl rfl rfl rfl ?_
      refine mv (Bv (decide (s156 < (s2.2.1.length : Int)))) rfl rfl rfl rfl ?_
      refine AOR.split (fun hb178 => ?_) (fun hb178 => ?_)
      ·refine mv (Cc (lo 22 s2.2.1.length)) rfl rfl ⟨_, rfl, .inl ⟨_, rfl, (by rw [hb178]; rfl)⟩⟩ rfl ?_
       refine mv (Iv s156) rfl rfl ⟨_, rfl, .inl ⟨_, rfl, (by rw [hb178]; rfl)⟩⟩ rfl ?_
       refine Ob' fun x179 hx179 => ?_
       refine Op21 (LT.xindex rfl rfl el31 hx179) rfl rfl rfl ⟨_, rfl, .inl ⟨_, rfl, (by rw [hb178]; rfl)⟩⟩ rfl ?_
       refine Op11 (LT.xload rfl ag37 hx179 rfl) rfl rfl ⟨_, rfl, .inl ⟨_, rfl, (by rw [hb178]; rfl)⟩⟩ rfl ?_
       refine mv (Iv s2.1) rfl rfl ⟨_, rfl, .inl ⟨_, rfl, (by rw [hb178]; rfl)⟩⟩ rfl ?_
       refine Ob' fun x180 hx180 => ?_
       refine Op21 (LT.tlindex rfl rfl el37 (idx_get hx179) hx180) rfl rfl rfl ⟨_, rfl, .inl ⟨_, rfl, (by rw [hb178]; rfl)⟩⟩ rfl ?_
       refine Op11 (LT.tlload1 (enc := encInt) (j := 0) rfl ag3 (idx_get hx179) hx180 (by exact rfl) (by exact rfl)) rfl rfl ⟨_, rfl, .inl ⟨_, rfl, (by rw [hb178]; rfl)⟩⟩ rfl ?_
       refine Op20 (LT.eql rfl) rfl ⟨rfl, rfl⟩ ⟨_, rfl, .inl ⟨_, rfl, (by rw [hb178]; rfl)⟩⟩ rfl ?_
       refine Op20 (LT.pickT (v := (Bv (x180 == 0))) rfl hb178) rfl rfl rfl rfl ?_
       refine On ?_
       refine AWR.nil ⟨rfl, Ent.of ⟨rfl, rfl, rfl, rfl, rfl, rfl, rfl, rfl, trivial⟩ ⟨rfl, rfl, rfl, trivial⟩⟩
      ·refine Ok rfl rfl rfl (by rw [hb178]; rfl) rfl ?_
       refine Ok rfl rfl rfl (by rw [hb178]; rfl) rfl ?_
       refine Ok rfl rfl rfl (by rw [hb178]; rfl) rfl ?_
       refine Ok rfl rfl rfl (by rw [hb178]; rfl) rfl ?_
       refine Ok rfl rfl rfl (by rw [hb178]; rfl) rfl ?_
       refine Ok rfl rfl rfl (by rw [hb178]; rfl) rfl ?_
       refine Ok rfl rfl rfl (by rw [hb178]; rfl) rfl ?_
       refine Ok rfl rfl rfl (by rw [hb178]; rfl) rfl ?_
       refine Op20 (LT.pickF (v := (Bv false)) rfl hb178) rfl ⟨rfl, rfl⟩ rfl rfl ?_
       refine On ?_
       refine AWR.nil ⟨rfl, Ent.of ⟨rfl, rfl, rfl, rfl, rfl, rfl, rfl, rfl, trivial⟩ ⟨rfl, rfl, rfl, trivial⟩⟩
     ·refine AWR.cond rfl (fun hc181 => ?_) (fun hc181 => ?_)
      ·refine AWR.skip (AWR.block (Wr ?_))
       refine mv (Iv s156) rfl rfl rfl rfl ?_
       refine Op20 (LT.add rfl) rfl ⟨rfl, rfl⟩ rfl rfl ?_
       refine asg (Iv (w64 (s156 + 1))) rfl rfl rfl rfl ?_
       refine On (AWR.blk ?_)
       refine AWR.nil ⟨rfl, Ent.of ⟨rfl, rfl, rfl, rfl, rfl, rfl, rfl, trivial⟩ ⟨rfl, rfl, rfl, trivial⟩⟩
      ·refine AWR.exit_end rfl ⟨rfl, Ent.of ⟨rfl, rfl, rfl, rfl, rfl, rfl, rfl, trivial⟩ ⟨rfl, rfl, rfl, trivial⟩⟩
    ·refine Ws (Ws (Wr ?_))
     refine mv (Iv b173.2.2.2.1) rfl rfl rfl rfl ?_
     refine mv (Cc (lo 22 b173.2.2.2.2.1.length)) rfl rfl rfl rfl ?_
     refine Op10 (LT.lenLoc rfl und31) rfl rfl rfl ?_
     refine Op20 (LT.eql rfl) rfl rfl rfl rfl ?_
     refine On ?_
     refine AWR.cond rfl (fun hc182 => ?_) (fun hc182 => ?_)
     ·refine AWR.exit rfl (Wr ?_)
      refine mv (Iv b173.2.1) rfl rfl rfl rfl ?_
      refine Op20 (LT.add rfl) rfl ⟨rfl, rfl⟩ rfl rfl ?_
      refine asg (Iv (w64 (b173.2.1 + 1))) rfl rfl rfl rfl ?_
      refine On ?_
      refine AWR.nil ⟨rfl, Ent.of ⟨rfl, rfl, rfl, rfl, rfl, trivial⟩ ⟨rfl, rfl, rfl, trivial⟩⟩
     ·refine AWR.skip (Ws (AWR.draw mixed ?_))
      refine Dp10 (LT.move (v := (Cc (lo 22 b173.2.2.2.2.1.length))) rfl) rfl rfl rfl ?_
      refine Dp10 (LT.move (v := (Iv b173.2.2.1)) rfl) rfl rfl rfl ?_
      refine Dp10 (LT.move (v := (Cc (lo 22 b173.2.2.2.2.1.length))) rfl) rfl rfl rfl ?_
      refine Dp10 (LT.move (v := (Iv b173.2.2.2.1)) rfl) rfl rfl rfl ?_
      refine Dp10 (LT.move (v := (Cc (lo 22 b173.2.2.2.2.1.length))) rfl) rfl rfl rfl ?_
      refine Dp10 (LT.move (v := (Iv b173.2.2.2.1)) rfl) rfl rfl rfl ?_
      refine AOD.bind fun x183 hx183 => ?_
      refine Dp21 (LT.xindex rfl rfl el31 hx183) rfl rfl rfl rfl rfl ?_
      refine Dp11 (LT.xload rfl ag37 hx183 rfl) rfl rfl rfl rfl ?_
      refine Dp10 (LT.move (v := (Cc (lo 22 b173.2.2.2.2.1.length))) rfl) rfl rfl rfl ?_
      refine Dp10 (LT.move (v := (Iv b173.2.2.1)) rfl) rfl rfl rfl ?_
      refine AOD.bind fun x184 hx184 => ?_
      refine Dp21 (LT.xindex rfl rfl el31 hx184) rfl rfl rfl rfl rfl ?_
      refine Dp11 (LT.xload rfl ag37 hx184 rfl) rfl rfl rfl rfl ?_
      refine AOD.bind fun x185 hx185 => ?_
      refine Dp21 (LT.xindex rfl rfl el31 hx185) rfl rfl rfl rfl rfl ?_
      refine Ds21 (LT.xstore (e := 37) (p := 23) rfl rfl (infS inf37) sz37 hx185 rfl) rfl rfl rfl rfl rfl ?_
      refine AOD.bind fun x186 hx186 => ?_
      refine Dp21 (LT.xindexS rfl rfl el31 hx186) rfl rfl rfl rfl rfl ?_
      refine Ds21 (LT.xstore2 (e := 37) (p := 23) rfl rfl (infS inf37) sz37 hx186 rfl) rfl rfl rfl rfl rfl ?_
      refine AOD.nil (by kernel_rfl) ?_
      refine AWR.ent (Ent.tswap (enc := encInt) (n := 22) (p := 23) (rows := b173.2.2.2.2.1) (idx_get hx184) (idx_get hx183) rfl rfl rfl) ?_
      refine Ws (Wr ?_)
      refine mv (Cc (lo 22 b173.2.2.2.2.1.length)) rfl rfl rfl rfl ?_
      refine mv (Iv b173.2.2.1) rfl rfl rfl rfl ?_
      refine Ob' fun x187 hx187 => ?_
      refine Op21 (LT.xindex (show b173.2.2.2.2.1.length = ((b173.2.2.2.2.1.set b173.2.2.1.toNat x183).set b173.2.2.2.1.toNat x184).length by simp only [List.length_set]) rfl el31 hx187) rfl rfl rfl rfl rfl ?_
      refine Op11 (LT.xload rfl ag37 hx187 rfl) rfl rfl rfl rfl ?_
      refine mv (Iv b173.2.1) rfl rfl rfl rfl ?_
      refine Ob' fun x188 hx188 => ?_
      refine Op21 (LT.tlindex rfl rfl el37 (idx_get hx187) hx188) rfl rfl rfl rfl rfl ?_
      refine Op11 (LT.tlload1 (enc := encInt) (j := 0) rfl ag3 (idx_get hx187) hx188 (by exact rfl) (by exact rfl)) rfl rfl rfl rfl ?_
      refine asg (Iv x188) rfl rfl rfl rfl ?_
      refine On (Ws (Ws (Wr ?_)))
      refine mv (Cc (lo 22 b173.2.2.2.2.1.length)) rfl rfl rfl rfl ?_
      refine Op10 (LT.lenLoc rfl und31) rfl rfl rfl ?_
      refine mv (Iv 0) rfl ⟨rfl, rfl⟩ rfl rfl ?_
      refine On (AWR.block ?_)
      refine AWR.loop1 (id := 4) (m_impl_reduced_L13 columns) (fun s189 => ([(1, (Iv columns)), (7, (Cc (lo 22 s189.2.2.2.2.2.2.2.length))), (8, (Cc (lo 24 s189.2.2.2.2.2.2.1.length))), (9, (Iv s189.2.1)), (10, (Iv s189.2.2.1)), (11, (Iv s189.2.2.2.1)), (13, (Iv s189.2.2.2.2.1)), (77, (Iv s189.2.2.2.2.2.1)), (78, (Iv s189.1))], [(22, (.trow 37 23 (lensOf s189.2.2.2.2.2.2.2))), (23, (.pool 3 (rowsOf encInt s189.2.2.2.2.2.2.2))), (24, (pR 3 encInt s189.2.2.2.2.2.2.1))])) (fun b234 => ([(1, (Iv columns)), (7, (Cc (lo 22 b234.2.2.1.length))), (8, (Cc (lo 24 b234.2.2.2.length))), (10, (Iv b234.1)), (13, (Iv b234.2.1))], [(22, (.trow 37 23 (lensOf b234.2.2.1))), (23, (.pool 3 (rowsOf encInt b234.2.2.1))), (24, (pR 3 encInt b234.2.2.2))])) ?_ (Ent.of ⟨rfl, (congrArg (fun l1 => (some (AV.s (.c (lo 22 l1))) : Option AV)) (show b173.2.2.2.2.1.length = ((b173.2.2.2.2.1.set b173.2.2.1.toNat x183).set b173.2.2.2.1.toNat x184).length by simp only [List.length_set])), rfl, rfl, rfl, rfl, rfl, rfl, rfl, trivial⟩ ⟨rfl, rfl, rfl, trivial⟩) rfl (fun b234 _ => ?_)
      ·intro s189
       unfold m_impl_reduced_L13
       refine Ws (Wr ?_)
       refine Op20 (LT.lss rfl) rfl rfl rfl rfl ?_
       refine On (Ws ?_)
       refine AWR.cond rfl (fun hc235 => ?_) (fun hc235 => ?_)
       ·refine AWR.skip (Ws (AWR.block (Ws (Wr ?_))))
        refine mv (Iv s189.1) rfl rfl rfl rfl ?_
        refine asg (Iv s189.1) rfl rfl rfl rfl ?_
        refine On (Ws (Ws (Wr ?_)))
        refine mv (Iv s189.1) rfl rfl rfl rfl ?_
        refine mv (Iv s189.2.2.2.1) rfl rfl rfl rfl ?_
        refine Op20 (LT.eql rfl) rfl rfl rfl rfl ?_
        refine On ?_
        refine AWR.cond rfl (fun hc236 => ?_) (fun hc236 => ?_)
        ·refine AWR.exit rfl (Wr ?_)
         refine Op20 (LT.add rfl) rfl ⟨rfl, rfl⟩ rfl rfl ?_
         refine mv (Iv (w64 (s189.1 + 1))) rfl rfl rfl rfl ?_
         refine On ?_
         refine AWR.nil ⟨rfl, Ent.of ⟨rfl, rfl, rfl, rfl, rfl, rfl, rfl, rfl, rfl, trivial⟩ ⟨rfl, rfl, rfl, trivial⟩⟩
        ·refine AWR.skip (Ws (Wr ?_))
         refine mv (Cc (lo 22 s189.2.2.2.2.2.2.2.length)) rfl rfl rfl rfl ?_
         refine mv (Iv s189.1) rfl rfl rfl rfl ?_
         refine Ob' fun x237 hx237 => ?_
         refine Op21 (LT.xindex rfl rfl el31 hx237) rfl rfl rfl rfl rfl ?_
         refine Op11 (LT.xload rfl ag37 hx237 rfl) rfl rfl rfl rfl ?_
         refine mv (Iv s189.2.2.1) rfl rfl rfl rfl ?_
         refine Ob' fun x238 hx238 => ?_
         refine Op21 (LT.tlindex rfl rfl el37 (idx_get hx237) hx238) rfl rfl rfl rfl rfl ?_
         refine Op11 (LT.tlload1 (enc := encInt) (j := 0) rfl ag3 (idx_get hx237) hx238 (by exact rfl) (by exact rfl)) rfl rfl rfl rfl ?_
         refine asg (Iv x238) rfl rfl rfl rfl ?_
         refine On (Ws ?_)
         refine en [(1, (Iv columns)), (7, (Cc (lo 22 s189.2.2.2.2.2.2.2.length))), (8, (Cc (lo 24 s189.2.2.2.2.2.2.1.length))), (9, (Iv s189.2.1)), (10, (Iv s189.2.2.1)), (11, (Iv s189.2.2.2.1)), (13, (Iv s189.2.2.2.2.1)), (14, (Iv s189.1)), (15, (Iv x238)), (77, (Iv s189.2.2.2.2.2.1)), (78, (Iv s189.1))] [(22, (.trow 37 23 (lensOf s189.2.2.2.2.2.2.2))), (23, (.pool 3 (rowsOf encInt s189.2.2.2.2.2.2.2))), (24, (pR 3 encInt s189.2.2.2.2.2.2.1))] ⟨rfl, rfl, rfl, rfl, rfl, rfl, rfl, rfl, rfl, rfl, rfl, trivial⟩ ⟨rfl, rfl, rfl, trivial⟩ ?_
         refine Wr ?_
         refine mv (Iv columns) rfl rfl rfl rfl ?_
         refine mv (Iv 0) rfl ⟨rfl, rfl⟩ rfl rfl ?_
         refine On (AWR.block ?_)
         refine AWR.loop1 (id := 6) (m_impl_reduced_L14 columns s189 x238) (fun s239 => ([(1, (Iv columns)), (7, (Cc (lo 22 s239.2.length))), (8, (Cc (lo 24 s189.2.2.2.2.2.2.1.length))), (9, (Iv s189.2.1)), (10, (Iv s189.2.2.1)), (11, (Iv s189.2.2.2.1)), (13, (Iv s189.2.2.2.2.1)), (14, (Iv s189.1)), (15, (Iv x238)), (77, (Iv s189.2.2.2.2.2.1)), (78, (Iv s189.1)), (91, (Iv columns)), (92, (Iv s239.1))], [(22, (.trow 37 23 (lensOf s239.2))), (23, (.pool 3 (rowsOf encInt s239.2))), (24, (pR 3 encInt s189.2.2.2.2.2.2.1))])) (fun b256 => ([(1, (Iv columns)), (7, (Cc (lo 22 b256.2.2.2.2.2.2.1.length))), (8, (Cc (lo 24 b256.2.2.2.2.2.2.2.length))), (9, (Iv b256.1)), (10, (Iv b256.2.1)), (11, (Iv b256.2.2.1)), (13, (Iv b256.2.2.2.1)), (77, (Iv b256.2.2.2.2.1)), (78, (Iv b256.2.2.2.2.2.1))], [(22, (.trow 37 23 (lensOf b256.2.2.2.2.2.2.1))), (23, (.pool 3 (rowsOf encInt b256.2.2.2.2.2.2.1))), (24, (pR 3 encInt b256.2.2.2.2.2.2.2))])) ?_ (Ent.of ⟨rfl, rfl, rfl, rfl, rfl, rfl, rfl, rfl, rfl, rfl, rfl, rfl, rfl, trivial⟩ ⟨rfl, rfl, rfl, trivial⟩) rfl (fun b256 _ => ?_)
         ·intro s239
          unfold m_impl_reduced_L14
          refine Ws (Wr ?_)
          refine Op20 (LT.lss rfl) rfl rfl rfl rfl ?_
          refine On (Ws ?_)
          refine AWR.cond rfl (fun hc257 => ?_) (fun hc257 => ?_)
          ·refine AWR.skip (Ws (AWR.block (Ws (Wr ?_))))
           refine mv (Iv s239.1) rfl rfl rfl rfl ?_
           refine asg (Iv s239.1) rfl rfl rfl rfl ?_
           refine On (AWR.draw mixed ?_)
           refine Dp10 (LT.move (v := (Cc (lo 22 s239.2.length))) rfl) rfl rfl rfl ?_
           refine Dp10 (LT.move (v := (Iv s189.1)) rfl) rfl rfl rfl ?_
           refine AOD.bind fun x258 hx258 => ?_
           refine Dp21 (LT.xindex rfl rfl el31 hx258) rfl rfl rfl rfl rfl ?_
           refine Dp11 (LT.xload rfl ag37 hx258 rfl) rfl rfl rfl rfl ?_
           refine Dp10 (LT.move (v := (Iv s239.1)) rfl) rfl rfl rfl ?_
           refine Dp10 (LT.move (v := (Iv s189.2.2.2.2.1)) rfl) rfl rfl rfl ?_
           refine Dp10 (LT.move (v := (Cc (lo 22 s239.2.length))) rfl) rfl rfl rfl ?_
           refine Dp10 (LT.move (v := (Iv s189.1)) rfl) rfl rfl rfl ?_
           refine AOD.bind fun x259 hx259 => ?_
           refine Dp21 (LT.xindex rfl rfl el31 hx259) rfl rfl rfl rfl rfl ?_
           refine Dp11 (LT.xload rfl ag37 hx259 rfl) rfl rfl rfl rfl ?_
           refine Dp10 (LT.move (v := (Iv s239.1)) rfl) rfl rfl rfl ?_
           refine AOD.bind fun x260 hx260 => ?_
           refine Dp21 (LT.tlindex rfl rfl el37 (idx_get hx259) hx260) rfl rfl rfl rfl rfl ?_
           refine Dp11 (LT.tlload1 (enc := encInt) (j := 0) rfl ag3 (idx_get hx259) hx260 (by exact rfl) (by exact rfl)) rfl rfl rfl rfl ?_
           refine Dp20 (LT.mul rfl) rfl rfl rfl rfl ?_
           refine Dp10 (LT.move (v := (Iv x238)) rfl) rfl rfl rfl ?_
           refine Dp10 (LT.move (v := (Cc (lo 22 s239.2.length))) rfl) rfl rfl rfl ?_
           refine Dp10 (LT.move (v := (Iv s189.2.2.2.1)) rfl) rfl rfl rfl ?_
           refine AOD.bind fun x261 hx261 => ?_
           refine Dp21 (LT.xindex rfl rfl el31 hx261) rfl rfl rfl rfl rfl ?_
           refine Dp11 (LT.xload rfl ag37 hx261 rfl) rfl rfl rfl rfl ?_
           refine Dp10 (LT.move (v := (Iv s239.1)) rfl) rfl rfl rfl ?_
           refine AOD.bind fun x262 hx262 => ?_
           refine Dp21 (LT.tlindex rfl rfl el37 (idx_get hx261) hx262) rfl rfl rfl rfl rfl ?_
           refine Dp11 (LT.tlload1 (enc := encInt) (j := 0) rfl ag3 (idx_get hx261) hx262 (by exact rfl) (by exact rfl)) rfl rfl rfl rfl ?_
           refine Dp20 (LT.mul rfl) rfl rfl rfl rfl ?_
           refine Dp20 (LT.sub rfl) rfl rfl rfl rfl ?_
           refine Dp10 (LT.move (v := (Iv s189.2.1)) rfl) rfl rfl rfl ?_
           refine AOD.bind fun u263 hu263 => ?_
           refine Dp20 (LT.quo rfl (nz_ne hu263)) rfl rfl rfl rfl ?_
           refine AOD.bind fun x264 hx264 => ?_
           refine Dp21 (LT.tlindex rfl rfl el37 (idx_get hx258) hx264) rfl rfl rfl rfl rfl ?_
           refine Ds21 (LT.tlstore (enc := encInt) (j := 0) (b' := (w64 (Int.tdiv (w64 ((w64 (s189.2.2.2.2.1 * x260)) - (w64 (x238 * x262)))) s189.2.1))) (v := (.int .i64 (w64 (Int.tdiv (w64 ((w64 (s189.2.2.2.2.1 * x260)) - (w64 (x238 * x262)))) s189.2.1)))) 25 rfl rfl (infS inf3) sz3 rfl (idx_get hx258) hx264 (by exact rfl) (by exact Nat.le_of_ble_eq_true rfl) (by exact rfl) rfl) rfl rfl rfl rfl rfl ?_
           refine AOD.nil (by kernel_rfl) ?_
           refine AWR.ent (Ent.lens (n := 22) (lens_set (r' := (x258.set s239.1.toNat (w64 (Int.tdiv (w64 ((w64 (s189.2.2.2.2.1 * x260)) - (w64 (x238 * x262)))) s189.2.1)))) (idx_get hx258) (List.length_set ..)) rfl) ?_
           refine AWR.blk ?_
           refine en [(1, (Iv columns)), (7, (Cc (lo 22 s239.2.length))), (8, (Cc (lo 24 s189.2.2.2.2.2.2.1.length))), (9, (Iv s189.2.1)), (10, (Iv s189.2.2.1)), (11, (Iv s189.2.2.2.1)), (13, (Iv s189.2.2.2.2.1)), (14, (Iv s189.1)), (15, (Iv x238)), (77, (Iv s189.2.2.2.2.2.1)), (78, (Iv s189.1)), (91, (Iv columns)), (92, (Iv s239.1))] [(22, (.trow 37 23 (lensOf (s239.2.set s189.1.toNat (x258.set s239.1.toNat (w64 (Int.tdiv (w64 ((w64 (s189.2.2.2.2.1 * x260)) - (w64 (x238 * x262)))) s189.2.1))))))), (23, (.pool 3 (rowsOf encInt (s239.2.set s189.1.toNat (x258.set s239.1.toNat (w64 (Int.tdiv (w64 ((w64 (s189.2.2.2.2.1 * x260)) - (w64 (x238 * x262)))) s189.2.1))))))), (24, (pR 3 encInt s189.2.2.2.2.2.2.1))] ⟨rfl, rfl, rfl, rfl, rfl, rfl, rfl, rfl, rfl, rfl, rfl, rfl, rfl, trivial⟩ ⟨rfl, rfl, rfl, trivial⟩ ?_
           refine Wr ?_
           refine Op20 (LT.add rfl) rfl ⟨rfl, rfl⟩ rfl rfl ?_
           refine mv (Iv (w64 (s239.1 + 1))) rfl rfl rfl rfl ?_
           refine On ?_
           refine AWR.nil ⟨rfl, Ent.of ⟨rfl, (congrArg (fun l1 => (some (AV.s (.c (lo 22 l1))) : Option AV)) (show s239.2.length = (s239.2.set s189.1.toNat (x258.set s239.1.toNat (w64 (Int.tdiv (w64 ((w64 (s189.2.2.2.2.1 * x260)) - (w64 (x238 * x262)))) s189.2.1)))).length by simp only [List.length_set])), rfl, rfl, rfl, rfl, rfl, rfl, rfl, rfl, rfl, rfl, rfl, trivial⟩ ⟨rfl, rfl, rfl, trivial⟩⟩
          ·refine AWR.exit_end rfl ⟨rfl, Ent.of ⟨rfl, rfl, rfl, rfl, rfl, rfl, rfl, rfl, rfl, trivial⟩ ⟨rfl, rfl, rfl, trivial⟩⟩
         ·refine AWR.blk (Wr ?_)
          refine Op20 (LT.add rfl) rfl ⟨rfl, rfl⟩ rfl rfl ?_
          refine mv (Iv (w64 (b256.2.2.2.2.2.1 + 1))) rfl rfl rfl rfl ?_
          refine On ?_
          refine AWR.nil ⟨rfl, Ent.of ⟨rfl, rfl, rfl, rfl, rfl, rfl, rfl, rfl, rfl, trivial⟩ ⟨rfl, rfl, rfl, trivial⟩⟩
       ·refine AWR.exit_end rfl ⟨rfl, Ent.of ⟨rfl, rfl, rfl, rfl, rfl, trivial⟩ ⟨rfl, rfl, rfl, trivial⟩⟩
      ·refine Ws (Wr ?_)
       refine mv (Cc (lo 24 b234.2.2.2.length)) rfl rfl rfl rfl ?_
       refine mv (Iv b234.1) rfl rfl rfl rfl ?_
       refine Os10 (LT.tbuildSlice (n := 26) (enc := encInt) [(0, .tmp 125, (.c (iC b234.1)))] ([b234.1] : List Int) rfl rfl und37 ti3 rfl rfl rfl rfl (by decide) (fun _ => rfl) rfl) rfl rfl rfl ?_
       refine Ob' fun u265 hu265 => ?_
       refine Os22 (LT.tappP (enc := encInt) rfl rfl rfl und37 ti3 rfl (by decide) (by decide) (fun _ => rfl) (lim_le hu265)) rfl rfl rfl rfl rfl rfl ?_
       refine asg (Cc (lo 24 ((b234.2.2.2 ++ ([b234.1] : List Int)).length))) rfl rfl rfl rfl ?_
       refine On (Wr ?_)
       refine mv (Iv b234.2.1) rfl rfl rfl rfl ?_
       refine asg (Iv b234.2.1) rfl rfl rfl rfl ?_
       refine On (AWR.blk ?_)
       refine en [(1, (Iv columns)), (7, (Cc (lo 22 b234.2.2.1.length))), (8, (Cc (lo 24 ((b234.2.2.2 ++ ([b234.1] : List Int)).length)))), (9, (Iv b234.2.1)), (10, (Iv b234.1))] [(22, (.trow 37 23 (lensOf b234.2.2.1))), (23, (.pool 3 (rowsOf encInt b234.2.2.1))), (24, (pR 3 encInt (b234.2.2.2 ++ ([b234.1] : List Int))))] ⟨rfl, rfl, rfl, rfl, rfl, trivial⟩ ⟨rfl, rfl, rfl, trivial⟩ ?_
       refine Wr ?_
       refine mv (Iv b234.1) rfl rfl rfl rfl ?_
       refine Op20 (LT.add rfl) rfl ⟨rfl, rfl⟩ rfl rfl ?_
       refine asg (Iv (w64 (b234.1 + 1))) rfl rfl rfl rfl ?_
       refine On ?_
       refine AWR.nil ⟨rfl, Ent.of ⟨rfl, rfl, rfl, rfl, rfl, trivial⟩ ⟨rfl, rfl, rfl, trivial⟩⟩
   ·refine AWR.exit_end rfl ⟨rfl, Ent.of ⟨rfl, rfl, rfl, trivial⟩ ⟨rfl, rfl, rfl, trivial⟩⟩
 ·refine Ws (Wr ?_)
  refine mv (Cc (lo 22 b151.2.1.length)) rfl rfl rfl rfl ?_
  refine mv (Cc (lo 24 b151.2.2.length)) rfl rfl rfl rfl ?_
  refine mv (Iv b151.1) rfl rfl rfl rfl ?_
  refine asg (Cc (lo 22 b151.2.1.length)) rfl rfl rfl rfl ?_
  refine asg (Cc (lo 24 b151.2.2.length)) rfl rfl rfl rfl ?_
  refine asg (Iv b151.1) rfl rfl rfl rfl ?_
  refine On ?_
  refine en [(4, (Cc (lo 22 b151.2.1.length))), (5, (Cc (lo 24 b151.2.2.length))), (6, (Iv b151.1))] [(22, (.trow 37 23 (lensOf b151.2.1))), (23, (.pool 3 (rowsOf encInt b151.2.1))), (24, (pR 3 encInt b151.2.2))] ⟨rfl, rfl, rfl, trivial⟩ ⟨rfl, rfl, rfl, trivial⟩ ?_
  refine AWR.ent (Ent.mv 22 0 rfl rfl) ?_
  refine AWR.ent (Ent.mv 24 2 rfl rfl) ?_
  refine AWR.ent (Ent.mv 23 1 rfl rfl) ?_
  refine en [(4, (Cc (lo 0 b151.2.1.length))), (5, (Cc (lo 2 b151.2.2.length))), (6, (Iv b151.1))] [(0, (.trow 37 1 (lensOf b151.2.1))), (1, (.pool 3 (rowsOf encInt b151.2.1))), (2, (pR 3 encInt b151.2.2))] ⟨rfl, rfl, rfl, trivial⟩ ⟨rfl, rfl, rfl, trivial⟩ ?_
  refine AWR.ret (FPost.mk (.inr rfl) ⟨rfl, rfl, rfl, trivial⟩ ⟨rfl, rfl, rfl, trivial⟩ rfl ⟨trivial, trivial, PermP.sc, trivial⟩ ⟨trivial, PermO.poolR perm_encInt _, PermO.prow' perm_encInt, trivial⟩)
theorem w_spec_IsFramework (f : TFramework) : ∀ t, m_spec_IsFramework f = some t → Fw.Fn Try.prog 15 [(.agg [(iC f.Graph.Points), (xF encTBar f.Graph.Bars), (xF encTPlace f.Places)])] [] (.s (.c (bC t))) [] [] [] := by
 refine Fw.Fn.of (P := Try.prog) (X := []) (pn := []) (rs := (fun (t : Bool) => [(.c (bC t))])) (dfs := (fun (t : Bool) => [])) Try.func15 rfl Try.ntmps15 (Nat.le_of_ble_eq_true rfl) rfl ?_
 intro w0 U0 R0 g0
 unfold m_spec_IsFramework
 refine Ws (Wr ?_)
 refine Os10 (LT.box (n := 21) (v := (.agg [(iC f.Graph.Points), (xF encTBar f.Graph.Bars), (xF encTPlace f.Places)])) rfl sz29 (by exact rfl)) rfl rfl rfl ?_
 refine asg (Bv false) rfl ⟨rfl, rfl⟩ rfl rfl ?_
 refine On (Ws (Ws ?_))
 refine AWR.joinK (fun j5 => ([(1, (Cc (.pl 21 0))), (31, (Bv j5))], [(21, (.row 29 [[(iC f.Graph.Points), (xF encTBar f.Graph.Bars), (xF encTPlace f.Places)]]))])) ?_ (fun j5 _ => ?_)
 ·refine Wr ?_
  refine Op10 (LT.fieldPl rfl fo29_0) rfl rfl rfl ?_
  refine Op11 (LT.bloadN (out := [(iC f.Graph.Points), (xF encTBar f.Graph.Bars)]) rfl ag26 (infS inf26) sz26 (by exact rfl) (by exact rfl)) rfl rfl rfl rfl ?_
  refine Ob' fun r6 hr6 => ?_
  refine AOR.pure (@LT.callF Try.prog _ _ 109 _ _ [(.agg [(iC f.Graph.Points), (xF encTBar f.Graph.Bars)])] _ _ [] _ _ _ _ (w_spec_IsGraph f.Graph r6 hr6) rfl cb109 (.cons (.agg (.cons (.same rfl) (.cons (.same rfl) .nil))) .nil) rfl rfl trivial) ⟨rfl, rfl, trivial⟩ trivial rfl rfl ?_
  refine Op10 (LT.not rfl) rfl rfl rfl ?_
  refine mv (Bv (!r6)) rfl rfl rfl rfl ?_
  refine AOR.split (fun hb7 => ?_) (fun hb7 => ?_)
  ·refine Ok rfl rfl rfl (by rw [hb7]; rfl) rfl ?_
   refine Ok rfl rfl rfl (by rw [hb7]; rfl) rfl ?_
   refine Ok rfl rfl rfl (by rw [hb7]; rfl) rfl ?_
   refine Ok rfl rfl rfl (by rw [hb7]; rfl) rfl ?_
   refine Op20 (LT.pickT (v := (Bv true)) rfl hb7) rfl ⟨rfl, rfl⟩ rfl rfl ?_
   refine mv (Bv true) rfl rfl rfl rfl ?_
   refine Ok rfl rfl rfl rfl rfl ?_
   refine Ok rfl rfl rfl rfl rfl ?_
   refine Ok rfl rfl rfl rfl rfl ?_
   refine Ok rfl rfl rfl rfl rfl ?_
   refine Ok rfl rfl rfl rfl rfl ?_
   refine Ok rfl rfl rfl rfl rfl ?_
   refine Ok rfl rfl rfl rfl rfl ?_
   refine Op20 (LT.pickT (v := (Bv true)) rfl rfl) rfl ⟨rfl, rfl⟩ rfl rfl ?_
   refine mv (Bv true) rfl rfl rfl rfl ?_
   refine Ok rfl rfl rfl rfl rfl ?_
   refine Ok rfl rfl rfl rfl rfl ?_
   refine Ok rfl rfl rfl rfl rfl ?_
   refine Ok rfl rfl rfl rfl rfl ?_
   refine Ok rfl rfl rfl rfl rfl ?_
   refine Op20 (LT.pickT (v := (Bv true)) rfl rfl) rfl ⟨rfl, rfl⟩ rfl rfl ?_
   refine On ?_
   refine AWR.nil ⟨rfl, Ent.of ⟨rfl, rfl, trivial⟩ ⟨rfl, trivial⟩⟩
  ·refine Op10 (LT.fieldPl rfl fo29_0) rfl ⟨_, rfl, .inl ⟨_, rfl, (by rw [hb7]; rfl)⟩⟩ rfl ?_
   refine Op10 (LT.fieldPl rfl fo26_0) rfl ⟨_, rfl, .inl ⟨_, rfl, (by rw [hb7]; rfl)⟩⟩ rfl ?_
   refine Op11 (LT.bload1 (c := (iC f.Graph.Points)) rfl ag3 (by exact rfl)) rfl rfl ⟨_, rfl, .inl ⟨_, rfl, (by rw [hb7]; rfl)⟩⟩ rfl ?_
   refine Op20 (LT.gtr rfl) rfl ⟨rfl, rfl⟩ ⟨_, rfl, .inl ⟨_, rfl, (by rw [hb7]; rfl)⟩⟩ rfl ?_
   refine Op20 (LT.pickF (v := (Bv (decide (6 < f.Graph.Points)))) rfl hb7) rfl rfl rfl rfl ?_
   refine mv (Bv (decide (6 < f.Graph.Points))) rfl rfl rfl rfl ?_
   refine AOR.split (fun hb8 => ?_) (fun hb8 => ?_)
   ·refine Ok rfl rfl rfl (by rw [hb8]; rfl) rfl ?_
    refine Ok rfl rfl rfl (by rw [hb8]; rfl) rfl ?_
    refine Ok rfl rfl rfl (by rw [hb8]; rfl) rfl ?_
    refine Ok rfl rfl rfl (by rw [hb8]; rfl) rfl ?_
    refine Ok rfl rfl rfl (by rw [hb8]; rfl) rfl ?_
    refine Ok rfl rfl rfl (by rw [hb8]; rfl) rfl ?_
    refine Ok rfl rfl rfl (by rw [hb8]; rfl) rfl ?_
    refine Op20 (LT.pickT (v := (Bv true)) rfl hb8) rfl ⟨rfl, rfl⟩ rfl rfl ?_
    refine mv (Bv true) rfl rfl rfl rfl ?_
    refine Ok rfl rfl rfl rfl rfl ?_
    refine Ok rfl rfl rfl rfl rfl ?_
    refine Ok rfl rfl rfl rfl rfl ?_
    refine Ok rfl rfl rfl rfl rfl ?_
    refine Ok rfl rfl rfl rfl rfl ?_
    refine Op20 (LT.pickT (v := (Bv true)) rfl rfl) rfl ⟨rfl, rfl⟩ rfl rfl ?_
    refine On ?_
    refine AWR.nil ⟨rfl, Ent.of ⟨rfl, rfl, trivial⟩ ⟨rfl, trivial⟩⟩
   ·refine Op10 (LT.fieldPl rfl fo29_1) rfl ⟨_, rfl, .inl ⟨_, rfl, (by rw [hb8]; rfl)⟩⟩ rfl ?_
    refine Op11 (LT.bload1 (c := (xF encTPlace f.Places)) rfl ag27 (by exact rfl)) rfl rfl ⟨_, rfl, .inl ⟨_, rfl, (by rw [hb8]; rfl)⟩⟩ rfl ?_
    refine Op10 (LT.tlenRO rfl und27) rfl ⟨_, rfl, .inl ⟨_, rfl, (by rw [hb8]; rfl)⟩⟩ rfl ?_
    refine Op10 (LT.fieldPl rfl fo29_0) rfl ⟨_, rfl, .inl ⟨_, rfl, (by rw [hb8]; rfl)⟩⟩ rfl ?_
    refine Op10 (LT.fieldPl rfl fo26_0) rfl ⟨_, rfl, .inl ⟨_, rfl, (by rw [hb8]; rfl)⟩⟩ rfl ?_
    refine Op11 (LT.bload1 (c := (iC f.Graph.Points)) rfl ag3 (by exact rfl)) rfl rfl ⟨_, rfl, .inl ⟨_, rfl, (by rw [hb8]; rfl)⟩⟩ rfl ?_
    refine Op20 (LT.neq rfl) rfl rfl ⟨_, rfl, .inl ⟨_, rfl, (by rw [hb8]; rfl)⟩⟩ rfl ?_
    refine Op20 (LT.pickF (v := (Bv ((f.Places.length : Int) != f.Graph.Points))) rfl hb8) rfl rfl rfl rfl ?_
    refine mv (Bv ((f.Places.length : Int) != f.Graph.Points)) rfl rfl rfl rfl ?_
    refine AOR.split (fun hb9 => ?_) (fun hb9 => ?_)
    ·refine Ok rfl rfl rfl (by rw [hb9]; rfl) rfl ?_
     refine Ok rfl rfl rfl (by rw [hb9]; rfl) rfl ?_
     refine Ok rfl rfl rfl (by rw [hb9]; rfl) rfl ?_
     refine Ok rfl rfl rfl (by rw [hb9]; rfl) rfl ?_
     refine Ok rfl rfl rfl (by rw [hb9]; rfl) rfl ?_
     refine Op20 (LT.pickT (v := (Bv true)) rfl hb9) rfl ⟨rfl, rfl⟩ rfl rfl ?_
     refine On ?_
     refine AWR.nil ⟨rfl, Ent.of ⟨rfl, rfl, trivial⟩ ⟨rfl, trivial⟩⟩
    ·refine Op10 (LT.fieldPl rfl fo29_0) rfl ⟨_, rfl, .inl ⟨_, rfl, (by rw [hb9]; rfl)⟩⟩ rfl ?_
     refine Op10 (LT.fieldPl rfl fo26_1) rfl ⟨_, rfl, .inl ⟨_, rfl, (by rw [hb9]; rfl)⟩⟩ rfl ?_
     refine Op11 (LT.bload1 (c := (xF encTBar f.Graph.Bars)) rfl ag24 (by exact rfl)) rfl rfl ⟨_, rfl, .inl ⟨_, rfl, (by rw [hb9]; rfl)⟩⟩ rfl ?_
     refine Op10 (LT.tlenRO rfl und24) rfl ⟨_, rfl, .inl ⟨_, rfl, (by rw [hb9]; rfl)⟩⟩ rfl ?_
     refine Op20 (LT.gtr rfl) rfl ⟨rfl, rfl⟩ ⟨_, rfl, .inl ⟨_, rfl, (by rw [hb9]; rfl)⟩⟩ rfl ?_
     refine Op20 (LT.pickF (v := (Bv (decide (15 < (f.Graph.Bars.length : Int))))) rfl hb9) rfl rfl rfl rfl ?_
     refine On ?_
     refine AWR.nil ⟨rfl, Ent.of ⟨rfl, rfl, trivial⟩ ⟨rfl, trivial⟩⟩
 ·refine AWR.cond rfl (fun hc10 => ?_) (fun hc10 => ?_)
  ·refine Ws (Wr ?_)
   refine asg (Bv false) rfl ⟨rfl, rfl⟩ rfl rfl ?_
   refine On ?_
   refine AWR.ret (FPost.mk (.inr rfl) ⟨rfl, trivial⟩ trivial rfl ⟨PermP.sc, trivial⟩ trivial)
  ·refine AWR.skip (Ws (Ws (Wr ?_)))
   refine asg (Iv 0) rfl ⟨rfl, rfl⟩ rfl rfl ?_
   refine On (AWR.block ?_)
   refine AWR.loopR (id := 0) (m_spec_IsFramework_L1 f) (fun s11 => ([(1, (Cc (.pl 21 0))), (3, (Iv s11))], [(21, (.row 29 [[(iC f.Graph.Points), (xF encTBar f.Graph.Bars), (xF encTPlace f.Places)]]))])) (fun b38 => ([(1, (Cc (.pl 21 0)))], [(21, (.row 29 [[(iC f.Graph.Points), (xF encTBar f.Graph.Bars), (xF encTPlace f.Places)]]))])) (FPost Try.prog Try.f15.results.toList [] [] (fun (t : Bool) => [(.c (bC t))]) (fun (t : Bool) => [])) ?_ (Ent.of ⟨rfl, rfl, trivial⟩ ⟨rfl, trivial⟩) rfl (fun b38 _ => ?_) (by intro r t σ m ht hk; injection ht with ht; subst ht; exact hk)
   ·intro s11
    unfold m_spec_IsFramework_L1
    refine Ws (Ws (Wr ?_))
    refine mv (Iv s11) rfl rfl rfl rfl ?_
    refine Op10 (LT.fieldPl rfl fo29_1) rfl rfl rfl ?_
    refine Op11 (LT.bload1 (c := (xF encTPlace f.Places)) rfl ag27 (by exact rfl)) rfl rfl rfl rfl ?_
    refine Op10 (LT.tlenRO rfl und27) rfl rfl rfl ?_
    refine Op20 (LT.lss rfl) rfl rfl rfl rfl ?_
    refine On ?_
    refine AWR.cond rfl (fun hc39 => ?_) (fun hc39 => ?_)
    ·refine AWR.skip (Ws (AWR.block (Ws ?_)))
     refine AWR.joinK (fun j45 => ([(1, (Cc (.pl 21 0))), (3, (Iv s11)), (56, (Bv j45))], [(21, (.row 29 [[(iC f.Graph.Points), (xF encTBar f.Graph.Bars), (xF encTPlace f.Places)]]))])) ?_ (fun j45 _ => ?_)
     ·refine Wr ?_
      refine Op10 (LT.fieldPl rfl fo29_1) rfl rfl rfl ?_
      refine Op11 (LT.bload1 (c := (xF encTPlace f.Places)) rfl ag27 (by exact rfl)) rfl rfl rfl rfl ?_
      refine mv (Iv s11) rfl rfl rfl rfl ?_
      refine Ob' fun x46 hx46 => ?_
      refine Op20 (LT.tindexRO (enc := encTPlace) rfl el27 hx46 sz94) rfl rfl rfl rfl ?_
      refine Op10 (LT.fieldPx rfl fo94_0) rfl rfl rfl ?_
      refine Op10 (LT.loadPx1 rfl ag3) rfl rfl rfl ?_
      refine Ob' fun r47 hr47 => ?_
      refine AOR.pure (@LT.callF Try.prog _ _ 110 _ _ [(.c (iC x46.X)), (.c (iC 0)), (.c (iC 4))] _ _ [] _ _ _ _ (w_spec_l1In x46.X 0 4 r47 hr47) rfl cb110 (.cons (.c (.same rfl)) (.cons (.c (.same rfl)) (.cons (.c (.same rfl)) .nil))) rfl rfl trivial) ⟨rfl, rfl, ⟨rfl, rfl⟩, ⟨rfl, rfl⟩, trivial⟩ trivial rfl rfl ?_
      refine Op10 (LT.not rfl) rfl rfl rfl ?_
      refine mv (Bv (!r47)) rfl rfl rfl rfl ?_
      refine AOR.split (fun hb48 => ?_) (fun hb48 => ?_)
      ·refine Ok rfl rfl rfl (by rw [hb48]; rfl) rfl ?_
       refine Ok rfl rfl rfl (by rw [hb48]; rfl) rfl ?_
       refine Ok rfl rfl rfl (by rw [hb48]; rfl) rfl ?_
       refine Ok rfl rfl rfl (by rw [hb48]; rfl) rfl ?_
       refine Ok rfl rfl rfl (by rw [hb48]; rfl) rfl ?_
       refine Ok rfl rfl rfl (by rw [hb48]; rfl) rfl ?_
       refine Ok rfl rfl rfl (by rw [hb48]; rfl) rfl ?_
       refine Ok rfl rfl rfl (by rw [hb48]; rfl) rfl ?_
       refine Op20 (LT.pickT (v := (Bv true)) rfl hb48) rfl ⟨rfl, rfl⟩ rfl rfl ?_
       refine On ?_
       refine AWR.nil ⟨rfl, Ent.of ⟨rfl, rfl, rfl, trivial⟩ ⟨rfl, trivial⟩⟩
      ·refine Op10 (LT.fieldPl rfl fo29_1) rfl ⟨_, rfl, .inl ⟨_, rfl, (by rw [hb48]; rfl)⟩⟩ rfl ?_
       refine Op11 (LT.bload1 (c := (xF encTPlace f.Places)) rfl ag27 (by exact rfl)) rfl rfl ⟨_, rfl, .inl ⟨_, rfl, (by rw [hb48]; rfl)⟩⟩ rfl ?_
       refine mv (Iv s11) rfl rfl ⟨_, rfl, .inl ⟨_, rfl, (by rw [hb48]; rfl)⟩⟩ rfl ?_
       refine Ob' fun x49 hx49 => ?_
       refine Op20 (LT.tindexRO (enc := encTPlace) rfl el27 hx49 sz94) rfl rfl ⟨_, rfl, .inl ⟨_, rfl, (by rw [hb48]; rfl)⟩⟩ rfl ?_
       refine Op10 (LT.fieldPx rfl fo94_1) rfl ⟨_, rfl, .inl ⟨_, rfl, (by rw [hb48]; rfl)⟩⟩ rfl ?_
       refine Op10 (LT.loadPx1 rfl ag3) rfl ⟨_, rfl, .inl ⟨_, rfl, (by rw [hb48]; rfl)⟩⟩ rfl ?_
       refine Ob' fun r50 hr50 => ?_
       refine AOR.pure (@LT.callF Try.prog _ _ 110 _ _ [(.c (iC x49.Y)), (.c (iC 0)), (.c (iC 4))] _ _ [] _ _ _ _ (w_spec_l1In x49.Y 0 4 r50 hr50) rfl cb110 (.cons (.c (.same rfl)) (.cons (.c (.same rfl)) (.cons (.c (.same rfl)) .nil))) rfl rfl trivial) ⟨rfl, rfl, ⟨rfl, rfl⟩, ⟨rfl, rfl⟩, trivial⟩ trivial ⟨_, rfl, .inl ⟨_, rfl, (by rw [hb48]; rfl)⟩⟩ rfl ?_
       refine Op10 (LT.not rfl) rfl ⟨_, rfl, .inl ⟨_, rfl, (by rw [hb48]; rfl)⟩⟩ rfl ?_
       refine Op20 (LT.pickF (v := (Bv (!r50))) rfl hb48) rfl rfl rfl rfl ?_
       refine On ?_
       refine AWR.nil ⟨rfl, Ent.of ⟨rfl, rfl, rfl, trivial⟩ ⟨rfl, trivial⟩⟩
     ·refine AWR.cond rfl (fun hc51 => ?_) (fun hc51 => ?_)
      ·refine Ws (Wr ?_)
       refine asg (Bv false) rfl ⟨rfl, rfl⟩ rfl rfl ?_
       refine On ?_
       refine AWR.ret ⟨rfl, FPost.mk (.inr rfl) ⟨rfl, trivial⟩ trivial rfl ⟨PermP.sc, trivial⟩ trivial⟩
      ·refine AWR.skip (AWR.blk (Wr ?_))
       refine mv (Iv s11) rfl rfl rfl rfl ?_
       refine Op20 (LT.add rfl) rfl ⟨rfl, rfl⟩ rfl rfl ?_
       refine asg (Iv (w64 (s11 + 1))) rfl rfl rfl rfl ?_
       refine On ?_
       refine AWR.nil ⟨rfl, Ent.of ⟨rfl, rfl, trivial⟩ ⟨rfl, trivial⟩⟩
    ·refine AWR.exit_end rfl ⟨rfl, Ent.of ⟨rfl, trivial⟩ ⟨rfl, trivial⟩⟩
   ·refine Ws (Ws (Wr ?_))
    refine asg (Iv 0) rfl ⟨rfl, rfl⟩ rfl rfl ?_
    refine On (AWR.block ?_)
    refine AWR.loopR (id := 2) (m_spec_IsFramework_L2 f) (fun s52 => ([(1, (Cc (.pl 21 0))), (4, (Iv s52))], [(21, (.row 29 [[(iC f.Graph.Points), (xF encTBar f.Graph.Bars), (xF encTPlace f.Places)]]))])) (fun b81 => ([], [])) (FPost Try.prog Try.f15.results.toList [] [] (fun (t : Bool) => [(.c (bC t))]) (fun (t : Bool) => [])) ?_ (Ent.of ⟨rfl, rfl, trivial⟩ ⟨rfl, trivial⟩) rfl (fun b81 _ => ?_) (by intro r t σ m ht hk; injection ht with ht; subst ht; exact hk)
    ·intro s52
     unfold m_spec_IsFramework_L2
     refine Ws (Ws (Wr ?_))
     refine mv (Iv s52) rfl rfl rfl rfl ?_
     refine Op10 (LT.fieldPl rfl fo29_0) rfl rfl rfl ?_
     refine Op10 (LT.fieldPl rfl fo26_1) rfl rfl rfl ?_
     refine Op11 (LT.bload1 (c := (xF encTBar f.Graph.Bars)) rfl ag24 (by exact rfl)) rfl rfl rfl rfl ?_
     refine Op10 (LT.tlenRO rfl und24) rfl rfl rfl ?_
     refine Op20 (LT.lss rfl) rfl rfl rfl rfl ?_
     refine On ?_
     refine AWR.cond rfl (fun hc82 => ?_) (fun hc82 => ?_)
     ·refine AWR.skip (Ws (AWR.block (Ws (Wr ?_))))
      refine Op10 (LT.fieldPl rfl fo29_0) rfl rfl rfl ?_
      refine Op10 (LT.fieldPl rfl fo26_1) rfl rfl rfl ?_
      refine Op11 (LT.bload1 (c := (xF encTBar f.Graph.Bars)) rfl ag24 (by exact rfl)) rfl rfl rfl rfl ?_
      refine mv (Iv s52) rfl rfl rfl rfl ?_
      refine Ob' fun x83 hx83 => ?_
      refine Op20 (LT.tindexRO (enc := encTBar) rfl el24 hx83 sz62) rfl rfl rfl rfl ?_
      refine Op10 (LT.loadPxN rfl ag62 (infS inf62) (by exact sz62.symm)) rfl rfl rfl ?_
      refine Os00 (LT.alloc (n := 25) (cells := [(iC 0), (iC 0)]) rfl ti62 rfl rfl rfl) rfl rfl ?_
      refine Os21 (LT.bstore (v := (.agg [(iC x83.A), (iC x83.B)])) (out := [(iC x83.A), (iC x83.B)]) rfl rfl (infS inf62) sz62 (by exact rfl) (by exact Nat.le_of_ble_eq_true rfl) (by exact rfl)) rfl rfl rfl rfl rfl ?_
      refine On (Ws ?_)
      refine AWR.joinK (fun j89 => ([(1, (Cc (.pl 21 0))), (4, (Iv s52)), (98, (Bv j89))], [(21, (.row 29 [[(iC f.Graph.Points), (xF encTBar f.Graph.Bars), (xF encTPlace f.Places)]]))])) ?_ (fun j89 _ => ?_)
      ·refine en [(1, (Cc (.pl 21 0))), (4, (Iv s52)), (5, (Cc (.pl 25 0)))] [(21, (.row 29 [[(iC f.Graph.Points), (xF encTBar f.Graph.Bars), (xF encTPlace f.Places)]])), (25, (.row 62 [[(iC x83.A), (iC x83.B)]]))] ⟨rfl, rfl, rfl, trivial⟩ ⟨rfl, rfl, trivial⟩ ?_
       refine AWR.draw mixed ?_
       refine Dp10 (LT.fieldPl rfl fo29_1) rfl rfl rfl ?_
       refine Dp11 (LT.bload1 (c := (xF encTPlace f.Places)) rfl ag27 (by exact rfl)) rfl rfl rfl rfl ?_
       refine Dp10 (LT.fieldPl rfl fo62_0) rfl rfl rfl ?_
       refine Dp11 (LT.bload1 (c := (iC x83.A)) rfl ag3 (by exact rfl)) rfl rfl rfl rfl ?_
       refine AOD.bind fun x90 hx90 => ?_
       refine Dp20 (LT.tindexRO (enc := encTPlace) rfl el27 hx90 sz94) rfl rfl rfl rfl ?_
       refine Dp10 (LT.loadPxN rfl ag94 (infS inf94) (by exact sz94.symm)) rfl rfl rfl ?_
       refine Dp10 (LT.fieldPl rfl fo29_1) rfl rfl rfl ?_
       refine Dp11 (LT.bload1 (c := (xF encTPlace f.Places)) rfl ag27 (by exact rfl)) rfl rfl rfl rfl ?_
       refine Dp10 (LT.fieldPl rfl fo62_1) rfl rfl rfl ?_
       refine Dp11 (LT.bload1 (c := (iC x83.B)) rfl ag3 (by exact rfl)) rfl rfl rfl rfl ?_
       refine AOD.bind fun x91 hx91 => ?_
       refine Dp20 (LT.tindexRO (enc := encTPlace) rfl el27 hx91 sz94) rfl rfl rfl rfl ?_
       refine Dp10 (LT.loadPxN rfl ag94 (infS inf94) (by exact sz94.symm)) rfl rfl rfl ?_
       refine Dp20 (LT.eqlStruct [x90.X, x90.Y] [x91.X, x91.Y] rfl ist94 rfl rfl) rfl rfl rfl rfl ?_
       refine Dp10 (LT.move (v := (Bv (eqI [x90.X, x90.Y] [x91.X, x91.Y]))) rfl) rfl rfl rfl ?_
       refine AOD.split (fun hb92 => ?_) (fun hb92 => ?_)
       ·refine AOD.skip ⟨_, rfl, .inl ⟨_, rfl, (by rw [hb92]; rfl)⟩⟩ rfl ?_
        refine AOD.skip ⟨_, rfl, .inl ⟨_, rfl, (by rw [hb92]; rfl)⟩⟩ rfl ?_
        refine AOD.skip ⟨_, rfl, .inl ⟨_, rfl, (by rw [hb92]; rfl)⟩⟩ rfl ?_
        refine AOD.skip ⟨_, rfl, .inr ⟨rfl, rfl⟩⟩ rfl ?_
        refine AOD.skip ⟨_, rfl, .inr ⟨rfl, rfl⟩⟩ rfl ?_
        refine AOD.skip ⟨_, rfl, .inr ⟨rfl, rfl⟩⟩ rfl ?_
        refine AOD.skip ⟨_, rfl, .inr ⟨rfl, rfl⟩⟩ rfl ?_
        refine AOD.skip ⟨_, rfl, .inr ⟨rfl, rfl⟩⟩ rfl ?_
        refine AOD.skip ⟨_, rfl, .inr ⟨rfl, rfl⟩⟩ rfl ?_
        refine AOD.skip ⟨_, rfl, .inr ⟨rfl, rfl⟩⟩ rfl ?_
        refine AOD.skip ⟨_, rfl, .inr ⟨rfl, rfl⟩⟩ rfl ?_
        refine AOD.skip ⟨_, rfl, .inr ⟨rfl, rfl⟩⟩ rfl ?_
        refine AOD.skip ⟨_, rfl, .inl ⟨_, rfl, (by rw [hb92]; rfl)⟩⟩ rfl ?_
        refine Dp20 (LT.pickT (v := (Bv true)) rfl hb92) rfl ⟨rfl, rfl⟩ rfl rfl ?_
        refine AOD.nil (by kernel_rfl) ?_
        refine AWR.nil ⟨rfl, Ent.of ⟨rfl, rfl, rfl, trivial⟩ ⟨rfl, trivial⟩⟩
       ·refine Dp10 (LT.move (v := (Iv s52)) rfl) rfl ⟨_, rfl, .inl ⟨_, rfl, (by rw [hb92]; rfl)⟩⟩ rfl ?_
        refine Dp20 (LT.gtr rfl) rfl ⟨rfl, rfl⟩ ⟨_, rfl, .inl ⟨_, rfl, (by rw [hb92]; rfl)⟩⟩ rfl ?_
        refine Dp10 (LT.move (v := (Bv (decide (0 < s52)))) rfl) rfl ⟨_, rfl, .inl ⟨_, rfl, (by rw [hb92]; rfl)⟩⟩ rfl ?_
        refine AOD.split (fun hb93 => ?_) (fun hb93 => ?_)
        ·refine Dp10 (LT.fieldPl rfl fo29_0) rfl ⟨_, rfl, .inl ⟨_, rfl, (by rw [hb93]; rfl)⟩⟩ rfl ?_
         refine Dp10 (LT.fieldPl rfl fo26_1) rfl ⟨_, rfl, .inl ⟨_, rfl, (by rw [hb93]; rfl)⟩⟩ rfl ?_
         refine Dp11 (LT.bload1 (c := (xF encTBar f.Graph.Bars)) rfl ag24 (by exact rfl)) rfl rfl ⟨_, rfl, .inl ⟨_, rfl, (by rw [hb93]; rfl)⟩⟩ rfl ?_
         refine Dp10 (LT.move (v := (Iv s52)) rfl) rfl ⟨_, rfl, .inl ⟨_, rfl, (by rw [hb93]; rfl)⟩⟩ rfl ?_
         refine Dp20 (LT.sub rfl) rfl ⟨rfl, rfl⟩ ⟨_, rfl, .inl ⟨_, rfl, (by rw [hb93]; rfl)⟩⟩ rfl ?_
         refine AOD.bind fun x94 hx94 => ?_
         refine Dp20 (LT.tindexRO (enc := encTBar) rfl el24 hx94 sz62) rfl rfl ⟨_, rfl, .inl ⟨_, rfl, (by rw [hb93]; rfl)⟩⟩ rfl ?_
         refine Dp10 (LT.loadPxN rfl ag62 (infS inf62) (by exact sz62.symm)) rfl ⟨_, rfl, .inl ⟨_, rfl, (by rw [hb93]; rfl)⟩⟩ rfl ?_
         refine Dp11 (LT.bloadN (out := [(iC x83.A), (iC x83.B)]) rfl ag62 (infS inf62) sz62 (by exact rfl) (by exact rfl)) rfl rfl ⟨_, rfl, .inl ⟨_, rfl, (by rw [hb93]; rfl)⟩⟩ rfl ?_
         refine Dp20 (LT.eqlStruct [x94.A, x94.B] [x83.A, x83.B] rfl ist62 rfl rfl) rfl rfl ⟨_, rfl, .inl ⟨_, rfl, (by rw [hb93]; rfl)⟩⟩ rfl ?_
         refine Dp20 (LT.pickT (v := (Bv (eqI [x94.A, x94.B] [x83.A, x83.B]))) rfl hb93) rfl rfl ⟨_, rfl, .inl ⟨_, rfl, (by rw [hb92]; rfl)⟩⟩ rfl ?_
         refine Dp20 (LT.pickF (v := (Bv (eqI [x94.A, x94.B] [x83.A, x83.B]))) rfl hb92) rfl rfl rfl rfl ?_
         refine AOD.nil (by kernel_rfl) ?_
         refine AWR.nil ⟨rfl, Ent.of ⟨rfl, rfl, rfl, trivial⟩ ⟨rfl, trivial⟩⟩
        ·refine AOD.skip ⟨_, rfl, .inl ⟨_, rfl, (by rw [hb93]; rfl)⟩⟩ rfl ?_
         refine AOD.skip ⟨_, rfl, .inl ⟨_, rfl, (by rw [hb93]; rfl)⟩⟩ rfl ?_
         refine AOD.skip ⟨_, rfl, .inl ⟨_, rfl, (by rw [hb93]; rfl)⟩⟩ rfl ?_
         refine AOD.skip ⟨_, rfl, .inl ⟨_, rfl, (by rw [hb93]; rfl)⟩⟩ rfl ?_
         refine AOD.skip ⟨_, rfl, .inl ⟨_, rfl, (by rw [hb93]; rfl)⟩⟩ rfl ?_
         refine AOD.skip ⟨_, rfl, .inl ⟨_, rfl, (by rw [hb93]; rfl)⟩⟩ rfl ?_
         refine AOD.skip ⟨_, rfl, .inl ⟨_, rfl, (by rw [hb93]; rfl)⟩⟩ rfl ?_
         refine AOD.skip ⟨_, rfl, .inl ⟨_, rfl, (by rw [hb93]; rfl)⟩⟩ rfl ?_
         refine AOD.skip ⟨_, rfl, .inl ⟨_, rfl, (by rw [hb93]; rfl)⟩⟩ rfl ?_
         refine Dp20 (LT.pickF (v := (Bv false)) rfl hb93) rfl ⟨rfl, rfl⟩ ⟨_, rfl, .inl ⟨_, rfl, (by rw [hb92]; rfl)⟩⟩ rfl ?_
         refine Dp20 (LT.pickF (v := (Bv false)) rfl hb92) rfl rfl rfl rfl ?_
         refine AOD.nil (by kernel_rfl) ?_
         refine AWR.nil ⟨rfl, Ent.of ⟨rfl, rfl, rfl, trivial⟩ ⟨rfl, trivial⟩⟩
      ·refine AWR.cond rfl (fun hc95 => ?_) (fun hc95 => ?_)
       ·refine Ws (Wr ?_)
        refine asg (Bv false) rfl ⟨rfl, rfl⟩ rfl rfl ?_
        refine On ?_
        refine AWR.ret ⟨rfl, FPost.mk (.inr rfl) ⟨rfl, trivial⟩ trivial rfl ⟨PermP.sc, trivial⟩ trivial⟩
       ·refine AWR.skip (AWR.blk (Wr ?_))
        refine mv (Iv s52) rfl rfl rfl rfl ?_
        refine Op20 (LT.add rfl) rfl ⟨rfl, rfl⟩ rfl rfl ?_
        refine asg (Iv (w64 (s52 + 1))) rfl rfl rfl rfl ?_
        refine On ?_
        refine AWR.nil ⟨rfl, Ent.of ⟨rfl, rfl, trivial⟩ ⟨rfl, trivial⟩⟩
     ·refine AWR.exit_end rfl ⟨rfl, Ent.of trivial trivial⟩
    ·refine Ws (Wr ?_)
     refine asg (Bv true) rfl ⟨rfl, rfl⟩ rfl rfl ?_
     refine On ?_
     refine AWR.ret (FPost.mk (.inr rfl) ⟨rfl, trivial⟩ trivial rfl ⟨PermP.sc, trivial⟩ trivial)
theorem w_spec_RigidityMatrix (f : TFramework) : ∀ t, m_spec_RigidityMatrix f = some t → Fw.Fn Try.prog 46 [(.agg [(iC f.Graph.Points), (xF encTBar f.Graph.Bars), (xF encTPlace f.Places)])] [] (.s (.c (lo 0 t.length))) [(0, (pR 37 (encLInt true) t))] [] [0] := by
 refine Fw.Fn.ofU (P := Try.prog) (X := [0]) (pn := []) (rs := (fun (t : (List (List Int))) => [(.c (lo 0 t.length))])) (dfs := (fun (t : (List (List Int))) => [(0, (pR 37 (encLInt true) t))])) Try.func46 rfl Try.ntmps46 (Nat.le_of_ble_eq_true rfl) rfl ?_
 intro w0 U0 R0 g0 hU
 unfold m_spec_RigidityMatrix
 refine Ws (Wr ?_)
 refine Os10 (LT.box (n := 21) (v := (.agg [(iC f.Graph.Points), (xF encTBar f.Graph.Bars), (xF encTPlace f.Places)])) rfl sz29 (by exact rfl)) rfl rfl rfl ?_
 refine asg (Cc (sC nilV)) rfl ⟨rfl, rfl⟩ rfl rfl ?_
 refine On (Ws (Wr ?_))
 refine Os00 (LT.tbuildSlice (n := 22) (enc := (encLInt true)) [] ([] : List (List Int)) rfl rfl und31 ti37 rfl rfl rfl rfl (by decide) (fun _ => rfl) rfl) rfl rfl ?_
 refine asg (Cc (lo 22 (([] : List (List Int)).length))) rfl rfl rfl rfl ?_
 refine On (Ws (Ws (Wr ?_)))
 refine asg (Iv 0) rfl ⟨rfl, rfl⟩ rfl rfl ?_
 refine On (AWR.block ?_)
 refine AWR.loop1 (id := 0) (m_spec_RigidityMatrix_L1 f) (fun s1 => ([(1, (Cc (.pl 21 0))), (3, (Cc (lo 22 s1.2.length))), (4, (Iv s1.1))], [(21, (.row 29 [[(iC f.Graph.Points), (xF encTBar f.Graph.Bars), (xF encTPlace f.Places)]])), (22, (pR 37 (encLInt true) s1.2))])) (fun b36 => ([(3, (Cc (lo 22 b36.length)))], [(22, (pR 37 (encLInt true) b36))])) ?_ (Ent.of ⟨rfl, rfl, rfl, trivial⟩ ⟨rfl, rfl, trivial⟩) rfl (fun b36 _ => ?_)
 ·intro s1
  unfold m_spec_RigidityMatrix_L1
  refine Ws (Ws ?_)
  refine AWR.joinK (fun j39 => ([(1, (Cc (.pl 21 0))), (3, (Cc (lo 22 s1.2.length))), (4, (Iv s1.1)), (19, (Bv j39))], [(21, (.row 29 [[(iC f.Graph.Points), (xF encTBar f.Graph.Bars), (xF encTPlace f.Places)]])), (22, (pR 37 (encLInt true) s1.2))])) ?_ (fun j39 _ => ?_)
  ·refine Wr ?_
   refine mv (Iv s1.1) rfl rfl rfl rfl ?_
   refine Op10 (LT.fieldPl rfl fo29_0) rfl rfl rfl ?_
   refine Op10 (LT.fieldPl rfl fo26_1) rfl rfl rfl ?_
   refine Op11 (LT.bload1 (c := (xF encTBar f.Graph.Bars)) rfl ag24 (by exact rfl)) rfl rfl rfl rfl ?_
   refine Op10 (LT.tlenRO rfl und24) rfl rfl rfl ?_
   refine Op20 (LT.lss rfl) rfl rfl rfl rfl ?_
   refine mv (Bv (decide (s1.1 < (f.Graph.Bars.length : Int)))) rfl rfl rfl rfl ?_
   refine AOR.split (fun hb40 => ?_) (fun hb40 => ?_)
   ·refine Op11 (LT.bloadN (out := [(iC f.Graph.Points), (xF encTBar f.Graph.Bars), (xF encTPlace f.Places)]) rfl ag29 (infS inf29) sz29 (by exact rfl) (by exact rfl)) rfl rfl ⟨_, rfl, .inl ⟨_, rfl, (by rw [hb40]; rfl)⟩⟩ rfl ?_
    refine Ob' fun r41 hr41 => ?_
    refine AOR.pure (@LT.callF Try.prog _ _ 15 _ _ [(.agg [(iC f.Graph.Points), (xF encTBar f.Graph.Bars), (xF encTPlace f.Places)])] _ _ [] _ _ _ _ (w_spec_IsFramework f r41 hr41) rfl cb15 (.cons (.agg (.cons (.same rfl) (.cons (.same rfl) (.cons (.same rfl) .nil)))) .nil) rfl rfl trivial) ⟨rfl, rfl, trivial⟩ trivial ⟨_, rfl, .inl ⟨_, rfl, (by rw [hb40]; rfl)⟩⟩ rfl ?_
    refine Op20 (LT.pickT (v := (Bv r41)) rfl hb40) rfl rfl rfl rfl ?_
    refine On ?_
    refine AWR.nil ⟨rfl, Ent.of ⟨rfl, rfl, rfl, rfl, trivial⟩ ⟨rfl, rfl, trivial⟩⟩
   ·refine Ok rfl rfl rfl (by rw [hb40]; rfl) rfl ?_
    refine Ok rfl rfl rfl (by rw [hb40]; rfl) rfl ?_
    refine Op20 (LT.pickF (v := (Bv false)) rfl hb40) rfl ⟨rfl, rfl⟩ rfl rfl ?_
    refine On ?_
    refine AWR.nil ⟨rfl, Ent.of ⟨rfl, rfl, rfl, rfl, trivial⟩ ⟨rfl, rfl, trivial⟩⟩
  ·refine AWR.cond rfl (fun hc42 => ?_) (fun hc42 => ?_)
   ·refine AWR.skip (Ws (AWR.block (Ws (Wr ?_))))
    refine Op10 (LT.fieldPl rfl fo29_0) rfl rfl rfl ?_
    refine Op10 (LT.fieldPl rfl fo26_1) rfl rfl rfl ?_
    refine Op11 (LT.bload1 (c := (xF encTBar f.Graph.Bars)) rfl ag24 (by exact rfl)) rfl rfl rfl rfl ?_
    refine mv (Iv s1.1) rfl rfl rfl rfl ?_
    refine Ob' fun x43 hx43 => ?_
    refine Op20 (LT.tindexRO (enc := encTBar) rfl el24 hx43 sz62) rfl rfl rfl rfl ?_
    refine Op10 (LT.loadPxN rfl ag62 (infS inf62) (by exact sz62.symm)) rfl rfl rfl ?_
    refine Os00 (LT.alloc (n := 24) (cells := [(iC 0), (iC 0)]) rfl ti62 rfl rfl rfl) rfl rfl ?_
    refine Os21 (LT.bstore (v := (.agg [(iC x43.A), (iC x43.B)])) (out := [(iC x43.A), (iC x43.B)]) rfl rfl (infS inf62) sz62 (by exact rfl) (by exact Nat.le_of_ble_eq_true rfl) (by exact rfl)) rfl rfl rfl rfl rfl ?_
    refine On (Ws ?_)
    refine en [(1, (Cc (.pl 21 0))), (3, (Cc (lo 22 s1.2.length))), (4, (Iv s1.1)), (5, (Cc (.pl 24 0)))] [(21, (.row 29 [[(iC f.Graph.Points), (xF encTBar f.Graph.Bars), (xF encTPlace f.Places)]])), (22, (pR 37 (encLInt true) s1.2)), (24, (.row 62 [[(iC x43.A), (iC x43.B)]]))] ⟨rfl, rfl, rfl, rfl, trivial⟩ ⟨rfl, rfl, rfl, trivial⟩ ?_
    refine Wr ?_
    refine Op10 (LT.fieldPl rfl fo29_0) rfl rfl rfl ?_
    refine Op10 (LT.fieldPl rfl fo26_0) rfl rfl rfl ?_
    refine Op11 (LT.bload1 (c := (iC f.Graph.Points)) rfl ag3 (by exact rfl)) rfl rfl rfl rfl ?_
    refine Op20 (LT.mul rfl) ⟨rfl, rfl⟩ rfl rfl rfl ?_
    refine Ob' fun u44 hu44 => ?_
    refine Os20 (LT.tmake (n := 25) (enc := encInt) (zc := [(iC 0)]) (0 : Int) rfl und37 ti3 rfl rfl rfl (by decide) (by decide) (lenOk_le hu44) rfl) rfl rfl rfl rfl ?_
    refine asg (Cc (lo 25 ((List.replicate (w64 (2 * f.Graph.Points)).toNat (0 : Int)).length))) rfl rfl rfl rfl ?_
    refine On (Ws (AWR.draw mixed ?_))
    refine Dp10 (LT.fieldPl rfl fo29_1) rfl rfl rfl ?_
    refine Dp11 (LT.bload1 (c := (xF encTPlace f.Places)) rfl ag27 (by exact rfl)) rfl rfl rfl rfl ?_
    refine Dp10 (LT.fieldPl rfl fo62_0) rfl rfl rfl ?_
    refine Dp11 (LT.bload1 (c := (iC x43.A)) rfl ag3 (by exact rfl)) rfl rfl rfl rfl ?_
    refine AOD.bind fun x45 hx45 => ?_
    refine Dp20 (LT.tindexRO (enc := encTPlace) rfl el27 hx45 sz94) rfl rfl rfl rfl ?_
    refine Dp10 (LT.fieldPx rfl fo94_0) rfl rfl rfl ?_
    refine Dp10 (LT.loadPx1 rfl ag3) rfl rfl rfl ?_
    refine Dp10 (LT.fieldPl rfl fo29_1) rfl rfl rfl ?_
    refine Dp11 (LT.bload1 (c := (xF encTPlace f.Places)) rfl ag27 (by exact rfl)) rfl rfl rfl rfl ?_
    refine Dp10 (LT.fieldPl rfl fo62_1) rfl rfl rfl ?_
    refine Dp11 (LT.bload1 (c := (iC x43.B)) rfl ag3 (by exact rfl)) rfl rfl rfl rfl ?_
    refine AOD.bind fun x46 hx46 => ?_
    refine Dp20 (LT.tindexRO (enc := encTPlace) rfl el27 hx46 sz94) rfl rfl rfl rfl ?_
    refine Dp10 (LT.fieldPx rfl fo94_0) rfl rfl rfl ?_
    refine Dp10 (LT.loadPx1 rfl ag3) rfl rfl rfl ?_
    refine Dp20 (LT.sub rfl) rfl rfl rfl rfl ?_
    refine Dp10 (LT.assign (v := (Iv (w64 (x45.X - x46.X)))) rfl) rfl rfl rfl ?_
    refine AOD.nil (by kernel_rfl) ?_
    refine Ws ?_
    refine en [(1, (Cc (.pl 21 0))), (3, (Cc (lo 22 s1.2.length))), (4, (Iv s1.1)), (5, (Cc (.pl 24 0))), (6, (Cc (lo 25 ((List.replicate (w64 (2 * f.Graph.Points)).toNat (0 : Int)).length)))), (7, (Iv (w64 (x45.X - x46.X))))] [(21, (.row 29 [[(iC f.Graph.Points), (xF encTBar f.Graph.Bars), (xF encTPlace f.Places)]])), (22, (pR 37 (encLInt true) s1.2)), (24, (.row 62 [[(iC x43.A), (iC x43.B)]])), (25, (pR 3 encInt (List.replicate (w64 (2 * f.Graph.Points)).toNat (0 : Int))))] ⟨rfl, rfl, rfl, rfl, rfl, rfl, trivial⟩ ⟨rfl, rfl, rfl, rfl, trivial⟩ ?_
    refine AWR.draw mixed ?_
    refine Dp10 (LT.fieldPl rfl fo29_1) rfl rfl rfl ?_
    refine Dp11 (LT.bload1 (c := (xF encTPlace f.Places)) rfl ag27 (by exact rfl)) rfl rfl rfl rfl ?_
    refine Dp10 (LT.fieldPl rfl fo62_0) rfl rfl rfl ?_
    refine Dp11 (LT.bload1 (c := (iC x43.A)) rfl ag3 (by exact rfl)) rfl rfl rfl rfl ?_
    refine AOD.bind fun x47 hx47 => ?_
    refine Dp20 (LT.tindexRO (enc := encTPlace) rfl el27 hx47 sz94) rfl rfl rfl rfl ?_
    refine Dp10 (LT.fieldPx rfl fo94_1) rfl rfl rfl ?_
    refine Dp10 (LT.loadPx1 rfl ag3) rfl rfl rfl ?_
    refine Dp10 (LT.fieldPl rfl fo29_1) rfl rfl rfl ?_
    refine Dp11 (LT.bload1 (c := (xF encTPlace f.Places)) rfl ag27 (by exact rfl)) rfl rfl rfl rfl ?_
    refine Dp10 (LT.fieldPl rfl fo62_1) rfl rfl rfl ?_
    refine Dp11 (LT.bload1 (c := (iC x43.B)) rfl ag3 (by exact rfl)) rfl rfl rfl rfl ?_
    refine AOD.bind fun x48 hx48 => ?_
    refine Dp20 (LT.tindexRO (enc := encTPlace) rfl el27 hx48 sz94) rfl rfl rfl rfl ?_
    refine Dp10 (LT.fieldPx rfl fo94_1) rfl rfl rfl ?_
    refine Dp10 (LT.loadPx1 rfl ag3) rfl rfl rfl ?_
    refine Dp20 (LT.sub rfl) rfl rfl rfl rfl ?_
    refine Dp10 (LT.assign (v := (Iv (w64 (x47.Y - x48.Y)))) rfl) rfl rfl rfl ?_
    refine AOD.nil (by kernel_rfl) ?_
    refine Ws ?_
    refine en [(1, (Cc (.pl 21 0))), (3, (Cc (lo 22 s1.2.length))), (4, (Iv s1.1)), (5, (Cc (.pl 24 0))), (6, (Cc (lo 25 ((List.replicate (w64 (2 * f.Graph.Points)).toNat (0 : Int)).length)))), (7, (Iv (w64 (x45.X - x46.X)))), (8, (Iv (w64 (x47.Y - x48.Y))))] [(21, (.row 29 [[(iC f.Graph.Points), (xF encTBar f.Graph.Bars), (xF encTPlace f.Places)]])), (22, (pR 37 (encLInt true) s1.2)), (24, (.row 62 [[(iC x43.A), (iC x43.B)]])), (25, (pR 3 encInt (List.replicate (w64 (2 * f.Graph.Points)).toNat (0 : Int))))] ⟨rfl, rfl, rfl, rfl, rfl, rfl, rfl, trivial⟩ ⟨rfl, rfl, rfl, rfl, trivial⟩ ?_
    refine Wr ?_
    refine mv (Cc (lo 25 ((List.replicate (w64 (2 * f.Graph.Points)).toNat (0 : Int)).length))) rfl rfl rfl rfl ?_
    refine Op10 (LT.fieldPl rfl fo62_0) rfl rfl rfl ?_
    refine Op11 (LT.bload1 (c := (iC x43.A)) rfl ag3 (by exact rfl)) rfl rfl rfl rfl ?_
    refine Op20 (LT.mul rfl) ⟨rfl, rfl⟩ rfl rfl rfl ?_
    refine mv (Iv (w64 (x45.X - x46.X))) rfl rfl rfl rfl ?_
    refine Ob' fun x49 hx49 => ?_
    refine Op21 (LT.tindexLoc rfl rfl el37 hx49) rfl rfl rfl rfl rfl ?_
    refine Os21 (LT.tstore (k := 0) (v := (.c (iC (w64 (x45.X - x46.X))))) (b' := (w64 (x45.X - x46.X))) rfl rfl (infS inf3) sz3 (by exact rfl) hx49 (by exact rfl) (by exact Nat.le_of_ble_eq_true rfl) (by exact rfl)) rfl rfl rfl rfl rfl ?_
    refine On (Ws (Wr ?_))
    refine mv (Cc (lo 25 ((List.replicate (w64 (2 * f.Graph.Points)).toNat (0 : Int)).length))) rfl rfl rfl rfl ?_
    refine Op10 (LT.fieldPl rfl fo62_0) rfl rfl rfl ?_
    refine Op11 (LT.bload1 (c := (iC x43.A)) rfl ag3 (by exact rfl)) rfl rfl rfl rfl ?_
    refine Op20 (LT.mul rfl) ⟨rfl, rfl⟩ rfl rfl rfl ?_
    refine Op20 (LT.add rfl) rfl ⟨rfl, rfl⟩ rfl rfl ?_
    refine mv (Iv (w64 (x47.Y - x48.Y))) rfl rfl rfl rfl ?_
    refine Ob' fun x50 hx50 => ?_
    refine Op21 (LT.tindexLoc (show (List.replicate (w64 (2 * f.Graph.Points)).toNat (0 : Int)).length = ((List.replicate (w64 (2 * f.Graph.Points)).toNat (0 : Int)).set (w64 (2 * x43.A)).toNat (w64 (x45.X - x46.X))).length by simp only [List.length_set]) rfl el37 hx50) rfl rfl rfl rfl rfl ?_
    refine Os21 (LT.tstore (k := 0) (v := (.c (iC (w64 (x47.Y - x48.Y))))) (b' := (w64 (x47.Y - x48.Y))) rfl rfl (infS inf3) sz3 (by exact rfl) hx50 (by exact rfl) (by exact Nat.le_of_ble_eq_true rfl) (by exact rfl)) rfl rfl rfl rfl rfl ?_
    refine On (Ws ?_)
    refine en [(1, (Cc (.pl 21 0))), (3, (Cc (lo 22 s1.2.length))), (4, (Iv s1.1)), (5, (Cc (.pl 24 0))), (6, (Cc (lo 25 ((List.replicate (w64 (2 * f.Graph.Points)).toNat (0 : Int)).length)))), (7, (Iv (w64 (x45.X - x46.X)))), (8, (Iv (w64 (x47.Y - x48.Y))))] [(21, (.row 29 [[(iC f.Graph.Points), (xF encTBar f.Graph.Bars), (xF encTPlace f.Places)]])), (22, (pR 37 (encLInt true) s1.2)), (24, (.row 62 [[(iC x43.A), (iC x43.B)]])), (25, (pR 3 encInt (((List.replicate (w64 (2 * f.Graph.Points)).toNat (0 : Int)).set (w64 (2 * x43.A)).toNat (w64 (x45.X - x46.X))).set (w64 ((w64 (2 * x43.A)) + 1)).toNat (w64 (x47.Y - x48.Y)))))] ⟨rfl, rfl, rfl, rfl, rfl, rfl, rfl, trivial⟩ ⟨rfl, rfl, rfl, rfl, trivial⟩ ?_
    refine Wr ?_
    refine mv (Cc (lo 25 ((List.replicate (w64 (2 * f.Graph.Points)).toNat (0 : Int)).length))) rfl rfl rfl rfl ?_
    refine Op10 (LT.fieldPl rfl fo62_1) rfl rfl rfl ?_
    refine Op11 (LT.bload1 (c := (iC x43.B)) rfl ag3 (by exact rfl)) rfl rfl rfl rfl ?_
    refine Op20 (LT.mul rfl) ⟨rfl, rfl⟩ rfl rfl rfl ?_
    refine mv (Iv (w64 (x45.X - x46.X))) rfl rfl rfl rfl ?_
    refine Op10 (LT.neg rfl) rfl rfl rfl ?_
    refine Ob' fun x51 hx51 => ?_
    refine Op21 (LT.tindexLoc (show (List.replicate (w64 (2 * f.Graph.Points)).toNat (0 : Int)).length = (((List.replicate (w64 (2 * f.Graph.Points)).toNat (0 : Int)).set (w64 (2 * x43.A)).toNat (w64 (x45.X - x46.X))).set (w64 ((w64 (2 * x43.A)) + 1)).toNat (w64 (x47.Y - x48.Y))).length by simp only [List.length_set]) rfl el37 hx51) rfl rfl rfl rfl rfl ?_
    refine Os21 (LT.tstore (k := 0) (v := (.c (iC (w64 (-(w64 (x45.X - x46.X))))))) (b' := (w64 (-(w64 (x45.X - x46.X))))) rfl rfl (infS inf3) sz3 (by exact rfl) hx51 (by exact rfl) (by exact Nat.le_of_ble_eq_true rfl) (by exact rfl)) rfl rfl rfl rfl rfl ?_
    refine On (Ws (Wr ?_))
    refine mv (Cc (lo 25 ((List.replicate (w64 (2 * f.Graph.Points)).toNat (0 : Int)).length))) rfl rfl rfl rfl ?_
    refine Op10 (LT.fieldPl rfl fo62_1) rfl rfl rfl ?_
    refine Op11 (LT.bload1 (c := (iC x43.B)) rfl ag3 (by exact rfl)) rfl rfl rfl rfl ?_
    refine Op20 (LT.mul rfl) ⟨rfl, rfl⟩ rfl rfl rfl ?_
    refine Op20 (LT.add rfl) rfl ⟨rfl, rfl⟩ rfl rfl ?_
    refine mv (Iv (w64 (x47.Y - x48.Y))) rfl rfl rfl rfl ?_
    refine Op10 (LT.neg rfl) rfl rfl rfl ?_
    refine Ob' fun x52 hx52 => ?_
    refine Op21 (LT.tindexLoc (show (List.replicate (w64 (2 * f.Graph.Points)).toNat (0 : Int)).length = ((((List.replicate (w64 (2 * f.Graph.Points)).toNat (0 : Int)).set (w64 (2 * x43.A)).toNat (w64 (x45.X - x46.X))).set (w64 ((w64 (2 * x43.A)) + 1)).toNat (w64 (x47.Y - x48.Y))).set (w64 (2 * x43.B)).toNat (w64 (-(w64 (x45.X - x46.X))))).length by simp only [List.length_set]) rfl el37 hx52) rfl rfl rfl rfl rfl ?_
    refine Os21 (LT.tstore (k := 0) (v := (.c (iC (w64 (-(w64 (x47.Y - x48.Y))))))) (b' := (w64 (-(w64 (x47.Y - x48.Y))))) rfl rfl (infS inf3) sz3 (by exact rfl) hx52 (by exact rfl) (by exact Nat.le_of_ble_eq_true rfl) (by exact rfl)) rfl rfl rfl rfl rfl ?_
    refine On ?_
    refine en [(1, (Cc (.pl 21 0))), (3, (Cc (lo 22 s1.2.length))), (4, (Iv s1.1)), (6, (Cc (lo 25 ((List.replicate (w64 (2 * f.Graph.Points)).toNat (0 : Int)).length))))] [(21, (.row 29 [[(iC f.Graph.Points), (xF encTBar f.Graph.Bars), (xF encTPlace f.Places)]])), (22, (pR 37 (encLInt true) s1.2)), (25, (pR 3 encInt (((((List.replicate (w64 (2 * f.Graph.Points)).toNat (0 : Int)).set (w64 (2 * x43.A)).toNat (w64 (x45.X - x46.X))).set (w64 ((w64 (2 * x43.A)) + 1)).toNat (w64 (x47.Y - x48.Y))).set (w64 (2 * x43.B)).toNat (w64 (-(w64 (x45.X - x46.X))))).set (w64 ((w64 (2 * x43.B)) + 1)).toNat (w64 (-(w64 (x47.Y - x48.Y)))))))] ⟨rfl, rfl, rfl, rfl, trivial⟩ ⟨rfl, rfl, rfl, trivial⟩ ?_
    refine Wr ?_
    refine mv (Cc (lo 22 s1.2.length)) rfl rfl rfl rfl ?_
    refine mv (Cc (lo 25 ((List.replicate (w64 (2 * f.Graph.Points)).toNat (0 : Int)).length))) rfl rfl rfl rfl ?_
    refine AOR.ent (Ent.freezeS (enc := encInt) 92 25 hU rfl (show (List.replicate (w64 (2 * f.Graph.Points)).toNat (0 : Int)).length = (((((List.replicate (w64 (2 * f.Graph.Points)).toNat (0 : Int)).set (w64 (2 * x43.A)).toNat (w64 (x45.X - x46.X))).set (w64 ((w64 (2 * x43.A)) + 1)).toNat (w64 (x47.Y - x48.Y))).set (w64 (2 * x43.B)).toNat (w64 (-(w64 (x45.X - x46.X))))).set (w64 ((w64 (2 * x43.B)) + 1)).toNat (w64 (-(w64 (x47.Y - x48.Y))))).length by simp only [List.length_set]) rfl rfl) ?_
    refine Os10 (LT.tbuildSlice (n := 26) (enc := (encLInt true)) [(0, .tmp 92, (.c (xT encInt (((((List.replicate (w64 (2 * f.Graph.Points)).toNat (0 : Int)).set (w64 (2 * x43.A)).toNat (w64 (x45.X - x46.X))).set (w64 ((w64 (2 * x43.A)) + 1)).toNat (w64 (x47.Y - x48.Y))).set (w64 (2 * x43.B)).toNat (w64 (-(w64 (x45.X - x46.X))))).set (w64 ((w64 (2 * x43.B)) + 1)).toNat (w64 (-(w64 (x47.Y - x48.Y))))))))] [(((((List.replicate (w64 (2 * f.Graph.Points)).toNat (0 : Int)).set (w64 (2 * x43.A)).toNat (w64 (x45.X - x46.X))).set (w64 ((w64 (2 * x43.A)) + 1)).toNat (w64 (x47.Y - x48.Y))).set (w64 (2 * x43.B)).toNat (w64 (-(w64 (x45.X - x46.X))))).set (w64 ((w64 (2 * x43.B)) + 1)).toNat (w64 (-(w64 (x47.Y - x48.Y)))))] rfl rfl und31 ti37 rfl rfl rfl rfl (by decide) (fun _ => rfl) rfl) rfl rfl rfl ?_
    refine Ob' fun u53 hu53 => ?_
    refine Os22 (LT.tappP (enc := (encLInt true)) rfl rfl rfl und31 ti37 rfl (by decide) (by decide) (fun _ => rfl) (lim_le hu53)) rfl rfl rfl rfl rfl rfl ?_
    refine asg (Cc (lo 22 ((s1.2 ++ [(((((List.replicate (w64 (2 * f.Graph.Points)).toNat (0 : Int)).set (w64 (2 * x43.A)).toNat (w64 (x45.X - x46.X))).set (w64 ((w64 (2 * x43.A)) + 1)).toNat (w64 (x47.Y - x48.Y))).set (w64 (2 * x43.B)).toNat (w64 (-(w64 (x45.X - x46.X))))).set (w64 ((w64 (2 * x43.B)) + 1)).toNat (w64 (-(w64 (x47.Y - x48.Y)))))]).length))) rfl rfl rfl rfl ?_
    refine On (AWR.blk (Wr ?_))
    refine mv (Iv s1.1) rfl rfl rfl rfl ?_
    refine Op20 (LT.add rfl) rfl ⟨rfl, rfl⟩ rfl rfl ?_
    refine asg (Iv (w64 (s1.1 + 1))) rfl rfl rfl rfl ?_
    refine On ?_
    refine AWR.nil ⟨rfl, Ent.of ⟨rfl, rfl, rfl, trivial⟩ ⟨rfl, rfl, trivial⟩⟩
   ·refine AWR.exit_end rfl ⟨rfl, Ent.of ⟨rfl, trivial⟩ ⟨rfl, trivial⟩⟩
 ·refine Ws (Wr ?_)
  refine mv (Cc (lo 22 b36.length)) rfl rfl rfl rfl ?_
  refine asg (Cc (lo 22 b36.length)) rfl rfl rfl rfl ?_
  refine On ?_
  refine en [(2, (Cc (lo 22 b36.length)))] [(22, (pR 37 (encLInt true) b36))] ⟨rfl, trivial⟩ ⟨rfl, trivial⟩ ?_
  refine AWR.ent (Ent.mv 22 0 rfl rfl) ?_
  refine en [(2, (Cc (lo 0 b36.length)))] [(0, (pR 37 (encLInt true) b36))] ⟨rfl, trivial⟩ ⟨rfl, trivial⟩ ?_
  refine AWR.ret (FPost.mk (.inr rfl) ⟨rfl, trivial⟩ ⟨rfl, trivial⟩ rfl ⟨trivial, trivial⟩ ⟨PermO.prow' perm_encLInt, trivial⟩)
end Go.Proofs.Ytghofbijdnenoaa
end
section
set_option linter.unusedVariables false
set_option linter.unusedSimpArgs false
set_option linter.unnecessarySimpa false
set_option maxRecDepth 100000
set_option maxHeartbeats 8000000
open Go Go.Fw
namespace Go.Proofs.Ytghofbijdnenoaa
theorem w_spec_l2Copy (g : TGraph) : ∀ t, m_spec_l2Copy g = some t → Fw.Fn Try.prog 141 [(.agg [(iC g.Points), (xF encTBar g.Bars)])] [] (.s (.agg [(iC t.Points), (lo 0 t.Bars.length)])) [(0, (pR 62 encTBar t.Bars))] [] [0] := by
 refine Fw.Fn.of (P := Try.prog) (X := [0]) (pn := []) (rs := (fun (t : TGraph) => [(.agg [(iC t.Points), (lo 0 t.Bars.length)])])) (dfs := (fun (t : TGraph) => [(0, (pR 62 encTBar t.Bars))])) Try.func141 rfl Try.ntmps141 (Nat.le_of_ble_eq_true rfl) rfl ?_
 intro w0 U0 R0 g0
 unfold m_spec_l2Copy
 refine Ws (Wr ?_)
 refine Os10 (LT.box (n := 21) (v := (.agg [(iC g.Points), (xF encTBar g.Bars)])) rfl sz26 (by exact rfl)) rfl rfl rfl ?_
 refine Os00 (LT.alloc (n := 22) (cells := [(iC 0), (sC nilV)]) rfl ti26 rfl rfl rfl) rfl rfl ?_
 refine On (Ws (AWR.draw mixed ?_))
 refine Dp10 (LT.fieldPl rfl fo26_0) rfl rfl rfl ?_
 refine Dp11 (LT.bload1 (c := (iC g.Points)) rfl ag3 (by exact rfl)) rfl rfl rfl rfl ?_
 refine Ds00 (LT.tbuildSlice (n := 23) (enc := encTBar) [] ([] : List TBar) rfl rfl und24 ti62 rfl rfl rfl rfl (by decide) (fun _ => rfl) rfl) rfl rfl ?_
 refine Dp10 (LT.fieldPl rfl fo26_1) rfl rfl rfl ?_
 refine Dp11 (LT.bload1 (c := (xF encTBar g.Bars)) rfl ag24 (by exact rfl)) rfl rfl rfl rfl ?_
 refine AOD.bind fun u1 hu1 => ?_
 refine Ds21 (LT.tappRO (enc := encTBar) rfl  rfl und24 ti62 rfl (by decide) (by decide) (fun _ => rfl) (lim_le hu1)) rfl rfl rfl rfl rfl ?_
 refine Dp20 (LT.build [(0, .tmp 4, (.c (iC g.Points))), (1, .tmp 8, (.c (lo 23 ((([] : List TBar) ++ g.Bars).length))))] rfl rfl pl26 ti26 rfl rfl rfl) rfl rfl rfl rfl ?_
 refine Ds21 (LT.bstore (v := (.agg [(iC g.Points), (lo 23 ((([] : List TBar) ++ g.Bars).length))])) (out := [(iC g.Points), (lo 23 ((([] : List TBar) ++ g.Bars).length))]) rfl rfl (infS inf26) sz26 (by exact rfl) (by exact Nat.le_of_ble_eq_true rfl) (by exact rfl)) rfl rfl rfl rfl rfl ?_
 refine AOD.nil (by kernel_rfl) ?_
 refine en [(2, (Cc (.pl 22 0)))] [(22, (.row 26 [[(iC g.Points), (lo 23 ((([] : List TBar) ++ g.Bars).length))]])), (23, (pR 62 encTBar (([] : List TBar) ++ g.Bars)))] ⟨rfl, trivial⟩ ⟨rfl, rfl, trivial⟩ ?_
 refine AWR.ent (Ent.mv 23 0 rfl rfl) ?_
 refine en [(2, (Cc (.pl 22 0)))] [(0, (pR 62 encTBar (([] : List TBar) ++ g.Bars))), (22, (.row 26 [[(iC g.Points), (lo 0 ((([] : List TBar) ++ g.Bars).length))]]))] ⟨rfl, trivial⟩ ⟨rfl, rfl, trivial⟩ ?_
 refine AWR.ret (FPost.mk (.inr rfl) ⟨⟨_, _, _, rfl, rfl, rfl, ag26, sz26, _, (infS inf26)⟩, trivial⟩ ⟨rfl, trivial⟩ rfl ⟨⟨PermP.sc, trivial, trivial⟩, trivial⟩ ⟨PermO.prow' perm_encTBar, trivial⟩)
end Go.Proofs.Ytghofbijdnenoaa
end
section
set_option linter.unusedVariables false
set_option linter.unusedSimpArgs false
set_option linter.unnecessarySimpa false
set_option maxRecDepth 100000
set_option maxHeartbeats 8000000
open Go Go.Fw
namespace Go.Proofs.Ytghofbijdnenoaa
theorem w_spec_GcdOf (a : Int) (b : Int) : ∀ t, m_spec_GcdOf a b = some t → Fw.Fn Try.prog 205 [(.c (iC a)), (.c (iC b))] [] (.s (.c (iC t))) [] [] [] := by
 refine Fw.Fn.of (P := Try.prog) (X := []) (pn := []) (rs := (fun (t : Int) => [(.c (iC t))])) (dfs := (fun (t : Int) => [])) Try.func205 rfl Try.ntmps205 (Nat.le_of_ble_eq_true rfl) rfl ?_
 intro w0 U0 R0 g0
 unfold m_spec_GcdOf
 refine Ws (Wr ?_)
 refine asg (Iv 0) rfl ⟨rfl, rfl⟩ rfl rfl ?_
 refine On (Ws (Ws ?_))
 refine AWR.joinK (fun j4 => ([(0, (Iv a)), (1, (Iv b)), (13, (Bv j4))], [])) ?_ (fun j4 _ => ?_)
 ·refine Wr ?_
  refine mv (Iv a) rfl rfl rfl rfl ?_
  refine Ob' fun r5 hr5 => ?_
  refine AOR.pure (@LT.callF Try.prog _ _ 110 _ _ [(.c (iC a)), (.c (iC (-9000000000000000000))), (.c (iC 9000000000000000000))] _ _ [] _ _ _ _ (w_spec_l1In a (-9000000000000000000) 9000000000000000000 r5 hr5) rfl cb110 (.cons (.c (.same rfl)) (.cons (.c (.same rfl)) (.cons (.c (.same rfl)) .nil))) rfl rfl trivial) ⟨rfl, rfl, ⟨rfl, rfl⟩, ⟨rfl, rfl⟩, trivial⟩ trivial rfl rfl ?_
  refine Op10 (LT.not rfl) rfl rfl rfl ?_
  refine mv (Bv (!r5)) rfl rfl rfl rfl ?_
  refine AOR.split (fun hb6 => ?_) (fun hb6 => ?_)
  ·refine Ok rfl rfl rfl (by rw [hb6]; rfl) rfl ?_
   refine Ok rfl rfl rfl (by rw [hb6]; rfl) rfl ?_
   refine Ok rfl rfl rfl (by rw [hb6]; rfl) rfl ?_
   refine Op20 (LT.pickT (v := (Bv true)) rfl hb6) rfl ⟨rfl, rfl⟩ rfl rfl ?_
   refine On ?_
   refine AWR.nil ⟨rfl, Ent.of ⟨rfl, rfl, rfl, trivial⟩ trivial⟩
  ·refine mv (Iv b) rfl rfl ⟨_, rfl, .inl ⟨_, rfl, (by rw [hb6]; rfl)⟩⟩ rfl ?_
   refine Ob' fun r7 hr7 => ?_
   refine AOR.pure (@LT.callF Try.prog _ _ 110 _ _ [(.c (iC b)), (.c (iC (-9000000000000000000))), (.c (iC 9000000000000000000))] _ _ [] _ _ _ _ (w_spec_l1In b (-9000000000000000000) 9000000000000000000 r7 hr7) rfl cb110 (.cons (.c (.same rfl)) (.cons (.c (.same rfl)) (.cons (.c (.same rfl)) .nil))) rfl rfl trivial) ⟨rfl, rfl, ⟨rfl, rfl⟩, ⟨rfl, rfl⟩, trivial⟩ trivial ⟨_, rfl, .inl ⟨_, rfl, (by rw [hb6]; rfl)⟩⟩ rfl ?_
   refine Op10 (LT.not rfl) rfl ⟨_, rfl, .inl ⟨_, rfl, (by rw [hb6]; rfl)⟩⟩ rfl ?_
   refine Op20 (LT.pickF (v := (Bv (!r7))) rfl hb6) rfl rfl rfl rfl ?_
   refine On ?_
   refine AWR.nil ⟨rfl, Ent.of ⟨rfl, rfl, rfl, trivial⟩ trivial⟩
 ·refine AWR.cond rfl (fun hc8 => ?_) (fun hc8 => ?_)
  ·refine Ws (Wr ?_)
   refine asg (Iv 0) rfl ⟨rfl, rfl⟩ rfl rfl ?_
   refine On ?_
   refine AWR.ret (FPost.mk (.inr rfl) ⟨rfl, trivial⟩ trivial rfl ⟨PermP.sc, trivial⟩ trivial)
  ·refine AWR.skip (Ws (Wr ?_))
   refine mv (Iv a) rfl rfl rfl rfl ?_
   refine mv (Iv a) rfl rfl rfl rfl ?_
   refine Op10 (LT.neg rfl) rfl rfl rfl ?_
   refine Op20 (LT.max rfl) rfl rfl rfl rfl ?_
   refine asg (Iv (if a < (w64 (-a)) then (w64 (-a)) else a)) rfl rfl rfl rfl ?_
   refine On (Ws (Wr ?_))
   refine mv (Iv b) rfl rfl rfl rfl ?_
   refine mv (Iv b) rfl rfl rfl rfl ?_
   refine Op10 (LT.neg rfl) rfl rfl rfl ?_
   refine Op20 (LT.max rfl) rfl rfl rfl rfl ?_
   refine asg (Iv (if b < (w64 (-b)) then (w64 (-b)) else b)) rfl rfl rfl rfl ?_
   refine On (Ws (AWR.block ?_))
   refine AWR.loop1 (id := 0) (m_spec_GcdOf_L1) (fun s9 => ([(0, (Iv s9.1)), (1, (Iv s9.2))], [])) (fun b14 => ([(0, (Iv b14))], [])) ?_ (Ent.of ⟨rfl, rfl, trivial⟩ trivial) rfl (fun b14 _ => ?_)
   ·intro s9
    unfold m_spec_GcdOf_L1
    refine Ws (Ws (Wr ?_))
    refine mv (Iv s9.2) rfl rfl rfl rfl ?_
    refine Op20 (LT.gtr rfl) rfl ⟨rfl, rfl⟩ rfl rfl ?_
    refine On ?_
    refine AWR.cond rfl (fun hc15 => ?_) (fun hc15 => ?_)
    ·refine AWR.skip (AWR.block (Ws (Wr ?_)))
     refine mv (Iv s9.1) rfl rfl rfl rfl ?_
     refine mv (Iv s9.2) rfl rfl rfl rfl ?_
     refine Ob' fun u16 hu16 => ?_
     refine Op20 (LT.rem rfl (nz_ne hu16)) rfl rfl rfl rfl ?_
     refine asg (Iv (Int.tmod s9.1 s9.2)) rfl rfl rfl rfl ?_
     refine On (Ws (Wr ?_))
     refine mv (Iv s9.2) rfl rfl rfl rfl ?_
     refine asg (Iv s9.2) rfl rfl rfl rfl ?_
     refine On (Wr ?_)
     refine mv (Iv (Int.tmod s9.1 s9.2)) rfl rfl rfl rfl ?_
     refine asg (Iv (Int.tmod s9.1 s9.2)) rfl rfl rfl rfl ?_
     refine On (AWR.blk ?_)
     refine AWR.nil ⟨rfl, Ent.of ⟨rfl, rfl, trivial⟩ trivial⟩
    ·refine AWR.exit_end rfl ⟨rfl, Ent.of ⟨rfl, trivial⟩ trivial⟩
   ·refine Ws (Wr ?_)
    refine mv (Iv b14) rfl rfl rfl rfl ?_
    refine asg (Iv b14) rfl rfl rfl rfl ?_
    refine On ?_
    refine AWR.ret (FPost.mk (.inr rfl) ⟨rfl, trivial⟩ trivial rfl ⟨PermP.sc, trivial⟩ trivial)
theorem w_spec_PrimitiveVector (v : (List Int)) : ∀ t, m_spec_PrimitiveVector v = some t → Fw.Fn Try.prog 206 [(.c (xF encInt v))] [] (.s (.c (lo 0 t.length))) [(0, (pR 3 encInt t))] [] [0] := by
 refine Fw.Fn.of (P := Try.prog) (X := [0]) (pn := []) (rs := (fun (t : (List Int)) => [(.c (lo 0 t.length))])) (dfs := (fun (t : (List Int)) => [(0, (pR 3 encInt t))])) Try.func206 rfl Try.ntmps206 (Nat.le_of_ble_eq_true rfl) rfl ?_
 intro w0 U0 R0 g0
 unfold m_spec_PrimitiveVector
 refine Ws (Wr ?_)
 refine asg (Cc (sC nilV)) rfl ⟨rfl, rfl⟩ rfl rfl ?_
 refine On (Ws (Wr ?_))
 refine asg (Iv 0) rfl ⟨rfl, rfl⟩ rfl rfl ?_
 refine On (Ws (Ws (Wr ?_)))
 refine asg (Iv 0) rfl ⟨rfl, rfl⟩ rfl rfl ?_
 refine On (AWR.block ?_)
 refine AWR.loopR (id := 0) (m_spec_PrimitiveVector_L1 v) (fun s1 => ([(0, (Cc (xF encInt v))), (3, (Iv s1.1)), (4, (Iv s1.2))], [])) (fun b16 => ([(0, (Cc (xF encInt v))), (3, (Iv b16))], [])) (FPost Try.prog Try.f206.results.toList [] [0] (fun (t : (List Int)) => [(.c (lo 0 t.length))]) (fun (t : (List Int)) => [(0, (pR 3 encInt t))])) ?_ (Ent.of ⟨rfl, rfl, rfl, trivial⟩ trivial) rfl (fun b16 _ => ?_) (by intro r t σ m ht hk; injection ht with ht; subst ht; exact hk)
 ·intro s1
  unfold m_spec_PrimitiveVector_L1
  refine Ws (Ws (Wr ?_))
  refine mv (Iv s1.2) rfl rfl rfl rfl ?_
  refine mv (Cc (xF encInt v)) rfl rfl rfl rfl ?_
  refine Op10 (LT.tlenRO rfl und37) rfl rfl rfl ?_
  refine Op20 (LT.lss rfl) rfl rfl rfl rfl ?_
  refine On ?_
  refine AWR.cond rfl (fun hc17 => ?_) (fun hc17 => ?_)
  ·refine AWR.skip (Ws (AWR.block (Ws (Ws (Wr ?_)))))
   refine mv (Cc (xF encInt v)) rfl rfl rfl rfl ?_
   refine mv (Iv s1.2) rfl rfl rfl rfl ?_
   refine Ob' fun x18 hx18 => ?_
   refine Op20 (LT.tindexRO (enc := encInt) rfl el37 hx18 sz3) rfl rfl rfl rfl ?_
   refine Op10 (LT.loadPx1 rfl ag3) rfl rfl rfl ?_
   refine Ob' fun r19 hr19 => ?_
   refine AOR.pure (@LT.callF Try.prog _ _ 110 _ _ [(.c (iC x18)), (.c (iC (-9000000000000000000))), (.c (iC 9000000000000000000))] _ _ [] _ _ _ _ (w_spec_l1In x18 (-9000000000000000000) 9000000000000000000 r19 hr19) rfl cb110 (.cons (.c (.same rfl)) (.cons (.c (.same rfl)) (.cons (.c (.same rfl)) .nil))) rfl rfl trivial) ⟨rfl, rfl, ⟨rfl, rfl⟩, ⟨rfl, rfl⟩, trivial⟩ trivial rfl rfl ?_
   refine Op10 (LT.not rfl) rfl rfl rfl ?_
   refine On ?_
   refine AWR.cond rfl (fun hc20 => ?_) (fun hc20 => ?_)
   ·refine Ws (Wr ?_)
    refine Os00 (LT.tbuildSlice (n := 22) (enc := encInt) [] ([] : List Int) rfl rfl und37 ti3 rfl rfl rfl rfl (by decide) (fun _ => rfl) rfl) rfl rfl ?_
    refine mv (Cc (xF encInt v)) rfl rfl rfl rfl ?_
    refine Ob' fun u21 hu21 => ?_
    refine Os21 (LT.tappRO (enc := encInt) rfl  rfl und37 ti3 rfl (by decide) (by decide) (fun _ => rfl) (lim_le hu21)) rfl rfl rfl rfl rfl ?_
    refine asg (Cc (lo 22 ((([] : List Int) ++ v).length))) rfl rfl rfl rfl ?_
    refine On ?_
    refine en [(2, (Cc (lo 22 ((([] : List Int) ++ v).length))))] [(22, (pR 3 encInt (([] : List Int) ++ v)))] ⟨rfl, trivial⟩ ⟨rfl, trivial⟩ ?_
    refine AWR.ent (Ent.mv 22 0 rfl rfl) ?_
    refine en [(2, (Cc (lo 0 ((([] : List Int) ++ v).length))))] [(0, (pR 3 encInt (([] : List Int) ++ v)))] ⟨rfl, trivial⟩ ⟨rfl, trivial⟩ ?_
    refine AWR.ret ⟨rfl, FPost.mk (.inr rfl) ⟨rfl, trivial⟩ ⟨rfl, trivial⟩ rfl ⟨trivial, trivial⟩ ⟨PermO.prow' perm_encInt, trivial⟩⟩
   ·refine AWR.skip (Wr ?_)
    refine mv (Iv s1.1) rfl rfl rfl rfl ?_
    refine mv (Cc (xF encInt v)) rfl rfl rfl rfl ?_
    refine mv (Iv s1.2) rfl rfl rfl rfl ?_
    refine Ob' fun x22 hx22 => ?_
    refine Op20 (LT.tindexRO (enc := encInt) rfl el37 hx22 sz3) rfl rfl rfl rfl ?_
    refine Op10 (LT.loadPx1 rfl ag3) rfl rfl rfl ?_
    refine Ob' fun r23 hr23 => ?_
    refine AOR.pure (@LT.callF Try.prog _ _ 205 _ _ [(.c (iC s1.1)), (.c (iC x22))] _ _ [] _ _ _ _ (w_spec_GcdOf s1.1 x22 r23 hr23) rfl cb205 (.cons (.c (.same rfl)) (.cons (.c (.same rfl)) .nil)) rfl rfl trivial) ⟨rfl, rfl, rfl, trivial⟩ trivial rfl rfl ?_
    refine asg (Iv r23) rfl rfl rfl rfl ?_
    refine On (AWR.blk ?_)
    refine en [(0, (Cc (xF encInt v))), (3, (Iv r23)), (4, (Iv s1.2))] [] ⟨rfl, rfl, rfl, trivial⟩ trivial ?_
    refine Wr ?_
    refine mv (Iv s1.2) rfl rfl rfl rfl ?_
    refine Op20 (LT.add rfl) rfl ⟨rfl, rfl⟩ rfl rfl ?_
    refine asg (Iv (w64 (s1.2 + 1))) rfl rfl rfl rfl ?_
    refine On ?_
    refine AWR.nil ⟨rfl, Ent.of ⟨rfl, rfl, rfl, trivial⟩ trivial⟩
  ·refine AWR.exit_end rfl ⟨rfl, Ent.of ⟨rfl, rfl, trivial⟩ trivial⟩
 ·refine Ws (Ws (Wr ?_))
  refine mv (Iv b16) rfl rfl rfl rfl ?_
  refine Op20 (LT.eql rfl) rfl ⟨rfl, rfl⟩ rfl rfl ?_
  refine On ?_
  refine AWR.cond rfl (fun hc24 => ?_) (fun hc24 => ?_)
  ·refine Ws (Wr ?_)
   refine Os00 (LT.tbuildSlice (n := 24) (enc := encInt) [] ([] : List Int) rfl rfl und37 ti3 rfl rfl rfl rfl (by decide) (fun _ => rfl) rfl) rfl rfl ?_
   refine mv (Cc (xF encInt v)) rfl rfl rfl rfl ?_
   refine Ob' fun u25 hu25 => ?_
   refine Os21 (LT.tappRO (enc := encInt) rfl  rfl und37 ti3 rfl (by decide) (by decide) (fun _ => rfl) (lim_le hu25)) rfl rfl rfl rfl rfl ?_
   refine asg (Cc (lo 24 ((([] : List Int) ++ v).length))) rfl rfl rfl rfl ?_
   refine On ?_
   refine en [(2, (Cc (lo 24 ((([] : List Int) ++ v).length))))] [(24, (pR 3 encInt (([] : List Int) ++ v)))] ⟨rfl, trivial⟩ ⟨rfl, trivial⟩ ?_
   refine AWR.ent (Ent.mv 24 0 rfl rfl) ?_
   refine en [(2, (Cc (lo 0 ((([] : List Int) ++ v).length))))] [(0, (pR 3 encInt (([] : List Int) ++ v)))] ⟨rfl, trivial⟩ ⟨rfl, trivial⟩ ?_
   refine AWR.ret (FPost.mk (.inr rfl) ⟨rfl, trivial⟩ ⟨rfl, trivial⟩ rfl ⟨trivial, trivial⟩ ⟨PermO.prow' perm_encInt, trivial⟩)
  ·refine AWR.skip (Ws (Wr ?_))
   refine asg (Iv 0) rfl ⟨rfl, rfl⟩ rfl rfl ?_
   refine On (Ws (Ws (Wr ?_)))
   refine asg (Iv 0) rfl ⟨rfl, rfl⟩ rfl rfl ?_
   refine On (AWR.block ?_)
   refine AWR.loop1 (id := 2) (m_spec_PrimitiveVector_L2 v b16) (fun s26 => ([(0, (Cc (xF encInt v))), (3, (Iv b16)), (5, (Iv s26.1)), (6, (Iv s26.2))], [])) (fun b39 => ([(0, (Cc (xF encInt v))), (3, (Iv b39.1)), (5, (Iv b39.2))], [])) ?_ (Ent.of ⟨rfl, rfl, rfl, rfl, trivial⟩ trivial) rfl (fun b39 _ => ?_)
   ·intro s26
    unfold m_spec_PrimitiveVector_L2
    refine Ws (Ws (Wr ?_))
    refine mv (Iv s26.2) rfl rfl rfl rfl ?_
    refine mv (Cc (xF encInt v)) rfl rfl rfl rfl ?_
    refine Op10 (LT.tlenRO rfl und37) rfl rfl rfl ?_
    refine Op20 (LT.lss rfl) rfl rfl rfl rfl ?_
    refine On ?_
    refine AWR.cond rfl (fun hc40 => ?_) (fun hc40 => ?_)
    ·refine AWR.skip (Ws (AWR.block (Ws (Wr ?_))))
     refine mv (Iv s26.1) rfl rfl rfl rfl ?_
     refine Op20 (LT.eql rfl) rfl ⟨rfl, rfl⟩ rfl rfl ?_
     refine On ?_
     refine AWR.joinK (fun j43 => ([(0, (Cc (xF encInt v))), (3, (Iv b16)), (5, (Iv j43)), (6, (Iv s26.2))], [])) ?_ (fun j43 _ => ?_)
     ·refine AWR.cond rfl (fun hc44 => ?_) (fun hc44 => ?_)
      ·refine Wr ?_
       refine mv (Cc (xF encInt v)) rfl rfl rfl rfl ?_
       refine mv (Iv s26.2) rfl rfl rfl rfl ?_
       refine Ob' fun x45 hx45 => ?_
       refine Op20 (LT.tindexRO (enc := encInt) rfl el37 hx45 sz3) rfl rfl rfl rfl ?_
       refine Op10 (LT.loadPx1 rfl ag3) rfl rfl rfl ?_
       refine asg (Iv x45) rfl rfl rfl rfl ?_
       refine On ?_
       refine AWR.nil ⟨rfl, Ent.of ⟨rfl, rfl, rfl, rfl, trivial⟩ trivial⟩
      ·refine AWR.skip ?_
       refine AWR.nil ⟨rfl, Ent.of ⟨rfl, rfl, rfl, rfl, trivial⟩ trivial⟩
     ·refine AWR.blk (Wr ?_)
      refine mv (Iv s26.2) rfl rfl rfl rfl ?_
      refine Op20 (LT.add rfl) rfl ⟨rfl, rfl⟩ rfl rfl ?_
      refine asg (Iv (w64 (s26.2 + 1))) rfl rfl rfl rfl ?_
      refine On ?_
      refine AWR.nil ⟨rfl, Ent.of ⟨rfl, rfl, rfl, rfl, trivial⟩ trivial⟩
    ·refine AWR.exit_end rfl ⟨rfl, Ent.of ⟨rfl, rfl, rfl, trivial⟩ trivial⟩
   ·refine Ws (Ws (Wr ?_))
    refine mv (Iv b39.2) rfl rfl rfl rfl ?_
    refine Op20 (LT.lss rfl) rfl ⟨rfl, rfl⟩ rfl rfl ?_
    refine On ?_
    refine AWR.joinK (fun j47 => ([(0, (Cc (xF encInt v))), (3, (Iv j47))], [])) ?_ (fun j47 _ => ?_)
    ·refine AWR.cond rfl (fun hc48 => ?_) (fun hc48 => ?_)
     ·refine Wr ?_
      refine mv (Iv b39.1) rfl rfl rfl rfl ?_
      refine Op10 (LT.neg rfl) rfl rfl rfl ?_
      refine asg (Iv (w64 (-b39.1))) rfl rfl rfl rfl ?_
      refine On ?_
      refine AWR.nil ⟨rfl, Ent.of ⟨rfl, rfl, trivial⟩ trivial⟩
     ·refine AWR.skip ?_
      refine AWR.nil ⟨rfl, Ent.of ⟨rfl, rfl, trivial⟩ trivial⟩
    ·refine Ws (Wr ?_)
     refine Os00 (LT.tbuildSlice (n := 25) (enc := encInt) [] ([] : List Int) rfl rfl und37 ti3 rfl rfl rfl rfl (by decide) (fun _ => rfl) rfl) rfl rfl ?_
     refine asg (Cc (lo 25 (([] : List Int).length))) rfl rfl rfl rfl ?_
     refine On (Ws (Ws (Wr ?_)))
     refine asg (Iv 0) rfl ⟨rfl, rfl⟩ rfl rfl ?_
     refine On (AWR.block ?_)
     refine AWR.loop1 (id := 4) (m_spec_PrimitiveVector_L3 v j47) (fun s49 => ([(0, (Cc (xF encInt v))), (3, (Iv j47)), (7, (Cc (lo 25 s49.2.length))), (8, (Iv s49.1))], [(25, (pR 3 encInt s49.2))])) (fun b58 => ([(7, (Cc (lo 25 b58.length)))], [(25, (pR 3 encInt b58))])) ?_ (Ent.of ⟨rfl, rfl, rfl, rfl, trivial⟩ ⟨rfl, trivial⟩) rfl (fun b58 _ => ?_)
     ·intro s49
      unfold m_spec_PrimitiveVector_L3
      refine Ws (Ws (Wr ?_))
      refine mv (Iv s49.1) rfl rfl rfl rfl ?_
      refine mv (Cc (xF encInt v)) rfl rfl rfl rfl ?_
      refine Op10 (LT.tlenRO rfl und37) rfl rfl rfl ?_
      refine Op20 (LT.lss rfl) rfl rfl rfl rfl ?_
      refine On ?_
      refine AWR.cond rfl (fun hc59 => ?_) (fun hc59 => ?_)
      ·refine AWR.skip (Ws (AWR.block (Wr ?_)))
       refine mv (Cc (lo 25 s49.2.length)) rfl rfl rfl rfl ?_
       refine mv (Cc (xF encInt v)) rfl rfl rfl rfl ?_
       refine mv (Iv s49.1) rfl rfl rfl rfl ?_
       refine Ob' fun x60 hx60 => ?_
       refine Op20 (LT.tindexRO (enc := encInt) rfl el37 hx60 sz3) rfl rfl rfl rfl ?_
       refine Op10 (LT.loadPx1 rfl ag3) rfl rfl rfl ?_
       refine mv (Iv j47) rfl rfl rfl rfl ?_
       refine Ob' fun u61 hu61 => ?_
       refine Op20 (LT.quo rfl (nz_ne hu61)) rfl rfl rfl rfl ?_
       refine Os10 (LT.tbuildSlice (n := 26) (enc := encInt) [(0, .tmp 64, (.c (iC (w64 (Int.tdiv x60 j47)))))] ([(w64 (Int.tdiv x60 j47))] : List Int) rfl rfl und37 ti3 rfl rfl rfl rfl (by decide) (fun _ => rfl) rfl) rfl rfl rfl ?_
       refine Ob' fun u62 hu62 => ?_
       refine Os22 (LT.tappP (enc := encInt) rfl rfl rfl und37 ti3 rfl (by decide) (by decide) (fun _ => rfl) (lim_le hu62)) rfl rfl rfl rfl rfl rfl ?_
       refine asg (Cc (lo 25 ((s49.2 ++ ([(w64 (Int.tdiv x60 j47))] : List Int)).length))) rfl rfl rfl rfl ?_
       refine On (AWR.blk ?_)
       refine en [(0, (Cc (xF encInt v))), (3, (Iv j47)), (7, (Cc (lo 25 ((s49.2 ++ ([(w64 (Int.tdiv x60 j47))] : List Int)).length)))), (8, (Iv s49.1))] [(25, (pR 3 encInt (s49.2 ++ ([(w64 (Int.tdiv x60 j47))] : List Int))))] ⟨rfl, rfl, rfl, rfl, trivial⟩ ⟨rfl, trivial⟩ ?_
       refine Wr ?_
       refine mv (Iv s49.1) rfl rfl rfl rfl ?_
       refine Op20 (LT.add rfl) rfl ⟨rfl, rfl⟩ rfl rfl ?_
       refine asg (Iv (w64 (s49.1 + 1))) rfl rfl rfl rfl ?_
       refine On ?_
       refine AWR.nil ⟨rfl, Ent.of ⟨rfl, rfl, rfl, rfl, trivial⟩ ⟨rfl, trivial⟩⟩
      ·refine AWR.exit_end rfl ⟨rfl, Ent.of ⟨rfl, trivial⟩ ⟨rfl, trivial⟩⟩
     ·refine Ws (Wr ?_)
      refine mv (Cc (lo 25 b58.length)) rfl rfl rfl rfl ?_
      refine asg (Cc (lo 25 b58.length)) rfl rfl rfl rfl ?_
      refine On ?_
      refine en [(2, (Cc (lo 25 b58.length)))] [(25, (pR 3 encInt b58))] ⟨rfl, trivial⟩ ⟨rfl, trivial⟩ ?_
      refine AWR.ent (Ent.mv 25 0 rfl rfl) ?_
      refine en [(2, (Cc (lo 0 b58.length)))] [(0, (pR 3 encInt b58))] ⟨rfl, trivial⟩ ⟨rfl, trivial⟩ ?_
      refine AWR.ret (FPost.mk (.inr rfl) ⟨rfl, trivial⟩ ⟨rfl, trivial⟩ rfl ⟨trivial, trivial⟩ ⟨PermO.prow' perm_encInt, trivial⟩)
theorem w_spec_l9Clean (row : (List Int)) : ∀ t, m_spec_l9Clean row = some t → Fw.Fn Try.prog 217 [(.c (xF encInt row))] [] (.s (.c (lo 0 t.length))) [(0, (pR 3 encInt t))] [] [0] := by
 refine Fw.Fn.of (P := Try.prog) (X := [0]) (pn := []) (rs := (fun (t : (List Int)) => [(.c (lo 0 t.length))])) (dfs := (fun (t : (List Int)) => [(0, (pR 3 encInt t))])) Try.func217 rfl Try.ntmps217 (Nat.le_of_ble_eq_true rfl) rfl ?_
 intro w0 U0 R0 g0
 unfold m_spec_l9Clean
 refine Ws (Wr ?_)
 refine asg (Cc (sC nilV)) rfl ⟨rfl, rfl⟩ rfl rfl ?_
 refine On (Ws (Wr ?_))
 refine mv (Cc (xF encInt row)) rfl rfl rfl rfl ?_
 refine Ob' fun r1 hr1 => ?_
 refine AOR.step (@LT.callF Try.prog _ _ 206 _ _ [(.c (xF encInt row))] _ _ [] _ _ _ _ ((show Fw.Fn Try.prog 206 [(.c (xF encInt row))] [] (Cc (lo 22 r1.length)) [(22, (pR 3 encInt r1))] [] [22] from Fw.Fn.ren [(0, 22)] (w_spec_PrimitiveVector row r1 hr1) rfl)) rfl cb206 (.cons (.c (.same rfl)) .nil) rfl rfl trivial) ⟨rfl, rfl, trivial⟩ trivial rfl rfl ?_
 refine asg (Cc (lo 22 r1.length)) rfl rfl rfl rfl ?_
 refine On ?_
 refine en [(2, (Cc (lo 22 r1.length)))] [(22, (pR 3 encInt r1))] ⟨rfl, trivial⟩ ⟨rfl, trivial⟩ ?_
 refine AWR.ent (Ent.mv 22 0 rfl rfl) ?_
 refine en [(2, (Cc (lo 0 r1.length)))] [(0, (pR 3 encInt r1))] ⟨rfl, trivial⟩ ⟨rfl, trivial⟩ ?_
 refine AWR.ret (FPost.mk (.inr rfl) ⟨rfl, trivial⟩ ⟨rfl, trivial⟩ rfl ⟨trivial, trivial⟩ ⟨PermO.prow' perm_encInt, trivial⟩)
theorem w_spec_l9Without (a : (List Int)) (row : (List Int)) (j : Int) : ∀ t, m_spec_l9Without a row j = some t → Fw.Fn Try.prog 218 [(.c (xF encInt a)), (.c (xF encInt row)), (.c (iC j))] [] (.s (.c (lo 0 t.length))) [(0, (pR 3 encInt t))] [] [0] := by
 refine Fw.Fn.of (P := Try.prog) (X := [0]) (pn := []) (rs := (fun (t : (List Int)) => [(.c (lo 0 t.length))])) (dfs := (fun (t : (List Int)) => [(0, (pR 3 encInt t))])) Try.func218 rfl Try.ntmps218 (Nat.le_of_ble_eq_true rfl) rfl ?_
 intro w0 U0 R0 g0
 unfold m_spec_l9Without
 refine Ws (Wr ?_)
 refine asg (Cc (sC nilV)) rfl ⟨rfl, rfl⟩ rfl rfl ?_
 refine On (Ws (AWR.draw mixed ?_))
 refine Dp10 (LT.move (v := (Cc (xF encInt a))) rfl) rfl rfl rfl ?_
 refine Dp10 (LT.move (v := (Iv j)) rfl) rfl rfl rfl ?_
 refine AOD.bind fun x1 hx1 => ?_
 refine Dp20 (LT.tindexRO (enc := encInt) rfl el37 hx1 sz3) rfl rfl rfl rfl ?_
 refine Dp10 (LT.loadPx1 rfl ag3) rfl rfl rfl ?_
 refine Dp10 (LT.move (v := (Cc (xF encInt row))) rfl) rfl rfl rfl ?_
 refine Dp10 (LT.move (v := (Iv j)) rfl) rfl rfl rfl ?_
 refine AOD.bind fun x2 hx2 => ?_
 refine Dp20 (LT.tindexRO (enc := encInt) rfl el37 hx2 sz3) rfl rfl rfl rfl ?_
 refine Dp10 (LT.loadPx1 rfl ag3) rfl rfl rfl ?_
 refine AOD.bind fun r3 hr3 => ?_
 refine AOD.pure (@LT.callF Try.prog _ _ 205 _ _ [(.c (iC x1)), (.c (iC x2))] _ _ [] _ _ _ _ (w_spec_GcdOf x1 x2 r3 hr3) rfl cb205 (.cons (.c (.same rfl)) (.cons (.c (.same rfl)) .nil)) rfl rfl trivial) ⟨rfl, rfl, rfl, trivial⟩ trivial rfl rfl ?_
 refine Dp10 (LT.assign (v := (Iv r3)) rfl) rfl rfl rfl ?_
 refine AOD.nil (by kernel_rfl) ?_
 refine Ws ?_
 refine en [(0, (Cc (xF encInt a))), (1, (Cc (xF encInt row))), (2, (Iv j)), (7, (Iv r3))] [] ⟨rfl, rfl, rfl, rfl, trivial⟩ trivial ?_
 refine Wr ?_
 refine mv (Cc (xF encInt row)) rfl rfl rfl rfl ?_
 refine mv (Iv j) rfl rfl rfl rfl ?_
 refine Ob' fun x4 hx4 => ?_
 refine Op20 (LT.tindexRO (enc := encInt) rfl el37 hx4 sz3) rfl rfl rfl rfl ?_
 refine Op10 (LT.loadPx1 rfl ag3) rfl rfl rfl ?_
 refine mv (Iv r3) rfl rfl rfl rfl ?_
 refine Ob' fun u5 hu5 => ?_
 refine Op20 (LT.quo rfl (nz_ne hu5)) rfl rfl rfl rfl ?_
 refine asg (Iv (w64 (Int.tdiv x4 r3))) rfl rfl rfl rfl ?_
 refine On (Ws (Wr ?_))
 refine mv (Cc (xF encInt a)) rfl rfl rfl rfl ?_
 refine mv (Iv j) rfl rfl rfl rfl ?_
 refine Ob' fun x6 hx6 => ?_
 refine Op20 (LT.tindexRO (enc := encInt) rfl el37 hx6 sz3) rfl rfl rfl rfl ?_
 refine Op10 (LT.loadPx1 rfl ag3) rfl rfl rfl ?_
 refine mv (Iv r3) rfl rfl rfl rfl ?_
 refine Ob' fun u7 hu7 => ?_
 refine Op20 (LT.quo rfl (nz_ne hu7)) rfl rfl rfl rfl ?_
 refine asg (Iv (w64 (Int.tdiv x6 r3))) rfl rfl rfl rfl ?_
 refine On (Ws ?_)
 refine en [(0, (Cc (xF encInt a))), (1, (Cc (xF encInt row))), (8, (Iv (w64 (Int.tdiv x4 r3)))), (9, (Iv (w64 (Int.tdiv x6 r3))))] [] ⟨rfl, rfl, rfl, rfl, trivial⟩ trivial ?_
 refine Wr ?_
 refine Os00 (LT.tbuildSlice (n := 22) (enc := encInt) [] ([] : List Int) rfl rfl und37 ti3 rfl rfl rfl rfl (by decide) (fun _ => rfl) rfl) rfl rfl ?_
 refine asg (Cc (lo 22 (([] : List Int).length))) rfl rfl rfl rfl ?_
 refine On (Ws (Ws (Wr ?_)))
 refine asg (Iv 0) rfl ⟨rfl, rfl⟩ rfl rfl ?_
 refine On (AWR.block ?_)
 refine AWR.loop1 (id := 0) (m_spec_l9Without_L1 a row r3 x4 x6) (fun s8 => ([(0, (Cc (xF encInt a))), (1, (Cc (xF encInt row))), (8, (Iv (w64 (Int.tdiv x4 r3)))), (9, (Iv (w64 (Int.tdiv x6 r3)))), (10, (Cc (lo 22 s8.2.length))), (11, (Iv s8.1))], [(22, (pR 3 encInt s8.2))])) (fun b17 => ([(10, (Cc (lo 22 b17.length)))], [(22, (pR 3 encInt b17))])) ?_ (Ent.of ⟨rfl, rfl, rfl, rfl, rfl, rfl, trivial⟩ ⟨rfl, trivial⟩) rfl (fun b17 _ => ?_)
 ·intro s8
  unfold m_spec_l9Without_L1
  refine Ws (Ws (Wr ?_))
  refine mv (Iv s8.1) rfl rfl rfl rfl ?_
  refine mv (Cc (xF encInt a)) rfl rfl rfl rfl ?_
  refine Op10 (LT.tlenRO rfl und37) rfl rfl rfl ?_
  refine Op20 (LT.lss rfl) rfl rfl rfl rfl ?_
  refine On ?_
  refine AWR.cond rfl (fun hc18 => ?_) (fun hc18 => ?_)
  ·refine AWR.skip (Ws (AWR.block (AWR.draw mixed ?_)))
   refine Dp10 (LT.move (v := (Cc (lo 22 s8.2.length))) rfl) rfl rfl rfl ?_
   refine Dp10 (LT.move (v := (Cc (xF encInt a))) rfl) rfl rfl rfl ?_
   refine Dp10 (LT.move (v := (Iv s8.1)) rfl) rfl rfl rfl ?_
   refine AOD.bind fun x19 hx19 => ?_
   refine Dp20 (LT.tindexRO (enc := encInt) rfl el37 hx19 sz3) rfl rfl rfl rfl ?_
   refine Dp10 (LT.loadPx1 rfl ag3) rfl rfl rfl ?_
   refine Dp10 (LT.move (v := (Iv (w64 (Int.tdiv x4 r3)))) rfl) rfl rfl rfl ?_
   refine Dp20 (LT.mul rfl) rfl rfl rfl rfl ?_
   refine Dp10 (LT.move (v := (Cc (xF encInt row))) rfl) rfl rfl rfl ?_
   refine Dp10 (LT.move (v := (Iv s8.1)) rfl) rfl rfl rfl ?_
   refine AOD.bind fun x20 hx20 => ?_
   refine Dp20 (LT.tindexRO (enc := encInt) rfl el37 hx20 sz3) rfl rfl rfl rfl ?_
   refine Dp10 (LT.loadPx1 rfl ag3) rfl rfl rfl ?_
   refine Dp10 (LT.move (v := (Iv (w64 (Int.tdiv x6 r3)))) rfl) rfl rfl rfl ?_
   refine Dp20 (LT.mul rfl) rfl rfl rfl rfl ?_
   refine Dp20 (LT.sub rfl) rfl rfl rfl rfl ?_
   refine Ds10 (LT.tbuildSlice (n := 23) (enc := encInt) [(0, .tmp 53, (.c (iC (w64 ((w64 (x19 * (w64 (Int.tdiv x4 r3)))) - (w64 (x20 * (w64 (Int.tdiv x6 r3)))))))))] ([(w64 ((w64 (x19 * (w64 (Int.tdiv x4 r3)))) - (w64 (x20 * (w64 (Int.tdiv x6 r3))))))] : List Int) rfl rfl und37 ti3 rfl rfl rfl rfl (by decide) (fun _ => rfl) rfl) rfl rfl rfl ?_
   refine AOD.bind fun u21 hu21 => ?_
   refine Ds22 (LT.tappP (enc := encInt) rfl rfl rfl und37 ti3 rfl (by decide) (by decide) (fun _ => rfl) (lim_le hu21)) rfl rfl rfl rfl rfl rfl ?_
   refine Dp10 (LT.assign (v := (Cc (lo 22 ((s8.2 ++ ([(w64 ((w64 (x19 * (w64 (Int.tdiv x4 r3)))) - (w64 (x20 * (w64 (Int.tdiv x6 r3))))))] : List Int)).length)))) rfl) rfl rfl rfl ?_
   refine AOD.nil (by kernel_rfl) ?_
   refine AWR.blk ?_
   refine en [(0, (Cc (xF encInt a))), (1, (Cc (xF encInt row))), (8, (Iv (w64 (Int.tdiv x4 r3)))), (9, (Iv (w64 (Int.tdiv x6 r3)))), (10, (Cc (lo 22 ((s8.2 ++ ([(w64 ((w64 (x19 * (w64 (Int.tdiv x4 r3)))) - (w64 (x20 * (w64 (Int.tdiv x6 r3))))))] : List Int)).length)))), (11, (Iv s8.1))] [(22, (pR 3 encInt (s8.2 ++ ([(w64 ((w64 (x19 * (w64 (Int.tdiv x4 r3)))) - (w64 (x20 * (w64 (Int.tdiv x6 r3))))))] : List Int))))] ⟨rfl, rfl, rfl, rfl, rfl, rfl, trivial⟩ ⟨rfl, trivial⟩ ?_
   refine Wr ?_
   refine mv (Iv s8.1) rfl rfl rfl rfl ?_
   refine Op20 (LT.add rfl) rfl ⟨rfl, rfl⟩ rfl rfl ?_
   refine asg (Iv (w64 (s8.1 + 1))) rfl rfl rfl rfl ?_
   refine On ?_
   refine AWR.nil ⟨rfl, Ent.of ⟨rfl, rfl, rfl, rfl, rfl, rfl, trivial⟩ ⟨rfl, trivial⟩⟩
  ·refine AWR.exit_end rfl ⟨rfl, Ent.of ⟨rfl, trivial⟩ ⟨rfl, trivial⟩⟩
 ·refine Ws (Wr ?_)
  refine mv (Cc (lo 22 b17.length)) rfl rfl rfl rfl ?_
  refine Ob' fun r22 hr22 => ?_
  refine AOR.step (@LT.callF Try.prog _ _ 217 _ _ [(.c (lo 22 b17.length))] _ _ [(22, (pR 3 encInt b17))] _ _ _ _ ((show Fw.Fn Try.prog 217 [(.c (xF encInt b17))] [] (Cc (lo 25 r22.length)) [(25, (pR 3 encInt r22))] [] [25] from Fw.Fn.ren [(0, 25)] (w_spec_l9Clean b17 r22 hr22) rfl)) rfl cb217 (.cons (.c (.tloc rfl rfl)) .nil) rfl rfl trivial) ⟨rfl, rfl, trivial⟩ ⟨rfl, trivial⟩ rfl rfl ?_
  refine asg (Cc (lo 25 r22.length)) rfl rfl rfl rfl ?_
  refine On ?_
  refine en [(6, (Cc (lo 25 r22.length)))] [(25, (pR 3 encInt r22))] ⟨rfl, trivial⟩ ⟨rfl, trivial⟩ ?_
  refine AWR.ent (Ent.mv 25 0 rfl rfl) ?_
  refine en [(6, (Cc (lo 0 r22.length)))] [(0, (pR 3 encInt r22))] ⟨rfl, trivial⟩ ⟨rfl, trivial⟩ ?_
  refine AWR.ret (FPost.mk (.inr rfl) ⟨rfl, trivial⟩ ⟨rfl, trivial⟩ rfl ⟨trivial, trivial⟩ ⟨PermO.prow' perm_encInt, trivial⟩)
theorem w_spec_l9Reduced (m : (List (List Int))) : ∀ t, m_spec_l9Reduced m = some t → Fw.Fn Try.prog 144 [(.c (xF (encLInt false) m))] [] (resA [(.c (lo 0 t.1.length)), (.c (lo 1 t.2.length))]) [(0, (pR 37 (encLInt true) t.1)), (1, (pR 3 encInt t.2))] [] [0, 1] := by
 refine Fw.Fn.ofU (P := Try.prog) (X := [0, 1]) (pn := []) (rs := (fun (t : ((List (List Int)) × (List Int))) => [(.c (lo 0 t.1.length)), (.c (lo 1 t.2.length))])) (dfs := (fun (t : ((List (List Int)) × (List Int))) => [(0, (pR 37 (encLInt true) t.1)), (1, (pR 3 encInt t.2))])) Try.func144 rfl Try.ntmps144 (Nat.le_of_ble_eq_true rfl) rfl ?_
 intro w0 U0 R0 g0 hU
 unfold m_spec_l9Reduced
 refine Ws (Wr ?_)
 refine asg (Cc (sC nilV)) rfl ⟨rfl, rfl⟩ rfl rfl ?_
 refine asg (Cc (sC nilV)) rfl ⟨rfl, rfl⟩ rfl rfl ?_
 refine On (Ws (Wr ?_))
 refine Os00 (LT.tbuildSlice (n := 21) (enc := (encLInt true)) [] ([] : List (List Int)) rfl rfl und31 ti37 rfl rfl rfl rfl (by decide) (fun _ => rfl) rfl) rfl rfl ?_
 refine asg (Cc (lo 21 (([] : List (List Int)).length))) rfl rfl rfl rfl ?_
 refine On (Ws (Ws (Wr ?_)))
 refine asg (Iv 0) rfl ⟨rfl, rfl⟩ rfl rfl ?_
 refine On (AWR.block ?_)
 refine AWR.loop1 (id := 0) (m_spec_l9Reduced_L1 m) (fun s1 => ([(0, (Cc (xF (encLInt false) m))), (4, (Cc (lo 21 s1.2.length))), (5, (Iv s1.1))], [(21, (pR 37 (encLInt true) s1.2))])) (fun b10 => ([(4, (Cc (lo 21 b10.length)))], [(21, (pR 37 (encLInt true) b10))])) ?_ (Ent.of ⟨rfl, rfl, rfl, trivial⟩ ⟨rfl, trivial⟩) rfl (fun b10 _ => ?_)
 ·intro s1
  unfold m_spec_l9Reduced_L1
  refine Ws (Ws (Wr ?_))
  refine mv (Iv s1.1) rfl rfl rfl rfl ?_
  refine mv (Cc (xF (encLInt false) m)) rfl rfl rfl rfl ?_
  refine Op10 (LT.tlenRO rfl und31) rfl rfl rfl ?_
  refine Op20 (LT.lss rfl) rfl rfl rfl rfl ?_
  refine On ?_
  refine AWR.cond rfl (fun hc11 => ?_) (fun hc11 => ?_)
  ·refine AWR.skip (Ws (AWR.block (Wr ?_)))
   refine mv (Cc (lo 21 s1.2.length)) rfl rfl rfl rfl ?_
   refine mv (Cc (xF (encLInt false) m)) rfl rfl rfl rfl ?_
   refine mv (Iv s1.1) rfl rfl rfl rfl ?_
   refine Ob' fun x12 hx12 => ?_
   refine Op20 (LT.tindexRO (enc := (encLInt false)) rfl el31 hx12 sz37) rfl rfl rfl rfl ?_
   refine Op10 (LT.loadPx1 rfl ag37) rfl rfl rfl ?_
   refine Ob' fun r13 hr13 => ?_
   refine AOR.step (@LT.callF Try.prog _ _ 217 _ _ [(.c (xF encInt x12))] _ _ [] _ _ _ _ ((show Fw.Fn Try.prog 217 [(.c (xF encInt x12))] [] (Cc (lo 23 r13.length)) [(23, (pR 3 encInt r13))] [] [23] from Fw.Fn.ren [(0, 23)] (w_spec_l9Clean x12 r13 hr13) rfl)) rfl cb217 (.cons (.c (.same rfl)) .nil) rfl rfl trivial) ⟨rfl, rfl, trivial⟩ trivial rfl rfl ?_
   refine AOR.ent (Ent.freezeS (enc := encInt) 23 23 hU rfl rfl rfl rfl) ?_
   refine Os10 (LT.tbuildSlice (n := 24) (enc := (encLInt true)) [(0, .tmp 23, (.c (xT encInt r13)))] [r13] rfl rfl und31 ti37 rfl rfl rfl rfl (by decide) (fun _ => rfl) rfl) rfl rfl rfl ?_
   refine Ob' fun u14 hu14 => ?_
   refine Os22 (LT.tappP (enc := (encLInt true)) rfl rfl rfl und31 ti37 rfl (by decide) (by decide) (fun _ => rfl) (lim_le hu14)) rfl rfl rfl rfl rfl rfl ?_
   refine asg (Cc (lo 21 ((s1.2 ++ [r13]).length))) rfl rfl rfl rfl ?_
   refine On (AWR.blk ?_)
   refine en [(0, (Cc (xF (encLInt false) m))), (4, (Cc (lo 21 ((s1.2 ++ [r13]).length)))), (5, (Iv s1.1))] [(21, (pR 37 (encLInt true) (s1.2 ++ [r13])))] ⟨rfl, rfl, rfl, trivial⟩ ⟨rfl, trivial⟩ ?_
   refine Wr ?_
   refine mv (Iv s1.1) rfl rfl rfl rfl ?_
   refine Op20 (LT.add rfl) rfl ⟨rfl, rfl⟩ rfl rfl ?_
   refine asg (Iv (w64 (s1.1 + 1))) rfl rfl rfl rfl ?_
   refine On ?_
   refine AWR.nil ⟨rfl, Ent.of ⟨rfl, rfl, rfl, trivial⟩ ⟨rfl, trivial⟩⟩
  ·refine AWR.exit_end rfl ⟨rfl, Ent.of ⟨rfl, trivial⟩ ⟨rfl, trivial⟩⟩
 ·refine Ws (Wr ?_)
  refine Os00 (LT.tbuildSlice (n := 25) (enc := encInt) [] ([] : List Int) rfl rfl und37 ti3 rfl rfl rfl rfl (by decide) (fun _ => rfl) rfl) rfl rfl ?_
  refine asg (Cc (lo 25 (([] : List Int).length))) rfl rfl rfl rfl ?_
  refine On (Ws (Ws (Wr ?_)))
  refine asg (Iv 0) rfl ⟨rfl, rfl⟩ rfl rfl ?_
  refine On (AWR.block ?_)
  refine AWR.loop1 (id := 2) (m_spec_l9Reduced_L6) (fun s15 => ([(4, (Cc (lo 21 s15.2.1.length))), (6, (Cc (lo 25 s15.2.2.length))), (7, (Iv s15.1))], [(21, (pR 37 (encLInt true) s15.2.1)), (25, (pR 3 encInt s15.2.2))])) (fun b148 => ([(4, (Cc (lo 21 b148.1.length))), (6, (Cc (lo 25 b148.2.length)))], [(21, (pR 37 (encLInt true) b148.1)), (25, (pR 3 encInt b148.2))])) ?_ (Ent.of ⟨rfl, rfl, rfl, trivial⟩ ⟨rfl, rfl, trivial⟩) rfl (fun b148 _ => ?_)
  ·intro s15
   unfold m_spec_l9Reduced_L6
   refine Ws (Ws ?_)
   refine AWR.joinK (fun j151 => ([(4, (Cc (lo 21 s15.2.1.length))), (6, (Cc (lo 25 s15.2.2.length))), (7, (Iv s15.1)), (37, (Bv j151))], [(21, (pR 37 (encLInt true) s15.2.1)), (25, (pR 3 encInt s15.2.2))])) ?_ (fun j151 _ => ?_)
   ·refine Wr ?_
    refine mv (Cc (lo 21 s15.2.1.length)) rfl rfl rfl rfl ?_
    refine Op10 (LT.lenLoc rfl und31) rfl rfl rfl ?_
    refine Op20 (LT.gtr rfl) rfl ⟨rfl, rfl⟩ rfl rfl ?_
    refine mv (Bv (decide (0 < (s15.2.1.length : Int)))) rfl rfl rfl rfl ?_
    refine AOR.split (fun hb152 => ?_) (fun hb152 => ?_)
    ·refine mv (Iv s15.1) rfl rfl ⟨_, rfl, .inl ⟨_, rfl, (by rw [hb152]; rfl)⟩⟩ rfl ?_
     refine mv (Cc (lo 21 s15.2.1.length)) rfl rfl ⟨_, rfl, .inl ⟨_, rfl, (by rw [hb152]; rfl)⟩⟩ rfl ?_
     refine Ob' fun x153 hx153 => ?_
     refine Op21 (LT.tindexLoc rfl rfl el31 hx153) rfl ⟨rfl, rfl⟩ rfl ⟨_, rfl, .inl ⟨_, rfl, (by rw [hb152]; rfl)⟩⟩ rfl ?_
     refine Op11 (LT.tload1 (k := 0) rfl ag37 hx153 (by exact rfl) (by exact rfl)) rfl rfl ⟨_, rfl, .inl ⟨_, rfl, (by rw [hb152]; rfl)⟩⟩ rfl ?_
     refine Op10 (LT.tlenRO rfl und37) rfl ⟨_, rfl, .inl ⟨_, rfl, (by rw [hb152]; rfl)⟩⟩ rfl ?_
     refine Op20 (LT.lss rfl) rfl rfl ⟨_, rfl, .inl ⟨_, rfl, (by rw [hb152]; rfl)⟩⟩ rfl ?_
     refine Op20 (LT.pickT (v := (Bv (decide (s15.1 < (x153.length : Int))))) rfl hb152) rfl rfl rfl rfl ?_
     refine On ?_
     refine AWR.nil ⟨rfl, Ent.of ⟨rfl, rfl, rfl, rfl, trivial⟩ ⟨rfl, rfl, trivial⟩⟩
    ·refine Ok rfl rfl rfl (by rw [hb152]; rfl) rfl ?_
     refine Ok rfl rfl rfl (by rw [hb152]; rfl) rfl ?_
     refine Ok rfl rfl rfl (by rw [hb152]; rfl) rfl ?_
     refine Ok rfl rfl rfl (by rw [hb152]; rfl) rfl ?_
     refine Ok rfl rfl rfl (by rw [hb152]; rfl) rfl ?_
     refine Ok rfl rfl rfl (by rw [hb152]; rfl) rfl ?_
     refine Op20 (LT.pickF (v := (Bv false)) rfl hb152) rfl ⟨rfl, rfl⟩ rfl rfl ?_
     refine On ?_
     refine AWR.nil ⟨rfl, Ent.of ⟨rfl, rfl, rfl, rfl, trivial⟩ ⟨rfl, rfl, trivial⟩⟩
   ·refine AWR.cond rfl (fun hc154 => ?_) (fun hc154 => ?_)
    ·refine AWR.skip (Ws (AWR.block (Ws (Wr ?_))))
     refine mv (Cc (lo 25 s15.2.2.length)) rfl rfl rfl rfl ?_
     refine Op10 (LT.lenLoc rfl und37) rfl rfl rfl ?_
     refine asg (Iv (s15.2.2.length : Int)) rfl rfl rfl rfl ?_
     refine On (Ws (AWR.block ?_))
     refine AWR.loop1 (id := 4) (m_spec_l9Reduced_L7 s15) (fun s155 => ([(4, (Cc (lo 21 s15.2.1.length))), (6, (Cc (lo 25 s15.2.2.length))), (7, (Iv s15.1)), (8, (Iv s155))], [(21, (pR 37 (encLInt true) s15.2.1)), (25, (pR 3 encInt s15.2.2))])) (fun b172 => ([(4, (Cc (lo 21 b172.2.2.1.length))), (6, (Cc (lo 25 b172.2.2.2.length))), (7, (Iv b172.1)), (8, (Iv b172.2.1))], [(21, (pR 37 (encLInt true) b172.2.2.1)), (25, (pR 3 encInt b172.2.2.2))])) ?_ (Ent.of ⟨rfl, rfl, rfl, rfl, trivial⟩ ⟨rfl, rfl, trivial⟩) rfl (fun b172 _ => ?_)
     ·intro s155
      unfold m_spec_l9Reduced_L7
      refine Ws (Ws ?_)
      refine AWR.joinK (fun j176 => ([(4, (Cc (lo 21 s15.2.1.length))), (6, (Cc (lo 25 s15.2.2.length))), (7, (Iv s15.1)), (8, (Iv s155)), (55, (Bv j176))], [(21, (pR 37 (encLInt true) s15.2.1)), (25, (pR 3 encInt s15.2.2))])) ?_ (fun j176 _ => ?_)
      ·refine Wr ?_
       refine mv (Iv s155) rfl rfl rfl rfl ?_
       refine mv (Cc (lo 21 s15.2.1.length)) rfl rfl rfl rfl ?_
       refine Op10 (LT.lenLoc rfl und31) rfl rfl rfl ?_
       refine Op20 (LT.lss rfl) rfl rfl rfl rfl ?_
       refine mv (Bv (decide (s155 < (s15.2.1.length : Int)))) rfl rfl rfl rfl ?_
       refine AOR.split (fun hb177 => ?_) (fun hb177 => ?_)
       ·refine mv (Cc (lo 21 s15.2.1.length)) rfl rfl ⟨_, rfl, .inl ⟨_, rfl, (by rw [hb177]; rfl)⟩⟩ rfl ?_
        refine mv (Iv s155) rfl rfl ⟨_, rfl, .inl ⟨_, rfl, (by rw [hb177]; rfl)⟩⟩ rfl ?_
        refine Ob' fun x178 hx178 => ?_
        refine Op21 (LT.tindexLoc rfl rfl el31 hx178) rfl rfl rfl ⟨_, rfl, .inl ⟨_, rfl, (by rw [hb177]; rfl)⟩⟩ rfl ?_
        refine Op11 (LT.tload1 (k := 0) rfl ag37 hx178 (by exact rfl) (by exact rfl)) rfl rfl ⟨_, rfl, .inl ⟨_, rfl, (by rw [hb177]; rfl)⟩⟩ rfl ?_
        refine mv (Iv s15.1) rfl rfl ⟨_, rfl, .inl ⟨_, rfl, (by rw [hb177]; rfl)⟩⟩ rfl ?_
        refine Ob' fun x179 hx179 => ?_
        refine Op20 (LT.tindexRO (enc := encInt) rfl el37 hx179 sz3) rfl rfl ⟨_, rfl, .inl ⟨_, rfl, (by rw [hb177]; rfl)⟩⟩ rfl ?_
        refine Op10 (LT.loadPx1 rfl ag3) rfl ⟨_, rfl, .inl ⟨_, rfl, (by rw [hb177]; rfl)⟩⟩ rfl ?_
        refine Op20 (LT.eql rfl) rfl ⟨rfl, rfl⟩ ⟨_, rfl, .inl ⟨_, rfl, (by rw [hb177]; rfl)⟩⟩ rfl ?_
        refine Op20 (LT.pickT (v := (Bv (x179 == 0))) rfl hb177) rfl rfl rfl rfl ?_
        refine On ?_
        refine AWR.nil ⟨rfl, Ent.of ⟨rfl, rfl, rfl, rfl, rfl, trivial⟩ ⟨rfl, rfl, trivial⟩⟩
       ·refine Ok rfl rfl rfl (by rw [hb177]; rfl) rfl ?_
        refine Ok rfl rfl rfl (by rw [hb177]; rfl) rfl ?_
        refine Ok rfl rfl rfl (by rw [hb177]; rfl) rfl ?_
        refine Ok rfl rfl rfl (by rw [hb177]; rfl) rfl ?_
        refine Ok rfl rfl rfl (by rw [hb177]; rfl) rfl ?_
        refine Ok rfl rfl rfl (by rw [hb177]; rfl) rfl ?_
        refine Ok rfl rfl rfl (by rw [hb177]; rfl) rfl ?_
        refine Ok rfl rfl rfl (by rw [hb177]; rfl) rfl ?_
        refine Op20 (LT.pickF (v := (Bv false)) rfl hb177) rfl ⟨rfl, rfl⟩ rfl rfl ?_
        refine On ?_
        refine AWR.nil ⟨rfl, Ent.of ⟨rfl, rfl, rfl, rfl, rfl, trivial⟩ ⟨rfl, rfl, trivial⟩⟩
      ·refine AWR.cond rfl (fun hc180 => ?_) (fun hc180 => ?_)
       ·refine AWR.skip (AWR.block (Wr ?_))
        refine mv (Iv s155) rfl rfl rfl rfl ?_
        refine Op20 (LT.add rfl) rfl ⟨rfl, rfl⟩ rfl rfl ?_
        refine asg (Iv (w64 (s155 + 1))) rfl rfl rfl rfl ?_
        refine On (AWR.blk ?_)
        refine AWR.nil ⟨rfl, Ent.of ⟨rfl, rfl, rfl, rfl, trivial⟩ ⟨rfl, rfl, trivial⟩⟩
       ·refine AWR.exit_end rfl ⟨rfl, Ent.of ⟨rfl, rfl, rfl, rfl, trivial⟩ ⟨rfl, rfl, trivial⟩⟩
     ·refine Ws (Ws (Wr ?_))
      refine mv (Iv b172.2.1) rfl rfl rfl rfl ?_
      refine mv (Cc (lo 21 b172.2.2.1.length)) rfl rfl rfl rfl ?_
      refine Op10 (LT.lenLoc rfl und31) rfl rfl rfl ?_
      refine Op20 (LT.eql rfl) rfl rfl rfl rfl ?_
      refine On ?_
      refine AWR.cond rfl (fun hc181 => ?_) (fun hc181 => ?_)
      ·refine AWR.exit rfl (Wr ?_)
       refine mv (Iv b172.1) rfl rfl rfl rfl ?_
       refine Op20 (LT.add rfl) rfl ⟨rfl, rfl⟩ rfl rfl ?_
       refine asg (Iv (w64 (b172.1 + 1))) rfl rfl rfl rfl ?_
       refine On ?_
       refine AWR.nil ⟨rfl, Ent.of ⟨rfl, rfl, rfl, trivial⟩ ⟨rfl, rfl, trivial⟩⟩
      ·refine AWR.skip (Ws (Wr ?_))
       refine mv (Cc (lo 21 b172.2.2.1.length)) rfl rfl rfl rfl ?_
       refine mv (Iv b172.2.1) rfl rfl rfl rfl ?_
       refine Ob' fun x182 hx182 => ?_
       refine Op21 (LT.tindexLoc rfl rfl el31 hx182) rfl rfl rfl rfl rfl ?_
       refine Op11 (LT.tload1 (k := 0) rfl ag37 hx182 (by exact rfl) (by exact rfl)) rfl rfl rfl rfl ?_
       refine asg (Cc (xT encInt x182)) rfl rfl rfl rfl ?_
       refine On (Ws (Wr ?_))
       refine mv (Cc (lo 21 b172.2.2.1.length)) rfl rfl rfl rfl ?_
       refine mv (Iv b172.2.1) rfl rfl rfl rfl ?_
       refine mv (Cc (lo 21 b172.2.2.1.length)) rfl rfl rfl rfl ?_
       refine mv (Cc (lo 25 b172.2.2.2.length)) rfl rfl rfl rfl ?_
       refine Op10 (LT.lenLoc rfl und37) rfl rfl rfl ?_
       refine Ob' fun x183 hx183 => ?_
       refine Op21 (LT.tindexLoc rfl rfl el31 hx183) rfl rfl rfl rfl rfl ?_
       refine Op11 (LT.tload1 (k := 0) rfl ag37 hx183 (by exact rfl) (by exact rfl)) rfl rfl rfl rfl ?_
       refine Ob' fun x184 hx184 => ?_
       refine Op21 (LT.tindexLoc rfl rfl el31 hx184) rfl rfl rfl rfl rfl ?_
       refine Os21 (LT.tstore (k := 0) (v := (.c (xT encInt x183))) (b' := x183) rfl rfl (infS inf37) sz37 (by exact rfl) hx184 (by exact rfl) (by exact Nat.le_of_ble_eq_true rfl) (by exact rfl)) rfl rfl rfl rfl rfl ?_
       refine On (Ws ?_)
       refine en [(4, (Cc (lo 21 b172.2.2.1.length))), (6, (Cc (lo 25 b172.2.2.2.length))), (7, (Iv b172.1)), (9, (Cc (xT encInt x182)))] [(21, (pR 37 (encLInt true) (b172.2.2.1.set b172.2.1.toNat x183))), (25, (pR 3 encInt b172.2.2.2))] ⟨rfl, rfl, rfl, rfl, trivial⟩ ⟨rfl, rfl, trivial⟩ ?_
       refine Wr ?_
       refine mv (Cc (lo 21 b172.2.2.1.length)) rfl rfl rfl rfl ?_
       refine mv (Cc (lo 25 b172.2.2.2.length)) rfl rfl rfl rfl ?_
       refine Op10 (LT.lenLoc rfl und37) rfl rfl rfl ?_
       refine mv (Cc (xT encInt x182)) rfl rfl rfl rfl ?_
       refine Ob' fun x185 hx185 => ?_
       refine Op21 (LT.tindexLoc (show b172.2.2.1.length = (b172.2.2.1.set b172.2.1.toNat x183).length by simp only [List.length_set]) rfl el31 hx185) rfl rfl rfl rfl rfl ?_
       refine Os21 (LT.tstore (k := 0) (v := (.c (xT encInt x182))) (b' := x182) rfl rfl (infS inf37) sz37 (by exact rfl) hx185 (by exact rfl) (by exact Nat.le_of_ble_eq_true rfl) (by exact rfl)) rfl rfl rfl rfl rfl ?_
       refine On (Ws (Ws (Wr ?_)))
       refine asg (Iv 0) rfl ⟨rfl, rfl⟩ rfl rfl ?_
       refine On (AWR.block ?_)
       refine AWR.loop1 (id := 6) (m_spec_l9Reduced_L8 b172 x182) (fun s186 => ([(4, (Cc (lo 21 s186.2.length))), (6, (Cc (lo 25 b172.2.2.2.length))), (7, (Iv b172.1)), (9, (Cc (xT encInt x182))), (10, (Iv s186.1))], [(21, (pR 37 (encLInt true) s186.2)), (25, (pR 3 encInt b172.2.2.2))])) (fun b221 => ([(4, (Cc (lo 21 b221.2.1.length))), (6, (Cc (lo 25 b221.2.2.length))), (7, (Iv b221.1))], [(21, (pR 37 (encLInt true) b221.2.1)), (25, (pR 3 encInt b221.2.2))])) ?_ (Ent.of ⟨(congrArg (fun l1 => (some (AV.s (.c (lo 21 l1))) : Option AV)) (show b172.2.2.1.length = ((b172.2.2.1.set b172.2.1.toNat x183).set (b172.2.2.2.length : Int).toNat x182).length by simp only [List.length_set])), rfl, rfl, rfl, rfl, trivial⟩ ⟨rfl, rfl, trivial⟩) rfl (fun b221 _ => ?_)
       ·intro s186
        unfold m_spec_l9Reduced_L8
        refine Ws (Ws (Wr ?_))
        refine mv (Iv s186.1) rfl rfl rfl rfl ?_
        refine mv (Cc (lo 21 s186.2.length)) rfl rfl rfl rfl ?_
        refine Op10 (LT.lenLoc rfl und31) rfl rfl rfl ?_
        refine Op20 (LT.lss rfl) rfl rfl rfl rfl ?_
        refine On ?_
        refine AWR.cond rfl (fun hc222 => ?_) (fun hc222 => ?_)
        ·refine AWR.skip (Ws (AWR.block (Ws ?_)))
         refine AWR.joinK (fun j226 => ([(4, (Cc (lo 21 s186.2.length))), (6, (Cc (lo 25 b172.2.2.2.length))), (7, (Iv b172.1)), (9, (Cc (xT encInt x182))), (10, (Iv s186.1)), (98, (Bv j226))], [(21, (pR 37 (encLInt true) s186.2)), (25, (pR 3 encInt b172.2.2.2))])) ?_ (fun j226 _ => ?_)
         ·refine Wr ?_
          refine mv (Iv s186.1) rfl rfl rfl rfl ?_
          refine mv (Cc (lo 25 b172.2.2.2.length)) rfl rfl rfl rfl ?_
          refine Op10 (LT.lenLoc rfl und37) rfl rfl rfl ?_
          refine Op20 (LT.neq rfl) rfl rfl rfl rfl ?_
          refine mv (Bv (s186.1 != (b172.2.2.2.length : Int))) rfl rfl rfl rfl ?_
          refine AOR.split (fun hb227 => ?_) (fun hb227 => ?_)
          ·refine mv (Cc (lo 21 s186.2.length)) rfl rfl ⟨_, rfl, .inl ⟨_, rfl, (by rw [hb227]; rfl)⟩⟩ rfl ?_
           refine mv (Iv s186.1) rfl rfl ⟨_, rfl, .inl ⟨_, rfl, (by rw [hb227]; rfl)⟩⟩ rfl ?_
           refine Ob' fun x228 hx228 => ?_
           refine Op21 (LT.tindexLoc rfl rfl el31 hx228) rfl rfl rfl ⟨_, rfl, .inl ⟨_, rfl, (by rw [hb227]; rfl)⟩⟩ rfl ?_
           refine Op11 (LT.tload1 (k := 0) rfl ag37 hx228 (by exact rfl) (by exact rfl)) rfl rfl ⟨_, rfl, .inl ⟨_, rfl, (by rw [hb227]; rfl)⟩⟩ rfl ?_
           refine mv (Iv b172.1) rfl rfl ⟨_, rfl, .inl ⟨_, rfl, (by rw [hb227]; rfl)⟩⟩ rfl ?_
           refine Ob' fun x229 hx229 => ?_
           refine Op20 (LT.tindexRO (enc := encInt) rfl el37 hx229 sz3) rfl rfl ⟨_, rfl, .inl ⟨_, rfl, (by rw [hb227]; rfl)⟩⟩ rfl ?_
           refine Op10 (LT.loadPx1 rfl ag3) rfl ⟨_, rfl, .inl ⟨_, rfl, (by rw [hb227]; rfl)⟩⟩ rfl ?_
           refine Op20 (LT.neq rfl) rfl ⟨rfl, rfl⟩ ⟨_, rfl, .inl ⟨_, rfl, (by rw [hb227]; rfl)⟩⟩ rfl ?_
           refine Op20 (LT.pickT (v := (Bv (x229 != 0))) rfl hb227) rfl rfl rfl rfl ?_
           refine On ?_
           refine AWR.nil ⟨rfl, Ent.of ⟨rfl, rfl, rfl, rfl, rfl, rfl, trivial⟩ ⟨rfl, rfl, trivial⟩⟩
          ·refine Ok rfl rfl rfl (by rw [hb227]; rfl) rfl ?_
           refine Ok rfl rfl rfl (by rw [hb227]; rfl) rfl ?_
           refine Ok rfl rfl rfl (by rw [hb227]; rfl) rfl ?_
           refine Ok rfl rfl rfl (by rw [hb227]; rfl) rfl ?_
           refine Ok rfl rfl rfl (by rw [hb227]; rfl) rfl ?_
           refine Ok rfl rfl rfl (by rw [hb227]; rfl) rfl ?_
           refine Ok rfl rfl rfl (by rw [hb227]; rfl) rfl ?_
           refine Ok rfl rfl rfl (by rw [hb227]; rfl) rfl ?_
           refine Op20 (LT.pickF (v := (Bv false)) rfl hb227) rfl ⟨rfl, rfl⟩ rfl rfl ?_
           refine On ?_
           refine AWR.nil ⟨rfl, Ent.of ⟨rfl, rfl, rfl, rfl, rfl, rfl, trivial⟩ ⟨rfl, rfl, trivial⟩⟩
         ·refine AWR.joinK (fun j234 => ([(4, (Cc (lo 21 j234.length))), (6, (Cc (lo 25 b172.2.2.2.length))), (7, (Iv b172.1)), (9, (Cc (xT encInt x182))), (10, (Iv s186.1))], [(21, (pR 37 (encLInt true) j234)), (25, (pR 3 encInt b172.2.2.2))])) ?_ (fun j234 _ => ?_)
          ·refine AWR.cond rfl (fun hc235 => ?_) (fun hc235 => ?_)
           ·refine Wr ?_
            refine mv (Cc (lo 21 s186.2.length)) rfl rfl rfl rfl ?_
            refine mv (Iv s186.1) rfl rfl rfl rfl ?_
            refine mv (Cc (lo 21 s186.2.length)) rfl rfl rfl rfl ?_
            refine mv (Iv s186.1) rfl rfl rfl rfl ?_
            refine Ob' fun x236 hx236 => ?_
            refine Op21 (LT.tindexLoc rfl rfl el31 hx236) rfl rfl rfl rfl rfl ?_
            refine Op11 (LT.tload1 (k := 0) rfl ag37 hx236 (by exact rfl) (by exact rfl)) rfl rfl rfl rfl ?_
            refine mv (Cc (xT encInt x182)) rfl rfl rfl rfl ?_
            refine mv (Iv b172.1) rfl rfl rfl rfl ?_
            refine Ob' fun r237 hr237 => ?_
            refine AOR.step (@LT.callF Try.prog _ _ 218 _ _ [(.c (xT encInt x236)), (.c (xT encInt x182)), (.c (iC b172.1))] _ _ [] _ _ _ _ ((show Fw.Fn Try.prog 218 [(.c (xF encInt x236)), (.c (xF encInt x182)), (.c (iC b172.1))] [] (Cc (lo 27 r237.length)) [(27, (pR 3 encInt r237))] [] [27] from Fw.Fn.ren [(0, 27)] (w_spec_l9Without x236 x182 b172.1 r237 hr237) rfl)) rfl cb218 (.cons (.c (.weak (.same rfl) (QW.xsm qw_encInt (fun h => by cases h) _))) (.cons (.c (.weak (.same rfl) (QW.xsm qw_encInt (fun h => by cases h) _))) (.cons (.c (.same rfl)) .nil))) rfl rfl trivial) ⟨rfl, rfl, rfl, rfl, trivial⟩ trivial rfl rfl ?_
            refine Ob' fun x238 hx238 => ?_
            refine Op21 (LT.tindexLoc rfl rfl el31 hx238) rfl rfl rfl rfl rfl ?_
            refine AOR.ent (Ent.freezeS (enc := encInt) 107 27 hU rfl rfl rfl rfl) ?_
            refine Os21 (LT.tstore (k := 0) (v := (.c (xT encInt r237))) (b' := r237) rfl rfl (infS inf37) sz37 (by exact rfl) hx238 (by exact rfl) (by exact Nat.le_of_ble_eq_true rfl) (by exact rfl)) rfl rfl rfl rfl rfl ?_
            refine On ?_
            refine AWR.nil ⟨rfl, Ent.of ⟨(congrArg (fun l1 => (some (AV.s (.c (lo 21 l1))) : Option AV)) (show s186.2.length = (s186.2.set s186.1.toNat r237).length by simp only [List.length_set])), rfl, rfl, rfl, rfl, trivial⟩ ⟨rfl, rfl, trivial⟩⟩
           ·refine AWR.skip ?_
            refine AWR.nil ⟨rfl, Ent.of ⟨rfl, rfl, rfl, rfl, rfl, trivial⟩ ⟨rfl, rfl, trivial⟩⟩
          ·refine AWR.blk (Wr ?_)
           refine mv (Iv s186.1) rfl rfl rfl rfl ?_
           refine Op20 (LT.add rfl) rfl ⟨rfl, rfl⟩ rfl rfl ?_
           refine asg (Iv (w64 (s186.1 + 1))) rfl rfl rfl rfl ?_
           refine On ?_
           refine AWR.nil ⟨rfl, Ent.of ⟨rfl, rfl, rfl, rfl, rfl, trivial⟩ ⟨rfl, rfl, trivial⟩⟩
        ·refine AWR.exit_end rfl ⟨rfl, Ent.of ⟨rfl, rfl, rfl, trivial⟩ ⟨rfl, rfl, trivial⟩⟩
       ·refine Wr ?_
        refine mv (Cc (lo 25 b221.2.2.length)) rfl rfl rfl rfl ?_
        refine mv (Iv b221.1) rfl rfl rfl rfl ?_
        refine Os10 (LT.tbuildSlice (n := 28) (enc := encInt) [(0, .tmp 110, (.c (iC b221.1)))] ([b221.1] : List Int) rfl rfl und37 ti3 rfl rfl rfl rfl (by decide) (fun _ => rfl) rfl) rfl rfl rfl ?_
        refine Ob' fun u239 hu239 => ?_
        refine Os22 (LT.tappP (enc := encInt) rfl rfl rfl und37 ti3 rfl (by decide) (by decide) (fun _ => rfl) (lim_le hu239)) rfl rfl rfl rfl rfl rfl ?_
        refine asg (Cc (lo 25 ((b221.2.2 ++ ([b221.1] : List Int)).length))) rfl rfl rfl rfl ?_
        refine On (AWR.blk (Wr ?_))
        refine mv (Iv b221.1) rfl rfl rfl rfl ?_
        refine Op20 (LT.add rfl) rfl ⟨rfl, rfl⟩ rfl rfl ?_
        refine asg (Iv (w64 (b221.1 + 1))) rfl rfl rfl rfl ?_
        refine On ?_
        refine AWR.nil ⟨rfl, Ent.of ⟨rfl, rfl, rfl, trivial⟩ ⟨rfl, rfl, trivial⟩⟩
    ·refine AWR.exit_end rfl ⟨rfl, Ent.of ⟨rfl, rfl, trivial⟩ ⟨rfl, rfl, trivial⟩⟩
  ·refine Ws (Wr ?_)
   refine mv (Cc (lo 21 b148.1.length)) rfl rfl rfl rfl ?_
   refine mv (Cc (lo 25 b148.2.length)) rfl rfl rfl rfl ?_
   refine asg (Cc (lo 21 b148.1.length)) rfl rfl rfl rfl ?_
   refine asg (Cc (lo 25 b148.2.length)) rfl rfl rfl rfl ?_
   refine On ?_
   refine en [(2, (Cc (lo 21 b148.1.length))), (3, (Cc (lo 25 b148.2.length)))] [(21, (pR 37 (encLInt true) b148.1)), (25, (pR 3 encInt b148.2))] ⟨rfl, rfl, trivial⟩ ⟨rfl, rfl, trivial⟩ ?_
   refine AWR.ent (Ent.mv 21 0 rfl rfl) ?_
   refine AWR.ent (Ent.mv 25 1 rfl rfl) ?_
   refine en [(2, (Cc (lo 0 b148.1.length))), (3, (Cc (lo 1 b148.2.length)))] [(0, (pR 37 (encLInt true) b148.1)), (1, (pR 3 encInt b148.2))] ⟨rfl, rfl, trivial⟩ ⟨rfl, rfl, trivial⟩ ?_
   refine AWR.ret (FPost.mk (.inr rfl) ⟨rfl, rfl, trivial⟩ ⟨rfl, rfl, trivial⟩ rfl ⟨trivial, trivial, trivial⟩ ⟨PermO.prow' perm_encLInt, PermO.prow' perm_encInt, trivial⟩)
end Go.Proofs.Ytghofbijdnenoaa
end
section
set_option linter.unusedVariables false
set_option linter.unusedSimpArgs false
set_option linter.unnecessarySimpa false
set_option maxRecDepth 100000
set_option maxHeartbeats 8000000
open Go Go.Fw
namespace Go.Proofs.Ytghofbijdnenoaa
theorem w_impl_rank (m : (List (List Int))) (columns : Int) : ∀ t, m_impl_rank m columns = some t → Fw.Fn Try.prog 143 [(.c (xF (encLInt false) m)), (.c (iC columns))] [] (.s (.c (iC t))) [] [] [] := by
 refine Fw.Fn.of (P := Try.prog) (X := []) (pn := []) (rs := (fun (t : Int) => [(.c (iC t))])) (dfs := (fun (t : Int) => [])) Try.func143 rfl Try.ntmps143 (Nat.le_of_ble_eq_true rfl) rfl ?_
 intro w0 U0 R0 g0
 unfold m_impl_rank
 refine Ws (Wr ?_)
 refine asg (Iv 0) rfl ⟨rfl, rfl⟩ rfl rfl ?_
 refine On (Ws (Wr ?_))
 refine mv (Cc (xF (encLInt false) m)) rfl rfl rfl rfl ?_
 refine mv (Iv columns) rfl rfl rfl rfl ?_
 refine Ob' fun r1 hr1 => ?_
 refine AOR.step (@LT.callF Try.prog _ _ 202 _ _ [(.c (xF (encLInt false) m)), (.c (iC columns))] _ _ [] _ _ _ _ ((show Fw.Fn Try.prog 202 [(.c (xF (encLInt false) m)), (.c (iC columns))] [] (.tup [(.c (lo 22 r1.1.length)), (.c (lo 24 r1.2.1.length)), (.c (iC r1.2.2))]) [(22, (.trow 37 23 (lensOf r1.1))), (23, (.pool 3 (rowsOf encInt r1.1))), (24, (pR 3 encInt r1.2.1))] [] [22, 23, 24] from Fw.Fn.ren [(0, 22), (1, 23), (2, 24)] (w_impl_reduced m columns r1 hr1) rfl)) rfl cb202 (.cons (.c (.same rfl)) (.cons (.c (.same rfl)) .nil)) rfl rfl trivial) ⟨rfl, rfl, rfl, trivial⟩ trivial rfl rfl ?_
 refine mv (.tup [(.c (lo 22 r1.1.length)), (.c (lo 24 r1.2.1.length)), (.c (iC r1.2.2))]) rfl rfl rfl rfl ?_
 refine Op10 (LT.extract (v := (.c (lo 22 r1.1.length))) rfl (by exact rfl)) rfl rfl rfl ?_
 refine Op10 (LT.extract (v := (.c (lo 24 r1.2.1.length))) rfl (by exact rfl)) rfl rfl rfl ?_
 refine Op10 (LT.extract (v := (.c (iC r1.2.2))) rfl (by exact rfl)) rfl rfl rfl ?_
 refine asg (Cc (lo 22 r1.1.length)) rfl rfl rfl rfl ?_
 refine asg (Cc (lo 24 r1.2.1.length)) rfl rfl rfl rfl ?_
 refine asg (Iv r1.2.2) rfl rfl rfl rfl ?_
 refine On (Ws ?_)
 refine en [(6, (Cc (lo 24 r1.2.1.length)))] [(24, (pR 3 encInt r1.2.1))] ⟨rfl, trivial⟩ ⟨rfl, trivial⟩ ?_
 refine Wr ?_
 refine mv (Cc (lo 24 r1.2.1.length)) rfl rfl rfl rfl ?_
 refine Op10 (LT.lenLoc rfl und37) rfl rfl rfl ?_
 refine asg (Iv (r1.2.1.length : Int)) rfl rfl rfl rfl ?_
 refine On ?_
 refine AWR.ret (FPost.mk (.inr rfl) ⟨rfl, trivial⟩ trivial rfl ⟨PermP.sc, trivial⟩ trivial)
theorem w_impl_FrameworkRank (f : TFramework) : ∀ t, m_impl_FrameworkRank f = some t → Fw.Fn Try.prog 57 [(.agg [(iC f.Graph.Points), (xF encTBar f.Graph.Bars), (xF encTPlace f.Places)])] [] (.s (.c (iC t))) [] [] [] := by
 refine Fw.Fn.of (P := Try.prog) (X := []) (pn := []) (rs := (fun (t : Int) => [(.c (iC t))])) (dfs := (fun (t : Int) => [])) Try.func57 rfl Try.ntmps57 (Nat.le_of_ble_eq_true rfl) rfl ?_
 intro w0 U0 R0 g0
 unfold m_impl_FrameworkRank
 refine Ws (Wr ?_)
 refine Os10 (LT.box (n := 21) (v := (.agg [(iC f.Graph.Points), (xF encTBar f.Graph.Bars), (xF encTPlace f.Places)])) rfl sz29 (by exact rfl)) rfl rfl rfl ?_
 refine asg (Iv 0) rfl ⟨rfl, rfl⟩ rfl rfl ?_
 refine On (Ws (Ws (Wr ?_)))
 refine Op11 (LT.bloadN (out := [(iC f.Graph.Points), (xF encTBar f.Graph.Bars), (xF encTPlace f.Places)]) rfl ag29 (infS inf29) sz29 (by exact rfl) (by exact rfl)) rfl rfl rfl rfl ?_
 refine Ob' fun r1 hr1 => ?_
 refine AOR.pure (@LT.callF Try.prog _ _ 80 _ _ [(.agg [(iC f.Graph.Points), (xF encTBar f.Graph.Bars), (xF encTPlace f.Places)])] _ _ [] _ _ _ _ (w_impl_IsFramework f r1 hr1) rfl cb80 (.cons (.agg (.cons (.same rfl) (.cons (.same rfl) (.cons (.same rfl) .nil)))) .nil) rfl rfl trivial) ⟨rfl, rfl, trivial⟩ trivial rfl rfl ?_
 refine Op10 (LT.not rfl) rfl rfl rfl ?_
 refine On ?_
 refine AWR.cond rfl (fun hc2 => ?_) (fun hc2 => ?_)
 ·refine Ws (Wr ?_)
  refine asg (Iv (-1)) rfl ⟨rfl, rfl⟩ rfl rfl ?_
  refine On ?_
  refine AWR.ret (FPost.mk (.inr rfl) ⟨rfl, trivial⟩ trivial rfl ⟨PermP.sc, trivial⟩ trivial)
 ·refine AWR.skip (Ws (AWR.draw mixed ?_))
  refine Dp11 (LT.bloadN (out := [(iC f.Graph.Points), (xF encTBar f.Graph.Bars), (xF encTPlace f.Places)]) rfl ag29 (infS inf29) sz29 (by exact rfl) (by exact rfl)) rfl rfl rfl rfl ?_
  refine AOD.bind fun r3 hr3 => ?_
  refine AOD.step (@LT.callF Try.prog _ _ 44 _ _ [(.agg [(iC f.Graph.Points), (xF encTBar f.Graph.Bars), (xF encTPlace f.Places)])] _ _ [] _ _ _ _ ((show Fw.Fn Try.prog 44 [(.agg [(iC f.Graph.Points), (xF encTBar f.Graph.Bars), (xF encTPlace f.Places)])] [] (Cc (lo 24 r3.length)) [(24, (.trow 37 25 (lensOf r3))), (25, (.pool 3 (rowsOf encInt r3)))] [] [24, 25] from Fw.Fn.ren [(0, 24), (1, 25)] (w_impl_RigidityMatrix f r3 hr3) rfl)) rfl cb44 (.cons (.agg (.cons (.same rfl) (.cons (.same rfl) (.cons (.same rfl) .nil)))) .nil) rfl rfl trivial) ⟨rfl, rfl, trivial⟩ trivial rfl rfl ?_
  refine Dp10 (LT.fieldPl rfl fo29_0) rfl rfl rfl ?_
  refine Dp10 (LT.fieldPl rfl fo26_0) rfl rfl rfl ?_
  refine Dp11 (LT.bload1 (c := (iC f.Graph.Points)) rfl ag3 (by exact rfl)) rfl rfl rfl rfl ?_
  refine Dp20 (LT.mul rfl) ⟨rfl, rfl⟩ rfl rfl rfl ?_
  refine AOD.bind fun r4 hr4 => ?_
  refine AOD.pure (@LT.callF Try.prog _ _ 143 _ _ [(.c (lo 24 r3.length)), (.c (iC (w64 (2 * f.Graph.Points))))] _ _ [(24, (.trow 37 25 (lensOf r3))), (25, (.pool 3 (rowsOf encInt r3)))] _ _ _ _ (w_impl_rank r3 (w64 (2 * f.Graph.Points)) r4 hr4) rfl cb143 (.cons (.c (.ttrow rfl rfl rfl (fun _ => rfl))) (.cons (.c (.same rfl)) .nil)) rfl rfl trivial) ⟨rfl, rfl, rfl, trivial⟩ ⟨rfl, rfl, trivial⟩ rfl rfl ?_
  refine Dp10 (LT.assign (v := (Iv r4)) rfl) rfl rfl rfl ?_
  refine AOD.nil (by kernel_rfl) ?_
  refine AWR.ret (FPost.mk (.inr rfl) ⟨rfl, trivial⟩ trivial rfl ⟨PermP.sc, trivial⟩ trivial)
theorem w_spec_FrameworkRank (f : TFramework) : ∀ t, m_spec_FrameworkRank f = some t → Fw.Fn Try.prog 58 [(.agg [(iC f.Graph.Points), (xF encTBar f.Graph.Bars), (xF encTPlace f.Places)])] [] (.s (.c (iC t))) [] [] [] := by
 refine Fw.Fn.of (P := Try.prog) (X := []) (pn := []) (rs := (fun (t : Int) => [(.c (iC t))])) (dfs := (fun (t : Int) => [])) Try.func58 rfl Try.ntmps58 (Nat.le_of_ble_eq_true rfl) rfl ?_
 intro w0 U0 R0 g0
 unfold m_spec_FrameworkRank
 refine Ws (Wr ?_)
 refine Os10 (LT.box (n := 21) (v := (.agg [(iC f.Graph.Points), (xF encTBar f.Graph.Bars), (xF encTPlace f.Places)])) rfl sz29 (by exact rfl)) rfl rfl rfl ?_
 refine asg (Iv 0) rfl ⟨rfl, rfl⟩ rfl rfl ?_
 refine On (Ws (Ws (Wr ?_)))
 refine Op11 (LT.bloadN (out := [(iC f.Graph.Points), (xF encTBar f.Graph.Bars), (xF encTPlace f.Places)]) rfl ag29 (infS inf29) sz29 (by exact rfl) (by exact rfl)) rfl rfl rfl rfl ?_
 refine Ob' fun r1 hr1 => ?_
 refine AOR.pure (@LT.callF Try.prog _ _ 15 _ _ [(.agg [(iC f.Graph.Points), (xF encTBar f.Graph.Bars), (xF encTPlace f.Places)])] _ _ [] _ _ _ _ (w_spec_IsFramework f r1 hr1) rfl cb15 (.cons (.agg (.cons (.same rfl) (.cons (.same rfl) (.cons (.same rfl) .nil)))) .nil) rfl rfl trivial) ⟨rfl, rfl, trivial⟩ trivial rfl rfl ?_
 refine Op10 (LT.not rfl) rfl rfl rfl ?_
 refine On ?_
 refine AWR.cond rfl (fun hc2 => ?_) (fun hc2 => ?_)
 ·refine Ws (Wr ?_)
  refine asg (Iv (-1)) rfl ⟨rfl, rfl⟩ rfl rfl ?_
  refine On ?_
  refine AWR.ret (FPost.mk (.inr rfl) ⟨rfl, trivial⟩ trivial rfl ⟨PermP.sc, trivial⟩ trivial)
 ·refine AWR.skip (Ws (Wr ?_))
  refine Op11 (LT.bloadN (out := [(iC f.Graph.Points), (xF encTBar f.Graph.Bars), (xF encTPlace f.Places)]) rfl ag29 (infS inf29) sz29 (by exact rfl) (by exact rfl)) rfl rfl rfl rfl ?_
  refine Ob' fun r3 hr3 => ?_
  refine AOR.step (@LT.callF Try.prog _ _ 46 _ _ [(.agg [(iC f.Graph.Points), (xF encTBar f.Graph.Bars), (xF encTPlace f.Places)])] _ _ [] _ _ _ _ ((show Fw.Fn Try.prog 46 [(.agg [(iC f.Graph.Points), (xF encTBar f.Graph.Bars), (xF encTPlace f.Places)])] [] (Cc (lo 24 r3.length)) [(24, (pR 37 (encLInt true) r3))] [] [24] from Fw.Fn.ren [(0, 24)] (w_spec_RigidityMatrix f r3 hr3) rfl)) rfl cb46 (.cons (.agg (.cons (.same rfl) (.cons (.same rfl) (.cons (.same rfl) .nil)))) .nil) rfl rfl trivial) ⟨rfl, rfl, trivial⟩ trivial rfl rfl ?_
  refine Ob' fun r4 hr4 => ?_
  refine AOR.step (@LT.callF Try.prog _ _ 144 _ _ [(.c (lo 24 r3.length))] _ _ [(24, (pR 37 (encLInt true) r3))] _ _ _ _ ((show Fw.Fn Try.prog 144 [(.c (xF (encLInt false) r3))] [] (.tup [(.c (lo 26 r4.1.length)), (.c (lo 27 r4.2.length))]) [(26, (pR 37 (encLInt true) r4.1)), (27, (pR 3 encInt r4.2))] [] [26, 27] from Fw.Fn.ren [(0, 26), (1, 27)] (w_spec_l9Reduced r3 r4 hr4) rfl)) rfl cb144 (.cons (.c (.weak (.tloc (enc := encLInt true) rfl rfl) (QW.xsm qw_encLInt (fun h => h) _))) .nil) rfl rfl trivial) ⟨rfl, rfl, trivial⟩ ⟨rfl, trivial⟩ rfl rfl ?_
  refine mv (.tup [(.c (lo 26 r4.1.length)), (.c (lo 27 r4.2.length))]) rfl rfl rfl rfl ?_
  refine Op10 (LT.extract (v := (.c (lo 26 r4.1.length))) rfl (by exact rfl)) rfl rfl rfl ?_
  refine Op10 (LT.extract (v := (.c (lo 27 r4.2.length))) rfl (by exact rfl)) rfl rfl rfl ?_
  refine asg (Cc (lo 26 r4.1.length)) rfl rfl rfl rfl ?_
  refine asg (Cc (lo 27 r4.2.length)) rfl rfl rfl rfl ?_
  refine On (Ws ?_)
  refine en [(4, (Cc (lo 27 r4.2.length)))] [(27, (pR 3 encInt r4.2))] ⟨rfl, trivial⟩ ⟨rfl, trivial⟩ ?_
  refine Wr ?_
  refine mv (Cc (lo 27 r4.2.length)) rfl rfl rfl rfl ?_
  refine Op10 (LT.lenLoc rfl und37) rfl rfl rfl ?_
  refine asg (Iv (r4.2.length : Int)) rfl rfl rfl rfl ?_
  refine On ?_
  refine AWR.ret (FPost.mk (.inr rfl) ⟨rfl, trivial⟩ trivial rfl ⟨PermP.sc, trivial⟩ trivial)
end Go.Proofs.Ytghofbijdnenoaa
end
section
set_option linter.unusedVariables false
set_option linter.unusedSimpArgs false
set_option linter.unnecessarySimpa false
set_option maxRecDepth 100000
set_option maxHeartbeats 8000000
open Go Go.Fw
namespace Go.Proofs.Ytghofbijdnenoaa
theorem w_impl_Bar_other (x : TBar) (v : Int) : ∀ t, m_impl_Bar_other x v = some t → Fw.Fn Try.prog 120 [(.agg [(iC x.A), (iC x.B)]), (.c (iC v))] [] (.s (.c (iC t))) [] [] [] := by
 refine Fw.Fn.of (P := Try.prog) (X := []) (pn := []) (rs := (fun (t : Int) => [(.c (iC t))])) (dfs := (fun (t : Int) => [])) Try.func120 rfl Try.ntmps120 (Nat.le_of_ble_eq_true rfl) rfl ?_
 intro w0 U0 R0 g0
 unfold m_impl_Bar_other
 refine Ws (Wr ?_)
 refine Os10 (LT.box (n := 21) (v := (.agg [(iC x.A), (iC x.B)])) rfl sz62 (by exact rfl)) rfl rfl rfl ?_
 refine asg (Iv 0) rfl ⟨rfl, rfl⟩ rfl rfl ?_
 refine On (Ws (Ws (Wr ?_)))
 refine Op10 (LT.fieldPl rfl fo62_0) rfl rfl rfl ?_
 refine Op11 (LT.bload1 (c := (iC x.A)) rfl ag3 (by exact rfl)) rfl rfl rfl rfl ?_
 refine mv (Iv v) rfl rfl rfl rfl ?_
 refine Op20 (LT.eql rfl) rfl rfl rfl rfl ?_
 refine On ?_
 refine AWR.cond rfl (fun hc1 => ?_) (fun hc1 => ?_)
 ·refine Ws (Wr ?_)
  refine Op10 (LT.fieldPl rfl fo62_1) rfl rfl rfl ?_
  refine Op11 (LT.bload1 (c := (iC x.B)) rfl ag3 (by exact rfl)) rfl rfl rfl rfl ?_
  refine asg (Iv x.B) rfl rfl rfl rfl ?_
  refine On ?_
  refine AWR.ret (FPost.mk (.inr rfl) ⟨rfl, trivial⟩ trivial rfl ⟨PermP.sc, trivial⟩ trivial)
 ·refine AWR.skip (Ws (Wr ?_))
  refine Op10 (LT.fieldPl rfl fo62_0) rfl rfl rfl ?_
  refine Op11 (LT.bload1 (c := (iC x.A)) rfl ag3 (by exact rfl)) rfl rfl rfl rfl ?_
  refine asg (Iv x.A) rfl rfl rfl rfl ?_
  refine On ?_
  refine AWR.ret (FPost.mk (.inr rfl) ⟨rfl, trivial⟩ trivial rfl ⟨PermP.sc, trivial⟩ trivial)
theorem w_spec_l4Other (b : TBar) (v : Int) : ∀ t, m_spec_l4Other b v = some t → Fw.Fn Try.prog 123 [(.agg [(iC b.A), (iC b.B)]), (.c (iC v))] [] (.s (.c (iC t))) [] [] [] := by
 refine Fw.Fn.of (P := Try.prog) (X := []) (pn := []) (rs := (fun (t : Int) => [(.c (iC t))])) (dfs := (fun (t : Int) => [])) Try.func123 rfl Try.ntmps123 (Nat.le_of_ble_eq_true rfl) rfl ?_
 intro w0 U0 R0 g0
 unfold m_spec_l4Other
 refine Ws (Wr ?_)
 refine Os10 (LT.box (n := 21) (v := (.agg [(iC b.A), (iC b.B)])) rfl sz62 (by exact rfl)) rfl rfl rfl ?_
 refine asg (Iv 0) rfl ⟨rfl, rfl⟩ rfl rfl ?_
 refine On (Ws (Wr ?_))
 refine Op10 (LT.fieldPl rfl fo62_0) rfl rfl rfl ?_
 refine Op11 (LT.bload1 (c := (iC b.A)) rfl ag3 (by exact rfl)) rfl rfl rfl rfl ?_
 refine Op10 (LT.fieldPl rfl fo62_1) rfl rfl rfl ?_
 refine Op11 (LT.bload1 (c := (iC b.B)) rfl ag3 (by exact rfl)) rfl rfl rfl rfl ?_
 refine Op20 (LT.add rfl) rfl rfl rfl rfl ?_
 refine mv (Iv v) rfl rfl rfl rfl ?_
 refine Op20 (LT.sub rfl) rfl rfl rfl rfl ?_
 refine asg (Iv (w64 ((w64 (b.A + b.B)) - v))) rfl rfl rfl rfl ?_
 refine On ?_
 refine AWR.ret (FPost.mk (.inr rfl) ⟨rfl, trivial⟩ trivial rfl ⟨PermP.sc, trivial⟩ trivial)
end Go.Proofs.Ytghofbijdnenoaa
end
