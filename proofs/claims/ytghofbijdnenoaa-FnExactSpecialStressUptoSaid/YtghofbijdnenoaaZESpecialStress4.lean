/- Parts of a proof that a law of the program holds: what the program computes, and why that is right. -/
import Derived.Test.YtghofbijdnenoaaZESpecialStress3
section
set_option linter.unusedVariables false
set_option linter.unusedSimpArgs false
set_option linter.unnecessarySimpa false
set_option maxRecDepth 100000
set_option maxHeartbeats 8000000
open Go Go.Fw
namespace Go.Proofs.Ytghofbijdnenoaa
theorem w_impl_IsFramework (f : TFramework) : ∀ t,m_impl_IsFramework f = some t → Fw.Fn Try.prog 80 [(.agg [(iC f.Graph.Points),(xF encTBar f.Graph.Bars),(xF encTPlace f.Places)])] [] (.s (.c (bC t))) [] [] [] := by
 refine Fw.Fn.of (P := Try.prog) (X := []) (pn := []) (rs := (fun (t : Bool) => [(.c (bC t))])) (dfs := (fun (t : Bool) => [])) Try.func80 Q Try.ntmps80 (K Q) Q ?_
 intro w0 U0 R0 g0
 unfold m_impl_IsFramework
 refine Ws (Wr ?_)
 refine Os10 (LT.box (n := 21) (v := (.agg [(iC f.Graph.Points),(xF encTBar f.Graph.Bars),(xF encTPlace f.Places)])) Q sz29 (by exact Q)) Q Q Q (asg (Bv false) Q y2 Q Q (On (Ws (Wr ?_))))
 refine Op10 (LT.fieldPl Q fo29_0) Q Q Q (Op11 (LT.bloadN (out := [(iC f.Graph.Points),(xF encTBar f.Graph.Bars)]) Q ag26 (infS inf26) sz26 (by exact Q) (by exact Q)) Q Q Q Q (Os00 (LT.alloc (n := 22) (cells := [(iC 0),(sC nilV)]) Q ti26 Q Q Q) Q Q (Os21 (LT.bstore (v := (.agg [(iC f.Graph.Points),(xF encTBar f.Graph.Bars)])) (out := [(iC f.Graph.Points),(xF encTBar f.Graph.Bars)]) Q Q (infS inf26) sz26 (by exact Q) (by exact K Q) (by exact Q)) Q Q Q Q Q (On (Ws (Ws ?_))))))
 refine AWR.joinK (fun j5 => ([(1,(Cc (.pl 21 0))),(3,(Cc (.pl 22 0))),(31,(Bv j5))],[(21,(.row 29 [[(iC f.Graph.Points),(xF encTBar f.Graph.Bars),(xF encTPlace f.Places)]])),(22,(.row 26 [[(iC f.Graph.Points),(xF encTBar f.Graph.Bars)]]))])) ?_ (fun j5 _ => ?_)
 ·refine en [(1,(Cc (.pl 21 0))),(3,(Cc (.pl 22 0)))] [(21,(.row 29 [[(iC f.Graph.Points),(xF encTBar f.Graph.Bars),(xF encTPlace f.Places)]])),(22,(.row 26 [[(iC f.Graph.Points),(xF encTBar f.Graph.Bars)]]))] z2 z2 (Wr (Op11 (LT.bloadN (out := [(iC f.Graph.Points),(xF encTBar f.Graph.Bars)]) Q ag26 (infS inf26) sz26 (by exact Q) (by exact Q)) Q Q Q Q (Ob' fun r6 hr6 => (AOR.pure (@LT.callF Try.prog _ _ 173 _ _ [(.agg [(iC f.Graph.Points),(xF encTBar f.Graph.Bars)])] _ _ [] _ _ _ _ (w_impl_IsGraph f.Graph r6 hr6) Q cb173 (.cons (.agg (.cons (.same Q) (.cons (.same Q) .nil))) .nil) Q Q J) z2 J Q Q (Op10 (LT.not Q) Q Q Q (mv (Bv (!r6)) Q Q Q Q (AOR.split (fun hb7 => ?_) (fun hb7 => ?_))))))))
  ·refine Ok Q Q Q (by rw [hb7]; rfl) Q (Ok Q Q Q (by rw [hb7]; rfl) Q (Ok Q Q Q (by rw [hb7]; rfl) Q (Op20 (LT.pickT (v := (Bv true)) Q hb7) Q y2 Q Q (mv (Bv true) Q Q Q Q (Ok Q Q Q Q Q (Ok Q Q Q Q Q (Ok Q Q Q Q Q (Ok Q Q Q Q Q (Op20 (LT.pickT (v := (Bv true)) Q Q) Q y2 Q Q (mv (Bv true) Q Q Q Q (Ok Q Q Q Q Q ?_)))))))))))
   refine Ok Q Q Q Q Q (Ok Q Q Q Q Q (Ok Q Q Q Q Q (Ok Q Q Q Q Q (Ok Q Q Q Q Q (Op20 (LT.pickT (v := (Bv true)) Q Q) Q y2 Q Q (On (AWR.nil ⟨Q,Ent.of z3 z2⟩)))))))
  ·refine Op10 (LT.fieldPl Q fo26_0) Q (gH hb7 Q Q) Q (Op11 (LT.bload1 (c := (iC f.Graph.Points)) Q ag3 (by exact Q)) Q Q (gH hb7 Q Q) Q (Op20 (LT.gtr Q) Q y2 (gH hb7 Q Q) Q (Op20 (LT.pickF (v := (Bv (decide (6 < f.Graph.Points)))) Q hb7) Q Q Q Q (mv (Bv (decide (6 < f.Graph.Points))) Q Q Q Q (AOR.split (fun hb8 => ?_) (fun hb8 => ?_))))))
   ·refine Ok Q Q Q (by rw [hb8]; rfl) Q (Ok Q Q Q (by rw [hb8]; rfl) Q (Ok Q Q Q (by rw [hb8]; rfl) Q (Ok Q Q Q (by rw [hb8]; rfl) Q (Op20 (LT.pickT (v := (Bv true)) Q hb8) Q y2 Q Q (mv (Bv true) Q Q Q Q (Ok Q Q Q Q Q (Ok Q Q Q Q Q (Ok Q Q Q Q Q (Ok Q Q Q Q Q (Ok Q Q Q Q Q (Ok Q Q Q Q Q ?_)))))))))))
    refine Op20 (LT.pickT (v := (Bv true)) Q Q) Q y2 Q Q (On (AWR.nil ⟨Q,Ent.of z3 z2⟩))
   ·refine Op10 (LT.fieldPl Q fo26_1) Q (gH hb8 Q Q) Q (Op11 (LT.bload1 (c := (xF encTBar f.Graph.Bars)) Q ag24 (by exact Q)) Q Q (gH hb8 Q Q) Q (Op10 (LT.tlenRO Q und24) Q (gH hb8 Q Q) Q (Op20 (LT.gtr Q) Q y2 (gH hb8 Q Q) Q (Op20 (LT.pickF (v := (Bv (decide (15 < (f.Graph.Bars.length : Int))))) Q hb8) Q Q Q Q (mv (Bv (decide (15 < (f.Graph.Bars.length : Int)))) Q Q Q Q (AOR.split (fun hb9 => ?_) (fun hb9 => ?_)))))))
    ·refine Ok Q Q Q (by rw [hb9]; rfl) Q (Ok Q Q Q (by rw [hb9]; rfl) Q (Ok Q Q Q (by rw [hb9]; rfl) Q (Ok Q Q Q (by rw [hb9]; rfl) Q (Ok Q Q Q (by rw [hb9]; rfl) Q (Ok Q Q Q (by rw [hb9]; rfl) Q (Op20 (LT.pickT (v := (Bv true)) Q hb9) Q y2 Q Q (On (AWR.nil ⟨Q,Ent.of z3 z2⟩))))))))
    ·refine Op10 (LT.fieldPl Q fo29_1) Q (gH hb9 Q Q) Q (Op11 (LT.bload1 (c := (xF encTPlace f.Places)) Q ag27 (by exact Q)) Q Q (gH hb9 Q Q) Q (Op10 (LT.tlenRO Q und27) Q (gH hb9 Q Q) Q (Op10 (LT.fieldPl Q fo26_0) Q (gH hb9 Q Q) Q (Op11 (LT.bload1 (c := (iC f.Graph.Points)) Q ag3 (by exact Q)) Q Q (gH hb9 Q Q) Q (Op20 (LT.neq Q) Q Q (gH hb9 Q Q) Q (Op20 (LT.pickF (v := (Bv ((f.Places.length : Int) != f.Graph.Points))) Q hb9) Q Q Q Q (On (AWR.nil ⟨Q,Ent.of z3 z2⟩))))))))
 ·refine AWR.cond Q (fun hc10 => ?_) (fun hc10 => ?_)
  ·refine Ws (Wr ?_)
   refine asg (Bv false) Q y2 Q Q (On (AWR.ret (FPost.mk (.inr Q) z1 J Q ⟨PermP.sc,J⟩ J)))
  ·refine AWR.skip (Ws (Ws (Wr ?_)))
   refine Op10 (LT.fieldPl Q fo29_1) Q Q Q (Op11 (LT.bload1 (c := (xF encTPlace f.Places)) Q ag27 (by exact Q)) Q Q Q Q (Op10 (LT.tlenRO Q und27) Q Q Q (mv (Iv 0) Q y2 Q Q (On (AWR.block ?_)))))
   refine AWR.loopR (id := 0) (m_impl_IsFramework_L1 f) (fun s11 => ([(1,(Cc (.pl 21 0))),(3,(Cc (.pl 22 0))),(33,(Cc (xF encTPlace f.Places))),(34,(Iv (f.Places.length : Int))),(35,(Iv s11))],[(21,(.row 29 [[(iC f.Graph.Points),(xF encTBar f.Graph.Bars),(xF encTPlace f.Places)]])),(22,(.row 26 [[(iC f.Graph.Points),(xF encTBar f.Graph.Bars)]]))])) (fun b20 => ([(1,(Cc (.pl 21 0))),(3,(Cc (.pl 22 0)))],[(21,(.row 29 [[(iC f.Graph.Points),(xF encTBar f.Graph.Bars),(xF encTPlace f.Places)]])),(22,(.row 26 [[(iC f.Graph.Points),(xF encTBar f.Graph.Bars)]]))])) (FPost Try.prog Try.f80.results.toList [] [] (fun (t : Bool) => [(.c (bC t))]) (fun (t : Bool) => [])) ?_ (Ent.of z5 z2) Q (fun b20 _ => ?_) (by intro r t σ m ht hk; injection ht with ht; subst ht; exact hk)
   ·intro s11
    unfold m_impl_IsFramework_L1
    refine Ws (Wr ?_)
    refine Op20 (LT.lss Q) Q Q Q Q (On (Ws ?_))
    refine AWR.cond Q (fun hc21 => ?_) (fun hc21 => ?_)
    ·refine AWR.skip (Ws (AWR.block (Ws (Wr ?_))))
     refine Ob' fun x22 hx22 => (Op20 (LT.tindexRO (enc := encTPlace) Q el27 hx22 sz94) Q Q Q Q (Op10 (LT.loadPxN Q ag94 (infS inf94) (by exact sz94.symm)) Q Q Q (Os00 (LT.alloc (n := 24) (cells := [(iC 0),(iC 0)]) Q ti94 Q Q Q) Q Q (Os21 (LT.bstore (v := (.agg [(iC x22.X),(iC x22.Y)])) (out := [(iC x22.X),(iC x22.Y)]) Q Q (infS inf94) sz94 (by exact Q) (by exact K Q) (by exact Q)) Q Q Q Q Q (On (Ws (Wr ?_)))))))
     refine Op11 (LT.bloadN (out := [(iC x22.X),(iC x22.Y)]) Q ag94 (infS inf94) sz94 (by exact Q) (by exact Q)) Q Q Q Q (Ob' fun r23 hr23 => (AOR.pure (@LT.callF Try.prog _ _ 174 _ _ [(.agg [(iC x22.X),(iC x22.Y)])] _ _ [] _ _ _ _ (w_impl_isPlace x22 r23 hr23) Q cb174 (.cons (.agg (.cons (.same Q) (.cons (.same Q) .nil))) .nil) Q Q J) z2 J Q Q (Op10 (LT.not Q) Q Q Q (On (AWR.cond Q (fun hc24 => ?_) (fun hc24 => ?_))))))
     ·refine Ws (en [] [] J J (Wr (asg (Bv false) Q y2 Q Q (On (AWR.ret ⟨Q,FPost.mk (.inr Q) z1 J Q ⟨PermP.sc,J⟩ J⟩)))))
     ·refine AWR.skip (AWR.blk ?_)
      refine en [(1,(Cc (.pl 21 0))),(3,(Cc (.pl 22 0))),(33,(Cc (xF encTPlace f.Places))),(34,(Iv (f.Places.length : Int))),(35,(Iv s11))] [(21,(.row 29 [[(iC f.Graph.Points),(xF encTBar f.Graph.Bars),(xF encTPlace f.Places)]])),(22,(.row 26 [[(iC f.Graph.Points),(xF encTBar f.Graph.Bars)]]))] z5 z2 (Wr (Op20 (LT.add Q) Q y2 Q Q (mv (Iv (w64 (s11 + 1))) Q Q Q Q (On (AWR.nil ⟨Q,Ent.of z5 z2⟩)))))
    ·refine AWR.exit_end Q ⟨Q,Ent.of z2 z2⟩
   ·refine Ws (Ws (Wr ?_))
    refine Op10 (LT.fieldPl Q fo26_1) Q Q Q (Op11 (LT.bload1 (c := (xF encTBar f.Graph.Bars)) Q ag24 (by exact Q)) Q Q Q Q (Op10 (LT.tlenRO Q und24) Q Q Q (mv (Iv 0) Q y2 Q Q (On (AWR.block ?_)))))
    refine AWR.loopR (id := 2) (m_impl_IsFramework_L2 f) (fun s25 => ([(1,(Cc (.pl 21 0))),(3,(Cc (.pl 22 0))),(44,(Cc (xF encTBar f.Graph.Bars))),(45,(Iv (f.Graph.Bars.length : Int))),(46,(Iv s25))],[(21,(.row 29 [[(iC f.Graph.Points),(xF encTBar f.Graph.Bars),(xF encTPlace f.Places)]])),(22,(.row 26 [[(iC f.Graph.Points),(xF encTBar f.Graph.Bars)]]))])) (fun b62 => ([],[])) (FPost Try.prog Try.f80.results.toList [] [] (fun (t : Bool) => [(.c (bC t))]) (fun (t : Bool) => [])) ?_ (Ent.of z5 z2) Q (fun b62 _ => ?_) (by intro r t σ m ht hk; injection ht with ht; subst ht; exact hk)
    ·intro s25
     unfold m_impl_IsFramework_L2
     refine Ws (Wr ?_)
     refine Op20 (LT.lss Q) Q Q Q Q (On (Ws ?_))
     refine AWR.cond Q (fun hc63 => ?_) (fun hc63 => ?_)
     ·refine AWR.skip (Ws (AWR.block (Ws (Wr ?_))))
      refine mv (Iv s25) Q Q Q Q (Ob' fun x64 hx64 => (Op20 (LT.tindexRO (enc := encTBar) Q el24 hx64 sz62) Q Q Q Q (Op10 (LT.loadPxN Q ag62 (infS inf62) (by exact sz62.symm)) Q Q Q (Os00 (LT.alloc (n := 26) (cells := [(iC 0),(iC 0)]) Q ti62 Q Q Q) Q Q (asg (Iv s25) Q Q Q Q (Os21 (LT.bstore (v := (.agg [(iC x64.A),(iC x64.B)])) (out := [(iC x64.A),(iC x64.B)]) Q Q (infS inf62) sz62 (by exact Q) (by exact K Q) (by exact Q)) Q Q Q Q Q (On (Ws ?_))))))))
      refine AWR.joinK (fun j72 => ([(1,(Cc (.pl 21 0))),(3,(Cc (.pl 22 0))),(44,(Cc (xF encTBar f.Graph.Bars))),(45,(Iv (f.Graph.Bars.length : Int))),(46,(Iv s25)),(77,(Bv j72))],[(21,(.row 29 [[(iC f.Graph.Points),(xF encTBar f.Graph.Bars),(xF encTPlace f.Places)]])),(22,(.row 26 [[(iC f.Graph.Points),(xF encTBar f.Graph.Bars)]]))])) ?_ (fun j72 _ => ?_)
      ·refine en [(1,(Cc (.pl 21 0))),(3,(Cc (.pl 22 0))),(6,(Iv s25)),(7,(Cc (.pl 26 0))),(44,(Cc (xF encTBar f.Graph.Bars))),(45,(Iv (f.Graph.Bars.length : Int))),(46,(Iv s25))] [(21,(.row 29 [[(iC f.Graph.Points),(xF encTBar f.Graph.Bars),(xF encTPlace f.Places)]])),(22,(.row 26 [[(iC f.Graph.Points),(xF encTBar f.Graph.Bars)]])),(26,(.row 62 [[(iC x64.A),(iC x64.B)]]))] z7 z3 (AWR.draw mixed (Dp10 (LT.move (v := (Iv s25)) Q) Q Q Q (Dp20 (LT.gtr Q) Q y2 Q Q (Dp10 (LT.move (v := (Bv (decide (0 < s25)))) Q) Q Q Q (AOD.split (fun hb73 => ?_) (fun hb73 => ?_))))))
       ·refine Dp10 (LT.fieldPl Q fo26_1) Q (gH hb73 Q Q) Q (Dp11 (LT.bload1 (c := (xF encTBar f.Graph.Bars)) Q ag24 (by exact Q)) Q Q (gH hb73 Q Q) Q (Dp10 (LT.move (v := (Iv s25)) Q) Q (gH hb73 Q Q) Q (Dp20 (LT.sub Q) Q y2 (gH hb73 Q Q) Q (AOD.bind fun x74 hx74 => (Dp20 (LT.tindexRO (enc := encTBar) Q el24 hx74 sz62) Q Q (gH hb73 Q Q) Q (Dp10 (LT.loadPxN Q ag62 (infS inf62) (by exact sz62.symm)) Q (gH hb73 Q Q) Q (Dp11 (LT.bloadN (out := [(iC x64.A),(iC x64.B)]) Q ag62 (infS inf62) sz62 (by exact Q) (by exact Q)) Q Q (gH hb73 Q Q) Q (Dp20 (LT.eqlStruct [x74.A,x74.B] [x64.A,x64.B] Q ist62 Q Q) Q Q (gH hb73 Q Q) Q (Dp20 (LT.pickT (v := (Bv (eqI [x74.A,x74.B] [x64.A,x64.B]))) Q hb73) Q Q Q Q (Dp10 (LT.move (v := (Bv (eqI [x74.A,x74.B] [x64.A,x64.B]))) Q) Q Q Q (AOD.split (fun hb75 => ?_) (fun hb75 => ?_))))))))))))
        ·refine AOD.skip (gH hb75 Q Q) Q (AOD.skip (gH hb75 Q Q) Q (AOD.skip (gH hb75 Q Q) Q (AOD.skip (gH hb75 Q Q) Q (AOD.skip (gH hb75 Q Q) Q (AOD.skip (gH hb75 Q Q) Q (AOD.skip (gH hb75 Q Q) Q (AOD.skip (gH hb75 Q Q) Q (AOD.skip (gH hb75 Q Q) Q (AOD.skip (gH hb75 Q Q) Q (AOD.skip (gH hb75 Q Q) Q (AOD.skip (gH hb75 Q Q) Q ?_)))))))))))
         refine AOD.skip (gH hb75 Q Q) Q (Dp20 (LT.pickT (v := (Bv true)) Q hb75) Q y2 Q Q (AOD.nil (by kernel_rfl) (AWR.nil ⟨Q,Ent.of z6 z2⟩)))
        ·refine Dp10 (LT.fieldPl Q fo29_1) Q (gH hb75 Q Q) Q (Dp11 (LT.bload1 (c := (xF encTPlace f.Places)) Q ag27 (by exact Q)) Q Q (gH hb75 Q Q) Q (Dp10 (LT.fieldPl Q fo62_0) Q (gH hb75 Q Q) Q (Dp11 (LT.bload1 (c := (iC x64.A)) Q ag3 (by exact Q)) Q Q (gH hb75 Q Q) Q (AOD.bind fun x76 hx76 => (Dp20 (LT.tindexRO (enc := encTPlace) Q el27 hx76 sz94) Q Q (gH hb75 Q Q) Q (Dp10 (LT.loadPxN Q ag94 (infS inf94) (by exact sz94.symm)) Q (gH hb75 Q Q) Q (Dp10 (LT.fieldPl Q fo29_1) Q (gH hb75 Q Q) Q (Dp11 (LT.bload1 (c := (xF encTPlace f.Places)) Q ag27 (by exact Q)) Q Q (gH hb75 Q Q) Q (Dp10 (LT.fieldPl Q fo62_1) Q (gH hb75 Q Q) Q (Dp11 (LT.bload1 (c := (iC x64.B)) Q ag3 (by exact Q)) Q Q (gH hb75 Q Q) Q (AOD.bind fun x77 hx77 => ?_)))))))))))
         refine Dp20 (LT.tindexRO (enc := encTPlace) Q el27 hx77 sz94) Q Q (gH hb75 Q Q) Q (Dp10 (LT.loadPxN Q ag94 (infS inf94) (by exact sz94.symm)) Q (gH hb75 Q Q) Q (Dp20 (LT.eqlStruct [x76.X,x76.Y] [x77.X,x77.Y] Q ist94 Q Q) Q Q (gH hb75 Q Q) Q (Dp20 (LT.pickF (v := (Bv (eqI [x76.X,x76.Y] [x77.X,x77.Y]))) Q hb75) Q Q Q Q (AOD.nil (by kernel_rfl) (AWR.nil ⟨Q,Ent.of z6 z2⟩)))))
       ·refine AOD.skip (gH hb73 Q Q) Q (AOD.skip (gH hb73 Q Q) Q (AOD.skip (gH hb73 Q Q) Q (AOD.skip (gH hb73 Q Q) Q (AOD.skip (gH hb73 Q Q) Q (AOD.skip (gH hb73 Q Q) Q (AOD.skip (gH hb73 Q Q) Q (AOD.skip (gH hb73 Q Q) Q (Dp20 (LT.pickF (v := (Bv false)) Q hb73) Q y2 Q Q (Dp10 (LT.move (v := (Bv false)) Q) Q Q Q (Dp10 (LT.fieldPl Q fo29_1) Q (gS Q Q) Q (Dp11 (LT.bload1 (c := (xF encTPlace f.Places)) Q ag27 (by exact Q)) Q Q (gS Q Q) Q ?_)))))))))))
        refine Dp10 (LT.fieldPl Q fo62_0) Q (gS Q Q) Q (Dp11 (LT.bload1 (c := (iC x64.A)) Q ag3 (by exact Q)) Q Q (gS Q Q) Q (AOD.bind fun x78 hx78 => (Dp20 (LT.tindexRO (enc := encTPlace) Q el27 hx78 sz94) Q Q (gS Q Q) Q (Dp10 (LT.loadPxN Q ag94 (infS inf94) (by exact sz94.symm)) Q (gS Q Q) Q (Dp10 (LT.fieldPl Q fo29_1) Q (gS Q Q) Q (Dp11 (LT.bload1 (c := (xF encTPlace f.Places)) Q ag27 (by exact Q)) Q Q (gS Q Q) Q (Dp10 (LT.fieldPl Q fo62_1) Q (gS Q Q) Q (Dp11 (LT.bload1 (c := (iC x64.B)) Q ag3 (by exact Q)) Q Q (gS Q Q) Q (AOD.bind fun x79 hx79 => (Dp20 (LT.tindexRO (enc := encTPlace) Q el27 hx79 sz94) Q Q (gS Q Q) Q (Dp10 (LT.loadPxN Q ag94 (infS inf94) (by exact sz94.symm)) Q (gS Q Q) Q ?_)))))))))))
        refine Dp20 (LT.eqlStruct [x78.X,x78.Y] [x79.X,x79.Y] Q ist94 Q Q) Q Q (gS Q Q) Q (Dp20 (LT.pickF (v := (Bv (eqI [x78.X,x78.Y] [x79.X,x79.Y]))) Q Q) Q Q Q Q (AOD.nil (by kernel_rfl) (AWR.nil ⟨Q,Ent.of z6 z2⟩)))
      ·refine AWR.cond Q (fun hc80 => ?_) (fun hc80 => ?_)
       ·refine Ws (Wr ?_)
        refine asg (Bv false) Q y2 Q Q (On (AWR.ret ⟨Q,FPost.mk (.inr Q) z1 J Q ⟨PermP.sc,J⟩ J⟩))
       ·refine AWR.skip (AWR.blk (Wr ?_))
        refine Op20 (LT.add Q) Q y2 Q Q (mv (Iv (w64 (s25 + 1))) Q Q Q Q (On (AWR.nil ⟨Q,Ent.of z5 z2⟩)))
     ·refine AWR.exit_end Q ⟨Q,Ent.of J J⟩
    ·refine Ws (Wr ?_)
     refine asg (Bv true) Q y2 Q Q (On (AWR.ret (FPost.mk (.inr Q) z1 J Q ⟨PermP.sc,J⟩ J)))
theorem w_impl_RigidityMatrix (f : TFramework) : ∀ t,m_impl_RigidityMatrix f = some t → Fw.Fn Try.prog 44 [(.agg [(iC f.Graph.Points),(xF encTBar f.Graph.Bars),(xF encTPlace f.Places)])] [] (.s (.c (lo 0 t.length))) [(0,(.trow 37 1 (lensOf t))),(1,(.pool 3 (rowsOf encInt t)))] [] [0,1] := by
 refine Fw.Fn.of (P := Try.prog) (X := [0,1]) (pn := []) (rs := (fun (t : (List (List Int))) => [(.c (lo 0 t.length))])) (dfs := (fun (t : (List (List Int))) => [(0,(.trow 37 1 (lensOf t))),(1,(.pool 3 (rowsOf encInt t)))])) Try.func44 Q Try.ntmps44 (K Q) Q ?_
 intro w0 U0 R0 g0
 unfold m_impl_RigidityMatrix
 refine Ws (Wr ?_)
 refine Os10 (LT.box (n := 21) (v := (.agg [(iC f.Graph.Points),(xF encTBar f.Graph.Bars),(xF encTPlace f.Places)])) Q sz29 (by exact Q)) Q Q Q (asg (Cc (sC nilV)) Q y2 Q Q (On (Ws (Wr ?_))))
 refine Os00 (LT.buildSlice (n := 22) (els := []) [] Q Q und31 ti37 Q Q Q Q (by decide) Q Q) Q Q (asg (Cc (lo 22 0)) Q Q Q Q (On (AWR.ent (Ent.poolE 23 3 Q) (AWR.ent (Ent.trow (n := 22) (p := 23) (lens := lensOf ([] : List (List Int))) (List.append_nil _) Q) (Ws (Ws (Wr ?_)))))))
 refine Op11 (LT.bloadN (out := [(iC f.Graph.Points),(xF encTBar f.Graph.Bars),(xF encTPlace f.Places)]) Q ag29 (infS inf29) sz29 (by exact Q) (by exact Q)) Q Q Q Q (Ob' fun r1 hr1 => (AOR.pure (@LT.callF Try.prog _ _ 80 _ _ [(.agg [(iC f.Graph.Points),(xF encTBar f.Graph.Bars),(xF encTPlace f.Places)])] _ _ [] _ _ _ _ (w_impl_IsFramework f r1 hr1) Q cb80 (.cons (.agg (.cons (.same Q) (.cons (.same Q) (.cons (.same Q) .nil)))) .nil) Q Q J) z2 J Q Q (Op10 (LT.not Q) Q Q Q (On (AWR.cond Q (fun hc2 => ?_) (fun hc2 => ?_))))))
 ·refine Ws (Wr ?_)
  refine mv (Cc (lo 22 0)) Q Q Q Q (asg (Cc (lo 22 0)) Q Q Q Q (On (en [(2,(Cc (lo 22 0)))] [(22,(.trow 37 23 (lensOf ([] : List (List Int))))),(23,(.pool 3 (rowsOf encInt ([] : List (List Int)))))] z1 z2 (AWR.ent (Ent.mv 22 0 Q Q) (AWR.ent (Ent.mv 23 1 Q Q) (en [(2,(Cc (lo 0 (([] : List (List Int)).length))))] [(0,(.trow 37 1 (lensOf ([] : List (List Int))))),(1,(.pool 3 (rowsOf encInt ([] : List (List Int)))))] z1 z2 (AWR.ret (FPost.mk (.inr Q) z1 z2 Q ⟨J,J⟩ ⟨J,PermO.poolR perm_encInt _,J⟩))))))))
 ·refine AWR.skip (Ws (Ws (Wr ?_)))
  refine Op10 (LT.fieldPl Q fo29_0) Q Q Q (Op10 (LT.fieldPl Q fo26_1) Q Q Q (Op11 (LT.bload1 (c := (xF encTBar f.Graph.Bars)) Q ag24 (by exact Q)) Q Q Q Q (Op10 (LT.tlenRO Q und24) Q Q Q (mv (Iv 0) Q y2 Q Q (On (AWR.block ?_))))))
  refine AWR.loop1 (id := 0) (m_impl_RigidityMatrix_L1 f) (fun s3 => ([(1,(Cc (.pl 21 0))),(3,(Cc (lo 22 s3.2.length))),(16,(Cc (xF encTBar f.Graph.Bars))),(17,(Iv (f.Graph.Bars.length : Int))),(18,(Iv s3.1))],[(21,(.row 29 [[(iC f.Graph.Points),(xF encTBar f.Graph.Bars),(xF encTPlace f.Places)]])),(22,(.trow 37 23 (lensOf s3.2))),(23,(.pool 3 (rowsOf encInt s3.2)))])) (fun b24 => ([(3,(Cc (lo 22 b24.length)))],[(22,(.trow 37 23 (lensOf b24))),(23,(.pool 3 (rowsOf encInt b24)))])) ?_ (Ent.of z5 z3) Q (fun b24 _ => ?_)
  ·intro s3
   unfold m_impl_RigidityMatrix_L1
   refine Ws (Wr ?_)
   refine Op20 (LT.lss Q) Q Q Q Q (On (Ws ?_))
   refine AWR.cond Q (fun hc25 => ?_) (fun hc25 => ?_)
   ·refine AWR.skip (Ws (AWR.block (Ws (Wr ?_))))
    refine Ob' fun x26 hx26 => (Op20 (LT.tindexRO (enc := encTBar) Q el24 hx26 sz62) Q Q Q Q (Op10 (LT.loadPxN Q ag62 (infS inf62) (by exact sz62.symm)) Q Q Q (Os00 (LT.alloc (n := 25) (cells := [(iC 0),(iC 0)]) Q ti62 Q Q Q) Q Q (Os21 (LT.bstore (v := (.agg [(iC x26.A),(iC x26.B)])) (out := [(iC x26.A),(iC x26.B)]) Q Q (infS inf62) sz62 (by exact Q) (by exact K Q) (by exact Q)) Q Q Q Q Q (On (Ws (Wr ?_)))))))
    refine Op10 (LT.fieldPl Q fo29_0) Q Q Q (Op10 (LT.fieldPl Q fo26_0) Q Q Q (Op11 (LT.bload1 (c := (iC f.Graph.Points)) Q ag3 (by exact Q)) Q Q Q Q (Op20 (LT.mul Q) y2 Q Q Q (Ob' fun u27 hu27 => (Os20 (LT.tmake (n := 26) (enc := encInt) (zc := [(iC 0)]) (0 : Int) Q und37 ti3 Q Q Q (by decide) (by decide) (lenOk_le hu27) Q) Q Q Q Q (asg (Cc (lo 26 ((List.replicate (w64 (2 * f.Graph.Points)).toNat (0 : Int)).length))) Q Q Q Q (On (Ws ?_))))))))
    refine en [(1,(Cc (.pl 21 0))),(3,(Cc (lo 22 s3.2.length))),(5,(Cc (.pl 25 0))),(6,(Cc (lo 26 ((List.replicate (w64 (2 * f.Graph.Points)).toNat (0 : Int)).length)))),(16,(Cc (xF encTBar f.Graph.Bars))),(17,(Iv (f.Graph.Bars.length : Int))),(18,(Iv s3.1))] [(21,(.row 29 [[(iC f.Graph.Points),(xF encTBar f.Graph.Bars),(xF encTPlace f.Places)]])),(22,(.trow 37 23 (lensOf s3.2))),(23,(.pool 3 (rowsOf encInt s3.2))),(25,(.row 62 [[(iC x26.A),(iC x26.B)]])),(26,(pR 3 encInt (List.replicate (w64 (2 * f.Graph.Points)).toNat (0 : Int))))] z7 z5 (AWR.draw mixed (Dp10 (LT.fieldPl Q fo29_1) Q Q Q (Dp11 (LT.bload1 (c := (xF encTPlace f.Places)) Q ag27 (by exact Q)) Q Q Q Q (Dp10 (LT.fieldPl Q fo62_0) Q Q Q (Dp11 (LT.bload1 (c := (iC x26.A)) Q ag3 (by exact Q)) Q Q Q Q (AOD.bind fun x28 hx28 => (Dp20 (LT.tindexRO (enc := encTPlace) Q el27 hx28 sz94) Q Q Q Q (Dp10 (LT.loadPxN Q ag94 (infS inf94) (by exact sz94.symm)) Q Q Q (Dp10 (LT.fieldPl Q fo29_1) Q Q Q (Dp11 (LT.bload1 (c := (xF encTPlace f.Places)) Q ag27 (by exact Q)) Q Q Q Q (Dp10 (LT.fieldPl Q fo62_1) Q Q Q ?_)))))))))))
    refine Dp11 (LT.bload1 (c := (iC x26.B)) Q ag3 (by exact Q)) Q Q Q Q (AOD.bind fun x29 hx29 => (Dp20 (LT.tindexRO (enc := encTPlace) Q el27 hx29 sz94) Q Q Q Q (Dp10 (LT.loadPxN Q ag94 (infS inf94) (by exact sz94.symm)) Q Q Q (Ds00 (LT.alloc (n := 27) (cells := [(iC 0),(iC 0)]) Q ti94 Q Q Q) Q Q (Ds00 (LT.alloc (n := 28) (cells := [(iC 0),(iC 0)]) Q ti94 Q Q Q) Q Q (Ds21 (LT.bstore (v := (.agg [(iC x28.X),(iC x28.Y)])) (out := [(iC x28.X),(iC x28.Y)]) Q Q (infS inf94) sz94 (by exact Q) (by exact K Q) (by exact Q)) Q Q Q Q Q (Ds21 (LT.bstore (v := (.agg [(iC x29.X),(iC x29.Y)])) (out := [(iC x29.X),(iC x29.Y)]) Q Q (infS inf94) sz94 (by exact Q) (by exact K Q) (by exact Q)) Q Q Q Q Q (AOD.nil (by kernel_rfl) (Ws (en [(1,(Cc (.pl 21 0))),(3,(Cc (lo 22 s3.2.length))),(5,(Cc (.pl 25 0))),(6,(Cc (lo 26 ((List.replicate (w64 (2 * f.Graph.Points)).toNat (0 : Int)).length)))),(7,(Cc (.pl 27 0))),(8,(Cc (.pl 28 0))),(16,(Cc (xF encTBar f.Graph.Bars))),(17,(Iv (f.Graph.Bars.length : Int))),(18,(Iv s3.1))] [(21,(.row 29 [[(iC f.Graph.Points),(xF encTBar f.Graph.Bars),(xF encTPlace f.Places)]])),(22,(.trow 37 23 (lensOf s3.2))),(23,(.pool 3 (rowsOf encInt s3.2))),(25,(.row 62 [[(iC x26.A),(iC x26.B)]])),(26,(pR 3 encInt (List.replicate (w64 (2 * f.Graph.Points)).toNat (0 : Int)))),(27,(.row 94 [[(iC x28.X),(iC x28.Y)]])),(28,(.row 94 [[(iC x29.X),(iC x29.Y)]]))] z9 z7 (AWR.draw mixed ?_)))))))))))
    refine Dp10 (LT.move (v := (Cc (lo 26 ((List.replicate (w64 (2 * f.Graph.Points)).toNat (0 : Int)).length)))) Q) Q Q Q (Dp10 (LT.fieldPl Q fo62_0) Q Q Q (Dp11 (LT.bload1 (c := (iC x26.A)) Q ag3 (by exact Q)) Q Q Q Q (Dp20 (LT.mul Q) y2 Q Q Q (Dp10 (LT.move (v := (Cc (lo 26 ((List.replicate (w64 (2 * f.Graph.Points)).toNat (0 : Int)).length)))) Q) Q Q Q (Dp10 (LT.fieldPl Q fo62_0) Q Q Q (Dp11 (LT.bload1 (c := (iC x26.A)) Q ag3 (by exact Q)) Q Q Q Q (Dp20 (LT.mul Q) y2 Q Q Q (Dp20 (LT.add Q) Q y2 Q Q (Dp10 (LT.fieldPl Q fo94_0) Q Q Q (Dp11 (LT.bload1 (c := (iC x28.X)) Q ag3 (by exact Q)) Q Q Q Q (Dp10 (LT.fieldPl Q fo94_0) Q Q Q ?_)))))))))))
    refine Dp11 (LT.bload1 (c := (iC x29.X)) Q ag3 (by exact Q)) Q Q Q Q (Dp20 (LT.sub Q) Q Q Q Q (Dp10 (LT.fieldPl Q fo94_1) Q Q Q (Dp11 (LT.bload1 (c := (iC x28.Y)) Q ag3 (by exact Q)) Q Q Q Q (Dp10 (LT.fieldPl Q fo94_1) Q Q Q (Dp11 (LT.bload1 (c := (iC x29.Y)) Q ag3 (by exact Q)) Q Q Q Q (Dp20 (LT.sub Q) Q Q Q Q (AOD.bind fun x30 hx30 => (Dp21 (LT.tindexLoc Q Q el37 hx30) Q Q Q Q Q (Ds21 (LT.tstore (k := 0) (v := (.c (iC (w64 (x28.X - x29.X))))) (b' := (w64 (x28.X - x29.X))) Q Q (infS inf3) sz3 (by exact Q) hx30 (by exact Q) (by exact K Q) (by exact Q)) Q Q Q Q Q (AOD.bind fun x31 hx31 => (Dp21 (LT.tindexLoc (show (List.replicate (w64 (2 * f.Graph.Points)).toNat (0 : Int)).length = ((List.replicate (w64 (2 * f.Graph.Points)).toNat (0 : Int)).set (w64 (2 * x26.A)).toNat (w64 (x28.X - x29.X))).length by simp only [List.length_set]) Q el37 hx31) Q Q Q Q Q ?_)))))))))))
    refine Ds21 (LT.tstore (k := 0) (v := (.c (iC (w64 (x28.Y - x29.Y))))) (b' := (w64 (x28.Y - x29.Y))) Q Q (infS inf3) sz3 (by exact Q) hx31 (by exact Q) (by exact K Q) (by exact Q)) Q Q Q Q Q (AOD.nil (by kernel_rfl) (Ws (en [(1,(Cc (.pl 21 0))),(3,(Cc (lo 22 s3.2.length))),(5,(Cc (.pl 25 0))),(6,(Cc (lo 26 ((List.replicate (w64 (2 * f.Graph.Points)).toNat (0 : Int)).length)))),(7,(Cc (.pl 27 0))),(8,(Cc (.pl 28 0))),(16,(Cc (xF encTBar f.Graph.Bars))),(17,(Iv (f.Graph.Bars.length : Int))),(18,(Iv s3.1))] [(21,(.row 29 [[(iC f.Graph.Points),(xF encTBar f.Graph.Bars),(xF encTPlace f.Places)]])),(22,(.trow 37 23 (lensOf s3.2))),(23,(.pool 3 (rowsOf encInt s3.2))),(25,(.row 62 [[(iC x26.A),(iC x26.B)]])),(26,(pR 3 encInt (((List.replicate (w64 (2 * f.Graph.Points)).toNat (0 : Int)).set (w64 (2 * x26.A)).toNat (w64 (x28.X - x29.X))).set (w64 ((w64 (2 * x26.A)) + 1)).toNat (w64 (x28.Y - x29.Y))))),(27,(.row 94 [[(iC x28.X),(iC x28.Y)]])),(28,(.row 94 [[(iC x29.X),(iC x29.Y)]]))] z9 z7 (AWR.draw mixed (Dp10 (LT.move (v := (Cc (lo 26 ((List.replicate (w64 (2 * f.Graph.Points)).toNat (0 : Int)).length)))) Q) Q Q Q (Dp10 (LT.fieldPl Q fo62_1) Q Q Q (Dp11 (LT.bload1 (c := (iC x26.B)) Q ag3 (by exact Q)) Q Q Q Q (Dp20 (LT.mul Q) y2 Q Q Q (Dp10 (LT.move (v := (Cc (lo 26 ((List.replicate (w64 (2 * f.Graph.Points)).toNat (0 : Int)).length)))) Q) Q Q Q (Dp10 (LT.fieldPl Q fo62_1) Q Q Q (Dp11 (LT.bload1 (c := (iC x26.B)) Q ag3 (by exact Q)) Q Q Q Q ?_)))))))))))
    refine Dp20 (LT.mul Q) y2 Q Q Q (Dp20 (LT.add Q) Q y2 Q Q (Dp10 (LT.fieldPl Q fo94_0) Q Q Q (Dp11 (LT.bload1 (c := (iC x29.X)) Q ag3 (by exact Q)) Q Q Q Q (Dp10 (LT.fieldPl Q fo94_0) Q Q Q (Dp11 (LT.bload1 (c := (iC x28.X)) Q ag3 (by exact Q)) Q Q Q Q (Dp20 (LT.sub Q) Q Q Q Q (Dp10 (LT.fieldPl Q fo94_1) Q Q Q (Dp11 (LT.bload1 (c := (iC x29.Y)) Q ag3 (by exact Q)) Q Q Q Q (Dp10 (LT.fieldPl Q fo94_1) Q Q Q (Dp11 (LT.bload1 (c := (iC x28.Y)) Q ag3 (by exact Q)) Q Q Q Q (Dp20 (LT.sub Q) Q Q Q Q ?_)))))))))))
    refine AOD.bind fun x32 hx32 => (Dp21 (LT.tindexLoc (show (List.replicate (w64 (2 * f.Graph.Points)).toNat (0 : Int)).length = (((List.replicate (w64 (2 * f.Graph.Points)).toNat (0 : Int)).set (w64 (2 * x26.A)).toNat (w64 (x28.X - x29.X))).set (w64 ((w64 (2 * x26.A)) + 1)).toNat (w64 (x28.Y - x29.Y))).length by simp only [List.length_set]) Q el37 hx32) Q Q Q Q Q (Ds21 (LT.tstore (k := 0) (v := (.c (iC (w64 (x29.X - x28.X))))) (b' := (w64 (x29.X - x28.X))) Q Q (infS inf3) sz3 (by exact Q) hx32 (by exact Q) (by exact K Q) (by exact Q)) Q Q Q Q Q (AOD.bind fun x33 hx33 => (Dp21 (LT.tindexLoc (show (List.replicate (w64 (2 * f.Graph.Points)).toNat (0 : Int)).length = ((((List.replicate (w64 (2 * f.Graph.Points)).toNat (0 : Int)).set (w64 (2 * x26.A)).toNat (w64 (x28.X - x29.X))).set (w64 ((w64 (2 * x26.A)) + 1)).toNat (w64 (x28.Y - x29.Y))).set (w64 (2 * x26.B)).toNat (w64 (x29.X - x28.X))).length by simp only [List.length_set]) Q el37 hx33) Q Q Q Q Q (Ds21 (LT.tstore (k := 0) (v := (.c (iC (w64 (x29.Y - x28.Y))))) (b' := (w64 (x29.Y - x28.Y))) Q Q (infS inf3) sz3 (by exact Q) hx33 (by exact Q) (by exact K Q) (by exact Q)) Q Q Q Q Q (AOD.nil (by kernel_rfl) (en [(1,(Cc (.pl 21 0))),(3,(Cc (lo 22 s3.2.length))),(6,(Cc (lo 26 ((List.replicate (w64 (2 * f.Graph.Points)).toNat (0 : Int)).length)))),(16,(Cc (xF encTBar f.Graph.Bars))),(17,(Iv (f.Graph.Bars.length : Int))),(18,(Iv s3.1))] [(21,(.row 29 [[(iC f.Graph.Points),(xF encTBar f.Graph.Bars),(xF encTPlace f.Places)]])),(22,(.trow 37 23 (lensOf s3.2))),(23,(.pool 3 (rowsOf encInt s3.2))),(26,(pR 3 encInt (((((List.replicate (w64 (2 * f.Graph.Points)).toNat (0 : Int)).set (w64 (2 * x26.A)).toNat (w64 (x28.X - x29.X))).set (w64 ((w64 (2 * x26.A)) + 1)).toNat (w64 (x28.Y - x29.Y))).set (w64 (2 * x26.B)).toNat (w64 (x29.X - x28.X))).set (w64 ((w64 (2 * x26.B)) + 1)).toNat (w64 (x29.Y - x28.Y)))))] z6 z4 (Wr (mv (Cc (lo 22 s3.2.length)) Q Q Q Q (mv (Cc (lo 26 ((List.replicate (w64 (2 * f.Graph.Points)).toNat (0 : Int)).length))) Q Q Q Q (Os10 (LT.buildSlice (n := 29) (els := [[(lo 26 ((List.replicate (w64 (2 * f.Graph.Points)).toNat (0 : Int)).length))]]) [(0,.tmp 82,(.c (lo 26 ((List.replicate (w64 (2 * f.Graph.Points)).toNat (0 : Int)).length))))] Q Q und31 ti37 Q Q Q Q (by decide) Q Q) Q Q Q ?_)))))))))))
    refine Ob' fun u34 hu34 => (Os22 (LT.xapp Q Q Q und31 ti37 Q (by decide) (by decide) Q (lim_le hu34)) Q Q Q Q Q Q (asg (Cc (lo 22 (s3.2.length + 1))) Q Q Q Q (On (AWR.ent (Ent.tadopt (enc := encInt) (n := 22) (m := 26) (p := 23) (rows := s3.2) (r := (((((List.replicate (w64 (2 * f.Graph.Points)).toNat (0 : Int)).set (w64 (2 * x26.A)).toNat (w64 (x28.X - x29.X))).set (w64 ((w64 (2 * x26.A)) + 1)).toNat (w64 (x28.Y - x29.Y))).set (w64 (2 * x26.B)).toNat (w64 (x29.X - x28.X))).set (w64 ((w64 (2 * x26.B)) + 1)).toNat (w64 (x29.Y - x28.Y)))) (rest := []) (show (List.replicate (w64 (2 * f.Graph.Points)).toNat (0 : Int)).length = (((((List.replicate (w64 (2 * f.Graph.Points)).toNat (0 : Int)).set (w64 (2 * x26.A)).toNat (w64 (x28.X - x29.X))).set (w64 ((w64 (2 * x26.A)) + 1)).toNat (w64 (x28.Y - x29.Y))).set (w64 (2 * x26.B)).toNat (w64 (x29.X - x28.X))).set (w64 ((w64 (2 * x26.B)) + 1)).toNat (w64 (x29.Y - x28.Y))).length by simp only [List.length_set]) Q Q Q Q Q) (AWR.ent (Ent.trow (n := 22) (p := 23) (lens := lensOf (s3.2 ++ [(((((List.replicate (w64 (2 * f.Graph.Points)).toNat (0 : Int)).set (w64 (2 * x26.A)).toNat (w64 (x28.X - x29.X))).set (w64 ((w64 (2 * x26.A)) + 1)).toNat (w64 (x28.Y - x29.Y))).set (w64 (2 * x26.B)).toNat (w64 (x29.X - x28.X))).set (w64 ((w64 (2 * x26.B)) + 1)).toNat (w64 (x29.Y - x28.Y)))])) (List.append_nil _) Q) (AWR.blk (Wr ?_)))))))
    refine Op20 (LT.add Q) Q y2 Q Q (mv (Iv (w64 (s3.1 + 1))) Q Q Q Q (On (AWR.nil ⟨Q,Ent.of ⟨Q,(congrArg (fun l1 => (some (AV.s (.c (lo 22 l1))) : Option AV)) (show (s3.2.length + 1) = (s3.2 ++ [(((((List.replicate (w64 (2 * f.Graph.Points)).toNat (0 : Int)).set (w64 (2 * x26.A)).toNat (w64 (x28.X - x29.X))).set (w64 ((w64 (2 * x26.A)) + 1)).toNat (w64 (x28.Y - x29.Y))).set (w64 (2 * x26.B)).toNat (w64 (x29.X - x28.X))).set (w64 ((w64 (2 * x26.B)) + 1)).toNat (w64 (x29.Y - x28.Y)))]).length from len_snoc)),Q,Q,Q,J⟩ z3⟩)))
   ·refine AWR.exit_end Q ⟨Q,Ent.of z1 z2⟩
  ·refine Ws (Wr ?_)
   refine mv (Cc (lo 22 b24.length)) Q Q Q Q (asg (Cc (lo 22 b24.length)) Q Q Q Q (On (en [(2,(Cc (lo 22 b24.length)))] [(22,(.trow 37 23 (lensOf b24))),(23,(.pool 3 (rowsOf encInt b24)))] z1 z2 (AWR.ent (Ent.mv 22 0 Q Q) (AWR.ent (Ent.mv 23 1 Q Q) (en [(2,(Cc (lo 0 b24.length)))] [(0,(.trow 37 1 (lensOf b24))),(1,(.pool 3 (rowsOf encInt b24)))] z1 z2 (AWR.ret (FPost.mk (.inr Q) z1 z2 Q ⟨J,J⟩ ⟨J,PermO.poolR perm_encInt _,J⟩))))))))
theorem w_impl_copyInts (l : (List Int)) : ∀ t,m_impl_copyInts l = some t → Fw.Fn Try.prog 114 [(.c (xF encInt l))] [] (.s (.c (lo 0 t.length))) [(0,(pR 3 encInt t))] [] [0] := by
 refine Fw.Fn.of (P := Try.prog) (X := [0]) (pn := []) (rs := (fun (t : (List Int)) => [(.c (lo 0 t.length))])) (dfs := (fun (t : (List Int)) => [(0,(pR 3 encInt t))])) Try.func114 Q Try.ntmps114 (K Q) Q ?_
 intro w0 U0 R0 g0
 unfold m_impl_copyInts
 refine Ws (Wr ?_)
 refine asg (Cc (sC nilV)) Q y2 Q Q (On (Ws (Wr ?_)))
 refine Os00 (LT.tbuildSlice (n := 21) (enc := encInt) [] ([] : List Int) Q Q und37 ti3 Q Q Q Q (by decide) (fun _ => Q) Q) Q Q (mv (Cc (xF encInt l)) Q Q Q Q (Ob' fun u1 hu1 => (Os21 (LT.tappRO (enc := encInt) Q  Q und37 ti3 Q (by decide) (by decide) (fun _ => Q) (lim_le hu1)) Q Q Q Q Q (asg (Cc (lo 21 ((([] : List Int) ++ l).length))) Q Q Q Q (On (en [(2,(Cc (lo 21 ((([] : List Int) ++ l).length))))] [(21,(pR 3 encInt (([] : List Int) ++ l)))] z1 z1 (AWR.ent (Ent.mv 21 0 Q Q) (en [(2,(Cc (lo 0 ((([] : List Int) ++ l).length))))] [(0,(pR 3 encInt (([] : List Int) ++ l)))] z1 z1 (AWR.ret (FPost.mk (.inr Q) z1 z1 Q ⟨J,J⟩ ⟨PermO.prow' perm_encInt,J⟩))))))))))
theorem w_impl_copyLists (l : (List (List Int))) : ∀ t,m_impl_copyLists l = some t → Fw.Fn Try.prog 234 [(.c (xF (encLInt false) l))] [] (.s (.c (lo 0 t.length))) [(0,(.trow 37 1 (lensOf t))),(1,(.pool 3 (rowsOf encInt t)))] [] [0,1] := by
 refine Fw.Fn.of (P := Try.prog) (X := [0,1]) (pn := []) (rs := (fun (t : (List (List Int))) => [(.c (lo 0 t.length))])) (dfs := (fun (t : (List (List Int))) => [(0,(.trow 37 1 (lensOf t))),(1,(.pool 3 (rowsOf encInt t)))])) Try.func234 Q Try.ntmps234 (K Q) Q ?_
 intro w0 U0 R0 g0
 unfold m_impl_copyLists
 refine Ws (Wr ?_)
 refine asg (Cc (sC nilV)) Q y2 Q Q (On (Ws (Wr ?_)))
 refine Os00 (LT.buildSlice (n := 21) (els := []) [] Q Q und31 ti37 Q Q Q Q (by decide) Q Q) Q Q (asg (Cc (lo 21 0)) Q Q Q Q (On (AWR.ent (Ent.poolE 22 3 Q) (AWR.ent (Ent.trow (n := 21) (p := 22) (lens := lensOf ([] : List (List Int))) (List.append_nil _) Q) (Ws (Ws (Wr ?_)))))))
 refine mv (Cc (xF (encLInt false) l)) Q Q Q Q (Op10 (LT.tlenRO Q und31) Q Q Q (mv (Iv 0) Q y2 Q Q (On (AWR.block ?_))))
 refine AWR.loop1 (id := 0) (m_impl_copyLists_L1 l) (fun s1 => ([(3,(Cc (lo 21 s1.2.length))),(7,(Cc (xF (encLInt false) l))),(8,(Iv (l.length : Int))),(9,(Iv s1.1))],[(21,(.trow 37 22 (lensOf s1.2))),(22,(.pool 3 (rowsOf encInt s1.2)))])) (fun b10 => ([(3,(Cc (lo 21 b10.length)))],[(21,(.trow 37 22 (lensOf b10))),(22,(.pool 3 (rowsOf encInt b10)))])) ?_ (Ent.of z4 z2) Q (fun b10 _ => ?_)
 ·intro s1
  unfold m_impl_copyLists_L1
  refine Ws (Wr ?_)
  refine Op20 (LT.lss Q) Q Q Q Q (On (Ws ?_))
  refine AWR.cond Q (fun hc11 => ?_) (fun hc11 => ?_)
  ·refine AWR.skip (Ws (AWR.block (Ws (Wr ?_))))
   refine Ob' fun x12 hx12 => (Op20 (LT.tindexRO (enc := (encLInt false)) Q el31 hx12 sz37) Q Q Q Q (Op10 (LT.loadPx1 Q ag37) Q Q Q (asg (Cc (xF encInt x12)) Q Q Q Q (On (Wr ?_)))))
   refine mv (Cc (lo 21 s1.2.length)) Q Q Q Q (mv (Cc (xF encInt x12)) Q Q Q Q (Ob' fun r13 hr13 => (AOR.step (@LT.callF Try.prog _ _ 114 _ _ [(.c (xF encInt x12))] _ _ [] _ _ _ _ ((show Fw.Fn Try.prog 114 [(.c (xF encInt x12))] [] (Cc (lo 24 r13.length)) [(24,(pR 3 encInt r13))] [] [24] from Fw.Fn.ren [(0,24)] (w_impl_copyInts x12 r13 hr13) Q)) Q cb114 (.cons (.c (.same Q)) .nil) Q Q J) z2 J Q Q (Os10 (LT.buildSlice (n := 25) (els := [[(lo 24 r13.length)]]) [(0,.tmp 15,(.c (lo 24 r13.length)))] Q Q und31 ti37 Q Q Q Q (by decide) Q Q) Q Q Q (Ob' fun u14 hu14 => (Os22 (LT.xapp Q Q Q und31 ti37 Q (by decide) (by decide) Q (lim_le hu14)) Q Q Q Q Q Q (asg (Cc (lo 21 (s1.2.length + 1))) Q Q Q Q (On (AWR.ent (Ent.tadopt (enc := encInt) (n := 21) (m := 24) (p := 22) (rows := s1.2) (r := r13) (rest := []) Q Q Q Q Q Q) (AWR.ent (Ent.trow (n := 21) (p := 22) (lens := lensOf (s1.2 ++ [r13])) (List.append_nil _) Q) (AWR.blk (Wr ?_))))))))))))
   refine Op20 (LT.add Q) Q y2 Q Q (mv (Iv (w64 (s1.1 + 1))) Q Q Q Q (On (AWR.nil ⟨Q,Ent.of ⟨(congrArg (fun l1 => (some (AV.s (.c (lo 21 l1))) : Option AV)) (show (s1.2.length + 1) = (s1.2 ++ [r13]).length from len_snoc)),Q,Q,Q,J⟩ z2⟩)))
  ·refine AWR.exit_end Q ⟨Q,Ent.of z1 z2⟩
 ·refine Ws (Wr ?_)
  refine mv (Cc (lo 21 b10.length)) Q Q Q Q (asg (Cc (lo 21 b10.length)) Q Q Q Q (On (en [(2,(Cc (lo 21 b10.length)))] [(21,(.trow 37 22 (lensOf b10))),(22,(.pool 3 (rowsOf encInt b10)))] z1 z2 (AWR.ent (Ent.mv 21 0 Q Q) (AWR.ent (Ent.mv 22 1 Q Q) (en [(2,(Cc (lo 0 b10.length)))] [(0,(.trow 37 1 (lensOf b10))),(1,(.pool 3 (rowsOf encInt b10)))] z1 z2 (AWR.ret (FPost.mk (.inr Q) z1 z2 Q ⟨J,J⟩ ⟨J,PermO.poolR perm_encInt _,J⟩))))))))
theorem w_impl_reduced (m : (List (List Int))) (columns : Int) : ∀ t,m_impl_reduced m columns = some t → Fw.Fn Try.prog 202 [(.c (xF (encLInt false) m)),(.c (iC columns))] [] (resA [(.c (lo 0 t.1.length)),(.c (lo 2 t.2.1.length)),(.c (iC t.2.2))]) [(0,(.trow 37 1 (lensOf t.1))),(1,(.pool 3 (rowsOf encInt t.1))),(2,(pR 3 encInt t.2.1))] [] [0,1,2] := by
 refine Fw.Fn.of (P := Try.prog) (X := [0,1,2]) (pn := []) (rs := (fun (t : ((List (List Int)) × (List Int) × Int)) => [(.c (lo 0 t.1.length)),(.c (lo 2 t.2.1.length)),(.c (iC t.2.2))])) (dfs := (fun (t : ((List (List Int)) × (List Int) × Int)) => [(0,(.trow 37 1 (lensOf t.1))),(1,(.pool 3 (rowsOf encInt t.1))),(2,(pR 3 encInt t.2.1))])) Try.func202 Q Try.ntmps202 (K Q) Q ?_
 intro w0 U0 R0 g0
 unfold m_impl_reduced
 refine Ws (Wr ?_)
 refine asg (Cc (sC nilV)) Q y2 Q Q (asg (Cc (sC nilV)) Q y2 Q Q (asg (Iv 0) Q y2 Q Q (On (Ws (Wr ?_)))))
 refine mv (Cc (xF (encLInt false) m)) Q Q Q Q (Ob' fun r1 hr1 => (AOR.step (@LT.callF Try.prog _ _ 234 _ _ [(.c (xF (encLInt false) m))] _ _ [] _ _ _ _ ((show Fw.Fn Try.prog 234 [(.c (xF (encLInt false) m))] [] (Cc (lo 22 r1.length)) [(22,(.trow 37 23 (lensOf r1))),(23,(.pool 3 (rowsOf encInt r1)))] [] [22,23] from Fw.Fn.ren [(0,22),(1,23)] (w_impl_copyLists m r1 hr1) Q)) Q cb234 (.cons (.c (.same Q)) .nil) Q Q J) z2 J Q Q (asg (Cc (lo 22 r1.length)) Q Q Q Q (On (Ws (Wr ?_))))))
 refine Os00 (LT.tbuildSlice (n := 24) (enc := encInt) [] ([] : List Int) Q Q und37 ti3 Q Q Q Q (by decide) (fun _ => Q) Q) Q Q (asg (Cc (lo 24 (([] : List Int).length))) Q Q Q Q (On (Ws ?_)))
 refine en [(1,(Iv columns)),(7,(Cc (lo 22 r1.length))),(8,(Cc (lo 24 (([] : List Int).length))))] [(22,(.trow 37 23 (lensOf r1))),(23,(.pool 3 (rowsOf encInt r1))),(24,(pR 3 encInt ([] : List Int)))] z3 z3 (Wr (asg (Iv 1) Q y2 Q Q (On (Ws (Ws (Wr ?_))))))
 refine asg (Iv 0) Q y2 Q Q (On (AWR.block ?_))
 refine AWR.loop1 (id := 0) (m_impl_reduced_L9 columns) (fun s2 => ([(1,(Iv columns)),(7,(Cc (lo 22 s2.2.1.length))),(8,(Cc (lo 24 s2.2.2.2.length))),(9,(Iv s2.2.2.1)),(10,(Iv s2.1))],[(22,(.trow 37 23 (lensOf s2.2.1))),(23,(.pool 3 (rowsOf encInt s2.2.1))),(24,(pR 3 encInt s2.2.2.2))])) (fun b151 => ([(7,(Cc (lo 22 b151.2.1.length))),(8,(Cc (lo 24 b151.2.2.length))),(9,(Iv b151.1))],[(22,(.trow 37 23 (lensOf b151.2.1))),(23,(.pool 3 (rowsOf encInt b151.2.1))),(24,(pR 3 encInt b151.2.2))])) ?_ (Ent.of z5 z3) Q (fun b151 _ => ?_)
 ·intro s2
  unfold m_impl_reduced_L9
  refine Ws (Ws ?_)
  refine AWR.joinK (fun j153 => ([(1,(Iv columns)),(7,(Cc (lo 22 s2.2.1.length))),(8,(Cc (lo 24 s2.2.2.2.length))),(9,(Iv s2.2.2.1)),(10,(Iv s2.1)),(29,(Bv j153))],[(22,(.trow 37 23 (lensOf s2.2.1))),(23,(.pool 3 (rowsOf encInt s2.2.1))),(24,(pR 3 encInt s2.2.2.2))])) ?_ (fun j153 _ => ?_)
  ·refine Wr (mv (Iv s2.1) Q Q Q Q (mv (Iv columns) Q Q Q Q (Op20 (LT.lss Q) Q Q Q Q (mv (Bv (decide (s2.1 < columns))) Q Q Q Q (AOR.split (fun hb154 => ?_) (fun hb154 => ?_))))))
   ·refine mv (Cc (lo 24 s2.2.2.2.length)) Q Q (gH hb154 Q Q) Q (Op10 (LT.lenLoc Q und37) Q (gH hb154 Q Q) Q (mv (Cc (lo 22 s2.2.1.length)) Q Q (gH hb154 Q Q) Q (Op10 (LT.lenLoc Q und31) Q (gH hb154 Q Q) Q (Op20 (LT.lss Q) Q Q (gH hb154 Q Q) Q (Op20 (LT.pickT (v := (Bv (decide ((s2.2.2.2.length : Int) < (s2.2.1.length : Int))))) Q hb154) Q Q Q Q (On (AWR.nil ⟨Q,Ent.of z6 z3⟩)))))))
   ·refine Ok Q Q Q (by rw [hb154]; rfl) Q (Ok Q Q Q (by rw [hb154]; rfl) Q (Ok Q Q Q (by rw [hb154]; rfl) Q (Ok Q Q Q (by rw [hb154]; rfl) Q (Ok Q Q Q (by rw [hb154]; rfl) Q (Op20 (LT.pickF (v := (Bv false)) Q hb154) Q y2 Q Q (On (AWR.nil ⟨Q,Ent.of z6 z3⟩)))))))
  ·refine AWR.cond Q (fun hc155 => ?_) (fun hc155 => ?_)
   ·refine AWR.skip (Ws (AWR.block (Ws (Wr ?_))))
    refine mv (Cc (lo 24 s2.2.2.2.length)) Q Q Q Q (Op10 (LT.lenLoc Q und37) Q Q Q (asg (Iv (s2.2.2.2.length : Int)) Q Q Q Q (On (Ws (Wr ?_)))))
    refine mv (Iv (s2.2.2.2.length : Int)) Q Q Q Q (asg (Iv (s2.2.2.2.length : Int)) Q Q Q Q (On (Ws (AWR.block ?_))))
    refine AWR.loop1 (id := 2) (m_impl_reduced_L10 s2) (fun s156 => ([(1,(Iv columns)),(7,(Cc (lo 22 s2.2.1.length))),(8,(Cc (lo 24 s2.2.2.2.length))),(9,(Iv s2.2.2.1)),(10,(Iv s2.1)),(11,(Iv (s2.2.2.2.length : Int))),(12,(Iv s156))],[(22,(.trow 37 23 (lensOf s2.2.1))),(23,(.pool 3 (rowsOf encInt s2.2.1))),(24,(pR 3 encInt s2.2.2.2))])) (fun b173 => ([(1,(Iv columns)),(7,(Cc (lo 22 b173.2.2.2.2.1.length))),(8,(Cc (lo 24 b173.2.2.2.2.2.length))),(9,(Iv b173.1)),(10,(Iv b173.2.1)),(11,(Iv b173.2.2.1)),(12,(Iv b173.2.2.2.1))],[(22,(.trow 37 23 (lensOf b173.2.2.2.2.1))),(23,(.pool 3 (rowsOf encInt b173.2.2.2.2.1))),(24,(pR 3 encInt b173.2.2.2.2.2))])) ?_ (Ent.of z7 z3) Q (fun b173 _ => ?_)
    ·intro s156
     unfold m_impl_reduced_L10
     refine Ws (Ws ?_)
     refine AWR.joinK (fun j177 => ([(1,(Iv columns)),(7,(Cc (lo 22 s2.2.1.length))),(8,(Cc (lo 24 s2.2.2.2.length))),(9,(Iv s2.2.2.1)),(10,(Iv s2.1)),(11,(Iv (s2.2.2.2.length : Int))),(12,(Iv s156)),(48,(Bv j177))],[(22,(.trow 37 23 (lensOf s2.2.1))),(23,(.pool 3 (rowsOf encInt s2.2.1))),(24,(pR 3 encInt s2.2.2.2))])) ?_ (fun j177 _ => ?_)
     ·refine Wr (mv (Iv s156) Q Q Q Q (mv (Cc (lo 22 s2.2.1.length)) Q Q Q Q (Op10 (LT.lenLoc Q und31) Q Q Q (Op20 (LT.lss Q) Q Q Q Q (mv (Bv (decide (s156 < (s2.2.1.length : Int)))) Q Q Q Q (AOR.split (fun hb178 => ?_) (fun hb178 => ?_)))))))
      ·refine mv (Cc (lo 22 s2.2.1.length)) Q Q (gH hb178 Q Q) Q (mv (Iv s156) Q Q (gH hb178 Q Q) Q (Ob' fun x179 hx179 => (Op21 (LT.xindex Q Q el31 hx179) Q Q Q (gH hb178 Q Q) Q (Op11 (LT.xload Q ag37 hx179 Q) Q Q (gH hb178 Q Q) Q (mv (Iv s2.1) Q Q (gH hb178 Q Q) Q (Ob' fun x180 hx180 => (Op21 (LT.tlindex Q Q el37 (idx_get hx179) hx180) Q Q Q (gH hb178 Q Q) Q (Op11 (LT.tlload1 (enc := encInt) (j := 0) Q ag3 (idx_get hx179) hx180 (by exact Q) (by exact Q)) Q Q (gH hb178 Q Q) Q (Op20 (LT.eql Q) Q y2 (gH hb178 Q Q) Q (Op20 (LT.pickT (v := (Bv (x180 == 0))) Q hb178) Q Q Q Q (On ?_)))))))))))
       refine AWR.nil ⟨Q,Ent.of z8 z3⟩
      ·refine Ok Q Q Q (by rw [hb178]; rfl) Q (Ok Q Q Q (by rw [hb178]; rfl) Q (Ok Q Q Q (by rw [hb178]; rfl) Q (Ok Q Q Q (by rw [hb178]; rfl) Q (Ok Q Q Q (by rw [hb178]; rfl) Q (Ok Q Q Q (by rw [hb178]; rfl) Q (Ok Q Q Q (by rw [hb178]; rfl) Q (Ok Q Q Q (by rw [hb178]; rfl) Q (Op20 (LT.pickF (v := (Bv false)) Q hb178) Q y2 Q Q (On (AWR.nil ⟨Q,Ent.of z8 z3⟩))))))))))
     ·refine AWR.cond Q (fun hc181 => ?_) (fun hc181 => ?_)
      ·refine AWR.skip (AWR.block (Wr ?_))
       refine mv (Iv s156) Q Q Q Q (Op20 (LT.add Q) Q y2 Q Q (asg (Iv (w64 (s156 + 1))) Q Q Q Q (On (AWR.blk ?_))))
       refine AWR.nil ⟨Q,Ent.of z7 z3⟩
      ·refine AWR.exit_end Q ⟨Q,Ent.of z7 z3⟩
    ·refine Ws (Ws (Wr ?_))
     refine mv (Iv b173.2.2.2.1) Q Q Q Q (mv (Cc (lo 22 b173.2.2.2.2.1.length)) Q Q Q Q (Op10 (LT.lenLoc Q und31) Q Q Q (Op20 (LT.eql Q) Q Q Q Q (On (AWR.cond Q (fun hc182 => ?_) (fun hc182 => ?_))))))
     ·refine AWR.exit Q (Wr ?_)
      refine mv (Iv b173.2.1) Q Q Q Q (Op20 (LT.add Q) Q y2 Q Q (asg (Iv (w64 (b173.2.1 + 1))) Q Q Q Q (On (AWR.nil ⟨Q,Ent.of z5 z3⟩))))
     ·refine AWR.skip (Ws (AWR.draw mixed ?_))
      refine Dp10 (LT.move (v := (Cc (lo 22 b173.2.2.2.2.1.length))) Q) Q Q Q (Dp10 (LT.move (v := (Iv b173.2.2.1)) Q) Q Q Q (Dp10 (LT.move (v := (Cc (lo 22 b173.2.2.2.2.1.length))) Q) Q Q Q (Dp10 (LT.move (v := (Iv b173.2.2.2.1)) Q) Q Q Q (Dp10 (LT.move (v := (Cc (lo 22 b173.2.2.2.2.1.length))) Q) Q Q Q (Dp10 (LT.move (v := (Iv b173.2.2.2.1)) Q) Q Q Q (AOD.bind fun x183 hx183 => (Dp21 (LT.xindex Q Q el31 hx183) Q Q Q Q Q (Dp11 (LT.xload Q ag37 hx183 Q) Q Q Q Q (Dp10 (LT.move (v := (Cc (lo 22 b173.2.2.2.2.1.length))) Q) Q Q Q (Dp10 (LT.move (v := (Iv b173.2.2.1)) Q) Q Q Q (AOD.bind fun x184 hx184 => ?_)))))))))))
      refine Dp21 (LT.xindex Q Q el31 hx184) Q Q Q Q Q (Dp11 (LT.xload Q ag37 hx184 Q) Q Q Q Q (AOD.bind fun x185 hx185 => (Dp21 (LT.xindex Q Q el31 hx185) Q Q Q Q Q (Ds21 (LT.xstore (e := 37) (p := 23) Q Q (infS inf37) sz37 hx185 Q) Q Q Q Q Q (AOD.bind fun x186 hx186 => (Dp21 (LT.xindexS Q Q el31 hx186) Q Q Q Q Q (Ds21 (LT.xstore2 (e := 37) (p := 23) Q Q (infS inf37) sz37 hx186 Q) Q Q Q Q Q (AOD.nil (by kernel_rfl) (AWR.ent (Ent.tswap (enc := encInt) (n := 22) (p := 23) (rows := b173.2.2.2.2.1) (idx_get hx184) (idx_get hx183) Q Q Q) (Ws (Wr ?_)))))))))))
      refine mv (Cc (lo 22 b173.2.2.2.2.1.length)) Q Q Q Q (mv (Iv b173.2.2.1) Q Q Q Q (Ob' fun x187 hx187 => (Op21 (LT.xindex (show b173.2.2.2.2.1.length = ((b173.2.2.2.2.1.set b173.2.2.1.toNat x183).set b173.2.2.2.1.toNat x184).length by simp only [List.length_set]) Q el31 hx187) Q Q Q Q Q (Op11 (LT.xload Q ag37 hx187 Q) Q Q Q Q (mv (Iv b173.2.1) Q Q Q Q (Ob' fun x188 hx188 => (Op21 (LT.tlindex Q Q el37 (idx_get hx187) hx188) Q Q Q Q Q (Op11 (LT.tlload1 (enc := encInt) (j := 0) Q ag3 (idx_get hx187) hx188 (by exact Q) (by exact Q)) Q Q Q Q (asg (Iv x188) Q Q Q Q (On (Ws (Ws (Wr ?_)))))))))))))
      refine mv (Cc (lo 22 b173.2.2.2.2.1.length)) Q Q Q Q (Op10 (LT.lenLoc Q und31) Q Q Q (mv (Iv 0) Q y2 Q Q (On (AWR.block ?_))))
      refine AWR.loop1 (id := 4) (m_impl_reduced_L13 columns) (fun s189 => ([(1,(Iv columns)),(7,(Cc (lo 22 s189.2.2.2.2.2.2.2.length))),(8,(Cc (lo 24 s189.2.2.2.2.2.2.1.length))),(9,(Iv s189.2.1)),(10,(Iv s189.2.2.1)),(11,(Iv s189.2.2.2.1)),(13,(Iv s189.2.2.2.2.1)),(77,(Iv s189.2.2.2.2.2.1)),(78,(Iv s189.1))],[(22,(.trow 37 23 (lensOf s189.2.2.2.2.2.2.2))),(23,(.pool 3 (rowsOf encInt s189.2.2.2.2.2.2.2))),(24,(pR 3 encInt s189.2.2.2.2.2.2.1))])) (fun b234 => ([(1,(Iv columns)),(7,(Cc (lo 22 b234.2.2.1.length))),(8,(Cc (lo 24 b234.2.2.2.length))),(10,(Iv b234.1)),(13,(Iv b234.2.1))],[(22,(.trow 37 23 (lensOf b234.2.2.1))),(23,(.pool 3 (rowsOf encInt b234.2.2.1))),(24,(pR 3 encInt b234.2.2.2))])) ?_ (Ent.of ⟨Q,(congrArg (fun l1 => (some (AV.s (.c (lo 22 l1))) : Option AV)) (show b173.2.2.2.2.1.length = ((b173.2.2.2.2.1.set b173.2.2.1.toNat x183).set b173.2.2.2.1.toNat x184).length by simp only [List.length_set])),Q,Q,Q,Q,Q,Q,Q,J⟩ z3) Q (fun b234 _ => ?_)
      ·intro s189
       unfold m_impl_reduced_L13
       refine Ws (Wr ?_)
       refine Op20 (LT.lss Q) Q Q Q Q (On (Ws ?_))
       refine AWR.cond Q (fun hc235 => ?_) (fun hc235 => ?_)
       ·refine AWR.skip (Ws (AWR.block (Ws (Wr ?_))))
        refine mv (Iv s189.1) Q Q Q Q (asg (Iv s189.1) Q Q Q Q (On (Ws (Ws (Wr ?_)))))
        refine mv (Iv s189.1) Q Q Q Q (mv (Iv s189.2.2.2.1) Q Q Q Q (Op20 (LT.eql Q) Q Q Q Q (On (AWR.cond Q (fun hc236 => ?_) (fun hc236 => ?_)))))
        ·refine AWR.exit Q (Wr ?_)
         refine Op20 (LT.add Q) Q y2 Q Q (mv (Iv (w64 (s189.1 + 1))) Q Q Q Q (On (AWR.nil ⟨Q,Ent.of z9 z3⟩)))
        ·refine AWR.skip (Ws (Wr ?_))
         refine mv (Cc (lo 22 s189.2.2.2.2.2.2.2.length)) Q Q Q Q (mv (Iv s189.1) Q Q Q Q (Ob' fun x237 hx237 => (Op21 (LT.xindex Q Q el31 hx237) Q Q Q Q Q (Op11 (LT.xload Q ag37 hx237 Q) Q Q Q Q (mv (Iv s189.2.2.1) Q Q Q Q (Ob' fun x238 hx238 => (Op21 (LT.tlindex Q Q el37 (idx_get hx237) hx238) Q Q Q Q Q (Op11 (LT.tlload1 (enc := encInt) (j := 0) Q ag3 (idx_get hx237) hx238 (by exact Q) (by exact Q)) Q Q Q Q (asg (Iv x238) Q Q Q Q (On (Ws ?_)))))))))))
         refine en [(1,(Iv columns)),(7,(Cc (lo 22 s189.2.2.2.2.2.2.2.length))),(8,(Cc (lo 24 s189.2.2.2.2.2.2.1.length))),(9,(Iv s189.2.1)),(10,(Iv s189.2.2.1)),(11,(Iv s189.2.2.2.1)),(13,(Iv s189.2.2.2.2.1)),(14,(Iv s189.1)),(15,(Iv x238)),(77,(Iv s189.2.2.2.2.2.1)),(78,(Iv s189.1))] [(22,(.trow 37 23 (lensOf s189.2.2.2.2.2.2.2))),(23,(.pool 3 (rowsOf encInt s189.2.2.2.2.2.2.2))),(24,(pR 3 encInt s189.2.2.2.2.2.2.1))] z11 z3 (Wr (mv (Iv columns) Q Q Q Q (mv (Iv 0) Q y2 Q Q (On (AWR.block ?_)))))
         refine AWR.loop1 (id := 6) (m_impl_reduced_L14 columns s189 x238) (fun s239 => ([(1,(Iv columns)),(7,(Cc (lo 22 s239.2.length))),(8,(Cc (lo 24 s189.2.2.2.2.2.2.1.length))),(9,(Iv s189.2.1)),(10,(Iv s189.2.2.1)),(11,(Iv s189.2.2.2.1)),(13,(Iv s189.2.2.2.2.1)),(14,(Iv s189.1)),(15,(Iv x238)),(77,(Iv s189.2.2.2.2.2.1)),(78,(Iv s189.1)),(91,(Iv columns)),(92,(Iv s239.1))],[(22,(.trow 37 23 (lensOf s239.2))),(23,(.pool 3 (rowsOf encInt s239.2))),(24,(pR 3 encInt s189.2.2.2.2.2.2.1))])) (fun b256 => ([(1,(Iv columns)),(7,(Cc (lo 22 b256.2.2.2.2.2.2.1.length))),(8,(Cc (lo 24 b256.2.2.2.2.2.2.2.length))),(9,(Iv b256.1)),(10,(Iv b256.2.1)),(11,(Iv b256.2.2.1)),(13,(Iv b256.2.2.2.1)),(77,(Iv b256.2.2.2.2.1)),(78,(Iv b256.2.2.2.2.2.1))],[(22,(.trow 37 23 (lensOf b256.2.2.2.2.2.2.1))),(23,(.pool 3 (rowsOf encInt b256.2.2.2.2.2.2.1))),(24,(pR 3 encInt b256.2.2.2.2.2.2.2))])) ?_ (Ent.of z13 z3) Q (fun b256 _ => ?_)
         ·intro s239
          unfold m_impl_reduced_L14
          refine Ws (Wr ?_)
          refine Op20 (LT.lss Q) Q Q Q Q (On (Ws ?_))
          refine AWR.cond Q (fun hc257 => ?_) (fun hc257 => ?_)
          ·refine AWR.skip (Ws (AWR.block (Ws (Wr ?_))))
           refine mv (Iv s239.1) Q Q Q Q (asg (Iv s239.1) Q Q Q Q (On (AWR.draw mixed ?_)))
           refine Dp10 (LT.move (v := (Cc (lo 22 s239.2.length))) Q) Q Q Q (Dp10 (LT.move (v := (Iv s189.1)) Q) Q Q Q (AOD.bind fun x258 hx258 => (Dp21 (LT.xindex Q Q el31 hx258) Q Q Q Q Q (Dp11 (LT.xload Q ag37 hx258 Q) Q Q Q Q (Dp10 (LT.move (v := (Iv s239.1)) Q) Q Q Q (Dp10 (LT.move (v := (Iv s189.2.2.2.2.1)) Q) Q Q Q (Dp10 (LT.move (v := (Cc (lo 22 s239.2.length))) Q) Q Q Q (Dp10 (LT.move (v := (Iv s189.1)) Q) Q Q Q (AOD.bind fun x259 hx259 => (Dp21 (LT.xindex Q Q el31 hx259) Q Q Q Q Q (Dp11 (LT.xload Q ag37 hx259 Q) Q Q Q Q ?_)))))))))))
           refine Dp10 (LT.move (v := (Iv s239.1)) Q) Q Q Q (AOD.bind fun x260 hx260 => (Dp21 (LT.tlindex Q Q el37 (idx_get hx259) hx260) Q Q Q Q Q (Dp11 (LT.tlload1 (enc := encInt) (j := 0) Q ag3 (idx_get hx259) hx260 (by exact Q) (by exact Q)) Q Q Q Q (Dp20 (LT.mul Q) Q Q Q Q (Dp10 (LT.move (v := (Iv x238)) Q) Q Q Q (Dp10 (LT.move (v := (Cc (lo 22 s239.2.length))) Q) Q Q Q (Dp10 (LT.move (v := (Iv s189.2.2.2.1)) Q) Q Q Q (AOD.bind fun x261 hx261 => (Dp21 (LT.xindex Q Q el31 hx261) Q Q Q Q Q (Dp11 (LT.xload Q ag37 hx261 Q) Q Q Q Q (Dp10 (LT.move (v := (Iv s239.1)) Q) Q Q Q ?_)))))))))))
           refine AOD.bind fun x262 hx262 => (Dp21 (LT.tlindex Q Q el37 (idx_get hx261) hx262) Q Q Q Q Q (Dp11 (LT.tlload1 (enc := encInt) (j := 0) Q ag3 (idx_get hx261) hx262 (by exact Q) (by exact Q)) Q Q Q Q (Dp20 (LT.mul Q) Q Q Q Q (Dp20 (LT.sub Q) Q Q Q Q (Dp10 (LT.move (v := (Iv s189.2.1)) Q) Q Q Q (AOD.bind fun u263 hu263 => (Dp20 (LT.quo Q (nz_ne hu263)) Q Q Q Q (AOD.bind fun x264 hx264 => (Dp21 (LT.tlindex Q Q el37 (idx_get hx258) hx264) Q Q Q Q Q (Ds21 (LT.tlstore (enc := encInt) (j := 0) (b' := (w64 (Int.tdiv (w64 ((w64 (s189.2.2.2.2.1 * x260)) - (w64 (x238 * x262)))) s189.2.1))) (v := (.int .i64 (w64 (Int.tdiv (w64 ((w64 (s189.2.2.2.2.1 * x260)) - (w64 (x238 * x262)))) s189.2.1)))) 25 Q Q (infS inf3) sz3 Q (idx_get hx258) hx264 (by exact Q) (by exact K Q) (by exact Q) Q) Q Q Q Q Q (AOD.nil (by kernel_rfl) ?_)))))))))))
           refine AWR.ent (Ent.lens (n := 22) (lens_set (r' := (x258.set s239.1.toNat (w64 (Int.tdiv (w64 ((w64 (s189.2.2.2.2.1 * x260)) - (w64 (x238 * x262)))) s189.2.1)))) (idx_get hx258) (List.length_set ..)) Q) (AWR.blk (en [(1,(Iv columns)),(7,(Cc (lo 22 s239.2.length))),(8,(Cc (lo 24 s189.2.2.2.2.2.2.1.length))),(9,(Iv s189.2.1)),(10,(Iv s189.2.2.1)),(11,(Iv s189.2.2.2.1)),(13,(Iv s189.2.2.2.2.1)),(14,(Iv s189.1)),(15,(Iv x238)),(77,(Iv s189.2.2.2.2.2.1)),(78,(Iv s189.1)),(91,(Iv columns)),(92,(Iv s239.1))] [(22,(.trow 37 23 (lensOf (s239.2.set s189.1.toNat (x258.set s239.1.toNat (w64 (Int.tdiv (w64 ((w64 (s189.2.2.2.2.1 * x260)) - (w64 (x238 * x262)))) s189.2.1))))))),(23,(.pool 3 (rowsOf encInt (s239.2.set s189.1.toNat (x258.set s239.1.toNat (w64 (Int.tdiv (w64 ((w64 (s189.2.2.2.2.1 * x260)) - (w64 (x238 * x262)))) s189.2.1))))))),(24,(pR 3 encInt s189.2.2.2.2.2.2.1))] z13 z3 (Wr (Op20 (LT.add Q) Q y2 Q Q (mv (Iv (w64 (s239.1 + 1))) Q Q Q Q (On (AWR.nil ⟨Q,Ent.of ⟨Q,(congrArg (fun l1 => (some (AV.s (.c (lo 22 l1))) : Option AV)) (show s239.2.length = (s239.2.set s189.1.toNat (x258.set s239.1.toNat (w64 (Int.tdiv (w64 ((w64 (s189.2.2.2.2.1 * x260)) - (w64 (x238 * x262)))) s189.2.1)))).length by simp only [List.length_set])),Q,Q,Q,Q,Q,Q,Q,Q,Q,Q,Q,J⟩ z3⟩)))))))
          ·refine AWR.exit_end Q ⟨Q,Ent.of z9 z3⟩
         ·refine AWR.blk (Wr ?_)
          refine Op20 (LT.add Q) Q y2 Q Q (mv (Iv (w64 (b256.2.2.2.2.2.1 + 1))) Q Q Q Q (On (AWR.nil ⟨Q,Ent.of z9 z3⟩)))
       ·refine AWR.exit_end Q ⟨Q,Ent.of z5 z3⟩
      ·refine Ws (Wr ?_)
       refine mv (Cc (lo 24 b234.2.2.2.length)) Q Q Q Q (mv (Iv b234.1) Q Q Q Q (Os10 (LT.tbuildSlice (n := 26) (enc := encInt) [(0,.tmp 125,(.c (iC b234.1)))] ([b234.1] : List Int) Q Q und37 ti3 Q Q Q Q (by decide) (fun _ => Q) Q) Q Q Q (Ob' fun u265 hu265 => (Os22 (LT.tappP (enc := encInt) Q Q Q und37 ti3 Q (by decide) (by decide) (fun _ => Q) (lim_le hu265)) Q Q Q Q Q Q (asg (Cc (lo 24 ((b234.2.2.2 ++ ([b234.1] : List Int)).length))) Q Q Q Q (On (Wr ?_)))))))
       refine mv (Iv b234.2.1) Q Q Q Q (asg (Iv b234.2.1) Q Q Q Q (On (AWR.blk ?_)))
       refine en [(1,(Iv columns)),(7,(Cc (lo 22 b234.2.2.1.length))),(8,(Cc (lo 24 ((b234.2.2.2 ++ ([b234.1] : List Int)).length)))),(9,(Iv b234.2.1)),(10,(Iv b234.1))] [(22,(.trow 37 23 (lensOf b234.2.2.1))),(23,(.pool 3 (rowsOf encInt b234.2.2.1))),(24,(pR 3 encInt (b234.2.2.2 ++ ([b234.1] : List Int))))] z5 z3 (Wr (mv (Iv b234.1) Q Q Q Q (Op20 (LT.add Q) Q y2 Q Q (asg (Iv (w64 (b234.1 + 1))) Q Q Q Q (On (AWR.nil ⟨Q,Ent.of z5 z3⟩))))))
   ·refine AWR.exit_end Q ⟨Q,Ent.of z3 z3⟩
 ·refine Ws (Wr ?_)
  refine mv (Cc (lo 22 b151.2.1.length)) Q Q Q Q (mv (Cc (lo 24 b151.2.2.length)) Q Q Q Q (mv (Iv b151.1) Q Q Q Q (asg (Cc (lo 22 b151.2.1.length)) Q Q Q Q (asg (Cc (lo 24 b151.2.2.length)) Q Q Q Q (asg (Iv b151.1) Q Q Q Q (On (en [(4,(Cc (lo 22 b151.2.1.length))),(5,(Cc (lo 24 b151.2.2.length))),(6,(Iv b151.1))] [(22,(.trow 37 23 (lensOf b151.2.1))),(23,(.pool 3 (rowsOf encInt b151.2.1))),(24,(pR 3 encInt b151.2.2))] z3 z3 (AWR.ent (Ent.mv 22 0 Q Q) (AWR.ent (Ent.mv 24 2 Q Q) (AWR.ent (Ent.mv 23 1 Q Q) (en [(4,(Cc (lo 0 b151.2.1.length))),(5,(Cc (lo 2 b151.2.2.length))),(6,(Iv b151.1))] [(0,(.trow 37 1 (lensOf b151.2.1))),(1,(.pool 3 (rowsOf encInt b151.2.1))),(2,(pR 3 encInt b151.2.2))] z3 z3 ?_)))))))))))
  refine AWR.ret (FPost.mk (.inr Q) z3 z3 Q ⟨J,J,PermP.sc,J⟩ ⟨J,PermO.poolR perm_encInt _,PermO.prow' perm_encInt,J⟩)
theorem w_spec_IsFramework (f : TFramework) : ∀ t,m_spec_IsFramework f = some t → Fw.Fn Try.prog 15 [(.agg [(iC f.Graph.Points),(xF encTBar f.Graph.Bars),(xF encTPlace f.Places)])] [] (.s (.c (bC t))) [] [] [] := by
 refine Fw.Fn.of (P := Try.prog) (X := []) (pn := []) (rs := (fun (t : Bool) => [(.c (bC t))])) (dfs := (fun (t : Bool) => [])) Try.func15 Q Try.ntmps15 (K Q) Q ?_
 intro w0 U0 R0 g0
 unfold m_spec_IsFramework
 refine Ws (Wr ?_)
 refine Os10 (LT.box (n := 21) (v := (.agg [(iC f.Graph.Points),(xF encTBar f.Graph.Bars),(xF encTPlace f.Places)])) Q sz29 (by exact Q)) Q Q Q (asg (Bv false) Q y2 Q Q (On (Ws (Ws ?_))))
 refine AWR.joinK (fun j5 => ([(1,(Cc (.pl 21 0))),(31,(Bv j5))],[(21,(.row 29 [[(iC f.Graph.Points),(xF encTBar f.Graph.Bars),(xF encTPlace f.Places)]]))])) ?_ (fun j5 _ => ?_)
 ·refine Wr (Op10 (LT.fieldPl Q fo29_0) Q Q Q (Op11 (LT.bloadN (out := [(iC f.Graph.Points),(xF encTBar f.Graph.Bars)]) Q ag26 (infS inf26) sz26 (by exact Q) (by exact Q)) Q Q Q Q (Ob' fun r6 hr6 => (AOR.pure (@LT.callF Try.prog _ _ 109 _ _ [(.agg [(iC f.Graph.Points),(xF encTBar f.Graph.Bars)])] _ _ [] _ _ _ _ (w_spec_IsGraph f.Graph r6 hr6) Q cb109 (.cons (.agg (.cons (.same Q) (.cons (.same Q) .nil))) .nil) Q Q J) z2 J Q Q (Op10 (LT.not Q) Q Q Q (mv (Bv (!r6)) Q Q Q Q (AOR.split (fun hb7 => ?_) (fun hb7 => ?_))))))))
  ·refine Ok Q Q Q (by rw [hb7]; rfl) Q (Ok Q Q Q (by rw [hb7]; rfl) Q (Ok Q Q Q (by rw [hb7]; rfl) Q (Ok Q Q Q (by rw [hb7]; rfl) Q (Op20 (LT.pickT (v := (Bv true)) Q hb7) Q y2 Q Q (mv (Bv true) Q Q Q Q (Ok Q Q Q Q Q (Ok Q Q Q Q Q (Ok Q Q Q Q Q (Ok Q Q Q Q Q (Ok Q Q Q Q Q (Ok Q Q Q Q Q ?_)))))))))))
   refine Ok Q Q Q Q Q (Op20 (LT.pickT (v := (Bv true)) Q Q) Q y2 Q Q (mv (Bv true) Q Q Q Q (Ok Q Q Q Q Q (Ok Q Q Q Q Q (Ok Q Q Q Q Q (Ok Q Q Q Q Q (Ok Q Q Q Q Q (Op20 (LT.pickT (v := (Bv true)) Q Q) Q y2 Q Q (On (AWR.nil ⟨Q,Ent.of z2 z1⟩))))))))))
  ·refine Op10 (LT.fieldPl Q fo29_0) Q (gH hb7 Q Q) Q (Op10 (LT.fieldPl Q fo26_0) Q (gH hb7 Q Q) Q (Op11 (LT.bload1 (c := (iC f.Graph.Points)) Q ag3 (by exact Q)) Q Q (gH hb7 Q Q) Q (Op20 (LT.gtr Q) Q y2 (gH hb7 Q Q) Q (Op20 (LT.pickF (v := (Bv (decide (6 < f.Graph.Points)))) Q hb7) Q Q Q Q (mv (Bv (decide (6 < f.Graph.Points))) Q Q Q Q (AOR.split (fun hb8 => ?_) (fun hb8 => ?_)))))))
   ·refine Ok Q Q Q (by rw [hb8]; rfl) Q (Ok Q Q Q (by rw [hb8]; rfl) Q (Ok Q Q Q (by rw [hb8]; rfl) Q (Ok Q Q Q (by rw [hb8]; rfl) Q (Ok Q Q Q (by rw [hb8]; rfl) Q (Ok Q Q Q (by rw [hb8]; rfl) Q (Ok Q Q Q (by rw [hb8]; rfl) Q (Op20 (LT.pickT (v := (Bv true)) Q hb8) Q y2 Q Q (mv (Bv true) Q Q Q Q (Ok Q Q Q Q Q (Ok Q Q Q Q Q (Ok Q Q Q Q Q ?_)))))))))))
    refine Ok Q Q Q Q Q (Ok Q Q Q Q Q (Op20 (LT.pickT (v := (Bv true)) Q Q) Q y2 Q Q (On (AWR.nil ⟨Q,Ent.of z2 z1⟩))))
   ·refine Op10 (LT.fieldPl Q fo29_1) Q (gH hb8 Q Q) Q (Op11 (LT.bload1 (c := (xF encTPlace f.Places)) Q ag27 (by exact Q)) Q Q (gH hb8 Q Q) Q (Op10 (LT.tlenRO Q und27) Q (gH hb8 Q Q) Q (Op10 (LT.fieldPl Q fo29_0) Q (gH hb8 Q Q) Q (Op10 (LT.fieldPl Q fo26_0) Q (gH hb8 Q Q) Q (Op11 (LT.bload1 (c := (iC f.Graph.Points)) Q ag3 (by exact Q)) Q Q (gH hb8 Q Q) Q (Op20 (LT.neq Q) Q Q (gH hb8 Q Q) Q (Op20 (LT.pickF (v := (Bv ((f.Places.length : Int) != f.Graph.Points))) Q hb8) Q Q Q Q (mv (Bv ((f.Places.length : Int) != f.Graph.Points)) Q Q Q Q (AOR.split (fun hb9 => ?_) (fun hb9 => ?_))))))))))
    ·refine Ok Q Q Q (by rw [hb9]; rfl) Q (Ok Q Q Q (by rw [hb9]; rfl) Q (Ok Q Q Q (by rw [hb9]; rfl) Q (Ok Q Q Q (by rw [hb9]; rfl) Q (Ok Q Q Q (by rw [hb9]; rfl) Q (Op20 (LT.pickT (v := (Bv true)) Q hb9) Q y2 Q Q (On (AWR.nil ⟨Q,Ent.of z2 z1⟩)))))))
    ·refine Op10 (LT.fieldPl Q fo29_0) Q (gH hb9 Q Q) Q (Op10 (LT.fieldPl Q fo26_1) Q (gH hb9 Q Q) Q (Op11 (LT.bload1 (c := (xF encTBar f.Graph.Bars)) Q ag24 (by exact Q)) Q Q (gH hb9 Q Q) Q (Op10 (LT.tlenRO Q und24) Q (gH hb9 Q Q) Q (Op20 (LT.gtr Q) Q y2 (gH hb9 Q Q) Q (Op20 (LT.pickF (v := (Bv (decide (15 < (f.Graph.Bars.length : Int))))) Q hb9) Q Q Q Q (On (AWR.nil ⟨Q,Ent.of z2 z1⟩)))))))
 ·refine AWR.cond Q (fun hc10 => ?_) (fun hc10 => ?_)
  ·refine Ws (Wr ?_)
   refine asg (Bv false) Q y2 Q Q (On (AWR.ret (FPost.mk (.inr Q) z1 J Q ⟨PermP.sc,J⟩ J)))
  ·refine AWR.skip (Ws (Ws (Wr ?_)))
   refine asg (Iv 0) Q y2 Q Q (On (AWR.block ?_))
   refine AWR.loopR (id := 0) (m_spec_IsFramework_L1 f) (fun s11 => ([(1,(Cc (.pl 21 0))),(3,(Iv s11))],[(21,(.row 29 [[(iC f.Graph.Points),(xF encTBar f.Graph.Bars),(xF encTPlace f.Places)]]))])) (fun b38 => ([(1,(Cc (.pl 21 0)))],[(21,(.row 29 [[(iC f.Graph.Points),(xF encTBar f.Graph.Bars),(xF encTPlace f.Places)]]))])) (FPost Try.prog Try.f15.results.toList [] [] (fun (t : Bool) => [(.c (bC t))]) (fun (t : Bool) => [])) ?_ (Ent.of z2 z1) Q (fun b38 _ => ?_) (by intro r t σ m ht hk; injection ht with ht; subst ht; exact hk)
   ·intro s11
    unfold m_spec_IsFramework_L1
    refine Ws (Ws (Wr ?_))
    refine mv (Iv s11) Q Q Q Q (Op10 (LT.fieldPl Q fo29_1) Q Q Q (Op11 (LT.bload1 (c := (xF encTPlace f.Places)) Q ag27 (by exact Q)) Q Q Q Q (Op10 (LT.tlenRO Q und27) Q Q Q (Op20 (LT.lss Q) Q Q Q Q (On (AWR.cond Q (fun hc39 => ?_) (fun hc39 => ?_)))))))
    ·refine AWR.skip (Ws (AWR.block (Ws ?_)))
     refine AWR.joinK (fun j45 => ([(1,(Cc (.pl 21 0))),(3,(Iv s11)),(56,(Bv j45))],[(21,(.row 29 [[(iC f.Graph.Points),(xF encTBar f.Graph.Bars),(xF encTPlace f.Places)]]))])) ?_ (fun j45 _ => ?_)
     ·refine Wr (Op10 (LT.fieldPl Q fo29_1) Q Q Q (Op11 (LT.bload1 (c := (xF encTPlace f.Places)) Q ag27 (by exact Q)) Q Q Q Q (mv (Iv s11) Q Q Q Q (Ob' fun x46 hx46 => (Op20 (LT.tindexRO (enc := encTPlace) Q el27 hx46 sz94) Q Q Q Q (Op10 (LT.fieldPx Q fo94_0) Q Q Q (Op10 (LT.loadPx1 Q ag3) Q Q Q (Ob' fun r47 hr47 => (AOR.pure (@LT.callF Try.prog _ _ 110 _ _ [(.c (iC x46.X)),(.c (iC 0)),(.c (iC 4))] _ _ [] _ _ _ _ (w_spec_l1In x46.X 0 4 r47 hr47) Q cb110 (.cons (.c (.same Q)) (.cons (.c (.same Q)) (.cons (.c (.same Q)) .nil))) Q Q J) ⟨Q,Q,y2,y2,J⟩ J Q Q (Op10 (LT.not Q) Q Q Q (mv (Bv (!r47)) Q Q Q Q ?_)))))))))))
      refine AOR.split (fun hb48 => ?_) (fun hb48 => ?_)
      ·refine Ok Q Q Q (by rw [hb48]; rfl) Q (Ok Q Q Q (by rw [hb48]; rfl) Q (Ok Q Q Q (by rw [hb48]; rfl) Q (Ok Q Q Q (by rw [hb48]; rfl) Q (Ok Q Q Q (by rw [hb48]; rfl) Q (Ok Q Q Q (by rw [hb48]; rfl) Q (Ok Q Q Q (by rw [hb48]; rfl) Q (Ok Q Q Q (by rw [hb48]; rfl) Q (Op20 (LT.pickT (v := (Bv true)) Q hb48) Q y2 Q Q (On (AWR.nil ⟨Q,Ent.of z3 z1⟩))))))))))
      ·refine Op10 (LT.fieldPl Q fo29_1) Q (gH hb48 Q Q) Q (Op11 (LT.bload1 (c := (xF encTPlace f.Places)) Q ag27 (by exact Q)) Q Q (gH hb48 Q Q) Q (mv (Iv s11) Q Q (gH hb48 Q Q) Q (Ob' fun x49 hx49 => (Op20 (LT.tindexRO (enc := encTPlace) Q el27 hx49 sz94) Q Q (gH hb48 Q Q) Q (Op10 (LT.fieldPx Q fo94_1) Q (gH hb48 Q Q) Q (Op10 (LT.loadPx1 Q ag3) Q (gH hb48 Q Q) Q (Ob' fun r50 hr50 => (AOR.pure (@LT.callF Try.prog _ _ 110 _ _ [(.c (iC x49.Y)),(.c (iC 0)),(.c (iC 4))] _ _ [] _ _ _ _ (w_spec_l1In x49.Y 0 4 r50 hr50) Q cb110 (.cons (.c (.same Q)) (.cons (.c (.same Q)) (.cons (.c (.same Q)) .nil))) Q Q J) ⟨Q,Q,y2,y2,J⟩ J (gH hb48 Q Q) Q (Op10 (LT.not Q) Q (gH hb48 Q Q) Q (Op20 (LT.pickF (v := (Bv (!r50))) Q hb48) Q Q Q Q (On ?_)))))))))))
       refine AWR.nil ⟨Q,Ent.of z3 z1⟩
     ·refine AWR.cond Q (fun hc51 => ?_) (fun hc51 => ?_)
      ·refine Ws (Wr ?_)
       refine asg (Bv false) Q y2 Q Q (On (AWR.ret ⟨Q,FPost.mk (.inr Q) z1 J Q ⟨PermP.sc,J⟩ J⟩))
      ·refine AWR.skip (AWR.blk (Wr ?_))
       refine mv (Iv s11) Q Q Q Q (Op20 (LT.add Q) Q y2 Q Q (asg (Iv (w64 (s11 + 1))) Q Q Q Q (On (AWR.nil ⟨Q,Ent.of z2 z1⟩))))
    ·refine AWR.exit_end Q ⟨Q,Ent.of z1 z1⟩
   ·refine Ws (Ws (Wr ?_))
    refine asg (Iv 0) Q y2 Q Q (On (AWR.block ?_))
    refine AWR.loopR (id := 2) (m_spec_IsFramework_L2 f) (fun s52 => ([(1,(Cc (.pl 21 0))),(4,(Iv s52))],[(21,(.row 29 [[(iC f.Graph.Points),(xF encTBar f.Graph.Bars),(xF encTPlace f.Places)]]))])) (fun b81 => ([],[])) (FPost Try.prog Try.f15.results.toList [] [] (fun (t : Bool) => [(.c (bC t))]) (fun (t : Bool) => [])) ?_ (Ent.of z2 z1) Q (fun b81 _ => ?_) (by intro r t σ m ht hk; injection ht with ht; subst ht; exact hk)
    ·intro s52
     unfold m_spec_IsFramework_L2
     refine Ws (Ws (Wr ?_))
     refine mv (Iv s52) Q Q Q Q (Op10 (LT.fieldPl Q fo29_0) Q Q Q (Op10 (LT.fieldPl Q fo26_1) Q Q Q (Op11 (LT.bload1 (c := (xF encTBar f.Graph.Bars)) Q ag24 (by exact Q)) Q Q Q Q (Op10 (LT.tlenRO Q und24) Q Q Q (Op20 (LT.lss Q) Q Q Q Q (On (AWR.cond Q (fun hc82 => ?_) (fun hc82 => ?_))))))))
     ·refine AWR.skip (Ws (AWR.block (Ws (Wr ?_))))
      refine Op10 (LT.fieldPl Q fo29_0) Q Q Q (Op10 (LT.fieldPl Q fo26_1) Q Q Q (Op11 (LT.bload1 (c := (xF encTBar f.Graph.Bars)) Q ag24 (by exact Q)) Q Q Q Q (mv (Iv s52) Q Q Q Q (Ob' fun x83 hx83 => (Op20 (LT.tindexRO (enc := encTBar) Q el24 hx83 sz62) Q Q Q Q (Op10 (LT.loadPxN Q ag62 (infS inf62) (by exact sz62.symm)) Q Q Q (Os00 (LT.alloc (n := 25) (cells := [(iC 0),(iC 0)]) Q ti62 Q Q Q) Q Q (Os21 (LT.bstore (v := (.agg [(iC x83.A),(iC x83.B)])) (out := [(iC x83.A),(iC x83.B)]) Q Q (infS inf62) sz62 (by exact Q) (by exact K Q) (by exact Q)) Q Q Q Q Q (On (Ws ?_))))))))))
      refine AWR.joinK (fun j89 => ([(1,(Cc (.pl 21 0))),(4,(Iv s52)),(98,(Bv j89))],[(21,(.row 29 [[(iC f.Graph.Points),(xF encTBar f.Graph.Bars),(xF encTPlace f.Places)]]))])) ?_ (fun j89 _ => ?_)
      ·refine en [(1,(Cc (.pl 21 0))),(4,(Iv s52)),(5,(Cc (.pl 25 0)))] [(21,(.row 29 [[(iC f.Graph.Points),(xF encTBar f.Graph.Bars),(xF encTPlace f.Places)]])),(25,(.row 62 [[(iC x83.A),(iC x83.B)]]))] z3 z2 (AWR.draw mixed (Dp10 (LT.fieldPl Q fo29_1) Q Q Q (Dp11 (LT.bload1 (c := (xF encTPlace f.Places)) Q ag27 (by exact Q)) Q Q Q Q (Dp10 (LT.fieldPl Q fo62_0) Q Q Q (Dp11 (LT.bload1 (c := (iC x83.A)) Q ag3 (by exact Q)) Q Q Q Q (AOD.bind fun x90 hx90 => (Dp20 (LT.tindexRO (enc := encTPlace) Q el27 hx90 sz94) Q Q Q Q (Dp10 (LT.loadPxN Q ag94 (infS inf94) (by exact sz94.symm)) Q Q Q (Dp10 (LT.fieldPl Q fo29_1) Q Q Q (Dp11 (LT.bload1 (c := (xF encTPlace f.Places)) Q ag27 (by exact Q)) Q Q Q Q (Dp10 (LT.fieldPl Q fo62_1) Q Q Q ?_)))))))))))
       refine Dp11 (LT.bload1 (c := (iC x83.B)) Q ag3 (by exact Q)) Q Q Q Q (AOD.bind fun x91 hx91 => (Dp20 (LT.tindexRO (enc := encTPlace) Q el27 hx91 sz94) Q Q Q Q (Dp10 (LT.loadPxN Q ag94 (infS inf94) (by exact sz94.symm)) Q Q Q (Dp20 (LT.eqlStruct [x90.X,x90.Y] [x91.X,x91.Y] Q ist94 Q Q) Q Q Q Q (Dp10 (LT.move (v := (Bv (eqI [x90.X,x90.Y] [x91.X,x91.Y]))) Q) Q Q Q (AOD.split (fun hb92 => ?_) (fun hb92 => ?_)))))))
       ·refine AOD.skip (gH hb92 Q Q) Q (AOD.skip (gH hb92 Q Q) Q (AOD.skip (gH hb92 Q Q) Q (AOD.skip (gS Q Q) Q (AOD.skip (gS Q Q) Q (AOD.skip (gS Q Q) Q (AOD.skip (gS Q Q) Q (AOD.skip (gS Q Q) Q (AOD.skip (gS Q Q) Q (AOD.skip (gS Q Q) Q (AOD.skip (gS Q Q) Q (AOD.skip (gS Q Q) Q ?_)))))))))))
        refine AOD.skip (gH hb92 Q Q) Q (Dp20 (LT.pickT (v := (Bv true)) Q hb92) Q y2 Q Q (AOD.nil (by kernel_rfl) (AWR.nil ⟨Q,Ent.of z3 z1⟩)))
       ·refine Dp10 (LT.move (v := (Iv s52)) Q) Q (gH hb92 Q Q) Q (Dp20 (LT.gtr Q) Q y2 (gH hb92 Q Q) Q (Dp10 (LT.move (v := (Bv (decide (0 < s52)))) Q) Q (gH hb92 Q Q) Q (AOD.split (fun hb93 => ?_) (fun hb93 => ?_))))
        ·refine Dp10 (LT.fieldPl Q fo29_0) Q (gH hb93 Q Q) Q (Dp10 (LT.fieldPl Q fo26_1) Q (gH hb93 Q Q) Q (Dp11 (LT.bload1 (c := (xF encTBar f.Graph.Bars)) Q ag24 (by exact Q)) Q Q (gH hb93 Q Q) Q (Dp10 (LT.move (v := (Iv s52)) Q) Q (gH hb93 Q Q) Q (Dp20 (LT.sub Q) Q y2 (gH hb93 Q Q) Q (AOD.bind fun x94 hx94 => (Dp20 (LT.tindexRO (enc := encTBar) Q el24 hx94 sz62) Q Q (gH hb93 Q Q) Q (Dp10 (LT.loadPxN Q ag62 (infS inf62) (by exact sz62.symm)) Q (gH hb93 Q Q) Q (Dp11 (LT.bloadN (out := [(iC x83.A),(iC x83.B)]) Q ag62 (infS inf62) sz62 (by exact Q) (by exact Q)) Q Q (gH hb93 Q Q) Q (Dp20 (LT.eqlStruct [x94.A,x94.B] [x83.A,x83.B] Q ist62 Q Q) Q Q (gH hb93 Q Q) Q (Dp20 (LT.pickT (v := (Bv (eqI [x94.A,x94.B] [x83.A,x83.B]))) Q hb93) Q Q (gH hb92 Q Q) Q (Dp20 (LT.pickF (v := (Bv (eqI [x94.A,x94.B] [x83.A,x83.B]))) Q hb92) Q Q Q Q ?_)))))))))))
         refine AOD.nil (by kernel_rfl) (AWR.nil ⟨Q,Ent.of z3 z1⟩)
        ·refine AOD.skip (gH hb93 Q Q) Q (AOD.skip (gH hb93 Q Q) Q (AOD.skip (gH hb93 Q Q) Q (AOD.skip (gH hb93 Q Q) Q (AOD.skip (gH hb93 Q Q) Q (AOD.skip (gH hb93 Q Q) Q (AOD.skip (gH hb93 Q Q) Q (AOD.skip (gH hb93 Q Q) Q (AOD.skip (gH hb93 Q Q) Q (Dp20 (LT.pickF (v := (Bv false)) Q hb93) Q y2 (gH hb92 Q Q) Q (Dp20 (LT.pickF (v := (Bv false)) Q hb92) Q Q Q Q (AOD.nil (by kernel_rfl) ?_)))))))))))
         refine AWR.nil ⟨Q,Ent.of z3 z1⟩
      ·refine AWR.cond Q (fun hc95 => ?_) (fun hc95 => ?_)
       ·refine Ws (Wr ?_)
        refine asg (Bv false) Q y2 Q Q (On (AWR.ret ⟨Q,FPost.mk (.inr Q) z1 J Q ⟨PermP.sc,J⟩ J⟩))
       ·refine AWR.skip (AWR.blk (Wr ?_))
        refine mv (Iv s52) Q Q Q Q (Op20 (LT.add Q) Q y2 Q Q (asg (Iv (w64 (s52 + 1))) Q Q Q Q (On (AWR.nil ⟨Q,Ent.of z2 z1⟩))))
     ·refine AWR.exit_end Q ⟨Q,Ent.of J J⟩
    ·refine Ws (Wr ?_)
     refine asg (Bv true) Q y2 Q Q (On (AWR.ret (FPost.mk (.inr Q) z1 J Q ⟨PermP.sc,J⟩ J)))
theorem w_spec_RigidityMatrix (f : TFramework) : ∀ t,m_spec_RigidityMatrix f = some t → Fw.Fn Try.prog 46 [(.agg [(iC f.Graph.Points),(xF encTBar f.Graph.Bars),(xF encTPlace f.Places)])] [] (.s (.c (lo 0 t.length))) [(0,(pR 37 (encLInt true) t))] [] [0] := by
 refine Fw.Fn.ofU (P := Try.prog) (X := [0]) (pn := []) (rs := (fun (t : (List (List Int))) => [(.c (lo 0 t.length))])) (dfs := (fun (t : (List (List Int))) => [(0,(pR 37 (encLInt true) t))])) Try.func46 Q Try.ntmps46 (K Q) Q ?_
 intro w0 U0 R0 g0 hU
 unfold m_spec_RigidityMatrix
 refine Ws (Wr ?_)
 refine Os10 (LT.box (n := 21) (v := (.agg [(iC f.Graph.Points),(xF encTBar f.Graph.Bars),(xF encTPlace f.Places)])) Q sz29 (by exact Q)) Q Q Q (asg (Cc (sC nilV)) Q y2 Q Q (On (Ws (Wr ?_))))
 refine Os00 (LT.tbuildSlice (n := 22) (enc := (encLInt true)) [] ([] : List (List Int)) Q Q und31 ti37 Q Q Q Q (by decide) (fun _ => Q) Q) Q Q (asg (Cc (lo 22 (([] : List (List Int)).length))) Q Q Q Q (On (Ws (Ws (Wr ?_)))))
 refine asg (Iv 0) Q y2 Q Q (On (AWR.block ?_))
 refine AWR.loop1 (id := 0) (m_spec_RigidityMatrix_L1 f) (fun s1 => ([(1,(Cc (.pl 21 0))),(3,(Cc (lo 22 s1.2.length))),(4,(Iv s1.1))],[(21,(.row 29 [[(iC f.Graph.Points),(xF encTBar f.Graph.Bars),(xF encTPlace f.Places)]])),(22,(pR 37 (encLInt true) s1.2))])) (fun b36 => ([(3,(Cc (lo 22 b36.length)))],[(22,(pR 37 (encLInt true) b36))])) ?_ (Ent.of z3 z2) Q (fun b36 _ => ?_)
 ·intro s1
  unfold m_spec_RigidityMatrix_L1
  refine Ws (Ws ?_)
  refine AWR.joinK (fun j39 => ([(1,(Cc (.pl 21 0))),(3,(Cc (lo 22 s1.2.length))),(4,(Iv s1.1)),(19,(Bv j39))],[(21,(.row 29 [[(iC f.Graph.Points),(xF encTBar f.Graph.Bars),(xF encTPlace f.Places)]])),(22,(pR 37 (encLInt true) s1.2))])) ?_ (fun j39 _ => ?_)
  ·refine Wr (mv (Iv s1.1) Q Q Q Q (Op10 (LT.fieldPl Q fo29_0) Q Q Q (Op10 (LT.fieldPl Q fo26_1) Q Q Q (Op11 (LT.bload1 (c := (xF encTBar f.Graph.Bars)) Q ag24 (by exact Q)) Q Q Q Q (Op10 (LT.tlenRO Q und24) Q Q Q (Op20 (LT.lss Q) Q Q Q Q (mv (Bv (decide (s1.1 < (f.Graph.Bars.length : Int)))) Q Q Q Q (AOR.split (fun hb40 => ?_) (fun hb40 => ?_)))))))))
   ·refine Op11 (LT.bloadN (out := [(iC f.Graph.Points),(xF encTBar f.Graph.Bars),(xF encTPlace f.Places)]) Q ag29 (infS inf29) sz29 (by exact Q) (by exact Q)) Q Q (gH hb40 Q Q) Q (Ob' fun r41 hr41 => (AOR.pure (@LT.callF Try.prog _ _ 15 _ _ [(.agg [(iC f.Graph.Points),(xF encTBar f.Graph.Bars),(xF encTPlace f.Places)])] _ _ [] _ _ _ _ (w_spec_IsFramework f r41 hr41) Q cb15 (.cons (.agg (.cons (.same Q) (.cons (.same Q) (.cons (.same Q) .nil)))) .nil) Q Q J) z2 J (gH hb40 Q Q) Q (Op20 (LT.pickT (v := (Bv r41)) Q hb40) Q Q Q Q (On (AWR.nil ⟨Q,Ent.of z4 z2⟩)))))
   ·refine Ok Q Q Q (by rw [hb40]; rfl) Q (Ok Q Q Q (by rw [hb40]; rfl) Q (Op20 (LT.pickF (v := (Bv false)) Q hb40) Q y2 Q Q (On (AWR.nil ⟨Q,Ent.of z4 z2⟩))))
  ·refine AWR.cond Q (fun hc42 => ?_) (fun hc42 => ?_)
   ·refine AWR.skip (Ws (AWR.block (Ws (Wr ?_))))
    refine Op10 (LT.fieldPl Q fo29_0) Q Q Q (Op10 (LT.fieldPl Q fo26_1) Q Q Q (Op11 (LT.bload1 (c := (xF encTBar f.Graph.Bars)) Q ag24 (by exact Q)) Q Q Q Q (mv (Iv s1.1) Q Q Q Q (Ob' fun x43 hx43 => (Op20 (LT.tindexRO (enc := encTBar) Q el24 hx43 sz62) Q Q Q Q (Op10 (LT.loadPxN Q ag62 (infS inf62) (by exact sz62.symm)) Q Q Q (Os00 (LT.alloc (n := 24) (cells := [(iC 0),(iC 0)]) Q ti62 Q Q Q) Q Q (Os21 (LT.bstore (v := (.agg [(iC x43.A),(iC x43.B)])) (out := [(iC x43.A),(iC x43.B)]) Q Q (infS inf62) sz62 (by exact Q) (by exact K Q) (by exact Q)) Q Q Q Q Q (On (Ws ?_))))))))))
    refine en [(1,(Cc (.pl 21 0))),(3,(Cc (lo 22 s1.2.length))),(4,(Iv s1.1)),(5,(Cc (.pl 24 0)))] [(21,(.row 29 [[(iC f.Graph.Points),(xF encTBar f.Graph.Bars),(xF encTPlace f.Places)]])),(22,(pR 37 (encLInt true) s1.2)),(24,(.row 62 [[(iC x43.A),(iC x43.B)]]))] z4 z3 (Wr (Op10 (LT.fieldPl Q fo29_0) Q Q Q (Op10 (LT.fieldPl Q fo26_0) Q Q Q (Op11 (LT.bload1 (c := (iC f.Graph.Points)) Q ag3 (by exact Q)) Q Q Q Q (Op20 (LT.mul Q) y2 Q Q Q (Ob' fun u44 hu44 => (Os20 (LT.tmake (n := 25) (enc := encInt) (zc := [(iC 0)]) (0 : Int) Q und37 ti3 Q Q Q (by decide) (by decide) (lenOk_le hu44) Q) Q Q Q Q (asg (Cc (lo 25 ((List.replicate (w64 (2 * f.Graph.Points)).toNat (0 : Int)).length))) Q Q Q Q (On (Ws (AWR.draw mixed ?_)))))))))))
    refine Dp10 (LT.fieldPl Q fo29_1) Q Q Q (Dp11 (LT.bload1 (c := (xF encTPlace f.Places)) Q ag27 (by exact Q)) Q Q Q Q (Dp10 (LT.fieldPl Q fo62_0) Q Q Q (Dp11 (LT.bload1 (c := (iC x43.A)) Q ag3 (by exact Q)) Q Q Q Q (AOD.bind fun x45 hx45 => (Dp20 (LT.tindexRO (enc := encTPlace) Q el27 hx45 sz94) Q Q Q Q (Dp10 (LT.fieldPx Q fo94_0) Q Q Q (Dp10 (LT.loadPx1 Q ag3) Q Q Q (Dp10 (LT.fieldPl Q fo29_1) Q Q Q (Dp11 (LT.bload1 (c := (xF encTPlace f.Places)) Q ag27 (by exact Q)) Q Q Q Q (Dp10 (LT.fieldPl Q fo62_1) Q Q Q (Dp11 (LT.bload1 (c := (iC x43.B)) Q ag3 (by exact Q)) Q Q Q Q ?_)))))))))))
    refine AOD.bind fun x46 hx46 => (Dp20 (LT.tindexRO (enc := encTPlace) Q el27 hx46 sz94) Q Q Q Q (Dp10 (LT.fieldPx Q fo94_0) Q Q Q (Dp10 (LT.loadPx1 Q ag3) Q Q Q (Dp20 (LT.sub Q) Q Q Q Q (Dp10 (LT.assign (v := (Iv (w64 (x45.X - x46.X)))) Q) Q Q Q (AOD.nil (by kernel_rfl) (Ws (en [(1,(Cc (.pl 21 0))),(3,(Cc (lo 22 s1.2.length))),(4,(Iv s1.1)),(5,(Cc (.pl 24 0))),(6,(Cc (lo 25 ((List.replicate (w64 (2 * f.Graph.Points)).toNat (0 : Int)).length)))),(7,(Iv (w64 (x45.X - x46.X))))] [(21,(.row 29 [[(iC f.Graph.Points),(xF encTBar f.Graph.Bars),(xF encTPlace f.Places)]])),(22,(pR 37 (encLInt true) s1.2)),(24,(.row 62 [[(iC x43.A),(iC x43.B)]])),(25,(pR 3 encInt (List.replicate (w64 (2 * f.Graph.Points)).toNat (0 : Int))))] z6 z4 (AWR.draw mixed (Dp10 (LT.fieldPl Q fo29_1) Q Q Q (Dp11 (LT.bload1 (c := (xF encTPlace f.Places)) Q ag27 (by exact Q)) Q Q Q Q ?_)))))))))))
    refine Dp10 (LT.fieldPl Q fo62_0) Q Q Q (Dp11 (LT.bload1 (c := (iC x43.A)) Q ag3 (by exact Q)) Q Q Q Q (AOD.bind fun x47 hx47 => (Dp20 (LT.tindexRO (enc := encTPlace) Q el27 hx47 sz94) Q Q Q Q (Dp10 (LT.fieldPx Q fo94_1) Q Q Q (Dp10 (LT.loadPx1 Q ag3) Q Q Q (Dp10 (LT.fieldPl Q fo29_1) Q Q Q (Dp11 (LT.bload1 (c := (xF encTPlace f.Places)) Q ag27 (by exact Q)) Q Q Q Q (Dp10 (LT.fieldPl Q fo62_1) Q Q Q (Dp11 (LT.bload1 (c := (iC x43.B)) Q ag3 (by exact Q)) Q Q Q Q (AOD.bind fun x48 hx48 => (Dp20 (LT.tindexRO (enc := encTPlace) Q el27 hx48 sz94) Q Q Q Q ?_)))))))))))
    refine Dp10 (LT.fieldPx Q fo94_1) Q Q Q (Dp10 (LT.loadPx1 Q ag3) Q Q Q (Dp20 (LT.sub Q) Q Q Q Q (Dp10 (LT.assign (v := (Iv (w64 (x47.Y - x48.Y)))) Q) Q Q Q (AOD.nil (by kernel_rfl) (Ws (en [(1,(Cc (.pl 21 0))),(3,(Cc (lo 22 s1.2.length))),(4,(Iv s1.1)),(5,(Cc (.pl 24 0))),(6,(Cc (lo 25 ((List.replicate (w64 (2 * f.Graph.Points)).toNat (0 : Int)).length)))),(7,(Iv (w64 (x45.X - x46.X)))),(8,(Iv (w64 (x47.Y - x48.Y))))] [(21,(.row 29 [[(iC f.Graph.Points),(xF encTBar f.Graph.Bars),(xF encTPlace f.Places)]])),(22,(pR 37 (encLInt true) s1.2)),(24,(.row 62 [[(iC x43.A),(iC x43.B)]])),(25,(pR 3 encInt (List.replicate (w64 (2 * f.Graph.Points)).toNat (0 : Int))))] z7 z4 (Wr (mv (Cc (lo 25 ((List.replicate (w64 (2 * f.Graph.Points)).toNat (0 : Int)).length))) Q Q Q Q (Op10 (LT.fieldPl Q fo62_0) Q Q Q (Op11 (LT.bload1 (c := (iC x43.A)) Q ag3 (by exact Q)) Q Q Q Q (Op20 (LT.mul Q) y2 Q Q Q ?_)))))))))))
    refine mv (Iv (w64 (x45.X - x46.X))) Q Q Q Q (Ob' fun x49 hx49 => (Op21 (LT.tindexLoc Q Q el37 hx49) Q Q Q Q Q (Os21 (LT.tstore (k := 0) (v := (.c (iC (w64 (x45.X - x46.X))))) (b' := (w64 (x45.X - x46.X))) Q Q (infS inf3) sz3 (by exact Q) hx49 (by exact Q) (by exact K Q) (by exact Q)) Q Q Q Q Q (On (Ws (Wr ?_))))))
    refine mv (Cc (lo 25 ((List.replicate (w64 (2 * f.Graph.Points)).toNat (0 : Int)).length))) Q Q Q Q (Op10 (LT.fieldPl Q fo62_0) Q Q Q (Op11 (LT.bload1 (c := (iC x43.A)) Q ag3 (by exact Q)) Q Q Q Q (Op20 (LT.mul Q) y2 Q Q Q (Op20 (LT.add Q) Q y2 Q Q (mv (Iv (w64 (x47.Y - x48.Y))) Q Q Q Q (Ob' fun x50 hx50 => (Op21 (LT.tindexLoc (show (List.replicate (w64 (2 * f.Graph.Points)).toNat (0 : Int)).length = ((List.replicate (w64 (2 * f.Graph.Points)).toNat (0 : Int)).set (w64 (2 * x43.A)).toNat (w64 (x45.X - x46.X))).length by simp only [List.length_set]) Q el37 hx50) Q Q Q Q Q (Os21 (LT.tstore (k := 0) (v := (.c (iC (w64 (x47.Y - x48.Y))))) (b' := (w64 (x47.Y - x48.Y))) Q Q (infS inf3) sz3 (by exact Q) hx50 (by exact Q) (by exact K Q) (by exact Q)) Q Q Q Q Q (On (Ws ?_))))))))))
    refine en [(1,(Cc (.pl 21 0))),(3,(Cc (lo 22 s1.2.length))),(4,(Iv s1.1)),(5,(Cc (.pl 24 0))),(6,(Cc (lo 25 ((List.replicate (w64 (2 * f.Graph.Points)).toNat (0 : Int)).length)))),(7,(Iv (w64 (x45.X - x46.X)))),(8,(Iv (w64 (x47.Y - x48.Y))))] [(21,(.row 29 [[(iC f.Graph.Points),(xF encTBar f.Graph.Bars),(xF encTPlace f.Places)]])),(22,(pR 37 (encLInt true) s1.2)),(24,(.row 62 [[(iC x43.A),(iC x43.B)]])),(25,(pR 3 encInt (((List.replicate (w64 (2 * f.Graph.Points)).toNat (0 : Int)).set (w64 (2 * x43.A)).toNat (w64 (x45.X - x46.X))).set (w64 ((w64 (2 * x43.A)) + 1)).toNat (w64 (x47.Y - x48.Y)))))] z7 z4 (Wr (mv (Cc (lo 25 ((List.replicate (w64 (2 * f.Graph.Points)).toNat (0 : Int)).length))) Q Q Q Q (Op10 (LT.fieldPl Q fo62_1) Q Q Q (Op11 (LT.bload1 (c := (iC x43.B)) Q ag3 (by exact Q)) Q Q Q Q (Op20 (LT.mul Q) y2 Q Q Q (mv (Iv (w64 (x45.X - x46.X))) Q Q Q Q (Op10 (LT.neg Q) Q Q Q (Ob' fun x51 hx51 => (Op21 (LT.tindexLoc (show (List.replicate (w64 (2 * f.Graph.Points)).toNat (0 : Int)).length = (((List.replicate (w64 (2 * f.Graph.Points)).toNat (0 : Int)).set (w64 (2 * x43.A)).toNat (w64 (x45.X - x46.X))).set (w64 ((w64 (2 * x43.A)) + 1)).toNat (w64 (x47.Y - x48.Y))).length by simp only [List.length_set]) Q el37 hx51) Q Q Q Q Q (Os21 (LT.tstore (k := 0) (v := (.c (iC (w64 (-(w64 (x45.X - x46.X))))))) (b' := (w64 (-(w64 (x45.X - x46.X))))) Q Q (infS inf3) sz3 (by exact Q) hx51 (by exact Q) (by exact K Q) (by exact Q)) Q Q Q Q Q (On (Ws (Wr ?_)))))))))))))
    refine mv (Cc (lo 25 ((List.replicate (w64 (2 * f.Graph.Points)).toNat (0 : Int)).length))) Q Q Q Q (Op10 (LT.fieldPl Q fo62_1) Q Q Q (Op11 (LT.bload1 (c := (iC x43.B)) Q ag3 (by exact Q)) Q Q Q Q (Op20 (LT.mul Q) y2 Q Q Q (Op20 (LT.add Q) Q y2 Q Q (mv (Iv (w64 (x47.Y - x48.Y))) Q Q Q Q (Op10 (LT.neg Q) Q Q Q (Ob' fun x52 hx52 => (Op21 (LT.tindexLoc (show (List.replicate (w64 (2 * f.Graph.Points)).toNat (0 : Int)).length = ((((List.replicate (w64 (2 * f.Graph.Points)).toNat (0 : Int)).set (w64 (2 * x43.A)).toNat (w64 (x45.X - x46.X))).set (w64 ((w64 (2 * x43.A)) + 1)).toNat (w64 (x47.Y - x48.Y))).set (w64 (2 * x43.B)).toNat (w64 (-(w64 (x45.X - x46.X))))).length by simp only [List.length_set]) Q el37 hx52) Q Q Q Q Q (Os21 (LT.tstore (k := 0) (v := (.c (iC (w64 (-(w64 (x47.Y - x48.Y))))))) (b' := (w64 (-(w64 (x47.Y - x48.Y))))) Q Q (infS inf3) sz3 (by exact Q) hx52 (by exact Q) (by exact K Q) (by exact Q)) Q Q Q Q Q (On (en [(1,(Cc (.pl 21 0))),(3,(Cc (lo 22 s1.2.length))),(4,(Iv s1.1)),(6,(Cc (lo 25 ((List.replicate (w64 (2 * f.Graph.Points)).toNat (0 : Int)).length))))] [(21,(.row 29 [[(iC f.Graph.Points),(xF encTBar f.Graph.Bars),(xF encTPlace f.Places)]])),(22,(pR 37 (encLInt true) s1.2)),(25,(pR 3 encInt (((((List.replicate (w64 (2 * f.Graph.Points)).toNat (0 : Int)).set (w64 (2 * x43.A)).toNat (w64 (x45.X - x46.X))).set (w64 ((w64 (2 * x43.A)) + 1)).toNat (w64 (x47.Y - x48.Y))).set (w64 (2 * x43.B)).toNat (w64 (-(w64 (x45.X - x46.X))))).set (w64 ((w64 (2 * x43.B)) + 1)).toNat (w64 (-(w64 (x47.Y - x48.Y)))))))] z4 z3 ?_)))))))))))
    refine Wr (mv (Cc (lo 22 s1.2.length)) Q Q Q Q (mv (Cc (lo 25 ((List.replicate (w64 (2 * f.Graph.Points)).toNat (0 : Int)).length))) Q Q Q Q (AOR.ent (Ent.freezeS (enc := encInt) 92 25 hU Q (show (List.replicate (w64 (2 * f.Graph.Points)).toNat (0 : Int)).length = (((((List.replicate (w64 (2 * f.Graph.Points)).toNat (0 : Int)).set (w64 (2 * x43.A)).toNat (w64 (x45.X - x46.X))).set (w64 ((w64 (2 * x43.A)) + 1)).toNat (w64 (x47.Y - x48.Y))).set (w64 (2 * x43.B)).toNat (w64 (-(w64 (x45.X - x46.X))))).set (w64 ((w64 (2 * x43.B)) + 1)).toNat (w64 (-(w64 (x47.Y - x48.Y))))).length by simp only [List.length_set]) Q Q) (Os10 (LT.tbuildSlice (n := 26) (enc := (encLInt true)) [(0,.tmp 92,(.c (xT encInt (((((List.replicate (w64 (2 * f.Graph.Points)).toNat (0 : Int)).set (w64 (2 * x43.A)).toNat (w64 (x45.X - x46.X))).set (w64 ((w64 (2 * x43.A)) + 1)).toNat (w64 (x47.Y - x48.Y))).set (w64 (2 * x43.B)).toNat (w64 (-(w64 (x45.X - x46.X))))).set (w64 ((w64 (2 * x43.B)) + 1)).toNat (w64 (-(w64 (x47.Y - x48.Y))))))))] [(((((List.replicate (w64 (2 * f.Graph.Points)).toNat (0 : Int)).set (w64 (2 * x43.A)).toNat (w64 (x45.X - x46.X))).set (w64 ((w64 (2 * x43.A)) + 1)).toNat (w64 (x47.Y - x48.Y))).set (w64 (2 * x43.B)).toNat (w64 (-(w64 (x45.X - x46.X))))).set (w64 ((w64 (2 * x43.B)) + 1)).toNat (w64 (-(w64 (x47.Y - x48.Y)))))] Q Q und31 ti37 Q Q Q Q (by decide) (fun _ => Q) Q) Q Q Q (Ob' fun u53 hu53 => (Os22 (LT.tappP (enc := (encLInt true)) Q Q Q und31 ti37 Q (by decide) (by decide) (fun _ => Q) (lim_le hu53)) Q Q Q Q Q Q (asg (Cc (lo 22 ((s1.2 ++ [(((((List.replicate (w64 (2 * f.Graph.Points)).toNat (0 : Int)).set (w64 (2 * x43.A)).toNat (w64 (x45.X - x46.X))).set (w64 ((w64 (2 * x43.A)) + 1)).toNat (w64 (x47.Y - x48.Y))).set (w64 (2 * x43.B)).toNat (w64 (-(w64 (x45.X - x46.X))))).set (w64 ((w64 (2 * x43.B)) + 1)).toNat (w64 (-(w64 (x47.Y - x48.Y)))))]).length))) Q Q Q Q (On (AWR.blk (Wr ?_))))))))))
    refine mv (Iv s1.1) Q Q Q Q (Op20 (LT.add Q) Q y2 Q Q (asg (Iv (w64 (s1.1 + 1))) Q Q Q Q (On (AWR.nil ⟨Q,Ent.of z3 z2⟩))))
   ·refine AWR.exit_end Q ⟨Q,Ent.of z1 z1⟩
 ·refine Ws (Wr ?_)
  refine mv (Cc (lo 22 b36.length)) Q Q Q Q (asg (Cc (lo 22 b36.length)) Q Q Q Q (On (en [(2,(Cc (lo 22 b36.length)))] [(22,(pR 37 (encLInt true) b36))] z1 z1 (AWR.ent (Ent.mv 22 0 Q Q) (en [(2,(Cc (lo 0 b36.length)))] [(0,(pR 37 (encLInt true) b36))] z1 z1 (AWR.ret (FPost.mk (.inr Q) z1 z1 Q ⟨J,J⟩ ⟨PermO.prow' perm_encLInt,J⟩)))))))
end Go.Proofs.Ytghofbijdnenoaa
end
section
set_option linter.unusedVariables false
set_option linter.unusedSimpArgs false
set_option linter.unnecessarySimpa false
set_option maxRecDepth 100000
set_option maxHeartbeats 8000000
open Go Go.Fw
namespace Go.Proofs.Ytghofbijdnenoaa
theorem w_spec_GcdOf (a : Int) (b : Int) : ∀ t,m_spec_GcdOf a b = some t → Fw.Fn Try.prog 205 [(.c (iC a)),(.c (iC b))] [] (.s (.c (iC t))) [] [] [] := by
 refine Fw.Fn.of (P := Try.prog) (X := []) (pn := []) (rs := (fun (t : Int) => [(.c (iC t))])) (dfs := (fun (t : Int) => [])) Try.func205 Q Try.ntmps205 (K Q) Q ?_
 intro w0 U0 R0 g0
 unfold m_spec_GcdOf
 refine Ws (Wr ?_)
 refine asg (Iv 0) Q y2 Q Q (On (Ws (Ws ?_)))
 refine AWR.joinK (fun j4 => ([(0,(Iv a)),(1,(Iv b)),(13,(Bv j4))],[])) ?_ (fun j4 _ => ?_)
 ·refine Wr (mv (Iv a) Q Q Q Q (Ob' fun r5 hr5 => (AOR.pure (@LT.callF Try.prog _ _ 110 _ _ [(.c (iC a)),(.c (iC (-9000000000000000000))),(.c (iC 9000000000000000000))] _ _ [] _ _ _ _ (w_spec_l1In a (-9000000000000000000) 9000000000000000000 r5 hr5) Q cb110 (.cons (.c (.same Q)) (.cons (.c (.same Q)) (.cons (.c (.same Q)) .nil))) Q Q J) ⟨Q,Q,y2,y2,J⟩ J Q Q (Op10 (LT.not Q) Q Q Q (mv (Bv (!r5)) Q Q Q Q (AOR.split (fun hb6 => ?_) (fun hb6 => ?_)))))))
  ·refine Ok Q Q Q (by rw [hb6]; rfl) Q (Ok Q Q Q (by rw [hb6]; rfl) Q (Ok Q Q Q (by rw [hb6]; rfl) Q (Op20 (LT.pickT (v := (Bv true)) Q hb6) Q y2 Q Q (On (AWR.nil ⟨Q,Ent.of z3 J⟩)))))
  ·refine mv (Iv b) Q Q (gH hb6 Q Q) Q (Ob' fun r7 hr7 => (AOR.pure (@LT.callF Try.prog _ _ 110 _ _ [(.c (iC b)),(.c (iC (-9000000000000000000))),(.c (iC 9000000000000000000))] _ _ [] _ _ _ _ (w_spec_l1In b (-9000000000000000000) 9000000000000000000 r7 hr7) Q cb110 (.cons (.c (.same Q)) (.cons (.c (.same Q)) (.cons (.c (.same Q)) .nil))) Q Q J) ⟨Q,Q,y2,y2,J⟩ J (gH hb6 Q Q) Q (Op10 (LT.not Q) Q (gH hb6 Q Q) Q (Op20 (LT.pickF (v := (Bv (!r7))) Q hb6) Q Q Q Q (On (AWR.nil ⟨Q,Ent.of z3 J⟩))))))
 ·refine AWR.cond Q (fun hc8 => ?_) (fun hc8 => ?_)
  ·refine Ws (Wr ?_)
   refine asg (Iv 0) Q y2 Q Q (On (AWR.ret (FPost.mk (.inr Q) z1 J Q ⟨PermP.sc,J⟩ J)))
  ·refine AWR.skip (Ws (Wr ?_))
   refine mv (Iv a) Q Q Q Q (mv (Iv a) Q Q Q Q (Op10 (LT.neg Q) Q Q Q (Op20 (LT.max Q) Q Q Q Q (asg (Iv (if a < (w64 (-a)) then (w64 (-a)) else a)) Q Q Q Q (On (Ws (Wr ?_)))))))
   refine mv (Iv b) Q Q Q Q (mv (Iv b) Q Q Q Q (Op10 (LT.neg Q) Q Q Q (Op20 (LT.max Q) Q Q Q Q (asg (Iv (if b < (w64 (-b)) then (w64 (-b)) else b)) Q Q Q Q (On (Ws (AWR.block ?_)))))))
   refine AWR.loop1 (id := 0) (m_spec_GcdOf_L1) (fun s9 => ([(0,(Iv s9.1)),(1,(Iv s9.2))],[])) (fun b14 => ([(0,(Iv b14))],[])) ?_ (Ent.of z2 J) Q (fun b14 _ => ?_)
   ·intro s9
    unfold m_spec_GcdOf_L1
    refine Ws (Ws (Wr ?_))
    refine mv (Iv s9.2) Q Q Q Q (Op20 (LT.gtr Q) Q y2 Q Q (On (AWR.cond Q (fun hc15 => ?_) (fun hc15 => ?_))))
    ·refine AWR.skip (AWR.block (Ws (Wr ?_)))
     refine mv (Iv s9.1) Q Q Q Q (mv (Iv s9.2) Q Q Q Q (Ob' fun u16 hu16 => (Op20 (LT.rem Q (nz_ne hu16)) Q Q Q Q (asg (Iv (Int.tmod s9.1 s9.2)) Q Q Q Q (On (Ws (Wr ?_)))))))
     refine mv (Iv s9.2) Q Q Q Q (asg (Iv s9.2) Q Q Q Q (On (Wr ?_)))
     refine mv (Iv (Int.tmod s9.1 s9.2)) Q Q Q Q (asg (Iv (Int.tmod s9.1 s9.2)) Q Q Q Q (On (AWR.blk ?_)))
     refine AWR.nil ⟨Q,Ent.of z2 J⟩
    ·refine AWR.exit_end Q ⟨Q,Ent.of z1 J⟩
   ·refine Ws (Wr ?_)
    refine mv (Iv b14) Q Q Q Q (asg (Iv b14) Q Q Q Q (On (AWR.ret (FPost.mk (.inr Q) z1 J Q ⟨PermP.sc,J⟩ J))))
theorem w_spec_PrimitiveVector (v : (List Int)) : ∀ t,m_spec_PrimitiveVector v = some t → Fw.Fn Try.prog 206 [(.c (xF encInt v))] [] (.s (.c (lo 0 t.length))) [(0,(pR 3 encInt t))] [] [0] := by
 refine Fw.Fn.of (P := Try.prog) (X := [0]) (pn := []) (rs := (fun (t : (List Int)) => [(.c (lo 0 t.length))])) (dfs := (fun (t : (List Int)) => [(0,(pR 3 encInt t))])) Try.func206 Q Try.ntmps206 (K Q) Q ?_
 intro w0 U0 R0 g0
 unfold m_spec_PrimitiveVector
 refine Ws (Wr ?_)
 refine asg (Cc (sC nilV)) Q y2 Q Q (On (Ws (Wr ?_)))
 refine asg (Iv 0) Q y2 Q Q (On (Ws (Ws (Wr ?_))))
 refine asg (Iv 0) Q y2 Q Q (On (AWR.block ?_))
 refine AWR.loopR (id := 0) (m_spec_PrimitiveVector_L1 v) (fun s1 => ([(0,(Cc (xF encInt v))),(3,(Iv s1.1)),(4,(Iv s1.2))],[])) (fun b16 => ([(0,(Cc (xF encInt v))),(3,(Iv b16))],[])) (FPost Try.prog Try.f206.results.toList [] [0] (fun (t : (List Int)) => [(.c (lo 0 t.length))]) (fun (t : (List Int)) => [(0,(pR 3 encInt t))])) ?_ (Ent.of z3 J) Q (fun b16 _ => ?_) (by intro r t σ m ht hk; injection ht with ht; subst ht; exact hk)
 ·intro s1
  unfold m_spec_PrimitiveVector_L1
  refine Ws (Ws (Wr ?_))
  refine mv (Iv s1.2) Q Q Q Q (mv (Cc (xF encInt v)) Q Q Q Q (Op10 (LT.tlenRO Q und37) Q Q Q (Op20 (LT.lss Q) Q Q Q Q (On (AWR.cond Q (fun hc17 => ?_) (fun hc17 => ?_))))))
  ·refine AWR.skip (Ws (AWR.block (Ws (Ws (Wr ?_)))))
   refine mv (Cc (xF encInt v)) Q Q Q Q (mv (Iv s1.2) Q Q Q Q (Ob' fun x18 hx18 => (Op20 (LT.tindexRO (enc := encInt) Q el37 hx18 sz3) Q Q Q Q (Op10 (LT.loadPx1 Q ag3) Q Q Q (Ob' fun r19 hr19 => (AOR.pure (@LT.callF Try.prog _ _ 110 _ _ [(.c (iC x18)),(.c (iC (-9000000000000000000))),(.c (iC 9000000000000000000))] _ _ [] _ _ _ _ (w_spec_l1In x18 (-9000000000000000000) 9000000000000000000 r19 hr19) Q cb110 (.cons (.c (.same Q)) (.cons (.c (.same Q)) (.cons (.c (.same Q)) .nil))) Q Q J) ⟨Q,Q,y2,y2,J⟩ J Q Q (Op10 (LT.not Q) Q Q Q (On (AWR.cond Q (fun hc20 => ?_) (fun hc20 => ?_))))))))))
   ·refine Ws (Wr ?_)
    refine Os00 (LT.tbuildSlice (n := 22) (enc := encInt) [] ([] : List Int) Q Q und37 ti3 Q Q Q Q (by decide) (fun _ => Q) Q) Q Q (mv (Cc (xF encInt v)) Q Q Q Q (Ob' fun u21 hu21 => (Os21 (LT.tappRO (enc := encInt) Q  Q und37 ti3 Q (by decide) (by decide) (fun _ => Q) (lim_le hu21)) Q Q Q Q Q (asg (Cc (lo 22 ((([] : List Int) ++ v).length))) Q Q Q Q (On (en [(2,(Cc (lo 22 ((([] : List Int) ++ v).length))))] [(22,(pR 3 encInt (([] : List Int) ++ v)))] z1 z1 (AWR.ent (Ent.mv 22 0 Q Q) (en [(2,(Cc (lo 0 ((([] : List Int) ++ v).length))))] [(0,(pR 3 encInt (([] : List Int) ++ v)))] z1 z1 (AWR.ret ⟨Q,FPost.mk (.inr Q) z1 z1 Q ⟨J,J⟩ ⟨PermO.prow' perm_encInt,J⟩⟩)))))))))
   ·refine AWR.skip (Wr ?_)
    refine mv (Iv s1.1) Q Q Q Q (mv (Cc (xF encInt v)) Q Q Q Q (mv (Iv s1.2) Q Q Q Q (Ob' fun x22 hx22 => (Op20 (LT.tindexRO (enc := encInt) Q el37 hx22 sz3) Q Q Q Q (Op10 (LT.loadPx1 Q ag3) Q Q Q (Ob' fun r23 hr23 => (AOR.pure (@LT.callF Try.prog _ _ 205 _ _ [(.c (iC s1.1)),(.c (iC x22))] _ _ [] _ _ _ _ (w_spec_GcdOf s1.1 x22 r23 hr23) Q cb205 (.cons (.c (.same Q)) (.cons (.c (.same Q)) .nil)) Q Q J) z3 J Q Q (asg (Iv r23) Q Q Q Q (On (AWR.blk ?_))))))))))
    refine en [(0,(Cc (xF encInt v))),(3,(Iv r23)),(4,(Iv s1.2))] [] z3 J (Wr (mv (Iv s1.2) Q Q Q Q (Op20 (LT.add Q) Q y2 Q Q (asg (Iv (w64 (s1.2 + 1))) Q Q Q Q (On (AWR.nil ⟨Q,Ent.of z3 J⟩))))))
  ·refine AWR.exit_end Q ⟨Q,Ent.of z2 J⟩
 ·refine Ws (Ws (Wr ?_))
  refine mv (Iv b16) Q Q Q Q (Op20 (LT.eql Q) Q y2 Q Q (On (AWR.cond Q (fun hc24 => ?_) (fun hc24 => ?_))))
  ·refine Ws (Wr ?_)
   refine Os00 (LT.tbuildSlice (n := 24) (enc := encInt) [] ([] : List Int) Q Q und37 ti3 Q Q Q Q (by decide) (fun _ => Q) Q) Q Q (mv (Cc (xF encInt v)) Q Q Q Q (Ob' fun u25 hu25 => (Os21 (LT.tappRO (enc := encInt) Q  Q und37 ti3 Q (by decide) (by decide) (fun _ => Q) (lim_le hu25)) Q Q Q Q Q (asg (Cc (lo 24 ((([] : List Int) ++ v).length))) Q Q Q Q (On (en [(2,(Cc (lo 24 ((([] : List Int) ++ v).length))))] [(24,(pR 3 encInt (([] : List Int) ++ v)))] z1 z1 (AWR.ent (Ent.mv 24 0 Q Q) (en [(2,(Cc (lo 0 ((([] : List Int) ++ v).length))))] [(0,(pR 3 encInt (([] : List Int) ++ v)))] z1 z1 (AWR.ret (FPost.mk (.inr Q) z1 z1 Q ⟨J,J⟩ ⟨PermO.prow' perm_encInt,J⟩))))))))))
  ·refine AWR.skip (Ws (Wr ?_))
   refine asg (Iv 0) Q y2 Q Q (On (Ws (Ws (Wr ?_))))
   refine asg (Iv 0) Q y2 Q Q (On (AWR.block ?_))
   refine AWR.loop1 (id := 2) (m_spec_PrimitiveVector_L2 v b16) (fun s26 => ([(0,(Cc (xF encInt v))),(3,(Iv b16)),(5,(Iv s26.1)),(6,(Iv s26.2))],[])) (fun b39 => ([(0,(Cc (xF encInt v))),(3,(Iv b39.1)),(5,(Iv b39.2))],[])) ?_ (Ent.of z4 J) Q (fun b39 _ => ?_)
   ·intro s26
    unfold m_spec_PrimitiveVector_L2
    refine Ws (Ws (Wr ?_))
    refine mv (Iv s26.2) Q Q Q Q (mv (Cc (xF encInt v)) Q Q Q Q (Op10 (LT.tlenRO Q und37) Q Q Q (Op20 (LT.lss Q) Q Q Q Q (On (AWR.cond Q (fun hc40 => ?_) (fun hc40 => ?_))))))
    ·refine AWR.skip (Ws (AWR.block (Ws (Wr ?_))))
     refine mv (Iv s26.1) Q Q Q Q (Op20 (LT.eql Q) Q y2 Q Q (On (AWR.joinK (fun j43 => ([(0,(Cc (xF encInt v))),(3,(Iv b16)),(5,(Iv j43)),(6,(Iv s26.2))],[])) ?_ (fun j43 _ => ?_))))
     ·refine AWR.cond Q (fun hc44 => ?_) (fun hc44 => ?_)
      ·refine Wr (mv (Cc (xF encInt v)) Q Q Q Q (mv (Iv s26.2) Q Q Q Q (Ob' fun x45 hx45 => (Op20 (LT.tindexRO (enc := encInt) Q el37 hx45 sz3) Q Q Q Q (Op10 (LT.loadPx1 Q ag3) Q Q Q (asg (Iv x45) Q Q Q Q (On (AWR.nil ⟨Q,Ent.of z4 J⟩))))))))
      ·refine AWR.skip (AWR.nil ⟨Q,Ent.of z4 J⟩)
     ·refine AWR.blk (Wr ?_)
      refine mv (Iv s26.2) Q Q Q Q (Op20 (LT.add Q) Q y2 Q Q (asg (Iv (w64 (s26.2 + 1))) Q Q Q Q (On (AWR.nil ⟨Q,Ent.of z4 J⟩))))
    ·refine AWR.exit_end Q ⟨Q,Ent.of z3 J⟩
   ·refine Ws (Ws (Wr ?_))
    refine mv (Iv b39.2) Q Q Q Q (Op20 (LT.lss Q) Q y2 Q Q (On (AWR.joinK (fun j47 => ([(0,(Cc (xF encInt v))),(3,(Iv j47))],[])) ?_ (fun j47 _ => ?_))))
    ·refine AWR.cond Q (fun hc48 => ?_) (fun hc48 => ?_)
     ·refine Wr (mv (Iv b39.1) Q Q Q Q (Op10 (LT.neg Q) Q Q Q (asg (Iv (w64 (-b39.1))) Q Q Q Q (On (AWR.nil ⟨Q,Ent.of z2 J⟩)))))
     ·refine AWR.skip (AWR.nil ⟨Q,Ent.of z2 J⟩)
    ·refine Ws (Wr ?_)
     refine Os00 (LT.tbuildSlice (n := 25) (enc := encInt) [] ([] : List Int) Q Q und37 ti3 Q Q Q Q (by decide) (fun _ => Q) Q) Q Q (asg (Cc (lo 25 (([] : List Int).length))) Q Q Q Q (On (Ws (Ws (Wr ?_)))))
     refine asg (Iv 0) Q y2 Q Q (On (AWR.block ?_))
     refine AWR.loop1 (id := 4) (m_spec_PrimitiveVector_L3 v j47) (fun s49 => ([(0,(Cc (xF encInt v))),(3,(Iv j47)),(7,(Cc (lo 25 s49.2.length))),(8,(Iv s49.1))],[(25,(pR 3 encInt s49.2))])) (fun b58 => ([(7,(Cc (lo 25 b58.length)))],[(25,(pR 3 encInt b58))])) ?_ (Ent.of z4 z1) Q (fun b58 _ => ?_)
     ·intro s49
      unfold m_spec_PrimitiveVector_L3
      refine Ws (Ws (Wr ?_))
      refine mv (Iv s49.1) Q Q Q Q (mv (Cc (xF encInt v)) Q Q Q Q (Op10 (LT.tlenRO Q und37) Q Q Q (Op20 (LT.lss Q) Q Q Q Q (On (AWR.cond Q (fun hc59 => ?_) (fun hc59 => ?_))))))
      ·refine AWR.skip (Ws (AWR.block (Wr ?_)))
       refine mv (Cc (lo 25 s49.2.length)) Q Q Q Q (mv (Cc (xF encInt v)) Q Q Q Q (mv (Iv s49.1) Q Q Q Q (Ob' fun x60 hx60 => (Op20 (LT.tindexRO (enc := encInt) Q el37 hx60 sz3) Q Q Q Q (Op10 (LT.loadPx1 Q ag3) Q Q Q (mv (Iv j47) Q Q Q Q (Ob' fun u61 hu61 => (Op20 (LT.quo Q (nz_ne hu61)) Q Q Q Q (Os10 (LT.tbuildSlice (n := 26) (enc := encInt) [(0,.tmp 64,(.c (iC (w64 (Int.tdiv x60 j47)))))] ([(w64 (Int.tdiv x60 j47))] : List Int) Q Q und37 ti3 Q Q Q Q (by decide) (fun _ => Q) Q) Q Q Q (Ob' fun u62 hu62 => (Os22 (LT.tappP (enc := encInt) Q Q Q und37 ti3 Q (by decide) (by decide) (fun _ => Q) (lim_le hu62)) Q Q Q Q Q Q ?_)))))))))))
       refine asg (Cc (lo 25 ((s49.2 ++ ([(w64 (Int.tdiv x60 j47))] : List Int)).length))) Q Q Q Q (On (AWR.blk ?_))
       refine en [(0,(Cc (xF encInt v))),(3,(Iv j47)),(7,(Cc (lo 25 ((s49.2 ++ ([(w64 (Int.tdiv x60 j47))] : List Int)).length)))),(8,(Iv s49.1))] [(25,(pR 3 encInt (s49.2 ++ ([(w64 (Int.tdiv x60 j47))] : List Int))))] z4 z1 (Wr (mv (Iv s49.1) Q Q Q Q (Op20 (LT.add Q) Q y2 Q Q (asg (Iv (w64 (s49.1 + 1))) Q Q Q Q (On (AWR.nil ⟨Q,Ent.of z4 z1⟩))))))
      ·refine AWR.exit_end Q ⟨Q,Ent.of z1 z1⟩
     ·refine Ws (Wr ?_)
      refine mv (Cc (lo 25 b58.length)) Q Q Q Q (asg (Cc (lo 25 b58.length)) Q Q Q Q (On (en [(2,(Cc (lo 25 b58.length)))] [(25,(pR 3 encInt b58))] z1 z1 (AWR.ent (Ent.mv 25 0 Q Q) (en [(2,(Cc (lo 0 b58.length)))] [(0,(pR 3 encInt b58))] z1 z1 (AWR.ret (FPost.mk (.inr Q) z1 z1 Q ⟨J,J⟩ ⟨PermO.prow' perm_encInt,J⟩)))))))
theorem w_spec_l9Clean (row : (List Int)) : ∀ t,m_spec_l9Clean row = some t → Fw.Fn Try.prog 217 [(.c (xF encInt row))] [] (.s (.c (lo 0 t.length))) [(0,(pR 3 encInt t))] [] [0] := by
 refine Fw.Fn.of (P := Try.prog) (X := [0]) (pn := []) (rs := (fun (t : (List Int)) => [(.c (lo 0 t.length))])) (dfs := (fun (t : (List Int)) => [(0,(pR 3 encInt t))])) Try.func217 Q Try.ntmps217 (K Q) Q ?_
 intro w0 U0 R0 g0
 unfold m_spec_l9Clean
 refine Ws (Wr ?_)
 refine asg (Cc (sC nilV)) Q y2 Q Q (On (Ws (Wr ?_)))
 refine mv (Cc (xF encInt row)) Q Q Q Q (Ob' fun r1 hr1 => (AOR.step (@LT.callF Try.prog _ _ 206 _ _ [(.c (xF encInt row))] _ _ [] _ _ _ _ ((show Fw.Fn Try.prog 206 [(.c (xF encInt row))] [] (Cc (lo 22 r1.length)) [(22,(pR 3 encInt r1))] [] [22] from Fw.Fn.ren [(0,22)] (w_spec_PrimitiveVector row r1 hr1) Q)) Q cb206 (.cons (.c (.same Q)) .nil) Q Q J) z2 J Q Q (asg (Cc (lo 22 r1.length)) Q Q Q Q (On (en [(2,(Cc (lo 22 r1.length)))] [(22,(pR 3 encInt r1))] z1 z1 (AWR.ent (Ent.mv 22 0 Q Q) (en [(2,(Cc (lo 0 r1.length)))] [(0,(pR 3 encInt r1))] z1 z1 (AWR.ret (FPost.mk (.inr Q) z1 z1 Q ⟨J,J⟩ ⟨PermO.prow' perm_encInt,J⟩)))))))))
theorem w_spec_l9Without (a : (List Int)) (row : (List Int)) (j : Int) : ∀ t,m_spec_l9Without a row j = some t → Fw.Fn Try.prog 218 [(.c (xF encInt a)),(.c (xF encInt row)),(.c (iC j))] [] (.s (.c (lo 0 t.length))) [(0,(pR 3 encInt t))] [] [0] := by
 refine Fw.Fn.of (P := Try.prog) (X := [0]) (pn := []) (rs := (fun (t : (List Int)) => [(.c (lo 0 t.length))])) (dfs := (fun (t : (List Int)) => [(0,(pR 3 encInt t))])) Try.func218 Q Try.ntmps218 (K Q) Q ?_
 intro w0 U0 R0 g0
 unfold m_spec_l9Without
 refine Ws (Wr ?_)
 refine asg (Cc (sC nilV)) Q y2 Q Q (On (Ws (AWR.draw mixed ?_)))
 refine Dp10 (LT.move (v := (Cc (xF encInt a))) Q) Q Q Q (Dp10 (LT.move (v := (Iv j)) Q) Q Q Q (AOD.bind fun x1 hx1 => (Dp20 (LT.tindexRO (enc := encInt) Q el37 hx1 sz3) Q Q Q Q (Dp10 (LT.loadPx1 Q ag3) Q Q Q (Dp10 (LT.move (v := (Cc (xF encInt row))) Q) Q Q Q (Dp10 (LT.move (v := (Iv j)) Q) Q Q Q (AOD.bind fun x2 hx2 => (Dp20 (LT.tindexRO (enc := encInt) Q el37 hx2 sz3) Q Q Q Q (Dp10 (LT.loadPx1 Q ag3) Q Q Q (AOD.bind fun r3 hr3 => (AOD.pure (@LT.callF Try.prog _ _ 205 _ _ [(.c (iC x1)),(.c (iC x2))] _ _ [] _ _ _ _ (w_spec_GcdOf x1 x2 r3 hr3) Q cb205 (.cons (.c (.same Q)) (.cons (.c (.same Q)) .nil)) Q Q J) z3 J Q Q ?_)))))))))))
 refine Dp10 (LT.assign (v := (Iv r3)) Q) Q Q Q (AOD.nil (by kernel_rfl) (Ws (en [(0,(Cc (xF encInt a))),(1,(Cc (xF encInt row))),(2,(Iv j)),(7,(Iv r3))] [] z4 J (Wr (mv (Cc (xF encInt row)) Q Q Q Q (mv (Iv j) Q Q Q Q (Ob' fun x4 hx4 => (Op20 (LT.tindexRO (enc := encInt) Q el37 hx4 sz3) Q Q Q Q (Op10 (LT.loadPx1 Q ag3) Q Q Q (mv (Iv r3) Q Q Q Q (Ob' fun u5 hu5 => ?_)))))))))))
 refine Op20 (LT.quo Q (nz_ne hu5)) Q Q Q Q (asg (Iv (w64 (Int.tdiv x4 r3))) Q Q Q Q (On (Ws (Wr ?_))))
 refine mv (Cc (xF encInt a)) Q Q Q Q (mv (Iv j) Q Q Q Q (Ob' fun x6 hx6 => (Op20 (LT.tindexRO (enc := encInt) Q el37 hx6 sz3) Q Q Q Q (Op10 (LT.loadPx1 Q ag3) Q Q Q (mv (Iv r3) Q Q Q Q (Ob' fun u7 hu7 => (Op20 (LT.quo Q (nz_ne hu7)) Q Q Q Q (asg (Iv (w64 (Int.tdiv x6 r3))) Q Q Q Q (On (Ws ?_))))))))))
 refine en [(0,(Cc (xF encInt a))),(1,(Cc (xF encInt row))),(8,(Iv (w64 (Int.tdiv x4 r3)))),(9,(Iv (w64 (Int.tdiv x6 r3))))] [] z4 J (Wr (Os00 (LT.tbuildSlice (n := 22) (enc := encInt) [] ([] : List Int) Q Q und37 ti3 Q Q Q Q (by decide) (fun _ => Q) Q) Q Q (asg (Cc (lo 22 (([] : List Int).length))) Q Q Q Q (On (Ws (Ws (Wr ?_)))))))
 refine asg (Iv 0) Q y2 Q Q (On (AWR.block ?_))
 refine AWR.loop1 (id := 0) (m_spec_l9Without_L1 a row r3 x4 x6) (fun s8 => ([(0,(Cc (xF encInt a))),(1,(Cc (xF encInt row))),(8,(Iv (w64 (Int.tdiv x4 r3)))),(9,(Iv (w64 (Int.tdiv x6 r3)))),(10,(Cc (lo 22 s8.2.length))),(11,(Iv s8.1))],[(22,(pR 3 encInt s8.2))])) (fun b17 => ([(10,(Cc (lo 22 b17.length)))],[(22,(pR 3 encInt b17))])) ?_ (Ent.of z6 z1) Q (fun b17 _ => ?_)
 ·intro s8
  unfold m_spec_l9Without_L1
  refine Ws (Ws (Wr ?_))
  refine mv (Iv s8.1) Q Q Q Q (mv (Cc (xF encInt a)) Q Q Q Q (Op10 (LT.tlenRO Q und37) Q Q Q (Op20 (LT.lss Q) Q Q Q Q (On (AWR.cond Q (fun hc18 => ?_) (fun hc18 => ?_))))))
  ·refine AWR.skip (Ws (AWR.block (AWR.draw mixed ?_)))
   refine Dp10 (LT.move (v := (Cc (lo 22 s8.2.length))) Q) Q Q Q (Dp10 (LT.move (v := (Cc (xF encInt a))) Q) Q Q Q (Dp10 (LT.move (v := (Iv s8.1)) Q) Q Q Q (AOD.bind fun x19 hx19 => (Dp20 (LT.tindexRO (enc := encInt) Q el37 hx19 sz3) Q Q Q Q (Dp10 (LT.loadPx1 Q ag3) Q Q Q (Dp10 (LT.move (v := (Iv (w64 (Int.tdiv x4 r3)))) Q) Q Q Q (Dp20 (LT.mul Q) Q Q Q Q (Dp10 (LT.move (v := (Cc (xF encInt row))) Q) Q Q Q (Dp10 (LT.move (v := (Iv s8.1)) Q) Q Q Q (AOD.bind fun x20 hx20 => (Dp20 (LT.tindexRO (enc := encInt) Q el37 hx20 sz3) Q Q Q Q ?_)))))))))))
   refine Dp10 (LT.loadPx1 Q ag3) Q Q Q (Dp10 (LT.move (v := (Iv (w64 (Int.tdiv x6 r3)))) Q) Q Q Q (Dp20 (LT.mul Q) Q Q Q Q (Dp20 (LT.sub Q) Q Q Q Q (Ds10 (LT.tbuildSlice (n := 23) (enc := encInt) [(0,.tmp 53,(.c (iC (w64 ((w64 (x19 * (w64 (Int.tdiv x4 r3)))) - (w64 (x20 * (w64 (Int.tdiv x6 r3)))))))))] ([(w64 ((w64 (x19 * (w64 (Int.tdiv x4 r3)))) - (w64 (x20 * (w64 (Int.tdiv x6 r3))))))] : List Int) Q Q und37 ti3 Q Q Q Q (by decide) (fun _ => Q) Q) Q Q Q (AOD.bind fun u21 hu21 => (Ds22 (LT.tappP (enc := encInt) Q Q Q und37 ti3 Q (by decide) (by decide) (fun _ => Q) (lim_le hu21)) Q Q Q Q Q Q (Dp10 (LT.assign (v := (Cc (lo 22 ((s8.2 ++ ([(w64 ((w64 (x19 * (w64 (Int.tdiv x4 r3)))) - (w64 (x20 * (w64 (Int.tdiv x6 r3))))))] : List Int)).length)))) Q) Q Q Q (AOD.nil (by kernel_rfl) (AWR.blk (en [(0,(Cc (xF encInt a))),(1,(Cc (xF encInt row))),(8,(Iv (w64 (Int.tdiv x4 r3)))),(9,(Iv (w64 (Int.tdiv x6 r3)))),(10,(Cc (lo 22 ((s8.2 ++ ([(w64 ((w64 (x19 * (w64 (Int.tdiv x4 r3)))) - (w64 (x20 * (w64 (Int.tdiv x6 r3))))))] : List Int)).length)))),(11,(Iv s8.1))] [(22,(pR 3 encInt (s8.2 ++ ([(w64 ((w64 (x19 * (w64 (Int.tdiv x4 r3)))) - (w64 (x20 * (w64 (Int.tdiv x6 r3))))))] : List Int))))] z6 z1 (Wr ?_)))))))))))
   refine mv (Iv s8.1) Q Q Q Q (Op20 (LT.add Q) Q y2 Q Q (asg (Iv (w64 (s8.1 + 1))) Q Q Q Q (On (AWR.nil ⟨Q,Ent.of z6 z1⟩))))
  ·refine AWR.exit_end Q ⟨Q,Ent.of z1 z1⟩
 ·refine Ws (Wr ?_)
  refine mv (Cc (lo 22 b17.length)) Q Q Q Q (Ob' fun r22 hr22 => (AOR.step (@LT.callF Try.prog _ _ 217 _ _ [(.c (lo 22 b17.length))] _ _ [(22,(pR 3 encInt b17))] _ _ _ _ ((show Fw.Fn Try.prog 217 [(.c (xF encInt b17))] [] (Cc (lo 25 r22.length)) [(25,(pR 3 encInt r22))] [] [25] from Fw.Fn.ren [(0,25)] (w_spec_l9Clean b17 r22 hr22) Q)) Q cb217 (.cons (.c (.tloc Q Q)) .nil) Q Q J) z2 z1 Q Q (asg (Cc (lo 25 r22.length)) Q Q Q Q (On (en [(6,(Cc (lo 25 r22.length)))] [(25,(pR 3 encInt r22))] z1 z1 (AWR.ent (Ent.mv 25 0 Q Q) (en [(6,(Cc (lo 0 r22.length)))] [(0,(pR 3 encInt r22))] z1 z1 (AWR.ret (FPost.mk (.inr Q) z1 z1 Q ⟨J,J⟩ ⟨PermO.prow' perm_encInt,J⟩)))))))))
theorem w_spec_l9Reduced (m : (List (List Int))) : ∀ t,m_spec_l9Reduced m = some t → Fw.Fn Try.prog 144 [(.c (xF (encLInt false) m))] [] (resA [(.c (lo 0 t.1.length)),(.c (lo 1 t.2.length))]) [(0,(pR 37 (encLInt true) t.1)),(1,(pR 3 encInt t.2))] [] [0,1] := by
 refine Fw.Fn.ofU (P := Try.prog) (X := [0,1]) (pn := []) (rs := (fun (t : ((List (List Int)) × (List Int))) => [(.c (lo 0 t.1.length)),(.c (lo 1 t.2.length))])) (dfs := (fun (t : ((List (List Int)) × (List Int))) => [(0,(pR 37 (encLInt true) t.1)),(1,(pR 3 encInt t.2))])) Try.func144 Q Try.ntmps144 (K Q) Q ?_
 intro w0 U0 R0 g0 hU
 unfold m_spec_l9Reduced
 refine Ws (Wr ?_)
 refine asg (Cc (sC nilV)) Q y2 Q Q (asg (Cc (sC nilV)) Q y2 Q Q (On (Ws (Wr ?_))))
 refine Os00 (LT.tbuildSlice (n := 21) (enc := (encLInt true)) [] ([] : List (List Int)) Q Q und31 ti37 Q Q Q Q (by decide) (fun _ => Q) Q) Q Q (asg (Cc (lo 21 (([] : List (List Int)).length))) Q Q Q Q (On (Ws (Ws (Wr ?_)))))
 refine asg (Iv 0) Q y2 Q Q (On (AWR.block ?_))
 refine AWR.loop1 (id := 0) (m_spec_l9Reduced_L1 m) (fun s1 => ([(0,(Cc (xF (encLInt false) m))),(4,(Cc (lo 21 s1.2.length))),(5,(Iv s1.1))],[(21,(pR 37 (encLInt true) s1.2))])) (fun b10 => ([(4,(Cc (lo 21 b10.length)))],[(21,(pR 37 (encLInt true) b10))])) ?_ (Ent.of z3 z1) Q (fun b10 _ => ?_)
 ·intro s1
  unfold m_spec_l9Reduced_L1
  refine Ws (Ws (Wr ?_))
  refine mv (Iv s1.1) Q Q Q Q (mv (Cc (xF (encLInt false) m)) Q Q Q Q (Op10 (LT.tlenRO Q und31) Q Q Q (Op20 (LT.lss Q) Q Q Q Q (On (AWR.cond Q (fun hc11 => ?_) (fun hc11 => ?_))))))
  ·refine AWR.skip (Ws (AWR.block (Wr ?_)))
   refine mv (Cc (lo 21 s1.2.length)) Q Q Q Q (mv (Cc (xF (encLInt false) m)) Q Q Q Q (mv (Iv s1.1) Q Q Q Q (Ob' fun x12 hx12 => (Op20 (LT.tindexRO (enc := (encLInt false)) Q el31 hx12 sz37) Q Q Q Q (Op10 (LT.loadPx1 Q ag37) Q Q Q (Ob' fun r13 hr13 => (AOR.step (@LT.callF Try.prog _ _ 217 _ _ [(.c (xF encInt x12))] _ _ [] _ _ _ _ ((show Fw.Fn Try.prog 217 [(.c (xF encInt x12))] [] (Cc (lo 23 r13.length)) [(23,(pR 3 encInt r13))] [] [23] from Fw.Fn.ren [(0,23)] (w_spec_l9Clean x12 r13 hr13) Q)) Q cb217 (.cons (.c (.same Q)) .nil) Q Q J) z2 J Q Q (AOR.ent (Ent.freezeS (enc := encInt) 23 23 hU Q Q Q Q) (Os10 (LT.tbuildSlice (n := 24) (enc := (encLInt true)) [(0,.tmp 23,(.c (xT encInt r13)))] [r13] Q Q und31 ti37 Q Q Q Q (by decide) (fun _ => Q) Q) Q Q Q (Ob' fun u14 hu14 => (Os22 (LT.tappP (enc := (encLInt true)) Q Q Q und31 ti37 Q (by decide) (by decide) (fun _ => Q) (lim_le hu14)) Q Q Q Q Q Q ?_)))))))))))
   refine asg (Cc (lo 21 ((s1.2 ++ [r13]).length))) Q Q Q Q (On (AWR.blk ?_))
   refine en [(0,(Cc (xF (encLInt false) m))),(4,(Cc (lo 21 ((s1.2 ++ [r13]).length)))),(5,(Iv s1.1))] [(21,(pR 37 (encLInt true) (s1.2 ++ [r13])))] z3 z1 (Wr (mv (Iv s1.1) Q Q Q Q (Op20 (LT.add Q) Q y2 Q Q (asg (Iv (w64 (s1.1 + 1))) Q Q Q Q (On (AWR.nil ⟨Q,Ent.of z3 z1⟩))))))
  ·refine AWR.exit_end Q ⟨Q,Ent.of z1 z1⟩
 ·refine Ws (Wr ?_)
  refine Os00 (LT.tbuildSlice (n := 25) (enc := encInt) [] ([] : List Int) Q Q und37 ti3 Q Q Q Q (by decide) (fun _ => Q) Q) Q Q (asg (Cc (lo 25 (([] : List Int).length))) Q Q Q Q (On (Ws (Ws (Wr ?_)))))
  refine asg (Iv 0) Q y2 Q Q (On (AWR.block ?_))
  refine AWR.loop1 (id := 2) (m_spec_l9Reduced_L6) (fun s15 => ([(4,(Cc (lo 21 s15.2.1.length))),(6,(Cc (lo 25 s15.2.2.length))),(7,(Iv s15.1))],[(21,(pR 37 (encLInt true) s15.2.1)),(25,(pR 3 encInt s15.2.2))])) (fun b148 => ([(4,(Cc (lo 21 b148.1.length))),(6,(Cc (lo 25 b148.2.length)))],[(21,(pR 37 (encLInt true) b148.1)),(25,(pR 3 encInt b148.2))])) ?_ (Ent.of z3 z2) Q (fun b148 _ => ?_)
  ·intro s15
   unfold m_spec_l9Reduced_L6
   refine Ws (Ws ?_)
   refine AWR.joinK (fun j151 => ([(4,(Cc (lo 21 s15.2.1.length))),(6,(Cc (lo 25 s15.2.2.length))),(7,(Iv s15.1)),(37,(Bv j151))],[(21,(pR 37 (encLInt true) s15.2.1)),(25,(pR 3 encInt s15.2.2))])) ?_ (fun j151 _ => ?_)
   ·refine Wr (mv (Cc (lo 21 s15.2.1.length)) Q Q Q Q (Op10 (LT.lenLoc Q und31) Q Q Q (Op20 (LT.gtr Q) Q y2 Q Q (mv (Bv (decide (0 < (s15.2.1.length : Int)))) Q Q Q Q (AOR.split (fun hb152 => ?_) (fun hb152 => ?_))))))
    ·refine mv (Iv s15.1) Q Q (gH hb152 Q Q) Q (mv (Cc (lo 21 s15.2.1.length)) Q Q (gH hb152 Q Q) Q (Ob' fun x153 hx153 => (Op21 (LT.tindexLoc Q Q el31 hx153) Q y2 Q (gH hb152 Q Q) Q (Op11 (LT.tload1 (k := 0) Q ag37 hx153 (by exact Q) (by exact Q)) Q Q (gH hb152 Q Q) Q (Op10 (LT.tlenRO Q und37) Q (gH hb152 Q Q) Q (Op20 (LT.lss Q) Q Q (gH hb152 Q Q) Q (Op20 (LT.pickT (v := (Bv (decide (s15.1 < (x153.length : Int))))) Q hb152) Q Q Q Q (On (AWR.nil ⟨Q,Ent.of z4 z2⟩)))))))))
    ·refine Ok Q Q Q (by rw [hb152]; rfl) Q (Ok Q Q Q (by rw [hb152]; rfl) Q (Ok Q Q Q (by rw [hb152]; rfl) Q (Ok Q Q Q (by rw [hb152]; rfl) Q (Ok Q Q Q (by rw [hb152]; rfl) Q (Ok Q Q Q (by rw [hb152]; rfl) Q (Op20 (LT.pickF (v := (Bv false)) Q hb152) Q y2 Q Q (On (AWR.nil ⟨Q,Ent.of z4 z2⟩))))))))
   ·refine AWR.cond Q (fun hc154 => ?_) (fun hc154 => ?_)
    ·refine AWR.skip (Ws (AWR.block (Ws (Wr ?_))))
     refine mv (Cc (lo 25 s15.2.2.length)) Q Q Q Q (Op10 (LT.lenLoc Q und37) Q Q Q (asg (Iv (s15.2.2.length : Int)) Q Q Q Q (On (Ws (AWR.block ?_)))))
     refine AWR.loop1 (id := 4) (m_spec_l9Reduced_L7 s15) (fun s155 => ([(4,(Cc (lo 21 s15.2.1.length))),(6,(Cc (lo 25 s15.2.2.length))),(7,(Iv s15.1)),(8,(Iv s155))],[(21,(pR 37 (encLInt true) s15.2.1)),(25,(pR 3 encInt s15.2.2))])) (fun b172 => ([(4,(Cc (lo 21 b172.2.2.1.length))),(6,(Cc (lo 25 b172.2.2.2.length))),(7,(Iv b172.1)),(8,(Iv b172.2.1))],[(21,(pR 37 (encLInt true) b172.2.2.1)),(25,(pR 3 encInt b172.2.2.2))])) ?_ (Ent.of z4 z2) Q (fun b172 _ => ?_)
     ·intro s155
      unfold m_spec_l9Reduced_L7
      refine Ws (Ws ?_)
      refine AWR.joinK (fun j176 => ([(4,(Cc (lo 21 s15.2.1.length))),(6,(Cc (lo 25 s15.2.2.length))),(7,(Iv s15.1)),(8,(Iv s155)),(55,(Bv j176))],[(21,(pR 37 (encLInt true) s15.2.1)),(25,(pR 3 encInt s15.2.2))])) ?_ (fun j176 _ => ?_)
      ·refine Wr (mv (Iv s155) Q Q Q Q (mv (Cc (lo 21 s15.2.1.length)) Q Q Q Q (Op10 (LT.lenLoc Q und31) Q Q Q (Op20 (LT.lss Q) Q Q Q Q (mv (Bv (decide (s155 < (s15.2.1.length : Int)))) Q Q Q Q (AOR.split (fun hb177 => ?_) (fun hb177 => ?_)))))))
       ·refine mv (Cc (lo 21 s15.2.1.length)) Q Q (gH hb177 Q Q) Q (mv (Iv s155) Q Q (gH hb177 Q Q) Q (Ob' fun x178 hx178 => (Op21 (LT.tindexLoc Q Q el31 hx178) Q Q Q (gH hb177 Q Q) Q (Op11 (LT.tload1 (k := 0) Q ag37 hx178 (by exact Q) (by exact Q)) Q Q (gH hb177 Q Q) Q (mv (Iv s15.1) Q Q (gH hb177 Q Q) Q (Ob' fun x179 hx179 => (Op20 (LT.tindexRO (enc := encInt) Q el37 hx179 sz3) Q Q (gH hb177 Q Q) Q (Op10 (LT.loadPx1 Q ag3) Q (gH hb177 Q Q) Q (Op20 (LT.eql Q) Q y2 (gH hb177 Q Q) Q (Op20 (LT.pickT (v := (Bv (x179 == 0))) Q hb177) Q Q Q Q (On ?_)))))))))))
        refine AWR.nil ⟨Q,Ent.of z5 z2⟩
       ·refine Ok Q Q Q (by rw [hb177]; rfl) Q (Ok Q Q Q (by rw [hb177]; rfl) Q (Ok Q Q Q (by rw [hb177]; rfl) Q (Ok Q Q Q (by rw [hb177]; rfl) Q (Ok Q Q Q (by rw [hb177]; rfl) Q (Ok Q Q Q (by rw [hb177]; rfl) Q (Ok Q Q Q (by rw [hb177]; rfl) Q (Ok Q Q Q (by rw [hb177]; rfl) Q (Op20 (LT.pickF (v := (Bv false)) Q hb177) Q y2 Q Q (On (AWR.nil ⟨Q,Ent.of z5 z2⟩))))))))))
      ·refine AWR.cond Q (fun hc180 => ?_) (fun hc180 => ?_)
       ·refine AWR.skip (AWR.block (Wr ?_))
        refine mv (Iv s155) Q Q Q Q (Op20 (LT.add Q) Q y2 Q Q (asg (Iv (w64 (s155 + 1))) Q Q Q Q (On (AWR.blk ?_))))
        refine AWR.nil ⟨Q,Ent.of z4 z2⟩
       ·refine AWR.exit_end Q ⟨Q,Ent.of z4 z2⟩
     ·refine Ws (Ws (Wr ?_))
      refine mv (Iv b172.2.1) Q Q Q Q (mv (Cc (lo 21 b172.2.2.1.length)) Q Q Q Q (Op10 (LT.lenLoc Q und31) Q Q Q (Op20 (LT.eql Q) Q Q Q Q (On (AWR.cond Q (fun hc181 => ?_) (fun hc181 => ?_))))))
      ·refine AWR.exit Q (Wr ?_)
       refine mv (Iv b172.1) Q Q Q Q (Op20 (LT.add Q) Q y2 Q Q (asg (Iv (w64 (b172.1 + 1))) Q Q Q Q (On (AWR.nil ⟨Q,Ent.of z3 z2⟩))))
      ·refine AWR.skip (Ws (Wr ?_))
       refine mv (Cc (lo 21 b172.2.2.1.length)) Q Q Q Q (mv (Iv b172.2.1) Q Q Q Q (Ob' fun x182 hx182 => (Op21 (LT.tindexLoc Q Q el31 hx182) Q Q Q Q Q (Op11 (LT.tload1 (k := 0) Q ag37 hx182 (by exact Q) (by exact Q)) Q Q Q Q (asg (Cc (xT encInt x182)) Q Q Q Q (On (Ws (Wr ?_))))))))
       refine mv (Cc (lo 21 b172.2.2.1.length)) Q Q Q Q (mv (Iv b172.2.1) Q Q Q Q (mv (Cc (lo 21 b172.2.2.1.length)) Q Q Q Q (mv (Cc (lo 25 b172.2.2.2.length)) Q Q Q Q (Op10 (LT.lenLoc Q und37) Q Q Q (Ob' fun x183 hx183 => (Op21 (LT.tindexLoc Q Q el31 hx183) Q Q Q Q Q (Op11 (LT.tload1 (k := 0) Q ag37 hx183 (by exact Q) (by exact Q)) Q Q Q Q (Ob' fun x184 hx184 => (Op21 (LT.tindexLoc Q Q el31 hx184) Q Q Q Q Q (Os21 (LT.tstore (k := 0) (v := (.c (xT encInt x183))) (b' := x183) Q Q (infS inf37) sz37 (by exact Q) hx184 (by exact Q) (by exact K Q) (by exact Q)) Q Q Q Q Q (On (Ws ?_))))))))))))
       refine en [(4,(Cc (lo 21 b172.2.2.1.length))),(6,(Cc (lo 25 b172.2.2.2.length))),(7,(Iv b172.1)),(9,(Cc (xT encInt x182)))] [(21,(pR 37 (encLInt true) (b172.2.2.1.set b172.2.1.toNat x183))),(25,(pR 3 encInt b172.2.2.2))] z4 z2 (Wr (mv (Cc (lo 21 b172.2.2.1.length)) Q Q Q Q (mv (Cc (lo 25 b172.2.2.2.length)) Q Q Q Q (Op10 (LT.lenLoc Q und37) Q Q Q (mv (Cc (xT encInt x182)) Q Q Q Q (Ob' fun x185 hx185 => (Op21 (LT.tindexLoc (show b172.2.2.1.length = (b172.2.2.1.set b172.2.1.toNat x183).length by simp only [List.length_set]) Q el31 hx185) Q Q Q Q Q (Os21 (LT.tstore (k := 0) (v := (.c (xT encInt x182))) (b' := x182) Q Q (infS inf37) sz37 (by exact Q) hx185 (by exact Q) (by exact K Q) (by exact Q)) Q Q Q Q Q (On (Ws (Ws (Wr ?_))))))))))))
       refine asg (Iv 0) Q y2 Q Q (On (AWR.block ?_))
       refine AWR.loop1 (id := 6) (m_spec_l9Reduced_L8 b172 x182) (fun s186 => ([(4,(Cc (lo 21 s186.2.length))),(6,(Cc (lo 25 b172.2.2.2.length))),(7,(Iv b172.1)),(9,(Cc (xT encInt x182))),(10,(Iv s186.1))],[(21,(pR 37 (encLInt true) s186.2)),(25,(pR 3 encInt b172.2.2.2))])) (fun b221 => ([(4,(Cc (lo 21 b221.2.1.length))),(6,(Cc (lo 25 b221.2.2.length))),(7,(Iv b221.1))],[(21,(pR 37 (encLInt true) b221.2.1)),(25,(pR 3 encInt b221.2.2))])) ?_ (Ent.of ⟨(congrArg (fun l1 => (some (AV.s (.c (lo 21 l1))) : Option AV)) (show b172.2.2.1.length = ((b172.2.2.1.set b172.2.1.toNat x183).set (b172.2.2.2.length : Int).toNat x182).length by simp only [List.length_set])),Q,Q,Q,Q,J⟩ z2) Q (fun b221 _ => ?_)
       ·intro s186
        unfold m_spec_l9Reduced_L8
        refine Ws (Ws (Wr ?_))
        refine mv (Iv s186.1) Q Q Q Q (mv (Cc (lo 21 s186.2.length)) Q Q Q Q (Op10 (LT.lenLoc Q und31) Q Q Q (Op20 (LT.lss Q) Q Q Q Q (On (AWR.cond Q (fun hc222 => ?_) (fun hc222 => ?_))))))
        ·refine AWR.skip (Ws (AWR.block (Ws ?_)))
         refine AWR.joinK (fun j226 => ([(4,(Cc (lo 21 s186.2.length))),(6,(Cc (lo 25 b172.2.2.2.length))),(7,(Iv b172.1)),(9,(Cc (xT encInt x182))),(10,(Iv s186.1)),(98,(Bv j226))],[(21,(pR 37 (encLInt true) s186.2)),(25,(pR 3 encInt b172.2.2.2))])) ?_ (fun j226 _ => ?_)
         ·refine Wr (mv (Iv s186.1) Q Q Q Q (mv (Cc (lo 25 b172.2.2.2.length)) Q Q Q Q (Op10 (LT.lenLoc Q und37) Q Q Q (Op20 (LT.neq Q) Q Q Q Q (mv (Bv (s186.1 != (b172.2.2.2.length : Int))) Q Q Q Q (AOR.split (fun hb227 => ?_) (fun hb227 => ?_)))))))
          ·refine mv (Cc (lo 21 s186.2.length)) Q Q (gH hb227 Q Q) Q (mv (Iv s186.1) Q Q (gH hb227 Q Q) Q (Ob' fun x228 hx228 => (Op21 (LT.tindexLoc Q Q el31 hx228) Q Q Q (gH hb227 Q Q) Q (Op11 (LT.tload1 (k := 0) Q ag37 hx228 (by exact Q) (by exact Q)) Q Q (gH hb227 Q Q) Q (mv (Iv b172.1) Q Q (gH hb227 Q Q) Q (Ob' fun x229 hx229 => (Op20 (LT.tindexRO (enc := encInt) Q el37 hx229 sz3) Q Q (gH hb227 Q Q) Q (Op10 (LT.loadPx1 Q ag3) Q (gH hb227 Q Q) Q (Op20 (LT.neq Q) Q y2 (gH hb227 Q Q) Q (Op20 (LT.pickT (v := (Bv (x229 != 0))) Q hb227) Q Q Q Q (On ?_)))))))))))
           refine AWR.nil ⟨Q,Ent.of z6 z2⟩
          ·refine Ok Q Q Q (by rw [hb227]; rfl) Q (Ok Q Q Q (by rw [hb227]; rfl) Q (Ok Q Q Q (by rw [hb227]; rfl) Q (Ok Q Q Q (by rw [hb227]; rfl) Q (Ok Q Q Q (by rw [hb227]; rfl) Q (Ok Q Q Q (by rw [hb227]; rfl) Q (Ok Q Q Q (by rw [hb227]; rfl) Q (Ok Q Q Q (by rw [hb227]; rfl) Q (Op20 (LT.pickF (v := (Bv false)) Q hb227) Q y2 Q Q (On (AWR.nil ⟨Q,Ent.of z6 z2⟩))))))))))
         ·refine AWR.joinK (fun j234 => ([(4,(Cc (lo 21 j234.length))),(6,(Cc (lo 25 b172.2.2.2.length))),(7,(Iv b172.1)),(9,(Cc (xT encInt x182))),(10,(Iv s186.1))],[(21,(pR 37 (encLInt true) j234)),(25,(pR 3 encInt b172.2.2.2))])) ?_ (fun j234 _ => ?_)
          ·refine AWR.cond Q (fun hc235 => ?_) (fun hc235 => ?_)
           ·refine Wr (mv (Cc (lo 21 s186.2.length)) Q Q Q Q (mv (Iv s186.1) Q Q Q Q (mv (Cc (lo 21 s186.2.length)) Q Q Q Q (mv (Iv s186.1) Q Q Q Q (Ob' fun x236 hx236 => (Op21 (LT.tindexLoc Q Q el31 hx236) Q Q Q Q Q (Op11 (LT.tload1 (k := 0) Q ag37 hx236 (by exact Q) (by exact Q)) Q Q Q Q (mv (Cc (xT encInt x182)) Q Q Q Q (mv (Iv b172.1) Q Q Q Q (Ob' fun r237 hr237 => (AOR.step (@LT.callF Try.prog _ _ 218 _ _ [(.c (xT encInt x236)),(.c (xT encInt x182)),(.c (iC b172.1))] _ _ [] _ _ _ _ ((show Fw.Fn Try.prog 218 [(.c (xF encInt x236)),(.c (xF encInt x182)),(.c (iC b172.1))] [] (Cc (lo 27 r237.length)) [(27,(pR 3 encInt r237))] [] [27] from Fw.Fn.ren [(0,27)] (w_spec_l9Without x236 x182 b172.1 r237 hr237) Q)) Q cb218 (.cons (.c (.weak (.same Q) (QW.xsm qw_encInt (fun h => by cases h) _))) (.cons (.c (.weak (.same Q) (QW.xsm qw_encInt (fun h => by cases h) _))) (.cons (.c (.same Q)) .nil))) Q Q J) z4 J Q Q ?_)))))))))))
            refine Ob' fun x238 hx238 => (Op21 (LT.tindexLoc Q Q el31 hx238) Q Q Q Q Q (AOR.ent (Ent.freezeS (enc := encInt) 107 27 hU Q Q Q Q) (Os21 (LT.tstore (k := 0) (v := (.c (xT encInt r237))) (b' := r237) Q Q (infS inf37) sz37 (by exact Q) hx238 (by exact Q) (by exact K Q) (by exact Q)) Q Q Q Q Q (On (AWR.nil ⟨Q,Ent.of ⟨(congrArg (fun l1 => (some (AV.s (.c (lo 21 l1))) : Option AV)) (show s186.2.length = (s186.2.set s186.1.toNat r237).length by simp only [List.length_set])),Q,Q,Q,Q,J⟩ z2⟩)))))
           ·refine AWR.skip (AWR.nil ⟨Q,Ent.of z5 z2⟩)
          ·refine AWR.blk (Wr ?_)
           refine mv (Iv s186.1) Q Q Q Q (Op20 (LT.add Q) Q y2 Q Q (asg (Iv (w64 (s186.1 + 1))) Q Q Q Q (On (AWR.nil ⟨Q,Ent.of z5 z2⟩))))
        ·refine AWR.exit_end Q ⟨Q,Ent.of z3 z2⟩
       ·refine Wr (mv (Cc (lo 25 b221.2.2.length)) Q Q Q Q (mv (Iv b221.1) Q Q Q Q (Os10 (LT.tbuildSlice (n := 28) (enc := encInt) [(0,.tmp 110,(.c (iC b221.1)))] ([b221.1] : List Int) Q Q und37 ti3 Q Q Q Q (by decide) (fun _ => Q) Q) Q Q Q (Ob' fun u239 hu239 => (Os22 (LT.tappP (enc := encInt) Q Q Q und37 ti3 Q (by decide) (by decide) (fun _ => Q) (lim_le hu239)) Q Q Q Q Q Q (asg (Cc (lo 25 ((b221.2.2 ++ ([b221.1] : List Int)).length))) Q Q Q Q (On (AWR.blk (Wr ?_)))))))))
        refine mv (Iv b221.1) Q Q Q Q (Op20 (LT.add Q) Q y2 Q Q (asg (Iv (w64 (b221.1 + 1))) Q Q Q Q (On (AWR.nil ⟨Q,Ent.of z3 z2⟩))))
    ·refine AWR.exit_end Q ⟨Q,Ent.of z2 z2⟩
  ·refine Ws (Wr ?_)
   refine mv (Cc (lo 21 b148.1.length)) Q Q Q Q (mv (Cc (lo 25 b148.2.length)) Q Q Q Q (asg (Cc (lo 21 b148.1.length)) Q Q Q Q (asg (Cc (lo 25 b148.2.length)) Q Q Q Q (On (en [(2,(Cc (lo 21 b148.1.length))),(3,(Cc (lo 25 b148.2.length)))] [(21,(pR 37 (encLInt true) b148.1)),(25,(pR 3 encInt b148.2))] z2 z2 (AWR.ent (Ent.mv 21 0 Q Q) (AWR.ent (Ent.mv 25 1 Q Q) (en [(2,(Cc (lo 0 b148.1.length))),(3,(Cc (lo 1 b148.2.length)))] [(0,(pR 37 (encLInt true) b148.1)),(1,(pR 3 encInt b148.2))] z2 z2 (AWR.ret (FPost.mk (.inr Q) z2 z2 Q ⟨J,J,J⟩ ⟨PermO.prow' perm_encLInt,PermO.prow' perm_encInt,J⟩))))))))))
end Go.Proofs.Ytghofbijdnenoaa
end
section
set_option linter.unusedVariables false
set_option linter.unusedSimpArgs false
set_option linter.unnecessarySimpa false
set_option maxRecDepth 100000
set_option maxHeartbeats 8000000
open Go Go.Fw
namespace Go.Proofs.Ytghofbijdnenoaa
theorem w_impl_isGreat (x : Int) : ∀ t,m_impl_isGreat x = some t → Fw.Fn Try.prog 235 [(.c (iC x))] [] (.s (.c (bC t))) [] [] [] := by
 refine Fw.Fn.of (P := Try.prog) (X := []) (pn := []) (rs := (fun (t : Bool) => [(.c (bC t))])) (dfs := (fun (t : Bool) => [])) Try.func235 Q Try.ntmps235 (K Q) Q ?_
 intro w0 U0 R0 g0
 unfold m_impl_isGreat
 refine Ws (Wr ?_)
 refine asg (Bv false) Q y2 Q Q (On (Ws ?_))
 refine AWR.joinK (fun j2 => ([(2,(Bv j2))],[])) ?_ (fun j2 _ => ?_)
 ·refine Wr (mv (Iv x) Q Q Q Q (Op20 (LT.gtr Q) Q y2 Q Q (mv (Bv (decide (9000000000000000000 < x))) Q Q Q Q (AOR.split (fun hb3 => ?_) (fun hb3 => ?_)))))
  ·refine Ok Q Q Q (by rw [hb3]; rfl) Q (Ok Q Q Q (by rw [hb3]; rfl) Q (Op20 (LT.pickT (v := (Bv true)) Q hb3) Q y2 Q Q (asg (Bv true) Q Q Q Q (On (AWR.nil ⟨Q,Ent.of z1 J⟩)))))
  ·refine mv (Iv x) Q Q (gH hb3 Q Q) Q (Op20 (LT.lss Q) Q y2 (gH hb3 Q Q) Q (Op20 (LT.pickF (v := (Bv (decide (x < (-9000000000000000000))))) Q hb3) Q Q Q Q (asg (Bv (decide (x < (-9000000000000000000)))) Q Q Q Q (On (AWR.nil ⟨Q,Ent.of z1 J⟩)))))
 ·refine AWR.ret (FPost.mk (.inr Q) z1 J Q ⟨PermP.sc,J⟩ J)
theorem w_impl_GcdOf (a : Int) (b : Int) : ∀ t,m_impl_GcdOf a b = some t → Fw.Fn Try.prog 236 [(.c (iC a)),(.c (iC b))] [] (.s (.c (iC t))) [] [] [] := by
 refine Fw.Fn.of (P := Try.prog) (X := []) (pn := []) (rs := (fun (t : Int) => [(.c (iC t))])) (dfs := (fun (t : Int) => [])) Try.func236 Q Try.ntmps236 (K Q) Q ?_
 intro w0 U0 R0 g0
 unfold m_impl_GcdOf
 refine Ws (Wr ?_)
 refine asg (Iv 0) Q y2 Q Q (On (Ws (Ws ?_)))
 refine AWR.joinK (fun j4 => ([(0,(Iv a)),(1,(Iv b)),(10,(Bv j4))],[])) ?_ (fun j4 _ => ?_)
 ·refine Wr (mv (Iv a) Q Q Q Q (Ob' fun r5 hr5 => (AOR.pure (@LT.callF Try.prog _ _ 235 _ _ [(.c (iC a))] _ _ [] _ _ _ _ (w_impl_isGreat a r5 hr5) Q cb235 (.cons (.c (.same Q)) .nil) Q Q J) z2 J Q Q (mv (Bv r5) Q Q Q Q (AOR.split (fun hb6 => ?_) (fun hb6 => ?_))))))
  ·refine Ok Q Q Q (by rw [hb6]; rfl) Q (Ok Q Q Q (by rw [hb6]; rfl) Q (Op20 (LT.pickT (v := (Bv true)) Q hb6) Q y2 Q Q (On (AWR.nil ⟨Q,Ent.of z3 J⟩))))
  ·refine mv (Iv b) Q Q (gH hb6 Q Q) Q (Ob' fun r7 hr7 => (AOR.pure (@LT.callF Try.prog _ _ 235 _ _ [(.c (iC b))] _ _ [] _ _ _ _ (w_impl_isGreat b r7 hr7) Q cb235 (.cons (.c (.same Q)) .nil) Q Q J) z2 J (gH hb6 Q Q) Q (Op20 (LT.pickF (v := (Bv r7)) Q hb6) Q Q Q Q (On (AWR.nil ⟨Q,Ent.of z3 J⟩)))))
 ·refine AWR.cond Q (fun hc8 => ?_) (fun hc8 => ?_)
  ·refine Ws (Wr ?_)
   refine asg (Iv 0) Q y2 Q Q (On (AWR.ret (FPost.mk (.inr Q) z1 J Q ⟨PermP.sc,J⟩ J)))
  ·refine AWR.skip (Ws (Wr ?_))
   refine mv (Iv a) Q Q Q Q (mv (Iv a) Q Q Q Q (Op10 (LT.neg Q) Q Q Q (Op20 (LT.max Q) Q Q Q Q (mv (Iv b) Q Q Q Q (mv (Iv b) Q Q Q Q (Op10 (LT.neg Q) Q Q Q (Op20 (LT.max Q) Q Q Q Q (asg (Iv (if a < (w64 (-a)) then (w64 (-a)) else a)) Q Q Q Q (asg (Iv (if b < (w64 (-b)) then (w64 (-b)) else b)) Q Q Q Q (On (Ws (AWR.block ?_))))))))))))
   refine AWR.loop1 (id := 0) (m_impl_GcdOf_L1) (fun s9 => ([(0,(Iv s9.1)),(1,(Iv s9.2))],[])) (fun b14 => ([(0,(Iv b14))],[])) ?_ (Ent.of z2 J) Q (fun b14 _ => ?_)
   ·intro s9
    unfold m_impl_GcdOf_L1
    refine Ws (Ws (Wr ?_))
    refine mv (Iv s9.2) Q Q Q Q (Op20 (LT.neq Q) Q y2 Q Q (On (AWR.cond Q (fun hc15 => ?_) (fun hc15 => ?_))))
    ·refine AWR.skip (AWR.block (AWR.draw mixed ?_))
     refine Dp10 (LT.move (v := (Iv s9.2)) Q) Q Q Q (Dp10 (LT.move (v := (Iv s9.1)) Q) Q Q Q (Dp10 (LT.move (v := (Iv s9.2)) Q) Q Q Q (AOD.bind fun u16 hu16 => (Dp20 (LT.rem Q (nz_ne hu16)) Q Q Q Q (Dp10 (LT.assign (v := (Iv s9.2)) Q) Q Q Q (Dp10 (LT.assign (v := (Iv (Int.tmod s9.1 s9.2))) Q) Q Q Q (AOD.nil (by kernel_rfl) (AWR.blk (AWR.nil ⟨Q,Ent.of z2 J⟩)))))))))
    ·refine AWR.exit_end Q ⟨Q,Ent.of z1 J⟩
   ·refine Ws (Wr ?_)
    refine mv (Iv b14) Q Q Q Q (asg (Iv b14) Q Q Q Q (On (AWR.ret (FPost.mk (.inr Q) z1 J Q ⟨PermP.sc,J⟩ J))))
theorem w_impl_PrimitiveVector (v : (List Int)) : ∀ t,m_impl_PrimitiveVector v = some t → Fw.Fn Try.prog 203 [(.c (xF encInt v))] [] (.s (.c (lo 0 t.length))) [(0,(pR 3 encInt t))] [] [0] := by
 refine Fw.Fn.of (P := Try.prog) (X := [0]) (pn := []) (rs := (fun (t : (List Int)) => [(.c (lo 0 t.length))])) (dfs := (fun (t : (List Int)) => [(0,(pR 3 encInt t))])) Try.func203 Q Try.ntmps203 (K Q) Q ?_
 intro w0 U0 R0 g0
 unfold m_impl_PrimitiveVector
 refine Ws (Wr ?_)
 refine asg (Cc (sC nilV)) Q y2 Q Q (On (Ws (Wr ?_)))
 refine mv (Cc (xF encInt v)) Q Q Q Q (Ob' fun r1 hr1 => (AOR.step (@LT.callF Try.prog _ _ 114 _ _ [(.c (xF encInt v))] _ _ [] _ _ _ _ ((show Fw.Fn Try.prog 114 [(.c (xF encInt v))] [] (Cc (lo 22 r1.length)) [(22,(pR 3 encInt r1))] [] [22] from Fw.Fn.ren [(0,22)] (w_impl_copyInts v r1 hr1) Q)) Q cb114 (.cons (.c (.same Q)) .nil) Q Q J) z2 J Q Q (asg (Cc (lo 22 r1.length)) Q Q Q Q (On (Ws (Wr ?_))))))
 refine asg (Iv 0) Q y2 Q Q (asg (Iv 0) Q y2 Q Q (On (Ws (Ws (Wr ?_)))))
 refine mv (Cc (xF encInt v)) Q Q Q Q (Op10 (LT.tlenRO Q und37) Q Q Q (mv (Iv 0) Q y2 Q Q (On (AWR.block ?_))))
 refine AWR.loopR (id := 0) (m_impl_PrimitiveVector_L1 v r1) (fun s2 => ([(3,(Cc (lo 22 r1.length))),(4,(Iv s2.1)),(5,(Iv s2.2.1)),(11,(Cc (xF encInt v))),(12,(Iv (v.length : Int))),(13,(Iv s2.2.2))],[(22,(pR 3 encInt r1))])) (fun b19 => ([(3,(Cc (lo 22 b19.2.2.length))),(4,(Iv b19.1)),(5,(Iv b19.2.1))],[(22,(pR 3 encInt b19.2.2))])) (FPost Try.prog Try.f203.results.toList [] [0] (fun (t : (List Int)) => [(.c (lo 0 t.length))]) (fun (t : (List Int)) => [(0,(pR 3 encInt t))])) ?_ (Ent.of z6 z1) Q (fun b19 _ => ?_) (by intro r t σ m ht hk; injection ht with ht; subst ht; exact hk)
 ·intro s2
  unfold m_impl_PrimitiveVector_L1
  refine Ws (Wr ?_)
  refine Op20 (LT.lss Q) Q Q Q Q (On (Ws ?_))
  refine AWR.cond Q (fun hc20 => ?_) (fun hc20 => ?_)
  ·refine AWR.skip (Ws (AWR.block (Ws (Wr ?_))))
   refine Ob' fun x21 hx21 => (Op20 (LT.tindexRO (enc := encInt) Q el37 hx21 sz3) Q Q Q Q (Op10 (LT.loadPx1 Q ag3) Q Q Q (asg (Iv x21) Q Q Q Q (On (Ws (Ws (Wr ?_)))))))
   refine mv (Iv x21) Q Q Q Q (Ob' fun r22 hr22 => (AOR.pure (@LT.callF Try.prog _ _ 235 _ _ [(.c (iC x21))] _ _ [] _ _ _ _ (w_impl_isGreat x21 r22 hr22) Q cb235 (.cons (.c (.same Q)) .nil) Q Q J) z2 J Q Q (On (AWR.cond Q (fun hc23 => ?_) (fun hc23 => ?_)))))
   ·refine Ws (Wr ?_)
    refine mv (Cc (lo 22 r1.length)) Q Q Q Q (asg (Cc (lo 22 r1.length)) Q Q Q Q (On (en [(2,(Cc (lo 22 r1.length)))] [(22,(pR 3 encInt r1))] z1 z1 (AWR.ent (Ent.mv 22 0 Q Q) (en [(2,(Cc (lo 0 r1.length)))] [(0,(pR 3 encInt r1))] z1 z1 (AWR.ret ⟨Q,FPost.mk (.inr Q) z1 z1 Q ⟨J,J⟩ ⟨PermO.prow' perm_encInt,J⟩⟩))))))
   ·refine AWR.skip (Ws (Wr ?_))
    refine mv (Iv s2.1) Q Q Q Q (mv (Iv x21) Q Q Q Q (Ob' fun r24 hr24 => (AOR.pure (@LT.callF Try.prog _ _ 236 _ _ [(.c (iC s2.1)),(.c (iC x21))] _ _ [] _ _ _ _ (w_impl_GcdOf s2.1 x21 r24 hr24) Q cb236 (.cons (.c (.same Q)) (.cons (.c (.same Q)) .nil)) Q Q J) z3 J Q Q (asg (Iv r24) Q Q Q Q (On (Ws (Wr ?_)))))))
    refine mv (Iv s2.2.1) Q Q Q Q (Op20 (LT.eql Q) Q y2 Q Q (On (AWR.joinK (fun j26 => ([(3,(Cc (lo 22 r1.length))),(4,(Iv r24)),(5,(Iv j26)),(11,(Cc (xF encInt v))),(12,(Iv (v.length : Int))),(13,(Iv s2.2.2))],[(22,(pR 3 encInt r1))])) ?_ (fun j26 _ => ?_))))
    ·refine AWR.cond Q (fun hc27 => ?_) (fun hc27 => ?_)
     ·refine en [(3,(Cc (lo 22 r1.length))),(4,(Iv r24)),(7,(Iv x21)),(11,(Cc (xF encInt v))),(12,(Iv (v.length : Int))),(13,(Iv s2.2.2))] [(22,(pR 3 encInt r1))] z6 z1 (Wr (mv (Iv x21) Q Q Q Q (asg (Iv x21) Q Q Q Q (On (AWR.nil ⟨Q,Ent.of z6 z1⟩)))))
     ·refine AWR.skip (AWR.nil ⟨Q,Ent.of z6 z1⟩)
    ·refine AWR.blk (Wr ?_)
     refine Op20 (LT.add Q) Q y2 Q Q (mv (Iv (w64 (s2.2.2 + 1))) Q Q Q Q (On (AWR.nil ⟨Q,Ent.of z6 z1⟩)))
  ·refine AWR.exit_end Q ⟨Q,Ent.of z3 z1⟩
 ·refine Ws (Ws (Wr ?_))
  refine mv (Iv b19.1) Q Q Q Q (Op20 (LT.eql Q) Q y2 Q Q (On (AWR.cond Q (fun hc28 => ?_) (fun hc28 => ?_))))
  ·refine Ws (Wr ?_)
   refine mv (Cc (lo 22 b19.2.2.length)) Q Q Q Q (asg (Cc (lo 22 b19.2.2.length)) Q Q Q Q (On (en [(2,(Cc (lo 22 b19.2.2.length)))] [(22,(pR 3 encInt b19.2.2))] z1 z1 (AWR.ent (Ent.mv 22 0 Q Q) (en [(2,(Cc (lo 0 b19.2.2.length)))] [(0,(pR 3 encInt b19.2.2))] z1 z1 (AWR.ret (FPost.mk (.inr Q) z1 z1 Q ⟨J,J⟩ ⟨PermO.prow' perm_encInt,J⟩)))))))
  ·refine AWR.skip (Ws (Ws (Wr ?_)))
   refine mv (Iv b19.2.1) Q Q Q Q (Op20 (LT.lss Q) Q y2 Q Q (On (AWR.joinK (fun j30 => ([(3,(Cc (lo 22 b19.2.2.length))),(4,(Iv j30))],[(22,(pR 3 encInt b19.2.2))])) ?_ (fun j30 _ => ?_))))
   ·refine AWR.cond Q (fun hc31 => ?_) (fun hc31 => ?_)
    ·refine Wr (mv (Iv b19.1) Q Q Q Q (Op10 (LT.neg Q) Q Q Q (asg (Iv (w64 (-b19.1))) Q Q Q Q (On (AWR.nil ⟨Q,Ent.of z2 z1⟩)))))
    ·refine AWR.skip (AWR.nil ⟨Q,Ent.of z2 z1⟩)
   ·refine Ws (Ws (Wr ?_))
    refine mv (Cc (lo 22 b19.2.2.length)) Q Q Q Q (Op10 (LT.lenLoc Q und37) Q Q Q (mv (Iv 0) Q y2 Q Q (On (AWR.block ?_))))
    refine AWR.loop1 (id := 2) (m_impl_PrimitiveVector_L2 b19 j30) (fun s32 => ([(3,(Cc (lo 22 s32.2.length))),(4,(Iv j30)),(35,(Iv (b19.2.2.length : Int))),(36,(Iv s32.1))],[(22,(pR 3 encInt s32.2))])) (fun b41 => ([(3,(Cc (lo 22 b41.length)))],[(22,(pR 3 encInt b41))])) ?_ (Ent.of z4 z1) Q (fun b41 _ => ?_)
    ·intro s32
     unfold m_impl_PrimitiveVector_L2
     refine Ws (Wr ?_)
     refine Op20 (LT.lss Q) Q Q Q Q (On (Ws ?_))
     refine AWR.cond Q (fun hc42 => ?_) (fun hc42 => ?_)
     ·refine AWR.skip (Ws (AWR.block (Ws (Wr ?_))))
      refine mv (Iv s32.1) Q Q Q Q (asg (Iv s32.1) Q Q Q Q (On (Wr ?_)))
      refine mv (Cc (lo 22 s32.2.length)) Q Q Q Q (mv (Iv s32.1) Q Q Q Q (mv (Cc (lo 22 s32.2.length)) Q Q Q Q (mv (Iv s32.1) Q Q Q Q (Ob' fun x43 hx43 => (Op21 (LT.tindexLoc Q Q el37 hx43) Q Q Q Q Q (Op11 (LT.tload1 (k := 0) Q ag3 hx43 (by exact Q) (by exact Q)) Q Q Q Q (mv (Iv j30) Q Q Q Q (Ob' fun u44 hu44 => (Op20 (LT.quo Q (nz_ne hu44)) Q Q Q Q (Ob' fun x45 hx45 => (Op21 (LT.tindexLoc Q Q el37 hx45) Q Q Q Q Q ?_)))))))))))
      refine Os21 (LT.tstore (k := 0) (v := (.c (iC (w64 (Int.tdiv x43 j30))))) (b' := (w64 (Int.tdiv x43 j30))) Q Q (infS inf3) sz3 (by exact Q) hx45 (by exact Q) (by exact K Q) (by exact Q)) Q Q Q Q Q (On (AWR.blk ?_))
      refine en [(3,(Cc (lo 22 s32.2.length))),(4,(Iv j30)),(35,(Iv (b19.2.2.length : Int))),(36,(Iv s32.1))] [(22,(pR 3 encInt (s32.2.set s32.1.toNat (w64 (Int.tdiv x43 j30)))))] z4 z1 (Wr (Op20 (LT.add Q) Q y2 Q Q (mv (Iv (w64 (s32.1 + 1))) Q Q Q Q (On (AWR.nil ⟨Q,Ent.of ⟨(congrArg (fun l1 => (some (AV.s (.c (lo 22 l1))) : Option AV)) (show s32.2.length = (s32.2.set s32.1.toNat (w64 (Int.tdiv x43 j30))).length by simp only [List.length_set])),Q,Q,Q,J⟩ z1⟩)))))
     ·refine AWR.exit_end Q ⟨Q,Ent.of z1 z1⟩
    ·refine Ws (Wr ?_)
     refine mv (Cc (lo 22 b41.length)) Q Q Q Q (asg (Cc (lo 22 b41.length)) Q Q Q Q (On (en [(2,(Cc (lo 22 b41.length)))] [(22,(pR 3 encInt b41))] z1 z1 (AWR.ent (Ent.mv 22 0 Q Q) (en [(2,(Cc (lo 0 b41.length)))] [(0,(pR 3 encInt b41))] z1 z1 (AWR.ret (FPost.mk (.inr Q) z1 z1 Q ⟨J,J⟩ ⟨PermO.prow' perm_encInt,J⟩)))))))
theorem w_impl_nullspace (m : (List (List Int))) (columns : Int) : ∀ t,m_impl_nullspace m columns = some t → Fw.Fn Try.prog 105 [(.c (xF (encLInt false) m)),(.c (iC columns))] [] (.s (.c (lo 0 t.length))) [(0,(.trow 37 1 (lensOf t))),(1,(.pool 3 (rowsOf encInt t)))] [] [0,1] := by
 refine Fw.Fn.of (P := Try.prog) (X := [0,1]) (pn := []) (rs := (fun (t : (List (List Int))) => [(.c (lo 0 t.length))])) (dfs := (fun (t : (List (List Int))) => [(0,(.trow 37 1 (lensOf t))),(1,(.pool 3 (rowsOf encInt t)))])) Try.func105 Q Try.ntmps105 (K Q) Q ?_
 intro w0 U0 R0 g0
 unfold m_impl_nullspace
 refine Ws (Wr ?_)
 refine asg (Cc (sC nilV)) Q y2 Q Q (On (Ws (Wr ?_)))
 refine mv (Cc (xF (encLInt false) m)) Q Q Q Q (mv (Iv columns) Q Q Q Q (Ob' fun r1 hr1 => (AOR.step (@LT.callF Try.prog _ _ 202 _ _ [(.c (xF (encLInt false) m)),(.c (iC columns))] _ _ [] _ _ _ _ ((show Fw.Fn Try.prog 202 [(.c (xF (encLInt false) m)),(.c (iC columns))] [] (.tup [(.c (lo 22 r1.1.length)),(.c (lo 24 r1.2.1.length)),(.c (iC r1.2.2))]) [(22,(.trow 37 23 (lensOf r1.1))),(23,(.pool 3 (rowsOf encInt r1.1))),(24,(pR 3 encInt r1.2.1))] [] [22,23,24] from Fw.Fn.ren [(0,22),(1,23),(2,24)] (w_impl_reduced m columns r1 hr1) Q)) Q cb202 (.cons (.c (.same Q)) (.cons (.c (.same Q)) .nil)) Q Q J) z3 J Q Q (mv (.tup [(.c (lo 22 r1.1.length)),(.c (lo 24 r1.2.1.length)),(.c (iC r1.2.2))]) Q Q Q Q (Op10 (LT.extract (v := (.c (lo 22 r1.1.length))) Q (by exact Q)) Q Q Q (Op10 (LT.extract (v := (.c (lo 24 r1.2.1.length))) Q (by exact Q)) Q Q Q (Op10 (LT.extract (v := (.c (iC r1.2.2))) Q (by exact Q)) Q Q Q (asg (Cc (lo 22 r1.1.length)) Q Q Q Q (asg (Cc (lo 24 r1.2.1.length)) Q Q Q Q (asg (Iv r1.2.2) Q Q Q Q (On (Ws ?_))))))))))))
 refine en [(1,(Iv columns)),(5,(Cc (lo 22 r1.1.length))),(6,(Cc (lo 24 r1.2.1.length))),(7,(Iv r1.2.2))] [(22,(.trow 37 23 (lensOf r1.1))),(23,(.pool 3 (rowsOf encInt r1.1))),(24,(pR 3 encInt r1.2.1))] z4 z3 (Wr (mv (Iv columns) Q Q Q Q (Ob' fun u2 hu2 => (Os20 (LT.tmake (n := 25) (enc := encInt) (zc := [(iC 0)]) (0 : Int) Q und37 ti3 Q Q Q (by decide) (by decide) (lenOk_le hu2) Q) Q Q Q Q (asg (Cc (lo 25 ((List.replicate columns.toNat (0 : Int)).length))) Q Q Q Q (On (Ws (Ws (Wr ?_)))))))))
 refine mv (Cc (lo 25 ((List.replicate columns.toNat (0 : Int)).length))) Q Q Q Q (Op10 (LT.lenLoc Q und37) Q Q Q (mv (Iv 0) Q y2 Q Q (On (AWR.block ?_))))
 refine AWR.loop1 (id := 0) (m_impl_nullspace_L1 columns r1) (fun s3 => ([(1,(Iv columns)),(5,(Cc (lo 22 r1.1.length))),(6,(Cc (lo 24 r1.2.1.length))),(7,(Iv r1.2.2)),(8,(Cc (lo 25 s3.2.length))),(26,(Iv ((List.replicate columns.toNat (0 : Int)).length : Int))),(27,(Iv s3.1))],[(22,(.trow 37 23 (lensOf r1.1))),(23,(.pool 3 (rowsOf encInt r1.1))),(24,(pR 3 encInt r1.2.1)),(25,(pR 3 encInt s3.2))])) (fun b8 => ([(1,(Iv columns)),(5,(Cc (lo 22 b8.2.1.length))),(6,(Cc (lo 24 b8.2.2.1.length))),(7,(Iv b8.1)),(8,(Cc (lo 25 b8.2.2.2.length)))],[(22,(.trow 37 23 (lensOf b8.2.1))),(23,(.pool 3 (rowsOf encInt b8.2.1))),(24,(pR 3 encInt b8.2.2.1)),(25,(pR 3 encInt b8.2.2.2))])) ?_ (Ent.of z7 z4) Q (fun b8 _ => ?_)
 ·intro s3
  unfold m_impl_nullspace_L1
  refine Ws (Wr ?_)
  refine Op20 (LT.lss Q) Q Q Q Q (On (Ws ?_))
  refine AWR.cond Q (fun hc9 => ?_) (fun hc9 => ?_)
  ·refine AWR.skip (Ws (AWR.block (Ws (Wr ?_))))
   refine mv (Iv s3.1) Q Q Q Q (asg (Iv s3.1) Q Q Q Q (On (Wr ?_)))
   refine mv (Cc (lo 25 s3.2.length)) Q Q Q Q (mv (Iv s3.1) Q Q Q Q (Ob' fun x10 hx10 => (Op21 (LT.tindexLoc Q Q el37 hx10) Q Q Q Q Q (Os21 (LT.tstore (k := 0) (v := (.c (iC (-1)))) (b' := (-1)) Q Q (infS inf3) sz3 (by exact Q) hx10 (by exact Q) (by exact K Q) (by exact Q)) Q y2 Q Q Q (On (AWR.blk (Wr ?_)))))))
   refine Op20 (LT.add Q) Q y2 Q Q (mv (Iv (w64 (s3.1 + 1))) Q Q Q Q (On (AWR.nil ⟨Q,Ent.of ⟨Q,Q,Q,Q,(congrArg (fun l1 => (some (AV.s (.c (lo 25 l1))) : Option AV)) (show s3.2.length = (s3.2.set s3.1.toNat (-1)).length by simp only [List.length_set])),Q,Q,J⟩ z4⟩)))
  ·refine AWR.exit_end Q ⟨Q,Ent.of z5 z4⟩
 ·refine Ws (Ws (Wr ?_))
  refine mv (Cc (lo 24 b8.2.2.1.length)) Q Q Q Q (Op10 (LT.lenLoc Q und37) Q Q Q (mv (Iv 0) Q y2 Q Q (On (AWR.block ?_))))
  refine AWR.loop1 (id := 2) (m_impl_nullspace_L2 b8) (fun s11 => ([(1,(Iv columns)),(5,(Cc (lo 22 b8.2.1.length))),(7,(Iv b8.1)),(8,(Cc (lo 25 s11.2.length))),(34,(Cc (lo 24 b8.2.2.1.length))),(35,(Iv (b8.2.2.1.length : Int))),(36,(Iv s11.1))],[(22,(.trow 37 23 (lensOf b8.2.1))),(23,(.pool 3 (rowsOf encInt b8.2.1))),(24,(pR 3 encInt b8.2.2.1)),(25,(pR 3 encInt s11.2))])) (fun b18 => ([(1,(Iv columns)),(5,(Cc (lo 22 b18.2.1.length))),(7,(Iv b18.1)),(8,(Cc (lo 25 b18.2.2.length)))],[(22,(.trow 37 23 (lensOf b18.2.1))),(23,(.pool 3 (rowsOf encInt b18.2.1))),(25,(pR 3 encInt b18.2.2))])) ?_ (Ent.of z7 z4) Q (fun b18 _ => ?_)
  ·intro s11
   unfold m_impl_nullspace_L2
   refine Ws (Wr ?_)
   refine Op20 (LT.lss Q) Q Q Q Q (On (Ws ?_))
   refine AWR.cond Q (fun hc19 => ?_) (fun hc19 => ?_)
   ·refine AWR.skip (Ws (AWR.block (Ws (Wr ?_))))
    refine mv (Iv s11.1) Q Q Q Q (Ob' fun x20 hx20 => (Op21 (LT.tindexLoc Q Q el37 hx20) Q Q Q Q Q (Op11 (LT.tload1 (k := 0) Q ag3 hx20 (by exact Q) (by exact Q)) Q Q Q Q (asg (Iv s11.1) Q Q Q Q (asg (Iv x20) Q Q Q Q (On (Wr ?_)))))))
    refine mv (Cc (lo 25 s11.2.length)) Q Q Q Q (mv (Iv x20) Q Q Q Q (mv (Iv s11.1) Q Q Q Q (Ob' fun x21 hx21 => (Op21 (LT.tindexLoc Q Q el37 hx21) Q Q Q Q Q (Os21 (LT.tstore (k := 0) (v := (.c (iC s11.1))) (b' := s11.1) Q Q (infS inf3) sz3 (by exact Q) hx21 (by exact Q) (by exact K Q) (by exact Q)) Q Q Q Q Q (On (AWR.blk ?_)))))))
    refine en [(1,(Iv columns)),(5,(Cc (lo 22 b8.2.1.length))),(7,(Iv b8.1)),(8,(Cc (lo 25 s11.2.length))),(34,(Cc (lo 24 b8.2.2.1.length))),(35,(Iv (b8.2.2.1.length : Int))),(36,(Iv s11.1))] [(22,(.trow 37 23 (lensOf b8.2.1))),(23,(.pool 3 (rowsOf encInt b8.2.1))),(24,(pR 3 encInt b8.2.2.1)),(25,(pR 3 encInt (s11.2.set x20.toNat s11.1)))] z7 z4 (Wr (Op20 (LT.add Q) Q y2 Q Q (mv (Iv (w64 (s11.1 + 1))) Q Q Q Q (On (AWR.nil ⟨Q,Ent.of ⟨Q,Q,Q,(congrArg (fun l1 => (some (AV.s (.c (lo 25 l1))) : Option AV)) (show s11.2.length = (s11.2.set x20.toNat s11.1).length by simp only [List.length_set])),Q,Q,Q,J⟩ z4⟩)))))
   ·refine AWR.exit_end Q ⟨Q,Ent.of z4 z3⟩
  ·refine Ws (Wr ?_)
   refine Os00 (LT.buildSlice (n := 26) (els := []) [] Q Q und31 ti37 Q Q Q Q (by decide) Q Q) Q Q (asg (Cc (lo 26 0)) Q Q Q Q (On (AWR.ent (Ent.poolE 27 3 Q) (AWR.ent (Ent.trow (n := 26) (p := 27) (lens := lensOf ([] : List (List Int))) (List.append_nil _) Q) (Ws (Ws (Wr ?_)))))))
   refine mv (Iv columns) Q Q Q Q (mv (Iv 0) Q y2 Q Q (On (AWR.block ?_)))
   refine AWR.loop1 (id := 4) (m_impl_nullspace_L5 columns) (fun s22 => ([(1,(Iv columns)),(5,(Cc (lo 22 s22.2.2.2.1.length))),(7,(Iv s22.2.1)),(8,(Cc (lo 25 s22.2.2.1.length))),(12,(Cc (lo 26 s22.2.2.2.2.length))),(47,(Iv columns)),(48,(Iv s22.1))],[(22,(.trow 37 23 (lensOf s22.2.2.2.1))),(23,(.pool 3 (rowsOf encInt s22.2.2.2.1))),(25,(pR 3 encInt s22.2.2.1)),(26,(.trow 37 27 (lensOf s22.2.2.2.2))),(27,(.pool 3 (rowsOf encInt s22.2.2.2.2)))])) (fun b93 => ([(12,(Cc (lo 26 b93.length)))],[(26,(.trow 37 27 (lensOf b93))),(27,(.pool 3 (rowsOf encInt b93)))])) ?_ (Ent.of z7 z5) Q (fun b93 _ => ?_)
   ·intro s22
    unfold m_impl_nullspace_L5
    refine Ws (Wr ?_)
    refine Op20 (LT.lss Q) Q Q Q Q (On (Ws ?_))
    refine AWR.cond Q (fun hc94 => ?_) (fun hc94 => ?_)
    ·refine AWR.skip (Ws (AWR.block (Ws (Wr ?_))))
     refine mv (Iv s22.1) Q Q Q Q (asg (Iv s22.1) Q Q Q Q (On (Ws (Ws (Wr ?_)))))
     refine mv (Cc (lo 25 s22.2.2.1.length)) Q Q Q Q (mv (Iv s22.1) Q Q Q Q (Ob' fun x95 hx95 => (Op21 (LT.tindexLoc Q Q el37 hx95) Q Q Q Q Q (Op11 (LT.tload1 (k := 0) Q ag3 hx95 (by exact Q) (by exact Q)) Q Q Q Q (Op20 (LT.geq Q) Q y2 Q Q (On (AWR.cond Q (fun hc96 => ?_) (fun hc96 => ?_))))))))
     ·refine AWR.exit Q (Wr ?_)
      refine Op20 (LT.add Q) Q y2 Q Q (mv (Iv (w64 (s22.1 + 1))) Q Q Q Q (On (AWR.nil ⟨Q,Ent.of z7 z5⟩)))
     ·refine AWR.skip (Ws (Wr ?_))
      refine mv (Iv columns) Q Q Q Q (Ob' fun u97 hu97 => (Os20 (LT.tmake (n := 28) (enc := encInt) (zc := [(iC 0)]) (0 : Int) Q und37 ti3 Q Q Q (by decide) (by decide) (lenOk_le hu97) Q) Q Q Q Q (asg (Cc (lo 28 ((List.replicate columns.toNat (0 : Int)).length))) Q Q Q Q (On (Ws ?_)))))
      refine en [(1,(Iv columns)),(5,(Cc (lo 22 s22.2.2.2.1.length))),(7,(Iv s22.2.1)),(8,(Cc (lo 25 s22.2.2.1.length))),(12,(Cc (lo 26 s22.2.2.2.2.length))),(13,(Iv s22.1)),(14,(Cc (lo 28 ((List.replicate columns.toNat (0 : Int)).length)))),(47,(Iv columns)),(48,(Iv s22.1))] [(22,(.trow 37 23 (lensOf s22.2.2.2.1))),(23,(.pool 3 (rowsOf encInt s22.2.2.2.1))),(25,(pR 3 encInt s22.2.2.1)),(26,(.trow 37 27 (lensOf s22.2.2.2.2))),(27,(.pool 3 (rowsOf encInt s22.2.2.2.2))),(28,(pR 3 encInt (List.replicate columns.toNat (0 : Int))))] z9 z6 (Wr (mv (Cc (lo 28 ((List.replicate columns.toNat (0 : Int)).length))) Q Q Q Q (mv (Iv s22.1) Q Q Q Q (mv (Iv s22.2.1) Q Q Q Q (Ob' fun x98 hx98 => (Op21 (LT.tindexLoc Q Q el37 hx98) Q Q Q Q Q (Os21 (LT.tstore (k := 0) (v := (.c (iC s22.2.1))) (b' := s22.2.1) Q Q (infS inf3) sz3 (by exact Q) hx98 (by exact Q) (by exact K Q) (by exact Q)) Q Q Q Q Q (On (Ws (Ws (Wr ?_)))))))))))
      refine mv (Iv columns) Q Q Q Q (mv (Iv 0) Q y2 Q Q (On (AWR.block ?_)))
      refine AWR.loop1 (id := 6) (m_impl_nullspace_L6 columns s22) (fun s99 => ([(1,(Iv columns)),(5,(Cc (lo 22 s22.2.2.2.1.length))),(7,(Iv s22.2.1)),(8,(Cc (lo 25 s22.2.2.1.length))),(12,(Cc (lo 26 s22.2.2.2.2.length))),(13,(Iv s22.1)),(14,(Cc (lo 28 s99.2.length))),(47,(Iv columns)),(48,(Iv s22.1)),(62,(Iv columns)),(63,(Iv s99.1))],[(22,(.trow 37 23 (lensOf s22.2.2.2.1))),(23,(.pool 3 (rowsOf encInt s22.2.2.2.1))),(25,(pR 3 encInt s22.2.2.1)),(26,(.trow 37 27 (lensOf s22.2.2.2.2))),(27,(.pool 3 (rowsOf encInt s22.2.2.2.2))),(28,(pR 3 encInt s99.2))])) (fun b126 => ([(1,(Iv columns)),(5,(Cc (lo 22 b126.2.2.1.length))),(7,(Iv b126.1)),(8,(Cc (lo 25 b126.2.2.2.1.length))),(12,(Cc (lo 26 b126.2.2.2.2.1.length))),(14,(Cc (lo 28 b126.2.2.2.2.2.length))),(47,(Iv columns)),(48,(Iv b126.2.1))],[(22,(.trow 37 23 (lensOf b126.2.2.1))),(23,(.pool 3 (rowsOf encInt b126.2.2.1))),(25,(pR 3 encInt b126.2.2.2.1)),(26,(.trow 37 27 (lensOf b126.2.2.2.2.1))),(27,(.pool 3 (rowsOf encInt b126.2.2.2.2.1))),(28,(pR 3 encInt b126.2.2.2.2.2))])) ?_ (Ent.of ⟨Q,Q,Q,Q,Q,Q,(congrArg (fun l1 => (some (AV.s (.c (lo 28 l1))) : Option AV)) (show (List.replicate columns.toNat (0 : Int)).length = ((List.replicate columns.toNat (0 : Int)).set s22.1.toNat s22.2.1).length by simp only [List.length_set])),Q,Q,Q,Q,J⟩ z6) Q (fun b126 _ => ?_)
      ·intro s99
       unfold m_impl_nullspace_L6
       refine Ws (Wr ?_)
       refine Op20 (LT.lss Q) Q Q Q Q (On (Ws ?_))
       refine AWR.cond Q (fun hc127 => ?_) (fun hc127 => ?_)
       ·refine AWR.skip (Ws (AWR.block (Ws (Wr ?_))))
        refine mv (Iv s99.1) Q Q Q Q (asg (Iv s99.1) Q Q Q Q (On (Ws (Wr ?_))))
        refine mv (Cc (lo 25 s22.2.2.1.length)) Q Q Q Q (mv (Iv s99.1) Q Q Q Q (Ob' fun x128 hx128 => (Op21 (LT.tindexLoc Q Q el37 hx128) Q Q Q Q Q (Op11 (LT.tload1 (k := 0) Q ag3 hx128 (by exact Q) (by exact Q)) Q Q Q Q (Op20 (LT.geq Q) Q y2 Q Q (On (AWR.joinK (fun j134 => ([(1,(Iv columns)),(5,(Cc (lo 22 s22.2.2.2.1.length))),(7,(Iv s22.2.1)),(8,(Cc (lo 25 s22.2.2.1.length))),(12,(Cc (lo 26 s22.2.2.2.2.length))),(13,(Iv s22.1)),(14,(Cc (lo 28 j134.length))),(47,(Iv columns)),(48,(Iv s22.1)),(62,(Iv columns)),(63,(Iv s99.1))],[(22,(.trow 37 23 (lensOf s22.2.2.2.1))),(23,(.pool 3 (rowsOf encInt s22.2.2.2.1))),(25,(pR 3 encInt s22.2.2.1)),(26,(.trow 37 27 (lensOf s22.2.2.2.2))),(27,(.pool 3 (rowsOf encInt s22.2.2.2.2))),(28,(pR 3 encInt j134))])) ?_ (fun j134 _ => ?_))))))))
        ·refine AWR.cond Q (fun hc135 => ?_) (fun hc135 => ?_)
         ·refine Wr (mv (Cc (lo 28 s99.2.length)) Q Q Q Q (mv (Iv s99.1) Q Q Q Q (mv (Cc (lo 22 s22.2.2.2.1.length)) Q Q Q Q (mv (Cc (lo 25 s22.2.2.1.length)) Q Q Q Q (mv (Iv s99.1) Q Q Q Q (Ob' fun x136 hx136 => (Op21 (LT.tindexLoc Q Q el37 hx136) Q Q Q Q Q (Op11 (LT.tload1 (k := 0) Q ag3 hx136 (by exact Q) (by exact Q)) Q Q Q Q (Ob' fun x137 hx137 => (Op21 (LT.xindex Q Q el31 hx137) Q Q Q Q Q (Op11 (LT.xload Q ag37 hx137 Q) Q Q Q Q ?_)))))))))))
          refine mv (Iv s22.1) Q Q Q Q (Ob' fun x138 hx138 => (Op21 (LT.tlindex Q Q el37 (idx_get hx137) hx138) Q Q Q Q Q (Op11 (LT.tlload1 (enc := encInt) (j := 0) Q ag3 (idx_get hx137) hx138 (by exact Q) (by exact Q)) Q Q Q Q (Op10 (LT.neg Q) Q Q Q (Ob' fun x139 hx139 => (Op21 (LT.tindexLoc Q Q el37 hx139) Q Q Q Q Q (Os21 (LT.tstore (k := 0) (v := (.c (iC (w64 (-x138))))) (b' := (w64 (-x138))) Q Q (infS inf3) sz3 (by exact Q) hx139 (by exact Q) (by exact K Q) (by exact Q)) Q Q Q Q Q (On (AWR.nil ⟨Q,Ent.of ⟨Q,Q,Q,Q,Q,Q,(congrArg (fun l1 => (some (AV.s (.c (lo 28 l1))) : Option AV)) (show s99.2.length = (s99.2.set s99.1.toNat (w64 (-x138))).length by simp only [List.length_set])),Q,Q,Q,Q,J⟩ z6⟩)))))))))
         ·refine AWR.skip (AWR.nil ⟨Q,Ent.of z11 z6⟩)
        ·refine AWR.blk (Wr ?_)
         refine Op20 (LT.add Q) Q y2 Q Q (mv (Iv (w64 (s99.1 + 1))) Q Q Q Q (On (AWR.nil ⟨Q,Ent.of z11 z6⟩)))
       ·refine AWR.exit_end Q ⟨Q,Ent.of z8 z6⟩
      ·refine Wr (mv (Cc (lo 26 b126.2.2.2.2.1.length)) Q Q Q Q (mv (Cc (lo 28 b126.2.2.2.2.2.length)) Q Q Q Q (Ob' fun r140 hr140 => (AOR.step (@LT.callF Try.prog _ _ 203 _ _ [(.c (lo 28 b126.2.2.2.2.2.length))] _ _ [(28,(pR 3 encInt b126.2.2.2.2.2))] _ _ _ _ ((show Fw.Fn Try.prog 203 [(.c (xF encInt b126.2.2.2.2.2))] [] (Cc (lo 30 r140.length)) [(30,(pR 3 encInt r140))] [] [30] from Fw.Fn.ren [(0,30)] (w_impl_PrimitiveVector b126.2.2.2.2.2 r140 hr140) Q)) Q cb203 (.cons (.c (.tloc Q Q)) .nil) Q Q J) z2 z1 Q Q (Os10 (LT.buildSlice (n := 31) (els := [[(lo 30 r140.length)]]) [(0,.tmp 88,(.c (lo 30 r140.length)))] Q Q und31 ti37 Q Q Q Q (by decide) Q Q) Q Q Q (Ob' fun u141 hu141 => (Os22 (LT.xapp Q Q Q und31 ti37 Q (by decide) (by decide) Q (lim_le hu141)) Q Q Q Q Q Q (asg (Cc (lo 26 (b126.2.2.2.2.1.length + 1))) Q Q Q Q (On (AWR.ent (Ent.tadopt (enc := encInt) (n := 26) (m := 30) (p := 27) (rows := b126.2.2.2.2.1) (r := r140) (rest := []) Q Q Q Q Q Q) (AWR.ent (Ent.trow (n := 26) (p := 27) (lens := lensOf (b126.2.2.2.2.1 ++ [r140])) (List.append_nil _) Q) ?_)))))))))))
       refine AWR.blk (Wr ?_)
       refine Op20 (LT.add Q) Q y2 Q Q (mv (Iv (w64 (b126.2.1 + 1))) Q Q Q Q (On (AWR.nil ⟨Q,Ent.of ⟨Q,Q,Q,Q,(congrArg (fun l1 => (some (AV.s (.c (lo 26 l1))) : Option AV)) (show (b126.2.2.2.2.1.length + 1) = (b126.2.2.2.2.1 ++ [r140]).length from len_snoc)),Q,Q,J⟩ z5⟩)))
    ·refine AWR.exit_end Q ⟨Q,Ent.of z1 z2⟩
   ·refine Ws (Wr ?_)
    refine mv (Cc (lo 26 b93.length)) Q Q Q Q (asg (Cc (lo 26 b93.length)) Q Q Q Q (On (en [(4,(Cc (lo 26 b93.length)))] [(26,(.trow 37 27 (lensOf b93))),(27,(.pool 3 (rowsOf encInt b93)))] z1 z2 (AWR.ent (Ent.mv 26 0 Q Q) (AWR.ent (Ent.mv 27 1 Q Q) (en [(4,(Cc (lo 0 b93.length)))] [(0,(.trow 37 1 (lensOf b93))),(1,(.pool 3 (rowsOf encInt b93)))] z1 z2 (AWR.ret (FPost.mk (.inr Q) z1 z2 Q ⟨J,J⟩ ⟨J,PermO.poolR perm_encInt _,J⟩))))))))
theorem w_spec_l2Has (l : (List Int)) (x : Int) : ∀ t,m_spec_l2Has l x = some t → Fw.Fn Try.prog 204 [(.c (xF encInt l)),(.c (iC x))] [] (.s (.c (bC t))) [] [] [] := by
 refine Fw.Fn.of (P := Try.prog) (X := []) (pn := []) (rs := (fun (t : Bool) => [(.c (bC t))])) (dfs := (fun (t : Bool) => [])) Try.func204 Q Try.ntmps204 (K Q) Q ?_
 intro w0 U0 R0 g0
 unfold m_spec_l2Has
 refine Ws (Wr ?_)
 refine asg (Bv false) Q y2 Q Q (On (Ws (Ws (Wr ?_))))
 refine asg (Iv 0) Q y2 Q Q (On (AWR.block ?_))
 refine AWR.loopR (id := 0) (m_spec_l2Has_L1 l x) (fun s1 => ([(0,(Cc (xF encInt l))),(1,(Iv x)),(5,(Iv s1))],[])) (fun b8 => ([],[])) (FPost Try.prog Try.f204.results.toList [] [] (fun (t : Bool) => [(.c (bC t))]) (fun (t : Bool) => [])) ?_ (Ent.of z3 J) Q (fun b8 _ => ?_) (by intro r t σ m ht hk; injection ht with ht; subst ht; exact hk)
 ·intro s1
  unfold m_spec_l2Has_L1
  refine Ws (Ws (Wr ?_))
  refine mv (Iv s1) Q Q Q Q (mv (Cc (xF encInt l)) Q Q Q Q (Op10 (LT.tlenRO Q und37) Q Q Q (Op20 (LT.lss Q) Q Q Q Q (On (AWR.cond Q (fun hc9 => ?_) (fun hc9 => ?_))))))
  ·refine AWR.skip (Ws (AWR.block (Ws (Wr ?_))))
   refine mv (Cc (xF encInt l)) Q Q Q Q (mv (Iv s1) Q Q Q Q (Ob' fun x10 hx10 => (Op20 (LT.tindexRO (enc := encInt) Q el37 hx10 sz3) Q Q Q Q (Op10 (LT.loadPx1 Q ag3) Q Q Q (mv (Iv x) Q Q Q Q (Op20 (LT.eql Q) Q Q Q Q (On (AWR.cond Q (fun hc11 => ?_) (fun hc11 => ?_)))))))))
   ·refine Ws (Wr ?_)
    refine asg (Bv true) Q y2 Q Q (On (AWR.ret ⟨Q,FPost.mk (.inr Q) z1 J Q ⟨PermP.sc,J⟩ J⟩))
   ·refine AWR.skip (AWR.blk (Wr ?_))
    refine mv (Iv s1) Q Q Q Q (Op20 (LT.add Q) Q y2 Q Q (asg (Iv (w64 (s1 + 1))) Q Q Q Q (On (AWR.nil ⟨Q,Ent.of z3 J⟩))))
  ·refine AWR.exit_end Q ⟨Q,Ent.of J J⟩
 ·refine Ws (Wr ?_)
  refine asg (Bv false) Q y2 Q Q (On (AWR.ret (FPost.mk (.inr Q) z1 J Q ⟨PermP.sc,J⟩ J)))
theorem w_spec_l9Null (m : (List (List Int))) (columns : Int) : ∀ t,m_spec_l9Null m columns = some t → Fw.Fn Try.prog 107 [(.c (xF (encLInt false) m)),(.c (iC columns))] [] (.s (.c (lo 0 t.length))) [(0,(pR 37 (encLInt true) t))] [] [0] := by
 refine Fw.Fn.ofU (P := Try.prog) (X := [0]) (pn := []) (rs := (fun (t : (List (List Int))) => [(.c (lo 0 t.length))])) (dfs := (fun (t : (List (List Int))) => [(0,(pR 37 (encLInt true) t))])) Try.func107 Q Try.ntmps107 (K Q) Q ?_
 intro w0 U0 R0 g0 hU
 unfold m_spec_l9Null
 refine Ws (Wr ?_)
 refine asg (Cc (sC nilV)) Q y2 Q Q (On (Ws (Wr ?_)))
 refine Os00 (LT.tbuildSlice (n := 21) (enc := (encLInt true)) [] ([] : List (List Int)) Q Q und31 ti37 Q Q Q Q (by decide) (fun _ => Q) Q) Q Q (asg (Cc (lo 21 (([] : List (List Int)).length))) Q Q Q Q (On (Ws (Wr ?_))))
 refine mv (Cc (xF (encLInt false) m)) Q Q Q Q (Ob' fun r1 hr1 => (AOR.step (@LT.callF Try.prog _ _ 144 _ _ [(.c (xF (encLInt false) m))] _ _ [] _ _ _ _ ((show Fw.Fn Try.prog 144 [(.c (xF (encLInt false) m))] [] (.tup [(.c (lo 23 r1.1.length)),(.c (lo 24 r1.2.length))]) [(23,(pR 37 (encLInt true) r1.1)),(24,(pR 3 encInt r1.2))] [] [23,24] from Fw.Fn.ren [(0,23),(1,24)] (w_spec_l9Reduced m r1 hr1) Q)) Q cb144 (.cons (.c (.same Q)) .nil) Q Q J) z2 J Q Q (mv (.tup [(.c (lo 23 r1.1.length)),(.c (lo 24 r1.2.length))]) Q Q Q Q (Op10 (LT.extract (v := (.c (lo 23 r1.1.length))) Q (by exact Q)) Q Q Q (Op10 (LT.extract (v := (.c (lo 24 r1.2.length))) Q (by exact Q)) Q Q Q (asg (Cc (lo 23 r1.1.length)) Q Q Q Q (asg (Cc (lo 24 r1.2.length)) Q Q Q Q (On (Ws (Ws ?_))))))))))
 refine en [(1,(Iv columns)),(5,(Cc (lo 21 (([] : List (List Int)).length)))),(6,(Cc (lo 23 r1.1.length))),(7,(Cc (lo 24 r1.2.length)))] [(21,(pR 37 (encLInt true) ([] : List (List Int)))),(23,(pR 37 (encLInt true) r1.1)),(24,(pR 3 encInt r1.2))] z4 z3 (Wr (asg (Iv 0) Q y2 Q Q (On (AWR.block ?_))))
 refine AWR.loop1 (id := 0) (m_spec_l9Null_L5 columns) (fun s2 => ([(1,(Iv columns)),(5,(Cc (lo 21 s2.2.1.length))),(6,(Cc (lo 23 s2.2.2.1.length))),(7,(Cc (lo 24 s2.2.2.2.length))),(8,(Iv s2.1))],[(21,(pR 37 (encLInt true) s2.2.1)),(23,(pR 37 (encLInt true) s2.2.2.1)),(24,(pR 3 encInt s2.2.2.2))])) (fun b113 => ([(5,(Cc (lo 21 b113.length)))],[(21,(pR 37 (encLInt true) b113))])) ?_ (Ent.of z5 z3) Q (fun b113 _ => ?_)
 ·intro s2
  unfold m_spec_l9Null_L5
  refine Ws (Ws (Wr ?_))
  refine mv (Iv s2.1) Q Q Q Q (mv (Iv columns) Q Q Q Q (Op20 (LT.lss Q) Q Q Q Q (On (AWR.cond Q (fun hc114 => ?_) (fun hc114 => ?_)))))
  ·refine AWR.skip (Ws (AWR.block (Ws (Ws (Wr ?_)))))
   refine mv (Cc (lo 24 s2.2.2.2.length)) Q Q Q Q (mv (Iv s2.1) Q Q Q Q (Ob' fun r115 hr115 => (AOR.pure (@LT.callF Try.prog _ _ 204 _ _ [(.c (lo 24 s2.2.2.2.length)),(.c (iC s2.1))] _ _ [(24,(pR 3 encInt s2.2.2.2))] _ _ _ _ (w_spec_l2Has s2.2.2.2 s2.1 r115 hr115) Q cb204 (.cons (.c (.tloc Q Q)) (.cons (.c (.same Q)) .nil)) Q Q J) z3 z1 Q Q (On (AWR.cond Q (fun hc116 => ?_) (fun hc116 => ?_))))))
   ·refine AWR.exit Q (Wr ?_)
    refine mv (Iv s2.1) Q Q Q Q (Op20 (LT.add Q) Q y2 Q Q (asg (Iv (w64 (s2.1 + 1))) Q Q Q Q (On (AWR.nil ⟨Q,Ent.of z5 z3⟩))))
   ·refine AWR.skip (Ws (Wr ?_))
    refine asg (Iv 1) Q y2 Q Q (On (Ws (Ws (Wr ?_))))
    refine asg (Iv 0) Q y2 Q Q (On (AWR.block ?_))
    refine AWR.loop1 (id := 2) (m_spec_l9Null_L6 s2) (fun s117 => ([(1,(Iv columns)),(5,(Cc (lo 21 s2.2.1.length))),(6,(Cc (lo 23 s2.2.2.1.length))),(7,(Cc (lo 24 s2.2.2.2.length))),(8,(Iv s2.1)),(9,(Iv s117.1)),(10,(Iv s117.2))],[(21,(pR 37 (encLInt true) s2.2.1)),(23,(pR 37 (encLInt true) s2.2.2.1)),(24,(pR 3 encInt s2.2.2.2))])) (fun b144 => ([(1,(Iv columns)),(5,(Cc (lo 21 b144.2.2.1.length))),(6,(Cc (lo 23 b144.2.2.2.1.length))),(7,(Cc (lo 24 b144.2.2.2.2.length))),(8,(Iv b144.1)),(9,(Iv b144.2.1))],[(21,(pR 37 (encLInt true) b144.2.2.1)),(23,(pR 37 (encLInt true) b144.2.2.2.1)),(24,(pR 3 encInt b144.2.2.2.2))])) ?_ (Ent.of z7 z3) Q (fun b144 _ => ?_)
    ·intro s117
     unfold m_spec_l9Null_L6
     refine Ws (Ws (Wr ?_))
     refine mv (Iv s117.2) Q Q Q Q (mv (Cc (lo 24 s2.2.2.2.length)) Q Q Q Q (Op10 (LT.lenLoc Q und37) Q Q Q (Op20 (LT.lss Q) Q Q Q Q (On (AWR.cond Q (fun hc145 => ?_) (fun hc145 => ?_))))))
     ·refine AWR.skip (Ws (AWR.block (Ws (AWR.draw mixed ?_))))
      refine Dp10 (LT.move (v := (Cc (lo 23 s2.2.2.1.length))) Q) Q Q Q (Dp10 (LT.move (v := (Iv s117.2)) Q) Q Q Q (AOD.bind fun x146 hx146 => (Dp21 (LT.tindexLoc Q Q el31 hx146) Q Q Q Q Q (Dp11 (LT.tload1 (k := 0) Q ag37 hx146 (by exact Q) (by exact Q)) Q Q Q Q (Dp10 (LT.move (v := (Cc (lo 24 s2.2.2.2.length))) Q) Q Q Q (Dp10 (LT.move (v := (Iv s117.2)) Q) Q Q Q (AOD.bind fun x147 hx147 => (Dp21 (LT.tindexLoc Q Q el37 hx147) Q Q Q Q Q (Dp11 (LT.tload1 (k := 0) Q ag3 hx147 (by exact Q) (by exact Q)) Q Q Q Q (AOD.bind fun x148 hx148 => (Dp20 (LT.tindexRO (enc := encInt) Q el37 hx148 sz3) Q Q Q Q ?_)))))))))))
      refine Dp10 (LT.loadPx1 Q ag3) Q Q Q (Dp10 (LT.move (v := (Cc (lo 23 s2.2.2.1.length))) Q) Q Q Q (Dp10 (LT.move (v := (Iv s117.2)) Q) Q Q Q (AOD.bind fun x149 hx149 => (Dp21 (LT.tindexLoc Q Q el31 hx149) Q Q Q Q Q (Dp11 (LT.tload1 (k := 0) Q ag37 hx149 (by exact Q) (by exact Q)) Q Q Q Q (Dp10 (LT.move (v := (Cc (lo 24 s2.2.2.2.length))) Q) Q Q Q (Dp10 (LT.move (v := (Iv s117.2)) Q) Q Q Q (AOD.bind fun x150 hx150 => (Dp21 (LT.tindexLoc Q Q el37 hx150) Q Q Q Q Q (Dp11 (LT.tload1 (k := 0) Q ag3 hx150 (by exact Q) (by exact Q)) Q Q Q Q (AOD.bind fun x151 hx151 => ?_)))))))))))
      refine Dp20 (LT.tindexRO (enc := encInt) Q el37 hx151 sz3) Q Q Q Q (Dp10 (LT.loadPx1 Q ag3) Q Q Q (Dp10 (LT.neg Q) Q Q Q (Dp20 (LT.max Q) Q Q Q Q (Dp10 (LT.assign (v := (Iv (if x148 < (w64 (-x151)) then (w64 (-x151)) else x148))) Q) Q Q Q (AOD.nil (by kernel_rfl) (Ws (en [(1,(Iv columns)),(5,(Cc (lo 21 s2.2.1.length))),(6,(Cc (lo 23 s2.2.2.1.length))),(7,(Cc (lo 24 s2.2.2.2.length))),(8,(Iv s2.1)),(9,(Iv s117.1)),(10,(Iv s117.2)),(11,(Iv (if x148 < (w64 (-x151)) then (w64 (-x151)) else x148)))] [(21,(pR 37 (encLInt true) s2.2.1)),(23,(pR 37 (encLInt true) s2.2.2.1)),(24,(pR 3 encInt s2.2.2.2))] z8 z3 (Wr (mv (Iv (if x148 < (w64 (-x151)) then (w64 (-x151)) else x148)) Q Q Q Q (mv (Iv (if x148 < (w64 (-x151)) then (w64 (-x151)) else x148)) Q Q Q Q (mv (Cc (lo 23 s2.2.2.1.length)) Q Q Q Q ?_)))))))))))
      refine mv (Iv s117.2) Q Q Q Q (Ob' fun x152 hx152 => (Op21 (LT.tindexLoc Q Q el31 hx152) Q Q Q Q Q (Op11 (LT.tload1 (k := 0) Q ag37 hx152 (by exact Q) (by exact Q)) Q Q Q Q (mv (Iv s2.1) Q Q Q Q (Ob' fun x153 hx153 => (Op20 (LT.tindexRO (enc := encInt) Q el37 hx153 sz3) Q Q Q Q (Op10 (LT.loadPx1 Q ag3) Q Q Q (Ob' fun r154 hr154 => (AOR.pure (@LT.callF Try.prog _ _ 205 _ _ [(.c (iC (if x148 < (w64 (-x151)) then (w64 (-x151)) else x148))),(.c (iC x153))] _ _ [] _ _ _ _ (w_spec_GcdOf (if x148 < (w64 (-x151)) then (w64 (-x151)) else x148) x153 r154 hr154) Q cb205 (.cons (.c (.same Q)) (.cons (.c (.same Q)) .nil)) Q Q J) z3 J Q Q (Ob' fun u155 hu155 => (Op20 (LT.quo Q (nz_ne hu155)) Q Q Q Q ?_)))))))))))
      refine asg (Iv (w64 (Int.tdiv (if x148 < (w64 (-x151)) then (w64 (-x151)) else x148) r154))) Q Q Q Q (On (en [(1,(Iv columns)),(5,(Cc (lo 21 s2.2.1.length))),(6,(Cc (lo 23 s2.2.2.1.length))),(7,(Cc (lo 24 s2.2.2.2.length))),(8,(Iv s2.1)),(9,(Iv s117.1)),(10,(Iv s117.2)),(12,(Iv (w64 (Int.tdiv (if x148 < (w64 (-x151)) then (w64 (-x151)) else x148) r154))))] [(21,(pR 37 (encLInt true) s2.2.1)),(23,(pR 37 (encLInt true) s2.2.2.1)),(24,(pR 3 encInt s2.2.2.2))] z8 z3 (Wr (mv (Iv s117.1) Q Q Q Q (mv (Iv s117.1) Q Q Q Q (mv (Iv (w64 (Int.tdiv (if x148 < (w64 (-x151)) then (w64 (-x151)) else x148) r154))) Q Q Q Q (Ob' fun r156 hr156 => (AOR.pure (@LT.callF Try.prog _ _ 205 _ _ [(.c (iC s117.1)),(.c (iC (w64 (Int.tdiv (if x148 < (w64 (-x151)) then (w64 (-x151)) else x148) r154))))] _ _ [] _ _ _ _ (w_spec_GcdOf s117.1 (w64 (Int.tdiv (if x148 < (w64 (-x151)) then (w64 (-x151)) else x148) r154)) r156 hr156) Q cb205 (.cons (.c (.same Q)) (.cons (.c (.same Q)) .nil)) Q Q J) z3 J Q Q (Ob' fun u157 hu157 => (Op20 (LT.quo Q (nz_ne hu157)) Q Q Q Q (mv (Iv (w64 (Int.tdiv (if x148 < (w64 (-x151)) then (w64 (-x151)) else x148) r154))) Q Q Q Q ?_)))))))))))
      refine Op20 (LT.mul Q) Q Q Q Q (asg (Iv (w64 ((w64 (Int.tdiv s117.1 r156)) * (w64 (Int.tdiv (if x148 < (w64 (-x151)) then (w64 (-x151)) else x148) r154))))) Q Q Q Q (On (AWR.blk (Wr ?_))))
      refine mv (Iv s117.2) Q Q Q Q (Op20 (LT.add Q) Q y2 Q Q (asg (Iv (w64 (s117.2 + 1))) Q Q Q Q (On (AWR.nil ⟨Q,Ent.of z7 z3⟩))))
     ·refine AWR.exit_end Q ⟨Q,Ent.of z6 z3⟩
    ·refine Ws (Wr ?_)
     refine mv (Iv columns) Q Q Q Q (Ob' fun u158 hu158 => (Os20 (LT.tmake (n := 28) (enc := encInt) (zc := [(iC 0)]) (0 : Int) Q und37 ti3 Q Q Q (by decide) (by decide) (lenOk_le hu158) Q) Q Q Q Q (asg (Cc (lo 28 ((List.replicate columns.toNat (0 : Int)).length))) Q Q Q Q (On (Ws (Wr ?_))))))
     refine mv (Cc (lo 28 ((List.replicate columns.toNat (0 : Int)).length))) Q Q Q Q (mv (Iv b144.1) Q Q Q Q (mv (Iv b144.2.1) Q Q Q Q (Ob' fun x159 hx159 => (Op21 (LT.tindexLoc Q Q el37 hx159) Q Q Q Q Q (Os21 (LT.tstore (k := 0) (v := (.c (iC b144.2.1))) (b' := b144.2.1) Q Q (infS inf3) sz3 (by exact Q) hx159 (by exact Q) (by exact K Q) (by exact Q)) Q Q Q Q Q (On (Ws (Ws ?_))))))))
     refine en [(1,(Iv columns)),(5,(Cc (lo 21 b144.2.2.1.length))),(6,(Cc (lo 23 b144.2.2.2.1.length))),(7,(Cc (lo 24 b144.2.2.2.2.length))),(8,(Iv b144.1)),(9,(Iv b144.2.1)),(13,(Cc (lo 28 ((List.replicate columns.toNat (0 : Int)).length))))] [(21,(pR 37 (encLInt true) b144.2.2.1)),(23,(pR 37 (encLInt true) b144.2.2.2.1)),(24,(pR 3 encInt b144.2.2.2.2)),(28,(pR 3 encInt ((List.replicate columns.toNat (0 : Int)).set b144.1.toNat b144.2.1)))] z7 z4 (Wr (asg (Iv 0) Q y2 Q Q (On (AWR.block ?_))))
     refine AWR.loop1 (id := 4) (m_spec_l9Null_L7 b144) (fun s160 => ([(1,(Iv columns)),(5,(Cc (lo 21 b144.2.2.1.length))),(6,(Cc (lo 23 b144.2.2.2.1.length))),(7,(Cc (lo 24 b144.2.2.2.2.length))),(8,(Iv b144.1)),(9,(Iv b144.2.1)),(13,(Cc (lo 28 s160.2.length))),(14,(Iv s160.1))],[(21,(pR 37 (encLInt true) b144.2.2.1)),(23,(pR 37 (encLInt true) b144.2.2.2.1)),(24,(pR 3 encInt b144.2.2.2.2)),(28,(pR 3 encInt s160.2))])) (fun b179 => ([(1,(Iv columns)),(5,(Cc (lo 21 b179.2.1.length))),(6,(Cc (lo 23 b179.2.2.1.length))),(7,(Cc (lo 24 b179.2.2.2.1.length))),(8,(Iv b179.1)),(13,(Cc (lo 28 b179.2.2.2.2.length)))],[(21,(pR 37 (encLInt true) b179.2.1)),(23,(pR 37 (encLInt true) b179.2.2.1)),(24,(pR 3 encInt b179.2.2.2.1)),(28,(pR 3 encInt b179.2.2.2.2))])) ?_ (Ent.of ⟨Q,Q,Q,Q,Q,Q,(congrArg (fun l1 => (some (AV.s (.c (lo 28 l1))) : Option AV)) (show (List.replicate columns.toNat (0 : Int)).length = ((List.replicate columns.toNat (0 : Int)).set b144.1.toNat b144.2.1).length by simp only [List.length_set])),Q,J⟩ z4) Q (fun b179 _ => ?_)
     ·intro s160
      unfold m_spec_l9Null_L7
      refine Ws (Ws (Wr ?_))
      refine mv (Iv s160.1) Q Q Q Q (mv (Cc (lo 24 b144.2.2.2.2.length)) Q Q Q Q (Op10 (LT.lenLoc Q und37) Q Q Q (Op20 (LT.lss Q) Q Q Q Q (On (AWR.cond Q (fun hc180 => ?_) (fun hc180 => ?_))))))
      ·refine AWR.skip (Ws (AWR.block (AWR.draw mixed ?_)))
       refine Dp10 (LT.move (v := (Cc (lo 28 s160.2.length))) Q) Q Q Q (Dp10 (LT.move (v := (Cc (lo 24 b144.2.2.2.2.length))) Q) Q Q Q (Dp10 (LT.move (v := (Iv s160.1)) Q) Q Q Q (AOD.bind fun x181 hx181 => (Dp21 (LT.tindexLoc Q Q el37 hx181) Q Q Q Q Q (Dp11 (LT.tload1 (k := 0) Q ag3 hx181 (by exact Q) (by exact Q)) Q Q Q Q (Dp10 (LT.move (v := (Cc (lo 23 b144.2.2.2.1.length))) Q) Q Q Q (Dp10 (LT.move (v := (Iv s160.1)) Q) Q Q Q (AOD.bind fun x182 hx182 => (Dp21 (LT.tindexLoc Q Q el31 hx182) Q Q Q Q Q (Dp11 (LT.tload1 (k := 0) Q ag37 hx182 (by exact Q) (by exact Q)) Q Q Q Q (Dp10 (LT.move (v := (Iv b144.1)) Q) Q Q Q ?_)))))))))))
       refine AOD.bind fun x183 hx183 => (Dp20 (LT.tindexRO (enc := encInt) Q el37 hx183 sz3) Q Q Q Q (Dp10 (LT.loadPx1 Q ag3) Q Q Q (Dp10 (LT.move (v := (Iv b144.2.1)) Q) Q Q Q (Dp20 (LT.mul Q) Q Q Q Q (Dp10 (LT.move (v := (Cc (lo 23 b144.2.2.2.1.length))) Q) Q Q Q (Dp10 (LT.move (v := (Iv s160.1)) Q) Q Q Q (AOD.bind fun x184 hx184 => (Dp21 (LT.tindexLoc Q Q el31 hx184) Q Q Q Q Q (Dp11 (LT.tload1 (k := 0) Q ag37 hx184 (by exact Q) (by exact Q)) Q Q Q Q (Dp10 (LT.move (v := (Cc (lo 24 b144.2.2.2.2.length))) Q) Q Q Q (Dp10 (LT.move (v := (Iv s160.1)) Q) Q Q Q ?_)))))))))))
       refine AOD.bind fun x185 hx185 => (Dp21 (LT.tindexLoc Q Q el37 hx185) Q Q Q Q Q (Dp11 (LT.tload1 (k := 0) Q ag3 hx185 (by exact Q) (by exact Q)) Q Q Q Q (AOD.bind fun x186 hx186 => (Dp20 (LT.tindexRO (enc := encInt) Q el37 hx186 sz3) Q Q Q Q (Dp10 (LT.loadPx1 Q ag3) Q Q Q (AOD.bind fun u187 hu187 => (Dp20 (LT.quo Q (nz_ne hu187)) Q Q Q Q (Dp10 (LT.neg Q) Q Q Q (AOD.bind fun x188 hx188 => (Dp21 (LT.tindexLoc Q Q el37 hx188) Q Q Q Q Q (Ds21 (LT.tstore (k := 0) (v := (.c (iC (w64 (-(w64 (Int.tdiv (w64 (x183 * b144.2.1)) x186))))))) (b' := (w64 (-(w64 (Int.tdiv (w64 (x183 * b144.2.1)) x186))))) Q Q (infS inf3) sz3 (by exact Q) hx188 (by exact Q) (by exact K Q) (by exact Q)) Q Q Q Q Q ?_)))))))))))
       refine AOD.nil (by kernel_rfl) (AWR.blk (en [(1,(Iv columns)),(5,(Cc (lo 21 b144.2.2.1.length))),(6,(Cc (lo 23 b144.2.2.2.1.length))),(7,(Cc (lo 24 b144.2.2.2.2.length))),(8,(Iv b144.1)),(9,(Iv b144.2.1)),(13,(Cc (lo 28 s160.2.length))),(14,(Iv s160.1))] [(21,(pR 37 (encLInt true) b144.2.2.1)),(23,(pR 37 (encLInt true) b144.2.2.2.1)),(24,(pR 3 encInt b144.2.2.2.2)),(28,(pR 3 encInt (s160.2.set x181.toNat (w64 (-(w64 (Int.tdiv (w64 (x183 * b144.2.1)) x186)))))))] z8 z4 (Wr (mv (Iv s160.1) Q Q Q Q (Op20 (LT.add Q) Q y2 Q Q (asg (Iv (w64 (s160.1 + 1))) Q Q Q Q (On (AWR.nil ⟨Q,Ent.of ⟨Q,Q,Q,Q,Q,Q,(congrArg (fun l1 => (some (AV.s (.c (lo 28 l1))) : Option AV)) (show s160.2.length = (s160.2.set x181.toNat (w64 (-(w64 (Int.tdiv (w64 (x183 * b144.2.1)) x186))))).length by simp only [List.length_set])),Q,J⟩ z4⟩))))))))
      ·refine AWR.exit_end Q ⟨Q,Ent.of z6 z4⟩
     ·refine Wr (mv (Cc (lo 21 b179.2.1.length)) Q Q Q Q (mv (Cc (lo 28 b179.2.2.2.2.length)) Q Q Q Q (Ob' fun r189 hr189 => (AOR.step (@LT.callF Try.prog _ _ 206 _ _ [(.c (lo 28 b179.2.2.2.2.length))] _ _ [(28,(pR 3 encInt b179.2.2.2.2))] _ _ _ _ ((show Fw.Fn Try.prog 206 [(.c (xF encInt b179.2.2.2.2))] [] (Cc (lo 30 r189.length)) [(30,(pR 3 encInt r189))] [] [30] from Fw.Fn.ren [(0,30)] (w_spec_PrimitiveVector b179.2.2.2.2 r189 hr189) Q)) Q cb206 (.cons (.c (.tloc Q Q)) .nil) Q Q J) z2 z1 Q Q (AOR.ent (Ent.freezeS (enc := encInt) 116 30 hU Q Q Q Q) (Os10 (LT.tbuildSlice (n := 31) (enc := (encLInt true)) [(0,.tmp 116,(.c (xT encInt r189)))] [r189] Q Q und31 ti37 Q Q Q Q (by decide) (fun _ => Q) Q) Q Q Q (Ob' fun u190 hu190 => (Os22 (LT.tappP (enc := (encLInt true)) Q Q Q und31 ti37 Q (by decide) (by decide) (fun _ => Q) (lim_le hu190)) Q Q Q Q Q Q (asg (Cc (lo 21 ((b179.2.1 ++ [r189]).length))) Q Q Q Q (On (AWR.blk ?_)))))))))))
      refine en [(1,(Iv columns)),(5,(Cc (lo 21 ((b179.2.1 ++ [r189]).length)))),(6,(Cc (lo 23 b179.2.2.1.length))),(7,(Cc (lo 24 b179.2.2.2.1.length))),(8,(Iv b179.1))] [(21,(pR 37 (encLInt true) (b179.2.1 ++ [r189]))),(23,(pR 37 (encLInt true) b179.2.2.1)),(24,(pR 3 encInt b179.2.2.2.1))] z5 z3 (Wr (mv (Iv b179.1) Q Q Q Q (Op20 (LT.add Q) Q y2 Q Q (asg (Iv (w64 (b179.1 + 1))) Q Q Q Q (On (AWR.nil ⟨Q,Ent.of z5 z3⟩))))))
  ·refine AWR.exit_end Q ⟨Q,Ent.of z1 z1⟩
 ·refine Ws (Wr ?_)
  refine mv (Cc (lo 21 b113.length)) Q Q Q Q (asg (Cc (lo 21 b113.length)) Q Q Q Q (On (en [(4,(Cc (lo 21 b113.length)))] [(21,(pR 37 (encLInt true) b113))] z1 z1 (AWR.ent (Ent.mv 21 0 Q Q) (en [(4,(Cc (lo 0 b113.length)))] [(0,(pR 37 (encLInt true) b113))] z1 z1 (AWR.ret (FPost.mk (.inr Q) z1 z1 Q ⟨J,J⟩ ⟨PermO.prow' perm_encLInt,J⟩)))))))
end Go.Proofs.Ytghofbijdnenoaa
end
section
set_option linter.unusedVariables false
set_option linter.unusedSimpArgs false
set_option linter.unnecessarySimpa false
set_option maxRecDepth 100000
set_option maxHeartbeats 8000000
open Go Go.Fw
namespace Go.Proofs.Ytghofbijdnenoaa
theorem w_impl_transposed (m : (List (List Int))) (columns : Int) : ∀ t,m_impl_transposed m columns = some t → Fw.Fn Try.prog 106 [(.c (xF (encLInt false) m)),(.c (iC columns))] [] (.s (.c (lo 0 t.length))) [(0,(.trow 37 1 (lensOf t))),(1,(.pool 3 (rowsOf encInt t)))] [] [0,1] := by
 refine Fw.Fn.of (P := Try.prog) (X := [0,1]) (pn := []) (rs := (fun (t : (List (List Int))) => [(.c (lo 0 t.length))])) (dfs := (fun (t : (List (List Int))) => [(0,(.trow 37 1 (lensOf t))),(1,(.pool 3 (rowsOf encInt t)))])) Try.func106 Q Try.ntmps106 (K Q) Q ?_
 intro w0 U0 R0 g0
 unfold m_impl_transposed
 refine Ws (Wr ?_)
 refine asg (Cc (sC nilV)) Q y2 Q Q (On (Ws (Wr ?_)))
 refine mv (Iv columns) Q Q Q Q (Ob' fun u1 hu1 => (Os20 (LT.xmake (n := 21) Q und31 ti37 (by decide) (lenOk_le hu1)) Q Q Q Q (asg (Cc (lo 21 columns.toNat)) Q Q Q Q (On (AWR.ent (Ent.poolN (enc := encInt) (n := 21) (p := 22) (c := columns.toNat) (e2 := 3) Q Q) (Ws (Ws (Wr ?_))))))))
 refine mv (Cc (lo 21 columns.toNat)) Q Q Q Q (Op10 (LT.lenLoc Q und31) Q Q Q (mv (Iv 0) Q y2 Q Q (On (AWR.block ?_))))
 refine AWR.loop1 (id := 0) (m_impl_transposed_L3 m columns) (fun s2 => ([(0,(Cc (xF (encLInt false) m))),(5,(Cc (lo 21 s2.2.length))),(12,(Iv (columns.toNat : Int))),(13,(Iv s2.1))],[(21,(.trow 37 22 (lensOf s2.2))),(22,(.pool 3 (rowsOf encInt s2.2)))])) (fun b35 => ([(5,(Cc (lo 21 b35.length)))],[(21,(.trow 37 22 (lensOf b35))),(22,(.pool 3 (rowsOf encInt b35)))])) ?_ (Ent.of ⟨Q,(congrArg (fun l1 => (some (AV.s (.c (lo 21 l1))) : Option AV)) (show columns.toNat = (List.replicate columns.toNat ([] : List Int)).length from List.length_replicate.symm)),Q,Q,J⟩ z2) Q (fun b35 _ => ?_)
 ·intro s2
  unfold m_impl_transposed_L3
  refine Ws (Wr ?_)
  refine Op20 (LT.lss Q) Q Q Q Q (On (Ws ?_))
  refine AWR.cond Q (fun hc36 => ?_) (fun hc36 => ?_)
  ·refine AWR.skip (Ws (AWR.block (Ws (Wr ?_))))
   refine mv (Iv s2.1) Q Q Q Q (asg (Iv s2.1) Q Q Q Q (On (Ws (Wr ?_))))
   refine mv (Cc (lo 21 s2.2.length)) Q Q Q Q (mv (Iv s2.1) Q Q Q Q (Os00 (LT.tbuildSlice (n := 23) (enc := encInt) [] ([] : List Int) Q Q und37 ti3 Q Q Q Q (by decide) (fun _ => Q) Q) Q Q (Ob' fun x37 hx37 => (Op21 (LT.xindex Q Q el31 hx37) Q Q Q Q Q (Os21 (LT.xstore (e := 37) (p := 22) Q Q (infS inf37) sz37 hx37 Q) Q Q Q Q Q (On (AWR.ent (Ent.tadoptAt (enc := encInt) (n := 21) (m := 23) (p := 22) (k := s2.1.toNat) (rows := s2.2) (r := ([] : List Int)) Q (List.getElem?_eq_some_iff.1 (idx_get hx37)).1 Q Q Q Q) ?_)))))))
   refine AWR.ent (Ent.trow (n := 21) (p := 22) (lens := lensOf (s2.2.set s2.1.toNat ([] : List Int))) Q Q) (Ws (Wr ?_))
   refine mv (Cc (xF (encLInt false) m)) Q Q Q Q (Op10 (LT.tlenRO Q und31) Q Q Q (mv (Iv 0) Q y2 Q Q (On (AWR.block ?_))))
   refine AWR.loop1 (id := 2) (m_impl_transposed_L4 m s2) (fun s38 => ([(0,(Cc (xF (encLInt false) m))),(5,(Cc (lo 21 s38.2.length))),(6,(Iv s2.1)),(12,(Iv (columns.toNat : Int))),(13,(Iv s2.1)),(20,(Cc (xF (encLInt false) m))),(21,(Iv (m.length : Int))),(22,(Iv s38.1))],[(21,(.trow 37 22 (lensOf s38.2))),(22,(.pool 3 (rowsOf encInt s38.2)))])) (fun b51 => ([(0,(Cc (xF (encLInt false) m))),(5,(Cc (lo 21 b51.2.length))),(12,(Iv (columns.toNat : Int))),(13,(Iv b51.1))],[(21,(.trow 37 22 (lensOf b51.2))),(22,(.pool 3 (rowsOf encInt b51.2)))])) ?_ (Ent.of ⟨Q,(congrArg (fun l1 => (some (AV.s (.c (lo 21 l1))) : Option AV)) (show s2.2.length = (s2.2.set s2.1.toNat ([] : List Int)).length by simp only [List.length_set])),Q,Q,Q,Q,Q,Q,J⟩ z2) Q (fun b51 _ => ?_)
   ·intro s38
    unfold m_impl_transposed_L4
    refine Ws (Wr ?_)
    refine Op20 (LT.lss Q) Q Q Q Q (On (Ws ?_))
    refine AWR.cond Q (fun hc52 => ?_) (fun hc52 => ?_)
    ·refine AWR.skip (Ws (AWR.block (Ws (Wr ?_))))
     refine Ob' fun x53 hx53 => (Op20 (LT.tindexRO (enc := (encLInt false)) Q el31 hx53 sz37) Q Q Q Q (Op10 (LT.loadPx1 Q ag37) Q Q Q (asg (Cc (xF encInt x53)) Q Q Q Q (On (AWR.draw mixed ?_)))))
     refine Dp10 (LT.move (v := (Cc (lo 21 s38.2.length))) Q) Q Q Q (Dp10 (LT.move (v := (Iv s2.1)) Q) Q Q Q (Dp10 (LT.move (v := (Cc (lo 21 s38.2.length))) Q) Q Q Q (Dp10 (LT.move (v := (Iv s2.1)) Q) Q Q Q (AOD.bind fun x54 hx54 => (Dp21 (LT.xindex Q Q el31 hx54) Q Q Q Q Q (Dp11 (LT.xload Q ag37 hx54 Q) Q Q Q Q (Dp10 (LT.move (v := (Cc (xF encInt x53))) Q) Q Q Q (Dp10 (LT.move (v := (Iv s2.1)) Q) Q Q Q (AOD.bind fun x55 hx55 => (Dp20 (LT.tindexRO (enc := encInt) Q el37 hx55 sz3) Q Q Q Q (Dp10 (LT.loadPx1 Q ag3) Q Q Q ?_)))))))))))
     refine Ds10 (LT.tbuildSlice (n := 24) (enc := encInt) [(0,.tmp 35,(.c (iC x55)))] ([x55] : List Int) Q Q und37 ti3 Q Q Q Q (by decide) (fun _ => Q) Q) Q Q Q (AOD.bind fun u56 hu56 => (AOD.step (LT.tunpool (p := 22) (k := s2.1.toNat) (m := 25) (n := 21) (e := 37) (enc := encInt) (LT.tappP (n := 25) (n2 := 24) (enc := encInt) Q Q Q und37 ti3 Q (by decide) (by decide) (fun _ => Q) (lim_le hu56)) (idx_get hx54) Q) z2 z3 Q Q (AOD.bind fun x57 hx57 => (Dp21 (LT.xindexS (show s38.2.length = (s38.2.set s2.1.toNat []).length by simp only [List.length_set]) Q el31 hx57) Q Q Q Q Q (Ds21 (LT.xstoreS (e := 37) (p := 22) Q Q (infS inf37) sz37 hx57 Q) Q Q Q Q Q (AOD.nil (by kernel_rfl) (AWR.ent (Ent.tadoptAt (enc := encInt) (n := 21) (m := 25) (p := 22) (k := s2.1.toNat) (rows := (s38.2.set s2.1.toNat [])) (r := (x54 ++ ([x55] : List Int))) Q (List.getElem?_eq_some_iff.1 (idx_get hx57)).1 Q Q Q Q) ?_)))))))
     refine AWR.ent (Ent.trow (n := 21) (p := 22) (lens := lensOf ((s38.2.set s2.1.toNat []).set s2.1.toNat (x54 ++ ([x55] : List Int)))) Q Q) (AWR.blk (Wr ?_))
     refine Op20 (LT.add Q) Q y2 Q Q (mv (Iv (w64 (s38.1 + 1))) Q Q Q Q (On (AWR.nil ⟨Q,Ent.of ⟨Q,(congrArg (fun l1 => (some (AV.s (.c (lo 21 l1))) : Option AV)) (show s38.2.length = ((s38.2.set s2.1.toNat []).set s2.1.toNat (x54 ++ ([x55] : List Int))).length by simp only [List.length_set])),Q,Q,Q,Q,Q,Q,J⟩ z2⟩)))
    ·refine AWR.exit_end Q ⟨Q,Ent.of z4 z2⟩
   ·refine AWR.blk (Wr ?_)
    refine Op20 (LT.add Q) Q y2 Q Q (mv (Iv (w64 (b51.1 + 1))) Q Q Q Q (On (AWR.nil ⟨Q,Ent.of z4 z2⟩)))
  ·refine AWR.exit_end Q ⟨Q,Ent.of z1 z2⟩
 ·refine Ws (Wr ?_)
  refine mv (Cc (lo 21 b35.length)) Q Q Q Q (asg (Cc (lo 21 b35.length)) Q Q Q Q (On (en [(4,(Cc (lo 21 b35.length)))] [(21,(.trow 37 22 (lensOf b35))),(22,(.pool 3 (rowsOf encInt b35)))] z1 z2 (AWR.ent (Ent.mv 21 0 Q Q) (AWR.ent (Ent.mv 22 1 Q Q) (en [(4,(Cc (lo 0 b35.length)))] [(0,(.trow 37 1 (lensOf b35))),(1,(.pool 3 (rowsOf encInt b35)))] z1 z2 (AWR.ret (FPost.mk (.inr Q) z1 z2 Q ⟨J,J⟩ ⟨J,PermO.poolR perm_encInt _,J⟩))))))))
theorem w_impl_StressesOf (f : TFramework) : ∀ t,m_impl_StressesOf f = some t → Fw.Fn Try.prog 12 [(.agg [(iC f.Graph.Points),(xF encTBar f.Graph.Bars),(xF encTPlace f.Places)])] [] (.s (.c (lo 0 t.length))) [(0,(.trow 37 1 (lensOf t))),(1,(.pool 3 (rowsOf encInt t)))] [] [0,1] := by
 refine Fw.Fn.of (P := Try.prog) (X := [0,1]) (pn := []) (rs := (fun (t : (List (List Int))) => [(.c (lo 0 t.length))])) (dfs := (fun (t : (List (List Int))) => [(0,(.trow 37 1 (lensOf t))),(1,(.pool 3 (rowsOf encInt t)))])) Try.func12 Q Try.ntmps12 (K Q) Q ?_
 intro w0 U0 R0 g0
 unfold m_impl_StressesOf
 refine Ws (Wr ?_)
 refine Os10 (LT.box (n := 21) (v := (.agg [(iC f.Graph.Points),(xF encTBar f.Graph.Bars),(xF encTPlace f.Places)])) Q sz29 (by exact Q)) Q Q Q (asg (Cc (sC nilV)) Q y2 Q Q (On (Ws (Ws ?_))))
 refine AWR.joinK (fun j3 => ([(1,(Cc (.pl 21 0))),(12,(Bv j3))],[(21,(.row 29 [[(iC f.Graph.Points),(xF encTBar f.Graph.Bars),(xF encTPlace f.Places)]]))])) ?_ (fun j3 _ => ?_)
 ·refine Wr (Op11 (LT.bloadN (out := [(iC f.Graph.Points),(xF encTBar f.Graph.Bars),(xF encTPlace f.Places)]) Q ag29 (infS inf29) sz29 (by exact Q) (by exact Q)) Q Q Q Q (Ob' fun r4 hr4 => (AOR.pure (@LT.callF Try.prog _ _ 80 _ _ [(.agg [(iC f.Graph.Points),(xF encTBar f.Graph.Bars),(xF encTPlace f.Places)])] _ _ [] _ _ _ _ (w_impl_IsFramework f r4 hr4) Q cb80 (.cons (.agg (.cons (.same Q) (.cons (.same Q) (.cons (.same Q) .nil)))) .nil) Q Q J) z2 J Q Q (Op10 (LT.not Q) Q Q Q (mv (Bv (!r4)) Q Q Q Q (AOR.split (fun hb5 => ?_) (fun hb5 => ?_)))))))
  ·refine Ok Q Q Q (by rw [hb5]; rfl) Q (Ok Q Q Q (by rw [hb5]; rfl) Q (Ok Q Q Q (by rw [hb5]; rfl) Q (Ok Q Q Q (by rw [hb5]; rfl) Q (Ok Q Q Q (by rw [hb5]; rfl) Q (Op20 (LT.pickT (v := (Bv true)) Q hb5) Q y2 Q Q (On (AWR.nil ⟨Q,Ent.of z2 z1⟩)))))))
  ·refine Op10 (LT.fieldPl Q fo29_0) Q (gH hb5 Q Q) Q (Op10 (LT.fieldPl Q fo26_1) Q (gH hb5 Q Q) Q (Op11 (LT.bload1 (c := (xF encTBar f.Graph.Bars)) Q ag24 (by exact Q)) Q Q (gH hb5 Q Q) Q (Op10 (LT.tlenRO Q und24) Q (gH hb5 Q Q) Q (Op20 (LT.eql Q) Q y2 (gH hb5 Q Q) Q (Op20 (LT.pickF (v := (Bv ((f.Graph.Bars.length : Int) == 0))) Q hb5) Q Q Q Q (On (AWR.nil ⟨Q,Ent.of z2 z1⟩)))))))
 ·refine AWR.cond Q (fun hc6 => ?_) (fun hc6 => ?_)
  ·refine Ws (Wr ?_)
   refine Os00 (LT.buildSlice (n := 23) (els := []) [] Q Q und31 ti37 Q Q Q Q (by decide) Q Q) Q Q (asg (Cc (lo 23 0)) Q Q Q Q (On (AWR.ent (Ent.poolE 24 3 Q) (AWR.ent (Ent.trow (n := 23) (p := 24) (lens := lensOf ([] : List (List Int))) (List.append_nil _) Q) (en [(2,(Cc (lo 23 0)))] [(23,(.trow 37 24 (lensOf ([] : List (List Int))))),(24,(.pool 3 (rowsOf encInt ([] : List (List Int)))))] z1 z2 (AWR.ent (Ent.mv 23 0 Q Q) (AWR.ent (Ent.mv 24 1 Q Q) (en [(2,(Cc (lo 0 (([] : List (List Int)).length))))] [(0,(.trow 37 1 (lensOf ([] : List (List Int))))),(1,(.pool 3 (rowsOf encInt ([] : List (List Int)))))] z1 z2 (AWR.ret (FPost.mk (.inr Q) z1 z2 Q ⟨J,J⟩ ⟨J,PermO.poolR perm_encInt _,J⟩))))))))))
  ·refine AWR.skip (Ws (AWR.draw mixed ?_))
   refine Dp11 (LT.bloadN (out := [(iC f.Graph.Points),(xF encTBar f.Graph.Bars),(xF encTPlace f.Places)]) Q ag29 (infS inf29) sz29 (by exact Q) (by exact Q)) Q Q Q Q (AOD.bind fun r7 hr7 => (AOD.step (@LT.callF Try.prog _ _ 44 _ _ [(.agg [(iC f.Graph.Points),(xF encTBar f.Graph.Bars),(xF encTPlace f.Places)])] _ _ [] _ _ _ _ ((show Fw.Fn Try.prog 44 [(.agg [(iC f.Graph.Points),(xF encTBar f.Graph.Bars),(xF encTPlace f.Places)])] [] (Cc (lo 26 r7.length)) [(26,(.trow 37 27 (lensOf r7))),(27,(.pool 3 (rowsOf encInt r7)))] [] [26,27] from Fw.Fn.ren [(0,26),(1,27)] (w_impl_RigidityMatrix f r7 hr7) Q)) Q cb44 (.cons (.agg (.cons (.same Q) (.cons (.same Q) (.cons (.same Q) .nil)))) .nil) Q Q J) z2 J Q Q (Dp10 (LT.fieldPl Q fo29_0) Q Q Q (Dp10 (LT.fieldPl Q fo26_0) Q Q Q (Dp11 (LT.bload1 (c := (iC f.Graph.Points)) Q ag3 (by exact Q)) Q Q Q Q (Dp20 (LT.mul Q) y2 Q Q Q (AOD.bind fun r8 hr8 => (AOD.step (@LT.callF Try.prog _ _ 106 _ _ [(.c (lo 26 r7.length)),(.c (iC (w64 (2 * f.Graph.Points))))] _ _ [(26,(.trow 37 27 (lensOf r7))),(27,(.pool 3 (rowsOf encInt r7)))] _ _ _ _ ((show Fw.Fn Try.prog 106 [(.c (xF (encLInt false) r7)),(.c (iC (w64 (2 * f.Graph.Points))))] [] (Cc (lo 29 r8.length)) [(29,(.trow 37 30 (lensOf r8))),(30,(.pool 3 (rowsOf encInt r8)))] [] [29,30] from Fw.Fn.ren [(0,29),(1,30)] (w_impl_transposed r7 (w64 (2 * f.Graph.Points)) r8 hr8) Q)) Q cb106 (.cons (.c (.ttrow Q Q Q (fun _ => Q))) (.cons (.c (.same Q)) .nil)) Q Q J) z3 z2 Q Q (Dp10 (LT.fieldPl Q fo29_0) Q Q Q (Dp10 (LT.fieldPl Q fo26_1) Q Q Q (Dp11 (LT.bload1 (c := (xF encTBar f.Graph.Bars)) Q ag24 (by exact Q)) Q Q Q Q ?_)))))))))))
   refine Dp10 (LT.tlenRO Q und24) Q Q Q (AOD.bind fun r9 hr9 => (AOD.step (@LT.callF Try.prog _ _ 105 _ _ [(.c (lo 29 r8.length)),(.c (iC (f.Graph.Bars.length : Int)))] _ _ [(29,(.trow 37 30 (lensOf r8))),(30,(.pool 3 (rowsOf encInt r8)))] _ _ _ _ ((show Fw.Fn Try.prog 105 [(.c (xF (encLInt false) r8)),(.c (iC (f.Graph.Bars.length : Int)))] [] (Cc (lo 32 r9.length)) [(32,(.trow 37 33 (lensOf r9))),(33,(.pool 3 (rowsOf encInt r9)))] [] [32,33] from Fw.Fn.ren [(0,32),(1,33)] (w_impl_nullspace r8 (f.Graph.Bars.length : Int) r9 hr9) Q)) Q cb105 (.cons (.c (.ttrow Q Q Q (fun _ => Q))) (.cons (.c (.same Q)) .nil)) Q Q J) z3 z2 Q Q (Dp10 (LT.assign (v := (Cc (lo 32 r9.length))) Q) Q Q Q (AOD.nil (by kernel_rfl) (en [(2,(Cc (lo 32 r9.length)))] [(32,(.trow 37 33 (lensOf r9))),(33,(.pool 3 (rowsOf encInt r9)))] z1 z2 (AWR.ent (Ent.mv 32 0 Q Q) (AWR.ent (Ent.mv 33 1 Q Q) (en [(2,(Cc (lo 0 r9.length)))] [(0,(.trow 37 1 (lensOf r9))),(1,(.pool 3 (rowsOf encInt r9)))] z1 z2 (AWR.ret (FPost.mk (.inr Q) z1 z2 Q ⟨J,J⟩ ⟨J,PermO.poolR perm_encInt _,J⟩))))))))))
theorem w_spec_l13Turned (f : TFramework) : ∀ t,m_spec_l13Turned f = some t → Fw.Fn Try.prog 108 [(.agg [(iC f.Graph.Points),(xF encTBar f.Graph.Bars),(xF encTPlace f.Places)])] [] (.s (.c (lo 0 t.length))) [(0,(.trow 37 1 (lensOf t))),(1,(.pool 3 (rowsOf encInt t)))] [] [0,1] := by
 refine Fw.Fn.of (P := Try.prog) (X := [0,1]) (pn := []) (rs := (fun (t : (List (List Int))) => [(.c (lo 0 t.length))])) (dfs := (fun (t : (List (List Int))) => [(0,(.trow 37 1 (lensOf t))),(1,(.pool 3 (rowsOf encInt t)))])) Try.func108 Q Try.ntmps108 (K Q) Q ?_
 intro w0 U0 R0 g0
 unfold m_spec_l13Turned
 refine Ws (Wr ?_)
 refine Os10 (LT.box (n := 21) (v := (.agg [(iC f.Graph.Points),(xF encTBar f.Graph.Bars),(xF encTPlace f.Places)])) Q sz29 (by exact Q)) Q Q Q (asg (Cc (sC nilV)) Q y2 Q Q (On (Ws (Wr ?_))))
 refine Op11 (LT.bloadN (out := [(iC f.Graph.Points),(xF encTBar f.Graph.Bars),(xF encTPlace f.Places)]) Q ag29 (infS inf29) sz29 (by exact Q) (by exact Q)) Q Q Q Q (Ob' fun r1 hr1 => (AOR.step (@LT.callF Try.prog _ _ 46 _ _ [(.agg [(iC f.Graph.Points),(xF encTBar f.Graph.Bars),(xF encTPlace f.Places)])] _ _ [] _ _ _ _ ((show Fw.Fn Try.prog 46 [(.agg [(iC f.Graph.Points),(xF encTBar f.Graph.Bars),(xF encTPlace f.Places)])] [] (Cc (lo 23 r1.length)) [(23,(pR 37 (encLInt true) r1))] [] [23] from Fw.Fn.ren [(0,23)] (w_spec_RigidityMatrix f r1 hr1) Q)) Q cb46 (.cons (.agg (.cons (.same Q) (.cons (.same Q) (.cons (.same Q) .nil)))) .nil) Q Q J) z2 J Q Q (asg (Cc (lo 23 r1.length)) Q Q Q Q (On (Ws (Wr ?_))))))
 refine Os00 (LT.buildSlice (n := 24) (els := []) [] Q Q und31 ti37 Q Q Q Q (by decide) Q Q) Q Q (asg (Cc (lo 24 0)) Q Q Q Q (On (AWR.ent (Ent.poolE 25 3 Q) (AWR.ent (Ent.trow (n := 24) (p := 25) (lens := lensOf ([] : List (List Int))) (List.append_nil _) Q) (Ws (Ws (Wr ?_)))))))
 refine asg (Iv 0) Q y2 Q Q (On (AWR.block ?_))
 refine AWR.loop1 (id := 0) (m_spec_l13Turned_L3 f) (fun s2 => ([(1,(Cc (.pl 21 0))),(3,(Cc (lo 23 s2.2.1.length))),(4,(Cc (lo 24 s2.2.2.length))),(5,(Iv s2.1))],[(21,(.row 29 [[(iC f.Graph.Points),(xF encTBar f.Graph.Bars),(xF encTPlace f.Places)]])),(23,(pR 37 (encLInt true) s2.2.1)),(24,(.trow 37 25 (lensOf s2.2.2))),(25,(.pool 3 (rowsOf encInt s2.2.2)))])) (fun b33 => ([(4,(Cc (lo 24 b33.length)))],[(24,(.trow 37 25 (lensOf b33))),(25,(.pool 3 (rowsOf encInt b33)))])) ?_ (Ent.of z4 z4) Q (fun b33 _ => ?_)
 ·intro s2
  unfold m_spec_l13Turned_L3
  refine Ws (Ws ?_)
  refine AWR.joinK (fun j35 => ([(1,(Cc (.pl 21 0))),(3,(Cc (lo 23 s2.2.1.length))),(4,(Cc (lo 24 s2.2.2.length))),(5,(Iv s2.1)),(21,(Bv j35))],[(21,(.row 29 [[(iC f.Graph.Points),(xF encTBar f.Graph.Bars),(xF encTPlace f.Places)]])),(23,(pR 37 (encLInt true) s2.2.1)),(24,(.trow 37 25 (lensOf s2.2.2))),(25,(.pool 3 (rowsOf encInt s2.2.2)))])) ?_ (fun j35 _ => ?_)
  ·refine Wr (mv (Iv s2.1) Q Q Q Q (Op10 (LT.fieldPl Q fo29_0) Q Q Q (Op10 (LT.fieldPl Q fo26_0) Q Q Q (Op11 (LT.bload1 (c := (iC f.Graph.Points)) Q ag3 (by exact Q)) Q Q Q Q (Op20 (LT.mul Q) y2 Q Q Q (Op20 (LT.lss Q) Q Q Q Q (mv (Bv (decide (s2.1 < (w64 (2 * f.Graph.Points))))) Q Q Q Q (AOR.split (fun hb36 => ?_) (fun hb36 => ?_)))))))))
   ·refine mv (Cc (lo 23 s2.2.1.length)) Q Q (gH hb36 Q Q) Q (Op10 (LT.lenLoc Q und31) Q (gH hb36 Q Q) Q (Op20 (LT.gtr Q) Q y2 (gH hb36 Q Q) Q (Op20 (LT.pickT (v := (Bv (decide (0 < (s2.2.1.length : Int))))) Q hb36) Q Q Q Q (On (AWR.nil ⟨Q,Ent.of z5 z4⟩)))))
   ·refine Ok Q Q Q (by rw [hb36]; rfl) Q (Ok Q Q Q (by rw [hb36]; rfl) Q (Ok Q Q Q (by rw [hb36]; rfl) Q (Op20 (LT.pickF (v := (Bv false)) Q hb36) Q y2 Q Q (On (AWR.nil ⟨Q,Ent.of z5 z4⟩)))))
  ·refine AWR.cond Q (fun hc37 => ?_) (fun hc37 => ?_)
   ·refine AWR.skip (Ws (AWR.block (Ws (Wr ?_))))
    refine Os00 (LT.tbuildSlice (n := 26) (enc := encInt) [] ([] : List Int) Q Q und37 ti3 Q Q Q Q (by decide) (fun _ => Q) Q) Q Q (asg (Cc (lo 26 (([] : List Int).length))) Q Q Q Q (On (Ws (Ws (Wr ?_)))))
    refine asg (Iv 0) Q y2 Q Q (On (AWR.block ?_))
    refine AWR.loop1 (id := 2) (m_spec_l13Turned_L4 s2) (fun s38 => ([(1,(Cc (.pl 21 0))),(3,(Cc (lo 23 s2.2.1.length))),(4,(Cc (lo 24 s2.2.2.length))),(5,(Iv s2.1)),(6,(Cc (lo 26 s38.2.length))),(7,(Iv s38.1))],[(21,(.row 29 [[(iC f.Graph.Points),(xF encTBar f.Graph.Bars),(xF encTPlace f.Places)]])),(23,(pR 37 (encLInt true) s2.2.1)),(24,(.trow 37 25 (lensOf s2.2.2))),(25,(.pool 3 (rowsOf encInt s2.2.2))),(26,(pR 3 encInt s38.2))])) (fun b47 => ([(1,(Cc (.pl 21 0))),(3,(Cc (lo 23 b47.2.1.length))),(4,(Cc (lo 24 b47.2.2.1.length))),(5,(Iv b47.1)),(6,(Cc (lo 26 b47.2.2.2.length)))],[(21,(.row 29 [[(iC f.Graph.Points),(xF encTBar f.Graph.Bars),(xF encTPlace f.Places)]])),(23,(pR 37 (encLInt true) b47.2.1)),(24,(.trow 37 25 (lensOf b47.2.2.1))),(25,(.pool 3 (rowsOf encInt b47.2.2.1))),(26,(pR 3 encInt b47.2.2.2))])) ?_ (Ent.of z6 z5) Q (fun b47 _ => ?_)
    ·intro s38
     unfold m_spec_l13Turned_L4
     refine Ws (Ws (Wr ?_))
     refine mv (Iv s38.1) Q Q Q Q (mv (Cc (lo 23 s2.2.1.length)) Q Q Q Q (Op10 (LT.lenLoc Q und31) Q Q Q (Op20 (LT.lss Q) Q Q Q Q (On (AWR.cond Q (fun hc48 => ?_) (fun hc48 => ?_))))))
     ·refine AWR.skip (Ws (AWR.block (Wr ?_)))
      refine mv (Cc (lo 26 s38.2.length)) Q Q Q Q (mv (Cc (lo 23 s2.2.1.length)) Q Q Q Q (mv (Iv s38.1) Q Q Q Q (Ob' fun x49 hx49 => (Op21 (LT.tindexLoc Q Q el31 hx49) Q Q Q Q Q (Op11 (LT.tload1 (k := 0) Q ag37 hx49 (by exact Q) (by exact Q)) Q Q Q Q (mv (Iv s2.1) Q Q Q Q (Ob' fun x50 hx50 => (Op20 (LT.tindexRO (enc := encInt) Q el37 hx50 sz3) Q Q Q Q (Op10 (LT.loadPx1 Q ag3) Q Q Q (Os10 (LT.tbuildSlice (n := 27) (enc := encInt) [(0,.tmp 38,(.c (iC x50)))] ([x50] : List Int) Q Q und37 ti3 Q Q Q Q (by decide) (fun _ => Q) Q) Q Q Q (Ob' fun u51 hu51 => ?_)))))))))))
      refine Os22 (LT.tappP (enc := encInt) Q Q Q und37 ti3 Q (by decide) (by decide) (fun _ => Q) (lim_le hu51)) Q Q Q Q Q Q (asg (Cc (lo 26 ((s38.2 ++ ([x50] : List Int)).length))) Q Q Q Q (On (AWR.blk ?_)))
      refine en [(1,(Cc (.pl 21 0))),(3,(Cc (lo 23 s2.2.1.length))),(4,(Cc (lo 24 s2.2.2.length))),(5,(Iv s2.1)),(6,(Cc (lo 26 ((s38.2 ++ ([x50] : List Int)).length)))),(7,(Iv s38.1))] [(21,(.row 29 [[(iC f.Graph.Points),(xF encTBar f.Graph.Bars),(xF encTPlace f.Places)]])),(23,(pR 37 (encLInt true) s2.2.1)),(24,(.trow 37 25 (lensOf s2.2.2))),(25,(.pool 3 (rowsOf encInt s2.2.2))),(26,(pR 3 encInt (s38.2 ++ ([x50] : List Int))))] z6 z5 (Wr (mv (Iv s38.1) Q Q Q Q (Op20 (LT.add Q) Q y2 Q Q (asg (Iv (w64 (s38.1 + 1))) Q Q Q Q (On (AWR.nil ⟨Q,Ent.of z6 z5⟩))))))
     ·refine AWR.exit_end Q ⟨Q,Ent.of z5 z5⟩
    ·refine Wr (mv (Cc (lo 24 b47.2.2.1.length)) Q Q Q Q (mv (Cc (lo 26 b47.2.2.2.length)) Q Q Q Q (Os10 (LT.buildSlice (n := 28) (els := [[(lo 26 b47.2.2.2.length)]]) [(0,.tmp 42,(.c (lo 26 b47.2.2.2.length)))] Q Q und31 ti37 Q Q Q Q (by decide) Q Q) Q Q Q (Ob' fun u52 hu52 => (Os22 (LT.xapp Q Q Q und31 ti37 Q (by decide) (by decide) Q (lim_le hu52)) Q Q Q Q Q Q (asg (Cc (lo 24 (b47.2.2.1.length + 1))) Q Q Q Q (On (AWR.ent (Ent.tadopt (enc := encInt) (n := 24) (m := 26) (p := 25) (rows := b47.2.2.1) (r := b47.2.2.2) (rest := []) Q Q Q Q Q Q) (AWR.ent (Ent.trow (n := 24) (p := 25) (lens := lensOf (b47.2.2.1 ++ [b47.2.2.2])) (List.append_nil _) Q) (AWR.blk (Wr ?_)))))))))))
     refine mv (Iv b47.1) Q Q Q Q (Op20 (LT.add Q) Q y2 Q Q (asg (Iv (w64 (b47.1 + 1))) Q Q Q Q (On (AWR.nil ⟨Q,Ent.of ⟨Q,Q,(congrArg (fun l1 => (some (AV.s (.c (lo 24 l1))) : Option AV)) (show (b47.2.2.1.length + 1) = (b47.2.2.1 ++ [b47.2.2.2]).length from len_snoc)),Q,J⟩ z4⟩))))
   ·refine AWR.exit_end Q ⟨Q,Ent.of z1 z2⟩
 ·refine Ws (Wr ?_)
  refine mv (Cc (lo 24 b33.length)) Q Q Q Q (asg (Cc (lo 24 b33.length)) Q Q Q Q (On (en [(2,(Cc (lo 24 b33.length)))] [(24,(.trow 37 25 (lensOf b33))),(25,(.pool 3 (rowsOf encInt b33)))] z1 z2 (AWR.ent (Ent.mv 24 0 Q Q) (AWR.ent (Ent.mv 25 1 Q Q) (en [(2,(Cc (lo 0 b33.length)))] [(0,(.trow 37 1 (lensOf b33))),(1,(.pool 3 (rowsOf encInt b33)))] z1 z2 (AWR.ret (FPost.mk (.inr Q) z1 z2 Q ⟨J,J⟩ ⟨J,PermO.poolR perm_encInt _,J⟩))))))))
theorem w_spec_StressesOf (f : TFramework) : ∀ t,m_spec_StressesOf f = some t → Fw.Fn Try.prog 14 [(.agg [(iC f.Graph.Points),(xF encTBar f.Graph.Bars),(xF encTPlace f.Places)])] [] (.s (.c (lo 0 t.length))) [(0,(pR 37 (encLInt true) t))] [] [0] := by
 refine Fw.Fn.of (P := Try.prog) (X := [0]) (pn := []) (rs := (fun (t : (List (List Int))) => [(.c (lo 0 t.length))])) (dfs := (fun (t : (List (List Int))) => [(0,(pR 37 (encLInt true) t))])) Try.func14 Q Try.ntmps14 (K Q) Q ?_
 intro w0 U0 R0 g0
 unfold m_spec_StressesOf
 refine Ws (Wr ?_)
 refine Os10 (LT.box (n := 21) (v := (.agg [(iC f.Graph.Points),(xF encTBar f.Graph.Bars),(xF encTPlace f.Places)])) Q sz29 (by exact Q)) Q Q Q (asg (Cc (sC nilV)) Q y2 Q Q (On (Ws (Ws ?_))))
 refine AWR.joinK (fun j3 => ([(1,(Cc (.pl 21 0))),(12,(Bv j3))],[(21,(.row 29 [[(iC f.Graph.Points),(xF encTBar f.Graph.Bars),(xF encTPlace f.Places)]]))])) ?_ (fun j3 _ => ?_)
 ·refine Wr (Op11 (LT.bloadN (out := [(iC f.Graph.Points),(xF encTBar f.Graph.Bars),(xF encTPlace f.Places)]) Q ag29 (infS inf29) sz29 (by exact Q) (by exact Q)) Q Q Q Q (Ob' fun r4 hr4 => (AOR.pure (@LT.callF Try.prog _ _ 15 _ _ [(.agg [(iC f.Graph.Points),(xF encTBar f.Graph.Bars),(xF encTPlace f.Places)])] _ _ [] _ _ _ _ (w_spec_IsFramework f r4 hr4) Q cb15 (.cons (.agg (.cons (.same Q) (.cons (.same Q) (.cons (.same Q) .nil)))) .nil) Q Q J) z2 J Q Q (Op10 (LT.not Q) Q Q Q (mv (Bv (!r4)) Q Q Q Q (AOR.split (fun hb5 => ?_) (fun hb5 => ?_)))))))
  ·refine Ok Q Q Q (by rw [hb5]; rfl) Q (Ok Q Q Q (by rw [hb5]; rfl) Q (Ok Q Q Q (by rw [hb5]; rfl) Q (Ok Q Q Q (by rw [hb5]; rfl) Q (Ok Q Q Q (by rw [hb5]; rfl) Q (Op20 (LT.pickT (v := (Bv true)) Q hb5) Q y2 Q Q (On (AWR.nil ⟨Q,Ent.of z2 z1⟩)))))))
  ·refine Op10 (LT.fieldPl Q fo29_0) Q (gH hb5 Q Q) Q (Op10 (LT.fieldPl Q fo26_1) Q (gH hb5 Q Q) Q (Op11 (LT.bload1 (c := (xF encTBar f.Graph.Bars)) Q ag24 (by exact Q)) Q Q (gH hb5 Q Q) Q (Op10 (LT.tlenRO Q und24) Q (gH hb5 Q Q) Q (Op20 (LT.eql Q) Q y2 (gH hb5 Q Q) Q (Op20 (LT.pickF (v := (Bv ((f.Graph.Bars.length : Int) == 0))) Q hb5) Q Q Q Q (On (AWR.nil ⟨Q,Ent.of z2 z1⟩)))))))
 ·refine AWR.cond Q (fun hc6 => ?_) (fun hc6 => ?_)
  ·refine Ws (Wr ?_)
   refine Os00 (LT.tbuildSlice (n := 23) (enc := (encLInt true)) [] ([] : List (List Int)) Q Q und31 ti37 Q Q Q Q (by decide) (fun _ => Q) Q) Q Q (asg (Cc (lo 23 (([] : List (List Int)).length))) Q Q Q Q (On (en [(2,(Cc (lo 23 (([] : List (List Int)).length))))] [(23,(pR 37 (encLInt true) ([] : List (List Int))))] z1 z1 (AWR.ent (Ent.mv 23 0 Q Q) (en [(2,(Cc (lo 0 (([] : List (List Int)).length))))] [(0,(pR 37 (encLInt true) ([] : List (List Int))))] z1 z1 (AWR.ret (FPost.mk (.inr Q) z1 z1 Q ⟨J,J⟩ ⟨PermO.prow' perm_encLInt,J⟩)))))))
  ·refine AWR.skip (Ws (AWR.draw mixed ?_))
   refine Dp11 (LT.bloadN (out := [(iC f.Graph.Points),(xF encTBar f.Graph.Bars),(xF encTPlace f.Places)]) Q ag29 (infS inf29) sz29 (by exact Q) (by exact Q)) Q Q Q Q (AOD.bind fun r7 hr7 => (AOD.step (@LT.callF Try.prog _ _ 108 _ _ [(.agg [(iC f.Graph.Points),(xF encTBar f.Graph.Bars),(xF encTPlace f.Places)])] _ _ [] _ _ _ _ ((show Fw.Fn Try.prog 108 [(.agg [(iC f.Graph.Points),(xF encTBar f.Graph.Bars),(xF encTPlace f.Places)])] [] (Cc (lo 25 r7.length)) [(25,(.trow 37 26 (lensOf r7))),(26,(.pool 3 (rowsOf encInt r7)))] [] [25,26] from Fw.Fn.ren [(0,25),(1,26)] (w_spec_l13Turned f r7 hr7) Q)) Q cb108 (.cons (.agg (.cons (.same Q) (.cons (.same Q) (.cons (.same Q) .nil)))) .nil) Q Q J) z2 J Q Q (Dp10 (LT.fieldPl Q fo29_0) Q Q Q (Dp10 (LT.fieldPl Q fo26_1) Q Q Q (Dp11 (LT.bload1 (c := (xF encTBar f.Graph.Bars)) Q ag24 (by exact Q)) Q Q Q Q (Dp10 (LT.tlenRO Q und24) Q Q Q (AOD.bind fun r8 hr8 => (AOD.step (@LT.callF Try.prog _ _ 107 _ _ [(.c (lo 25 r7.length)),(.c (iC (f.Graph.Bars.length : Int)))] _ _ [(25,(.trow 37 26 (lensOf r7))),(26,(.pool 3 (rowsOf encInt r7)))] _ _ _ _ ((show Fw.Fn Try.prog 107 [(.c (xF (encLInt false) r7)),(.c (iC (f.Graph.Bars.length : Int)))] [] (Cc (lo 28 r8.length)) [(28,(pR 37 (encLInt true) r8))] [] [28] from Fw.Fn.ren [(0,28)] (w_spec_l9Null r7 (f.Graph.Bars.length : Int) r8 hr8) Q)) Q cb107 (.cons (.c (.ttrow Q Q Q (fun _ => Q))) (.cons (.c (.same Q)) .nil)) Q Q J) z3 z2 Q Q (Dp10 (LT.assign (v := (Cc (lo 28 r8.length))) Q) Q Q Q (AOD.nil (by kernel_rfl) (en [(2,(Cc (lo 28 r8.length)))] [(28,(pR 37 (encLInt true) r8))] z1 z1 ?_)))))))))))
   refine AWR.ent (Ent.mv 28 0 Q Q) (en [(2,(Cc (lo 0 r8.length)))] [(0,(pR 37 (encLInt true) r8))] z1 z1 (AWR.ret (FPost.mk (.inr Q) z1 z1 Q ⟨J,J⟩ ⟨PermO.prow' perm_encLInt,J⟩)))
end Go.Proofs.Ytghofbijdnenoaa
end
section
set_option linter.unusedVariables false
set_option linter.unusedSimpArgs false
set_option linter.unnecessarySimpa false
set_option maxRecDepth 100000
set_option maxHeartbeats 8000000
open Go Go.Fw
namespace Go.Proofs.Ytghofbijdnenoaa
theorem w_laws_szBarS (a : (List TBar)) (leftV : Int) : ∀ t,m_laws_szBarS a leftV = some t → Fw.Fn Try.prog 124 [(.c (xF encTBar a)),(.c (iC leftV))] [] (.s (.c (iC t))) [] [] [] := by
 refine Fw.Fn.of (P := Try.prog) (X := []) (pn := []) (rs := (fun (t : Int) => [(.c (iC t))])) (dfs := (fun (t : Int) => [])) Try.func124 Q Try.ntmps124 (K Q) Q ?_
 intro w0 U0 R0 g0
 unfold m_laws_szBarS
 refine Ws (Wr ?_)
 refine asg (Iv 0) Q y2 Q Q (On (Ws (Wr ?_)))
 refine mv (Iv leftV) Q Q Q Q (mv (Cc (xF encTBar a)) Q Q Q Q (Op10 (LT.tlenRO Q und48) Q Q Q (Op20 (LT.sub Q) Q Q Q Q (asg (Iv (w64 (leftV - (a.length : Int)))) Q Q Q Q (On (Ws (Ws (Wr ?_))))))))
 refine mv (Iv (w64 (leftV - (a.length : Int)))) Q Q Q Q (Op20 (LT.lss Q) Q y2 Q Q (On (AWR.cond Q (fun hc1 => ?_) (fun hc1 => ?_))))
 ·refine Ws (Wr ?_)
  refine asg (Iv (-1)) Q y2 Q Q (On (AWR.ret (FPost.mk (.inr Q) z1 J Q ⟨PermP.sc,J⟩ J)))
 ·refine AWR.skip (Ws (Wr ?_))
  refine mv (Iv (w64 (leftV - (a.length : Int)))) Q Q Q Q (asg (Iv (w64 (leftV - (a.length : Int)))) Q Q Q Q (On (AWR.ret (FPost.mk (.inr Q) z1 J Q ⟨PermP.sc,J⟩ J))))
theorem w_laws_szGraph (a : TGraph) (leftV : Int) : ∀ t,m_laws_szGraph a leftV = some t → Fw.Fn Try.prog 33 [(.agg [(iC a.Points),(xF encTBar a.Bars)]),(.c (iC leftV))] [] (.s (.c (iC t))) [] [] [] := by
 refine Fw.Fn.of (P := Try.prog) (X := []) (pn := []) (rs := (fun (t : Int) => [(.c (iC t))])) (dfs := (fun (t : Int) => [])) Try.func33 Q Try.ntmps33 (K Q) Q ?_
 intro w0 U0 R0 g0
 unfold m_laws_szGraph
 refine Ws (Wr ?_)
 refine Os10 (LT.box (n := 21) (v := (.agg [(iC a.Points),(xF encTBar a.Bars)])) Q sz50 (by exact Q)) Q Q Q (asg (Iv 0) Q y2 Q Q (On (Ws (Wr ?_))))
 refine Op10 (LT.fieldPl Q fo50_1) Q Q Q (Op11 (LT.bload1 (c := (xF encTBar a.Bars)) Q ag48 (by exact Q)) Q Q Q Q (mv (Iv leftV) Q Q Q Q (Ob' fun r1 hr1 => (AOR.pure (@LT.callF Try.prog _ _ 124 _ _ [(.c (xF encTBar a.Bars)),(.c (iC leftV))] _ _ [] _ _ _ _ (w_laws_szBarS a.Bars leftV r1 hr1) Q cb124 (.cons (.c (.same Q)) (.cons (.c (.same Q)) .nil)) Q Q J) z3 J Q Q (asg (Iv r1) Q Q Q Q (On (Ws (Ws (Wr ?_)))))))))
 refine mv (Iv r1) Q Q Q Q (Op20 (LT.lss Q) Q y2 Q Q (On (AWR.cond Q (fun hc2 => ?_) (fun hc2 => ?_))))
 ·refine Ws (en [] [] J J (Wr (asg (Iv (-1)) Q y2 Q Q (On (AWR.ret (FPost.mk (.inr Q) z1 J Q ⟨PermP.sc,J⟩ J))))))
 ·refine AWR.skip (Ws ?_)
  refine en [(1,(Iv r1))] [] z1 J (Wr (mv (Iv r1) Q Q Q Q (asg (Iv r1) Q Q Q Q (On (AWR.ret (FPost.mk (.inr Q) z1 J Q ⟨PermP.sc,J⟩ J))))))
theorem w_laws_toBar (a : TBar) : ∀ t,m_laws_toBar a = some t → Fw.Fn Try.prog 210 [(.agg [(iC a.A),(iC a.B)])] [] (.s (.agg [(iC t.A),(iC t.B)])) [] [] [] := by
 refine Fw.Fn.of (P := Try.prog) (X := []) (pn := []) (rs := (fun (t : TBar) => [(.agg [(iC t.A),(iC t.B)])])) (dfs := (fun (t : TBar) => [])) Try.func210 Q Try.ntmps210 (K Q) Q ?_
 intro w0 U0 R0 g0
 unfold m_laws_toBar
 refine Ws (Wr ?_)
 refine Os10 (LT.box (n := 21) (v := (.agg [(iC a.A),(iC a.B)])) Q sz162 (by exact Q)) Q Q Q (Os00 (LT.alloc (n := 22) (cells := [(iC 0),(iC 0)]) Q ti62 Q Q Q) Q Q (On (Ws (Wr ?_))))
 refine Os00 (LT.alloc (n := 23) (cells := [(iC 0),(iC 0)]) Q ti62 Q Q Q) Q Q (On (Ws (Wr ?_)))
 refine Op10 (LT.fieldPl Q fo162_0) Q Q Q (Op11 (LT.bload1 (c := (iC a.A)) Q ag3 (by exact Q)) Q Q Q Q (Op10 (LT.fieldPl Q fo62_0) Q Q Q (Os21 (LT.bstore (v := (.c (iC a.A))) (out := [(iC a.A),(iC 0)]) Q Q (infS inf3) sz3 (by exact Q) (by exact K Q) (by exact Q)) Q Q Q Q Q (On (Ws ?_)))))
 refine en [(1,(Cc (.pl 21 0))),(2,(Cc (.pl 22 0))),(3,(Cc (.pl 23 0)))] [(21,(.row 162 [[(iC a.A),(iC a.B)]])),(22,(.row 62 [[(iC 0),(iC 0)]])),(23,(.row 62 [[(iC a.A),(iC 0)]]))] z3 z3 (Wr (Op10 (LT.fieldPl Q fo162_1) Q Q Q (Op11 (LT.bload1 (c := (iC a.B)) Q ag3 (by exact Q)) Q Q Q Q (Op10 (LT.fieldPl Q fo62_1) Q Q Q (Os21 (LT.bstore (v := (.c (iC a.B))) (out := [(iC a.A),(iC a.B)]) Q Q (infS inf3) sz3 (by exact Q) (by exact K Q) (by exact Q)) Q Q Q Q Q (On (Ws (Wr ?_))))))))
 refine Op11 (LT.bloadN (out := [(iC a.A),(iC a.B)]) Q ag62 (infS inf62) sz62 (by exact Q) (by exact Q)) Q Q Q Q (Os21 (LT.bstore (v := (.agg [(iC a.A),(iC a.B)])) (out := [(iC a.A),(iC a.B)]) Q Q (infS inf62) sz62 (by exact Q) (by exact K Q) (by exact Q)) Q Q Q Q Q (On (AWR.ret (FPost.mk (.inr Q) ⟨⟨_,_,_,Q,Q,Q,ag62,sz62,_,(infS inf62)⟩,J⟩ J Q ⟨⟨PermP.sc,PermP.sc,J⟩,J⟩ J))))
theorem w_laws_toBarS (a : (List TBar)) : ∀ t,m_laws_toBarS a = some t → Fw.Fn Try.prog 127 [(.c (xF encTBar a))] [] (.s (.c (lo 0 t.length))) [(0,(pR 62 encTBar t))] [] [0] := by
 refine Fw.Fn.of (P := Try.prog) (X := [0]) (pn := []) (rs := (fun (t : (List TBar)) => [(.c (lo 0 t.length))])) (dfs := (fun (t : (List TBar)) => [(0,(pR 62 encTBar t))])) Try.func127 Q Try.ntmps127 (K Q) Q ?_
 intro w0 U0 R0 g0
 unfold m_laws_toBarS
 refine Ws (Wr ?_)
 refine asg (Cc (sC nilV)) Q y2 Q Q (On (Ws (Wr ?_)))
 refine mv (Cc (xF encTBar a)) Q Q Q Q (Op10 (LT.tlenRO Q und48) Q Q Q (Ob' fun u1 hu1 => (Os20 (LT.tmake (n := 21) (enc := encTBar) (zc := [(iC 0),(iC 0)]) (TBar.mk (0 : Int) (0 : Int)) Q und24 ti62 Q Q Q (by decide) (by decide) (lenOk_le hu1) Q) Q Q Q Q (asg (Cc (lo 21 ((List.replicate (a.length : Int).toNat (TBar.mk (0 : Int) (0 : Int))).length))) Q Q Q Q (On (Ws (Ws (Wr ?_))))))))
 refine asg (Iv 0) Q y2 Q Q (On (AWR.block ?_))
 refine AWR.loop1 (id := 0) (m_laws_toBarS_L1 a) (fun s2 => ([(0,(Cc (xF encTBar a))),(3,(Cc (lo 21 s2.2.length))),(4,(Iv s2.1))],[(21,(pR 62 encTBar s2.2))])) (fun b11 => ([(3,(Cc (lo 21 b11.length)))],[(21,(pR 62 encTBar b11))])) ?_ (Ent.of z3 z1) Q (fun b11 _ => ?_)
 ·intro s2
  unfold m_laws_toBarS_L1
  refine Ws (Ws (Wr ?_))
  refine mv (Iv s2.1) Q Q Q Q (mv (Cc (xF encTBar a)) Q Q Q Q (Op10 (LT.tlenRO Q und48) Q Q Q (Op20 (LT.lss Q) Q Q Q Q (On (AWR.cond Q (fun hc12 => ?_) (fun hc12 => ?_))))))
  ·refine AWR.skip (Ws (AWR.block (Wr ?_)))
   refine mv (Cc (lo 21 s2.2.length)) Q Q Q Q (mv (Iv s2.1) Q Q Q Q (mv (Cc (xF encTBar a)) Q Q Q Q (mv (Iv s2.1) Q Q Q Q (Ob' fun x13 hx13 => (Op20 (LT.tindexRO (enc := encTBar) Q el48 hx13 sz162) Q Q Q Q (Op10 (LT.loadPxN Q ag162 (infS inf162) (by exact sz162.symm)) Q Q Q (Ob' fun r14 hr14 => (AOR.pure (@LT.callF Try.prog _ _ 210 _ _ [(.agg [(iC x13.A),(iC x13.B)])] _ _ [] _ _ _ _ (w_laws_toBar x13 r14 hr14) Q cb210 (.cons (.agg (.cons (.same Q) (.cons (.same Q) .nil))) .nil) Q Q J) z2 J Q Q (Ob' fun x15 hx15 => (Op21 (LT.tindexLoc Q Q el24 hx15) Q Q Q Q Q (Os21 (LT.tstore (k := 0) (v := (.agg [(iC r14.A),(iC r14.B)])) (b' := r14) Q Q (infS inf62) sz62 (by exact Q) hx15 (by exact Q) (by exact K Q) (by exact Q)) Q Q Q Q Q ?_)))))))))))
   refine On (AWR.blk ?_)
   refine en [(0,(Cc (xF encTBar a))),(3,(Cc (lo 21 s2.2.length))),(4,(Iv s2.1))] [(21,(pR 62 encTBar (s2.2.set s2.1.toNat r14)))] z3 z1 (Wr (mv (Iv s2.1) Q Q Q Q (Op20 (LT.add Q) Q y2 Q Q (asg (Iv (w64 (s2.1 + 1))) Q Q Q Q (On (AWR.nil ⟨Q,Ent.of ⟨Q,(congrArg (fun l1 => (some (AV.s (.c (lo 21 l1))) : Option AV)) (show s2.2.length = (s2.2.set s2.1.toNat r14).length by simp only [List.length_set])),Q,J⟩ z1⟩))))))
  ·refine AWR.exit_end Q ⟨Q,Ent.of z1 z1⟩
 ·refine Ws (Wr ?_)
  refine mv (Cc (lo 21 b11.length)) Q Q Q Q (asg (Cc (lo 21 b11.length)) Q Q Q Q (On (en [(2,(Cc (lo 21 b11.length)))] [(21,(pR 62 encTBar b11))] z1 z1 (AWR.ent (Ent.mv 21 0 Q Q) (en [(2,(Cc (lo 0 b11.length)))] [(0,(pR 62 encTBar b11))] z1 z1 (AWR.ret (FPost.mk (.inr Q) z1 z1 Q ⟨J,J⟩ ⟨PermO.prow' perm_encTBar,J⟩)))))))
theorem w_laws_toGraph (a : TGraph) : ∀ t,m_laws_toGraph a = some t → Fw.Fn Try.prog 35 [(.agg [(iC a.Points),(xF encTBar a.Bars)])] [] (.s (.agg [(iC t.Points),(lo 0 t.Bars.length)])) [(0,(pR 62 encTBar t.Bars))] [] [0] := by
 refine Fw.Fn.of (P := Try.prog) (X := [0]) (pn := []) (rs := (fun (t : TGraph) => [(.agg [(iC t.Points),(lo 0 t.Bars.length)])])) (dfs := (fun (t : TGraph) => [(0,(pR 62 encTBar t.Bars))])) Try.func35 Q Try.ntmps35 (K Q) Q ?_
 intro w0 U0 R0 g0
 unfold m_laws_toGraph
 refine Ws (Wr ?_)
 refine Os10 (LT.box (n := 21) (v := (.agg [(iC a.Points),(xF encTBar a.Bars)])) Q sz50 (by exact Q)) Q Q Q (Os00 (LT.alloc (n := 22) (cells := [(iC 0),(sC nilV)]) Q ti26 Q Q Q) Q Q (On (Ws (Wr ?_))))
 refine Os00 (LT.alloc (n := 23) (cells := [(iC 0),(sC nilV)]) Q ti26 Q Q Q) Q Q (On (Ws (Wr ?_)))
 refine Op10 (LT.fieldPl Q fo50_0) Q Q Q (Op11 (LT.bload1 (c := (iC a.Points)) Q ag3 (by exact Q)) Q Q Q Q (Op10 (LT.fieldPl Q fo26_0) Q Q Q (Os21 (LT.bstore (v := (.c (iC a.Points))) (out := [(iC a.Points),(sC nilV)]) Q Q (infS inf3) sz3 (by exact Q) (by exact K Q) (by exact Q)) Q Q Q Q Q (On (Ws ?_)))))
 refine en [(1,(Cc (.pl 21 0))),(2,(Cc (.pl 22 0))),(3,(Cc (.pl 23 0)))] [(21,(.row 50 [[(iC a.Points),(xF encTBar a.Bars)]])),(22,(.row 26 [[(iC 0),(sC nilV)]])),(23,(.row 26 [[(iC a.Points),(sC nilV)]]))] z3 z3 (Wr (Op10 (LT.fieldPl Q fo50_1) Q Q Q (Op11 (LT.bload1 (c := (xF encTBar a.Bars)) Q ag48 (by exact Q)) Q Q Q Q (Ob' fun r1 hr1 => (AOR.step (@LT.callF Try.prog _ _ 127 _ _ [(.c (xF encTBar a.Bars))] _ _ [] _ _ _ _ ((show Fw.Fn Try.prog 127 [(.c (xF encTBar a.Bars))] [] (Cc (lo 25 r1.length)) [(25,(pR 62 encTBar r1))] [] [25] from Fw.Fn.ren [(0,25)] (w_laws_toBarS a.Bars r1 hr1) Q)) Q cb127 (.cons (.c (.same Q)) .nil) Q Q J) z2 J Q Q (Op10 (LT.fieldPl Q fo26_1) Q Q Q (Os21 (LT.bstore (v := (.c (lo 25 r1.length))) (out := [(iC a.Points),(lo 25 r1.length)]) Q Q (infS inf24) sz24 (by exact Q) (by exact K Q) (by exact Q)) Q Q Q Q Q (On (Ws (Wr ?_))))))))))
 refine Op11 (LT.bloadN (out := [(iC a.Points),(lo 25 r1.length)]) Q ag26 (infS inf26) sz26 (by exact Q) (by exact Q)) Q Q Q Q (Os21 (LT.bstore (v := (.agg [(iC a.Points),(lo 25 r1.length)])) (out := [(iC a.Points),(lo 25 r1.length)]) Q Q (infS inf26) sz26 (by exact Q) (by exact K Q) (by exact Q)) Q Q Q Q Q (On (en [(2,(Cc (.pl 22 0)))] [(22,(.row 26 [[(iC a.Points),(lo 25 r1.length)]])),(25,(pR 62 encTBar r1))] z1 z2 (AWR.ent (Ent.mv 25 0 Q Q) (en [(2,(Cc (.pl 22 0)))] [(0,(pR 62 encTBar r1)),(22,(.row 26 [[(iC a.Points),(lo 0 r1.length)]]))] z1 z2 (AWR.ret (FPost.mk (.inr Q) ⟨⟨_,_,_,Q,Q,Q,ag26,sz26,_,(infS inf26)⟩,J⟩ z1 Q ⟨⟨PermP.sc,J,J⟩,J⟩ ⟨PermO.prow' perm_encTBar,J⟩)))))))
theorem w_laws_eqBar (a : TBar) (b : TBar) : ∀ t,m_laws_eqBar a b = some t → Fw.Fn Try.prog 213 [(.agg [(iC a.A),(iC a.B)]),(.agg [(iC b.A),(iC b.B)])] [] (.s (.c (bC t))) [] [] [] := by
 refine Fw.Fn.of (P := Try.prog) (X := []) (pn := []) (rs := (fun (t : Bool) => [(.c (bC t))])) (dfs := (fun (t : Bool) => [])) Try.func213 Q Try.ntmps213 (K Q) Q ?_
 intro w0 U0 R0 g0
 unfold m_laws_eqBar
 refine Ws (Wr ?_)
 refine Os10 (LT.box (n := 21) (v := (.agg [(iC a.A),(iC a.B)])) Q sz62 (by exact Q)) Q Q Q (Os10 (LT.box (n := 22) (v := (.agg [(iC b.A),(iC b.B)])) Q sz62 (by exact Q)) Q Q Q (asg (Bv false) Q y2 Q Q (On (Ws (Ws (Wr ?_))))))
 refine Op10 (LT.fieldPl Q fo62_0) Q Q Q (Op11 (LT.bload1 (c := (iC a.A)) Q ag3 (by exact Q)) Q Q Q Q (Op10 (LT.fieldPl Q fo62_0) Q Q Q (Op11 (LT.bload1 (c := (iC b.A)) Q ag3 (by exact Q)) Q Q Q Q (Op20 (LT.neq Q) Q Q Q Q (On (AWR.cond Q (fun hc1 => ?_) (fun hc1 => ?_)))))))
 ·refine Ws (en [] [] J J (Wr (asg (Bv false) Q y2 Q Q (On (AWR.ret (FPost.mk (.inr Q) z1 J Q ⟨PermP.sc,J⟩ J))))))
 ·refine AWR.skip (Ws (Ws ?_))
  refine en [(2,(Cc (.pl 21 0))),(3,(Cc (.pl 22 0)))] [(21,(.row 62 [[(iC a.A),(iC a.B)]])),(22,(.row 62 [[(iC b.A),(iC b.B)]]))] z2 z2 (Wr (Op10 (LT.fieldPl Q fo62_1) Q Q Q (Op11 (LT.bload1 (c := (iC a.B)) Q ag3 (by exact Q)) Q Q Q Q (Op10 (LT.fieldPl Q fo62_1) Q Q Q (Op11 (LT.bload1 (c := (iC b.B)) Q ag3 (by exact Q)) Q Q Q Q (Op20 (LT.neq Q) Q Q Q Q (On (AWR.cond Q (fun hc2 => ?_) (fun hc2 => ?_)))))))))
  ·refine Ws (Wr ?_)
   refine asg (Bv false) Q y2 Q Q (On (AWR.ret (FPost.mk (.inr Q) z1 J Q ⟨PermP.sc,J⟩ J)))
  ·refine AWR.skip (Ws (Wr ?_))
   refine asg (Bv true) Q y2 Q Q (On (AWR.ret (FPost.mk (.inr Q) z1 J Q ⟨PermP.sc,J⟩ J)))
theorem w_laws_eqBarS (a : (List TBar)) (b : (List TBar)) : ∀ t,m_laws_eqBarS a b = some t → Fw.Fn Try.prog 132 [(.c (xF encTBar a)),(.c (xF encTBar b))] [] (.s (.c (bC t))) [] [] [] := by
 refine Fw.Fn.of (P := Try.prog) (X := []) (pn := []) (rs := (fun (t : Bool) => [(.c (bC t))])) (dfs := (fun (t : Bool) => [])) Try.func132 Q Try.ntmps132 (K Q) Q ?_
 intro w0 U0 R0 g0
 unfold m_laws_eqBarS
 refine Ws (Wr ?_)
 refine asg (Bv false) Q y2 Q Q (On (Ws (Ws (Wr ?_))))
 refine mv (Cc (xF encTBar a)) Q Q Q Q (Op10 (LT.tlenRO Q und24) Q Q Q (mv (Cc (xF encTBar b)) Q Q Q Q (Op10 (LT.tlenRO Q und24) Q Q Q (Op20 (LT.neq Q) Q Q Q Q (On (AWR.cond Q (fun hc1 => ?_) (fun hc1 => ?_)))))))
 ·refine Ws (Wr ?_)
  refine asg (Bv false) Q y2 Q Q (On (AWR.ret (FPost.mk (.inr Q) z1 J Q ⟨PermP.sc,J⟩ J)))
 ·refine AWR.skip (Ws (Ws (Wr ?_)))
  refine asg (Iv 0) Q y2 Q Q (On (AWR.block ?_))
  refine AWR.loopR (id := 0) (m_laws_eqBarS_L1 a b) (fun s2 => ([(0,(Cc (xF encTBar a))),(1,(Cc (xF encTBar b))),(5,(Iv s2))],[])) (fun b13 => ([],[])) (FPost Try.prog Try.f132.results.toList [] [] (fun (t : Bool) => [(.c (bC t))]) (fun (t : Bool) => [])) ?_ (Ent.of z3 J) Q (fun b13 _ => ?_) (by intro r t σ m ht hk; injection ht with ht; subst ht; exact hk)
  ·intro s2
   unfold m_laws_eqBarS_L1
   refine Ws (Ws (Wr ?_))
   refine mv (Iv s2) Q Q Q Q (mv (Cc (xF encTBar a)) Q Q Q Q (Op10 (LT.tlenRO Q und24) Q Q Q (Op20 (LT.lss Q) Q Q Q Q (On (AWR.cond Q (fun hc14 => ?_) (fun hc14 => ?_))))))
   ·refine AWR.skip (Ws (AWR.block (Ws (AWR.draw mixed ?_))))
    refine Dp10 (LT.move (v := (Cc (xF encTBar a))) Q) Q Q Q (Dp10 (LT.move (v := (Iv s2)) Q) Q Q Q (AOD.bind fun x15 hx15 => (Dp20 (LT.tindexRO (enc := encTBar) Q el24 hx15 sz62) Q Q Q Q (Dp10 (LT.loadPxN Q ag62 (infS inf62) (by exact sz62.symm)) Q Q Q (Dp10 (LT.move (v := (Cc (xF encTBar b))) Q) Q Q Q (Dp10 (LT.move (v := (Iv s2)) Q) Q Q Q (AOD.bind fun x16 hx16 => (Dp20 (LT.tindexRO (enc := encTBar) Q el24 hx16 sz62) Q Q Q Q (Dp10 (LT.loadPxN Q ag62 (infS inf62) (by exact sz62.symm)) Q Q Q (AOD.bind fun r17 hr17 => (AOD.pure (@LT.callF Try.prog _ _ 213 _ _ [(.agg [(iC x15.A),(iC x15.B)]),(.agg [(iC x16.A),(iC x16.B)])] _ _ [] _ _ _ _ (w_laws_eqBar x15 x16 r17 hr17) Q cb213 (.cons (.agg (.cons (.same Q) (.cons (.same Q) .nil))) (.cons (.agg (.cons (.same Q) (.cons (.same Q) .nil))) .nil)) Q Q J) z3 J Q Q ?_)))))))))))
    refine Dp10 (LT.not Q) Q Q Q (AOD.nil (by kernel_rfl) (AWR.cond Q (fun hc18 => ?_) (fun hc18 => ?_)))
    ·refine Ws (en [] [] J J (Wr (asg (Bv false) Q y2 Q Q (On (AWR.ret ⟨Q,FPost.mk (.inr Q) z1 J Q ⟨PermP.sc,J⟩ J⟩)))))
    ·refine AWR.skip (AWR.blk ?_)
     refine en [(0,(Cc (xF encTBar a))),(1,(Cc (xF encTBar b))),(5,(Iv s2))] [] z3 J (Wr (mv (Iv s2) Q Q Q Q (Op20 (LT.add Q) Q y2 Q Q (asg (Iv (w64 (s2 + 1))) Q Q Q Q (On (AWR.nil ⟨Q,Ent.of z3 J⟩))))))
   ·refine AWR.exit_end Q ⟨Q,Ent.of J J⟩
  ·refine Ws (Wr ?_)
   refine asg (Bv true) Q y2 Q Q (On (AWR.ret (FPost.mk (.inr Q) z1 J Q ⟨PermP.sc,J⟩ J)))
theorem w_laws_eqGraph (a : TGraph) (b : TGraph) : ∀ t,m_laws_eqGraph a b = some t → Fw.Fn Try.prog 38 [(.agg [(iC a.Points),(xF encTBar a.Bars)]),(.agg [(iC b.Points),(xF encTBar b.Bars)])] [] (.s (.c (bC t))) [] [] [] := by
 refine Fw.Fn.of (P := Try.prog) (X := []) (pn := []) (rs := (fun (t : Bool) => [(.c (bC t))])) (dfs := (fun (t : Bool) => [])) Try.func38 Q Try.ntmps38 (K Q) Q ?_
 intro w0 U0 R0 g0
 unfold m_laws_eqGraph
 refine Ws (Wr ?_)
 refine Os10 (LT.box (n := 21) (v := (.agg [(iC a.Points),(xF encTBar a.Bars)])) Q sz26 (by exact Q)) Q Q Q (Os10 (LT.box (n := 22) (v := (.agg [(iC b.Points),(xF encTBar b.Bars)])) Q sz26 (by exact Q)) Q Q Q (asg (Bv false) Q y2 Q Q (On (Ws (Ws (Wr ?_))))))
 refine Op10 (LT.fieldPl Q fo26_0) Q Q Q (Op11 (LT.bload1 (c := (iC a.Points)) Q ag3 (by exact Q)) Q Q Q Q (Op10 (LT.fieldPl Q fo26_0) Q Q Q (Op11 (LT.bload1 (c := (iC b.Points)) Q ag3 (by exact Q)) Q Q Q Q (Op20 (LT.neq Q) Q Q Q Q (On (AWR.cond Q (fun hc1 => ?_) (fun hc1 => ?_)))))))
 ·refine Ws (en [] [] J J (Wr (asg (Bv false) Q y2 Q Q (On (AWR.ret (FPost.mk (.inr Q) z1 J Q ⟨PermP.sc,J⟩ J))))))
 ·refine AWR.skip (Ws (Ws ?_))
  refine en [(2,(Cc (.pl 21 0))),(3,(Cc (.pl 22 0)))] [(21,(.row 26 [[(iC a.Points),(xF encTBar a.Bars)]])),(22,(.row 26 [[(iC b.Points),(xF encTBar b.Bars)]]))] z2 z2 (Wr (Op10 (LT.fieldPl Q fo26_1) Q Q Q (Op11 (LT.bload1 (c := (xF encTBar a.Bars)) Q ag24 (by exact Q)) Q Q Q Q (Op10 (LT.fieldPl Q fo26_1) Q Q Q (Op11 (LT.bload1 (c := (xF encTBar b.Bars)) Q ag24 (by exact Q)) Q Q Q Q (Ob' fun r2 hr2 => (AOR.pure (@LT.callF Try.prog _ _ 132 _ _ [(.c (xF encTBar a.Bars)),(.c (xF encTBar b.Bars))] _ _ [] _ _ _ _ (w_laws_eqBarS a.Bars b.Bars r2 hr2) Q cb132 (.cons (.c (.same Q)) (.cons (.c (.same Q)) .nil)) Q Q J) z3 J Q Q (Op10 (LT.not Q) Q Q Q (On (AWR.cond Q (fun hc3 => ?_) (fun hc3 => ?_)))))))))))
  ·refine Ws (Wr ?_)
   refine asg (Bv false) Q y2 Q Q (On (AWR.ret (FPost.mk (.inr Q) z1 J Q ⟨PermP.sc,J⟩ J)))
  ·refine AWR.skip (Ws (Wr ?_))
   refine asg (Bv true) Q y2 Q Q (On (AWR.ret (FPost.mk (.inr Q) z1 J Q ⟨PermP.sc,J⟩ J)))
end Go.Proofs.Ytghofbijdnenoaa
end
section
set_option linter.unusedVariables false
set_option linter.unusedSimpArgs false
set_option linter.unnecessarySimpa false
set_option maxRecDepth 100000
set_option maxHeartbeats 8000000
open Go Go.Fw
namespace Go.Proofs.Ytghofbijdnenoaa
theorem w_laws_eqPlace (a : TPlace) (b : TPlace) : ∀ t,m_laws_eqPlace a b = some t → Fw.Fn Try.prog 212 [(.agg [(iC a.X),(iC a.Y)]),(.agg [(iC b.X),(iC b.Y)])] [] (.s (.c (bC t))) [] [] [] := by
 refine Fw.Fn.of (P := Try.prog) (X := []) (pn := []) (rs := (fun (t : Bool) => [(.c (bC t))])) (dfs := (fun (t : Bool) => [])) Try.func212 Q Try.ntmps212 (K Q) Q ?_
 intro w0 U0 R0 g0
 unfold m_laws_eqPlace
 refine Ws (Wr ?_)
 refine Os10 (LT.box (n := 21) (v := (.agg [(iC a.X),(iC a.Y)])) Q sz94 (by exact Q)) Q Q Q (Os10 (LT.box (n := 22) (v := (.agg [(iC b.X),(iC b.Y)])) Q sz94 (by exact Q)) Q Q Q (asg (Bv false) Q y2 Q Q (On (Ws (Ws (Wr ?_))))))
 refine Op10 (LT.fieldPl Q fo94_0) Q Q Q (Op11 (LT.bload1 (c := (iC a.X)) Q ag3 (by exact Q)) Q Q Q Q (Op10 (LT.fieldPl Q fo94_0) Q Q Q (Op11 (LT.bload1 (c := (iC b.X)) Q ag3 (by exact Q)) Q Q Q Q (Op20 (LT.neq Q) Q Q Q Q (On (AWR.cond Q (fun hc1 => ?_) (fun hc1 => ?_)))))))
 ·refine Ws (en [] [] J J (Wr (asg (Bv false) Q y2 Q Q (On (AWR.ret (FPost.mk (.inr Q) z1 J Q ⟨PermP.sc,J⟩ J))))))
 ·refine AWR.skip (Ws (Ws ?_))
  refine en [(2,(Cc (.pl 21 0))),(3,(Cc (.pl 22 0)))] [(21,(.row 94 [[(iC a.X),(iC a.Y)]])),(22,(.row 94 [[(iC b.X),(iC b.Y)]]))] z2 z2 (Wr (Op10 (LT.fieldPl Q fo94_1) Q Q Q (Op11 (LT.bload1 (c := (iC a.Y)) Q ag3 (by exact Q)) Q Q Q Q (Op10 (LT.fieldPl Q fo94_1) Q Q Q (Op11 (LT.bload1 (c := (iC b.Y)) Q ag3 (by exact Q)) Q Q Q Q (Op20 (LT.neq Q) Q Q Q Q (On (AWR.cond Q (fun hc2 => ?_) (fun hc2 => ?_)))))))))
  ·refine Ws (Wr ?_)
   refine asg (Bv false) Q y2 Q Q (On (AWR.ret (FPost.mk (.inr Q) z1 J Q ⟨PermP.sc,J⟩ J)))
  ·refine AWR.skip (Ws (Wr ?_))
   refine asg (Bv true) Q y2 Q Q (On (AWR.ret (FPost.mk (.inr Q) z1 J Q ⟨PermP.sc,J⟩ J)))
theorem w_laws_eqPlaceS (a : (List TPlace)) (b : (List TPlace)) : ∀ t,m_laws_eqPlaceS a b = some t → Fw.Fn Try.prog 131 [(.c (xF encTPlace a)),(.c (xF encTPlace b))] [] (.s (.c (bC t))) [] [] [] := by
 refine Fw.Fn.of (P := Try.prog) (X := []) (pn := []) (rs := (fun (t : Bool) => [(.c (bC t))])) (dfs := (fun (t : Bool) => [])) Try.func131 Q Try.ntmps131 (K Q) Q ?_
 intro w0 U0 R0 g0
 unfold m_laws_eqPlaceS
 refine Ws (Wr ?_)
 refine asg (Bv false) Q y2 Q Q (On (Ws (Ws (Wr ?_))))
 refine mv (Cc (xF encTPlace a)) Q Q Q Q (Op10 (LT.tlenRO Q und27) Q Q Q (mv (Cc (xF encTPlace b)) Q Q Q Q (Op10 (LT.tlenRO Q und27) Q Q Q (Op20 (LT.neq Q) Q Q Q Q (On (AWR.cond Q (fun hc1 => ?_) (fun hc1 => ?_)))))))
 ·refine Ws (Wr ?_)
  refine asg (Bv false) Q y2 Q Q (On (AWR.ret (FPost.mk (.inr Q) z1 J Q ⟨PermP.sc,J⟩ J)))
 ·refine AWR.skip (Ws (Ws (Wr ?_)))
  refine asg (Iv 0) Q y2 Q Q (On (AWR.block ?_))
  refine AWR.loopR (id := 0) (m_laws_eqPlaceS_L1 a b) (fun s2 => ([(0,(Cc (xF encTPlace a))),(1,(Cc (xF encTPlace b))),(5,(Iv s2))],[])) (fun b13 => ([],[])) (FPost Try.prog Try.f131.results.toList [] [] (fun (t : Bool) => [(.c (bC t))]) (fun (t : Bool) => [])) ?_ (Ent.of z3 J) Q (fun b13 _ => ?_) (by intro r t σ m ht hk; injection ht with ht; subst ht; exact hk)
  ·intro s2
   unfold m_laws_eqPlaceS_L1
   refine Ws (Ws (Wr ?_))
   refine mv (Iv s2) Q Q Q Q (mv (Cc (xF encTPlace a)) Q Q Q Q (Op10 (LT.tlenRO Q und27) Q Q Q (Op20 (LT.lss Q) Q Q Q Q (On (AWR.cond Q (fun hc14 => ?_) (fun hc14 => ?_))))))
   ·refine AWR.skip (Ws (AWR.block (Ws (AWR.draw mixed ?_))))
    refine Dp10 (LT.move (v := (Cc (xF encTPlace a))) Q) Q Q Q (Dp10 (LT.move (v := (Iv s2)) Q) Q Q Q (AOD.bind fun x15 hx15 => (Dp20 (LT.tindexRO (enc := encTPlace) Q el27 hx15 sz94) Q Q Q Q (Dp10 (LT.loadPxN Q ag94 (infS inf94) (by exact sz94.symm)) Q Q Q (Dp10 (LT.move (v := (Cc (xF encTPlace b))) Q) Q Q Q (Dp10 (LT.move (v := (Iv s2)) Q) Q Q Q (AOD.bind fun x16 hx16 => (Dp20 (LT.tindexRO (enc := encTPlace) Q el27 hx16 sz94) Q Q Q Q (Dp10 (LT.loadPxN Q ag94 (infS inf94) (by exact sz94.symm)) Q Q Q (AOD.bind fun r17 hr17 => (AOD.pure (@LT.callF Try.prog _ _ 212 _ _ [(.agg [(iC x15.X),(iC x15.Y)]),(.agg [(iC x16.X),(iC x16.Y)])] _ _ [] _ _ _ _ (w_laws_eqPlace x15 x16 r17 hr17) Q cb212 (.cons (.agg (.cons (.same Q) (.cons (.same Q) .nil))) (.cons (.agg (.cons (.same Q) (.cons (.same Q) .nil))) .nil)) Q Q J) z3 J Q Q ?_)))))))))))
    refine Dp10 (LT.not Q) Q Q Q (AOD.nil (by kernel_rfl) (AWR.cond Q (fun hc18 => ?_) (fun hc18 => ?_)))
    ·refine Ws (en [] [] J J (Wr (asg (Bv false) Q y2 Q Q (On (AWR.ret ⟨Q,FPost.mk (.inr Q) z1 J Q ⟨PermP.sc,J⟩ J⟩)))))
    ·refine AWR.skip (AWR.blk ?_)
     refine en [(0,(Cc (xF encTPlace a))),(1,(Cc (xF encTPlace b))),(5,(Iv s2))] [] z3 J (Wr (mv (Iv s2) Q Q Q Q (Op20 (LT.add Q) Q y2 Q Q (asg (Iv (w64 (s2 + 1))) Q Q Q Q (On (AWR.nil ⟨Q,Ent.of z3 J⟩))))))
   ·refine AWR.exit_end Q ⟨Q,Ent.of J J⟩
  ·refine Ws (Wr ?_)
   refine asg (Bv true) Q y2 Q Q (On (AWR.ret (FPost.mk (.inr Q) z1 J Q ⟨PermP.sc,J⟩ J)))
theorem w_laws_eqFramework (a : TFramework) (b : TFramework) : ∀ t,m_laws_eqFramework a b = some t → Fw.Fn Try.prog 37 [(.agg [(iC a.Graph.Points),(xF encTBar a.Graph.Bars),(xF encTPlace a.Places)]),(.agg [(iC b.Graph.Points),(xF encTBar b.Graph.Bars),(xF encTPlace b.Places)])] [] (.s (.c (bC t))) [] [] [] := by
 refine Fw.Fn.of (P := Try.prog) (X := []) (pn := []) (rs := (fun (t : Bool) => [(.c (bC t))])) (dfs := (fun (t : Bool) => [])) Try.func37 Q Try.ntmps37 (K Q) Q ?_
 intro w0 U0 R0 g0
 unfold m_laws_eqFramework
 refine Ws (Wr ?_)
 refine Os10 (LT.box (n := 21) (v := (.agg [(iC a.Graph.Points),(xF encTBar a.Graph.Bars),(xF encTPlace a.Places)])) Q sz29 (by exact Q)) Q Q Q (Os10 (LT.box (n := 22) (v := (.agg [(iC b.Graph.Points),(xF encTBar b.Graph.Bars),(xF encTPlace b.Places)])) Q sz29 (by exact Q)) Q Q Q (asg (Bv false) Q y2 Q Q (On (Ws (Ws (Wr ?_))))))
 refine Op10 (LT.fieldPl Q fo29_0) Q Q Q (Op11 (LT.bloadN (out := [(iC a.Graph.Points),(xF encTBar a.Graph.Bars)]) Q ag26 (infS inf26) sz26 (by exact Q) (by exact Q)) Q Q Q Q (Op10 (LT.fieldPl Q fo29_0) Q Q Q (Op11 (LT.bloadN (out := [(iC b.Graph.Points),(xF encTBar b.Graph.Bars)]) Q ag26 (infS inf26) sz26 (by exact Q) (by exact Q)) Q Q Q Q (Ob' fun r1 hr1 => (AOR.pure (@LT.callF Try.prog _ _ 38 _ _ [(.agg [(iC a.Graph.Points),(xF encTBar a.Graph.Bars)]),(.agg [(iC b.Graph.Points),(xF encTBar b.Graph.Bars)])] _ _ [] _ _ _ _ (w_laws_eqGraph a.Graph b.Graph r1 hr1) Q cb38 (.cons (.agg (.cons (.same Q) (.cons (.same Q) .nil))) (.cons (.agg (.cons (.same Q) (.cons (.same Q) .nil))) .nil)) Q Q J) z3 J Q Q (Op10 (LT.not Q) Q Q Q (On (AWR.cond Q (fun hc2 => ?_) (fun hc2 => ?_)))))))))
 ·refine Ws (en [] [] J J (Wr (asg (Bv false) Q y2 Q Q (On (AWR.ret (FPost.mk (.inr Q) z1 J Q ⟨PermP.sc,J⟩ J))))))
 ·refine AWR.skip (Ws (Ws ?_))
  refine en [(2,(Cc (.pl 21 0))),(3,(Cc (.pl 22 0)))] [(21,(.row 29 [[(iC a.Graph.Points),(xF encTBar a.Graph.Bars),(xF encTPlace a.Places)]])),(22,(.row 29 [[(iC b.Graph.Points),(xF encTBar b.Graph.Bars),(xF encTPlace b.Places)]]))] z2 z2 (Wr (Op10 (LT.fieldPl Q fo29_1) Q Q Q (Op11 (LT.bload1 (c := (xF encTPlace a.Places)) Q ag27 (by exact Q)) Q Q Q Q (Op10 (LT.fieldPl Q fo29_1) Q Q Q (Op11 (LT.bload1 (c := (xF encTPlace b.Places)) Q ag27 (by exact Q)) Q Q Q Q (Ob' fun r3 hr3 => (AOR.pure (@LT.callF Try.prog _ _ 131 _ _ [(.c (xF encTPlace a.Places)),(.c (xF encTPlace b.Places))] _ _ [] _ _ _ _ (w_laws_eqPlaceS a.Places b.Places r3 hr3) Q cb131 (.cons (.c (.same Q)) (.cons (.c (.same Q)) .nil)) Q Q J) z3 J Q Q (Op10 (LT.not Q) Q Q Q (On (AWR.cond Q (fun hc4 => ?_) (fun hc4 => ?_)))))))))))
  ·refine Ws (Wr ?_)
   refine asg (Bv false) Q y2 Q Q (On (AWR.ret (FPost.mk (.inr Q) z1 J Q ⟨PermP.sc,J⟩ J)))
  ·refine AWR.skip (Ws (Wr ?_))
   refine asg (Bv true) Q y2 Q Q (On (AWR.ret (FPost.mk (.inr Q) z1 J Q ⟨PermP.sc,J⟩ J)))
theorem w_laws_markBarS (a : (List TBar)) (k : Int) : ∀ t,m_laws_markBarS a k = some t → Fw.Fn Try.prog 133 [(.c (lo 0 a.length)),(.c (iC k))] [(0,(pR 62 encTBar a))] (.s (.c (iC t.1))) [(0,(pR 62 encTBar t.2))] [0] [] := by
 refine Fw.Fn.of (P := Try.prog) (X := []) (pn := [0]) (rs := (fun (t : (Int × (List TBar))) => [(.c (iC t.1))])) (dfs := (fun (t : (Int × (List TBar))) => [(0,(pR 62 encTBar t.2))])) Try.func133 Q Try.ntmps133 (K Q) Q ?_
 intro w0 U0 R0 g0
 unfold m_laws_markBarS
 refine Ws (Wr ?_)
 refine asg (Iv 0) Q y2 Q Q (On (Ws (Ws (Wr ?_))))
 refine asg (Iv 0) Q y2 Q Q (On (AWR.block ?_))
 refine AWR.loop1 (id := 0) (m_laws_markBarS_L1) (fun s1 => ([(0,(Cc (lo 0 s1.2.2.length))),(1,(Iv s1.1)),(5,(Iv s1.2.1))],[(0,(pR 62 encTBar s1.2.2))])) (fun b8 => ([(1,(Iv b8.1))],[(0,(pR 62 encTBar b8.2))])) ?_ (Ent.of z3 z1) Q (fun b8 _ => ?_)
 ·intro s1
  unfold m_laws_markBarS_L1
  refine Ws (Ws (Wr ?_))
  refine mv (Iv s1.2.1) Q Q Q Q (mv (Cc (lo 0 s1.2.2.length)) Q Q Q Q (Op10 (LT.lenLoc Q und24) Q Q Q (Op20 (LT.lss Q) Q Q Q Q (On (AWR.cond Q (fun hc9 => ?_) (fun hc9 => ?_))))))
  ·refine AWR.skip (Ws (AWR.block (Ws (Wr ?_))))
   refine mv (Cc (lo 0 s1.2.2.length)) Q Q Q Q (mv (Iv s1.2.1) Q Q Q Q (mv (Iv s1.1) Q Q Q Q (Ob' fun x10 hx10 => (Op21 (LT.tindexLoc Q Q el24 hx10) Q Q Q Q Q (Op10 (LT.fieldPl Q fo62_0) Q Q Q (Os21 (LT.tstore (k := 0) (v := (.c (iC s1.1))) (b' := (TBar.mk s1.1 x10.B)) Q Q (infS inf3) sz3 (by exact Q) hx10 (by exact Q) (by exact K Q) (by exact Q)) Q Q Q Q Q (On (Ws ?_))))))))
   refine en [(0,(Cc (lo 0 s1.2.2.length))),(1,(Iv s1.1)),(5,(Iv s1.2.1))] [(0,(pR 62 encTBar (s1.2.2.set s1.2.1.toNat (TBar.mk s1.1 x10.B))))] z3 z1 (Wr (mv (Iv s1.1) Q Q Q Q (Op20 (LT.add Q) Q y2 Q Q (asg (Iv (w64 (s1.1 + 1))) Q Q Q Q (On (Ws (Wr ?_)))))))
   refine mv (Cc (lo 0 s1.2.2.length)) Q Q Q Q (mv (Iv s1.2.1) Q Q Q Q (mv (Iv (w64 (s1.1 + 1))) Q Q Q Q (Ob' fun x11 hx11 => (Op21 (LT.tindexLoc (show s1.2.2.length = (s1.2.2.set s1.2.1.toNat (TBar.mk s1.1 x10.B)).length by simp only [List.length_set]) Q el24 hx11) Q Q Q Q Q (Op10 (LT.fieldPl Q fo62_1) Q Q Q (Os21 (LT.tstore (k := 1) (v := (.c (iC (w64 (s1.1 + 1))))) (b' := (TBar.mk x11.A (w64 (s1.1 + 1)))) Q Q (infS inf3) sz3 (by exact Q) hx11 (by exact Q) (by exact K Q) (by exact Q)) Q Q Q Q Q (On (en [(0,(Cc (lo 0 s1.2.2.length))),(1,(Iv (w64 (s1.1 + 1)))),(5,(Iv s1.2.1))] [(0,(pR 62 encTBar ((s1.2.2.set s1.2.1.toNat (TBar.mk s1.1 x10.B)).set s1.2.1.toNat (TBar.mk x11.A (w64 (s1.1 + 1))))))] z3 z1 (Wr (mv (Iv (w64 (s1.1 + 1))) Q Q Q Q (Op20 (LT.add Q) Q y2 Q Q ?_)))))))))))
   refine asg (Iv (w64 ((w64 (s1.1 + 1)) + 1))) Q Q Q Q (On (AWR.blk (Wr ?_)))
   refine mv (Iv s1.2.1) Q Q Q Q (Op20 (LT.add Q) Q y2 Q Q (asg (Iv (w64 (s1.2.1 + 1))) Q Q Q Q (On (AWR.nil ⟨Q,Ent.of ⟨(congrArg (fun l1 => (some (AV.s (.c (lo 0 l1))) : Option AV)) (show s1.2.2.length = ((s1.2.2.set s1.2.1.toNat (TBar.mk s1.1 x10.B)).set s1.2.1.toNat (TBar.mk x11.A (w64 (s1.1 + 1)))).length by simp only [List.length_set])),Q,Q,J⟩ z1⟩))))
  ·refine AWR.exit_end Q ⟨Q,Ent.of z1 z1⟩
 ·refine Ws (Wr ?_)
  refine mv (Iv b8.1) Q Q Q Q (asg (Iv b8.1) Q Q Q Q (On (AWR.ret (FPost.mk (.inr Q) z1 z1 Q ⟨PermP.sc,J⟩ ⟨PermO.prow' perm_encTBar,J⟩))))
theorem w_laws_markGraph (a : TGraph) (k : Int) : ∀ t,m_laws_markGraph a k = some t → Fw.Fn Try.prog 39 [(.agg [(iC a.Points),(lo 0 a.Bars.length)]),(.c (iC k))] [(0,(pR 62 encTBar a.Bars))] (.s (.c (iC t.1))) [(0,(pR 62 encTBar t.2))] [0] [] := by
 refine Fw.Fn.of (P := Try.prog) (X := []) (pn := [0]) (rs := (fun (t : (Int × (List TBar))) => [(.c (iC t.1))])) (dfs := (fun (t : (Int × (List TBar))) => [(0,(pR 62 encTBar t.2))])) Try.func39 Q Try.ntmps39 (K Q) Q ?_
 intro w0 U0 R0 g0
 unfold m_laws_markGraph
 refine Ws (Wr ?_)
 refine Os10 (LT.box (n := 21) (v := (.agg [(iC a.Points),(lo 0 a.Bars.length)])) Q sz26 (by exact Q)) Q Q Q (asg (Iv 0) Q y2 Q Q (On (Ws (Wr ?_))))
 refine Op10 (LT.fieldPl Q fo26_1) Q Q Q (Op11 (LT.bload1 (c := (lo 0 a.Bars.length)) Q ag24 (by exact Q)) Q Q Q Q (mv (Iv k) Q Q Q Q (Ob' fun r1 hr1 => (AOR.step (@LT.callF Try.prog _ _ 133 _ _ [(.c (lo 0 a.Bars.length)),(.c (iC k))] _ _ [] _ _ _ _ ((show Fw.Fn Try.prog 133 [(.c (lo 0 a.Bars.length)),(.c (iC k))] [(0,(pR 62 encTBar a.Bars))] (Iv r1.1) [(0,(pR 62 encTBar r1.2))] [0] [] from Fw.Fn.ren [(0,0)] (w_laws_markBarS a.Bars k r1 hr1) Q)) Q cb133 (.cons (.c (.same Q)) (.cons (.c (.same Q)) .nil)) Q Q z1) z3 z1 Q Q (asg (Iv r1.1) Q Q Q Q (On (Ws ?_)))))))
 refine en [(1,(Iv r1.1))] [(0,(pR 62 encTBar r1.2))] z1 z1 (Wr (mv (Iv r1.1) Q Q Q Q (asg (Iv r1.1) Q Q Q Q (On (AWR.ret (FPost.mk (.inr Q) z1 z1 Q ⟨PermP.sc,J⟩ ⟨PermO.prow' perm_encTBar,J⟩))))))
theorem w_laws_markPlaceS (a : (List TPlace)) (k : Int) : ∀ t,m_laws_markPlaceS a k = some t → Fw.Fn Try.prog 134 [(.c (lo 0 a.length)),(.c (iC k))] [(0,(pR 94 encTPlace a))] (.s (.c (iC t.1))) [(0,(pR 94 encTPlace t.2))] [0] [] := by
 refine Fw.Fn.of (P := Try.prog) (X := []) (pn := [0]) (rs := (fun (t : (Int × (List TPlace))) => [(.c (iC t.1))])) (dfs := (fun (t : (Int × (List TPlace))) => [(0,(pR 94 encTPlace t.2))])) Try.func134 Q Try.ntmps134 (K Q) Q ?_
 intro w0 U0 R0 g0
 unfold m_laws_markPlaceS
 refine Ws (Wr ?_)
 refine asg (Iv 0) Q y2 Q Q (On (Ws (Ws (Wr ?_))))
 refine asg (Iv 0) Q y2 Q Q (On (AWR.block ?_))
 refine AWR.loop1 (id := 0) (m_laws_markPlaceS_L1) (fun s1 => ([(0,(Cc (lo 0 s1.2.2.length))),(1,(Iv s1.1)),(5,(Iv s1.2.1))],[(0,(pR 94 encTPlace s1.2.2))])) (fun b8 => ([(1,(Iv b8.1))],[(0,(pR 94 encTPlace b8.2))])) ?_ (Ent.of z3 z1) Q (fun b8 _ => ?_)
 ·intro s1
  unfold m_laws_markPlaceS_L1
  refine Ws (Ws (Wr ?_))
  refine mv (Iv s1.2.1) Q Q Q Q (mv (Cc (lo 0 s1.2.2.length)) Q Q Q Q (Op10 (LT.lenLoc Q und27) Q Q Q (Op20 (LT.lss Q) Q Q Q Q (On (AWR.cond Q (fun hc9 => ?_) (fun hc9 => ?_))))))
  ·refine AWR.skip (Ws (AWR.block (Ws (Wr ?_))))
   refine mv (Cc (lo 0 s1.2.2.length)) Q Q Q Q (mv (Iv s1.2.1) Q Q Q Q (mv (Iv s1.1) Q Q Q Q (Ob' fun x10 hx10 => (Op21 (LT.tindexLoc Q Q el27 hx10) Q Q Q Q Q (Op10 (LT.fieldPl Q fo94_0) Q Q Q (Os21 (LT.tstore (k := 0) (v := (.c (iC s1.1))) (b' := (TPlace.mk s1.1 x10.Y)) Q Q (infS inf3) sz3 (by exact Q) hx10 (by exact Q) (by exact K Q) (by exact Q)) Q Q Q Q Q (On (Ws ?_))))))))
   refine en [(0,(Cc (lo 0 s1.2.2.length))),(1,(Iv s1.1)),(5,(Iv s1.2.1))] [(0,(pR 94 encTPlace (s1.2.2.set s1.2.1.toNat (TPlace.mk s1.1 x10.Y))))] z3 z1 (Wr (mv (Iv s1.1) Q Q Q Q (Op20 (LT.add Q) Q y2 Q Q (asg (Iv (w64 (s1.1 + 1))) Q Q Q Q (On (Ws (Wr ?_)))))))
   refine mv (Cc (lo 0 s1.2.2.length)) Q Q Q Q (mv (Iv s1.2.1) Q Q Q Q (mv (Iv (w64 (s1.1 + 1))) Q Q Q Q (Ob' fun x11 hx11 => (Op21 (LT.tindexLoc (show s1.2.2.length = (s1.2.2.set s1.2.1.toNat (TPlace.mk s1.1 x10.Y)).length by simp only [List.length_set]) Q el27 hx11) Q Q Q Q Q (Op10 (LT.fieldPl Q fo94_1) Q Q Q (Os21 (LT.tstore (k := 1) (v := (.c (iC (w64 (s1.1 + 1))))) (b' := (TPlace.mk x11.X (w64 (s1.1 + 1)))) Q Q (infS inf3) sz3 (by exact Q) hx11 (by exact Q) (by exact K Q) (by exact Q)) Q Q Q Q Q (On (en [(0,(Cc (lo 0 s1.2.2.length))),(1,(Iv (w64 (s1.1 + 1)))),(5,(Iv s1.2.1))] [(0,(pR 94 encTPlace ((s1.2.2.set s1.2.1.toNat (TPlace.mk s1.1 x10.Y)).set s1.2.1.toNat (TPlace.mk x11.X (w64 (s1.1 + 1))))))] z3 z1 (Wr (mv (Iv (w64 (s1.1 + 1))) Q Q Q Q (Op20 (LT.add Q) Q y2 Q Q ?_)))))))))))
   refine asg (Iv (w64 ((w64 (s1.1 + 1)) + 1))) Q Q Q Q (On (AWR.blk (Wr ?_)))
   refine mv (Iv s1.2.1) Q Q Q Q (Op20 (LT.add Q) Q y2 Q Q (asg (Iv (w64 (s1.2.1 + 1))) Q Q Q Q (On (AWR.nil ⟨Q,Ent.of ⟨(congrArg (fun l1 => (some (AV.s (.c (lo 0 l1))) : Option AV)) (show s1.2.2.length = ((s1.2.2.set s1.2.1.toNat (TPlace.mk s1.1 x10.Y)).set s1.2.1.toNat (TPlace.mk x11.X (w64 (s1.1 + 1)))).length by simp only [List.length_set])),Q,Q,J⟩ z1⟩))))
  ·refine AWR.exit_end Q ⟨Q,Ent.of z1 z1⟩
 ·refine Ws (Wr ?_)
  refine mv (Iv b8.1) Q Q Q Q (asg (Iv b8.1) Q Q Q Q (On (AWR.ret (FPost.mk (.inr Q) z1 z1 Q ⟨PermP.sc,J⟩ ⟨PermO.prow' perm_encTPlace,J⟩))))
theorem w_laws_markFramework (a : TFramework) (k : Int) : ∀ t,m_laws_markFramework a k = some t → Fw.Fn Try.prog 40 [(.agg [(iC a.Graph.Points),(lo 0 a.Graph.Bars.length),(lo 1 a.Places.length)]),(.c (iC k))] [(0,(pR 62 encTBar a.Graph.Bars)),(1,(pR 94 encTPlace a.Places))] (.s (.c (iC t.1))) [(0,(pR 62 encTBar t.2.1)),(1,(pR 94 encTPlace t.2.2))] [0,1] [] := by
 refine Fw.Fn.of (P := Try.prog) (X := []) (pn := [0,1]) (rs := (fun (t : (Int × (List TBar) × (List TPlace))) => [(.c (iC t.1))])) (dfs := (fun (t : (Int × (List TBar) × (List TPlace))) => [(0,(pR 62 encTBar t.2.1)),(1,(pR 94 encTPlace t.2.2))])) Try.func40 Q Try.ntmps40 (K Q) Q ?_
 intro w0 U0 R0 g0
 unfold m_laws_markFramework
 refine Ws (Wr ?_)
 refine Os10 (LT.box (n := 21) (v := (.agg [(iC a.Graph.Points),(lo 0 a.Graph.Bars.length),(lo 1 a.Places.length)])) Q sz29 (by exact Q)) Q Q Q (asg (Iv 0) Q y2 Q Q (On (Ws (Wr ?_))))
 refine Op10 (LT.fieldPl Q fo29_0) Q Q Q (Op11 (LT.bloadN (out := [(iC a.Graph.Points),(lo 0 a.Graph.Bars.length)]) Q ag26 (infS inf26) sz26 (by exact Q) (by exact Q)) Q Q Q Q (mv (Iv k) Q Q Q Q (Ob' fun r1 hr1 => (AOR.step (@LT.callF Try.prog _ _ 39 _ _ [(.agg [(iC a.Graph.Points),(lo 0 a.Graph.Bars.length)]),(.c (iC k))] _ _ [] _ _ _ _ ((show Fw.Fn Try.prog 39 [(.agg [(iC a.Graph.Points),(lo 0 a.Graph.Bars.length)]),(.c (iC k))] [(0,(pR 62 encTBar a.Graph.Bars))] (Iv r1.1) [(0,(pR 62 encTBar r1.2))] [0] [] from Fw.Fn.ren [(0,0)] (w_laws_markGraph a.Graph k r1 hr1) Q)) Q cb39 (.cons (.agg (.cons (.same Q) (.cons (.same Q) .nil))) (.cons (.c (.same Q)) .nil)) Q Q z1) z3 z1 Q Q (asg (Iv r1.1) Q Q Q Q (On (Ws ?_)))))))
 refine en [(1,(Iv r1.1)),(2,(Cc (.pl 21 0)))] [(0,(pR 62 encTBar r1.2)),(1,(pR 94 encTPlace a.Places)),(21,(.row 29 [[(iC a.Graph.Points),(lo 0 a.Graph.Bars.length),(lo 1 a.Places.length)]]))] z2 z3 (Wr (Op10 (LT.fieldPl Q fo29_1) Q Q Q (Op11 (LT.bload1 (c := (lo 1 a.Places.length)) Q ag27 (by exact Q)) Q Q Q Q (mv (Iv r1.1) Q Q Q Q (Ob' fun r2 hr2 => (AOR.step (@LT.callF Try.prog _ _ 134 _ _ [(.c (lo 1 a.Places.length)),(.c (iC r1.1))] _ _ [] _ _ _ _ ((show Fw.Fn Try.prog 134 [(.c (lo 1 a.Places.length)),(.c (iC r1.1))] [(1,(pR 94 encTPlace a.Places))] (Iv r2.1) [(1,(pR 94 encTPlace r2.2))] [1] [] from Fw.Fn.ren [(0,1)] (w_laws_markPlaceS a.Places r1.1 r2 hr2) Q)) Q cb134 (.cons (.c (.same Q)) (.cons (.c (.same Q)) .nil)) Q Q z1) z3 z1 Q Q (asg (Iv r2.1) Q Q Q Q (On (Ws (Wr ?_))))))))))
 refine mv (Iv r2.1) Q Q Q Q (asg (Iv r2.1) Q Q Q Q (On (AWR.ret (FPost.mk (.inr Q) z1 z2 Q ⟨PermP.sc,J⟩ ⟨PermO.prow' perm_encTBar,PermO.prow' perm_encTPlace,J⟩))))
end Go.Proofs.Ytghofbijdnenoaa
end
section
set_option linter.unusedVariables false
set_option linter.unusedSimpArgs false
set_option linter.unnecessarySimpa false
set_option maxRecDepth 100000
set_option maxHeartbeats 8000000
open Go Go.Fw
namespace Go.Proofs.Ytghofbijdnenoaa
theorem w_impl_Bar_other (x : TBar) (v : Int) : ∀ t,m_impl_Bar_other x v = some t → Fw.Fn Try.prog 120 [(.agg [(iC x.A),(iC x.B)]),(.c (iC v))] [] (.s (.c (iC t))) [] [] [] := by
 refine Fw.Fn.of (P := Try.prog) (X := []) (pn := []) (rs := (fun (t : Int) => [(.c (iC t))])) (dfs := (fun (t : Int) => [])) Try.func120 Q Try.ntmps120 (K Q) Q ?_
 intro w0 U0 R0 g0
 unfold m_impl_Bar_other
 refine Ws (Wr ?_)
 refine Os10 (LT.box (n := 21) (v := (.agg [(iC x.A),(iC x.B)])) Q sz62 (by exact Q)) Q Q Q (asg (Iv 0) Q y2 Q Q (On (Ws (Ws (Wr ?_)))))
 refine Op10 (LT.fieldPl Q fo62_0) Q Q Q (Op11 (LT.bload1 (c := (iC x.A)) Q ag3 (by exact Q)) Q Q Q Q (mv (Iv v) Q Q Q Q (Op20 (LT.eql Q) Q Q Q Q (On (AWR.cond Q (fun hc1 => ?_) (fun hc1 => ?_))))))
 ·refine Ws (Wr ?_)
  refine Op10 (LT.fieldPl Q fo62_1) Q Q Q (Op11 (LT.bload1 (c := (iC x.B)) Q ag3 (by exact Q)) Q Q Q Q (asg (Iv x.B) Q Q Q Q (On (AWR.ret (FPost.mk (.inr Q) z1 J Q ⟨PermP.sc,J⟩ J)))))
 ·refine AWR.skip (Ws (Wr ?_))
  refine Op10 (LT.fieldPl Q fo62_0) Q Q Q (Op11 (LT.bload1 (c := (iC x.A)) Q ag3 (by exact Q)) Q Q Q Q (asg (Iv x.A) Q Q Q Q (On (AWR.ret (FPost.mk (.inr Q) z1 J Q ⟨PermP.sc,J⟩ J)))))
theorem w_spec_l4Other (b : TBar) (v : Int) : ∀ t,m_spec_l4Other b v = some t → Fw.Fn Try.prog 123 [(.agg [(iC b.A),(iC b.B)]),(.c (iC v))] [] (.s (.c (iC t))) [] [] [] := by
 refine Fw.Fn.of (P := Try.prog) (X := []) (pn := []) (rs := (fun (t : Int) => [(.c (iC t))])) (dfs := (fun (t : Int) => [])) Try.func123 Q Try.ntmps123 (K Q) Q ?_
 intro w0 U0 R0 g0
 unfold m_spec_l4Other
 refine Ws (Wr ?_)
 refine Os10 (LT.box (n := 21) (v := (.agg [(iC b.A),(iC b.B)])) Q sz62 (by exact Q)) Q Q Q (asg (Iv 0) Q y2 Q Q (On (Ws (Wr ?_))))
 refine Op10 (LT.fieldPl Q fo62_0) Q Q Q (Op11 (LT.bload1 (c := (iC b.A)) Q ag3 (by exact Q)) Q Q Q Q (Op10 (LT.fieldPl Q fo62_1) Q Q Q (Op11 (LT.bload1 (c := (iC b.B)) Q ag3 (by exact Q)) Q Q Q Q (Op20 (LT.add Q) Q Q Q Q (mv (Iv v) Q Q Q Q (Op20 (LT.sub Q) Q Q Q Q (asg (Iv (w64 ((w64 (b.A + b.B)) - v))) Q Q Q Q (On (AWR.ret (FPost.mk (.inr Q) z1 J Q ⟨PermP.sc,J⟩ J))))))))))
end Go.Proofs.Ytghofbijdnenoaa
end
