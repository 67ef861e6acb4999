/- Parts of a proof that a law of the program holds: what the program computes, and why that is right. -/
import Derived.Test.YteognanhfpbghaaRows
import Derived.ProofKit
import Derived.OpenShut
import Derived.JoinedCond
import Derived.Carry
import Derived.Deep.Slices
import Derived.ChangeSame
import Derived.Test.YteognanhfpbghaaZEBodyTrees4
section
set_option linter.unusedVariables false
set_option linter.unusedSimpArgs false
set_option linter.unnecessarySimpa false
set_option maxRecDepth 100000
set_option maxHeartbeats 8000000
open Go Go.Fw
namespace Go.Proofs.Yteognanhfpbghaa
theorem w_impl_isForest (points : Int) (bars : (List TBar)) : ∀ t,m_impl_isForest points bars = some t → Fw.Fn Try.prog 186 [(.c (iC points)),(.c (xF encTBar bars))] [] (.s (.c (bC t))) [] [] [] := by
 refine Fw.Fn.of (P := Try.prog) (X := []) (pn := []) (rs := (fun (t : Bool) => [(.c (bC t))])) (dfs := (fun (t : Bool) => [])) Try.func186 Q Try.ntmps186 (K Q) Q ?_
 intro w0 U0 R0 g0
 unfold m_impl_isForest
 refine Ws (Wr ?_)
 refine asg (Bv false) Q y2 Q Q (On (Ws (Wr ?_)))
 refine Os00 (LT.tbuildSlice (n := 21) (enc := encInt) [] ([] : List Int) Q Q und45 ti3 Q Q Q Q (by decide) (fun _ => Q) Q) Q Q (asg (Cc (lo 21 (([] : List Int).length))) Q Q Q Q (On (Ws (Ws (Wr ?_)))))
 refine mv (Iv points) Q Q Q Q (mv (Iv 0) Q y2 Q Q (On (AWR.block ?_)))
 refine AWR.loop1 (id := 0) (m_impl_isForest_L1 points) (fun s1 => ([(1,(Cc (xF encTBar bars))),(5,(Cc (lo 21 s1.2.length))),(13,(Iv points)),(14,(Iv s1.1))],[(21,(pR 3 encInt s1.2))])) (fun b6 => ([(1,(Cc (xF encTBar bars))),(5,(Cc (lo 21 b6.length)))],[(21,(pR 3 encInt b6))])) ?_ (Ent.of z4 z1) Q (fun b6 _ => ?_)
 ·intro s1
  unfold m_impl_isForest_L1
  refine Ws (Wr ?_)
  refine Op20 (LT.lss Q) Q Q Q Q (On (Ws ?_))
  refine AWR.cond Q (fun hc7 => ?_) (fun hc7 => ?_)
  ·refine AWR.skip (Ws (AWR.block (Ws (Wr ?_))))
   refine mv (Iv s1.1) Q Q Q Q (asg (Iv s1.1) Q Q Q Q (On (Wr ?_)))
   refine mv (Cc (lo 21 s1.2.length)) Q Q Q Q (mv (Iv s1.1) Q Q Q Q (Os10 (LT.tbuildSlice (n := 22) (enc := encInt) [(0,.tmp 18,(.c (iC s1.1)))] ([s1.1] : List Int) Q Q und45 ti3 Q Q Q Q (by decide) (fun _ => Q) Q) Q Q Q (Ob' fun u8 hu8 => (Os22 (LT.tappP (enc := encInt) Q Q Q und45 ti3 Q (by decide) (by decide) (fun _ => Q) (lim_le hu8)) Q Q Q Q Q Q (asg (Cc (lo 21 ((s1.2 ++ ([s1.1] : List Int)).length))) Q Q Q Q (On (AWR.blk ?_)))))))
   refine en [(1,(Cc (xF encTBar bars))),(5,(Cc (lo 21 ((s1.2 ++ ([s1.1] : List Int)).length)))),(13,(Iv points)),(14,(Iv s1.1))] [(21,(pR 3 encInt (s1.2 ++ ([s1.1] : List Int))))] z4 z1 (Wr (Op20 (LT.add Q) Q y2 Q Q (mv (Iv (w64 (s1.1 + 1))) Q Q Q Q (On (AWR.nil ⟨Q,Ent.of z4 z1⟩)))))
  ·refine AWR.exit_end Q ⟨Q,Ent.of z2 z1⟩
 ·refine Ws (Ws (Wr ?_))
  refine mv (Cc (xF encTBar bars)) Q Q Q Q (Op10 (LT.tlenRO Q und30) Q Q Q (mv (Iv 0) Q y2 Q Q (On (AWR.block ?_))))
  refine AWR.loopR (id := 2) (m_impl_isForest_L4 bars) (fun s9 => ([(5,(Cc (lo 21 s9.2.length))),(22,(Cc (xF encTBar bars))),(23,(Iv (bars.length : Int))),(24,(Iv s9.1))],[(21,(pR 3 encInt s9.2))])) (fun b52 => ([],[])) (FPost Try.prog Try.f186.results.toList [] [] (fun (t : Bool) => [(.c (bC t))]) (fun (t : Bool) => [])) ?_ (Ent.of z4 z1) Q (fun b52 _ => ?_) (by intro r t σ m ht hk; injection ht with ht; subst ht; exact hk)
  ·intro s9
   unfold m_impl_isForest_L4
   refine Ws (Wr ?_)
   refine Op20 (LT.lss Q) Q Q Q Q (On (Ws ?_))
   refine AWR.cond Q (fun hc53 => ?_) (fun hc53 => ?_)
   ·refine AWR.skip (Ws (AWR.block (Ws (Wr ?_))))
    refine Ob' fun x54 hx54 => (Op20 (LT.tindexRO (enc := encTBar) Q el30 hx54 sz112) Q Q Q Q (Op10 (LT.loadPxN Q ag112 (infS inf112) (by exact sz112.symm)) Q Q Q (Os00 (LT.alloc (n := 23) (cells := [(iC 0),(iC 0)]) Q ti112 Q Q Q) Q Q (Os21 (LT.bstore (v := (.agg [(iC x54.A),(iC x54.B)])) (out := [(iC x54.A),(iC x54.B)]) Q Q (infS inf112) sz112 (by exact Q) (by exact K Q) (by exact Q)) Q Q Q Q Q (On (Ws (AWR.draw mixed ?_)))))))
    refine Dp10 (LT.move (v := (Cc (lo 21 s9.2.length))) Q) Q Q Q (Dp10 (LT.fieldPl Q fo112_0) Q Q Q (Dp11 (LT.bload1 (c := (iC x54.A)) Q ag3 (by exact Q)) Q Q Q Q (AOD.bind fun x55 hx55 => (Dp21 (LT.tindexLoc Q Q el45 hx55) Q Q Q Q Q (Dp11 (LT.tload1 (k := 0) Q ag3 hx55 (by exact Q) (by exact Q)) Q Q Q Q (Dp10 (LT.move (v := (Cc (lo 21 s9.2.length))) Q) Q Q Q (Dp10 (LT.fieldPl Q fo112_1) Q Q Q (Dp11 (LT.bload1 (c := (iC x54.B)) Q ag3 (by exact Q)) Q Q Q Q (AOD.bind fun x56 hx56 => (Dp21 (LT.tindexLoc Q Q el45 hx56) Q Q Q Q Q (Dp11 (LT.tload1 (k := 0) Q ag3 hx56 (by exact Q) (by exact Q)) Q Q Q Q ?_)))))))))))
    refine Dp10 (LT.assign (v := (Iv x55)) Q) Q Q Q (Dp10 (LT.assign (v := (Iv x56)) Q) Q Q Q (AOD.nil (by kernel_rfl) (Ws (Ws ?_))))
    refine en [(5,(Cc (lo 21 s9.2.length))),(9,(Iv x55)),(10,(Iv x56)),(22,(Cc (xF encTBar bars))),(23,(Iv (bars.length : Int))),(24,(Iv s9.1))] [(21,(pR 3 encInt s9.2))] z6 z1 (Wr (mv (Iv x55) Q Q Q Q (mv (Iv x56) Q Q Q Q (Op20 (LT.eql Q) Q Q Q Q (On (AWR.cond Q (fun hc57 => ?_) (fun hc57 => ?_)))))))
    ·refine Ws (Wr ?_)
     refine asg (Bv false) Q y2 Q Q (On (AWR.ret ⟨Q,FPost.mk (.inr Q) z1 J Q ⟨PermP.sc,J⟩ J⟩))
    ·refine AWR.skip (Ws (Wr ?_))
     refine mv (Cc (lo 21 s9.2.length)) Q Q Q Q (Op10 (LT.lenLoc Q und45) Q Q Q (mv (Iv 0) Q y2 Q Q (On (AWR.block ?_))))
     refine AWR.loop1 (id := 4) (m_impl_isForest_L5 s9 x55 x56) (fun s58 => ([(5,(Cc (lo 21 s58.2.length))),(9,(Iv x55)),(10,(Iv x56)),(22,(Cc (xF encTBar bars))),(23,(Iv (bars.length : Int))),(24,(Iv s9.1)),(42,(Iv (s9.2.length : Int))),(43,(Iv s58.1))],[(21,(pR 3 encInt s58.2))])) (fun b73 => ([(5,(Cc (lo 21 b73.2.length))),(22,(Cc (xF encTBar bars))),(23,(Iv (bars.length : Int))),(24,(Iv b73.1))],[(21,(pR 3 encInt b73.2))])) ?_ (Ent.of z8 z1) Q (fun b73 _ => ?_)
     ·intro s58
      unfold m_impl_isForest_L5
      refine Ws (Wr ?_)
      refine Op20 (LT.lss Q) Q Q Q Q (On (Ws ?_))
      refine AWR.cond Q (fun hc74 => ?_) (fun hc74 => ?_)
      ·refine AWR.skip (Ws (AWR.block (Ws (Wr ?_))))
       refine mv (Iv s58.1) Q Q Q Q (asg (Iv s58.1) Q Q Q Q (On (Ws (Wr ?_))))
       refine mv (Cc (lo 21 s58.2.length)) Q Q Q Q (mv (Iv s58.1) Q Q Q Q (Ob' fun x75 hx75 => (Op21 (LT.tindexLoc Q Q el45 hx75) Q Q Q Q Q (Op11 (LT.tload1 (k := 0) Q ag3 hx75 (by exact Q) (by exact Q)) Q Q Q Q (mv (Iv x56) Q Q Q Q (Op20 (LT.eql Q) Q Q Q Q (On (AWR.joinK (fun j78 => ([(5,(Cc (lo 21 j78.length))),(9,(Iv x55)),(10,(Iv x56)),(22,(Cc (xF encTBar bars))),(23,(Iv (bars.length : Int))),(24,(Iv s9.1)),(42,(Iv (s9.2.length : Int))),(43,(Iv s58.1))],[(21,(pR 3 encInt j78))])) ?_ (fun j78 _ => ?_)))))))))
       ·refine AWR.cond Q (fun hc79 => ?_) (fun hc79 => ?_)
        ·refine Wr (mv (Cc (lo 21 s58.2.length)) Q Q Q Q (mv (Iv s58.1) Q Q Q Q (mv (Iv x55) Q Q Q Q (Ob' fun x80 hx80 => (Op21 (LT.tindexLoc Q Q el45 hx80) Q Q Q Q Q (Os21 (LT.tstore (k := 0) (v := (.c (iC x55))) (b' := x55) Q Q (infS inf3) sz3 (by exact Q) hx80 (by exact Q) (by exact K Q) (by exact Q)) Q Q Q Q Q (On (AWR.nil ⟨Q,Ent.of ⟨(congrArg (fun l1 => (some (AV.s (.c (lo 21 l1))) : Option AV)) (show s58.2.length = (s58.2.set s58.1.toNat x55).length by simp only [List.length_set])),Q,Q,Q,Q,Q,Q,Q,J⟩ z1⟩))))))))
        ·refine AWR.skip (AWR.nil ⟨Q,Ent.of z8 z1⟩)
       ·refine AWR.blk (Wr ?_)
        refine Op20 (LT.add Q) Q y2 Q Q (mv (Iv (w64 (s58.1 + 1))) Q Q Q Q (On (AWR.nil ⟨Q,Ent.of z8 z1⟩)))
      ·refine AWR.exit_end Q ⟨Q,Ent.of z4 z1⟩
     ·refine AWR.blk (Wr ?_)
      refine Op20 (LT.add Q) Q y2 Q Q (mv (Iv (w64 (b73.1 + 1))) Q Q Q Q (On (AWR.nil ⟨Q,Ent.of z4 z1⟩)))
   ·refine AWR.exit_end Q ⟨Q,Ent.of J J⟩
  ·refine Ws (Wr ?_)
   refine asg (Bv true) Q y2 Q Q (On (AWR.ret (FPost.mk (.inr Q) z1 J Q ⟨PermP.sc,J⟩ J)))
theorem w_impl_PackTrees_c1_B (recF : (Int → TGraph → Int → (List (List TBar)) → (List (List Int)) → Option (Bool × TGraph × Int × (List (List TBar)) × (List (List Int))))) (hrec : ∀ (e : Int) (capaV : TGraph) (capbV : Int) (capcV : (List (List TBar))) (capdV : (List (List Int))),∀ t,recF e capaV capbV capcV capdV = some t → Fw.Fn Try.prog 185 [(.c (iC e)),(.c (.pl 0 0)),(.c (.pl 1 0)),(.c (.pl 2 0)),(.c (.pl 3 0)),(.c (.pl 4 0))] [(0,(.row 32 [[(iC capaV.Points),(lo 5 capaV.Bars.length)]])),(1,(.row 3 [[(iC capbV)]])),(2,(.row 150 [[(lo 6 capcV.length)]])),(3,(.row 65 [[(lo 8 capdV.length)]])),(4,(.row 62 [[(.fn 185 [0,1,2,3,4])]])),(5,(pR 112 encTBar capaV.Bars)),(6,(.trow 30 7 (lensOf capcV))),(7,(.pool 112 (rowsOf encTBar capcV))),(8,(.trow 45 9 (lensOf capdV))),(9,(.pool 3 (rowsOf encInt capdV)))] (.s (.c (bC t.1))) [(0,(.row 32 [[(iC t.2.1.Points),(lo 5 t.2.1.Bars.length)]])),(1,(.row 3 [[(iC t.2.2.1)]])),(2,(.row 150 [[(lo 6 t.2.2.2.1.length)]])),(3,(.row 65 [[(lo 8 t.2.2.2.2.length)]])),(4,(.row 62 [[(.fn 185 [0,1,2,3,4])]])),(5,(pR 112 encTBar t.2.1.Bars)),(6,(.trow 30 7 (lensOf t.2.2.2.1))),(7,(.pool 112 (rowsOf encTBar t.2.2.2.1))),(8,(.trow 45 9 (lensOf t.2.2.2.2))),(9,(.pool 3 (rowsOf encInt t.2.2.2.2)))] [0,1,2,3,4,5,6,7,8,9] [7,9]) (e : Int) (capaV : TGraph) (capbV : Int) (capcV : (List (List TBar))) (capdV : (List (List Int))) : ∀ t,m_impl_PackTrees_c1_B recF e capaV capbV capcV capdV = some t → Fw.Fn Try.prog 185 [(.c (iC e)),(.c (.pl 0 0)),(.c (.pl 1 0)),(.c (.pl 2 0)),(.c (.pl 3 0)),(.c (.pl 4 0))] [(0,(.row 32 [[(iC capaV.Points),(lo 5 capaV.Bars.length)]])),(1,(.row 3 [[(iC capbV)]])),(2,(.row 150 [[(lo 6 capcV.length)]])),(3,(.row 65 [[(lo 8 capdV.length)]])),(4,(.row 62 [[(.fn 185 [0,1,2,3,4])]])),(5,(pR 112 encTBar capaV.Bars)),(6,(.trow 30 7 (lensOf capcV))),(7,(.pool 112 (rowsOf encTBar capcV))),(8,(.trow 45 9 (lensOf capdV))),(9,(.pool 3 (rowsOf encInt capdV)))] (.s (.c (bC t.1))) [(0,(.row 32 [[(iC t.2.1.Points),(lo 5 t.2.1.Bars.length)]])),(1,(.row 3 [[(iC t.2.2.1)]])),(2,(.row 150 [[(lo 6 t.2.2.2.1.length)]])),(3,(.row 65 [[(lo 8 t.2.2.2.2.length)]])),(4,(.row 62 [[(.fn 185 [0,1,2,3,4])]])),(5,(pR 112 encTBar t.2.1.Bars)),(6,(.trow 30 7 (lensOf t.2.2.2.1))),(7,(.pool 112 (rowsOf encTBar t.2.2.2.1))),(8,(.trow 45 9 (lensOf t.2.2.2.2))),(9,(.pool 3 (rowsOf encInt t.2.2.2.2)))] [0,1,2,3,4,5,6,7,8,9] [7,9] := by
 refine Fw.Fn.of (P := Try.prog) (X := [7,9]) (pn := [0,5,1,2,6,3,8,4]) (rs := (fun (t : (Bool × TGraph × Int × (List (List TBar)) × (List (List Int)))) => [(.c (bC t.1))])) (dfs := (fun (t : (Bool × TGraph × Int × (List (List TBar)) × (List (List Int)))) => [(0,(.row 32 [[(iC t.2.1.Points),(lo 5 t.2.1.Bars.length)]])),(1,(.row 3 [[(iC t.2.2.1)]])),(2,(.row 150 [[(lo 6 t.2.2.2.1.length)]])),(3,(.row 65 [[(lo 8 t.2.2.2.2.length)]])),(4,(.row 62 [[(.fn 185 [0,1,2,3,4])]])),(5,(pR 112 encTBar t.2.1.Bars)),(6,(.trow 30 7 (lensOf t.2.2.2.1))),(7,(.pool 112 (rowsOf encTBar t.2.2.2.1))),(8,(.trow 45 9 (lensOf t.2.2.2.2))),(9,(.pool 3 (rowsOf encInt t.2.2.2.2)))])) Try.func185 Q Try.ntmps185 (K Q) Q ?_
 intro w0 U0 R0 g0
 unfold m_impl_PackTrees_c1_B
 refine Ws (Wr ?_)
 refine asg (Bv false) Q y2 Q Q (On (Ws (Ws (Wr ?_))))
 refine mv (Iv e) Q Q Q Q (Op10 (LT.fieldPl Q fo32_1) Q Q Q (Op11 (LT.bload1 (c := (lo 5 capaV.Bars.length)) Q ag30 (by exact Q)) Q Q Q Q (Op10 (LT.lenLoc Q und30) Q Q Q (Op20 (LT.eql Q) Q Q Q Q (On (AWR.cond Q (fun hc1 => ?_) (fun hc1 => ?_)))))))
 ·refine Ws (Wr ?_)
  refine asg (Bv true) Q y2 Q Q (On (AWR.ret (FPost.mk (.inr Q) z1 z10 Q ⟨PermP.sc,J⟩ ⟨PermO.row1 ⟨PermP.sc,J,J⟩,PermO.row1 ⟨PermP.sc,J⟩,PermO.row1 ⟨J,J⟩,PermO.row1 ⟨J,J⟩,PermO.row1 ⟨J,J⟩,PermO.prow' perm_encTBar,J,PermO.poolR perm_encTBar _,J,PermO.poolR perm_encInt _,J⟩)))
 ·refine AWR.skip (Ws (Ws (Wr ?_)))
  refine Op11 (LT.bload1 (c := (iC capbV)) Q ag3 (by exact Q)) Q Q Q Q (mv (Iv 0) Q y2 Q Q (On (AWR.block ?_)))
  refine AWR.loopR (id := 0) (m_impl_PackTrees_c1_L1 e capbV recF) (fun s2 => ([(0,(Iv e)),(1,(Cc (.pl 0 0))),(3,(Cc (.pl 2 0))),(4,(Cc (.pl 3 0))),(5,(Cc (.pl 4 0))),(14,(Iv capbV)),(15,(Iv s2.1))],[(0,(.row 32 [[(iC s2.2.1),(lo 5 s2.2.2.2.1.length)]])),(1,(.row 3 [[(iC s2.2.2.1)]])),(2,(.row 150 [[(lo 6 s2.2.2.2.2.1.length)]])),(3,(.row 65 [[(lo 8 s2.2.2.2.2.2.length)]])),(4,(.row 62 [[(.fn 185 [0,1,2,3,4])]])),(5,(pR 112 encTBar s2.2.2.2.1)),(6,(.trow 30 7 (lensOf s2.2.2.2.2.1))),(7,(.pool 112 (rowsOf encTBar s2.2.2.2.2.1))),(8,(.trow 45 9 (lensOf s2.2.2.2.2.2))),(9,(.pool 3 (rowsOf encInt s2.2.2.2.2.2)))])) (fun b67 => ([],[(0,(.row 32 [[(iC b67.1),(lo 5 b67.2.2.1.length)]])),(1,(.row 3 [[(iC b67.2.1)]])),(2,(.row 150 [[(lo 6 b67.2.2.2.1.length)]])),(3,(.row 65 [[(lo 8 b67.2.2.2.2.length)]])),(4,(.row 62 [[(.fn 185 [0,1,2,3,4])]])),(5,(pR 112 encTBar b67.2.2.1)),(6,(.trow 30 7 (lensOf b67.2.2.2.1))),(7,(.pool 112 (rowsOf encTBar b67.2.2.2.1))),(8,(.trow 45 9 (lensOf b67.2.2.2.2))),(9,(.pool 3 (rowsOf encInt b67.2.2.2.2)))])) (FPost Try.prog Try.f185.results.toList [(0,(.row 32 [[(iC capaV.Points),(lo 5 capaV.Bars.length)]])),(1,(.row 3 [[(iC capbV)]])),(2,(.row 150 [[(lo 6 capcV.length)]])),(3,(.row 65 [[(lo 8 capdV.length)]])),(4,(.row 62 [[(.fn 185 [0,1,2,3,4])]])),(5,(pR 112 encTBar capaV.Bars)),(6,(.trow 30 7 (lensOf capcV))),(7,(.pool 112 (rowsOf encTBar capcV))),(8,(.trow 45 9 (lensOf capdV))),(9,(.pool 3 (rowsOf encInt capdV)))] [7,9] (fun (t : (Bool × TGraph × Int × (List (List TBar)) × (List (List Int)))) => [(.c (bC t.1))]) (fun (t : (Bool × TGraph × Int × (List (List TBar)) × (List (List Int)))) => [(0,(.row 32 [[(iC t.2.1.Points),(lo 5 t.2.1.Bars.length)]])),(1,(.row 3 [[(iC t.2.2.1)]])),(2,(.row 150 [[(lo 6 t.2.2.2.1.length)]])),(3,(.row 65 [[(lo 8 t.2.2.2.2.length)]])),(4,(.row 62 [[(.fn 185 [0,1,2,3,4])]])),(5,(pR 112 encTBar t.2.1.Bars)),(6,(.trow 30 7 (lensOf t.2.2.2.1))),(7,(.pool 112 (rowsOf encTBar t.2.2.2.1))),(8,(.trow 45 9 (lensOf t.2.2.2.2))),(9,(.pool 3 (rowsOf encInt t.2.2.2.2)))])) ?_ (Ent.of z7 z10) Q (fun b67 _ => ?_) (by intro r t σ m ht hk; injection ht with ht; subst ht; exact hk)
  ·intro s2
   unfold m_impl_PackTrees_c1_L1
   refine Ws (Wr ?_)
   refine Op20 (LT.lss Q) Q Q Q Q (On (Ws ?_))
   refine AWR.cond Q (fun hc68 => ?_) (fun hc68 => ?_)
   ·refine AWR.skip (Ws (AWR.block (Ws (Wr ?_))))
    refine mv (Iv s2.1) Q Q Q Q (asg (Iv s2.1) Q Q Q Q (On (Ws (AWR.draw mixed ?_))))
    refine Dp11 (LT.bload1 (c := (lo 6 s2.2.2.2.2.1.length)) Q ag150 (by exact Q)) Q Q Q Q (Dp10 (LT.move (v := (Iv s2.1)) Q) Q Q Q (Dp11 (LT.bload1 (c := (lo 6 s2.2.2.2.2.1.length)) Q ag150 (by exact Q)) Q Q Q Q (Dp10 (LT.move (v := (Iv s2.1)) Q) Q Q Q (AOD.bind fun x69 hx69 => (Dp21 (LT.xindex Q Q el150 hx69) Q Q Q Q Q (Dp11 (LT.xload Q ag30 hx69 Q) Q Q Q Q (Dp10 (LT.fieldPl Q fo32_1) Q Q Q (Dp11 (LT.bload1 (c := (lo 5 s2.2.2.2.1.length)) Q ag30 (by exact Q)) Q Q Q Q (Dp10 (LT.move (v := (Iv e)) Q) Q Q Q (AOD.bind fun x70 hx70 => (Dp21 (LT.tindexLoc Q Q el30 hx70) Q Q Q Q Q ?_)))))))))))
    refine Dp11 (LT.tloadN Q ag112 (infS inf112) sz112 hx70 (by exact Q) (by exact Q)) Q Q Q Q (Ds10 (LT.tbuildSlice (n := 21) (enc := encTBar) [(0,.tmp 28,(.agg [(iC x70.A),(iC x70.B)]))] [x70] Q Q und30 ti112 Q Q Q Q (by decide) (fun _ => Q) Q) Q Q Q (AOD.bind fun u71 hu71 => (AOD.step (LT.tunpool (p := 7) (k := s2.1.toNat) (m := 22) (n := 6) (e := 30) (enc := encTBar) (LT.tappP (n := 22) (n2 := 21) (enc := encTBar) Q Q Q und30 ti112 Q (by decide) (by decide) (fun _ => Q) (lim_le hu71)) (idx_get hx69) Q) z2 z3 Q Q (AOD.bind fun x72 hx72 => (Dp21 (LT.xindexS (show s2.2.2.2.2.1.length = (s2.2.2.2.2.1.set s2.1.toNat []).length by simp only [List.length_set]) Q el150 hx72) Q Q Q Q Q (Ds21 (LT.xstoreS (e := 30) (p := 7) Q Q (infS inf30) sz30 hx72 Q) Q Q Q Q Q (AOD.nil (by kernel_rfl) (AWR.ent (Ent.tadoptAt (enc := encTBar) (n := 6) (m := 22) (p := 7) (k := s2.1.toNat) (rows := (s2.2.2.2.2.1.set s2.1.toNat [])) (r := (x69 ++ [x70])) Q (List.getElem?_eq_some_iff.1 (idx_get hx72)).1 Q Q Q Q) ?_))))))))
    refine AWR.ent (Ent.trow (n := 6) (p := 7) (lens := lensOf ((s2.2.2.2.2.1.set s2.1.toNat []).set s2.1.toNat (x69 ++ [x70]))) Q Q) (Ws (AWR.draw mixed ?_))
    refine Dp11 (LT.bload1 (c := (lo 8 s2.2.2.2.2.2.length)) Q ag65 (by exact Q)) Q Q Q Q (Dp10 (LT.move (v := (Iv s2.1)) Q) Q Q Q (Dp11 (LT.bload1 (c := (lo 8 s2.2.2.2.2.2.length)) Q ag65 (by exact Q)) Q Q Q Q (Dp10 (LT.move (v := (Iv s2.1)) Q) Q Q Q (AOD.bind fun x73 hx73 => (Dp21 (LT.xindex Q Q el65 hx73) Q Q Q Q Q (Dp11 (LT.xload Q ag45 hx73 Q) Q Q Q Q (Dp10 (LT.move (v := (Iv e)) Q) Q Q Q (Ds10 (LT.tbuildSlice (n := 23) (enc := encInt) [(0,.tmp 38,(.c (iC e)))] ([e] : List Int) Q Q und45 ti3 Q Q Q Q (by decide) (fun _ => Q) Q) Q Q Q (AOD.bind fun u74 hu74 => (AOD.step (LT.tunpool (p := 9) (k := s2.1.toNat) (m := 24) (n := 8) (e := 45) (enc := encInt) (LT.tappP (n := 24) (n2 := 23) (enc := encInt) Q Q Q und45 ti3 Q (by decide) (by decide) (fun _ => Q) (lim_le hu74)) (idx_get hx73) Q) z2 z3 Q Q (AOD.bind fun x75 hx75 => ?_)))))))))))
    refine Dp21 (LT.xindexS (show s2.2.2.2.2.2.length = (s2.2.2.2.2.2.set s2.1.toNat []).length by simp only [List.length_set]) Q el65 hx75) Q Q Q Q Q (Ds21 (LT.xstoreS (e := 45) (p := 9) Q Q (infS inf45) sz45 hx75 Q) Q Q Q Q Q (AOD.nil (by kernel_rfl) (AWR.ent (Ent.tadoptAt (enc := encInt) (n := 8) (m := 24) (p := 9) (k := s2.1.toNat) (rows := (s2.2.2.2.2.2.set s2.1.toNat [])) (r := (x73 ++ ([e] : List Int))) Q (List.getElem?_eq_some_iff.1 (idx_get hx75)).1 Q Q Q Q) ?_)))
    refine AWR.ent (Ent.trow (n := 8) (p := 9) (lens := lensOf ((s2.2.2.2.2.2.set s2.1.toNat []).set s2.1.toNat (x73 ++ ([e] : List Int)))) Q Q) (Ws (Ws ?_))
    refine AWR.joinK (fun j83 => ([(0,(Iv e)),(1,(Cc (.pl 0 0))),(3,(Cc (.pl 2 0))),(4,(Cc (.pl 3 0))),(5,(Cc (.pl 4 0))),(8,(Iv s2.1)),(14,(Iv capbV)),(15,(Iv s2.1)),(54,(Bv j83.1))],[(0,(.row 32 [[(iC j83.2.1),(lo 5 j83.2.2.2.1.length)]])),(1,(.row 3 [[(iC j83.2.2.1)]])),(2,(.row 150 [[(lo 6 j83.2.2.2.2.1.length)]])),(3,(.row 65 [[(lo 8 j83.2.2.2.2.2.length)]])),(4,(.row 62 [[(.fn 185 [0,1,2,3,4])]])),(5,(pR 112 encTBar j83.2.2.2.1)),(6,(.trow 30 7 (lensOf j83.2.2.2.2.1))),(7,(.pool 112 (rowsOf encTBar j83.2.2.2.2.1))),(8,(.trow 45 9 (lensOf j83.2.2.2.2.2))),(9,(.pool 3 (rowsOf encInt j83.2.2.2.2.2)))])) ?_ (fun j83 _ => ?_)
    ·refine en [(0,(Iv e)),(1,(Cc (.pl 0 0))),(3,(Cc (.pl 2 0))),(4,(Cc (.pl 3 0))),(5,(Cc (.pl 4 0))),(8,(Iv s2.1)),(14,(Iv capbV)),(15,(Iv s2.1)),(16,(Bv (decide (s2.1 < capbV)))),(17,(Iv s2.1)),(18,(Cc (lo 6 (((s2.2.2.2.2.1.set s2.1.toNat []).set s2.1.toNat (x69 ++ [x70])).length)))),(19,(Iv s2.1)),(20,(Cc (lo 6 (((s2.2.2.2.2.1.set s2.1.toNat []).set s2.1.toNat (x69 ++ [x70])).length)))),(21,(Iv s2.1)),(24,(Cc (.pl 0 1))),(25,(Cc (lo 5 s2.2.2.2.1.length))),(26,(Iv e)),(28,(Ag  [(iC x70.A),(iC x70.B)])),(29,(Cc (lo 21 ([x70].length)))),(32,(Cc (lo 8 (((s2.2.2.2.2.2.set s2.1.toNat []).set s2.1.toNat (x73 ++ ([e] : List Int))).length)))),(33,(Iv s2.1)),(34,(Cc (lo 8 (((s2.2.2.2.2.2.set s2.1.toNat []).set s2.1.toNat (x73 ++ ([e] : List Int))).length)))),(35,(Iv s2.1)),(38,(Iv e)),(39,(Cc (lo 23 (([e] : List Int).length))))] [(0,(.row 32 [[(iC s2.2.1),(lo 5 s2.2.2.2.1.length)]])),(1,(.row 3 [[(iC s2.2.2.1)]])),(2,(.row 150 [[(lo 6 (((s2.2.2.2.2.1.set s2.1.toNat []).set s2.1.toNat (x69 ++ [x70])).length))]])),(3,(.row 65 [[(lo 8 (((s2.2.2.2.2.2.set s2.1.toNat []).set s2.1.toNat (x73 ++ ([e] : List Int))).length))]])),(4,(.row 62 [[(.fn 185 [0,1,2,3,4])]])),(5,(pR 112 encTBar s2.2.2.2.1)),(6,(.trow 30 7 (lensOf ((s2.2.2.2.2.1.set s2.1.toNat []).set s2.1.toNat (x69 ++ [x70]))))),(7,(.pool 112 (rowsOf encTBar ((s2.2.2.2.2.1.set s2.1.toNat []).set s2.1.toNat (x69 ++ [x70]))))),(8,(.trow 45 9 (lensOf ((s2.2.2.2.2.2.set s2.1.toNat []).set s2.1.toNat (x73 ++ ([e] : List Int)))))),(9,(.pool 3 (rowsOf encInt ((s2.2.2.2.2.2.set s2.1.toNat []).set s2.1.toNat (x73 ++ ([e] : List Int)))))),(21,(pR 112 encTBar [x70])),(23,(pR 3 encInt ([e] : List Int)))] ⟨Q,Q,Q,Q,Q,Q,Q,Q,Q,Q,(congrArg (fun l1 => (some (AV.s (.c (lo 6 l1))) : Option AV)) (show s2.2.2.2.2.1.length = ((s2.2.2.2.2.1.set s2.1.toNat []).set s2.1.toNat (x69 ++ [x70])).length by simp only [List.length_set])),Q,(congrArg (fun l1 => (some (AV.s (.c (lo 6 l1))) : Option AV)) (show s2.2.2.2.2.1.length = ((s2.2.2.2.2.1.set s2.1.toNat []).set s2.1.toNat (x69 ++ [x70])).length by simp only [List.length_set])),Q,Q,Q,Q,Q,Q,(congrArg (fun l1 => (some (AV.s (.c (lo 8 l1))) : Option AV)) (show s2.2.2.2.2.2.length = ((s2.2.2.2.2.2.set s2.1.toNat []).set s2.1.toNat (x73 ++ ([e] : List Int))).length by simp only [List.length_set])),Q,(congrArg (fun l1 => (some (AV.s (.c (lo 8 l1))) : Option AV)) (show s2.2.2.2.2.2.length = ((s2.2.2.2.2.2.set s2.1.toNat []).set s2.1.toNat (x73 ++ ([e] : List Int))).length by simp only [List.length_set])),Q,Q,Q,J⟩ ⟨Q,Q,(congrArg (fun l1 => (some (Ob.row 150 [[(lo 6 l1)]]) : Option Ob)) (show s2.2.2.2.2.1.length = ((s2.2.2.2.2.1.set s2.1.toNat []).set s2.1.toNat (x69 ++ [x70])).length by simp only [List.length_set])),(congrArg (fun l1 => (some (Ob.row 65 [[(lo 8 l1)]]) : Option Ob)) (show s2.2.2.2.2.2.length = ((s2.2.2.2.2.2.set s2.1.toNat []).set s2.1.toNat (x73 ++ ([e] : List Int))).length by simp only [List.length_set])),Q,Q,Q,Q,Q,Q,Q,Q,J⟩ (AWR.draw mixed (Dp10 (LT.fieldPl Q fo32_0) Q Q Q (Dp11 (LT.bload1 (c := (iC s2.2.1)) Q ag3 (by exact Q)) Q Q Q Q (Dp11 (LT.bload1 (c := (lo 6 (((s2.2.2.2.2.1.set s2.1.toNat []).set s2.1.toNat (x69 ++ [x70])).length))) Q ag150 (by exact Q)) Q Q Q Q (Dp10 (LT.move (v := (Iv s2.1)) Q) Q Q Q (AOD.bind fun x87 hx87 => (Dp21 (LT.xindex Q Q el150 hx87) Q Q Q Q Q (Dp11 (LT.xload Q ag30 hx87 Q) Q Q Q Q (AOD.bind fun r88 hr88 => (AOD.pure (@LT.callF Try.prog _ _ 186 _ _ [(.c (iC s2.2.1)),(.c (.tl 7 s2.1.toNat 0 x87.length))] _ _ [(7,(.pool 112 (rowsOf encTBar ((s2.2.2.2.2.1.set s2.1.toNat []).set s2.1.toNat (x69 ++ [x70])))))] _ _ _ _ (w_impl_isForest s2.2.1 x87 r88 hr88) Q cb186 (.cons (.c (.same Q)) (.cons (.c (.ttl Q Q (idx_get hx87))) .nil)) Q Q J) z3 z1 Q Q (Dp10 (LT.move (v := (Bv r88)) Q) Q Q Q ?_)))))))))))
     refine AOD.split (fun hb89 => ?_) (fun hb89 => ?_)
     ·refine Dp11 (LT.bload1 (c := (.fn 185 [0,1,2,3,4])) Q ag62 (by exact Q)) Q Q (gH hb89 Q Q) Q (Dp10 (LT.move (v := (Iv e)) Q) Q (gH hb89 Q Q) Q (Dp20 (LT.add Q) Q y2 (gH hb89 Q Q) Q (AOD.bind fun r90 hr90 => (AOD.step (LT.callC (P := Try.prog) (f := 185) (xs := [(.c (iC (w64 (e + 1))))]) (sh := []) [0,1,2,3,4] [(.c (iC (w64 (e + 1))))] ((show Fw.Fn Try.prog 185 [(.c (iC (w64 (e + 1)))),(.c (.pl 0 0)),(.c (.pl 1 0)),(.c (.pl 2 0)),(.c (.pl 3 0)),(.c (.pl 4 0))] [(0,(.row 32 [[(iC s2.2.1),(lo 5 s2.2.2.2.1.length)]])),(1,(.row 3 [[(iC s2.2.2.1)]])),(2,(.row 150 [[(lo 6 (((s2.2.2.2.2.1.set s2.1.toNat []).set s2.1.toNat (x69 ++ [x70])).length))]])),(3,(.row 65 [[(lo 8 (((s2.2.2.2.2.2.set s2.1.toNat []).set s2.1.toNat (x73 ++ ([e] : List Int))).length))]])),(4,(.row 62 [[(.fn 185 [0,1,2,3,4])]])),(5,(pR 112 encTBar s2.2.2.2.1)),(6,(.trow 30 7 (lensOf ((s2.2.2.2.2.1.set s2.1.toNat []).set s2.1.toNat (x69 ++ [x70]))))),(7,(.pool 112 (rowsOf encTBar ((s2.2.2.2.2.1.set s2.1.toNat []).set s2.1.toNat (x69 ++ [x70]))))),(8,(.trow 45 9 (lensOf ((s2.2.2.2.2.2.set s2.1.toNat []).set s2.1.toNat (x73 ++ ([e] : List Int)))))),(9,(.pool 3 (rowsOf encInt ((s2.2.2.2.2.2.set s2.1.toNat []).set s2.1.toNat (x73 ++ ([e] : List Int))))))] (Bv r90.1) [(0,(.row 32 [[(iC r90.2.1.Points),(lo 5 r90.2.1.Bars.length)]])),(1,(.row 3 [[(iC r90.2.2.1)]])),(2,(.row 150 [[(lo 6 r90.2.2.2.1.length)]])),(3,(.row 65 [[(lo 8 r90.2.2.2.2.length)]])),(4,(.row 62 [[(.fn 185 [0,1,2,3,4])]])),(5,(pR 112 encTBar r90.2.1.Bars)),(6,(.trow 30 7 (lensOf r90.2.2.2.1))),(7,(.pool 112 (rowsOf encTBar r90.2.2.2.1))),(8,(.trow 45 9 (lensOf r90.2.2.2.2))),(9,(.pool 3 (rowsOf encInt r90.2.2.2.2)))] [0,1,2,3,4,5,6,7,8,9] [7,9] from Fw.Fn.ren [(0,0),(1,1),(2,2),(3,3),(4,4),(5,5),(6,6),(7,7),(8,8),(9,9)] (hrec (w64 (e + 1)) (TGraph.mk s2.2.1 s2.2.2.2.1) s2.2.2.1 ((s2.2.2.2.2.1.set s2.1.toNat []).set s2.1.toNat (x69 ++ [x70])) ((s2.2.2.2.2.2.set s2.1.toNat []).set s2.1.toNat (x73 ++ ([e] : List Int))) r90 hr90) Q)) Q cb185 (.cons (.c (.same Q)) .nil) Q Q z10) z2 z10 (gH hb89 Q Q) Q (Dp20 (LT.pickT (v := (Bv r90.1)) Q hb89) Q Q Q Q (AOD.nil (by kernel_rfl) (AWR.nil ⟨Q,Ent.of z9 z10⟩)))))))
     ·refine AOD.skip (gH hb89 Q Q) Q (AOD.skip (gH hb89 Q Q) Q (AOD.skip (gH hb89 Q Q) Q (AOD.skip (gH hb89 Q Q) Q (Dp20 (LT.pickF (v := (Bv false)) Q hb89) Q y2 Q Q (AOD.nil (by kernel_rfl) (AWR.nil ⟨Q,Ent.of z9 z10⟩))))))
    ·refine AWR.cond Q (fun hc91 => ?_) (fun hc91 => ?_)
     ·refine Ws (Wr ?_)
      refine asg (Bv true) Q y2 Q Q (On (AWR.ret ⟨Q,FPost.mk (.inr Q) z1 z10 Q ⟨PermP.sc,J⟩ ⟨PermO.row1 ⟨PermP.sc,J,J⟩,PermO.row1 ⟨PermP.sc,J⟩,PermO.row1 ⟨J,J⟩,PermO.row1 ⟨J,J⟩,PermO.row1 ⟨J,J⟩,PermO.prow' perm_encTBar,J,PermO.poolR perm_encTBar _,J,PermO.poolR perm_encInt _,J⟩⟩))
     ·refine AWR.skip (Ws (AWR.draw mixed ?_))
      refine Dp11 (LT.bload1 (c := (lo 6 j83.2.2.2.2.1.length)) Q ag150 (by exact Q)) Q Q Q Q (Dp10 (LT.move (v := (Iv s2.1)) Q) Q Q Q (Dp11 (LT.bload1 (c := (lo 6 j83.2.2.2.2.1.length)) Q ag150 (by exact Q)) Q Q Q Q (Dp10 (LT.move (v := (Iv s2.1)) Q) Q Q Q (AOD.bind fun x92 hx92 => (Dp21 (LT.xindex Q Q el150 hx92) Q Q Q Q Q (Dp11 (LT.xload Q ag30 hx92 Q) Q Q Q Q (Dp11 (LT.bload1 (c := (lo 6 j83.2.2.2.2.1.length)) Q ag150 (by exact Q)) Q Q Q Q (Dp10 (LT.move (v := (Iv s2.1)) Q) Q Q Q (AOD.bind fun x93 hx93 => (Dp21 (LT.xindex Q Q el150 hx93) Q Q Q Q Q (Dp11 (LT.xload Q ag30 hx93 Q) Q Q Q Q ?_)))))))))))
      refine Dp10 (LT.xlen Q und30) Q Q Q (Dp20 (LT.sub Q) Q y2 Q Q (AOD.bind fun v94 hv94 => (Dp21 (LT.tlslice (enc := encTBar) Q Q und30 inf112 (idx_get hx92) (slc_spec hv94).2.1 (slc_hl hv94)) Q Q Q Q Q (AOD.bind fun x95 hx95 => (Dp21 (LT.xindex Q Q el150 hx95) Q Q Q Q Q (Ds21 (LT.xstore (e := 30) (p := 7) Q Q (infS inf30) sz30 hx95 Q) Q Q Q Q Q (AOD.nil (by kernel_rfl) (AWR.ent (Ent.tcut (enc := encTBar) (n := 6) (p := 7) (k := s2.1.toNat) (rows := j83.2.2.2.2.1) (r := x92) (idx_get hx92) (slc_hl hv94) Q Q) (AWR.draw mixed (Dp11 (LT.bload1 (c := (lo 8 j83.2.2.2.2.2.length)) Q ag65 (by exact Q)) Q Q Q Q (Dp10 (LT.move (v := (Iv s2.1)) Q) Q Q Q ?_)))))))))))
      refine Dp11 (LT.bload1 (c := (lo 8 j83.2.2.2.2.2.length)) Q ag65 (by exact Q)) Q Q Q Q (Dp10 (LT.move (v := (Iv s2.1)) Q) Q Q Q (AOD.bind fun x96 hx96 => (Dp21 (LT.xindex Q Q el65 hx96) Q Q Q Q Q (Dp11 (LT.xload Q ag45 hx96 Q) Q Q Q Q (Dp11 (LT.bload1 (c := (lo 8 j83.2.2.2.2.2.length)) Q ag65 (by exact Q)) Q Q Q Q (Dp10 (LT.move (v := (Iv s2.1)) Q) Q Q Q (AOD.bind fun x97 hx97 => (Dp21 (LT.xindex Q Q el65 hx97) Q Q Q Q Q (Dp11 (LT.xload Q ag45 hx97 Q) Q Q Q Q (Dp10 (LT.xlen Q und45) Q Q Q (Dp20 (LT.sub Q) Q y2 Q Q ?_)))))))))))
      refine AOD.bind fun v98 hv98 => (Dp21 (LT.tlslice (enc := encInt) Q Q und45 inf3 (idx_get hx96) (slc_spec hv98).2.1 (slc_hl hv98)) Q Q Q Q Q (AOD.bind fun x99 hx99 => (Dp21 (LT.xindex Q Q el65 hx99) Q Q Q Q Q (Ds21 (LT.xstore (e := 45) (p := 9) Q Q (infS inf45) sz45 hx99 Q) Q Q Q Q Q (AOD.nil (by kernel_rfl) (AWR.ent (Ent.tcut (enc := encInt) (n := 8) (p := 9) (k := s2.1.toNat) (rows := j83.2.2.2.2.2) (r := x96) (idx_get hx96) (slc_hl hv98) Q Q) (AWR.blk (Wr ?_))))))))
      refine Op20 (LT.add Q) Q y2 Q Q (mv (Iv (w64 (s2.1 + 1))) Q Q Q Q (On (AWR.nil ⟨Q,Ent.of z7 ⟨Q,Q,(congrArg (fun l1 => (some (Ob.row 150 [[(lo 6 l1)]]) : Option Ob)) (show j83.2.2.2.2.1.length = (j83.2.2.2.2.1.set s2.1.toNat (x92.take ((w64 ((x93.length : Int) - 1)).toNat))).length by simp only [List.length_set])),(congrArg (fun l1 => (some (Ob.row 65 [[(lo 8 l1)]]) : Option Ob)) (show j83.2.2.2.2.2.length = (j83.2.2.2.2.2.set s2.1.toNat (x96.take ((w64 ((x97.length : Int) - 1)).toNat))).length by simp only [List.length_set])),Q,Q,Q,Q,Q,Q,J⟩⟩)))
   ·refine AWR.exit_end Q ⟨Q,Ent.of J z10⟩
  ·refine Ws (Wr ?_)
   refine asg (Bv false) Q y2 Q Q (On (AWR.ret (FPost.mk (.inr Q) z1 z10 Q ⟨PermP.sc,J⟩ ⟨PermO.row1 ⟨PermP.sc,J,J⟩,PermO.row1 ⟨PermP.sc,J⟩,PermO.row1 ⟨J,J⟩,PermO.row1 ⟨J,J⟩,PermO.row1 ⟨J,J⟩,PermO.prow' perm_encTBar,J,PermO.poolR perm_encTBar _,J,PermO.poolR perm_encInt _,J⟩)))
theorem w_impl_PackTrees_c1 : ∀ (n : Nat) (e : Int) (capaV : TGraph) (capbV : Int) (capcV : (List (List TBar))) (capdV : (List (List Int))),∀ t,m_impl_PackTrees_c1 n e capaV capbV capcV capdV = some t → Fw.Fn Try.prog 185 [(.c (iC e)),(.c (.pl 0 0)),(.c (.pl 1 0)),(.c (.pl 2 0)),(.c (.pl 3 0)),(.c (.pl 4 0))] [(0,(.row 32 [[(iC capaV.Points),(lo 5 capaV.Bars.length)]])),(1,(.row 3 [[(iC capbV)]])),(2,(.row 150 [[(lo 6 capcV.length)]])),(3,(.row 65 [[(lo 8 capdV.length)]])),(4,(.row 62 [[(.fn 185 [0,1,2,3,4])]])),(5,(pR 112 encTBar capaV.Bars)),(6,(.trow 30 7 (lensOf capcV))),(7,(.pool 112 (rowsOf encTBar capcV))),(8,(.trow 45 9 (lensOf capdV))),(9,(.pool 3 (rowsOf encInt capdV)))] (.s (.c (bC t.1))) [(0,(.row 32 [[(iC t.2.1.Points),(lo 5 t.2.1.Bars.length)]])),(1,(.row 3 [[(iC t.2.2.1)]])),(2,(.row 150 [[(lo 6 t.2.2.2.1.length)]])),(3,(.row 65 [[(lo 8 t.2.2.2.2.length)]])),(4,(.row 62 [[(.fn 185 [0,1,2,3,4])]])),(5,(pR 112 encTBar t.2.1.Bars)),(6,(.trow 30 7 (lensOf t.2.2.2.1))),(7,(.pool 112 (rowsOf encTBar t.2.2.2.1))),(8,(.trow 45 9 (lensOf t.2.2.2.2))),(9,(.pool 3 (rowsOf encInt t.2.2.2.2)))] [0,1,2,3,4,5,6,7,8,9] [7,9]
  | 0,_,_,_,_,_ => fun _ h => by cases h
  | n + 1,e,capaV,capbV,capcV,capdV => w_impl_PackTrees_c1_B (m_impl_PackTrees_c1 n) (w_impl_PackTrees_c1 n) e capaV capbV capcV capdV
theorem w_impl_PackTrees (g : TGraph) (k : Int) : ∀ t,m_impl_PackTrees g k = some t → Fw.Fn Try.prog 126 [(.agg [(iC g.Points),(lo 0 g.Bars.length)]),(.c (iC k))] [(0,(pR 112 encTBar g.Bars))] (resA [(.c (lo 1 t.1.length)),(.c (bC t.2.1))]) [(0,(pR 112 encTBar t.2.2)),(1,(.trow 45 2 (lensOf t.1))),(2,(.pool 3 (rowsOf encInt t.1)))] [0] [1,2] := by
 refine Fw.Fn.of (P := Try.prog) (X := [1,2]) (pn := [0]) (rs := (fun (t : ((List (List Int)) × Bool × (List TBar))) => [(.c (lo 1 t.1.length)),(.c (bC t.2.1))])) (dfs := (fun (t : ((List (List Int)) × Bool × (List TBar))) => [(0,(pR 112 encTBar t.2.2)),(1,(.trow 45 2 (lensOf t.1))),(2,(.pool 3 (rowsOf encInt t.1)))])) Try.func126 Q Try.ntmps126 (K Q) Q ?_
 intro w0 U0 R0 g0
 unfold m_impl_PackTrees
 refine Ws (Wr ?_)
 refine Os10 (LT.box (n := 21) (v := (.agg [(iC g.Points),(lo 0 g.Bars.length)])) Q sz32 (by exact Q)) Q Q Q (Os10 (LT.box (n := 22) (v := (.c (iC k))) Q sz3 (by exact Q)) Q Q Q (asg (Cc (sC nilV)) Q y2 Q Q (asg (Bv false) Q y2 Q Q (On (Ws (Ws ?_))))))
 refine AWR.joinK (fun j5 => ([(2,(Cc (.pl 21 0))),(3,(Cc (.pl 22 0))),(24,(Bv j5))],[(0,(pR 112 encTBar g.Bars)),(21,(.row 32 [[(iC g.Points),(lo 0 g.Bars.length)]])),(22,(.row 3 [[(iC k)]]))])) ?_ (fun j5 _ => ?_)
 ·refine Wr (Op11 (LT.bload1 (c := (iC k)) Q ag3 (by exact Q)) Q Q Q Q (Ob' fun r6 hr6 => (AOR.pure (@LT.callF Try.prog _ _ 113 _ _ [(.c (iC k)),(.c (iC 1)),(.c (iC 3))] _ _ [] _ _ _ _ (w_impl_within k 1 3 r6 hr6) Q cb113 (.cons (.c (.same Q)) (.cons (.c (.same Q)) (.cons (.c (.same Q)) .nil))) Q Q J) ⟨Q,Q,y2,y2,J⟩ J Q Q (Op10 (LT.not Q) Q Q Q (mv (Bv (!r6)) Q Q Q Q (AOR.split (fun hb7 => ?_) (fun hb7 => ?_)))))))
  ·refine Ok Q Q Q (by rw [hb7]; rfl) Q (Ok Q Q Q (by rw [hb7]; rfl) Q (Ok Q Q Q (by rw [hb7]; rfl) Q (Ok Q Q Q (by rw [hb7]; rfl) Q (Ok Q Q Q (by rw [hb7]; rfl) Q (Op20 (LT.pickT (v := (Bv true)) Q hb7) Q y2 Q Q (mv (Bv true) Q Q Q Q (Ok Q Q Q Q Q (Ok Q Q Q Q Q (Ok Q Q Q Q Q (Op20 (LT.pickT (v := (Bv true)) Q Q) Q y2 Q Q (On ?_)))))))))))
   refine AWR.nil ⟨Q,Ent.of z3 z3⟩
  ·refine Op11 (LT.bloadN (out := [(iC g.Points),(lo 0 g.Bars.length)]) Q ag32 (infS inf32) sz32 (by exact Q) (by exact Q)) Q Q (gH hb7 Q Q) Q (Op11 (LT.bload1 (c := (iC k)) Q ag3 (by exact Q)) Q Q (gH hb7 Q Q) Q (Op11 (LT.bload1 (c := (iC k)) Q ag3 (by exact Q)) Q Q (gH hb7 Q Q) Q (Ob' fun r8 hr8 => (AOR.pure (@LT.callF Try.prog _ _ 184 _ _ [(.agg [(iC g.Points),(lo 0 g.Bars.length)]),(.c (iC k)),(.c (iC k))] _ _ [(0,(pR 112 encTBar g.Bars))] _ _ _ _ (w_impl_IsTight g k k r8 hr8) Q cb184 (.cons (.agg (.cons (.same Q) (.cons (.tloc Q Q) .nil))) (.cons (.c (.same Q)) (.cons (.c (.same Q)) .nil))) Q Q J) z4 z1 (gH hb7 Q Q) Q (Op10 (LT.not Q) Q (gH hb7 Q Q) Q (Op20 (LT.pickF (v := (Bv (!r8))) Q hb7) Q Q Q Q (mv (Bv (!r8)) Q Q Q Q (AOR.split (fun hb9 => ?_) (fun hb9 => ?_)))))))))
   ·refine Ok Q Q Q (by rw [hb9]; rfl) Q (Ok Q Q Q (by rw [hb9]; rfl) Q (Ok Q Q Q (by rw [hb9]; rfl) Q (Op20 (LT.pickT (v := (Bv true)) Q hb9) Q y2 Q Q (On (AWR.nil ⟨Q,Ent.of z3 z3⟩)))))
   ·refine Op10 (LT.fieldPl Q fo32_0) Q (gH hb9 Q Q) Q (Op11 (LT.bload1 (c := (iC g.Points)) Q ag3 (by exact Q)) Q Q (gH hb9 Q Q) Q (Op20 (LT.gtr Q) Q y2 (gH hb9 Q Q) Q (Op20 (LT.pickF (v := (Bv (decide (5 < g.Points)))) Q hb9) Q Q Q Q (On (AWR.nil ⟨Q,Ent.of z3 z3⟩)))))
 ·refine AWR.cond Q (fun hc10 => ?_) (fun hc10 => ?_)
  ·refine Ws (Wr ?_)
   refine Os00 (LT.buildSlice (n := 25) (els := []) [] Q Q und65 ti45 Q Q Q Q (by decide) Q Q) Q Q (asg (Cc (lo 25 0)) Q Q Q Q (asg (Bv false) Q y2 Q Q (On (AWR.ent (Ent.poolE 26 3 Q) (AWR.ent (Ent.trow (n := 25) (p := 26) (lens := lensOf ([] : List (List Int))) (List.append_nil _) Q) (en [(4,(Cc (lo 25 0))),(5,(Bv false))] [(0,(pR 112 encTBar g.Bars)),(25,(.trow 45 26 (lensOf ([] : List (List Int))))),(26,(.pool 3 (rowsOf encInt ([] : List (List Int)))))] z2 z3 (AWR.ent (Ent.mv 25 1 Q Q) (AWR.ent (Ent.mv 26 2 Q Q) (en [(4,(Cc (lo 1 (([] : List (List Int)).length)))),(5,(Bv false))] [(0,(pR 112 encTBar g.Bars)),(1,(.trow 45 2 (lensOf ([] : List (List Int))))),(2,(.pool 3 (rowsOf encInt ([] : List (List Int)))))] z2 z3 (AWR.ret (FPost.mk (.inr Q) z2 z3 Q ⟨J,PermP.sc,J⟩ ⟨PermO.prow' perm_encTBar,J,PermO.poolR perm_encInt _,J⟩)))))))))))
  ·refine AWR.skip (Ws (Wr ?_))
   refine Op11 (LT.bload1 (c := (iC k)) Q ag3 (by exact Q)) Q Q Q Q (Ob' fun u11 hu11 => (Os20 (LT.xmake (n := 27) Q und150 ti30 (by decide) (lenOk_le hu11)) Q Q Q Q (Os00 (LT.alloc (n := 28) (cells := [(sC nilV)]) Q ti150 Q Q Q) Q Q (Os21 (LT.bstore (v := (.c (lo 27 k.toNat))) (out := [(lo 27 k.toNat)]) Q Q (infS inf150) sz150 (by exact Q) (by exact K Q) (by exact Q)) Q Q Q Q Q (On (AWR.ent (poolN2 (enc := encTBar) (n := 27) (p := 29) (c := k.toNat) (e := 30) (e2 := 112) Q (by simp only [List.map_replicate]; try rfl) Q) (Ws (Wr ?_))))))))
   refine Op11 (LT.bload1 (c := (iC k)) Q ag3 (by exact Q)) Q Q Q Q (Ob' fun u12 hu12 => (Os20 (LT.xmake (n := 30) Q und65 ti45 (by decide) (lenOk_le hu12)) Q Q Q Q (Os00 (LT.alloc (n := 31) (cells := [(sC nilV)]) Q ti65 Q Q Q) Q Q (Os21 (LT.bstore (v := (.c (lo 30 k.toNat))) (out := [(lo 30 k.toNat)]) Q Q (infS inf65) sz65 (by exact Q) (by exact K Q) (by exact Q)) Q Q Q Q Q (On (AWR.ent (poolN2 (enc := encInt) (n := 30) (p := 32) (c := k.toNat) (e := 45) (e2 := 3) Q (by simp only [List.map_replicate]; try rfl) Q) (Ws (Ws (Wr ?_)))))))))
   refine Op11 (LT.bload1 (c := (lo 30 k.toNat)) Q ag65 (by exact Q)) Q Q Q Q (Op10 (LT.lenLoc Q und65) Q Q Q (mv (Iv 0) Q y2 Q Q (On (AWR.block ?_))))
   refine AWR.loop1 (id := 0) (m_impl_PackTrees_L1 k) (fun s13 => ([(2,(Cc (.pl 21 0))),(3,(Cc (.pl 22 0))),(6,(Cc (.pl 28 0))),(7,(Cc (.pl 31 0))),(31,(Iv (k.toNat : Int))),(32,(Iv s13.1))],[(0,(pR 112 encTBar g.Bars)),(21,(.row 32 [[(iC g.Points),(lo 0 g.Bars.length)]])),(22,(.row 3 [[(iC k)]])),(27,(.trow 30 29 (lensOf (List.replicate k.toNat ([] : List TBar))))),(28,(.row 150 [[(lo 27 ((List.replicate k.toNat ([] : List TBar)).length))]])),(29,(.pool 112 (rowsOf encTBar (List.replicate k.toNat ([] : List TBar))))),(30,(.trow 45 32 (lensOf s13.2))),(31,(.row 65 [[(lo 30 s13.2.length)]])),(32,(.pool 3 (rowsOf encInt s13.2)))])) (fun b18 => ([(2,(Cc (.pl 21 0))),(3,(Cc (.pl 22 0))),(6,(Cc (.pl 28 0))),(7,(Cc (.pl 31 0)))],[(0,(pR 112 encTBar g.Bars)),(21,(.row 32 [[(iC g.Points),(lo 0 g.Bars.length)]])),(22,(.row 3 [[(iC k)]])),(27,(.trow 30 29 (lensOf (List.replicate k.toNat ([] : List TBar))))),(28,(.row 150 [[(lo 27 ((List.replicate k.toNat ([] : List TBar)).length))]])),(29,(.pool 112 (rowsOf encTBar (List.replicate k.toNat ([] : List TBar))))),(30,(.trow 45 32 (lensOf b18))),(31,(.row 65 [[(lo 30 b18.length)]])),(32,(.pool 3 (rowsOf encInt b18)))])) ?_ (Ent.of z6 ⟨Q,Q,Q,Q,(congrArg (fun l1 => (some (Ob.row 150 [[(lo 27 l1)]]) : Option Ob)) (show k.toNat = (List.replicate k.toNat ([] : List TBar)).length from List.length_replicate.symm)),Q,Q,(congrArg (fun l1 => (some (Ob.row 65 [[(lo 30 l1)]]) : Option Ob)) (show k.toNat = (List.replicate k.toNat ([] : List Int)).length from List.length_replicate.symm)),Q,J⟩) Q (fun b18 _ => ?_)
   ·intro s13
    unfold m_impl_PackTrees_L1
    refine Ws (Wr ?_)
    refine Op20 (LT.lss Q) Q Q Q Q (On (Ws ?_))
    refine AWR.cond Q (fun hc19 => ?_) (fun hc19 => ?_)
    ·refine AWR.skip (Ws (AWR.block (Ws (Wr ?_))))
     refine mv (Iv s13.1) Q Q Q Q (asg (Iv s13.1) Q Q Q Q (On (Wr ?_)))
     refine Op11 (LT.bload1 (c := (lo 30 s13.2.length)) Q ag65 (by exact Q)) Q Q Q Q (mv (Iv s13.1) Q Q Q Q (Os00 (LT.tbuildSlice (n := 33) (enc := encInt) [] ([] : List Int) Q Q und45 ti3 Q Q Q Q (by decide) (fun _ => Q) Q) Q Q (Ob' fun x20 hx20 => (Op21 (LT.xindex Q Q el65 hx20) Q Q Q Q Q (Os21 (LT.xstore (e := 45) (p := 32) Q Q (infS inf45) sz45 hx20 Q) Q Q Q Q Q (On (AWR.ent (Ent.tadoptAt (enc := encInt) (n := 30) (m := 33) (p := 32) (k := s13.1.toNat) (rows := s13.2) (r := ([] : List Int)) Q (List.getElem?_eq_some_iff.1 (idx_get hx20)).1 Q Q Q Q) ?_)))))))
     refine AWR.ent (Ent.trow (n := 30) (p := 32) (lens := lensOf (s13.2.set s13.1.toNat ([] : List Int))) Q Q) (AWR.blk (Wr ?_))
     refine Op20 (LT.add Q) Q y2 Q Q (mv (Iv (w64 (s13.1 + 1))) Q Q Q Q (On (AWR.nil ⟨Q,Ent.of z6 ⟨Q,Q,Q,Q,Q,Q,Q,(congrArg (fun l1 => (some (Ob.row 65 [[(lo 30 l1)]]) : Option Ob)) (show s13.2.length = (s13.2.set s13.1.toNat ([] : List Int)).length by simp only [List.length_set])),Q,J⟩⟩)))
    ·refine AWR.exit_end Q ⟨Q,Ent.of z4 z9⟩
   ·refine Ws (Wr ?_)
    refine Os00 (LT.alloc (n := 34) (cells := [(sC .nilFunc)]) Q ti62 Q Q Q) Q Q (On (Ws (Wr ?_)))
    refine AOR.pure (LT.makeFuncC [21,22,28,31,34] Q Q) z5 J Q Q (Os21 (LT.bstore (v := (.c (.fn 185 [21,22,28,31,34]))) (out := [(.fn 185 [21,22,28,31,34])]) Q Q (infS inf62) sz62 (by exact Q) (by exact K Q) (by exact Q)) Q Q Q Q Q (On (Ws (Ws (Wr ?_)))))
    refine Op11 (LT.bload1 (c := (.fn 185 [21,22,28,31,34])) Q ag62 (by exact Q)) Q Q Q Q (Ob' fun r21 hr21 => (AOR.step (LT.callC (P := Try.prog) (f := 185) (xs := [(.c (iC 0))]) (sh := []) [21,22,28,31,34] [(.c (iC 0))] ((show Fw.Fn Try.prog 185 [(.c (iC 0)),(.c (.pl 21 0)),(.c (.pl 22 0)),(.c (.pl 28 0)),(.c (.pl 31 0)),(.c (.pl 34 0))] [(21,(.row 32 [[(iC g.Points),(lo 0 g.Bars.length)]])),(22,(.row 3 [[(iC k)]])),(28,(.row 150 [[(lo 27 ((List.replicate k.toNat ([] : List TBar)).length))]])),(31,(.row 65 [[(lo 30 b18.length)]])),(34,(.row 62 [[(.fn 185 [21,22,28,31,34])]])),(0,(pR 112 encTBar g.Bars)),(27,(.trow 30 29 (lensOf (List.replicate k.toNat ([] : List TBar))))),(29,(.pool 112 (rowsOf encTBar (List.replicate k.toNat ([] : List TBar))))),(30,(.trow 45 32 (lensOf b18))),(32,(.pool 3 (rowsOf encInt b18)))] (Bv r21.1) [(21,(.row 32 [[(iC r21.2.1.Points),(lo 0 r21.2.1.Bars.length)]])),(22,(.row 3 [[(iC r21.2.2.1)]])),(28,(.row 150 [[(lo 27 r21.2.2.2.1.length)]])),(31,(.row 65 [[(lo 30 r21.2.2.2.2.length)]])),(34,(.row 62 [[(.fn 185 [21,22,28,31,34])]])),(0,(pR 112 encTBar r21.2.1.Bars)),(27,(.trow 30 29 (lensOf r21.2.2.2.1))),(29,(.pool 112 (rowsOf encTBar r21.2.2.2.1))),(30,(.trow 45 32 (lensOf r21.2.2.2.2))),(32,(.pool 3 (rowsOf encInt r21.2.2.2.2)))] [21,22,28,31,34,0,27,29,30,32] [29,32] from Fw.Fn.ren [(0,21),(1,22),(2,28),(3,31),(4,34),(5,0),(6,27),(7,29),(8,30),(9,32)] (w_impl_PackTrees_c1 64 0 g k (List.replicate k.toNat ([] : List TBar)) b18 r21 hr21) Q)) Q cb185 (.cons (.c (.same Q)) .nil) Q Q z10) ⟨Q,y2,J⟩ z10 Q Q (Op10 (LT.not Q) Q Q Q (On (AWR.cond Q (fun hc22 => ?_) (fun hc22 => ?_))))))
    ·refine Ws (en [] [(0,(pR 112 encTBar r21.2.1.Bars))] J z1 (Wr (Os00 (LT.buildSlice (n := 36) (els := []) [] Q Q und65 ti45 Q Q Q Q (by decide) Q Q) Q Q (asg (Cc (lo 36 0)) Q Q Q Q (asg (Bv false) Q y2 Q Q (On (AWR.ent (Ent.poolE 37 3 Q) (AWR.ent (Ent.trow (n := 36) (p := 37) (lens := lensOf ([] : List (List Int))) (List.append_nil _) Q) (en [(4,(Cc (lo 36 0))),(5,(Bv false))] [(0,(pR 112 encTBar r21.2.1.Bars)),(36,(.trow 45 37 (lensOf ([] : List (List Int))))),(37,(.pool 3 (rowsOf encInt ([] : List (List Int)))))] z2 z3 (AWR.ent (Ent.mv 36 1 Q Q) (AWR.ent (Ent.mv 37 2 Q Q) ?_)))))))))))
     refine en [(4,(Cc (lo 1 (([] : List (List Int)).length)))),(5,(Bv false))] [(0,(pR 112 encTBar r21.2.1.Bars)),(1,(.trow 45 2 (lensOf ([] : List (List Int))))),(2,(.pool 3 (rowsOf encInt ([] : List (List Int)))))] z2 z3 (AWR.ret (FPost.mk (.inr Q) z2 z3 Q ⟨J,PermP.sc,J⟩ ⟨PermO.prow' perm_encTBar,J,PermO.poolR perm_encInt _,J⟩))
    ·refine AWR.skip (Ws ?_)
     refine en [(7,(Cc (.pl 31 0)))] [(0,(pR 112 encTBar r21.2.1.Bars)),(30,(.trow 45 32 (lensOf r21.2.2.2.2))),(31,(.row 65 [[(lo 30 r21.2.2.2.2.length)]])),(32,(.pool 3 (rowsOf encInt r21.2.2.2.2)))] z1 z4 (Wr (Op11 (LT.bload1 (c := (lo 30 r21.2.2.2.2.length)) Q ag65 (by exact Q)) Q Q Q Q (asg (Cc (lo 30 r21.2.2.2.2.length)) Q Q Q Q (asg (Bv true) Q y2 Q Q (On (en [(4,(Cc (lo 30 r21.2.2.2.2.length))),(5,(Bv true))] [(0,(pR 112 encTBar r21.2.1.Bars)),(30,(.trow 45 32 (lensOf r21.2.2.2.2))),(32,(.pool 3 (rowsOf encInt r21.2.2.2.2)))] z2 z3 (AWR.ent (Ent.mv 30 1 Q Q) (AWR.ent (Ent.mv 32 2 Q Q) (en [(4,(Cc (lo 1 r21.2.2.2.2.length))),(5,(Bv true))] [(0,(pR 112 encTBar r21.2.1.Bars)),(1,(.trow 45 2 (lensOf r21.2.2.2.2))),(2,(.pool 3 (rowsOf encInt r21.2.2.2.2)))] z2 z3 (AWR.ret (FPost.mk (.inr Q) z2 z3 Q ⟨J,PermP.sc,J⟩ ⟨PermO.prow' perm_encTBar,J,PermO.poolR perm_encInt _,J⟩)))))))))))
theorem w_impl_BodyTrees (g : TGraph) : ∀ t,m_impl_BodyTrees g = some t → Fw.Fn Try.prog 47 [(.agg [(iC g.Points),(xF encTBar g.Bars)])] [] (resA [(.c (lo 0 t.1.length)),(.c (bC t.2))]) [(0,(.trow 45 1 (lensOf t.1))),(1,(.pool 3 (rowsOf encInt t.1)))] [] [0,1] := by
 refine Fw.Fn.of (P := Try.prog) (X := [0,1]) (pn := []) (rs := (fun (t : ((List (List Int)) × Bool)) => [(.c (lo 0 t.1.length)),(.c (bC t.2))])) (dfs := (fun (t : ((List (List Int)) × Bool)) => [(0,(.trow 45 1 (lensOf t.1))),(1,(.pool 3 (rowsOf encInt t.1)))])) Try.func47 Q Try.ntmps47 (K Q) Q ?_
 intro w0 U0 R0 g0
 unfold m_impl_BodyTrees
 refine Ws (Wr ?_)
 refine Os10 (LT.box (n := 21) (v := (.agg [(iC g.Points),(xF encTBar g.Bars)])) Q sz32 (by exact Q)) Q Q Q (asg (Cc (sC nilV)) Q y2 Q Q (asg (Bv false) Q y2 Q Q (On (Ws (Ws ?_)))))
 refine AWR.joinK (fun j3 => ([(1,(Cc (.pl 21 0))),(18,(Bv j3))],[(21,(.row 32 [[(iC g.Points),(xF encTBar g.Bars)]]))])) ?_ (fun j3 _ => ?_)
 ·refine Wr (Op11 (LT.bloadN (out := [(iC g.Points),(xF encTBar g.Bars)]) Q ag32 (infS inf32) sz32 (by exact Q) (by exact Q)) Q Q Q Q (Ob' fun r4 hr4 => (AOR.pure (@LT.callF Try.prog _ _ 124 _ _ [(.agg [(iC g.Points),(xF encTBar g.Bars)])] _ _ [] _ _ _ _ (w_impl_IsBodyRigid g r4 hr4) Q cb124 (.cons (.agg (.cons (.same Q) (.cons (.same Q) .nil))) .nil) Q Q J) z2 J Q Q (Op10 (LT.not Q) Q Q Q (mv (Bv (!r4)) Q Q Q Q (AOR.split (fun hb5 => ?_) (fun hb5 => ?_)))))))
  ·refine Ok Q Q Q (by rw [hb5]; rfl) Q (Ok Q Q Q (by rw [hb5]; rfl) Q (Ok Q Q Q (by rw [hb5]; rfl) Q (Op20 (LT.pickT (v := (Bv true)) Q hb5) Q y2 Q Q (On (AWR.nil ⟨Q,Ent.of z2 z1⟩)))))
  ·refine Op10 (LT.fieldPl Q fo32_0) Q (gH hb5 Q Q) Q (Op11 (LT.bload1 (c := (iC g.Points)) Q ag3 (by exact Q)) Q Q (gH hb5 Q Q) Q (Op20 (LT.gtr Q) Q y2 (gH hb5 Q Q) Q (Op20 (LT.pickF (v := (Bv (decide (4 < g.Points)))) Q hb5) Q Q Q Q (On (AWR.nil ⟨Q,Ent.of z2 z1⟩)))))
 ·refine AWR.cond Q (fun hc6 => ?_) (fun hc6 => ?_)
  ·refine Ws (Wr ?_)
   refine Os00 (LT.buildSlice (n := 23) (els := []) [] Q Q und65 ti45 Q Q Q Q (by decide) Q Q) Q Q (asg (Cc (lo 23 0)) Q Q Q Q (asg (Bv false) Q y2 Q Q (On (AWR.ent (Ent.poolE 24 3 Q) (AWR.ent (Ent.trow (n := 23) (p := 24) (lens := lensOf ([] : List (List Int))) (List.append_nil _) Q) (en [(2,(Cc (lo 23 0))),(3,(Bv false))] [(23,(.trow 45 24 (lensOf ([] : List (List Int))))),(24,(.pool 3 (rowsOf encInt ([] : List (List Int)))))] z2 z2 (AWR.ent (Ent.mv 23 0 Q Q) (AWR.ent (Ent.mv 24 1 Q Q) (en [(2,(Cc (lo 0 (([] : List (List Int)).length)))),(3,(Bv false))] [(0,(.trow 45 1 (lensOf ([] : List (List Int))))),(1,(.pool 3 (rowsOf encInt ([] : List (List Int)))))] z2 z2 (AWR.ret (FPost.mk (.inr Q) z2 z2 Q ⟨J,PermP.sc,J⟩ ⟨J,PermO.poolR perm_encInt _,J⟩)))))))))))
  ·refine AWR.skip (Ws (Wr ?_))
   refine Op11 (LT.bloadN (out := [(iC g.Points),(xF encTBar g.Bars)]) Q ag32 (infS inf32) sz32 (by exact Q) (by exact Q)) Q Q Q Q (Ob' fun r7 hr7 => (AOR.step (@LT.callF Try.prog _ _ 125 _ _ [(.agg [(iC g.Points),(xF encTBar g.Bars)]),(.c (iC 3)),(.c (iC 3))] _ _ [] _ _ _ _ ((show Fw.Fn Try.prog 125 [(.agg [(iC g.Points),(xF encTBar g.Bars)]),(.c (iC 3)),(.c (iC 3))] [] (Cc (lo 26 r7.length)) [(26,(pR 3 encInt r7))] [] [26] from Fw.Fn.ren [(0,26)] (w_impl_AcceptedBars g 3 3 r7 hr7) Q)) Q cb125 (.cons (.agg (.cons (.same Q) (.cons (.same Q) .nil))) (.cons (.c (.same Q)) (.cons (.c (.same Q)) .nil))) Q Q J) ⟨Q,Q,y2,y2,J⟩ J Q Q (asg (Cc (lo 26 r7.length)) Q Q Q Q (On (Ws (Wr ?_))))))
   refine Op11 (LT.bloadN (out := [(iC g.Points),(xF encTBar g.Bars)]) Q ag32 (infS inf32) sz32 (by exact Q) (by exact Q)) Q Q Q Q (mv (Cc (lo 26 r7.length)) Q Q Q Q (Ob' fun r8 hr8 => (AOR.step (@LT.callF Try.prog _ _ 127 _ _ [(.agg [(iC g.Points),(xF encTBar g.Bars)]),(.c (lo 26 r7.length))] _ _ [(26,(pR 3 encInt r7))] _ _ _ _ ((show Fw.Fn Try.prog 127 [(.agg [(iC g.Points),(xF encTBar g.Bars)]),(.c (xF encInt r7))] [] (Ag  [(iC r8.Points),(lo 28 r8.Bars.length)]) [(28,(pR 112 encTBar r8.Bars))] [] [28] from Fw.Fn.ren [(0,28)] (w_impl_OnlyBars g r7 r8 hr8) Q)) Q cb127 (.cons (.agg (.cons (.same Q) (.cons (.same Q) .nil))) (.cons (.c (.tloc Q Q)) .nil)) Q Q J) z3 z1 Q Q (Ob' fun r9 hr9 => (AOR.step (@LT.callF Try.prog _ _ 126 _ _ [(.agg [(iC r8.Points),(lo 28 r8.Bars.length)]),(.c (iC 3))] _ _ [] _ _ _ _ ((show Fw.Fn Try.prog 126 [(.agg [(iC r8.Points),(lo 28 r8.Bars.length)]),(.c (iC 3))] [(28,(pR 112 encTBar r8.Bars))] (.tup [(.c (lo 30 r9.1.length)),(.c (bC r9.2.1))]) [(28,(pR 112 encTBar r9.2.2)),(30,(.trow 45 31 (lensOf r9.1))),(31,(.pool 3 (rowsOf encInt r9.1)))] [28] [30,31] from Fw.Fn.ren [(0,28),(1,30),(2,31)] (w_impl_PackTrees r8 3 r9 hr9) Q)) Q cb126 (.cons (.agg (.cons (.same Q) (.cons (.same Q) .nil))) (.cons (.c (.same Q)) .nil)) Q Q z1) ⟨Q,Q,y2,J⟩ z1 Q Q (mv (.tup [(.c (lo 30 r9.1.length)),(.c (bC r9.2.1))]) Q Q Q Q (Op10 (LT.extract (v := (.c (lo 30 r9.1.length))) Q (by exact Q)) Q Q Q (Op10 (LT.extract (v := (.c (bC r9.2.1))) Q (by exact Q)) Q Q Q (asg (Cc (lo 30 r9.1.length)) Q Q Q Q (asg (Bv r9.2.1) Q Q Q Q (On (Ws (Ws ?_)))))))))))))
   refine en [(4,(Cc (lo 26 r7.length))),(5,(Cc (lo 30 r9.1.length))),(6,(Bv r9.2.1))] [(26,(pR 3 encInt r7)),(30,(.trow 45 31 (lensOf r9.1))),(31,(.pool 3 (rowsOf encInt r9.1)))] z3 z3 (Wr (mv (Bv r9.2.1) Q Q Q Q (Op10 (LT.not Q) Q Q Q (On (AWR.cond Q (fun hc10 => ?_) (fun hc10 => ?_))))))
   ·refine Ws (Wr ?_)
    refine Os00 (LT.buildSlice (n := 32) (els := []) [] Q Q und65 ti45 Q Q Q Q (by decide) Q Q) Q Q (asg (Cc (lo 32 0)) Q Q Q Q (asg (Bv false) Q y2 Q Q (On (AWR.ent (Ent.poolE 33 3 Q) (AWR.ent (Ent.trow (n := 32) (p := 33) (lens := lensOf ([] : List (List Int))) (List.append_nil _) Q) (en [(2,(Cc (lo 32 0))),(3,(Bv false))] [(32,(.trow 45 33 (lensOf ([] : List (List Int))))),(33,(.pool 3 (rowsOf encInt ([] : List (List Int)))))] z2 z2 (AWR.ent (Ent.mv 32 0 Q Q) (AWR.ent (Ent.mv 33 1 Q Q) (en [(2,(Cc (lo 0 (([] : List (List Int)).length)))),(3,(Bv false))] [(0,(.trow 45 1 (lensOf ([] : List (List Int))))),(1,(.pool 3 (rowsOf encInt ([] : List (List Int)))))] z2 z2 (AWR.ret (FPost.mk (.inr Q) z2 z2 Q ⟨J,PermP.sc,J⟩ ⟨J,PermO.poolR perm_encInt _,J⟩)))))))))))
   ·refine AWR.skip (Ws (Ws (Wr ?_)))
    refine mv (Cc (lo 30 r9.1.length)) Q Q Q Q (Op10 (LT.lenLoc Q und65) Q Q Q (mv (Iv 0) Q y2 Q Q (On (AWR.block ?_))))
    refine AWR.loop1 (id := 0) (m_impl_BodyTrees_L3) (fun s11 => ([(4,(Cc (lo 26 s11.2.2.1.length))),(5,(Cc (lo 30 s11.2.2.2.length))),(32,(Cc (lo 30 s11.2.2.2.length))),(33,(Iv s11.1)),(34,(Iv s11.2.1))],[(26,(pR 3 encInt s11.2.2.1)),(30,(.trow 45 31 (lensOf s11.2.2.2))),(31,(.pool 3 (rowsOf encInt s11.2.2.2)))])) (fun b44 => ([(5,(Cc (lo 30 b44.length)))],[(30,(.trow 45 31 (lensOf b44))),(31,(.pool 3 (rowsOf encInt b44)))])) ?_ (Ent.of z5 z3) Q (fun b44 _ => ?_)
    ·intro s11
     unfold m_impl_BodyTrees_L3
     refine Ws (Wr ?_)
     refine Op20 (LT.lss Q) Q Q Q Q (On (Ws ?_))
     refine AWR.cond Q (fun hc45 => ?_) (fun hc45 => ?_)
     ·refine AWR.skip (Ws (AWR.block (Ws (Wr ?_))))
      refine Ob' fun x46 hx46 => (Op21 (LT.xindex Q Q el65 hx46) Q Q Q Q Q (Op11 (LT.xload Q ag45 hx46 Q) Q Q Q Q (asg (Cc (.tl 31 s11.2.1.toNat 0 x46.length)) Q Q Q Q (On (Ws (Wr ?_))))))
      refine mv (Cc (.tl 31 s11.2.1.toNat 0 x46.length)) Q Q Q Q (Op10 (LT.xlen Q und45) Q Q Q (mv (Iv 0) Q y2 Q Q (On (AWR.block ?_))))
      refine AWR.loop1 (id := 2) (m_impl_BodyTrees_L4 s11 x46) (fun s47 => ([(4,(Cc (lo 26 s11.2.2.1.length))),(5,(Cc (lo 30 s47.2.length))),(8,(Cc (.tl 31 s11.2.1.toNat 0 x46.length))),(32,(Cc (lo 30 s47.2.length))),(33,(Iv s11.1)),(34,(Iv s11.2.1)),(38,(Cc (.tl 31 s11.2.1.toNat 0 x46.length))),(39,(Iv (x46.length : Int))),(40,(Iv s47.1))],[(26,(pR 3 encInt s11.2.2.1)),(30,(.trow 45 31 (lensOf s47.2))),(31,(.pool 3 (rowsOf encInt s47.2)))])) (fun b60 => ([(4,(Cc (lo 26 b60.2.2.1.length))),(5,(Cc (lo 30 b60.2.2.2.length))),(32,(Cc (lo 30 b60.2.2.2.length))),(33,(Iv b60.1)),(34,(Iv b60.2.1))],[(26,(pR 3 encInt b60.2.2.1)),(30,(.trow 45 31 (lensOf b60.2.2.2))),(31,(.pool 3 (rowsOf encInt b60.2.2.2)))])) ?_ (Ent.of z9 z3) Q (fun b60 _ => ?_)
      ·intro s47
       unfold m_impl_BodyTrees_L4
       refine Ws (Wr ?_)
       refine Op20 (LT.lss Q) Q Q Q Q (On (Ws ?_))
       refine AWR.cond Q (fun hc61 => ?_) (fun hc61 => ?_)
       ·refine AWR.skip (Ws (AWR.block (Ws (Wr ?_))))
        refine mv (Iv s47.1) Q Q Q Q (Ob' fun x62 hx62 => (Ob' fun u63 hu63 => (Ob' fun x64 hx64 => (Op21 (LT.tlindex (same_eq hu63) Q el45 (idx_get hx62) hx64) Q Q Q Q Q (Op11 (LT.tlload1 (enc := encInt) (j := 0) Q ag3 (idx_get hx62) hx64 (by exact Q) (by exact Q)) Q Q Q Q (asg (Iv s47.1) Q Q Q Q (asg (Iv x64) Q Q Q Q (On (Wr ?_)))))))))
        refine mv (Cc (.tl 31 s11.2.1.toNat 0 x46.length)) Q Q Q Q (mv (Iv s47.1) Q Q Q Q (mv (Cc (lo 26 s11.2.2.1.length)) Q Q Q Q (mv (Iv x64) Q Q Q Q (Ob' fun x65 hx65 => (Op21 (LT.tindexLoc Q Q el45 hx65) Q Q Q Q Q (Op11 (LT.tload1 (k := 0) Q ag3 hx65 (by exact Q) (by exact Q)) Q Q Q Q (Ob' fun x66 hx66 => (Ob' fun u67 hu67 => (Ob' fun x68 hx68 => (Op21 (LT.tlindex (same_eq hu67) Q el45 (idx_get hx66) hx68) Q Q Q Q Q (Os21 (LT.tlstore (enc := encInt) (j := 0) (b' := x65) (v := (.int .i64 x65)) 34 Q Q (infS inf3) sz3 Q (idx_get hx66) hx68 (by exact Q) (by exact K Q) (by exact Q) Q) Q Q Q Q Q ?_)))))))))))
        refine On (AWR.ent (Ent.lens (n := 30) (lens_set (r' := (x66.set s47.1.toNat x65)) (idx_get hx66) (List.length_set ..)) Q) (AWR.blk (en [(4,(Cc (lo 26 s11.2.2.1.length))),(5,(Cc (lo 30 s47.2.length))),(8,(Cc (.tl 31 s11.2.1.toNat 0 x46.length))),(32,(Cc (lo 30 s47.2.length))),(33,(Iv s11.1)),(34,(Iv s11.2.1)),(38,(Cc (.tl 31 s11.2.1.toNat 0 x46.length))),(39,(Iv (x46.length : Int))),(40,(Iv s47.1))] [(26,(pR 3 encInt s11.2.2.1)),(30,(.trow 45 31 (lensOf (s47.2.set s11.2.1.toNat (x66.set s47.1.toNat x65))))),(31,(.pool 3 (rowsOf encInt (s47.2.set s11.2.1.toNat (x66.set s47.1.toNat x65)))))] z9 z3 (Wr (Op20 (LT.add Q) Q y2 Q Q (mv (Iv (w64 (s47.1 + 1))) Q Q Q Q (On (AWR.nil ⟨Q,Ent.of ⟨Q,(congrArg (fun l1 => (some (AV.s (.c (lo 30 l1))) : Option AV)) (show s47.2.length = (s47.2.set s11.2.1.toNat (x66.set s47.1.toNat x65)).length by simp only [List.length_set])),Q,(congrArg (fun l1 => (some (AV.s (.c (lo 30 l1))) : Option AV)) (show s47.2.length = (s47.2.set s11.2.1.toNat (x66.set s47.1.toNat x65)).length by simp only [List.length_set])),Q,Q,Q,Q,Q,J⟩ z3⟩))))))))
       ·refine AWR.exit_end Q ⟨Q,Ent.of z5 z3⟩
      ·refine AWR.blk (Wr ?_)
       refine Op20 (LT.add Q) Q y2 Q Q (mv (Iv (w64 (b60.2.1 + 1))) Q Q Q Q (On (AWR.nil ⟨Q,Ent.of z5 z3⟩)))
     ·refine AWR.exit_end Q ⟨Q,Ent.of z1 z2⟩
    ·refine Ws (Wr ?_)
     refine mv (Cc (lo 30 b44.length)) Q Q Q Q (asg (Cc (lo 30 b44.length)) Q Q Q Q (asg (Bv true) Q y2 Q Q (On (en [(2,(Cc (lo 30 b44.length))),(3,(Bv true))] [(30,(.trow 45 31 (lensOf b44))),(31,(.pool 3 (rowsOf encInt b44)))] z2 z2 (AWR.ent (Ent.mv 30 0 Q Q) (AWR.ent (Ent.mv 31 1 Q Q) (en [(2,(Cc (lo 0 b44.length))),(3,(Bv true))] [(0,(.trow 45 1 (lensOf b44))),(1,(.pool 3 (rowsOf encInt b44)))] z2 z2 (AWR.ret (FPost.mk (.inr Q) z2 z2 Q ⟨J,PermP.sc,J⟩ ⟨J,PermO.poolR perm_encInt _,J⟩)))))))))
theorem w_laws_eqIntSS (a : (List (List Int))) (b : (List (List Int))) : ∀ t,m_laws_eqIntSS a b = some t → Fw.Fn Try.prog 48 [(.c (xF (encLInt false) a)),(.c (xF (encLInt false) b))] [] (.s (.c (bC t))) [] [] [] := by
 refine Fw.Fn.of (P := Try.prog) (X := []) (pn := []) (rs := (fun (t : Bool) => [(.c (bC t))])) (dfs := (fun (t : Bool) => [])) Try.func48 Q Try.ntmps48 (K Q) Q ?_
 intro w0 U0 R0 g0
 unfold m_laws_eqIntSS
 refine Ws (Wr ?_)
 refine asg (Bv false) Q y2 Q Q (On (Ws (Ws (Wr ?_))))
 refine mv (Cc (xF (encLInt false) a)) Q Q Q Q (Op10 (LT.tlenRO Q und65) Q Q Q (mv (Cc (xF (encLInt false) b)) Q Q Q Q (Op10 (LT.tlenRO Q und65) Q Q Q (Op20 (LT.neq Q) Q Q Q Q (On (AWR.cond Q (fun hc1 => ?_) (fun hc1 => ?_)))))))
 ·refine Ws (Wr ?_)
  refine asg (Bv false) Q y2 Q Q (On (AWR.ret (FPost.mk (.inr Q) z1 J Q ⟨PermP.sc,J⟩ J)))
 ·refine AWR.skip (Ws (Ws (Wr ?_)))
  refine asg (Iv 0) Q y2 Q Q (On (AWR.block ?_))
  refine AWR.loopR (id := 0) (m_laws_eqIntSS_L1 a b) (fun s2 => ([(0,(Cc (xF (encLInt false) a))),(1,(Cc (xF (encLInt false) b))),(5,(Iv s2))],[])) (fun b13 => ([],[])) (FPost Try.prog Try.f48.results.toList [] [] (fun (t : Bool) => [(.c (bC t))]) (fun (t : Bool) => [])) ?_ (Ent.of z3 J) Q (fun b13 _ => ?_) (by intro r t σ m ht hk; injection ht with ht; subst ht; exact hk)
  ·intro s2
   unfold m_laws_eqIntSS_L1
   refine Ws (Ws (Wr ?_))
   refine mv (Iv s2) Q Q Q Q (mv (Cc (xF (encLInt false) a)) Q Q Q Q (Op10 (LT.tlenRO Q und65) Q Q Q (Op20 (LT.lss Q) Q Q Q Q (On (AWR.cond Q (fun hc14 => ?_) (fun hc14 => ?_))))))
   ·refine AWR.skip (Ws (AWR.block (Ws (AWR.draw mixed ?_))))
    refine Dp10 (LT.move (v := (Cc (xF (encLInt false) a))) Q) Q Q Q (Dp10 (LT.move (v := (Iv s2)) Q) Q Q Q (AOD.bind fun x15 hx15 => (Dp20 (LT.tindexRO (enc := (encLInt false)) Q el65 hx15 sz45) Q Q Q Q (Dp10 (LT.loadPx1 Q ag45) Q Q Q (Dp10 (LT.move (v := (Cc (xF (encLInt false) b))) Q) Q Q Q (Dp10 (LT.move (v := (Iv s2)) Q) Q Q Q (AOD.bind fun x16 hx16 => (Dp20 (LT.tindexRO (enc := (encLInt false)) Q el65 hx16 sz45) Q Q Q Q (Dp10 (LT.loadPx1 Q ag45) Q Q Q (AOD.bind fun r17 hr17 => (AOD.pure (@LT.callF Try.prog _ _ 102 _ _ [(.c (xF encInt x15)),(.c (xF encInt x16))] _ _ [] _ _ _ _ (w_laws_eqIntS x15 x16 r17 hr17) Q cb102 (.cons (.c (.same Q)) (.cons (.c (.same Q)) .nil)) Q Q J) z3 J Q Q ?_)))))))))))
    refine Dp10 (LT.not Q) Q Q Q (AOD.nil (by kernel_rfl) (AWR.cond Q (fun hc18 => ?_) (fun hc18 => ?_)))
    ·refine Ws (en [] [] J J (Wr (asg (Bv false) Q y2 Q Q (On (AWR.ret ⟨Q,FPost.mk (.inr Q) z1 J Q ⟨PermP.sc,J⟩ J⟩)))))
    ·refine AWR.skip (AWR.blk ?_)
     refine en [(0,(Cc (xF (encLInt false) a))),(1,(Cc (xF (encLInt false) b))),(5,(Iv s2))] [] z3 J (Wr (mv (Iv s2) Q Q Q Q (Op20 (LT.add Q) Q y2 Q Q (asg (Iv (w64 (s2 + 1))) Q Q Q Q (On (AWR.nil ⟨Q,Ent.of z3 J⟩))))))
   ·refine AWR.exit_end Q ⟨Q,Ent.of J J⟩
  ·refine Ws (Wr ?_)
   refine asg (Bv true) Q y2 Q Q (On (AWR.ret (FPost.mk (.inr Q) z1 J Q ⟨PermP.sc,J⟩ J)))
theorem w_laws_markIntS (a : (List Int)) (k : Int) : ∀ t,m_laws_markIntS a k = some t → Fw.Fn Try.prog 128 [(.c (lo 0 a.length)),(.c (iC k))] [(0,(pR 3 encInt a))] (.s (.c (iC t.1))) [(0,(pR 3 encInt t.2))] [0] [] := by
 refine Fw.Fn.of (P := Try.prog) (X := []) (pn := [0]) (rs := (fun (t : (Int × (List Int))) => [(.c (iC t.1))])) (dfs := (fun (t : (Int × (List Int))) => [(0,(pR 3 encInt t.2))])) Try.func128 Q Try.ntmps128 (K Q) Q ?_
 intro w0 U0 R0 g0
 unfold m_laws_markIntS
 refine Ws (Wr ?_)
 refine asg (Iv 0) Q y2 Q Q (On (Ws (Ws (Wr ?_))))
 refine asg (Iv 0) Q y2 Q Q (On (AWR.block ?_))
 refine AWR.loop1 (id := 0) (m_laws_markIntS_L1) (fun s1 => ([(0,(Cc (lo 0 s1.2.2.length))),(1,(Iv s1.1)),(5,(Iv s1.2.1))],[(0,(pR 3 encInt s1.2.2))])) (fun b6 => ([(1,(Iv b6.1))],[(0,(pR 3 encInt b6.2))])) ?_ (Ent.of z3 z1) Q (fun b6 _ => ?_)
 ·intro s1
  unfold m_laws_markIntS_L1
  refine Ws (Ws (Wr ?_))
  refine mv (Iv s1.2.1) Q Q Q Q (mv (Cc (lo 0 s1.2.2.length)) Q Q Q Q (Op10 (LT.lenLoc Q und45) Q Q Q (Op20 (LT.lss Q) Q Q Q Q (On (AWR.cond Q (fun hc7 => ?_) (fun hc7 => ?_))))))
  ·refine AWR.skip (Ws (AWR.block (Ws (Wr ?_))))
   refine mv (Cc (lo 0 s1.2.2.length)) Q Q Q Q (mv (Iv s1.2.1) Q Q Q Q (mv (Iv s1.1) Q Q Q Q (Ob' fun x8 hx8 => (Op21 (LT.tindexLoc Q Q el45 hx8) Q Q Q Q Q (Os21 (LT.tstore (k := 0) (v := (.c (iC s1.1))) (b' := s1.1) Q Q (infS inf3) sz3 (by exact Q) hx8 (by exact Q) (by exact K Q) (by exact Q)) Q Q Q Q Q (On (en [(0,(Cc (lo 0 s1.2.2.length))),(1,(Iv s1.1)),(5,(Iv s1.2.1))] [(0,(pR 3 encInt (s1.2.2.set s1.2.1.toNat s1.1)))] z3 z1 (Wr (mv (Iv s1.1) Q Q Q Q (Op20 (LT.add Q) Q y2 Q Q (asg (Iv (w64 (s1.1 + 1))) Q Q Q Q ?_)))))))))))
   refine On (AWR.blk (Wr ?_))
   refine mv (Iv s1.2.1) Q Q Q Q (Op20 (LT.add Q) Q y2 Q Q (asg (Iv (w64 (s1.2.1 + 1))) Q Q Q Q (On (AWR.nil ⟨Q,Ent.of ⟨(congrArg (fun l1 => (some (AV.s (.c (lo 0 l1))) : Option AV)) (show s1.2.2.length = (s1.2.2.set s1.2.1.toNat s1.1).length by simp only [List.length_set])),Q,Q,J⟩ z1⟩))))
  ·refine AWR.exit_end Q ⟨Q,Ent.of z1 z1⟩
 ·refine Ws (Wr ?_)
  refine mv (Iv b6.1) Q Q Q Q (asg (Iv b6.1) Q Q Q Q (On (AWR.ret (FPost.mk (.inr Q) z1 z1 Q ⟨PermP.sc,J⟩ ⟨PermO.prow' perm_encInt,J⟩))))
theorem w_laws_markIntSS (a : (List (List Int))) (k : Int) : ∀ t,m_laws_markIntSS a k = some t → Fw.Fn Try.prog 49 [(.c (lo 0 a.length)),(.c (iC k))] [(0,(.trow 45 1 (lensOf a))),(1,(.pool 3 (rowsOf encInt a)))] (.s (.c (iC t.1))) [(0,(.trow 45 1 (lensOf t.2))),(1,(.pool 3 (rowsOf encInt t.2)))] [0,1] [] := by
 refine Fw.Fn.of (P := Try.prog) (X := []) (pn := [0,1]) (rs := (fun (t : (Int × (List (List Int)))) => [(.c (iC t.1))])) (dfs := (fun (t : (Int × (List (List Int)))) => [(0,(.trow 45 1 (lensOf t.2))),(1,(.pool 3 (rowsOf encInt t.2)))])) Try.func49 Q Try.ntmps49 (K Q) Q ?_
 intro w0 U0 R0 g0
 unfold m_laws_markIntSS
 refine Ws (Wr ?_)
 refine asg (Iv 0) Q y2 Q Q (On (Ws (Ws (Wr ?_))))
 refine asg (Iv 0) Q y2 Q Q (On (AWR.block ?_))
 refine AWR.loop1 (id := 0) (m_laws_markIntSS_L1) (fun s1 => ([(0,(Cc (lo 0 s1.2.2.length))),(1,(Iv s1.1)),(5,(Iv s1.2.1))],[(0,(.trow 45 1 (lensOf s1.2.2))),(1,(.pool 3 (rowsOf encInt s1.2.2)))])) (fun b10 => ([(1,(Iv b10.1))],[(0,(.trow 45 1 (lensOf b10.2))),(1,(.pool 3 (rowsOf encInt b10.2)))])) ?_ (Ent.of z3 z2) Q (fun b10 _ => ?_)
 ·intro s1
  unfold m_laws_markIntSS_L1
  refine Ws (Ws (Wr ?_))
  refine mv (Iv s1.2.1) Q Q Q Q (mv (Cc (lo 0 s1.2.2.length)) Q Q Q Q (Op10 (LT.lenLoc Q und65) Q Q Q (Op20 (LT.lss Q) Q Q Q Q (On (AWR.cond Q (fun hc11 => ?_) (fun hc11 => ?_))))))
  ·refine AWR.skip (Ws (AWR.block (Wr ?_)))
   refine mv (Cc (lo 0 s1.2.2.length)) Q Q Q Q (mv (Iv s1.2.1) Q Q Q Q (Ob' fun x12 hx12 => (Op21 (LT.xindex Q Q el65 hx12) Q Q Q Q Q (Op11 (LT.xload Q ag45 hx12 Q) Q Q Q Q (mv (Iv s1.1) Q Q Q Q (Ob' fun r13 hr13 => (Ob' fun u14 hu14 => (AOR.step (LT.tfocus (p := 1) (k := s1.2.1.toNat) (m := 21) (enc := encInt) (r := x12) (r' := r13.2) (rows := s1.2.2) (@LT.callF Try.prog _ _ 128 _ _ [(.c (lo 21 x12.length)),(.c (iC s1.1))] _ _ [] _ _ _ _ ((show Fw.Fn Try.prog 128 [(.c (lo 21 x12.length)),(.c (iC s1.1))] [(21,(pR 3 encInt x12))] (Iv r13.1) [(21,(pR 3 encInt r13.2))] [21] [] from Fw.Fn.ren [(0,21)] (w_laws_markIntS x12 s1.1 r13 hr13) Q)) Q cb128 (.cons (.c (.same Q)) (.cons (.c (.same Q)) .nil)) Q Q z1) (idx_get hx12) Q) z3 z1 Q Q (asg (Iv r13.1) Q Q Q Q (On (AWR.ent (Ent.lens (n := 0) (lens_set (r' := r13.2) (idx_get hx12) (same_eq hu14)) Q) ?_)))))))))))
   refine AWR.blk (en [(0,(Cc (lo 0 s1.2.2.length))),(1,(Iv r13.1)),(5,(Iv s1.2.1))] [(0,(.trow 45 1 (lensOf (s1.2.2.set s1.2.1.toNat r13.2)))),(1,(.pool 3 (rowsOf encInt (s1.2.2.set s1.2.1.toNat r13.2))))] z3 z2 (Wr (mv (Iv s1.2.1) Q Q Q Q (Op20 (LT.add Q) Q y2 Q Q (asg (Iv (w64 (s1.2.1 + 1))) Q Q Q Q (On (AWR.nil ⟨Q,Ent.of ⟨(congrArg (fun l1 => (some (AV.s (.c (lo 0 l1))) : Option AV)) (show s1.2.2.length = (s1.2.2.set s1.2.1.toNat r13.2).length by simp only [List.length_set])),Q,Q,J⟩ z2⟩)))))))
  ·refine AWR.exit_end Q ⟨Q,Ent.of z1 z2⟩
 ·refine Ws (Wr ?_)
  refine mv (Iv b10.1) Q Q Q Q (asg (Iv b10.1) Q Q Q Q (On (AWR.ret (FPost.mk (.inr Q) z1 z2 Q ⟨PermP.sc,J⟩ ⟨J,PermO.poolR perm_encInt _,J⟩))))
theorem w_laws_heldIntS (a : (List Int)) (k : Int) : ∀ t,m_laws_heldIntS a k = some t → Fw.Fn Try.prog 129 [(.c (xF encInt a)),(.c (iC k))] [] (.s (.c (iC t))) [] [] [] := by
 refine Fw.Fn.of (P := Try.prog) (X := []) (pn := []) (rs := (fun (t : Int) => [(.c (iC t))])) (dfs := (fun (t : Int) => [])) Try.func129 Q Try.ntmps129 (K Q) Q ?_
 intro w0 U0 R0 g0
 unfold m_laws_heldIntS
 refine Ws (Wr ?_)
 refine asg (Iv 0) Q y2 Q Q (On (Ws (Ws (Wr ?_))))
 refine asg (Iv 0) Q y2 Q Q (On (AWR.block ?_))
 refine AWR.loopR (id := 0) (m_laws_heldIntS_L1 a) (fun s1 => ([(0,(Cc (xF encInt a))),(1,(Iv s1.1)),(5,(Iv s1.2))],[])) (fun b8 => ([(1,(Iv b8))],[])) (FPost Try.prog Try.f129.results.toList [] [] (fun (t : Int) => [(.c (iC t))]) (fun (t : Int) => [])) ?_ (Ent.of z3 J) Q (fun b8 _ => ?_) (by intro r t σ m ht hk; injection ht with ht; subst ht; exact hk)
 ·intro s1
  unfold m_laws_heldIntS_L1
  refine Ws (Ws (Wr ?_))
  refine mv (Iv s1.2) Q Q Q Q (mv (Cc (xF encInt a)) Q Q Q Q (Op10 (LT.tlenRO Q und45) Q Q Q (Op20 (LT.lss Q) Q Q Q Q (On (AWR.cond Q (fun hc9 => ?_) (fun hc9 => ?_))))))
  ·refine AWR.skip (Ws (AWR.block (Ws (Ws (Wr ?_)))))
   refine mv (Cc (xF encInt a)) Q Q Q Q (mv (Iv s1.2) Q Q Q Q (Ob' fun x10 hx10 => (Op20 (LT.tindexRO (enc := encInt) Q el45 hx10 sz3) Q Q Q Q (Op10 (LT.loadPx1 Q ag3) Q Q Q (mv (Iv s1.1) Q Q Q Q (Op20 (LT.neq Q) Q Q Q Q (On (AWR.cond Q (fun hc11 => ?_) (fun hc11 => ?_)))))))))
   ·refine Ws (Wr ?_)
    refine asg (Iv (-1)) Q y2 Q Q (On (AWR.ret ⟨Q,FPost.mk (.inr Q) z1 J Q ⟨PermP.sc,J⟩ J⟩))
   ·refine AWR.skip (Wr ?_)
    refine mv (Iv s1.1) Q Q Q Q (Op20 (LT.add Q) Q y2 Q Q (asg (Iv (w64 (s1.1 + 1))) Q Q Q Q (On (AWR.blk ?_))))
    refine en [(0,(Cc (xF encInt a))),(1,(Iv (w64 (s1.1 + 1)))),(5,(Iv s1.2))] [] z3 J (Wr (mv (Iv s1.2) Q Q Q Q (Op20 (LT.add Q) Q y2 Q Q (asg (Iv (w64 (s1.2 + 1))) Q Q Q Q (On (AWR.nil ⟨Q,Ent.of z3 J⟩))))))
  ·refine AWR.exit_end Q ⟨Q,Ent.of z1 J⟩
 ·refine Ws (Wr ?_)
  refine mv (Iv b8) Q Q Q Q (asg (Iv b8) Q Q Q Q (On (AWR.ret (FPost.mk (.inr Q) z1 J Q ⟨PermP.sc,J⟩ J))))
end Go.Proofs.Yteognanhfpbghaa
end
section
set_option linter.unusedVariables false
set_option linter.unusedSimpArgs false
set_option linter.unnecessarySimpa false
set_option maxRecDepth 100000
set_option maxHeartbeats 8000000
open Go Go.Fw
namespace Go.Proofs.Yteognanhfpbghaa
theorem w_laws_heldIntSS (a : (List (List Int))) (k : Int) : ∀ t,m_laws_heldIntSS a k = some t → Fw.Fn Try.prog 50 [(.c (xF (encLInt false) a)),(.c (iC k))] [] (.s (.c (iC t))) [] [] [] := by
 refine Fw.Fn.of (P := Try.prog) (X := []) (pn := []) (rs := (fun (t : Int) => [(.c (iC t))])) (dfs := (fun (t : Int) => [])) Try.func50 Q Try.ntmps50 (K Q) Q ?_
 intro w0 U0 R0 g0
 unfold m_laws_heldIntSS
 refine Ws (Wr ?_)
 refine asg (Iv 0) Q y2 Q Q (On (Ws (Ws (Wr ?_))))
 refine asg (Iv 0) Q y2 Q Q (On (AWR.block ?_))
 refine AWR.loopR (id := 0) (m_laws_heldIntSS_L1 a) (fun s1 => ([(0,(Cc (xF (encLInt false) a))),(1,(Iv s1.1)),(5,(Iv s1.2))],[])) (fun b10 => ([(1,(Iv b10))],[])) (FPost Try.prog Try.f50.results.toList [] [] (fun (t : Int) => [(.c (iC t))]) (fun (t : Int) => [])) ?_ (Ent.of z3 J) Q (fun b10 _ => ?_) (by intro r t σ m ht hk; injection ht with ht; subst ht; exact hk)
 ·intro s1
  unfold m_laws_heldIntSS_L1
  refine Ws (Ws (Wr ?_))
  refine mv (Iv s1.2) Q Q Q Q (mv (Cc (xF (encLInt false) a)) Q Q Q Q (Op10 (LT.tlenRO Q und65) Q Q Q (Op20 (LT.lss Q) Q Q Q Q (On (AWR.cond Q (fun hc11 => ?_) (fun hc11 => ?_))))))
  ·refine AWR.skip (Ws (AWR.block (Ws (Wr ?_))))
   refine mv (Cc (xF (encLInt false) a)) Q Q Q Q (mv (Iv s1.2) Q Q Q Q (Ob' fun x12 hx12 => (Op20 (LT.tindexRO (enc := (encLInt false)) Q el65 hx12 sz45) Q Q Q Q (Op10 (LT.loadPx1 Q ag45) Q Q Q (mv (Iv s1.1) Q Q Q Q (Ob' fun r13 hr13 => (AOR.pure (@LT.callF Try.prog _ _ 129 _ _ [(.c (xF encInt x12)),(.c (iC s1.1))] _ _ [] _ _ _ _ (w_laws_heldIntS x12 s1.1 r13 hr13) Q cb129 (.cons (.c (.same Q)) (.cons (.c (.same Q)) .nil)) Q Q J) z3 J Q Q (asg (Iv r13) Q Q Q Q (On (Ws ?_))))))))))
   refine en [(0,(Cc (xF (encLInt false) a))),(1,(Iv r13)),(5,(Iv s1.2))] [] z3 J (Wr (mv (Iv r13) Q Q Q Q (Op20 (LT.lss Q) Q y2 Q Q (On (AWR.cond Q (fun hc14 => ?_) (fun hc14 => ?_))))))
   ·refine Ws (Wr ?_)
    refine asg (Iv (-1)) Q y2 Q Q (On (AWR.ret ⟨Q,FPost.mk (.inr Q) z1 J Q ⟨PermP.sc,J⟩ J⟩))
   ·refine AWR.skip (AWR.blk (Wr ?_))
    refine mv (Iv s1.2) Q Q Q Q (Op20 (LT.add Q) Q y2 Q Q (asg (Iv (w64 (s1.2 + 1))) Q Q Q Q (On (AWR.nil ⟨Q,Ent.of z3 J⟩))))
  ·refine AWR.exit_end Q ⟨Q,Ent.of z1 J⟩
 ·refine Ws (Wr ?_)
  refine mv (Iv b10) Q Q Q Q (asg (Iv b10) Q Q Q Q (On (AWR.ret (FPost.mk (.inr Q) z1 J Q ⟨PermP.sc,J⟩ J))))
theorem w_laws_FnExactBodyTrees (aG : TGraph) : ∀ t,m_laws_FnExactBodyTrees aG = some t → Fw.Fn Try.prog 10 [(.agg [(iC aG.Points),(xF encTBar aG.Bars)])] [] (.s (.c (bC t))) [] [] [] := by
 refine Fw.Fn.of (P := Try.prog) (X := []) (pn := []) (rs := (fun (t : Bool) => [(.c (bC t))])) (dfs := (fun (t : Bool) => [])) Try.func10 Q Try.ntmps10 (K Q) Q ?_
 intro w0 U0 R0 g0
 unfold m_laws_FnExactBodyTrees
 refine Ws (Wr ?_)
 refine Os10 (LT.box (n := 21) (v := (.agg [(iC aG.Points),(xF encTBar aG.Bars)])) Q sz24 (by exact Q)) Q Q Q (asg (Bv false) Q y2 Q Q (On (Ws (Wr ?_))))
 refine asg (Iv 1048576) Q y2 Q Q (On (Ws (Wr ?_)))
 refine Op11 (LT.bloadN (out := [(iC aG.Points),(xF encTBar aG.Bars)]) Q ag24 (infS inf24) sz24 (by exact Q) (by exact Q)) Q Q Q Q (mv (Iv 1048576) Q Q Q Q (Ob' fun r1 hr1 => (AOR.pure (@LT.callF Try.prog _ _ 44 _ _ [(.agg [(iC aG.Points),(xF encTBar aG.Bars)]),(.c (iC 1048576))] _ _ [] _ _ _ _ (w_laws_szGraph aG 1048576 r1 hr1) Q cb44 (.cons (.agg (.cons (.same Q) (.cons (.same Q) .nil))) (.cons (.c (.same Q)) .nil)) Q Q J) z3 J Q Q (asg (Iv r1) Q Q Q Q (On (Ws (Ws (Wr ?_))))))))
 refine mv (Iv r1) Q Q Q Q (Op20 (LT.lss Q) Q y2 Q Q (On (AWR.cond Q (fun hc2 => ?_) (fun hc2 => ?_))))
 ·refine Ws (en [] [] J J (Wr (asg (Bv true) Q y2 Q Q (On (AWR.ret (FPost.mk (.inr Q) z1 J Q ⟨PermP.sc,J⟩ J))))))
 ·refine AWR.skip (Ws ?_)
  refine en [(1,(Cc (.pl 21 0)))] [(21,(.row 24 [[(iC aG.Points),(xF encTBar aG.Bars)]]))] z1 z1 (Wr (Op11 (LT.bloadN (out := [(iC aG.Points),(xF encTBar aG.Bars)]) Q ag24 (infS inf24) sz24 (by exact Q) (by exact Q)) Q Q Q Q (Ob' fun r3 hr3 => (AOR.step (@LT.callF Try.prog _ _ 46 _ _ [(.agg [(iC aG.Points),(xF encTBar aG.Bars)])] _ _ [] _ _ _ _ ((show Fw.Fn Try.prog 46 [(.agg [(iC aG.Points),(xF encTBar aG.Bars)])] [] (Ag  [(iC r3.Points),(lo 24 r3.Bars.length)]) [(24,(pR 112 encTBar r3.Bars))] [] [24] from Fw.Fn.ren [(0,24)] (w_laws_toGraph aG r3 hr3) Q)) Q cb46 (.cons (.agg (.cons (.same Q) (.cons (.same Q) .nil))) .nil) Q Q J) z2 J Q Q (Ob' fun r4 hr4 => (AOR.step (@LT.callF Try.prog _ _ 45 _ _ [(.agg [(iC r3.Points),(lo 24 r3.Bars.length)])] _ _ [(24,(pR 112 encTBar r3.Bars))] _ _ _ _ ((show Fw.Fn Try.prog 45 [(.agg [(iC r3.Points),(xF encTBar r3.Bars)])] [] (.tup [(.c (lo 26 r4.1.length)),(.c (bC r4.2))]) [(26,(pR 45 (encLInt true) r4.1))] [] [26] from Fw.Fn.ren [(0,26)] (w_spec_BodyTrees r3 r4 hr4) Q)) Q cb45 (.cons (.agg (.cons (.same Q) (.cons (.tloc Q Q) .nil))) .nil) Q Q J) z2 z1 Q Q (mv (.tup [(.c (lo 26 r4.1.length)),(.c (bC r4.2))]) Q Q Q Q (Op10 (LT.extract (v := (.c (lo 26 r4.1.length))) Q (by exact Q)) Q Q Q (Op10 (LT.extract (v := (.c (bC r4.2))) Q (by exact Q)) Q Q Q (asg (Cc (lo 26 r4.1.length)) Q Q Q Q (asg (Bv r4.2) Q Q Q Q ?_)))))))))))
  refine On (Ws ?_)
  refine en [(1,(Cc (.pl 21 0))),(4,(Cc (lo 26 r4.1.length))),(5,(Bv r4.2))] [(21,(.row 24 [[(iC aG.Points),(xF encTBar aG.Bars)]])),(26,(pR 45 (encLInt true) r4.1))] z3 z2 (Wr (Op11 (LT.bloadN (out := [(iC aG.Points),(xF encTBar aG.Bars)]) Q ag24 (infS inf24) sz24 (by exact Q) (by exact Q)) Q Q Q Q (Ob' fun r5 hr5 => (AOR.step (@LT.callF Try.prog _ _ 46 _ _ [(.agg [(iC aG.Points),(xF encTBar aG.Bars)])] _ _ [] _ _ _ _ ((show Fw.Fn Try.prog 46 [(.agg [(iC aG.Points),(xF encTBar aG.Bars)])] [] (Ag  [(iC r5.Points),(lo 28 r5.Bars.length)]) [(28,(pR 112 encTBar r5.Bars))] [] [28] from Fw.Fn.ren [(0,28)] (w_laws_toGraph aG r5 hr5) Q)) Q cb46 (.cons (.agg (.cons (.same Q) (.cons (.same Q) .nil))) .nil) Q Q J) z2 J Q Q (Os00 (LT.alloc (n := 29) (cells := [(iC 0),(sC nilV)]) Q ti32 Q Q Q) Q Q (Os21 (LT.bstore (v := (.agg [(iC r5.Points),(lo 28 r5.Bars.length)])) (out := [(iC r5.Points),(lo 28 r5.Bars.length)]) Q Q (infS inf32) sz32 (by exact Q) (by exact K Q) (by exact Q)) Q Q Q Q Q (On (Ws (Wr ?_)))))))))
  refine Op11 (LT.bloadN (out := [(iC r5.Points),(lo 28 r5.Bars.length)]) Q ag32 (infS inf32) sz32 (by exact Q) (by exact Q)) Q Q Q Q (Ob' fun r6 hr6 => (AOR.step (@LT.callF Try.prog _ _ 47 _ _ [(.agg [(iC r5.Points),(lo 28 r5.Bars.length)])] _ _ [(28,(pR 112 encTBar r5.Bars))] _ _ _ _ ((show Fw.Fn Try.prog 47 [(.agg [(iC r5.Points),(xF encTBar r5.Bars)])] [] (.tup [(.c (lo 31 r6.1.length)),(.c (bC r6.2))]) [(31,(.trow 45 32 (lensOf r6.1))),(32,(.pool 3 (rowsOf encInt r6.1)))] [] [31,32] from Fw.Fn.ren [(0,31),(1,32)] (w_impl_BodyTrees r5 r6 hr6) Q)) Q cb47 (.cons (.agg (.cons (.same Q) (.cons (.tloc Q Q) .nil))) .nil) Q Q J) z2 z1 Q Q (mv (.tup [(.c (lo 31 r6.1.length)),(.c (bC r6.2))]) Q Q Q Q (Op10 (LT.extract (v := (.c (lo 31 r6.1.length))) Q (by exact Q)) Q Q Q (Op10 (LT.extract (v := (.c (bC r6.2))) Q (by exact Q)) Q Q Q (asg (Cc (lo 31 r6.1.length)) Q Q Q Q (asg (Bv r6.2) Q Q Q Q (On (Ws (Ws ?_))))))))))
  refine AWR.joinK (fun j9 => ([(1,(Cc (.pl 21 0))),(4,(Cc (lo 26 r4.1.length))),(5,(Bv r4.2)),(6,(Cc (.pl 29 0))),(7,(Cc (lo 31 r6.1.length))),(8,(Bv r6.2)),(40,(Bv j9))],[(21,(.row 24 [[(iC aG.Points),(xF encTBar aG.Bars)]])),(26,(pR 45 (encLInt true) r4.1)),(28,(pR 112 encTBar r5.Bars)),(29,(.row 32 [[(iC r5.Points),(lo 28 r5.Bars.length)]])),(31,(.trow 45 32 (lensOf r6.1))),(32,(.pool 3 (rowsOf encInt r6.1)))])) ?_ (fun j9 _ => ?_)
  ·refine en [(1,(Cc (.pl 21 0))),(4,(Cc (lo 26 r4.1.length))),(5,(Bv r4.2)),(6,(Cc (.pl 29 0))),(7,(Cc (lo 31 r6.1.length))),(8,(Bv r6.2))] [(21,(.row 24 [[(iC aG.Points),(xF encTBar aG.Bars)]])),(26,(pR 45 (encLInt true) r4.1)),(28,(pR 112 encTBar r5.Bars)),(29,(.row 32 [[(iC r5.Points),(lo 28 r5.Bars.length)]])),(31,(.trow 45 32 (lensOf r6.1))),(32,(.pool 3 (rowsOf encInt r6.1)))] z6 z6 (Wr (mv (Cc (lo 31 r6.1.length)) Q Q Q Q (mv (Cc (lo 26 r4.1.length)) Q Q Q Q (Ob' fun r10 hr10 => (AOR.pure (@LT.callF Try.prog _ _ 48 _ _ [(.c (lo 31 r6.1.length)),(.c (lo 26 r4.1.length))] _ _ [(31,(.trow 45 32 (lensOf r6.1))),(32,(.pool 3 (rowsOf encInt r6.1))),(26,(pR 45 (encLInt true) r4.1))] _ _ _ _ (w_laws_eqIntSS r6.1 r4.1 r10 hr10) Q cb48 (.cons (.c (.ttrow Q Q Q (fun _ => Q))) (.cons (.c (.weak (.tloc (enc := encLInt true) Q Q) (QW.xsm qw_encLInt (fun h => h) _))) .nil)) Q Q J) z3 z3 Q Q (Op10 (LT.not Q) Q Q Q (mv (Bv (!r10)) Q Q Q Q (AOR.split (fun hb11 => ?_) (fun hb11 => ?_)))))))))
   ·refine Ok Q Q Q (by rw [hb11]; rfl) Q (Ok Q Q Q (by rw [hb11]; rfl) Q (Ok Q Q Q (by rw [hb11]; rfl) Q (Op20 (LT.pickT (v := (Bv true)) Q hb11) Q y2 Q Q (On (AWR.nil ⟨Q,Ent.of z7 z6⟩)))))
   ·refine mv (Bv r6.2) Q Q (gH hb11 Q Q) Q (mv (Bv r4.2) Q Q (gH hb11 Q Q) Q (Op20 (LT.neqB Q und4) Q Q (gH hb11 Q Q) Q (Op20 (LT.pickF (v := (Bv (r6.2 != r4.2))) Q hb11) Q Q Q Q (On (AWR.nil ⟨Q,Ent.of z7 z6⟩)))))
  ·refine AWR.cond Q (fun hc12 => ?_) (fun hc12 => ?_)
   ·refine Ws (Wr ?_)
    refine asg (Bv false) Q y2 Q Q (On (AWR.ret (FPost.mk (.inr Q) z1 J Q ⟨PermP.sc,J⟩ J)))
   ·refine AWR.skip (Ws (Ws (AWR.draw mixed ?_)))
    refine Dp11 (LT.bloadN (out := [(iC r5.Points),(lo 28 r5.Bars.length)]) Q ag32 (infS inf32) sz32 (by exact Q) (by exact Q)) Q Q Q Q (Dp11 (LT.bloadN (out := [(iC aG.Points),(xF encTBar aG.Bars)]) Q ag24 (infS inf24) sz24 (by exact Q) (by exact Q)) Q Q Q Q (AOD.bind fun r13 hr13 => (AOD.step (@LT.callF Try.prog _ _ 46 _ _ [(.agg [(iC aG.Points),(xF encTBar aG.Bars)])] _ _ [] _ _ _ _ ((show Fw.Fn Try.prog 46 [(.agg [(iC aG.Points),(xF encTBar aG.Bars)])] [] (Ag  [(iC r13.Points),(lo 35 r13.Bars.length)]) [(35,(pR 112 encTBar r13.Bars))] [] [35] from Fw.Fn.ren [(0,35)] (w_laws_toGraph aG r13 hr13) Q)) Q cb46 (.cons (.agg (.cons (.same Q) (.cons (.same Q) .nil))) .nil) Q Q J) z2 J Q Q (AOD.bind fun r14 hr14 => (AOD.pure (@LT.callF Try.prog _ _ 37 _ _ [(.agg [(iC r5.Points),(lo 28 r5.Bars.length)]),(.agg [(iC r13.Points),(lo 35 r13.Bars.length)])] _ _ [(28,(pR 112 encTBar r5.Bars)),(35,(pR 112 encTBar r13.Bars))] _ _ _ _ (w_laws_eqGraph r5 r13 r14 hr14) Q cb37 (.cons (.agg (.cons (.same Q) (.cons (.tloc Q Q) .nil))) (.cons (.agg (.cons (.same Q) (.cons (.tloc Q Q) .nil))) .nil)) Q Q J) z3 z2 Q Q (Dp10 (LT.not Q) Q Q Q (AOD.nil (by kernel_rfl) (AWR.cond Q (fun hc15 => ?_) (fun hc15 => ?_)))))))))
    ·refine Ws (Wr ?_)
     refine asg (Bv false) Q y2 Q Q (On (AWR.ret (FPost.mk (.inr Q) z1 J Q ⟨PermP.sc,J⟩ J)))
    ·refine AWR.skip (Ws (Wr ?_))
     refine asg (Iv 1) Q y2 Q Q (On (Ws (Wr ?_)))
     refine Op11 (LT.bloadN (out := [(iC r5.Points),(lo 28 r5.Bars.length)]) Q ag32 (infS inf32) sz32 (by exact Q) (by exact Q)) Q Q Q Q (mv (Iv 1) Q Q Q Q (Ob' fun r16 hr16 => (AOR.step (@LT.callF Try.prog _ _ 38 _ _ [(.agg [(iC r5.Points),(lo 28 r5.Bars.length)]),(.c (iC 1))] _ _ [] _ _ _ _ ((show Fw.Fn Try.prog 38 [(.agg [(iC r5.Points),(lo 28 r5.Bars.length)]),(.c (iC 1))] [(28,(pR 112 encTBar r5.Bars))] (Iv r16.1) [(28,(pR 112 encTBar r16.2))] [28] [] from Fw.Fn.ren [(0,28)] (w_laws_markGraph r5 1 r16 hr16) Q)) Q cb38 (.cons (.agg (.cons (.same Q) (.cons (.same Q) .nil))) (.cons (.c (.same Q)) .nil)) Q Q z1) z3 z1 Q Q (asg (Iv r16.1) Q Q Q Q (On (Ws (Ws ?_)))))))
     refine AWR.joinK (fun j20 => ([(1,(Cc (.pl 21 0))),(4,(Cc (lo 26 r4.1.length))),(5,(Bv r4.2)),(7,(Cc (lo 31 r6.1.length))),(61,(Bv j20))],[(21,(.row 24 [[(iC aG.Points),(xF encTBar aG.Bars)]])),(26,(pR 45 (encLInt true) r4.1)),(31,(.trow 45 32 (lensOf r6.1))),(32,(.pool 3 (rowsOf encInt r6.1)))])) ?_ (fun j20 _ => ?_)
     ·refine en [(1,(Cc (.pl 21 0))),(4,(Cc (lo 26 r4.1.length))),(5,(Bv r4.2)),(7,(Cc (lo 31 r6.1.length))),(8,(Bv r6.2)),(9,(Iv r16.1))] [(21,(.row 24 [[(iC aG.Points),(xF encTBar aG.Bars)]])),(26,(pR 45 (encLInt true) r4.1)),(31,(.trow 45 32 (lensOf r6.1))),(32,(.pool 3 (rowsOf encInt r6.1)))] z6 z4 (Wr (mv (Iv r16.1) Q Q Q Q (Op20 (LT.lss Q) Q y2 Q Q (mv (Bv (decide (r16.1 < 0))) Q Q Q Q (AOR.split (fun hb21 => ?_) (fun hb21 => ?_))))))
      ·refine Ok Q Q Q (by rw [hb21]; rfl) Q (Ok Q Q Q (by rw [hb21]; rfl) Q (Ok Q Q Q (by rw [hb21]; rfl) Q (Ok Q Q Q (by rw [hb21]; rfl) Q (Op20 (LT.pickT (v := (Bv true)) Q hb21) Q y2 Q Q (mv (Bv true) Q Q Q Q (Ok Q Q Q Q Q (Ok Q Q Q Q Q (Ok Q Q Q Q Q (Op20 (LT.pickT (v := (Bv true)) Q Q) Q y2 Q Q (On (AWR.nil ⟨Q,Ent.of z5 z4⟩)))))))))))
      ·refine mv (Cc (lo 31 r6.1.length)) Q Q (gH hb21 Q Q) Q (mv (Cc (lo 26 r4.1.length)) Q Q (gH hb21 Q Q) Q (Ob' fun r22 hr22 => (AOR.pure (@LT.callF Try.prog _ _ 48 _ _ [(.c (lo 31 r6.1.length)),(.c (lo 26 r4.1.length))] _ _ [(31,(.trow 45 32 (lensOf r6.1))),(32,(.pool 3 (rowsOf encInt r6.1))),(26,(pR 45 (encLInt true) r4.1))] _ _ _ _ (w_laws_eqIntSS r6.1 r4.1 r22 hr22) Q cb48 (.cons (.c (.ttrow Q Q Q (fun _ => Q))) (.cons (.c (.weak (.tloc (enc := encLInt true) Q Q) (QW.xsm qw_encLInt (fun h => h) _))) .nil)) Q Q J) z3 z3 (gH hb21 Q Q) Q (Op10 (LT.not Q) Q (gH hb21 Q Q) Q (Op20 (LT.pickF (v := (Bv (!r22))) Q hb21) Q Q Q Q (mv (Bv (!r22)) Q Q Q Q (AOR.split (fun hb23 => ?_) (fun hb23 => ?_))))))))
       ·refine Ok Q Q Q (by rw [hb23]; rfl) Q (Ok Q Q Q (by rw [hb23]; rfl) Q (Ok Q Q Q (by rw [hb23]; rfl) Q (Op20 (LT.pickT (v := (Bv true)) Q hb23) Q y2 Q Q (On (AWR.nil ⟨Q,Ent.of z5 z4⟩)))))
       ·refine mv (Bv r6.2) Q Q (gH hb23 Q Q) Q (mv (Bv r4.2) Q Q (gH hb23 Q Q) Q (Op20 (LT.neqB Q und4) Q Q (gH hb23 Q Q) Q (Op20 (LT.pickF (v := (Bv (r6.2 != r4.2))) Q hb23) Q Q Q Q (On (AWR.nil ⟨Q,Ent.of z5 z4⟩)))))
     ·refine AWR.cond Q (fun hc24 => ?_) (fun hc24 => ?_)
      ·refine Ws (Wr ?_)
       refine asg (Bv false) Q y2 Q Q (On (AWR.ret (FPost.mk (.inr Q) z1 J Q ⟨PermP.sc,J⟩ J)))
      ·refine AWR.skip (Ws (Wr ?_))
       refine asg (Iv 1) Q y2 Q Q (On (Ws (Wr ?_)))
       refine mv (Cc (lo 31 r6.1.length)) Q Q Q Q (mv (Iv 1) Q Q Q Q (Ob' fun r25 hr25 => (AOR.step (@LT.callF Try.prog _ _ 49 _ _ [(.c (lo 31 r6.1.length)),(.c (iC 1))] _ _ [] _ _ _ _ ((show Fw.Fn Try.prog 49 [(.c (lo 31 r6.1.length)),(.c (iC 1))] [(31,(.trow 45 32 (lensOf r6.1))),(32,(.pool 3 (rowsOf encInt r6.1)))] (Iv r25.1) [(31,(.trow 45 32 (lensOf r25.2))),(32,(.pool 3 (rowsOf encInt r25.2)))] [31,32] [] from Fw.Fn.ren [(0,31),(1,32)] (w_laws_markIntSS r6.1 1 r25 hr25) Q)) Q cb49 (.cons (.c (.same Q)) (.cons (.c (.same Q)) .nil)) Q Q z2) z3 z2 Q Q (asg (Iv r25.1) Q Q Q Q (On (Ws (Wr ?_)))))))
       refine asg (Iv 1) Q y2 Q Q (On (Ws (Wr ?_)))
       refine mv (Cc (lo 31 r6.1.length)) Q Q Q Q (mv (Iv 1) Q Q Q Q (Ob' fun u26 hu26 => (Ob' fun r27 hr27 => (AOR.pure (@LT.callF Try.prog _ _ 50 _ _ [(.c (lo 31 r6.1.length)),(.c (iC 1))] _ _ [(31,(.trow 45 32 (lensOf r25.2))),(32,(.pool 3 (rowsOf encInt r25.2)))] _ _ _ _ (w_laws_heldIntSS r25.2 1 r27 hr27) Q cb50 (.cons (.c (.ttrow (same_eq hu26) Q Q (fun _ => Q))) (.cons (.c (.same Q)) .nil)) Q Q J) z3 z2 Q Q (asg (Iv r27) Q Q Q Q (On (Ws (Ws ?_))))))))
       refine en [(1,(Cc (.pl 21 0))),(4,(Cc (lo 26 r4.1.length))),(5,(Bv r4.2)),(7,(Cc (lo 31 r6.1.length))),(10,(Iv r25.1)),(11,(Iv r27))] [(21,(.row 24 [[(iC aG.Points),(xF encTBar aG.Bars)]])),(26,(pR 45 (encLInt true) r4.1)),(31,(.trow 45 32 (lensOf r25.2))),(32,(.pool 3 (rowsOf encInt r25.2)))] z6 z4 (Wr (mv (Iv r27) Q Q Q Q (Op20 (LT.lss Q) Q y2 Q Q (On (AWR.cond Q (fun hc28 => ?_) (fun hc28 => ?_))))))
       ·refine Ws (Wr ?_)
        refine asg (Bv false) Q y2 Q Q (On (AWR.ret (FPost.mk (.inr Q) z1 J Q ⟨PermP.sc,J⟩ J)))
       ·refine AWR.skip (Ws (Ws (Wr ?_)))
        refine mv (Iv r27) Q Q Q Q (mv (Iv r25.1) Q Q Q Q (Op20 (LT.neq Q) Q Q Q Q (On (AWR.cond Q (fun hc29 => ?_) (fun hc29 => ?_)))))
        ·refine Ws (Wr ?_)
         refine asg (Bv false) Q y2 Q Q (On (AWR.ret (FPost.mk (.inr Q) z1 J Q ⟨PermP.sc,J⟩ J)))
        ·refine AWR.skip (Ws (Wr ?_))
         refine Op11 (LT.bloadN (out := [(iC aG.Points),(xF encTBar aG.Bars)]) Q ag24 (infS inf24) sz24 (by exact Q) (by exact Q)) Q Q Q Q (Ob' fun r30 hr30 => (AOR.step (@LT.callF Try.prog _ _ 46 _ _ [(.agg [(iC aG.Points),(xF encTBar aG.Bars)])] _ _ [] _ _ _ _ ((show Fw.Fn Try.prog 46 [(.agg [(iC aG.Points),(xF encTBar aG.Bars)])] [] (Ag  [(iC r30.Points),(lo 42 r30.Bars.length)]) [(42,(pR 112 encTBar r30.Bars))] [] [42] from Fw.Fn.ren [(0,42)] (w_laws_toGraph aG r30 hr30) Q)) Q cb46 (.cons (.agg (.cons (.same Q) (.cons (.same Q) .nil))) .nil) Q Q J) z2 J Q Q (Ob' fun r31 hr31 => (AOR.step (@LT.callF Try.prog _ _ 47 _ _ [(.agg [(iC r30.Points),(lo 42 r30.Bars.length)])] _ _ [(42,(pR 112 encTBar r30.Bars))] _ _ _ _ ((show Fw.Fn Try.prog 47 [(.agg [(iC r30.Points),(xF encTBar r30.Bars)])] [] (.tup [(.c (lo 44 r31.1.length)),(.c (bC r31.2))]) [(44,(.trow 45 45 (lensOf r31.1))),(45,(.pool 3 (rowsOf encInt r31.1)))] [] [44,45] from Fw.Fn.ren [(0,44),(1,45)] (w_impl_BodyTrees r30 r31 hr31) Q)) Q cb47 (.cons (.agg (.cons (.same Q) (.cons (.tloc Q Q) .nil))) .nil) Q Q J) z2 z1 Q Q (mv (.tup [(.c (lo 44 r31.1.length)),(.c (bC r31.2))]) Q Q Q Q (Op10 (LT.extract (v := (.c (lo 44 r31.1.length))) Q (by exact Q)) Q Q Q (Op10 (LT.extract (v := (.c (bC r31.2))) Q (by exact Q)) Q Q Q (asg (Cc (lo 44 r31.1.length)) Q Q Q Q (asg (Bv r31.2) Q Q Q Q (On (Ws (Ws ?_))))))))))))
         refine AWR.joinK (fun j34 => ([(7,(Cc (lo 31 r25.2.length))),(10,(Iv r25.1)),(87,(Bv j34))],[(31,(.trow 45 32 (lensOf r25.2))),(32,(.pool 3 (rowsOf encInt r25.2)))])) ?_ (fun j34 _ => ?_)
         ·refine en [(4,(Cc (lo 26 r4.1.length))),(5,(Bv r4.2)),(7,(Cc (lo 31 r6.1.length))),(10,(Iv r25.1)),(12,(Cc (lo 44 r31.1.length))),(13,(Bv r31.2))] [(26,(pR 45 (encLInt true) r4.1)),(31,(.trow 45 32 (lensOf r25.2))),(32,(.pool 3 (rowsOf encInt r25.2))),(44,(.trow 45 45 (lensOf r31.1))),(45,(.pool 3 (rowsOf encInt r31.1)))] z6 z5 (Wr (mv (Cc (lo 44 r31.1.length)) Q Q Q Q (mv (Cc (lo 26 r4.1.length)) Q Q Q Q (Ob' fun r35 hr35 => (AOR.pure (@LT.callF Try.prog _ _ 48 _ _ [(.c (lo 44 r31.1.length)),(.c (lo 26 r4.1.length))] _ _ [(44,(.trow 45 45 (lensOf r31.1))),(45,(.pool 3 (rowsOf encInt r31.1))),(26,(pR 45 (encLInt true) r4.1))] _ _ _ _ (w_laws_eqIntSS r31.1 r4.1 r35 hr35) Q cb48 (.cons (.c (.ttrow Q Q Q (fun _ => Q))) (.cons (.c (.weak (.tloc (enc := encLInt true) Q Q) (QW.xsm qw_encLInt (fun h => h) _))) .nil)) Q Q J) z3 z3 Q Q (Op10 (LT.not Q) Q Q Q (mv (Bv (!r35)) Q Q Q Q (AOR.split (fun hb36 => ?_) (fun hb36 => ?_)))))))))
          ·refine Ok Q Q Q (by rw [hb36]; rfl) Q (Ok Q Q Q (by rw [hb36]; rfl) Q (Ok Q Q Q (by rw [hb36]; rfl) Q (Op20 (LT.pickT (v := (Bv true)) Q hb36) Q y2 Q Q (On (AWR.bind fun u37 hu37 => (AWR.nil ⟨Q,Ent.of ⟨(congrArg (fun l1 => (some (AV.s (.c (lo 31 l1))) : Option AV)) (same_eq hu37)),Q,Q,J⟩ z2⟩))))))
          ·refine mv (Bv r31.2) Q Q (gH hb36 Q Q) Q (mv (Bv r4.2) Q Q (gH hb36 Q Q) Q (Op20 (LT.neqB Q und4) Q Q (gH hb36 Q Q) Q (Op20 (LT.pickF (v := (Bv (r31.2 != r4.2))) Q hb36) Q Q Q Q (On (AWR.bind fun u38 hu38 => (AWR.nil ⟨Q,Ent.of ⟨(congrArg (fun l1 => (some (AV.s (.c (lo 31 l1))) : Option AV)) (same_eq hu38)),Q,Q,J⟩ z2⟩))))))
         ·refine AWR.cond Q (fun hc39 => ?_) (fun hc39 => ?_)
          ·refine Ws (Wr ?_)
           refine asg (Bv false) Q y2 Q Q (On (AWR.ret (FPost.mk (.inr Q) z1 J Q ⟨PermP.sc,J⟩ J)))
          ·refine AWR.skip (Ws (Wr ?_))
           refine asg (Iv 1) Q y2 Q Q (On (Ws (Wr ?_)))
           refine mv (Cc (lo 31 r25.2.length)) Q Q Q Q (mv (Iv 1) Q Q Q Q (Ob' fun r40 hr40 => (AOR.pure (@LT.callF Try.prog _ _ 50 _ _ [(.c (lo 31 r25.2.length)),(.c (iC 1))] _ _ [(31,(.trow 45 32 (lensOf r25.2))),(32,(.pool 3 (rowsOf encInt r25.2)))] _ _ _ _ (w_laws_heldIntSS r25.2 1 r40 hr40) Q cb50 (.cons (.c (.ttrow Q Q Q (fun _ => Q))) (.cons (.c (.same Q)) .nil)) Q Q J) z3 z2 Q Q (asg (Iv r40) Q Q Q Q (On (Ws (Ws (Wr ?_))))))))
           refine mv (Iv r40) Q Q Q Q (Op20 (LT.lss Q) Q y2 Q Q (On (AWR.cond Q (fun hc41 => ?_) (fun hc41 => ?_))))
           ·refine Ws (Wr ?_)
            refine asg (Bv false) Q y2 Q Q (On (AWR.ret (FPost.mk (.inr Q) z1 J Q ⟨PermP.sc,J⟩ J)))
           ·refine AWR.skip (Ws (Ws (Wr ?_)))
            refine mv (Iv r40) Q Q Q Q (mv (Iv r25.1) Q Q Q Q (Op20 (LT.neq Q) Q Q Q Q (On (AWR.cond Q (fun hc42 => ?_) (fun hc42 => ?_)))))
            ·refine Ws (Wr ?_)
             refine asg (Bv false) Q y2 Q Q (On (AWR.ret (FPost.mk (.inr Q) z1 J Q ⟨PermP.sc,J⟩ J)))
            ·refine AWR.skip (Ws (Wr ?_))
             refine asg (Bv true) Q y2 Q Q (On (AWR.ret (FPost.mk (.inr Q) z1 J Q ⟨PermP.sc,J⟩ J)))
end Go.Proofs.Yteognanhfpbghaa
end
section
set_option linter.unusedVariables false
set_option linter.unusedSimpArgs false
set_option linter.unnecessarySimpa false
namespace Go.Fw
open Go.ChangeShapes Go.WideShapes Go.ChangeAt Go.RowKit
open Go.Proofs.Yteognanhfpbghaa (Rows.uptoBulk Rows.uptoBulkAll)
abbrev Bof (W : World) : Nat → Prop := fun b => b < W.heap.size
abbrev Rno : Nat → Prop := fun _ => False
abbrev gno : Nat → GS := fun _ => .dead
def Opn {α : Type} (P : Program) (t : TypeId) (s : Nat) (enc : α → List PV) (wt : α → Nat) (ok : α → Prop) : Prop :=
  ∀ (H : Type) (e : TypeId × Value → H) (W : World) (base : Nat) (spare : Nat → Bool) (held : Bool) (fuel : Nat) (cs : List Value) (x : DataW H × List MemPlace), DataW.trod e P W base spare held fuel t cs = some x →
    ∃ a : α, ok a ∧ wt a ≤ Go.Proofs.Yteognanhfpbghaa.Rows.uptoBulk x.1 ∧ cs.length = s ∧ (enc a).length = s ∧ ∀ (k : Nat) p, (enc a)[k]? = some p → ∃ u, cs[k]? = some u ∧ RPV W Rno (Bof W) p u
def okI (n : Int) : Prop := -9223372036854775808 ≤ n ∧ n ≤ 9223372036854775807
def okL {α : Type} (ok : α → Prop) (xs : List α) : Prop := ∀ x ∈ xs, ok x
def wtI (_ : Int) : Nat := 1
def wtL {α : Type} (wt : α → Nat) (xs : List α) : Nat := (xs.map wt).sum + 1
section
variable {P : Program}
theorem one1 {p q : PV} {cs : List Value} {v : Value} {W : World} (hcs : cs = [v]) (h : RPV W Rno (Bof W) p v) : ∀ (k : Nat) r, [p][k]? = some r → ∃ u, cs[k]? = some u ∧ RPV W Rno (Bof W) r u := fun k r hk => by
  subst hcs
  cases k with
  | zero => simp at hk; subst hk; exact ⟨v, rfl, h⟩
  | succ k => simp at hk
theorem Opn.int {t : TypeId} (ht : P.underlying t = some (.int .i64)) : Opn P t 1 (fun n : Int => [.sc (.int .i64 n)]) wtI okI := fun H e W base spare held fuel cs x h => by
  obtain ⟨n, rfl, rfl, hw⟩ := DataW.trod_int ht h
  refine ⟨n, ?_, by simp [wtI, Go.Proofs.Yteognanhfpbghaa.Rows.uptoBulk], rfl, rfl, one1 (q := .sc (.int .i64 n)) rfl (.sc rfl)⟩
  simp [Lit.wf, IntKind.min, IntKind.max, IntKind.signed, IntKind.bits] at hw
  exact ⟨by omega, by omega⟩
theorem list_of {α : Type} {p : Nat → α → Prop} : ∀ n : Nat, (∀ i, i < n → ∃ a, p i a) → ∃ xs : List α, xs.length = n ∧ ∀ (i : Nat) a, xs[i]? = some a → p i a
  | 0, _ => ⟨[], rfl, fun i a h => by simp at h⟩
  | n + 1, h => by
    obtain ⟨xs, h1, h2⟩ := list_of n fun i hi => h i (by omega)
    obtain ⟨a, ha⟩ := h n (by omega)
    refine ⟨xs ++ [a], by simp [h1], fun i b hb => ?_⟩
    rw [List.getElem?_append] at hb
    split at hb
    · exact h2 i b hb
    · rename_i hn
      have hi : i - xs.length = 0 := by
        have := (List.getElem?_eq_some_iff.1 hb).1
        simp at this
        omega
      rw [hi] at hb
      simp at hb
      subst hb
      have : i = n := by omega
      subst this
      exact ha
theorem bulk_sum {α : Type} {H : Type} {wt : α → Nat} {D : Nat → DataW H} : ∀ (xs : List α) (k : Nat), (∀ (i : Nat) a, xs[i]? = some a → wt a ≤ Go.Proofs.Yteognanhfpbghaa.Rows.uptoBulk (D (k + i))) →
    (xs.map wt).sum ≤ Go.Proofs.Yteognanhfpbghaa.Rows.uptoBulkAll ((List.range' k xs.length).map D)
  | [], _, _ => by simp [Go.Proofs.Yteognanhfpbghaa.Rows.uptoBulkAll]
  | a :: r, k, h => by
    have h0 := h 0 a rfl
    have ih := bulk_sum r (k + 1) fun i b hb => by
      have := h (i + 1) b (by simpa using hb)
      rwa [show k + 1 + i = k + (i + 1) by omega]
    rw [Nat.add_zero] at h0
    simp only [List.map_cons, List.sum_cons, List.length_cons, List.range'_succ, Go.Proofs.Yteognanhfpbghaa.Rows.uptoBulkAll]
    omega
theorem cell_lt {w : World} {a : Addr} {v : Value} (h : w.cell? a = some v) : a.block < w.heap.size := by
  unfold World.cell? at h
  cases hb : w.heap[a.block]? with
  | none => rw [hb] at h; simp at h
  | some o => exact (Array.getElem?_eq_some_iff.1 hb).1
theorem Opn.slice {α : Type} {t e : TypeId} {s : Nat} {enc : α → List PV} {wt : α → Nat} {ok : α → Prop} (ht : P.underlying t = some (.slice e)) (hs : P.cellsOf e = s) (hs0 : 0 < s) (he : Opn P e s enc wt ok) :
    Opn P t 1 (fun xs : List α => [.xs false (xs.map enc)]) (wtL wt) (okL ok) := fun H en W base spare held fuel cs x h => by
  rcases Go.Deep.open_slice ht h with ⟨rfl, rfl⟩ | ⟨a, len, cap, m, n, D, Pl, rfl, hb, hl, hm, hmm, rfl, hi⟩
  · refine ⟨[], ?_, ?_, rfl, rfl, one1 (q := .xs false []) rfl .emp⟩
    · intro x hx; cases hx
    · simp [wtL, Go.Proofs.Yteognanhfpbghaa.Rows.uptoBulk]
  · have hml : len ≤ m := by rw [hmm]; split <;> omega
    obtain ⟨xs, hxl, hx⟩ := list_of (p := fun i (b : α) => ok b ∧ wt b ≤ Go.Proofs.Yteognanhfpbghaa.Rows.uptoBulk (D i) ∧ (enc b).length = s ∧ ∀ (k : Nat) p, (enc b)[k]? = some p → ∃ u, W.cell? (a.add (i * s + k)) = some u ∧ RPV W Rno (Bof W) p u) len (fun i hil => by
      obtain ⟨cs', hc, htr⟩ := hi i (by omega)
      obtain ⟨b, h1, h2, h3, h4, h5⟩ := he _ _ _ _ _ _ _ _ _ htr
      obtain ⟨_, hcl, hat⟩ := World.cells?_some hc
      refine ⟨b, h1, h2, h4, fun k p hk => ?_⟩
      obtain ⟨u, hu, hr⟩ := h5 k p hk
      refine ⟨u, ?_, hr⟩
      have hks : k < s := by rw [← h4]; exact (List.getElem?_eq_some_iff.1 hk).1
      have := hat k (by rw [hs]; exact hks)
      rw [add_add, hs] at this
      rw [this]
      exact hu)
    refine ⟨xs, fun b hb => ?_, ?_, rfl, rfl, one1 (q := .sc undef) rfl ?_⟩
    · obtain ⟨i, hib⟩ := List.getElem?_of_mem hb
      exact (hx i b hib).1
    · have := bulk_sum (wt := wt) (D := D) xs 0 (fun i b hb => by rw [Nat.zero_add]; exact (hx i b hb).2.1)
      simp only [wtL, Go.Proofs.Yteognanhfpbghaa.Rows.uptoBulk]
      rw [hxl, ← List.range_eq_range'] at this
      omega
    · cases hxs : xs with
      | nil =>
        have : len = 0 := by rw [← hxl, hxs]; rfl
        subst this
        exact .emp
      | cons b r =>
        rw [← hxs]
        have hget : ∀ (j k : Nat) cs p, (xs.map enc)[j]? = some cs → cs[k]? = some p → ∃ u, W.cell? (a.add (j * s + k)) = some u ∧ RPV W Rno (Bof W) p u := fun j k cs p hj hk => by
          rw [List.getElem?_map] at hj
          cases hjx : xs[j]? with
          | none => rw [hjx] at hj; cases hj
          | some c =>
            rw [hjx] at hj
            injection hj with hj
            subst hj
            exact (hx j c hjx).2.2.2 k p hk
        refine .xs (s := s) (fun j k => (W.cell? (a.add (j * s + k))).getD undef) (by simp [hxl]) ?_ (by simp [hxl]; exact hl) (fun cs hcs => ?_) (fun j k cs p hj hk => ?_) (fun j k cs p hj hk => ?_)
        · have h0 := hx 0 b (by rw [hxs]; rfl)
          have hlt : 0 < (enc b).length := by rw [h0.2.2.1]; exact hs0
          obtain ⟨u, hu, _⟩ := h0.2.2.2 0 (enc b)[0] (List.getElem?_eq_getElem hlt)
          have := cell_lt hu
          rw [add_block] at this
          exact this
        · obtain ⟨c, hc, rfl⟩ := List.mem_map.1 hcs
          obtain ⟨i, hic⟩ := List.getElem?_of_mem hc
          exact (hx i c hic).2.2.1
        · obtain ⟨u, hu, _⟩ := hget j k cs p hj hk
          rw [hu]; rfl
        · obtain ⟨u, hu, hr⟩ := hget j k cs p hj hk
          rw [hu]
          exact hr
def st2 (P : Program) (t : TypeId) : Option (Nat × Nat × Nat × Nat) := match P.underlying t with
  | some (.struct fs) => match fs.toList with
    | [f0, f1] => some (f0.type, f0.offset, f1.type, f1.offset)
    | _ => none
  | _ => none
theorem Opn.struct2 {α β γ : Type} {t t1 t2 : TypeId} {s1 s2 : Nat} {enc1 : α → List PV} {enc2 : β → List PV} {enc : γ → List PV} {wt1 : α → Nat} {wt2 : β → Nat} {wt : γ → Nat} {ok1 : α → Prop} {ok2 : β → Prop} {ok : γ → Prop} (mk : α → β → γ)
    (ht : st2 P t = some (t1, 0, t2, s1)) (hc : P.cellsOf t = s1 + s2) (hc1 : P.cellsOf t1 = s1) (hc2 : P.cellsOf t2 = s2) (h1 : Opn P t1 s1 enc1 wt1 ok1) (h2 : Opn P t2 s2 enc2 wt2 ok2)
    (he : ∀ a b, enc (mk a b) = enc1 a ++ enc2 b) (hw : ∀ a b, wt (mk a b) = wt1 a + wt2 b) (ho : ∀ a b, ok1 a → ok2 b → ok (mk a b)) : Opn P t (s1 + s2) enc wt ok := fun H e W base spare held fuel cs x h => by
  unfold st2 at ht
  split at ht
  · rename_i fs hfs
    split at ht
    · rename_i f0 f1 hfl
      obtain ⟨l⟩ := fs
      simp only at hfl
      subst hfl
      simp only [Option.some.injEq, Prod.mk.injEq] at ht
      obtain ⟨rfl, ho0, rfl, ho1⟩ := ht
      obtain ⟨y0, y1, n, rfl, hl, h3, h4⟩ := Go.ChangeShapes.trod_struct2 hfs h
      rw [ho0, hc1] at h3
      rw [ho1, hc2] at h4
      obtain ⟨a, a1, a2, a3, a4, a5⟩ := h1 _ _ _ _ _ _ _ _ _ h3
      obtain ⟨b, b1, b2, b3, b4, b5⟩ := h2 _ _ _ _ _ _ _ _ _ h4
      refine ⟨mk a b, ho a b a1 b1, ?_, by rw [hl, hc], by rw [he, List.length_append, a4, b4], fun k p hk => ?_⟩
      · rw [hw]
        simp only [Go.Proofs.Yteognanhfpbghaa.Rows.uptoBulk, Go.Proofs.Yteognanhfpbghaa.Rows.uptoBulkAll]
        omega
      · rw [he, List.getElem?_append] at hk
        split at hk
        · rename_i hlt
          rw [a4] at hlt
          obtain ⟨u, hu, hr⟩ := a5 k p hk
          refine ⟨u, ?_, hr⟩
          rw [List.getElem?_take, if_pos hlt, List.drop_zero] at hu
          exact hu
        · rename_i hlt
          rw [a4] at hlt hk
          obtain ⟨u, hu, hr⟩ := b5 _ p hk
          refine ⟨u, ?_, hr⟩
          rw [List.getElem?_take] at hu
          split at hu
          · rw [List.getElem?_drop] at hu
            rwa [show s1 + (k - s1) = k by omega] at hu
          · cases hu
    · cases ht
  · cases ht
theorem len_wtL {α : Type} {wt : α → Nat} (h : ∀ x, 1 ≤ wt x) (xs : List α) : xs.length ≤ wtL wt xs := by
  unfold wtL
  induction xs with
  | nil => simp
  | cons x r ih =>
    have := h x
    simp only [List.map_cons, List.sum_cons, List.length_cons] at ih ⊢
    omega
theorem Opn.argN {α : Type} {t : TypeId} {s : Nat} {enc : α → List PV} {wt : α → Nat} {ok : α → Prop} (h : Opn P t s enc wt ok) {H : Type} {e : TypeId × Value → H} {W : World} {sp : Nat → Bool} {v : Value} {d : DataW H} {ps : List MemPlace}
    (hv : ∃ cs : Array Value, v = .agg cs) (hd : DataW.Trod e P W 0 sp true t v d ps) : ∃ a : α, ok a ∧ wt a ≤ Go.Proofs.Yteognanhfpbghaa.Rows.uptoBulk d ∧ RS P W Rno (Bof W) gno (.agg ((enc a).map .pv)) v := by
  obtain ⟨cs, rfl⟩ := hv
  obtain ⟨fuel, hf⟩ := hd
  obtain ⟨a, h1, h2, h3, h4, h5⟩ := h _ _ _ _ _ _ _ _ _ hf
  refine ⟨a, h1, h2, cs.toList, by simp, by rw [List.length_map, h4]; simpa [Value.cells] using h3, fun k x hk => ?_⟩
  rw [List.getElem?_map] at hk
  cases hp : (enc a)[k]? with
  | none => rw [hp] at hk; cases hk
  | some p =>
    rw [hp] at hk
    injection hk with hk
    subst hk
    obtain ⟨u, hu, hr⟩ := h5 k p hp
    exact ⟨u, by simpa [Value.cells] using hu, hr.oneCell, hr⟩
def ArgR (P : Program) (W : World) : List SV → List Value → Prop
  | [], [] => True
  | x :: xs, v :: vs => RS P W Rno (Bof W) gno x v ∧ ArgR P W xs vs
  | _, _ => False
theorem ArgR.spec {W : World} : ∀ {xs : List SV} {vs : List Value}, ArgR P W xs vs → vs.length = xs.length ∧ ∀ (k : Nat) x, xs[k]? = some x → ∃ u, vs[k]? = some u ∧ RS P W Rno (Bof W) gno x u
  | [], [], _ => ⟨rfl, fun k x hk => by simp at hk⟩
  | [], _ :: _, h => h.elim
  | _ :: _, [], h => h.elim
  | x :: xs, v :: vs, h => by
    obtain ⟨h1, h2⟩ := ArgR.spec h.2
    refine ⟨by simp [h1], fun k y hk => ?_⟩
    cases k with
    | zero => simp at hk; subst hk; exact ⟨v, rfl, h.1⟩
    | succ k => exact h2 k y (by simpa using hk)
theorem Fn.called {f : FuncId} {xs : List SV} (hf : Fw.Fn P f xs [] (.s (.c (bC true))) [] [] []) {W : World} {args : Array Value} (ha : ArgR P W xs args.toList) : Calls P f args W fun e W' => e = .returned (.bool true) ∧ Below W.heap.size W W' := by
  obtain ⟨h1, h2⟩ := ha.spec
  have hw : WF Rno (Bof W) gno W := ⟨fun b hb => hb.elim, fun b hb => hb, fun n b hg => hg.elim, fun n m b hg => hg.elim, fun n j k b h => (by cases h)⟩
  have := hf Rno (Bof W) gno W args.toList hw h1 h2 (fun p hp => by cases hp)
  rw [show args.toList.toArray = args from by simp] at this
  refine this.mono fun e W' hp => ?_
  obtain ⟨u, R', B', g', rfl, had, _, hv, _⟩ := hp
  have hu : u = .bool true := by
    obtain ⟨_, h3⟩ := hv
    cases h3
    rfl
  subst hu
  exact ⟨rfl, had.os, had.tape, had.output, had.size, fun k hk => had.heap k hk fun n hn => by cases hn⟩
theorem trodAll_stays {H : Type} {e : TypeId × Value → H} (hl : laidOutB P = true) {W W' : World} {sp : Nat → Bool} (hb : Below W.heap.size W W') : ∀ {ts : List TypeId} {vs : List Value} {ds : List (DataW H)} {ps : List MemPlace}, (ts.all fun t => P.readableRec t && decide (t < P.types.size)) = true →
    DataW.TrodAll e P W 0 (fun _ => true) true ts vs ds ps → (∀ p ∈ ps, p.block < W.heap.size) → (∀ p ∈ ps, sp p.block = true) → DataW.TrodAll e P W' 0 sp true ts vs ds ps
  | [], [], [], _, _, h, _, _ => h
  | t :: ts, v :: vs, d :: ds, ps, hr, h, hlt, hs => by
    obtain ⟨p, q, h1, h2, rfl⟩ := h
    simp only [List.all_cons, Bool.and_eq_true, decide_eq_true_eq] at hr
    exact ⟨p, q, Go.WideElems.Trod_stays hl hr.1.1 hr.1.2 h1 (fun x hx => hb.same (hlt x (List.mem_append_left _ hx))) (fun x hx => hs x (List.mem_append_left _ hx)), trodAll_stays hl hb hr.2 h2 (fun x hx => hlt x (List.mem_append_right _ hx)) (fun x hx => hs x (List.mem_append_right _ hx)), rfl⟩
  | [], [], _ :: _, _, _, h, _, _ => h.elim
  | [], _ :: _, _, _, _, h, _, _ => h.elim
  | _ :: _, [], _, _, _, h, _, _ => h.elim
  | _ :: _, _ :: _, [], _, _, h, _, _ => h.elim
theorem post_of_fw {H : Type} {e : TypeId × Value → H} {f : Func} {s : ChangeSpec} {apart handsOn again : Bool} {fresh : Bool} {W W' : World} {args : Array Value} {ds gs : List (DataW H)} {before : List MemPlace} {tb : TypeId} (hW : DataW.Whole e P f.params.toList s.vars apart W args.toList ds gs before) (hl : laidOutB P = true)
    (hr : (f.params.toList.all fun t => P.readableRec t && decide (t < P.types.size)) = true) (hb : Below W.heap.size W W') (hv : s.vars = []) (hf : s.fn H ds = { results := [.lit (.bool true)], args := ds }) (hrt : f.resultTypes = #[tb]) (htb : P.underlying tb = some .bool) :
    s.post e P f apart fresh handsOn again W args (.bool true) W' := by
  have hlt : ∀ p ∈ before, p.block < W.heap.size := fun p hp => hW.lt p hp
  have hW0 := hW
  obtain ⟨p, q, hA, hV, hpq, hz, hn⟩ := hW
  rw [hv] at hV
  obtain ⟨rfl, rfl⟩ : gs = [] ∧ q = [] := by
    cases gs with
    | nil => exact ⟨rfl, hV⟩
    | cons _ _ => exact hV.elim
  rw [List.append_nil] at hpq
  subst hpq
  have hargs : ∀ sp : Nat → Bool, (∀ p ∈ before, sp p.block = true) → DataW.TrodAll e P W' 0 sp true f.params.toList args.toList ds before := fun sp hs => trodAll_stays hl hb hr hA hlt hs
  have hres : ∀ (b : Nat) (sp : Nat → Bool) (hd : Bool), DataW.TrodAll e P W' b sp hd f.resultTypes.toList ((Value.bool true).resultList f.resultTypes.size) [.lit (.bool true)] [] := fun b sp hd => by
    rw [hrt]
    exact ⟨[], [], shut_bool htb _, rfl, rfl⟩
  have hfd : s.fn H (ds ++ []) = { results := [.lit (.bool true)], args := ds } := by rw [List.append_nil]; exact hf
  have hold : ∀ p ∈ before, (fun b => decide (b < W.heap.size)) p.block = true := fun p hp => by simpa using hlt p hp
  have hvs : ∀ sp : Nat → Bool, DataW.TrodVars e P W' sp s.vars [] [] := fun sp => by rw [hv]; rfl
  refine ⟨ds, [], before, [], before, [], hW0, ?_, ?_, ?_, World.keptBut_mono (fun p hp => ⟨hp, ?_⟩) (hb.frame (· ∈ before)), fun _ => ?_⟩
  · rw [hfd]; exact hres _ _ _
  · rw [hfd]; exact hargs _ hold
  · rw [hfd]; exact hvs _
  · exact Or.inr (Or.inl hp)
  · refine ⟨ok_one hrt rfl (okWide_bool_mk htb _), ?_⟩
    · refine ⟨_, _, ([] ++ before) ++ [], ⟨[] ++ before, [], trodAll_append (hargs _ (fun _ _ => rfl)) (hres _ _ _), hvs _, rfl, ?_, ?_⟩, ?_⟩
      · intro b off hp
        have hin : MemPlace.cell b off ∈ before := by simpa using hp
        rw [hb.frozen (hlt _ hin)]
        exact hz b off hin
      · intro ha
        simpa using hn ha
      · intro p hp _
        simpa using hp
end
end Go.Fw
end
section
set_option linter.unusedVariables false
set_option linter.unusedSimpArgs false
set_option linter.unnecessarySimpa false
open Go Go.Fw
open Go.ChangeShapes Go.WideShapes Go.ChangeAt Go.RowKit
namespace Go.Proofs.Yteognanhfpbghaa
theorem oC149 : Try.prog.cellsOf 149 = 2 := by kernel_rfl
theorem oC22 : Try.prog.cellsOf 22 = 1 := by kernel_rfl
theorem oC24 : Try.prog.cellsOf 24 = 2 := by kernel_rfl
theorem oC3 : Try.prog.cellsOf 3 = 1 := by kernel_rfl
theorem oS149 : st2 Try.prog 149 = some (3, 0, 3, 1) := by kernel_rfl
theorem oS24 : st2 Try.prog 24 = some (3, 0, 22, 1) := by kernel_rfl
theorem oU22 : Try.prog.underlying 22 = some (.slice 149) := by kernel_rfl
theorem oU3 : Try.prog.underlying 3 = some (.int .i64) := by kernel_rfl
theorem oX24 : Try.prog.underlying 24 = some (.struct (Try.prog.fieldsOf 24)) := by kernel_rfl
def e_TBar (a : TBar) : List PV := [.sc (.int .i64 a.A), .sc (.int .i64 a.B)]
def wt_TBar (a : TBar) : Nat := wtI a.A + wtI a.B
def ok_TBar (a : TBar) : Prop := okI a.A ∧ okI a.B
theorem opn_149 : Opn Try.prog 149 2 e_TBar wt_TBar ok_TBar := Opn.struct2 (enc1 := (fun n : Int => [.sc (.int .i64 n)])) (enc2 := (fun n : Int => [.sc (.int .i64 n)])) TBar.mk oS149 oC149 oC3 oC3 (Opn.int oU3) (Opn.int oU3) (fun _ _ => rfl) (fun _ _ => rfl) (fun _ _ h1 h2 => ⟨h1, h2⟩)
def e_TGraph (a : TGraph) : List PV := [.sc (.int .i64 a.Points), .xs false (a.Bars.map encTBar)]
def wt_TGraph (a : TGraph) : Nat := wtI a.Points + (wtL wt_TBar) a.Bars
def ok_TGraph (a : TGraph) : Prop := okI a.Points ∧ (okL ok_TBar) a.Bars
theorem opn_24 : Opn Try.prog 24 2 e_TGraph wt_TGraph ok_TGraph := Opn.struct2 (enc1 := (fun n : Int => [.sc (.int .i64 n)])) (enc2 := (fun xs => [.xs false (xs.map e_TBar)])) TGraph.mk oS24 oC24 oC3 oC22 (Opn.int oU3) (Opn.slice oU22 oC149 (by decide) opn_149) (fun _ _ => rfl) (fun _ _ => rfl) (fun _ _ h1 h2 => ⟨h1, h2⟩)
end Go.Proofs.Yteognanhfpbghaa
end
