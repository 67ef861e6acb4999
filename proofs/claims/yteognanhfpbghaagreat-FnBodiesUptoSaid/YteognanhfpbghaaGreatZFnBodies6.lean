/- Parts of a proof that a law of the program holds: what the program computes, and why that is right. -/
import Derived.Test.YteognanhfpbghaaGreatRows
import Derived.ProofKit
import Derived.OpenShut
import Derived.JoinedCond
import Derived.Carry
import Derived.Deep.Slices
import Derived.ChangeSame
import Derived.Test.YteognanhfpbghaaGreatZFnBodies5
section
set_option linter.unusedVariables false
set_option linter.unusedSimpArgs false
set_option linter.unnecessarySimpa false
set_option maxRecDepth 100000
set_option maxHeartbeats 8000000
open Go Go.Fw
namespace Go.Proofs.YteognanhfpbghaaGreat
theorem w_bits_Len64 (x : Int) : ∀ t,m_bits_Len64 x = some t → Fw.Fn Tryz.prog 129 [(.c (sC (.int .u64 x)))] [] (.s (.c (iC t))) [] [] [] := by
 refine Fw.Fn.of (P := Tryz.prog) (X := []) (pn := []) (rs := (fun (t : Int) => [(.c (iC t))])) (dfs := (fun (t : Int) => [])) Tryz.func129 Q Tryz.ntmps129 (K Q) Q ?_
 intro w0 U0 R0 g0
 unfold m_bits_Len64
 refine Ws (Wr ?_)
 refine asg (Iv 0) Q y2 Q Q (On (Ws (Ws (Wr ?_))))
 refine mv (Cc (sC (.int .u64 x))) Q Q Q Q (Op20 (LT.geq Q) Q y2 Q Q (On (AWR.joinK (fun j2 => ([(0,(Cc (sC (.int .u64 j2.1)))),(2,(Iv j2.2))],[])) ?_ (fun j2 _ => ?_))))
 ·refine AWR.cond Q (fun hc3 => ?_) (fun hc3 => ?_)
  ·refine Ws (Wr ?_)
   refine mv (Cc (sC (.int .u64 x))) Q Q Q Q (Op20 (LT.shrU Q (by decide)) Q y2 Q Q (asg (Cc (sC (.int .u64 (shrI x 32)))) Q Q Q Q (On (Wr ?_))))
   refine asg (Iv 32) Q y2 Q Q (On (AWR.nil ⟨Q,Ent.of z2 J⟩))
  ·refine AWR.skip (AWR.nil ⟨Q,Ent.of z2 J⟩)
 ·refine Ws (Ws (Wr ?_))
  refine mv (Cc (sC (.int .u64 j2.1))) Q Q Q Q (Op20 (LT.geq Q) Q y2 Q Q (On (AWR.joinK (fun j5 => ([(0,(Cc (sC (.int .u64 j5.1)))),(2,(Iv j5.2))],[])) ?_ (fun j5 _ => ?_))))
  ·refine AWR.cond Q (fun hc6 => ?_) (fun hc6 => ?_)
   ·refine Ws (Wr ?_)
    refine mv (Cc (sC (.int .u64 j2.1))) Q Q Q Q (Op20 (LT.shrU Q (by decide)) Q y2 Q Q (asg (Cc (sC (.int .u64 (shrI j2.1 16)))) Q Q Q Q (On (Wr ?_))))
    refine mv (Iv j2.2) Q Q Q Q (Op20 (LT.add Q) Q y2 Q Q (asg (Iv (w64 (j2.2 + 16))) Q Q Q Q (On (AWR.nil ⟨Q,Ent.of z2 J⟩))))
   ·refine AWR.skip (AWR.nil ⟨Q,Ent.of z2 J⟩)
  ·refine Ws (Ws (Wr ?_))
   refine mv (Cc (sC (.int .u64 j5.1))) Q Q Q Q (Op20 (LT.geq Q) Q y2 Q Q (On (AWR.joinK (fun j8 => ([(0,(Cc (sC (.int .u64 j8.1)))),(2,(Iv j8.2))],[])) ?_ (fun j8 _ => ?_))))
   ·refine AWR.cond Q (fun hc9 => ?_) (fun hc9 => ?_)
    ·refine Ws (Wr ?_)
     refine mv (Cc (sC (.int .u64 j5.1))) Q Q Q Q (Op20 (LT.shrU Q (by decide)) Q y2 Q Q (asg (Cc (sC (.int .u64 (shrI j5.1 8)))) Q Q Q Q (On (Wr ?_))))
     refine mv (Iv j5.2) Q Q Q Q (Op20 (LT.add Q) Q y2 Q Q (asg (Iv (w64 (j5.2 + 8))) Q Q Q Q (On (AWR.nil ⟨Q,Ent.of z2 J⟩))))
    ·refine AWR.skip (AWR.nil ⟨Q,Ent.of z2 J⟩)
   ·refine Ws (Wr ?_)
    refine mv (Iv j8.2) Q Q Q Q (mv (Cc (sC (.int .u64 j8.1))) Q Q Q Q (Op10 (LT.convInt Q undS113 und5) Q Q Q (Ob' fun x10 hx10 => (Op20 (LT.indexStr Q und9 hx10) y2 Q Q Q (Op10 (LT.convInt Q undS5 und3) Q Q Q (Op20 (LT.add Q) Q Q Q Q (asg (Iv (w64 (j8.2 + (w64 x10)))) Q Q Q Q (On (AWR.ret (FPost.mk (.inr Q) z1 J Q ⟨PermP.sc,J⟩ J))))))))))
theorem w_bits_Len (x : Int) : ∀ t,m_bits_Len x = some t → Fw.Fn Tryz.prog 110 [(.c (sC (.int .u64 x)))] [] (.s (.c (iC t))) [] [] [] := by
 refine Fw.Fn.of (P := Tryz.prog) (X := []) (pn := []) (rs := (fun (t : Int) => [(.c (iC t))])) (dfs := (fun (t : Int) => [])) Tryz.func110 Q Tryz.ntmps110 (K Q) Q ?_
 intro w0 U0 R0 g0
 unfold m_bits_Len
 refine Ws (Wr ?_)
 refine asg (Iv 0) Q y2 Q Q (On (Ws ?_))
 refine AWR.cond y2 (fun hc1 => ?_) (fun hc1 => ?_)
 ·exact AWR.none
 ·refine AWR.skip (Ws (Wr ?_))
  refine mv (Cc (sC (.int .u64 x))) Q Q Q Q (Ob' fun r2 hr2 => (AOR.pure (@LT.callF Tryz.prog _ _ 129 _ _ [(.c (sC (.int .u64 x)))] _ _ [] _ _ _ _ (w_bits_Len64 x r2 hr2) Q cb129 (.cons (.c (.same Q)) .nil) Q Q J) z2 J Q Q (asg (Iv r2) Q Q Q Q (On (AWR.ret (FPost.mk (.inr Q) z1 J Q ⟨PermP.sc,J⟩ J))))))
theorem w_slices_insertionSortCmpFunc_Bar (data : (List TBar)) (a : Int) (b : Int) : ∀ t,m_slices_insertionSortCmpFunc_Bar data a b = some t → Fw.Fn Tryz.prog 120 [(.c (lo 0 data.length)),(.c (iC a)),(.c (iC b)),(.c (.fn 82 []))] [(0,(pR 40 encTBar data))] (resA []) [(0,(pR 40 encTBar t))] [0] [] := by
 refine Fw.Fn.of (P := Tryz.prog) (X := []) (pn := [0]) (rs := (fun (t : (List TBar)) => [])) (dfs := (fun (t : (List TBar)) => [(0,(pR 40 encTBar t))])) Tryz.func120 Q Tryz.ntmps120 (K Q) Q ?_
 intro w0 U0 R0 g0
 unfold m_slices_insertionSortCmpFunc_Bar
 refine Ws (Wr ?_)
 refine mv (Iv a) Q Q Q Q (Op20 (LT.add Q) Q y2 Q Q (asg (Iv (w64 (a + 1))) Q Q Q Q (On (AWR.block ?_))))
 refine AWR.loop1 (id := 0) (m_slices_insertionSortCmpFunc_Bar_L3 a b) (fun s1 => ([(0,(Cc (lo 0 s1.2.length))),(1,(Iv a)),(2,(Iv b)),(3,(Cc (.fn 82 []))),(8,(Iv s1.1))],[(0,(pR 40 encTBar s1.2))])) (fun b64 => ([],[(0,(pR 40 encTBar b64))])) ?_ (Ent.of z5 z1) Q (fun b64 _ => ?_)
 ·intro s1
  unfold m_slices_insertionSortCmpFunc_Bar_L3
  refine Ws (Ws (Wr ?_))
  refine mv (Iv s1.1) Q Q Q Q (mv (Iv b) Q Q Q Q (Op20 (LT.lss Q) Q Q Q Q (On (AWR.cond Q (fun hc65 => ?_) (fun hc65 => ?_)))))
  ·refine AWR.skip (Ws (AWR.block (Ws (Wr ?_))))
   refine mv (Iv s1.1) Q Q Q Q (asg (Iv s1.1) Q Q Q Q (On (AWR.block ?_)))
   refine AWR.loop1 (id := 2) (m_slices_insertionSortCmpFunc_Bar_L4 a s1) (fun s66 => ([(0,(Cc (lo 0 s66.2.length))),(1,(Iv a)),(2,(Iv b)),(3,(Cc (.fn 82 []))),(8,(Iv s1.1)),(9,(Iv s66.1))],[(0,(pR 40 encTBar s66.2))])) (fun b95 => ([(0,(Cc (lo 0 b95.2.length))),(1,(Iv a)),(2,(Iv b)),(3,(Cc (.fn 82 []))),(8,(Iv b95.1))],[(0,(pR 40 encTBar b95.2))])) ?_ (Ent.of z6 z1) Q (fun b95 _ => ?_)
   ·intro s66
    unfold m_slices_insertionSortCmpFunc_Bar_L4
    refine Ws (Ws ?_)
    refine AWR.joinK (fun j100 => ([(0,(Cc (lo 0 s66.2.length))),(1,(Iv a)),(2,(Iv b)),(3,(Cc (.fn 82 []))),(8,(Iv s1.1)),(9,(Iv s66.1)),(34,(Bv j100))],[(0,(pR 40 encTBar s66.2))])) ?_ (fun j100 _ => ?_)
    ·refine AWR.draw mixed (Dp10 (LT.move (v := (Iv s66.1)) Q) Q Q Q (Dp10 (LT.move (v := (Iv a)) Q) Q Q Q (Dp20 (LT.gtr Q) Q Q Q Q (Dp10 (LT.move (v := (Bv (decide (a < s66.1)))) Q) Q Q Q (AOD.split (fun hb101 => ?_) (fun hb101 => ?_))))))
     ·refine Dp10 (LT.move (v := (Cc (.fn 82 []))) Q) Q (gH hb101 Q Q) Q (Dp10 (LT.move (v := (Cc (lo 0 s66.2.length))) Q) Q (gH hb101 Q Q) Q (Dp10 (LT.move (v := (Iv s66.1)) Q) Q (gH hb101 Q Q) Q (AOD.bind fun x102 hx102 => (Dp21 (LT.tindexLoc Q Q el24 hx102) Q Q Q (gH hb101 Q Q) Q (Dp11 (LT.tloadN Q ag40 (infS inf40) sz40 hx102 (by exact Q) (by exact Q)) Q Q (gH hb101 Q Q) Q (Dp10 (LT.move (v := (Cc (lo 0 s66.2.length))) Q) Q (gH hb101 Q Q) Q (Dp10 (LT.move (v := (Iv s66.1)) Q) Q (gH hb101 Q Q) Q (Dp20 (LT.sub Q) Q y2 (gH hb101 Q Q) Q (AOD.bind fun x103 hx103 => (Dp21 (LT.tindexLoc Q Q el24 hx103) Q Q Q (gH hb101 Q Q) Q (Dp11 (LT.tloadN Q ag40 (infS inf40) sz40 hx103 (by exact Q) (by exact Q)) Q Q (gH hb101 Q Q) Q ?_)))))))))))
      refine AOD.bind fun r104 hr104 => (AOD.pure (@LT.callF Tryz.prog _ _ 82 _ _ [(.agg [(iC x102.A),(iC x102.B)]),(.agg [(iC x103.A),(iC x103.B)])] _ _ [] _ _ _ _ (w_impl_compareBars x102 x103 r104 hr104) Q cb82 (.cons (.agg (.cons (.same Q) (.cons (.same Q) .nil))) (.cons (.agg (.cons (.same Q) (.cons (.same Q) .nil))) .nil)) Q Q J) z3 J (gH hb101 Q Q) Q (Dp20 (LT.lss Q) Q y2 (gH hb101 Q Q) Q (Dp20 (LT.pickT (v := (Bv (decide (r104 < 0)))) Q hb101) Q Q Q Q (AOD.nil (by kernel_rfl) (AWR.nil ⟨Q,Ent.of z7 z1⟩)))))
     ·refine AOD.skip (gH hb101 Q Q) Q (AOD.skip (gH hb101 Q Q) Q (AOD.skip (gH hb101 Q Q) Q (AOD.skip (gH hb101 Q Q) Q (AOD.skip (gH hb101 Q Q) Q (AOD.skip (gH hb101 Q Q) Q (AOD.skip (gH hb101 Q Q) Q (AOD.skip (gH hb101 Q Q) Q (AOD.skip (gH hb101 Q Q) Q (AOD.skip (gH hb101 Q Q) Q (AOD.skip (gH hb101 Q Q) Q (AOD.skip (gH hb101 Q Q) Q ?_)))))))))))
      refine Dp20 (LT.pickF (v := (Bv false)) Q hb101) Q y2 Q Q (AOD.nil (by kernel_rfl) (AWR.nil ⟨Q,Ent.of z7 z1⟩))
    ·refine AWR.cond Q (fun hc105 => ?_) (fun hc105 => ?_)
     ·refine AWR.skip (Ws (AWR.block (AWR.draw mixed ?_)))
      refine Dp10 (LT.move (v := (Cc (lo 0 s66.2.length))) Q) Q Q Q (Dp10 (LT.move (v := (Iv s66.1)) Q) Q Q Q (Dp10 (LT.move (v := (Cc (lo 0 s66.2.length))) Q) Q Q Q (Dp10 (LT.move (v := (Iv s66.1)) Q) Q Q Q (Dp20 (LT.sub Q) Q y2 Q Q (Dp10 (LT.move (v := (Cc (lo 0 s66.2.length))) Q) Q Q Q (Dp10 (LT.move (v := (Iv s66.1)) Q) Q Q Q (Dp20 (LT.sub Q) Q y2 Q Q (AOD.bind fun x106 hx106 => (Dp21 (LT.tindexLoc Q Q el24 hx106) Q Q Q Q Q (Dp11 (LT.tloadN Q ag40 (infS inf40) sz40 hx106 (by exact Q) (by exact Q)) Q Q Q Q (Dp10 (LT.move (v := (Cc (lo 0 s66.2.length))) Q) Q Q Q ?_)))))))))))
      refine Dp10 (LT.move (v := (Iv s66.1)) Q) Q Q Q (AOD.bind fun x107 hx107 => (Dp21 (LT.tindexLoc Q Q el24 hx107) Q Q Q Q Q (Dp11 (LT.tloadN Q ag40 (infS inf40) sz40 hx107 (by exact Q) (by exact Q)) Q Q Q Q (AOD.bind fun x108 hx108 => (Dp21 (LT.tindexLoc Q Q el24 hx108) Q Q Q Q Q (Ds21 (LT.tstore (k := 0) (v := (.agg [(iC x106.A),(iC x106.B)])) (b' := x106) Q Q (infS inf40) sz40 (by exact Q) hx108 (by exact Q) (by exact K Q) (by exact Q)) Q Q Q Q Q (AOD.bind fun x109 hx109 => (Dp21 (LT.tindexLoc (show s66.2.length = (s66.2.set s66.1.toNat x106).length by simp only [List.length_set]) Q el24 hx109) Q Q Q Q Q (Ds21 (LT.tstore (k := 0) (v := (.agg [(iC x107.A),(iC x107.B)])) (b' := x107) Q Q (infS inf40) sz40 (by exact Q) hx109 (by exact Q) (by exact K Q) (by exact Q)) Q Q Q Q Q (AOD.nil (by kernel_rfl) (AWR.blk ?_)))))))))))
      refine en [(0,(Cc (lo 0 s66.2.length))),(1,(Iv a)),(2,(Iv b)),(3,(Cc (.fn 82 []))),(8,(Iv s1.1)),(9,(Iv s66.1))] [(0,(pR 40 encTBar ((s66.2.set s66.1.toNat x106).set (w64 (s66.1 - 1)).toNat x107)))] z6 z1 (Wr (mv (Iv s66.1) Q Q Q Q (Op20 (LT.sub Q) Q y2 Q Q (asg (Iv (w64 (s66.1 - 1))) Q Q Q Q (On (AWR.nil ⟨Q,Ent.of ⟨(congrArg (fun l1 => (some (AV.s (.c (lo 0 l1))) : Option AV)) (show s66.2.length = ((s66.2.set s66.1.toNat x106).set (w64 (s66.1 - 1)).toNat x107).length by simp only [List.length_set])),Q,Q,Q,Q,Q,J⟩ z1⟩))))))
     ·refine AWR.exit_end Q ⟨Q,Ent.of z5 z1⟩
   ·refine AWR.blk (Wr ?_)
    refine mv (Iv b95.1) Q Q Q Q (Op20 (LT.add Q) Q y2 Q Q (asg (Iv (w64 (b95.1 + 1))) Q Q Q Q (On (AWR.nil ⟨Q,Ent.of z5 z1⟩))))
  ·refine AWR.exit_end Q ⟨Q,Ent.of J z1⟩
 ·refine AWR.nil (FPost.mk (.inl Q) J z1 Q J ⟨PermO.prow' perm_encTBar,J⟩)
theorem w_slices_siftDownCmpFunc_Bar (data : (List TBar)) (loV : Int) (hi : Int) (first : Int) : ∀ t,m_slices_siftDownCmpFunc_Bar data loV hi first = some t → Fw.Fn Tryz.prog 137 [(.c (lo 0 data.length)),(.c (iC loV)),(.c (iC hi)),(.c (iC first)),(.c (.fn 82 []))] [(0,(pR 40 encTBar data))] (resA []) [(0,(pR 40 encTBar t))] [0] [] := by
 refine Fw.Fn.of (P := Tryz.prog) (X := []) (pn := [0]) (rs := (fun (t : (List TBar)) => [])) (dfs := (fun (t : (List TBar)) => [(0,(pR 40 encTBar t))])) Tryz.func137 Q Tryz.ntmps137 (K Q) Q ?_
 intro w0 U0 R0 g0
 unfold m_slices_siftDownCmpFunc_Bar
 refine Ws (Wr ?_)
 refine mv (Iv loV) Q Q Q Q (asg (Iv loV) Q Q Q Q (On (AWR.block ?_)))
 refine AWR.loopR (id := 0) (m_slices_siftDownCmpFunc_Bar_L1 hi first) (fun s1 => ([(0,(Cc (lo 0 s1.2.length))),(2,(Iv hi)),(3,(Iv first)),(4,(Cc (.fn 82 []))),(10,(Iv s1.1))],[(0,(pR 40 encTBar s1.2))])) (fun b44 => ([],[(0,(pR 40 encTBar b44))])) (FPost Tryz.prog Tryz.f137.results.toList [(0,(pR 40 encTBar data))] [] (fun (t : (List TBar)) => []) (fun (t : (List TBar)) => [(0,(pR 40 encTBar t))])) ?_ (Ent.of z5 z1) Q (fun b44 _ => ?_) (by intro r t σ m ht hk; injection ht with ht; subst ht; exact hk)
 ·intro s1
  unfold m_slices_siftDownCmpFunc_Bar_L1
  refine AWR.block (Ws (Wr ?_))
  refine mv (Iv s1.1) Q Q Q Q (Op20 (LT.mul Q) y2 Q Q Q (Op20 (LT.add Q) Q y2 Q Q (asg (Iv (w64 ((w64 (2 * s1.1)) + 1))) Q Q Q Q (On (Ws (Ws (Wr ?_)))))))
  refine mv (Iv (w64 ((w64 (2 * s1.1)) + 1))) Q Q Q Q (mv (Iv hi) Q Q Q Q (Op20 (LT.geq Q) Q Q Q Q (On (AWR.cond Q (fun hc45 => ?_) (fun hc45 => ?_)))))
  ·refine AWR.exit_end Q ⟨Q,Ent.of J z1⟩
  ·refine AWR.skip (Ws (Ws ?_))
   refine AWR.joinK (fun j50 => ([(0,(Cc (lo 0 s1.2.length))),(2,(Iv hi)),(3,(Iv first)),(4,(Cc (.fn 82 []))),(10,(Iv s1.1)),(11,(Iv (w64 ((w64 (2 * s1.1)) + 1)))),(40,(Bv j50))],[(0,(pR 40 encTBar s1.2))])) ?_ (fun j50 _ => ?_)
   ·refine AWR.draw mixed (Dp10 (LT.move (v := (Iv (w64 ((w64 (2 * s1.1)) + 1)))) Q) Q Q Q (Dp20 (LT.add Q) Q y2 Q Q (Dp10 (LT.move (v := (Iv hi)) Q) Q Q Q (Dp20 (LT.lss Q) Q Q Q Q (Dp10 (LT.move (v := (Bv (decide ((w64 ((w64 ((w64 (2 * s1.1)) + 1)) + 1)) < hi)))) Q) Q Q Q (AOD.split (fun hb51 => ?_) (fun hb51 => ?_)))))))
    ·refine Dp10 (LT.move (v := (Cc (.fn 82 []))) Q) Q (gH hb51 Q Q) Q (Dp10 (LT.move (v := (Cc (lo 0 s1.2.length))) Q) Q (gH hb51 Q Q) Q (Dp10 (LT.move (v := (Iv first)) Q) Q (gH hb51 Q Q) Q (Dp10 (LT.move (v := (Iv (w64 ((w64 (2 * s1.1)) + 1)))) Q) Q (gH hb51 Q Q) Q (Dp20 (LT.add Q) Q Q (gH hb51 Q Q) Q (AOD.bind fun x52 hx52 => (Dp21 (LT.tindexLoc Q Q el24 hx52) Q Q Q (gH hb51 Q Q) Q (Dp11 (LT.tloadN Q ag40 (infS inf40) sz40 hx52 (by exact Q) (by exact Q)) Q Q (gH hb51 Q Q) Q (Dp10 (LT.move (v := (Cc (lo 0 s1.2.length))) Q) Q (gH hb51 Q Q) Q (Dp10 (LT.move (v := (Iv first)) Q) Q (gH hb51 Q Q) Q (Dp10 (LT.move (v := (Iv (w64 ((w64 (2 * s1.1)) + 1)))) Q) Q (gH hb51 Q Q) Q (Dp20 (LT.add Q) Q Q (gH hb51 Q Q) Q ?_)))))))))))
     refine Dp20 (LT.add Q) Q y2 (gH hb51 Q Q) Q (AOD.bind fun x53 hx53 => (Dp21 (LT.tindexLoc Q Q el24 hx53) Q Q Q (gH hb51 Q Q) Q (Dp11 (LT.tloadN Q ag40 (infS inf40) sz40 hx53 (by exact Q) (by exact Q)) Q Q (gH hb51 Q Q) Q (AOD.bind fun r54 hr54 => (AOD.pure (@LT.callF Tryz.prog _ _ 82 _ _ [(.agg [(iC x52.A),(iC x52.B)]),(.agg [(iC x53.A),(iC x53.B)])] _ _ [] _ _ _ _ (w_impl_compareBars x52 x53 r54 hr54) Q cb82 (.cons (.agg (.cons (.same Q) (.cons (.same Q) .nil))) (.cons (.agg (.cons (.same Q) (.cons (.same Q) .nil))) .nil)) Q Q J) z3 J (gH hb51 Q Q) Q (Dp20 (LT.lss Q) Q y2 (gH hb51 Q Q) Q (Dp20 (LT.pickT (v := (Bv (decide (r54 < 0)))) Q hb51) Q Q Q Q (AOD.nil (by kernel_rfl) (AWR.nil ⟨Q,Ent.of z7 z1⟩)))))))))
    ·refine AOD.skip (gH hb51 Q Q) Q (AOD.skip (gH hb51 Q Q) Q (AOD.skip (gH hb51 Q Q) Q (AOD.skip (gH hb51 Q Q) Q (AOD.skip (gH hb51 Q Q) Q (AOD.skip (gH hb51 Q Q) Q (AOD.skip (gH hb51 Q Q) Q (AOD.skip (gH hb51 Q Q) Q (AOD.skip (gH hb51 Q Q) Q (AOD.skip (gH hb51 Q Q) Q (AOD.skip (gH hb51 Q Q) Q (AOD.skip (gH hb51 Q Q) Q ?_)))))))))))
     refine AOD.skip (gH hb51 Q Q) Q (AOD.skip (gH hb51 Q Q) Q (AOD.skip (gH hb51 Q Q) Q (AOD.skip (gH hb51 Q Q) Q (Dp20 (LT.pickF (v := (Bv false)) Q hb51) Q y2 Q Q (AOD.nil (by kernel_rfl) (AWR.nil ⟨Q,Ent.of z7 z1⟩))))))
   ·refine AWR.joinK (fun j56 => ([(0,(Cc (lo 0 s1.2.length))),(2,(Iv hi)),(3,(Iv first)),(4,(Cc (.fn 82 []))),(10,(Iv s1.1)),(11,(Iv j56))],[(0,(pR 40 encTBar s1.2))])) ?_ (fun j56 _ => ?_)
    ·refine AWR.cond Q (fun hc57 => ?_) (fun hc57 => ?_)
     ·refine Wr (mv (Iv (w64 ((w64 (2 * s1.1)) + 1))) Q Q Q Q (Op20 (LT.add Q) Q y2 Q Q (asg (Iv (w64 ((w64 ((w64 (2 * s1.1)) + 1)) + 1))) Q Q Q Q (On (AWR.nil ⟨Q,Ent.of z6 z1⟩)))))
     ·refine AWR.skip (AWR.nil ⟨Q,Ent.of z6 z1⟩)
    ·refine Ws (Ws (AWR.draw mixed ?_))
     refine Dp10 (LT.move (v := (Cc (.fn 82 []))) Q) Q Q Q (Dp10 (LT.move (v := (Cc (lo 0 s1.2.length))) Q) Q Q Q (Dp10 (LT.move (v := (Iv first)) Q) Q Q Q (Dp10 (LT.move (v := (Iv s1.1)) Q) Q Q Q (Dp20 (LT.add Q) Q Q Q Q (AOD.bind fun x58 hx58 => (Dp21 (LT.tindexLoc Q Q el24 hx58) Q Q Q Q Q (Dp11 (LT.tloadN Q ag40 (infS inf40) sz40 hx58 (by exact Q) (by exact Q)) Q Q Q Q (Dp10 (LT.move (v := (Cc (lo 0 s1.2.length))) Q) Q Q Q (Dp10 (LT.move (v := (Iv first)) Q) Q Q Q (Dp10 (LT.move (v := (Iv j56)) Q) Q Q Q (Dp20 (LT.add Q) Q Q Q Q ?_)))))))))))
     refine AOD.bind fun x59 hx59 => (Dp21 (LT.tindexLoc Q Q el24 hx59) Q Q Q Q Q (Dp11 (LT.tloadN Q ag40 (infS inf40) sz40 hx59 (by exact Q) (by exact Q)) Q Q Q Q (AOD.bind fun r60 hr60 => (AOD.pure (@LT.callF Tryz.prog _ _ 82 _ _ [(.agg [(iC x58.A),(iC x58.B)]),(.agg [(iC x59.A),(iC x59.B)])] _ _ [] _ _ _ _ (w_impl_compareBars x58 x59 r60 hr60) Q cb82 (.cons (.agg (.cons (.same Q) (.cons (.same Q) .nil))) (.cons (.agg (.cons (.same Q) (.cons (.same Q) .nil))) .nil)) Q Q J) z3 J Q Q (Dp20 (LT.lss Q) Q y2 Q Q (Dp10 (LT.not Q) Q Q Q (AOD.nil (by kernel_rfl) (AWR.cond Q (fun hc61 => ?_) (fun hc61 => ?_)))))))))
     ·refine AWR.ret ⟨Q,FPost.mk (.inr Q) J z1 Q J ⟨PermO.prow' perm_encTBar,J⟩⟩
     ·refine AWR.skip (Ws ?_)
      refine en [(0,(Cc (lo 0 s1.2.length))),(2,(Iv hi)),(3,(Iv first)),(4,(Cc (.fn 82 []))),(10,(Iv s1.1)),(11,(Iv j56))] [(0,(pR 40 encTBar s1.2))] z6 z1 (AWR.draw mixed (Dp10 (LT.move (v := (Cc (lo 0 s1.2.length))) Q) Q Q Q (Dp10 (LT.move (v := (Iv first)) Q) Q Q Q (Dp10 (LT.move (v := (Iv s1.1)) Q) Q Q Q (Dp20 (LT.add Q) Q Q Q Q (Dp10 (LT.move (v := (Cc (lo 0 s1.2.length))) Q) Q Q Q (Dp10 (LT.move (v := (Iv first)) Q) Q Q Q (Dp10 (LT.move (v := (Iv j56)) Q) Q Q Q (Dp20 (LT.add Q) Q Q Q Q (Dp10 (LT.move (v := (Cc (lo 0 s1.2.length))) Q) Q Q Q (Dp10 (LT.move (v := (Iv first)) Q) Q Q Q ?_)))))))))))
      refine Dp10 (LT.move (v := (Iv j56)) Q) Q Q Q (Dp20 (LT.add Q) Q Q Q Q (AOD.bind fun x62 hx62 => (Dp21 (LT.tindexLoc Q Q el24 hx62) Q Q Q Q Q (Dp11 (LT.tloadN Q ag40 (infS inf40) sz40 hx62 (by exact Q) (by exact Q)) Q Q Q Q (Dp10 (LT.move (v := (Cc (lo 0 s1.2.length))) Q) Q Q Q (Dp10 (LT.move (v := (Iv first)) Q) Q Q Q (Dp10 (LT.move (v := (Iv s1.1)) Q) Q Q Q (Dp20 (LT.add Q) Q Q Q Q (AOD.bind fun x63 hx63 => (Dp21 (LT.tindexLoc Q Q el24 hx63) Q Q Q Q Q (Dp11 (LT.tloadN Q ag40 (infS inf40) sz40 hx63 (by exact Q) (by exact Q)) Q Q Q Q ?_)))))))))))
      refine AOD.bind fun x64 hx64 => (Dp21 (LT.tindexLoc Q Q el24 hx64) Q Q Q Q Q (Ds21 (LT.tstore (k := 0) (v := (.agg [(iC x62.A),(iC x62.B)])) (b' := x62) Q Q (infS inf40) sz40 (by exact Q) hx64 (by exact Q) (by exact K Q) (by exact Q)) Q Q Q Q Q (AOD.bind fun x65 hx65 => (Dp21 (LT.tindexLoc (show s1.2.length = (s1.2.set (w64 (first + s1.1)).toNat x62).length by simp only [List.length_set]) Q el24 hx65) Q Q Q Q Q (Ds21 (LT.tstore (k := 0) (v := (.agg [(iC x63.A),(iC x63.B)])) (b' := x63) Q Q (infS inf40) sz40 (by exact Q) hx65 (by exact Q) (by exact K Q) (by exact Q)) Q Q Q Q Q (AOD.nil (by kernel_rfl) (en [(0,(Cc (lo 0 s1.2.length))),(2,(Iv hi)),(3,(Iv first)),(4,(Cc (.fn 82 []))),(11,(Iv j56))] [(0,(pR 40 encTBar ((s1.2.set (w64 (first + s1.1)).toNat x62).set (w64 (first + j56)).toNat x63)))] z5 z1 (Wr (mv (Iv j56) Q Q Q Q (asg (Iv j56) Q Q Q Q (On (AWR.blk ?_))))))))))))
      refine AWR.nil ⟨Q,Ent.of ⟨(congrArg (fun l1 => (some (AV.s (.c (lo 0 l1))) : Option AV)) (show s1.2.length = ((s1.2.set (w64 (first + s1.1)).toNat x62).set (w64 (first + j56)).toNat x63).length by simp only [List.length_set])),Q,Q,Q,Q,J⟩ z1⟩
 ·refine AWR.nil (FPost.mk (.inl Q) J z1 Q J ⟨PermO.prow' perm_encTBar,J⟩)
theorem w_slices_heapSortCmpFunc_Bar (data : (List TBar)) (a : Int) (b : Int) : ∀ t,m_slices_heapSortCmpFunc_Bar data a b = some t → Fw.Fn Tryz.prog 121 [(.c (lo 0 data.length)),(.c (iC a)),(.c (iC b)),(.c (.fn 82 []))] [(0,(pR 40 encTBar data))] (resA []) [(0,(pR 40 encTBar t))] [0] [] := by
 refine Fw.Fn.of (P := Tryz.prog) (X := []) (pn := [0]) (rs := (fun (t : (List TBar)) => [])) (dfs := (fun (t : (List TBar)) => [(0,(pR 40 encTBar t))])) Tryz.func121 Q Tryz.ntmps121 (K Q) Q ?_
 intro w0 U0 R0 g0
 unfold m_slices_heapSortCmpFunc_Bar
 refine Ws (Wr ?_)
 refine mv (Iv a) Q Q Q Q (asg (Iv a) Q Q Q Q (On (Ws (Wr ?_))))
 refine asg (Iv 0) Q y2 Q Q (On (Ws (Wr ?_)))
 refine mv (Iv b) Q Q Q Q (mv (Iv a) Q Q Q Q (Op20 (LT.sub Q) Q Q Q Q (asg (Iv (w64 (b - a))) Q Q Q Q (On (Ws (Ws (Wr ?_)))))))
 refine mv (Iv (w64 (b - a))) Q Q Q Q (Op20 (LT.sub Q) Q y2 Q Q (Op20 (LT.quo Q (by decide)) Q y2 Q Q (asg (Iv (w64 (Int.tdiv (w64 ((w64 (b - a)) - 1)) 2))) Q Q Q Q (On (AWR.block ?_)))))
 refine AWR.loop1 (id := 0) (m_slices_heapSortCmpFunc_Bar_L1 a b) (fun s1 => ([(0,(Cc (lo 0 s1.2.length))),(3,(Cc (.fn 82 []))),(8,(Iv a)),(9,(Iv 0)),(10,(Iv (w64 (b - a)))),(11,(Iv s1.1))],[(0,(pR 40 encTBar s1.2))])) (fun b6 => ([(0,(Cc (lo 0 b6.length))),(3,(Cc (.fn 82 []))),(8,(Iv a)),(9,(Iv 0)),(10,(Iv (w64 (b - a))))],[(0,(pR 40 encTBar b6))])) ?_ (Ent.of z6 z1) Q (fun b6 _ => ?_)
 ·intro s1
  unfold m_slices_heapSortCmpFunc_Bar_L1
  refine Ws (Ws (Wr ?_))
  refine mv (Iv s1.1) Q Q Q Q (Op20 (LT.geq Q) Q y2 Q Q (On (AWR.cond Q (fun hc7 => ?_) (fun hc7 => ?_))))
  ·refine AWR.skip (Ws (AWR.block (Wr ?_)))
   refine mv (Cc (lo 0 s1.2.length)) Q Q Q Q (mv (Iv s1.1) Q Q Q Q (mv (Iv (w64 (b - a))) Q Q Q Q (mv (Iv a) Q Q Q Q (mv (Cc (.fn 82 [])) Q Q Q Q (Ob' fun r8 hr8 => (AOR.step (@LT.callF Tryz.prog _ _ 137 _ _ [(.c (lo 0 s1.2.length)),(.c (iC s1.1)),(.c (iC (w64 (b - a)))),(.c (iC a)),(.c (.fn 82 []))] _ _ [] _ _ _ _ ((show Fw.Fn Tryz.prog 137 [(.c (lo 0 s1.2.length)),(.c (iC s1.1)),(.c (iC (w64 (b - a)))),(.c (iC a)),(.c (.fn 82 []))] [(0,(pR 40 encTBar s1.2))] (.tup []) [(0,(pR 40 encTBar r8))] [0] [] from Fw.Fn.ren [(0,0)] (w_slices_siftDownCmpFunc_Bar s1.2 s1.1 (w64 (b - a)) a r8 hr8) Q)) Q cb137 (.cons (.c (.same Q)) (.cons (.c (.same Q)) (.cons (.c (.same Q)) (.cons (.c (.same Q)) (.cons (.c (.same Q)) .nil))))) Q Q z1) z6 z1 Q Q (On (AWR.blk (Wr ?_)))))))))
   refine mv (Iv s1.1) Q Q Q Q (Op20 (LT.sub Q) Q y2 Q Q (asg (Iv (w64 (s1.1 - 1))) Q Q Q Q (On (AWR.bind fun u9 hu9 => (AWR.nil ⟨Q,Ent.of ⟨(congrArg (fun l1 => (some (AV.s (.c (lo 0 l1))) : Option AV)) (same_eq hu9)),Q,Q,Q,Q,Q,J⟩ z1⟩)))))
  ·refine AWR.exit_end Q ⟨Q,Ent.of z5 z1⟩
 ·refine Ws (Wr ?_)
  refine mv (Iv (w64 (b - a))) Q Q Q Q (Op20 (LT.sub Q) Q y2 Q Q (asg (Iv (w64 ((w64 (b - a)) - 1))) Q Q Q Q (On (AWR.block ?_))))
  refine AWR.loop1 (id := 2) (m_slices_heapSortCmpFunc_Bar_L2 a) (fun s10 => ([(0,(Cc (lo 0 s10.2.length))),(3,(Cc (.fn 82 []))),(8,(Iv a)),(9,(Iv 0)),(12,(Iv s10.1))],[(0,(pR 40 encTBar s10.2))])) (fun b23 => ([],[(0,(pR 40 encTBar b23))])) ?_ (Ent.of z5 z1) Q (fun b23 _ => ?_)
  ·intro s10
   unfold m_slices_heapSortCmpFunc_Bar_L2
   refine Ws (Ws (Wr ?_))
   refine mv (Iv s10.1) Q Q Q Q (Op20 (LT.geq Q) Q y2 Q Q (On (AWR.cond Q (fun hc24 => ?_) (fun hc24 => ?_))))
   ·refine AWR.skip (Ws (AWR.block (Ws (AWR.draw mixed ?_))))
    refine Dp10 (LT.move (v := (Cc (lo 0 s10.2.length))) Q) Q Q Q (Dp10 (LT.move (v := (Iv a)) Q) Q Q Q (Dp10 (LT.move (v := (Cc (lo 0 s10.2.length))) Q) Q Q Q (Dp10 (LT.move (v := (Iv a)) Q) Q Q Q (Dp10 (LT.move (v := (Iv s10.1)) Q) Q Q Q (Dp20 (LT.add Q) Q Q Q Q (Dp10 (LT.move (v := (Cc (lo 0 s10.2.length))) Q) Q Q Q (Dp10 (LT.move (v := (Iv a)) Q) Q Q Q (Dp10 (LT.move (v := (Iv s10.1)) Q) Q Q Q (Dp20 (LT.add Q) Q Q Q Q (AOD.bind fun x25 hx25 => (Dp21 (LT.tindexLoc Q Q el24 hx25) Q Q Q Q Q ?_)))))))))))
    refine Dp11 (LT.tloadN Q ag40 (infS inf40) sz40 hx25 (by exact Q) (by exact Q)) Q Q Q Q (Dp10 (LT.move (v := (Cc (lo 0 s10.2.length))) Q) Q Q Q (Dp10 (LT.move (v := (Iv a)) Q) Q Q Q (AOD.bind fun x26 hx26 => (Dp21 (LT.tindexLoc Q Q el24 hx26) Q Q Q Q Q (Dp11 (LT.tloadN Q ag40 (infS inf40) sz40 hx26 (by exact Q) (by exact Q)) Q Q Q Q (AOD.bind fun x27 hx27 => (Dp21 (LT.tindexLoc Q Q el24 hx27) Q Q Q Q Q (Ds21 (LT.tstore (k := 0) (v := (.agg [(iC x25.A),(iC x25.B)])) (b' := x25) Q Q (infS inf40) sz40 (by exact Q) hx27 (by exact Q) (by exact K Q) (by exact Q)) Q Q Q Q Q (AOD.bind fun x28 hx28 => (Dp21 (LT.tindexLoc (show s10.2.length = (s10.2.set a.toNat x25).length by simp only [List.length_set]) Q el24 hx28) Q Q Q Q Q (Ds21 (LT.tstore (k := 0) (v := (.agg [(iC x26.A),(iC x26.B)])) (b' := x26) Q Q (infS inf40) sz40 (by exact Q) hx28 (by exact Q) (by exact K Q) (by exact Q)) Q Q Q Q Q ?_)))))))))))
    refine AOD.nil (by kernel_rfl) (en [(0,(Cc (lo 0 s10.2.length))),(3,(Cc (.fn 82 []))),(8,(Iv a)),(9,(Iv 0)),(12,(Iv s10.1))] [(0,(pR 40 encTBar ((s10.2.set a.toNat x25).set (w64 (a + s10.1)).toNat x26)))] z5 z1 (en [(0,(Cc (lo 0 (((s10.2.set a.toNat x25).set (w64 (a + s10.1)).toNat x26).length)))),(3,(Cc (.fn 82 []))),(8,(Iv a)),(9,(Iv 0)),(12,(Iv s10.1))] [(0,(pR 40 encTBar ((s10.2.set a.toNat x25).set (w64 (a + s10.1)).toNat x26)))] ⟨(congrArg (fun l1 => (some (AV.s (.c (lo 0 l1))) : Option AV)) (show s10.2.length = ((s10.2.set a.toNat x25).set (w64 (a + s10.1)).toNat x26).length by simp only [List.length_set])),Q,Q,Q,Q,J⟩ z1 (Wr (mv (Cc (lo 0 (((s10.2.set a.toNat x25).set (w64 (a + s10.1)).toNat x26).length))) Q Q Q Q (mv (Iv 0) Q Q Q Q (mv (Iv s10.1) Q Q Q Q (mv (Iv a) Q Q Q Q (mv (Cc (.fn 82 [])) Q Q Q Q (Ob' fun r29 hr29 => (AOR.step (@LT.callF Tryz.prog _ _ 137 _ _ [(.c (lo 0 (((s10.2.set a.toNat x25).set (w64 (a + s10.1)).toNat x26).length))),(.c (iC 0)),(.c (iC s10.1)),(.c (iC a)),(.c (.fn 82 []))] _ _ [] _ _ _ _ ((show Fw.Fn Tryz.prog 137 [(.c (lo 0 (((s10.2.set a.toNat x25).set (w64 (a + s10.1)).toNat x26).length))),(.c (iC 0)),(.c (iC s10.1)),(.c (iC a)),(.c (.fn 82 []))] [(0,(pR 40 encTBar ((s10.2.set a.toNat x25).set (w64 (a + s10.1)).toNat x26)))] (.tup []) [(0,(pR 40 encTBar r29))] [0] [] from Fw.Fn.ren [(0,0)] (w_slices_siftDownCmpFunc_Bar ((s10.2.set a.toNat x25).set (w64 (a + s10.1)).toNat x26) 0 s10.1 a r29 hr29) Q)) Q cb137 (.cons (.c (.same Q)) (.cons (.c (.same Q)) (.cons (.c (.same Q)) (.cons (.c (.same Q)) (.cons (.c (.same Q)) .nil))))) Q Q z1) z6 z1 Q Q (On (AWR.blk (Wr ?_)))))))))))))
    refine mv (Iv s10.1) Q Q Q Q (Op20 (LT.sub Q) Q y2 Q Q (asg (Iv (w64 (s10.1 - 1))) Q Q Q Q (On (AWR.bind fun u30 hu30 => (AWR.nil ⟨Q,Ent.of ⟨(congrArg (fun l1 => (some (AV.s (.c (lo 0 l1))) : Option AV)) (same_eq hu30)),Q,Q,Q,Q,J⟩ z1⟩)))))
   ·refine AWR.exit_end Q ⟨Q,Ent.of J z1⟩
  ·refine AWR.nil (FPost.mk (.inl Q) J z1 Q J ⟨PermO.prow' perm_encTBar,J⟩)
theorem w_slices_pdqsortCmpFunc_Bar (data : (List TBar)) (a : Int) (b : Int) (limit : Int) : ∀ t,m_slices_pdqsortCmpFunc_Bar data a b limit = some t → Fw.Fn Tryz.prog 109 [(.c (lo 0 data.length)),(.c (iC a)),(.c (iC b)),(.c (iC limit)),(.c (.fn 82 []))] [(0,(pR 40 encTBar data))] (resA []) [(0,(pR 40 encTBar t))] [0] [] := by
 refine Fw.Fn.of (P := Tryz.prog) (X := []) (pn := [0]) (rs := (fun (t : (List TBar)) => [])) (dfs := (fun (t : (List TBar)) => [(0,(pR 40 encTBar t))])) Tryz.func109 Q Tryz.ntmps109 (K Q) Q ?_
 intro w0 U0 R0 g0
 unfold m_slices_pdqsortCmpFunc_Bar
 refine Ws (Wr ?_)
 refine asg (Bv true) Q y2 Q Q (On (Ws (Wr ?_)))
 refine asg (Bv true) Q y2 Q Q (On (AWR.block ?_))
 refine AWR.loop0 (AWR.block (Ws (Wr ?_)))
 refine mv (Iv b) Q Q Q Q (mv (Iv a) Q Q Q Q (Op20 (LT.sub Q) Q Q Q Q (asg (Iv (w64 (b - a))) Q Q Q Q (On (Ws (Ws (Wr ?_)))))))
 refine mv (Iv (w64 (b - a))) Q Q Q Q (Op20 (LT.leq Q) Q y2 Q Q (On (AWR.cond Q (fun hc1 => ?_) (fun hc1 => ?_))))
 ·refine Ws (Wr ?_)
  refine mv (Cc (lo 0 data.length)) Q Q Q Q (mv (Iv a) Q Q Q Q (mv (Iv b) Q Q Q Q (mv (Cc (.fn 82 [])) Q Q Q Q (Ob' fun r2 hr2 => (AOR.step (@LT.callF Tryz.prog _ _ 120 _ _ [(.c (lo 0 data.length)),(.c (iC a)),(.c (iC b)),(.c (.fn 82 []))] _ _ [] _ _ _ _ ((show Fw.Fn Tryz.prog 120 [(.c (lo 0 data.length)),(.c (iC a)),(.c (iC b)),(.c (.fn 82 []))] [(0,(pR 40 encTBar data))] (.tup []) [(0,(pR 40 encTBar r2))] [0] [] from Fw.Fn.ren [(0,0)] (w_slices_insertionSortCmpFunc_Bar data a b r2 hr2) Q)) Q cb120 (.cons (.c (.same Q)) (.cons (.c (.same Q)) (.cons (.c (.same Q)) (.cons (.c (.same Q)) .nil)))) Q Q z1) z5 z1 Q Q (On (AWR.ret ⟨Q,FPost.mk (.inr Q) J z1 Q J ⟨PermO.prow' perm_encTBar,J⟩⟩)))))))
 ·refine AWR.skip (Ws (Ws (Wr ?_)))
  refine mv (Iv limit) Q Q Q Q (Op20 (LT.eql Q) Q y2 Q Q (On (AWR.cond Q (fun hc3 => ?_) (fun hc3 => ?_))))
  ·refine Ws (Wr ?_)
   refine mv (Cc (lo 0 data.length)) Q Q Q Q (mv (Iv a) Q Q Q Q (mv (Iv b) Q Q Q Q (mv (Cc (.fn 82 [])) Q Q Q Q (Ob' fun r4 hr4 => (AOR.step (@LT.callF Tryz.prog _ _ 121 _ _ [(.c (lo 0 data.length)),(.c (iC a)),(.c (iC b)),(.c (.fn 82 []))] _ _ [] _ _ _ _ ((show Fw.Fn Tryz.prog 121 [(.c (lo 0 data.length)),(.c (iC a)),(.c (iC b)),(.c (.fn 82 []))] [(0,(pR 40 encTBar data))] (.tup []) [(0,(pR 40 encTBar r4))] [0] [] from Fw.Fn.ren [(0,0)] (w_slices_heapSortCmpFunc_Bar data a b r4 hr4) Q)) Q cb121 (.cons (.c (.same Q)) (.cons (.c (.same Q)) (.cons (.c (.same Q)) (.cons (.c (.same Q)) .nil)))) Q Q z1) z5 z1 Q Q (On (AWR.ret ⟨Q,FPost.mk (.inr Q) J z1 Q J ⟨PermO.prow' perm_encTBar,J⟩⟩)))))))
  ·exact AWR.none
theorem w_slices_SortFunc_Bar (x : (List TBar)) : ∀ t,m_slices_SortFunc_Bar x = some t → Fw.Fn Tryz.prog 89 [(.c (lo 0 x.length)),(.c (.fn 82 []))] [(0,(pR 40 encTBar x))] (resA []) [(0,(pR 40 encTBar t))] [0] [] := by
 refine Fw.Fn.of (P := Tryz.prog) (X := []) (pn := [0]) (rs := (fun (t : (List TBar)) => [])) (dfs := (fun (t : (List TBar)) => [(0,(pR 40 encTBar t))])) Tryz.func89 Q Tryz.ntmps89 (K Q) Q ?_
 intro w0 U0 R0 g0
 unfold m_slices_SortFunc_Bar
 refine Ws (Wr ?_)
 refine mv (Cc (lo 0 x.length)) Q Q Q Q (Op10 (LT.lenLoc Q und24) Q Q Q (asg (Iv (x.length : Int)) Q Q Q Q (On (Wr ?_))))
 refine mv (Cc (lo 0 x.length)) Q Q Q Q (mv (Iv (x.length : Int)) Q Q Q Q (mv (Iv (x.length : Int)) Q Q Q Q (Op10 (LT.convInt Q undS3 und95) Q Q Q (Ob' fun r1 hr1 => (AOR.pure (@LT.callF Tryz.prog _ _ 110 _ _ [(.c (sC (.int .u64 (IntKind.u64.wrap (x.length : Int)))))] _ _ [] _ _ _ _ (w_bits_Len (IntKind.u64.wrap (x.length : Int)) r1 hr1) Q cb110 (.cons (.c (.same Q)) .nil) Q Q J) z2 J Q Q (mv (Cc (.fn 82 [])) Q Q Q Q (Ob' fun r2 hr2 => (AOR.step (@LT.callF Tryz.prog _ _ 109 _ _ [(.c (lo 0 x.length)),(.c (iC 0)),(.c (iC (x.length : Int))),(.c (iC r1)),(.c (.fn 82 []))] _ _ [] _ _ _ _ ((show Fw.Fn Tryz.prog 109 [(.c (lo 0 x.length)),(.c (iC 0)),(.c (iC (x.length : Int))),(.c (iC r1)),(.c (.fn 82 []))] [(0,(pR 40 encTBar x))] (.tup []) [(0,(pR 40 encTBar r2))] [0] [] from Fw.Fn.ren [(0,0)] (w_slices_pdqsortCmpFunc_Bar x 0 (x.length : Int) r1 r2 hr2) Q)) Q cb109 (.cons (.c (.same Q)) (.cons (.c (.same Q)) (.cons (.c (.same Q)) (.cons (.c (.same Q)) (.cons (.c (.same Q)) .nil))))) Q Q z1) ⟨Q,Q,y2,Q,Q,Q,J⟩ z1 Q Q (On (AWR.nil (FPost.mk (.inl Q) J z1 Q J ⟨PermO.prow' perm_encTBar,J⟩)))))))))))
theorem w_impl_withBars (g : TGraph) (l : (List TBar)) : ∀ t,m_impl_withBars g l = some t → Fw.Fn Tryz.prog 61 [(.agg [(iC g.Points),(xF encTBar g.Bars)]),(.c (xF encTBar l))] [] (.s (.agg [(iC t.Points),(lo 0 t.Bars.length)])) [(0,(pR 40 encTBar t.Bars))] [] [0] := by
 refine Fw.Fn.of (P := Tryz.prog) (X := [0]) (pn := []) (rs := (fun (t : TGraph) => [(.agg [(iC t.Points),(lo 0 t.Bars.length)])])) (dfs := (fun (t : TGraph) => [(0,(pR 40 encTBar t.Bars))])) Tryz.func61 Q Tryz.ntmps61 (K Q) Q ?_
 intro w0 U0 R0 g0
 unfold m_impl_withBars
 refine Ws (Wr ?_)
 refine Os10 (LT.box (n := 21) (v := (.agg [(iC g.Points),(xF encTBar g.Bars)])) Q sz26 (by exact Q)) Q Q Q (Os00 (LT.alloc (n := 22) (cells := [(iC 0),(sC nilV)]) Q ti26 Q Q Q) Q Q (On (Ws (Wr ?_))))
 refine Op11 (LT.bloadN (out := [(iC g.Points),(xF encTBar g.Bars)]) Q ag26 (infS inf26) sz26 (by exact Q) (by exact Q)) Q Q Q Q (Ob' fun r1 hr1 => (AOR.step (@LT.callF Tryz.prog _ _ 59 _ _ [(.agg [(iC g.Points),(xF encTBar g.Bars)])] _ _ [] _ _ _ _ ((show Fw.Fn Tryz.prog 59 [(.agg [(iC g.Points),(xF encTBar g.Bars)])] [] (Ag  [(iC r1.Points),(lo 24 r1.Bars.length)]) [(24,(pR 40 encTBar r1.Bars))] [] [24] from Fw.Fn.ren [(0,24)] (w_impl_copyGraph g r1 hr1) Q)) Q cb59 (.cons (.agg (.cons (.same Q) (.cons (.same Q) .nil))) .nil) Q Q J) z2 J Q Q (Os00 (LT.alloc (n := 25) (cells := [(iC 0),(sC nilV)]) Q ti26 Q Q Q) Q Q (Os21 (LT.bstore (v := (.agg [(iC r1.Points),(lo 24 r1.Bars.length)])) (out := [(iC r1.Points),(lo 24 r1.Bars.length)]) Q Q (infS inf26) sz26 (by exact Q) (by exact K Q) (by exact Q)) Q Q Q Q Q (On (Ws ?_))))))
 refine en [(1,(Cc (xF encTBar l))),(4,(Cc (.pl 22 0))),(5,(Cc (.pl 25 0)))] [(22,(.row 26 [[(iC 0),(sC nilV)]])),(24,(pR 40 encTBar r1.Bars)),(25,(.row 26 [[(iC r1.Points),(lo 24 r1.Bars.length)]]))] z3 z3 (Wr (Op10 (LT.fieldPl Q fo26_1) Q Q Q (Op11 (LT.bload1 (c := (lo 24 r1.Bars.length)) Q ag24 (by exact Q)) Q Q Q Q (mv (Cc (xF encTBar l)) Q Q Q Q (Ob' fun u2 hu2 => (Os21 (LT.tappRO (enc := encTBar) Q  Q und24 ti40 Q (by decide) (by decide) (fun _ => Q) (lim_le hu2)) Q Q Q Q Q (Op10 (LT.fieldPl Q fo26_1) Q Q Q (Os21 (LT.bstore (v := (.c (lo 24 ((r1.Bars ++ l).length)))) (out := [(iC r1.Points),(lo 24 ((r1.Bars ++ l).length))]) Q Q (infS inf24) sz24 (by exact Q) (by exact K Q) (by exact Q)) Q Q Q Q Q (On (Ws (Wr ?_)))))))))))
 refine Op10 (LT.fieldPl Q fo26_1) Q Q Q (Op11 (LT.bload1 (c := (lo 24 ((r1.Bars ++ l).length))) Q ag24 (by exact Q)) Q Q Q Q (Ob' fun r3 hr3 => (AOR.step (@LT.callF Tryz.prog _ _ 89 _ _ [(.c (lo 24 ((r1.Bars ++ l).length))),(.c (.fn 82 []))] _ _ [] _ _ _ _ ((show Fw.Fn Tryz.prog 89 [(.c (lo 24 ((r1.Bars ++ l).length))),(.c (.fn 82 []))] [(24,(pR 40 encTBar (r1.Bars ++ l)))] (.tup []) [(24,(pR 40 encTBar r3))] [24] [] from Fw.Fn.ren [(0,24)] (w_slices_SortFunc_Bar (r1.Bars ++ l) r3 hr3) Q)) Q cb89 (.cons (.c (.same Q)) (.cons (.c (.same Q)) .nil)) Q Q z1) z3 z1 Q Q (On (Ws ?_)))))
 refine en [(4,(Cc (.pl 22 0))),(5,(Cc (.pl 25 0)))] [(22,(.row 26 [[(iC 0),(sC nilV)]])),(24,(pR 40 encTBar r3)),(25,(.row 26 [[(iC r1.Points),(lo 24 ((r1.Bars ++ l).length))]]))] z2 z3 (Wr (Op11 (LT.bloadN (out := [(iC r1.Points),(lo 24 ((r1.Bars ++ l).length))]) Q ag26 (infS inf26) sz26 (by exact Q) (by exact Q)) Q Q Q Q (Os21 (LT.bstore (v := (.agg [(iC r1.Points),(lo 24 ((r1.Bars ++ l).length))])) (out := [(iC r1.Points),(lo 24 ((r1.Bars ++ l).length))]) Q Q (infS inf26) sz26 (by exact Q) (by exact K Q) (by exact Q)) Q Q Q Q Q (On (AWR.bind fun u4 hu4 => (en [(4,(Cc (.pl 22 0)))] [(22,(.row 26 [[(iC r1.Points),(lo 24 ((r1.Bars ++ l).length))]])),(24,(pR 40 encTBar r3))] z1 z2 (AWR.ent (Ent.mv 24 0 Q Q) (en [(4,(Cc (.pl 22 0)))] [(0,(pR 40 encTBar r3)),(22,(.row 26 [[(iC r1.Points),(lo 0 r3.length)]]))] z1 ⟨Q,(congrArg (fun l1 => (some (Ob.row 26 [[(iC r1.Points),(lo 0 l1)]]) : Option Ob)) (same_eq hu4)),J⟩ (AWR.ret (FPost.mk (.inr Q) ⟨⟨_,_,_,Q,Q,Q,ag26,sz26,_,(infS inf26)⟩,J⟩ z1 Q ⟨⟨PermP.sc,J,J⟩,J⟩ ⟨PermO.prow' perm_encTBar,J⟩))))))))))
end Go.Proofs.YteognanhfpbghaaGreat
end
section
set_option linter.unusedVariables false
set_option linter.unusedSimpArgs false
set_option linter.unnecessarySimpa false
set_option maxRecDepth 100000
set_option maxHeartbeats 8000000
open Go Go.Fw
namespace Go.Proofs.YteognanhfpbghaaGreat
theorem w_spec_DrawRingOf (code : (List Int)) : ∀ t,m_spec_DrawRingOf code = some t → Fw.Fn Tryz.prog 38 [(.c (xT encInt_u8 code))] [] (.s (.c (iC t))) [] [] [] := by
 refine Fw.Fn.of (P := Tryz.prog) (X := []) (pn := []) (rs := (fun (t : Int) => [(.c (iC t))])) (dfs := (fun (t : Int) => [])) Tryz.func38 Q Tryz.ntmps38 (K Q) Q ?_
 intro w0 U0 R0 g0
 unfold m_spec_DrawRingOf
 refine Ws (Wr ?_)
 refine asg (Iv 0) Q y2 Q Q (On (Ws (Wr ?_)))
 refine mv (Cc (xT encInt_u8 code)) Q Q Q Q (Ob' fun r1 hr1 => (AOR.step (@LT.callF Tryz.prog _ _ 48 _ _ [(.c (xT encInt_u8 code))] _ _ [] _ _ _ _ ((show Fw.Fn Tryz.prog 48 [(.c (xT encInt_u8 code))] [] (Cc (.pl 22 0)) [(22,(.row 69 [[(xT encInt_u8 r1.b),(iC r1.i),(iC r1.h)]]))] [] [22] from Fw.Fn.ren [(0,22)] (w_spec_l1New code r1 hr1) Q)) Q cb48 (.cons (.c (.same Q)) .nil) Q Q J) z2 J Q Q (Ob' fun r2 hr2 => (AOR.step (@LT.callF Tryz.prog _ _ 67 _ _ [(.c (.pl 22 0)),(.c (iC 11))] _ _ [] _ _ _ _ ((show Fw.Fn Tryz.prog 67 [(.c (.pl 22 0)),(.c (iC 11))] [(22,(.row 69 [[(xT encInt_u8 r1.b),(iC r1.i),(iC r1.h)]]))] (Iv r2.1) [(22,(.row 69 [[(xT encInt_u8 r2.2.b),(iC r2.2.i),(iC r2.2.h)]]))] [22] [] from Fw.Fn.ren [(0,22)] (w_spec_l1Below r1 11 r2 hr2) Q)) Q cb67 (.cons (.c (.same Q)) (.cons (.c (.same Q)) .nil)) Q Q z1) ⟨Q,Q,y2,J⟩ z1 Q Q (Op20 (LT.sub Q) Q y2 Q Q (asg (Iv (w64 (r2.1 - 1))) Q Q Q Q (On (AWR.ret (FPost.mk (.inr Q) z1 J Q ⟨PermP.sc,J⟩ J)))))))))
theorem w_impl_RingOf (n : Int) : ∀ t,m_impl_RingOf n = some t → Fw.Fn Tryz.prog 39 [(.c (iC n))] [] (resA [(.agg [(iC t.1.Points),(lo 0 t.1.Bars.length)]),(.c (bC t.2))]) [(0,(pR 40 encTBar t.1.Bars))] [] [0] := by
 refine Fw.Fn.of (P := Tryz.prog) (X := [0]) (pn := []) (rs := (fun (t : (TGraph × Bool)) => [(.agg [(iC t.1.Points),(lo 0 t.1.Bars.length)]),(.c (bC t.2))])) (dfs := (fun (t : (TGraph × Bool)) => [(0,(pR 40 encTBar t.1.Bars))])) Tryz.func39 Q Tryz.ntmps39 (K Q) Q ?_
 intro w0 U0 R0 g0
 unfold m_impl_RingOf
 refine Ws (Wr ?_)
 refine Os00 (LT.alloc (n := 21) (cells := [(iC 0),(sC nilV)]) Q ti26 Q Q Q) Q Q (asg (Bv false) Q y2 Q Q (On (Ws (Ws (Wr ?_)))))
 refine mv (Iv n) Q Q Q Q (Ob' fun r1 hr1 => (AOR.pure (@LT.callF Tryz.prog _ _ 80 _ _ [(.c (iC n)),(.c (iC 2)),(.c (iC 8))] _ _ [] _ _ _ _ (w_impl_within n 2 8 r1 hr1) Q cb80 (.cons (.c (.same Q)) (.cons (.c (.same Q)) (.cons (.c (.same Q)) .nil))) Q Q J) ⟨Q,Q,y2,y2,J⟩ J Q Q (Op10 (LT.not Q) Q Q Q (On (AWR.cond Q (fun hc2 => ?_) (fun hc2 => ?_))))))
 ·refine Ws (Wr ?_)
  refine Op00 (LT.build [] Q Q pl26 ti26 Q Q Q) Q Q (Os21 (LT.bstore (v := (.agg [(iC 0),(sC nilV)])) (out := [(iC 0),(sC nilV)]) Q Q (infS inf26) sz26 (by exact Q) (by exact K Q) (by exact Q)) Q Q Q Q Q (asg (Bv false) Q y2 Q Q (On (AWR.ent (Ent.nilB 21 1 0 40 Q Q Q Q) (en [(2,(Cc (.pl 21 0))),(3,(Bv false))] [(0,(pR 40 encTBar ([] : List TBar))),(21,(.row 26 [[(iC 0),(lo 0 (([] : List TBar).length))]]))] z2 z2 (AWR.ret (FPost.mk (.inr Q) ⟨⟨_,_,_,Q,Q,Q,ag26,sz26,_,(infS inf26)⟩,Q,J⟩ z1 Q ⟨⟨PermP.sc,J,J⟩,PermP.sc,J⟩ ⟨PermO.prow' perm_encTBar,J⟩)))))))
 ·refine AWR.skip (Ws (Wr ?_))
  refine mv (Iv n) Q Q Q Q (Op10 (LT.build [(0,.tmp 10,(.c (iC n)))] Q Q pl26 ti26 Q Q Q) Q Q Q (Os00 (LT.alloc (n := 23) (cells := [(iC 0),(sC nilV)]) Q ti26 Q Q Q) Q Q (Os21 (LT.bstore (v := (.agg [(iC n),(sC nilV)])) (out := [(iC n),(sC nilV)]) Q Q (infS inf26) sz26 (by exact Q) (by exact K Q) (by exact Q)) Q Q Q Q Q (On (Ws (Ws ?_))))))
  refine en [(0,(Iv n)),(2,(Cc (.pl 21 0))),(4,(Cc (.pl 23 0)))] [(21,(.row 26 [[(iC 0),(sC nilV)]])),(23,(.row 26 [[(iC n),(sC nilV)]]))] z3 z2 (Wr (mv (Iv n) Q Q Q Q (mv (Iv 0) Q y2 Q Q (On (AWR.block ?_)))))
  refine AWR.ent (Ent.nilB 23 1 28 40 Q Q Q Q) (AWR.loop1 (id := 0) (m_impl_RingOf_L1 n) (fun s3 => ([(0,(Iv n)),(2,(Cc (.pl 21 0))),(4,(Cc (.pl 23 0))),(12,(Iv n)),(13,(Iv s3.1))],[(21,(.row 26 [[(iC 0),(sC nilV)]])),(23,(.row 26 [[(iC s3.2.1),(lo 28 s3.2.2.length)]])),(28,(pR 40 encTBar s3.2.2))])) (fun b12 => ([(2,(Cc (.pl 21 0))),(4,(Cc (.pl 23 0)))],[(21,(.row 26 [[(iC 0),(sC nilV)]])),(23,(.row 26 [[(iC b12.1),(lo 28 b12.2.length)]])),(28,(pR 40 encTBar b12.2))])) ?_ (Ent.of z5 z3) Q (fun b12 _ => ?_))
  ·intro s3
   unfold m_impl_RingOf_L1
   refine Ws (Wr ?_)
   refine Op20 (LT.lss Q) Q Q Q Q (On (Ws ?_))
   refine AWR.cond Q (fun hc13 => ?_) (fun hc13 => ?_)
   ·refine AWR.skip (Ws (AWR.block (Ws (Wr ?_))))
    refine mv (Iv s3.1) Q Q Q Q (asg (Iv s3.1) Q Q Q Q (On (AWR.draw mixed ?_)))
    refine Dp11 (LT.bloadN (out := [(iC s3.2.1),(lo 28 s3.2.2.length)]) Q ag26 (infS inf26) sz26 (by exact Q) (by exact Q)) Q Q Q Q (Dp10 (LT.move (v := (Iv s3.1)) Q) Q Q Q (Dp10 (LT.move (v := (Iv s3.1)) Q) Q Q Q (Dp20 (LT.add Q) Q y2 Q Q (Dp10 (LT.move (v := (Iv n)) Q) Q Q Q (AOD.bind fun u14 hu14 => (Dp20 (LT.rem Q (nz_ne hu14)) Q Q Q Q (AOD.bind fun r15 hr15 => (AOD.pure (@LT.callF Tryz.prog _ _ 81 _ _ [(.c (iC s3.1)),(.c (iC (Int.tmod (w64 (s3.1 + 1)) n)))] _ _ [] _ _ _ _ (w_impl_bar s3.1 (Int.tmod (w64 (s3.1 + 1)) n) r15 hr15) Q cb81 (.cons (.c (.same Q)) (.cons (.c (.same Q)) .nil)) Q Q J) z3 J Q Q (Ds10 (LT.tbuildSlice (n := 25) (enc := encTBar) [(0,.tmp 22,(.agg [(iC r15.A),(iC r15.B)]))] [r15] Q Q und24 ti40 Q Q Q Q (by decide) (fun _ => Q) Q) Q Q Q (AOD.bind fun r16 hr16 => (AOD.step (@LT.callF Tryz.prog _ _ 61 _ _ [(.agg [(iC s3.2.1),(lo 28 s3.2.2.length)]),(.c (lo 25 ([r15].length)))] _ _ [(28,(pR 40 encTBar s3.2.2)),(25,(pR 40 encTBar [r15]))] _ _ _ _ ((show Fw.Fn Tryz.prog 61 [(.agg [(iC ((TGraph.mk s3.2.1 s3.2.2).Points)),(xF encTBar ((TGraph.mk s3.2.1 s3.2.2).Bars))]),(.c (xF encTBar [r15]))] [] (Ag  [(iC r16.Points),(lo 27 r16.Bars.length)]) [(27,(pR 40 encTBar r16.Bars))] [] [27] from Fw.Fn.ren [(0,27)] (w_impl_withBars (TGraph.mk s3.2.1 s3.2.2) [r15] r16 hr16) Q)) Q cb61 (.cons (.agg (.cons (.same Q) (.cons (.tloc Q Q) .nil))) (.cons (.c (.tloc Q Q)) .nil)) Q Q J) z3 z2 Q Q ?_)))))))))))
    refine Ds21 (LT.bstore (v := (.agg [(iC r16.Points),(lo 27 r16.Bars.length)])) (out := [(iC r16.Points),(lo 27 r16.Bars.length)]) Q Q (infS inf26) sz26 (by exact Q) (by exact K Q) (by exact Q)) Q Q Q Q Q (AOD.nil (by kernel_rfl) (AWR.blk (en [(0,(Iv n)),(2,(Cc (.pl 21 0))),(4,(Cc (.pl 23 0))),(12,(Iv n)),(13,(Iv s3.1))] [(21,(.row 26 [[(iC 0),(sC nilV)]])),(23,(.row 26 [[(iC r16.Points),(lo 27 r16.Bars.length)]])),(27,(pR 40 encTBar r16.Bars))] z5 z3 (Wr (Op20 (LT.add Q) Q y2 Q Q (mv (Iv (w64 (s3.1 + 1))) Q Q Q Q (On (en [(0,(Iv n)),(2,(Cc (.pl 21 0))),(4,(Cc (.pl 23 0))),(12,(Iv n)),(13,(Iv (w64 (s3.1 + 1))))] [(21,(.row 26 [[(iC 0),(sC nilV)]])),(23,(.row 26 [[(iC r16.Points),(lo 27 r16.Bars.length)]])),(27,(pR 40 encTBar r16.Bars))] z5 z3 (AWR.ent (Ent.mv 27 28 Q Q) (AWR.nil ⟨Q,Ent.of z5 z3⟩))))))))))
   ·refine AWR.exit_end Q ⟨Q,Ent.of z2 z3⟩
  ·refine Ws (Wr ?_)
   refine Op11 (LT.bloadN (out := [(iC b12.1),(lo 28 b12.2.length)]) Q ag26 (infS inf26) sz26 (by exact Q) (by exact Q)) Q Q Q Q (Os21 (LT.bstore (v := (.agg [(iC b12.1),(lo 28 b12.2.length)])) (out := [(iC b12.1),(lo 28 b12.2.length)]) Q Q (infS inf26) sz26 (by exact Q) (by exact K Q) (by exact Q)) Q Q Q Q Q (asg (Bv true) Q y2 Q Q (On (en [(2,(Cc (.pl 21 0))),(3,(Bv true))] [(21,(.row 26 [[(iC b12.1),(lo 28 b12.2.length)]])),(28,(pR 40 encTBar b12.2))] z2 z2 (AWR.ent (Ent.mv 28 0 Q Q) (en [(2,(Cc (.pl 21 0))),(3,(Bv true))] [(0,(pR 40 encTBar b12.2)),(21,(.row 26 [[(iC b12.1),(lo 0 b12.2.length)]]))] z2 z2 (AWR.ret (FPost.mk (.inr Q) ⟨⟨_,_,_,Q,Q,Q,ag26,sz26,_,(infS inf26)⟩,Q,J⟩ z1 Q ⟨⟨PermP.sc,J,J⟩,PermP.sc,J⟩ ⟨PermO.prow' perm_encTBar,J⟩))))))))
theorem w_spec_RingOf (n : Int) : ∀ t,m_spec_RingOf n = some t → Fw.Fn Tryz.prog 40 [(.c (iC n))] [] (resA [(.agg [(iC t.1.Points),(lo 0 t.1.Bars.length)]),(.c (bC t.2))]) [(0,(pR 40 encTBar t.1.Bars))] [] [0] := by
 refine Fw.Fn.of (P := Tryz.prog) (X := [0]) (pn := []) (rs := (fun (t : (TGraph × Bool)) => [(.agg [(iC t.1.Points),(lo 0 t.1.Bars.length)]),(.c (bC t.2))])) (dfs := (fun (t : (TGraph × Bool)) => [(0,(pR 40 encTBar t.1.Bars))])) Tryz.func40 Q Tryz.ntmps40 (K Q) Q ?_
 intro w0 U0 R0 g0
 unfold m_spec_RingOf
 refine Ws (Wr ?_)
 refine Os00 (LT.alloc (n := 21) (cells := [(iC 0),(sC nilV)]) Q ti26 Q Q Q) Q Q (asg (Bv false) Q y2 Q Q (On (Ws (Ws (Wr ?_)))))
 refine mv (Iv n) Q Q Q Q (Ob' fun r1 hr1 => (AOR.pure (@LT.callF Tryz.prog _ _ 55 _ _ [(.c (iC n)),(.c (iC 2)),(.c (iC 8))] _ _ [] _ _ _ _ (w_spec_l1In n 2 8 r1 hr1) Q cb55 (.cons (.c (.same Q)) (.cons (.c (.same Q)) (.cons (.c (.same Q)) .nil))) Q Q J) ⟨Q,Q,y2,y2,J⟩ J Q Q (Op10 (LT.not Q) Q Q Q (On (AWR.cond Q (fun hc2 => ?_) (fun hc2 => ?_))))))
 ·refine Ws (Wr ?_)
  refine Op00 (LT.build [] Q Q pl26 ti26 Q Q Q) Q Q (Os21 (LT.bstore (v := (.agg [(iC 0),(sC nilV)])) (out := [(iC 0),(sC nilV)]) Q Q (infS inf26) sz26 (by exact Q) (by exact K Q) (by exact Q)) Q Q Q Q Q (asg (Bv false) Q y2 Q Q (On (AWR.ent (Ent.nilB 21 1 0 40 Q Q Q Q) (en [(2,(Cc (.pl 21 0))),(3,(Bv false))] [(0,(pR 40 encTBar ([] : List TBar))),(21,(.row 26 [[(iC 0),(lo 0 (([] : List TBar).length))]]))] z2 z2 (AWR.ret (FPost.mk (.inr Q) ⟨⟨_,_,_,Q,Q,Q,ag26,sz26,_,(infS inf26)⟩,Q,J⟩ z1 Q ⟨⟨PermP.sc,J,J⟩,PermP.sc,J⟩ ⟨PermO.prow' perm_encTBar,J⟩)))))))
 ·refine AWR.skip (Ws (Wr ?_))
  refine mv (Iv n) Q Q Q Q (Os00 (LT.tbuildSlice (n := 23) (enc := encTBar) [] ([] : List TBar) Q Q und24 ti40 Q Q Q Q (by decide) (fun _ => Q) Q) Q Q (Op20 (LT.build [(0,.tmp 11,(.c (iC n))),(1,.tmp 12,(.c (lo 23 (([] : List TBar).length))))] Q Q pl26 ti26 Q Q Q) Q Q Q Q (Os00 (LT.alloc (n := 24) (cells := [(iC 0),(sC nilV)]) Q ti26 Q Q Q) Q Q (Os21 (LT.bstore (v := (.agg [(iC n),(lo 23 (([] : List TBar).length))])) (out := [(iC n),(lo 23 (([] : List TBar).length))]) Q Q (infS inf26) sz26 (by exact Q) (by exact K Q) (by exact Q)) Q Q Q Q Q (On (Ws (Ws ?_)))))))
  refine en [(0,(Iv n)),(2,(Cc (.pl 21 0))),(4,(Cc (.pl 24 0)))] [(21,(.row 26 [[(iC 0),(sC nilV)]])),(23,(pR 40 encTBar ([] : List TBar))),(24,(.row 26 [[(iC n),(lo 23 (([] : List TBar).length))]]))] z3 z3 (Wr (asg (Iv 0) Q y2 Q Q (On (AWR.block ?_))))
  refine AWR.loop1 (id := 0) (m_spec_RingOf_L1 n) (fun s3 => ([(0,(Iv n)),(2,(Cc (.pl 21 0))),(4,(Cc (.pl 24 0))),(5,(Iv s3.1))],[(21,(.row 26 [[(iC 0),(sC nilV)]])),(23,(pR 40 encTBar s3.2.2)),(24,(.row 26 [[(iC s3.2.1),(lo 23 s3.2.2.length)]]))])) (fun b10 => ([(2,(Cc (.pl 21 0))),(4,(Cc (.pl 24 0)))],[(21,(.row 26 [[(iC 0),(sC nilV)]])),(23,(pR 40 encTBar b10.1)),(24,(.row 26 [[(iC b10.2),(lo 23 b10.1.length)]]))])) ?_ (Ent.of z4 z3) Q (fun b10 _ => ?_)
  ·intro s3
   unfold m_spec_RingOf_L1
   refine Ws (Ws (Wr ?_))
   refine mv (Iv s3.1) Q Q Q Q (mv (Iv n) Q Q Q Q (Op20 (LT.lss Q) Q Q Q Q (On (AWR.cond Q (fun hc11 => ?_) (fun hc11 => ?_)))))
   ·refine AWR.skip (Ws (AWR.block (Ws (Wr ?_))))
    refine mv (Iv s3.1) Q Q Q Q (Op20 (LT.add Q) Q y2 Q Q (mv (Iv n) Q Q Q Q (Ob' fun u12 hu12 => (Op20 (LT.rem Q (nz_ne hu12)) Q Q Q Q (asg (Iv (Int.tmod (w64 (s3.1 + 1)) n)) Q Q Q Q (On (Wr ?_)))))))
    refine Op11 (LT.bloadN (out := [(iC s3.2.1),(lo 23 s3.2.2.length)]) Q ag26 (infS inf26) sz26 (by exact Q) (by exact Q)) Q Q Q Q (mv (Iv s3.1) Q Q Q Q (mv (Iv (Int.tmod (w64 (s3.1 + 1)) n)) Q Q Q Q (Op20 (LT.min Q) Q Q Q Q (mv (Iv s3.1) Q Q Q Q (mv (Iv (Int.tmod (w64 (s3.1 + 1)) n)) Q Q Q Q (Op20 (LT.max Q) Q Q Q Q (Op20 (LT.build [(0,.tmp 26,(.c (iC (if (Int.tmod (w64 (s3.1 + 1)) n) < s3.1 then (Int.tmod (w64 (s3.1 + 1)) n) else s3.1)))),(1,.tmp 29,(.c (iC (if s3.1 < (Int.tmod (w64 (s3.1 + 1)) n) then (Int.tmod (w64 (s3.1 + 1)) n) else s3.1))))] Q Q pl40 ti40 Q Q Q) Q Q Q Q (Ob' fun r13 hr13 => (AOR.step (@LT.callF Tryz.prog _ _ 64 _ _ [(.agg [(iC s3.2.1),(lo 23 s3.2.2.length)]),(.agg [(iC (if (Int.tmod (w64 (s3.1 + 1)) n) < s3.1 then (Int.tmod (w64 (s3.1 + 1)) n) else s3.1)),(iC (if s3.1 < (Int.tmod (w64 (s3.1 + 1)) n) then (Int.tmod (w64 (s3.1 + 1)) n) else s3.1))])] _ _ [(23,(pR 40 encTBar s3.2.2))] _ _ _ _ ((show Fw.Fn Tryz.prog 64 [(.agg [(iC ((TGraph.mk s3.2.1 s3.2.2).Points)),(xF encTBar ((TGraph.mk s3.2.1 s3.2.2).Bars))]),(.agg [(iC ((TBar.mk (if (Int.tmod (w64 (s3.1 + 1)) n) < s3.1 then (Int.tmod (w64 (s3.1 + 1)) n) else s3.1) (if s3.1 < (Int.tmod (w64 (s3.1 + 1)) n) then (Int.tmod (w64 (s3.1 + 1)) n) else s3.1)).A)),(iC ((TBar.mk (if (Int.tmod (w64 (s3.1 + 1)) n) < s3.1 then (Int.tmod (w64 (s3.1 + 1)) n) else s3.1) (if s3.1 < (Int.tmod (w64 (s3.1 + 1)) n) then (Int.tmod (w64 (s3.1 + 1)) n) else s3.1)).B))])] [] (Ag  [(iC r13.Points),(lo 26 r13.Bars.length)]) [(26,(pR 40 encTBar r13.Bars))] [] [26] from Fw.Fn.ren [(0,26)] (w_spec_l2Put (TGraph.mk s3.2.1 s3.2.2) (TBar.mk (if (Int.tmod (w64 (s3.1 + 1)) n) < s3.1 then (Int.tmod (w64 (s3.1 + 1)) n) else s3.1) (if s3.1 < (Int.tmod (w64 (s3.1 + 1)) n) then (Int.tmod (w64 (s3.1 + 1)) n) else s3.1)) r13 hr13) Q)) Q cb64 (.cons (.agg (.cons (.same Q) (.cons (.tloc Q Q) .nil))) (.cons (.agg (.cons (.same Q) (.cons (.same Q) .nil))) .nil)) Q Q J) z3 z1 Q Q (Os21 (LT.bstore (v := (.agg [(iC r13.Points),(lo 26 r13.Bars.length)])) (out := [(iC r13.Points),(lo 26 r13.Bars.length)]) Q Q (infS inf26) sz26 (by exact Q) (by exact K Q) (by exact Q)) Q Q Q Q Q (On (AWR.blk ?_))))))))))))
    refine en [(0,(Iv n)),(2,(Cc (.pl 21 0))),(4,(Cc (.pl 24 0))),(5,(Iv s3.1))] [(21,(.row 26 [[(iC 0),(sC nilV)]])),(24,(.row 26 [[(iC r13.Points),(lo 26 r13.Bars.length)]])),(26,(pR 40 encTBar r13.Bars))] z4 z3 (Wr (mv (Iv s3.1) Q Q Q Q (Op20 (LT.add Q) Q y2 Q Q (asg (Iv (w64 (s3.1 + 1))) Q Q Q Q (On (en [(0,(Iv n)),(2,(Cc (.pl 21 0))),(4,(Cc (.pl 24 0))),(5,(Iv (w64 (s3.1 + 1))))] [(21,(.row 26 [[(iC 0),(sC nilV)]])),(24,(.row 26 [[(iC r13.Points),(lo 26 r13.Bars.length)]])),(26,(pR 40 encTBar r13.Bars))] z4 z3 (AWR.ent (Ent.mv 26 23 Q Q) (AWR.nil ⟨Q,Ent.of z4 z3⟩))))))))
   ·refine AWR.exit_end Q ⟨Q,Ent.of z2 z3⟩
  ·refine Ws (Wr ?_)
   refine Op11 (LT.bloadN (out := [(iC b10.2),(lo 23 b10.1.length)]) Q ag26 (infS inf26) sz26 (by exact Q) (by exact Q)) Q Q Q Q (Os21 (LT.bstore (v := (.agg [(iC b10.2),(lo 23 b10.1.length)])) (out := [(iC b10.2),(lo 23 b10.1.length)]) Q Q (infS inf26) sz26 (by exact Q) (by exact K Q) (by exact Q)) Q Q Q Q Q (asg (Bv true) Q y2 Q Q (On (en [(2,(Cc (.pl 21 0))),(3,(Bv true))] [(21,(.row 26 [[(iC b10.2),(lo 23 b10.1.length)]])),(23,(pR 40 encTBar b10.1))] z2 z2 (AWR.ent (Ent.mv 23 0 Q Q) (en [(2,(Cc (.pl 21 0))),(3,(Bv true))] [(0,(pR 40 encTBar b10.1)),(21,(.row 26 [[(iC b10.2),(lo 0 b10.1.length)]]))] z2 z2 (AWR.ret (FPost.mk (.inr Q) ⟨⟨_,_,_,Q,Q,Q,ag26,sz26,_,(infS inf26)⟩,Q,J⟩ z1 Q ⟨⟨PermP.sc,J,J⟩,PermP.sc,J⟩ ⟨PermO.prow' perm_encTBar,J⟩))))))))
theorem w_spec_EqualGraphs (a : TGraph) (b : TGraph) : ∀ t,m_spec_EqualGraphs a b = some t → Fw.Fn Tryz.prog 41 [(.agg [(iC a.Points),(xF encTBar a.Bars)]),(.agg [(iC b.Points),(xF encTBar b.Bars)])] [] (.s (.c (bC t))) [] [] [] := by
 refine Fw.Fn.of (P := Tryz.prog) (X := []) (pn := []) (rs := (fun (t : Bool) => [(.c (bC t))])) (dfs := (fun (t : Bool) => [])) Tryz.func41 Q Tryz.ntmps41 (K Q) Q ?_
 intro w0 U0 R0 g0
 unfold m_spec_EqualGraphs
 refine Ws (Wr ?_)
 refine Os10 (LT.box (n := 21) (v := (.agg [(iC a.Points),(xF encTBar a.Bars)])) Q sz26 (by exact Q)) Q Q Q (Os10 (LT.box (n := 22) (v := (.agg [(iC b.Points),(xF encTBar b.Bars)])) Q sz26 (by exact Q)) Q Q Q (asg (Bv false) Q y2 Q Q (On (Ws (Ws ?_)))))
 refine AWR.joinK (fun j2 => ([(2,(Cc (.pl 21 0))),(3,(Cc (.pl 22 0))),(19,(Bv j2))],[(21,(.row 26 [[(iC a.Points),(xF encTBar a.Bars)]])),(22,(.row 26 [[(iC b.Points),(xF encTBar b.Bars)]]))])) ?_ (fun j2 _ => ?_)
 ·refine Wr (Op10 (LT.fieldPl Q fo26_0) Q Q Q (Op11 (LT.bload1 (c := (iC a.Points)) Q ag3 (by exact Q)) Q Q Q Q (Op10 (LT.fieldPl Q fo26_0) Q Q Q (Op11 (LT.bload1 (c := (iC b.Points)) Q ag3 (by exact Q)) Q Q Q Q (Op20 (LT.neq Q) Q Q Q Q (mv (Bv (a.Points != b.Points)) Q Q Q Q (AOR.split (fun hb3 => ?_) (fun hb3 => ?_))))))))
  ·refine Ok Q Q Q (by rw [hb3]; rfl) Q (Ok Q Q Q (by rw [hb3]; rfl) Q (Ok Q Q Q (by rw [hb3]; rfl) Q (Ok Q Q Q (by rw [hb3]; rfl) Q (Ok Q Q Q (by rw [hb3]; rfl) Q (Ok Q Q Q (by rw [hb3]; rfl) Q (Ok Q Q Q (by rw [hb3]; rfl) Q (Op20 (LT.pickT (v := (Bv true)) Q hb3) Q y2 Q Q (On (AWR.nil ⟨Q,Ent.of z3 z2⟩)))))))))
  ·refine Op10 (LT.fieldPl Q fo26_1) Q (gH hb3 Q Q) Q (Op11 (LT.bload1 (c := (xF encTBar a.Bars)) Q ag24 (by exact Q)) Q Q (gH hb3 Q Q) Q (Op10 (LT.tlenRO Q und24) Q (gH hb3 Q Q) Q (Op10 (LT.fieldPl Q fo26_1) Q (gH hb3 Q Q) Q (Op11 (LT.bload1 (c := (xF encTBar b.Bars)) Q ag24 (by exact Q)) Q Q (gH hb3 Q Q) Q (Op10 (LT.tlenRO Q und24) Q (gH hb3 Q Q) Q (Op20 (LT.neq Q) Q Q (gH hb3 Q Q) Q (Op20 (LT.pickF (v := (Bv ((a.Bars.length : Int) != (b.Bars.length : Int)))) Q hb3) Q Q Q Q (On (AWR.nil ⟨Q,Ent.of z3 z2⟩)))))))))
 ·refine AWR.cond Q (fun hc4 => ?_) (fun hc4 => ?_)
  ·refine Ws (Wr ?_)
   refine asg (Bv false) Q y2 Q Q (On (AWR.ret (FPost.mk (.inr Q) z1 J Q ⟨PermP.sc,J⟩ J)))
  ·refine AWR.skip (Ws (Ws (Wr ?_)))
   refine asg (Iv 0) Q y2 Q Q (On (AWR.block ?_))
   refine AWR.loopR (id := 0) (m_spec_EqualGraphs_L1 a b) (fun s5 => ([(2,(Cc (.pl 21 0))),(3,(Cc (.pl 22 0))),(5,(Iv s5))],[(21,(.row 26 [[(iC a.Points),(xF encTBar a.Bars)]])),(22,(.row 26 [[(iC b.Points),(xF encTBar b.Bars)]]))])) (fun b14 => ([],[])) (FPost Tryz.prog Tryz.f41.results.toList [] [] (fun (t : Bool) => [(.c (bC t))]) (fun (t : Bool) => [])) ?_ (Ent.of z3 z2) Q (fun b14 _ => ?_) (by intro r t σ m ht hk; injection ht with ht; subst ht; exact hk)
   ·intro s5
    unfold m_spec_EqualGraphs_L1
    refine Ws (Ws (Wr ?_))
    refine mv (Iv s5) Q Q Q Q (Op10 (LT.fieldPl Q fo26_1) Q Q Q (Op11 (LT.bload1 (c := (xF encTBar a.Bars)) Q ag24 (by exact Q)) Q Q Q Q (Op10 (LT.tlenRO Q und24) Q Q Q (Op20 (LT.lss Q) Q Q Q Q (On (AWR.cond Q (fun hc15 => ?_) (fun hc15 => ?_)))))))
    ·refine AWR.skip (Ws (AWR.block (Ws (AWR.draw mixed ?_))))
     refine Dp10 (LT.fieldPl Q fo26_1) Q Q Q (Dp11 (LT.bload1 (c := (xF encTBar a.Bars)) Q ag24 (by exact Q)) Q Q Q Q (Dp10 (LT.move (v := (Iv s5)) Q) Q Q Q (AOD.bind fun x16 hx16 => (Dp20 (LT.tindexRO (enc := encTBar) Q el24 hx16 sz40) Q Q Q Q (Dp10 (LT.loadPxN Q ag40 (infS inf40) (by exact sz40.symm)) Q Q Q (Dp10 (LT.fieldPl Q fo26_1) Q Q Q (Dp11 (LT.bload1 (c := (xF encTBar b.Bars)) Q ag24 (by exact Q)) Q Q Q Q (Dp10 (LT.move (v := (Iv s5)) Q) Q Q Q (AOD.bind fun x17 hx17 => (Dp20 (LT.tindexRO (enc := encTBar) Q el24 hx17 sz40) Q Q Q Q (Dp10 (LT.loadPxN Q ag40 (infS inf40) (by exact sz40.symm)) Q Q Q ?_)))))))))))
     refine Dp20 (LT.neqStruct [x16.A,x16.B] [x17.A,x17.B] Q ist40 Q Q) Q Q Q Q (AOD.nil (by kernel_rfl) (AWR.cond Q (fun hc18 => ?_) (fun hc18 => ?_)))
     ·refine Ws (en [] [] J J (Wr (asg (Bv false) Q y2 Q Q (On (AWR.ret ⟨Q,FPost.mk (.inr Q) z1 J Q ⟨PermP.sc,J⟩ J⟩)))))
     ·refine AWR.skip (AWR.blk ?_)
      refine en [(2,(Cc (.pl 21 0))),(3,(Cc (.pl 22 0))),(5,(Iv s5))] [(21,(.row 26 [[(iC a.Points),(xF encTBar a.Bars)]])),(22,(.row 26 [[(iC b.Points),(xF encTBar b.Bars)]]))] z3 z2 (Wr (mv (Iv s5) Q Q Q Q (Op20 (LT.add Q) Q y2 Q Q (asg (Iv (w64 (s5 + 1))) Q Q Q Q (On (AWR.nil ⟨Q,Ent.of z3 z2⟩))))))
    ·refine AWR.exit_end Q ⟨Q,Ent.of J J⟩
   ·refine Ws (Wr ?_)
    refine asg (Bv true) Q y2 Q Q (On (AWR.ret (FPost.mk (.inr Q) z1 J Q ⟨PermP.sc,J⟩ J)))
theorem w_impl_HingeGraph (g : TGraph) : ∀ t,m_impl_HingeGraph g = some t → Fw.Fn Tryz.prog 44 [(.agg [(iC g.Points),(xF encTBar g.Bars)])] [] (resA [(.agg [(iC t.1.Points),(lo 0 t.1.Bars.length)]),(.c (bC t.2))]) [(0,(pR 40 encTBar t.1.Bars))] [] [0] := by
 refine Fw.Fn.of (P := Tryz.prog) (X := [0]) (pn := []) (rs := (fun (t : (TGraph × Bool)) => [(.agg [(iC t.1.Points),(lo 0 t.1.Bars.length)]),(.c (bC t.2))])) (dfs := (fun (t : (TGraph × Bool)) => [(0,(pR 40 encTBar t.1.Bars))])) Tryz.func44 Q Tryz.ntmps44 (K Q) Q ?_
 intro w0 U0 R0 g0
 unfold m_impl_HingeGraph
 refine Ws (Wr ?_)
 refine Os10 (LT.box (n := 21) (v := (.agg [(iC g.Points),(xF encTBar g.Bars)])) Q sz26 (by exact Q)) Q Q Q (Os00 (LT.alloc (n := 22) (cells := [(iC 0),(sC nilV)]) Q ti26 Q Q Q) Q Q (asg (Bv false) Q y2 Q Q (On (Ws (Ws ?_)))))
 refine AWR.joinK (fun j3 => ([(1,(Cc (.pl 21 0))),(2,(Cc (.pl 22 0))),(16,(Bv j3))],[(21,(.row 26 [[(iC g.Points),(xF encTBar g.Bars)]])),(22,(.row 26 [[(iC 0),(sC nilV)]]))])) ?_ (fun j3 _ => ?_)
 ·refine Wr (Op11 (LT.bloadN (out := [(iC g.Points),(xF encTBar g.Bars)]) Q ag26 (infS inf26) sz26 (by exact Q) (by exact Q)) Q Q Q Q (Ob' fun r4 hr4 => (AOR.pure (@LT.callF Tryz.prog _ _ 49 _ _ [(.agg [(iC g.Points),(xF encTBar g.Bars)])] _ _ [] _ _ _ _ (w_impl_IsGraph g r4 hr4) Q cb49 (.cons (.agg (.cons (.same Q) (.cons (.same Q) .nil))) .nil) Q Q J) z2 J Q Q (Op10 (LT.not Q) Q Q Q (mv (Bv (!r4)) Q Q Q Q (AOR.split (fun hb5 => ?_) (fun hb5 => ?_)))))))
  ·refine Ok Q Q Q (by rw [hb5]; rfl) Q (Ok Q Q Q (by rw [hb5]; rfl) Q (Ok Q Q Q (by rw [hb5]; rfl) Q (Ok Q Q Q (by rw [hb5]; rfl) Q (Ok Q Q Q (by rw [hb5]; rfl) Q (Op20 (LT.pickT (v := (Bv true)) Q hb5) Q y2 Q Q (On (AWR.nil ⟨Q,Ent.of z3 z2⟩)))))))
  ·refine Op10 (LT.fieldPl Q fo26_1) Q (gH hb5 Q Q) Q (Op11 (LT.bload1 (c := (xF encTBar g.Bars)) Q ag24 (by exact Q)) Q Q (gH hb5 Q Q) Q (Op10 (LT.tlenRO Q und24) Q (gH hb5 Q Q) Q (Op20 (LT.mul Q) y2 Q (gH hb5 Q Q) Q (Op20 (LT.gtr Q) Q y2 (gH hb5 Q Q) Q (Op20 (LT.pickF (v := (Bv (decide (24 < (w64 (2 * (g.Bars.length : Int))))))) Q hb5) Q Q Q Q (On (AWR.nil ⟨Q,Ent.of z3 z2⟩)))))))
 ·refine AWR.cond Q (fun hc6 => ?_) (fun hc6 => ?_)
  ·refine Ws (Wr ?_)
   refine Op00 (LT.build [] Q Q pl26 ti26 Q Q Q) Q Q (Os21 (LT.bstore (v := (.agg [(iC 0),(sC nilV)])) (out := [(iC 0),(sC nilV)]) Q Q (infS inf26) sz26 (by exact Q) (by exact K Q) (by exact Q)) Q Q Q Q Q (asg (Bv false) Q y2 Q Q (On (AWR.ent (Ent.nilB 22 1 0 40 Q Q Q Q) (en [(2,(Cc (.pl 22 0))),(3,(Bv false))] [(0,(pR 40 encTBar ([] : List TBar))),(22,(.row 26 [[(iC 0),(lo 0 (([] : List TBar).length))]]))] z2 z2 (AWR.ret (FPost.mk (.inr Q) ⟨⟨_,_,_,Q,Q,Q,ag26,sz26,_,(infS inf26)⟩,Q,J⟩ z1 Q ⟨⟨PermP.sc,J,J⟩,PermP.sc,J⟩ ⟨PermO.prow' perm_encTBar,J⟩)))))))
  ·refine AWR.skip (Ws (Wr ?_))
   refine Op10 (LT.fieldPl Q fo26_0) Q Q Q (Op11 (LT.bload1 (c := (iC g.Points)) Q ag3 (by exact Q)) Q Q Q Q (Op10 (LT.build [(0,.tmp 19,(.c (iC g.Points)))] Q Q pl26 ti26 Q Q Q) Q Q Q (Os00 (LT.alloc (n := 24) (cells := [(iC 0),(sC nilV)]) Q ti26 Q Q Q) Q Q (Os21 (LT.bstore (v := (.agg [(iC g.Points),(sC nilV)])) (out := [(iC g.Points),(sC nilV)]) Q Q (infS inf26) sz26 (by exact Q) (by exact K Q) (by exact Q)) Q Q Q Q Q (On (Ws (Ws (Wr ?_))))))))
   refine Op10 (LT.fieldPl Q fo26_1) Q Q Q (Op11 (LT.bload1 (c := (xF encTBar g.Bars)) Q ag24 (by exact Q)) Q Q Q Q (Op10 (LT.tlenRO Q und24) Q Q Q (mv (Iv 0) Q y2 Q Q (On (AWR.block ?_)))))
   refine AWR.ent (Ent.nilB 24 1 28 40 Q Q Q Q) (AWR.loop1 (id := 0) (m_impl_HingeGraph_L1 g) (fun s7 => ([(2,(Cc (.pl 22 0))),(4,(Cc (.pl 24 0))),(22,(Cc (xF encTBar g.Bars))),(23,(Iv (g.Bars.length : Int))),(24,(Iv s7.1))],[(22,(.row 26 [[(iC 0),(sC nilV)]])),(24,(.row 26 [[(iC g.Points),(lo 28 s7.2.length)]])),(28,(pR 40 encTBar s7.2))])) (fun b14 => ([(2,(Cc (.pl 22 0))),(4,(Cc (.pl 24 0)))],[(22,(.row 26 [[(iC 0),(sC nilV)]])),(24,(.row 26 [[(iC g.Points),(lo 28 b14.length)]])),(28,(pR 40 encTBar b14))])) ?_ (Ent.of z5 z3) Q (fun b14 _ => ?_))
   ·intro s7
    unfold m_impl_HingeGraph_L1
    refine Ws (Wr ?_)
    refine Op20 (LT.lss Q) Q Q Q Q (On (Ws ?_))
    refine AWR.cond Q (fun hc15 => ?_) (fun hc15 => ?_)
    ·refine AWR.skip (Ws (AWR.block (Ws (Wr ?_))))
     refine Ob' fun x16 hx16 => (Op20 (LT.tindexRO (enc := encTBar) Q el24 hx16 sz40) Q Q Q Q (Op10 (LT.loadPxN Q ag40 (infS inf40) (by exact sz40.symm)) Q Q Q (Os00 (LT.alloc (n := 25) (cells := [(iC 0),(iC 0)]) Q ti40 Q Q Q) Q Q (Os21 (LT.bstore (v := (.agg [(iC x16.A),(iC x16.B)])) (out := [(iC x16.A),(iC x16.B)]) Q Q (infS inf40) sz40 (by exact Q) (by exact K Q) (by exact Q)) Q Q Q Q Q (On (Wr ?_))))))
     refine Op10 (LT.fieldPl Q fo26_1) Q Q Q (Op11 (LT.bload1 (c := (lo 28 s7.2.length)) Q ag24 (by exact Q)) Q Q Q Q (Op11 (LT.bloadN (out := [(iC x16.A),(iC x16.B)]) Q ag40 (infS inf40) sz40 (by exact Q) (by exact Q)) Q Q Q Q (Op11 (LT.bloadN (out := [(iC x16.A),(iC x16.B)]) Q ag40 (infS inf40) sz40 (by exact Q) (by exact Q)) Q Q Q Q (Os20 (LT.tbuildSlice (n := 26) (enc := encTBar) [(0,.tmp 30,(.agg [(iC x16.A),(iC x16.B)])),(1,.tmp 31,(.agg [(iC x16.A),(iC x16.B)]))] [x16,x16] Q Q und24 ti40 Q Q Q Q (by decide) (fun _ => Q) Q) Q Q Q Q (Ob' fun u17 hu17 => (Os22 (LT.tappP (enc := encTBar) Q Q Q und24 ti40 Q (by decide) (by decide) (fun _ => Q) (lim_le hu17)) Q Q Q Q Q Q (Op10 (LT.fieldPl Q fo26_1) Q Q Q (Os21 (LT.bstore (v := (.c (lo 28 ((s7.2 ++ [x16,x16]).length)))) (out := [(iC g.Points),(lo 28 ((s7.2 ++ [x16,x16]).length))]) Q Q (infS inf24) sz24 (by exact Q) (by exact K Q) (by exact Q)) Q Q Q Q Q (On (AWR.blk ?_))))))))))
     refine en [(2,(Cc (.pl 22 0))),(4,(Cc (.pl 24 0))),(22,(Cc (xF encTBar g.Bars))),(23,(Iv (g.Bars.length : Int))),(24,(Iv s7.1))] [(22,(.row 26 [[(iC 0),(sC nilV)]])),(24,(.row 26 [[(iC g.Points),(lo 28 ((s7.2 ++ [x16,x16]).length))]])),(28,(pR 40 encTBar (s7.2 ++ [x16,x16])))] z5 z3 (Wr (Op20 (LT.add Q) Q y2 Q Q (mv (Iv (w64 (s7.1 + 1))) Q Q Q Q (On (AWR.nil ⟨Q,Ent.of z5 z3⟩)))))
    ·refine AWR.exit_end Q ⟨Q,Ent.of z2 z3⟩
   ·refine Ws (Wr ?_)
    refine Op11 (LT.bloadN (out := [(iC g.Points),(lo 28 b14.length)]) Q ag26 (infS inf26) sz26 (by exact Q) (by exact Q)) Q Q Q Q (Os21 (LT.bstore (v := (.agg [(iC g.Points),(lo 28 b14.length)])) (out := [(iC g.Points),(lo 28 b14.length)]) Q Q (infS inf26) sz26 (by exact Q) (by exact K Q) (by exact Q)) Q Q Q Q Q (asg (Bv true) Q y2 Q Q (On (en [(2,(Cc (.pl 22 0))),(3,(Bv true))] [(22,(.row 26 [[(iC g.Points),(lo 28 b14.length)]])),(28,(pR 40 encTBar b14))] z2 z2 (AWR.ent (Ent.mv 28 0 Q Q) (en [(2,(Cc (.pl 22 0))),(3,(Bv true))] [(0,(pR 40 encTBar b14)),(22,(.row 26 [[(iC g.Points),(lo 0 b14.length)]]))] z2 z2 (AWR.ret (FPost.mk (.inr Q) ⟨⟨_,_,_,Q,Q,Q,ag26,sz26,_,(infS inf26)⟩,Q,J⟩ z1 Q ⟨⟨PermP.sc,J,J⟩,PermP.sc,J⟩ ⟨PermO.prow' perm_encTBar,J⟩))))))))
theorem w_impl_HingeFreedom (g : TGraph) : ∀ t,m_impl_HingeFreedom g = some t → Fw.Fn Tryz.prog 42 [(.agg [(iC g.Points),(xF encTBar g.Bars)])] [] (.s (.c (iC t))) [] [] [] := by
 refine Fw.Fn.of (P := Tryz.prog) (X := []) (pn := []) (rs := (fun (t : Int) => [(.c (iC t))])) (dfs := (fun (t : Int) => [])) Tryz.func42 Q Tryz.ntmps42 (K Q) Q ?_
 intro w0 U0 R0 g0
 unfold m_impl_HingeFreedom
 refine Ws (Wr ?_)
 refine Os10 (LT.box (n := 21) (v := (.agg [(iC g.Points),(xF encTBar g.Bars)])) Q sz26 (by exact Q)) Q Q Q (asg (Iv 0) Q y2 Q Q (On (Ws (Wr ?_))))
 refine Op11 (LT.bloadN (out := [(iC g.Points),(xF encTBar g.Bars)]) Q ag26 (infS inf26) sz26 (by exact Q) (by exact Q)) Q Q Q Q (Ob' fun r1 hr1 => (AOR.step (@LT.callF Tryz.prog _ _ 44 _ _ [(.agg [(iC g.Points),(xF encTBar g.Bars)])] _ _ [] _ _ _ _ ((show Fw.Fn Tryz.prog 44 [(.agg [(iC g.Points),(xF encTBar g.Bars)])] [] (.tup [(.agg [(iC r1.1.Points),(lo 23 r1.1.Bars.length)]),(.c (bC r1.2))]) [(23,(pR 40 encTBar r1.1.Bars))] [] [23] from Fw.Fn.ren [(0,23)] (w_impl_HingeGraph g r1 hr1) Q)) Q cb44 (.cons (.agg (.cons (.same Q) (.cons (.same Q) .nil))) .nil) Q Q J) z2 J Q Q (mv (.tup [(.agg [(iC r1.1.Points),(lo 23 r1.1.Bars.length)]),(.c (bC r1.2))]) Q Q Q Q (Op10 (LT.extract (v := (.agg [(iC r1.1.Points),(lo 23 r1.1.Bars.length)])) Q (by exact Q)) Q Q Q (Op10 (LT.extract (v := (.c (bC r1.2))) Q (by exact Q)) Q Q Q (Os00 (LT.alloc (n := 24) (cells := [(iC 0),(sC nilV)]) Q ti26 Q Q Q) Q Q (Os21 (LT.bstore (v := (.agg [(iC r1.1.Points),(lo 23 r1.1.Bars.length)])) (out := [(iC r1.1.Points),(lo 23 r1.1.Bars.length)]) Q Q (infS inf26) sz26 (by exact Q) (by exact K Q) (by exact Q)) Q Q Q Q Q (asg (Bv r1.2) Q Q Q Q (On (Ws (Ws ?_)))))))))))
 refine en [(3,(Cc (.pl 24 0))),(4,(Bv r1.2))] [(23,(pR 40 encTBar r1.1.Bars)),(24,(.row 26 [[(iC r1.1.Points),(lo 23 r1.1.Bars.length)]]))] z2 z2 (Wr (mv (Bv r1.2) Q Q Q Q (Op10 (LT.not Q) Q Q Q (On (AWR.cond Q (fun hc2 => ?_) (fun hc2 => ?_))))))
 ·refine Ws (Wr ?_)
  refine asg (Iv (-1)) Q y2 Q Q (On (AWR.ret (FPost.mk (.inr Q) z1 J Q ⟨PermP.sc,J⟩ J)))
 ·refine AWR.skip (Ws (Wr ?_))
  refine Op11 (LT.bloadN (out := [(iC r1.1.Points),(lo 23 r1.1.Bars.length)]) Q ag26 (infS inf26) sz26 (by exact Q) (by exact Q)) Q Q Q Q (Ob' fun r3 hr3 => (AOR.pure (@LT.callF Tryz.prog _ _ 31 _ _ [(.agg [(iC r1.1.Points),(lo 23 r1.1.Bars.length)])] _ _ [(23,(pR 40 encTBar r1.1.Bars))] _ _ _ _ (w_impl_BodyFreedom r1.1 r3 hr3) Q cb31 (.cons (.agg (.cons (.same Q) (.cons (.tloc Q Q) .nil))) .nil) Q Q J) z2 z1 Q Q (asg (Iv r3) Q Q Q Q (On (AWR.ret (FPost.mk (.inr Q) z1 J Q ⟨PermP.sc,J⟩ J))))))
theorem w_spec_DrawHingeGraph (code : (List Int)) : ∀ t,m_spec_DrawHingeGraph code = some t → Fw.Fn Tryz.prog 43 [(.c (xT encInt_u8 code))] [] (.s (.agg [(iC t.Points),(lo 0 t.Bars.length)])) [(0,(pR 40 encTBar t.Bars))] [] [0] := by
 refine Fw.Fn.of (P := Tryz.prog) (X := [0]) (pn := []) (rs := (fun (t : TGraph) => [(.agg [(iC t.Points),(lo 0 t.Bars.length)])])) (dfs := (fun (t : TGraph) => [(0,(pR 40 encTBar t.Bars))])) Tryz.func43 Q Tryz.ntmps43 (K Q) Q ?_
 intro w0 U0 R0 g0
 unfold m_spec_DrawHingeGraph
 refine Ws (Wr ?_)
 refine Os00 (LT.alloc (n := 21) (cells := [(iC 0),(sC nilV)]) Q ti26 Q Q Q) Q Q (On (Ws (Wr ?_)))
 refine mv (Cc (xT encInt_u8 code)) Q Q Q Q (Ob' fun r1 hr1 => (AOR.step (@LT.callF Tryz.prog _ _ 48 _ _ [(.c (xT encInt_u8 code))] _ _ [] _ _ _ _ ((show Fw.Fn Tryz.prog 48 [(.c (xT encInt_u8 code))] [] (Cc (.pl 23 0)) [(23,(.row 69 [[(xT encInt_u8 r1.b),(iC r1.i),(iC r1.h)]]))] [] [23] from Fw.Fn.ren [(0,23)] (w_spec_l1New code r1 hr1) Q)) Q cb48 (.cons (.c (.same Q)) .nil) Q Q J) z2 J Q Q (Ob' fun r2 hr2 => (AOR.step (@LT.callF Tryz.prog _ _ 68 _ _ [(.c (.pl 23 0))] _ _ [] _ _ _ _ ((show Fw.Fn Tryz.prog 68 [(.c (.pl 23 0))] [(23,(.row 69 [[(xT encInt_u8 r1.b),(iC r1.i),(iC r1.h)]]))] (Ag  [(iC r2.1.Points),(lo 25 r2.1.Bars.length)]) [(23,(.row 69 [[(xT encInt_u8 r2.2.b),(iC r2.2.i),(iC r2.2.h)]])),(25,(pR 40 encTBar r2.1.Bars))] [23] [25] from Fw.Fn.ren [(0,23),(1,25)] (w_spec_l2Any r1 r2 hr2) Q)) Q cb68 (.cons (.c (.same Q)) .nil) Q Q z1) z2 z1 Q Q (Os21 (LT.bstore (v := (.agg [(iC r2.1.Points),(lo 25 r2.1.Bars.length)])) (out := [(iC r2.1.Points),(lo 25 r2.1.Bars.length)]) Q Q (infS inf26) sz26 (by exact Q) (by exact K Q) (by exact Q)) Q Q Q Q Q (On (en [(2,(Cc (.pl 21 0)))] [(21,(.row 26 [[(iC r2.1.Points),(lo 25 r2.1.Bars.length)]])),(25,(pR 40 encTBar r2.1.Bars))] z1 z2 (AWR.ent (Ent.mv 25 0 Q Q) (en [(2,(Cc (.pl 21 0)))] [(0,(pR 40 encTBar r2.1.Bars)),(21,(.row 26 [[(iC r2.1.Points),(lo 0 r2.1.Bars.length)]]))] z1 z2 (AWR.ret (FPost.mk (.inr Q) ⟨⟨_,_,_,Q,Q,Q,ag26,sz26,_,(infS inf26)⟩,J⟩ z1 Q ⟨⟨PermP.sc,J,J⟩,J⟩ ⟨PermO.prow' perm_encTBar,J⟩)))))))))))
theorem w_spec_HingeGraph (g : TGraph) : ∀ t,m_spec_HingeGraph g = some t → Fw.Fn Tryz.prog 45 [(.agg [(iC g.Points),(xF encTBar g.Bars)])] [] (resA [(.agg [(iC t.1.Points),(lo 0 t.1.Bars.length)]),(.c (bC t.2))]) [(0,(pR 40 encTBar t.1.Bars))] [] [0] := by
 refine Fw.Fn.of (P := Tryz.prog) (X := [0]) (pn := []) (rs := (fun (t : (TGraph × Bool)) => [(.agg [(iC t.1.Points),(lo 0 t.1.Bars.length)]),(.c (bC t.2))])) (dfs := (fun (t : (TGraph × Bool)) => [(0,(pR 40 encTBar t.1.Bars))])) Tryz.func45 Q Tryz.ntmps45 (K Q) Q ?_
 intro w0 U0 R0 g0
 unfold m_spec_HingeGraph
 refine Ws (Wr ?_)
 refine Os10 (LT.box (n := 21) (v := (.agg [(iC g.Points),(xF encTBar g.Bars)])) Q sz26 (by exact Q)) Q Q Q (Os00 (LT.alloc (n := 22) (cells := [(iC 0),(sC nilV)]) Q ti26 Q Q Q) Q Q (asg (Bv false) Q y2 Q Q (On (Ws (Wr ?_)))))
 refine Op10 (LT.fieldPl Q fo26_0) Q Q Q (Op11 (LT.bload1 (c := (iC g.Points)) Q ag3 (by exact Q)) Q Q Q Q (Os00 (LT.tbuildSlice (n := 23) (enc := encTBar) [] ([] : List TBar) Q Q und24 ti40 Q Q Q Q (by decide) (fun _ => Q) Q) Q Q (Op20 (LT.build [(0,.tmp 7,(.c (iC g.Points))),(1,.tmp 8,(.c (lo 23 (([] : List TBar).length))))] Q Q pl26 ti26 Q Q Q) Q Q Q Q (Os00 (LT.alloc (n := 24) (cells := [(iC 0),(sC nilV)]) Q ti26 Q Q Q) Q Q (Os21 (LT.bstore (v := (.agg [(iC g.Points),(lo 23 (([] : List TBar).length))])) (out := [(iC g.Points),(lo 23 (([] : List TBar).length))]) Q Q (infS inf26) sz26 (by exact Q) (by exact K Q) (by exact Q)) Q Q Q Q Q (On (Ws (Ws ?_))))))))
 refine AWR.joinK (fun j3 => ([(1,(Cc (.pl 21 0))),(2,(Cc (.pl 22 0))),(4,(Cc (.pl 24 0))),(19,(Bv j3))],[(21,(.row 26 [[(iC g.Points),(xF encTBar g.Bars)]])),(22,(.row 26 [[(iC 0),(sC nilV)]])),(23,(pR 40 encTBar ([] : List TBar))),(24,(.row 26 [[(iC g.Points),(lo 23 (([] : List TBar).length))]]))])) ?_ (fun j3 _ => ?_)
 ·refine en [(1,(Cc (.pl 21 0))),(2,(Cc (.pl 22 0))),(4,(Cc (.pl 24 0)))] [(21,(.row 26 [[(iC g.Points),(xF encTBar g.Bars)]])),(22,(.row 26 [[(iC 0),(sC nilV)]])),(23,(pR 40 encTBar ([] : List TBar))),(24,(.row 26 [[(iC g.Points),(lo 23 (([] : List TBar).length))]]))] z3 z4 (Wr (Op11 (LT.bloadN (out := [(iC g.Points),(xF encTBar g.Bars)]) Q ag26 (infS inf26) sz26 (by exact Q) (by exact Q)) Q Q Q Q (Ob' fun r4 hr4 => (AOR.pure (@LT.callF Tryz.prog _ _ 14 _ _ [(.agg [(iC g.Points),(xF encTBar g.Bars)])] _ _ [] _ _ _ _ (w_spec_IsGraph g r4 hr4) Q cb14 (.cons (.agg (.cons (.same Q) (.cons (.same Q) .nil))) .nil) Q Q J) z2 J Q Q (Op10 (LT.not Q) Q Q Q (mv (Bv (!r4)) Q Q Q Q (AOR.split (fun hb5 => ?_) (fun hb5 => ?_))))))))
  ·refine Ok Q Q Q (by rw [hb5]; rfl) Q (Ok Q Q Q (by rw [hb5]; rfl) Q (Ok Q Q Q (by rw [hb5]; rfl) Q (Ok Q Q Q (by rw [hb5]; rfl) Q (Ok Q Q Q (by rw [hb5]; rfl) Q (Op20 (LT.pickT (v := (Bv true)) Q hb5) Q y2 Q Q (On (AWR.nil ⟨Q,Ent.of z4 z4⟩)))))))
  ·refine Op10 (LT.fieldPl Q fo26_1) Q (gH hb5 Q Q) Q (Op11 (LT.bload1 (c := (xF encTBar g.Bars)) Q ag24 (by exact Q)) Q Q (gH hb5 Q Q) Q (Op10 (LT.tlenRO Q und24) Q (gH hb5 Q Q) Q (Op20 (LT.mul Q) y2 Q (gH hb5 Q Q) Q (Op20 (LT.gtr Q) Q y2 (gH hb5 Q Q) Q (Op20 (LT.pickF (v := (Bv (decide (24 < (w64 (2 * (g.Bars.length : Int))))))) Q hb5) Q Q Q Q (On (AWR.nil ⟨Q,Ent.of z4 z4⟩)))))))
 ·refine AWR.cond Q (fun hc6 => ?_) (fun hc6 => ?_)
  ·refine Ws (Wr ?_)
   refine Op00 (LT.build [] Q Q pl26 ti26 Q Q Q) Q Q (Os21 (LT.bstore (v := (.agg [(iC 0),(sC nilV)])) (out := [(iC 0),(sC nilV)]) Q Q (infS inf26) sz26 (by exact Q) (by exact K Q) (by exact Q)) Q Q Q Q Q (asg (Bv false) Q y2 Q Q (On (AWR.ent (Ent.nilB 22 1 0 40 Q Q Q Q) (en [(2,(Cc (.pl 22 0))),(3,(Bv false))] [(0,(pR 40 encTBar ([] : List TBar))),(22,(.row 26 [[(iC 0),(lo 0 (([] : List TBar).length))]]))] z2 z2 (AWR.ret (FPost.mk (.inr Q) ⟨⟨_,_,_,Q,Q,Q,ag26,sz26,_,(infS inf26)⟩,Q,J⟩ z1 Q ⟨⟨PermP.sc,J,J⟩,PermP.sc,J⟩ ⟨PermO.prow' perm_encTBar,J⟩)))))))
  ·refine AWR.skip (Ws (Ws (Wr ?_)))
   refine asg (Iv 0) Q y2 Q Q (On (AWR.block ?_))
   refine AWR.loop1 (id := 0) (m_spec_HingeGraph_L1 g) (fun s7 => ([(1,(Cc (.pl 21 0))),(2,(Cc (.pl 22 0))),(4,(Cc (.pl 24 0))),(5,(Iv s7.1))],[(21,(.row 26 [[(iC g.Points),(xF encTBar g.Bars)]])),(22,(.row 26 [[(iC 0),(sC nilV)]])),(23,(pR 40 encTBar s7.2)),(24,(.row 26 [[(iC g.Points),(lo 23 s7.2.length)]]))])) (fun b16 => ([(2,(Cc (.pl 22 0))),(4,(Cc (.pl 24 0)))],[(22,(.row 26 [[(iC 0),(sC nilV)]])),(23,(pR 40 encTBar b16)),(24,(.row 26 [[(iC g.Points),(lo 23 b16.length)]]))])) ?_ (Ent.of z4 z4) Q (fun b16 _ => ?_)
   ·intro s7
    unfold m_spec_HingeGraph_L1
    refine Ws (Ws (Wr ?_))
    refine mv (Iv s7.1) Q Q Q Q (Op10 (LT.fieldPl Q fo26_1) Q Q Q (Op11 (LT.bload1 (c := (xF encTBar g.Bars)) Q ag24 (by exact Q)) Q Q Q Q (Op10 (LT.tlenRO Q und24) Q Q Q (Op20 (LT.lss Q) Q Q Q Q (On (AWR.cond Q (fun hc17 => ?_) (fun hc17 => ?_)))))))
    ·refine AWR.skip (Ws (AWR.block (AWR.draw mixed ?_)))
     refine Dp10 (LT.fieldPl Q fo26_1) Q Q Q (Dp11 (LT.bload1 (c := (lo 23 s7.2.length)) Q ag24 (by exact Q)) Q Q Q Q (Dp10 (LT.fieldPl Q fo26_1) Q Q Q (Dp11 (LT.bload1 (c := (xF encTBar g.Bars)) Q ag24 (by exact Q)) Q Q Q Q (Dp10 (LT.move (v := (Iv s7.1)) Q) Q Q Q (AOD.bind fun x18 hx18 => (Dp20 (LT.tindexRO (enc := encTBar) Q el24 hx18 sz40) Q Q Q Q (Dp10 (LT.loadPxN Q ag40 (infS inf40) (by exact sz40.symm)) Q Q Q (Dp10 (LT.fieldPl Q fo26_1) Q Q Q (Dp11 (LT.bload1 (c := (xF encTBar g.Bars)) Q ag24 (by exact Q)) Q Q Q Q (Dp10 (LT.move (v := (Iv s7.1)) Q) Q Q Q (AOD.bind fun x19 hx19 => ?_)))))))))))
     refine Dp20 (LT.tindexRO (enc := encTBar) Q el24 hx19 sz40) Q Q Q Q (Dp10 (LT.loadPxN Q ag40 (infS inf40) (by exact sz40.symm)) Q Q Q (Ds20 (LT.tbuildSlice (n := 26) (enc := encTBar) [(0,.tmp 34,(.agg [(iC x18.A),(iC x18.B)])),(1,.tmp 39,(.agg [(iC x19.A),(iC x19.B)]))] [x18,x19] Q Q und24 ti40 Q Q Q Q (by decide) (fun _ => Q) Q) Q Q Q Q (AOD.bind fun u20 hu20 => (Ds22 (LT.tappP (enc := encTBar) Q Q Q und24 ti40 Q (by decide) (by decide) (fun _ => Q) (lim_le hu20)) Q Q Q Q Q Q (Dp10 (LT.fieldPl Q fo26_1) Q Q Q (Ds21 (LT.bstore (v := (.c (lo 23 ((s7.2 ++ [x18,x19]).length)))) (out := [(iC g.Points),(lo 23 ((s7.2 ++ [x18,x19]).length))]) Q Q (infS inf24) sz24 (by exact Q) (by exact K Q) (by exact Q)) Q Q Q Q Q (AOD.nil (by kernel_rfl) (AWR.blk (en [(1,(Cc (.pl 21 0))),(2,(Cc (.pl 22 0))),(4,(Cc (.pl 24 0))),(5,(Iv s7.1))] [(21,(.row 26 [[(iC g.Points),(xF encTBar g.Bars)]])),(22,(.row 26 [[(iC 0),(sC nilV)]])),(23,(pR 40 encTBar (s7.2 ++ [x18,x19]))),(24,(.row 26 [[(iC g.Points),(lo 23 ((s7.2 ++ [x18,x19]).length))]]))] z4 z4 (Wr (mv (Iv s7.1) Q Q Q Q ?_)))))))))))
     refine Op20 (LT.add Q) Q y2 Q Q (asg (Iv (w64 (s7.1 + 1))) Q Q Q Q (On (AWR.nil ⟨Q,Ent.of z4 z4⟩)))
    ·refine AWR.exit_end Q ⟨Q,Ent.of z2 z3⟩
   ·refine Ws (Wr ?_)
    refine Op11 (LT.bloadN (out := [(iC g.Points),(lo 23 b16.length)]) Q ag26 (infS inf26) sz26 (by exact Q) (by exact Q)) Q Q Q Q (Os21 (LT.bstore (v := (.agg [(iC g.Points),(lo 23 b16.length)])) (out := [(iC g.Points),(lo 23 b16.length)]) Q Q (infS inf26) sz26 (by exact Q) (by exact K Q) (by exact Q)) Q Q Q Q Q (asg (Bv true) Q y2 Q Q (On (en [(2,(Cc (.pl 22 0))),(3,(Bv true))] [(22,(.row 26 [[(iC g.Points),(lo 23 b16.length)]])),(23,(pR 40 encTBar b16))] z2 z2 (AWR.ent (Ent.mv 23 0 Q Q) (en [(2,(Cc (.pl 22 0))),(3,(Bv true))] [(0,(pR 40 encTBar b16)),(22,(.row 26 [[(iC g.Points),(lo 0 b16.length)]]))] z2 z2 (AWR.ret (FPost.mk (.inr Q) ⟨⟨_,_,_,Q,Q,Q,ag26,sz26,_,(infS inf26)⟩,Q,J⟩ z1 Q ⟨⟨PermP.sc,J,J⟩,PermP.sc,J⟩ ⟨PermO.prow' perm_encTBar,J⟩))))))))
end Go.Proofs.YteognanhfpbghaaGreat
end
section
set_option linter.unusedVariables false
set_option linter.unusedSimpArgs false
set_option linter.unnecessarySimpa false
set_option maxRecDepth 100000
set_option maxHeartbeats 8000000
open Go Go.Fw
namespace Go.Proofs.YteognanhfpbghaaGreat
theorem w_spec_HingeFreedom (g : TGraph) : ∀ t,m_spec_HingeFreedom g = some t → Fw.Fn Tryz.prog 46 [(.agg [(iC g.Points),(xF encTBar g.Bars)])] [] (.s (.c (iC t))) [] [] [] := by
 refine Fw.Fn.of (P := Tryz.prog) (X := []) (pn := []) (rs := (fun (t : Int) => [(.c (iC t))])) (dfs := (fun (t : Int) => [])) Tryz.func46 Q Tryz.ntmps46 (K Q) Q ?_
 intro w0 U0 R0 g0
 unfold m_spec_HingeFreedom
 refine Ws (Wr ?_)
 refine Os10 (LT.box (n := 21) (v := (.agg [(iC g.Points),(xF encTBar g.Bars)])) Q sz26 (by exact Q)) Q Q Q (asg (Iv 0) Q y2 Q Q (On (Ws (Wr ?_))))
 refine Op11 (LT.bloadN (out := [(iC g.Points),(xF encTBar g.Bars)]) Q ag26 (infS inf26) sz26 (by exact Q) (by exact Q)) Q Q Q Q (Ob' fun r1 hr1 => (AOR.step (@LT.callF Tryz.prog _ _ 45 _ _ [(.agg [(iC g.Points),(xF encTBar g.Bars)])] _ _ [] _ _ _ _ ((show Fw.Fn Tryz.prog 45 [(.agg [(iC g.Points),(xF encTBar g.Bars)])] [] (.tup [(.agg [(iC r1.1.Points),(lo 23 r1.1.Bars.length)]),(.c (bC r1.2))]) [(23,(pR 40 encTBar r1.1.Bars))] [] [23] from Fw.Fn.ren [(0,23)] (w_spec_HingeGraph g r1 hr1) Q)) Q cb45 (.cons (.agg (.cons (.same Q) (.cons (.same Q) .nil))) .nil) Q Q J) z2 J Q Q (mv (.tup [(.agg [(iC r1.1.Points),(lo 23 r1.1.Bars.length)]),(.c (bC r1.2))]) Q Q Q Q (Op10 (LT.extract (v := (.agg [(iC r1.1.Points),(lo 23 r1.1.Bars.length)])) Q (by exact Q)) Q Q Q (Op10 (LT.extract (v := (.c (bC r1.2))) Q (by exact Q)) Q Q Q (Os00 (LT.alloc (n := 24) (cells := [(iC 0),(sC nilV)]) Q ti26 Q Q Q) Q Q (Os21 (LT.bstore (v := (.agg [(iC r1.1.Points),(lo 23 r1.1.Bars.length)])) (out := [(iC r1.1.Points),(lo 23 r1.1.Bars.length)]) Q Q (infS inf26) sz26 (by exact Q) (by exact K Q) (by exact Q)) Q Q Q Q Q (asg (Bv r1.2) Q Q Q Q (On (Ws (Ws ?_)))))))))))
 refine en [(3,(Cc (.pl 24 0))),(4,(Bv r1.2))] [(23,(pR 40 encTBar r1.1.Bars)),(24,(.row 26 [[(iC r1.1.Points),(lo 23 r1.1.Bars.length)]]))] z2 z2 (Wr (mv (Bv r1.2) Q Q Q Q (Op10 (LT.not Q) Q Q Q (On (AWR.cond Q (fun hc2 => ?_) (fun hc2 => ?_))))))
 ·refine Ws (Wr ?_)
  refine asg (Iv (-1)) Q y2 Q Q (On (AWR.ret (FPost.mk (.inr Q) z1 J Q ⟨PermP.sc,J⟩ J)))
 ·refine AWR.skip (Ws (Wr ?_))
  refine Op11 (LT.bloadN (out := [(iC r1.1.Points),(lo 23 r1.1.Bars.length)]) Q ag26 (infS inf26) sz26 (by exact Q) (by exact Q)) Q Q Q Q (Ob' fun r3 hr3 => (AOR.pure (@LT.callF Tryz.prog _ _ 33 _ _ [(.agg [(iC r1.1.Points),(lo 23 r1.1.Bars.length)])] _ _ [(23,(pR 40 encTBar r1.1.Bars))] _ _ _ _ (w_spec_BodyFreedom r1.1 r3 hr3) Q cb33 (.cons (.agg (.cons (.same Q) (.cons (.tloc Q Q) .nil))) .nil) Q Q J) z2 z1 Q Q (asg (Iv r3) Q Q Q Q (On (AWR.ret (FPost.mk (.inr Q) z1 J Q ⟨PermP.sc,J⟩ J))))))
theorem w_laws_FnBodies (code : (List Int)) : ∀ t,m_laws_FnBodies code = some t → Fw.Fn Tryz.prog 4 [(.c (xT encInt_u8 code))] [] (.s (.c (bC t))) [] [] [] := by
 refine Fw.Fn.of (P := Tryz.prog) (X := []) (pn := []) (rs := (fun (t : Bool) => [(.c (bC t))])) (dfs := (fun (t : Bool) => [])) Tryz.func4 Q Tryz.ntmps4 (K Q) Q ?_
 intro w0 U0 R0 g0
 unfold m_laws_FnBodies
 refine Ws (Wr ?_)
 refine asg (Bv false) Q y2 Q Q (On (Ws (Ws (Wr ?_))))
 refine mv (Cc (xT encInt_u8 code)) Q Q Q Q (Ob' fun r1 hr1 => (AOR.pure (@LT.callF Tryz.prog _ _ 5 _ _ [(.c (xT encInt_u8 code))] _ _ [] _ _ _ _ (w_laws_big code r1 hr1) Q cb5 (.cons (.c (.weak (.same Q) (QW.xsm qw_encInt_u8 (fun h => by cases h) _))) .nil) Q Q J) z2 J Q Q (On (AWR.cond Q (fun hc2 => ?_) (fun hc2 => ?_)))))
 ·refine Ws (Wr ?_)
  refine asg (Bv true) Q y2 Q Q (On (AWR.ret (FPost.mk (.inr Q) z1 J Q ⟨PermP.sc,J⟩ J)))
 ·refine AWR.skip (Ws (Wr ?_))
  refine mv (Cc (xT encInt_u8 code)) Q Q Q Q (Ob' fun r3 hr3 => (AOR.step (@LT.callF Tryz.prog _ _ 28 _ _ [(.c (xT encInt_u8 code))] _ _ [] _ _ _ _ ((show Fw.Fn Tryz.prog 28 [(.c (xT encInt_u8 code))] [] (Ag  [(iC r3.Points),(lo 23 r3.Bars.length)]) [(23,(pR 40 encTBar r3.Bars))] [] [23] from Fw.Fn.ren [(0,23)] (w_spec_DrawBodyTrees code r3 hr3) Q)) Q cb28 (.cons (.c (.same Q)) .nil) Q Q J) z2 J Q Q (Os00 (LT.alloc (n := 24) (cells := [(iC 0),(sC nilV)]) Q ti26 Q Q Q) Q Q (Os21 (LT.bstore (v := (.agg [(iC r3.Points),(lo 23 r3.Bars.length)])) (out := [(iC r3.Points),(lo 23 r3.Bars.length)]) Q Q (infS inf26) sz26 (by exact Q) (by exact K Q) (by exact Q)) Q Q Q Q Q (On (Ws ?_))))))
  refine en [(0,(Cc (xT encInt_u8 code))),(3,(Cc (.pl 24 0)))] [(23,(pR 40 encTBar r3.Bars)),(24,(.row 26 [[(iC r3.Points),(lo 23 r3.Bars.length)]]))] z2 z2 (Wr (Op11 (LT.bloadN (out := [(iC r3.Points),(lo 23 r3.Bars.length)]) Q ag26 (infS inf26) sz26 (by exact Q) (by exact Q)) Q Q Q Q (Ob' fun r4 hr4 => (AOR.step (@LT.callF Tryz.prog _ _ 29 _ _ [(.agg [(iC r3.Points),(lo 23 r3.Bars.length)])] _ _ [(23,(pR 40 encTBar r3.Bars))] _ _ _ _ ((show Fw.Fn Tryz.prog 29 [(.agg [(iC r3.Points),(xF encTBar r3.Bars)])] [] (.tup [(.c (lo 26 r4.1.length)),(.c (bC r4.2))]) [(26,(.trow 28 27 (lensOf r4.1))),(27,(.pool 3 (rowsOf encInt r4.1)))] [] [26,27] from Fw.Fn.ren [(0,26),(1,27)] (w_impl_BodyTrees r3 r4 hr4) Q)) Q cb29 (.cons (.agg (.cons (.same Q) (.cons (.tloc Q Q) .nil))) .nil) Q Q J) z2 z1 Q Q (mv (.tup [(.c (lo 26 r4.1.length)),(.c (bC r4.2))]) Q Q Q Q (Op10 (LT.extract (v := (.c (lo 26 r4.1.length))) Q (by exact Q)) Q Q Q (Op10 (LT.extract (v := (.c (bC r4.2))) Q (by exact Q)) Q Q Q (asg (Cc (lo 26 r4.1.length)) Q Q Q Q (asg (Bv r4.2) Q Q Q Q (On (Ws (Wr ?_))))))))))))
  refine Op11 (LT.bloadN (out := [(iC r3.Points),(lo 23 r3.Bars.length)]) Q ag26 (infS inf26) sz26 (by exact Q) (by exact Q)) Q Q Q Q (Ob' fun r5 hr5 => (AOR.step (@LT.callF Tryz.prog _ _ 30 _ _ [(.agg [(iC r3.Points),(lo 23 r3.Bars.length)])] _ _ [(23,(pR 40 encTBar r3.Bars))] _ _ _ _ ((show Fw.Fn Tryz.prog 30 [(.agg [(iC r3.Points),(xF encTBar r3.Bars)])] [] (.tup [(.c (lo 29 r5.1.length)),(.c (bC r5.2))]) [(29,(pR 28 (encLInt true) r5.1))] [] [29] from Fw.Fn.ren [(0,29)] (w_spec_BodyTrees r3 r5 hr5) Q)) Q cb30 (.cons (.agg (.cons (.same Q) (.cons (.tloc Q Q) .nil))) .nil) Q Q J) z2 z1 Q Q (mv (.tup [(.c (lo 29 r5.1.length)),(.c (bC r5.2))]) Q Q Q Q (Op10 (LT.extract (v := (.c (lo 29 r5.1.length))) Q (by exact Q)) Q Q Q (Op10 (LT.extract (v := (.c (bC r5.2))) Q (by exact Q)) Q Q Q (asg (Cc (lo 29 r5.1.length)) Q Q Q Q (asg (Bv r5.2) Q Q Q Q (On (Ws ?_)))))))))
  refine en [(0,(Cc (xT encInt_u8 code))),(3,(Cc (.pl 24 0))),(4,(Cc (lo 26 r4.1.length))),(5,(Bv r4.2)),(6,(Cc (lo 29 r5.1.length))),(7,(Bv r5.2))] [(23,(pR 40 encTBar r3.Bars)),(24,(.row 26 [[(iC r3.Points),(lo 23 r3.Bars.length)]])),(26,(.trow 28 27 (lensOf r4.1))),(27,(.pool 3 (rowsOf encInt r4.1))),(29,(pR 28 (encLInt true) r5.1))] z6 z5 (Wr (Op11 (LT.bloadN (out := [(iC r3.Points),(lo 23 r3.Bars.length)]) Q ag26 (infS inf26) sz26 (by exact Q) (by exact Q)) Q Q Q Q (Ob' fun r6 hr6 => (AOR.pure (@LT.callF Tryz.prog _ _ 31 _ _ [(.agg [(iC r3.Points),(lo 23 r3.Bars.length)])] _ _ [(23,(pR 40 encTBar r3.Bars))] _ _ _ _ (w_impl_BodyFreedom r3 r6 hr6) Q cb31 (.cons (.agg (.cons (.same Q) (.cons (.tloc Q Q) .nil))) .nil) Q Q J) z2 z1 Q Q (asg (Iv r6) Q Q Q Q (On (Ws (Ws ?_))))))))
  refine AWR.joinK (fun j18 => ([(0,(Cc (xT encInt_u8 code))),(3,(Cc (.pl 24 0))),(5,(Bv r4.2)),(6,(Cc (lo 29 r5.1.length))),(75,(Bv j18))],[(23,(pR 40 encTBar r3.Bars)),(24,(.row 26 [[(iC r3.Points),(lo 23 r3.Bars.length)]])),(29,(pR 28 (encLInt true) r5.1))])) ?_ (fun j18 _ => ?_)
  ·refine AWR.draw mixed (Dp10 (LT.move (v := (Bv r4.2)) Q) Q Q Q (Dp10 (LT.move (v := (Bv r5.2)) Q) Q Q Q (Dp20 (LT.neqB Q und4) Q Q Q Q (Dp10 (LT.move (v := (Bv (r4.2 != r5.2))) Q) Q Q Q (AOD.split (fun hb19 => ?_) (fun hb19 => ?_))))))
   ·refine AOD.skip (gH hb19 Q Q) Q (AOD.skip (gH hb19 Q Q) Q (AOD.skip (gH hb19 Q Q) Q (AOD.skip (gH hb19 Q Q) Q (Dp20 (LT.pickT (v := (Bv true)) Q hb19) Q y2 Q Q (Dp10 (LT.move (v := (Bv true)) Q) Q Q Q (AOD.skip (gS Q Q) Q (AOD.skip (gS Q Q) Q (AOD.skip (gS Q Q) Q (AOD.skip (gS Q Q) Q (Dp20 (LT.pickT (v := (Bv true)) Q Q) Q y2 Q Q (Dp10 (LT.move (v := (Bv true)) Q) Q Q Q ?_)))))))))))
    refine AOD.skip (gS Q Q) Q (AOD.skip (gS Q Q) Q (AOD.skip (gS Q Q) Q (AOD.skip (gS Q Q) Q (AOD.skip (gS Q Q) Q (Dp20 (LT.pickT (v := (Bv true)) Q Q) Q y2 Q Q (Dp10 (LT.move (v := (Bv true)) Q) Q Q Q (AOD.skip (gS Q Q) Q (AOD.skip (gS Q Q) Q (AOD.skip (gS Q Q) Q (AOD.skip (gS Q Q) Q (AOD.skip (gS Q Q) Q ?_)))))))))))
    refine Dp20 (LT.pickT (v := (Bv true)) Q Q) Q y2 Q Q (Dp10 (LT.move (v := (Bv true)) Q) Q Q Q (AOD.skip (gS Q Q) Q (AOD.skip (gS Q Q) Q (AOD.skip (gS Q Q) Q (AOD.skip (gS Q Q) Q (AOD.skip (gS Q Q) Q (AOD.skip (gS Q Q) Q (AOD.skip (gS Q Q) Q (AOD.skip (gS Q Q) Q (AOD.skip (gS Q Q) Q (Dp20 (LT.pickT (v := (Bv true)) Q Q) Q y2 Q Q ?_)))))))))))
    refine AOD.nil (by kernel_rfl) (AWR.nil ⟨Q,Ent.of z5 z3⟩)
   ·refine Dp10 (LT.move (v := (Cc (lo 26 r4.1.length))) Q) Q (gH hb19 Q Q) Q (Dp10 (LT.move (v := (Cc (lo 29 r5.1.length))) Q) Q (gH hb19 Q Q) Q (AOD.bind fun r20 hr20 => (AOD.pure (@LT.callF Tryz.prog _ _ 32 _ _ [(.c (lo 26 r4.1.length)),(.c (lo 29 r5.1.length))] _ _ [(26,(.trow 28 27 (lensOf r4.1))),(27,(.pool 3 (rowsOf encInt r4.1))),(29,(pR 28 (encLInt true) r5.1))] _ _ _ _ (w_laws_sameSets r4.1 r5.1 r20 hr20) Q cb32 (.cons (.c (.ttrow Q Q Q (fun _ => Q))) (.cons (.c (.weak (.tloc (enc := encLInt true) Q Q) (QW.xsm qw_encLInt (fun h => h) _))) .nil)) Q Q J) z3 z3 (gH hb19 Q Q) Q (Dp10 (LT.not Q) Q (gH hb19 Q Q) Q (Dp20 (LT.pickF (v := (Bv (!r20))) Q hb19) Q Q Q Q (Dp10 (LT.move (v := (Bv (!r20))) Q) Q Q Q (AOD.split (fun hb21 => ?_) (fun hb21 => ?_))))))))
    ·refine AOD.skip (gH hb21 Q Q) Q (AOD.skip (gH hb21 Q Q) Q (AOD.skip (gH hb21 Q Q) Q (AOD.skip (gH hb21 Q Q) Q (Dp20 (LT.pickT (v := (Bv true)) Q hb21) Q y2 Q Q (Dp10 (LT.move (v := (Bv true)) Q) Q Q Q (AOD.skip (gS Q Q) Q (AOD.skip (gS Q Q) Q (AOD.skip (gS Q Q) Q (AOD.skip (gS Q Q) Q (AOD.skip (gS Q Q) Q (Dp20 (LT.pickT (v := (Bv true)) Q Q) Q y2 Q Q ?_)))))))))))
     refine Dp10 (LT.move (v := (Bv true)) Q) Q Q Q (AOD.skip (gS Q Q) Q (AOD.skip (gS Q Q) Q (AOD.skip (gS Q Q) Q (AOD.skip (gS Q Q) Q (AOD.skip (gS Q Q) Q (Dp20 (LT.pickT (v := (Bv true)) Q Q) Q y2 Q Q (Dp10 (LT.move (v := (Bv true)) Q) Q Q Q (AOD.skip (gS Q Q) Q (AOD.skip (gS Q Q) Q (AOD.skip (gS Q Q) Q (AOD.skip (gS Q Q) Q ?_)))))))))))
     refine AOD.skip (gS Q Q) Q (AOD.skip (gS Q Q) Q (AOD.skip (gS Q Q) Q (AOD.skip (gS Q Q) Q (AOD.skip (gS Q Q) Q (Dp20 (LT.pickT (v := (Bv true)) Q Q) Q y2 Q Q (AOD.nil (by kernel_rfl) (AWR.nil ⟨Q,Ent.of z5 z3⟩)))))))
    ·refine Dp10 (LT.move (v := (Iv r6)) Q) Q (gH hb21 Q Q) Q (Dp11 (LT.bloadN (out := [(iC r3.Points),(lo 23 r3.Bars.length)]) Q ag26 (infS inf26) sz26 (by exact Q) (by exact Q)) Q Q (gH hb21 Q Q) Q (AOD.bind fun r22 hr22 => (AOD.pure (@LT.callF Tryz.prog _ _ 33 _ _ [(.agg [(iC r3.Points),(lo 23 r3.Bars.length)])] _ _ [(23,(pR 40 encTBar r3.Bars))] _ _ _ _ (w_spec_BodyFreedom r3 r22 hr22) Q cb33 (.cons (.agg (.cons (.same Q) (.cons (.tloc Q Q) .nil))) .nil) Q Q J) z2 z1 (gH hb21 Q Q) Q (Dp20 (LT.neq Q) Q Q (gH hb21 Q Q) Q (Dp20 (LT.pickF (v := (Bv (r6 != r22))) Q hb21) Q Q Q Q (Dp10 (LT.move (v := (Bv (r6 != r22))) Q) Q Q Q (AOD.split (fun hb23 => ?_) (fun hb23 => ?_))))))))
     ·refine AOD.skip (gH hb23 Q Q) Q (AOD.skip (gH hb23 Q Q) Q (AOD.skip (gH hb23 Q Q) Q (AOD.skip (gH hb23 Q Q) Q (AOD.skip (gH hb23 Q Q) Q (Dp20 (LT.pickT (v := (Bv true)) Q hb23) Q y2 Q Q (Dp10 (LT.move (v := (Bv true)) Q) Q Q Q (AOD.skip (gS Q Q) Q (AOD.skip (gS Q Q) Q (AOD.skip (gS Q Q) Q (AOD.skip (gS Q Q) Q (AOD.skip (gS Q Q) Q ?_)))))))))))
      refine Dp20 (LT.pickT (v := (Bv true)) Q Q) Q y2 Q Q (Dp10 (LT.move (v := (Bv true)) Q) Q Q Q (AOD.skip (gS Q Q) Q (AOD.skip (gS Q Q) Q (AOD.skip (gS Q Q) Q (AOD.skip (gS Q Q) Q (AOD.skip (gS Q Q) Q (AOD.skip (gS Q Q) Q (AOD.skip (gS Q Q) Q (AOD.skip (gS Q Q) Q (AOD.skip (gS Q Q) Q (Dp20 (LT.pickT (v := (Bv true)) Q Q) Q y2 Q Q ?_)))))))))))
      refine AOD.nil (by kernel_rfl) (AWR.nil ⟨Q,Ent.of z5 z3⟩)
     ·refine Dp11 (LT.bloadN (out := [(iC r3.Points),(lo 23 r3.Bars.length)]) Q ag26 (infS inf26) sz26 (by exact Q) (by exact Q)) Q Q (gH hb23 Q Q) Q (AOD.bind fun r24 hr24 => (AOD.pure (@LT.callF Tryz.prog _ _ 34 _ _ [(.agg [(iC r3.Points),(lo 23 r3.Bars.length)])] _ _ [(23,(pR 40 encTBar r3.Bars))] _ _ _ _ (w_impl_BodyRank r3 r24 hr24) Q cb34 (.cons (.agg (.cons (.same Q) (.cons (.tloc Q Q) .nil))) .nil) Q Q J) z2 z1 (gH hb23 Q Q) Q (Dp11 (LT.bloadN (out := [(iC r3.Points),(lo 23 r3.Bars.length)]) Q ag26 (infS inf26) sz26 (by exact Q) (by exact Q)) Q Q (gH hb23 Q Q) Q (AOD.bind fun r25 hr25 => (AOD.pure (@LT.callF Tryz.prog _ _ 35 _ _ [(.agg [(iC r3.Points),(lo 23 r3.Bars.length)])] _ _ [(23,(pR 40 encTBar r3.Bars))] _ _ _ _ (w_spec_BodyRank r3 r25 hr25) Q cb35 (.cons (.agg (.cons (.same Q) (.cons (.tloc Q Q) .nil))) .nil) Q Q J) z2 z1 (gH hb23 Q Q) Q (Dp20 (LT.neq Q) Q Q (gH hb23 Q Q) Q (Dp20 (LT.pickF (v := (Bv (r24 != r25))) Q hb23) Q Q Q Q (Dp10 (LT.move (v := (Bv (r24 != r25))) Q) Q Q Q (AOD.split (fun hb26 => ?_) (fun hb26 => ?_))))))))))
      ·refine AOD.skip (gH hb26 Q Q) Q (AOD.skip (gH hb26 Q Q) Q (AOD.skip (gH hb26 Q Q) Q (AOD.skip (gH hb26 Q Q) Q (AOD.skip (gH hb26 Q Q) Q (Dp20 (LT.pickT (v := (Bv true)) Q hb26) Q y2 Q Q (Dp10 (LT.move (v := (Bv true)) Q) Q Q Q (AOD.skip (gS Q Q) Q (AOD.skip (gS Q Q) Q (AOD.skip (gS Q Q) Q (AOD.skip (gS Q Q) Q (AOD.skip (gS Q Q) Q ?_)))))))))))
       refine AOD.skip (gS Q Q) Q (AOD.skip (gS Q Q) Q (AOD.skip (gS Q Q) Q (AOD.skip (gS Q Q) Q (Dp20 (LT.pickT (v := (Bv true)) Q Q) Q y2 Q Q (AOD.nil (by kernel_rfl) (AWR.nil ⟨Q,Ent.of z5 z3⟩))))))
      ·refine Dp11 (LT.bloadN (out := [(iC r3.Points),(lo 23 r3.Bars.length)]) Q ag26 (infS inf26) sz26 (by exact Q) (by exact Q)) Q Q (gH hb26 Q Q) Q (AOD.bind fun r27 hr27 => (AOD.pure (@LT.callF Tryz.prog _ _ 36 _ _ [(.agg [(iC r3.Points),(lo 23 r3.Bars.length)])] _ _ [(23,(pR 40 encTBar r3.Bars))] _ _ _ _ (w_impl_IsBodyRigid r3 r27 hr27) Q cb36 (.cons (.agg (.cons (.same Q) (.cons (.tloc Q Q) .nil))) .nil) Q Q J) z2 z1 (gH hb26 Q Q) Q (Dp10 (LT.move (v := (Iv r6)) Q) Q (gH hb26 Q Q) Q (Dp20 (LT.eql Q) Q y2 (gH hb26 Q Q) Q (Dp20 (LT.neqB Q und4) Q Q (gH hb26 Q Q) Q (Dp20 (LT.pickF (v := (Bv (r27 != (r6 == 0)))) Q hb26) Q Q Q Q (Dp10 (LT.move (v := (Bv (r27 != (r6 == 0)))) Q) Q Q Q (AOD.split (fun hb28 => ?_) (fun hb28 => ?_)))))))))
       ·refine AOD.skip (gH hb28 Q Q) Q (AOD.skip (gH hb28 Q Q) Q (AOD.skip (gH hb28 Q Q) Q (AOD.skip (gH hb28 Q Q) Q (AOD.skip (gS Q Q) Q (AOD.skip (gS Q Q) Q (AOD.skip (gS Q Q) Q (AOD.skip (gH hb28 Q Q) Q (AOD.skip (gH hb28 Q Q) Q (Dp20 (LT.pickT (v := (Bv true)) Q hb28) Q y2 Q Q (AOD.nil (by kernel_rfl) (AWR.nil ⟨Q,Ent.of z5 z3⟩)))))))))))
       ·refine Dp10 (LT.move (v := (Bv r4.2)) Q) Q (gH hb28 Q Q) Q (Dp10 (LT.move (v := (Iv r6)) Q) Q (gH hb28 Q Q) Q (Dp20 (LT.eql Q) Q y2 (gH hb28 Q Q) Q (Dp10 (LT.move (v := (Bv (r6 == 0))) Q) Q (gH hb28 Q Q) Q (AOD.split (fun hb29 => ?_) (fun hb29 => ?_)))))
        ·refine Dp10 (LT.fieldPl Q fo26_0) Q (gH hb29 Q Q) Q (Dp11 (LT.bload1 (c := (iC r3.Points)) Q ag3 (by exact Q)) Q Q (gH hb29 Q Q) Q (Dp20 (LT.leq Q) Q y2 (gH hb29 Q Q) Q (Dp20 (LT.pickT (v := (Bv (decide (r3.Points ≤ 4)))) Q hb29) Q Q (gH hb28 Q Q) Q (Dp20 (LT.neqB Q und4) Q Q (gH hb28 Q Q) Q (Dp20 (LT.pickF (v := (Bv (r4.2 != (decide (r3.Points ≤ 4))))) Q hb28) Q Q Q Q (AOD.nil (by kernel_rfl) (AWR.nil ⟨Q,Ent.of z5 z3⟩)))))))
        ·refine AOD.skip (gH hb29 Q Q) Q (AOD.skip (gH hb29 Q Q) Q (AOD.skip (gH hb29 Q Q) Q (Dp20 (LT.pickF (v := (Bv false)) Q hb29) Q y2 (gH hb28 Q Q) Q (Dp20 (LT.neqB Q und4) Q Q (gH hb28 Q Q) Q (Dp20 (LT.pickF (v := (Bv (r4.2 != false))) Q hb28) Q Q Q Q (AOD.nil (by kernel_rfl) (AWR.nil ⟨Q,Ent.of z5 z3⟩)))))))
  ·refine AWR.cond Q (fun hc30 => ?_) (fun hc30 => ?_)
   ·refine Ws (Wr ?_)
    refine asg (Bv false) Q y2 Q Q (On (AWR.ret (FPost.mk (.inr Q) z1 J Q ⟨PermP.sc,J⟩ J)))
   ·refine AWR.skip (Ws (Ws (Wr ?_)))
    refine mv (Bv r4.2) Q Q Q Q (On (AWR.joinR (fun j43 => ([(0,(Cc (xT encInt_u8 code)))],[])) (FPost Tryz.prog Tryz.f4.results.toList [] [] (fun (t : Bool) => [(.c (bC t))]) (fun (t : Bool) => [])) ?_ (fun j43 _ => ?_) (by intro r t σ m ht hk; injection ht with ht; subst ht; exact hk)))
    ·refine AWR.cond Q (fun hc44 => ?_) (fun hc44 => ?_)
     ·refine Ws (Ws (Wr ?_))
      refine asg (Iv 0) Q y2 Q Q (On (AWR.block ?_))
      refine AWR.loopR (id := 0) (m_laws_FnBodies_L2 r3 r5) (fun s45 => ([(0,(Cc (xT encInt_u8 code))),(3,(Cc (.pl 24 0))),(6,(Cc (lo 29 r5.1.length))),(9,(Iv s45))],[(23,(pR 40 encTBar r3.Bars)),(24,(.row 26 [[(iC r3.Points),(lo 23 r3.Bars.length)]])),(29,(pR 28 (encLInt true) r5.1))])) (fun b54 => ([(0,(Cc (xT encInt_u8 code))),(6,(Cc (lo 29 b54.length)))],[(29,(pR 28 (encLInt true) b54))])) (FPost Tryz.prog Tryz.f4.results.toList [] [] (fun (t : Bool) => [(.c (bC t))]) (fun (t : Bool) => [])) ?_ (Ent.of z4 z3) Q (fun b54 _ => ?_) (by intro r t σ m ht hk; injection ht with ht; subst ht; exact ⟨Q,hk⟩)
      ·intro s45
       unfold m_laws_FnBodies_L2
       refine Ws (Ws (Wr ?_))
       refine mv (Iv s45) Q Q Q Q (mv (Cc (lo 29 r5.1.length)) Q Q Q Q (Op10 (LT.lenLoc Q und44) Q Q Q (Op20 (LT.lss Q) Q Q Q Q (On (AWR.cond Q (fun hc55 => ?_) (fun hc55 => ?_))))))
       ·refine AWR.skip (Ws (AWR.block (Ws (AWR.draw mixed ?_))))
        refine Dp11 (LT.bloadN (out := [(iC r3.Points),(lo 23 r3.Bars.length)]) Q ag26 (infS inf26) sz26 (by exact Q) (by exact Q)) Q Q Q Q (Dp10 (LT.move (v := (Cc (lo 29 r5.1.length))) Q) Q Q Q (Dp10 (LT.move (v := (Iv s45)) Q) Q Q Q (AOD.bind fun x56 hx56 => (Dp21 (LT.tindexLoc Q Q el44 hx56) Q Q Q Q Q (Dp11 (LT.tload1 (k := 0) Q ag28 hx56 (by exact Q) (by exact Q)) Q Q Q Q (AOD.bind fun r57 hr57 => (AOD.pure (@LT.callF Tryz.prog _ _ 37 _ _ [(.agg [(iC r3.Points),(lo 23 r3.Bars.length)]),(.c (xT encInt x56))] _ _ [(23,(pR 40 encTBar r3.Bars))] _ _ _ _ (w_spec_IsSpanningTree r3 x56 r57 hr57) Q cb37 (.cons (.agg (.cons (.same Q) (.cons (.tloc Q Q) .nil))) (.cons (.c (.weak (.same Q) (QW.xsm qw_encInt (fun h => by cases h) _))) .nil)) Q Q J) z3 z1 Q Q (Dp10 (LT.not Q) Q Q Q (AOD.nil (by kernel_rfl) (AWR.cond Q (fun hc58 => ?_) (fun hc58 => ?_)))))))))))
        ·refine Ws (en [] [] J J (Wr (asg (Bv false) Q y2 Q Q (On (AWR.ret ⟨Q,FPost.mk (.inr Q) z1 J Q ⟨PermP.sc,J⟩ J⟩)))))
        ·refine AWR.skip (AWR.blk ?_)
         refine en [(0,(Cc (xT encInt_u8 code))),(3,(Cc (.pl 24 0))),(6,(Cc (lo 29 r5.1.length))),(9,(Iv s45))] [(23,(pR 40 encTBar r3.Bars)),(24,(.row 26 [[(iC r3.Points),(lo 23 r3.Bars.length)]])),(29,(pR 28 (encLInt true) r5.1))] z4 z3 (Wr (mv (Iv s45) Q Q Q Q (Op20 (LT.add Q) Q y2 Q Q (asg (Iv (w64 (s45 + 1))) Q Q Q Q (On (AWR.nil ⟨Q,Ent.of z4 z3⟩))))))
       ·refine AWR.exit_end Q ⟨Q,Ent.of z2 z1⟩
      ·refine Ws (Wr ?_)
       refine mv (Cc (lo 29 b54.length)) Q Q Q Q (Op10 (LT.lenLoc Q und44) Q Q Q (Op20 (LT.neq Q) Q y2 Q Q (On (AWR.cond Q (fun hc59 => ?_) (fun hc59 => ?_)))))
       ·refine Ws (Wr ?_)
        refine asg (Bv false) Q y2 Q Q (On (AWR.ret ⟨Q,FPost.mk (.inr Q) z1 J Q ⟨PermP.sc,J⟩ J⟩))
       ·refine AWR.skip (AWR.nil ⟨Q,Ent.of z1 J⟩)
     ·refine AWR.skip (AWR.nil ⟨Q,Ent.of z1 J⟩)
    ·refine Ws (Wr ?_)
     refine mv (Cc (xT encInt_u8 code)) Q Q Q Q (Ob' fun r60 hr60 => (AOR.pure (@LT.callF Tryz.prog _ _ 38 _ _ [(.c (xT encInt_u8 code))] _ _ [] _ _ _ _ (w_spec_DrawRingOf code r60 hr60) Q cb38 (.cons (.c (.same Q)) .nil) Q Q J) z2 J Q Q (asg (Iv r60) Q Q Q Q (On (Ws (Wr ?_))))))
     refine mv (Iv r60) Q Q Q Q (Ob' fun r61 hr61 => (AOR.step (@LT.callF Tryz.prog _ _ 39 _ _ [(.c (iC r60))] _ _ [] _ _ _ _ ((show Fw.Fn Tryz.prog 39 [(.c (iC r60))] [] (.tup [(.agg [(iC r61.1.Points),(lo 39 r61.1.Bars.length)]),(.c (bC r61.2))]) [(39,(pR 40 encTBar r61.1.Bars))] [] [39] from Fw.Fn.ren [(0,39)] (w_impl_RingOf r60 r61 hr61) Q)) Q cb39 (.cons (.c (.same Q)) .nil) Q Q J) z2 J Q Q (mv (.tup [(.agg [(iC r61.1.Points),(lo 39 r61.1.Bars.length)]),(.c (bC r61.2))]) Q Q Q Q (Op10 (LT.extract (v := (.agg [(iC r61.1.Points),(lo 39 r61.1.Bars.length)])) Q (by exact Q)) Q Q Q (Op10 (LT.extract (v := (.c (bC r61.2))) Q (by exact Q)) Q Q Q (Os00 (LT.alloc (n := 40) (cells := [(iC 0),(sC nilV)]) Q ti26 Q Q Q) Q Q (Os21 (LT.bstore (v := (.agg [(iC r61.1.Points),(lo 39 r61.1.Bars.length)])) (out := [(iC r61.1.Points),(lo 39 r61.1.Bars.length)]) Q Q (infS inf26) sz26 (by exact Q) (by exact K Q) (by exact Q)) Q Q Q Q Q (asg (Bv r61.2) Q Q Q Q (On (Ws ?_))))))))))
     refine en [(0,(Cc (xT encInt_u8 code))),(10,(Iv r60)),(11,(Cc (.pl 40 0))),(12,(Bv r61.2))] [(39,(pR 40 encTBar r61.1.Bars)),(40,(.row 26 [[(iC r61.1.Points),(lo 39 r61.1.Bars.length)]]))] z4 z2 (Wr (mv (Iv r60) Q Q Q Q (Ob' fun r62 hr62 => (AOR.step (@LT.callF Tryz.prog _ _ 40 _ _ [(.c (iC r60))] _ _ [] _ _ _ _ ((show Fw.Fn Tryz.prog 40 [(.c (iC r60))] [] (.tup [(.agg [(iC r62.1.Points),(lo 42 r62.1.Bars.length)]),(.c (bC r62.2))]) [(42,(pR 40 encTBar r62.1.Bars))] [] [42] from Fw.Fn.ren [(0,42)] (w_spec_RingOf r60 r62 hr62) Q)) Q cb40 (.cons (.c (.same Q)) .nil) Q Q J) z2 J Q Q (mv (.tup [(.agg [(iC r62.1.Points),(lo 42 r62.1.Bars.length)]),(.c (bC r62.2))]) Q Q Q Q (Op10 (LT.extract (v := (.agg [(iC r62.1.Points),(lo 42 r62.1.Bars.length)])) Q (by exact Q)) Q Q Q (Op10 (LT.extract (v := (.c (bC r62.2))) Q (by exact Q)) Q Q Q (Os00 (LT.alloc (n := 43) (cells := [(iC 0),(sC nilV)]) Q ti26 Q Q Q) Q Q (Os21 (LT.bstore (v := (.agg [(iC r62.1.Points),(lo 42 r62.1.Bars.length)])) (out := [(iC r62.1.Points),(lo 42 r62.1.Bars.length)]) Q Q (infS inf26) sz26 (by exact Q) (by exact K Q) (by exact Q)) Q Q Q Q Q (asg (Bv r62.2) Q Q Q Q (On (Ws (Ws ?_)))))))))))))
     refine AWR.joinK (fun j68 => ([(0,(Cc (xT encInt_u8 code))),(124,(Bv j68))],[])) ?_ (fun j68 _ => ?_)
     ·refine en [(0,(Cc (xT encInt_u8 code))),(10,(Iv r60)),(11,(Cc (.pl 40 0))),(12,(Bv r61.2)),(13,(Cc (.pl 43 0))),(14,(Bv r62.2))] [(39,(pR 40 encTBar r61.1.Bars)),(40,(.row 26 [[(iC r61.1.Points),(lo 39 r61.1.Bars.length)]])),(42,(pR 40 encTBar r62.1.Bars)),(43,(.row 26 [[(iC r62.1.Points),(lo 42 r62.1.Bars.length)]]))] z6 z4 (Wr (mv (Bv r61.2) Q Q Q Q (mv (Bv r62.2) Q Q Q Q (Op20 (LT.neqB Q und4) Q Q Q Q (mv (Bv (r61.2 != r62.2)) Q Q Q Q (AOR.split (fun hb69 => ?_) (fun hb69 => ?_)))))))
      ·refine Ok Q Q Q (by rw [hb69]; rfl) Q (Ok Q Q Q (by rw [hb69]; rfl) Q (Ok Q Q Q (by rw [hb69]; rfl) Q (Ok Q Q Q (by rw [hb69]; rfl) Q (Op20 (LT.pickT (v := (Bv true)) Q hb69) Q y2 Q Q (mv (Bv true) Q Q Q Q (Ok Q Q Q Q Q (Ok Q Q Q Q Q (Oj Q Q Q Q (Oj Q Q Q Q (Oj Q Q Q Q (Oj Q Q Q Q ?_)))))))))))
       refine Oj Q Q Q Q (Oj Q Q Q Q (Ok Q Q Q Q Q (Op20 (LT.pickT (v := (Bv true)) Q Q) Q y2 Q Q (On (AWR.nil ⟨Q,Ent.of z2 J⟩)))))
      ·refine Op11 (LT.bloadN (out := [(iC r61.1.Points),(lo 39 r61.1.Bars.length)]) Q ag26 (infS inf26) sz26 (by exact Q) (by exact Q)) Q Q (gH hb69 Q Q) Q (Op11 (LT.bloadN (out := [(iC r62.1.Points),(lo 42 r62.1.Bars.length)]) Q ag26 (infS inf26) sz26 (by exact Q) (by exact Q)) Q Q (gH hb69 Q Q) Q (Ob' fun r70 hr70 => (AOR.pure (@LT.callF Tryz.prog _ _ 41 _ _ [(.agg [(iC r61.1.Points),(lo 39 r61.1.Bars.length)]),(.agg [(iC r62.1.Points),(lo 42 r62.1.Bars.length)])] _ _ [(39,(pR 40 encTBar r61.1.Bars)),(42,(pR 40 encTBar r62.1.Bars))] _ _ _ _ (w_spec_EqualGraphs r61.1 r62.1 r70 hr70) Q cb41 (.cons (.agg (.cons (.same Q) (.cons (.tloc Q Q) .nil))) (.cons (.agg (.cons (.same Q) (.cons (.tloc Q Q) .nil))) .nil)) Q Q J) z3 z2 (gH hb69 Q Q) Q (Op10 (LT.not Q) Q (gH hb69 Q Q) Q (Op20 (LT.pickF (v := (Bv (!r70))) Q hb69) Q Q Q Q (mv (Bv (!r70)) Q Q Q Q (AOR.split (fun hb71 => ?_) (fun hb71 => ?_))))))))
       ·refine Ok Q Q Q (by rw [hb71]; rfl) Q (Ok Q Q Q (by rw [hb71]; rfl) Q (Oj Q Q Q Q (Oj Q Q Q Q (Oj Q Q Q Q (Oj Q Q Q Q (Oj Q Q Q Q (Oj Q Q Q Q (Ok Q Q Q (by rw [hb71]; rfl) Q (Op20 (LT.pickT (v := (Bv true)) Q hb71) Q y2 Q Q (On (AWR.nil ⟨Q,Ent.of z2 J⟩)))))))))))
       ·refine mv (Bv r61.2) Q Q (gH hb71 Q Q) Q (mv (Bv r61.2) Q Q (gH hb71 Q Q) Q (AOR.split (fun hb72 => ?_) (fun hb72 => ?_)))
        ·refine Op11 (LT.bloadN (out := [(iC r62.1.Points),(lo 42 r62.1.Bars.length)]) Q ag26 (infS inf26) sz26 (by exact Q) (by exact Q)) Q Q (gH hb72 Q Q) Q (Ob' fun r73 hr73 => (AOR.pure (@LT.callF Tryz.prog _ _ 42 _ _ [(.agg [(iC r62.1.Points),(lo 42 r62.1.Bars.length)])] _ _ [(42,(pR 40 encTBar r62.1.Bars))] _ _ _ _ (w_impl_HingeFreedom r62.1 r73 hr73) Q cb42 (.cons (.agg (.cons (.same Q) (.cons (.tloc Q Q) .nil))) .nil) Q Q J) z2 z1 (gH hb72 Q Q) Q (mv (Iv r60) Q Q (gH hb72 Q Q) Q (Op20 (LT.sub Q) Q y2 (gH hb72 Q Q) Q (Op20 (LT.max Q) y2 Q (gH hb72 Q Q) Q (Op20 (LT.neq Q) Q Q (gH hb72 Q Q) Q (Op20 (LT.pickT (v := (Bv (r73 != (if 0 < (w64 (r60 - 3)) then (w64 (r60 - 3)) else 0)))) Q hb72) Q Q (gH hb71 Q Q) Q (Op20 (LT.pickF (v := (Bv (r73 != (if 0 < (w64 (r60 - 3)) then (w64 (r60 - 3)) else 0)))) Q hb71) Q Q Q Q (On (AWR.nil ⟨Q,Ent.of z2 J⟩))))))))))
        ·refine Ok Q Q Q (by rw [hb72]; rfl) Q (Ok Q Q Q (by rw [hb72]; rfl) Q (Ok Q Q Q (by rw [hb72]; rfl) Q (Ok Q Q Q (by rw [hb72]; rfl) Q (Ok Q Q Q (by rw [hb72]; rfl) Q (Ok Q Q Q (by rw [hb72]; rfl) Q (Op20 (LT.pickF (v := (Bv false)) Q hb72) Q y2 (gH hb71 Q Q) Q (Op20 (LT.pickF (v := (Bv false)) Q hb71) Q Q Q Q (On (AWR.nil ⟨Q,Ent.of z2 J⟩)))))))))
     ·refine AWR.cond Q (fun hc74 => ?_) (fun hc74 => ?_)
      ·refine Ws (Wr ?_)
       refine asg (Bv false) Q y2 Q Q (On (AWR.ret (FPost.mk (.inr Q) z1 J Q ⟨PermP.sc,J⟩ J)))
      ·refine AWR.skip (Ws (Wr ?_))
       refine mv (Cc (xT encInt_u8 code)) Q Q Q Q (Ob' fun r75 hr75 => (AOR.step (@LT.callF Tryz.prog _ _ 43 _ _ [(.c (xT encInt_u8 code))] _ _ [] _ _ _ _ ((show Fw.Fn Tryz.prog 43 [(.c (xT encInt_u8 code))] [] (Ag  [(iC r75.Points),(lo 47 r75.Bars.length)]) [(47,(pR 40 encTBar r75.Bars))] [] [47] from Fw.Fn.ren [(0,47)] (w_spec_DrawHingeGraph code r75 hr75) Q)) Q cb43 (.cons (.c (.same Q)) .nil) Q Q J) z2 J Q Q (Os00 (LT.alloc (n := 48) (cells := [(iC 0),(sC nilV)]) Q ti26 Q Q Q) Q Q (Os21 (LT.bstore (v := (.agg [(iC r75.Points),(lo 47 r75.Bars.length)])) (out := [(iC r75.Points),(lo 47 r75.Bars.length)]) Q Q (infS inf26) sz26 (by exact Q) (by exact K Q) (by exact Q)) Q Q Q Q Q (On (Ws (Wr ?_)))))))
       refine Op11 (LT.bloadN (out := [(iC r75.Points),(lo 47 r75.Bars.length)]) Q ag26 (infS inf26) sz26 (by exact Q) (by exact Q)) Q Q Q Q (Ob' fun r76 hr76 => (AOR.step (@LT.callF Tryz.prog _ _ 44 _ _ [(.agg [(iC r75.Points),(lo 47 r75.Bars.length)])] _ _ [(47,(pR 40 encTBar r75.Bars))] _ _ _ _ ((show Fw.Fn Tryz.prog 44 [(.agg [(iC r75.Points),(xF encTBar r75.Bars)])] [] (.tup [(.agg [(iC r76.1.Points),(lo 50 r76.1.Bars.length)]),(.c (bC r76.2))]) [(50,(pR 40 encTBar r76.1.Bars))] [] [50] from Fw.Fn.ren [(0,50)] (w_impl_HingeGraph r75 r76 hr76) Q)) Q cb44 (.cons (.agg (.cons (.same Q) (.cons (.tloc Q Q) .nil))) .nil) Q Q J) z2 z1 Q Q (mv (.tup [(.agg [(iC r76.1.Points),(lo 50 r76.1.Bars.length)]),(.c (bC r76.2))]) Q Q Q Q (Op10 (LT.extract (v := (.agg [(iC r76.1.Points),(lo 50 r76.1.Bars.length)])) Q (by exact Q)) Q Q Q (Op10 (LT.extract (v := (.c (bC r76.2))) Q (by exact Q)) Q Q Q (Os00 (LT.alloc (n := 51) (cells := [(iC 0),(sC nilV)]) Q ti26 Q Q Q) Q Q (Os21 (LT.bstore (v := (.agg [(iC r76.1.Points),(lo 50 r76.1.Bars.length)])) (out := [(iC r76.1.Points),(lo 50 r76.1.Bars.length)]) Q Q (infS inf26) sz26 (by exact Q) (by exact K Q) (by exact Q)) Q Q Q Q Q (asg (Bv r76.2) Q Q Q Q (On (Ws ?_))))))))))
       refine en [(15,(Cc (.pl 48 0))),(16,(Cc (.pl 51 0))),(17,(Bv r76.2))] [(47,(pR 40 encTBar r75.Bars)),(48,(.row 26 [[(iC r75.Points),(lo 47 r75.Bars.length)]])),(50,(pR 40 encTBar r76.1.Bars)),(51,(.row 26 [[(iC r76.1.Points),(lo 50 r76.1.Bars.length)]]))] z3 z4 (Wr (Op11 (LT.bloadN (out := [(iC r75.Points),(lo 47 r75.Bars.length)]) Q ag26 (infS inf26) sz26 (by exact Q) (by exact Q)) Q Q Q Q (Ob' fun r77 hr77 => (AOR.step (@LT.callF Tryz.prog _ _ 45 _ _ [(.agg [(iC r75.Points),(lo 47 r75.Bars.length)])] _ _ [(47,(pR 40 encTBar r75.Bars))] _ _ _ _ ((show Fw.Fn Tryz.prog 45 [(.agg [(iC r75.Points),(xF encTBar r75.Bars)])] [] (.tup [(.agg [(iC r77.1.Points),(lo 53 r77.1.Bars.length)]),(.c (bC r77.2))]) [(53,(pR 40 encTBar r77.1.Bars))] [] [53] from Fw.Fn.ren [(0,53)] (w_spec_HingeGraph r75 r77 hr77) Q)) Q cb45 (.cons (.agg (.cons (.same Q) (.cons (.tloc Q Q) .nil))) .nil) Q Q J) z2 z1 Q Q (mv (.tup [(.agg [(iC r77.1.Points),(lo 53 r77.1.Bars.length)]),(.c (bC r77.2))]) Q Q Q Q (Op10 (LT.extract (v := (.agg [(iC r77.1.Points),(lo 53 r77.1.Bars.length)])) Q (by exact Q)) Q Q Q (Op10 (LT.extract (v := (.c (bC r77.2))) Q (by exact Q)) Q Q Q (Os00 (LT.alloc (n := 54) (cells := [(iC 0),(sC nilV)]) Q ti26 Q Q Q) Q Q (Os21 (LT.bstore (v := (.agg [(iC r77.1.Points),(lo 53 r77.1.Bars.length)])) (out := [(iC r77.1.Points),(lo 53 r77.1.Bars.length)]) Q Q (infS inf26) sz26 (by exact Q) (by exact K Q) (by exact Q)) Q Q Q Q Q (asg (Bv r77.2) Q Q Q Q (On (Ws ?_))))))))))))
       refine AWR.joinK (fun j83 => ([(2,(Bv j83))],[])) ?_ (fun j83 _ => ?_)
       ·refine en [(15,(Cc (.pl 48 0))),(16,(Cc (.pl 51 0))),(17,(Bv r76.2)),(18,(Cc (.pl 54 0))),(19,(Bv r77.2))] [(47,(pR 40 encTBar r75.Bars)),(48,(.row 26 [[(iC r75.Points),(lo 47 r75.Bars.length)]])),(50,(pR 40 encTBar r76.1.Bars)),(51,(.row 26 [[(iC r76.1.Points),(lo 50 r76.1.Bars.length)]])),(53,(pR 40 encTBar r77.1.Bars)),(54,(.row 26 [[(iC r77.1.Points),(lo 53 r77.1.Bars.length)]]))] z5 z6 (AWR.draw mixed (Dp10 (LT.move (v := (Bv r76.2)) Q) Q Q Q (Dp10 (LT.move (v := (Bv r77.2)) Q) Q Q Q (Dp20 (LT.eqlB Q und4) Q Q Q Q (Dp10 (LT.move (v := (Bv (r76.2 == r77.2))) Q) Q Q Q (AOD.split (fun hb84 => ?_) (fun hb84 => ?_)))))))
        ·refine Dp11 (LT.bloadN (out := [(iC r76.1.Points),(lo 50 r76.1.Bars.length)]) Q ag26 (infS inf26) sz26 (by exact Q) (by exact Q)) Q Q (gH hb84 Q Q) Q (Dp11 (LT.bloadN (out := [(iC r77.1.Points),(lo 53 r77.1.Bars.length)]) Q ag26 (infS inf26) sz26 (by exact Q) (by exact Q)) Q Q (gH hb84 Q Q) Q (AOD.bind fun r85 hr85 => (AOD.pure (@LT.callF Tryz.prog _ _ 41 _ _ [(.agg [(iC r76.1.Points),(lo 50 r76.1.Bars.length)]),(.agg [(iC r77.1.Points),(lo 53 r77.1.Bars.length)])] _ _ [(50,(pR 40 encTBar r76.1.Bars)),(53,(pR 40 encTBar r77.1.Bars))] _ _ _ _ (w_spec_EqualGraphs r76.1 r77.1 r85 hr85) Q cb41 (.cons (.agg (.cons (.same Q) (.cons (.tloc Q Q) .nil))) (.cons (.agg (.cons (.same Q) (.cons (.tloc Q Q) .nil))) .nil)) Q Q J) z3 z2 (gH hb84 Q Q) Q (Dp20 (LT.pickT (v := (Bv r85)) Q hb84) Q Q Q Q (Dp10 (LT.move (v := (Bv r85)) Q) Q Q Q (AOD.split (fun hb86 => ?_) (fun hb86 => ?_)))))))
         ·refine Dp11 (LT.bloadN (out := [(iC r75.Points),(lo 47 r75.Bars.length)]) Q ag26 (infS inf26) sz26 (by exact Q) (by exact Q)) Q Q (gH hb86 Q Q) Q (AOD.bind fun r87 hr87 => (AOD.pure (@LT.callF Tryz.prog _ _ 42 _ _ [(.agg [(iC r75.Points),(lo 47 r75.Bars.length)])] _ _ [(47,(pR 40 encTBar r75.Bars))] _ _ _ _ (w_impl_HingeFreedom r75 r87 hr87) Q cb42 (.cons (.agg (.cons (.same Q) (.cons (.tloc Q Q) .nil))) .nil) Q Q J) z2 z1 (gH hb86 Q Q) Q (Dp11 (LT.bloadN (out := [(iC r75.Points),(lo 47 r75.Bars.length)]) Q ag26 (infS inf26) sz26 (by exact Q) (by exact Q)) Q Q (gH hb86 Q Q) Q (AOD.bind fun r88 hr88 => (AOD.pure (@LT.callF Tryz.prog _ _ 46 _ _ [(.agg [(iC r75.Points),(lo 47 r75.Bars.length)])] _ _ [(47,(pR 40 encTBar r75.Bars))] _ _ _ _ (w_spec_HingeFreedom r75 r88 hr88) Q cb46 (.cons (.agg (.cons (.same Q) (.cons (.tloc Q Q) .nil))) .nil) Q Q J) z2 z1 (gH hb86 Q Q) Q (Dp20 (LT.eql Q) Q Q (gH hb86 Q Q) Q (Dp20 (LT.pickT (v := (Bv (r87 == r88))) Q hb86) Q Q Q Q (Dp10 (LT.assign (v := (Bv (r87 == r88))) Q) Q Q Q (AOD.nil (by kernel_rfl) (AWR.nil ⟨Q,Ent.of z1 J⟩))))))))))
         ·refine AOD.skip (gH hb86 Q Q) Q (AOD.skip (gH hb86 Q Q) Q (AOD.skip (gH hb86 Q Q) Q (AOD.skip (gH hb86 Q Q) Q (AOD.skip (gH hb86 Q Q) Q (Dp20 (LT.pickF (v := (Bv false)) Q hb86) Q y2 Q Q (Dp10 (LT.assign (v := (Bv false)) Q) Q Q Q (AOD.nil (by kernel_rfl) (AWR.nil ⟨Q,Ent.of z1 J⟩))))))))
        ·refine AOD.skip (gH hb84 Q Q) Q (AOD.skip (gH hb84 Q Q) Q (AOD.skip (gH hb84 Q Q) Q (Dp20 (LT.pickF (v := (Bv false)) Q hb84) Q y2 Q Q (Dp10 (LT.move (v := (Bv false)) Q) Q Q Q (AOD.skip (gS Q Q) Q (AOD.skip (gS Q Q) Q (AOD.skip (gS Q Q) Q (AOD.skip (gS Q Q) Q (AOD.skip (gS Q Q) Q (Dp20 (LT.pickF (v := (Bv false)) Q Q) Q y2 Q Q (Dp10 (LT.assign (v := (Bv false)) Q) Q Q Q ?_)))))))))))
         refine AOD.nil (by kernel_rfl) (AWR.nil ⟨Q,Ent.of z1 J⟩)
       ·refine AWR.ret (FPost.mk (.inr Q) z1 J Q ⟨PermP.sc,J⟩ J)
end Go.Proofs.YteognanhfpbghaaGreat
end
section
set_option linter.unusedVariables false
set_option linter.unusedSimpArgs false
set_option linter.unnecessarySimpa false
namespace Go.Fw
open Go.ChangeShapes Go.WideShapes Go.ChangeAt Go.RowKit
open Go.Proofs.YteognanhfpbghaaGreat (Rows.uptoBulk Rows.uptoBulkAll)
abbrev Bof (W : World) : Nat → Prop := fun b => b < W.heap.size
abbrev Rno : Nat → Prop := fun _ => False
abbrev gno : Nat → GS := fun _ => .dead
def Opn {α : Type} (P : Program) (t : TypeId) (s : Nat) (enc : α → List PV) (wt : α → Nat) (ok : α → Prop) : Prop :=
  ∀ (H : Type) (e : TypeId × Value → H) (W : World) (base : Nat) (spare : Nat → Bool) (held : Bool) (fuel : Nat) (cs : List Value) (x : DataW H × List MemPlace), DataW.trod e P W base spare held fuel t cs = some x →
    ∃ a : α, ok a ∧ wt a ≤ Go.Proofs.YteognanhfpbghaaGreat.Rows.uptoBulk x.1 ∧ cs.length = s ∧ (enc a).length = s ∧ ∀ (k : Nat) p, (enc a)[k]? = some p → ∃ u, cs[k]? = some u ∧ RPV W Rno (Bof W) p u
def okI (n : Int) : Prop := -9223372036854775808 ≤ n ∧ n ≤ 9223372036854775807
def okL {α : Type} (ok : α → Prop) (xs : List α) : Prop := ∀ x ∈ xs, ok x
def wtI (_ : Int) : Nat := 1
def wtL {α : Type} (wt : α → Nat) (xs : List α) : Nat := (xs.map wt).sum + 1
section
variable {P : Program}
theorem one1 {p q : PV} {cs : List Value} {v : Value} {W : World} (hcs : cs = [v]) (h : RPV W Rno (Bof W) p v) : ∀ (k : Nat) r, [p][k]? = some r → ∃ u, cs[k]? = some u ∧ RPV W Rno (Bof W) r u := fun k r hk => by
  subst hcs
  cases k with
  | zero => simp at hk; subst hk; exact ⟨v, rfl, h⟩
  | succ k => simp at hk
theorem Opn.int {t : TypeId} (ht : P.underlying t = some (.int .i64)) : Opn P t 1 (fun n : Int => [.sc (.int .i64 n)]) wtI okI := fun H e W base spare held fuel cs x h => by
  obtain ⟨n, rfl, rfl, hw⟩ := DataW.trod_int ht h
  refine ⟨n, ?_, by simp [wtI, Go.Proofs.YteognanhfpbghaaGreat.Rows.uptoBulk], rfl, rfl, one1 (q := .sc (.int .i64 n)) rfl (.sc rfl)⟩
  simp [Lit.wf, IntKind.min, IntKind.max, IntKind.signed, IntKind.bits] at hw
  exact ⟨by omega, by omega⟩
theorem list_of {α : Type} {p : Nat → α → Prop} : ∀ n : Nat, (∀ i, i < n → ∃ a, p i a) → ∃ xs : List α, xs.length = n ∧ ∀ (i : Nat) a, xs[i]? = some a → p i a
  | 0, _ => ⟨[], rfl, fun i a h => by simp at h⟩
  | n + 1, h => by
    obtain ⟨xs, h1, h2⟩ := list_of n fun i hi => h i (by omega)
    obtain ⟨a, ha⟩ := h n (by omega)
    refine ⟨xs ++ [a], by simp [h1], fun i b hb => ?_⟩
    rw [List.getElem?_append] at hb
    split at hb
    · exact h2 i b hb
    · rename_i hn
      have hi : i - xs.length = 0 := by
        have := (List.getElem?_eq_some_iff.1 hb).1
        simp at this
        omega
      rw [hi] at hb
      simp at hb
      subst hb
      have : i = n := by omega
      subst this
      exact ha
theorem bulk_sum {α : Type} {H : Type} {wt : α → Nat} {D : Nat → DataW H} : ∀ (xs : List α) (k : Nat), (∀ (i : Nat) a, xs[i]? = some a → wt a ≤ Go.Proofs.YteognanhfpbghaaGreat.Rows.uptoBulk (D (k + i))) →
    (xs.map wt).sum ≤ Go.Proofs.YteognanhfpbghaaGreat.Rows.uptoBulkAll ((List.range' k xs.length).map D)
  | [], _, _ => by simp [Go.Proofs.YteognanhfpbghaaGreat.Rows.uptoBulkAll]
  | a :: r, k, h => by
    have h0 := h 0 a rfl
    have ih := bulk_sum r (k + 1) fun i b hb => by
      have := h (i + 1) b (by simpa using hb)
      rwa [show k + 1 + i = k + (i + 1) by omega]
    rw [Nat.add_zero] at h0
    simp only [List.map_cons, List.sum_cons, List.length_cons, List.range'_succ, Go.Proofs.YteognanhfpbghaaGreat.Rows.uptoBulkAll]
    omega
theorem cell_lt {w : World} {a : Addr} {v : Value} (h : w.cell? a = some v) : a.block < w.heap.size := by
  unfold World.cell? at h
  cases hb : w.heap[a.block]? with
  | none => rw [hb] at h; simp at h
  | some o => exact (Array.getElem?_eq_some_iff.1 hb).1
theorem Opn.slice {α : Type} {t e : TypeId} {s : Nat} {enc : α → List PV} {wt : α → Nat} {ok : α → Prop} (ht : P.underlying t = some (.slice e)) (hs : P.cellsOf e = s) (hs0 : 0 < s) (he : Opn P e s enc wt ok) :
    Opn P t 1 (fun xs : List α => [.xs false (xs.map enc)]) (wtL wt) (okL ok) := fun H en W base spare held fuel cs x h => by
  rcases Go.Deep.open_slice ht h with ⟨rfl, rfl⟩ | ⟨a, len, cap, m, n, D, Pl, rfl, hb, hl, hm, hmm, rfl, hi⟩
  · refine ⟨[], ?_, ?_, rfl, rfl, one1 (q := .xs false []) rfl .emp⟩
    · intro x hx; cases hx
    · simp [wtL, Go.Proofs.YteognanhfpbghaaGreat.Rows.uptoBulk]
  · have hml : len ≤ m := by rw [hmm]; split <;> omega
    obtain ⟨xs, hxl, hx⟩ := list_of (p := fun i (b : α) => ok b ∧ wt b ≤ Go.Proofs.YteognanhfpbghaaGreat.Rows.uptoBulk (D i) ∧ (enc b).length = s ∧ ∀ (k : Nat) p, (enc b)[k]? = some p → ∃ u, W.cell? (a.add (i * s + k)) = some u ∧ RPV W Rno (Bof W) p u) len (fun i hil => by
      obtain ⟨cs', hc, htr⟩ := hi i (by omega)
      obtain ⟨b, h1, h2, h3, h4, h5⟩ := he _ _ _ _ _ _ _ _ _ htr
      obtain ⟨_, hcl, hat⟩ := World.cells?_some hc
      refine ⟨b, h1, h2, h4, fun k p hk => ?_⟩
      obtain ⟨u, hu, hr⟩ := h5 k p hk
      refine ⟨u, ?_, hr⟩
      have hks : k < s := by rw [← h4]; exact (List.getElem?_eq_some_iff.1 hk).1
      have := hat k (by rw [hs]; exact hks)
      rw [add_add, hs] at this
      rw [this]
      exact hu)
    refine ⟨xs, fun b hb => ?_, ?_, rfl, rfl, one1 (q := .sc undef) rfl ?_⟩
    · obtain ⟨i, hib⟩ := List.getElem?_of_mem hb
      exact (hx i b hib).1
    · have := bulk_sum (wt := wt) (D := D) xs 0 (fun i b hb => by rw [Nat.zero_add]; exact (hx i b hb).2.1)
      simp only [wtL, Go.Proofs.YteognanhfpbghaaGreat.Rows.uptoBulk]
      rw [hxl, ← List.range_eq_range'] at this
      omega
    · cases hxs : xs with
      | nil =>
        have : len = 0 := by rw [← hxl, hxs]; rfl
        subst this
        exact .emp
      | cons b r =>
        rw [← hxs]
        have hget : ∀ (j k : Nat) cs p, (xs.map enc)[j]? = some cs → cs[k]? = some p → ∃ u, W.cell? (a.add (j * s + k)) = some u ∧ RPV W Rno (Bof W) p u := fun j k cs p hj hk => by
          rw [List.getElem?_map] at hj
          cases hjx : xs[j]? with
          | none => rw [hjx] at hj; cases hj
          | some c =>
            rw [hjx] at hj
            injection hj with hj
            subst hj
            exact (hx j c hjx).2.2.2 k p hk
        refine .xs (s := s) (fun j k => (W.cell? (a.add (j * s + k))).getD undef) (by simp [hxl]) ?_ (by simp [hxl]; exact hl) (fun cs hcs => ?_) (fun j k cs p hj hk => ?_) (fun j k cs p hj hk => ?_)
        · have h0 := hx 0 b (by rw [hxs]; rfl)
          have hlt : 0 < (enc b).length := by rw [h0.2.2.1]; exact hs0
          obtain ⟨u, hu, _⟩ := h0.2.2.2 0 (enc b)[0] (List.getElem?_eq_getElem hlt)
          have := cell_lt hu
          rw [add_block] at this
          exact this
        · obtain ⟨c, hc, rfl⟩ := List.mem_map.1 hcs
          obtain ⟨i, hic⟩ := List.getElem?_of_mem hc
          exact (hx i c hic).2.2.1
        · obtain ⟨u, hu, _⟩ := hget j k cs p hj hk
          rw [hu]; rfl
        · obtain ⟨u, hu, hr⟩ := hget j k cs p hj hk
          rw [hu]
          exact hr
theorem len_wtL {α : Type} {wt : α → Nat} (h : ∀ x, 1 ≤ wt x) (xs : List α) : xs.length ≤ wtL wt xs := by
  unfold wtL
  induction xs with
  | nil => simp
  | cons x r ih =>
    have := h x
    simp only [List.map_cons, List.sum_cons, List.length_cons] at ih ⊢
    omega
theorem Opn.arg1 {α : Type} {t : TypeId} {enc : α → List PV} {wt : α → Nat} {ok : α → Prop} (h : Opn P t 1 enc wt ok) {p : α → PV} (hp : ∀ a, enc a = [p a]) {H : Type} {e : TypeId × Value → H} {W : World} {sp : Nat → Bool} {v : Value} {d : DataW H} {ps : List MemPlace}
    (hv : v.oneCell' = true) (hd : DataW.Trod e P W 0 sp true t v d ps) : ∃ a : α, ok a ∧ wt a ≤ Go.Proofs.YteognanhfpbghaaGreat.Rows.uptoBulk d ∧ RS P W Rno (Bof W) gno (.c (.pv (p a))) v := by
  obtain ⟨fuel, hf⟩ := hd
  obtain ⟨a, h1, h2, h3, h4, h5⟩ := h _ _ _ _ _ _ _ _ _ hf
  refine ⟨a, h1, h2, ?_⟩
  have hc : v.cells = #[v] := oneCell_ne hv
  obtain ⟨u, hu, hr⟩ := h5 0 (p a) (by rw [hp]; rfl)
  rw [hc] at hu
  have : v = u := by simpa using hu
  subst this
  exact ⟨hv, hr⟩
def ArgR (P : Program) (W : World) : List SV → List Value → Prop
  | [], [] => True
  | x :: xs, v :: vs => RS P W Rno (Bof W) gno x v ∧ ArgR P W xs vs
  | _, _ => False
theorem ArgR.spec {W : World} : ∀ {xs : List SV} {vs : List Value}, ArgR P W xs vs → vs.length = xs.length ∧ ∀ (k : Nat) x, xs[k]? = some x → ∃ u, vs[k]? = some u ∧ RS P W Rno (Bof W) gno x u
  | [], [], _ => ⟨rfl, fun k x hk => by simp at hk⟩
  | [], _ :: _, h => h.elim
  | _ :: _, [], h => h.elim
  | x :: xs, v :: vs, h => by
    obtain ⟨h1, h2⟩ := ArgR.spec h.2
    refine ⟨by simp [h1], fun k y hk => ?_⟩
    cases k with
    | zero => simp at hk; subst hk; exact ⟨v, rfl, h.1⟩
    | succ k => exact h2 k y (by simpa using hk)
theorem trodAll_stays {H : Type} {e : TypeId × Value → H} (hl : laidOutB P = true) {W W' : World} {sp : Nat → Bool} (hb : Below W.heap.size W W') : ∀ {ts : List TypeId} {vs : List Value} {ds : List (DataW H)} {ps : List MemPlace}, (ts.all fun t => P.readableRec t && decide (t < P.types.size)) = true →
    DataW.TrodAll e P W 0 (fun _ => true) true ts vs ds ps → (∀ p ∈ ps, p.block < W.heap.size) → (∀ p ∈ ps, sp p.block = true) → DataW.TrodAll e P W' 0 sp true ts vs ds ps
  | [], [], [], _, _, h, _, _ => h
  | t :: ts, v :: vs, d :: ds, ps, hr, h, hlt, hs => by
    obtain ⟨p, q, h1, h2, rfl⟩ := h
    simp only [List.all_cons, Bool.and_eq_true, decide_eq_true_eq] at hr
    exact ⟨p, q, Go.WideElems.Trod_stays hl hr.1.1 hr.1.2 h1 (fun x hx => hb.same (hlt x (List.mem_append_left _ hx))) (fun x hx => hs x (List.mem_append_left _ hx)), trodAll_stays hl hb hr.2 h2 (fun x hx => hlt x (List.mem_append_right _ hx)) (fun x hx => hs x (List.mem_append_right _ hx)), rfl⟩
  | [], [], _ :: _, _, _, h, _, _ => h.elim
  | [], _ :: _, _, _, _, h, _, _ => h.elim
  | _ :: _, [], _, _, _, h, _, _ => h.elim
  | _ :: _, _ :: _, [], _, _, h, _, _ => h.elim
theorem post_of_fw {H : Type} {e : TypeId × Value → H} {f : Func} {s : ChangeSpec} {apart handsOn again : Bool} {fresh : Bool} {W W' : World} {args : Array Value} {ds gs : List (DataW H)} {before : List MemPlace} {tb : TypeId} (hW : DataW.Whole e P f.params.toList s.vars apart W args.toList ds gs before) (hl : laidOutB P = true)
    (hr : (f.params.toList.all fun t => P.readableRec t && decide (t < P.types.size)) = true) (hb : Below W.heap.size W W') (hv : s.vars = []) (hf : s.fn H ds = { results := [.lit (.bool true)], args := ds }) (hrt : f.resultTypes = #[tb]) (htb : P.underlying tb = some .bool) :
    s.post e P f apart fresh handsOn again W args (.bool true) W' := by
  have hlt : ∀ p ∈ before, p.block < W.heap.size := fun p hp => hW.lt p hp
  have hW0 := hW
  obtain ⟨p, q, hA, hV, hpq, hz, hn⟩ := hW
  rw [hv] at hV
  obtain ⟨rfl, rfl⟩ : gs = [] ∧ q = [] := by
    cases gs with
    | nil => exact ⟨rfl, hV⟩
    | cons _ _ => exact hV.elim
  rw [List.append_nil] at hpq
  subst hpq
  have hargs : ∀ sp : Nat → Bool, (∀ p ∈ before, sp p.block = true) → DataW.TrodAll e P W' 0 sp true f.params.toList args.toList ds before := fun sp hs => trodAll_stays hl hb hr hA hlt hs
  have hres : ∀ (b : Nat) (sp : Nat → Bool) (hd : Bool), DataW.TrodAll e P W' b sp hd f.resultTypes.toList ((Value.bool true).resultList f.resultTypes.size) [.lit (.bool true)] [] := fun b sp hd => by
    rw [hrt]
    exact ⟨[], [], shut_bool htb _, rfl, rfl⟩
  have hfd : s.fn H (ds ++ []) = { results := [.lit (.bool true)], args := ds } := by rw [List.append_nil]; exact hf
  have hold : ∀ p ∈ before, (fun b => decide (b < W.heap.size)) p.block = true := fun p hp => by simpa using hlt p hp
  have hvs : ∀ sp : Nat → Bool, DataW.TrodVars e P W' sp s.vars [] [] := fun sp => by rw [hv]; rfl
  refine ⟨ds, [], before, [], before, [], hW0, ?_, ?_, ?_, World.keptBut_mono (fun p hp => ⟨hp, ?_⟩) (hb.frame (· ∈ before)), fun _ => ?_⟩
  · rw [hfd]; exact hres _ _ _
  · rw [hfd]; exact hargs _ hold
  · rw [hfd]; exact hvs _
  · exact Or.inr (Or.inl hp)
  · refine ⟨ok_one hrt rfl (okWide_bool_mk htb _), ?_⟩
    · refine ⟨_, _, ([] ++ before) ++ [], ⟨[] ++ before, [], trodAll_append (hargs _ (fun _ _ => rfl)) (hres _ _ _), hvs _, rfl, ?_, ?_⟩, ?_⟩
      · intro b off hp
        have hin : MemPlace.cell b off ∈ before := by simpa using hp
        rw [hb.frozen (hlt _ hin)]
        exact hz b off hin
      · intro ha
        simpa using hn ha
      · intro p hp _
        simpa using hp
end
end Go.Fw
end
section
set_option linter.unusedVariables false
set_option linter.unusedSimpArgs false
set_option linter.unnecessarySimpa false
open Go Go.Fw
open Go.ChangeShapes Go.WideShapes Go.ChangeAt Go.RowKit
namespace Go.Proofs.YteognanhfpbghaaGreat
theorem oC5 : Tryz.prog.cellsOf 5 = 1 := by kernel_rfl
theorem oU22 : Tryz.prog.underlying 22 = some (.slice 5) := by kernel_rfl
theorem oU5 : Tryz.prog.underlying 5 = some (.int .u8) := by kernel_rfl
def okB (n : Int) : Prop := 0 ≤ n ∧ n ≤ 255
theorem Opn.u8 {P : Program} {t : TypeId} (ht : P.underlying t = some (.int .u8)) : Opn P t 1 encInt_u8 wtI okB := fun H e W base spare held fuel cs x h => by
  obtain ⟨n, rfl, rfl, hw⟩ := DataW.trod_int ht h
  refine ⟨n, ?_, by simp [wtI, Go.Proofs.YteognanhfpbghaaGreat.Rows.uptoBulk], rfl, rfl, one1 (q := .sc (.int .u8 n)) rfl (.sc rfl)⟩
  simp [Lit.wf, IntKind.min, IntKind.max, IntKind.signed, IntKind.bits] at hw
  exact ⟨by omega, by omega⟩
theorem RPV.byteT {W : World} {l : List Int} {v : Value} (h : RPV W Rno (Bof W) (.xs false (l.map encInt_u8)) v) : RPV W (Bof W) (Bof W) (.xs true (l.map encInt_u8)) v := by
  generalize hE : l.map encInt_u8 = E at h
  cases h with
  | emp => exact .emp
  | xs val hn hb hc hs hv hr =>
    refine .xs val hn hb hc hs hv fun j k cs p hj hk => ?_
    have h1 := hr j k cs p hj hk
    subst hE
    obtain ⟨x, hx, rfl⟩ := List.mem_map.mp (List.mem_of_getElem? hj)
    cases k with
    | zero =>
      cases hk
      revert h1
      generalize val j 0 = u
      intro h1
      cases h1 with | sc h => exact .sc h
    | succ k => cases hk
theorem Fn.calledT {P : Program} {f : FuncId} {l : List Int} (hf : Fw.Fn P f [.c (xT encInt_u8 l)] [] (.s (.c (bC true))) [] [] []) {W : World} {v : Value} (ha : RS P W Rno (Bof W) gno (.c (xF encInt_u8 l)) v) : Calls P f #[v] W fun e W' => e = .returned (.bool true) ∧ Below W.heap.size W W' := by
  have ha' : RS P W (Bof W) (Bof W) gno (.c (xT encInt_u8 l)) v := ⟨ha.1, RPV.byteT ha.2⟩
  have hw : WF (Bof W) (Bof W) gno W := ⟨fun b hb => hb, fun b hb => hb, fun n b hg => hg.elim, fun n m b hg => hg.elim, fun n j k b h => (by cases h)⟩
  have := hf (Bof W) (Bof W) gno W [v] hw rfl (fun k x hk => by cases k with | zero => cases hk; exact ⟨v, rfl, ha'⟩ | succ k => cases hk) (fun p hp => by cases hp)
  refine this.mono fun e W' hp => ?_
  obtain ⟨u, R', B', g', rfl, had, _, hv, _⟩ := hp
  have hu : u = .bool true := by
    obtain ⟨_, h3⟩ := hv
    cases h3
    rfl
  subst hu
  exact ⟨rfl, had.os, had.tape, had.output, had.size, fun k hk => had.heap k hk fun n hn => by cases hn⟩
end Go.Proofs.YteognanhfpbghaaGreat
end
