/- Parts of a proof that a law of the program holds: what the program computes, and why that is right. -/
import Derived.Test.YtdmlaldifbmkpaaGreatZFnRedundant2
section
set_option linter.unusedVariables false
set_option linter.unusedSimpArgs false
set_option linter.unnecessarySimpa false
set_option maxRecDepth 100000
set_option maxHeartbeats 8000000
open Go Go.Fw
namespace Go.Proofs.YtdmlaldifbmkpaaGreat
theorem aBi (code : (List Int)) : FT Tryz.prog (GL code) 6 [.c (xF bF code)] [] (fun (t : Bool) => [.c (bC t)]) (fun (t : Bool) => []) [] := by
 refine FT.of [] Tryz.func6 Tryz.ntmps6 Q y2 ?_
 intro w0 U0 R0 g0
 unfold GL
 refine Ws (Wr ?_)
 refine aP (Bv false) au (On (Ws (Wr ?_)))
 refine aH (Cc (xF bF code)) y4 (ah (LT.gY Q Hw) Q Q Q (aj LT.gtr af (aP (Bv (decide (1048576 < (code.length : Int)))) y4 (On (aB.ret (bD.mk (.inr Q) z1 J Q ⟨ak.sc,J⟩ J))))))
theorem H8 (code : (List Int)) : FT Tryz.prog (vY code) 74 [.c (xT bF code)] [] (fun (t : dB) => [.c (.pl 0 0)]) (fun (t : dB) => [(0,.row 105 [[xT bF t.b,iC t.i,iC t.h]])]) [0] := by
 refine FT.of [] Tryz.func74 Tryz.ntmps74 Q y2 ?_
 intro w0 U0 R0 g0
 unfold vY
 refine Ws (Wr ?_)
 refine aP (Cc (sC (.pointer none))) au (On (Ws (Wr ?_)))
 refine aH (Cc (xT bF code)) y4 (ah (LT.gY Q Hw) Q Q Q (aj LT.add sG (aP (Iv (aJ (10101 + (code.length : Int)))) y4 (On (Ws (Ws (Wr ?_)))))))
 refine aP (Iv 0) au (On (aB.block ?_))
 refine aB.iy (id := 0) (yC code) (fun s1 => ([(0,Cc (xT bF code)),(3,Iv s1.1),(4,Iv s1.2)],[])) (fun b12 => ([(0,Cc (xT bF code)),(3,Iv b12)],[])) ?_ (aU.of z3 J) Q (fun b12 _ => ?_)
 ·intro s1
  unfold yC
  refine Ws (Ws ?_)
  refine aB.dZ (fun j14 => ([(0,Cc (xT bF code)),(3,Iv s1.1),(4,Iv s1.2),(15,Bv j14)],[])) ?_ (fun j14 _ => ?_)
  ·refine Wr (aH (Iv s1.2) y4 (aH (Cc (xT bF code)) y4 (ah (LT.gY Q Hw) Q Q Q (aj LT.lss y5 (aH (Bv (decide (s1.2 < (code.length : Int)))) y4 (aS.split (fun iw => ?_) (fun iw => ?_)))))))
   ·refine dn (Iv s1.2) iw y5 (fZ LT.lss iw jZ (dL (Bv (decide (s1.2 < 4000))) iw y5 (On (aZ Q z4 J))))
   ·refine aV iw y5 (aV iw y5 (eH (Bv false) iw af (On (aZ Q z4 J))))
  ·refine aB.cond Q (fun hc16 => ?_) (fun hc16 => ?_)
   ·refine aB.skip (Ws (aB.block (Wr ?_)))
    refine aH (Iv s1.1) y4 (aj LT.mul af (aH (Cc (xT bF code)) y4 (aH (Iv s1.2) y4 (aY fun x17 J8 => (fA (LT.fO (enc := bF) Q Ot J8 TA) Q Q Q Q (ah (LT.iP Q NR) Q Q Q (ah (LT.Oh Q TQ TP) Q Q Q (aj LT.add y5 (aj LT.add af (aj LT.and af (aP (Iv (bits .and .i64 (aJ ((aJ ((aJ (s1.1 * 131)) + (aJ x17))) + 7)) 1073741823)) y4 ?_)))))))))))
    refine On (aB.blk ?_)
    refine en [(0,Cc (xT bF code)),(3,Iv (bits .and .i64 (aJ ((aJ ((aJ (s1.1 * 131)) + (aJ x17))) + 7)) 1073741823)),(4,Iv s1.2)] [] z3 J (Wr (aH (Iv s1.2) y4 (aj LT.add af (aP (Iv (aJ (s1.2 + 1))) y4 (On (aZ Q z3 J))))))
   ·refine aB.fH Q ⟨Q,aU.of z2 J⟩
 ·refine Ws (Wr ?_)
  refine aH (Cc (xT bF code)) y4 (aH (Iv b12) y4 (fA (LT.build [(0,.tmp 28,.c (xT bF code)),(2,.tmp 29,.c (iC b12))] Q Q aAJ aBE Q Q Q) Q Q Q Q (dF (LT.box (n := 21) (v := (.agg [xT bF code,iC 0,iC b12])) Q aBA (by exact Q)) Q Q Q (aP (Cc (.pl 21 0)) y4 (On (en [(2,Cc (.pl 21 0))] [(21,.row 105 [[xT bF code,iC 0,iC b12]])] z1 z1 (aB.ent (aU.mv 21 0 Q Q) (en [(2,Cc (.pl 0 0))] [(0,.row 105 [[xT bF code,iC 0,iC b12]])] z1 z1 (aB.ret (bD.mk (.inr Q) z1 z1 Q ⟨J,J⟩ ⟨bK.kP ⟨mX mY,ak.sc,ak.sc,J⟩,J⟩))))))))))
theorem Ea (c : dB) : FT Tryz.prog (uH c) 145 [.c (.pl 0 0)] [(0,.row 105 [[xT bF c.b,iC c.i,iC c.h]])] (fun (t : (Int × dB)) => [.c (iC t.1)]) (fun (t : (Int × dB)) => [(0,.row 105 [[xT bF t.2.b,iC t.2.i,iC t.2.h]])]) [] := by
 refine FT.of [0] Tryz.func145 Tryz.ntmps145 Q y2 ?_
 intro w0 U0 R0 g0
 unfold uH
 refine Ws (Wr ?_)
 refine aP (Iv 0) au (On (Ws (Wr ?_)))
 refine aH (Cc (.pl 0 0)) y4 (aH (Cc (.pl 0 0)) y4 (ah (LT.kL Q) Q Q Q (cZ (iC c.h) FU bM bG (aj LT.mul af (aj LT.add af (ah (LT.kL Q) Q Q Q (ah (LT.ig Q FU) Q Q Q (bW (mO (.c (iC (aJ ((aJ (c.h * 6364136223846793005)) + 1442695040888963407)))) [xT bF c.b,iC c.i,iC (aJ ((aJ (c.h * 6364136223846793005)) + 1442695040888963407))] Q Q oz jB) Q Q Q Q Q (On (Ws ?_))))))))))
 refine en [(0,Cc (.pl 0 0))] [(0,.row 105 [[xT bF c.b,iC c.i,iC (aJ ((aJ (c.h * 6364136223846793005)) + 1442695040888963407))]])] z1 z1 (aB.draw mixed (bY (Cc (.pl 0 0)) y4 (bf (LT.kL Q) Q Q Q (fD (iC (aJ ((aJ (c.h * 6364136223846793005)) + 1442695040888963407))) FU bM bG (eG (LT.shr Q (by decide)) Q y2 Q Q (bY (Cc (.pl 0 0)) y4 (bf (LT.kL Q) Q Q Q (fD (iC (aJ ((aJ (c.h * 6364136223846793005)) + 1442695040888963407))) FU bM bG (eG (LT.shr Q (by decide)) Q y2 Q Q ?_)))))))))
 refine jG LT.xor y5 (jG LT.and af (bf (LT.assign (v := (Iv (bits .and .i64 (bits .xor .i64 (mM (aJ ((aJ (c.h * 6364136223846793005)) + 1442695040888963407)) 33) (mM (aJ ((aJ (c.h * 6364136223846793005)) + 1442695040888963407)) 45)) 255))) Q) Q Q Q (aT.nil (by kernel_rfl) (Ws (Ws ?_)))))
 refine en [(0,Cc (.pl 0 0)),(3,Iv (bits .and .i64 (bits .xor .i64 (mM (aJ ((aJ (c.h * 6364136223846793005)) + 1442695040888963407)) 33) (mM (aJ ((aJ (c.h * 6364136223846793005)) + 1442695040888963407)) 45)) 255))] [(0,.row 105 [[xT bF c.b,iC c.i,iC (aJ ((aJ (c.h * 6364136223846793005)) + 1442695040888963407))]])] z2 z1 (aB.draw mixed (bY (Cc (.pl 0 0)) y4 (bf (LT.kL Q) Q Q Q (fD (iC c.i) FQ bM bG (bY (Cc (.pl 0 0)) y4 (bf (LT.kL Q) Q Q Q (fD (xT bF c.b) O3 NQ bG (bf (LT.gY Q Hw) Q Q Q (jG LT.lss y5 ?_)))))))))
 refine aT.nil (by kernel_rfl) (aB.dZ (fun j3 => ([(3,Iv j3.1)],[(0,.row 105 [[xT bF c.b,iC j3.2,iC (aJ ((aJ (c.h * 6364136223846793005)) + 1442695040888963407))]])])) ?_ (fun j3 _ => ?_))
 ·refine aB.cond Q (fun hc4 => ?_) (fun hc4 => ?_)
  ·refine Ws (aB.draw mixed ?_)
   refine bY (Iv (bits .and .i64 (bits .xor .i64 (mM (aJ ((aJ (c.h * 6364136223846793005)) + 1442695040888963407)) 33) (mM (aJ ((aJ (c.h * 6364136223846793005)) + 1442695040888963407)) 45)) 255)) y4 (bY (Cc (.pl 0 0)) y4 (bf (LT.kL Q) Q Q Q (fD (xT bF c.b) O3 NQ bG (bY (Cc (.pl 0 0)) y4 (bf (LT.kL Q) Q Q Q (fD (iC c.i) FQ bM bG (aT.bind fun x5 hx5 => (eG (LT.fO (enc := bF) Q Ot hx5 TA) Q Q Q Q (bf (LT.iP Q NR) Q Q Q ?_)))))))))
   refine bf (LT.Oh Q TQ TP) Q Q Q (jG LT.add y5 (jG LT.and af (bf (LT.assign (v := (Iv (bits .and .i64 (aJ ((bits .and .i64 (bits .xor .i64 (mM (aJ ((aJ (c.h * 6364136223846793005)) + 1442695040888963407)) 33) (mM (aJ ((aJ (c.h * 6364136223846793005)) + 1442695040888963407)) 45)) 255) + (aJ x5))) 255))) Q) Q Q Q (aT.nil (by kernel_rfl) (en [(0,Cc (.pl 0 0)),(3,Iv (bits .and .i64 (aJ ((bits .and .i64 (bits .xor .i64 (mM (aJ ((aJ (c.h * 6364136223846793005)) + 1442695040888963407)) 33) (mM (aJ ((aJ (c.h * 6364136223846793005)) + 1442695040888963407)) 45)) 255) + (aJ x5))) 255))] [(0,.row 105 [[xT bF c.b,iC c.i,iC (aJ ((aJ (c.h * 6364136223846793005)) + 1442695040888963407))]])] z2 z1 (Wr (aH (Cc (.pl 0 0)) y4 (aH (Cc (.pl 0 0)) y4 (ah (LT.kL Q) Q Q Q (cZ (iC c.i) FQ bM bG ?_))))))))))
   refine aj LT.add af (ah (LT.kL Q) Q Q Q (ah (LT.ig Q FQ) Q Q Q (bW (mO (.c (iC (aJ (c.i + 1)))) [xT bF c.b,iC (aJ (c.i + 1)),iC (aJ ((aJ (c.h * 6364136223846793005)) + 1442695040888963407))] Q Q oz jB) Q Q Q Q Q (On (aZ Q z1 z1)))))
  ·refine aB.skip (aZ Q z1 z1)
 ·refine Ws (Wr ?_)
  refine aH (Iv j3.1) y4 (aP (Iv j3.1) y4 (On (aB.ret (bD.mk (.inr Q) z1 z1 Q ⟨ak.sc,J⟩ ⟨bK.kP ⟨mX mY,ak.sc,ak.sc,J⟩,J⟩))))
theorem jq (c : dB) (n : Int) : FT Tryz.prog (jC c n) 93 [.c (.pl 0 0),.c (iC n)] [(0,.row 105 [[xT bF c.b,iC c.i,iC c.h]])] (fun (t : (Int × dB)) => [.c (iC t.1)]) (fun (t : (Int × dB)) => [(0,.row 105 [[xT bF t.2.b,iC t.2.i,iC t.2.h]])]) [] := by
 refine FT.of [0] Tryz.func93 Tryz.ntmps93 Q y2 ?_
 intro w0 U0 R0 g0
 unfold jC
 refine Ws (Wr ?_)
 refine aP (Iv 0) au (On (Ws (Ws (Wr ?_))))
 refine aH (Iv n) y4 (aj LT.leq af (On (aB.cond Q (fun hc1 => ?_) (fun hc1 => ?_))))
 ·refine Ws (Wr ?_)
  refine aP (Iv 0) au (On (aB.ret (bD.mk (.inr Q) z1 z1 Q ⟨ak.sc,J⟩ ⟨bK.kP ⟨mX mY,ak.sc,ak.sc,J⟩,J⟩)))
 ·refine aB.skip (Ws (Ws (Wr ?_)))
  refine aH (Iv n) y4 (aj LT.leq af (On (aB.cond Q (fun hc2 => ?_) (fun hc2 => ?_))))
  ·refine Ws (Wr ?_)
   refine aH (Cc (.pl 0 0)) y4 (aY fun r3 hr3 => (aS.step (bH [.c (.pl 0 0)] (Fw.Fn.ren [(0,0)] (Ea c r3 hr3) Q) BZ (lI Q) z1 y3) z2 z1 Q Q (aH (Iv n) y4 (aY fun u4 Jz => (fA (LT.rem Q (Ky Jz)) Q Q Q Q (aP (Iv (Int.tmod r3.1 n)) y4 (On (aB.ret (bD.mk (.inr Q) z1 z1 Q ⟨ak.sc,J⟩ ⟨bK.kP ⟨mX mY,ak.sc,ak.sc,J⟩,J⟩)))))))))
  ·refine aB.skip (Ws (Wr ?_))
   refine aH (Cc (.pl 0 0)) y4 (aY fun r5 lW => (aS.step (bH [.c (.pl 0 0)] (Fw.Fn.ren [(0,0)] (Ea c r5 lW) Q) BZ (lI Q) z1 y3) z2 z1 Q Q (aP (Iv r5.1) y4 (On (Ws (Wr ?_))))))
   refine aH (Cc (.pl 0 0)) y4 (aY fun r6 xH => (aS.step (bH [.c (.pl 0 0)] (Fw.Fn.ren [(0,0)] (Ea r5.2 r6 xH) Q) BZ (lI Q) z1 y3) z2 z1 Q Q (aP (Iv r6.1) y4 (On (Ws ?_)))))
   refine en [(0,Cc (.pl 0 0)),(1,Iv n),(5,Iv r5.1),(6,Iv r6.1)] [(0,.row 105 [[xT bF r6.2.b,iC r6.2.i,iC r6.2.h]])] z4 z1 (Wr (aH (Cc (.pl 0 0)) y4 (aY fun r7 nN => (aS.step (bH [.c (.pl 0 0)] (Fw.Fn.ren [(0,0)] (Ea r6.2 r7 nN) Q) BZ (lI Q) z1 y3) z2 z1 Q Q (aP (Iv r7.1) y4 (On (Ws (Wr ?_))))))))
   refine aH (Cc (.pl 0 0)) y4 (aY fun r8 Cj => (aS.step (bH [.c (.pl 0 0)] (Fw.Fn.ren [(0,0)] (Ea r7.2 r8 Cj) Q) BZ (lI Q) z1 y3) z2 z1 Q Q (aP (Iv r8.1) y4 (On (Ws (Wr ?_))))))
   refine aH (Iv r5.1) y4 (aj LT.mul af (aH (Iv r6.1) y4 (aj LT.mul af (aj LT.add y5 (aH (Iv r7.1) y4 (aj LT.mul af (aj LT.add y5 (aH (Iv r8.1) y4 (aj LT.add y5 (aH (Iv n) y4 (aY fun u9 Yq => ?_)))))))))))
   refine fA (LT.rem Q (Ky Yq)) Q Q Q Q (aP (Iv (Int.tmod (aJ ((aJ ((aJ ((aJ (r5.1 * 16777216)) + (aJ (r6.1 * 65536)))) + (aJ (r7.1 * 256)))) + r8.1)) n)) y4 (On (aB.ret (bD.mk (.inr Q) z1 z1 Q ⟨ak.sc,J⟩ ⟨bK.kP ⟨mX mY,ak.sc,ak.sc,J⟩,J⟩))))
theorem aB1 (c : dB) (n : Int) (odd : Int) : FT Tryz.prog (D8 c n odd) 178 [.c (.pl 0 0),.c (iC n),.c (iC odd)] [(0,.row 105 [[xT bF c.b,iC c.i,iC c.h]])] (fun (t : (aQ × dB)) => [.agg [iC t.1.aF,lo 1 t.1.aA.length]]) (fun (t : (aQ × dB)) => [(0,.row 105 [[xT bF t.2.b,iC t.2.i,iC t.2.h]]),(1,pR 40 aG t.1.aA)]) [1] := by
 refine FT.of [0] Tryz.func178 Tryz.ntmps178 Q y2 ?_
 intro w0 U0 R0 g0
 unfold D8
 refine Ws (Wr ?_)
 refine dA (LT.alloc (n := 21) (cells := [iC 0,sC aO]) Q fK Q Q Q) Q Q (On (Ws (Wr ?_)))
 refine aH (Iv n) y4 (dA (LT.eY (n := 22) (enc := aG) [] ([] : List aK) Q Q dK dw Q Q Q Q (by decide) (fun _ => Q) Q) Q Q (fA (LT.build [(0,.tmp 10,.c (iC n)),(1,.tmp 11,.c (lo 22 (([] : List aK).length)))] Q Q uN fK Q Q Q) Q Q Q Q (dA (LT.alloc (n := 23) (cells := [iC 0,sC aO]) Q fK Q Q Q) Q Q (bW (stA [iC n,lo 22 (([] : List aK).length)] Q Q ai aX) Q Q Q Q Q (On (Ws (Ws ?_)))))))
 refine en [(0,Cc (.pl 0 0)),(1,Iv n),(2,Iv odd),(6,Cc (.pl 21 0)),(7,Cc (.pl 23 0))] [(0,.row 105 [[xT bF c.b,iC c.i,iC c.h]]),(21,.row 26 [[iC 0,sC aO]]),(22,pR 40 aG ([] : List aK)),(23,.row 26 [[iC n,lo 22 (([] : List aK).length)]])] z5 z4 (Wr (aP (Iv 0) au (On (aB.block ?_))))
 refine aB.iy (id := 0) (D9 n odd) (fun s1 => ([(0,Cc (.pl 0 0)),(1,Iv n),(2,Iv odd),(6,Cc (.pl 21 0)),(7,Cc (.pl 23 0)),(8,Iv s1.1)],[(0,.row 105 [[xT bF s1.2.1,iC s1.2.2.1,iC s1.2.2.2.1]]),(21,.row 26 [[iC 0,sC aO]]),(22,pR 40 aG s1.2.2.2.2),(23,.row 26 [[iC n,lo 22 s1.2.2.2.2.length]])])) (fun jT => ([(6,Cc (.pl 21 0)),(7,Cc (.pl 23 0))],[(0,.row 105 [[xT bF jT.1,iC jT.2.1,iC jT.2.2.1]]),(21,.row 26 [[iC 0,sC aO]]),(22,pR 40 aG jT.2.2.2),(23,.row 26 [[iC n,lo 22 jT.2.2.2.length]])])) ?_ (aU.of z6 z4) Q (fun jT _ => ?_)
 ·intro s1
  unfold D9
  refine Ws (Ws (Wr ?_))
  refine aH (Iv s1.1) y4 (aH (Iv n) y4 (aj LT.lss y5 (On (aB.cond Q (fun CJ => ?_) (fun CJ => ?_)))))
  ·refine aB.skip (Ws (aB.block (Ws (Wr ?_))))
   refine aH (Iv s1.1) y4 (aj LT.add af (aP (Iv (aJ (s1.1 + 1))) y4 (On (aB.block ?_))))
   refine aB.iy (id := 2) (Ah n odd s1) (fun gX => ([(0,Cc (.pl 0 0)),(1,Iv n),(2,Iv odd),(6,Cc (.pl 21 0)),(7,Cc (.pl 23 0)),(8,Iv s1.1),(9,Iv gX.1)],[(0,.row 105 [[xT bF gX.2.1,iC gX.2.2.1,iC gX.2.2.2.1]]),(21,.row 26 [[iC 0,sC aO]]),(22,pR 40 aG gX.2.2.2.2),(23,.row 26 [[iC n,lo 22 gX.2.2.2.2.length]])])) (fun oM => ([(0,Cc (.pl 0 0)),(1,Iv n),(2,Iv odd),(6,Cc (.pl 21 0)),(7,Cc (.pl 23 0)),(8,Iv oM.1)],[(0,.row 105 [[xT bF oM.2.1,iC oM.2.2.1,iC oM.2.2.2.1]]),(21,.row 26 [[iC 0,sC aO]]),(22,pR 40 aG oM.2.2.2.2),(23,.row 26 [[iC n,lo 22 oM.2.2.2.2.length]])])) ?_ (aU.of z7 z4) Q (fun oM _ => ?_)
   ·intro gX
    unfold Ah
    refine Ws (Ws (Wr ?_))
    refine aH (Iv gX.1) y4 (aH (Iv n) y4 (aj LT.lss y5 (On (aB.cond Q (fun XO => ?_) (fun XO => ?_)))))
    ·refine aB.skip (Ws (aB.block (Ws ?_)))
     refine aB.dZ (fun j81 => ([(0,Cc (.pl 0 0)),(1,Iv n),(2,Iv odd),(6,Cc (.pl 21 0)),(7,Cc (.pl 23 0)),(8,Iv s1.1),(9,Iv gX.1),(34,Bv j81.1)],[(0,.row 105 [[xT bF j81.2.1,iC j81.2.2.1,iC j81.2.2.2]]),(21,.row 26 [[iC 0,sC aO]]),(22,pR 40 aG gX.2.2.2.2),(23,.row 26 [[iC n,lo 22 gX.2.2.2.2.length]])])) ?_ (fun j81 _ => ?_)
     ·refine Wr (aH (Cc (.pl 0 0)) y4 (aY fun rY YN => (aS.step (bH [.c (.pl 0 0),.c (iC 10)] (Fw.Fn.ren [(0,0)] (jq (dB.mk gX.2.1 gX.2.2.1 gX.2.2.2.1) 10 rY YN) Q) jk (gK y2) z1 y3) ⟨Q,Q,y2,J⟩ z1 Q Q (aH (Iv odd) y4 (aj LT.lss y5 (aH (Bv (decide (rY.1 < odd))) y4 (aS.split (fun rP => ?_) (fun rP => ?_))))))))
      ·refine iU (lo 22 gX.2.2.2.2.length) dP dY rP fB (ah (LT.lX Q dK) Q (gH rP Q Q) Q (fZ LT.lss rP jZ (dL (Bv (decide ((gX.2.2.2.2.length : Int) < 24))) rP y5 (On (aZ Q z8 z4)))))
      ·refine aV rP y5 (aV rP y5 (aV rP y5 (aV rP y5 (eH (Bv false) rP af (On (aZ Q z8 z4))))))
     ·refine aB.dZ (fun j86 => ([(0,Cc (.pl 0 0)),(1,Iv n),(2,Iv odd),(6,Cc (.pl 21 0)),(7,Cc (.pl 23 0)),(8,Iv s1.1),(9,Iv gX.1)],[(0,.row 105 [[xT bF j81.2.1,iC j81.2.2.1,iC j81.2.2.2]]),(21,.row 26 [[iC 0,sC aO]]),(22,pR 40 aG j86),(23,.row 26 [[iC n,lo 22 j86.length]])])) ?_ (fun j86 _ => ?_)
      ·refine aB.cond Q (fun JU => ?_) (fun JU => ?_)
       ·refine Wr (cZ (lo 22 gX.2.2.2.2.length) dP dY bG (aH (Iv s1.1) y4 (aH (Iv gX.1) y4 (fA (LT.build [(0,.tmp 37,.c (iC s1.1)),(1,.tmp 38,.c (iC gX.1))] Q Q qE dw Q Q Q) Q Q Q Q (dF (LT.eY (n := 25) (enc := aG) [(0,.tmp 39,.agg [iC s1.1,iC gX.1])] [aK.mk s1.1 gX.1] Q Q dK dw Q Q Q Q (by decide) (fun _ => Q) Q) Q Q Q (aY fun u88 Yp => (kR (LT.jg (enc := aG) Q Q Q dK dw Q (by decide) (by decide) (fun _ => Q) (iG Yp)) Q Q Q Q Q Q (ah (LT.ig Q dP) Q Q Q (bW (mO (.c (lo 22 ((gX.2.2.2.2 ++ [aK.mk s1.1 gX.1]).length))) [iC n,lo 22 ((gX.2.2.2.2 ++ [aK.mk s1.1 gX.1]).length)] Q Q tN uT) Q Q Q Q Q (On ?_))))))))))
        refine aZ Q z7 z4
       ·refine aB.skip (aZ Q z7 z4)
      ·refine aB.blk (Wr ?_)
       refine aH (Iv gX.1) y4 (aj LT.add af (aP (Iv (aJ (gX.1 + 1))) y4 (On (aZ Q z7 z4))))
    ·refine aB.fH Q ⟨Q,aU.of z6 z4⟩
   ·refine aB.blk (Wr ?_)
    refine aH (Iv oM.1) y4 (aj LT.add af (aP (Iv (aJ (oM.1 + 1))) y4 (On (aZ Q z6 z4))))
  ·refine aB.fH Q ⟨Q,aU.of z2 z4⟩
 ·refine Ws (Wr ?_)
  refine bV (bJ [iC n,lo 22 jT.2.2.2.length] Q bU ai aX) Q Q Q Q (bW (stA [iC n,lo 22 jT.2.2.2.length] Q Q ai aX) Q Q Q Q Q (On (en [(6,Cc (.pl 21 0))] [(0,.row 105 [[xT bF jT.1,iC jT.2.1,iC jT.2.2.1]]),(21,.row 26 [[iC n,lo 22 jT.2.2.2.length]]),(22,pR 40 aG jT.2.2.2)] z1 z3 (aB.ent (aU.mv 22 1 Q Q) (en [(6,Cc (.pl 21 0))] [(0,.row 105 [[xT bF jT.1,iC jT.2.1,iC jT.2.2.1]]),(1,pR 40 aG jT.2.2.2),(21,.row 26 [[iC n,lo 1 jT.2.2.2.length]])] z1 z3 (aB.ret (bD.mk (.inr Q) ⟨⟨_,_,_,Q,Q,Q,bU,aX,_,dQ ai⟩,J⟩ z2 Q ⟨⟨ak.sc,J,J⟩,J⟩ ⟨bK.kP ⟨mX mY,ak.sc,ak.sc,J⟩,bK.bg jF,J⟩)))))))
theorem H7 (x : Int) (low : Int) (high : Int) : FT Tryz.prog (vX x low high) 81 [.c (iC x),.c (iC low),.c (iC high)] [] (fun (t : Bool) => [.c (bC t)]) (fun (t : Bool) => []) [] := by
 refine FT.of [] Tryz.func81 Tryz.ntmps81 Q y2 ?_
 intro w0 U0 R0 g0
 unfold vX
 refine Ws (Wr ?_)
 refine aP (Bv false) au (On (Ws ?_))
 refine aB.dZ (fun j2 => ([(6,Bv j2)],[])) ?_ (fun j2 _ => ?_)
 ·refine Wr (aH (Iv x) y4 (aH (Iv low) y4 (aj LT.geq y5 (aH (Bv (decide (low ≤ x))) y4 (aS.split (fun hb3 => ?_) (fun hb3 => ?_))))))
  ·refine dn (Iv x) hb3 y5 (dn (Iv high) hb3 y5 (fZ LT.leq hb3 y6 (dL (Bv (decide (x ≤ high))) hb3 y5 (aP (Bv (decide (x ≤ high))) y4 (On (aZ Q z1 J))))))
  ·refine aV hb3 y5 (aV hb3 y5 (aV hb3 y5 (eH (Bv false) hb3 af (aP (Bv false) y4 (On (aZ Q z1 J))))))
 ·refine aB.ret (bD.mk (.inr Q) z1 J Q ⟨ak.sc,J⟩ J)
theorem UD (a : aK) (b : aK) : FT Tryz.prog (yD a b) 82 [.agg [iC a.A,iC a.B],.agg [iC b.A,iC b.B]] [] (fun (t : Bool) => [.c (bC t)]) (fun (t : Bool) => []) [] := by
 refine FT.of [] Tryz.func82 Tryz.ntmps82 Q y2 ?_
 intro w0 U0 R0 g0
 unfold yD
 refine Ws (Wr ?_)
 refine dF (LT.box (n := 21) (v := (.agg [iC a.A,iC a.B])) Q dM (by exact Q)) Q Q Q (dF (LT.box (n := 22) (v := (.agg [iC b.A,iC b.B])) Q dM (by exact Q)) Q Q Q (aP (Bv false) au (On (Ws ?_))))
 refine aB.dZ (fun j3 => ([(4,Bv j3)],[])) ?_ (fun j3 _ => ?_)
 ·refine Wr (cZ (iC a.A) iO bM bG (cZ (iC b.A) iO bM bG (aj LT.lss y5 (aH (Bv (decide (a.A < b.A))) y4 (aS.split (fun hb4 => ?_) (fun hb4 => ?_))))))
  ·refine aV hb4 y5 (aV hb4 y5 (aV hb4 y5 (aV hb4 y5 (aV hb4 y5 (aV hb4 y5 (Oj Q Q Q Q (Oj Q Q Q Q (Oj Q Q Q Q (Oj Q Q Q Q (Oj Q Q Q Q (aV hb4 y5 ?_)))))))))))
   refine dL (Bv true) hb4 af (aP (Bv true) y4 (On (aZ Q z1 J)))
  ·refine iU (iC a.A) iO bM hb4 fB (iU (iC b.A) iO bM hb4 fB (fZ LT.eql hb4 y6 (dn (Bv (a.A == b.A)) hb4 y5 (aS.split (fun hb5 => ?_) (fun hb5 => ?_)))))
   ·refine iU (iC a.B) jd bM hb5 fB (iU (iC b.B) jd bM hb5 fB (fZ LT.leq hb5 y6 (fA (LT.oH (v := (Bv (decide (a.B ≤ b.B)))) Q hb5) Q Q (gH hb4 Q Q) Q (eH (Bv (decide (a.B ≤ b.B))) hb4 y5 (aP (Bv (decide (a.B ≤ b.B))) y4 (On (aZ Q z1 J)))))))
   ·refine aV hb5 y5 (aV hb5 y5 (aV hb5 y5 (aV hb5 y5 (aV hb5 y5 (fA (LT.oG (v := (Bv false)) Q hb5) Q y2 (gH hb4 Q Q) Q (eH (Bv false) hb4 y5 (aP (Bv false) y4 (On (aZ Q z1 J)))))))))
 ·refine aB.ret (bD.mk (.inr Q) z1 J Q ⟨ak.sc,J⟩ J)
theorem sH (g : aQ) : FT Tryz.prog (o6 g) 15 [.agg [iC g.aF,xF aG g.aA]] [] (fun (t : Bool) => [.c (bC t)]) (fun (t : Bool) => []) [] := by
 refine FT.of [] Tryz.func15 Tryz.ntmps15 Q y2 ?_
 intro w0 U0 R0 g0
 unfold o6
 refine Ws (Wr ?_)
 refine dF (LT.box (n := 21) (v := (.agg [iC g.aF,xF aG g.aA])) Q aX (by exact Q)) Q Q Q (aP (Bv false) au (On (Ws (Ws ?_))))
 refine aB.dZ (fun j3 => ([(1,Cc (.pl 21 0)),(14,Bv j3)],[(21,.row 26 [[iC g.aF,xF aG g.aA]])])) ?_ (fun j3 _ => ?_)
 ·refine Wr (cZ (iC g.aF) iq bM bG (aY fun r4 hr4 => (aS.pure (bH [.c (iC g.aF),.c (iC 1),.c (iC 8)] (H7 g.aF 1 8 r4 hr4) FH (rq y3) J y3) ⟨Q,Q,y2,y2,J⟩ J Q Q (ah (LT.not Q) Q Q Q (aH (Bv (!r4)) y4 (aS.split (fun hb5 => ?_) (fun hb5 => ?_)))))))
  ·refine aV hb5 y5 (aV hb5 y5 (aV hb5 y5 (aV hb5 y5 (dL (Bv true) hb5 af (On (aZ Q z2 z1))))))
  ·refine iU (xF aG g.aA) dP dY hb5 fB (ah (LT.gY Q dK) Q (gH hb5 Q Q) Q (fZ LT.gtr hb5 jZ (eH (Bv (decide (24 < (g.aA.length : Int)))) hb5 y5 (On (aZ Q z2 z1)))))
 ·refine aB.cond Q (fun hc6 => ?_) (fun hc6 => ?_)
  ·refine Ws (Wr ?_)
   refine aP (Bv false) au (On (aB.ret (bD.mk (.inr Q) z1 J Q ⟨ak.sc,J⟩ J)))
  ·refine aB.skip (Ws (Ws (Wr ?_)))
   refine aP (Iv 0) au (On (aB.block ?_))
   refine aB.oC (id := 0) (Dq g) (fun s7 => ([(1,Cc (.pl 21 0)),(3,Iv s7)],[(21,.row 26 [[iC g.aF,xF aG g.aA]])])) (fun BR => ([],[])) (bD Tryz.prog Tryz.f15.results.toList [] [] (fun (t : Bool) => [.c (bC t)]) (fun (t : Bool) => [])) ?_ (aU.of z2 z1) Q (fun BR _ => ?_) (by intro r t σ m ht hk; injection ht with ht; subst ht; exact hk)
   ·intro s7
    unfold Dq
    refine Ws (Ws (Wr ?_))
    refine aH (Iv s7) y4 (cZ (xF aG g.aA) dP dY bG (ah (LT.gY Q dK) Q Q Q (aj LT.lss y5 (On (aB.cond Q (fun CG => ?_) (fun CG => ?_))))))
    ·refine aB.skip (Ws (aB.block (Ws (Wr ?_))))
     refine cZ (xF aG g.aA) dP dY bG (aH (Iv s7) y4 (aY fun fP KA => (fA (LT.fO (enc := aG) Q iJ KA dM) Q Q Q Q (ah (LT.ni Q jO (dQ gV) (by exact dM.symm)) Q Q Q (dA (LT.alloc (n := 23) (cells := [iC 0,iC 0]) Q dw Q Q Q) Q Q (bW (stA [iC fP.A,iC fP.B] Q Q gV dM) Q Q Q Q Q (On (Ws ?_))))))))
     refine aB.dZ (fun j49 => ([(1,Cc (.pl 21 0)),(3,Iv s7),(58,Bv j49)],[(21,.row 26 [[iC g.aF,xF aG g.aA]])])) ?_ (fun j49 _ => ?_)
     ·refine en [(1,Cc (.pl 21 0)),(3,Iv s7),(4,Cc (.pl 23 0))] [(21,.row 26 [[iC g.aF,xF aG g.aA]]),(23,.row 40 [[iC fP.A,iC fP.B]])] z3 z2 (aB.draw mixed (fD (iC fP.A) iO bM bG (jG LT.lss af (bY (Bv (decide (fP.A < 0))) y4 (aT.split (fun jQ => ?_) (fun jQ => ?_))))))
      ·refine ax jQ y3 (ax jQ y3 (ax jQ y3 (ax jQ y3 (ax jQ y3 (jE (Bv true) jQ af (bY (Bv true) y4 (aW y3 (aW y3 (aW y3 (aW y3 (aW y3 ?_)))))))))))
       refine jE (Bv true) Q af (bY (Bv true) y4 (aW y3 (aW y3 (aW y3 (aW y3 (aW y3 (aW y3 (aW y3 (aW y3 (aW y3 (aW y3 ?_)))))))))))
       refine aW y3 (aW y3 (aW y3 (jE (Bv true) Q af (aT.nil (by kernel_rfl) (aZ Q z3 z1)))))
      ·refine kT (iC fP.A) iO bM jQ fB (kT (iC fP.B) jd bM jQ fB (ku LT.geq jQ y6 (jX (Bv (decide (fP.B ≤ fP.A))) jQ y5 (bY (Bv (decide (fP.B ≤ fP.A))) y4 (aT.split (fun jR => ?_) (fun jR => ?_))))))
       ·refine ax jR y3 (ax jR y3 (ax jR y3 (ax jR y3 (ax jR y3 (jE (Bv true) jR af (bY (Bv true) y4 (aW y3 (aW y3 (aW y3 (aW y3 (aW y3 ?_)))))))))))
        refine aW y3 (aW y3 (aW y3 (aW y3 (aW y3 (aW y3 (aW y3 (aW y3 (jE (Bv true) Q af (aT.nil (by kernel_rfl) (aZ Q z3 z1))))))))))
       ·refine kT (iC fP.B) jd bM jR fB (kT (iC g.aF) iq bM jR fB (ku LT.geq jR y6 (jX (Bv (decide (g.aF ≤ fP.B))) jR y5 (bY (Bv (decide (g.aF ≤ fP.B))) y4 (aT.split (fun jv => ?_) (fun jv => ?_))))))
        ·refine ax jv y3 (ax jv y3 (ax jv y3 (aW y3 (aW y3 (aW y3 (aW y3 (aW y3 (aW y3 (aW y3 (aW y3 (aW y3 ?_)))))))))))
         refine ax jv y3 (jE (Bv true) jv af (aT.nil (by kernel_rfl) (aZ Q z3 z1)))
        ·refine jD (Iv s7) jv y5 (ku LT.gtr jv jZ (jD (Bv (decide (0 < s7))) jv y5 (aT.split (fun iD => ?_) (fun iD => ?_))))
         ·refine kT (xF aG g.aA) dP dY iD fB (jD (Iv s7) iD y5 (ku LT.sub iD jZ (aT.bind fun x54 zJ => (eG (LT.fO (enc := aG) Q iJ zJ dM) Q Q (gH iD Q Q) Q (bf (LT.ni Q jO (dQ gV) (by exact dM.symm)) Q (gH iD Q Q) Q (fU (bJ [iC fP.A,iC fP.B] Q jO gV dM) Q Q (gH iD Q Q) Q (aT.bind fun oI Ci => (aT.pure (bH [.agg [iC x54.A,iC x54.B],.agg [iC fP.A,iC fP.B]] (UD x54 fP oI Ci) OV (EW y4) J y3) z3 J (gH iD Q Q) Q (bf (LT.not Q) Q (gH iD Q Q) Q (eG (LT.oH (v := (Bv (!oI))) Q iD) Q Q (gH jv Q Q) Q ?_))))))))))
          refine jX (Bv (!oI)) jv y5 (aT.nil (by kernel_rfl) (aZ Q z3 z1))
         ·refine ax iD y3 (ax iD y3 (ax iD y3 (ax iD y3 (ax iD y3 (ax iD y3 (ax iD y3 (ax iD y3 (ax iD y3 (eG (LT.oG (v := (Bv false)) Q iD) Q y2 (gH jv Q Q) Q (jX (Bv false) jv y5 (aT.nil (by kernel_rfl) ?_)))))))))))
          refine aZ Q z3 z1
     ·refine aB.cond Q (fun CP => ?_) (fun CP => ?_)
      ·refine Ws (Wr ?_)
       refine aP (Bv false) au (On (aB.ret ⟨Q,bD.mk (.inr Q) z1 J Q ⟨ak.sc,J⟩ J⟩))
      ·refine aB.skip (aB.blk (Wr ?_))
       refine aH (Iv s7) y4 (aj LT.add af (aP (Iv (aJ (s7 + 1))) y4 (On (aZ Q z2 z1))))
    ·refine aB.fH Q ⟨Q,aU.of J J⟩
   ·refine Ws (Wr ?_)
    refine aP (Bv true) au (On (aB.ret (bD.mk (.inr Q) z1 J Q ⟨ak.sc,J⟩ J)))
end Go.Proofs.YtdmlaldifbmkpaaGreat
end
section
set_option linter.unusedVariables false
set_option linter.unusedSimpArgs false
set_option linter.unnecessarySimpa false
set_option maxRecDepth 100000
set_option maxHeartbeats 8000000
open Go Go.Fw
namespace Go.Proofs.YtdmlaldifbmkpaaGreat
theorem MV (g : aQ) : FT Tryz.prog (yE g) 88 [.agg [iC g.aF,xF aG g.aA]] [] (fun (t : aQ) => [.agg [iC t.aF,lo 0 t.aA.length]]) (fun (t : aQ) => [(0,pR 40 aG t.aA)]) [0] := by
 refine FT.of [] Tryz.func88 Tryz.ntmps88 Q y2 ?_
 intro w0 U0 R0 g0
 unfold yE
 refine Ws (Wr ?_)
 refine dF (LT.box (n := 21) (v := (.agg [iC g.aF,xF aG g.aA])) Q aX (by exact Q)) Q Q Q (dA (LT.alloc (n := 22) (cells := [iC 0,sC aO]) Q fK Q Q Q) Q Q (On (Ws (aB.draw mixed ?_))))
 refine fD (iC g.aF) iq bM bG (qy (LT.eY (n := 23) (enc := aG) [] ([] : List aK) Q Q dK dw Q Q Q Q (by decide) (fun _ => Q) Q) Q Q (fD (xF aG g.aA) dP dY bG (aT.bind fun u1 hu1 => (ji (LT.sF (enc := aG) Q  Q dK dw Q (by decide) (by decide) (fun _ => Q) (iG hu1)) Q Q Q Q Q (eG (LT.build [(0,.tmp 4,.c (iC g.aF)),(1,.tmp 8,.c (lo 23 ((([] : List aK) ++ g.aA).length)))] Q Q uN fK Q Q Q) Q Q Q Q (ji (stA [iC g.aF,lo 23 ((([] : List aK) ++ g.aA).length)] Q Q ai aX) Q Q Q Q Q (aT.nil (by kernel_rfl) (en [(2,Cc (.pl 22 0))] [(22,.row 26 [[iC g.aF,lo 23 ((([] : List aK) ++ g.aA).length)]]),(23,pR 40 aG (([] : List aK) ++ g.aA))] z1 z2 (aB.ent (aU.mv 23 0 Q Q) ?_)))))))))
 refine en [(2,Cc (.pl 22 0))] [(0,pR 40 aG (([] : List aK) ++ g.aA)),(22,.row 26 [[iC g.aF,lo 0 ((([] : List aK) ++ g.aA).length)]])] z1 z2 (aB.ret (bD.mk (.inr Q) ⟨⟨_,_,_,Q,Q,Q,bU,aX,_,dQ ai⟩,J⟩ z1 Q ⟨⟨ak.sc,J,J⟩,J⟩ ⟨bK.bg jF,J⟩))
theorem uV (g : aQ) (x : aK) : FT Tryz.prog (qB g x) 90 [.agg [iC g.aF,xF aG g.aA],.agg [iC x.A,iC x.B]] [] (fun (t : aQ) => [.agg [iC t.aF,lo 0 t.aA.length]]) (fun (t : aQ) => [(0,pR 40 aG t.aA)]) [0] := by
 refine FT.of [] Tryz.func90 Tryz.ntmps90 Q y2 ?_
 intro w0 U0 R0 g0
 unfold qB
 refine Ws (Wr ?_)
 refine dF (LT.box (n := 21) (v := (.agg [iC g.aF,xF aG g.aA])) Q aX (by exact Q)) Q Q Q (dF (LT.box (n := 22) (v := (.agg [iC x.A,iC x.B])) Q dM (by exact Q)) Q Q Q (dA (LT.alloc (n := 23) (cells := [iC 0,sC aO]) Q fK Q Q Q) Q Q (On (Ws (Wr ?_)))))
 refine cZ (iC g.aF) iq bM bG (dA (LT.eY (n := 24) (enc := aG) [] ([] : List aK) Q Q dK dw Q Q Q Q (by decide) (fun _ => Q) Q) Q Q (fA (LT.build [(0,.tmp 9,.c (iC g.aF)),(1,.tmp 10,.c (lo 24 (([] : List aK).length)))] Q Q uN fK Q Q Q) Q Q Q Q (dA (LT.alloc (n := 25) (cells := [iC 0,sC aO]) Q fK Q Q Q) Q Q (bW (stA [iC g.aF,lo 24 (([] : List aK).length)] Q Q ai aX) Q Q Q Q Q (On (Ws ?_))))))
 refine en [(2,Cc (.pl 21 0)),(3,Cc (.pl 22 0)),(4,Cc (.pl 23 0)),(5,Cc (.pl 25 0))] [(21,.row 26 [[iC g.aF,xF aG g.aA]]),(22,.row 40 [[iC x.A,iC x.B]]),(23,.row 26 [[iC 0,sC aO]]),(24,pR 40 aG ([] : List aK)),(25,.row 26 [[iC g.aF,lo 24 (([] : List aK).length)]])] z4 z5 (Wr (aP (Bv false) au (On (Ws (Ws (Wr ?_))))))
 refine aP (Iv 0) au (On (aB.block ?_))
 refine aB.iy (id := 0) (uI g x) (fun s1 => ([(2,Cc (.pl 21 0)),(3,Cc (.pl 22 0)),(4,Cc (.pl 23 0)),(5,Cc (.pl 25 0)),(6,Bv s1.1),(7,Iv s1.2.1)],[(21,.row 26 [[iC g.aF,xF aG g.aA]]),(22,.row 40 [[iC x.A,iC x.B]]),(23,.row 26 [[iC 0,sC aO]]),(24,pR 40 aG s1.2.2),(25,.row 26 [[iC g.aF,lo 24 s1.2.2.length]])])) (fun pK => ([(3,Cc (.pl 22 0)),(4,Cc (.pl 23 0)),(5,Cc (.pl 25 0)),(6,Bv pK.1)],[(22,.row 40 [[iC x.A,iC x.B]]),(23,.row 26 [[iC 0,sC aO]]),(24,pR 40 aG pK.2),(25,.row 26 [[iC g.aF,lo 24 pK.2.length]])])) ?_ (aU.of z6 z5) Q (fun pK _ => ?_)
 ·intro s1
  unfold uI
  refine Ws (Ws (Wr ?_))
  refine aH (Iv s1.2.1) y4 (cZ (xF aG g.aA) dP dY bG (ah (LT.gY Q dK) Q Q Q (aj LT.lss y5 (On (aB.cond Q (fun Bq => ?_) (fun Bq => ?_))))))
  ·refine aB.skip (Ws (aB.block (Ws (Ws ?_))))
   refine aB.dZ (fun j34 => ([(2,Cc (.pl 21 0)),(3,Cc (.pl 22 0)),(4,Cc (.pl 23 0)),(5,Cc (.pl 25 0)),(6,Bv s1.1),(7,Iv s1.2.1),(30,Bv j34)],[(21,.row 26 [[iC g.aF,xF aG g.aA]]),(22,.row 40 [[iC x.A,iC x.B]]),(23,.row 26 [[iC 0,sC aO]]),(24,pR 40 aG s1.2.2),(25,.row 26 [[iC g.aF,lo 24 s1.2.2.length]])])) ?_ (fun j34 _ => ?_)
   ·refine aB.draw mixed (bY (Bv s1.1) y4 (bf (LT.not Q) Q Q Q (bY (Bv (!s1.1)) y4 (aT.split (fun nH => ?_) (fun nH => ?_)))))
    ·refine kT (xF aG g.aA) dP dY nH fB (jD (Iv s1.2.1) nH y5 (aT.bind fun yh Fg => (eG (LT.fO (enc := aG) Q iJ Fg dM) Q Q (gH nH Q Q) Q (bf (LT.ni Q jO (dQ gV) (by exact dM.symm)) Q (gH nH Q Q) Q (fU (bJ [iC x.A,iC x.B] Q jO gV dM) Q Q (gH nH Q Q) Q (aT.bind fun Gt YA => (aT.pure (bH [.agg [iC yh.A,iC yh.B],.agg [iC x.A,iC x.B]] (UD yh x Gt YA) OV (EW y4) J y3) z3 J (gH nH Q Q) Q (bf (LT.not Q) Q (gH nH Q Q) Q (jE (Bv (!Gt)) nH y5 (aT.nil (by kernel_rfl) ?_))))))))))
     refine aZ Q z7 z5
    ·refine ax nH y3 (ax nH y3 (ax nH y3 (ax nH y3 (ax nH y3 (ax nH y3 (ax nH y3 (ax nH y3 (jX (Bv false) nH af (aT.nil (by kernel_rfl) (aZ Q z7 z5))))))))))
   ·refine aB.dZ (fun j40 => ([(2,Cc (.pl 21 0)),(3,Cc (.pl 22 0)),(4,Cc (.pl 23 0)),(5,Cc (.pl 25 0)),(6,Bv j40.1),(7,Iv s1.2.1)],[(21,.row 26 [[iC g.aF,xF aG g.aA]]),(22,.row 40 [[iC x.A,iC x.B]]),(23,.row 26 [[iC 0,sC aO]]),(24,pR 40 aG j40.2),(25,.row 26 [[iC g.aF,lo 24 j40.2.length]])])) ?_ (fun j40 _ => ?_)
    ·refine aB.cond Q (fun CG => ?_) (fun CG => ?_)
     ·refine Ws (Wr ?_)
      refine cZ (lo 24 s1.2.2.length) dP dY bG (bV (bJ [iC x.A,iC x.B] Q jO gV dM) Q Q Q Q (dF (LT.eY (n := 27) (enc := aG) [(0,.tmp 33,.agg [iC x.A,iC x.B])] [x] Q Q dK dw Q Q Q Q (by decide) (fun _ => Q) Q) Q Q Q (aY fun u42 Yh => (kR (LT.jg (enc := aG) Q Q Q dK dw Q (by decide) (by decide) (fun _ => Q) (iG Yh)) Q Q Q Q Q Q (ah (LT.ig Q dP) Q Q Q (bW (mO (.c (lo 24 ((s1.2.2 ++ [x]).length))) [iC g.aF,lo 24 ((s1.2.2 ++ [x]).length)] Q Q tN uT) Q Q Q Q Q (On (en [(2,Cc (.pl 21 0)),(3,Cc (.pl 22 0)),(4,Cc (.pl 23 0)),(5,Cc (.pl 25 0)),(7,Iv s1.2.1)] [(21,.row 26 [[iC g.aF,xF aG g.aA]]),(22,.row 40 [[iC x.A,iC x.B]]),(23,.row 26 [[iC 0,sC aO]]),(24,pR 40 aG (s1.2.2 ++ [x])),(25,.row 26 [[iC g.aF,lo 24 ((s1.2.2 ++ [x]).length)]])] z5 z5 (Wr (aP (Bv true) au ?_))))))))))
      refine On (aZ Q z6 z5)
     ·refine aB.skip (aZ Q z6 z5)
    ·refine aB.draw mixed (fD (lo 24 j40.2.length) dP dY bG (fD (xF aG g.aA) dP dY bG (bY (Iv s1.2.1) y4 (aT.bind fun x43 ZF => (eG (LT.fO (enc := aG) Q iJ ZF dM) Q Q Q Q (bf (LT.ni Q jO (dQ gV) (by exact dM.symm)) Q Q Q (BL (LT.eY (n := 28) (enc := aG) [(0,.tmp 43,.agg [iC x43.A,iC x43.B])] [x43] Q Q dK dw Q Q Q Q (by decide) (fun _ => Q) Q) Q Q Q (aT.bind fun u44 Yi => (BM (LT.jg (enc := aG) Q Q Q dK dw Q (by decide) (by decide) (fun _ => Q) (iG Yi)) Q Q Q Q Q Q ?_)))))))))
     refine bf (LT.ig Q dP) Q Q Q (ji (mO (.c (lo 24 ((j40.2 ++ [x43]).length))) [iC g.aF,lo 24 ((j40.2 ++ [x43]).length)] Q Q tN uT) Q Q Q Q Q (aT.nil (by kernel_rfl) (aB.blk (en [(2,Cc (.pl 21 0)),(3,Cc (.pl 22 0)),(4,Cc (.pl 23 0)),(5,Cc (.pl 25 0)),(6,Bv j40.1),(7,Iv s1.2.1)] [(21,.row 26 [[iC g.aF,xF aG g.aA]]),(22,.row 40 [[iC x.A,iC x.B]]),(23,.row 26 [[iC 0,sC aO]]),(24,pR 40 aG (j40.2 ++ [x43])),(25,.row 26 [[iC g.aF,lo 24 ((j40.2 ++ [x43]).length)]])] z6 z5 (Wr (aH (Iv s1.2.1) y4 (aj LT.add af (aP (Iv (aJ (s1.2.1 + 1))) y4 (On (aZ Q z6 z5))))))))))
  ·refine aB.fH Q ⟨Q,aU.of z4 z4⟩
 ·refine Ws (Ws (Wr ?_))
  refine aH (Bv pK.1) y4 (ah (LT.not Q) Q Q Q (On (aB.dZ (fun j47 => ([(4,Cc (.pl 23 0)),(5,Cc (.pl 25 0))],[(23,.row 26 [[iC 0,sC aO]]),(24,pR 40 aG j47),(25,.row 26 [[iC g.aF,lo 24 j47.length]])])) ?_ (fun j47 _ => ?_))))
  ·refine aB.cond Q (fun JR => ?_) (fun JR => ?_)
   ·refine Wr (cZ (lo 24 pK.2.length) dP dY bG (bV (bJ [iC x.A,iC x.B] Q jO gV dM) Q Q Q Q (dF (LT.eY (n := 29) (enc := aG) [(0,.tmp 51,.agg [iC x.A,iC x.B])] [x] Q Q dK dw Q Q Q Q (by decide) (fun _ => Q) Q) Q Q Q (aY fun u49 Yk => (kR (LT.jg (enc := aG) Q Q Q dK dw Q (by decide) (by decide) (fun _ => Q) (iG Yk)) Q Q Q Q Q Q (ah (LT.ig Q dP) Q Q Q (bW (mO (.c (lo 24 ((pK.2 ++ [x]).length))) [iC g.aF,lo 24 ((pK.2 ++ [x]).length)] Q Q tN uT) Q Q Q Q Q (On (aZ Q z2 z3)))))))))
   ·refine aB.skip (aZ Q z2 z3)
  ·refine Ws (Wr ?_)
   refine bV (bJ [iC g.aF,lo 24 j47.length] Q bU ai aX) Q Q Q Q (bW (stA [iC g.aF,lo 24 j47.length] Q Q ai aX) Q Q Q Q Q (On (en [(4,Cc (.pl 23 0))] [(23,.row 26 [[iC g.aF,lo 24 j47.length]]),(24,pR 40 aG j47)] z1 z2 (aB.ent (aU.mv 24 0 Q Q) (en [(4,Cc (.pl 23 0))] [(0,pR 40 aG j47),(23,.row 26 [[iC g.aF,lo 0 j47.length]])] z1 z2 (aB.ret (bD.mk (.inr Q) ⟨⟨_,_,_,Q,Q,Q,bU,aX,_,dQ ai⟩,J⟩ z1 Q ⟨⟨ak.sc,J,J⟩,J⟩ ⟨bK.bg jF,J⟩)))))))
theorem H6 (g : aQ) (a : Int) (b : Int) : FT Tryz.prog (vP g a b) 22 [.agg [iC g.aF,xF aG g.aA],.c (iC a),.c (iC b)] [] (fun (t : (aQ × Bool)) => [.agg [iC t.1.aF,lo 0 t.1.aA.length],.c (bC t.2)]) (fun (t : (aQ × Bool)) => [(0,pR 40 aG t.1.aA)]) [0] := by
 refine FT.of [] Tryz.func22 Tryz.ntmps22 Q y2 ?_
 intro w0 U0 R0 g0
 unfold vP
 refine Ws (Wr ?_)
 refine dF (LT.box (n := 21) (v := (.agg [iC g.aF,xF aG g.aA])) Q aX (by exact Q)) Q Q Q (dA (LT.alloc (n := 22) (cells := [iC 0,sC aO]) Q fK Q Q Q) Q Q (aP (Bv false) au (On (Ws (Ws ?_)))))
 refine aB.dZ (fun j8 => ([(1,Iv a),(2,Iv b),(3,Cc (.pl 21 0)),(6,Cc (.pl 22 0)),(41,Bv j8)],[(21,.row 26 [[iC g.aF,xF aG g.aA]]),(22,.row 26 [[iC 0,sC aO]])])) ?_ (fun j8 _ => ?_)
 ·refine Wr (bV (bJ [iC g.aF,xF aG g.aA] Q bU ai aX) Q Q Q Q (aY fun r9 xI => (aS.pure (bH [.agg [iC g.aF,xF aG g.aA]] (sH g r9 xI) rE (jL y2) J y3) z2 J Q Q (ah (LT.not Q) Q Q Q (aH (Bv (!r9)) y4 (aS.split (fun jI => ?_) (fun jI => ?_)))))))
  ·refine aV jI y5 (aV jI y5 (dL (Bv true) jI af (aH (Bv true) y4 (bT y5 (bT y5 (dL (Bv true) Q af (aH (Bv true) y4 (bT y5 (bT y5 (bT y5 (bT y5 ?_)))))))))))
   refine dL (Bv true) Q af (aH (Bv true) y4 (bT y5 (bT y5 (bT y5 (bT y5 (dL (Bv true) Q af (aH (Bv true) y4 (bT y5 (bT y5 (bT y5 (dL (Bv true) Q af ?_)))))))))))
   refine aH (Bv true) y4 (bT y5 (bT y5 (bT y5 (bT y5 (dL (Bv true) Q af (On (aZ Q z5 z2)))))))
  ·refine dn (Iv a) jI y5 (fZ LT.lss jI jZ (eH (Bv (decide (a < 0))) jI y5 (aH (Bv (decide (a < 0))) y4 (aS.split (fun gJ => ?_) (fun gJ => ?_)))))
   ·refine aV gJ y5 (aV gJ y5 (dL (Bv true) gJ af (aH (Bv true) y4 (bT y5 (bT y5 (bT y5 (bT y5 (dL (Bv true) Q af (aH (Bv true) y4 (bT y5 (bT y5 ?_)))))))))))
    refine bT y5 (bT y5 (dL (Bv true) Q af (aH (Bv true) y4 (bT y5 (bT y5 (bT y5 (dL (Bv true) Q af (aH (Bv true) y4 (bT y5 (bT y5 (bT y5 ?_)))))))))))
    refine bT y5 (dL (Bv true) Q af (On (aZ Q z5 z2)))
   ·refine dn (Iv b) gJ y5 (fZ LT.lss gJ jZ (eH (Bv (decide (b < 0))) gJ y5 (aH (Bv (decide (b < 0))) y4 (aS.split (fun l9 => ?_) (fun l9 => ?_)))))
    ·refine aV l9 y5 (aV l9 y5 (aV l9 y5 (aV l9 y5 (dL (Bv true) l9 af (aH (Bv true) y4 (bT y5 (bT y5 (bT y5 (bT y5 (dL (Bv true) Q af (aH (Bv true) y4 ?_)))))))))))
     refine bT y5 (bT y5 (bT y5 (dL (Bv true) Q af (aH (Bv true) y4 (bT y5 (bT y5 (bT y5 (bT y5 (dL (Bv true) Q af (On (aZ Q z5 z2)))))))))))
    ·refine dn (Iv a) l9 y5 (iU (iC g.aF) iq bM l9 fB (fZ LT.geq l9 y6 (eH (Bv (decide (g.aF ≤ a))) l9 y5 (aH (Bv (decide (g.aF ≤ a))) y4 (aS.split (fun nD => ?_) (fun nD => ?_))))))
     ·refine aV nD y5 (aV nD y5 (aV nD y5 (aV nD y5 (dL (Bv true) nD af (aH (Bv true) y4 (bT y5 (bT y5 (bT y5 (dL (Bv true) Q af (aH (Bv true) y4 (bT y5 ?_)))))))))))
      refine bT y5 (bT y5 (bT y5 (dL (Bv true) Q af (On (aZ Q z5 z2)))))
     ·refine dn (Iv b) nD y5 (iU (iC g.aF) iq bM nD fB (fZ LT.geq nD y6 (eH (Bv (decide (g.aF ≤ b))) nD y5 (aH (Bv (decide (g.aF ≤ b))) y4 (aS.split (fun jJ => ?_) (fun jJ => ?_))))))
      ·refine aV jJ y5 (aV jJ y5 (aV jJ y5 (dL (Bv true) jJ af (aH (Bv true) y4 (bT y5 (bT y5 (bT y5 (bT y5 (dL (Bv true) Q af (On (aZ Q z5 z2)))))))))))
      ·refine dn (Iv a) jJ y5 (dn (Iv b) jJ y5 (fZ LT.eql jJ y6 (eH (Bv (a == b)) jJ y5 (aH (Bv (a == b)) y4 (aS.split (fun iw => ?_) (fun iw => ?_))))))
       ·refine aV iw y5 (aV iw y5 (aV iw y5 (aV iw y5 (dL (Bv true) iw af (On (aZ Q z5 z2))))))
       ·refine iU (xF aG g.aA) dP dY iw fB (ah (LT.gY Q dK) Q (gH iw Q Q) Q (fZ LT.geq iw jZ (eH (Bv (decide (24 ≤ (g.aA.length : Int)))) iw y5 (On (aZ Q z5 z2)))))
 ·refine aB.cond Q (fun hc16 => ?_) (fun hc16 => ?_)
  ·refine Ws (Wr ?_)
   refine bV (bJ [iC g.aF,xF aG g.aA] Q bU ai aX) Q Q Q Q (aY fun lS Jg => (aS.step (bH [.agg [iC g.aF,xF aG g.aA]] (Fw.Fn.ren [(0,25)] (MV g lS Jg) Q) Ij (jL y2) J y3) z2 J Q Q (bW (stA [iC lS.aF,lo 25 lS.aA.length] Q Q ai aX) Q Q Q Q Q (aP (Bv false) au (On (en [(6,Cc (.pl 22 0)),(7,Bv false)] [(22,.row 26 [[iC lS.aF,lo 25 lS.aA.length]]),(25,pR 40 aG lS.aA)] z2 z2 (aB.ent (aU.mv 25 0 Q Q) (en [(6,Cc (.pl 22 0)),(7,Bv false)] [(0,pR 40 aG lS.aA),(22,.row 26 [[iC lS.aF,lo 0 lS.aA.length]])] z2 z2 (aB.ret (bD.mk (.inr Q) ⟨⟨_,_,_,Q,Q,Q,bU,aX,_,dQ ai⟩,Q,J⟩ z1 Q ⟨⟨ak.sc,J,J⟩,ak.sc,J⟩ ⟨bK.bg jF,J⟩))))))))))
  ·refine aB.skip (Ws (Wr ?_))
   refine bV (bJ [iC g.aF,xF aG g.aA] Q bU ai aX) Q Q Q Q (aH (Iv a) y4 (aH (Iv b) y4 (aj LT.min y5 (aH (Iv a) y4 (aH (Iv b) y4 (aj LT.max y5 (fA (LT.build [(0,.tmp 47,.c (iC (if b < a then b else a))),(1,.tmp 50,.c (iC (if a < b then b else a)))] Q Q qE dw Q Q Q) Q Q Q Q (aY fun fJ qi => (aS.step (bH [.agg [iC g.aF,xF aG g.aA],.agg [iC (if b < a then b else a),iC (if a < b then b else a)]] (Fw.Fn.ren [(0,27)] (uV g (aK.mk (if b < a then b else a) (if a < b then b else a)) fJ qi) Q) sV (EW y4) J y3) z3 J Q Q (bW (stA [iC fJ.aF,lo 27 fJ.aA.length] Q Q ai aX) Q Q Q Q Q (aP (Bv true) au ?_)))))))))))
   refine On (en [(6,Cc (.pl 22 0)),(7,Bv true)] [(22,.row 26 [[iC fJ.aF,lo 27 fJ.aA.length]]),(27,pR 40 aG fJ.aA)] z2 z2 (aB.ent (aU.mv 27 0 Q Q) (en [(6,Cc (.pl 22 0)),(7,Bv true)] [(0,pR 40 aG fJ.aA),(22,.row 26 [[iC fJ.aF,lo 0 fJ.aA.length]])] z2 z2 (aB.ret (bD.mk (.inr Q) ⟨⟨_,_,_,Q,Q,Q,bU,aX,_,dQ ai⟩,Q,J⟩ z1 Q ⟨⟨ak.sc,J,J⟩,ak.sc,J⟩ ⟨bK.bg jF,J⟩)))))
theorem aBz (c : dB) (list : (List Int)) : FT Tryz.prog (D5 c list) 135 [.c (.pl 0 0),.c (xF aC list)] [(0,.row 105 [[xT bF c.b,iC c.i,iC c.h]])] (fun (t : (Int × dB)) => [.c (iC t.1)]) (fun (t : (Int × dB)) => [(0,.row 105 [[xT bF t.2.b,iC t.2.i,iC t.2.h]])]) [] := by
 refine FT.of [0] Tryz.func135 Tryz.ntmps135 Q y2 ?_
 intro w0 U0 R0 g0
 unfold D5
 refine Ws (Wr ?_)
 refine aP (Iv 0) au (On (Ws (Wr ?_)))
 refine aH (Cc (xF aC list)) y4 (aH (Cc (.pl 0 0)) y4 (aH (Cc (xF aC list)) y4 (ah (LT.gY Q dO) Q Q Q (aY fun r1 hr1 => (aS.step (bH [.c (.pl 0 0),.c (iC (list.length : Int))] (Fw.Fn.ren [(0,0)] (jq c (list.length : Int) r1 hr1) Q) jk (gK y2) z1 y3) z3 z1 Q Q (aY fun x2 hx2 => (fA (LT.fO (enc := aC) Q fV hx2 jB) Q Q Q Q (ah (LT.iP Q bM) Q Q Q (aP (Iv x2) y4 (On (aB.ret (bD.mk (.inr Q) z1 z1 Q ⟨ak.sc,J⟩ ⟨bK.kP ⟨mX mY,ak.sc,ak.sc,J⟩,J⟩))))))))))))
theorem aBy (c : dB) (n : Int) : FT Tryz.prog (Dz c n) 147 [.c (.pl 0 0),.c (iC n)] [(0,.row 105 [[xT bF c.b,iC c.i,iC c.h]])] (fun (t : (Bool × dB)) => [.c (bC t.1)]) (fun (t : (Bool × dB)) => [(0,.row 105 [[xT bF t.2.b,iC t.2.i,iC t.2.h]])]) [] := by
 refine FT.of [0] Tryz.func147 Tryz.ntmps147 Q y2 ?_
 intro w0 U0 R0 g0
 unfold Dz
 refine Ws (Wr ?_)
 refine aP (Bv false) au (On (Ws (Wr ?_)))
 refine aH (Cc (.pl 0 0)) y4 (aH (Iv n) y4 (aY fun r1 hr1 => (aS.step (bH [.c (.pl 0 0),.c (iC n)] (Fw.Fn.ren [(0,0)] (jq c n r1 hr1) Q) jk (gK y2) z1 y3) z3 z1 Q Q (aj LT.eql af (aP (Bv (r1.1 == 0)) y4 (On (aB.ret (bD.mk (.inr Q) z1 z1 Q ⟨ak.sc,J⟩ ⟨bK.kP ⟨mX mY,ak.sc,ak.sc,J⟩,J⟩))))))))
theorem aB4 (c : dB) (n : Int) (x : aK) (other : Int) : FT Tryz.prog (EG c n x other) 170 [.c (.pl 0 0),.c (iC n),.agg [iC x.A,iC x.B],.c (iC other)] [(0,.row 105 [[xT bF c.b,iC c.i,iC c.h]])] (fun (t : (Int × dB)) => [.c (iC t.1)]) (fun (t : (Int × dB)) => [(0,.row 105 [[xT bF t.2.b,iC t.2.i,iC t.2.h]])]) [] := by
 refine FT.of [0] Tryz.func170 Tryz.ntmps170 Q y2 ?_
 intro w0 U0 R0 g0
 unfold EG
 refine Ws (Wr ?_)
 refine dF (LT.box (n := 21) (v := (.agg [iC x.A,iC x.B])) Q dM (by exact Q)) Q Q Q (aP (Iv 0) au (On (Ws (Wr ?_))))
 refine aH (Cc (.pl 0 0)) y4 (aH (Iv n) y4 (aY fun r1 hr1 => (aS.step (bH [.c (.pl 0 0),.c (iC n)] (Fw.Fn.ren [(0,0)] (jq c n r1 hr1) Q) jk (gK y2) z1 y3) z3 z1 Q Q (aP (Iv r1.1) y4 (On (Ws (Ws ?_)))))))
 refine aB.dZ (fun j3 => ([(3,Iv other),(9,Iv r1.1),(22,Bv j3)],[(0,.row 105 [[xT bF r1.2.b,iC r1.2.i,iC r1.2.h]])])) ?_ (fun j3 _ => ?_)
 ·refine Wr (aH (Iv r1.1) y4 (cZ (iC x.A) iO bM bG (aj LT.eql y5 (aH (Bv (r1.1 == x.A)) y4 (aS.split (fun hb4 => ?_) (fun hb4 => ?_))))))
  ·refine aV hb4 y5 (aV hb4 y5 (aV hb4 y5 (aV hb4 y5 (dL (Bv true) hb4 af (On (aZ Q z3 z1))))))
  ·refine dn (Iv r1.1) hb4 y5 (iU (iC x.B) jd bM hb4 fB (fZ LT.eql hb4 y6 (eH (Bv (r1.1 == x.B)) hb4 y5 (On (aZ Q z3 z1)))))
 ·refine aB.cond Q (fun hc5 => ?_) (fun hc5 => ?_)
  ·refine Ws (Wr ?_)
   refine aH (Iv other) y4 (aP (Iv other) y4 (On (aB.ret (bD.mk (.inr Q) z1 z1 Q ⟨ak.sc,J⟩ ⟨bK.kP ⟨mX mY,ak.sc,ak.sc,J⟩,J⟩))))
  ·refine aB.skip (Ws (Wr ?_))
   refine aH (Iv r1.1) y4 (aP (Iv r1.1) y4 (On (aB.ret (bD.mk (.inr Q) z1 z1 Q ⟨ak.sc,J⟩ ⟨bK.kP ⟨mX mY,ak.sc,ak.sc,J⟩,J⟩))))
theorem MS (g : aQ) (k : Int) : FT Tryz.prog (uG g k) 108 [.agg [iC g.aF,xF aG g.aA],.c (iC k)] [] (fun (t : (aQ × Bool)) => [.agg [iC t.1.aF,lo 0 t.1.aA.length],.c (bC t.2)]) (fun (t : (aQ × Bool)) => [(0,pR 40 aG t.1.aA)]) [0] := by
 refine FT.of [] Tryz.func108 Tryz.ntmps108 Q y2 ?_
 intro w0 U0 R0 g0
 unfold uG
 refine Ws (Wr ?_)
 refine dF (LT.box (n := 21) (v := (.agg [iC g.aF,xF aG g.aA])) Q aX (by exact Q)) Q Q Q (dA (LT.alloc (n := 22) (cells := [iC 0,sC aO]) Q fK Q Q Q) Q Q (aP (Bv false) au (On (Ws (Ws ?_)))))
 refine aB.dZ (fun j4 => ([(1,Iv k),(2,Cc (.pl 21 0)),(4,Cc (.pl 22 0)),(19,Bv j4)],[(21,.row 26 [[iC g.aF,xF aG g.aA]]),(22,.row 26 [[iC 0,sC aO]])])) ?_ (fun j4 _ => ?_)
 ·refine Wr (bV (bJ [iC g.aF,xF aG g.aA] Q bU ai aX) Q Q Q Q (aY fun r5 lW => (aS.pure (bH [.agg [iC g.aF,xF aG g.aA]] (sH g r5 lW) rE (jL y2) J y3) z2 J Q Q (ah (LT.not Q) Q Q Q (aH (Bv (!r5)) y4 (aS.split (fun hb6 => ?_) (fun hb6 => ?_)))))))
  ·refine aV hb6 y5 (aV hb6 y5 (dL (Bv true) hb6 af (aH (Bv true) y4 (bT y5 (bT y5 (bT y5 (bT y5 (bT y5 (dL (Bv true) Q af (On (aZ Q z4 z2)))))))))))
  ·refine dn (Iv k) hb6 y5 (fZ LT.lss hb6 jZ (eH (Bv (decide (k < 0))) hb6 y5 (aH (Bv (decide (k < 0))) y4 (aS.split (fun hb7 => ?_) (fun hb7 => ?_)))))
   ·refine aV hb7 y5 (aV hb7 y5 (aV hb7 y5 (aV hb7 y5 (aV hb7 y5 (dL (Bv true) hb7 af (On (aZ Q z4 z2)))))))
   ·refine dn (Iv k) hb7 y5 (iU (xF aG g.aA) dP dY hb7 fB (ah (LT.gY Q dK) Q (gH hb7 Q Q) Q (fZ LT.geq hb7 y6 (eH (Bv (decide ((g.aA.length : Int) ≤ k))) hb7 y5 (On (aZ Q z4 z2))))))
 ·refine aB.cond Q (fun hc8 => ?_) (fun hc8 => ?_)
  ·refine Ws (Wr ?_)
   refine bV (bJ [iC g.aF,xF aG g.aA] Q bU ai aX) Q Q Q Q (aY fun r9 xI => (aS.step (bH [.agg [iC g.aF,xF aG g.aA]] (Fw.Fn.ren [(0,25)] (MV g r9 xI) Q) Ij (jL y2) J y3) z2 J Q Q (bW (stA [iC r9.aF,lo 25 r9.aA.length] Q Q ai aX) Q Q Q Q Q (aP (Bv false) au (On (en [(4,Cc (.pl 22 0)),(5,Bv false)] [(22,.row 26 [[iC r9.aF,lo 25 r9.aA.length]]),(25,pR 40 aG r9.aA)] z2 z2 (aB.ent (aU.mv 25 0 Q Q) (en [(4,Cc (.pl 22 0)),(5,Bv false)] [(0,pR 40 aG r9.aA),(22,.row 26 [[iC r9.aF,lo 0 r9.aA.length]])] z2 z2 (aB.ret (bD.mk (.inr Q) ⟨⟨_,_,_,Q,Q,Q,bU,aX,_,dQ ai⟩,Q,J⟩ z1 Q ⟨⟨ak.sc,J,J⟩,ak.sc,J⟩ ⟨bK.bg jF,J⟩))))))))))
  ·refine aB.skip (Ws (aB.draw mixed ?_))
   refine fD (iC g.aF) iq bM bG (qy (LT.eY (n := 26) (enc := aG) [] ([] : List aK) Q Q dK dw Q Q Q Q (by decide) (fun _ => Q) Q) Q Q (fD (xF aG g.aA) dP dY bG (bY (Iv k) y4 (aT.bind fun v10 tK => (eG (LT.TN (enc := aG) (kG := none) (kF := (some (.tmp 27,k))) (l := 0) (h := k.toNat) Q Q Q dK gV (fun _ => by rw [dM]; rfl) (.inr y2) (.inl ⟨_,_,Q,Int.le_trans (wF tK).1 (wF tK).2.1,Q⟩) (Ho tK) (Hl tK)) Q Q Q Q (aT.bind fun u11 Js => (ji (LT.sF (enc := aG) Q  Q dK dw Q (by decide) (by decide) (fun _ => Q) (iG Js)) Q Q Q Q Q (fD (xF aG g.aA) dP dY bG ?_))))))))
   refine bY (Iv k) y4 (jG LT.add af (aT.bind fun v12 J4 => (eG (LT.TN (enc := aG) (kG := (some (.tmp 33,aJ (k + 1)))) (kF := none) (l := (aJ (k + 1)).toNat) (h := g.aA.length) Q Q Q dK gV (fun _ => by rw [dM]; rfl) (.inl ⟨_,_,Q,(wF J4).1,Q⟩) (.inr y2) (Ho J4) (Hl J4)) Q Q Q Q (aT.bind fun u13 Jt => (ji (LT.sF (enc := aG) Q  Q dK dw Q (by decide) (by decide) (fun _ => Q) (iG Jt)) Q Q Q Q Q (eG (LT.build [(0,.tmp 23,.c (iC g.aF)),(1,.tmp 35,.c (lo 26 (((([] : List aK) ++ ((g.aA.take k.toNat).drop 0)) ++ ((g.aA.take g.aA.length).drop ((aJ (k + 1)).toNat))).length)))] Q Q uN fK Q Q Q) Q Q Q Q (ji (stA [iC g.aF,lo 26 (((([] : List aK) ++ ((g.aA.take k.toNat).drop 0)) ++ ((g.aA.take g.aA.length).drop ((aJ (k + 1)).toNat))).length)] Q Q ai aX) Q Q Q Q Q (bf (LT.assign (v := (Bv true)) Q) y2 Q Q (aT.nil (by kernel_rfl) (en [(4,Cc (.pl 22 0)),(5,Bv true)] [(22,.row 26 [[iC g.aF,lo 26 (((([] : List aK) ++ ((g.aA.take k.toNat).drop 0)) ++ ((g.aA.take g.aA.length).drop ((aJ (k + 1)).toNat))).length)]]),(26,pR 40 aG ((([] : List aK) ++ ((g.aA.take k.toNat).drop 0)) ++ ((g.aA.take g.aA.length).drop ((aJ (k + 1)).toNat))))] z2 z2 (aB.ent (aU.mv 26 0 Q Q) ?_)))))))))))
   refine en [(4,Cc (.pl 22 0)),(5,Bv true)] [(0,pR 40 aG ((([] : List aK) ++ ((g.aA.take k.toNat).drop 0)) ++ ((g.aA.take g.aA.length).drop ((aJ (k + 1)).toNat)))),(22,.row 26 [[iC g.aF,lo 0 (((([] : List aK) ++ ((g.aA.take k.toNat).drop 0)) ++ ((g.aA.take g.aA.length).drop ((aJ (k + 1)).toNat))).length)]])] z2 z2 (aB.ret (bD.mk (.inr Q) ⟨⟨_,_,_,Q,Q,Q,bU,aX,_,dQ ai⟩,Q,J⟩ z1 Q ⟨⟨ak.sc,J,J⟩,ak.sc,J⟩ ⟨bK.bg jF,J⟩))
theorem MX (c : dB) (n : Int) : FT Tryz.prog (yJ c n) 138 [.c (.pl 0 0),.c (iC n)] [(0,.row 105 [[xT bF c.b,iC c.i,iC c.h]])] (fun (t : (aQ × dB)) => [.agg [iC t.1.aF,lo 1 t.1.aA.length]]) (fun (t : (aQ × dB)) => [(0,.row 105 [[xT bF t.2.b,iC t.2.i,iC t.2.h]]),(1,pR 40 aG t.1.aA)]) [1] := by
 refine FT.of [0] Tryz.func138 Tryz.ntmps138 Q y2 ?_
 intro w0 U0 R0 g0
 unfold yJ
 refine Ws (Wr ?_)
 refine dA (LT.alloc (n := 21) (cells := [iC 0,sC aO]) Q fK Q Q Q) Q Q (On (Ws (Wr ?_)))
 refine aH (Iv n) y4 (dA (LT.eY (n := 22) (enc := aG) [] ([] : List aK) Q Q dK dw Q Q Q Q (by decide) (fun _ => Q) Q) Q Q (fA (LT.build [(0,.tmp 12,.c (iC n)),(1,.tmp 13,.c (lo 22 (([] : List aK).length)))] Q Q uN fK Q Q Q) Q Q Q Q (dA (LT.alloc (n := 23) (cells := [iC 0,sC aO]) Q fK Q Q Q) Q Q (bW (stA [iC n,lo 22 (([] : List aK).length)] Q Q ai aX) Q Q Q Q Q (On (Ws (Ws ?_)))))))
 refine en [(0,Cc (.pl 0 0)),(1,Iv n),(4,Cc (.pl 21 0)),(5,Cc (.pl 23 0))] [(0,.row 105 [[xT bF c.b,iC c.i,iC c.h]]),(21,.row 26 [[iC 0,sC aO]]),(22,pR 40 aG ([] : List aK)),(23,.row 26 [[iC n,lo 22 (([] : List aK).length)]])] z4 z4 (Wr (aH (Iv n) y4 (aj LT.lss af (On (aB.cond Q (fun hc1 => ?_) (fun hc1 => ?_))))))
 ·refine Ws (Wr ?_)
  refine bV (bJ [iC n,lo 22 (([] : List aK).length)] Q bU ai aX) Q Q Q Q (bW (stA [iC n,lo 22 (([] : List aK).length)] Q Q ai aX) Q Q Q Q Q (On (en [(4,Cc (.pl 21 0))] [(0,.row 105 [[xT bF c.b,iC c.i,iC c.h]]),(21,.row 26 [[iC n,lo 22 (([] : List aK).length)]]),(22,pR 40 aG ([] : List aK))] z1 z3 (aB.ent (aU.mv 22 1 Q Q) (en [(4,Cc (.pl 21 0))] [(0,.row 105 [[xT bF c.b,iC c.i,iC c.h]]),(1,pR 40 aG ([] : List aK)),(21,.row 26 [[iC n,lo 1 (([] : List aK).length)]])] z1 z3 (aB.ret (bD.mk (.inr Q) ⟨⟨_,_,_,Q,Q,Q,bU,aX,_,dQ ai⟩,J⟩ z2 Q ⟨⟨ak.sc,J,J⟩,J⟩ ⟨bK.kP ⟨mX mY,ak.sc,ak.sc,J⟩,bK.bg jF,J⟩)))))))
 ·refine aB.skip (Ws (Wr ?_))
  refine bV (bJ [iC n,lo 22 (([] : List aK).length)] Q bU ai aX) Q Q Q Q (fA (LT.build [(0,.const (.int .i64 0),.c (iC 0)),(1,.const (.int .i64 1),.c (iC 1))] Q Q qE dw Q Q Q) y2 y2 Q Q (aY fun r2 hr2 => (aS.step (cF [.agg [iC n,lo 22 (([] : List aK).length)],.agg [iC 0,iC 1]] [(22,pR 40 aG ([] : List aK))] (Fw.Fn.ren [(0,25)] (uV (aQ.mk n ([] : List aK)) (aK.mk 0 1) r2 hr2) Q) sV (.cons (.agg (.cons (.same Q) (.cons (.dN Q Q) .nil))) (.cons (.agg (.cons (.same Q) (.cons (.same Q) .nil))) .nil)) J y3) z3 z1 Q Q (bW (stA [iC r2.aF,lo 25 r2.aA.length] Q Q ai aX) Q Q Q Q Q (On (Ws (Ws (Wr ?_))))))))
  refine aP (Iv 2) au (On (aB.block ?_))
  refine aB.iy (id := 0) (Am n) (fun s3 => ([(0,Cc (.pl 0 0)),(1,Iv n),(4,Cc (.pl 21 0)),(5,Cc (.pl 23 0)),(6,Iv s3.1)],[(0,.row 105 [[xT bF s3.2.1,iC s3.2.2.1,iC s3.2.2.2.1]]),(21,.row 26 [[iC 0,sC aO]]),(23,.row 26 [[iC s3.2.2.2.2.1,lo 25 s3.2.2.2.2.2.length]]),(25,pR 40 aG s3.2.2.2.2.2)])) (fun jb => ([(4,Cc (.pl 21 0)),(5,Cc (.pl 23 0))],[(0,.row 105 [[xT bF jb.1,iC jb.2.1,iC jb.2.2.1]]),(21,.row 26 [[iC 0,sC aO]]),(23,.row 26 [[iC jb.2.2.2.1,lo 25 jb.2.2.2.2.length]]),(25,pR 40 aG jb.2.2.2.2)])) ?_ (aU.of z5 z4) Q (fun jb _ => ?_)
  ·intro s3
   unfold Am
   refine Ws (Ws (Wr ?_))
   refine aH (Iv s3.1) y4 (aH (Iv n) y4 (aj LT.lss y5 (On (aB.cond Q (fun hc104 => ?_) (fun hc104 => ?_)))))
   ·refine aB.skip (Ws (aB.block (Ws (Wr ?_))))
    refine aH (Cc (.pl 0 0)) y4 (aH (Iv s3.1) y4 (aY fun kN Jc => (aS.step (bH [.c (.pl 0 0),.c (iC s3.1)] (Fw.Fn.ren [(0,0)] (jq (dB.mk s3.2.1 s3.2.2.1 s3.2.2.2.1) s3.1 kN Jc) Q) jk (gK y2) z1 y3) z3 z1 Q Q (aP (Iv kN.1) y4 (On (Ws (Wr ?_)))))))
    refine aH (Iv kN.1) y4 (aj LT.add af (aH (Cc (.pl 0 0)) y4 (aH (Iv s3.1) y4 (aj LT.sub af (aY fun oW Xi => (aS.step (bH [.c (.pl 0 0),.c (iC (aJ (s3.1 - 1)))] (Fw.Fn.ren [(0,0)] (jq kN.2 (aJ (s3.1 - 1)) oW Xi) Q) jk (gK y2) z1 y3) z3 z1 Q Q (aj LT.add y5 (aH (Iv s3.1) y4 (aY fun aBH YU => (fA (LT.rem Q (Ky YU)) Q Q Q Q (aP (Iv (Int.tmod (aJ ((aJ (kN.1 + 1)) + oW.1)) s3.1)) y4 ?_)))))))))))
    refine On (Ws ?_)
    refine aB.dZ (fun j110 => ([(0,Cc (.pl 0 0)),(1,Iv n),(4,Cc (.pl 21 0)),(5,Cc (.pl 23 0)),(6,Iv s3.1),(7,Iv kN.1),(8,Iv (Int.tmod (aJ ((aJ (kN.1 + 1)) + oW.1)) s3.1)),(43,Bv j110.1)],[(0,.row 105 [[xT bF j110.2.1,iC j110.2.2.1,iC j110.2.2.2]]),(21,.row 26 [[iC 0,sC aO]]),(23,.row 26 [[iC s3.2.2.2.2.1,lo 25 s3.2.2.2.2.2.length]]),(25,pR 40 aG s3.2.2.2.2.2)])) ?_ (fun j110 _ => ?_)
    ·refine en [(0,Cc (.pl 0 0)),(1,Iv n),(4,Cc (.pl 21 0)),(5,Cc (.pl 23 0)),(6,Iv s3.1),(7,Iv kN.1),(8,Iv (Int.tmod (aJ ((aJ (kN.1 + 1)) + oW.1)) s3.1))] [(0,.row 105 [[xT bF oW.2.b,iC oW.2.i,iC oW.2.h]]),(21,.row 26 [[iC 0,sC aO]]),(23,.row 26 [[iC s3.2.2.2.2.1,lo 25 s3.2.2.2.2.2.length]]),(25,pR 40 aG s3.2.2.2.2.2)] z7 z4 (Wr (aH (Cc (.pl 0 0)) y4 (aY fun rX Xl => (aS.step (bH [.c (.pl 0 0),.c (iC 2)] (Fw.Fn.ren [(0,0)] (aBy oW.2 2 rX Xl) Q) U7 (gK y2) z1 y3) ⟨Q,Q,y2,J⟩ z1 Q Q (aH (Bv rX.1) y4 (aS.split (fun wZ => ?_) (fun wZ => ?_)))))))
     ·refine dn (Iv s3.1) wZ y5 (fZ LT.gtr wZ jZ (dL (Bv (decide (2 < s3.1))) wZ y5 (On (aZ Q z8 z4))))
     ·refine aV wZ y5 (aV wZ y5 (eH (Bv false) wZ af (On (aZ Q z8 z4))))
    ·refine aB.dZ (fun j133 => ([(0,Cc (.pl 0 0)),(1,Iv n),(4,Cc (.pl 21 0)),(5,Cc (.pl 23 0)),(6,Iv j133.1)],[(0,.row 105 [[xT bF j133.2.1,iC j133.2.2.1,iC j133.2.2.2.1]]),(21,.row 26 [[iC 0,sC aO]]),(23,.row 26 [[iC j133.2.2.2.2.1,lo 39 j133.2.2.2.2.2.length]]),(39,pR 40 aG j133.2.2.2.2.2)])) ?_ (fun j133 _ => ?_)
     ·refine aB.cond Q (fun JK => ?_) (fun JK => ?_)
      ·refine Ws (Wr ?_)
       refine aH (Cc (.pl 0 0)) y4 (cZ (lo 25 s3.2.2.2.2.2.length) dP dY bG (ah (LT.lX Q dK) Q Q Q (aY fun kY Xr => (aS.step (bH [.c (.pl 0 0),.c (iC (s3.2.2.2.2.2.length : Int))] (Fw.Fn.ren [(0,0)] (jq (dB.mk j110.2.1 j110.2.2.1 j110.2.2.2) (s3.2.2.2.2.2.length : Int) kY Xr) Q) jk (gK y2) z1 y3) z3 z1 Q Q (aP (Iv kY.1) y4 (On (Ws (Wr ?_))))))))
       refine cZ (lo 25 s3.2.2.2.2.2.length) dP dY bG (aH (Iv kY.1) y4 (aY fun mP Ph => (lC (LT.gy Q Q iJ Ph) Q Q Q Q Q (bV (LT.Ht Q jO (dQ gV) dM Ph (by exact Q) (by exact Q)) Q Q Q Q (dA (LT.alloc (n := 30) (cells := [iC 0,iC 0]) Q dw Q Q Q) Q Q (bW (stA [iC mP.A,iC mP.B] Q Q gV dM) Q Q Q Q Q (On (Ws ?_))))))))
       refine en [(0,Cc (.pl 0 0)),(1,Iv n),(4,Cc (.pl 21 0)),(5,Cc (.pl 23 0)),(6,Iv s3.1),(9,Iv kY.1),(10,Cc (.pl 30 0))] [(0,.row 105 [[xT bF kY.2.b,iC kY.2.i,iC kY.2.h]]),(21,.row 26 [[iC 0,sC aO]]),(23,.row 26 [[iC s3.2.2.2.2.1,lo 25 s3.2.2.2.2.2.length]]),(25,pR 40 aG s3.2.2.2.2.2),(30,.row 40 [[iC mP.A,iC mP.B]])] z7 z5 (Wr (aP (Iv 0) au (On (Ws (aB.block ?_)))))
       refine aB.iy (id := 2) (EF s3 kY mP) (fun o8 => ([(0,Cc (.pl 0 0)),(1,Iv n),(4,Cc (.pl 21 0)),(5,Cc (.pl 23 0)),(6,Iv s3.1),(9,Iv kY.1),(10,Cc (.pl 30 0)),(11,Iv o8)],[(0,.row 105 [[xT bF kY.2.b,iC kY.2.i,iC kY.2.h]]),(21,.row 26 [[iC 0,sC aO]]),(23,.row 26 [[iC s3.2.2.2.2.1,lo 25 s3.2.2.2.2.2.length]]),(25,pR 40 aG s3.2.2.2.2.2),(30,.row 40 [[iC mP.A,iC mP.B]])])) (fun dV => ([(0,Cc (.pl 0 0)),(1,Iv n),(4,Cc (.pl 21 0)),(5,Cc (.pl 23 0)),(6,Iv dV.1),(9,Iv dV.2.1),(10,Cc (.pl 30 0)),(11,Iv dV.2.2.1)],[(0,.row 105 [[xT bF dV.2.2.2.1,iC dV.2.2.2.2.1,iC dV.2.2.2.2.2.1]]),(21,.row 26 [[iC 0,sC aO]]),(23,.row 26 [[iC dV.2.2.2.2.2.2.1,lo 25 dV.2.2.2.2.2.2.2.1.length]]),(25,pR 40 aG dV.2.2.2.2.2.2.2.1),(30,.row 40 [[iC dV.2.2.2.2.2.2.2.2.1,iC dV.2.2.2.2.2.2.2.2.2]])])) ?_ (aU.of z8 z5) Q (fun dV _ => ?_)
       ·intro o8
        unfold EF
        refine Ws (Ws ?_)
        refine aB.dZ (fun Fq => ([(0,Cc (.pl 0 0)),(1,Iv n),(4,Cc (.pl 21 0)),(5,Cc (.pl 23 0)),(6,Iv s3.1),(9,Iv kY.1),(10,Cc (.pl 30 0)),(11,Iv o8),(63,Bv Fq)],[(0,.row 105 [[xT bF kY.2.b,iC kY.2.i,iC kY.2.h]]),(21,.row 26 [[iC 0,sC aO]]),(23,.row 26 [[iC s3.2.2.2.2.1,lo 25 s3.2.2.2.2.2.length]]),(25,pR 40 aG s3.2.2.2.2.2),(30,.row 40 [[iC mP.A,iC mP.B]])])) ?_ (fun Fq _ => ?_)
        ·refine Wr (aH (Iv o8) y4 (cZ (iC mP.A) iO bM bG (aj LT.eql y5 (aH (Bv (o8 == mP.A)) y4 (aS.split (fun rH => ?_) (fun rH => ?_))))))
         ·refine aV rH y5 (aV rH y5 (aV rH y5 (aV rH y5 (dL (Bv true) rH af (On (aZ Q z9 z5))))))
         ·refine dn (Iv o8) rH y5 (iU (iC mP.B) jd bM rH fB (fZ LT.eql rH y6 (eH (Bv (o8 == mP.B)) rH y5 (On (aZ Q z9 z5)))))
        ·refine aB.cond Q (fun hc150 => ?_) (fun hc150 => ?_)
         ·refine aB.skip (aB.block (Wr ?_))
          refine aH (Iv o8) y4 (aj LT.add af (aP (Iv (aJ (o8 + 1))) y4 (On (aB.blk ?_))))
          refine aZ Q z8 z5
         ·refine aB.fH Q ⟨Q,aU.of z8 z5⟩
       ·refine Ws (Wr ?_)
        refine aH (Cc (.pl 0 0)) y4 (aH (Iv dV.1) y4 (bV (bJ [iC dV.2.2.2.2.2.2.2.2.1,iC dV.2.2.2.2.2.2.2.2.2] Q jO gV dM) Q Q Q Q (aH (Iv dV.2.2.1) y4 (aY fun oZ Xu => (aS.step (bH [.c (.pl 0 0),.c (iC dV.1),.agg [iC dV.2.2.2.2.2.2.2.2.1,iC dV.2.2.2.2.2.2.2.2.2],.c (iC dV.2.2.1)] (Fw.Fn.ren [(0,0)] (aB4 (dB.mk dV.2.2.2.1 dV.2.2.2.2.1 dV.2.2.2.2.2.1) dV.1 (aK.mk dV.2.2.2.2.2.2.2.2.1 dV.2.2.2.2.2.2.2.2.2) dV.2.2.1 oZ Xu) Q) VB (aAi y5) z1 y3) z5 z1 Q Q (aP (Iv oZ.1) y4 (On (Ws (Wr ?_)))))))))
        refine bV (bJ [iC dV.2.2.2.2.2.2.1,lo 25 dV.2.2.2.2.2.2.2.1.length] Q bU ai aX) Q Q Q Q (aH (Iv dV.2.1) y4 (aY fun mJ Xv => (aS.step (cF [.agg [iC dV.2.2.2.2.2.2.1,lo 25 dV.2.2.2.2.2.2.2.1.length],.c (iC dV.2.1)] [(25,pR 40 aG dV.2.2.2.2.2.2.2.1)] (Fw.Fn.ren [(0,33)] (MS (aQ.mk dV.2.2.2.2.2.2.1 dV.2.2.2.2.2.2.2.1) dV.2.1 mJ Xv) Q) Ia (.cons (.agg (.cons (.same Q) (.cons (.dN Q Q) .nil))) (.cons (.c (.same Q)) .nil)) J y3) z3 z1 Q Q (aH (.dI [.agg [iC mJ.1.aF,lo 33 mJ.1.aA.length],.c (bC mJ.2)]) y4 (ah (LT.extract (v := (.agg [iC mJ.1.aF,lo 33 mJ.1.aA.length])) Q (by exact Q)) Q Q Q (ah (LT.extract (v := (.c (bC mJ.2))) Q (by exact Q)) Q Q Q (bW (stA [iC mJ.1.aF,lo 33 mJ.1.aA.length] Q Q ai aX) Q Q Q Q Q (On (en [(0,Cc (.pl 0 0)),(1,Iv n),(4,Cc (.pl 21 0)),(5,Cc (.pl 23 0)),(6,Iv dV.1),(10,Cc (.pl 30 0)),(11,Iv oZ.1)] [(0,.row 105 [[xT bF oZ.2.b,iC oZ.2.i,iC oZ.2.h]]),(21,.row 26 [[iC 0,sC aO]]),(23,.row 26 [[iC mJ.1.aF,lo 33 mJ.1.aA.length]]),(30,.row 40 [[iC dV.2.2.2.2.2.2.2.2.1,iC dV.2.2.2.2.2.2.2.2.2]]),(33,pR 40 aG mJ.1.aA)] z7 z5 (aB.draw mixed (fU (bJ [iC mJ.1.aF,lo 33 mJ.1.aA.length] Q bU ai aX) Q Q Q Q ?_)))))))))))
        refine fD (iC dV.2.2.2.2.2.2.2.2.1) iO bM bG (bY (Iv dV.1) y4 (eG (LT.build [(0,.tmp 79,.c (iC dV.2.2.2.2.2.2.2.2.1)),(1,.tmp 80,.c (iC dV.1))] Q Q qE dw Q Q Q) Q Q Q Q (aT.bind fun yR Xw => (aT.step (cF [.agg [iC mJ.1.aF,lo 33 mJ.1.aA.length],.agg [iC dV.2.2.2.2.2.2.2.2.1,iC dV.1]] [(33,pR 40 aG mJ.1.aA)] (Fw.Fn.ren [(0,35)] (uV mJ.1 (aK.mk dV.2.2.2.2.2.2.2.2.1 dV.1) yR Xw) Q) sV (.cons (.agg (.cons (.same Q) (.cons (.dN Q Q) .nil))) (.cons (.agg (.cons (.same Q) (.cons (.same Q) .nil))) .nil)) J y3) z3 z1 Q Q (fD (iC dV.2.2.2.2.2.2.2.2.2) jd bM bG (bY (Iv dV.1) y4 (eG (LT.build [(0,.tmp 84,.c (iC dV.2.2.2.2.2.2.2.2.2)),(1,.tmp 85,.c (iC dV.1))] Q Q qE dw Q Q Q) Q Q Q Q (aT.bind fun yS Xx => (aT.step (cF [.agg [iC yR.aF,lo 35 yR.aA.length],.agg [iC dV.2.2.2.2.2.2.2.2.2,iC dV.1]] [(35,pR 40 aG yR.aA)] (Fw.Fn.ren [(0,37)] (uV yR (aK.mk dV.2.2.2.2.2.2.2.2.2 dV.1) yS Xx) Q) sV (.cons (.agg (.cons (.same Q) (.cons (.dN Q Q) .nil))) (.cons (.agg (.cons (.same Q) (.cons (.same Q) .nil))) .nil)) J y3) z3 z1 Q Q ?_)))))))))
        refine bY (Iv oZ.1) y4 (bY (Iv dV.1) y4 (eG (LT.build [(0,.tmp 88,.c (iC oZ.1)),(1,.tmp 89,.c (iC dV.1))] Q Q qE dw Q Q Q) Q Q Q Q (aT.bind fun BB Xy => (aT.step (cF [.agg [iC yS.aF,lo 37 yS.aA.length],.agg [iC oZ.1,iC dV.1]] [(37,pR 40 aG yS.aA)] (Fw.Fn.ren [(0,39)] (uV yS (aK.mk oZ.1 dV.1) BB Xy) Q) sV (.cons (.agg (.cons (.same Q) (.cons (.dN Q Q) .nil))) (.cons (.agg (.cons (.same Q) (.cons (.same Q) .nil))) .nil)) J y3) z3 z1 Q Q (ji (stA [iC BB.aF,lo 39 BB.aA.length] Q Q ai aX) Q Q Q Q Q (aT.nil (by kernel_rfl) (aZ Q z5 z4)))))))
      ·refine Wr (bV (bJ [iC s3.2.2.2.2.1,lo 25 s3.2.2.2.2.2.length] Q bU ai aX) Q Q Q Q (aH (Iv kN.1) y4 (aH (Iv s3.1) y4 (fA (LT.build [(0,.tmp 93,.c (iC kN.1)),(1,.tmp 94,.c (iC s3.1))] Q Q qE dw Q Q Q) Q Q Q Q (aY fun yT Xz => (aS.step (cF [.agg [iC s3.2.2.2.2.1,lo 25 s3.2.2.2.2.2.length],.agg [iC kN.1,iC s3.1]] [(25,pR 40 aG s3.2.2.2.2.2)] (Fw.Fn.ren [(0,41)] (uV (aQ.mk s3.2.2.2.2.1 s3.2.2.2.2.2) (aK.mk kN.1 s3.1) yT Xz) Q) sV (.cons (.agg (.cons (.same Q) (.cons (.dN Q Q) .nil))) (.cons (.agg (.cons (.same Q) (.cons (.same Q) .nil))) .nil)) J y3) z3 z1 Q Q (aH (Iv (Int.tmod (aJ ((aJ (kN.1 + 1)) + oW.1)) s3.1)) y4 (aH (Iv s3.1) y4 (fA (LT.build [(0,.tmp 97,.c (iC (Int.tmod (aJ ((aJ (kN.1 + 1)) + oW.1)) s3.1))),(1,.tmp 98,.c (iC s3.1))] Q Q qE dw Q Q Q) Q Q Q Q (aY fun uO X3 => (aS.step (cF [.agg [iC yT.aF,lo 41 yT.aA.length],.agg [iC (Int.tmod (aJ ((aJ (kN.1 + 1)) + oW.1)) s3.1),iC s3.1]] [(41,pR 40 aG yT.aA)] (Fw.Fn.ren [(0,43)] (uV yT (aK.mk (Int.tmod (aJ ((aJ (kN.1 + 1)) + oW.1)) s3.1) s3.1) uO X3) Q) sV (.cons (.agg (.cons (.same Q) (.cons (.dN Q Q) .nil))) (.cons (.agg (.cons (.same Q) (.cons (.same Q) .nil))) .nil)) J y3) z3 z1 Q Q ?_)))))))))))
       refine bW (stA [iC uO.aF,lo 43 uO.aA.length] Q Q ai aX) Q Q Q Q Q (On (en [(0,Cc (.pl 0 0)),(1,Iv n),(4,Cc (.pl 21 0)),(5,Cc (.pl 23 0)),(6,Iv s3.1)] [(0,.row 105 [[xT bF j110.2.1,iC j110.2.2.1,iC j110.2.2.2]]),(21,.row 26 [[iC 0,sC aO]]),(23,.row 26 [[iC uO.aF,lo 43 uO.aA.length]]),(43,pR 40 aG uO.aA)] z5 z4 (aB.ent (aU.mv 43 39 Q Q) (aZ Q z5 z4))))
     ·refine aB.blk (Wr ?_)
      refine aH (Iv j133.1) y4 (aj LT.add af (aP (Iv (aJ (j133.1 + 1))) y4 (On (en [(0,Cc (.pl 0 0)),(1,Iv n),(4,Cc (.pl 21 0)),(5,Cc (.pl 23 0)),(6,Iv (aJ (j133.1 + 1)))] [(0,.row 105 [[xT bF j133.2.1,iC j133.2.2.1,iC j133.2.2.2.1]]),(21,.row 26 [[iC 0,sC aO]]),(23,.row 26 [[iC j133.2.2.2.2.1,lo 39 j133.2.2.2.2.2.length]]),(39,pR 40 aG j133.2.2.2.2.2)] z5 z4 (aB.ent (aU.mv 39 25 Q Q) (aZ Q z5 z4))))))
   ·refine aB.fH Q ⟨Q,aU.of z2 z4⟩
  ·refine Ws (Wr ?_)
   refine bV (bJ [iC jb.2.2.2.1,lo 25 jb.2.2.2.2.length] Q bU ai aX) Q Q Q Q (bW (stA [iC jb.2.2.2.1,lo 25 jb.2.2.2.2.length] Q Q ai aX) Q Q Q Q Q (On (en [(4,Cc (.pl 21 0))] [(0,.row 105 [[xT bF jb.1,iC jb.2.1,iC jb.2.2.1]]),(21,.row 26 [[iC jb.2.2.2.1,lo 25 jb.2.2.2.2.length]]),(25,pR 40 aG jb.2.2.2.2)] z1 z3 (aB.ent (aU.mv 25 1 Q Q) (en [(4,Cc (.pl 21 0))] [(0,.row 105 [[xT bF jb.1,iC jb.2.1,iC jb.2.2.1]]),(1,pR 40 aG jb.2.2.2.2),(21,.row 26 [[iC jb.2.2.2.1,lo 1 jb.2.2.2.2.length]])] z1 z3 (aB.ret (bD.mk (.inr Q) ⟨⟨_,_,_,Q,Q,Q,bU,aX,_,dQ ai⟩,J⟩ z2 Q ⟨⟨ak.sc,J,J⟩,J⟩ ⟨bK.kP ⟨mX mY,ak.sc,ak.sc,J⟩,bK.bg jF,J⟩)))))))
end Go.Proofs.YtdmlaldifbmkpaaGreat
end
section
set_option linter.unusedVariables false
set_option linter.unusedSimpArgs false
set_option linter.unnecessarySimpa false
set_option maxRecDepth 100000
set_option maxHeartbeats 8000000
open Go Go.Fw
namespace Go.Proofs.YtdmlaldifbmkpaaGreat
theorem EZ (x : Int) (zO : Int) (hi : Int) : FT Tryz.prog (uF x zO hi) 115 [.c (iC x),.c (iC zO),.c (iC hi)] [] (fun (t : Bool) => [.c (bC t)]) (fun (t : Bool) => []) [] := by
 refine FT.of [] Tryz.func115 Tryz.ntmps115 Q y2 ?_
 intro w0 U0 R0 g0
 unfold uF
 refine Ws (Wr ?_)
 refine aP (Bv false) au (On (Ws ?_))
 refine aB.dZ (fun j2 => ([(6,Bv j2)],[])) ?_ (fun j2 _ => ?_)
 ·refine Wr (aH (Iv x) y4 (aH (Iv zO) y4 (aj LT.geq y5 (aH (Bv (decide (zO ≤ x))) y4 (aS.split (fun hb3 => ?_) (fun hb3 => ?_))))))
  ·refine dn (Iv x) hb3 y5 (dn (Iv hi) hb3 y5 (fZ LT.leq hb3 y6 (dL (Bv (decide (x ≤ hi))) hb3 y5 (aP (Bv (decide (x ≤ hi))) y4 (On (aZ Q z1 J))))))
  ·refine aV hb3 y5 (aV hb3 y5 (aV hb3 y5 (eH (Bv false) hb3 af (aP (Bv false) y4 (On (aZ Q z1 J))))))
 ·refine aB.ret (bD.mk (.inr Q) z1 J Q ⟨ak.sc,J⟩ J)
theorem Tc (a : Int) (b : Int) : FT Tryz.prog (zZ a b) 169 [.c (iC a),.c (iC b)] [] (fun (t : Int) => [.c (iC t)]) (fun (t : Int) => []) [] := by
 refine FT.of [] Tryz.func169 Tryz.ntmps169 Q y2 ?_
 intro w0 U0 R0 g0
 unfold zZ
 refine Ws (Wr ?_)
 refine aP (Iv 0) au (On (Ws (aB.block (Ws (Wr ?_)))))
 refine aH (Iv a) y4 (aH (Iv b) y4 (aj LT.lss y5 (aP (Bv (decide (a < b))) y4 (On (aB.cond Q (fun hc1 => ?_) (fun hc1 => ?_))))))
 ·refine Ws (Wr ?_)
  refine aP (Iv (-1)) au (On (aB.ret (bD.mk (.inr Q) z1 J Q ⟨ak.sc,J⟩ J)))
 ·refine Ws (Wr ?_)
  refine aH (Iv a) y4 (aH (Iv b) y4 (aj LT.gtr y5 (aP (Bv (decide (b < a))) y4 (On (aB.cond Q (fun hc2 => ?_) (fun hc2 => ?_))))))
  ·refine Ws (Wr ?_)
   refine aP (Iv 1) au (On (aB.ret (bD.mk (.inr Q) z1 J Q ⟨ak.sc,J⟩ J)))
  ·refine aB.skip (aB.blk (Ws (Wr ?_)))
   refine aP (Iv 0) au (On (aB.ret (bD.mk (.inr Q) z1 J Q ⟨ak.sc,J⟩ J)))
theorem aBa (x : aK) (y : aK) : FT Tryz.prog (zY x y) 136 [.agg [iC x.A,iC x.B],.agg [iC y.A,iC y.B]] [] (fun (t : Int) => [.c (iC t)]) (fun (t : Int) => []) [] := by
 refine FT.of [] Tryz.func136 Tryz.ntmps136 Q y2 ?_
 intro w0 U0 R0 g0
 unfold zY
 refine Ws (Wr ?_)
 refine dF (LT.box (n := 21) (v := (.agg [iC x.A,iC x.B])) Q dM (by exact Q)) Q Q Q (dF (LT.box (n := 22) (v := (.agg [iC y.A,iC y.B])) Q dM (by exact Q)) Q Q Q (aP (Iv 0) au (On (Ws (Ws (Wr ?_))))))
 refine cZ (iC x.A) iO bM bG (cZ (iC y.A) iO bM bG (aY fun r1 hr1 => (aS.pure (bH [.c (iC x.A),.c (iC y.A)] (Tc x.A y.A r1 hr1) OA (gK y2) J y3) z3 J Q Q (aP (Iv r1) y4 (On (Ws ?_))))))
 refine en [(2,Cc (.pl 21 0)),(3,Cc (.pl 22 0)),(5,Iv r1)] [(21,.row 40 [[iC x.A,iC x.B]]),(22,.row 40 [[iC y.A,iC y.B]])] z3 z2 (Wr (aH (Iv r1) y4 (aj LT.neq af (On (aB.cond Q (fun hc2 => ?_) (fun hc2 => ?_))))))
 ·refine Ws (Wr ?_)
  refine aH (Iv r1) y4 (aP (Iv r1) y4 (On (aB.ret (bD.mk (.inr Q) z1 J Q ⟨ak.sc,J⟩ J))))
 ·refine aB.skip (Ws (Wr ?_))
  refine cZ (iC x.B) jd bM bG (cZ (iC y.B) jd bM bG (aY fun r3 hr3 => (aS.pure (bH [.c (iC x.B),.c (iC y.B)] (Tc x.B y.B r3 hr3) OA (gK y2) J y3) z3 J Q Q (aP (Iv r3) y4 (On (aB.ret (bD.mk (.inr Q) z1 J Q ⟨ak.sc,J⟩ J)))))))
theorem yc (g : aQ) : FT Tryz.prog (qM g) 75 [.agg [iC g.aF,xF aG g.aA]] [] (fun (t : Bool) => [.c (bC t)]) (fun (t : Bool) => []) [] := by
 refine FT.of [] Tryz.func75 Tryz.ntmps75 Q y2 ?_
 intro w0 U0 R0 g0
 unfold qM
 refine Ws (Wr ?_)
 refine dF (LT.box (n := 21) (v := (.agg [iC g.aF,xF aG g.aA])) Q aX (by exact Q)) Q Q Q (aP (Bv false) au (On (Ws (Ws ?_))))
 refine aB.dZ (fun j3 => ([(1,Cc (.pl 21 0)),(14,Bv j3)],[(21,.row 26 [[iC g.aF,xF aG g.aA]])])) ?_ (fun j3 _ => ?_)
 ·refine Wr (cZ (iC g.aF) iq bM bG (aY fun r4 hr4 => (aS.pure (bH [.c (iC g.aF),.c (iC 1),.c (iC 8)] (EZ g.aF 1 8 r4 hr4) BX (rq y3) J y3) ⟨Q,Q,y2,y2,J⟩ J Q Q (ah (LT.not Q) Q Q Q (aH (Bv (!r4)) y4 (aS.split (fun hb5 => ?_) (fun hb5 => ?_)))))))
  ·refine aV hb5 y5 (aV hb5 y5 (aV hb5 y5 (aV hb5 y5 (dL (Bv true) hb5 af (On (aZ Q z2 z1))))))
  ·refine iU (xF aG g.aA) dP dY hb5 fB (ah (LT.gY Q dK) Q (gH hb5 Q Q) Q (fZ LT.gtr hb5 jZ (eH (Bv (decide (24 < (g.aA.length : Int)))) hb5 y5 (On (aZ Q z2 z1)))))
 ·refine aB.cond Q (fun hc6 => ?_) (fun hc6 => ?_)
  ·refine Ws (Wr ?_)
   refine aP (Bv false) au (On (aB.ret (bD.mk (.inr Q) z1 J Q ⟨ak.sc,J⟩ J)))
  ·refine aB.skip (Ws (Ws (Wr ?_)))
   refine cZ (xF aG g.aA) dP dY bG (ah (LT.gY Q dK) Q Q Q (aH (Iv 0) au (On (aB.block ?_))))
   refine aB.oC (id := 0) (vH g) (fun s7 => ([(1,Cc (.pl 21 0)),(16,Cc (xF aG g.aA)),(17,Iv (g.aA.length : Int)),(18,Iv s7)],[(21,.row 26 [[iC g.aF,xF aG g.aA]])])) (fun BR => ([],[])) (bD Tryz.prog Tryz.f75.results.toList [] [] (fun (t : Bool) => [.c (bC t)]) (fun (t : Bool) => [])) ?_ (aU.of z4 z1) Q (fun BR _ => ?_) (by intro r t σ m ht hk; injection ht with ht; subst ht; exact hk)
   ·intro s7
    unfold vH
    refine Ws (Wr ?_)
    refine aj LT.lss y5 (On (Ws ?_))
    refine aB.cond Q (fun CG => ?_) (fun CG => ?_)
    ·refine aB.skip (Ws (aB.block (Ws (Wr ?_))))
     refine aH (Iv s7) y4 (aY fun fP KA => (fA (LT.fO (enc := aG) Q iJ KA dM) Q Q Q Q (ah (LT.ni Q jO (dQ gV) (by exact dM.symm)) Q Q Q (dA (LT.alloc (n := 23) (cells := [iC 0,iC 0]) Q dw Q Q Q) Q Q (aP (Iv s7) y4 (bW (stA [iC fP.A,iC fP.B] Q Q gV dM) Q Q Q Q Q (On (Ws ?_))))))))
     refine aB.dZ (fun j49 => ([(1,Cc (.pl 21 0)),(16,Cc (xF aG g.aA)),(17,Iv (g.aA.length : Int)),(18,Iv s7),(54,Bv j49)],[(21,.row 26 [[iC g.aF,xF aG g.aA]])])) ?_ (fun j49 _ => ?_)
     ·refine en [(1,Cc (.pl 21 0)),(3,Iv s7),(4,Cc (.pl 23 0)),(16,Cc (xF aG g.aA)),(17,Iv (g.aA.length : Int)),(18,Iv s7)] [(21,.row 26 [[iC g.aF,xF aG g.aA]]),(23,.row 40 [[iC fP.A,iC fP.B]])] z6 z2 (aB.draw mixed (fD (iC fP.A) iO bM bG (jG LT.lss af (bY (Bv (decide (fP.A < 0))) y4 (aT.split (fun jQ => ?_) (fun jQ => ?_))))))
      ·refine ax jQ y3 (ax jQ y3 (ax jQ y3 (ax jQ y3 (ax jQ y3 (jE (Bv true) jQ af (bY (Bv true) y4 (aW y3 (aW y3 (aW y3 (aW y3 (aW y3 ?_)))))))))))
       refine jE (Bv true) Q af (bY (Bv true) y4 (aW y3 (aW y3 (aW y3 (aW y3 (aW y3 (aW y3 (aW y3 (aW y3 (aW y3 (aW y3 ?_)))))))))))
       refine aW y3 (aW y3 (aW y3 (jE (Bv true) Q af (aT.nil (by kernel_rfl) (aZ Q z5 z1)))))
      ·refine kT (iC fP.A) iO bM jQ fB (kT (iC fP.B) jd bM jQ fB (ku LT.geq jQ y6 (jX (Bv (decide (fP.B ≤ fP.A))) jQ y5 (bY (Bv (decide (fP.B ≤ fP.A))) y4 (aT.split (fun jR => ?_) (fun jR => ?_))))))
       ·refine ax jR y3 (ax jR y3 (ax jR y3 (ax jR y3 (ax jR y3 (jE (Bv true) jR af (bY (Bv true) y4 (aW y3 (aW y3 (aW y3 (aW y3 (aW y3 ?_)))))))))))
        refine aW y3 (aW y3 (aW y3 (aW y3 (aW y3 (aW y3 (aW y3 (aW y3 (jE (Bv true) Q af (aT.nil (by kernel_rfl) (aZ Q z5 z1))))))))))
       ·refine kT (iC fP.B) jd bM jR fB (kT (iC g.aF) iq bM jR fB (ku LT.geq jR y6 (jX (Bv (decide (g.aF ≤ fP.B))) jR y5 (bY (Bv (decide (g.aF ≤ fP.B))) y4 (aT.split (fun jv => ?_) (fun jv => ?_))))))
        ·refine ax jv y3 (ax jv y3 (ax jv y3 (aW y3 (aW y3 (aW y3 (aW y3 (aW y3 (aW y3 (aW y3 (aW y3 (aW y3 ?_)))))))))))
         refine ax jv y3 (jE (Bv true) jv af (aT.nil (by kernel_rfl) (aZ Q z5 z1)))
        ·refine jD (Iv s7) jv y5 (ku LT.gtr jv jZ (jD (Bv (decide (0 < s7))) jv y5 (aT.split (fun iD => ?_) (fun iD => ?_))))
         ·refine kT (xF aG g.aA) dP dY iD fB (jD (Iv s7) iD y5 (ku LT.sub iD jZ (aT.bind fun x54 zJ => (eG (LT.fO (enc := aG) Q iJ zJ dM) Q Q (gH iD Q Q) Q (bf (LT.ni Q jO (dQ gV) (by exact dM.symm)) Q (gH iD Q Q) Q (fU (bJ [iC fP.A,iC fP.B] Q jO gV dM) Q Q (gH iD Q Q) Q (aT.bind fun oI Ci => (aT.pure (bH [.agg [iC x54.A,iC x54.B],.agg [iC fP.A,iC fP.B]] (aBa x54 fP oI Ci) Uy (EW y4) J y3) z3 J (gH iD Q Q) Q (ku LT.gtr iD jZ (eG (LT.oH (v := (Bv (decide (0 < oI)))) Q iD) Q Q (gH jv Q Q) Q ?_))))))))))
          refine jX (Bv (decide (0 < oI))) jv y5 (aT.nil (by kernel_rfl) (aZ Q z5 z1))
         ·refine ax iD y3 (ax iD y3 (ax iD y3 (ax iD y3 (ax iD y3 (ax iD y3 (ax iD y3 (ax iD y3 (ax iD y3 (eG (LT.oG (v := (Bv false)) Q iD) Q y2 (gH jv Q Q) Q (jX (Bv false) jv y5 (aT.nil (by kernel_rfl) ?_)))))))))))
          refine aZ Q z5 z1
     ·refine aB.cond Q (fun CP => ?_) (fun CP => ?_)
      ·refine Ws (Wr ?_)
       refine aP (Bv false) au (On (aB.ret ⟨Q,bD.mk (.inr Q) z1 J Q ⟨ak.sc,J⟩ J⟩))
      ·refine aB.skip (aB.blk (Wr ?_))
       refine aj LT.add af (aH (Iv (aJ (s7 + 1))) y4 (On (aZ Q z4 z1)))
    ·refine aB.fH Q ⟨Q,aU.of J J⟩
   ·refine Ws (Wr ?_)
    refine aP (Bv true) au (On (aB.ret (bD.mk (.inr Q) z1 J Q ⟨ak.sc,J⟩ J)))
theorem MO (l : (List Int)) : FT Tryz.prog (xU l) 101 [.c (xF aC l)] [] (fun (t : (List Int)) => [.c (lo 0 t.length)]) (fun (t : (List Int)) => [(0,pR 3 aC t)]) [0] := by
 refine FT.of [] Tryz.func101 Tryz.ntmps101 Q y2 ?_
 intro w0 U0 R0 g0
 unfold xU
 refine Ws (Wr ?_)
 refine aP (Cc (sC aO)) au (On (Ws (Wr ?_)))
 refine dA (LT.eY (n := 21) (enc := aC) [] ([] : List Int) Q Q dO fF Q Q Q Q (by decide) (fun _ => Q) Q) Q Q (aH (Cc (xF aC l)) y4 (aY fun u1 hu1 => (bW (LT.sF (enc := aC) Q  Q dO fF Q (by decide) (by decide) (fun _ => Q) (iG hu1)) Q Q Q Q Q (aP (Cc (lo 21 ((([] : List Int) ++ l).length))) y4 (On (en [(2,Cc (lo 21 ((([] : List Int) ++ l).length)))] [(21,pR 3 aC (([] : List Int) ++ l))] z1 z1 (aB.ent (aU.mv 21 0 Q Q) (en [(2,Cc (lo 0 ((([] : List Int) ++ l).length)))] [(0,pR 3 aC (([] : List Int) ++ l))] z1 z1 (aB.ret (bD.mk (.inr Q) z1 z1 Q ⟨J,J⟩ ⟨bK.bg dS,J⟩))))))))))
theorem aBO (x : aK) (v : Int) : FT Tryz.prog (DL x v) 168 [.agg [iC x.A,iC x.B],.c (iC v)] [] (fun (t : Int) => [.c (iC t)]) (fun (t : Int) => []) [] := by
 refine FT.of [] Tryz.func168 Tryz.ntmps168 Q y2 ?_
 intro w0 U0 R0 g0
 unfold DL
 refine Ws (Wr ?_)
 refine dF (LT.box (n := 21) (v := (.agg [iC x.A,iC x.B])) Q dM (by exact Q)) Q Q Q (aP (Iv 0) au (On (Ws (Ws (Wr ?_)))))
 refine cZ (iC x.A) iO bM bG (aH (Iv v) y4 (aj LT.eql y5 (On (aB.cond Q (fun hc1 => ?_) (fun hc1 => ?_)))))
 ·refine Ws (Wr ?_)
  refine cZ (iC x.B) jd bM bG (aP (Iv x.B) y4 (On (aB.ret (bD.mk (.inr Q) z1 J Q ⟨ak.sc,J⟩ J))))
 ·refine aB.skip (Ws (Wr ?_))
  refine cZ (iC x.A) iO bM bG (aP (Iv x.A) y4 (On (aB.ret (bD.mk (.inr Q) z1 J Q ⟨ak.sc,J⟩ J))))
theorem MN (g : aQ) : FT Tryz.prog (xR g) 85 [.agg [iC g.aF,xF aG g.aA]] [] (fun (t : aQ) => [.agg [iC t.aF,lo 0 t.aA.length]]) (fun (t : aQ) => [(0,pR 40 aG t.aA)]) [0] := by
 refine FT.of [] Tryz.func85 Tryz.ntmps85 Q y2 ?_
 intro w0 U0 R0 g0
 unfold xR
 refine Ws (Wr ?_)
 refine dF (LT.box (n := 21) (v := (.agg [iC g.aF,xF aG g.aA])) Q aX (by exact Q)) Q Q Q (dA (LT.alloc (n := 22) (cells := [iC 0,sC aO]) Q fK Q Q Q) Q Q (On (Ws (aB.draw mixed ?_))))
 refine fD (iC g.aF) iq bM bG (qy (LT.eY (n := 23) (enc := aG) [] ([] : List aK) Q Q dK dw Q Q Q Q (by decide) (fun _ => Q) Q) Q Q (fD (xF aG g.aA) dP dY bG (aT.bind fun u1 hu1 => (ji (LT.sF (enc := aG) Q  Q dK dw Q (by decide) (by decide) (fun _ => Q) (iG hu1)) Q Q Q Q Q (eG (LT.build [(0,.tmp 4,.c (iC g.aF)),(1,.tmp 8,.c (lo 23 ((([] : List aK) ++ g.aA).length)))] Q Q uN fK Q Q Q) Q Q Q Q (ji (stA [iC g.aF,lo 23 ((([] : List aK) ++ g.aA).length)] Q Q ai aX) Q Q Q Q Q (aT.nil (by kernel_rfl) (en [(2,Cc (.pl 22 0))] [(22,.row 26 [[iC g.aF,lo 23 ((([] : List aK) ++ g.aA).length)]]),(23,pR 40 aG (([] : List aK) ++ g.aA))] z1 z2 (aB.ent (aU.mv 23 0 Q Q) ?_)))))))))
 refine en [(2,Cc (.pl 22 0))] [(0,pR 40 aG (([] : List aK) ++ g.aA)),(22,.row 26 [[iC g.aF,lo 0 ((([] : List aK) ++ g.aA).length)]])] z1 z2 (aB.ret (bD.mk (.inr Q) ⟨⟨_,_,_,Q,Q,Q,bU,aX,_,dQ ai⟩,J⟩ z1 Q ⟨⟨ak.sc,J,J⟩,J⟩ ⟨bK.bg jF,J⟩))
theorem aBj (s : (List Int)) (v : Int) : FT Tryz.prog (Dh s v) 126 [.c (xF aC s),.c (iC v)] [] (fun (t : Int) => [.c (iC t)]) (fun (t : Int) => []) [] := by
 refine FT.of [] Tryz.func126 Tryz.ntmps126 Q y2 ?_
 intro w0 U0 R0 g0
 unfold Dh
 refine Ws (Wr ?_)
 refine aP (Iv 0) au (On (Ws (Ws (Wr ?_))))
 refine aH (Cc (xF aC s)) y4 (ah (LT.gY Q dO) Q Q Q (aH (Iv 0) au (On (aB.block ?_))))
 refine aB.oC (id := 0) (zx s v) (fun s1 => ([(0,Cc (xF aC s)),(1,Iv v),(7,Iv (s.length : Int)),(8,Iv s1)],[])) (fun b8 => ([],[])) (bD Tryz.prog Tryz.f126.results.toList [] [] (fun (t : Int) => [.c (iC t)]) (fun (t : Int) => [])) ?_ (aU.of z4 J) Q (fun b8 _ => ?_) (by intro r t σ m ht hk; injection ht with ht; subst ht; exact hk)
 ·intro s1
  unfold zx
  refine Ws (Wr ?_)
  refine aj LT.lss y5 (On (Ws ?_))
  refine aB.cond Q (fun wz => ?_) (fun wz => ?_)
  ·refine aB.skip (Ws (aB.block (Ws (Wr ?_))))
   refine aH (Iv s1) y4 (aP (Iv s1) y4 (On (Ws (Wr ?_))))
   refine aH (Iv v) y4 (aH (Cc (xF aC s)) y4 (aH (Iv s1) y4 (aY fun x10 J6 => (fA (LT.fO (enc := aC) Q fV J6 jB) Q Q Q Q (ah (LT.iP Q bM) Q Q Q (aj LT.eql y5 (On (aB.cond Q (fun JJ => ?_) (fun JJ => ?_)))))))))
   ·refine Ws (Wr ?_)
    refine aH (Iv s1) y4 (aP (Iv s1) y4 (On (aB.ret ⟨Q,bD.mk (.inr Q) z1 J Q ⟨ak.sc,J⟩ J⟩)))
   ·refine aB.skip (aB.blk (Wr ?_))
    refine aj LT.add af (aH (Iv (aJ (s1 + 1))) y4 (On (aZ Q z4 J)))
  ·refine aB.fH Q ⟨Q,aU.of J J⟩
 ·refine Ws (Wr ?_)
  refine aP (Iv (-1)) au (On (aB.ret (bD.mk (.inr Q) z1 J Q ⟨ak.sc,J⟩ J)))
end Go.Proofs.YtdmlaldifbmkpaaGreat
end
section
set_option linter.unusedVariables false
set_option linter.unusedSimpArgs false
set_option linter.unnecessarySimpa false
set_option maxRecDepth 100000
set_option maxHeartbeats 8000000
open Go Go.Fw
namespace Go.Proofs.YtdmlaldifbmkpaaGreat
theorem MP (s : (List Int)) (v : Int) : FT Tryz.prog (xZ s v) 76 [.c (xF aC s),.c (iC v)] [] (fun (t : Bool) => [.c (bC t)]) (fun (t : Bool) => []) [] := by
 refine FT.of [] Tryz.func76 Tryz.ntmps76 Q y2 ?_
 intro w0 U0 R0 g0
 unfold xZ
 refine Ws (Wr ?_)
 refine aP (Bv false) au (On (Ws (Wr ?_)))
 refine aH (Cc (xF aC s)) y4 (aH (Iv v) y4 (aY fun r1 hr1 => (aS.pure (bH [.c (xF aC s),.c (iC v)] (aBj s v r1 hr1) Uw (gK y2) J y3) z3 J Q Q (aj LT.geq af (aP (Bv (decide (0 ≤ r1))) y4 (On (aB.ret (bD.mk (.inr Q) z1 J Q ⟨ak.sc,J⟩ J))))))))
theorem UG (b : aK) (v : Int) : FT Tryz.prog (yH b v) 185 [.agg [iC b.A,iC b.B],.c (iC v)] [] (fun (t : Int) => [.c (iC t)]) (fun (t : Int) => []) [] := by
 refine FT.of [] Tryz.func185 Tryz.ntmps185 Q y2 ?_
 intro w0 U0 R0 g0
 unfold yH
 refine Ws (Wr ?_)
 refine dF (LT.box (n := 21) (v := (.agg [iC b.A,iC b.B])) Q dM (by exact Q)) Q Q Q (aP (Iv 0) au (On (Ws (Wr ?_))))
 refine cZ (iC b.A) iO bM bG (cZ (iC b.B) jd bM bG (aj LT.add y5 (aH (Iv v) y4 (aj LT.sub y5 (aP (Iv (aJ ((aJ (b.A + b.B)) - v))) y4 (On (aB.ret (bD.mk (.inr Q) z1 J Q ⟨ak.sc,J⟩ J))))))))
theorem MW (l : (List Int)) (x : Int) : FT Tryz.prog (yF l x) 79 [.c (xF aC l),.c (iC x)] [] (fun (t : Bool) => [.c (bC t)]) (fun (t : Bool) => []) [] := by
 refine FT.of [] Tryz.func79 Tryz.ntmps79 Q y2 ?_
 intro w0 U0 R0 g0
 unfold yF
 refine Ws (Wr ?_)
 refine aP (Bv false) au (On (Ws (Ws (Wr ?_))))
 refine aP (Iv 0) au (On (aB.block ?_))
 refine aB.oC (id := 0) (Af l x) (fun s1 => ([(0,Cc (xF aC l)),(1,Iv x),(5,Iv s1)],[])) (fun b8 => ([],[])) (bD Tryz.prog Tryz.f79.results.toList [] [] (fun (t : Bool) => [.c (bC t)]) (fun (t : Bool) => [])) ?_ (aU.of z3 J) Q (fun b8 _ => ?_) (by intro r t σ m ht hk; injection ht with ht; subst ht; exact hk)
 ·intro s1
  unfold Af
  refine Ws (Ws (Wr ?_))
  refine aH (Iv s1) y4 (aH (Cc (xF aC l)) y4 (ah (LT.gY Q dO) Q Q Q (aj LT.lss y5 (On (aB.cond Q (fun wz => ?_) (fun wz => ?_))))))
  ·refine aB.skip (Ws (aB.block (Ws (Wr ?_))))
   refine aH (Cc (xF aC l)) y4 (aH (Iv s1) y4 (aY fun x10 J6 => (fA (LT.fO (enc := aC) Q fV J6 jB) Q Q Q Q (ah (LT.iP Q bM) Q Q Q (aH (Iv x) y4 (aj LT.eql y5 (On (aB.cond Q (fun JJ => ?_) (fun JJ => ?_)))))))))
   ·refine Ws (Wr ?_)
    refine aP (Bv true) au (On (aB.ret ⟨Q,bD.mk (.inr Q) z1 J Q ⟨ak.sc,J⟩ J⟩))
   ·refine aB.skip (aB.blk (Wr ?_))
    refine aH (Iv s1) y4 (aj LT.add af (aP (Iv (aJ (s1 + 1))) y4 (On (aZ Q z3 J))))
  ·refine aB.fH Q ⟨Q,aU.of J J⟩
 ·refine Ws (Wr ?_)
  refine aP (Bv false) au (On (aB.ret (bD.mk (.inr Q) z1 J Q ⟨ak.sc,J⟩ J)))
theorem Tm (a : (List Int)) (b : (List Int)) : FT Tryz.prog (zq a b) 10 [.c (xF aC a),.c (xF aC b)] [] (fun (t : Bool) => [.c (bC t)]) (fun (t : Bool) => []) [] := by
 refine FT.of [] Tryz.func10 Tryz.ntmps10 Q y2 ?_
 intro w0 U0 R0 g0
 unfold zq
 refine Ws (Wr ?_)
 refine aP (Bv false) au (On (Ws (Ws (Wr ?_))))
 refine aH (Cc (xF aC a)) y4 (ah (LT.gY Q dO) Q Q Q (aH (Cc (xF aC b)) y4 (ah (LT.gY Q dO) Q Q Q (aj LT.neq y5 (On (aB.cond Q (fun hc1 => ?_) (fun hc1 => ?_)))))))
 ·refine Ws (Wr ?_)
  refine aP (Bv false) au (On (aB.ret (bD.mk (.inr Q) z1 J Q ⟨ak.sc,J⟩ J)))
 ·refine aB.skip (Ws (Ws (Wr ?_)))
  refine aP (Iv 0) au (On (aB.block ?_))
  refine aB.oC (id := 0) (zu a b) (fun s2 => ([(0,Cc (xF aC a)),(1,Cc (xF aC b)),(5,Iv s2)],[])) (fun b11 => ([],[])) (bD Tryz.prog Tryz.f10.results.toList [] [] (fun (t : Bool) => [.c (bC t)]) (fun (t : Bool) => [])) ?_ (aU.of z3 J) Q (fun b11 _ => ?_) (by intro r t σ m ht hk; injection ht with ht; subst ht; exact hk)
  ·intro s2
   unfold zu
   refine Ws (Ws (Wr ?_))
   refine aH (Iv s2) y4 (aH (Cc (xF aC a)) y4 (ah (LT.gY Q dO) Q Q Q (aj LT.lss y5 (On (aB.cond Q (fun hc12 => ?_) (fun hc12 => ?_))))))
   ·refine aB.skip (Ws (aB.block (Ws (aB.draw mixed ?_))))
    refine bY (Cc (xF aC a)) y4 (bY (Iv s2) y4 (aT.bind fun wJ J7 => (eG (LT.fO (enc := aC) Q fV J7 jB) Q Q Q Q (bf (LT.iP Q bM) Q Q Q (bY (Cc (xF aC b)) y4 (bY (Iv s2) y4 (aT.bind fun x14 Cm => (eG (LT.fO (enc := aC) Q fV Cm jB) Q Q Q Q (bf (LT.iP Q bM) Q Q Q (jG LT.neq y5 (aT.nil (by kernel_rfl) ?_)))))))))))
    refine aB.cond Q (fun Bo => ?_) (fun Bo => ?_)
    ·refine Ws (en [] [] J J (Wr (aP (Bv false) au (On (aB.ret ⟨Q,bD.mk (.inr Q) z1 J Q ⟨ak.sc,J⟩ J⟩)))))
    ·refine aB.skip (aB.blk ?_)
     refine en [(0,Cc (xF aC a)),(1,Cc (xF aC b)),(5,Iv s2)] [] z3 J (Wr (aH (Iv s2) y4 (aj LT.add af (aP (Iv (aJ (s2 + 1))) y4 (On (aZ Q z3 J))))))
   ·refine aB.fH Q ⟨Q,aU.of J J⟩
  ·refine Ws (Wr ?_)
   refine aP (Bv true) au (On (aB.ret (bD.mk (.inr Q) z1 J Q ⟨ak.sc,J⟩ J)))
theorem aBV (g : aQ) (keep : (List Int)) : FT Tryz.prog (DW g keep) 83 [.agg [iC g.aF,xF aG g.aA],.c (xF aC keep)] [] (fun (t : aQ) => [.agg [iC t.aF,lo 0 t.aA.length]]) (fun (t : aQ) => [(0,pR 40 aG t.aA)]) [0] := by
 refine FT.of [] Tryz.func83 Tryz.ntmps83 Q y2 ?_
 intro w0 U0 R0 g0
 unfold DW
 refine Ws (Wr ?_)
 refine dF (LT.box (n := 21) (v := (.agg [iC g.aF,xF aG g.aA])) Q aX (by exact Q)) Q Q Q (dA (LT.alloc (n := 22) (cells := [iC 0,sC aO]) Q fK Q Q Q) Q Q (On (Ws (Wr ?_))))
 refine cZ (iC g.aF) iq bM bG (ah (LT.build [(0,.tmp 9,.c (iC g.aF))] Q Q uN fK Q Q Q) Q Q Q (dA (LT.alloc (n := 23) (cells := [iC 0,sC aO]) Q fK Q Q Q) Q Q (bW (stA [iC g.aF,sC aO] Q Q ai aX) Q Q Q Q Q (On (Ws (Ws ?_))))))
 refine en [(1,Cc (xF aC keep)),(2,Cc (.pl 21 0)),(4,Cc (.pl 22 0)),(5,Cc (.pl 23 0))] [(21,.row 26 [[iC g.aF,xF aG g.aA]]),(22,.row 26 [[iC 0,sC aO]]),(23,.row 26 [[iC g.aF,sC aO]])] z4 z3 (Wr (cZ (xF aG g.aA) dP dY bG (ah (LT.gY Q dK) Q Q Q (aH (Iv 0) au (On (aB.block ?_))))))
 refine aB.ent (aU.qC 23 1 28 40 Q Q Q Q) (aB.iy (id := 0) (zV g keep) (fun s1 => ([(1,Cc (xF aC keep)),(4,Cc (.pl 22 0)),(5,Cc (.pl 23 0)),(12,Cc (xF aG g.aA)),(13,Iv (g.aA.length : Int)),(14,Iv s1.1)],[(22,.row 26 [[iC 0,sC aO]]),(23,.row 26 [[iC g.aF,lo 28 s1.2.length]]),(28,pR 40 aG s1.2)])) (fun b18 => ([(4,Cc (.pl 22 0)),(5,Cc (.pl 23 0))],[(22,.row 26 [[iC 0,sC aO]]),(23,.row 26 [[iC g.aF,lo 28 b18.length]]),(28,pR 40 aG b18)])) ?_ (aU.of z6 z3) Q (fun b18 _ => ?_))
 ·intro s1
  unfold zV
  refine Ws (Wr ?_)
  refine aj LT.lss y5 (On (Ws ?_))
  refine aB.cond Q (fun hc19 => ?_) (fun hc19 => ?_)
  ·refine aB.skip (Ws (aB.block (Ws (Wr ?_))))
   refine aH (Iv s1.1) y4 (aY fun x20 J9 => (fA (LT.fO (enc := aG) Q iJ J9 dM) Q Q Q Q (ah (LT.ni Q jO (dQ gV) (by exact dM.symm)) Q Q Q (dA (LT.alloc (n := 24) (cells := [iC 0,iC 0]) Q dw Q Q Q) Q Q (aP (Iv s1.1) y4 (bW (stA [iC x20.A,iC x20.B] Q Q gV dM) Q Q Q Q Q (On (Ws ?_))))))))
   refine en [(1,Cc (xF aC keep)),(4,Cc (.pl 22 0)),(5,Cc (.pl 23 0)),(6,Iv s1.1),(7,Cc (.pl 24 0)),(12,Cc (xF aG g.aA)),(13,Iv (g.aA.length : Int)),(14,Iv s1.1)] [(22,.row 26 [[iC 0,sC aO]]),(23,.row 26 [[iC g.aF,lo 28 s1.2.length]]),(24,.row 40 [[iC x20.A,iC x20.B]]),(28,pR 40 aG s1.2)] z8 z4 (Wr (aH (Cc (xF aC keep)) y4 (aH (Iv s1.1) y4 (aY fun bn xC => (aS.pure (bH [.c (xF aC keep),.c (iC s1.1)] (MP keep s1.1 bn xC) Ie (gK y2) J y3) z3 J Q Q (On (aB.dZ (fun j24 => ([(1,Cc (xF aC keep)),(4,Cc (.pl 22 0)),(5,Cc (.pl 23 0)),(12,Cc (xF aG g.aA)),(13,Iv (g.aA.length : Int)),(14,Iv s1.1)],[(22,.row 26 [[iC 0,sC aO]]),(23,.row 26 [[iC g.aF,lo 28 j24.length]]),(28,pR 40 aG j24)])) ?_ (fun j24 _ => ?_))))))))
   ·refine aB.cond Q (fun hc25 => ?_) (fun hc25 => ?_)
    ·refine Wr (cZ (lo 28 s1.2.length) dP dY bG (bV (bJ [iC x20.A,iC x20.B] Q jO gV dM) Q Q Q Q (dF (LT.eY (n := 26) (enc := aG) [(0,.tmp 24,.agg [iC x20.A,iC x20.B])] [x20] Q Q dK dw Q Q Q Q (by decide) (fun _ => Q) Q) Q Q Q (aY fun u26 Jw => (kR (LT.jg (enc := aG) Q Q Q dK dw Q (by decide) (by decide) (fun _ => Q) (iG Jw)) Q Q Q Q Q Q (ah (LT.ig Q dP) Q Q Q (bW (mO (.c (lo 28 ((s1.2 ++ [x20]).length))) [iC g.aF,lo 28 ((s1.2 ++ [x20]).length)] Q Q tN uT) Q Q Q Q Q (On (aZ Q z6 z3)))))))))
    ·refine aB.skip (aZ Q z6 z3)
   ·refine aB.blk (Wr ?_)
    refine aj LT.add af (aH (Iv (aJ (s1.1 + 1))) y4 (On (aZ Q z6 z3)))
  ·refine aB.fH Q ⟨Q,aU.of z2 z3⟩
 ·refine Ws (Wr ?_)
  refine bV (bJ [iC g.aF,lo 28 b18.length] Q bU ai aX) Q Q Q Q (bW (stA [iC g.aF,lo 28 b18.length] Q Q ai aX) Q Q Q Q Q (On (en [(4,Cc (.pl 22 0))] [(22,.row 26 [[iC g.aF,lo 28 b18.length]]),(28,pR 40 aG b18)] z1 z2 (aB.ent (aU.mv 28 0 Q Q) (en [(4,Cc (.pl 22 0))] [(0,pR 40 aG b18),(22,.row 26 [[iC g.aF,lo 0 b18.length]])] z1 z2 (aB.ret (bD.mk (.inr Q) ⟨⟨_,_,_,Q,Q,Q,bU,aX,_,dQ ai⟩,J⟩ z1 Q ⟨⟨ak.sc,J,J⟩,J⟩ ⟨bK.bg jF,J⟩)))))))
theorem TT (g : aQ) (v : Int) : FT Tryz.prog (zT g v) 139 [.agg [iC g.aF,xF aG g.aA],.c (iC v)] [] (fun (t : Bool) => [.c (bC t)]) (fun (t : Bool) => []) [] := by
 refine FT.of [] Tryz.func139 Tryz.ntmps139 Q y2 ?_
 intro w0 U0 R0 g0
 unfold zT
 refine Ws (Wr ?_)
 refine dF (LT.box (n := 21) (v := (.agg [iC g.aF,xF aG g.aA])) Q aX (by exact Q)) Q Q Q (aP (Bv false) au (On (Ws (Wr ?_))))
 refine aH (Iv v) y4 (cZ (iC g.aF) iq bM bG (aj LT.sub af (aY fun r1 hr1 => (aS.pure (bH [.c (iC v),.c (iC 0),.c (iC (aJ (g.aF - 1)))] (EZ v 0 (aJ (g.aF - 1)) r1 hr1) BX (rq y3) J y3) ⟨Q,Q,y2,Q,J⟩ J Q Q (aP (Bv r1) y4 (On (aB.ret (bD.mk (.inr Q) z1 J Q ⟨ak.sc,J⟩ J))))))))
theorem aBu (g : aQ) (keep : (List Int)) : FT Tryz.prog (Dx g keep) 95 [.agg [iC g.aF,xF aG g.aA],.c (xF aC keep)] [] (fun (t : aQ) => [.agg [iC t.aF,lo 0 t.aA.length]]) (fun (t : aQ) => [(0,pR 40 aG t.aA)]) [0] := by
 refine FT.of [] Tryz.func95 Tryz.ntmps95 Q y2 ?_
 intro w0 U0 R0 g0
 unfold Dx
 refine Ws (Wr ?_)
 refine dF (LT.box (n := 21) (v := (.agg [iC g.aF,xF aG g.aA])) Q aX (by exact Q)) Q Q Q (dA (LT.alloc (n := 22) (cells := [iC 0,sC aO]) Q fK Q Q Q) Q Q (On (Ws (Wr ?_))))
 refine cZ (iC g.aF) iq bM bG (dA (LT.eY (n := 23) (enc := aG) [] ([] : List aK) Q Q dK dw Q Q Q Q (by decide) (fun _ => Q) Q) Q Q (fA (LT.build [(0,.tmp 8,.c (iC g.aF)),(1,.tmp 9,.c (lo 23 (([] : List aK).length)))] Q Q uN fK Q Q Q) Q Q Q Q (dA (LT.alloc (n := 24) (cells := [iC 0,sC aO]) Q fK Q Q Q) Q Q (bW (stA [iC g.aF,lo 23 (([] : List aK).length)] Q Q ai aX) Q Q Q Q Q (On (Ws (Ws ?_)))))))
 refine en [(1,Cc (xF aC keep)),(2,Cc (.pl 21 0)),(4,Cc (.pl 22 0)),(5,Cc (.pl 24 0))] [(21,.row 26 [[iC g.aF,xF aG g.aA]]),(22,.row 26 [[iC 0,sC aO]]),(23,pR 40 aG ([] : List aK)),(24,.row 26 [[iC g.aF,lo 23 (([] : List aK).length)]])] z4 z4 (Wr (aP (Iv 0) au (On (aB.block ?_))))
 refine aB.iy (id := 0) (AY g keep) (fun s1 => ([(1,Cc (xF aC keep)),(2,Cc (.pl 21 0)),(4,Cc (.pl 22 0)),(5,Cc (.pl 24 0)),(6,Iv s1.1)],[(21,.row 26 [[iC g.aF,xF aG g.aA]]),(22,.row 26 [[iC 0,sC aO]]),(23,pR 40 aG s1.2),(24,.row 26 [[iC g.aF,lo 23 s1.2.length]])])) (fun b20 => ([(4,Cc (.pl 22 0)),(5,Cc (.pl 24 0))],[(22,.row 26 [[iC 0,sC aO]]),(23,pR 40 aG b20),(24,.row 26 [[iC g.aF,lo 23 b20.length]])])) ?_ (aU.of z5 z4) Q (fun b20 _ => ?_)
 ·intro s1
  unfold AY
  refine Ws (Ws (Wr ?_))
  refine aH (Iv s1.1) y4 (cZ (xF aG g.aA) dP dY bG (ah (LT.gY Q dK) Q Q Q (aj LT.lss y5 (On (aB.cond Q (fun hc21 => ?_) (fun hc21 => ?_))))))
  ·refine aB.skip (Ws (aB.block (Ws (Wr ?_))))
   refine aH (Cc (xF aC keep)) y4 (aH (Iv s1.1) y4 (aY fun r22 Cb => (aS.pure (bH [.c (xF aC keep),.c (iC s1.1)] (MW keep s1.1 r22 Cb) Ig (gK y2) J y3) z3 J Q Q (On (aB.dZ (fun j26 => ([(1,Cc (xF aC keep)),(2,Cc (.pl 21 0)),(4,Cc (.pl 22 0)),(5,Cc (.pl 24 0)),(6,Iv s1.1)],[(21,.row 26 [[iC g.aF,xF aG g.aA]]),(22,.row 26 [[iC 0,sC aO]]),(23,pR 40 aG j26),(24,.row 26 [[iC g.aF,lo 23 j26.length]])])) ?_ (fun j26 _ => ?_))))))
   ·refine aB.cond Q (fun hc27 => ?_) (fun hc27 => ?_)
    ·refine aB.draw mixed (fD (lo 23 s1.2.length) dP dY bG (fD (xF aG g.aA) dP dY bG (bY (Iv s1.1) y4 (aT.bind fun x28 hx28 => (eG (LT.fO (enc := aG) Q iJ hx28 dM) Q Q Q Q (bf (LT.ni Q jO (dQ gV) (by exact dM.symm)) Q Q Q (BL (LT.eY (n := 26) (enc := aG) [(0,.tmp 27,.agg [iC x28.A,iC x28.B])] [x28] Q Q dK dw Q Q Q Q (by decide) (fun _ => Q) Q) Q Q Q (aT.bind fun u29 Yc => (BM (LT.jg (enc := aG) Q Q Q dK dw Q (by decide) (by decide) (fun _ => Q) (iG Yc)) Q Q Q Q Q Q ?_)))))))))
     refine bf (LT.ig Q dP) Q Q Q (ji (mO (.c (lo 23 ((s1.2 ++ [x28]).length))) [iC g.aF,lo 23 ((s1.2 ++ [x28]).length)] Q Q tN uT) Q Q Q Q Q (aT.nil (by kernel_rfl) (aZ Q z5 z4)))
    ·refine aB.skip (aZ Q z5 z4)
   ·refine aB.blk (Wr ?_)
    refine aH (Iv s1.1) y4 (aj LT.add af (aP (Iv (aJ (s1.1 + 1))) y4 (On (aZ Q z5 z4))))
  ·refine aB.fH Q ⟨Q,aU.of z2 z3⟩
 ·refine Ws (Wr ?_)
  refine bV (bJ [iC g.aF,lo 23 b20.length] Q bU ai aX) Q Q Q Q (bW (stA [iC g.aF,lo 23 b20.length] Q Q ai aX) Q Q Q Q Q (On (en [(4,Cc (.pl 22 0))] [(22,.row 26 [[iC g.aF,lo 23 b20.length]]),(23,pR 40 aG b20)] z1 z2 (aB.ent (aU.mv 23 0 Q Q) (en [(4,Cc (.pl 22 0))] [(0,pR 40 aG b20),(22,.row 26 [[iC g.aF,lo 0 b20.length]])] z1 z2 (aB.ret (bD.mk (.inr Q) ⟨⟨_,_,_,Q,Q,Q,bU,aX,_,dQ ai⟩,J⟩ z1 Q ⟨⟨ak.sc,J,J⟩,J⟩ ⟨bK.bg jF,J⟩)))))))
end Go.Proofs.YtdmlaldifbmkpaaGreat
end
section
set_option linter.unusedVariables false
set_option linter.unusedSimpArgs false
set_option linter.unnecessarySimpa false
set_option maxRecDepth 100000
set_option maxHeartbeats 8000000
open Go Go.Fw
namespace Go.Proofs.YtdmlaldifbmkpaaGreat
theorem aB0 (c : dB) : FT Tryz.prog (D6 c) 146 [.c (.pl 0 0)] [(0,.row 105 [[xT bF c.b,iC c.i,iC c.h]])] (fun (t : (aQ × dB)) => [.agg [iC t.1.aF,lo 1 t.1.aA.length]]) (fun (t : (aQ × dB)) => [(0,.row 105 [[xT bF t.2.b,iC t.2.i,iC t.2.h]]),(1,pR 40 aG t.1.aA)]) [1] := by
 refine FT.of [0] Tryz.func146 Tryz.ntmps146 Q y2 ?_
 intro w0 U0 R0 g0
 unfold D6
 refine Ws (Wr ?_)
 refine dA (LT.alloc (n := 21) (cells := [iC 0,sC aO]) Q fK Q Q Q) Q Q (On (Ws (Wr ?_)))
 refine aH (Cc (.pl 0 0)) y4 (aH (Cc (.pl 0 0)) y4 (aY fun r1 hr1 => (aS.step (bH [.c (.pl 0 0),.c (iC 5)] (Fw.Fn.ren [(0,0)] (jq c 5 r1 hr1) Q) jk (gK y2) z1 y3) ⟨Q,Q,y2,J⟩ z1 Q Q (aj LT.add sG (aH (Cc (.pl 0 0)) y4 (aY fun r2 hr2 => (aS.step (bH [.c (.pl 0 0),.c (iC 4)] (Fw.Fn.ren [(0,0)] (jq r1.2 4 r2 hr2) Q) jk (gK y2) z1 y3) ⟨Q,Q,y2,J⟩ z1 Q Q (aj LT.add sG (aY fun r3 hr3 => (aS.step (bH [.c (.pl 0 0),.c (iC (aJ (2 + r1.1))),.c (iC (aJ (5 + r2.1)))] (Fw.Fn.ren [(0,0),(1,25)] (aB1 r2.2 (aJ (2 + r1.1)) (aJ (5 + r2.1)) r3 hr3) Q) VE (rq y3) z1 y3) z4 z1 Q Q (dA (LT.alloc (n := 26) (cells := [iC 0,sC aO]) Q fK Q Q Q) Q Q ?_)))))))))))
 refine bW (stA [iC r3.1.aF,lo 25 r3.1.aA.length] Q Q ai aX) Q Q Q Q Q (On (Ws (Ws ?_)))
 refine en [(0,Cc (.pl 0 0)),(2,Cc (.pl 21 0)),(3,Cc (.pl 26 0))] [(0,.row 105 [[xT bF r3.2.b,iC r3.2.i,iC r3.2.h]]),(21,.row 26 [[iC 0,sC aO]]),(25,pR 40 aG r3.1.aA),(26,.row 26 [[iC r3.1.aF,lo 25 r3.1.aA.length]])] z3 z4 (Wr (aH (Cc (.pl 0 0)) y4 (aY fun r4 hr4 => (aS.step (bH [.c (.pl 0 0),.c (iC 3)] (Fw.Fn.ren [(0,0)] (jq r3.2 3 r4 hr4) Q) jk (gK y2) z1 y3) ⟨Q,Q,y2,J⟩ z1 Q Q (aH (Cc (.pl 0 0)) y4 (aY fun r5 lW => (aS.step (bH [.c (.pl 0 0),.c (iC 2)] (Fw.Fn.ren [(0,0)] (jq r4.2 2 r5 lW) Q) jk (gK y2) z1 y3) ⟨Q,Q,y2,J⟩ z1 Q Q (aj LT.mul y5 (aP (Iv (aJ (r4.1 * r5.1))) y4 (On (aB.block ?_)))))))))))
 refine aB.iy (id := 0) D7 (fun s6 => ([(0,Cc (.pl 0 0)),(2,Cc (.pl 21 0)),(3,Cc (.pl 26 0)),(4,Iv s6.1)],[(0,.row 105 [[xT bF s6.2.1,iC s6.2.2.1,iC s6.2.2.2.1]]),(21,.row 26 [[iC 0,sC aO]]),(25,pR 40 aG s6.2.2.2.2.2),(26,.row 26 [[iC s6.2.2.2.2.1,lo 25 s6.2.2.2.2.2.length]])])) (fun b15 => ([(2,Cc (.pl 21 0)),(3,Cc (.pl 26 0))],[(0,.row 105 [[xT bF b15.1,iC b15.2.1,iC b15.2.2.1]]),(21,.row 26 [[iC 0,sC aO]]),(25,pR 40 aG b15.2.2.2.1),(26,.row 26 [[iC b15.2.2.2.2,lo 25 b15.2.2.2.1.length]])])) ?_ (aU.of z4 z4) Q (fun b15 _ => ?_)
 ·intro s6
  unfold D7
  refine Ws (Ws (Wr ?_))
  refine aH (Iv s6.1) y4 (aj LT.gtr af (On (aB.cond Q (fun hc16 => ?_) (fun hc16 => ?_))))
  ·refine aB.skip (Ws (aB.block (Ws (Wr ?_))))
   refine aH (Cc (.pl 0 0)) y4 (cZ (iC s6.2.2.2.2.1) iq bM bG (aY fun lS Jg => (aS.step (bH [.c (.pl 0 0),.c (iC s6.2.2.2.2.1)] (Fw.Fn.ren [(0,0)] (jq (dB.mk s6.2.1 s6.2.2.1 s6.2.2.2.1) s6.2.2.2.2.1 lS Jg) Q) jk (gK y2) z1 y3) z3 z1 Q Q (aP (Iv lS.1) y4 (On (Ws (Wr ?_)))))))
   refine aH (Cc (.pl 0 0)) y4 (cZ (iC s6.2.2.2.2.1) iq bM bG (aY fun fJ qi => (aS.step (bH [.c (.pl 0 0),.c (iC s6.2.2.2.2.1)] (Fw.Fn.ren [(0,0)] (jq lS.2 s6.2.2.2.2.1 fJ qi) Q) jk (gK y2) z1 y3) z3 z1 Q Q (aP (Iv fJ.1) y4 (On (en [(0,Cc (.pl 0 0)),(2,Cc (.pl 21 0)),(3,Cc (.pl 26 0)),(4,Iv s6.1),(5,Iv lS.1),(6,Iv fJ.1)] [(0,.row 105 [[xT bF fJ.2.b,iC fJ.2.i,iC fJ.2.h]]),(21,.row 26 [[iC 0,sC aO]]),(25,pR 40 aG s6.2.2.2.2.2),(26,.row 26 [[iC s6.2.2.2.2.1,lo 25 s6.2.2.2.2.2.length]])] z6 z4 (Wr (bV (bJ [iC s6.2.2.2.2.1,lo 25 s6.2.2.2.2.2.length] Q bU ai aX) Q Q Q Q (aH (Iv lS.1) y4 (aH (Iv fJ.1) y4 ?_))))))))))
   refine aY fun fE tJ => (aS.step (cF [.agg [iC s6.2.2.2.2.1,lo 25 s6.2.2.2.2.2.length],.c (iC lS.1),.c (iC fJ.1)] [(25,pR 40 aG s6.2.2.2.2.2)] (Fw.Fn.ren [(0,32)] (H6 (aQ.mk s6.2.2.2.2.1 s6.2.2.2.2.2) lS.1 fJ.1 fE tJ) Q) FB (.cons (.agg (.cons (.same Q) (.cons (.dN Q Q) .nil))) (.cons (.c (.same Q)) (.cons (.c (.same Q)) .nil))) J y3) z4 z1 Q Q (aH (.dI [.agg [iC fE.1.aF,lo 32 fE.1.aA.length],.c (bC fE.2)]) y4 (ah (LT.extract (v := (.agg [iC fE.1.aF,lo 32 fE.1.aA.length])) Q (by exact Q)) Q Q Q (ah (LT.extract (v := (.c (bC fE.2))) Q (by exact Q)) Q Q Q (bW (stA [iC fE.1.aF,lo 32 fE.1.aA.length] Q Q ai aX) Q Q Q Q Q (On (aB.blk ?_)))))))
   refine en [(0,Cc (.pl 0 0)),(2,Cc (.pl 21 0)),(3,Cc (.pl 26 0)),(4,Iv s6.1)] [(0,.row 105 [[xT bF fJ.2.b,iC fJ.2.i,iC fJ.2.h]]),(21,.row 26 [[iC 0,sC aO]]),(26,.row 26 [[iC fE.1.aF,lo 32 fE.1.aA.length]]),(32,pR 40 aG fE.1.aA)] z4 z4 (Wr (aH (Iv s6.1) y4 (aj LT.sub af (aP (Iv (aJ (s6.1 - 1))) y4 (On (en [(0,Cc (.pl 0 0)),(2,Cc (.pl 21 0)),(3,Cc (.pl 26 0)),(4,Iv (aJ (s6.1 - 1)))] [(0,.row 105 [[xT bF fJ.2.b,iC fJ.2.i,iC fJ.2.h]]),(21,.row 26 [[iC 0,sC aO]]),(26,.row 26 [[iC fE.1.aF,lo 32 fE.1.aA.length]]),(32,pR 40 aG fE.1.aA)] z4 z4 (aB.ent (aU.mv 32 25 Q Q) (aZ Q z4 z4))))))))
  ·refine aB.fH Q ⟨Q,aU.of z2 z4⟩
 ·refine Ws (Wr ?_)
  refine bV (bJ [iC b15.2.2.2.2,lo 25 b15.2.2.2.1.length] Q bU ai aX) Q Q Q Q (bW (stA [iC b15.2.2.2.2,lo 25 b15.2.2.2.1.length] Q Q ai aX) Q Q Q Q Q (On (en [(2,Cc (.pl 21 0))] [(0,.row 105 [[xT bF b15.1,iC b15.2.1,iC b15.2.2.1]]),(21,.row 26 [[iC b15.2.2.2.2,lo 25 b15.2.2.2.1.length]]),(25,pR 40 aG b15.2.2.2.1)] z1 z3 (aB.ent (aU.mv 25 1 Q Q) (en [(2,Cc (.pl 21 0))] [(0,.row 105 [[xT bF b15.1,iC b15.2.1,iC b15.2.2.1]]),(1,pR 40 aG b15.2.2.2.1),(21,.row 26 [[iC b15.2.2.2.2,lo 1 b15.2.2.2.1.length]])] z1 z3 (aB.ret (bD.mk (.inr Q) ⟨⟨_,_,_,Q,Q,Q,bU,aX,_,dQ ai⟩,J⟩ z2 Q ⟨⟨ak.sc,J,J⟩,J⟩ ⟨bK.kP ⟨mX mY,ak.sc,ak.sc,J⟩,bK.bg jF,J⟩)))))))
theorem UE (c : dB) : FT Tryz.prog (Ae c) 94 [.c (.pl 0 0)] [(0,.row 105 [[xT bF c.b,iC c.i,iC c.h]])] (fun (t : (aQ × dB)) => [.agg [iC t.1.aF,lo 1 t.1.aA.length]]) (fun (t : (aQ × dB)) => [(0,.row 105 [[xT bF t.2.b,iC t.2.i,iC t.2.h]]),(1,pR 40 aG t.1.aA)]) [1] := by
 refine FT.of [0] Tryz.func94 Tryz.ntmps94 Q y2 ?_
 intro w0 U0 R0 g0
 unfold Ae
 refine Ws (Wr ?_)
 refine dA (LT.alloc (n := 21) (cells := [iC 0,sC aO]) Q fK Q Q Q) Q Q (On (Ws (Wr ?_)))
 refine aH (Cc (.pl 0 0)) y4 (aY fun r1 hr1 => (aS.step (bH [.c (.pl 0 0)] (Fw.Fn.ren [(0,0),(1,23)] (aB0 c r1 hr1) Q) U6 (lI Q) z1 y3) z2 z1 Q Q (dA (LT.alloc (n := 24) (cells := [iC 0,sC aO]) Q fK Q Q Q) Q Q (bW (stA [iC r1.1.aF,lo 23 r1.1.aA.length] Q Q ai aX) Q Q Q Q Q (On (Ws (Ws ?_)))))))
 refine en [(0,Cc (.pl 0 0)),(2,Cc (.pl 21 0)),(3,Cc (.pl 24 0))] [(0,.row 105 [[xT bF r1.2.b,iC r1.2.i,iC r1.2.h]]),(21,.row 26 [[iC 0,sC aO]]),(23,pR 40 aG r1.1.aA),(24,.row 26 [[iC r1.1.aF,lo 23 r1.1.aA.length]])] z3 z4 (Wr (aH (Cc (.pl 0 0)) y4 (aY fun r2 hr2 => (aS.step (bH [.c (.pl 0 0),.c (iC 16)] (Fw.Fn.ren [(0,0)] (jq r1.2 16 r2 hr2) Q) jk (gK y2) z1 y3) ⟨Q,Q,y2,J⟩ z1 Q Q (On (aB.block (Ws (Wr ?_))))))))
 refine aj LT.eql af (aP (Bv (r2.1 == 0)) y4 (On (aB.dZ (fun j9 => ([(2,Cc (.pl 21 0)),(3,Cc (.pl 24 0))],[(0,.row 105 [[xT bF j9.1,iC j9.2.1,iC j9.2.2.1]]),(21,.row 26 [[iC 0,sC aO]]),(23,pR 40 aG j9.2.2.2.2),(24,.row 26 [[iC j9.2.2.2.1,lo 23 j9.2.2.2.2.length]])])) ?_ (fun j9 _ => ?_))))
 ·refine aB.cond Q (fun Wq => ?_) (fun Wq => ?_)
  ·refine Wr (aH (Cc (.pl 0 0)) y4 (UZ (LT.eY (n := 26) (enc := aC) [(0,.const (.int .i64 0),.c (iC 0)),(1,.const (.int .i64 (-1)),.c (iC (-1))),(2,.const (.int .i64 9),.c (iC 9)),(3,.const (.int .i64 3),.c (iC 3))] ([0,-1,9,3] : List Int) Q Q dO fF Q Q Q Q (by decide) (fun _ => Q) Q) y2 y2 y2 y2 Q Q (aY fun r11 CY => (aS.step (cF [.c (.pl 0 0),.c (lo 26 (([0,-1,9,3] : List Int).length))] [(26,pR 3 aC ([0,-1,9,3] : List Int))] (Fw.Fn.ren [(0,0)] (aBz r2.2 ([0,-1,9,3] : List Int) r11 CY) Q) Ux (.cons (.c (.same Q)) (.cons (.c (.dN Q Q)) .nil)) z1 y3) z3 z2 Q Q (ah (LT.ig Q iq) Q Q Q (bW (mO (.c (iC r11.1)) [iC r11.1,lo 23 r1.1.aA.length] Q Q oz jB) Q Q Q Q Q (On (aZ Q z2 z4))))))))
  ·refine Ws (Wr ?_)
   refine aj LT.eql af (aP (Bv (r2.1 == 1)) y4 (On (aB.cond Q (fun hc12 => ?_) (fun hc12 => ?_))))
   ·refine aB.draw mixed (fD (lo 23 r1.1.aA.length) dP dY bG (bY (Cc (.pl 0 0)) y4 (aT.bind fun r13 tH => (aT.step (bH [.c (.pl 0 0),.c (iC 3)] (Fw.Fn.ren [(0,0)] (jq r2.2 3 r13 tH) Q) jk (gK y2) z1 y3) ⟨Q,Q,y2,J⟩ z1 Q Q (bY (Cc (.pl 0 0)) y4 (aT.bind fun iM Je => (aT.step (bH [.c (.pl 0 0),.c (iC 9)] (Fw.Fn.ren [(0,0)] (jq r13.2 9 iM Je) Q) jk (gK y2) z1 y3) ⟨Q,Q,y2,J⟩ z1 Q Q (eG (LT.build [(0,.tmp 19,.c (iC r13.1)),(1,.tmp 21,.c (iC iM.1))] Q Q qE dw Q Q Q) Q Q Q Q (BL (LT.eY (n := 30) (enc := aG) [(0,.tmp 22,.agg [iC r13.1,iC iM.1])] [aK.mk r13.1 iM.1] Q Q dK dw Q Q Q Q (by decide) (fun _ => Q) Q) Q Q Q (aT.bind fun u15 YW => ?_))))))))))
    refine BM (LT.jg (enc := aG) Q Q Q dK dw Q (by decide) (by decide) (fun _ => Q) (iG YW)) Q Q Q Q Q Q (bf (LT.ig Q dP) Q Q Q (ji (mO (.c (lo 23 ((r1.1.aA ++ [aK.mk r13.1 iM.1]).length))) [iC r1.1.aF,lo 23 ((r1.1.aA ++ [aK.mk r13.1 iM.1]).length)] Q Q tN uT) Q Q Q Q Q (aT.nil (by kernel_rfl) (aZ Q z2 z4))))
   ·refine aB.skip (aZ Q z2 z4)
 ·refine aB.blk (Ws (Wr ?_))
  refine bV (bJ [iC j9.2.2.2.1,lo 23 j9.2.2.2.2.length] Q bU ai aX) Q Q Q Q (bW (stA [iC j9.2.2.2.1,lo 23 j9.2.2.2.2.length] Q Q ai aX) Q Q Q Q Q (On (en [(2,Cc (.pl 21 0))] [(0,.row 105 [[xT bF j9.1,iC j9.2.1,iC j9.2.2.1]]),(21,.row 26 [[iC j9.2.2.2.1,lo 23 j9.2.2.2.2.length]]),(23,pR 40 aG j9.2.2.2.2)] z1 z3 (aB.ent (aU.mv 23 1 Q Q) (en [(2,Cc (.pl 21 0))] [(0,.row 105 [[xT bF j9.1,iC j9.2.1,iC j9.2.2.1]]),(1,pR 40 aG j9.2.2.2.2),(21,.row 26 [[iC j9.2.2.2.1,lo 1 j9.2.2.2.2.length]])] z1 z3 (aB.ret (bD.mk (.inr Q) ⟨⟨_,_,_,Q,Q,Q,bU,aX,_,dQ ai⟩,J⟩ z2 Q ⟨⟨ak.sc,J,J⟩,J⟩ ⟨bK.kP ⟨mX mY,ak.sc,ak.sc,J⟩,bK.bg jF,J⟩)))))))
theorem UH (c : dB) : FT Tryz.prog (Ak c) 84 [.c (.pl 0 0)] [(0,.row 105 [[xT bF c.b,iC c.i,iC c.h]])] (fun (t : (aQ × dB)) => [.agg [iC t.1.aF,lo 1 t.1.aA.length]]) (fun (t : (aQ × dB)) => [(0,.row 105 [[xT bF t.2.b,iC t.2.i,iC t.2.h]]),(1,pR 40 aG t.1.aA)]) [1] := by
 refine FT.of [0] Tryz.func84 Tryz.ntmps84 Q y2 ?_
 intro w0 U0 R0 g0
 unfold Ak
 refine Ws (Wr ?_)
 refine dA (LT.alloc (n := 21) (cells := [iC 0,sC aO]) Q fK Q Q Q) Q Q (On (Ws (Ws (Wr ?_))))
 refine aH (Cc (.pl 0 0)) y4 (aY fun r1 hr1 => (aS.step (bH [.c (.pl 0 0),.c (iC 4)] (Fw.Fn.ren [(0,0)] (jq c 4 r1 hr1) Q) jk (gK y2) z1 y3) ⟨Q,Q,y2,J⟩ z1 Q Q (On (aB.block (Ws (Wr ?_))))))
 refine aj LT.eql af (aP (Bv (r1.1 == 0)) y4 (On (aB.cond Q (fun hc2 => ?_) (fun hc2 => ?_))))
 ·refine Ws (Wr ?_)
  refine aH (Cc (.pl 0 0)) y4 (aY fun r3 hr3 => (aS.step (bH [.c (.pl 0 0)] (Fw.Fn.ren [(0,0),(1,24)] (UE r1.2 r3 hr3) Q) OX (lI Q) z1 y3) z2 z1 Q Q (bW (stA [iC r3.1.aF,lo 24 r3.1.aA.length] Q Q ai aX) Q Q Q Q Q (On (en [(2,Cc (.pl 21 0))] [(0,.row 105 [[xT bF r3.2.b,iC r3.2.i,iC r3.2.h]]),(21,.row 26 [[iC r3.1.aF,lo 24 r3.1.aA.length]]),(24,pR 40 aG r3.1.aA)] z1 z3 (aB.ent (aU.mv 24 1 Q Q) (en [(2,Cc (.pl 21 0))] [(0,.row 105 [[xT bF r3.2.b,iC r3.2.i,iC r3.2.h]]),(1,pR 40 aG r3.1.aA),(21,.row 26 [[iC r3.1.aF,lo 1 r3.1.aA.length]])] z1 z3 (aB.ret (bD.mk (.inr Q) ⟨⟨_,_,_,Q,Q,Q,bU,aX,_,dQ ai⟩,J⟩ z2 Q ⟨⟨ak.sc,J,J⟩,J⟩ ⟨bK.kP ⟨mX mY,ak.sc,ak.sc,J⟩,bK.bg jF,J⟩)))))))))
 ·refine Ws (Wr ?_)
  refine aj LT.eql af (aP (Bv (r1.1 == 1)) y4 (On (aB.cond Q (fun hc4 => ?_) (fun hc4 => ?_))))
  ·refine Ws (en [(0,Cc (.pl 0 0)),(2,Cc (.pl 21 0))] [(0,.row 105 [[xT bF r1.2.b,iC r1.2.i,iC r1.2.h]]),(21,.row 26 [[iC 0,sC aO]])] z2 z2 (Wr (aH (Cc (.pl 0 0)) y4 (aH (Cc (.pl 0 0)) y4 (aY fun r5 lW => (aS.step (bH [.c (.pl 0 0),.c (iC 5)] (Fw.Fn.ren [(0,0)] (jq r1.2 5 r5 lW) Q) jk (gK y2) z1 y3) ⟨Q,Q,y2,J⟩ z1 Q Q (aj LT.add sG (aY fun r6 xH => (aS.step (bH [.c (.pl 0 0),.c (iC (aJ (2 + r5.1)))] (Fw.Fn.ren [(0,0),(1,27)] (MX r5.2 (aJ (2 + r5.1)) r6 xH) Q) Ic (gK y2) z1 y3) z3 z1 Q Q (dA (LT.alloc (n := 28) (cells := [iC 0,sC aO]) Q fK Q Q Q) Q Q (bW (stA [iC r6.1.aF,lo 27 r6.1.aA.length] Q Q ai aX) Q Q Q Q Q ?_)))))))))))
   refine On (Ws ?_)
   refine en [(0,Cc (.pl 0 0)),(2,Cc (.pl 21 0)),(3,Cc (.pl 28 0))] [(0,.row 105 [[xT bF r6.2.b,iC r6.2.i,iC r6.2.h]]),(21,.row 26 [[iC 0,sC aO]]),(27,pR 40 aG r6.1.aA),(28,.row 26 [[iC r6.1.aF,lo 27 r6.1.aA.length]])] z3 z4 (aB.draw mixed (fU (bJ [iC r6.1.aF,lo 27 r6.1.aA.length] Q bU ai aX) Q Q Q Q (bY (Cc (.pl 0 0)) y4 (fD (lo 27 r6.1.aA.length) dP dY bG (bf (LT.lX Q dK) Q Q Q (aT.bind fun r7 nN => (aT.step (bH [.c (.pl 0 0),.c (iC (r6.1.aA.length : Int))] (Fw.Fn.ren [(0,0)] (jq r6.2 (r6.1.aA.length : Int) r7 nN) Q) jk (gK y2) z1 y3) z3 z1 Q Q (aT.bind fun r8 Cj => (aT.step (cF [.agg [iC r6.1.aF,lo 27 r6.1.aA.length],.c (iC r7.1)] [(27,pR 40 aG r6.1.aA)] (Fw.Fn.ren [(0,31)] (MS r6.1 r7.1 r8 Cj) Q) Ia (.cons (.agg (.cons (.same Q) (.cons (.dN Q Q) .nil))) (.cons (.c (.same Q)) .nil)) J y3) z3 z1 Q Q (bY (.dI [.agg [iC r8.1.aF,lo 31 r8.1.aA.length],.c (bC r8.2)]) y4 ?_))))))))))
   refine bf (LT.extract (v := (.agg [iC r8.1.aF,lo 31 r8.1.aA.length])) Q (by exact Q)) Q Q Q (bf (LT.extract (v := (.c (bC r8.2))) Q (by exact Q)) Q Q Q (qy (LT.alloc (n := 32) (cells := [iC 0,sC aO]) Q fK Q Q Q) Q Q (ji (stA [iC r8.1.aF,lo 31 r8.1.aA.length] Q Q ai aX) Q Q Q Q Q (bf (LT.assign (v := (Bv r8.2)) Q) Q Q Q (aT.nil (by kernel_rfl) (Ws (en [(2,Cc (.pl 21 0)),(4,Cc (.pl 32 0))] [(0,.row 105 [[xT bF r7.2.b,iC r7.2.i,iC r7.2.h]]),(21,.row 26 [[iC 0,sC aO]]),(31,pR 40 aG r8.1.aA),(32,.row 26 [[iC r8.1.aF,lo 31 r8.1.aA.length]])] z2 z4 (Wr (bV (bJ [iC r8.1.aF,lo 31 r8.1.aA.length] Q bU ai aX) Q Q Q Q (bW (stA [iC r8.1.aF,lo 31 r8.1.aA.length] Q Q ai aX) Q Q Q Q Q (On ?_)))))))))))
   refine en [(2,Cc (.pl 21 0))] [(0,.row 105 [[xT bF r7.2.b,iC r7.2.i,iC r7.2.h]]),(21,.row 26 [[iC r8.1.aF,lo 31 r8.1.aA.length]]),(31,pR 40 aG r8.1.aA)] z1 z3 (aB.ent (aU.mv 31 1 Q Q) (en [(2,Cc (.pl 21 0))] [(0,.row 105 [[xT bF r7.2.b,iC r7.2.i,iC r7.2.h]]),(1,pR 40 aG r8.1.aA),(21,.row 26 [[iC r8.1.aF,lo 1 r8.1.aA.length]])] z1 z3 (aB.ret (bD.mk (.inr Q) ⟨⟨_,_,_,Q,Q,Q,bU,aX,_,dQ ai⟩,J⟩ z2 Q ⟨⟨ak.sc,J,J⟩,J⟩ ⟨bK.kP ⟨mX mY,ak.sc,ak.sc,J⟩,bK.bg jF,J⟩))))
  ·refine Ws (en [(0,Cc (.pl 0 0)),(2,Cc (.pl 21 0)),(12,Iv r1.1)] [(0,.row 105 [[xT bF r1.2.b,iC r1.2.i,iC r1.2.h]]),(21,.row 26 [[iC 0,sC aO]])] z3 z2 (Wr (aj LT.eql af (aP (Bv (r1.1 == 2)) y4 (On (aB.cond Q (fun wz => ?_) (fun wz => ?_)))))))
   ·refine Ws (Wr ?_)
    refine aH (Cc (.pl 0 0)) y4 (aH (Cc (.pl 0 0)) y4 (aY fun r10 Jb => (aS.step (bH [.c (.pl 0 0),.c (iC 5)] (Fw.Fn.ren [(0,0)] (jq r1.2 5 r10 Jb) Q) jk (gK y2) z1 y3) ⟨Q,Q,y2,J⟩ z1 Q Q (aj LT.add sG (aY fun r11 CY => (aS.step (bH [.c (.pl 0 0),.c (iC (aJ (2 + r10.1)))] (Fw.Fn.ren [(0,0),(1,35)] (MX r10.2 (aJ (2 + r10.1)) r11 CY) Q) Ic (gK y2) z1 y3) z3 z1 Q Q (dA (LT.alloc (n := 36) (cells := [iC 0,sC aO]) Q fK Q Q Q) Q Q (bW (stA [iC r11.1.aF,lo 35 r11.1.aA.length] Q Q ai aX) Q Q Q Q Q (On (Ws ?_))))))))))
    refine en [(0,Cc (.pl 0 0)),(2,Cc (.pl 21 0)),(6,Cc (.pl 36 0))] [(0,.row 105 [[xT bF r11.2.b,iC r11.2.i,iC r11.2.h]]),(21,.row 26 [[iC 0,sC aO]]),(35,pR 40 aG r11.1.aA),(36,.row 26 [[iC r11.1.aF,lo 35 r11.1.aA.length]])] z3 z4 (Wr (aH (Cc (.pl 0 0)) y4 (cZ (iC r11.1.aF) iq bM bG (aY fun r12 Jd => (aS.step (bH [.c (.pl 0 0),.c (iC r11.1.aF)] (Fw.Fn.ren [(0,0)] (jq r11.2 r11.1.aF r12 Jd) Q) jk (gK y2) z1 y3) z3 z1 Q Q (aP (Iv r12.1) y4 (On (Ws (Wr ?_)))))))))
    refine aH (Cc (.pl 0 0)) y4 (cZ (iC r11.1.aF) iq bM bG (aY fun r13 tH => (aS.step (bH [.c (.pl 0 0),.c (iC r11.1.aF)] (Fw.Fn.ren [(0,0)] (jq r12.2 r11.1.aF r13 tH) Q) jk (gK y2) z1 y3) z3 z1 Q Q (aP (Iv r13.1) y4 (On (Ws ?_))))))
    refine en [(2,Cc (.pl 21 0)),(6,Cc (.pl 36 0)),(7,Iv r12.1),(8,Iv r13.1)] [(0,.row 105 [[xT bF r13.2.b,iC r13.2.i,iC r13.2.h]]),(21,.row 26 [[iC 0,sC aO]]),(35,pR 40 aG r11.1.aA),(36,.row 26 [[iC r11.1.aF,lo 35 r11.1.aA.length]])] z4 z4 (Wr (bV (bJ [iC r11.1.aF,lo 35 r11.1.aA.length] Q bU ai aX) Q Q Q Q (aH (Iv r12.1) y4 (aH (Iv r13.1) y4 (aY fun iM Je => (aS.step (cF [.agg [iC r11.1.aF,lo 35 r11.1.aA.length],.c (iC r12.1),.c (iC r13.1)] [(35,pR 40 aG r11.1.aA)] (Fw.Fn.ren [(0,40)] (H6 r11.1 r12.1 r13.1 iM Je) Q) FB (.cons (.agg (.cons (.same Q) (.cons (.dN Q Q) .nil))) (.cons (.c (.same Q)) (.cons (.c (.same Q)) .nil))) J y3) z4 z1 Q Q (aH (.dI [.agg [iC iM.1.aF,lo 40 iM.1.aA.length],.c (bC iM.2)]) y4 (ah (LT.extract (v := (.agg [iC iM.1.aF,lo 40 iM.1.aA.length])) Q (by exact Q)) Q Q Q (ah (LT.extract (v := (.c (bC iM.2))) Q (by exact Q)) Q Q Q (dA (LT.alloc (n := 41) (cells := [iC 0,sC aO]) Q fK Q Q Q) Q Q (bW (stA [iC iM.1.aF,lo 40 iM.1.aA.length] Q Q ai aX) Q Q Q Q Q ?_)))))))))))
    refine aP (Bv iM.2) y4 (On (Ws ?_))
    refine en [(2,Cc (.pl 21 0)),(9,Cc (.pl 41 0))] [(0,.row 105 [[xT bF r13.2.b,iC r13.2.i,iC r13.2.h]]),(21,.row 26 [[iC 0,sC aO]]),(40,pR 40 aG iM.1.aA),(41,.row 26 [[iC iM.1.aF,lo 40 iM.1.aA.length]])] z2 z4 (Wr (bV (bJ [iC iM.1.aF,lo 40 iM.1.aA.length] Q bU ai aX) Q Q Q Q (bW (stA [iC iM.1.aF,lo 40 iM.1.aA.length] Q Q ai aX) Q Q Q Q Q (On (en [(2,Cc (.pl 21 0))] [(0,.row 105 [[xT bF r13.2.b,iC r13.2.i,iC r13.2.h]]),(21,.row 26 [[iC iM.1.aF,lo 40 iM.1.aA.length]]),(40,pR 40 aG iM.1.aA)] z1 z3 (aB.ent (aU.mv 40 1 Q Q) (en [(2,Cc (.pl 21 0))] [(0,.row 105 [[xT bF r13.2.b,iC r13.2.i,iC r13.2.h]]),(1,pR 40 aG iM.1.aA),(21,.row 26 [[iC iM.1.aF,lo 1 iM.1.aA.length]])] z1 z3 (aB.ret (bD.mk (.inr Q) ⟨⟨_,_,_,Q,Q,Q,bU,aX,_,dQ ai⟩,J⟩ z2 Q ⟨⟨ak.sc,J,J⟩,J⟩ ⟨bK.kP ⟨mX mY,ak.sc,ak.sc,J⟩,bK.bg jF,J⟩)))))))))
   ·refine aB.skip (aB.blk (Ws (Wr ?_)))
    refine aH (Cc (.pl 0 0)) y4 (aH (Cc (.pl 0 0)) y4 (aY fun gq CZ => (aS.step (bH [.c (.pl 0 0),.c (iC 6)] (Fw.Fn.ren [(0,0)] (jq r1.2 6 gq CZ) Q) jk (gK y2) z1 y3) ⟨Q,Q,y2,J⟩ z1 Q Q (aj LT.add sG (aY fun r16 X4 => (aS.step (bH [.c (.pl 0 0),.c (iC (aJ (1 + gq.1)))] (Fw.Fn.ren [(0,0),(1,44)] (MX gq.2 (aJ (1 + gq.1)) r16 X4) Q) Ic (gK y2) z1 y3) z3 z1 Q Q (bW (stA [iC r16.1.aF,lo 44 r16.1.aA.length] Q Q ai aX) Q Q Q Q Q (On (en [(2,Cc (.pl 21 0))] [(0,.row 105 [[xT bF r16.2.b,iC r16.2.i,iC r16.2.h]]),(21,.row 26 [[iC r16.1.aF,lo 44 r16.1.aA.length]]),(44,pR 40 aG r16.1.aA)] z1 z3 (aB.ent (aU.mv 44 1 Q Q) (en [(2,Cc (.pl 21 0))] [(0,.row 105 [[xT bF r16.2.b,iC r16.2.i,iC r16.2.h]]),(1,pR 40 aG r16.1.aA),(21,.row 26 [[iC r16.1.aF,lo 1 r16.1.aA.length]])] z1 z3 ?_)))))))))))
    refine aB.ret (bD.mk (.inr Q) ⟨⟨_,_,_,Q,Q,Q,bU,aX,_,dQ ai⟩,J⟩ z2 Q ⟨⟨ak.sc,J,J⟩,J⟩ ⟨bK.kP ⟨mX mY,ak.sc,ak.sc,J⟩,bK.bg jF,J⟩)
theorem Tq (g : aQ) (a : Int) (b : Int) : FT Tryz.prog (xg g a b) 97 [.agg [iC g.aF,xF aG g.aA],.c (iC a),.c (iC b)] [] (fun (t : Int) => [.c (iC t)]) (fun (t : Int) => []) [] := by
 refine FT.of [] Tryz.func97 Tryz.ntmps97 Q y2 ?_
 intro w0 U0 R0 g0
 unfold xg
 refine Ws (Wr ?_)
 refine dF (LT.box (n := 21) (v := (.agg [iC g.aF,xF aG g.aA])) Q aX (by exact Q)) Q Q Q (aP (Iv 0) au (On (Ws (Wr ?_))))
 refine aP (Iv 0) au (On (Ws (Ws (Wr ?_))))
 refine aP (Iv 0) au (On (aB.block ?_))
 refine aB.iy (id := 0) (vT g a b) (fun s1 => ([(1,Iv a),(2,Iv b),(3,Cc (.pl 21 0)),(7,Iv s1.1),(8,Iv s1.2)],[(21,.row 26 [[iC g.aF,xF aG g.aA]])])) (fun jT => ([(7,Iv jT)],[])) ?_ (aU.of z5 z1) Q (fun jT _ => ?_)
 ·intro s1
  unfold vT
  refine Ws (Ws (Wr ?_))
  refine aH (Iv s1.2) y4 (cZ (xF aG g.aA) dP dY bG (ah (LT.gY Q dK) Q Q Q (aj LT.lss y5 (On (aB.cond Q (fun CJ => ?_) (fun CJ => ?_))))))
  ·refine aB.skip (Ws (aB.block (Ws ?_)))
   refine aB.dZ (fun j64 => ([(1,Iv a),(2,Iv b),(3,Cc (.pl 21 0)),(7,Iv s1.1),(8,Iv s1.2),(53,Bv j64)],[(21,.row 26 [[iC g.aF,xF aG g.aA]])])) ?_ (fun j64 _ => ?_)
   ·refine Wr (cZ (xF aG g.aA) dP dY bG (aH (Iv s1.2) y4 (aY fun NG ZG => (fA (LT.fO (enc := aG) Q iJ ZG dM) Q Q Q Q (ah (LT.oN Q iO) Q Q Q (ah (LT.iP Q bM) Q Q Q (aH (Iv a) y4 (aj LT.eql y5 (aH (Bv (NG.A == a)) y4 (aS.split (fun nI => ?_) (fun nI => ?_)))))))))))
    ·refine iU (xF aG g.aA) dP dY nI fB (dn (Iv s1.2) nI y5 (aY fun II ZH => (fA (LT.fO (enc := aG) Q iJ ZH dM) Q Q (gH nI Q Q) Q (ah (LT.oN Q jd) Q (gH nI Q Q) Q (ah (LT.iP Q bM) Q (gH nI Q Q) Q (dn (Iv b) nI y5 (fZ LT.eql nI y6 (dL (Bv (II.B == b)) nI y5 (aH (Bv (II.B == b)) y4 (aS.split (fun iL => ?_) (fun iL => ?_)))))))))))
     ·refine aV iL y5 (aV iL y5 (aV iL y5 (aV iL y5 (aV iL y5 (aV iL y5 (aV iL y5 (aV iL y5 (aV iL y5 (Oj Q Q Q Q (Oj Q Q Q Q (Oj Q Q Q Q ?_)))))))))))
      refine Oj Q Q Q Q (Oj Q Q Q Q (Oj Q Q Q Q (Oj Q Q Q Q (Oj Q Q Q Q (aV iL y5 (dL (Bv true) iL af (On (aZ Q z6 z1))))))))
     ·refine iU (xF aG g.aA) dP dY iL fB (dn (Iv s1.2) iL y5 (aY fun x69 ZI => (fA (LT.fO (enc := aG) Q iJ ZI dM) Q Q (gH iL Q Q) Q (ah (LT.oN Q iO) Q (gH iL Q Q) Q (ah (LT.iP Q bM) Q (gH iL Q Q) Q (dn (Iv b) iL y5 (fZ LT.eql iL y6 (dn (Bv (x69.A == b)) iL y5 (aS.split (fun nJ => ?_) (fun nJ => ?_))))))))))
      ·refine iU (xF aG g.aA) dP dY nJ fB (dn (Iv s1.2) nJ y5 (aY fun IJ ZJ => (fA (LT.fO (enc := aG) Q iJ ZJ dM) Q Q (gH nJ Q Q) Q (ah (LT.oN Q jd) Q (gH nJ Q Q) Q (ah (LT.iP Q bM) Q (gH nJ Q Q) Q (dn (Iv a) nJ y5 (fZ LT.eql nJ y6 (fA (LT.oH (v := (Bv (IJ.B == a))) Q nJ) Q Q (gH iL Q Q) Q (eH (Bv (IJ.B == a)) iL y5 (On ?_))))))))))
       refine aZ Q z6 z1
      ·refine aV nJ y5 (aV nJ y5 (aV nJ y5 (aV nJ y5 (aV nJ y5 (aV nJ y5 (aV nJ y5 (aV nJ y5 (fA (LT.oG (v := (Bv false)) Q nJ) Q y2 (gH iL Q Q) Q (eH (Bv false) iL y5 (On (aZ Q z6 z1)))))))))))
    ·refine aV nI y5 (aV nI y5 (aV nI y5 (aV nI y5 (aV nI y5 (aV nI y5 (aV nI y5 (aV nI y5 (eH (Bv false) nI af (aH (Bv false) y4 (ah (LT.ig Q dP) Q (gS Q Q) Q (bV (xK (xF aG g.aA) Q dY) Q Q (gS Q Q) Q ?_)))))))))))
     refine mv (Iv s1.2) Q Q (gS Q Q) Q (aY fun NH ZK => (fA (LT.fO (enc := aG) Q iJ ZK dM) Q Q (gS Q Q) Q (ah (LT.oN Q iO) Q (gS Q Q) Q (ah (LT.iP Q bM) Q (gS Q Q) Q (mv (Iv b) Q Q (gS Q Q) Q (fA (LT.eql Q) Q Q (gS Q Q) Q (mv (Bv (NH.A == b)) Q Q (gS Q Q) Q (aS.split (fun nK => ?_) (fun nK => ?_)))))))))
     ·refine iU (xF aG g.aA) dP dY nK fB (dn (Iv s1.2) nK y5 (aY fun IK ZL => (fA (LT.fO (enc := aG) Q iJ ZL dM) Q Q (gH nK Q Q) Q (ah (LT.oN Q jd) Q (gH nK Q Q) Q (ah (LT.iP Q bM) Q (gH nK Q Q) Q (dn (Iv a) nK y5 (fZ LT.eql nK y6 (fA (LT.oH (v := (Bv (IK.B == a))) Q nK) Q Q (gS Q Q) Q (eH (Bv (IK.B == a)) Q y5 (On ?_))))))))))
      refine aZ Q z6 z1
     ·refine aV nK y5 (aV nK y5 (aV nK y5 (aV nK y5 (aV nK y5 (aV nK y5 (aV nK y5 (aV nK y5 (fA (LT.oG (v := (Bv false)) Q nK) Q y2 (gS Q Q) Q (eH (Bv false) Q y5 (On (aZ Q z6 z1)))))))))))
   ·refine aB.dZ (fun j76 => ([(1,Iv a),(2,Iv b),(3,Cc (.pl 21 0)),(7,Iv j76),(8,Iv s1.2)],[(21,.row 26 [[iC g.aF,xF aG g.aA]])])) ?_ (fun j76 _ => ?_)
    ·refine aB.cond Q (fun XM => ?_) (fun XM => ?_)
     ·refine Wr (aH (Iv s1.1) y4 (aj LT.add af (aP (Iv (aJ (s1.1 + 1))) y4 (On (aZ Q z5 z1)))))
     ·refine aB.skip (aZ Q z5 z1)
    ·refine aB.blk (Wr ?_)
     refine aH (Iv s1.2) y4 (aj LT.add af (aP (Iv (aJ (s1.2 + 1))) y4 (On (aZ Q z5 z1))))
  ·refine aB.fH Q ⟨Q,aU.of z1 J⟩
 ·refine Ws (Wr ?_)
  refine aH (Iv jT) y4 (aP (Iv jT) y4 (On (aB.ret (bD.mk (.inr Q) z1 J Q ⟨ak.sc,J⟩ J))))
theorem UC (c : dB) : FT Tryz.prog (Ac c) 73 [.c (.pl 0 0)] [(0,.row 105 [[xT bF c.b,iC c.i,iC c.h]])] (fun (t : (aQ × dB)) => [.agg [iC t.1.aF,lo 1 t.1.aA.length]]) (fun (t : (aQ × dB)) => [(0,.row 105 [[xT bF t.2.b,iC t.2.i,iC t.2.h]]),(1,pR 40 aG t.1.aA)]) [1] := by
 refine FT.of [0] Tryz.func73 Tryz.ntmps73 Q y2 ?_
 intro w0 U0 R0 g0
 unfold Ac
 refine Ws (Wr ?_)
 refine dA (LT.alloc (n := 21) (cells := [iC 0,sC aO]) Q fK Q Q Q) Q Q (On (Ws (Wr ?_)))
 refine aH (Cc (.pl 0 0)) y4 (aY fun r1 hr1 => (aS.step (bH [.c (.pl 0 0)] (Fw.Fn.ren [(0,0),(1,23)] (UH c r1 hr1) Q) OW (lI Q) z1 y3) z2 z1 Q Q (dA (LT.alloc (n := 24) (cells := [iC 0,sC aO]) Q fK Q Q Q) Q Q (bW (stA [iC r1.1.aF,lo 23 r1.1.aA.length] Q Q ai aX) Q Q Q Q Q (On (Ws (Ws ?_)))))))
 refine en [(0,Cc (.pl 0 0)),(2,Cc (.pl 21 0)),(3,Cc (.pl 24 0))] [(0,.row 105 [[xT bF r1.2.b,iC r1.2.i,iC r1.2.h]]),(21,.row 26 [[iC 0,sC aO]]),(23,pR 40 aG r1.1.aA),(24,.row 26 [[iC r1.1.aF,lo 23 r1.1.aA.length]])] z3 z4 (Wr (aH (Cc (.pl 0 0)) y4 (aY fun r2 hr2 => (aS.step (bH [.c (.pl 0 0),.c (iC 4)] (Fw.Fn.ren [(0,0)] (jq r1.2 4 r2 hr2) Q) jk (gK y2) z1 y3) ⟨Q,Q,y2,J⟩ z1 Q Q (aP (Iv r2.1) y4 (On (aB.block ?_)))))))
 refine aB.iy (id := 0) Ad (fun s3 => ([(0,Cc (.pl 0 0)),(2,Cc (.pl 21 0)),(3,Cc (.pl 24 0)),(4,Iv s3.1)],[(0,.row 105 [[xT bF s3.2.1,iC s3.2.2.1,iC s3.2.2.2.1]]),(21,.row 26 [[iC 0,sC aO]]),(23,pR 40 aG s3.2.2.2.2.2),(24,.row 26 [[iC s3.2.2.2.2.1,lo 23 s3.2.2.2.2.2.length]])])) (fun b22 => ([(2,Cc (.pl 21 0)),(3,Cc (.pl 24 0))],[(0,.row 105 [[xT bF b22.1,iC b22.2.1,iC b22.2.2.1]]),(21,.row 26 [[iC 0,sC aO]]),(23,pR 40 aG b22.2.2.2.1),(24,.row 26 [[iC b22.2.2.2.2,lo 23 b22.2.2.2.1.length]])])) ?_ (aU.of z4 z4) Q (fun b22 _ => ?_)
 ·intro s3
  unfold Ad
  refine Ws (Ws (Wr ?_))
  refine aH (Iv s3.1) y4 (aj LT.gtr af (On (aB.cond Q (fun JO => ?_) (fun JO => ?_))))
  ·refine aB.skip (Ws (aB.block (Ws (Wr ?_))))
   refine aH (Cc (.pl 0 0)) y4 (aY fun gu xE => (aS.step (bH [.c (.pl 0 0),.c (iC 6)] (Fw.Fn.ren [(0,0)] (jq (dB.mk s3.2.1 s3.2.2.1 s3.2.2.2.1) 6 gu xE) Q) jk (gK y2) z1 y3) ⟨Q,Q,y2,J⟩ z1 Q Q (aP (Iv gu.1) y4 (On (Ws (Wr ?_))))))
   refine aH (Cc (.pl 0 0)) y4 (aY fun r25 Ce => (aS.step (bH [.c (.pl 0 0),.c (iC 6)] (Fw.Fn.ren [(0,0)] (jq gu.2 6 r25 Ce) Q) jk (gK y2) z1 y3) ⟨Q,Q,y2,J⟩ z1 Q Q (aP (Iv r25.1) y4 (On (Ws ?_)))))
   refine en [(0,Cc (.pl 0 0)),(2,Cc (.pl 21 0)),(3,Cc (.pl 24 0)),(4,Iv s3.1),(5,Iv gu.1),(6,Iv r25.1)] [(0,.row 105 [[xT bF r25.2.b,iC r25.2.i,iC r25.2.h]]),(21,.row 26 [[iC 0,sC aO]]),(23,pR 40 aG s3.2.2.2.2.2),(24,.row 26 [[iC s3.2.2.2.2.1,lo 23 s3.2.2.2.2.2.length]])] z6 z4 (Wr (bV (bJ [iC s3.2.2.2.2.1,lo 23 s3.2.2.2.2.2.length] Q bU ai aX) Q Q Q Q (aH (Iv gu.1) y4 (aH (Iv r25.1) y4 (aY fun LY X7 => (aS.pure (cF [.agg [iC s3.2.2.2.2.1,lo 23 s3.2.2.2.2.2.length],.c (iC gu.1),.c (iC r25.1)] [(23,pR 40 aG s3.2.2.2.2.2)] (Tq (aQ.mk s3.2.2.2.2.1 s3.2.2.2.2.2) gu.1 r25.1 LY X7) OY (.cons (.agg (.cons (.same Q) (.cons (.dN Q Q) .nil))) (.cons (.c (.same Q)) (.cons (.c (.same Q)) .nil))) J y3) z4 z1 Q Q (aj LT.eql af (On (aB.dZ (fun j29 => ([(0,Cc (.pl 0 0)),(2,Cc (.pl 21 0)),(3,Cc (.pl 24 0)),(4,Iv s3.1)],[(0,.row 105 [[xT bF r25.2.b,iC r25.2.i,iC r25.2.h]]),(21,.row 26 [[iC 0,sC aO]]),(24,.row 26 [[iC j29.1,lo 30 j29.2.length]]),(30,pR 40 aG j29.2)])) ?_ (fun j29 _ => ?_))))))))))
   ·refine aB.cond Q (fun Bq => ?_) (fun Bq => ?_)
    ·refine Wr (bV (bJ [iC s3.2.2.2.2.1,lo 23 s3.2.2.2.2.2.length] Q bU ai aX) Q Q Q Q (aH (Iv gu.1) y4 (aH (Iv r25.1) y4 (aY fun bI qJ => (aS.step (cF [.agg [iC s3.2.2.2.2.1,lo 23 s3.2.2.2.2.2.length],.c (iC gu.1),.c (iC r25.1)] [(23,pR 40 aG s3.2.2.2.2.2)] (Fw.Fn.ren [(0,30)] (H6 (aQ.mk s3.2.2.2.2.1 s3.2.2.2.2.2) gu.1 r25.1 bI qJ) Q) FB (.cons (.agg (.cons (.same Q) (.cons (.dN Q Q) .nil))) (.cons (.c (.same Q)) (.cons (.c (.same Q)) .nil))) J y3) z4 z1 Q Q (aH (.dI [.agg [iC bI.1.aF,lo 30 bI.1.aA.length],.c (bC bI.2)]) y4 (ah (LT.extract (v := (.agg [iC bI.1.aF,lo 30 bI.1.aA.length])) Q (by exact Q)) Q Q Q (ah (LT.extract (v := (.c (bC bI.2))) Q (by exact Q)) Q Q Q (bW (stA [iC bI.1.aF,lo 30 bI.1.aA.length] Q Q ai aX) Q Q Q Q Q (On (aZ Q z4 z4)))))))))))
    ·refine aB.skip (en [(0,Cc (.pl 0 0)),(2,Cc (.pl 21 0)),(3,Cc (.pl 24 0)),(4,Iv s3.1)] [(0,.row 105 [[xT bF r25.2.b,iC r25.2.i,iC r25.2.h]]),(21,.row 26 [[iC 0,sC aO]]),(23,pR 40 aG s3.2.2.2.2.2),(24,.row 26 [[iC s3.2.2.2.2.1,lo 23 s3.2.2.2.2.2.length]])] z4 z4 (aB.ent (aU.mv 23 30 Q Q) (aZ Q z4 z4)))
   ·refine aB.blk (Wr ?_)
    refine aH (Iv s3.1) y4 (aj LT.sub af (aP (Iv (aJ (s3.1 - 1))) y4 (On (en [(0,Cc (.pl 0 0)),(2,Cc (.pl 21 0)),(3,Cc (.pl 24 0)),(4,Iv (aJ (s3.1 - 1)))] [(0,.row 105 [[xT bF r25.2.b,iC r25.2.i,iC r25.2.h]]),(21,.row 26 [[iC 0,sC aO]]),(24,.row 26 [[iC j29.1,lo 30 j29.2.length]]),(30,pR 40 aG j29.2)] z4 z4 (aB.ent (aU.mv 30 23 Q Q) (aZ Q z4 z4))))))
  ·refine aB.fH Q ⟨Q,aU.of z2 z4⟩
 ·refine Ws (Wr ?_)
  refine bV (bJ [iC b22.2.2.2.2,lo 23 b22.2.2.2.1.length] Q bU ai aX) Q Q Q Q (bW (stA [iC b22.2.2.2.2,lo 23 b22.2.2.2.1.length] Q Q ai aX) Q Q Q Q Q (On (en [(2,Cc (.pl 21 0))] [(0,.row 105 [[xT bF b22.1,iC b22.2.1,iC b22.2.2.1]]),(21,.row 26 [[iC b22.2.2.2.2,lo 23 b22.2.2.2.1.length]]),(23,pR 40 aG b22.2.2.2.1)] z1 z3 (aB.ent (aU.mv 23 1 Q Q) (en [(2,Cc (.pl 21 0))] [(0,.row 105 [[xT bF b22.1,iC b22.2.1,iC b22.2.2.1]]),(1,pR 40 aG b22.2.2.2.1),(21,.row 26 [[iC b22.2.2.2.2,lo 1 b22.2.2.2.1.length]])] z1 z3 (aB.ret (bD.mk (.inr Q) ⟨⟨_,_,_,Q,Q,Q,bU,aX,_,dQ ai⟩,J⟩ z2 Q ⟨⟨ak.sc,J,J⟩,J⟩ ⟨bK.kP ⟨mX mY,ak.sc,ak.sc,J⟩,bK.bg jF,J⟩)))))))
theorem aBo (code : (List Int)) : FT Tryz.prog (Dn code) 7 [.c (xT bF code)] [] (fun (t : aQ) => [.agg [iC t.aF,lo 0 t.aA.length]]) (fun (t : aQ) => [(0,pR 40 aG t.aA)]) [0] := by
 refine FT.of [] Tryz.func7 Tryz.ntmps7 Q y2 ?_
 intro w0 U0 R0 g0
 unfold Dn
 refine Ws (Wr ?_)
 refine dA (LT.alloc (n := 21) (cells := [iC 0,sC aO]) Q fK Q Q Q) Q Q (On (Ws (Wr ?_)))
 refine aH (Cc (xT bF code)) y4 (aY fun r1 hr1 => (aS.step (bH [.c (xT bF code)] (Fw.Fn.ren [(0,23)] (H8 code r1 hr1) Q) FD (lI Q) J y3) z2 J Q Q (aY fun r2 hr2 => (aS.step (bH [.c (.pl 23 0)] (Fw.Fn.ren [(0,23),(1,25)] (UC r1 r2 hr2) Q) OT (lI Q) z1 y3) z2 z1 Q Q (bW (stA [iC r2.1.aF,lo 25 r2.1.aA.length] Q Q ai aX) Q Q Q Q Q (On (en [(2,Cc (.pl 21 0))] [(21,.row 26 [[iC r2.1.aF,lo 25 r2.1.aA.length]]),(25,pR 40 aG r2.1.aA)] z1 z2 (aB.ent (aU.mv 25 0 Q Q) (en [(2,Cc (.pl 21 0))] [(0,pR 40 aG r2.1.aA),(21,.row 26 [[iC r2.1.aF,lo 0 r2.1.aA.length]])] z1 z2 (aB.ret (bD.mk (.inr Q) ⟨⟨_,_,_,Q,Q,Q,bU,aX,_,dQ ai⟩,J⟩ z1 Q ⟨⟨ak.sc,J,J⟩,J⟩ ⟨bK.bg jF,J⟩)))))))))))
theorem aBU (k : Int) (l : Int) : FT Tryz.prog (DV k l) 187 [.c (iC k),.c (iC l)] [] (fun (t : Bool) => [.c (bC t)]) (fun (t : Bool) => []) [] := by
 refine FT.of [] Tryz.func187 Tryz.ntmps187 Q y2 ?_
 intro w0 U0 R0 g0
 unfold DV
 refine Ws (Wr ?_)
 refine aP (Bv false) au (On (Ws ?_))
 refine aB.dZ (fun j4 => ([(4,Bv j4)],[])) ?_ (fun j4 _ => ?_)
 ·refine Wr (aH (Iv k) y4 (aY fun r5 lW => (aS.pure (bH [.c (iC k),.c (iC 1),.c (iC 3)] (EZ k 1 3 r5 lW) BX (rq y3) J y3) ⟨Q,Q,y2,y2,J⟩ J Q Q (aH (Bv r5) y4 (aS.split (fun hb6 => ?_) (fun hb6 => ?_))))))
  ·refine dn (Iv l) hb6 y5 (dn (Iv k) hb6 y5 (fZ LT.mul hb6 TS (fZ LT.sub hb6 jZ (aY fun r7 nN => (aS.pure (bH [.c (iC l),.c (iC 0),.c (iC (aJ ((aJ (2 * k)) - 1)))] (EZ l 0 (aJ ((aJ (2 * k)) - 1)) r7 nN) BX (rq y3) J y3) ⟨Q,Q,y2,Q,J⟩ J (gH hb6 Q Q) Q (dL (Bv r7) hb6 y5 (aP (Bv r7) y4 (On (aZ Q z1 J)))))))))
  ·refine aV hb6 y5 (aV hb6 y5 (aV hb6 y5 (aV hb6 y5 (aV hb6 y5 (eH (Bv false) hb6 af (aP (Bv false) y4 (On (aZ Q z1 J))))))))
 ·refine aB.ret (bD.mk (.inr Q) z1 J Q ⟨ak.sc,J⟩ J)
theorem aBb (p : ay) : FT Tryz.prog (DZ p) 208 [.agg [xF aC p.Free,xF aC p.aN,xF aC p.aI]] [] (fun (t : ay) => [.agg [lo 0 t.Free.length,lo 1 t.aN.length,lo 2 t.aI.length]]) (fun (t : ay) => [(0,pR 3 aC t.Free),(1,pR 3 aC t.aN),(2,pR 3 aC t.aI)]) [0,1,2] := by
 refine FT.of [] Tryz.func208 Tryz.ntmps208 Q y2 ?_
 intro w0 U0 R0 g0
 unfold DZ
 refine Ws (Wr ?_)
 refine dF (LT.box (n := 21) (v := (.agg [xF aC p.Free,xF aC p.aN,xF aC p.aI])) Q dJ (by exact Q)) Q Q Q (dA (LT.alloc (n := 22) (cells := [sC aO,sC aO,sC aO]) Q jY Q Q Q) Q Q (On (Ws (aB.draw mixed ?_))))
 refine fD (xF aC p.Free) jl eU bG (aT.bind fun r1 hr1 => (aT.step (bH [.c (xF aC p.Free)] (Fw.Fn.ren [(0,24)] (MO p.Free r1 hr1) Q) IZ (lI Q) J y3) z2 J Q Q (fD (xF aC p.aN) lq eU bG (aT.bind fun r2 hr2 => (aT.step (bH [.c (xF aC p.aN)] (Fw.Fn.ren [(0,26)] (MO p.aN r2 hr2) Q) IZ (lI Q) J y3) z2 J Q Q (fD (xF aC p.aI) lV eU bG (aT.bind fun r3 hr3 => (aT.step (bH [.c (xF aC p.aI)] (Fw.Fn.ren [(0,28)] (MO p.aI r3 hr3) Q) IZ (lI Q) J y3) z2 J Q Q ?_))))))))
 refine NI (LT.build [(0,.tmp 5,.c (lo 24 r1.length)),(1,.tmp 8,.c (lo 26 r2.length)),(2,.tmp 11,.c (lo 28 r3.length))] Q Q yP jY Q Q Q) Q Q Q Q Q (ji (stA [lo 24 r1.length,lo 26 r2.length,lo 28 r3.length] Q Q dR dJ) Q Q Q Q Q (aT.nil (by kernel_rfl) (en [(2,Cc (.pl 22 0))] [(22,.row 113 [[lo 24 r1.length,lo 26 r2.length,lo 28 r3.length]]),(24,pR 3 aC r1),(26,pR 3 aC r2),(28,pR 3 aC r3)] z1 z4 (aB.ent (aU.mv 24 0 Q Q) (aB.ent (aU.mv 26 1 Q Q) (aB.ent (aU.mv 28 2 Q Q) (en [(2,Cc (.pl 22 0))] [(0,pR 3 aC r1),(1,pR 3 aC r2),(2,pR 3 aC r3),(22,.row 113 [[lo 0 r1.length,lo 1 r2.length,lo 2 r3.length]])] z1 z4 (aB.ret (bD.mk (.inr Q) ⟨⟨_,_,_,Q,Q,Q,gm,dJ,_,dQ dR⟩,J⟩ z3 Q ⟨⟨J,J,J,J⟩,J⟩ ⟨bK.bg dS,bK.bg dS,bK.bg dS,J⟩)))))))))
end Go.Proofs.YtdmlaldifbmkpaaGreat
end
section
set_option linter.unusedVariables false
set_option linter.unusedSimpArgs false
set_option linter.unnecessarySimpa false
set_option maxRecDepth 100000
set_option maxHeartbeats 8000000
open Go Go.Fw
namespace Go.Proofs.YtdmlaldifbmkpaaGreat
theorem Td (bars : (List aK)) (p : ay) (a : Int) (b : Int) : FT Tryz.prog (vN bars p a b) 219 [.c (xF aG bars),.c (.pl 0 0),.c (iC a),.c (iC b)] [(0,.row 113 [[lo 1 p.Free.length,lo 2 p.aN.length,lo 3 p.aI.length]]),(1,pR 3 aC p.Free),(2,pR 3 aC p.aN),(3,pR 3 aC p.aI)] (fun (t : (Bool × ay)) => [.c (bC t.1)]) (fun (t : (Bool × ay)) => [(0,.row 113 [[lo 1 t.2.Free.length,lo 2 t.2.aN.length,lo 3 t.2.aI.length]]),(1,pR 3 aC t.2.Free),(2,pR 3 aC t.2.aN),(3,pR 3 aC t.2.aI)]) [1,2,3] := by
 refine FT.of [0] Tryz.func219 Tryz.ntmps219 Q y2 ?_
 intro w0 U0 R0 g0
 unfold vN
 refine Ws (Wr ?_)
 refine aP (Bv false) au (On (Ws (Wr ?_)))
 refine dA (LT.makeMap (n := 21) Q) Q Q (aH (Iv a) y4 (NK (LT.Qo (v := .dI []) (.inr Q) Q GN) Q Q y2 Q Q Q (aH (Cc (.mref 21)) y4 (aP (Cc (.mref 21)) y4 (On (Ws (Wr ?_)))))))
 refine aH (Iv a) y4 (dF (LT.eY (n := 22) (enc := aC) [(0,.tmp 23,.c (iC a))] ([a] : List Int) Q Q dO fF Q Q Q Q (by decide) (fun _ => Q) Q) Q Q Q (aP (Cc (lo 22 (([a] : List Int).length))) y4 (On (Ws (Ws ?_)))))
 refine en [(0,Cc (xF aG bars)),(1,Cc (.pl 0 0)),(2,Iv a),(3,Iv b),(9,Cc (.mref 21)),(10,Cc (lo 22 (([a] : List Int).length)))] [(0,.row 113 [[lo 1 p.Free.length,lo 2 p.aN.length,lo 3 p.aI.length]]),(1,pR 3 aC p.Free),(2,pR 3 aC p.aN),(3,pR 3 aC p.aI),(21,.mp (iQ ([] : List (Int × Int)) a (-1))),(22,pR 3 aC ([a] : List Int))] z6 z6 (Wr (aP (Iv 0) au (On (aB.block ?_))))
 refine aB.oC (id := 0) (xX bars p a b) (fun s1 => ([(0,Cc (xF aG bars)),(1,Cc (.pl 0 0)),(2,Iv a),(3,Iv b),(9,Cc (.mref 21)),(10,Cc (lo 22 s1.2.2.length)),(11,Iv s1.1)],[(0,.row 113 [[lo 1 p.Free.length,lo 2 p.aN.length,lo 3 p.aI.length]]),(1,pR 3 aC p.Free),(2,pR 3 aC p.aN),(3,pR 3 aC p.aI),(21,.mp s1.2.1),(22,pR 3 aC s1.2.2)])) (fun Na => ([],[(0,.row 113 [[lo 1 p.Free.length,lo 2 p.aN.length,lo 3 p.aI.length]]),(1,pR 3 aC p.Free),(2,pR 3 aC p.aN),(3,pR 3 aC p.aI)])) (bD Tryz.prog Tryz.f219.results.toList [(0,.row 113 [[lo 1 p.Free.length,lo 2 p.aN.length,lo 3 p.aI.length]]),(1,pR 3 aC p.Free),(2,pR 3 aC p.aN),(3,pR 3 aC p.aI)] [1,2,3] (fun (t : (Bool × ay)) => [.c (bC t.1)]) (fun (t : (Bool × ay)) => [(0,.row 113 [[lo 1 t.2.Free.length,lo 2 t.2.aN.length,lo 3 t.2.aI.length]]),(1,pR 3 aC t.2.Free),(2,pR 3 aC t.2.aN),(3,pR 3 aC t.2.aI)])) ?_ (aU.of z7 z6) Q (fun Na _ => ?_) (by intro r t σ m ht hk; injection ht with ht; subst ht; exact hk)
 ·intro s1
  unfold xX
  refine Ws (Ws (Wr ?_))
  refine aH (Iv s1.1) y4 (aH (Cc (lo 22 s1.2.2.length)) y4 (ah (LT.lX Q dO) Q Q Q (aj LT.lss y5 (On (aB.cond Q (fun Wy => ?_) (fun Wy => ?_))))))
  ·refine aB.skip (Ws (aB.block (Ws (Wr ?_))))
   refine aH (Cc (.pl 0 0)) y4 (ah (LT.kL Q) Q Q Q (cZ (lo 3 p.aI.length) lV eU bG (ah (LT.lX Q dO) Q Q Q (aH (Iv 0) au (On (aB.block ?_))))))
   refine aB.oC (id := 2) (uD bars p a b s1) (fun dH => ([(0,Cc (xF aG bars)),(1,Cc (.pl 0 0)),(2,Iv a),(3,Iv b),(9,Cc (.mref 21)),(10,Cc (lo 22 dH.2.2.length)),(11,Iv s1.1),(34,Cc (lo 3 p.aI.length)),(35,Iv (p.aI.length : Int)),(36,Iv dH.1)],[(0,.row 113 [[lo 1 p.Free.length,lo 2 p.aN.length,lo 3 p.aI.length]]),(1,pR 3 aC p.Free),(2,pR 3 aC p.aN),(3,pR 3 aC p.aI),(21,.mp dH.2.1),(22,pR 3 aC dH.2.2)])) (fun qV => ([(0,Cc (xF aG bars)),(1,Cc (.pl 0 0)),(2,Iv a),(3,Iv b),(9,Cc (.mref 21)),(10,Cc (lo 22 qV.2.2.length)),(11,Iv qV.1)],[(0,.row 113 [[lo 1 p.Free.length,lo 2 p.aN.length,lo 3 p.aI.length]]),(1,pR 3 aC p.Free),(2,pR 3 aC p.aN),(3,pR 3 aC p.aI),(21,.mp qV.2.1),(22,pR 3 aC qV.2.2)])) (bD Tryz.prog Tryz.f219.results.toList [(0,.row 113 [[lo 1 p.Free.length,lo 2 p.aN.length,lo 3 p.aI.length]]),(1,pR 3 aC p.Free),(2,pR 3 aC p.aN),(3,pR 3 aC p.aI)] [1,2,3] (fun (t : (Bool × ay)) => [.c (bC t.1)]) (fun (t : (Bool × ay)) => [(0,.row 113 [[lo 1 t.2.Free.length,lo 2 t.2.aN.length,lo 3 t.2.aI.length]]),(1,pR 3 aC t.2.Free),(2,pR 3 aC t.2.aN),(3,pR 3 aC t.2.aI)])) ?_ (aU.of z10 z6) Q (fun qV _ => ?_) (by intro r t σ m ht hk; injection ht with ht; subst ht; exact ⟨Q,hk⟩)
   ·intro dH
    unfold uD
    refine Ws (Wr ?_)
    refine aj LT.lss y5 (On (Ws ?_))
    refine aB.cond Q (fun XC => ?_) (fun XC => ?_)
    ·refine aB.skip (Ws (aB.block (Ws (Wr ?_))))
     refine aH (Iv dH.1) y4 (aY fun Ec Po => (lC (LT.gy Q Q fV Po) Q Q Q Q Q (bV (LT.kQ (k := 0) Q bM Po (by exact Q) (by exact Q)) Q Q Q Q (aP (Iv dH.1) y4 (aP (Iv Ec) y4 (On (Ws (Ws (aB.draw mixed ?_)))))))))
     refine bY (Cc (.pl 0 0)) y4 (bf (LT.kL Q) Q Q Q (fD (lo 2 p.aN.length) lq eU bG (bY (Iv dH.1) y4 (aT.bind fun UM Pq => (kz (LT.gy Q Q fV Pq) Q Q Q Q Q (fU (LT.kQ (k := 0) Q bM Pq (by exact Q) (by exact Q)) Q Q Q Q (bY (Cc (lo 22 dH.2.2.length)) y4 (bY (Iv s1.1) y4 (aT.bind fun UN Pv => (kz (LT.gy Q Q fV Pv) Q Q Q Q Q ?_))))))))))
     refine fU (LT.kQ (k := 0) Q bM Pv (by exact Q) (by exact Q)) Q Q Q Q (jG LT.neq y5 (aT.nil (by kernel_rfl) (aB.cond Q (fun XD => ?_) (fun XD => ?_))))
     ·refine aB.exit Q (en [(0,Cc (xF aG bars)),(1,Cc (.pl 0 0)),(2,Iv a),(3,Iv b),(9,Cc (.mref 21)),(10,Cc (lo 22 dH.2.2.length)),(11,Iv s1.1),(34,Cc (lo 3 p.aI.length)),(35,Iv (p.aI.length : Int)),(36,Iv dH.1)] [(0,.row 113 [[lo 1 p.Free.length,lo 2 p.aN.length,lo 3 p.aI.length]]),(1,pR 3 aC p.Free),(2,pR 3 aC p.aN),(3,pR 3 aC p.aI),(21,.mp dH.2.1),(22,pR 3 aC dH.2.2)] z10 z6 (Wr (aj LT.add af (aH (Iv (aJ (dH.1 + 1))) y4 (On (aZ Q z10 z6))))))
     ·refine aB.skip (Ws ?_)
      refine en [(0,Cc (xF aG bars)),(1,Cc (.pl 0 0)),(2,Iv a),(3,Iv b),(9,Cc (.mref 21)),(10,Cc (lo 22 dH.2.2.length)),(11,Iv s1.1),(12,Iv dH.1),(13,Iv Ec),(34,Cc (lo 3 p.aI.length)),(35,Iv (p.aI.length : Int)),(36,Iv dH.1)] [(0,.row 113 [[lo 1 p.Free.length,lo 2 p.aN.length,lo 3 p.aI.length]]),(1,pR 3 aC p.Free),(2,pR 3 aC p.aN),(3,pR 3 aC p.aI),(21,.mp dH.2.1),(22,pR 3 aC dH.2.2)] z12 z6 (aB.draw mixed (bY (Cc (xF aG bars)) y4 (bY (Iv Ec) y4 (aT.bind fun Ed Y7 => (eG (LT.fO (enc := aG) Q iJ Y7 dM) Q Q Q Q (bf (LT.ni Q jO (dQ gV) (by exact dM.symm)) Q Q Q (bY (Cc (lo 22 dH.2.2.length)) y4 (bY (Iv s1.1) y4 (aT.bind fun IE Px => (kz (LT.gy Q Q fV Px) Q Q Q Q Q (fU (LT.kQ (k := 0) Q bM Px (by exact Q) (by exact Q)) Q Q Q Q ?_)))))))))))
      refine aT.bind fun eF X5 => (aT.pure (bH [.agg [iC Ed.A,iC Ed.B],.c (iC IE)] (aBO Ed IE eF X5) U9 (wE y3) J y3) z3 J Q Q (bf (LT.assign (v := (Iv eF)) Q) Q Q Q (aT.nil (by kernel_rfl) (Ws (Ws (Wr ?_))))))
      refine aH (Cc (.mref 21)) y4 (aH (Iv eF) y4 (lC (LT.Zw Q GN) Q Q Q Q Q (aH (.dI [.c (iC (jA dH.2.1 eF)),.c (bC (jV dH.2.1 eF))]) y4 (ah (LT.extract (v := (.c (iC (jA dH.2.1 eF)))) Q (by exact Q)) Q Q Q (ah (LT.extract (v := (.c (bC (jV dH.2.1 eF)))) Q (by exact Q)) Q Q Q (aP (Iv (jA dH.2.1 eF)) y4 (aP (Bv (jV dH.2.1 eF)) y4 (On (Ws ?_)))))))))
      refine en [(0,Cc (xF aG bars)),(1,Cc (.pl 0 0)),(2,Iv a),(3,Iv b),(9,Cc (.mref 21)),(10,Cc (lo 22 dH.2.2.length)),(11,Iv s1.1),(12,Iv dH.1),(14,Iv eF),(16,Bv (jV dH.2.1 eF)),(34,Cc (lo 3 p.aI.length)),(35,Iv (p.aI.length : Int)),(36,Iv dH.1)] [(0,.row 113 [[lo 1 p.Free.length,lo 2 p.aN.length,lo 3 p.aI.length]]),(1,pR 3 aC p.Free),(2,pR 3 aC p.aN),(3,pR 3 aC p.aI),(21,.mp dH.2.1),(22,pR 3 aC dH.2.2)] z13 z6 (Wr (aH (Bv (jV dH.2.1 eF)) y4 (On (aB.cond Q (fun XE => ?_) (fun XE => ?_)))))
      ·refine aB.exit Q (Wr ?_)
       refine aj LT.add af (aH (Iv (aJ (dH.1 + 1))) y4 (On (aZ Q z10 z6)))
      ·refine aB.skip (Ws (Wr ?_))
       refine aH (Cc (.mref 21)) y4 (aH (Iv eF) y4 (aH (Iv dH.1) y4 (NK (LT.Qo (v := .dI []) (.inl Q) Q GN) Q Q Q Q Q Q (On (Ws (Ws ?_))))))
       refine aB.dZ (fun Fv => ([(0,Cc (xF aG bars)),(1,Cc (.pl 0 0)),(2,Iv a),(3,Iv b),(9,Cc (.mref 21)),(10,Cc (lo 22 dH.2.2.length)),(11,Iv s1.1),(14,Iv eF),(34,Cc (lo 3 p.aI.length)),(35,Iv (p.aI.length : Int)),(36,Iv dH.1),(84,Bv Fv)],[(0,.row 113 [[lo 1 p.Free.length,lo 2 p.aN.length,lo 3 p.aI.length]]),(1,pR 3 aC p.Free),(2,pR 3 aC p.aN),(3,pR 3 aC p.aI),(21,.mp (iQ dH.2.1 eF dH.1)),(22,pR 3 aC dH.2.2)])) ?_ (fun Fv _ => ?_)
       ·refine Wr (aH (Iv eF) y4 (aH (Iv b) y4 (aj LT.eql y5 (aH (Bv (eF == b)) y4 (aS.split (fun nG => ?_) (fun nG => ?_))))))
        ·refine aV nG y5 (aV nG y5 (aV nG y5 (aV nG y5 (aV nG y5 (aV nG y5 (aV nG y5 (aV nG y5 (dL (Bv true) nG af (On (aZ Q z12 z6))))))))))
        ·refine dn (Cc (.pl 0 0)) nG y5 (ah (LT.kL Q) Q (gH nG Q Q) Q (iU (lo 1 p.Free.length) jl eU nG fB (dn (Iv eF) nG y5 (aY fun NE Py => (lC (LT.gy Q Q fV Py) Q Q Q (gH nG Q Q) Q (bV (LT.kQ (k := 0) Q bM Py (by exact Q) (by exact Q)) Q Q (gH nG Q Q) Q (fZ LT.eql nG jZ (eH (Bv (NE == 0)) nG y5 (On (aZ Q z12 z6))))))))))
       ·refine aB.cond Q (fun XF => ?_) (fun XF => ?_)
        ·refine Ws (Wr ?_)
         refine aH (Cc (lo 22 dH.2.2.length)) y4 (aH (Iv eF) y4 (dF (LT.eY (n := 24) (enc := aC) [(0,.tmp 86,.c (iC eF))] ([eF] : List Int) Q Q dO fF Q Q Q Q (by decide) (fun _ => Q) Q) Q Q Q (aY fun aBJ Ya => (kR (LT.jg (enc := aC) Q Q Q dO fF Q (by decide) (by decide) (fun _ => Q) (iG Ya)) Q Q Q Q Q Q (aP (Cc (lo 22 ((dH.2.2 ++ ([eF] : List Int)).length))) y4 (On (aB.exit Q (Wr ?_))))))))
         refine aj LT.add af (aH (Iv (aJ (dH.1 + 1))) y4 (On (aZ Q z10 z6)))
        ·refine aB.skip (Ws (Wr ?_))
         refine aH (Cc (.pl 0 0)) y4 (ah (LT.kL Q) Q Q Q (cZ (lo 1 p.Free.length) jl eU bG (aH (Iv eF) y4 (aY fun mZ Pz => (lC (LT.gy Q Q fV Pz) Q Q Q Q Q (bV (LT.kQ (k := 0) Q bM Pz (by exact Q) (by exact Q)) Q Q Q Q (aj LT.sub af (aY fun aB9 P5 => (lC (LT.gy Q Q fV P5) Q Q Q Q Q (bW (LT.qG (k := 0) (v := (.c (iC (aJ (mZ - 1))))) (b' := (aJ (mZ - 1))) Q Q (dQ oz) jB (by exact Q) P5 (by exact Q) (by exact K Q) (by exact Q)) Q Q Q Q Q ?_))))))))))
         refine On (Ws ?_)
         refine en [(1,Cc (.pl 0 0)),(2,Iv a),(9,Cc (.mref 21)),(14,Iv eF)] [(0,.row 113 [[lo 1 p.Free.length,lo 2 p.aN.length,lo 3 p.aI.length]]),(1,pR 3 aC (p.Free.set eF.toNat (aJ (mZ - 1)))),(2,pR 3 aC p.aN),(3,pR 3 aC p.aI),(21,.mp (iQ dH.2.1 eF dH.1))] z4 z5 (Wr (aH (Cc (.pl 0 0)) y4 (ah (LT.kL Q) Q Q Q (cZ (lo 1 p.Free.length) jl eU bG (aH (Iv a) y4 (aY fun pF P6 => (lC (LT.gy (show p.Free.length = (p.Free.set eF.toNat (aJ (mZ - 1))).length by simp only [List.length_set]) Q fV P6) Q Q Q Q Q (bV (LT.kQ (k := 0) Q bM P6 (by exact Q) (by exact Q)) Q Q Q Q (aj LT.add af (aY fun aCA P7 => ?_))))))))))
         refine lC (LT.gy (show p.Free.length = (p.Free.set eF.toNat (aJ (mZ - 1))).length by simp only [List.length_set]) Q fV P7) Q Q Q Q Q (bW (LT.qG (k := 0) (v := (.c (iC (aJ (pF + 1))))) (b' := (aJ (pF + 1))) Q Q (dQ oz) jB (by exact Q) P7 (by exact Q) (by exact K Q) (by exact Q)) Q Q Q Q Q (On (Ws (Ws ?_))))
         refine en [(1,Cc (.pl 0 0)),(2,Iv a),(9,Cc (.mref 21)),(14,Iv eF)] [(0,.row 113 [[lo 1 p.Free.length,lo 2 p.aN.length,lo 3 p.aI.length]]),(1,pR 3 aC ((p.Free.set eF.toNat (aJ (mZ - 1))).set a.toNat (aJ (pF + 1)))),(2,pR 3 aC p.aN),(3,pR 3 aC p.aI),(21,.mp (iQ dH.2.1 eF dH.1))] z4 z5 (Wr (aH (Iv eF) y4 (aP (Iv eF) y4 (On (aB.block ?_)))))
         refine aB.iy (id := 4) (vO p a dH eF mZ pF) (fun jK => ([(1,Cc (.pl 0 0)),(2,Iv a),(9,Cc (.mref 21)),(17,Iv jK.1)],[(0,.row 113 [[lo 1 (((p.Free.set eF.toNat (aJ (mZ - 1))).set a.toNat (aJ (pF + 1))).length),lo 2 jK.2.length,lo 3 p.aI.length]]),(1,pR 3 aC ((p.Free.set eF.toNat (aJ (mZ - 1))).set a.toNat (aJ (pF + 1)))),(2,pR 3 aC jK.2),(3,pR 3 aC p.aI),(21,.mp (iQ dH.2.1 eF dH.1))])) (fun um => ([],[(0,.row 113 [[lo 1 um.1.length,lo 2 um.2.length,lo 3 p.aI.length]]),(1,pR 3 aC um.1),(2,pR 3 aC um.2),(3,pR 3 aC p.aI)])) ?_ (aU.of z4 ⟨congrArg (fun l1 => (some (Ob.row 113 [[lo 1 l1,lo 2 p.aN.length,lo 3 p.aI.length]]) : Option Ob)) (show p.Free.length = ((p.Free.set eF.toNat (aJ (mZ - 1))).set a.toNat (aJ (pF + 1))).length by simp only [List.length_set]),Q,Q,Q,Q,J⟩) Q (fun um _ => ?_)
         ·intro jK
          unfold vO
          refine Ws (Ws (Wr ?_))
          refine aH (Iv jK.1) y4 (aH (Iv a) y4 (aj LT.neq y5 (On (aB.cond Q (fun XG => ?_) (fun XG => ?_)))))
          ·refine aB.skip (aB.block (Ws (Wr ?_)))
           refine aH (Cc (.mref 21)) y4 (aH (Iv jK.1) y4 (lC (LT.Zv Q GN) Q Q Q Q Q (aP (Iv (jA (iQ dH.2.1 eF dH.1) jK.1)) y4 (On (Ws (Wr ?_))))))
           refine aH (Cc (.pl 0 0)) y4 (ah (LT.kL Q) Q Q Q (cZ (lo 2 jK.2.length) lq eU bG (aH (Iv (jA (iQ dH.2.1 eF dH.1) jK.1)) y4 (aY fun BK P8 => (lC (LT.gy Q Q fV P8) Q Q Q Q Q (bV (LT.kQ (k := 0) Q bM P8 (by exact Q) (by exact Q)) Q Q Q Q (aP (Iv BK) y4 (On (Ws ?_)))))))))
           refine en [(1,Cc (.pl 0 0)),(2,Iv a),(9,Cc (.mref 21)),(17,Iv jK.1),(18,Iv (jA (iQ dH.2.1 eF dH.1) jK.1)),(19,Iv BK)] [(0,.row 113 [[lo 1 (((p.Free.set eF.toNat (aJ (mZ - 1))).set a.toNat (aJ (pF + 1))).length),lo 2 jK.2.length,lo 3 p.aI.length]]),(1,pR 3 aC ((p.Free.set eF.toNat (aJ (mZ - 1))).set a.toNat (aJ (pF + 1)))),(2,pR 3 aC jK.2),(3,pR 3 aC p.aI),(21,.mp (iQ dH.2.1 eF dH.1))] z6 z5 (Wr (aH (Cc (.pl 0 0)) y4 (ah (LT.kL Q) Q Q Q (cZ (lo 2 jK.2.length) lq eU bG (aH (Iv (jA (iQ dH.2.1 eF dH.1) jK.1)) y4 (aH (Iv jK.1) y4 (aY fun aCB P9 => (lC (LT.gy Q Q fV P9) Q Q Q Q Q (bW (LT.qG (k := 0) (v := (.c (iC jK.1))) (b' := jK.1) Q Q (dQ oz) jB (by exact Q) P9 (by exact Q) (by exact K Q) (by exact Q)) Q Q Q Q Q (On (Wr ?_)))))))))))
           refine aH (Iv BK) y4 (aP (Iv BK) y4 (On (aB.blk ?_)))
           refine aB.nil ⟨Q,aU.of z4 ⟨congrArg (fun l1 => (some (Ob.row 113 [[lo 1 (((p.Free.set eF.toNat (aJ (mZ - 1))).set a.toNat (aJ (pF + 1))).length),lo 2 l1,lo 3 p.aI.length]]) : Option Ob)) (show jK.2.length = (jK.2.set (jA (iQ dH.2.1 eF dH.1) jK.1).toNat jK.1).length by simp only [List.length_set]),Q,Q,Q,Q,J⟩⟩
          ·refine aB.fH Q ⟨Q,aU.of J z4⟩
         ·refine Ws (Wr ?_)
          refine aP (Bv true) au (On (aB.ret ⟨Q,bD.mk (.inr Q) z1 z4 Q ⟨ak.sc,J⟩ ⟨bK.kP ⟨J,J,J,J⟩,bK.bg dS,bK.bg dS,bK.bg dS,J⟩⟩))
    ·refine aB.fH Q ⟨Q,aU.of z7 z6⟩
   ·refine aB.blk (Wr ?_)
    refine aH (Iv qV.1) y4 (aj LT.add af (aP (Iv (aJ (qV.1 + 1))) y4 (On (aZ Q z7 z6))))
  ·refine aB.fH Q ⟨Q,aU.of J z4⟩
 ·refine Ws (Wr ?_)
  refine aP (Bv false) au (On (aB.ret (bD.mk (.inr Q) z1 z4 Q ⟨ak.sc,J⟩ ⟨bK.kP ⟨J,J,J,J⟩,bK.bg dS,bK.bg dS,bK.bg dS,J⟩)))
theorem aBd (bars : (List aK)) (p : ay) (a : Int) (b : Int) (want : Int) : FT Tryz.prog (xW bars p a b want) 217 [.c (xF aG bars),.c (.pl 0 0),.c (iC a),.c (iC b),.c (iC want)] [(0,.row 113 [[lo 1 p.Free.length,lo 2 p.aN.length,lo 3 p.aI.length]]),(1,pR 3 aC p.Free),(2,pR 3 aC p.aN),(3,pR 3 aC p.aI)] (fun (t : (Bool × ay)) => [.c (bC t.1)]) (fun (t : (Bool × ay)) => [(0,.row 113 [[lo 1 t.2.Free.length,lo 2 t.2.aN.length,lo 3 t.2.aI.length]]),(1,pR 3 aC t.2.Free),(2,pR 3 aC t.2.aN),(3,pR 3 aC t.2.aI)]) [1,2,3] := by
 refine FT.of [0] Tryz.func217 Tryz.ntmps217 Q y2 ?_
 intro w0 U0 R0 g0
 unfold xW
 refine Ws (Wr ?_)
 refine aP (Bv false) au (On (Ws (aB.block ?_)))
 refine aB.oC (id := 0) (vM bars a b want) (fun s1 => ([(0,Cc (xF aG bars)),(1,Cc (.pl 0 0)),(2,Iv a),(3,Iv b),(4,Iv want)],[(0,.row 113 [[lo 1 s1.1.length,lo 2 s1.2.1.length,lo 3 s1.2.2.length]]),(1,pR 3 aC s1.1),(2,pR 3 aC s1.2.1),(3,pR 3 aC s1.2.2)])) (fun oL => ([],[(0,.row 113 [[lo 1 oL.1.length,lo 2 oL.2.1.length,lo 3 oL.2.2.length]]),(1,pR 3 aC oL.1),(2,pR 3 aC oL.2.1),(3,pR 3 aC oL.2.2)])) (bD Tryz.prog Tryz.f217.results.toList [(0,.row 113 [[lo 1 p.Free.length,lo 2 p.aN.length,lo 3 p.aI.length]]),(1,pR 3 aC p.Free),(2,pR 3 aC p.aN),(3,pR 3 aC p.aI)] [1,2,3] (fun (t : (Bool × ay)) => [.c (bC t.1)]) (fun (t : (Bool × ay)) => [(0,.row 113 [[lo 1 t.2.Free.length,lo 2 t.2.aN.length,lo 3 t.2.aI.length]]),(1,pR 3 aC t.2.Free),(2,pR 3 aC t.2.aN),(3,pR 3 aC t.2.aI)])) ?_ (aU.of z5 z4) Q (fun oL _ => ?_) (by intro r t σ m ht hk; injection ht with ht; subst ht; exact hk)
 ·intro s1
  unfold vM
  refine Ws (Ws (aB.draw mixed ?_))
  refine bY (Cc (.pl 0 0)) y4 (bf (LT.kL Q) Q Q Q (fD (lo 1 s1.1.length) jl eU bG (bY (Iv a) y4 (aT.bind fun x25 hx25 => (kz (LT.gy Q Q fV hx25) Q Q Q Q Q (fU (LT.kQ (k := 0) Q bM hx25 (by exact Q) (by exact Q)) Q Q Q Q (bY (Cc (.pl 0 0)) y4 (bf (LT.kL Q) Q Q Q (fD (lo 1 s1.1.length) jl eU bG ?_)))))))))
  refine bY (Iv b) y4 (aT.bind fun UQ QA => (kz (LT.gy Q Q fV QA) Q Q Q Q Q (fU (LT.kQ (k := 0) Q bM QA (by exact Q) (by exact Q)) Q Q Q Q (jG LT.add y5 (bY (Iv want) y4 (jG LT.lss y5 (aT.nil (by kernel_rfl) (aB.cond Q (fun hc27 => ?_) (fun hc27 => ?_)))))))))
  ·refine aB.skip (aB.block (Ws ?_))
   refine aB.dZ (fun j31 => ([(0,Cc (xF aG bars)),(1,Cc (.pl 0 0)),(2,Iv a),(3,Iv b),(4,Iv want),(41,Bv j31.1)],[(0,.row 113 [[lo 1 j31.2.1.length,lo 2 j31.2.2.1.length,lo 3 j31.2.2.2.length]]),(1,pR 3 aC j31.2.1),(2,pR 3 aC j31.2.2.1),(3,pR 3 aC j31.2.2.2)])) ?_ (fun j31 _ => ?_)
   ·refine en [(0,Cc (xF aG bars)),(1,Cc (.pl 0 0)),(2,Iv a),(3,Iv b),(4,Iv want)] [(0,.row 113 [[lo 1 s1.1.length,lo 2 s1.2.1.length,lo 3 s1.2.2.length]]),(1,pR 3 aC s1.1),(2,pR 3 aC s1.2.1),(3,pR 3 aC s1.2.2)] z5 z4 (Wr (aH (Cc (xF aG bars)) y4 (aH (Cc (.pl 0 0)) y4 (aH (Iv a) y4 (aH (Iv b) y4 (aY fun r32 xG => (aS.step (bH [.c (xF aG bars),.c (.pl 0 0),.c (iC a),.c (iC b)] (Fw.Fn.ren [(0,0),(1,1),(2,2),(3,3)] (Td bars (ay.mk s1.1 s1.2.1 s1.2.2) a b r32 xG) Q) OM (EU y4) z4 y3) z5 z4 Q Q (ah (LT.not Q) Q Q Q (aH (Bv (!r32.1)) y4 (aS.split (fun oP => ?_) (fun oP => ?_)))))))))))
    ·refine dn (Cc (xF aG bars)) oP y5 (dn (Cc (.pl 0 0)) oP y5 (dn (Iv b) oP y5 (dn (Iv a) oP y5 (aY fun qp Jj => (aS.step (bH [.c (xF aG bars),.c (.pl 0 0),.c (iC b),.c (iC a)] (Fw.Fn.ren [(0,0),(1,1),(2,2),(3,3)] (Td bars r32.2 b a qp Jj) Q) OM (EU y4) z4 y3) z5 z4 (gH oP Q Q) Q (ah (LT.not Q) Q (gH oP Q Q) Q (dL (Bv (!qp.1)) oP y5 (On (aZ Q z6 z4)))))))))
    ·refine aV oP y5 (aV oP y5 (aV oP y5 (aV oP y5 (aV oP y5 (aV oP y5 (eH (Bv false) oP af (On (aZ Q z6 z4))))))))
   ·refine aB.cond Q (fun CB => ?_) (fun CB => ?_)
    ·refine Ws (Wr ?_)
     refine aP (Bv false) au (On (aB.ret ⟨Q,bD.mk (.inr Q) z1 z4 Q ⟨ak.sc,J⟩ ⟨bK.kP ⟨J,J,J,J⟩,bK.bg dS,bK.bg dS,bK.bg dS,J⟩⟩))
    ·refine aB.skip (aB.blk ?_)
     refine aZ Q z5 z4
  ·refine aB.fH Q ⟨Q,aU.of J z4⟩
 ·refine Ws (Wr ?_)
  refine aP (Bv true) au (On (aB.ret (bD.mk (.inr Q) z1 z4 Q ⟨ak.sc,J⟩ ⟨bK.kP ⟨J,J,J,J⟩,bK.bg dS,bK.bg dS,bK.bg dS,J⟩)))
theorem aBe (bars : (List aK)) (l : Int) (p : ay) (e : Int) : FT Tryz.prog (nP bars l p e) 209 [.c (xF aG bars),.c (iC l),.c (.pl 0 0),.c (iC e)] [(0,.row 113 [[lo 1 p.Free.length,lo 2 p.aN.length,lo 3 p.aI.length]]),(1,pR 3 aC p.Free),(2,pR 3 aC p.aN),(3,pR 3 aC p.aI)] (fun (t : (Bool × ay)) => [.c (bC t.1)]) (fun (t : (Bool × ay)) => [(0,.row 113 [[lo 1 t.2.Free.length,lo 2 t.2.aN.length,lo 3 t.2.aI.length]]),(1,pR 3 aC t.2.Free),(2,pR 3 aC t.2.aN),(3,pR 3 aC t.2.aI)]) [1,2,3] := by
 refine FT.of [0] Tryz.func209 Tryz.ntmps209 Q y2 ?_
 intro w0 U0 R0 g0
 unfold nP
 refine Ws (Wr ?_)
 refine aP (Bv false) au (On (Ws (Wr ?_)))
 refine aH (Cc (xF aG bars)) y4 (aH (Iv e) y4 (aY fun x1 hx1 => (fA (LT.fO (enc := aG) Q iJ hx1 dM) Q Q Q Q (ah (LT.ni Q jO (dQ gV) (by exact dM.symm)) Q Q Q (dA (LT.alloc (n := 21) (cells := [iC 0,iC 0]) Q dw Q Q Q) Q Q (bW (stA [iC x1.A,iC x1.B] Q Q gV dM) Q Q Q Q Q (On (Ws (Ws ?_)))))))))
 refine en [(0,Cc (xF aG bars)),(1,Iv l),(2,Cc (.pl 0 0)),(3,Iv e),(9,Cc (.pl 21 0))] [(0,.row 113 [[lo 1 p.Free.length,lo 2 p.aN.length,lo 3 p.aI.length]]),(1,pR 3 aC p.Free),(2,pR 3 aC p.aN),(3,pR 3 aC p.aI),(21,.row 40 [[iC x1.A,iC x1.B]])] z5 z5 (Wr (aH (Cc (xF aG bars)) y4 (aH (Cc (.pl 0 0)) y4 (cZ (iC x1.A) iO bM bG (cZ (iC x1.B) jd bM bG (aH (Iv l) y4 (aj LT.add af (aY fun r2 hr2 => (aS.step (bH [.c (xF aG bars),.c (.pl 0 0),.c (iC x1.A),.c (iC x1.B),.c (iC (aJ (l + 1)))] (Fw.Fn.ren [(0,0),(1,1),(2,2),(3,3)] (aBd bars p x1.A x1.B (aJ (l + 1)) r2 hr2) Q) VQ (aAg y5) z4 y3) z6 z4 Q Q ?_)))))))))
 refine ah (LT.not Q) Q Q Q (On (aB.cond Q (fun hc3 => ?_) (fun hc3 => ?_)))
 ·refine Ws (en [] [(0,.row 113 [[lo 1 r2.2.Free.length,lo 2 r2.2.aN.length,lo 3 r2.2.aI.length]]),(1,pR 3 aC r2.2.Free),(2,pR 3 aC r2.2.aN),(3,pR 3 aC r2.2.aI)] J z4 (Wr (aP (Bv false) au (On (aB.ret (bD.mk (.inr Q) z1 z4 Q ⟨ak.sc,J⟩ ⟨bK.kP ⟨J,J,J,J⟩,bK.bg dS,bK.bg dS,bK.bg dS,J⟩))))))
 ·refine aB.skip (Ws ?_)
  refine en [(2,Cc (.pl 0 0)),(3,Iv e),(9,Cc (.pl 21 0))] [(0,.row 113 [[lo 1 r2.2.Free.length,lo 2 r2.2.aN.length,lo 3 r2.2.aI.length]]),(1,pR 3 aC r2.2.Free),(2,pR 3 aC r2.2.aN),(3,pR 3 aC r2.2.aI),(21,.row 40 [[iC x1.A,iC x1.B]])] z3 z5 (Wr (cZ (iC x1.A) iO bM bG (aP (Iv x1.A) y4 (On (Ws (Ws (aB.draw mixed ?_)))))))
  refine bY (Cc (.pl 0 0)) y4 (bf (LT.kL Q) Q Q Q (fD (lo 1 r2.2.Free.length) jl eU bG (fD (iC x1.A) iO bM bG (aT.bind fun x4 hx4 => (kz (LT.gy Q Q fV hx4) Q Q Q Q Q (fU (LT.kQ (k := 0) Q bM hx4 (by exact Q) (by exact Q)) Q Q Q Q (jG LT.eql af (aT.nil (by kernel_rfl) (aB.dZ (fun j6 => ([(2,Cc (.pl 0 0)),(3,Iv e),(10,Iv j6)],[(0,.row 113 [[lo 1 r2.2.Free.length,lo 2 r2.2.aN.length,lo 3 r2.2.aI.length]]),(1,pR 3 aC r2.2.Free),(2,pR 3 aC r2.2.aN),(3,pR 3 aC r2.2.aI)])) ?_ (fun j6 _ => ?_))))))))))
  ·refine aB.cond Q (fun CQ => ?_) (fun CQ => ?_)
   ·refine en [(2,Cc (.pl 0 0)),(3,Iv e),(9,Cc (.pl 21 0))] [(0,.row 113 [[lo 1 r2.2.Free.length,lo 2 r2.2.aN.length,lo 3 r2.2.aI.length]]),(1,pR 3 aC r2.2.Free),(2,pR 3 aC r2.2.aN),(3,pR 3 aC r2.2.aI),(21,.row 40 [[iC x1.A,iC x1.B]])] z3 z5 (Wr (cZ (iC x1.B) jd bM bG (aP (Iv x1.B) y4 (On (aZ Q z3 z4)))))
   ·refine aB.skip (aZ Q z3 z4)
  ·refine Ws (Wr ?_)
   refine aH (Cc (.pl 0 0)) y4 (ah (LT.kL Q) Q Q Q (cZ (lo 1 r2.2.Free.length) jl eU bG (aH (Iv j6) y4 (aY fun x8 QF => (lC (LT.gy Q Q fV QF) Q Q Q Q Q (bV (LT.kQ (k := 0) Q bM QF (by exact Q) (by exact Q)) Q Q Q Q (aj LT.sub af (aY fun x9 C9 => (lC (LT.gy Q Q fV C9) Q Q Q Q Q (bW (LT.qG (k := 0) (v := (.c (iC (aJ (x8 - 1))))) (b' := (aJ (x8 - 1))) Q Q (dQ oz) jB (by exact Q) C9 (by exact Q) (by exact K Q) (by exact Q)) Q Q Q Q Q ?_))))))))))
   refine On (Ws ?_)
   refine en [(2,Cc (.pl 0 0)),(3,Iv e),(10,Iv j6)] [(0,.row 113 [[lo 1 r2.2.Free.length,lo 2 r2.2.aN.length,lo 3 r2.2.aI.length]]),(1,pR 3 aC (r2.2.Free.set j6.toNat (aJ (x8 - 1)))),(2,pR 3 aC r2.2.aN),(3,pR 3 aC r2.2.aI)] z3 z4 (Wr (aH (Cc (.pl 0 0)) y4 (aH (Cc (.pl 0 0)) y4 (ah (LT.kL Q) Q Q Q (cZ (lo 2 r2.2.aN.length) lq eU bG (aH (Iv j6) y4 (dF (LT.eY (n := 23) (enc := aC) [(0,.tmp 52,.c (iC j6))] ([j6] : List Int) Q Q dO fF Q Q Q Q (by decide) (fun _ => Q) Q) Q Q Q (aY fun u10 Jr => (kR (LT.jg (enc := aC) Q Q Q dO fF Q (by decide) (by decide) (fun _ => Q) (iG Jr)) Q Q Q Q Q Q (ah (LT.kL Q) Q Q Q ?_))))))))))
   refine ah (LT.ig Q lq) Q Q Q (bW (mO (.c (lo 2 ((r2.2.aN ++ ([j6] : List Int)).length))) [lo 1 r2.2.Free.length,lo 2 ((r2.2.aN ++ ([j6] : List Int)).length),lo 3 r2.2.aI.length] Q Q uy wH) Q Q Q Q Q (On (Ws ?_)))
   refine en [(2,Cc (.pl 0 0)),(3,Iv e)] [(0,.row 113 [[lo 1 r2.2.Free.length,lo 2 ((r2.2.aN ++ ([j6] : List Int)).length),lo 3 r2.2.aI.length]]),(1,pR 3 aC (r2.2.Free.set j6.toNat (aJ (x8 - 1)))),(2,pR 3 aC (r2.2.aN ++ ([j6] : List Int))),(3,pR 3 aC r2.2.aI)] z2 z4 (Wr (aH (Cc (.pl 0 0)) y4 (aH (Cc (.pl 0 0)) y4 (ah (LT.kL Q) Q Q Q (cZ (lo 3 r2.2.aI.length) lV eU bG (aH (Iv e) y4 (dF (LT.eY (n := 24) (enc := aC) [(0,.tmp 62,.c (iC e))] ([e] : List Int) Q Q dO fF Q Q Q Q (by decide) (fun _ => Q) Q) Q Q Q (aY fun u11 Js => (kR (LT.jg (enc := aC) Q Q Q dO fF Q (by decide) (by decide) (fun _ => Q) (iG Js)) Q Q Q Q Q Q (ah (LT.kL Q) Q Q Q ?_))))))))))
   refine ah (LT.ig Q lV) Q Q Q (bW (mO (.c (lo 3 ((r2.2.aI ++ ([e] : List Int)).length))) [lo 1 r2.2.Free.length,lo 2 ((r2.2.aN ++ ([j6] : List Int)).length),lo 3 ((r2.2.aI ++ ([e] : List Int)).length)] Q Q uy wH) Q Q Q Q Q (On (Ws ?_)))
   refine en [] [(0,.row 113 [[lo 1 r2.2.Free.length,lo 2 ((r2.2.aN ++ ([j6] : List Int)).length),lo 3 ((r2.2.aI ++ ([e] : List Int)).length)]]),(1,pR 3 aC (r2.2.Free.set j6.toNat (aJ (x8 - 1)))),(2,pR 3 aC (r2.2.aN ++ ([j6] : List Int))),(3,pR 3 aC (r2.2.aI ++ ([e] : List Int)))] J z4 (Wr (aP (Bv true) au (On (en [(8,Bv true)] [(0,.row 113 [[lo 1 ((r2.2.Free.set j6.toNat (aJ (x8 - 1))).length),lo 2 ((r2.2.aN ++ ([j6] : List Int)).length),lo 3 ((r2.2.aI ++ ([e] : List Int)).length)]]),(1,pR 3 aC (r2.2.Free.set j6.toNat (aJ (x8 - 1)))),(2,pR 3 aC (r2.2.aN ++ ([j6] : List Int))),(3,pR 3 aC (r2.2.aI ++ ([e] : List Int)))] z1 ⟨congrArg (fun l1 => (some (Ob.row 113 [[lo 1 l1,lo 2 ((r2.2.aN ++ ([j6] : List Int)).length),lo 3 ((r2.2.aI ++ ([e] : List Int)).length)]]) : Option Ob)) (show r2.2.Free.length = (r2.2.Free.set j6.toNat (aJ (x8 - 1))).length by simp only [List.length_set]),Q,Q,Q,J⟩ (aB.ret (bD.mk (.inr Q) z1 z4 Q ⟨ak.sc,J⟩ ⟨bK.kP ⟨J,J,J,J⟩,bK.bg dS,bK.bg dS,bK.bg dS,J⟩))))))
theorem Ti (points : Int) (bars : (List aK)) (k : Int) (l : Int) : FT Tryz.prog (zh points bars k l) 188 [.c (iC points),.c (xF aG bars),.c (iC k),.c (iC l)] [] (fun (t : ay) => [.agg [lo 0 t.Free.length,lo 1 t.aN.length,lo 2 t.aI.length]]) (fun (t : ay) => [(0,pR 3 aC t.Free),(1,pR 3 aC t.aN),(2,pR 3 aC t.aI)]) [0,1,2] := by
 refine FT.of [] Tryz.func188 Tryz.ntmps188 Q y2 ?_
 intro w0 U0 R0 g0
 unfold zh
 refine Ws (Wr ?_)
 refine dA (LT.alloc (n := 21) (cells := [sC aO,sC aO,sC aO]) Q jY Q Q Q) Q Q (On (Ws (Wr ?_)))
 refine Em (LT.build [] Q Q yP jY Q Q Q) Q Q (dA (LT.alloc (n := 22) (cells := [sC aO,sC aO,sC aO]) Q jY Q Q Q) Q Q (bW (stA [sC aO,sC aO,sC aO] Q Q dR dJ) Q Q Q Q Q (On (Ws (Ws (Wr ?_))))))
 refine aH (Iv points) y4 (aH (Iv 0) au (On (aB.block ?_)))
 refine aB.ent (aU.qC 22 0 25 3 Q Q Q Q) (aB.iy (id := 0) (zi points k) (fun s1 => ([(1,Cc (xF aG bars)),(2,Iv k),(3,Iv l),(8,Cc (.pl 21 0)),(9,Cc (.pl 22 0)),(13,Iv points),(14,Iv s1.1)],[(21,.row 113 [[sC aO,sC aO,sC aO]]),(22,.row 113 [[lo 25 s1.2.length,sC aO,sC aO]]),(25,pR 3 aC s1.2)])) (fun b6 => ([(1,Cc (xF aG bars)),(3,Iv l),(8,Cc (.pl 21 0)),(9,Cc (.pl 22 0))],[(21,.row 113 [[sC aO,sC aO,sC aO]]),(22,.row 113 [[lo 25 b6.length,sC aO,sC aO]]),(25,pR 3 aC b6)])) ?_ (aU.of z7 z3) Q (fun b6 _ => ?_))
 ·intro s1
  unfold zi
  refine Ws (Wr ?_)
  refine aj LT.lss y5 (On (Ws ?_))
  refine aB.cond Q (fun CQ => ?_) (fun CQ => ?_)
  ·refine aB.skip (Ws (aB.block (Wr ?_)))
   refine cZ (lo 25 s1.2.length) jl eU bG (aH (Iv k) y4 (dF (LT.eY (n := 23) (enc := aC) [(0,.tmp 18,.c (iC k))] ([k] : List Int) Q Q dO fF Q Q Q Q (by decide) (fun _ => Q) Q) Q Q Q (aY fun u8 Yo => (kR (LT.jg (enc := aC) Q Q Q dO fF Q (by decide) (by decide) (fun _ => Q) (iG Yo)) Q Q Q Q Q Q (ah (LT.ig Q jl) Q Q Q (bW (mO (.c (lo 25 ((s1.2 ++ ([k] : List Int)).length))) [lo 25 ((s1.2 ++ ([k] : List Int)).length),sC aO,sC aO] Q Q uy wH) Q Q Q Q Q (On (aB.blk ?_))))))))
   refine en [(1,Cc (xF aG bars)),(2,Iv k),(3,Iv l),(8,Cc (.pl 21 0)),(9,Cc (.pl 22 0)),(13,Iv points),(14,Iv s1.1)] [(21,.row 113 [[sC aO,sC aO,sC aO]]),(22,.row 113 [[lo 25 ((s1.2 ++ ([k] : List Int)).length),sC aO,sC aO]]),(25,pR 3 aC (s1.2 ++ ([k] : List Int)))] z7 z3 (Wr (aj LT.add af (aH (Iv (aJ (s1.1 + 1))) y4 (On (aZ Q z7 z3)))))
  ·refine aB.fH Q ⟨Q,aU.of z4 z3⟩
 ·refine Ws (Ws (Wr ?_))
  refine aH (Cc (xF aG bars)) y4 (ah (LT.gY Q dK) Q Q Q (aH (Iv 0) au (On (aB.block ?_))))
  refine aB.ent (aU.qC 22 1 32 3 Q Q Q Q) (aB.ent (aU.qC 22 2 33 3 Q Q Q Q) (aB.iy (id := 2) (zk bars l) (fun s9 => ([(1,Cc (xF aG bars)),(3,Iv l),(8,Cc (.pl 21 0)),(9,Cc (.pl 22 0)),(24,Iv (bars.length : Int)),(25,Iv s9.1)],[(21,.row 113 [[sC aO,sC aO,sC aO]]),(22,.row 113 [[lo 25 s9.2.1.length,lo 32 s9.2.2.1.length,lo 33 s9.2.2.2.length]]),(25,pR 3 aC s9.2.1),(32,pR 3 aC s9.2.2.1),(33,pR 3 aC s9.2.2.2)])) (fun b22 => ([(8,Cc (.pl 21 0)),(9,Cc (.pl 22 0))],[(21,.row 113 [[sC aO,sC aO,sC aO]]),(22,.row 113 [[lo 25 b22.1.length,lo 32 b22.2.1.length,lo 33 b22.2.2.length]]),(25,pR 3 aC b22.1),(32,pR 3 aC b22.2.1),(33,pR 3 aC b22.2.2)])) ?_ (aU.of z6 z5) Q (fun b22 _ => ?_)))
  ·intro s9
   unfold zk
   refine Ws (Wr ?_)
   refine aj LT.lss y5 (On (Ws ?_))
   refine aB.cond Q (fun JO => ?_) (fun JO => ?_)
   ·refine aB.skip (Ws (aB.block (Ws (Wr ?_))))
    refine aH (Iv s9.1) y4 (aP (Iv s9.1) y4 (On (Ws (Wr ?_))))
    refine bV (bJ [lo 25 s9.2.1.length,lo 32 s9.2.2.1.length,lo 33 s9.2.2.2.length] Q gm dR dJ) Q Q Q Q (aY fun gu xE => (aS.step (cF [.agg [lo 25 s9.2.1.length,lo 32 s9.2.2.1.length,lo 33 s9.2.2.2.length]] [(25,pR 3 aC s9.2.1),(32,pR 3 aC s9.2.2.1),(33,pR 3 aC s9.2.2.2)] (Fw.Fn.ren [(0,27),(1,28),(2,29)] (aBb (ay.mk s9.2.1 s9.2.2.1 s9.2.2.2) gu xE) Q) VL (.cons (.agg (.cons (.dN Q Q) (.cons (.dN Q Q) (.cons (.dN Q Q) .nil)))) .nil) J y3) z2 z3 Q Q (dA (LT.alloc (n := 30) (cells := [sC aO,sC aO,sC aO]) Q jY Q Q Q) Q Q (bW (stA [lo 27 gu.Free.length,lo 28 gu.aN.length,lo 29 gu.aI.length] Q Q dR dJ) Q Q Q Q Q (On (Ws ?_))))))
    refine en [(1,Cc (xF aG bars)),(3,Iv l),(8,Cc (.pl 21 0)),(9,Cc (.pl 22 0)),(10,Iv s9.1),(11,Cc (.pl 30 0)),(24,Iv (bars.length : Int)),(25,Iv s9.1)] [(21,.row 113 [[sC aO,sC aO,sC aO]]),(22,.row 113 [[lo 25 s9.2.1.length,lo 32 s9.2.2.1.length,lo 33 s9.2.2.2.length]]),(25,pR 3 aC s9.2.1),(27,pR 3 aC gu.Free),(28,pR 3 aC gu.aN),(29,pR 3 aC gu.aI),(30,.row 113 [[lo 27 gu.Free.length,lo 28 gu.aN.length,lo 29 gu.aI.length]]),(32,pR 3 aC s9.2.2.1),(33,pR 3 aC s9.2.2.2)] z8 z9 (Wr (aH (Cc (xF aG bars)) y4 (aH (Iv l) y4 (aH (Iv s9.1) y4 (aY fun r25 Ce => (aS.step (bH [.c (xF aG bars),.c (iC l),.c (.pl 30 0),.c (iC s9.1)] (Fw.Fn.ren [(0,30),(1,27),(2,28),(3,29)] (aBe bars l gu s9.1 r25 Ce) Q) VN (EU y4) z4 y3) z5 z4 Q Q (On (aB.dZ (fun j27 => ([(1,Cc (xF aG bars)),(3,Iv l),(8,Cc (.pl 21 0)),(9,Cc (.pl 22 0)),(24,Iv (bars.length : Int)),(25,Iv s9.1)],[(21,.row 113 [[sC aO,sC aO,sC aO]]),(22,.row 113 [[lo 27 j27.1.length,lo 28 j27.2.1.length,lo 29 j27.2.2.length]]),(27,pR 3 aC j27.1),(28,pR 3 aC j27.2.1),(29,pR 3 aC j27.2.2)])) ?_ (fun j27 _ => ?_)))))))))
    ·refine aB.cond Q (fun hc28 => ?_) (fun hc28 => ?_)
     ·refine Wr (bV (bJ [lo 27 r25.2.Free.length,lo 28 r25.2.aN.length,lo 29 r25.2.aI.length] Q gm dR dJ) Q Q Q Q (bW (stA [lo 27 r25.2.Free.length,lo 28 r25.2.aN.length,lo 29 r25.2.aI.length] Q Q dR dJ) Q Q Q Q Q (On (aZ Q z6 z5))))
     ·refine aB.skip (en [(1,Cc (xF aG bars)),(3,Iv l),(8,Cc (.pl 21 0)),(9,Cc (.pl 22 0)),(24,Iv (bars.length : Int)),(25,Iv s9.1)] [(21,.row 113 [[sC aO,sC aO,sC aO]]),(22,.row 113 [[lo 25 s9.2.1.length,lo 32 s9.2.2.1.length,lo 33 s9.2.2.2.length]]),(25,pR 3 aC s9.2.1),(32,pR 3 aC s9.2.2.1),(33,pR 3 aC s9.2.2.2)] z6 z5 (aB.ent (aU.mv 25 27 Q Q) (aB.ent (aU.mv 32 28 Q Q) (aB.ent (aU.mv 33 29 Q Q) (aZ Q z6 z5)))))
    ·refine aB.blk (Wr ?_)
     refine aj LT.add af (aH (Iv (aJ (s9.1 + 1))) y4 (On (en [(1,Cc (xF aG bars)),(3,Iv l),(8,Cc (.pl 21 0)),(9,Cc (.pl 22 0)),(24,Iv (bars.length : Int)),(25,Iv (aJ (s9.1 + 1)))] [(21,.row 113 [[sC aO,sC aO,sC aO]]),(22,.row 113 [[lo 27 j27.1.length,lo 28 j27.2.1.length,lo 29 j27.2.2.length]]),(27,pR 3 aC j27.1),(28,pR 3 aC j27.2.1),(29,pR 3 aC j27.2.2)] z6 z5 (aB.ent (aU.mv 27 25 Q Q) (aB.ent (aU.mv 28 32 Q Q) (aB.ent (aU.mv 29 33 Q Q) (aZ Q z6 z5)))))))
   ·refine aB.fH Q ⟨Q,aU.of z2 z5⟩
  ·refine Ws (Wr ?_)
   refine bV (bJ [lo 25 b22.1.length,lo 32 b22.2.1.length,lo 33 b22.2.2.length] Q gm dR dJ) Q Q Q Q (bW (stA [lo 25 b22.1.length,lo 32 b22.2.1.length,lo 33 b22.2.2.length] Q Q dR dJ) Q Q Q Q Q (On (en [(8,Cc (.pl 21 0))] [(21,.row 113 [[lo 25 b22.1.length,lo 32 b22.2.1.length,lo 33 b22.2.2.length]]),(25,pR 3 aC b22.1),(32,pR 3 aC b22.2.1),(33,pR 3 aC b22.2.2)] z1 z4 (aB.ent (aU.mv 25 0 Q Q) (aB.ent (aU.mv 32 1 Q Q) (aB.ent (aU.mv 33 2 Q Q) (en [(8,Cc (.pl 21 0))] [(0,pR 3 aC b22.1),(1,pR 3 aC b22.2.1),(2,pR 3 aC b22.2.2),(21,.row 113 [[lo 0 b22.1.length,lo 1 b22.2.1.length,lo 2 b22.2.2.length]])] z1 z4 (aB.ret (bD.mk (.inr Q) ⟨⟨_,_,_,Q,Q,Q,gm,dJ,_,dQ dR⟩,J⟩ z3 Q ⟨⟨J,J,J,J⟩,J⟩ ⟨bK.bg dS,bK.bg dS,bK.bg dS,J⟩)))))))))
theorem aBY (g : aQ) (k : Int) (l : Int) : FT Tryz.prog (DY g k l) 164 [.agg [iC g.aF,xF aG g.aA],.c (iC k),.c (iC l)] [] (fun (t : (ay × Bool)) => [.agg [lo 0 t.1.Free.length,lo 1 t.1.aN.length,lo 2 t.1.aI.length],.c (bC t.2)]) (fun (t : (ay × Bool)) => [(0,pR 3 aC t.1.Free),(1,pR 3 aC t.1.aN),(2,pR 3 aC t.1.aI)]) [0,1,2] := by
 refine FT.of [] Tryz.func164 Tryz.ntmps164 Q y2 ?_
 intro w0 U0 R0 g0
 unfold DY
 refine Ws (Wr ?_)
 refine dF (LT.box (n := 21) (v := (.agg [iC g.aF,xF aG g.aA])) Q aX (by exact Q)) Q Q Q (dA (LT.alloc (n := 22) (cells := [sC aO,sC aO,sC aO]) Q jY Q Q Q) Q Q (aP (Bv false) au (On (Ws (Ws ?_)))))
 refine aB.dZ (fun j4 => ([(1,Iv k),(2,Iv l),(3,Cc (.pl 21 0)),(6,Cc (.pl 22 0)),(16,Bv j4)],[(21,.row 26 [[iC g.aF,xF aG g.aA]]),(22,.row 113 [[sC aO,sC aO,sC aO]])])) ?_ (fun j4 _ => ?_)
 ·refine Wr (bV (bJ [iC g.aF,xF aG g.aA] Q bU ai aX) Q Q Q Q (aY fun r5 lW => (aS.pure (bH [.agg [iC g.aF,xF aG g.aA]] (yc g r5 lW) wR (jL y2) J y3) z2 J Q Q (ah (LT.not Q) Q Q Q (aH (Bv (!r5)) y4 (aS.split (fun hb6 => ?_) (fun hb6 => ?_)))))))
  ·refine aV hb6 y5 (aV hb6 y5 (aV hb6 y5 (aV hb6 y5 (dL (Bv true) hb6 af (On (aZ Q z5 z2))))))
  ·refine dn (Iv k) hb6 y5 (dn (Iv l) hb6 y5 (aY fun r7 nN => (aS.pure (bH [.c (iC k),.c (iC l)] (aBU k l r7 nN) VI (gK y2) J y3) z3 J (gH hb6 Q Q) Q (ah (LT.not Q) Q (gH hb6 Q Q) Q (eH (Bv (!r7)) hb6 y5 (On (aZ Q z5 z2)))))))
 ·refine aB.cond Q (fun hc8 => ?_) (fun hc8 => ?_)
  ·refine Ws (Wr ?_)
   refine Em (LT.build [] Q Q yP jY Q Q Q) Q Q (bW (stA [sC aO,sC aO,sC aO] Q Q dR dJ) Q Q Q Q Q (aP (Bv false) au (On (aB.ent (aU.qC 22 0 0 3 Q Q Q Q) (aB.ent (aU.qC 22 1 1 3 Q Q Q Q) (aB.ent (aU.qC 22 2 2 3 Q Q Q Q) (en [(6,Cc (.pl 22 0)),(7,Bv false)] [(0,pR 3 aC ([] : List Int)),(1,pR 3 aC ([] : List Int)),(2,pR 3 aC ([] : List Int)),(22,.row 113 [[lo 0 (([] : List Int).length),lo 1 (([] : List Int).length),lo 2 (([] : List Int).length)]])] z2 z4 (aB.ret (bD.mk (.inr Q) ⟨⟨_,_,_,Q,Q,Q,gm,dJ,_,dQ dR⟩,Q,J⟩ z3 Q ⟨⟨J,J,J,J⟩,ak.sc,J⟩ ⟨bK.bg dS,bK.bg dS,bK.bg dS,J⟩)))))))))
  ·refine aB.skip (Ws (Wr ?_))
   refine cZ (iC g.aF) iq bM bG (cZ (xF aG g.aA) dP dY bG (aH (Iv k) y4 (aH (Iv l) y4 (aY fun r9 xI => (aS.step (bH [.c (iC g.aF),.c (xF aG g.aA),.c (iC k),.c (iC l)] (Fw.Fn.ren [(0,26),(1,27),(2,28)] (Ti g.aF g.aA k l r9 xI) Q) OI (EU y4) J y3) z5 J Q Q (bW (stA [lo 26 r9.Free.length,lo 27 r9.aN.length,lo 28 r9.aI.length] Q Q dR dJ) Q Q Q Q Q (aP (Bv true) au (On (en [(6,Cc (.pl 22 0)),(7,Bv true)] [(22,.row 113 [[lo 26 r9.Free.length,lo 27 r9.aN.length,lo 28 r9.aI.length]]),(26,pR 3 aC r9.Free),(27,pR 3 aC r9.aN),(28,pR 3 aC r9.aI)] z2 z4 ?_)))))))))
   refine aB.ent (aU.mv 26 0 Q Q) (aB.ent (aU.mv 27 1 Q Q) (aB.ent (aU.mv 28 2 Q Q) (en [(6,Cc (.pl 22 0)),(7,Bv true)] [(0,pR 3 aC r9.Free),(1,pR 3 aC r9.aN),(2,pR 3 aC r9.aI),(22,.row 113 [[lo 0 r9.Free.length,lo 1 r9.aN.length,lo 2 r9.aI.length]])] z2 z4 (aB.ret (bD.mk (.inr Q) ⟨⟨_,_,_,Q,Q,Q,gm,dJ,_,dQ dR⟩,Q,J⟩ z3 Q ⟨⟨J,J,J,J⟩,ak.sc,J⟩ ⟨bK.bg dS,bK.bg dS,bK.bg dS,J⟩)))))
theorem ML (g : aQ) (k : Int) (l : Int) : FT Tryz.prog (xQ g k l) 128 [.agg [iC g.aF,xF aG g.aA],.c (iC k),.c (iC l)] [] (fun (t : Int) => [.c (iC t)]) (fun (t : Int) => []) [] := by
 refine FT.of [] Tryz.func128 Tryz.ntmps128 Q y2 ?_
 intro w0 U0 R0 g0
 unfold xQ
 refine Ws (Wr ?_)
 refine dF (LT.box (n := 21) (v := (.agg [iC g.aF,xF aG g.aA])) Q aX (by exact Q)) Q Q Q (aP (Iv 0) au (On (Ws (Wr ?_))))
 refine bV (bJ [iC g.aF,xF aG g.aA] Q bU ai aX) Q Q Q Q (aH (Iv k) y4 (aH (Iv l) y4 (aY fun r1 hr1 => (aS.step (bH [.agg [iC g.aF,xF aG g.aA],.c (iC k),.c (iC l)] (Fw.Fn.ren [(0,23),(1,24),(2,25)] (aBY g k l r1 hr1) Q) U8 (qx y4) J y3) z4 J Q Q (aH (.dI [.agg [lo 23 r1.1.Free.length,lo 24 r1.1.aN.length,lo 25 r1.1.aI.length],.c (bC r1.2)]) y4 (ah (LT.extract (v := (.agg [lo 23 r1.1.Free.length,lo 24 r1.1.aN.length,lo 25 r1.1.aI.length])) Q (by exact Q)) Q Q Q (ah (LT.extract (v := (.c (bC r1.2))) Q (by exact Q)) Q Q Q (dA (LT.alloc (n := 26) (cells := [sC aO,sC aO,sC aO]) Q jY Q Q Q) Q Q (bW (stA [lo 23 r1.1.Free.length,lo 24 r1.1.aN.length,lo 25 r1.1.aI.length] Q Q dR dJ) Q Q Q Q Q (aP (Bv r1.2) y4 (On (Ws (Ws ?_)))))))))))))
 refine en [(7,Cc (.pl 26 0)),(8,Bv r1.2)] [(23,pR 3 aC r1.1.Free),(24,pR 3 aC r1.1.aN),(25,pR 3 aC r1.1.aI),(26,.row 113 [[lo 23 r1.1.Free.length,lo 24 r1.1.aN.length,lo 25 r1.1.aI.length]])] z2 z4 (Wr (aH (Bv r1.2) y4 (ah (LT.not Q) Q Q Q (On (aB.cond Q (fun hc2 => ?_) (fun hc2 => ?_))))))
 ·refine Ws (Wr ?_)
  refine aP (Iv (-1)) au (On (aB.ret (bD.mk (.inr Q) z1 J Q ⟨ak.sc,J⟩ J)))
 ·refine aB.skip (Ws (Wr ?_))
  refine cZ (lo 25 r1.1.aI.length) lV eU bG (ah (LT.lX Q dO) Q Q Q (aP (Iv (r1.1.aI.length : Int)) y4 (On (aB.ret (bD.mk (.inr Q) z1 J Q ⟨ak.sc,J⟩ J)))))
theorem aBX (g : aQ) (k : Int) : FT Tryz.prog (DX g k) 137 [.agg [iC g.aF,xF aG g.aA],.c (iC k)] [] (fun (t : (aQ × Bool)) => [.agg [iC t.1.aF,lo 0 t.1.aA.length],.c (bC t.2)]) (fun (t : (aQ × Bool)) => [(0,pR 40 aG t.1.aA)]) [0] := by
 refine FT.of [] Tryz.func137 Tryz.ntmps137 Q y2 ?_
 intro w0 U0 R0 g0
 unfold DX
 refine Ws (Wr ?_)
 refine dF (LT.box (n := 21) (v := (.agg [iC g.aF,xF aG g.aA])) Q aX (by exact Q)) Q Q Q (dA (LT.alloc (n := 22) (cells := [iC 0,sC aO]) Q fK Q Q Q) Q Q (aP (Bv false) au (On (Ws (Wr ?_)))))
 refine bV (bJ [iC g.aF,xF aG g.aA] Q bU ai aX) Q Q Q Q (aY fun r1 hr1 => (aS.step (bH [.agg [iC g.aF,xF aG g.aA]] (Fw.Fn.ren [(0,24)] (MN g r1 hr1) Q) Ii (jL y2) J y3) z2 J Q Q (dA (LT.alloc (n := 25) (cells := [iC 0,sC aO]) Q fK Q Q Q) Q Q (bW (stA [iC r1.aF,lo 24 r1.aA.length] Q Q ai aX) Q Q Q Q Q (On (Ws (Ws ?_)))))))
 refine aB.dZ (fun j5 => ([(1,Iv k),(4,Cc (.pl 22 0)),(6,Cc (.pl 25 0)),(20,Bv j5)],[(22,.row 26 [[iC 0,sC aO]]),(24,pR 40 aG r1.aA),(25,.row 26 [[iC r1.aF,lo 24 r1.aA.length]])])) ?_ (fun j5 _ => ?_)
 ·refine en [(1,Iv k),(2,Cc (.pl 21 0)),(4,Cc (.pl 22 0)),(6,Cc (.pl 25 0))] [(21,.row 26 [[iC g.aF,xF aG g.aA]]),(22,.row 26 [[iC 0,sC aO]]),(24,pR 40 aG r1.aA),(25,.row 26 [[iC r1.aF,lo 24 r1.aA.length]])] z4 z4 (Wr (bV (bJ [iC g.aF,xF aG g.aA] Q bU ai aX) Q Q Q Q (aY fun r6 xH => (aS.pure (bH [.agg [iC g.aF,xF aG g.aA]] (yc g r6 xH) wR (jL y2) J y3) z2 J Q Q (ah (LT.not Q) Q Q Q (aH (Bv (!r6)) y4 (aS.split (fun hb7 => ?_) (fun hb7 => ?_))))))))
  ·refine aV hb7 y5 (aV hb7 y5 (aV hb7 y5 (aV hb7 y5 (aV hb7 y5 (aV hb7 y5 (aV hb7 y5 (dL (Bv true) hb7 af (On (aZ Q z4 z3)))))))))
  ·refine dn (Iv k) hb7 y5 (iU (xF aG g.aA) dP dY hb7 fB (ah (LT.gY Q dK) Q (gH hb7 Q Q) Q (fZ LT.sub hb7 jZ (aY fun r8 Cj => (aS.pure (bH [.c (iC k),.c (iC 0),.c (iC (aJ ((g.aA.length : Int) - 1)))] (EZ k 0 (aJ ((g.aA.length : Int) - 1)) r8 Cj) BX (rq y3) J y3) ⟨Q,Q,y2,Q,J⟩ J (gH hb7 Q Q) Q (ah (LT.not Q) Q (gH hb7 Q Q) Q (eH (Bv (!r8)) hb7 y5 (On (aZ Q z4 z3)))))))))
 ·refine aB.cond Q (fun wz => ?_) (fun wz => ?_)
  ·refine Ws (Wr ?_)
   refine bV (bJ [iC r1.aF,lo 24 r1.aA.length] Q bU ai aX) Q Q Q Q (bW (stA [iC r1.aF,lo 24 r1.aA.length] Q Q ai aX) Q Q Q Q Q (aP (Bv false) au (On (en [(4,Cc (.pl 22 0)),(5,Bv false)] [(22,.row 26 [[iC r1.aF,lo 24 r1.aA.length]]),(24,pR 40 aG r1.aA)] z2 z2 (aB.ent (aU.mv 24 0 Q Q) (en [(4,Cc (.pl 22 0)),(5,Bv false)] [(0,pR 40 aG r1.aA),(22,.row 26 [[iC r1.aF,lo 0 r1.aA.length]])] z2 z2 (aB.ret (bD.mk (.inr Q) ⟨⟨_,_,_,Q,Q,Q,bU,aX,_,dQ ai⟩,Q,J⟩ z1 Q ⟨⟨ak.sc,J,J⟩,ak.sc,J⟩ ⟨bK.bg jF,J⟩))))))))
  ·refine aB.skip (Ws (aB.draw mixed ?_))
   refine fD (lo 24 r1.aA.length) dP dY bG (bY (Iv k) y4 (aT.bind fun v10 tK => (kz (LT.TM (enc := aG) (kG := none) (kF := (some (.tmp 24,k))) (l := 0) (h := k.toNat) Q Q Q dK gV (.inr y2) (.inl ⟨_,_,Q,Int.le_trans (wF tK).1 (wF tK).2.1,Q⟩) (Ho tK) (Hl tK)) Q Q Q Q Q (fD (lo 24 r1.aA.length) dP dY bG (bY (Iv k) y4 (jG LT.add af (aT.bind fun v11 J3 => (kz (LT.TM (enc := aG) (kG := (some (.tmp 29,aJ (k + 1)))) (kF := none) (l := (aJ (k + 1)).toNat) (h := r1.aA.length) Q Q Q dK gV (.inl ⟨_,_,Q,(wF J3).1,Q⟩) (.inr y2) (Ho J3) (Hl J3)) Q Q Q Q Q (aT.bind fun u12 YV => ?_)))))))))
   refine aT.bind fun u13 Jt => (aT.bind fun u14 Ju => (ji (LT.aBC (enc := aG) Q dK dw Q (by decide) (by decide) (fun _ => Q) (Nat.le_of_sub_eq_zero (same_eq Ju)) (Nat.le_of_sub_eq_zero (same_eq Jt)) (iG YV)) Q Q Q Q Q (bf (LT.ig Q dP) Q Q Q (ji (mO (.c (lo 24 ((r1.aA.take (k.toNat - 0) ++ (r1.aA.drop ((aJ (k + 1)).toNat)).take (r1.aA.length - (aJ (k + 1)).toNat)).length))) [iC r1.aF,lo 24 ((r1.aA.take (k.toNat - 0) ++ (r1.aA.drop ((aJ (k + 1)).toNat)).take (r1.aA.length - (aJ (k + 1)).toNat)).length)] Q Q tN uT) Q Q Q Q Q (aT.nil (by kernel_rfl) (Ws (en [(4,Cc (.pl 22 0)),(6,Cc (.pl 25 0))] [(22,.row 26 [[iC 0,sC aO]]),(24,pR 40 aG (r1.aA.take (k.toNat - 0) ++ (r1.aA.drop ((aJ (k + 1)).toNat)).take (r1.aA.length - (aJ (k + 1)).toNat))),(25,.row 26 [[iC r1.aF,lo 24 ((r1.aA.take (k.toNat - 0) ++ (r1.aA.drop ((aJ (k + 1)).toNat)).take (r1.aA.length - (aJ (k + 1)).toNat)).length)]])] z2 z3 (Wr (bV (bJ [iC r1.aF,lo 24 ((r1.aA.take (k.toNat - 0) ++ (r1.aA.drop ((aJ (k + 1)).toNat)).take (r1.aA.length - (aJ (k + 1)).toNat)).length)] Q bU ai aX) Q Q Q Q (bW (stA [iC r1.aF,lo 24 ((r1.aA.take (k.toNat - 0) ++ (r1.aA.drop ((aJ (k + 1)).toNat)).take (r1.aA.length - (aJ (k + 1)).toNat)).length)] Q Q ai aX) Q Q Q Q Q (aP (Bv true) au ?_)))))))))))
   refine On (en [(4,Cc (.pl 22 0)),(5,Bv true)] [(22,.row 26 [[iC r1.aF,lo 24 ((r1.aA.take (k.toNat - 0) ++ (r1.aA.drop ((aJ (k + 1)).toNat)).take (r1.aA.length - (aJ (k + 1)).toNat)).length)]]),(24,pR 40 aG (r1.aA.take (k.toNat - 0) ++ (r1.aA.drop ((aJ (k + 1)).toNat)).take (r1.aA.length - (aJ (k + 1)).toNat)))] z2 z2 (aB.ent (aU.mv 24 0 Q Q) (en [(4,Cc (.pl 22 0)),(5,Bv true)] [(0,pR 40 aG (r1.aA.take (k.toNat - 0) ++ (r1.aA.drop ((aJ (k + 1)).toNat)).take (r1.aA.length - (aJ (k + 1)).toNat))),(22,.row 26 [[iC r1.aF,lo 0 ((r1.aA.take (k.toNat - 0) ++ (r1.aA.drop ((aJ (k + 1)).toNat)).take (r1.aA.length - (aJ (k + 1)).toNat)).length)]])] z2 z2 (aB.ret (bD.mk (.inr Q) ⟨⟨_,_,_,Q,Q,Q,bU,aX,_,dQ ai⟩,Q,J⟩ z1 Q ⟨⟨ak.sc,J,J⟩,ak.sc,J⟩ ⟨bK.bg jF,J⟩)))))
theorem aBP (g : aQ) (k : Int) (l : Int) : FT Tryz.prog (DN g k l) 77 [.agg [iC g.aF,xF aG g.aA],.c (iC k),.c (iC l)] [] (fun (t : (List Int)) => [.c (lo 0 t.length)]) (fun (t : (List Int)) => [(0,pR 3 aC t)]) [0] := by
 refine FT.of [] Tryz.func77 Tryz.ntmps77 Q y2 ?_
 intro w0 U0 R0 g0
 unfold DN
 refine Ws (Wr ?_)
 refine dF (LT.box (n := 21) (v := (.agg [iC g.aF,xF aG g.aA])) Q aX (by exact Q)) Q Q Q (aP (Cc (sC aO)) au (On (Ws (Wr ?_))))
 refine dA (LT.eY (n := 22) (enc := aC) [] ([] : List Int) Q Q dO fF Q Q Q Q (by decide) (fun _ => Q) Q) Q Q (aP (Cc (lo 22 (([] : List Int).length))) y4 (On (Ws (Wr ?_))))
 refine bV (bJ [iC g.aF,xF aG g.aA] Q bU ai aX) Q Q Q Q (aH (Iv k) y4 (aH (Iv l) y4 (aY fun r1 hr1 => (aS.pure (bH [.agg [iC g.aF,xF aG g.aA],.c (iC k),.c (iC l)] (ML g k l r1 hr1) Ib (qx y4) J y3) z4 J Q Q (aP (Iv r1) y4 (On (Ws (Ws ?_))))))))
 refine en [(1,Iv k),(2,Iv l),(3,Cc (.pl 21 0)),(7,Cc (lo 22 (([] : List Int).length))),(8,Iv r1)] [(21,.row 26 [[iC g.aF,xF aG g.aA]]),(22,pR 3 aC ([] : List Int))] z5 z2 (Wr (aH (Iv r1) y4 (aj LT.lss af (On (aB.cond Q (fun hc2 => ?_) (fun hc2 => ?_))))))
 ·refine Ws (Wr ?_)
  refine aH (Cc (lo 22 (([] : List Int).length))) y4 (aP (Cc (lo 22 (([] : List Int).length))) y4 (On (en [(6,Cc (lo 22 (([] : List Int).length)))] [(22,pR 3 aC ([] : List Int))] z1 z1 (aB.ent (aU.mv 22 0 Q Q) (en [(6,Cc (lo 0 (([] : List Int).length)))] [(0,pR 3 aC ([] : List Int))] z1 z1 (aB.ret (bD.mk (.inr Q) z1 z1 Q ⟨J,J⟩ ⟨bK.bg dS,J⟩)))))))
 ·refine aB.skip (Ws (Ws (Wr ?_)))
  refine cZ (xF aG g.aA) dP dY bG (ah (LT.gY Q dK) Q Q Q (aH (Iv 0) au (On (aB.block ?_))))
  refine aB.iy (id := 0) (zQ g k l r1) (fun s3 => ([(1,Iv k),(2,Iv l),(3,Cc (.pl 21 0)),(7,Cc (lo 22 s3.2.length)),(8,Iv r1),(22,Iv (g.aA.length : Int)),(23,Iv s3.1)],[(21,.row 26 [[iC g.aF,xF aG g.aA]]),(22,pR 3 aC s3.2)])) (fun b20 => ([(7,Cc (lo 22 b20.length))],[(22,pR 3 aC b20)])) ?_ (aU.of z7 z2) Q (fun b20 _ => ?_)
  ·intro s3
   unfold zQ
   refine Ws (Wr ?_)
   refine aj LT.lss y5 (On (Ws ?_))
   refine aB.cond Q (fun hc21 => ?_) (fun hc21 => ?_)
   ·refine aB.skip (Ws (aB.block (Ws (Wr ?_))))
    refine aH (Iv s3.1) y4 (aP (Iv s3.1) y4 (On (Ws (Wr ?_))))
    refine bV (bJ [iC g.aF,xF aG g.aA] Q bU ai aX) Q Q Q Q (aH (Iv s3.1) y4 (aY fun r22 Cb => (aS.step (bH [.agg [iC g.aF,xF aG g.aA],.c (iC s3.1)] (Fw.Fn.ren [(0,25)] (aBX g s3.1 r22 Cb) Q) Uz (wE y3) J y3) z3 J Q Q (aH (.dI [.agg [iC r22.1.aF,lo 25 r22.1.aA.length],.c (bC r22.2)]) y4 (ah (LT.extract (v := (.agg [iC r22.1.aF,lo 25 r22.1.aA.length])) Q (by exact Q)) Q Q Q (ah (LT.extract (v := (.c (bC r22.2))) Q (by exact Q)) Q Q Q (dA (LT.alloc (n := 26) (cells := [iC 0,sC aO]) Q fK Q Q Q) Q Q (bW (stA [iC r22.1.aF,lo 25 r22.1.aA.length] Q Q ai aX) Q Q Q Q Q (aP (Bv r22.2) y4 (On (Ws ?_)))))))))))
    refine en [(1,Iv k),(2,Iv l),(3,Cc (.pl 21 0)),(7,Cc (lo 22 s3.2.length)),(8,Iv r1),(9,Iv s3.1),(10,Cc (.pl 26 0)),(22,Iv (g.aA.length : Int)),(23,Iv s3.1)] [(21,.row 26 [[iC g.aF,xF aG g.aA]]),(22,pR 3 aC s3.2),(25,pR 40 aG r22.1.aA),(26,.row 26 [[iC r22.1.aF,lo 25 r22.1.aA.length]])] z9 z4 (Wr (bV (bJ [iC r22.1.aF,lo 25 r22.1.aA.length] Q bU ai aX) Q Q Q Q (aH (Iv k) y4 (aH (Iv l) y4 (aY fun lT Jh => (aS.pure (cF [.agg [iC r22.1.aF,lo 25 r22.1.aA.length],.c (iC k),.c (iC l)] [(25,pR 40 aG r22.1.aA)] (ML r22.1 k l lT Jh) Ib (.cons (.agg (.cons (.same Q) (.cons (.dN Q Q) .nil))) (.cons (.c (.same Q)) (.cons (.c (.same Q)) .nil))) J y3) z4 z1 Q Q (aH (Iv r1) y4 (aj LT.lss y5 (On (aB.dZ (fun j26 => ([(1,Iv k),(2,Iv l),(3,Cc (.pl 21 0)),(7,Cc (lo 22 j26.length)),(8,Iv r1),(22,Iv (g.aA.length : Int)),(23,Iv s3.1)],[(21,.row 26 [[iC g.aF,xF aG g.aA]]),(22,pR 3 aC j26)])) ?_ (fun j26 _ => ?_)))))))))))
    ·refine aB.cond Q (fun hc27 => ?_) (fun hc27 => ?_)
     ·refine Wr (aH (Cc (lo 22 s3.2.length)) y4 (aH (Iv s3.1) y4 (dF (LT.eY (n := 28) (enc := aC) [(0,.tmp 39,.c (iC s3.1))] ([s3.1] : List Int) Q Q dO fF Q Q Q Q (by decide) (fun _ => Q) Q) Q Q Q (aY fun u28 Yb => (kR (LT.jg (enc := aC) Q Q Q dO fF Q (by decide) (by decide) (fun _ => Q) (iG Yb)) Q Q Q Q Q Q (aP (Cc (lo 22 ((s3.2 ++ ([s3.1] : List Int)).length))) y4 (On (aZ Q z7 z2))))))))
     ·refine aB.skip (aZ Q z7 z2)
    ·refine aB.blk (Wr ?_)
     refine aj LT.add af (aH (Iv (aJ (s3.1 + 1))) y4 (On (aZ Q z7 z2)))
   ·refine aB.fH Q ⟨Q,aU.of z1 z1⟩
  ·refine Ws (Wr ?_)
   refine aH (Cc (lo 22 b20.length)) y4 (aP (Cc (lo 22 b20.length)) y4 (On (en [(6,Cc (lo 22 b20.length))] [(22,pR 3 aC b20)] z1 z1 (aB.ent (aU.mv 22 0 Q Q) (en [(6,Cc (lo 0 b20.length))] [(0,pR 3 aC b20)] z1 z1 (aB.ret (bD.mk (.inr Q) z1 z1 Q ⟨J,J⟩ ⟨bK.bg dS,J⟩)))))))
end Go.Proofs.YtdmlaldifbmkpaaGreat
end
section
set_option linter.unusedVariables false
set_option linter.unusedSimpArgs false
set_option linter.unnecessarySimpa false
set_option maxRecDepth 100000
set_option maxHeartbeats 8000000
open Go Go.Fw
namespace Go.Proofs.YtdmlaldifbmkpaaGreat
theorem MK (g : aQ) : FT Tryz.prog (xM g) 9 [.agg [iC g.aF,xF aG g.aA]] [] (fun (t : (List Int)) => [.c (lo 0 t.length)]) (fun (t : (List Int)) => [(0,pR 3 aC t)]) [0] := by
 refine FT.of [] Tryz.func9 Tryz.ntmps9 Q y2 ?_
 intro w0 U0 R0 g0
 unfold xM
 refine Ws (Wr ?_)
 refine dF (LT.box (n := 21) (v := (.agg [iC g.aF,xF aG g.aA])) Q aX (by exact Q)) Q Q Q (aP (Cc (sC aO)) au (On (Ws (Wr ?_))))
 refine bV (bJ [iC g.aF,xF aG g.aA] Q bU ai aX) Q Q Q Q (aY fun r1 hr1 => (aS.step (bH [.agg [iC g.aF,xF aG g.aA],.c (iC 2),.c (iC 3)] (Fw.Fn.ren [(0,23)] (aBP g 2 3 r1 hr1) Q) VX (qx y4) J y3) ⟨Q,Q,y2,y2,J⟩ J Q Q (aP (Cc (lo 23 r1.length)) y4 (On (en [(2,Cc (lo 23 r1.length))] [(23,pR 3 aC r1)] z1 z1 (aB.ent (aU.mv 23 0 Q Q) (en [(2,Cc (lo 0 r1.length))] [(0,pR 3 aC r1)] z1 z1 (aB.ret (bD.mk (.inr Q) z1 z1 Q ⟨J,J⟩ ⟨bK.bg dS,J⟩)))))))))
theorem aBW (g : aQ) : FT Tryz.prog (zW g) 8 [.agg [iC g.aF,xF aG g.aA]] [] (fun (t : (List Int)) => [.c (lo 0 t.length)]) (fun (t : (List Int)) => [(0,pR 3 aC t)]) [0] := by
 refine FT.of [] Tryz.func8 Tryz.ntmps8 Q y2 ?_
 intro w0 U0 R0 g0
 unfold zW
 refine Ws (Wr ?_)
 refine dF (LT.box (n := 21) (v := (.agg [iC g.aF,xF aG g.aA])) Q aX (by exact Q)) Q Q Q (aP (Cc (sC aO)) au (On (Ws (Wr ?_))))
 refine dA (LT.eY (n := 22) (enc := aC) [] ([] : List Int) Q Q dO fF Q Q Q Q (by decide) (fun _ => Q) Q) Q Q (aP (Cc (lo 22 (([] : List Int).length))) y4 (On (Ws (Ws (Wr ?_)))))
 refine bV (bJ [iC g.aF,xF aG g.aA] Q bU ai aX) Q Q Q Q (aY fun r1 hr1 => (aS.pure (bH [.agg [iC g.aF,xF aG g.aA]] (yc g r1 hr1) wR (jL y2) J y3) z2 J Q Q (ah (LT.not Q) Q Q Q (On (aB.cond Q (fun hc2 => ?_) (fun hc2 => ?_))))))
 ·refine Ws (en [(3,Cc (lo 22 (([] : List Int).length)))] [(22,pR 3 aC ([] : List Int))] z1 z1 (Wr (aH (Cc (lo 22 (([] : List Int).length))) y4 (aP (Cc (lo 22 (([] : List Int).length))) y4 (On (en [(2,Cc (lo 22 (([] : List Int).length)))] [(22,pR 3 aC ([] : List Int))] z1 z1 (aB.ent (aU.mv 22 0 Q Q) (en [(2,Cc (lo 0 (([] : List Int).length)))] [(0,pR 3 aC ([] : List Int))] z1 z1 (aB.ret (bD.mk (.inr Q) z1 z1 Q ⟨J,J⟩ ⟨bK.bg dS,J⟩))))))))))
 ·refine aB.skip (Ws ?_)
  refine en [(1,Cc (.pl 21 0)),(3,Cc (lo 22 (([] : List Int).length)))] [(21,.row 26 [[iC g.aF,xF aG g.aA]]),(22,pR 3 aC ([] : List Int))] z2 z2 (Wr (bV (bJ [iC g.aF,xF aG g.aA] Q bU ai aX) Q Q Q Q (aY fun r3 hr3 => (aS.step (bH [.agg [iC g.aF,xF aG g.aA]] (Fw.Fn.ren [(0,25)] (MK g r3 hr3) Q) Ik (jL y2) J y3) z2 J Q Q (aP (Cc (lo 25 r3.length)) y4 (On (Ws (Ws (Wr ?_)))))))))
  refine cZ (xF aG g.aA) dP dY bG (ah (LT.gY Q dK) Q Q Q (aH (Iv 0) au (On (aB.block ?_))))
  refine aB.iy (id := 0) (zX g r3) (fun s4 => ([(3,Cc (lo 22 s4.2.length)),(4,Cc (lo 25 r3.length)),(15,Iv (g.aA.length : Int)),(16,Iv s4.1)],[(22,pR 3 aC s4.2),(25,pR 3 aC r3)])) (fun b19 => ([(3,Cc (lo 22 b19.length))],[(22,pR 3 aC b19)])) ?_ (aU.of z4 z2) Q (fun b19 _ => ?_)
  ·intro s4
   unfold zX
   refine Ws (Wr ?_)
   refine aj LT.lss y5 (On (Ws ?_))
   refine aB.cond Q (fun JM => ?_) (fun JM => ?_)
   ·refine aB.skip (Ws (aB.block (Ws (Wr ?_))))
    refine aH (Iv s4.1) y4 (aP (Iv s4.1) y4 (On (Ws (Wr ?_))))
    refine aH (Cc (lo 25 r3.length)) y4 (aH (Iv s4.1) y4 (aY fun bn xC => (aS.pure (cF [.c (lo 25 r3.length),.c (iC s4.1)] [(25,pR 3 aC r3)] (MP r3 s4.1 bn xC) Ie (.cons (.c (.dN Q Q)) (.cons (.c (.same Q)) .nil)) J y3) z3 z1 Q Q (ah (LT.not Q) Q Q Q (On (aB.dZ (fun j24 => ([(3,Cc (lo 22 j24.length)),(4,Cc (lo 25 r3.length)),(15,Iv (g.aA.length : Int)),(16,Iv s4.1)],[(22,pR 3 aC j24),(25,pR 3 aC r3)])) ?_ (fun j24 _ => ?_)))))))
    ·refine aB.cond Q (fun hc25 => ?_) (fun hc25 => ?_)
     ·refine Wr (aH (Cc (lo 22 s4.2.length)) y4 (aH (Iv s4.1) y4 (dF (LT.eY (n := 27) (enc := aC) [(0,.tmp 24,.c (iC s4.1))] ([s4.1] : List Int) Q Q dO fF Q Q Q Q (by decide) (fun _ => Q) Q) Q Q Q (aY fun u26 Jw => (kR (LT.jg (enc := aC) Q Q Q dO fF Q (by decide) (by decide) (fun _ => Q) (iG Jw)) Q Q Q Q Q Q (aP (Cc (lo 22 ((s4.2 ++ ([s4.1] : List Int)).length))) y4 (On (aZ Q z4 z2))))))))
     ·refine aB.skip (aZ Q z4 z2)
    ·refine aB.blk (Wr ?_)
     refine aj LT.add af (aH (Iv (aJ (s4.1 + 1))) y4 (On (aZ Q z4 z2)))
   ·refine aB.fH Q ⟨Q,aU.of z1 z1⟩
  ·refine Ws (Wr ?_)
   refine aH (Cc (lo 22 b19.length)) y4 (aP (Cc (lo 22 b19.length)) y4 (On (en [(2,Cc (lo 22 b19.length))] [(22,pR 3 aC b19)] z1 z1 (aB.ent (aU.mv 22 0 Q Q) (en [(2,Cc (lo 0 b19.length))] [(0,pR 3 aC b19)] z1 z1 (aB.ret (bD.mk (.inr Q) z1 z1 Q ⟨J,J⟩ ⟨bK.bg dS,J⟩)))))))
theorem UB (g : aQ) (k : Int) : FT Tryz.prog (AU g k) 174 [.agg [iC g.aF,xF aG g.aA],.c (iC k)] [] (fun (t : (ay × Bool)) => [.agg [lo 0 t.1.Free.length,lo 1 t.1.aN.length,lo 2 t.1.aI.length],.c (bC t.2)]) (fun (t : (ay × Bool)) => [(0,pR 3 aC t.1.Free),(1,pR 3 aC t.1.aN),(2,pR 3 aC t.1.aI)]) [0,1,2] := by
 refine FT.of [] Tryz.func174 Tryz.ntmps174 Q y2 ?_
 intro w0 U0 R0 g0
 unfold AU
 refine Ws (Wr ?_)
 refine dF (LT.box (n := 21) (v := (.agg [iC g.aF,xF aG g.aA])) Q aX (by exact Q)) Q Q Q (dA (LT.alloc (n := 22) (cells := [sC aO,sC aO,sC aO]) Q jY Q Q Q) Q Q (aP (Bv false) au (On (Ws (Wr ?_)))))
 refine dA (LT.eY (n := 23) (enc := aC) [] ([] : List Int) Q Q dO fF Q Q Q Q (by decide) (fun _ => Q) Q) Q Q (dA (LT.eY (n := 24) (enc := aC) [] ([] : List Int) Q Q dO fF Q Q Q Q (by decide) (fun _ => Q) Q) Q Q (dA (LT.eY (n := 25) (enc := aC) [] ([] : List Int) Q Q dO fF Q Q Q Q (by decide) (fun _ => Q) Q) Q Q (UY (LT.build [(0,.tmp 8,.c (lo 23 (([] : List Int).length))),(1,.tmp 9,.c (lo 24 (([] : List Int).length))),(2,.tmp 10,.c (lo 25 (([] : List Int).length)))] Q Q yP jY Q Q Q) Q Q Q Q Q (dA (LT.alloc (n := 26) (cells := [sC aO,sC aO,sC aO]) Q jY Q Q Q) Q Q (bW (stA [lo 23 (([] : List Int).length),lo 24 (([] : List Int).length),lo 25 (([] : List Int).length)] Q Q dR dJ) Q Q Q Q Q (On (Ws (Ws ?_))))))))
 refine aB.dZ (fun j4 => ([(1,Iv k),(2,Cc (.pl 21 0)),(4,Cc (.pl 22 0)),(6,Cc (.pl 26 0)),(19,Bv j4)],[(21,.row 26 [[iC g.aF,xF aG g.aA]]),(22,.row 113 [[sC aO,sC aO,sC aO]]),(23,pR 3 aC ([] : List Int)),(24,pR 3 aC ([] : List Int)),(25,pR 3 aC ([] : List Int)),(26,.row 113 [[lo 23 (([] : List Int).length),lo 24 (([] : List Int).length),lo 25 (([] : List Int).length)]])])) ?_ (fun j4 _ => ?_)
 ·refine en [(1,Iv k),(2,Cc (.pl 21 0)),(4,Cc (.pl 22 0)),(6,Cc (.pl 26 0))] [(21,.row 26 [[iC g.aF,xF aG g.aA]]),(22,.row 113 [[sC aO,sC aO,sC aO]]),(23,pR 3 aC ([] : List Int)),(24,pR 3 aC ([] : List Int)),(25,pR 3 aC ([] : List Int)),(26,.row 113 [[lo 23 (([] : List Int).length),lo 24 (([] : List Int).length),lo 25 (([] : List Int).length)]])] z4 z6 (Wr (bV (bJ [iC g.aF,xF aG g.aA] Q bU ai aX) Q Q Q Q (aY fun r5 lW => (aS.pure (bH [.agg [iC g.aF,xF aG g.aA]] (sH g r5 lW) rE (jL y2) J y3) z2 J Q Q (ah (LT.not Q) Q Q Q (aH (Bv (!r5)) y4 (aS.split (fun hb6 => ?_) (fun hb6 => ?_))))))))
  ·refine aV hb6 y5 (aV hb6 y5 (aV hb6 y5 (dL (Bv true) hb6 af (On (aZ Q z5 z6)))))
  ·refine dn (Iv k) hb6 y5 (aY fun r7 nN => (aS.pure (bH [.c (iC k),.c (iC 1),.c (iC 3)] (H7 k 1 3 r7 nN) FH (rq y3) J y3) ⟨Q,Q,y2,y2,J⟩ J (gH hb6 Q Q) Q (ah (LT.not Q) Q (gH hb6 Q Q) Q (eH (Bv (!r7)) hb6 y5 (On (aZ Q z5 z6))))))
 ·refine aB.cond Q (fun hc8 => ?_) (fun hc8 => ?_)
  ·refine Ws (Wr ?_)
   refine Em (LT.build [] Q Q yP jY Q Q Q) Q Q (bW (stA [sC aO,sC aO,sC aO] Q Q dR dJ) Q Q Q Q Q (aP (Bv false) au (On (aB.ent (aU.qC 22 0 0 3 Q Q Q Q) (aB.ent (aU.qC 22 1 1 3 Q Q Q Q) (aB.ent (aU.qC 22 2 2 3 Q Q Q Q) (en [(4,Cc (.pl 22 0)),(5,Bv false)] [(0,pR 3 aC ([] : List Int)),(1,pR 3 aC ([] : List Int)),(2,pR 3 aC ([] : List Int)),(22,.row 113 [[lo 0 (([] : List Int).length),lo 1 (([] : List Int).length),lo 2 (([] : List Int).length)]])] z2 z4 (aB.ret (bD.mk (.inr Q) ⟨⟨_,_,_,Q,Q,Q,gm,dJ,_,dQ dR⟩,Q,J⟩ z3 Q ⟨⟨J,J,J,J⟩,ak.sc,J⟩ ⟨bK.bg dS,bK.bg dS,bK.bg dS,J⟩)))))))))
  ·refine aB.skip (Ws (Ws (Wr ?_)))
   refine aP (Iv 0) au (On (aB.block ?_))
   refine aB.iy (id := 0) (AX g k) (fun s9 => ([(1,Iv k),(2,Cc (.pl 21 0)),(4,Cc (.pl 22 0)),(6,Cc (.pl 26 0)),(7,Iv s9.1)],[(21,.row 26 [[iC g.aF,xF aG g.aA]]),(22,.row 113 [[sC aO,sC aO,sC aO]]),(23,pR 3 aC s9.2),(24,pR 3 aC ([] : List Int)),(25,pR 3 aC ([] : List Int)),(26,.row 113 [[lo 23 s9.2.length,lo 24 (([] : List Int).length),lo 25 (([] : List Int).length)]])])) (fun b14 => ([(4,Cc (.pl 22 0)),(6,Cc (.pl 26 0))],[(22,.row 113 [[sC aO,sC aO,sC aO]]),(23,pR 3 aC b14),(24,pR 3 aC ([] : List Int)),(25,pR 3 aC ([] : List Int)),(26,.row 113 [[lo 23 b14.length,lo 24 (([] : List Int).length),lo 25 (([] : List Int).length)]])])) ?_ (aU.of z5 z6) Q (fun b14 _ => ?_)
   ·intro s9
    unfold AX
    refine Ws (Ws (Wr ?_))
    refine aH (Iv s9.1) y4 (cZ (iC g.aF) iq bM bG (aj LT.lss y5 (On (aB.cond Q (fun Bo => ?_) (fun Bo => ?_)))))
    ·refine aB.skip (Ws (aB.block (Wr ?_)))
     refine cZ (lo 23 s9.2.length) jl eU bG (aH (Iv k) y4 (dF (LT.eY (n := 29) (enc := aC) [(0,.tmp 29,.c (iC k))] ([k] : List Int) Q Q dO fF Q Q Q Q (by decide) (fun _ => Q) Q) Q Q Q (aY fun u16 YZ => (kR (LT.jg (enc := aC) Q Q Q dO fF Q (by decide) (by decide) (fun _ => Q) (iG YZ)) Q Q Q Q Q Q (ah (LT.ig Q jl) Q Q Q (bW (mO (.c (lo 23 ((s9.2 ++ ([k] : List Int)).length))) [lo 23 ((s9.2 ++ ([k] : List Int)).length),lo 24 (([] : List Int).length),lo 25 (([] : List Int).length)] Q Q uy wH) Q Q Q Q Q (On (aB.blk ?_))))))))
     refine en [(1,Iv k),(2,Cc (.pl 21 0)),(4,Cc (.pl 22 0)),(6,Cc (.pl 26 0)),(7,Iv s9.1)] [(21,.row 26 [[iC g.aF,xF aG g.aA]]),(22,.row 113 [[sC aO,sC aO,sC aO]]),(23,pR 3 aC (s9.2 ++ ([k] : List Int))),(24,pR 3 aC ([] : List Int)),(25,pR 3 aC ([] : List Int)),(26,.row 113 [[lo 23 ((s9.2 ++ ([k] : List Int)).length),lo 24 (([] : List Int).length),lo 25 (([] : List Int).length)]])] z5 z6 (Wr (aH (Iv s9.1) y4 (aj LT.add af (aP (Iv (aJ (s9.1 + 1))) y4 (On (aZ Q z5 z6))))))
    ·refine aB.fH Q ⟨Q,aU.of z2 z5⟩
   ·refine Ws (Wr ?_)
    refine bV (bJ [lo 23 b14.length,lo 24 (([] : List Int).length),lo 25 (([] : List Int).length)] Q gm dR dJ) Q Q Q Q (bW (stA [lo 23 b14.length,lo 24 (([] : List Int).length),lo 25 (([] : List Int).length)] Q Q dR dJ) Q Q Q Q Q (aP (Bv true) au (On (en [(4,Cc (.pl 22 0)),(5,Bv true)] [(22,.row 113 [[lo 23 b14.length,lo 24 (([] : List Int).length),lo 25 (([] : List Int).length)]]),(23,pR 3 aC b14),(24,pR 3 aC ([] : List Int)),(25,pR 3 aC ([] : List Int))] z2 z4 (aB.ent (aU.mv 23 0 Q Q) (aB.ent (aU.mv 24 1 Q Q) (aB.ent (aU.mv 25 2 Q Q) (en [(4,Cc (.pl 22 0)),(5,Bv true)] [(0,pR 3 aC b14),(1,pR 3 aC ([] : List Int)),(2,pR 3 aC ([] : List Int)),(22,.row 113 [[lo 0 b14.length,lo 1 (([] : List Int).length),lo 2 (([] : List Int).length)]])] z2 z4 (aB.ret (bD.mk (.inr Q) ⟨⟨_,_,_,Q,Q,Q,gm,dJ,_,dQ dR⟩,Q,J⟩ z3 Q ⟨⟨J,J,J,J⟩,ak.sc,J⟩ ⟨bK.bg dS,bK.bg dS,bK.bg dS,J⟩))))))))))
theorem Tz (k : Int) (l : Int) : FT Tryz.prog (xk k l) 176 [.c (iC k),.c (iC l)] [] (fun (t : Bool) => [.c (bC t)]) (fun (t : Bool) => []) [] := by
 refine FT.of [] Tryz.func176 Tryz.ntmps176 Q y2 ?_
 intro w0 U0 R0 g0
 unfold xk
 refine Ws (Wr ?_)
 refine aP (Bv false) au (On (Ws ?_))
 refine aB.dZ (fun j4 => ([(4,Bv j4)],[])) ?_ (fun j4 _ => ?_)
 ·refine Wr (aH (Iv k) y4 (aY fun r5 lW => (aS.pure (bH [.c (iC k),.c (iC 1),.c (iC 3)] (H7 k 1 3 r5 lW) FH (rq y3) J y3) ⟨Q,Q,y2,y2,J⟩ J Q Q (aH (Bv r5) y4 (aS.split (fun hb6 => ?_) (fun hb6 => ?_))))))
  ·refine dn (Iv l) hb6 y5 (fZ LT.geq hb6 jZ (dL (Bv (decide (0 ≤ l))) hb6 y5 (aH (Bv (decide (0 ≤ l))) y4 (aS.split (fun hb7 => ?_) (fun hb7 => ?_)))))
   ·refine dn (Iv l) hb7 y5 (dn (Iv k) hb7 y5 (fZ LT.mul hb7 TS (fZ LT.lss hb7 y6 (dL (Bv (decide (l < (aJ (2 * k))))) hb7 y5 (aP (Bv (decide (l < (aJ (2 * k))))) y4 (On (aZ Q z1 J)))))))
   ·refine aV hb7 y5 (aV hb7 y5 (aV hb7 y5 (aV hb7 y5 (eH (Bv false) hb7 af (aP (Bv false) y4 (On (aZ Q z1 J)))))))
  ·refine aV hb6 y5 (aV hb6 y5 (eH (Bv false) hb6 af (aH (Bv false) y4 (bT y5 (bT y5 (bT y5 (bT y5 (eH (Bv false) Q af (aP (Bv false) y4 (On (aZ Q z1 J)))))))))))
 ·refine aB.ret (bD.mk (.inr Q) z1 J Q ⟨ak.sc,J⟩ J)
theorem aB3 (p : ay) (v : Int) : FT Tryz.prog (ED p v) 216 [.agg [xF aC p.Free,xF aC p.aN,xF aC p.aI],.c (iC v)] [] (fun (t : Int) => [.c (iC t)]) (fun (t : Int) => []) [] := by
 refine FT.of [] Tryz.func216 Tryz.ntmps216 Q y2 ?_
 intro w0 U0 R0 g0
 unfold ED
 refine Ws (Wr ?_)
 refine dF (LT.box (n := 21) (v := (.agg [xF aC p.Free,xF aC p.aN,xF aC p.aI])) Q dJ (by exact Q)) Q Q Q (aP (Iv 0) au (On (Ws (Wr ?_))))
 refine aP (Iv 0) au (On (Ws (Ws (Wr ?_))))
 refine aP (Iv 0) au (On (aB.block ?_))
 refine aB.iy (id := 0) (Aj p v) (fun s1 => ([(1,Iv v),(2,Cc (.pl 21 0)),(5,Iv s1.1),(6,Iv s1.2)],[(21,.row 113 [[xF aC p.Free,xF aC p.aN,xF aC p.aI]])])) (fun b12 => ([(5,Iv b12)],[])) ?_ (aU.of z4 z1) Q (fun b12 _ => ?_)
 ·intro s1
  unfold Aj
  refine Ws (Ws (Wr ?_))
  refine aH (Iv s1.2) y4 (cZ (xF aC p.aN) lq eU bG (ah (LT.gY Q dO) Q Q Q (aj LT.lss y5 (On (aB.cond Q (fun hc13 => ?_) (fun hc13 => ?_))))))
  ·refine aB.skip (Ws (aB.block (Ws (Wr ?_))))
   refine cZ (xF aC p.aN) lq eU bG (aH (Iv s1.2) y4 (aY fun x14 Cm => (fA (LT.fO (enc := aC) Q fV Cm jB) Q Q Q Q (ah (LT.iP Q bM) Q Q Q (aH (Iv v) y4 (aj LT.eql y5 (On (aB.dZ (fun j16 => ([(1,Iv v),(2,Cc (.pl 21 0)),(5,Iv j16),(6,Iv s1.2)],[(21,.row 113 [[xF aC p.Free,xF aC p.aN,xF aC p.aI]])])) ?_ (fun j16 _ => ?_)))))))))
   ·refine aB.cond Q (fun hc17 => ?_) (fun hc17 => ?_)
    ·refine en [(1,Iv v),(2,Cc (.pl 21 0)),(5,Iv s1.1),(6,Iv s1.2)] [(21,.row 113 [[xF aC p.Free,xF aC p.aN,xF aC p.aI]])] z4 z1 (Wr (aH (Iv s1.1) y4 (aj LT.add af (aP (Iv (aJ (s1.1 + 1))) y4 (On (aZ Q z4 z1))))))
    ·refine aB.skip (aZ Q z4 z1)
   ·refine aB.blk (Wr ?_)
    refine aH (Iv s1.2) y4 (aj LT.add af (aP (Iv (aJ (s1.2 + 1))) y4 (On (aZ Q z4 z1))))
  ·refine aB.fH Q ⟨Q,aU.of z1 J⟩
 ·refine Ws (Wr ?_)
  refine aH (Iv b12) y4 (aP (Iv b12) y4 (On (aB.ret (bD.mk (.inr Q) z1 J Q ⟨ak.sc,J⟩ J))))
theorem aBr (g : aQ) (k : Int) (p : ay) : FT Tryz.prog (vU g k p) 203 [.agg [iC g.aF,xF aG g.aA],.c (iC k),.agg [xF aC p.Free,xF aC p.aN,xF aC p.aI]] [] (fun (t : Bool) => [.c (bC t)]) (fun (t : Bool) => []) [] := by
 refine FT.of [] Tryz.func203 Tryz.ntmps203 Q y2 ?_
 intro w0 U0 R0 g0
 unfold vU
 refine Ws (Wr ?_)
 refine dF (LT.box (n := 21) (v := (.agg [iC g.aF,xF aG g.aA])) Q aX (by exact Q)) Q Q Q (dF (LT.box (n := 22) (v := (.agg [xF aC p.Free,xF aC p.aN,xF aC p.aI])) Q dJ (by exact Q)) Q Q Q (aP (Bv false) au (On (Ws (Ws ?_)))))
 refine aB.dZ (fun j6 => ([(1,Iv k),(3,Cc (.pl 21 0)),(5,Cc (.pl 22 0)),(34,Bv j6)],[(21,.row 26 [[iC g.aF,xF aG g.aA]]),(22,.row 113 [[xF aC p.Free,xF aC p.aN,xF aC p.aI]])])) ?_ (fun j6 _ => ?_)
 ·refine Wr (bV (bJ [iC g.aF,xF aG g.aA] Q bU ai aX) Q Q Q Q (aY fun r7 nN => (aS.pure (bH [.agg [iC g.aF,xF aG g.aA]] (sH g r7 nN) rE (jL y2) J y3) z2 J Q Q (ah (LT.not Q) Q Q Q (aH (Bv (!r7)) y4 (aS.split (fun hb8 => ?_) (fun hb8 => ?_)))))))
  ·refine aV hb8 y5 (aV hb8 y5 (aV hb8 y5 (dL (Bv true) hb8 af (aH (Bv true) y4 (bT y5 (bT y5 (bT y5 (bT y5 (bT y5 (bT y5 (dL (Bv true) Q af ?_)))))))))))
   refine aH (Bv true) y4 (bT y5 (bT y5 (bT y5 (bT y5 (bT y5 (bT y5 (bT y5 (dL (Bv true) Q af (On (aZ Q z4 z2))))))))))
  ·refine dn (Iv k) hb8 y5 (aY fun r9 xI => (aS.pure (bH [.c (iC k),.c (iC 1),.c (iC 3)] (H7 k 1 3 r9 xI) FH (rq y3) J y3) ⟨Q,Q,y2,y2,J⟩ J (gH hb8 Q Q) Q (ah (LT.not Q) Q (gH hb8 Q Q) Q (eH (Bv (!r9)) hb8 y5 (aH (Bv (!r9)) y4 (aS.split (fun jI => ?_) (fun jI => ?_)))))))
   ·refine aV jI y5 (aV jI y5 (aV jI y5 (aV jI y5 (aV jI y5 (aV jI y5 (dL (Bv true) jI af (aH (Bv true) y4 (bT y5 (bT y5 (bT y5 (bT y5 ?_)))))))))))
    refine bT y5 (bT y5 (bT y5 (dL (Bv true) Q af (On (aZ Q z4 z2)))))
   ·refine iU (xF aC p.Free) jl eU jI fB (ah (LT.gY Q dO) Q (gH jI Q Q) Q (iU (iC g.aF) iq bM jI fB (fZ LT.neq jI y6 (eH (Bv ((p.Free.length : Int) != g.aF)) jI y5 (aH (Bv ((p.Free.length : Int) != g.aF)) y4 (aS.split (fun gJ => ?_) (fun gJ => ?_)))))))
    ·refine aV gJ y5 (aV gJ y5 (aV gJ y5 (aV gJ y5 (aV gJ y5 (aV gJ y5 (aV gJ y5 (dL (Bv true) gJ af (On (aZ Q z4 z2)))))))))
    ·refine iU (xF aC p.aN) lq eU gJ fB (ah (LT.gY Q dO) Q (gH gJ Q Q) Q (iU (xF aC p.aI) lV eU gJ fB (ah (LT.gY Q dO) Q (gH gJ Q Q) Q (fZ LT.neq gJ y6 (eH (Bv ((p.aN.length : Int) != (p.aI.length : Int))) gJ y5 (On (aZ Q z4 z2)))))))
 ·refine aB.cond Q (fun hc12 => ?_) (fun hc12 => ?_)
  ·refine Ws (Wr ?_)
   refine aP (Bv false) au (On (aB.ret (bD.mk (.inr Q) z1 J Q ⟨ak.sc,J⟩ J)))
  ·refine aB.skip (Ws (Ws (Wr ?_)))
   refine aP (Iv 0) au (On (aB.block ?_))
   refine aB.oC (id := 0) (AP g p) (fun s13 => ([(1,Iv k),(3,Cc (.pl 21 0)),(5,Cc (.pl 22 0)),(7,Iv s13)],[(21,.row 26 [[iC g.aF,xF aG g.aA]]),(22,.row 113 [[xF aC p.Free,xF aC p.aN,xF aC p.aI]])])) (fun Nh => ([(1,Iv k),(3,Cc (.pl 21 0)),(5,Cc (.pl 22 0))],[(21,.row 26 [[iC g.aF,xF aG g.aA]]),(22,.row 113 [[xF aC p.Free,xF aC p.aN,xF aC p.aI]])])) (bD Tryz.prog Tryz.f203.results.toList [] [] (fun (t : Bool) => [.c (bC t)]) (fun (t : Bool) => [])) ?_ (aU.of z4 z2) Q (fun Nh _ => ?_) (by intro r t σ m ht hk; injection ht with ht; subst ht; exact hk)
   ·intro s13
    unfold AP
    refine Ws (Ws (Wr ?_))
    refine aH (Iv s13) y4 (cZ (xF aC p.aI) lV eU bG (ah (LT.gY Q dO) Q Q Q (aj LT.lss y5 (On (aB.cond Q (fun XP => ?_) (fun XP => ?_))))))
    ·refine aB.skip (Ws (aB.block (Ws (Wr ?_))))
     refine cZ (xF aC p.aI) lV eU bG (aH (Iv s13) y4 (aY fun x84 ZM => (fA (LT.fO (enc := aC) Q fV ZM jB) Q Q Q Q (ah (LT.iP Q bM) Q Q Q (aP (Iv x84) y4 (On (Ws ?_)))))))
     refine aB.dZ (fun j100 => ([(1,Iv k),(3,Cc (.pl 21 0)),(5,Cc (.pl 22 0)),(7,Iv s13),(97,Bv j100)],[(21,.row 26 [[iC g.aF,xF aG g.aA]]),(22,.row 113 [[xF aC p.Free,xF aC p.aN,xF aC p.aI]])])) ?_ (fun j100 _ => ?_)
     ·refine en [(1,Iv k),(3,Cc (.pl 21 0)),(5,Cc (.pl 22 0)),(7,Iv s13),(8,Iv x84)] [(21,.row 26 [[iC g.aF,xF aG g.aA]]),(22,.row 113 [[xF aC p.Free,xF aC p.aN,xF aC p.aI]])] z5 z2 (aB.draw mixed (bY (Iv x84) y4 (jG LT.lss af (bY (Bv (decide (x84 < 0))) y4 (aT.split (fun qI => ?_) (fun qI => ?_))))))
      ·refine ax qI y3 (ax qI y3 (ax qI y3 (ax qI y3 (ax qI y3 (jE (Bv true) qI af (bY (Bv true) y4 (aW y3 (aW y3 (aW y3 (aW y3 (aW y3 ?_)))))))))))
       refine aW y3 (aW y3 (aW y3 (aW y3 (aW y3 (aW y3 (aW y3 (jE (Bv true) Q af (bY (Bv true) y4 (aW y3 (aW y3 (aW y3 ?_)))))))))))
       refine aW y3 (aW y3 (aW y3 (aW y3 (aW y3 (aW y3 (aW y3 (aW y3 (aW y3 (aW y3 (aW y3 (aW y3 ?_)))))))))))
       refine aW y3 (aW y3 (aW y3 (aW y3 (aW y3 (aW y3 (aW y3 (aW y3 (aW y3 (aW y3 (aW y3 (jE (Bv true) Q af ?_)))))))))))
       refine aT.nil (by kernel_rfl) (aZ Q z5 z2)
      ·refine jD (Iv x84) qI y5 (kT (xF aG g.aA) dP dY qI fB (bf (LT.gY Q dK) Q (gH qI Q Q) Q (ku LT.geq qI y6 (jX (Bv (decide ((g.aA.length : Int) ≤ x84))) qI y5 (bY (Bv (decide ((g.aA.length : Int) ≤ x84))) y4 (aT.split (fun pV => ?_) (fun pV => ?_)))))))
       ·refine ax pV y3 (ax pV y3 (ax pV y3 (aW y3 (aW y3 (aW y3 (aW y3 (aW y3 (aW y3 (aW y3 (aW y3 (ax pV y3 ?_)))))))))))
        refine jE (Bv true) pV af (bY (Bv true) y4 (aW y3 (aW y3 (aW y3 (aW y3 (aW y3 (aW y3 (aW y3 (aW y3 (aW y3 (aW y3 ?_)))))))))))
        refine aW y3 (aW y3 (aW y3 (aW y3 (aW y3 (aW y3 (aW y3 (aW y3 (aW y3 (aW y3 (aW y3 (aW y3 ?_)))))))))))
        refine aW y3 (aW y3 (aW y3 (aW y3 (jE (Bv true) Q af (aT.nil (by kernel_rfl) (aZ Q z5 z2))))))
       ·refine jD (Iv s13) pV y5 (ku LT.gtr pV jZ (jD (Bv (decide (0 < s13))) pV y5 (aT.split (fun nC => ?_) (fun nC => ?_))))
        ·refine kT (xF aC p.aI) lV eU nC fB (jD (Iv s13) nC y5 (ku LT.sub nC jZ (aT.bind fun x104 hx104 => (eG (LT.fO (enc := aC) Q fV hx104 jB) Q Q (gH nC Q Q) Q (bf (LT.iP Q bM) Q (gH nC Q Q) Q (jD (Iv x84) nC y5 (ku LT.geq nC y6 (eG (LT.oH (v := (Bv (decide (x84 ≤ x104)))) Q nC) Q Q (gH pV Q Q) Q (jX (Bv (decide (x84 ≤ x104))) pV y5 (bY (Bv (decide (x84 ≤ x104))) y4 ?_))))))))))
         refine aT.split (fun jP => ?_) (fun jP => ?_)
         ·refine ax jP y3 (ax jP y3 (ax jP y3 (ax jP y3 (ax jP y3 (ax jP y3 (ax jP y3 (ax jP y3 (ax jP y3 (ax jP y3 (ax jP y3 (ax jP y3 ?_)))))))))))
          refine ax jP y3 (aW y3 (aW y3 (aW y3 (aW y3 (aW y3 (aW y3 (aW y3 (aW y3 (aW y3 (aW y3 (aW y3 ?_)))))))))))
          refine aW y3 (ax jP y3 (jE (Bv true) jP af (aT.nil (by kernel_rfl) (aZ Q z5 z2))))
         ·refine kT (xF aC p.aN) lq eU jP fB (jD (Iv s13) jP y5 (aT.bind fun Mc Yw => (eG (LT.fO (enc := aC) Q fV Yw jB) Q Q (gH jP Q Q) Q (bf (LT.iP Q bM) Q (gH jP Q Q) Q (kT (xF aG g.aA) dP dY jP fB (jD (Iv x84) jP y5 (aT.bind fun x107 Yx => (eG (LT.fO (enc := aG) Q iJ Yx dM) Q Q (gH jP Q Q) Q (bf (LT.oN Q iO) Q (gH jP Q Q) Q ?_)))))))))
          refine bf (LT.iP Q bM) Q (gH jP Q Q) Q (ku LT.neq jP y6 (jD (Bv (Mc != x107.A)) jP y5 (aT.split (fun kJ => ?_) (fun kJ => ?_))))
          ·refine kT (xF aC p.aN) lq eU kJ fB (jD (Iv s13) kJ y5 (aT.bind fun IB Yy => (eG (LT.fO (enc := aC) Q fV Yy jB) Q Q (gH kJ Q Q) Q (bf (LT.iP Q bM) Q (gH kJ Q Q) Q (kT (xF aG g.aA) dP dY kJ fB (jD (Iv x84) kJ y5 (aT.bind fun IC Yz => (eG (LT.fO (enc := aG) Q iJ Yz dM) Q Q (gH kJ Q Q) Q (bf (LT.oN Q jd) Q (gH kJ Q Q) Q ?_)))))))))
           refine bf (LT.iP Q bM) Q (gH kJ Q Q) Q (ku LT.neq kJ y6 (eG (LT.oH (v := (Bv (IB != IC.B))) Q kJ) Q Q (gH jP Q Q) Q (jX (Bv (IB != IC.B)) jP y5 (aT.nil (by kernel_rfl) (aZ Q z5 z2)))))
          ·refine ax kJ y3 (ax kJ y3 (ax kJ y3 (ax kJ y3 (ax kJ y3 (ax kJ y3 (ax kJ y3 (ax kJ y3 (ax kJ y3 (ax kJ y3 (ax kJ y3 (ax kJ y3 ?_)))))))))))
           refine eG (LT.oG (v := (Bv false)) Q kJ) Q y2 (gH jP Q Q) Q (jX (Bv false) jP y5 (aT.nil (by kernel_rfl) (aZ Q z5 z2)))
        ·refine ax nC y3 (ax nC y3 (ax nC y3 (ax nC y3 (ax nC y3 (ax nC y3 (ax nC y3 (ax nC y3 (eG (LT.oG (v := (Bv false)) Q nC) Q y2 (gH pV Q Q) Q (jX (Bv false) pV y5 (bY (Bv false) y4 (bf (LT.ig Q lq) Q (gS Q Q) Q ?_)))))))))))
         refine fU (xK (xF aC p.aN) Q eU) Q Q (gS Q Q) Q (bf (LT.move (v := (Iv s13)) Q) Q (gS Q Q) Q (aT.bind fun Md Y0 => (eG (LT.fO (enc := aC) Q fV Y0 jB) Q Q (gS Q Q) Q (bf (LT.iP Q bM) Q (gS Q Q) Q (bf (LT.ig Q dP) Q (gS Q Q) Q (fU (xK (xF aG g.aA) Q dY) Q Q (gS Q Q) Q (bf (LT.move (v := (Iv x84)) Q) Q (gS Q Q) Q (aT.bind fun x112 hx112 => (eG (LT.fO (enc := aG) Q iJ hx112 dM) Q Q (gS Q Q) Q (bf (LT.oN Q iO) Q (gS Q Q) Q (bf (LT.iP Q bM) Q (gS Q Q) Q ?_)))))))))))
         refine eG (LT.neq Q) Q Q (gS Q Q) Q (bf (LT.move (v := (Bv (Md != x112.A))) Q) Q (gS Q Q) Q (aT.split (fun kK => ?_) (fun kK => ?_)))
         ·refine kT (xF aC p.aN) lq eU kK fB (jD (Iv s13) kK y5 (aT.bind fun x114 hx114 => (eG (LT.fO (enc := aC) Q fV hx114 jB) Q Q (gH kK Q Q) Q (bf (LT.iP Q bM) Q (gH kK Q Q) Q (kT (xF aG g.aA) dP dY kK fB (jD (Iv x84) kK y5 (aT.bind fun x115 hx115 => (eG (LT.fO (enc := aG) Q iJ hx115 dM) Q Q (gH kK Q Q) Q (bf (LT.oN Q jd) Q (gH kK Q Q) Q ?_)))))))))
          refine bf (LT.iP Q bM) Q (gH kK Q Q) Q (ku LT.neq kK y6 (eG (LT.oH (v := (Bv (x114 != x115.B))) Q kK) Q Q (gS Q Q) Q (jX (Bv (x114 != x115.B)) Q y5 (aT.nil (by kernel_rfl) (aZ Q z5 z2)))))
         ·refine ax kK y3 (ax kK y3 (ax kK y3 (ax kK y3 (ax kK y3 (ax kK y3 (ax kK y3 (ax kK y3 (ax kK y3 (ax kK y3 (ax kK y3 (ax kK y3 ?_)))))))))))
          refine eG (LT.oG (v := (Bv false)) Q kK) Q y2 (gS Q Q) Q (jX (Bv false) Q y5 (aT.nil (by kernel_rfl) (aZ Q z5 z2)))
     ·refine aB.cond Q (fun Wx => ?_) (fun Wx => ?_)
      ·refine Ws (Wr ?_)
       refine aP (Bv false) au (On (aB.ret ⟨Q,bD.mk (.inr Q) z1 J Q ⟨ak.sc,J⟩ J⟩))
      ·refine aB.skip (aB.blk (Wr ?_))
       refine aH (Iv s13) y4 (aj LT.add af (aP (Iv (aJ (s13 + 1))) y4 (On (aZ Q z4 z2))))
    ·refine aB.fH Q ⟨Q,aU.of z3 z2⟩
   ·refine Ws (Ws (Wr ?_))
    refine aP (Iv 0) au (On (aB.block ?_))
    refine aB.oC (id := 2) (AQ g k p) (fun nU => ([(1,Iv k),(3,Cc (.pl 21 0)),(5,Cc (.pl 22 0)),(9,Iv nU)],[(21,.row 26 [[iC g.aF,xF aG g.aA]]),(22,.row 113 [[xF aC p.Free,xF aC p.aN,xF aC p.aI]])])) (fun Nb => ([],[])) (bD Tryz.prog Tryz.f203.results.toList [] [] (fun (t : Bool) => [.c (bC t)]) (fun (t : Bool) => [])) ?_ (aU.of z4 z2) Q (fun Nb _ => ?_) (by intro r t σ m ht hk; injection ht with ht; subst ht; exact hk)
    ·intro nU
     unfold AQ
     refine Ws (Ws (Wr ?_))
     refine aH (Iv nU) y4 (cZ (iC g.aF) iq bM bG (aj LT.lss y5 (On (aB.cond Q (fun JL => ?_) (fun JL => ?_)))))
     ·refine aB.skip (Ws (aB.block (Ws ?_)))
      refine aB.dZ (fun tY => ([(1,Iv k),(3,Cc (.pl 21 0)),(5,Cc (.pl 22 0)),(9,Iv nU),(122,Bv tY)],[(21,.row 26 [[iC g.aF,xF aG g.aA]]),(22,.row 113 [[xF aC p.Free,xF aC p.aN,xF aC p.aI]])])) ?_ (fun tY _ => ?_)
      ·refine aB.draw mixed (fD (xF aC p.Free) jl eU bG (bY (Iv nU) y4 (aT.bind fun Me Y4 => (eG (LT.fO (enc := aC) Q fV Y4 jB) Q Q Q Q (bf (LT.iP Q bM) Q Q Q (jG LT.lss af (bY (Bv (decide (Me < 0))) y4 (aT.split (fun kV => ?_) (fun kV => ?_)))))))))
       ·refine ax kV y3 (ax kV y3 (ax kV y3 (ax kV y3 (ax kV y3 (ax kV y3 (ax kV y3 (ax kV y3 (ax kV y3 (ax kV y3 (ax kV y3 (jE (Bv true) kV af ?_)))))))))))
        refine aT.nil (by kernel_rfl) (aZ Q z5 z2)
       ·refine kT (xF aC p.Free) jl eU kV fB (jD (Iv nU) kV y5 (aT.bind fun ND Y6 => (eG (LT.fO (enc := aC) Q fV Y6 jB) Q Q (gH kV Q Q) Q (bf (LT.iP Q bM) Q (gH kV Q Q) Q (fU (bJ [xF aC p.Free,xF aC p.aN,xF aC p.aI] Q gm dR dJ) Q Q (gH kV Q Q) Q (jD (Iv nU) kV y5 (aT.bind fun lG Jf => (aT.pure (bH [.agg [xF aC p.Free,xF aC p.aN,xF aC p.aI],.c (iC nU)] (aB3 p nU lG Jf) VP (aAl y4) J y3) z3 J (gH kV Q Q) Q (ku LT.add kV y6 (jD (Iv k) kV y5 ?_))))))))))
        refine ku LT.neq kV y6 (jX (Bv ((aJ (ND + lG)) != k)) kV y5 (aT.nil (by kernel_rfl) (aZ Q z5 z2)))
      ·refine aB.cond Q (fun hc151 => ?_) (fun hc151 => ?_)
       ·refine Ws (Wr ?_)
        refine aP (Bv false) au (On (aB.ret ⟨Q,bD.mk (.inr Q) z1 J Q ⟨ak.sc,J⟩ J⟩))
       ·refine aB.skip (aB.blk (Wr ?_))
        refine aH (Iv nU) y4 (aj LT.add af (aP (Iv (aJ (nU + 1))) y4 (On (aZ Q z4 z2))))
     ·refine aB.fH Q ⟨Q,aU.of J J⟩
    ·refine Ws (Wr ?_)
     refine aP (Bv true) au (On (aB.ret (bD.mk (.inr Q) z1 J Q ⟨ak.sc,J⟩ J)))
theorem H9 (p : ay) : FT Tryz.prog (uJ p) 201 [.agg [xF aC p.Free,xF aC p.aN,xF aC p.aI]] [] (fun (t : ay) => [.agg [lo 0 t.Free.length,lo 1 t.aN.length,lo 2 t.aI.length]]) (fun (t : ay) => [(0,pR 3 aC t.Free),(1,pR 3 aC t.aN),(2,pR 3 aC t.aI)]) [0,1,2] := by
 refine FT.of [] Tryz.func201 Tryz.ntmps201 Q y2 ?_
 intro w0 U0 R0 g0
 unfold uJ
 refine Ws (Wr ?_)
 refine dF (LT.box (n := 21) (v := (.agg [xF aC p.Free,xF aC p.aN,xF aC p.aI])) Q dJ (by exact Q)) Q Q Q (dA (LT.alloc (n := 22) (cells := [sC aO,sC aO,sC aO]) Q jY Q Q Q) Q Q (On (Ws (aB.draw mixed ?_))))
 refine qy (LT.eY (n := 23) (enc := aC) [] ([] : List Int) Q Q dO fF Q Q Q Q (by decide) (fun _ => Q) Q) Q Q (fD (xF aC p.Free) jl eU bG (aT.bind fun u1 hu1 => (ji (LT.sF (enc := aC) Q  Q dO fF Q (by decide) (by decide) (fun _ => Q) (iG hu1)) Q Q Q Q Q (qy (LT.eY (n := 24) (enc := aC) [] ([] : List Int) Q Q dO fF Q Q Q Q (by decide) (fun _ => Q) Q) Q Q (fD (xF aC p.aN) lq eU bG (aT.bind fun u2 hu2 => (ji (LT.sF (enc := aC) Q  Q dO fF Q (by decide) (by decide) (fun _ => Q) (iG hu2)) Q Q Q Q Q (qy (LT.eY (n := 25) (enc := aC) [] ([] : List Int) Q Q dO fF Q Q Q Q (by decide) (fun _ => Q) Q) Q Q (bf (LT.ig Q lV) Q Q Q ?_)))))))))
 refine fU (xK (xF aC p.aI) Q eU) Q Q Q Q (aT.bind fun u3 hu3 => (ji (LT.sF (enc := aC) Q  Q dO fF Q (by decide) (by decide) (fun _ => Q) (iG hu3)) Q Q Q Q Q (NI (LT.build [(0,.tmp 6,.c (lo 23 ((([] : List Int) ++ p.Free).length))),(1,.tmp 10,.c (lo 24 ((([] : List Int) ++ p.aN).length))),(2,.tmp 14,.c (lo 25 ((([] : List Int) ++ p.aI).length)))] Q Q yP jY Q Q Q) Q Q Q Q Q (ji (stA [lo 23 ((([] : List Int) ++ p.Free).length),lo 24 ((([] : List Int) ++ p.aN).length),lo 25 ((([] : List Int) ++ p.aI).length)] Q Q dR dJ) Q Q Q Q Q (aT.nil (by kernel_rfl) (en [(2,Cc (.pl 22 0))] [(22,.row 113 [[lo 23 ((([] : List Int) ++ p.Free).length),lo 24 ((([] : List Int) ++ p.aN).length),lo 25 ((([] : List Int) ++ p.aI).length)]]),(23,pR 3 aC (([] : List Int) ++ p.Free)),(24,pR 3 aC (([] : List Int) ++ p.aN)),(25,pR 3 aC (([] : List Int) ++ p.aI))] z1 z4 (aB.ent (aU.mv 23 0 Q Q) (aB.ent (aU.mv 24 1 Q Q) (aB.ent (aU.mv 25 2 Q Q) (en [(2,Cc (.pl 22 0))] [(0,pR 3 aC (([] : List Int) ++ p.Free)),(1,pR 3 aC (([] : List Int) ++ p.aN)),(2,pR 3 aC (([] : List Int) ++ p.aI)),(22,.row 113 [[lo 0 ((([] : List Int) ++ p.Free).length),lo 1 ((([] : List Int) ++ p.aN).length),lo 2 ((([] : List Int) ++ p.aI).length)]])] z1 z4 (aB.ret (bD.mk (.inr Q) ⟨⟨_,_,_,Q,Q,Q,gm,dJ,_,dQ dR⟩,J⟩ z3 Q ⟨⟨J,J,J,J⟩,J⟩ ⟨bK.bg dS,bK.bg dS,bK.bg dS,J⟩))))))))))))
theorem aB2 (g : aQ) (p : ay) (fromV : (List Int)) (a : Int) (u : Int) : FT Tryz.prog (EC g p fromV a u) 215 [.agg [iC g.aF,xF aG g.aA],.agg [xF aC p.Free,xF aC p.aN,xF aC p.aI],.c (xF aC fromV),.c (iC a),.c (iC u)] [] (fun (t : ay) => [.agg [lo 0 t.Free.length,lo 1 t.aN.length,lo 2 t.aI.length]]) (fun (t : ay) => [(0,pR 3 aC t.Free),(1,pR 3 aC t.aN),(2,pR 3 aC t.aI)]) [0,1,2] := by
 refine FT.of [] Tryz.func215 Tryz.ntmps215 Q y2 ?_
 intro w0 U0 R0 g0
 unfold EC
 refine Ws (Wr ?_)
 refine dF (LT.box (n := 21) (v := (.agg [iC g.aF,xF aG g.aA])) Q aX (by exact Q)) Q Q Q (dF (LT.box (n := 22) (v := (.agg [xF aC p.Free,xF aC p.aN,xF aC p.aI])) Q dJ (by exact Q)) Q Q Q (dA (LT.alloc (n := 23) (cells := [sC aO,sC aO,sC aO]) Q jY Q Q Q) Q Q (On (Ws (Wr ?_)))))
 refine bV (bJ [xF aC p.Free,xF aC p.aN,xF aC p.aI] Q gm dR dJ) Q Q Q Q (aY fun r1 hr1 => (aS.step (bH [.agg [xF aC p.Free,xF aC p.aN,xF aC p.aI]] (Fw.Fn.ren [(0,25),(1,26),(2,27)] (H9 p r1 hr1) Q) E5 (Hf y3) J y3) z2 J Q Q (dA (LT.alloc (n := 28) (cells := [sC aO,sC aO,sC aO]) Q jY Q Q Q) Q Q (bW (stA [lo 25 r1.Free.length,lo 26 r1.aN.length,lo 27 r1.aI.length] Q Q dR dJ) Q Q Q Q Q (On (Ws ?_))))))
 refine en [(2,Cc (xF aC fromV)),(3,Iv a),(4,Iv u),(5,Cc (.pl 21 0)),(6,Cc (.pl 22 0)),(10,Cc (.pl 23 0)),(11,Cc (.pl 28 0))] [(21,.row 26 [[iC g.aF,xF aG g.aA]]),(22,.row 113 [[xF aC p.Free,xF aC p.aN,xF aC p.aI]]),(23,.row 113 [[sC aO,sC aO,sC aO]]),(25,pR 3 aC r1.Free),(26,pR 3 aC r1.aN),(27,pR 3 aC r1.aI),(28,.row 113 [[lo 25 r1.Free.length,lo 26 r1.aN.length,lo 27 r1.aI.length]])] z7 z7 (aB.draw mixed (fD (lo 25 r1.Free.length) jl eU bG (bY (Iv u) y4 (fD (lo 25 r1.Free.length) jl eU bG (bY (Iv u) y4 (aT.bind fun x2 hx2 => (kz (LT.gy Q Q fV hx2) Q Q Q Q Q (fU (LT.kQ (k := 0) Q bM hx2 (by exact Q) (by exact Q)) Q Q Q Q (jG LT.sub af ?_)))))))))
 refine aT.bind fun x3 hx3 => (kz (LT.gy Q Q fV hx3) Q Q Q Q Q (ji (LT.qG (k := 0) (v := (.c (iC (aJ (x2 - 1))))) (b' := (aJ (x2 - 1))) Q Q (dQ oz) jB (by exact Q) hx3 (by exact Q) (by exact K Q) (by exact Q)) Q Q Q Q Q (aT.nil (by kernel_rfl) (Ws (en [(2,Cc (xF aC fromV)),(3,Iv a),(4,Iv u),(5,Cc (.pl 21 0)),(6,Cc (.pl 22 0)),(10,Cc (.pl 23 0)),(11,Cc (.pl 28 0))] [(21,.row 26 [[iC g.aF,xF aG g.aA]]),(22,.row 113 [[xF aC p.Free,xF aC p.aN,xF aC p.aI]]),(23,.row 113 [[sC aO,sC aO,sC aO]]),(25,pR 3 aC (r1.Free.set u.toNat (aJ (x2 - 1)))),(26,pR 3 aC r1.aN),(27,pR 3 aC r1.aI),(28,.row 113 [[lo 25 r1.Free.length,lo 26 r1.aN.length,lo 27 r1.aI.length]])] z7 z7 (aB.draw mixed (fD (lo 25 r1.Free.length) jl eU bG (bY (Iv a) y4 (fD (lo 25 r1.Free.length) jl eU bG ?_)))))))))
 refine bY (Iv a) y4 (aT.bind fun x4 hx4 => (kz (LT.gy (show r1.Free.length = (r1.Free.set u.toNat (aJ (x2 - 1))).length by simp only [List.length_set]) Q fV hx4) Q Q Q Q Q (fU (LT.kQ (k := 0) Q bM hx4 (by exact Q) (by exact Q)) Q Q Q Q (jG LT.add af (aT.bind fun x5 hx5 => (kz (LT.gy (show r1.Free.length = (r1.Free.set u.toNat (aJ (x2 - 1))).length by simp only [List.length_set]) Q fV hx5) Q Q Q Q Q (ji (LT.qG (k := 0) (v := (.c (iC (aJ (x4 + 1))))) (b' := (aJ (x4 + 1))) Q Q (dQ oz) jB (by exact Q) hx5 (by exact Q) (by exact K Q) (by exact Q)) Q Q Q Q Q (aT.nil (by kernel_rfl) (Ws (en [(2,Cc (xF aC fromV)),(3,Iv a),(4,Iv u),(5,Cc (.pl 21 0)),(6,Cc (.pl 22 0)),(10,Cc (.pl 23 0)),(11,Cc (.pl 28 0))] [(21,.row 26 [[iC g.aF,xF aG g.aA]]),(22,.row 113 [[xF aC p.Free,xF aC p.aN,xF aC p.aI]]),(23,.row 113 [[sC aO,sC aO,sC aO]]),(25,pR 3 aC ((r1.Free.set u.toNat (aJ (x2 - 1))).set a.toNat (aJ (x4 + 1)))),(26,pR 3 aC r1.aN),(27,pR 3 aC r1.aI),(28,.row 113 [[lo 25 r1.Free.length,lo 26 r1.aN.length,lo 27 r1.aI.length]])] z7 z7 (Wr ?_)))))))))))
 refine aH (Iv u) y4 (aP (Iv u) y4 (On (Ws (aB.block ?_))))
 refine aB.iy (id := 0) (yI g p fromV a u r1 x2 x4) (fun s6 => ([(2,Cc (xF aC fromV)),(3,Iv a),(5,Cc (.pl 21 0)),(6,Cc (.pl 22 0)),(10,Cc (.pl 23 0)),(11,Cc (.pl 28 0)),(12,Iv s6.1)],[(21,.row 26 [[iC g.aF,xF aG g.aA]]),(22,.row 113 [[xF aC p.Free,xF aC p.aN,xF aC p.aI]]),(23,.row 113 [[sC aO,sC aO,sC aO]]),(25,pR 3 aC ((r1.Free.set u.toNat (aJ (x2 - 1))).set a.toNat (aJ (x4 + 1)))),(26,pR 3 aC s6.2),(27,pR 3 aC r1.aI),(28,.row 113 [[lo 25 (((r1.Free.set u.toNat (aJ (x2 - 1))).set a.toNat (aJ (x4 + 1))).length),lo 26 s6.2.length,lo 27 r1.aI.length]])])) (fun b19 => ([(10,Cc (.pl 23 0)),(11,Cc (.pl 28 0))],[(23,.row 113 [[sC aO,sC aO,sC aO]]),(25,pR 3 aC b19.1),(26,pR 3 aC b19.2.1),(27,pR 3 aC b19.2.2),(28,.row 113 [[lo 25 b19.1.length,lo 26 b19.2.1.length,lo 27 b19.2.2.length]])])) ?_ (aU.of z7 ⟨Q,Q,Q,Q,Q,Q,congrArg (fun l1 => (some (Ob.row 113 [[lo 25 l1,lo 26 r1.aN.length,lo 27 r1.aI.length]]) : Option Ob)) (show r1.Free.length = ((r1.Free.set u.toNat (aJ (x2 - 1))).set a.toNat (aJ (x4 + 1))).length by simp only [List.length_set]),J⟩) Q (fun b19 _ => ?_)
 ·intro s6
  unfold yI
  refine Ws (Ws (Wr ?_))
  refine aH (Iv s6.1) y4 (aH (Iv a) y4 (aj LT.neq y5 (On (aB.cond Q (fun JM => ?_) (fun JM => ?_)))))
  ·refine aB.skip (aB.block (Ws (Wr ?_)))
   refine aH (Cc (xF aC fromV)) y4 (aH (Iv s6.1) y4 (aY fun x21 Y8 => (fA (LT.fO (enc := aC) Q fV Y8 jB) Q Q Q Q (ah (LT.iP Q bM) Q Q Q (aP (Iv x21) y4 (On (Ws (aB.draw mixed ?_))))))))
   refine fD (xF aG g.aA) dP dY bG (fD (xF aC p.aI) lV eU bG (bY (Iv x21) y4 (aT.bind fun UO Y9 => (eG (LT.fO (enc := aC) Q fV Y9 jB) Q Q Q Q (bf (LT.iP Q bM) Q Q Q (aT.bind fun x23 ZA => (eG (LT.fO (enc := aG) Q iJ ZA dM) Q Q Q Q (bf (LT.ni Q jO (dQ gV) (by exact dM.symm)) Q Q Q (bY (Iv s6.1) y4 ?_)))))))))
   refine aT.bind fun gu xE => (aT.pure (bH [.agg [iC x23.A,iC x23.B],.c (iC s6.1)] (UG x23 s6.1 gu xE) OH (wE y3) J y3) z3 J Q Q (bf (LT.assign (v := (Iv gu)) Q) Q Q Q (aT.nil (by kernel_rfl) (Ws (en [(2,Cc (xF aC fromV)),(3,Iv a),(5,Cc (.pl 21 0)),(6,Cc (.pl 22 0)),(10,Cc (.pl 23 0)),(11,Cc (.pl 28 0)),(12,Iv s6.1),(13,Iv x21),(14,Iv gu)] [(21,.row 26 [[iC g.aF,xF aG g.aA]]),(22,.row 113 [[xF aC p.Free,xF aC p.aN,xF aC p.aI]]),(23,.row 113 [[sC aO,sC aO,sC aO]]),(25,pR 3 aC ((r1.Free.set u.toNat (aJ (x2 - 1))).set a.toNat (aJ (x4 + 1)))),(26,pR 3 aC s6.2),(27,pR 3 aC r1.aI),(28,.row 113 [[lo 25 (((r1.Free.set u.toNat (aJ (x2 - 1))).set a.toNat (aJ (x4 + 1))).length),lo 26 s6.2.length,lo 27 r1.aI.length]])] z9 z7 (Wr (cZ (lo 26 s6.2.length) lq eU bG (aH (Iv x21) y4 (aH (Iv s6.1) y4 (aY fun x25 hx25 => ?_))))))))))
   refine lC (LT.gy Q Q fV hx25) Q Q Q Q Q (bW (LT.qG (k := 0) (v := (.c (iC s6.1))) (b' := s6.1) Q Q (dQ oz) jB (by exact Q) hx25 (by exact Q) (by exact K Q) (by exact Q)) Q Q Q Q Q (On (Wr ?_)))
   refine aH (Iv gu) y4 (aP (Iv gu) y4 (On (aB.blk ?_)))
   refine aB.nil ⟨Q,aU.of z7 ⟨Q,Q,Q,Q,Q,Q,congrArg (fun l1 => (some (Ob.row 113 [[lo 25 (((r1.Free.set u.toNat (aJ (x2 - 1))).set a.toNat (aJ (x4 + 1))).length),lo 26 l1,lo 27 r1.aI.length]]) : Option Ob)) (show s6.2.length = (s6.2.set x21.toNat s6.1).length by simp only [List.length_set]),J⟩⟩
  ·refine aB.fH Q ⟨Q,aU.of z2 z5⟩
 ·refine Ws (Wr ?_)
  refine bV (bJ [lo 25 b19.1.length,lo 26 b19.2.1.length,lo 27 b19.2.2.length] Q gm dR dJ) Q Q Q Q (bW (stA [lo 25 b19.1.length,lo 26 b19.2.1.length,lo 27 b19.2.2.length] Q Q dR dJ) Q Q Q Q Q (On (en [(10,Cc (.pl 23 0))] [(23,.row 113 [[lo 25 b19.1.length,lo 26 b19.2.1.length,lo 27 b19.2.2.length]]),(25,pR 3 aC b19.1),(26,pR 3 aC b19.2.1),(27,pR 3 aC b19.2.2)] z1 z4 (aB.ent (aU.mv 25 0 Q Q) (aB.ent (aU.mv 26 1 Q Q) (aB.ent (aU.mv 27 2 Q Q) (en [(10,Cc (.pl 23 0))] [(0,pR 3 aC b19.1),(1,pR 3 aC b19.2.1),(2,pR 3 aC b19.2.2),(23,.row 113 [[lo 0 b19.1.length,lo 1 b19.2.1.length,lo 2 b19.2.2.length]])] z1 z4 (aB.ret (bD.mk (.inr Q) ⟨⟨_,_,_,Q,Q,Q,gm,dJ,_,dQ dR⟩,J⟩ z3 Q ⟨⟨J,J,J,J⟩,J⟩ ⟨bK.bg dS,bK.bg dS,bK.bg dS,J⟩)))))))))
end Go.Proofs.YtdmlaldifbmkpaaGreat
end
