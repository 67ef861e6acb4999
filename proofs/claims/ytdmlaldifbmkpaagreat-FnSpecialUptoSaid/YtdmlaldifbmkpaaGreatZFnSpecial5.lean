/- Parts of a proof that a law of the program holds: what the program computes, and why that is right. -/
import Derived.Test.YtdmlaldifbmkpaaGreatZFnSpecial4
set_option linter.unusedVariables false
set_option linter.unusedSimpArgs false
set_option linter.unnecessarySimpa false
set_option maxRecDepth 100000
set_option maxHeartbeats 8000000
section
open Go Go.Fw
namespace Go.Proofs.YtdmlaldifbmkpaaGreat
theorem aMx (c:dH):FT Tryz.prog (O0 c) 146 [.c (.pl 0 0)] [(0,.row 105 [fE c])] (fun (t:(aj × dH)) => [.agg [iC t.1.aH,lo 1 t.1.aC.length]]) (fun (t:(aj × dH)) => [(0,.row 105 [fE t.2]),(1,pR 40 aK t.1.aC)]) [1]:=by
 refine FT.of [0] Tryz.func146 Tryz.ntmps146 Q y2 ?_
 intro w0 U0 R0 g0
 unfold O0
 refine Ws (Wr ?_)
 refine eG 21 [iC 0,sC aJ] jk y6 (On (Ws (Wr ?_)))
 refine aG (Cc (.pl 0 0)) y4 (aG (Cc (.pl 0 0)) y4 (aP fun r1 hr1 => (aO.step (cZ [.c (.pl 0 0),.c (iC 5)] (Fw.Fn.ren [(0,0)] (lu c 5 r1 hr1) Q) lX (iZ y2) z1 y3) ⟨Q,Q,y2,J⟩ z1 Q Q (af LT.add qH (aG (Cc (.pl 0 0)) y4 (aP fun r2 hr2 => (aO.step (cZ [.c (.pl 0 0),.c (iC 4)] (Fw.Fn.ren [(0,0)] (lu r1.2 4 r2 hr2) Q) lX (iZ y2) z1 y3) ⟨Q,Q,y2,J⟩ z1 Q Q (af LT.add qH (aP fun r3 hr3 => (aO.step (cZ [.c (.pl 0 0),.c (iC (aB (2 + r1.1))),.c (iC (aB (5 + r2.1)))] (Fw.Fn.ren [(0,0),(1,25)] (aEa r2.2 (aB (2 + r1.1)) (aB (5 + r2.1)) r3 hr3) Q) Zt (qF y3) z1 y3) z4 z1 Q Q (eG 26 [iC 0,sC aJ] jk y6 ?_)))))))))))
 refine bQ (stA [iC r3.1.aH,lo 25 r3.1.aC.length] Q Q dA bU) Q Q Q Q Q (On (Ws (Ws ?_)))
 refine en [(0,Cc (.pl 0 0)),(2,Cc (.pl 21 0)),(3,Cc (.pl 26 0))] [(0,.row 105 [fE r3.2]),(21,.row 26 [[iC 0,sC aJ]]),(25,pR 40 aK r3.1.aC),(26,.row 26 [[iC r3.1.aH,lo 25 r3.1.aC.length]])] z3 z4 (Wr (aG (Cc (.pl 0 0)) y4 (aP fun r4 hr4 => (aO.step (cZ [.c (.pl 0 0),.c (iC 3)] (Fw.Fn.ren [(0,0)] (lu r3.2 3 r4 hr4) Q) lX (iZ y2) z1 y3) ⟨Q,Q,y2,J⟩ z1 Q Q (aG (Cc (.pl 0 0)) y4 (aP fun r5 mG => (aO.step (cZ [.c (.pl 0 0),.c (iC 2)] (Fw.Fn.ren [(0,0)] (lu r4.2 2 r5 mG) Q) lX (iZ y2) z1 y3) ⟨Q,Q,y2,J⟩ z1 Q Q (af LT.mul y5 (aI (Iv (aB (r4.1 * r5.1))) y4 (On (aA.block ?_)))))))))))
 refine aA.jI (id:=0) O1 (fun s6 => ([(0,Cc (.pl 0 0)),(2,Cc (.pl 21 0)),(3,Cc (.pl 26 0)),(4,Iv s6.1)],[(0,.row 105 [[xT dI s6.2.1,iC s6.2.2.1,iC s6.2.2.2.1]]),(21,.row 26 [[iC 0,sC aJ]]),(25,pR 40 aK s6.2.2.2.2.2),(26,.row 26 [[iC s6.2.2.2.2.1,lo 25 s6.2.2.2.2.2.length]])])) (fun b15 => ([(2,Cc (.pl 21 0)),(3,Cc (.pl 26 0))],[(0,.row 105 [[xT dI b15.1,iC b15.2.1,iC b15.2.2.1]]),(21,.row 26 [[iC 0,sC aJ]]),(25,pR 40 aK b15.2.2.2.1),(26,.row 26 [[iC b15.2.2.2.2,lo 25 b15.2.2.2.1.length]])])) ?_ (aQ.of z4 z4) Q (fun b15 _ => ?_)
 ·intro s6
  unfold O1
  refine Ws (Ws (Wr ?_))
  refine aG (Iv s6.1) y4 (af LT.gtr aV (On (aA.cond Q (fun hc16 => ?_) (fun hc16 => ?_))))
  ·refine aA.skip (Ws (aA.block (Ws (Wr ?_))))
   refine aG (Cc (.pl 0 0)) y4 (dK (iC s6.2.2.2.2.1) kV ak ax (aP fun qU WQ => (aO.step (cZ [.c (.pl 0 0),.c (iC s6.2.2.2.2.1)] (Fw.Fn.ren [(0,0)] (lu (dH.mk s6.2.1 s6.2.2.1 s6.2.2.2.1) s6.2.2.2.2.1 qU WQ) Q) lX (iZ y2) z1 y3) z3 z1 Q Q (aI (Iv qU.1) y4 (On (Ws (Wr ?_)))))))
   refine aG (Cc (.pl 0 0)) y4 (dK (iC s6.2.2.2.2.1) kV ak ax (aP fun jr NM => (aO.step (cZ [.c (.pl 0 0),.c (iC s6.2.2.2.2.1)] (Fw.Fn.ren [(0,0)] (lu qU.2 s6.2.2.2.2.1 jr NM) Q) lX (iZ y2) z1 y3) z3 z1 Q Q (aI (Iv jr.1) y4 (On (en [(0,Cc (.pl 0 0)),(2,Cc (.pl 21 0)),(3,Cc (.pl 26 0)),(4,Iv s6.1),(5,Iv qU.1),(6,Iv jr.1)] [(0,.row 105 [fE jr.2]),(21,.row 26 [[iC 0,sC aJ]]),(25,pR 40 aK s6.2.2.2.2.2),(26,.row 26 [[iC s6.2.2.2.2.1,lo 25 s6.2.2.2.2.2.length]])] z6 z4 (Wr (bM (bV [iC s6.2.2.2.2.1,lo 25 s6.2.2.2.2.2.length] Q eY dA bU) Q Q Q Q (aG (Iv qU.1) y4 (aG (Iv jr.1) y4 ?_))))))))))
   refine aP fun dn BG => (aO.step (cF [.agg [iC s6.2.2.2.2.1,lo 25 s6.2.2.2.2.2.length],.c (iC qU.1),.c (iC jr.1)] [(25,pR 40 aK s6.2.2.2.2.2)] (Fw.Fn.ren [(0,32)] (Ym (aj.mk s6.2.2.2.2.1 s6.2.2.2.2.2) qU.1 jr.1 dn BG) Q) U4 (.cons (.agg (.cons (.same Q) (.cons (.fC Q Q) .nil))) (.cons (.c (.same Q)) (.cons (.c (.same Q)) .nil))) J y3) z4 z1 Q Q (aG (.dM [.agg [iC dn.1.aH,lo 32 dn.1.aC.length],.c (bC dn.2)]) y4 (gy (.agg [iC dn.1.aH,lo 32 dn.1.aC.length]) y5 (gy (.c (bC dn.2)) y5 (bQ (stA [iC dn.1.aH,lo 32 dn.1.aC.length] Q Q dA bU) Q Q Q Q Q (On (aA.blk ?_)))))))
   refine en [(0,Cc (.pl 0 0)),(2,Cc (.pl 21 0)),(3,Cc (.pl 26 0)),(4,Iv s6.1)] [(0,.row 105 [fE jr.2]),(21,.row 26 [[iC 0,sC aJ]]),(26,.row 26 [[iC dn.1.aH,lo 32 dn.1.aC.length]]),(32,pR 40 aK dn.1.aC)] z4 z4 (Wr (aG (Iv s6.1) y4 (af LT.sub aV (aI (Iv (aB (s6.1 - 1))) y4 (On (en [(0,Cc (.pl 0 0)),(2,Cc (.pl 21 0)),(3,Cc (.pl 26 0)),(4,Iv (aB (s6.1 - 1)))] [(0,.row 105 [fE jr.2]),(21,.row 26 [[iC 0,sC aJ]]),(26,.row 26 [[iC dn.1.aH,lo 32 dn.1.aC.length]]),(32,pR 40 aK dn.1.aC)] z4 z4 (aA.ent (aQ.mv 32 25 Q Q) (aX Q z4 z4))))))))
  ·refine fV y2 z2 z4
 ·refine Ws (Wr ?_)
  refine bM (bV [iC b15.2.2.2.2,lo 25 b15.2.2.2.1.length] Q eY dA bU) Q Q Q Q (bQ (stA [iC b15.2.2.2.2,lo 25 b15.2.2.2.1.length] Q Q dA bU) Q Q Q Q Q (On (en [(2,Cc (.pl 21 0))] [(0,.row 105 [[xT dI b15.1,iC b15.2.1,iC b15.2.2.1]]),(21,.row 26 [[iC b15.2.2.2.2,lo 25 b15.2.2.2.1.length]]),(25,pR 40 aK b15.2.2.2.1)] z1 z3 (aA.ent (aQ.mv 25 1 Q Q) (en [(2,Cc (.pl 21 0))] [(0,.row 105 [[xT dI b15.1,iC b15.2.1,iC b15.2.2.1]]),(1,pR 40 aK b15.2.2.2.1),(21,.row 26 [[iC b15.2.2.2.2,lo 1 b15.2.2.2.1.length]])] z1 z3 (bP ⟨⟨_,_,_,Q,Q,Q,eY,bU,_,gm dA⟩,J⟩ z2 ⟨⟨ah.sc,J,J⟩,J⟩ ⟨bD.mV ⟨nN oU,ah.sc,ah.sc,J⟩,bD.bf kG,J⟩))))))
theorem aMw (c:dH):FT Tryz.prog (Oz c) 94 [.c (.pl 0 0)] [(0,.row 105 [fE c])] (fun (t:(aj × dH)) => [.agg [iC t.1.aH,lo 1 t.1.aC.length]]) (fun (t:(aj × dH)) => [(0,.row 105 [fE t.2]),(1,pR 40 aK t.1.aC)]) [1]:=by
 refine FT.of [0] Tryz.func94 Tryz.ntmps94 Q y2 ?_
 intro w0 U0 R0 g0
 unfold Oz
 refine Ws (Wr ?_)
 refine eG 21 [iC 0,sC aJ] jk y6 (On (Ws (Wr ?_)))
 refine aG (Cc (.pl 0 0)) y4 (aP fun r1 hr1 => (aO.step (cZ [.c (.pl 0 0)] (Fw.Fn.ren [(0,0),(1,23)] (aMx c r1 hr1) Q) aFU (kQ Q) z1 y3) z2 z1 Q Q (eG 24 [iC 0,sC aJ] jk y6 (bQ (stA [iC r1.1.aH,lo 23 r1.1.aC.length] Q Q dA bU) Q Q Q Q Q (On (Ws (Ws ?_)))))))
 refine en [(0,Cc (.pl 0 0)),(2,Cc (.pl 21 0)),(3,Cc (.pl 24 0))] [(0,.row 105 [fE r1.2]),(21,.row 26 [[iC 0,sC aJ]]),(23,pR 40 aK r1.1.aC),(24,.row 26 [[iC r1.1.aH,lo 23 r1.1.aC.length]])] z3 z4 (Wr (aG (Cc (.pl 0 0)) y4 (aP fun r2 hr2 => (aO.step (cZ [.c (.pl 0 0),.c (iC 16)] (Fw.Fn.ren [(0,0)] (lu r1.2 16 r2 hr2) Q) lX (iZ y2) z1 y3) ⟨Q,Q,y2,J⟩ z1 Q Q (On (aA.block (Ws (Wr ?_))))))))
 refine af LT.eql aV (aI (Bv (r2.1 == 0)) y4 (On (aA.eP (fun j9 => ([(2,Cc (.pl 21 0)),(3,Cc (.pl 24 0))],[(0,.row 105 [[xT dI j9.1,iC j9.2.1,iC j9.2.2.1]]),(21,.row 26 [[iC 0,sC aJ]]),(23,pR 40 aK j9.2.2.2.2),(24,.row 26 [[iC j9.2.2.2.1,lo 23 j9.2.2.2.2.length]])])) ?_ (fun j9 _ => ?_))))
 ·refine aA.cond Q (fun MR => ?_) (fun MR => ?_)
  ·refine Wr (aG (Cc (.pl 0 0)) y4 (aEz (iO 26 aF [(0,.const (.int .i64 0),.c (iC 0)),(1,.const (.int .i64 (-1)),.c (iC (-1))),(2,.const (.int .i64 9),.c (iC 9)),(3,.const (.int .i64 3),.c (iC 3))] ([0,-1,9,3]:List Int) dS iH y7) y2 y2 y2 y2 Q Q (aP fun r11 NI => (aO.step (cF [.c (.pl 0 0),.c (lo 26 (([0,-1,9,3]:List Int).length))] [(26,pR 3 aF ([0,-1,9,3]:List Int))] (Fw.Fn.ren [(0,0)] (Ub r2.2 ([0,-1,9,3]:List Int) r11 NI) Q) QU (.cons (.c (.same Q)) (.cons (.c (.fC Q Q)) .nil)) z1 y3) z3 z2 Q Q (aY (LT.gU Q kV) Q Q Q (bQ (qh (.c (iC r11.1)) [iC r11.1,lo 23 r1.1.aC.length] Q Q mJ gI) Q Q Q Q Q (On (aX Q z2 z4))))))))
  ·refine Ws (Wr ?_)
   refine af LT.eql aV (aI (Bv (r2.1 == 1)) y4 (On (aA.cond Q (fun hc12 => ?_) (fun hc12 => ?_))))
   ·refine aA.draw mixed (eH (lo 23 r1.1.aC.length) gK iK ax (bJ (Cc (.pl 0 0)) y4 (aU.bind fun r13 wV => (aU.step (cZ [.c (.pl 0 0),.c (iC 3)] (Fw.Fn.ren [(0,0)] (lu r2.2 3 r13 wV) Q) lX (iZ y2) z1 y3) ⟨Q,Q,y2,J⟩ z1 Q Q (bJ (Cc (.pl 0 0)) y4 (aU.bind fun jE NJ => (aU.step (cZ [.c (.pl 0 0),.c (iC 9)] (Fw.Fn.ren [(0,0)] (lu r13.2 9 jE NJ) Q) lX (iZ y2) z1 y3) ⟨Q,Q,y2,J⟩ z1 Q Q (dZ (LT.build [(0,.tmp 19,.c (iC r13.1)),(1,.tmp 21,.c (iC jE.1))] Q Q Bl jT Q Q Q) Q Q Q Q (Gu (iO 30 aK [(0,.tmp 22,.agg [iC r13.1,iC jE.1])] [aW.mk r13.1 jE.1] iU jT y7) Q Q Q (aU.bind fun u15 aIX => ?_))))))))))
    refine LX (LT.nZ (enc:=aK) Q Q Q iU jT Q (by decide) (by decide) (fun _ => Q) (jo aIX)) Q Q Q Q Q Q (bg (LT.gU Q gK) Q Q Q (kJ (qh (.c (lo 23 ((r1.1.aC ++ [aW.mk r13.1 jE.1]).length))) [iC r1.1.aH,lo 23 ((r1.1.aC ++ [aW.mk r13.1 jE.1]).length)] Q Q DR EG) Q Q Q Q Q (fA (aX Q z2 z4))))
   ·refine aA.skip (aX Q z2 z4)
 ·refine aA.blk (Ws (Wr ?_))
  refine bM (bV [iC j9.2.2.2.1,lo 23 j9.2.2.2.2.length] Q eY dA bU) Q Q Q Q (bQ (stA [iC j9.2.2.2.1,lo 23 j9.2.2.2.2.length] Q Q dA bU) Q Q Q Q Q (On (en [(2,Cc (.pl 21 0))] [(0,.row 105 [[xT dI j9.1,iC j9.2.1,iC j9.2.2.1]]),(21,.row 26 [[iC j9.2.2.2.1,lo 23 j9.2.2.2.2.length]]),(23,pR 40 aK j9.2.2.2.2)] z1 z3 (aA.ent (aQ.mv 23 1 Q Q) (en [(2,Cc (.pl 21 0))] [(0,.row 105 [[xT dI j9.1,iC j9.2.1,iC j9.2.2.1]]),(1,pR 40 aK j9.2.2.2.2),(21,.row 26 [[iC j9.2.2.2.1,lo 1 j9.2.2.2.2.length]])] z1 z3 (bP ⟨⟨_,_,_,Q,Q,Q,eY,bU,_,gm dA⟩,J⟩ z2 ⟨⟨ah.sc,J,J⟩,J⟩ ⟨bD.mV ⟨nN oU,ah.sc,ah.sc,J⟩,bD.bf kG,J⟩))))))
theorem aM1 (c:dH):FT Tryz.prog (O6 c) 84 [.c (.pl 0 0)] [(0,.row 105 [fE c])] (fun (t:(aj × dH)) => [.agg [iC t.1.aH,lo 1 t.1.aC.length]]) (fun (t:(aj × dH)) => [(0,.row 105 [fE t.2]),(1,pR 40 aK t.1.aC)]) [1]:=by
 refine FT.of [0] Tryz.func84 Tryz.ntmps84 Q y2 ?_
 intro w0 U0 R0 g0
 unfold O6
 refine Ws (Wr ?_)
 refine eG 21 [iC 0,sC aJ] jk y6 (On (Ws (Ws (Wr ?_))))
 refine aG (Cc (.pl 0 0)) y4 (aP fun r1 hr1 => (aO.step (cZ [.c (.pl 0 0),.c (iC 4)] (Fw.Fn.ren [(0,0)] (lu c 4 r1 hr1) Q) lX (iZ y2) z1 y3) ⟨Q,Q,y2,J⟩ z1 Q Q (On (aA.block (Ws (Wr ?_))))))
 refine af LT.eql aV (aI (Bv (r1.1 == 0)) y4 (On (aA.cond Q (fun hc2 => ?_) (fun hc2 => ?_))))
 ·refine Ws (Wr ?_)
  refine aG (Cc (.pl 0 0)) y4 (aP fun r3 hr3 => (aO.step (cZ [.c (.pl 0 0)] (Fw.Fn.ren [(0,0),(1,24)] (aMw r1.2 r3 hr3) Q) aF7 (kQ Q) z1 y3) z2 z1 Q Q (bQ (stA [iC r3.1.aH,lo 24 r3.1.aC.length] Q Q dA bU) Q Q Q Q Q (On (en [(2,Cc (.pl 21 0))] [(0,.row 105 [fE r3.2]),(21,.row 26 [[iC r3.1.aH,lo 24 r3.1.aC.length]]),(24,pR 40 aK r3.1.aC)] z1 z3 (aA.ent (aQ.mv 24 1 Q Q) (en [(2,Cc (.pl 21 0))] [(0,.row 105 [fE r3.2]),(1,pR 40 aK r3.1.aC),(21,.row 26 [[iC r3.1.aH,lo 1 r3.1.aC.length]])] z1 z3 (bP ⟨⟨_,_,_,Q,Q,Q,eY,bU,_,gm dA⟩,J⟩ z2 ⟨⟨ah.sc,J,J⟩,J⟩ ⟨bD.mV ⟨nN oU,ah.sc,ah.sc,J⟩,bD.bf kG,J⟩))))))))
 ·refine Ws (Wr ?_)
  refine af LT.eql aV (aI (Bv (r1.1 == 1)) y4 (On (aA.cond Q (fun hc4 => ?_) (fun hc4 => ?_))))
  ·refine Ws (en [(0,Cc (.pl 0 0)),(2,Cc (.pl 21 0))] [(0,.row 105 [fE r1.2]),(21,.row 26 [[iC 0,sC aJ]])] z2 z2 (Wr (aG (Cc (.pl 0 0)) y4 (aG (Cc (.pl 0 0)) y4 (aP fun r5 mG => (aO.step (cZ [.c (.pl 0 0),.c (iC 5)] (Fw.Fn.ren [(0,0)] (lu r1.2 5 r5 mG) Q) lX (iZ y2) z1 y3) ⟨Q,Q,y2,J⟩ z1 Q Q (af LT.add qH (aP fun r6 rW => (aO.step (cZ [.c (.pl 0 0),.c (iC (aB (2 + r5.1)))] (Fw.Fn.ren [(0,0),(1,27)] (QA r5.2 (aB (2 + r5.1)) r6 rW) Q) Lu (iZ y2) z1 y3) z3 z1 Q Q (eG 28 [iC 0,sC aJ] jk y6 (bQ (stA [iC r6.1.aH,lo 27 r6.1.aC.length] Q Q dA bU) Q Q Q Q Q ?_)))))))))))
   refine On (Ws ?_)
   refine en [(0,Cc (.pl 0 0)),(2,Cc (.pl 21 0)),(3,Cc (.pl 28 0))] [(0,.row 105 [fE r6.2]),(21,.row 26 [[iC 0,sC aJ]]),(27,pR 40 aK r6.1.aC),(28,.row 26 [[iC r6.1.aH,lo 27 r6.1.aC.length]])] z3 z4 (aA.draw mixed (gq (bV [iC r6.1.aH,lo 27 r6.1.aC.length] Q eY dA bU) Q Q Q Q (bJ (Cc (.pl 0 0)) y4 (eH (lo 27 r6.1.aC.length) gK iK ax (bg (LT.lG Q iU) Q Q Q (aU.bind fun r7 oI => (aU.step (cZ [.c (.pl 0 0),.c (iC (r6.1.aC.length:Int))] (Fw.Fn.ren [(0,0)] (lu r6.2 (r6.1.aC.length:Int) r7 oI) Q) lX (iZ y2) z1 y3) z3 z1 Q Q (aU.bind fun r8 tJ => (aU.step (cF [.agg [iC r6.1.aH,lo 27 r6.1.aC.length],.c (iC r7.1)] [(27,pR 40 aK r6.1.aC)] (Fw.Fn.ren [(0,31)] (aET r6.1 r7.1 r8 tJ) Q) Zb (.cons (.agg (.cons (.same Q) (.cons (.fC Q Q) .nil))) (.cons (.c (.same Q)) .nil)) J y3) z3 z1 Q Q (bJ (.dM [.agg [iC r8.1.aH,lo 31 r8.1.aC.length],.c (bC r8.2)]) y4 ?_))))))))))
   refine exD (.agg [iC r8.1.aH,lo 31 r8.1.aC.length]) y5 (exD (.c (bC r8.2)) y5 (xI (LT.alloc (n:=32) (cells:=[iC 0,sC aJ]) Q jk Q Q Q) Q Q (kJ (stA [iC r8.1.aH,lo 31 r8.1.aC.length] Q Q dA bU) Q Q Q Q Q (bg (LT.assign (v:=(Bv r8.2)) Q) Q Q Q (fA (Ws (en [(2,Cc (.pl 21 0)),(4,Cc (.pl 32 0))] [(0,.row 105 [fE r7.2]),(21,.row 26 [[iC 0,sC aJ]]),(31,pR 40 aK r8.1.aC),(32,.row 26 [[iC r8.1.aH,lo 31 r8.1.aC.length]])] z2 z4 (Wr (bM (bV [iC r8.1.aH,lo 31 r8.1.aC.length] Q eY dA bU) Q Q Q Q (bQ (stA [iC r8.1.aH,lo 31 r8.1.aC.length] Q Q dA bU) Q Q Q Q Q (On ?_)))))))))))
   refine en [(2,Cc (.pl 21 0))] [(0,.row 105 [fE r7.2]),(21,.row 26 [[iC r8.1.aH,lo 31 r8.1.aC.length]]),(31,pR 40 aK r8.1.aC)] z1 z3 (aA.ent (aQ.mv 31 1 Q Q) (en [(2,Cc (.pl 21 0))] [(0,.row 105 [fE r7.2]),(1,pR 40 aK r8.1.aC),(21,.row 26 [[iC r8.1.aH,lo 1 r8.1.aC.length]])] z1 z3 (bP ⟨⟨_,_,_,Q,Q,Q,eY,bU,_,gm dA⟩,J⟩ z2 ⟨⟨ah.sc,J,J⟩,J⟩ ⟨bD.mV ⟨nN oU,ah.sc,ah.sc,J⟩,bD.bf kG,J⟩)))
  ·refine Ws (en [(0,Cc (.pl 0 0)),(2,Cc (.pl 21 0)),(12,Iv r1.1)] [(0,.row 105 [fE r1.2]),(21,.row 26 [[iC 0,sC aJ]])] z3 z2 (Wr (af LT.eql aV (aI (Bv (r1.1 == 2)) y4 (On (aA.cond Q (fun yV => ?_) (fun yV => ?_)))))))
   ·refine Ws (Wr ?_)
    refine aG (Cc (.pl 0 0)) y4 (aG (Cc (.pl 0 0)) y4 (aP fun r10 Es => (aO.step (cZ [.c (.pl 0 0),.c (iC 5)] (Fw.Fn.ren [(0,0)] (lu r1.2 5 r10 Es) Q) lX (iZ y2) z1 y3) ⟨Q,Q,y2,J⟩ z1 Q Q (af LT.add qH (aP fun r11 NI => (aO.step (cZ [.c (.pl 0 0),.c (iC (aB (2 + r10.1)))] (Fw.Fn.ren [(0,0),(1,35)] (QA r10.2 (aB (2 + r10.1)) r11 NI) Q) Lu (iZ y2) z1 y3) z3 z1 Q Q (eG 36 [iC 0,sC aJ] jk y6 (bQ (stA [iC r11.1.aH,lo 35 r11.1.aC.length] Q Q dA bU) Q Q Q Q Q (On (Ws ?_))))))))))
    refine en [(0,Cc (.pl 0 0)),(2,Cc (.pl 21 0)),(6,Cc (.pl 36 0))] [(0,.row 105 [fE r11.2]),(21,.row 26 [[iC 0,sC aJ]]),(35,pR 40 aK r11.1.aC),(36,.row 26 [[iC r11.1.aH,lo 35 r11.1.aC.length]])] z3 z4 (Wr (aG (Cc (.pl 0 0)) y4 (dK (iC r11.1.aH) kV ak ax (aP fun r12 Et => (aO.step (cZ [.c (.pl 0 0),.c (iC r11.1.aH)] (Fw.Fn.ren [(0,0)] (lu r11.2 r11.1.aH r12 Et) Q) lX (iZ y2) z1 y3) z3 z1 Q Q (aI (Iv r12.1) y4 (On (Ws (Wr ?_)))))))))
    refine aG (Cc (.pl 0 0)) y4 (dK (iC r11.1.aH) kV ak ax (aP fun r13 wV => (aO.step (cZ [.c (.pl 0 0),.c (iC r11.1.aH)] (Fw.Fn.ren [(0,0)] (lu r12.2 r11.1.aH r13 wV) Q) lX (iZ y2) z1 y3) z3 z1 Q Q (aI (Iv r13.1) y4 (On (Ws ?_))))))
    refine en [(2,Cc (.pl 21 0)),(6,Cc (.pl 36 0)),(7,Iv r12.1),(8,Iv r13.1)] [(0,.row 105 [fE r13.2]),(21,.row 26 [[iC 0,sC aJ]]),(35,pR 40 aK r11.1.aC),(36,.row 26 [[iC r11.1.aH,lo 35 r11.1.aC.length]])] z4 z4 (Wr (bM (bV [iC r11.1.aH,lo 35 r11.1.aC.length] Q eY dA bU) Q Q Q Q (aG (Iv r12.1) y4 (aG (Iv r13.1) y4 (aP fun jE NJ => (aO.step (cF [.agg [iC r11.1.aH,lo 35 r11.1.aC.length],.c (iC r12.1),.c (iC r13.1)] [(35,pR 40 aK r11.1.aC)] (Fw.Fn.ren [(0,40)] (Ym r11.1 r12.1 r13.1 jE NJ) Q) U4 (.cons (.agg (.cons (.same Q) (.cons (.fC Q Q) .nil))) (.cons (.c (.same Q)) (.cons (.c (.same Q)) .nil))) J y3) z4 z1 Q Q (aG (.dM [.agg [iC jE.1.aH,lo 40 jE.1.aC.length],.c (bC jE.2)]) y4 (gy (.agg [iC jE.1.aH,lo 40 jE.1.aC.length]) y5 (gy (.c (bC jE.2)) y5 (eG 41 [iC 0,sC aJ] jk y6 (bQ (stA [iC jE.1.aH,lo 40 jE.1.aC.length] Q Q dA bU) Q Q Q Q Q ?_)))))))))))
    refine aI (Bv jE.2) y4 (On (Ws ?_))
    refine en [(2,Cc (.pl 21 0)),(9,Cc (.pl 41 0))] [(0,.row 105 [fE r13.2]),(21,.row 26 [[iC 0,sC aJ]]),(40,pR 40 aK jE.1.aC),(41,.row 26 [[iC jE.1.aH,lo 40 jE.1.aC.length]])] z2 z4 (Wr (bM (bV [iC jE.1.aH,lo 40 jE.1.aC.length] Q eY dA bU) Q Q Q Q (bQ (stA [iC jE.1.aH,lo 40 jE.1.aC.length] Q Q dA bU) Q Q Q Q Q (On (en [(2,Cc (.pl 21 0))] [(0,.row 105 [fE r13.2]),(21,.row 26 [[iC jE.1.aH,lo 40 jE.1.aC.length]]),(40,pR 40 aK jE.1.aC)] z1 z3 (aA.ent (aQ.mv 40 1 Q Q) (en [(2,Cc (.pl 21 0))] [(0,.row 105 [fE r13.2]),(1,pR 40 aK jE.1.aC),(21,.row 26 [[iC jE.1.aH,lo 1 jE.1.aC.length]])] z1 z3 (bP ⟨⟨_,_,_,Q,Q,Q,eY,bU,_,gm dA⟩,J⟩ z2 ⟨⟨ah.sc,J,J⟩,J⟩ ⟨bD.mV ⟨nN oU,ah.sc,ah.sc,J⟩,bD.bf kG,J⟩))))))))
   ·refine aA.skip (aA.blk (Ws (Wr ?_)))
    refine aG (Cc (.pl 0 0)) y4 (aG (Cc (.pl 0 0)) y4 (aP fun jF NK => (aO.step (cZ [.c (.pl 0 0),.c (iC 6)] (Fw.Fn.ren [(0,0)] (lu r1.2 6 jF NK) Q) lX (iZ y2) z1 y3) ⟨Q,Q,y2,J⟩ z1 Q Q (af LT.add qH (aP fun r16 aH2 => (aO.step (cZ [.c (.pl 0 0),.c (iC (aB (1 + jF.1)))] (Fw.Fn.ren [(0,0),(1,44)] (QA jF.2 (aB (1 + jF.1)) r16 aH2) Q) Lu (iZ y2) z1 y3) z3 z1 Q Q (bQ (stA [iC r16.1.aH,lo 44 r16.1.aC.length] Q Q dA bU) Q Q Q Q Q (On (en [(2,Cc (.pl 21 0))] [(0,.row 105 [fE r16.2]),(21,.row 26 [[iC r16.1.aH,lo 44 r16.1.aC.length]]),(44,pR 40 aK r16.1.aC)] z1 z3 (aA.ent (aQ.mv 44 1 Q Q) (en [(2,Cc (.pl 21 0))] [(0,.row 105 [fE r16.2]),(1,pR 40 aK r16.1.aC),(21,.row 26 [[iC r16.1.aH,lo 1 r16.1.aC.length]])] z1 z3 ?_)))))))))))
    refine bP ⟨⟨_,_,_,Q,Q,Q,eY,bU,_,gm dA⟩,J⟩ z2 ⟨⟨ah.sc,J,J⟩,J⟩ ⟨bD.mV ⟨nN oU,ah.sc,ah.sc,J⟩,bD.bf kG,J⟩
theorem aMI (k:Int) (l:Int):FT Tryz.prog (OA k l) 187 [.c (iC k),.c (iC l)] [] (fun (t:Bool) => [.c (bC t)]) (fun (t:Bool) => []) []:=by
 refine FT.of [] Tryz.func187 Tryz.ntmps187 Q y2 ?_
 intro w0 U0 R0 g0
 unfold OA
 refine Ws (Wr ?_)
 refine aI (Bv false) aZ (On (Ws ?_))
 refine aA.eP (fun j4 => ([(4,Bv j4)],[])) ?_ (fun j4 _ => ?_)
 ·refine Wr (aG (Iv k) y4 (aP fun r5 mG => (jD [.c (iC k),.c (iC 1),.c (iC 3)] (CS k 1 3 r5 mG) Am (qF y3) y5 ⟨Q,Q,y2,y2,J⟩ (aG (Bv r5) y4 (aO.split (fun hb6 => ?_) (fun hb6 => ?_))))))
  ·refine eu (Iv l) hb6 y5 (eu (Iv k) hb6 y5 (iy LT.mul hb6 aD4 (iy LT.sub hb6 kD (aP fun r7 oI => (aO.pure (cZ [.c (iC l),.c (iC 0),.c (iC (aB ((aB (2 * k)) - 1)))] (CS l 0 (aB ((aB (2 * k)) - 1)) r7 oI) Am (qF y3) J y3) ⟨Q,Q,y2,Q,J⟩ J (gH hb6 Q Q) Q (dJ (Bv r7) hb6 y5 (aI (Bv r7) y4 (On (aX Q z1 J)))))))))
  ·refine aS hb6 y5 (aS hb6 y5 (aS hb6 y5 (aS hb6 y5 (aS hb6 y5 (eU (Bv false) hb6 aV (aI (Bv false) y4 (On (aX Q z1 J))))))))
 ·refine bP z1 J ⟨ah.sc,J⟩ J
theorem aMS (p:bT):FT Tryz.prog (OM p) 208 [.agg (iP p)] [] (fun (t:bT) => [.agg [lo 0 t.Free.length,lo 1 t.aT.length,lo 2 t.aN.length]]) (fun (t:bT) => [(0,pR 3 aF t.Free),(1,pR 3 aF t.aT),(2,pR 3 aF t.aN)]) [0,1,2]:=by
 refine FT.of [] Tryz.func208 Tryz.ntmps208 Q y2 ?_
 intro w0 U0 R0 g0
 unfold OM
 refine Ws (Wr ?_)
 refine iL 21 (.agg (iP p)) fK y5 (eG 22 [sC aJ,sC aJ,sC aJ] nO y6 (On (Ws (aA.draw mixed ?_))))
 refine eH (xF aF p.Free) oN fF ax (aU.bind fun r1 hr1 => (aU.step (cZ [.c (xF aF p.Free)] (Fw.Fn.ren [(0,24)] (LG p.Free r1 hr1) Q) G6 (kQ Q) J y3) z2 J Q Q (eH (xF aF p.aT) sF fF ax (aU.bind fun r2 hr2 => (aU.step (cZ [.c (xF aF p.aT)] (Fw.Fn.ren [(0,26)] (LG p.aT r2 hr2) Q) G6 (kQ Q) J y3) z2 J Q Q (eH (xF aF p.aN) qX fF ax (aU.bind fun r3 hr3 => (aU.step (cZ [.c (xF aF p.aN)] (Fw.Fn.ren [(0,28)] (LG p.aN r3 hr3) Q) G6 (kQ Q) J y3) z2 J Q Q ?_))))))))
 refine Y1 (LT.build [(0,.tmp 5,.c (lo 24 r1.length)),(1,.tmp 8,.c (lo 26 r2.length)),(2,.tmp 11,.c (lo 28 r3.length))] Q Q GH nO Q Q Q) Q Q Q Q Q (kJ (stA [lo 24 r1.length,lo 26 r2.length,lo 28 r3.length] Q Q gQ fK) Q Q Q Q Q (fA (en [(2,Cc (.pl 22 0))] [(22,.row 113 [[lo 24 r1.length,lo 26 r2.length,lo 28 r3.length]]),(24,pR 3 aF r1),(26,pR 3 aF r2),(28,pR 3 aF r3)] z1 z4 (aA.ent (aQ.mv 24 0 Q Q) (aA.ent (aQ.mv 26 1 Q Q) (aA.ent (aQ.mv 28 2 Q Q) (en [(2,Cc (.pl 22 0))] [(0,pR 3 aF r1),(1,pR 3 aF r2),(2,pR 3 aF r3),(22,.row 113 [[lo 0 r1.length,lo 1 r2.length,lo 2 r3.length]])] z1 z4 (bP ⟨⟨_,_,_,Q,Q,Q,kL,fK,_,gm gQ⟩,J⟩ z3 ⟨⟨J,J,J,J⟩,J⟩ ⟨bD.bf dw,bD.bf dw,bD.bf dw,J⟩))))))))
theorem aEJ (bars:(List aW)) (p:bT) (a:Int) (b:Int):FT Tryz.prog (Df bars p a b) 219 [.c (xF aK bars),.c (.pl 0 0),.c (iC a),.c (iC b)] [(0,.row 113 [[lo 1 p.Free.length,lo 2 p.aT.length,lo 3 p.aN.length]]),(1,pR 3 aF p.Free),(2,pR 3 aF p.aT),(3,pR 3 aF p.aN)] (fun (t:(Bool × bT)) => [.c (bC t.1)]) (fun (t:(Bool × bT)) => [(0,.row 113 [[lo 1 t.2.Free.length,lo 2 t.2.aT.length,lo 3 t.2.aN.length]]),(1,pR 3 aF t.2.Free),(2,pR 3 aF t.2.aT),(3,pR 3 aF t.2.aN)]) [1,2,3]:=by
 refine FT.of [0] Tryz.func219 Tryz.ntmps219 Q y2 ?_
 intro w0 U0 R0 g0
 unfold Df
 refine Ws (Wr ?_)
 refine aI (Bv false) aZ (On (Ws (Wr ?_)))
 refine l7 (LT.makeMap (n:=21) Q) Q Q (aG (Iv a) y4 (Y3 (LT.aB9 (v:=.dM []) (.inr Q) Q SX) Q Q y2 Q Q Q (aG (Cc (.mref 21)) y4 (aI (Cc (.mref 21)) y4 (On (Ws (Wr ?_)))))))
 refine aG (Iv a) y4 (nP (iO 22 aF [(0,.tmp 23,.c (iC a))] ([a]:List Int) dS iH y7) Q Q Q (aI (Cc (lo 22 (([a]:List Int).length))) y4 (On (Ws (Ws ?_)))))
 refine en [(0,Cc (xF aK bars)),(1,Cc (.pl 0 0)),(2,Iv a),(3,Iv b),(9,Cc (.mref 21)),(10,Cc (lo 22 (([a]:List Int).length)))] [(0,.row 113 [[lo 1 p.Free.length,lo 2 p.aT.length,lo 3 p.aN.length]]),(1,pR 3 aF p.Free),(2,pR 3 aF p.aT),(3,pR 3 aF p.aN),(21,.mp (lI ([]:List (Int × Int)) a (-1))),(22,pR 3 aF ([a]:List Int))] z6 z6 (Wr (aI (Iv 0) aZ (On (aA.block ?_))))
 refine aA.oz (id:=0) (FN bars p a b) (fun s1 => ([(0,Cc (xF aK bars)),(1,Cc (.pl 0 0)),(2,Iv a),(3,Iv b),(9,Cc (.mref 21)),(10,Cc (lo 22 s1.2.2.length)),(11,Iv s1.1)],[(0,.row 113 [[lo 1 p.Free.length,lo 2 p.aT.length,lo 3 p.aN.length]]),(1,pR 3 aF p.Free),(2,pR 3 aF p.aT),(3,pR 3 aF p.aN),(21,.mp s1.2.1),(22,pR 3 aF s1.2.2)])) (fun ZH => ([],[(0,.row 113 [[lo 1 p.Free.length,lo 2 p.aT.length,lo 3 p.aN.length]]),(1,pR 3 aF p.Free),(2,pR 3 aF p.aT),(3,pR 3 aF p.aN)])) (lU Tryz.prog Tryz.f219.results.toList [(0,.row 113 [[lo 1 p.Free.length,lo 2 p.aT.length,lo 3 p.aN.length]]),(1,pR 3 aF p.Free),(2,pR 3 aF p.aT),(3,pR 3 aF p.aN)] [1,2,3] (fun (t:(Bool × bT)) => [.c (bC t.1)]) (fun (t:(Bool × bT)) => [(0,.row 113 [[lo 1 t.2.Free.length,lo 2 t.2.aT.length,lo 3 t.2.aN.length]]),(1,pR 3 aF t.2.Free),(2,pR 3 aF t.2.aT),(3,pR 3 aF t.2.aN)])) ?_ (aQ.of z7 z6) Q (fun ZH _ => ?_) qC
 ·intro s1
  unfold FN
  refine Ws (Ws (Wr ?_))
  refine aG (Iv s1.1) y4 (aG (Cc (lo 22 s1.2.2.length)) y4 (aY (LT.lG Q dS) Q Q Q (af LT.lss y5 (On (aA.cond Q (fun aG5 => ?_) (fun aG5 => ?_))))))
  ·refine aA.skip (Ws (aA.block (Ws (Wr ?_))))
   refine aG (Cc (.pl 0 0)) y4 (aY (LT.o6 Q) Q Q Q (dK (lo 3 p.aN.length) qX fF ax (aY (LT.lG Q dS) Q Q Q (aG (Iv 0) aZ (On (aA.block ?_))))))
   refine aA.oz (id:=2) (BU bars p a b s1) (fun eX => ([(0,Cc (xF aK bars)),(1,Cc (.pl 0 0)),(2,Iv a),(3,Iv b),(9,Cc (.mref 21)),(10,Cc (lo 22 eX.2.2.length)),(11,Iv s1.1),(34,Cc (lo 3 p.aN.length)),(35,Iv (p.aN.length:Int)),(36,Iv eX.1)],[(0,.row 113 [[lo 1 p.Free.length,lo 2 p.aT.length,lo 3 p.aN.length]]),(1,pR 3 aF p.Free),(2,pR 3 aF p.aT),(3,pR 3 aF p.aN),(21,.mp eX.2.1),(22,pR 3 aF eX.2.2)])) (fun jg => ([(0,Cc (xF aK bars)),(1,Cc (.pl 0 0)),(2,Iv a),(3,Iv b),(9,Cc (.mref 21)),(10,Cc (lo 22 jg.2.2.length)),(11,Iv jg.1)],[(0,.row 113 [[lo 1 p.Free.length,lo 2 p.aT.length,lo 3 p.aN.length]]),(1,pR 3 aF p.Free),(2,pR 3 aF p.aT),(3,pR 3 aF p.aN),(21,.mp jg.2.1),(22,pR 3 aF jg.2.2)])) (lU Tryz.prog Tryz.f219.results.toList [(0,.row 113 [[lo 1 p.Free.length,lo 2 p.aT.length,lo 3 p.aN.length]]),(1,pR 3 aF p.Free),(2,pR 3 aF p.aT),(3,pR 3 aF p.aN)] [1,2,3] (fun (t:(Bool × bT)) => [.c (bC t.1)]) (fun (t:(Bool × bT)) => [(0,.row 113 [[lo 1 t.2.Free.length,lo 2 t.2.aT.length,lo 3 t.2.aN.length]]),(1,pR 3 aF t.2.Free),(2,pR 3 aF t.2.aT),(3,pR 3 aF t.2.aN)])) ?_ (aQ.of z10 z6) Q (fun jg _ => ?_) (by intro r t σ m ht hk; injection ht with ht; subst ht; exact ⟨Q,hk⟩)
   ·intro eX
    unfold BU
    refine Ws (Wr ?_)
    refine af LT.lss y5 (On (Ws ?_))
    refine aA.cond Q (fun MS => ?_) (fun MS => ?_)
    ·refine aA.skip (Ws (aA.block (Ws (Wr ?_))))
     refine aG (Iv eX.1) y4 (aP fun zA Nc => (iq (LT.fP Q Q dU Nc) Q Q Q Q Q (bM (kC 0 Q ak Nc) Q Q Q Q (aI (Iv eX.1) y4 (aI (Iv zA) y4 (On (Ws (Ws (aA.draw mixed ?_)))))))))
     refine bJ (Cc (.pl 0 0)) y4 (bg (LT.o6 Q) Q Q Q (eH (lo 2 p.aT.length) sF fF ax (bJ (Iv eX.1) y4 (aU.bind fun pO DK => (jV (LT.fP Q Q dU DK) Q Q Q Q Q (gq (kC 0 Q ak DK) Q Q Q Q (bJ (Cc (lo 22 eX.2.2.length)) y4 (bJ (Iv s1.1) y4 (aU.bind fun pU yX => (jV (LT.fP Q Q dU yX) Q Q Q Q Q ?_))))))))))
     refine gq (kC 0 Q ak yX) Q Q Q Q (jJ LT.neq y5 (fA (aA.cond Q (fun aHE => ?_) (fun aHE => ?_))))
     ·refine aA.exit Q (en [(0,Cc (xF aK bars)),(1,Cc (.pl 0 0)),(2,Iv a),(3,Iv b),(9,Cc (.mref 21)),(10,Cc (lo 22 eX.2.2.length)),(11,Iv s1.1),(34,Cc (lo 3 p.aN.length)),(35,Iv (p.aN.length:Int)),(36,Iv eX.1)] [(0,.row 113 [[lo 1 p.Free.length,lo 2 p.aT.length,lo 3 p.aN.length]]),(1,pR 3 aF p.Free),(2,pR 3 aF p.aT),(3,pR 3 aF p.aN),(21,.mp eX.2.1),(22,pR 3 aF eX.2.2)] z10 z6 (Wr (af LT.add aV (aG (Iv (aB (eX.1 + 1))) y4 (On (aX Q z10 z6))))))
     ·refine aA.skip (Ws ?_)
      refine en [(0,Cc (xF aK bars)),(1,Cc (.pl 0 0)),(2,Iv a),(3,Iv b),(9,Cc (.mref 21)),(10,Cc (lo 22 eX.2.2.length)),(11,Iv s1.1),(12,Iv eX.1),(13,Iv zA),(34,Cc (lo 3 p.aN.length)),(35,Iv (p.aN.length:Int)),(36,Iv eX.1)] [(0,.row 113 [[lo 1 p.Free.length,lo 2 p.aT.length,lo 3 p.aN.length]]),(1,pR 3 aF p.Free),(2,pR 3 aF p.aT),(3,pR 3 aF p.aN),(21,.mp eX.2.1),(22,pR 3 aF eX.2.2)] z12 z6 (aA.draw mixed (bJ (Cc (xF aK bars)) y4 (bJ (Iv zA) y4 (aU.bind fun yE zX => (dZ (LT.eF (enc:=aK) Q nU zX fB) Q Q Q Q (bg (lH Q kz jL fB) Q Q Q (bJ (Cc (lo 22 eX.2.2.length)) y4 (bJ (Iv s1.1) y4 (aU.bind fun vw E8 => (jV (LT.fP Q Q dU E8) Q Q Q Q Q (gq (kC 0 Q ak E8) Q Q Q Q ?_)))))))))))
      refine aU.bind fun iQ aH3 => (aU.pure (cZ [.agg [iC yE.A,iC yE.B],.c (iC vw)] (aD9 yE vw iQ aH3) Zp (D9 y3) J y3) z3 J Q Q (bg (LT.assign (v:=(Iv iQ)) Q) Q Q Q (fA (Ws (Ws (Wr ?_))))))
      refine aG (Cc (.mref 21)) y4 (aG (Iv iQ) y4 (iq (LT.aJu Q SX) Q Q Q Q Q (aG (.dM [.c (iC (mD eX.2.1 iQ)),.c (bC (nM eX.2.1 iQ))]) y4 (gy (.c (iC (mD eX.2.1 iQ))) y5 (gy (.c (bC (nM eX.2.1 iQ))) y5 (aI (Iv (mD eX.2.1 iQ)) y4 (aI (Bv (nM eX.2.1 iQ)) y4 (On (Ws ?_)))))))))
      refine en [(0,Cc (xF aK bars)),(1,Cc (.pl 0 0)),(2,Iv a),(3,Iv b),(9,Cc (.mref 21)),(10,Cc (lo 22 eX.2.2.length)),(11,Iv s1.1),(12,Iv eX.1),(14,Iv iQ),(16,Bv (nM eX.2.1 iQ)),(34,Cc (lo 3 p.aN.length)),(35,Iv (p.aN.length:Int)),(36,Iv eX.1)] [(0,.row 113 [[lo 1 p.Free.length,lo 2 p.aT.length,lo 3 p.aN.length]]),(1,pR 3 aF p.Free),(2,pR 3 aF p.aT),(3,pR 3 aF p.aN),(21,.mp eX.2.1),(22,pR 3 aF eX.2.2)] z13 z6 (Wr (aG (Bv (nM eX.2.1 iQ)) y4 (On (aA.cond Q (fun aHF => ?_) (fun aHF => ?_)))))
      ·refine aA.exit Q (Wr ?_)
       refine af LT.add aV (aG (Iv (aB (eX.1 + 1))) y4 (On (aX Q z10 z6)))
      ·refine aA.skip (Ws (Wr ?_))
       refine aG (Cc (.mref 21)) y4 (aG (Iv iQ) y4 (aG (Iv eX.1) y4 (Y3 (LT.aB9 (v:=.dM []) (.inl Q) Q SX) Q Q Q Q Q Q (On (Ws (Ws ?_))))))
       refine aA.eP (fun SC => ([(0,Cc (xF aK bars)),(1,Cc (.pl 0 0)),(2,Iv a),(3,Iv b),(9,Cc (.mref 21)),(10,Cc (lo 22 eX.2.2.length)),(11,Iv s1.1),(14,Iv iQ),(34,Cc (lo 3 p.aN.length)),(35,Iv (p.aN.length:Int)),(36,Iv eX.1),(84,Bv SC)],[(0,.row 113 [[lo 1 p.Free.length,lo 2 p.aT.length,lo 3 p.aN.length]]),(1,pR 3 aF p.Free),(2,pR 3 aF p.aT),(3,pR 3 aF p.aN),(21,.mp (lI eX.2.1 iQ eX.1)),(22,pR 3 aF eX.2.2)])) ?_ (fun SC _ => ?_)
       ·refine Wr (aG (Iv iQ) y4 (aG (Iv b) y4 (af LT.eql y5 (aG (Bv (iQ == b)) y4 (aO.split (fun sK => ?_) (fun sK => ?_))))))
        ·refine aS sK y5 (aS sK y5 (aS sK y5 (aS sK y5 (aS sK y5 (aS sK y5 (aS sK y5 (aS sK y5 (dJ (Bv true) sK aV (On (aX Q z12 z6))))))))))
        ·refine eu (Cc (.pl 0 0)) sK y5 (aY (LT.o6 Q) Q (gH sK Q Q) Q (kE (lo 1 p.Free.length) oN fF sK iM (eu (Iv iQ) sK y5 (aP fun Yw aBM => (iq (LT.fP Q Q dU aBM) Q Q Q (gH sK Q Q) Q (bM (kC 0 Q ak aBM) Q Q (gH sK Q Q) Q (iy LT.eql sK kD (eU (Bv (Yw == 0)) sK y5 (On (aX Q z12 z6))))))))))
       ·refine aA.cond Q (fun aHG => ?_) (fun aHG => ?_)
        ·refine Ws (Wr ?_)
         refine aG (Cc (lo 22 eX.2.2.length)) y4 (aG (Iv iQ) y4 (nP (iO 24 aF [(0,.tmp 86,.c (iC iQ))] ([iQ]:List Int) dS iH y7) Q Q Q (aP fun aL1 aIe => (ny (LT.nZ (enc:=aF) Q Q Q dS iH Q (by decide) (by decide) (fun _ => Q) (jo aIe)) Q Q Q Q Q Q (aI (Cc (lo 22 ((eX.2.2 ++ ([iQ]:List Int)).length))) y4 (On (aA.exit Q (Wr ?_))))))))
         refine af LT.add aV (aG (Iv (aB (eX.1 + 1))) y4 (On (aX Q z10 z6)))
        ·refine aA.skip (Ws (Wr ?_))
         refine aG (Cc (.pl 0 0)) y4 (aY (LT.o6 Q) Q Q Q (dK (lo 1 p.Free.length) oN fF ax (aG (Iv iQ) y4 (aP fun sD aBN => (iq (LT.fP Q Q dU aBN) Q Q Q Q Q (bM (kC 0 Q ak aBN) Q Q Q Q (af LT.sub aV (aP fun aNE aBO => (iq (LT.fP Q Q dU aBO) Q Q Q Q Q (bQ (lq 0 (.c (iC (aB (sD - 1)))) (aB (sD - 1)) Q Q mJ gI aBO) Q Q Q Q Q ?_))))))))))
         refine On (Ws ?_)
         refine en [(1,Cc (.pl 0 0)),(2,Iv a),(9,Cc (.mref 21)),(14,Iv iQ)] [(0,.row 113 [[lo 1 p.Free.length,lo 2 p.aT.length,lo 3 p.aN.length]]),(1,pR 3 aF (p.Free.set iQ.toNat (aB (sD - 1)))),(2,pR 3 aF p.aT),(3,pR 3 aF p.aN),(21,.mp (lI eX.2.1 iQ eX.1))] z4 z5 (Wr (aG (Cc (.pl 0 0)) y4 (aY (LT.o6 Q) Q Q Q (dK (lo 1 p.Free.length) oN fF ax (aG (Iv a) y4 (aP fun vz aBP => (iq (LT.fP (show p.Free.length = (p.Free.set iQ.toNat (aB (sD - 1))).length by simp only [List.length_set]) Q dU aBP) Q Q Q Q Q (bM (kC 0 Q ak aBP) Q Q Q Q (af LT.add aV (aP fun aNF aBQ => ?_))))))))))
         refine iq (LT.fP (show p.Free.length = (p.Free.set iQ.toNat (aB (sD - 1))).length by simp only [List.length_set]) Q dU aBQ) Q Q Q Q Q (bQ (lq 0 (.c (iC (aB (vz + 1)))) (aB (vz + 1)) Q Q mJ gI aBQ) Q Q Q Q Q (On (Ws (Ws ?_))))
         refine en [(1,Cc (.pl 0 0)),(2,Iv a),(9,Cc (.mref 21)),(14,Iv iQ)] [(0,.row 113 [[lo 1 p.Free.length,lo 2 p.aT.length,lo 3 p.aN.length]]),(1,pR 3 aF ((p.Free.set iQ.toNat (aB (sD - 1))).set a.toNat (aB (vz + 1)))),(2,pR 3 aF p.aT),(3,pR 3 aF p.aN),(21,.mp (lI eX.2.1 iQ eX.1))] z4 z5 (Wr (aG (Iv iQ) y4 (aI (Iv iQ) y4 (On (aA.block ?_)))))
         refine aA.jI (id:=4) (Dh p a eX iQ sD vz) (fun mW => ([(1,Cc (.pl 0 0)),(2,Iv a),(9,Cc (.mref 21)),(17,Iv mW.1)],[(0,.row 113 [[lo 1 (((p.Free.set iQ.toNat (aB (sD - 1))).set a.toNat (aB (vz + 1))).length),lo 2 mW.2.length,lo 3 p.aN.length]]),(1,pR 3 aF ((p.Free.set iQ.toNat (aB (sD - 1))).set a.toNat (aB (vz + 1)))),(2,pR 3 aF mW.2),(3,pR 3 aF p.aN),(21,.mp (lI eX.2.1 iQ eX.1))])) (fun Cj => ([],[(0,.row 113 [[lo 1 Cj.1.length,lo 2 Cj.2.length,lo 3 p.aN.length]]),(1,pR 3 aF Cj.1),(2,pR 3 aF Cj.2),(3,pR 3 aF p.aN)])) ?_ (aQ.of z4 ⟨congrArg (fun l1 => (some (Ob.row 113 [[lo 1 l1,lo 2 p.aT.length,lo 3 p.aN.length]]):Option Ob)) (show p.Free.length = ((p.Free.set iQ.toNat (aB (sD - 1))).set a.toNat (aB (vz + 1))).length by simp only [List.length_set]),Q,Q,Q,Q,J⟩) Q (fun Cj _ => ?_)
         ·intro mW
          unfold Dh
          refine Ws (Ws (Wr ?_))
          refine aG (Iv mW.1) y4 (aG (Iv a) y4 (af LT.neq y5 (On (aA.cond Q (fun aHH => ?_) (fun aHH => ?_)))))
          ·refine aA.skip (aA.block (Ws (Wr ?_)))
           refine aG (Cc (.mref 21)) y4 (aG (Iv mW.1) y4 (iq (LT.aJt Q SX) Q Q Q Q Q (aI (Iv (mD (lI eX.2.1 iQ eX.1) mW.1)) y4 (On (Ws (Wr ?_))))))
           refine aG (Cc (.pl 0 0)) y4 (aY (LT.o6 Q) Q Q Q (dK (lo 2 mW.2.length) sF fF ax (aG (Iv (mD (lI eX.2.1 iQ eX.1) mW.1)) y4 (aP fun LQ aBR => (iq (LT.fP Q Q dU aBR) Q Q Q Q Q (bM (kC 0 Q ak aBR) Q Q Q Q (aI (Iv LQ) y4 (On (Ws ?_)))))))))
           refine en [(1,Cc (.pl 0 0)),(2,Iv a),(9,Cc (.mref 21)),(17,Iv mW.1),(18,Iv (mD (lI eX.2.1 iQ eX.1) mW.1)),(19,Iv LQ)] [(0,.row 113 [[lo 1 (((p.Free.set iQ.toNat (aB (sD - 1))).set a.toNat (aB (vz + 1))).length),lo 2 mW.2.length,lo 3 p.aN.length]]),(1,pR 3 aF ((p.Free.set iQ.toNat (aB (sD - 1))).set a.toNat (aB (vz + 1)))),(2,pR 3 aF mW.2),(3,pR 3 aF p.aN),(21,.mp (lI eX.2.1 iQ eX.1))] z6 z5 (Wr (aG (Cc (.pl 0 0)) y4 (aY (LT.o6 Q) Q Q Q (dK (lo 2 mW.2.length) sF fF ax (aG (Iv (mD (lI eX.2.1 iQ eX.1) mW.1)) y4 (aG (Iv mW.1) y4 (aP fun aNG aBS => (iq (LT.fP Q Q dU aBS) Q Q Q Q Q (bQ (lq 0 (.c (iC mW.1)) mW.1 Q Q mJ gI aBS) Q Q Q Q Q (On (Wr ?_)))))))))))
           refine aG (Iv LQ) y4 (aI (Iv LQ) y4 (On (aA.blk ?_)))
           refine aA.nil ⟨Q,aQ.of z4 ⟨congrArg (fun l1 => (some (Ob.row 113 [[lo 1 (((p.Free.set iQ.toNat (aB (sD - 1))).set a.toNat (aB (vz + 1))).length),lo 2 l1,lo 3 p.aN.length]]):Option Ob)) (show mW.2.length = (mW.2.set (mD (lI eX.2.1 iQ eX.1) mW.1).toNat mW.1).length by simp only [List.length_set]),Q,Q,Q,Q,J⟩⟩
          ·refine fV y2 J z4
         ·refine Ws (Wr ?_)
          refine aI (Bv true) aZ (On (aA.ret ⟨Q,pX z1 z4 ⟨ah.sc,J⟩ ⟨bD.mV ⟨J,J,J,J⟩,bD.bf dw,bD.bf dw,bD.bf dw,J⟩⟩))
    ·refine fV y2 z7 z6
   ·refine aA.blk (Wr ?_)
    refine aG (Iv jg.1) y4 (af LT.add aV (aI (Iv (aB (jg.1 + 1))) y4 (On (aX Q z7 z6))))
  ·refine fV y2 J z4
 ·refine Ws (Wr ?_)
  refine aI (Bv false) aZ (On (bP z1 z4 ⟨ah.sc,J⟩ ⟨bD.mV ⟨J,J,J,J⟩,bD.bf dw,bD.bf dw,bD.bf dw,J⟩))
theorem aMT (bars:(List aW)) (p:bT) (a:Int) (b:Int) (want:Int):FT Tryz.prog (FK bars p a b want) 217 [.c (xF aK bars),.c (.pl 0 0),.c (iC a),.c (iC b),.c (iC want)] [(0,.row 113 [[lo 1 p.Free.length,lo 2 p.aT.length,lo 3 p.aN.length]]),(1,pR 3 aF p.Free),(2,pR 3 aF p.aT),(3,pR 3 aF p.aN)] (fun (t:(Bool × bT)) => [.c (bC t.1)]) (fun (t:(Bool × bT)) => [(0,.row 113 [[lo 1 t.2.Free.length,lo 2 t.2.aT.length,lo 3 t.2.aN.length]]),(1,pR 3 aF t.2.Free),(2,pR 3 aF t.2.aT),(3,pR 3 aF t.2.aN)]) [1,2,3]:=by
 refine FT.of [0] Tryz.func217 Tryz.ntmps217 Q y2 ?_
 intro w0 U0 R0 g0
 unfold FK
 refine Ws (Wr ?_)
 refine aI (Bv false) aZ (On (Ws (aA.block ?_)))
 refine aA.oz (id:=0) (Dc bars a b want) (fun s1 => ([(0,Cc (xF aK bars)),(1,Cc (.pl 0 0)),(2,Iv a),(3,Iv b),(4,Iv want)],[(0,.row 113 [[lo 1 s1.1.length,lo 2 s1.2.1.length,lo 3 s1.2.2.length]]),(1,pR 3 aF s1.1),(2,pR 3 aF s1.2.1),(3,pR 3 aF s1.2.2)])) (fun nG => ([],[(0,.row 113 [[lo 1 nG.1.length,lo 2 nG.2.1.length,lo 3 nG.2.2.length]]),(1,pR 3 aF nG.1),(2,pR 3 aF nG.2.1),(3,pR 3 aF nG.2.2)])) (lU Tryz.prog Tryz.f217.results.toList [(0,.row 113 [[lo 1 p.Free.length,lo 2 p.aT.length,lo 3 p.aN.length]]),(1,pR 3 aF p.Free),(2,pR 3 aF p.aT),(3,pR 3 aF p.aN)] [1,2,3] (fun (t:(Bool × bT)) => [.c (bC t.1)]) (fun (t:(Bool × bT)) => [(0,.row 113 [[lo 1 t.2.Free.length,lo 2 t.2.aT.length,lo 3 t.2.aN.length]]),(1,pR 3 aF t.2.Free),(2,pR 3 aF t.2.aT),(3,pR 3 aF t.2.aN)])) ?_ (aQ.of z5 z4) Q (fun nG _ => ?_) qC
 ·intro s1
  unfold Dc
  refine Ws (Ws (aA.draw mixed ?_))
  refine bJ (Cc (.pl 0 0)) y4 (bg (LT.o6 Q) Q Q Q (eH (lo 1 s1.1.length) oN fF ax (bJ (Iv a) y4 (aU.bind fun x25 hx25 => (jV (LT.fP Q Q dU hx25) Q Q Q Q Q (gq (kC 0 Q ak hx25) Q Q Q Q (bJ (Cc (.pl 0 0)) y4 (bg (LT.o6 Q) Q Q Q (eH (lo 1 s1.1.length) oN fF ax ?_)))))))))
  refine bJ (Iv b) y4 (aU.bind fun iY RY => (jV (LT.fP Q Q dU RY) Q Q Q Q Q (gq (kC 0 Q ak RY) Q Q Q Q (jJ LT.add y5 (bJ (Iv want) y4 (jJ LT.lss y5 (fA (aA.cond Q (fun hc27 => ?_) (fun hc27 => ?_)))))))))
  ·refine aA.skip (aA.block (Ws ?_))
   refine aA.eP (fun j31 => ([(0,Cc (xF aK bars)),(1,Cc (.pl 0 0)),(2,Iv a),(3,Iv b),(4,Iv want),(41,Bv j31.1)],[(0,.row 113 [[lo 1 j31.2.1.length,lo 2 j31.2.2.1.length,lo 3 j31.2.2.2.length]]),(1,pR 3 aF j31.2.1),(2,pR 3 aF j31.2.2.1),(3,pR 3 aF j31.2.2.2)])) ?_ (fun j31 _ => ?_)
   ·refine en [(0,Cc (xF aK bars)),(1,Cc (.pl 0 0)),(2,Iv a),(3,Iv b),(4,Iv want)] [(0,.row 113 [[lo 1 s1.1.length,lo 2 s1.2.1.length,lo 3 s1.2.2.length]]),(1,pR 3 aF s1.1),(2,pR 3 aF s1.2.1),(3,pR 3 aF s1.2.2)] z5 z4 (Wr (aG (Cc (xF aK bars)) y4 (aG (Cc (.pl 0 0)) y4 (aG (Iv a) y4 (aG (Iv b) y4 (aP fun r32 aH8 => (aO.step (cZ [.c (xF aK bars),.c (.pl 0 0),.c (iC a),.c (iC b)] (Fw.Fn.ren [(0,0),(1,1),(2,2),(3,3)] (aEJ bars (bT.mk s1.1 s1.2.1 s1.2.2) a b r32 aH8) Q) Zz (UF y4) z4 y3) z5 z4 Q Q (aY (LT.not Q) Q Q Q (aG (Bv (!r32.1)) y4 (aO.split (fun uf => ?_) (fun uf => ?_)))))))))))
    ·refine eu (Cc (xF aK bars)) uf y5 (eu (Cc (.pl 0 0)) uf y5 (eu (Iv b) uf y5 (eu (Iv a) uf y5 (aP fun GR aH9 => (aO.step (cZ [.c (xF aK bars),.c (.pl 0 0),.c (iC b),.c (iC a)] (Fw.Fn.ren [(0,0),(1,1),(2,2),(3,3)] (aEJ bars r32.2 b a GR aH9) Q) Zz (UF y4) z4 y3) z5 z4 (gH uf Q Q) Q (aY (LT.not Q) Q (gH uf Q Q) Q (dJ (Bv (!GR.1)) uf y5 (On (aX Q z6 z4)))))))))
    ·refine aS uf y5 (aS uf y5 (aS uf y5 (aS uf y5 (aS uf y5 (aS uf y5 (eU (Bv false) uf aV (On (aX Q z6 z4))))))))
   ·refine aA.cond Q (fun Vz => ?_) (fun Vz => ?_)
    ·refine Ws (Wr ?_)
     refine aI (Bv false) aZ (On (aA.ret ⟨Q,pX z1 z4 ⟨ah.sc,J⟩ ⟨bD.mV ⟨J,J,J,J⟩,bD.bf dw,bD.bf dw,bD.bf dw,J⟩⟩))
    ·refine aA.skip (aA.blk ?_)
     refine aX Q z5 z4
  ·refine fV y2 J z4
 ·refine Ws (Wr ?_)
  refine aI (Bv true) aZ (On (bP z1 z4 ⟨ah.sc,J⟩ ⟨bD.mV ⟨J,J,J,J⟩,bD.bf dw,bD.bf dw,bD.bf dw,J⟩))
theorem aMW (bars:(List aW)) (l:Int) (p:bT) (e:Int):FT Tryz.prog (wY bars l p e) 209 [.c (xF aK bars),.c (iC l),.c (.pl 0 0),.c (iC e)] [(0,.row 113 [[lo 1 p.Free.length,lo 2 p.aT.length,lo 3 p.aN.length]]),(1,pR 3 aF p.Free),(2,pR 3 aF p.aT),(3,pR 3 aF p.aN)] (fun (t:(Bool × bT)) => [.c (bC t.1)]) (fun (t:(Bool × bT)) => [(0,.row 113 [[lo 1 t.2.Free.length,lo 2 t.2.aT.length,lo 3 t.2.aN.length]]),(1,pR 3 aF t.2.Free),(2,pR 3 aF t.2.aT),(3,pR 3 aF t.2.aN)]) [1,2,3]:=by
 refine FT.of [0] Tryz.func209 Tryz.ntmps209 Q y2 ?_
 intro w0 U0 R0 g0
 unfold wY
 refine Ws (Wr ?_)
 refine aI (Bv false) aZ (On (Ws (Wr ?_)))
 refine aG (Cc (xF aK bars)) y4 (aG (Iv e) y4 (aP fun x1 hx1 => (dY (LT.eF (enc:=aK) Q nU hx1 fB) Q Q Q Q (aY (lH Q kz jL fB) Q Q Q (eG 21 [iC 0,iC 0] jT y6 (bQ (stA [iC x1.A,iC x1.B] Q Q jL fB) Q Q Q Q Q (On (Ws (Ws ?_)))))))))
 refine en [(0,Cc (xF aK bars)),(1,Iv l),(2,Cc (.pl 0 0)),(3,Iv e),(9,Cc (.pl 21 0))] [(0,.row 113 [[lo 1 p.Free.length,lo 2 p.aT.length,lo 3 p.aN.length]]),(1,pR 3 aF p.Free),(2,pR 3 aF p.aT),(3,pR 3 aF p.aN),(21,.row 40 [[iC x1.A,iC x1.B]])] z5 z5 (Wr (aG (Cc (xF aK bars)) y4 (aG (Cc (.pl 0 0)) y4 (dK (iC x1.A) lM ak ax (dK (iC x1.B) mZ ak ax (aG (Iv l) y4 (af LT.add aV (aP fun r2 hr2 => (aO.step (cZ [.c (xF aK bars),.c (.pl 0 0),.c (iC x1.A),.c (iC x1.B),.c (iC (aB (l + 1)))] (Fw.Fn.ren [(0,0),(1,1),(2,2),(3,3)] (aMT bars p x1.A x1.B (aB (l + 1)) r2 hr2) Q) aFs (aKy y5) z4 y3) z6 z4 Q Q ?_)))))))))
 refine aY (LT.not Q) Q Q Q (On (aA.cond Q (fun hc3 => ?_) (fun hc3 => ?_)))
 ·refine Ws (en [] [(0,.row 113 [[lo 1 r2.2.Free.length,lo 2 r2.2.aT.length,lo 3 r2.2.aN.length]]),(1,pR 3 aF r2.2.Free),(2,pR 3 aF r2.2.aT),(3,pR 3 aF r2.2.aN)] J z4 (Wr (aI (Bv false) aZ (On (bP z1 z4 ⟨ah.sc,J⟩ ⟨bD.mV ⟨J,J,J,J⟩,bD.bf dw,bD.bf dw,bD.bf dw,J⟩)))))
 ·refine aA.skip (Ws ?_)
  refine en [(2,Cc (.pl 0 0)),(3,Iv e),(9,Cc (.pl 21 0))] [(0,.row 113 [[lo 1 r2.2.Free.length,lo 2 r2.2.aT.length,lo 3 r2.2.aN.length]]),(1,pR 3 aF r2.2.Free),(2,pR 3 aF r2.2.aT),(3,pR 3 aF r2.2.aN),(21,.row 40 [[iC x1.A,iC x1.B]])] z3 z5 (Wr (dK (iC x1.A) lM ak ax (aI (Iv x1.A) y4 (On (Ws (Ws (aA.draw mixed ?_)))))))
  refine bJ (Cc (.pl 0 0)) y4 (bg (LT.o6 Q) Q Q Q (eH (lo 1 r2.2.Free.length) oN fF ax (eH (iC x1.A) lM ak ax (aU.bind fun x4 hx4 => (jV (LT.fP Q Q dU hx4) Q Q Q Q Q (gq (kC 0 Q ak hx4) Q Q Q Q (jJ LT.eql aV (fA (aA.eP (fun j6 => ([(2,Cc (.pl 0 0)),(3,Iv e),(10,Iv j6)],[(0,.row 113 [[lo 1 r2.2.Free.length,lo 2 r2.2.aT.length,lo 3 r2.2.aN.length]]),(1,pR 3 aF r2.2.Free),(2,pR 3 aF r2.2.aT),(3,pR 3 aF r2.2.aN)])) ?_ (fun j6 _ => ?_))))))))))
  ·refine aA.cond Q (fun Mc => ?_) (fun Mc => ?_)
   ·refine en [(2,Cc (.pl 0 0)),(3,Iv e),(9,Cc (.pl 21 0))] [(0,.row 113 [[lo 1 r2.2.Free.length,lo 2 r2.2.aT.length,lo 3 r2.2.aN.length]]),(1,pR 3 aF r2.2.Free),(2,pR 3 aF r2.2.aT),(3,pR 3 aF r2.2.aN),(21,.row 40 [[iC x1.A,iC x1.B]])] z3 z5 (Wr (dK (iC x1.B) mZ ak ax (aI (Iv x1.B) y4 (On (aX Q z3 z4)))))
   ·refine aA.skip (aX Q z3 z4)
  ·refine Ws (Wr ?_)
   refine aG (Cc (.pl 0 0)) y4 (aY (LT.o6 Q) Q Q Q (dK (lo 1 r2.2.Free.length) oN fF ax (aG (Iv j6) y4 (aP fun x8 hx8 => (iq (LT.fP Q Q dU hx8) Q Q Q Q Q (bM (kC 0 Q ak hx8) Q Q Q Q (af LT.sub aV (aP fun x9 Nl => (iq (LT.fP Q Q dU Nl) Q Q Q Q Q (bQ (lq 0 (.c (iC (aB (x8 - 1)))) (aB (x8 - 1)) Q Q mJ gI Nl) Q Q Q Q Q ?_))))))))))
   refine On (Ws ?_)
   refine en [(2,Cc (.pl 0 0)),(3,Iv e),(10,Iv j6)] [(0,.row 113 [[lo 1 r2.2.Free.length,lo 2 r2.2.aT.length,lo 3 r2.2.aN.length]]),(1,pR 3 aF (r2.2.Free.set j6.toNat (aB (x8 - 1)))),(2,pR 3 aF r2.2.aT),(3,pR 3 aF r2.2.aN)] z3 z4 (Wr (aG (Cc (.pl 0 0)) y4 (aG (Cc (.pl 0 0)) y4 (aY (LT.o6 Q) Q Q Q (dK (lo 2 r2.2.aT.length) sF fF ax (aG (Iv j6) y4 (nP (iO 23 aF [(0,.tmp 52,.c (iC j6))] ([j6]:List Int) dS iH y7) Q Q Q (aP fun u10 Wq => (ny (LT.nZ (enc:=aF) Q Q Q dS iH Q (by decide) (by decide) (fun _ => Q) (jo Wq)) Q Q Q Q Q Q (aY (LT.o6 Q) Q Q Q ?_))))))))))
   refine aY (LT.gU Q sF) Q Q Q (bQ (qh (.c (lo 2 ((r2.2.aT ++ ([j6]:List Int)).length))) [lo 1 r2.2.Free.length,lo 2 ((r2.2.aT ++ ([j6]:List Int)).length),lo 3 r2.2.aN.length] Q Q wW uQ) Q Q Q Q Q (On (Ws ?_)))
   refine en [(2,Cc (.pl 0 0)),(3,Iv e)] [(0,.row 113 [[lo 1 r2.2.Free.length,lo 2 ((r2.2.aT ++ ([j6]:List Int)).length),lo 3 r2.2.aN.length]]),(1,pR 3 aF (r2.2.Free.set j6.toNat (aB (x8 - 1)))),(2,pR 3 aF (r2.2.aT ++ ([j6]:List Int))),(3,pR 3 aF r2.2.aN)] z2 z4 (Wr (aG (Cc (.pl 0 0)) y4 (aG (Cc (.pl 0 0)) y4 (aY (LT.o6 Q) Q Q Q (dK (lo 3 r2.2.aN.length) qX fF ax (aG (Iv e) y4 (nP (iO 24 aF [(0,.tmp 62,.c (iC e))] ([e]:List Int) dS iH y7) Q Q Q (aP fun u11 Wu => (ny (LT.nZ (enc:=aF) Q Q Q dS iH Q (by decide) (by decide) (fun _ => Q) (jo Wu)) Q Q Q Q Q Q (aY (LT.o6 Q) Q Q Q ?_))))))))))
   refine aY (LT.gU Q qX) Q Q Q (bQ (qh (.c (lo 3 ((r2.2.aN ++ ([e]:List Int)).length))) [lo 1 r2.2.Free.length,lo 2 ((r2.2.aT ++ ([j6]:List Int)).length),lo 3 ((r2.2.aN ++ ([e]:List Int)).length)] Q Q wW uQ) Q Q Q Q Q (On (Ws ?_)))
   refine en [] [(0,.row 113 [[lo 1 r2.2.Free.length,lo 2 ((r2.2.aT ++ ([j6]:List Int)).length),lo 3 ((r2.2.aN ++ ([e]:List Int)).length)]]),(1,pR 3 aF (r2.2.Free.set j6.toNat (aB (x8 - 1)))),(2,pR 3 aF (r2.2.aT ++ ([j6]:List Int))),(3,pR 3 aF (r2.2.aN ++ ([e]:List Int)))] J z4 (Wr (aI (Bv true) aZ (On (en [(8,Bv true)] [(0,.row 113 [[lo 1 ((r2.2.Free.set j6.toNat (aB (x8 - 1))).length),lo 2 ((r2.2.aT ++ ([j6]:List Int)).length),lo 3 ((r2.2.aN ++ ([e]:List Int)).length)]]),(1,pR 3 aF (r2.2.Free.set j6.toNat (aB (x8 - 1)))),(2,pR 3 aF (r2.2.aT ++ ([j6]:List Int))),(3,pR 3 aF (r2.2.aN ++ ([e]:List Int)))] z1 ⟨congrArg (fun l1 => (some (Ob.row 113 [[lo 1 l1,lo 2 ((r2.2.aT ++ ([j6]:List Int)).length),lo 3 ((r2.2.aN ++ ([e]:List Int)).length)]]):Option Ob)) (show r2.2.Free.length = (r2.2.Free.set j6.toNat (aB (x8 - 1))).length by simp only [List.length_set]),Q,Q,Q,J⟩ (bP z1 z4 ⟨ah.sc,J⟩ ⟨bD.mV ⟨J,J,J,J⟩,bD.bf dw,bD.bf dw,bD.bf dw,J⟩)))))
theorem aMX (points:Int) (bars:(List aW)) (k:Int) (l:Int):FT Tryz.prog (OT points bars k l) 188 [.c (iC points),.c (xF aK bars),.c (iC k),.c (iC l)] [] (fun (t:bT) => [.agg [lo 0 t.Free.length,lo 1 t.aT.length,lo 2 t.aN.length]]) (fun (t:bT) => [(0,pR 3 aF t.Free),(1,pR 3 aF t.aT),(2,pR 3 aF t.aN)]) [0,1,2]:=by
 refine FT.of [] Tryz.func188 Tryz.ntmps188 Q y2 ?_
 intro w0 U0 R0 g0
 unfold OT
 refine Ws (Wr ?_)
 refine eG 21 [sC aJ,sC aJ,sC aJ] nO y6 (On (Ws (Wr ?_)))
 refine yG (LT.build [] Q Q GH nO Q Q Q) Q Q (eG 22 [sC aJ,sC aJ,sC aJ] nO y6 (bQ (stA [sC aJ,sC aJ,sC aJ] Q Q gQ fK) Q Q Q Q Q (On (Ws (Ws (Wr ?_))))))
 refine aG (Iv points) y4 (aG (Iv 0) aZ (On (aA.block ?_)))
 refine aA.ent (aQ.nX 22 0 25 3 Q Q Q Q) (aA.jI (id:=0) (I9 points k) (fun s1 => ([(1,Cc (xF aK bars)),(2,Iv k),(3,Iv l),(8,Cc (.pl 21 0)),(9,Cc (.pl 22 0)),(13,Iv points),(14,Iv s1.1)],[(21,.row 113 [[sC aJ,sC aJ,sC aJ]]),(22,.row 113 [[lo 25 s1.2.length,sC aJ,sC aJ]]),(25,pR 3 aF s1.2)])) (fun b6 => ([(1,Cc (xF aK bars)),(3,Iv l),(8,Cc (.pl 21 0)),(9,Cc (.pl 22 0))],[(21,.row 113 [[sC aJ,sC aJ,sC aJ]]),(22,.row 113 [[lo 25 b6.length,sC aJ,sC aJ]]),(25,pR 3 aF b6)])) ?_ (aQ.of z7 z3) Q (fun b6 _ => ?_))
 ·intro s1
  unfold I9
  refine Ws (Wr ?_)
  refine af LT.lss y5 (On (Ws ?_))
  refine aA.cond Q (fun Mc => ?_) (fun Mc => ?_)
  ·refine aA.skip (Ws (aA.block (Wr ?_)))
   refine dK (lo 25 s1.2.length) oN fF ax (aG (Iv k) y4 (nP (iO 23 aF [(0,.tmp 18,.c (iC k))] ([k]:List Int) dS iH y7) Q Q Q (aP fun u8 hu8 => (ny (LT.nZ (enc:=aF) Q Q Q dS iH Q (by decide) (by decide) (fun _ => Q) (jo hu8)) Q Q Q Q Q Q (aY (LT.gU Q oN) Q Q Q (bQ (qh (.c (lo 25 ((s1.2 ++ ([k]:List Int)).length))) [lo 25 ((s1.2 ++ ([k]:List Int)).length),sC aJ,sC aJ] Q Q wW uQ) Q Q Q Q Q (On (aA.blk ?_))))))))
   refine en [(1,Cc (xF aK bars)),(2,Iv k),(3,Iv l),(8,Cc (.pl 21 0)),(9,Cc (.pl 22 0)),(13,Iv points),(14,Iv s1.1)] [(21,.row 113 [[sC aJ,sC aJ,sC aJ]]),(22,.row 113 [[lo 25 ((s1.2 ++ ([k]:List Int)).length),sC aJ,sC aJ]]),(25,pR 3 aF (s1.2 ++ ([k]:List Int)))] z7 z3 (Wr (af LT.add aV (aG (Iv (aB (s1.1 + 1))) y4 (On (aX Q z7 z3)))))
  ·refine fV y2 z4 z3
 ·refine Ws (Ws (Wr ?_))
  refine aG (Cc (xF aK bars)) y4 (aY (LT.iI Q iU) Q Q Q (aG (Iv 0) aZ (On (aA.block ?_))))
  refine aA.ent (aQ.nX 22 1 32 3 Q Q Q Q) (aA.ent (aQ.nX 22 2 33 3 Q Q Q Q) (aA.jI (id:=2) (JA bars l) (fun s9 => ([(1,Cc (xF aK bars)),(3,Iv l),(8,Cc (.pl 21 0)),(9,Cc (.pl 22 0)),(24,Iv (bars.length:Int)),(25,Iv s9.1)],[(21,.row 113 [[sC aJ,sC aJ,sC aJ]]),(22,.row 113 [[lo 25 s9.2.1.length,lo 32 s9.2.2.1.length,lo 33 s9.2.2.2.length]]),(25,pR 3 aF s9.2.1),(32,pR 3 aF s9.2.2.1),(33,pR 3 aF s9.2.2.2)])) (fun b22 => ([(8,Cc (.pl 21 0)),(9,Cc (.pl 22 0))],[(21,.row 113 [[sC aJ,sC aJ,sC aJ]]),(22,.row 113 [[lo 25 b22.1.length,lo 32 b22.2.1.length,lo 33 b22.2.2.length]]),(25,pR 3 aF b22.1),(32,pR 3 aF b22.2.1),(33,pR 3 aF b22.2.2)])) ?_ (aQ.of z6 z5) Q (fun b22 _ => ?_)))
  ·intro s9
   unfold JA
   refine Ws (Wr ?_)
   refine af LT.lss y5 (On (Ws ?_))
   refine aA.cond Q (fun MV => ?_) (fun MV => ?_)
   ·refine aA.skip (Ws (aA.block (Ws (Wr ?_))))
    refine aG (Iv s9.1) y4 (aI (Iv s9.1) y4 (On (Ws (Wr ?_))))
    refine bM (bV [lo 25 s9.2.1.length,lo 32 s9.2.2.1.length,lo 33 s9.2.2.2.length] Q kL gQ fK) Q Q Q Q (aP fun fH Ew => (aO.step (cF [.agg [lo 25 s9.2.1.length,lo 32 s9.2.2.1.length,lo 33 s9.2.2.2.length]] [(25,pR 3 aF s9.2.1),(32,pR 3 aF s9.2.2.1),(33,pR 3 aF s9.2.2.2)] (Fw.Fn.ren [(0,27),(1,28),(2,29)] (aMS (bT.mk s9.2.1 s9.2.2.1 s9.2.2.2) fH Ew) Q) aFo (.cons (.agg (.cons (.fC Q Q) (.cons (.fC Q Q) (.cons (.fC Q Q) .nil)))) .nil) J y3) z2 z3 Q Q (eG 30 [sC aJ,sC aJ,sC aJ] nO y6 (bQ (stA [lo 27 fH.Free.length,lo 28 fH.aT.length,lo 29 fH.aN.length] Q Q gQ fK) Q Q Q Q Q (On (Ws ?_))))))
    refine en [(1,Cc (xF aK bars)),(3,Iv l),(8,Cc (.pl 21 0)),(9,Cc (.pl 22 0)),(10,Iv s9.1),(11,Cc (.pl 30 0)),(24,Iv (bars.length:Int)),(25,Iv s9.1)] [(21,.row 113 [[sC aJ,sC aJ,sC aJ]]),(22,.row 113 [[lo 25 s9.2.1.length,lo 32 s9.2.2.1.length,lo 33 s9.2.2.2.length]]),(25,pR 3 aF s9.2.1),(27,pR 3 aF fH.Free),(28,pR 3 aF fH.aT),(29,pR 3 aF fH.aN),(30,.row 113 [[lo 27 fH.Free.length,lo 28 fH.aT.length,lo 29 fH.aN.length]]),(32,pR 3 aF s9.2.2.1),(33,pR 3 aF s9.2.2.2)] z8 z9 (Wr (aG (Cc (xF aK bars)) y4 (aG (Iv l) y4 (aG (Iv s9.1) y4 (aP fun r25 aH6 => (aO.step (cZ [.c (xF aK bars),.c (iC l),.c (.pl 30 0),.c (iC s9.1)] (Fw.Fn.ren [(0,30),(1,27),(2,28),(3,29)] (aMW bars l fH s9.1 r25 aH6) Q) aFp (UF y4) z4 y3) z5 z4 Q Q (On (aA.eP (fun j27 => ([(1,Cc (xF aK bars)),(3,Iv l),(8,Cc (.pl 21 0)),(9,Cc (.pl 22 0)),(24,Iv (bars.length:Int)),(25,Iv s9.1)],[(21,.row 113 [[sC aJ,sC aJ,sC aJ]]),(22,.row 113 [[lo 27 j27.1.length,lo 28 j27.2.1.length,lo 29 j27.2.2.length]]),(27,pR 3 aF j27.1),(28,pR 3 aF j27.2.1),(29,pR 3 aF j27.2.2)])) ?_ (fun j27 _ => ?_)))))))))
    ·refine aA.cond Q (fun hc28 => ?_) (fun hc28 => ?_)
     ·refine Wr (bM (bV [lo 27 r25.2.Free.length,lo 28 r25.2.aT.length,lo 29 r25.2.aN.length] Q kL gQ fK) Q Q Q Q (bQ (stA [lo 27 r25.2.Free.length,lo 28 r25.2.aT.length,lo 29 r25.2.aN.length] Q Q gQ fK) Q Q Q Q Q (On (aX Q z6 z5))))
     ·refine aA.skip (en [(1,Cc (xF aK bars)),(3,Iv l),(8,Cc (.pl 21 0)),(9,Cc (.pl 22 0)),(24,Iv (bars.length:Int)),(25,Iv s9.1)] [(21,.row 113 [[sC aJ,sC aJ,sC aJ]]),(22,.row 113 [[lo 25 s9.2.1.length,lo 32 s9.2.2.1.length,lo 33 s9.2.2.2.length]]),(25,pR 3 aF s9.2.1),(32,pR 3 aF s9.2.2.1),(33,pR 3 aF s9.2.2.2)] z6 z5 (aA.ent (aQ.mv 25 27 Q Q) (aA.ent (aQ.mv 32 28 Q Q) (aA.ent (aQ.mv 33 29 Q Q) (aX Q z6 z5)))))
    ·refine aA.blk (Wr ?_)
     refine af LT.add aV (aG (Iv (aB (s9.1 + 1))) y4 (On (en [(1,Cc (xF aK bars)),(3,Iv l),(8,Cc (.pl 21 0)),(9,Cc (.pl 22 0)),(24,Iv (bars.length:Int)),(25,Iv (aB (s9.1 + 1)))] [(21,.row 113 [[sC aJ,sC aJ,sC aJ]]),(22,.row 113 [[lo 27 j27.1.length,lo 28 j27.2.1.length,lo 29 j27.2.2.length]]),(27,pR 3 aF j27.1),(28,pR 3 aF j27.2.1),(29,pR 3 aF j27.2.2)] z6 z5 (aA.ent (aQ.mv 27 25 Q Q) (aA.ent (aQ.mv 28 32 Q Q) (aA.ent (aQ.mv 29 33 Q Q) (aX Q z6 z5)))))))
   ·refine fV y2 z2 z5
  ·refine Ws (Wr ?_)
   refine bM (bV [lo 25 b22.1.length,lo 32 b22.2.1.length,lo 33 b22.2.2.length] Q kL gQ fK) Q Q Q Q (bQ (stA [lo 25 b22.1.length,lo 32 b22.2.1.length,lo 33 b22.2.2.length] Q Q gQ fK) Q Q Q Q Q (On (en [(8,Cc (.pl 21 0))] [(21,.row 113 [[lo 25 b22.1.length,lo 32 b22.2.1.length,lo 33 b22.2.2.length]]),(25,pR 3 aF b22.1),(32,pR 3 aF b22.2.1),(33,pR 3 aF b22.2.2)] z1 z4 (aA.ent (aQ.mv 25 0 Q Q) (aA.ent (aQ.mv 32 1 Q Q) (aA.ent (aQ.mv 33 2 Q Q) (en [(8,Cc (.pl 21 0))] [(0,pR 3 aF b22.1),(1,pR 3 aF b22.2.1),(2,pR 3 aF b22.2.2),(21,.row 113 [[lo 0 b22.1.length,lo 1 b22.2.1.length,lo 2 b22.2.2.length]])] z1 z4 (bP ⟨⟨_,_,_,Q,Q,Q,kL,fK,_,gm gQ⟩,J⟩ z3 ⟨⟨J,J,J,J⟩,J⟩ ⟨bD.bf dw,bD.bf dw,bD.bf dw,J⟩))))))))
theorem aEG (g:aj) (k:Int) (l:Int):FT Tryz.prog (Ip g k l) 164 [.agg (ai g),.c (iC k),.c (iC l)] [] (fun (t:(bT × Bool)) => [.agg [lo 0 t.1.Free.length,lo 1 t.1.aT.length,lo 2 t.1.aN.length],.c (bC t.2)]) (fun (t:(bT × Bool)) => [(0,pR 3 aF t.1.Free),(1,pR 3 aF t.1.aT),(2,pR 3 aF t.1.aN)]) [0,1,2]:=by
 refine FT.of [] Tryz.func164 Tryz.ntmps164 Q y2 ?_
 intro w0 U0 R0 g0
 unfold Ip
 refine Ws (Wr ?_)
 refine iL 21 (.agg (ai g)) bU y5 (eG 22 [sC aJ,sC aJ,sC aJ] nO y6 (aI (Bv false) aZ (On (Ws (Ws ?_)))))
 refine aA.eP (fun j4 => ([(1,Iv k),(2,Iv l),(3,Cc (.pl 21 0)),(6,Cc (.pl 22 0)),(16,Bv j4)],[(21,.row 26 [ai g]),(22,.row 113 [[sC aJ,sC aJ,sC aJ]])])) ?_ (fun j4 _ => ?_)
 ·refine Wr (bM (bV (ai g) Q eY dA bU) Q Q Q Q (aP fun r5 mG => (jD [.agg (ai g)] (Yi g r5 mG) U9 (vX y2) y5 z2 (aY (LT.not Q) Q Q Q (aG (Bv (!r5)) y4 (aO.split (fun hb6 => ?_) (fun hb6 => ?_)))))))
  ·refine aS hb6 y5 (aS hb6 y5 (aS hb6 y5 (aS hb6 y5 (dJ (Bv true) hb6 aV (On (aX Q z5 z2))))))
  ·refine eu (Iv k) hb6 y5 (eu (Iv l) hb6 y5 (aP fun r7 oI => (aO.pure (cZ [.c (iC k),.c (iC l)] (aMI k l r7 oI) aFi (iZ y2) J y3) z3 J (gH hb6 Q Q) Q (aY (LT.not Q) Q (gH hb6 Q Q) Q (eU (Bv (!r7)) hb6 y5 (On (aX Q z5 z2)))))))
 ·refine aA.cond Q (fun hc8 => ?_) (fun hc8 => ?_)
  ·refine Ws (Wr ?_)
   refine yG (LT.build [] Q Q GH nO Q Q Q) Q Q (bQ (stA [sC aJ,sC aJ,sC aJ] Q Q gQ fK) Q Q Q Q Q (aI (Bv false) aZ (On (aA.ent (aQ.nX 22 0 0 3 Q Q Q Q) (aA.ent (aQ.nX 22 1 1 3 Q Q Q Q) (aA.ent (aQ.nX 22 2 2 3 Q Q Q Q) (en [(6,Cc (.pl 22 0)),(7,Bv false)] [(0,pR 3 aF ([]:List Int)),(1,pR 3 aF ([]:List Int)),(2,pR 3 aF ([]:List Int)),(22,.row 113 [[lo 0 (([]:List Int).length),lo 1 (([]:List Int).length),lo 2 (([]:List Int).length)]])] z2 z4 (bP ⟨⟨_,_,_,Q,Q,Q,kL,fK,_,gm gQ⟩,Q,J⟩ z3 ⟨⟨J,J,J,J⟩,ah.sc,J⟩ ⟨bD.bf dw,bD.bf dw,bD.bf dw,J⟩))))))))
  ·refine aA.skip (Ws (Wr ?_))
   refine dK (iC g.aH) kV ak ax (dK (xF aK g.aC) gK iK ax (aG (Iv k) y4 (aG (Iv l) y4 (aP fun r9 rX => (aO.step (cZ [.c (iC g.aH),.c (xF aK g.aC),.c (iC k),.c (iC l)] (Fw.Fn.ren [(0,26),(1,27),(2,28)] (aMX g.aH g.aC k l r9 rX) Q) aFj (UF y4) J y3) z5 J Q Q (bQ (stA [lo 26 r9.Free.length,lo 27 r9.aT.length,lo 28 r9.aN.length] Q Q gQ fK) Q Q Q Q Q (aI (Bv true) aZ (On (en [(6,Cc (.pl 22 0)),(7,Bv true)] [(22,.row 113 [[lo 26 r9.Free.length,lo 27 r9.aT.length,lo 28 r9.aN.length]]),(26,pR 3 aF r9.Free),(27,pR 3 aF r9.aT),(28,pR 3 aF r9.aN)] z2 z4 ?_)))))))))
   refine aA.ent (aQ.mv 26 0 Q Q) (aA.ent (aQ.mv 27 1 Q Q) (aA.ent (aQ.mv 28 2 Q Q) (en [(6,Cc (.pl 22 0)),(7,Bv true)] [(0,pR 3 aF r9.Free),(1,pR 3 aF r9.aT),(2,pR 3 aF r9.aN),(22,.row 113 [[lo 0 r9.Free.length,lo 1 r9.aT.length,lo 2 r9.aN.length]])] z2 z4 (bP ⟨⟨_,_,_,Q,Q,Q,kL,fK,_,gm gQ⟩,Q,J⟩ z3 ⟨⟨J,J,J,J⟩,ah.sc,J⟩ ⟨bD.bf dw,bD.bf dw,bD.bf dw,J⟩))))
theorem aEE (g:aj) (k:Int) (l:Int):FT Tryz.prog (Ik g k l) 128 [.agg (ai g),.c (iC k),.c (iC l)] [] (fun (t:Int) => [.c (iC t)]) (fun (t:Int) => []) []:=by
 refine FT.of [] Tryz.func128 Tryz.ntmps128 Q y2 ?_
 intro w0 U0 R0 g0
 unfold Ik
 refine Ws (Wr ?_)
 refine iL 21 (.agg (ai g)) bU y5 (aI (Iv 0) aZ (On (Ws (Wr ?_))))
 refine bM (bV (ai g) Q eY dA bU) Q Q Q Q (aG (Iv k) y4 (aG (Iv l) y4 (aP fun r1 hr1 => (aO.step (cZ [.agg (ai g),.c (iC k),.c (iC l)] (Fw.Fn.ren [(0,23),(1,24),(2,25)] (aEG g k l r1 hr1) Q) Zm (AB y4) J y3) z4 J Q Q (aG (.dM [.agg [lo 23 r1.1.Free.length,lo 24 r1.1.aT.length,lo 25 r1.1.aN.length],.c (bC r1.2)]) y4 (gy (.agg [lo 23 r1.1.Free.length,lo 24 r1.1.aT.length,lo 25 r1.1.aN.length]) y5 (gy (.c (bC r1.2)) y5 (eG 26 [sC aJ,sC aJ,sC aJ] nO y6 (bQ (stA [lo 23 r1.1.Free.length,lo 24 r1.1.aT.length,lo 25 r1.1.aN.length] Q Q gQ fK) Q Q Q Q Q (aI (Bv r1.2) y4 (On (Ws (Ws ?_)))))))))))))
 refine en [(7,Cc (.pl 26 0)),(8,Bv r1.2)] [(23,pR 3 aF r1.1.Free),(24,pR 3 aF r1.1.aT),(25,pR 3 aF r1.1.aN),(26,.row 113 [[lo 23 r1.1.Free.length,lo 24 r1.1.aT.length,lo 25 r1.1.aN.length]])] z2 z4 (Wr (aG (Bv r1.2) y4 (aY (LT.not Q) Q Q Q (On (aA.cond Q (fun hc2 => ?_) (fun hc2 => ?_))))))
 ·refine Ws (Wr ?_)
  refine aI (Iv (-1)) aZ (On (bP z1 J ⟨ah.sc,J⟩ J))
 ·refine aA.skip (Ws (Wr ?_))
  refine dK (lo 25 r1.1.aN.length) qX fF ax (aY (LT.lG Q dS) Q Q Q (aI (Iv (r1.1.aN.length:Int)) y4 (On (bP z1 J ⟨ah.sc,J⟩ J))))
theorem aMn (g:aj) (k:Int):FT Tryz.prog (Om g k) 174 [.agg (ai g),.c (iC k)] [] (fun (t:(bT × Bool)) => [.agg [lo 0 t.1.Free.length,lo 1 t.1.aT.length,lo 2 t.1.aN.length],.c (bC t.2)]) (fun (t:(bT × Bool)) => [(0,pR 3 aF t.1.Free),(1,pR 3 aF t.1.aT),(2,pR 3 aF t.1.aN)]) [0,1,2]:=by
 refine FT.of [] Tryz.func174 Tryz.ntmps174 Q y2 ?_
 intro w0 U0 R0 g0
 unfold Om
 refine Ws (Wr ?_)
 refine iL 21 (.agg (ai g)) bU y5 (eG 22 [sC aJ,sC aJ,sC aJ] nO y6 (aI (Bv false) aZ (On (Ws (Wr ?_)))))
 refine l7 (iO 23 aF [] [] dS iH y7) Q Q (l7 (iO 24 aF [] [] dS iH y7) Q Q (l7 (iO 25 aF [] [] dS iH y7) Q Q (aEy (LT.build [(0,.tmp 8,.c (lo 23 (([]:List Int).length))),(1,.tmp 9,.c (lo 24 (([]:List Int).length))),(2,.tmp 10,.c (lo 25 (([]:List Int).length)))] Q Q GH nO Q Q Q) Q Q Q Q Q (eG 26 [sC aJ,sC aJ,sC aJ] nO y6 (bQ (stA [lo 23 (([]:List Int).length),lo 24 (([]:List Int).length),lo 25 (([]:List Int).length)] Q Q gQ fK) Q Q Q Q Q (On (Ws (Ws ?_))))))))
 refine aA.eP (fun j4 => ([(1,Iv k),(2,Cc (.pl 21 0)),(4,Cc (.pl 22 0)),(6,Cc (.pl 26 0)),(19,Bv j4)],[(21,.row 26 [ai g]),(22,.row 113 [[sC aJ,sC aJ,sC aJ]]),(23,pR 3 aF ([]:List Int)),(24,pR 3 aF ([]:List Int)),(25,pR 3 aF ([]:List Int)),(26,.row 113 [[lo 23 (([]:List Int).length),lo 24 (([]:List Int).length),lo 25 (([]:List Int).length)]])])) ?_ (fun j4 _ => ?_)
 ·refine en [(1,Iv k),(2,Cc (.pl 21 0)),(4,Cc (.pl 22 0)),(6,Cc (.pl 26 0))] [(21,.row 26 [ai g]),(22,.row 113 [[sC aJ,sC aJ,sC aJ]]),(23,pR 3 aF ([]:List Int)),(24,pR 3 aF ([]:List Int)),(25,pR 3 aF ([]:List Int)),(26,.row 113 [[lo 23 (([]:List Int).length),lo 24 (([]:List Int).length),lo 25 (([]:List Int).length)]])] z4 z6 (Wr (bM (bV (ai g) Q eY dA bU) Q Q Q Q (aP fun r5 mG => (jD [.agg (ai g)] (LH g r5 mG) G7 (vX y2) y5 z2 (aY (LT.not Q) Q Q Q (aG (Bv (!r5)) y4 (aO.split (fun hb6 => ?_) (fun hb6 => ?_))))))))
  ·refine aS hb6 y5 (aS hb6 y5 (aS hb6 y5 (dJ (Bv true) hb6 aV (On (aX Q z5 z6)))))
  ·refine eu (Iv k) hb6 y5 (aP fun r7 oI => (aO.pure (cZ [.c (iC k),.c (iC 1),.c (iC 3)] (yC k 1 3 r7 oI) xK (qF y3) J y3) ⟨Q,Q,y2,y2,J⟩ J (gH hb6 Q Q) Q (aY (LT.not Q) Q (gH hb6 Q Q) Q (eU (Bv (!r7)) hb6 y5 (On (aX Q z5 z6))))))
 ·refine aA.cond Q (fun hc8 => ?_) (fun hc8 => ?_)
  ·refine Ws (Wr ?_)
   refine yG (LT.build [] Q Q GH nO Q Q Q) Q Q (bQ (stA [sC aJ,sC aJ,sC aJ] Q Q gQ fK) Q Q Q Q Q (aI (Bv false) aZ (On (aA.ent (aQ.nX 22 0 0 3 Q Q Q Q) (aA.ent (aQ.nX 22 1 1 3 Q Q Q Q) (aA.ent (aQ.nX 22 2 2 3 Q Q Q Q) (en [(4,Cc (.pl 22 0)),(5,Bv false)] [(0,pR 3 aF ([]:List Int)),(1,pR 3 aF ([]:List Int)),(2,pR 3 aF ([]:List Int)),(22,.row 113 [[lo 0 (([]:List Int).length),lo 1 (([]:List Int).length),lo 2 (([]:List Int).length)]])] z2 z4 (bP ⟨⟨_,_,_,Q,Q,Q,kL,fK,_,gm gQ⟩,Q,J⟩ z3 ⟨⟨J,J,J,J⟩,ah.sc,J⟩ ⟨bD.bf dw,bD.bf dw,bD.bf dw,J⟩))))))))
  ·refine aA.skip (Ws (Ws (Wr ?_)))
   refine aI (Iv 0) aZ (On (aA.block ?_))
   refine aA.jI (id:=0) (JV g k) (fun s9 => ([(1,Iv k),(2,Cc (.pl 21 0)),(4,Cc (.pl 22 0)),(6,Cc (.pl 26 0)),(7,Iv s9.1)],[(21,.row 26 [ai g]),(22,.row 113 [[sC aJ,sC aJ,sC aJ]]),(23,pR 3 aF s9.2),(24,pR 3 aF ([]:List Int)),(25,pR 3 aF ([]:List Int)),(26,.row 113 [[lo 23 s9.2.length,lo 24 (([]:List Int).length),lo 25 (([]:List Int).length)]])])) (fun b14 => ([(4,Cc (.pl 22 0)),(6,Cc (.pl 26 0))],[(22,.row 113 [[sC aJ,sC aJ,sC aJ]]),(23,pR 3 aF b14),(24,pR 3 aF ([]:List Int)),(25,pR 3 aF ([]:List Int)),(26,.row 113 [[lo 23 b14.length,lo 24 (([]:List Int).length),lo 25 (([]:List Int).length)]])])) ?_ (aQ.of z5 z6) Q (fun b14 _ => ?_)
   ·intro s9
    unfold JV
    refine Ws (Ws (Wr ?_))
    refine aG (Iv s9.1) y4 (dK (iC g.aH) kV ak ax (af LT.lss y5 (On (aA.cond Q (fun Az => ?_) (fun Az => ?_)))))
    ·refine aA.skip (Ws (aA.block (Wr ?_)))
     refine dK (lo 23 s9.2.length) oN fF ax (aG (Iv k) y4 (nP (iO 29 aF [(0,.tmp 29,.c (iC k))] ([k]:List Int) dS iH y7) Q Q Q (aP fun u16 NS => (ny (LT.nZ (enc:=aF) Q Q Q dS iH Q (by decide) (by decide) (fun _ => Q) (jo NS)) Q Q Q Q Q Q (aY (LT.gU Q oN) Q Q Q (bQ (qh (.c (lo 23 ((s9.2 ++ ([k]:List Int)).length))) [lo 23 ((s9.2 ++ ([k]:List Int)).length),lo 24 (([]:List Int).length),lo 25 (([]:List Int).length)] Q Q wW uQ) Q Q Q Q Q (On (aA.blk ?_))))))))
     refine en [(1,Iv k),(2,Cc (.pl 21 0)),(4,Cc (.pl 22 0)),(6,Cc (.pl 26 0)),(7,Iv s9.1)] [(21,.row 26 [ai g]),(22,.row 113 [[sC aJ,sC aJ,sC aJ]]),(23,pR 3 aF (s9.2 ++ ([k]:List Int))),(24,pR 3 aF ([]:List Int)),(25,pR 3 aF ([]:List Int)),(26,.row 113 [[lo 23 ((s9.2 ++ ([k]:List Int)).length),lo 24 (([]:List Int).length),lo 25 (([]:List Int).length)]])] z5 z6 (Wr (aG (Iv s9.1) y4 (af LT.add aV (aI (Iv (aB (s9.1 + 1))) y4 (On (aX Q z5 z6))))))
    ·refine fV y2 z2 z5
   ·refine Ws (Wr ?_)
    refine bM (bV [lo 23 b14.length,lo 24 (([]:List Int).length),lo 25 (([]:List Int).length)] Q kL gQ fK) Q Q Q Q (bQ (stA [lo 23 b14.length,lo 24 (([]:List Int).length),lo 25 (([]:List Int).length)] Q Q gQ fK) Q Q Q Q Q (aI (Bv true) aZ (On (en [(4,Cc (.pl 22 0)),(5,Bv true)] [(22,.row 113 [[lo 23 b14.length,lo 24 (([]:List Int).length),lo 25 (([]:List Int).length)]]),(23,pR 3 aF b14),(24,pR 3 aF ([]:List Int)),(25,pR 3 aF ([]:List Int))] z2 z4 (aA.ent (aQ.mv 23 0 Q Q) (aA.ent (aQ.mv 24 1 Q Q) (aA.ent (aQ.mv 25 2 Q Q) (en [(4,Cc (.pl 22 0)),(5,Bv true)] [(0,pR 3 aF b14),(1,pR 3 aF ([]:List Int)),(2,pR 3 aF ([]:List Int)),(22,.row 113 [[lo 0 b14.length,lo 1 (([]:List Int).length),lo 2 (([]:List Int).length)]])] z2 z4 (bP ⟨⟨_,_,_,Q,Q,Q,kL,fK,_,gm gQ⟩,Q,J⟩ z3 ⟨⟨J,J,J,J⟩,ah.sc,J⟩ ⟨bD.bf dw,bD.bf dw,bD.bf dw,J⟩)))))))))
theorem aEP (k:Int) (l:Int):FT Tryz.prog (FQ k l) 176 [.c (iC k),.c (iC l)] [] (fun (t:Bool) => [.c (bC t)]) (fun (t:Bool) => []) []:=by
 refine FT.of [] Tryz.func176 Tryz.ntmps176 Q y2 ?_
 intro w0 U0 R0 g0
 unfold FQ
 refine Ws (Wr ?_)
 refine aI (Bv false) aZ (On (Ws ?_))
 refine aA.eP (fun j4 => ([(4,Bv j4)],[])) ?_ (fun j4 _ => ?_)
 ·refine Wr (aG (Iv k) y4 (aP fun r5 mG => (jD [.c (iC k),.c (iC 1),.c (iC 3)] (yC k 1 3 r5 mG) xK (qF y3) y5 ⟨Q,Q,y2,y2,J⟩ (aG (Bv r5) y4 (aO.split (fun hb6 => ?_) (fun hb6 => ?_))))))
  ·refine eu (Iv l) hb6 y5 (iy LT.geq hb6 kD (dJ (Bv (decide (0 ≤ l))) hb6 y5 (aG (Bv (decide (0 ≤ l))) y4 (aO.split (fun hb7 => ?_) (fun hb7 => ?_)))))
   ·refine eu (Iv l) hb7 y5 (eu (Iv k) hb7 y5 (iy LT.mul hb7 aD4 (iy LT.lss hb7 y6 (dJ (Bv (decide (l < (aB (2 * k))))) hb7 y5 (aI (Bv (decide (l < (aB (2 * k))))) y4 (On (aX Q z1 J)))))))
   ·refine aS hb7 y5 (aS hb7 y5 (aS hb7 y5 (aS hb7 y5 (eU (Bv false) hb7 aV (aI (Bv false) y4 (On (aX Q z1 J)))))))
  ·refine aS hb6 y5 (aS hb6 y5 (eU (Bv false) hb6 aV (aG (Bv false) y4 (ay y5 (ay y5 (ay y5 (ay y5 (eU (Bv false) Q aV (aI (Bv false) y4 (On (aX Q z1 J)))))))))))
 ·refine bP z1 J ⟨ah.sc,J⟩ J
theorem aM0 (p:bT) (v:Int):FT Tryz.prog (O5 p v) 216 [.agg (iP p),.c (iC v)] [] (fun (t:Int) => [.c (iC t)]) (fun (t:Int) => []) []:=by
 refine FT.of [] Tryz.func216 Tryz.ntmps216 Q y2 ?_
 intro w0 U0 R0 g0
 unfold O5
 refine Ws (Wr ?_)
 refine iL 21 (.agg (iP p)) fK y5 (aI (Iv 0) aZ (On (Ws (Wr ?_))))
 refine aI (Iv 0) aZ (On (Ws (Ws (Wr ?_))))
 refine aI (Iv 0) aZ (On (aA.block ?_))
 refine aA.jI (id:=0) (Ju p v) (fun s1 => ([(1,Iv v),(2,Cc (.pl 21 0)),(5,Iv s1.1),(6,Iv s1.2)],[(21,.row 113 [iP p])])) (fun b12 => ([(5,Iv b12)],[])) ?_ (aQ.of z4 z1) Q (fun b12 _ => ?_)
 ·intro s1
  unfold Ju
  refine Ws (Ws (Wr ?_))
  refine aG (Iv s1.2) y4 (dK (xF aF p.aT) sF fF ax (aY (LT.iI Q dS) Q Q Q (af LT.lss y5 (On (aA.cond Q (fun hc13 => ?_) (fun hc13 => ?_))))))
  ·refine aA.skip (Ws (aA.block (Ws (Wr ?_))))
   refine dK (xF aF p.aT) sF fF ax (aG (Iv s1.2) y4 (aP fun x14 XC => (dY (LT.eF (enc:=aF) Q dU XC gI) Q Q Q Q (aY (LT.iw Q ak) Q Q Q (aG (Iv v) y4 (af LT.eql y5 (On (aA.eP (fun j16 => ([(1,Iv v),(2,Cc (.pl 21 0)),(5,Iv j16),(6,Iv s1.2)],[(21,.row 113 [iP p])])) ?_ (fun j16 _ => ?_)))))))))
   ·refine aA.cond Q (fun hc17 => ?_) (fun hc17 => ?_)
    ·refine en [(1,Iv v),(2,Cc (.pl 21 0)),(5,Iv s1.1),(6,Iv s1.2)] [(21,.row 113 [iP p])] z4 z1 (Wr (aG (Iv s1.1) y4 (af LT.add aV (aI (Iv (aB (s1.1 + 1))) y4 (On (aX Q z4 z1))))))
    ·refine aA.skip (aX Q z4 z1)
   ·refine aA.blk (Wr ?_)
    refine aG (Iv s1.2) y4 (af LT.add aV (aI (Iv (aB (s1.2 + 1))) y4 (On (aX Q z4 z1))))
  ·refine fV y2 z1 J
 ·refine Ws (Wr ?_)
  refine aG (Iv b12) y4 (aI (Iv b12) y4 (On (bP z1 J ⟨ah.sc,J⟩ J)))
theorem aMl (g:aj) (k:Int) (p:bT):FT Tryz.prog (Dk g k p) 203 [.agg (ai g),.c (iC k),.agg (iP p)] [] (fun (t:Bool) => [.c (bC t)]) (fun (t:Bool) => []) []:=by
 refine FT.of [] Tryz.func203 Tryz.ntmps203 Q y2 ?_
 intro w0 U0 R0 g0
 unfold Dk
 refine Ws (Wr ?_)
 refine iL 21 (.agg (ai g)) bU y5 (iL 22 (.agg (iP p)) fK y5 (aI (Bv false) aZ (On (Ws (Ws ?_)))))
 refine aA.eP (fun j6 => ([(1,Iv k),(3,Cc (.pl 21 0)),(5,Cc (.pl 22 0)),(34,Bv j6)],[(21,.row 26 [ai g]),(22,.row 113 [iP p])])) ?_ (fun j6 _ => ?_)
 ·refine Wr (bM (bV (ai g) Q eY dA bU) Q Q Q Q (aP fun r7 oI => (jD [.agg (ai g)] (LH g r7 oI) G7 (vX y2) y5 z2 (aY (LT.not Q) Q Q Q (aG (Bv (!r7)) y4 (aO.split (fun hb8 => ?_) (fun hb8 => ?_)))))))
  ·refine aS hb8 y5 (aS hb8 y5 (aS hb8 y5 (dJ (Bv true) hb8 aV (aG (Bv true) y4 (ay y5 (ay y5 (ay y5 (ay y5 (ay y5 (ay y5 (dJ (Bv true) Q aV ?_)))))))))))
   refine aG (Bv true) y4 (ay y5 (ay y5 (ay y5 (ay y5 (ay y5 (ay y5 (ay y5 (dJ (Bv true) Q aV (On (aX Q z4 z2))))))))))
  ·refine eu (Iv k) hb8 y5 (aP fun r9 rX => (aO.pure (cZ [.c (iC k),.c (iC 1),.c (iC 3)] (yC k 1 3 r9 rX) xK (qF y3) J y3) ⟨Q,Q,y2,y2,J⟩ J (gH hb8 Q Q) Q (aY (LT.not Q) Q (gH hb8 Q Q) Q (eU (Bv (!r9)) hb8 y5 (aG (Bv (!r9)) y4 (aO.split (fun qZ => ?_) (fun qZ => ?_)))))))
   ·refine aS qZ y5 (aS qZ y5 (aS qZ y5 (aS qZ y5 (aS qZ y5 (aS qZ y5 (dJ (Bv true) qZ aV (aG (Bv true) y4 (ay y5 (ay y5 (ay y5 (ay y5 ?_)))))))))))
    refine ay y5 (ay y5 (ay y5 (dJ (Bv true) Q aV (On (aX Q z4 z2)))))
   ·refine kE (xF aF p.Free) oN fF qZ iM (aY (LT.iI Q dS) Q (gH qZ Q Q) Q (kE (iC g.aH) kV ak qZ iM (iy LT.neq qZ y6 (eU (Bv ((p.Free.length:Int) != g.aH)) qZ y5 (aG (Bv ((p.Free.length:Int) != g.aH)) y4 (aO.split (fun lZ => ?_) (fun lZ => ?_)))))))
    ·refine aS lZ y5 (aS lZ y5 (aS lZ y5 (aS lZ y5 (aS lZ y5 (aS lZ y5 (aS lZ y5 (dJ (Bv true) lZ aV (On (aX Q z4 z2)))))))))
    ·refine kE (xF aF p.aT) sF fF lZ iM (aY (LT.iI Q dS) Q (gH lZ Q Q) Q (kE (xF aF p.aN) qX fF lZ iM (aY (LT.iI Q dS) Q (gH lZ Q Q) Q (iy LT.neq lZ y6 (eU (Bv ((p.aT.length:Int) != (p.aN.length:Int))) lZ y5 (On (aX Q z4 z2)))))))
 ·refine aA.cond Q (fun hc12 => ?_) (fun hc12 => ?_)
  ·refine Ws (Wr ?_)
   refine aI (Bv false) aZ (On (bP z1 J ⟨ah.sc,J⟩ J))
  ·refine aA.skip (Ws (Ws (Wr ?_)))
   refine aI (Iv 0) aZ (On (aA.block ?_))
   refine aA.oz (id:=0) (JS g p) (fun s13 => ([(1,Iv k),(3,Cc (.pl 21 0)),(5,Cc (.pl 22 0)),(7,Iv s13)],[(21,.row 26 [ai g]),(22,.row 113 [iP p])])) (fun ZN => ([(1,Iv k),(3,Cc (.pl 21 0)),(5,Cc (.pl 22 0))],[(21,.row 26 [ai g]),(22,.row 113 [iP p])])) (lU Tryz.prog Tryz.f203.results.toList [] [] (fun (t:Bool) => [.c (bC t)]) (fun (t:Bool) => [])) ?_ (aQ.of z4 z2) Q (fun ZN _ => ?_) qC
   ·intro s13
    unfold JS
    refine Ws (Ws (Wr ?_))
    refine aG (Iv s13) y4 (dK (xF aF p.aN) qX fF ax (aY (LT.iI Q dS) Q Q Q (af LT.lss y5 (On (aA.cond Q (fun aHW => ?_) (fun aHW => ?_))))))
    ·refine aA.skip (Ws (aA.block (Ws (Wr ?_))))
     refine dK (xF aF p.aN) qX fF ax (aG (Iv s13) y4 (aP fun x84 aJM => (dY (LT.eF (enc:=aF) Q dU aJM gI) Q Q Q Q (aY (LT.iw Q ak) Q Q Q (aI (Iv x84) y4 (On (Ws ?_)))))))
     refine aA.eP (fun j100 => ([(1,Iv k),(3,Cc (.pl 21 0)),(5,Cc (.pl 22 0)),(7,Iv s13),(97,Bv j100)],[(21,.row 26 [ai g]),(22,.row 113 [iP p])])) ?_ (fun j100 _ => ?_)
     ·refine en [(1,Iv k),(3,Cc (.pl 21 0)),(5,Cc (.pl 22 0)),(7,Iv s13),(8,Iv x84)] [(21,.row 26 [ai g]),(22,.row 113 [iP p])] z5 z2 (aA.draw mixed (bJ (Iv x84) y4 (jJ LT.lss aV (bJ (Bv (decide (x84 < 0))) y4 (aU.split (fun xP => ?_) (fun xP => ?_))))))
      ·refine bI xP y3 (bI xP y3 (bI xP y3 (bI xP y3 (bI xP y3 (oJ (Bv true) xP aV (bJ (Bv true) y4 (bH y3 (bH y3 (bH y3 (bH y3 (bH y3 ?_)))))))))))
       refine bH y3 (bH y3 (bH y3 (bH y3 (bH y3 (bH y3 (bH y3 (oJ (Bv true) Q aV (bJ (Bv true) y4 (bH y3 (bH y3 (bH y3 ?_)))))))))))
       refine bH y3 (bH y3 (bH y3 (bH y3 (bH y3 (bH y3 (bH y3 (bH y3 (bH y3 (bH y3 (bH y3 (bH y3 ?_)))))))))))
       refine bH y3 (bH y3 (bH y3 (bH y3 (bH y3 (bH y3 (bH y3 (bH y3 (bH y3 (bH y3 (bH y3 (oJ (Bv true) Q aV ?_)))))))))))
       refine fA (aX Q z5 z2)
      ·refine nV (Iv x84) xP y5 (oC (xF aK g.aC) gK iK xP iM (bg (LT.iI Q iU) Q (gH xP Q Q) Q (oZ LT.geq xP y6 (o7 (Bv (decide ((g.aC.length:Int) ≤ x84))) xP y5 (bJ (Bv (decide ((g.aC.length:Int) ≤ x84))) y4 (aU.split (fun wM => ?_) (fun wM => ?_)))))))
       ·refine bI wM y3 (bI wM y3 (bI wM y3 (bH y3 (bH y3 (bH y3 (bH y3 (bH y3 (bH y3 (bH y3 (bH y3 (bI wM y3 ?_)))))))))))
        refine oJ (Bv true) wM aV (bJ (Bv true) y4 (bH y3 (bH y3 (bH y3 (bH y3 (bH y3 (bH y3 (bH y3 (bH y3 (bH y3 (bH y3 ?_)))))))))))
        refine bH y3 (bH y3 (bH y3 (bH y3 (bH y3 (bH y3 (bH y3 (bH y3 (bH y3 (bH y3 (bH y3 (bH y3 ?_)))))))))))
        refine bH y3 (bH y3 (bH y3 (bH y3 (oJ (Bv true) Q aV (fA (aX Q z5 z2))))))
       ·refine nV (Iv s13) wM y5 (oZ LT.gtr wM kD (nV (Bv (decide (0 < s13))) wM y5 (aU.split (fun sH => ?_) (fun sH => ?_))))
        ·refine oC (xF aF p.aN) qX fF sH iM (nV (Iv s13) sH y5 (oZ LT.sub sH kD (aU.bind fun x104 hx104 => (dZ (LT.eF (enc:=aF) Q dU hx104 gI) Q Q (gH sH Q Q) Q (bg (LT.iw Q ak) Q (gH sH Q Q) Q (nV (Iv x84) sH y5 (oZ LT.geq sH y6 (dZ (LT.qR (v:=(Bv (decide (x84 ≤ x104)))) Q sH) Q Q (gH wM Q Q) Q (o7 (Bv (decide (x84 ≤ x104))) wM y5 (bJ (Bv (decide (x84 ≤ x104))) y4 ?_))))))))))
         refine aU.split (fun mg => ?_) (fun mg => ?_)
         ·refine bI mg y3 (bI mg y3 (bI mg y3 (bI mg y3 (bI mg y3 (bI mg y3 (bI mg y3 (bI mg y3 (bI mg y3 (bI mg y3 (bI mg y3 (bI mg y3 ?_)))))))))))
          refine bI mg y3 (bH y3 (bH y3 (bH y3 (bH y3 (bH y3 (bH y3 (bH y3 (bH y3 (bH y3 (bH y3 (bH y3 ?_)))))))))))
          refine bH y3 (bI mg y3 (oJ (Bv true) mg aV (fA (aX Q z5 z2))))
         ·refine oC (xF aF p.aT) sF fF mg iM (nV (Iv s13) mg y5 (aU.bind fun Yt aI2 => (dZ (LT.eF (enc:=aF) Q dU aI2 gI) Q Q (gH mg Q Q) Q (bg (LT.iw Q ak) Q (gH mg Q Q) Q (oC (xF aK g.aC) gK iK mg iM (nV (Iv x84) mg y5 (aU.bind fun x107 aI3 => (dZ (LT.eF (enc:=aK) Q nU aI3 fB) Q Q (gH mg Q Q) Q (bg (LT.zN Q lM) Q (gH mg Q Q) Q ?_)))))))))
          refine bg (LT.iw Q ak) Q (gH mg Q Q) Q (oZ LT.neq mg y6 (nV (Bv (Yt != x107.A)) mg y5 (aU.split (fun oh => ?_) (fun oh => ?_))))
          ·refine oC (xF aF p.aT) sF fF oh iM (nV (Iv s13) oh y5 (aU.bind fun Ue aI4 => (dZ (LT.eF (enc:=aF) Q dU aI4 gI) Q Q (gH oh Q Q) Q (bg (LT.iw Q ak) Q (gH oh Q Q) Q (oC (xF aK g.aC) gK iK oh iM (nV (Iv x84) oh y5 (aU.bind fun Uf aI5 => (dZ (LT.eF (enc:=aK) Q nU aI5 fB) Q Q (gH oh Q Q) Q (bg (LT.zN Q mZ) Q (gH oh Q Q) Q ?_)))))))))
           refine bg (LT.iw Q ak) Q (gH oh Q Q) Q (oZ LT.neq oh y6 (dZ (LT.qR (v:=(Bv (Ue != Uf.B))) Q oh) Q Q (gH mg Q Q) Q (o7 (Bv (Ue != Uf.B)) mg y5 (fA (aX Q z5 z2)))))
          ·refine bI oh y3 (bI oh y3 (bI oh y3 (bI oh y3 (bI oh y3 (bI oh y3 (bI oh y3 (bI oh y3 (bI oh y3 (bI oh y3 (bI oh y3 (bI oh y3 ?_)))))))))))
           refine dZ (LT.rC (v:=(Bv false)) Q oh) Q y2 (gH mg Q Q) Q (o7 (Bv false) mg y5 (fA (aX Q z5 z2)))
        ·refine bI sH y3 (bI sH y3 (bI sH y3 (bI sH y3 (bI sH y3 (bI sH y3 (bI sH y3 (bI sH y3 (dZ (LT.rC (v:=(Bv false)) Q sH) Q y2 (gH wM Q Q) Q (o7 (Bv false) wM y5 (bJ (Bv false) y4 (bg (LT.gU Q sF) Q (gS Q Q) Q ?_)))))))))))
         refine gq (yc (xF aF p.aT) Q fF) Q Q (gS Q Q) Q (bg (LT.move (v:=(Iv s13)) Q) Q (gS Q Q) Q (aU.bind fun Yu aI6 => (dZ (LT.eF (enc:=aF) Q dU aI6 gI) Q Q (gS Q Q) Q (bg (LT.iw Q ak) Q (gS Q Q) Q (bg (LT.gU Q gK) Q (gS Q Q) Q (gq (yc (xF aK g.aC) Q iK) Q Q (gS Q Q) Q (bg (LT.move (v:=(Iv x84)) Q) Q (gS Q Q) Q (aU.bind fun x112 hx112 => (dZ (LT.eF (enc:=aK) Q nU hx112 fB) Q Q (gS Q Q) Q (bg (LT.zN Q lM) Q (gS Q Q) Q (bg (LT.iw Q ak) Q (gS Q Q) Q ?_)))))))))))
         refine dZ (LT.neq Q) Q Q (gS Q Q) Q (bg (LT.move (v:=(Bv (Yu != x112.A))) Q) Q (gS Q Q) Q (aU.split (fun oq => ?_) (fun oq => ?_)))
         ·refine oC (xF aF p.aT) sF fF oq iM (nV (Iv s13) oq y5 (aU.bind fun x114 hx114 => (dZ (LT.eF (enc:=aF) Q dU hx114 gI) Q Q (gH oq Q Q) Q (bg (LT.iw Q ak) Q (gH oq Q Q) Q (oC (xF aK g.aC) gK iK oq iM (nV (Iv x84) oq y5 (aU.bind fun x115 hx115 => (dZ (LT.eF (enc:=aK) Q nU hx115 fB) Q Q (gH oq Q Q) Q (bg (LT.zN Q mZ) Q (gH oq Q Q) Q ?_)))))))))
          refine bg (LT.iw Q ak) Q (gH oq Q Q) Q (oZ LT.neq oq y6 (dZ (LT.qR (v:=(Bv (x114 != x115.B))) Q oq) Q Q (gS Q Q) Q (o7 (Bv (x114 != x115.B)) Q y5 (fA (aX Q z5 z2)))))
         ·refine bI oq y3 (bI oq y3 (bI oq y3 (bI oq y3 (bI oq y3 (bI oq y3 (bI oq y3 (bI oq y3 (bI oq y3 (bI oq y3 (bI oq y3 (bI oq y3 ?_)))))))))))
          refine dZ (LT.rC (v:=(Bv false)) Q oq) Q y2 (gS Q Q) Q (o7 (Bv false) Q y5 (fA (aX Q z5 z2)))
     ·refine aA.cond Q (fun Vs => ?_) (fun Vs => ?_)
      ·refine Ws (Wr ?_)
       refine aI (Bv false) aZ (On (aA.ret ⟨Q,pX z1 J ⟨ah.sc,J⟩ J⟩))
      ·refine aA.skip (aA.blk (Wr ?_))
       refine aG (Iv s13) y4 (af LT.add aV (aI (Iv (aB (s13 + 1))) y4 (On (aX Q z4 z2))))
    ·refine fV y2 z3 z2
   ·refine Ws (Ws (Wr ?_))
    refine aI (Iv 0) aZ (On (aA.block ?_))
    refine aA.oz (id:=2) (JU g k p) (fun jS => ([(1,Iv k),(3,Cc (.pl 21 0)),(5,Cc (.pl 22 0)),(9,Iv jS)],[(21,.row 26 [ai g]),(22,.row 113 [iP p])])) (fun ZI => ([],[])) (lU Tryz.prog Tryz.f203.results.toList [] [] (fun (t:Bool) => [.c (bC t)]) (fun (t:Bool) => [])) ?_ (aQ.of z4 z2) Q (fun ZI _ => ?_) qC
    ·intro jS
     unfold JU
     refine Ws (Ws (Wr ?_))
     refine aG (Iv jS) y4 (dK (iC g.aH) kV ak ax (af LT.lss y5 (On (aA.cond Q (fun Vw => ?_) (fun Vw => ?_)))))
     ·refine aA.skip (Ws (aA.block (Ws ?_)))
      refine aA.eP (fun BN => ([(1,Iv k),(3,Cc (.pl 21 0)),(5,Cc (.pl 22 0)),(9,Iv jS),(122,Bv BN)],[(21,.row 26 [ai g]),(22,.row 113 [iP p])])) ?_ (fun BN _ => ?_)
      ·refine aA.draw mixed (eH (xF aF p.Free) oN fF ax (bJ (Iv jS) y4 (aU.bind fun LK RP => (dZ (LT.eF (enc:=aF) Q dU RP gI) Q Q Q Q (bg (LT.iw Q ak) Q Q Q (jJ LT.lss aV (bJ (Bv (decide (LK < 0))) y4 (aU.split (fun pI => ?_) (fun pI => ?_)))))))))
       ·refine bI pI y3 (bI pI y3 (bI pI y3 (bI pI y3 (bI pI y3 (bI pI y3 (bI pI y3 (bI pI y3 (bI pI y3 (bI pI y3 (bI pI y3 (oJ (Bv true) pI aV ?_)))))))))))
        refine fA (aX Q z5 z2)
       ·refine oC (xF aF p.Free) oN fF pI iM (nV (Iv jS) pI y5 (aU.bind fun LM RQ => (dZ (LT.eF (enc:=aF) Q dU RQ gI) Q Q (gH pI Q Q) Q (bg (LT.iw Q ak) Q (gH pI Q Q) Q (gq (bV (iP p) Q kL gQ fK) Q Q (gH pI Q Q) Q (nV (Iv jS) pI y5 (aU.bind fun qE WM => (aU.pure (cZ [.agg (iP p),.c (iC jS)] (aM0 p jS qE WM) aFr (YO y4) J y3) z3 J (gH pI Q Q) Q (oZ LT.add pI y6 (nV (Iv k) pI y5 ?_))))))))))
        refine oZ LT.neq pI y6 (o7 (Bv ((aB (LM + qE)) != k)) pI y5 (fA (aX Q z5 z2)))
      ·refine aA.cond Q (fun hc151 => ?_) (fun hc151 => ?_)
       ·refine Ws (Wr ?_)
        refine aI (Bv false) aZ (On (aA.ret ⟨Q,pX z1 J ⟨ah.sc,J⟩ J⟩))
       ·refine aA.skip (aA.blk (Wr ?_))
        refine aG (Iv jS) y4 (af LT.add aV (aI (Iv (aB (jS + 1))) y4 (On (aX Q z4 z2))))
     ·refine fV y2 J J
    ·refine Ws (Wr ?_)
     refine aI (Bv true) aZ (On (bP z1 J ⟨ah.sc,J⟩ J))
theorem Uc (p:bT):FT Tryz.prog (Ba p) 201 [.agg (iP p)] [] (fun (t:bT) => [.agg [lo 0 t.Free.length,lo 1 t.aT.length,lo 2 t.aN.length]]) (fun (t:bT) => [(0,pR 3 aF t.Free),(1,pR 3 aF t.aT),(2,pR 3 aF t.aN)]) [0,1,2]:=by
 refine FT.of [] Tryz.func201 Tryz.ntmps201 Q y2 ?_
 intro w0 U0 R0 g0
 unfold Ba
 refine Ws (Wr ?_)
 refine iL 21 (.agg (iP p)) fK y5 (eG 22 [sC aJ,sC aJ,sC aJ] nO y6 (On (Ws (aA.draw mixed ?_))))
 refine xI (iO 23 aF [] [] dS iH y7) Q Q (eH (xF aF p.Free) oN fF ax (aU.bind fun u1 hu1 => (kJ (LT.AO (enc:=aF) Q  Q dS iH Q (by decide) (by decide) (fun _ => Q) (jo hu1)) Q Q Q Q Q (xI (iO 24 aF [] [] dS iH y7) Q Q (eH (xF aF p.aT) sF fF ax (aU.bind fun u2 hu2 => (kJ (LT.AO (enc:=aF) Q  Q dS iH Q (by decide) (by decide) (fun _ => Q) (jo hu2)) Q Q Q Q Q (xI (iO 25 aF [] [] dS iH y7) Q Q (bg (LT.gU Q qX) Q Q Q ?_)))))))))
 refine gq (yc (xF aF p.aN) Q fF) Q Q Q Q (aU.bind fun u3 hu3 => (kJ (LT.AO (enc:=aF) Q  Q dS iH Q (by decide) (by decide) (fun _ => Q) (jo hu3)) Q Q Q Q Q (Y1 (LT.build [(0,.tmp 6,.c (lo 23 ((([]:List Int) ++ p.Free).length))),(1,.tmp 10,.c (lo 24 ((([]:List Int) ++ p.aT).length))),(2,.tmp 14,.c (lo 25 ((([]:List Int) ++ p.aN).length)))] Q Q GH nO Q Q Q) Q Q Q Q Q (kJ (stA [lo 23 ((([]:List Int) ++ p.Free).length),lo 24 ((([]:List Int) ++ p.aT).length),lo 25 ((([]:List Int) ++ p.aN).length)] Q Q gQ fK) Q Q Q Q Q (fA (en [(2,Cc (.pl 22 0))] [(22,.row 113 [[lo 23 ((([]:List Int) ++ p.Free).length),lo 24 ((([]:List Int) ++ p.aT).length),lo 25 ((([]:List Int) ++ p.aN).length)]]),(23,pR 3 aF (([]:List Int) ++ p.Free)),(24,pR 3 aF (([]:List Int) ++ p.aT)),(25,pR 3 aF (([]:List Int) ++ p.aN))] z1 z4 (aA.ent (aQ.mv 23 0 Q Q) (aA.ent (aQ.mv 24 1 Q Q) (aA.ent (aQ.mv 25 2 Q Q) (en [(2,Cc (.pl 22 0))] [(0,pR 3 aF (([]:List Int) ++ p.Free)),(1,pR 3 aF (([]:List Int) ++ p.aT)),(2,pR 3 aF (([]:List Int) ++ p.aN)),(22,.row 113 [[lo 0 ((([]:List Int) ++ p.Free).length),lo 1 ((([]:List Int) ++ p.aT).length),lo 2 ((([]:List Int) ++ p.aN).length)]])] z1 z4 (bP ⟨⟨_,_,_,Q,Q,Q,kL,fK,_,gm gQ⟩,J⟩ z3 ⟨⟨J,J,J,J⟩,J⟩ ⟨bD.bf dw,bD.bf dw,bD.bf dw,J⟩)))))))))))
theorem aMz (g:aj) (p:bT) (fromV:(List Int)) (a:Int) (u:Int):FT Tryz.prog (O4 g p fromV a u) 215 [.agg (ai g),.agg (iP p),.c (xF aF fromV),.c (iC a),.c (iC u)] [] (fun (t:bT) => [.agg [lo 0 t.Free.length,lo 1 t.aT.length,lo 2 t.aN.length]]) (fun (t:bT) => [(0,pR 3 aF t.Free),(1,pR 3 aF t.aT),(2,pR 3 aF t.aN)]) [0,1,2]:=by
 refine FT.of [] Tryz.func215 Tryz.ntmps215 Q y2 ?_
 intro w0 U0 R0 g0
 unfold O4
 refine Ws (Wr ?_)
 refine iL 21 (.agg (ai g)) bU y5 (iL 22 (.agg (iP p)) fK y5 (eG 23 [sC aJ,sC aJ,sC aJ] nO y6 (On (Ws (Wr ?_)))))
 refine bM (bV (iP p) Q kL gQ fK) Q Q Q Q (aP fun r1 hr1 => (aO.step (cZ [.agg (iP p)] (Fw.Fn.ren [(0,25),(1,26),(2,27)] (Uc p r1 hr1) Q) QX (oL y3) J y3) z2 J Q Q (eG 28 [sC aJ,sC aJ,sC aJ] nO y6 (bQ (stA [lo 25 r1.Free.length,lo 26 r1.aT.length,lo 27 r1.aN.length] Q Q gQ fK) Q Q Q Q Q (On (Ws ?_))))))
 refine en [(2,Cc (xF aF fromV)),(3,Iv a),(4,Iv u),(5,Cc (.pl 21 0)),(6,Cc (.pl 22 0)),(10,Cc (.pl 23 0)),(11,Cc (.pl 28 0))] [(21,.row 26 [ai g]),(22,.row 113 [iP p]),(23,.row 113 [[sC aJ,sC aJ,sC aJ]]),(25,pR 3 aF r1.Free),(26,pR 3 aF r1.aT),(27,pR 3 aF r1.aN),(28,.row 113 [[lo 25 r1.Free.length,lo 26 r1.aT.length,lo 27 r1.aN.length]])] z7 z7 (aA.draw mixed (eH (lo 25 r1.Free.length) oN fF ax (bJ (Iv u) y4 (eH (lo 25 r1.Free.length) oN fF ax (bJ (Iv u) y4 (aU.bind fun x2 hx2 => (jV (LT.fP Q Q dU hx2) Q Q Q Q Q (gq (kC 0 Q ak hx2) Q Q Q Q (jJ LT.sub aV ?_)))))))))
 refine aU.bind fun x3 hx3 => (jV (LT.fP Q Q dU hx3) Q Q Q Q Q (kJ (lq 0 (.c (iC (aB (x2 - 1)))) (aB (x2 - 1)) Q Q mJ gI hx3) Q Q Q Q Q (fA (Ws (en [(2,Cc (xF aF fromV)),(3,Iv a),(4,Iv u),(5,Cc (.pl 21 0)),(6,Cc (.pl 22 0)),(10,Cc (.pl 23 0)),(11,Cc (.pl 28 0))] [(21,.row 26 [ai g]),(22,.row 113 [iP p]),(23,.row 113 [[sC aJ,sC aJ,sC aJ]]),(25,pR 3 aF (r1.Free.set u.toNat (aB (x2 - 1)))),(26,pR 3 aF r1.aT),(27,pR 3 aF r1.aN),(28,.row 113 [[lo 25 r1.Free.length,lo 26 r1.aT.length,lo 27 r1.aN.length]])] z7 z7 (aA.draw mixed (eH (lo 25 r1.Free.length) oN fF ax (bJ (Iv a) y4 (eH (lo 25 r1.Free.length) oN fF ax ?_)))))))))
 refine bJ (Iv a) y4 (aU.bind fun x4 hx4 => (jV (LT.fP (show r1.Free.length = (r1.Free.set u.toNat (aB (x2 - 1))).length by simp only [List.length_set]) Q dU hx4) Q Q Q Q Q (gq (kC 0 Q ak hx4) Q Q Q Q (jJ LT.add aV (aU.bind fun x5 hx5 => (jV (LT.fP (show r1.Free.length = (r1.Free.set u.toNat (aB (x2 - 1))).length by simp only [List.length_set]) Q dU hx5) Q Q Q Q Q (kJ (lq 0 (.c (iC (aB (x4 + 1)))) (aB (x4 + 1)) Q Q mJ gI hx5) Q Q Q Q Q (fA (Ws (en [(2,Cc (xF aF fromV)),(3,Iv a),(4,Iv u),(5,Cc (.pl 21 0)),(6,Cc (.pl 22 0)),(10,Cc (.pl 23 0)),(11,Cc (.pl 28 0))] [(21,.row 26 [ai g]),(22,.row 113 [iP p]),(23,.row 113 [[sC aJ,sC aJ,sC aJ]]),(25,pR 3 aF ((r1.Free.set u.toNat (aB (x2 - 1))).set a.toNat (aB (x4 + 1)))),(26,pR 3 aF r1.aT),(27,pR 3 aF r1.aN),(28,.row 113 [[lo 25 r1.Free.length,lo 26 r1.aT.length,lo 27 r1.aN.length]])] z7 z7 (Wr ?_)))))))))))
 refine aG (Iv u) y4 (aI (Iv u) y4 (On (Ws (aA.block ?_))))
 refine aA.jI (id:=0) (Fj g p fromV a u r1 x2 x4) (fun s6 => ([(2,Cc (xF aF fromV)),(3,Iv a),(5,Cc (.pl 21 0)),(6,Cc (.pl 22 0)),(10,Cc (.pl 23 0)),(11,Cc (.pl 28 0)),(12,Iv s6.1)],[(21,.row 26 [ai g]),(22,.row 113 [iP p]),(23,.row 113 [[sC aJ,sC aJ,sC aJ]]),(25,pR 3 aF ((r1.Free.set u.toNat (aB (x2 - 1))).set a.toNat (aB (x4 + 1)))),(26,pR 3 aF s6.2),(27,pR 3 aF r1.aN),(28,.row 113 [[lo 25 (((r1.Free.set u.toNat (aB (x2 - 1))).set a.toNat (aB (x4 + 1))).length),lo 26 s6.2.length,lo 27 r1.aN.length]])])) (fun b19 => ([(10,Cc (.pl 23 0)),(11,Cc (.pl 28 0))],[(23,.row 113 [[sC aJ,sC aJ,sC aJ]]),(25,pR 3 aF b19.1),(26,pR 3 aF b19.2.1),(27,pR 3 aF b19.2.2),(28,.row 113 [[lo 25 b19.1.length,lo 26 b19.2.1.length,lo 27 b19.2.2.length]])])) ?_ (aQ.of z7 ⟨Q,Q,Q,Q,Q,Q,congrArg (fun l1 => (some (Ob.row 113 [[lo 25 l1,lo 26 r1.aT.length,lo 27 r1.aN.length]]):Option Ob)) (show r1.Free.length = ((r1.Free.set u.toNat (aB (x2 - 1))).set a.toNat (aB (x4 + 1))).length by simp only [List.length_set]),J⟩) Q (fun b19 _ => ?_)
 ·intro s6
  unfold Fj
  refine Ws (Ws (Wr ?_))
  refine aG (Iv s6.1) y4 (aG (Iv a) y4 (af LT.neq y5 (On (aA.cond Q (fun A7 => ?_) (fun A7 => ?_)))))
  ·refine aA.skip (aA.block (Ws (Wr ?_)))
   refine aG (Cc (xF aF fromV)) y4 (aG (Iv s6.1) y4 (aP fun x21 BJ => (dY (LT.eF (enc:=aF) Q dU BJ gI) Q Q Q Q (aY (LT.iw Q ak) Q Q Q (aI (Iv x21) y4 (On (Ws (aA.draw mixed ?_))))))))
   refine eH (xF aK g.aC) gK iK ax (eH (xF aF p.aN) qX fF ax (bJ (Iv x21) y4 (aU.bind fun rG DN => (dZ (LT.eF (enc:=aF) Q dU DN gI) Q Q Q Q (bg (LT.iw Q ak) Q Q Q (aU.bind fun x23 XG => (dZ (LT.eF (enc:=aK) Q nU XG fB) Q Q Q Q (bg (lH Q kz jL fB) Q Q Q (bJ (Iv s6.1) y4 ?_)))))))))
   refine aU.bind fun fH Ew => (aU.pure (cZ [.agg [iC x23.A,iC x23.B],.c (iC s6.1)] (aEb x23 s6.1 fH Ew) Zx (D9 y3) J y3) z3 J Q Q (bg (LT.assign (v:=(Iv fH)) Q) Q Q Q (fA (Ws (en [(2,Cc (xF aF fromV)),(3,Iv a),(5,Cc (.pl 21 0)),(6,Cc (.pl 22 0)),(10,Cc (.pl 23 0)),(11,Cc (.pl 28 0)),(12,Iv s6.1),(13,Iv x21),(14,Iv fH)] [(21,.row 26 [ai g]),(22,.row 113 [iP p]),(23,.row 113 [[sC aJ,sC aJ,sC aJ]]),(25,pR 3 aF ((r1.Free.set u.toNat (aB (x2 - 1))).set a.toNat (aB (x4 + 1)))),(26,pR 3 aF s6.2),(27,pR 3 aF r1.aN),(28,.row 113 [[lo 25 (((r1.Free.set u.toNat (aB (x2 - 1))).set a.toNat (aB (x4 + 1))).length),lo 26 s6.2.length,lo 27 r1.aN.length]])] z9 z7 (Wr (dK (lo 26 s6.2.length) sF fF ax (aG (Iv x21) y4 (aG (Iv s6.1) y4 (aP fun x25 hx25 => ?_))))))))))
   refine iq (LT.fP Q Q dU hx25) Q Q Q Q Q (bQ (lq 0 (.c (iC s6.1)) s6.1 Q Q mJ gI hx25) Q Q Q Q Q (On (Wr ?_)))
   refine aG (Iv fH) y4 (aI (Iv fH) y4 (On (aA.blk ?_)))
   refine aA.nil ⟨Q,aQ.of z7 ⟨Q,Q,Q,Q,Q,Q,congrArg (fun l1 => (some (Ob.row 113 [[lo 25 (((r1.Free.set u.toNat (aB (x2 - 1))).set a.toNat (aB (x4 + 1))).length),lo 26 l1,lo 27 r1.aN.length]]):Option Ob)) (show s6.2.length = (s6.2.set x21.toNat s6.1).length by simp only [List.length_set]),J⟩⟩
  ·refine fV y2 z2 z5
 ·refine Ws (Wr ?_)
  refine bM (bV [lo 25 b19.1.length,lo 26 b19.2.1.length,lo 27 b19.2.2.length] Q kL gQ fK) Q Q Q Q (bQ (stA [lo 25 b19.1.length,lo 26 b19.2.1.length,lo 27 b19.2.2.length] Q Q gQ fK) Q Q Q Q Q (On (en [(10,Cc (.pl 23 0))] [(23,.row 113 [[lo 25 b19.1.length,lo 26 b19.2.1.length,lo 27 b19.2.2.length]]),(25,pR 3 aF b19.1),(26,pR 3 aF b19.2.1),(27,pR 3 aF b19.2.2)] z1 z4 (aA.ent (aQ.mv 25 0 Q Q) (aA.ent (aQ.mv 26 1 Q Q) (aA.ent (aQ.mv 27 2 Q Q) (en [(10,Cc (.pl 23 0))] [(0,pR 3 aF b19.1),(1,pR 3 aF b19.2.1),(2,pR 3 aF b19.2.2),(23,.row 113 [[lo 0 b19.1.length,lo 1 b19.2.1.length,lo 2 b19.2.2.length]])] z1 z4 (bP ⟨⟨_,_,_,Q,Q,Q,kL,fK,_,gm gQ⟩,J⟩ z3 ⟨⟨J,J,J,J⟩,J⟩ ⟨bD.bf dw,bD.bf dw,bD.bf dw,J⟩))))))))
theorem Ud (g:aj) (p:bT) (a:Int) (b:Int):FT Tryz.prog (Dq g p a b) 202 [.agg (ai g),.agg (iP p),.c (iC a),.c (iC b)] [] (fun (t:(bT × Bool)) => [.agg [(bif t.2 then (.loc 0 0 t.1.Free.length) else .junk),(bif t.2 then (.loc 1 0 t.1.aT.length) else .junk),(bif t.2 then (.loc 2 0 t.1.aN.length) else .junk)],.c (bC t.2)]) (fun (t:(bT × Bool)) => [(0,.dF 3 ((bif t.2 then t.1.Free else []).map aF)),(1,.dF 3 ((bif t.2 then t.1.aT else []).map aF)),(2,.dF 3 ((bif t.2 then t.1.aN else []).map aF))]) [0,1,2]:=by
 refine FT.of [] Tryz.func202 Tryz.ntmps202 Q y2 ?_
 intro w0 U0 R0 g0
 unfold Dq
 refine Ws (Wr ?_)
 refine iL 21 (.agg (ai g)) bU y5 (iL 22 (.agg (iP p)) fK y5 (eG 23 [sC aJ,sC aJ,sC aJ] nO y6 (aI (Bv false) aZ (On (Ws (Wr ?_))))))
 refine dK (iC g.aH) kV ak ax (aP fun u1 hu1 => (zD (LT.CP (n:=24) (enc:=aF) (zc:=[iC 0]) (0:Int) Q dS iH Q Q Q (by decide) (by decide) (zY hu1) Q) Q Q Q Q (aI (Cc (lo 24 ((List.replicate g.aH.toNat (0:Int)).length))) y4 (On (Ws (Ws ?_))))))
 refine en [(2,Iv a),(3,Iv b),(4,Cc (.pl 21 0)),(5,Cc (.pl 22 0)),(8,Cc (.pl 23 0)),(10,Cc (lo 24 ((List.replicate g.aH.toNat (0:Int)).length)))] [(21,.row 26 [ai g]),(22,.row 113 [iP p]),(23,.row 113 [[sC aJ,sC aJ,sC aJ]]),(24,pR 3 aF (List.replicate g.aH.toNat (0:Int)))] z6 z4 (Wr (aI (Iv 0) aZ (On (aA.block ?_))))
 refine aA.jI (id:=0) (Jt g) (fun s2 => ([(2,Iv a),(3,Iv b),(4,Cc (.pl 21 0)),(5,Cc (.pl 22 0)),(8,Cc (.pl 23 0)),(10,Cc (lo 24 s2.2.length)),(11,Iv s2.1)],[(21,.row 26 [ai g]),(22,.row 113 [iP p]),(23,.row 113 [[sC aJ,sC aJ,sC aJ]]),(24,pR 3 aF s2.2)])) (fun b7 => ([(2,Iv a),(3,Iv b),(4,Cc (.pl 21 0)),(5,Cc (.pl 22 0)),(8,Cc (.pl 23 0)),(10,Cc (lo 24 b7.length))],[(21,.row 26 [ai g]),(22,.row 113 [iP p]),(23,.row 113 [[sC aJ,sC aJ,sC aJ]]),(24,pR 3 aF b7)])) ?_ (aQ.of z7 z4) Q (fun b7 _ => ?_)
 ·intro s2
  unfold Jt
  refine Ws (Ws (Wr ?_))
  refine aG (Iv s2.1) y4 (dK (iC g.aH) kV ak ax (af LT.lss y5 (On (aA.cond Q (fun hc8 => ?_) (fun hc8 => ?_)))))
  ·refine aA.skip (Ws (aA.block (Wr ?_)))
   refine aG (Cc (lo 24 s2.2.length)) y4 (aG (Iv s2.1) y4 (aP fun x9 Nl => (iq (LT.fP Q Q dU Nl) Q Q Q Q Q (bQ (lq 0 (.c (iC (-1))) (-1) Q Q mJ gI Nl) Q y2 Q Q Q (On (aA.blk (Wr ?_)))))))
   refine aG (Iv s2.1) y4 (af LT.add aV (aI (Iv (aB (s2.1 + 1))) y4 (On (aA.nil ⟨Q,aQ.of ⟨Q,Q,Q,Q,Q,congrArg (fun l1 => (some (AV.s (.c (lo 24 l1))):Option AV)) (show s2.2.length = (s2.2.set s2.1.toNat (-1)).length by simp only [List.length_set]),Q,J⟩ z4⟩))))
  ·refine fV y2 z6 z4
 ·refine Ws (Wr ?_)
  refine aG (Iv a) y4 (nP (iO 25 aF [(0,.tmp 30,.c (iC a))] ([a]:List Int) dS iH y7) Q Q Q (aI (Cc (lo 25 (([a]:List Int).length))) y4 (On (Ws (Wr ?_)))))
  refine dK (iC g.aH) kV ak ax (aP fun u10 Wq => (zD (LT.CP (n:=26) (enc:=zM) (zc:=[bC false]) false Q aL6 ti4 Q Q Q (by decide) (by decide) (zY Wq) Q) Q Q Q Q (aI (Cc (lo 26 ((List.replicate g.aH.toNat false).length))) y4 (On (Ws ?_)))))
  refine en [(2,Iv a),(3,Iv b),(4,Cc (.pl 21 0)),(5,Cc (.pl 22 0)),(8,Cc (.pl 23 0)),(10,Cc (lo 24 b7.length)),(12,Cc (lo 25 (([a]:List Int).length))),(13,Cc (lo 26 ((List.replicate g.aH.toNat false).length)))] [(21,.row 26 [ai g]),(22,.row 113 [iP p]),(23,.row 113 [[sC aJ,sC aJ,sC aJ]]),(24,pR 3 aF b7),(25,pR 3 aF ([a]:List Int)),(26,pR 4 zM (List.replicate g.aH.toNat false))] z8 z6 (Wr (aG (Cc (lo 26 ((List.replicate g.aH.toNat false).length))) y4 (aG (Iv a) y4 (aP fun x11 NY => (iq (LT.fP Q Q VK NY) Q Q Q Q Q (bQ (lq 0 (.c (bC true)) true Q Q aBh sz4 NY) Q y2 Q Q Q (On (Ws (Ws (Wr ?_))))))))))
  refine aI (Iv 0) aZ (On (aA.block ?_))
  refine aA.oz (id:=2) (Fe g p a b) (fun s12 => ([(2,Iv a),(3,Iv b),(4,Cc (.pl 21 0)),(5,Cc (.pl 22 0)),(8,Cc (.pl 23 0)),(10,Cc (lo 24 s12.2.1.length)),(12,Cc (lo 25 s12.2.2.1.length)),(13,Cc (lo 26 s12.2.2.2.length)),(14,Iv s12.1)],[(21,.row 26 [ai g]),(22,.row 113 [iP p]),(23,.row 113 [[sC aJ,sC aJ,sC aJ]]),(24,pR 3 aF s12.2.1),(25,pR 3 aF s12.2.2.1),(26,pR 4 zM s12.2.2.2)])) (fun sW => ([(5,Cc (.pl 22 0)),(8,Cc (.pl 23 0))],[(22,.row 113 [iP p]),(23,.row 113 [[sC aJ,sC aJ,sC aJ]])])) (lU Tryz.prog Tryz.f202.results.toList [] [0,1,2] (fun (t:(bT × Bool)) => [.agg [(bif t.2 then (.loc 0 0 t.1.Free.length) else .junk),(bif t.2 then (.loc 1 0 t.1.aT.length) else .junk),(bif t.2 then (.loc 2 0 t.1.aN.length) else .junk)],.c (bC t.2)]) (fun (t:(bT × Bool)) => [(0,.dF 3 ((bif t.2 then t.1.Free else []).map aF)),(1,.dF 3 ((bif t.2 then t.1.aT else []).map aF)),(2,.dF 3 ((bif t.2 then t.1.aN else []).map aF))])) ?_ (aQ.of ⟨Q,Q,Q,Q,Q,Q,Q,congrArg (fun l1 => (some (AV.s (.c (lo 26 l1))):Option AV)) (show (List.replicate g.aH.toNat false).length = ((List.replicate g.aH.toNat false).set a.toNat true).length by simp only [List.length_set]),Q,J⟩ z6) Q (fun sW _ => ?_) qC
  ·intro s12
   unfold Fe
   refine Ws (Ws (Wr ?_))
   refine aG (Iv s12.1) y4 (aG (Cc (lo 25 s12.2.2.1.length)) y4 (aY (LT.lG Q dS) Q Q Q (af LT.lss y5 (On (aA.cond Q (fun WA => ?_) (fun WA => ?_))))))
   ·refine aA.skip (Ws (aA.block (Ws (Wr ?_))))
    refine aG (Cc (lo 25 s12.2.2.1.length)) y4 (aG (Iv s12.1) y4 (aP fun x95 hx95 => (iq (LT.fP Q Q dU hx95) Q Q Q Q Q (bM (kC 0 Q ak hx95) Q Q Q Q (aI (Iv x95) y4 (On (Ws (Wr ?_))))))))
    refine aI (Iv 0) aZ (On (aA.block ?_))
    refine aA.oz (id:=4) (Bc g p a b s12 x95) (fun dX => ([(2,Iv a),(3,Iv b),(4,Cc (.pl 21 0)),(5,Cc (.pl 22 0)),(8,Cc (.pl 23 0)),(10,Cc (lo 24 dX.2.1.length)),(12,Cc (lo 25 dX.2.2.1.length)),(13,Cc (lo 26 dX.2.2.2.length)),(14,Iv s12.1),(15,Iv x95),(16,Iv dX.1)],[(21,.row 26 [ai g]),(22,.row 113 [iP p]),(23,.row 113 [[sC aJ,sC aJ,sC aJ]]),(24,pR 3 aF dX.2.1),(25,pR 3 aF dX.2.2.1),(26,pR 4 zM dX.2.2.2)])) (fun uV => ([(2,Iv a),(3,Iv b),(4,Cc (.pl 21 0)),(5,Cc (.pl 22 0)),(8,Cc (.pl 23 0)),(10,Cc (lo 24 uV.2.1.length)),(12,Cc (lo 25 uV.2.2.1.length)),(13,Cc (lo 26 uV.2.2.2.length)),(14,Iv uV.1)],[(21,.row 26 [ai g]),(22,.row 113 [iP p]),(23,.row 113 [[sC aJ,sC aJ,sC aJ]]),(24,pR 3 aF uV.2.1),(25,pR 3 aF uV.2.2.1),(26,pR 4 zM uV.2.2.2)])) (lU Tryz.prog Tryz.f202.results.toList [] [0,1,2] (fun (t:(bT × Bool)) => [.agg [(bif t.2 then (.loc 0 0 t.1.Free.length) else .junk),(bif t.2 then (.loc 1 0 t.1.aT.length) else .junk),(bif t.2 then (.loc 2 0 t.1.aN.length) else .junk)],.c (bC t.2)]) (fun (t:(bT × Bool)) => [(0,.dF 3 ((bif t.2 then t.1.Free else []).map aF)),(1,.dF 3 ((bif t.2 then t.1.aT else []).map aF)),(2,.dF 3 ((bif t.2 then t.1.aN else []).map aF))])) ?_ (aQ.of z11 z6) Q (fun uV _ => ?_) (by intro r t σ m ht hk; injection ht with ht; subst ht; exact ⟨Q,hk⟩)
    ·intro dX
     unfold Bc
     refine Ws (Ws (Wr ?_))
     refine aG (Iv dX.1) y4 (dK (xF aF p.aN) qX fF ax (aY (LT.iI Q dS) Q Q Q (af LT.lss y5 (On (aA.cond Q (fun Vt => ?_) (fun Vt => ?_))))))
     ·refine aA.skip (Ws (aA.block (Ws (Ws (Wr ?_)))))
      refine dK (xF aF p.aT) sF fF ax (aG (Iv dX.1) y4 (aP fun aEg aI8 => (dY (LT.eF (enc:=aF) Q dU aI8 gI) Q Q Q Q (aY (LT.iw Q ak) Q Q Q (aG (Iv x95) y4 (af LT.neq y5 (On (aA.cond Q (fun aG8 => ?_) (fun aG8 => ?_)))))))))
      ·refine aA.exit Q (en [(2,Iv a),(3,Iv b),(4,Cc (.pl 21 0)),(5,Cc (.pl 22 0)),(8,Cc (.pl 23 0)),(10,Cc (lo 24 dX.2.1.length)),(12,Cc (lo 25 dX.2.2.1.length)),(13,Cc (lo 26 dX.2.2.2.length)),(14,Iv s12.1),(15,Iv x95),(16,Iv dX.1)] [(21,.row 26 [ai g]),(22,.row 113 [iP p]),(23,.row 113 [[sC aJ,sC aJ,sC aJ]]),(24,pR 3 aF dX.2.1),(25,pR 3 aF dX.2.2.1),(26,pR 4 zM dX.2.2.2)] z11 z6 (Wr (aG (Iv dX.1) y4 (af LT.add aV (aI (Iv (aB (dX.1 + 1))) y4 (On (aX Q z11 z6)))))))
      ·refine aA.skip (Ws ?_)
       refine en [(2,Iv a),(3,Iv b),(4,Cc (.pl 21 0)),(5,Cc (.pl 22 0)),(8,Cc (.pl 23 0)),(10,Cc (lo 24 dX.2.1.length)),(12,Cc (lo 25 dX.2.2.1.length)),(13,Cc (lo 26 dX.2.2.2.length)),(14,Iv s12.1),(15,Iv x95),(16,Iv dX.1)] [(21,.row 26 [ai g]),(22,.row 113 [iP p]),(23,.row 113 [[sC aJ,sC aJ,sC aJ]]),(24,pR 3 aF dX.2.1),(25,pR 3 aF dX.2.2.1),(26,pR 4 zM dX.2.2.2)] z11 z6 (aA.draw mixed (eH (xF aK g.aC) gK iK ax (eH (xF aF p.aN) qX fF ax (bJ (Iv dX.1) y4 (aU.bind fun QC Hy => (dZ (LT.eF (enc:=aF) Q dU Hy gI) Q Q Q Q (bg (LT.iw Q ak) Q Q Q (aU.bind fun y9 RN => (dZ (LT.eF (enc:=aK) Q nU RN fB) Q Q Q Q ?_)))))))))
       refine bg (lH Q kz jL fB) Q Q Q (bJ (Iv x95) y4 (aU.bind fun jh aHv => (aU.pure (cZ [.agg [iC y9.A,iC y9.B],.c (iC x95)] (aEb y9 x95 jh aHv) Zx (D9 y3) J y3) z3 J Q Q (bg (LT.assign (v:=(Iv jh)) Q) Q Q Q (fA (Ws (Ws ?_)))))))
       refine en [(2,Iv a),(3,Iv b),(4,Cc (.pl 21 0)),(5,Cc (.pl 22 0)),(8,Cc (.pl 23 0)),(10,Cc (lo 24 dX.2.1.length)),(12,Cc (lo 25 dX.2.2.1.length)),(13,Cc (lo 26 dX.2.2.2.length)),(14,Iv s12.1),(15,Iv x95),(16,Iv dX.1),(17,Iv jh)] [(21,.row 26 [ai g]),(22,.row 113 [iP p]),(23,.row 113 [[sC aJ,sC aJ,sC aJ]]),(24,pR 3 aF dX.2.1),(25,pR 3 aF dX.2.2.1),(26,pR 4 zM dX.2.2.2)] z12 z6 (Wr (aG (Cc (lo 26 dX.2.2.2.length)) y4 (aG (Iv jh) y4 (aP fun aEh aBG => (iq (LT.fP Q Q VK aBG) Q Q Q Q Q (bM (kC 0 Q ag4 aBG) Q Q Q Q (On (aA.cond Q (fun Vw => ?_) (fun Vw => ?_)))))))))
       ·refine aA.exit Q (Wr ?_)
        refine aG (Iv dX.1) y4 (af LT.add aV (aI (Iv (aB (dX.1 + 1))) y4 (On (aX Q z11 z6))))
       ·refine aA.skip (Ws (Wr ?_))
        refine aG (Cc (lo 26 dX.2.2.2.length)) y4 (aG (Iv jh) y4 (aP fun aNC aBH => (iq (LT.fP Q Q VK aBH) Q Q Q Q Q (bQ (lq 0 (.c (bC true)) true Q Q aBh sz4 aBH) Q y2 Q Q Q (On (Ws (Wr ?_)))))))
        refine aG (Cc (lo 24 dX.2.1.length)) y4 (aG (Iv jh) y4 (aG (Iv dX.1) y4 (aP fun aND aBI => (iq (LT.fP Q Q dU aBI) Q Q Q Q Q (bQ (lq 0 (.c (iC dX.1)) dX.1 Q Q mJ gI aBI) Q Q Q Q Q (On (Ws (Ws ?_))))))))
        refine aA.eP (fun BN => ([(2,Iv a),(3,Iv b),(4,Cc (.pl 21 0)),(5,Cc (.pl 22 0)),(8,Cc (.pl 23 0)),(10,Cc (lo 24 ((dX.2.1.set jh.toNat dX.1).length))),(12,Cc (lo 25 dX.2.2.1.length)),(13,Cc (lo 26 ((dX.2.2.2.set jh.toNat true).length))),(14,Iv s12.1),(15,Iv x95),(16,Iv dX.1),(17,Iv jh),(94,Bv BN)],[(21,.row 26 [ai g]),(22,.row 113 [iP p]),(23,.row 113 [[sC aJ,sC aJ,sC aJ]]),(24,pR 3 aF (dX.2.1.set jh.toNat dX.1)),(25,pR 3 aF dX.2.2.1),(26,pR 4 zM (dX.2.2.2.set jh.toNat true))])) ?_ (fun BN _ => ?_)
        ·refine en [(2,Iv a),(3,Iv b),(4,Cc (.pl 21 0)),(5,Cc (.pl 22 0)),(8,Cc (.pl 23 0)),(10,Cc (lo 24 dX.2.1.length)),(12,Cc (lo 25 dX.2.2.1.length)),(13,Cc (lo 26 dX.2.2.2.length)),(14,Iv s12.1),(15,Iv x95),(16,Iv dX.1),(17,Iv jh)] [(21,.row 26 [ai g]),(22,.row 113 [iP p]),(23,.row 113 [[sC aJ,sC aJ,sC aJ]]),(24,pR 3 aF (dX.2.1.set jh.toNat dX.1)),(25,pR 3 aF dX.2.2.1),(26,pR 4 zM (dX.2.2.2.set jh.toNat true))] z12 z6 (Wr (aG (Iv jh) y4 (aG (Iv b) y4 (af LT.neq y5 (aG (Bv (jh != b)) y4 (aO.split (fun vK => ?_) (fun vK => ?_)))))))
         ·refine kE (xF aF p.Free) oN fF vK iM (eu (Iv jh) vK y5 (aP fun lK XD => (dY (LT.eF (enc:=aF) Q dU XD gI) Q Q (gH vK Q Q) Q (aY (LT.iw Q ak) Q (gH vK Q Q) Q (iy LT.gtr vK kD (dJ (Bv (decide (0 < lK))) vK y5 (On (aA.nil ⟨Q,aQ.of ⟨Q,Q,Q,Q,Q,congrArg (fun l1 => (some (AV.s (.c (lo 24 l1))):Option AV)) (show dX.2.1.length = (dX.2.1.set jh.toNat dX.1).length by simp only [List.length_set]),Q,congrArg (fun l1 => (some (AV.s (.c (lo 26 l1))):Option AV)) (show dX.2.2.2.length = (dX.2.2.2.set jh.toNat true).length by simp only [List.length_set]),Q,Q,Q,Q,Q,J⟩ z6⟩))))))))
         ·refine aS vK y5 (aS vK y5 (aS vK y5 (aS vK y5 (aS vK y5 (aS vK y5 (eU (Bv false) vK aV (On (aA.nil ⟨Q,aQ.of ⟨Q,Q,Q,Q,Q,congrArg (fun l1 => (some (AV.s (.c (lo 24 l1))):Option AV)) (show dX.2.1.length = (dX.2.1.set jh.toNat dX.1).length by simp only [List.length_set]),Q,congrArg (fun l1 => (some (AV.s (.c (lo 26 l1))):Option AV)) (show dX.2.2.2.length = (dX.2.2.2.set jh.toNat true).length by simp only [List.length_set]),Q,Q,Q,Q,Q,J⟩ z6⟩))))))))
        ·refine aA.cond Q (fun aHA => ?_) (fun aHA => ?_)
         ·refine Ws (Wr ?_)
          refine bM (bV (ai g) Q eY dA bU) Q Q Q Q (bM (bV (iP p) Q kL gQ fK) Q Q Q Q (aG (Cc (lo 24 ((dX.2.1.set jh.toNat dX.1).length))) y4 (aG (Iv a) y4 (aG (Iv jh) y4 (aP fun qE WM => (aO.step (cF [.agg (ai g),.agg (iP p),.c (lo 24 ((dX.2.1.set jh.toNat dX.1).length)),.c (iC a),.c (iC jh)] [(24,pR 3 aF (dX.2.1.set jh.toNat dX.1))] (Fw.Fn.ren [(0,29),(1,30),(2,31)] (aMz g p (dX.2.1.set jh.toNat dX.1) a jh qE WM) Q) aFq (.cons (.agg (.cons (.same Q) (.cons (.same Q) .nil))) (.cons (.agg (.cons (.same Q) (.cons (.same Q) (.cons (.same Q) .nil)))) (.cons (.c (.fC Q Q)) (.cons (.c (.same Q)) (.cons (.c (.same Q)) .nil))))) J y3) z6 z1 Q Q (bQ (stA [lo 29 qE.Free.length,lo 30 qE.aT.length,lo 31 qE.aN.length] Q Q gQ fK) Q Q Q Q Q (aI (Bv true) aZ (On (en [(8,Cc (.pl 23 0)),(9,Bv true)] [(23,.row 113 [[lo 29 qE.Free.length,lo 30 qE.aT.length,lo 31 qE.aN.length]]),(29,pR 3 aF qE.Free),(30,pR 3 aF qE.aT),(31,pR 3 aF qE.aN)] z2 z4 (aA.ent (aQ.mv 29 0 Q Q) ?_)))))))))))
          refine aA.ent (aQ.mv 30 1 Q Q) (aA.ent (aQ.mv 31 2 Q Q) (en [(8,Cc (.pl 23 0)),(9,Bv true)] [(0,pR 3 aF qE.Free),(1,pR 3 aF qE.aT),(2,pR 3 aF qE.aN),(23,.row 113 [[lo 0 qE.Free.length,lo 1 qE.aT.length,lo 2 qE.aN.length]])] z2 z4 (aA.ret ⟨Q,pX ⟨⟨_,_,_,Q,Q,Q,kL,fK,_,gm gQ⟩,Q,J⟩ z3 ⟨⟨J,J,J,J⟩,ah.sc,J⟩ ⟨bD.bf dw,bD.bf dw,bD.bf dw,J⟩⟩)))
         ·refine aA.skip (Wr ?_)
          refine aG (Cc (lo 25 dX.2.2.1.length)) y4 (aG (Iv jh) y4 (nP (iO 32 aF [(0,.tmp 102,.c (iC jh))] ([jh]:List Int) dS iH y7) Q Q Q (aP fun aLv aIY => (ny (LT.nZ (enc:=aF) Q Q Q dS iH Q (by decide) (by decide) (fun _ => Q) (jo aIY)) Q Q Q Q Q Q (aI (Cc (lo 25 ((dX.2.2.1 ++ ([jh]:List Int)).length))) y4 (On (aA.blk (Wr ?_))))))))
          refine aG (Iv dX.1) y4 (af LT.add aV (aI (Iv (aB (dX.1 + 1))) y4 (On (aX Q z11 z6))))
     ·refine fV y2 z9 z6
    ·refine aA.blk (Wr ?_)
     refine aG (Iv uV.1) y4 (af LT.add aV (aI (Iv (aB (uV.1 + 1))) y4 (On (aX Q z9 z6))))
   ·refine fV y2 z2 z2
  ·refine Ws (Wr ?_)
   refine bM (bV (iP p) Q kL gQ fK) Q Q Q Q (bQ (stA (iP p) Q Q gQ fK) Q Q Q Q Q (aI (Bv false) aZ (On (aA.ent (aQ.XT 23 0 Q) (aA.ent (aQ.XT 23 1 Q) (aA.ent (aQ.XT 23 2 Q) (aA.ent (aQ.Xl 0 3 Q) (aA.ent (aQ.Xl 1 3 Q) (aA.ent (aQ.Xl 2 3 Q) (en [(8,Cc (.pl 23 0)),(9,Bv false)] [(0,pR 3 aF ([]:List Int)),(1,pR 3 aF ([]:List Int)),(2,pR 3 aF ([]:List Int)),(23,.row 113 [[.junk,.junk,.junk]])] z2 z4 (bP ⟨⟨_,_,_,Q,Q,Q,kL,fK,_,gm gQ⟩,Q,J⟩ z3 ⟨⟨J,J,J,J⟩,ah.sc,J⟩ ⟨bD.bf dw,bD.bf dw,bD.bf dw,J⟩)))))))))))
theorem aMy (g:aj) (p:bT) (a:Int) (b:Int) (want:Int):FT Tryz.prog (Fg g p a b want) 175 [.agg (ai g),.agg (iP p),.c (iC a),.c (iC b),.c (iC want)] [] (fun (t:(bT × Bool)) => [.agg [lo 0 t.1.Free.length,lo 1 t.1.aT.length,lo 2 t.1.aN.length],.c (bC t.2)]) (fun (t:(bT × Bool)) => [(0,pR 3 aF t.1.Free),(1,pR 3 aF t.1.aT),(2,pR 3 aF t.1.aN)]) [0,1,2]:=by
 refine FT.of [] Tryz.func175 Tryz.ntmps175 Q y2 ?_
 intro w0 U0 R0 g0
 unfold Fg
 refine Ws (Wr ?_)
 refine iL 21 (.agg (ai g)) bU y5 (iL 22 (.agg (iP p)) fK y5 (eG 23 [sC aJ,sC aJ,sC aJ] nO y6 (aI (Bv false) aZ (On (Ws (Wr ?_))))))
 refine bM (bV (iP p) Q kL gQ fK) Q Q Q Q (aP fun r1 hr1 => (aO.step (cZ [.agg (iP p)] (Fw.Fn.ren [(0,25),(1,26),(2,27)] (Uc p r1 hr1) Q) QX (oL y3) J y3) z2 J Q Q (eG 28 [sC aJ,sC aJ,sC aJ] nO y6 (bQ (stA [lo 25 r1.Free.length,lo 26 r1.aT.length,lo 27 r1.aN.length] Q Q gQ fK) Q Q Q Q Q (On (Ws (aA.block ?_)))))))
 refine aA.oz (id:=0) (Dt g a b want) (fun s2 => ([(2,Iv a),(3,Iv b),(4,Iv want),(5,Cc (.pl 21 0)),(10,Cc (.pl 23 0)),(12,Cc (.pl 28 0))],[(21,.row 26 [ai g]),(23,.row 113 [[sC aJ,sC aJ,sC aJ]]),(25,pR 3 aF s2.1),(26,pR 3 aF s2.2.1),(27,pR 3 aF s2.2.2),(28,.row 113 [[lo 25 s2.1.length,lo 26 s2.2.1.length,lo 27 s2.2.2.length]])])) (fun b27 => ([(10,Cc (.pl 23 0)),(12,Cc (.pl 28 0))],[(23,.row 113 [[sC aJ,sC aJ,sC aJ]]),(25,pR 3 aF b27.1),(26,pR 3 aF b27.2.1),(27,pR 3 aF b27.2.2),(28,.row 113 [[lo 25 b27.1.length,lo 26 b27.2.1.length,lo 27 b27.2.2.length]])])) (lU Tryz.prog Tryz.f175.results.toList [] [0,1,2] (fun (t:(bT × Bool)) => [.agg [lo 0 t.1.Free.length,lo 1 t.1.aT.length,lo 2 t.1.aN.length],.c (bC t.2)]) (fun (t:(bT × Bool)) => [(0,pR 3 aF t.1.Free),(1,pR 3 aF t.1.aT),(2,pR 3 aF t.1.aN)])) ?_ (aQ.of z6 z6) Q (fun b27 _ => ?_) qC
 ·intro s2
  unfold Dt
  refine Ws (Ws (aA.draw mixed ?_))
  refine eH (lo 25 s2.1.length) oN fF ax (bJ (Iv a) y4 (aU.bind fun x28 hx28 => (jV (LT.fP Q Q dU hx28) Q Q Q Q Q (gq (kC 0 Q ak hx28) Q Q Q Q (eH (lo 25 s2.1.length) oN fF ax (bJ (Iv b) y4 (aU.bind fun x29 hx29 => (jV (LT.fP Q Q dU hx29) Q Q Q Q Q (gq (kC 0 Q ak hx29) Q Q Q Q ?_)))))))))
  refine jJ LT.add y5 (bJ (Iv want) y4 (jJ LT.lss y5 (fA (aA.cond Q (fun MW => ?_) (fun MW => ?_)))))
  ·refine aA.skip (aA.block (Ws ?_))
   refine en [(2,Iv a),(3,Iv b),(4,Iv want),(5,Cc (.pl 21 0)),(10,Cc (.pl 23 0)),(12,Cc (.pl 28 0))] [(21,.row 26 [ai g]),(23,.row 113 [[sC aJ,sC aJ,sC aJ]]),(25,pR 3 aF s2.1),(26,pR 3 aF s2.2.1),(27,pR 3 aF s2.2.2),(28,.row 113 [[lo 25 s2.1.length,lo 26 s2.2.1.length,lo 27 s2.2.2.length]])] z6 z6 (Wr (bM (bV (ai g) Q eY dA bU) Q Q Q Q (bM (bV [lo 25 s2.1.length,lo 26 s2.2.1.length,lo 27 s2.2.2.length] Q kL gQ fK) Q Q Q Q (aG (Iv a) y4 (aG (Iv b) y4 (aP fun jM Hu => (aO.split (fun qc => ?_) (fun qc => ?_))))))))
   ·refine aO.step (cF [.agg (ai g),.agg [lo 25 s2.1.length,lo 26 s2.2.1.length,lo 27 s2.2.2.length],.c (iC a),.c (iC b)] [(25,pR 3 aF s2.1),(26,pR 3 aF s2.2.1),(27,pR 3 aF s2.2.2)] (show Fw.Fn Tryz.prog 202 [.agg (ai g),.agg [xF aF ((bT.mk s2.1 s2.2.1 s2.2.2).Free),xF aF ((bT.mk s2.1 s2.2.1 s2.2.2).aT),xF aF ((bT.mk s2.1 s2.2.1 s2.2.2).aN)],.c (iC a),.c (iC b)] [] (.dM [.agg [lo 30 jM.1.Free.length,lo 31 jM.1.aT.length,lo 32 jM.1.aN.length],.c (bC true)]) [(30,pR 3 aF jM.1.Free),(31,pR 3 aF jM.1.aT),(32,pR 3 aF jM.1.aN)] [] [30,31,32] from Fw.Fn.ren [(0,30),(1,31),(2,32)] (by have q:=Ud g (bT.mk s2.1 s2.2.1 s2.2.2) a b jM Hu; dsimp only at q; rw [qc] at q; exact q) Q) QY (.cons (.agg (.cons (.same Q) (.cons (.same Q) .nil))) (.cons (.agg (.cons (.fC Q Q) (.cons (.fC Q Q) (.cons (.fC Q Q) .nil)))) (.cons (.c (.same Q)) (.cons (.c (.same Q)) .nil)))) J y3) z5 z3 Q Q (aG (.dM [.agg [lo 30 jM.1.Free.length,lo 31 jM.1.aT.length,lo 32 jM.1.aN.length],.c (bC true)]) y4 (gy (.agg [lo 30 jM.1.Free.length,lo 31 jM.1.aT.length,lo 32 jM.1.aN.length]) y5 (gy (.c (bC true)) y5 (eG 33 [sC aJ,sC aJ,sC aJ] nO y6 (bQ (stA [lo 30 jM.1.Free.length,lo 31 jM.1.aT.length,lo 32 jM.1.aN.length] Q Q gQ fK) Q Q Q Q Q (aI (Bv true) y4 (On (Ws (Ws ?_)))))))))
    refine en [(2,Iv a),(3,Iv b),(4,Iv want),(5,Cc (.pl 21 0)),(10,Cc (.pl 23 0)),(12,Cc (.pl 28 0)),(13,Cc (.pl 33 0)),(14,Bv true)] [(21,.row 26 [ai g]),(23,.row 113 [[sC aJ,sC aJ,sC aJ]]),(25,pR 3 aF s2.1),(26,pR 3 aF s2.2.1),(27,pR 3 aF s2.2.2),(28,.row 113 [[lo 25 s2.1.length,lo 26 s2.2.1.length,lo 27 s2.2.2.length]]),(30,pR 3 aF jM.1.Free),(31,pR 3 aF jM.1.aT),(32,pR 3 aF jM.1.aN),(33,.row 113 [[lo 30 jM.1.Free.length,lo 31 jM.1.aT.length,lo 32 jM.1.aN.length]])] z8 z10 (Wr (aG (Bv true) y4 (aY (LT.not Q) Q Q Q (On (aA.cond Q (fun aHL => ?_) (fun aHL => ?_))))))
    ·exact aA.none
    ·refine aA.skip (Ws (Ws (Wr ?_)))
     refine aG (Bv true) y4 (aY (LT.not Q) Q Q Q (On (aA.cond Q (fun hc34 => ?_) (fun hc34 => ?_))))
     ·exact aA.none
     ·refine aA.skip (Wr ?_)
      refine bM (bV [lo 30 jM.1.Free.length,lo 31 jM.1.aT.length,lo 32 jM.1.aN.length] Q kL gQ fK) Q Q Q Q (bQ (stA [lo 30 jM.1.Free.length,lo 31 jM.1.aT.length,lo 32 jM.1.aN.length] Q Q gQ fK) Q Q Q Q Q (On (aA.blk ?_)))
      refine en [(2,Iv a),(3,Iv b),(4,Iv want),(5,Cc (.pl 21 0)),(10,Cc (.pl 23 0)),(12,Cc (.pl 28 0))] [(21,.row 26 [ai g]),(23,.row 113 [[sC aJ,sC aJ,sC aJ]]),(28,.row 113 [[lo 30 jM.1.Free.length,lo 31 jM.1.aT.length,lo 32 jM.1.aN.length]]),(30,pR 3 aF jM.1.Free),(31,pR 3 aF jM.1.aT),(32,pR 3 aF jM.1.aN)] z6 z6 (aA.ent (aQ.mv 30 25 Q Q) (aA.ent (aQ.mv 31 26 Q Q) (aA.ent (aQ.mv 32 27 Q Q) (aX Q z6 z6))))
   ·refine aO.step (cF [.agg (ai g),.agg [lo 25 s2.1.length,lo 26 s2.2.1.length,lo 27 s2.2.2.length],.c (iC a),.c (iC b)] [(25,pR 3 aF s2.1),(26,pR 3 aF s2.2.1),(27,pR 3 aF s2.2.2)] (show Fw.Fn Tryz.prog 202 [.agg (ai g),.agg [xF aF ((bT.mk s2.1 s2.2.1 s2.2.2).Free),xF aF ((bT.mk s2.1 s2.2.1 s2.2.2).aT),xF aF ((bT.mk s2.1 s2.2.1 s2.2.2).aN)],.c (iC a),.c (iC b)] [] (.dM [.agg [.junk,.junk,.junk],.c (bC false)]) [(30,pR 3 aF ([]:List Int)),(31,pR 3 aF ([]:List Int)),(32,pR 3 aF ([]:List Int))] [] [30,31,32] from Fw.Fn.ren [(0,30),(1,31),(2,32)] (by have q:=Ud g (bT.mk s2.1 s2.2.1 s2.2.2) a b jM Hu; dsimp only at q; rw [qc] at q; exact q) Q) QY (.cons (.agg (.cons (.same Q) (.cons (.same Q) .nil))) (.cons (.agg (.cons (.fC Q Q) (.cons (.fC Q Q) (.cons (.fC Q Q) .nil)))) (.cons (.c (.same Q)) (.cons (.c (.same Q)) .nil)))) J y3) z5 z3 Q Q (aG (.dM [.agg [.junk,.junk,.junk],.c (bC false)]) y4 (gy (.agg [.junk,.junk,.junk]) y5 (gy (.c (bC false)) y5 (eG 33 [sC aJ,sC aJ,sC aJ] nO y6 (bQ (stA [.junk,.junk,.junk] Q Q gQ fK) Q Q Q Q Q (aI (Bv false) y4 (On (Ws (Ws ?_)))))))))
    refine en [(2,Iv a),(3,Iv b),(4,Iv want),(5,Cc (.pl 21 0)),(10,Cc (.pl 23 0)),(12,Cc (.pl 28 0)),(13,Cc (.pl 33 0)),(14,Bv false)] [(21,.row 26 [ai g]),(23,.row 113 [[sC aJ,sC aJ,sC aJ]]),(25,pR 3 aF s2.1),(26,pR 3 aF s2.2.1),(27,pR 3 aF s2.2.2),(28,.row 113 [[lo 25 s2.1.length,lo 26 s2.2.1.length,lo 27 s2.2.2.length]]),(33,.row 113 [[.junk,.junk,.junk]])] z8 z7 (Wr (aG (Bv false) y4 (aY (LT.not Q) Q Q Q (On (aA.cond Q (fun Vz => ?_) (fun Vz => ?_))))))
    ·refine Wr (bM (bV (ai g) Q eY dA bU) Q Q Q Q (bM (bV [lo 25 s2.1.length,lo 26 s2.2.1.length,lo 27 s2.2.2.length] Q kL gQ fK) Q Q Q Q (aG (Iv b) y4 (aG (Iv a) y4 (aP fun kP aA8 => (aO.split (fun ug => ?_) (fun ug => ?_)))))))
     ·refine aO.step (cF [.agg (ai g),.agg [lo 25 s2.1.length,lo 26 s2.2.1.length,lo 27 s2.2.2.length],.c (iC b),.c (iC a)] [(25,pR 3 aF s2.1),(26,pR 3 aF s2.2.1),(27,pR 3 aF s2.2.2)] (show Fw.Fn Tryz.prog 202 [.agg (ai g),.agg [xF aF ((bT.mk s2.1 s2.2.1 s2.2.2).Free),xF aF ((bT.mk s2.1 s2.2.1 s2.2.2).aT),xF aF ((bT.mk s2.1 s2.2.1 s2.2.2).aN)],.c (iC b),.c (iC a)] [] (.dM [.agg [lo 35 kP.1.Free.length,lo 36 kP.1.aT.length,lo 37 kP.1.aN.length],.c (bC true)]) [(35,pR 3 aF kP.1.Free),(36,pR 3 aF kP.1.aT),(37,pR 3 aF kP.1.aN)] [] [35,36,37] from Fw.Fn.ren [(0,35),(1,36),(2,37)] (by have q:=Ud g (bT.mk s2.1 s2.2.1 s2.2.2) b a kP aA8; dsimp only at q; rw [ug] at q; exact q) Q) QY (.cons (.agg (.cons (.same Q) (.cons (.same Q) .nil))) (.cons (.agg (.cons (.fC Q Q) (.cons (.fC Q Q) (.cons (.fC Q Q) .nil)))) (.cons (.c (.same Q)) (.cons (.c (.same Q)) .nil)))) J y3) z5 z3 Q Q (aG (.dM [.agg [lo 35 kP.1.Free.length,lo 36 kP.1.aT.length,lo 37 kP.1.aN.length],.c (bC true)]) y4 (gy (.agg [lo 35 kP.1.Free.length,lo 36 kP.1.aT.length,lo 37 kP.1.aN.length]) y5 (gy (.c (bC true)) y5 (bQ (stA [lo 35 kP.1.Free.length,lo 36 kP.1.aT.length,lo 37 kP.1.aN.length] Q Q gQ fK) Q Q Q Q Q (aI (Bv true) y4 (On (Ws (Ws ?_))))))))
      refine en [(2,Iv a),(3,Iv b),(4,Iv want),(5,Cc (.pl 21 0)),(10,Cc (.pl 23 0)),(12,Cc (.pl 28 0)),(13,Cc (.pl 33 0)),(14,Bv true)] [(21,.row 26 [ai g]),(23,.row 113 [[sC aJ,sC aJ,sC aJ]]),(25,pR 3 aF s2.1),(26,pR 3 aF s2.2.1),(27,pR 3 aF s2.2.2),(28,.row 113 [[lo 25 s2.1.length,lo 26 s2.2.1.length,lo 27 s2.2.2.length]]),(33,.row 113 [[lo 35 kP.1.Free.length,lo 36 kP.1.aT.length,lo 37 kP.1.aN.length]]),(35,pR 3 aF kP.1.Free),(36,pR 3 aF kP.1.aT),(37,pR 3 aF kP.1.aN)] z8 z10 (Wr (aG (Bv true) y4 (aY (LT.not Q) Q Q Q (On (aA.cond Q (fun hc38 => ?_) (fun hc38 => ?_))))))
      ·exact aA.none
      ·refine aA.skip (Wr ?_)
       refine bM (bV [lo 35 kP.1.Free.length,lo 36 kP.1.aT.length,lo 37 kP.1.aN.length] Q kL gQ fK) Q Q Q Q (bQ (stA [lo 35 kP.1.Free.length,lo 36 kP.1.aT.length,lo 37 kP.1.aN.length] Q Q gQ fK) Q Q Q Q Q (On (aA.blk ?_)))
       refine en [(2,Iv a),(3,Iv b),(4,Iv want),(5,Cc (.pl 21 0)),(10,Cc (.pl 23 0)),(12,Cc (.pl 28 0))] [(21,.row 26 [ai g]),(23,.row 113 [[sC aJ,sC aJ,sC aJ]]),(28,.row 113 [[lo 35 kP.1.Free.length,lo 36 kP.1.aT.length,lo 37 kP.1.aN.length]]),(35,pR 3 aF kP.1.Free),(36,pR 3 aF kP.1.aT),(37,pR 3 aF kP.1.aN)] z6 z6 (aA.ent (aQ.mv 35 25 Q Q) (aA.ent (aQ.mv 36 26 Q Q) (aA.ent (aQ.mv 37 27 Q Q) (aX Q z6 z6))))
     ·refine aO.step (cF [.agg (ai g),.agg [lo 25 s2.1.length,lo 26 s2.2.1.length,lo 27 s2.2.2.length],.c (iC b),.c (iC a)] [(25,pR 3 aF s2.1),(26,pR 3 aF s2.2.1),(27,pR 3 aF s2.2.2)] (show Fw.Fn Tryz.prog 202 [.agg (ai g),.agg [xF aF ((bT.mk s2.1 s2.2.1 s2.2.2).Free),xF aF ((bT.mk s2.1 s2.2.1 s2.2.2).aT),xF aF ((bT.mk s2.1 s2.2.1 s2.2.2).aN)],.c (iC b),.c (iC a)] [] (.dM [.agg [.junk,.junk,.junk],.c (bC false)]) [(35,pR 3 aF ([]:List Int)),(36,pR 3 aF ([]:List Int)),(37,pR 3 aF ([]:List Int))] [] [35,36,37] from Fw.Fn.ren [(0,35),(1,36),(2,37)] (by have q:=Ud g (bT.mk s2.1 s2.2.1 s2.2.2) b a kP aA8; dsimp only at q; rw [ug] at q; exact q) Q) QY (.cons (.agg (.cons (.same Q) (.cons (.same Q) .nil))) (.cons (.agg (.cons (.fC Q Q) (.cons (.fC Q Q) (.cons (.fC Q Q) .nil)))) (.cons (.c (.same Q)) (.cons (.c (.same Q)) .nil)))) J y3) z5 z3 Q Q (aG (.dM [.agg [.junk,.junk,.junk],.c (bC false)]) y4 (gy (.agg [.junk,.junk,.junk]) y5 (gy (.c (bC false)) y5 (bQ (stA [.junk,.junk,.junk] Q Q gQ fK) Q Q Q Q Q (aI (Bv false) y4 (On (Ws (Ws ?_))))))))
      refine en [(2,Iv a),(3,Iv b),(4,Iv want),(5,Cc (.pl 21 0)),(10,Cc (.pl 23 0)),(12,Cc (.pl 28 0)),(13,Cc (.pl 33 0)),(14,Bv false)] [(21,.row 26 [ai g]),(23,.row 113 [[sC aJ,sC aJ,sC aJ]]),(25,pR 3 aF s2.1),(26,pR 3 aF s2.2.1),(27,pR 3 aF s2.2.2),(28,.row 113 [[lo 25 s2.1.length,lo 26 s2.2.1.length,lo 27 s2.2.2.length]]),(33,.row 113 [[.junk,.junk,.junk]])] z8 z7 (Wr (aG (Bv false) y4 (aY (LT.not Q) Q Q Q (On (aA.cond Q (fun hc39 => ?_) (fun hc39 => ?_))))))
      ·refine Ws (Wr ?_)
       refine bM (bV [lo 25 s2.1.length,lo 26 s2.2.1.length,lo 27 s2.2.2.length] Q kL gQ fK) Q Q Q Q (bQ (stA [lo 25 s2.1.length,lo 26 s2.2.1.length,lo 27 s2.2.2.length] Q Q gQ fK) Q Q Q Q Q (aI (Bv false) aZ (On (en [(10,Cc (.pl 23 0)),(11,Bv false)] [(23,.row 113 [[lo 25 s2.1.length,lo 26 s2.2.1.length,lo 27 s2.2.2.length]]),(25,pR 3 aF s2.1),(26,pR 3 aF s2.2.1),(27,pR 3 aF s2.2.2)] z2 z4 (aA.ent (aQ.mv 25 0 Q Q) (aA.ent (aQ.mv 26 1 Q Q) (aA.ent (aQ.mv 27 2 Q Q) (en [(10,Cc (.pl 23 0)),(11,Bv false)] [(0,pR 3 aF s2.1),(1,pR 3 aF s2.2.1),(2,pR 3 aF s2.2.2),(23,.row 113 [[lo 0 s2.1.length,lo 1 s2.2.1.length,lo 2 s2.2.2.length]])] z2 z4 (aA.ret ⟨Q,pX ⟨⟨_,_,_,Q,Q,Q,kL,fK,_,gm gQ⟩,Q,J⟩ z3 ⟨⟨J,J,J,J⟩,ah.sc,J⟩ ⟨bD.bf dw,bD.bf dw,bD.bf dw,J⟩⟩)))))))))
      ·exact aA.none
    ·exact aA.none
  ·refine fV y2 z2 z5
 ·refine Ws (Wr ?_)
  refine bM (bV [lo 25 b27.1.length,lo 26 b27.2.1.length,lo 27 b27.2.2.length] Q kL gQ fK) Q Q Q Q (bQ (stA [lo 25 b27.1.length,lo 26 b27.2.1.length,lo 27 b27.2.2.length] Q Q gQ fK) Q Q Q Q Q (aI (Bv true) aZ (On (en [(10,Cc (.pl 23 0)),(11,Bv true)] [(23,.row 113 [[lo 25 b27.1.length,lo 26 b27.2.1.length,lo 27 b27.2.2.length]]),(25,pR 3 aF b27.1),(26,pR 3 aF b27.2.1),(27,pR 3 aF b27.2.2)] z2 z4 (aA.ent (aQ.mv 25 0 Q Q) (aA.ent (aQ.mv 26 1 Q Q) (aA.ent (aQ.mv 27 2 Q Q) (en [(10,Cc (.pl 23 0)),(11,Bv true)] [(0,pR 3 aF b27.1),(1,pR 3 aF b27.2.1),(2,pR 3 aF b27.2.2),(23,.row 113 [[lo 0 b27.1.length,lo 1 b27.2.1.length,lo 2 b27.2.2.length]])] z2 z4 (bP ⟨⟨_,_,_,Q,Q,Q,kL,fK,_,gm gQ⟩,Q,J⟩ z3 ⟨⟨J,J,J,J⟩,ah.sc,J⟩ ⟨bD.bf dw,bD.bf dw,bD.bf dw,J⟩)))))))))
theorem aMp (g:aj) (k:Int) (l:Int) (p:bT) (bar:Int):FT Tryz.prog (FV g k l p bar) 177 [.agg (ai g),.c (iC k),.c (iC l),.agg (iP p),.c (iC bar)] [] (fun (t:(bT × Bool)) => [.agg [lo 0 t.1.Free.length,lo 1 t.1.aT.length,lo 2 t.1.aN.length],.c (bC t.2)]) (fun (t:(bT × Bool)) => [(0,pR 3 aF t.1.Free),(1,pR 3 aF t.1.aT),(2,pR 3 aF t.1.aN)]) [0,1,2]:=by
 refine FT.of [] Tryz.func177 Tryz.ntmps177 Q y2 ?_
 intro w0 U0 R0 g0
 unfold FV
 refine Ws (Wr ?_)
 refine iL 21 (.agg (ai g)) bU y5 (iL 22 (.agg (iP p)) fK y5 (eG 23 [sC aJ,sC aJ,sC aJ] nO y6 (aI (Bv false) aZ (On (Ws (Ws ?_))))))
 refine aA.eP (fun j9 => ([(2,Iv l),(4,Iv bar),(5,Cc (.pl 21 0)),(8,Cc (.pl 22 0)),(10,Cc (.pl 23 0)),(55,Bv j9)],[(21,.row 26 [ai g]),(22,.row 113 [iP p]),(23,.row 113 [[sC aJ,sC aJ,sC aJ]])])) ?_ (fun j9 _ => ?_)
 ·refine Wr (bM (bV (ai g) Q eY dA bU) Q Q Q Q (aG (Iv k) y4 (bM (bV (iP p) Q kL gQ fK) Q Q Q Q (aP fun r10 Es => (jD [.agg (ai g),.c (iC k),.agg (iP p)] (aMl g k p r10 Es) aFl (aK1 y6) y5 z4 (aY (LT.not Q) Q Q Q (aG (Bv (!r10)) y4 (aO.split (fun lZ => ?_) (fun lZ => ?_)))))))))
  ·refine aS lZ y5 (aS lZ y5 (aS lZ y5 (aS lZ y5 (dJ (Bv true) lZ aV (aG (Bv true) y4 (ay y5 (ay y5 (dJ (Bv true) Q aV (aG (Bv true) y4 (ay y5 (ay y5 ?_)))))))))))
   refine ay y5 (ay y5 (ay y5 (dJ (Bv true) Q aV (aG (Bv true) y4 (ay y5 (ay y5 (ay y5 (ay y5 (ay y5 (Oj Q Q Q Q (Oj Q Q Q Q ?_)))))))))))
   refine Oj Q Q Q Q (Oj Q Q Q Q (Oj Q Q Q Q (Oj Q Q Q Q (Oj Q Q Q Q (Oj Q Q Q Q (Oj Q Q Q Q (Oj Q Q Q Q (ay y5 (dJ (Bv true) Q aV (On (aX Q z6 z3)))))))))))
  ·refine eu (Iv k) lZ y5 (eu (Iv l) lZ y5 (aP fun r12 Et => (aO.pure (cZ [.c (iC k),.c (iC l)] (aEP k l r12 Et) Zr (iZ y2) J y3) z3 J (gH lZ Q Q) Q (aY (LT.not Q) Q (gH lZ Q Q) Q (eU (Bv (!r12)) lZ y5 (aG (Bv (!r12)) y4 (aO.split (fun sJ => ?_) (fun sJ => ?_))))))))
   ·refine aS sJ y5 (aS sJ y5 (dJ (Bv true) sJ aV (aG (Bv true) y4 (ay y5 (ay y5 (ay y5 (ay y5 (ay y5 (dJ (Bv true) Q aV (aG (Bv true) y4 (ay y5 ?_)))))))))))
    refine ay y5 (ay y5 (ay y5 (ay y5 (Oj Q Q Q Q (Oj Q Q Q Q (Oj Q Q Q Q (Oj Q Q Q Q (Oj Q Q Q Q (Oj Q Q Q Q (Oj Q Q Q Q (Oj Q Q Q Q ?_)))))))))))
    refine Oj Q Q Q Q (Oj Q Q Q Q (ay y5 (dJ (Bv true) Q aV (On (aX Q z6 z3)))))
   ·refine eu (Iv bar) sJ y5 (iy LT.lss sJ kD (eU (Bv (decide (bar < 0))) sJ y5 (aG (Bv (decide (bar < 0))) y4 (aO.split (fun qP => ?_) (fun qP => ?_)))))
    ·refine aS qP y5 (aS qP y5 (aS qP y5 (aS qP y5 (aS qP y5 (dJ (Bv true) qP aV (aG (Bv true) y4 (ay y5 (ay y5 (ay y5 (ay y5 (ay y5 ?_)))))))))))
     refine Oj Q Q Q Q (Oj Q Q Q Q (Oj Q Q Q Q (Oj Q Q Q Q (Oj Q Q Q Q (Oj Q Q Q Q (Oj Q Q Q Q (Oj Q Q Q Q (Oj Q Q Q Q (Oj Q Q Q Q (ay y5 (dJ (Bv true) Q aV ?_)))))))))))
     refine On (aX Q z6 z3)
    ·refine eu (Iv bar) qP y5 (kE (xF aK g.aC) gK iK qP iM (aY (LT.iI Q iU) Q (gH qP Q Q) Q (iy LT.geq qP y6 (eU (Bv (decide ((g.aC.length:Int) ≤ bar))) qP y5 (aG (Bv (decide ((g.aC.length:Int) ≤ bar))) y4 (aO.split (fun lg => ?_) (fun lg => ?_)))))))
     ·refine aS lg y5 (aS lg y5 (aS lg y5 (aS lg y5 (aS lg y5 (Oj Q Q Q Q (Oj Q Q Q Q (Oj Q Q Q Q (Oj Q Q Q Q (Oj Q Q Q Q (Oj Q Q Q Q (Oj Q Q Q Q ?_)))))))))))
      refine Oj Q Q Q Q (Oj Q Q Q Q (Oj Q Q Q Q (aS lg y5 (dJ (Bv true) lg aV (On (aX Q z6 z3))))))
     ·refine kE (xF aF p.aN) qX fF lg iM (aY (LT.iI Q dS) Q (gH lg Q Q) Q (iy LT.gtr lg kD (eu (Bv (decide (0 < (p.aN.length:Int)))) lg y5 (aO.split (fun hb16 => ?_) (fun hb16 => ?_)))))
      ·refine kE (xF aF p.aN) qX fF hb16 iM (kE (xF aF p.aN) qX fF hb16 iM (aY (LT.iI Q dS) Q (gH hb16 Q Q) Q (iy LT.sub hb16 kD (aP fun x17 Nb => (dY (LT.eF (enc:=aF) Q dU Nb gI) Q Q (gH hb16 Q Q) Q (aY (LT.iw Q ak) Q (gH hb16 Q Q) Q (eu (Iv bar) hb16 y5 (iy LT.geq hb16 y6 (dY (LT.qR (v:=(Bv (decide (bar ≤ x17)))) Q hb16) Q Q (gH lg Q Q) Q ?_)))))))))
       refine eU (Bv (decide (bar ≤ x17))) lg y5 (On (aX Q z6 z3))
      ·refine aS hb16 y5 (aS hb16 y5 (aS hb16 y5 (aS hb16 y5 (aS hb16 y5 (aS hb16 y5 (aS hb16 y5 (aS hb16 y5 (aS hb16 y5 (aS hb16 y5 (dY (LT.rC (v:=(Bv false)) Q hb16) Q y2 (gH lg Q Q) Q (eU (Bv false) lg y5 ?_)))))))))))
       refine On (aX Q z6 z3)
 ·refine aA.cond Q (fun hc18 => ?_) (fun hc18 => ?_)
  ·refine Ws (Wr ?_)
   refine bM (bV (iP p) Q kL gQ fK) Q Q Q Q (aP fun dn BG => (aO.step (cZ [.agg (iP p)] (Fw.Fn.ren [(0,27),(1,28),(2,29)] (Uc p dn BG) Q) QX (oL y3) J y3) z2 J Q Q (bQ (stA [lo 27 dn.Free.length,lo 28 dn.aT.length,lo 29 dn.aN.length] Q Q gQ fK) Q Q Q Q Q (aI (Bv false) aZ (On (en [(10,Cc (.pl 23 0)),(11,Bv false)] [(23,.row 113 [[lo 27 dn.Free.length,lo 28 dn.aT.length,lo 29 dn.aN.length]]),(27,pR 3 aF dn.Free),(28,pR 3 aF dn.aT),(29,pR 3 aF dn.aN)] z2 z4 (aA.ent (aQ.mv 27 0 Q Q) (aA.ent (aQ.mv 28 1 Q Q) (aA.ent (aQ.mv 29 2 Q Q) (en [(10,Cc (.pl 23 0)),(11,Bv false)] [(0,pR 3 aF dn.Free),(1,pR 3 aF dn.aT),(2,pR 3 aF dn.aN),(23,.row 113 [[lo 0 dn.Free.length,lo 1 dn.aT.length,lo 2 dn.aN.length]])] z2 z4 (bP ⟨⟨_,_,_,Q,Q,Q,kL,fK,_,gm gQ⟩,Q,J⟩ z3 ⟨⟨J,J,J,J⟩,ah.sc,J⟩ ⟨bD.bf dw,bD.bf dw,bD.bf dw,J⟩)))))))))))
  ·refine aA.skip (Ws (Wr ?_))
   refine dK (xF aK g.aC) gK iK ax (aG (Iv bar) y4 (aP fun x20 DL => (dY (LT.eF (enc:=aK) Q nU DL fB) Q Q Q Q (aY (lH Q kz jL fB) Q Q Q (eG 30 [iC 0,iC 0] jT y6 (bQ (stA [iC x20.A,iC x20.B] Q Q jL fB) Q Q Q Q Q (On (Ws ?_))))))))
   refine en [(2,Iv l),(4,Iv bar),(5,Cc (.pl 21 0)),(8,Cc (.pl 22 0)),(10,Cc (.pl 23 0)),(12,Cc (.pl 30 0))] [(21,.row 26 [ai g]),(22,.row 113 [iP p]),(23,.row 113 [[sC aJ,sC aJ,sC aJ]]),(30,.row 40 [[iC x20.A,iC x20.B]])] z6 z4 (Wr (bM (bV (ai g) Q eY dA bU) Q Q Q Q (bM (bV (iP p) Q kL gQ fK) Q Q Q Q (dK (iC x20.A) lM ak ax (dK (iC x20.B) mZ ak ax (aG (Iv l) y4 (af LT.add aV (aP fun dV Eu => (aO.step (cZ [.agg (ai g),.agg (iP p),.c (iC x20.A),.c (iC x20.B),.c (iC (aB (l + 1)))] (Fw.Fn.ren [(0,32),(1,33),(2,34)] (aMy g p x20.A x20.B (aB (l + 1)) dV Eu) Q) aFf (aK2 y8) J y3) z6 J Q Q ?_)))))))))
   refine aG (.dM [.agg [lo 32 dV.1.Free.length,lo 33 dV.1.aT.length,lo 34 dV.1.aN.length],.c (bC dV.2)]) y4 (gy (.agg [lo 32 dV.1.Free.length,lo 33 dV.1.aT.length,lo 34 dV.1.aN.length]) y5 (gy (.c (bC dV.2)) y5 (eG 35 [sC aJ,sC aJ,sC aJ] nO y6 (bQ (stA [lo 32 dV.1.Free.length,lo 33 dV.1.aT.length,lo 34 dV.1.aN.length] Q Q gQ fK) Q Q Q Q Q (aI (Bv dV.2) y4 (On (Ws (Ws ?_))))))))
   refine en [(4,Iv bar),(8,Cc (.pl 22 0)),(10,Cc (.pl 23 0)),(12,Cc (.pl 30 0)),(13,Cc (.pl 35 0)),(14,Bv dV.2)] [(22,.row 113 [iP p]),(23,.row 113 [[sC aJ,sC aJ,sC aJ]]),(30,.row 40 [[iC x20.A,iC x20.B]]),(32,pR 3 aF dV.1.Free),(33,pR 3 aF dV.1.aT),(34,pR 3 aF dV.1.aN),(35,.row 113 [[lo 32 dV.1.Free.length,lo 33 dV.1.aT.length,lo 34 dV.1.aN.length]])] z6 z7 (Wr (aG (Bv dV.2) y4 (aY (LT.not Q) Q Q Q (On (aA.cond Q (fun hc22 => ?_) (fun hc22 => ?_))))))
   ·refine Ws (Wr ?_)
    refine bM (bV (iP p) Q kL gQ fK) Q Q Q Q (aP fun ni NQ => (aO.step (cZ [.agg (iP p)] (Fw.Fn.ren [(0,37),(1,38),(2,39)] (Uc p ni NQ) Q) QX (oL y3) J y3) z2 J Q Q (bQ (stA [lo 37 ni.Free.length,lo 38 ni.aT.length,lo 39 ni.aN.length] Q Q gQ fK) Q Q Q Q Q (aI (Bv false) aZ (On (en [(10,Cc (.pl 23 0)),(11,Bv false)] [(23,.row 113 [[lo 37 ni.Free.length,lo 38 ni.aT.length,lo 39 ni.aN.length]]),(37,pR 3 aF ni.Free),(38,pR 3 aF ni.aT),(39,pR 3 aF ni.aN)] z2 z4 (aA.ent (aQ.mv 37 0 Q Q) (aA.ent (aQ.mv 38 1 Q Q) (aA.ent (aQ.mv 39 2 Q Q) (en [(10,Cc (.pl 23 0)),(11,Bv false)] [(0,pR 3 aF ni.Free),(1,pR 3 aF ni.aT),(2,pR 3 aF ni.aN),(23,.row 113 [[lo 0 ni.Free.length,lo 1 ni.aT.length,lo 2 ni.aN.length]])] z2 z4 (bP ⟨⟨_,_,_,Q,Q,Q,kL,fK,_,gm gQ⟩,Q,J⟩ z3 ⟨⟨J,J,J,J⟩,ah.sc,J⟩ ⟨bD.bf dw,bD.bf dw,bD.bf dw,J⟩)))))))))))
   ·refine aA.skip (Ws (Wr ?_))
    refine dK (iC x20.A) lM ak ax (aI (Iv x20.A) y4 (On (Ws (Ws (Wr ?_)))))
    refine dK (lo 32 dV.1.Free.length) oN fF ax (dK (iC x20.A) lM ak ax (aP fun x24 hx24 => (iq (LT.fP Q Q dU hx24) Q Q Q Q Q (bM (kC 0 Q ak hx24) Q Q Q Q (af LT.eql aV (On (aA.eP (fun j26 => ([(4,Iv bar),(10,Cc (.pl 23 0)),(13,Cc (.pl 35 0)),(15,Iv j26)],[(23,.row 113 [[sC aJ,sC aJ,sC aJ]]),(32,pR 3 aF dV.1.Free),(33,pR 3 aF dV.1.aT),(34,pR 3 aF dV.1.aN),(35,.row 113 [[lo 32 dV.1.Free.length,lo 33 dV.1.aT.length,lo 34 dV.1.aN.length]])])) ?_ (fun j26 _ => ?_))))))))
    ·refine aA.cond Q (fun hc27 => ?_) (fun hc27 => ?_)
     ·refine en [(4,Iv bar),(10,Cc (.pl 23 0)),(12,Cc (.pl 30 0)),(13,Cc (.pl 35 0))] [(23,.row 113 [[sC aJ,sC aJ,sC aJ]]),(30,.row 40 [[iC x20.A,iC x20.B]]),(32,pR 3 aF dV.1.Free),(33,pR 3 aF dV.1.aT),(34,pR 3 aF dV.1.aN),(35,.row 113 [[lo 32 dV.1.Free.length,lo 33 dV.1.aT.length,lo 34 dV.1.aN.length]])] z4 z6 (Wr (dK (iC x20.B) mZ ak ax (aI (Iv x20.B) y4 (On (aX Q z4 z5)))))
     ·refine aA.skip (aX Q z4 z5)
    ·refine Ws (aA.draw mixed ?_)
     refine eH (lo 32 dV.1.Free.length) oN fF ax (bJ (Iv j26) y4 (eH (lo 32 dV.1.Free.length) oN fF ax (bJ (Iv j26) y4 (aU.bind fun x28 hx28 => (jV (LT.fP Q Q dU hx28) Q Q Q Q Q (gq (kC 0 Q ak hx28) Q Q Q Q (jJ LT.sub aV (aU.bind fun x29 hx29 => (jV (LT.fP Q Q dU hx29) Q Q Q Q Q ?_)))))))))
     refine kJ (lq 0 (.c (iC (aB (x28 - 1)))) (aB (x28 - 1)) Q Q mJ gI hx29) Q Q Q Q Q (fA (Ws (en [(4,Iv bar),(10,Cc (.pl 23 0)),(13,Cc (.pl 35 0)),(15,Iv j26)] [(23,.row 113 [[sC aJ,sC aJ,sC aJ]]),(32,pR 3 aF (dV.1.Free.set j26.toNat (aB (x28 - 1)))),(33,pR 3 aF dV.1.aT),(34,pR 3 aF dV.1.aN),(35,.row 113 [[lo 32 dV.1.Free.length,lo 33 dV.1.aT.length,lo 34 dV.1.aN.length]])] z4 z5 (Wr (dK (lo 33 dV.1.aT.length) sF fF ax (aG (Iv j26) y4 (nP (iO 40 aF [(0,.tmp 102,.c (iC j26))] ([j26]:List Int) dS iH y7) Q Q Q (aP fun u30 aIm => (ny (LT.nZ (enc:=aF) Q Q Q dS iH Q (by decide) (by decide) (fun _ => Q) (jo aIm)) Q Q Q Q Q Q (aY (LT.gU Q sF) Q Q Q ?_))))))))))
     refine bQ (qh (.c (lo 33 ((dV.1.aT ++ ([j26]:List Int)).length))) [lo 32 dV.1.Free.length,lo 33 ((dV.1.aT ++ ([j26]:List Int)).length),lo 34 dV.1.aN.length] Q Q wW uQ) Q Q Q Q Q (On (Ws ?_))
     refine en [(4,Iv bar),(10,Cc (.pl 23 0)),(13,Cc (.pl 35 0))] [(23,.row 113 [[sC aJ,sC aJ,sC aJ]]),(32,pR 3 aF (dV.1.Free.set j26.toNat (aB (x28 - 1)))),(33,pR 3 aF (dV.1.aT ++ ([j26]:List Int))),(34,pR 3 aF dV.1.aN),(35,.row 113 [[lo 32 dV.1.Free.length,lo 33 ((dV.1.aT ++ ([j26]:List Int)).length),lo 34 dV.1.aN.length]])] z3 z5 (Wr (dK (lo 34 dV.1.aN.length) qX fF ax (aG (Iv bar) y4 (nP (iO 41 aF [(0,.tmp 108,.c (iC bar))] ([bar]:List Int) dS iH y7) Q Q Q (aP fun u31 aIn => (ny (LT.nZ (enc:=aF) Q Q Q dS iH Q (by decide) (by decide) (fun _ => Q) (jo aIn)) Q Q Q Q Q Q (aY (LT.gU Q qX) Q Q Q (bQ (qh (.c (lo 34 ((dV.1.aN ++ ([bar]:List Int)).length))) [lo 32 dV.1.Free.length,lo 33 ((dV.1.aT ++ ([j26]:List Int)).length),lo 34 ((dV.1.aN ++ ([bar]:List Int)).length)] Q Q wW uQ) Q Q Q Q Q (On (Ws ?_))))))))))
     refine en [(10,Cc (.pl 23 0)),(13,Cc (.pl 35 0))] [(23,.row 113 [[sC aJ,sC aJ,sC aJ]]),(32,pR 3 aF (dV.1.Free.set j26.toNat (aB (x28 - 1)))),(33,pR 3 aF (dV.1.aT ++ ([j26]:List Int))),(34,pR 3 aF (dV.1.aN ++ ([bar]:List Int))),(35,.row 113 [[lo 32 dV.1.Free.length,lo 33 ((dV.1.aT ++ ([j26]:List Int)).length),lo 34 ((dV.1.aN ++ ([bar]:List Int)).length)]])] z2 z5 (Wr (bM (bV [lo 32 dV.1.Free.length,lo 33 ((dV.1.aT ++ ([j26]:List Int)).length),lo 34 ((dV.1.aN ++ ([bar]:List Int)).length)] Q kL gQ fK) Q Q Q Q (bQ (stA [lo 32 dV.1.Free.length,lo 33 ((dV.1.aT ++ ([j26]:List Int)).length),lo 34 ((dV.1.aN ++ ([bar]:List Int)).length)] Q Q gQ fK) Q Q Q Q Q (aI (Bv true) aZ (On (en [(10,Cc (.pl 23 0)),(11,Bv true)] [(23,.row 113 [[lo 32 dV.1.Free.length,lo 33 ((dV.1.aT ++ ([j26]:List Int)).length),lo 34 ((dV.1.aN ++ ([bar]:List Int)).length)]]),(32,pR 3 aF (dV.1.Free.set j26.toNat (aB (x28 - 1)))),(33,pR 3 aF (dV.1.aT ++ ([j26]:List Int))),(34,pR 3 aF (dV.1.aN ++ ([bar]:List Int)))] z2 z4 (aA.ent (aQ.mv 32 0 Q Q) (aA.ent (aQ.mv 33 1 Q Q) (aA.ent (aQ.mv 34 2 Q Q) (en [(10,Cc (.pl 23 0)),(11,Bv true)] [(0,pR 3 aF (dV.1.Free.set j26.toNat (aB (x28 - 1)))),(1,pR 3 aF (dV.1.aT ++ ([j26]:List Int))),(2,pR 3 aF (dV.1.aN ++ ([bar]:List Int))),(23,.row 113 [[lo 0 ((dV.1.Free.set j26.toNat (aB (x28 - 1))).length),lo 1 ((dV.1.aT ++ ([j26]:List Int)).length),lo 2 ((dV.1.aN ++ ([bar]:List Int)).length)]])] z2 ⟨Q,Q,Q,congrArg (fun l1 => (some (Ob.row 113 [[lo 0 l1,lo 1 ((dV.1.aT ++ ([j26]:List Int)).length),lo 2 ((dV.1.aN ++ ([bar]:List Int)).length)]]):Option Ob)) (show dV.1.Free.length = (dV.1.Free.set j26.toNat (aB (x28 - 1))).length by simp only [List.length_set]),J⟩ (bP ⟨⟨_,_,_,Q,Q,Q,kL,fK,_,gm gQ⟩,Q,J⟩ z3 ⟨⟨J,J,J,J⟩,ah.sc,J⟩ ⟨bD.bf dw,bD.bf dw,bD.bf dw,J⟩)))))))))))
theorem aEV (g:aj) (k:Int) (l:Int):FT Tryz.prog (Jf g k l) 144 [.agg (ai g),.c (iC k),.c (iC l)] [] (fun (t:(bT × Bool)) => [.agg [lo 0 t.1.Free.length,lo 1 t.1.aT.length,lo 2 t.1.aN.length],.c (bC t.2)]) (fun (t:(bT × Bool)) => [(0,pR 3 aF t.1.Free),(1,pR 3 aF t.1.aT),(2,pR 3 aF t.1.aN)]) [0,1,2]:=by
 refine FT.of [] Tryz.func144 Tryz.ntmps144 Q y2 ?_
 intro w0 U0 R0 g0
 unfold Jf
 refine Ws (Wr ?_)
 refine iL 21 (.agg (ai g)) bU y5 (eG 22 [sC aJ,sC aJ,sC aJ] nO y6 (aI (Bv false) aZ (On (Ws (Wr ?_)))))
 refine bM (bV (ai g) Q eY dA bU) Q Q Q Q (aG (Iv k) y4 (aP fun r1 hr1 => (aO.step (cZ [.agg (ai g),.c (iC k)] (Fw.Fn.ren [(0,24),(1,25),(2,26)] (aMn g k r1 hr1) Q) aFe (D9 y3) J y3) z3 J Q Q (aG (.dM [.agg [lo 24 r1.1.Free.length,lo 25 r1.1.aT.length,lo 26 r1.1.aN.length],.c (bC r1.2)]) y4 (gy (.agg [lo 24 r1.1.Free.length,lo 25 r1.1.aT.length,lo 26 r1.1.aN.length]) y5 (gy (.c (bC r1.2)) y5 (eG 27 [sC aJ,sC aJ,sC aJ] nO y6 (bQ (stA [lo 24 r1.1.Free.length,lo 25 r1.1.aT.length,lo 26 r1.1.aN.length] Q Q gQ fK) Q Q Q Q Q (aI (Bv r1.2) y4 (On (Ws (Ws ?_))))))))))))
 refine aA.eP (fun j4 => ([(1,Iv k),(2,Iv l),(3,Cc (.pl 21 0)),(6,Cc (.pl 22 0)),(8,Cc (.pl 27 0)),(24,Bv j4)],[(21,.row 26 [ai g]),(22,.row 113 [[sC aJ,sC aJ,sC aJ]]),(24,pR 3 aF r1.1.Free),(25,pR 3 aF r1.1.aT),(26,pR 3 aF r1.1.aN),(27,.row 113 [[lo 24 r1.1.Free.length,lo 25 r1.1.aT.length,lo 26 r1.1.aN.length]])])) ?_ (fun j4 _ => ?_)
 ·refine en [(1,Iv k),(2,Iv l),(3,Cc (.pl 21 0)),(6,Cc (.pl 22 0)),(8,Cc (.pl 27 0)),(9,Bv r1.2)] [(21,.row 26 [ai g]),(22,.row 113 [[sC aJ,sC aJ,sC aJ]]),(24,pR 3 aF r1.1.Free),(25,pR 3 aF r1.1.aT),(26,pR 3 aF r1.1.aN),(27,.row 113 [[lo 24 r1.1.Free.length,lo 25 r1.1.aT.length,lo 26 r1.1.aN.length]])] z6 z6 (Wr (aG (Bv r1.2) y4 (aY (LT.not Q) Q Q Q (aG (Bv (!r1.2)) y4 (aO.split (fun hb5 => ?_) (fun hb5 => ?_))))))
  ·refine aS hb5 y5 (aS hb5 y5 (aS hb5 y5 (aS hb5 y5 (dJ (Bv true) hb5 aV (On (aX Q z6 z6))))))
  ·refine eu (Iv k) hb5 y5 (eu (Iv l) hb5 y5 (aP fun r6 rW => (aO.pure (cZ [.c (iC k),.c (iC l)] (aEP k l r6 rW) Zr (iZ y2) J y3) z3 J (gH hb5 Q Q) Q (aY (LT.not Q) Q (gH hb5 Q Q) Q (eU (Bv (!r6)) hb5 y5 (On (aX Q z6 z6)))))))
 ·refine aA.cond Q (fun Mc => ?_) (fun Mc => ?_)
  ·refine Ws (Wr ?_)
   refine yG (LT.build [] Q Q GH nO Q Q Q) Q Q (bQ (stA [sC aJ,sC aJ,sC aJ] Q Q gQ fK) Q Q Q Q Q (aI (Bv false) aZ (On (aA.ent (aQ.nX 22 0 0 3 Q Q Q Q) (aA.ent (aQ.nX 22 1 1 3 Q Q Q Q) (aA.ent (aQ.nX 22 2 2 3 Q Q Q Q) (en [(6,Cc (.pl 22 0)),(7,Bv false)] [(0,pR 3 aF ([]:List Int)),(1,pR 3 aF ([]:List Int)),(2,pR 3 aF ([]:List Int)),(22,.row 113 [[lo 0 (([]:List Int).length),lo 1 (([]:List Int).length),lo 2 (([]:List Int).length)]])] z2 z4 (bP ⟨⟨_,_,_,Q,Q,Q,kL,fK,_,gm gQ⟩,Q,J⟩ z3 ⟨⟨J,J,J,J⟩,ah.sc,J⟩ ⟨bD.bf dw,bD.bf dw,bD.bf dw,J⟩))))))))
  ·refine aA.skip (Ws (Ws (Wr ?_)))
   refine aI (Iv 0) aZ (On (aA.block ?_))
   refine aA.jI (id:=0) (Jg g k l) (fun s8 => ([(1,Iv k),(2,Iv l),(3,Cc (.pl 21 0)),(6,Cc (.pl 22 0)),(8,Cc (.pl 27 0)),(10,Iv s8.1)],[(21,.row 26 [ai g]),(22,.row 113 [[sC aJ,sC aJ,sC aJ]]),(24,pR 3 aF s8.2.1),(25,pR 3 aF s8.2.2.1),(26,pR 3 aF s8.2.2.2),(27,.row 113 [[lo 24 s8.2.1.length,lo 25 s8.2.2.1.length,lo 26 s8.2.2.2.length]])])) (fun b13 => ([(6,Cc (.pl 22 0)),(8,Cc (.pl 27 0))],[(22,.row 113 [[sC aJ,sC aJ,sC aJ]]),(24,pR 3 aF b13.1),(25,pR 3 aF b13.2.1),(26,pR 3 aF b13.2.2),(27,.row 113 [[lo 24 b13.1.length,lo 25 b13.2.1.length,lo 26 b13.2.2.length]])])) ?_ (aQ.of z6 z6) Q (fun b13 _ => ?_)
   ·intro s8
    unfold Jg
    refine Ws (Ws (Wr ?_))
    refine aG (Iv s8.1) y4 (dK (xF aK g.aC) gK iK ax (aY (LT.iI Q iU) Q Q Q (af LT.lss y5 (On (aA.cond Q (fun Vu => ?_) (fun Vu => ?_))))))
    ·refine aA.skip (Ws (aA.block (Wr ?_)))
     refine bM (bV (ai g) Q eY dA bU) Q Q Q Q (aG (Iv k) y4 (aG (Iv l) y4 (bM (bV [lo 24 s8.2.1.length,lo 25 s8.2.2.1.length,lo 26 s8.2.2.2.length] Q kL gQ fK) Q Q Q Q (aG (Iv s8.1) y4 (aP fun jF NK => (aO.step (cF [.agg (ai g),.c (iC k),.c (iC l),.agg [lo 24 s8.2.1.length,lo 25 s8.2.2.1.length,lo 26 s8.2.2.2.length],.c (iC s8.1)] [(24,pR 3 aF s8.2.1),(25,pR 3 aF s8.2.2.1),(26,pR 3 aF s8.2.2.2)] (Fw.Fn.ren [(0,30),(1,31),(2,32)] (aMp g k l (bT.mk s8.2.1 s8.2.2.1 s8.2.2.2) s8.1 jF NK) Q) aFg (.cons (.agg (.cons (.same Q) (.cons (.same Q) .nil))) (.cons (.c (.same Q)) (.cons (.c (.same Q)) (.cons (.agg (.cons (.fC Q Q) (.cons (.fC Q Q) (.cons (.fC Q Q) .nil)))) (.cons (.c (.same Q)) .nil))))) J y3) z6 z3 Q Q (aG (.dM [.agg [lo 30 jF.1.Free.length,lo 31 jF.1.aT.length,lo 32 jF.1.aN.length],.c (bC jF.2)]) y4 (gy (.agg [lo 30 jF.1.Free.length,lo 31 jF.1.aT.length,lo 32 jF.1.aN.length]) y5 (gy (.c (bC jF.2)) y5 (bQ (stA [lo 30 jF.1.Free.length,lo 31 jF.1.aT.length,lo 32 jF.1.aN.length] Q Q gQ fK) Q Q Q Q Q (On (aA.blk ?_))))))))))))
     refine en [(1,Iv k),(2,Iv l),(3,Cc (.pl 21 0)),(6,Cc (.pl 22 0)),(8,Cc (.pl 27 0)),(10,Iv s8.1)] [(21,.row 26 [ai g]),(22,.row 113 [[sC aJ,sC aJ,sC aJ]]),(27,.row 113 [[lo 30 jF.1.Free.length,lo 31 jF.1.aT.length,lo 32 jF.1.aN.length]]),(30,pR 3 aF jF.1.Free),(31,pR 3 aF jF.1.aT),(32,pR 3 aF jF.1.aN)] z6 z6 (Wr (aG (Iv s8.1) y4 (af LT.add aV (aI (Iv (aB (s8.1 + 1))) y4 (On (en [(1,Iv k),(2,Iv l),(3,Cc (.pl 21 0)),(6,Cc (.pl 22 0)),(8,Cc (.pl 27 0)),(10,Iv (aB (s8.1 + 1)))] [(21,.row 26 [ai g]),(22,.row 113 [[sC aJ,sC aJ,sC aJ]]),(27,.row 113 [[lo 30 jF.1.Free.length,lo 31 jF.1.aT.length,lo 32 jF.1.aN.length]]),(30,pR 3 aF jF.1.Free),(31,pR 3 aF jF.1.aT),(32,pR 3 aF jF.1.aN)] z6 z6 (aA.ent (aQ.mv 30 24 Q Q) (aA.ent (aQ.mv 31 25 Q Q) (aA.ent (aQ.mv 32 26 Q Q) (aX Q z6 z6))))))))))
    ·refine fV y2 z2 z5
   ·refine Ws (Wr ?_)
    refine bM (bV [lo 24 b13.1.length,lo 25 b13.2.1.length,lo 26 b13.2.2.length] Q kL gQ fK) Q Q Q Q (bQ (stA [lo 24 b13.1.length,lo 25 b13.2.1.length,lo 26 b13.2.2.length] Q Q gQ fK) Q Q Q Q Q (aI (Bv true) aZ (On (en [(6,Cc (.pl 22 0)),(7,Bv true)] [(22,.row 113 [[lo 24 b13.1.length,lo 25 b13.2.1.length,lo 26 b13.2.2.length]]),(24,pR 3 aF b13.1),(25,pR 3 aF b13.2.1),(26,pR 3 aF b13.2.2)] z2 z4 (aA.ent (aQ.mv 24 0 Q Q) (aA.ent (aQ.mv 25 1 Q Q) (aA.ent (aQ.mv 26 2 Q Q) (en [(6,Cc (.pl 22 0)),(7,Bv true)] [(0,pR 3 aF b13.1),(1,pR 3 aF b13.2.1),(2,pR 3 aF b13.2.2),(22,.row 113 [[lo 0 b13.1.length,lo 1 b13.2.1.length,lo 2 b13.2.2.length]])] z2 z4 (bP ⟨⟨_,_,_,Q,Q,Q,kL,fK,_,gm gQ⟩,Q,J⟩ z3 ⟨⟨J,J,J,J⟩,ah.sc,J⟩ ⟨bD.bf dw,bD.bf dw,bD.bf dw,J⟩)))))))))
theorem aES (g:aj) (k:Int) (l:Int):FT Tryz.prog (Jc g k l) 91 [.agg (ai g),.c (iC k),.c (iC l)] [] (fun (t:Int) => [.c (iC t)]) (fun (t:Int) => []) []:=by
 refine FT.of [] Tryz.func91 Tryz.ntmps91 Q y2 ?_
 intro w0 U0 R0 g0
 unfold Jc
 refine Ws (Wr ?_)
 refine iL 21 (.agg (ai g)) bU y5 (aI (Iv 0) aZ (On (Ws (Wr ?_))))
 refine bM (bV (ai g) Q eY dA bU) Q Q Q Q (aG (Iv k) y4 (aG (Iv l) y4 (aP fun r1 hr1 => (aO.step (cZ [.agg (ai g),.c (iC k),.c (iC l)] (Fw.Fn.ren [(0,23),(1,24),(2,25)] (aEV g k l r1 hr1) Q) Zi (AB y4) J y3) z4 J Q Q (aG (.dM [.agg [lo 23 r1.1.Free.length,lo 24 r1.1.aT.length,lo 25 r1.1.aN.length],.c (bC r1.2)]) y4 (gy (.agg [lo 23 r1.1.Free.length,lo 24 r1.1.aT.length,lo 25 r1.1.aN.length]) y5 (gy (.c (bC r1.2)) y5 (eG 26 [sC aJ,sC aJ,sC aJ] nO y6 (bQ (stA [lo 23 r1.1.Free.length,lo 24 r1.1.aT.length,lo 25 r1.1.aN.length] Q Q gQ fK) Q Q Q Q Q (aI (Bv r1.2) y4 (On (Ws (Ws ?_)))))))))))))
 refine en [(7,Cc (.pl 26 0)),(8,Bv r1.2)] [(23,pR 3 aF r1.1.Free),(24,pR 3 aF r1.1.aT),(25,pR 3 aF r1.1.aN),(26,.row 113 [[lo 23 r1.1.Free.length,lo 24 r1.1.aT.length,lo 25 r1.1.aN.length]])] z2 z4 (Wr (aG (Bv r1.2) y4 (aY (LT.not Q) Q Q Q (On (aA.cond Q (fun hc2 => ?_) (fun hc2 => ?_))))))
 ·refine Ws (Wr ?_)
  refine aI (Iv (-1)) aZ (On (bP z1 J ⟨ah.sc,J⟩ J))
 ·refine aA.skip (Ws (Wr ?_))
  refine dK (lo 25 r1.1.aN.length) qX fF ax (aY (LT.lG Q dS) Q Q Q (aI (Iv (r1.1.aN.length:Int)) y4 (On (bP z1 J ⟨ah.sc,J⟩ J))))
theorem Yo (c:dH) (g:aj):FT Tryz.prog (FX c g) 204 [.c (.pl 0 0),.agg (ai g)] [(0,.row 105 [fE c])] (fun (t:(bF × dH)) => [.agg [iC t.1.Graph.aH,lo 1 t.1.Graph.aC.length,lo 2 t.1.Places.length]]) (fun (t:(bF × dH)) => [(0,.row 105 [fE t.2]),(1,pR 40 aK t.1.Graph.aC),(2,pR 98 au t.1.Places)]) [1,2]:=by
 refine FT.of [0] Tryz.func204 Tryz.ntmps204 Q y2 ?_
 intro w0 U0 R0 g0
 unfold FX
 refine Ws (Wr ?_)
 refine iL 21 (.agg (ai g)) bU y5 (eG 22 [iC 0,sC aJ,sC aJ] lJ y6 (On (Ws (Wr ?_))))
 refine dK (iC g.aH) kV ak ax (l7 (iO 23 aK [] [] iU jT y7) Q Q (dY (LT.build [(0,.tmp 11,.c (iC g.aH)),(1,.tmp 12,.c (lo 23 (([]:List aW).length)))] Q Q Bj jk Q Q Q) Q Q Q Q (aY (LT.build [(0,.tmp 13,.agg [iC g.aH,lo 23 (([]:List aW).length)])] Q Q xZ lJ Q Q Q) Q Q Q (eG 24 [iC 0,sC aJ,sC aJ] lJ y6 (bQ (stA [iC g.aH,lo 23 (([]:List aW).length),sC aJ] Q Q dR dB) Q Q Q Q Q (On (Ws (Ws ?_))))))))
 refine en [(0,Cc (.pl 0 0)),(3,Cc (.pl 21 0)),(4,Cc (.pl 22 0)),(5,Cc (.pl 24 0))] [(0,.row 105 [fE c]),(21,.row 26 [ai g]),(22,.row 46 [[iC 0,sC aJ,sC aJ]]),(23,pR 40 aK ([]:List aW)),(24,.row 46 [[iC g.aH,lo 23 (([]:List aW).length),sC aJ]])] z4 z5 (Wr (aI (Iv 0) aZ (On (aA.block ?_))))
 refine aA.ent (aQ.nX 24 2 29 98 Q Q Q Q) (aA.jI (id:=0) (Ov g) (fun s1 => ([(0,Cc (.pl 0 0)),(3,Cc (.pl 21 0)),(4,Cc (.pl 22 0)),(5,Cc (.pl 24 0)),(6,Iv s1.1)],[(0,.row 105 [[xT dI s1.2.1,iC s1.2.2.1,iC s1.2.2.2.1]]),(21,.row 26 [ai g]),(22,.row 46 [[iC 0,sC aJ,sC aJ]]),(23,pR 40 aK ([]:List aW)),(24,.row 46 [[iC g.aH,lo 23 (([]:List aW).length),lo 29 s1.2.2.2.2.length]]),(29,pR 98 au s1.2.2.2.2)])) (fun b10 => ([(3,Cc (.pl 21 0)),(4,Cc (.pl 22 0)),(5,Cc (.pl 24 0))],[(0,.row 105 [[xT dI b10.1,iC b10.2.1,iC b10.2.2.1]]),(21,.row 26 [ai g]),(22,.row 46 [[iC 0,sC aJ,sC aJ]]),(23,pR 40 aK ([]:List aW)),(24,.row 46 [[iC g.aH,lo 23 (([]:List aW).length),lo 29 b10.2.2.2.length]]),(29,pR 98 au b10.2.2.2)])) ?_ (aQ.of z5 z6) Q (fun b10 _ => ?_))
 ·intro s1
  unfold Ov
  refine Ws (Ws (Wr ?_))
  refine aG (Iv s1.1) y4 (dK (iC g.aH) kV ak ax (af LT.lss y5 (On (aA.cond Q (fun wU => ?_) (fun wU => ?_)))))
  ·refine aA.skip (Ws (aA.block (Ws (Wr ?_))))
   refine aG (Cc (.pl 0 0)) y4 (aP fun r12 Et => (aO.step (cZ [.c (.pl 0 0),.c (iC 5)] (Fw.Fn.ren [(0,0)] (lu (dH.mk s1.2.1 s1.2.2.1 s1.2.2.2.1) 5 r12 Et) Q) lX (iZ y2) z1 y3) ⟨Q,Q,y2,J⟩ z1 Q Q (aI (Iv r12.1) y4 (On (aA.draw mixed ?_)))))
   refine eH (lo 29 s1.2.2.2.2.length) jm kU ax (bJ (Iv r12.1) y4 (bJ (Cc (.pl 0 0)) y4 (aU.bind fun r13 wV => (aU.step (cZ [.c (.pl 0 0),.c (iC 5)] (Fw.Fn.ren [(0,0)] (lu r12.2 5 r13 wV) Q) lX (iZ y2) z1 y3) ⟨Q,Q,y2,J⟩ z1 Q Q (dZ (LT.build [(0,.tmp 25,.c (iC r12.1)),(1,.tmp 27,.c (iC r13.1))] Q Q TM uS Q Q Q) Q Q Q Q (Gu (iO 27 au [(0,.tmp 28,.agg [iC r12.1,iC r13.1])] [dh.mk r12.1 r13.1] sU uS y7) Q Q Q (aU.bind fun u14 NR => (LX (LT.nZ (enc:=au) Q Q Q sU uS Q (by decide) (by decide) (fun _ => Q) (jo NR)) Q Q Q Q Q Q (bg (LT.gU Q jm) Q Q Q (kJ (qh (.c (lo 29 ((s1.2.2.2.2 ++ [dh.mk r12.1 r13.1]).length))) [iC g.aH,lo 23 (([]:List aW).length),lo 29 ((s1.2.2.2.2 ++ [dh.mk r12.1 r13.1]).length)] Q Q Rn UL) Q Q Q Q Q ?_))))))))))
   refine fA (aA.blk (en [(0,Cc (.pl 0 0)),(3,Cc (.pl 21 0)),(4,Cc (.pl 22 0)),(5,Cc (.pl 24 0)),(6,Iv s1.1)] [(0,.row 105 [fE r13.2]),(21,.row 26 [ai g]),(22,.row 46 [[iC 0,sC aJ,sC aJ]]),(23,pR 40 aK ([]:List aW)),(24,.row 46 [[iC g.aH,lo 23 (([]:List aW).length),lo 29 ((s1.2.2.2.2 ++ [dh.mk r12.1 r13.1]).length)]]),(29,pR 98 au (s1.2.2.2.2 ++ [dh.mk r12.1 r13.1]))] z5 z6 (Wr (aG (Iv s1.1) y4 (af LT.add aV (aI (Iv (aB (s1.1 + 1))) y4 (On (aX Q z5 z6))))))))
  ·refine fV y2 z3 z6
 ·refine Ws (Ws (Wr ?_))
  refine aI (Iv 0) aZ (On (aA.block ?_))
  refine aA.jI (id:=2) (Jk g b10) (fun s15 => ([(3,Cc (.pl 21 0)),(4,Cc (.pl 22 0)),(5,Cc (.pl 24 0)),(8,Iv s15.1)],[(0,.row 105 [[xT dI b10.1,iC b10.2.1,iC b10.2.2.1]]),(21,.row 26 [ai g]),(22,.row 46 [[iC 0,sC aJ,sC aJ]]),(23,pR 40 aK s15.2),(24,.row 46 [[iC g.aH,lo 23 s15.2.length,lo 29 b10.2.2.2.length]]),(29,pR 98 au b10.2.2.2)])) (fun jC => ([(4,Cc (.pl 22 0)),(5,Cc (.pl 24 0))],[(0,.row 105 [[xT dI jC.1,iC jC.2.1,iC jC.2.2.1]]),(22,.row 46 [[iC 0,sC aJ,sC aJ]]),(23,pR 40 aK jC.2.2.2.1),(24,.row 46 [[iC g.aH,lo 23 jC.2.2.2.1.length,lo 29 jC.2.2.2.2.length]]),(29,pR 98 au jC.2.2.2.2)])) ?_ (aQ.of z4 z6) Q (fun jC _ => ?_)
  ·intro s15
   unfold Jk
   refine Ws (Ws (Wr ?_))
   refine aG (Iv s15.1) y4 (dK (xF aK g.aC) gK iK ax (aY (LT.iI Q iU) Q Q Q (af LT.lss y5 (On (aA.cond Q (fun V8 => ?_) (fun V8 => ?_))))))
   ·refine aA.skip (Ws (aA.block (Ws (Wr ?_))))
    refine dK (xF aK g.aC) gK iK ax (aG (Iv s15.1) y4 (aP fun x54 BK => (dY (LT.eF (enc:=aK) Q nU BK fB) Q Q Q Q (aY (lH Q kz jL fB) Q Q Q (eG 30 [iC 0,iC 0] jT y6 (bQ (stA [iC x54.A,iC x54.B] Q Q jL fB) Q Q Q Q Q (On (Ws ?_))))))))
    refine aA.eP (fun j60 => ([(3,Cc (.pl 21 0)),(4,Cc (.pl 22 0)),(5,Cc (.pl 24 0)),(8,Iv s15.1),(9,Cc (.pl 30 0)),(70,Bv j60)],[(0,.row 105 [[xT dI b10.1,iC b10.2.1,iC b10.2.2.1]]),(21,.row 26 [ai g]),(22,.row 46 [[iC 0,sC aJ,sC aJ]]),(23,pR 40 aK s15.2),(24,.row 46 [[iC g.aH,lo 23 s15.2.length,lo 29 b10.2.2.2.length]]),(29,pR 98 au b10.2.2.2),(30,.row 40 [[iC x54.A,iC x54.B]])])) ?_ (fun j60 _ => ?_)
    ·refine en [(3,Cc (.pl 21 0)),(4,Cc (.pl 22 0)),(5,Cc (.pl 24 0)),(8,Iv s15.1),(9,Cc (.pl 30 0))] [(0,.row 105 [[xT dI b10.1,iC b10.2.1,iC b10.2.2.1]]),(21,.row 26 [ai g]),(22,.row 46 [[iC 0,sC aJ,sC aJ]]),(23,pR 40 aK s15.2),(24,.row 46 [[iC g.aH,lo 23 s15.2.length,lo 29 b10.2.2.2.length]]),(29,pR 98 au b10.2.2.2),(30,.row 40 [[iC x54.A,iC x54.B]])] z5 z7 (aA.draw mixed (eH (lo 29 b10.2.2.2.length) jm kU ax (eH (iC x54.A) lM ak ax (aU.bind fun Gl aBb => (jV (LT.fP Q Q pG aBb) Q Q Q Q Q (gq (LT.Yc Q uJ (gm qA) jy aBb (by exact Q) (by exact Q)) Q Q Q Q (eH (lo 29 b10.2.2.2.length) jm kU ax (bg (LT.gU Q mZ) Q Q Q ?_))))))))
     refine gq (yc (iC x54.B) Q ak) Q Q Q Q (aU.bind fun Gm aBd => (jV (LT.fP Q Q pG aBd) Q Q Q Q Q (gq (LT.Yc Q uJ (gm qA) jy aBd (by exact Q) (by exact Q)) Q Q Q Q (dZ (LT.Sz [Gl.X,Gl.Y] [Gm.X,Gm.Y] Q Nq Q Q) Q Q Q Q (bJ (Bv (!(jZ [Gl.X,Gl.Y] [Gm.X,Gm.Y]))) y4 (aU.split (fun oH => ?_) (fun oH => ?_)))))))
     ·refine nV (Iv s15.1) oH y5 (oZ LT.eql oH kD (nV (Bv (s15.1 == 0)) oH y5 (aU.split (fun hb64 => ?_) (fun hb64 => ?_))))
      ·refine bI hb64 y3 (bI hb64 y3 (bI hb64 y3 (bI hb64 y3 (bI hb64 y3 (bI hb64 y3 (bI hb64 y3 (bI hb64 y3 (dZ (LT.qR (v:=(Bv true)) Q hb64) Q y2 (gH oH Q Q) Q (oJ (Bv true) oH y5 (fA (aX Q z6 z7)))))))))))
      ·refine oC (xF aK g.aC) gK iK hb64 iM (nV (Iv s15.1) hb64 y5 (oZ LT.sub hb64 kD (aU.bind fun CY aJF => (dZ (LT.eF (enc:=aK) Q nU aJF fB) Q Q (gH hb64 Q Q) Q (bg (lH Q kz jL fB) Q (gH hb64 Q Q) Q (gq (bV [iC x54.A,iC x54.B] Q kz jL fB) Q Q (gH hb64 Q Q) Q (dZ (LT.Sz [CY.A,CY.B] [x54.A,x54.B] Q Ru Q Q) Q Q (gH hb64 Q Q) Q (dZ (LT.rC (v:=(Bv (!(jZ [CY.A,CY.B] [x54.A,x54.B])))) Q hb64) Q Q (gH oH Q Q) Q (oJ (Bv (!(jZ [CY.A,CY.B] [x54.A,x54.B]))) oH y5 (fA ?_))))))))))
       refine aX Q z6 z7
     ·refine bI oH y3 (bI oH y3 (bI oH y3 (bH y3 (bH y3 (bH y3 (bH y3 (bH y3 (bH y3 (bH y3 (bH y3 (bI oH y3 ?_)))))))))))
      refine o7 (Bv false) oH aV (fA (aX Q z6 z7))
    ·refine aA.eP (fun j68 => ([(3,Cc (.pl 21 0)),(4,Cc (.pl 22 0)),(5,Cc (.pl 24 0)),(8,Iv s15.1)],[(0,.row 105 [[xT dI b10.1,iC b10.2.1,iC b10.2.2.1]]),(21,.row 26 [ai g]),(22,.row 46 [[iC 0,sC aJ,sC aJ]]),(23,pR 40 aK j68),(24,.row 46 [[iC g.aH,lo 23 j68.length,lo 29 b10.2.2.2.length]]),(29,pR 98 au b10.2.2.2)])) ?_ (fun j68 _ => ?_)
     ·refine aA.cond Q (fun aHS => ?_) (fun aHS => ?_)
      ·refine Wr (aY (LT.gU Q lF) Q Q Q (dK (lo 23 s15.2.length) gK iK ax (bM (bV [iC x54.A,iC x54.B] Q kz jL fB) Q Q Q Q (nP (iO 31 aK [(0,.tmp 74,.agg [iC x54.A,iC x54.B])] [x54] iU jT y7) Q Q Q (aP fun u70 aIx => (ny (LT.nZ (enc:=aK) Q Q Q iU jT Q (by decide) (by decide) (fun _ => Q) (jo aIx)) Q Q Q Q Q Q (aY (LT.gU Q lF) Q Q Q (aY (LT.gU Q gK) Q Q Q (bQ (qh (.c (lo 23 ((s15.2 ++ [x54]).length))) [iC g.aH,lo 23 ((s15.2 ++ [x54]).length),lo 29 b10.2.2.2.length] Q Q DR EG) Q Q Q Q Q (On ?_))))))))))
       refine aX Q z4 z6
      ·refine aA.skip (aX Q z4 z6)
     ·refine aA.blk (Wr ?_)
      refine aG (Iv s15.1) y4 (af LT.add aV (aI (Iv (aB (s15.1 + 1))) y4 (On (aX Q z4 z6))))
   ·refine fV y2 z2 z5
  ·refine Ws (Wr ?_)
   refine bM (bV [iC g.aH,lo 23 jC.2.2.2.1.length,lo 29 jC.2.2.2.2.length] Q gJ dR dB) Q Q Q Q (bQ (stA [iC g.aH,lo 23 jC.2.2.2.1.length,lo 29 jC.2.2.2.2.length] Q Q dR dB) Q Q Q Q Q (On (en [(4,Cc (.pl 22 0))] [(0,.row 105 [[xT dI jC.1,iC jC.2.1,iC jC.2.2.1]]),(22,.row 46 [[iC g.aH,lo 23 jC.2.2.2.1.length,lo 29 jC.2.2.2.2.length]]),(23,pR 40 aK jC.2.2.2.1),(29,pR 98 au jC.2.2.2.2)] z1 z4 (aA.ent (aQ.mv 23 1 Q Q) (aA.ent (aQ.mv 29 2 Q Q) (en [(4,Cc (.pl 22 0))] [(0,.row 105 [[xT dI jC.1,iC jC.2.1,iC jC.2.2.1]]),(1,pR 40 aK jC.2.2.2.1),(2,pR 98 au jC.2.2.2.2),(22,.row 46 [[iC g.aH,lo 1 jC.2.2.2.1.length,lo 2 jC.2.2.2.2.length]])] z1 z4 (bP ⟨⟨_,_,_,Q,Q,Q,gJ,dB,_,gm dR⟩,J⟩ z3 ⟨⟨ah.sc,J,J,J⟩,J⟩ ⟨bD.mV ⟨nN oU,ah.sc,ah.sc,J⟩,bD.bf kG,bD.bf qy,J⟩)))))))
theorem aEW (c:dH):FT Tryz.prog (Jj c) 180 [.c (.pl 0 0)] [(0,.row 105 [fE c])] (fun (t:(bF × dH)) => [.agg [iC t.1.Graph.aH,lo 1 t.1.Graph.aC.length,lo 2 t.1.Places.length]]) (fun (t:(bF × dH)) => [(0,.row 105 [fE t.2]),(1,pR 40 aK t.1.Graph.aC),(2,pR 98 au t.1.Places)]) [1,2]:=by
 refine FT.of [0] Tryz.func180 Tryz.ntmps180 Q y2 ?_
 intro w0 U0 R0 g0
 unfold Jj
 refine Ws (Wr ?_)
 refine eG 21 [iC 0,sC aJ,sC aJ] lJ y6 (On (Ws (Ws (Wr ?_))))
 refine aG (Cc (.pl 0 0)) y4 (aP fun r1 hr1 => (aO.step (cZ [.c (.pl 0 0),.c (iC 3)] (Fw.Fn.ren [(0,0)] (lu c 3 r1 hr1) Q) lX (iZ y2) z1 y3) ⟨Q,Q,y2,J⟩ z1 Q Q (On (aA.block (Ws (Wr ?_))))))
 refine af LT.eql aV (aI (Bv (r1.1 == 0)) y4 (On (aA.cond Q (fun hc2 => ?_) (fun hc2 => ?_))))
 ·refine Ws (Wr ?_)
  refine aG (Cc (.pl 0 0)) y4 (aP fun r3 hr3 => (aO.step (cZ [.c (.pl 0 0),.c (iC 5)] (Fw.Fn.ren [(0,0)] (lu r1.2 5 r3 hr3) Q) lX (iZ y2) z1 y3) ⟨Q,Q,y2,J⟩ z1 Q Q (af LT.add qH (aI (Iv (aB (2 + r3.1))) y4 (On (Ws ?_))))))
  refine en [(0,Cc (.pl 0 0)),(2,Cc (.pl 21 0)),(3,Iv (aB (2 + r3.1)))] [(0,.row 105 [fE r3.2]),(21,.row 46 [[iC 0,sC aJ,sC aJ]])] z3 z2 (Wr (aG (Cc (.pl 0 0)) y4 (aG (Iv (aB (2 + r3.1))) y4 (aP fun r4 hr4 => (aO.step (cZ [.c (.pl 0 0),.c (iC (aB (2 + r3.1))),.c (iC 7)] (Fw.Fn.ren [(0,0),(1,25)] (aEa r3.2 (aB (2 + r3.1)) 7 r4 hr4) Q) Zt (qF y3) z1 y3) ⟨Q,Q,Q,y2,J⟩ z1 Q Q (eG 26 [iC 0,sC aJ] jk y6 (bQ (stA [iC r4.1.aH,lo 25 r4.1.aC.length] Q Q dA bU) Q Q Q Q Q (On (Ws ?_)))))))))
  refine en [(0,Cc (.pl 0 0)),(2,Cc (.pl 21 0)),(4,Cc (.pl 26 0))] [(0,.row 105 [fE r4.2]),(21,.row 46 [[iC 0,sC aJ,sC aJ]]),(25,pR 40 aK r4.1.aC),(26,.row 26 [[iC r4.1.aH,lo 25 r4.1.aC.length]])] z3 z4 (Wr (aG (Cc (.pl 0 0)) y4 (bM (bV [iC r4.1.aH,lo 25 r4.1.aC.length] Q eY dA bU) Q Q Q Q (aP fun r5 mG => (aO.step (cF [.c (.pl 0 0),.agg [iC r4.1.aH,lo 25 r4.1.aC.length]] [(25,pR 40 aK r4.1.aC)] (Fw.Fn.ren [(0,0),(1,28),(2,29)] (Yo r4.2 r4.1 r5 mG) Q) Uz (.cons (.c (.same Q)) (.cons (.agg (.cons (.same Q) (.cons (.fC Q Q) .nil))) .nil)) z1 y3) z3 z2 Q Q (bQ (stA [iC r5.1.Graph.aH,lo 28 r5.1.Graph.aC.length,lo 29 r5.1.Places.length] Q Q dR dB) Q Q Q Q Q (On (en [(2,Cc (.pl 21 0))] [(0,.row 105 [fE r5.2]),(21,.row 46 [[iC r5.1.Graph.aH,lo 28 r5.1.Graph.aC.length,lo 29 r5.1.Places.length]]),(28,pR 40 aK r5.1.Graph.aC),(29,pR 98 au r5.1.Places)] z1 z4 (aA.ent (aQ.mv 28 1 Q Q) (aA.ent (aQ.mv 29 2 Q Q) (en [(2,Cc (.pl 21 0))] [(0,.row 105 [fE r5.2]),(1,pR 40 aK r5.1.Graph.aC),(2,pR 98 au r5.1.Places),(21,.row 46 [[iC r5.1.Graph.aH,lo 1 r5.1.Graph.aC.length,lo 2 r5.1.Places.length]])] z1 z4 ?_)))))))))))
  refine bP ⟨⟨_,_,_,Q,Q,Q,gJ,dB,_,gm dR⟩,J⟩ z3 ⟨⟨ah.sc,J,J,J⟩,J⟩ ⟨bD.mV ⟨nN oU,ah.sc,ah.sc,J⟩,bD.bf kG,bD.bf qy,J⟩
 ·refine Ws (Wr ?_)
  refine af LT.eql aV (aI (Bv (r1.1 == 1)) y4 (On (aA.cond Q (fun hc6 => ?_) (fun hc6 => ?_))))
  ·refine Ws (en [(0,Cc (.pl 0 0)),(2,Cc (.pl 21 0))] [(0,.row 105 [fE r1.2]),(21,.row 46 [[iC 0,sC aJ,sC aJ]])] z2 z2 (Wr (aG (Cc (.pl 0 0)) y4 (aP fun r7 oI => (aO.step (cZ [.c (.pl 0 0),.c (iC 4)] (Fw.Fn.ren [(0,0)] (lu r1.2 4 r7 oI) Q) lX (iZ y2) z1 y3) ⟨Q,Q,y2,J⟩ z1 Q Q (af LT.add qH (aI (Iv (aB (2 + r7.1))) y4 (On (Ws (Wr ?_))))))))))
   refine aG (Cc (.pl 0 0)) y4 (aG (Iv (aB (2 + r7.1))) y4 (aP fun r8 tJ => (aO.step (cZ [.c (.pl 0 0),.c (iC (aB (2 + r7.1)))] (Fw.Fn.ren [(0,0),(1,32)] (QA r7.2 (aB (2 + r7.1)) r8 tJ) Q) Lu (iZ y2) z1 y3) z3 z1 Q Q (eG 33 [iC 0,sC aJ] jk y6 (bQ (stA [iC r8.1.aH,lo 32 r8.1.aC.length] Q Q dA bU) Q Q Q Q Q (On (Ws ?_)))))))
   refine en [(0,Cc (.pl 0 0)),(2,Cc (.pl 21 0)),(5,Iv (aB (2 + r7.1))),(6,Cc (.pl 33 0))] [(0,.row 105 [fE r8.2]),(21,.row 46 [[iC 0,sC aJ,sC aJ]]),(32,pR 40 aK r8.1.aC),(33,.row 26 [[iC r8.1.aH,lo 32 r8.1.aC.length]])] z4 z4 (Wr (aG (Cc (.pl 0 0)) y4 (aG (Iv (aB (2 + r7.1))) y4 (aP fun r9 rX => (aO.step (cZ [.c (.pl 0 0),.c (iC (aB (2 + r7.1)))] (Fw.Fn.ren [(0,0)] (lu r8.2 (aB (2 + r7.1)) r9 rX) Q) lX (iZ y2) z1 y3) z3 z1 Q Q (aI (Iv r9.1) y4 (On (Ws (Wr ?_)))))))))
   refine aG (Cc (.pl 0 0)) y4 (aG (Iv (aB (2 + r7.1))) y4 (aP fun r10 Es => (aO.step (cZ [.c (.pl 0 0),.c (iC (aB (2 + r7.1)))] (Fw.Fn.ren [(0,0)] (lu r9.2 (aB (2 + r7.1)) r10 Es) Q) lX (iZ y2) z1 y3) z3 z1 Q Q (aI (Iv r10.1) y4 (On (Ws ?_))))))
   refine en [(0,Cc (.pl 0 0)),(2,Cc (.pl 21 0)),(6,Cc (.pl 33 0)),(7,Iv r9.1),(8,Iv r10.1)] [(0,.row 105 [fE r10.2]),(21,.row 46 [[iC 0,sC aJ,sC aJ]]),(32,pR 40 aK r8.1.aC),(33,.row 26 [[iC r8.1.aH,lo 32 r8.1.aC.length]])] z5 z4 (Wr (bM (bV [iC r8.1.aH,lo 32 r8.1.aC.length] Q eY dA bU) Q Q Q Q (aG (Iv r9.1) y4 (aG (Iv r10.1) y4 (aP fun r11 NI => (aO.step (cF [.agg [iC r8.1.aH,lo 32 r8.1.aC.length],.c (iC r9.1),.c (iC r10.1)] [(32,pR 40 aK r8.1.aC)] (Fw.Fn.ren [(0,37)] (Ym r8.1 r9.1 r10.1 r11 NI) Q) U4 (.cons (.agg (.cons (.same Q) (.cons (.fC Q Q) .nil))) (.cons (.c (.same Q)) (.cons (.c (.same Q)) .nil))) J y3) z4 z1 Q Q (aG (.dM [.agg [iC r11.1.aH,lo 37 r11.1.aC.length],.c (bC r11.2)]) y4 (gy (.agg [iC r11.1.aH,lo 37 r11.1.aC.length]) y5 (gy (.c (bC r11.2)) y5 (bQ (stA [iC r11.1.aH,lo 37 r11.1.aC.length] Q Q dA bU) Q Q Q Q Q (On (Ws ?_))))))))))))
   refine en [(0,Cc (.pl 0 0)),(2,Cc (.pl 21 0)),(6,Cc (.pl 33 0))] [(0,.row 105 [fE r10.2]),(21,.row 46 [[iC 0,sC aJ,sC aJ]]),(33,.row 26 [[iC r11.1.aH,lo 37 r11.1.aC.length]]),(37,pR 40 aK r11.1.aC)] z3 z4 (Wr (aG (Cc (.pl 0 0)) y4 (bM (bV [iC r11.1.aH,lo 37 r11.1.aC.length] Q eY dA bU) Q Q Q Q (aP fun r12 Et => (aO.step (cF [.c (.pl 0 0),.agg [iC r11.1.aH,lo 37 r11.1.aC.length]] [(37,pR 40 aK r11.1.aC)] (Fw.Fn.ren [(0,0),(1,39),(2,40)] (Yo r10.2 r11.1 r12 Et) Q) Uz (.cons (.c (.same Q)) (.cons (.agg (.cons (.same Q) (.cons (.fC Q Q) .nil))) .nil)) z1 y3) z3 z2 Q Q (bQ (stA [iC r12.1.Graph.aH,lo 39 r12.1.Graph.aC.length,lo 40 r12.1.Places.length] Q Q dR dB) Q Q Q Q Q (On (en [(2,Cc (.pl 21 0))] [(0,.row 105 [fE r12.2]),(21,.row 46 [[iC r12.1.Graph.aH,lo 39 r12.1.Graph.aC.length,lo 40 r12.1.Places.length]]),(39,pR 40 aK r12.1.Graph.aC),(40,pR 98 au r12.1.Places)] z1 z4 (aA.ent (aQ.mv 39 1 Q Q) (aA.ent (aQ.mv 40 2 Q Q) (en [(2,Cc (.pl 21 0))] [(0,.row 105 [fE r12.2]),(1,pR 40 aK r12.1.Graph.aC),(2,pR 98 au r12.1.Places),(21,.row 46 [[iC r12.1.Graph.aH,lo 1 r12.1.Graph.aC.length,lo 2 r12.1.Places.length]])] z1 z4 ?_)))))))))))
   refine bP ⟨⟨_,_,_,Q,Q,Q,gJ,dB,_,gm dR⟩,J⟩ z3 ⟨⟨ah.sc,J,J,J⟩,J⟩ ⟨bD.mV ⟨nN oU,ah.sc,ah.sc,J⟩,bD.bf kG,bD.bf qy,J⟩
  ·refine aA.skip (aA.blk (Ws ?_))
   refine en [(0,Cc (.pl 0 0)),(2,Cc (.pl 21 0))] [(0,.row 105 [fE r1.2]),(21,.row 46 [[iC 0,sC aJ,sC aJ]])] z2 z2 (Wr (aG (Cc (.pl 0 0)) y4 (aP fun r13 wV => (aO.step (cZ [.c (.pl 0 0),.c (iC 5)] (Fw.Fn.ren [(0,0)] (lu r1.2 5 r13 wV) Q) lX (iZ y2) z1 y3) ⟨Q,Q,y2,J⟩ z1 Q Q (af LT.add qH (aI (Iv (aB (2 + r13.1))) y4 (On (Ws (Wr ?_)))))))))
   refine aG (Cc (.pl 0 0)) y4 (aG (Iv (aB (2 + r13.1))) y4 (aP fun jE NJ => (aO.step (cZ [.c (.pl 0 0),.c (iC (aB (2 + r13.1)))] (Fw.Fn.ren [(0,0),(1,43)] (QA r13.2 (aB (2 + r13.1)) jE NJ) Q) Lu (iZ y2) z1 y3) z3 z1 Q Q (eG 44 [iC 0,sC aJ] jk y6 (bQ (stA [iC jE.1.aH,lo 43 jE.1.aC.length] Q Q dA bU) Q Q Q Q Q (On (Ws ?_)))))))
   refine en [(0,Cc (.pl 0 0)),(2,Cc (.pl 21 0)),(10,Cc (.pl 44 0))] [(0,.row 105 [fE jE.2]),(21,.row 46 [[iC 0,sC aJ,sC aJ]]),(43,pR 40 aK jE.1.aC),(44,.row 26 [[iC jE.1.aH,lo 43 jE.1.aC.length]])] z3 z4 (Wr (aG (Cc (.pl 0 0)) y4 (bM (bV [iC jE.1.aH,lo 43 jE.1.aC.length] Q eY dA bU) Q Q Q Q (aP fun jF NK => (aO.step (cF [.c (.pl 0 0),.agg [iC jE.1.aH,lo 43 jE.1.aC.length]] [(43,pR 40 aK jE.1.aC)] (Fw.Fn.ren [(0,0),(1,46),(2,47)] (Yo jE.2 jE.1 jF NK) Q) Uz (.cons (.c (.same Q)) (.cons (.agg (.cons (.same Q) (.cons (.fC Q Q) .nil))) .nil)) z1 y3) z3 z2 Q Q (bQ (stA [iC jF.1.Graph.aH,lo 46 jF.1.Graph.aC.length,lo 47 jF.1.Places.length] Q Q dR dB) Q Q Q Q Q (On (en [(2,Cc (.pl 21 0))] [(0,.row 105 [fE jF.2]),(21,.row 46 [[iC jF.1.Graph.aH,lo 46 jF.1.Graph.aC.length,lo 47 jF.1.Places.length]]),(46,pR 40 aK jF.1.Graph.aC),(47,pR 98 au jF.1.Places)] z1 z4 (aA.ent (aQ.mv 46 1 Q Q) (aA.ent (aQ.mv 47 2 Q Q) (en [(2,Cc (.pl 21 0))] [(0,.row 105 [fE jF.2]),(1,pR 40 aK jF.1.Graph.aC),(2,pR 98 au jF.1.Places),(21,.row 46 [[iC jF.1.Graph.aH,lo 1 jF.1.Graph.aC.length,lo 2 jF.1.Places.length]])] z1 z4 ?_)))))))))))
   refine bP ⟨⟨_,_,_,Q,Q,Q,gJ,dB,_,gm dR⟩,J⟩ z3 ⟨⟨ah.sc,J,J,J⟩,J⟩ ⟨bD.mV ⟨nN oU,ah.sc,ah.sc,J⟩,bD.bf kG,bD.bf qy,J⟩
theorem aMs (c:dH):FT Tryz.prog (Ou c) 149 [.c (.pl 0 0)] [(0,.row 105 [fE c])] (fun (t:(bF × dH)) => [.agg [iC t.1.Graph.aH,lo 1 t.1.Graph.aC.length,xT au t.1.Places]]) (fun (t:(bF × dH)) => [(0,.row 105 [fE t.2]),(1,pR 40 aK t.1.Graph.aC)]) [1]:=by
 refine FT.F7 [0] Tryz.func149 Tryz.ntmps149 Q y2 ?_
 intro w0 U0 R0 g0 hU
 unfold Ou
 refine Ws (Wr ?_)
 refine eG 21 [iC 0,sC aJ,sC aJ] lJ y6 (On (Ws (Wr ?_)))
 refine aG (Cc (.pl 0 0)) y4 (aP fun r1 hr1 => (aO.step (cZ [.c (.pl 0 0)] (Fw.Fn.ren [(0,0),(1,23),(2,24)] (aEW c r1 hr1) Q) Zu (kQ Q) z1 y3) z2 z1 Q Q (eG 25 [iC 0,sC aJ,sC aJ] lJ y6 (bQ (stA [iC r1.1.Graph.aH,lo 23 r1.1.Graph.aC.length,lo 24 r1.1.Places.length] Q Q dR dB) Q Q Q Q Q (On (Ws (Ws ?_)))))))
 refine en [(0,Cc (.pl 0 0)),(2,Cc (.pl 21 0)),(3,Cc (.pl 25 0))] [(0,.row 105 [fE r1.2]),(21,.row 46 [[iC 0,sC aJ,sC aJ]]),(23,pR 40 aK r1.1.Graph.aC),(24,pR 98 au r1.1.Places),(25,.row 46 [[iC r1.1.Graph.aH,lo 23 r1.1.Graph.aC.length,lo 24 r1.1.Places.length]])] z3 z5 (Wr (aG (Cc (.pl 0 0)) y4 (aP fun r2 hr2 => (aO.step (cZ [.c (.pl 0 0),.c (iC 14)] (Fw.Fn.ren [(0,0)] (lu r1.2 14 r2 hr2) Q) lX (iZ y2) z1 y3) ⟨Q,Q,y2,J⟩ z1 Q Q (On (aA.block (Ws (Wr ?_))))))))
 refine af LT.eql aV (aI (Bv (r2.1 == 0)) y4 (On (aA.eP (fun j8 => ([(2,Cc (.pl 21 0)),(3,Cc (.pl 25 0))],[(0,.row 105 [[xT dI j8.1,iC j8.2.1,iC j8.2.2.1]]),(21,.row 46 [[iC 0,sC aJ,sC aJ]]),(23,pR 40 aK r1.1.Graph.aC),(25,.row 46 [[iC r1.1.Graph.aH,lo 23 r1.1.Graph.aC.length,xT au j8.2.2.2]])])) ?_ (fun j8 _ => ?_))))
 ·refine aA.cond Q (fun yV => ?_) (fun yV => ?_)
  ·refine aA.draw mixed (eH (lo 24 r1.1.Places.length) jm kU ax (bJ (Cc (.pl 0 0)) y4 (Y2 (iO 27 aF [(0,.const (.int .i64 (-1)),.c (iC (-1))),(1,.const (.int .i64 5),.c (iC 5)),(2,.const (.int .i64 9),.c (iC 9))] ([-1,5,9]:List Int) dS iH y7) y2 y2 y2 Q Q (aU.bind fun r10 Es => (aU.step (cF [.c (.pl 0 0),.c (lo 27 (([-1,5,9]:List Int).length))] [(27,pR 3 aF ([-1,5,9]:List Int))] (Fw.Fn.ren [(0,0)] (Ub r2.2 ([-1,5,9]:List Int) r10 Es) Q) QU (.cons (.c (.same Q)) (.cons (.c (.fC Q Q)) .nil)) z1 y3) z3 z2 Q Q (aU.bind fun x11 NY => (jV (LT.fP Q Q pG NY) Q y2 Q Q Q (bg (LT.gU Q xM) Q Q Q (kJ (lq 0 (.c (iC r10.1)) (dh.mk r10.1 x11.Y) Q Q mJ gI NY) Q Q Q Q Q (fA ?_))))))))))
   refine aA.ent (aQ.Qr (enc:=au) (xs:=(r1.1.Places.set (Int.toNat 0) (dh.mk r10.1 x11.Y))) (σ':=[(0,Cc (.pl 0 0)),(2,Cc (.pl 21 0)),(3,Cc (.pl 25 0)),(6,Cc (.pl 0 0)),(7,Iv r2.1),(8,Bv (r2.1 == 0)),(9,Bv (r2.1 == 0)),(10,Cc (.pl 25 2)),(11,Cc (xT au (r1.1.Places.set (Int.toNat 0) (dh.mk r10.1 x11.Y)))),(12,Cc (.pl 0 0)),(13,Cc (lo 27 (([-1,5,9]:List Int).length))),(14,Iv r10.1)]) (m':=[(0,.row 105 [fE r10.2]),(21,.row 46 [[iC 0,sC aJ,sC aJ]]),(23,pR 40 aK r1.1.Graph.aC),(25,.row 46 [[iC r1.1.Graph.aH,lo 23 r1.1.Graph.aC.length,xT au (r1.1.Places.set (Int.toNat 0) (dh.mk r10.1 x11.Y))]]),(27,pR 3 aF ([-1,5,9]:List Int))]) 24 hU Q Q ⟨⟨_,Q,.same Q⟩,⟨_,Q,.same Q⟩,⟨_,Q,.same Q⟩,⟨_,Q,.same Q⟩,⟨_,Q,.same Q⟩,⟨_,Q,.same Q⟩,⟨_,Q,.same Q⟩,⟨_,Q,.same Q⟩,⟨_,Q,.c (.fr (by simp only [List.length_map,List.length_set]))⟩,⟨_,Q,.same Q⟩,⟨_,Q,.same Q⟩,⟨_,Q,.same Q⟩,J⟩ ⟨⟨Q,_,Q,.same Q⟩,⟨Q,_,Q,.same Q⟩,⟨Q,_,Q,.same Q⟩,⟨Q,_,Q,.row (.cons (.same Q) (.cons (.same Q) (.cons (.fr (by simp only [List.length_map,List.length_set])) .nil)))⟩,⟨Q,_,Q,.same Q⟩,J⟩) (aX Q z2 z4)
  ·refine Ws (Wr ?_)
   refine af LT.eql aV (aI (Bv (r2.1 == 1)) y4 (On (aA.cond Q (fun hc12 => ?_) (fun hc12 => ?_))))
   ·refine Wr (dK (lo 24 r1.1.Places.length) jm kU ax (aO.ent (aQ.Qr (enc:=au) (xs:=r1.1.Places) (σ':=[(0,Cc (.pl 0 0)),(2,Cc (.pl 21 0)),(3,Cc (.pl 25 0)),(6,Cc (.pl 0 0)),(7,Iv r2.1),(8,Bv (r2.1 == 0)),(9,Bv (r2.1 == 0)),(17,Bv (r2.1 == 1)),(18,Bv (r2.1 == 1)),(19,Cc (.pl 25 2)),(20,Cc (xT au r1.1.Places))]) (m':=[(0,.row 105 [fE r2.2]),(21,.row 46 [[iC 0,sC aJ,sC aJ]]),(23,pR 40 aK r1.1.Graph.aC),(25,.row 46 [[iC r1.1.Graph.aH,lo 23 r1.1.Graph.aC.length,xT au r1.1.Places]])]) 24 hU Q Q ⟨⟨_,Q,.same Q⟩,⟨_,Q,.same Q⟩,⟨_,Q,.same Q⟩,⟨_,Q,.same Q⟩,⟨_,Q,.same Q⟩,⟨_,Q,.same Q⟩,⟨_,Q,.same Q⟩,⟨_,Q,.same Q⟩,⟨_,Q,.same Q⟩,⟨_,Q,.same Q⟩,⟨_,Q,.c (.fr (by rw [List.length_map]))⟩,J⟩ ⟨⟨Q,_,Q,.same Q⟩,⟨Q,_,Q,.same Q⟩,⟨Q,_,Q,.same Q⟩,⟨Q,_,Q,.row (.cons (.same Q) (.cons (.same Q) (.cons (.fr (by rw [List.length_map])) .nil)))⟩,J⟩) (aP fun v13 W9 => (dY (LT.Yd (enc:=au) (wJ:=(some (.const (.int .i64 1),1))) (wI:=none) (l:=(Int.toNat 1)) (h:=r1.1.Places.length) Q Q Q sU qA (fun _ => by rw [jy]; rfl) (.inl ⟨_,_,Q,(Kv W9).1,Q⟩) (.inr y2) (YQ W9) (YP W9)) Q y2 Q Q (aY (LT.gU Q jm) Q Q Q (bQ (qh (.c (xT au ((r1.1.Places.take r1.1.Places.length).drop (Int.toNat 1)))) [iC r1.1.Graph.aH,lo 23 r1.1.Graph.aC.length,xT au ((r1.1.Places.take r1.1.Places.length).drop (Int.toNat 1))] Q Q Rn UL) Q Q Q Q Q (On (aX Q z2 z4))))))))
   ·refine aA.skip (aA.ent (aQ.Qr (enc:=au) (xs:=r1.1.Places) (σ':=[(0,Cc (.pl 0 0)),(2,Cc (.pl 21 0)),(3,Cc (.pl 25 0)),(6,Cc (.pl 0 0)),(7,Iv r2.1),(8,Bv (r2.1 == 0)),(9,Bv (r2.1 == 0)),(17,Bv (r2.1 == 1)),(18,Bv (r2.1 == 1))]) (m':=[(0,.row 105 [fE r2.2]),(21,.row 46 [[iC 0,sC aJ,sC aJ]]),(23,pR 40 aK r1.1.Graph.aC),(25,.row 46 [[iC r1.1.Graph.aH,lo 23 r1.1.Graph.aC.length,xT au r1.1.Places]])]) 24 hU Q Q ⟨⟨_,Q,.same Q⟩,⟨_,Q,.same Q⟩,⟨_,Q,.same Q⟩,⟨_,Q,.same Q⟩,⟨_,Q,.same Q⟩,⟨_,Q,.same Q⟩,⟨_,Q,.same Q⟩,⟨_,Q,.same Q⟩,⟨_,Q,.same Q⟩,J⟩ ⟨⟨Q,_,Q,.same Q⟩,⟨Q,_,Q,.same Q⟩,⟨Q,_,Q,.same Q⟩,⟨Q,_,Q,.row (.cons (.same Q) (.cons (.same Q) (.cons (.fr (by rw [List.length_map])) .nil)))⟩,J⟩) (aX Q z2 z4))
 ·refine aA.blk (Ws (Wr ?_))
  refine bM (bV [iC r1.1.Graph.aH,lo 23 r1.1.Graph.aC.length,xT au j8.2.2.2] Q gJ dR dB) Q Q Q Q (bQ (stA [iC r1.1.Graph.aH,lo 23 r1.1.Graph.aC.length,xT au j8.2.2.2] Q Q dR dB) Q Q Q Q Q (On (en [(2,Cc (.pl 21 0))] [(0,.row 105 [[xT dI j8.1,iC j8.2.1,iC j8.2.2.1]]),(21,.row 46 [[iC r1.1.Graph.aH,lo 23 r1.1.Graph.aC.length,xT au j8.2.2.2]]),(23,pR 40 aK r1.1.Graph.aC)] z1 z3 (aA.ent (aQ.mv 23 1 Q Q) (en [(2,Cc (.pl 21 0))] [(0,.row 105 [[xT dI j8.1,iC j8.2.1,iC j8.2.2.1]]),(1,pR 40 aK r1.1.Graph.aC),(21,.row 46 [[iC r1.1.Graph.aH,lo 1 r1.1.Graph.aC.length,xT au j8.2.2.2]])] z1 z3 (bP ⟨⟨_,_,_,Q,Q,Q,gJ,dB,_,gm dR⟩,J⟩ z2 ⟨⟨ah.sc,J,nN qy,J⟩,J⟩ ⟨bD.mV ⟨nN oU,ah.sc,ah.sc,J⟩,bD.bf kG,J⟩))))))
theorem aMU (p:dh):FT Tryz.prog (OO p) 160 [.agg [iC p.X,iC p.Y]] [] (fun (t:Bool) => [.c (bC t)]) (fun (t:Bool) => []) []:=by
 refine FT.of [] Tryz.func160 Tryz.ntmps160 Q y2 ?_
 intro w0 U0 R0 g0
 unfold OO
 refine Ws (Wr ?_)
 refine iL 21 (.agg [iC p.X,iC p.Y]) jy y5 (aI (Bv false) aZ (On (Ws ?_)))
 refine aA.eP (fun j4 => ([(2,Bv j4)],[])) ?_ (fun j4 _ => ?_)
 ·refine Wr (dK (iC p.X) xM ak ax (aP fun r5 mG => (jD [.c (iC p.X),.c (iC 0),.c (iC 4)] (CS p.X 0 4 r5 mG) Am (qF y3) y5 ⟨Q,Q,y2,y2,J⟩ (aG (Bv r5) y4 (aO.split (fun hb6 => ?_) (fun hb6 => ?_))))))
  ·refine kE (iC p.Y) zO ak hb6 iM (aP fun r7 oI => (aO.pure (cZ [.c (iC p.Y),.c (iC 0),.c (iC 4)] (CS p.Y 0 4 r7 oI) Am (qF y3) J y3) ⟨Q,Q,y2,y2,J⟩ J (gH hb6 Q Q) Q (dJ (Bv r7) hb6 y5 (aI (Bv r7) y4 (On (aX Q z1 J))))))
  ·refine aS hb6 y5 (aS hb6 y5 (aS hb6 y5 (eU (Bv false) hb6 aV (aI (Bv false) y4 (On (aX Q z1 J))))))
 ·refine bP z1 J ⟨ah.sc,J⟩ J
theorem EK (f:bF):FT Tryz.prog (xW f) 116 [.agg (bn f)] [] (fun (t:Bool) => [.c (bC t)]) (fun (t:Bool) => []) []:=by
 refine FT.of [] Tryz.func116 Tryz.ntmps116 Q y2 ?_
 intro w0 U0 R0 g0
 unfold xW
 refine Ws (Wr ?_)
 refine iL 21 (.agg (bn f)) dB y5 (aI (Bv false) aZ (On (Ws (Wr ?_))))
 refine aY (LT.gU Q lF) Q Q Q (bM (bV (ai f.Graph) Q eY dA bU) Q Q Q Q (eG 22 [iC 0,sC aJ] jk y6 (bQ (stA (ai f.Graph) Q Q dA bU) Q Q Q Q Q (On (Ws (Ws ?_))))))
 refine aA.eP (fun j5 => ([(1,Cc (.pl 21 0)),(3,Cc (.pl 22 0)),(31,Bv j5)],[(21,.row 46 [bn f]),(22,.row 26 [ai f.Graph])])) ?_ (fun j5 _ => ?_)
 ·refine en [(1,Cc (.pl 21 0)),(3,Cc (.pl 22 0))] [(21,.row 46 [bn f]),(22,.row 26 [ai f.Graph])] z2 z2 (Wr (bM (bV (ai f.Graph) Q eY dA bU) Q Q Q Q (aP fun r6 rW => (jD [.agg (ai f.Graph)] (Yi f.Graph r6 rW) U9 (vX y2) y5 z2 (aY (LT.not Q) Q Q Q (aG (Bv (!r6)) y4 (aO.split (fun hb7 => ?_) (fun hb7 => ?_))))))))
  ·refine aS hb7 y5 (aS hb7 y5 (aS hb7 y5 (dJ (Bv true) hb7 aV (aG (Bv true) y4 (ay y5 (ay y5 (ay y5 (ay y5 (dJ (Bv true) Q aV (aG (Bv true) y4 (ay y5 ?_)))))))))))
   refine ay y5 (ay y5 (ay y5 (ay y5 (ay y5 (dJ (Bv true) Q aV (On (aX Q z3 z2)))))))
  ·refine kE (iC f.Graph.aH) kV ak hb7 iM (iy LT.gtr hb7 kD (eU (Bv (decide (6 < f.Graph.aH))) hb7 y5 (aG (Bv (decide (6 < f.Graph.aH))) y4 (aO.split (fun hb8 => ?_) (fun hb8 => ?_)))))
   ·refine aS hb8 y5 (aS hb8 y5 (aS hb8 y5 (aS hb8 y5 (dJ (Bv true) hb8 aV (aG (Bv true) y4 (ay y5 (ay y5 (ay y5 (ay y5 (ay y5 (ay y5 ?_)))))))))))
    refine dJ (Bv true) Q aV (On (aX Q z3 z2))
   ·refine kE (xF aK f.Graph.aC) gK iK hb8 iM (aY (LT.iI Q iU) Q (gH hb8 Q Q) Q (iy LT.gtr hb8 kD (eU (Bv (decide (15 < (f.Graph.aC.length:Int)))) hb8 y5 (aG (Bv (decide (15 < (f.Graph.aC.length:Int)))) y4 (aO.split (fun oO => ?_) (fun oO => ?_))))))
    ·refine aS oO y5 (aS oO y5 (aS oO y5 (aS oO y5 (aS oO y5 (aS oO y5 (dJ (Bv true) oO aV (On (aX Q z3 z2))))))))
    ·refine kE (xF au f.Places) jm kU oO iM (aY (LT.iI Q sU) Q (gH oO Q Q) Q (kE (iC f.Graph.aH) kV ak oO iM (iy LT.neq oO y6 (eU (Bv ((f.Places.length:Int) != f.Graph.aH)) oO y5 (On (aX Q z3 z2))))))
 ·refine aA.cond Q (fun MR => ?_) (fun MR => ?_)
  ·refine Ws (Wr ?_)
   refine aI (Bv false) aZ (On (bP z1 J ⟨ah.sc,J⟩ J))
  ·refine aA.skip (Ws (Ws (Wr ?_)))
   refine dK (xF au f.Places) jm kU ax (aY (LT.iI Q sU) Q Q Q (aG (Iv 0) aZ (On (aA.block ?_))))
   refine aA.oz (id:=0) (IZ f) (fun s11 => ([(1,Cc (.pl 21 0)),(3,Cc (.pl 22 0)),(33,Cc (xF au f.Places)),(34,Iv (f.Places.length:Int)),(35,Iv s11)],[(21,.row 46 [bn f]),(22,.row 26 [ai f.Graph])])) (fun b20 => ([(1,Cc (.pl 21 0)),(3,Cc (.pl 22 0))],[(21,.row 46 [bn f]),(22,.row 26 [ai f.Graph])])) (lU Tryz.prog Tryz.f116.results.toList [] [] (fun (t:Bool) => [.c (bC t)]) (fun (t:Bool) => [])) ?_ (aQ.of z5 z2) Q (fun b20 _ => ?_) qC
   ·intro s11
    unfold IZ
    refine Ws (Wr ?_)
    refine af LT.lss y5 (On (Ws ?_))
    refine aA.cond Q (fun hc21 => ?_) (fun hc21 => ?_)
    ·refine aA.skip (Ws (aA.block (Ws (Wr ?_))))
     refine aP fun rG DN => (dY (LT.eF (enc:=au) Q pG DN jy) Q Q Q Q (aY (lH Q uJ qA jy) Q Q Q (eG 24 [iC 0,iC 0] uS y6 (bQ (stA [iC rG.X,iC rG.Y] Q Q qA jy) Q Q Q Q Q (On (Ws (Wr ?_)))))))
     refine bM (bV [iC rG.X,iC rG.Y] Q uJ qA jy) Q Q Q Q (aP fun ni NQ => (jD [.agg [iC rG.X,iC rG.Y]] (aMU rG ni NQ) aFZ (vX y2) y5 z2 (aY (LT.not Q) Q Q Q (On (aA.cond Q (fun hc24 => ?_) (fun hc24 => ?_))))))
     ·refine Ws (en [] [] J J (Wr (aI (Bv false) aZ (On (aA.ret ⟨Q,pX z1 J ⟨ah.sc,J⟩ J⟩)))))
     ·refine aA.skip (aA.blk ?_)
      refine en [(1,Cc (.pl 21 0)),(3,Cc (.pl 22 0)),(33,Cc (xF au f.Places)),(34,Iv (f.Places.length:Int)),(35,Iv s11)] [(21,.row 46 [bn f]),(22,.row 26 [ai f.Graph])] z5 z2 (Wr (af LT.add aV (aG (Iv (aB (s11 + 1))) y4 (On (aX Q z5 z2)))))
    ·refine fV y2 z2 z2
   ·refine Ws (Ws (Wr ?_))
    refine dK (xF aK f.Graph.aC) gK iK ax (aY (LT.iI Q iU) Q Q Q (aG (Iv 0) aZ (On (aA.block ?_))))
    refine aA.oz (id:=2) (Ia f) (fun uD => ([(1,Cc (.pl 21 0)),(3,Cc (.pl 22 0)),(44,Cc (xF aK f.Graph.aC)),(45,Iv (f.Graph.aC.length:Int)),(46,Iv uD)],[(21,.row 46 [bn f]),(22,.row 26 [ai f.Graph])])) (fun ZL => ([],[])) (lU Tryz.prog Tryz.f116.results.toList [] [] (fun (t:Bool) => [.c (bC t)]) (fun (t:Bool) => [])) ?_ (aQ.of z5 z2) Q (fun ZL _ => ?_) qC
    ·intro uD
     unfold Ia
     refine Ws (Wr ?_)
     refine af LT.lss y5 (On (Ws ?_))
     refine aA.cond Q (fun hc63 => ?_) (fun hc63 => ?_)
     ·refine aA.skip (Ws (aA.block (Ws (Wr ?_))))
      refine aG (Iv uD) y4 (aP fun qJ aJE => (dY (LT.eF (enc:=aK) Q nU aJE fB) Q Q Q Q (aY (lH Q kz jL fB) Q Q Q (eG 26 [iC 0,iC 0] jT y6 (aI (Iv uD) y4 (bQ (stA [iC qJ.A,iC qJ.B] Q Q jL fB) Q Q Q Q Q (On (Ws ?_))))))))
      refine aA.eP (fun j72 => ([(1,Cc (.pl 21 0)),(3,Cc (.pl 22 0)),(44,Cc (xF aK f.Graph.aC)),(45,Iv (f.Graph.aC.length:Int)),(46,Iv uD),(77,Bv j72)],[(21,.row 46 [bn f]),(22,.row 26 [ai f.Graph])])) ?_ (fun j72 _ => ?_)
      ·refine en [(1,Cc (.pl 21 0)),(3,Cc (.pl 22 0)),(6,Iv uD),(7,Cc (.pl 26 0)),(44,Cc (xF aK f.Graph.aC)),(45,Iv (f.Graph.aC.length:Int)),(46,Iv uD)] [(21,.row 46 [bn f]),(22,.row 26 [ai f.Graph]),(26,.row 40 [[iC qJ.A,iC qJ.B]])] z7 z3 (aA.draw mixed (bJ (Iv uD) y4 (jJ LT.gtr aV (bJ (Bv (decide (0 < uD))) y4 (aU.split (fun sN => ?_) (fun sN => ?_))))))
       ·refine oC (xF aK f.Graph.aC) gK iK sN iM (nV (Iv uD) sN y5 (oZ LT.sub sN kD (aU.bind fun CZ aJG => (dZ (LT.eF (enc:=aK) Q nU aJG fB) Q Q (gH sN Q Q) Q (bg (lH Q kz jL fB) Q (gH sN Q Q) Q (gq (bV [iC qJ.A,iC qJ.B] Q kz jL fB) Q Q (gH sN Q Q) Q (dZ (LT.MH [CZ.A,CZ.B] [qJ.A,qJ.B] Q Ru Q Q) Q Q (gH sN Q Q) Q (oJ (Bv (jZ [CZ.A,CZ.B] [qJ.A,qJ.B])) sN y5 (bJ (Bv (jZ [CZ.A,CZ.B] [qJ.A,qJ.B])) y4 (aU.split (fun ou => ?_) (fun ou => ?_)))))))))))
        ·refine bI ou y3 (bI ou y3 (bI ou y3 (bI ou y3 (bI ou y3 (bI ou y3 (bI ou y3 (bI ou y3 (bI ou y3 (bI ou y3 (bI ou y3 (bI ou y3 ?_)))))))))))
         refine bI ou y3 (oJ (Bv true) ou aV (fA (aX Q z6 z2)))
        ·refine oC (xF au f.Places) jm kU ou iM (oC (iC qJ.A) lM ak ou iM (aU.bind fun Gn aJH => (dZ (LT.eF (enc:=au) Q pG aJH jy) Q Q (gH ou Q Q) Q (bg (lH Q uJ qA jy) Q (gH ou Q Q) Q (oC (xF au f.Places) jm kU ou iM (oC (iC qJ.B) mZ ak ou iM (aU.bind fun Gp aJI => ?_)))))))
         refine dZ (LT.eF (enc:=au) Q pG aJI jy) Q Q (gH ou Q Q) Q (bg (lH Q uJ qA jy) Q (gH ou Q Q) Q (dZ (LT.MH [Gn.X,Gn.Y] [Gp.X,Gp.Y] Q Nq Q Q) Q Q (gH ou Q Q) Q (o7 (Bv (jZ [Gn.X,Gn.Y] [Gp.X,Gp.Y])) ou y5 (fA (aX Q z6 z2)))))
       ·refine bI sN y3 (bI sN y3 (bI sN y3 (bI sN y3 (bI sN y3 (bI sN y3 (bI sN y3 (bI sN y3 (o7 (Bv false) sN aV (bJ (Bv false) y4 (bg (LT.gU Q jm) Q (gS Q Q) Q (gq (yc (xF au f.Places) Q kU) Q Q (gS Q Q) Q ?_)))))))))))
        refine bg (LT.gU Q lM) Q (gS Q Q) Q (gq (yc (iC qJ.A) Q ak) Q Q (gS Q Q) Q (aU.bind fun Gq aJJ => (dZ (LT.eF (enc:=au) Q pG aJJ jy) Q Q (gS Q Q) Q (bg (lH Q uJ qA jy) Q (gS Q Q) Q (bg (LT.gU Q jm) Q (gS Q Q) Q (gq (yc (xF au f.Places) Q kU) Q Q (gS Q Q) Q (bg (LT.gU Q mZ) Q (gS Q Q) Q (gq (yc (iC qJ.B) Q ak) Q Q (gS Q Q) Q (aU.bind fun Gt aJK => (dZ (LT.eF (enc:=au) Q pG aJK jy) Q Q (gS Q Q) Q (bg (lH Q uJ qA jy) Q (gS Q Q) Q ?_)))))))))))
        refine dZ (LT.MH [Gq.X,Gq.Y] [Gt.X,Gt.Y] Q Nq Q Q) Q Q (gS Q Q) Q (o7 (Bv (jZ [Gq.X,Gq.Y] [Gt.X,Gt.Y])) Q y5 (fA (aX Q z6 z2)))
      ·refine aA.cond Q (fun aHU => ?_) (fun aHU => ?_)
       ·refine Ws (Wr ?_)
        refine aI (Bv false) aZ (On (aA.ret ⟨Q,pX z1 J ⟨ah.sc,J⟩ J⟩))
       ·refine aA.skip (aA.blk (Wr ?_))
        refine af LT.add aV (aG (Iv (aB (uD + 1))) y4 (On (aX Q z5 z2)))
     ·refine fV y2 J J
    ·refine Ws (Wr ?_)
     refine aI (Bv true) aZ (On (bP z1 J ⟨ah.sc,J⟩ J))
theorem aEF (f:bF):FT Tryz.prog (Il f) 152 [.agg (bn f)] [] (fun (t:(List (List Int))) => [.c (lo 0 t.length)]) (fun (t:(List (List Int))) => [(0,.bZ 28 1 (bK t)),(1,.pool 3 (rowsOf aF t))]) [0,1]:=by
 refine FT.of [] Tryz.func152 Tryz.ntmps152 Q y2 ?_
 intro w0 U0 R0 g0
 unfold Il
 refine Ws (Wr ?_)
 refine iL 21 (.agg (bn f)) dB y5 (aI (Cc (sC aJ)) aZ (On (Ws (Wr ?_))))
 refine l7 (LT.buildSlice (n:=22) (els:=[]) [] Q Q kR pK Q Q Q Q (by decide) Q Q) Q Q (aI (Cc (lo 22 0)) y4 (On (aA.ent (aQ.PZ 23 3 Q) (aA.ent (aQ.bZ (n:=22) (p:=23) (lens:=bK ([]:List (List Int))) (List.append_nil _) Q) (Ws (Ws (Wr ?_)))))))
 refine bM (bV (bn f) Q gJ dR dB) Q Q Q Q (aP fun r1 hr1 => (jD [.agg (bn f)] (EK f r1 hr1) C9 (oL y3) y5 z2 (aY (LT.not Q) Q Q Q (On (aA.cond Q (fun hc2 => ?_) (fun hc2 => ?_))))))
 ·refine Ws (Wr ?_)
  refine aG (Cc (lo 22 0)) y4 (aI (Cc (lo 22 0)) y4 (On (en [(2,Cc (lo 22 0))] [(22,.bZ 28 23 (bK ([]:List (List Int)))),(23,.pool 3 (rowsOf aF ([]:List (List Int))))] z1 z2 (aA.ent (aQ.mv 22 0 Q Q) (aA.ent (aQ.mv 23 1 Q Q) (en [(2,Cc (lo 0 (([]:List (List Int)).length)))] [(0,.bZ 28 1 (bK ([]:List (List Int)))),(1,.pool 3 (rowsOf aF ([]:List (List Int))))] z1 z2 (bP z1 z2 ⟨J,J⟩ ⟨J,bD.Bo dw _,J⟩)))))))
 ·refine aA.skip (Ws (Ws (Wr ?_)))
  refine aY (LT.gU Q lF) Q Q Q (dK (xF aK f.Graph.aC) gK iK ax (aY (LT.iI Q iU) Q Q Q (aG (Iv 0) aZ (On (aA.block ?_)))))
  refine aA.jI (id:=0) (Io f) (fun s3 => ([(1,Cc (.pl 21 0)),(3,Cc (lo 22 s3.2.length)),(16,Cc (xF aK f.Graph.aC)),(17,Iv (f.Graph.aC.length:Int)),(18,Iv s3.1)],[(21,.row 46 [bn f]),(22,.bZ 28 23 (bK s3.2)),(23,.pool 3 (rowsOf aF s3.2))])) (fun nG => ([(3,Cc (lo 22 nG.length))],[(22,.bZ 28 23 (bK nG)),(23,.pool 3 (rowsOf aF nG))])) ?_ (aQ.of z5 z3) Q (fun nG _ => ?_)
  ·intro s3
   unfold Io
   refine Ws (Wr ?_)
   refine af LT.lss y5 (On (Ws ?_))
   refine aA.cond Q (fun hc25 => ?_) (fun hc25 => ?_)
   ·refine aA.skip (Ws (aA.block (Ws (Wr ?_))))
    refine aP fun iY RY => (dY (LT.eF (enc:=aK) Q nU RY fB) Q Q Q Q (aY (lH Q kz jL fB) Q Q Q (eG 25 [iC 0,iC 0] jT y6 (bQ (stA [iC iY.A,iC iY.B] Q Q jL fB) Q Q Q Q Q (On (Ws (Wr ?_)))))))
    refine aY (LT.gU Q lF) Q Q Q (dK (iC f.Graph.aH) kV ak ax (af LT.mul qH (aP fun u27 aIk => (zD (LT.CP (n:=26) (enc:=aF) (zc:=[iC 0]) (0:Int) Q dS iH Q Q Q (by decide) (by decide) (zY aIk) Q) Q Q Q Q (aI (Cc (lo 26 ((List.replicate (aB (2 * f.Graph.aH)).toNat (0:Int)).length))) y4 (On (Ws ?_)))))))
    refine en [(1,Cc (.pl 21 0)),(3,Cc (lo 22 s3.2.length)),(5,Cc (.pl 25 0)),(6,Cc (lo 26 ((List.replicate (aB (2 * f.Graph.aH)).toNat (0:Int)).length))),(16,Cc (xF aK f.Graph.aC)),(17,Iv (f.Graph.aC.length:Int)),(18,Iv s3.1)] [(21,.row 46 [bn f]),(22,.bZ 28 23 (bK s3.2)),(23,.pool 3 (rowsOf aF s3.2)),(25,.row 40 [[iC iY.A,iC iY.B]]),(26,pR 3 aF (List.replicate (aB (2 * f.Graph.aH)).toNat (0:Int)))] z7 z5 (aA.draw mixed (eH (xF au f.Places) jm kU ax (eH (iC iY.A) lM ak ax (aU.bind fun x28 hx28 => (dZ (LT.eF (enc:=au) Q pG hx28 jy) Q Q Q Q (bg (lH Q uJ qA jy) Q Q Q (eH (xF au f.Places) jm kU ax (bg (LT.gU Q mZ) Q Q Q ?_))))))))
    refine gq (yc (iC iY.B) Q ak) Q Q Q Q (aU.bind fun x29 hx29 => (dZ (LT.eF (enc:=au) Q pG hx29 jy) Q Q Q Q (bg (lH Q uJ qA jy) Q Q Q (xI (LT.alloc (n:=27) (cells:=[iC 0,iC 0]) Q uS Q Q Q) Q Q (xI (LT.alloc (n:=28) (cells:=[iC 0,iC 0]) Q uS Q Q Q) Q Q (kJ (stA [iC x28.X,iC x28.Y] Q Q qA jy) Q Q Q Q Q (kJ (stA [iC x29.X,iC x29.Y] Q Q qA jy) Q Q Q Q Q (fA (Ws (en [(1,Cc (.pl 21 0)),(3,Cc (lo 22 s3.2.length)),(5,Cc (.pl 25 0)),(6,Cc (lo 26 ((List.replicate (aB (2 * f.Graph.aH)).toNat (0:Int)).length))),(7,Cc (.pl 27 0)),(8,Cc (.pl 28 0)),(16,Cc (xF aK f.Graph.aC)),(17,Iv (f.Graph.aC.length:Int)),(18,Iv s3.1)] [(21,.row 46 [bn f]),(22,.bZ 28 23 (bK s3.2)),(23,.pool 3 (rowsOf aF s3.2)),(25,.row 40 [[iC iY.A,iC iY.B]]),(26,pR 3 aF (List.replicate (aB (2 * f.Graph.aH)).toNat (0:Int))),(27,.row 98 [[iC x28.X,iC x28.Y]]),(28,.row 98 [[iC x29.X,iC x29.Y]])] z9 z7 (aA.draw mixed ?_)))))))))))
    refine bJ (Cc (lo 26 ((List.replicate (aB (2 * f.Graph.aH)).toNat (0:Int)).length))) y4 (eH (iC iY.A) lM ak ax (jJ LT.mul qH (bJ (Cc (lo 26 ((List.replicate (aB (2 * f.Graph.aH)).toNat (0:Int)).length))) y4 (eH (iC iY.A) lM ak ax (jJ LT.mul qH (jJ LT.add aV (eH (iC x28.X) xM ak ax (bg (LT.gU Q xM) Q Q Q ?_))))))))
    refine gq (yc (iC x29.X) Q ak) Q Q Q Q (jJ LT.sub y5 (eH (iC x28.Y) zO ak ax (eH (iC x29.Y) zO ak ax (jJ LT.sub y5 (aU.bind fun x30 aBY => (jV (LT.fP Q Q dU aBY) Q Q Q Q Q (kJ (lq 0 (.c (iC (aB (x28.X - x29.X)))) (aB (x28.X - x29.X)) Q Q mJ gI aBY) Q Q Q Q Q (aU.bind fun x31 hx31 => (jV (LT.fP (show (List.replicate (aB (2 * f.Graph.aH)).toNat (0:Int)).length = ((List.replicate (aB (2 * f.Graph.aH)).toNat (0:Int)).set (aB (2 * iY.A)).toNat (aB (x28.X - x29.X))).length by simp only [List.length_set]) Q dU hx31) Q Q Q Q Q ?_)))))))))
    refine kJ (lq 0 (.c (iC (aB (x28.Y - x29.Y)))) (aB (x28.Y - x29.Y)) Q Q mJ gI hx31) Q Q Q Q Q (fA (Ws (en [(1,Cc (.pl 21 0)),(3,Cc (lo 22 s3.2.length)),(5,Cc (.pl 25 0)),(6,Cc (lo 26 ((List.replicate (aB (2 * f.Graph.aH)).toNat (0:Int)).length))),(7,Cc (.pl 27 0)),(8,Cc (.pl 28 0)),(16,Cc (xF aK f.Graph.aC)),(17,Iv (f.Graph.aC.length:Int)),(18,Iv s3.1)] [(21,.row 46 [bn f]),(22,.bZ 28 23 (bK s3.2)),(23,.pool 3 (rowsOf aF s3.2)),(25,.row 40 [[iC iY.A,iC iY.B]]),(26,pR 3 aF (((List.replicate (aB (2 * f.Graph.aH)).toNat (0:Int)).set (aB (2 * iY.A)).toNat (aB (x28.X - x29.X))).set (aB ((aB (2 * iY.A)) + 1)).toNat (aB (x28.Y - x29.Y)))),(27,.row 98 [[iC x28.X,iC x28.Y]]),(28,.row 98 [[iC x29.X,iC x29.Y]])] z9 z7 (aA.draw mixed (bJ (Cc (lo 26 ((List.replicate (aB (2 * f.Graph.aH)).toNat (0:Int)).length))) y4 (eH (iC iY.B) mZ ak ax (jJ LT.mul qH (bJ (Cc (lo 26 ((List.replicate (aB (2 * f.Graph.aH)).toNat (0:Int)).length))) y4 (eH (iC iY.B) mZ ak ax ?_)))))))))
    refine jJ LT.mul qH (jJ LT.add aV (eH (iC x29.X) xM ak ax (eH (iC x28.X) xM ak ax (jJ LT.sub y5 (eH (iC x29.Y) zO ak ax (eH (iC x28.Y) zO ak ax (jJ LT.sub y5 ?_)))))))
    refine aU.bind fun x32 hx32 => (jV (LT.fP (show (List.replicate (aB (2 * f.Graph.aH)).toNat (0:Int)).length = (((List.replicate (aB (2 * f.Graph.aH)).toNat (0:Int)).set (aB (2 * iY.A)).toNat (aB (x28.X - x29.X))).set (aB ((aB (2 * iY.A)) + 1)).toNat (aB (x28.Y - x29.Y))).length by simp only [List.length_set]) Q dU hx32) Q Q Q Q Q (kJ (lq 0 (.c (iC (aB (x29.X - x28.X)))) (aB (x29.X - x28.X)) Q Q mJ gI hx32) Q Q Q Q Q (aU.bind fun x33 aBZ => (jV (LT.fP (show (List.replicate (aB (2 * f.Graph.aH)).toNat (0:Int)).length = ((((List.replicate (aB (2 * f.Graph.aH)).toNat (0:Int)).set (aB (2 * iY.A)).toNat (aB (x28.X - x29.X))).set (aB ((aB (2 * iY.A)) + 1)).toNat (aB (x28.Y - x29.Y))).set (aB (2 * iY.B)).toNat (aB (x29.X - x28.X))).length by simp only [List.length_set]) Q dU aBZ) Q Q Q Q Q (kJ (lq 0 (.c (iC (aB (x29.Y - x28.Y)))) (aB (x29.Y - x28.Y)) Q Q mJ gI aBZ) Q Q Q Q Q (fA (en [(1,Cc (.pl 21 0)),(3,Cc (lo 22 s3.2.length)),(6,Cc (lo 26 ((List.replicate (aB (2 * f.Graph.aH)).toNat (0:Int)).length))),(16,Cc (xF aK f.Graph.aC)),(17,Iv (f.Graph.aC.length:Int)),(18,Iv s3.1)] [(21,.row 46 [bn f]),(22,.bZ 28 23 (bK s3.2)),(23,.pool 3 (rowsOf aF s3.2)),(26,pR 3 aF (((((List.replicate (aB (2 * f.Graph.aH)).toNat (0:Int)).set (aB (2 * iY.A)).toNat (aB (x28.X - x29.X))).set (aB ((aB (2 * iY.A)) + 1)).toNat (aB (x28.Y - x29.Y))).set (aB (2 * iY.B)).toNat (aB (x29.X - x28.X))).set (aB ((aB (2 * iY.B)) + 1)).toNat (aB (x29.Y - x28.Y))))] z6 z4 (Wr (aG (Cc (lo 22 s3.2.length)) y4 (aG (Cc (lo 26 ((List.replicate (aB (2 * f.Graph.aH)).toNat (0:Int)).length))) y4 (nP (LT.buildSlice (n:=29) (els:=[[lo 26 ((List.replicate (aB (2 * f.Graph.aH)).toNat (0:Int)).length)]]) [(0,.tmp 82,.c (lo 26 ((List.replicate (aB (2 * f.Graph.aH)).toNat (0:Int)).length)))] Q Q kR pK Q Q Q Q (by decide) Q Q) Q Q Q ?_)))))))))))
    refine aP fun u34 aIo => (ny (LT.Uj Q Q Q kR pK Q (by decide) (by decide) Q (jo aIo)) Q Q Q Q Q Q (aI (Cc (lo 22 (s3.2.length + 1))) y4 (On (aA.ent (aQ.UM (enc:=aF) (n:=22) (m:=26) (p:=23) (rows:=s3.2) (r:=(((((List.replicate (aB (2 * f.Graph.aH)).toNat (0:Int)).set (aB (2 * iY.A)).toNat (aB (x28.X - x29.X))).set (aB ((aB (2 * iY.A)) + 1)).toNat (aB (x28.Y - x29.Y))).set (aB (2 * iY.B)).toNat (aB (x29.X - x28.X))).set (aB ((aB (2 * iY.B)) + 1)).toNat (aB (x29.Y - x28.Y)))) (rest:=[]) (show (List.replicate (aB (2 * f.Graph.aH)).toNat (0:Int)).length = (((((List.replicate (aB (2 * f.Graph.aH)).toNat (0:Int)).set (aB (2 * iY.A)).toNat (aB (x28.X - x29.X))).set (aB ((aB (2 * iY.A)) + 1)).toNat (aB (x28.Y - x29.Y))).set (aB (2 * iY.B)).toNat (aB (x29.X - x28.X))).set (aB ((aB (2 * iY.B)) + 1)).toNat (aB (x29.Y - x28.Y))).length by simp only [List.length_set]) Q Q Q Q Q) (aA.ent (aQ.bZ (n:=22) (p:=23) (lens:=bK (s3.2 ++ [((((List.replicate (aB (2 * f.Graph.aH)).toNat (0:Int)).set (aB (2 * iY.A)).toNat (aB (x28.X - x29.X))).set (aB ((aB (2 * iY.A)) + 1)).toNat (aB (x28.Y - x29.Y))).set (aB (2 * iY.B)).toNat (aB (x29.X - x28.X))).set (aB ((aB (2 * iY.B)) + 1)).toNat (aB (x29.Y - x28.Y))])) (List.append_nil _) Q) (aA.blk (Wr ?_)))))))
    refine af LT.add aV (aG (Iv (aB (s3.1 + 1))) y4 (On (aA.nil ⟨Q,aQ.of ⟨Q,congrArg (fun l1 => (some (AV.s (.c (lo 22 l1))):Option AV)) (show (s3.2.length + 1) = (s3.2 ++ [((((List.replicate (aB (2 * f.Graph.aH)).toNat (0:Int)).set (aB (2 * iY.A)).toNat (aB (x28.X - x29.X))).set (aB ((aB (2 * iY.A)) + 1)).toNat (aB (x28.Y - x29.Y))).set (aB (2 * iY.B)).toNat (aB (x29.X - x28.X))).set (aB ((aB (2 * iY.B)) + 1)).toNat (aB (x29.Y - x28.Y))]).length from SI),Q,Q,Q,J⟩ z3⟩)))
   ·refine fV y2 z1 z2
  ·refine Ws (Wr ?_)
   refine aG (Cc (lo 22 nG.length)) y4 (aI (Cc (lo 22 nG.length)) y4 (On (en [(2,Cc (lo 22 nG.length))] [(22,.bZ 28 23 (bK nG)),(23,.pool 3 (rowsOf aF nG))] z1 z2 (aA.ent (aQ.mv 22 0 Q Q) (aA.ent (aQ.mv 23 1 Q Q) (en [(2,Cc (lo 0 nG.length))] [(0,.bZ 28 1 (bK nG)),(1,.pool 3 (rowsOf aF nG))] z1 z2 (bP z1 z2 ⟨J,J⟩ ⟨J,bD.Bo dw _,J⟩)))))))
theorem aMZ (m:(List (List Int))) (columns:Int):FT Tryz.prog (OU m columns) 151 [.c (xF (dQ false) m),.c (iC columns)] [] (fun (t:(List (List Int))) => [.c (lo 0 t.length)]) (fun (t:(List (List Int))) => [(0,.bZ 28 1 (bK t)),(1,.pool 3 (rowsOf aF t))]) [0,1]:=by
 refine FT.of [] Tryz.func151 Tryz.ntmps151 Q y2 ?_
 intro w0 U0 R0 g0
 unfold OU
 refine Ws (Wr ?_)
 refine aI (Cc (sC aJ)) aZ (On (Ws (Wr ?_)))
 refine aG (Iv columns) y4 (aP fun u1 hu1 => (zD (LT.aNJ (n:=21) Q kR pK (by decide) (zY hu1)) Q Q Q Q (aI (Cc (lo 21 columns.toNat)) y4 (On (aA.ent (aKW (enc:=aF) (n:=21) (p:=22) (c:=columns.toNat) (e:=28) (e2:=3) Q (by simp only [List.map_replicate]; try rfl) Q) (Ws (Ws (Wr ?_))))))))
 refine aG (Cc (lo 21 columns.toNat)) y4 (aY (LT.lG Q kR) Q Q Q (aG (Iv 0) aZ (On (aA.block ?_))))
 refine aA.jI (id:=0) (JE m columns) (fun s2 => ([(0,Cc (xF (dQ false) m)),(5,Cc (lo 21 s2.2.length)),(12,Iv (columns.toNat:Int)),(13,Iv s2.1)],[(21,.bZ 28 22 (bK s2.2)),(22,.pool 3 (rowsOf aF s2.2))])) (fun vC => ([(5,Cc (lo 21 vC.length))],[(21,.bZ 28 22 (bK vC)),(22,.pool 3 (rowsOf aF vC))])) ?_ (aQ.of ⟨Q,congrArg (fun l1 => (some (AV.s (.c (lo 21 l1))):Option AV)) (show columns.toNat = (List.replicate columns.toNat ([]:List Int)).length from List.length_replicate.symm),Q,Q,J⟩ z2) Q (fun vC _ => ?_)
 ·intro s2
  unfold JE
  refine Ws (Wr ?_)
  refine af LT.lss y5 (On (Ws ?_))
  refine aA.cond Q (fun V3 => ?_) (fun V3 => ?_)
  ·refine aA.skip (Ws (aA.block (Ws (Wr ?_))))
   refine aG (Iv s2.1) y4 (aI (Iv s2.1) y4 (On (Ws (Wr ?_))))
   refine aG (Cc (lo 21 s2.2.length)) y4 (aG (Iv s2.1) y4 (l7 (iO 23 aF [] [] dS iH y7) Q Q (aP fun x37 XH => (iq (LT.xH Q Q l9 XH) Q Q Q Q Q (bQ (LT.aEq (e:=28) (p:=22) Q Q (gm wW) uQ XH Q) Q Q Q Q Q (On (aA.ent (aQ.aDh (enc:=aF) (n:=21) (m:=23) (p:=22) (k:=s2.1.toNat) (rows:=s2.2) (r:=([]:List Int)) Q (List.getElem?_eq_some_iff.1 (nJ XH)).1 Q Q Q Q) ?_)))))))
   refine aA.ent (aQ.bZ (n:=21) (p:=22) (lens:=bK (s2.2.set s2.1.toNat ([]:List Int))) Q Q) (Ws (Wr ?_))
   refine aG (Cc (xF (dQ false) m)) y4 (aY (LT.iI Q kR) Q Q Q (aG (Iv 0) aZ (On (aA.block ?_))))
   refine aA.jI (id:=2) (JF m s2) (fun jw => ([(0,Cc (xF (dQ false) m)),(5,Cc (lo 21 jw.2.length)),(6,Iv s2.1),(12,Iv (columns.toNat:Int)),(13,Iv s2.1),(20,Cc (xF (dQ false) m)),(21,Iv (m.length:Int)),(22,Iv jw.1)],[(21,.bZ 28 22 (bK jw.2)),(22,.pool 3 (rowsOf aF jw.2))])) (fun oM => ([(0,Cc (xF (dQ false) m)),(5,Cc (lo 21 oM.2.length)),(12,Iv (columns.toNat:Int)),(13,Iv oM.1)],[(21,.bZ 28 22 (bK oM.2)),(22,.pool 3 (rowsOf aF oM.2))])) ?_ (aQ.of ⟨Q,congrArg (fun l1 => (some (AV.s (.c (lo 21 l1))):Option AV)) (show s2.2.length = (s2.2.set s2.1.toNat ([]:List Int)).length by simp only [List.length_set]),Q,Q,Q,Q,Q,Q,J⟩ z2) Q (fun oM _ => ?_)
   ·intro jw
    unfold JF
    refine Ws (Wr ?_)
    refine af LT.lss y5 (On (Ws ?_))
    refine aA.cond Q (fun V7 => ?_) (fun V7 => ?_)
    ·refine aA.skip (Ws (aA.block (Ws (Wr ?_))))
     refine aP fun Uh aJC => (dY (LT.eF (enc:=(dQ false)) Q l9 aJC uQ) Q Q Q Q (aY (LT.iw Q fF) Q Q Q (aI (Cc (xF aF Uh)) y4 (On (aA.draw mixed ?_)))))
     refine bJ (Cc (lo 21 jw.2.length)) y4 (bJ (Iv s2.1) y4 (bJ (Cc (lo 21 jw.2.length)) y4 (bJ (Iv s2.1) y4 (aU.bind fun x54 BK => (jV (LT.xH Q Q l9 BK) Q Q Q Q Q (gq (LT.zB Q fF BK Q) Q Q Q Q (bJ (Cc (xF aF Uh)) y4 (bJ (Iv s2.1) y4 (aU.bind fun x55 aJD => (dZ (LT.eF (enc:=aF) Q dU aJD gI) Q Q Q Q (bg (LT.iw Q ak) Q Q Q ?_)))))))))))
     refine Gu (iO 24 aF [(0,.tmp 35,.c (iC x55))] ([x55]:List Int) dS iH y7) Q Q Q (aU.bind fun u56 aIu => (aU.step (LT.aLn (p:=22) (k:=s2.1.toNat) (m:=25) (n:=21) (e:=28) (enc:=aF) (LT.nZ (n:=25) (n2:=24) (enc:=aF) Q Q Q dS iH Q (by decide) (by decide) (fun _ => Q) (jo aIu)) (nJ BK) Q) z2 z3 Q Q (aU.bind fun x57 XK => (jV (LT.aEp (show jw.2.length = (jw.2.set s2.1.toNat []).length by simp only [List.length_set]) Q l9 XK) Q Q Q Q Q (kJ (LT.aNL (e:=28) (p:=22) Q Q (gm wW) uQ XK Q) Q Q Q Q Q (fA (aA.ent (aQ.aDh (enc:=aF) (n:=21) (m:=25) (p:=22) (k:=s2.1.toNat) (rows:=(jw.2.set s2.1.toNat [])) (r:=(x54 ++ ([x55]:List Int))) Q (List.getElem?_eq_some_iff.1 (nJ XK)).1 Q Q Q Q) ?_)))))))
     refine aA.ent (aQ.bZ (n:=21) (p:=22) (lens:=bK ((jw.2.set s2.1.toNat []).set s2.1.toNat (x54 ++ ([x55]:List Int)))) Q Q) (aA.blk (Wr ?_))
     refine af LT.add aV (aG (Iv (aB (jw.1 + 1))) y4 (On (aA.nil ⟨Q,aQ.of ⟨Q,congrArg (fun l1 => (some (AV.s (.c (lo 21 l1))):Option AV)) (show jw.2.length = ((jw.2.set s2.1.toNat []).set s2.1.toNat (x54 ++ ([x55]:List Int))).length by simp only [List.length_set]),Q,Q,Q,Q,Q,Q,J⟩ z2⟩)))
    ·refine fV y2 z4 z2
   ·refine aA.blk (Wr ?_)
    refine af LT.add aV (aG (Iv (aB (oM.1 + 1))) y4 (On (aX Q z4 z2)))
  ·refine fV y2 z1 z2
 ·refine Ws (Wr ?_)
  refine aG (Cc (lo 21 vC.length)) y4 (aI (Cc (lo 21 vC.length)) y4 (On (en [(4,Cc (lo 21 vC.length))] [(21,.bZ 28 22 (bK vC)),(22,.pool 3 (rowsOf aF vC))] z1 z2 (aA.ent (aQ.mv 21 0 Q Q) (aA.ent (aQ.mv 22 1 Q Q) (en [(4,Cc (lo 0 vC.length))] [(0,.bZ 28 1 (bK vC)),(1,.pool 3 (rowsOf aF vC))] z1 z2 (bP z1 z2 ⟨J,J⟩ ⟨J,bD.Bo dw _,J⟩)))))))
theorem aMR (l:(List (List Int))):FT Tryz.prog (OL l) 205 [.c (xF (dQ false) l)] [] (fun (t:(List (List Int))) => [.c (lo 0 t.length)]) (fun (t:(List (List Int))) => [(0,.bZ 28 1 (bK t)),(1,.pool 3 (rowsOf aF t))]) [0,1]:=by
 refine FT.of [] Tryz.func205 Tryz.ntmps205 Q y2 ?_
 intro w0 U0 R0 g0
 unfold OL
 refine Ws (Wr ?_)
 refine aI (Cc (sC aJ)) aZ (On (Ws (Wr ?_)))
 refine l7 (LT.buildSlice (n:=21) (els:=[]) [] Q Q kR pK Q Q Q Q (by decide) Q Q) Q Q (aI (Cc (lo 21 0)) y4 (On (aA.ent (aQ.PZ 22 3 Q) (aA.ent (aQ.bZ (n:=21) (p:=22) (lens:=bK ([]:List (List Int))) (List.append_nil _) Q) (Ws (Ws (Wr ?_)))))))
 refine aG (Cc (xF (dQ false) l)) y4 (aY (LT.iI Q kR) Q Q Q (aG (Iv 0) aZ (On (aA.block ?_))))
 refine aA.jI (id:=0) (Iz l) (fun s1 => ([(3,Cc (lo 21 s1.2.length)),(7,Cc (xF (dQ false) l)),(8,Iv (l.length:Int)),(9,Iv s1.1)],[(21,.bZ 28 22 (bK s1.2)),(22,.pool 3 (rowsOf aF s1.2))])) (fun b10 => ([(3,Cc (lo 21 b10.length))],[(21,.bZ 28 22 (bK b10)),(22,.pool 3 (rowsOf aF b10))])) ?_ (aQ.of z4 z2) Q (fun b10 _ => ?_)
 ·intro s1
  unfold Iz
  refine Ws (Wr ?_)
  refine af LT.lss y5 (On (Ws ?_))
  refine aA.cond Q (fun wU => ?_) (fun wU => ?_)
  ·refine aA.skip (Ws (aA.block (Ws (Wr ?_))))
   refine aP fun x12 NZ => (dY (LT.eF (enc:=(dQ false)) Q l9 NZ uQ) Q Q Q Q (aY (LT.iw Q fF) Q Q Q (aI (Cc (xF aF x12)) y4 (On (Wr ?_)))))
   refine aG (Cc (lo 21 s1.2.length)) y4 (aG (Cc (xF aF x12)) y4 (aP fun r13 wV => (aO.step (cZ [.c (xF aF x12)] (Fw.Fn.ren [(0,24)] (LG x12 r13 wV) Q) G6 (kQ Q) J y3) z2 J Q Q (nP (LT.buildSlice (n:=25) (els:=[[lo 24 r13.length]]) [(0,.tmp 15,.c (lo 24 r13.length))] Q Q kR pK Q Q Q Q (by decide) Q Q) Q Q Q (aP fun u14 NR => (ny (LT.Uj Q Q Q kR pK Q (by decide) (by decide) Q (jo NR)) Q Q Q Q Q Q (aI (Cc (lo 21 (s1.2.length + 1))) y4 (On (aA.ent (aQ.UM (enc:=aF) (n:=21) (m:=24) (p:=22) (rows:=s1.2) (r:=r13) (rest:=[]) Q Q Q Q Q Q) (aA.ent (aQ.bZ (n:=21) (p:=22) (lens:=bK (s1.2 ++ [r13])) (List.append_nil _) Q) (aA.blk (Wr ?_))))))))))))
   refine af LT.add aV (aG (Iv (aB (s1.1 + 1))) y4 (On (aA.nil ⟨Q,aQ.of ⟨congrArg (fun l1 => (some (AV.s (.c (lo 21 l1))):Option AV)) (show (s1.2.length + 1) = (s1.2 ++ [r13]).length from SI),Q,Q,Q,J⟩ z2⟩)))
  ·refine fV y2 z1 z2
 ·refine Ws (Wr ?_)
  refine aG (Cc (lo 21 b10.length)) y4 (aI (Cc (lo 21 b10.length)) y4 (On (en [(2,Cc (lo 21 b10.length))] [(21,.bZ 28 22 (bK b10)),(22,.pool 3 (rowsOf aF b10))] z1 z2 (aA.ent (aQ.mv 21 0 Q Q) (aA.ent (aQ.mv 22 1 Q Q) (en [(2,Cc (lo 0 b10.length))] [(0,.bZ 28 1 (bK b10)),(1,.pool 3 (rowsOf aF b10))] z1 z2 (bP z1 z2 ⟨J,J⟩ ⟨J,bD.Bo dw _,J⟩)))))))
end Go.Proofs.YtdmlaldifbmkpaaGreat
end
