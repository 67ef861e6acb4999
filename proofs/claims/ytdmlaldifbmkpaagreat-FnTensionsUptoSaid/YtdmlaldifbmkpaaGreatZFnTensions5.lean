/- Parts of a proof that a law of the program holds: what the program computes, and why that is right. -/
import Derived.Test.YtdmlaldifbmkpaaGreatZFnTensions4
set_option linter.unusedVariables false
set_option linter.unusedSimpArgs false
set_option linter.unnecessarySimpa false
set_option maxRecDepth 100000
set_option maxHeartbeats 8000000
section
open Go Go.Fw
namespace Go.Proofs.YtdmlaldifbmkpaaGreat
theorem aPY (n:Int):FT Tryz.prog (RI n) 179 [.c (iC n)] [] (fun (t:bW) => [.agg [iC t.aI,lo 0 t.aF.length]]) (fun (t:bW) => [(0,pR 40 aP t.aF)]) [0]:=by
 refine FT.of [] Tryz.func179 Tryz.ntmps179 Q y2 ?_
 intro w0 U0 R0 g0
 unfold RI
 refine Ws (Wr ?_)
 refine iF 21 [iC 0,sC aX] nK y6 (On (Ws (Wr ?_)))
 refine aH (Iv n) y4 (aW (LT.build [(0,.tmp 6,.c (iC n))] Q Q Ap nK Q Q Q) Q Q Q (iF 22 [iC 0,sC aX] nK y6 (dZ (stA [iC n,sC aX] Q Q gW fD) Q Q Q Q Q (On (Ws (Ws ?_))))))
 refine en [(0,Iv n),(2,Cc (.pl 21 0)),(3,Cc (.pl 22 0))] [(21,.row 26 [[iC 0,sC aX]]),(22,.row 26 [[iC n,sC aX]])] z3 z2 (Wr (aH (Iv n) y4 (aS fun r1 hr1 => (iD [.c (iC n),.c (iC 1),.c (iC 7)] (DF n 1 7 r1 hr1) BN (vK y3) y5 ⟨Q,Q,y2,y2,J⟩ (aW (LT.not Q) Q Q Q (On (aB.cond Q (fun hc2 => ?_) (fun hc2 => ?_))))))))
 ·refine Ws (Wr ?_)
  refine aGr (LT.build [] Q Q Ap nK Q Q Q) Q Q (dZ (stA [iC 0,sC aX] Q Q gW fD) Q Q Q Q Q (On (aB.ent (aY.Sl 21 1 0 40 Q Q Q Q) (en [(2,Cc (.pl 21 0))] [(0,pR 40 aP ([]:List bD)),(21,.row 26 [[iC 0,lo 0 (([]:List bD).length)]])] z1 z2 (bT ⟨⟨_,_,_,Q,Q,Q,jq,fD,_,ji gW⟩,J⟩ z1 ⟨⟨au.sc,J,J⟩,J⟩ ⟨cZ.fA lF,J⟩)))))
 ·refine aB.skip (Ws (Ws (Wr ?_)))
  refine aJ (Iv 0) aZ (On (aB.block ?_))
  refine aB.ent (aY.Sl 22 1 27 40 Q Q Q Q) (aB.jM (id:=0) (RJ n) (fun s3 => ([(0,Iv n),(2,Cc (.pl 21 0)),(3,Cc (.pl 22 0)),(4,Iv s3.1)],[(21,.row 26 [[iC 0,sC aX]]),(22,.row 26 [[iC n,lo 27 s3.2.length]]),(27,pR 40 aP s3.2)])) (fun b18 => ([(2,Cc (.pl 21 0)),(3,Cc (.pl 22 0))],[(21,.row 26 [[iC 0,sC aX]]),(22,.row 26 [[iC n,lo 27 b18.length]]),(27,pR 40 aP b18)])) ?_ (aY.of z4 z3) Q (fun b18 _ => ?_))
  ·intro s3
   unfold RJ
   refine Ws (Ws (Wr ?_))
   refine aH (Iv s3.1) y4 (aH (Iv n) y4 (af LT.lss y5 (On (aB.cond Q (fun hc19 => ?_) (fun hc19 => ?_)))))
   ·refine aB.skip (Ws (aB.block (Ws (Wr ?_))))
    refine aH (Iv s3.1) y4 (af LT.add aU (aJ (Iv (aA (s3.1 + 1))) y4 (On (aB.block ?_))))
    refine aB.jM (id:=2) (Md n s3) (fun s20 => ([(0,Iv n),(2,Cc (.pl 21 0)),(3,Cc (.pl 22 0)),(4,Iv s3.1),(5,Iv s20.1)],[(21,.row 26 [[iC 0,sC aX]]),(22,.row 26 [[iC n,lo 27 s20.2.length]]),(27,pR 40 aP s20.2)])) (fun b25 => ([(0,Iv n),(2,Cc (.pl 21 0)),(3,Cc (.pl 22 0)),(4,Iv b25.1)],[(21,.row 26 [[iC 0,sC aX]]),(22,.row 26 [[iC n,lo 27 b25.2.length]]),(27,pR 40 aP b25.2)])) ?_ (aY.of z5 z3) Q (fun b25 _ => ?_)
    ·intro s20
     unfold Md
     refine Ws (Ws (Wr ?_))
     refine aH (Iv s20.1) y4 (aH (Iv n) y4 (af LT.lss y5 (On (aB.cond Q (fun aJa => ?_) (fun aJa => ?_)))))
     ·refine aB.skip (Ws (aB.block (Wr ?_)))
      refine fC (lo 27 s20.2.length) iO jC bK (aH (Iv s3.1) y4 (aH (Iv s20.1) y4 (bg (LT.build [(0,.tmp 26,.c (iC s3.1)),(1,.tmp 27,.c (iC s20.1))] Q Q ES jh Q Q Q) Q Q Q Q (pV (gu 24 aP [(0,.tmp 28,.agg [iC s3.1,iC s20.1])] [bD.mk s3.1 s20.1] jE jh y7) Q Q Q (aS fun u27 Zd => (qM (LT.pK (enc:=aP) Q Q Q jE jh Q (by decide) (by decide) (fun _ => Q) (kU Zd)) Q Q Q Q Q Q (aW (LT.dR Q iO) Q Q Q (dZ (ve (.c (lo 27 ((s20.2 ++ [bD.mk s3.1 s20.1]).length))) [iC n,lo 27 ((s20.2 ++ [bD.mk s3.1 s20.1]).length)] Q Q FM Gm) Q Q Q Q Q (On (aB.blk ?_))))))))))
      refine en [(0,Iv n),(2,Cc (.pl 21 0)),(3,Cc (.pl 22 0)),(4,Iv s3.1),(5,Iv s20.1)] [(21,.row 26 [[iC 0,sC aX]]),(22,.row 26 [[iC n,lo 27 ((s20.2 ++ [bD.mk s3.1 s20.1]).length)]]),(27,pR 40 aP (s20.2 ++ [bD.mk s3.1 s20.1]))] z5 z3 (Wr (aH (Iv s20.1) y4 (af LT.add aU (aJ (Iv (aA (s20.1 + 1))) y4 (On (aV Q z5 z3))))))
     ·refine eu y2 z4 z3
    ·refine aB.blk (Wr ?_)
     refine aH (Iv b25.1) y4 (af LT.add aU (aJ (Iv (aA (b25.1 + 1))) y4 (On (aV Q z4 z3))))
   ·refine eu y2 z2 z3
  ·refine Ws (Wr ?_)
   refine bV (bQ [iC n,lo 27 b18.length] Q jq gW fD) Q Q Q Q (dZ (stA [iC n,lo 27 b18.length] Q Q gW fD) Q Q Q Q Q (On (en [(2,Cc (.pl 21 0))] [(21,.row 26 [[iC n,lo 27 b18.length]]),(27,pR 40 aP b18)] z1 z2 (aB.ent (aY.mv 27 0 Q Q) (en [(2,Cc (.pl 21 0))] [(0,pR 40 aP b18),(21,.row 26 [[iC n,lo 0 b18.length]])] z1 z2 (bT ⟨⟨_,_,_,Q,Q,Q,jq,fD,_,ji gW⟩,J⟩ z1 ⟨⟨au.sc,J,J⟩,J⟩ ⟨cZ.fA lF,J⟩))))))
theorem aPu  : ∀ t,WC  = some t → Fw.Fn Tryz.prog 148 [] [] (.s (.agg [iC t.aG.Graph.aI,lo 0 t.aG.Graph.aF.length,lo 1 t.aG.Places.length,lo 2 t.aN.length])) [(0,pR 40 aP t.aG.Graph.aF),(1,pR 98 aO t.aG.Places),(2,pR 3 aC t.aN)] [] [0,1,2]:=by
 refine Fw.Fn.of (P:=Tryz.prog) (X:=[0,1,2]) (pn:=[]) (rs:=(fun (t:bI) => [.agg [iC t.aG.Graph.aI,lo 0 t.aG.Graph.aF.length,lo 1 t.aG.Places.length,lo 2 t.aN.length]])) (jc:=(fun (t:bI) => [(0,pR 40 aP t.aG.Graph.aF),(1,pR 98 aO t.aG.Places),(2,pR 3 aC t.aN)])) Tryz.func148 Q Tryz.ntmps148 (K Q) Q ?_
 intro w0 U0 R0 g0
 unfold WC
 refine Ws (Wr ?_)
 refine iF 21 [iC 0,sC aX,sC aX,sC aX] oI y6 (On (Ws (Wr ?_)))
 refine aS fun r1 hr1 => (aT.step (dK [.c (iC 4)] (Fw.Fn.ren [(0,23)] (aPY 4 r1 hr1) Q) aHg (l9 Q) J y3) ⟨Q,y2,J⟩ J Q Q (iF 24 [iC 0,sC aX] nK y6 (dZ (stA [iC r1.aI,lo 23 r1.aF.length] Q Q gW fD) Q Q Q Q Q (On (Ws ?_)))))
 refine en [(0,Cc (.pl 21 0)),(1,Cc (.pl 24 0))] [(21,.row 48 [[iC 0,sC aX,sC aX,sC aX]]),(23,pR 40 aP r1.aF),(24,.row 26 [[iC r1.aI,lo 23 r1.aF.length]])] z2 z3 (Wr (bV (bQ [iC r1.aI,lo 23 r1.aF.length] Q jq gW fD) Q Q Q Q (bg (LT.build [(0,.const (.int .i64 0),.c (iC 0)),(1,.const (.int .i64 0),.c (iC 0))] Q Q TF tX Q Q Q) y2 y2 Q Q (bg (LT.build [(0,.const (.int .i64 3),.c (iC 3)),(1,.const (.int .i64 0),.c (iC 0))] Q Q TF tX Q Q Q) y2 y2 Q Q (bg (LT.build [(0,.const (.int .i64 3),.c (iC 3)),(1,.const (.int .i64 3),.c (iC 3))] Q Q TF tX Q Q Q) y2 y2 Q Q (bg (LT.build [(0,.const (.int .i64 0),.c (iC 0)),(1,.const (.int .i64 3),.c (iC 3))] Q Q TF tX Q Q Q) y2 y2 Q Q (aGs (gu 25 aO [(0,.tmp 4,.agg [iC 0,iC 0]),(1,.tmp 5,.agg [iC 3,iC 0]),(2,.tmp 6,.agg [iC 3,iC 3]),(3,.tmp 7,.agg [iC 0,iC 3])] [eG.mk 0 0,eG.mk 3 0,eG.mk 3 3,eG.mk 0 3] uN tX y7) Q Q Q Q Q Q (bg (LT.build [(0,.tmp 3,.agg [iC r1.aI,lo 23 r1.aF.length]),(1,.tmp 8,.c (lo 25 ([eG.mk 0 0,eG.mk 3 0,eG.mk 3 3,eG.mk 0 3].length)))] Q Q OY xR Q Q Q) Q Q Q Q (aGt (gu 26 aC [(0,.const (.int .i64 1),.c (iC 1)),(1,.const (.int .i64 2),.c (iC 2)),(2,.const (.int .i64 1),.c (iC 1)),(3,.const (.int .i64 1),.c (iC 1)),(4,.const (.int .i64 2),.c (iC 2)),(5,.const (.int .i64 1),.c (iC 1))] ([1,2,1,1,2,1]:List Int) dO iL y7) y2 y2 y2 y2 y2 y2 Q Q (bg (LT.build [(0,.tmp 9,.agg [iC r1.aI,lo 23 r1.aF.length,lo 25 ([eG.mk 0 0,eG.mk 3 0,eG.mk 3 3,eG.mk 0 3].length)]),(1,.tmp 10,.c (lo 26 (([1,2,1,1,2,1]:List Int).length)))] Q Q aAS oI Q Q Q) Q Q Q Q (dZ (stA [iC r1.aI,lo 23 r1.aF.length,lo 25 ([eG.mk 0 0,eG.mk 3 0,eG.mk 3 3,eG.mk 0 3].length),lo 26 (([1,2,1,1,2,1]:List Int).length)] Q Q eF dP) Q Q Q Q Q ?_)))))))))))
 refine On (en [(0,Cc (.pl 21 0))] [(21,.row 48 [[iC r1.aI,lo 23 r1.aF.length,lo 25 ([eG.mk 0 0,eG.mk 3 0,eG.mk 3 3,eG.mk 0 3].length),lo 26 (([1,2,1,1,2,1]:List Int).length)]]),(23,pR 40 aP r1.aF),(25,pR 98 aO [eG.mk 0 0,eG.mk 3 0,eG.mk 3 3,eG.mk 0 3]),(26,pR 3 aC ([1,2,1,1,2,1]:List Int))] z1 z4 (aB.ent (aY.mv 23 0 Q Q) (aB.ent (aY.mv 25 1 Q Q) (aB.ent (aY.mv 26 2 Q Q) (en [(0,Cc (.pl 21 0))] [(0,pR 40 aP r1.aF),(1,pR 98 aO [eG.mk 0 0,eG.mk 3 0,eG.mk 3 3,eG.mk 0 3]),(2,pR 3 aC ([1,2,1,1,2,1]:List Int)),(21,.row 48 [[iC r1.aI,lo 0 r1.aF.length,lo 1 ([eG.mk 0 0,eG.mk 3 0,eG.mk 3 3,eG.mk 0 3].length),lo 2 (([1,2,1,1,2,1]:List Int).length)]])] z1 z4 (bT ⟨⟨_,_,_,Q,Q,Q,gZ,dP,_,ji eF⟩,J⟩ z3 ⟨⟨au.sc,J,J,J,J⟩,J⟩ ⟨cZ.fA lF,cZ.fA pq,cZ.fA gQ,J⟩))))))
theorem aBK (c:dW) (g:bW):FT Tryz.prog (JC c g) 204 [.c (.pl 0 0),.agg (eY g)] [(0,.row 105 [iw c])] (fun (t:(ah × dW)) => [.agg [iC t.1.Graph.aI,lo 1 t.1.Graph.aF.length,lo 2 t.1.Places.length]]) (fun (t:(ah × dW)) => [(0,.row 105 [iw t.2]),(1,pR 40 aP t.1.Graph.aF),(2,pR 98 aO t.1.Places)]) [1,2]:=by
 refine FT.of [0] Tryz.func204 Tryz.ntmps204 Q y2 ?_
 intro w0 U0 R0 g0
 unfold JC
 refine Ws (Wr ?_)
 refine gy 21 (.agg (eY g)) fD y5 (iF 22 [iC 0,sC aX,sC aX] xR y6 (On (Ws (Wr ?_))))
 refine fC (iC g.aI) lT ak bK (jo (gu 23 aP [] [] jE jh y7) Q Q (bg (LT.build [(0,.tmp 11,.c (iC g.aI)),(1,.tmp 12,.c (lo 23 (([]:List bD).length)))] Q Q Ap nK Q Q Q) Q Q Q Q (aW (LT.build [(0,.tmp 13,.agg [iC g.aI,lo 23 (([]:List bD).length)])] Q Q OY xR Q Q Q) Q Q Q (iF 24 [iC 0,sC aX,sC aX] xR y6 (dZ (stA [iC g.aI,lo 23 (([]:List bD).length),sC aX] Q Q fF dS) Q Q Q Q Q (On (Ws (Ws ?_))))))))
 refine en [(0,Cc (.pl 0 0)),(3,Cc (.pl 21 0)),(4,Cc (.pl 22 0)),(5,Cc (.pl 24 0))] [(0,.row 105 [iw c]),(21,.row 26 [eY g]),(22,.row 46 [[iC 0,sC aX,sC aX]]),(23,pR 40 aP ([]:List bD)),(24,.row 46 [[iC g.aI,lo 23 (([]:List bD).length),sC aX]])] z4 z5 (Wr (aJ (Iv 0) aZ (On (aB.block ?_))))
 refine aB.ent (aY.Sl 24 2 29 98 Q Q Q Q) (aB.jM (id:=0) (SB g) (fun s1 => ([(0,Cc (.pl 0 0)),(3,Cc (.pl 21 0)),(4,Cc (.pl 22 0)),(5,Cc (.pl 24 0)),(6,Iv s1.1)],[(0,.row 105 [[xT dI s1.2.1,iC s1.2.2.1,iC s1.2.2.2.1]]),(21,.row 26 [eY g]),(22,.row 46 [[iC 0,sC aX,sC aX]]),(23,pR 40 aP ([]:List bD)),(24,.row 46 [[iC g.aI,lo 23 (([]:List bD).length),lo 29 s1.2.2.2.2.length]]),(29,pR 98 aO s1.2.2.2.2)])) (fun b10 => ([(3,Cc (.pl 21 0)),(4,Cc (.pl 22 0)),(5,Cc (.pl 24 0))],[(0,.row 105 [[xT dI b10.1,iC b10.2.1,iC b10.2.2.1]]),(21,.row 26 [eY g]),(22,.row 46 [[iC 0,sC aX,sC aX]]),(23,pR 40 aP ([]:List bD)),(24,.row 46 [[iC g.aI,lo 23 (([]:List bD).length),lo 29 b10.2.2.2.length]]),(29,pR 98 aO b10.2.2.2)])) ?_ (aY.of z5 z6) Q (fun b10 _ => ?_))
 ·intro s1
  unfold SB
  refine Ws (Ws (Wr ?_))
  refine aH (Iv s1.1) y4 (fC (iC g.aI) lT ak bK (af LT.lss y5 (On (aB.cond Q (fun sG => ?_) (fun sG => ?_)))))
  ·refine aB.skip (Ws (aB.block (Ws (Wr ?_))))
   refine aH (Cc (.pl 0 0)) y4 (aS fun r12 QC => (aT.step (dK [.c (.pl 0 0),.c (iC 5)] (Fw.Fn.ren [(0,0)] (rV (dW.mk s1.2.1 s1.2.2.1 s1.2.2.2.1) 5 r12 QC) Q) rM (jv y2) z1 y3) ⟨Q,Q,y2,J⟩ z1 Q Q (aJ (Iv r12.1) y4 (On (aB.draw mixed ?_)))))
   refine dh (lo 29 s1.2.2.2.2.length) iR iV bK (ay (Iv r12.1) y4 (ay (Cc (.pl 0 0)) y4 (aQ.bind fun r13 uF => (aQ.step (dK [.c (.pl 0 0),.c (iC 5)] (Fw.Fn.ren [(0,0)] (rV r12.2 5 r13 uF) Q) rM (jv y2) z1 y3) ⟨Q,Q,y2,J⟩ z1 Q Q (bZ (LT.build [(0,.tmp 25,.c (iC r12.1)),(1,.tmp 27,.c (iC r13.1))] Q Q TF tX Q Q Q) Q Q Q Q (G5 (gu 27 aO [(0,.tmp 28,.agg [iC r12.1,iC r13.1])] [eG.mk r12.1 r13.1] uN tX y7) Q Q Q (aQ.bind fun u14 QI => (Jz (LT.pK (enc:=aO) Q Q Q uN tX Q (by decide) (by decide) (fun _ => Q) (kU QI)) Q Q Q Q Q Q (ax (LT.dR Q iR) Q Q Q (lQ (ve (.c (lo 29 ((s1.2.2.2.2 ++ [eG.mk r12.1 r13.1]).length))) [iC g.aI,lo 23 (([]:List bD).length),lo 29 ((s1.2.2.2.2 ++ [eG.mk r12.1 r13.1]).length)] Q Q aDl aFZ) Q Q Q Q Q ?_))))))))))
   refine dm (aB.blk (en [(0,Cc (.pl 0 0)),(3,Cc (.pl 21 0)),(4,Cc (.pl 22 0)),(5,Cc (.pl 24 0)),(6,Iv s1.1)] [(0,.row 105 [iw r13.2]),(21,.row 26 [eY g]),(22,.row 46 [[iC 0,sC aX,sC aX]]),(23,pR 40 aP ([]:List bD)),(24,.row 46 [[iC g.aI,lo 23 (([]:List bD).length),lo 29 ((s1.2.2.2.2 ++ [eG.mk r12.1 r13.1]).length)]]),(29,pR 98 aO (s1.2.2.2.2 ++ [eG.mk r12.1 r13.1]))] z5 z6 (Wr (aH (Iv s1.1) y4 (af LT.add aU (aJ (Iv (aA (s1.1 + 1))) y4 (On (aV Q z5 z6))))))))
  ·refine eu y2 z3 z6
 ·refine Ws (Ws (Wr ?_))
  refine aJ (Iv 0) aZ (On (aB.block ?_))
  refine aB.jM (id:=2) (Na g b10) (fun s15 => ([(3,Cc (.pl 21 0)),(4,Cc (.pl 22 0)),(5,Cc (.pl 24 0)),(8,Iv s15.1)],[(0,.row 105 [[xT dI b10.1,iC b10.2.1,iC b10.2.2.1]]),(21,.row 26 [eY g]),(22,.row 46 [[iC 0,sC aX,sC aX]]),(23,pR 40 aP s15.2),(24,.row 46 [[iC g.aI,lo 23 s15.2.length,lo 29 b10.2.2.2.length]]),(29,pR 98 aO b10.2.2.2)])) (fun jP => ([(4,Cc (.pl 22 0)),(5,Cc (.pl 24 0))],[(0,.row 105 [[xT dI jP.1,iC jP.2.1,iC jP.2.2.1]]),(22,.row 46 [[iC 0,sC aX,sC aX]]),(23,pR 40 aP jP.2.2.2.1),(24,.row 46 [[iC g.aI,lo 23 jP.2.2.2.1.length,lo 29 jP.2.2.2.2.length]]),(29,pR 98 aO jP.2.2.2.2)])) ?_ (aY.of z4 z6) Q (fun jP _ => ?_)
  ·intro s15
   unfold Na
   refine Ws (Ws (Wr ?_))
   refine aH (Iv s15.1) y4 (fC (xF aP g.aF) iO jC bK (aW (LT.fG Q jE) Q Q Q (af LT.lss y5 (On (aB.cond Q (fun Y0 => ?_) (fun Y0 => ?_))))))
   ·refine aB.skip (Ws (aB.block (Ws (Wr ?_))))
    refine fC (xF aP g.aF) iO jC bK (aH (Iv s15.1) y4 (aS fun x54 Ae => (bg (LT.bU (enc:=aP) Q qP Ae fU) Q Q Q Q (aW (kJ Q lX je fU) Q Q Q (iF 30 [iC 0,iC 0] jh y6 (dZ (stA [iC x54.A,iC x54.B] Q Q je fU) Q Q Q Q Q (On (Ws ?_))))))))
    refine aB.eX (fun j60 => ([(3,Cc (.pl 21 0)),(4,Cc (.pl 22 0)),(5,Cc (.pl 24 0)),(8,Iv s15.1),(9,Cc (.pl 30 0)),(70,Bv j60)],[(0,.row 105 [[xT dI b10.1,iC b10.2.1,iC b10.2.2.1]]),(21,.row 26 [eY g]),(22,.row 46 [[iC 0,sC aX,sC aX]]),(23,pR 40 aP s15.2),(24,.row 46 [[iC g.aI,lo 23 s15.2.length,lo 29 b10.2.2.2.length]]),(29,pR 98 aO b10.2.2.2),(30,.row 40 [[iC x54.A,iC x54.B]])])) ?_ (fun j60 _ => ?_)
    ·refine en [(3,Cc (.pl 21 0)),(4,Cc (.pl 22 0)),(5,Cc (.pl 24 0)),(8,Iv s15.1),(9,Cc (.pl 30 0))] [(0,.row 105 [[xT dI b10.1,iC b10.2.1,iC b10.2.2.1]]),(21,.row 26 [eY g]),(22,.row 46 [[iC 0,sC aX,sC aX]]),(23,pR 40 aP s15.2),(24,.row 46 [[iC g.aI,lo 23 s15.2.length,lo 29 b10.2.2.2.length]]),(29,pR 98 aO b10.2.2.2),(30,.row 40 [[iC x54.A,iC x54.B]])] z5 z7 (aB.draw mixed (dh (lo 29 b10.2.2.2.length) iR iV bK (dh (iC x54.A) nS ak bK (aQ.bind fun sN Kt => (mF (LT.jH Q Q jU Kt) Q Q Q Q Q (fM (LT.aA3 Q o6 (ji lJ) fE Kt (by exact Q) (by exact Q)) Q Q Q Q (dh (lo 29 b10.2.2.2.length) iR iV bK (ax (LT.dR Q oZ) Q Q Q ?_))))))))
     refine fM (qx (iC x54.B) Q ak) Q Q Q Q (aQ.bind fun xg QY => (mF (LT.jH Q Q jU QY) Q Q Q Q Q (fM (LT.aA3 Q o6 (ji lJ) fE QY (by exact Q) (by exact Q)) Q Q Q Q (bZ (LT.Sj [sN.X,sN.Y] [xg.X,xg.Y] Q FQ Q Q) Q Q Q Q (ay (Bv (!(jT [sN.X,sN.Y] [xg.X,xg.Y]))) y4 (aQ.split (fun yP => ?_) (fun yP => ?_)))))))
     ·refine kN (Iv s15.1) yP y5 (oV LT.eql yP iT (kN (Bv (s15.1 == 0)) yP y5 (aQ.split (fun hb64 => ?_) (fun hb64 => ?_))))
      ·refine bJ hb64 y3 (bJ hb64 y3 (bJ hb64 y3 (bJ hb64 y3 (bJ hb64 y3 (bJ hb64 y3 (bJ hb64 y3 (bJ hb64 y3 (bZ (LT.nY (v:=(Bv true)) Q hb64) Q y2 (gH yP Q Q) Q (mP (Bv true) yP y5 (dm (aV Q z6 z7)))))))))))
      ·refine ql (xF aP g.aF) iO jC hb64 iJ (kN (Iv s15.1) hb64 y5 (oV LT.sub hb64 iT (aQ.bind fun rW QZ => (bZ (LT.bU (enc:=aP) Q qP QZ fU) Q Q (gH hb64 Q Q) Q (ax (kJ Q lX je fU) Q (gH hb64 Q Q) Q (fM (bQ [iC x54.A,iC x54.B] Q lX je fU) Q Q (gH hb64 Q Q) Q (bZ (LT.Sj [rW.A,rW.B] [x54.A,x54.B] Q Vq Q Q) Q Q (gH hb64 Q Q) Q (bZ (LT.oG (v:=(Bv (!(jT [rW.A,rW.B] [x54.A,x54.B])))) Q hb64) Q Q (gH yP Q Q) Q (mP (Bv (!(jT [rW.A,rW.B] [x54.A,x54.B]))) yP y5 (dm ?_))))))))))
       refine aV Q z6 z7
     ·refine bJ yP y3 (bJ yP y3 (bJ yP y3 (bM y3 (bM y3 (bM y3 (bM y3 (bM y3 (bM y3 (bM y3 (bM y3 (bJ yP y3 ?_)))))))))))
      refine lm (Bv false) yP aU (dm (aV Q z6 z7))
    ·refine aB.eX (fun j68 => ([(3,Cc (.pl 21 0)),(4,Cc (.pl 22 0)),(5,Cc (.pl 24 0)),(8,Iv s15.1)],[(0,.row 105 [[xT dI b10.1,iC b10.2.1,iC b10.2.2.1]]),(21,.row 26 [eY g]),(22,.row 46 [[iC 0,sC aX,sC aX]]),(23,pR 40 aP j68),(24,.row 46 [[iC g.aI,lo 23 j68.length,lo 29 b10.2.2.2.length]]),(29,pR 98 aO b10.2.2.2)])) ?_ (fun j68 _ => ?_)
     ·refine aB.cond Q (fun Y5 => ?_) (fun Y5 => ?_)
      ·refine Wr (aW (LT.dR Q jW) Q Q Q (fC (lo 23 s15.2.length) iO jC bK (bV (bQ [iC x54.A,iC x54.B] Q lX je fU) Q Q Q Q (pV (gu 31 aP [(0,.tmp 74,.agg [iC x54.A,iC x54.B])] [x54] jE jh y7) Q Q Q (aS fun u70 Zh => (qM (LT.pK (enc:=aP) Q Q Q jE jh Q (by decide) (by decide) (fun _ => Q) (kU Zh)) Q Q Q Q Q Q (aW (LT.dR Q jW) Q Q Q (aW (LT.dR Q iO) Q Q Q (dZ (ve (.c (lo 23 ((s15.2 ++ [x54]).length))) [iC g.aI,lo 23 ((s15.2 ++ [x54]).length),lo 29 b10.2.2.2.length] Q Q FM Gm) Q Q Q Q Q (On ?_))))))))))
       refine aV Q z4 z6
      ·refine aB.skip (aV Q z4 z6)
     ·refine aB.blk (Wr ?_)
      refine aH (Iv s15.1) y4 (af LT.add aU (aJ (Iv (aA (s15.1 + 1))) y4 (On (aV Q z4 z6))))
   ·refine eu y2 z2 z5
  ·refine Ws (Wr ?_)
   refine bV (bQ [iC g.aI,lo 23 jP.2.2.2.1.length,lo 29 jP.2.2.2.2.length] Q gY fF dS) Q Q Q Q (dZ (stA [iC g.aI,lo 23 jP.2.2.2.1.length,lo 29 jP.2.2.2.2.length] Q Q fF dS) Q Q Q Q Q (On (en [(4,Cc (.pl 22 0))] [(0,.row 105 [[xT dI jP.1,iC jP.2.1,iC jP.2.2.1]]),(22,.row 46 [[iC g.aI,lo 23 jP.2.2.2.1.length,lo 29 jP.2.2.2.2.length]]),(23,pR 40 aP jP.2.2.2.1),(29,pR 98 aO jP.2.2.2.2)] z1 z4 (aB.ent (aY.mv 23 1 Q Q) (aB.ent (aY.mv 29 2 Q Q) (en [(4,Cc (.pl 22 0))] [(0,.row 105 [[xT dI jP.1,iC jP.2.1,iC jP.2.2.1]]),(1,pR 40 aP jP.2.2.2.1),(2,pR 98 aO jP.2.2.2.2),(22,.row 46 [[iC g.aI,lo 1 jP.2.2.2.1.length,lo 2 jP.2.2.2.2.length]])] z1 z4 (bT ⟨⟨_,_,_,Q,Q,Q,gY,dS,_,ji fF⟩,J⟩ z3 ⟨⟨au.sc,J,J,J⟩,J⟩ ⟨cZ.nP ⟨iY tH,au.sc,au.sc,J⟩,cZ.fA lF,cZ.fA pq,J⟩)))))))
theorem aPq (c:dW):FT Tryz.prog (SA c) 180 [.c (.pl 0 0)] [(0,.row 105 [iw c])] (fun (t:(ah × dW)) => [.agg [iC t.1.Graph.aI,lo 1 t.1.Graph.aF.length,lo 2 t.1.Places.length]]) (fun (t:(ah × dW)) => [(0,.row 105 [iw t.2]),(1,pR 40 aP t.1.Graph.aF),(2,pR 98 aO t.1.Places)]) [1,2]:=by
 refine FT.of [0] Tryz.func180 Tryz.ntmps180 Q y2 ?_
 intro w0 U0 R0 g0
 unfold SA
 refine Ws (Wr ?_)
 refine iF 21 [iC 0,sC aX,sC aX] xR y6 (On (Ws (Ws (Wr ?_))))
 refine aH (Cc (.pl 0 0)) y4 (aS fun r1 hr1 => (aT.step (dK [.c (.pl 0 0),.c (iC 3)] (Fw.Fn.ren [(0,0)] (rV c 3 r1 hr1) Q) rM (jv y2) z1 y3) ⟨Q,Q,y2,J⟩ z1 Q Q (On (aB.block (Ws (Wr ?_))))))
 refine af LT.eql aU (aJ (Bv (r1.1 == 0)) y4 (On (aB.cond Q (fun hc2 => ?_) (fun hc2 => ?_))))
 ·refine Ws (Wr ?_)
  refine aH (Cc (.pl 0 0)) y4 (aS fun r3 hr3 => (aT.step (dK [.c (.pl 0 0),.c (iC 5)] (Fw.Fn.ren [(0,0)] (rV r1.2 5 r3 hr3) Q) rM (jv y2) z1 y3) ⟨Q,Q,y2,J⟩ z1 Q Q (af LT.add lV (aJ (Iv (aA (2 + r3.1))) y4 (On (Ws ?_))))))
  refine en [(0,Cc (.pl 0 0)),(2,Cc (.pl 21 0)),(3,Iv (aA (2 + r3.1)))] [(0,.row 105 [iw r3.2]),(21,.row 46 [[iC 0,sC aX,sC aX]])] z3 z2 (Wr (aH (Cc (.pl 0 0)) y4 (aH (Iv (aA (2 + r3.1))) y4 (aS fun r4 hr4 => (aT.step (dK [.c (.pl 0 0),.c (iC (aA (2 + r3.1))),.c (iC 7)] (Fw.Fn.ren [(0,0),(1,25)] (aPw r3.2 (aA (2 + r3.1)) 7 r4 hr4) Q) aHf (vK y3) z1 y3) ⟨Q,Q,Q,y2,J⟩ z1 Q Q (iF 26 [iC 0,sC aX] nK y6 (dZ (stA [iC r4.1.aI,lo 25 r4.1.aF.length] Q Q gW fD) Q Q Q Q Q (On (Ws ?_)))))))))
  refine en [(0,Cc (.pl 0 0)),(2,Cc (.pl 21 0)),(4,Cc (.pl 26 0))] [(0,.row 105 [iw r4.2]),(21,.row 46 [[iC 0,sC aX,sC aX]]),(25,pR 40 aP r4.1.aF),(26,.row 26 [[iC r4.1.aI,lo 25 r4.1.aF.length]])] z3 z4 (Wr (aH (Cc (.pl 0 0)) y4 (bV (bQ [iC r4.1.aI,lo 25 r4.1.aF.length] Q jq gW fD) Q Q Q Q (aS fun r5 nI => (aT.step (cF [.c (.pl 0 0),.agg [iC r4.1.aI,lo 25 r4.1.aF.length]] [(25,pR 40 aP r4.1.aF)] (Fw.Fn.ren [(0,0),(1,28),(2,29)] (aBK r4.2 r4.1 r5 nI) Q) YD (.cons (.c (.same Q)) (.cons (.agg (.cons (.same Q) (.cons (.eU Q Q) .nil))) .nil)) z1 y3) z3 z2 Q Q (dZ (stA [iC r5.1.Graph.aI,lo 28 r5.1.Graph.aF.length,lo 29 r5.1.Places.length] Q Q fF dS) Q Q Q Q Q (On (en [(2,Cc (.pl 21 0))] [(0,.row 105 [iw r5.2]),(21,.row 46 [[iC r5.1.Graph.aI,lo 28 r5.1.Graph.aF.length,lo 29 r5.1.Places.length]]),(28,pR 40 aP r5.1.Graph.aF),(29,pR 98 aO r5.1.Places)] z1 z4 (aB.ent (aY.mv 28 1 Q Q) (aB.ent (aY.mv 29 2 Q Q) (en [(2,Cc (.pl 21 0))] [(0,.row 105 [iw r5.2]),(1,pR 40 aP r5.1.Graph.aF),(2,pR 98 aO r5.1.Places),(21,.row 46 [[iC r5.1.Graph.aI,lo 1 r5.1.Graph.aF.length,lo 2 r5.1.Places.length]])] z1 z4 ?_)))))))))))
  refine bT ⟨⟨_,_,_,Q,Q,Q,gY,dS,_,ji fF⟩,J⟩ z3 ⟨⟨au.sc,J,J,J⟩,J⟩ ⟨cZ.nP ⟨iY tH,au.sc,au.sc,J⟩,cZ.fA lF,cZ.fA pq,J⟩
 ·refine Ws (Wr ?_)
  refine af LT.eql aU (aJ (Bv (r1.1 == 1)) y4 (On (aB.cond Q (fun hc6 => ?_) (fun hc6 => ?_))))
  ·refine Ws (en [(0,Cc (.pl 0 0)),(2,Cc (.pl 21 0))] [(0,.row 105 [iw r1.2]),(21,.row 46 [[iC 0,sC aX,sC aX]])] z2 z2 (Wr (aH (Cc (.pl 0 0)) y4 (aS fun r7 lH => (aT.step (dK [.c (.pl 0 0),.c (iC 4)] (Fw.Fn.ren [(0,0)] (rV r1.2 4 r7 lH) Q) rM (jv y2) z1 y3) ⟨Q,Q,y2,J⟩ z1 Q Q (af LT.add lV (aJ (Iv (aA (2 + r7.1))) y4 (On (Ws (Wr ?_))))))))))
   refine aH (Cc (.pl 0 0)) y4 (aH (Iv (aA (2 + r7.1))) y4 (aS fun r8 Ac => (aT.step (dK [.c (.pl 0 0),.c (iC (aA (2 + r7.1)))] (Fw.Fn.ren [(0,0),(1,32)] (aGS r7.2 (aA (2 + r7.1)) r8 Ac) Q) aCF (jv y2) z1 y3) z3 z1 Q Q (iF 33 [iC 0,sC aX] nK y6 (dZ (stA [iC r8.1.aI,lo 32 r8.1.aF.length] Q Q gW fD) Q Q Q Q Q (On (Ws ?_)))))))
   refine en [(0,Cc (.pl 0 0)),(2,Cc (.pl 21 0)),(5,Iv (aA (2 + r7.1))),(6,Cc (.pl 33 0))] [(0,.row 105 [iw r8.2]),(21,.row 46 [[iC 0,sC aX,sC aX]]),(32,pR 40 aP r8.1.aF),(33,.row 26 [[iC r8.1.aI,lo 32 r8.1.aF.length]])] z4 z4 (Wr (aH (Cc (.pl 0 0)) y4 (aH (Iv (aA (2 + r7.1))) y4 (aS fun r9 ED => (aT.step (dK [.c (.pl 0 0),.c (iC (aA (2 + r7.1)))] (Fw.Fn.ren [(0,0)] (rV r8.2 (aA (2 + r7.1)) r9 ED) Q) rM (jv y2) z1 y3) z3 z1 Q Q (aJ (Iv r9.1) y4 (On (Ws (Wr ?_)))))))))
   refine aH (Cc (.pl 0 0)) y4 (aH (Iv (aA (2 + r7.1))) y4 (aS fun r10 D9 => (aT.step (dK [.c (.pl 0 0),.c (iC (aA (2 + r7.1)))] (Fw.Fn.ren [(0,0)] (rV r9.2 (aA (2 + r7.1)) r10 D9) Q) rM (jv y2) z1 y3) z3 z1 Q Q (aJ (Iv r10.1) y4 (On (Ws ?_))))))
   refine en [(0,Cc (.pl 0 0)),(2,Cc (.pl 21 0)),(6,Cc (.pl 33 0)),(7,Iv r9.1),(8,Iv r10.1)] [(0,.row 105 [iw r10.2]),(21,.row 46 [[iC 0,sC aX,sC aX]]),(32,pR 40 aP r8.1.aF),(33,.row 26 [[iC r8.1.aI,lo 32 r8.1.aF.length]])] z5 z4 (Wr (bV (bQ [iC r8.1.aI,lo 32 r8.1.aF.length] Q jq gW fD) Q Q Q Q (aH (Iv r9.1) y4 (aH (Iv r10.1) y4 (aS fun r11 QB => (aT.step (cF [.agg [iC r8.1.aI,lo 32 r8.1.aF.length],.c (iC r9.1),.c (iC r10.1)] [(32,pR 40 aP r8.1.aF)] (Fw.Fn.ren [(0,37)] (aPX r8.1 r9.1 r10.1 r11 QB) Q) aHo (.cons (.agg (.cons (.same Q) (.cons (.eU Q Q) .nil))) (.cons (.c (.same Q)) (.cons (.c (.same Q)) .nil))) J y3) z4 z1 Q Q (aH (.eH [.agg [iC r11.1.aI,lo 37 r11.1.aF.length],.c (bC r11.2)]) y4 (jQ (.agg [iC r11.1.aI,lo 37 r11.1.aF.length]) y5 (jQ (.c (bC r11.2)) y5 (dZ (stA [iC r11.1.aI,lo 37 r11.1.aF.length] Q Q gW fD) Q Q Q Q Q (On (Ws ?_))))))))))))
   refine en [(0,Cc (.pl 0 0)),(2,Cc (.pl 21 0)),(6,Cc (.pl 33 0))] [(0,.row 105 [iw r10.2]),(21,.row 46 [[iC 0,sC aX,sC aX]]),(33,.row 26 [[iC r11.1.aI,lo 37 r11.1.aF.length]]),(37,pR 40 aP r11.1.aF)] z3 z4 (Wr (aH (Cc (.pl 0 0)) y4 (bV (bQ [iC r11.1.aI,lo 37 r11.1.aF.length] Q jq gW fD) Q Q Q Q (aS fun r12 QC => (aT.step (cF [.c (.pl 0 0),.agg [iC r11.1.aI,lo 37 r11.1.aF.length]] [(37,pR 40 aP r11.1.aF)] (Fw.Fn.ren [(0,0),(1,39),(2,40)] (aBK r10.2 r11.1 r12 QC) Q) YD (.cons (.c (.same Q)) (.cons (.agg (.cons (.same Q) (.cons (.eU Q Q) .nil))) .nil)) z1 y3) z3 z2 Q Q (dZ (stA [iC r12.1.Graph.aI,lo 39 r12.1.Graph.aF.length,lo 40 r12.1.Places.length] Q Q fF dS) Q Q Q Q Q (On (en [(2,Cc (.pl 21 0))] [(0,.row 105 [iw r12.2]),(21,.row 46 [[iC r12.1.Graph.aI,lo 39 r12.1.Graph.aF.length,lo 40 r12.1.Places.length]]),(39,pR 40 aP r12.1.Graph.aF),(40,pR 98 aO r12.1.Places)] z1 z4 (aB.ent (aY.mv 39 1 Q Q) (aB.ent (aY.mv 40 2 Q Q) (en [(2,Cc (.pl 21 0))] [(0,.row 105 [iw r12.2]),(1,pR 40 aP r12.1.Graph.aF),(2,pR 98 aO r12.1.Places),(21,.row 46 [[iC r12.1.Graph.aI,lo 1 r12.1.Graph.aF.length,lo 2 r12.1.Places.length]])] z1 z4 ?_)))))))))))
   refine bT ⟨⟨_,_,_,Q,Q,Q,gY,dS,_,ji fF⟩,J⟩ z3 ⟨⟨au.sc,J,J,J⟩,J⟩ ⟨cZ.nP ⟨iY tH,au.sc,au.sc,J⟩,cZ.fA lF,cZ.fA pq,J⟩
  ·refine aB.skip (aB.blk (Ws ?_))
   refine en [(0,Cc (.pl 0 0)),(2,Cc (.pl 21 0))] [(0,.row 105 [iw r1.2]),(21,.row 46 [[iC 0,sC aX,sC aX]])] z2 z2 (Wr (aH (Cc (.pl 0 0)) y4 (aS fun r13 uF => (aT.step (dK [.c (.pl 0 0),.c (iC 5)] (Fw.Fn.ren [(0,0)] (rV r1.2 5 r13 uF) Q) rM (jv y2) z1 y3) ⟨Q,Q,y2,J⟩ z1 Q Q (af LT.add lV (aJ (Iv (aA (2 + r13.1))) y4 (On (Ws (Wr ?_)))))))))
   refine aH (Cc (.pl 0 0)) y4 (aH (Iv (aA (2 + r13.1))) y4 (aS fun gX QD => (aT.step (dK [.c (.pl 0 0),.c (iC (aA (2 + r13.1)))] (Fw.Fn.ren [(0,0),(1,43)] (aGS r13.2 (aA (2 + r13.1)) gX QD) Q) aCF (jv y2) z1 y3) z3 z1 Q Q (iF 44 [iC 0,sC aX] nK y6 (dZ (stA [iC gX.1.aI,lo 43 gX.1.aF.length] Q Q gW fD) Q Q Q Q Q (On (Ws ?_)))))))
   refine en [(0,Cc (.pl 0 0)),(2,Cc (.pl 21 0)),(10,Cc (.pl 44 0))] [(0,.row 105 [iw gX.2]),(21,.row 46 [[iC 0,sC aX,sC aX]]),(43,pR 40 aP gX.1.aF),(44,.row 26 [[iC gX.1.aI,lo 43 gX.1.aF.length]])] z3 z4 (Wr (aH (Cc (.pl 0 0)) y4 (bV (bQ [iC gX.1.aI,lo 43 gX.1.aF.length] Q jq gW fD) Q Q Q Q (aS fun uK aKZ => (aT.step (cF [.c (.pl 0 0),.agg [iC gX.1.aI,lo 43 gX.1.aF.length]] [(43,pR 40 aP gX.1.aF)] (Fw.Fn.ren [(0,0),(1,46),(2,47)] (aBK gX.2 gX.1 uK aKZ) Q) YD (.cons (.c (.same Q)) (.cons (.agg (.cons (.same Q) (.cons (.eU Q Q) .nil))) .nil)) z1 y3) z3 z2 Q Q (dZ (stA [iC uK.1.Graph.aI,lo 46 uK.1.Graph.aF.length,lo 47 uK.1.Places.length] Q Q fF dS) Q Q Q Q Q (On (en [(2,Cc (.pl 21 0))] [(0,.row 105 [iw uK.2]),(21,.row 46 [[iC uK.1.Graph.aI,lo 46 uK.1.Graph.aF.length,lo 47 uK.1.Places.length]]),(46,pR 40 aP uK.1.Graph.aF),(47,pR 98 aO uK.1.Places)] z1 z4 (aB.ent (aY.mv 46 1 Q Q) (aB.ent (aY.mv 47 2 Q Q) (en [(2,Cc (.pl 21 0))] [(0,.row 105 [iw uK.2]),(1,pR 40 aP uK.1.Graph.aF),(2,pR 98 aO uK.1.Places),(21,.row 46 [[iC uK.1.Graph.aI,lo 1 uK.1.Graph.aF.length,lo 2 uK.1.Places.length]])] z1 z4 ?_)))))))))))
   refine bT ⟨⟨_,_,_,Q,Q,Q,gY,dS,_,ji fF⟩,J⟩ z3 ⟨⟨au.sc,J,J,J⟩,J⟩ ⟨cZ.nP ⟨iY tH,au.sc,au.sc,J⟩,cZ.fA lF,cZ.fA pq,J⟩
theorem aPp (c:dW):FT Tryz.prog (Rz c) 149 [.c (.pl 0 0)] [(0,.row 105 [iw c])] (fun (t:(ah × dW)) => [.agg [iC t.1.Graph.aI,lo 1 t.1.Graph.aF.length,xT aO t.1.Places]]) (fun (t:(ah × dW)) => [(0,.row 105 [iw t.2]),(1,pR 40 aP t.1.Graph.aF)]) [1]:=by
 refine FT.xK [0] Tryz.func149 Tryz.ntmps149 Q y2 ?_
 intro w0 U0 R0 g0 hU
 unfold Rz
 refine Ws (Wr ?_)
 refine iF 21 [iC 0,sC aX,sC aX] xR y6 (On (Ws (Wr ?_)))
 refine aH (Cc (.pl 0 0)) y4 (aS fun r1 hr1 => (aT.step (dK [.c (.pl 0 0)] (Fw.Fn.ren [(0,0),(1,23),(2,24)] (aPq c r1 hr1) Q) aHh (l9 Q) z1 y3) z2 z1 Q Q (iF 25 [iC 0,sC aX,sC aX] xR y6 (dZ (stA [iC r1.1.Graph.aI,lo 23 r1.1.Graph.aF.length,lo 24 r1.1.Places.length] Q Q fF dS) Q Q Q Q Q (On (Ws (Ws ?_)))))))
 refine en [(0,Cc (.pl 0 0)),(2,Cc (.pl 21 0)),(3,Cc (.pl 25 0))] [(0,.row 105 [iw r1.2]),(21,.row 46 [[iC 0,sC aX,sC aX]]),(23,pR 40 aP r1.1.Graph.aF),(24,pR 98 aO r1.1.Places),(25,.row 46 [[iC r1.1.Graph.aI,lo 23 r1.1.Graph.aF.length,lo 24 r1.1.Places.length]])] z3 z5 (Wr (aH (Cc (.pl 0 0)) y4 (aS fun r2 hr2 => (aT.step (dK [.c (.pl 0 0),.c (iC 14)] (Fw.Fn.ren [(0,0)] (rV r1.2 14 r2 hr2) Q) rM (jv y2) z1 y3) ⟨Q,Q,y2,J⟩ z1 Q Q (On (aB.block (Ws (Wr ?_))))))))
 refine af LT.eql aU (aJ (Bv (r2.1 == 0)) y4 (On (aB.eX (fun j8 => ([(2,Cc (.pl 21 0)),(3,Cc (.pl 25 0))],[(0,.row 105 [[xT dI j8.1,iC j8.2.1,iC j8.2.2.1]]),(21,.row 46 [[iC 0,sC aX,sC aX]]),(23,pR 40 aP r1.1.Graph.aF),(25,.row 46 [[iC r1.1.Graph.aI,lo 23 r1.1.Graph.aF.length,xT aO j8.2.2.2]])])) ?_ (fun j8 _ => ?_))))
 ·refine aB.cond Q (fun yT => ?_) (fun yT => ?_)
  ·refine aB.draw mixed (dh (lo 24 r1.1.Places.length) iR iV bK (ay (Cc (.pl 0 0)) y4 (aGq (gu 27 aC [(0,.const (.int .i64 (-1)),.c (iC (-1))),(1,.const (.int .i64 5),.c (iC 5)),(2,.const (.int .i64 9),.c (iC 9))] ([-1,5,9]:List Int) dO iL y7) y2 y2 y2 Q Q (aQ.bind fun r10 D9 => (aQ.step (cF [.c (.pl 0 0),.c (lo 27 (([-1,5,9]:List Int).length))] [(27,pR 3 aC ([-1,5,9]:List Int))] (Fw.Fn.ren [(0,0)] (aGO r2.2 ([-1,5,9]:List Int) r10 D9) Q) aCE (.cons (.c (.same Q)) (.cons (.c (.eU Q Q)) .nil)) z1 y3) z3 z2 Q Q (aQ.bind fun x11 QL => (mF (LT.jH Q Q jU QL) Q y2 Q Q Q (ax (LT.dR Q qC) Q Q Q (lQ (qI 0 (.c (iC r10.1)) (eG.mk r10.1 x11.Y) Q Q pX dQ QL) Q Q Q Q Q (dm ?_))))))))))
   refine aB.ent (aY.AB (enc:=aO) (xs:=(r1.1.Places.set (Int.toNat 0) (eG.mk r10.1 x11.Y))) (σ':=[(0,Cc (.pl 0 0)),(2,Cc (.pl 21 0)),(3,Cc (.pl 25 0)),(6,Cc (.pl 0 0)),(7,Iv r2.1),(8,Bv (r2.1 == 0)),(9,Bv (r2.1 == 0)),(10,Cc (.pl 25 2)),(11,Cc (xT aO (r1.1.Places.set (Int.toNat 0) (eG.mk r10.1 x11.Y)))),(12,Cc (.pl 0 0)),(13,Cc (lo 27 (([-1,5,9]:List Int).length))),(14,Iv r10.1)]) (m':=[(0,.row 105 [iw r10.2]),(21,.row 46 [[iC 0,sC aX,sC aX]]),(23,pR 40 aP r1.1.Graph.aF),(25,.row 46 [[iC r1.1.Graph.aI,lo 23 r1.1.Graph.aF.length,xT aO (r1.1.Places.set (Int.toNat 0) (eG.mk r10.1 x11.Y))]]),(27,pR 3 aC ([-1,5,9]:List Int))]) 24 hU Q Q ⟨⟨_,Q,.same Q⟩,⟨_,Q,.same Q⟩,⟨_,Q,.same Q⟩,⟨_,Q,.same Q⟩,⟨_,Q,.same Q⟩,⟨_,Q,.same Q⟩,⟨_,Q,.same Q⟩,⟨_,Q,.same Q⟩,⟨_,Q,.c (.fr (by simp only [List.length_map,List.length_set]))⟩,⟨_,Q,.same Q⟩,⟨_,Q,.same Q⟩,⟨_,Q,.same Q⟩,J⟩ ⟨⟨Q,_,Q,.same Q⟩,⟨Q,_,Q,.same Q⟩,⟨Q,_,Q,.same Q⟩,⟨Q,_,Q,.row (.cons (.same Q) (.cons (.same Q) (.cons (.fr (by simp only [List.length_map,List.length_set])) .nil)))⟩,⟨Q,_,Q,.same Q⟩,J⟩) (aV Q z2 z4)
  ·refine Ws (Wr ?_)
   refine af LT.eql aU (aJ (Bv (r2.1 == 1)) y4 (On (aB.cond Q (fun hc12 => ?_) (fun hc12 => ?_))))
   ·refine Wr (fC (lo 24 r1.1.Places.length) iR iV bK (aT.ent (aY.AB (enc:=aO) (xs:=r1.1.Places) (σ':=[(0,Cc (.pl 0 0)),(2,Cc (.pl 21 0)),(3,Cc (.pl 25 0)),(6,Cc (.pl 0 0)),(7,Iv r2.1),(8,Bv (r2.1 == 0)),(9,Bv (r2.1 == 0)),(17,Bv (r2.1 == 1)),(18,Bv (r2.1 == 1)),(19,Cc (.pl 25 2)),(20,Cc (xT aO r1.1.Places))]) (m':=[(0,.row 105 [iw r2.2]),(21,.row 46 [[iC 0,sC aX,sC aX]]),(23,pR 40 aP r1.1.Graph.aF),(25,.row 46 [[iC r1.1.Graph.aI,lo 23 r1.1.Graph.aF.length,xT aO r1.1.Places]])]) 24 hU Q Q ⟨⟨_,Q,.same Q⟩,⟨_,Q,.same Q⟩,⟨_,Q,.same Q⟩,⟨_,Q,.same Q⟩,⟨_,Q,.same Q⟩,⟨_,Q,.same Q⟩,⟨_,Q,.same Q⟩,⟨_,Q,.same Q⟩,⟨_,Q,.same Q⟩,⟨_,Q,.same Q⟩,⟨_,Q,.c (.fr (by rw [List.length_map]))⟩,J⟩ ⟨⟨Q,_,Q,.same Q⟩,⟨Q,_,Q,.same Q⟩,⟨Q,_,Q,.same Q⟩,⟨Q,_,Q,.row (.cons (.same Q) (.cons (.same Q) (.cons (.fr (by rw [List.length_map])) .nil)))⟩,J⟩) (aS fun v13 Zk => (bg (LT.Xa (enc:=aO) (xB:=(some (.const (.int .i64 1),1))) (xA:=none) (l:=(Int.toNat 1)) (h:=r1.1.Places.length) Q Q Q uN lJ (fun _ => by rw [fE]; rfl) (.inl ⟨_,_,Q,(Gi Zk).1,Q⟩) (.inr y2) (XT Zk) (XR Zk)) Q y2 Q Q (aW (LT.dR Q iR) Q Q Q (dZ (ve (.c (xT aO ((r1.1.Places.take r1.1.Places.length).drop (Int.toNat 1)))) [iC r1.1.Graph.aI,lo 23 r1.1.Graph.aF.length,xT aO ((r1.1.Places.take r1.1.Places.length).drop (Int.toNat 1))] Q Q aDl aFZ) Q Q Q Q Q (On (aV Q z2 z4))))))))
   ·refine aB.skip (aB.ent (aY.AB (enc:=aO) (xs:=r1.1.Places) (σ':=[(0,Cc (.pl 0 0)),(2,Cc (.pl 21 0)),(3,Cc (.pl 25 0)),(6,Cc (.pl 0 0)),(7,Iv r2.1),(8,Bv (r2.1 == 0)),(9,Bv (r2.1 == 0)),(17,Bv (r2.1 == 1)),(18,Bv (r2.1 == 1))]) (m':=[(0,.row 105 [iw r2.2]),(21,.row 46 [[iC 0,sC aX,sC aX]]),(23,pR 40 aP r1.1.Graph.aF),(25,.row 46 [[iC r1.1.Graph.aI,lo 23 r1.1.Graph.aF.length,xT aO r1.1.Places]])]) 24 hU Q Q ⟨⟨_,Q,.same Q⟩,⟨_,Q,.same Q⟩,⟨_,Q,.same Q⟩,⟨_,Q,.same Q⟩,⟨_,Q,.same Q⟩,⟨_,Q,.same Q⟩,⟨_,Q,.same Q⟩,⟨_,Q,.same Q⟩,⟨_,Q,.same Q⟩,J⟩ ⟨⟨Q,_,Q,.same Q⟩,⟨Q,_,Q,.same Q⟩,⟨Q,_,Q,.same Q⟩,⟨Q,_,Q,.row (.cons (.same Q) (.cons (.same Q) (.cons (.fr (by rw [List.length_map])) .nil)))⟩,J⟩) (aV Q z2 z4))
 ·refine aB.blk (Ws (Wr ?_))
  refine bV (bQ [iC r1.1.Graph.aI,lo 23 r1.1.Graph.aF.length,xT aO j8.2.2.2] Q gY fF dS) Q Q Q Q (dZ (stA [iC r1.1.Graph.aI,lo 23 r1.1.Graph.aF.length,xT aO j8.2.2.2] Q Q fF dS) Q Q Q Q Q (On (en [(2,Cc (.pl 21 0))] [(0,.row 105 [[xT dI j8.1,iC j8.2.1,iC j8.2.2.1]]),(21,.row 46 [[iC r1.1.Graph.aI,lo 23 r1.1.Graph.aF.length,xT aO j8.2.2.2]]),(23,pR 40 aP r1.1.Graph.aF)] z1 z3 (aB.ent (aY.mv 23 1 Q Q) (en [(2,Cc (.pl 21 0))] [(0,.row 105 [[xT dI j8.1,iC j8.2.1,iC j8.2.2.1]]),(1,pR 40 aP r1.1.Graph.aF),(21,.row 46 [[iC r1.1.Graph.aI,lo 1 r1.1.Graph.aF.length,xT aO j8.2.2.2]])] z1 z3 (bT ⟨⟨_,_,_,Q,Q,Q,gY,dS,_,ji fF⟩,J⟩ z2 ⟨⟨au.sc,J,iY pq,J⟩,J⟩ ⟨cZ.nP ⟨iY tH,au.sc,au.sc,J⟩,cZ.fA lF,J⟩))))))
theorem Xk (c:dW):FT Tryz.prog (F8 c) 98 [.c (.pl 0 0)] [(0,.row 105 [iw c])] (fun (t:(bI × dW)) => [.agg [iC t.1.aG.Graph.aI,lo 1 t.1.aG.Graph.aF.length,xT aO t.1.aG.Places,lo 2 t.1.aN.length]]) (fun (t:(bI × dW)) => [(0,.row 105 [iw t.2]),(1,pR 40 aP t.1.aG.Graph.aF),(2,pR 3 aC t.1.aN)]) [1,2]:=by
 refine FT.xK [0] Tryz.func98 Tryz.ntmps98 Q y2 ?_
 intro w0 U0 R0 g0 hU
 unfold F8
 refine Ws (Wr ?_)
 refine iF 21 [iC 0,sC aX,sC aX,sC aX] oI y6 (On (Ws (Ws (Wr ?_))))
 refine aH (Cc (.pl 0 0)) y4 (aS fun r1 hr1 => (aT.step (dK [.c (.pl 0 0),.c (iC 4)] (Fw.Fn.ren [(0,0)] (Jm c 4 r1 hr1) Q) Ho (jv y2) z1 y3) ⟨Q,Q,y2,J⟩ z1 Q Q (On (aB.cond Q (fun hc2 => ?_) (fun hc2 => ?_)))))
 ·refine Ws (Wr ?_)
  refine aS fun r3 hr3 => (aT.step (dK [] (Fw.Fn.ren [(0,24),(1,25),(2,26)] (aPu  r3 hr3) Q) aHS .nil J y3) z1 J Q Q (iF 27 [iC 0,sC aX,sC aX,sC aX] oI y6 (dZ (stA [iC r3.aG.Graph.aI,lo 24 r3.aG.Graph.aF.length,lo 25 r3.aG.Places.length,lo 26 r3.aN.length] Q Q eF dP) Q Q Q Q Q (On (Ws (Ws ?_))))))
  refine en [(0,Cc (.pl 0 0)),(2,Cc (.pl 21 0)),(3,Cc (.pl 27 0))] [(0,.row 105 [iw r1.2]),(21,.row 48 [[iC 0,sC aX,sC aX,sC aX]]),(24,pR 40 aP r3.aG.Graph.aF),(25,pR 98 aO r3.aG.Places),(26,pR 3 aC r3.aN),(27,.row 48 [[iC r3.aG.Graph.aI,lo 24 r3.aG.Graph.aF.length,lo 25 r3.aG.Places.length,lo 26 r3.aN.length]])] z3 z6 (Wr (aH (Cc (.pl 0 0)) y4 (aS fun r4 hr4 => (aT.step (dK [.c (.pl 0 0),.c (iC 2)] (Fw.Fn.ren [(0,0)] (Jm r1.2 2 r4 hr4) Q) Ho (jv y2) z1 y3) ⟨Q,Q,y2,J⟩ z1 Q Q (On (aB.eX (fun j9 => ([(2,Cc (.pl 21 0)),(3,Cc (.pl 27 0))],[(0,.row 105 [[xT dI j9.1,iC j9.2.1,iC j9.2.2.1]]),(21,.row 48 [[iC 0,sC aX,sC aX,sC aX]]),(24,pR 40 aP r3.aG.Graph.aF),(25,pR 98 aO r3.aG.Places),(26,pR 3 aC j9.2.2.2),(27,.row 48 [[iC r3.aG.Graph.aI,lo 24 r3.aG.Graph.aF.length,lo 25 r3.aG.Places.length,lo 26 j9.2.2.2.length]])])) ?_ (fun j9 _ => ?_)))))))
  ·refine aB.cond Q (fun Pv => ?_) (fun Pv => ?_)
   ·refine aB.draw mixed (dh (lo 26 r3.aN.length) jy fP bK (ay (Cc (.pl 0 0)) y4 (aQ.bind fun r11 QB => (aQ.step (dK [.c (.pl 0 0),.c (iC 6)] (Fw.Fn.ren [(0,0)] (rV r4.2 6 r11 QB) Q) rM (jv y2) z1 y3) ⟨Q,Q,y2,J⟩ z1 Q Q (ay (Cc (.pl 0 0)) y4 (aQ.bind fun r12 QC => (aQ.step (dK [.c (.pl 0 0),.c (iC 3)] (Fw.Fn.ren [(0,0)] (rV r11.2 3 r12 QC) Q) rM (jv y2) z1 y3) ⟨Q,Q,y2,J⟩ z1 Q Q (aQ.bind fun kZ wP => (mF (LT.jH Q Q dG wP) Q Q Q Q Q (lQ (qI 0 (.c (iC r12.1)) r12.1 Q Q pX dQ wP) Q Q Q Q Q ?_))))))))))
    refine dm (aB.nil ⟨Q,aY.of z2 ⟨Q,Q,Q,Q,Q,congrArg (fun l1 => (some (Ob.row 48 [[iC r3.aG.Graph.aI,lo 24 r3.aG.Graph.aF.length,lo 25 r3.aG.Places.length,lo 26 l1]]):Option Ob)) (show r3.aN.length = (r3.aN.set r11.1.toNat r12.1).length by simp only [List.length_set]),J⟩⟩)
   ·refine aB.skip (aV Q z2 z6)
  ·refine Ws (Wr ?_)
   refine bV (bQ [iC r3.aG.Graph.aI,lo 24 r3.aG.Graph.aF.length,lo 25 r3.aG.Places.length,lo 26 j9.2.2.2.length] Q gZ eF dP) Q Q Q Q (dZ (stA [iC r3.aG.Graph.aI,lo 24 r3.aG.Graph.aF.length,lo 25 r3.aG.Places.length,lo 26 j9.2.2.2.length] Q Q eF dP) Q Q Q Q Q (On (aB.ent (aY.AB (enc:=aO) (xs:=r3.aG.Places) (σ':=[(2,Cc (.pl 21 0)),(3,Cc (.pl 27 0)),(19,Ag  [iC r3.aG.Graph.aI,lo 24 r3.aG.Graph.aF.length,xT aO r3.aG.Places,lo 26 j9.2.2.2.length])]) (m':=[(0,.row 105 [[xT dI j9.1,iC j9.2.1,iC j9.2.2.1]]),(21,.row 48 [[iC r3.aG.Graph.aI,lo 24 r3.aG.Graph.aF.length,xT aO r3.aG.Places,lo 26 j9.2.2.2.length]]),(24,pR 40 aP r3.aG.Graph.aF),(26,pR 3 aC j9.2.2.2),(27,.row 48 [[iC r3.aG.Graph.aI,lo 24 r3.aG.Graph.aF.length,xT aO r3.aG.Places,lo 26 j9.2.2.2.length]])]) 25 hU Q Q ⟨⟨_,Q,.same Q⟩,⟨_,Q,.same Q⟩,⟨_,Q,.agg (.cons (.same Q) (.cons (.same Q) (.cons (.fr (by rw [List.length_map])) (.cons (.same Q) .nil))))⟩,J⟩ ⟨⟨Q,_,Q,.same Q⟩,⟨Q,_,Q,.row (.cons (.same Q) (.cons (.same Q) (.cons (.fr (by rw [List.length_map])) (.cons (.same Q) .nil))))⟩,⟨Q,_,Q,.same Q⟩,⟨Q,_,Q,.same Q⟩,⟨Q,_,Q,.row (.cons (.same Q) (.cons (.same Q) (.cons (.fr (by rw [List.length_map])) (.cons (.same Q) .nil))))⟩,J⟩) (en [(2,Cc (.pl 21 0))] [(0,.row 105 [[xT dI j9.1,iC j9.2.1,iC j9.2.2.1]]),(21,.row 48 [[iC r3.aG.Graph.aI,lo 24 r3.aG.Graph.aF.length,xT aO r3.aG.Places,lo 26 j9.2.2.2.length]]),(24,pR 40 aP r3.aG.Graph.aF),(26,pR 3 aC j9.2.2.2)] z1 z4 (aB.ent (aY.mv 24 1 Q Q) (aB.ent (aY.mv 26 2 Q Q) (en [(2,Cc (.pl 21 0))] [(0,.row 105 [[xT dI j9.1,iC j9.2.1,iC j9.2.2.1]]),(1,pR 40 aP r3.aG.Graph.aF),(2,pR 3 aC j9.2.2.2),(21,.row 48 [[iC r3.aG.Graph.aI,lo 1 r3.aG.Graph.aF.length,xT aO r3.aG.Places,lo 2 j9.2.2.2.length]])] z1 z4 (bT ⟨⟨_,_,_,Q,Q,Q,gZ,dP,_,ji eF⟩,J⟩ z3 ⟨⟨au.sc,J,iY pq,J,J⟩,J⟩ ⟨cZ.nP ⟨iY tH,au.sc,au.sc,J⟩,cZ.fA lF,cZ.fA gQ,J⟩))))))))
 ·refine aB.skip (Ws (Wr ?_))
  refine aH (Cc (.pl 0 0)) y4 (aS fun gX QD => (aT.step (dK [.c (.pl 0 0)] (Fw.Fn.ren [(0,0),(1,32)] (aPp r1.2 gX QD) Q) aHT (l9 Q) z1 y3) z2 z1 Q Q (iF 33 [iC 0,sC aX,sC aX] xR y6 (dZ (stA [iC gX.1.Graph.aI,lo 32 gX.1.Graph.aF.length,xT aO gX.1.Places] Q Q fF dS) Q Q Q Q Q (On (Ws ?_))))))
  refine en [(0,Cc (.pl 0 0)),(2,Cc (.pl 21 0)),(4,Cc (.pl 33 0))] [(0,.row 105 [iw gX.2]),(21,.row 48 [[iC 0,sC aX,sC aX,sC aX]]),(32,pR 40 aP gX.1.Graph.aF),(33,.row 46 [[iC gX.1.Graph.aI,lo 32 gX.1.Graph.aF.length,xT aO gX.1.Places]])] z3 z4 (Wr (bV (bQ [iC gX.1.Graph.aI,lo 32 gX.1.Graph.aF.length,xT aO gX.1.Places] Q gY fF dS) Q Q Q Q (aW (LT.build [(0,.tmp 22,.agg [iC gX.1.Graph.aI,lo 32 gX.1.Graph.aF.length,xT aO gX.1.Places])] Q Q aAS oI Q Q Q) Q Q Q (iF 34 [iC 0,sC aX,sC aX,sC aX] oI y6 (dZ (stA [iC gX.1.Graph.aI,lo 32 gX.1.Graph.aF.length,xT aO gX.1.Places,sC aX] Q Q eF dP) Q Q Q Q Q (On (Ws (Ws (Wr ?_)))))))))
  refine aJ (Iv 0) aZ (On (aB.block ?_))
  refine aB.ent (aY.Sl 34 3 39 3 Q Q Q Q) (aB.jM (id:=0) (Nj gX) (fun s15 => ([(0,Cc (.pl 0 0)),(2,Cc (.pl 21 0)),(4,Cc (.pl 33 0)),(5,Cc (.pl 34 0)),(6,Iv s15.1)],[(0,.row 105 [[xT dI s15.2.1,iC s15.2.2.1,iC s15.2.2.2.1]]),(21,.row 48 [[iC 0,sC aX,sC aX,sC aX]]),(32,pR 40 aP gX.1.Graph.aF),(33,.row 46 [[iC gX.1.Graph.aI,lo 32 gX.1.Graph.aF.length,xT aO gX.1.Places]]),(34,.row 48 [[iC gX.1.Graph.aI,lo 32 gX.1.Graph.aF.length,xT aO gX.1.Places,lo 39 s15.2.2.2.2.length]]),(39,pR 3 aC s15.2.2.2.2)])) (fun fV => ([(0,Cc (.pl 0 0)),(2,Cc (.pl 21 0)),(5,Cc (.pl 34 0))],[(0,.row 105 [[xT dI fV.1,iC fV.2.1,iC fV.2.2.1]]),(21,.row 48 [[iC 0,sC aX,sC aX,sC aX]]),(32,pR 40 aP fV.2.2.2.1),(34,.row 48 [[iC fV.2.2.2.2.1,lo 32 fV.2.2.2.1.length,xT aO fV.2.2.2.2.2.1,lo 39 fV.2.2.2.2.2.2.length]]),(39,pR 3 aC fV.2.2.2.2.2.2)])) ?_ (aY.of z5 z6) Q (fun fV _ => ?_))
  ·intro s15
   unfold Nj
   refine Ws (Ws (Wr ?_))
   refine aH (Iv s15.1) y4 (aW (LT.dR Q jW) Q Q Q (fC (lo 32 gX.1.Graph.aF.length) iO jC bK (aW (LT.lC Q jE) Q Q Q (af LT.lss y5 (On (aB.cond Q (fun hc25 => ?_) (fun hc25 => ?_)))))))
   ·refine aB.skip (Ws (aB.block (aB.draw mixed ?_)))
    refine dh (lo 39 s15.2.2.2.2.length) jy fP bK (ay (Cc (.pl 0 0)) y4 (aQ.bind fun qy QG => (aQ.step (dK [.c (.pl 0 0),.c (iC 3)] (Fw.Fn.ren [(0,0)] (rV (dW.mk s15.2.1 s15.2.2.1 s15.2.2.2.1) 3 qy QG) Q) rM (jv y2) z1 y3) ⟨Q,Q,y2,J⟩ z1 Q Q (ay (Cc (.pl 0 0)) y4 (aQ.bind fun r27 ZN => (aQ.step (dK [.c (.pl 0 0),.c (iC 2)] (Fw.Fn.ren [(0,0)] (rV qy.2 2 r27 ZN) Q) rM (jv y2) z1 y3) ⟨Q,Q,y2,J⟩ z1 Q Q (dV LT.mul y5 (G5 (gu 37 aC [(0,.tmp 38,.c (iC (aA (qy.1 * r27.1))))] ([aA (qy.1 * r27.1)]:List Int) dO iL y7) Q Q Q (aQ.bind fun u28 aLW => (Jz (LT.pK (enc:=aC) Q Q Q dO iL Q (by decide) (by decide) (fun _ => Q) (kU aLW)) Q Q Q Q Q Q ?_))))))))))
    refine ax (LT.dR Q jy) Q Q Q (lQ (ve (.c (lo 39 ((s15.2.2.2.2 ++ ([aA (qy.1 * r27.1)]:List Int)).length))) [iC gX.1.Graph.aI,lo 32 gX.1.Graph.aF.length,xT aO gX.1.Places,lo 39 ((s15.2.2.2.2 ++ ([aA (qy.1 * r27.1)]:List Int)).length)] Q Q EH uU) Q Q Q Q Q (dm (aB.blk (en [(0,Cc (.pl 0 0)),(2,Cc (.pl 21 0)),(4,Cc (.pl 33 0)),(5,Cc (.pl 34 0)),(6,Iv s15.1)] [(0,.row 105 [iw r27.2]),(21,.row 48 [[iC 0,sC aX,sC aX,sC aX]]),(32,pR 40 aP gX.1.Graph.aF),(33,.row 46 [[iC gX.1.Graph.aI,lo 32 gX.1.Graph.aF.length,xT aO gX.1.Places]]),(34,.row 48 [[iC gX.1.Graph.aI,lo 32 gX.1.Graph.aF.length,xT aO gX.1.Places,lo 39 ((s15.2.2.2.2 ++ ([aA (qy.1 * r27.1)]:List Int)).length)]]),(39,pR 3 aC (s15.2.2.2.2 ++ ([aA (qy.1 * r27.1)]:List Int)))] z5 z6 (Wr (aH (Iv s15.1) y4 (af LT.add aU (aJ (Iv (aA (s15.1 + 1))) y4 (On (aV Q z5 z6))))))))))
   ·refine eu y2 z3 z5
  ·refine Ws (Ws ?_)
   refine aB.eX (fun j31 => ([(0,Cc (.pl 0 0)),(2,Cc (.pl 21 0)),(5,Cc (.pl 34 0)),(49,Bv j31.1)],[(0,.row 105 [[xT dI j31.2.1,iC j31.2.2.1,iC j31.2.2.2]]),(21,.row 48 [[iC 0,sC aX,sC aX,sC aX]]),(32,pR 40 aP fV.2.2.2.1),(34,.row 48 [[iC fV.2.2.2.2.1,lo 32 fV.2.2.2.1.length,xT aO fV.2.2.2.2.2.1,lo 39 fV.2.2.2.2.2.2.length]]),(39,pR 3 aC fV.2.2.2.2.2.2)])) ?_ (fun j31 _ => ?_)
   ·refine Wr (fC (lo 39 fV.2.2.2.2.2.2.length) jy fP bK (aW (LT.lC Q dO) Q Q Q (af LT.gtr aU (aH (Bv (decide (0 < (fV.2.2.2.2.2.2.length:Int)))) y4 (aT.split (fun IL => ?_) (fun IL => ?_))))))
    ·refine dB (Cc (.pl 0 0)) IL y5 (aS fun qX ZQ => (aT.step (dK [.c (.pl 0 0),.c (iC 14)] (Fw.Fn.ren [(0,0)] (Jm (dW.mk fV.1 fV.2.1 fV.2.2.1) 14 qX ZQ) Q) Ho (jv y2) z1 y3) ⟨Q,Q,y2,J⟩ z1 (gH IL Q Q) Q (dD (Bv qX.1) IL y5 (On (aV Q z4 z5)))))
    ·refine aK IL y5 (aK IL y5 (dA (Bv false) IL aU (On (aV Q z4 z5))))
   ·refine aB.eX (fun j37 => ([(2,Cc (.pl 21 0)),(5,Cc (.pl 34 0))],[(0,.row 105 [[xT dI j37.1,iC j37.2.1,iC j37.2.2.1]]),(21,.row 48 [[iC 0,sC aX,sC aX,sC aX]]),(32,pR 40 aP fV.2.2.2.1),(34,.row 48 [[iC fV.2.2.2.2.1,lo 32 fV.2.2.2.1.length,xT aO fV.2.2.2.2.2.1,lo 39 j37.2.2.2.length]]),(39,pR 3 aC j37.2.2.2)])) ?_ (fun j37 _ => ?_)
    ·refine aB.cond Q (fun hc38 => ?_) (fun hc38 => ?_)
     ·refine aB.draw mixed (dh (lo 39 fV.2.2.2.2.2.2.length) jy fP bK (ay (Cc (.pl 0 0)) y4 (aBY (gu 41 aC [(0,.const (.int .i64 (-1)),.c (iC (-1))),(1,.const (.int .i64 3),.c (iC 3))] ([-1,3]:List Int) dO iL y7) y2 y2 Q Q (aQ.bind fun yu ZT => (aQ.step (cF [.c (.pl 0 0),.c (lo 41 (([-1,3]:List Int).length))] [(41,pR 3 aC ([-1,3]:List Int))] (Fw.Fn.ren [(0,0)] (aGO (dW.mk j31.2.1 j31.2.2.1 j31.2.2.2) ([-1,3]:List Int) yu ZT) Q) aCE (.cons (.c (.same Q)) (.cons (.c (.eU Q Q)) .nil)) z1 y3) z3 z2 Q Q (aQ.bind fun x40 Vg => (mF (LT.jH Q Q dG Vg) Q y2 Q Q Q (lQ (qI 0 (.c (iC yu.1)) yu.1 Q Q pX dQ Vg) Q Q Q Q Q (dm (aB.nil ⟨Q,aY.of z2 ⟨Q,Q,Q,congrArg (fun l1 => (some (Ob.row 48 [[iC fV.2.2.2.2.1,lo 32 fV.2.2.2.1.length,xT aO fV.2.2.2.2.2.1,lo 39 l1]]):Option Ob)) (show fV.2.2.2.2.2.2.length = (fV.2.2.2.2.2.2.set (Int.toNat 0) yu.1).length by simp only [List.length_set]),Q,J⟩⟩))))))))))
     ·refine aB.skip (aV Q z2 z5)
    ·refine Ws (Wr ?_)
     refine bV (bQ [iC fV.2.2.2.2.1,lo 32 fV.2.2.2.1.length,xT aO fV.2.2.2.2.2.1,lo 39 j37.2.2.2.length] Q gZ eF dP) Q Q Q Q (dZ (stA [iC fV.2.2.2.2.1,lo 32 fV.2.2.2.1.length,xT aO fV.2.2.2.2.2.1,lo 39 j37.2.2.2.length] Q Q eF dP) Q Q Q Q Q (On (en [(2,Cc (.pl 21 0))] [(0,.row 105 [[xT dI j37.1,iC j37.2.1,iC j37.2.2.1]]),(21,.row 48 [[iC fV.2.2.2.2.1,lo 32 fV.2.2.2.1.length,xT aO fV.2.2.2.2.2.1,lo 39 j37.2.2.2.length]]),(32,pR 40 aP fV.2.2.2.1),(39,pR 3 aC j37.2.2.2)] z1 z4 (aB.ent (aY.mv 32 1 Q Q) (aB.ent (aY.mv 39 2 Q Q) (en [(2,Cc (.pl 21 0))] [(0,.row 105 [[xT dI j37.1,iC j37.2.1,iC j37.2.2.1]]),(1,pR 40 aP fV.2.2.2.1),(2,pR 3 aC j37.2.2.2),(21,.row 48 [[iC fV.2.2.2.2.1,lo 1 fV.2.2.2.1.length,xT aO fV.2.2.2.2.2.1,lo 2 j37.2.2.2.length]])] z1 z4 (bT ⟨⟨_,_,_,Q,Q,Q,gZ,dP,_,ji eF⟩,J⟩ z3 ⟨⟨au.sc,J,iY pq,J,J⟩,J⟩ ⟨cZ.nP ⟨iY tH,au.sc,au.sc,J⟩,cZ.fA lF,cZ.fA gQ,J⟩)))))))
theorem aPZ (code:(List Int)):FT Tryz.prog (RN code) 29 [.c (xT dI code)] [] (fun (t:bI) => [.agg [iC t.aG.Graph.aI,lo 0 t.aG.Graph.aF.length,xT aO t.aG.Places,lo 1 t.aN.length]]) (fun (t:bI) => [(0,pR 40 aP t.aG.Graph.aF),(1,pR 3 aC t.aN)]) [0,1]:=by
 refine FT.of [] Tryz.func29 Tryz.ntmps29 Q y2 ?_
 intro w0 U0 R0 g0
 unfold RN
 refine Ws (Wr ?_)
 refine iF 21 [iC 0,sC aX,sC aX,sC aX] oI y6 (On (Ws (Wr ?_)))
 refine aH (Cc (xT dI code)) y4 (aS fun r1 hr1 => (aT.step (dK [.c (xT dI code)] (Fw.Fn.ren [(0,23)] (Xl code r1 hr1) Q) Ui (l9 Q) J y3) z2 J Q Q (aS fun r2 hr2 => (aT.step (dK [.c (.pl 23 0)] (Fw.Fn.ren [(0,23),(1,25),(2,26)] (Xk r1 r2 hr2) Q) Uj (l9 Q) z1 y3) z2 z1 Q Q (dZ (stA [iC r2.1.aG.Graph.aI,lo 25 r2.1.aG.Graph.aF.length,xT aO r2.1.aG.Places,lo 26 r2.1.aN.length] Q Q eF dP) Q Q Q Q Q (On (en [(2,Cc (.pl 21 0))] [(21,.row 48 [[iC r2.1.aG.Graph.aI,lo 25 r2.1.aG.Graph.aF.length,xT aO r2.1.aG.Places,lo 26 r2.1.aN.length]]),(25,pR 40 aP r2.1.aG.Graph.aF),(26,pR 3 aC r2.1.aN)] z1 z3 (aB.ent (aY.mv 25 0 Q Q) (aB.ent (aY.mv 26 1 Q Q) (en [(2,Cc (.pl 21 0))] [(0,pR 40 aP r2.1.aG.Graph.aF),(1,pR 3 aC r2.1.aN),(21,.row 48 [[iC r2.1.aG.Graph.aI,lo 0 r2.1.aG.Graph.aF.length,xT aO r2.1.aG.Places,lo 1 r2.1.aN.length]])] z1 z3 (bT ⟨⟨_,_,_,Q,Q,Q,gZ,dP,_,ji eF⟩,J⟩ z2 ⟨⟨au.sc,J,iY pq,J,J⟩,J⟩ ⟨cZ.fA lF,cZ.fA gQ,J⟩)))))))))))
theorem aPQ (p:eG):FT Tryz.prog (Q9 p) 160 [.agg [iC p.X,iC p.Y]] [] (fun (t:Bool) => [.c (bC t)]) (fun (t:Bool) => []) []:=by
 refine FT.of [] Tryz.func160 Tryz.ntmps160 Q y2 ?_
 intro w0 U0 R0 g0
 unfold Q9
 refine Ws (Wr ?_)
 refine gy 21 (.agg [iC p.X,iC p.Y]) fE y5 (aJ (Bv false) aZ (On (Ws ?_)))
 refine aB.eX (fun j4 => ([(2,Bv j4)],[])) ?_ (fun j4 _ => ?_)
 ·refine Wr (fC (iC p.X) qC ak bK (aS fun r5 nI => (iD [.c (iC p.X),.c (iC 0),.c (iC 4)] (O0 p.X 0 4 r5 nI) KD (vK y3) y5 ⟨Q,Q,y2,y2,J⟩ (aH (Bv r5) y4 (aT.split (fun hb6 => ?_) (fun hb6 => ?_))))))
  ·refine jd (iC p.Y) qQ ak hb6 iJ (aS fun r7 lH => (aT.pure (dK [.c (iC p.Y),.c (iC 0),.c (iC 4)] (O0 p.Y 0 4 r7 lH) KD (vK y3) J y3) ⟨Q,Q,y2,y2,J⟩ J (gH hb6 Q Q) Q (dD (Bv r7) hb6 y5 (aJ (Bv r7) y4 (On (aV Q z1 J))))))
  ·refine aK hb6 y5 (aK hb6 y5 (aK hb6 y5 (dA (Bv false) hb6 aU (aJ (Bv false) y4 (On (aV Q z1 J))))))
 ·refine bT z1 J ⟨au.sc,J⟩ J
theorem Gs (f:ah):FT Tryz.prog (zM f) 116 [.agg (aj f)] [] (fun (t:Bool) => [.c (bC t)]) (fun (t:Bool) => []) []:=by
 refine FT.of [] Tryz.func116 Tryz.ntmps116 Q y2 ?_
 intro w0 U0 R0 g0
 unfold zM
 refine Ws (Wr ?_)
 refine gy 21 (.agg (aj f)) dS y5 (aJ (Bv false) aZ (On (Ws (Wr ?_))))
 refine aW (LT.dR Q jW) Q Q Q (bV (bQ (eY f.Graph) Q jq gW fD) Q Q Q Q (iF 22 [iC 0,sC aX] nK y6 (dZ (stA (eY f.Graph) Q Q gW fD) Q Q Q Q Q (On (Ws (Ws ?_))))))
 refine aB.eX (fun j5 => ([(1,Cc (.pl 21 0)),(3,Cc (.pl 22 0)),(31,Bv j5)],[(21,.row 46 [aj f]),(22,.row 26 [eY f.Graph])])) ?_ (fun j5 _ => ?_)
 ·refine en [(1,Cc (.pl 21 0)),(3,Cc (.pl 22 0))] [(21,.row 46 [aj f]),(22,.row 26 [eY f.Graph])] z2 z2 (Wr (bV (bQ (eY f.Graph) Q jq gW fD) Q Q Q Q (aS fun r6 EC => (iD [.agg (eY f.Graph)] (aPG f.Graph r6 EC) aH1 (Gf y2) y5 z2 (aW (LT.not Q) Q Q Q (aH (Bv (!r6)) y4 (aT.split (fun hb7 => ?_) (fun hb7 => ?_))))))))
  ·refine aK hb7 y5 (aK hb7 y5 (aK hb7 y5 (dD (Bv true) hb7 aU (aH (Bv true) y4 (bF y5 (bF y5 (bF y5 (bF y5 (dD (Bv true) Q aU (aH (Bv true) y4 (bF y5 ?_)))))))))))
   refine bF y5 (bF y5 (bF y5 (bF y5 (bF y5 (dD (Bv true) Q aU (On (aV Q z3 z2)))))))
  ·refine jd (iC f.Graph.aI) lT ak hb7 iJ (fB LT.gtr hb7 iT (dA (Bv (decide (6 < f.Graph.aI))) hb7 y5 (aH (Bv (decide (6 < f.Graph.aI))) y4 (aT.split (fun hb8 => ?_) (fun hb8 => ?_)))))
   ·refine aK hb8 y5 (aK hb8 y5 (aK hb8 y5 (aK hb8 y5 (dD (Bv true) hb8 aU (aH (Bv true) y4 (bF y5 (bF y5 (bF y5 (bF y5 (bF y5 (bF y5 ?_)))))))))))
    refine dD (Bv true) Q aU (On (aV Q z3 z2))
   ·refine jd (xF aP f.Graph.aF) iO jC hb8 iJ (aW (LT.fG Q jE) Q (gH hb8 Q Q) Q (fB LT.gtr hb8 iT (dA (Bv (decide (15 < (f.Graph.aF.length:Int)))) hb8 y5 (aH (Bv (decide (15 < (f.Graph.aF.length:Int)))) y4 (aT.split (fun mY => ?_) (fun mY => ?_))))))
    ·refine aK mY y5 (aK mY y5 (aK mY y5 (aK mY y5 (aK mY y5 (aK mY y5 (dD (Bv true) mY aU (On (aV Q z3 z2))))))))
    ·refine jd (xF aO f.Places) iR iV mY iJ (aW (LT.fG Q uN) Q (gH mY Q Q) Q (jd (iC f.Graph.aI) lT ak mY iJ (fB LT.neq mY y6 (dA (Bv ((f.Places.length:Int) != f.Graph.aI)) mY y5 (On (aV Q z3 z2))))))
 ·refine aB.cond Q (fun Pv => ?_) (fun Pv => ?_)
  ·refine Ws (Wr ?_)
   refine aJ (Bv false) aZ (On (bT z1 J ⟨au.sc,J⟩ J))
  ·refine aB.skip (Ws (Ws (Wr ?_)))
   refine fC (xF aO f.Places) iR iV bK (aW (LT.fG Q uN) Q Q Q (aH (Iv 0) aZ (On (aB.block ?_))))
   refine aB.lD (id:=0) (Ld f) (fun s11 => ([(1,Cc (.pl 21 0)),(3,Cc (.pl 22 0)),(33,Cc (xF aO f.Places)),(34,Iv (f.Places.length:Int)),(35,Iv s11)],[(21,.row 46 [aj f]),(22,.row 26 [eY f.Graph])])) (fun b20 => ([(1,Cc (.pl 21 0)),(3,Cc (.pl 22 0))],[(21,.row 46 [aj f]),(22,.row 26 [eY f.Graph])])) (ja Tryz.prog Tryz.f116.results.toList [] [] (fun (t:Bool) => [.c (bC t)]) (fun (t:Bool) => [])) ?_ (aY.of z5 z2) Q (fun b20 _ => ?_) lK
   ·intro s11
    unfold Ld
    refine Ws (Wr ?_)
    refine af LT.lss y5 (On (Ws ?_))
    refine aB.cond Q (fun hc21 => ?_) (fun hc21 => ?_)
    ·refine aB.skip (Ws (aB.block (Ws (Wr ?_))))
     refine aS fun oJ Ie => (bg (LT.bU (enc:=aO) Q jU Ie fE) Q Q Q Q (aW (kJ Q o6 lJ fE) Q Q Q (iF 24 [iC 0,iC 0] tX y6 (dZ (stA [iC oJ.X,iC oJ.Y] Q Q lJ fE) Q Q Q Q Q (On (Ws (Wr ?_)))))))
     refine bV (bQ [iC oJ.X,iC oJ.Y] Q o6 lJ fE) Q Q Q Q (aS fun wV QF => (iD [.agg [iC oJ.X,iC oJ.Y]] (aPQ oJ wV QF) aHY (Gf y2) y5 z2 (aW (LT.not Q) Q Q Q (On (aB.cond Q (fun hc24 => ?_) (fun hc24 => ?_))))))
     ·refine Ws (en [] [] J J (Wr (aJ (Bv false) aZ (On (aB.ret ⟨Q,kz z1 J ⟨au.sc,J⟩ J⟩)))))
     ·refine aB.skip (aB.blk ?_)
      refine en [(1,Cc (.pl 21 0)),(3,Cc (.pl 22 0)),(33,Cc (xF aO f.Places)),(34,Iv (f.Places.length:Int)),(35,Iv s11)] [(21,.row 46 [aj f]),(22,.row 26 [eY f.Graph])] z5 z2 (Wr (af LT.add aU (aH (Iv (aA (s11 + 1))) y4 (On (aV Q z5 z2)))))
    ·refine eu y2 z2 z2
   ·refine Ws (Ws (Wr ?_))
    refine fC (xF aP f.Graph.aF) iO jC bK (aW (LT.fG Q jE) Q Q Q (aH (Iv 0) aZ (On (aB.block ?_))))
    refine aB.lD (id:=2) (Le f) (fun jm => ([(1,Cc (.pl 21 0)),(3,Cc (.pl 22 0)),(44,Cc (xF aP f.Graph.aF)),(45,Iv (f.Graph.aF.length:Int)),(46,Iv jm)],[(21,.row 46 [aj f]),(22,.row 26 [eY f.Graph])])) (fun b62 => ([],[])) (ja Tryz.prog Tryz.f116.results.toList [] [] (fun (t:Bool) => [.c (bC t)]) (fun (t:Bool) => [])) ?_ (aY.of z5 z2) Q (fun b62 _ => ?_) lK
    ·intro jm
     unfold Le
     refine Ws (Wr ?_)
     refine af LT.lss y5 (On (Ws ?_))
     refine aB.cond Q (fun hc63 => ?_) (fun hc63 => ?_)
     ·refine aB.skip (Ws (aB.block (Ws (Wr ?_))))
      refine aH (Iv jm) y4 (aS fun mg Vj => (bg (LT.bU (enc:=aP) Q qP Vj fU) Q Q Q Q (aW (kJ Q lX je fU) Q Q Q (iF 26 [iC 0,iC 0] jh y6 (aJ (Iv jm) y4 (dZ (stA [iC mg.A,iC mg.B] Q Q je fU) Q Q Q Q Q (On (Ws ?_))))))))
      refine aB.eX (fun j72 => ([(1,Cc (.pl 21 0)),(3,Cc (.pl 22 0)),(44,Cc (xF aP f.Graph.aF)),(45,Iv (f.Graph.aF.length:Int)),(46,Iv jm),(77,Bv j72)],[(21,.row 46 [aj f]),(22,.row 26 [eY f.Graph])])) ?_ (fun j72 _ => ?_)
      ·refine en [(1,Cc (.pl 21 0)),(3,Cc (.pl 22 0)),(6,Iv jm),(7,Cc (.pl 26 0)),(44,Cc (xF aP f.Graph.aF)),(45,Iv (f.Graph.aF.length:Int)),(46,Iv jm)] [(21,.row 46 [aj f]),(22,.row 26 [eY f.Graph]),(26,.row 40 [[iC mg.A,iC mg.B]])] z7 z3 (aB.draw mixed (ay (Iv jm) y4 (dV LT.gtr aU (ay (Bv (decide (0 < jm))) y4 (aQ.split (fun uP => ?_) (fun uP => ?_))))))
       ·refine ql (xF aP f.Graph.aF) iO jC uP iJ (kN (Iv jm) uP y5 (oV LT.sub uP iT (aQ.bind fun Eh aML => (bZ (LT.bU (enc:=aP) Q qP aML fU) Q Q (gH uP Q Q) Q (ax (kJ Q lX je fU) Q (gH uP Q Q) Q (fM (bQ [iC mg.A,iC mg.B] Q lX je fU) Q Q (gH uP Q Q) Q (bZ (LT.Hw [Eh.A,Eh.B] [mg.A,mg.B] Q Vq Q Q) Q Q (gH uP Q Q) Q (mP (Bv (jT [Eh.A,Eh.B] [mg.A,mg.B])) uP y5 (ay (Bv (jT [Eh.A,Eh.B] [mg.A,mg.B])) y4 (aQ.split (fun qF => ?_) (fun qF => ?_)))))))))))
        ·refine bJ qF y3 (bJ qF y3 (bJ qF y3 (bJ qF y3 (bJ qF y3 (bJ qF y3 (bJ qF y3 (bJ qF y3 (bJ qF y3 (bJ qF y3 (bJ qF y3 (bJ qF y3 ?_)))))))))))
         refine bJ qF y3 (mP (Bv true) qF aU (dm (aV Q z6 z2)))
        ·refine ql (xF aO f.Places) iR iV qF iJ (ql (iC mg.A) nS ak qF iJ (aQ.bind fun oU Qa => (bZ (LT.bU (enc:=aO) Q jU Qa fE) Q Q (gH qF Q Q) Q (ax (kJ Q o6 lJ fE) Q (gH qF Q Q) Q (ql (xF aO f.Places) iR iV qF iJ (ql (iC mg.B) oZ ak qF iJ (aQ.bind fun xk Zu => ?_)))))))
         refine bZ (LT.bU (enc:=aO) Q jU Zu fE) Q Q (gH qF Q Q) Q (ax (kJ Q o6 lJ fE) Q (gH qF Q Q) Q (bZ (LT.Hw [oU.X,oU.Y] [xk.X,xk.Y] Q FQ Q Q) Q Q (gH qF Q Q) Q (lm (Bv (jT [oU.X,oU.Y] [xk.X,xk.Y])) qF y5 (dm (aV Q z6 z2)))))
       ·refine bJ uP y3 (bJ uP y3 (bJ uP y3 (bJ uP y3 (bJ uP y3 (bJ uP y3 (bJ uP y3 (bJ uP y3 (lm (Bv false) uP aU (ay (Bv false) y4 (ax (LT.dR Q iR) Q (gS Q Q) Q (fM (qx (xF aO f.Places) Q iV) Q Q (gS Q Q) Q ?_)))))))))))
        refine ax (LT.dR Q nS) Q (gS Q Q) Q (fM (qx (iC mg.A) Q ak) Q Q (gS Q Q) Q (aQ.bind fun qc Ik => (bZ (LT.bU (enc:=aO) Q jU Ik fE) Q Q (gS Q Q) Q (ax (kJ Q o6 lJ fE) Q (gS Q Q) Q (ax (LT.dR Q iR) Q (gS Q Q) Q (fM (qx (xF aO f.Places) Q iV) Q Q (gS Q Q) Q (ax (LT.dR Q oZ) Q (gS Q Q) Q (fM (qx (iC mg.B) Q ak) Q Q (gS Q Q) Q (aQ.bind fun zf Zv => (bZ (LT.bU (enc:=aO) Q jU Zv fE) Q Q (gS Q Q) Q (ax (kJ Q o6 lJ fE) Q (gS Q Q) Q ?_)))))))))))
        refine bZ (LT.Hw [qc.X,qc.Y] [zf.X,zf.Y] Q FQ Q Q) Q Q (gS Q Q) Q (lm (Bv (jT [qc.X,qc.Y] [zf.X,zf.Y])) Q y5 (dm (aV Q z6 z2)))
      ·refine aB.cond Q (fun aJt => ?_) (fun aJt => ?_)
       ·refine Ws (Wr ?_)
        refine aJ (Bv false) aZ (On (aB.ret ⟨Q,kz z1 J ⟨au.sc,J⟩ J⟩))
       ·refine aB.skip (aB.blk (Wr ?_))
        refine af LT.add aU (aH (Iv (aA (jm + 1))) y4 (On (aV Q z5 z2)))
     ·refine eu y2 J J
    ·refine Ws (Wr ?_)
     refine aJ (Bv true) aZ (On (bT z1 J ⟨au.sc,J⟩ J))
theorem Oz (tV:bI):FT Tryz.prog (zN tV) 42 [.agg (eP tV)] [] (fun (t:Bool) => [.c (bC t)]) (fun (t:Bool) => []) []:=by
 refine FT.of [] Tryz.func42 Tryz.ntmps42 Q y2 ?_
 intro w0 U0 R0 g0
 unfold zN
 refine Ws (Wr ?_)
 refine gy 21 (.agg (eP tV)) dP y5 (aJ (Bv false) aZ (On (Ws (Ws (Wr ?_)))))
 refine fC (xF aC tV.aN) jy fP bK (aW (LT.fG Q dO) Q Q Q (aH (Iv 0) aZ (On (aB.block ?_))))
 refine aB.lD (id:=0) (Fg tV) (fun s1 => ([(1,Cc (.pl 21 0)),(6,Cc (xF aC tV.aN)),(7,Iv (tV.aN.length:Int)),(8,Iv s1)],[(21,.row 48 [eP tV])])) (fun b10 => ([(1,Cc (.pl 21 0))],[(21,.row 48 [eP tV])])) (ja Tryz.prog Tryz.f42.results.toList [] [] (fun (t:Bool) => [.c (bC t)]) (fun (t:Bool) => [])) ?_ (aY.of z4 z1) Q (fun b10 _ => ?_) lK
 ·intro s1
  unfold Fg
  refine Ws (Wr ?_)
  refine af LT.lss y5 (On (Ws ?_))
  refine aB.cond Q (fun sG => ?_) (fun sG => ?_)
  ·refine aB.skip (Ws (aB.block (Ws (Wr ?_))))
   refine aS fun x12 wO => (bg (LT.bU (enc:=aC) Q dG wO dQ) Q Q Q Q (aW (LT.dJ Q ak) Q Q Q (aJ (Iv x12) y4 (On (Ws (Wr ?_))))))
   refine aH (Iv x12) y4 (aS fun r13 uF => (iD [.c (iC x12),.c (iC 0),.c (iC 2)] (O0 x12 0 2 r13 uF) KD (vK y3) y5 ⟨Q,Q,y2,y2,J⟩ (aW (LT.not Q) Q Q Q (On (aB.cond Q (fun yS => ?_) (fun yS => ?_))))))
   ·refine Ws (Wr ?_)
    refine aJ (Bv false) aZ (On (aB.ret ⟨Q,kz z1 J ⟨au.sc,J⟩ J⟩))
   ·refine aB.skip (aB.blk (Wr ?_))
    refine af LT.add aU (aH (Iv (aA (s1 + 1))) y4 (On (aV Q z4 z1)))
  ·refine eu y2 z1 z1
 ·refine Ws (aB.eX (fun j17 => ([(2,Bv j17)],[])) ?_ (fun j17 _ => ?_))
  ·refine Wr (aW (LT.dR Q mM) Q Q Q (bV (bQ (aj tV.aG) Q gY fF dS) Q Q Q Q (aS fun jk Aa => (iD [.agg (aj tV.aG)] (Gs tV.aG jk Aa) Ez (mV y3) y5 z2 (aH (Bv jk) y4 (aT.split (fun iH => ?_) (fun iH => ?_)))))))
   ·refine jd (xF aC tV.aN) jy fP iH iJ (aW (LT.fG Q dO) Q (gH iH Q Q) Q (aW (LT.dR Q mM) Q (gH iH Q Q) Q (aW (LT.dR Q jW) Q (gH iH Q Q) Q (jd (xF aP tV.aG.Graph.aF) iO jC iH iJ (aW (LT.fG Q jE) Q (gH iH Q Q) Q (fB LT.eql iH y6 (dD (Bv ((tV.aN.length:Int) == (tV.aG.Graph.aF.length:Int))) iH y5 (aJ (Bv ((tV.aN.length:Int) == (tV.aG.Graph.aF.length:Int))) y4 (On ?_)))))))))
    refine aV Q z1 J
   ·refine aK iH y5 (aK iH y5 (aK iH y5 (aK iH y5 (aK iH y5 (aK iH y5 (aK iH y5 (aK iH y5 (aK iH y5 (dA (Bv false) iH aU (aJ (Bv false) y4 (On ?_)))))))))))
    refine aV Q z1 J
  ·refine bT z1 J ⟨au.sc,J⟩ J
theorem aBB (f:ah):FT Tryz.prog (Iw f) 152 [.agg (aj f)] [] (fun (t:(List (List Int))) => [.c (lo 0 t.length)]) (fun (t:(List (List Int))) => [(0,.bf 28 1 (bP t)),(1,.pool 3 (rowsOf aC t))]) [0,1]:=by
 refine FT.of [] Tryz.func152 Tryz.ntmps152 Q y2 ?_
 intro w0 U0 R0 g0
 unfold Iw
 refine Ws (Wr ?_)
 refine gy 21 (.agg (aj f)) dS y5 (aJ (Cc (sC aX)) aZ (On (Ws (Wr ?_))))
 refine jo (LT.buildSlice (n:=22) (els:=[]) [] Q Q jR oH Q Q Q Q (by decide) Q Q) Q Q (aJ (Cc (lo 22 0)) y4 (On (aB.ent (aY.Oa 23 3 Q) (aB.ent (aY.bf (n:=22) (p:=23) (lens:=bP ([]:List (List Int))) (List.append_nil _) Q) (Ws (Ws (Wr ?_)))))))
 refine bV (bQ (aj f) Q gY fF dS) Q Q Q Q (aS fun r1 hr1 => (iD [.agg (aj f)] (Gs f r1 hr1) Ez (mV y3) y5 z2 (aW (LT.not Q) Q Q Q (On (aB.cond Q (fun hc2 => ?_) (fun hc2 => ?_))))))
 ·refine Ws (Wr ?_)
  refine aH (Cc (lo 22 0)) y4 (aJ (Cc (lo 22 0)) y4 (On (en [(2,Cc (lo 22 0))] [(22,.bf 28 23 (bP ([]:List (List Int)))),(23,.pool 3 (rowsOf aC ([]:List (List Int))))] z1 z2 (aB.ent (aY.mv 22 0 Q Q) (aB.ent (aY.mv 23 1 Q Q) (en [(2,Cc (lo 0 (([]:List (List Int)).length)))] [(0,.bf 28 1 (bP ([]:List (List Int)))),(1,.pool 3 (rowsOf aC ([]:List (List Int))))] z1 z2 (bT z1 z2 ⟨J,J⟩ ⟨J,cZ.Aq gQ _,J⟩)))))))
 ·refine aB.skip (Ws (Ws (Wr ?_)))
  refine aW (LT.dR Q jW) Q Q Q (fC (xF aP f.Graph.aF) iO jC bK (aW (LT.fG Q jE) Q Q Q (aH (Iv 0) aZ (On (aB.block ?_)))))
  refine aB.jM (id:=0) (L8 f) (fun s3 => ([(1,Cc (.pl 21 0)),(3,Cc (lo 22 s3.2.length)),(16,Cc (xF aP f.Graph.aF)),(17,Iv (f.Graph.aF.length:Int)),(18,Iv s3.1)],[(21,.row 46 [aj f]),(22,.bf 28 23 (bP s3.2)),(23,.pool 3 (rowsOf aC s3.2))])) (fun fV => ([(3,Cc (lo 22 fV.length))],[(22,.bf 28 23 (bP fV)),(23,.pool 3 (rowsOf aC fV))])) ?_ (aY.of z5 z3) Q (fun fV _ => ?_)
  ·intro s3
   unfold L8
   refine Ws (Wr ?_)
   refine af LT.lss y5 (On (Ws ?_))
   refine aB.cond Q (fun hc25 => ?_) (fun hc25 => ?_)
   ·refine aB.skip (Ws (aB.block (Ws (Wr ?_))))
    refine aS fun jF aMB => (bg (LT.bU (enc:=aP) Q qP aMB fU) Q Q Q Q (aW (kJ Q lX je fU) Q Q Q (iF 25 [iC 0,iC 0] jh y6 (dZ (stA [iC jF.A,iC jF.B] Q Q je fU) Q Q Q Q Q (On (Ws (Wr ?_)))))))
    refine aW (LT.dR Q jW) Q Q Q (fC (iC f.Graph.aI) lT ak bK (af LT.mul lV (aS fun u27 Zd => (G7 (LT.Ji (n:=26) (enc:=aC) (zc:=[iC 0]) (0:Int) Q dO iL Q Q Q (by decide) (by decide) (FV Zd) Q) Q Q Q Q (aJ (Cc (lo 26 ((List.replicate (aA (2 * f.Graph.aI)).toNat (0:Int)).length))) y4 (On (Ws ?_)))))))
    refine en [(1,Cc (.pl 21 0)),(3,Cc (lo 22 s3.2.length)),(5,Cc (.pl 25 0)),(6,Cc (lo 26 ((List.replicate (aA (2 * f.Graph.aI)).toNat (0:Int)).length))),(16,Cc (xF aP f.Graph.aF)),(17,Iv (f.Graph.aF.length:Int)),(18,Iv s3.1)] [(21,.row 46 [aj f]),(22,.bf 28 23 (bP s3.2)),(23,.pool 3 (rowsOf aC s3.2)),(25,.row 40 [[iC jF.A,iC jF.B]]),(26,pR 3 aC (List.replicate (aA (2 * f.Graph.aI)).toNat (0:Int)))] z7 z5 (aB.draw mixed (dh (xF aO f.Places) iR iV bK (dh (iC jF.A) nS ak bK (aQ.bind fun x28 hx28 => (bZ (LT.bU (enc:=aO) Q jU hx28 fE) Q Q Q Q (ax (kJ Q o6 lJ fE) Q Q Q (dh (xF aO f.Places) iR iV bK (ax (LT.dR Q oZ) Q Q Q ?_))))))))
    refine fM (qx (iC jF.B) Q ak) Q Q Q Q (aQ.bind fun x29 hx29 => (bZ (LT.bU (enc:=aO) Q jU hx29 fE) Q Q Q Q (ax (kJ Q o6 lJ fE) Q Q Q (zB (LT.alloc (n:=27) (cells:=[iC 0,iC 0]) Q tX Q Q Q) Q Q (zB (LT.alloc (n:=28) (cells:=[iC 0,iC 0]) Q tX Q Q Q) Q Q (lQ (stA [iC x28.X,iC x28.Y] Q Q lJ fE) Q Q Q Q Q (lQ (stA [iC x29.X,iC x29.Y] Q Q lJ fE) Q Q Q Q Q (dm (Ws (en [(1,Cc (.pl 21 0)),(3,Cc (lo 22 s3.2.length)),(5,Cc (.pl 25 0)),(6,Cc (lo 26 ((List.replicate (aA (2 * f.Graph.aI)).toNat (0:Int)).length))),(7,Cc (.pl 27 0)),(8,Cc (.pl 28 0)),(16,Cc (xF aP f.Graph.aF)),(17,Iv (f.Graph.aF.length:Int)),(18,Iv s3.1)] [(21,.row 46 [aj f]),(22,.bf 28 23 (bP s3.2)),(23,.pool 3 (rowsOf aC s3.2)),(25,.row 40 [[iC jF.A,iC jF.B]]),(26,pR 3 aC (List.replicate (aA (2 * f.Graph.aI)).toNat (0:Int))),(27,.row 98 [[iC x28.X,iC x28.Y]]),(28,.row 98 [[iC x29.X,iC x29.Y]])] z9 z7 (aB.draw mixed ?_)))))))))))
    refine ay (Cc (lo 26 ((List.replicate (aA (2 * f.Graph.aI)).toNat (0:Int)).length))) y4 (dh (iC jF.A) nS ak bK (dV LT.mul lV (ay (Cc (lo 26 ((List.replicate (aA (2 * f.Graph.aI)).toNat (0:Int)).length))) y4 (dh (iC jF.A) nS ak bK (dV LT.mul lV (dV LT.add aU (dh (iC x28.X) qC ak bK (ax (LT.dR Q qC) Q Q Q ?_))))))))
    refine fM (qx (iC x29.X) Q ak) Q Q Q Q (dV LT.sub y5 (dh (iC x28.Y) qQ ak bK (dh (iC x29.Y) qQ ak bK (dV LT.sub y5 (aQ.bind fun x30 KZ => (mF (LT.jH Q Q dG KZ) Q Q Q Q Q (lQ (qI 0 (.c (iC (aA (x28.X - x29.X)))) (aA (x28.X - x29.X)) Q Q pX dQ KZ) Q Q Q Q Q (aQ.bind fun x31 hx31 => (mF (LT.jH (show (List.replicate (aA (2 * f.Graph.aI)).toNat (0:Int)).length = ((List.replicate (aA (2 * f.Graph.aI)).toNat (0:Int)).set (aA (2 * jF.A)).toNat (aA (x28.X - x29.X))).length by simp only [List.length_set]) Q dG hx31) Q Q Q Q Q ?_)))))))))
    refine lQ (qI 0 (.c (iC (aA (x28.Y - x29.Y)))) (aA (x28.Y - x29.Y)) Q Q pX dQ hx31) Q Q Q Q Q (dm (Ws (en [(1,Cc (.pl 21 0)),(3,Cc (lo 22 s3.2.length)),(5,Cc (.pl 25 0)),(6,Cc (lo 26 ((List.replicate (aA (2 * f.Graph.aI)).toNat (0:Int)).length))),(7,Cc (.pl 27 0)),(8,Cc (.pl 28 0)),(16,Cc (xF aP f.Graph.aF)),(17,Iv (f.Graph.aF.length:Int)),(18,Iv s3.1)] [(21,.row 46 [aj f]),(22,.bf 28 23 (bP s3.2)),(23,.pool 3 (rowsOf aC s3.2)),(25,.row 40 [[iC jF.A,iC jF.B]]),(26,pR 3 aC (((List.replicate (aA (2 * f.Graph.aI)).toNat (0:Int)).set (aA (2 * jF.A)).toNat (aA (x28.X - x29.X))).set (aA ((aA (2 * jF.A)) + 1)).toNat (aA (x28.Y - x29.Y)))),(27,.row 98 [[iC x28.X,iC x28.Y]]),(28,.row 98 [[iC x29.X,iC x29.Y]])] z9 z7 (aB.draw mixed (ay (Cc (lo 26 ((List.replicate (aA (2 * f.Graph.aI)).toNat (0:Int)).length))) y4 (dh (iC jF.B) oZ ak bK (dV LT.mul lV (ay (Cc (lo 26 ((List.replicate (aA (2 * f.Graph.aI)).toNat (0:Int)).length))) y4 (dh (iC jF.B) oZ ak bK ?_)))))))))
    refine dV LT.mul lV (dV LT.add aU (dh (iC x29.X) qC ak bK (dh (iC x28.X) qC ak bK (dV LT.sub y5 (dh (iC x29.Y) qQ ak bK (dh (iC x28.Y) qQ ak bK (dV LT.sub y5 ?_)))))))
    refine aQ.bind fun x32 hx32 => (mF (LT.jH (show (List.replicate (aA (2 * f.Graph.aI)).toNat (0:Int)).length = (((List.replicate (aA (2 * f.Graph.aI)).toNat (0:Int)).set (aA (2 * jF.A)).toNat (aA (x28.X - x29.X))).set (aA ((aA (2 * jF.A)) + 1)).toNat (aA (x28.Y - x29.Y))).length by simp only [List.length_set]) Q dG hx32) Q Q Q Q Q (lQ (qI 0 (.c (iC (aA (x29.X - x28.X)))) (aA (x29.X - x28.X)) Q Q pX dQ hx32) Q Q Q Q Q (aQ.bind fun x33 aDj => (mF (LT.jH (show (List.replicate (aA (2 * f.Graph.aI)).toNat (0:Int)).length = ((((List.replicate (aA (2 * f.Graph.aI)).toNat (0:Int)).set (aA (2 * jF.A)).toNat (aA (x28.X - x29.X))).set (aA ((aA (2 * jF.A)) + 1)).toNat (aA (x28.Y - x29.Y))).set (aA (2 * jF.B)).toNat (aA (x29.X - x28.X))).length by simp only [List.length_set]) Q dG aDj) Q Q Q Q Q (lQ (qI 0 (.c (iC (aA (x29.Y - x28.Y)))) (aA (x29.Y - x28.Y)) Q Q pX dQ aDj) Q Q Q Q Q (dm (en [(1,Cc (.pl 21 0)),(3,Cc (lo 22 s3.2.length)),(6,Cc (lo 26 ((List.replicate (aA (2 * f.Graph.aI)).toNat (0:Int)).length))),(16,Cc (xF aP f.Graph.aF)),(17,Iv (f.Graph.aF.length:Int)),(18,Iv s3.1)] [(21,.row 46 [aj f]),(22,.bf 28 23 (bP s3.2)),(23,.pool 3 (rowsOf aC s3.2)),(26,pR 3 aC (((((List.replicate (aA (2 * f.Graph.aI)).toNat (0:Int)).set (aA (2 * jF.A)).toNat (aA (x28.X - x29.X))).set (aA ((aA (2 * jF.A)) + 1)).toNat (aA (x28.Y - x29.Y))).set (aA (2 * jF.B)).toNat (aA (x29.X - x28.X))).set (aA ((aA (2 * jF.B)) + 1)).toNat (aA (x29.Y - x28.Y))))] z6 z4 (Wr (aH (Cc (lo 22 s3.2.length)) y4 (aH (Cc (lo 26 ((List.replicate (aA (2 * f.Graph.aI)).toNat (0:Int)).length))) y4 (pV (LT.buildSlice (n:=29) (els:=[[lo 26 ((List.replicate (aA (2 * f.Graph.aI)).toNat (0:Int)).length)]]) [(0,.tmp 82,.c (lo 26 ((List.replicate (aA (2 * f.Graph.aI)).toNat (0:Int)).length)))] Q Q jR oH Q Q Q Q (by decide) Q Q) Q Q Q ?_)))))))))))
    refine aS fun u34 aLa => (qM (LT.Xr Q Q Q jR oH Q (by decide) (by decide) Q (kU aLa)) Q Q Q Q Q Q (aJ (Cc (lo 22 (s3.2.length + 1))) y4 (On (aB.ent (aY.XV (enc:=aC) (n:=22) (m:=26) (p:=23) (rows:=s3.2) (r:=(((((List.replicate (aA (2 * f.Graph.aI)).toNat (0:Int)).set (aA (2 * jF.A)).toNat (aA (x28.X - x29.X))).set (aA ((aA (2 * jF.A)) + 1)).toNat (aA (x28.Y - x29.Y))).set (aA (2 * jF.B)).toNat (aA (x29.X - x28.X))).set (aA ((aA (2 * jF.B)) + 1)).toNat (aA (x29.Y - x28.Y)))) (rest:=[]) (show (List.replicate (aA (2 * f.Graph.aI)).toNat (0:Int)).length = (((((List.replicate (aA (2 * f.Graph.aI)).toNat (0:Int)).set (aA (2 * jF.A)).toNat (aA (x28.X - x29.X))).set (aA ((aA (2 * jF.A)) + 1)).toNat (aA (x28.Y - x29.Y))).set (aA (2 * jF.B)).toNat (aA (x29.X - x28.X))).set (aA ((aA (2 * jF.B)) + 1)).toNat (aA (x29.Y - x28.Y))).length by simp only [List.length_set]) Q Q Q Q Q) (aB.ent (aY.bf (n:=22) (p:=23) (lens:=bP (s3.2 ++ [((((List.replicate (aA (2 * f.Graph.aI)).toNat (0:Int)).set (aA (2 * jF.A)).toNat (aA (x28.X - x29.X))).set (aA ((aA (2 * jF.A)) + 1)).toNat (aA (x28.Y - x29.Y))).set (aA (2 * jF.B)).toNat (aA (x29.X - x28.X))).set (aA ((aA (2 * jF.B)) + 1)).toNat (aA (x29.Y - x28.Y))])) (List.append_nil _) Q) (aB.blk (Wr ?_)))))))
    refine af LT.add aU (aH (Iv (aA (s3.1 + 1))) y4 (On (aB.nil ⟨Q,aY.of ⟨Q,congrArg (fun l1 => (some (AV.s (.c (lo 22 l1))):Option AV)) (show (s3.2.length + 1) = (s3.2 ++ [((((List.replicate (aA (2 * f.Graph.aI)).toNat (0:Int)).set (aA (2 * jF.A)).toNat (aA (x28.X - x29.X))).set (aA ((aA (2 * jF.A)) + 1)).toNat (aA (x28.Y - x29.Y))).set (aA (2 * jF.B)).toNat (aA (x29.X - x28.X))).set (aA ((aA (2 * jF.B)) + 1)).toNat (aA (x29.Y - x28.Y))]).length from V5),Q,Q,Q,J⟩ z3⟩)))
   ·refine eu y2 z1 z2
  ·refine Ws (Wr ?_)
   refine aH (Cc (lo 22 fV.length)) y4 (aJ (Cc (lo 22 fV.length)) y4 (On (en [(2,Cc (lo 22 fV.length))] [(22,.bf 28 23 (bP fV)),(23,.pool 3 (rowsOf aC fV))] z1 z2 (aB.ent (aY.mv 22 0 Q Q) (aB.ent (aY.mv 23 1 Q Q) (en [(2,Cc (lo 0 fV.length))] [(0,.bf 28 1 (bP fV)),(1,.pool 3 (rowsOf aC fV))] z1 z2 (bT z1 z2 ⟨J,J⟩ ⟨J,cZ.Aq gQ _,J⟩)))))))
theorem aPS (m:(List (List Int))) (columns:Int):FT Tryz.prog (RD m columns) 151 [.c (xF (bG false) m),.c (iC columns)] [] (fun (t:(List (List Int))) => [.c (lo 0 t.length)]) (fun (t:(List (List Int))) => [(0,.bf 28 1 (bP t)),(1,.pool 3 (rowsOf aC t))]) [0,1]:=by
 refine FT.of [] Tryz.func151 Tryz.ntmps151 Q y2 ?_
 intro w0 U0 R0 g0
 unfold RD
 refine Ws (Wr ?_)
 refine aJ (Cc (sC aX)) aZ (On (Ws (Wr ?_)))
 refine aH (Iv columns) y4 (aS fun u1 hu1 => (G7 (LT.aQC (n:=21) Q jR oH (by decide) (FV hu1)) Q Q Q Q (aJ (Cc (lo 21 columns.toNat)) y4 (On (aB.ent (aNU (enc:=aC) (n:=21) (p:=22) (c:=columns.toNat) (e:=28) (e2:=3) Q (by simp only [List.map_replicate]; try rfl) Q) (Ws (Ws (Wr ?_))))))))
 refine aH (Cc (lo 21 columns.toNat)) y4 (aW (LT.lC Q jR) Q Q Q (aH (Iv 0) aZ (On (aB.block ?_))))
 refine aB.jM (id:=0) (MV m columns) (fun s2 => ([(0,Cc (xF (bG false) m)),(5,Cc (lo 21 s2.2.length)),(12,Iv (columns.toNat:Int)),(13,Iv s2.1)],[(21,.bf 28 22 (bP s2.2)),(22,.pool 3 (rowsOf aC s2.2))])) (fun wu => ([(5,Cc (lo 21 wu.length))],[(21,.bf 28 22 (bP wu)),(22,.pool 3 (rowsOf aC wu))])) ?_ (aY.of ⟨Q,congrArg (fun l1 => (some (AV.s (.c (lo 21 l1))):Option AV)) (show columns.toNat = (List.replicate columns.toNat ([]:List Int)).length from List.length_replicate.symm),Q,Q,J⟩ z2) Q (fun wu _ => ?_)
 ·intro s2
  unfold MV
  refine Ws (Wr ?_)
  refine af LT.lss y5 (On (Ws ?_))
  refine aB.cond Q (fun P5 => ?_) (fun P5 => ?_)
  ·refine aB.skip (Ws (aB.block (Ws (Wr ?_))))
   refine aH (Iv s2.1) y4 (aJ (Iv s2.1) y4 (On (Ws (Wr ?_))))
   refine aH (Cc (lo 21 s2.2.length)) y4 (aH (Iv s2.1) y4 (jo (gu 23 aC [] [] dO iL y7) Q Q (aS fun Gz FH => (jf (LT.xq Q Q jw FH) Q Q Q Q Q (dZ (LT.aGm (e:=28) (p:=22) Q Q (ji EH) uU FH Q) Q Q Q Q Q (On (aB.ent (aY.aFb (enc:=aC) (n:=21) (m:=23) (p:=22) (k:=s2.1.toNat) (rows:=s2.2) (r:=([]:List Int)) Q (List.getElem?_eq_some_iff.1 (lI FH)).1 Q Q Q Q) ?_)))))))
   refine aB.ent (aY.bf (n:=21) (p:=22) (lens:=bP (s2.2.set s2.1.toNat ([]:List Int))) Q Q) (Ws (Wr ?_))
   refine aH (Cc (xF (bG false) m)) y4 (aW (LT.fG Q jR) Q Q Q (aH (Iv 0) aZ (On (aB.block ?_))))
   refine aB.jM (id:=2) (MW m s2) (fun kR => ([(0,Cc (xF (bG false) m)),(5,Cc (lo 21 kR.2.length)),(6,Iv s2.1),(12,Iv (columns.toNat:Int)),(13,Iv s2.1),(20,Cc (xF (bG false) m)),(21,Iv (m.length:Int)),(22,Iv kR.1)],[(21,.bf 28 22 (bP kR.2)),(22,.pool 3 (rowsOf aC kR.2))])) (fun Dh => ([(0,Cc (xF (bG false) m)),(5,Cc (lo 21 Dh.2.length)),(12,Iv (columns.toNat:Int)),(13,Iv Dh.1)],[(21,.bf 28 22 (bP Dh.2)),(22,.pool 3 (rowsOf aC Dh.2))])) ?_ (aY.of ⟨Q,congrArg (fun l1 => (some (AV.s (.c (lo 21 l1))):Option AV)) (show s2.2.length = (s2.2.set s2.1.toNat ([]:List Int)).length by simp only [List.length_set]),Q,Q,Q,Q,Q,Q,J⟩ z2) Q (fun Dh _ => ?_)
   ·intro kR
    unfold MW
    refine Ws (Wr ?_)
    refine af LT.lss y5 (On (Ws ?_))
    refine aB.cond Q (fun aJi => ?_) (fun aJi => ?_)
    ·refine aB.skip (Ws (aB.block (Ws (Wr ?_))))
     refine aS fun Eg Zn => (bg (LT.bU (enc:=(bG false)) Q jw Zn uU) Q Q Q Q (aW (LT.dJ Q fP) Q Q Q (aJ (Cc (xF aC Eg)) y4 (On (aB.draw mixed ?_)))))
     refine ay (Cc (lo 21 kR.2.length)) y4 (ay (Iv s2.1) y4 (ay (Cc (lo 21 kR.2.length)) y4 (ay (Iv s2.1) y4 (aQ.bind fun x54 Ae => (mF (LT.xq Q Q jw Ae) Q Q Q Q Q (fM (LT.zh Q fP Ae Q) Q Q Q Q (ay (Cc (xF aC Eg)) y4 (ay (Iv s2.1) y4 (aQ.bind fun x55 Ij => (bZ (LT.bU (enc:=aC) Q dG Ij dQ) Q Q Q Q (ax (LT.dJ Q ak) Q Q Q ?_)))))))))))
     refine G5 (gu 24 aC [(0,.tmp 35,.c (iC x55))] ([x55]:List Int) dO iL y7) Q Q Q (aQ.bind fun u56 Zf => (aQ.step (LT.aOh (p:=22) (k:=s2.1.toNat) (m:=25) (n:=21) (e:=28) (enc:=aC) (LT.pK (n:=25) (n2:=24) (enc:=aC) Q Q Q dO iL Q (by decide) (by decide) (fun _ => Q) (kU Zf)) (lI Ae) Q) z2 z3 Q Q (aQ.bind fun x57 Zp => (mF (LT.aGl (show kR.2.length = (kR.2.set s2.1.toNat []).length by simp only [List.length_set]) Q jw Zp) Q Q Q Q Q (lQ (LT.aQE (e:=28) (p:=22) Q Q (ji EH) uU Zp Q) Q Q Q Q Q (dm (aB.ent (aY.aFb (enc:=aC) (n:=21) (m:=25) (p:=22) (k:=s2.1.toNat) (rows:=(kR.2.set s2.1.toNat [])) (r:=(x54 ++ ([x55]:List Int))) Q (List.getElem?_eq_some_iff.1 (lI Zp)).1 Q Q Q Q) ?_)))))))
     refine aB.ent (aY.bf (n:=21) (p:=22) (lens:=bP ((kR.2.set s2.1.toNat []).set s2.1.toNat (x54 ++ ([x55]:List Int)))) Q Q) (aB.blk (Wr ?_))
     refine af LT.add aU (aH (Iv (aA (kR.1 + 1))) y4 (On (aB.nil ⟨Q,aY.of ⟨Q,congrArg (fun l1 => (some (AV.s (.c (lo 21 l1))):Option AV)) (show kR.2.length = ((kR.2.set s2.1.toNat []).set s2.1.toNat (x54 ++ ([x55]:List Int))).length by simp only [List.length_set]),Q,Q,Q,Q,Q,Q,J⟩ z2⟩)))
    ·refine eu y2 z4 z2
   ·refine aB.blk (Wr ?_)
    refine af LT.add aU (aH (Iv (aA (Dh.1 + 1))) y4 (On (aV Q z4 z2)))
  ·refine eu y2 z1 z2
 ·refine Ws (Wr ?_)
  refine aH (Cc (lo 21 wu.length)) y4 (aJ (Cc (lo 21 wu.length)) y4 (On (en [(4,Cc (lo 21 wu.length))] [(21,.bf 28 22 (bP wu)),(22,.pool 3 (rowsOf aC wu))] z1 z2 (aB.ent (aY.mv 21 0 Q Q) (aB.ent (aY.mv 22 1 Q Q) (en [(4,Cc (lo 0 wu.length))] [(0,.bf 28 1 (bP wu)),(1,.pool 3 (rowsOf aC wu))] z1 z2 (bT z1 z2 ⟨J,J⟩ ⟨J,cZ.Aq gQ _,J⟩)))))))
theorem aPP (l:(List (List Int))):FT Tryz.prog (Q8 l) 205 [.c (xF (bG false) l)] [] (fun (t:(List (List Int))) => [.c (lo 0 t.length)]) (fun (t:(List (List Int))) => [(0,.bf 28 1 (bP t)),(1,.pool 3 (rowsOf aC t))]) [0,1]:=by
 refine FT.of [] Tryz.func205 Tryz.ntmps205 Q y2 ?_
 intro w0 U0 R0 g0
 unfold Q8
 refine Ws (Wr ?_)
 refine aJ (Cc (sC aX)) aZ (On (Ws (Wr ?_)))
 refine jo (LT.buildSlice (n:=21) (els:=[]) [] Q Q jR oH Q Q Q Q (by decide) Q Q) Q Q (aJ (Cc (lo 21 0)) y4 (On (aB.ent (aY.Oa 22 3 Q) (aB.ent (aY.bf (n:=21) (p:=22) (lens:=bP ([]:List (List Int))) (List.append_nil _) Q) (Ws (Ws (Wr ?_)))))))
 refine aH (Cc (xF (bG false) l)) y4 (aW (LT.fG Q jR) Q Q Q (aH (Iv 0) aZ (On (aB.block ?_))))
 refine aB.jM (id:=0) (MJ l) (fun s1 => ([(3,Cc (lo 21 s1.2.length)),(7,Cc (xF (bG false) l)),(8,Iv (l.length:Int)),(9,Iv s1.1)],[(21,.bf 28 22 (bP s1.2)),(22,.pool 3 (rowsOf aC s1.2))])) (fun b10 => ([(3,Cc (lo 21 b10.length))],[(21,.bf 28 22 (bP b10)),(22,.pool 3 (rowsOf aC b10))])) ?_ (aY.of z4 z2) Q (fun b10 _ => ?_)
 ·intro s1
  unfold MJ
  refine Ws (Wr ?_)
  refine af LT.lss y5 (On (Ws ?_))
  refine aB.cond Q (fun sG => ?_) (fun sG => ?_)
  ·refine aB.skip (Ws (aB.block (Ws (Wr ?_))))
   refine aS fun x12 wO => (bg (LT.bU (enc:=(bG false)) Q jw wO uU) Q Q Q Q (aW (LT.dJ Q fP) Q Q Q (aJ (Cc (xF aC x12)) y4 (On (Wr ?_)))))
   refine aH (Cc (lo 21 s1.2.length)) y4 (aH (Cc (xF aC x12)) y4 (aS fun r13 uF => (aT.step (dK [.c (xF aC x12)] (Fw.Fn.ren [(0,24)] (Xg x12 r13 uF) Q) Uf (l9 Q) J y3) z2 J Q Q (pV (LT.buildSlice (n:=25) (els:=[[lo 24 r13.length]]) [(0,.tmp 15,.c (lo 24 r13.length))] Q Q jR oH Q Q Q Q (by decide) Q Q) Q Q Q (aS fun u14 QI => (qM (LT.Xr Q Q Q jR oH Q (by decide) (by decide) Q (kU QI)) Q Q Q Q Q Q (aJ (Cc (lo 21 (s1.2.length + 1))) y4 (On (aB.ent (aY.XV (enc:=aC) (n:=21) (m:=24) (p:=22) (rows:=s1.2) (r:=r13) (rest:=[]) Q Q Q Q Q Q) (aB.ent (aY.bf (n:=21) (p:=22) (lens:=bP (s1.2 ++ [r13])) (List.append_nil _) Q) (aB.blk (Wr ?_))))))))))))
   refine af LT.add aU (aH (Iv (aA (s1.1 + 1))) y4 (On (aB.nil ⟨Q,aY.of ⟨congrArg (fun l1 => (some (AV.s (.c (lo 21 l1))):Option AV)) (show (s1.2.length + 1) = (s1.2 ++ [r13]).length from V5),Q,Q,Q,J⟩ z2⟩)))
  ·refine eu y2 z1 z2
 ·refine Ws (Wr ?_)
  refine aH (Cc (lo 21 b10.length)) y4 (aJ (Cc (lo 21 b10.length)) y4 (On (en [(2,Cc (lo 21 b10.length))] [(21,.bf 28 22 (bP b10)),(22,.pool 3 (rowsOf aC b10))] z1 z2 (aB.ent (aY.mv 21 0 Q Q) (aB.ent (aY.mv 22 1 Q Q) (en [(2,Cc (lo 0 b10.length))] [(0,.bf 28 1 (bP b10)),(1,.pool 3 (rowsOf aC b10))] z1 z2 (bT z1 z2 ⟨J,J⟩ ⟨J,cZ.Aq gQ _,J⟩)))))))
theorem aGB (m:(List (List Int))) (columns:Int):FT Tryz.prog (MQ m columns) 181 [.c (xF (bG false) m),.c (iC columns)] [] (fun (t:((List (List Int)) × (List Int) × Int)) => [.c (lo 0 t.1.length),.c (lo 2 t.2.1.length),.c (iC t.2.2)]) (fun (t:((List (List Int)) × (List Int) × Int)) => [(0,.bf 28 1 (bP t.1)),(1,.pool 3 (rowsOf aC t.1)),(2,pR 3 aC t.2.1)]) [0,1,2]:=by
 refine FT.of [] Tryz.func181 Tryz.ntmps181 Q y2 ?_
 intro w0 U0 R0 g0
 unfold MQ
 refine Ws (Wr ?_)
 refine aJ (Cc (sC aX)) aZ (aJ (Cc (sC aX)) aZ (aJ (Iv 0) aZ (On (Ws (Wr ?_)))))
 refine aH (Cc (xF (bG false) m)) y4 (aS fun r1 hr1 => (aT.step (dK [.c (xF (bG false) m)] (Fw.Fn.ren [(0,22),(1,23)] (aPP m r1 hr1) Q) aHm (l9 Q) J y3) z2 J Q Q (aJ (Cc (lo 22 r1.length)) y4 (On (Ws (Wr ?_))))))
 refine jo (gu 24 aC [] [] dO iL y7) Q Q (aJ (Cc (lo 24 (([]:List Int).length))) y4 (On (Ws ?_)))
 refine en [(1,Iv columns),(7,Cc (lo 22 r1.length)),(8,Cc (lo 24 (([]:List Int).length)))] [(22,.bf 28 23 (bP r1)),(23,.pool 3 (rowsOf aC r1)),(24,pR 3 aC ([]:List Int))] z3 z3 (Wr (aJ (Iv 1) aZ (On (Ws (Ws (Wr ?_))))))
 refine aJ (Iv 0) aZ (On (aB.block ?_))
 refine aB.jM (id:=0) (Fh columns) (fun s2 => ([(1,Iv columns),(7,Cc (lo 22 s2.2.1.length)),(8,Cc (lo 24 s2.2.2.2.length)),(9,Iv s2.2.2.1),(10,Iv s2.1)],[(22,.bf 28 23 (bP s2.2.1)),(23,.pool 3 (rowsOf aC s2.2.1)),(24,pR 3 aC s2.2.2.2)])) (fun oL => ([(7,Cc (lo 22 oL.2.1.length)),(8,Cc (lo 24 oL.2.2.length)),(9,Iv oL.1)],[(22,.bf 28 23 (bP oL.2.1)),(23,.pool 3 (rowsOf aC oL.2.1)),(24,pR 3 aC oL.2.2)])) ?_ (aY.of z5 z3) Q (fun oL _ => ?_)
 ·intro s2
  unfold Fh
  refine Ws (Ws ?_)
  refine aB.eX (fun Vu => ([(1,Iv columns),(7,Cc (lo 22 s2.2.1.length)),(8,Cc (lo 24 s2.2.2.2.length)),(9,Iv s2.2.2.1),(10,Iv s2.1),(29,Bv Vu)],[(22,.bf 28 23 (bP s2.2.1)),(23,.pool 3 (rowsOf aC s2.2.1)),(24,pR 3 aC s2.2.2.2)])) ?_ (fun Vu _ => ?_)
  ·refine Wr (aH (Iv s2.1) y4 (aH (Iv columns) y4 (af LT.lss y5 (aH (Bv (decide (s2.1 < columns))) y4 (aT.split (fun yJ => ?_) (fun yJ => ?_))))))
   ·refine dB (Cc (lo 24 s2.2.2.2.length)) yJ y5 (aW (LT.lC Q dO) Q (gH yJ Q Q) Q (dB (Cc (lo 22 s2.2.1.length)) yJ y5 (aW (LT.lC Q jR) Q (gH yJ Q Q) Q (fB LT.lss yJ y6 (dD (Bv (decide ((s2.2.2.2.length:Int) < (s2.2.1.length:Int)))) yJ y5 (On (aV Q z6 z3)))))))
   ·refine aK yJ y5 (aK yJ y5 (aK yJ y5 (aK yJ y5 (aK yJ y5 (dA (Bv false) yJ aU (On (aV Q z6 z3)))))))
  ·refine aB.cond Q (fun aJR => ?_) (fun aJR => ?_)
   ·refine aB.skip (Ws (aB.block (Ws (Wr ?_))))
    refine aH (Cc (lo 24 s2.2.2.2.length)) y4 (aW (LT.lC Q dO) Q Q Q (aJ (Iv (s2.2.2.2.length:Int)) y4 (On (Ws (Wr ?_)))))
    refine aH (Iv (s2.2.2.2.length:Int)) y4 (aJ (Iv (s2.2.2.2.length:Int)) y4 (On (Ws (aB.block ?_))))
    refine aB.jM (id:=2) (MR s2) (fun y8 => ([(1,Iv columns),(7,Cc (lo 22 s2.2.1.length)),(8,Cc (lo 24 s2.2.2.2.length)),(9,Iv s2.2.2.1),(10,Iv s2.1),(11,Iv (s2.2.2.2.length:Int)),(12,Iv y8)],[(22,.bf 28 23 (bP s2.2.1)),(23,.pool 3 (rowsOf aC s2.2.1)),(24,pR 3 aC s2.2.2.2)])) (fun jA => ([(1,Iv columns),(7,Cc (lo 22 jA.2.2.2.2.1.length)),(8,Cc (lo 24 jA.2.2.2.2.2.length)),(9,Iv jA.1),(10,Iv jA.2.1),(11,Iv jA.2.2.1),(12,Iv jA.2.2.2.1)],[(22,.bf 28 23 (bP jA.2.2.2.2.1)),(23,.pool 3 (rowsOf aC jA.2.2.2.2.1)),(24,pR 3 aC jA.2.2.2.2.2)])) ?_ (aY.of z7 z3) Q (fun jA _ => ?_)
    ·intro y8
     unfold MR
     refine Ws (Ws ?_)
     refine aB.eX (fun Vy => ([(1,Iv columns),(7,Cc (lo 22 s2.2.1.length)),(8,Cc (lo 24 s2.2.2.2.length)),(9,Iv s2.2.2.1),(10,Iv s2.1),(11,Iv (s2.2.2.2.length:Int)),(12,Iv y8),(48,Bv Vy)],[(22,.bf 28 23 (bP s2.2.1)),(23,.pool 3 (rowsOf aC s2.2.1)),(24,pR 3 aC s2.2.2.2)])) ?_ (fun Vy _ => ?_)
     ·refine Wr (aH (Iv y8) y4 (aH (Cc (lo 22 s2.2.1.length)) y4 (aW (LT.lC Q jR) Q Q Q (af LT.lss y5 (aH (Bv (decide (y8 < (s2.2.1.length:Int)))) y4 (aT.split (fun jX => ?_) (fun jX => ?_)))))))
      ·refine dB (Cc (lo 22 s2.2.1.length)) jX y5 (dB (Iv y8) jX y5 (aS fun xX FD => (jf (LT.xq Q Q jw FD) Q Q Q (gH jX Q Q) Q (bV (LT.zh Q fP FD Q) Q Q (gH jX Q Q) Q (dB (Iv s2.1) jX y5 (aS fun BF VZ => (jf (LT.EZ Q Q dG (lI FD) VZ) Q Q Q (gH jX Q Q) Q (bV (LT.Jh (enc:=aC) (j:=0) Q ak (lI FD) VZ (by exact Q) (by exact Q)) Q Q (gH jX Q Q) Q (fB LT.eql jX iT (dD (Bv (BF == 0)) jX y5 (On ?_)))))))))))
       refine aV Q z8 z3
      ·refine aK jX y5 (aK jX y5 (aK jX y5 (aK jX y5 (aK jX y5 (aK jX y5 (aK jX y5 (aK jX y5 (dA (Bv false) jX aU (On (aV Q z8 z3))))))))))
     ·refine aB.cond Q (fun Yu => ?_) (fun Yu => ?_)
      ·refine aB.skip (aB.block (Wr ?_))
       refine aH (Iv y8) y4 (af LT.add aU (aJ (Iv (aA (y8 + 1))) y4 (On (aB.blk ?_))))
       refine aV Q z7 z3
      ·refine eu y2 z7 z3
    ·refine Ws (Ws (Wr ?_))
     refine aH (Iv jA.2.2.2.1) y4 (aH (Cc (lo 22 jA.2.2.2.2.1.length)) y4 (aW (LT.lC Q jR) Q Q Q (af LT.eql y5 (On (aB.cond Q (fun aJU => ?_) (fun aJU => ?_))))))
     ·refine aB.exit Q (Wr ?_)
      refine aH (Iv jA.2.1) y4 (af LT.add aU (aJ (Iv (aA (jA.2.1 + 1))) y4 (On (aV Q z5 z3))))
     ·refine aB.skip (Ws (aB.draw mixed ?_))
      refine ay (Cc (lo 22 jA.2.2.2.2.1.length)) y4 (ay (Iv jA.2.2.1) y4 (ay (Cc (lo 22 jA.2.2.2.2.1.length)) y4 (ay (Iv jA.2.2.2.1) y4 (ay (Cc (lo 22 jA.2.2.2.2.1.length)) y4 (ay (Iv jA.2.2.2.1) y4 (aQ.bind fun pU Bg => (mF (LT.xq Q Q jw Bg) Q Q Q Q Q (fM (LT.zh Q fP Bg Q) Q Q Q Q (ay (Cc (lo 22 jA.2.2.2.2.1.length)) y4 (ay (Iv jA.2.2.1) y4 (aQ.bind fun DU EG => ?_)))))))))))
      refine mF (LT.xq Q Q jw EG) Q Q Q Q Q (fM (LT.zh Q fP EG Q) Q Q Q Q (aQ.bind fun xY Bh => (mF (LT.xq Q Q jw Bh) Q Q Q Q Q (lQ (LT.aGm (e:=28) (p:=23) Q Q (ji EH) uU Bh Q) Q Q Q Q Q (aQ.bind fun vP KY => (mF (LT.aGl Q Q jw KY) Q Q Q Q Q (lQ (LT.aQD (e:=28) (p:=23) Q Q (ji EH) uU KY Q) Q Q Q Q Q (dm (aB.ent (aY.aOg (enc:=aC) (n:=22) (p:=23) (rows:=jA.2.2.2.2.1) (lI EG) (lI Bg) Q Q Q) (Ws (Wr ?_)))))))))))
      refine aH (Cc (lo 22 jA.2.2.2.2.1.length)) y4 (aH (Iv jA.2.2.1) y4 (aS fun aGe Va => (jf (LT.xq (show jA.2.2.2.2.1.length = ((jA.2.2.2.2.1.set jA.2.2.1.toNat pU).set jA.2.2.2.1.toNat DU).length by simp only [List.length_set]) Q jw Va) Q Q Q Q Q (bV (LT.zh Q fP Va Q) Q Q Q Q (aH (Iv jA.2.1) y4 (aS fun UG QO => (jf (LT.EZ Q Q dG (lI Va) QO) Q Q Q Q Q (bV (LT.Jh (enc:=aC) (j:=0) Q ak (lI Va) QO (by exact Q) (by exact Q)) Q Q Q Q (aJ (Iv UG) y4 (On (Ws (Ws (Wr ?_)))))))))))))
      refine aH (Cc (lo 22 jA.2.2.2.2.1.length)) y4 (aW (LT.lC Q jR) Q Q Q (aH (Iv 0) aZ (On (aB.block ?_))))
      refine aB.jM (id:=4) (I7 columns) (fun dw => ([(1,Iv columns),(7,Cc (lo 22 dw.2.2.2.2.2.2.2.length)),(8,Cc (lo 24 dw.2.2.2.2.2.2.1.length)),(9,Iv dw.2.1),(10,Iv dw.2.2.1),(11,Iv dw.2.2.2.1),(13,Iv dw.2.2.2.2.1),(77,Iv dw.2.2.2.2.2.1),(78,Iv dw.1)],[(22,.bf 28 23 (bP dw.2.2.2.2.2.2.2)),(23,.pool 3 (rowsOf aC dw.2.2.2.2.2.2.2)),(24,pR 3 aC dw.2.2.2.2.2.2.1)])) (fun mG => ([(1,Iv columns),(7,Cc (lo 22 mG.2.2.1.length)),(8,Cc (lo 24 mG.2.2.2.length)),(10,Iv mG.1),(13,Iv mG.2.1)],[(22,.bf 28 23 (bP mG.2.2.1)),(23,.pool 3 (rowsOf aC mG.2.2.1)),(24,pR 3 aC mG.2.2.2)])) ?_ (aY.of ⟨Q,congrArg (fun l1 => (some (AV.s (.c (lo 22 l1))):Option AV)) (show jA.2.2.2.2.1.length = ((jA.2.2.2.2.1.set jA.2.2.1.toNat pU).set jA.2.2.2.1.toNat DU).length by simp only [List.length_set]),Q,Q,Q,Q,Q,Q,Q,J⟩ z3) Q (fun mG _ => ?_)
      ·intro dw
       unfold I7
       refine Ws (Wr ?_)
       refine af LT.lss y5 (On (Ws ?_))
       refine aB.cond Q (fun Yv => ?_) (fun Yv => ?_)
       ·refine aB.skip (Ws (aB.block (Ws (Wr ?_))))
        refine aH (Iv dw.1) y4 (aJ (Iv dw.1) y4 (On (Ws (Ws (Wr ?_)))))
        refine aH (Iv dw.1) y4 (aH (Iv dw.2.2.2.1) y4 (af LT.eql y5 (On (aB.cond Q (fun aJY => ?_) (fun aJY => ?_)))))
        ·refine aB.exit Q (Wr ?_)
         refine af LT.add aU (aH (Iv (aA (dw.1 + 1))) y4 (On (aV Q z9 z3)))
        ·refine aB.skip (Ws (Wr ?_))
         refine aH (Cc (lo 22 dw.2.2.2.2.2.2.2.length)) y4 (aH (Iv dw.1) y4 (aS fun aGg Vd => (jf (LT.xq Q Q jw Vd) Q Q Q Q Q (bV (LT.zh Q fP Vd Q) Q Q Q Q (aH (Iv dw.2.2.1) y4 (aS fun uV QT => (jf (LT.EZ Q Q dG (lI Vd) QT) Q Q Q Q Q (bV (LT.Jh (enc:=aC) (j:=0) Q ak (lI Vd) QT (by exact Q) (by exact Q)) Q Q Q Q (aJ (Iv uV) y4 (On (Ws ?_)))))))))))
         refine en [(1,Iv columns),(7,Cc (lo 22 dw.2.2.2.2.2.2.2.length)),(8,Cc (lo 24 dw.2.2.2.2.2.2.1.length)),(9,Iv dw.2.1),(10,Iv dw.2.2.1),(11,Iv dw.2.2.2.1),(13,Iv dw.2.2.2.2.1),(14,Iv dw.1),(15,Iv uV),(77,Iv dw.2.2.2.2.2.1),(78,Iv dw.1)] [(22,.bf 28 23 (bP dw.2.2.2.2.2.2.2)),(23,.pool 3 (rowsOf aC dw.2.2.2.2.2.2.2)),(24,pR 3 aC dw.2.2.2.2.2.2.1)] z11 z3 (Wr (aH (Iv columns) y4 (aH (Iv 0) aZ (On (aB.block ?_)))))
         refine aB.jM (id:=6) (MS columns dw uV) (fun l7 => ([(1,Iv columns),(7,Cc (lo 22 l7.2.length)),(8,Cc (lo 24 dw.2.2.2.2.2.2.1.length)),(9,Iv dw.2.1),(10,Iv dw.2.2.1),(11,Iv dw.2.2.2.1),(13,Iv dw.2.2.2.2.1),(14,Iv dw.1),(15,Iv uV),(77,Iv dw.2.2.2.2.2.1),(78,Iv dw.1),(91,Iv columns),(92,Iv l7.1)],[(22,.bf 28 23 (bP l7.2)),(23,.pool 3 (rowsOf aC l7.2)),(24,pR 3 aC dw.2.2.2.2.2.2.1)])) (fun rG => ([(1,Iv columns),(7,Cc (lo 22 rG.2.2.2.2.2.2.1.length)),(8,Cc (lo 24 rG.2.2.2.2.2.2.2.length)),(9,Iv rG.1),(10,Iv rG.2.1),(11,Iv rG.2.2.1),(13,Iv rG.2.2.2.1),(77,Iv rG.2.2.2.2.1),(78,Iv rG.2.2.2.2.2.1)],[(22,.bf 28 23 (bP rG.2.2.2.2.2.2.1)),(23,.pool 3 (rowsOf aC rG.2.2.2.2.2.2.1)),(24,pR 3 aC rG.2.2.2.2.2.2.2)])) ?_ (aY.of z13 z3) Q (fun rG _ => ?_)
         ·intro l7
          unfold MS
          refine Ws (Wr ?_)
          refine af LT.lss y5 (On (Ws ?_))
          refine aB.cond Q (fun aJZ => ?_) (fun aJZ => ?_)
          ·refine aB.skip (Ws (aB.block (Ws (Wr ?_))))
           refine aH (Iv l7.1) y4 (aJ (Iv l7.1) y4 (On (aB.draw mixed ?_)))
           refine ay (Cc (lo 22 l7.2.length)) y4 (ay (Iv dw.1) y4 (aQ.bind fun Jt QU => (mF (LT.xq Q Q jw QU) Q Q Q Q Q (fM (LT.zh Q fP QU Q) Q Q Q Q (ay (Iv l7.1) y4 (ay (Iv dw.2.2.2.2.1) y4 (ay (Cc (lo 22 l7.2.length)) y4 (ay (Iv dw.1) y4 (aQ.bind fun aGh Ve => (mF (LT.xq Q Q jw Ve) Q Q Q Q Q (fM (LT.zh Q fP Ve Q) Q Q Q Q ?_)))))))))))
           refine ay (Iv l7.1) y4 (aQ.bind fun Gv aDf => (mF (LT.EZ Q Q dG (lI Ve) aDf) Q Q Q Q Q (fM (LT.Jh (enc:=aC) (j:=0) Q ak (lI Ve) aDf (by exact Q) (by exact Q)) Q Q Q Q (dV LT.mul y5 (ay (Iv uV) y4 (ay (Cc (lo 22 l7.2.length)) y4 (ay (Iv dw.2.2.2.1) y4 (aQ.bind fun aGi Vf => (mF (LT.xq Q Q jw Vf) Q Q Q Q Q (fM (LT.zh Q fP Vf Q) Q Q Q Q (ay (Iv l7.1) y4 ?_)))))))))))
           refine aQ.bind fun Gw aDg => (mF (LT.EZ Q Q dG (lI Vf) aDg) Q Q Q Q Q (fM (LT.Jh (enc:=aC) (j:=0) Q ak (lI Vf) aDg (by exact Q) (by exact Q)) Q Q Q Q (dV LT.mul y5 (dV LT.sub y5 (ay (Iv dw.2.1) y4 (aQ.bind fun aOw aLU => (bZ (LT.quo Q (yZ aLU)) Q Q Q Q (aQ.bind fun aP9 aDh => (mF (LT.EZ Q Q dG (lI QU) aDh) Q Q Q Q Q (lQ (LT.aFj (enc:=aC) (j:=0) (b':=(aA (Int.tdiv (aA ((aA (dw.2.2.2.2.1 * Gv)) - (aA (uV * Gw)))) dw.2.1))) (v:=(.int .i64 (aA (Int.tdiv (aA ((aA (dw.2.2.2.2.1 * Gv)) - (aA (uV * Gw)))) dw.2.1)))) 25 Q Q (ji pX) dQ Q (lI QU) aDh (by exact Q) (by exact K Q) (by exact Q) Q) Q Q Q Q Q (dm ?_)))))))))))
           refine aB.ent (aY.lens (n:=22) (aD0 (r':=(Jt.set l7.1.toNat (aA (Int.tdiv (aA ((aA (dw.2.2.2.2.1 * Gv)) - (aA (uV * Gw)))) dw.2.1)))) (lI QU) (List.length_set ..)) Q) (aB.blk (en [(1,Iv columns),(7,Cc (lo 22 l7.2.length)),(8,Cc (lo 24 dw.2.2.2.2.2.2.1.length)),(9,Iv dw.2.1),(10,Iv dw.2.2.1),(11,Iv dw.2.2.2.1),(13,Iv dw.2.2.2.2.1),(14,Iv dw.1),(15,Iv uV),(77,Iv dw.2.2.2.2.2.1),(78,Iv dw.1),(91,Iv columns),(92,Iv l7.1)] [(22,.bf 28 23 (bP (l7.2.set dw.1.toNat (Jt.set l7.1.toNat (aA (Int.tdiv (aA ((aA (dw.2.2.2.2.1 * Gv)) - (aA (uV * Gw)))) dw.2.1)))))),(23,.pool 3 (rowsOf aC (l7.2.set dw.1.toNat (Jt.set l7.1.toNat (aA (Int.tdiv (aA ((aA (dw.2.2.2.2.1 * Gv)) - (aA (uV * Gw)))) dw.2.1)))))),(24,pR 3 aC dw.2.2.2.2.2.2.1)] z13 z3 (Wr (af LT.add aU (aH (Iv (aA (l7.1 + 1))) y4 (On (aB.nil ⟨Q,aY.of ⟨Q,congrArg (fun l1 => (some (AV.s (.c (lo 22 l1))):Option AV)) (show l7.2.length = (l7.2.set dw.1.toNat (Jt.set l7.1.toNat (aA (Int.tdiv (aA ((aA (dw.2.2.2.2.1 * Gv)) - (aA (uV * Gw)))) dw.2.1)))).length by simp only [List.length_set]),Q,Q,Q,Q,Q,Q,Q,Q,Q,Q,Q,J⟩ z3⟩)))))))
          ·refine eu y2 z9 z3
         ·refine aB.blk (Wr ?_)
          refine af LT.add aU (aH (Iv (aA (rG.2.2.2.2.2.1 + 1))) y4 (On (aV Q z9 z3)))
       ·refine eu y2 z5 z3
      ·refine Ws (Wr ?_)
       refine aH (Cc (lo 24 mG.2.2.2.length)) y4 (aH (Iv mG.1) y4 (pV (gu 26 aC [(0,.tmp 125,.c (iC mG.1))] ([mG.1]:List Int) dO iL y7) Q Q Q (aS fun aOx aLV => (qM (LT.pK (enc:=aC) Q Q Q dO iL Q (by decide) (by decide) (fun _ => Q) (kU aLV)) Q Q Q Q Q Q (aJ (Cc (lo 24 ((mG.2.2.2 ++ ([mG.1]:List Int)).length))) y4 (On (Wr ?_)))))))
       refine aH (Iv mG.2.1) y4 (aJ (Iv mG.2.1) y4 (On (aB.blk ?_)))
       refine en [(1,Iv columns),(7,Cc (lo 22 mG.2.2.1.length)),(8,Cc (lo 24 ((mG.2.2.2 ++ ([mG.1]:List Int)).length))),(9,Iv mG.2.1),(10,Iv mG.1)] [(22,.bf 28 23 (bP mG.2.2.1)),(23,.pool 3 (rowsOf aC mG.2.2.1)),(24,pR 3 aC (mG.2.2.2 ++ ([mG.1]:List Int)))] z5 z3 (Wr (aH (Iv mG.1) y4 (af LT.add aU (aJ (Iv (aA (mG.1 + 1))) y4 (On (aV Q z5 z3))))))
   ·refine eu y2 z3 z3
 ·refine Ws (Wr ?_)
  refine aH (Cc (lo 22 oL.2.1.length)) y4 (aH (Cc (lo 24 oL.2.2.length)) y4 (aH (Iv oL.1) y4 (aJ (Cc (lo 22 oL.2.1.length)) y4 (aJ (Cc (lo 24 oL.2.2.length)) y4 (aJ (Iv oL.1) y4 (On (en [(4,Cc (lo 22 oL.2.1.length)),(5,Cc (lo 24 oL.2.2.length)),(6,Iv oL.1)] [(22,.bf 28 23 (bP oL.2.1)),(23,.pool 3 (rowsOf aC oL.2.1)),(24,pR 3 aC oL.2.2)] z3 z3 (aB.ent (aY.mv 22 0 Q Q) (aB.ent (aY.mv 24 2 Q Q) (aB.ent (aY.mv 23 1 Q Q) (en [(4,Cc (lo 0 oL.2.1.length)),(5,Cc (lo 2 oL.2.2.length)),(6,Iv oL.1)] [(0,.bf 28 1 (bP oL.2.1)),(1,.pool 3 (rowsOf aC oL.2.1)),(2,pR 3 aC oL.2.2)] z3 z3 ?_)))))))))))
  refine bT z3 z3 ⟨J,J,au.sc,J⟩ ⟨J,cZ.Aq gQ _,cZ.fA gQ,J⟩
theorem aBD (x:Int):FT Tryz.prog (I4 x) 206 [.c (iC x)] [] (fun (t:Bool) => [.c (bC t)]) (fun (t:Bool) => []) []:=by
 refine FT.of [] Tryz.func206 Tryz.ntmps206 Q y2 ?_
 intro w0 U0 R0 g0
 unfold I4
 refine Ws (Wr ?_)
 refine aJ (Bv false) aZ (On (Ws ?_))
 refine aB.eX (fun j2 => ([(2,Bv j2)],[])) ?_ (fun j2 _ => ?_)
 ·refine Wr (aH (Iv x) y4 (af LT.gtr aU (aH (Bv (decide (9000000000000000000 < x))) y4 (aT.split (fun hb3 => ?_) (fun hb3 => ?_)))))
  ·refine aK hb3 y5 (aK hb3 y5 (dD (Bv true) hb3 aU (aJ (Bv true) y4 (On (aV Q z1 J)))))
  ·refine dB (Iv x) hb3 y5 (fB LT.lss hb3 iT (dA (Bv (decide (x < (-9000000000000000000)))) hb3 y5 (aJ (Bv (decide (x < (-9000000000000000000)))) y4 (On (aV Q z1 J)))))
 ·refine bT z1 J ⟨au.sc,J⟩ J
theorem aPF (a:Int) (b:Int):FT Tryz.prog (Qw a b) 207 [.c (iC a),.c (iC b)] [] (fun (t:Int) => [.c (iC t)]) (fun (t:Int) => []) []:=by
 refine FT.of [] Tryz.func207 Tryz.ntmps207 Q y2 ?_
 intro w0 U0 R0 g0
 unfold Qw
 refine Ws (Wr ?_)
 refine aJ (Iv 0) aZ (On (Ws (Ws ?_)))
 refine aB.eX (fun j4 => ([(0,Iv a),(1,Iv b),(10,Bv j4)],[])) ?_ (fun j4 _ => ?_)
 ·refine Wr (aH (Iv a) y4 (aS fun r5 nI => (iD [.c (iC a)] (aBD a r5 nI) YE (l9 Q) y5 z2 (aH (Bv r5) y4 (aT.split (fun hb6 => ?_) (fun hb6 => ?_))))))
  ·refine aK hb6 y5 (aK hb6 y5 (dD (Bv true) hb6 aU (On (aV Q z3 J))))
  ·refine dB (Iv b) hb6 y5 (aS fun r7 lH => (aT.pure (dK [.c (iC b)] (aBD b r7 lH) YE (l9 Q) J y3) z2 J (gH hb6 Q Q) Q (dA (Bv r7) hb6 y5 (On (aV Q z3 J)))))
 ·refine aB.cond Q (fun hc8 => ?_) (fun hc8 => ?_)
  ·refine Ws (Wr ?_)
   refine aJ (Iv 0) aZ (On (bT z1 J ⟨au.sc,J⟩ J))
  ·refine aB.skip (Ws (Wr ?_))
   refine aH (Iv a) y4 (aH (Iv a) y4 (aW (LT.neg Q) Q Q Q (af LT.max y5 (aH (Iv b) y4 (aH (Iv b) y4 (aW (LT.neg Q) Q Q Q (af LT.max y5 (aJ (Iv (if a < (aA (-a)) then (aA (-a)) else a)) y4 (aJ (Iv (if b < (aA (-b)) then (aA (-b)) else b)) y4 (On (Ws (aB.block ?_))))))))))))
   refine aB.jM (id:=0) Qx (fun s9 => ([(0,Iv s9.1),(1,Iv s9.2)],[])) (fun b14 => ([(0,Iv b14)],[])) ?_ (aY.of z2 J) Q (fun b14 _ => ?_)
   ·intro s9
    unfold Qx
    refine Ws (Ws (Wr ?_))
    refine aH (Iv s9.2) y4 (af LT.neq aU (On (aB.cond Q (fun D5 => ?_) (fun D5 => ?_))))
    ·refine aB.skip (aB.block (aB.draw mixed ?_))
     refine ay (Iv s9.2) y4 (ay (Iv s9.1) y4 (ay (Iv s9.2) y4 (aQ.bind fun u16 Zb => (bZ (LT.rem Q (yZ Zb)) Q Q Q Q (ax (LT.assign (v:=(Iv s9.2)) Q) Q Q Q (ax (LT.assign (v:=(Iv (Int.tmod s9.1 s9.2))) Q) Q Q Q (dm (aB.blk (aV Q z2 J)))))))))
    ·refine eu y2 z1 J
   ·refine Ws (Wr ?_)
    refine aH (Iv b14) y4 (aJ (Iv b14) y4 (On (bT z1 J ⟨au.sc,J⟩ J)))
theorem aPK (v:(List Int)):FT Tryz.prog (Q5 v) 182 [.c (xF aC v)] [] (fun (t:(List Int)) => [.c (lo 0 t.length)]) (fun (t:(List Int)) => [(0,pR 3 aC t)]) [0]:=by
 refine FT.of [] Tryz.func182 Tryz.ntmps182 Q y2 ?_
 intro w0 U0 R0 g0
 unfold Q5
 refine Ws (Wr ?_)
 refine aJ (Cc (sC aX)) aZ (On (Ws (Wr ?_)))
 refine aH (Cc (xF aC v)) y4 (aS fun r1 hr1 => (aT.step (dK [.c (xF aC v)] (Fw.Fn.ren [(0,22)] (Xg v r1 hr1) Q) Uf (l9 Q) J y3) z2 J Q Q (aJ (Cc (lo 22 r1.length)) y4 (On (Ws (Wr ?_))))))
 refine aJ (Iv 0) aZ (aJ (Iv 0) aZ (On (Ws (Ws (Wr ?_)))))
 refine aH (Cc (xF aC v)) y4 (aW (LT.fG Q dO) Q Q Q (aH (Iv 0) aZ (On (aB.block ?_))))
 refine aB.lD (id:=0) (Lu v r1) (fun s2 => ([(3,Cc (lo 22 r1.length)),(4,Iv s2.1),(5,Iv s2.2.1),(11,Cc (xF aC v)),(12,Iv (v.length:Int)),(13,Iv s2.2.2)],[(22,pR 3 aC r1)])) (fun b19 => ([(3,Cc (lo 22 b19.2.2.length)),(4,Iv b19.1),(5,Iv b19.2.1)],[(22,pR 3 aC b19.2.2)])) (ja Tryz.prog Tryz.f182.results.toList [] [0] (fun (t:(List Int)) => [.c (lo 0 t.length)]) (fun (t:(List Int)) => [(0,pR 3 aC t)])) ?_ (aY.of z6 z1) Q (fun b19 _ => ?_) lK
 ·intro s2
  unfold Lu
  refine Ws (Wr ?_)
  refine af LT.lss y5 (On (Ws ?_))
  refine aB.cond Q (fun Px => ?_) (fun Px => ?_)
  ·refine aB.skip (Ws (aB.block (Ws (Wr ?_))))
   refine aS fun x21 Vb => (bg (LT.bU (enc:=aC) Q dG Vb dQ) Q Q Q Q (aW (LT.dJ Q ak) Q Q Q (aJ (Iv x21) y4 (On (Ws (Ws (Wr ?_)))))))
   refine aH (Iv x21) y4 (aS fun r22 QE => (iD [.c (iC x21)] (aBD x21 r22 QE) YE (l9 Q) y5 z2 (On (aB.cond Q (fun Py => ?_) (fun Py => ?_)))))
   ·refine Ws (Wr ?_)
    refine aH (Cc (lo 22 r1.length)) y4 (aJ (Cc (lo 22 r1.length)) y4 (On (en [(2,Cc (lo 22 r1.length))] [(22,pR 3 aC r1)] z1 z1 (aB.ent (aY.mv 22 0 Q Q) (en [(2,Cc (lo 0 r1.length))] [(0,pR 3 aC r1)] z1 z1 (aB.ret ⟨Q,kz z1 z1 ⟨J,J⟩ ⟨cZ.fA gQ,J⟩⟩))))))
   ·refine aB.skip (Ws (Wr ?_))
    refine aH (Iv s2.1) y4 (aH (Iv x21) y4 (aS fun Oi aKn => (iD [.c (iC s2.1),.c (iC x21)] (aPF s2.1 x21 Oi aKn) aHn (jv y2) y5 z3 (aJ (Iv Oi) y4 (On (Ws (Wr ?_)))))))
    refine aH (Iv s2.2.1) y4 (af LT.eql aU (On (aB.eX (fun j26 => ([(3,Cc (lo 22 r1.length)),(4,Iv Oi),(5,Iv j26),(11,Cc (xF aC v)),(12,Iv (v.length:Int)),(13,Iv s2.2.2)],[(22,pR 3 aC r1)])) ?_ (fun j26 _ => ?_))))
    ·refine aB.cond Q (fun hc27 => ?_) (fun hc27 => ?_)
     ·refine en [(3,Cc (lo 22 r1.length)),(4,Iv Oi),(7,Iv x21),(11,Cc (xF aC v)),(12,Iv (v.length:Int)),(13,Iv s2.2.2)] [(22,pR 3 aC r1)] z6 z1 (Wr (aH (Iv x21) y4 (aJ (Iv x21) y4 (On (aV Q z6 z1)))))
     ·refine aB.skip (aV Q z6 z1)
    ·refine aB.blk (Wr ?_)
     refine af LT.add aU (aH (Iv (aA (s2.2.2 + 1))) y4 (On (aV Q z6 z1)))
  ·refine eu y2 z3 z1
 ·refine Ws (Ws (Wr ?_))
  refine aH (Iv b19.1) y4 (af LT.eql aU (On (aB.cond Q (fun hc28 => ?_) (fun hc28 => ?_))))
  ·refine Ws (Wr ?_)
   refine aH (Cc (lo 22 b19.2.2.length)) y4 (aJ (Cc (lo 22 b19.2.2.length)) y4 (On (en [(2,Cc (lo 22 b19.2.2.length))] [(22,pR 3 aC b19.2.2)] z1 z1 (aB.ent (aY.mv 22 0 Q Q) (en [(2,Cc (lo 0 b19.2.2.length))] [(0,pR 3 aC b19.2.2)] z1 z1 (bT z1 z1 ⟨J,J⟩ ⟨cZ.fA gQ,J⟩))))))
  ·refine aB.skip (Ws (Ws (Wr ?_)))
   refine aH (Iv b19.2.1) y4 (af LT.lss aU (On (aB.eX (fun j30 => ([(3,Cc (lo 22 b19.2.2.length)),(4,Iv j30)],[(22,pR 3 aC b19.2.2)])) ?_ (fun j30 _ => ?_))))
   ·refine aB.cond Q (fun hc31 => ?_) (fun hc31 => ?_)
    ·refine Wr (aH (Iv b19.1) y4 (aW (LT.neg Q) Q Q Q (aJ (Iv (aA (-b19.1))) y4 (On (aV Q z2 z1)))))
    ·refine aB.skip (aV Q z2 z1)
   ·refine Ws (Ws (Wr ?_))
    refine aH (Cc (lo 22 b19.2.2.length)) y4 (aW (LT.lC Q dO) Q Q Q (aH (Iv 0) aZ (On (aB.block ?_))))
    refine aB.jM (id:=2) (L6 b19 j30) (fun oz => ([(3,Cc (lo 22 oz.2.length)),(4,Iv j30),(35,Iv (b19.2.2.length:Int)),(36,Iv oz.1)],[(22,pR 3 aC oz.2)])) (fun zn => ([(3,Cc (lo 22 zn.length))],[(22,pR 3 aC zn)])) ?_ (aY.of z4 z1) Q (fun zn _ => ?_)
    ·intro oz
     unfold L6
     refine Ws (Wr ?_)
     refine af LT.lss y5 (On (Ws ?_))
     refine aB.cond Q (fun Yx => ?_) (fun Yx => ?_)
     ·refine aB.skip (Ws (aB.block (Ws (Wr ?_))))
      refine aH (Iv oz.1) y4 (aJ (Iv oz.1) y4 (On (Wr ?_)))
      refine aH (Cc (lo 22 oz.2.length)) y4 (aH (Iv oz.1) y4 (aH (Cc (lo 22 oz.2.length)) y4 (aH (Iv oz.1) y4 (aS fun x43 Ko => (jf (LT.jH Q Q dG Ko) Q Q Q Q Q (bV (ni 0 Q ak Ko) Q Q Q Q (aH (Iv j30) y4 (aS fun u44 QJ => (bg (LT.quo Q (yZ QJ)) Q Q Q Q (aS fun kL FI => (jf (LT.jH Q Q dG FI) Q Q Q Q Q ?_)))))))))))
      refine dZ (qI 0 (.c (iC (aA (Int.tdiv x43 j30)))) (aA (Int.tdiv x43 j30)) Q Q pX dQ FI) Q Q Q Q Q (On (aB.blk ?_))
      refine en [(3,Cc (lo 22 oz.2.length)),(4,Iv j30),(35,Iv (b19.2.2.length:Int)),(36,Iv oz.1)] [(22,pR 3 aC (oz.2.set oz.1.toNat (aA (Int.tdiv x43 j30))))] z4 z1 (Wr (af LT.add aU (aH (Iv (aA (oz.1 + 1))) y4 (On (aB.nil ⟨Q,aY.of ⟨congrArg (fun l1 => (some (AV.s (.c (lo 22 l1))):Option AV)) (show oz.2.length = (oz.2.set oz.1.toNat (aA (Int.tdiv x43 j30))).length by simp only [List.length_set]),Q,Q,Q,J⟩ z1⟩)))))
     ·refine eu y2 z1 z1
    ·refine Ws (Wr ?_)
     refine aH (Cc (lo 22 zn.length)) y4 (aJ (Cc (lo 22 zn.length)) y4 (On (en [(2,Cc (lo 22 zn.length))] [(22,pR 3 aC zn)] z1 z1 (aB.ent (aY.mv 22 0 Q Q) (en [(2,Cc (lo 0 zn.length))] [(0,pR 3 aC zn)] z1 z1 (bT z1 z1 ⟨J,J⟩ ⟨cZ.fA gQ,J⟩))))))
theorem aGA (m:(List (List Int))) (columns:Int):FT Tryz.prog (MK m columns) 150 [.c (xF (bG false) m),.c (iC columns)] [] (fun (t:(List (List Int))) => [.c (lo 0 t.length)]) (fun (t:(List (List Int))) => [(0,.bf 28 1 (bP t)),(1,.pool 3 (rowsOf aC t))]) [0,1]:=by
 refine FT.of [] Tryz.func150 Tryz.ntmps150 Q y2 ?_
 intro w0 U0 R0 g0
 unfold MK
 refine Ws (Wr ?_)
 refine aJ (Cc (sC aX)) aZ (On (Ws (Wr ?_)))
 refine aH (Cc (xF (bG false) m)) y4 (aH (Iv columns) y4 (aS fun r1 hr1 => (aT.step (dK [.c (xF (bG false) m),.c (iC columns)] (Fw.Fn.ren [(0,22),(1,23),(2,24)] (aGB m columns r1 hr1) Q) aCN (jv y2) J y3) z3 J Q Q (aH (.eH [.c (lo 22 r1.1.length),.c (lo 24 r1.2.1.length),.c (iC r1.2.2)]) y4 (jQ (.c (lo 22 r1.1.length)) y5 (jQ (.c (lo 24 r1.2.1.length)) y5 (jQ (.c (iC r1.2.2)) y5 (aJ (Cc (lo 22 r1.1.length)) y4 (aJ (Cc (lo 24 r1.2.1.length)) y4 (aJ (Iv r1.2.2) y4 (On (Ws ?_))))))))))))
 refine en [(1,Iv columns),(5,Cc (lo 22 r1.1.length)),(6,Cc (lo 24 r1.2.1.length)),(7,Iv r1.2.2)] [(22,.bf 28 23 (bP r1.1)),(23,.pool 3 (rowsOf aC r1.1)),(24,pR 3 aC r1.2.1)] z4 z3 (Wr (aH (Iv columns) y4 (aS fun u2 hu2 => (G7 (LT.Ji (n:=25) (enc:=aC) (zc:=[iC 0]) (0:Int) Q dO iL Q Q Q (by decide) (by decide) (FV hu2) Q) Q Q Q Q (aJ (Cc (lo 25 ((List.replicate columns.toNat (0:Int)).length))) y4 (On (Ws (Ws (Wr ?_)))))))))
 refine aH (Cc (lo 25 ((List.replicate columns.toNat (0:Int)).length))) y4 (aW (LT.lC Q dO) Q Q Q (aH (Iv 0) aZ (On (aB.block ?_))))
 refine aB.jM (id:=0) (ML columns r1) (fun s3 => ([(1,Iv columns),(5,Cc (lo 22 r1.1.length)),(6,Cc (lo 24 r1.2.1.length)),(7,Iv r1.2.2),(8,Cc (lo 25 s3.2.length)),(26,Iv ((List.replicate columns.toNat (0:Int)).length:Int)),(27,Iv s3.1)],[(22,.bf 28 23 (bP r1.1)),(23,.pool 3 (rowsOf aC r1.1)),(24,pR 3 aC r1.2.1),(25,pR 3 aC s3.2)])) (fun b8 => ([(1,Iv columns),(5,Cc (lo 22 b8.2.1.length)),(6,Cc (lo 24 b8.2.2.1.length)),(7,Iv b8.1),(8,Cc (lo 25 b8.2.2.2.length))],[(22,.bf 28 23 (bP b8.2.1)),(23,.pool 3 (rowsOf aC b8.2.1)),(24,pR 3 aC b8.2.2.1),(25,pR 3 aC b8.2.2.2)])) ?_ (aY.of z7 z4) Q (fun b8 _ => ?_)
 ·intro s3
  unfold ML
  refine Ws (Wr ?_)
  refine af LT.lss y5 (On (Ws ?_))
  refine aB.cond Q (fun yT => ?_) (fun yT => ?_)
  ·refine aB.skip (Ws (aB.block (Ws (Wr ?_))))
   refine aH (Iv s3.1) y4 (aJ (Iv s3.1) y4 (On (Wr ?_)))
   refine aH (Cc (lo 25 s3.2.length)) y4 (aH (Iv s3.1) y4 (aS fun x10 KW => (jf (LT.jH Q Q dG KW) Q Q Q Q Q (dZ (qI 0 (.c (iC (-1))) (-1) Q Q pX dQ KW) Q y2 Q Q Q (On (aB.blk (Wr ?_)))))))
   refine af LT.add aU (aH (Iv (aA (s3.1 + 1))) y4 (On (aB.nil ⟨Q,aY.of ⟨Q,Q,Q,Q,congrArg (fun l1 => (some (AV.s (.c (lo 25 l1))):Option AV)) (show s3.2.length = (s3.2.set s3.1.toNat (-1)).length by simp only [List.length_set]),Q,Q,J⟩ z4⟩)))
  ·refine eu y2 z5 z4
 ·refine Ws (Ws (Wr ?_))
  refine aH (Cc (lo 24 b8.2.2.1.length)) y4 (aW (LT.lC Q dO) Q Q Q (aH (Iv 0) aZ (On (aB.block ?_))))
  refine aB.jM (id:=2) (MN b8) (fun s11 => ([(1,Iv columns),(5,Cc (lo 22 b8.2.1.length)),(7,Iv b8.1),(8,Cc (lo 25 s11.2.length)),(34,Cc (lo 24 b8.2.2.1.length)),(35,Iv (b8.2.2.1.length:Int)),(36,Iv s11.1)],[(22,.bf 28 23 (bP b8.2.1)),(23,.pool 3 (rowsOf aC b8.2.1)),(24,pR 3 aC b8.2.2.1),(25,pR 3 aC s11.2)])) (fun b18 => ([(1,Iv columns),(5,Cc (lo 22 b18.2.1.length)),(7,Iv b18.1),(8,Cc (lo 25 b18.2.2.length))],[(22,.bf 28 23 (bP b18.2.1)),(23,.pool 3 (rowsOf aC b18.2.1)),(25,pR 3 aC b18.2.2)])) ?_ (aY.of z7 z4) Q (fun b18 _ => ?_)
  ·intro s11
   unfold MN
   refine Ws (Wr ?_)
   refine af LT.lss y5 (On (Ws ?_))
   refine aB.cond Q (fun hc19 => ?_) (fun hc19 => ?_)
   ·refine aB.skip (Ws (aB.block (Ws (Wr ?_))))
    refine aH (Iv s11.1) y4 (aS fun x20 Ad => (jf (LT.jH Q Q dG Ad) Q Q Q Q Q (bV (ni 0 Q ak Ad) Q Q Q Q (aJ (Iv s11.1) y4 (aJ (Iv x20) y4 (On (Wr ?_)))))))
    refine aH (Cc (lo 25 s11.2.length)) y4 (aH (Iv x20) y4 (aH (Iv s11.1) y4 (aS fun x21 Vb => (jf (LT.jH Q Q dG Vb) Q Q Q Q Q (dZ (qI 0 (.c (iC s11.1)) s11.1 Q Q pX dQ Vb) Q Q Q Q Q (On (aB.blk ?_)))))))
    refine en [(1,Iv columns),(5,Cc (lo 22 b8.2.1.length)),(7,Iv b8.1),(8,Cc (lo 25 s11.2.length)),(34,Cc (lo 24 b8.2.2.1.length)),(35,Iv (b8.2.2.1.length:Int)),(36,Iv s11.1)] [(22,.bf 28 23 (bP b8.2.1)),(23,.pool 3 (rowsOf aC b8.2.1)),(24,pR 3 aC b8.2.2.1),(25,pR 3 aC (s11.2.set x20.toNat s11.1))] z7 z4 (Wr (af LT.add aU (aH (Iv (aA (s11.1 + 1))) y4 (On (aB.nil ⟨Q,aY.of ⟨Q,Q,Q,congrArg (fun l1 => (some (AV.s (.c (lo 25 l1))):Option AV)) (show s11.2.length = (s11.2.set x20.toNat s11.1).length by simp only [List.length_set]),Q,Q,Q,J⟩ z4⟩)))))
   ·refine eu y2 z4 z3
  ·refine Ws (Wr ?_)
   refine jo (LT.buildSlice (n:=26) (els:=[]) [] Q Q jR oH Q Q Q Q (by decide) Q Q) Q Q (aJ (Cc (lo 26 0)) y4 (On (aB.ent (aY.Oa 27 3 Q) (aB.ent (aY.bf (n:=26) (p:=27) (lens:=bP ([]:List (List Int))) (List.append_nil _) Q) (Ws (Ws (Wr ?_)))))))
   refine aH (Iv columns) y4 (aH (Iv 0) aZ (On (aB.block ?_)))
   refine aB.jM (id:=4) (MO columns) (fun fQ => ([(1,Iv columns),(5,Cc (lo 22 fQ.2.2.2.1.length)),(7,Iv fQ.2.1),(8,Cc (lo 25 fQ.2.2.1.length)),(12,Cc (lo 26 fQ.2.2.2.2.length)),(47,Iv columns),(48,Iv fQ.1)],[(22,.bf 28 23 (bP fQ.2.2.2.1)),(23,.pool 3 (rowsOf aC fQ.2.2.2.1)),(25,pR 3 aC fQ.2.2.1),(26,.bf 28 27 (bP fQ.2.2.2.2)),(27,.pool 3 (rowsOf aC fQ.2.2.2.2))])) (fun wz => ([(12,Cc (lo 26 wz.length))],[(26,.bf 28 27 (bP wz)),(27,.pool 3 (rowsOf aC wz))])) ?_ (aY.of z7 z5) Q (fun wz _ => ?_)
   ·intro fQ
    unfold MO
    refine Ws (Wr ?_)
    refine af LT.lss y5 (On (Ws ?_))
    refine aB.cond Q (fun aJy => ?_) (fun aJy => ?_)
    ·refine aB.skip (Ws (aB.block (Ws (Wr ?_))))
     refine aH (Iv fQ.1) y4 (aJ (Iv fQ.1) y4 (On (Ws (Ws (Wr ?_)))))
     refine aH (Cc (lo 25 fQ.2.2.1.length)) y4 (aH (Iv fQ.1) y4 (aS fun x95 hx95 => (jf (LT.jH Q Q dG hx95) Q Q Q Q Q (bV (ni 0 Q ak hx95) Q Q Q Q (af LT.geq aU (On (aB.cond Q (fun hc96 => ?_) (fun hc96 => ?_))))))))
     ·refine aB.exit Q (Wr ?_)
      refine af LT.add aU (aH (Iv (aA (fQ.1 + 1))) y4 (On (aV Q z7 z5)))
     ·refine aB.skip (Ws (Wr ?_))
      refine aH (Iv columns) y4 (aS fun u97 aLp => (G7 (LT.Ji (n:=28) (enc:=aC) (zc:=[iC 0]) (0:Int) Q dO iL Q Q Q (by decide) (by decide) (FV aLp) Q) Q Q Q Q (aJ (Cc (lo 28 ((List.replicate columns.toNat (0:Int)).length))) y4 (On (Ws ?_)))))
      refine en [(1,Iv columns),(5,Cc (lo 22 fQ.2.2.2.1.length)),(7,Iv fQ.2.1),(8,Cc (lo 25 fQ.2.2.1.length)),(12,Cc (lo 26 fQ.2.2.2.2.length)),(13,Iv fQ.1),(14,Cc (lo 28 ((List.replicate columns.toNat (0:Int)).length))),(47,Iv columns),(48,Iv fQ.1)] [(22,.bf 28 23 (bP fQ.2.2.2.1)),(23,.pool 3 (rowsOf aC fQ.2.2.2.1)),(25,pR 3 aC fQ.2.2.1),(26,.bf 28 27 (bP fQ.2.2.2.2)),(27,.pool 3 (rowsOf aC fQ.2.2.2.2)),(28,pR 3 aC (List.replicate columns.toNat (0:Int)))] z9 z6 (Wr (aH (Cc (lo 28 ((List.replicate columns.toNat (0:Int)).length))) y4 (aH (Iv fQ.1) y4 (aH (Iv fQ.2.1) y4 (aS fun x98 hx98 => (jf (LT.jH Q Q dG hx98) Q Q Q Q Q (dZ (qI 0 (.c (iC fQ.2.1)) fQ.2.1 Q Q pX dQ hx98) Q Q Q Q Q (On (Ws (Ws (Wr ?_)))))))))))
      refine aH (Iv columns) y4 (aH (Iv 0) aZ (On (aB.block ?_)))
      refine aB.jM (id:=6) (MP columns fQ) (fun qA => ([(1,Iv columns),(5,Cc (lo 22 fQ.2.2.2.1.length)),(7,Iv fQ.2.1),(8,Cc (lo 25 fQ.2.2.1.length)),(12,Cc (lo 26 fQ.2.2.2.2.length)),(13,Iv fQ.1),(14,Cc (lo 28 qA.2.length)),(47,Iv columns),(48,Iv fQ.1),(62,Iv columns),(63,Iv qA.1)],[(22,.bf 28 23 (bP fQ.2.2.2.1)),(23,.pool 3 (rowsOf aC fQ.2.2.2.1)),(25,pR 3 aC fQ.2.2.1),(26,.bf 28 27 (bP fQ.2.2.2.2)),(27,.pool 3 (rowsOf aC fQ.2.2.2.2)),(28,pR 3 aC qA.2)])) (fun nO => ([(1,Iv columns),(5,Cc (lo 22 nO.2.2.1.length)),(7,Iv nO.1),(8,Cc (lo 25 nO.2.2.2.1.length)),(12,Cc (lo 26 nO.2.2.2.2.1.length)),(14,Cc (lo 28 nO.2.2.2.2.2.length)),(47,Iv columns),(48,Iv nO.2.1)],[(22,.bf 28 23 (bP nO.2.2.1)),(23,.pool 3 (rowsOf aC nO.2.2.1)),(25,pR 3 aC nO.2.2.2.1),(26,.bf 28 27 (bP nO.2.2.2.2.1)),(27,.pool 3 (rowsOf aC nO.2.2.2.2.1)),(28,pR 3 aC nO.2.2.2.2.2)])) ?_ (aY.of ⟨Q,Q,Q,Q,Q,Q,congrArg (fun l1 => (some (AV.s (.c (lo 28 l1))):Option AV)) (show (List.replicate columns.toNat (0:Int)).length = ((List.replicate columns.toNat (0:Int)).set fQ.1.toNat fQ.2.1).length by simp only [List.length_set]),Q,Q,Q,Q,J⟩ z6) Q (fun nO _ => ?_)
      ·intro qA
       unfold MP
       refine Ws (Wr ?_)
       refine af LT.lss y5 (On (Ws ?_))
       refine aB.cond Q (fun Yr => ?_) (fun Yr => ?_)
       ·refine aB.skip (Ws (aB.block (Ws (Wr ?_))))
        refine aH (Iv qA.1) y4 (aJ (Iv qA.1) y4 (On (Ws (Wr ?_))))
        refine aH (Cc (lo 25 fQ.2.2.1.length)) y4 (aH (Iv qA.1) y4 (aS fun O4 hx128 => (jf (LT.jH Q Q dG hx128) Q Q Q Q Q (bV (ni 0 Q ak hx128) Q Q Q Q (af LT.geq aU (On (aB.eX (fun j134 => ([(1,Iv columns),(5,Cc (lo 22 fQ.2.2.2.1.length)),(7,Iv fQ.2.1),(8,Cc (lo 25 fQ.2.2.1.length)),(12,Cc (lo 26 fQ.2.2.2.2.length)),(13,Iv fQ.1),(14,Cc (lo 28 j134.length)),(47,Iv columns),(48,Iv fQ.1),(62,Iv columns),(63,Iv qA.1)],[(22,.bf 28 23 (bP fQ.2.2.2.1)),(23,.pool 3 (rowsOf aC fQ.2.2.2.1)),(25,pR 3 aC fQ.2.2.1),(26,.bf 28 27 (bP fQ.2.2.2.2)),(27,.pool 3 (rowsOf aC fQ.2.2.2.2)),(28,pR 3 aC j134)])) ?_ (fun j134 _ => ?_))))))))
        ·refine aB.cond Q (fun aJO => ?_) (fun aJO => ?_)
         ·refine Wr (aH (Cc (lo 28 qA.2.length)) y4 (aH (Iv qA.1) y4 (aH (Cc (lo 22 fQ.2.2.2.1.length)) y4 (aH (Cc (lo 25 fQ.2.2.1.length)) y4 (aH (Iv qA.1) y4 (aS fun rE QM => (jf (LT.jH Q Q dG QM) Q Q Q Q Q (bV (ni 0 Q ak QM) Q Q Q Q (aS fun aGZ VY => (jf (LT.xq Q Q jw VY) Q Q Q Q Q (bV (LT.zh Q fP VY Q) Q Q Q Q ?_)))))))))))
          refine aH (Iv fQ.1) y4 (aS fun UF aDV => (jf (LT.EZ Q Q dG (lI VY) aDV) Q Q Q Q Q (bV (LT.Jh (enc:=aC) (j:=0) Q ak (lI VY) aDV (by exact Q) (by exact Q)) Q Q Q Q (aW (LT.neg Q) Q Q Q (aS fun aP6 aDW => (jf (LT.jH Q Q dG aDW) Q Q Q Q Q (dZ (qI 0 (.c (iC (aA (-UF)))) (aA (-UF)) Q Q pX dQ aDW) Q Q Q Q Q (On (aB.nil ⟨Q,aY.of ⟨Q,Q,Q,Q,Q,Q,congrArg (fun l1 => (some (AV.s (.c (lo 28 l1))):Option AV)) (show qA.2.length = (qA.2.set qA.1.toNat (aA (-UF))).length by simp only [List.length_set]),Q,Q,Q,Q,J⟩ z6⟩)))))))))
         ·refine aB.skip (aV Q z11 z6)
        ·refine aB.blk (Wr ?_)
         refine af LT.add aU (aH (Iv (aA (qA.1 + 1))) y4 (On (aV Q z11 z6)))
       ·refine eu y2 z8 z6
      ·refine Wr (aH (Cc (lo 26 nO.2.2.2.2.1.length)) y4 (aH (Cc (lo 28 nO.2.2.2.2.2.length)) y4 (aS fun xO ZJ => (aT.step (cF [.c (lo 28 nO.2.2.2.2.2.length)] [(28,pR 3 aC nO.2.2.2.2.2)] (Fw.Fn.ren [(0,30)] (aPK nO.2.2.2.2.2 xO ZJ) Q) aHi (.cons (.c (.eU Q Q)) .nil) J y3) z2 z1 Q Q (pV (LT.buildSlice (n:=31) (els:=[[lo 30 xO.length]]) [(0,.tmp 88,.c (lo 30 xO.length))] Q Q jR oH Q Q Q Q (by decide) Q Q) Q Q Q (aS fun aOp aLL => (qM (LT.Xr Q Q Q jR oH Q (by decide) (by decide) Q (kU aLL)) Q Q Q Q Q Q (aJ (Cc (lo 26 (nO.2.2.2.2.1.length + 1))) y4 (On (aB.ent (aY.XV (enc:=aC) (n:=26) (m:=30) (p:=27) (rows:=nO.2.2.2.2.1) (r:=xO) (rest:=[]) Q Q Q Q Q Q) (aB.ent (aY.bf (n:=26) (p:=27) (lens:=bP (nO.2.2.2.2.1 ++ [xO])) (List.append_nil _) Q) ?_)))))))))))
       refine aB.blk (Wr ?_)
       refine af LT.add aU (aH (Iv (aA (nO.2.1 + 1))) y4 (On (aB.nil ⟨Q,aY.of ⟨Q,Q,Q,Q,congrArg (fun l1 => (some (AV.s (.c (lo 26 l1))):Option AV)) (show (nO.2.2.2.2.1.length + 1) = (nO.2.2.2.2.1 ++ [xO]).length from V5),Q,Q,J⟩ z5⟩)))
    ·refine eu y2 z1 z2
   ·refine Ws (Wr ?_)
    refine aH (Cc (lo 26 wz.length)) y4 (aJ (Cc (lo 26 wz.length)) y4 (On (en [(4,Cc (lo 26 wz.length))] [(26,.bf 28 27 (bP wz)),(27,.pool 3 (rowsOf aC wz))] z1 z2 (aB.ent (aY.mv 26 0 Q Q) (aB.ent (aY.mv 27 1 Q Q) (en [(4,Cc (lo 0 wz.length))] [(0,.bf 28 1 (bP wz)),(1,.pool 3 (rowsOf aC wz))] z1 z2 (bT z1 z2 ⟨J,J⟩ ⟨J,cZ.Aq gQ _,J⟩)))))))
theorem aPL (f:ah):FT Tryz.prog (Iy f) 99 [.agg (aj f)] [] (fun (t:(List (List Int))) => [.c (lo 0 t.length)]) (fun (t:(List (List Int))) => [(0,.bf 28 1 (bP t)),(1,.pool 3 (rowsOf aC t))]) [0,1]:=by
 refine FT.of [] Tryz.func99 Tryz.ntmps99 Q y2 ?_
 intro w0 U0 R0 g0
 unfold Iy
 refine Ws (Wr ?_)
 refine gy 21 (.agg (aj f)) dS y5 (aJ (Cc (sC aX)) aZ (On (Ws (Ws ?_))))
 refine aB.eX (fun j3 => ([(1,Cc (.pl 21 0)),(12,Bv j3)],[(21,.row 46 [aj f])])) ?_ (fun j3 _ => ?_)
 ·refine Wr (bV (bQ (aj f) Q gY fF dS) Q Q Q Q (aS fun r4 hr4 => (iD [.agg (aj f)] (Gs f r4 hr4) Ez (mV y3) y5 z2 (aW (LT.not Q) Q Q Q (aH (Bv (!r4)) y4 (aT.split (fun hb5 => ?_) (fun hb5 => ?_)))))))
  ·refine aK hb5 y5 (aK hb5 y5 (aK hb5 y5 (aK hb5 y5 (aK hb5 y5 (dD (Bv true) hb5 aU (On (aV Q z2 z1)))))))
  ·refine aW (LT.dR Q jW) Q (gH hb5 Q Q) Q (jd (xF aP f.Graph.aF) iO jC hb5 iJ (aW (LT.fG Q jE) Q (gH hb5 Q Q) Q (fB LT.eql hb5 iT (dA (Bv ((f.Graph.aF.length:Int) == 0)) hb5 y5 (On (aV Q z2 z1))))))
 ·refine aB.cond Q (fun hc6 => ?_) (fun hc6 => ?_)
  ·refine Ws (Wr ?_)
   refine jo (LT.buildSlice (n:=23) (els:=[]) [] Q Q jR oH Q Q Q Q (by decide) Q Q) Q Q (aJ (Cc (lo 23 0)) y4 (On (aB.ent (aY.Oa 24 3 Q) (aB.ent (aY.bf (n:=23) (p:=24) (lens:=bP ([]:List (List Int))) (List.append_nil _) Q) (en [(2,Cc (lo 23 0))] [(23,.bf 28 24 (bP ([]:List (List Int)))),(24,.pool 3 (rowsOf aC ([]:List (List Int))))] z1 z2 (aB.ent (aY.mv 23 0 Q Q) (aB.ent (aY.mv 24 1 Q Q) (en [(2,Cc (lo 0 (([]:List (List Int)).length)))] [(0,.bf 28 1 (bP ([]:List (List Int)))),(1,.pool 3 (rowsOf aC ([]:List (List Int))))] z1 z2 (bT z1 z2 ⟨J,J⟩ ⟨J,cZ.Aq gQ _,J⟩)))))))))
  ·refine aB.skip (Ws (aB.draw mixed ?_))
   refine fM (bQ (aj f) Q gY fF dS) Q Q Q Q (aQ.bind fun r7 lH => (aQ.step (dK [.agg (aj f)] (Fw.Fn.ren [(0,26),(1,27)] (aBB f r7 lH) Q) YA (mV y3) J y3) z2 J Q Q (ax (LT.dR Q jW) Q Q Q (dh (iC f.Graph.aI) lT ak bK (dV LT.mul lV (aQ.bind fun r8 Ac => (aQ.step (cF [.c (lo 26 r7.length),.c (iC (aA (2 * f.Graph.aI)))] [(26,.bf 28 27 (bP r7)),(27,.pool 3 (rowsOf aC r7))] (Fw.Fn.ren [(0,29),(1,30)] (aPS r7 (aA (2 * f.Graph.aI)) r8 Ac) Q) aHU (.cons (.c (.Tv Q Q Q (fun _ => Q))) (.cons (.c (.same Q)) .nil)) J y3) z3 z2 Q Q (ax (LT.dR Q jW) Q Q Q (dh (xF aP f.Graph.aF) iO jC bK ?_)))))))))
   refine ax (LT.fG Q jE) Q Q Q (aQ.bind fun r9 ED => (aQ.step (cF [.c (lo 29 r8.length),.c (iC (f.Graph.aF.length:Int))] [(29,.bf 28 30 (bP r8)),(30,.pool 3 (rowsOf aC r8))] (Fw.Fn.ren [(0,32),(1,33)] (aGA r8 (f.Graph.aF.length:Int) r9 ED) Q) aCH (.cons (.c (.Tv Q Q Q (fun _ => Q))) (.cons (.c (.same Q)) .nil)) J y3) z3 z2 Q Q (ax (LT.assign (v:=(Cc (lo 32 r9.length))) Q) Q Q Q (dm (en [(2,Cc (lo 32 r9.length))] [(32,.bf 28 33 (bP r9)),(33,.pool 3 (rowsOf aC r9))] z1 z2 (aB.ent (aY.mv 32 0 Q Q) (aB.ent (aY.mv 33 1 Q Q) (en [(2,Cc (lo 0 r9.length))] [(0,.bf 28 1 (bP r9)),(1,.pool 3 (rowsOf aC r9))] z1 z2 (bT z1 z2 ⟨J,J⟩ ⟨J,cZ.Aq gQ _,J⟩)))))))))
theorem aF8 (v:(List Int)) (n:Int):FT Tryz.prog (MC v n) 161 [.c (xF aC v),.c (iC n)] [] (fun (t:Bool) => [.c (bC t)]) (fun (t:Bool) => []) []:=by
 refine FT.of [] Tryz.func161 Tryz.ntmps161 Q y2 ?_
 intro w0 U0 R0 g0
 unfold MC
 refine Ws (Wr ?_)
 refine aJ (Bv false) aZ (On (Ws (Ws (Wr ?_))))
 refine aH (Cc (xF aC v)) y4 (aW (LT.fG Q dO) Q Q Q (aH (Iv 0) aZ (On (aB.block ?_))))
 refine aB.lD (id:=0) (MF v) (fun s1 => ([(0,Cc (xF aC v)),(1,Iv n),(7,Cc (xF aC v)),(8,Iv (v.length:Int)),(9,Iv s1)],[])) (fun b10 => ([(0,Cc (xF aC v)),(1,Iv n)],[])) (ja Tryz.prog Tryz.f161.results.toList [] [] (fun (t:Bool) => [.c (bC t)]) (fun (t:Bool) => [])) ?_ (aY.of z5 J) Q (fun b10 _ => ?_) lK
 ·intro s1
  unfold MF
  refine Ws (Wr ?_)
  refine af LT.lss y5 (On (Ws ?_))
  refine aB.cond Q (fun sG => ?_) (fun sG => ?_)
  ·refine aB.skip (Ws (aB.block (Ws (Wr ?_))))
   refine aS fun x12 wO => (bg (LT.bU (enc:=aC) Q dG wO dQ) Q Q Q Q (aW (LT.dJ Q ak) Q Q Q (aJ (Iv x12) y4 (On (Ws (Wr ?_))))))
   refine aH (Iv x12) y4 (aS fun r13 uF => (iD [.c (iC x12),.c (iC (-10000000000)),.c (iC 10000000000)] (O0 x12 (-10000000000) 10000000000 r13 uF) KD (vK y3) y5 ⟨Q,Q,y2,y2,J⟩ (aW (LT.not Q) Q Q Q (On (aB.cond Q (fun yS => ?_) (fun yS => ?_))))))
   ·refine Ws (Wr ?_)
    refine aJ (Bv false) aZ (On (aB.ret ⟨Q,kz z1 J ⟨au.sc,J⟩ J⟩))
   ·refine aB.skip (aB.blk (Wr ?_))
    refine af LT.add aU (aH (Iv (aA (s1 + 1))) y4 (On (aV Q z5 J)))
  ·refine eu y2 z2 J
 ·refine Ws (Wr ?_)
  refine aH (Cc (xF aC v)) y4 (aW (LT.fG Q dO) Q Q Q (aH (Iv n) y4 (af LT.eql y5 (aJ (Bv ((v.length:Int) == n)) y4 (On (bT z1 J ⟨au.sc,J⟩ J))))))
theorem aF7 (f:ah) (w:(List Int)):FT Tryz.prog (MB f w) 131 [.agg (aj f),.c (xF aC w)] [] (fun (t:Bool) => [.c (bC t)]) (fun (t:Bool) => []) []:=by
 refine FT.of [] Tryz.func131 Tryz.ntmps131 Q y2 ?_
 intro w0 U0 R0 g0
 unfold MB
 refine Ws (Wr ?_)
 refine gy 21 (.agg (aj f)) dS y5 (aJ (Bv false) aZ (On (Ws ?_)))
 refine aB.eX (fun j4 => ([(4,Bv j4)],[])) ?_ (fun j4 _ => ?_)
 ·refine Wr (bV (bQ (aj f) Q gY fF dS) Q Q Q Q (aS fun r5 nI => (iD [.agg (aj f)] (Gs f r5 nI) Ez (mV y3) y5 z2 (aH (Bv r5) y4 (aT.split (fun hb6 => ?_) (fun hb6 => ?_))))))
  ·refine dB (Cc (xF aC w)) hb6 y5 (aW (LT.dR Q jW) Q (gH hb6 Q Q) Q (jd (xF aP f.Graph.aF) iO jC hb6 iJ (aW (LT.fG Q jE) Q (gH hb6 Q Q) Q (aS fun r7 lH => (aT.pure (dK [.c (xF aC w),.c (iC (f.Graph.aF.length:Int))] (aF8 w (f.Graph.aF.length:Int) r7 lH) aCK (jv y2) J y3) z3 J (gH hb6 Q Q) Q (dD (Bv r7) hb6 y5 (aJ (Bv r7) y4 (On (aV Q z1 J)))))))))
  ·refine aK hb6 y5 (aK hb6 y5 (aK hb6 y5 (aK hb6 y5 (aK hb6 y5 (aK hb6 y5 (dA (Bv false) hb6 aU (aJ (Bv false) y4 (On (aV Q z1 J)))))))))
 ·refine bT z1 J ⟨au.sc,J⟩ J
theorem aO5 (x:bD) (v:Int):FT Tryz.prog (V6 x v) 167 [.agg [iC x.A,iC x.B],.c (iC v)] [] (fun (t:Bool) => [.c (bC t)]) (fun (t:Bool) => []) []:=by
 refine FT.of [] Tryz.func167 Tryz.ntmps167 Q y2 ?_
 intro w0 U0 R0 g0
 unfold V6
 refine Ws (Wr ?_)
 refine gy 21 (.agg [iC x.A,iC x.B]) fU y5 (aJ (Bv false) aZ (On (Ws ?_)))
 refine aB.eX (fun j2 => ([(4,Bv j2)],[])) ?_ (fun j2 _ => ?_)
 ·refine Wr (fC (iC x.A) nS ak bK (aH (Iv v) y4 (af LT.eql y5 (aH (Bv (x.A == v)) y4 (aT.split (fun hb3 => ?_) (fun hb3 => ?_))))))
  ·refine aK hb3 y5 (aK hb3 y5 (aK hb3 y5 (aK hb3 y5 (dD (Bv true) hb3 aU (aJ (Bv true) y4 (On (aV Q z1 J)))))))
  ·refine jd (iC x.B) oZ ak hb3 iJ (dB (Iv v) hb3 y5 (fB LT.eql hb3 y6 (dA (Bv (x.B == v)) hb3 y5 (aJ (Bv (x.B == v)) y4 (On (aV Q z1 J))))))
 ·refine bT z1 J ⟨au.sc,J⟩ J
theorem aPC (f:ah) (w:(List Int)) (v:Int):FT Tryz.prog (Qs f w v) 132 [.agg (aj f),.c (xF aC w),.c (iC v)] [] (fun (t:(Int × Int)) => [.c (iC t.1),.c (iC t.2)]) (fun (t:(Int × Int)) => []) []:=by
 refine FT.of [] Tryz.func132 Tryz.ntmps132 Q y2 ?_
 intro w0 U0 R0 g0
 unfold Qs
 refine Ws (Wr ?_)
 refine gy 21 (.agg (aj f)) dS y5 (aJ (Iv 0) aZ (aJ (Iv 0) aZ (On (Ws (Wr ?_)))))
 refine aJ (Iv 0) aZ (aJ (Iv 0) aZ (On (Ws (Ws (Wr ?_)))))
 refine bV (bQ (aj f) Q gY fF dS) Q Q Q Q (aH (Cc (xF aC w)) y4 (aS fun r1 hr1 => (iD [.agg (aj f),.c (xF aC w)] (aF7 f w r1 hr1) aCD (vM y4) y5 z3 (aW (LT.not Q) Q Q Q (On (aB.cond Q (fun hc2 => ?_) (fun hc2 => ?_)))))))
 ·refine Ws (en [(8,Iv 0),(9,Iv 0)] [] z2 J (Wr (aH (Iv 0) y4 (aH (Iv 0) y4 (aJ (Iv 0) y4 (aJ (Iv 0) y4 (On (bT z2 J ⟨au.sc,au.sc,J⟩ J))))))))
 ·refine aB.skip (Ws (Ws ?_))
  refine en [(1,Cc (xF aC w)),(2,Iv v),(3,Cc (.pl 21 0)),(8,Iv 0),(9,Iv 0)] [(21,.row 46 [aj f])] z5 z1 (Wr (aW (LT.dR Q jW) Q Q Q (fC (xF aP f.Graph.aF) iO jC bK (aW (LT.fG Q jE) Q Q Q (aH (Iv 0) aZ (On (aB.block ?_)))))))
  refine aB.jM (id:=0) (LY f w v) (fun s3 => ([(1,Cc (xF aC w)),(2,Iv v),(3,Cc (.pl 21 0)),(8,Iv s3.1),(9,Iv s3.2.1),(22,Cc (xF aP f.Graph.aF)),(23,Iv (f.Graph.aF.length:Int)),(24,Iv s3.2.2)],[(21,.row 46 [aj f])])) (fun jJ => ([(8,Iv jJ.1),(9,Iv jJ.2)],[])) ?_ (aY.of z8 z1) Q (fun jJ _ => ?_)
  ·intro s3
   unfold LY
   refine Ws (Wr ?_)
   refine af LT.lss y5 (On (Ws ?_))
   refine aB.cond Q (fun P6 => ?_) (fun P6 => ?_)
   ·refine aB.skip (Ws (aB.block (Ws (Wr ?_))))
    refine aH (Iv s3.2.2) y4 (aS fun x38 hx38 => (bg (LT.bU (enc:=aP) Q qP hx38 fU) Q Q Q Q (aW (kJ Q lX je fU) Q Q Q (iF 23 [iC 0,iC 0] jh y6 (aJ (Iv s3.2.2) y4 (dZ (stA [iC x38.A,iC x38.B] Q Q je fU) Q Q Q Q Q (On (Ws ?_))))))))
    refine en [(1,Cc (xF aC w)),(2,Iv v),(3,Cc (.pl 21 0)),(8,Iv s3.1),(9,Iv s3.2.1),(10,Iv s3.2.2),(11,Cc (.pl 23 0)),(22,Cc (xF aP f.Graph.aF)),(23,Iv (f.Graph.aF.length:Int)),(24,Iv s3.2.2)] [(21,.row 46 [aj f]),(23,.row 40 [[iC x38.A,iC x38.B]])] z10 z2 (Wr (bV (bQ [iC x38.A,iC x38.B] Q lX je fU) Q Q Q Q (aH (Iv v) y4 (aS fun yu ZT => (iD [.agg [iC x38.A,iC x38.B],.c (iC v)] (aO5 x38 v yu ZT) aHc (Ov y3) y5 z3 (On (aB.eX (fun j46 => ([(1,Cc (xF aC w)),(2,Iv v),(3,Cc (.pl 21 0)),(8,Iv j46.1),(9,Iv j46.2),(22,Cc (xF aP f.Graph.aF)),(23,Iv (f.Graph.aF.length:Int)),(24,Iv s3.2.2)],[(21,.row 46 [aj f])])) ?_ (fun j46 _ => ?_))))))))
    ·refine aB.cond Q (fun hc47 => ?_) (fun hc47 => ?_)
     ·refine Ws (aB.draw mixed ?_)
      refine dh (xF aO f.Places) iR iV bK (ay (Iv v) y4 (aQ.bind fun jG Ig => (bZ (LT.bU (enc:=aO) Q jU Ig fE) Q Q Q Q (ax (kJ Q o6 lJ fE) Q Q Q (dh (xF aO f.Places) iR iV bK (fM (bQ [iC x38.A,iC x38.B] Q lX je fU) Q Q Q Q (ay (Iv v) y4 (aQ.bind fun r49 aKv => (aQ.pure (dK [.agg [iC x38.A,iC x38.B],.c (iC v)] (aO6 x38 v r49 aKv) aHd (Ov y3) J y3) z3 J Q Q ?_)))))))))
      refine aQ.bind fun qJ Kq => (bZ (LT.bU (enc:=aO) Q jU Kq fE) Q Q Q Q (ax (kJ Q o6 lJ fE) Q Q Q (zB (LT.alloc (n:=26) (cells:=[iC 0,iC 0]) Q tX Q Q Q) Q Q (zB (LT.alloc (n:=27) (cells:=[iC 0,iC 0]) Q tX Q Q Q) Q Q (lQ (stA [iC jG.X,iC jG.Y] Q Q lJ fE) Q Q Q Q Q (lQ (stA [iC qJ.X,iC qJ.Y] Q Q lJ fE) Q Q Q Q Q (dm (Ws (en [(1,Cc (xF aC w)),(2,Iv v),(3,Cc (.pl 21 0)),(8,Iv s3.1),(9,Iv s3.2.1),(10,Iv s3.2.2),(12,Cc (.pl 26 0)),(13,Cc (.pl 27 0)),(22,Cc (xF aP f.Graph.aF)),(23,Iv (f.Graph.aF.length:Int)),(24,Iv s3.2.2)] [(21,.row 46 [aj f]),(26,.row 98 [[iC jG.X,iC jG.Y]]),(27,.row 98 [[iC qJ.X,iC qJ.Y]])] z11 z3 (aB.draw mixed (ay (Iv s3.1) y4 ?_)))))))))))
      refine ay (Cc (xF aC w)) y4 (ay (Iv s3.2.2) y4 (aQ.bind fun O5 Vh => (bZ (LT.bU (enc:=aC) Q dG Vh dQ) Q Q Q Q (ax (LT.dJ Q ak) Q Q Q (dh (iC jG.X) qC ak bK (dh (iC qJ.X) qC ak bK (dV LT.sub y5 (dV LT.mul y5 (dV LT.add y5 ?_)))))))))
      refine ax (LT.assign (v:=(Iv (aA (s3.1 + (aA (O5 * (aA (jG.X - qJ.X)))))))) Q) Q Q Q (dm (en [(1,Cc (xF aC w)),(2,Iv v),(3,Cc (.pl 21 0)),(8,Iv (aA (s3.1 + (aA (O5 * (aA (jG.X - qJ.X))))))),(9,Iv s3.2.1),(10,Iv s3.2.2),(12,Cc (.pl 26 0)),(13,Cc (.pl 27 0)),(22,Cc (xF aP f.Graph.aF)),(23,Iv (f.Graph.aF.length:Int)),(24,Iv s3.2.2)] [(21,.row 46 [aj f]),(26,.row 98 [[iC jG.X,iC jG.Y]]),(27,.row 98 [[iC qJ.X,iC qJ.Y]])] z11 z3 (aB.draw mixed (ay (Iv s3.2.1) y4 (ay (Cc (xF aC w)) y4 (ay (Iv s3.2.2) y4 (aQ.bind fun xZ Ii => (bZ (LT.bU (enc:=aC) Q dG Ii dQ) Q Q Q Q (ax (LT.dJ Q ak) Q Q Q (dh (iC jG.Y) qQ ak bK ?_))))))))))
      refine dh (iC qJ.Y) qQ ak bK (dV LT.sub y5 (dV LT.mul y5 (dV LT.add y5 (ax (LT.assign (v:=(Iv (aA (s3.2.1 + (aA (xZ * (aA (jG.Y - qJ.Y)))))))) Q) Q Q Q (dm (aV Q z8 z1))))))
     ·refine aB.skip (aV Q z8 z1)
    ·refine aB.blk (Wr ?_)
     refine af LT.add aU (aH (Iv (aA (s3.2.2 + 1))) y4 (On (aV Q z8 z1)))
   ·refine eu y2 z2 J
  ·refine Ws (Wr ?_)
   refine aH (Iv jJ.1) y4 (aH (Iv jJ.2) y4 (aJ (Iv jJ.1) y4 (aJ (Iv jJ.2) y4 (On (bT z2 J ⟨au.sc,au.sc,J⟩ J)))))
theorem aPI (f:ah) (w:(List Int)):FT Tryz.prog (Qz f w) 61 [.agg (aj f),.c (xF aC w)] [] (fun (t:Bool) => [.c (bC t)]) (fun (t:Bool) => []) []:=by
 refine FT.of [] Tryz.func61 Tryz.ntmps61 Q y2 ?_
 intro w0 U0 R0 g0
 unfold Qz
 refine Ws (Wr ?_)
 refine gy 21 (.agg (aj f)) dS y5 (aJ (Bv false) aZ (On (Ws (Ws (Wr ?_)))))
 refine bV (bQ (aj f) Q gY fF dS) Q Q Q Q (aH (Cc (xF aC w)) y4 (aS fun r1 hr1 => (iD [.agg (aj f),.c (xF aC w)] (aF7 f w r1 hr1) aCD (vM y4) y5 z3 (aW (LT.not Q) Q Q Q (On (aB.cond Q (fun hc2 => ?_) (fun hc2 => ?_)))))))
 ·refine Ws (Wr ?_)
  refine aJ (Bv false) aZ (On (bT z1 J ⟨au.sc,J⟩ J))
 ·refine aB.skip (Ws (Ws (Wr ?_)))
  refine fC (xF aO f.Places) iR iV bK (aW (LT.fG Q uN) Q Q Q (aH (Iv 0) aZ (On (aB.block ?_))))
  refine aB.lD (id:=0) (Lj f w) (fun s3 => ([(1,Cc (xF aC w)),(2,Cc (.pl 21 0)),(14,Iv (f.Places.length:Int)),(15,Iv s3)],[(21,.row 46 [aj f])])) (fun b16 => ([],[])) (ja Tryz.prog Tryz.f61.results.toList [] [] (fun (t:Bool) => [.c (bC t)]) (fun (t:Bool) => [])) ?_ (aY.of z4 z1) Q (fun b16 _ => ?_) lK
  ·intro s3
   unfold Lj
   refine Ws (Wr ?_)
   refine af LT.lss y5 (On (Ws ?_))
   refine aB.cond Q (fun hc17 => ?_) (fun hc17 => ?_)
   ·refine aB.skip (Ws (aB.block (Ws (Wr ?_))))
    refine aH (Iv s3) y4 (aJ (Iv s3) y4 (On (Ws (Wr ?_))))
    refine bV (bQ (aj f) Q gY fF dS) Q Q Q Q (aH (Cc (xF aC w)) y4 (aH (Iv s3) y4 (aS fun jk Aa => (iD [.agg (aj f),.c (xF aC w),.c (iC s3)] (aPC f w s3 jk Aa) aHQ (aFO y5) y5 z4 (aH (.eH [.c (iC jk.1),.c (iC jk.2)]) y4 (jQ (.c (iC jk.1)) y5 (jQ (.c (iC jk.2)) y5 (aJ (Iv jk.1) y4 (aJ (Iv jk.2) y4 (On (Ws ?_)))))))))))
    refine aB.eX (fun j20 => ([(1,Cc (xF aC w)),(2,Cc (.pl 21 0)),(14,Iv (f.Places.length:Int)),(15,Iv s3),(30,Bv j20)],[(21,.row 46 [aj f])])) ?_ (fun j20 _ => ?_)
    ·refine en [(1,Cc (xF aC w)),(2,Cc (.pl 21 0)),(6,Iv jk.1),(7,Iv jk.2),(14,Iv (f.Places.length:Int)),(15,Iv s3)] [(21,.row 46 [aj f])] z6 z1 (Wr (aH (Iv jk.1) y4 (af LT.neq aU (aH (Bv (jk.1 != 0)) y4 (aT.split (fun rO => ?_) (fun rO => ?_))))))
     ·refine aK rO y5 (aK rO y5 (dD (Bv true) rO aU (On (aV Q z5 z1))))
     ·refine dB (Iv jk.2) rO y5 (fB LT.neq rO iT (dA (Bv (jk.2 != 0)) rO y5 (On (aV Q z5 z1))))
    ·refine aB.cond Q (fun hc22 => ?_) (fun hc22 => ?_)
     ·refine Ws (Wr ?_)
      refine aJ (Bv false) aZ (On (aB.ret ⟨Q,kz z1 J ⟨au.sc,J⟩ J⟩))
     ·refine aB.skip (aB.blk (Wr ?_))
      refine af LT.add aU (aH (Iv (aA (s3 + 1))) y4 (On (aV Q z4 z1)))
   ·refine eu y2 J J
  ·refine Ws (Wr ?_)
   refine aJ (Bv true) aZ (On (bT z1 J ⟨au.sc,J⟩ J))
theorem aA8 (tV:bI) (w:(List Int)):FT Tryz.prog (Fe tV w) 38 [.agg (eP tV),.c (xF aC w)] [] (fun (t:Bool) => [.c (bC t)]) (fun (t:Bool) => []) []:=by
 refine FT.of [] Tryz.func38 Tryz.ntmps38 Q y2 ?_
 intro w0 U0 R0 g0
 unfold Fe
 refine Ws (Wr ?_)
 refine gy 21 (.agg (eP tV)) dP y5 (aJ (Bv false) aZ (On (Ws (Ws ?_))))
 refine aB.eX (fun j4 => ([(1,Cc (xF aC w)),(2,Cc (.pl 21 0)),(16,Bv j4)],[(21,.row 48 [eP tV])])) ?_ (fun j4 _ => ?_)
 ·refine Wr (bV (bQ (eP tV) Q gZ eF dP) Q Q Q Q (aS fun r5 nI => (iD [.agg (eP tV)] (Oz tV r5 nI) KE (Gg y4) y5 z2 (aW (LT.not Q) Q Q Q (aH (Bv (!r5)) y4 (aT.split (fun hb6 => ?_) (fun hb6 => ?_)))))))
  ·refine aK hb6 y5 (aK hb6 y5 (aK hb6 y5 (aK hb6 y5 (aK hb6 y5 (dD (Bv true) hb6 aU (On (aV Q z3 z1)))))))
  ·refine aW (LT.dR Q mM) Q (gH hb6 Q Q) Q (bV (bQ (aj tV.aG) Q gY fF dS) Q Q (gH hb6 Q Q) Q (dB (Cc (xF aC w)) hb6 y5 (aS fun r7 lH => (aT.pure (dK [.agg (aj tV.aG),.c (xF aC w)] (aPI tV.aG w r7 lH) aHz (vM y4) J y3) z3 J (gH hb6 Q Q) Q (aW (LT.not Q) Q (gH hb6 Q Q) Q (dA (Bv (!r7)) hb6 y5 (On (aV Q z3 z1))))))))
 ·refine aB.cond Q (fun hc8 => ?_) (fun hc8 => ?_)
  ·refine Ws (Wr ?_)
   refine aJ (Bv false) aZ (On (bT z1 J ⟨au.sc,J⟩ J))
  ·refine aB.skip (Ws (Ws (Wr ?_)))
   refine fC (xF aC tV.aN) jy fP bK (aW (LT.fG Q dO) Q Q Q (aH (Iv 0) aZ (On (aB.block ?_))))
   refine aB.lD (id:=0) (Lh tV w) (fun s9 => ([(1,Cc (xF aC w)),(18,Cc (xF aC tV.aN)),(19,Iv (tV.aN.length:Int)),(20,Iv s9)],[])) (fun ny => ([],[])) (ja Tryz.prog Tryz.f38.results.toList [] [] (fun (t:Bool) => [.c (bC t)]) (fun (t:Bool) => [])) ?_ (aY.of z4 J) Q (fun ny _ => ?_) lK
   ·intro s9
    unfold Lh
    refine Ws (Wr ?_)
    refine af LT.lss y5 (On (Ws ?_))
    refine aB.cond Q (fun hc47 => ?_) (fun hc47 => ?_)
    ·refine aB.skip (Ws (aB.block (Ws (Wr ?_))))
     refine aH (Iv s9) y4 (aS fun jG Ig => (bg (LT.bU (enc:=aC) Q dG Ig dQ) Q Q Q Q (aW (LT.dJ Q ak) Q Q Q (aJ (Iv s9) y4 (aJ (Iv jG) y4 (On (Ws ?_)))))))
     refine aB.eX (fun j56 => ([(1,Cc (xF aC w)),(18,Cc (xF aC tV.aN)),(19,Iv (tV.aN.length:Int)),(20,Iv s9),(44,Bv j56)],[])) ?_ (fun j56 _ => ?_)
     ·refine Wr (aH (Iv jG) y4 (af LT.eql aU (aH (Bv (jG == 1)) y4 (aT.split (fun yM => ?_) (fun yM => ?_)))))
      ·refine dB (Cc (xF aC w)) yM y5 (dB (Iv s9) yM y5 (aS fun Ju Zq => (bg (LT.bU (enc:=aC) Q dG Zq dQ) Q Q (gH yM Q Q) Q (aW (LT.dJ Q ak) Q (gH yM Q Q) Q (fB LT.lss yM iT (dD (Bv (decide (Ju < 0))) yM y5 (aH (Bv (decide (Ju < 0))) y4 (aT.split (fun yN => ?_) (fun yN => ?_)))))))))
       ·refine aK yN y5 (aK yN y5 (aK yN y5 (Oj Q Q Q Q (Oj Q Q Q Q (Oj Q Q Q Q (Oj Q Q Q Q (Oj Q Q Q Q (aK yN y5 (dD (Bv true) yN aU (On (aV Q z5 J)))))))))))
       ·refine dB (Iv jG) yN y5 (fB LT.eql yN iT (dB (Bv (jG == 2)) yN y5 (aT.split (fun qw => ?_) (fun qw => ?_))))
        ·refine dB (Cc (xF aC w)) qw y5 (dB (Iv s9) qw y5 (aS fun sN Kt => (bg (LT.bU (enc:=aC) Q dG Kt dQ) Q Q (gH qw Q Q) Q (aW (LT.dJ Q ak) Q (gH qw Q Q) Q (fB LT.gtr qw iT (bg (LT.nY (v:=(Bv (decide (0 < sN)))) Q qw) Q Q (gH yN Q Q) Q (dA (Bv (decide (0 < sN))) yN y5 (On (aV Q z5 J)))))))))
        ·refine aK qw y5 (aK qw y5 (aK qw y5 (aK qw y5 (aK qw y5 (bg (LT.oG (v:=(Bv false)) Q qw) Q y2 (gH yN Q Q) Q (dA (Bv false) yN y5 (On (aV Q z5 J))))))))
      ·refine aK yM y5 (aK yM y5 (aK yM y5 (aK yM y5 (aK yM y5 (dA (Bv false) yM aU (aH (Bv false) y4 (mv (Iv jG) Q Q (gS Q Q) Q (bg (LT.eql Q) Q y2 (gS Q Q) Q (mv (Bv (jG == 2)) Q Q (gS Q Q) Q (aT.split (fun yO => ?_) (fun yO => ?_)))))))))))
       ·refine dB (Cc (xF aC w)) yO y5 (dB (Iv s9) yO y5 (aS fun qZ Zt => (bg (LT.bU (enc:=aC) Q dG Zt dQ) Q Q (gH yO Q Q) Q (aW (LT.dJ Q ak) Q (gH yO Q Q) Q (fB LT.gtr yO iT (bg (LT.nY (v:=(Bv (decide (0 < qZ)))) Q yO) Q Q (gS Q Q) Q (dA (Bv (decide (0 < qZ))) Q y5 (On (aV Q z5 J)))))))))
       ·refine aK yO y5 (aK yO y5 (aK yO y5 (aK yO y5 (aK yO y5 (bg (LT.oG (v:=(Bv false)) Q yO) Q y2 (gS Q Q) Q (dA (Bv false) Q y5 (On (aV Q z5 J))))))))
     ·refine aB.cond Q (fun Y4 => ?_) (fun Y4 => ?_)
      ·refine Ws (Wr ?_)
       refine aJ (Bv false) aZ (On (aB.ret ⟨Q,kz z1 J ⟨au.sc,J⟩ J⟩))
      ·refine aB.skip (aB.blk (Wr ?_))
       refine af LT.add aU (aH (Iv (aA (s9 + 1))) y4 (On (aV Q z4 J)))
    ·refine eu y2 J J
   ·refine Ws (Wr ?_)
    refine aJ (Bv true) aZ (On (bT z1 J ⟨au.sc,J⟩ J))
theorem UC (tV:bI) (w:(List Int)):FT Tryz.prog (xH tV w) 34 [.agg (eP tV),.c (xF aC w)] [] (fun (t:Bool) => [.c (bC t)]) (fun (t:Bool) => []) []:=by
 refine FT.of [] Tryz.func34 Tryz.ntmps34 Q y2 ?_
 intro w0 U0 R0 g0
 unfold xH
 refine Ws (Wr ?_)
 refine gy 21 (.agg (eP tV)) dP y5 (aJ (Bv false) aZ (On (Ws (Ws (Wr ?_)))))
 refine bV (bQ (eP tV) Q gZ eF dP) Q Q Q Q (aH (Cc (xF aC w)) y4 (aS fun r1 hr1 => (iD [.agg (eP tV),.c (xF aC w)] (aA8 tV w r1 hr1) YG (Gh y5) y5 z3 (aW (LT.not Q) Q Q Q (On (aB.cond Q (fun hc2 => ?_) (fun hc2 => ?_)))))))
 ·refine Ws (Wr ?_)
  refine aJ (Bv false) aZ (On (bT z1 J ⟨au.sc,J⟩ J))
 ·refine aB.skip (Ws (Ws (Wr ?_)))
  refine fC (xF aC tV.aN) jy fP bK (aW (LT.fG Q dO) Q Q Q (aH (Iv 0) aZ (On (aB.block ?_))))
  refine aB.lD (id:=0) (Ll tV w) (fun s3 => ([(1,Cc (xF aC w)),(12,Cc (xF aC tV.aN)),(13,Iv (tV.aN.length:Int)),(14,Iv s3)],[])) (fun b20 => ([],[])) (ja Tryz.prog Tryz.f34.results.toList [] [] (fun (t:Bool) => [.c (bC t)]) (fun (t:Bool) => [])) ?_ (aY.of z4 J) Q (fun b20 _ => ?_) lK
  ·intro s3
   unfold Ll
   refine Ws (Wr ?_)
   refine af LT.lss y5 (On (Ws ?_))
   refine aB.cond Q (fun hc21 => ?_) (fun hc21 => ?_)
   ·refine aB.skip (Ws (aB.block (Ws (Wr ?_))))
    refine aH (Iv s3) y4 (aS fun oJ Ie => (bg (LT.bU (enc:=aC) Q dG Ie dQ) Q Q Q Q (aW (LT.dJ Q ak) Q Q Q (aJ (Iv s3) y4 (aJ (Iv oJ) y4 (On (Ws ?_)))))))
    refine aB.eX (fun j25 => ([(1,Cc (xF aC w)),(12,Cc (xF aC tV.aN)),(13,Iv (tV.aN.length:Int)),(14,Iv s3),(27,Bv j25)],[])) ?_ (fun j25 _ => ?_)
    ·refine Wr (aH (Iv oJ) y4 (af LT.neq aU (aH (Bv (oJ != 0)) y4 (aT.split (fun yK => ?_) (fun yK => ?_)))))
     ·refine dB (Cc (xF aC w)) yK y5 (dB (Iv s3) yK y5 (aS fun x27 hx27 => (bg (LT.bU (enc:=aC) Q dG hx27 dQ) Q Q (gH yK Q Q) Q (aW (LT.dJ Q ak) Q (gH yK Q Q) Q (fB LT.eql yK iT (dD (Bv (x27 == 0)) yK y5 (On (aV Q z5 J))))))))
     ·refine aK yK y5 (aK yK y5 (aK yK y5 (aK yK y5 (aK yK y5 (dA (Bv false) yK aU (On (aV Q z5 J)))))))
    ·refine aB.cond Q (fun hc28 => ?_) (fun hc28 => ?_)
     ·refine Ws (Wr ?_)
      refine aJ (Bv false) aZ (On (aB.ret ⟨Q,kz z1 J ⟨au.sc,J⟩ J⟩))
     ·refine aB.skip (aB.blk (Wr ?_))
      refine af LT.add aU (aH (Iv (aA (s3 + 1))) y4 (On (aV Q z4 J)))
   ·refine eu y2 J J
  ·refine Ws (Wr ?_)
   refine aJ (Bv true) aZ (On (bT z1 J ⟨au.sc,J⟩ J))
theorem aPA (A7:((List Int) → Int → (List (List Int)) → bI → Option ((List Int) × Bool × (List (List Int)) × bI))) (hrec:∀ (w:(List Int)) (i:Int) (gV:(List (List Int))) (nD:bI),∀ t,A7 w i gV nD = some t → Fw.Fn Tryz.prog 100 [.c (lo 0 w.length),.c (iC i),.c (.pl 1 0),.c (.pl 2 0),.c (.pl 3 0)] [(0,pR 3 aC w),(1,.row 87 [[xT (bG true) gV]]),(2,.row 48 [iK nD]),(3,.row 89 [[.fn 100 [1,2,3]]])] (vZ [.c (lo 0 t.1.length),.c (bC t.2.1)]) [(0,pR 3 aC t.1),(1,.row 87 [[xT (bG true) t.2.2.1]]),(2,.row 48 [iK t.2.2.2]),(3,.row 89 [[.fn 100 [1,2,3]]])] [0,1,2,3] [0]) (w:(List Int)) (i:Int) (gV:(List (List Int))) (nD:bI):FT Tryz.prog (V8 A7 w i gV nD) 100 [.c (lo 0 w.length),.c (iC i),.c (.pl 1 0),.c (.pl 2 0),.c (.pl 3 0)] [(0,pR 3 aC w),(1,.row 87 [[xT (bG true) gV]]),(2,.row 48 [iK nD]),(3,.row 89 [[.fn 100 [1,2,3]]])] (fun (t:((List Int) × Bool × (List (List Int)) × bI)) => [.c (lo 0 t.1.length),.c (bC t.2.1)]) (fun (t:((List Int) × Bool × (List (List Int)) × bI)) => [(0,pR 3 aC t.1),(1,.row 87 [[xT (bG true) t.2.2.1]]),(2,.row 48 [iK t.2.2.2]),(3,.row 89 [[.fn 100 [1,2,3]]])]) [0]:=by
 refine FT.of [1,2,3] Tryz.func100 Tryz.ntmps100 Q y2 ?_
 intro w0 U0 R0 g0
 unfold V8
 refine Ws (Wr ?_)
 refine aJ (Cc (sC aX)) aZ (aJ (Bv false) aZ (On (Ws (Ws (Wr ?_)))))
 refine aH (Iv i) y4 (bV (qx (xT (bG true) gV) Q UQ) Q Q Q Q (aW (LT.fG Q jR) Q Q Q (af LT.eql y5 (On (aB.cond Q (fun hc1 => ?_) (fun hc1 => ?_))))))
 ·refine Ws (Wr ?_)
  refine aH (Cc (lo 0 w.length)) y4 (bV (bQ (iK nD) Q gZ eF dP) Q Q Q Q (aH (Cc (lo 0 w.length)) y4 (aS fun r2 hr2 => (aT.pure (cF [.agg (iK nD),.c (lo 0 w.length)] [(0,pR 3 aC w)] (UC nD w r2 hr2) PO (.cons (.agg (.cons (.same Q) (.cons (.weak (.same Q) (QW.fO xM (fun h => by cases h) _)) (.cons (.weak (.same Q) (QW.fO kW (fun h => by cases h) _)) (.cons (.weak (.same Q) (QW.fO pz (fun h => by cases h) _)) .nil))))) (.cons (.c (.eU Q Q)) .nil)) J y3) z3 z1 Q Q (aJ (Cc (lo 0 w.length)) y4 (aJ (Bv r2) y4 (On (en [(7,Cc (lo 0 w.length)),(8,Bv r2)] [(0,pR 3 aC w),(1,.row 87 [[xT (bG true) gV]]),(2,.row 48 [iK nD]),(3,.row 89 [[.fn 100 [1,2,3]]])] z2 z4 (bT z2 z4 ⟨J,au.sc,J⟩ ⟨cZ.fA gQ,cZ.nP ⟨iY Am,J⟩,cZ.nP ⟨au.sc,iY lF,iY pq,iY gQ,J⟩,cZ.nP ⟨J,J⟩,J⟩)))))))))
 ·refine aB.skip (Ws (Ws (Wr ?_)))
  refine aJ (Iv (-2)) aZ (On (aB.block ?_))
  refine aB.lD (id:=0) (aAF w i A7) (fun s3 => ([(0,Cc (lo 0 w.length)),(1,Iv i),(2,Cc (.pl 1 0)),(4,Cc (.pl 3 0)),(9,Iv s3.1)],[(0,pR 3 aC w),(1,.row 87 [[xT (bG true) s3.2.1]]),(2,.row 48 [[iC s3.2.2.1,xT aP s3.2.2.2.1,xT aO s3.2.2.2.2.1,xT aC s3.2.2.2.2.2]]),(3,.row 89 [[.fn 100 [1,2,3]]])])) (fun jJ => ([],[(1,.row 87 [[xT (bG true) jJ.1]]),(2,.row 48 [[iC jJ.2.1,xT aP jJ.2.2.1,xT aO jJ.2.2.2.1,xT aC jJ.2.2.2.2]]),(3,.row 89 [[.fn 100 [1,2,3]]])])) (ja Tryz.prog Tryz.f100.results.toList [(0,pR 3 aC w),(1,.row 87 [[xT (bG true) gV]]),(2,.row 48 [iK nD]),(3,.row 89 [[.fn 100 [1,2,3]]])] [0] (fun (t:((List Int) × Bool × (List (List Int)) × bI)) => [.c (lo 0 t.1.length),.c (bC t.2.1)]) (fun (t:((List Int) × Bool × (List (List Int)) × bI)) => [(0,pR 3 aC t.1),(1,.row 87 [[xT (bG true) t.2.2.1]]),(2,.row 48 [iK t.2.2.2]),(3,.row 89 [[.fn 100 [1,2,3]]])])) ?_ (aY.of z5 z4) Q (fun jJ _ => ?_) lK
  ·intro s3
   unfold aAF
   refine Ws (Ws (Wr ?_))
   refine aH (Iv s3.1) y4 (af LT.leq aU (On (aB.cond Q (fun P6 => ?_) (fun P6 => ?_))))
   ·refine aB.skip (Ws (aB.block (Ws (Wr ?_))))
    refine aH (Cc (lo 0 w.length)) y4 (aS fun vY aKr => (aT.step (cF [.c (lo 0 w.length)] [(0,pR 3 aC w)] (Fw.Fn.ren [(0,23)] (Xg w vY aKr) Q) Uf (.cons (.c (.eU Q Q)) .nil) J y3) z2 z1 Q Q (aJ (Cc (lo 23 vY.length)) y4 (On (Ws (Ws (Wr ?_)))))))
    refine aH (Cc (lo 23 vY.length)) y4 (aW (LT.lC Q dO) Q Q Q (aH (Iv 0) aZ (On (aB.block ?_))))
    refine aB.jM (id:=2) (aAG i s3 vY) (fun kX => ([(0,Cc (lo 0 w.length)),(1,Iv i),(2,Cc (.pl 1 0)),(4,Cc (.pl 3 0)),(9,Iv s3.1),(10,Cc (lo 23 kX.2.length)),(29,Iv (vY.length:Int)),(30,Iv kX.1)],[(0,pR 3 aC w),(1,.row 87 [[xT (bG true) s3.2.1]]),(2,.row 48 [[iC s3.2.2.1,xT aP s3.2.2.2.1,xT aO s3.2.2.2.2.1,xT aC s3.2.2.2.2.2]]),(3,.row 89 [[.fn 100 [1,2,3]]]),(23,pR 3 aC kX.2)])) (fun kF => ([(0,Cc (lo 0 w.length)),(1,Iv i),(2,Cc (.pl 1 0)),(4,Cc (.pl 3 0)),(9,Iv kF.1),(10,Cc (lo 23 kF.2.2.2.2.2.2.length))],[(0,pR 3 aC w),(1,.row 87 [[xT (bG true) kF.2.1]]),(2,.row 48 [[iC kF.2.2.1,xT aP kF.2.2.2.1,xT aO kF.2.2.2.2.1,xT aC kF.2.2.2.2.2.1]]),(3,.row 89 [[.fn 100 [1,2,3]]]),(23,pR 3 aC kF.2.2.2.2.2.2)])) ?_ (aY.of z8 z5) Q (fun kF _ => ?_)
    ·intro kX
     unfold aAG
     refine Ws (Wr ?_)
     refine af LT.lss y5 (On (Ws ?_))
     refine aB.cond Q (fun Yz => ?_) (fun Yz => ?_)
     ·refine aB.skip (Ws (aB.block (Ws (Wr ?_))))
      refine aH (Iv kX.1) y4 (aJ (Iv kX.1) y4 (On (aB.draw mixed ?_)))
      refine ay (Cc (lo 23 kX.2.length)) y4 (ay (Iv kX.1) y4 (ay (Cc (lo 23 kX.2.length)) y4 (ay (Iv kX.1) y4 (aQ.bind fun xZ Ii => (mF (LT.jH Q Q dG Ii) Q Q Q Q Q (fM (ni 0 Q ak Ii) Q Q Q Q (ay (Iv s3.1) y4 (fM (qx (xT (bG true) s3.2.1) Q UQ) Q Q Q Q (ay (Iv i) y4 (aQ.bind fun Eg Zn => (bZ (LT.bU (enc:=(bG true)) Q jw Zn uU) Q Q Q Q ?_)))))))))))
      refine ax (LT.dJ Q fP) Q Q Q (ay (Iv kX.1) y4 (aQ.bind fun x54 Ae => (bZ (LT.bU (enc:=aC) Q dG Ae dQ) Q Q Q Q (ax (LT.dJ Q ak) Q Q Q (dV LT.mul y5 (dV LT.add y5 (aQ.bind fun x55 Ij => (mF (LT.jH Q Q dG Ij) Q Q Q Q Q (lQ (qI 0 (.c (iC (aA (xZ + (aA (s3.1 * x54)))))) (aA (xZ + (aA (s3.1 * x54)))) Q Q pX dQ Ij) Q Q Q Q Q (dm (aB.blk ?_)))))))))))
      refine en [(0,Cc (lo 0 w.length)),(1,Iv i),(2,Cc (.pl 1 0)),(4,Cc (.pl 3 0)),(9,Iv s3.1),(10,Cc (lo 23 kX.2.length)),(29,Iv (vY.length:Int)),(30,Iv kX.1)] [(0,pR 3 aC w),(1,.row 87 [[xT (bG true) s3.2.1]]),(2,.row 48 [[iC s3.2.2.1,xT aP s3.2.2.2.1,xT aO s3.2.2.2.2.1,xT aC s3.2.2.2.2.2]]),(3,.row 89 [[.fn 100 [1,2,3]]]),(23,pR 3 aC (kX.2.set kX.1.toNat (aA (xZ + (aA (s3.1 * x54))))))] z8 z5 (Wr (af LT.add aU (aH (Iv (aA (kX.1 + 1))) y4 (On (aB.nil ⟨Q,aY.of ⟨Q,Q,Q,Q,Q,congrArg (fun l1 => (some (AV.s (.c (lo 23 l1))):Option AV)) (show kX.2.length = (kX.2.set kX.1.toNat (aA (xZ + (aA (s3.1 * x54))))).length by simp only [List.length_set]),Q,Q,J⟩ z5⟩)))))
     ·refine eu y2 z6 z5
    ·refine Ws (Wr ?_)
     refine bV (qx (.fn 100 [1,2,3]) Q aBh) Q Q Q Q (aH (Cc (lo 23 kF.2.2.2.2.2.2.length)) y4 (aH (Iv i) y4 (af LT.add aU (aS fun jl aKx => (aT.step (LT.Ud (P:=Tryz.prog) (f:=100) (xs:=[.c (lo 23 kF.2.2.2.2.2.2.length),.c (iC (aA (i + 1)))]) (sh:=[]) [1,2,3] [.c (lo 23 kF.2.2.2.2.2.2.length),.c (iC (aA (i + 1)))] (show Fw.Fn Tryz.prog 100 [.c (lo 23 kF.2.2.2.2.2.2.length),.c (iC (aA (i + 1))),.c (.pl 1 0),.c (.pl 2 0),.c (.pl 3 0)] [(23,pR 3 aC kF.2.2.2.2.2.2),(1,.row 87 [[xT (bG true) kF.2.1]]),(2,.row 48 [[iC kF.2.2.1,xT aP kF.2.2.2.1,xT aO kF.2.2.2.2.1,xT aC kF.2.2.2.2.2.1]]),(3,.row 89 [[.fn 100 [1,2,3]]])] (.eH [.c (lo 23 jl.1.length),.c (bC jl.2.1)]) [(23,pR 3 aC jl.1),(1,.row 87 [[xT (bG true) jl.2.2.1]]),(2,.row 48 [iK jl.2.2.2]),(3,.row 89 [[.fn 100 [1,2,3]]])] [23,1,2,3] [23] from Fw.Fn.ren [(0,23),(1,1),(2,2),(3,3)] (hrec kF.2.2.2.2.2.2 (aA (i + 1)) kF.2.1 (bI.mk (ah.mk (bW.mk kF.2.2.1 kF.2.2.2.1) kF.2.2.2.2.1) kF.2.2.2.2.2.1) jl aKx) Q) Q aB3 (.cons (.c (.same Q)) (.cons (.c (.same Q)) .nil)) Q Q z4) z3 z4 Q Q (aH (.eH [.c (lo 23 jl.1.length),.c (bC jl.2.1)]) y4 (jQ (.c (lo 23 jl.1.length)) y5 (jQ (.c (bC jl.2.1)) y5 (aJ (Cc (lo 23 jl.1.length)) y4 (aJ (Bv jl.2.1) y4 (On (Ws ?_))))))))))))
     refine en [(0,Cc (lo 0 w.length)),(1,Iv i),(2,Cc (.pl 1 0)),(4,Cc (.pl 3 0)),(9,Iv kF.1),(12,Cc (lo 23 jl.1.length)),(13,Bv jl.2.1)] [(0,pR 3 aC w),(1,.row 87 [[xT (bG true) jl.2.2.1]]),(2,.row 48 [iK jl.2.2.2]),(3,.row 89 [[.fn 100 [1,2,3]]]),(23,pR 3 aC jl.1)] z7 z5 (Wr (aH (Bv jl.2.1) y4 (On (aB.cond Q (fun Y2 => ?_) (fun Y2 => ?_)))))
     ·refine Ws (Wr ?_)
      refine aH (Cc (lo 23 jl.1.length)) y4 (aJ (Cc (lo 23 jl.1.length)) y4 (aJ (Bv true) aZ (On (en [(7,Cc (lo 23 jl.1.length)),(8,Bv true)] [(1,.row 87 [[xT (bG true) jl.2.2.1]]),(2,.row 48 [iK jl.2.2.2]),(3,.row 89 [[.fn 100 [1,2,3]]]),(23,pR 3 aC jl.1)] z2 z4 (aB.ent (aY.mv 23 0 Q Q) (en [(7,Cc (lo 0 jl.1.length)),(8,Bv true)] [(0,pR 3 aC jl.1),(1,.row 87 [[xT (bG true) jl.2.2.1]]),(2,.row 48 [iK jl.2.2.2]),(3,.row 89 [[.fn 100 [1,2,3]]])] z2 z4 (aB.ret ⟨Q,kz z2 z4 ⟨J,au.sc,J⟩ ⟨cZ.fA gQ,cZ.nP ⟨iY Am,J⟩,cZ.nP ⟨au.sc,iY lF,iY pq,iY gQ,J⟩,cZ.nP ⟨J,J⟩,J⟩⟩)))))))
     ·refine aB.skip (aB.blk (Wr ?_))
      refine aH (Iv kF.1) y4 (af LT.add aU (aJ (Iv (aA (kF.1 + 1))) y4 (On (aV Q z5 z4))))
   ·refine eu y2 J z3
  ·refine Ws (Wr ?_)
   refine jo (gu 25 aC [] [] dO iL y7) Q Q (aJ (Cc (lo 25 (([]:List Int).length))) y4 (aJ (Bv false) aZ (On (en [(7,Cc (lo 25 (([]:List Int).length))),(8,Bv false)] [(1,.row 87 [[xT (bG true) jJ.1]]),(2,.row 48 [[iC jJ.2.1,xT aP jJ.2.2.1,xT aO jJ.2.2.2.1,xT aC jJ.2.2.2.2]]),(3,.row 89 [[.fn 100 [1,2,3]]]),(25,pR 3 aC ([]:List Int))] z2 z4 (aB.ent (aY.mv 25 0 Q Q) (en [(7,Cc (lo 0 (([]:List Int).length))),(8,Bv false)] [(0,pR 3 aC ([]:List Int)),(1,.row 87 [[xT (bG true) jJ.1]]),(2,.row 48 [[iC jJ.2.1,xT aP jJ.2.2.1,xT aO jJ.2.2.2.1,xT aC jJ.2.2.2.2]]),(3,.row 89 [[.fn 100 [1,2,3]]])] z2 z4 (bT z2 z4 ⟨J,au.sc,J⟩ ⟨cZ.fA gQ,cZ.nP ⟨iY Am,J⟩,cZ.nP ⟨au.sc,iY lF,iY pq,iY gQ,J⟩,cZ.nP ⟨J,J⟩,J⟩)))))))
theorem aF4:∀ (n:Nat) (w:(List Int)) (i:Int) (gV:(List (List Int))) (nD:bI),∀ t,LW n w i gV nD = some t → Fw.Fn Tryz.prog 100 [.c (lo 0 w.length),.c (iC i),.c (.pl 1 0),.c (.pl 2 0),.c (.pl 3 0)] [(0,pR 3 aC w),(1,.row 87 [[xT (bG true) gV]]),(2,.row 48 [iK nD]),(3,.row 89 [[.fn 100 [1,2,3]]])] (vZ [.c (lo 0 t.1.length),.c (bC t.2.1)]) [(0,pR 3 aC t.1),(1,.row 87 [[xT (bG true) t.2.2.1]]),(2,.row 48 [iK t.2.2.2]),(3,.row 89 [[.fn 100 [1,2,3]]])] [0,1,2,3] [0]
  | 0,_,_,_,_ => fun _ h => by cases h
  | n + 1,w,i,gV,nD => aPA (LW n) (aF4 n) w i gV nD
theorem aPB (tV:bI):FT Tryz.prog (LX tV) 30 [.agg (iK tV)] [] (fun (t:((List Int) × Bool)) => [.c (lo 0 t.1.length),.c (bC t.2)]) (fun (t:((List Int) × Bool)) => [(0,pR 3 aC t.1)]) [0]:=by
 refine FT.xK [] Tryz.func30 Tryz.ntmps30 Q y2 ?_
 intro w0 U0 R0 g0 hU
 unfold LX
 refine Ws (Wr ?_)
 refine gy 21 (.agg (iK tV)) dP y5 (aJ (Cc (sC aX)) aZ (aJ (Bv false) aZ (On (Ws (Ws (Wr ?_))))))
 refine bV (bQ (iK tV) Q gZ eF dP) Q Q Q Q (aS fun r1 hr1 => (iD [.agg (iK tV)] (Oz tV r1 hr1) KE (.cons (.agg (.cons (.same Q) (.cons (.weak (.same Q) (QW.fO xM (fun h => by cases h) _)) (.cons (.weak (.same Q) (QW.fO kW (fun h => by cases h) _)) (.cons (.weak (.same Q) (QW.fO pz (fun h => by cases h) _)) .nil))))) .nil) y5 z2 (aW (LT.not Q) Q Q Q (On (aB.cond Q (fun hc2 => ?_) (fun hc2 => ?_))))))
 ·refine Ws (Wr ?_)
  refine jo (gu 23 aC [] [] dO iL y7) Q Q (aJ (Cc (lo 23 (([]:List Int).length))) y4 (aJ (Bv false) aZ (On (en [(2,Cc (lo 23 (([]:List Int).length))),(3,Bv false)] [(23,pR 3 aC ([]:List Int))] z2 z1 (aB.ent (aY.mv 23 0 Q Q) (en [(2,Cc (lo 0 (([]:List Int).length))),(3,Bv false)] [(0,pR 3 aC ([]:List Int))] z2 z1 (bT z2 z1 ⟨J,au.sc,J⟩ ⟨cZ.fA gQ,J⟩)))))))
 ·refine aB.skip (Ws (Wr ?_))
  refine aW (LT.dR Q mM) Q Q Q (bV (bQ (Uc tV.aG) Q gY fF dS) Q Q Q Q (aS fun r3 hr3 => (aT.step (dK [.agg (Uc tV.aG)] (Fw.Fn.ren [(0,25),(1,26)] (aPL tV.aG r3 hr3) Q) aH6 (.cons (.agg (.cons (.same Q) (.cons (.weak (.same Q) (QW.fO xM (fun h => by cases h) _)) (.cons (.weak (.same Q) (QW.fO kW (fun h => by cases h) _)) .nil)))) .nil) J y3) z2 J Q Q (aT.ent (aY.aIu (enc:=aC) (Dn:=(bG true)) 14 25 26 hU Q (fun _ => Q) Q Q Q Q) (iF 27 [sC aX] aOZ y6 (dZ (ve (.c (xT (bG true) r3)) [xT (bG true) r3] Q Q aDm aFa) Q Q Q Q Q (On (Ws ?_))))))))
  refine en [(1,Cc (.pl 21 0)),(4,Cc (.pl 27 0))] [(21,.row 48 [iK tV]),(27,.row 87 [[xT (bG true) r3]])] z2 z2 (Wr (bV (qx (xT (bG true) r3) Q UQ) Q Q Q Q (bV (qx (xT (bG true) r3) Q UQ) Q Q Q Q (aW (LT.fG Q jR) Q Q Q (af LT.min aU (aS fun v4 hv4 => (bg (LT.Xa (enc:=(bG true)) (xB:=none) (xA:=(some (.tmp 18,(if 3 < (r3.length:Int) then 3 else (r3.length:Int))))) (l:=0) (h:=(if 3 < (r3.length:Int) then 3 else (r3.length:Int)).toNat) Q Q Q jR EH (fun _ => by rw [uU]; rfl) (.inr y2) (.inl ⟨_,_,Q,Int.le_trans (Gi hv4).1 (Gi hv4).2.1,Q⟩) (XT hv4) (XR hv4)) Q Q Q Q (dZ (ve (.c (xT (bG true) ((r3.take ((if 3 < (r3.length:Int) then 3 else (r3.length:Int)).toNat)).drop 0))) [xT (bG true) ((r3.take ((if 3 < (r3.length:Int) then 3 else (r3.length:Int)).toNat)).drop 0)] Q Q aDm aFa) Q Q Q Q Q (On (Ws (Wr ?_)))))))))))
  refine iF 28 [sC .nilFunc] aOa y6 (On (Ws ?_))
  refine en [(1,Cc (.pl 21 0)),(4,Cc (.pl 27 0)),(5,Cc (.pl 28 0))] [(21,.row 48 [iK tV]),(27,.row 87 [[xT (bG true) ((r3.take ((if 3 < (r3.length:Int) then 3 else (r3.length:Int)).toNat)).drop 0)]]),(28,.row 89 [[sC .nilFunc]])] z3 z3 (Wr (aT.pure (LT.aEH [27,21,28] Q Q) z3 J Q Q (dZ (ve (.c (.fn 100 [27,21,28])) [.fn 100 [27,21,28]] Q Q aMY aOT) Q Q Q Q Q (On (Ws (aB.draw mixed ?_))))))
  refine fM (qx (.fn 100 [27,21,28]) Q aBh) Q Q Q Q (dh (xT aC tV.aN) jy fP bK (ax (LT.fG Q dO) Q Q Q (aQ.bind fun u5 Ze => (aBY (LT.Ji (n:=29) (enc:=aC) (zc:=[iC 0]) (0:Int) Q dO iL Q Q Q (by decide) (by decide) (FV Ze) Q) Q Q Q Q (aQ.bind fun r6 EC => (aQ.step (LT.Ud (P:=Tryz.prog) (f:=100) (xs:=[.c (lo 29 ((List.replicate (tV.aN.length:Int).toNat (0:Int)).length)),.c (iC 0)]) (sh:=[]) [27,21,28] [.c (lo 29 ((List.replicate (tV.aN.length:Int).toNat (0:Int)).length)),.c (iC 0)] (show Fw.Fn Tryz.prog 100 [.c (lo 29 ((List.replicate (tV.aN.length:Int).toNat (0:Int)).length)),.c (iC 0),.c (.pl 27 0),.c (.pl 21 0),.c (.pl 28 0)] [(29,pR 3 aC (List.replicate (tV.aN.length:Int).toNat (0:Int))),(27,.row 87 [[xT (bG true) ((r3.take ((if 3 < (r3.length:Int) then 3 else (r3.length:Int)).toNat)).drop 0)]]),(21,.row 48 [iK tV]),(28,.row 89 [[.fn 100 [27,21,28]]])] (.eH [.c (lo 29 r6.1.length),.c (bC r6.2.1)]) [(29,pR 3 aC r6.1),(27,.row 87 [[xT (bG true) r6.2.2.1]]),(21,.row 48 [iK r6.2.2.2]),(28,.row 89 [[.fn 100 [27,21,28]]])] [29,27,21,28] [29] from Fw.Fn.ren [(0,29),(1,27),(2,21),(3,28)] (aF4 64 (List.replicate (tV.aN.length:Int).toNat (0:Int)) 0 ((r3.take ((if 3 < (r3.length:Int) then 3 else (r3.length:Int)).toNat)).drop 0) tV r6 EC) Q) Q aB3 (.cons (.c (.same Q)) (.cons (.c (.same Q)) .nil)) Q Q z4) ⟨Q,Q,y2,J⟩ z4 Q Q (ay (.eH [.c (lo 29 r6.1.length),.c (bC r6.2.1)]) y4 (KH (.c (lo 29 r6.1.length)) y5 (KH (.c (bC r6.2.1)) y5 (ax (LT.assign (v:=(Cc (lo 29 r6.1.length))) Q) Q Q Q ?_))))))))))
  refine ax (LT.assign (v:=(Bv r6.2.1)) Q) Q Q Q (dm (Ws (Ws ?_)))
  refine en [(6,Cc (lo 29 r6.1.length)),(7,Bv r6.2.1)] [(29,pR 3 aC r6.1)] z2 z1 (Wr (aH (Bv r6.2.1) y4 (aW (LT.not Q) Q Q Q (On (aB.cond Q (fun hc7 => ?_) (fun hc7 => ?_))))))
  ·refine Ws (Wr ?_)
   refine jo (gu 31 aC [] [] dO iL y7) Q Q (aJ (Cc (lo 31 (([]:List Int).length))) y4 (aJ (Bv false) aZ (On (en [(2,Cc (lo 31 (([]:List Int).length))),(3,Bv false)] [(31,pR 3 aC ([]:List Int))] z2 z1 (aB.ent (aY.mv 31 0 Q Q) (en [(2,Cc (lo 0 (([]:List Int).length))),(3,Bv false)] [(0,pR 3 aC ([]:List Int))] z2 z1 (bT z2 z1 ⟨J,au.sc,J⟩ ⟨cZ.fA gQ,J⟩)))))))
  ·refine aB.skip (Ws (Wr ?_))
   refine aH (Cc (lo 29 r6.1.length)) y4 (aJ (Cc (lo 29 r6.1.length)) y4 (aJ (Bv true) aZ (On (en [(2,Cc (lo 29 r6.1.length)),(3,Bv true)] [(29,pR 3 aC r6.1)] z2 z1 (aB.ent (aY.mv 29 0 Q Q) (en [(2,Cc (lo 0 r6.1.length)),(3,Bv true)] [(0,pR 3 aC r6.1)] z2 z1 (bT z2 z1 ⟨J,au.sc,J⟩ ⟨cZ.fA gQ,J⟩)))))))
theorem Gt (f:ah):FT Tryz.prog (zQ f) 60 [.agg (aj f)] [] (fun (t:Bool) => [.c (bC t)]) (fun (t:Bool) => []) []:=by
 refine FT.of [] Tryz.func60 Tryz.ntmps60 Q y2 ?_
 intro w0 U0 R0 g0
 unfold zQ
 refine Ws (Wr ?_)
 refine gy 21 (.agg (aj f)) dS y5 (aJ (Bv false) aZ (On (Ws (Ws ?_))))
 refine aB.eX (fun j5 => ([(1,Cc (.pl 21 0)),(31,Bv j5)],[(21,.row 46 [aj f])])) ?_ (fun j5 _ => ?_)
 ·refine Wr (aW (LT.dR Q jW) Q Q Q (bV (bQ (eY f.Graph) Q jq gW fD) Q Q Q Q (aS fun r6 EC => (iD [.agg (eY f.Graph)] (aBF f.Graph r6 EC) X9 (Gf y2) y5 z2 (aW (LT.not Q) Q Q Q (aH (Bv (!r6)) y4 (aT.split (fun hb7 => ?_) (fun hb7 => ?_))))))))
  ·refine aK hb7 y5 (aK hb7 y5 (aK hb7 y5 (aK hb7 y5 (dD (Bv true) hb7 aU (aH (Bv true) y4 (bF y5 (bF y5 (bF y5 (bF y5 (bF y5 (bF y5 ?_)))))))))))
   refine bF y5 (dD (Bv true) Q aU (aH (Bv true) y4 (bF y5 (bF y5 (bF y5 (bF y5 (bF y5 (dD (Bv true) Q aU (On (aV Q z2 z1))))))))))
  ·refine aW (LT.dR Q jW) Q (gH hb7 Q Q) Q (jd (iC f.Graph.aI) lT ak hb7 iJ (fB LT.gtr hb7 iT (dA (Bv (decide (6 < f.Graph.aI))) hb7 y5 (aH (Bv (decide (6 < f.Graph.aI))) y4 (aT.split (fun hb8 => ?_) (fun hb8 => ?_))))))
   ·refine aK hb8 y5 (aK hb8 y5 (aK hb8 y5 (aK hb8 y5 (aK hb8 y5 (aK hb8 y5 (aK hb8 y5 (dD (Bv true) hb8 aU (aH (Bv true) y4 (bF y5 (bF y5 (bF y5 ?_)))))))))))
    refine bF y5 (bF y5 (dD (Bv true) Q aU (On (aV Q z2 z1))))
   ·refine jd (xF aO f.Places) iR iV hb8 iJ (aW (LT.fG Q uN) Q (gH hb8 Q Q) Q (aW (LT.dR Q jW) Q (gH hb8 Q Q) Q (jd (iC f.Graph.aI) lT ak hb8 iJ (fB LT.neq hb8 y6 (dA (Bv ((f.Places.length:Int) != f.Graph.aI)) hb8 y5 (aH (Bv ((f.Places.length:Int) != f.Graph.aI)) y4 (aT.split (fun mY => ?_) (fun mY => ?_))))))))
    ·refine aK mY y5 (aK mY y5 (aK mY y5 (aK mY y5 (aK mY y5 (dD (Bv true) mY aU (On (aV Q z2 z1)))))))
    ·refine aW (LT.dR Q jW) Q (gH mY Q Q) Q (jd (xF aP f.Graph.aF) iO jC mY iJ (aW (LT.fG Q jE) Q (gH mY Q Q) Q (fB LT.gtr mY iT (dA (Bv (decide (15 < (f.Graph.aF.length:Int)))) mY y5 (On (aV Q z2 z1))))))
 ·refine aB.cond Q (fun Pv => ?_) (fun Pv => ?_)
  ·refine Ws (Wr ?_)
   refine aJ (Bv false) aZ (On (bT z1 J ⟨au.sc,J⟩ J))
  ·refine aB.skip (Ws (Ws (Wr ?_)))
   refine aJ (Iv 0) aZ (On (aB.block ?_))
   refine aB.lD (id:=0) (NJ f) (fun s11 => ([(1,Cc (.pl 21 0)),(3,Iv s11)],[(21,.row 46 [aj f])])) (fun b38 => ([(1,Cc (.pl 21 0))],[(21,.row 46 [aj f])])) (ja Tryz.prog Tryz.f60.results.toList [] [] (fun (t:Bool) => [.c (bC t)]) (fun (t:Bool) => [])) ?_ (aY.of z2 z1) Q (fun b38 _ => ?_) lK
   ·intro s11
    unfold NJ
    refine Ws (Ws (Wr ?_))
    refine aH (Iv s11) y4 (fC (xF aO f.Places) iR iV bK (aW (LT.fG Q uN) Q Q Q (af LT.lss y5 (On (aB.cond Q (fun hc39 => ?_) (fun hc39 => ?_))))))
    ·refine aB.skip (Ws (aB.block (Ws ?_)))
     refine aB.eX (fun j45 => ([(1,Cc (.pl 21 0)),(3,Iv s11),(56,Bv j45)],[(21,.row 46 [aj f])])) ?_ (fun j45 _ => ?_)
     ·refine Wr (fC (xF aO f.Places) iR iV bK (aH (Iv s11) y4 (aS fun fH FK => (bg (LT.bU (enc:=aO) Q jU FK fE) Q Q Q Q (aW (LT.oW Q qC) Q Q Q (aW (LT.dJ Q ak) Q Q Q (aS fun CY hr47 => (iD [.c (iC fH.X),.c (iC 0),.c (iC 4)] (DF fH.X 0 4 CY hr47) BN (vK y3) y5 ⟨Q,Q,y2,y2,J⟩ (aW (LT.not Q) Q Q Q (aH (Bv (!CY)) y4 ?_))))))))))
      refine aT.split (fun hb48 => ?_) (fun hb48 => ?_)
      ·refine aK hb48 y5 (aK hb48 y5 (aK hb48 y5 (aK hb48 y5 (aK hb48 y5 (aK hb48 y5 (aK hb48 y5 (aK hb48 y5 (dD (Bv true) hb48 aU (On (aV Q z3 z1))))))))))
      ·refine jd (xF aO f.Places) iR iV hb48 iJ (dB (Iv s11) hb48 y5 (aS fun Ef Ih => (bg (LT.bU (enc:=aO) Q jU Ih fE) Q Q (gH hb48 Q Q) Q (aW (LT.oW Q qQ) Q (gH hb48 Q Q) Q (aW (LT.dJ Q ak) Q (gH hb48 Q Q) Q (aS fun Wv aKw => (aT.pure (dK [.c (iC Ef.Y),.c (iC 0),.c (iC 4)] (DF Ef.Y 0 4 Wv aKw) BN (vK y3) J y3) ⟨Q,Q,y2,y2,J⟩ J (gH hb48 Q Q) Q (aW (LT.not Q) Q (gH hb48 Q Q) Q (dA (Bv (!Wv)) hb48 y5 (On ?_))))))))))
       refine aV Q z3 z1
     ·refine aB.cond Q (fun Yz => ?_) (fun Yz => ?_)
      ·refine Ws (Wr ?_)
       refine aJ (Bv false) aZ (On (aB.ret ⟨Q,kz z1 J ⟨au.sc,J⟩ J⟩))
      ·refine aB.skip (aB.blk (Wr ?_))
       refine aH (Iv s11) y4 (af LT.add aU (aJ (Iv (aA (s11 + 1))) y4 (On (aV Q z2 z1))))
    ·refine eu y2 z1 z1
   ·refine Ws (Ws (Wr ?_))
    refine aJ (Iv 0) aZ (On (aB.block ?_))
    refine aB.lD (id:=2) (NK f) (fun vJ => ([(1,Cc (.pl 21 0)),(4,Iv vJ)],[(21,.row 46 [aj f])])) (fun b81 => ([],[])) (ja Tryz.prog Tryz.f60.results.toList [] [] (fun (t:Bool) => [.c (bC t)]) (fun (t:Bool) => [])) ?_ (aY.of z2 z1) Q (fun b81 _ => ?_) lK
    ·intro vJ
     unfold NK
     refine Ws (Ws (Wr ?_))
     refine aH (Iv vJ) y4 (aW (LT.dR Q jW) Q Q Q (fC (xF aP f.Graph.aF) iO jC bK (aW (LT.fG Q jE) Q Q Q (af LT.lss y5 (On (aB.cond Q (fun aJu => ?_) (fun aJu => ?_)))))))
     ·refine aB.skip (Ws (aB.block (Ws (Wr ?_))))
      refine aW (LT.dR Q jW) Q Q Q (fC (xF aP f.Graph.aF) iO jC bK (aH (Iv vJ) y4 (aS fun x83 Zw => (bg (LT.bU (enc:=aP) Q qP Zw fU) Q Q Q Q (aW (kJ Q lX je fU) Q Q Q (iF 25 [iC 0,iC 0] jh y6 (dZ (stA [iC x83.A,iC x83.B] Q Q je fU) Q Q Q Q Q (On (Ws ?_)))))))))
      refine aB.eX (fun j89 => ([(1,Cc (.pl 21 0)),(4,Iv vJ),(98,Bv j89)],[(21,.row 46 [aj f])])) ?_ (fun j89 _ => ?_)
      ·refine en [(1,Cc (.pl 21 0)),(4,Iv vJ),(5,Cc (.pl 25 0))] [(21,.row 46 [aj f]),(25,.row 40 [[iC x83.A,iC x83.B]])] z3 z2 (aB.draw mixed (dh (xF aO f.Places) iR iV bK (dh (iC x83.A) nS ak bK (aQ.bind fun x90 hx90 => (bZ (LT.bU (enc:=aO) Q jU hx90 fE) Q Q Q Q (ax (kJ Q o6 lJ fE) Q Q Q (dh (xF aO f.Places) iR iV bK (ax (LT.dR Q oZ) Q Q Q ?_))))))))
       refine fM (qx (iC x83.B) Q ak) Q Q Q Q (aQ.bind fun x91 hx91 => (bZ (LT.bU (enc:=aO) Q jU hx91 fE) Q Q Q Q (ax (kJ Q o6 lJ fE) Q Q Q (bZ (LT.Hw [x90.X,x90.Y] [x91.X,x91.Y] Q FQ Q Q) Q Q Q Q (ay (Bv (jT [x90.X,x90.Y] [x91.X,x91.Y])) y4 (aQ.split (fun yR => ?_) (fun yR => ?_)))))))
       ·refine bJ yR y3 (bJ yR y3 (bJ yR y3 (bM y3 (bM y3 (bM y3 (bM y3 (bM y3 (bM y3 (bM y3 (bM y3 (bM y3 ?_)))))))))))
        refine bJ yR y3 (mP (Bv true) yR aU (dm (aV Q z3 z1)))
       ·refine kN (Iv vJ) yR y5 (oV LT.gtr yR iT (kN (Bv (decide (0 < vJ))) yR y5 (aQ.split (fun tC => ?_) (fun tC => ?_))))
        ·refine ax (LT.dR Q jW) Q (gH tC Q Q) Q (ql (xF aP f.Graph.aF) iO jC tC iJ (kN (Iv vJ) tC y5 (oV LT.sub tC iT (aQ.bind fun Ei aMV => (bZ (LT.bU (enc:=aP) Q qP aMV fU) Q Q (gH tC Q Q) Q (ax (kJ Q lX je fU) Q (gH tC Q Q) Q (fM (bQ [iC x83.A,iC x83.B] Q lX je fU) Q Q (gH tC Q Q) Q (bZ (LT.Hw [Ei.A,Ei.B] [x83.A,x83.B] Q Vq Q Q) Q Q (gH tC Q Q) Q (bZ (LT.nY (v:=(Bv (jT [Ei.A,Ei.B] [x83.A,x83.B]))) Q tC) Q Q (gH yR Q Q) Q (lm (Bv (jT [Ei.A,Ei.B] [x83.A,x83.B])) yR y5 ?_))))))))))
         refine dm (aV Q z3 z1)
        ·refine bJ tC y3 (bJ tC y3 (bJ tC y3 (bJ tC y3 (bJ tC y3 (bJ tC y3 (bJ tC y3 (bJ tC y3 (bJ tC y3 (bZ (LT.oG (v:=(Bv false)) Q tC) Q y2 (gH yR Q Q) Q (lm (Bv false) yR y5 (dm ?_)))))))))))
         refine aV Q z3 z1
      ·refine aB.cond Q (fun hc95 => ?_) (fun hc95 => ?_)
       ·refine Ws (Wr ?_)
        refine aJ (Bv false) aZ (On (aB.ret ⟨Q,kz z1 J ⟨au.sc,J⟩ J⟩))
       ·refine aB.skip (aB.blk (Wr ?_))
        refine aH (Iv vJ) y4 (af LT.add aU (aJ (Iv (aA (vJ + 1))) y4 (On (aV Q z2 z1))))
     ·refine eu y2 J J
    ·refine Ws (Wr ?_)
     refine aJ (Bv true) aZ (On (bT z1 J ⟨au.sc,J⟩ J))
theorem Gu (tV:bI):FT Tryz.prog (zS tV) 43 [.agg (eP tV)] [] (fun (t:Bool) => [.c (bC t)]) (fun (t:Bool) => []) []:=by
 refine FT.of [] Tryz.func43 Tryz.ntmps43 Q y2 ?_
 intro w0 U0 R0 g0
 unfold zS
 refine Ws (Wr ?_)
 refine gy 21 (.agg (eP tV)) dP y5 (aJ (Bv false) aZ (On (Ws (Ws (Wr ?_)))))
 refine aJ (Iv 0) aZ (On (aB.block ?_))
 refine aB.lD (id:=0) (Rw tV) (fun s1 => ([(1,Cc (.pl 21 0)),(3,Iv s1)],[(21,.row 48 [eP tV])])) (fun b10 => ([(1,Cc (.pl 21 0))],[(21,.row 48 [eP tV])])) (ja Tryz.prog Tryz.f43.results.toList [] [] (fun (t:Bool) => [.c (bC t)]) (fun (t:Bool) => [])) ?_ (aY.of z2 z1) Q (fun b10 _ => ?_) lK
 ·intro s1
  unfold Rw
  refine Ws (Ws (Wr ?_))
  refine aH (Iv s1) y4 (fC (xF aC tV.aN) jy fP bK (aW (LT.fG Q dO) Q Q Q (af LT.lss y5 (On (aB.cond Q (fun sG => ?_) (fun sG => ?_))))))
  ·refine aB.skip (Ws (aB.block (Ws (Wr ?_))))
   refine fC (xF aC tV.aN) jy fP bK (aH (Iv s1) y4 (aS fun x12 wO => (bg (LT.bU (enc:=aC) Q dG wO dQ) Q Q Q Q (aW (LT.dJ Q ak) Q Q Q (aS fun r13 uF => (iD [.c (iC x12),.c (iC 0),.c (iC 2)] (DF x12 0 2 r13 uF) BN (vK y3) y5 ⟨Q,Q,y2,y2,J⟩ (aW (LT.not Q) Q Q Q (On (aB.cond Q (fun yS => ?_) (fun yS => ?_))))))))))
   ·refine Ws (en [] [] J J (Wr (aJ (Bv false) aZ (On (aB.ret ⟨Q,kz z1 J ⟨au.sc,J⟩ J⟩)))))
   ·refine aB.skip (aB.blk ?_)
    refine en [(1,Cc (.pl 21 0)),(3,Iv s1)] [(21,.row 48 [eP tV])] z2 z1 (Wr (aH (Iv s1) y4 (af LT.add aU (aJ (Iv (aA (s1 + 1))) y4 (On (aV Q z2 z1))))))
  ·refine eu y2 z1 z1
 ·refine Ws (aB.eX (fun j17 => ([(2,Bv j17)],[])) ?_ (fun j17 _ => ?_))
  ·refine Wr (aW (LT.dR Q mM) Q Q Q (bV (bQ (aj tV.aG) Q gY fF dS) Q Q Q Q (aS fun jk Aa => (iD [.agg (aj tV.aG)] (Gt tV.aG jk Aa) E8 (mV y3) y5 z2 (aH (Bv jk) y4 (aT.split (fun iH => ?_) (fun iH => ?_)))))))
   ·refine jd (xF aC tV.aN) jy fP iH iJ (aW (LT.fG Q dO) Q (gH iH Q Q) Q (aW (LT.dR Q mM) Q (gH iH Q Q) Q (aW (LT.dR Q jW) Q (gH iH Q Q) Q (jd (xF aP tV.aG.Graph.aF) iO jC iH iJ (aW (LT.fG Q jE) Q (gH iH Q Q) Q (fB LT.eql iH y6 (dD (Bv ((tV.aN.length:Int) == (tV.aG.Graph.aF.length:Int))) iH y5 (aJ (Bv ((tV.aN.length:Int) == (tV.aG.Graph.aF.length:Int))) y4 (On ?_)))))))))
    refine aV Q z1 J
   ·refine aK iH y5 (aK iH y5 (aK iH y5 (aK iH y5 (aK iH y5 (aK iH y5 (aK iH y5 (aK iH y5 (aK iH y5 (dA (Bv false) iH aU (aJ (Bv false) y4 (On ?_)))))))))))
    refine aV Q z1 J
  ·refine bT z1 J ⟨au.sc,J⟩ J
theorem aBJ (f:ah):FT Tryz.prog (JB f) 155 [.agg (aj f)] [] (fun (t:(List (List Int))) => [.c (lo 0 t.length)]) (fun (t:(List (List Int))) => [(0,pR 28 (bG true) t)]) [0]:=by
 refine FT.xK [] Tryz.func155 Tryz.ntmps155 Q y2 ?_
 intro w0 U0 R0 g0 hU
 unfold JB
 refine Ws (Wr ?_)
 refine gy 21 (.agg (aj f)) dS y5 (aJ (Cc (sC aX)) aZ (On (Ws (Wr ?_))))
 refine jo (gu 22 (bG true) [] ([]:List (List Int)) jR oH y7) Q Q (aJ (Cc (lo 22 (([]:List (List Int)).length))) y4 (On (Ws (Ws (Wr ?_)))))
 refine aJ (Iv 0) aZ (On (aB.block ?_))
 refine aB.jM (id:=0) (F5 f) (fun s1 => ([(1,Cc (.pl 21 0)),(3,Cc (lo 22 s1.2.length)),(4,Iv s1.1)],[(21,.row 46 [aj f]),(22,pR 28 (bG true) s1.2)])) (fun jJ => ([(3,Cc (lo 22 jJ.length))],[(22,pR 28 (bG true) jJ)])) ?_ (aY.of z3 z2) Q (fun jJ _ => ?_)
 ·intro s1
  unfold F5
  refine Ws (Ws ?_)
  refine aB.eX (fun j39 => ([(1,Cc (.pl 21 0)),(3,Cc (lo 22 s1.2.length)),(4,Iv s1.1),(19,Bv j39)],[(21,.row 46 [aj f]),(22,pR 28 (bG true) s1.2)])) ?_ (fun j39 _ => ?_)
  ·refine Wr (aH (Iv s1.1) y4 (aW (LT.dR Q jW) Q Q Q (fC (xF aP f.Graph.aF) iO jC bK (aW (LT.fG Q jE) Q Q Q (af LT.lss y5 (aH (Bv (decide (s1.1 < (f.Graph.aF.length:Int)))) y4 (aT.split (fun uo => ?_) (fun uo => ?_))))))))
   ·refine bV (bQ (aj f) Q gY fF dS) Q Q (gH uo Q Q) Q (aS fun CX ZU => (aT.pure (dK [.agg (aj f)] (Gt f CX ZU) E8 (mV y3) J y3) z2 J (gH uo Q Q) Q (dD (Bv CX) uo y5 (On (aV Q z4 z2)))))
   ·refine aK uo y5 (aK uo y5 (dA (Bv false) uo aU (On (aV Q z4 z2))))
  ·refine aB.cond Q (fun Yx => ?_) (fun Yx => ?_)
   ·refine aB.skip (Ws (aB.block (Ws (Wr ?_))))
    refine aW (LT.dR Q jW) Q Q Q (fC (xF aP f.Graph.aF) iO jC bK (aH (Iv s1.1) y4 (aS fun x43 Ko => (bg (LT.bU (enc:=aP) Q qP Ko fU) Q Q Q Q (aW (kJ Q lX je fU) Q Q Q (iF 24 [iC 0,iC 0] jh y6 (dZ (stA [iC x43.A,iC x43.B] Q Q je fU) Q Q Q Q Q (On (Ws ?_)))))))))
    refine en [(1,Cc (.pl 21 0)),(3,Cc (lo 22 s1.2.length)),(4,Iv s1.1),(5,Cc (.pl 24 0))] [(21,.row 46 [aj f]),(22,pR 28 (bG true) s1.2),(24,.row 40 [[iC x43.A,iC x43.B]])] z4 z3 (Wr (aW (LT.dR Q jW) Q Q Q (fC (iC f.Graph.aI) lT ak bK (af LT.mul lV (aS fun u44 QJ => (G7 (LT.Ji (n:=25) (enc:=aC) (zc:=[iC 0]) (0:Int) Q dO iL Q Q Q (by decide) (by decide) (FV QJ) Q) Q Q Q Q (aJ (Cc (lo 25 ((List.replicate (aA (2 * f.Graph.aI)).toNat (0:Int)).length))) y4 (On (Ws (aB.draw mixed ?_))))))))))
    refine dh (xF aO f.Places) iR iV bK (dh (iC x43.A) nS ak bK (aQ.bind fun kL FI => (bZ (LT.bU (enc:=aO) Q jU FI fE) Q Q Q Q (ax (LT.oW Q qC) Q Q Q (ax (LT.dJ Q ak) Q Q Q (dh (xF aO f.Places) iR iV bK (dh (iC x43.B) oZ ak bK ?_)))))))
    refine aQ.bind fun fH FK => (bZ (LT.bU (enc:=aO) Q jU FK fE) Q Q Q Q (ax (LT.oW Q qC) Q Q Q (ax (LT.dJ Q ak) Q Q Q (dV LT.sub y5 (ax (LT.assign (v:=(Iv (aA (kL.X - fH.X)))) Q) Q Q Q (dm (Ws (en [(1,Cc (.pl 21 0)),(3,Cc (lo 22 s1.2.length)),(4,Iv s1.1),(5,Cc (.pl 24 0)),(6,Cc (lo 25 ((List.replicate (aA (2 * f.Graph.aI)).toNat (0:Int)).length))),(7,Iv (aA (kL.X - fH.X)))] [(21,.row 46 [aj f]),(22,pR 28 (bG true) s1.2),(24,.row 40 [[iC x43.A,iC x43.B]]),(25,pR 3 aC (List.replicate (aA (2 * f.Graph.aI)).toNat (0:Int)))] z6 z4 (aB.draw mixed (dh (xF aO f.Places) iR iV bK ?_))))))))))
    refine dh (iC x43.A) nS ak bK (aQ.bind fun oQ aMG => (bZ (LT.bU (enc:=aO) Q jU aMG fE) Q Q Q Q (ax (LT.oW Q qQ) Q Q Q (ax (LT.dJ Q ak) Q Q Q (dh (xF aO f.Places) iR iV bK (dh (iC x43.B) oZ ak bK (aQ.bind fun jG Ig => (bZ (LT.bU (enc:=aO) Q jU Ig fE) Q Q Q Q ?_))))))))
    refine ax (LT.oW Q qQ) Q Q Q (ax (LT.dJ Q ak) Q Q Q (dV LT.sub y5 (ax (LT.assign (v:=(Iv (aA (oQ.Y - jG.Y)))) Q) Q Q Q (dm (Ws (en [(1,Cc (.pl 21 0)),(3,Cc (lo 22 s1.2.length)),(4,Iv s1.1),(5,Cc (.pl 24 0)),(6,Cc (lo 25 ((List.replicate (aA (2 * f.Graph.aI)).toNat (0:Int)).length))),(7,Iv (aA (kL.X - fH.X))),(8,Iv (aA (oQ.Y - jG.Y)))] [(21,.row 46 [aj f]),(22,pR 28 (bG true) s1.2),(24,.row 40 [[iC x43.A,iC x43.B]]),(25,pR 3 aC (List.replicate (aA (2 * f.Graph.aI)).toNat (0:Int)))] z7 z4 (Wr (aH (Cc (lo 25 ((List.replicate (aA (2 * f.Graph.aI)).toNat (0:Int)).length))) y4 (fC (iC x43.A) nS ak bK (af LT.mul lV ?_))))))))))
    refine aH (Iv (aA (kL.X - fH.X))) y4 (aS fun Ef Ih => (jf (LT.jH Q Q dG Ih) Q Q Q Q Q (dZ (qI 0 (.c (iC (aA (kL.X - fH.X)))) (aA (kL.X - fH.X)) Q Q pX dQ Ih) Q Q Q Q Q (On (Ws (Wr ?_))))))
    refine aH (Cc (lo 25 ((List.replicate (aA (2 * f.Graph.aI)).toNat (0:Int)).length))) y4 (fC (iC x43.A) nS ak bK (af LT.mul lV (af LT.add aU (aH (Iv (aA (oQ.Y - jG.Y))) y4 (aS fun qJ Kq => (jf (LT.jH (show (List.replicate (aA (2 * f.Graph.aI)).toNat (0:Int)).length = ((List.replicate (aA (2 * f.Graph.aI)).toNat (0:Int)).set (aA (2 * x43.A)).toNat (aA (kL.X - fH.X))).length by simp only [List.length_set]) Q dG Kq) Q Q Q Q Q (dZ (qI 0 (.c (iC (aA (oQ.Y - jG.Y)))) (aA (oQ.Y - jG.Y)) Q Q pX dQ Kq) Q Q Q Q Q (On (Ws ?_)))))))))
    refine en [(1,Cc (.pl 21 0)),(3,Cc (lo 22 s1.2.length)),(4,Iv s1.1),(5,Cc (.pl 24 0)),(6,Cc (lo 25 ((List.replicate (aA (2 * f.Graph.aI)).toNat (0:Int)).length))),(7,Iv (aA (kL.X - fH.X))),(8,Iv (aA (oQ.Y - jG.Y)))] [(21,.row 46 [aj f]),(22,pR 28 (bG true) s1.2),(24,.row 40 [[iC x43.A,iC x43.B]]),(25,pR 3 aC (((List.replicate (aA (2 * f.Graph.aI)).toNat (0:Int)).set (aA (2 * x43.A)).toNat (aA (kL.X - fH.X))).set (aA ((aA (2 * x43.A)) + 1)).toNat (aA (oQ.Y - jG.Y))))] z7 z4 (Wr (aH (Cc (lo 25 ((List.replicate (aA (2 * f.Graph.aI)).toNat (0:Int)).length))) y4 (fC (iC x43.B) oZ ak bK (af LT.mul lV (aH (Iv (aA (kL.X - fH.X))) y4 (aW (LT.neg Q) Q Q Q (aS fun O5 Vh => (jf (LT.jH (show (List.replicate (aA (2 * f.Graph.aI)).toNat (0:Int)).length = (((List.replicate (aA (2 * f.Graph.aI)).toNat (0:Int)).set (aA (2 * x43.A)).toNat (aA (kL.X - fH.X))).set (aA ((aA (2 * x43.A)) + 1)).toNat (aA (oQ.Y - jG.Y))).length by simp only [List.length_set]) Q dG Vh) Q Q Q Q Q (dZ (qI 0 (.c (iC (aA (-(aA (kL.X - fH.X)))))) (aA (-(aA (kL.X - fH.X)))) Q Q pX dQ Vh) Q Q Q Q Q (On (Ws (Wr ?_))))))))))))
    refine aH (Cc (lo 25 ((List.replicate (aA (2 * f.Graph.aI)).toNat (0:Int)).length))) y4 (fC (iC x43.B) oZ ak bK (af LT.mul lV (af LT.add aU (aH (Iv (aA (oQ.Y - jG.Y))) y4 (aW (LT.neg Q) Q Q Q (aS fun xZ Ii => (jf (LT.jH (show (List.replicate (aA (2 * f.Graph.aI)).toNat (0:Int)).length = ((((List.replicate (aA (2 * f.Graph.aI)).toNat (0:Int)).set (aA (2 * x43.A)).toNat (aA (kL.X - fH.X))).set (aA ((aA (2 * x43.A)) + 1)).toNat (aA (oQ.Y - jG.Y))).set (aA (2 * x43.B)).toNat (aA (-(aA (kL.X - fH.X))))).length by simp only [List.length_set]) Q dG Ii) Q Q Q Q Q (dZ (qI 0 (.c (iC (aA (-(aA (oQ.Y - jG.Y)))))) (aA (-(aA (oQ.Y - jG.Y)))) Q Q pX dQ Ii) Q Q Q Q Q (On (en [(1,Cc (.pl 21 0)),(3,Cc (lo 22 s1.2.length)),(4,Iv s1.1),(6,Cc (lo 25 ((List.replicate (aA (2 * f.Graph.aI)).toNat (0:Int)).length)))] [(21,.row 46 [aj f]),(22,pR 28 (bG true) s1.2),(25,pR 3 aC (((((List.replicate (aA (2 * f.Graph.aI)).toNat (0:Int)).set (aA (2 * x43.A)).toNat (aA (kL.X - fH.X))).set (aA ((aA (2 * x43.A)) + 1)).toNat (aA (oQ.Y - jG.Y))).set (aA (2 * x43.B)).toNat (aA (-(aA (kL.X - fH.X))))).set (aA ((aA (2 * x43.B)) + 1)).toNat (aA (-(aA (oQ.Y - jG.Y))))))] z4 z3 ?_))))))))))
    refine Wr (aH (Cc (lo 22 s1.2.length)) y4 (aH (Cc (lo 25 ((List.replicate (aA (2 * f.Graph.aI)).toNat (0:Int)).length))) y4 (aT.ent (aY.H6 (enc:=aC) 92 25 hU Q (show (List.replicate (aA (2 * f.Graph.aI)).toNat (0:Int)).length = (((((List.replicate (aA (2 * f.Graph.aI)).toNat (0:Int)).set (aA (2 * x43.A)).toNat (aA (kL.X - fH.X))).set (aA ((aA (2 * x43.A)) + 1)).toNat (aA (oQ.Y - jG.Y))).set (aA (2 * x43.B)).toNat (aA (-(aA (kL.X - fH.X))))).set (aA ((aA (2 * x43.B)) + 1)).toNat (aA (-(aA (oQ.Y - jG.Y))))).length by simp only [List.length_set]) Q Q) (pV (gu 26 (bG true) [(0,.tmp 92,.c (xT aC (((((List.replicate (aA (2 * f.Graph.aI)).toNat (0:Int)).set (aA (2 * x43.A)).toNat (aA (kL.X - fH.X))).set (aA ((aA (2 * x43.A)) + 1)).toNat (aA (oQ.Y - jG.Y))).set (aA (2 * x43.B)).toNat (aA (-(aA (kL.X - fH.X))))).set (aA ((aA (2 * x43.B)) + 1)).toNat (aA (-(aA (oQ.Y - jG.Y)))))))] [((((List.replicate (aA (2 * f.Graph.aI)).toNat (0:Int)).set (aA (2 * x43.A)).toNat (aA (kL.X - fH.X))).set (aA ((aA (2 * x43.A)) + 1)).toNat (aA (oQ.Y - jG.Y))).set (aA (2 * x43.B)).toNat (aA (-(aA (kL.X - fH.X))))).set (aA ((aA (2 * x43.B)) + 1)).toNat (aA (-(aA (oQ.Y - jG.Y))))] jR oH y7) Q Q Q (aS fun u53 aLg => (qM (LT.pK (enc:=(bG true)) Q Q Q jR oH Q (by decide) (by decide) (fun _ => Q) (kU aLg)) Q Q Q Q Q Q (aJ (Cc (lo 22 ((s1.2 ++ [((((List.replicate (aA (2 * f.Graph.aI)).toNat (0:Int)).set (aA (2 * x43.A)).toNat (aA (kL.X - fH.X))).set (aA ((aA (2 * x43.A)) + 1)).toNat (aA (oQ.Y - jG.Y))).set (aA (2 * x43.B)).toNat (aA (-(aA (kL.X - fH.X))))).set (aA ((aA (2 * x43.B)) + 1)).toNat (aA (-(aA (oQ.Y - jG.Y))))]).length))) y4 (On (aB.blk (Wr ?_))))))))))
    refine aH (Iv s1.1) y4 (af LT.add aU (aJ (Iv (aA (s1.1 + 1))) y4 (On (aV Q z3 z2))))
   ·refine eu y2 z1 z1
 ·refine Ws (Wr ?_)
  refine aH (Cc (lo 22 jJ.length)) y4 (aJ (Cc (lo 22 jJ.length)) y4 (On (en [(2,Cc (lo 22 jJ.length))] [(22,pR 28 (bG true) jJ)] z1 z1 (aB.ent (aY.mv 22 0 Q Q) (en [(2,Cc (lo 0 jJ.length))] [(0,pR 28 (bG true) jJ)] z1 z1 (bT z1 z1 ⟨J,J⟩ ⟨cZ.fA Am,J⟩))))))
theorem aPt (f:ah):FT Tryz.prog (SG f) 154 [.agg (aj f)] [] (fun (t:(List (List Int))) => [.c (lo 0 t.length)]) (fun (t:(List (List Int))) => [(0,.bf 28 1 (bP t)),(1,.pool 3 (rowsOf aC t))]) [0,1]:=by
 refine FT.of [] Tryz.func154 Tryz.ntmps154 Q y2 ?_
 intro w0 U0 R0 g0
 unfold SG
 refine Ws (Wr ?_)
 refine gy 21 (.agg (aj f)) dS y5 (aJ (Cc (sC aX)) aZ (On (Ws (Wr ?_))))
 refine bV (bQ (aj f) Q gY fF dS) Q Q Q Q (aS fun r1 hr1 => (aT.step (dK [.agg (aj f)] (Fw.Fn.ren [(0,23)] (aBJ f r1 hr1) Q) YB (mV y3) J y3) z2 J Q Q (aJ (Cc (lo 23 r1.length)) y4 (On (Ws (Wr ?_))))))
 refine jo (LT.buildSlice (n:=24) (els:=[]) [] Q Q jR oH Q Q Q Q (by decide) Q Q) Q Q (aJ (Cc (lo 24 0)) y4 (On (aB.ent (aY.Oa 25 3 Q) (aB.ent (aY.bf (n:=24) (p:=25) (lens:=bP ([]:List (List Int))) (List.append_nil _) Q) (Ws (Ws (Wr ?_)))))))
 refine aJ (Iv 0) aZ (On (aB.block ?_))
 refine aB.jM (id:=0) (F7 f) (fun s2 => ([(1,Cc (.pl 21 0)),(3,Cc (lo 23 s2.2.1.length)),(4,Cc (lo 24 s2.2.2.length)),(5,Iv s2.1)],[(21,.row 46 [aj f]),(23,pR 28 (bG true) s2.2.1),(24,.bf 28 25 (bP s2.2.2)),(25,.pool 3 (rowsOf aC s2.2.2))])) (fun wo => ([(4,Cc (lo 24 wo.length))],[(24,.bf 28 25 (bP wo)),(25,.pool 3 (rowsOf aC wo))])) ?_ (aY.of z4 z4) Q (fun wo _ => ?_)
 ·intro s2
  unfold F7
  refine Ws (Ws ?_)
  refine aB.eX (fun j35 => ([(1,Cc (.pl 21 0)),(3,Cc (lo 23 s2.2.1.length)),(4,Cc (lo 24 s2.2.2.length)),(5,Iv s2.1),(21,Bv j35)],[(21,.row 46 [aj f]),(23,pR 28 (bG true) s2.2.1),(24,.bf 28 25 (bP s2.2.2)),(25,.pool 3 (rowsOf aC s2.2.2))])) ?_ (fun j35 _ => ?_)
  ·refine Wr (aH (Iv s2.1) y4 (aW (LT.dR Q jW) Q Q Q (fC (iC f.Graph.aI) lT ak bK (af LT.mul lV (af LT.lss y5 (aH (Bv (decide (s2.1 < (aA (2 * f.Graph.aI))))) y4 (aT.split (fun Dz => ?_) (fun Dz => ?_))))))))
   ·refine dB (Cc (lo 23 s2.2.1.length)) Dz y5 (aW (LT.lC Q jR) Q (gH Dz Q Q) Q (fB LT.gtr Dz iT (dD (Bv (decide (0 < (s2.2.1.length:Int)))) Dz y5 (On (aV Q z5 z4)))))
   ·refine aK Dz y5 (aK Dz y5 (aK Dz y5 (dA (Bv false) Dz aU (On (aV Q z5 z4)))))
  ·refine aB.cond Q (fun P6 => ?_) (fun P6 => ?_)
   ·refine aB.skip (Ws (aB.block (Ws (Wr ?_))))
    refine jo (gu 26 aC [] [] dO iL y7) Q Q (aJ (Cc (lo 26 (([]:List Int).length))) y4 (On (Ws (Ws (Wr ?_)))))
    refine aJ (Iv 0) aZ (On (aB.block ?_))
    refine aB.jM (id:=2) (Nh s2) (fun kR => ([(1,Cc (.pl 21 0)),(3,Cc (lo 23 s2.2.1.length)),(4,Cc (lo 24 s2.2.2.length)),(5,Iv s2.1),(6,Cc (lo 26 kR.2.length)),(7,Iv kR.1)],[(21,.row 46 [aj f]),(23,pR 28 (bG true) s2.2.1),(24,.bf 28 25 (bP s2.2.2)),(25,.pool 3 (rowsOf aC s2.2.2)),(26,pR 3 aC kR.2)])) (fun oM => ([(1,Cc (.pl 21 0)),(3,Cc (lo 23 oM.2.1.length)),(4,Cc (lo 24 oM.2.2.1.length)),(5,Iv oM.1),(6,Cc (lo 26 oM.2.2.2.length))],[(21,.row 46 [aj f]),(23,pR 28 (bG true) oM.2.1),(24,.bf 28 25 (bP oM.2.2.1)),(25,.pool 3 (rowsOf aC oM.2.2.1)),(26,pR 3 aC oM.2.2.2)])) ?_ (aY.of z6 z5) Q (fun oM _ => ?_)
    ·intro kR
     unfold Nh
     refine Ws (Ws (Wr ?_))
     refine aH (Iv kR.1) y4 (aH (Cc (lo 23 s2.2.1.length)) y4 (aW (LT.lC Q jR) Q Q Q (af LT.lss y5 (On (aB.cond Q (fun IW => ?_) (fun IW => ?_))))))
     ·refine aB.skip (Ws (aB.block (Wr ?_)))
      refine aH (Cc (lo 26 kR.2.length)) y4 (aH (Cc (lo 23 s2.2.1.length)) y4 (aH (Iv kR.1) y4 (aS fun Ef Ih => (jf (LT.jH Q Q jw Ih) Q Q Q Q Q (bV (ni 0 Q fP Ih) Q Q Q Q (aH (Iv s2.1) y4 (aS fun qJ Kq => (bg (LT.bU (enc:=aC) Q dG Kq dQ) Q Q Q Q (aW (LT.dJ Q ak) Q Q Q (pV (gu 27 aC [(0,.tmp 38,.c (iC qJ))] ([qJ]:List Int) dO iL y7) Q Q Q (aS fun u51 aLe => ?_)))))))))))
      refine qM (LT.pK (enc:=aC) Q Q Q dO iL Q (by decide) (by decide) (fun _ => Q) (kU aLe)) Q Q Q Q Q Q (aJ (Cc (lo 26 ((kR.2 ++ ([qJ]:List Int)).length))) y4 (On (aB.blk ?_)))
      refine en [(1,Cc (.pl 21 0)),(3,Cc (lo 23 s2.2.1.length)),(4,Cc (lo 24 s2.2.2.length)),(5,Iv s2.1),(6,Cc (lo 26 ((kR.2 ++ ([qJ]:List Int)).length))),(7,Iv kR.1)] [(21,.row 46 [aj f]),(23,pR 28 (bG true) s2.2.1),(24,.bf 28 25 (bP s2.2.2)),(25,.pool 3 (rowsOf aC s2.2.2)),(26,pR 3 aC (kR.2 ++ ([qJ]:List Int)))] z6 z5 (Wr (aH (Iv kR.1) y4 (af LT.add aU (aJ (Iv (aA (kR.1 + 1))) y4 (On (aV Q z6 z5))))))
     ·refine eu y2 z5 z5
    ·refine Wr (aH (Cc (lo 24 oM.2.2.1.length)) y4 (aH (Cc (lo 26 oM.2.2.2.length)) y4 (pV (LT.buildSlice (n:=28) (els:=[[lo 26 oM.2.2.2.length]]) [(0,.tmp 42,.c (lo 26 oM.2.2.2.length))] Q Q jR oH Q Q Q Q (by decide) Q Q) Q Q Q (aS fun u52 aLf => (qM (LT.Xr Q Q Q jR oH Q (by decide) (by decide) Q (kU aLf)) Q Q Q Q Q Q (aJ (Cc (lo 24 (oM.2.2.1.length + 1))) y4 (On (aB.ent (aY.XV (enc:=aC) (n:=24) (m:=26) (p:=25) (rows:=oM.2.2.1) (r:=oM.2.2.2) (rest:=[]) Q Q Q Q Q Q) (aB.ent (aY.bf (n:=24) (p:=25) (lens:=bP (oM.2.2.1 ++ [oM.2.2.2])) (List.append_nil _) Q) (aB.blk (Wr ?_)))))))))))
     refine aH (Iv oM.1) y4 (af LT.add aU (aJ (Iv (aA (oM.1 + 1))) y4 (On (aB.nil ⟨Q,aY.of ⟨Q,Q,congrArg (fun l1 => (some (AV.s (.c (lo 24 l1))):Option AV)) (show (oM.2.2.1.length + 1) = (oM.2.2.1 ++ [oM.2.2.2]).length from V5),Q,J⟩ z4⟩))))
   ·refine eu y2 z1 z2
 ·refine Ws (Wr ?_)
  refine aH (Cc (lo 24 wo.length)) y4 (aJ (Cc (lo 24 wo.length)) y4 (On (en [(2,Cc (lo 24 wo.length))] [(24,.bf 28 25 (bP wo)),(25,.pool 3 (rowsOf aC wo))] z1 z2 (aB.ent (aY.mv 24 0 Q Q) (aB.ent (aY.mv 25 1 Q Q) (en [(2,Cc (lo 0 wo.length))] [(0,.bf 28 1 (bP wo)),(1,.pool 3 (rowsOf aC wo))] z1 z2 (bT z1 z2 ⟨J,J⟩ ⟨J,cZ.Aq gQ _,J⟩)))))))
end Go.Proofs.YtdmlaldifbmkpaaGreat
end
