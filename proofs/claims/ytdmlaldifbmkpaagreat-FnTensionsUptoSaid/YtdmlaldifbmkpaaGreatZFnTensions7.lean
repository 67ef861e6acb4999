/- Parts of a proof that a law of the program holds: what the program computes, and why that is right. -/
import Derived.Test.YtdmlaldifbmkpaaGreatRows
import Derived.ProofKit
import Derived.OpenShut
import Derived.JoinedCond
import Derived.Carry
import Derived.Deep.Slices
import Derived.ChangeSame
import Derived.Test.YtdmlaldifbmkpaaGreatZFnTensions6
set_option linter.unusedVariables false
set_option linter.unusedSimpArgs false
set_option linter.unnecessarySimpa false
set_option maxRecDepth 100000
set_option maxHeartbeats 8000000
section
open Go Go.Fw
namespace Go.Proofs.YtdmlaldifbmkpaaGreat
theorem aPb (code:(List Int)):FT Tryz.prog (RQ code) 37 [.c (xT dI code)] [] (fun (t:(bI × (List Int))) => [.agg [iC t.1.aG.Graph.aI,lo 0 t.1.aG.Graph.aF.length,xT aO t.1.aG.Places,lo 1 t.1.aN.length],.c (lo 2 t.2.length)]) (fun (t:(bI × (List Int))) => [(0,pR 40 aP t.1.aG.Graph.aF),(1,pR 3 aC t.1.aN),(2,pR 3 aC t.2)]) [0,1,2]:=by
 refine FT.of [] Tryz.func37 Tryz.ntmps37 Q y2 ?_
 intro w0 U0 R0 g0
 unfold RQ
 refine Ws (Wr ?_)
 refine iF 21 [iC 0,sC aX,sC aX,sC aX] oI y6 (aJ (Cc (sC aX)) aZ (On (Ws (Wr ?_))))
 refine aH (Cc (xT dI code)) y4 (aS fun r1 hr1 => (aT.step (dK [.c (xT dI code)] (Fw.Fn.ren [(0,23),(1,24),(2,25)] (aGN code r1 hr1) Q) aB9 (l9 Q) J y3) z2 J Q Q (aH (.eH [.agg [iC r1.1.aG.Graph.aI,lo 23 r1.1.aG.Graph.aF.length,xT aO r1.1.aG.Places,lo 24 r1.1.aN.length],.c (lo 25 r1.2.length)]) y4 (jQ (.agg [iC r1.1.aG.Graph.aI,lo 23 r1.1.aG.Graph.aF.length,xT aO r1.1.aG.Places,lo 24 r1.1.aN.length]) y5 (jQ (.c (lo 25 r1.2.length)) y5 (iF 26 [iC 0,sC aX,sC aX,sC aX] oI y6 (dZ (stA [iC r1.1.aG.Graph.aI,lo 23 r1.1.aG.Graph.aF.length,xT aO r1.1.aG.Places,lo 24 r1.1.aN.length] Q Q eF dP) Q Q Q Q Q (aJ (Cc (lo 25 r1.2.length)) y4 (On (Ws ?_))))))))))
 refine en [(2,Cc (.pl 21 0)),(4,Cc (.pl 26 0)),(5,Cc (lo 25 r1.2.length))] [(21,.row 48 [[iC 0,sC aX,sC aX,sC aX]]),(23,pR 40 aP r1.1.aG.Graph.aF),(24,pR 3 aC r1.1.aN),(25,pR 3 aC r1.2),(26,.row 48 [[iC r1.1.aG.Graph.aI,lo 23 r1.1.aG.Graph.aF.length,xT aO r1.1.aG.Places,lo 24 r1.1.aN.length]])] z3 z5 (Wr (bV (bQ [iC r1.1.aG.Graph.aI,lo 23 r1.1.aG.Graph.aF.length,xT aO r1.1.aG.Places,lo 24 r1.1.aN.length] Q gZ eF dP) Q Q Q Q (aH (Cc (lo 25 r1.2.length)) y4 (dZ (stA [iC r1.1.aG.Graph.aI,lo 23 r1.1.aG.Graph.aF.length,xT aO r1.1.aG.Places,lo 24 r1.1.aN.length] Q Q eF dP) Q Q Q Q Q (aJ (Cc (lo 25 r1.2.length)) y4 (On (en [(2,Cc (.pl 21 0)),(3,Cc (lo 25 r1.2.length))] [(21,.row 48 [[iC r1.1.aG.Graph.aI,lo 23 r1.1.aG.Graph.aF.length,xT aO r1.1.aG.Places,lo 24 r1.1.aN.length]]),(23,pR 40 aP r1.1.aG.Graph.aF),(24,pR 3 aC r1.1.aN),(25,pR 3 aC r1.2)] z2 z4 (aB.ent (aY.mv 25 2 Q Q) (aB.ent (aY.mv 23 0 Q Q) (aB.ent (aY.mv 24 1 Q Q) (en [(2,Cc (.pl 21 0)),(3,Cc (lo 2 r1.2.length))] [(0,pR 40 aP r1.1.aG.Graph.aF),(1,pR 3 aC r1.1.aN),(2,pR 3 aC r1.2),(21,.row 48 [[iC r1.1.aG.Graph.aI,lo 0 r1.1.aG.Graph.aF.length,xT aO r1.1.aG.Places,lo 1 r1.1.aN.length]])] z2 z4 ?_)))))))))))
 refine bT ⟨⟨_,_,_,Q,Q,Q,gZ,dP,_,ji eF⟩,Q,J⟩ z3 ⟨⟨au.sc,J,iY pq,J,J⟩,J,J⟩ ⟨cZ.fA lF,cZ.fA gQ,cZ.fA gQ,J⟩
theorem aPN (f:ah):FT Tryz.prog (Q7 f) 114 [.agg (aj f)] [] (fun (t:ah) => [.agg [iC t.Graph.aI,lo 0 t.Graph.aF.length,lo 1 t.Places.length]]) (fun (t:ah) => [(0,pR 40 aP t.Graph.aF),(1,pR 98 aO t.Places)]) [0,1]:=by
 refine FT.of [] Tryz.func114 Tryz.ntmps114 Q y2 ?_
 intro w0 U0 R0 g0
 unfold Q7
 refine Ws (Wr ?_)
 refine gy 21 (.agg (aj f)) dS y5 (iF 22 [iC 0,sC aX,sC aX] xR y6 (On (Ws (aB.draw mixed ?_))))
 refine ax (LT.dR Q jW) Q Q Q (fM (bQ (eY f.Graph) Q jq gW fD) Q Q Q Q (aQ.bind fun r1 hr1 => (aQ.step (dK [.agg (eY f.Graph)] (Fw.Fn.ren [(0,24)] (aPO f.Graph r1 hr1) Q) aH4 (Gf y2) J y3) z2 J Q Q (zB (gu 25 aO [] [] uN tX y7) Q Q (dh (xF aO f.Places) iR iV bK (aQ.bind fun u2 hu2 => (lQ (LT.Cj (enc:=aO) Q  Q uN tX Q (by decide) (by decide) (fun _ => Q) (kU hu2)) Q Q Q Q Q (bZ (LT.build [(0,.tmp 5,.agg [iC r1.aI,lo 24 r1.aF.length]),(1,.tmp 9,.c (lo 25 ((([]:List eG) ++ f.Places).length)))] Q Q OY xR Q Q Q) Q Q Q Q (lQ (stA [iC r1.aI,lo 24 r1.aF.length,lo 25 ((([]:List eG) ++ f.Places).length)] Q Q fF dS) Q Q Q Q Q (dm ?_))))))))))
 refine en [(2,Cc (.pl 22 0))] [(22,.row 46 [[iC r1.aI,lo 24 r1.aF.length,lo 25 ((([]:List eG) ++ f.Places).length)]]),(24,pR 40 aP r1.aF),(25,pR 98 aO (([]:List eG) ++ f.Places))] z1 z3 (aB.ent (aY.mv 24 0 Q Q) (aB.ent (aY.mv 25 1 Q Q) (en [(2,Cc (.pl 22 0))] [(0,pR 40 aP r1.aF),(1,pR 98 aO (([]:List eG) ++ f.Places)),(22,.row 46 [[iC r1.aI,lo 0 r1.aF.length,lo 1 ((([]:List eG) ++ f.Places).length)]])] z1 z3 (bT ⟨⟨_,_,_,Q,Q,Q,gY,dS,_,ji fF⟩,J⟩ z2 ⟨⟨au.sc,J,J,J⟩,J⟩ ⟨cZ.fA lF,cZ.fA pq,J⟩))))
theorem aBC (tV:bI):FT Tryz.prog (Iz tV) 40 [.agg (eP tV)] [] (fun (t:bI) => [.agg [iC t.aG.Graph.aI,lo 0 t.aG.Graph.aF.length,lo 1 t.aG.Places.length,lo 2 t.aN.length]]) (fun (t:bI) => [(0,pR 40 aP t.aG.Graph.aF),(1,pR 98 aO t.aG.Places),(2,pR 3 aC t.aN)]) [0,1,2]:=by
 refine FT.of [] Tryz.func40 Tryz.ntmps40 Q y2 ?_
 intro w0 U0 R0 g0
 unfold Iz
 refine Ws (Wr ?_)
 refine gy 21 (.agg (eP tV)) dP y5 (iF 22 [iC 0,sC aX,sC aX,sC aX] oI y6 (On (Ws (aB.draw mixed ?_))))
 refine ax (LT.dR Q mM) Q Q Q (fM (bQ (aj tV.aG) Q gY fF dS) Q Q Q Q (aQ.bind fun r1 hr1 => (aQ.step (dK [.agg (aj tV.aG)] (Fw.Fn.ren [(0,24),(1,25)] (aPN tV.aG r1 hr1) Q) aHK (mV y3) J y3) z2 J Q Q (dh (xF aC tV.aN) jy fP bK (aQ.bind fun r2 hr2 => (aQ.step (dK [.c (xF aC tV.aN)] (Fw.Fn.ren [(0,27)] (Xg tV.aN r2 hr2) Q) Uf (l9 Q) J y3) z2 J Q Q (bZ (LT.build [(0,.tmp 8,.agg [iC r1.Graph.aI,lo 24 r1.Graph.aF.length,lo 25 r1.Places.length]),(1,.tmp 11,.c (lo 27 r2.length))] Q Q aAS oI Q Q Q) Q Q Q Q (zB (LT.alloc (n:=28) (cells:=[iC 0,sC aX,sC aX,sC aX]) Q oI Q Q Q) Q Q (lQ (stA [iC r1.Graph.aI,lo 24 r1.Graph.aF.length,lo 25 r1.Places.length,lo 27 r2.length] Q Q eF dP) Q Q Q Q Q (dm ?_))))))))))
 refine Ws (Ws ?_)
 refine en [(2,Cc (.pl 22 0)),(3,Cc (.pl 28 0))] [(22,.row 48 [[iC 0,sC aX,sC aX,sC aX]]),(24,pR 40 aP r1.Graph.aF),(25,pR 98 aO r1.Places),(27,pR 3 aC r2),(28,.row 48 [[iC r1.Graph.aI,lo 24 r1.Graph.aF.length,lo 25 r1.Places.length,lo 27 r2.length]])] z2 z5 (Wr (fC (lo 27 r2.length) jy fP bK (aW (LT.lC Q dO) Q Q Q (aH (Iv 0) aZ (On (aB.block ?_))))))
 refine aB.jM (id:=0) (L9 r1 r2) (fun s3 => ([(2,Cc (.pl 22 0)),(3,Cc (.pl 28 0)),(14,Cc (lo 27 s3.2.length)),(15,Iv (r2.length:Int)),(16,Iv s3.1)],[(22,.row 48 [[iC 0,sC aX,sC aX,sC aX]]),(24,pR 40 aP r1.Graph.aF),(25,pR 98 aO r1.Places),(27,pR 3 aC s3.2),(28,.row 48 [[iC r1.Graph.aI,lo 24 r1.Graph.aF.length,lo 25 r1.Places.length,lo 27 s3.2.length]])])) (fun mJ => ([(2,Cc (.pl 22 0)),(3,Cc (.pl 28 0))],[(22,.row 48 [[iC 0,sC aX,sC aX,sC aX]]),(24,pR 40 aP mJ.1),(25,pR 98 aO mJ.2.1),(27,pR 3 aC mJ.2.2.1),(28,.row 48 [[iC mJ.2.2.2,lo 24 mJ.1.length,lo 25 mJ.2.1.length,lo 27 mJ.2.2.1.length]])])) ?_ (aY.of z5 z5) Q (fun mJ _ => ?_)
 ·intro s3
  unfold L9
  refine Ws (Wr ?_)
  refine af LT.lss y5 (On (Ws ?_))
  refine aB.cond Q (fun hc27 => ?_) (fun hc27 => ?_)
  ·refine aB.skip (Ws (aB.block (Ws (Wr ?_))))
   refine aH (Iv s3.1) y4 (aS fun x28 hx28 => (jf (LT.jH Q Q dG hx28) Q Q Q Q Q (bV (ni 0 Q ak hx28) Q Q Q Q (aJ (Iv s3.1) y4 (aJ (Iv x28) y4 (On (Ws (Wr ?_))))))))
   refine aH (Iv x28) y4 (On (aB.block (Ws (Wr ?_))))
   refine af LT.eql aU (aJ (Bv (x28 == 1)) y4 (On (aB.eX (fun j33 => ([(2,Cc (.pl 22 0)),(3,Cc (.pl 28 0)),(14,Cc (lo 27 j33.length)),(15,Iv (r2.length:Int)),(16,Iv s3.1)],[(22,.row 48 [[iC 0,sC aX,sC aX,sC aX]]),(24,pR 40 aP r1.Graph.aF),(25,pR 98 aO r1.Places),(27,pR 3 aC j33),(28,.row 48 [[iC r1.Graph.aI,lo 24 r1.Graph.aF.length,lo 25 r1.Places.length,lo 27 j33.length]])])) ?_ (fun j33 _ => ?_))))
   ·refine aB.cond Q (fun hc34 => ?_) (fun hc34 => ?_)
    ·refine Wr (fC (lo 27 s3.2.length) jy fP bK (aH (Iv s3.1) y4 (aS fun x35 QV => (jf (LT.jH Q Q dG QV) Q Q Q Q Q (dZ (qI 0 (.c (iC 2)) 2 Q Q pX dQ QV) Q y2 Q Q Q (On (aB.nil ⟨Q,aY.of ⟨Q,Q,congrArg (fun l1 => (some (AV.s (.c (lo 27 l1))):Option AV)) (show s3.2.length = (s3.2.set s3.1.toNat 2).length by simp only [List.length_set]),Q,Q,J⟩ ⟨Q,Q,Q,Q,congrArg (fun l1 => (some (Ob.row 48 [[iC r1.Graph.aI,lo 24 r1.Graph.aF.length,lo 25 r1.Places.length,lo 27 l1]]):Option Ob)) (show s3.2.length = (s3.2.set s3.1.toNat 2).length by simp only [List.length_set]),J⟩⟩)))))))
    ·refine Ws (Wr ?_)
     refine af LT.eql aU (aJ (Bv (x28 == 2)) y4 (On (aB.cond Q (fun P5 => ?_) (fun P5 => ?_))))
     ·refine en [(2,Cc (.pl 22 0)),(3,Cc (.pl 28 0)),(4,Iv s3.1),(14,Cc (lo 27 s3.2.length)),(15,Iv (r2.length:Int)),(16,Iv s3.1)] [(22,.row 48 [[iC 0,sC aX,sC aX,sC aX]]),(24,pR 40 aP r1.Graph.aF),(25,pR 98 aO r1.Places),(27,pR 3 aC s3.2),(28,.row 48 [[iC r1.Graph.aI,lo 24 r1.Graph.aF.length,lo 25 r1.Places.length,lo 27 s3.2.length]])] z6 z5 (Wr (fC (lo 27 s3.2.length) jy fP bK (aH (Iv s3.1) y4 (aS fun Gz FH => (jf (LT.jH Q Q dG FH) Q Q Q Q Q (dZ (qI 0 (.c (iC 1)) 1 Q Q pX dQ FH) Q y2 Q Q Q (On (aB.nil ⟨Q,aY.of ⟨Q,Q,congrArg (fun l1 => (some (AV.s (.c (lo 27 l1))):Option AV)) (show s3.2.length = (s3.2.set s3.1.toNat 1).length by simp only [List.length_set]),Q,Q,J⟩ ⟨Q,Q,Q,Q,congrArg (fun l1 => (some (Ob.row 48 [[iC r1.Graph.aI,lo 24 r1.Graph.aF.length,lo 25 r1.Places.length,lo 27 l1]]):Option Ob)) (show s3.2.length = (s3.2.set s3.1.toNat 1).length by simp only [List.length_set]),J⟩⟩))))))))
     ·refine aB.skip (aV Q z5 z5)
   ·refine aB.blk (aB.blk (Wr ?_))
    refine af LT.add aU (aH (Iv (aA (s3.1 + 1))) y4 (On (aV Q z5 z5)))
  ·refine eu y2 z2 z5
 ·refine Ws (Wr ?_)
  refine bV (bQ [iC mJ.2.2.2,lo 24 mJ.1.length,lo 25 mJ.2.1.length,lo 27 mJ.2.2.1.length] Q gZ eF dP) Q Q Q Q (dZ (stA [iC mJ.2.2.2,lo 24 mJ.1.length,lo 25 mJ.2.1.length,lo 27 mJ.2.2.1.length] Q Q eF dP) Q Q Q Q Q (On (en [(2,Cc (.pl 22 0))] [(22,.row 48 [[iC mJ.2.2.2,lo 24 mJ.1.length,lo 25 mJ.2.1.length,lo 27 mJ.2.2.1.length]]),(24,pR 40 aP mJ.1),(25,pR 98 aO mJ.2.1),(27,pR 3 aC mJ.2.2.1)] z1 z4 (aB.ent (aY.mv 24 0 Q Q) (aB.ent (aY.mv 25 1 Q Q) (aB.ent (aY.mv 27 2 Q Q) (en [(2,Cc (.pl 22 0))] [(0,pR 40 aP mJ.1),(1,pR 98 aO mJ.2.1),(2,pR 3 aC mJ.2.2.1),(22,.row 48 [[iC mJ.2.2.2,lo 0 mJ.1.length,lo 1 mJ.2.1.length,lo 2 mJ.2.2.1.length]])] z1 z4 (bT ⟨⟨_,_,_,Q,Q,Q,gZ,dP,_,ji eF⟩,J⟩ z3 ⟨⟨au.sc,J,J,J,J⟩,J⟩ ⟨cZ.fA lF,cZ.fA pq,cZ.fA gQ,J⟩))))))))
theorem aGM (code:(List Int)):FT Tryz.prog (Nq code) 117 [.c (xT dI code)] [] (fun (t:(bI × (List Int))) => [.agg [iC t.1.aG.Graph.aI,lo 0 t.1.aG.Graph.aF.length,xT aO t.1.aG.Places,lo 1 t.1.aN.length],.c (xT aC t.2)]) (fun (t:(bI × (List Int))) => [(0,pR 40 aP t.1.aG.Graph.aF),(1,pR 3 aC t.1.aN)]) [0,1]:=by
 refine FT.xK [] Tryz.func117 Tryz.ntmps117 Q y2 ?_
 intro w0 U0 R0 g0 hU
 unfold Nq
 refine Ws (Wr ?_)
 refine iF 21 [iC 0,sC aX,sC aX,sC aX] oI y6 (aJ (Cc (sC aX)) aZ (On (Ws (Wr ?_))))
 refine aH (Cc (xT dI code)) y4 (aS fun r1 hr1 => (aT.step (dK [.c (xT dI code)] (Fw.Fn.ren [(0,23)] (Xl code r1 hr1) Q) Ui (l9 Q) J y3) z2 J Q Q (aJ (Cc (.pl 23 0)) y4 (On (Ws (Wr ?_))))))
 refine aH (Cc (.pl 23 0)) y4 (aS fun r2 hr2 => (aT.step (dK [.c (.pl 23 0)] (Fw.Fn.ren [(0,23),(1,25),(2,26)] (Xk r1 r2 hr2) Q) Uj (l9 Q) z1 y3) z2 z1 Q Q (iF 27 [iC 0,sC aX,sC aX,sC aX] oI y6 (dZ (stA [iC r2.1.aG.Graph.aI,lo 25 r2.1.aG.Graph.aF.length,xT aO r2.1.aG.Places,lo 26 r2.1.aN.length] Q Q eF dP) Q Q Q Q Q (On (Ws ?_))))))
 refine en [(2,Cc (.pl 21 0)),(4,Cc (.pl 23 0)),(5,Cc (.pl 27 0))] [(21,.row 48 [[iC 0,sC aX,sC aX,sC aX]]),(23,.row 105 [iw r2.2]),(25,pR 40 aP r2.1.aG.Graph.aF),(26,pR 3 aC r2.1.aN),(27,.row 48 [[iC r2.1.aG.Graph.aI,lo 25 r2.1.aG.Graph.aF.length,xT aO r2.1.aG.Places,lo 26 r2.1.aN.length]])] z3 z5 (Wr (bV (bQ [iC r2.1.aG.Graph.aI,lo 25 r2.1.aG.Graph.aF.length,xT aO r2.1.aG.Places,lo 26 r2.1.aN.length] Q gZ eF dP) Q Q Q Q (aS fun r3 hr3 => (aT.pure (cF [.agg [iC r2.1.aG.Graph.aI,lo 25 r2.1.aG.Graph.aF.length,xT aO r2.1.aG.Places,lo 26 r2.1.aN.length]] [(25,pR 40 aP r2.1.aG.Graph.aF),(26,pR 3 aC r2.1.aN)] (aGE r2.1 r3 hr3) aCQ (.cons (.agg (.cons (.same Q) (.cons (.eU Q Q) (.cons (.weak (.same Q) (QW.fO kW (fun h => by cases h) _)) (.cons (.eU Q Q) .nil))))) .nil) J y3) z2 z2 Q Q (aH (.eH [.c (xT aC r3.1),.c (bC r3.2)]) y4 (jQ (.c (xT aC r3.1)) y5 (jQ (.c (bC r3.2)) y5 (aJ (Cc (xT aC r3.1)) y4 (aJ (Bv r3.2) y4 (On (Ws (Ws ?_))))))))))))
 refine aB.eX (fun j6 => ([(2,Cc (.pl 21 0)),(4,Cc (.pl 23 0)),(5,Cc (.pl 27 0)),(6,Cc (xT aC r3.1)),(22,Bv j6.1)],[(21,.row 48 [[iC 0,sC aX,sC aX,sC aX]]),(23,.row 105 [[xT dI j6.2.1,iC j6.2.2.1,iC j6.2.2.2]]),(25,pR 40 aP r2.1.aG.Graph.aF),(26,pR 3 aC r2.1.aN),(27,.row 48 [[iC r2.1.aG.Graph.aI,lo 25 r2.1.aG.Graph.aF.length,xT aO r2.1.aG.Places,lo 26 r2.1.aN.length]])])) ?_ (fun j6 _ => ?_)
 ·refine Wr (aH (Bv r3.2) y4 (aH (Bv r3.2) y4 (aT.split (fun hb7 => ?_) (fun hb7 => ?_))))
  ·refine dB (Cc (.pl 23 0)) hb7 y5 (aS fun r8 Ac => (aT.step (dK [.c (.pl 23 0),.c (iC 4)] (Fw.Fn.ren [(0,23)] (Jm r2.2 4 r8 Ac) Q) Ho (jv y2) z1 y3) ⟨Q,Q,y2,J⟩ z1 (gH hb7 Q Q) Q (aW (LT.not Q) Q (gH hb7 Q Q) Q (dD (Bv (!r8.1)) hb7 y5 (On (aV Q z5 z5))))))
  ·refine aK hb7 y5 (aK hb7 y5 (aK hb7 y5 (dA (Bv false) hb7 aU (On (aV Q z5 z5)))))
 ·refine aB.cond Q (fun yT => ?_) (fun yT => ?_)
  ·refine Ws (Wr ?_)
   refine bV (bQ [iC r2.1.aG.Graph.aI,lo 25 r2.1.aG.Graph.aF.length,xT aO r2.1.aG.Places,lo 26 r2.1.aN.length] Q gZ eF dP) Q Q Q Q (aH (Cc (xT aC r3.1)) y4 (dZ (stA [iC r2.1.aG.Graph.aI,lo 25 r2.1.aG.Graph.aF.length,xT aO r2.1.aG.Places,lo 26 r2.1.aN.length] Q Q eF dP) Q Q Q Q Q (aJ (Cc (xT aC r3.1)) y4 (On (en [(2,Cc (.pl 21 0)),(3,Cc (xT aC r3.1))] [(21,.row 48 [[iC r2.1.aG.Graph.aI,lo 25 r2.1.aG.Graph.aF.length,xT aO r2.1.aG.Places,lo 26 r2.1.aN.length]]),(25,pR 40 aP r2.1.aG.Graph.aF),(26,pR 3 aC r2.1.aN)] z2 z3 (aB.ent (aY.mv 25 0 Q Q) (aB.ent (aY.mv 26 1 Q Q) (en [(2,Cc (.pl 21 0)),(3,Cc (xT aC r3.1))] [(0,pR 40 aP r2.1.aG.Graph.aF),(1,pR 3 aC r2.1.aN),(21,.row 48 [[iC r2.1.aG.Graph.aI,lo 0 r2.1.aG.Graph.aF.length,xT aO r2.1.aG.Places,lo 1 r2.1.aN.length]])] z2 z3 (bT ⟨⟨_,_,_,Q,Q,Q,gZ,dP,_,ji eF⟩,Q,J⟩ z2 ⟨⟨au.sc,J,iY pq,J,J⟩,iY gQ,J⟩ ⟨cZ.fA lF,cZ.fA gQ,J⟩)))))))))
  ·refine aB.skip (Ws (aB.draw mixed ?_))
   refine fM (bQ [iC r2.1.aG.Graph.aI,lo 25 r2.1.aG.Graph.aF.length,xT aO r2.1.aG.Places,lo 26 r2.1.aN.length] Q gZ eF dP) Q Q Q Q (ay (Cc (.pl 23 0)) y4 (ax (LT.dR Q mM) Q Q Q (dh (xT aO r2.1.aG.Places) iR iV bK (ax (LT.fG Q uN) Q Q Q (dV LT.mul lV (aQ.bind fun r10 D9 => (aQ.step (dK [.c (.pl 23 0),.c (iC (aA (2 * (r2.1.aG.Places.length:Int))))] (Fw.Fn.ren [(0,23),(1,31)] (aGW (dW.mk j6.2.1 j6.2.2.1 j6.2.2.2) (aA (2 * (r2.1.aG.Places.length:Int))) r10 D9) Q) aCJ (jv y2) z1 y3) z3 z1 Q Q (lQ (stA [iC r2.1.aG.Graph.aI,lo 25 r2.1.aG.Graph.aF.length,xT aO r2.1.aG.Places,lo 26 r2.1.aN.length] Q Q eF dP) Q Q Q Q Q (ax (LT.assign (v:=(Cc (lo 31 r10.1.length))) Q) Q Q Q (dm ?_))))))))))
   refine aB.ent (aY.AB (enc:=aC) (xs:=r10.1) (σ':=[(2,Cc (.pl 21 0)),(3,Cc (xT aC r10.1)),(4,Cc (.pl 23 0)),(5,Cc (.pl 27 0)),(6,Cc (xT aC r3.1)),(22,Bv j6.1),(25,Ag  [iC r2.1.aG.Graph.aI,lo 25 r2.1.aG.Graph.aF.length,xT aO r2.1.aG.Places,lo 26 r2.1.aN.length]),(26,Cc (.pl 23 0)),(27,Cc (.pl 27 0)),(28,Cc (.pl 27 2)),(29,Cc (xT aO r2.1.aG.Places)),(30,Iv (r2.1.aG.Places.length:Int)),(31,Iv (aA (2 * (r2.1.aG.Places.length:Int)))),(32,Cc (xT aC r10.1))]) (m':=[(21,.row 48 [[iC r2.1.aG.Graph.aI,lo 25 r2.1.aG.Graph.aF.length,xT aO r2.1.aG.Places,lo 26 r2.1.aN.length]]),(23,.row 105 [iw r10.2]),(25,pR 40 aP r2.1.aG.Graph.aF),(26,pR 3 aC r2.1.aN),(27,.row 48 [[iC r2.1.aG.Graph.aI,lo 25 r2.1.aG.Graph.aF.length,xT aO r2.1.aG.Places,lo 26 r2.1.aN.length]])]) 31 hU Q Q ⟨⟨_,Q,.same Q⟩,⟨_,Q,.c (.fr (by rw [List.length_map]))⟩,⟨_,Q,.same Q⟩,⟨_,Q,.same Q⟩,⟨_,Q,.same Q⟩,⟨_,Q,.same Q⟩,⟨_,Q,.same Q⟩,⟨_,Q,.same Q⟩,⟨_,Q,.same Q⟩,⟨_,Q,.same Q⟩,⟨_,Q,.same Q⟩,⟨_,Q,.same Q⟩,⟨_,Q,.same Q⟩,⟨_,Q,.c (.fr (by rw [List.length_map]))⟩,J⟩ ⟨⟨Q,_,Q,.same Q⟩,⟨Q,_,Q,.same Q⟩,⟨Q,_,Q,.same Q⟩,⟨Q,_,Q,.same Q⟩,⟨Q,_,Q,.same Q⟩,J⟩) (en [(2,Cc (.pl 21 0)),(3,Cc (xT aC r10.1))] [(21,.row 48 [[iC r2.1.aG.Graph.aI,lo 25 r2.1.aG.Graph.aF.length,xT aO r2.1.aG.Places,lo 26 r2.1.aN.length]]),(25,pR 40 aP r2.1.aG.Graph.aF),(26,pR 3 aC r2.1.aN)] z2 z3 (aB.ent (aY.mv 25 0 Q Q) (aB.ent (aY.mv 26 1 Q Q) (en [(2,Cc (.pl 21 0)),(3,Cc (xT aC r10.1))] [(0,pR 40 aP r2.1.aG.Graph.aF),(1,pR 3 aC r2.1.aN),(21,.row 48 [[iC r2.1.aG.Graph.aI,lo 0 r2.1.aG.Graph.aF.length,xT aO r2.1.aG.Places,lo 1 r2.1.aN.length]])] z2 z3 (bT ⟨⟨_,_,_,Q,Q,Q,gZ,dP,_,ji eF⟩,Q,J⟩ z2 ⟨⟨au.sc,J,iY pq,J,J⟩,iY gQ,J⟩ ⟨cZ.fA lF,cZ.fA gQ,J⟩)))))
theorem aPa (code:(List Int)):FT Tryz.prog (RP code) 44 [.c (xT dI code)] [] (fun (t:(bI × (List Int))) => [.agg [iC t.1.aG.Graph.aI,lo 0 t.1.aG.Graph.aF.length,xT aO t.1.aG.Places,lo 1 t.1.aN.length],.c (xT aC t.2)]) (fun (t:(bI × (List Int))) => [(0,pR 40 aP t.1.aG.Graph.aF),(1,pR 3 aC t.1.aN)]) [0,1]:=by
 refine FT.of [] Tryz.func44 Tryz.ntmps44 Q y2 ?_
 intro w0 U0 R0 g0
 unfold RP
 refine Ws (Wr ?_)
 refine iF 21 [iC 0,sC aX,sC aX,sC aX] oI y6 (aJ (Cc (sC aX)) aZ (On (Ws (Wr ?_))))
 refine aH (Cc (xT dI code)) y4 (aS fun r1 hr1 => (aT.step (dK [.c (xT dI code)] (Fw.Fn.ren [(0,23),(1,24)] (aGM code r1 hr1) Q) aCA (l9 Q) J y3) z2 J Q Q (aH (.eH [.agg [iC r1.1.aG.Graph.aI,lo 23 r1.1.aG.Graph.aF.length,xT aO r1.1.aG.Places,lo 24 r1.1.aN.length],.c (xT aC r1.2)]) y4 (jQ (.agg [iC r1.1.aG.Graph.aI,lo 23 r1.1.aG.Graph.aF.length,xT aO r1.1.aG.Places,lo 24 r1.1.aN.length]) y5 (jQ (.c (xT aC r1.2)) y5 (iF 25 [iC 0,sC aX,sC aX,sC aX] oI y6 (dZ (stA [iC r1.1.aG.Graph.aI,lo 23 r1.1.aG.Graph.aF.length,xT aO r1.1.aG.Places,lo 24 r1.1.aN.length] Q Q eF dP) Q Q Q Q Q (aJ (Cc (xT aC r1.2)) y4 (On (Ws ?_))))))))))
 refine en [(2,Cc (.pl 21 0)),(4,Cc (.pl 25 0)),(5,Cc (xT aC r1.2))] [(21,.row 48 [[iC 0,sC aX,sC aX,sC aX]]),(23,pR 40 aP r1.1.aG.Graph.aF),(24,pR 3 aC r1.1.aN),(25,.row 48 [[iC r1.1.aG.Graph.aI,lo 23 r1.1.aG.Graph.aF.length,xT aO r1.1.aG.Places,lo 24 r1.1.aN.length]])] z3 z4 (Wr (bV (bQ [iC r1.1.aG.Graph.aI,lo 23 r1.1.aG.Graph.aF.length,xT aO r1.1.aG.Places,lo 24 r1.1.aN.length] Q gZ eF dP) Q Q Q Q (aH (Cc (xT aC r1.2)) y4 (dZ (stA [iC r1.1.aG.Graph.aI,lo 23 r1.1.aG.Graph.aF.length,xT aO r1.1.aG.Places,lo 24 r1.1.aN.length] Q Q eF dP) Q Q Q Q Q (aJ (Cc (xT aC r1.2)) y4 (On (en [(2,Cc (.pl 21 0)),(3,Cc (xT aC r1.2))] [(21,.row 48 [[iC r1.1.aG.Graph.aI,lo 23 r1.1.aG.Graph.aF.length,xT aO r1.1.aG.Places,lo 24 r1.1.aN.length]]),(23,pR 40 aP r1.1.aG.Graph.aF),(24,pR 3 aC r1.1.aN)] z2 z3 (aB.ent (aY.mv 23 0 Q Q) (aB.ent (aY.mv 24 1 Q Q) (en [(2,Cc (.pl 21 0)),(3,Cc (xT aC r1.2))] [(0,pR 40 aP r1.1.aG.Graph.aF),(1,pR 3 aC r1.1.aN),(21,.row 48 [[iC r1.1.aG.Graph.aI,lo 0 r1.1.aG.Graph.aF.length,xT aO r1.1.aG.Places,lo 1 r1.1.aN.length]])] z2 z3 (bT ⟨⟨_,_,_,Q,Q,Q,gZ,dP,_,ji eF⟩,Q,J⟩ z2 ⟨⟨au.sc,J,iY pq,J,J⟩,iY gQ,J⟩ ⟨cZ.fA lF,cZ.fA gQ,J⟩)))))))))))
theorem aPf (a:bW) (b:bW):FT Tryz.prog (RZ a b) 66 [.agg (eY a),.agg (eY b)] [] (fun (t:Bool) => [.c (bC t)]) (fun (t:Bool) => []) []:=by
 refine FT.of [] Tryz.func66 Tryz.ntmps66 Q y2 ?_
 intro w0 U0 R0 g0
 unfold RZ
 refine Ws (Wr ?_)
 refine gy 21 (.agg (eY a)) fD y5 (gy 22 (.agg (eY b)) fD y5 (aJ (Bv false) aZ (On (Ws (Ws ?_)))))
 refine aB.eX (fun j2 => ([(2,Cc (.pl 21 0)),(3,Cc (.pl 22 0)),(19,Bv j2)],[(21,.row 26 [eY a]),(22,.row 26 [eY b])])) ?_ (fun j2 _ => ?_)
 ·refine Wr (fC (iC a.aI) lT ak bK (fC (iC b.aI) lT ak bK (af LT.neq y5 (aH (Bv (a.aI != b.aI)) y4 (aT.split (fun hb3 => ?_) (fun hb3 => ?_))))))
  ·refine aK hb3 y5 (aK hb3 y5 (aK hb3 y5 (aK hb3 y5 (aK hb3 y5 (aK hb3 y5 (aK hb3 y5 (dD (Bv true) hb3 aU (On (aV Q z3 z2)))))))))
  ·refine jd (xF aP a.aF) iO jC hb3 iJ (aW (LT.fG Q jE) Q (gH hb3 Q Q) Q (jd (xF aP b.aF) iO jC hb3 iJ (aW (LT.fG Q jE) Q (gH hb3 Q Q) Q (fB LT.neq hb3 y6 (dA (Bv ((a.aF.length:Int) != (b.aF.length:Int))) hb3 y5 (On (aV Q z3 z2)))))))
 ·refine aB.cond Q (fun hc4 => ?_) (fun hc4 => ?_)
  ·refine Ws (Wr ?_)
   refine aJ (Bv false) aZ (On (bT z1 J ⟨au.sc,J⟩ J))
  ·refine aB.skip (Ws (Ws (Wr ?_)))
   refine aJ (Iv 0) aZ (On (aB.block ?_))
   refine aB.lD (id:=0) (Rf a b) (fun s5 => ([(2,Cc (.pl 21 0)),(3,Cc (.pl 22 0)),(5,Iv s5)],[(21,.row 26 [eY a]),(22,.row 26 [eY b])])) (fun b14 => ([],[])) (ja Tryz.prog Tryz.f66.results.toList [] [] (fun (t:Bool) => [.c (bC t)]) (fun (t:Bool) => [])) ?_ (aY.of z3 z2) Q (fun b14 _ => ?_) lK
   ·intro s5
    unfold Rf
    refine Ws (Ws (Wr ?_))
    refine aH (Iv s5) y4 (fC (xF aP a.aF) iO jC bK (aW (LT.fG Q jE) Q Q Q (af LT.lss y5 (On (aB.cond Q (fun D5 => ?_) (fun D5 => ?_))))))
    ·refine aB.skip (Ws (aB.block (Ws (aB.draw mixed ?_))))
     refine dh (xF aP a.aF) iO jC bK (ay (Iv s5) y4 (aQ.bind fun x16 hx16 => (bZ (LT.bU (enc:=aP) Q qP hx16 fU) Q Q Q Q (ax (kJ Q lX je fU) Q Q Q (dh (xF aP b.aF) iO jC bK (ay (Iv s5) y4 (aQ.bind fun x17 EF => (bZ (LT.bU (enc:=aP) Q qP EF fU) Q Q Q Q (ax (kJ Q lX je fU) Q Q Q ?_)))))))))
     refine bZ (LT.Sj [x16.A,x16.B] [x17.A,x17.B] Q Vq Q Q) Q Q Q Q (dm (aB.cond Q (fun hc18 => ?_) (fun hc18 => ?_)))
     ·refine Ws (en [] [] J J (Wr (aJ (Bv false) aZ (On (aB.ret ⟨Q,kz z1 J ⟨au.sc,J⟩ J⟩)))))
     ·refine aB.skip (aB.blk ?_)
      refine en [(2,Cc (.pl 21 0)),(3,Cc (.pl 22 0)),(5,Iv s5)] [(21,.row 26 [eY a]),(22,.row 26 [eY b])] z3 z2 (Wr (aH (Iv s5) y4 (af LT.add aU (aJ (Iv (aA (s5 + 1))) y4 (On (aV Q z3 z2))))))
    ·refine eu y2 J J
   ·refine Ws (Wr ?_)
    refine aJ (Bv true) aZ (On (bT z1 J ⟨au.sc,J⟩ J))
theorem aGD (a:ah) (b:ah):FT Tryz.prog (Me a b) 46 [.agg (aj a),.agg (aj b)] [] (fun (t:Bool) => [.c (bC t)]) (fun (t:Bool) => []) []:=by
 refine FT.of [] Tryz.func46 Tryz.ntmps46 Q y2 ?_
 intro w0 U0 R0 g0
 unfold Me
 refine Ws (Wr ?_)
 refine gy 21 (.agg (aj a)) dS y5 (gy 22 (.agg (aj b)) dS y5 (aJ (Bv false) aZ (On (Ws (Ws ?_)))))
 refine aB.eX (fun j3 => ([(2,Cc (.pl 21 0)),(3,Cc (.pl 22 0)),(20,Bv j3)],[(21,.row 46 [aj a]),(22,.row 46 [aj b])])) ?_ (fun j3 _ => ?_)
 ·refine Wr (aW (LT.dR Q jW) Q Q Q (bV (bQ (eY a.Graph) Q jq gW fD) Q Q Q Q (aW (LT.dR Q jW) Q Q Q (bV (bQ (eY b.Graph) Q jq gW fD) Q Q Q Q (aS fun r4 hr4 => (iD [.agg (eY a.Graph),.agg (eY b.Graph)] (aPf a.Graph b.Graph r4 hr4) aH0 (Tj y4) y5 z3 (aW (LT.not Q) Q Q Q (aH (Bv (!r4)) y4 (aT.split (fun hb5 => ?_) (fun hb5 => ?_))))))))))
  ·refine aK hb5 y5 (aK hb5 y5 (aK hb5 y5 (aK hb5 y5 (aK hb5 y5 (aK hb5 y5 (aK hb5 y5 (dD (Bv true) hb5 aU (On (aV Q z3 z2)))))))))
  ·refine jd (xF aO a.Places) iR iV hb5 iJ (aW (LT.fG Q uN) Q (gH hb5 Q Q) Q (jd (xF aO b.Places) iR iV hb5 iJ (aW (LT.fG Q uN) Q (gH hb5 Q Q) Q (fB LT.neq hb5 y6 (dA (Bv ((a.Places.length:Int) != (b.Places.length:Int))) hb5 y5 (On (aV Q z3 z2)))))))
 ·refine aB.cond Q (fun hc6 => ?_) (fun hc6 => ?_)
  ·refine Ws (Wr ?_)
   refine aJ (Bv false) aZ (On (bT z1 J ⟨au.sc,J⟩ J))
  ·refine aB.skip (Ws (Ws (Wr ?_)))
   refine aJ (Iv 0) aZ (On (aB.block ?_))
   refine aB.lD (id:=0) (RY a b) (fun s7 => ([(2,Cc (.pl 21 0)),(3,Cc (.pl 22 0)),(5,Iv s7)],[(21,.row 46 [aj a]),(22,.row 46 [aj b])])) (fun b16 => ([],[])) (ja Tryz.prog Tryz.f46.results.toList [] [] (fun (t:Bool) => [.c (bC t)]) (fun (t:Bool) => [])) ?_ (aY.of z3 z2) Q (fun b16 _ => ?_) lK
   ·intro s7
    unfold RY
    refine Ws (Ws (Wr ?_))
    refine aH (Iv s7) y4 (fC (xF aO a.Places) iR iV bK (aW (LT.fG Q uN) Q Q Q (af LT.lss y5 (On (aB.cond Q (fun hc17 => ?_) (fun hc17 => ?_))))))
    ·refine aB.skip (Ws (aB.block (Ws (aB.draw mixed ?_))))
     refine dh (xF aO a.Places) iR iV bK (ay (Iv s7) y4 (aQ.bind fun x18 Bf => (bZ (LT.bU (enc:=aO) Q jU Bf fE) Q Q Q Q (ax (kJ Q o6 lJ fE) Q Q Q (dh (xF aO b.Places) iR iV bK (ay (Iv s7) y4 (aQ.bind fun x19 QS => (bZ (LT.bU (enc:=aO) Q jU QS fE) Q Q Q Q (ax (kJ Q o6 lJ fE) Q Q Q ?_)))))))))
     refine bZ (LT.Sj [x18.X,x18.Y] [x19.X,x19.Y] Q FQ Q Q) Q Q Q Q (dm (aB.cond Q (fun Px => ?_) (fun Px => ?_)))
     ·refine Ws (en [] [] J J (Wr (aJ (Bv false) aZ (On (aB.ret ⟨Q,kz z1 J ⟨au.sc,J⟩ J⟩)))))
     ·refine aB.skip (aB.blk ?_)
      refine en [(2,Cc (.pl 21 0)),(3,Cc (.pl 22 0)),(5,Iv s7)] [(21,.row 46 [aj a]),(22,.row 46 [aj b])] z3 z2 (Wr (aH (Iv s7) y4 (af LT.add aU (aJ (Iv (aA (s7 + 1))) y4 (On (aV Q z3 z2))))))
    ·refine eu y2 J J
   ·refine Ws (Wr ?_)
    refine aJ (Bv true) aZ (On (bT z1 J ⟨au.sc,J⟩ J))
theorem aPd (code:(List Int)):FT Tryz.prog (RV code) 48 [.c (xT dI code)] [] (fun (t:(bI × (List Int))) => [.agg [iC t.1.aG.Graph.aI,lo 0 t.1.aG.Graph.aF.length,xT aO t.1.aG.Places,lo 1 t.1.aN.length],.c (lo 2 t.2.length)]) (fun (t:(bI × (List Int))) => [(0,pR 40 aP t.1.aG.Graph.aF),(1,pR 3 aC t.1.aN),(2,pR 3 aC t.2)]) [0,1,2]:=by
 refine FT.of [] Tryz.func48 Tryz.ntmps48 Q y2 ?_
 intro w0 U0 R0 g0
 unfold RV
 refine Ws (Wr ?_)
 refine iF 21 [iC 0,sC aX,sC aX,sC aX] oI y6 (aJ (Cc (sC aX)) aZ (On (Ws (Wr ?_))))
 refine aH (Cc (xT dI code)) y4 (aS fun r1 hr1 => (aT.step (dK [.c (xT dI code)] (Fw.Fn.ren [(0,23),(1,24),(2,25)] (aGN code r1 hr1) Q) aB9 (l9 Q) J y3) z2 J Q Q (aH (.eH [.agg [iC r1.1.aG.Graph.aI,lo 23 r1.1.aG.Graph.aF.length,xT aO r1.1.aG.Places,lo 24 r1.1.aN.length],.c (lo 25 r1.2.length)]) y4 (jQ (.agg [iC r1.1.aG.Graph.aI,lo 23 r1.1.aG.Graph.aF.length,xT aO r1.1.aG.Places,lo 24 r1.1.aN.length]) y5 (jQ (.c (lo 25 r1.2.length)) y5 (iF 26 [iC 0,sC aX,sC aX,sC aX] oI y6 (dZ (stA [iC r1.1.aG.Graph.aI,lo 23 r1.1.aG.Graph.aF.length,xT aO r1.1.aG.Places,lo 24 r1.1.aN.length] Q Q eF dP) Q Q Q Q Q (aJ (Cc (lo 25 r1.2.length)) y4 (On (Ws ?_))))))))))
 refine en [(2,Cc (.pl 21 0)),(4,Cc (.pl 26 0)),(5,Cc (lo 25 r1.2.length))] [(21,.row 48 [[iC 0,sC aX,sC aX,sC aX]]),(23,pR 40 aP r1.1.aG.Graph.aF),(24,pR 3 aC r1.1.aN),(25,pR 3 aC r1.2),(26,.row 48 [[iC r1.1.aG.Graph.aI,lo 23 r1.1.aG.Graph.aF.length,xT aO r1.1.aG.Places,lo 24 r1.1.aN.length]])] z3 z5 (Wr (bV (bQ [iC r1.1.aG.Graph.aI,lo 23 r1.1.aG.Graph.aF.length,xT aO r1.1.aG.Places,lo 24 r1.1.aN.length] Q gZ eF dP) Q Q Q Q (aH (Cc (lo 25 r1.2.length)) y4 (dZ (stA [iC r1.1.aG.Graph.aI,lo 23 r1.1.aG.Graph.aF.length,xT aO r1.1.aG.Places,lo 24 r1.1.aN.length] Q Q eF dP) Q Q Q Q Q (aJ (Cc (lo 25 r1.2.length)) y4 (On (en [(2,Cc (.pl 21 0)),(3,Cc (lo 25 r1.2.length))] [(21,.row 48 [[iC r1.1.aG.Graph.aI,lo 23 r1.1.aG.Graph.aF.length,xT aO r1.1.aG.Places,lo 24 r1.1.aN.length]]),(23,pR 40 aP r1.1.aG.Graph.aF),(24,pR 3 aC r1.1.aN),(25,pR 3 aC r1.2)] z2 z4 (aB.ent (aY.mv 25 2 Q Q) (aB.ent (aY.mv 23 0 Q Q) (aB.ent (aY.mv 24 1 Q Q) (en [(2,Cc (.pl 21 0)),(3,Cc (lo 2 r1.2.length))] [(0,pR 40 aP r1.1.aG.Graph.aF),(1,pR 3 aC r1.1.aN),(2,pR 3 aC r1.2),(21,.row 48 [[iC r1.1.aG.Graph.aI,lo 0 r1.1.aG.Graph.aF.length,xT aO r1.1.aG.Places,lo 1 r1.1.aN.length]])] z2 z4 ?_)))))))))))
 refine bT ⟨⟨_,_,_,Q,Q,Q,gZ,dP,_,ji eF⟩,Q,J⟩ z3 ⟨⟨au.sc,J,iY pq,J,J⟩,J,J⟩ ⟨cZ.fA lF,cZ.fA gQ,cZ.fA gQ,J⟩
theorem aPc (code:(List Int)):FT Tryz.prog (RU code) 49 [.c (xT dI code)] [] (fun (t:(bI × (List Int))) => [.agg [iC t.1.aG.Graph.aI,lo 0 t.1.aG.Graph.aF.length,xT aO t.1.aG.Places,lo 1 t.1.aN.length],.c (xT aC t.2)]) (fun (t:(bI × (List Int))) => [(0,pR 40 aP t.1.aG.Graph.aF),(1,pR 3 aC t.1.aN)]) [0,1]:=by
 refine FT.of [] Tryz.func49 Tryz.ntmps49 Q y2 ?_
 intro w0 U0 R0 g0
 unfold RU
 refine Ws (Wr ?_)
 refine iF 21 [iC 0,sC aX,sC aX,sC aX] oI y6 (aJ (Cc (sC aX)) aZ (On (Ws (Wr ?_))))
 refine aH (Cc (xT dI code)) y4 (aS fun r1 hr1 => (aT.step (dK [.c (xT dI code)] (Fw.Fn.ren [(0,23),(1,24)] (aGM code r1 hr1) Q) aCA (l9 Q) J y3) z2 J Q Q (aH (.eH [.agg [iC r1.1.aG.Graph.aI,lo 23 r1.1.aG.Graph.aF.length,xT aO r1.1.aG.Places,lo 24 r1.1.aN.length],.c (xT aC r1.2)]) y4 (jQ (.agg [iC r1.1.aG.Graph.aI,lo 23 r1.1.aG.Graph.aF.length,xT aO r1.1.aG.Places,lo 24 r1.1.aN.length]) y5 (jQ (.c (xT aC r1.2)) y5 (iF 25 [iC 0,sC aX,sC aX,sC aX] oI y6 (dZ (stA [iC r1.1.aG.Graph.aI,lo 23 r1.1.aG.Graph.aF.length,xT aO r1.1.aG.Places,lo 24 r1.1.aN.length] Q Q eF dP) Q Q Q Q Q (aJ (Cc (xT aC r1.2)) y4 (On (Ws ?_))))))))))
 refine en [(2,Cc (.pl 21 0)),(4,Cc (.pl 25 0)),(5,Cc (xT aC r1.2))] [(21,.row 48 [[iC 0,sC aX,sC aX,sC aX]]),(23,pR 40 aP r1.1.aG.Graph.aF),(24,pR 3 aC r1.1.aN),(25,.row 48 [[iC r1.1.aG.Graph.aI,lo 23 r1.1.aG.Graph.aF.length,xT aO r1.1.aG.Places,lo 24 r1.1.aN.length]])] z3 z4 (Wr (bV (bQ [iC r1.1.aG.Graph.aI,lo 23 r1.1.aG.Graph.aF.length,xT aO r1.1.aG.Places,lo 24 r1.1.aN.length] Q gZ eF dP) Q Q Q Q (aH (Cc (xT aC r1.2)) y4 (dZ (stA [iC r1.1.aG.Graph.aI,lo 23 r1.1.aG.Graph.aF.length,xT aO r1.1.aG.Places,lo 24 r1.1.aN.length] Q Q eF dP) Q Q Q Q Q (aJ (Cc (xT aC r1.2)) y4 (On (en [(2,Cc (.pl 21 0)),(3,Cc (xT aC r1.2))] [(21,.row 48 [[iC r1.1.aG.Graph.aI,lo 23 r1.1.aG.Graph.aF.length,xT aO r1.1.aG.Places,lo 24 r1.1.aN.length]]),(23,pR 40 aP r1.1.aG.Graph.aF),(24,pR 3 aC r1.1.aN)] z2 z3 (aB.ent (aY.mv 23 0 Q Q) (aB.ent (aY.mv 24 1 Q Q) (en [(2,Cc (.pl 21 0)),(3,Cc (xT aC r1.2))] [(0,pR 40 aP r1.1.aG.Graph.aF),(1,pR 3 aC r1.1.aN),(21,.row 48 [[iC r1.1.aG.Graph.aI,lo 0 r1.1.aG.Graph.aF.length,xT aO r1.1.aG.Places,lo 1 r1.1.aN.length]])] z2 z3 (bT ⟨⟨_,_,_,Q,Q,Q,gZ,dP,_,ji eF⟩,Q,J⟩ z2 ⟨⟨au.sc,J,iY pq,J,J⟩,iY gQ,J⟩ ⟨cZ.fA lF,cZ.fA gQ,J⟩)))))))))))
theorem aPe (code:(List Int)):FT Tryz.prog (RX code) 50 [.c (xT dI code)] [] (fun (t:bI) => [.agg [iC t.aG.Graph.aI,lo 0 t.aG.Graph.aF.length,xT aO t.aG.Places,lo 1 t.aN.length]]) (fun (t:bI) => [(0,pR 40 aP t.aG.Graph.aF),(1,pR 3 aC t.aN)]) [0,1]:=by
 refine FT.of [] Tryz.func50 Tryz.ntmps50 Q y2 ?_
 intro w0 U0 R0 g0
 unfold RX
 refine Ws (Wr ?_)
 refine iF 21 [iC 0,sC aX,sC aX,sC aX] oI y6 (On (Ws (Wr ?_)))
 refine aH (Cc (xT dI code)) y4 (aS fun r1 hr1 => (aT.step (dK [.c (xT dI code)] (Fw.Fn.ren [(0,23)] (Xl code r1 hr1) Q) Ui (l9 Q) J y3) z2 J Q Q (aS fun r2 hr2 => (aT.step (dK [.c (.pl 23 0)] (Fw.Fn.ren [(0,23),(1,25),(2,26)] (Xk r1 r2 hr2) Q) Uj (l9 Q) z1 y3) z2 z1 Q Q (dZ (stA [iC r2.1.aG.Graph.aI,lo 25 r2.1.aG.Graph.aF.length,xT aO r2.1.aG.Places,lo 26 r2.1.aN.length] Q Q eF dP) Q Q Q Q Q (On (en [(2,Cc (.pl 21 0))] [(21,.row 48 [[iC r2.1.aG.Graph.aI,lo 25 r2.1.aG.Graph.aF.length,xT aO r2.1.aG.Places,lo 26 r2.1.aN.length]]),(25,pR 40 aP r2.1.aG.Graph.aF),(26,pR 3 aC r2.1.aN)] z1 z3 (aB.ent (aY.mv 25 0 Q Q) (aB.ent (aY.mv 26 1 Q Q) (en [(2,Cc (.pl 21 0))] [(0,pR 40 aP r2.1.aG.Graph.aF),(1,pR 3 aC r2.1.aN),(21,.row 48 [[iC r2.1.aG.Graph.aI,lo 0 r2.1.aG.Graph.aF.length,xT aO r2.1.aG.Places,lo 1 r2.1.aN.length]])] z1 z3 (bT ⟨⟨_,_,_,Q,Q,Q,gZ,dP,_,ji eF⟩,J⟩ z2 ⟨⟨au.sc,J,iY pq,J,J⟩,J⟩ ⟨cZ.fA lF,cZ.fA gQ,J⟩)))))))))))
theorem aPr (f:ah):FT Tryz.prog (SC f) 186 [.agg (aj f)] [] (fun (t:Int) => [.c (iC t)]) (fun (t:Int) => []) []:=by
 refine FT.of [] Tryz.func186 Tryz.ntmps186 Q y2 ?_
 intro w0 U0 R0 g0
 unfold SC
 refine Ws (Wr ?_)
 refine gy 21 (.agg (aj f)) dS y5 (aJ (Iv 0) aZ (On (Ws (Ws (Wr ?_)))))
 refine aJ (Iv 1) aZ (On (aB.block ?_))
 refine aB.lD (id:=0) (JD f) (fun s1 => ([(1,Cc (.pl 21 0)),(3,Iv s1)],[(21,.row 46 [aj f])])) (fun b10 => ([],[])) (ja Tryz.prog Tryz.f186.results.toList [] [] (fun (t:Int) => [.c (iC t)]) (fun (t:Int) => [])) ?_ (aY.of z2 z1) Q (fun b10 _ => ?_) lK
 ·intro s1
  unfold JD
  refine Ws (Ws (Wr ?_))
  refine aH (Iv s1) y4 (fC (xF aO f.Places) iR iV bK (aW (LT.fG Q uN) Q Q Q (af LT.lss y5 (On (aB.cond Q (fun sG => ?_) (fun sG => ?_))))))
  ·refine aB.skip (Ws (aB.block (Ws (aB.draw mixed ?_))))
   refine dh (xF aO f.Places) iR iV bK (ay (Iv s1) y4 (aQ.bind fun x12 wO => (bZ (LT.bU (enc:=aO) Q jU wO fE) Q Q Q Q (ax (kJ Q o6 lJ fE) Q Q Q (dh (xF aO f.Places) iR iV bK (aQ.bind fun kZ wP => (bZ (LT.bU (enc:=aO) Q jU wP fE) Q y2 Q Q (ax (kJ Q o6 lJ fE) Q Q Q (bZ (LT.Sj [x12.X,x12.Y] [kZ.X,kZ.Y] Q FQ Q Q) Q Q Q Q ?_)))))))))
   refine dm (aB.cond Q (fun yS => ?_) (fun yS => ?_))
   ·refine Ws (en [] [] J J (Wr (aJ (Iv 3) aZ (On (aB.ret ⟨Q,kz z1 J ⟨au.sc,J⟩ J⟩)))))
   ·refine aB.skip (aB.blk ?_)
    refine en [(1,Cc (.pl 21 0)),(3,Iv s1)] [(21,.row 46 [aj f])] z2 z1 (Wr (aH (Iv s1) y4 (af LT.add aU (aJ (Iv (aA (s1 + 1))) y4 (On (aV Q z2 z1))))))
  ·refine eu y2 J J
 ·refine Ws (Wr ?_)
  refine aJ (Iv 2) aZ (On (bT z1 J ⟨au.sc,J⟩ J))
theorem aPk (f:ah):FT Tryz.prog (Rn f) 130 [.agg (aj f)] [] (fun (t:Int) => [.c (iC t)]) (fun (t:Int) => []) []:=by
 refine FT.of [] Tryz.func130 Tryz.ntmps130 Q y2 ?_
 intro w0 U0 R0 g0
 unfold Rn
 refine Ws (Wr ?_)
 refine gy 21 (.agg (aj f)) dS y5 (aJ (Iv 0) aZ (On (Ws (Ws (Wr ?_)))))
 refine bV (bQ (aj f) Q gY fF dS) Q Q Q Q (aS fun r1 hr1 => (iD [.agg (aj f)] (Gt f r1 hr1) E8 (mV y3) y5 z2 (aW (LT.not Q) Q Q Q (On (aB.cond Q (fun hc2 => ?_) (fun hc2 => ?_))))))
 ·refine Ws (Wr ?_)
  refine aJ (Iv (-1)) aZ (On (bT z1 J ⟨au.sc,J⟩ J))
 ·refine aB.skip (Ws (Wr ?_))
  refine bV (bQ (aj f) Q gY fF dS) Q Q Q Q (aS fun r3 hr3 => (aT.step (dK [.agg (aj f)] (Fw.Fn.ren [(0,24)] (aBJ f r3 hr3) Q) YB (mV y3) J y3) z2 J Q Q (aS fun r4 hr4 => (aT.step (cF [.c (lo 24 r3.length)] [(24,pR 28 (bG true) r3)] (Fw.Fn.ren [(0,26),(1,27)] (aGV r3 r4 hr4) Q) aCL (.cons (.c (.weak (.eU (enc:=bG true) Q Q) (QW.fO aAc (fun h => h) _))) .nil) J y3) z2 z1 Q Q (aH (.eH [.c (lo 26 r4.1.length),.c (lo 27 r4.2.length)]) y4 (jQ (.c (lo 26 r4.1.length)) y5 (jQ (.c (lo 27 r4.2.length)) y5 (aJ (Cc (lo 26 r4.1.length)) y4 (aJ (Cc (lo 27 r4.2.length)) y4 (On (Ws ?_)))))))))))
  refine en [(4,Cc (lo 27 r4.2.length))] [(27,pR 3 aC r4.2)] z1 z1 (Wr (aH (Cc (lo 27 r4.2.length)) y4 (aW (LT.lC Q dO) Q Q Q (aJ (Iv (r4.2.length:Int)) y4 (On (bT z1 J ⟨au.sc,J⟩ J))))))
theorem aPj (f:ah):FT Tryz.prog (Rk f) 162 [.agg (aj f)] [] (fun (t:Int) => [.c (iC t)]) (fun (t:Int) => []) []:=by
 refine FT.of [] Tryz.func162 Tryz.ntmps162 Q y2 ?_
 intro w0 U0 R0 g0
 unfold Rk
 refine Ws (Wr ?_)
 refine gy 21 (.agg (aj f)) dS y5 (aJ (Iv 0) aZ (On (Ws (Ws (Wr ?_)))))
 refine bV (bQ (aj f) Q gY fF dS) Q Q Q Q (aS fun r1 hr1 => (iD [.agg (aj f)] (Gt f r1 hr1) E8 (mV y3) y5 z2 (aW (LT.not Q) Q Q Q (On (aB.cond Q (fun hc2 => ?_) (fun hc2 => ?_))))))
 ·refine Ws (Wr ?_)
  refine aJ (Iv (-1)) aZ (On (bT z1 J ⟨au.sc,J⟩ J))
 ·refine aB.skip (Ws (aB.draw mixed ?_))
  refine ax (LT.dR Q jW) Q Q Q (dh (iC f.Graph.aI) lT ak bK (dV LT.mul lV (fM (bQ (aj f) Q gY fF dS) Q Q Q Q (aQ.bind fun r3 hr3 => (aQ.pure (dK [.agg (aj f)] (aPr f r3 hr3) aHk (mV y3) J y3) z2 J Q Q (dV LT.sub y5 (fM (bQ (aj f) Q gY fF dS) Q Q Q Q (aQ.bind fun r4 hr4 => (aQ.pure (dK [.agg (aj f)] (aPk f r4 hr4) aHP (mV y3) J y3) z2 J Q Q (dV LT.sub y5 ?_))))))))))
  refine ax (LT.assign (v:=(Iv (aA ((aA ((aA (2 * f.Graph.aI)) - r3)) - r4)))) Q) Q Q Q (dm (bT z1 J ⟨au.sc,J⟩ J))
theorem aPl (f:ah):FT Tryz.prog (Rt f) 122 [.agg (aj f)] [] (fun (t:Bool) => [.c (bC t)]) (fun (t:Bool) => []) []:=by
 refine FT.of [] Tryz.func122 Tryz.ntmps122 Q y2 ?_
 intro w0 U0 R0 g0
 unfold Rt
 refine Ws (Wr ?_)
 refine gy 21 (.agg (aj f)) dS y5 (aJ (Bv false) aZ (On (Ws (Wr ?_))))
 refine bV (bQ (aj f) Q gY fF dS) Q Q Q Q (aS fun r1 hr1 => (iD [.agg (aj f)] (aPj f r1 hr1) aHZ (mV y3) y5 z2 (af LT.eql aU (aJ (Bv (r1 == 0)) y4 (On (bT z1 J ⟨au.sc,J⟩ J))))))
theorem aPo (tV:bI) (w:(List Int)):FT Tryz.prog (Ry tV w) 52 [.agg (eP tV),.c (xF aC w)] [] (fun (t:Bool) => [.c (bC t)]) (fun (t:Bool) => []) []:=by
 refine FT.of [] Tryz.func52 Tryz.ntmps52 Q y2 ?_
 intro w0 U0 R0 g0
 unfold Ry
 refine Ws (Wr ?_)
 refine gy 21 (.agg (eP tV)) dP y5 (aJ (Bv false) aZ (On (Ws ?_)))
 refine aB.eX (fun j4 => ([(4,Bv j4)],[])) ?_ (fun j4 _ => ?_)
 ·refine Wr (bV (bQ (eP tV) Q gZ eF dP) Q Q Q Q (aH (Cc (xF aC w)) y4 (aS fun r5 nI => (iD [.agg (eP tV),.c (xF aC w)] (aBG tV w r5 nI) YI (Gh y5) y5 z3 (aH (Bv r5) y4 (aT.split (fun hb6 => ?_) (fun hb6 => ?_)))))))
  ·refine aW (LT.dR Q mM) Q (gH hb6 Q Q) Q (bV (bQ (aj tV.aG) Q gY fF dS) Q Q (gH hb6 Q Q) Q (aS fun r7 lH => (aT.pure (dK [.agg (aj tV.aG)] (aPl tV.aG r7 lH) aHM (mV y3) J y3) z2 J (gH hb6 Q Q) Q (dD (Bv r7) hb6 y5 (aJ (Bv r7) y4 (On (aV Q z1 J)))))))
  ·refine aK hb6 y5 (aK hb6 y5 (aK hb6 y5 (dA (Bv false) hb6 aU (aJ (Bv false) y4 (On (aV Q z1 J))))))
 ·refine bT z1 J ⟨au.sc,J⟩ J
theorem aPT (code:(List Int)):FT Tryz.prog (WA code) 4 [.c (xT dI code)] [] (fun (t:Bool) => [.c (bC t)]) (fun (t:Bool) => []) []:=by
 refine FT.xK [] Tryz.func4 Tryz.ntmps4 Q y2 ?_
 intro w0 U0 R0 g0 hU
 unfold WA
 refine Ws (Wr ?_)
 refine aJ (Bv false) aZ (On (Ws (Ws (Wr ?_))))
 refine aH (Cc (xT dI code)) y4 (aS fun r1 hr1 => (iD [.c (xT dI code)] (aPU code r1 hr1) cb6 (.cons (.c (.weak (.same Q) (QW.fO aNb (fun h => by cases h) _))) .nil) y5 z2 (On (aB.cond Q (fun hc2 => ?_) (fun hc2 => ?_)))))
 ·refine Ws (Wr ?_)
  refine aJ (Bv true) aZ (On (bT z1 J ⟨au.sc,J⟩ J))
 ·refine aB.skip (Ws (Wr ?_))
  refine aH (Cc (xT dI code)) y4 (aS fun r3 hr3 => (aT.step (dK [.c (xT dI code)] (Fw.Fn.ren [(0,23),(1,24)] (aPZ code r3 hr3) Q) aHp (l9 Q) J y3) z2 J Q Q (iF 25 [iC 0,sC aX,sC aX,sC aX] oI y6 (dZ (stA [iC r3.aG.Graph.aI,lo 23 r3.aG.Graph.aF.length,xT aO r3.aG.Places,lo 24 r3.aN.length] Q Q eF dP) Q Q Q Q Q (On (Ws ?_))))))
  refine en [(0,Cc (xT dI code)),(3,Cc (.pl 25 0))] [(23,pR 40 aP r3.aG.Graph.aF),(24,pR 3 aC r3.aN),(25,.row 48 [[iC r3.aG.Graph.aI,lo 23 r3.aG.Graph.aF.length,xT aO r3.aG.Places,lo 24 r3.aN.length]])] z2 z3 (Wr (bV (bQ [iC r3.aG.Graph.aI,lo 23 r3.aG.Graph.aF.length,xT aO r3.aG.Places,lo 24 r3.aN.length] Q gZ eF dP) Q Q Q Q (aT.ent (aY.AB (enc:=aP) (xs:=r3.aG.Graph.aF) (σ':=[(0,Cc (xT dI code)),(3,Cc (.pl 25 0)),(30,Ag  [iC r3.aG.Graph.aI,xT aP r3.aG.Graph.aF,xT aO r3.aG.Places,lo 24 r3.aN.length])]) (m':=[(24,pR 3 aC r3.aN),(25,.row 48 [[iC r3.aG.Graph.aI,xT aP r3.aG.Graph.aF,xT aO r3.aG.Places,lo 24 r3.aN.length]])]) 23 hU Q Q ⟨⟨_,Q,.same Q⟩,⟨_,Q,.same Q⟩,⟨_,Q,.agg (.cons (.same Q) (.cons (.fr (by rw [List.length_map])) (.cons (.same Q) (.cons (.same Q) .nil))))⟩,J⟩ ⟨⟨Q,_,Q,.same Q⟩,⟨Q,_,Q,.row (.cons (.same Q) (.cons (.fr (by rw [List.length_map])) (.cons (.same Q) (.cons (.same Q) .nil))))⟩,J⟩) (aT.ent (aY.AB (enc:=aC) (xs:=r3.aN) (σ':=[(0,Cc (xT dI code)),(3,Cc (.pl 25 0)),(30,Ag  (iK r3))]) (m':=[(25,.row 48 [iK r3])]) 24 hU Q Q ⟨⟨_,Q,.same Q⟩,⟨_,Q,.same Q⟩,⟨_,Q,.agg (.cons (.same Q) (.cons (.same Q) (.cons (.same Q) (.cons (.fr (by rw [List.length_map])) .nil))))⟩,J⟩ ⟨⟨Q,_,Q,.row (.cons (.same Q) (.cons (.same Q) (.cons (.same Q) (.cons (.fr (by rw [List.length_map])) .nil))))⟩,J⟩) (aS fun r4 hr4 => (aT.step (dK [.agg (iK r3)] (Fw.Fn.ren [(0,27)] (aPB r3 r4 hr4) Q) aHq (Gg y4) J y3) z2 J Q Q (aH (.eH [.c (lo 27 r4.1.length),.c (bC r4.2)]) y4 (jQ (.c (lo 27 r4.1.length)) y5 (jQ (.c (bC r4.2)) y5 (aJ (Cc (lo 27 r4.1.length)) y4 (aJ (Bv r4.2) y4 ?_)))))))))))
  refine On (Ws ?_)
  refine en [(0,Cc (xT dI code)),(3,Cc (.pl 25 0)),(4,Cc (lo 27 r4.1.length)),(5,Bv r4.2)] [(25,.row 48 [iK r3]),(27,pR 3 aC r4.1)] z4 z2 (Wr (bV (bQ (iK r3) Q gZ eF dP) Q Q Q Q (aS fun r5 nI => (aT.step (dK [.agg (iK r3)] (Fw.Fn.ren [(0,29)] (aPh r3 r5 nI) Q) aHr (.cons (.agg (.cons (.same Q) (.cons (.weak (.same Q) (QW.fO xM (fun h => by cases h) _)) (.cons (.weak (.same Q) (QW.fO kW (fun h => by cases h) _)) (.cons (.weak (.same Q) (QW.fO pz (fun h => by cases h) _)) .nil))))) .nil) J y3) z2 J Q Q (aH (.eH [.c (lo 29 r5.1.length),.c (bC r5.2)]) y4 (jQ (.c (lo 29 r5.1.length)) y5 (jQ (.c (bC r5.2)) y5 (aJ (Cc (lo 29 r5.1.length)) y4 (aJ (Bv r5.2) y4 (On (Ws (Wr ?_))))))))))))
  refine bV (bQ (iK r3) Q gZ eF dP) Q Q Q Q (aS fun r6 EC => (aT.step (dK [.agg (iK r3)] (Fw.Fn.ren [(0,31)] (aO8 r3 r6 EC) Q) aHs (Gg y4) J y3) z2 J Q Q (aH (.eH [.c (lo 31 r6.1.length),.c (bC r6.2)]) y4 (jQ (.c (lo 31 r6.1.length)) y5 (jQ (.c (bC r6.2)) y5 (aJ (Cc (lo 31 r6.1.length)) y4 (aJ (Bv r6.2) y4 (On (Ws ?_)))))))))
  refine en [(0,Cc (xT dI code)),(3,Cc (.pl 25 0)),(4,Cc (lo 27 r4.1.length)),(5,Bv r4.2),(6,Cc (lo 29 r5.1.length)),(7,Bv r5.2),(8,Cc (lo 31 r6.1.length)),(9,Bv r6.2)] [(25,.row 48 [iK r3]),(27,pR 3 aC r4.1),(29,pR 3 aC r5.1),(31,pR 3 aC r6.1)] z8 z4 (Wr (bV (bQ (iK r3) Q gZ eF dP) Q Q Q Q (aS fun r7 lH => (iD [.agg (iK r3)] (aGE r3 r7 lH) aCQ (.cons (.agg (.cons (.same Q) (.cons (.weak (.same Q) (QW.fO xM (fun h => by cases h) _)) (.cons (.weak (.same Q) (QW.fO kW (fun h => by cases h) _)) (.cons (.weak (.same Q) (QW.fO pz (fun h => by cases h) _)) .nil))))) .nil) y5 z2 (aH (.eH [.c (xT aC r7.1),.c (bC r7.2)]) y4 (jQ (.c (xT aC r7.1)) y5 (jQ (.c (bC r7.2)) y5 (aJ (Cc (xT aC r7.1)) y4 (aJ (Bv r7.2) y4 (On (Ws (Ws ?_))))))))))))
  refine aB.eX (fun j21 => ([(0,Cc (xT dI code)),(3,Cc (.pl 25 0)),(5,Bv r4.2),(6,Cc (lo 29 r5.1.length)),(9,Bv r6.2),(86,Bv j21)],[(25,.row 48 [iK r3]),(29,pR 3 aC r5.1)])) ?_ (fun j21 _ => ?_)
  ·refine Wr (aH (Bv r4.2) y4 (aH (Bv r5.2) y4 (bg (LT.JW Q C9) Q Q Q Q (aH (Bv (r4.2 != r5.2)) y4 (aT.split (fun AP => ?_) (fun AP => ?_))))))
   ·refine aK AP y5 (aK AP y5 (aK AP y5 (aK AP y5 (dD (Bv true) AP aU (aH (Bv true) y4 (bF y5 (bF y5 (bF y5 (dD (Bv true) Q aU (aH (Bv true) y4 (bF y5 ?_)))))))))))
    refine bF y5 (bF y5 (bF y5 (dD (Bv true) Q aU (aH (Bv true) y4 (bF y5 (bF y5 (Oj Q Q Q Q (Oj Q Q Q Q (Oj Q Q Q Q (Oj Q Q Q Q (bF y5 ?_)))))))))))
    refine dD (Bv true) Q aU (aH (Bv true) y4 (bF y5 (bF y5 (Oj Q Q Q Q (Oj Q Q Q Q (Oj Q Q Q Q (Oj Q Q Q Q (bF y5 (dD (Bv true) Q aU (On (aV Q z6 z2)))))))))))
   ·refine dB (Cc (lo 27 r4.1.length)) AP y5 (dB (Cc (lo 29 r5.1.length)) AP y5 (aS fun wV QF => (aT.pure (cF [.c (lo 27 r4.1.length),.c (lo 29 r5.1.length)] [(27,pR 3 aC r4.1),(29,pR 3 aC r5.1)] (Xh r4.1 r5.1 wV QF) Ue (.cons (.c (.eU Q Q)) (.cons (.c (.eU Q Q)) .nil)) J y3) z3 z2 (gH AP Q Q) Q (aW (LT.not Q) Q (gH AP Q Q) Q (dA (Bv (!wV)) AP y5 (aH (Bv (!wV)) y4 (aT.split (fun Dy => ?_) (fun Dy => ?_))))))))
    ·refine aK Dy y5 (aK Dy y5 (aK Dy y5 (dD (Bv true) Dy aU (aH (Bv true) y4 (bF y5 (bF y5 (bF y5 (bF y5 (dD (Bv true) Q aU (aH (Bv true) y4 (bF y5 ?_)))))))))))
     refine bF y5 (Oj Q Q Q Q (Oj Q Q Q Q (Oj Q Q Q Q (Oj Q Q Q Q (bF y5 (dD (Bv true) Q aU (aH (Bv true) y4 (bF y5 (bF y5 (Oj Q Q Q Q (Oj Q Q Q Q ?_)))))))))))
     refine Oj Q Q Q Q (Oj Q Q Q Q (bF y5 (dD (Bv true) Q aU (On (aV Q z6 z2)))))
    ·refine dB (Bv r6.2) Dy y5 (dB (Bv r7.2) Dy y5 (bg (LT.JW Q C9) Q Q (gH Dy Q Q) Q (dA (Bv (r6.2 != r7.2)) Dy y5 (aH (Bv (r6.2 != r7.2)) y4 (aT.split (fun AQ => ?_) (fun AQ => ?_))))))
     ·refine aK AQ y5 (aK AQ y5 (aK AQ y5 (aK AQ y5 (dD (Bv true) AQ aU (aH (Bv true) y4 (bF y5 (bF y5 (Oj Q Q Q Q (Oj Q Q Q Q (Oj Q Q Q Q (Oj Q Q Q Q ?_)))))))))))
      refine bF y5 (dD (Bv true) Q aU (aH (Bv true) y4 (bF y5 (bF y5 (Oj Q Q Q Q (Oj Q Q Q Q (Oj Q Q Q Q (Oj Q Q Q Q (bF y5 (dD (Bv true) Q aU (On ?_)))))))))))
      refine aV Q z6 z2
     ·refine dB (Cc (lo 31 r6.1.length)) AQ y5 (dB (Cc (xT aC r7.1)) AQ y5 (aS fun qy QG => (aT.pure (cF [.c (lo 31 r6.1.length),.c (xT aC r7.1)] [(31,pR 3 aC r6.1)] (Xh r6.1 r7.1 qy QG) Ue (.cons (.c (.eU Q Q)) (.cons (.c (.weak (.same Q) (QW.fO pz (fun h => by cases h) _))) .nil)) J y3) z3 z1 (gH AQ Q Q) Q (aW (LT.not Q) Q (gH AQ Q Q) Q (dA (Bv (!qy)) AQ y5 (aH (Bv (!qy)) y4 (aT.split (fun AU => ?_) (fun AU => ?_))))))))
      ·refine aK AU y5 (aK AU y5 (Oj Q Q Q Q (Oj Q Q Q Q (Oj Q Q Q Q (Oj Q Q Q Q (aK AU y5 (dD (Bv true) AU aU (aH (Bv true) y4 (bF y5 (bF y5 (Oj Q Q Q Q ?_)))))))))))
       refine Oj Q Q Q Q (Oj Q Q Q Q (Oj Q Q Q Q (bF y5 (dD (Bv true) Q aU (On (aV Q z6 z2))))))
      ·refine dB (Bv r4.2) AU y5 (dB (Bv r4.2) AU y5 (aT.split (fun sF => ?_) (fun sF => ?_)))
       ·refine bV (bQ (iK r3) Q gZ eF dP) Q Q (gH sF Q Q) Q (dB (Cc (lo 29 r5.1.length)) sF y5 (aS fun pI QH => (aT.pure (cF [.agg (iK r3),.c (lo 29 r5.1.length)] [(29,pR 3 aC r5.1)] (UC r3 r5.1 pI QH) PO (.cons (.agg (.cons (.same Q) (.cons (.weak (.same Q) (QW.fO xM (fun h => by cases h) _)) (.cons (.weak (.same Q) (QW.fO kW (fun h => by cases h) _)) (.cons (.weak (.same Q) (QW.fO pz (fun h => by cases h) _)) .nil))))) (.cons (.c (.eU Q Q)) .nil)) J y3) z3 z1 (gH sF Q Q) Q (aW (LT.not Q) Q (gH sF Q Q) Q (bg (LT.nY (v:=(Bv (!pI))) Q sF) Q Q (gH AU Q Q) Q (dA (Bv (!pI)) AU y5 (aH (Bv (!pI)) y4 (aT.split (fun AX => ?_) (fun AX => ?_)))))))))
        ·refine aK AX y5 (aK AX y5 (Oj Q Q Q Q (Oj Q Q Q Q (Oj Q Q Q Q (Oj Q Q Q Q (aK AX y5 (dD (Bv true) AX aU (On (aV Q z6 z2)))))))))
        ·refine dB (Bv r6.2) AX y5 (dB (Bv r6.2) AX y5 (aT.split (fun AY => ?_) (fun AY => ?_)))
         ·refine bV (bQ (iK r3) Q gZ eF dP) Q Q (gH AY Q Q) Q (dB (Cc (xT aC r7.1)) AY y5 (aS fun r32 ZP => (aT.pure (dK [.agg (iK r3),.c (xT aC r7.1)] (UD r3 r7.1 r32 ZP) PS (.cons (.agg (.cons (.same Q) (.cons (.weak (.same Q) (QW.fO xM (fun h => by cases h) _)) (.cons (.weak (.same Q) (QW.fO kW (fun h => by cases h) _)) (.cons (.weak (.same Q) (QW.fO pz (fun h => by cases h) _)) .nil))))) (.cons (.c (.weak (.same Q) (QW.fO pz (fun h => by cases h) _))) .nil)) J y3) z3 J (gH AY Q Q) Q (aW (LT.not Q) Q (gH AY Q Q) Q (bg (LT.nY (v:=(Bv (!r32))) Q AY) Q Q (gH AX Q Q) Q (dA (Bv (!r32)) AX y5 (On (aV Q z6 z2))))))))
         ·refine aK AY y5 (aK AY y5 (aK AY y5 (aK AY y5 (bg (LT.oG (v:=(Bv false)) Q AY) Q y2 (gH AX Q Q) Q (dA (Bv false) AX y5 (On (aV Q z6 z2)))))))
       ·refine aK sF y5 (aK sF y5 (aK sF y5 (aK sF y5 (bg (LT.oG (v:=(Bv false)) Q sF) Q y2 (gH AU Q Q) Q (dA (Bv false) AU y5 (aH (Bv false) y4 (mv (Bv r6.2) Q Q (gS Q Q) Q (mv (Bv r6.2) Q Q (gS Q Q) Q (aT.split (fun AZ => ?_) (fun AZ => ?_))))))))))
        ·refine bV (bQ (iK r3) Q gZ eF dP) Q Q (gH AZ Q Q) Q (dB (Cc (xT aC r7.1)) AZ y5 (aS fun CW aKp => (aT.pure (dK [.agg (iK r3),.c (xT aC r7.1)] (UD r3 r7.1 CW aKp) PS (.cons (.agg (.cons (.same Q) (.cons (.weak (.same Q) (QW.fO xM (fun h => by cases h) _)) (.cons (.weak (.same Q) (QW.fO kW (fun h => by cases h) _)) (.cons (.weak (.same Q) (QW.fO pz (fun h => by cases h) _)) .nil))))) (.cons (.c (.weak (.same Q) (QW.fO pz (fun h => by cases h) _))) .nil)) J y3) z3 J (gH AZ Q Q) Q (aW (LT.not Q) Q (gH AZ Q Q) Q (bg (LT.nY (v:=(Bv (!CW))) Q AZ) Q Q (gS Q Q) Q (dA (Bv (!CW)) Q y5 (On (aV Q z6 z2))))))))
        ·refine aK AZ y5 (aK AZ y5 (aK AZ y5 (aK AZ y5 (bg (LT.oG (v:=(Bv false)) Q AZ) Q y2 (gS Q Q) Q (dA (Bv false) Q y5 (On (aV Q z6 z2)))))))
  ·refine aB.cond Q (fun Yw => ?_) (fun Yw => ?_)
   ·refine Ws (Wr ?_)
    refine aJ (Bv false) aZ (On (bT z1 J ⟨au.sc,J⟩ J))
   ·refine aB.skip (Ws (Ws ?_))
    refine aB.eX (fun j39 => ([(0,Cc (xT dI code)),(95,Bv j39)],[])) ?_ (fun j39 _ => ?_)
    ·refine Wr (aH (Bv r4.2) y4 (aH (Bv r4.2) y4 (aT.split (fun uo => ?_) (fun uo => ?_))))
     ·refine bV (bQ (iK r3) Q gZ eF dP) Q Q (gH uo Q Q) Q (dB (Cc (lo 29 r5.1.length)) uo y5 (aS fun CX ZU => (aT.pure (cF [.agg (iK r3),.c (lo 29 r5.1.length)] [(29,pR 3 aC r5.1)] (aBA r3 r5.1 CX ZU) YF (.cons (.agg (.cons (.same Q) (.cons (.weak (.same Q) (QW.fO xM (fun h => by cases h) _)) (.cons (.weak (.same Q) (QW.fO kW (fun h => by cases h) _)) (.cons (.weak (.same Q) (QW.fO pz (fun h => by cases h) _)) .nil))))) (.cons (.c (.eU Q Q)) .nil)) J y3) z3 z1 (gH uo Q Q) Q (dD (Bv CX) uo y5 (aH (Bv CX) y4 (aT.split (fun Pq => ?_) (fun Pq => ?_)))))))
      ·refine dB (Bv r6.2) Pq y5 (dD (Bv r6.2) Pq y5 (On (aV Q z2 J)))
      ·refine aK Pq y5 (dA (Bv false) Pq aU (On (aV Q z2 J)))
     ·refine aK uo y5 (aK uo y5 (aK uo y5 (dA (Bv false) uo aU (aH (Bv false) y4 (bF y5 (dA (Bv false) Q aU (On (aV Q z2 J))))))))
    ·refine aB.cond Q (fun aJf => ?_) (fun aJf => ?_)
     ·refine Ws (Wr ?_)
      refine aJ (Bv false) aZ (On (bT z1 J ⟨au.sc,J⟩ J))
     ·refine aB.skip (Ws (Wr ?_))
      refine aH (Cc (xT dI code)) y4 (aS fun iQ aKt => (aT.step (dK [.c (xT dI code)] (Fw.Fn.ren [(0,39),(1,40),(2,41)] (aPb code iQ aKt) Q) aHt (l9 Q) J y3) z2 J Q Q (aH (.eH [.agg [iC iQ.1.aG.Graph.aI,lo 39 iQ.1.aG.Graph.aF.length,xT aO iQ.1.aG.Places,lo 40 iQ.1.aN.length],.c (lo 41 iQ.2.length)]) y4 (jQ (.agg [iC iQ.1.aG.Graph.aI,lo 39 iQ.1.aG.Graph.aF.length,xT aO iQ.1.aG.Places,lo 40 iQ.1.aN.length]) y5 (jQ (.c (lo 41 iQ.2.length)) y5 (iF 42 [iC 0,sC aX,sC aX,sC aX] oI y6 (dZ (stA [iC iQ.1.aG.Graph.aI,lo 39 iQ.1.aG.Graph.aF.length,xT aO iQ.1.aG.Places,lo 40 iQ.1.aN.length] Q Q eF dP) Q Q Q Q Q (aJ (Cc (lo 41 iQ.2.length)) y4 (On (Ws ?_))))))))))
      refine en [(0,Cc (xT dI code)),(12,Cc (.pl 42 0)),(13,Cc (lo 41 iQ.2.length))] [(39,pR 40 aP iQ.1.aG.Graph.aF),(40,pR 3 aC iQ.1.aN),(41,pR 3 aC iQ.2),(42,.row 48 [[iC iQ.1.aG.Graph.aI,lo 39 iQ.1.aG.Graph.aF.length,xT aO iQ.1.aG.Places,lo 40 iQ.1.aN.length]])] z3 z4 (Wr (bV (bQ [iC iQ.1.aG.Graph.aI,lo 39 iQ.1.aG.Graph.aF.length,xT aO iQ.1.aG.Places,lo 40 iQ.1.aN.length] Q gZ eF dP) Q Q Q Q (aH (Cc (lo 41 iQ.2.length)) y4 (aS fun EW aKu => (aT.pure (cF [.agg [iC iQ.1.aG.Graph.aI,lo 39 iQ.1.aG.Graph.aF.length,xT aO iQ.1.aG.Places,lo 40 iQ.1.aN.length],.c (lo 41 iQ.2.length)] [(39,pR 40 aP iQ.1.aG.Graph.aF),(40,pR 3 aC iQ.1.aN),(41,pR 3 aC iQ.2)] (aA8 iQ.1 iQ.2 EW aKu) YG (.cons (.agg (.cons (.same Q) (.cons (.eU Q Q) (.cons (.weak (.same Q) (QW.fO kW (fun h => by cases h) _)) (.cons (.eU Q Q) .nil))))) (.cons (.c (.eU Q Q)) .nil)) J y3) z3 z3 Q Q (aJ (Bv EW) y4 (On (Ws (Wr ?_)))))))))
      refine jo (gu 44 aC [] [] dO iL y7) Q Q (aJ (Cc (lo 44 (([]:List Int).length))) y4 (On (Ws (Ws (Wr ?_)))))
      refine aJ (Iv 0) aZ (On (aB.block ?_))
      refine aB.jM (id:=0) (MX iQ EW) (fun kY => ([(0,Cc (xT dI code)),(12,Cc (.pl 42 0)),(13,Cc (lo 41 iQ.2.length)),(14,Bv EW),(15,Cc (lo 44 kY.2.length)),(16,Iv kY.1)],[(39,pR 40 aP iQ.1.aG.Graph.aF),(40,pR 3 aC iQ.1.aN),(41,pR 3 aC iQ.2),(42,.row 48 [[iC iQ.1.aG.Graph.aI,lo 39 iQ.1.aG.Graph.aF.length,xT aO iQ.1.aG.Places,lo 40 iQ.1.aN.length]]),(44,pR 3 aC kY.2)])) (fun ai => ([(0,Cc (xT dI code)),(12,Cc (.pl 42 0)),(13,Cc (lo 41 ai.2.2.2.1.length)),(14,Bv ai.1),(15,Cc (lo 44 ai.2.2.2.2.2.2.length))],[(39,pR 40 aP ai.2.1),(40,pR 3 aC ai.2.2.1),(41,pR 3 aC ai.2.2.2.1),(42,.row 48 [[iC ai.2.2.2.2.1,lo 39 ai.2.1.length,xT aO ai.2.2.2.2.2.1,lo 40 ai.2.2.1.length]]),(44,pR 3 aC ai.2.2.2.2.2.2)])) ?_ (aY.of z6 z5) Q (fun ai _ => ?_)
      ·intro kY
       unfold MX
       refine Ws (Ws (Wr ?_))
       refine aH (Iv kY.1) y4 (aH (Cc (lo 41 iQ.2.length)) y4 (aW (LT.lC Q dO) Q Q Q (af LT.lss y5 (On (aB.cond Q (fun aJj => ?_) (fun aJj => ?_))))))
       ·refine aB.skip (Ws (aB.block (Wr ?_)))
        refine aH (Cc (lo 44 kY.2.length)) y4 (aH (Cc (lo 41 iQ.2.length)) y4 (aH (Iv kY.1) y4 (aS fun x55 Ij => (jf (LT.jH Q Q dG Ij) Q Q Q Q Q (bV (ni 0 Q ak Ij) Q Q Q Q (aW (LT.neg Q) Q Q Q (pV (gu 45 aC [(0,.tmp 116,.c (iC (aA (-x55))))] ([aA (-x55)]:List Int) dO iL y7) Q Q Q (aS fun u56 Zf => (qM (LT.pK (enc:=aC) Q Q Q dO iL Q (by decide) (by decide) (fun _ => Q) (kU Zf)) Q Q Q Q Q Q (aJ (Cc (lo 44 ((kY.2 ++ ([aA (-x55)]:List Int)).length))) y4 (On (aB.blk ?_))))))))))))
        refine en [(0,Cc (xT dI code)),(12,Cc (.pl 42 0)),(13,Cc (lo 41 iQ.2.length)),(14,Bv EW),(15,Cc (lo 44 ((kY.2 ++ ([aA (-x55)]:List Int)).length))),(16,Iv kY.1)] [(39,pR 40 aP iQ.1.aG.Graph.aF),(40,pR 3 aC iQ.1.aN),(41,pR 3 aC iQ.2),(42,.row 48 [[iC iQ.1.aG.Graph.aI,lo 39 iQ.1.aG.Graph.aF.length,xT aO iQ.1.aG.Places,lo 40 iQ.1.aN.length]]),(44,pR 3 aC (kY.2 ++ ([aA (-x55)]:List Int)))] z6 z5 (Wr (aH (Iv kY.1) y4 (af LT.add aU (aJ (Iv (aA (kY.1 + 1))) y4 (On (aV Q z6 z5))))))
       ·refine eu y2 z5 z5
      ·refine Ws (Ws ?_)
       refine aB.eX (fun j72 => ([(0,Cc (xT dI code)),(12,Cc (.pl 42 0)),(13,Cc (lo 41 ai.2.2.2.1.length)),(156,Bv j72)],[(39,pR 40 aP ai.2.1),(40,pR 3 aC ai.2.2.1),(41,pR 3 aC ai.2.2.2.1),(42,.row 48 [[iC ai.2.2.2.2.1,lo 39 ai.2.1.length,xT aO ai.2.2.2.2.2.1,lo 40 ai.2.2.1.length]])])) ?_ (fun j72 _ => ?_)
       ·refine aB.draw mixed (ay (Bv ai.1) y4 (fM (bQ [iC ai.2.2.2.2.1,lo 39 ai.2.1.length,xT aO ai.2.2.2.2.2.1,lo 40 ai.2.2.1.length] Q gZ eF dP) Q Q Q Q (ay (Cc (lo 41 ai.2.2.2.1.length)) y4 (aQ.bind fun rC ZW => (aQ.pure (cF [.agg [iC ai.2.2.2.2.1,lo 39 ai.2.1.length,xT aO ai.2.2.2.2.2.1,lo 40 ai.2.2.1.length],.c (lo 41 ai.2.2.2.1.length)] [(39,pR 40 aP ai.2.1),(40,pR 3 aC ai.2.2.1),(41,pR 3 aC ai.2.2.2.1)] (aGG (bI.mk (ah.mk (bW.mk ai.2.2.2.2.1 ai.2.1) ai.2.2.2.2.2.1) ai.2.2.1) ai.2.2.2.1 rC ZW) aCR (.cons (.agg (.cons (.same Q) (.cons (.eU Q Q) (.cons (.weak (.same Q) (QW.fO kW (fun h => by cases h) _)) (.cons (.eU Q Q) .nil))))) (.cons (.c (.eU Q Q)) .nil)) J y3) z3 z3 Q Q (bZ (LT.JW Q C9) Q Q Q Q (ay (Bv (ai.1 != rC)) y4 (aQ.split (fun oO => ?_) (fun oO => ?_)))))))))
        ·refine bJ oO y3 (bJ oO y3 (bJ oO y3 (bJ oO y3 (bJ oO y3 (bJ oO y3 (mP (Bv true) oO aU (ay (Bv true) y4 (bM y3 (bM y3 (bM y3 (bM y3 ?_)))))))))))
         refine bM y3 (bM y3 (bM y3 (mP (Bv true) Q aU (ay (Bv true) y4 (bM y3 (bM y3 (bM y3 (bM y3 (bM y3 (bM y3 (bM y3 ?_)))))))))))
         refine mP (Bv true) Q aU (ay (Bv true) y4 (bM y3 (bM y3 (bM y3 (bM y3 (bM y3 (mP (Bv true) Q aU (dm (aV Q z4 z4)))))))))
        ·refine fM (bQ [iC ai.2.2.2.2.1,lo 39 ai.2.1.length,xT aO ai.2.2.2.2.2.1,lo 40 ai.2.2.1.length] Q gZ eF dP) Q Q (gH oO Q Q) Q (aQ.bind fun Az aK3 => (aQ.step (cF [.agg [iC ai.2.2.2.2.1,lo 39 ai.2.1.length,xT aO ai.2.2.2.2.2.1,lo 40 ai.2.2.1.length]] [(39,pR 40 aP ai.2.1),(40,pR 3 aC ai.2.2.1)] (Fw.Fn.ren [(0,48),(1,49),(2,50)] (aBC (bI.mk (ah.mk (bW.mk ai.2.2.2.2.1 ai.2.1) ai.2.2.2.2.2.1) ai.2.2.1) Az aK3) Q) YH (.cons (.agg (.cons (.same Q) (.cons (.eU Q Q) (.cons (.weak (.same Q) (QW.fO kW (fun h => by cases h) _)) (.cons (.eU Q Q) .nil))))) .nil) J y3) z2 z2 (gH oO Q Q) Q (kN (Cc (lo 44 ai.2.2.2.2.2.2.length)) oO y5 (aQ.bind fun Tc aK4 => (aQ.pure (cF [.agg [iC Az.aG.Graph.aI,lo 48 Az.aG.Graph.aF.length,lo 49 Az.aG.Places.length,lo 50 Az.aN.length],.c (lo 44 ai.2.2.2.2.2.2.length)] [(48,pR 40 aP Az.aG.Graph.aF),(49,pR 98 aO Az.aG.Places),(50,pR 3 aC Az.aN),(44,pR 3 aC ai.2.2.2.2.2.2)] (aA8 Az ai.2.2.2.2.2.2 Tc aK4) YG (.cons (.agg (.cons (.same Q) (.cons (.eU Q Q) (.cons (.eU Q Q) (.cons (.eU Q Q) .nil))))) (.cons (.c (.eU Q Q)) .nil)) J y3) z3 z4 (gH oO Q Q) Q (kN (Bv ai.1) oO y5 (bZ (LT.JW Q C9) Q Q (gH oO Q Q) Q (lm (Bv (Tc != ai.1)) oO y5 (ay (Bv (Tc != ai.1)) y4 (aQ.split (fun nU => ?_) (fun nU => ?_)))))))))))
         ·refine bJ nU y3 (bJ nU y3 (bJ nU y3 (bJ nU y3 (bJ nU y3 (bJ nU y3 (bJ nU y3 (mP (Bv true) nU aU (ay (Bv true) y4 (bM y3 (bM y3 (bM y3 ?_)))))))))))
          refine bM y3 (bM y3 (bM y3 (bM y3 (mP (Bv true) Q aU (ay (Bv true) y4 (bM y3 (bM y3 (bM y3 (bM y3 (bM y3 (mP (Bv true) Q aU ?_)))))))))))
          refine dm (aV Q z4 z4)
         ·refine fM (bQ [iC ai.2.2.2.2.1,lo 39 ai.2.1.length,xT aO ai.2.2.2.2.2.1,lo 40 ai.2.2.1.length] Q gZ eF dP) Q Q (gH nU Q Q) Q (kN (Cc (lo 41 ai.2.2.2.1.length)) nU y5 (aQ.bind fun Td aK6 => (aQ.pure (cF [.agg [iC ai.2.2.2.2.1,lo 39 ai.2.1.length,xT aO ai.2.2.2.2.2.1,lo 40 ai.2.2.1.length],.c (lo 41 ai.2.2.2.1.length)] [(39,pR 40 aP ai.2.1),(40,pR 3 aC ai.2.2.1),(41,pR 3 aC ai.2.2.2.1)] (UC (bI.mk (ah.mk (bW.mk ai.2.2.2.2.1 ai.2.1) ai.2.2.2.2.2.1) ai.2.2.1) ai.2.2.2.1 Td aK6) PO (.cons (.agg (.cons (.same Q) (.cons (.eU Q Q) (.cons (.weak (.same Q) (QW.fO kW (fun h => by cases h) _)) (.cons (.eU Q Q) .nil))))) (.cons (.c (.eU Q Q)) .nil)) J y3) z3 z3 (gH nU Q Q) Q (fM (bQ [iC ai.2.2.2.2.1,lo 39 ai.2.1.length,xT aO ai.2.2.2.2.2.1,lo 40 ai.2.2.1.length] Q gZ eF dP) Q Q (gH nU Q Q) Q (kN (Cc (lo 41 ai.2.2.2.1.length)) nU y5 (aQ.bind fun Tf aK7 => (aQ.pure (cF [.agg [iC ai.2.2.2.2.1,lo 39 ai.2.1.length,xT aO ai.2.2.2.2.2.1,lo 40 ai.2.2.1.length],.c (lo 41 ai.2.2.2.1.length)] [(39,pR 40 aP ai.2.1),(40,pR 3 aC ai.2.2.1),(41,pR 3 aC ai.2.2.2.1)] (aBG (bI.mk (ah.mk (bW.mk ai.2.2.2.2.1 ai.2.1) ai.2.2.2.2.2.1) ai.2.2.1) ai.2.2.2.1 Tf aK7) YI (.cons (.agg (.cons (.same Q) (.cons (.eU Q Q) (.cons (.weak (.same Q) (QW.fO kW (fun h => by cases h) _)) (.cons (.eU Q Q) .nil))))) (.cons (.c (.eU Q Q)) .nil)) J y3) z3 z3 (gH nU Q Q) Q (bZ (LT.JW Q C9) Q Q (gH nU Q Q) Q (lm (Bv (Td != Tf)) nU y5 (ay (Bv (Td != Tf)) y4 (aQ.split (fun wM => ?_) (fun wM => ?_))))))))))))
          ·refine bJ wM y3 (bJ wM y3 (bJ wM y3 (bJ wM y3 (bM y3 (bM y3 (bJ wM y3 (mP (Bv true) wM aU (ay (Bv true) y4 (bM y3 (bM y3 (bM y3 ?_)))))))))))
           refine bM y3 (bM y3 (mP (Bv true) Q aU (dm (aV Q z4 z4))))
          ·refine fM (bQ [iC ai.2.2.2.2.1,lo 39 ai.2.1.length,xT aO ai.2.2.2.2.2.1,lo 40 ai.2.2.1.length] Q gZ eF dP) Q Q (gH wM Q Q) Q (kN (Cc (lo 41 ai.2.2.2.1.length)) wM y5 (aQ.bind fun W9 aK8 => (aQ.pure (cF [.agg [iC ai.2.2.2.2.1,lo 39 ai.2.1.length,xT aO ai.2.2.2.2.2.1,lo 40 ai.2.2.1.length],.c (lo 41 ai.2.2.2.1.length)] [(39,pR 40 aP ai.2.1),(40,pR 3 aC ai.2.2.1),(41,pR 3 aC ai.2.2.2.1)] (UC (bI.mk (ah.mk (bW.mk ai.2.2.2.2.1 ai.2.1) ai.2.2.2.2.2.1) ai.2.2.1) ai.2.2.2.1 W9 aK8) PO (.cons (.agg (.cons (.same Q) (.cons (.eU Q Q) (.cons (.weak (.same Q) (QW.fO kW (fun h => by cases h) _)) (.cons (.eU Q Q) .nil))))) (.cons (.c (.eU Q Q)) .nil)) J y3) z3 z3 (gH wM Q Q) Q (kN (Bv W9) wM y5 (aQ.split (fun IU => ?_) (fun IU => ?_))))))
           ·refine kN (Bv ai.1) IU y5 (ax (LT.not Q) Q (gH IU Q Q) Q (bZ (LT.nY (v:=(Bv (!ai.1))) Q IU) Q Q (gH wM Q Q) Q (lm (Bv (!ai.1)) wM y5 (ay (Bv (!ai.1)) y4 (aQ.split (fun qR => ?_) (fun qR => ?_))))))
            ·refine bJ qR y3 (bJ qR y3 (bJ qR y3 (bJ qR y3 (bJ qR y3 (mP (Bv true) qR aU (dm (aV Q z4 z4)))))))
            ·refine fM (bQ [iC ai.2.2.2.2.1,lo 39 ai.2.1.length,xT aO ai.2.2.2.2.2.1,lo 40 ai.2.2.1.length] Q gZ eF dP) Q Q (gH qR Q Q) Q (aQ.bind fun XA aLA => (aQ.pure (cF [.agg [iC ai.2.2.2.2.1,lo 39 ai.2.1.length,xT aO ai.2.2.2.2.2.1,lo 40 ai.2.2.1.length]] [(39,pR 40 aP ai.2.1),(40,pR 3 aC ai.2.2.1)] (Oz (bI.mk (ah.mk (bW.mk ai.2.2.2.2.1 ai.2.1) ai.2.2.2.2.2.1) ai.2.2.1) XA aLA) KE (.cons (.agg (.cons (.same Q) (.cons (.eU Q Q) (.cons (.weak (.same Q) (QW.fO kW (fun h => by cases h) _)) (.cons (.eU Q Q) .nil))))) .nil) J y3) z2 z2 (gH qR Q Q) Q (fM (bQ [iC ai.2.2.2.2.1,lo 39 ai.2.1.length,xT aO ai.2.2.2.2.2.1,lo 40 ai.2.2.1.length] Q gZ eF dP) Q Q (gH qR Q Q) Q (aQ.bind fun XB aLB => (aQ.pure (cF [.agg [iC ai.2.2.2.2.1,lo 39 ai.2.1.length,xT aO ai.2.2.2.2.2.1,lo 40 ai.2.2.1.length]] [(39,pR 40 aP ai.2.1),(40,pR 3 aC ai.2.2.1)] (Gu (bI.mk (ah.mk (bW.mk ai.2.2.2.2.1 ai.2.1) ai.2.2.2.2.2.1) ai.2.2.1) XB aLB) E5 (.cons (.agg (.cons (.same Q) (.cons (.eU Q Q) (.cons (.weak (.same Q) (QW.fO kW (fun h => by cases h) _)) (.cons (.eU Q Q) .nil))))) .nil) J y3) z2 z2 (gH qR Q Q) Q (bZ (LT.JW Q C9) Q Q (gH qR Q Q) Q (lm (Bv (XA != XB)) qR y5 (dm (aV Q z4 z4)))))))))
           ·refine bJ IU y3 (bJ IU y3 (bZ (LT.oG (v:=(Bv false)) Q IU) Q y2 (gH wM Q Q) Q (lm (Bv false) wM y5 (ay (Bv false) y4 (fM (bQ [iC ai.2.2.2.2.1,lo 39 ai.2.1.length,xT aO ai.2.2.2.2.2.1,lo 40 ai.2.2.1.length] Q gZ eF dP) Q Q (gS Q Q) Q (aQ.bind fun XC aLC => (aQ.pure (cF [.agg [iC ai.2.2.2.2.1,lo 39 ai.2.1.length,xT aO ai.2.2.2.2.2.1,lo 40 ai.2.2.1.length]] [(39,pR 40 aP ai.2.1),(40,pR 3 aC ai.2.2.1)] (Oz (bI.mk (ah.mk (bW.mk ai.2.2.2.2.1 ai.2.1) ai.2.2.2.2.2.1) ai.2.2.1) XC aLC) KE (.cons (.agg (.cons (.same Q) (.cons (.eU Q Q) (.cons (.weak (.same Q) (QW.fO kW (fun h => by cases h) _)) (.cons (.eU Q Q) .nil))))) .nil) J y3) z2 z2 (gS Q Q) Q (fM (bQ [iC ai.2.2.2.2.1,lo 39 ai.2.1.length,xT aO ai.2.2.2.2.2.1,lo 40 ai.2.2.1.length] Q gZ eF dP) Q Q (gS Q Q) Q (aQ.bind fun XD aLD => (aQ.pure (cF [.agg [iC ai.2.2.2.2.1,lo 39 ai.2.1.length,xT aO ai.2.2.2.2.2.1,lo 40 ai.2.2.1.length]] [(39,pR 40 aP ai.2.1),(40,pR 3 aC ai.2.2.1)] (Gu (bI.mk (ah.mk (bW.mk ai.2.2.2.2.1 ai.2.1) ai.2.2.2.2.2.1) ai.2.2.1) XD aLD) E5 (.cons (.agg (.cons (.same Q) (.cons (.eU Q Q) (.cons (.weak (.same Q) (QW.fO kW (fun h => by cases h) _)) (.cons (.eU Q Q) .nil))))) .nil) J y3) z2 z2 (gS Q Q) Q (bZ (LT.JW Q C9) Q Q (gS Q Q) Q ?_)))))))))))
            refine lm (Bv (XC != XD)) Q y5 (dm (aV Q z4 z4))
       ·refine aB.cond Q (fun aJw => ?_) (fun aJw => ?_)
        ·refine Ws (Wr ?_)
         refine aJ (Bv false) aZ (On (bT z1 J ⟨au.sc,J⟩ J))
        ·refine aB.skip (Ws (Wr ?_))
         refine aH (Cc (xT dI code)) y4 (aS fun dH aLE => (aT.step (dK [.c (xT dI code)] (Fw.Fn.ren [(0,58),(1,59)] (aPa code dH aLE) Q) aHu (l9 Q) J y3) z2 J Q Q (aH (.eH [.agg [iC dH.1.aG.Graph.aI,lo 58 dH.1.aG.Graph.aF.length,xT aO dH.1.aG.Places,lo 59 dH.1.aN.length],.c (xT aC dH.2)]) y4 (jQ (.agg [iC dH.1.aG.Graph.aI,lo 58 dH.1.aG.Graph.aF.length,xT aO dH.1.aG.Places,lo 59 dH.1.aN.length]) y5 (jQ (.c (xT aC dH.2)) y5 (iF 60 [iC 0,sC aX,sC aX,sC aX] oI y6 (dZ (stA [iC dH.1.aG.Graph.aI,lo 58 dH.1.aG.Graph.aF.length,xT aO dH.1.aG.Places,lo 59 dH.1.aN.length] Q Q eF dP) Q Q Q Q Q (aJ (Cc (xT aC dH.2)) y4 (On (Ws (Ws ?_)))))))))))
         refine aB.eX (fun j103 => ([(0,Cc (xT dI code)),(17,Cc (.pl 60 0)),(18,Cc (xT aC dH.2)),(198,Bv j103)],[(58,pR 40 aP dH.1.aG.Graph.aF),(59,pR 3 aC dH.1.aN),(60,.row 48 [[iC dH.1.aG.Graph.aI,lo 58 dH.1.aG.Graph.aF.length,xT aO dH.1.aG.Places,lo 59 dH.1.aN.length]])])) ?_ (fun j103 _ => ?_)
         ·refine en [(0,Cc (xT dI code)),(12,Cc (.pl 42 0)),(13,Cc (lo 41 ai.2.2.2.1.length)),(17,Cc (.pl 60 0)),(18,Cc (xT aC dH.2))] [(39,pR 40 aP ai.2.1),(40,pR 3 aC ai.2.2.1),(41,pR 3 aC ai.2.2.2.1),(42,.row 48 [[iC ai.2.2.2.2.1,lo 39 ai.2.1.length,xT aO ai.2.2.2.2.2.1,lo 40 ai.2.2.1.length]]),(58,pR 40 aP dH.1.aG.Graph.aF),(59,pR 3 aC dH.1.aN),(60,.row 48 [[iC dH.1.aG.Graph.aI,lo 58 dH.1.aG.Graph.aF.length,xT aO dH.1.aG.Places,lo 59 dH.1.aN.length]])] z5 z7 (Wr (bV (bQ [iC dH.1.aG.Graph.aI,lo 58 dH.1.aG.Graph.aF.length,xT aO dH.1.aG.Places,lo 59 dH.1.aN.length] Q gZ eF dP) Q Q Q Q (aS fun Wi aKE => (aT.pure (cF [.agg [iC dH.1.aG.Graph.aI,lo 58 dH.1.aG.Graph.aF.length,xT aO dH.1.aG.Places,lo 59 dH.1.aN.length]] [(58,pR 40 aP dH.1.aG.Graph.aF),(59,pR 3 aC dH.1.aN)] (Gu dH.1 Wi aKE) E5 (.cons (.agg (.cons (.same Q) (.cons (.eU Q Q) (.cons (.weak (.same Q) (QW.fO kW (fun h => by cases h) _)) (.cons (.eU Q Q) .nil))))) .nil) J y3) z2 z2 Q Q (aH (Bv Wi) y4 (aT.split (fun Du => ?_) (fun Du => ?_)))))))
          ·refine bV (bQ [iC dH.1.aG.Graph.aI,lo 58 dH.1.aG.Graph.aF.length,xT aO dH.1.aG.Places,lo 59 dH.1.aN.length] Q gZ eF dP) Q Q (gH Du Q Q) Q (dB (Cc (xT aC dH.2)) Du y5 (aS fun uJ ZH => (aT.pure (cF [.agg [iC dH.1.aG.Graph.aI,lo 58 dH.1.aG.Graph.aF.length,xT aO dH.1.aG.Places,lo 59 dH.1.aN.length],.c (xT aC dH.2)] [(58,pR 40 aP dH.1.aG.Graph.aF),(59,pR 3 aC dH.1.aN)] (aA7 dH.1 dH.2 uJ ZH) YJ (.cons (.agg (.cons (.same Q) (.cons (.eU Q Q) (.cons (.weak (.same Q) (QW.fO kW (fun h => by cases h) _)) (.cons (.eU Q Q) .nil))))) (.cons (.c (.weak (.same Q) (QW.fO pz (fun h => by cases h) _))) .nil)) J y3) z3 z2 (gH Du Q Q) Q (dD (Bv uJ) Du y5 (aH (Bv uJ) y4 (aT.split (fun IA => ?_) (fun IA => ?_)))))))
           ·refine bV (bQ [iC ai.2.2.2.2.1,lo 39 ai.2.1.length,xT aO ai.2.2.2.2.2.1,lo 40 ai.2.2.1.length] Q gZ eF dP) Q Q (gH IA Q Q) Q (aS fun TL aKG => (aT.pure (cF [.agg [iC ai.2.2.2.2.1,lo 39 ai.2.1.length,xT aO ai.2.2.2.2.2.1,lo 40 ai.2.2.1.length]] [(39,pR 40 aP ai.2.1),(40,pR 3 aC ai.2.2.1)] (Gu (bI.mk (ah.mk (bW.mk ai.2.2.2.2.1 ai.2.1) ai.2.2.2.2.2.1) ai.2.2.1) TL aKG) E5 (.cons (.agg (.cons (.same Q) (.cons (.eU Q Q) (.cons (.weak (.same Q) (QW.fO kW (fun h => by cases h) _)) (.cons (.eU Q Q) .nil))))) .nil) J y3) z2 z2 (gH IA Q Q) Q (dD (Bv TL) IA y5 (aH (Bv TL) y4 (aT.split (fun yH => ?_) (fun yH => ?_))))))
            ·refine aW (LT.dR Q mM) Q (gH yH Q Q) Q (bV (bQ [iC ai.2.2.2.2.1,lo 39 ai.2.1.length,xT aO ai.2.2.2.2.2.1] Q gY fF dS) Q Q (gH yH Q Q) Q (aW (LT.dR Q mM) Q (gH yH Q Q) Q (bV (bQ [iC dH.1.aG.Graph.aI,lo 58 dH.1.aG.Graph.aF.length,xT aO dH.1.aG.Places] Q gY fF dS) Q Q (gH yH Q Q) Q (aS fun TM aKH => (aT.pure (cF [.agg [iC ai.2.2.2.2.1,lo 39 ai.2.1.length,xT aO ai.2.2.2.2.2.1],.agg [iC dH.1.aG.Graph.aI,lo 58 dH.1.aG.Graph.aF.length,xT aO dH.1.aG.Places]] [(39,pR 40 aP ai.2.1),(58,pR 40 aP dH.1.aG.Graph.aF)] (aGD (ah.mk (bW.mk ai.2.2.2.2.1 ai.2.1) ai.2.2.2.2.2.1) dH.1.aG TM aKH) aCS (.cons (.agg (.cons (.same Q) (.cons (.eU Q Q) (.cons (.weak (.same Q) (QW.fO kW (fun h => by cases h) _)) .nil)))) (.cons (.agg (.cons (.same Q) (.cons (.eU Q Q) (.cons (.weak (.same Q) (QW.fO kW (fun h => by cases h) _)) .nil)))) .nil)) J y3) z3 z2 (gH yH Q Q) Q (dD (Bv TM) yH y5 (aH (Bv TM) y4 (aT.split (fun tq => ?_) (fun tq => ?_)))))))))
             ·refine jd (lo 40 ai.2.2.1.length) jy fP tq iJ (jd (lo 59 dH.1.aN.length) jy fP tq iJ (aS fun TN aKJ => (aT.pure (cF [.c (lo 40 ai.2.2.1.length),.c (lo 59 dH.1.aN.length)] [(40,pR 3 aC ai.2.2.1),(59,pR 3 aC dH.1.aN)] (Xh ai.2.2.1 dH.1.aN TN aKJ) Ue (.cons (.c (.eU Q Q)) (.cons (.c (.eU Q Q)) .nil)) J y3) z3 z2 (gH tq Q Q) Q (dD (Bv TN) tq y5 (aH (Bv TN) y4 (aT.split (fun Dv => ?_) (fun Dv => ?_)))))))
              ·refine bV (bQ [iC ai.2.2.2.2.1,lo 39 ai.2.1.length,xT aO ai.2.2.2.2.2.1,lo 40 ai.2.2.1.length] Q gZ eF dP) Q Q (gH Dv Q Q) Q (dB (Cc (lo 41 ai.2.2.2.1.length)) Dv y5 (aS fun TP aKK => (aT.pure (cF [.agg [iC ai.2.2.2.2.1,lo 39 ai.2.1.length,xT aO ai.2.2.2.2.2.1,lo 40 ai.2.2.1.length],.c (lo 41 ai.2.2.2.1.length)] [(39,pR 40 aP ai.2.1),(40,pR 3 aC ai.2.2.1),(41,pR 3 aC ai.2.2.2.1)] (aBA (bI.mk (ah.mk (bW.mk ai.2.2.2.2.1 ai.2.1) ai.2.2.2.2.2.1) ai.2.2.1) ai.2.2.2.1 TP aKK) YF (.cons (.agg (.cons (.same Q) (.cons (.eU Q Q) (.cons (.weak (.same Q) (QW.fO kW (fun h => by cases h) _)) (.cons (.eU Q Q) .nil))))) (.cons (.c (.eU Q Q)) .nil)) J y3) z3 z3 (gH Dv Q Q) Q (dD (Bv TP) Dv y5 (aH (Bv TP) y4 (aT.split (fun jS => ?_) (fun jS => ?_)))))))
               ·refine aW (LT.dR Q mM) Q (gH jS Q Q) Q (bV (bQ [iC dH.1.aG.Graph.aI,lo 58 dH.1.aG.Graph.aF.length,xT aO dH.1.aG.Places] Q gY fF dS) Q Q (gH jS Q Q) Q (dB (Cc (xT aC dH.2)) jS y5 (aS fun Wj aKL => (aT.pure (cF [.agg [iC dH.1.aG.Graph.aI,lo 58 dH.1.aG.Graph.aF.length,xT aO dH.1.aG.Places],.c (xT aC dH.2)] [(58,pR 40 aP dH.1.aG.Graph.aF)] (aA9 dH.1.aG dH.2 Wj aKL) YK (.cons (.agg (.cons (.same Q) (.cons (.eU Q Q) (.cons (.weak (.same Q) (QW.fO kW (fun h => by cases h) _)) .nil)))) (.cons (.c (.weak (.same Q) (QW.fO pz (fun h => by cases h) _))) .nil)) J y3) z3 z1 (gH jS Q Q) Q (aW (LT.not Q) Q (gH jS Q Q) Q (dD (Bv (!Wj)) jS y5 (On (aV Q z4 z3))))))))
               ·refine aK jS y5 (aK jS y5 (aK jS y5 (aK jS y5 (aK jS y5 (dA (Bv false) jS aU (On (aV Q z4 z3)))))))
              ·refine aK Dv y5 (aK Dv y5 (aK Dv y5 (dA (Bv false) Dv aU (aH (Bv false) y4 (bF y5 (bF y5 (bF y5 (bF y5 (bF y5 (dA (Bv false) Q aU (On ?_)))))))))))
               refine aV Q z4 z3
             ·refine aK tq y5 (aK tq y5 (aK tq y5 (aK tq y5 (aK tq y5 (dA (Bv false) tq aU (aH (Bv false) y4 (bF y5 (bF y5 (bF y5 (dA (Bv false) Q aU (aH (Bv false) y4 ?_)))))))))))
              refine bF y5 (bF y5 (bF y5 (bF y5 (bF y5 (dA (Bv false) Q aU (On (aV Q z4 z3)))))))
            ·refine aK yH y5 (aK yH y5 (aK yH y5 (aK yH y5 (aK yH y5 (dA (Bv false) yH aU (aH (Bv false) y4 (bF y5 (bF y5 (bF y5 (bF y5 (bF y5 ?_)))))))))))
             refine dA (Bv false) Q aU (aH (Bv false) y4 (bF y5 (bF y5 (bF y5 (dA (Bv false) Q aU (aH (Bv false) y4 (bF y5 (bF y5 (bF y5 (bF y5 (bF y5 ?_)))))))))))
             refine dA (Bv false) Q aU (On (aV Q z4 z3))
           ·refine aK IA y5 (aK IA y5 (dA (Bv false) IA aU (aH (Bv false) y4 (bF y5 (bF y5 (bF y5 (bF y5 (bF y5 (dA (Bv false) Q aU (aH (Bv false) y4 (bF y5 ?_)))))))))))
            refine bF y5 (bF y5 (bF y5 (bF y5 (dA (Bv false) Q aU (aH (Bv false) y4 (bF y5 (bF y5 (bF y5 (dA (Bv false) Q aU (aH (Bv false) y4 (bF y5 ?_)))))))))))
            refine bF y5 (bF y5 (bF y5 (bF y5 (dA (Bv false) Q aU (On (aV Q z4 z3))))))
          ·refine aK Du y5 (aK Du y5 (aK Du y5 (dA (Bv false) Du aU (aH (Bv false) y4 (bF y5 (bF y5 (dA (Bv false) Q aU (aH (Bv false) y4 (bF y5 (bF y5 (bF y5 ?_)))))))))))
           refine bF y5 (bF y5 (dA (Bv false) Q aU (aH (Bv false) y4 (bF y5 (bF y5 (bF y5 (bF y5 (bF y5 (dA (Bv false) Q aU (aH (Bv false) y4 (bF y5 ?_)))))))))))
           refine bF y5 (bF y5 (dA (Bv false) Q aU (aH (Bv false) y4 (bF y5 (bF y5 (bF y5 (bF y5 (bF y5 (dA (Bv false) Q aU (On (aV Q z4 z3)))))))))))
         ·refine aB.cond Q (fun aJL => ?_) (fun aJL => ?_)
          ·refine Ws (Wr ?_)
           refine aJ (Bv false) aZ (On (bT z1 J ⟨au.sc,J⟩ J))
          ·refine aB.skip (Ws (Wr ?_))
           refine aH (Cc (xT dI code)) y4 (aS fun iE aKM => (aT.step (dK [.c (xT dI code)] (Fw.Fn.ren [(0,69),(1,70),(2,71)] (aPd code iE aKM) Q) aHv (l9 Q) J y3) z2 J Q Q (aH (.eH [.agg [iC iE.1.aG.Graph.aI,lo 69 iE.1.aG.Graph.aF.length,xT aO iE.1.aG.Places,lo 70 iE.1.aN.length],.c (lo 71 iE.2.length)]) y4 (jQ (.agg [iC iE.1.aG.Graph.aI,lo 69 iE.1.aG.Graph.aF.length,xT aO iE.1.aG.Places,lo 70 iE.1.aN.length]) y5 (jQ (.c (lo 71 iE.2.length)) y5 (iF 72 [iC 0,sC aX,sC aX,sC aX] oI y6 (dZ (stA [iC iE.1.aG.Graph.aI,lo 69 iE.1.aG.Graph.aF.length,xT aO iE.1.aG.Places,lo 70 iE.1.aN.length] Q Q eF dP) Q Q Q Q Q (aJ (Cc (lo 71 iE.2.length)) y4 (On (Ws ?_))))))))))
           refine en [(0,Cc (xT dI code)),(17,Cc (.pl 60 0)),(18,Cc (xT aC dH.2)),(19,Cc (.pl 72 0)),(20,Cc (lo 71 iE.2.length))] [(58,pR 40 aP dH.1.aG.Graph.aF),(59,pR 3 aC dH.1.aN),(60,.row 48 [[iC dH.1.aG.Graph.aI,lo 58 dH.1.aG.Graph.aF.length,xT aO dH.1.aG.Places,lo 59 dH.1.aN.length]]),(69,pR 40 aP iE.1.aG.Graph.aF),(70,pR 3 aC iE.1.aN),(71,pR 3 aC iE.2),(72,.row 48 [[iC iE.1.aG.Graph.aI,lo 69 iE.1.aG.Graph.aF.length,xT aO iE.1.aG.Places,lo 70 iE.1.aN.length]])] z5 z7 (Wr (aH (Cc (xT dI code)) y4 (aS fun jB aKN => (aT.step (dK [.c (xT dI code)] (Fw.Fn.ren [(0,74),(1,75)] (aPc code jB aKN) Q) aHw (l9 Q) J y3) z2 J Q Q (aH (.eH [.agg [iC jB.1.aG.Graph.aI,lo 74 jB.1.aG.Graph.aF.length,xT aO jB.1.aG.Places,lo 75 jB.1.aN.length],.c (xT aC jB.2)]) y4 (jQ (.agg [iC jB.1.aG.Graph.aI,lo 74 jB.1.aG.Graph.aF.length,xT aO jB.1.aG.Places,lo 75 jB.1.aN.length]) y5 (jQ (.c (xT aC jB.2)) y5 (iF 76 [iC 0,sC aX,sC aX,sC aX] oI y6 (dZ (stA [iC jB.1.aG.Graph.aI,lo 74 jB.1.aG.Graph.aF.length,xT aO jB.1.aG.Places,lo 75 jB.1.aN.length] Q Q eF dP) Q Q Q Q Q (aJ (Cc (xT aC jB.2)) y4 (On (Ws ?_))))))))))))
           refine en [(0,Cc (xT dI code)),(17,Cc (.pl 60 0)),(18,Cc (xT aC dH.2)),(19,Cc (.pl 72 0)),(20,Cc (lo 71 iE.2.length)),(21,Cc (.pl 76 0)),(22,Cc (xT aC jB.2))] [(58,pR 40 aP dH.1.aG.Graph.aF),(59,pR 3 aC dH.1.aN),(60,.row 48 [[iC dH.1.aG.Graph.aI,lo 58 dH.1.aG.Graph.aF.length,xT aO dH.1.aG.Places,lo 59 dH.1.aN.length]]),(69,pR 40 aP iE.1.aG.Graph.aF),(70,pR 3 aC iE.1.aN),(71,pR 3 aC iE.2),(72,.row 48 [[iC iE.1.aG.Graph.aI,lo 69 iE.1.aG.Graph.aF.length,xT aO iE.1.aG.Places,lo 70 iE.1.aN.length]]),(74,pR 40 aP jB.1.aG.Graph.aF),(75,pR 3 aC jB.1.aN),(76,.row 48 [[iC jB.1.aG.Graph.aI,lo 74 jB.1.aG.Graph.aF.length,xT aO jB.1.aG.Places,lo 75 jB.1.aN.length]])] z7 z10 (Wr (aH (Cc (xT dI code)) y4 (aS fun lM aKO => (aT.step (dK [.c (xT dI code)] (Fw.Fn.ren [(0,78),(1,79)] (aPe code lM aKO) Q) aHx (l9 Q) J y3) z2 J Q Q (iF 80 [iC 0,sC aX,sC aX,sC aX] oI y6 (dZ (stA [iC lM.aG.Graph.aI,lo 78 lM.aG.Graph.aF.length,xT aO lM.aG.Places,lo 79 lM.aN.length] Q Q eF dP) Q Q Q Q Q (On (Ws (Wr ?_)))))))))
           refine bV (bQ [iC lM.aG.Graph.aI,lo 78 lM.aG.Graph.aF.length,xT aO lM.aG.Places,lo 79 lM.aN.length] Q gZ eF dP) Q Q Q Q (aS fun Ar aKP => (aT.step (cF [.agg [iC lM.aG.Graph.aI,lo 78 lM.aG.Graph.aF.length,xT aO lM.aG.Places,lo 79 lM.aN.length]] [(78,pR 40 aP lM.aG.Graph.aF),(79,pR 3 aC lM.aN)] (Fw.Fn.ren [(0,82),(1,83),(2,84)] (aBC lM Ar aKP) Q) YH (.cons (.agg (.cons (.same Q) (.cons (.eU Q Q) (.cons (.weak (.same Q) (QW.fO kW (fun h => by cases h) _)) (.cons (.eU Q Q) .nil))))) .nil) J y3) z2 z2 Q Q (aS fun oq aKQ => (aT.step (cF [.agg [iC Ar.aG.Graph.aI,lo 82 Ar.aG.Graph.aF.length,lo 83 Ar.aG.Places.length,lo 84 Ar.aN.length]] [(82,pR 40 aP Ar.aG.Graph.aF),(83,pR 98 aO Ar.aG.Places),(84,pR 3 aC Ar.aN)] (Fw.Fn.ren [(0,86),(1,87),(2,88)] (aBC Ar oq aKQ) Q) YH (.cons (.agg (.cons (.same Q) (.cons (.eU Q Q) (.cons (.eU Q Q) (.cons (.eU Q Q) .nil))))) .nil) J y3) z2 z3 Q Q (iF 89 [iC 0,sC aX,sC aX,sC aX] oI y6 (dZ (stA [iC oq.aG.Graph.aI,lo 86 oq.aG.Graph.aF.length,lo 87 oq.aG.Places.length,lo 88 oq.aN.length] Q Q eF dP) Q Q Q Q Q (On (Ws ?_))))))))
           refine aB.eX (fun j135 => ([(2,Bv j135)],[])) ?_ (fun j135 _ => ?_)
           ·refine en [(17,Cc (.pl 60 0)),(18,Cc (xT aC dH.2)),(19,Cc (.pl 72 0)),(20,Cc (lo 71 iE.2.length)),(21,Cc (.pl 76 0)),(22,Cc (xT aC jB.2)),(23,Cc (.pl 80 0)),(24,Cc (.pl 89 0))] [(58,pR 40 aP dH.1.aG.Graph.aF),(59,pR 3 aC dH.1.aN),(60,.row 48 [[iC dH.1.aG.Graph.aI,lo 58 dH.1.aG.Graph.aF.length,xT aO dH.1.aG.Places,lo 59 dH.1.aN.length]]),(69,pR 40 aP iE.1.aG.Graph.aF),(70,pR 3 aC iE.1.aN),(71,pR 3 aC iE.2),(72,.row 48 [[iC iE.1.aG.Graph.aI,lo 69 iE.1.aG.Graph.aF.length,xT aO iE.1.aG.Places,lo 70 iE.1.aN.length]]),(74,pR 40 aP jB.1.aG.Graph.aF),(75,pR 3 aC jB.1.aN),(76,.row 48 [[iC jB.1.aG.Graph.aI,lo 74 jB.1.aG.Graph.aF.length,xT aO jB.1.aG.Places,lo 75 jB.1.aN.length]]),(78,pR 40 aP lM.aG.Graph.aF),(79,pR 3 aC lM.aN),(80,.row 48 [[iC lM.aG.Graph.aI,lo 78 lM.aG.Graph.aF.length,xT aO lM.aG.Places,lo 79 lM.aN.length]]),(86,pR 40 aP oq.aG.Graph.aF),(87,pR 98 aO oq.aG.Places),(88,pR 3 aC oq.aN),(89,.row 48 [[iC oq.aG.Graph.aI,lo 86 oq.aG.Graph.aF.length,lo 87 oq.aG.Places.length,lo 88 oq.aN.length]])] z8 ⟨Q,Q,Q,Q,Q,Q,Q,Q,Q,Q,Q,Q,Q,Q,Q,Q,Q,J⟩ (aB.draw mixed (fM (bQ [iC dH.1.aG.Graph.aI,lo 58 dH.1.aG.Graph.aF.length,xT aO dH.1.aG.Places,lo 59 dH.1.aN.length] Q gZ eF dP) Q Q Q Q (ay (Cc (xT aC dH.2)) y4 (aQ.bind fun Wl aKS => (aQ.pure (cF [.agg [iC dH.1.aG.Graph.aI,lo 58 dH.1.aG.Graph.aF.length,xT aO dH.1.aG.Places,lo 59 dH.1.aN.length],.c (xT aC dH.2)] [(58,pR 40 aP dH.1.aG.Graph.aF),(59,pR 3 aC dH.1.aN)] (aA7 dH.1 dH.2 Wl aKS) YJ (.cons (.agg (.cons (.same Q) (.cons (.eU Q Q) (.cons (.weak (.same Q) (QW.fO kW (fun h => by cases h) _)) (.cons (.eU Q Q) .nil))))) (.cons (.c (.weak (.same Q) (QW.fO pz (fun h => by cases h) _))) .nil)) J y3) z3 z2 Q Q (fM (bQ [iC dH.1.aG.Graph.aI,lo 58 dH.1.aG.Graph.aF.length,xT aO dH.1.aG.Places,lo 59 dH.1.aN.length] Q gZ eF dP) Q Q Q Q (ay (Cc (xT aC dH.2)) y4 (aQ.bind fun Wn aKT => (aQ.pure (cF [.agg [iC dH.1.aG.Graph.aI,lo 58 dH.1.aG.Graph.aF.length,xT aO dH.1.aG.Places,lo 59 dH.1.aN.length],.c (xT aC dH.2)] [(58,pR 40 aP dH.1.aG.Graph.aF),(59,pR 3 aC dH.1.aN)] (aGF dH.1 dH.2 Wn aKT) aCT (.cons (.agg (.cons (.same Q) (.cons (.eU Q Q) (.cons (.weak (.same Q) (QW.fO kW (fun h => by cases h) _)) (.cons (.eU Q Q) .nil))))) (.cons (.c (.weak (.same Q) (QW.fO pz (fun h => by cases h) _))) .nil)) J y3) z3 z2 Q Q (bZ (LT.YV Q C9) Q Q Q Q (ay (Bv (Wl == Wn)) y4 ?_)))))))))))
            refine aQ.split (fun uj => ?_) (fun uj => ?_)
            ·refine fM (bQ [iC iE.1.aG.Graph.aI,lo 69 iE.1.aG.Graph.aF.length,xT aO iE.1.aG.Places,lo 70 iE.1.aN.length] Q gZ eF dP) Q Q (gH uj Q Q) Q (kN (Cc (lo 71 iE.2.length)) uj y5 (aQ.bind fun TQ aKU => (aQ.pure (cF [.agg [iC iE.1.aG.Graph.aI,lo 69 iE.1.aG.Graph.aF.length,xT aO iE.1.aG.Places,lo 70 iE.1.aN.length],.c (lo 71 iE.2.length)] [(69,pR 40 aP iE.1.aG.Graph.aF),(70,pR 3 aC iE.1.aN),(71,pR 3 aC iE.2)] (aBA iE.1 iE.2 TQ aKU) YF (.cons (.agg (.cons (.same Q) (.cons (.eU Q Q) (.cons (.weak (.same Q) (QW.fO kW (fun h => by cases h) _)) (.cons (.eU Q Q) .nil))))) (.cons (.c (.eU Q Q)) .nil)) J y3) z3 z3 (gH uj Q Q) Q (fM (bQ [iC iE.1.aG.Graph.aI,lo 69 iE.1.aG.Graph.aF.length,xT aO iE.1.aG.Places,lo 70 iE.1.aN.length] Q gZ eF dP) Q Q (gH uj Q Q) Q (kN (Cc (lo 71 iE.2.length)) uj y5 (aQ.bind fun xO ZJ => (aQ.pure (cF [.agg [iC iE.1.aG.Graph.aI,lo 69 iE.1.aG.Graph.aF.length,xT aO iE.1.aG.Places,lo 70 iE.1.aN.length],.c (lo 71 iE.2.length)] [(69,pR 40 aP iE.1.aG.Graph.aF),(70,pR 3 aC iE.1.aN),(71,pR 3 aC iE.2)] (aPo iE.1 iE.2 xO ZJ) aHy (.cons (.agg (.cons (.same Q) (.cons (.eU Q Q) (.cons (.weak (.same Q) (QW.fO kW (fun h => by cases h) _)) (.cons (.eU Q Q) .nil))))) (.cons (.c (.eU Q Q)) .nil)) J y3) z3 z3 (gH uj Q Q) Q (bZ (LT.YV Q C9) Q Q (gH uj Q Q) Q (mP (Bv (TQ == xO)) uj y5 (ay (Bv (TQ == xO)) y4 (aQ.split (fun um => ?_) (fun um => ?_))))))))))))
             ·refine fM (bQ [iC jB.1.aG.Graph.aI,lo 74 jB.1.aG.Graph.aF.length,xT aO jB.1.aG.Places,lo 75 jB.1.aN.length] Q gZ eF dP) Q Q (gH um Q Q) Q (kN (Cc (xT aC jB.2)) um y5 (aQ.bind fun TR aKV => (aQ.pure (cF [.agg [iC jB.1.aG.Graph.aI,lo 74 jB.1.aG.Graph.aF.length,xT aO jB.1.aG.Places,lo 75 jB.1.aN.length],.c (xT aC jB.2)] [(74,pR 40 aP jB.1.aG.Graph.aF),(75,pR 3 aC jB.1.aN)] (UD jB.1 jB.2 TR aKV) PS (.cons (.agg (.cons (.same Q) (.cons (.eU Q Q) (.cons (.weak (.same Q) (QW.fO kW (fun h => by cases h) _)) (.cons (.eU Q Q) .nil))))) (.cons (.c (.weak (.same Q) (QW.fO pz (fun h => by cases h) _))) .nil)) J y3) z3 z2 (gH um Q Q) Q (fM (bQ [iC jB.1.aG.Graph.aI,lo 74 jB.1.aG.Graph.aF.length,xT aO jB.1.aG.Places,lo 75 jB.1.aN.length] Q gZ eF dP) Q Q (gH um Q Q) Q (kN (Cc (xT aC jB.2)) um y5 (aQ.bind fun TT aKW => (aQ.pure (cF [.agg [iC jB.1.aG.Graph.aI,lo 74 jB.1.aG.Graph.aF.length,xT aO jB.1.aG.Places,lo 75 jB.1.aN.length],.c (xT aC jB.2)] [(74,pR 40 aP jB.1.aG.Graph.aF),(75,pR 3 aC jB.1.aN)] (aBI jB.1 jB.2 TT aKW) YL (.cons (.agg (.cons (.same Q) (.cons (.eU Q Q) (.cons (.weak (.same Q) (QW.fO kW (fun h => by cases h) _)) (.cons (.eU Q Q) .nil))))) (.cons (.c (.weak (.same Q) (QW.fO pz (fun h => by cases h) _))) .nil)) J y3) z3 z2 (gH um Q Q) Q (bZ (LT.YV Q C9) Q Q (gH um Q Q) Q (mP (Bv (TR == TT)) um y5 (ay (Bv (TR == TT)) y4 (aQ.split (fun yI => ?_) (fun yI => ?_))))))))))))
              ·refine ax (LT.dR Q mM) Q (gH yI Q Q) Q (fM (bQ [iC oq.aG.Graph.aI,lo 86 oq.aG.Graph.aF.length,lo 87 oq.aG.Places.length] Q gY fF dS) Q Q (gH yI Q Q) Q (ax (LT.dR Q mM) Q (gH yI Q Q) Q (fM (bQ [iC lM.aG.Graph.aI,lo 78 lM.aG.Graph.aF.length,xT aO lM.aG.Places] Q gY fF dS) Q Q (gH yI Q Q) Q (aQ.bind fun TU aKX => (aQ.pure (cF [.agg [iC oq.aG.Graph.aI,lo 86 oq.aG.Graph.aF.length,lo 87 oq.aG.Places.length],.agg [iC lM.aG.Graph.aI,lo 78 lM.aG.Graph.aF.length,xT aO lM.aG.Places]] [(86,pR 40 aP oq.aG.Graph.aF),(87,pR 98 aO oq.aG.Places),(78,pR 40 aP lM.aG.Graph.aF)] (aGD oq.aG lM.aG TU aKX) aCS (.cons (.agg (.cons (.same Q) (.cons (.eU Q Q) (.cons (.eU Q Q) .nil)))) (.cons (.agg (.cons (.same Q) (.cons (.eU Q Q) (.cons (.weak (.same Q) (QW.fO kW (fun h => by cases h) _)) .nil)))) .nil)) J y3) z3 z3 (gH yI Q Q) Q (mP (Bv TU) yI y5 (ay (Bv TU) y4 (aQ.split (fun AO => ?_) (fun AO => ?_)))))))))
               ·refine ql (lo 88 oq.aN.length) jy fP AO iJ (ql (lo 79 lM.aN.length) jy fP AO iJ (aQ.bind fun TV aKY => (aQ.pure (cF [.c (lo 88 oq.aN.length),.c (lo 79 lM.aN.length)] [(88,pR 3 aC oq.aN),(79,pR 3 aC lM.aN)] (Xh oq.aN lM.aN TV aKY) Ue (.cons (.c (.eU Q Q)) (.cons (.c (.eU Q Q)) .nil)) J y3) z3 z2 (gH AO Q Q) Q (mP (Bv TV) AO y5 (ax (LT.assign (v:=(Bv TV)) Q) Q Q Q (dm (aV Q z1 J)))))))
               ·refine bJ AO y3 (bJ AO y3 (bJ AO y3 (bJ AO y3 (bJ AO y3 (lm (Bv false) AO aU (ax (LT.assign (v:=(Bv false)) Q) Q Q Q (dm (aV Q z1 J))))))))
              ·refine bJ yI y3 (bJ yI y3 (bJ yI y3 (bJ yI y3 (bJ yI y3 (lm (Bv false) yI aU (ay (Bv false) y4 (bM y3 (bM y3 (bM y3 (bM y3 (bM y3 ?_)))))))))))
               refine lm (Bv false) Q aU (ax (LT.assign (v:=(Bv false)) Q) Q Q Q (dm (aV Q z1 J)))
             ·refine bJ um y3 (bJ um y3 (bJ um y3 (bJ um y3 (bJ um y3 (bJ um y3 (bJ um y3 (lm (Bv false) um aU (ay (Bv false) y4 (bM y3 (bM y3 (bM y3 ?_)))))))))))
              refine bM y3 (bM y3 (lm (Bv false) Q aU (ay (Bv false) y4 (bM y3 (bM y3 (bM y3 (bM y3 (bM y3 (lm (Bv false) Q aU (ax (LT.assign (v:=(Bv false)) Q) Q Q Q (dm ?_)))))))))))
              refine aV Q z1 J
            ·refine bJ uj y3 (bJ uj y3 (bJ uj y3 (bJ uj y3 (bJ uj y3 (bJ uj y3 (bJ uj y3 (lm (Bv false) uj aU (ay (Bv false) y4 (bM y3 (bM y3 (bM y3 ?_)))))))))))
             refine bM y3 (bM y3 (bM y3 (bM y3 (lm (Bv false) Q aU (ay (Bv false) y4 (bM y3 (bM y3 (bM y3 (bM y3 (bM y3 (lm (Bv false) Q aU ?_)))))))))))
             refine ay (Bv false) y4 (bM y3 (bM y3 (bM y3 (bM y3 (bM y3 (lm (Bv false) Q aU (ax (LT.assign (v:=(Bv false)) Q) Q Q Q (dm (aV Q z1 J)))))))))
           ·refine bT z1 J ⟨au.sc,J⟩ J
end Go.Proofs.YtdmlaldifbmkpaaGreat
end
section
namespace Go.Fw
open Go.ChangeShapes Go.WideShapes Go.ChangeAt Go.RowKit
open Go.Proofs.YtdmlaldifbmkpaaGreat (Rows.uptoBulk Rows.uptoBulkAll)
abbrev vS (W:World):Nat → Prop:=fun b => b < W.heap.size
abbrev Ep:Nat → Prop:=fun _ => False
abbrev Pm:Nat → GS:=fun _ => .dead
def Opn {α:Type} (P:Program) (t:TypeId) (s:Nat) (enc:α → List PV) (wt:α → Nat) (ok:α → Prop):Prop :=
 ∀ (H:Type) (e:TypeId × Value → H) (W:World) (base:Nat) (spare:Nat → Bool) (held:Bool) (fuel:Nat) (cs:List Value) (x:DataW H × List MemPlace),DataW.trod e P W base spare held fuel t cs = some x →
  ∃ a:α,ok a ∧ wt a ≤ Go.Proofs.YtdmlaldifbmkpaaGreat.Rows.uptoBulk x.1 ∧ cs.length = s ∧ (enc a).length = s ∧ ∀ (k:Nat) p,(enc a)[k]? = some p → ∃ u,cs[k]? = some u ∧ jg W Ep (vS W) p u
def okL {α:Type} (ok:α → Prop) (xs:List α):Prop:=∀ x ∈ xs,ok x
def O3 (_:Int):Nat:=1
def Jp {α:Type} (wt:α → Nat) (xs:List α):Nat:=(xs.map wt).sum + 1
section
variable {P:Program}
theorem one1 {p q:PV} {cs:List Value} {v:Value} {W:World} (hcs:cs = [v]) (h:jg W Ep (vS W) p v):∀ (k:Nat) r,[p][k]? = some r → ∃ u,cs[k]? = some u ∧ jg W Ep (vS W) r u:=fun k r hk => by
 subst hcs
 cases k with
 | zero => simp at hk; subst hk; exact ⟨v,rfl,h⟩
 | succ k => simp at hk
theorem aD2 {α:Type} {p:Nat → α → Prop}:∀ n:Nat,(∀ i,i < n → ∃ a,p i a) → ∃ xs:List α,xs.length = n ∧ ∀ (i:Nat) a,xs[i]? = some a → p i a
 | 0,_ => ⟨[],rfl,fun i a h => by simp at h⟩
 | n + 1,h => by
  obtain ⟨xs,h1,h2⟩:=aD2 n fun i hi => h i (by omega)
  obtain ⟨a,ha⟩:=h n (by omega)
  refine ⟨xs ++ [a],by simp [h1],fun i b hb => ?_⟩
  rw [List.getElem?_append] at hb
  split at hb
  ·exact h2 i b hb
  ·rename_i hn
   have hi:i - xs.length = 0:=by
    have:=(List.getElem?_eq_some_iff.1 hb).1
    simp at this
    omega
   rw [hi] at hb
   simp at hb
   subst hb
   have:i = n:=by omega
   subst this
   exact ha
theorem aB0 {α:Type} {H:Type} {wt:α → Nat} {D:Nat → DataW H}:∀ (xs:List α) (k:Nat),(∀ (i:Nat) a,xs[i]? = some a → wt a ≤ Go.Proofs.YtdmlaldifbmkpaaGreat.Rows.uptoBulk (D (k + i))) →
  (xs.map wt).sum ≤ Go.Proofs.YtdmlaldifbmkpaaGreat.Rows.uptoBulkAll ((List.range' k xs.length).map D)
 | [],_,_ => by simp [Go.Proofs.YtdmlaldifbmkpaaGreat.Rows.uptoBulkAll]
 | a :: r,k,h => by
  have h0:=h 0 a rfl
  have ih:=aB0 r (k + 1) fun i b hb => by
   have:=h (i + 1) b (by simpa using hb)
   rwa [show k + 1 + i = k + (i + 1) by omega]
  rw [Nat.add_zero] at h0
  simp only [List.map_cons,List.sum_cons,List.length_cons,List.range'_succ,Go.Proofs.YtdmlaldifbmkpaaGreat.Rows.uptoBulkAll]
  omega
theorem cell_lt {w:World} {a:Addr} {v:Value} (h:w.cell? a = some v):a.block < w.heap.size:=by
 unfold World.cell? at h
 cases hb:w.heap[a.block]? with
 | none => rw [hb] at h; simp at h
 | some o => exact (Array.getElem?_eq_some_iff.1 hb).1
theorem Opn.slice {α:Type} {t e:TypeId} {s:Nat} {enc:α → List PV} {wt:α → Nat} {ok:α → Prop} (ht:P.underlying t = some (.slice e)) (hs:P.cellsOf e = s) (hs0:0 < s) (he:Opn P e s enc wt ok) :
  Opn P t 1 (fun xs:List α => [.xs false (xs.map enc)]) (Jp wt) (okL ok):=fun H en W base spare held fuel cs x h => by
 rcases Go.Deep.open_slice ht h with ⟨rfl,rfl⟩ | ⟨a,len,cap,m,n,D,Pl,rfl,hb,hl,hm,hmm,rfl,hi⟩
 ·refine ⟨[],?_,?_,rfl,rfl,one1 (q:=.xs false []) rfl .emp⟩
  ·intro x hx; cases hx
  ·simp [Jp,Go.Proofs.YtdmlaldifbmkpaaGreat.Rows.uptoBulk]
 ·have hml:len ≤ m:=by rw [hmm]; split <;> omega
  obtain ⟨xs,hxl,hx⟩:=aD2 (p:=fun i (b:α) => ok b ∧ wt b ≤ Go.Proofs.YtdmlaldifbmkpaaGreat.Rows.uptoBulk (D i) ∧ (enc b).length = s ∧ ∀ (k:Nat) p,(enc b)[k]? = some p → ∃ u,W.cell? (a.add (i * s + k)) = some u ∧ jg W Ep (vS W) p u) len (fun i hil => by
   obtain ⟨cs',hc,htr⟩:=hi i (by omega)
   obtain ⟨b,h1,h2,h3,h4,h5⟩:=he _ _ _ _ _ _ _ _ _ htr
   obtain ⟨_,hcl,hat⟩:=World.cells?_some hc
   refine ⟨b,h1,h2,h4,fun k p hk => ?_⟩
   obtain ⟨u,hu,hr⟩:=h5 k p hk
   refine ⟨u,?_,hr⟩
   have hks:k < s:=by rw [← h4]; exact (List.getElem?_eq_some_iff.1 hk).1
   have:=hat k (by rw [hs]; exact hks)
   rw [add_add,hs] at this
   rw [this]
   exact hu)
  refine ⟨xs,fun b hb => ?_,?_,rfl,rfl,one1 (q:=.sc undef) rfl ?_⟩
  ·obtain ⟨i,hib⟩:=List.getElem?_of_mem hb
   exact (hx i b hib).1
  ·have:=aB0 (wt:=wt) (D:=D) xs 0 (fun i b hb => by rw [Nat.zero_add]; exact (hx i b hb).2.1)
   simp only [Jp,Go.Proofs.YtdmlaldifbmkpaaGreat.Rows.uptoBulk]
   rw [hxl,← List.range_eq_range'] at this
   omega
  ·cases hxs:xs with
   | nil =>
    have:len = 0:=by rw [← hxl,hxs]; rfl
    subst this
    exact .emp
   | cons b r =>
    rw [← hxs]
    have hget:∀ (j k:Nat) cs p,(xs.map enc)[j]? = some cs → cs[k]? = some p → ∃ u,W.cell? (a.add (j * s + k)) = some u ∧ jg W Ep (vS W) p u:=fun j k cs p hj hk => by
     rw [List.getElem?_map] at hj
     cases Y8:xs[j]? with
     | none => rw [Y8] at hj; cases hj
     | some c =>
      rw [Y8] at hj
      injection hj with hj
      subst hj
      exact (hx j c Y8).2.2.2 k p hk
    refine .xs (s:=s) (fun j k => (W.cell? (a.add (j * s + k))).getD undef) (by simp [hxl]) ?_ (by simp [hxl]; exact hl) (fun cs hcs => ?_) (fun j k cs p hj hk => ?_) (fun j k cs p hj hk => ?_)
    ·have h0:=hx 0 b (by rw [hxs]; rfl)
     have hlt:0 < (enc b).length:=by rw [h0.2.2.1]; exact hs0
     obtain ⟨u,hu,_⟩:=h0.2.2.2 0 (enc b)[0] (List.getElem?_eq_getElem hlt)
     have:=cell_lt hu
     rw [add_block] at this
     exact this
    ·obtain ⟨c,hc,rfl⟩:=List.mem_map.1 hcs
     obtain ⟨i,hic⟩:=List.getElem?_of_mem hc
     exact (hx i c hic).2.2.1
    ·obtain ⟨u,hu,_⟩:=hget j k cs p hj hk
     rw [hu]; rfl
    ·obtain ⟨u,hu,hr⟩:=hget j k cs p hj hk
     rw [hu]
     exact hr
theorem aMt {α:Type} {wt:α → Nat} (h:∀ x,1 ≤ wt x) (xs:List α):xs.length ≤ Jp wt xs:=by
 unfold Jp
 induction xs with
 | nil => simp
 | cons x r ih =>
  have:=h x
  simp only [List.map_cons,List.sum_cons,List.length_cons] at ih ⊢
  omega
theorem Opn.arg1 {α:Type} {t:TypeId} {enc:α → List PV} {wt:α → Nat} {ok:α → Prop} (h:Opn P t 1 enc wt ok) {p:α → PV} (hp:∀ a,enc a = [p a]) {H:Type} {e:TypeId × Value → H} {W:World} {sp:Nat → Bool} {v:Value} {d:DataW H} {ps:List MemPlace}
  (hv:v.oneCell' = true) (hd:DataW.Trod e P W 0 sp true t v d ps):∃ a:α,ok a ∧ wt a ≤ Go.Proofs.YtdmlaldifbmkpaaGreat.Rows.uptoBulk d ∧ RS P W Ep (vS W) Pm (.c (.pv (p a))) v:=by
 obtain ⟨fuel,hf⟩:=hd
 obtain ⟨a,h1,h2,h3,h4,h5⟩:=h _ _ _ _ _ _ _ _ _ hf
 refine ⟨a,h1,h2,?_⟩
 have hc:v.cells = #[v]:=aNK hv
 obtain ⟨u,hu,hr⟩:=h5 0 (p a) (by rw [hp]; rfl)
 rw [hc] at hu
 have:v = u:=by simpa using hu
 subst this
 exact ⟨hv,hr⟩
theorem aFm {H:Type} {e:TypeId × Value → H} (hl:laidOutB P = true) {W W':World} {sp:Nat → Bool} (hb:Below W.heap.size W W'):∀ {ts:List TypeId} {vs:List Value} {ds:List (DataW H)} {ps:List MemPlace},(ts.all fun t => P.readableRec t && decide (t < P.types.size)) = true →
  DataW.TrodAll e P W 0 (fun _ => true) true ts vs ds ps → (∀ p ∈ ps,p.block < W.heap.size) → (∀ p ∈ ps,sp p.block = true) → DataW.TrodAll e P W' 0 sp true ts vs ds ps
 | [],[],[],_,_,h,_,_ => h
 | t :: ts,v :: vs,d :: ds,ps,hr,h,hlt,hs => by
  obtain ⟨p,q,h1,h2,rfl⟩:=h
  simp only [List.all_cons,Bool.and_eq_true,decide_eq_true_eq] at hr
  exact ⟨p,q,Go.WideElems.Trod_stays hl hr.1.1 hr.1.2 h1 (fun x hx => hb.same (hlt x (List.mem_append_left _ hx))) (fun x hx => hs x (List.mem_append_left _ hx)),aFm hl hb hr.2 h2 (fun x hx => hlt x (List.mem_append_right _ hx)) (fun x hx => hs x (List.mem_append_right _ hx)),rfl⟩
 | [],[],_ :: _,_,_,h,_,_ => h.elim
 | [],_ :: _,_,_,_,h,_,_ => h.elim
 | _ :: _,[],_,_,_,h,_,_ => h.elim
 | _ :: _,_ :: _,[],_,_,h,_,_ => h.elim
theorem aNV {H:Type} {e:TypeId × Value → H} {f:Func} {s:ChangeSpec} {apart handsOn again:Bool} {fresh:Bool} {W W':World} {args:Array Value} {ds gs:List (DataW H)} {before:List MemPlace} {tb:TypeId} (hW:DataW.Whole e P f.params.toList s.vars apart W args.toList ds gs before) (hl:laidOutB P = true)
  (hr:(f.params.toList.all fun t => P.readableRec t && decide (t < P.types.size)) = true) (hb:Below W.heap.size W W') (hv:s.vars = []) (hf:s.fn H ds = { results:=[.lit (.bool true)],args:=ds }) (hrt:f.resultTypes = #[tb]) (htb:P.underlying tb = some .bool) :
  s.post e P f apart fresh handsOn again W args (.bool true) W':=by
 have hlt:∀ p ∈ before,p.block < W.heap.size:=fun p hp => hW.lt p hp
 have hW0:=hW
 obtain ⟨p,q,hA,hV,hpq,hz,hn⟩:=hW
 rw [hv] at hV
 obtain ⟨rfl,rfl⟩:gs = [] ∧ q = []:=by
  cases gs with
  | nil => exact ⟨rfl,hV⟩
  | cons _ _ => exact hV.elim
 rw [List.append_nil] at hpq
 subst hpq
 have hargs:∀ sp:Nat → Bool,(∀ p ∈ before,sp p.block = true) → DataW.TrodAll e P W' 0 sp true f.params.toList args.toList ds before:=fun sp hs => aFm hl hb hr hA hlt hs
 have hres:∀ (b:Nat) (sp:Nat → Bool) (hd:Bool),DataW.TrodAll e P W' b sp hd f.resultTypes.toList ((Value.bool true).resultList f.resultTypes.size) [.lit (.bool true)] []:=fun b sp hd => by
  rw [hrt]
  exact ⟨[],[],shut_bool htb _,rfl,rfl⟩
 have hfd:s.fn H (ds ++ []) = { results:=[.lit (.bool true)],args:=ds }:=by rw [List.append_nil]; exact hf
 have hold:∀ p ∈ before,(fun b => decide (b < W.heap.size)) p.block = true:=fun p hp => by simpa using hlt p hp
 have hvs:∀ sp:Nat → Bool,DataW.TrodVars e P W' sp s.vars [] []:=fun sp => by rw [hv]; rfl
 refine ⟨ds,[],before,[],before,[],hW0,?_,?_,?_,World.keptBut_mono (fun p hp => ⟨hp,?_⟩) (hb.frame (· ∈ before)),fun _ => ?_⟩
 ·rw [hfd]; exact hres _ _ _
 ·rw [hfd]; exact hargs _ hold
 ·rw [hfd]; exact hvs _
 ·exact Or.inr (Or.inl hp)
 ·refine ⟨ok_one hrt rfl (okWide_bool_mk htb _),?_⟩
  ·refine ⟨_,_,([] ++ before) ++ [],⟨[] ++ before,[],trodAll_append (hargs _ (fun _ _ => rfl)) (hres _ _ _),hvs _,rfl,?_,?_⟩,?_⟩
   ·intro b off hp
    have hin:MemPlace.cell b off ∈ before:=by simpa using hp
    rw [hb.frozen (hlt _ hin)]
    exact hz b off hin
   ·intro ha
    simpa using hn ha
   ·intro p hp _
    simpa using hp
end
end Go.Fw
end
section
open Go Go.Fw
open Go.ChangeShapes Go.WideShapes Go.ChangeAt Go.RowKit
namespace Go.Proofs.YtdmlaldifbmkpaaGreat
theorem oC5:Tryz.prog.cellsOf 5 = 1:=by kernel_rfl
theorem aEg:Tryz.prog.underlying 22 = some (.slice 5):=by kernel_rfl
theorem oU5:Tryz.prog.underlying 5 = some (.int .u8):=by kernel_rfl
def okB (n:Int):Prop:=0 ≤ n ∧ n ≤ 255
theorem Opn.u8 {P:Program} {t:TypeId} (ht:P.underlying t = some (.int .u8)):Opn P t 1 dI O3 okB:=fun H e W base spare held fuel cs x h => by
  obtain ⟨n, rfl, rfl, hw⟩:=DataW.trod_int ht h
  refine ⟨n, ?_, by simp [O3, Go.Proofs.YtdmlaldifbmkpaaGreat.Rows.uptoBulk], rfl, rfl, one1 (q:=.sc (.int .u8 n)) rfl (.sc rfl)⟩
  simp [Lit.wf, IntKind.min, IntKind.max, IntKind.signed, IntKind.bits] at hw
  exact ⟨by omega, by omega⟩
theorem jg.aHD {W:World} {l:List Int} {v:Value} (h:jg W Ep (vS W) (.xs false (l.map dI)) v):jg W (vS W) (vS W) (.xs true (l.map dI)) v:=by
  generalize hE:l.map dI = E at h
  cases h with
  | emp => exact .emp
  | xs val hn hb hc hs hv hr =>
    refine .xs val hn hb hc hs hv fun j k cs p hj hk => ?_
    have h1:=hr j k cs p hj hk
    subst hE
    obtain ⟨x, hx, rfl⟩:=List.mem_map.mp (List.mem_of_getElem? hj)
    cases k with
    | zero =>
      cases hk
      revert h1
      generalize val j 0 = u
      intro h1
      cases h1 with | sc h => exact .sc h
    | succ k => cases hk
theorem Fn.aHE {P:Program} {f:FuncId} {l:List Int} (hf:Fw.Fn P f [.c (xT dI l)] [] (.s (.c (bC true))) [] [] []) {W:World} {v:Value} (ha:RS P W Ep (vS W) Pm (.c (xF dI l)) v):Calls P f #[v] W fun e W' => e = .returned (.bool true) ∧ Below W.heap.size W W':=by
  have ha':RS P W (vS W) (vS W) Pm (.c (xT dI l)) v:=⟨ha.1, jg.aHD ha.2⟩
  have hw:WF (vS W) (vS W) Pm W:=⟨fun b hb => hb, fun b hb => hb, fun n b hg => hg.elim, fun n m b hg => hg.elim, fun n j k b h => (by cases h)⟩
  have:=hf (vS W) (vS W) Pm W [v] hw rfl (fun k x hk => by cases k with | zero => cases hk; exact ⟨v, rfl, ha'⟩ | succ k => cases hk) (fun p hp => by cases hp)
  refine this.mono fun e W' hp => ?_
  obtain ⟨u, R', B', g', rfl, had, _, hv, _⟩:=hp
  have hu:u = .bool true:=by
    obtain ⟨_, h3⟩:=hv
    cases h3
    rfl
  subst hu
  exact ⟨rfl, had.os, had.tape, had.output, had.size, fun k hk => had.heap k hk fun n hn => by cases hn⟩
end Go.Proofs.YtdmlaldifbmkpaaGreat
end
