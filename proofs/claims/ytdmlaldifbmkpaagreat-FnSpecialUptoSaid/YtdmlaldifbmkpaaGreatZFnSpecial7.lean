/- Parts of a proof that a law of the program holds: what the program computes, and why that is right. -/
import Derived.Test.YtdmlaldifbmkpaaGreatRows
import Derived.ProofKit
import Derived.OpenShut
import Derived.JoinedCond
import Derived.Carry
import Derived.Deep.Slices
import Derived.ChangeSame
import Derived.Test.YtdmlaldifbmkpaaGreatZFnSpecial6
set_option linter.unusedVariables false
set_option linter.unusedSimpArgs false
set_option linter.unnecessarySimpa false
set_option maxRecDepth 100000
set_option maxHeartbeats 8000000
section
open Go Go.Fw
namespace Go.Proofs.YtdmlaldifbmkpaaGreat
theorem Yn (seed:Int):FT Tryz.prog (FU seed) 72 [.c (iC seed)] [] (fun (t:Int) => [.c (iC t)]) (fun (t:Int) => []) []:=by
 refine FT.of [] Tryz.func72 Tryz.ntmps72 Q y2 ?_
 intro w0 U0 R0 g0
 unfold FU
 refine Ws (Wr ?_)
 refine aI (Iv 0) aZ (On (Ws (Ws (Wr ?_))))
 refine aG (Iv seed) y4 (aP fun r1 hr1 => (jD [.c (iC seed),.c (iC 0),.c (iC 65535)] (yC seed 0 65535 r1 hr1) xK (qF y3) y5 ⟨Q,Q,y2,y2,J⟩ (aY (LT.not Q) Q Q Q (On (aA.cond Q (fun hc2 => ?_) (fun hc2 => ?_))))))
 ·refine Ws (Wr ?_)
  refine aI (Iv 0) aZ (On (bP z1 J ⟨ah.sc,J⟩ J))
 ·refine aA.skip (Ws (Wr ?_))
  refine aG (Iv seed) y4 (af LT.mul aV (af LT.add aV (dY (LT.rem Q (by decide)) Q y2 Q Q (aI (Iv (Int.tmod (aB ((aB (seed * 25173)) + 13849)) 65536)) y4 (On (bP z1 J ⟨ah.sc,J⟩ J))))))
theorem aEQ (g:aj) (seed:Int):FT Tryz.prog (JX g seed) 69 [.agg (ai g),.c (iC seed)] [] (fun (t:(bF × Bool)) => [.agg [iC t.1.Graph.aH,lo 0 t.1.Graph.aC.length,lo 1 t.1.Places.length],.c (bC t.2)]) (fun (t:(bF × Bool)) => [(0,pR 40 aK t.1.Graph.aC),(1,pR 98 au t.1.Places)]) [0,1]:=by
 refine FT.of [] Tryz.func69 Tryz.ntmps69 Q y2 ?_
 intro w0 U0 R0 g0
 unfold JX
 refine Ws (Wr ?_)
 refine iL 21 (.agg (ai g)) bU y5 (eG 22 [iC 0,sC aJ,sC aJ] lJ y6 (aI (Bv false) aZ (On (Ws (Wr ?_)))))
 refine bM (bV (ai g) Q eY dA bU) Q Q Q Q (aP fun r1 hr1 => (aO.step (cZ [.agg (ai g)] (Fw.Fn.ren [(0,24)] (Yq g r1 hr1) Q) VA (vX y2) J y3) z2 J Q Q (l7 (iO 25 au [] [] sU uS y7) Q Q (dY (LT.build [(0,.tmp 10,.agg [iC r1.aH,lo 24 r1.aC.length]),(1,.tmp 11,.c (lo 25 (([]:List dh).length)))] Q Q xZ lJ Q Q Q) Q Q Q Q (eG 26 [iC 0,sC aJ,sC aJ] lJ y6 (bQ (stA [iC r1.aH,lo 24 r1.aC.length,lo 25 (([]:List dh).length)] Q Q dR dB) Q Q Q Q Q (On (Ws (Ws ?_)))))))))
 refine aA.eP (fun j5 => ([(1,Iv seed),(2,Cc (.pl 21 0)),(4,Cc (.pl 22 0)),(6,Cc (.pl 26 0)),(20,Bv j5)],[(21,.row 26 [ai g]),(22,.row 46 [[iC 0,sC aJ,sC aJ]]),(24,pR 40 aK r1.aC),(25,pR 98 au ([]:List dh)),(26,.row 46 [[iC r1.aH,lo 24 r1.aC.length,lo 25 (([]:List dh).length)]])])) ?_ (fun j5 _ => ?_)
 ·refine en [(1,Iv seed),(2,Cc (.pl 21 0)),(4,Cc (.pl 22 0)),(6,Cc (.pl 26 0))] [(21,.row 26 [ai g]),(22,.row 46 [[iC 0,sC aJ,sC aJ]]),(24,pR 40 aK r1.aC),(25,pR 98 au ([]:List dh)),(26,.row 46 [[iC r1.aH,lo 24 r1.aC.length,lo 25 (([]:List dh).length)]])] z4 z5 (Wr (bM (bV (ai g) Q eY dA bU) Q Q Q Q (aP fun r6 rW => (jD [.agg (ai g)] (LH g r6 rW) G7 (vX y2) y5 z2 (aY (LT.not Q) Q Q Q (aG (Bv (!r6)) y4 (aO.split (fun hb7 => ?_) (fun hb7 => ?_))))))))
  ·refine aS hb7 y5 (aS hb7 y5 (aS hb7 y5 (dJ (Bv true) hb7 aV (On (aX Q z5 z5)))))
  ·refine eu (Iv seed) hb7 y5 (aP fun r8 tJ => (aO.pure (cZ [.c (iC seed),.c (iC 0),.c (iC 65535)] (yC seed 0 65535 r8 tJ) xK (qF y3) J y3) ⟨Q,Q,y2,y2,J⟩ J (gH hb7 Q Q) Q (aY (LT.not Q) Q (gH hb7 Q Q) Q (eU (Bv (!r8)) hb7 y5 (On (aX Q z5 z5))))))
 ·refine aA.cond Q (fun yV => ?_) (fun yV => ?_)
  ·refine Ws (Wr ?_)
   refine yG (LT.build [] Q Q xZ lJ Q Q Q) Q Q (bQ (stA [iC 0,sC aJ,sC aJ] Q Q dR dB) Q Q Q Q Q (aI (Bv false) aZ (On (aA.ent (aQ.nX 22 1 0 40 Q Q Q Q) (aA.ent (aQ.nX 22 2 1 98 Q Q Q Q) (en [(4,Cc (.pl 22 0)),(5,Bv false)] [(0,pR 40 aK ([]:List aW)),(1,pR 98 au ([]:List dh)),(22,.row 46 [[iC 0,lo 0 (([]:List aW).length),lo 1 (([]:List dh).length)]])] z2 z3 (bP ⟨⟨_,_,_,Q,Q,Q,gJ,dB,_,gm dR⟩,Q,J⟩ z2 ⟨⟨ah.sc,J,J,J⟩,ah.sc,J⟩ ⟨bD.bf kG,bD.bf qy,J⟩)))))))
  ·refine aA.skip (Ws (Ws (Wr ?_)))
   refine aI (Iv 0) aZ (On (aA.block ?_))
   refine aA.jI (id:=0) (FW g r1) (fun s10 => ([(1,Iv s10.1),(2,Cc (.pl 21 0)),(4,Cc (.pl 22 0)),(6,Cc (.pl 26 0)),(7,Iv s10.2.1)],[(21,.row 26 [ai g]),(22,.row 46 [[iC 0,sC aJ,sC aJ]]),(24,pR 40 aK r1.aC),(25,pR 98 au s10.2.2),(26,.row 46 [[iC r1.aH,lo 24 r1.aC.length,lo 25 s10.2.2.length]])])) (fun b17 => ([(4,Cc (.pl 22 0)),(6,Cc (.pl 26 0))],[(22,.row 46 [[iC 0,sC aJ,sC aJ]]),(24,pR 40 aK b17.1),(25,pR 98 au b17.2.1),(26,.row 46 [[iC b17.2.2,lo 24 b17.1.length,lo 25 b17.2.1.length]])])) ?_ (aQ.of z5 z5) Q (fun b17 _ => ?_)
   ·intro s10
    unfold FW
    refine Ws (Ws (Wr ?_))
    refine aG (Iv s10.2.1) y4 (dK (iC g.aH) kV ak ax (af LT.lss y5 (On (aA.cond Q (fun hc18 => ?_) (fun hc18 => ?_)))))
    ·refine aA.skip (Ws (aA.block (Ws (Wr ?_))))
     refine aG (Iv s10.1) y4 (aP fun dn BG => (jD [.c (iC s10.1)] (Yn s10.1 dn BG) U7 (kQ Q) y5 z2 (aI (Iv dn) y4 (On (Ws (Wr ?_))))))
     refine aG (Iv dn) y4 (dY (LT.quo Q (by decide)) Q y2 Q Q (dY (LT.rem Q (by decide)) Q y2 Q Q (aI (Iv (Int.tmod (aB (Int.tdiv dn 16)) 25)) y4 (On (en [(1,Iv dn),(2,Cc (.pl 21 0)),(4,Cc (.pl 22 0)),(6,Cc (.pl 26 0)),(7,Iv s10.2.1),(8,Iv (Int.tmod (aB (Int.tdiv dn 16)) 25))] [(21,.row 26 [ai g]),(22,.row 46 [[iC 0,sC aJ,sC aJ]]),(24,pR 40 aK r1.aC),(25,pR 98 au s10.2.2),(26,.row 46 [[iC r1.aH,lo 24 r1.aC.length,lo 25 s10.2.2.length]])] z6 z5 (Wr (dK (lo 25 s10.2.2.length) jm kU ax (aG (Iv (Int.tmod (aB (Int.tdiv dn 16)) 25)) y4 (dY (LT.rem Q (by decide)) Q y2 Q Q (aG (Iv (Int.tmod (aB (Int.tdiv dn 16)) 25)) y4 ?_))))))))))
     refine dY (LT.quo Q (by decide)) Q y2 Q Q (dY (LT.build [(0,.tmp 36,.c (iC (Int.tmod (Int.tmod (aB (Int.tdiv dn 16)) 25) 5))),(1,.tmp 38,.c (iC (aB (Int.tdiv (Int.tmod (aB (Int.tdiv dn 16)) 25) 5))))] Q Q TM uS Q Q Q) Q Q Q Q (nP (iO 30 au [(0,.tmp 39,.agg [iC (Int.tmod (Int.tmod (aB (Int.tdiv dn 16)) 25) 5),iC (aB (Int.tdiv (Int.tmod (aB (Int.tdiv dn 16)) 25) 5))])] [dh.mk (Int.tmod (Int.tmod (aB (Int.tdiv dn 16)) 25) 5) (aB (Int.tdiv (Int.tmod (aB (Int.tdiv dn 16)) 25) 5))] sU uS y7) Q Q Q (aP fun u20 Wv => (ny (LT.nZ (enc:=au) Q Q Q sU uS Q (by decide) (by decide) (fun _ => Q) (jo Wv)) Q Q Q Q Q Q (aY (LT.gU Q jm) Q Q Q (bQ (qh (.c (lo 25 ((s10.2.2 ++ [dh.mk (Int.tmod (Int.tmod (aB (Int.tdiv dn 16)) 25) 5) (aB (Int.tdiv (Int.tmod (aB (Int.tdiv dn 16)) 25) 5))]).length))) [iC r1.aH,lo 24 r1.aC.length,lo 25 ((s10.2.2 ++ [dh.mk (Int.tmod (Int.tmod (aB (Int.tdiv dn 16)) 25) 5) (aB (Int.tdiv (Int.tmod (aB (Int.tdiv dn 16)) 25) 5))]).length)] Q Q Rn UL) Q Q Q Q Q (On (aA.blk ?_))))))))
     refine en [(1,Iv dn),(2,Cc (.pl 21 0)),(4,Cc (.pl 22 0)),(6,Cc (.pl 26 0)),(7,Iv s10.2.1)] [(21,.row 26 [ai g]),(22,.row 46 [[iC 0,sC aJ,sC aJ]]),(24,pR 40 aK r1.aC),(25,pR 98 au (s10.2.2 ++ [dh.mk (Int.tmod (Int.tmod (aB (Int.tdiv dn 16)) 25) 5) (aB (Int.tdiv (Int.tmod (aB (Int.tdiv dn 16)) 25) 5))])),(26,.row 46 [[iC r1.aH,lo 24 r1.aC.length,lo 25 ((s10.2.2 ++ [dh.mk (Int.tmod (Int.tmod (aB (Int.tdiv dn 16)) 25) 5) (aB (Int.tdiv (Int.tmod (aB (Int.tdiv dn 16)) 25) 5))]).length)]])] z5 z5 (Wr (aG (Iv s10.2.1) y4 (af LT.add aV (aI (Iv (aB (s10.2.1 + 1))) y4 (On (aX Q z5 z5))))))
    ·refine fV y2 z2 z4
   ·refine Ws (Ws (Wr ?_))
    refine bM (bV [iC b17.2.2,lo 24 b17.1.length,lo 25 b17.2.1.length] Q gJ dR dB) Q Q Q Q (aP fun dV Eu => (aO.pure (cF [.agg [iC b17.2.2,lo 24 b17.1.length,lo 25 b17.2.1.length]] [(24,pR 40 aK b17.1),(25,pR 98 au b17.2.1)] (AP (bF.mk (aj.mk b17.2.2 b17.1) b17.2.1) dV Eu) zK (.cons (.agg (.cons (.same Q) (.cons (.fC Q Q) (.cons (.fC Q Q) .nil)))) .nil) J y3) z2 z2 Q Q (aY (LT.not Q) Q Q Q (On (aA.cond Q (fun hc22 => ?_) (fun hc22 => ?_))))))
    ·refine Ws (Wr ?_)
     refine yG (LT.build [] Q Q xZ lJ Q Q Q) Q Q (bQ (stA [iC 0,sC aJ,sC aJ] Q Q dR dB) Q Q Q Q Q (aI (Bv false) aZ (On (aA.ent (aQ.nX 22 1 0 40 Q Q Q Q) (aA.ent (aQ.nX 22 2 1 98 Q Q Q Q) (en [(4,Cc (.pl 22 0)),(5,Bv false)] [(0,pR 40 aK ([]:List aW)),(1,pR 98 au ([]:List dh)),(22,.row 46 [[iC 0,lo 0 (([]:List aW).length),lo 1 (([]:List dh).length)]])] z2 z3 (bP ⟨⟨_,_,_,Q,Q,Q,gJ,dB,_,gm dR⟩,Q,J⟩ z2 ⟨⟨ah.sc,J,J,J⟩,ah.sc,J⟩ ⟨bD.bf kG,bD.bf qy,J⟩)))))))
    ·refine aA.skip (Ws (Wr ?_))
     refine bM (bV [iC b17.2.2,lo 24 b17.1.length,lo 25 b17.2.1.length] Q gJ dR dB) Q Q Q Q (bQ (stA [iC b17.2.2,lo 24 b17.1.length,lo 25 b17.2.1.length] Q Q dR dB) Q Q Q Q Q (aI (Bv true) aZ (On (en [(4,Cc (.pl 22 0)),(5,Bv true)] [(22,.row 46 [[iC b17.2.2,lo 24 b17.1.length,lo 25 b17.2.1.length]]),(24,pR 40 aK b17.1),(25,pR 98 au b17.2.1)] z2 z3 (aA.ent (aQ.mv 24 0 Q Q) (aA.ent (aQ.mv 25 1 Q Q) (en [(4,Cc (.pl 22 0)),(5,Bv true)] [(0,pR 40 aK b17.1),(1,pR 98 au b17.2.1),(22,.row 46 [[iC b17.2.2,lo 0 b17.1.length,lo 1 b17.2.1.length]])] z2 z3 (bP ⟨⟨_,_,_,Q,Q,Q,gJ,dB,_,gm dR⟩,Q,J⟩ z2 ⟨⟨ah.sc,J,J,J⟩,ah.sc,J⟩ ⟨bD.bf kG,bD.bf qy,J⟩))))))))
theorem aMk (f:bF):FT Tryz.prog (Oh f) 134 [.agg (bn f)] [] (fun (t:Bool) => [.c (bC t)]) (fun (t:Bool) => []) []:=by
 refine FT.of [] Tryz.func134 Tryz.ntmps134 Q y2 ?_
 intro w0 U0 R0 g0
 unfold Oh
 refine Ws (Wr ?_)
 refine iL 21 (.agg (bn f)) dB y5 (aI (Bv false) aZ (On (Ws ?_)))
 refine aA.eP (fun j5 => ([(2,Bv j5)],[])) ?_ (fun j5 _ => ?_)
 ·refine aA.draw mixed (gq (bV (bn f) Q gJ dR dB) Q Q Q Q (aU.bind fun r6 rW => (aU.pure (cZ [.agg (bn f)] (AP f r6 rW) zK (oL y3) J y3) z2 J Q Q (bJ (Bv r6) y4 (aU.split (fun hb7 => ?_) (fun hb7 => ?_))))))
  ·refine gq (bV (bn f) Q gJ dR dB) Q Q (gH hb7 Q Q) Q (aU.bind fun r8 tJ => (aU.pure (cZ [.agg (bn f)] (aEO f r8 tJ) Zf (oL y3) J y3) z2 J (gH hb7 Q Q) Q (bg (LT.gU Q lF) Q (gH hb7 Q Q) Q (gq (bV (ai f.Graph) Q eY dA bU) Q Q (gH hb7 Q Q) Q (aU.bind fun r9 rX => (aU.pure (cZ [.agg (ai f.Graph),.c (iC 2),.c (iC 3)] (aES f.Graph 2 3 r9 rX) aAD (AB y4) J y3) ⟨Q,Q,y2,y2,J⟩ J (gH hb7 Q Q) Q (oZ LT.eql hb7 y6 (oJ (Bv (r8 == r9)) hb7 y5 (bg (LT.assign (v:=(Bv (r8 == r9))) Q) Q Q Q (fA (aX Q z1 J)))))))))))
  ·refine bI hb7 y3 (bI hb7 y3 (bI hb7 y3 (bI hb7 y3 (bI hb7 y3 (bI hb7 y3 (o7 (Bv false) hb7 aV (bg (LT.assign (v:=(Bv false)) Q) Q Q Q (fA (aX Q z1 J)))))))))
 ·refine bP z1 J ⟨ah.sc,J⟩ J
theorem aMj (g:aj) (seed:Int):FT Tryz.prog (JO g seed) 64 [.agg (ai g),.c (iC seed)] [] (fun (t:(bF × Int × Bool)) => [.agg [iC t.1.Graph.aH,lo 0 t.1.Graph.aC.length,lo 1 t.1.Places.length],.c (iC t.2.1),.c (bC t.2.2)]) (fun (t:(bF × Int × Bool)) => [(0,pR 40 aK t.1.Graph.aC),(1,pR 98 au t.1.Places)]) [0,1]:=by
 refine FT.of [] Tryz.func64 Tryz.ntmps64 Q y2 ?_
 intro w0 U0 R0 g0
 unfold JO
 refine Ws (Wr ?_)
 refine iL 21 (.agg (ai g)) bU y5 (eG 22 [iC 0,sC aJ,sC aJ] lJ y6 (aI (Iv 0) aZ (aI (Bv false) aZ (On (Ws (Ws (Wr ?_)))))))
 refine aI (Iv 1) aZ (On (aA.block ?_))
 refine aA.oz (id:=0) (Dj g) (fun s1 => ([(1,Iv s1.1),(2,Cc (.pl 21 0)),(4,Cc (.pl 22 0)),(7,Iv s1.2)],[(21,.row 26 [ai g]),(22,.row 46 [[iC 0,sC aJ,sC aJ]])])) (fun ZJ => ([(4,Cc (.pl 22 0))],[(22,.row 46 [[iC 0,sC aJ,sC aJ]])])) (lU Tryz.prog Tryz.f64.results.toList [] [0,1] (fun (t:(bF × Int × Bool)) => [.agg [iC t.1.Graph.aH,lo 0 t.1.Graph.aC.length,lo 1 t.1.Places.length],.c (iC t.2.1),.c (bC t.2.2)]) (fun (t:(bF × Int × Bool)) => [(0,pR 40 aK t.1.Graph.aC),(1,pR 98 au t.1.Places)])) ?_ (aQ.of z4 z2) Q (fun ZJ _ => ?_) qC
 ·intro s1
  unfold Dj
  refine Ws (Ws ?_)
  refine aA.eP (fun j33 => ([(1,Iv s1.1),(2,Cc (.pl 21 0)),(4,Cc (.pl 22 0)),(7,Iv s1.2),(15,Bv j33)],[(21,.row 26 [ai g]),(22,.row 46 [[iC 0,sC aJ,sC aJ]])])) ?_ (fun j33 _ => ?_)
  ·refine Wr (aG (Iv s1.2) y4 (af LT.leq aV (aG (Bv (decide (s1.2 ≤ 20))) y4 (aO.split (fun pY => ?_) (fun pY => ?_)))))
   ·refine eu (Iv s1.1) pY y5 (aP fun TS aIA => (aO.pure (cZ [.c (iC s1.1),.c (iC 0),.c (iC 65535)] (yC s1.1 0 65535 TS aIA) xK (qF y3) J y3) ⟨Q,Q,y2,y2,J⟩ J (gH pY Q Q) Q (dJ (Bv TS) pY y5 (On (aX Q z5 z2)))))
   ·refine aS pY y5 (aS pY y5 (eU (Bv false) pY aV (On (aX Q z5 z2))))
  ·refine aA.cond Q (fun V3 => ?_) (fun V3 => ?_)
   ·refine aA.skip (Ws (aA.block (Ws (Wr ?_))))
    refine bM (bV (ai g) Q eY dA bU) Q Q Q Q (aG (Iv s1.1) y4 (aP fun ig WT => (aO.step (cZ [.agg (ai g),.c (iC s1.1)] (Fw.Fn.ren [(0,25),(1,26)] (aEQ g s1.1 ig WT) Q) aAA (D9 y3) J y3) z3 J Q Q (aG (.dM [.agg [iC ig.1.Graph.aH,lo 25 ig.1.Graph.aC.length,lo 26 ig.1.Places.length],.c (bC ig.2)]) y4 (gy (.agg [iC ig.1.Graph.aH,lo 25 ig.1.Graph.aC.length,lo 26 ig.1.Places.length]) y5 (gy (.c (bC ig.2)) y5 (eG 27 [iC 0,sC aJ,sC aJ] lJ y6 (bQ (stA [iC ig.1.Graph.aH,lo 25 ig.1.Graph.aC.length,lo 26 ig.1.Places.length] Q Q dR dB) Q Q Q Q Q (aI (Bv ig.2) y4 (On (Ws (Ws ?_))))))))))))
    refine aA.eP (fun j40 => ([(1,Iv s1.1),(2,Cc (.pl 21 0)),(4,Cc (.pl 22 0)),(7,Iv s1.2),(8,Cc (.pl 27 0)),(28,Bv j40)],[(21,.row 26 [ai g]),(22,.row 46 [[iC 0,sC aJ,sC aJ]]),(25,pR 40 aK ig.1.Graph.aC),(26,pR 98 au ig.1.Places),(27,.row 46 [[iC ig.1.Graph.aH,lo 25 ig.1.Graph.aC.length,lo 26 ig.1.Places.length]])])) ?_ (fun j40 _ => ?_)
    ·refine en [(1,Iv s1.1),(2,Cc (.pl 21 0)),(4,Cc (.pl 22 0)),(7,Iv s1.2),(8,Cc (.pl 27 0)),(9,Bv ig.2)] [(21,.row 26 [ai g]),(22,.row 46 [[iC 0,sC aJ,sC aJ]]),(25,pR 40 aK ig.1.Graph.aC),(26,pR 98 au ig.1.Places),(27,.row 46 [[iC ig.1.Graph.aH,lo 25 ig.1.Graph.aC.length,lo 26 ig.1.Places.length]])] z6 z5 (Wr (aG (Bv ig.2) y4 (aG (Bv ig.2) y4 (aO.split (fun Ej => ?_) (fun Ej => ?_)))))
     ·refine bM (bV [iC ig.1.Graph.aH,lo 25 ig.1.Graph.aC.length,lo 26 ig.1.Places.length] Q gJ dR dB) Q Q (gH Ej Q Q) Q (aP fun TT aIB => (aO.pure (cF [.agg [iC ig.1.Graph.aH,lo 25 ig.1.Graph.aC.length,lo 26 ig.1.Places.length]] [(25,pR 40 aK ig.1.Graph.aC),(26,pR 98 au ig.1.Places)] (aMk ig.1 TT aIB) aFS (.cons (.agg (.cons (.same Q) (.cons (.fC Q Q) (.cons (.fC Q Q) .nil)))) .nil) J y3) z2 z2 (gH Ej Q Q) Q (dJ (Bv TT) Ej y5 (On (aX Q z6 z5)))))
     ·refine aS Ej y5 (aS Ej y5 (eU (Bv false) Ej aV (On (aX Q z6 z5))))
    ·refine aA.cond Q (fun aHN => ?_) (fun aHN => ?_)
     ·refine Ws (Wr ?_)
      refine bM (bV [iC ig.1.Graph.aH,lo 25 ig.1.Graph.aC.length,lo 26 ig.1.Places.length] Q gJ dR dB) Q Q Q Q (aG (Iv s1.2) y4 (bQ (stA [iC ig.1.Graph.aH,lo 25 ig.1.Graph.aC.length,lo 26 ig.1.Places.length] Q Q dR dB) Q Q Q Q Q (aI (Iv s1.2) y4 (aI (Bv true) aZ (On (en [(4,Cc (.pl 22 0)),(5,Iv s1.2),(6,Bv true)] [(22,.row 46 [[iC ig.1.Graph.aH,lo 25 ig.1.Graph.aC.length,lo 26 ig.1.Places.length]]),(25,pR 40 aK ig.1.Graph.aC),(26,pR 98 au ig.1.Places)] z3 z3 (aA.ent (aQ.mv 25 0 Q Q) (aA.ent (aQ.mv 26 1 Q Q) (en [(4,Cc (.pl 22 0)),(5,Iv s1.2),(6,Bv true)] [(0,pR 40 aK ig.1.Graph.aC),(1,pR 98 au ig.1.Places),(22,.row 46 [[iC ig.1.Graph.aH,lo 0 ig.1.Graph.aC.length,lo 1 ig.1.Places.length]])] z3 z3 (aA.ret ⟨Q,pX ⟨⟨_,_,_,Q,Q,Q,gJ,dB,_,gm dR⟩,Q,Q,J⟩ z2 ⟨⟨ah.sc,J,J,J⟩,ah.sc,ah.sc,J⟩ ⟨bD.bf kG,bD.bf qy,J⟩⟩))))))))))
     ·refine aA.skip (Wr ?_)
      refine aG (Iv s1.1) y4 (aP fun TU aID => (jD [.c (iC s1.1)] (Yn s1.1 TU aID) U7 (kQ Q) y5 z2 (aI (Iv TU) y4 (On (aA.blk (Wr ?_))))))
      refine aG (Iv s1.2) y4 (af LT.add aV (aI (Iv (aB (s1.2 + 1))) y4 (On (aX Q z4 z2))))
   ·refine fV y2 z1 z1
 ·refine Ws (Wr ?_)
  refine yG (LT.build [] Q Q xZ lJ Q Q Q) Q Q (bQ (stA [iC 0,sC aJ,sC aJ] Q Q dR dB) Q Q Q Q Q (aI (Iv 0) aZ (aI (Bv false) aZ (On (aA.ent (aQ.nX 22 1 0 40 Q Q Q Q) (aA.ent (aQ.nX 22 2 1 98 Q Q Q Q) (en [(4,Cc (.pl 22 0)),(5,Iv 0),(6,Bv false)] [(0,pR 40 aK ([]:List aW)),(1,pR 98 au ([]:List dh)),(22,.row 46 [[iC 0,lo 0 (([]:List aW).length),lo 1 (([]:List dh).length)]])] z3 z3 (bP ⟨⟨_,_,_,Q,Q,Q,gJ,dB,_,gm dR⟩,Q,Q,J⟩ z2 ⟨⟨ah.sc,J,J,J⟩,ah.sc,ah.sc,J⟩ ⟨bD.bf kG,bD.bf qy,J⟩))))))))
theorem aMh (code:(List Int)):FT Tryz.prog (OZ code) 67 [.c (xT dI code)] [] (fun (t:(aj × Int)) => [.agg [iC t.1.aH,lo 0 t.1.aC.length],.c (iC t.2)]) (fun (t:(aj × Int)) => [(0,pR 40 aK t.1.aC)]) [0]:=by
 refine FT.of [] Tryz.func67 Tryz.ntmps67 Q y2 ?_
 intro w0 U0 R0 g0
 unfold OZ
 refine Ws (Wr ?_)
 refine eG 21 [iC 0,sC aJ] jk y6 (aI (Iv 0) aZ (On (Ws (Wr ?_))))
 refine aG (Cc (xT dI code)) y4 (aP fun r1 hr1 => (aO.step (cZ [.c (xT dI code)] (Fw.Fn.ren [(0,23)] (aEX code r1 hr1) Q) Zh (kQ Q) J y3) z2 J Q Q (aG (.dM [.agg [iC r1.1.aH,lo 23 r1.1.aC.length],.c (iC r1.2)]) y4 (gy (.agg [iC r1.1.aH,lo 23 r1.1.aC.length]) y5 (gy (.c (iC r1.2)) y5 (eG 24 [iC 0,sC aJ] jk y6 (bQ (stA [iC r1.1.aH,lo 23 r1.1.aC.length] Q Q dA bU) Q Q Q Q Q (aI (Iv r1.2) y4 (On (Ws ?_))))))))))
 refine en [(2,Cc (.pl 21 0)),(4,Cc (.pl 24 0)),(5,Iv r1.2)] [(21,.row 26 [[iC 0,sC aJ]]),(23,pR 40 aK r1.1.aC),(24,.row 26 [[iC r1.1.aH,lo 23 r1.1.aC.length]])] z3 z3 (Wr (bM (bV [iC r1.1.aH,lo 23 r1.1.aC.length] Q eY dA bU) Q Q Q Q (aG (Iv r1.2) y4 (bQ (stA [iC r1.1.aH,lo 23 r1.1.aC.length] Q Q dA bU) Q Q Q Q Q (aI (Iv r1.2) y4 (On (en [(2,Cc (.pl 21 0)),(3,Iv r1.2)] [(21,.row 26 [[iC r1.1.aH,lo 23 r1.1.aC.length]]),(23,pR 40 aK r1.1.aC)] z2 z2 (aA.ent (aQ.mv 23 0 Q Q) (en [(2,Cc (.pl 21 0)),(3,Iv r1.2)] [(0,pR 40 aK r1.1.aC),(21,.row 26 [[iC r1.1.aH,lo 0 r1.1.aC.length]])] z2 z2 (bP ⟨⟨_,_,_,Q,Q,Q,eY,bU,_,gm dA⟩,Q,J⟩ z1 ⟨⟨ah.sc,J,J⟩,ah.sc,J⟩ ⟨bD.bf kG,J⟩))))))))))
theorem aMg (code:(List Int)):FT Tryz.prog (JJ code) 70 [.c (xT dI code)] [] (fun (t:Int) => [.c (iC t)]) (fun (t:Int) => []) []:=by
 refine FT.of [] Tryz.func70 Tryz.ntmps70 Q y2 ?_
 intro w0 U0 R0 g0
 unfold JJ
 refine Ws (Wr ?_)
 refine aI (Iv 0) aZ (On (Ws (Wr ?_)))
 refine aG (Cc (xT dI code)) y4 (aP fun r1 hr1 => (aO.step (cZ [.c (xT dI code)] (Fw.Fn.ren [(0,22)] (Yp code r1 hr1) Q) U8 (kQ Q) J y3) z2 J Q Q (aE0 (iO 23 aF [(0,.const (.int .i64 (-1)),.c (iC (-1))),(1,.const (.int .i64 0),.c (iC 0)),(2,.const (.int .i64 1),.c (iC 1)),(3,.const (.int .i64 500),.c (iC 500)),(4,.const (.int .i64 65535),.c (iC 65535)),(5,.const (.int .i64 65536),.c (iC 65536))] ([-1,0,1,500,65535,65536]:List Int) dS iH y7) y2 y2 y2 y2 y2 y2 Q Q (aP fun r2 hr2 => (aO.step (cF [.c (.pl 22 0),.c (lo 23 (([-1,0,1,500,65535,65536]:List Int).length))] [(23,pR 3 aF ([-1,0,1,500,65535,65536]:List Int))] (Fw.Fn.ren [(0,22)] (Ub r1 ([-1,0,1,500,65535,65536]:List Int) r2 hr2) Q) QU (.cons (.c (.same Q)) (.cons (.c (.fC Q Q)) .nil)) z1 y3) z3 z2 Q Q (aI (Iv r2.1) y4 (On (bP z1 J ⟨ah.sc,J⟩ J))))))))
theorem aMa (code:(List Int)):FT Tryz.prog (SQ code) 5 [.c (xT dI code)] [] (fun (t:Bool) => [.c (bC t)]) (fun (t:Bool) => []) []:=by
 refine FT.of [] Tryz.func5 Tryz.ntmps5 Q y2 ?_
 intro w0 U0 R0 g0
 unfold SQ
 refine Ws (Wr ?_)
 refine aI (Bv false) aZ (On (Ws (Ws (Wr ?_))))
 refine aG (Cc (xT dI code)) y4 (aP fun r1 hr1 => (jD [.c (xT dI code)] (aMb code r1 hr1) cb6 (.cons (.c (.weak (.same Q) (QW.uw aKd (fun h => by cases h) _))) .nil) y5 z2 (On (aA.cond Q (fun hc2 => ?_) (fun hc2 => ?_)))))
 ·refine Ws (Wr ?_)
  refine aI (Bv true) aZ (On (bP z1 J ⟨ah.sc,J⟩ J))
 ·refine aA.skip (Ws (Wr ?_))
  refine aG (Cc (xT dI code)) y4 (aP fun r3 hr3 => (aO.step (cZ [.c (xT dI code)] (Fw.Fn.ren [(0,23)] (aMi code r3 hr3) Q) aFt (kQ Q) J y3) z2 J Q Q (eG 24 [iC 0,sC aJ,sC aJ] lJ y6 (bQ (stA [iC r3.Graph.aH,lo 23 r3.Graph.aC.length,xT au r3.Places] Q Q dR dB) Q Q Q Q Q (On (Ws ?_))))))
  refine en [(0,Cc (xT dI code)),(3,Cc (.pl 24 0))] [(23,pR 40 aK r3.Graph.aC),(24,.row 46 [[iC r3.Graph.aH,lo 23 r3.Graph.aC.length,xT au r3.Places]])] z2 z2 (Wr (bM (bV [iC r3.Graph.aH,lo 23 r3.Graph.aC.length,xT au r3.Places] Q gJ dR dB) Q Q Q Q (aP fun r4 hr4 => (aO.step (cF [.agg [iC r3.Graph.aH,lo 23 r3.Graph.aC.length,xT au r3.Places]] [(23,pR 40 aK r3.Graph.aC)] (Fw.Fn.ren [(0,26)] (aMM r3 r4 hr4) Q) aFu (.cons (.agg (.cons (.same Q) (.cons (.fC Q Q) (.cons (.weak (.same Q) (QW.uw zn (fun h => by cases h) _)) .nil)))) .nil) J y3) z2 z1 Q Q (aG (.dM [.c (lo 26 r4.1.length),.c (bC r4.2)]) y4 (gy (.c (lo 26 r4.1.length)) y5 (gy (.c (bC r4.2)) y5 (aI (Cc (lo 26 r4.1.length)) y4 (aI (Bv r4.2) y4 (On (Ws (Wr ?_))))))))))))
  refine bM (bV [iC r3.Graph.aH,lo 23 r3.Graph.aC.length,xT au r3.Places] Q gJ dR dB) Q Q Q Q (aP fun r5 mG => (aO.step (cF [.agg [iC r3.Graph.aH,lo 23 r3.Graph.aC.length,xT au r3.Places]] [(23,pR 40 aK r3.Graph.aC)] (Fw.Fn.ren [(0,28)] (aMq r3 r5 mG) Q) aFv (.cons (.agg (.cons (.same Q) (.cons (.fC Q Q) (.cons (.weak (.same Q) (QW.uw zn (fun h => by cases h) _)) .nil)))) .nil) J y3) z2 z1 Q Q (aG (.dM [.c (lo 28 r5.1.length),.c (bC r5.2)]) y4 (gy (.c (lo 28 r5.1.length)) y5 (gy (.c (bC r5.2)) y5 (aI (Cc (lo 28 r5.1.length)) y4 (aI (Bv r5.2) y4 (On (Ws ?_)))))))))
  refine en [(0,Cc (xT dI code)),(3,Cc (.pl 24 0)),(4,Cc (lo 26 r4.1.length)),(5,Bv r4.2),(6,Cc (lo 28 r5.1.length)),(7,Bv r5.2)] [(23,pR 40 aK r3.Graph.aC),(24,.row 46 [[iC r3.Graph.aH,lo 23 r3.Graph.aC.length,xT au r3.Places]]),(26,pR 3 aF r4.1),(28,pR 3 aF r5.1)] z6 z4 (Wr (bM (bV [iC r3.Graph.aH,lo 23 r3.Graph.aC.length,xT au r3.Places] Q gJ dR dB) Q Q Q Q (aP fun r6 rW => (aO.pure (cF [.agg [iC r3.Graph.aH,lo 23 r3.Graph.aC.length,xT au r3.Places]] [(23,pR 40 aK r3.Graph.aC)] (aEC r3 r6 rW) Z5 (.cons (.agg (.cons (.same Q) (.cons (.fC Q Q) (.cons (.weak (.same Q) (QW.uw zn (fun h => by cases h) _)) .nil)))) .nil) J y3) z2 z1 Q Q (aI (Iv r6) y4 (On (Ws (Ws ?_))))))))
  refine aA.eP (fun j25 => ([(0,Cc (xT dI code)),(86,Bv j25)],[])) ?_ (fun j25 _ => ?_)
  ·refine Wr (aG (Bv r4.2) y4 (aG (Bv r5.2) y4 (dY (LT.Xi Q UW) Q Q Q Q (aG (Bv (r4.2 != r5.2)) y4 (aO.split (fun yR => ?_) (fun yR => ?_))))))
   ·refine aS yR y5 (aS yR y5 (aS yR y5 (aS yR y5 (dJ (Bv true) yR aV (aG (Bv true) y4 (ay y5 (ay y5 (ay y5 (ay y5 (dJ (Bv true) Q aV (aG (Bv true) y4 ?_)))))))))))
    refine ay y5 (ay y5 (ay y5 (ay y5 (ay y5 (dJ (Bv true) Q aV (aG (Bv true) y4 (ay y5 (ay y5 (ay y5 (Oj Q Q Q Q (Oj Q Q Q Q ?_)))))))))))
    refine Oj Q Q Q Q (Oj Q Q Q Q (Oj Q Q Q Q (Oj Q Q Q Q (Oj Q Q Q Q (Oj Q Q Q Q (Oj Q Q Q Q (Oj Q Q Q Q (ay y5 (dJ (Bv true) Q aV (aG (Bv true) y4 (ay y5 ?_)))))))))))
    refine ay y5 (Oj Q Q Q Q (Oj Q Q Q Q (Oj Q Q Q Q (Oj Q Q Q Q (ay y5 (dJ (Bv true) Q aV (On (aX Q z2 J))))))))
   ·refine eu (Cc (lo 26 r4.1.length)) yR y5 (eu (Cc (lo 28 r5.1.length)) yR y5 (aP fun r27 aH7 => (aO.pure (cF [.c (lo 26 r4.1.length),.c (lo 28 r5.1.length)] [(26,pR 3 aF r4.1),(28,pR 3 aF r5.1)] (aMc r4.1 r5.1 r27 aH7) aFM (.cons (.c (.fC Q Q)) (.cons (.c (.fC Q Q)) .nil)) J y3) z3 z2 (gH yR Q Q) Q (aY (LT.not Q) Q (gH yR Q Q) Q (eU (Bv (!r27)) yR y5 (aG (Bv (!r27)) y4 (aO.split (fun rU => ?_) (fun rU => ?_))))))))
    ·refine aS rU y5 (aS rU y5 (aS rU y5 (aS rU y5 (dJ (Bv true) rU aV (aG (Bv true) y4 (ay y5 (ay y5 (ay y5 (ay y5 (ay y5 (dJ (Bv true) Q aV ?_)))))))))))
     refine aG (Bv true) y4 (ay y5 (ay y5 (ay y5 (Oj Q Q Q Q (Oj Q Q Q Q (Oj Q Q Q Q (Oj Q Q Q Q (Oj Q Q Q Q (Oj Q Q Q Q (Oj Q Q Q Q (Oj Q Q Q Q ?_)))))))))))
     refine Oj Q Q Q Q (Oj Q Q Q Q (ay y5 (dJ (Bv true) Q aV (aG (Bv true) y4 (ay y5 (ay y5 (Oj Q Q Q Q (Oj Q Q Q Q (Oj Q Q Q Q (Oj Q Q Q Q (ay y5 ?_)))))))))))
     refine dJ (Bv true) Q aV (On (aX Q z2 J))
    ·refine eu (Iv r6) rU y5 (bM (bV [iC r3.Graph.aH,lo 23 r3.Graph.aC.length,xT au r3.Places] Q gJ dR dB) Q Q (gH rU Q Q) Q (aP fun zq WR => (aO.pure (cF [.agg [iC r3.Graph.aH,lo 23 r3.Graph.aC.length,xT au r3.Places]] [(23,pR 40 aK r3.Graph.aC)] (aMm r3 zq WR) aFw (.cons (.agg (.cons (.same Q) (.cons (.fC Q Q) (.cons (.weak (.same Q) (QW.uw zn (fun h => by cases h) _)) .nil)))) .nil) J y3) z2 z1 (gH rU Q Q) Q (iy LT.neq rU y6 (eU (Bv (r6 != zq)) rU y5 (aG (Bv (r6 != zq)) y4 (aO.split (fun wP => ?_) (fun wP => ?_))))))))
     ·refine aS wP y5 (aS wP y5 (aS wP y5 (aS wP y5 (aS wP y5 (dJ (Bv true) wP aV (aG (Bv true) y4 (ay y5 (ay y5 (ay y5 (Oj Q Q Q Q (Oj Q Q Q Q ?_)))))))))))
      refine Oj Q Q Q Q (Oj Q Q Q Q (Oj Q Q Q Q (Oj Q Q Q Q (Oj Q Q Q Q (Oj Q Q Q Q (Oj Q Q Q Q (Oj Q Q Q Q (ay y5 (dJ (Bv true) Q aV (aG (Bv true) y4 (ay y5 ?_)))))))))))
      refine ay y5 (Oj Q Q Q Q (Oj Q Q Q Q (Oj Q Q Q Q (Oj Q Q Q Q (ay y5 (dJ (Bv true) Q aV (On (aX Q z2 J))))))))
     ·refine bM (bV [iC r3.Graph.aH,lo 23 r3.Graph.aC.length,xT au r3.Places] Q gJ dR dB) Q Q (gH wP Q Q) Q (aP fun jM Hu => (aO.pure (cF [.agg [iC r3.Graph.aH,lo 23 r3.Graph.aC.length,xT au r3.Places]] [(23,pR 40 aK r3.Graph.aC)] (aMJ r3 jM Hu) aFx (.cons (.agg (.cons (.same Q) (.cons (.fC Q Q) (.cons (.weak (.same Q) (QW.uw zn (fun h => by cases h) _)) .nil)))) .nil) J y3) z2 z1 (gH wP Q Q) Q (eu (Iv r6) wP y5 (iy LT.gtr wP kD (dY (LT.Xi Q UW) Q Q (gH wP Q Q) Q (eU (Bv (jM != (decide (0 < r6)))) wP y5 (aG (Bv (jM != (decide (0 < r6)))) y4 (aO.split (fun qc => ?_) (fun qc => ?_)))))))))
      ·refine aS qc y5 (aS qc y5 (aS qc y5 (Oj Q Q Q Q (Oj Q Q Q Q (Oj Q Q Q Q (Oj Q Q Q Q (Oj Q Q Q Q (Oj Q Q Q Q (Oj Q Q Q Q (Oj Q Q Q Q (Oj Q Q Q Q ?_)))))))))))
       refine Oj Q Q Q Q (aS qc y5 (dJ (Bv true) qc aV (aG (Bv true) y4 (ay y5 (ay y5 (Oj Q Q Q Q (Oj Q Q Q Q (Oj Q Q Q Q (Oj Q Q Q Q (ay y5 (dJ (Bv true) Q aV ?_)))))))))))
       refine On (aX Q z2 J)
      ·refine bM (bV [iC r3.Graph.aH,lo 23 r3.Graph.aC.length,xT au r3.Places] Q gJ dR dB) Q Q (gH qc Q Q) Q (aP fun xk WS => (aO.pure (cF [.agg [iC r3.Graph.aH,lo 23 r3.Graph.aC.length,xT au r3.Places]] [(23,pR 40 aK r3.Graph.aC)] (AP r3 xk WS) zK (.cons (.agg (.cons (.same Q) (.cons (.fC Q Q) (.cons (.weak (.same Q) (QW.uw zn (fun h => by cases h) _)) .nil)))) .nil) J y3) z2 z1 (gH qc Q Q) Q (eu (Bv xk) qc y5 (aO.split (fun pY => ?_) (fun pY => ?_)))))
       ·refine eu (Iv r6) pY y5 (iy LT.lss pY kD (eu (Bv (decide (r6 < 0))) pY y5 (aO.split (fun mQ => ?_) (fun mQ => ?_))))
        ·refine aS mQ y5 (aS mQ y5 (aS mQ y5 (Oj Q Q Q Q (Oj Q Q Q Q (aS mQ y5 (dY (LT.qR (v:=(Bv true)) Q mQ) Q y2 (gH pY Q Q) Q (dY (LT.qR (v:=(Bv true)) Q pY) Q Q (gH qc Q Q) Q (eU (Bv true) qc y5 (aG (Bv true) y4 (ay y5 (ay y5 ?_)))))))))))
         refine Oj Q Q Q Q (Oj Q Q Q Q (Oj Q Q Q Q (Oj Q Q Q Q (ay y5 (dJ (Bv true) Q aV (On (aX Q z2 J)))))))
        ·refine eu (Iv r6) mQ y5 (iy LT.gtr mQ kD (eu (Bv (decide (0 < r6))) mQ y5 (aO.split (fun tH => ?_) (fun tH => ?_))))
         ·refine eu (Bv r4.2) tH y5 (aY (LT.not Q) Q (gH tH Q Q) Q (dY (LT.qR (v:=(Bv (!r4.2))) Q tH) Q Q (gH mQ Q Q) Q (dY (LT.rC (v:=(Bv (!r4.2))) Q mQ) Q Q (gH pY Q Q) Q (dY (LT.qR (v:=(Bv (!r4.2))) Q pY) Q Q (gH qc Q Q) Q (eU (Bv (!r4.2)) qc y5 (aG (Bv (!r4.2)) y4 (aO.split (fun ug => ?_) (fun ug => ?_))))))))
          ·refine aS ug y5 (aS ug y5 (Oj Q Q Q Q (Oj Q Q Q Q (Oj Q Q Q Q (Oj Q Q Q Q (aS ug y5 (dJ (Bv true) ug aV (On (aX Q z2 J)))))))))
          ·refine eu (Bv r4.2) ug y5 (eu (Bv r4.2) ug y5 (aO.split (fun yS => ?_) (fun yS => ?_)))
           ·refine bM (bV [iC r3.Graph.aH,lo 23 r3.Graph.aC.length,xT au r3.Places] Q gJ dR dB) Q Q (gH yS Q Q) Q (eu (Cc (lo 28 r5.1.length)) yS y5 (aP fun CB WU => (aO.pure (cF [.agg [iC r3.Graph.aH,lo 23 r3.Graph.aC.length,xT au r3.Places],.c (lo 28 r5.1.length)] [(23,pR 40 aK r3.Graph.aC),(28,pR 3 aF r5.1)] (Yj r3 r5.1 CB WU) U5 (.cons (.agg (.cons (.same Q) (.cons (.fC Q Q) (.cons (.weak (.same Q) (QW.uw zn (fun h => by cases h) _)) .nil)))) (.cons (.c (.fC Q Q)) .nil)) J y3) z3 z2 (gH yS Q Q) Q (aY (LT.not Q) Q (gH yS Q Q) Q (dY (LT.qR (v:=(Bv (!CB))) Q yS) Q Q (gH ug Q Q) Q (eU (Bv (!CB)) ug y5 (On (aX Q z2 J))))))))
           ·refine aS yS y5 (aS yS y5 (aS yS y5 (aS yS y5 (dY (LT.rC (v:=(Bv false)) Q yS) Q y2 (gH ug Q Q) Q (eU (Bv false) ug y5 (On (aX Q z2 J)))))))
         ·refine aS tH y5 (aS tH y5 (dY (LT.rC (v:=(Bv false)) Q tH) Q y2 (gH mQ Q Q) Q (dY (LT.rC (v:=(Bv false)) Q mQ) Q Q (gH pY Q Q) Q (dY (LT.qR (v:=(Bv false)) Q pY) Q Q (gH qc Q Q) Q (eU (Bv false) qc y5 (aG (Bv false) y4 (mv (Bv r4.2) Q Q (gS Q Q) Q (mv (Bv r4.2) Q Q (gS Q Q) Q (aO.split (fun rV => ?_) (fun rV => ?_))))))))))
          ·refine bM (bV [iC r3.Graph.aH,lo 23 r3.Graph.aC.length,xT au r3.Places] Q gJ dR dB) Q Q (gH rV Q Q) Q (eu (Cc (lo 28 r5.1.length)) rV y5 (aP fun zu WV => (aO.pure (cF [.agg [iC r3.Graph.aH,lo 23 r3.Graph.aC.length,xT au r3.Places],.c (lo 28 r5.1.length)] [(23,pR 40 aK r3.Graph.aC),(28,pR 3 aF r5.1)] (Yj r3 r5.1 zu WV) U5 (.cons (.agg (.cons (.same Q) (.cons (.fC Q Q) (.cons (.weak (.same Q) (QW.uw zn (fun h => by cases h) _)) .nil)))) (.cons (.c (.fC Q Q)) .nil)) J y3) z3 z2 (gH rV Q Q) Q (aY (LT.not Q) Q (gH rV Q Q) Q (dY (LT.qR (v:=(Bv (!zu))) Q rV) Q Q (gS Q Q) Q (eU (Bv (!zu)) Q y5 (On (aX Q z2 J))))))))
          ·refine aS rV y5 (aS rV y5 (aS rV y5 (aS rV y5 (dY (LT.rC (v:=(Bv false)) Q rV) Q y2 (gS Q Q) Q (eU (Bv false) Q y5 (On (aX Q z2 J)))))))
       ·refine aS pY y5 (aS pY y5 (aS pY y5 (Oj Q Q Q Q (Oj Q Q Q Q (Oj Q Q Q Q (Oj Q Q Q Q (Oj Q Q Q Q (Oj Q Q Q Q (aS pY y5 (dY (LT.rC (v:=(Bv false)) Q pY) Q y2 (gH qc Q Q) Q (eU (Bv false) qc y5 ?_)))))))))))
        refine aG (Bv false) y4 (mv (Bv r4.2) Q Q (gS Q Q) Q (mv (Bv r4.2) Q Q (gS Q Q) Q (aO.split (fun yT => ?_) (fun yT => ?_))))
        ·refine bM (bV [iC r3.Graph.aH,lo 23 r3.Graph.aC.length,xT au r3.Places] Q gJ dR dB) Q Q (gH yT Q Q) Q (eu (Cc (lo 28 r5.1.length)) yT y5 (aP fun Pj aIC => (aO.pure (cF [.agg [iC r3.Graph.aH,lo 23 r3.Graph.aC.length,xT au r3.Places],.c (lo 28 r5.1.length)] [(23,pR 40 aK r3.Graph.aC),(28,pR 3 aF r5.1)] (Yj r3 r5.1 Pj aIC) U5 (.cons (.agg (.cons (.same Q) (.cons (.fC Q Q) (.cons (.weak (.same Q) (QW.uw zn (fun h => by cases h) _)) .nil)))) (.cons (.c (.fC Q Q)) .nil)) J y3) z3 z2 (gH yT Q Q) Q (aY (LT.not Q) Q (gH yT Q Q) Q (dY (LT.qR (v:=(Bv (!Pj))) Q yT) Q Q (gS Q Q) Q (eU (Bv (!Pj)) Q y5 (On (aX Q z2 J))))))))
        ·refine aS yT y5 (aS yT y5 (aS yT y5 (aS yT y5 (dY (LT.rC (v:=(Bv false)) Q yT) Q y2 (gS Q Q) Q (eU (Bv false) Q y5 (On (aX Q z2 J)))))))
  ·refine aA.cond Q (fun V6 => ?_) (fun V6 => ?_)
   ·refine Ws (Wr ?_)
    refine aI (Bv false) aZ (On (bP z1 J ⟨ah.sc,J⟩ J))
   ·refine aA.skip (Ws (Wr ?_))
    refine aG (Cc (xT dI code)) y4 (aP fun jO aIE => (aO.step (cZ [.c (xT dI code)] (Fw.Fn.ren [(0,36)] (aMf code jO aIE) Q) aFy (kQ Q) J y3) z2 J Q Q (aG (.dM [.agg [iC jO.1.aH,lo 36 jO.1.aC.length],.c (iC jO.2)]) y4 (gy (.agg [iC jO.1.aH,lo 36 jO.1.aC.length]) y5 (gy (.c (iC jO.2)) y5 (eG 37 [iC 0,sC aJ] jk y6 (bQ (stA [iC jO.1.aH,lo 36 jO.1.aC.length] Q Q dA bU) Q Q Q Q Q (aI (Iv jO.2) y4 (On (Ws ?_))))))))))
    refine en [(0,Cc (xT dI code)),(9,Cc (.pl 37 0)),(10,Iv jO.2)] [(36,pR 40 aK jO.1.aC),(37,.row 26 [[iC jO.1.aH,lo 36 jO.1.aC.length]])] z3 z2 (Wr (bM (bV [iC jO.1.aH,lo 36 jO.1.aC.length] Q eY dA bU) Q Q Q Q (aG (Iv jO.2) y4 (aP fun jP aIF => (aO.step (cF [.agg [iC jO.1.aH,lo 36 jO.1.aC.length],.c (iC jO.2)] [(36,pR 40 aK jO.1.aC)] (Fw.Fn.ren [(0,39),(1,40)] (aMH jO.1 jO.2 jP aIF) Q) aFz (.cons (.agg (.cons (.same Q) (.cons (.fC Q Q) .nil))) (.cons (.c (.same Q)) .nil)) J y3) z3 z1 Q Q (aG (.dM [.agg [iC jP.1.Graph.aH,lo 39 jP.1.Graph.aC.length,lo 40 jP.1.Places.length],.c (iC jP.2.1),.c (bC jP.2.2)]) y4 (gy (.agg [iC jP.1.Graph.aH,lo 39 jP.1.Graph.aC.length,lo 40 jP.1.Places.length]) y5 (gy (.c (iC jP.2.1)) y5 (gy (.c (bC jP.2.2)) y5 (eG 41 [iC 0,sC aJ,sC aJ] lJ y6 (bQ (stA [iC jP.1.Graph.aH,lo 39 jP.1.Graph.aC.length,lo 40 jP.1.Places.length] Q Q dR dB) Q Q Q Q Q ?_)))))))))))
    refine aI (Iv jP.2.1) y4 (aI (Bv jP.2.2) y4 (On (Ws ?_)))
    refine en [(0,Cc (xT dI code)),(9,Cc (.pl 37 0)),(10,Iv jO.2),(11,Cc (.pl 41 0)),(12,Iv jP.2.1),(13,Bv jP.2.2)] [(36,pR 40 aK jO.1.aC),(37,.row 26 [[iC jO.1.aH,lo 36 jO.1.aC.length]]),(39,pR 40 aK jP.1.Graph.aC),(40,pR 98 au jP.1.Places),(41,.row 46 [[iC jP.1.Graph.aH,lo 39 jP.1.Graph.aC.length,lo 40 jP.1.Places.length]])] z6 z5 (Wr (bM (bV [iC jO.1.aH,lo 36 jO.1.aC.length] Q eY dA bU) Q Q Q Q (aG (Iv jO.2) y4 (aP fun iW hr47 => (aO.step (cF [.agg [iC jO.1.aH,lo 36 jO.1.aC.length],.c (iC jO.2)] [(36,pR 40 aK jO.1.aC)] (Fw.Fn.ren [(0,43),(1,44)] (aMj jO.1 jO.2 iW hr47) Q) aF0 (.cons (.agg (.cons (.same Q) (.cons (.fC Q Q) .nil))) (.cons (.c (.same Q)) .nil)) J y3) z3 z1 Q Q (aG (.dM [.agg [iC iW.1.Graph.aH,lo 43 iW.1.Graph.aC.length,lo 44 iW.1.Places.length],.c (iC iW.2.1),.c (bC iW.2.2)]) y4 (gy (.agg [iC iW.1.Graph.aH,lo 43 iW.1.Graph.aC.length,lo 44 iW.1.Places.length]) y5 (gy (.c (iC iW.2.1)) y5 (gy (.c (bC iW.2.2)) y5 (eG 45 [iC 0,sC aJ,sC aJ] lJ y6 (bQ (stA [iC iW.1.Graph.aH,lo 43 iW.1.Graph.aC.length,lo 44 iW.1.Places.length] Q Q dR dB) Q Q Q Q Q ?_)))))))))))
    refine aI (Iv iW.2.1) y4 (aI (Bv iW.2.2) y4 (On (Ws (Ws ?_))))
    refine aA.eP (fun j56 => ([(0,Cc (xT dI code)),(134,Bv j56)],[])) ?_ (fun j56 _ => ?_)
    ·refine en [(0,Cc (xT dI code)),(9,Cc (.pl 37 0)),(11,Cc (.pl 41 0)),(12,Iv jP.2.1),(13,Bv jP.2.2),(14,Cc (.pl 45 0)),(15,Iv iW.2.1),(16,Bv iW.2.2)] [(36,pR 40 aK jO.1.aC),(37,.row 26 [[iC jO.1.aH,lo 36 jO.1.aC.length]]),(39,pR 40 aK jP.1.Graph.aC),(40,pR 98 au jP.1.Places),(41,.row 46 [[iC jP.1.Graph.aH,lo 39 jP.1.Graph.aC.length,lo 40 jP.1.Places.length]]),(43,pR 40 aK iW.1.Graph.aC),(44,pR 98 au iW.1.Places),(45,.row 46 [[iC iW.1.Graph.aH,lo 43 iW.1.Graph.aC.length,lo 44 iW.1.Places.length]])] z8 z8 (Wr (aG (Bv jP.2.2) y4 (aG (Bv iW.2.2) y4 (dY (LT.Xi Q UW) Q Q Q Q (aG (Bv (jP.2.2 != iW.2.2)) y4 (aO.split (fun Au => ?_) (fun Au => ?_)))))))
     ·refine aS Au y5 (aS Au y5 (aS Au y5 (dJ (Bv true) Au aV (aG (Bv true) y4 (ay y5 (ay y5 (ay y5 (ay y5 (dJ (Bv true) Q aV (aG (Bv true) y4 (ay y5 ?_)))))))))))
      refine ay y5 (Oj Q Q Q Q (Oj Q Q Q Q (Oj Q Q Q Q (Oj Q Q Q Q (Oj Q Q Q Q (Oj Q Q Q Q (Oj Q Q Q Q (Oj Q Q Q Q (Oj Q Q Q Q (Oj Q Q Q Q (ay y5 ?_)))))))))))
      refine dJ (Bv true) Q aV (On (aX Q z2 J))
     ·refine eu (Iv jP.2.1) Au y5 (eu (Iv iW.2.1) Au y5 (iy LT.neq Au y6 (eU (Bv (jP.2.1 != iW.2.1)) Au y5 (aG (Bv (jP.2.1 != iW.2.1)) y4 (aO.split (fun yU => ?_) (fun yU => ?_))))))
      ·refine aS yU y5 (aS yU y5 (aS yU y5 (aS yU y5 (dJ (Bv true) yU aV (aG (Bv true) y4 (ay y5 (ay y5 (Oj Q Q Q Q (Oj Q Q Q Q (Oj Q Q Q Q (Oj Q Q Q Q ?_)))))))))))
       refine Oj Q Q Q Q (Oj Q Q Q Q (Oj Q Q Q Q (Oj Q Q Q Q (Oj Q Q Q Q (Oj Q Q Q Q (ay y5 (dJ (Bv true) Q aV (On (aX Q z2 J)))))))))
      ·refine bM (bV [iC jP.1.Graph.aH,lo 39 jP.1.Graph.aC.length,lo 40 jP.1.Places.length] Q gJ dR dB) Q Q (gH yU Q Q) Q (bM (bV [iC iW.1.Graph.aH,lo 43 iW.1.Graph.aC.length,lo 44 iW.1.Places.length] Q gJ dR dB) Q Q (gH yU Q Q) Q (aP fun tq WX => (aO.pure (cF [.agg [iC jP.1.Graph.aH,lo 39 jP.1.Graph.aC.length,lo 40 jP.1.Places.length],.agg [iC iW.1.Graph.aH,lo 43 iW.1.Graph.aC.length,lo 44 iW.1.Places.length]] [(39,pR 40 aK jP.1.Graph.aC),(40,pR 98 au jP.1.Places),(43,pR 40 aK iW.1.Graph.aC),(44,pR 98 au iW.1.Places)] (aEM jP.1 iW.1 tq WX) Z4 (.cons (.agg (.cons (.same Q) (.cons (.fC Q Q) (.cons (.fC Q Q) .nil)))) (.cons (.agg (.cons (.same Q) (.cons (.fC Q Q) (.cons (.fC Q Q) .nil)))) .nil)) J y3) z3 z4 (gH yU Q Q) Q (aY (LT.not Q) Q (gH yU Q Q) Q (eU (Bv (!tq)) yU y5 (aG (Bv (!tq)) y4 (aO.split (fun wQ => ?_) (fun wQ => ?_))))))))
       ·refine aS wQ y5 (aS wQ y5 (Oj Q Q Q Q (Oj Q Q Q Q (Oj Q Q Q Q (Oj Q Q Q Q (Oj Q Q Q Q (Oj Q Q Q Q (Oj Q Q Q Q (Oj Q Q Q Q (Oj Q Q Q Q (Oj Q Q Q Q ?_)))))))))))
        refine aS wQ y5 (dJ (Bv true) wQ aV (On (aX Q z2 J)))
       ·refine eu (Bv jP.2.2) wQ y5 (eu (Bv jP.2.2) wQ y5 (aO.split (fun uh => ?_) (fun uh => ?_)))
        ·refine bM (bV [iC iW.1.Graph.aH,lo 43 iW.1.Graph.aC.length,lo 44 iW.1.Places.length] Q gJ dR dB) Q Q (gH uh Q Q) Q (aP fun TY aIK => (aO.pure (cF [.agg [iC iW.1.Graph.aH,lo 43 iW.1.Graph.aC.length,lo 44 iW.1.Places.length]] [(43,pR 40 aK iW.1.Graph.aC),(44,pR 98 au iW.1.Places)] (aEB iW.1 TY aIK) Z7 (.cons (.agg (.cons (.same Q) (.cons (.fC Q Q) (.cons (.fC Q Q) .nil)))) .nil) J y3) z2 z2 (gH uh Q Q) Q (aY (LT.not Q) Q (gH uh Q Q) Q (eu (Bv (!TY)) uh y5 (aO.split (fun oH => ?_) (fun oH => ?_))))))
         ·refine aS oH y5 (aS oH y5 (aS oH y5 (aS oH y5 (aS oH y5 (dY (LT.qR (v:=(Bv true)) Q oH) Q y2 (gH uh Q Q) Q (dY (LT.qR (v:=(Bv true)) Q uh) Q Q (gH wQ Q Q) Q (eU (Bv true) wQ y5 (On (aX Q z2 J)))))))))
         ·refine aY (LT.gU Q lF) Q (gH oH Q Q) Q (bM (bV [iC iW.1.Graph.aH,lo 43 iW.1.Graph.aC.length] Q eY dA bU) Q Q (gH oH Q Q) Q (bM (bV [iC jO.1.aH,lo 36 jO.1.aC.length] Q eY dA bU) Q Q (gH oH Q Q) Q (aP fun KX aIL => (aO.pure (cF [.agg [iC iW.1.Graph.aH,lo 43 iW.1.Graph.aC.length],.agg [iC jO.1.aH,lo 36 jO.1.aC.length]] [(43,pR 40 aK iW.1.Graph.aC),(36,pR 40 aK jO.1.aC)] (aEN iW.1.Graph jO.1 KX aIL) Z8 (.cons (.agg (.cons (.same Q) (.cons (.fC Q Q) .nil))) (.cons (.agg (.cons (.same Q) (.cons (.fC Q Q) .nil))) .nil)) J y3) z3 z2 (gH oH Q Q) Q (aY (LT.not Q) Q (gH oH Q Q) Q (dY (LT.rC (v:=(Bv (!KX))) Q oH) Q Q (gH uh Q Q) Q (dY (LT.qR (v:=(Bv (!KX))) Q uh) Q Q (gH wQ Q Q) Q (eU (Bv (!KX)) wQ y5 (On (aX Q z2 J))))))))))
        ·refine aS uh y5 (aS uh y5 (aS uh y5 (aS uh y5 (Oj Q Q Q Q (Oj Q Q Q Q (Oj Q Q Q Q (Oj Q Q Q Q (Oj Q Q Q Q (aS uh y5 (dY (LT.rC (v:=(Bv false)) Q uh) Q y2 (gH wQ Q Q) Q (eU (Bv false) wQ y5 ?_)))))))))))
         refine On (aX Q z2 J)
    ·refine aA.cond Q (fun aHR => ?_) (fun aHR => ?_)
     ·refine Ws (Wr ?_)
      refine aI (Bv false) aZ (On (bP z1 J ⟨ah.sc,J⟩ J))
     ·refine aA.skip (Ws (Wr ?_))
      refine aG (Cc (xT dI code)) y4 (aP fun jb WY => (aO.step (cZ [.c (xT dI code)] (Fw.Fn.ren [(0,50)] (aMh code jb WY) Q) aF1 (kQ Q) J y3) z2 J Q Q (aG (.dM [.agg [iC jb.1.aH,lo 50 jb.1.aC.length],.c (iC jb.2)]) y4 (gy (.agg [iC jb.1.aH,lo 50 jb.1.aC.length]) y5 (gy (.c (iC jb.2)) y5 (eG 51 [iC 0,sC aJ] jk y6 (bQ (stA [iC jb.1.aH,lo 50 jb.1.aC.length] Q Q dA bU) Q Q Q Q Q (aI (Iv jb.2) y4 (On (Ws ?_))))))))))
      refine en [(0,Cc (xT dI code)),(17,Cc (.pl 51 0)),(18,Iv jb.2)] [(50,pR 40 aK jb.1.aC),(51,.row 26 [[iC jb.1.aH,lo 50 jb.1.aC.length]])] z3 z2 (Wr (bM (bV [iC jb.1.aH,lo 50 jb.1.aC.length] Q eY dA bU) Q Q Q Q (aG (Iv jb.2) y4 (aP fun kY aIM => (aO.step (cF [.agg [iC jb.1.aH,lo 50 jb.1.aC.length],.c (iC jb.2)] [(50,pR 40 aK jb.1.aC)] (Fw.Fn.ren [(0,53),(1,54)] (aED jb.1 jb.2 kY aIM) Q) Z9 (.cons (.agg (.cons (.same Q) (.cons (.fC Q Q) .nil))) (.cons (.c (.same Q)) .nil)) J y3) z3 z1 Q Q (aG (.dM [.agg [iC kY.1.Graph.aH,lo 53 kY.1.Graph.aC.length,lo 54 kY.1.Places.length],.c (bC kY.2)]) y4 (gy (.agg [iC kY.1.Graph.aH,lo 53 kY.1.Graph.aC.length,lo 54 kY.1.Places.length]) y5 (gy (.c (bC kY.2)) y5 (eG 55 [iC 0,sC aJ,sC aJ] lJ y6 (bQ (stA [iC kY.1.Graph.aH,lo 53 kY.1.Graph.aC.length,lo 54 kY.1.Places.length] Q Q dR dB) Q Q Q Q Q (aI (Bv kY.2) y4 ?_)))))))))))
      refine On (Ws ?_)
      refine en [(0,Cc (xT dI code)),(17,Cc (.pl 51 0)),(18,Iv jb.2),(19,Cc (.pl 55 0)),(20,Bv kY.2)] [(50,pR 40 aK jb.1.aC),(51,.row 26 [[iC jb.1.aH,lo 50 jb.1.aC.length]]),(53,pR 40 aK kY.1.Graph.aC),(54,pR 98 au kY.1.Places),(55,.row 46 [[iC kY.1.Graph.aH,lo 53 kY.1.Graph.aC.length,lo 54 kY.1.Places.length]])] z5 z5 (Wr (bM (bV [iC jb.1.aH,lo 50 jb.1.aC.length] Q eY dA bU) Q Q Q Q (aG (Iv jb.2) y4 (aP fun kH WZ => (aO.step (cF [.agg [iC jb.1.aH,lo 50 jb.1.aC.length],.c (iC jb.2)] [(50,pR 40 aK jb.1.aC)] (Fw.Fn.ren [(0,57),(1,58)] (aEQ jb.1 jb.2 kH WZ) Q) aAA (.cons (.agg (.cons (.same Q) (.cons (.fC Q Q) .nil))) (.cons (.c (.same Q)) .nil)) J y3) z3 z1 Q Q (aG (.dM [.agg [iC kH.1.Graph.aH,lo 57 kH.1.Graph.aC.length,lo 58 kH.1.Places.length],.c (bC kH.2)]) y4 (gy (.agg [iC kH.1.Graph.aH,lo 57 kH.1.Graph.aC.length,lo 58 kH.1.Places.length]) y5 (gy (.c (bC kH.2)) y5 (eG 59 [iC 0,sC aJ,sC aJ] lJ y6 (bQ (stA [iC kH.1.Graph.aH,lo 57 kH.1.Graph.aC.length,lo 58 kH.1.Places.length] Q Q dR dB) Q Q Q Q Q (aI (Bv kH.2) y4 ?_)))))))))))
      refine On (Ws ?_)
      refine en [(0,Cc (xT dI code)),(19,Cc (.pl 55 0)),(20,Bv kY.2),(21,Cc (.pl 59 0)),(22,Bv kH.2)] [(53,pR 40 aK kY.1.Graph.aC),(54,pR 98 au kY.1.Places),(55,.row 46 [[iC kY.1.Graph.aH,lo 53 kY.1.Graph.aC.length,lo 54 kY.1.Places.length]]),(57,pR 40 aK kH.1.Graph.aC),(58,pR 98 au kH.1.Places),(59,.row 46 [[iC kH.1.Graph.aH,lo 57 kH.1.Graph.aC.length,lo 58 kH.1.Places.length]])] z5 z6 (Wr (aG (Cc (xT dI code)) y4 (aP fun yu aIN => (jD [.c (xT dI code)] (aMg code yu aIN) aF2 (kQ Q) y5 z2 (aI (Iv yu) y4 (On (Ws ?_)))))))
      refine aA.eP (fun j75 => ([(2,Bv j75)],[])) ?_ (fun j75 _ => ?_)
      ·refine Wr (aG (Bv kY.2) y4 (aG (Bv kH.2) y4 (dY (LT.aGY Q UW) Q Q Q Q (aG (Bv (kY.2 == kH.2)) y4 (aO.split (fun Aw => ?_) (fun Aw => ?_))))))
       ·refine bM (bV [iC kY.1.Graph.aH,lo 53 kY.1.Graph.aC.length,lo 54 kY.1.Places.length] Q gJ dR dB) Q Q (gH Aw Q Q) Q (bM (bV [iC kH.1.Graph.aH,lo 57 kH.1.Graph.aC.length,lo 58 kH.1.Places.length] Q gJ dR dB) Q Q (gH Aw Q Q) Q (aP fun Pm aIO => (aO.pure (cF [.agg [iC kY.1.Graph.aH,lo 53 kY.1.Graph.aC.length,lo 54 kY.1.Places.length],.agg [iC kH.1.Graph.aH,lo 57 kH.1.Graph.aC.length,lo 58 kH.1.Places.length]] [(53,pR 40 aK kY.1.Graph.aC),(54,pR 98 au kY.1.Places),(57,pR 40 aK kH.1.Graph.aC),(58,pR 98 au kH.1.Places)] (aEM kY.1 kH.1 Pm aIO) Z4 (.cons (.agg (.cons (.same Q) (.cons (.fC Q Q) (.cons (.fC Q Q) .nil)))) (.cons (.agg (.cons (.same Q) (.cons (.fC Q Q) (.cons (.fC Q Q) .nil)))) .nil)) J y3) z3 z4 (gH Aw Q Q) Q (dJ (Bv Pm) Aw y5 (aG (Bv Pm) y4 (aO.split (fun wR => ?_) (fun wR => ?_)))))))
        ·refine eu (Iv yu) wR y5 (aP fun Pn aIP => (aO.pure (cZ [.c (iC yu)] (Yk yu Pn aIP) U6 (kQ Q) J y3) z2 J (gH wR Q Q) Q (eu (Iv yu) wR y5 (aP fun Po aIQ => (aO.pure (cZ [.c (iC yu)] (Yn yu Po aIQ) U7 (kQ Q) J y3) z2 J (gH wR Q Q) Q (iy LT.eql wR y6 (dJ (Bv (Pn == Po)) wR y5 (aI (Bv (Pn == Po)) y4 (On (aX Q z1 J))))))))))
        ·refine aS wR y5 (aS wR y5 (aS wR y5 (aS wR y5 (aS wR y5 (eU (Bv false) wR aV (aI (Bv false) y4 (On (aX Q z1 J))))))))
       ·refine aS Aw y5 (aS Aw y5 (aS Aw y5 (eU (Bv false) Aw aV (aG (Bv false) y4 (ay y5 (ay y5 (ay y5 (ay y5 (ay y5 (eU (Bv false) Q aV (aI (Bv false) y4 ?_)))))))))))
        refine On (aX Q z1 J)
      ·refine bP z1 J ⟨ah.sc,J⟩ J
end Go.Proofs.YtdmlaldifbmkpaaGreat
end
section
namespace Go.Fw
open Go.ChangeShapes Go.WideShapes Go.ChangeAt Go.RowKit
open Go.Proofs.YtdmlaldifbmkpaaGreat (Rows.uptoBulk Rows.uptoBulkAll)
abbrev uG (W:World):Nat → Prop:=fun b => b < W.heap.size
abbrev Ci:Nat → Prop:=fun _ => False
abbrev MO:Nat → GS:=fun _ => .dead
def Opn {α:Type} (P:Program) (t:TypeId) (s:Nat) (enc:α → List PV) (wt:α → Nat) (ok:α → Prop):Prop :=
 ∀ (H:Type) (e:TypeId × Value → H) (W:World) (base:Nat) (spare:Nat → Bool) (held:Bool) (fuel:Nat) (cs:List Value) (x:DataW H × List MemPlace),DataW.trod e P W base spare held fuel t cs = some x →
  ∃ a:α,ok a ∧ wt a ≤ Go.Proofs.YtdmlaldifbmkpaaGreat.Rows.uptoBulk x.1 ∧ cs.length = s ∧ (enc a).length = s ∧ ∀ (k:Nat) p,(enc a)[k]? = some p → ∃ u,cs[k]? = some u ∧ jW W Ci (uG W) p u
def okL {α:Type} (ok:α → Prop) (xs:List α):Prop:=∀ x ∈ xs,ok x
def LJ (_:Int):Nat:=1
def Gi {α:Type} (wt:α → Nat) (xs:List α):Nat:=(xs.map wt).sum + 1
section
variable {P:Program}
theorem one1 {p q:PV} {cs:List Value} {v:Value} {W:World} (hcs:cs = [v]) (h:jW W Ci (uG W) p v):∀ (k:Nat) r,[p][k]? = some r → ∃ u,cs[k]? = some u ∧ jW W Ci (uG W) r u:=fun k r hk => by
 subst hcs
 cases k with
 | zero => simp at hk; subst hk; exact ⟨v,rfl,h⟩
 | succ k => simp at hk
theorem aBy {α:Type} {p:Nat → α → Prop}:∀ n:Nat,(∀ i,i < n → ∃ a,p i a) → ∃ xs:List α,xs.length = n ∧ ∀ (i:Nat) a,xs[i]? = some a → p i a
 | 0,_ => ⟨[],rfl,fun i a h => by simp at h⟩
 | n + 1,h => by
  obtain ⟨xs,h1,h2⟩:=aBy n fun i hi => h i (by omega)
  obtain ⟨a,ha⟩:=h n (by omega)
  refine ⟨xs ++ [a],by simp [h1],fun i b hb => ?_⟩
  rw [List.getElem?_append] at hb
  split at hb
  ·exact h2 i b hb
  ·rename_i hn
   have hi:i - xs.length = 0:=by
    have:=(List.getElem?_eq_some_iff.1 hb).1
    simp at this
    omega
   rw [hi] at hb
   simp at hb
   subst hb
   have:i = n:=by omega
   subst this
   exact ha
theorem ZW {α:Type} {H:Type} {wt:α → Nat} {D:Nat → DataW H}:∀ (xs:List α) (k:Nat),(∀ (i:Nat) a,xs[i]? = some a → wt a ≤ Go.Proofs.YtdmlaldifbmkpaaGreat.Rows.uptoBulk (D (k + i))) →
  (xs.map wt).sum ≤ Go.Proofs.YtdmlaldifbmkpaaGreat.Rows.uptoBulkAll ((List.range' k xs.length).map D)
 | [],_,_ => by simp [Go.Proofs.YtdmlaldifbmkpaaGreat.Rows.uptoBulkAll]
 | a :: r,k,h => by
  have h0:=h 0 a rfl
  have ih:=ZW r (k + 1) fun i b hb => by
   have:=h (i + 1) b (by simpa using hb)
   rwa [show k + 1 + i = k + (i + 1) by omega]
  rw [Nat.add_zero] at h0
  simp only [List.map_cons,List.sum_cons,List.length_cons,List.range'_succ,Go.Proofs.YtdmlaldifbmkpaaGreat.Rows.uptoBulkAll]
  omega
theorem cell_lt {w:World} {a:Addr} {v:Value} (h:w.cell? a = some v):a.block < w.heap.size:=by
 unfold World.cell? at h
 cases hb:w.heap[a.block]? with
 | none => rw [hb] at h; simp at h
 | some o => exact (Array.getElem?_eq_some_iff.1 hb).1
theorem Opn.slice {α:Type} {t e:TypeId} {s:Nat} {enc:α → List PV} {wt:α → Nat} {ok:α → Prop} (ht:P.underlying t = some (.slice e)) (hs:P.cellsOf e = s) (hs0:0 < s) (he:Opn P e s enc wt ok) :
  Opn P t 1 (fun xs:List α => [.xs false (xs.map enc)]) (Gi wt) (okL ok):=fun H en W base spare held fuel cs x h => by
 rcases Go.Deep.open_slice ht h with ⟨rfl,rfl⟩ | ⟨a,len,cap,m,n,D,Pl,rfl,hb,hl,hm,hmm,rfl,hi⟩
 ·refine ⟨[],?_,?_,rfl,rfl,one1 (q:=.xs false []) rfl .emp⟩
  ·intro x hx; cases hx
  ·simp [Gi,Go.Proofs.YtdmlaldifbmkpaaGreat.Rows.uptoBulk]
 ·have hml:len ≤ m:=by rw [hmm]; split <;> omega
  obtain ⟨xs,hxl,hx⟩:=aBy (p:=fun i (b:α) => ok b ∧ wt b ≤ Go.Proofs.YtdmlaldifbmkpaaGreat.Rows.uptoBulk (D i) ∧ (enc b).length = s ∧ ∀ (k:Nat) p,(enc b)[k]? = some p → ∃ u,W.cell? (a.add (i * s + k)) = some u ∧ jW W Ci (uG W) p u) len (fun i hil => by
   obtain ⟨cs',hc,htr⟩:=hi i (by omega)
   obtain ⟨b,h1,h2,h3,h4,h5⟩:=he _ _ _ _ _ _ _ _ _ htr
   obtain ⟨_,hcl,hat⟩:=World.cells?_some hc
   refine ⟨b,h1,h2,h4,fun k p hk => ?_⟩
   obtain ⟨u,hu,hr⟩:=h5 k p hk
   refine ⟨u,?_,hr⟩
   have hks:k < s:=by rw [← h4]; exact (List.getElem?_eq_some_iff.1 hk).1
   have:=hat k (by rw [hs]; exact hks)
   rw [add_add,hs] at this
   rw [this]
   exact hu)
  refine ⟨xs,fun b hb => ?_,?_,rfl,rfl,one1 (q:=.sc undef) rfl ?_⟩
  ·obtain ⟨i,hib⟩:=List.getElem?_of_mem hb
   exact (hx i b hib).1
  ·have:=ZW (wt:=wt) (D:=D) xs 0 (fun i b hb => by rw [Nat.zero_add]; exact (hx i b hb).2.1)
   simp only [Gi,Go.Proofs.YtdmlaldifbmkpaaGreat.Rows.uptoBulk]
   rw [hxl,← List.range_eq_range'] at this
   omega
  ·cases hxs:xs with
   | nil =>
    have:len = 0:=by rw [← hxl,hxs]; rfl
    subst this
    exact .emp
   | cons b r =>
    rw [← hxs]
    have hget:∀ (j k:Nat) cs p,(xs.map enc)[j]? = some cs → cs[k]? = some p → ∃ u,W.cell? (a.add (j * s + k)) = some u ∧ jW W Ci (uG W) p u:=fun j k cs p hj hk => by
     rw [List.getElem?_map] at hj
     cases WG:xs[j]? with
     | none => rw [WG] at hj; cases hj
     | some c =>
      rw [WG] at hj
      injection hj with hj
      subst hj
      exact (hx j c WG).2.2.2 k p hk
    refine .xs (s:=s) (fun j k => (W.cell? (a.add (j * s + k))).getD undef) (by simp [hxl]) ?_ (by simp [hxl]; exact hl) (fun cs hcs => ?_) (fun j k cs p hj hk => ?_) (fun j k cs p hj hk => ?_)
    ·have h0:=hx 0 b (by rw [hxs]; rfl)
     have hlt:0 < (enc b).length:=by rw [h0.2.2.1]; exact hs0
     obtain ⟨u,hu,_⟩:=h0.2.2.2 0 (enc b)[0] (List.getElem?_eq_getElem hlt)
     have:=cell_lt hu
     rw [add_block] at this
     exact this
    ·obtain ⟨c,hc,rfl⟩:=List.mem_map.1 hcs
     obtain ⟨i,hic⟩:=List.getElem?_of_mem hc
     exact (hx i c hic).2.2.1
    ·obtain ⟨u,hu,_⟩:=hget j k cs p hj hk
     rw [hu]; rfl
    ·obtain ⟨u,hu,hr⟩:=hget j k cs p hj hk
     rw [hu]
     exact hr
theorem aJo {α:Type} {wt:α → Nat} (h:∀ x,1 ≤ wt x) (xs:List α):xs.length ≤ Gi wt xs:=by
 unfold Gi
 induction xs with
 | nil => simp
 | cons x r ih =>
  have:=h x
  simp only [List.map_cons,List.sum_cons,List.length_cons] at ih ⊢
  omega
theorem Opn.arg1 {α:Type} {t:TypeId} {enc:α → List PV} {wt:α → Nat} {ok:α → Prop} (h:Opn P t 1 enc wt ok) {p:α → PV} (hp:∀ a,enc a = [p a]) {H:Type} {e:TypeId × Value → H} {W:World} {sp:Nat → Bool} {v:Value} {d:DataW H} {ps:List MemPlace}
  (hv:v.oneCell' = true) (hd:DataW.Trod e P W 0 sp true t v d ps):∃ a:α,ok a ∧ wt a ≤ Go.Proofs.YtdmlaldifbmkpaaGreat.Rows.uptoBulk d ∧ RS P W Ci (uG W) MO (.c (.pv (p a))) v:=by
 obtain ⟨fuel,hf⟩:=hd
 obtain ⟨a,h1,h2,h3,h4,h5⟩:=h _ _ _ _ _ _ _ _ _ hf
 refine ⟨a,h1,h2,?_⟩
 have hc:v.cells = #[v]:=aKF hv
 obtain ⟨u,hu,hr⟩:=h5 0 (p a) (by rw [hp]; rfl)
 rw [hc] at hu
 have:v = u:=by simpa using hu
 subst this
 exact ⟨hv,hr⟩
theorem aDr {H:Type} {e:TypeId × Value → H} (hl:laidOutB P = true) {W W':World} {sp:Nat → Bool} (hb:Below W.heap.size W W'):∀ {ts:List TypeId} {vs:List Value} {ds:List (DataW H)} {ps:List MemPlace},(ts.all fun t => P.readableRec t && decide (t < P.types.size)) = true →
  DataW.TrodAll e P W 0 (fun _ => true) true ts vs ds ps → (∀ p ∈ ps,p.block < W.heap.size) → (∀ p ∈ ps,sp p.block = true) → DataW.TrodAll e P W' 0 sp true ts vs ds ps
 | [],[],[],_,_,h,_,_ => h
 | t :: ts,v :: vs,d :: ds,ps,hr,h,hlt,hs => by
  obtain ⟨p,q,h1,h2,rfl⟩:=h
  simp only [List.all_cons,Bool.and_eq_true,decide_eq_true_eq] at hr
  exact ⟨p,q,Go.WideElems.Trod_stays hl hr.1.1 hr.1.2 h1 (fun x hx => hb.same (hlt x (List.mem_append_left _ hx))) (fun x hx => hs x (List.mem_append_left _ hx)),aDr hl hb hr.2 h2 (fun x hx => hlt x (List.mem_append_right _ hx)) (fun x hx => hs x (List.mem_append_right _ hx)),rfl⟩
 | [],[],_ :: _,_,_,h,_,_ => h.elim
 | [],_ :: _,_,_,_,h,_,_ => h.elim
 | _ :: _,[],_,_,_,h,_,_ => h.elim
 | _ :: _,_ :: _,[],_,_,h,_,_ => h.elim
theorem aKX {H:Type} {e:TypeId × Value → H} {f:Func} {s:ChangeSpec} {apart handsOn again:Bool} {fresh:Bool} {W W':World} {args:Array Value} {ds gs:List (DataW H)} {before:List MemPlace} {tb:TypeId} (hW:DataW.Whole e P f.params.toList s.vars apart W args.toList ds gs before) (hl:laidOutB P = true)
  (hr:(f.params.toList.all fun t => P.readableRec t && decide (t < P.types.size)) = true) (hb:Below W.heap.size W W') (hv:s.vars = []) (hf:s.fn H ds = { results:=[.lit (.bool true)],args:=ds }) (hrt:f.resultTypes = #[tb]) (htb:P.underlying tb = some .bool) :
  s.post e P f apart fresh handsOn again W args (.bool true) W':=by
 have hlt:∀ p ∈ before,p.block < W.heap.size:=fun p hp => hW.lt p hp
 have hW0:=hW
 obtain ⟨p,q,hA,hV,hpq,hz,hn⟩:=hW
 rw [hv] at hV
 obtain ⟨rfl,rfl⟩:gs = [] ∧ q = []:=by
  cases gs with
  | nil => exact ⟨rfl,hV⟩
  | cons _ _ => exact hV.elim
 rw [List.append_nil] at hpq
 subst hpq
 have hargs:∀ sp:Nat → Bool,(∀ p ∈ before,sp p.block = true) → DataW.TrodAll e P W' 0 sp true f.params.toList args.toList ds before:=fun sp hs => aDr hl hb hr hA hlt hs
 have hres:∀ (b:Nat) (sp:Nat → Bool) (hd:Bool),DataW.TrodAll e P W' b sp hd f.resultTypes.toList ((Value.bool true).resultList f.resultTypes.size) [.lit (.bool true)] []:=fun b sp hd => by
  rw [hrt]
  exact ⟨[],[],shut_bool htb _,rfl,rfl⟩
 have hfd:s.fn H (ds ++ []) = { results:=[.lit (.bool true)],args:=ds }:=by rw [List.append_nil]; exact hf
 have hold:∀ p ∈ before,(fun b => decide (b < W.heap.size)) p.block = true:=fun p hp => by simpa using hlt p hp
 have hvs:∀ sp:Nat → Bool,DataW.TrodVars e P W' sp s.vars [] []:=fun sp => by rw [hv]; rfl
 refine ⟨ds,[],before,[],before,[],hW0,?_,?_,?_,World.keptBut_mono (fun p hp => ⟨hp,?_⟩) (hb.frame (· ∈ before)),fun _ => ?_⟩
 ·rw [hfd]; exact hres _ _ _
 ·rw [hfd]; exact hargs _ hold
 ·rw [hfd]; exact hvs _
 ·exact Or.inr (Or.inl hp)
 ·refine ⟨ok_one hrt rfl (okWide_bool_mk htb _),?_⟩
  ·refine ⟨_,_,([] ++ before) ++ [],⟨[] ++ before,[],trodAll_append (hargs _ (fun _ _ => rfl)) (hres _ _ _),hvs _,rfl,?_,?_⟩,?_⟩
   ·intro b off hp
    have hin:MemPlace.cell b off ∈ before:=by simpa using hp
    rw [hb.frozen (hlt _ hin)]
    exact hz b off hin
   ·intro ha
    simpa using hn ha
   ·intro p hp _
    simpa using hp
end
end Go.Fw
end
section
open Go Go.Fw
open Go.ChangeShapes Go.WideShapes Go.ChangeAt Go.RowKit
namespace Go.Proofs.YtdmlaldifbmkpaaGreat
theorem oC5:Tryz.prog.cellsOf 5 = 1:=by kernel_rfl
theorem aCU:Tryz.prog.underlying 22 = some (.slice 5):=by kernel_rfl
theorem oU5:Tryz.prog.underlying 5 = some (.int .u8):=by kernel_rfl
def okB (n:Int):Prop:=0 ≤ n ∧ n ≤ 255
theorem Opn.u8 {P:Program} {t:TypeId} (ht:P.underlying t = some (.int .u8)):Opn P t 1 dI LJ okB:=fun H e W base spare held fuel cs x h => by
  obtain ⟨n, rfl, rfl, hw⟩:=DataW.trod_int ht h
  refine ⟨n, ?_, by simp [LJ, Go.Proofs.YtdmlaldifbmkpaaGreat.Rows.uptoBulk], rfl, rfl, one1 (q:=.sc (.int .u8 n)) rfl (.sc rfl)⟩
  simp [Lit.wf, IntKind.min, IntKind.max, IntKind.signed, IntKind.bits] at hw
  exact ⟨by omega, by omega⟩
theorem jW.aFI {W:World} {l:List Int} {v:Value} (h:jW W Ci (uG W) (.xs false (l.map dI)) v):jW W (uG W) (uG W) (.xs true (l.map dI)) v:=by
  generalize hE:l.map dI = E at h
  cases h with
  | emp => exact .emp
  | xs val hn hb hc hs hv hr =>
    refine .xs val hn hb hc hs hv fun j k cs p hj hk => ?_
    have h1:=hr j k cs p hj hk
    subst hE
    obtain ⟨x, hx, rfl⟩:=List.mem_map.mp (List.mem_of_getElem? hj)
    cases k with
    | zero =>
      cases hk
      revert h1
      generalize val j 0 = u
      intro h1
      cases h1 with | sc h => exact .sc h
    | succ k => cases hk
theorem Fn.aFJ {P:Program} {f:FuncId} {l:List Int} (hf:Fw.Fn P f [.c (xT dI l)] [] (.s (.c (bC true))) [] [] []) {W:World} {v:Value} (ha:RS P W Ci (uG W) MO (.c (xF dI l)) v):Calls P f #[v] W fun e W' => e = .returned (.bool true) ∧ Below W.heap.size W W':=by
  have ha':RS P W (uG W) (uG W) MO (.c (xT dI l)) v:=⟨ha.1, jW.aFI ha.2⟩
  have hw:WF (uG W) (uG W) MO W:=⟨fun b hb => hb, fun b hb => hb, fun n b hg => hg.elim, fun n m b hg => hg.elim, fun n j k b h => (by cases h)⟩
  have:=hf (uG W) (uG W) MO W [v] hw rfl (fun k x hk => by cases k with | zero => cases hk; exact ⟨v, rfl, ha'⟩ | succ k => cases hk) (fun p hp => by cases hp)
  refine this.mono fun e W' hp => ?_
  obtain ⟨u, R', B', g', rfl, had, _, hv, _⟩:=hp
  have hu:u = .bool true:=by
    obtain ⟨_, h3⟩:=hv
    cases h3
    rfl
  subst hu
  exact ⟨rfl, had.os, had.tape, had.output, had.size, fun k hk => had.heap k hk fun n hn => by cases hn⟩
end Go.Proofs.YtdmlaldifbmkpaaGreat
end
