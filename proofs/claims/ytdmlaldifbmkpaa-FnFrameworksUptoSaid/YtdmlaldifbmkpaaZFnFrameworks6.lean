/- Parts of a proof that a law of the program holds: what the program computes, and why that is right. -/
import Derived.Test.YtdmlaldifbmkpaaRows
import Derived.ProofKit
import Derived.OpenShut
import Derived.JoinedCond
import Derived.Carry
import Derived.Deep.Slices
import Derived.ChangeSame
import Derived.Test.YtdmlaldifbmkpaaZFnFrameworks5
set_option linter.unusedVariables false
set_option linter.unusedSimpArgs false
set_option linter.unnecessarySimpa false
set_option maxRecDepth 100000
set_option maxHeartbeats 8000000
section
open Go Go.Fw
namespace Go.Proofs.Ytdmlaldifbmkpaa
theorem aKY (code:(List Int)):FT Try.prog (Rq code) 6 [.c (xT bn code)] [] (fun (t:Bool) => [.c (bC t)]) (fun (t:Bool) => []) []:=by
 refine FT.of [] Try.func6 Try.ntmps6 Q y2 ?_
 intro w0 U0 R0 g0
 unfold Rq
 refine Ws (Wr ?_)
 refine aI (Bv false) ak (On (Ws (Ws (Wr ?_))))
 refine aG (Cc (xT bn code)) y4 (aU fun r1 hr1 => (jC [.c (xT bn code)] (aKZ code r1 hr1) cb7 (.cons (.c (.weak (.same Q) (QW.iL aI6 (fun h => by cases h) _))) .nil) y5 z2 (On (aC.cond Q (fun hc2 => ?_) (fun hc2 => ?_)))))
 ·refine Ws (Wr ?_)
  refine aI (Bv true) ak (On (bT z1 J ⟨ah.sc,J⟩ J))
 ·refine aC.skip (Ws (Wr ?_))
  refine aG (Cc (xT bn code)) y4 (aU fun r3 hr3 => (aT.step (bU [.c (xT bn code)] (Fw.Fn.ren [(0,23)] (aKj code r3 hr3) Q) aEQ (iF Q) J y3) z2 J Q Q (dQ 24 [iC 0,sC aO,sC aO] iG y6 (dA (stA [iC r3.Graph.aF,lo 23 r3.Graph.aA.length,xT aJ r3.Places] Q Q ax ai) Q Q Q Q Q (On (Ws ?_))))))
  refine en [(0,Cc (xT bn code)),(3,Cc (.pl 24 0))] [(23,pR 96 aK r3.Graph.aA),(24,.row 29 [[iC r3.Graph.aF,lo 23 r3.Graph.aA.length,xT aJ r3.Places]])] z2 z2 (Wr (cZ (bD [iC r3.Graph.aF,lo 23 r3.Graph.aA.length,xT aJ r3.Places] Q bP ax ai) Q Q Q Q (aU fun r4 hr4 => (aT.step (cF [.agg [iC r3.Graph.aF,lo 23 r3.Graph.aA.length,xT aJ r3.Places]] [(23,pR 96 aK r3.Graph.aA)] (Fw.Fn.ren [(0,26),(1,27)] (aKN r3 r4 hr4) Q) aER (.cons (.agg (.cons (.same Q) (.cons (.dG Q Q) (.cons (.weak (.same Q) (QW.iL jA (fun h => by cases h) _)) .nil)))) .nil) J y3) z2 z1 Q Q (dQ 28 [iC 0,sC aO,sC aO] iG y6 (dA (stA [iC r4.Graph.aF,lo 26 r4.Graph.aA.length,lo 27 r4.Places.length] Q Q ax ai) Q Q Q Q Q (On (Ws (Wr ?_)))))))))
  refine cZ (bD [iC r3.Graph.aF,lo 23 r3.Graph.aA.length,xT aJ r3.Places] Q bP ax ai) Q Q Q Q (aU fun r5 nU => (aT.step (cF [.agg [iC r3.Graph.aF,lo 23 r3.Graph.aA.length,xT aJ r3.Places]] [(23,pR 96 aK r3.Graph.aA)] (Fw.Fn.ren [(0,30),(1,31)] (aDA r3 r5 nU) Q) ZB (.cons (.agg (.cons (.same Q) (.cons (.dG Q Q) (.cons (.weak (.same Q) (QW.iL jA (fun h => by cases h) _)) .nil)))) .nil) J y3) z2 z1 Q Q (dQ 32 [iC 0,sC aO,sC aO] iG y6 (dA (stA [iC r5.Graph.aF,lo 30 r5.Graph.aA.length,lo 31 r5.Places.length] Q Q ax ai) Q Q Q Q Q (On (Ws (Ws ?_)))))))
  refine aC.eG (fun j22 => ([(0,Cc (xT bn code)),(3,Cc (.pl 24 0)),(4,Cc (.pl 28 0)),(5,Cc (.pl 32 0)),(70,Bv j22)],[(23,pR 96 aK r3.Graph.aA),(24,.row 29 [[iC r3.Graph.aF,lo 23 r3.Graph.aA.length,xT aJ r3.Places]]),(26,pR 96 aK r4.Graph.aA),(27,pR 82 aJ r4.Places),(28,.row 29 [[iC r4.Graph.aF,lo 26 r4.Graph.aA.length,lo 27 r4.Places.length]]),(30,pR 96 aK r5.Graph.aA),(31,pR 82 aJ r5.Places),(32,.row 29 [[iC r5.Graph.aF,lo 30 r5.Graph.aA.length,lo 31 r5.Places.length]])])) ?_ (fun j22 _ => ?_)
  ·refine en [(0,Cc (xT bn code)),(3,Cc (.pl 24 0)),(4,Cc (.pl 28 0)),(5,Cc (.pl 32 0))] [(23,pR 96 aK r3.Graph.aA),(24,.row 29 [[iC r3.Graph.aF,lo 23 r3.Graph.aA.length,xT aJ r3.Places]]),(26,pR 96 aK r4.Graph.aA),(27,pR 82 aJ r4.Places),(28,.row 29 [[iC r4.Graph.aF,lo 26 r4.Graph.aA.length,lo 27 r4.Places.length]]),(30,pR 96 aK r5.Graph.aA),(31,pR 82 aJ r5.Places),(32,.row 29 [[iC r5.Graph.aF,lo 30 r5.Graph.aA.length,lo 31 r5.Places.length]])] z4 z8 (aC.draw mixed (bV (bD [iC r4.Graph.aF,lo 26 r4.Graph.aA.length,lo 27 r4.Places.length] Q bP ax ai) Q Q Q Q (bV (bD [iC r3.Graph.aF,lo 23 r3.Graph.aA.length,xT aJ r3.Places] Q bP ax ai) Q Q Q Q (aN.bind fun sD Lp => (aN.step (cF [.agg [iC r3.Graph.aF,lo 23 r3.Graph.aA.length,xT aJ r3.Places]] [(23,pR 96 aK r3.Graph.aA)] (Fw.Fn.ren [(0,34),(1,35)] (aDN r3 sD Lp) Q) ZC (.cons (.agg (.cons (.same Q) (.cons (.dG Q Q) (.cons (.weak (.same Q) (QW.iL jA (fun h => by cases h) _)) .nil)))) .nil) J y3) z2 z1 Q Q (aN.bind fun pW Lr => (aN.pure (cF [.agg [iC r4.Graph.aF,lo 26 r4.Graph.aA.length,lo 27 r4.Places.length],.agg [iC sD.Graph.aF,lo 34 sD.Graph.aA.length,lo 35 sD.Places.length]] [(26,pR 96 aK r4.Graph.aA),(27,pR 82 aJ r4.Places),(34,pR 96 aK sD.Graph.aA),(35,pR 82 aJ sD.Places)] (Dk r4 sD pW Lr) Bd (.cons (.agg (.cons (.same Q) (.cons (.dG Q Q) (.cons (.dG Q Q) .nil)))) (.cons (.agg (.cons (.same Q) (.cons (.dG Q Q) (.cons (.dG Q Q) .nil)))) .nil)) J y3) z3 z4 Q Q (bH (LT.not Q) Q Q Q (aY (Bv (!pW)) y4 (aN.split (fun qP => ?_) (fun qP => ?_)))))))))))
   ·refine aS qP y3 (aS qP y3 (aS qP y3 (aS qP y3 (aS qP y3 (gW (Bv true) qP aP (aY (Bv true) y4 (aH y3 (aH y3 (aH y3 (aH y3 (aH y3 ?_)))))))))))
    refine gW (Bv true) Q aP (aY (Bv true) y4 (aH y3 (aH y3 (aH y3 (aH y3 (aH y3 (aH y3 (gW (Bv true) Q aP (aY (Bv true) y4 (aH y3 (aH y3 ?_)))))))))))
    refine aH y3 (aH y3 (aH y3 (aH y3 (gW (Bv true) Q aP (dF (aX Q z5 z8))))))
   ·refine bV (bD [iC r5.Graph.aF,lo 30 r5.Graph.aA.length,lo 31 r5.Places.length] Q bP ax ai) Q Q (gH qP Q Q) Q (bV (bD [iC r3.Graph.aF,lo 23 r3.Graph.aA.length,xT aJ r3.Places] Q bP ax ai) Q Q (gH qP Q Q) Q (aN.bind fun qE Ee => (aN.step (cF [.agg [iC r3.Graph.aF,lo 23 r3.Graph.aA.length,xT aJ r3.Places]] [(23,pR 96 aK r3.Graph.aA)] (Fw.Fn.ren [(0,38),(1,39)] (aDM r3 qE Ee) Q) ZE (.cons (.agg (.cons (.same Q) (.cons (.dG Q Q) (.cons (.weak (.same Q) (QW.iL jA (fun h => by cases h) _)) .nil)))) .nil) J y3) z2 z1 (gH qP Q Q) Q (aN.bind fun r27 aGn => (aN.pure (cF [.agg [iC r5.Graph.aF,lo 30 r5.Graph.aA.length,lo 31 r5.Places.length],.agg [iC qE.Graph.aF,lo 38 qE.Graph.aA.length,lo 39 qE.Places.length]] [(30,pR 96 aK r5.Graph.aA),(31,pR 82 aJ r5.Places),(38,pR 96 aK qE.Graph.aA),(39,pR 82 aJ qE.Places)] (Dk r5 qE r27 aGn) Bd (.cons (.agg (.cons (.same Q) (.cons (.dG Q Q) (.cons (.dG Q Q) .nil)))) (.cons (.agg (.cons (.same Q) (.cons (.dG Q Q) (.cons (.dG Q Q) .nil)))) .nil)) J y3) z3 z4 (gH qP Q Q) Q (bH (LT.not Q) Q (gH qP Q Q) Q (dD (Bv (!r27)) qP y5 (aY (Bv (!r27)) y4 (aN.split (fun qQ => ?_) (fun qQ => ?_))))))))))
    ·refine aS qQ y3 (aS qQ y3 (aS qQ y3 (aS qQ y3 (aS qQ y3 (gW (Bv true) qQ aP (aY (Bv true) y4 (aH y3 (aH y3 (aH y3 (aH y3 (aH y3 ?_)))))))))))
     refine aH y3 (gW (Bv true) Q aP (aY (Bv true) y4 (aH y3 (aH y3 (aH y3 (aH y3 (aH y3 (aH y3 (gW (Bv true) Q aP (dF (aX Q z5 z8)))))))))))
    ·refine bV (bD [iC r3.Graph.aF,lo 23 r3.Graph.aA.length,xT aJ r3.Places] Q bP ax ai) Q Q (gH qQ Q Q) Q (aN.bind fun sV Eg => (aN.pure (cF [.agg [iC r3.Graph.aF,lo 23 r3.Graph.aA.length,xT aJ r3.Places]] [(23,pR 96 aK r3.Graph.aA)] (vW r3 sV Eg) vI (.cons (.agg (.cons (.same Q) (.cons (.dG Q Q) (.cons (.weak (.same Q) (QW.iL jA (fun h => by cases h) _)) .nil)))) .nil) J y3) z2 z1 (gH qQ Q Q) Q (bV (bD [iC r3.Graph.aF,lo 23 r3.Graph.aA.length,xT aJ r3.Places] Q bP ax ai) Q Q (gH qQ Q Q) Q (aN.bind fun mG Ls => (aN.pure (cF [.agg [iC r3.Graph.aF,lo 23 r3.Graph.aA.length,xT aJ r3.Places]] [(23,pR 96 aK r3.Graph.aA)] (uT r3 mG Ls) uO (.cons (.agg (.cons (.same Q) (.cons (.dG Q Q) (.cons (.weak (.same Q) (QW.iL jA (fun h => by cases h) _)) .nil)))) .nil) J y3) z2 z1 (gH qQ Q Q) Q (bQ (LT.aIf Q uS) Q Q (gH qQ Q Q) Q (dD (Bv (sV != mG)) qQ y5 (aY (Bv (sV != mG)) y4 (aN.split (fun um => ?_) (fun um => ?_))))))))))
     ·refine aS um y3 (aS um y3 (aS um y3 (aS um y3 (aS um y3 (aS um y3 (gW (Bv true) um aP (aY (Bv true) y4 (aH y3 (aH y3 (aH y3 (aH y3 ?_)))))))))))
      refine aH y3 (aH y3 (gW (Bv true) Q aP (dF (aX Q z5 z8))))
     ·refine bV (bD [iC r3.Graph.aF,lo 23 r3.Graph.aA.length,xT aJ r3.Places] Q bP ax ai) Q Q (gH um Q Q) Q (aN.bind fun r32 Lu => (aN.step (cF [.agg [iC r3.Graph.aF,lo 23 r3.Graph.aA.length,xT aJ r3.Places]] [(23,pR 96 aK r3.Graph.aA)] (Fw.Fn.ren [(0,44)] (YG r3 r32 Lu) Q) Ug (.cons (.agg (.cons (.same Q) (.cons (.dG Q Q) (.cons (.weak (.same Q) (QW.iL jA (fun h => by cases h) _)) .nil)))) .nil) J y3) z2 z1 (gH um Q Q) Q (bV (bD [iC r3.Graph.aF,lo 23 r3.Graph.aA.length,xT aJ r3.Places] Q bP ax ai) Q Q (gH um Q Q) Q (aN.bind fun jL Eh => (aN.step (cF [.agg [iC r3.Graph.aF,lo 23 r3.Graph.aA.length,xT aJ r3.Places]] [(23,pR 96 aK r3.Graph.aA)] (Fw.Fn.ren [(0,46)] (YJ r3 jL Eh) Q) Uh (.cons (.agg (.cons (.same Q) (.cons (.dG Q Q) (.cons (.weak (.same Q) (QW.iL jA (fun h => by cases h) _)) .nil)))) .nil) J y3) z2 z1 (gH um Q Q) Q (aN.bind fun zM aGo => (aN.pure (cF [.c (lo 44 r32.length),.c (lo 46 jL.length)] [(44,pR 3 aQ r32),(46,pR 3 aQ jL)] (aDD r32 jL zM aGo) Y9 (.cons (.c (.dG Q Q)) (.cons (.c (.dG Q Q)) .nil)) J y3) z3 z2 (gH um Q Q) Q (bH (LT.not Q) Q (gH um Q Q) Q (dD (Bv (!zM)) um y5 (aY (Bv (!zM)) y4 (aN.split (fun kz => ?_) (fun kz => ?_))))))))))))
      ·refine aS kz y3 (aS kz y3 (aS kz y3 (aS kz y3 (aS kz y3 (aS kz y3 (gW (Bv true) kz aP (dF (aX Q z5 z8))))))))
      ·refine bV (bD [iC r3.Graph.aF,lo 23 r3.Graph.aA.length,xT aJ r3.Places] Q bP ax ai) Q Q (gH kz Q Q) Q (aN.bind fun Jq aGp => (aN.step (cF [.agg [iC r3.Graph.aF,lo 23 r3.Graph.aA.length,xT aJ r3.Places]] [(23,pR 96 aK r3.Graph.aA)] (Fw.Fn.ren [(0,49)] (YF r3 Jq aGp) Q) Ui (.cons (.agg (.cons (.same Q) (.cons (.dG Q Q) (.cons (.weak (.same Q) (QW.iL jA (fun h => by cases h) _)) .nil)))) .nil) J y3) z2 z1 (gH kz Q Q) Q (bV (bD [iC r3.Graph.aF,lo 23 r3.Graph.aA.length,xT aJ r3.Places] Q bP ax ai) Q Q (gH kz Q Q) Q (aN.bind fun sF Ei => (aN.step (cF [.agg [iC r3.Graph.aF,lo 23 r3.Graph.aA.length,xT aJ r3.Places]] [(23,pR 96 aK r3.Graph.aA)] (Fw.Fn.ren [(0,51)] (YI r3 sF Ei) Q) Uj (.cons (.agg (.cons (.same Q) (.cons (.dG Q Q) (.cons (.weak (.same Q) (QW.iL jA (fun h => by cases h) _)) .nil)))) .nil) J y3) z2 z1 (gH kz Q Q) Q (aN.bind fun Sm aGq => (aN.pure (cF [.c (lo 49 Jq.length),.c (lo 51 sF.length)] [(49,pR 3 aQ Jq),(51,pR 3 aQ sF)] (aDD Jq sF Sm aGq) Y9 (.cons (.c (.dG Q Q)) (.cons (.c (.dG Q Q)) .nil)) J y3) z3 z2 (gH kz Q Q) Q (bH (LT.not Q) Q (gH kz Q Q) Q (dD (Bv (!Sm)) kz y5 (dF (aX Q z5 z8)))))))))))
  ·refine aC.cond Q (fun hc39 => ?_) (fun hc39 => ?_)
   ·refine Ws (Wr ?_)
    refine aI (Bv false) ak (On (bT z1 J ⟨ah.sc,J⟩ J))
   ·refine aC.skip (Ws (Ws ?_))
    refine aC.eG (fun j56 => ([(0,Cc (xT bn code)),(3,Cc (.pl 24 0)),(111,Bv j56)],[(23,pR 96 aK r3.Graph.aA),(24,.row 29 [[iC r3.Graph.aF,lo 23 r3.Graph.aA.length,xT aJ r3.Places]])])) ?_ (fun j56 _ => ?_)
    ·refine aC.draw mixed (bV (bD [iC r3.Graph.aF,lo 23 r3.Graph.aA.length,xT aJ r3.Places] Q bP ax ai) Q Q Q Q (aN.bind fun S9 aGv => (aN.pure (cF [.agg [iC r3.Graph.aF,lo 23 r3.Graph.aA.length,xT aJ r3.Places]] [(23,pR 96 aK r3.Graph.aA)] (uT r3 S9 aGv) uO (.cons (.agg (.cons (.same Q) (.cons (.dG Q Q) (.cons (.weak (.same Q) (QW.iL jA (fun h => by cases h) _)) .nil)))) .nil) J y3) z2 z1 Q Q (aY (Bv S9) y4 (aN.split (fun iD => ?_) (fun iD => ?_))))))
     ·refine bV (bD [iC r3.Graph.aF,lo 23 r3.Graph.aA.length,xT aJ r3.Places] Q bP ax ai) Q Q (gH iD Q Q) Q (bV (bD [iC r4.Graph.aF,lo 26 r4.Graph.aA.length,lo 27 r4.Places.length] Q bP ax ai) Q Q (gH iD Q Q) Q (aN.bind fun TA aGw => (aN.pure (cF [.agg [iC r3.Graph.aF,lo 23 r3.Graph.aA.length,xT aJ r3.Places],.agg [iC r4.Graph.aF,lo 26 r4.Graph.aA.length,lo 27 r4.Places.length]] [(23,pR 96 aK r3.Graph.aA),(26,pR 96 aK r4.Graph.aA),(27,pR 82 aJ r4.Places)] (Tt r3 r4 TA aGw) QI (.cons (.agg (.cons (.same Q) (.cons (.dG Q Q) (.cons (.weak (.same Q) (QW.iL jA (fun h => by cases h) _)) .nil)))) (.cons (.agg (.cons (.same Q) (.cons (.dG Q Q) (.cons (.dG Q Q) .nil)))) .nil)) J y3) z3 z3 (gH iD Q Q) Q (bH (LT.not Q) Q (gH iD Q Q) Q (kD (Bv (!TA)) iD y5 (aN.split (fun yC => ?_) (fun yC => ?_)))))))
      ·refine aS yC y3 (aS yC y3 (aS yC y3 (aS yC y3 (bQ (LT.pU (v:=(Bv true)) Q yC) Q y2 (gH iD Q Q) Q (kD (Bv true) iD y5 (aH y3 (aH y3 (aH y3 (aH y3 (aH y3 (bQ (LT.pU (v:=(Bv true)) Q Q) Q y2 (gH iD Q Q) Q ?_)))))))))))
       refine kD (Bv true) iD y5 (aH y3 (aH y3 (aH y3 (aH y3 (aH y3 (bQ (LT.pU (v:=(Bv true)) Q Q) Q y2 (gH iD Q Q) Q (kD (Bv true) iD y5 (aH y3 (aH y3 (aH y3 (aH y3 ?_)))))))))))
       refine bQ (LT.pU (v:=(Bv true)) Q Q) Q y2 (gH iD Q Q) Q (kD (Bv true) iD y5 (aH y3 (aH y3 (aH y3 (aH y3 (aH y3 (bQ (LT.pU (v:=(Bv true)) Q Q) Q y2 (gH iD Q Q) Q (gW (Bv true) iD y5 (dF (aX Q z3 z2))))))))))
      ·refine bV (bD [iC r3.Graph.aF,lo 23 r3.Graph.aA.length,xT aJ r3.Places] Q bP ax ai) Q Q (gH yC Q Q) Q (bV (bD [iC r5.Graph.aF,lo 30 r5.Graph.aA.length,lo 31 r5.Places.length] Q bP ax ai) Q Q (gH yC Q Q) Q (aN.bind fun O0 aGx => (aN.pure (cF [.agg [iC r3.Graph.aF,lo 23 r3.Graph.aA.length,xT aJ r3.Places],.agg [iC r5.Graph.aF,lo 30 r5.Graph.aA.length,lo 31 r5.Places.length]] [(23,pR 96 aK r3.Graph.aA),(30,pR 96 aK r5.Graph.aA),(31,pR 82 aJ r5.Places)] (Tt r3 r5 O0 aGx) QI (.cons (.agg (.cons (.same Q) (.cons (.dG Q Q) (.cons (.weak (.same Q) (QW.iL jA (fun h => by cases h) _)) .nil)))) (.cons (.agg (.cons (.same Q) (.cons (.dG Q Q) (.cons (.dG Q Q) .nil)))) .nil)) J y3) z3 z3 (gH yC Q Q) Q (bH (LT.not Q) Q (gH yC Q Q) Q (bQ (LT.wO (v:=(Bv (!O0))) Q yC) Q Q (gH iD Q Q) Q (kD (Bv (!O0)) iD y5 (aN.split (fun wC => ?_) (fun wC => ?_))))))))
       ·refine aS wC y3 (aS wC y3 (aS wC y3 (aS wC y3 (aS wC y3 (bQ (LT.pU (v:=(Bv true)) Q wC) Q y2 (gH iD Q Q) Q (kD (Bv true) iD y5 (aH y3 (aH y3 (aH y3 (aH y3 (aH y3 ?_)))))))))))
        refine bQ (LT.pU (v:=(Bv true)) Q Q) Q y2 (gH iD Q Q) Q (kD (Bv true) iD y5 (aH y3 (aH y3 (aH y3 (aH y3 (bQ (LT.pU (v:=(Bv true)) Q Q) Q y2 (gH iD Q Q) Q (kD (Bv true) iD y5 (aH y3 (aH y3 (aH y3 (aH y3 ?_)))))))))))
        refine aH y3 (bQ (LT.pU (v:=(Bv true)) Q Q) Q y2 (gH iD Q Q) Q (gW (Bv true) iD y5 (dF (aX Q z3 z2))))
       ·refine bV (bD [iC r4.Graph.aF,lo 26 r4.Graph.aA.length,lo 27 r4.Places.length] Q bP ax ai) Q Q (gH wC Q Q) Q (aN.bind fun O1 aGy => (aN.pure (cF [.agg [iC r4.Graph.aF,lo 26 r4.Graph.aA.length,lo 27 r4.Places.length]] [(26,pR 96 aK r4.Graph.aA),(27,pR 82 aJ r4.Places)] (aC7 r4 O1 aGy) ZF (.cons (.agg (.cons (.same Q) (.cons (.dG Q Q) (.cons (.dG Q Q) .nil)))) .nil) J y3) z2 z2 (gH wC Q Q) Q (bV (bD [iC r3.Graph.aF,lo 23 r3.Graph.aA.length,xT aJ r3.Places] Q bP ax ai) Q Q (gH wC Q Q) Q (aN.bind fun uG Vu => (aN.pure (cF [.agg [iC r3.Graph.aF,lo 23 r3.Graph.aA.length,xT aJ r3.Places]] [(23,pR 96 aK r3.Graph.aA)] (aDJ r3 uG Vu) ZG (.cons (.agg (.cons (.same Q) (.cons (.dG Q Q) (.cons (.weak (.same Q) (QW.iL jA (fun h => by cases h) _)) .nil)))) .nil) J y3) z2 z1 (gH wC Q Q) Q (sN LT.neq wC y6 (bQ (LT.wO (v:=(Bv (O1 != uG))) Q wC) Q Q (gH iD Q Q) Q (kD (Bv (O1 != uG)) iD y5 (aN.split (fun wE => ?_) (fun wE => ?_))))))))))
        ·refine aS wE y3 (aS wE y3 (aS wE y3 (aS wE y3 (aS wE y3 (bQ (LT.pU (v:=(Bv true)) Q wE) Q y2 (gH iD Q Q) Q (kD (Bv true) iD y5 (aH y3 (aH y3 (aH y3 (aH y3 (bQ (LT.pU (v:=(Bv true)) Q Q) Q y2 (gH iD Q Q) Q ?_)))))))))))
         refine kD (Bv true) iD y5 (aH y3 (aH y3 (aH y3 (aH y3 (aH y3 (bQ (LT.pU (v:=(Bv true)) Q Q) Q y2 (gH iD Q Q) Q (gW (Bv true) iD y5 (dF (aX Q z3 z2)))))))))
        ·refine bV (bD [iC r5.Graph.aF,lo 30 r5.Graph.aA.length,lo 31 r5.Places.length] Q bP ax ai) Q Q (gH wE Q Q) Q (aN.bind fun O3 aG0 => (aN.pure (cF [.agg [iC r5.Graph.aF,lo 30 r5.Graph.aA.length,lo 31 r5.Places.length]] [(30,pR 96 aK r5.Graph.aA),(31,pR 82 aJ r5.Places)] (aC7 r5 O3 aG0) ZF (.cons (.agg (.cons (.same Q) (.cons (.dG Q Q) (.cons (.dG Q Q) .nil)))) .nil) J y3) z2 z2 (gH wE Q Q) Q (bV (bD [iC r3.Graph.aF,lo 23 r3.Graph.aA.length,xT aJ r3.Places] Q bP ax ai) Q Q (gH wE Q Q) Q (aN.bind fun uH Vw => (aN.pure (cF [.agg [iC r3.Graph.aF,lo 23 r3.Graph.aA.length,xT aJ r3.Places]] [(23,pR 96 aK r3.Graph.aA)] (aDJ r3 uH Vw) ZG (.cons (.agg (.cons (.same Q) (.cons (.dG Q Q) (.cons (.weak (.same Q) (QW.iL jA (fun h => by cases h) _)) .nil)))) .nil) J y3) z2 z1 (gH wE Q Q) Q (sN LT.neq wE y6 (bQ (LT.wO (v:=(Bv (O3 != uH))) Q wE) Q Q (gH iD Q Q) Q (kD (Bv (O3 != uH)) iD y5 (aN.split (fun yD => ?_) (fun yD => ?_))))))))))
         ·refine aS yD y3 (aS yD y3 (aS yD y3 (aS yD y3 (bQ (LT.pU (v:=(Bv true)) Q yD) Q y2 (gH iD Q Q) Q (kD (Bv true) iD y5 (aH y3 (aH y3 (aH y3 (aH y3 (aH y3 (bQ (LT.pU (v:=(Bv true)) Q Q) Q y2 (gH iD Q Q) Q ?_)))))))))))
          refine gW (Bv true) iD y5 (dF (aX Q z3 z2))
         ·refine bV (bD [iC r3.Graph.aF,lo 23 r3.Graph.aA.length,xT aJ r3.Places] Q bP ax ai) Q Q (gH yD Q Q) Q (bV (bD [iC r5.Graph.aF,lo 30 r5.Graph.aA.length,lo 31 r5.Places.length] Q bP ax ai) Q Q (gH yD Q Q) Q (aN.bind fun uI Vx => (aN.pure (cF [.agg [iC r3.Graph.aF,lo 23 r3.Graph.aA.length,xT aJ r3.Places],.agg [iC r5.Graph.aF,lo 30 r5.Graph.aA.length,lo 31 r5.Places.length]] [(23,pR 96 aK r3.Graph.aA),(30,pR 96 aK r5.Graph.aA),(31,pR 82 aJ r5.Places)] (YE r3 r5 uI Vx) Uk (.cons (.agg (.cons (.same Q) (.cons (.dG Q Q) (.cons (.weak (.same Q) (QW.iL jA (fun h => by cases h) _)) .nil)))) (.cons (.agg (.cons (.same Q) (.cons (.dG Q Q) (.cons (.dG Q Q) .nil)))) .nil)) J y3) z3 z3 (gH yD Q Q) Q (bH (LT.not Q) Q (gH yD Q Q) Q (bQ (LT.wO (v:=(Bv (!uI))) Q yD) Q Q (gH iD Q Q) Q (kD (Bv (!uI)) iD y5 (aN.split (fun wF => ?_) (fun wF => ?_))))))))
          ·refine aS wF y3 (aS wF y3 (aS wF y3 (aS wF y3 (aS wF y3 (bQ (LT.pU (v:=(Bv true)) Q wF) Q y2 (gH iD Q Q) Q (gW (Bv true) iD y5 (dF (aX Q z3 z2))))))))
          ·refine bV (bD [iC r5.Graph.aF,lo 30 r5.Graph.aA.length,lo 31 r5.Places.length] Q bP ax ai) Q Q (gH wF Q Q) Q (aN.bind fun BG aG1 => (aN.step (cF [.agg [iC r5.Graph.aF,lo 30 r5.Graph.aA.length,lo 31 r5.Places.length]] [(30,pR 96 aK r5.Graph.aA),(31,pR 82 aJ r5.Places)] (Fw.Fn.ren [(0,62),(1,63)] (aDA r5 BG aG1) Q) ZB (.cons (.agg (.cons (.same Q) (.cons (.dG Q Q) (.cons (.dG Q Q) .nil)))) .nil) J y3) z2 z2 (gH wF Q Q) Q (bV (bD [iC r3.Graph.aF,lo 23 r3.Graph.aA.length,xT aJ r3.Places] Q bP ax ai) Q Q (gH wF Q Q) Q (aN.bind fun O4 aG2 => (aN.pure (cF [.agg [iC BG.Graph.aF,lo 62 BG.Graph.aA.length,lo 63 BG.Places.length],.agg [iC r3.Graph.aF,lo 23 r3.Graph.aA.length,xT aJ r3.Places]] [(62,pR 96 aK BG.Graph.aA),(63,pR 82 aJ BG.Places),(23,pR 96 aK r3.Graph.aA)] (Dk BG r3 O4 aG2) Bd (.cons (.agg (.cons (.same Q) (.cons (.dG Q Q) (.cons (.dG Q Q) .nil)))) (.cons (.agg (.cons (.same Q) (.cons (.dG Q Q) (.cons (.weak (.same Q) (QW.iL jA (fun h => by cases h) _)) .nil)))) .nil)) J y3) z3 z3 (gH wF Q Q) Q (bH (LT.not Q) Q (gH wF Q Q) Q (bQ (LT.wO (v:=(Bv (!O4))) Q wF) Q Q (gH iD Q Q) Q (gW (Bv (!O4)) iD y5 (dF (aX Q z3 z2))))))))))
     ·refine aS iD y3 (aS iD y3 (aS iD y3 (aS iD y3 (aS iD y3 (aH y3 (aH y3 (aH y3 (aH y3 (aS iD y3 (aS iD y3 (aH y3 ?_)))))))))))
      refine aH y3 (aH y3 (aH y3 (aH y3 (aS iD y3 (aS iD y3 (aH y3 (aH y3 (aH y3 (aH y3 (aH y3 (aS iD y3 ?_)))))))))))
      refine aS iD y3 (aH y3 (aH y3 (aH y3 (aH y3 (aS iD y3 (aS iD y3 (aH y3 (aH y3 (aH y3 (aH y3 (aH y3 ?_)))))))))))
      refine aS iD y3 (dD (Bv false) iD aP (dF (aX Q z3 z2)))
    ·refine aC.cond Q (fun aFx => ?_) (fun aFx => ?_)
     ·refine Ws (Wr ?_)
      refine aI (Bv false) ak (On (bT z1 J ⟨ah.sc,J⟩ J))
     ·refine aC.skip (Ws (Wr ?_))
      refine cZ (bD [iC r3.Graph.aF,lo 23 r3.Graph.aA.length,xT aJ r3.Places] Q bP ax ai) Q Q Q Q (aU fun sG aG3 => (aT.pure (cF [.agg [iC r3.Graph.aF,lo 23 r3.Graph.aA.length,xT aJ r3.Places]] [(23,pR 96 aK r3.Graph.aA)] (aC5 r3 sG aG3) ZH (.cons (.agg (.cons (.same Q) (.cons (.dG Q Q) (.cons (.weak (.same Q) (QW.iL jA (fun h => by cases h) _)) .nil)))) .nil) J y3) z2 z1 Q Q (aI (Cc (sC (.string sG))) y4 (On (Ws (Wr ?_))))))
      refine aG (Cc (sC (.string sG))) y4 (aU fun dY Vy => (aT.step (bU [.c (sC (.string sG))] (Fw.Fn.ren [(0,67),(1,68)] (aDB sG dY Vy) Q) ZI (iF Q) J y3) z2 J Q Q (aG (.dW [.agg [iC dY.1.Graph.aF,lo 67 dY.1.Graph.aA.length,lo 68 dY.1.Places.length],.c (bC dY.2)]) y4 (jc (.agg [iC dY.1.Graph.aF,lo 67 dY.1.Graph.aA.length,lo 68 dY.1.Places.length]) y5 (jc (.c (bC dY.2)) y5 (dQ 69 [iC 0,sC aO,sC aO] iG y6 (dA (stA [iC dY.1.Graph.aF,lo 67 dY.1.Graph.aA.length,lo 68 dY.1.Places.length] Q Q ax ai) Q Q Q Q Q (aI (Bv dY.2) y4 (On (Ws ?_))))))))))
      refine en [(0,Cc (xT bn code)),(3,Cc (.pl 24 0)),(6,Cc (sC (.string sG))),(7,Cc (.pl 69 0)),(8,Bv dY.2)] [(23,pR 96 aK r3.Graph.aA),(24,.row 29 [[iC r3.Graph.aF,lo 23 r3.Graph.aA.length,xT aJ r3.Places]]),(67,pR 96 aK dY.1.Graph.aA),(68,pR 82 aJ dY.1.Places),(69,.row 29 [[iC dY.1.Graph.aF,lo 67 dY.1.Graph.aA.length,lo 68 dY.1.Places.length]])] z5 z5 (Wr (aG (Cc (xT bn code)) y4 (aU fun xO aG4 => (jC [.c (xT bn code)] (aKi code xO aG4) aES (iF Q) y5 z2 (aI (Cc (sC (.string xO))) y4 (On (Ws (Wr ?_))))))))
      refine aG (Cc (sC (.string xO))) y4 (aU fun mP aG5 => (aT.step (bU [.c (sC (.string xO))] (Fw.Fn.ren [(0,72),(1,73)] (aDB xO mP aG5) Q) ZI (iF Q) J y3) z2 J Q Q (aG (.dW [.agg [iC mP.1.Graph.aF,lo 72 mP.1.Graph.aA.length,lo 73 mP.1.Places.length],.c (bC mP.2)]) y4 (jc (.agg [iC mP.1.Graph.aF,lo 72 mP.1.Graph.aA.length,lo 73 mP.1.Places.length]) y5 (jc (.c (bC mP.2)) y5 (dQ 74 [iC 0,sC aO,sC aO] iG y6 (dA (stA [iC mP.1.Graph.aF,lo 72 mP.1.Graph.aA.length,lo 73 mP.1.Places.length] Q Q ax ai) Q Q Q Q Q (aI (Bv mP.2) y4 (On (Ws ?_))))))))))
      refine en [(0,Cc (xT bn code)),(3,Cc (.pl 24 0)),(6,Cc (sC (.string sG))),(7,Cc (.pl 69 0)),(8,Bv dY.2),(9,Cc (sC (.string xO))),(11,Bv mP.2)] [(23,pR 96 aK r3.Graph.aA),(24,.row 29 [[iC r3.Graph.aF,lo 23 r3.Graph.aA.length,xT aJ r3.Places]]),(67,pR 96 aK dY.1.Graph.aA),(68,pR 82 aJ dY.1.Places),(69,.row 29 [[iC dY.1.Graph.aF,lo 67 dY.1.Graph.aA.length,lo 68 dY.1.Places.length]])] z7 z5 (Wr (aG (Cc (sC (.string xO))) y4 (aU fun mr aG6 => (aT.step (bU [.c (sC (.string xO))] (Fw.Fn.ren [(0,76),(1,77)] (aKl xO mr aG6) Q) aET (iF Q) J y3) z2 J Q Q (aG (.dW [.agg [iC mr.1.Graph.aF,lo 76 mr.1.Graph.aA.length,lo 77 mr.1.Places.length],.c (bC mr.2)]) y4 (jc (.agg [iC mr.1.Graph.aF,lo 76 mr.1.Graph.aA.length,lo 77 mr.1.Places.length]) y5 (jc (.c (bC mr.2)) y5 (dQ 78 [iC 0,sC aO,sC aO] iG y6 (dA (stA [iC mr.1.Graph.aF,lo 76 mr.1.Graph.aA.length,lo 77 mr.1.Places.length] Q Q ax ai) Q Q Q Q Q (aI (Bv mr.2) y4 (On (Ws ?_))))))))))))
      refine en [(0,Cc (xT bn code)),(3,Cc (.pl 24 0)),(6,Cc (sC (.string sG))),(7,Cc (.pl 69 0)),(8,Bv dY.2),(11,Bv mP.2),(13,Bv mr.2)] [(23,pR 96 aK r3.Graph.aA),(24,.row 29 [[iC r3.Graph.aF,lo 23 r3.Graph.aA.length,xT aJ r3.Places]]),(67,pR 96 aK dY.1.Graph.aA),(68,pR 82 aJ dY.1.Places),(69,.row 29 [[iC dY.1.Graph.aF,lo 67 dY.1.Graph.aA.length,lo 68 dY.1.Places.length]])] z7 z5 (Wr (aG (Cc (xT bn code)) y4 (aU fun bF aG7 => (aT.step (bU [.c (xT bn code)] (Fw.Fn.ren [(0,80),(1,81)] (aKf code bF aG7) Q) aEU (iF Q) J y3) z2 J Q Q (aG (.dW [.agg [iC bF.1.Graph.aF,lo 80 bF.1.Graph.aA.length,xT aJ bF.1.Places],.agg [iC bF.2.Graph.aF,lo 81 bF.2.Graph.aA.length,xT aJ bF.2.Places]]) y4 (jc (.agg [iC bF.1.Graph.aF,lo 80 bF.1.Graph.aA.length,xT aJ bF.1.Places]) y5 (jc (.agg [iC bF.2.Graph.aF,lo 81 bF.2.Graph.aA.length,xT aJ bF.2.Places]) y5 (dQ 82 [iC 0,sC aO,sC aO] iG y6 (dQ 83 [iC 0,sC aO,sC aO] iG y6 (dA (stA [iC bF.1.Graph.aF,lo 80 bF.1.Graph.aA.length,xT aJ bF.1.Places] Q Q ax ai) Q Q Q Q Q (dA (stA [iC bF.2.Graph.aF,lo 81 bF.2.Graph.aA.length,xT aJ bF.2.Places] Q Q ax ai) Q Q Q Q Q ?_)))))))))))
      refine On (Ws ?_)
      refine en [(0,Cc (xT bn code)),(3,Cc (.pl 24 0)),(6,Cc (sC (.string sG))),(7,Cc (.pl 69 0)),(8,Bv dY.2),(11,Bv mP.2),(13,Bv mr.2),(14,Cc (.pl 82 0)),(15,Cc (.pl 83 0))] [(23,pR 96 aK r3.Graph.aA),(24,.row 29 [[iC r3.Graph.aF,lo 23 r3.Graph.aA.length,xT aJ r3.Places]]),(67,pR 96 aK dY.1.Graph.aA),(68,pR 82 aJ dY.1.Places),(69,.row 29 [[iC dY.1.Graph.aF,lo 67 dY.1.Graph.aA.length,lo 68 dY.1.Places.length]]),(80,pR 96 aK bF.1.Graph.aA),(81,pR 96 aK bF.2.Graph.aA),(82,.row 29 [[iC bF.1.Graph.aF,lo 80 bF.1.Graph.aA.length,xT aJ bF.1.Places]]),(83,.row 29 [[iC bF.2.Graph.aF,lo 81 bF.2.Graph.aA.length,xT aJ bF.2.Places]])] z9 z9 (Wr (aG (Cc (xT bn code)) y4 (aU fun fO aG8 => (aT.step (bU [.c (xT bn code)] (Fw.Fn.ren [(0,85)] (aKh code fO aG8) Q) aEV (iF Q) J y3) z2 J Q Q (aG (.dW [.agg [iC fO.1.Graph.aF,lo 85 fO.1.Graph.aA.length,xT aJ fO.1.Places],.c (iC fO.2.1),.agg [iC fO.2.2.X,iC fO.2.2.Y]]) y4 (jc (.agg [iC fO.1.Graph.aF,lo 85 fO.1.Graph.aA.length,xT aJ fO.1.Places]) y5 (jc (.c (iC fO.2.1)) y5 (jc (.agg [iC fO.2.2.X,iC fO.2.2.Y]) y5 (dQ 86 [iC 0,sC aO,sC aO] iG y6 (dQ 87 [iC 0,iC 0] kM y6 (dA (stA [iC fO.1.Graph.aF,lo 85 fO.1.Graph.aA.length,xT aJ fO.1.Places] Q Q ax ai) Q Q Q Q Q ?_)))))))))))
      refine aI (Iv fO.2.1) y4 (dA (stA [iC fO.2.2.X,iC fO.2.2.Y] Q Q dS bf) Q Q Q Q Q (On (Ws ?_)))
      refine en [(0,Cc (xT bn code)),(3,Cc (.pl 24 0)),(6,Cc (sC (.string sG))),(7,Cc (.pl 69 0)),(8,Bv dY.2),(11,Bv mP.2),(13,Bv mr.2),(14,Cc (.pl 82 0)),(15,Cc (.pl 83 0)),(16,Cc (.pl 86 0)),(17,Iv fO.2.1),(18,Cc (.pl 87 0))] [(23,pR 96 aK r3.Graph.aA),(24,.row 29 [[iC r3.Graph.aF,lo 23 r3.Graph.aA.length,xT aJ r3.Places]]),(67,pR 96 aK dY.1.Graph.aA),(68,pR 82 aJ dY.1.Places),(69,.row 29 [[iC dY.1.Graph.aF,lo 67 dY.1.Graph.aA.length,lo 68 dY.1.Places.length]]),(80,pR 96 aK bF.1.Graph.aA),(81,pR 96 aK bF.2.Graph.aA),(82,.row 29 [[iC bF.1.Graph.aF,lo 80 bF.1.Graph.aA.length,xT aJ bF.1.Places]]),(83,.row 29 [[iC bF.2.Graph.aF,lo 81 bF.2.Graph.aA.length,xT aJ bF.2.Places]]),(85,pR 96 aK fO.1.Graph.aA),(86,.row 29 [[iC fO.1.Graph.aF,lo 85 fO.1.Graph.aA.length,xT aJ fO.1.Places]]),(87,.row 82 [[iC fO.2.2.X,iC fO.2.2.Y]])] z12 z12 (Wr (cZ (bD [iC fO.1.Graph.aF,lo 85 fO.1.Graph.aA.length,xT aJ fO.1.Places] Q bP ax ai) Q Q Q Q (aG (Iv fO.2.1) y4 (cZ (bD [iC fO.2.2.X,iC fO.2.2.Y] Q gI dS bf) Q Q Q Q (aU fun gQ aG9 => (aT.step (cF [.agg [iC fO.1.Graph.aF,lo 85 fO.1.Graph.aA.length,xT aJ fO.1.Places],.c (iC fO.2.1),.agg [iC fO.2.2.X,iC fO.2.2.Y]] [(85,pR 96 aK fO.1.Graph.aA)] (Fw.Fn.ren [(0,89),(1,90)] (aKK fO.1 fO.2.1 fO.2.2 gQ aG9) Q) aEW (.cons (.agg (.cons (.same Q) (.cons (.dG Q Q) (.cons (.weak (.same Q) (QW.iL jA (fun h => by cases h) _)) .nil)))) (.cons (.c (.same Q)) (.cons (.agg (.cons (.same Q) (.cons (.same Q) .nil))) .nil))) J y3) z4 z1 Q Q (aG (.dW [.agg [iC gQ.1.Graph.aF,lo 89 gQ.1.Graph.aA.length,lo 90 gQ.1.Places.length],.c (bC gQ.2)]) y4 (jc (.agg [iC gQ.1.Graph.aF,lo 89 gQ.1.Graph.aA.length,lo 90 gQ.1.Places.length]) y5 (jc (.c (bC gQ.2)) y5 (dQ 91 [iC 0,sC aO,sC aO] iG y6 (dA (stA [iC gQ.1.Graph.aF,lo 89 gQ.1.Graph.aA.length,lo 90 gQ.1.Places.length] Q Q ax ai) Q Q Q Q Q ?_)))))))))))
      refine aI (Bv gQ.2) y4 (On (Ws ?_))
      refine en [(0,Cc (xT bn code)),(3,Cc (.pl 24 0)),(6,Cc (sC (.string sG))),(7,Cc (.pl 69 0)),(8,Bv dY.2),(11,Bv mP.2),(13,Bv mr.2),(14,Cc (.pl 82 0)),(15,Cc (.pl 83 0)),(16,Cc (.pl 86 0)),(17,Iv fO.2.1),(18,Cc (.pl 87 0)),(19,Cc (.pl 91 0)),(20,Bv gQ.2)] [(23,pR 96 aK r3.Graph.aA),(24,.row 29 [[iC r3.Graph.aF,lo 23 r3.Graph.aA.length,xT aJ r3.Places]]),(67,pR 96 aK dY.1.Graph.aA),(68,pR 82 aJ dY.1.Places),(69,.row 29 [[iC dY.1.Graph.aF,lo 67 dY.1.Graph.aA.length,lo 68 dY.1.Places.length]]),(80,pR 96 aK bF.1.Graph.aA),(81,pR 96 aK bF.2.Graph.aA),(82,.row 29 [[iC bF.1.Graph.aF,lo 80 bF.1.Graph.aA.length,xT aJ bF.1.Places]]),(83,.row 29 [[iC bF.2.Graph.aF,lo 81 bF.2.Graph.aA.length,xT aJ bF.2.Places]]),(85,pR 96 aK fO.1.Graph.aA),(86,.row 29 [[iC fO.1.Graph.aF,lo 85 fO.1.Graph.aA.length,xT aJ fO.1.Places]]),(87,.row 82 [[iC fO.2.2.X,iC fO.2.2.Y]]),(89,pR 96 aK gQ.1.Graph.aA),(90,pR 82 aJ gQ.1.Places),(91,.row 29 [[iC gQ.1.Graph.aF,lo 89 gQ.1.Graph.aA.length,lo 90 gQ.1.Places.length]])] z14 z15 (Wr (cZ (bD [iC fO.1.Graph.aF,lo 85 fO.1.Graph.aA.length,xT aJ fO.1.Places] Q bP ax ai) Q Q Q Q (aG (Iv fO.2.1) y4 (cZ (bD [iC fO.2.2.X,iC fO.2.2.Y] Q gI dS bf) Q Q Q Q (aU fun fU Vz => (aT.step (cF [.agg [iC fO.1.Graph.aF,lo 85 fO.1.Graph.aA.length,xT aJ fO.1.Places],.c (iC fO.2.1),.agg [iC fO.2.2.X,iC fO.2.2.Y]] [(85,pR 96 aK fO.1.Graph.aA)] (Fw.Fn.ren [(0,93),(1,94)] (aKk fO.1 fO.2.1 fO.2.2 fU Vz) Q) aEX (.cons (.agg (.cons (.same Q) (.cons (.dG Q Q) (.cons (.weak (.same Q) (QW.iL jA (fun h => by cases h) _)) .nil)))) (.cons (.c (.same Q)) (.cons (.agg (.cons (.same Q) (.cons (.same Q) .nil))) .nil))) J y3) z4 z1 Q Q (aG (.dW [.agg [iC fU.1.Graph.aF,lo 93 fU.1.Graph.aA.length,lo 94 fU.1.Places.length],.c (bC fU.2)]) y4 (jc (.agg [iC fU.1.Graph.aF,lo 93 fU.1.Graph.aA.length,lo 94 fU.1.Places.length]) y5 (jc (.c (bC fU.2)) y5 (dQ 95 [iC 0,sC aO,sC aO] iG y6 (dA (stA [iC fU.1.Graph.aF,lo 93 fU.1.Graph.aA.length,lo 94 fU.1.Places.length] Q Q ax ai) Q Q Q Q Q ?_)))))))))))
      refine aI (Bv fU.2) y4 (On (Ws ?_))
      refine en [(0,Cc (xT bn code)),(3,Cc (.pl 24 0)),(6,Cc (sC (.string sG))),(7,Cc (.pl 69 0)),(8,Bv dY.2),(11,Bv mP.2),(13,Bv mr.2),(14,Cc (.pl 82 0)),(15,Cc (.pl 83 0)),(19,Cc (.pl 91 0)),(20,Bv gQ.2),(21,Cc (.pl 95 0)),(22,Bv fU.2)] [(23,pR 96 aK r3.Graph.aA),(24,.row 29 [[iC r3.Graph.aF,lo 23 r3.Graph.aA.length,xT aJ r3.Places]]),(67,pR 96 aK dY.1.Graph.aA),(68,pR 82 aJ dY.1.Places),(69,.row 29 [[iC dY.1.Graph.aF,lo 67 dY.1.Graph.aA.length,lo 68 dY.1.Places.length]]),(80,pR 96 aK bF.1.Graph.aA),(81,pR 96 aK bF.2.Graph.aA),(82,.row 29 [[iC bF.1.Graph.aF,lo 80 bF.1.Graph.aA.length,xT aJ bF.1.Places]]),(83,.row 29 [[iC bF.2.Graph.aF,lo 81 bF.2.Graph.aA.length,xT aJ bF.2.Places]]),(89,pR 96 aK gQ.1.Graph.aA),(90,pR 82 aJ gQ.1.Places),(91,.row 29 [[iC gQ.1.Graph.aF,lo 89 gQ.1.Graph.aA.length,lo 90 gQ.1.Places.length]]),(93,pR 96 aK fU.1.Graph.aA),(94,pR 82 aJ fU.1.Places),(95,.row 29 [[iC fU.1.Graph.aF,lo 93 fU.1.Graph.aA.length,lo 94 fU.1.Places.length]])] z13 z15 (Wr (aG (Cc (xT bn code)) y4 (aU fun bJ aHA => (jC [.c (xT bn code)] (aKe code bJ aHA) aEY (iF Q) y5 z2 (aG (.dW [.agg [iC bJ.1.X,iC bJ.1.Y],.agg [iC bJ.2.1.X,iC bJ.2.1.Y],.agg [iC bJ.2.2.X,iC bJ.2.2.Y]]) y4 (jc (.agg [iC bJ.1.X,iC bJ.1.Y]) y5 (jc (.agg [iC bJ.2.1.X,iC bJ.2.1.Y]) y5 (jc (.agg [iC bJ.2.2.X,iC bJ.2.2.Y]) y5 (dQ 97 [iC 0,iC 0] kM y6 (dQ 98 [iC 0,iC 0] kM y6 (dQ 99 [iC 0,iC 0] kM y6 ?_)))))))))))
      refine dA (stA [iC bJ.1.X,iC bJ.1.Y] Q Q dS bf) Q Q Q Q Q (dA (stA [iC bJ.2.1.X,iC bJ.2.1.Y] Q Q dS bf) Q Q Q Q Q (dA (stA [iC bJ.2.2.X,iC bJ.2.2.Y] Q Q dS bf) Q Q Q Q Q (On (Ws ?_))))
      refine en [(0,Cc (xT bn code)),(3,Cc (.pl 24 0)),(6,Cc (sC (.string sG))),(7,Cc (.pl 69 0)),(8,Bv dY.2),(11,Bv mP.2),(13,Bv mr.2),(14,Cc (.pl 82 0)),(15,Cc (.pl 83 0)),(19,Cc (.pl 91 0)),(20,Bv gQ.2),(21,Cc (.pl 95 0)),(22,Bv fU.2),(23,Cc (.pl 97 0)),(24,Cc (.pl 98 0)),(25,Cc (.pl 99 0))] [(23,pR 96 aK r3.Graph.aA),(24,.row 29 [[iC r3.Graph.aF,lo 23 r3.Graph.aA.length,xT aJ r3.Places]]),(67,pR 96 aK dY.1.Graph.aA),(68,pR 82 aJ dY.1.Places),(69,.row 29 [[iC dY.1.Graph.aF,lo 67 dY.1.Graph.aA.length,lo 68 dY.1.Places.length]]),(80,pR 96 aK bF.1.Graph.aA),(81,pR 96 aK bF.2.Graph.aA),(82,.row 29 [[iC bF.1.Graph.aF,lo 80 bF.1.Graph.aA.length,xT aJ bF.1.Places]]),(83,.row 29 [[iC bF.2.Graph.aF,lo 81 bF.2.Graph.aA.length,xT aJ bF.2.Places]]),(89,pR 96 aK gQ.1.Graph.aA),(90,pR 82 aJ gQ.1.Places),(91,.row 29 [[iC gQ.1.Graph.aF,lo 89 gQ.1.Graph.aA.length,lo 90 gQ.1.Places.length]]),(93,pR 96 aK fU.1.Graph.aA),(94,pR 82 aJ fU.1.Places),(95,.row 29 [[iC fU.1.Graph.aF,lo 93 fU.1.Graph.aA.length,lo 94 fU.1.Places.length]]),(97,.row 82 [[iC bJ.1.X,iC bJ.1.Y]]),(98,.row 82 [[iC bJ.2.1.X,iC bJ.2.1.Y]]),(99,.row 82 [[iC bJ.2.2.X,iC bJ.2.2.Y]])] z16 ⟨Q,Q,Q,Q,Q,Q,Q,Q,Q,Q,Q,Q,Q,Q,Q,Q,Q,Q,J⟩ (Wr (aG (Cc (xT bn code)) y4 (aU fun dP aHB => (aT.step (bU [.c (xT bn code)] (Fw.Fn.ren [(0,101),(1,102)] (aKg code dP aHB) Q) aEZ (iF Q) J y3) z2 J Q Q (aG (.dW [.agg [iC dP.1.Graph.aF,lo 101 dP.1.Graph.aA.length,xT aJ dP.1.Places],.agg [iC dP.2.Graph.aF,lo 102 dP.2.Graph.aA.length,xT aJ dP.2.Places]]) y4 (jc (.agg [iC dP.1.Graph.aF,lo 101 dP.1.Graph.aA.length,xT aJ dP.1.Places]) y5 (jc (.agg [iC dP.2.Graph.aF,lo 102 dP.2.Graph.aA.length,xT aJ dP.2.Places]) y5 (dQ 103 [iC 0,sC aO,sC aO] iG y6 (dQ 104 [iC 0,sC aO,sC aO] iG y6 (dA (stA [iC dP.1.Graph.aF,lo 101 dP.1.Graph.aA.length,xT aJ dP.1.Places] Q Q ax ai) Q Q Q Q Q (dA (stA [iC dP.2.Graph.aF,lo 102 dP.2.Graph.aA.length,xT aJ dP.2.Places] Q Q ax ai) Q Q Q Q Q ?_)))))))))))
      refine On (Ws ?_)
      refine aC.eG (fun j128 => ([(2,Bv j128)],[])) ?_ (fun j128 _ => ?_)
      ·refine en [(3,Cc (.pl 24 0)),(6,Cc (sC (.string sG))),(7,Cc (.pl 69 0)),(8,Bv dY.2),(11,Bv mP.2),(13,Bv mr.2),(14,Cc (.pl 82 0)),(15,Cc (.pl 83 0)),(19,Cc (.pl 91 0)),(20,Bv gQ.2),(21,Cc (.pl 95 0)),(22,Bv fU.2),(23,Cc (.pl 97 0)),(24,Cc (.pl 98 0)),(25,Cc (.pl 99 0)),(26,Cc (.pl 103 0)),(27,Cc (.pl 104 0))] [(23,pR 96 aK r3.Graph.aA),(24,.row 29 [[iC r3.Graph.aF,lo 23 r3.Graph.aA.length,xT aJ r3.Places]]),(67,pR 96 aK dY.1.Graph.aA),(68,pR 82 aJ dY.1.Places),(69,.row 29 [[iC dY.1.Graph.aF,lo 67 dY.1.Graph.aA.length,lo 68 dY.1.Places.length]]),(80,pR 96 aK bF.1.Graph.aA),(81,pR 96 aK bF.2.Graph.aA),(82,.row 29 [[iC bF.1.Graph.aF,lo 80 bF.1.Graph.aA.length,xT aJ bF.1.Places]]),(83,.row 29 [[iC bF.2.Graph.aF,lo 81 bF.2.Graph.aA.length,xT aJ bF.2.Places]]),(89,pR 96 aK gQ.1.Graph.aA),(90,pR 82 aJ gQ.1.Places),(91,.row 29 [[iC gQ.1.Graph.aF,lo 89 gQ.1.Graph.aA.length,lo 90 gQ.1.Places.length]]),(93,pR 96 aK fU.1.Graph.aA),(94,pR 82 aJ fU.1.Places),(95,.row 29 [[iC fU.1.Graph.aF,lo 93 fU.1.Graph.aA.length,lo 94 fU.1.Places.length]]),(97,.row 82 [[iC bJ.1.X,iC bJ.1.Y]]),(98,.row 82 [[iC bJ.2.1.X,iC bJ.2.1.Y]]),(99,.row 82 [[iC bJ.2.2.X,iC bJ.2.2.Y]]),(101,pR 96 aK dP.1.Graph.aA),(102,pR 96 aK dP.2.Graph.aA),(103,.row 29 [[iC dP.1.Graph.aF,lo 101 dP.1.Graph.aA.length,xT aJ dP.1.Places]]),(104,.row 29 [[iC dP.2.Graph.aF,lo 102 dP.2.Graph.aA.length,xT aJ dP.2.Places]])] ⟨Q,Q,Q,Q,Q,Q,Q,Q,Q,Q,Q,Q,Q,Q,Q,Q,Q,J⟩ ⟨Q,Q,Q,Q,Q,Q,Q,Q,Q,Q,Q,Q,Q,Q,Q,Q,Q,Q,Q,Q,Q,Q,J⟩ (aC.draw mixed (aY (Cc (sC (.string sG))) y4 (bV (bD [iC r3.Graph.aF,lo 23 r3.Graph.aA.length,xT aJ r3.Places] Q bP ax ai) Q Q Q Q (aN.bind fun Sl aGN => (aN.pure (cF [.agg [iC r3.Graph.aF,lo 23 r3.Graph.aA.length,xT aJ r3.Places]] [(23,pR 96 aK r3.Graph.aA)] (YH r3 Sl aGN) Ul (.cons (.agg (.cons (.same Q) (.cons (.dG Q Q) (.cons (.weak (.same Q) (QW.iL jA (fun h => by cases h) _)) .nil)))) .nil) J y3) z2 z1 Q Q (jS LT.Uz y5 (aY (Bv (sG.toList == Sl.toList)) y4 (aN.split (fun xu => ?_) (fun xu => ?_)))))))))
       ·refine kD (Bv dY.2) xu y5 (bV (bD [iC r3.Graph.aF,lo 23 r3.Graph.aA.length,xT aJ r3.Places] Q bP ax ai) Q Q (gH xu Q Q) Q (aN.bind fun OX aGO => (aN.pure (cF [.agg [iC r3.Graph.aF,lo 23 r3.Graph.aA.length,xT aJ r3.Places]] [(23,pR 96 aK r3.Graph.aA)] (uT r3 OX aGO) uO (.cons (.agg (.cons (.same Q) (.cons (.dG Q Q) (.cons (.weak (.same Q) (QW.iL jA (fun h => by cases h) _)) .nil)))) .nil) J y3) z2 z1 (gH xu Q Q) Q (bQ (LT.ug Q uS) Q Q (gH xu Q Q) Q (gW (Bv (dY.2 == OX)) xu y5 (aY (Bv (dY.2 == OX)) y4 (aN.split (fun vw => ?_) (fun vw => ?_))))))))
        ·refine kD (Bv dY.2) vw y5 (bH (LT.not Q) Q (gH vw Q Q) Q (kD (Bv (!dY.2)) vw y5 (aN.split (fun zq => ?_) (fun zq => ?_))))
         ·refine aS zq y3 (aS zq y3 (aS zq y3 (bQ (LT.pU (v:=(Bv true)) Q zq) Q y2 (gH vw Q Q) Q (gW (Bv true) vw y5 (aY (Bv true) y4 (bH (LT.move (v:=(Bv mP.2)) Q) Q (gS Q Q) Q (bH (LT.move (v:=(Bv mr.2)) Q) Q (gS Q Q) Q (bQ (LT.ug Q uS) Q Q (gS Q Q) Q (gW (Bv (mP.2 == mr.2)) Q y5 (aY (Bv (mP.2 == mr.2)) y4 (aN.split (fun tK => ?_) (fun tK => ?_))))))))))))
          ·refine bV (bD [iC bF.1.Graph.aF,lo 80 bF.1.Graph.aA.length,xT aJ bF.1.Places] Q bP ax ai) Q Q (gH tK Q Q) Q (bV (bD [iC bF.2.Graph.aF,lo 81 bF.2.Graph.aA.length,xT aJ bF.2.Places] Q bP ax ai) Q Q (gH tK Q Q) Q (aN.bind fun oq Vm => (aN.pure (cF [.agg [iC bF.1.Graph.aF,lo 80 bF.1.Graph.aA.length,xT aJ bF.1.Places],.agg [iC bF.2.Graph.aF,lo 81 bF.2.Graph.aA.length,xT aJ bF.2.Places]] [(80,pR 96 aK bF.1.Graph.aA),(81,pR 96 aK bF.2.Graph.aA)] (Tt bF.1 bF.2 oq Vm) QI (.cons (.agg (.cons (.same Q) (.cons (.dG Q Q) (.cons (.weak (.same Q) (QW.iL jA (fun h => by cases h) _)) .nil)))) (.cons (.agg (.cons (.same Q) (.cons (.dG Q Q) (.cons (.weak (.same Q) (QW.iL jA (fun h => by cases h) _)) .nil)))) .nil)) J y3) z3 z2 (gH tK Q Q) Q (bV (bD [iC bF.1.Graph.aF,lo 80 bF.1.Graph.aA.length,xT aJ bF.1.Places] Q bP ax ai) Q Q (gH tK Q Q) Q (bV (bD [iC bF.2.Graph.aF,lo 81 bF.2.Graph.aA.length,xT aJ bF.2.Places] Q bP ax ai) Q Q (gH tK Q Q) Q (aN.bind fun OY aGP => (aN.pure (cF [.agg [iC bF.1.Graph.aF,lo 80 bF.1.Graph.aA.length,xT aJ bF.1.Places],.agg [iC bF.2.Graph.aF,lo 81 bF.2.Graph.aA.length,xT aJ bF.2.Places]] [(80,pR 96 aK bF.1.Graph.aA),(81,pR 96 aK bF.2.Graph.aA)] (aDG bF.1 bF.2 OY aGP) ZJ (.cons (.agg (.cons (.same Q) (.cons (.dG Q Q) (.cons (.weak (.same Q) (QW.iL jA (fun h => by cases h) _)) .nil)))) (.cons (.agg (.cons (.same Q) (.cons (.dG Q Q) (.cons (.weak (.same Q) (QW.iL jA (fun h => by cases h) _)) .nil)))) .nil)) J y3) z3 z2 (gH tK Q Q) Q (bQ (LT.ug Q uS) Q Q (gH tK Q Q) Q (gW (Bv (oq == OY)) tK y5 (aY (Bv (oq == OY)) y4 (aN.split (fun tN => ?_) (fun tN => ?_))))))))))))
           ·refine bV (bD [iC bF.1.Graph.aF,lo 80 bF.1.Graph.aA.length,xT aJ bF.1.Places] Q bP ax ai) Q Q (gH tN Q Q) Q (bV (bD [iC bF.2.Graph.aF,lo 81 bF.2.Graph.aA.length,xT aJ bF.2.Places] Q bP ax ai) Q Q (gH tN Q Q) Q (aN.bind fun OZ aGQ => (aN.pure (cF [.agg [iC bF.1.Graph.aF,lo 80 bF.1.Graph.aA.length,xT aJ bF.1.Places],.agg [iC bF.2.Graph.aF,lo 81 bF.2.Graph.aA.length,xT aJ bF.2.Places]] [(80,pR 96 aK bF.1.Graph.aA),(81,pR 96 aK bF.2.Graph.aA)] (YE bF.1 bF.2 OZ aGQ) Uk (.cons (.agg (.cons (.same Q) (.cons (.dG Q Q) (.cons (.weak (.same Q) (QW.iL jA (fun h => by cases h) _)) .nil)))) (.cons (.agg (.cons (.same Q) (.cons (.dG Q Q) (.cons (.weak (.same Q) (QW.iL jA (fun h => by cases h) _)) .nil)))) .nil)) J y3) z3 z2 (gH tN Q Q) Q (bV (bD [iC bF.1.Graph.aF,lo 80 bF.1.Graph.aA.length,xT aJ bF.1.Places] Q bP ax ai) Q Q (gH tN Q Q) Q (bV (bD [iC bF.2.Graph.aF,lo 81 bF.2.Graph.aA.length,xT aJ bF.2.Places] Q bP ax ai) Q Q (gH tN Q Q) Q (aN.bind fun Oa aGR => (aN.pure (cF [.agg [iC bF.1.Graph.aF,lo 80 bF.1.Graph.aA.length,xT aJ bF.1.Places],.agg [iC bF.2.Graph.aF,lo 81 bF.2.Graph.aA.length,xT aJ bF.2.Places]] [(80,pR 96 aK bF.1.Graph.aA),(81,pR 96 aK bF.2.Graph.aA)] (aDL bF.1 bF.2 Oa aGR) ZK (.cons (.agg (.cons (.same Q) (.cons (.dG Q Q) (.cons (.weak (.same Q) (QW.iL jA (fun h => by cases h) _)) .nil)))) (.cons (.agg (.cons (.same Q) (.cons (.dG Q Q) (.cons (.weak (.same Q) (QW.iL jA (fun h => by cases h) _)) .nil)))) .nil)) J y3) z3 z2 (gH tN Q Q) Q (bQ (LT.ug Q uS) Q Q (gH tN Q Q) Q (gW (Bv (OZ == Oa)) tN y5 (aY (Bv (OZ == Oa)) y4 (aN.split (fun zu => ?_) (fun zu => ?_))))))))))))
            ·refine kD (Bv gQ.2) zu y5 (kD (Bv fU.2) zu y5 (bQ (LT.ug Q uS) Q Q (gH zu Q Q) Q (gW (Bv (gQ.2 == fU.2)) zu y5 (aY (Bv (gQ.2 == fU.2)) y4 (aN.split (fun zx => ?_) (fun zx => ?_))))))
             ·refine bV (bD [iC gQ.1.Graph.aF,lo 89 gQ.1.Graph.aA.length,lo 90 gQ.1.Places.length] Q bP ax ai) Q Q (gH zx Q Q) Q (bV (bD [iC fU.1.Graph.aF,lo 93 fU.1.Graph.aA.length,lo 94 fU.1.Places.length] Q bP ax ai) Q Q (gH zx Q Q) Q (aN.bind fun Oc aGT => (aN.pure (cF [.agg [iC gQ.1.Graph.aF,lo 89 gQ.1.Graph.aA.length,lo 90 gQ.1.Places.length],.agg [iC fU.1.Graph.aF,lo 93 fU.1.Graph.aA.length,lo 94 fU.1.Places.length]] [(89,pR 96 aK gQ.1.Graph.aA),(90,pR 82 aJ gQ.1.Places),(93,pR 96 aK fU.1.Graph.aA),(94,pR 82 aJ fU.1.Places)] (Dk gQ.1 fU.1 Oc aGT) Bd (.cons (.agg (.cons (.same Q) (.cons (.dG Q Q) (.cons (.dG Q Q) .nil)))) (.cons (.agg (.cons (.same Q) (.cons (.dG Q Q) (.cons (.dG Q Q) .nil)))) .nil)) J y3) z3 z4 (gH zx Q Q) Q (gW (Bv Oc) zx y5 (aY (Bv Oc) y4 (aN.split (fun qL => ?_) (fun qL => ?_)))))))
              ·refine bV (bD [iC bJ.1.X,iC bJ.1.Y] Q gI dS bf) Q Q (gH qL Q Q) Q (bV (bD [iC bJ.2.1.X,iC bJ.2.1.Y] Q gI dS bf) Q Q (gH qL Q Q) Q (bV (bD [iC bJ.2.2.X,iC bJ.2.2.Y] Q gI dS bf) Q Q (gH qL Q Q) Q (aN.bind fun Oe aGU => (aN.pure (bU [.agg [iC bJ.1.X,iC bJ.1.Y],.agg [iC bJ.2.1.X,iC bJ.2.1.Y],.agg [iC bJ.2.2.X,iC bJ.2.2.Y]] (J9 bJ.1 bJ.2.1 bJ.2.2 Oe aGU) Gt (DY y6) J y3) z4 J (gH qL Q Q) Q (bV (bD [iC bJ.1.X,iC bJ.1.Y] Q gI dS bf) Q Q (gH qL Q Q) Q (bV (bD [iC bJ.2.1.X,iC bJ.2.1.Y] Q gI dS bf) Q Q (gH qL Q Q) Q (bV (bD [iC bJ.2.2.X,iC bJ.2.2.Y] Q gI dS bf) Q Q (gH qL Q Q) Q (aN.bind fun Og aGV => (aN.pure (bU [.agg [iC bJ.1.X,iC bJ.1.Y],.agg [iC bJ.2.1.X,iC bJ.2.1.Y],.agg [iC bJ.2.2.X,iC bJ.2.2.Y]] (aDF bJ.1 bJ.2.1 bJ.2.2 Og aGV) ZL (DY y6) J y3) z4 J (gH qL Q Q) Q (bQ (LT.ug Q uS) Q Q (gH qL Q Q) Q (gW (Bv (Oe == Og)) qL y5 ?_)))))))))))
               refine aY (Bv (Oe == Og)) y4 (aN.split (fun qM => ?_) (fun qM => ?_))
               ·refine bV (bD [iC bJ.1.X,iC bJ.1.Y] Q gI dS bf) Q Q (gH qM Q Q) Q (bV (bD [iC bJ.2.1.X,iC bJ.2.1.Y] Q gI dS bf) Q Q (gH qM Q Q) Q (bV (bD [iC bJ.2.2.X,iC bJ.2.2.Y] Q gI dS bf) Q Q (gH qM Q Q) Q (aN.bind fun Oh aGW => (aN.pure (bU [.agg [iC bJ.1.X,iC bJ.1.Y],.agg [iC bJ.2.1.X,iC bJ.2.1.Y],.agg [iC bJ.2.2.X,iC bJ.2.2.Y]] (J9 bJ.1 bJ.2.1 bJ.2.2 Oh aGW) Gt (DY y6) J y3) z4 J (gH qM Q Q) Q (bV (bD [iC bJ.2.2.X,iC bJ.2.2.Y] Q gI dS bf) Q Q (gH qM Q Q) Q (bV (bD [iC bJ.1.X,iC bJ.1.Y] Q gI dS bf) Q Q (gH qM Q Q) Q (bV (bD [iC bJ.2.1.X,iC bJ.2.1.Y] Q gI dS bf) Q Q (gH qM Q Q) Q (aN.bind fun Oi aGX => (aN.pure (bU [.agg [iC bJ.2.2.X,iC bJ.2.2.Y],.agg [iC bJ.1.X,iC bJ.1.Y],.agg [iC bJ.2.1.X,iC bJ.2.1.Y]] (J9 bJ.2.2 bJ.1 bJ.2.1 Oi aGX) Gt (DY y6) J y3) z4 J (gH qM Q Q) Q (bQ (LT.ug Q uS) Q Q (gH qM Q Q) Q (gW (Bv (Oh == Oi)) qM y5 ?_)))))))))))
                refine aY (Bv (Oh == Oi)) y4 (aN.split (fun nM => ?_) (fun nM => ?_))
                ·refine bV (bD [iC dP.1.Graph.aF,lo 101 dP.1.Graph.aA.length,xT aJ dP.1.Places] Q bP ax ai) Q Q (gH nM Q Q) Q (bV (bD [iC dP.2.Graph.aF,lo 102 dP.2.Graph.aA.length,xT aJ dP.2.Places] Q bP ax ai) Q Q (gH nM Q Q) Q (aN.bind fun Ol aGY => (aN.pure (cF [.agg [iC dP.1.Graph.aF,lo 101 dP.1.Graph.aA.length,xT aJ dP.1.Places],.agg [iC dP.2.Graph.aF,lo 102 dP.2.Graph.aA.length,xT aJ dP.2.Places]] [(101,pR 96 aK dP.1.Graph.aA),(102,pR 96 aK dP.2.Graph.aA)] (aC3 dP.1 dP.2 Ol aGY) ZM (.cons (.agg (.cons (.same Q) (.cons (.dG Q Q) (.cons (.weak (.same Q) (QW.iL jA (fun h => by cases h) _)) .nil)))) (.cons (.agg (.cons (.same Q) (.cons (.dG Q Q) (.cons (.weak (.same Q) (QW.iL jA (fun h => by cases h) _)) .nil)))) .nil)) J y3) z3 z2 (gH nM Q Q) Q (bV (bD [iC dP.1.Graph.aF,lo 101 dP.1.Graph.aA.length,xT aJ dP.1.Places] Q bP ax ai) Q Q (gH nM Q Q) Q (bV (bD [iC dP.2.Graph.aF,lo 102 dP.2.Graph.aA.length,xT aJ dP.2.Places] Q bP ax ai) Q Q (gH nM Q Q) Q (aN.bind fun ru Vo => (aN.pure (cF [.agg [iC dP.1.Graph.aF,lo 101 dP.1.Graph.aA.length,xT aJ dP.1.Places],.agg [iC dP.2.Graph.aF,lo 102 dP.2.Graph.aA.length,xT aJ dP.2.Places]] [(101,pR 96 aK dP.1.Graph.aA),(102,pR 96 aK dP.2.Graph.aA)] (Dk dP.1 dP.2 ru Vo) Bd (.cons (.agg (.cons (.same Q) (.cons (.dG Q Q) (.cons (.weak (.same Q) (QW.iL jA (fun h => by cases h) _)) .nil)))) (.cons (.agg (.cons (.same Q) (.cons (.dG Q Q) (.cons (.weak (.same Q) (QW.iL jA (fun h => by cases h) _)) .nil)))) .nil)) J y3) z3 z2 (gH nM Q Q) Q (bQ (LT.ug Q uS) Q Q (gH nM Q Q) Q (gW (Bv (Ol == ru)) nM y5 (bH (LT.assign (v:=(Bv (Ol == ru))) Q) Q Q Q (dF ?_)))))))))))
                 refine aX Q z1 J
                ·refine aS nM y3 (aS nM y3 (aS nM y3 (aS nM y3 (aS nM y3 (aS nM y3 (aS nM y3 (dD (Bv false) nM aP (bH (LT.assign (v:=(Bv false)) Q) Q Q Q (dF (aX Q z1 J))))))))))
               ·refine aS qM y3 (aS qM y3 (aS qM y3 (aS qM y3 (aS qM y3 (aS qM y3 (aS qM y3 (aS qM y3 (aS qM y3 (dD (Bv false) qM aP (aY (Bv false) y4 (aH y3 ?_)))))))))))
                refine aH y3 (aH y3 (aH y3 (aH y3 (aH y3 (aH y3 (dD (Bv false) Q aP (bH (LT.assign (v:=(Bv false)) Q) Q Q Q (dF (aX Q z1 J)))))))))
              ·refine aS qL y3 (aS qL y3 (aS qL y3 (aS qL y3 (aS qL y3 (aS qL y3 (aS qL y3 (aS qL y3 (aS qL y3 (dD (Bv false) qL aP (aY (Bv false) y4 (aH y3 ?_)))))))))))
               refine aH y3 (aH y3 (aH y3 (aH y3 (aH y3 (aH y3 (aH y3 (aH y3 (dD (Bv false) Q aP (aY (Bv false) y4 (aH y3 (aH y3 ?_)))))))))))
               refine aH y3 (aH y3 (aH y3 (aH y3 (aH y3 (dD (Bv false) Q aP (bH (LT.assign (v:=(Bv false)) Q) Q Q Q (dF (aX Q z1 J))))))))
             ·refine aS zx y3 (aS zx y3 (aS zx y3 (dD (Bv false) zx aP (aY (Bv false) y4 (aH y3 (aH y3 (aH y3 (aH y3 (aH y3 (aH y3 (aH y3 ?_)))))))))))
              refine aH y3 (aH y3 (dD (Bv false) Q aP (aY (Bv false) y4 (aH y3 (aH y3 (aH y3 (aH y3 (aH y3 (aH y3 (aH y3 (aH y3 ?_)))))))))))
              refine aH y3 (dD (Bv false) Q aP (aY (Bv false) y4 (aH y3 (aH y3 (aH y3 (aH y3 (aH y3 (aH y3 (aH y3 (dD (Bv false) Q aP (bH (LT.assign (v:=(Bv false)) Q) Q Q Q ?_)))))))))))
              refine dF (aX Q z1 J)
            ·refine aS zu y3 (aS zu y3 (aS zu y3 (dD (Bv false) zu aP (aY (Bv false) y4 (aH y3 (aH y3 (aH y3 (dD (Bv false) Q aP (aY (Bv false) y4 (aH y3 (aH y3 ?_)))))))))))
             refine aH y3 (aH y3 (aH y3 (aH y3 (aH y3 (aH y3 (aH y3 (dD (Bv false) Q aP (aY (Bv false) y4 (aH y3 (aH y3 (aH y3 ?_)))))))))))
             refine aH y3 (aH y3 (aH y3 (aH y3 (aH y3 (aH y3 (dD (Bv false) Q aP (aY (Bv false) y4 (aH y3 (aH y3 (aH y3 (aH y3 ?_)))))))))))
             refine aH y3 (aH y3 (aH y3 (dD (Bv false) Q aP (bH (LT.assign (v:=(Bv false)) Q) Q Q Q (dF (aX Q z1 J))))))
           ·refine aS tN y3 (aS tN y3 (aS tN y3 (aS tN y3 (aS tN y3 (aS tN y3 (aS tN y3 (dD (Bv false) tN aP (aY (Bv false) y4 (aH y3 (aH y3 (aH y3 ?_)))))))))))
            refine dD (Bv false) Q aP (aY (Bv false) y4 (aH y3 (aH y3 (aH y3 (dD (Bv false) Q aP (aY (Bv false) y4 (aH y3 (aH y3 (aH y3 (aH y3 (aH y3 ?_)))))))))))
            refine aH y3 (aH y3 (aH y3 (aH y3 (dD (Bv false) Q aP (aY (Bv false) y4 (aH y3 (aH y3 (aH y3 (aH y3 (aH y3 (aH y3 ?_)))))))))))
            refine aH y3 (aH y3 (aH y3 (dD (Bv false) Q aP (aY (Bv false) y4 (aH y3 (aH y3 (aH y3 (aH y3 (aH y3 (aH y3 (aH y3 ?_)))))))))))
            refine dD (Bv false) Q aP (bH (LT.assign (v:=(Bv false)) Q) Q Q Q (dF (aX Q z1 J)))
          ·refine aS tK y3 (aS tK y3 (aS tK y3 (aS tK y3 (aS tK y3 (aS tK y3 (aS tK y3 (dD (Bv false) tK aP (aY (Bv false) y4 (aH y3 (aH y3 (aH y3 ?_)))))))))))
           refine aH y3 (aH y3 (aH y3 (aH y3 (dD (Bv false) Q aP (aY (Bv false) y4 (aH y3 (aH y3 (aH y3 (dD (Bv false) Q aP (aY (Bv false) y4 (aH y3 ?_)))))))))))
           refine aH y3 (aH y3 (dD (Bv false) Q aP (aY (Bv false) y4 (aH y3 (aH y3 (aH y3 (aH y3 (aH y3 (aH y3 (aH y3 (aH y3 ?_)))))))))))
           refine aH y3 (dD (Bv false) Q aP (aY (Bv false) y4 (aH y3 (aH y3 (aH y3 (aH y3 (aH y3 (aH y3 (aH y3 (aH y3 (aH y3 ?_)))))))))))
           refine dD (Bv false) Q aP (aY (Bv false) y4 (aH y3 (aH y3 (aH y3 (aH y3 (aH y3 (aH y3 (aH y3 (dD (Bv false) Q aP (bH (LT.assign (v:=(Bv false)) Q) Q Q Q (dF ?_)))))))))))
           refine aX Q z1 J
         ·refine bV (bD [iC dY.1.Graph.aF,lo 67 dY.1.Graph.aA.length,lo 68 dY.1.Places.length] Q bP ax ai) Q Q (gH zq Q Q) Q (bV (bD [iC r3.Graph.aF,lo 23 r3.Graph.aA.length,xT aJ r3.Places] Q bP ax ai) Q Q (gH zq Q Q) Q (aN.bind fun nX Vp => (aN.pure (cF [.agg [iC dY.1.Graph.aF,lo 67 dY.1.Graph.aA.length,lo 68 dY.1.Places.length],.agg [iC r3.Graph.aF,lo 23 r3.Graph.aA.length,xT aJ r3.Places]] [(67,pR 96 aK dY.1.Graph.aA),(68,pR 82 aJ dY.1.Places),(23,pR 96 aK r3.Graph.aA)] (Dk dY.1 r3 nX Vp) Bd (.cons (.agg (.cons (.same Q) (.cons (.dG Q Q) (.cons (.dG Q Q) .nil)))) (.cons (.agg (.cons (.same Q) (.cons (.dG Q Q) (.cons (.weak (.same Q) (QW.iL jA (fun h => by cases h) _)) .nil)))) .nil)) J y3) z3 z3 (gH zq Q Q) Q (bQ (LT.wO (v:=(Bv nX)) Q zq) Q Q (gH vw Q Q) Q (gW (Bv nX) vw y5 (aY (Bv nX) y4 (aN.split (fun zy => ?_) (fun zy => ?_))))))))
          ·refine kD (Bv mP.2) zy y5 (kD (Bv mr.2) zy y5 (bQ (LT.ug Q uS) Q Q (gH zy Q Q) Q (gW (Bv (mP.2 == mr.2)) zy y5 (aY (Bv (mP.2 == mr.2)) y4 (aN.split (fun l7 => ?_) (fun l7 => ?_))))))
           ·refine bV (bD [iC bF.1.Graph.aF,lo 80 bF.1.Graph.aA.length,xT aJ bF.1.Places] Q bP ax ai) Q Q (gH l7 Q Q) Q (bV (bD [iC bF.2.Graph.aF,lo 81 bF.2.Graph.aA.length,xT aJ bF.2.Places] Q bP ax ai) Q Q (gH l7 Q Q) Q (aN.bind fun xM Vq => (aN.pure (cF [.agg [iC bF.1.Graph.aF,lo 80 bF.1.Graph.aA.length,xT aJ bF.1.Places],.agg [iC bF.2.Graph.aF,lo 81 bF.2.Graph.aA.length,xT aJ bF.2.Places]] [(80,pR 96 aK bF.1.Graph.aA),(81,pR 96 aK bF.2.Graph.aA)] (Tt bF.1 bF.2 xM Vq) QI (.cons (.agg (.cons (.same Q) (.cons (.dG Q Q) (.cons (.weak (.same Q) (QW.iL jA (fun h => by cases h) _)) .nil)))) (.cons (.agg (.cons (.same Q) (.cons (.dG Q Q) (.cons (.weak (.same Q) (QW.iL jA (fun h => by cases h) _)) .nil)))) .nil)) J y3) z3 z2 (gH l7 Q Q) Q (bV (bD [iC bF.1.Graph.aF,lo 80 bF.1.Graph.aA.length,xT aJ bF.1.Places] Q bP ax ai) Q Q (gH l7 Q Q) Q (bV (bD [iC bF.2.Graph.aF,lo 81 bF.2.Graph.aA.length,xT aJ bF.2.Places] Q bP ax ai) Q Q (gH l7 Q Q) Q (aN.bind fun wR Vr => (aN.pure (cF [.agg [iC bF.1.Graph.aF,lo 80 bF.1.Graph.aA.length,xT aJ bF.1.Places],.agg [iC bF.2.Graph.aF,lo 81 bF.2.Graph.aA.length,xT aJ bF.2.Places]] [(80,pR 96 aK bF.1.Graph.aA),(81,pR 96 aK bF.2.Graph.aA)] (aDG bF.1 bF.2 wR Vr) ZJ (.cons (.agg (.cons (.same Q) (.cons (.dG Q Q) (.cons (.weak (.same Q) (QW.iL jA (fun h => by cases h) _)) .nil)))) (.cons (.agg (.cons (.same Q) (.cons (.dG Q Q) (.cons (.weak (.same Q) (QW.iL jA (fun h => by cases h) _)) .nil)))) .nil)) J y3) z3 z2 (gH l7 Q Q) Q (bQ (LT.ug Q uS) Q Q (gH l7 Q Q) Q (gW (Bv (xM == wR)) l7 y5 (aY (Bv (xM == wR)) y4 (aN.split (fun tV => ?_) (fun tV => ?_))))))))))))
            ·refine bV (bD [iC bF.1.Graph.aF,lo 80 bF.1.Graph.aA.length,xT aJ bF.1.Places] Q bP ax ai) Q Q (gH tV Q Q) Q (bV (bD [iC bF.2.Graph.aF,lo 81 bF.2.Graph.aA.length,xT aJ bF.2.Places] Q bP ax ai) Q Q (gH tV Q Q) Q (aN.bind fun Om aGc => (aN.pure (cF [.agg [iC bF.1.Graph.aF,lo 80 bF.1.Graph.aA.length,xT aJ bF.1.Places],.agg [iC bF.2.Graph.aF,lo 81 bF.2.Graph.aA.length,xT aJ bF.2.Places]] [(80,pR 96 aK bF.1.Graph.aA),(81,pR 96 aK bF.2.Graph.aA)] (YE bF.1 bF.2 Om aGc) Uk (.cons (.agg (.cons (.same Q) (.cons (.dG Q Q) (.cons (.weak (.same Q) (QW.iL jA (fun h => by cases h) _)) .nil)))) (.cons (.agg (.cons (.same Q) (.cons (.dG Q Q) (.cons (.weak (.same Q) (QW.iL jA (fun h => by cases h) _)) .nil)))) .nil)) J y3) z3 z2 (gH tV Q Q) Q (bV (bD [iC bF.1.Graph.aF,lo 80 bF.1.Graph.aA.length,xT aJ bF.1.Places] Q bP ax ai) Q Q (gH tV Q Q) Q (bV (bD [iC bF.2.Graph.aF,lo 81 bF.2.Graph.aA.length,xT aJ bF.2.Places] Q bP ax ai) Q Q (gH tV Q Q) Q (aN.bind fun Oo aGd => (aN.pure (cF [.agg [iC bF.1.Graph.aF,lo 80 bF.1.Graph.aA.length,xT aJ bF.1.Places],.agg [iC bF.2.Graph.aF,lo 81 bF.2.Graph.aA.length,xT aJ bF.2.Places]] [(80,pR 96 aK bF.1.Graph.aA),(81,pR 96 aK bF.2.Graph.aA)] (aDL bF.1 bF.2 Oo aGd) ZK (.cons (.agg (.cons (.same Q) (.cons (.dG Q Q) (.cons (.weak (.same Q) (QW.iL jA (fun h => by cases h) _)) .nil)))) (.cons (.agg (.cons (.same Q) (.cons (.dG Q Q) (.cons (.weak (.same Q) (QW.iL jA (fun h => by cases h) _)) .nil)))) .nil)) J y3) z3 z2 (gH tV Q Q) Q (bQ (LT.ug Q uS) Q Q (gH tV Q Q) Q (gW (Bv (Om == Oo)) tV y5 (aY (Bv (Om == Oo)) y4 (aN.split (fun AA => ?_) (fun AA => ?_))))))))))))
             ·refine kD (Bv gQ.2) AA y5 (kD (Bv fU.2) AA y5 (bQ (LT.ug Q uS) Q Q (gH AA Q Q) Q (gW (Bv (gQ.2 == fU.2)) AA y5 (aY (Bv (gQ.2 == fU.2)) y4 (aN.split (fun AB => ?_) (fun AB => ?_))))))
              ·refine bV (bD [iC gQ.1.Graph.aF,lo 89 gQ.1.Graph.aA.length,lo 90 gQ.1.Places.length] Q bP ax ai) Q Q (gH AB Q Q) Q (bV (bD [iC fU.1.Graph.aF,lo 93 fU.1.Graph.aA.length,lo 94 fU.1.Places.length] Q bP ax ai) Q Q (gH AB Q Q) Q (aN.bind fun Oq aGe => (aN.pure (cF [.agg [iC gQ.1.Graph.aF,lo 89 gQ.1.Graph.aA.length,lo 90 gQ.1.Places.length],.agg [iC fU.1.Graph.aF,lo 93 fU.1.Graph.aA.length,lo 94 fU.1.Places.length]] [(89,pR 96 aK gQ.1.Graph.aA),(90,pR 82 aJ gQ.1.Places),(93,pR 96 aK fU.1.Graph.aA),(94,pR 82 aJ fU.1.Places)] (Dk gQ.1 fU.1 Oq aGe) Bd (.cons (.agg (.cons (.same Q) (.cons (.dG Q Q) (.cons (.dG Q Q) .nil)))) (.cons (.agg (.cons (.same Q) (.cons (.dG Q Q) (.cons (.dG Q Q) .nil)))) .nil)) J y3) z3 z4 (gH AB Q Q) Q (gW (Bv Oq) AB y5 (aY (Bv Oq) y4 (aN.split (fun qN => ?_) (fun qN => ?_)))))))
               ·refine bV (bD [iC bJ.1.X,iC bJ.1.Y] Q gI dS bf) Q Q (gH qN Q Q) Q (bV (bD [iC bJ.2.1.X,iC bJ.2.1.Y] Q gI dS bf) Q Q (gH qN Q Q) Q (bV (bD [iC bJ.2.2.X,iC bJ.2.2.Y] Q gI dS bf) Q Q (gH qN Q Q) Q (aN.bind fun Ot aGf => (aN.pure (bU [.agg [iC bJ.1.X,iC bJ.1.Y],.agg [iC bJ.2.1.X,iC bJ.2.1.Y],.agg [iC bJ.2.2.X,iC bJ.2.2.Y]] (J9 bJ.1 bJ.2.1 bJ.2.2 Ot aGf) Gt (DY y6) J y3) z4 J (gH qN Q Q) Q (bV (bD [iC bJ.1.X,iC bJ.1.Y] Q gI dS bf) Q Q (gH qN Q Q) Q (bV (bD [iC bJ.2.1.X,iC bJ.2.1.Y] Q gI dS bf) Q Q (gH qN Q Q) Q (bV (bD [iC bJ.2.2.X,iC bJ.2.2.Y] Q gI dS bf) Q Q (gH qN Q Q) Q (aN.bind fun Ou aGg => (aN.pure (bU [.agg [iC bJ.1.X,iC bJ.1.Y],.agg [iC bJ.2.1.X,iC bJ.2.1.Y],.agg [iC bJ.2.2.X,iC bJ.2.2.Y]] (aDF bJ.1 bJ.2.1 bJ.2.2 Ou aGg) ZL (DY y6) J y3) z4 J (gH qN Q Q) Q (bQ (LT.ug Q uS) Q Q (gH qN Q Q) Q (gW (Bv (Ot == Ou)) qN y5 ?_)))))))))))
                refine aY (Bv (Ot == Ou)) y4 (aN.split (fun qO => ?_) (fun qO => ?_))
                ·refine bV (bD [iC bJ.1.X,iC bJ.1.Y] Q gI dS bf) Q Q (gH qO Q Q) Q (bV (bD [iC bJ.2.1.X,iC bJ.2.1.Y] Q gI dS bf) Q Q (gH qO Q Q) Q (bV (bD [iC bJ.2.2.X,iC bJ.2.2.Y] Q gI dS bf) Q Q (gH qO Q Q) Q (aN.bind fun Ov aGh => (aN.pure (bU [.agg [iC bJ.1.X,iC bJ.1.Y],.agg [iC bJ.2.1.X,iC bJ.2.1.Y],.agg [iC bJ.2.2.X,iC bJ.2.2.Y]] (J9 bJ.1 bJ.2.1 bJ.2.2 Ov aGh) Gt (DY y6) J y3) z4 J (gH qO Q Q) Q (bV (bD [iC bJ.2.2.X,iC bJ.2.2.Y] Q gI dS bf) Q Q (gH qO Q Q) Q (bV (bD [iC bJ.1.X,iC bJ.1.Y] Q gI dS bf) Q Q (gH qO Q Q) Q (bV (bD [iC bJ.2.1.X,iC bJ.2.1.Y] Q gI dS bf) Q Q (gH qO Q Q) Q (aN.bind fun Ox aGi => (aN.pure (bU [.agg [iC bJ.2.2.X,iC bJ.2.2.Y],.agg [iC bJ.1.X,iC bJ.1.Y],.agg [iC bJ.2.1.X,iC bJ.2.1.Y]] (J9 bJ.2.2 bJ.1 bJ.2.1 Ox aGi) Gt (DY y6) J y3) z4 J (gH qO Q Q) Q (bQ (LT.ug Q uS) Q Q (gH qO Q Q) Q (gW (Bv (Ov == Ox)) qO y5 ?_)))))))))))
                 refine aY (Bv (Ov == Ox)) y4 (aN.split (fun tX => ?_) (fun tX => ?_))
                 ·refine bV (bD [iC dP.1.Graph.aF,lo 101 dP.1.Graph.aA.length,xT aJ dP.1.Places] Q bP ax ai) Q Q (gH tX Q Q) Q (bV (bD [iC dP.2.Graph.aF,lo 102 dP.2.Graph.aA.length,xT aJ dP.2.Places] Q bP ax ai) Q Q (gH tX Q Q) Q (aN.bind fun Oy aGj => (aN.pure (cF [.agg [iC dP.1.Graph.aF,lo 101 dP.1.Graph.aA.length,xT aJ dP.1.Places],.agg [iC dP.2.Graph.aF,lo 102 dP.2.Graph.aA.length,xT aJ dP.2.Places]] [(101,pR 96 aK dP.1.Graph.aA),(102,pR 96 aK dP.2.Graph.aA)] (aC3 dP.1 dP.2 Oy aGj) ZM (.cons (.agg (.cons (.same Q) (.cons (.dG Q Q) (.cons (.weak (.same Q) (QW.iL jA (fun h => by cases h) _)) .nil)))) (.cons (.agg (.cons (.same Q) (.cons (.dG Q Q) (.cons (.weak (.same Q) (QW.iL jA (fun h => by cases h) _)) .nil)))) .nil)) J y3) z3 z2 (gH tX Q Q) Q (bV (bD [iC dP.1.Graph.aF,lo 101 dP.1.Graph.aA.length,xT aJ dP.1.Places] Q bP ax ai) Q Q (gH tX Q Q) Q (bV (bD [iC dP.2.Graph.aF,lo 102 dP.2.Graph.aA.length,xT aJ dP.2.Places] Q bP ax ai) Q Q (gH tX Q Q) Q (aN.bind fun Oz aGk => (aN.pure (cF [.agg [iC dP.1.Graph.aF,lo 101 dP.1.Graph.aA.length,xT aJ dP.1.Places],.agg [iC dP.2.Graph.aF,lo 102 dP.2.Graph.aA.length,xT aJ dP.2.Places]] [(101,pR 96 aK dP.1.Graph.aA),(102,pR 96 aK dP.2.Graph.aA)] (Dk dP.1 dP.2 Oz aGk) Bd (.cons (.agg (.cons (.same Q) (.cons (.dG Q Q) (.cons (.weak (.same Q) (QW.iL jA (fun h => by cases h) _)) .nil)))) (.cons (.agg (.cons (.same Q) (.cons (.dG Q Q) (.cons (.weak (.same Q) (QW.iL jA (fun h => by cases h) _)) .nil)))) .nil)) J y3) z3 z2 (gH tX Q Q) Q (bQ (LT.ug Q uS) Q Q (gH tX Q Q) Q (gW (Bv (Oy == Oz)) tX y5 (bH (LT.assign (v:=(Bv (Oy == Oz))) Q) Q Q Q (dF ?_)))))))))))
                  refine aX Q z1 J
                 ·refine aS tX y3 (aS tX y3 (aS tX y3 (aS tX y3 (aS tX y3 (aS tX y3 (aS tX y3 (dD (Bv false) tX aP (bH (LT.assign (v:=(Bv false)) Q) Q Q Q (dF (aX Q z1 J))))))))))
                ·refine aS qO y3 (aS qO y3 (aS qO y3 (aS qO y3 (aS qO y3 (aS qO y3 (aS qO y3 (aS qO y3 (aS qO y3 (dD (Bv false) qO aP (aY (Bv false) y4 (aH y3 ?_)))))))))))
                 refine aH y3 (aH y3 (aH y3 (aH y3 (aH y3 (aH y3 (dD (Bv false) Q aP (bH (LT.assign (v:=(Bv false)) Q) Q Q Q (dF (aX Q z1 J)))))))))
               ·refine aS qN y3 (aS qN y3 (aS qN y3 (aS qN y3 (aS qN y3 (aS qN y3 (aS qN y3 (aS qN y3 (aS qN y3 (dD (Bv false) qN aP (aY (Bv false) y4 (aH y3 ?_)))))))))))
                refine aH y3 (aH y3 (aH y3 (aH y3 (aH y3 (aH y3 (aH y3 (aH y3 (dD (Bv false) Q aP (aY (Bv false) y4 (aH y3 (aH y3 ?_)))))))))))
                refine aH y3 (aH y3 (aH y3 (aH y3 (aH y3 (dD (Bv false) Q aP (bH (LT.assign (v:=(Bv false)) Q) Q Q Q (dF (aX Q z1 J))))))))
              ·refine aS AB y3 (aS AB y3 (aS AB y3 (dD (Bv false) AB aP (aY (Bv false) y4 (aH y3 (aH y3 (aH y3 (aH y3 (aH y3 (aH y3 (aH y3 ?_)))))))))))
               refine aH y3 (aH y3 (dD (Bv false) Q aP (aY (Bv false) y4 (aH y3 (aH y3 (aH y3 (aH y3 (aH y3 (aH y3 (aH y3 (aH y3 ?_)))))))))))
               refine aH y3 (dD (Bv false) Q aP (aY (Bv false) y4 (aH y3 (aH y3 (aH y3 (aH y3 (aH y3 (aH y3 (aH y3 (dD (Bv false) Q aP (bH (LT.assign (v:=(Bv false)) Q) Q Q Q ?_)))))))))))
               refine dF (aX Q z1 J)
             ·refine aS AA y3 (aS AA y3 (aS AA y3 (dD (Bv false) AA aP (aY (Bv false) y4 (aH y3 (aH y3 (aH y3 (dD (Bv false) Q aP (aY (Bv false) y4 (aH y3 (aH y3 ?_)))))))))))
              refine aH y3 (aH y3 (aH y3 (aH y3 (aH y3 (aH y3 (aH y3 (dD (Bv false) Q aP (aY (Bv false) y4 (aH y3 (aH y3 (aH y3 ?_)))))))))))
              refine aH y3 (aH y3 (aH y3 (aH y3 (aH y3 (aH y3 (dD (Bv false) Q aP (aY (Bv false) y4 (aH y3 (aH y3 (aH y3 (aH y3 ?_)))))))))))
              refine aH y3 (aH y3 (aH y3 (dD (Bv false) Q aP (bH (LT.assign (v:=(Bv false)) Q) Q Q Q (dF (aX Q z1 J))))))
            ·refine aS tV y3 (aS tV y3 (aS tV y3 (aS tV y3 (aS tV y3 (aS tV y3 (aS tV y3 (dD (Bv false) tV aP (aY (Bv false) y4 (aH y3 (aH y3 (aH y3 ?_)))))))))))
             refine dD (Bv false) Q aP (aY (Bv false) y4 (aH y3 (aH y3 (aH y3 (dD (Bv false) Q aP (aY (Bv false) y4 (aH y3 (aH y3 (aH y3 (aH y3 (aH y3 ?_)))))))))))
             refine aH y3 (aH y3 (aH y3 (aH y3 (dD (Bv false) Q aP (aY (Bv false) y4 (aH y3 (aH y3 (aH y3 (aH y3 (aH y3 (aH y3 ?_)))))))))))
             refine aH y3 (aH y3 (aH y3 (dD (Bv false) Q aP (aY (Bv false) y4 (aH y3 (aH y3 (aH y3 (aH y3 (aH y3 (aH y3 (aH y3 ?_)))))))))))
             refine dD (Bv false) Q aP (bH (LT.assign (v:=(Bv false)) Q) Q Q Q (dF (aX Q z1 J)))
           ·refine aS l7 y3 (aS l7 y3 (aS l7 y3 (aS l7 y3 (aS l7 y3 (aS l7 y3 (aS l7 y3 (dD (Bv false) l7 aP (aY (Bv false) y4 (aH y3 (aH y3 (aH y3 ?_)))))))))))
            refine aH y3 (aH y3 (aH y3 (aH y3 (dD (Bv false) Q aP (aY (Bv false) y4 (aH y3 (aH y3 (aH y3 (dD (Bv false) Q aP (aY (Bv false) y4 (aH y3 ?_)))))))))))
            refine aH y3 (aH y3 (dD (Bv false) Q aP (aY (Bv false) y4 (aH y3 (aH y3 (aH y3 (aH y3 (aH y3 (aH y3 (aH y3 (aH y3 ?_)))))))))))
            refine aH y3 (dD (Bv false) Q aP (aY (Bv false) y4 (aH y3 (aH y3 (aH y3 (aH y3 (aH y3 (aH y3 (aH y3 (aH y3 (aH y3 ?_)))))))))))
            refine dD (Bv false) Q aP (aY (Bv false) y4 (aH y3 (aH y3 (aH y3 (aH y3 (aH y3 (aH y3 (aH y3 (dD (Bv false) Q aP (bH (LT.assign (v:=(Bv false)) Q) Q Q Q (dF ?_)))))))))))
            refine aX Q z1 J
          ·refine aS zy y3 (aS zy y3 (aS zy y3 (dD (Bv false) zy aP (aY (Bv false) y4 (aH y3 (aH y3 (aH y3 (aH y3 (aH y3 (aH y3 (aH y3 ?_)))))))))))
           refine dD (Bv false) Q aP (aY (Bv false) y4 (aH y3 (aH y3 (aH y3 (aH y3 (aH y3 (aH y3 (aH y3 (dD (Bv false) Q aP (aY (Bv false) y4 (aH y3 ?_)))))))))))
           refine aH y3 (aH y3 (dD (Bv false) Q aP (aY (Bv false) y4 (aH y3 (aH y3 (aH y3 (dD (Bv false) Q aP (aY (Bv false) y4 (aH y3 (aH y3 (aH y3 ?_)))))))))))
           refine aH y3 (aH y3 (aH y3 (aH y3 (aH y3 (aH y3 (dD (Bv false) Q aP (aY (Bv false) y4 (aH y3 (aH y3 (aH y3 (aH y3 ?_)))))))))))
           refine aH y3 (aH y3 (aH y3 (aH y3 (aH y3 (dD (Bv false) Q aP (aY (Bv false) y4 (aH y3 (aH y3 (aH y3 (aH y3 (aH y3 ?_)))))))))))
           refine aH y3 (aH y3 (dD (Bv false) Q aP (bH (LT.assign (v:=(Bv false)) Q) Q Q Q (dF (aX Q z1 J)))))
        ·refine aS vw y3 (aS vw y3 (aS vw y3 (aH y3 (aH y3 (aH y3 (aS vw y3 (dD (Bv false) vw aP (aY (Bv false) y4 (aH y3 (aH y3 (aH y3 ?_)))))))))))
         refine dD (Bv false) Q aP (aY (Bv false) y4 (aH y3 (aH y3 (aH y3 (aH y3 (aH y3 (aH y3 (aH y3 (dD (Bv false) Q aP (aY (Bv false) y4 (aH y3 ?_)))))))))))
         refine aH y3 (aH y3 (aH y3 (aH y3 (aH y3 (aH y3 (dD (Bv false) Q aP (aY (Bv false) y4 (aH y3 (aH y3 (aH y3 (dD (Bv false) Q aP ?_)))))))))))
         refine aY (Bv false) y4 (aH y3 (aH y3 (aH y3 (dD (Bv false) Q aP (aY (Bv false) y4 (aH y3 (aH y3 (aH y3 (aH y3 (aH y3 (aH y3 ?_)))))))))))
         refine aH y3 (aH y3 (aH y3 (dD (Bv false) Q aP (aY (Bv false) y4 (aH y3 (aH y3 (aH y3 (aH y3 (aH y3 (aH y3 (aH y3 ?_)))))))))))
         refine aH y3 (aH y3 (dD (Bv false) Q aP (aY (Bv false) y4 (aH y3 (aH y3 (aH y3 (aH y3 (aH y3 (aH y3 (aH y3 (dD (Bv false) Q aP ?_)))))))))))
         refine bH (LT.assign (v:=(Bv false)) Q) Q Q Q (dF (aX Q z1 J))
       ·refine aS xu y3 (aS xu y3 (aS xu y3 (aS xu y3 (dD (Bv false) xu aP (aY (Bv false) y4 (aH y3 (aH y3 (aH y3 (aH y3 (aH y3 (aH y3 ?_)))))))))))
        refine aH y3 (dD (Bv false) Q aP (aY (Bv false) y4 (aH y3 (aH y3 (aH y3 (dD (Bv false) Q aP (aY (Bv false) y4 (aH y3 (aH y3 (aH y3 (aH y3 ?_)))))))))))
        refine aH y3 (aH y3 (aH y3 (dD (Bv false) Q aP (aY (Bv false) y4 (aH y3 (aH y3 (aH y3 (aH y3 (aH y3 (aH y3 (aH y3 ?_)))))))))))
        refine dD (Bv false) Q aP (aY (Bv false) y4 (aH y3 (aH y3 (aH y3 (dD (Bv false) Q aP (aY (Bv false) y4 (aH y3 (aH y3 (aH y3 (dD (Bv false) Q aP (aY (Bv false) y4 ?_)))))))))))
        refine aH y3 (aH y3 (aH y3 (aH y3 (aH y3 (aH y3 (aH y3 (aH y3 (aH y3 (dD (Bv false) Q aP (aY (Bv false) y4 (aH y3 ?_)))))))))))
        refine aH y3 (aH y3 (aH y3 (aH y3 (aH y3 (aH y3 (aH y3 (aH y3 (dD (Bv false) Q aP (aY (Bv false) y4 (aH y3 (aH y3 ?_)))))))))))
        refine aH y3 (aH y3 (aH y3 (aH y3 (aH y3 (dD (Bv false) Q aP (bH (LT.assign (v:=(Bv false)) Q) Q Q Q (dF (aX Q z1 J))))))))
      ·refine bT z1 J ⟨ah.sc,J⟩ J
end Go.Proofs.Ytdmlaldifbmkpaa
end
section
namespace Go.Fw
open Go.ChangeShapes Go.WideShapes Go.ChangeAt Go.RowKit
open Go.Proofs.Ytdmlaldifbmkpaa (Rows.uptoBulk Rows.uptoBulkAll)
abbrev sK (W:World):Nat → Prop:=fun b => b < W.heap.size
abbrev yh:Nat → Prop:=fun _ => False
abbrev EP:Nat → GS:=fun _ => .dead
def Opn {α:Type} (P:Program) (t:TypeId) (s:Nat) (enc:α → List PV) (wt:α → Nat) (ok:α → Prop):Prop :=
 ∀ (H:Type) (e:TypeId × Value → H) (W:World) (base:Nat) (spare:Nat → Bool) (held:Bool) (fuel:Nat) (cs:List Value) (x:DataW H × List MemPlace),DataW.trod e P W base spare held fuel t cs = some x →
  ∃ a:α,ok a ∧ wt a ≤ Go.Proofs.Ytdmlaldifbmkpaa.Rows.uptoBulk x.1 ∧ cs.length = s ∧ (enc a).length = s ∧ ∀ (k:Nat) p,(enc a)[k]? = some p → ∃ u,cs[k]? = some u ∧ jH W yh (sK W) p u
def okI (n:Int):Prop:=-9223372036854775808 ≤ n ∧ n ≤ 9223372036854775807
def okL {α:Type} (ok:α → Prop) (xs:List α):Prop:=∀ x ∈ xs,ok x
def Dn (_:Int):Nat:=1
def F8 {α:Type} (wt:α → Nat) (xs:List α):Nat:=(xs.map wt).sum + 1
section
variable {P:Program}
theorem one1 {p q:PV} {cs:List Value} {v:Value} {W:World} (hcs:cs = [v]) (h:jH W yh (sK W) p v):∀ (k:Nat) r,[p][k]? = some r → ∃ u,cs[k]? = some u ∧ jH W yh (sK W) r u:=fun k r hk => by
 subst hcs
 cases k with
 | zero => simp at hk; subst hk; exact ⟨v,rfl,h⟩
 | succ k => simp at hk
theorem Opn.int {t:TypeId} (ht:P.underlying t = some (.int .i64)):Opn P t 1 (fun n:Int => [.sc (.int .i64 n)]) Dn okI:=fun H e W base spare held fuel cs x h => by
 obtain ⟨n,rfl,rfl,hw⟩:=DataW.trod_int ht h
 refine ⟨n,?_,by simp [Dn,Go.Proofs.Ytdmlaldifbmkpaa.Rows.uptoBulk],rfl,rfl,one1 (q:=.sc (.int .i64 n)) rfl (.sc rfl)⟩
 simp [Lit.wf,IntKind.min,IntKind.max,IntKind.signed,IntKind.bits] at hw
 exact ⟨by omega,by omega⟩
theorem aBB {α:Type} {p:Nat → α → Prop}:∀ n:Nat,(∀ i,i < n → ∃ a,p i a) → ∃ xs:List α,xs.length = n ∧ ∀ (i:Nat) a,xs[i]? = some a → p i a
 | 0,_ => ⟨[],rfl,fun i a h => by simp at h⟩
 | n + 1,h => by
  obtain ⟨xs,h1,h2⟩:=aBB n fun i hi => h i (by omega)
  obtain ⟨a,ha⟩:=h n (by omega)
  refine ⟨xs ++ [a],by simp [h1],fun i b hb => ?_⟩
  rw [List.getElem?_append] at hb
  split at hb
  ·exact h2 i b hb
  ·rename_i hn
   have hi:i - xs.length = 0:=by
    have:=(List.getElem?_eq_some_iff.1 hb).1
    simp at this
    omega
   rw [hi] at hb
   simp at hb
   subst hb
   have:i = n:=by omega
   subst this
   exact ha
theorem Yr {α:Type} {H:Type} {wt:α → Nat} {D:Nat → DataW H}:∀ (xs:List α) (k:Nat),(∀ (i:Nat) a,xs[i]? = some a → wt a ≤ Go.Proofs.Ytdmlaldifbmkpaa.Rows.uptoBulk (D (k + i))) →
  (xs.map wt).sum ≤ Go.Proofs.Ytdmlaldifbmkpaa.Rows.uptoBulkAll ((List.range' k xs.length).map D)
 | [],_,_ => by simp [Go.Proofs.Ytdmlaldifbmkpaa.Rows.uptoBulkAll]
 | a :: r,k,h => by
  have h0:=h 0 a rfl
  have ih:=Yr r (k + 1) fun i b hb => by
   have:=h (i + 1) b (by simpa using hb)
   rwa [show k + 1 + i = k + (i + 1) by omega]
  rw [Nat.add_zero] at h0
  simp only [List.map_cons,List.sum_cons,List.length_cons,List.range'_succ,Go.Proofs.Ytdmlaldifbmkpaa.Rows.uptoBulkAll]
  omega
theorem cell_lt {w:World} {a:Addr} {v:Value} (h:w.cell? a = some v):a.block < w.heap.size:=by
 unfold World.cell? at h
 cases hb:w.heap[a.block]? with
 | none => rw [hb] at h; simp at h
 | some o => exact (Array.getElem?_eq_some_iff.1 hb).1
theorem Opn.slice {α:Type} {t e:TypeId} {s:Nat} {enc:α → List PV} {wt:α → Nat} {ok:α → Prop} (ht:P.underlying t = some (.slice e)) (hs:P.cellsOf e = s) (hs0:0 < s) (he:Opn P e s enc wt ok) :
  Opn P t 1 (fun xs:List α => [.xs false (xs.map enc)]) (F8 wt) (okL ok):=fun H en W base spare held fuel cs x h => by
 rcases Go.Deep.open_slice ht h with ⟨rfl,rfl⟩ | ⟨a,len,cap,m,n,D,Pl,rfl,hb,hl,hm,hmm,rfl,hi⟩
 ·refine ⟨[],?_,?_,rfl,rfl,one1 (q:=.xs false []) rfl .emp⟩
  ·intro x hx; cases hx
  ·simp [F8,Go.Proofs.Ytdmlaldifbmkpaa.Rows.uptoBulk]
 ·have hml:len ≤ m:=by rw [hmm]; split <;> omega
  obtain ⟨xs,hxl,hx⟩:=aBB (p:=fun i (b:α) => ok b ∧ wt b ≤ Go.Proofs.Ytdmlaldifbmkpaa.Rows.uptoBulk (D i) ∧ (enc b).length = s ∧ ∀ (k:Nat) p,(enc b)[k]? = some p → ∃ u,W.cell? (a.add (i * s + k)) = some u ∧ jH W yh (sK W) p u) len (fun i hil => by
   obtain ⟨cs',hc,htr⟩:=hi i (by omega)
   obtain ⟨b,h1,h2,h3,h4,h5⟩:=he _ _ _ _ _ _ _ _ _ htr
   obtain ⟨_,hcl,hat⟩:=World.cells?_some hc
   refine ⟨b,h1,h2,h4,fun k p hk => ?_⟩
   obtain ⟨u,hu,hr⟩:=h5 k p hk
   refine ⟨u,?_,hr⟩
   have hks:k < s:=by rw [← h4]; exact (List.getElem?_eq_some_iff.1 hk).1
   have:=hat k (by rw [hs]; exact hks)
   rw [add_add,hs] at this
   rw [this]
   exact hu)
  refine ⟨xs,fun b hb => ?_,?_,rfl,rfl,one1 (q:=.sc undef) rfl ?_⟩
  ·obtain ⟨i,hib⟩:=List.getElem?_of_mem hb
   exact (hx i b hib).1
  ·have:=Yr (wt:=wt) (D:=D) xs 0 (fun i b hb => by rw [Nat.zero_add]; exact (hx i b hb).2.1)
   simp only [F8,Go.Proofs.Ytdmlaldifbmkpaa.Rows.uptoBulk]
   rw [hxl,← List.range_eq_range'] at this
   omega
  ·cases hxs:xs with
   | nil =>
    have:len = 0:=by rw [← hxl,hxs]; rfl
    subst this
    exact .emp
   | cons b r =>
    rw [← hxs]
    have hget:∀ (j k:Nat) cs p,(xs.map enc)[j]? = some cs → cs[k]? = some p → ∃ u,W.cell? (a.add (j * s + k)) = some u ∧ jH W yh (sK W) p u:=fun j k cs p hj hk => by
     rw [List.getElem?_map] at hj
     cases Vf:xs[j]? with
     | none => rw [Vf] at hj; cases hj
     | some c =>
      rw [Vf] at hj
      injection hj with hj
      subst hj
      exact (hx j c Vf).2.2.2 k p hk
    refine .xs (s:=s) (fun j k => (W.cell? (a.add (j * s + k))).getD undef) (by simp [hxl]) ?_ (by simp [hxl]; exact hl) (fun cs hcs => ?_) (fun j k cs p hj hk => ?_) (fun j k cs p hj hk => ?_)
    ·have h0:=hx 0 b (by rw [hxs]; rfl)
     have hlt:0 < (enc b).length:=by rw [h0.2.2.1]; exact hs0
     obtain ⟨u,hu,_⟩:=h0.2.2.2 0 (enc b)[0] (List.getElem?_eq_getElem hlt)
     have:=cell_lt hu
     rw [add_block] at this
     exact this
    ·obtain ⟨c,hc,rfl⟩:=List.mem_map.1 hcs
     obtain ⟨i,hic⟩:=List.getElem?_of_mem hc
     exact (hx i c hic).2.2.1
    ·obtain ⟨u,hu,_⟩:=hget j k cs p hj hk
     rw [hu]; rfl
    ·obtain ⟨u,hu,hr⟩:=hget j k cs p hj hk
     rw [hu]
     exact hr
theorem aIN {α:Type} {wt:α → Nat} (h:∀ x,1 ≤ wt x) (xs:List α):xs.length ≤ F8 wt xs:=by
 unfold F8
 induction xs with
 | nil => simp
 | cons x r ih =>
  have:=h x
  simp only [List.map_cons,List.sum_cons,List.length_cons] at ih ⊢
  omega
theorem Opn.arg1 {α:Type} {t:TypeId} {enc:α → List PV} {wt:α → Nat} {ok:α → Prop} (h:Opn P t 1 enc wt ok) {p:α → PV} (hp:∀ a,enc a = [p a]) {H:Type} {e:TypeId × Value → H} {W:World} {sp:Nat → Bool} {v:Value} {d:DataW H} {ps:List MemPlace}
  (hv:v.oneCell' = true) (hd:DataW.Trod e P W 0 sp true t v d ps):∃ a:α,ok a ∧ wt a ≤ Go.Proofs.Ytdmlaldifbmkpaa.Rows.uptoBulk d ∧ RS P W yh (sK W) EP (.c (.pv (p a))) v:=by
 obtain ⟨fuel,hf⟩:=hd
 obtain ⟨a,h1,h2,h3,h4,h5⟩:=h _ _ _ _ _ _ _ _ _ hf
 refine ⟨a,h1,h2,?_⟩
 have hc:v.cells = #[v]:=aIm hv
 obtain ⟨u,hu,hr⟩:=h5 0 (p a) (by rw [hp]; rfl)
 rw [hc] at hu
 have:v = u:=by simpa using hu
 subst this
 exact ⟨hv,hr⟩
def Pq (P:Program) (W:World):List SV → List Value → Prop
 | [],[] => True
 | x :: xs,v :: vs => RS P W yh (sK W) EP x v ∧ Pq P W xs vs
 | _,_ => False
theorem Pq.spec {W:World}:∀ {xs:List SV} {vs:List Value},Pq P W xs vs → vs.length = xs.length ∧ ∀ (k:Nat) x,xs[k]? = some x → ∃ u,vs[k]? = some u ∧ RS P W yh (sK W) EP x u
 | [],[],_ => ⟨rfl,fun k x hk => by simp at hk⟩
 | [],_ :: _,h => h.elim
 | _ :: _,[],h => h.elim
 | x :: xs,v :: vs,h => by
  obtain ⟨h1,h2⟩:=Pq.spec h.2
  refine ⟨by simp [h1],fun k y hk => ?_⟩
  cases k with
  | zero => simp at hk; subst hk; exact ⟨v,rfl,h.1⟩
  | succ k => exact h2 k y (by simpa using hk)
theorem aCp {H:Type} {e:TypeId × Value → H} (hl:laidOutB P = true) {W W':World} {sp:Nat → Bool} (hb:Below W.heap.size W W'):∀ {ts:List TypeId} {vs:List Value} {ds:List (DataW H)} {ps:List MemPlace},(ts.all fun t => P.readableRec t && decide (t < P.types.size)) = true →
  DataW.TrodAll e P W 0 (fun _ => true) true ts vs ds ps → (∀ p ∈ ps,p.block < W.heap.size) → (∀ p ∈ ps,sp p.block = true) → DataW.TrodAll e P W' 0 sp true ts vs ds ps
 | [],[],[],_,_,h,_,_ => h
 | t :: ts,v :: vs,d :: ds,ps,hr,h,hlt,hs => by
  obtain ⟨p,q,h1,h2,rfl⟩:=h
  simp only [List.all_cons,Bool.and_eq_true,decide_eq_true_eq] at hr
  exact ⟨p,q,Go.WideElems.Trod_stays hl hr.1.1 hr.1.2 h1 (fun x hx => hb.same (hlt x (List.mem_append_left _ hx))) (fun x hx => hs x (List.mem_append_left _ hx)),aCp hl hb hr.2 h2 (fun x hx => hlt x (List.mem_append_right _ hx)) (fun x hx => hs x (List.mem_append_right _ hx)),rfl⟩
 | [],[],_ :: _,_,_,h,_,_ => h.elim
 | [],_ :: _,_,_,_,h,_,_ => h.elim
 | _ :: _,[],_,_,_,h,_,_ => h.elim
 | _ :: _,_ :: _,[],_,_,h,_,_ => h.elim
theorem aI2 {H:Type} {e:TypeId × Value → H} {f:Func} {s:ChangeSpec} {apart handsOn again:Bool} {fresh:Bool} {W W':World} {args:Array Value} {ds gs:List (DataW H)} {before:List MemPlace} {tb:TypeId} (hW:DataW.Whole e P f.params.toList s.vars apart W args.toList ds gs before) (hl:laidOutB P = true)
  (hr:(f.params.toList.all fun t => P.readableRec t && decide (t < P.types.size)) = true) (hb:Below W.heap.size W W') (hv:s.vars = []) (hf:s.fn H ds = { results:=[.lit (.bool true)],args:=ds }) (hrt:f.resultTypes = #[tb]) (htb:P.underlying tb = some .bool) :
  s.post e P f apart fresh handsOn again W args (.bool true) W':=by
 have hlt:∀ p ∈ before,p.block < W.heap.size:=fun p hp => hW.lt p hp
 have hW0:=hW
 obtain ⟨p,q,hA,hV,hpq,hz,hn⟩:=hW
 rw [hv] at hV
 obtain ⟨rfl,rfl⟩:gs = [] ∧ q = []:=by
  cases gs with
  | nil => exact ⟨rfl,hV⟩
  | cons _ _ => exact hV.elim
 rw [List.append_nil] at hpq
 subst hpq
 have hargs:∀ sp:Nat → Bool,(∀ p ∈ before,sp p.block = true) → DataW.TrodAll e P W' 0 sp true f.params.toList args.toList ds before:=fun sp hs => aCp hl hb hr hA hlt hs
 have hres:∀ (b:Nat) (sp:Nat → Bool) (hd:Bool),DataW.TrodAll e P W' b sp hd f.resultTypes.toList ((Value.bool true).resultList f.resultTypes.size) [.lit (.bool true)] []:=fun b sp hd => by
  rw [hrt]
  exact ⟨[],[],shut_bool htb _,rfl,rfl⟩
 have hfd:s.fn H (ds ++ []) = { results:=[.lit (.bool true)],args:=ds }:=by rw [List.append_nil]; exact hf
 have hold:∀ p ∈ before,(fun b => decide (b < W.heap.size)) p.block = true:=fun p hp => by simpa using hlt p hp
 have hvs:∀ sp:Nat → Bool,DataW.TrodVars e P W' sp s.vars [] []:=fun sp => by rw [hv]; rfl
 refine ⟨ds,[],before,[],before,[],hW0,?_,?_,?_,World.keptBut_mono (fun p hp => ⟨hp,?_⟩) (hb.frame (· ∈ before)),fun _ => ?_⟩
 ·rw [hfd]; exact hres _ _ _
 ·rw [hfd]; exact hargs _ hold
 ·rw [hfd]; exact hvs _
 ·exact Or.inr (Or.inl hp)
 ·refine ⟨ok_one hrt rfl (okWide_bool_mk htb _),?_⟩
  ·refine ⟨_,_,([] ++ before) ++ [],⟨[] ++ before,[],trodAll_append (hargs _ (fun _ _ => rfl)) (hres _ _ _),hvs _,rfl,?_,?_⟩,?_⟩
   ·intro b off hp
    have hin:MemPlace.cell b off ∈ before:=by simpa using hp
    rw [hb.frozen (hlt _ hin)]
    exact hz b off hin
   ·intro ha
    simpa using hn ha
   ·intro p hp _
    simpa using hp
end
end Go.Fw
end
section
open Go Go.Fw
open Go.ChangeShapes Go.WideShapes Go.ChangeAt Go.RowKit
namespace Go.Proofs.Ytdmlaldifbmkpaa
theorem oC5:Try.prog.cellsOf 5 = 1:=by kernel_rfl
theorem aBh:Try.prog.underlying 22 = some (.slice 5):=by kernel_rfl
theorem oU5:Try.prog.underlying 5 = some (.int .u8):=by kernel_rfl
def okB (n:Int):Prop:=0 ≤ n ∧ n ≤ 255
theorem Opn.u8 {P:Program} {t:TypeId} (ht:P.underlying t = some (.int .u8)):Opn P t 1 bn Dn okB:=fun H e W base spare held fuel cs x h => by
  obtain ⟨n, rfl, rfl, hw⟩:=DataW.trod_int ht h
  refine ⟨n, ?_, by simp [Dn, Go.Proofs.Ytdmlaldifbmkpaa.Rows.uptoBulk], rfl, rfl, one1 (q:=.sc (.int .u8 n)) rfl (.sc rfl)⟩
  simp [Lit.wf, IntKind.min, IntKind.max, IntKind.signed, IntKind.bits] at hw
  exact ⟨by omega, by omega⟩
theorem jH.aDw {W:World} {l:List Int} {v:Value} (h:jH W yh (sK W) (.xs false (l.map bn)) v):jH W (sK W) (sK W) (.xs true (l.map bn)) v:=by
  generalize hE:l.map bn = E at h
  cases h with
  | emp => exact .emp
  | xs val hn hb hc hs hv hr =>
    refine .xs val hn hb hc hs hv fun j k cs p hj hk => ?_
    have h1:=hr j k cs p hj hk
    subst hE
    obtain ⟨x, hx, rfl⟩:=List.mem_map.mp (List.mem_of_getElem? hj)
    cases k with
    | zero =>
      cases hk
      revert h1
      generalize val j 0 = u
      intro h1
      cases h1 with | sc h => exact .sc h
    | succ k => cases hk
theorem Fn.aDx {P:Program} {f:FuncId} {l:List Int} (hf:Fw.Fn P f [.c (xT bn l)] [] (.s (.c (bC true))) [] [] []) {W:World} {v:Value} (ha:RS P W yh (sK W) EP (.c (xF bn l)) v):Calls P f #[v] W fun e W' => e = .returned (.bool true) ∧ Below W.heap.size W W':=by
  have ha':RS P W (sK W) (sK W) EP (.c (xT bn l)) v:=⟨ha.1, jH.aDw ha.2⟩
  have hw:WF (sK W) (sK W) EP W:=⟨fun b hb => hb, fun b hb => hb, fun n b hg => hg.elim, fun n m b hg => hg.elim, fun n j k b h => (by cases h)⟩
  have:=hf (sK W) (sK W) EP W [v] hw rfl (fun k x hk => by cases k with | zero => cases hk; exact ⟨v, rfl, ha'⟩ | succ k => cases hk) (fun p hp => by cases hp)
  refine this.mono fun e W' hp => ?_
  obtain ⟨u, R', B', g', rfl, had, _, hv, _⟩:=hp
  have hu:u = .bool true:=by
    obtain ⟨_, h3⟩:=hv
    cases h3
    rfl
  subst hu
  exact ⟨rfl, had.os, had.tape, had.output, had.size, fun k hk => had.heap k hk fun n hn => by cases hn⟩
end Go.Proofs.Ytdmlaldifbmkpaa
end
