/- Parts of a proof that a law of the program holds: what the program computes, and why that is right. -/
import Derived.Test.YtdmlaldifbmkpaaGreatZFnSpecial5
set_option linter.unusedVariables false
set_option linter.unusedSimpArgs false
set_option linter.unnecessarySimpa false
set_option maxRecDepth 100000
set_option maxHeartbeats 8000000
section
open Go Go.Fw
namespace Go.Proofs.YtdmlaldifbmkpaaGreat
theorem aEK (m:(List (List Int))) (columns:Int):FT Tryz.prog (JB m columns) 181 [.c (xF (dQ false) m),.c (iC columns)] [] (fun (t:((List (List Int)) × (List Int) × Int)) => [.c (lo 0 t.1.length),.c (lo 2 t.2.1.length),.c (iC t.2.2)]) (fun (t:((List (List Int)) × (List Int) × Int)) => [(0,.bZ 28 1 (bK t.1)),(1,.pool 3 (rowsOf aF t.1)),(2,pR 3 aF t.2.1)]) [0,1,2]:=by
 refine FT.of [] Tryz.func181 Tryz.ntmps181 Q y2 ?_
 intro w0 U0 R0 g0
 unfold JB
 refine Ws (Wr ?_)
 refine aI (Cc (sC aJ)) aZ (aI (Cc (sC aJ)) aZ (aI (Iv 0) aZ (On (Ws (Wr ?_)))))
 refine aG (Cc (xF (dQ false) m)) y4 (aP fun r1 hr1 => (aO.step (cZ [.c (xF (dQ false) m)] (Fw.Fn.ren [(0,22),(1,23)] (aMR m r1 hr1) Q) aFm (kQ Q) J y3) z2 J Q Q (aI (Cc (lo 22 r1.length)) y4 (On (Ws (Wr ?_))))))
 refine l7 (iO 24 aF [] [] dS iH y7) Q Q (aI (Cc (lo 24 (([]:List Int).length))) y4 (On (Ws ?_)))
 refine en [(1,Iv columns),(7,Cc (lo 22 r1.length)),(8,Cc (lo 24 (([]:List Int).length)))] [(22,.bZ 28 23 (bK r1)),(23,.pool 3 (rowsOf aF r1)),(24,pR 3 aF ([]:List Int))] z3 z3 (Wr (aI (Iv 1) aZ (On (Ws (Ws (Wr ?_))))))
 refine aI (Iv 0) aZ (On (aA.block ?_))
 refine aA.jI (id:=0) (Di columns) (fun s2 => ([(1,Iv columns),(7,Cc (lo 22 s2.2.1.length)),(8,Cc (lo 24 s2.2.2.2.length)),(9,Iv s2.2.2.1),(10,Iv s2.1)],[(22,.bZ 28 23 (bK s2.2.1)),(23,.pool 3 (rowsOf aF s2.2.1)),(24,pR 3 aF s2.2.2.2)])) (fun nS => ([(7,Cc (lo 22 nS.2.1.length)),(8,Cc (lo 24 nS.2.2.length)),(9,Iv nS.1)],[(22,.bZ 28 23 (bK nS.2.1)),(23,.pool 3 (rowsOf aF nS.2.1)),(24,pR 3 aF nS.2.2)])) ?_ (aQ.of z5 z3) Q (fun nS _ => ?_)
 ·intro s2
  unfold Di
  refine Ws (Ws ?_)
  refine aA.eP (fun Rz => ([(1,Iv columns),(7,Cc (lo 22 s2.2.1.length)),(8,Cc (lo 24 s2.2.2.2.length)),(9,Iv s2.2.2.1),(10,Iv s2.1),(29,Bv Rz)],[(22,.bZ 28 23 (bK s2.2.1)),(23,.pool 3 (rowsOf aF s2.2.1)),(24,pR 3 aF s2.2.2.2)])) ?_ (fun Rz _ => ?_)
  ·refine Wr (aG (Iv s2.1) y4 (aG (Iv columns) y4 (af LT.lss y5 (aG (Bv (decide (s2.1 < columns))) y4 (aO.split (fun wO => ?_) (fun wO => ?_))))))
   ·refine eu (Cc (lo 24 s2.2.2.2.length)) wO y5 (aY (LT.lG Q dS) Q (gH wO Q Q) Q (eu (Cc (lo 22 s2.2.1.length)) wO y5 (aY (LT.lG Q kR) Q (gH wO Q Q) Q (iy LT.lss wO y6 (dJ (Bv (decide ((s2.2.2.2.length:Int) < (s2.2.1.length:Int)))) wO y5 (On (aX Q z6 z3)))))))
   ·refine aS wO y5 (aS wO y5 (aS wO y5 (aS wO y5 (aS wO y5 (eU (Bv false) wO aV (On (aX Q z6 z3)))))))
  ·refine aA.cond Q (fun aHC => ?_) (fun aHC => ?_)
   ·refine aA.skip (Ws (aA.block (Ws (Wr ?_))))
    refine aG (Cc (lo 24 s2.2.2.2.length)) y4 (aY (LT.lG Q dS) Q Q Q (aI (Iv (s2.2.2.2.length:Int)) y4 (On (Ws (Wr ?_)))))
    refine aG (Iv (s2.2.2.2.length:Int)) y4 (aI (Iv (s2.2.2.2.length:Int)) y4 (On (Ws (aA.block ?_))))
    refine aA.jI (id:=2) (JC s2) (fun xE => ([(1,Iv columns),(7,Cc (lo 22 s2.2.1.length)),(8,Cc (lo 24 s2.2.2.2.length)),(9,Iv s2.2.2.1),(10,Iv s2.1),(11,Iv (s2.2.2.2.length:Int)),(12,Iv xE)],[(22,.bZ 28 23 (bK s2.2.1)),(23,.pool 3 (rowsOf aF s2.2.1)),(24,pR 3 aF s2.2.2.2)])) (fun iV => ([(1,Iv columns),(7,Cc (lo 22 iV.2.2.2.2.1.length)),(8,Cc (lo 24 iV.2.2.2.2.2.length)),(9,Iv iV.1),(10,Iv iV.2.1),(11,Iv iV.2.2.1),(12,Iv iV.2.2.2.1)],[(22,.bZ 28 23 (bK iV.2.2.2.2.1)),(23,.pool 3 (rowsOf aF iV.2.2.2.2.1)),(24,pR 3 aF iV.2.2.2.2.2)])) ?_ (aQ.of z7 z3) Q (fun iV _ => ?_)
    ·intro xE
     unfold JC
     refine Ws (Ws ?_)
     refine aA.eP (fun SB => ([(1,Iv columns),(7,Cc (lo 22 s2.2.1.length)),(8,Cc (lo 24 s2.2.2.2.length)),(9,Iv s2.2.2.1),(10,Iv s2.1),(11,Iv (s2.2.2.2.length:Int)),(12,Iv xE),(48,Bv SB)],[(22,.bZ 28 23 (bK s2.2.1)),(23,.pool 3 (rowsOf aF s2.2.1)),(24,pR 3 aF s2.2.2.2)])) ?_ (fun SB _ => ?_)
     ·refine Wr (aG (Iv xE) y4 (aG (Cc (lo 22 s2.2.1.length)) y4 (aY (LT.lG Q kR) Q Q Q (af LT.lss y5 (aG (Bv (decide (xE < (s2.2.1.length:Int)))) y4 (aO.split (fun rP => ?_) (fun rP => ?_)))))))
      ·refine eu (Cc (lo 22 s2.2.1.length)) rP y5 (eu (Iv xE) rP y5 (aP fun LP Hz => (iq (LT.xH Q Q l9 Hz) Q Q Q (gH rP Q Q) Q (bM (LT.zB Q fF Hz Q) Q Q (gH rP Q Q) Q (eu (Iv s2.1) rP y5 (aP fun Yv aBL => (iq (LT.EI Q Q dU (nJ Hz) aBL) Q Q Q (gH rP Q Q) Q (bM (LT.Gf (enc:=aF) (j:=0) Q ak (nJ Hz) aBL (by exact Q) (by exact Q)) Q Q (gH rP Q Q) Q (iy LT.eql rP kD (dJ (Bv (Yv == 0)) rP y5 (On ?_)))))))))))
       refine aX Q z8 z3
      ·refine aS rP y5 (aS rP y5 (aS rP y5 (aS rP y5 (aS rP y5 (aS rP y5 (aS rP y5 (aS rP y5 (eU (Bv false) rP aV (On (aX Q z8 z3))))))))))
     ·refine aA.cond Q (fun Vx => ?_) (fun Vx => ?_)
      ·refine aA.skip (aA.block (Wr ?_))
       refine aG (Iv xE) y4 (af LT.add aV (aI (Iv (aB (xE + 1))) y4 (On (aA.blk ?_))))
       refine aX Q z7 z3
      ·refine fV y2 z7 z3
    ·refine Ws (Ws (Wr ?_))
     refine aG (Iv iV.2.2.2.1) y4 (aG (Cc (lo 22 iV.2.2.2.2.1.length)) y4 (aY (LT.lG Q kR) Q Q Q (af LT.eql y5 (On (aA.cond Q (fun aHD => ?_) (fun aHD => ?_))))))
     ·refine aA.exit Q (Wr ?_)
      refine aG (Iv iV.2.1) y4 (af LT.add aV (aI (Iv (aB (iV.2.1 + 1))) y4 (On (aX Q z5 z3))))
     ·refine aA.skip (Ws (aA.draw mixed ?_))
      refine bJ (Cc (lo 22 iV.2.2.2.2.1.length)) y4 (bJ (Iv iV.2.2.1) y4 (bJ (Cc (lo 22 iV.2.2.2.2.1.length)) y4 (bJ (Iv iV.2.2.2.1) y4 (bJ (Cc (lo 22 iV.2.2.2.2.1.length)) y4 (bJ (Iv iV.2.2.2.1) y4 (aU.bind fun pU yX => (jV (LT.xH Q Q l9 yX) Q Q Q Q Q (gq (LT.zB Q fF yX Q) Q Q Q Q (bJ (Cc (lo 22 iV.2.2.2.2.1.length)) y4 (bJ (Iv iV.2.2.1) y4 (aU.bind fun AY BI => ?_)))))))))))
      refine jV (LT.xH Q Q l9 BI) Q Q Q Q Q (gq (LT.zB Q fF BI Q) Q Q Q Q (aU.bind fun yE zX => (jV (LT.xH Q Q l9 zX) Q Q Q Q Q (kJ (LT.aEq (e:=28) (p:=23) Q Q (gm wW) uQ zX Q) Q Q Q Q Q (aU.bind fun vw E8 => (jV (LT.aEp Q Q l9 E8) Q Q Q Q Q (kJ (LT.aNK (e:=28) (p:=23) Q Q (gm wW) uQ E8 Q) Q Q Q Q Q (fA (aA.ent (aQ.aLm (enc:=aF) (n:=22) (p:=23) (rows:=iV.2.2.2.2.1) (nJ BI) (nJ yX) Q Q Q) (Ws (Wr ?_)))))))))))
      refine aG (Cc (lo 22 iV.2.2.2.2.1.length)) y4 (aG (Iv iV.2.2.1) y4 (aP fun aEk RU => (iq (LT.xH (show iV.2.2.2.2.1.length = ((iV.2.2.2.2.1.set iV.2.2.1.toNat pU).set iV.2.2.2.1.toNat AY).length by simp only [List.length_set]) Q l9 RU) Q Q Q Q Q (bM (LT.zB Q fF RU Q) Q Q Q Q (aG (Iv iV.2.1) y4 (aP fun QD Nh => (iq (LT.EI Q Q dU (nJ RU) Nh) Q Q Q Q Q (bM (LT.Gf (enc:=aF) (j:=0) Q ak (nJ RU) Nh (by exact Q) (by exact Q)) Q Q Q Q (aI (Iv QD) y4 (On (Ws (Ws (Wr ?_)))))))))))))
      refine aG (Cc (lo 22 iV.2.2.2.2.1.length)) y4 (aY (LT.lG Q kR) Q Q Q (aG (Iv 0) aZ (On (aA.block ?_))))
      refine aA.jI (id:=4) (FO columns) (fun dW => ([(1,Iv columns),(7,Cc (lo 22 dW.2.2.2.2.2.2.2.length)),(8,Cc (lo 24 dW.2.2.2.2.2.2.1.length)),(9,Iv dW.2.1),(10,Iv dW.2.2.1),(11,Iv dW.2.2.2.1),(13,Iv dW.2.2.2.2.1),(77,Iv dW.2.2.2.2.2.1),(78,Iv dW.1)],[(22,.bZ 28 23 (bK dW.2.2.2.2.2.2.2)),(23,.pool 3 (rowsOf aF dW.2.2.2.2.2.2.2)),(24,pR 3 aF dW.2.2.2.2.2.2.1)])) (fun lW => ([(1,Iv columns),(7,Cc (lo 22 lW.2.2.1.length)),(8,Cc (lo 24 lW.2.2.2.length)),(10,Iv lW.1),(13,Iv lW.2.1)],[(22,.bZ 28 23 (bK lW.2.2.1)),(23,.pool 3 (rowsOf aF lW.2.2.1)),(24,pR 3 aF lW.2.2.2)])) ?_ (aQ.of ⟨Q,congrArg (fun l1 => (some (AV.s (.c (lo 22 l1))):Option AV)) (show iV.2.2.2.2.1.length = ((iV.2.2.2.2.1.set iV.2.2.1.toNat pU).set iV.2.2.2.1.toNat AY).length by simp only [List.length_set]),Q,Q,Q,Q,Q,Q,Q,J⟩ z3) Q (fun lW _ => ?_)
      ·intro dW
       unfold FO
       refine Ws (Wr ?_)
       refine af LT.lss y5 (On (Ws ?_))
       refine aA.cond Q (fun Vy => ?_) (fun Vy => ?_)
       ·refine aA.skip (Ws (aA.block (Ws (Wr ?_))))
        refine aG (Iv dW.1) y4 (aI (Iv dW.1) y4 (On (Ws (Ws (Wr ?_)))))
        refine aG (Iv dW.1) y4 (aG (Iv dW.2.2.2.1) y4 (af LT.eql y5 (On (aA.cond Q (fun aHJ => ?_) (fun aHJ => ?_)))))
        ·refine aA.exit Q (Wr ?_)
         refine af LT.add aV (aG (Iv (aB (dW.1 + 1))) y4 (On (aX Q z9 z3)))
        ·refine aA.skip (Ws (Wr ?_))
         refine aG (Cc (lo 22 dW.2.2.2.2.2.2.2.length)) y4 (aG (Iv dW.1) y4 (aP fun aEm RV => (iq (LT.xH Q Q l9 RV) Q Q Q Q Q (bM (LT.zB Q fF RV Q) Q Q Q Q (aG (Iv dW.2.2.1) y4 (aP fun sV Nj => (iq (LT.EI Q Q dU (nJ RV) Nj) Q Q Q Q Q (bM (LT.Gf (enc:=aF) (j:=0) Q ak (nJ RV) Nj (by exact Q) (by exact Q)) Q Q Q Q (aI (Iv sV) y4 (On (Ws ?_)))))))))))
         refine en [(1,Iv columns),(7,Cc (lo 22 dW.2.2.2.2.2.2.2.length)),(8,Cc (lo 24 dW.2.2.2.2.2.2.1.length)),(9,Iv dW.2.1),(10,Iv dW.2.2.1),(11,Iv dW.2.2.2.1),(13,Iv dW.2.2.2.2.1),(14,Iv dW.1),(15,Iv sV),(77,Iv dW.2.2.2.2.2.1),(78,Iv dW.1)] [(22,.bZ 28 23 (bK dW.2.2.2.2.2.2.2)),(23,.pool 3 (rowsOf aF dW.2.2.2.2.2.2.2)),(24,pR 3 aF dW.2.2.2.2.2.2.1)] z11 z3 (Wr (aG (Iv columns) y4 (aG (Iv 0) aZ (On (aA.block ?_)))))
         refine aA.jI (id:=6) (JD columns dW sV) (fun lS => ([(1,Iv columns),(7,Cc (lo 22 lS.2.length)),(8,Cc (lo 24 dW.2.2.2.2.2.2.1.length)),(9,Iv dW.2.1),(10,Iv dW.2.2.1),(11,Iv dW.2.2.2.1),(13,Iv dW.2.2.2.2.1),(14,Iv dW.1),(15,Iv sV),(77,Iv dW.2.2.2.2.2.1),(78,Iv dW.1),(91,Iv columns),(92,Iv lS.1)],[(22,.bZ 28 23 (bK lS.2)),(23,.pool 3 (rowsOf aF lS.2)),(24,pR 3 aF dW.2.2.2.2.2.2.1)])) (fun qK => ([(1,Iv columns),(7,Cc (lo 22 qK.2.2.2.2.2.2.1.length)),(8,Cc (lo 24 qK.2.2.2.2.2.2.2.length)),(9,Iv qK.1),(10,Iv qK.2.1),(11,Iv qK.2.2.1),(13,Iv qK.2.2.2.1),(77,Iv qK.2.2.2.2.1),(78,Iv qK.2.2.2.2.2.1)],[(22,.bZ 28 23 (bK qK.2.2.2.2.2.2.1)),(23,.pool 3 (rowsOf aF qK.2.2.2.2.2.2.1)),(24,pR 3 aF qK.2.2.2.2.2.2.2)])) ?_ (aQ.of z13 z3) Q (fun qK _ => ?_)
         ·intro lS
          unfold JD
          refine Ws (Wr ?_)
          refine af LT.lss y5 (On (Ws ?_))
          refine aA.cond Q (fun aHK => ?_) (fun aHK => ?_)
          ·refine aA.skip (Ws (aA.block (Ws (Wr ?_))))
           refine aG (Iv lS.1) y4 (aI (Iv lS.1) y4 (On (aA.draw mixed ?_)))
           refine bJ (Cc (lo 22 lS.2.length)) y4 (bJ (Iv dW.1) y4 (aU.bind fun Gj Nk => (jV (LT.xH Q Q l9 Nk) Q Q Q Q Q (gq (LT.zB Q fF Nk Q) Q Q Q Q (bJ (Iv lS.1) y4 (bJ (Iv dW.2.2.2.2.1) y4 (bJ (Cc (lo 22 lS.2.length)) y4 (bJ (Iv dW.1) y4 (aU.bind fun aEn RX => (jV (LT.xH Q Q l9 RX) Q Q Q Q Q (gq (LT.zB Q fF RX Q) Q Q Q Q ?_)))))))))))
           refine bJ (Iv lS.1) y4 (aU.bind fun EL aBV => (jV (LT.EI Q Q dU (nJ RX) aBV) Q Q Q Q Q (gq (LT.Gf (enc:=aF) (j:=0) Q ak (nJ RX) aBV (by exact Q) (by exact Q)) Q Q Q Q (jJ LT.mul y5 (bJ (Iv sV) y4 (bJ (Cc (lo 22 lS.2.length)) y4 (bJ (Iv dW.2.2.2.1) y4 (aU.bind fun aEo RZ => (jV (LT.xH Q Q l9 RZ) Q Q Q Q Q (gq (LT.zB Q fF RZ Q) Q Q Q Q (bJ (Iv lS.1) y4 ?_)))))))))))
           refine aU.bind fun EM aBW => (jV (LT.EI Q Q dU (nJ RZ) aBW) Q Q Q Q Q (gq (LT.Gf (enc:=aF) (j:=0) Q ak (nJ RZ) aBW (by exact Q) (by exact Q)) Q Q Q Q (jJ LT.mul y5 (jJ LT.sub y5 (bJ (Iv dW.2.1) y4 (aU.bind fun aL3 aIi => (dZ (LT.quo Q (wo aIi)) Q Q Q Q (aU.bind fun aNH aBX => (jV (LT.EI Q Q dU (nJ Nk) aBX) Q Q Q Q Q (kJ (LT.aLk (enc:=aF) (j:=0) (b':=(aB (Int.tdiv (aB ((aB (dW.2.2.2.2.1 * EL)) - (aB (sV * EM)))) dW.2.1))) (v:=(.int .i64 (aB (Int.tdiv (aB ((aB (dW.2.2.2.2.1 * EL)) - (aB (sV * EM)))) dW.2.1)))) 25 Q Q (gm mJ) gI Q (nJ Nk) aBX (by exact Q) (by exact K Q) (by exact Q) Q) Q Q Q Q Q (fA ?_)))))))))))
           refine aA.ent (aQ.lens (n:=22) (aJp (r':=(Gj.set lS.1.toNat (aB (Int.tdiv (aB ((aB (dW.2.2.2.2.1 * EL)) - (aB (sV * EM)))) dW.2.1)))) (nJ Nk) (List.length_set ..)) Q) (aA.blk (en [(1,Iv columns),(7,Cc (lo 22 lS.2.length)),(8,Cc (lo 24 dW.2.2.2.2.2.2.1.length)),(9,Iv dW.2.1),(10,Iv dW.2.2.1),(11,Iv dW.2.2.2.1),(13,Iv dW.2.2.2.2.1),(14,Iv dW.1),(15,Iv sV),(77,Iv dW.2.2.2.2.2.1),(78,Iv dW.1),(91,Iv columns),(92,Iv lS.1)] [(22,.bZ 28 23 (bK (lS.2.set dW.1.toNat (Gj.set lS.1.toNat (aB (Int.tdiv (aB ((aB (dW.2.2.2.2.1 * EL)) - (aB (sV * EM)))) dW.2.1)))))),(23,.pool 3 (rowsOf aF (lS.2.set dW.1.toNat (Gj.set lS.1.toNat (aB (Int.tdiv (aB ((aB (dW.2.2.2.2.1 * EL)) - (aB (sV * EM)))) dW.2.1)))))),(24,pR 3 aF dW.2.2.2.2.2.2.1)] z13 z3 (Wr (af LT.add aV (aG (Iv (aB (lS.1 + 1))) y4 (On (aA.nil ⟨Q,aQ.of ⟨Q,congrArg (fun l1 => (some (AV.s (.c (lo 22 l1))):Option AV)) (show lS.2.length = (lS.2.set dW.1.toNat (Gj.set lS.1.toNat (aB (Int.tdiv (aB ((aB (dW.2.2.2.2.1 * EL)) - (aB (sV * EM)))) dW.2.1)))).length by simp only [List.length_set]),Q,Q,Q,Q,Q,Q,Q,Q,Q,Q,Q,J⟩ z3⟩)))))))
          ·refine fV y2 z9 z3
         ·refine aA.blk (Wr ?_)
          refine af LT.add aV (aG (Iv (aB (qK.2.2.2.2.2.1 + 1))) y4 (On (aX Q z9 z3)))
       ·refine fV y2 z5 z3
      ·refine Ws (Wr ?_)
       refine aG (Cc (lo 24 lW.2.2.2.length)) y4 (aG (Iv lW.1) y4 (nP (iO 26 aF [(0,.tmp 125,.c (iC lW.1))] ([lW.1]:List Int) dS iH y7) Q Q Q (aP fun aL4 aIj => (ny (LT.nZ (enc:=aF) Q Q Q dS iH Q (by decide) (by decide) (fun _ => Q) (jo aIj)) Q Q Q Q Q Q (aI (Cc (lo 24 ((lW.2.2.2 ++ ([lW.1]:List Int)).length))) y4 (On (Wr ?_)))))))
       refine aG (Iv lW.2.1) y4 (aI (Iv lW.2.1) y4 (On (aA.blk ?_)))
       refine en [(1,Iv columns),(7,Cc (lo 22 lW.2.2.1.length)),(8,Cc (lo 24 ((lW.2.2.2 ++ ([lW.1]:List Int)).length))),(9,Iv lW.2.1),(10,Iv lW.1)] [(22,.bZ 28 23 (bK lW.2.2.1)),(23,.pool 3 (rowsOf aF lW.2.2.1)),(24,pR 3 aF (lW.2.2.2 ++ ([lW.1]:List Int)))] z5 z3 (Wr (aG (Iv lW.1) y4 (af LT.add aV (aI (Iv (aB (lW.1 + 1))) y4 (On (aX Q z5 z3))))))
   ·refine fV y2 z3 z3
 ·refine Ws (Wr ?_)
  refine aG (Cc (lo 22 nS.2.1.length)) y4 (aG (Cc (lo 24 nS.2.2.length)) y4 (aG (Iv nS.1) y4 (aI (Cc (lo 22 nS.2.1.length)) y4 (aI (Cc (lo 24 nS.2.2.length)) y4 (aI (Iv nS.1) y4 (On (en [(4,Cc (lo 22 nS.2.1.length)),(5,Cc (lo 24 nS.2.2.length)),(6,Iv nS.1)] [(22,.bZ 28 23 (bK nS.2.1)),(23,.pool 3 (rowsOf aF nS.2.1)),(24,pR 3 aF nS.2.2)] z3 z3 (aA.ent (aQ.mv 22 0 Q Q) (aA.ent (aQ.mv 24 2 Q Q) (aA.ent (aQ.mv 23 1 Q Q) (en [(4,Cc (lo 0 nS.2.1.length)),(5,Cc (lo 2 nS.2.2.length)),(6,Iv nS.1)] [(0,.bZ 28 1 (bK nS.2.1)),(1,.pool 3 (rowsOf aF nS.2.1)),(2,pR 3 aF nS.2.2)] z3 z3 ?_)))))))))))
  refine bP z3 z3 ⟨J,J,ah.sc,J⟩ ⟨J,bD.Bo dw _,bD.bf dw,J⟩
theorem Yl (x:Int):FT Tryz.prog (FM x) 206 [.c (iC x)] [] (fun (t:Bool) => [.c (bC t)]) (fun (t:Bool) => []) []:=by
 refine FT.of [] Tryz.func206 Tryz.ntmps206 Q y2 ?_
 intro w0 U0 R0 g0
 unfold FM
 refine Ws (Wr ?_)
 refine aI (Bv false) aZ (On (Ws ?_))
 refine aA.eP (fun j2 => ([(2,Bv j2)],[])) ?_ (fun j2 _ => ?_)
 ·refine Wr (aG (Iv x) y4 (af LT.gtr aV (aG (Bv (decide (9000000000000000000 < x))) y4 (aO.split (fun hb3 => ?_) (fun hb3 => ?_)))))
  ·refine aS hb3 y5 (aS hb3 y5 (dJ (Bv true) hb3 aV (aI (Bv true) y4 (On (aX Q z1 J)))))
  ·refine eu (Iv x) hb3 y5 (iy LT.lss hb3 kD (eU (Bv (decide (x < (-9000000000000000000)))) hb3 y5 (aI (Bv (decide (x < (-9000000000000000000)))) y4 (On (aX Q z1 J)))))
 ·refine bP z1 J ⟨ah.sc,J⟩ J
theorem aMG (a:Int) (b:Int):FT Tryz.prog (N8 a b) 207 [.c (iC a),.c (iC b)] [] (fun (t:Int) => [.c (iC t)]) (fun (t:Int) => []) []:=by
 refine FT.of [] Tryz.func207 Tryz.ntmps207 Q y2 ?_
 intro w0 U0 R0 g0
 unfold N8
 refine Ws (Wr ?_)
 refine aI (Iv 0) aZ (On (Ws (Ws ?_)))
 refine aA.eP (fun j4 => ([(0,Iv a),(1,Iv b),(10,Bv j4)],[])) ?_ (fun j4 _ => ?_)
 ·refine Wr (aG (Iv a) y4 (aP fun r5 mG => (jD [.c (iC a)] (Yl a r5 mG) U3 (kQ Q) y5 z2 (aG (Bv r5) y4 (aO.split (fun hb6 => ?_) (fun hb6 => ?_))))))
  ·refine aS hb6 y5 (aS hb6 y5 (dJ (Bv true) hb6 aV (On (aX Q z3 J))))
  ·refine eu (Iv b) hb6 y5 (aP fun r7 oI => (aO.pure (cZ [.c (iC b)] (Yl b r7 oI) U3 (kQ Q) J y3) z2 J (gH hb6 Q Q) Q (eU (Bv r7) hb6 y5 (On (aX Q z3 J)))))
 ·refine aA.cond Q (fun hc8 => ?_) (fun hc8 => ?_)
  ·refine Ws (Wr ?_)
   refine aI (Iv 0) aZ (On (bP z1 J ⟨ah.sc,J⟩ J))
  ·refine aA.skip (Ws (Wr ?_))
   refine aG (Iv a) y4 (aG (Iv a) y4 (aY (LT.neg Q) Q Q Q (af LT.max y5 (aG (Iv b) y4 (aG (Iv b) y4 (aY (LT.neg Q) Q Q Q (af LT.max y5 (aI (Iv (if a < (aB (-a)) then (aB (-a)) else a)) y4 (aI (Iv (if b < (aB (-b)) then (aB (-b)) else b)) y4 (On (Ws (aA.block ?_))))))))))))
   refine aA.jI (id:=0) N9 (fun s9 => ([(0,Iv s9.1),(1,Iv s9.2)],[])) (fun b14 => ([(0,Iv b14)],[])) ?_ (aQ.of z2 J) Q (fun b14 _ => ?_)
   ·intro s9
    unfold N9
    refine Ws (Ws (Wr ?_))
    refine aG (Iv s9.2) y4 (af LT.neq aV (On (aA.cond Q (fun Az => ?_) (fun Az => ?_))))
    ·refine aA.skip (aA.block (aA.draw mixed ?_))
     refine bJ (Iv s9.2) y4 (bJ (Iv s9.1) y4 (bJ (Iv s9.2) y4 (aU.bind fun u16 NS => (dZ (LT.rem Q (wo NS)) Q Q Q Q (bg (LT.assign (v:=(Iv s9.2)) Q) Q Q Q (bg (LT.assign (v:=(Iv (Int.tmod s9.1 s9.2))) Q) Q Q Q (fA (aA.blk (aX Q z2 J)))))))))
    ·refine fV y2 z1 J
   ·refine Ws (Wr ?_)
    refine aG (Iv b14) y4 (aI (Iv b14) y4 (On (bP z1 J ⟨ah.sc,J⟩ J)))
theorem aML (v:(List Int)):FT Tryz.prog (OE v) 182 [.c (xF aF v)] [] (fun (t:(List Int)) => [.c (lo 0 t.length)]) (fun (t:(List Int)) => [(0,pR 3 aF t)]) [0]:=by
 refine FT.of [] Tryz.func182 Tryz.ntmps182 Q y2 ?_
 intro w0 U0 R0 g0
 unfold OE
 refine Ws (Wr ?_)
 refine aI (Cc (sC aJ)) aZ (On (Ws (Wr ?_)))
 refine aG (Cc (xF aF v)) y4 (aP fun r1 hr1 => (aO.step (cZ [.c (xF aF v)] (Fw.Fn.ren [(0,22)] (LG v r1 hr1) Q) G6 (kQ Q) J y3) z2 J Q Q (aI (Cc (lo 22 r1.length)) y4 (On (Ws (Wr ?_))))))
 refine aI (Iv 0) aZ (aI (Iv 0) aZ (On (Ws (Ws (Wr ?_)))))
 refine aG (Cc (xF aF v)) y4 (aY (LT.iI Q dS) Q Q Q (aG (Iv 0) aZ (On (aA.block ?_))))
 refine aA.oz (id:=0) (Ii v r1) (fun s2 => ([(3,Cc (lo 22 r1.length)),(4,Iv s2.1),(5,Iv s2.2.1),(11,Cc (xF aF v)),(12,Iv (v.length:Int)),(13,Iv s2.2.2)],[(22,pR 3 aF r1)])) (fun b19 => ([(3,Cc (lo 22 b19.2.2.length)),(4,Iv b19.1),(5,Iv b19.2.1)],[(22,pR 3 aF b19.2.2)])) (lU Tryz.prog Tryz.f182.results.toList [] [0] (fun (t:(List Int)) => [.c (lo 0 t.length)]) (fun (t:(List Int)) => [(0,pR 3 aF t)])) ?_ (aQ.of z6 z1) Q (fun b19 _ => ?_) qC
 ·intro s2
  unfold Ii
  refine Ws (Wr ?_)
  refine af LT.lss y5 (On (Ws ?_))
  refine aA.cond Q (fun A7 => ?_) (fun A7 => ?_)
  ·refine aA.skip (Ws (aA.block (Ws (Wr ?_))))
   refine aP fun x21 BJ => (dY (LT.eF (enc:=aF) Q dU BJ gI) Q Q Q Q (aY (LT.iw Q ak) Q Q Q (aI (Iv x21) y4 (On (Ws (Ws (Wr ?_)))))))
   refine aG (Iv x21) y4 (aP fun r22 NP => (jD [.c (iC x21)] (Yl x21 r22 NP) U3 (kQ Q) y5 z2 (On (aA.cond Q (fun MV => ?_) (fun MV => ?_)))))
   ·refine Ws (Wr ?_)
    refine aG (Cc (lo 22 r1.length)) y4 (aI (Cc (lo 22 r1.length)) y4 (On (en [(2,Cc (lo 22 r1.length))] [(22,pR 3 aF r1)] z1 z1 (aA.ent (aQ.mv 22 0 Q Q) (en [(2,Cc (lo 0 r1.length))] [(0,pR 3 aF r1)] z1 z1 (aA.ret ⟨Q,pX z1 z1 ⟨J,J⟩ ⟨bD.bf dw,J⟩⟩))))))
   ·refine aA.skip (Ws (Wr ?_))
    refine aG (Iv s2.1) y4 (aG (Iv x21) y4 (aP fun fH Ew => (jD [.c (iC s2.1),.c (iC x21)] (aMG s2.1 x21 fH Ew) aFn (iZ y2) y5 z3 (aI (Iv fH) y4 (On (Ws (Wr ?_)))))))
    refine aG (Iv s2.2.1) y4 (af LT.eql aV (On (aA.eP (fun j26 => ([(3,Cc (lo 22 r1.length)),(4,Iv fH),(5,Iv j26),(11,Cc (xF aF v)),(12,Iv (v.length:Int)),(13,Iv s2.2.2)],[(22,pR 3 aF r1)])) ?_ (fun j26 _ => ?_))))
    ·refine aA.cond Q (fun hc27 => ?_) (fun hc27 => ?_)
     ·refine en [(3,Cc (lo 22 r1.length)),(4,Iv fH),(7,Iv x21),(11,Cc (xF aF v)),(12,Iv (v.length:Int)),(13,Iv s2.2.2)] [(22,pR 3 aF r1)] z6 z1 (Wr (aG (Iv x21) y4 (aI (Iv x21) y4 (On (aX Q z6 z1)))))
     ·refine aA.skip (aX Q z6 z1)
    ·refine aA.blk (Wr ?_)
     refine af LT.add aV (aG (Iv (aB (s2.2.2 + 1))) y4 (On (aX Q z6 z1)))
  ·refine fV y2 z3 z1
 ·refine Ws (Ws (Wr ?_))
  refine aG (Iv b19.1) y4 (af LT.eql aV (On (aA.cond Q (fun hc28 => ?_) (fun hc28 => ?_))))
  ·refine Ws (Wr ?_)
   refine aG (Cc (lo 22 b19.2.2.length)) y4 (aI (Cc (lo 22 b19.2.2.length)) y4 (On (en [(2,Cc (lo 22 b19.2.2.length))] [(22,pR 3 aF b19.2.2)] z1 z1 (aA.ent (aQ.mv 22 0 Q Q) (en [(2,Cc (lo 0 b19.2.2.length))] [(0,pR 3 aF b19.2.2)] z1 z1 (bP z1 z1 ⟨J,J⟩ ⟨bD.bf dw,J⟩))))))
  ·refine aA.skip (Ws (Ws (Wr ?_)))
   refine aG (Iv b19.2.1) y4 (af LT.lss aV (On (aA.eP (fun j30 => ([(3,Cc (lo 22 b19.2.2.length)),(4,Iv j30)],[(22,pR 3 aF b19.2.2)])) ?_ (fun j30 _ => ?_))))
   ·refine aA.cond Q (fun hc31 => ?_) (fun hc31 => ?_)
    ·refine Wr (aG (Iv b19.1) y4 (aY (LT.neg Q) Q Q Q (aI (Iv (aB (-b19.1))) y4 (On (aX Q z2 z1)))))
    ·refine aA.skip (aX Q z2 z1)
   ·refine Ws (Ws (Wr ?_))
    refine aG (Cc (lo 22 b19.2.2.length)) y4 (aY (LT.lG Q dS) Q Q Q (aG (Iv 0) aZ (On (aA.block ?_))))
    refine aA.jI (id:=2) (Ij b19 j30) (fun gG => ([(3,Cc (lo 22 gG.2.length)),(4,Iv j30),(35,Iv (b19.2.2.length:Int)),(36,Iv gG.1)],[(22,pR 3 aF gG.2)])) (fun yJ => ([(3,Cc (lo 22 yJ.length))],[(22,pR 3 aF yJ)])) ?_ (aQ.of z4 z1) Q (fun yJ _ => ?_)
    ·intro gG
     unfold Ij
     refine Ws (Wr ?_)
     refine af LT.lss y5 (On (Ws ?_))
     refine aA.cond Q (fun V5 => ?_) (fun V5 => ?_)
     ·refine aA.skip (Ws (aA.block (Ws (Wr ?_))))
      refine aG (Iv gG.1) y4 (aI (Iv gG.1) y4 (On (Wr ?_)))
      refine aG (Cc (lo 22 gG.2.length)) y4 (aG (Iv gG.1) y4 (aG (Cc (lo 22 gG.2.length)) y4 (aG (Iv gG.1) y4 (aP fun x43 H7 => (iq (LT.fP Q Q dU H7) Q Q Q Q Q (bM (kC 0 Q ak H7) Q Q Q Q (aG (Iv j30) y4 (aP fun u44 NT => (dY (LT.quo Q (wo NT)) Q Q Q Q (aP fun kS H8 => (iq (LT.fP Q Q dU H8) Q Q Q Q Q ?_)))))))))))
      refine bQ (lq 0 (.c (iC (aB (Int.tdiv x43 j30)))) (aB (Int.tdiv x43 j30)) Q Q mJ gI H8) Q Q Q Q Q (On (aA.blk ?_))
      refine en [(3,Cc (lo 22 gG.2.length)),(4,Iv j30),(35,Iv (b19.2.2.length:Int)),(36,Iv gG.1)] [(22,pR 3 aF (gG.2.set gG.1.toNat (aB (Int.tdiv x43 j30))))] z4 z1 (Wr (af LT.add aV (aG (Iv (aB (gG.1 + 1))) y4 (On (aA.nil ⟨Q,aQ.of ⟨congrArg (fun l1 => (some (AV.s (.c (lo 22 l1))):Option AV)) (show gG.2.length = (gG.2.set gG.1.toNat (aB (Int.tdiv x43 j30))).length by simp only [List.length_set]),Q,Q,Q,J⟩ z1⟩)))))
     ·refine fV y2 z1 z1
    ·refine Ws (Wr ?_)
     refine aG (Cc (lo 22 yJ.length)) y4 (aI (Cc (lo 22 yJ.length)) y4 (On (en [(2,Cc (lo 22 yJ.length))] [(22,pR 3 aF yJ)] z1 z1 (aA.ent (aQ.mv 22 0 Q Q) (en [(2,Cc (lo 0 yJ.length))] [(0,pR 3 aF yJ)] z1 z1 (bP z1 z1 ⟨J,J⟩ ⟨bD.bf dw,J⟩))))))
theorem aMV (m:(List (List Int))) (columns:Int):FT Tryz.prog (OQ m columns) 150 [.c (xF (dQ false) m),.c (iC columns)] [] (fun (t:(List (List Int))) => [.c (lo 0 t.length)]) (fun (t:(List (List Int))) => [(0,.bZ 28 1 (bK t)),(1,.pool 3 (rowsOf aF t))]) [0,1]:=by
 refine FT.of [] Tryz.func150 Tryz.ntmps150 Q y2 ?_
 intro w0 U0 R0 g0
 unfold OQ
 refine Ws (Wr ?_)
 refine aI (Cc (sC aJ)) aZ (On (Ws (Wr ?_)))
 refine aG (Cc (xF (dQ false) m)) y4 (aG (Iv columns) y4 (aP fun r1 hr1 => (aO.step (cZ [.c (xF (dQ false) m),.c (iC columns)] (Fw.Fn.ren [(0,22),(1,23),(2,24)] (aEK m columns r1 hr1) Q) Zv (iZ y2) J y3) z3 J Q Q (aG (.dM [.c (lo 22 r1.1.length),.c (lo 24 r1.2.1.length),.c (iC r1.2.2)]) y4 (gy (.c (lo 22 r1.1.length)) y5 (gy (.c (lo 24 r1.2.1.length)) y5 (gy (.c (iC r1.2.2)) y5 (aI (Cc (lo 22 r1.1.length)) y4 (aI (Cc (lo 24 r1.2.1.length)) y4 (aI (Iv r1.2.2) y4 (On (Ws ?_))))))))))))
 refine en [(1,Iv columns),(5,Cc (lo 22 r1.1.length)),(6,Cc (lo 24 r1.2.1.length)),(7,Iv r1.2.2)] [(22,.bZ 28 23 (bK r1.1)),(23,.pool 3 (rowsOf aF r1.1)),(24,pR 3 aF r1.2.1)] z4 z3 (Wr (aG (Iv columns) y4 (aP fun u2 hu2 => (zD (LT.CP (n:=25) (enc:=aF) (zc:=[iC 0]) (0:Int) Q dS iH Q Q Q (by decide) (by decide) (zY hu2) Q) Q Q Q Q (aI (Cc (lo 25 ((List.replicate columns.toNat (0:Int)).length))) y4 (On (Ws (Ws (Wr ?_)))))))))
 refine aG (Cc (lo 25 ((List.replicate columns.toNat (0:Int)).length))) y4 (aY (LT.lG Q dS) Q Q Q (aG (Iv 0) aZ (On (aA.block ?_))))
 refine aA.jI (id:=0) (I4 columns r1) (fun s3 => ([(1,Iv columns),(5,Cc (lo 22 r1.1.length)),(6,Cc (lo 24 r1.2.1.length)),(7,Iv r1.2.2),(8,Cc (lo 25 s3.2.length)),(26,Iv ((List.replicate columns.toNat (0:Int)).length:Int)),(27,Iv s3.1)],[(22,.bZ 28 23 (bK r1.1)),(23,.pool 3 (rowsOf aF r1.1)),(24,pR 3 aF r1.2.1),(25,pR 3 aF s3.2)])) (fun b8 => ([(1,Iv columns),(5,Cc (lo 22 b8.2.1.length)),(6,Cc (lo 24 b8.2.2.1.length)),(7,Iv b8.1),(8,Cc (lo 25 b8.2.2.2.length))],[(22,.bZ 28 23 (bK b8.2.1)),(23,.pool 3 (rowsOf aF b8.2.1)),(24,pR 3 aF b8.2.2.1),(25,pR 3 aF b8.2.2.2)])) ?_ (aQ.of z7 z4) Q (fun b8 _ => ?_)
 ·intro s3
  unfold I4
  refine Ws (Wr ?_)
  refine af LT.lss y5 (On (Ws ?_))
  refine aA.cond Q (fun yV => ?_) (fun yV => ?_)
  ·refine aA.skip (Ws (aA.block (Ws (Wr ?_))))
   refine aG (Iv s3.1) y4 (aI (Iv s3.1) y4 (On (Wr ?_)))
   refine aG (Cc (lo 25 s3.2.length)) y4 (aG (Iv s3.1) y4 (aP fun x10 BH => (iq (LT.fP Q Q dU BH) Q Q Q Q Q (bQ (lq 0 (.c (iC (-1))) (-1) Q Q mJ gI BH) Q y2 Q Q Q (On (aA.blk (Wr ?_)))))))
   refine af LT.add aV (aG (Iv (aB (s3.1 + 1))) y4 (On (aA.nil ⟨Q,aQ.of ⟨Q,Q,Q,Q,congrArg (fun l1 => (some (AV.s (.c (lo 25 l1))):Option AV)) (show s3.2.length = (s3.2.set s3.1.toNat (-1)).length by simp only [List.length_set]),Q,Q,J⟩ z4⟩)))
  ·refine fV y2 z5 z4
 ·refine Ws (Ws (Wr ?_))
  refine aG (Cc (lo 24 b8.2.2.1.length)) y4 (aY (LT.lG Q dS) Q Q Q (aG (Iv 0) aZ (On (aA.block ?_))))
  refine aA.jI (id:=2) (I5 b8) (fun s11 => ([(1,Iv columns),(5,Cc (lo 22 b8.2.1.length)),(7,Iv b8.1),(8,Cc (lo 25 s11.2.length)),(34,Cc (lo 24 b8.2.2.1.length)),(35,Iv (b8.2.2.1.length:Int)),(36,Iv s11.1)],[(22,.bZ 28 23 (bK b8.2.1)),(23,.pool 3 (rowsOf aF b8.2.1)),(24,pR 3 aF b8.2.2.1),(25,pR 3 aF s11.2)])) (fun b18 => ([(1,Iv columns),(5,Cc (lo 22 b18.2.1.length)),(7,Iv b18.1),(8,Cc (lo 25 b18.2.2.length))],[(22,.bZ 28 23 (bK b18.2.1)),(23,.pool 3 (rowsOf aF b18.2.1)),(25,pR 3 aF b18.2.2)])) ?_ (aQ.of z7 z4) Q (fun b18 _ => ?_)
  ·intro s11
   unfold I5
   refine Ws (Wr ?_)
   refine af LT.lss y5 (On (Ws ?_))
   refine aA.cond Q (fun hc19 => ?_) (fun hc19 => ?_)
   ·refine aA.skip (Ws (aA.block (Ws (Wr ?_))))
    refine aG (Iv s11.1) y4 (aP fun x20 DL => (iq (LT.fP Q Q dU DL) Q Q Q Q Q (bM (kC 0 Q ak DL) Q Q Q Q (aI (Iv s11.1) y4 (aI (Iv x20) y4 (On (Wr ?_)))))))
    refine aG (Cc (lo 25 s11.2.length)) y4 (aG (Iv x20) y4 (aG (Iv s11.1) y4 (aP fun x21 BJ => (iq (LT.fP Q Q dU BJ) Q Q Q Q Q (bQ (lq 0 (.c (iC s11.1)) s11.1 Q Q mJ gI BJ) Q Q Q Q Q (On (aA.blk ?_)))))))
    refine en [(1,Iv columns),(5,Cc (lo 22 b8.2.1.length)),(7,Iv b8.1),(8,Cc (lo 25 s11.2.length)),(34,Cc (lo 24 b8.2.2.1.length)),(35,Iv (b8.2.2.1.length:Int)),(36,Iv s11.1)] [(22,.bZ 28 23 (bK b8.2.1)),(23,.pool 3 (rowsOf aF b8.2.1)),(24,pR 3 aF b8.2.2.1),(25,pR 3 aF (s11.2.set x20.toNat s11.1))] z7 z4 (Wr (af LT.add aV (aG (Iv (aB (s11.1 + 1))) y4 (On (aA.nil ⟨Q,aQ.of ⟨Q,Q,Q,congrArg (fun l1 => (some (AV.s (.c (lo 25 l1))):Option AV)) (show s11.2.length = (s11.2.set x20.toNat s11.1).length by simp only [List.length_set]),Q,Q,Q,J⟩ z4⟩)))))
   ·refine fV y2 z4 z3
  ·refine Ws (Wr ?_)
   refine l7 (LT.buildSlice (n:=26) (els:=[]) [] Q Q kR pK Q Q Q Q (by decide) Q Q) Q Q (aI (Cc (lo 26 0)) y4 (On (aA.ent (aQ.PZ 27 3 Q) (aA.ent (aQ.bZ (n:=26) (p:=27) (lens:=bK ([]:List (List Int))) (List.append_nil _) Q) (Ws (Ws (Wr ?_)))))))
   refine aG (Iv columns) y4 (aG (Iv 0) aZ (On (aA.block ?_)))
   refine aA.jI (id:=4) (I7 columns) (fun fJ => ([(1,Iv columns),(5,Cc (lo 22 fJ.2.2.2.1.length)),(7,Iv fJ.2.1),(8,Cc (lo 25 fJ.2.2.1.length)),(12,Cc (lo 26 fJ.2.2.2.2.length)),(47,Iv columns),(48,Iv fJ.1)],[(22,.bZ 28 23 (bK fJ.2.2.2.1)),(23,.pool 3 (rowsOf aF fJ.2.2.2.1)),(25,pR 3 aF fJ.2.2.1),(26,.bZ 28 27 (bK fJ.2.2.2.2)),(27,.pool 3 (rowsOf aF fJ.2.2.2.2))])) (fun sW => ([(12,Cc (lo 26 sW.length))],[(26,.bZ 28 27 (bK sW)),(27,.pool 3 (rowsOf aF sW))])) ?_ (aQ.of z7 z5) Q (fun sW _ => ?_)
   ·intro fJ
    unfold I7
    refine Ws (Wr ?_)
    refine af LT.lss y5 (On (Ws ?_))
    refine aA.cond Q (fun WA => ?_) (fun WA => ?_)
    ·refine aA.skip (Ws (aA.block (Ws (Wr ?_))))
     refine aG (Iv fJ.1) y4 (aI (Iv fJ.1) y4 (On (Ws (Ws (Wr ?_)))))
     refine aG (Cc (lo 25 fJ.2.2.1.length)) y4 (aG (Iv fJ.1) y4 (aP fun x95 hx95 => (iq (LT.fP Q Q dU hx95) Q Q Q Q Q (bM (kC 0 Q ak hx95) Q Q Q Q (af LT.geq aV (On (aA.cond Q (fun hc96 => ?_) (fun hc96 => ?_))))))))
     ·refine aA.exit Q (Wr ?_)
      refine af LT.add aV (aG (Iv (aB (fJ.1 + 1))) y4 (On (aX Q z7 z5)))
     ·refine aA.skip (Ws (Wr ?_))
      refine aG (Iv columns) y4 (aP fun u97 aIz => (zD (LT.CP (n:=28) (enc:=aF) (zc:=[iC 0]) (0:Int) Q dS iH Q Q Q (by decide) (by decide) (zY aIz) Q) Q Q Q Q (aI (Cc (lo 28 ((List.replicate columns.toNat (0:Int)).length))) y4 (On (Ws ?_)))))
      refine en [(1,Iv columns),(5,Cc (lo 22 fJ.2.2.2.1.length)),(7,Iv fJ.2.1),(8,Cc (lo 25 fJ.2.2.1.length)),(12,Cc (lo 26 fJ.2.2.2.2.length)),(13,Iv fJ.1),(14,Cc (lo 28 ((List.replicate columns.toNat (0:Int)).length))),(47,Iv columns),(48,Iv fJ.1)] [(22,.bZ 28 23 (bK fJ.2.2.2.1)),(23,.pool 3 (rowsOf aF fJ.2.2.2.1)),(25,pR 3 aF fJ.2.2.1),(26,.bZ 28 27 (bK fJ.2.2.2.2)),(27,.pool 3 (rowsOf aF fJ.2.2.2.2)),(28,pR 3 aF (List.replicate columns.toNat (0:Int)))] z9 z6 (Wr (aG (Cc (lo 28 ((List.replicate columns.toNat (0:Int)).length))) y4 (aG (Iv fJ.1) y4 (aG (Iv fJ.2.1) y4 (aP fun x98 hx98 => (iq (LT.fP Q Q dU hx98) Q Q Q Q Q (bQ (lq 0 (.c (iC fJ.2.1)) fJ.2.1 Q Q mJ gI hx98) Q Q Q Q Q (On (Ws (Ws (Wr ?_)))))))))))
      refine aG (Iv columns) y4 (aG (Iv 0) aZ (On (aA.block ?_)))
      refine aA.jI (id:=6) (I8 columns fJ) (fun oV => ([(1,Iv columns),(5,Cc (lo 22 fJ.2.2.2.1.length)),(7,Iv fJ.2.1),(8,Cc (lo 25 fJ.2.2.1.length)),(12,Cc (lo 26 fJ.2.2.2.2.length)),(13,Iv fJ.1),(14,Cc (lo 28 oV.2.length)),(47,Iv columns),(48,Iv fJ.1),(62,Iv columns),(63,Iv oV.1)],[(22,.bZ 28 23 (bK fJ.2.2.2.1)),(23,.pool 3 (rowsOf aF fJ.2.2.2.1)),(25,pR 3 aF fJ.2.2.1),(26,.bZ 28 27 (bK fJ.2.2.2.2)),(27,.pool 3 (rowsOf aF fJ.2.2.2.2)),(28,pR 3 aF oV.2)])) (fun mO => ([(1,Iv columns),(5,Cc (lo 22 mO.2.2.1.length)),(7,Iv mO.1),(8,Cc (lo 25 mO.2.2.2.1.length)),(12,Cc (lo 26 mO.2.2.2.2.1.length)),(14,Cc (lo 28 mO.2.2.2.2.2.length)),(47,Iv columns),(48,Iv mO.2.1)],[(22,.bZ 28 23 (bK mO.2.2.1)),(23,.pool 3 (rowsOf aF mO.2.2.1)),(25,pR 3 aF mO.2.2.2.1),(26,.bZ 28 27 (bK mO.2.2.2.2.1)),(27,.pool 3 (rowsOf aF mO.2.2.2.2.1)),(28,pR 3 aF mO.2.2.2.2.2)])) ?_ (aQ.of ⟨Q,Q,Q,Q,Q,Q,congrArg (fun l1 => (some (AV.s (.c (lo 28 l1))):Option AV)) (show (List.replicate columns.toNat (0:Int)).length = ((List.replicate columns.toNat (0:Int)).set fJ.1.toNat fJ.2.1).length by simp only [List.length_set]),Q,Q,Q,Q,J⟩ z6) Q (fun mO _ => ?_)
      ·intro oV
       unfold I8
       refine Ws (Wr ?_)
       refine af LT.lss y5 (On (Ws ?_))
       refine aA.cond Q (fun aG6 => ?_) (fun aG6 => ?_)
       ·refine aA.skip (Ws (aA.block (Ws (Wr ?_))))
        refine aG (Iv oV.1) y4 (aI (Iv oV.1) y4 (On (Ws (Wr ?_))))
        refine aG (Cc (lo 25 fJ.2.2.1.length)) y4 (aG (Iv oV.1) y4 (aP fun aEf hx128 => (iq (LT.fP Q Q dU hx128) Q Q Q Q Q (bM (kC 0 Q ak hx128) Q Q Q Q (af LT.geq aV (On (aA.eP (fun j134 => ([(1,Iv columns),(5,Cc (lo 22 fJ.2.2.2.1.length)),(7,Iv fJ.2.1),(8,Cc (lo 25 fJ.2.2.1.length)),(12,Cc (lo 26 fJ.2.2.2.2.length)),(13,Iv fJ.1),(14,Cc (lo 28 j134.length)),(47,Iv columns),(48,Iv fJ.1),(62,Iv columns),(63,Iv oV.1)],[(22,.bZ 28 23 (bK fJ.2.2.2.1)),(23,.pool 3 (rowsOf aF fJ.2.2.2.1)),(25,pR 3 aF fJ.2.2.1),(26,.bZ 28 27 (bK fJ.2.2.2.2)),(27,.pool 3 (rowsOf aF fJ.2.2.2.2)),(28,pR 3 aF j134)])) ?_ (fun j134 _ => ?_))))))))
        ·refine aA.cond Q (fun aG7 => ?_) (fun aG7 => ?_)
         ·refine Wr (aG (Cc (lo 28 oV.2.length)) y4 (aG (Iv oV.1) y4 (aG (Cc (lo 22 fJ.2.2.2.1.length)) y4 (aG (Cc (lo 25 fJ.2.2.1.length)) y4 (aG (Iv oV.1) y4 (aP fun qI Na => (iq (LT.fP Q Q dU Na) Q Q Q Q Q (bM (kC 0 Q ak Na) Q Q Q Q (aP fun QC Hy => (iq (LT.xH Q Q l9 Hy) Q Q Q Q Q (bM (LT.zB Q fF Hy Q) Q Q Q Q ?_)))))))))))
          refine aG (Iv fJ.1) y4 (aP fun y9 RN => (iq (LT.EI Q Q dU (nJ Hy) RN) Q Q Q Q Q (bM (LT.Gf (enc:=aF) (j:=0) Q ak (nJ Hy) RN (by exact Q) (by exact Q)) Q Q Q Q (aY (LT.neg Q) Q Q Q (aP fun aNB aBF => (iq (LT.fP Q Q dU aBF) Q Q Q Q Q (bQ (lq 0 (.c (iC (aB (-y9)))) (aB (-y9)) Q Q mJ gI aBF) Q Q Q Q Q (On (aA.nil ⟨Q,aQ.of ⟨Q,Q,Q,Q,Q,Q,congrArg (fun l1 => (some (AV.s (.c (lo 28 l1))):Option AV)) (show oV.2.length = (oV.2.set oV.1.toNat (aB (-y9))).length by simp only [List.length_set]),Q,Q,Q,Q,J⟩ z6⟩)))))))))
         ·refine aA.skip (aX Q z11 z6)
        ·refine aA.blk (Wr ?_)
         refine af LT.add aV (aG (Iv (aB (oV.1 + 1))) y4 (On (aX Q z11 z6)))
       ·refine fV y2 z8 z6
      ·refine Wr (aG (Cc (lo 26 mO.2.2.2.2.1.length)) y4 (aG (Cc (lo 28 mO.2.2.2.2.2.length)) y4 (aP fun D6 aHw => (aO.step (cF [.c (lo 28 mO.2.2.2.2.2.length)] [(28,pR 3 aF mO.2.2.2.2.2)] (Fw.Fn.ren [(0,30)] (aML mO.2.2.2.2.2 D6 aHw) Q) aFh (.cons (.c (.fC Q Q)) .nil) J y3) z2 z1 Q Q (nP (LT.buildSlice (n:=31) (els:=[[lo 30 D6.length]]) [(0,.tmp 88,.c (lo 30 D6.length))] Q Q kR pK Q Q Q Q (by decide) Q Q) Q Q Q (aP fun aLu aIW => (ny (LT.Uj Q Q Q kR pK Q (by decide) (by decide) Q (jo aIW)) Q Q Q Q Q Q (aI (Cc (lo 26 (mO.2.2.2.2.1.length + 1))) y4 (On (aA.ent (aQ.UM (enc:=aF) (n:=26) (m:=30) (p:=27) (rows:=mO.2.2.2.2.1) (r:=D6) (rest:=[]) Q Q Q Q Q Q) (aA.ent (aQ.bZ (n:=26) (p:=27) (lens:=bK (mO.2.2.2.2.1 ++ [D6])) (List.append_nil _) Q) ?_)))))))))))
       refine aA.blk (Wr ?_)
       refine af LT.add aV (aG (Iv (aB (mO.2.1 + 1))) y4 (On (aA.nil ⟨Q,aQ.of ⟨Q,Q,Q,Q,congrArg (fun l1 => (some (AV.s (.c (lo 26 l1))):Option AV)) (show (mO.2.2.2.2.1.length + 1) = (mO.2.2.2.2.1 ++ [D6]).length from SI),Q,Q,J⟩ z5⟩)))
    ·refine fV y2 z1 z2
   ·refine Ws (Wr ?_)
    refine aG (Cc (lo 26 sW.length)) y4 (aI (Cc (lo 26 sW.length)) y4 (On (en [(4,Cc (lo 26 sW.length))] [(26,.bZ 28 27 (bK sW)),(27,.pool 3 (rowsOf aF sW))] z1 z2 (aA.ent (aQ.mv 26 0 Q Q) (aA.ent (aQ.mv 27 1 Q Q) (en [(4,Cc (lo 0 sW.length))] [(0,.bZ 28 1 (bK sW)),(1,.pool 3 (rowsOf aF sW))] z1 z2 (bP z1 z2 ⟨J,J⟩ ⟨J,bD.Bo dw _,J⟩)))))))
theorem aMN (f:bF):FT Tryz.prog (OH f) 99 [.agg (bn f)] [] (fun (t:(List (List Int))) => [.c (lo 0 t.length)]) (fun (t:(List (List Int))) => [(0,.bZ 28 1 (bK t)),(1,.pool 3 (rowsOf aF t))]) [0,1]:=by
 refine FT.of [] Tryz.func99 Tryz.ntmps99 Q y2 ?_
 intro w0 U0 R0 g0
 unfold OH
 refine Ws (Wr ?_)
 refine iL 21 (.agg (bn f)) dB y5 (aI (Cc (sC aJ)) aZ (On (Ws (Ws ?_))))
 refine aA.eP (fun j3 => ([(1,Cc (.pl 21 0)),(12,Bv j3)],[(21,.row 46 [bn f])])) ?_ (fun j3 _ => ?_)
 ·refine Wr (bM (bV (bn f) Q gJ dR dB) Q Q Q Q (aP fun r4 hr4 => (jD [.agg (bn f)] (EK f r4 hr4) C9 (oL y3) y5 z2 (aY (LT.not Q) Q Q Q (aG (Bv (!r4)) y4 (aO.split (fun hb5 => ?_) (fun hb5 => ?_)))))))
  ·refine aS hb5 y5 (aS hb5 y5 (aS hb5 y5 (aS hb5 y5 (aS hb5 y5 (dJ (Bv true) hb5 aV (On (aX Q z2 z1)))))))
  ·refine aY (LT.gU Q lF) Q (gH hb5 Q Q) Q (kE (xF aK f.Graph.aC) gK iK hb5 iM (aY (LT.iI Q iU) Q (gH hb5 Q Q) Q (iy LT.eql hb5 kD (eU (Bv ((f.Graph.aC.length:Int) == 0)) hb5 y5 (On (aX Q z2 z1))))))
 ·refine aA.cond Q (fun hc6 => ?_) (fun hc6 => ?_)
  ·refine Ws (Wr ?_)
   refine l7 (LT.buildSlice (n:=23) (els:=[]) [] Q Q kR pK Q Q Q Q (by decide) Q Q) Q Q (aI (Cc (lo 23 0)) y4 (On (aA.ent (aQ.PZ 24 3 Q) (aA.ent (aQ.bZ (n:=23) (p:=24) (lens:=bK ([]:List (List Int))) (List.append_nil _) Q) (en [(2,Cc (lo 23 0))] [(23,.bZ 28 24 (bK ([]:List (List Int)))),(24,.pool 3 (rowsOf aF ([]:List (List Int))))] z1 z2 (aA.ent (aQ.mv 23 0 Q Q) (aA.ent (aQ.mv 24 1 Q Q) (en [(2,Cc (lo 0 (([]:List (List Int)).length)))] [(0,.bZ 28 1 (bK ([]:List (List Int)))),(1,.pool 3 (rowsOf aF ([]:List (List Int))))] z1 z2 (bP z1 z2 ⟨J,J⟩ ⟨J,bD.Bo dw _,J⟩)))))))))
  ·refine aA.skip (Ws (aA.draw mixed ?_))
   refine gq (bV (bn f) Q gJ dR dB) Q Q Q Q (aU.bind fun r7 oI => (aU.step (cZ [.agg (bn f)] (Fw.Fn.ren [(0,26),(1,27)] (aEF f r7 oI) Q) Zk (oL y3) J y3) z2 J Q Q (bg (LT.gU Q lF) Q Q Q (eH (iC f.Graph.aH) kV ak ax (jJ LT.mul qH (aU.bind fun r8 tJ => (aU.step (cF [.c (lo 26 r7.length),.c (iC (aB (2 * f.Graph.aH)))] [(26,.bZ 28 27 (bK r7)),(27,.pool 3 (rowsOf aF r7))] (Fw.Fn.ren [(0,29),(1,30)] (aMZ r7 (aB (2 * f.Graph.aH)) r8 tJ) Q) aFW (.cons (.c (.UQ Q Q Q (fun _ => Q))) (.cons (.c (.same Q)) .nil)) J y3) z3 z2 Q Q (bg (LT.gU Q lF) Q Q Q (eH (xF aK f.Graph.aC) gK iK ax ?_)))))))))
   refine bg (LT.iI Q iU) Q Q Q (aU.bind fun r9 rX => (aU.step (cF [.c (lo 29 r8.length),.c (iC (f.Graph.aC.length:Int))] [(29,.bZ 28 30 (bK r8)),(30,.pool 3 (rowsOf aF r8))] (Fw.Fn.ren [(0,32),(1,33)] (aMV r8 (f.Graph.aC.length:Int) r9 rX) Q) aFV (.cons (.c (.UQ Q Q Q (fun _ => Q))) (.cons (.c (.same Q)) .nil)) J y3) z3 z2 Q Q (bg (LT.assign (v:=(Cc (lo 32 r9.length))) Q) Q Q Q (fA (en [(2,Cc (lo 32 r9.length))] [(32,.bZ 28 33 (bK r9)),(33,.pool 3 (rowsOf aF r9))] z1 z2 (aA.ent (aQ.mv 32 0 Q Q) (aA.ent (aQ.mv 33 1 Q Q) (en [(2,Cc (lo 0 r9.length))] [(0,.bZ 28 1 (bK r9)),(1,.pool 3 (rowsOf aF r9))] z1 z2 (bP z1 z2 ⟨J,J⟩ ⟨J,bD.Bo dw _,J⟩)))))))))
theorem aMO (v:(List Int)) (n:Int):FT Tryz.prog (OI v n) 161 [.c (xF aF v),.c (iC n)] [] (fun (t:Bool) => [.c (bC t)]) (fun (t:Bool) => []) []:=by
 refine FT.of [] Tryz.func161 Tryz.ntmps161 Q y2 ?_
 intro w0 U0 R0 g0
 unfold OI
 refine Ws (Wr ?_)
 refine aI (Bv false) aZ (On (Ws (Ws (Wr ?_))))
 refine aG (Cc (xF aF v)) y4 (aY (LT.iI Q dS) Q Q Q (aG (Iv 0) aZ (On (aA.block ?_))))
 refine aA.oz (id:=0) (Iu v) (fun s1 => ([(0,Cc (xF aF v)),(1,Iv n),(7,Cc (xF aF v)),(8,Iv (v.length:Int)),(9,Iv s1)],[])) (fun b10 => ([(0,Cc (xF aF v)),(1,Iv n)],[])) (lU Tryz.prog Tryz.f161.results.toList [] [] (fun (t:Bool) => [.c (bC t)]) (fun (t:Bool) => [])) ?_ (aQ.of z5 J) Q (fun b10 _ => ?_) qC
 ·intro s1
  unfold Iu
  refine Ws (Wr ?_)
  refine af LT.lss y5 (On (Ws ?_))
  refine aA.cond Q (fun wU => ?_) (fun wU => ?_)
  ·refine aA.skip (Ws (aA.block (Ws (Wr ?_))))
   refine aP fun x12 NZ => (dY (LT.eF (enc:=aF) Q dU NZ gI) Q Q Q Q (aY (LT.iw Q ak) Q Q Q (aI (Iv x12) y4 (On (Ws (Wr ?_))))))
   refine aG (Iv x12) y4 (aP fun r13 wV => (jD [.c (iC x12),.c (iC (-10000000000)),.c (iC 10000000000)] (CS x12 (-10000000000) 10000000000 r13 wV) Am (qF y3) y5 ⟨Q,Q,y2,y2,J⟩ (aY (LT.not Q) Q Q Q (On (aA.cond Q (fun Vu => ?_) (fun Vu => ?_))))))
   ·refine Ws (Wr ?_)
    refine aI (Bv false) aZ (On (aA.ret ⟨Q,pX z1 J ⟨ah.sc,J⟩ J⟩))
   ·refine aA.skip (aA.blk (Wr ?_))
    refine af LT.add aV (aG (Iv (aB (s1 + 1))) y4 (On (aX Q z5 J)))
  ·refine fV y2 z2 J
 ·refine Ws (Wr ?_)
  refine aG (Cc (xF aF v)) y4 (aY (LT.iI Q dS) Q Q Q (aG (Iv n) y4 (af LT.eql y5 (aI (Bv ((v.length:Int) == n)) y4 (On (bP z1 J ⟨ah.sc,J⟩ J))))))
theorem aEH (f:bF) (w:(List Int)):FT Tryz.prog (Ir f w) 131 [.agg (bn f),.c (xF aF w)] [] (fun (t:Bool) => [.c (bC t)]) (fun (t:Bool) => []) []:=by
 refine FT.of [] Tryz.func131 Tryz.ntmps131 Q y2 ?_
 intro w0 U0 R0 g0
 unfold Ir
 refine Ws (Wr ?_)
 refine iL 21 (.agg (bn f)) dB y5 (aI (Bv false) aZ (On (Ws ?_)))
 refine aA.eP (fun j4 => ([(4,Bv j4)],[])) ?_ (fun j4 _ => ?_)
 ·refine Wr (bM (bV (bn f) Q gJ dR dB) Q Q Q Q (aP fun r5 mG => (jD [.agg (bn f)] (EK f r5 mG) C9 (oL y3) y5 z2 (aG (Bv r5) y4 (aO.split (fun hb6 => ?_) (fun hb6 => ?_))))))
  ·refine eu (Cc (xF aF w)) hb6 y5 (aY (LT.gU Q lF) Q (gH hb6 Q Q) Q (kE (xF aK f.Graph.aC) gK iK hb6 iM (aY (LT.iI Q iU) Q (gH hb6 Q Q) Q (aP fun r7 oI => (aO.pure (cZ [.c (xF aF w),.c (iC (f.Graph.aC.length:Int))] (aMO w (f.Graph.aC.length:Int) r7 oI) aFa (iZ y2) J y3) z3 J (gH hb6 Q Q) Q (dJ (Bv r7) hb6 y5 (aI (Bv r7) y4 (On (aX Q z1 J)))))))))
  ·refine aS hb6 y5 (aS hb6 y5 (aS hb6 y5 (aS hb6 y5 (aS hb6 y5 (aS hb6 y5 (eU (Bv false) hb6 aV (aI (Bv false) y4 (On (aX Q z1 J)))))))))
 ·refine bP z1 J ⟨ah.sc,J⟩ J
theorem aME (x:aW) (v:Int):FT Tryz.prog (SL x v) 167 [.agg [iC x.A,iC x.B],.c (iC v)] [] (fun (t:Bool) => [.c (bC t)]) (fun (t:Bool) => []) []:=by
 refine FT.of [] Tryz.func167 Tryz.ntmps167 Q y2 ?_
 intro w0 U0 R0 g0
 unfold SL
 refine Ws (Wr ?_)
 refine iL 21 (.agg [iC x.A,iC x.B]) fB y5 (aI (Bv false) aZ (On (Ws ?_)))
 refine aA.eP (fun j2 => ([(4,Bv j2)],[])) ?_ (fun j2 _ => ?_)
 ·refine Wr (dK (iC x.A) lM ak ax (aG (Iv v) y4 (af LT.eql y5 (aG (Bv (x.A == v)) y4 (aO.split (fun hb3 => ?_) (fun hb3 => ?_))))))
  ·refine aS hb3 y5 (aS hb3 y5 (aS hb3 y5 (aS hb3 y5 (dJ (Bv true) hb3 aV (aI (Bv true) y4 (On (aX Q z1 J)))))))
  ·refine kE (iC x.B) mZ ak hb3 iM (eu (Iv v) hb3 y5 (iy LT.eql hb3 y6 (eU (Bv (x.B == v)) hb3 y5 (aI (Bv (x.B == v)) y4 (On (aX Q z1 J))))))
 ·refine bP z1 J ⟨ah.sc,J⟩ J
theorem aMF (f:bF) (w:(List Int)) (v:Int):FT Tryz.prog (N7 f w v) 132 [.agg (bn f),.c (xF aF w),.c (iC v)] [] (fun (t:(Int × Int)) => [.c (iC t.1),.c (iC t.2)]) (fun (t:(Int × Int)) => []) []:=by
 refine FT.of [] Tryz.func132 Tryz.ntmps132 Q y2 ?_
 intro w0 U0 R0 g0
 unfold N7
 refine Ws (Wr ?_)
 refine iL 21 (.agg (bn f)) dB y5 (aI (Iv 0) aZ (aI (Iv 0) aZ (On (Ws (Wr ?_)))))
 refine aI (Iv 0) aZ (aI (Iv 0) aZ (On (Ws (Ws (Wr ?_)))))
 refine bM (bV (bn f) Q gJ dR dB) Q Q Q Q (aG (Cc (xF aF w)) y4 (aP fun r1 hr1 => (jD [.agg (bn f),.c (xF aF w)] (aEH f w r1 hr1) Zg (YO y4) y5 z3 (aY (LT.not Q) Q Q Q (On (aA.cond Q (fun hc2 => ?_) (fun hc2 => ?_)))))))
 ·refine Ws (en [(8,Iv 0),(9,Iv 0)] [] z2 J (Wr (aG (Iv 0) y4 (aG (Iv 0) y4 (aI (Iv 0) y4 (aI (Iv 0) y4 (On (bP z2 J ⟨ah.sc,ah.sc,J⟩ J))))))))
 ·refine aA.skip (Ws (Ws ?_))
  refine en [(1,Cc (xF aF w)),(2,Iv v),(3,Cc (.pl 21 0)),(8,Iv 0),(9,Iv 0)] [(21,.row 46 [bn f])] z5 z1 (Wr (aY (LT.gU Q lF) Q Q Q (dK (xF aK f.Graph.aC) gK iK ax (aY (LT.iI Q iU) Q Q Q (aG (Iv 0) aZ (On (aA.block ?_)))))))
  refine aA.jI (id:=0) (IV f w v) (fun s3 => ([(1,Cc (xF aF w)),(2,Iv v),(3,Cc (.pl 21 0)),(8,Iv s3.1),(9,Iv s3.2.1),(22,Cc (xF aK f.Graph.aC)),(23,Iv (f.Graph.aC.length:Int)),(24,Iv s3.2.2)],[(21,.row 46 [bn f])])) (fun qL => ([(8,Iv qL.1),(9,Iv qL.2)],[])) ?_ (aQ.of z8 z1) Q (fun qL _ => ?_)
  ·intro s3
   unfold IV
   refine Ws (Wr ?_)
   refine af LT.lss y5 (On (Ws ?_))
   refine aA.cond Q (fun V4 => ?_) (fun V4 => ?_)
   ·refine aA.skip (Ws (aA.block (Ws (Wr ?_))))
    refine aG (Iv s3.2.2) y4 (aP fun x38 hx38 => (dY (LT.eF (enc:=aK) Q nU hx38 fB) Q Q Q Q (aY (lH Q kz jL fB) Q Q Q (eG 23 [iC 0,iC 0] jT y6 (aI (Iv s3.2.2) y4 (bQ (stA [iC x38.A,iC x38.B] Q Q jL fB) Q Q Q Q Q (On (Ws ?_))))))))
    refine en [(1,Cc (xF aF w)),(2,Iv v),(3,Cc (.pl 21 0)),(8,Iv s3.1),(9,Iv s3.2.1),(10,Iv s3.2.2),(11,Cc (.pl 23 0)),(22,Cc (xF aK f.Graph.aC)),(23,Iv (f.Graph.aC.length:Int)),(24,Iv s3.2.2)] [(21,.row 46 [bn f]),(23,.row 40 [[iC x38.A,iC x38.B]])] z10 z2 (Wr (bM (bV [iC x38.A,iC x38.B] Q kz jL fB) Q Q Q Q (aG (Iv v) y4 (aP fun CB WU => (jD [.agg [iC x38.A,iC x38.B],.c (iC v)] (aME x38 v CB WU) aFc (D9 y3) y5 z3 (On (aA.eP (fun j46 => ([(1,Cc (xF aF w)),(2,Iv v),(3,Cc (.pl 21 0)),(8,Iv j46.1),(9,Iv j46.2),(22,Cc (xF aK f.Graph.aC)),(23,Iv (f.Graph.aC.length:Int)),(24,Iv s3.2.2)],[(21,.row 46 [bn f])])) ?_ (fun j46 _ => ?_))))))))
    ·refine aA.cond Q (fun hc47 => ?_) (fun hc47 => ?_)
     ·refine Ws (aA.draw mixed ?_)
      refine eH (xF au f.Places) jm kU ax (bJ (Iv v) y4 (aU.bind fun jl XJ => (dZ (LT.eF (enc:=au) Q pG XJ jy) Q Q Q Q (bg (lH Q uJ qA jy) Q Q Q (eH (xF au f.Places) jm kU ax (gq (bV [iC x38.A,iC x38.B] Q kz jL fB) Q Q Q Q (bJ (Iv v) y4 (aU.bind fun YC aIG => (aU.pure (cZ [.agg [iC x38.A,iC x38.B],.c (iC v)] (aD9 x38 v YC aIG) Zp (D9 y3) J y3) z3 J Q Q ?_)))))))))
      refine aU.bind fun o9 H9 => (dZ (LT.eF (enc:=au) Q pG H9 jy) Q Q Q Q (bg (lH Q uJ qA jy) Q Q Q (xI (LT.alloc (n:=26) (cells:=[iC 0,iC 0]) Q uS Q Q Q) Q Q (xI (LT.alloc (n:=27) (cells:=[iC 0,iC 0]) Q uS Q Q Q) Q Q (kJ (stA [iC jl.X,iC jl.Y] Q Q qA jy) Q Q Q Q Q (kJ (stA [iC o9.X,iC o9.Y] Q Q qA jy) Q Q Q Q Q (fA (Ws (en [(1,Cc (xF aF w)),(2,Iv v),(3,Cc (.pl 21 0)),(8,Iv s3.1),(9,Iv s3.2.1),(10,Iv s3.2.2),(12,Cc (.pl 26 0)),(13,Cc (.pl 27 0)),(22,Cc (xF aK f.Graph.aC)),(23,Iv (f.Graph.aC.length:Int)),(24,Iv s3.2.2)] [(21,.row 46 [bn f]),(26,.row 98 [[iC jl.X,iC jl.Y]]),(27,.row 98 [[iC o9.X,iC o9.Y]])] z11 z3 (aA.draw mixed (bJ (Iv s3.1) y4 ?_)))))))))))
      refine bJ (Cc (xF aF w)) y4 (bJ (Iv s3.2.2) y4 (aU.bind fun LU Rh => (dZ (LT.eF (enc:=aF) Q dU Rh gI) Q Q Q Q (bg (LT.iw Q ak) Q Q Q (eH (iC jl.X) xM ak ax (eH (iC o9.X) xM ak ax (jJ LT.sub y5 (jJ LT.mul y5 (jJ LT.add y5 ?_)))))))))
      refine bg (LT.assign (v:=(Iv (aB (s3.1 + (aB (LU * (aB (jl.X - o9.X)))))))) Q) Q Q Q (fA (en [(1,Cc (xF aF w)),(2,Iv v),(3,Cc (.pl 21 0)),(8,Iv (aB (s3.1 + (aB (LU * (aB (jl.X - o9.X))))))),(9,Iv s3.2.1),(10,Iv s3.2.2),(12,Cc (.pl 26 0)),(13,Cc (.pl 27 0)),(22,Cc (xF aK f.Graph.aC)),(23,Iv (f.Graph.aC.length:Int)),(24,Iv s3.2.2)] [(21,.row 46 [bn f]),(26,.row 98 [[iC jl.X,iC jl.Y]]),(27,.row 98 [[iC o9.X,iC o9.Y]])] z11 z3 (aA.draw mixed (bJ (Iv s3.2.1) y4 (bJ (Cc (xF aF w)) y4 (bJ (Iv s3.2.2) y4 (aU.bind fun QF Ri => (dZ (LT.eF (enc:=aF) Q dU Ri gI) Q Q Q Q (bg (LT.iw Q ak) Q Q Q (eH (iC jl.Y) zO ak ax ?_))))))))))
      refine eH (iC o9.Y) zO ak ax (jJ LT.sub y5 (jJ LT.mul y5 (jJ LT.add y5 (bg (LT.assign (v:=(Iv (aB (s3.2.1 + (aB (QF * (aB (jl.Y - o9.Y)))))))) Q) Q Q Q (fA (aX Q z8 z1))))))
     ·refine aA.skip (aX Q z8 z1)
    ·refine aA.blk (Wr ?_)
     refine af LT.add aV (aG (Iv (aB (s3.2.2 + 1))) y4 (On (aX Q z8 z1)))
   ·refine fV y2 z2 J
  ·refine Ws (Wr ?_)
   refine aG (Iv qL.1) y4 (aG (Iv qL.2) y4 (aI (Iv qL.1) y4 (aI (Iv qL.2) y4 (On (bP z2 J ⟨ah.sc,ah.sc,J⟩ J)))))
theorem Yj (f:bF) (w:(List Int)):FT Tryz.prog (FH f w) 61 [.agg (bn f),.c (xF aF w)] [] (fun (t:Bool) => [.c (bC t)]) (fun (t:Bool) => []) []:=by
 refine FT.of [] Tryz.func61 Tryz.ntmps61 Q y2 ?_
 intro w0 U0 R0 g0
 unfold FH
 refine Ws (Wr ?_)
 refine iL 21 (.agg (bn f)) dB y5 (aI (Bv false) aZ (On (Ws (Ws (Wr ?_)))))
 refine bM (bV (bn f) Q gJ dR dB) Q Q Q Q (aG (Cc (xF aF w)) y4 (aP fun r1 hr1 => (jD [.agg (bn f),.c (xF aF w)] (aEH f w r1 hr1) Zg (YO y4) y5 z3 (aY (LT.not Q) Q Q Q (On (aA.cond Q (fun hc2 => ?_) (fun hc2 => ?_)))))))
 ·refine Ws (Wr ?_)
  refine aI (Bv false) aZ (On (bP z1 J ⟨ah.sc,J⟩ J))
 ·refine aA.skip (Ws (Ws (Wr ?_)))
  refine dK (xF au f.Places) jm kU ax (aY (LT.iI Q sU) Q Q Q (aG (Iv 0) aZ (On (aA.block ?_))))
  refine aA.oz (id:=0) (Ic f w) (fun s3 => ([(1,Cc (xF aF w)),(2,Cc (.pl 21 0)),(14,Iv (f.Places.length:Int)),(15,Iv s3)],[(21,.row 46 [bn f])])) (fun b16 => ([],[])) (lU Tryz.prog Tryz.f61.results.toList [] [] (fun (t:Bool) => [.c (bC t)]) (fun (t:Bool) => [])) ?_ (aQ.of z4 z1) Q (fun b16 _ => ?_) qC
  ·intro s3
   unfold Ic
   refine Ws (Wr ?_)
   refine af LT.lss y5 (On (Ws ?_))
   refine aA.cond Q (fun hc17 => ?_) (fun hc17 => ?_)
   ·refine aA.skip (Ws (aA.block (Ws (Wr ?_))))
    refine aG (Iv s3) y4 (aI (Iv s3) y4 (On (Ws (Wr ?_))))
    refine bM (bV (bn f) Q gJ dR dB) Q Q Q Q (aG (Cc (xF aF w)) y4 (aG (Iv s3) y4 (aP fun jr NM => (jD [.agg (bn f),.c (xF aF w),.c (iC s3)] (aMF f w s3 jr NM) aFR (aK3 y5) y5 z4 (aG (.dM [.c (iC jr.1),.c (iC jr.2)]) y4 (gy (.c (iC jr.1)) y5 (gy (.c (iC jr.2)) y5 (aI (Iv jr.1) y4 (aI (Iv jr.2) y4 (On (Ws ?_)))))))))))
    refine aA.eP (fun j20 => ([(1,Cc (xF aF w)),(2,Cc (.pl 21 0)),(14,Iv (f.Places.length:Int)),(15,Iv s3),(30,Bv j20)],[(21,.row 46 [bn f])])) ?_ (fun j20 _ => ?_)
    ·refine en [(1,Cc (xF aF w)),(2,Cc (.pl 21 0)),(6,Iv jr.1),(7,Iv jr.2),(14,Iv (f.Places.length:Int)),(15,Iv s3)] [(21,.row 46 [bn f])] z6 z1 (Wr (aG (Iv jr.1) y4 (af LT.neq aV (aG (Bv (jr.1 != 0)) y4 (aO.split (fun Ei => ?_) (fun Ei => ?_))))))
     ·refine aS Ei y5 (aS Ei y5 (dJ (Bv true) Ei aV (On (aX Q z5 z1))))
     ·refine eu (Iv jr.2) Ei y5 (iy LT.neq Ei kD (eU (Bv (jr.2 != 0)) Ei y5 (On (aX Q z5 z1))))
    ·refine aA.cond Q (fun hc22 => ?_) (fun hc22 => ?_)
     ·refine Ws (Wr ?_)
      refine aI (Bv false) aZ (On (aA.ret ⟨Q,pX z1 J ⟨ah.sc,J⟩ J⟩))
     ·refine aA.skip (aA.blk (Wr ?_))
      refine af LT.add aV (aG (Iv (aB (s3 + 1))) y4 (On (aX Q z4 z1)))
   ·refine fV y2 J J
  ·refine Ws (Wr ?_)
   refine aI (Bv true) aZ (On (bP z1 J ⟨ah.sc,J⟩ J))
theorem AP (f:bF):FT Tryz.prog (vO f) 60 [.agg (bn f)] [] (fun (t:Bool) => [.c (bC t)]) (fun (t:Bool) => []) []:=by
 refine FT.of [] Tryz.func60 Tryz.ntmps60 Q y2 ?_
 intro w0 U0 R0 g0
 unfold vO
 refine Ws (Wr ?_)
 refine iL 21 (.agg (bn f)) dB y5 (aI (Bv false) aZ (On (Ws (Ws ?_))))
 refine aA.eP (fun j5 => ([(1,Cc (.pl 21 0)),(31,Bv j5)],[(21,.row 46 [bn f])])) ?_ (fun j5 _ => ?_)
 ·refine Wr (aY (LT.gU Q lF) Q Q Q (bM (bV (ai f.Graph) Q eY dA bU) Q Q Q Q (aP fun r6 rW => (jD [.agg (ai f.Graph)] (LH f.Graph r6 rW) G7 (vX y2) y5 z2 (aY (LT.not Q) Q Q Q (aG (Bv (!r6)) y4 (aO.split (fun hb7 => ?_) (fun hb7 => ?_))))))))
  ·refine aS hb7 y5 (aS hb7 y5 (aS hb7 y5 (aS hb7 y5 (dJ (Bv true) hb7 aV (aG (Bv true) y4 (ay y5 (ay y5 (ay y5 (ay y5 (ay y5 (ay y5 ?_)))))))))))
   refine ay y5 (dJ (Bv true) Q aV (aG (Bv true) y4 (ay y5 (ay y5 (ay y5 (ay y5 (ay y5 (dJ (Bv true) Q aV (On (aX Q z2 z1))))))))))
  ·refine aY (LT.gU Q lF) Q (gH hb7 Q Q) Q (kE (iC f.Graph.aH) kV ak hb7 iM (iy LT.gtr hb7 kD (eU (Bv (decide (6 < f.Graph.aH))) hb7 y5 (aG (Bv (decide (6 < f.Graph.aH))) y4 (aO.split (fun hb8 => ?_) (fun hb8 => ?_))))))
   ·refine aS hb8 y5 (aS hb8 y5 (aS hb8 y5 (aS hb8 y5 (aS hb8 y5 (aS hb8 y5 (aS hb8 y5 (dJ (Bv true) hb8 aV (aG (Bv true) y4 (ay y5 (ay y5 (ay y5 ?_)))))))))))
    refine ay y5 (ay y5 (dJ (Bv true) Q aV (On (aX Q z2 z1))))
   ·refine kE (xF au f.Places) jm kU hb8 iM (aY (LT.iI Q sU) Q (gH hb8 Q Q) Q (aY (LT.gU Q lF) Q (gH hb8 Q Q) Q (kE (iC f.Graph.aH) kV ak hb8 iM (iy LT.neq hb8 y6 (eU (Bv ((f.Places.length:Int) != f.Graph.aH)) hb8 y5 (aG (Bv ((f.Places.length:Int) != f.Graph.aH)) y4 (aO.split (fun oO => ?_) (fun oO => ?_))))))))
    ·refine aS oO y5 (aS oO y5 (aS oO y5 (aS oO y5 (aS oO y5 (dJ (Bv true) oO aV (On (aX Q z2 z1)))))))
    ·refine aY (LT.gU Q lF) Q (gH oO Q Q) Q (kE (xF aK f.Graph.aC) gK iK oO iM (aY (LT.iI Q iU) Q (gH oO Q Q) Q (iy LT.gtr oO kD (eU (Bv (decide (15 < (f.Graph.aC.length:Int)))) oO y5 (On (aX Q z2 z1))))))
 ·refine aA.cond Q (fun MR => ?_) (fun MR => ?_)
  ·refine Ws (Wr ?_)
   refine aI (Bv false) aZ (On (bP z1 J ⟨ah.sc,J⟩ J))
  ·refine aA.skip (Ws (Ws (Wr ?_)))
   refine aI (Iv 0) aZ (On (aA.block ?_))
   refine aA.oz (id:=0) (JQ f) (fun s11 => ([(1,Cc (.pl 21 0)),(3,Iv s11)],[(21,.row 46 [bn f])])) (fun ZK => ([(1,Cc (.pl 21 0))],[(21,.row 46 [bn f])])) (lU Tryz.prog Tryz.f60.results.toList [] [] (fun (t:Bool) => [.c (bC t)]) (fun (t:Bool) => [])) ?_ (aQ.of z2 z1) Q (fun ZK _ => ?_) qC
   ·intro s11
    unfold JQ
    refine Ws (Ws (Wr ?_))
    refine aG (Iv s11) y4 (dK (xF au f.Places) jm kU ax (aY (LT.iI Q sU) Q Q Q (af LT.lss y5 (On (aA.cond Q (fun hc39 => ?_) (fun hc39 => ?_))))))
    ·refine aA.skip (Ws (aA.block (Ws ?_)))
     refine aA.eP (fun j45 => ([(1,Cc (.pl 21 0)),(3,Iv s11),(56,Bv j45)],[(21,.row 46 [bn f])])) ?_ (fun j45 _ => ?_)
     ·refine Wr (dK (xF au f.Places) jm kU ax (aG (Iv s11) y4 (aP fun kZ XI => (dY (LT.eF (enc:=au) Q pG XI jy) Q Q Q Q (aY (LT.zN Q xM) Q Q Q (aY (LT.iw Q ak) Q Q Q (aP fun iW hr47 => (jD [.c (iC kZ.X),.c (iC 0),.c (iC 4)] (yC kZ.X 0 4 iW hr47) xK (qF y3) y5 ⟨Q,Q,y2,y2,J⟩ (aY (LT.not Q) Q Q Q (aG (Bv (!iW)) y4 ?_))))))))))
      refine aO.split (fun hb48 => ?_) (fun hb48 => ?_)
      ·refine aS hb48 y5 (aS hb48 y5 (aS hb48 y5 (aS hb48 y5 (aS hb48 y5 (aS hb48 y5 (aS hb48 y5 (aS hb48 y5 (dJ (Bv true) hb48 aV (On (aX Q z3 z1))))))))))
      ·refine kE (xF au f.Places) jm kU hb48 iM (eu (Iv s11) hb48 y5 (aP fun CX FB => (dY (LT.eF (enc:=au) Q pG FB jy) Q Q (gH hb48 Q Q) Q (aY (LT.zN Q zO) Q (gH hb48 Q Q) Q (aY (LT.iw Q ak) Q (gH hb48 Q Q) Q (aP fun TV aIH => (aO.pure (cZ [.c (iC CX.Y),.c (iC 0),.c (iC 4)] (yC CX.Y 0 4 TV aIH) xK (qF y3) J y3) ⟨Q,Q,y2,y2,J⟩ J (gH hb48 Q Q) Q (aY (LT.not Q) Q (gH hb48 Q Q) Q (eU (Bv (!TV)) hb48 y5 (On ?_))))))))))
       refine aX Q z3 z1
     ·refine aA.cond Q (fun aHO => ?_) (fun aHO => ?_)
      ·refine Ws (Wr ?_)
       refine aI (Bv false) aZ (On (aA.ret ⟨Q,pX z1 J ⟨ah.sc,J⟩ J⟩))
      ·refine aA.skip (aA.blk (Wr ?_))
       refine aG (Iv s11) y4 (af LT.add aV (aI (Iv (aB (s11 + 1))) y4 (On (aX Q z2 z1))))
    ·refine fV y2 z1 z1
   ·refine Ws (Ws (Wr ?_))
    refine aI (Iv 0) aZ (On (aA.block ?_))
    refine aA.oz (id:=2) (JR f) (fun uF => ([(1,Cc (.pl 21 0)),(4,Iv uF)],[(21,.row 46 [bn f])])) (fun ZM => ([],[])) (lU Tryz.prog Tryz.f60.results.toList [] [] (fun (t:Bool) => [.c (bC t)]) (fun (t:Bool) => [])) ?_ (aQ.of z2 z1) Q (fun ZM _ => ?_) qC
    ·intro uF
     unfold JR
     refine Ws (Ws (Wr ?_))
     refine aG (Iv uF) y4 (aY (LT.gU Q lF) Q Q Q (dK (xF aK f.Graph.aC) gK iK ax (aY (LT.iI Q iU) Q Q Q (af LT.lss y5 (On (aA.cond Q (fun aHV => ?_) (fun aHV => ?_)))))))
     ·refine aA.skip (Ws (aA.block (Ws (Wr ?_))))
      refine aY (LT.gU Q lF) Q Q Q (dK (xF aK f.Graph.aC) gK iK ax (aG (Iv uF) y4 (aP fun x83 aJL => (dY (LT.eF (enc:=aK) Q nU aJL fB) Q Q Q Q (aY (lH Q kz jL fB) Q Q Q (eG 25 [iC 0,iC 0] jT y6 (bQ (stA [iC x83.A,iC x83.B] Q Q jL fB) Q Q Q Q Q (On (Ws ?_)))))))))
      refine aA.eP (fun j89 => ([(1,Cc (.pl 21 0)),(4,Iv uF),(98,Bv j89)],[(21,.row 46 [bn f])])) ?_ (fun j89 _ => ?_)
      ·refine en [(1,Cc (.pl 21 0)),(4,Iv uF),(5,Cc (.pl 25 0))] [(21,.row 46 [bn f]),(25,.row 40 [[iC x83.A,iC x83.B]])] z3 z2 (aA.draw mixed (eH (xF au f.Places) jm kU ax (eH (iC x83.A) lM ak ax (aU.bind fun x90 hx90 => (dZ (LT.eF (enc:=au) Q pG hx90 jy) Q Q Q Q (bg (lH Q uJ qA jy) Q Q Q (eH (xF au f.Places) jm kU ax (bg (LT.gU Q mZ) Q Q Q ?_))))))))
       refine gq (yc (iC x83.B) Q ak) Q Q Q Q (aU.bind fun x91 hx91 => (dZ (LT.eF (enc:=au) Q pG hx91 jy) Q Q Q Q (bg (lH Q uJ qA jy) Q Q Q (dZ (LT.MH [x90.X,x90.Y] [x91.X,x91.Y] Q Nq Q Q) Q Q Q Q (bJ (Bv (jZ [x90.X,x90.Y] [x91.X,x91.Y])) y4 (aU.split (fun wS => ?_) (fun wS => ?_)))))))
       ·refine bI wS y3 (bI wS y3 (bI wS y3 (bH y3 (bH y3 (bH y3 (bH y3 (bH y3 (bH y3 (bH y3 (bH y3 (bH y3 ?_)))))))))))
        refine bI wS y3 (oJ (Bv true) wS aV (fA (aX Q z3 z1)))
       ·refine nV (Iv uF) wS y5 (oZ LT.gtr wS kD (nV (Bv (decide (0 < uF))) wS y5 (aU.split (fun qw => ?_) (fun qw => ?_))))
        ·refine bg (LT.gU Q lF) Q (gH qw Q Q) Q (oC (xF aK f.Graph.aC) gK iK qw iM (nV (Iv uF) qw y5 (oZ LT.sub qw kD (aU.bind fun Cb aJN => (dZ (LT.eF (enc:=aK) Q nU aJN fB) Q Q (gH qw Q Q) Q (bg (lH Q kz jL fB) Q (gH qw Q Q) Q (gq (bV [iC x83.A,iC x83.B] Q kz jL fB) Q Q (gH qw Q Q) Q (dZ (LT.MH [Cb.A,Cb.B] [x83.A,x83.B] Q Ru Q Q) Q Q (gH qw Q Q) Q (dZ (LT.qR (v:=(Bv (jZ [Cb.A,Cb.B] [x83.A,x83.B]))) Q qw) Q Q (gH wS Q Q) Q (o7 (Bv (jZ [Cb.A,Cb.B] [x83.A,x83.B])) wS y5 ?_))))))))))
         refine fA (aX Q z3 z1)
        ·refine bI qw y3 (bI qw y3 (bI qw y3 (bI qw y3 (bI qw y3 (bI qw y3 (bI qw y3 (bI qw y3 (bI qw y3 (dZ (LT.rC (v:=(Bv false)) Q qw) Q y2 (gH wS Q Q) Q (o7 (Bv false) wS y5 (fA ?_)))))))))))
         refine aX Q z3 z1
      ·refine aA.cond Q (fun hc95 => ?_) (fun hc95 => ?_)
       ·refine Ws (Wr ?_)
        refine aI (Bv false) aZ (On (aA.ret ⟨Q,pX z1 J ⟨ah.sc,J⟩ J⟩))
       ·refine aA.skip (aA.blk (Wr ?_))
        refine aG (Iv uF) y4 (af LT.add aV (aI (Iv (aB (uF + 1))) y4 (On (aX Q z2 z1))))
     ·refine fV y2 J J
    ·refine Ws (Wr ?_)
     refine aI (Bv true) aZ (On (bP z1 J ⟨ah.sc,J⟩ J))
theorem aEU (f:bF):FT Tryz.prog (Je f) 155 [.agg (bn f)] [] (fun (t:(List (List Int))) => [.c (lo 0 t.length)]) (fun (t:(List (List Int))) => [(0,pR 28 (dQ true) t)]) [0]:=by
 refine FT.F7 [] Tryz.func155 Tryz.ntmps155 Q y2 ?_
 intro w0 U0 R0 g0 hU
 unfold Je
 refine Ws (Wr ?_)
 refine iL 21 (.agg (bn f)) dB y5 (aI (Cc (sC aJ)) aZ (On (Ws (Wr ?_))))
 refine l7 (iO 22 (dQ true) [] ([]:List (List Int)) kR pK y7) Q Q (aI (Cc (lo 22 (([]:List (List Int)).length))) y4 (On (Ws (Ws (Wr ?_)))))
 refine aI (Iv 0) aZ (On (aA.block ?_))
 refine aA.jI (id:=0) (Dl f) (fun s1 => ([(1,Cc (.pl 21 0)),(3,Cc (lo 22 s1.2.length)),(4,Iv s1.1)],[(21,.row 46 [bn f]),(22,pR 28 (dQ true) s1.2)])) (fun qL => ([(3,Cc (lo 22 qL.length))],[(22,pR 28 (dQ true) qL)])) ?_ (aQ.of z3 z2) Q (fun qL _ => ?_)
 ·intro s1
  unfold Dl
  refine Ws (Ws ?_)
  refine aA.eP (fun j39 => ([(1,Cc (.pl 21 0)),(3,Cc (lo 22 s1.2.length)),(4,Iv s1.1),(19,Bv j39)],[(21,.row 46 [bn f]),(22,pR 28 (dQ true) s1.2)])) ?_ (fun j39 _ => ?_)
  ·refine Wr (aG (Iv s1.1) y4 (aY (LT.gU Q lF) Q Q Q (dK (xF aK f.Graph.aC) gK iK ax (aY (LT.iI Q iU) Q Q Q (af LT.lss y5 (aG (Bv (decide (s1.1 < (f.Graph.aC.length:Int)))) y4 (aO.split (fun rV => ?_) (fun rV => ?_))))))))
   ·refine bM (bV (bn f) Q gJ dR dB) Q Q (gH rV Q Q) Q (aP fun zu WV => (aO.pure (cZ [.agg (bn f)] (AP f zu WV) zK (oL y3) J y3) z2 J (gH rV Q Q) Q (dJ (Bv zu) rV y5 (On (aX Q z4 z2)))))
   ·refine aS rV y5 (aS rV y5 (eU (Bv false) rV aV (On (aX Q z4 z2))))
  ·refine aA.cond Q (fun V5 => ?_) (fun V5 => ?_)
   ·refine aA.skip (Ws (aA.block (Ws (Wr ?_))))
    refine aY (LT.gU Q lF) Q Q Q (dK (xF aK f.Graph.aC) gK iK ax (aG (Iv s1.1) y4 (aP fun x43 H7 => (dY (LT.eF (enc:=aK) Q nU H7 fB) Q Q Q Q (aY (lH Q kz jL fB) Q Q Q (eG 24 [iC 0,iC 0] jT y6 (bQ (stA [iC x43.A,iC x43.B] Q Q jL fB) Q Q Q Q Q (On (Ws ?_)))))))))
    refine en [(1,Cc (.pl 21 0)),(3,Cc (lo 22 s1.2.length)),(4,Iv s1.1),(5,Cc (.pl 24 0))] [(21,.row 46 [bn f]),(22,pR 28 (dQ true) s1.2),(24,.row 40 [[iC x43.A,iC x43.B]])] z4 z3 (Wr (aY (LT.gU Q lF) Q Q Q (dK (iC f.Graph.aH) kV ak ax (af LT.mul qH (aP fun u44 NT => (zD (LT.CP (n:=25) (enc:=aF) (zc:=[iC 0]) (0:Int) Q dS iH Q Q Q (by decide) (by decide) (zY NT) Q) Q Q Q Q (aI (Cc (lo 25 ((List.replicate (aB (2 * f.Graph.aH)).toNat (0:Int)).length))) y4 (On (Ws (aA.draw mixed ?_))))))))))
    refine eH (xF au f.Places) jm kU ax (eH (iC x43.A) lM ak ax (aU.bind fun kS H8 => (dZ (LT.eF (enc:=au) Q pG H8 jy) Q Q Q Q (bg (LT.zN Q xM) Q Q Q (bg (LT.iw Q ak) Q Q Q (eH (xF au f.Places) jm kU ax (eH (iC x43.B) mZ ak ax ?_)))))))
    refine aU.bind fun kZ XI => (dZ (LT.eF (enc:=au) Q pG XI jy) Q Q Q Q (bg (LT.zN Q xM) Q Q Q (bg (LT.iw Q ak) Q Q Q (jJ LT.sub y5 (bg (LT.assign (v:=(Iv (aB (kS.X - kZ.X)))) Q) Q Q Q (fA (Ws (en [(1,Cc (.pl 21 0)),(3,Cc (lo 22 s1.2.length)),(4,Iv s1.1),(5,Cc (.pl 24 0)),(6,Cc (lo 25 ((List.replicate (aB (2 * f.Graph.aH)).toNat (0:Int)).length))),(7,Iv (aB (kS.X - kZ.X)))] [(21,.row 46 [bn f]),(22,pR 28 (dQ true) s1.2),(24,.row 40 [[iC x43.A,iC x43.B]]),(25,pR 3 aF (List.replicate (aB (2 * f.Graph.aH)).toNat (0:Int)))] z6 z4 (aA.draw mixed (eH (xF au f.Places) jm kU ax ?_))))))))))
    refine eH (iC x43.A) lM ak ax (aU.bind fun ng aJB => (dZ (LT.eF (enc:=au) Q pG aJB jy) Q Q Q Q (bg (LT.zN Q zO) Q Q Q (bg (LT.iw Q ak) Q Q Q (eH (xF au f.Places) jm kU ax (eH (iC x43.B) mZ ak ax (aU.bind fun jl XJ => (dZ (LT.eF (enc:=au) Q pG XJ jy) Q Q Q Q ?_))))))))
    refine bg (LT.zN Q zO) Q Q Q (bg (LT.iw Q ak) Q Q Q (jJ LT.sub y5 (bg (LT.assign (v:=(Iv (aB (ng.Y - jl.Y)))) Q) Q Q Q (fA (Ws (en [(1,Cc (.pl 21 0)),(3,Cc (lo 22 s1.2.length)),(4,Iv s1.1),(5,Cc (.pl 24 0)),(6,Cc (lo 25 ((List.replicate (aB (2 * f.Graph.aH)).toNat (0:Int)).length))),(7,Iv (aB (kS.X - kZ.X))),(8,Iv (aB (ng.Y - jl.Y)))] [(21,.row 46 [bn f]),(22,pR 28 (dQ true) s1.2),(24,.row 40 [[iC x43.A,iC x43.B]]),(25,pR 3 aF (List.replicate (aB (2 * f.Graph.aH)).toNat (0:Int)))] z7 z4 (Wr (aG (Cc (lo 25 ((List.replicate (aB (2 * f.Graph.aH)).toNat (0:Int)).length))) y4 (dK (iC x43.A) lM ak ax (af LT.mul qH ?_))))))))))
    refine aG (Iv (aB (kS.X - kZ.X))) y4 (aP fun CX FB => (iq (LT.fP Q Q dU FB) Q Q Q Q Q (bQ (lq 0 (.c (iC (aB (kS.X - kZ.X)))) (aB (kS.X - kZ.X)) Q Q mJ gI FB) Q Q Q Q Q (On (Ws (Wr ?_))))))
    refine aG (Cc (lo 25 ((List.replicate (aB (2 * f.Graph.aH)).toNat (0:Int)).length))) y4 (dK (iC x43.A) lM ak ax (af LT.mul qH (af LT.add aV (aG (Iv (aB (ng.Y - jl.Y))) y4 (aP fun o9 H9 => (iq (LT.fP (show (List.replicate (aB (2 * f.Graph.aH)).toNat (0:Int)).length = ((List.replicate (aB (2 * f.Graph.aH)).toNat (0:Int)).set (aB (2 * x43.A)).toNat (aB (kS.X - kZ.X))).length by simp only [List.length_set]) Q dU H9) Q Q Q Q Q (bQ (lq 0 (.c (iC (aB (ng.Y - jl.Y)))) (aB (ng.Y - jl.Y)) Q Q mJ gI H9) Q Q Q Q Q (On (Ws ?_)))))))))
    refine en [(1,Cc (.pl 21 0)),(3,Cc (lo 22 s1.2.length)),(4,Iv s1.1),(5,Cc (.pl 24 0)),(6,Cc (lo 25 ((List.replicate (aB (2 * f.Graph.aH)).toNat (0:Int)).length))),(7,Iv (aB (kS.X - kZ.X))),(8,Iv (aB (ng.Y - jl.Y)))] [(21,.row 46 [bn f]),(22,pR 28 (dQ true) s1.2),(24,.row 40 [[iC x43.A,iC x43.B]]),(25,pR 3 aF (((List.replicate (aB (2 * f.Graph.aH)).toNat (0:Int)).set (aB (2 * x43.A)).toNat (aB (kS.X - kZ.X))).set (aB ((aB (2 * x43.A)) + 1)).toNat (aB (ng.Y - jl.Y))))] z7 z4 (Wr (aG (Cc (lo 25 ((List.replicate (aB (2 * f.Graph.aH)).toNat (0:Int)).length))) y4 (dK (iC x43.B) mZ ak ax (af LT.mul qH (aG (Iv (aB (kS.X - kZ.X))) y4 (aY (LT.neg Q) Q Q Q (aP fun LU Rh => (iq (LT.fP (show (List.replicate (aB (2 * f.Graph.aH)).toNat (0:Int)).length = (((List.replicate (aB (2 * f.Graph.aH)).toNat (0:Int)).set (aB (2 * x43.A)).toNat (aB (kS.X - kZ.X))).set (aB ((aB (2 * x43.A)) + 1)).toNat (aB (ng.Y - jl.Y))).length by simp only [List.length_set]) Q dU Rh) Q Q Q Q Q (bQ (lq 0 (.c (iC (aB (-(aB (kS.X - kZ.X)))))) (aB (-(aB (kS.X - kZ.X)))) Q Q mJ gI Rh) Q Q Q Q Q (On (Ws (Wr ?_))))))))))))
    refine aG (Cc (lo 25 ((List.replicate (aB (2 * f.Graph.aH)).toNat (0:Int)).length))) y4 (dK (iC x43.B) mZ ak ax (af LT.mul qH (af LT.add aV (aG (Iv (aB (ng.Y - jl.Y))) y4 (aY (LT.neg Q) Q Q Q (aP fun QF Ri => (iq (LT.fP (show (List.replicate (aB (2 * f.Graph.aH)).toNat (0:Int)).length = ((((List.replicate (aB (2 * f.Graph.aH)).toNat (0:Int)).set (aB (2 * x43.A)).toNat (aB (kS.X - kZ.X))).set (aB ((aB (2 * x43.A)) + 1)).toNat (aB (ng.Y - jl.Y))).set (aB (2 * x43.B)).toNat (aB (-(aB (kS.X - kZ.X))))).length by simp only [List.length_set]) Q dU Ri) Q Q Q Q Q (bQ (lq 0 (.c (iC (aB (-(aB (ng.Y - jl.Y)))))) (aB (-(aB (ng.Y - jl.Y)))) Q Q mJ gI Ri) Q Q Q Q Q (On (en [(1,Cc (.pl 21 0)),(3,Cc (lo 22 s1.2.length)),(4,Iv s1.1),(6,Cc (lo 25 ((List.replicate (aB (2 * f.Graph.aH)).toNat (0:Int)).length)))] [(21,.row 46 [bn f]),(22,pR 28 (dQ true) s1.2),(25,pR 3 aF (((((List.replicate (aB (2 * f.Graph.aH)).toNat (0:Int)).set (aB (2 * x43.A)).toNat (aB (kS.X - kZ.X))).set (aB ((aB (2 * x43.A)) + 1)).toNat (aB (ng.Y - jl.Y))).set (aB (2 * x43.B)).toNat (aB (-(aB (kS.X - kZ.X))))).set (aB ((aB (2 * x43.B)) + 1)).toNat (aB (-(aB (ng.Y - jl.Y))))))] z4 z3 ?_))))))))))
    refine Wr (aG (Cc (lo 22 s1.2.length)) y4 (aG (Cc (lo 25 ((List.replicate (aB (2 * f.Graph.aH)).toNat (0:Int)).length))) y4 (aO.ent (aQ.Qs (enc:=aF) 92 25 hU Q (show (List.replicate (aB (2 * f.Graph.aH)).toNat (0:Int)).length = (((((List.replicate (aB (2 * f.Graph.aH)).toNat (0:Int)).set (aB (2 * x43.A)).toNat (aB (kS.X - kZ.X))).set (aB ((aB (2 * x43.A)) + 1)).toNat (aB (ng.Y - jl.Y))).set (aB (2 * x43.B)).toNat (aB (-(aB (kS.X - kZ.X))))).set (aB ((aB (2 * x43.B)) + 1)).toNat (aB (-(aB (ng.Y - jl.Y))))).length by simp only [List.length_set]) Q Q) (nP (iO 26 (dQ true) [(0,.tmp 92,.c (xT aF (((((List.replicate (aB (2 * f.Graph.aH)).toNat (0:Int)).set (aB (2 * x43.A)).toNat (aB (kS.X - kZ.X))).set (aB ((aB (2 * x43.A)) + 1)).toNat (aB (ng.Y - jl.Y))).set (aB (2 * x43.B)).toNat (aB (-(aB (kS.X - kZ.X))))).set (aB ((aB (2 * x43.B)) + 1)).toNat (aB (-(aB (ng.Y - jl.Y)))))))] [((((List.replicate (aB (2 * f.Graph.aH)).toNat (0:Int)).set (aB (2 * x43.A)).toNat (aB (kS.X - kZ.X))).set (aB ((aB (2 * x43.A)) + 1)).toNat (aB (ng.Y - jl.Y))).set (aB (2 * x43.B)).toNat (aB (-(aB (kS.X - kZ.X))))).set (aB ((aB (2 * x43.B)) + 1)).toNat (aB (-(aB (ng.Y - jl.Y))))] kR pK y7) Q Q Q (aP fun u53 aIt => (ny (LT.nZ (enc:=(dQ true)) Q Q Q kR pK Q (by decide) (by decide) (fun _ => Q) (jo aIt)) Q Q Q Q Q Q (aI (Cc (lo 22 ((s1.2 ++ [((((List.replicate (aB (2 * f.Graph.aH)).toNat (0:Int)).set (aB (2 * x43.A)).toNat (aB (kS.X - kZ.X))).set (aB ((aB (2 * x43.A)) + 1)).toNat (aB (ng.Y - jl.Y))).set (aB (2 * x43.B)).toNat (aB (-(aB (kS.X - kZ.X))))).set (aB ((aB (2 * x43.B)) + 1)).toNat (aB (-(aB (ng.Y - jl.Y))))]).length))) y4 (On (aA.blk (Wr ?_))))))))))
    refine aG (Iv s1.1) y4 (af LT.add aV (aI (Iv (aB (s1.1 + 1))) y4 (On (aX Q z3 z2))))
   ·refine fV y2 z1 z1
 ·refine Ws (Wr ?_)
  refine aG (Cc (lo 22 qL.length)) y4 (aI (Cc (lo 22 qL.length)) y4 (On (en [(2,Cc (lo 22 qL.length))] [(22,pR 28 (dQ true) qL)] z1 z1 (aA.ent (aQ.mv 22 0 Q Q) (en [(2,Cc (lo 0 qL.length))] [(0,pR 28 (dQ true) qL)] z1 z1 (bP z1 z1 ⟨J,J⟩ ⟨bD.bf PY,J⟩))))))
theorem aMu (f:bF):FT Tryz.prog (Ox f) 154 [.agg (bn f)] [] (fun (t:(List (List Int))) => [.c (lo 0 t.length)]) (fun (t:(List (List Int))) => [(0,.bZ 28 1 (bK t)),(1,.pool 3 (rowsOf aF t))]) [0,1]:=by
 refine FT.of [] Tryz.func154 Tryz.ntmps154 Q y2 ?_
 intro w0 U0 R0 g0
 unfold Ox
 refine Ws (Wr ?_)
 refine iL 21 (.agg (bn f)) dB y5 (aI (Cc (sC aJ)) aZ (On (Ws (Wr ?_))))
 refine bM (bV (bn f) Q gJ dR dB) Q Q Q Q (aP fun r1 hr1 => (aO.step (cZ [.agg (bn f)] (Fw.Fn.ren [(0,23)] (aEU f r1 hr1) Q) Zl (oL y3) J y3) z2 J Q Q (aI (Cc (lo 23 r1.length)) y4 (On (Ws (Wr ?_))))))
 refine l7 (LT.buildSlice (n:=24) (els:=[]) [] Q Q kR pK Q Q Q Q (by decide) Q Q) Q Q (aI (Cc (lo 24 0)) y4 (On (aA.ent (aQ.PZ 25 3 Q) (aA.ent (aQ.bZ (n:=24) (p:=25) (lens:=bK ([]:List (List Int))) (List.append_nil _) Q) (Ws (Ws (Wr ?_)))))))
 refine aI (Iv 0) aZ (On (aA.block ?_))
 refine aA.jI (id:=0) (Dn f) (fun s2 => ([(1,Cc (.pl 21 0)),(3,Cc (lo 23 s2.2.1.length)),(4,Cc (lo 24 s2.2.2.length)),(5,Iv s2.1)],[(21,.row 46 [bn f]),(23,pR 28 (dQ true) s2.2.1),(24,.bZ 28 25 (bK s2.2.2)),(25,.pool 3 (rowsOf aF s2.2.2))])) (fun uz => ([(4,Cc (lo 24 uz.length))],[(24,.bZ 28 25 (bK uz)),(25,.pool 3 (rowsOf aF uz))])) ?_ (aQ.of z4 z4) Q (fun uz _ => ?_)
 ·intro s2
  unfold Dn
  refine Ws (Ws ?_)
  refine aA.eP (fun j35 => ([(1,Cc (.pl 21 0)),(3,Cc (lo 23 s2.2.1.length)),(4,Cc (lo 24 s2.2.2.length)),(5,Iv s2.1),(21,Bv j35)],[(21,.row 46 [bn f]),(23,pR 28 (dQ true) s2.2.1),(24,.bZ 28 25 (bK s2.2.2)),(25,.pool 3 (rowsOf aF s2.2.2))])) ?_ (fun j35 _ => ?_)
  ·refine Wr (aG (Iv s2.1) y4 (aY (LT.gU Q lF) Q Q Q (dK (iC f.Graph.aH) kV ak ax (af LT.mul qH (af LT.lss y5 (aG (Bv (decide (s2.1 < (aB (2 * f.Graph.aH))))) y4 (aO.split (fun tH => ?_) (fun tH => ?_))))))))
   ·refine eu (Cc (lo 23 s2.2.1.length)) tH y5 (aY (LT.lG Q kR) Q (gH tH Q Q) Q (iy LT.gtr tH kD (dJ (Bv (decide (0 < (s2.2.1.length:Int)))) tH y5 (On (aX Q z5 z4)))))
   ·refine aS tH y5 (aS tH y5 (aS tH y5 (eU (Bv false) tH aV (On (aX Q z5 z4)))))
  ·refine aA.cond Q (fun V4 => ?_) (fun V4 => ?_)
   ·refine aA.skip (Ws (aA.block (Ws (Wr ?_))))
    refine l7 (iO 26 aF [] [] dS iH y7) Q Q (aI (Cc (lo 26 (([]:List Int).length))) y4 (On (Ws (Ws (Wr ?_)))))
    refine aI (Iv 0) aZ (On (aA.block ?_))
    refine aA.jI (id:=2) (Jl s2) (fun jw => ([(1,Cc (.pl 21 0)),(3,Cc (lo 23 s2.2.1.length)),(4,Cc (lo 24 s2.2.2.length)),(5,Iv s2.1),(6,Cc (lo 26 jw.2.length)),(7,Iv jw.1)],[(21,.row 46 [bn f]),(23,pR 28 (dQ true) s2.2.1),(24,.bZ 28 25 (bK s2.2.2)),(25,.pool 3 (rowsOf aF s2.2.2)),(26,pR 3 aF jw.2)])) (fun nT => ([(1,Cc (.pl 21 0)),(3,Cc (lo 23 nT.2.1.length)),(4,Cc (lo 24 nT.2.2.1.length)),(5,Iv nT.1),(6,Cc (lo 26 nT.2.2.2.length))],[(21,.row 46 [bn f]),(23,pR 28 (dQ true) nT.2.1),(24,.bZ 28 25 (bK nT.2.2.1)),(25,.pool 3 (rowsOf aF nT.2.2.1)),(26,pR 3 aF nT.2.2.2)])) ?_ (aQ.of z6 z5) Q (fun nT _ => ?_)
    ·intro jw
     unfold Jl
     refine Ws (Ws (Wr ?_))
     refine aG (Iv jw.1) y4 (aG (Cc (lo 23 s2.2.1.length)) y4 (aY (LT.lG Q kR) Q Q Q (af LT.lss y5 (On (aA.cond Q (fun MZ => ?_) (fun MZ => ?_))))))
     ·refine aA.skip (Ws (aA.block (Wr ?_)))
      refine aG (Cc (lo 26 jw.2.length)) y4 (aG (Cc (lo 23 s2.2.1.length)) y4 (aG (Iv jw.1) y4 (aP fun CX FB => (iq (LT.fP Q Q l9 FB) Q Q Q Q Q (bM (kC 0 Q fF FB) Q Q Q Q (aG (Iv s2.1) y4 (aP fun o9 H9 => (dY (LT.eF (enc:=aF) Q dU H9 gI) Q Q Q Q (aY (LT.iw Q ak) Q Q Q (nP (iO 27 aF [(0,.tmp 38,.c (iC o9))] ([o9]:List Int) dS iH y7) Q Q Q (aP fun u51 aIr => ?_)))))))))))
      refine ny (LT.nZ (enc:=aF) Q Q Q dS iH Q (by decide) (by decide) (fun _ => Q) (jo aIr)) Q Q Q Q Q Q (aI (Cc (lo 26 ((jw.2 ++ ([o9]:List Int)).length))) y4 (On (aA.blk ?_)))
      refine en [(1,Cc (.pl 21 0)),(3,Cc (lo 23 s2.2.1.length)),(4,Cc (lo 24 s2.2.2.length)),(5,Iv s2.1),(6,Cc (lo 26 ((jw.2 ++ ([o9]:List Int)).length))),(7,Iv jw.1)] [(21,.row 46 [bn f]),(23,pR 28 (dQ true) s2.2.1),(24,.bZ 28 25 (bK s2.2.2)),(25,.pool 3 (rowsOf aF s2.2.2)),(26,pR 3 aF (jw.2 ++ ([o9]:List Int)))] z6 z5 (Wr (aG (Iv jw.1) y4 (af LT.add aV (aI (Iv (aB (jw.1 + 1))) y4 (On (aX Q z6 z5))))))
     ·refine fV y2 z5 z5
    ·refine Wr (aG (Cc (lo 24 nT.2.2.1.length)) y4 (aG (Cc (lo 26 nT.2.2.2.length)) y4 (nP (LT.buildSlice (n:=28) (els:=[[lo 26 nT.2.2.2.length]]) [(0,.tmp 42,.c (lo 26 nT.2.2.2.length))] Q Q kR pK Q Q Q Q (by decide) Q Q) Q Q Q (aP fun u52 aIs => (ny (LT.Uj Q Q Q kR pK Q (by decide) (by decide) Q (jo aIs)) Q Q Q Q Q Q (aI (Cc (lo 24 (nT.2.2.1.length + 1))) y4 (On (aA.ent (aQ.UM (enc:=aF) (n:=24) (m:=26) (p:=25) (rows:=nT.2.2.1) (r:=nT.2.2.2) (rest:=[]) Q Q Q Q Q Q) (aA.ent (aQ.bZ (n:=24) (p:=25) (lens:=bK (nT.2.2.1 ++ [nT.2.2.2])) (List.append_nil _) Q) (aA.blk (Wr ?_)))))))))))
     refine aG (Iv nT.1) y4 (af LT.add aV (aI (Iv (aB (nT.1 + 1))) y4 (On (aA.nil ⟨Q,aQ.of ⟨Q,Q,congrArg (fun l1 => (some (AV.s (.c (lo 24 l1))):Option AV)) (show (nT.2.2.1.length + 1) = (nT.2.2.1 ++ [nT.2.2.2]).length from SI),Q,J⟩ z4⟩))))
   ·refine fV y2 z1 z2
 ·refine Ws (Wr ?_)
  refine aG (Cc (lo 24 uz.length)) y4 (aI (Cc (lo 24 uz.length)) y4 (On (en [(2,Cc (lo 24 uz.length))] [(24,.bZ 28 25 (bK uz)),(25,.pool 3 (rowsOf aF uz))] z1 z2 (aA.ent (aQ.mv 24 0 Q Q) (aA.ent (aQ.mv 25 1 Q Q) (en [(2,Cc (lo 0 uz.length))] [(0,.bZ 28 1 (bK uz)),(1,.pool 3 (rowsOf aF uz))] z1 z2 (bP z1 z2 ⟨J,J⟩ ⟨J,bD.Bo dw _,J⟩)))))))
theorem Ua (a:Int) (b:Int):FT Tryz.prog (zh a b) 183 [.c (iC a),.c (iC b)] [] (fun (t:Int) => [.c (iC t)]) (fun (t:Int) => []) []:=by
 refine FT.of [] Tryz.func183 Tryz.ntmps183 Q y2 ?_
 intro w0 U0 R0 g0
 unfold zh
 refine Ws (Wr ?_)
 refine aI (Iv 0) aZ (On (Ws (Ws ?_)))
 refine aA.eP (fun j4 => ([(0,Iv a),(1,Iv b),(13,Bv j4)],[])) ?_ (fun j4 _ => ?_)
 ·refine Wr (aG (Iv a) y4 (aP fun r5 mG => (jD [.c (iC a),.c (iC (-9000000000000000000)),.c (iC 9000000000000000000)] (yC a (-9000000000000000000) 9000000000000000000 r5 mG) xK (qF y3) y5 ⟨Q,Q,y2,y2,J⟩ (aY (LT.not Q) Q Q Q (aG (Bv (!r5)) y4 (aO.split (fun hb6 => ?_) (fun hb6 => ?_)))))))
  ·refine aS hb6 y5 (aS hb6 y5 (aS hb6 y5 (dJ (Bv true) hb6 aV (On (aX Q z3 J)))))
  ·refine eu (Iv b) hb6 y5 (aP fun r7 oI => (aO.pure (cZ [.c (iC b),.c (iC (-9000000000000000000)),.c (iC 9000000000000000000)] (yC b (-9000000000000000000) 9000000000000000000 r7 oI) xK (qF y3) J y3) ⟨Q,Q,y2,y2,J⟩ J (gH hb6 Q Q) Q (aY (LT.not Q) Q (gH hb6 Q Q) Q (eU (Bv (!r7)) hb6 y5 (On (aX Q z3 J))))))
 ·refine aA.cond Q (fun hc8 => ?_) (fun hc8 => ?_)
  ·refine Ws (Wr ?_)
   refine aI (Iv 0) aZ (On (bP z1 J ⟨ah.sc,J⟩ J))
  ·refine aA.skip (Ws (Wr ?_))
   refine aG (Iv a) y4 (aG (Iv a) y4 (aY (LT.neg Q) Q Q Q (af LT.max y5 (aI (Iv (if a < (aB (-a)) then (aB (-a)) else a)) y4 (On (Ws (Wr ?_)))))))
   refine aG (Iv b) y4 (aG (Iv b) y4 (aY (LT.neg Q) Q Q Q (af LT.max y5 (aI (Iv (if b < (aB (-b)) then (aB (-b)) else b)) y4 (On (Ws (aA.block ?_)))))))
   refine aA.jI (id:=0) Og (fun s9 => ([(0,Iv s9.1),(1,Iv s9.2)],[])) (fun b14 => ([(0,Iv b14)],[])) ?_ (aQ.of z2 J) Q (fun b14 _ => ?_)
   ·intro s9
    unfold Og
    refine Ws (Ws (Wr ?_))
    refine aG (Iv s9.2) y4 (af LT.gtr aV (On (aA.cond Q (fun Az => ?_) (fun Az => ?_))))
    ·refine aA.skip (aA.block (Ws (Wr ?_)))
     refine aG (Iv s9.1) y4 (aG (Iv s9.2) y4 (aP fun u16 NS => (dY (LT.rem Q (wo NS)) Q Q Q Q (aI (Iv (Int.tmod s9.1 s9.2)) y4 (On (Ws (Wr ?_)))))))
     refine aG (Iv s9.2) y4 (aI (Iv s9.2) y4 (On (Wr ?_)))
     refine aG (Iv (Int.tmod s9.1 s9.2)) y4 (aI (Iv (Int.tmod s9.1 s9.2)) y4 (On (aA.blk ?_)))
     refine aX Q z2 J
    ·refine fV y2 z1 J
   ·refine Ws (Wr ?_)
    refine aG (Iv b14) y4 (aI (Iv b14) y4 (On (bP z1 J ⟨ah.sc,J⟩ J)))
theorem aER (v:(List Int)):FT Tryz.prog (JY v) 184 [.c (xF aF v)] [] (fun (t:(List Int)) => [.c (lo 0 t.length)]) (fun (t:(List Int)) => [(0,pR 3 aF t)]) [0]:=by
 refine FT.of [] Tryz.func184 Tryz.ntmps184 Q y2 ?_
 intro w0 U0 R0 g0
 unfold JY
 refine Ws (Wr ?_)
 refine aI (Cc (sC aJ)) aZ (On (Ws (Wr ?_)))
 refine aI (Iv 0) aZ (On (Ws (Ws (Wr ?_))))
 refine aI (Iv 0) aZ (On (aA.block ?_))
 refine aA.oz (id:=0) (JZ v) (fun s1 => ([(0,Cc (xF aF v)),(3,Iv s1.1),(4,Iv s1.2)],[])) (fun b16 => ([(0,Cc (xF aF v)),(3,Iv b16)],[])) (lU Tryz.prog Tryz.f184.results.toList [] [0] (fun (t:(List Int)) => [.c (lo 0 t.length)]) (fun (t:(List Int)) => [(0,pR 3 aF t)])) ?_ (aQ.of z3 J) Q (fun b16 _ => ?_) qC
 ·intro s1
  unfold JZ
  refine Ws (Ws (Wr ?_))
  refine aG (Iv s1.2) y4 (aG (Cc (xF aF v)) y4 (aY (LT.iI Q dS) Q Q Q (af LT.lss y5 (On (aA.cond Q (fun hc17 => ?_) (fun hc17 => ?_))))))
  ·refine aA.skip (Ws (aA.block (Ws (Ws (Wr ?_)))))
   refine aG (Cc (xF aF v)) y4 (aG (Iv s1.2) y4 (aP fun x18 XE => (dY (LT.eF (enc:=aF) Q dU XE gI) Q Q Q Q (aY (LT.iw Q ak) Q Q Q (aP fun dn BG => (jD [.c (iC x18),.c (iC (-9000000000000000000)),.c (iC 9000000000000000000)] (yC x18 (-9000000000000000000) 9000000000000000000 dn BG) xK (qF y3) y5 ⟨Q,Q,y2,y2,J⟩ (aY (LT.not Q) Q Q Q (On (aA.cond Q (fun A7 => ?_) (fun A7 => ?_))))))))))
   ·refine Ws (Wr ?_)
    refine l7 (iO 22 aF [] [] dS iH y7) Q Q (aG (Cc (xF aF v)) y4 (aP fun u21 hu21 => (bQ (LT.AO (enc:=aF) Q  Q dS iH Q (by decide) (by decide) (fun _ => Q) (jo hu21)) Q Q Q Q Q (aI (Cc (lo 22 ((([]:List Int) ++ v).length))) y4 (On (en [(2,Cc (lo 22 ((([]:List Int) ++ v).length)))] [(22,pR 3 aF (([]:List Int) ++ v))] z1 z1 (aA.ent (aQ.mv 22 0 Q Q) (en [(2,Cc (lo 0 ((([]:List Int) ++ v).length)))] [(0,pR 3 aF (([]:List Int) ++ v))] z1 z1 (aA.ret ⟨Q,pX z1 z1 ⟨J,J⟩ ⟨bD.bf dw,J⟩⟩)))))))))
   ·refine aA.skip (Wr ?_)
    refine aG (Iv s1.1) y4 (aG (Cc (xF aF v)) y4 (aG (Iv s1.2) y4 (aP fun rG DN => (dY (LT.eF (enc:=aF) Q dU DN gI) Q Q Q Q (aY (LT.iw Q ak) Q Q Q (aP fun ni NQ => (jD [.c (iC s1.1),.c (iC rG)] (Ua s1.1 rG ni NQ) QV (iZ y2) y5 z3 (aI (Iv ni) y4 (On (aA.blk ?_))))))))))
    refine en [(0,Cc (xF aF v)),(3,Iv ni),(4,Iv s1.2)] [] z3 J (Wr (aG (Iv s1.2) y4 (af LT.add aV (aI (Iv (aB (s1.2 + 1))) y4 (On (aX Q z3 J))))))
  ·refine fV y2 z2 J
 ·refine Ws (Ws (Wr ?_))
  refine aG (Iv b16) y4 (af LT.eql aV (On (aA.cond Q (fun hc24 => ?_) (fun hc24 => ?_))))
  ·refine Ws (Wr ?_)
   refine l7 (iO 24 aF [] [] dS iH y7) Q Q (aG (Cc (xF aF v)) y4 (aP fun u25 aIg => (bQ (LT.AO (enc:=aF) Q  Q dS iH Q (by decide) (by decide) (fun _ => Q) (jo aIg)) Q Q Q Q Q (aI (Cc (lo 24 ((([]:List Int) ++ v).length))) y4 (On (en [(2,Cc (lo 24 ((([]:List Int) ++ v).length)))] [(24,pR 3 aF (([]:List Int) ++ v))] z1 z1 (aA.ent (aQ.mv 24 0 Q Q) (en [(2,Cc (lo 0 ((([]:List Int) ++ v).length)))] [(0,pR 3 aF (([]:List Int) ++ v))] z1 z1 (bP z1 z1 ⟨J,J⟩ ⟨bD.bf dw,J⟩)))))))))
  ·refine aA.skip (Ws (Wr ?_))
   refine aI (Iv 0) aZ (On (Ws (Ws (Wr ?_))))
   refine aI (Iv 0) aZ (On (aA.block ?_))
   refine aA.jI (id:=2) (Ja v b16) (fun s26 => ([(0,Cc (xF aF v)),(3,Iv b16),(5,Iv s26.1),(6,Iv s26.2)],[])) (fun zI => ([(0,Cc (xF aF v)),(3,Iv zI.1),(5,Iv zI.2)],[])) ?_ (aQ.of z4 J) Q (fun zI _ => ?_)
   ·intro s26
    unfold Ja
    refine Ws (Ws (Wr ?_))
    refine aG (Iv s26.2) y4 (aG (Cc (xF aF v)) y4 (aY (LT.iI Q dS) Q Q Q (af LT.lss y5 (On (aA.cond Q (fun aHM => ?_) (fun aHM => ?_))))))
    ·refine aA.skip (Ws (aA.block (Ws (Wr ?_))))
     refine aG (Iv s26.1) y4 (af LT.eql aV (On (aA.eP (fun j43 => ([(0,Cc (xF aF v)),(3,Iv b16),(5,Iv j43),(6,Iv s26.2)],[])) ?_ (fun j43 _ => ?_))))
     ·refine aA.cond Q (fun V6 => ?_) (fun V6 => ?_)
      ·refine Wr (aG (Cc (xF aF v)) y4 (aG (Iv s26.2) y4 (aP fun kS H8 => (dY (LT.eF (enc:=aF) Q dU H8 gI) Q Q Q Q (aY (LT.iw Q ak) Q Q Q (aI (Iv kS) y4 (On (aX Q z4 J))))))))
      ·refine aA.skip (aX Q z4 J)
     ·refine aA.blk (Wr ?_)
      refine aG (Iv s26.2) y4 (af LT.add aV (aI (Iv (aB (s26.2 + 1))) y4 (On (aX Q z4 J))))
    ·refine fV y2 z3 J
   ·refine Ws (Ws (Wr ?_))
    refine aG (Iv zI.2) y4 (af LT.lss aV (On (aA.eP (fun j47 => ([(0,Cc (xF aF v)),(3,Iv j47)],[])) ?_ (fun j47 _ => ?_))))
    ·refine aA.cond Q (fun MZ => ?_) (fun MZ => ?_)
     ·refine Wr (aG (Iv zI.1) y4 (aY (LT.neg Q) Q Q Q (aI (Iv (aB (-zI.1))) y4 (On (aX Q z2 J)))))
     ·refine aA.skip (aX Q z2 J)
    ·refine Ws (Wr ?_)
     refine l7 (iO 25 aF [] [] dS iH y7) Q Q (aI (Cc (lo 25 (([]:List Int).length))) y4 (On (Ws (Ws (Wr ?_)))))
     refine aI (Iv 0) aZ (On (aA.block ?_))
     refine aA.jI (id:=4) (Jb v j47) (fun s49 => ([(0,Cc (xF aF v)),(3,Iv j47),(7,Cc (lo 25 s49.2.length)),(8,Iv s49.1)],[(25,pR 3 aF s49.2)])) (fun yK => ([(7,Cc (lo 25 yK.length))],[(25,pR 3 aF yK)])) ?_ (aQ.of z4 z1) Q (fun yK _ => ?_)
     ·intro s49
      unfold Jb
      refine Ws (Ws (Wr ?_))
      refine aG (Iv s49.1) y4 (aG (Cc (xF aF v)) y4 (aY (LT.iI Q dS) Q Q Q (af LT.lss y5 (On (aA.cond Q (fun aHQ => ?_) (fun aHQ => ?_))))))
      ·refine aA.skip (Ws (aA.block (Wr ?_)))
       refine aG (Cc (lo 25 s49.2.length)) y4 (aG (Cc (xF aF v)) y4 (aG (Iv s49.1) y4 (aP fun AZ Rj => (dY (LT.eF (enc:=aF) Q dU Rj gI) Q Q Q Q (aY (LT.iw Q ak) Q Q Q (aG (Iv j47) y4 (aP fun u61 aIv => (dY (LT.quo Q (wo aIv)) Q Q Q Q (nP (iO 26 aF [(0,.tmp 64,.c (iC (aB (Int.tdiv AZ j47))))] ([aB (Int.tdiv AZ j47)]:List Int) dS iH y7) Q Q Q (aP fun u62 aIw => (ny (LT.nZ (enc:=aF) Q Q Q dS iH Q (by decide) (by decide) (fun _ => Q) (jo aIw)) Q Q Q Q Q Q ?_)))))))))))
       refine aI (Cc (lo 25 ((s49.2 ++ ([aB (Int.tdiv AZ j47)]:List Int)).length))) y4 (On (aA.blk ?_))
       refine en [(0,Cc (xF aF v)),(3,Iv j47),(7,Cc (lo 25 ((s49.2 ++ ([aB (Int.tdiv AZ j47)]:List Int)).length))),(8,Iv s49.1)] [(25,pR 3 aF (s49.2 ++ ([aB (Int.tdiv AZ j47)]:List Int)))] z4 z1 (Wr (aG (Iv s49.1) y4 (af LT.add aV (aI (Iv (aB (s49.1 + 1))) y4 (On (aX Q z4 z1))))))
      ·refine fV y2 z1 z1
     ·refine Ws (Wr ?_)
      refine aG (Cc (lo 25 yK.length)) y4 (aI (Cc (lo 25 yK.length)) y4 (On (en [(2,Cc (lo 25 yK.length))] [(25,pR 3 aF yK)] z1 z1 (aA.ent (aQ.mv 25 0 Q Q) (en [(2,Cc (lo 0 yK.length))] [(0,pR 3 aF yK)] z1 z1 (bP z1 z1 ⟨J,J⟩ ⟨bD.bf dw,J⟩))))))
theorem aEc (row:(List Int)):FT Tryz.prog (Fp row) 189 [.c (xF aF row)] [] (fun (t:(List Int)) => [.c (lo 0 t.length)]) (fun (t:(List Int)) => [(0,pR 3 aF t)]) [0]:=by
 refine FT.of [] Tryz.func189 Tryz.ntmps189 Q y2 ?_
 intro w0 U0 R0 g0
 unfold Fp
 refine Ws (Wr ?_)
 refine aI (Cc (sC aJ)) aZ (On (Ws (Wr ?_)))
 refine aG (Cc (xF aF row)) y4 (aP fun r1 hr1 => (aO.step (cZ [.c (xF aF row)] (Fw.Fn.ren [(0,22)] (aER row r1 hr1) Q) Zw (kQ Q) J y3) z2 J Q Q (aI (Cc (lo 22 r1.length)) y4 (On (en [(2,Cc (lo 22 r1.length))] [(22,pR 3 aF r1)] z1 z1 (aA.ent (aQ.mv 22 0 Q Q) (en [(2,Cc (lo 0 r1.length))] [(0,pR 3 aF r1)] z1 z1 (bP z1 z1 ⟨J,J⟩ ⟨bD.bf dw,J⟩))))))))
theorem aM4 (a:(List Int)) (row:(List Int)) (j:Int):FT Tryz.prog (PD a row j) 190 [.c (xF aF a),.c (xF aF row),.c (iC j)] [] (fun (t:(List Int)) => [.c (lo 0 t.length)]) (fun (t:(List Int)) => [(0,pR 3 aF t)]) [0]:=by
 refine FT.of [] Tryz.func190 Tryz.ntmps190 Q y2 ?_
 intro w0 U0 R0 g0
 unfold PD
 refine Ws (Wr ?_)
 refine aI (Cc (sC aJ)) aZ (On (Ws (aA.draw mixed ?_)))
 refine bJ (Cc (xF aF a)) y4 (bJ (Iv j) y4 (aU.bind fun x1 hx1 => (dZ (LT.eF (enc:=aF) Q dU hx1 gI) Q Q Q Q (bg (LT.iw Q ak) Q Q Q (bJ (Cc (xF aF row)) y4 (bJ (Iv j) y4 (aU.bind fun x2 hx2 => (dZ (LT.eF (enc:=aF) Q dU hx2 gI) Q Q Q Q (bg (LT.iw Q ak) Q Q Q (aU.bind fun r3 hr3 => (aU.pure (cZ [.c (iC x1),.c (iC x2)] (Ua x1 x2 r3 hr3) QV (iZ y2) J y3) z3 J Q Q ?_)))))))))))
 refine bg (LT.assign (v:=(Iv r3)) Q) Q Q Q (fA (Ws (en [(0,Cc (xF aF a)),(1,Cc (xF aF row)),(2,Iv j),(7,Iv r3)] [] z4 J (Wr (aG (Cc (xF aF row)) y4 (aG (Iv j) y4 (aP fun x4 hx4 => (dY (LT.eF (enc:=aF) Q dU hx4 gI) Q Q Q Q (aY (LT.iw Q ak) Q Q Q (aG (Iv r3) y4 (aP fun u5 hu5 => ?_)))))))))))
 refine dY (LT.quo Q (wo hu5)) Q Q Q Q (aI (Iv (aB (Int.tdiv x4 r3))) y4 (On (Ws (Wr ?_))))
 refine aG (Cc (xF aF a)) y4 (aG (Iv j) y4 (aP fun x6 hx6 => (dY (LT.eF (enc:=aF) Q dU hx6 gI) Q Q Q Q (aY (LT.iw Q ak) Q Q Q (aG (Iv r3) y4 (aP fun u7 NU => (dY (LT.quo Q (wo NU)) Q Q Q Q (aI (Iv (aB (Int.tdiv x6 r3))) y4 (On (Ws ?_))))))))))
 refine en [(0,Cc (xF aF a)),(1,Cc (xF aF row)),(8,Iv (aB (Int.tdiv x4 r3))),(9,Iv (aB (Int.tdiv x6 r3)))] [] z4 J (Wr (l7 (iO 22 aF [] [] dS iH y7) Q Q (aI (Cc (lo 22 (([]:List Int).length))) y4 (On (Ws (Ws (Wr ?_)))))))
 refine aI (Iv 0) aZ (On (aA.block ?_))
 refine aA.jI (id:=0) (J7 a row r3 x4 x6) (fun s8 => ([(0,Cc (xF aF a)),(1,Cc (xF aF row)),(8,Iv (aB (Int.tdiv x4 r3))),(9,Iv (aB (Int.tdiv x6 r3))),(10,Cc (lo 22 s8.2.length)),(11,Iv s8.1)],[(22,pR 3 aF s8.2)])) (fun b17 => ([(10,Cc (lo 22 b17.length))],[(22,pR 3 aF b17)])) ?_ (aQ.of z6 z1) Q (fun b17 _ => ?_)
 ·intro s8
  unfold J7
  refine Ws (Ws (Wr ?_))
  refine aG (Iv s8.1) y4 (aG (Cc (xF aF a)) y4 (aY (LT.iI Q dS) Q Q Q (af LT.lss y5 (On (aA.cond Q (fun hc18 => ?_) (fun hc18 => ?_))))))
  ·refine aA.skip (Ws (aA.block (aA.draw mixed ?_)))
   refine bJ (Cc (lo 22 s8.2.length)) y4 (bJ (Cc (xF aF a)) y4 (bJ (Iv s8.1) y4 (aU.bind fun x19 XF => (dZ (LT.eF (enc:=aF) Q dU XF gI) Q Q Q Q (bg (LT.iw Q ak) Q Q Q (bJ (Iv (aB (Int.tdiv x4 r3))) y4 (jJ LT.mul y5 (bJ (Cc (xF aF row)) y4 (bJ (Iv s8.1) y4 (aU.bind fun x20 DL => (dZ (LT.eF (enc:=aF) Q dU DL gI) Q Q Q Q ?_)))))))))))
   refine bg (LT.iw Q ak) Q Q Q (bJ (Iv (aB (Int.tdiv x6 r3))) y4 (jJ LT.mul y5 (jJ LT.sub y5 (Gu (iO 23 aF [(0,.tmp 53,.c (iC (aB ((aB (x19 * (aB (Int.tdiv x4 r3)))) - (aB (x20 * (aB (Int.tdiv x6 r3))))))))] ([aB ((aB (x19 * (aB (Int.tdiv x4 r3)))) - (aB (x20 * (aB (Int.tdiv x6 r3)))))]:List Int) dS iH y7) Q Q Q (aU.bind fun u21 hu21 => (LX (LT.nZ (enc:=aF) Q Q Q dS iH Q (by decide) (by decide) (fun _ => Q) (jo hu21)) Q Q Q Q Q Q (bg (LT.assign (v:=(Cc (lo 22 ((s8.2 ++ ([aB ((aB (x19 * (aB (Int.tdiv x4 r3)))) - (aB (x20 * (aB (Int.tdiv x6 r3)))))]:List Int)).length)))) Q) Q Q Q (fA (aA.blk (en [(0,Cc (xF aF a)),(1,Cc (xF aF row)),(8,Iv (aB (Int.tdiv x4 r3))),(9,Iv (aB (Int.tdiv x6 r3))),(10,Cc (lo 22 ((s8.2 ++ ([aB ((aB (x19 * (aB (Int.tdiv x4 r3)))) - (aB (x20 * (aB (Int.tdiv x6 r3)))))]:List Int)).length))),(11,Iv s8.1)] [(22,pR 3 aF (s8.2 ++ ([aB ((aB (x19 * (aB (Int.tdiv x4 r3)))) - (aB (x20 * (aB (Int.tdiv x6 r3)))))]:List Int)))] z6 z1 (Wr ?_)))))))))))
   refine aG (Iv s8.1) y4 (af LT.add aV (aI (Iv (aB (s8.1 + 1))) y4 (On (aX Q z6 z1))))
  ·refine fV y2 z1 z1
 ·refine Ws (Wr ?_)
  refine aG (Cc (lo 22 b17.length)) y4 (aP fun r22 NP => (aO.step (cF [.c (lo 22 b17.length)] [(22,pR 3 aF b17)] (Fw.Fn.ren [(0,25)] (aEc b17 r22 NP) Q) Zy (.cons (.c (.fC Q Q)) .nil) J y3) z2 z1 Q Q (aI (Cc (lo 25 r22.length)) y4 (On (en [(6,Cc (lo 25 r22.length))] [(25,pR 3 aF r22)] z1 z1 (aA.ent (aQ.mv 25 0 Q Q) (en [(6,Cc (lo 0 r22.length))] [(0,pR 3 aF r22)] z1 z1 (bP z1 z1 ⟨J,J⟩ ⟨bD.bf dw,J⟩))))))))
theorem aEd (m:(List (List Int))):FT Tryz.prog (J3 m) 166 [.c (xF (dQ false) m)] [] (fun (t:((List (List Int)) × (List Int))) => [.c (lo 0 t.1.length),.c (lo 1 t.2.length)]) (fun (t:((List (List Int)) × (List Int))) => [(0,pR 28 (dQ true) t.1),(1,pR 3 aF t.2)]) [0,1]:=by
 refine FT.F7 [] Tryz.func166 Tryz.ntmps166 Q y2 ?_
 intro w0 U0 R0 g0 hU
 unfold J3
 refine Ws (Wr ?_)
 refine aI (Cc (sC aJ)) aZ (aI (Cc (sC aJ)) aZ (On (Ws (Wr ?_))))
 refine l7 (iO 21 (dQ true) [] ([]:List (List Int)) kR pK y7) Q Q (aI (Cc (lo 21 (([]:List (List Int)).length))) y4 (On (Ws (Ws (Wr ?_)))))
 refine aI (Iv 0) aZ (On (aA.block ?_))
 refine aA.jI (id:=0) (J4 m) (fun s1 => ([(0,Cc (xF (dQ false) m)),(4,Cc (lo 21 s1.2.length)),(5,Iv s1.1)],[(21,pR 28 (dQ true) s1.2)])) (fun b10 => ([(4,Cc (lo 21 b10.length))],[(21,pR 28 (dQ true) b10)])) ?_ (aQ.of z3 z1) Q (fun b10 _ => ?_)
 ·intro s1
  unfold J4
  refine Ws (Ws (Wr ?_))
  refine aG (Iv s1.1) y4 (aG (Cc (xF (dQ false) m)) y4 (aY (LT.iI Q kR) Q Q Q (af LT.lss y5 (On (aA.cond Q (fun wU => ?_) (fun wU => ?_))))))
  ·refine aA.skip (Ws (aA.block (Wr ?_)))
   refine aG (Cc (lo 21 s1.2.length)) y4 (aG (Cc (xF (dQ false) m)) y4 (aG (Iv s1.1) y4 (aP fun x12 NZ => (dY (LT.eF (enc:=(dQ false)) Q l9 NZ uQ) Q Q Q Q (aY (LT.iw Q fF) Q Q Q (aP fun r13 wV => (aO.step (cZ [.c (xF aF x12)] (Fw.Fn.ren [(0,23)] (aEc x12 r13 wV) Q) Zy (kQ Q) J y3) z2 J Q Q (aO.ent (aQ.Qs (enc:=aF) 23 23 hU Q Q Q Q) (nP (iO 24 (dQ true) [(0,.tmp 23,.c (xT aF r13))] [r13] kR pK y7) Q Q Q (aP fun u14 NR => (ny (LT.nZ (enc:=(dQ true)) Q Q Q kR pK Q (by decide) (by decide) (fun _ => Q) (jo NR)) Q Q Q Q Q Q ?_)))))))))))
   refine aI (Cc (lo 21 ((s1.2 ++ [r13]).length))) y4 (On (aA.blk ?_))
   refine en [(0,Cc (xF (dQ false) m)),(4,Cc (lo 21 ((s1.2 ++ [r13]).length))),(5,Iv s1.1)] [(21,pR 28 (dQ true) (s1.2 ++ [r13]))] z3 z1 (Wr (aG (Iv s1.1) y4 (af LT.add aV (aI (Iv (aB (s1.1 + 1))) y4 (On (aX Q z3 z1))))))
  ·refine fV y2 z1 z1
 ·refine Ws (Wr ?_)
  refine l7 (iO 25 aF [] [] dS iH y7) Q Q (aI (Cc (lo 25 (([]:List Int).length))) y4 (On (Ws (Ws (Wr ?_)))))
  refine aI (Iv 0) aZ (On (aA.block ?_))
  refine aA.jI (id:=2) Du (fun s15 => ([(4,Cc (lo 21 s15.2.1.length)),(6,Cc (lo 25 s15.2.2.length)),(7,Iv s15.1)],[(21,pR 28 (dQ true) s15.2.1),(25,pR 3 aF s15.2.2)])) (fun qm => ([(4,Cc (lo 21 qm.1.length)),(6,Cc (lo 25 qm.2.length))],[(21,pR 28 (dQ true) qm.1),(25,pR 3 aF qm.2)])) ?_ (aQ.of z3 z2) Q (fun qm _ => ?_)
  ·intro s15
   unfold Du
   refine Ws (Ws ?_)
   refine aA.eP (fun Ry => ([(4,Cc (lo 21 s15.2.1.length)),(6,Cc (lo 25 s15.2.2.length)),(7,Iv s15.1),(37,Bv Ry)],[(21,pR 28 (dQ true) s15.2.1),(25,pR 3 aF s15.2.2)])) ?_ (fun Ry _ => ?_)
   ·refine Wr (aG (Cc (lo 21 s15.2.1.length)) y4 (aY (LT.lG Q kR) Q Q Q (af LT.gtr aV (aG (Bv (decide (0 < (s15.2.1.length:Int)))) y4 (aO.split (fun uZ => ?_) (fun uZ => ?_))))))
    ·refine eu (Iv s15.1) uZ y5 (eu (Cc (lo 21 s15.2.1.length)) uZ y5 (aP fun x153 hx153 => (iq (LT.fP Q Q l9 hx153) Q y2 Q (gH uZ Q Q) Q (bM (kC 0 Q fF hx153) Q Q (gH uZ Q Q) Q (aY (LT.iI Q dS) Q (gH uZ Q Q) Q (iy LT.lss uZ y6 (dJ (Bv (decide (s15.1 < (x153.length:Int)))) uZ y5 (On (aX Q z4 z2)))))))))
    ·refine aS uZ y5 (aS uZ y5 (aS uZ y5 (aS uZ y5 (aS uZ y5 (aS uZ y5 (eU (Bv false) uZ aV (On (aX Q z4 z2))))))))
   ·refine aA.cond Q (fun aHB => ?_) (fun aHB => ?_)
    ·refine aA.skip (Ws (aA.block (Ws (Wr ?_))))
     refine aG (Cc (lo 25 s15.2.2.length)) y4 (aY (LT.lG Q dS) Q Q Q (aI (Iv (s15.2.2.length:Int)) y4 (On (Ws (aA.block ?_)))))
     refine aA.jI (id:=4) (J5 s15) (fun xC => ([(4,Cc (lo 21 s15.2.1.length)),(6,Cc (lo 25 s15.2.2.length)),(7,Iv s15.1),(8,Iv xC)],[(21,pR 28 (dQ true) s15.2.1),(25,pR 3 aF s15.2.2)])) (fun gY => ([(4,Cc (lo 21 gY.2.2.1.length)),(6,Cc (lo 25 gY.2.2.2.length)),(7,Iv gY.1),(8,Iv gY.2.1)],[(21,pR 28 (dQ true) gY.2.2.1),(25,pR 3 aF gY.2.2.2)])) ?_ (aQ.of z4 z2) Q (fun gY _ => ?_)
     ·intro xC
      unfold J5
      refine Ws (Ws ?_)
      refine aA.eP (fun SA => ([(4,Cc (lo 21 s15.2.1.length)),(6,Cc (lo 25 s15.2.2.length)),(7,Iv s15.1),(8,Iv xC),(55,Bv SA)],[(21,pR 28 (dQ true) s15.2.1),(25,pR 3 aF s15.2.2)])) ?_ (fun SA _ => ?_)
      ·refine Wr (aG (Iv xC) y4 (aG (Cc (lo 21 s15.2.1.length)) y4 (aY (LT.lG Q kR) Q Q Q (af LT.lss y5 (aG (Bv (decide (xC < (s15.2.1.length:Int)))) y4 (aO.split (fun rO => ?_) (fun rO => ?_)))))))
       ·refine eu (Cc (lo 21 s15.2.1.length)) rO y5 (eu (Iv xC) rO y5 (aP fun aEj aBK => (iq (LT.fP Q Q l9 aBK) Q Q Q (gH rO Q Q) Q (bM (kC 0 Q fF aBK) Q Q (gH rO Q Q) Q (eu (Iv s15.1) rO y5 (aP fun LP Hz => (dY (LT.eF (enc:=aF) Q dU Hz gI) Q Q (gH rO Q Q) Q (aY (LT.iw Q ak) Q (gH rO Q Q) Q (iy LT.eql rO kD (dJ (Bv (LP == 0)) rO y5 (On ?_)))))))))))
        refine aX Q z5 z2
       ·refine aS rO y5 (aS rO y5 (aS rO y5 (aS rO y5 (aS rO y5 (aS rO y5 (aS rO y5 (aS rO y5 (eU (Bv false) rO aV (On (aX Q z5 z2))))))))))
      ·refine aA.cond Q (fun MS => ?_) (fun MS => ?_)
       ·refine aA.skip (aA.block (Wr ?_))
        refine aG (Iv xC) y4 (af LT.add aV (aI (Iv (aB (xC + 1))) y4 (On (aA.blk ?_))))
        refine aX Q z4 z2
       ·refine fV y2 z4 z2
     ·refine Ws (Ws (Wr ?_))
      refine aG (Iv gY.2.1) y4 (aG (Cc (lo 21 gY.2.2.1.length)) y4 (aY (LT.lG Q kR) Q Q Q (af LT.eql y5 (On (aA.cond Q (fun Vx => ?_) (fun Vx => ?_))))))
      ·refine aA.exit Q (Wr ?_)
       refine aG (Iv gY.1) y4 (af LT.add aV (aI (Iv (aB (gY.1 + 1))) y4 (On (aX Q z3 z2))))
      ·refine aA.skip (Ws (Wr ?_))
       refine aG (Cc (lo 21 gY.2.2.1.length)) y4 (aG (Iv gY.2.1) y4 (aP fun pO DK => (iq (LT.fP Q Q l9 DK) Q Q Q Q Q (bM (kC 0 Q fF DK) Q Q Q Q (aI (Cc (xT aF pO)) y4 (On (Ws (Wr ?_))))))))
       refine aG (Cc (lo 21 gY.2.2.1.length)) y4 (aG (Iv gY.2.1) y4 (aG (Cc (lo 21 gY.2.2.1.length)) y4 (aG (Cc (lo 25 gY.2.2.2.length)) y4 (aY (LT.lG Q dS) Q Q Q (aP fun pU yX => (iq (LT.fP Q Q l9 yX) Q Q Q Q Q (bM (kC 0 Q fF yX) Q Q Q Q (aP fun AY BI => (iq (LT.fP Q Q l9 BI) Q Q Q Q Q (bQ (lq 0 (.c (xT aF pU)) pU Q Q wW uQ BI) Q Q Q Q Q (On (Ws ?_))))))))))))
       refine en [(4,Cc (lo 21 gY.2.2.1.length)),(6,Cc (lo 25 gY.2.2.2.length)),(7,Iv gY.1),(9,Cc (xT aF pO))] [(21,pR 28 (dQ true) (gY.2.2.1.set gY.2.1.toNat pU)),(25,pR 3 aF gY.2.2.2)] z4 z2 (Wr (aG (Cc (lo 21 gY.2.2.1.length)) y4 (aG (Cc (lo 25 gY.2.2.2.length)) y4 (aY (LT.lG Q dS) Q Q Q (aG (Cc (xT aF pO)) y4 (aP fun yE zX => (iq (LT.fP (show gY.2.2.1.length = (gY.2.2.1.set gY.2.1.toNat pU).length by simp only [List.length_set]) Q l9 zX) Q Q Q Q Q (bQ (lq 0 (.c (xT aF pO)) pO Q Q wW uQ zX) Q Q Q Q Q (On (Ws (Ws (Wr ?_))))))))))))
       refine aI (Iv 0) aZ (On (aA.block ?_))
       refine aA.jI (id:=6) (J6 gY pO) (fun lC => ([(4,Cc (lo 21 lC.2.length)),(6,Cc (lo 25 gY.2.2.2.length)),(7,Iv gY.1),(9,Cc (xT aF pO)),(10,Iv lC.1)],[(21,pR 28 (dQ true) lC.2),(25,pR 3 aF gY.2.2.2)])) (fun qV => ([(4,Cc (lo 21 qV.2.1.length)),(6,Cc (lo 25 qV.2.2.length)),(7,Iv qV.1)],[(21,pR 28 (dQ true) qV.2.1),(25,pR 3 aF qV.2.2)])) ?_ (aQ.of ⟨congrArg (fun l1 => (some (AV.s (.c (lo 21 l1))):Option AV)) (show gY.2.2.1.length = ((gY.2.2.1.set gY.2.1.toNat pU).set (gY.2.2.2.length:Int).toNat pO).length by simp only [List.length_set]),Q,Q,Q,Q,J⟩ z2) Q (fun qV _ => ?_)
       ·intro lC
        unfold J6
        refine Ws (Ws (Wr ?_))
        refine aG (Iv lC.1) y4 (aG (Cc (lo 21 lC.2.length)) y4 (aY (LT.lG Q kR) Q Q Q (af LT.lss y5 (On (aA.cond Q (fun aHI => ?_) (fun aHI => ?_))))))
        ·refine aA.skip (Ws (aA.block (Ws ?_)))
         refine aA.eP (fun SE => ([(4,Cc (lo 21 lC.2.length)),(6,Cc (lo 25 gY.2.2.2.length)),(7,Iv gY.1),(9,Cc (xT aF pO)),(10,Iv lC.1),(98,Bv SE)],[(21,pR 28 (dQ true) lC.2),(25,pR 3 aF gY.2.2.2)])) ?_ (fun SE _ => ?_)
         ·refine Wr (aG (Iv lC.1) y4 (aG (Cc (lo 25 gY.2.2.2.length)) y4 (aY (LT.lG Q dS) Q Q Q (af LT.neq y5 (aG (Bv (lC.1 != (gY.2.2.2.length:Int))) y4 (aO.split (fun rQ => ?_) (fun rQ => ?_)))))))
          ·refine eu (Cc (lo 21 lC.2.length)) rQ y5 (eu (Iv lC.1) rQ y5 (aP fun aEl aBT => (iq (LT.fP Q Q l9 aBT) Q Q Q (gH rQ Q Q) Q (bM (kC 0 Q fF aBT) Q Q (gH rQ Q Q) Q (eu (Iv gY.1) rQ y5 (aP fun Yx aI9 => (dY (LT.eF (enc:=aF) Q dU aI9 gI) Q Q (gH rQ Q Q) Q (aY (LT.iw Q ak) Q (gH rQ Q Q) Q (iy LT.neq rQ kD (dJ (Bv (Yx != 0)) rQ y5 (On ?_)))))))))))
           refine aX Q z6 z2
          ·refine aS rQ y5 (aS rQ y5 (aS rQ y5 (aS rQ y5 (aS rQ y5 (aS rQ y5 (aS rQ y5 (aS rQ y5 (eU (Bv false) rQ aV (On (aX Q z6 z2))))))))))
         ·refine aA.eP (fun Nr => ([(4,Cc (lo 21 Nr.length)),(6,Cc (lo 25 gY.2.2.2.length)),(7,Iv gY.1),(9,Cc (xT aF pO)),(10,Iv lC.1)],[(21,pR 28 (dQ true) Nr),(25,pR 3 aF gY.2.2.2)])) ?_ (fun Nr _ => ?_)
          ·refine aA.cond Q (fun Vy => ?_) (fun Vy => ?_)
           ·refine Wr (aG (Cc (lo 21 lC.2.length)) y4 (aG (Iv lC.1) y4 (aG (Cc (lo 21 lC.2.length)) y4 (aG (Iv lC.1) y4 (aP fun Ug aBU => (iq (LT.fP Q Q l9 aBU) Q Q Q Q Q (bM (kC 0 Q fF aBU) Q Q Q Q (aG (Cc (xT aF pO)) y4 (aG (Iv gY.1) y4 (aP fun KW aH5 => (aO.step (cZ [.c (xT aF Ug),.c (xT aF pO),.c (iC gY.1)] (Fw.Fn.ren [(0,27)] (aM4 Ug pO gY.1 KW aH5) Q) aFk (.cons (.c (.weak (.same Q) (QW.uw YA (fun h => by cases h) _))) (.cons (.c (.weak (.same Q) (QW.uw YA (fun h => by cases h) _))) (.cons (.c (.same Q)) .nil))) J y3) z4 J Q Q ?_)))))))))))
            refine aP fun sV Nj => (iq (LT.fP Q Q l9 Nj) Q Q Q Q Q (aO.ent (aQ.Qs (enc:=aF) 107 27 hU Q Q Q Q) (bQ (lq 0 (.c (xT aF KW)) KW Q Q wW uQ Nj) Q Q Q Q Q (On (aA.nil ⟨Q,aQ.of ⟨congrArg (fun l1 => (some (AV.s (.c (lo 21 l1))):Option AV)) (show lC.2.length = (lC.2.set lC.1.toNat KW).length by simp only [List.length_set]),Q,Q,Q,Q,J⟩ z2⟩)))))
           ·refine aA.skip (aX Q z5 z2)
          ·refine aA.blk (Wr ?_)
           refine aG (Iv lC.1) y4 (af LT.add aV (aI (Iv (aB (lC.1 + 1))) y4 (On (aX Q z5 z2))))
        ·refine fV y2 z3 z2
       ·refine Wr (aG (Cc (lo 25 qV.2.2.length)) y4 (aG (Iv qV.1) y4 (nP (iO 28 aF [(0,.tmp 110,.c (iC qV.1))] ([qV.1]:List Int) dS iH y7) Q Q Q (aP fun aL2 aIf => (ny (LT.nZ (enc:=aF) Q Q Q dS iH Q (by decide) (by decide) (fun _ => Q) (jo aIf)) Q Q Q Q Q Q (aI (Cc (lo 25 ((qV.2.2 ++ ([qV.1]:List Int)).length))) y4 (On (aA.blk (Wr ?_)))))))))
        refine aG (Iv qV.1) y4 (af LT.add aV (aI (Iv (aB (qV.1 + 1))) y4 (On (aX Q z3 z2))))
    ·refine fV y2 z2 z2
  ·refine Ws (Wr ?_)
   refine aG (Cc (lo 21 qm.1.length)) y4 (aG (Cc (lo 25 qm.2.length)) y4 (aI (Cc (lo 21 qm.1.length)) y4 (aI (Cc (lo 25 qm.2.length)) y4 (On (en [(2,Cc (lo 21 qm.1.length)),(3,Cc (lo 25 qm.2.length))] [(21,pR 28 (dQ true) qm.1),(25,pR 3 aF qm.2)] z2 z2 (aA.ent (aQ.mv 21 0 Q Q) (aA.ent (aQ.mv 25 1 Q Q) (en [(2,Cc (lo 0 qm.1.length)),(3,Cc (lo 1 qm.2.length))] [(0,pR 28 (dQ true) qm.1),(1,pR 3 aF qm.2)] z2 z2 (bP z2 z2 ⟨J,J,J⟩ ⟨bD.bf PY,bD.bf dw,J⟩)))))))))
theorem aM3 (m:(List (List Int))) (columns:Int):FT Tryz.prog (O9 m columns) 153 [.c (xF (dQ false) m),.c (iC columns)] [] (fun (t:(List (List Int))) => [.c (lo 0 t.length)]) (fun (t:(List (List Int))) => [(0,pR 28 (dQ true) t)]) [0]:=by
 refine FT.F7 [] Tryz.func153 Tryz.ntmps153 Q y2 ?_
 intro w0 U0 R0 g0 hU
 unfold O9
 refine Ws (Wr ?_)
 refine aI (Cc (sC aJ)) aZ (On (Ws (Wr ?_)))
 refine l7 (iO 21 (dQ true) [] ([]:List (List Int)) kR pK y7) Q Q (aI (Cc (lo 21 (([]:List (List Int)).length))) y4 (On (Ws (Wr ?_))))
 refine aG (Cc (xF (dQ false) m)) y4 (aP fun r1 hr1 => (aO.step (cZ [.c (xF (dQ false) m)] (Fw.Fn.ren [(0,23),(1,24)] (aEd m r1 hr1) Q) Zn (kQ Q) J y3) z2 J Q Q (aG (.dM [.c (lo 23 r1.1.length),.c (lo 24 r1.2.length)]) y4 (gy (.c (lo 23 r1.1.length)) y5 (gy (.c (lo 24 r1.2.length)) y5 (aI (Cc (lo 23 r1.1.length)) y4 (aI (Cc (lo 24 r1.2.length)) y4 (On (Ws (Ws ?_))))))))))
 refine en [(1,Iv columns),(5,Cc (lo 21 (([]:List (List Int)).length))),(6,Cc (lo 23 r1.1.length)),(7,Cc (lo 24 r1.2.length))] [(21,pR 28 (dQ true) ([]:List (List Int))),(23,pR 28 (dQ true) r1.1),(24,pR 3 aF r1.2)] z4 z3 (Wr (aI (Iv 0) aZ (On (aA.block ?_))))
 refine aA.jI (id:=0) (Jw columns) (fun s2 => ([(1,Iv columns),(5,Cc (lo 21 s2.2.1.length)),(6,Cc (lo 23 s2.2.2.1.length)),(7,Cc (lo 24 s2.2.2.2.length)),(8,Iv s2.1)],[(21,pR 28 (dQ true) s2.2.1),(23,pR 28 (dQ true) s2.2.2.1),(24,pR 3 aF s2.2.2.2)])) (fun yH => ([(5,Cc (lo 21 yH.length))],[(21,pR 28 (dQ true) yH)])) ?_ (aQ.of z5 z3) Q (fun yH _ => ?_)
 ·intro s2
  unfold Jw
  refine Ws (Ws (Wr ?_))
  refine aG (Iv s2.1) y4 (aG (Iv columns) y4 (af LT.lss y5 (On (aA.cond Q (fun hc114 => ?_) (fun hc114 => ?_)))))
  ·refine aA.skip (Ws (aA.block (Ws (Ws (Wr ?_)))))
   refine aG (Cc (lo 24 s2.2.2.2.length)) y4 (aG (Iv s2.1) y4 (aP fun YB aHt => (aO.pure (cF [.c (lo 24 s2.2.2.2.length),.c (iC s2.1)] [(24,pR 3 aF s2.2.2.2)] (aEZ s2.2.2.2 s2.1 YB aHt) aAB (.cons (.c (.fC Q Q)) (.cons (.c (.same Q)) .nil)) J y3) z3 z1 Q Q (On (aA.cond Q (fun Vs => ?_) (fun Vs => ?_))))))
   ·refine aA.exit Q (Wr ?_)
    refine aG (Iv s2.1) y4 (af LT.add aV (aI (Iv (aB (s2.1 + 1))) y4 (On (aX Q z5 z3))))
   ·refine aA.skip (Ws (Wr ?_))
    refine aI (Iv 1) aZ (On (Ws (Ws (Wr ?_))))
    refine aI (Iv 0) aZ (On (aA.block ?_))
    refine aA.jI (id:=2) (Jy s2) (fun jS => ([(1,Iv columns),(5,Cc (lo 21 s2.2.1.length)),(6,Cc (lo 23 s2.2.2.1.length)),(7,Cc (lo 24 s2.2.2.2.length)),(8,Iv s2.1),(9,Iv jS.1),(10,Iv jS.2)],[(21,pR 28 (dQ true) s2.2.1),(23,pR 28 (dQ true) s2.2.2.1),(24,pR 3 aF s2.2.2.2)])) (fun gu => ([(1,Iv columns),(5,Cc (lo 21 gu.2.2.1.length)),(6,Cc (lo 23 gu.2.2.2.1.length)),(7,Cc (lo 24 gu.2.2.2.2.length)),(8,Iv gu.1),(9,Iv gu.2.1)],[(21,pR 28 (dQ true) gu.2.2.1),(23,pR 28 (dQ true) gu.2.2.2.1),(24,pR 3 aF gu.2.2.2.2)])) ?_ (aQ.of z7 z3) Q (fun gu _ => ?_)
    ·intro jS
     unfold Jy
     refine Ws (Ws (Wr ?_))
     refine aG (Iv jS.2) y4 (aG (Cc (lo 24 s2.2.2.2.length)) y4 (aY (LT.lG Q dS) Q Q Q (af LT.lss y5 (On (aA.cond Q (fun aG9 => ?_) (fun aG9 => ?_))))))
     ·refine aA.skip (Ws (aA.block (Ws (aA.draw mixed ?_))))
      refine bJ (Cc (lo 23 s2.2.2.1.length)) y4 (bJ (Iv jS.2) y4 (aU.bind fun aEi aBJ => (jV (LT.fP Q Q l9 aBJ) Q Q Q Q Q (gq (kC 0 Q fF aBJ) Q Q Q Q (bJ (Cc (lo 24 s2.2.2.2.length)) y4 (bJ (Iv jS.2) y4 (aU.bind fun LK RP => (jV (LT.fP Q Q dU RP) Q Q Q Q Q (gq (kC 0 Q ak RP) Q Q Q Q (aU.bind fun lK XD => (dZ (LT.eF (enc:=aF) Q dU XD gI) Q Q Q Q ?_)))))))))))
      refine bg (LT.iw Q ak) Q Q Q (bJ (Cc (lo 23 s2.2.2.1.length)) y4 (bJ (Iv jS.2) y4 (aU.bind fun LM RQ => (jV (LT.fP Q Q l9 RQ) Q Q Q Q Q (gq (kC 0 Q fF RQ) Q Q Q Q (bJ (Cc (lo 24 s2.2.2.2.length)) y4 (bJ (Iv jS.2) y4 (aU.bind fun x150 hx150 => (jV (LT.fP Q Q dU hx150) Q Q Q Q Q (gq (kC 0 Q ak hx150) Q Q Q Q (aU.bind fun x151 hx151 => ?_)))))))))))
      refine dZ (LT.eF (enc:=aF) Q dU hx151 gI) Q Q Q Q (bg (LT.iw Q ak) Q Q Q (bg (LT.neg Q) Q Q Q (jJ LT.max y5 (bg (LT.assign (v:=(Iv (if lK < (aB (-x151)) then (aB (-x151)) else lK))) Q) Q Q Q (fA (Ws (en [(1,Iv columns),(5,Cc (lo 21 s2.2.1.length)),(6,Cc (lo 23 s2.2.2.1.length)),(7,Cc (lo 24 s2.2.2.2.length)),(8,Iv s2.1),(9,Iv jS.1),(10,Iv jS.2),(11,Iv (if lK < (aB (-x151)) then (aB (-x151)) else lK))] [(21,pR 28 (dQ true) s2.2.1),(23,pR 28 (dQ true) s2.2.2.1),(24,pR 3 aF s2.2.2.2)] z8 z3 (Wr (aG (Iv (if lK < (aB (-x151)) then (aB (-x151)) else lK)) y4 (aG (Iv (if lK < (aB (-x151)) then (aB (-x151)) else lK)) y4 (aG (Cc (lo 23 s2.2.2.1.length)) y4 ?_)))))))))))
      refine aG (Iv jS.2) y4 (aP fun x152 hx152 => (iq (LT.fP Q Q l9 hx152) Q Q Q Q Q (bM (kC 0 Q fF hx152) Q Q Q Q (aG (Iv s2.1) y4 (aP fun x153 hx153 => (dY (LT.eF (enc:=aF) Q dU hx153 gI) Q Q Q Q (aY (LT.iw Q ak) Q Q Q (aP fun rE WN => (jD [.c (iC (if lK < (aB (-x151)) then (aB (-x151)) else lK)),.c (iC x153)] (Ua (if lK < (aB (-x151)) then (aB (-x151)) else lK) x153 rE WN) QV (iZ y2) y5 z3 (aP fun aLw aIZ => (dY (LT.quo Q (wo aIZ)) Q Q Q Q ?_)))))))))))
      refine aI (Iv (aB (Int.tdiv (if lK < (aB (-x151)) then (aB (-x151)) else lK) rE))) y4 (On (en [(1,Iv columns),(5,Cc (lo 21 s2.2.1.length)),(6,Cc (lo 23 s2.2.2.1.length)),(7,Cc (lo 24 s2.2.2.2.length)),(8,Iv s2.1),(9,Iv jS.1),(10,Iv jS.2),(12,Iv (aB (Int.tdiv (if lK < (aB (-x151)) then (aB (-x151)) else lK) rE)))] [(21,pR 28 (dQ true) s2.2.1),(23,pR 28 (dQ true) s2.2.2.1),(24,pR 3 aF s2.2.2.2)] z8 z3 (Wr (aG (Iv jS.1) y4 (aG (Iv jS.1) y4 (aG (Iv (aB (Int.tdiv (if lK < (aB (-x151)) then (aB (-x151)) else lK) rE))) y4 (aP fun xB WO => (jD [.c (iC jS.1),.c (iC (aB (Int.tdiv (if lK < (aB (-x151)) then (aB (-x151)) else lK) rE)))] (Ua jS.1 (aB (Int.tdiv (if lK < (aB (-x151)) then (aB (-x151)) else lK) rE)) xB WO) QV (iZ y2) y5 z3 (aP fun aLx aIa => (dY (LT.quo Q (wo aIa)) Q Q Q Q (aG (Iv (aB (Int.tdiv (if lK < (aB (-x151)) then (aB (-x151)) else lK) rE))) y4 ?_)))))))))))
      refine af LT.mul y5 (aI (Iv (aB ((aB (Int.tdiv jS.1 xB)) * (aB (Int.tdiv (if lK < (aB (-x151)) then (aB (-x151)) else lK) rE))))) y4 (On (aA.blk (Wr ?_))))
      refine aG (Iv jS.2) y4 (af LT.add aV (aI (Iv (aB (jS.2 + 1))) y4 (On (aX Q z7 z3))))
     ·refine fV y2 z6 z3
    ·refine Ws (Wr ?_)
     refine aG (Iv columns) y4 (aP fun aLy aIb => (zD (LT.CP (n:=28) (enc:=aF) (zc:=[iC 0]) (0:Int) Q dS iH Q Q Q (by decide) (by decide) (zY aIb) Q) Q Q Q Q (aI (Cc (lo 28 ((List.replicate columns.toNat (0:Int)).length))) y4 (On (Ws (Wr ?_))))))
     refine aG (Cc (lo 28 ((List.replicate columns.toNat (0:Int)).length))) y4 (aG (Iv gu.1) y4 (aG (Iv gu.2.1) y4 (aP fun x159 hx159 => (iq (LT.fP Q Q dU hx159) Q Q Q Q Q (bQ (lq 0 (.c (iC gu.2.1)) gu.2.1 Q Q mJ gI hx159) Q Q Q Q Q (On (Ws (Ws ?_))))))))
     refine en [(1,Iv columns),(5,Cc (lo 21 gu.2.2.1.length)),(6,Cc (lo 23 gu.2.2.2.1.length)),(7,Cc (lo 24 gu.2.2.2.2.length)),(8,Iv gu.1),(9,Iv gu.2.1),(13,Cc (lo 28 ((List.replicate columns.toNat (0:Int)).length)))] [(21,pR 28 (dQ true) gu.2.2.1),(23,pR 28 (dQ true) gu.2.2.2.1),(24,pR 3 aF gu.2.2.2.2),(28,pR 3 aF ((List.replicate columns.toNat (0:Int)).set gu.1.toNat gu.2.1))] z7 z4 (Wr (aI (Iv 0) aZ (On (aA.block ?_))))
     refine aA.jI (id:=4) (Jz gu) (fun oK => ([(1,Iv columns),(5,Cc (lo 21 gu.2.2.1.length)),(6,Cc (lo 23 gu.2.2.2.1.length)),(7,Cc (lo 24 gu.2.2.2.2.length)),(8,Iv gu.1),(9,Iv gu.2.1),(13,Cc (lo 28 oK.2.length)),(14,Iv oK.1)],[(21,pR 28 (dQ true) gu.2.2.1),(23,pR 28 (dQ true) gu.2.2.2.1),(24,pR 3 aF gu.2.2.2.2),(28,pR 3 aF oK.2)])) (fun jg => ([(1,Iv columns),(5,Cc (lo 21 jg.2.1.length)),(6,Cc (lo 23 jg.2.2.1.length)),(7,Cc (lo 24 jg.2.2.2.1.length)),(8,Iv jg.1),(13,Cc (lo 28 jg.2.2.2.2.length))],[(21,pR 28 (dQ true) jg.2.1),(23,pR 28 (dQ true) jg.2.2.1),(24,pR 3 aF jg.2.2.2.1),(28,pR 3 aF jg.2.2.2.2)])) ?_ (aQ.of ⟨Q,Q,Q,Q,Q,Q,congrArg (fun l1 => (some (AV.s (.c (lo 28 l1))):Option AV)) (show (List.replicate columns.toNat (0:Int)).length = ((List.replicate columns.toNat (0:Int)).set gu.1.toNat gu.2.1).length by simp only [List.length_set]),Q,J⟩ z4) Q (fun jg _ => ?_)
     ·intro oK
      unfold Jz
      refine Ws (Ws (Wr ?_))
      refine aG (Iv oK.1) y4 (aG (Cc (lo 24 gu.2.2.2.2.length)) y4 (aY (LT.lG Q dS) Q Q Q (af LT.lss y5 (On (aA.cond Q (fun MS => ?_) (fun MS => ?_))))))
      ·refine aA.skip (Ws (aA.block (aA.draw mixed ?_)))
       refine bJ (Cc (lo 28 oK.2.length)) y4 (bJ (Cc (lo 24 gu.2.2.2.2.length)) y4 (bJ (Iv oK.1) y4 (aU.bind fun zA Nc => (jV (LT.fP Q Q dU Nc) Q Q Q Q Q (gq (kC 0 Q ak Nc) Q Q Q Q (bJ (Cc (lo 23 gu.2.2.2.1.length)) y4 (bJ (Iv oK.1) y4 (aU.bind fun pO DK => (jV (LT.fP Q Q l9 DK) Q Q Q Q Q (gq (kC 0 Q fF DK) Q Q Q Q (bJ (Iv gu.1) y4 ?_)))))))))))
       refine aU.bind fun pU yX => (dZ (LT.eF (enc:=aF) Q dU yX gI) Q Q Q Q (bg (LT.iw Q ak) Q Q Q (bJ (Iv gu.2.1) y4 (jJ LT.mul y5 (bJ (Cc (lo 23 gu.2.2.2.1.length)) y4 (bJ (Iv oK.1) y4 (aU.bind fun AY BI => (jV (LT.fP Q Q l9 BI) Q Q Q Q Q (gq (kC 0 Q fF BI) Q Q Q Q (bJ (Cc (lo 24 gu.2.2.2.2.length)) y4 (bJ (Iv oK.1) y4 ?_)))))))))))
       refine aU.bind fun yE zX => (jV (LT.fP Q Q dU zX) Q Q Q Q Q (gq (kC 0 Q ak zX) Q Q Q Q (aU.bind fun vw E8 => (dZ (LT.eF (enc:=aF) Q dU E8 gI) Q Q Q Q (bg (LT.iw Q ak) Q Q Q (aU.bind fun aLz aIc => (dZ (LT.quo Q (wo aIc)) Q Q Q Q (bg (LT.neg Q) Q Q Q (aU.bind fun QD Nh => (jV (LT.fP Q Q dU Nh) Q Q Q Q Q (kJ (lq 0 (.c (iC (aB (-(aB (Int.tdiv (aB (pU * gu.2.1)) vw)))))) (aB (-(aB (Int.tdiv (aB (pU * gu.2.1)) vw)))) Q Q mJ gI Nh) Q Q Q Q Q ?_)))))))))))
       refine fA (aA.blk (en [(1,Iv columns),(5,Cc (lo 21 gu.2.2.1.length)),(6,Cc (lo 23 gu.2.2.2.1.length)),(7,Cc (lo 24 gu.2.2.2.2.length)),(8,Iv gu.1),(9,Iv gu.2.1),(13,Cc (lo 28 oK.2.length)),(14,Iv oK.1)] [(21,pR 28 (dQ true) gu.2.2.1),(23,pR 28 (dQ true) gu.2.2.2.1),(24,pR 3 aF gu.2.2.2.2),(28,pR 3 aF (oK.2.set zA.toNat (aB (-(aB (Int.tdiv (aB (pU * gu.2.1)) vw))))))] z8 z4 (Wr (aG (Iv oK.1) y4 (af LT.add aV (aI (Iv (aB (oK.1 + 1))) y4 (On (aA.nil ⟨Q,aQ.of ⟨Q,Q,Q,Q,Q,Q,congrArg (fun l1 => (some (AV.s (.c (lo 28 l1))):Option AV)) (show oK.2.length = (oK.2.set zA.toNat (aB (-(aB (Int.tdiv (aB (pU * gu.2.1)) vw))))).length by simp only [List.length_set]),Q,J⟩ z4⟩))))))))
      ·refine fV y2 z6 z4
     ·refine Wr (aG (Cc (lo 21 jg.2.1.length)) y4 (aG (Cc (lo 28 jg.2.2.2.2.length)) y4 (aP fun Bz aH4 => (aO.step (cF [.c (lo 28 jg.2.2.2.2.length)] [(28,pR 3 aF jg.2.2.2.2)] (Fw.Fn.ren [(0,30)] (aER jg.2.2.2.2 Bz aH4) Q) Zw (.cons (.c (.fC Q Q)) .nil) J y3) z2 z1 Q Q (aO.ent (aQ.Qs (enc:=aF) 116 30 hU Q Q Q Q) (nP (iO 31 (dQ true) [(0,.tmp 116,.c (xT aF Bz))] [Bz] kR pK y7) Q Q Q (aP fun aL0 aId => (ny (LT.nZ (enc:=(dQ true)) Q Q Q kR pK Q (by decide) (by decide) (fun _ => Q) (jo aId)) Q Q Q Q Q Q (aI (Cc (lo 21 ((jg.2.1 ++ [Bz]).length))) y4 (On (aA.blk ?_)))))))))))
      refine en [(1,Iv columns),(5,Cc (lo 21 ((jg.2.1 ++ [Bz]).length))),(6,Cc (lo 23 jg.2.2.1.length)),(7,Cc (lo 24 jg.2.2.2.1.length)),(8,Iv jg.1)] [(21,pR 28 (dQ true) (jg.2.1 ++ [Bz])),(23,pR 28 (dQ true) jg.2.2.1),(24,pR 3 aF jg.2.2.2.1)] z5 z3 (Wr (aG (Iv jg.1) y4 (af LT.add aV (aI (Iv (aB (jg.1 + 1))) y4 (On (aX Q z5 z3))))))
  ·refine fV y2 z1 z1
 ·refine Ws (Wr ?_)
  refine aG (Cc (lo 21 yH.length)) y4 (aI (Cc (lo 21 yH.length)) y4 (On (en [(4,Cc (lo 21 yH.length))] [(21,pR 28 (dQ true) yH)] z1 z1 (aA.ent (aQ.mv 21 0 Q Q) (en [(4,Cc (lo 0 yH.length))] [(0,pR 28 (dQ true) yH)] z1 z1 (bP z1 z1 ⟨J,J⟩ ⟨bD.bf PY,J⟩))))))
theorem aMr (f:bF):FT Tryz.prog (Ot f) 103 [.agg (bn f)] [] (fun (t:(List (List Int))) => [.c (lo 0 t.length)]) (fun (t:(List (List Int))) => [(0,pR 28 (dQ true) t)]) [0]:=by
 refine FT.of [] Tryz.func103 Tryz.ntmps103 Q y2 ?_
 intro w0 U0 R0 g0
 unfold Ot
 refine Ws (Wr ?_)
 refine iL 21 (.agg (bn f)) dB y5 (aI (Cc (sC aJ)) aZ (On (Ws (Ws ?_))))
 refine aA.eP (fun j3 => ([(1,Cc (.pl 21 0)),(12,Bv j3)],[(21,.row 46 [bn f])])) ?_ (fun j3 _ => ?_)
 ·refine Wr (bM (bV (bn f) Q gJ dR dB) Q Q Q Q (aP fun r4 hr4 => (jD [.agg (bn f)] (AP f r4 hr4) zK (oL y3) y5 z2 (aY (LT.not Q) Q Q Q (aG (Bv (!r4)) y4 (aO.split (fun hb5 => ?_) (fun hb5 => ?_)))))))
  ·refine aS hb5 y5 (aS hb5 y5 (aS hb5 y5 (aS hb5 y5 (aS hb5 y5 (dJ (Bv true) hb5 aV (On (aX Q z2 z1)))))))
  ·refine aY (LT.gU Q lF) Q (gH hb5 Q Q) Q (kE (xF aK f.Graph.aC) gK iK hb5 iM (aY (LT.iI Q iU) Q (gH hb5 Q Q) Q (iy LT.eql hb5 kD (eU (Bv ((f.Graph.aC.length:Int) == 0)) hb5 y5 (On (aX Q z2 z1))))))
 ·refine aA.cond Q (fun hc6 => ?_) (fun hc6 => ?_)
  ·refine Ws (Wr ?_)
   refine l7 (iO 23 (dQ true) [] ([]:List (List Int)) kR pK y7) Q Q (aI (Cc (lo 23 (([]:List (List Int)).length))) y4 (On (en [(2,Cc (lo 23 (([]:List (List Int)).length)))] [(23,pR 28 (dQ true) ([]:List (List Int)))] z1 z1 (aA.ent (aQ.mv 23 0 Q Q) (en [(2,Cc (lo 0 (([]:List (List Int)).length)))] [(0,pR 28 (dQ true) ([]:List (List Int)))] z1 z1 (bP z1 z1 ⟨J,J⟩ ⟨bD.bf PY,J⟩))))))
  ·refine aA.skip (Ws (aA.draw mixed ?_))
   refine gq (bV (bn f) Q gJ dR dB) Q Q Q Q (aU.bind fun r7 oI => (aU.step (cZ [.agg (bn f)] (Fw.Fn.ren [(0,25),(1,26)] (aMu f r7 oI) Q) aFY (oL y3) J y3) z2 J Q Q (bg (LT.gU Q lF) Q Q Q (eH (xF aK f.Graph.aC) gK iK ax (bg (LT.iI Q iU) Q Q Q (aU.bind fun r8 tJ => (aU.step (cF [.c (lo 25 r7.length),.c (iC (f.Graph.aC.length:Int))] [(25,.bZ 28 26 (bK r7)),(26,.pool 3 (rowsOf aF r7))] (Fw.Fn.ren [(0,28)] (aM3 r7 (f.Graph.aC.length:Int) r8 tJ) Q) aFX (.cons (.c (.UQ Q Q Q (fun _ => Q))) (.cons (.c (.same Q)) .nil)) J y3) z3 z2 Q Q (bg (LT.assign (v:=(Cc (lo 28 r8.length))) Q) Q Q Q (fA (en [(2,Cc (lo 28 r8.length))] [(28,pR 28 (dQ true) r8)] z1 z1 ?_))))))))))
   refine aA.ent (aQ.mv 28 0 Q Q) (en [(2,Cc (lo 0 r8.length))] [(0,pR 28 (dQ true) r8)] z1 z1 (bP z1 z1 ⟨J,J⟩ ⟨bD.bf PY,J⟩))
theorem aMY (m:(List (List Int))) (columns:Int):FT Tryz.prog (SN m columns) 165 [.c (xF (dQ false) m),.c (iC columns)] [] (fun (t:Int) => [.c (iC t)]) (fun (t:Int) => []) []:=by
 refine FT.of [] Tryz.func165 Tryz.ntmps165 Q y2 ?_
 intro w0 U0 R0 g0
 unfold SN
 refine Ws (Wr ?_)
 refine aI (Iv 0) aZ (On (Ws (Wr ?_)))
 refine aG (Cc (xF (dQ false) m)) y4 (aG (Iv columns) y4 (aP fun r1 hr1 => (aO.step (cZ [.c (xF (dQ false) m),.c (iC columns)] (Fw.Fn.ren [(0,22),(1,23),(2,24)] (aEK m columns r1 hr1) Q) Zv (iZ y2) J y3) z3 J Q Q (aG (.dM [.c (lo 22 r1.1.length),.c (lo 24 r1.2.1.length),.c (iC r1.2.2)]) y4 (gy (.c (lo 22 r1.1.length)) y5 (gy (.c (lo 24 r1.2.1.length)) y5 (gy (.c (iC r1.2.2)) y5 (aI (Cc (lo 22 r1.1.length)) y4 (aI (Cc (lo 24 r1.2.1.length)) y4 (aI (Iv r1.2.2) y4 (On (Ws ?_))))))))))))
 refine en [(6,Cc (lo 24 r1.2.1.length))] [(24,pR 3 aF r1.2.1)] z1 z1 (Wr (aG (Cc (lo 24 r1.2.1.length)) y4 (aY (LT.lG Q dS) Q Q Q (aI (Iv (r1.2.1.length:Int)) y4 (On (bP z1 J ⟨ah.sc,J⟩ J))))))
theorem aEA (f:bF):FT Tryz.prog (IW f) 129 [.agg (bn f)] [] (fun (t:Int) => [.c (iC t)]) (fun (t:Int) => []) []:=by
 refine FT.of [] Tryz.func129 Tryz.ntmps129 Q y2 ?_
 intro w0 U0 R0 g0
 unfold IW
 refine Ws (Wr ?_)
 refine iL 21 (.agg (bn f)) dB y5 (aI (Iv 0) aZ (On (Ws (Ws (Wr ?_)))))
 refine bM (bV (bn f) Q gJ dR dB) Q Q Q Q (aP fun r1 hr1 => (jD [.agg (bn f)] (EK f r1 hr1) C9 (oL y3) y5 z2 (aY (LT.not Q) Q Q Q (On (aA.cond Q (fun hc2 => ?_) (fun hc2 => ?_))))))
 ·refine Ws (Wr ?_)
  refine aI (Iv (-1)) aZ (On (bP z1 J ⟨ah.sc,J⟩ J))
 ·refine aA.skip (Ws (aA.draw mixed ?_))
  refine gq (bV (bn f) Q gJ dR dB) Q Q Q Q (aU.bind fun r3 hr3 => (aU.step (cZ [.agg (bn f)] (Fw.Fn.ren [(0,24),(1,25)] (aEF f r3 hr3) Q) Zk (oL y3) J y3) z2 J Q Q (bg (LT.gU Q lF) Q Q Q (eH (iC f.Graph.aH) kV ak ax (jJ LT.mul qH (aU.bind fun r4 hr4 => (aU.pure (cF [.c (lo 24 r3.length),.c (iC (aB (2 * f.Graph.aH)))] [(24,.bZ 28 25 (bK r3)),(25,.pool 3 (rowsOf aF r3))] (aMY r3 (aB (2 * f.Graph.aH)) r4 hr4) aFb (.cons (.c (.UQ Q Q Q (fun _ => Q))) (.cons (.c (.same Q)) .nil)) J y3) z3 z2 Q Q (bg (LT.assign (v:=(Iv r4)) Q) Q Q Q (fA (bP z1 J ⟨ah.sc,J⟩ J))))))))))
theorem aEN (a:aj) (b:aj):FT Tryz.prog (JL a b) 66 [.agg (ai a),.agg (ai b)] [] (fun (t:Bool) => [.c (bC t)]) (fun (t:Bool) => []) []:=by
 refine FT.of [] Tryz.func66 Tryz.ntmps66 Q y2 ?_
 intro w0 U0 R0 g0
 unfold JL
 refine Ws (Wr ?_)
 refine iL 21 (.agg (ai a)) bU y5 (iL 22 (.agg (ai b)) bU y5 (aI (Bv false) aZ (On (Ws (Ws ?_)))))
 refine aA.eP (fun j2 => ([(2,Cc (.pl 21 0)),(3,Cc (.pl 22 0)),(19,Bv j2)],[(21,.row 26 [ai a]),(22,.row 26 [ai b])])) ?_ (fun j2 _ => ?_)
 ·refine Wr (dK (iC a.aH) kV ak ax (dK (iC b.aH) kV ak ax (af LT.neq y5 (aG (Bv (a.aH != b.aH)) y4 (aO.split (fun hb3 => ?_) (fun hb3 => ?_))))))
  ·refine aS hb3 y5 (aS hb3 y5 (aS hb3 y5 (aS hb3 y5 (aS hb3 y5 (aS hb3 y5 (aS hb3 y5 (dJ (Bv true) hb3 aV (On (aX Q z3 z2)))))))))
  ·refine kE (xF aK a.aC) gK iK hb3 iM (aY (LT.iI Q iU) Q (gH hb3 Q Q) Q (kE (xF aK b.aC) gK iK hb3 iM (aY (LT.iI Q iU) Q (gH hb3 Q Q) Q (iy LT.neq hb3 y6 (eU (Bv ((a.aC.length:Int) != (b.aC.length:Int))) hb3 y5 (On (aX Q z3 z2)))))))
 ·refine aA.cond Q (fun hc4 => ?_) (fun hc4 => ?_)
  ·refine Ws (Wr ?_)
   refine aI (Bv false) aZ (On (bP z1 J ⟨ah.sc,J⟩ J))
  ·refine aA.skip (Ws (Ws (Wr ?_)))
   refine aI (Iv 0) aZ (On (aA.block ?_))
   refine aA.oz (id:=0) (Oe a b) (fun s5 => ([(2,Cc (.pl 21 0)),(3,Cc (.pl 22 0)),(5,Iv s5)],[(21,.row 26 [ai a]),(22,.row 26 [ai b])])) (fun b14 => ([],[])) (lU Tryz.prog Tryz.f66.results.toList [] [] (fun (t:Bool) => [.c (bC t)]) (fun (t:Bool) => [])) ?_ (aQ.of z3 z2) Q (fun b14 _ => ?_) qC
   ·intro s5
    unfold Oe
    refine Ws (Ws (Wr ?_))
    refine aG (Iv s5) y4 (dK (xF aK a.aC) gK iK ax (aY (LT.iI Q iU) Q Q Q (af LT.lss y5 (On (aA.cond Q (fun Az => ?_) (fun Az => ?_))))))
    ·refine aA.skip (Ws (aA.block (Ws (aA.draw mixed ?_))))
     refine eH (xF aK a.aC) gK iK ax (bJ (Iv s5) y4 (aU.bind fun x16 hx16 => (dZ (LT.eF (enc:=aK) Q nU hx16 fB) Q Q Q Q (bg (lH Q kz jL fB) Q Q Q (eH (xF aK b.aC) gK iK ax (bJ (Iv s5) y4 (aU.bind fun x17 Nb => (dZ (LT.eF (enc:=aK) Q nU Nb fB) Q Q Q Q (bg (lH Q kz jL fB) Q Q Q ?_)))))))))
     refine dZ (LT.Sz [x16.A,x16.B] [x17.A,x17.B] Q Ru Q Q) Q Q Q Q (fA (aA.cond Q (fun hc18 => ?_) (fun hc18 => ?_)))
     ·refine Ws (en [] [] J J (Wr (aI (Bv false) aZ (On (aA.ret ⟨Q,pX z1 J ⟨ah.sc,J⟩ J⟩)))))
     ·refine aA.skip (aA.blk ?_)
      refine en [(2,Cc (.pl 21 0)),(3,Cc (.pl 22 0)),(5,Iv s5)] [(21,.row 26 [ai a]),(22,.row 26 [ai b])] z3 z2 (Wr (aG (Iv s5) y4 (af LT.add aV (aI (Iv (aB (s5 + 1))) y4 (On (aX Q z3 z2))))))
    ·refine fV y2 J J
   ·refine Ws (Wr ?_)
    refine aI (Bv true) aZ (On (bP z1 J ⟨ah.sc,J⟩ J))
theorem aEM (a:bF) (b:bF):FT Tryz.prog (JK a b) 46 [.agg (bn a),.agg (bn b)] [] (fun (t:Bool) => [.c (bC t)]) (fun (t:Bool) => []) []:=by
 refine FT.of [] Tryz.func46 Tryz.ntmps46 Q y2 ?_
 intro w0 U0 R0 g0
 unfold JK
 refine Ws (Wr ?_)
 refine iL 21 (.agg (bn a)) dB y5 (iL 22 (.agg (bn b)) dB y5 (aI (Bv false) aZ (On (Ws (Ws ?_)))))
 refine aA.eP (fun j3 => ([(2,Cc (.pl 21 0)),(3,Cc (.pl 22 0)),(20,Bv j3)],[(21,.row 46 [bn a]),(22,.row 46 [bn b])])) ?_ (fun j3 _ => ?_)
 ·refine Wr (aY (LT.gU Q lF) Q Q Q (bM (bV (ai a.Graph) Q eY dA bU) Q Q Q Q (aY (LT.gU Q lF) Q Q Q (bM (bV (ai b.Graph) Q eY dA bU) Q Q Q Q (aP fun r4 hr4 => (jD [.agg (ai a.Graph),.agg (ai b.Graph)] (aEN a.Graph b.Graph r4 hr4) Z8 (Px y4) y5 z3 (aY (LT.not Q) Q Q Q (aG (Bv (!r4)) y4 (aO.split (fun hb5 => ?_) (fun hb5 => ?_))))))))))
  ·refine aS hb5 y5 (aS hb5 y5 (aS hb5 y5 (aS hb5 y5 (aS hb5 y5 (aS hb5 y5 (aS hb5 y5 (dJ (Bv true) hb5 aV (On (aX Q z3 z2)))))))))
  ·refine kE (xF au a.Places) jm kU hb5 iM (aY (LT.iI Q sU) Q (gH hb5 Q Q) Q (kE (xF au b.Places) jm kU hb5 iM (aY (LT.iI Q sU) Q (gH hb5 Q Q) Q (iy LT.neq hb5 y6 (eU (Bv ((a.Places.length:Int) != (b.Places.length:Int))) hb5 y5 (On (aX Q z3 z2)))))))
 ·refine aA.cond Q (fun hc6 => ?_) (fun hc6 => ?_)
  ·refine Ws (Wr ?_)
   refine aI (Bv false) aZ (On (bP z1 J ⟨ah.sc,J⟩ J))
  ·refine aA.skip (Ws (Ws (Wr ?_)))
   refine aI (Iv 0) aZ (On (aA.block ?_))
   refine aA.oz (id:=0) (Oc a b) (fun s7 => ([(2,Cc (.pl 21 0)),(3,Cc (.pl 22 0)),(5,Iv s7)],[(21,.row 46 [bn a]),(22,.row 46 [bn b])])) (fun b16 => ([],[])) (lU Tryz.prog Tryz.f46.results.toList [] [] (fun (t:Bool) => [.c (bC t)]) (fun (t:Bool) => [])) ?_ (aQ.of z3 z2) Q (fun b16 _ => ?_) qC
   ·intro s7
    unfold Oc
    refine Ws (Ws (Wr ?_))
    refine aG (Iv s7) y4 (dK (xF au a.Places) jm kU ax (aY (LT.iI Q sU) Q Q Q (af LT.lss y5 (On (aA.cond Q (fun hc17 => ?_) (fun hc17 => ?_))))))
    ·refine aA.skip (Ws (aA.block (Ws (aA.draw mixed ?_))))
     refine eH (xF au a.Places) jm kU ax (bJ (Iv s7) y4 (aU.bind fun x18 XE => (dZ (LT.eF (enc:=au) Q pG XE jy) Q Q Q Q (bg (lH Q uJ qA jy) Q Q Q (eH (xF au b.Places) jm kU ax (bJ (Iv s7) y4 (aU.bind fun x19 XF => (dZ (LT.eF (enc:=au) Q pG XF jy) Q Q Q Q (bg (lH Q uJ qA jy) Q Q Q ?_)))))))))
     refine dZ (LT.Sz [x18.X,x18.Y] [x19.X,x19.Y] Q Nq Q Q) Q Q Q Q (fA (aA.cond Q (fun A7 => ?_) (fun A7 => ?_)))
     ·refine Ws (en [] [] J J (Wr (aI (Bv false) aZ (On (aA.ret ⟨Q,pX z1 J ⟨ah.sc,J⟩ J⟩)))))
     ·refine aA.skip (aA.blk ?_)
      refine en [(2,Cc (.pl 21 0)),(3,Cc (.pl 22 0)),(5,Iv s7)] [(21,.row 46 [bn a]),(22,.row 46 [bn b])] z3 z2 (Wr (aG (Iv s7) y4 (af LT.add aV (aI (Iv (aB (s7 + 1))) y4 (On (aX Q z3 z2))))))
    ·refine fV y2 J J
   ·refine Ws (Wr ?_)
    refine aI (Bv true) aZ (On (bP z1 J ⟨ah.sc,J⟩ J))
theorem aEO (f:bF):FT Tryz.prog (JM f) 130 [.agg (bn f)] [] (fun (t:Int) => [.c (iC t)]) (fun (t:Int) => []) []:=by
 refine FT.of [] Tryz.func130 Tryz.ntmps130 Q y2 ?_
 intro w0 U0 R0 g0
 unfold JM
 refine Ws (Wr ?_)
 refine iL 21 (.agg (bn f)) dB y5 (aI (Iv 0) aZ (On (Ws (Ws (Wr ?_)))))
 refine bM (bV (bn f) Q gJ dR dB) Q Q Q Q (aP fun r1 hr1 => (jD [.agg (bn f)] (AP f r1 hr1) zK (oL y3) y5 z2 (aY (LT.not Q) Q Q Q (On (aA.cond Q (fun hc2 => ?_) (fun hc2 => ?_))))))
 ·refine Ws (Wr ?_)
  refine aI (Iv (-1)) aZ (On (bP z1 J ⟨ah.sc,J⟩ J))
 ·refine aA.skip (Ws (Wr ?_))
  refine bM (bV (bn f) Q gJ dR dB) Q Q Q Q (aP fun r3 hr3 => (aO.step (cZ [.agg (bn f)] (Fw.Fn.ren [(0,24)] (aEU f r3 hr3) Q) Zl (oL y3) J y3) z2 J Q Q (aP fun r4 hr4 => (aO.step (cF [.c (lo 24 r3.length)] [(24,pR 28 (dQ true) r3)] (Fw.Fn.ren [(0,26),(1,27)] (aEd r3 r4 hr4) Q) Zn (.cons (.c (.weak (.fC (enc:=dQ true) Q Q) (QW.uw aKe (fun h => h) _))) .nil) J y3) z2 z1 Q Q (aG (.dM [.c (lo 26 r4.1.length),.c (lo 27 r4.2.length)]) y4 (gy (.c (lo 26 r4.1.length)) y5 (gy (.c (lo 27 r4.2.length)) y5 (aI (Cc (lo 26 r4.1.length)) y4 (aI (Cc (lo 27 r4.2.length)) y4 (On (Ws ?_)))))))))))
  refine en [(4,Cc (lo 27 r4.2.length))] [(27,pR 3 aF r4.2)] z1 z1 (Wr (aG (Cc (lo 27 r4.2.length)) y4 (aY (LT.lG Q dS) Q Q Q (aI (Iv (r4.2.length:Int)) y4 (On (bP z1 J ⟨ah.sc,J⟩ J))))))
theorem aMt (c:dH):FT Tryz.prog (Ji c) 149 [.c (.pl 0 0)] [(0,.row 105 [fE c])] (fun (t:(bF × dH)) => [.agg [iC t.1.Graph.aH,lo 1 t.1.Graph.aC.length,lo 2 t.1.Places.length]]) (fun (t:(bF × dH)) => [(0,.row 105 [fE t.2]),(1,pR 40 aK t.1.Graph.aC),(2,pR 98 au t.1.Places)]) [1,2]:=by
 refine FT.of [0] Tryz.func149 Tryz.ntmps149 Q y2 ?_
 intro w0 U0 R0 g0
 unfold Ji
 refine Ws (Wr ?_)
 refine eG 21 [iC 0,sC aJ,sC aJ] lJ y6 (On (Ws (Wr ?_)))
 refine aG (Cc (.pl 0 0)) y4 (aP fun r1 hr1 => (aO.step (cZ [.c (.pl 0 0)] (Fw.Fn.ren [(0,0),(1,23),(2,24)] (aEW c r1 hr1) Q) Zu (kQ Q) z1 y3) z2 z1 Q Q (eG 25 [iC 0,sC aJ,sC aJ] lJ y6 (bQ (stA [iC r1.1.Graph.aH,lo 23 r1.1.Graph.aC.length,lo 24 r1.1.Places.length] Q Q dR dB) Q Q Q Q Q (On (Ws (Ws ?_)))))))
 refine en [(0,Cc (.pl 0 0)),(2,Cc (.pl 21 0)),(3,Cc (.pl 25 0))] [(0,.row 105 [fE r1.2]),(21,.row 46 [[iC 0,sC aJ,sC aJ]]),(23,pR 40 aK r1.1.Graph.aC),(24,pR 98 au r1.1.Places),(25,.row 46 [[iC r1.1.Graph.aH,lo 23 r1.1.Graph.aC.length,lo 24 r1.1.Places.length]])] z3 z5 (Wr (aG (Cc (.pl 0 0)) y4 (aP fun r2 hr2 => (aO.step (cZ [.c (.pl 0 0),.c (iC 14)] (Fw.Fn.ren [(0,0)] (lu r1.2 14 r2 hr2) Q) lX (iZ y2) z1 y3) ⟨Q,Q,y2,J⟩ z1 Q Q (On (aA.block (Ws (Wr ?_))))))))
 refine af LT.eql aV (aI (Bv (r2.1 == 0)) y4 (On (aA.eP (fun j7 => ([(2,Cc (.pl 21 0)),(3,Cc (.pl 25 0))],[(0,.row 105 [[xT dI j7.1,iC j7.2.1,iC j7.2.2.1]]),(21,.row 46 [[iC 0,sC aJ,sC aJ]]),(23,pR 40 aK r1.1.Graph.aC),(24,pR 98 au j7.2.2.2),(25,.row 46 [[iC r1.1.Graph.aH,lo 23 r1.1.Graph.aC.length,lo 24 j7.2.2.2.length]])])) ?_ (fun j7 _ => ?_))))
 ·refine aA.cond Q (fun hc8 => ?_) (fun hc8 => ?_)
  ·refine aA.draw mixed (eH (lo 24 r1.1.Places.length) jm kU ax (bJ (Cc (.pl 0 0)) y4 (Y2 (iO 27 aF [(0,.const (.int .i64 (-1)),.c (iC (-1))),(1,.const (.int .i64 5),.c (iC 5)),(2,.const (.int .i64 9),.c (iC 9))] ([-1,5,9]:List Int) dS iH y7) y2 y2 y2 Q Q (aU.bind fun r9 rX => (aU.step (cF [.c (.pl 0 0),.c (lo 27 (([-1,5,9]:List Int).length))] [(27,pR 3 aF ([-1,5,9]:List Int))] (Fw.Fn.ren [(0,0)] (Ub r2.2 ([-1,5,9]:List Int) r9 rX) Q) QU (.cons (.c (.same Q)) (.cons (.c (.fC Q Q)) .nil)) z1 y3) z3 z2 Q Q (aU.bind fun x10 BH => (jV (LT.fP Q Q pG BH) Q y2 Q Q Q (bg (LT.gU Q xM) Q Q Q (kJ (lq 0 (.c (iC r9.1)) (dh.mk r9.1 x10.Y) Q Q mJ gI BH) Q Q Q Q Q (fA ?_))))))))))
   refine aA.nil ⟨Q,aQ.of z2 ⟨Q,Q,Q,Q,congrArg (fun l1 => (some (Ob.row 46 [[iC r1.1.Graph.aH,lo 23 r1.1.Graph.aC.length,lo 24 l1]]):Option Ob)) (show r1.1.Places.length = (r1.1.Places.set (Int.toNat 0) (dh.mk r9.1 x10.Y)).length by simp only [List.length_set]),J⟩⟩
  ·refine Ws (Wr ?_)
   refine af LT.eql aV (aI (Bv (r2.1 == 1)) y4 (On (aA.cond Q (fun wU => ?_) (fun wU => ?_))))
   ·exact aA.none
   ·refine aA.skip (aX Q z2 z5)
 ·refine aA.blk (Ws (Wr ?_))
  refine bM (bV [iC r1.1.Graph.aH,lo 23 r1.1.Graph.aC.length,lo 24 j7.2.2.2.length] Q gJ dR dB) Q Q Q Q (bQ (stA [iC r1.1.Graph.aH,lo 23 r1.1.Graph.aC.length,lo 24 j7.2.2.2.length] Q Q dR dB) Q Q Q Q Q (On (en [(2,Cc (.pl 21 0))] [(0,.row 105 [[xT dI j7.1,iC j7.2.1,iC j7.2.2.1]]),(21,.row 46 [[iC r1.1.Graph.aH,lo 23 r1.1.Graph.aC.length,lo 24 j7.2.2.2.length]]),(23,pR 40 aK r1.1.Graph.aC),(24,pR 98 au j7.2.2.2)] z1 z4 (aA.ent (aQ.mv 23 1 Q Q) (aA.ent (aQ.mv 24 2 Q Q) (en [(2,Cc (.pl 21 0))] [(0,.row 105 [[xT dI j7.1,iC j7.2.1,iC j7.2.2.1]]),(1,pR 40 aK r1.1.Graph.aC),(2,pR 98 au j7.2.2.2),(21,.row 46 [[iC r1.1.Graph.aH,lo 1 r1.1.Graph.aC.length,lo 2 j7.2.2.2.length]])] z1 z4 (bP ⟨⟨_,_,_,Q,Q,Q,gJ,dB,_,gm dR⟩,J⟩ z3 ⟨⟨ah.sc,J,J,J⟩,J⟩ ⟨bD.mV ⟨nN oU,ah.sc,ah.sc,J⟩,bD.bf kG,bD.bf qy,J⟩)))))))
theorem aMv (c:dH):FT Tryz.prog (Oy c) 124 [.c (.pl 0 0)] [(0,.row 105 [fE c])] (fun (t:(bF × dH)) => [.agg [iC t.1.Graph.aH,lo 1 t.1.Graph.aC.length,xT au t.1.Places]]) (fun (t:(bF × dH)) => [(0,.row 105 [fE t.2]),(1,pR 40 aK t.1.Graph.aC)]) [1]:=by
 refine FT.F7 [0] Tryz.func124 Tryz.ntmps124 Q y2 ?_
 intro w0 U0 R0 g0 hU
 unfold Oy
 refine Ws (Wr ?_)
 refine eG 21 [iC 0,sC aJ,sC aJ] lJ y6 (On (Ws (Wr ?_)))
 refine aG (Cc (.pl 0 0)) y4 (aO.alt (fun r1 hr1 => ?_) ?_)
 ·refine aO.step (cZ [.c (.pl 0 0)] (Fw.Fn.ren [(0,0),(1,23),(2,24)] (aMt c r1 hr1) Q) Zj (kQ Q) z1 y3) z2 z1 Q Q (eG 25 [iC 0,sC aJ,sC aJ] lJ y6 (bQ (stA [iC r1.1.Graph.aH,lo 23 r1.1.Graph.aC.length,lo 24 r1.1.Places.length] Q Q dR dB) Q Q Q Q Q (On (Ws (Ws ?_)))))
  refine aA.eP (fun j5 => ([(0,Cc (.pl 0 0)),(2,Cc (.pl 21 0)),(3,Cc (.pl 25 0)),(12,Bv j5.1)],[(0,.row 105 [[xT dI j5.2.1,iC j5.2.2.1,iC j5.2.2.2]]),(21,.row 46 [[iC 0,sC aJ,sC aJ]]),(23,pR 40 aK r1.1.Graph.aC),(24,pR 98 au r1.1.Places),(25,.row 46 [[iC r1.1.Graph.aH,lo 23 r1.1.Graph.aC.length,lo 24 r1.1.Places.length]])])) ?_ (fun j5 _ => ?_)
  ·refine en [(0,Cc (.pl 0 0)),(2,Cc (.pl 21 0)),(3,Cc (.pl 25 0))] [(0,.row 105 [fE r1.2]),(21,.row 46 [[iC 0,sC aJ,sC aJ]]),(23,pR 40 aK r1.1.Graph.aC),(24,pR 98 au r1.1.Places),(25,.row 46 [[iC r1.1.Graph.aH,lo 23 r1.1.Graph.aC.length,lo 24 r1.1.Places.length]])] z3 z5 (Wr (bM (bV [iC r1.1.Graph.aH,lo 23 r1.1.Graph.aC.length,lo 24 r1.1.Places.length] Q gJ dR dB) Q Q Q Q (aP fun r6 rW => (aO.pure (cF [.agg [iC r1.1.Graph.aH,lo 23 r1.1.Graph.aC.length,lo 24 r1.1.Places.length]] [(23,pR 40 aK r1.1.Graph.aC),(24,pR 98 au r1.1.Places)] (AP r1.1 r6 rW) zK (.cons (.agg (.cons (.same Q) (.cons (.fC Q Q) (.cons (.fC Q Q) .nil)))) .nil) J y3) z2 z2 Q Q (aG (Bv r6) y4 (aO.split (fun hb7 => ?_) (fun hb7 => ?_)))))))
   ·refine eu (Cc (.pl 0 0)) hb7 y5 (aP fun r8 tJ => (aO.step (cZ [.c (.pl 0 0),.c (iC 2)] (Fw.Fn.ren [(0,0)] (P9 r1.2 2 r8 tJ) Q) L8 (iZ y2) z1 y3) ⟨Q,Q,y2,J⟩ z1 (gH hb7 Q Q) Q (dJ (Bv r8.1) hb7 y5 (On (aX Q z4 z5)))))
   ·refine aS hb7 y5 (aS hb7 y5 (eU (Bv false) hb7 aV (On (aX Q z4 z5))))
  ·refine aA.eP (fun j30 => ([(2,Cc (.pl 21 0)),(3,Cc (.pl 25 0))],[(0,.row 105 [[xT dI j30.1,iC j30.2.1,iC j30.2.2.1]]),(21,.row 46 [[iC 0,sC aJ,sC aJ]]),(23,pR 40 aK j30.2.2.2.2.1),(24,pR 98 au j30.2.2.2.2.2),(25,.row 46 [[iC j30.2.2.2.1,lo 23 j30.2.2.2.2.1.length,lo 24 j30.2.2.2.2.2.length]])])) ?_ (fun j30 _ => ?_)
   ·refine aA.cond Q (fun hc31 => ?_) (fun hc31 => ?_)
    ·refine Ws (Wr ?_)
     refine aI (Iv 0) aZ (On (aA.block ?_))
     refine aA.jI (id:=0) (Jo r1) (fun gG => ([(0,Cc (.pl 0 0)),(2,Cc (.pl 21 0)),(3,Cc (.pl 25 0)),(4,Iv gG.1)],[(0,.row 105 [[xT dI gG.2.1,iC gG.2.2.1,iC gG.2.2.2.1]]),(21,.row 46 [[iC 0,sC aJ,sC aJ]]),(23,pR 40 aK r1.1.Graph.aC),(24,pR 98 au gG.2.2.2.2),(25,.row 46 [[iC r1.1.Graph.aH,lo 23 r1.1.Graph.aC.length,lo 24 gG.2.2.2.2.length]])])) (fun oM => ([(2,Cc (.pl 21 0)),(3,Cc (.pl 25 0))],[(0,.row 105 [[xT dI oM.1,iC oM.2.1,iC oM.2.2.1]]),(21,.row 46 [[iC 0,sC aJ,sC aJ]]),(23,pR 40 aK oM.2.2.2.1),(24,pR 98 au oM.2.2.2.2.1),(25,.row 46 [[iC oM.2.2.2.2.2,lo 23 oM.2.2.2.1.length,lo 24 oM.2.2.2.2.1.length]])])) ?_ (aQ.of z4 z5) Q (fun oM _ => ?_)
     ·intro gG
      unfold Jo
      refine Ws (Ws (Wr ?_))
      refine aG (Iv gG.1) y4 (dK (lo 24 gG.2.2.2.2.length) jm kU ax (aY (LT.lG Q sU) Q Q Q (af LT.lss y5 (On (aA.cond Q (fun V7 => ?_) (fun V7 => ?_))))))
      ·refine aA.skip (Ws (aA.block (Ws (Wr ?_))))
       refine aG (Cc (.pl 0 0)) y4 (aP fun CG aII => (aO.step (cZ [.c (.pl 0 0),.c (iC 3)] (Fw.Fn.ren [(0,0)] (P9 (dH.mk gG.2.1 gG.2.2.1 gG.2.2.2.1) 3 CG aII) Q) L8 (iZ y2) z1 y3) ⟨Q,Q,y2,J⟩ z1 Q Q (aY (LT.not Q) Q Q Q (On (aA.eP (fun j57 => ([(0,Cc (.pl 0 0)),(2,Cc (.pl 21 0)),(3,Cc (.pl 25 0)),(4,Iv gG.1)],[(0,.row 105 [[xT dI j57.1,iC j57.2.1,iC j57.2.2.1]]),(21,.row 46 [[iC 0,sC aJ,sC aJ]]),(23,pR 40 aK r1.1.Graph.aC),(24,pR 98 au j57.2.2.2),(25,.row 46 [[iC r1.1.Graph.aH,lo 23 r1.1.Graph.aC.length,lo 24 j57.2.2.2.length]])])) ?_ (fun j57 _ => ?_))))))
       ·refine aA.cond Q (fun aHP => ?_) (fun aHP => ?_)
        ·refine aA.draw mixed (eH (lo 24 gG.2.2.2.2.length) jm kU ax (bJ (Iv gG.1) y4 (bJ (Iv gG.1) y4 (dZ (LT.rem Q (by decide)) Q y2 Q Q (bJ (Iv gG.1) y4 (dZ (LT.rem Q (by decide)) Q y2 Q Q (bJ (Cc (.pl 0 0)) y4 (aU.bind fun tq WX => (aU.step (cZ [.c (.pl 0 0),.c (iC 2)] (Fw.Fn.ren [(0,0)] (lu CG.2 2 tq WX) Q) lX (iZ y2) z1 y3) ⟨Q,Q,y2,J⟩ z1 Q Q (jJ LT.mul y5 ?_))))))))))
         refine dZ (LT.build [(0,.tmp 27,.c (iC (Int.tmod gG.1 5))),(1,.tmp 32,.c (iC (aB ((Int.tmod gG.1 5) * tq.1))))] Q Q TM uS Q Q Q) Q Q Q Q (aU.bind fun AZ Rj => (jV (LT.fP Q Q pG Rj) Q Q Q Q Q (kJ (lq 0 (.agg [iC (Int.tmod gG.1 5),iC (aB ((Int.tmod gG.1 5) * tq.1))]) (dh.mk (Int.tmod gG.1 5) (aB ((Int.tmod gG.1 5) * tq.1))) Q Q qA jy Rj) Q Q Q Q Q (fA (aA.nil ⟨Q,aQ.of z4 ⟨Q,Q,Q,Q,congrArg (fun l1 => (some (Ob.row 46 [[iC r1.1.Graph.aH,lo 23 r1.1.Graph.aC.length,lo 24 l1]]):Option Ob)) (show gG.2.2.2.2.length = (gG.2.2.2.2.set gG.1.toNat (dh.mk (Int.tmod gG.1 5) (aB ((Int.tmod gG.1 5) * tq.1)))).length by simp only [List.length_set]),J⟩⟩)))))
        ·refine aA.skip (aX Q z4 z5)
       ·refine aA.blk (Wr ?_)
        refine aG (Iv gG.1) y4 (af LT.add aV (aI (Iv (aB (gG.1 + 1))) y4 (On (aX Q z4 z5))))
      ·refine fV y2 z2 z5
     ·refine aX Q z2 z5
    ·refine aA.skip (aX Q z2 z5)
   ·refine Ws (Wr ?_)
    refine bM (bV [iC j30.2.2.2.1,lo 23 j30.2.2.2.2.1.length,lo 24 j30.2.2.2.2.2.length] Q gJ dR dB) Q Q Q Q (bQ (stA [iC j30.2.2.2.1,lo 23 j30.2.2.2.2.1.length,lo 24 j30.2.2.2.2.2.length] Q Q dR dB) Q Q Q Q Q (On (aA.ent (aQ.Qr (enc:=au) (xs:=j30.2.2.2.2.2) (σ':=[(2,Cc (.pl 21 0)),(3,Cc (.pl 25 0)),(35,Ag  [iC j30.2.2.2.1,lo 23 j30.2.2.2.2.1.length,xT au j30.2.2.2.2.2])]) (m':=[(0,.row 105 [[xT dI j30.1,iC j30.2.1,iC j30.2.2.1]]),(21,.row 46 [[iC j30.2.2.2.1,lo 23 j30.2.2.2.2.1.length,xT au j30.2.2.2.2.2]]),(23,pR 40 aK j30.2.2.2.2.1),(25,.row 46 [[iC j30.2.2.2.1,lo 23 j30.2.2.2.2.1.length,xT au j30.2.2.2.2.2]])]) 24 hU Q Q ⟨⟨_,Q,.same Q⟩,⟨_,Q,.same Q⟩,⟨_,Q,.agg (.cons (.same Q) (.cons (.same Q) (.cons (.fr (by rw [List.length_map])) .nil)))⟩,J⟩ ⟨⟨Q,_,Q,.same Q⟩,⟨Q,_,Q,.row (.cons (.same Q) (.cons (.same Q) (.cons (.fr (by rw [List.length_map])) .nil)))⟩,⟨Q,_,Q,.same Q⟩,⟨Q,_,Q,.row (.cons (.same Q) (.cons (.same Q) (.cons (.fr (by rw [List.length_map])) .nil)))⟩,J⟩) (en [(2,Cc (.pl 21 0))] [(0,.row 105 [[xT dI j30.1,iC j30.2.1,iC j30.2.2.1]]),(21,.row 46 [[iC j30.2.2.2.1,lo 23 j30.2.2.2.2.1.length,xT au j30.2.2.2.2.2]]),(23,pR 40 aK j30.2.2.2.2.1)] z1 z3 (aA.ent (aQ.mv 23 1 Q Q) (en [(2,Cc (.pl 21 0))] [(0,.row 105 [[xT dI j30.1,iC j30.2.1,iC j30.2.2.1]]),(1,pR 40 aK j30.2.2.2.2.1),(21,.row 46 [[iC j30.2.2.2.1,lo 1 j30.2.2.2.2.1.length,xT au j30.2.2.2.2.2]])] z1 z3 (bP ⟨⟨_,_,_,Q,Q,Q,gJ,dB,_,gm dR⟩,J⟩ z2 ⟨⟨ah.sc,J,nN qy,J⟩,J⟩ ⟨bD.mV ⟨nN oU,ah.sc,ah.sc,J⟩,bD.bf kG,J⟩)))))))
 ·refine aP fun jY aIJ => (aO.step (cZ [.c (.pl 0 0)] (Fw.Fn.ren [(0,0),(1,23)] (aMs c jY aIJ) Q) Zj (kQ Q) z1 y3) z2 z1 Q Q (eG 25 [iC 0,sC aJ,sC aJ] lJ y6 (bQ (stA [iC jY.1.Graph.aH,lo 23 jY.1.Graph.aC.length,xT au jY.1.Places] Q Q dR dB) Q Q Q Q Q (On (Ws (Ws ?_))))))
  refine aA.eP (fun j65 => ([(0,Cc (.pl 0 0)),(2,Cc (.pl 21 0)),(3,Cc (.pl 25 0)),(12,Bv j65.1)],[(0,.row 105 [[xT dI j65.2.1,iC j65.2.2.1,iC j65.2.2.2]]),(21,.row 46 [[iC 0,sC aJ,sC aJ]]),(23,pR 40 aK jY.1.Graph.aC),(25,.row 46 [[iC jY.1.Graph.aH,lo 23 jY.1.Graph.aC.length,xT au jY.1.Places]])])) ?_ (fun j65 _ => ?_)
  ·refine en [(0,Cc (.pl 0 0)),(2,Cc (.pl 21 0)),(3,Cc (.pl 25 0))] [(0,.row 105 [fE jY.2]),(21,.row 46 [[iC 0,sC aJ,sC aJ]]),(23,pR 40 aK jY.1.Graph.aC),(25,.row 46 [[iC jY.1.Graph.aH,lo 23 jY.1.Graph.aC.length,xT au jY.1.Places]])] z3 z4 (Wr (bM (bV [iC jY.1.Graph.aH,lo 23 jY.1.Graph.aC.length,xT au jY.1.Places] Q gJ dR dB) Q Q Q Q (aP fun jb WY => (aO.pure (cF [.agg [iC jY.1.Graph.aH,lo 23 jY.1.Graph.aC.length,xT au jY.1.Places]] [(23,pR 40 aK jY.1.Graph.aC)] (AP jY.1 jb WY) zK (.cons (.agg (.cons (.same Q) (.cons (.fC Q Q) (.cons (.weak (.same Q) (QW.uw zn (fun h => by cases h) _)) .nil)))) .nil) J y3) z2 z1 Q Q (aG (Bv jb) y4 (aO.split (fun Em => ?_) (fun Em => ?_)))))))
   ·refine eu (Cc (.pl 0 0)) Em y5 (aP fun kH WZ => (aO.step (cZ [.c (.pl 0 0),.c (iC 2)] (Fw.Fn.ren [(0,0)] (P9 jY.2 2 kH WZ) Q) L8 (iZ y2) z1 y3) ⟨Q,Q,y2,J⟩ z1 (gH Em Q Q) Q (dJ (Bv kH.1) Em y5 (On (aX Q z4 z4)))))
   ·refine aS Em y5 (aS Em y5 (eU (Bv false) Em aV (On (aX Q z4 z4))))
  ·refine aA.eP (fun j90 => ([(2,Cc (.pl 21 0)),(3,Cc (.pl 25 0))],[(0,.row 105 [[xT dI j90.1,iC j90.2.1,iC j90.2.2.1]]),(21,.row 46 [[iC 0,sC aJ,sC aJ]]),(23,pR 40 aK j90.2.2.2.2.2),(25,.row 46 [[iC j90.2.2.2.1,lo 23 j90.2.2.2.2.2.length,xT au j90.2.2.2.2.1]])])) ?_ (fun j90 _ => ?_)
   ·refine aA.cond Q (fun hc91 => ?_) (fun hc91 => ?_)
    ·refine Ws (Wr ?_)
     refine aI (Iv 0) aZ (On (aA.block ?_))
     refine aA.jI (id:=0) (Xd jY) (fun qg => ([(0,Cc (.pl 0 0)),(2,Cc (.pl 21 0)),(3,Cc (.pl 25 0)),(4,Iv qg.1)],[(0,.row 105 [[xT dI qg.2.1,iC qg.2.2.1,iC qg.2.2.2]]),(21,.row 46 [[iC 0,sC aJ,sC aJ]]),(23,pR 40 aK jY.1.Graph.aC),(25,.row 46 [[iC jY.1.Graph.aH,lo 23 jY.1.Graph.aC.length,xT au jY.1.Places]])])) (fun uU => ([(2,Cc (.pl 21 0)),(3,Cc (.pl 25 0))],[(0,.row 105 [[xT dI uU.1,iC uU.2.1,iC uU.2.2.1]]),(21,.row 46 [[iC 0,sC aJ,sC aJ]]),(23,pR 40 aK uU.2.2.2.1),(25,.row 46 [[iC uU.2.2.2.2.1,lo 23 uU.2.2.2.1.length,xT au uU.2.2.2.2.2]])])) ?_ (aQ.of z4 z4) Q (fun uU _ => ?_)
     ·intro qg
      unfold Xd
      refine Ws (Ws (Wr ?_))
      refine aG (Iv qg.1) y4 (dK (xT au jY.1.Places) jm kU ax (aY (LT.iI Q sU) Q Q Q (af LT.lss y5 (On (aA.cond Q (fun hc112 => ?_) (fun hc112 => ?_))))))
      ·refine aA.skip (Ws (aA.block (Ws (Wr ?_))))
       refine aG (Cc (.pl 0 0)) y4 (aP fun GL aHs => (aO.step (cZ [.c (.pl 0 0),.c (iC 3)] (Fw.Fn.ren [(0,0)] (P9 (dH.mk qg.2.1 qg.2.2.1 qg.2.2.2) 3 GL aHs) Q) L8 (iZ y2) z1 y3) ⟨Q,Q,y2,J⟩ z1 Q Q (aY (LT.not Q) Q Q Q (On (aA.eP (fun j117 => ([(0,Cc (.pl 0 0)),(2,Cc (.pl 21 0)),(3,Cc (.pl 25 0)),(4,Iv qg.1)],[(0,.row 105 [fE GL.2]),(21,.row 46 [[iC 0,sC aJ,sC aJ]]),(23,pR 40 aK jY.1.Graph.aC),(25,.row 46 [[iC jY.1.Graph.aH,lo 23 jY.1.Graph.aC.length,xT au jY.1.Places]])])) ?_ (fun j117 _ => ?_))))))
       ·refine aA.cond Q (fun aG4 => ?_) (fun aG4 => ?_)
        ·exact aA.none
        ·refine aA.skip (aX Q z4 z4)
       ·refine aA.blk (Wr ?_)
        refine aG (Iv qg.1) y4 (af LT.add aV (aI (Iv (aB (qg.1 + 1))) y4 (On (aX Q z4 z4))))
      ·refine fV y2 z2 z4
     ·refine aX Q z2 z4
    ·refine aA.skip (aX Q z2 z4)
   ·refine Ws (Wr ?_)
    refine bM (bV [iC j90.2.2.2.1,lo 23 j90.2.2.2.2.2.length,xT au j90.2.2.2.2.1] Q gJ dR dB) Q Q Q Q (bQ (stA [iC j90.2.2.2.1,lo 23 j90.2.2.2.2.2.length,xT au j90.2.2.2.2.1] Q Q dR dB) Q Q Q Q Q (On (en [(2,Cc (.pl 21 0))] [(0,.row 105 [[xT dI j90.1,iC j90.2.1,iC j90.2.2.1]]),(21,.row 46 [[iC j90.2.2.2.1,lo 23 j90.2.2.2.2.2.length,xT au j90.2.2.2.2.1]]),(23,pR 40 aK j90.2.2.2.2.2)] z1 z3 (aA.ent (aQ.mv 23 1 Q Q) (en [(2,Cc (.pl 21 0))] [(0,.row 105 [[xT dI j90.1,iC j90.2.1,iC j90.2.2.1]]),(1,pR 40 aK j90.2.2.2.2.2),(21,.row 46 [[iC j90.2.2.2.1,lo 1 j90.2.2.2.2.2.length,xT au j90.2.2.2.2.1]])] z1 z3 (bP ⟨⟨_,_,_,Q,Q,Q,gJ,dB,_,gm dR⟩,J⟩ z2 ⟨⟨ah.sc,J,nN qy,J⟩,J⟩ ⟨bD.mV ⟨nN oU,ah.sc,ah.sc,J⟩,bD.bf kG,J⟩))))))
theorem aMi (code:(List Int)):FT Tryz.prog (Oa code) 54 [.c (xT dI code)] [] (fun (t:bF) => [.agg [iC t.Graph.aH,lo 0 t.Graph.aC.length,xT au t.Places]]) (fun (t:bF) => [(0,pR 40 aK t.Graph.aC)]) [0]:=by
 refine FT.of [] Tryz.func54 Tryz.ntmps54 Q y2 ?_
 intro w0 U0 R0 g0
 unfold Oa
 refine Ws (Wr ?_)
 refine eG 21 [iC 0,sC aJ,sC aJ] lJ y6 (On (Ws (Wr ?_)))
 refine aG (Cc (xT dI code)) y4 (aP fun r1 hr1 => (aO.step (cZ [.c (xT dI code)] (Fw.Fn.ren [(0,23)] (Yp code r1 hr1) Q) U8 (kQ Q) J y3) z2 J Q Q (aP fun r2 hr2 => (aO.step (cZ [.c (.pl 23 0)] (Fw.Fn.ren [(0,23),(1,25)] (aMv r1 r2 hr2) Q) aFO (kQ Q) z1 y3) z2 z1 Q Q (bQ (stA [iC r2.1.Graph.aH,lo 25 r2.1.Graph.aC.length,xT au r2.1.Places] Q Q dR dB) Q Q Q Q Q (On (en [(2,Cc (.pl 21 0))] [(21,.row 46 [[iC r2.1.Graph.aH,lo 25 r2.1.Graph.aC.length,xT au r2.1.Places]]),(25,pR 40 aK r2.1.Graph.aC)] z1 z2 (aA.ent (aQ.mv 25 0 Q Q) (en [(2,Cc (.pl 21 0))] [(0,pR 40 aK r2.1.Graph.aC),(21,.row 46 [[iC r2.1.Graph.aH,lo 0 r2.1.Graph.aC.length,xT au r2.1.Places]])] z1 z2 (bP ⟨⟨_,_,_,Q,Q,Q,gJ,dB,_,gm dR⟩,J⟩ z1 ⟨⟨ah.sc,J,nN qy,J⟩,J⟩ ⟨bD.bf kG,J⟩))))))))))
theorem aMD (g:aj) (k:Int) (l:Int):FT Tryz.prog (Nz g k l) 125 [.agg (ai g),.c (iC k),.c (iC l)] [] (fun (t:(List Int)) => [.c (lo 0 t.length)]) (fun (t:(List Int)) => [(0,pR 3 aF t)]) [0]:=by
 refine FT.of [] Tryz.func125 Tryz.ntmps125 Q y2 ?_
 intro w0 U0 R0 g0
 unfold Nz
 refine Ws (Wr ?_)
 refine iL 21 (.agg (ai g)) bU y5 (aI (Cc (sC aJ)) aZ (On (Ws (Wr ?_))))
 refine bM (bV (ai g) Q eY dA bU) Q Q Q Q (aG (Iv k) y4 (aG (Iv l) y4 (aP fun r1 hr1 => (aO.step (cZ [.agg (ai g),.c (iC k),.c (iC l)] (Fw.Fn.ren [(0,23),(1,24),(2,25)] (aEG g k l r1 hr1) Q) Zm (AB y4) J y3) z4 J Q Q (aG (.dM [.agg [lo 23 r1.1.Free.length,lo 24 r1.1.aT.length,lo 25 r1.1.aN.length],.c (bC r1.2)]) y4 (gy (.agg [lo 23 r1.1.Free.length,lo 24 r1.1.aT.length,lo 25 r1.1.aN.length]) y5 (gy (.c (bC r1.2)) y5 (eG 26 [sC aJ,sC aJ,sC aJ] nO y6 (bQ (stA [lo 23 r1.1.Free.length,lo 24 r1.1.aT.length,lo 25 r1.1.aN.length] Q Q gQ fK) Q Q Q Q Q (aI (Bv r1.2) y4 (On (Ws ?_))))))))))))
 refine en [(7,Cc (.pl 26 0))] [(23,pR 3 aF r1.1.Free),(24,pR 3 aF r1.1.aT),(25,pR 3 aF r1.1.aN),(26,.row 113 [[lo 23 r1.1.Free.length,lo 24 r1.1.aT.length,lo 25 r1.1.aN.length]])] z1 z4 (Wr (dK (lo 25 r1.1.aN.length) qX fF ax (aP fun r2 hr2 => (aO.step (cF [.c (lo 25 r1.1.aN.length)] [(25,pR 3 aF r1.1.aN)] (Fw.Fn.ren [(0,28)] (LG r1.1.aN r2 hr2) Q) G6 (.cons (.c (.fC Q Q)) .nil) J y3) z2 z1 Q Q (aI (Cc (lo 28 r2.length)) y4 (On (en [(6,Cc (lo 28 r2.length))] [(28,pR 3 aF r2)] z1 z1 (aA.ent (aQ.mv 28 0 Q Q) (en [(6,Cc (lo 0 r2.length))] [(0,pR 3 aF r2)] z1 z1 (bP z1 z1 ⟨J,J⟩ ⟨bD.bf dw,J⟩))))))))))
theorem aMM (f:bF):FT Tryz.prog (OG f) 55 [.agg (bn f)] [] (fun (t:((List Int) × Bool)) => [.c (lo 0 t.1.length),.c (bC t.2)]) (fun (t:((List Int) × Bool)) => [(0,pR 3 aF t.1)]) [0]:=by
 refine FT.of [] Tryz.func55 Tryz.ntmps55 Q y2 ?_
 intro w0 U0 R0 g0
 unfold OG
 refine Ws (Wr ?_)
 refine iL 21 (.agg (bn f)) dB y5 (aI (Cc (sC aJ)) aZ (aI (Bv false) aZ (On (Ws (Ws (Wr ?_))))))
 refine bM (bV (bn f) Q gJ dR dB) Q Q Q Q (aP fun r1 hr1 => (jD [.agg (bn f)] (EK f r1 hr1) C9 (oL y3) y5 z2 (aY (LT.not Q) Q Q Q (On (aA.cond Q (fun hc2 => ?_) (fun hc2 => ?_))))))
 ·refine Ws (Wr ?_)
  refine l7 (iO 23 aF [] [] dS iH y7) Q Q (aI (Cc (lo 23 (([]:List Int).length))) y4 (aI (Bv false) aZ (On (en [(2,Cc (lo 23 (([]:List Int).length))),(3,Bv false)] [(23,pR 3 aF ([]:List Int))] z2 z1 (aA.ent (aQ.mv 23 0 Q Q) (en [(2,Cc (lo 0 (([]:List Int).length))),(3,Bv false)] [(0,pR 3 aF ([]:List Int))] z2 z1 (bP z2 z1 ⟨J,ah.sc,J⟩ ⟨bD.bf dw,J⟩)))))))
 ·refine aA.skip (Ws (Wr ?_))
  refine aY (LT.gU Q lF) Q Q Q (bM (bV (ai f.Graph) Q eY dA bU) Q Q Q Q (aP fun r3 hr3 => (aO.step (cZ [.agg (ai f.Graph),.c (iC 2),.c (iC 3)] (Fw.Fn.ren [(0,25)] (aMD f.Graph 2 3 r3 hr3) Q) aFP (AB y4) J y3) ⟨Q,Q,y2,y2,J⟩ J Q Q (aI (Cc (lo 25 r3.length)) y4 (On (Ws ?_))))))
  refine en [(1,Cc (.pl 21 0)),(4,Cc (lo 25 r3.length))] [(21,.row 46 [bn f]),(25,pR 3 aF r3)] z2 z2 (aA.draw mixed (bg (LT.gU Q lF) Q Q Q (gq (bV (ai f.Graph) Q eY dA bU) Q Q Q Q (bJ (Cc (lo 25 r3.length)) y4 (aU.bind fun r4 hr4 => (aU.step (cF [.agg (ai f.Graph),.c (lo 25 r3.length)] [(25,pR 3 aF r3)] (Fw.Fn.ren [(0,27)] (aMK f.Graph r3 r4 hr4) Q) aF4 (.cons (.agg (.cons (.same Q) (.cons (.same Q) .nil))) (.cons (.c (.fC Q Q)) .nil)) J y3) z3 z1 Q Q (eH (xF au f.Places) jm kU ax (dZ (LT.build [(0,.tmp 19,.agg [iC r4.aH,lo 27 r4.aC.length]),(1,.tmp 21,.c (xF au f.Places))] Q Q xZ lJ Q Q Q) Q Q Q Q (aU.bind fun r5 mG => (aU.step (cF [.agg [iC r4.aH,lo 27 r4.aC.length,xF au f.Places]] [(27,pR 40 aK r4.aC)] (Fw.Fn.ren [(0,29),(1,30)] (aMN (bF.mk r4 f.Places) r5 mG) Q) aF9 (.cons (.agg (.cons (.same Q) (.cons (.fC Q Q) (.cons (.same Q) .nil)))) .nil) J y3) z2 z1 Q Q ?_))))))))))
  refine bg (LT.assign (v:=(Cc (lo 29 r5.length))) Q) Q Q Q (fA (Ws (Ws ?_)))
  refine en [(1,Cc (.pl 21 0)),(4,Cc (lo 25 r3.length)),(5,Cc (lo 29 r5.length))] [(21,.row 46 [bn f]),(25,pR 3 aF r3),(29,.bZ 28 30 (bK r5)),(30,.pool 3 (rowsOf aF r5))] z3 z4 (Wr (aG (Cc (lo 29 r5.length)) y4 (aY (LT.lG Q kR) Q Q Q (af LT.eql aV (On (aA.cond Q (fun hc6 => ?_) (fun hc6 => ?_)))))))
  ·refine Ws (Wr ?_)
   refine l7 (iO 31 aF [] [] dS iH y7) Q Q (aI (Cc (lo 31 (([]:List Int).length))) y4 (aI (Bv false) aZ (On (en [(2,Cc (lo 31 (([]:List Int).length))),(3,Bv false)] [(31,pR 3 aF ([]:List Int))] z2 z1 (aA.ent (aQ.mv 31 0 Q Q) (en [(2,Cc (lo 0 (([]:List Int).length))),(3,Bv false)] [(0,pR 3 aF ([]:List Int))] z2 z1 (bP z2 z1 ⟨J,ah.sc,J⟩ ⟨bD.bf dw,J⟩)))))))
  ·refine aA.skip (Ws (Wr ?_))
   refine aY (LT.gU Q lF) Q Q Q (dK (xF aK f.Graph.aC) gK iK ax (aY (LT.iI Q iU) Q Q Q (aP fun u7 NU => (zD (LT.CP (n:=32) (enc:=aF) (zc:=[iC 0]) (0:Int) Q dS iH Q Q Q (by decide) (by decide) (zY NU) Q) Q Q Q Q (aI (Cc (lo 32 ((List.replicate (f.Graph.aC.length:Int).toNat (0:Int)).length))) y4 (On (Ws (Ws ?_))))))))
   refine en [(4,Cc (lo 25 r3.length)),(5,Cc (lo 29 r5.length)),(6,Cc (lo 32 ((List.replicate (f.Graph.aC.length:Int).toNat (0:Int)).length)))] [(25,pR 3 aF r3),(29,.bZ 28 30 (bK r5)),(30,.pool 3 (rowsOf aF r5)),(32,pR 3 aF (List.replicate (f.Graph.aC.length:Int).toNat (0:Int)))] z3 z4 (Wr (aG (Cc (lo 32 ((List.replicate (f.Graph.aC.length:Int).toNat (0:Int)).length))) y4 (aY (LT.lG Q dS) Q Q Q (aG (Iv 0) aZ (On (aA.block ?_))))))
   refine aA.jI (id:=0) (Iq f r3 r5) (fun s8 => ([(4,Cc (lo 25 r3.length)),(5,Cc (lo 29 r5.length)),(6,Cc (lo 32 s8.2.length)),(34,Iv ((List.replicate (f.Graph.aC.length:Int).toNat (0:Int)).length:Int)),(35,Iv s8.1)],[(25,pR 3 aF r3),(29,.bZ 28 30 (bK r5)),(30,.pool 3 (rowsOf aF r5)),(32,pR 3 aF s8.2)])) (fun yI => ([(6,Cc (lo 32 yI.length))],[(32,pR 3 aF yI)])) ?_ (aQ.of z5 z4) Q (fun yI _ => ?_)
   ·intro s8
    unfold Iq
    refine Ws (Wr ?_)
    refine af LT.lss y5 (On (Ws ?_))
    refine aA.cond Q (fun hc32 => ?_) (fun hc32 => ?_)
    ·refine aA.skip (Ws (aA.block (Ws (Wr ?_))))
     refine aG (Iv s8.1) y4 (aI (Iv s8.1) y4 (On (Ws (Wr ?_))))
     refine aG (Cc (lo 25 r3.length)) y4 (aG (Iv s8.1) y4 (aP fun xk WS => (aO.pure (cF [.c (lo 25 r3.length),.c (iC s8.1)] [(25,pR 3 aF r3)] (aEL r3 s8.1 xk WS) Zc (.cons (.c (.fC Q Q)) (.cons (.c (.same Q)) .nil)) J y3) z3 z1 Q Q (aI (Iv xk) y4 (On (Ws (Wr ?_)))))))
     refine aG (Iv xk) y4 (af LT.geq aV (On (aA.eP (fun j38 => ([(4,Cc (lo 25 r3.length)),(5,Cc (lo 29 r5.length)),(6,Cc (lo 32 j38.length)),(34,Iv ((List.replicate (f.Graph.aC.length:Int).toNat (0:Int)).length:Int)),(35,Iv s8.1)],[(25,pR 3 aF r3),(29,.bZ 28 30 (bK r5)),(30,.pool 3 (rowsOf aF r5)),(32,pR 3 aF j38)])) ?_ (fun j38 _ => ?_))))
     ·refine aA.cond Q (fun hc39 => ?_) (fun hc39 => ?_)
      ·refine Wr (aG (Cc (lo 32 s8.2.length)) y4 (aG (Iv s8.1) y4 (aG (Cc (lo 29 r5.length)) y4 (aP fun x40 Rf => (iq (LT.xH Q Q l9 Rf) Q y2 Q Q Q (bM (LT.zB Q fF Rf Q) Q Q Q Q (aG (Iv xk) y4 (aP fun x41 aBa => (iq (LT.EI Q Q dU (nJ Rf) aBa) Q Q Q Q Q (bM (LT.Gf (enc:=aF) (j:=0) Q ak (nJ Rf) aBa (by exact Q) (by exact Q)) Q Q Q Q (aP fun jG H6 => ?_)))))))))))
       refine iq (LT.fP Q Q dU H6) Q Q Q Q Q (bQ (lq 0 (.c (iC x41)) x41 Q Q mJ gI H6) Q Q Q Q Q (On (aA.nil ⟨Q,aQ.of ⟨Q,Q,congrArg (fun l1 => (some (AV.s (.c (lo 32 l1))):Option AV)) (show s8.2.length = (s8.2.set s8.1.toNat x41).length by simp only [List.length_set]),Q,Q,J⟩ z4⟩)))
      ·refine aA.skip (aX Q z5 z4)
     ·refine aA.blk (Wr ?_)
      refine af LT.add aV (aG (Iv (aB (s8.1 + 1))) y4 (On (aX Q z5 z4)))
    ·refine fV y2 z1 z1
   ·refine Ws (Wr ?_)
    refine aG (Cc (lo 32 yI.length)) y4 (aI (Cc (lo 32 yI.length)) y4 (aI (Bv true) aZ (On (en [(2,Cc (lo 32 yI.length)),(3,Bv true)] [(32,pR 3 aF yI)] z2 z1 (aA.ent (aQ.mv 32 0 Q Q) (en [(2,Cc (lo 0 yI.length)),(3,Bv true)] [(0,pR 3 aF yI)] z2 z1 (bP z2 z1 ⟨J,ah.sc,J⟩ ⟨bD.bf dw,J⟩)))))))
theorem aMe (g:aj) (k:Int) (l:Int):FT Tryz.prog (OX g k l) 127 [.agg (ai g),.c (iC k),.c (iC l)] [] (fun (t:(List Int)) => [.c (lo 0 t.length)]) (fun (t:(List Int)) => [(0,pR 3 aF t)]) [0]:=by
 refine FT.of [] Tryz.func127 Tryz.ntmps127 Q y2 ?_
 intro w0 U0 R0 g0
 unfold OX
 refine Ws (Wr ?_)
 refine iL 21 (.agg (ai g)) bU y5 (aI (Cc (sC aJ)) aZ (On (Ws (Wr ?_))))
 refine bM (bV (ai g) Q eY dA bU) Q Q Q Q (aG (Iv k) y4 (aG (Iv l) y4 (aP fun r1 hr1 => (aO.step (cZ [.agg (ai g),.c (iC k),.c (iC l)] (Fw.Fn.ren [(0,23),(1,24),(2,25)] (aEV g k l r1 hr1) Q) Zi (AB y4) J y3) z4 J Q Q (aG (.dM [.agg [lo 23 r1.1.Free.length,lo 24 r1.1.aT.length,lo 25 r1.1.aN.length],.c (bC r1.2)]) y4 (gy (.agg [lo 23 r1.1.Free.length,lo 24 r1.1.aT.length,lo 25 r1.1.aN.length]) y5 (gy (.c (bC r1.2)) y5 (eG 26 [sC aJ,sC aJ,sC aJ] nO y6 (bQ (stA [lo 23 r1.1.Free.length,lo 24 r1.1.aT.length,lo 25 r1.1.aN.length] Q Q gQ fK) Q Q Q Q Q (aI (Bv r1.2) y4 (On (Ws ?_))))))))))))
 refine en [(7,Cc (.pl 26 0))] [(23,pR 3 aF r1.1.Free),(24,pR 3 aF r1.1.aT),(25,pR 3 aF r1.1.aN),(26,.row 113 [[lo 23 r1.1.Free.length,lo 24 r1.1.aT.length,lo 25 r1.1.aN.length]])] z1 z4 (Wr (l7 (iO 27 aF [] [] dS iH y7) Q Q (dK (lo 25 r1.1.aN.length) qX fF ax (aP fun u2 hu2 => (ny (LT.nZ (enc:=aF) Q Q Q dS iH Q (by decide) (by decide) (fun _ => Q) (jo hu2)) Q Q Q Q Q Q (aI (Cc (lo 27 ((([]:List Int) ++ r1.1.aN).length))) y4 (On (en [(6,Cc (lo 27 ((([]:List Int) ++ r1.1.aN).length)))] [(27,pR 3 aF (([]:List Int) ++ r1.1.aN))] z1 z1 (aA.ent (aQ.mv 27 0 Q Q) (en [(6,Cc (lo 0 ((([]:List Int) ++ r1.1.aN).length)))] [(0,pR 3 aF (([]:List Int) ++ r1.1.aN))] z1 z1 ?_))))))))))
 refine bP z1 z1 ⟨J,J⟩ ⟨bD.bf dw,J⟩
theorem aMq (f:bF):FT Tryz.prog (Oq f) 56 [.agg (bn f)] [] (fun (t:((List Int) × Bool)) => [.c (lo 0 t.1.length),.c (bC t.2)]) (fun (t:((List Int) × Bool)) => [(0,pR 3 aF t.1)]) [0]:=by
 refine FT.of [] Tryz.func56 Tryz.ntmps56 Q y2 ?_
 intro w0 U0 R0 g0
 unfold Oq
 refine Ws (Wr ?_)
 refine iL 21 (.agg (bn f)) dB y5 (aI (Cc (sC aJ)) aZ (aI (Bv false) aZ (On (Ws (Ws (Wr ?_))))))
 refine bM (bV (bn f) Q gJ dR dB) Q Q Q Q (aP fun r1 hr1 => (jD [.agg (bn f)] (AP f r1 hr1) zK (oL y3) y5 z2 (aY (LT.not Q) Q Q Q (On (aA.cond Q (fun hc2 => ?_) (fun hc2 => ?_))))))
 ·refine Ws (Wr ?_)
  refine l7 (iO 23 aF [] [] dS iH y7) Q Q (aI (Cc (lo 23 (([]:List Int).length))) y4 (aI (Bv false) aZ (On (en [(2,Cc (lo 23 (([]:List Int).length))),(3,Bv false)] [(23,pR 3 aF ([]:List Int))] z2 z1 (aA.ent (aQ.mv 23 0 Q Q) (en [(2,Cc (lo 0 (([]:List Int).length))),(3,Bv false)] [(0,pR 3 aF ([]:List Int))] z2 z1 (bP z2 z1 ⟨J,ah.sc,J⟩ ⟨bD.bf dw,J⟩)))))))
 ·refine aA.skip (Ws (Wr ?_))
  refine aY (LT.gU Q lF) Q Q Q (bM (bV (ai f.Graph) Q eY dA bU) Q Q Q Q (aP fun r3 hr3 => (aO.step (cZ [.agg (ai f.Graph),.c (iC 2),.c (iC 3)] (Fw.Fn.ren [(0,25)] (aMe f.Graph 2 3 r3 hr3) Q) aFQ (AB y4) J y3) ⟨Q,Q,y2,y2,J⟩ J Q Q (aI (Cc (lo 25 r3.length)) y4 (On (Ws ?_))))))
  refine en [(1,Cc (.pl 21 0)),(4,Cc (lo 25 r3.length))] [(21,.row 46 [bn f]),(25,pR 3 aF r3)] z2 z2 (aA.draw mixed (bg (LT.gU Q lF) Q Q Q (gq (bV (ai f.Graph) Q eY dA bU) Q Q Q Q (bJ (Cc (lo 25 r3.length)) y4 (aU.bind fun r4 hr4 => (aU.step (cF [.agg (ai f.Graph),.c (lo 25 r3.length)] [(25,pR 3 aF r3)] (Fw.Fn.ren [(0,27)] (aMo f.Graph r3 r4 hr4) Q) aF8 (.cons (.agg (.cons (.same Q) (.cons (.same Q) .nil))) (.cons (.c (.fC Q Q)) .nil)) J y3) z3 z1 Q Q (eH (xF au f.Places) jm kU ax (dZ (LT.build [(0,.tmp 19,.agg [iC r4.aH,lo 27 r4.aC.length]),(1,.tmp 21,.c (xF au f.Places))] Q Q xZ lJ Q Q Q) Q Q Q Q (xI (LT.alloc (n:=28) (cells:=[iC 0,sC aJ,sC aJ]) Q lJ Q Q Q) Q Q (kJ (stA [iC r4.aH,lo 27 r4.aC.length,xF au f.Places] Q Q dR dB) Q Q Q Q Q ?_))))))))))
  refine fA (Ws (en [(1,Cc (.pl 21 0)),(4,Cc (lo 25 r3.length)),(5,Cc (.pl 28 0))] [(21,.row 46 [bn f]),(25,pR 3 aF r3),(27,pR 40 aK r4.aC),(28,.row 46 [[iC r4.aH,lo 27 r4.aC.length,xF au f.Places]])] z3 z4 (Wr (bM (bV [iC r4.aH,lo 27 r4.aC.length,xF au f.Places] Q gJ dR dB) Q Q Q Q (aP fun r5 mG => (aO.step (cF [.agg [iC r4.aH,lo 27 r4.aC.length,xF au f.Places]] [(27,pR 40 aK r4.aC)] (Fw.Fn.ren [(0,30)] (aMr (bF.mk r4 f.Places) r5 mG) Q) aFN (.cons (.agg (.cons (.same Q) (.cons (.fC Q Q) (.cons (.same Q) .nil)))) .nil) J y3) z2 z1 Q Q (aI (Cc (lo 30 r5.length)) y4 (On (Ws (Ws (Wr ?_)))))))))))
  refine aG (Cc (lo 30 r5.length)) y4 (aY (LT.lG Q kR) Q Q Q (af LT.eql aV (On (aA.cond Q (fun hc6 => ?_) (fun hc6 => ?_)))))
  ·refine Ws (Wr ?_)
   refine l7 (iO 31 aF [] [] dS iH y7) Q Q (aI (Cc (lo 31 (([]:List Int).length))) y4 (aI (Bv false) aZ (On (en [(2,Cc (lo 31 (([]:List Int).length))),(3,Bv false)] [(31,pR 3 aF ([]:List Int))] z2 z1 (aA.ent (aQ.mv 31 0 Q Q) (en [(2,Cc (lo 0 (([]:List Int).length))),(3,Bv false)] [(0,pR 3 aF ([]:List Int))] z2 z1 (bP z2 z1 ⟨J,ah.sc,J⟩ ⟨bD.bf dw,J⟩)))))))
  ·refine aA.skip (Ws (Wr ?_))
   refine aY (LT.gU Q lF) Q Q Q (dK (xF aK f.Graph.aC) gK iK ax (aY (LT.iI Q iU) Q Q Q (aP fun u7 NU => (zD (LT.CP (n:=32) (enc:=aF) (zc:=[iC 0]) (0:Int) Q dS iH Q Q Q (by decide) (by decide) (zY NU) Q) Q Q Q Q (aI (Cc (lo 32 ((List.replicate (f.Graph.aC.length:Int).toNat (0:Int)).length))) y4 (On (Ws (Ws ?_))))))))
   refine en [(4,Cc (lo 25 r3.length)),(6,Cc (lo 30 r5.length)),(7,Cc (lo 32 ((List.replicate (f.Graph.aC.length:Int).toNat (0:Int)).length)))] [(25,pR 3 aF r3),(30,pR 28 (dQ true) r5),(32,pR 3 aF (List.replicate (f.Graph.aC.length:Int).toNat (0:Int)))] z3 z3 (Wr (aI (Iv 0) aZ (On (aA.block ?_))))
   refine aA.jI (id:=0) (Jh r3 r5) (fun s8 => ([(4,Cc (lo 25 r3.length)),(6,Cc (lo 30 r5.length)),(7,Cc (lo 32 s8.2.length)),(8,Iv s8.1)],[(25,pR 3 aF r3),(30,pR 28 (dQ true) r5),(32,pR 3 aF s8.2)])) (fun b19 => ([(7,Cc (lo 32 b19.length))],[(32,pR 3 aF b19)])) ?_ (aQ.of z4 z3) Q (fun b19 _ => ?_)
   ·intro s8
    unfold Jh
    refine Ws (Ws (Wr ?_))
    refine aG (Iv s8.1) y4 (aG (Cc (lo 25 r3.length)) y4 (aY (LT.lG Q dS) Q Q Q (af LT.lss y5 (On (aA.cond Q (fun A7 => ?_) (fun A7 => ?_))))))
    ·refine aA.skip (Ws (aA.block (aA.draw mixed ?_)))
     refine bJ (Cc (lo 32 s8.2.length)) y4 (bJ (Cc (lo 25 r3.length)) y4 (bJ (Iv s8.1) y4 (aU.bind fun x21 BJ => (jV (LT.fP Q Q dU BJ) Q Q Q Q Q (gq (kC 0 Q ak BJ) Q Q Q Q (bJ (Cc (lo 30 r5.length)) y4 (aU.bind fun rG DN => (jV (LT.fP Q Q l9 DN) Q y2 Q Q Q (gq (kC 0 Q fF DN) Q Q Q Q (bJ (Iv s8.1) y4 (aU.bind fun x23 XG => ?_)))))))))))
     refine dZ (LT.eF (enc:=aF) Q dU XG gI) Q Q Q Q (bg (LT.iw Q ak) Q Q Q (aU.bind fun x24 hx24 => (jV (LT.fP Q Q dU hx24) Q Q Q Q Q (kJ (lq 0 (.c (iC x23)) x23 Q Q mJ gI hx24) Q Q Q Q Q (fA (aA.blk (en [(4,Cc (lo 25 r3.length)),(6,Cc (lo 30 r5.length)),(7,Cc (lo 32 s8.2.length)),(8,Iv s8.1)] [(25,pR 3 aF r3),(30,pR 28 (dQ true) r5),(32,pR 3 aF (s8.2.set x21.toNat x23))] z4 z3 (Wr (aG (Iv s8.1) y4 (af LT.add aV (aI (Iv (aB (s8.1 + 1))) y4 ?_)))))))))))
     refine On (aA.nil ⟨Q,aQ.of ⟨Q,Q,congrArg (fun l1 => (some (AV.s (.c (lo 32 l1))):Option AV)) (show s8.2.length = (s8.2.set x21.toNat x23).length by simp only [List.length_set]),Q,J⟩ z3⟩)
    ·refine fV y2 z1 z1
   ·refine Ws (Wr ?_)
    refine aG (Cc (lo 32 b19.length)) y4 (aI (Cc (lo 32 b19.length)) y4 (aI (Bv true) aZ (On (en [(2,Cc (lo 32 b19.length)),(3,Bv true)] [(32,pR 3 aF b19)] z2 z1 (aA.ent (aQ.mv 32 0 Q Q) (en [(2,Cc (lo 0 b19.length)),(3,Bv true)] [(0,pR 3 aF b19)] z2 z1 (bP z2 z1 ⟨J,ah.sc,J⟩ ⟨bD.bf dw,J⟩)))))))
theorem aEC (f:bF):FT Tryz.prog (Ie f) 57 [.agg (bn f)] [] (fun (t:Int) => [.c (iC t)]) (fun (t:Int) => []) []:=by
 refine FT.of [] Tryz.func57 Tryz.ntmps57 Q y2 ?_
 intro w0 U0 R0 g0
 unfold Ie
 refine Ws (Wr ?_)
 refine iL 21 (.agg (bn f)) dB y5 (aI (Iv 0) aZ (On (Ws (Ws (Wr ?_)))))
 refine bM (bV (bn f) Q gJ dR dB) Q Q Q Q (aP fun r1 hr1 => (jD [.agg (bn f)] (EK f r1 hr1) C9 (oL y3) y5 z2 (aY (LT.not Q) Q Q Q (On (aA.cond Q (fun hc2 => ?_) (fun hc2 => ?_))))))
 ·refine Ws (Wr ?_)
  refine aI (Iv (-1)) aZ (On (bP z1 J ⟨ah.sc,J⟩ J))
 ·refine aA.skip (Ws (aA.draw mixed ?_))
  refine bg (LT.gU Q lF) Q Q Q (gq (bV (ai f.Graph) Q eY dA bU) Q Q Q Q (aU.bind fun r3 hr3 => (aU.pure (cZ [.agg (ai f.Graph),.c (iC 2),.c (iC 3)] (aEE f.Graph 2 3 r3 hr3) Zd (AB y4) J y3) ⟨Q,Q,y2,y2,J⟩ J Q Q (gq (bV (bn f) Q gJ dR dB) Q Q Q Q (aU.bind fun r4 hr4 => (aU.pure (cZ [.agg (bn f)] (aEA f r4 hr4) Ze (oL y3) J y3) z2 J Q Q (jJ LT.sub y5 (bg (LT.assign (v:=(Iv (aB (r3 - r4)))) Q) Q Q Q (fA (bP z1 J ⟨ah.sc,J⟩ J))))))))))
theorem aMm (f:bF):FT Tryz.prog (Ol f) 58 [.agg (bn f)] [] (fun (t:Int) => [.c (iC t)]) (fun (t:Int) => []) []:=by
 refine FT.of [] Tryz.func58 Tryz.ntmps58 Q y2 ?_
 intro w0 U0 R0 g0
 unfold Ol
 refine Ws (Wr ?_)
 refine iL 21 (.agg (bn f)) dB y5 (aI (Iv 0) aZ (On (Ws (Ws (Wr ?_)))))
 refine bM (bV (bn f) Q gJ dR dB) Q Q Q Q (aP fun r1 hr1 => (jD [.agg (bn f)] (AP f r1 hr1) zK (oL y3) y5 z2 (aY (LT.not Q) Q Q Q (On (aA.cond Q (fun hc2 => ?_) (fun hc2 => ?_))))))
 ·refine Ws (Wr ?_)
  refine aI (Iv (-1)) aZ (On (bP z1 J ⟨ah.sc,J⟩ J))
 ·refine aA.skip (Ws (aA.draw mixed ?_))
  refine bg (LT.gU Q lF) Q Q Q (gq (bV (ai f.Graph) Q eY dA bU) Q Q Q Q (aU.bind fun r3 hr3 => (aU.pure (cZ [.agg (ai f.Graph),.c (iC 2),.c (iC 3)] (aES f.Graph 2 3 r3 hr3) aAD (AB y4) J y3) ⟨Q,Q,y2,y2,J⟩ J Q Q (gq (bV (bn f) Q gJ dR dB) Q Q Q Q (aU.bind fun r4 hr4 => (aU.pure (cZ [.agg (bn f)] (aEO f r4 hr4) Zf (oL y3) J y3) z2 J Q Q (jJ LT.sub y5 (bg (LT.assign (v:=(Iv (aB (r3 - r4)))) Q) Q Q Q (fA (bP z1 J ⟨ah.sc,J⟩ J))))))))))
theorem aMJ (f:bF):FT Tryz.prog (OB f) 59 [.agg (bn f)] [] (fun (t:Bool) => [.c (bC t)]) (fun (t:Bool) => []) []:=by
 refine FT.of [] Tryz.func59 Tryz.ntmps59 Q y2 ?_
 intro w0 U0 R0 g0
 unfold OB
 refine Ws (Wr ?_)
 refine iL 21 (.agg (bn f)) dB y5 (aI (Bv false) aZ (On (Ws (Wr ?_))))
 refine bM (bV (bn f) Q gJ dR dB) Q Q Q Q (aP fun r1 hr1 => (jD [.agg (bn f)] (aEC f r1 hr1) Z5 (oL y3) y5 z2 (af LT.gtr aV (aI (Bv (decide (0 < r1))) y4 (On (bP z1 J ⟨ah.sc,J⟩ J))))))
theorem aEX (code:(List Int)):FT Tryz.prog (Jm code) 133 [.c (xT dI code)] [] (fun (t:(aj × Int)) => [.agg [iC t.1.aH,lo 0 t.1.aC.length],.c (iC t.2)]) (fun (t:(aj × Int)) => [(0,pR 40 aK t.1.aC)]) [0]:=by
 refine FT.of [] Tryz.func133 Tryz.ntmps133 Q y2 ?_
 intro w0 U0 R0 g0
 unfold Jm
 refine Ws (Wr ?_)
 refine eG 21 [iC 0,sC aJ] jk y6 (aI (Iv 0) aZ (On (Ws (Wr ?_))))
 refine aG (Cc (xT dI code)) y4 (aP fun r1 hr1 => (aO.step (cZ [.c (xT dI code)] (Fw.Fn.ren [(0,23)] (Yp code r1 hr1) Q) U8 (kQ Q) J y3) z2 J Q Q (aI (Cc (.pl 23 0)) y4 (On (Ws (Wr ?_))))))
 refine aG (Cc (.pl 23 0)) y4 (aP fun r2 hr2 => (aO.step (cZ [.c (.pl 23 0)] (Fw.Fn.ren [(0,23),(1,25)] (aM1 r1 r2 hr2) Q) aF5 (kQ Q) z1 y3) z2 z1 Q Q (eG 26 [iC 0,sC aJ] jk y6 (bQ (stA [iC r2.1.aH,lo 25 r2.1.aC.length] Q Q dA bU) Q Q Q Q Q (On (Ws ?_))))))
 refine en [(2,Cc (.pl 21 0)),(4,Cc (.pl 23 0)),(5,Cc (.pl 26 0))] [(21,.row 26 [[iC 0,sC aJ]]),(23,.row 105 [fE r2.2]),(25,pR 40 aK r2.1.aC),(26,.row 26 [[iC r2.1.aH,lo 25 r2.1.aC.length]])] z3 z4 (aA.draw mixed (gq (bV [iC r2.1.aH,lo 25 r2.1.aC.length] Q eY dA bU) Q Q Q Q (bJ (Cc (.pl 23 0)) y4 (aU.bind fun r3 hr3 => (aU.step (cZ [.c (.pl 23 0),.c (iC 66000)] (Fw.Fn.ren [(0,23)] (lu r2.2 66000 r3 hr3) Q) lX (iZ y2) z1 y3) ⟨Q,Q,y2,J⟩ z1 Q Q (jJ LT.sub aV (kJ (stA [iC r2.1.aH,lo 25 r2.1.aC.length] Q Q dA bU) Q Q Q Q Q (bg (LT.assign (v:=(Iv (aB (r3.1 - 2)))) Q) Q Q Q (fA (en [(2,Cc (.pl 21 0)),(3,Iv (aB (r3.1 - 2)))] [(21,.row 26 [[iC r2.1.aH,lo 25 r2.1.aC.length]]),(25,pR 40 aK r2.1.aC)] z2 z2 (aA.ent (aQ.mv 25 0 Q Q) ?_)))))))))))
 refine en [(2,Cc (.pl 21 0)),(3,Iv (aB (r3.1 - 2)))] [(0,pR 40 aK r2.1.aC),(21,.row 26 [[iC r2.1.aH,lo 0 r2.1.aC.length]])] z2 z2 (bP ⟨⟨_,_,_,Q,Q,Q,eY,bU,_,gm dA⟩,Q,J⟩ z1 ⟨⟨ah.sc,J,J⟩,ah.sc,J⟩ ⟨bD.bf kG,J⟩)
theorem aMf (code:(List Int)):FT Tryz.prog (OY code) 62 [.c (xT dI code)] [] (fun (t:(aj × Int)) => [.agg [iC t.1.aH,lo 0 t.1.aC.length],.c (iC t.2)]) (fun (t:(aj × Int)) => [(0,pR 40 aK t.1.aC)]) [0]:=by
 refine FT.of [] Tryz.func62 Tryz.ntmps62 Q y2 ?_
 intro w0 U0 R0 g0
 unfold OY
 refine Ws (Wr ?_)
 refine eG 21 [iC 0,sC aJ] jk y6 (aI (Iv 0) aZ (On (Ws (Wr ?_))))
 refine aG (Cc (xT dI code)) y4 (aP fun r1 hr1 => (aO.step (cZ [.c (xT dI code)] (Fw.Fn.ren [(0,23)] (aEX code r1 hr1) Q) Zh (kQ Q) J y3) z2 J Q Q (aG (.dM [.agg [iC r1.1.aH,lo 23 r1.1.aC.length],.c (iC r1.2)]) y4 (gy (.agg [iC r1.1.aH,lo 23 r1.1.aC.length]) y5 (gy (.c (iC r1.2)) y5 (eG 24 [iC 0,sC aJ] jk y6 (bQ (stA [iC r1.1.aH,lo 23 r1.1.aC.length] Q Q dA bU) Q Q Q Q Q (aI (Iv r1.2) y4 (On (Ws ?_))))))))))
 refine en [(2,Cc (.pl 21 0)),(4,Cc (.pl 24 0)),(5,Iv r1.2)] [(21,.row 26 [[iC 0,sC aJ]]),(23,pR 40 aK r1.1.aC),(24,.row 26 [[iC r1.1.aH,lo 23 r1.1.aC.length]])] z3 z3 (Wr (bM (bV [iC r1.1.aH,lo 23 r1.1.aC.length] Q eY dA bU) Q Q Q Q (aG (Iv r1.2) y4 (bQ (stA [iC r1.1.aH,lo 23 r1.1.aC.length] Q Q dA bU) Q Q Q Q Q (aI (Iv r1.2) y4 (On (en [(2,Cc (.pl 21 0)),(3,Iv r1.2)] [(21,.row 26 [[iC r1.1.aH,lo 23 r1.1.aC.length]]),(23,pR 40 aK r1.1.aC)] z2 z2 (aA.ent (aQ.mv 23 0 Q Q) (en [(2,Cc (.pl 21 0)),(3,Iv r1.2)] [(0,pR 40 aK r1.1.aC),(21,.row 26 [[iC r1.1.aH,lo 0 r1.1.aC.length]])] z2 z2 (bP ⟨⟨_,_,_,Q,Q,Q,eY,bU,_,gm dA⟩,Q,J⟩ z1 ⟨⟨ah.sc,J,J⟩,ah.sc,J⟩ ⟨bD.bf kG,J⟩))))))))))
theorem Yk (seed:Int):FT Tryz.prog (BR seed) 71 [.c (iC seed)] [] (fun (t:Int) => [.c (iC t)]) (fun (t:Int) => []) []:=by
 refine FT.of [] Tryz.func71 Tryz.ntmps71 Q y2 ?_
 intro w0 U0 R0 g0
 unfold BR
 refine Ws (Wr ?_)
 refine aI (Iv 0) aZ (On (Ws (Ws (Wr ?_))))
 refine aG (Iv seed) y4 (aP fun r1 hr1 => (jD [.c (iC seed),.c (iC 0),.c (iC 65535)] (CS seed 0 65535 r1 hr1) Am (qF y3) y5 ⟨Q,Q,y2,y2,J⟩ (aY (LT.not Q) Q Q Q (On (aA.cond Q (fun hc2 => ?_) (fun hc2 => ?_))))))
 ·refine Ws (Wr ?_)
  refine aI (Iv 0) aZ (On (bP z1 J ⟨ah.sc,J⟩ J))
 ·refine aA.skip (Ws (Wr ?_))
  refine aG (Iv seed) y4 (af LT.mul qH (af LT.add aV (dY (LT.rem Q (by decide)) Q y2 Q Q (aI (Iv (Int.tmod (aB ((aB (25173 * seed)) + 13849)) 65536)) y4 (On (bP z1 J ⟨ah.sc,J⟩ J))))))
theorem aED (g:aj) (seed:Int):FT Tryz.prog (Ih g seed) 68 [.agg (ai g),.c (iC seed)] [] (fun (t:(bF × Bool)) => [.agg [iC t.1.Graph.aH,lo 0 t.1.Graph.aC.length,lo 1 t.1.Places.length],.c (bC t.2)]) (fun (t:(bF × Bool)) => [(0,pR 40 aK t.1.Graph.aC),(1,pR 98 au t.1.Places)]) [0,1]:=by
 refine FT.of [] Tryz.func68 Tryz.ntmps68 Q y2 ?_
 intro w0 U0 R0 g0
 unfold Ih
 refine Ws (Wr ?_)
 refine iL 21 (.agg (ai g)) bU y5 (eG 22 [iC 0,sC aJ,sC aJ] lJ y6 (aI (Bv false) aZ (On (Ws (Ws ?_)))))
 refine aA.eP (fun j4 => ([(1,Iv seed),(2,Cc (.pl 21 0)),(4,Cc (.pl 22 0)),(15,Bv j4)],[(21,.row 26 [ai g]),(22,.row 46 [[iC 0,sC aJ,sC aJ]])])) ?_ (fun j4 _ => ?_)
 ·refine Wr (bM (bV (ai g) Q eY dA bU) Q Q Q Q (aP fun r5 mG => (jD [.agg (ai g)] (Yi g r5 mG) U9 (vX y2) y5 z2 (aY (LT.not Q) Q Q Q (aG (Bv (!r5)) y4 (aO.split (fun hb6 => ?_) (fun hb6 => ?_)))))))
  ·refine aS hb6 y5 (aS hb6 y5 (aS hb6 y5 (dJ (Bv true) hb6 aV (On (aX Q z4 z2)))))
  ·refine eu (Iv seed) hb6 y5 (aP fun r7 oI => (aO.pure (cZ [.c (iC seed),.c (iC 0),.c (iC 65535)] (CS seed 0 65535 r7 oI) Am (qF y3) J y3) ⟨Q,Q,y2,y2,J⟩ J (gH hb6 Q Q) Q (aY (LT.not Q) Q (gH hb6 Q Q) Q (eU (Bv (!r7)) hb6 y5 (On (aX Q z4 z2))))))
 ·refine aA.cond Q (fun hc8 => ?_) (fun hc8 => ?_)
  ·refine Ws (Wr ?_)
   refine yG (LT.build [] Q Q xZ lJ Q Q Q) Q Q (bQ (stA [iC 0,sC aJ,sC aJ] Q Q dR dB) Q Q Q Q Q (aI (Bv false) aZ (On (aA.ent (aQ.nX 22 1 0 40 Q Q Q Q) (aA.ent (aQ.nX 22 2 1 98 Q Q Q Q) (en [(4,Cc (.pl 22 0)),(5,Bv false)] [(0,pR 40 aK ([]:List aW)),(1,pR 98 au ([]:List dh)),(22,.row 46 [[iC 0,lo 0 (([]:List aW).length),lo 1 (([]:List dh).length)]])] z2 z3 (bP ⟨⟨_,_,_,Q,Q,Q,gJ,dB,_,gm dR⟩,Q,J⟩ z2 ⟨⟨ah.sc,J,J,J⟩,ah.sc,J⟩ ⟨bD.bf kG,bD.bf qy,J⟩)))))))
  ·refine aA.skip (Ws (Wr ?_))
   refine bM (bV (ai g) Q eY dA bU) Q Q Q Q (aP fun r9 rX => (aO.step (cZ [.agg (ai g)] (Fw.Fn.ren [(0,26)] (aMQ g r9 rX) Q) aF6 (vX y2) J y3) z2 J Q Q (aY (LT.build [(0,.tmp 18,.agg [iC r9.aH,lo 26 r9.aC.length])] Q Q xZ lJ Q Q Q) Q Q Q (eG 27 [iC 0,sC aJ,sC aJ] lJ y6 (bQ (stA [iC r9.aH,lo 26 r9.aC.length,sC aJ] Q Q dR dB) Q Q Q Q Q (On (Ws (Ws ?_))))))))
   refine en [(1,Iv seed),(2,Cc (.pl 21 0)),(4,Cc (.pl 22 0)),(6,Cc (.pl 27 0))] [(21,.row 26 [ai g]),(22,.row 46 [[iC 0,sC aJ,sC aJ]]),(26,pR 40 aK r9.aC),(27,.row 46 [[iC r9.aH,lo 26 r9.aC.length,sC aJ]])] z4 z4 (Wr (dK (iC g.aH) kV ak ax (aG (Iv 0) aZ (On (aA.block ?_)))))
   refine aA.ent (aQ.nX 27 2 31 98 Q Q Q Q) (aA.jI (id:=0) (FI g r9) (fun s10 => ([(1,Iv s10.1),(4,Cc (.pl 22 0)),(6,Cc (.pl 27 0)),(21,Iv g.aH),(22,Iv s10.2.1)],[(22,.row 46 [[iC 0,sC aJ,sC aJ]]),(26,pR 40 aK r9.aC),(27,.row 46 [[iC r9.aH,lo 26 r9.aC.length,lo 31 s10.2.2.length]]),(31,pR 98 au s10.2.2)])) (fun b17 => ([(4,Cc (.pl 22 0)),(6,Cc (.pl 27 0))],[(22,.row 46 [[iC 0,sC aJ,sC aJ]]),(26,pR 40 aK b17.1),(27,.row 46 [[iC b17.2.1,lo 26 b17.1.length,lo 31 b17.2.2.length]]),(31,pR 98 au b17.2.2)])) ?_ (aQ.of z5 z4) Q (fun b17 _ => ?_))
   ·intro s10
    unfold FI
    refine Ws (Wr ?_)
    refine af LT.lss y5 (On (Ws ?_))
    refine aA.cond Q (fun hc18 => ?_) (fun hc18 => ?_)
    ·refine aA.skip (Ws (aA.block (Ws (Wr ?_))))
     refine aG (Iv s10.1) y4 (aP fun dn BG => (jD [.c (iC s10.1)] (Yk s10.1 dn BG) U6 (kQ Q) y5 z2 (aI (Iv dn) y4 (On (Ws (Wr ?_))))))
     refine aG (Iv dn) y4 (dY (LT.quo Q (by decide)) Q y2 Q Q (dY (LT.rem Q (by decide)) Q y2 Q Q (aI (Iv (Int.tmod (aB (Int.tdiv dn 16)) 25)) y4 (On (Wr ?_)))))
     refine dK (lo 31 s10.2.2.length) jm kU ax (aG (Iv (Int.tmod (aB (Int.tdiv dn 16)) 25)) y4 (dY (LT.rem Q (by decide)) Q y2 Q Q (aG (Iv (Int.tmod (aB (Int.tdiv dn 16)) 25)) y4 (dY (LT.quo Q (by decide)) Q y2 Q Q (dY (LT.build [(0,.tmp 32,.c (iC (Int.tmod (Int.tmod (aB (Int.tdiv dn 16)) 25) 5))),(1,.tmp 34,.c (iC (aB (Int.tdiv (Int.tmod (aB (Int.tdiv dn 16)) 25) 5))))] Q Q TM uS Q Q Q) Q Q Q Q (nP (iO 29 au [(0,.tmp 35,.agg [iC (Int.tmod (Int.tmod (aB (Int.tdiv dn 16)) 25) 5),iC (aB (Int.tdiv (Int.tmod (aB (Int.tdiv dn 16)) 25) 5))])] [dh.mk (Int.tmod (Int.tmod (aB (Int.tdiv dn 16)) 25) 5) (aB (Int.tdiv (Int.tmod (aB (Int.tdiv dn 16)) 25) 5))] sU uS y7) Q Q Q (aP fun u20 Wv => (ny (LT.nZ (enc:=au) Q Q Q sU uS Q (by decide) (by decide) (fun _ => Q) (jo Wv)) Q Q Q Q Q Q (aY (LT.gU Q jm) Q Q Q (bQ (qh (.c (lo 31 ((s10.2.2 ++ [dh.mk (Int.tmod (Int.tmod (aB (Int.tdiv dn 16)) 25) 5) (aB (Int.tdiv (Int.tmod (aB (Int.tdiv dn 16)) 25) 5))]).length))) [iC r9.aH,lo 26 r9.aC.length,lo 31 ((s10.2.2 ++ [dh.mk (Int.tmod (Int.tmod (aB (Int.tdiv dn 16)) 25) 5) (aB (Int.tdiv (Int.tmod (aB (Int.tdiv dn 16)) 25) 5))]).length)] Q Q Rn UL) Q Q Q Q Q ?_))))))))))
     refine On (aA.blk ?_)
     refine en [(1,Iv dn),(4,Cc (.pl 22 0)),(6,Cc (.pl 27 0)),(21,Iv g.aH),(22,Iv s10.2.1)] [(22,.row 46 [[iC 0,sC aJ,sC aJ]]),(26,pR 40 aK r9.aC),(27,.row 46 [[iC r9.aH,lo 26 r9.aC.length,lo 31 ((s10.2.2 ++ [dh.mk (Int.tmod (Int.tmod (aB (Int.tdiv dn 16)) 25) 5) (aB (Int.tdiv (Int.tmod (aB (Int.tdiv dn 16)) 25) 5))]).length)]]),(31,pR 98 au (s10.2.2 ++ [dh.mk (Int.tmod (Int.tmod (aB (Int.tdiv dn 16)) 25) 5) (aB (Int.tdiv (Int.tmod (aB (Int.tdiv dn 16)) 25) 5))]))] z5 z4 (Wr (af LT.add aV (aG (Iv (aB (s10.2.1 + 1))) y4 (On (aX Q z5 z4)))))
    ·refine fV y2 z2 z4
   ·refine Ws (Ws (Wr ?_))
    refine bM (bV [iC b17.2.1,lo 26 b17.1.length,lo 31 b17.2.2.length] Q gJ dR dB) Q Q Q Q (aP fun dV Eu => (aO.pure (cF [.agg [iC b17.2.1,lo 26 b17.1.length,lo 31 b17.2.2.length]] [(26,pR 40 aK b17.1),(31,pR 98 au b17.2.2)] (EK (bF.mk (aj.mk b17.2.1 b17.1) b17.2.2) dV Eu) C9 (.cons (.agg (.cons (.same Q) (.cons (.fC Q Q) (.cons (.fC Q Q) .nil)))) .nil) J y3) z2 z2 Q Q (aY (LT.not Q) Q Q Q (On (aA.cond Q (fun hc22 => ?_) (fun hc22 => ?_))))))
    ·refine Ws (Wr ?_)
     refine yG (LT.build [] Q Q xZ lJ Q Q Q) Q Q (bQ (stA [iC 0,sC aJ,sC aJ] Q Q dR dB) Q Q Q Q Q (aI (Bv false) aZ (On (aA.ent (aQ.nX 22 1 0 40 Q Q Q Q) (aA.ent (aQ.nX 22 2 1 98 Q Q Q Q) (en [(4,Cc (.pl 22 0)),(5,Bv false)] [(0,pR 40 aK ([]:List aW)),(1,pR 98 au ([]:List dh)),(22,.row 46 [[iC 0,lo 0 (([]:List aW).length),lo 1 (([]:List dh).length)]])] z2 z3 (bP ⟨⟨_,_,_,Q,Q,Q,gJ,dB,_,gm dR⟩,Q,J⟩ z2 ⟨⟨ah.sc,J,J,J⟩,ah.sc,J⟩ ⟨bD.bf kG,bD.bf qy,J⟩)))))))
    ·refine aA.skip (Ws (Wr ?_))
     refine bM (bV [iC b17.2.1,lo 26 b17.1.length,lo 31 b17.2.2.length] Q gJ dR dB) Q Q Q Q (bQ (stA [iC b17.2.1,lo 26 b17.1.length,lo 31 b17.2.2.length] Q Q dR dB) Q Q Q Q Q (aI (Bv true) aZ (On (en [(4,Cc (.pl 22 0)),(5,Bv true)] [(22,.row 46 [[iC b17.2.1,lo 26 b17.1.length,lo 31 b17.2.2.length]]),(26,pR 40 aK b17.1),(31,pR 98 au b17.2.2)] z2 z3 (aA.ent (aQ.mv 26 0 Q Q) (aA.ent (aQ.mv 31 1 Q Q) (en [(4,Cc (.pl 22 0)),(5,Bv true)] [(0,pR 40 aK b17.1),(1,pR 98 au b17.2.2),(22,.row 46 [[iC b17.2.1,lo 0 b17.1.length,lo 1 b17.2.2.length]])] z2 z3 (bP ⟨⟨_,_,_,Q,Q,Q,gJ,dB,_,gm dR⟩,Q,J⟩ z2 ⟨⟨ah.sc,J,J,J⟩,ah.sc,J⟩ ⟨bD.bf kG,bD.bf qy,J⟩))))))))
theorem aEB (f:bF):FT Tryz.prog (Ib f) 65 [.agg (bn f)] [] (fun (t:Bool) => [.c (bC t)]) (fun (t:Bool) => []) []:=by
 refine FT.of [] Tryz.func65 Tryz.ntmps65 Q y2 ?_
 intro w0 U0 R0 g0
 unfold Ib
 refine Ws (Wr ?_)
 refine iL 21 (.agg (bn f)) dB y5 (aI (Bv false) aZ (On (Ws ?_)))
 refine aA.eP (fun j5 => ([(2,Bv j5)],[])) ?_ (fun j5 _ => ?_)
 ·refine aA.draw mixed (gq (bV (bn f) Q gJ dR dB) Q Q Q Q (aU.bind fun r6 rW => (aU.pure (cZ [.agg (bn f)] (EK f r6 rW) C9 (oL y3) J y3) z2 J Q Q (bJ (Bv r6) y4 (aU.split (fun hb7 => ?_) (fun hb7 => ?_))))))
  ·refine gq (bV (bn f) Q gJ dR dB) Q Q (gH hb7 Q Q) Q (aU.bind fun r8 tJ => (aU.pure (cZ [.agg (bn f)] (aEA f r8 tJ) Ze (oL y3) J y3) z2 J (gH hb7 Q Q) Q (bg (LT.gU Q lF) Q (gH hb7 Q Q) Q (gq (bV (ai f.Graph) Q eY dA bU) Q Q (gH hb7 Q Q) Q (aU.bind fun r9 rX => (aU.pure (cZ [.agg (ai f.Graph),.c (iC 2),.c (iC 3)] (aEE f.Graph 2 3 r9 rX) Zd (AB y4) J y3) ⟨Q,Q,y2,y2,J⟩ J (gH hb7 Q Q) Q (oZ LT.eql hb7 y6 (oJ (Bv (r8 == r9)) hb7 y5 (bg (LT.assign (v:=(Bv (r8 == r9))) Q) Q Q Q (fA (aX Q z1 J)))))))))))
  ·refine bI hb7 y3 (bI hb7 y3 (bI hb7 y3 (bI hb7 y3 (bI hb7 y3 (bI hb7 y3 (o7 (Bv false) hb7 aV (bg (LT.assign (v:=(Bv false)) Q) Q Q Q (fA (aX Q z1 J)))))))))
 ·refine bP z1 J ⟨ah.sc,J⟩ J
theorem aMH (g:aj) (seed:Int):FT Tryz.prog (IX g seed) 63 [.agg (ai g),.c (iC seed)] [] (fun (t:(bF × Int × Bool)) => [.agg [iC t.1.Graph.aH,lo 0 t.1.Graph.aC.length,lo 1 t.1.Places.length],.c (iC t.2.1),.c (bC t.2.2)]) (fun (t:(bF × Int × Bool)) => [(0,pR 40 aK t.1.Graph.aC),(1,pR 98 au t.1.Places)]) [0,1]:=by
 refine FT.of [] Tryz.func63 Tryz.ntmps63 Q y2 ?_
 intro w0 U0 R0 g0
 unfold IX
 refine Ws (Wr ?_)
 refine iL 21 (.agg (ai g)) bU y5 (eG 22 [iC 0,sC aJ,sC aJ] lJ y6 (aI (Iv 0) aZ (aI (Bv false) aZ (On (Ws (Ws (Wr ?_)))))))
 refine aG (Iv seed) y4 (aP fun r1 hr1 => (jD [.c (iC seed),.c (iC 0),.c (iC 65535)] (CS seed 0 65535 r1 hr1) Am (qF y3) y5 ⟨Q,Q,y2,y2,J⟩ (aY (LT.not Q) Q Q Q (On (aA.cond Q (fun hc2 => ?_) (fun hc2 => ?_))))))
 ·refine Ws (en [(4,Cc (.pl 22 0))] [(22,.row 46 [[iC 0,sC aJ,sC aJ]])] z1 z1 (Wr (yG (LT.build [] Q Q xZ lJ Q Q Q) Q Q (bQ (stA [iC 0,sC aJ,sC aJ] Q Q dR dB) Q Q Q Q Q (aI (Iv 0) aZ (aI (Bv false) aZ (On (aA.ent (aQ.nX 22 1 0 40 Q Q Q Q) (aA.ent (aQ.nX 22 2 1 98 Q Q Q Q) (en [(4,Cc (.pl 22 0)),(5,Iv 0),(6,Bv false)] [(0,pR 40 aK ([]:List aW)),(1,pR 98 au ([]:List dh)),(22,.row 46 [[iC 0,lo 0 (([]:List aW).length),lo 1 (([]:List dh).length)]])] z3 z3 (bP ⟨⟨_,_,_,Q,Q,Q,gJ,dB,_,gm dR⟩,Q,Q,J⟩ z2 ⟨⟨ah.sc,J,J,J⟩,ah.sc,ah.sc,J⟩ ⟨bD.bf kG,bD.bf qy,J⟩)))))))))))
 ·refine aA.skip (Ws (Ws ?_))
  refine en [(1,Iv seed),(2,Cc (.pl 21 0)),(4,Cc (.pl 22 0))] [(21,.row 26 [ai g]),(22,.row 46 [[iC 0,sC aJ,sC aJ]])] z3 z2 (Wr (aI (Iv 1) aZ (On (aA.block ?_))))
  refine aA.oz (id:=0) (IY g) (fun s3 => ([(1,Iv s3.1),(2,Cc (.pl 21 0)),(4,Cc (.pl 22 0)),(7,Iv s3.2)],[(21,.row 26 [ai g]),(22,.row 46 [[iC 0,sC aJ,sC aJ]])])) (fun b22 => ([(4,Cc (.pl 22 0))],[(22,.row 46 [[iC 0,sC aJ,sC aJ]])])) (lU Tryz.prog Tryz.f63.results.toList [] [0,1] (fun (t:(bF × Int × Bool)) => [.agg [iC t.1.Graph.aH,lo 0 t.1.Graph.aC.length,lo 1 t.1.Places.length],.c (iC t.2.1),.c (bC t.2.2)]) (fun (t:(bF × Int × Bool)) => [(0,pR 40 aK t.1.Graph.aC),(1,pR 98 au t.1.Places)])) ?_ (aQ.of z4 z2) Q (fun b22 _ => ?_) qC
  ·intro s3
   unfold IY
   refine Ws (Ws (Wr ?_))
   refine aG (Iv s3.2) y4 (af LT.leq aV (On (aA.cond Q (fun MV => ?_) (fun MV => ?_))))
   ·refine aA.skip (Ws (aA.block (Ws (Ws (Wr ?_)))))
    refine bM (bV (ai g) Q eY dA bU) Q Q Q Q (aG (Iv s3.1) y4 (aP fun fH Ew => (aO.step (cZ [.agg (ai g),.c (iC s3.1)] (Fw.Fn.ren [(0,25),(1,26)] (aED g s3.1 fH Ew) Q) Z9 (D9 y3) J y3) z3 J Q Q (aG (.dM [.agg [iC fH.1.Graph.aH,lo 25 fH.1.Graph.aC.length,lo 26 fH.1.Places.length],.c (bC fH.2)]) y4 (gy (.agg [iC fH.1.Graph.aH,lo 25 fH.1.Graph.aC.length,lo 26 fH.1.Places.length]) y5 (gy (.c (bC fH.2)) y5 (eG 27 [iC 0,sC aJ,sC aJ] lJ y6 (bQ (stA [iC fH.1.Graph.aH,lo 25 fH.1.Graph.aC.length,lo 26 fH.1.Places.length] Q Q dR dB) Q Q Q Q Q (aI (Bv fH.2) y4 (On (Ws ?_)))))))))))
    refine aA.eP (fun j27 => ([(1,Iv s3.1),(2,Cc (.pl 21 0)),(4,Cc (.pl 22 0)),(7,Iv s3.2),(8,Cc (.pl 27 0)),(28,Bv j27)],[(21,.row 26 [ai g]),(22,.row 46 [[iC 0,sC aJ,sC aJ]]),(25,pR 40 aK fH.1.Graph.aC),(26,pR 98 au fH.1.Places),(27,.row 46 [[iC fH.1.Graph.aH,lo 25 fH.1.Graph.aC.length,lo 26 fH.1.Places.length]])])) ?_ (fun j27 _ => ?_)
    ·refine en [(1,Iv s3.1),(2,Cc (.pl 21 0)),(4,Cc (.pl 22 0)),(7,Iv s3.2),(8,Cc (.pl 27 0)),(9,Bv fH.2)] [(21,.row 26 [ai g]),(22,.row 46 [[iC 0,sC aJ,sC aJ]]),(25,pR 40 aK fH.1.Graph.aC),(26,pR 98 au fH.1.Places),(27,.row 46 [[iC fH.1.Graph.aH,lo 25 fH.1.Graph.aC.length,lo 26 fH.1.Places.length]])] z6 z5 (Wr (aG (Bv fH.2) y4 (aG (Bv fH.2) y4 (aO.split (fun rU => ?_) (fun rU => ?_)))))
     ·refine bM (bV [iC fH.1.Graph.aH,lo 25 fH.1.Graph.aC.length,lo 26 fH.1.Places.length] Q gJ dR dB) Q Q (gH rU Q Q) Q (aP fun zq WR => (aO.pure (cF [.agg [iC fH.1.Graph.aH,lo 25 fH.1.Graph.aC.length,lo 26 fH.1.Places.length]] [(25,pR 40 aK fH.1.Graph.aC),(26,pR 98 au fH.1.Places)] (aEB fH.1 zq WR) Z7 (.cons (.agg (.cons (.same Q) (.cons (.fC Q Q) (.cons (.fC Q Q) .nil)))) .nil) J y3) z2 z2 (gH rU Q Q) Q (dJ (Bv zq) rU y5 (On (aX Q z6 z5)))))
     ·refine aS rU y5 (aS rU y5 (eU (Bv false) rU aV (On (aX Q z6 z5))))
    ·refine aA.cond Q (fun MW => ?_) (fun MW => ?_)
     ·refine Ws (Wr ?_)
      refine bM (bV [iC fH.1.Graph.aH,lo 25 fH.1.Graph.aC.length,lo 26 fH.1.Places.length] Q gJ dR dB) Q Q Q Q (aG (Iv s3.2) y4 (bQ (stA [iC fH.1.Graph.aH,lo 25 fH.1.Graph.aC.length,lo 26 fH.1.Places.length] Q Q dR dB) Q Q Q Q Q (aI (Iv s3.2) y4 (aI (Bv true) aZ (On (en [(4,Cc (.pl 22 0)),(5,Iv s3.2),(6,Bv true)] [(22,.row 46 [[iC fH.1.Graph.aH,lo 25 fH.1.Graph.aC.length,lo 26 fH.1.Places.length]]),(25,pR 40 aK fH.1.Graph.aC),(26,pR 98 au fH.1.Places)] z3 z3 (aA.ent (aQ.mv 25 0 Q Q) (aA.ent (aQ.mv 26 1 Q Q) (en [(4,Cc (.pl 22 0)),(5,Iv s3.2),(6,Bv true)] [(0,pR 40 aK fH.1.Graph.aC),(1,pR 98 au fH.1.Places),(22,.row 46 [[iC fH.1.Graph.aH,lo 0 fH.1.Graph.aC.length,lo 1 fH.1.Places.length]])] z3 z3 (aA.ret ⟨Q,pX ⟨⟨_,_,_,Q,Q,Q,gJ,dB,_,gm dR⟩,Q,Q,J⟩ z2 ⟨⟨ah.sc,J,J,J⟩,ah.sc,ah.sc,J⟩ ⟨bD.bf kG,bD.bf qy,J⟩⟩))))))))))
     ·refine aA.skip (Wr ?_)
      refine aG (Iv s3.1) y4 (aP fun jM Hu => (jD [.c (iC s3.1)] (Yk s3.1 jM Hu) U6 (kQ Q) y5 z2 (aI (Iv jM) y4 (On (aA.blk (Wr ?_))))))
      refine aG (Iv s3.2) y4 (af LT.add aV (aI (Iv (aB (s3.2 + 1))) y4 (On (aX Q z4 z2))))
   ·refine fV y2 z1 z1
  ·refine Ws (Wr ?_)
   refine yG (LT.build [] Q Q xZ lJ Q Q Q) Q Q (bQ (stA [iC 0,sC aJ,sC aJ] Q Q dR dB) Q Q Q Q Q (aI (Iv 0) aZ (aI (Bv false) aZ (On (aA.ent (aQ.nX 22 1 0 40 Q Q Q Q) (aA.ent (aQ.nX 22 2 1 98 Q Q Q Q) (en [(4,Cc (.pl 22 0)),(5,Iv 0),(6,Bv false)] [(0,pR 40 aK ([]:List aW)),(1,pR 98 au ([]:List dh)),(22,.row 46 [[iC 0,lo 0 (([]:List aW).length),lo 1 (([]:List dh).length)]])] z3 z3 (bP ⟨⟨_,_,_,Q,Q,Q,gJ,dB,_,gm dR⟩,Q,Q,J⟩ z2 ⟨⟨ah.sc,J,J,J⟩,ah.sc,ah.sc,J⟩ ⟨bD.bf kG,bD.bf qy,J⟩))))))))
end Go.Proofs.YtdmlaldifbmkpaaGreat
end
