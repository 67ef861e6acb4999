/- Parts of a proof that a law of the program holds: what the program computes, and why that is right. -/
import Derived.Shelf.SlSortCmp.NoneTotal
import Derived.Test.YtdmlaldifbmkpaaGreatProg
import Derived.Shelf.SlGeneric
import Derived.Shelf.SlLaysF0
import Derived.WalkKit
import Derived.Test.YtdmlaldifbmkpaaGreatRows
import Derived.ProofKit
import Derived.OpenShut
import Derived.JoinedCond
import Derived.Carry
import Derived.Deep.Slices
import Derived.ChangeSame
import Derived.Test.YtdmlaldifbmkpaaGreatZFnRedundant3
section
set_option linter.unusedVariables false
set_option linter.unusedSimpArgs false
set_option linter.unnecessarySimpa false
set_option maxRecDepth 100000
set_option maxHeartbeats 8000000
open Go Go.Fw
namespace Go.Proofs.YtdmlaldifbmkpaaGreat
theorem IA (g : aQ) (p : ay) (a : Int) (b : Int) : FT Tryz.prog (vZ g p a b) 202 [.agg [iC g.aF,xF aG g.aA],.agg [xF aC p.Free,xF aC p.aN,xF aC p.aI],.c (iC a),.c (iC b)] [] (fun (t : (ay × Bool)) => [.agg [(bif t.2 then (.loc 0 0 t.1.Free.length) else .junk),(bif t.2 then (.loc 1 0 t.1.aN.length) else .junk),(bif t.2 then (.loc 2 0 t.1.aI.length) else .junk)],.c (bC t.2)]) (fun (t : (ay × Bool)) => [(0,.dU 3 ((bif t.2 then t.1.Free else []).map aC)),(1,.dU 3 ((bif t.2 then t.1.aN else []).map aC)),(2,.dU 3 ((bif t.2 then t.1.aI else []).map aC))]) [0,1,2] := by
 refine FT.of [] Tryz.func202 Tryz.ntmps202 Q y2 ?_
 intro w0 U0 R0 g0
 unfold vZ
 refine Ws (Wr ?_)
 refine dF (LT.box (n := 21) (v := (.agg [iC g.aF,xF aG g.aA])) Q aX (by exact Q)) Q Q Q (dF (LT.box (n := 22) (v := (.agg [xF aC p.Free,xF aC p.aN,xF aC p.aI])) Q dJ (by exact Q)) Q Q Q (dA (LT.alloc (n := 23) (cells := [sC aO,sC aO,sC aO]) Q jY Q Q Q) Q Q (aP (Bv false) au (On (Ws (Wr ?_))))))
 refine cZ (iC g.aF) iq bM bG (aY fun u1 hu1 => (NJ (LT.TK (n := 24) (enc := aC) (zc := [iC 0]) (0 : Int) Q dO fF Q Q Q (by decide) (by decide) (Qa hu1) Q) Q Q Q Q (aP (Cc (lo 24 ((List.replicate g.aF.toNat (0 : Int)).length))) y4 (On (Ws (Ws ?_))))))
 refine en [(2,Iv a),(3,Iv b),(4,Cc (.pl 21 0)),(5,Cc (.pl 22 0)),(8,Cc (.pl 23 0)),(10,Cc (lo 24 ((List.replicate g.aF.toNat (0 : Int)).length)))] [(21,.row 26 [[iC g.aF,xF aG g.aA]]),(22,.row 113 [[xF aC p.Free,xF aC p.aN,xF aC p.aI]]),(23,.row 113 [[sC aO,sC aO,sC aO]]),(24,pR 3 aC (List.replicate g.aF.toNat (0 : Int)))] z6 z4 (Wr (aP (Iv 0) au (On (aB.block ?_))))
 refine aB.iy (id := 0) (Ai g) (fun s2 => ([(2,Iv a),(3,Iv b),(4,Cc (.pl 21 0)),(5,Cc (.pl 22 0)),(8,Cc (.pl 23 0)),(10,Cc (lo 24 s2.2.length)),(11,Iv s2.1)],[(21,.row 26 [[iC g.aF,xF aG g.aA]]),(22,.row 113 [[xF aC p.Free,xF aC p.aN,xF aC p.aI]]),(23,.row 113 [[sC aO,sC aO,sC aO]]),(24,pR 3 aC s2.2)])) (fun b7 => ([(2,Iv a),(3,Iv b),(4,Cc (.pl 21 0)),(5,Cc (.pl 22 0)),(8,Cc (.pl 23 0)),(10,Cc (lo 24 b7.length))],[(21,.row 26 [[iC g.aF,xF aG g.aA]]),(22,.row 113 [[xF aC p.Free,xF aC p.aN,xF aC p.aI]]),(23,.row 113 [[sC aO,sC aO,sC aO]]),(24,pR 3 aC b7)])) ?_ (aU.of z7 z4) Q (fun b7 _ => ?_)
 ·intro s2
  unfold Ai
  refine Ws (Ws (Wr ?_))
  refine aH (Iv s2.1) y4 (cZ (iC g.aF) iq bM bG (aj LT.lss y5 (On (aB.cond Q (fun hc8 => ?_) (fun hc8 => ?_)))))
  ·refine aB.skip (Ws (aB.block (Wr ?_)))
   refine aH (Cc (lo 24 s2.2.length)) y4 (aH (Iv s2.1) y4 (aY fun x9 C9 => (lC (LT.gy Q Q fV C9) Q Q Q Q Q (bW (LT.qG (k := 0) (v := (.c (iC (-1)))) (b' := (-1)) Q Q (dQ oz) jB (by exact Q) C9 (by exact Q) (by exact K Q) (by exact Q)) Q y2 Q Q Q (On (aB.blk (Wr ?_)))))))
   refine aH (Iv s2.1) y4 (aj LT.add af (aP (Iv (aJ (s2.1 + 1))) y4 (On (aB.nil ⟨Q,aU.of ⟨Q,Q,Q,Q,Q,congrArg (fun l1 => (some (AV.s (.c (lo 24 l1))) : Option AV)) (show s2.2.length = (s2.2.set s2.1.toNat (-1)).length by simp only [List.length_set]),Q,J⟩ z4⟩))))
  ·refine aB.fH Q ⟨Q,aU.of z6 z4⟩
 ·refine Ws (Wr ?_)
  refine aH (Iv a) y4 (dF (LT.eY (n := 25) (enc := aC) [(0,.tmp 30,.c (iC a))] ([a] : List Int) Q Q dO fF Q Q Q Q (by decide) (fun _ => Q) Q) Q Q Q (aP (Cc (lo 25 (([a] : List Int).length))) y4 (On (Ws (Wr ?_)))))
  refine cZ (iC g.aF) iq bM bG (aY fun u10 Jr => (NJ (LT.TK (n := 26) (enc := rF) (zc := [bC false]) false Q aBK ti4 Q Q Q (by decide) (by decide) (Qa Jr) Q) Q Q Q Q (aP (Cc (lo 26 ((List.replicate g.aF.toNat false).length))) y4 (On (Ws ?_)))))
  refine en [(2,Iv a),(3,Iv b),(4,Cc (.pl 21 0)),(5,Cc (.pl 22 0)),(8,Cc (.pl 23 0)),(10,Cc (lo 24 b7.length)),(12,Cc (lo 25 (([a] : List Int).length))),(13,Cc (lo 26 ((List.replicate g.aF.toNat false).length)))] [(21,.row 26 [[iC g.aF,xF aG g.aA]]),(22,.row 113 [[xF aC p.Free,xF aC p.aN,xF aC p.aI]]),(23,.row 113 [[sC aO,sC aO,sC aO]]),(24,pR 3 aC b7),(25,pR 3 aC ([a] : List Int)),(26,pR 4 rF (List.replicate g.aF.toNat false))] z8 z6 (Wr (aH (Cc (lo 26 ((List.replicate g.aF.toNat false).length))) y4 (aH (Iv a) y4 (aY fun x11 Pg => (lC (LT.gy Q Q Iw Pg) Q Q Q Q Q (bW (LT.qG (k := 0) (v := (.c (bC true))) (b' := true) Q Q (dQ QH) S9 (by exact Q) Pg (by exact Q) (by exact K Q) (by exact Q)) Q y2 Q Q Q (On (Ws (Ws (Wr ?_))))))))))
  refine aP (Iv 0) au (On (aB.block ?_))
  refine aB.oC (id := 2) (yG g p a b) (fun s12 => ([(2,Iv a),(3,Iv b),(4,Cc (.pl 21 0)),(5,Cc (.pl 22 0)),(8,Cc (.pl 23 0)),(10,Cc (lo 24 s12.2.1.length)),(12,Cc (lo 25 s12.2.2.1.length)),(13,Cc (lo 26 s12.2.2.2.length)),(14,Iv s12.1)],[(21,.row 26 [[iC g.aF,xF aG g.aA]]),(22,.row 113 [[xF aC p.Free,xF aC p.aN,xF aC p.aI]]),(23,.row 113 [[sC aO,sC aO,sC aO]]),(24,pR 3 aC s12.2.1),(25,pR 3 aC s12.2.2.1),(26,pR 4 rF s12.2.2.2)])) (fun Nj => ([(5,Cc (.pl 22 0)),(8,Cc (.pl 23 0))],[(22,.row 113 [[xF aC p.Free,xF aC p.aN,xF aC p.aI]]),(23,.row 113 [[sC aO,sC aO,sC aO]])])) (bD Tryz.prog Tryz.f202.results.toList [] [0,1,2] (fun (t : (ay × Bool)) => [.agg [(bif t.2 then (.loc 0 0 t.1.Free.length) else .junk),(bif t.2 then (.loc 1 0 t.1.aN.length) else .junk),(bif t.2 then (.loc 2 0 t.1.aI.length) else .junk)],.c (bC t.2)]) (fun (t : (ay × Bool)) => [(0,.dU 3 ((bif t.2 then t.1.Free else []).map aC)),(1,.dU 3 ((bif t.2 then t.1.aN else []).map aC)),(2,.dU 3 ((bif t.2 then t.1.aI else []).map aC))])) ?_ (aU.of ⟨Q,Q,Q,Q,Q,Q,Q,congrArg (fun l1 => (some (AV.s (.c (lo 26 l1))) : Option AV)) (show (List.replicate g.aF.toNat false).length = ((List.replicate g.aF.toNat false).set a.toNat true).length by simp only [List.length_set]),Q,J⟩ z6) Q (fun Nj _ => ?_) (by intro r t σ m ht hk; injection ht with ht; subst ht; exact hk)
  ·intro s12
   unfold yG
   refine Ws (Ws (Wr ?_))
   refine aH (Iv s12.1) y4 (aH (Cc (lo 25 s12.2.2.1.length)) y4 (ah (LT.lX Q dO) Q Q Q (aj LT.lss y5 (On (aB.cond Q (fun XQ => ?_) (fun XQ => ?_))))))
   ·refine aB.skip (Ws (aB.block (Ws (Wr ?_))))
    refine aH (Cc (lo 25 s12.2.2.1.length)) y4 (aH (Iv s12.1) y4 (aY fun x95 hx95 => (lC (LT.gy Q Q fV hx95) Q Q Q Q Q (bV (LT.kQ (k := 0) Q bM hx95 (by exact Q) (by exact Q)) Q Q Q Q (aP (Iv x95) y4 (On (Ws (Wr ?_))))))))
    refine aP (Iv 0) au (On (aB.block ?_))
    refine aB.oC (id := 4) (uK g p a b s12 x95) (fun cO => ([(2,Iv a),(3,Iv b),(4,Cc (.pl 21 0)),(5,Cc (.pl 22 0)),(8,Cc (.pl 23 0)),(10,Cc (lo 24 cO.2.1.length)),(12,Cc (lo 25 cO.2.2.1.length)),(13,Cc (lo 26 cO.2.2.2.length)),(14,Iv s12.1),(15,Iv x95),(16,Iv cO.1)],[(21,.row 26 [[iC g.aF,xF aG g.aA]]),(22,.row 113 [[xF aC p.Free,xF aC p.aN,xF aC p.aI]]),(23,.row 113 [[sC aO,sC aO,sC aO]]),(24,pR 3 aC cO.2.1),(25,pR 3 aC cO.2.2.1),(26,pR 4 rF cO.2.2.2)])) (fun oK => ([(2,Iv a),(3,Iv b),(4,Cc (.pl 21 0)),(5,Cc (.pl 22 0)),(8,Cc (.pl 23 0)),(10,Cc (lo 24 oK.2.1.length)),(12,Cc (lo 25 oK.2.2.1.length)),(13,Cc (lo 26 oK.2.2.2.length)),(14,Iv oK.1)],[(21,.row 26 [[iC g.aF,xF aG g.aA]]),(22,.row 113 [[xF aC p.Free,xF aC p.aN,xF aC p.aI]]),(23,.row 113 [[sC aO,sC aO,sC aO]]),(24,pR 3 aC oK.2.1),(25,pR 3 aC oK.2.2.1),(26,pR 4 rF oK.2.2.2)])) (bD Tryz.prog Tryz.f202.results.toList [] [0,1,2] (fun (t : (ay × Bool)) => [.agg [(bif t.2 then (.loc 0 0 t.1.Free.length) else .junk),(bif t.2 then (.loc 1 0 t.1.aN.length) else .junk),(bif t.2 then (.loc 2 0 t.1.aI.length) else .junk)],.c (bC t.2)]) (fun (t : (ay × Bool)) => [(0,.dU 3 ((bif t.2 then t.1.Free else []).map aC)),(1,.dU 3 ((bif t.2 then t.1.aN else []).map aC)),(2,.dU 3 ((bif t.2 then t.1.aI else []).map aC))])) ?_ (aU.of z11 z6) Q (fun oK _ => ?_) (by intro r t σ m ht hk; injection ht with ht; subst ht; exact ⟨Q,hk⟩)
    ·intro cO
     unfold uK
     refine Ws (Ws (Wr ?_))
     refine aH (Iv cO.1) y4 (cZ (xF aC p.aI) lV eU bG (ah (LT.gY Q dO) Q Q Q (aj LT.lss y5 (On (aB.cond Q (fun JK => ?_) (fun JK => ?_))))))
     ·refine aB.skip (Ws (aB.block (Ws (Ws (Wr ?_)))))
      refine cZ (xF aC p.aN) lq eU bG (aH (Iv cO.1) y4 (aY fun UJ Y1 => (fA (LT.fO (enc := aC) Q fV Y1 jB) Q Q Q Q (ah (LT.iP Q bM) Q Q Q (aH (Iv x95) y4 (aj LT.neq y5 (On (aB.cond Q (fun W9 => ?_) (fun W9 => ?_)))))))))
      ·refine aB.exit Q (en [(2,Iv a),(3,Iv b),(4,Cc (.pl 21 0)),(5,Cc (.pl 22 0)),(8,Cc (.pl 23 0)),(10,Cc (lo 24 cO.2.1.length)),(12,Cc (lo 25 cO.2.2.1.length)),(13,Cc (lo 26 cO.2.2.2.length)),(14,Iv s12.1),(15,Iv x95),(16,Iv cO.1)] [(21,.row 26 [[iC g.aF,xF aG g.aA]]),(22,.row 113 [[xF aC p.Free,xF aC p.aN,xF aC p.aI]]),(23,.row 113 [[sC aO,sC aO,sC aO]]),(24,pR 3 aC cO.2.1),(25,pR 3 aC cO.2.2.1),(26,pR 4 rF cO.2.2.2)] z11 z6 (Wr (aH (Iv cO.1) y4 (aj LT.add af (aP (Iv (aJ (cO.1 + 1))) y4 (On (aZ Q z11 z6)))))))
      ·refine aB.skip (Ws ?_)
       refine en [(2,Iv a),(3,Iv b),(4,Cc (.pl 21 0)),(5,Cc (.pl 22 0)),(8,Cc (.pl 23 0)),(10,Cc (lo 24 cO.2.1.length)),(12,Cc (lo 25 cO.2.2.1.length)),(13,Cc (lo 26 cO.2.2.2.length)),(14,Iv s12.1),(15,Iv x95),(16,Iv cO.1)] [(21,.row 26 [[iC g.aF,xF aG g.aA]]),(22,.row 113 [[xF aC p.Free,xF aC p.aN,xF aC p.aI]]),(23,.row 113 [[sC aO,sC aO,sC aO]]),(24,pR 3 aC cO.2.1),(25,pR 3 aC cO.2.2.1),(26,pR 4 rF cO.2.2.2)] z11 z6 (aB.draw mixed (fD (xF aG g.aA) dP dY bG (fD (xF aC p.aI) lV eU bG (bY (Iv cO.1) y4 (aT.bind fun UK Y2 => (eG (LT.fO (enc := aC) Q fV Y2 jB) Q Q Q Q (bf (LT.iP Q bM) Q Q Q (aT.bind fun Eb Y3 => (eG (LT.fO (enc := aG) Q iJ Y3 dM) Q Q Q Q ?_)))))))))
       refine bf (LT.ni Q jO (dQ gV) (by exact dM.symm)) Q Q Q (bY (Iv x95) y4 (aT.bind fun gW Xt => (aT.pure (bH [.agg [iC Eb.A,iC Eb.B],.c (iC x95)] (UG Eb x95 gW Xt) OH (wE y3) J y3) z3 J Q Q (bf (LT.assign (v := (Iv gW)) Q) Q Q Q (aT.nil (by kernel_rfl) (Ws (Ws ?_)))))))
       refine en [(2,Iv a),(3,Iv b),(4,Cc (.pl 21 0)),(5,Cc (.pl 22 0)),(8,Cc (.pl 23 0)),(10,Cc (lo 24 cO.2.1.length)),(12,Cc (lo 25 cO.2.2.1.length)),(13,Cc (lo 26 cO.2.2.2.length)),(14,Iv s12.1),(15,Iv x95),(16,Iv cO.1),(17,Iv gW)] [(21,.row 26 [[iC g.aF,xF aG g.aA]]),(22,.row 113 [[xF aC p.Free,xF aC p.aN,xF aC p.aI]]),(23,.row 113 [[sC aO,sC aO,sC aO]]),(24,pR 3 aC cO.2.1),(25,pR 3 aC cO.2.2.1),(26,pR 4 rF cO.2.2.2)] z12 z6 (Wr (aH (Cc (lo 26 cO.2.2.2.length)) y4 (aH (Iv gW) y4 (aY fun UL Pj => (lC (LT.gy Q Q Iw Pj) Q Q Q Q Q (bV (LT.kQ (k := 0) Q Ud Pj (by exact Q) (by exact Q)) Q Q Q Q (On (aB.cond Q (fun JL => ?_) (fun JL => ?_)))))))))
       ·refine aB.exit Q (Wr ?_)
        refine aH (Iv cO.1) y4 (aj LT.add af (aP (Iv (aJ (cO.1 + 1))) y4 (On (aZ Q z11 z6))))
       ·refine aB.skip (Ws (Wr ?_))
        refine aH (Cc (lo 26 cO.2.2.2.length)) y4 (aH (Iv gW) y4 (aY fun aB7 Pm => (lC (LT.gy Q Q Iw Pm) Q Q Q Q Q (bW (LT.qG (k := 0) (v := (.c (bC true))) (b' := true) Q Q (dQ QH) S9 (by exact Q) Pm (by exact Q) (by exact K Q) (by exact Q)) Q y2 Q Q Q (On (Ws (Wr ?_)))))))
        refine aH (Cc (lo 24 cO.2.1.length)) y4 (aH (Iv gW) y4 (aH (Iv cO.1) y4 (aY fun aB8 Pn => (lC (LT.gy Q Q fV Pn) Q Q Q Q Q (bW (LT.qG (k := 0) (v := (.c (iC cO.1))) (b' := cO.1) Q Q (dQ oz) jB (by exact Q) Pn (by exact Q) (by exact K Q) (by exact Q)) Q Q Q Q Q (On (Ws (Ws ?_))))))))
        refine aB.dZ (fun tY => ([(2,Iv a),(3,Iv b),(4,Cc (.pl 21 0)),(5,Cc (.pl 22 0)),(8,Cc (.pl 23 0)),(10,Cc (lo 24 ((cO.2.1.set gW.toNat cO.1).length))),(12,Cc (lo 25 cO.2.2.1.length)),(13,Cc (lo 26 ((cO.2.2.2.set gW.toNat true).length))),(14,Iv s12.1),(15,Iv x95),(16,Iv cO.1),(17,Iv gW),(94,Bv tY)],[(21,.row 26 [[iC g.aF,xF aG g.aA]]),(22,.row 113 [[xF aC p.Free,xF aC p.aN,xF aC p.aI]]),(23,.row 113 [[sC aO,sC aO,sC aO]]),(24,pR 3 aC (cO.2.1.set gW.toNat cO.1)),(25,pR 3 aC cO.2.2.1),(26,pR 4 rF (cO.2.2.2.set gW.toNat true))])) ?_ (fun tY _ => ?_)
        ·refine en [(2,Iv a),(3,Iv b),(4,Cc (.pl 21 0)),(5,Cc (.pl 22 0)),(8,Cc (.pl 23 0)),(10,Cc (lo 24 cO.2.1.length)),(12,Cc (lo 25 cO.2.2.1.length)),(13,Cc (lo 26 cO.2.2.2.length)),(14,Iv s12.1),(15,Iv x95),(16,Iv cO.1),(17,Iv gW)] [(21,.row 26 [[iC g.aF,xF aG g.aA]]),(22,.row 113 [[xF aC p.Free,xF aC p.aN,xF aC p.aI]]),(23,.row 113 [[sC aO,sC aO,sC aO]]),(24,pR 3 aC (cO.2.1.set gW.toNat cO.1)),(25,pR 3 aC cO.2.2.1),(26,pR 4 rF (cO.2.2.2.set gW.toNat true))] z12 z6 (Wr (aH (Iv gW) y4 (aH (Iv b) y4 (aj LT.neq y5 (aH (Bv (gW != b)) y4 (aS.split (fun oq => ?_) (fun oq => ?_)))))))
         ·refine iU (xF aC p.Free) jl eU oq fB (dn (Iv gW) oq y5 (aY fun NC Y5 => (fA (LT.fO (enc := aC) Q fV Y5 jB) Q Q (gH oq Q Q) Q (ah (LT.iP Q bM) Q (gH oq Q Q) Q (fZ LT.gtr oq jZ (dL (Bv (decide (0 < NC))) oq y5 (On (aB.nil ⟨Q,aU.of ⟨Q,Q,Q,Q,Q,congrArg (fun l1 => (some (AV.s (.c (lo 24 l1))) : Option AV)) (show cO.2.1.length = (cO.2.1.set gW.toNat cO.1).length by simp only [List.length_set]),Q,congrArg (fun l1 => (some (AV.s (.c (lo 26 l1))) : Option AV)) (show cO.2.2.2.length = (cO.2.2.2.set gW.toNat true).length by simp only [List.length_set]),Q,Q,Q,Q,Q,J⟩ z6⟩))))))))
         ·refine aV oq y5 (aV oq y5 (aV oq y5 (aV oq y5 (aV oq y5 (aV oq y5 (eH (Bv false) oq af (On (aB.nil ⟨Q,aU.of ⟨Q,Q,Q,Q,Q,congrArg (fun l1 => (some (AV.s (.c (lo 24 l1))) : Option AV)) (show cO.2.1.length = (cO.2.1.set gW.toNat cO.1).length by simp only [List.length_set]),Q,congrArg (fun l1 => (some (AV.s (.c (lo 26 l1))) : Option AV)) (show cO.2.2.2.length = (cO.2.2.2.set gW.toNat true).length by simp only [List.length_set]),Q,Q,Q,Q,Q,J⟩ z6⟩))))))))
        ·refine aB.cond Q (fun XB => ?_) (fun XB => ?_)
         ·refine Ws (Wr ?_)
          refine bV (bJ [iC g.aF,xF aG g.aA] Q bU ai aX) Q Q Q Q (bV (bJ [xF aC p.Free,xF aC p.aN,xF aC p.aI] Q gm dR dJ) Q Q Q Q (aH (Cc (lo 24 ((cO.2.1.set gW.toNat cO.1).length))) y4 (aH (Iv a) y4 (aH (Iv gW) y4 (aY fun lG Jf => (aS.step (cF [.agg [iC g.aF,xF aG g.aA],.agg [xF aC p.Free,xF aC p.aN,xF aC p.aI],.c (lo 24 ((cO.2.1.set gW.toNat cO.1).length)),.c (iC a),.c (iC gW)] [(24,pR 3 aC (cO.2.1.set gW.toNat cO.1))] (Fw.Fn.ren [(0,29),(1,30),(2,31)] (aB2 g p (cO.2.1.set gW.toNat cO.1) a gW lG Jf) Q) VO (.cons (.agg (.cons (.same Q) (.cons (.same Q) .nil))) (.cons (.agg (.cons (.same Q) (.cons (.same Q) (.cons (.same Q) .nil)))) (.cons (.c (.dN Q Q)) (.cons (.c (.same Q)) (.cons (.c (.same Q)) .nil))))) J y3) z6 z1 Q Q (bW (stA [lo 29 lG.Free.length,lo 30 lG.aN.length,lo 31 lG.aI.length] Q Q dR dJ) Q Q Q Q Q (aP (Bv true) au (On (en [(8,Cc (.pl 23 0)),(9,Bv true)] [(23,.row 113 [[lo 29 lG.Free.length,lo 30 lG.aN.length,lo 31 lG.aI.length]]),(29,pR 3 aC lG.Free),(30,pR 3 aC lG.aN),(31,pR 3 aC lG.aI)] z2 z4 (aB.ent (aU.mv 29 0 Q Q) ?_)))))))))))
          refine aB.ent (aU.mv 30 1 Q Q) (aB.ent (aU.mv 31 2 Q Q) (en [(8,Cc (.pl 23 0)),(9,Bv true)] [(0,pR 3 aC lG.Free),(1,pR 3 aC lG.aN),(2,pR 3 aC lG.aI),(23,.row 113 [[lo 0 lG.Free.length,lo 1 lG.aN.length,lo 2 lG.aI.length]])] z2 z4 (aB.ret ⟨Q,bD.mk (.inr Q) ⟨⟨_,_,_,Q,Q,Q,gm,dJ,_,dQ dR⟩,Q,J⟩ z3 Q ⟨⟨J,J,J,J⟩,ak.sc,J⟩ ⟨bK.bg dS,bK.bg dS,bK.bg dS,J⟩⟩)))
         ·refine aB.skip (Wr ?_)
          refine aH (Cc (lo 25 cO.2.2.1.length)) y4 (aH (Iv gW) y4 (dF (LT.eY (n := 32) (enc := aC) [(0,.tmp 102,.c (iC gW))] ([gW] : List Int) Q Q dO fF Q Q Q Q (by decide) (fun _ => Q) Q) Q Q Q (aY fun aBI YX => (kR (LT.jg (enc := aC) Q Q Q dO fF Q (by decide) (by decide) (fun _ => Q) (iG YX)) Q Q Q Q Q Q (aP (Cc (lo 25 ((cO.2.2.1 ++ ([gW] : List Int)).length))) y4 (On (aB.blk (Wr ?_))))))))
          refine aH (Iv cO.1) y4 (aj LT.add af (aP (Iv (aJ (cO.1 + 1))) y4 (On (aZ Q z11 z6))))
     ·refine aB.fH Q ⟨Q,aU.of z9 z6⟩
    ·refine aB.blk (Wr ?_)
     refine aH (Iv oK.1) y4 (aj LT.add af (aP (Iv (aJ (oK.1 + 1))) y4 (On (aZ Q z9 z6))))
   ·refine aB.fH Q ⟨Q,aU.of z2 z2⟩
  ·refine Ws (Wr ?_)
   refine bV (bJ [xF aC p.Free,xF aC p.aN,xF aC p.aI] Q gm dR dJ) Q Q Q Q (bW (stA [xF aC p.Free,xF aC p.aN,xF aC p.aI] Q Q dR dJ) Q Q Q Q Q (aP (Bv false) au (On (aB.ent (aU.KI 23 0 Q) (aB.ent (aU.KI 23 1 Q) (aB.ent (aU.KI 23 2 Q) (aB.ent (aU.Kt 0 3 Q) (aB.ent (aU.Kt 1 3 Q) (aB.ent (aU.Kt 2 3 Q) (en [(8,Cc (.pl 23 0)),(9,Bv false)] [(0,pR 3 aC ([] : List Int)),(1,pR 3 aC ([] : List Int)),(2,pR 3 aC ([] : List Int)),(23,.row 113 [[.junk,.junk,.junk]])] z2 z4 (aB.ret (bD.mk (.inr Q) ⟨⟨_,_,_,Q,Q,Q,gm,dJ,_,dQ dR⟩,Q,J⟩ z3 Q ⟨⟨J,J,J,J⟩,ak.sc,J⟩ ⟨bK.bg dS,bK.bg dS,bK.bg dS,J⟩))))))))))))
theorem UF (g : aQ) (p : ay) (a : Int) (b : Int) (want : Int) : FT Tryz.prog (ve g p a b want) 175 [.agg [iC g.aF,xF aG g.aA],.agg [xF aC p.Free,xF aC p.aN,xF aC p.aI],.c (iC a),.c (iC b),.c (iC want)] [] (fun (t : (ay × Bool)) => [.agg [lo 0 t.1.Free.length,lo 1 t.1.aN.length,lo 2 t.1.aI.length],.c (bC t.2)]) (fun (t : (ay × Bool)) => [(0,pR 3 aC t.1.Free),(1,pR 3 aC t.1.aN),(2,pR 3 aC t.1.aI)]) [0,1,2] := by
 refine FT.of [] Tryz.func175 Tryz.ntmps175 Q y2 ?_
 intro w0 U0 R0 g0
 unfold ve
 refine Ws (Wr ?_)
 refine dF (LT.box (n := 21) (v := (.agg [iC g.aF,xF aG g.aA])) Q aX (by exact Q)) Q Q Q (dF (LT.box (n := 22) (v := (.agg [xF aC p.Free,xF aC p.aN,xF aC p.aI])) Q dJ (by exact Q)) Q Q Q (dA (LT.alloc (n := 23) (cells := [sC aO,sC aO,sC aO]) Q jY Q Q Q) Q Q (aP (Bv false) au (On (Ws (Wr ?_))))))
 refine bV (bJ [xF aC p.Free,xF aC p.aN,xF aC p.aI] Q gm dR dJ) Q Q Q Q (aY fun r1 hr1 => (aS.step (bH [.agg [xF aC p.Free,xF aC p.aN,xF aC p.aI]] (Fw.Fn.ren [(0,25),(1,26),(2,27)] (H9 p r1 hr1) Q) E5 (Hf y3) J y3) z2 J Q Q (dA (LT.alloc (n := 28) (cells := [sC aO,sC aO,sC aO]) Q jY Q Q Q) Q Q (bW (stA [lo 25 r1.Free.length,lo 26 r1.aN.length,lo 27 r1.aI.length] Q Q dR dJ) Q Q Q Q Q (On (Ws (aB.block ?_)))))))
 refine aB.oC (id := 0) (vg g a b want) (fun s2 => ([(2,Iv a),(3,Iv b),(4,Iv want),(5,Cc (.pl 21 0)),(10,Cc (.pl 23 0)),(12,Cc (.pl 28 0))],[(21,.row 26 [[iC g.aF,xF aG g.aA]]),(23,.row 113 [[sC aO,sC aO,sC aO]]),(25,pR 3 aC s2.1),(26,pR 3 aC s2.2.1),(27,pR 3 aC s2.2.2),(28,.row 113 [[lo 25 s2.1.length,lo 26 s2.2.1.length,lo 27 s2.2.2.length]])])) (fun b27 => ([(10,Cc (.pl 23 0)),(12,Cc (.pl 28 0))],[(23,.row 113 [[sC aO,sC aO,sC aO]]),(25,pR 3 aC b27.1),(26,pR 3 aC b27.2.1),(27,pR 3 aC b27.2.2),(28,.row 113 [[lo 25 b27.1.length,lo 26 b27.2.1.length,lo 27 b27.2.2.length]])])) (bD Tryz.prog Tryz.f175.results.toList [] [0,1,2] (fun (t : (ay × Bool)) => [.agg [lo 0 t.1.Free.length,lo 1 t.1.aN.length,lo 2 t.1.aI.length],.c (bC t.2)]) (fun (t : (ay × Bool)) => [(0,pR 3 aC t.1.Free),(1,pR 3 aC t.1.aN),(2,pR 3 aC t.1.aI)])) ?_ (aU.of z6 z6) Q (fun b27 _ => ?_) (by intro r t σ m ht hk; injection ht with ht; subst ht; exact hk)
 ·intro s2
  unfold vg
  refine Ws (Ws (aB.draw mixed ?_))
  refine fD (lo 25 s2.1.length) jl eU bG (bY (Iv a) y4 (aT.bind fun x28 hx28 => (kz (LT.gy Q Q fV hx28) Q Q Q Q Q (fU (LT.kQ (k := 0) Q bM hx28 (by exact Q) (by exact Q)) Q Q Q Q (fD (lo 25 s2.1.length) jl eU bG (bY (Iv b) y4 (aT.bind fun x29 hx29 => (kz (LT.gy Q Q fV hx29) Q Q Q Q Q (fU (LT.kQ (k := 0) Q bM hx29 (by exact Q) (by exact Q)) Q Q Q Q ?_)))))))))
  refine jG LT.add y5 (bY (Iv want) y4 (jG LT.lss y5 (aT.nil (by kernel_rfl) (aB.cond Q (fun Bq => ?_) (fun Bq => ?_)))))
  ·refine aB.skip (aB.block (Ws ?_))
   refine en [(2,Iv a),(3,Iv b),(4,Iv want),(5,Cc (.pl 21 0)),(10,Cc (.pl 23 0)),(12,Cc (.pl 28 0))] [(21,.row 26 [[iC g.aF,xF aG g.aA]]),(23,.row 113 [[sC aO,sC aO,sC aO]]),(25,pR 3 aC s2.1),(26,pR 3 aC s2.2.1),(27,pR 3 aC s2.2.2),(28,.row 113 [[lo 25 s2.1.length,lo 26 s2.2.1.length,lo 27 s2.2.2.length]])] z6 z6 (Wr (bV (bJ [iC g.aF,xF aG g.aA] Q bU ai aX) Q Q Q Q (bV (bJ [lo 25 s2.1.length,lo 26 s2.2.1.length,lo 27 s2.2.2.length] Q gm dR dJ) Q Q Q Q (aH (Iv a) y4 (aH (Iv b) y4 (aY fun bI qJ => (aS.split (fun JH => ?_) (fun JH => ?_))))))))
   ·refine aS.step (cF [.agg [iC g.aF,xF aG g.aA],.agg [lo 25 s2.1.length,lo 26 s2.2.1.length,lo 27 s2.2.2.length],.c (iC a),.c (iC b)] [(25,pR 3 aC s2.1),(26,pR 3 aC s2.2.1),(27,pR 3 aC s2.2.2)] (show Fw.Fn Tryz.prog 202 [.agg [iC g.aF,xF aG g.aA],.agg [xF aC ((ay.mk s2.1 s2.2.1 s2.2.2).Free),xF aC ((ay.mk s2.1 s2.2.1 s2.2.2).aN),xF aC ((ay.mk s2.1 s2.2.1 s2.2.2).aI)],.c (iC a),.c (iC b)] [] (.dI [.agg [lo 30 bI.1.Free.length,lo 31 bI.1.aN.length,lo 32 bI.1.aI.length],.c (bC true)]) [(30,pR 3 aC bI.1.Free),(31,pR 3 aC bI.1.aN),(32,pR 3 aC bI.1.aI)] [] [30,31,32] from Fw.Fn.ren [(0,30),(1,31),(2,32)] (by have q := IA g (ay.mk s2.1 s2.2.1 s2.2.2) a b bI qJ; dsimp only at q; rw [JH] at q; exact q) Q) E8 (.cons (.agg (.cons (.same Q) (.cons (.same Q) .nil))) (.cons (.agg (.cons (.dN Q Q) (.cons (.dN Q Q) (.cons (.dN Q Q) .nil)))) (.cons (.c (.same Q)) (.cons (.c (.same Q)) .nil)))) J y3) z5 z3 Q Q (aH (.dI [.agg [lo 30 bI.1.Free.length,lo 31 bI.1.aN.length,lo 32 bI.1.aI.length],.c (bC true)]) y4 (ah (LT.extract (v := (.agg [lo 30 bI.1.Free.length,lo 31 bI.1.aN.length,lo 32 bI.1.aI.length])) Q (by exact Q)) Q Q Q (ah (LT.extract (v := (.c (bC true))) Q (by exact Q)) Q Q Q (dA (LT.alloc (n := 33) (cells := [sC aO,sC aO,sC aO]) Q jY Q Q Q) Q Q (bW (stA [lo 30 bI.1.Free.length,lo 31 bI.1.aN.length,lo 32 bI.1.aI.length] Q Q dR dJ) Q Q Q Q Q (aP (Bv true) y4 (On (Ws (Ws ?_)))))))))
    refine en [(2,Iv a),(3,Iv b),(4,Iv want),(5,Cc (.pl 21 0)),(10,Cc (.pl 23 0)),(12,Cc (.pl 28 0)),(13,Cc (.pl 33 0)),(14,Bv true)] [(21,.row 26 [[iC g.aF,xF aG g.aA]]),(23,.row 113 [[sC aO,sC aO,sC aO]]),(25,pR 3 aC s2.1),(26,pR 3 aC s2.2.1),(27,pR 3 aC s2.2.2),(28,.row 113 [[lo 25 s2.1.length,lo 26 s2.2.1.length,lo 27 s2.2.2.length]]),(30,pR 3 aC bI.1.Free),(31,pR 3 aC bI.1.aN),(32,pR 3 aC bI.1.aI),(33,.row 113 [[lo 30 bI.1.Free.length,lo 31 bI.1.aN.length,lo 32 bI.1.aI.length]])] z8 z10 (Wr (aH (Bv true) y4 (ah (LT.not Q) Q Q Q (On (aB.cond Q (fun Bz => ?_) (fun Bz => ?_))))))
    ·exact aB.none
    ·refine aB.skip (Ws (Ws (Wr ?_)))
     refine aH (Bv true) y4 (ah (LT.not Q) Q Q Q (On (aB.cond Q (fun hc34 => ?_) (fun hc34 => ?_))))
     ·exact aB.none
     ·refine aB.skip (Wr ?_)
      refine bV (bJ [lo 30 bI.1.Free.length,lo 31 bI.1.aN.length,lo 32 bI.1.aI.length] Q gm dR dJ) Q Q Q Q (bW (stA [lo 30 bI.1.Free.length,lo 31 bI.1.aN.length,lo 32 bI.1.aI.length] Q Q dR dJ) Q Q Q Q Q (On (aB.blk ?_)))
      refine en [(2,Iv a),(3,Iv b),(4,Iv want),(5,Cc (.pl 21 0)),(10,Cc (.pl 23 0)),(12,Cc (.pl 28 0))] [(21,.row 26 [[iC g.aF,xF aG g.aA]]),(23,.row 113 [[sC aO,sC aO,sC aO]]),(28,.row 113 [[lo 30 bI.1.Free.length,lo 31 bI.1.aN.length,lo 32 bI.1.aI.length]]),(30,pR 3 aC bI.1.Free),(31,pR 3 aC bI.1.aN),(32,pR 3 aC bI.1.aI)] z6 z6 (aB.ent (aU.mv 30 25 Q Q) (aB.ent (aU.mv 31 26 Q Q) (aB.ent (aU.mv 32 27 Q Q) (aZ Q z6 z6))))
   ·refine aS.step (cF [.agg [iC g.aF,xF aG g.aA],.agg [lo 25 s2.1.length,lo 26 s2.2.1.length,lo 27 s2.2.2.length],.c (iC a),.c (iC b)] [(25,pR 3 aC s2.1),(26,pR 3 aC s2.2.1),(27,pR 3 aC s2.2.2)] (show Fw.Fn Tryz.prog 202 [.agg [iC g.aF,xF aG g.aA],.agg [xF aC ((ay.mk s2.1 s2.2.1 s2.2.2).Free),xF aC ((ay.mk s2.1 s2.2.1 s2.2.2).aN),xF aC ((ay.mk s2.1 s2.2.1 s2.2.2).aI)],.c (iC a),.c (iC b)] [] (.dI [.agg [.junk,.junk,.junk],.c (bC false)]) [(30,pR 3 aC ([] : List Int)),(31,pR 3 aC ([] : List Int)),(32,pR 3 aC ([] : List Int))] [] [30,31,32] from Fw.Fn.ren [(0,30),(1,31),(2,32)] (by have q := IA g (ay.mk s2.1 s2.2.1 s2.2.2) a b bI qJ; dsimp only at q; rw [JH] at q; exact q) Q) E8 (.cons (.agg (.cons (.same Q) (.cons (.same Q) .nil))) (.cons (.agg (.cons (.dN Q Q) (.cons (.dN Q Q) (.cons (.dN Q Q) .nil)))) (.cons (.c (.same Q)) (.cons (.c (.same Q)) .nil)))) J y3) z5 z3 Q Q (aH (.dI [.agg [.junk,.junk,.junk],.c (bC false)]) y4 (ah (LT.extract (v := (.agg [.junk,.junk,.junk])) Q (by exact Q)) Q Q Q (ah (LT.extract (v := (.c (bC false))) Q (by exact Q)) Q Q Q (dA (LT.alloc (n := 33) (cells := [sC aO,sC aO,sC aO]) Q jY Q Q Q) Q Q (bW (stA [.junk,.junk,.junk] Q Q dR dJ) Q Q Q Q Q (aP (Bv false) y4 (On (Ws (Ws ?_)))))))))
    refine en [(2,Iv a),(3,Iv b),(4,Iv want),(5,Cc (.pl 21 0)),(10,Cc (.pl 23 0)),(12,Cc (.pl 28 0)),(13,Cc (.pl 33 0)),(14,Bv false)] [(21,.row 26 [[iC g.aF,xF aG g.aA]]),(23,.row 113 [[sC aO,sC aO,sC aO]]),(25,pR 3 aC s2.1),(26,pR 3 aC s2.2.1),(27,pR 3 aC s2.2.2),(28,.row 113 [[lo 25 s2.1.length,lo 26 s2.2.1.length,lo 27 s2.2.2.length]]),(33,.row 113 [[.junk,.junk,.junk]])] z8 z7 (Wr (aH (Bv false) y4 (ah (LT.not Q) Q Q Q (On (aB.cond Q (fun CB => ?_) (fun CB => ?_))))))
    ·refine Wr (bV (bJ [iC g.aF,xF aG g.aA] Q bU ai aX) Q Q Q Q (bV (bJ [lo 25 s2.1.length,lo 26 s2.2.1.length,lo 27 s2.2.2.length] Q gm dR dJ) Q Q Q Q (aH (Iv b) y4 (aH (Iv a) y4 (aY fun iI PO => (aS.split (fun JI => ?_) (fun JI => ?_)))))))
     ·refine aS.step (cF [.agg [iC g.aF,xF aG g.aA],.agg [lo 25 s2.1.length,lo 26 s2.2.1.length,lo 27 s2.2.2.length],.c (iC b),.c (iC a)] [(25,pR 3 aC s2.1),(26,pR 3 aC s2.2.1),(27,pR 3 aC s2.2.2)] (show Fw.Fn Tryz.prog 202 [.agg [iC g.aF,xF aG g.aA],.agg [xF aC ((ay.mk s2.1 s2.2.1 s2.2.2).Free),xF aC ((ay.mk s2.1 s2.2.1 s2.2.2).aN),xF aC ((ay.mk s2.1 s2.2.1 s2.2.2).aI)],.c (iC b),.c (iC a)] [] (.dI [.agg [lo 35 iI.1.Free.length,lo 36 iI.1.aN.length,lo 37 iI.1.aI.length],.c (bC true)]) [(35,pR 3 aC iI.1.Free),(36,pR 3 aC iI.1.aN),(37,pR 3 aC iI.1.aI)] [] [35,36,37] from Fw.Fn.ren [(0,35),(1,36),(2,37)] (by have q := IA g (ay.mk s2.1 s2.2.1 s2.2.2) b a iI PO; dsimp only at q; rw [JI] at q; exact q) Q) E8 (.cons (.agg (.cons (.same Q) (.cons (.same Q) .nil))) (.cons (.agg (.cons (.dN Q Q) (.cons (.dN Q Q) (.cons (.dN Q Q) .nil)))) (.cons (.c (.same Q)) (.cons (.c (.same Q)) .nil)))) J y3) z5 z3 Q Q (aH (.dI [.agg [lo 35 iI.1.Free.length,lo 36 iI.1.aN.length,lo 37 iI.1.aI.length],.c (bC true)]) y4 (ah (LT.extract (v := (.agg [lo 35 iI.1.Free.length,lo 36 iI.1.aN.length,lo 37 iI.1.aI.length])) Q (by exact Q)) Q Q Q (ah (LT.extract (v := (.c (bC true))) Q (by exact Q)) Q Q Q (bW (stA [lo 35 iI.1.Free.length,lo 36 iI.1.aN.length,lo 37 iI.1.aI.length] Q Q dR dJ) Q Q Q Q Q (aP (Bv true) y4 (On (Ws (Ws ?_))))))))
      refine en [(2,Iv a),(3,Iv b),(4,Iv want),(5,Cc (.pl 21 0)),(10,Cc (.pl 23 0)),(12,Cc (.pl 28 0)),(13,Cc (.pl 33 0)),(14,Bv true)] [(21,.row 26 [[iC g.aF,xF aG g.aA]]),(23,.row 113 [[sC aO,sC aO,sC aO]]),(25,pR 3 aC s2.1),(26,pR 3 aC s2.2.1),(27,pR 3 aC s2.2.2),(28,.row 113 [[lo 25 s2.1.length,lo 26 s2.2.1.length,lo 27 s2.2.2.length]]),(33,.row 113 [[lo 35 iI.1.Free.length,lo 36 iI.1.aN.length,lo 37 iI.1.aI.length]]),(35,pR 3 aC iI.1.Free),(36,pR 3 aC iI.1.aN),(37,pR 3 aC iI.1.aI)] z8 z10 (Wr (aH (Bv true) y4 (ah (LT.not Q) Q Q Q (On (aB.cond Q (fun hc38 => ?_) (fun hc38 => ?_))))))
      ·exact aB.none
      ·refine aB.skip (Wr ?_)
       refine bV (bJ [lo 35 iI.1.Free.length,lo 36 iI.1.aN.length,lo 37 iI.1.aI.length] Q gm dR dJ) Q Q Q Q (bW (stA [lo 35 iI.1.Free.length,lo 36 iI.1.aN.length,lo 37 iI.1.aI.length] Q Q dR dJ) Q Q Q Q Q (On (aB.blk ?_)))
       refine en [(2,Iv a),(3,Iv b),(4,Iv want),(5,Cc (.pl 21 0)),(10,Cc (.pl 23 0)),(12,Cc (.pl 28 0))] [(21,.row 26 [[iC g.aF,xF aG g.aA]]),(23,.row 113 [[sC aO,sC aO,sC aO]]),(28,.row 113 [[lo 35 iI.1.Free.length,lo 36 iI.1.aN.length,lo 37 iI.1.aI.length]]),(35,pR 3 aC iI.1.Free),(36,pR 3 aC iI.1.aN),(37,pR 3 aC iI.1.aI)] z6 z6 (aB.ent (aU.mv 35 25 Q Q) (aB.ent (aU.mv 36 26 Q Q) (aB.ent (aU.mv 37 27 Q Q) (aZ Q z6 z6))))
     ·refine aS.step (cF [.agg [iC g.aF,xF aG g.aA],.agg [lo 25 s2.1.length,lo 26 s2.2.1.length,lo 27 s2.2.2.length],.c (iC b),.c (iC a)] [(25,pR 3 aC s2.1),(26,pR 3 aC s2.2.1),(27,pR 3 aC s2.2.2)] (show Fw.Fn Tryz.prog 202 [.agg [iC g.aF,xF aG g.aA],.agg [xF aC ((ay.mk s2.1 s2.2.1 s2.2.2).Free),xF aC ((ay.mk s2.1 s2.2.1 s2.2.2).aN),xF aC ((ay.mk s2.1 s2.2.1 s2.2.2).aI)],.c (iC b),.c (iC a)] [] (.dI [.agg [.junk,.junk,.junk],.c (bC false)]) [(35,pR 3 aC ([] : List Int)),(36,pR 3 aC ([] : List Int)),(37,pR 3 aC ([] : List Int))] [] [35,36,37] from Fw.Fn.ren [(0,35),(1,36),(2,37)] (by have q := IA g (ay.mk s2.1 s2.2.1 s2.2.2) b a iI PO; dsimp only at q; rw [JI] at q; exact q) Q) E8 (.cons (.agg (.cons (.same Q) (.cons (.same Q) .nil))) (.cons (.agg (.cons (.dN Q Q) (.cons (.dN Q Q) (.cons (.dN Q Q) .nil)))) (.cons (.c (.same Q)) (.cons (.c (.same Q)) .nil)))) J y3) z5 z3 Q Q (aH (.dI [.agg [.junk,.junk,.junk],.c (bC false)]) y4 (ah (LT.extract (v := (.agg [.junk,.junk,.junk])) Q (by exact Q)) Q Q Q (ah (LT.extract (v := (.c (bC false))) Q (by exact Q)) Q Q Q (bW (stA [.junk,.junk,.junk] Q Q dR dJ) Q Q Q Q Q (aP (Bv false) y4 (On (Ws (Ws ?_))))))))
      refine en [(2,Iv a),(3,Iv b),(4,Iv want),(5,Cc (.pl 21 0)),(10,Cc (.pl 23 0)),(12,Cc (.pl 28 0)),(13,Cc (.pl 33 0)),(14,Bv false)] [(21,.row 26 [[iC g.aF,xF aG g.aA]]),(23,.row 113 [[sC aO,sC aO,sC aO]]),(25,pR 3 aC s2.1),(26,pR 3 aC s2.2.1),(27,pR 3 aC s2.2.2),(28,.row 113 [[lo 25 s2.1.length,lo 26 s2.2.1.length,lo 27 s2.2.2.length]]),(33,.row 113 [[.junk,.junk,.junk]])] z8 z7 (Wr (aH (Bv false) y4 (ah (LT.not Q) Q Q Q (On (aB.cond Q (fun hc39 => ?_) (fun hc39 => ?_))))))
      ·refine Ws (Wr ?_)
       refine bV (bJ [lo 25 s2.1.length,lo 26 s2.2.1.length,lo 27 s2.2.2.length] Q gm dR dJ) Q Q Q Q (bW (stA [lo 25 s2.1.length,lo 26 s2.2.1.length,lo 27 s2.2.2.length] Q Q dR dJ) Q Q Q Q Q (aP (Bv false) au (On (en [(10,Cc (.pl 23 0)),(11,Bv false)] [(23,.row 113 [[lo 25 s2.1.length,lo 26 s2.2.1.length,lo 27 s2.2.2.length]]),(25,pR 3 aC s2.1),(26,pR 3 aC s2.2.1),(27,pR 3 aC s2.2.2)] z2 z4 (aB.ent (aU.mv 25 0 Q Q) (aB.ent (aU.mv 26 1 Q Q) (aB.ent (aU.mv 27 2 Q Q) (en [(10,Cc (.pl 23 0)),(11,Bv false)] [(0,pR 3 aC s2.1),(1,pR 3 aC s2.2.1),(2,pR 3 aC s2.2.2),(23,.row 113 [[lo 0 s2.1.length,lo 1 s2.2.1.length,lo 2 s2.2.2.length]])] z2 z4 (aB.ret ⟨Q,bD.mk (.inr Q) ⟨⟨_,_,_,Q,Q,Q,gm,dJ,_,dQ dR⟩,Q,J⟩ z3 Q ⟨⟨J,J,J,J⟩,ak.sc,J⟩ ⟨bK.bg dS,bK.bg dS,bK.bg dS,J⟩⟩)))))))))
      ·exact aB.none
    ·exact aB.none
  ·refine aB.fH Q ⟨Q,aU.of z2 z5⟩
 ·refine Ws (Wr ?_)
  refine bV (bJ [lo 25 b27.1.length,lo 26 b27.2.1.length,lo 27 b27.2.2.length] Q gm dR dJ) Q Q Q Q (bW (stA [lo 25 b27.1.length,lo 26 b27.2.1.length,lo 27 b27.2.2.length] Q Q dR dJ) Q Q Q Q Q (aP (Bv true) au (On (en [(10,Cc (.pl 23 0)),(11,Bv true)] [(23,.row 113 [[lo 25 b27.1.length,lo 26 b27.2.1.length,lo 27 b27.2.2.length]]),(25,pR 3 aC b27.1),(26,pR 3 aC b27.2.1),(27,pR 3 aC b27.2.2)] z2 z4 (aB.ent (aU.mv 25 0 Q Q) (aB.ent (aU.mv 26 1 Q Q) (aB.ent (aU.mv 27 2 Q Q) (en [(10,Cc (.pl 23 0)),(11,Bv true)] [(0,pR 3 aC b27.1),(1,pR 3 aC b27.2.1),(2,pR 3 aC b27.2.2),(23,.row 113 [[lo 0 b27.1.length,lo 1 b27.2.1.length,lo 2 b27.2.2.length]])] z2 z4 (aB.ret (bD.mk (.inr Q) ⟨⟨_,_,_,Q,Q,Q,gm,dJ,_,dQ dR⟩,Q,J⟩ z3 Q ⟨⟨J,J,J,J⟩,ak.sc,J⟩ ⟨bK.bg dS,bK.bg dS,bK.bg dS,J⟩))))))))))
theorem aBv (g : aQ) (k : Int) (l : Int) (p : ay) (bar : Int) : FT Tryz.prog (yA g k l p bar) 177 [.agg [iC g.aF,xF aG g.aA],.c (iC k),.c (iC l),.agg [xF aC p.Free,xF aC p.aN,xF aC p.aI],.c (iC bar)] [] (fun (t : (ay × Bool)) => [.agg [lo 0 t.1.Free.length,lo 1 t.1.aN.length,lo 2 t.1.aI.length],.c (bC t.2)]) (fun (t : (ay × Bool)) => [(0,pR 3 aC t.1.Free),(1,pR 3 aC t.1.aN),(2,pR 3 aC t.1.aI)]) [0,1,2] := by
 refine FT.of [] Tryz.func177 Tryz.ntmps177 Q y2 ?_
 intro w0 U0 R0 g0
 unfold yA
 refine Ws (Wr ?_)
 refine dF (LT.box (n := 21) (v := (.agg [iC g.aF,xF aG g.aA])) Q aX (by exact Q)) Q Q Q (dF (LT.box (n := 22) (v := (.agg [xF aC p.Free,xF aC p.aN,xF aC p.aI])) Q dJ (by exact Q)) Q Q Q (dA (LT.alloc (n := 23) (cells := [sC aO,sC aO,sC aO]) Q jY Q Q Q) Q Q (aP (Bv false) au (On (Ws (Ws ?_))))))
 refine aB.dZ (fun j9 => ([(2,Iv l),(4,Iv bar),(5,Cc (.pl 21 0)),(8,Cc (.pl 22 0)),(10,Cc (.pl 23 0)),(55,Bv j9)],[(21,.row 26 [[iC g.aF,xF aG g.aA]]),(22,.row 113 [[xF aC p.Free,xF aC p.aN,xF aC p.aI]]),(23,.row 113 [[sC aO,sC aO,sC aO]])])) ?_ (fun j9 _ => ?_)
 ·refine Wr (bV (bJ [iC g.aF,xF aG g.aA] Q bU ai aX) Q Q Q Q (aH (Iv k) y4 (bV (bJ [xF aC p.Free,xF aC p.aN,xF aC p.aI] Q gm dR dJ) Q Q Q Q (aY fun r10 Jb => (aS.pure (bH [.agg [iC g.aF,xF aG g.aA],.c (iC k),.agg [xF aC p.Free,xF aC p.aN,xF aC p.aI]] (aBr g k p r10 Jb) VK (aAj y6) J y3) z4 J Q Q (ah (LT.not Q) Q Q Q (aH (Bv (!r10)) y4 (aS.split (fun gJ => ?_) (fun gJ => ?_)))))))))
  ·refine aV gJ y5 (aV gJ y5 (aV gJ y5 (aV gJ y5 (dL (Bv true) gJ af (aH (Bv true) y4 (bT y5 (bT y5 (dL (Bv true) Q af (aH (Bv true) y4 (bT y5 (bT y5 ?_)))))))))))
   refine bT y5 (bT y5 (bT y5 (dL (Bv true) Q af (aH (Bv true) y4 (bT y5 (bT y5 (bT y5 (bT y5 (bT y5 (Oj Q Q Q Q (Oj Q Q Q Q ?_)))))))))))
   refine Oj Q Q Q Q (Oj Q Q Q Q (Oj Q Q Q Q (Oj Q Q Q Q (Oj Q Q Q Q (Oj Q Q Q Q (Oj Q Q Q Q (Oj Q Q Q Q (bT y5 (dL (Bv true) Q af (On (aZ Q z6 z3)))))))))))
  ·refine dn (Iv k) gJ y5 (dn (Iv l) gJ y5 (aY fun r12 Jd => (aS.pure (bH [.c (iC k),.c (iC l)] (Tz k l r12 Jd) OG (gK y2) J y3) z3 J (gH gJ Q Q) Q (ah (LT.not Q) Q (gH gJ Q Q) Q (eH (Bv (!r12)) gJ y5 (aH (Bv (!r12)) y4 (aS.split (fun nD => ?_) (fun nD => ?_))))))))
   ·refine aV nD y5 (aV nD y5 (dL (Bv true) nD af (aH (Bv true) y4 (bT y5 (bT y5 (bT y5 (bT y5 (bT y5 (dL (Bv true) Q af (aH (Bv true) y4 (bT y5 ?_)))))))))))
    refine bT y5 (bT y5 (bT y5 (bT y5 (Oj Q Q Q Q (Oj Q Q Q Q (Oj Q Q Q Q (Oj Q Q Q Q (Oj Q Q Q Q (Oj Q Q Q Q (Oj Q Q Q Q (Oj Q Q Q Q ?_)))))))))))
    refine Oj Q Q Q Q (Oj Q Q Q Q (bT y5 (dL (Bv true) Q af (On (aZ Q z6 z3)))))
   ·refine dn (Iv bar) nD y5 (fZ LT.lss nD jZ (eH (Bv (decide (bar < 0))) nD y5 (aH (Bv (decide (bar < 0))) y4 (aS.split (fun jJ => ?_) (fun jJ => ?_)))))
    ·refine aV jJ y5 (aV jJ y5 (aV jJ y5 (aV jJ y5 (aV jJ y5 (dL (Bv true) jJ af (aH (Bv true) y4 (bT y5 (bT y5 (bT y5 (bT y5 (bT y5 ?_)))))))))))
     refine Oj Q Q Q Q (Oj Q Q Q Q (Oj Q Q Q Q (Oj Q Q Q Q (Oj Q Q Q Q (Oj Q Q Q Q (Oj Q Q Q Q (Oj Q Q Q Q (Oj Q Q Q Q (Oj Q Q Q Q (bT y5 (dL (Bv true) Q af ?_)))))))))))
     refine On (aZ Q z6 z3)
    ·refine dn (Iv bar) jJ y5 (iU (xF aG g.aA) dP dY jJ fB (ah (LT.gY Q dK) Q (gH jJ Q Q) Q (fZ LT.geq jJ y6 (eH (Bv (decide ((g.aA.length : Int) ≤ bar))) jJ y5 (aH (Bv (decide ((g.aA.length : Int) ≤ bar))) y4 (aS.split (fun iw => ?_) (fun iw => ?_)))))))
     ·refine aV iw y5 (aV iw y5 (aV iw y5 (aV iw y5 (aV iw y5 (Oj Q Q Q Q (Oj Q Q Q Q (Oj Q Q Q Q (Oj Q Q Q Q (Oj Q Q Q Q (Oj Q Q Q Q (Oj Q Q Q Q ?_)))))))))))
      refine Oj Q Q Q Q (Oj Q Q Q Q (Oj Q Q Q Q (aV iw y5 (dL (Bv true) iw af (On (aZ Q z6 z3))))))
     ·refine iU (xF aC p.aI) lV eU iw fB (ah (LT.gY Q dO) Q (gH iw Q Q) Q (fZ LT.gtr iw jZ (dn (Bv (decide (0 < (p.aI.length : Int)))) iw y5 (aS.split (fun hb16 => ?_) (fun hb16 => ?_)))))
      ·refine iU (xF aC p.aI) lV eU hb16 fB (iU (xF aC p.aI) lV eU hb16 fB (ah (LT.gY Q dO) Q (gH hb16 Q Q) Q (fZ LT.sub hb16 jZ (aY fun x17 J8 => (fA (LT.fO (enc := aC) Q fV J8 jB) Q Q (gH hb16 Q Q) Q (ah (LT.iP Q bM) Q (gH hb16 Q Q) Q (dn (Iv bar) hb16 y5 (fZ LT.geq hb16 y6 (fA (LT.oH (v := (Bv (decide (bar ≤ x17)))) Q hb16) Q Q (gH iw Q Q) Q ?_)))))))))
       refine eH (Bv (decide (bar ≤ x17))) iw y5 (On (aZ Q z6 z3))
      ·refine aV hb16 y5 (aV hb16 y5 (aV hb16 y5 (aV hb16 y5 (aV hb16 y5 (aV hb16 y5 (aV hb16 y5 (aV hb16 y5 (aV hb16 y5 (aV hb16 y5 (fA (LT.oG (v := (Bv false)) Q hb16) Q y2 (gH iw Q Q) Q (eH (Bv false) iw y5 ?_)))))))))))
       refine On (aZ Q z6 z3)
 ·refine aB.cond Q (fun hc18 => ?_) (fun hc18 => ?_)
  ·refine Ws (Wr ?_)
   refine bV (bJ [xF aC p.Free,xF aC p.aN,xF aC p.aI] Q gm dR dJ) Q Q Q Q (aY fun fE tJ => (aS.step (bH [.agg [xF aC p.Free,xF aC p.aN,xF aC p.aI]] (Fw.Fn.ren [(0,27),(1,28),(2,29)] (H9 p fE tJ) Q) E5 (Hf y3) J y3) z2 J Q Q (bW (stA [lo 27 fE.Free.length,lo 28 fE.aN.length,lo 29 fE.aI.length] Q Q dR dJ) Q Q Q Q Q (aP (Bv false) au (On (en [(10,Cc (.pl 23 0)),(11,Bv false)] [(23,.row 113 [[lo 27 fE.Free.length,lo 28 fE.aN.length,lo 29 fE.aI.length]]),(27,pR 3 aC fE.Free),(28,pR 3 aC fE.aN),(29,pR 3 aC fE.aI)] z2 z4 (aB.ent (aU.mv 27 0 Q Q) (aB.ent (aU.mv 28 1 Q Q) (aB.ent (aU.mv 29 2 Q Q) (en [(10,Cc (.pl 23 0)),(11,Bv false)] [(0,pR 3 aC fE.Free),(1,pR 3 aC fE.aN),(2,pR 3 aC fE.aI),(23,.row 113 [[lo 0 fE.Free.length,lo 1 fE.aN.length,lo 2 fE.aI.length]])] z2 z4 (aB.ret (bD.mk (.inr Q) ⟨⟨_,_,_,Q,Q,Q,gm,dJ,_,dQ dR⟩,Q,J⟩ z3 Q ⟨⟨J,J,J,J⟩,ak.sc,J⟩ ⟨bK.bg dS,bK.bg dS,bK.bg dS,J⟩))))))))))))
  ·refine aB.skip (Ws (Wr ?_))
   refine cZ (xF aG g.aA) dP dY bG (aH (Iv bar) y4 (aY fun x20 J9 => (fA (LT.fO (enc := aG) Q iJ J9 dM) Q Q Q Q (ah (LT.ni Q jO (dQ gV) (by exact dM.symm)) Q Q Q (dA (LT.alloc (n := 30) (cells := [iC 0,iC 0]) Q dw Q Q Q) Q Q (bW (stA [iC x20.A,iC x20.B] Q Q gV dM) Q Q Q Q Q (On (Ws ?_))))))))
   refine en [(2,Iv l),(4,Iv bar),(5,Cc (.pl 21 0)),(8,Cc (.pl 22 0)),(10,Cc (.pl 23 0)),(12,Cc (.pl 30 0))] [(21,.row 26 [[iC g.aF,xF aG g.aA]]),(22,.row 113 [[xF aC p.Free,xF aC p.aN,xF aC p.aI]]),(23,.row 113 [[sC aO,sC aO,sC aO]]),(30,.row 40 [[iC x20.A,iC x20.B]])] z6 z4 (Wr (bV (bJ [iC g.aF,xF aG g.aA] Q bU ai aX) Q Q Q Q (bV (bJ [xF aC p.Free,xF aC p.aN,xF aC p.aI] Q gm dR dJ) Q Q Q Q (cZ (iC x20.A) iO bM bG (cZ (iC x20.B) jd bM bG (aH (Iv l) y4 (aj LT.add af (aY fun bn xC => (aS.step (bH [.agg [iC g.aF,xF aG g.aA],.agg [xF aC p.Free,xF aC p.aN,xF aC p.aI],.c (iC x20.A),.c (iC x20.B),.c (iC (aJ (l + 1)))] (Fw.Fn.ren [(0,32),(1,33),(2,34)] (UF g p x20.A x20.B (aJ (l + 1)) bn xC) Q) OE (aAk y8) J y3) z6 J Q Q ?_)))))))))
   refine aH (.dI [.agg [lo 32 bn.1.Free.length,lo 33 bn.1.aN.length,lo 34 bn.1.aI.length],.c (bC bn.2)]) y4 (ah (LT.extract (v := (.agg [lo 32 bn.1.Free.length,lo 33 bn.1.aN.length,lo 34 bn.1.aI.length])) Q (by exact Q)) Q Q Q (ah (LT.extract (v := (.c (bC bn.2))) Q (by exact Q)) Q Q Q (dA (LT.alloc (n := 35) (cells := [sC aO,sC aO,sC aO]) Q jY Q Q Q) Q Q (bW (stA [lo 32 bn.1.Free.length,lo 33 bn.1.aN.length,lo 34 bn.1.aI.length] Q Q dR dJ) Q Q Q Q Q (aP (Bv bn.2) y4 (On (Ws (Ws ?_))))))))
   refine en [(4,Iv bar),(8,Cc (.pl 22 0)),(10,Cc (.pl 23 0)),(12,Cc (.pl 30 0)),(13,Cc (.pl 35 0)),(14,Bv bn.2)] [(22,.row 113 [[xF aC p.Free,xF aC p.aN,xF aC p.aI]]),(23,.row 113 [[sC aO,sC aO,sC aO]]),(30,.row 40 [[iC x20.A,iC x20.B]]),(32,pR 3 aC bn.1.Free),(33,pR 3 aC bn.1.aN),(34,pR 3 aC bn.1.aI),(35,.row 113 [[lo 32 bn.1.Free.length,lo 33 bn.1.aN.length,lo 34 bn.1.aI.length]])] z6 z7 (Wr (aH (Bv bn.2) y4 (ah (LT.not Q) Q Q Q (On (aB.cond Q (fun hc22 => ?_) (fun hc22 => ?_))))))
   ·refine Ws (Wr ?_)
    refine bV (bJ [xF aC p.Free,xF aC p.aN,xF aC p.aI] Q gm dR dJ) Q Q Q Q (aY fun lT Jh => (aS.step (bH [.agg [xF aC p.Free,xF aC p.aN,xF aC p.aI]] (Fw.Fn.ren [(0,37),(1,38),(2,39)] (H9 p lT Jh) Q) E5 (Hf y3) J y3) z2 J Q Q (bW (stA [lo 37 lT.Free.length,lo 38 lT.aN.length,lo 39 lT.aI.length] Q Q dR dJ) Q Q Q Q Q (aP (Bv false) au (On (en [(10,Cc (.pl 23 0)),(11,Bv false)] [(23,.row 113 [[lo 37 lT.Free.length,lo 38 lT.aN.length,lo 39 lT.aI.length]]),(37,pR 3 aC lT.Free),(38,pR 3 aC lT.aN),(39,pR 3 aC lT.aI)] z2 z4 (aB.ent (aU.mv 37 0 Q Q) (aB.ent (aU.mv 38 1 Q Q) (aB.ent (aU.mv 39 2 Q Q) (en [(10,Cc (.pl 23 0)),(11,Bv false)] [(0,pR 3 aC lT.Free),(1,pR 3 aC lT.aN),(2,pR 3 aC lT.aI),(23,.row 113 [[lo 0 lT.Free.length,lo 1 lT.aN.length,lo 2 lT.aI.length]])] z2 z4 (aB.ret (bD.mk (.inr Q) ⟨⟨_,_,_,Q,Q,Q,gm,dJ,_,dQ dR⟩,Q,J⟩ z3 Q ⟨⟨J,J,J,J⟩,ak.sc,J⟩ ⟨bK.bg dS,bK.bg dS,bK.bg dS,J⟩))))))))))))
   ·refine aB.skip (Ws (Wr ?_))
    refine cZ (iC x20.A) iO bM bG (aP (Iv x20.A) y4 (On (Ws (Ws (Wr ?_)))))
    refine cZ (lo 32 bn.1.Free.length) jl eU bG (cZ (iC x20.A) iO bM bG (aY fun x24 hx24 => (lC (LT.gy Q Q fV hx24) Q Q Q Q Q (bV (LT.kQ (k := 0) Q bM hx24 (by exact Q) (by exact Q)) Q Q Q Q (aj LT.eql af (On (aB.dZ (fun j26 => ([(4,Iv bar),(10,Cc (.pl 23 0)),(13,Cc (.pl 35 0)),(15,Iv j26)],[(23,.row 113 [[sC aO,sC aO,sC aO]]),(32,pR 3 aC bn.1.Free),(33,pR 3 aC bn.1.aN),(34,pR 3 aC bn.1.aI),(35,.row 113 [[lo 32 bn.1.Free.length,lo 33 bn.1.aN.length,lo 34 bn.1.aI.length]])])) ?_ (fun j26 _ => ?_))))))))
    ·refine aB.cond Q (fun hc27 => ?_) (fun hc27 => ?_)
     ·refine en [(4,Iv bar),(10,Cc (.pl 23 0)),(12,Cc (.pl 30 0)),(13,Cc (.pl 35 0))] [(23,.row 113 [[sC aO,sC aO,sC aO]]),(30,.row 40 [[iC x20.A,iC x20.B]]),(32,pR 3 aC bn.1.Free),(33,pR 3 aC bn.1.aN),(34,pR 3 aC bn.1.aI),(35,.row 113 [[lo 32 bn.1.Free.length,lo 33 bn.1.aN.length,lo 34 bn.1.aI.length]])] z4 z6 (Wr (cZ (iC x20.B) jd bM bG (aP (Iv x20.B) y4 (On (aZ Q z4 z5)))))
     ·refine aB.skip (aZ Q z4 z5)
    ·refine Ws (aB.draw mixed ?_)
     refine fD (lo 32 bn.1.Free.length) jl eU bG (bY (Iv j26) y4 (fD (lo 32 bn.1.Free.length) jl eU bG (bY (Iv j26) y4 (aT.bind fun x28 hx28 => (kz (LT.gy Q Q fV hx28) Q Q Q Q Q (fU (LT.kQ (k := 0) Q bM hx28 (by exact Q) (by exact Q)) Q Q Q Q (jG LT.sub af (aT.bind fun x29 hx29 => (kz (LT.gy Q Q fV hx29) Q Q Q Q Q ?_)))))))))
     refine ji (LT.qG (k := 0) (v := (.c (iC (aJ (x28 - 1))))) (b' := (aJ (x28 - 1))) Q Q (dQ oz) jB (by exact Q) hx29 (by exact Q) (by exact K Q) (by exact Q)) Q Q Q Q Q (aT.nil (by kernel_rfl) (Ws (en [(4,Iv bar),(10,Cc (.pl 23 0)),(13,Cc (.pl 35 0)),(15,Iv j26)] [(23,.row 113 [[sC aO,sC aO,sC aO]]),(32,pR 3 aC (bn.1.Free.set j26.toNat (aJ (x28 - 1)))),(33,pR 3 aC bn.1.aN),(34,pR 3 aC bn.1.aI),(35,.row 113 [[lo 32 bn.1.Free.length,lo 33 bn.1.aN.length,lo 34 bn.1.aI.length]])] z4 z5 (Wr (cZ (lo 33 bn.1.aN.length) lq eU bG (aH (Iv j26) y4 (dF (LT.eY (n := 40) (enc := aC) [(0,.tmp 102,.c (iC j26))] ([j26] : List Int) Q Q dO fF Q Q Q Q (by decide) (fun _ => Q) Q) Q Q Q (aY fun u30 Yd => (kR (LT.jg (enc := aC) Q Q Q dO fF Q (by decide) (by decide) (fun _ => Q) (iG Yd)) Q Q Q Q Q Q (ah (LT.ig Q lq) Q Q Q ?_))))))))))
     refine bW (mO (.c (lo 33 ((bn.1.aN ++ ([j26] : List Int)).length))) [lo 32 bn.1.Free.length,lo 33 ((bn.1.aN ++ ([j26] : List Int)).length),lo 34 bn.1.aI.length] Q Q uy wH) Q Q Q Q Q (On (Ws ?_))
     refine en [(4,Iv bar),(10,Cc (.pl 23 0)),(13,Cc (.pl 35 0))] [(23,.row 113 [[sC aO,sC aO,sC aO]]),(32,pR 3 aC (bn.1.Free.set j26.toNat (aJ (x28 - 1)))),(33,pR 3 aC (bn.1.aN ++ ([j26] : List Int))),(34,pR 3 aC bn.1.aI),(35,.row 113 [[lo 32 bn.1.Free.length,lo 33 ((bn.1.aN ++ ([j26] : List Int)).length),lo 34 bn.1.aI.length]])] z3 z5 (Wr (cZ (lo 34 bn.1.aI.length) lV eU bG (aH (Iv bar) y4 (dF (LT.eY (n := 41) (enc := aC) [(0,.tmp 108,.c (iC bar))] ([bar] : List Int) Q Q dO fF Q Q Q Q (by decide) (fun _ => Q) Q) Q Q Q (aY fun u31 Ye => (kR (LT.jg (enc := aC) Q Q Q dO fF Q (by decide) (by decide) (fun _ => Q) (iG Ye)) Q Q Q Q Q Q (ah (LT.ig Q lV) Q Q Q (bW (mO (.c (lo 34 ((bn.1.aI ++ ([bar] : List Int)).length))) [lo 32 bn.1.Free.length,lo 33 ((bn.1.aN ++ ([j26] : List Int)).length),lo 34 ((bn.1.aI ++ ([bar] : List Int)).length)] Q Q uy wH) Q Q Q Q Q (On (Ws ?_))))))))))
     refine en [(10,Cc (.pl 23 0)),(13,Cc (.pl 35 0))] [(23,.row 113 [[sC aO,sC aO,sC aO]]),(32,pR 3 aC (bn.1.Free.set j26.toNat (aJ (x28 - 1)))),(33,pR 3 aC (bn.1.aN ++ ([j26] : List Int))),(34,pR 3 aC (bn.1.aI ++ ([bar] : List Int))),(35,.row 113 [[lo 32 bn.1.Free.length,lo 33 ((bn.1.aN ++ ([j26] : List Int)).length),lo 34 ((bn.1.aI ++ ([bar] : List Int)).length)]])] z2 z5 (Wr (bV (bJ [lo 32 bn.1.Free.length,lo 33 ((bn.1.aN ++ ([j26] : List Int)).length),lo 34 ((bn.1.aI ++ ([bar] : List Int)).length)] Q gm dR dJ) Q Q Q Q (bW (stA [lo 32 bn.1.Free.length,lo 33 ((bn.1.aN ++ ([j26] : List Int)).length),lo 34 ((bn.1.aI ++ ([bar] : List Int)).length)] Q Q dR dJ) Q Q Q Q Q (aP (Bv true) au (On (en [(10,Cc (.pl 23 0)),(11,Bv true)] [(23,.row 113 [[lo 32 bn.1.Free.length,lo 33 ((bn.1.aN ++ ([j26] : List Int)).length),lo 34 ((bn.1.aI ++ ([bar] : List Int)).length)]]),(32,pR 3 aC (bn.1.Free.set j26.toNat (aJ (x28 - 1)))),(33,pR 3 aC (bn.1.aN ++ ([j26] : List Int))),(34,pR 3 aC (bn.1.aI ++ ([bar] : List Int)))] z2 z4 (aB.ent (aU.mv 32 0 Q Q) (aB.ent (aU.mv 33 1 Q Q) (aB.ent (aU.mv 34 2 Q Q) (en [(10,Cc (.pl 23 0)),(11,Bv true)] [(0,pR 3 aC (bn.1.Free.set j26.toNat (aJ (x28 - 1)))),(1,pR 3 aC (bn.1.aN ++ ([j26] : List Int))),(2,pR 3 aC (bn.1.aI ++ ([bar] : List Int))),(23,.row 113 [[lo 0 ((bn.1.Free.set j26.toNat (aJ (x28 - 1))).length),lo 1 ((bn.1.aN ++ ([j26] : List Int)).length),lo 2 ((bn.1.aI ++ ([bar] : List Int)).length)]])] z2 ⟨Q,Q,Q,congrArg (fun l1 => (some (Ob.row 113 [[lo 0 l1,lo 1 ((bn.1.aN ++ ([j26] : List Int)).length),lo 2 ((bn.1.aI ++ ([bar] : List Int)).length)]]) : Option Ob)) (show bn.1.Free.length = (bn.1.Free.set j26.toNat (aJ (x28 - 1))).length by simp only [List.length_set]),J⟩ (aB.ret (bD.mk (.inr Q) ⟨⟨_,_,_,Q,Q,Q,gm,dJ,_,dQ dR⟩,Q,J⟩ z3 Q ⟨⟨J,J,J,J⟩,ak.sc,J⟩ ⟨bK.bg dS,bK.bg dS,bK.bg dS,J⟩))))))))))))
theorem aBx (g : aQ) (k : Int) (l : Int) : FT Tryz.prog (Dy g k l) 144 [.agg [iC g.aF,xF aG g.aA],.c (iC k),.c (iC l)] [] (fun (t : (ay × Bool)) => [.agg [lo 0 t.1.Free.length,lo 1 t.1.aN.length,lo 2 t.1.aI.length],.c (bC t.2)]) (fun (t : (ay × Bool)) => [(0,pR 3 aC t.1.Free),(1,pR 3 aC t.1.aN),(2,pR 3 aC t.1.aI)]) [0,1,2] := by
 refine FT.of [] Tryz.func144 Tryz.ntmps144 Q y2 ?_
 intro w0 U0 R0 g0
 unfold Dy
 refine Ws (Wr ?_)
 refine dF (LT.box (n := 21) (v := (.agg [iC g.aF,xF aG g.aA])) Q aX (by exact Q)) Q Q Q (dA (LT.alloc (n := 22) (cells := [sC aO,sC aO,sC aO]) Q jY Q Q Q) Q Q (aP (Bv false) au (On (Ws (Wr ?_)))))
 refine bV (bJ [iC g.aF,xF aG g.aA] Q bU ai aX) Q Q Q Q (aH (Iv k) y4 (aY fun r1 hr1 => (aS.step (bH [.agg [iC g.aF,xF aG g.aA],.c (iC k)] (Fw.Fn.ren [(0,24),(1,25),(2,26)] (UB g k r1 hr1) Q) OD (wE y3) J y3) z3 J Q Q (aH (.dI [.agg [lo 24 r1.1.Free.length,lo 25 r1.1.aN.length,lo 26 r1.1.aI.length],.c (bC r1.2)]) y4 (ah (LT.extract (v := (.agg [lo 24 r1.1.Free.length,lo 25 r1.1.aN.length,lo 26 r1.1.aI.length])) Q (by exact Q)) Q Q Q (ah (LT.extract (v := (.c (bC r1.2))) Q (by exact Q)) Q Q Q (dA (LT.alloc (n := 27) (cells := [sC aO,sC aO,sC aO]) Q jY Q Q Q) Q Q (bW (stA [lo 24 r1.1.Free.length,lo 25 r1.1.aN.length,lo 26 r1.1.aI.length] Q Q dR dJ) Q Q Q Q Q (aP (Bv r1.2) y4 (On (Ws (Ws ?_))))))))))))
 refine aB.dZ (fun j4 => ([(1,Iv k),(2,Iv l),(3,Cc (.pl 21 0)),(6,Cc (.pl 22 0)),(8,Cc (.pl 27 0)),(24,Bv j4)],[(21,.row 26 [[iC g.aF,xF aG g.aA]]),(22,.row 113 [[sC aO,sC aO,sC aO]]),(24,pR 3 aC r1.1.Free),(25,pR 3 aC r1.1.aN),(26,pR 3 aC r1.1.aI),(27,.row 113 [[lo 24 r1.1.Free.length,lo 25 r1.1.aN.length,lo 26 r1.1.aI.length]])])) ?_ (fun j4 _ => ?_)
 ·refine en [(1,Iv k),(2,Iv l),(3,Cc (.pl 21 0)),(6,Cc (.pl 22 0)),(8,Cc (.pl 27 0)),(9,Bv r1.2)] [(21,.row 26 [[iC g.aF,xF aG g.aA]]),(22,.row 113 [[sC aO,sC aO,sC aO]]),(24,pR 3 aC r1.1.Free),(25,pR 3 aC r1.1.aN),(26,pR 3 aC r1.1.aI),(27,.row 113 [[lo 24 r1.1.Free.length,lo 25 r1.1.aN.length,lo 26 r1.1.aI.length]])] z6 z6 (Wr (aH (Bv r1.2) y4 (ah (LT.not Q) Q Q Q (aH (Bv (!r1.2)) y4 (aS.split (fun hb5 => ?_) (fun hb5 => ?_))))))
  ·refine aV hb5 y5 (aV hb5 y5 (aV hb5 y5 (aV hb5 y5 (dL (Bv true) hb5 af (On (aZ Q z6 z6))))))
  ·refine dn (Iv k) hb5 y5 (dn (Iv l) hb5 y5 (aY fun r6 xH => (aS.pure (bH [.c (iC k),.c (iC l)] (Tz k l r6 xH) OG (gK y2) J y3) z3 J (gH hb5 Q Q) Q (ah (LT.not Q) Q (gH hb5 Q Q) Q (eH (Bv (!r6)) hb5 y5 (On (aZ Q z6 z6)))))))
 ·refine aB.cond Q (fun CQ => ?_) (fun CQ => ?_)
  ·refine Ws (Wr ?_)
   refine Em (LT.build [] Q Q yP jY Q Q Q) Q Q (bW (stA [sC aO,sC aO,sC aO] Q Q dR dJ) Q Q Q Q Q (aP (Bv false) au (On (aB.ent (aU.qC 22 0 0 3 Q Q Q Q) (aB.ent (aU.qC 22 1 1 3 Q Q Q Q) (aB.ent (aU.qC 22 2 2 3 Q Q Q Q) (en [(6,Cc (.pl 22 0)),(7,Bv false)] [(0,pR 3 aC ([] : List Int)),(1,pR 3 aC ([] : List Int)),(2,pR 3 aC ([] : List Int)),(22,.row 113 [[lo 0 (([] : List Int).length),lo 1 (([] : List Int).length),lo 2 (([] : List Int).length)]])] z2 z4 (aB.ret (bD.mk (.inr Q) ⟨⟨_,_,_,Q,Q,Q,gm,dJ,_,dQ dR⟩,Q,J⟩ z3 Q ⟨⟨J,J,J,J⟩,ak.sc,J⟩ ⟨bK.bg dS,bK.bg dS,bK.bg dS,J⟩)))))))))
  ·refine aB.skip (Ws (Ws (Wr ?_)))
   refine aP (Iv 0) au (On (aB.block ?_))
   refine aB.iy (id := 0) (Aa g k l) (fun s8 => ([(1,Iv k),(2,Iv l),(3,Cc (.pl 21 0)),(6,Cc (.pl 22 0)),(8,Cc (.pl 27 0)),(10,Iv s8.1)],[(21,.row 26 [[iC g.aF,xF aG g.aA]]),(22,.row 113 [[sC aO,sC aO,sC aO]]),(24,pR 3 aC s8.2.1),(25,pR 3 aC s8.2.2.1),(26,pR 3 aC s8.2.2.2),(27,.row 113 [[lo 24 s8.2.1.length,lo 25 s8.2.2.1.length,lo 26 s8.2.2.2.length]])])) (fun b13 => ([(6,Cc (.pl 22 0)),(8,Cc (.pl 27 0))],[(22,.row 113 [[sC aO,sC aO,sC aO]]),(24,pR 3 aC b13.1),(25,pR 3 aC b13.2.1),(26,pR 3 aC b13.2.2),(27,.row 113 [[lo 24 b13.1.length,lo 25 b13.2.1.length,lo 26 b13.2.2.length]])])) ?_ (aU.of z6 z6) Q (fun b13 _ => ?_)
   ·intro s8
    unfold Aa
    refine Ws (Ws (Wr ?_))
    refine aH (Iv s8.1) y4 (cZ (xF aG g.aA) dP dY bG (ah (LT.gY Q dK) Q Q Q (aj LT.lss y5 (On (aB.cond Q (fun XA => ?_) (fun XA => ?_))))))
    ·refine aB.skip (Ws (aB.block (Wr ?_)))
     refine bV (bJ [iC g.aF,xF aG g.aA] Q bU ai aX) Q Q Q Q (aH (Iv k) y4 (aH (Iv l) y4 (bV (bJ [lo 24 s8.2.1.length,lo 25 s8.2.2.1.length,lo 26 s8.2.2.2.length] Q gm dR dJ) Q Q Q Q (aH (Iv s8.1) y4 (aY fun gq CZ => (aS.step (cF [.agg [iC g.aF,xF aG g.aA],.c (iC k),.c (iC l),.agg [lo 24 s8.2.1.length,lo 25 s8.2.2.1.length,lo 26 s8.2.2.2.length],.c (iC s8.1)] [(24,pR 3 aC s8.2.1),(25,pR 3 aC s8.2.2.1),(26,pR 3 aC s8.2.2.2)] (Fw.Fn.ren [(0,30),(1,31),(2,32)] (aBv g k l (ay.mk s8.2.1 s8.2.2.1 s8.2.2.2) s8.1 gq CZ) Q) VD (.cons (.agg (.cons (.same Q) (.cons (.same Q) .nil))) (.cons (.c (.same Q)) (.cons (.c (.same Q)) (.cons (.agg (.cons (.dN Q Q) (.cons (.dN Q Q) (.cons (.dN Q Q) .nil)))) (.cons (.c (.same Q)) .nil))))) J y3) z6 z3 Q Q (aH (.dI [.agg [lo 30 gq.1.Free.length,lo 31 gq.1.aN.length,lo 32 gq.1.aI.length],.c (bC gq.2)]) y4 (ah (LT.extract (v := (.agg [lo 30 gq.1.Free.length,lo 31 gq.1.aN.length,lo 32 gq.1.aI.length])) Q (by exact Q)) Q Q Q (ah (LT.extract (v := (.c (bC gq.2))) Q (by exact Q)) Q Q Q (bW (stA [lo 30 gq.1.Free.length,lo 31 gq.1.aN.length,lo 32 gq.1.aI.length] Q Q dR dJ) Q Q Q Q Q (On (aB.blk ?_))))))))))))
     refine en [(1,Iv k),(2,Iv l),(3,Cc (.pl 21 0)),(6,Cc (.pl 22 0)),(8,Cc (.pl 27 0)),(10,Iv s8.1)] [(21,.row 26 [[iC g.aF,xF aG g.aA]]),(22,.row 113 [[sC aO,sC aO,sC aO]]),(27,.row 113 [[lo 30 gq.1.Free.length,lo 31 gq.1.aN.length,lo 32 gq.1.aI.length]]),(30,pR 3 aC gq.1.Free),(31,pR 3 aC gq.1.aN),(32,pR 3 aC gq.1.aI)] z6 z6 (Wr (aH (Iv s8.1) y4 (aj LT.add af (aP (Iv (aJ (s8.1 + 1))) y4 (On (en [(1,Iv k),(2,Iv l),(3,Cc (.pl 21 0)),(6,Cc (.pl 22 0)),(8,Cc (.pl 27 0)),(10,Iv (aJ (s8.1 + 1)))] [(21,.row 26 [[iC g.aF,xF aG g.aA]]),(22,.row 113 [[sC aO,sC aO,sC aO]]),(27,.row 113 [[lo 30 gq.1.Free.length,lo 31 gq.1.aN.length,lo 32 gq.1.aI.length]]),(30,pR 3 aC gq.1.Free),(31,pR 3 aC gq.1.aN),(32,pR 3 aC gq.1.aI)] z6 z6 (aB.ent (aU.mv 30 24 Q Q) (aB.ent (aU.mv 31 25 Q Q) (aB.ent (aU.mv 32 26 Q Q) (aZ Q z6 z6))))))))))
    ·refine aB.fH Q ⟨Q,aU.of z2 z5⟩
   ·refine Ws (Wr ?_)
    refine bV (bJ [lo 24 b13.1.length,lo 25 b13.2.1.length,lo 26 b13.2.2.length] Q gm dR dJ) Q Q Q Q (bW (stA [lo 24 b13.1.length,lo 25 b13.2.1.length,lo 26 b13.2.2.length] Q Q dR dJ) Q Q Q Q Q (aP (Bv true) au (On (en [(6,Cc (.pl 22 0)),(7,Bv true)] [(22,.row 113 [[lo 24 b13.1.length,lo 25 b13.2.1.length,lo 26 b13.2.2.length]]),(24,pR 3 aC b13.1),(25,pR 3 aC b13.2.1),(26,pR 3 aC b13.2.2)] z2 z4 (aB.ent (aU.mv 24 0 Q Q) (aB.ent (aU.mv 25 1 Q Q) (aB.ent (aU.mv 26 2 Q Q) (en [(6,Cc (.pl 22 0)),(7,Bv true)] [(0,pR 3 aC b13.1),(1,pR 3 aC b13.2.1),(2,pR 3 aC b13.2.2),(22,.row 113 [[lo 0 b13.1.length,lo 1 b13.2.1.length,lo 2 b13.2.2.length]])] z2 z4 (aB.ret (bD.mk (.inr Q) ⟨⟨_,_,_,Q,Q,Q,gm,dJ,_,dQ dR⟩,Q,J⟩ z3 Q ⟨⟨J,J,J,J⟩,ak.sc,J⟩ ⟨bK.bg dS,bK.bg dS,bK.bg dS,J⟩))))))))))
theorem MR (g : aQ) (k : Int) (l : Int) : FT Tryz.prog (yB g k l) 91 [.agg [iC g.aF,xF aG g.aA],.c (iC k),.c (iC l)] [] (fun (t : Int) => [.c (iC t)]) (fun (t : Int) => []) [] := by
 refine FT.of [] Tryz.func91 Tryz.ntmps91 Q y2 ?_
 intro w0 U0 R0 g0
 unfold yB
 refine Ws (Wr ?_)
 refine dF (LT.box (n := 21) (v := (.agg [iC g.aF,xF aG g.aA])) Q aX (by exact Q)) Q Q Q (aP (Iv 0) au (On (Ws (Wr ?_))))
 refine bV (bJ [iC g.aF,xF aG g.aA] Q bU ai aX) Q Q Q Q (aH (Iv k) y4 (aH (Iv l) y4 (aY fun r1 hr1 => (aS.step (bH [.agg [iC g.aF,xF aG g.aA],.c (iC k),.c (iC l)] (Fw.Fn.ren [(0,23),(1,24),(2,25)] (aBx g k l r1 hr1) Q) U5 (qx y4) J y3) z4 J Q Q (aH (.dI [.agg [lo 23 r1.1.Free.length,lo 24 r1.1.aN.length,lo 25 r1.1.aI.length],.c (bC r1.2)]) y4 (ah (LT.extract (v := (.agg [lo 23 r1.1.Free.length,lo 24 r1.1.aN.length,lo 25 r1.1.aI.length])) Q (by exact Q)) Q Q Q (ah (LT.extract (v := (.c (bC r1.2))) Q (by exact Q)) Q Q Q (dA (LT.alloc (n := 26) (cells := [sC aO,sC aO,sC aO]) Q jY Q Q Q) Q Q (bW (stA [lo 23 r1.1.Free.length,lo 24 r1.1.aN.length,lo 25 r1.1.aI.length] Q Q dR dJ) Q Q Q Q Q (aP (Bv r1.2) y4 (On (Ws (Ws ?_)))))))))))))
 refine en [(7,Cc (.pl 26 0)),(8,Bv r1.2)] [(23,pR 3 aC r1.1.Free),(24,pR 3 aC r1.1.aN),(25,pR 3 aC r1.1.aI),(26,.row 113 [[lo 23 r1.1.Free.length,lo 24 r1.1.aN.length,lo 25 r1.1.aI.length]])] z2 z4 (Wr (aH (Bv r1.2) y4 (ah (LT.not Q) Q Q Q (On (aB.cond Q (fun hc2 => ?_) (fun hc2 => ?_))))))
 ·refine Ws (Wr ?_)
  refine aP (Iv (-1)) au (On (aB.ret (bD.mk (.inr Q) z1 J Q ⟨ak.sc,J⟩ J)))
 ·refine aB.skip (Ws (Wr ?_))
  refine cZ (lo 25 r1.1.aI.length) lV eU bG (ah (LT.lX Q dO) Q Q Q (aP (Iv (r1.1.aI.length : Int)) y4 (On (aB.ret (bD.mk (.inr Q) z1 J Q ⟨ak.sc,J⟩ J)))))
end Go.Proofs.YtdmlaldifbmkpaaGreat
end
section
set_option linter.unusedVariables false
set_option linter.unusedSimpArgs false
set_option linter.unnecessarySimpa false
set_option maxRecDepth 100000
set_option maxHeartbeats 8000000
open Go Go.Fw
namespace Go.Proofs.YtdmlaldifbmkpaaGreat
theorem Tn (g : aQ) (k : Int) (l : Int) : FT Tryz.prog (zy g k l) 78 [.agg [iC g.aF,xF aG g.aA],.c (iC k),.c (iC l)] [] (fun (t : (List Int)) => [.c (lo 0 t.length)]) (fun (t : (List Int)) => [(0,pR 3 aC t)]) [0] := by
 refine FT.of [] Tryz.func78 Tryz.ntmps78 Q y2 ?_
 intro w0 U0 R0 g0
 unfold zy
 refine Ws (Wr ?_)
 refine dF (LT.box (n := 21) (v := (.agg [iC g.aF,xF aG g.aA])) Q aX (by exact Q)) Q Q Q (aP (Cc (sC aO)) au (On (Ws (Wr ?_))))
 refine dA (LT.eY (n := 22) (enc := aC) [] ([] : List Int) Q Q dO fF Q Q Q Q (by decide) (fun _ => Q) Q) Q Q (aP (Cc (lo 22 (([] : List Int).length))) y4 (On (Ws (Wr ?_))))
 refine bV (bJ [iC g.aF,xF aG g.aA] Q bU ai aX) Q Q Q Q (aH (Iv k) y4 (aH (Iv l) y4 (aY fun r1 hr1 => (aS.pure (bH [.agg [iC g.aF,xF aG g.aA],.c (iC k),.c (iC l)] (MR g k l r1 hr1) Il (qx y4) J y3) z4 J Q Q (aP (Iv r1) y4 (On (Ws (Ws ?_))))))))
 refine en [(1,Iv k),(2,Iv l),(3,Cc (.pl 21 0)),(7,Cc (lo 22 (([] : List Int).length))),(8,Iv r1)] [(21,.row 26 [[iC g.aF,xF aG g.aA]]),(22,pR 3 aC ([] : List Int))] z5 z2 (Wr (aP (Iv 0) au (On (aB.block ?_))))
 refine aB.iy (id := 0) (vS g k l r1) (fun s2 => ([(1,Iv k),(2,Iv l),(3,Cc (.pl 21 0)),(7,Cc (lo 22 s2.2.length)),(8,Iv r1),(9,Iv s2.1)],[(21,.row 26 [[iC g.aF,xF aG g.aA]]),(22,pR 3 aC s2.2)])) (fun b25 => ([(7,Cc (lo 22 b25.length))],[(22,pR 3 aC b25)])) ?_ (aU.of z6 z2) Q (fun b25 _ => ?_)
 ·intro s2
  unfold vS
  refine Ws (Ws ?_)
  refine aB.dZ (fun j27 => ([(1,Iv k),(2,Iv l),(3,Cc (.pl 21 0)),(7,Cc (lo 22 s2.2.length)),(8,Iv r1),(9,Iv s2.1),(25,Bv j27)],[(21,.row 26 [[iC g.aF,xF aG g.aA]]),(22,pR 3 aC s2.2)])) ?_ (fun j27 _ => ?_)
  ·refine Wr (aH (Iv s2.1) y4 (cZ (xF aG g.aA) dP dY bG (ah (LT.gY Q dK) Q Q Q (aj LT.lss y5 (aH (Bv (decide (s2.1 < (g.aA.length : Int)))) y4 (aS.split (fun jm => ?_) (fun jm => ?_)))))))
   ·refine dn (Iv r1) jm y5 (fZ LT.geq jm jZ (dL (Bv (decide (0 ≤ r1))) jm y5 (On (aZ Q z7 z2))))
   ·refine aV jm y5 (aV jm y5 (eH (Bv false) jm af (On (aZ Q z7 z2))))
  ·refine aB.cond Q (fun hc29 => ?_) (fun hc29 => ?_)
   ·refine aB.skip (Ws (aB.block (Ws (Wr ?_))))
    refine bV (bJ [iC g.aF,xF aG g.aA] Q bU ai aX) Q Q Q Q (aH (Iv s2.1) y4 (aY fun lZ X9 => (aS.step (bH [.agg [iC g.aF,xF aG g.aA],.c (iC s2.1)] (Fw.Fn.ren [(0,25)] (MS g s2.1 lZ X9) Q) Ia (wE y3) J y3) z3 J Q Q (aH (.dI [.agg [iC lZ.1.aF,lo 25 lZ.1.aA.length],.c (bC lZ.2)]) y4 (ah (LT.extract (v := (.agg [iC lZ.1.aF,lo 25 lZ.1.aA.length])) Q (by exact Q)) Q Q Q (ah (LT.extract (v := (.c (bC lZ.2))) Q (by exact Q)) Q Q Q (dA (LT.alloc (n := 26) (cells := [iC 0,sC aO]) Q fK Q Q Q) Q Q (bW (stA [iC lZ.1.aF,lo 25 lZ.1.aA.length] Q Q ai aX) Q Q Q Q Q (aP (Bv lZ.2) y4 (On (Ws ?_)))))))))))
    refine en [(1,Iv k),(2,Iv l),(3,Cc (.pl 21 0)),(7,Cc (lo 22 s2.2.length)),(8,Iv r1),(9,Iv s2.1),(10,Cc (.pl 26 0))] [(21,.row 26 [[iC g.aF,xF aG g.aA]]),(22,pR 3 aC s2.2),(25,pR 40 aG lZ.1.aA),(26,.row 26 [[iC lZ.1.aF,lo 25 lZ.1.aA.length]])] z7 z4 (Wr (bV (bJ [iC lZ.1.aF,lo 25 lZ.1.aA.length] Q bU ai aX) Q Q Q Q (aH (Iv k) y4 (aH (Iv l) y4 (aY fun bI qJ => (aS.pure (cF [.agg [iC lZ.1.aF,lo 25 lZ.1.aA.length],.c (iC k),.c (iC l)] [(25,pR 40 aG lZ.1.aA)] (MR lZ.1 k l bI qJ) Il (.cons (.agg (.cons (.same Q) (.cons (.dN Q Q) .nil))) (.cons (.c (.same Q)) (.cons (.c (.same Q)) .nil))) J y3) z4 z1 Q Q (aH (Iv r1) y4 (aj LT.lss y5 (On (aB.dZ (fun j34 => ([(1,Iv k),(2,Iv l),(3,Cc (.pl 21 0)),(7,Cc (lo 22 j34.length)),(8,Iv r1),(9,Iv s2.1)],[(21,.row 26 [[iC g.aF,xF aG g.aA]]),(22,pR 3 aC j34)])) ?_ (fun j34 _ => ?_)))))))))))
    ·refine aB.cond Q (fun CB => ?_) (fun CB => ?_)
     ·refine Wr (aH (Cc (lo 22 s2.2.length)) y4 (aH (Iv s2.1) y4 (dF (LT.eY (n := 28) (enc := aC) [(0,.tmp 41,.c (iC s2.1))] ([s2.1] : List Int) Q Q dO fF Q Q Q Q (by decide) (fun _ => Q) Q) Q Q Q (aY fun u36 Yf => (kR (LT.jg (enc := aC) Q Q Q dO fF Q (by decide) (by decide) (fun _ => Q) (iG Yf)) Q Q Q Q Q Q (aP (Cc (lo 22 ((s2.2 ++ ([s2.1] : List Int)).length))) y4 (On (aZ Q z6 z2))))))))
     ·refine aB.skip (aZ Q z6 z2)
    ·refine aB.blk (Wr ?_)
     refine aH (Iv s2.1) y4 (aj LT.add af (aP (Iv (aJ (s2.1 + 1))) y4 (On (aZ Q z6 z2))))
   ·refine aB.fH Q ⟨Q,aU.of z1 z1⟩
 ·refine Ws (Wr ?_)
  refine aH (Cc (lo 22 b25.length)) y4 (aP (Cc (lo 22 b25.length)) y4 (On (en [(6,Cc (lo 22 b25.length))] [(22,pR 3 aC b25)] z1 z1 (aB.ent (aU.mv 22 0 Q Q) (en [(6,Cc (lo 0 b25.length))] [(0,pR 3 aC b25)] z1 z1 (aB.ret (bD.mk (.inr Q) z1 z1 Q ⟨J,J⟩ ⟨bK.bg dS,J⟩)))))))
theorem aBw (g : aQ) : FT Tryz.prog (AZ g) 11 [.agg [iC g.aF,xF aG g.aA]] [] (fun (t : (List Int)) => [.c (lo 0 t.length)]) (fun (t : (List Int)) => [(0,pR 3 aC t)]) [0] := by
 refine FT.of [] Tryz.func11 Tryz.ntmps11 Q y2 ?_
 intro w0 U0 R0 g0
 unfold AZ
 refine Ws (Wr ?_)
 refine dF (LT.box (n := 21) (v := (.agg [iC g.aF,xF aG g.aA])) Q aX (by exact Q)) Q Q Q (aP (Cc (sC aO)) au (On (Ws (Wr ?_))))
 refine dA (LT.eY (n := 22) (enc := aC) [] ([] : List Int) Q Q dO fF Q Q Q Q (by decide) (fun _ => Q) Q) Q Q (aP (Cc (lo 22 (([] : List Int).length))) y4 (On (Ws (Wr ?_))))
 refine bV (bJ [iC g.aF,xF aG g.aA] Q bU ai aX) Q Q Q Q (aY fun r1 hr1 => (aS.step (bH [.agg [iC g.aF,xF aG g.aA],.c (iC 2),.c (iC 3)] (Fw.Fn.ren [(0,24)] (Tn g 2 3 r1 hr1) Q) OU (qx y4) J y3) ⟨Q,Q,y2,y2,J⟩ J Q Q (aP (Cc (lo 24 r1.length)) y4 (On (Ws (Ws ?_))))))
 refine en [(1,Cc (.pl 21 0)),(3,Cc (lo 22 (([] : List Int).length))),(4,Cc (lo 24 r1.length))] [(21,.row 26 [[iC g.aF,xF aG g.aA]]),(22,pR 3 aC ([] : List Int)),(24,pR 3 aC r1)] z3 z3 (Wr (aP (Iv 0) au (On (aB.block ?_))))
 refine aB.iy (id := 0) (vW g r1) (fun s2 => ([(1,Cc (.pl 21 0)),(3,Cc (lo 22 s2.2.length)),(4,Cc (lo 24 r1.length)),(5,Iv s2.1)],[(21,.row 26 [[iC g.aF,xF aG g.aA]]),(22,pR 3 aC s2.2),(24,pR 3 aC r1)])) (fun b27 => ([(3,Cc (lo 22 b27.length))],[(22,pR 3 aC b27)])) ?_ (aU.of z4 z3) Q (fun b27 _ => ?_)
 ·intro s2
  unfold vW
  refine Ws (Ws ?_)
  refine aB.dZ (fun j30 => ([(1,Cc (.pl 21 0)),(3,Cc (lo 22 s2.2.length)),(4,Cc (lo 24 r1.length)),(5,Iv s2.1),(17,Bv j30)],[(21,.row 26 [[iC g.aF,xF aG g.aA]]),(22,pR 3 aC s2.2),(24,pR 3 aC r1)])) ?_ (fun j30 _ => ?_)
  ·refine Wr (aH (Iv s2.1) y4 (cZ (xF aG g.aA) dP dY bG (ah (LT.gY Q dK) Q Q Q (aj LT.lss y5 (aH (Bv (decide (s2.1 < (g.aA.length : Int)))) y4 (aS.split (fun wo => ?_) (fun wo => ?_)))))))
   ·refine bV (bJ [iC g.aF,xF aG g.aA] Q bU ai aX) Q Q (gH wo Q Q) Q (aY fun r32 xG => (aS.pure (bH [.agg [iC g.aF,xF aG g.aA]] (sH g r32 xG) rE (jL y2) J y3) z2 J (gH wo Q Q) Q (dL (Bv r32) wo y5 (On (aZ Q z5 z3)))))
   ·refine aV wo y5 (aV wo y5 (eH (Bv false) wo af (On (aZ Q z5 z3))))
  ·refine aB.cond Q (fun Bz => ?_) (fun Bz => ?_)
   ·refine aB.skip (Ws (aB.block (Ws (Wr ?_))))
    refine aH (Cc (lo 24 r1.length)) y4 (aH (Iv s2.1) y4 (aY fun qp Jj => (aS.pure (cF [.c (lo 24 r1.length),.c (iC s2.1)] [(24,pR 3 aC r1)] (MW r1 s2.1 qp Jj) Ig (.cons (.c (.dN Q Q)) (.cons (.c (.same Q)) .nil)) J y3) z3 z1 Q Q (ah (LT.not Q) Q Q Q (On (aB.dZ (fun j37 => ([(1,Cc (.pl 21 0)),(3,Cc (lo 22 j37.length)),(4,Cc (lo 24 r1.length)),(5,Iv s2.1)],[(21,.row 26 [[iC g.aF,xF aG g.aA]]),(22,pR 3 aC j37),(24,pR 3 aC r1)])) ?_ (fun j37 _ => ?_)))))))
    ·refine aB.cond Q (fun hc38 => ?_) (fun hc38 => ?_)
     ·refine Wr (aH (Cc (lo 22 s2.2.length)) y4 (aH (Iv s2.1) y4 (dF (LT.eY (n := 27) (enc := aC) [(0,.tmp 25,.c (iC s2.1))] ([s2.1] : List Int) Q Q dO fF Q Q Q Q (by decide) (fun _ => Q) Q) Q Q Q (aY fun MH Jy => (kR (LT.jg (enc := aC) Q Q Q dO fF Q (by decide) (by decide) (fun _ => Q) (iG Jy)) Q Q Q Q Q Q (aP (Cc (lo 22 ((s2.2 ++ ([s2.1] : List Int)).length))) y4 (On (aZ Q z4 z3))))))))
     ·refine aB.skip (aZ Q z4 z3)
    ·refine aB.blk (Wr ?_)
     refine aH (Iv s2.1) y4 (aj LT.add af (aP (Iv (aJ (s2.1 + 1))) y4 (On (aZ Q z4 z3))))
   ·refine aB.fH Q ⟨Q,aU.of z1 z1⟩
 ·refine Ws (Wr ?_)
  refine aH (Cc (lo 22 b27.length)) y4 (aP (Cc (lo 22 b27.length)) y4 (On (en [(2,Cc (lo 22 b27.length))] [(22,pR 3 aC b27)] z1 z1 (aB.ent (aU.mv 22 0 Q Q) (en [(2,Cc (lo 0 b27.length))] [(0,pR 3 aC b27)] z1 z1 (aB.ret (bD.mk (.inr Q) z1 z1 Q ⟨J,J⟩ ⟨bK.bg dS,J⟩)))))))
theorem Tt (g : aQ) : FT Tryz.prog (AL g) 12 [.agg [iC g.aF,xF aG g.aA]] [] (fun (t : (List Int)) => [.c (lo 0 t.length)]) (fun (t : (List Int)) => [(0,pR 3 aC t)]) [0] := by
 refine FT.of [] Tryz.func12 Tryz.ntmps12 Q y2 ?_
 intro w0 U0 R0 g0
 unfold AL
 refine Ws (Wr ?_)
 refine dF (LT.box (n := 21) (v := (.agg [iC g.aF,xF aG g.aA])) Q aX (by exact Q)) Q Q Q (aP (Cc (sC aO)) au (On (Ws (Wr ?_))))
 refine bV (bJ [iC g.aF,xF aG g.aA] Q bU ai aX) Q Q Q Q (aY fun r1 hr1 => (aS.step (bH [.agg [iC g.aF,xF aG g.aA],.c (iC 2),.c (iC 3)] (Fw.Fn.ren [(0,23)] (Tn g 2 3 r1 hr1) Q) OU (qx y4) J y3) ⟨Q,Q,y2,y2,J⟩ J Q Q (aP (Cc (lo 23 r1.length)) y4 (On (en [(2,Cc (lo 23 r1.length))] [(23,pR 3 aC r1)] z1 z1 (aB.ent (aU.mv 23 0 Q Q) (en [(2,Cc (lo 0 r1.length))] [(0,pR 3 aC r1)] z1 z1 (aB.ret (bD.mk (.inr Q) z1 z1 Q ⟨J,J⟩ ⟨bK.bg dS,J⟩)))))))))
theorem aBS (g : aQ) : FT Tryz.prog (DT g) 92 [.agg [iC g.aF,xF aG g.aA]] [] (fun (t : Int) => [.c (iC t)]) (fun (t : Int) => []) [] := by
 refine FT.of [] Tryz.func92 Tryz.ntmps92 Q y2 ?_
 intro w0 U0 R0 g0
 unfold DT
 refine Ws (Wr ?_)
 refine dF (LT.box (n := 21) (v := (.agg [iC g.aF,xF aG g.aA])) Q aX (by exact Q)) Q Q Q (aP (Iv 0) au (On (Ws (Ws (Wr ?_)))))
 refine bV (bJ [iC g.aF,xF aG g.aA] Q bU ai aX) Q Q Q Q (aY fun r1 hr1 => (aS.pure (bH [.agg [iC g.aF,xF aG g.aA]] (yc g r1 hr1) wR (jL y2) J y3) z2 J Q Q (ah (LT.not Q) Q Q Q (On (aB.cond Q (fun hc2 => ?_) (fun hc2 => ?_))))))
 ·refine Ws (Wr ?_)
  refine aP (Iv (-1)) au (On (aB.ret (bD.mk (.inr Q) z1 J Q ⟨ak.sc,J⟩ J)))
 ·refine aB.skip (Ws (aB.draw mixed ?_))
  refine fD (iC g.aF) iq bM bG (jG LT.mul sG (jG LT.sub af (jG LT.max sG (fU (bJ [iC g.aF,xF aG g.aA] Q bU ai aX) Q Q Q Q (aT.bind fun r3 hr3 => (aT.pure (bH [.agg [iC g.aF,xF aG g.aA],.c (iC 2),.c (iC 3)] (ML g 2 3 r3 hr3) Ib (qx y4) J y3) ⟨Q,Q,y2,y2,J⟩ J Q Q (jG LT.sub y5 (bf (LT.assign (v := (Iv (aJ ((if 0 < (aJ ((aJ (2 * g.aF)) - 3)) then (aJ ((aJ (2 * g.aF)) - 3)) else 0) - r3)))) Q) Q Q Q (aT.nil (by kernel_rfl) (aB.ret (bD.mk (.inr Q) z1 J Q ⟨ak.sc,J⟩ J)))))))))))
theorem Hz (g : aQ) : FT Tryz.prog (vI g) 23 [.agg [iC g.aF,xF aG g.aA]] [] (fun (t : Bool) => [.c (bC t)]) (fun (t : Bool) => []) [] := by
 refine FT.of [] Tryz.func23 Tryz.ntmps23 Q y2 ?_
 intro w0 U0 R0 g0
 unfold vI
 refine Ws (Wr ?_)
 refine dF (LT.box (n := 21) (v := (.agg [iC g.aF,xF aG g.aA])) Q aX (by exact Q)) Q Q Q (aP (Bv false) au (On (Ws (Wr ?_))))
 refine bV (bJ [iC g.aF,xF aG g.aA] Q bU ai aX) Q Q Q Q (aY fun r1 hr1 => (aS.pure (bH [.agg [iC g.aF,xF aG g.aA]] (aBS g r1 hr1) Ve (jL y2) J y3) z2 J Q Q (aj LT.eql af (aP (Bv (r1 == 0)) y4 (On (aB.ret (bD.mk (.inr Q) z1 J Q ⟨ak.sc,J⟩ J)))))))
theorem TU (g : aQ) : FT Tryz.prog (zU g) 13 [.agg [iC g.aF,xF aG g.aA]] [] (fun (t : Bool) => [.c (bC t)]) (fun (t : Bool) => []) [] := by
 refine FT.of [] Tryz.func13 Tryz.ntmps13 Q y2 ?_
 intro w0 U0 R0 g0
 unfold zU
 refine Ws (Wr ?_)
 refine dF (LT.box (n := 21) (v := (.agg [iC g.aF,xF aG g.aA])) Q aX (by exact Q)) Q Q Q (aP (Bv false) au (On (Ws ?_)))
 refine aB.dZ (fun j4 => ([(2,Bv j4)],[])) ?_ (fun j4 _ => ?_)
 ·refine Wr (bV (bJ [iC g.aF,xF aG g.aA] Q bU ai aX) Q Q Q Q (aY fun r5 lW => (aS.pure (bH [.agg [iC g.aF,xF aG g.aA]] (Hz g r5 lW) FC (jL y2) J y3) z2 J Q Q (aH (Bv r5) y4 (aS.split (fun hb6 => ?_) (fun hb6 => ?_))))))
  ·refine bV (bJ [iC g.aF,xF aG g.aA] Q bU ai aX) Q Q (gH hb6 Q Q) Q (aY fun r7 nN => (aS.step (bH [.agg [iC g.aF,xF aG g.aA]] (Fw.Fn.ren [(0,24)] (MK g r7 nN) Q) Ik (jL y2) J y3) z2 J (gH hb6 Q Q) Q (ah (LT.lX Q dO) Q (gH hb6 Q Q) Q (fZ LT.eql hb6 jZ (dL (Bv ((r7.length : Int) == 0)) hb6 y5 (aP (Bv ((r7.length : Int) == 0)) y4 (On (aZ Q z1 J))))))))
  ·refine aV hb6 y5 (aV hb6 y5 (aV hb6 y5 (aV hb6 y5 (eH (Bv false) hb6 af (aP (Bv false) y4 (On (aZ Q z1 J)))))))
 ·refine aB.ret (bD.mk (.inr Q) z1 J Q ⟨ak.sc,J⟩ J)
theorem Tv (g : aQ) : FT Tryz.prog (AO g) 21 [.agg [iC g.aF,xF aG g.aA]] [] (fun (t : Int) => [.c (iC t)]) (fun (t : Int) => []) [] := by
 refine FT.of [] Tryz.func21 Tryz.ntmps21 Q y2 ?_
 intro w0 U0 R0 g0
 unfold AO
 refine Ws (Wr ?_)
 refine dF (LT.box (n := 21) (v := (.agg [iC g.aF,xF aG g.aA])) Q aX (by exact Q)) Q Q Q (aP (Iv 0) au (On (Ws (Ws (Wr ?_)))))
 refine bV (bJ [iC g.aF,xF aG g.aA] Q bU ai aX) Q Q Q Q (aY fun r1 hr1 => (aS.pure (bH [.agg [iC g.aF,xF aG g.aA]] (sH g r1 hr1) rE (jL y2) J y3) z2 J Q Q (ah (LT.not Q) Q Q Q (On (aB.cond Q (fun hc2 => ?_) (fun hc2 => ?_))))))
 ·refine Ws (Wr ?_)
  refine aP (Iv (-1)) au (On (aB.ret (bD.mk (.inr Q) z1 J Q ⟨ak.sc,J⟩ J)))
 ·refine aB.skip (Ws (aB.draw mixed ?_))
  refine fD (iC g.aF) iq bM bG (jG LT.mul sG (jG LT.sub af (jG LT.max sG (fU (bJ [iC g.aF,xF aG g.aA] Q bU ai aX) Q Q Q Q (aT.bind fun r3 hr3 => (aT.pure (bH [.agg [iC g.aF,xF aG g.aA],.c (iC 2),.c (iC 3)] (MR g 2 3 r3 hr3) Il (qx y4) J y3) ⟨Q,Q,y2,y2,J⟩ J Q Q (jG LT.sub y5 (bf (LT.assign (v := (Iv (aJ ((if 0 < (aJ ((aJ (2 * g.aF)) - 3)) then (aJ ((aJ (2 * g.aF)) - 3)) else 0) - r3)))) Q) Q Q Q (aT.nil (by kernel_rfl) (aB.ret (bD.mk (.inr Q) z1 J Q ⟨ak.sc,J⟩ J)))))))))))
theorem MQ (g : aQ) : FT Tryz.prog (xq g) 80 [.agg [iC g.aF,xF aG g.aA]] [] (fun (t : Bool) => [.c (bC t)]) (fun (t : Bool) => []) [] := by
 refine FT.of [] Tryz.func80 Tryz.ntmps80 Q y2 ?_
 intro w0 U0 R0 g0
 unfold xq
 refine Ws (Wr ?_)
 refine dF (LT.box (n := 21) (v := (.agg [iC g.aF,xF aG g.aA])) Q aX (by exact Q)) Q Q Q (aP (Bv false) au (On (Ws (Wr ?_))))
 refine bV (bJ [iC g.aF,xF aG g.aA] Q bU ai aX) Q Q Q Q (aY fun r1 hr1 => (aS.pure (bH [.agg [iC g.aF,xF aG g.aA]] (Tv g r1 hr1) OL (jL y2) J y3) z2 J Q Q (aj LT.eql af (aP (Bv (r1 == 0)) y4 (On (aB.ret (bD.mk (.inr Q) z1 J Q ⟨ak.sc,J⟩ J)))))))
end Go.Proofs.YtdmlaldifbmkpaaGreat
end
section
set_option linter.unusedVariables false
set_option linter.unusedSimpArgs false
set_option linter.unnecessarySimpa false
set_option maxRecDepth 100000
set_option maxHeartbeats 8000000
open Go Go.Fw
namespace Go.Proofs.YtdmlaldifbmkpaaGreat
theorem aBs (g : aQ) : FT Tryz.prog (Du g) 14 [.agg [iC g.aF,xF aG g.aA]] [] (fun (t : Bool) => [.c (bC t)]) (fun (t : Bool) => []) [] := by
 refine FT.of [] Tryz.func14 Tryz.ntmps14 Q y2 ?_
 intro w0 U0 R0 g0
 unfold Du
 refine Ws (Wr ?_)
 refine dF (LT.box (n := 21) (v := (.agg [iC g.aF,xF aG g.aA])) Q aX (by exact Q)) Q Q Q (aP (Bv false) au (On (Ws ?_)))
 refine aB.dZ (fun j4 => ([(2,Bv j4)],[])) ?_ (fun j4 _ => ?_)
 ·refine Wr (bV (bJ [iC g.aF,xF aG g.aA] Q bU ai aX) Q Q Q Q (aY fun r5 lW => (aS.pure (bH [.agg [iC g.aF,xF aG g.aA]] (MQ g r5 lW) Ih (jL y2) J y3) z2 J Q Q (aH (Bv r5) y4 (aS.split (fun hb6 => ?_) (fun hb6 => ?_))))))
  ·refine bV (bJ [iC g.aF,xF aG g.aA] Q bU ai aX) Q Q (gH hb6 Q Q) Q (aY fun r7 nN => (aS.step (bH [.agg [iC g.aF,xF aG g.aA]] (Fw.Fn.ren [(0,24)] (Tt g r7 nN) Q) Ny (jL y2) J y3) z2 J (gH hb6 Q Q) Q (ah (LT.lX Q dO) Q (gH hb6 Q Q) Q (fZ LT.eql hb6 jZ (dL (Bv ((r7.length : Int) == 0)) hb6 y5 (aP (Bv ((r7.length : Int) == 0)) y4 (On (aZ Q z1 J))))))))
  ·refine aV hb6 y5 (aV hb6 y5 (aV hb6 y5 (aV hb6 y5 (eH (Bv false) hb6 af (aP (Bv false) y4 (On (aZ Q z1 J)))))))
 ·refine aB.ret (bD.mk (.inr Q) z1 J Q ⟨ak.sc,J⟩ J)
theorem TV (g : aQ) (broken : (List Int)) : FT Tryz.prog (xO g broken) 16 [.agg [iC g.aF,xF aG g.aA],.c (xF aC broken)] [] (fun (t : Bool) => [.c (bC t)]) (fun (t : Bool) => []) [] := by
 refine FT.of [] Tryz.func16 Tryz.ntmps16 Q y2 ?_
 intro w0 U0 R0 g0
 unfold xO
 refine Ws (Wr ?_)
 refine dF (LT.box (n := 21) (v := (.agg [iC g.aF,xF aG g.aA])) Q aX (by exact Q)) Q Q Q (aP (Bv false) au (On (Ws (Wr ?_))))
 refine dA (LT.eY (n := 22) (enc := aC) [] ([] : List Int) Q Q dO fF Q Q Q Q (by decide) (fun _ => Q) Q) Q Q (aP (Cc (lo 22 (([] : List Int).length))) y4 (On (Ws (Ws (Wr ?_)))))
 refine cZ (xF aG g.aA) dP dY bG (ah (LT.gY Q dK) Q Q Q (aH (Iv 0) au (On (aB.block ?_))))
 refine aB.iy (id := 0) (xP g broken) (fun s1 => ([(1,Cc (xF aC broken)),(2,Cc (.pl 21 0)),(5,Cc (lo 22 s1.2.length)),(10,Iv (g.aA.length : Int)),(11,Iv s1.1)],[(21,.row 26 [[iC g.aF,xF aG g.aA]]),(22,pR 3 aC s1.2)])) (fun b16 => ([(2,Cc (.pl 21 0)),(5,Cc (lo 22 b16.length))],[(21,.row 26 [[iC g.aF,xF aG g.aA]]),(22,pR 3 aC b16)])) ?_ (aU.of z5 z2) Q (fun b16 _ => ?_)
 ·intro s1
  unfold xP
  refine Ws (Wr ?_)
  refine aj LT.lss y5 (On (Ws ?_))
  refine aB.cond Q (fun hc17 => ?_) (fun hc17 => ?_)
  ·refine aB.skip (Ws (aB.block (Ws (Wr ?_))))
   refine aH (Iv s1.1) y4 (aP (Iv s1.1) y4 (On (Ws (Wr ?_))))
   refine aH (Cc (xF aC broken)) y4 (aH (Iv s1.1) y4 (aY fun fJ qi => (aS.pure (bH [.c (xF aC broken),.c (iC s1.1)] (MP broken s1.1 fJ qi) Ie (gK y2) J y3) z3 J Q Q (ah (LT.not Q) Q Q Q (On (aB.dZ (fun j21 => ([(1,Cc (xF aC broken)),(2,Cc (.pl 21 0)),(5,Cc (lo 22 j21.length)),(10,Iv (g.aA.length : Int)),(11,Iv s1.1)],[(21,.row 26 [[iC g.aF,xF aG g.aA]]),(22,pR 3 aC j21)])) ?_ (fun j21 _ => ?_)))))))
   ·refine aB.cond Q (fun hc22 => ?_) (fun hc22 => ?_)
    ·refine Wr (aH (Cc (lo 22 s1.2.length)) y4 (aH (Iv s1.1) y4 (dF (LT.eY (n := 24) (enc := aC) [(0,.tmp 19,.c (iC s1.1))] ([s1.1] : List Int) Q Q dO fF Q Q Q Q (by decide) (fun _ => Q) Q) Q Q Q (aY fun u23 Jv => (kR (LT.jg (enc := aC) Q Q Q dO fF Q (by decide) (by decide) (fun _ => Q) (iG Jv)) Q Q Q Q Q Q (aP (Cc (lo 22 ((s1.2 ++ ([s1.1] : List Int)).length))) y4 (On (aZ Q z5 z2))))))))
    ·refine aB.skip (aZ Q z5 z2)
   ·refine aB.blk (Wr ?_)
    refine aj LT.add af (aH (Iv (aJ (s1.1 + 1))) y4 (On (aZ Q z5 z2)))
  ·refine aB.fH Q ⟨Q,aU.of z2 z2⟩
 ·refine Ws (aB.dZ (fun j28 => ([(4,Bv j28)],[])) ?_ (fun j28 _ => ?_))
  ·refine Wr (bV (bJ [iC g.aF,xF aG g.aA] Q bU ai aX) Q Q Q Q (aY fun uP Ji => (aS.pure (bH [.agg [iC g.aF,xF aG g.aA]] (yc g uP Ji) wR (jL y2) J y3) z2 J Q Q (aH (Bv uP) y4 (aS.split (fun lD => ?_) (fun lD => ?_))))))
   ·refine bV (bJ [iC g.aF,xF aG g.aA] Q bU ai aX) Q Q (gH lD Q Q) Q (dn (Cc (lo 22 b16.length)) lD y5 (aY fun bI qJ => (aS.step (cF [.agg [iC g.aF,xF aG g.aA],.c (lo 22 b16.length)] [(22,pR 3 aC b16)] (Fw.Fn.ren [(0,27)] (aBV g b16 bI qJ) Q) VZ (.cons (.agg (.cons (.same Q) (.cons (.same Q) .nil))) (.cons (.c (.dN Q Q)) .nil)) J y3) z3 z1 (gH lD Q Q) Q (aY fun r32 xG => (aS.pure (cF [.agg [iC bI.aF,lo 27 bI.aA.length]] [(27,pR 40 aG bI.aA)] (Hz bI r32 xG) FC (.cons (.agg (.cons (.same Q) (.cons (.dN Q Q) .nil))) .nil) J y3) z2 z1 (gH lD Q Q) Q (dL (Bv r32) lD y5 (aP (Bv r32) y4 (On (aZ Q z1 J)))))))))
   ·refine aV lD y5 (aV lD y5 (aV lD y5 (aV lD y5 (eH (Bv false) lD af (aP (Bv false) y4 (On (aZ Q z1 J)))))))
  ·refine aB.ret (bD.mk (.inr Q) z1 J Q ⟨ak.sc,J⟩ J)
theorem aBl (code : (List Int)) : FT Tryz.prog (Dj code) 17 [.c (xT bF code)] [] (fun (t : aQ) => [.agg [iC t.aF,lo 0 t.aA.length]]) (fun (t : aQ) => [(0,pR 40 aG t.aA)]) [0] := by
 refine FT.of [] Tryz.func17 Tryz.ntmps17 Q y2 ?_
 intro w0 U0 R0 g0
 unfold Dj
 refine Ws (Wr ?_)
 refine dA (LT.alloc (n := 21) (cells := [iC 0,sC aO]) Q fK Q Q Q) Q Q (On (Ws (Wr ?_)))
 refine aH (Cc (xT bF code)) y4 (aY fun r1 hr1 => (aS.step (bH [.c (xT bF code)] (Fw.Fn.ren [(0,23)] (H8 code r1 hr1) Q) FD (lI Q) J y3) z2 J Q Q (aY fun r2 hr2 => (aS.step (bH [.c (.pl 23 0)] (Fw.Fn.ren [(0,23),(1,25)] (UH r1 r2 hr2) Q) OW (lI Q) z1 y3) z2 z1 Q Q (bW (stA [iC r2.1.aF,lo 25 r2.1.aA.length] Q Q ai aX) Q Q Q Q Q (On (en [(2,Cc (.pl 21 0))] [(21,.row 26 [[iC r2.1.aF,lo 25 r2.1.aA.length]]),(25,pR 40 aG r2.1.aA)] z1 z2 (aB.ent (aU.mv 25 0 Q Q) (en [(2,Cc (.pl 21 0))] [(0,pR 40 aG r2.1.aA),(21,.row 26 [[iC r2.1.aF,lo 0 r2.1.aA.length]])] z1 z2 (aB.ret (bD.mk (.inr Q) ⟨⟨_,_,_,Q,Q,Q,bU,aX,_,dQ ai⟩,J⟩ z1 Q ⟨⟨ak.sc,J,J⟩,J⟩ ⟨bK.bg jF,J⟩)))))))))))
theorem aBQ (g : aQ) (a : Int) (b : Int) : FT Tryz.prog (vC g a b) 96 [.agg [iC g.aF,xF aG g.aA],.c (iC a),.c (iC b)] [] (fun (t : Int) => [.c (iC t)]) (fun (t : Int) => []) [] := by
 refine FT.of [] Tryz.func96 Tryz.ntmps96 Q y2 ?_
 intro w0 U0 R0 g0
 unfold vC
 refine Ws (Wr ?_)
 refine dF (LT.box (n := 21) (v := (.agg [iC g.aF,xF aG g.aA])) Q aX (by exact Q)) Q Q Q (aP (Iv 0) au (On (Ws (Wr ?_))))
 refine aP (Iv 0) au (On (Ws (Ws (Wr ?_))))
 refine cZ (xF aG g.aA) dP dY bG (ah (LT.gY Q dK) Q Q Q (aH (Iv 0) au (On (aB.block ?_))))
 refine aB.iy (id := 0) (vF g a b) (fun s1 => ([(1,Iv a),(2,Iv b),(7,Iv s1.1),(11,Cc (xF aG g.aA)),(12,Iv (g.aA.length : Int)),(13,Iv s1.2)],[])) (fun y9 => ([(7,Iv y9)],[])) ?_ (aU.of z6 J) Q (fun y9 _ => ?_)
 ·intro s1
  unfold vF
  refine Ws (Wr ?_)
  refine aj LT.lss y5 (On (Ws ?_))
  refine aB.cond Q (fun hc31 => ?_) (fun hc31 => ?_)
  ·refine aB.skip (Ws (aB.block (Ws (Wr ?_))))
   refine aY fun x32 hx32 => (fA (LT.fO (enc := aG) Q iJ hx32 dM) Q Q Q Q (ah (LT.ni Q jO (dQ gV) (by exact dM.symm)) Q Q Q (dA (LT.alloc (n := 22) (cells := [iC 0,iC 0]) Q dw Q Q Q) Q Q (bW (stA [iC x32.A,iC x32.B] Q Q gV dM) Q Q Q Q Q (On (Ws ?_))))))
   refine aB.dZ (fun j37 => ([(1,Iv a),(2,Iv b),(7,Iv s1.1),(11,Cc (xF aG g.aA)),(12,Iv (g.aA.length : Int)),(13,Iv s1.2),(38,Bv j37)],[])) ?_ (fun j37 _ => ?_)
   ·refine Wr (cZ (iC x32.A) iO bM bG (aH (Iv a) y4 (aj LT.eql y5 (aH (Bv (x32.A == a)) y4 (aS.split (fun jy => ?_) (fun jy => ?_))))))
    ·refine iU (iC x32.B) jd bM jy fB (dn (Iv b) jy y5 (fZ LT.eql jy y6 (dL (Bv (x32.B == b)) jy y5 (aH (Bv (x32.B == b)) y4 (aS.split (fun ng => ?_) (fun ng => ?_))))))
     ·refine aV ng y5 (aV ng y5 (aV ng y5 (aV ng y5 (aV ng y5 (Oj Q Q Q Q (Oj Q Q Q Q (Oj Q Q Q Q (Oj Q Q Q Q (aV ng y5 (dL (Bv true) ng af (On ?_)))))))))))
      refine aZ Q z7 J
     ·refine iU (iC x32.A) iO bM ng fB (dn (Iv b) ng y5 (fZ LT.eql ng y6 (dn (Bv (x32.A == b)) ng y5 (aS.split (fun rJ => ?_) (fun rJ => ?_)))))
      ·refine iU (iC x32.B) jd bM rJ fB (dn (Iv a) rJ y5 (fZ LT.eql rJ y6 (fA (LT.oH (v := (Bv (x32.B == a))) Q rJ) Q Q (gH ng Q Q) Q (eH (Bv (x32.B == a)) ng y5 (On (aZ Q z7 J))))))
      ·refine aV rJ y5 (aV rJ y5 (aV rJ y5 (aV rJ y5 (fA (LT.oG (v := (Bv false)) Q rJ) Q y2 (gH ng Q Q) Q (eH (Bv false) ng y5 (On (aZ Q z7 J)))))))
    ·refine aV jy y5 (aV jy y5 (aV jy y5 (aV jy y5 (eH (Bv false) jy af (aH (Bv false) y4 (ah (LT.ig Q iO) Q (gS Q Q) Q (bV (xK (iC x32.A) Q bM) Q Q (gS Q Q) Q (mv (Iv b) Q Q (gS Q Q) Q (fA (LT.eql Q) Q Q (gS Q Q) Q (mv (Bv (x32.A == b)) Q Q (gS Q Q) Q (aS.split (fun rM => ?_) (fun rM => ?_))))))))))))
     ·refine iU (iC x32.B) jd bM rM fB (dn (Iv a) rM y5 (fZ LT.eql rM y6 (fA (LT.oH (v := (Bv (x32.B == a))) Q rM) Q Q (gS Q Q) Q (eH (Bv (x32.B == a)) Q y5 (On (aZ Q z7 J))))))
     ·refine aV rM y5 (aV rM y5 (aV rM y5 (aV rM y5 (fA (LT.oG (v := (Bv false)) Q rM) Q y2 (gS Q Q) Q (eH (Bv false) Q y5 (On (aZ Q z7 J)))))))
   ·refine aB.dZ (fun j43 => ([(1,Iv a),(2,Iv b),(7,Iv j43),(11,Cc (xF aG g.aA)),(12,Iv (g.aA.length : Int)),(13,Iv s1.2)],[])) ?_ (fun j43 _ => ?_)
    ·refine aB.cond Q (fun JQ => ?_) (fun JQ => ?_)
     ·refine Wr (aH (Iv s1.1) y4 (aj LT.add af (aP (Iv (aJ (s1.1 + 1))) y4 (On (aZ Q z6 J)))))
     ·refine aB.skip (aZ Q z6 J)
    ·refine aB.blk (Wr ?_)
     refine aj LT.add af (aH (Iv (aJ (s1.2 + 1))) y4 (On (aZ Q z6 J)))
  ·refine aB.fH Q ⟨Q,aU.of z1 J⟩
 ·refine Ws (Wr ?_)
  refine aH (Iv y9) y4 (aP (Iv y9) y4 (On (aB.ret (bD.mk (.inr Q) z1 J Q ⟨ak.sc,J⟩ J))))
theorem TY (g : aQ) : FT Tryz.prog (qo g) 27 [.agg [iC g.aF,xF aG g.aA]] [] (fun (t : (List aK)) => [.c (lo 0 t.length)]) (fun (t : (List aK)) => [(0,pR 40 aG t)]) [0] := by
 refine FT.of [] Tryz.func27 Tryz.ntmps27 Q y2 ?_
 intro w0 U0 R0 g0
 unfold qo
 refine Ws (Wr ?_)
 refine dF (LT.box (n := 21) (v := (.agg [iC g.aF,xF aG g.aA])) Q aX (by exact Q)) Q Q Q (aP (Cc (sC aO)) au (On (Ws (Wr ?_))))
 refine dA (LT.eY (n := 22) (enc := aG) [] ([] : List aK) Q Q dK dw Q Q Q Q (by decide) (fun _ => Q) Q) Q Q (aP (Cc (lo 22 (([] : List aK).length))) y4 (On (Ws (Ws (Wr ?_)))))
 refine bV (bJ [iC g.aF,xF aG g.aA] Q bU ai aX) Q Q Q Q (aY fun r1 hr1 => (aS.pure (bH [.agg [iC g.aF,xF aG g.aA]] (yc g r1 hr1) wR (jL y2) J y3) z2 J Q Q (ah (LT.not Q) Q Q Q (On (aB.cond Q (fun hc2 => ?_) (fun hc2 => ?_))))))
 ·refine Ws (en [(3,Cc (lo 22 (([] : List aK).length)))] [(22,pR 40 aG ([] : List aK))] z1 z1 (Wr (aH (Cc (lo 22 (([] : List aK).length))) y4 (aP (Cc (lo 22 (([] : List aK).length))) y4 (On (en [(2,Cc (lo 22 (([] : List aK).length)))] [(22,pR 40 aG ([] : List aK))] z1 z1 (aB.ent (aU.mv 22 0 Q Q) (en [(2,Cc (lo 0 (([] : List aK).length)))] [(0,pR 40 aG ([] : List aK))] z1 z1 (aB.ret (bD.mk (.inr Q) z1 z1 Q ⟨J,J⟩ ⟨bK.bg jF,J⟩))))))))))
 ·refine aB.skip (Ws (Ws ?_))
  refine en [(1,Cc (.pl 21 0)),(3,Cc (lo 22 (([] : List aK).length)))] [(21,.row 26 [[iC g.aF,xF aG g.aA]]),(22,pR 40 aG ([] : List aK))] z2 z2 (Wr (cZ (iC g.aF) iq bM bG (aH (Iv 0) au (On (aB.block ?_)))))
  refine aB.iy (id := 0) (vJ g) (fun s3 => ([(1,Cc (.pl 21 0)),(3,Cc (lo 22 s3.2.length)),(12,Iv g.aF),(13,Iv s3.1)],[(21,.row 26 [[iC g.aF,xF aG g.aA]]),(22,pR 40 aG s3.2)])) (fun qW => ([(3,Cc (lo 22 qW.length))],[(22,pR 40 aG qW)])) ?_ (aU.of z4 z2) Q (fun qW _ => ?_)
  ·intro s3
   unfold vJ
   refine Ws (Wr ?_)
   refine aj LT.lss y5 (On (Ws ?_))
   refine aB.cond Q (fun hc39 => ?_) (fun hc39 => ?_)
   ·refine aB.skip (Ws (aB.block (Ws (Wr ?_))))
    refine aH (Iv s3.1) y4 (aP (Iv s3.1) y4 (On (Ws (Wr ?_))))
    refine aH (Iv s3.1) y4 (aj LT.add af (aP (Iv (aJ (s3.1 + 1))) y4 (On (aB.block ?_))))
    refine aB.iy (id := 2) (vK g s3) (fun jo => ([(1,Cc (.pl 21 0)),(3,Cc (lo 22 jo.2.length)),(4,Iv s3.1),(5,Iv jo.1),(12,Iv g.aF),(13,Iv s3.1)],[(21,.row 26 [[iC g.aF,xF aG g.aA]]),(22,pR 40 aG jo.2)])) (fun uo => ([(1,Cc (.pl 21 0)),(3,Cc (lo 22 uo.2.length)),(12,Iv g.aF),(13,Iv uo.1)],[(21,.row 26 [[iC g.aF,xF aG g.aA]]),(22,pR 40 aG uo.2)])) ?_ (aU.of z6 z2) Q (fun uo _ => ?_)
    ·intro jo
     unfold vK
     refine Ws (Ws (Wr ?_))
     refine aH (Iv jo.1) y4 (cZ (iC g.aF) iq bM bG (aj LT.lss y5 (On (aB.cond Q (fun CP => ?_) (fun CP => ?_)))))
     ·refine aB.skip (Ws (aB.block (Ws (Wr ?_))))
      refine bV (bJ [iC g.aF,xF aG g.aA] Q bU ai aX) Q Q Q Q (aH (Iv s3.1) y4 (aH (Iv jo.1) y4 (aY fun je Jk => (aS.pure (bH [.agg [iC g.aF,xF aG g.aA],.c (iC s3.1),.c (iC jo.1)] (aBQ g s3.1 jo.1 je Jk) Vg (qx y4) J y3) z4 J Q Q (aj LT.eql af (On (aB.dZ (fun j60 => ([(1,Cc (.pl 21 0)),(3,Cc (lo 22 j60.length)),(4,Iv s3.1),(5,Iv jo.1),(12,Iv g.aF),(13,Iv s3.1)],[(21,.row 26 [[iC g.aF,xF aG g.aA]]),(22,pR 40 aG j60)])) ?_ (fun j60 _ => ?_))))))))
      ·refine aB.cond Q (fun XJ => ?_) (fun XJ => ?_)
       ·refine Wr (aH (Cc (lo 22 jo.2.length)) y4 (aH (Iv s3.1) y4 (aH (Iv jo.1) y4 (fA (LT.build [(0,.tmp 30,.c (iC s3.1)),(1,.tmp 31,.c (iC jo.1))] Q Q qE dw Q Q Q) Q Q Q Q (dF (LT.eY (n := 25) (enc := aG) [(0,.tmp 32,.agg [iC s3.1,iC jo.1])] [aK.mk s3.1 jo.1] Q Q dK dw Q Q Q Q (by decide) (fun _ => Q) Q) Q Q Q (aY fun u62 Yl => (kR (LT.jg (enc := aG) Q Q Q dK dw Q (by decide) (by decide) (fun _ => Q) (iG Yl)) Q Q Q Q Q Q (aP (Cc (lo 22 ((jo.2 ++ [aK.mk s3.1 jo.1]).length))) y4 (On (aZ Q z6 z2))))))))))
       ·refine aB.skip (aZ Q z6 z2)
      ·refine aB.blk (Wr ?_)
       refine aH (Iv jo.1) y4 (aj LT.add af (aP (Iv (aJ (jo.1 + 1))) y4 (On (aZ Q z6 z2))))
     ·refine aB.fH Q ⟨Q,aU.of z4 z2⟩
    ·refine aB.blk (Wr ?_)
     refine aj LT.add af (aH (Iv (aJ (uo.1 + 1))) y4 (On (aZ Q z4 z2)))
   ·refine aB.fH Q ⟨Q,aU.of z1 z1⟩
  ·refine Ws (Wr ?_)
   refine aH (Cc (lo 22 qW.length)) y4 (aP (Cc (lo 22 qW.length)) y4 (On (en [(2,Cc (lo 22 qW.length))] [(22,pR 40 aG qW)] z1 z1 (aB.ent (aU.mv 22 0 Q Q) (en [(2,Cc (lo 0 qW.length))] [(0,pR 40 aG qW)] z1 z1 (aB.ret (bD.mk (.inr Q) z1 z1 Q ⟨J,J⟩ ⟨bK.bg jF,J⟩)))))))
theorem aBZ (a : Int) (b : Int) : FT Tryz.prog (GH a b) 141 [.c (iC a),.c (iC b)] [] (fun (t : aK) => [.agg [iC t.A,iC t.B]]) (fun (t : aK) => []) [] := by
 refine FT.of [] Tryz.func141 Tryz.ntmps141 Q y2 ?_
 intro w0 U0 R0 g0
 unfold GH
 refine Ws (Wr ?_)
 refine dA (LT.alloc (n := 21) (cells := [iC 0,iC 0]) Q dw Q Q Q) Q Q (On (Ws (Wr ?_)))
 refine aH (Iv a) y4 (aH (Iv b) y4 (aj LT.min y5 (aH (Iv a) y4 (aH (Iv b) y4 (aj LT.max y5 (fA (LT.build [(0,.tmp 7,.c (iC (if b < a then b else a))),(1,.tmp 10,.c (iC (if a < b then b else a)))] Q Q qE dw Q Q Q) Q Q Q Q (bW (stA [iC (if b < a then b else a),iC (if a < b then b else a)] Q Q gV dM) Q Q Q Q Q (On (aB.ret (bD.mk (.inr Q) ⟨⟨_,_,_,Q,Q,Q,jO,dM,_,dQ gV⟩,J⟩ J Q ⟨⟨ak.sc,ak.sc,J⟩,J⟩ J))))))))))
theorem Tf (points : Int) (bars : (List aK)) : FT Tryz.prog (zf points bars) 171 [.c (iC points),.c (xF aG bars)] [] (fun (t : Int) => [.c (iC t)]) (fun (t : Int) => []) [] := by
 refine FT.of [] Tryz.func171 Tryz.ntmps171 Q y2 ?_
 intro w0 U0 R0 g0
 unfold zf
 refine Ws (Wr ?_)
 refine aP (Iv 0) au (On (Ws (Wr ?_)))
 refine aH (Iv points) y4 (aH (Cc (xF aG bars)) y4 (aY fun r1 hr1 => (aS.step (bH [.c (iC points),.c (xF aG bars),.c (iC 2),.c (iC 3)] (Fw.Fn.ren [(0,22),(1,23),(2,24)] (Ti points bars 2 3 r1 hr1) Q) OI (EU y4) J y3) ⟨Q,Q,Q,y2,y2,J⟩ J Q Q (ah (LT.WJ (c := (lo 24 r1.aI.length)) Q WN eU Q) Q Q Q (ah (LT.lX Q dO) Q Q Q (aP (Iv (r1.aI.length : Int)) y4 (On (aB.ret (bD.mk (.inr Q) z1 J Q ⟨ak.sc,J⟩ J)))))))))
theorem aBf (points : Int) (bars : (List aK)) (x : aK) : FT Tryz.prog (Dc points bars x) 140 [.c (iC points),.c (xF aG bars),.agg [iC x.A,iC x.B]] [] (fun (t : Bool) => [.c (bC t)]) (fun (t : Bool) => []) [] := by
 refine FT.of [] Tryz.func140 Tryz.ntmps140 Q y2 ?_
 intro w0 U0 R0 g0
 unfold Dc
 refine Ws (Wr ?_)
 refine dF (LT.box (n := 21) (v := (.agg [iC x.A,iC x.B])) Q dM (by exact Q)) Q Q Q (aP (Bv false) au (On (Ws (aB.draw mixed ?_))))
 refine bY (Iv points) y4 (qy (LT.eY (n := 22) (enc := aG) [] ([] : List aK) Q Q dK dw Q Q Q Q (by decide) (fun _ => Q) Q) Q Q (bY (Cc (xF aG bars)) y4 (aT.bind fun u1 hu1 => (ji (LT.sF (enc := aG) Q  Q dK dw Q (by decide) (by decide) (fun _ => Q) (iG hu1)) Q Q Q Q Q (fU (bJ [iC x.A,iC x.B] Q jO gV dM) Q Q Q Q (BL (LT.eY (n := 23) (enc := aG) [(0,.tmp 11,.agg [iC x.A,iC x.B])] [x] Q Q dK dw Q Q Q Q (by decide) (fun _ => Q) Q) Q Q Q (aT.bind fun u2 hu2 => (BM (LT.jg (enc := aG) Q Q Q dK dw Q (by decide) (by decide) (fun _ => Q) (iG hu2)) Q Q Q Q Q Q (aT.bind fun r3 hr3 => (aT.pure (cF [.c (iC points),.c (lo 22 (((([] : List aK) ++ bars) ++ [x]).length))] [(22,pR 40 aG ((([] : List aK) ++ bars) ++ [x]))] (Tf points ((([] : List aK) ++ bars) ++ [x]) r3 hr3) OB (.cons (.c (.same Q)) (.cons (.c (.dN Q Q)) .nil)) J y3) z3 z1 Q Q (bY (Iv points) y4 ?_)))))))))))
 refine bY (Cc (xF aG bars)) y4 (aT.bind fun r4 hr4 => (aT.pure (bH [.c (iC points),.c (xF aG bars)] (Tf points bars r4 hr4) OB (gK y2) J y3) z3 J Q Q (jG LT.gtr y5 (bf (LT.assign (v := (Bv (decide (r4 < r3)))) Q) Q Q Q (aT.nil (by kernel_rfl) (aB.ret (bD.mk (.inr Q) z1 J Q ⟨ak.sc,J⟩ J)))))))
end Go.Proofs.YtdmlaldifbmkpaaGreat
end
section
set_option linter.unusedVariables false
set_option linter.unusedSimpArgs false
set_option linter.unnecessarySimpa false
namespace Go.Fw
open Go.Proofs Go.Sort
section
variable {P : Program} {ρ : Go.Shelf.Ren} {α : Type} [Inhabited α]
theorem heap_sorted (ev : α → List Value) (k : Nat) (w : World) (b n : Nat) (d : Array α) (os : Array Obj) :
  (sortWorldK ev k w b 0 n d os).heap = w.heap.modify b (onCells (putCells id 0 (flatK ev k d))) ++ os := rfl
theorem Fn.aAv (L : SlLaysF0.n6 P ρ) {k g0 e : Nat} (aE : ∀ w,(isAgg (ρ.t 24)).run P w = .ok true w) (zE : ∀ w,(Go.sizeOf (ρ.t 24)).run P w = .ok k w) (hz : bQ P e = k) (enc : α → List PV) (ev : α → List Value)
  (hev : ∀ x,enc x = (ev x).map .sc) (hk : ∀ x,(ev x).length = k) (h1 : ∀ x,∀ v ∈ ev x,v.oneCell' = true) (cf : α → α → Int) (hO : SWO (ltOf cf)) (hT : ∀ x y,(ltOf cf) x y = false → (ltOf cf) y x = false → x = y)
  (eg : ∀ args w,(callFunc g0 args).run P w = .ok (.enter g0 args) w)
  (hcmp : ∀ x y W,Calls P g0 #[.agg (ev x).toArray,.agg (ev y).toArray] W fun e w' => e = .returned (.int .i64 (cf x y)) ∧ ∃ q os',w' = grow (W.drewN q) os') (xs : List α) (hsz : xs.length < 4611686018427387904) :
  Fn P (ρ.f 6) [.c (.loc 0 0 xs.length),.c (.fn g0 [])] [(0,.dU e (xs.map enc))] (.dI []) [(0,.dU e ((xs.mergeSort fun x y => !(ltOf cf) y x).map enc))] [0] [] := by
 intro R B g w vs hwf hlen hargs hus
 have h0 : dh P w R B g 0 e (dG (xs.map enc)) := hus (0,.dU e (xs.map enc)) (List.mem_singleton.2 rfl)
 obtain ⟨u0,hu0,_,hr0⟩ := hargs 0 _ rfl
 obtain ⟨u1,hu1,_,ls,hr1,hl1,_⟩ := hargs 1 _ rfl
 have hls : ls = [] := List.eq_nil_of_length_eq_zero hl1
 subst hls hr1
 have hvs : vs = [u0,.func (.func g0) #[] #[]] := by
  match vs,hlen with
  | [a,b],_ => simp at hu0 hu1; rw [hu0,hu1]
 subst hvs
 rcases hr0 with ⟨hn,_,hl,rfl⟩ | ⟨_,hne,_⟩ | ⟨b,cap,cur,e',hg,hh,hle,hcap,hcur,rfl⟩
 ·have hx : xs = [] := List.eq_nil_of_length_eq_zero hl
  subst hx
  refine (AnyF.slices_SortFunc_none L none 0 _ w).mono fun ex w' ⟨he,hw⟩ => ?_
  subst hw
  exact ⟨_,R,B,g,he,⟨hwf,fun _ h => h,fun _ h => h,rfl,rfl,rfl,Nat.le_refl _,fun _ _ _ => rfl,fun _ _ => rfl,fun n hn => by simp at hn,fun n _ _ b cur e h h2 => ⟨cur,h2,rfl⟩⟩,fun _ h => .inl h,⟨[],rfl,rfl,fun k x h => by simp at h⟩,fun p hp => by
   rw [List.mem_singleton.1 hp]
   exact .inl ⟨hn,by simp [dG]⟩⟩
 ·exact absurd rfl hne
 ·obtain ⟨hn,_⟩ | ⟨b',cur',hg',hh',hs,hle',hcell⟩ := h0
  ·rw [hg] at hn; cases hn
  rw [hg] at hg'
  injection hg' with hb; subst hb
  rw [hh] at hh'
  injection hh' with hh'; injection hh' with hc he
  subst hc he
  have hbl : b < w.heap.size := (hwf.own 0 b hg).2
  have hget : ∀ j i,j < xs.length → i < k → ∃ x,xs[j]? = some x ∧ cur[j * k + i]? = (ev x)[i]? := fun j i hj hi => by
   have hx : xs[j]? = some xs[j] := List.getElem?_eq_getElem hj
   have hi' : i < (ev xs[j]).length := by rw [hk]; exact hi
   obtain ⟨u,h2,h3⟩ := hcell j i ((enc xs[j]).map .pv) (.pv (.sc (ev xs[j])[i])) (by simp [dG,hx]) (by simp [hev,hi'])
   refine ⟨_,hx,?_⟩
   rw [← hz,h2,List.getElem?_eq_getElem hi']
   obtain ⟨_,h4⟩ := h3
   cases h4
   rfl
  have hH : HoldsK ev k w b 0 xs.toArray := fun t ht => by
   rw [size_flatK] at ht
   have k0 : 0 < k := Nat.pos_of_ne_zero fun h => by subst h; simp at ht
   have ht' : t < xs.length * k := by simpa using ht
   have hj : t / k < xs.length := (Nat.div_lt_iff_lt_mul k0).2 ht'
   have hi : t % k < k := Nat.mod_lt _ k0
   obtain ⟨x,hx,h2⟩ := hget _ _ hj hi
   rw [Nat.div_add_mod'] at h2
   refine ⟨?_,?_⟩
   ·unfold World.cell?
    simp only [hh,Nat.zero_add,Option.isSome_none,Bool.false_eq_true,if_false]
    rw [get_flatK _ _ _ _ ht,h2]
    have hx' : xs.toArray[t / k]! = x := by
     rw [getElem!_pos xs.toArray (t / k) (by simpa using hj)]
     rw [List.getElem?_eq_getElem hj] at hx
     injection hx
    rw [hx',id,getElem!_pos (ev x) (t % k) (by rw [hk]; exact hi),List.getElem?_eq_getElem]
   ·unfold World.frozen?
    simp [hh]
  have hsl : (Value.slice (some ⟨b,0 * bQ P e',none⟩) xs.length cap) = .slice (some ⟨b,0,none⟩) xs.toArray.size cap := by simp
  rw [hsl]
  refine (AnyQ.slices_SortFunc_total L k aE zE ev hk h1 cf hO g0 #[] b 0 cap xs.toArray w eg (fun _ _ _ _ x y => hcmp x y _) hH hbl (by simpa using hsz) hT).mono fun ex w' ⟨he,n,os,hw⟩ => ?_
  have hheap : w'.heap = w.heap.modify b (onCells (putCells id 0 (flatK ev k (xs.mergeSort fun x y => !(ltOf cf) y x).toArray))) ++ os := by rw [hw,heap_sorted]
  have hat : ∀ c,c < w.heap.size → c ≠ b → w'.heap[c]? = w.heap[c]? := fun c hc hne => by
   rw [hheap,Array.getElem?_append_left (by simpa using hc),Array.getElem?_modify,if_neg (Ne.symm hne)]
  have PG : w'.heap[b]? = some (.cells (putCells id 0 (flatK ev k (xs.mergeSort fun x y => !(ltOf cf) y x).toArray) cur) e' (0,0)) := by
   rw [hheap,Array.getElem?_append_left (by simpa using hbl),Array.getElem?_modify,if_pos rfl,hh]
   rfl
  have hsize : w.heap.size ≤ w'.heap.size := by rw [hheap]; simp
  refine ⟨_,R,B,g,he,⟨hwf.mono hsize,fun _ h => h,fun _ h => h,by rw [hw]; rfl,by rw [hw]; rfl,by rw [hw]; rfl,hsize,fun c hc hno => hat c hc fun h => hno 0 (List.mem_singleton.2 rfl) (by rw [h]; exact GS.qc hg),fun _ _ => rfl,fun n hn => by simp at hn,fun m hm _ c cu ee hc h2 => ?_⟩,fun _ h => .inl h,⟨[],rfl,rfl,fun k x h => by simp at h⟩,fun p hp => ?_⟩
  ·rw [List.mem_singleton.1 hm] at hc
   have hcb := GS.Wi hg hc
   subst hcb
   rw [hh] at h2
   injection h2 with h2; injection h2 with h2 h3
   subst h2 h3
   exact ⟨_,PG,by simp [putCells]⟩
  ·rw [List.mem_singleton.1 hp]
   have hlm : (xs.mergeSort fun x y => !(ltOf cf) y x).length = xs.length := List.length_mergeSort xs
   refine .inr ⟨b,_,hg,PG,fun cs hcs => ?_,?_,fun j i cs x hj hi => ?_⟩
   ·simp only [dG,List.mem_map] at hcs
    obtain ⟨_,⟨y,_,rfl⟩,rfl⟩ := hcs
    simp [hev,hk,hz]
   ·have : (dG (List.map enc (xs.mergeSort fun x y => !(ltOf cf) y x))).length = (dG (xs.map enc)).length := by simp [dG,hlm]
    rw [this]
    simpa [putCells] using hle'
   ·simp only [dG,List.getElem?_map] at hj
    cases hy : (xs.mergeSort fun x y => !(ltOf cf) y x)[j]? with
    | none => rw [hy] at hj; cases hj
    | some y =>
     rw [hy] at hj
     injection hj with hj
     subst hj
     obtain ⟨hjl,hye⟩ := List.getElem?_eq_some_iff.1 hy
     simp only [hev,List.map_map,List.getElem?_map] at hi
     cases hv : (ev y)[i]? with
     | none => rw [hv] at hi; cases hi
     | some v =>
      rw [hv] at hi
      injection hi with hi
      subst hi
      obtain ⟨hil,Yt⟩ := List.getElem?_eq_some_iff.1 hv
      rw [hk] at hil
      have hlt : j * k + i < xs.length * k := by
       have := Nat.mul_le_mul_right k (show j + 1 ≤ xs.length by omega)
       rw [Nat.add_mul,Nat.one_mul] at this
       omega
      have e1 : (j * k + i) / k = j := (blk_iff k j _ (by omega)).1 ⟨by omega,by omega⟩
      have e2 : (j * k + i) % k = i := by rw [Nat.mod_eq_sub_div_mul,e1]; omega
      have hcs : (dG (xs.map enc)).length = xs.length := by simp [dG]
      rw [hcs,hz] at hle'
      have hone : v.oneCell' = true := h1 y v (List.mem_of_getElem? hv)
      refine ⟨v,?_,hone,.sc hone⟩
      rw [hz]
      simp only [putCells,Array.getElem?_mapIdx]
      rw [Array.getElem?_eq_getElem (by omega),Option.map_some,if_pos ⟨by omega,by rw [size_flatK]; simpa [hlm] using hlt⟩]
      congr 1
      rw [Nat.sub_zero,get_flatK _ _ _ _ (by simpa [hlm] using hlt),e1,e2,getElem!_pos _ j (by simpa using hjl)]
      simp only [id,List.getElem_toArray,hye]
      rw [getElem!_pos (ev y) i (by rw [hk]; exact hil),Yt]
end
end Go.Fw
end
section
set_option linter.unusedVariables false
set_option linter.unusedSimpArgs false
set_option linter.unnecessarySimpa false
namespace Go.Proofs
open Go.Shelf
def Tryz.sortL_ren : Go.Shelf.Ren := ⟨fun | 6 => 142 | 15 => 173 | 14 => 172 | 28 => 199 | 29 => 200 | 20 => 191 | 21 => 192 | 22 => 193 | 23 => 194 | 24 => 195 | 25 => 196 | 26 => 197 | 27 => 198 | 46 => 210 | 47 => 211 | 48 => 212 | 49 => 213 | 50 => 214 | 57 => 218 | n => n, fun | 22 => 24 | 24 => 40 | 25 => 106 | 3 => 3 | 39 => 129 | 0 => 0 | 53 => 150 | 55 => 152 | 4 => 4 | 46 => 143 | 45 => 142 | 50 => 147 | 5 => 5 | 9 => 9 | 66 => 160 | 70 => 164 | 76 => 170 | 77 => 101 | n => n, fun | n => n⟩
theorem Tryz.sortL : Go.Proofs.SlLaysF0.n6 Tryz.prog Tryz.sortL_ren where
  mixed := by kernel_rfl
  f6 := ⟨Tryz.f142.name, by kernel_rfl, Tryz.func142.trans (congrArg some (by kernel_rfl))⟩
  f14 := ⟨Tryz.f172.name, by kernel_rfl, Tryz.func172.trans (congrArg some (by kernel_rfl))⟩
  f15 := Tryz.func173.trans (congrArg some (by kernel_rfl))
  f20 := ⟨Tryz.f191.name, by kernel_rfl, Tryz.func191.trans (congrArg some (by kernel_rfl))⟩
  f21 := ⟨Tryz.f192.name, by kernel_rfl, Tryz.func192.trans (congrArg some (by kernel_rfl))⟩
  f22 := ⟨Tryz.f193.name, by kernel_rfl, Tryz.func193.trans (congrArg some (by kernel_rfl))⟩
  f23 := ⟨Tryz.f194.name, by kernel_rfl, Tryz.func194.trans (congrArg some (by kernel_rfl))⟩
  f24 := ⟨Tryz.f195.name, by kernel_rfl, Tryz.func195.trans (congrArg some (by kernel_rfl))⟩
  f25 := ⟨Tryz.f196.name, by kernel_rfl, Tryz.func196.trans (congrArg some (by kernel_rfl))⟩
  f26 := ⟨Tryz.f197.name, by kernel_rfl, Tryz.func197.trans (congrArg some (by kernel_rfl))⟩
  f27 := ⟨Tryz.f198.name, by kernel_rfl, Tryz.func198.trans (congrArg some (by kernel_rfl))⟩
  f28 := Tryz.func199.trans (congrArg some (by kernel_rfl))
  f29 := Tryz.func200.trans (congrArg some (by kernel_rfl))
  f46 := ⟨Tryz.f210.name, by kernel_rfl, Tryz.func210.trans (congrArg some (by kernel_rfl))⟩
  f47 := Tryz.func211.trans (congrArg some (by kernel_rfl))
  f48 := Tryz.func212.trans (congrArg some (by kernel_rfl))
  f49 := ⟨Tryz.f213.name, by kernel_rfl, Tryz.func213.trans (congrArg some (by kernel_rfl))⟩
  f50 := ⟨Tryz.f214.name, by kernel_rfl, Tryz.func214.trans (congrArg some (by kernel_rfl))⟩
  f57 := ⟨Tryz.f218.name, by kernel_rfl, Tryz.func218.trans (congrArg some (by kernel_rfl))⟩
  t0 := Tryz.underlying0
  a0 := Tryz.isAgg0
  z0 := Tryz.sizeOf0
  v0 := Tryz.zeroValue0
  t3 := Tryz.underlying3
  a3 := Tryz.isAgg3
  z3 := Tryz.sizeOf3
  v3 := Tryz.zeroValue3
  t4 := Tryz.underlying4
  a4 := Tryz.isAgg4
  z4 := Tryz.sizeOf4
  v4 := Tryz.zeroValue4
  t5 := Tryz.underlying5
  a5 := Tryz.isAgg5
  z5 := Tryz.sizeOf5
  v5 := Tryz.zeroValue5
  t9 := Tryz.underlying9
  a9 := Tryz.isAgg9
  z9 := Tryz.sizeOf9
  v9 := Tryz.zeroValue9
  t22 := Tryz.underlying24
  a22 := Tryz.isAgg24
  z22 := Tryz.sizeOf24
  v22 := Tryz.zeroValue24
  t25 := Tryz.underlying106
  a25 := Tryz.isAgg106
  z25 := Tryz.sizeOf106
  v25 := Tryz.zeroValue106
  t39 := Tryz.underlying129
  a39 := Tryz.isAgg129
  z39 := Tryz.sizeOf129
  v39 := Tryz.zeroValue129
  t45 := Tryz.underlying142
  a45 := Tryz.isAgg142
  z45 := Tryz.sizeOf142
  v45 := Tryz.zeroValue142
  t46 := Tryz.underlying143
  a46 := Tryz.isAgg143
  z46 := Tryz.sizeOf143
  v46 := Tryz.zeroValue143
  t50 := Tryz.underlying147
  a50 := Tryz.isAgg147
  z50 := Tryz.sizeOf147
  v50 := Tryz.zeroValue147
  t53 := Tryz.underlying150
  a53 := Tryz.isAgg150
  z53 := Tryz.sizeOf150
  v53 := Tryz.zeroValue150
  t55 := Tryz.underlying152
  a55 := Tryz.isAgg152
  z55 := Tryz.sizeOf152
  v55 := Tryz.zeroValue152
  t66 := Tryz.underlying160
  a66 := Tryz.isAgg160
  z66 := Tryz.sizeOf160
  v66 := Tryz.zeroValue160
  t70 := Tryz.underlying164
  a70 := Tryz.isAgg164
  z70 := Tryz.sizeOf164
  v70 := Tryz.zeroValue164
  t76 := Tryz.underlying170
  a76 := Tryz.isAgg170
  z76 := Tryz.sizeOf170
  v76 := Tryz.zeroValue170
  t77 := Tryz.underlying101
  a77 := Tryz.isAgg101
  z77 := Tryz.sizeOf101
  v77 := Tryz.zeroValue101
end Go.Proofs
namespace Go.Proofs.YtdmlaldifbmkpaaGreat
open Go Go.Fw Go.Sort
instance aCH : Inhabited aK := ⟨⟨0, 0⟩⟩
def FN (x : aK) : List Value := [.int .i64 x.A, .int .i64 x.B]
theorem F9 (x y : aK) : ltOf pO x y = decide (x.A < y.A ∨ x.A = y.A ∧ x.B < y.B) := by
  unfold ltOf pO
  by_cases h1 : x.A < y.A
  · simp [h1]
  · by_cases h2 : y.A < x.A
    · have h3 : ¬ x.A = y.A := by omega
      simp [h1, h2, h3]
    · have h3 : x.A = y.A := by omega
      by_cases h4 : x.B < y.B
      · simp [h3, h4]
      · by_cases h5 : y.B < x.B <;> simp [h3, h4, h5]
theorem aA9 : SWO (ltOf pO) where
  irrefl x := by rw [F9]; simp
  trans x y z h1 h2 := by rw [F9] at *; simp only [decide_eq_true_eq] at *; omega
  ntrans x y z h1 h2 := by rw [F9] at *; simp only [decide_eq_false_iff_not] at *; omega
theorem aBF (x y : aK) (h1 : ltOf pO x y = false) (h2 : ltOf pO y x = false) : x = y := by
  rw [F9] at *
  simp only [decide_eq_false_iff_not] at *
  obtain ⟨a, b⟩ := x
  obtain ⟨c, d⟩ := y
  simp only at *
  obtain rfl : a = c := by omega
  obtain rfl : b = d := by omega
  rfl
def uw (a b : Int) : Int := bif decide (a < b) then -1 else bif decide (b < a) then 1 else 0
set_option maxHeartbeats 1000000 in
set_option maxRecDepth 100000 in
theorem Oe (a b : Int) (W : World) : Calls Tryz.prog 169 #[.int .i64 a, .int .i64 b] W fun e w' => e = .returned (.int .i64 (uw a b)) ∧ w' = W := by
  unfold uw
  by_cases h1 : a < b
  · simp only [h1, decide_true, cond_true]
    go_enter Tryz.func169, Tryz.ntmps169
    go_wp2
    go_ret
    exact ⟨rfl, rfl⟩
  · by_cases h2 : b < a
    · simp only [h1, h2, decide_true, decide_false, cond_true, cond_false]
      go_enter Tryz.func169, Tryz.ntmps169
      go_wp2
      go_ret
      exact ⟨rfl, rfl⟩
    · simp only [h1, h2, decide_false, cond_false]
      go_enter Tryz.func169, Tryz.ntmps169
      go_wp2
      go_ret
      exact ⟨rfl, rfl⟩
theorem Oa (x y : aK) : pO x y = if uw x.A y.A ≠ 0 then uw x.A y.A else uw x.B y.B := by
  unfold pO uw
  by_cases h1 : x.A < y.A
  · simp [h1]
  · by_cases h2 : y.A < x.A
    · simp [h1, h2]
    · simp [h1, h2]
set_option maxHeartbeats 4000000 in
set_option maxRecDepth 100000 in
theorem Vp (a b c d r s : Int) (hr : r ≠ 0) (hA : ∀ W, Calls Tryz.prog 169 #[.int .i64 a, .int .i64 c] W fun e w' => e = .returned (.int .i64 r) ∧ w' = W) (W : World) :
    Calls Tryz.prog 136 #[.agg #[.int .i64 a, .int .i64 b], .agg #[.int .i64 c, .int .i64 d]] W fun e w' => e = .returned (.int .i64 r) ∧ ∃ q os', w' = grow (W.drewN q) os' := by
  go_enter Tryz.func136, Tryz.ntmps136
  go_wp2_with (go_at_call 169; refine (hA _).mono ?_; rintro e w' ⟨rfl, rfl⟩)
  go_ret
  exact ⟨rfl, 0, _, by rw [alloc_eq_grow, alloc_eq_grow, grow_grow]; rfl⟩
set_option maxHeartbeats 4000000 in
set_option maxRecDepth 100000 in
theorem Vq (F : Int → Int → Int) (hC : ∀ u v W, Calls Tryz.prog 169 #[.int .i64 u, .int .i64 v] W fun e w' => e = .returned (.int .i64 (F u v)) ∧ w' = W) (a b c d : Int) (hF : F a c = 0) (W : World) :
    Calls Tryz.prog 136 #[.agg #[.int .i64 a, .int .i64 b], .agg #[.int .i64 c, .int .i64 d]] W fun e w' => e = .returned (.int .i64 (F b d)) ∧ ∃ q os', w' = grow (W.drewN q) os' := by
  go_enter Tryz.func136, Tryz.ntmps136
  go_wp2_with (go_at_call 169; refine (hC _ _ _).mono ?_; rintro e w' ⟨rfl, rfl⟩; try rw [hF])
  go_ret
  exact ⟨rfl, 0, _, by rw [alloc_eq_grow, alloc_eq_grow, grow_grow]; rfl⟩
theorem Vo (x y : aK) (W : World) : Calls Tryz.prog 136 #[.agg (FN x).toArray, .agg (FN y).toArray] W fun e w' => e = .returned (.int .i64 (pO x y)) ∧ ∃ q os', w' = grow (W.drewN q) os' := by
  have hA := fun W => Oe x.A y.A W
  by_cases h : uw x.A y.A = 0
  · rw [Oa, if_neg (by simp [h])]
    exact Vq uw Oe _ _ _ _ h W
  · rw [Oa, if_pos h]
    exact Vp _ _ _ _ _ 0 h hA W
set_option maxRecDepth 100000 in
theorem aAu (x t : List aK) (h : Di x = some t) : Fw.Fn Tryz.prog 142 [.c (.loc 0 0 x.length), .c (.fn 136 [])] [(0, pR 40 aG x)] (.dI []) [(0, pR 40 aG t)] [0] [] := by
  unfold Di at h
  by_cases hl : x.length ≤ 4096
  · rw [decide_eq_true hl] at h
    injection h with h
    subst h
    exact Fw.Fn.aAv Tryz.sortL (k := 2) (e := 40) Tryz.isAgg40 Tryz.sizeOf40 (by kernel_rfl) aG FN (fun _ => rfl) (fun _ => rfl) (fun x v hv => by simp [FN] at hv; rcases hv with rfl | rfl <;> rfl) pO aA9 aBF (enters_of Tryz.func136 (by kernel_rfl) rfl) (fun x y W => Vo x y W) x (by omega)
  · rw [decide_eq_false hl] at h; cases h
end Go.Proofs.YtdmlaldifbmkpaaGreat
end
section
set_option linter.unusedVariables false
set_option linter.unusedSimpArgs false
set_option linter.unnecessarySimpa false
set_option maxRecDepth 100000
set_option maxHeartbeats 8000000
open Go Go.Fw
namespace Go.Proofs.YtdmlaldifbmkpaaGreat
theorem aBT (g : aQ) (a : Int) (b : Int) : FT Tryz.prog (DU g a b) 86 [.agg [iC g.aF,xF aG g.aA],.c (iC a),.c (iC b)] [] (fun (t : Bool) => [.c (bC t)]) (fun (t : Bool) => []) [] := by
 refine FT.of [] Tryz.func86 Tryz.ntmps86 Q y2 ?_
 intro w0 U0 R0 g0
 unfold DU
 refine Ws (Wr ?_)
 refine dF (LT.box (n := 21) (v := (.agg [iC g.aF,xF aG g.aA])) Q aX (by exact Q)) Q Q Q (aP (Bv false) au (On (Ws ?_)))
 refine aB.dZ (fun j10 => ([(6,Bv j10)],[])) ?_ (fun j10 _ => ?_)
 ·refine aB.draw mixed (fU (bJ [iC g.aF,xF aG g.aA] Q bU ai aX) Q Q Q Q (aT.bind fun r11 CY => (aT.pure (bH [.agg [iC g.aF,xF aG g.aA]] (yc g r11 CY) wR (jL y2) J y3) z2 J Q Q (bY (Bv r11) y4 (aT.split (fun l9 => ?_) (fun l9 => ?_))))))
  ·refine fU (bJ [iC g.aF,xF aG g.aA] Q bU ai aX) Q Q (gH l9 Q Q) Q (jD (Iv a) l9 y5 (aT.bind fun r13 tH => (aT.pure (bH [.agg [iC g.aF,xF aG g.aA],.c (iC a)] (TT g a r13 tH) N7 (wE y3) J y3) z3 J (gH l9 Q Q) Q (jE (Bv r13) l9 y5 (bY (Bv r13) y4 (aT.split (fun jJ => ?_) (fun jJ => ?_)))))))
   ·refine fU (bJ [iC g.aF,xF aG g.aA] Q bU ai aX) Q Q (gH jJ Q Q) Q (jD (Iv b) jJ y5 (aT.bind fun gq CZ => (aT.pure (bH [.agg [iC g.aF,xF aG g.aA],.c (iC b)] (TT g b gq CZ) N7 (wE y3) J y3) z3 J (gH jJ Q Q) Q (jE (Bv gq) jJ y5 (bY (Bv gq) y4 (aT.split (fun hb16 => ?_) (fun hb16 => ?_)))))))
    ·refine jD (Iv a) hb16 y5 (jD (Iv b) hb16 y5 (ku LT.eql hb16 y6 (jD (Bv (a == b)) hb16 y5 (aT.split (fun mW => ?_) (fun mW => ?_)))))
     ·refine ax mW y3 (ax mW y3 (ax mW y3 (ax mW y3 (ax mW y3 (ax mW y3 (ax mW y3 (ax mW y3 (ax mW y3 (eG (LT.oH (v := (Bv true)) Q mW) Q y2 (gH hb16 Q Q) Q (jE (Bv true) hb16 y5 (bf (LT.assign (v := (Bv true)) Q) Q Q Q ?_)))))))))))
      refine aT.nil (by kernel_rfl) (aZ Q z1 J)
     ·refine kT (iC g.aF) iq bM mW fB (kT (xF aG g.aA) dP dY mW fB (jD (Iv a) mW y5 (jD (Iv b) mW y5 (aT.bind fun fJ qi => (aT.pure (bH [.c (iC a),.c (iC b)] (aBZ a b fJ qi) U3 (gK y2) J y3) z3 J (gH mW Q Q) Q (aT.bind fun fE tJ => (aT.pure (bH [.c (iC g.aF),.c (xF aG g.aA),.agg [iC fJ.A,iC fJ.B]] (aBf g.aF g.aA fJ fE tJ) U2 (aAh y4) J y3) z4 J (gH mW Q Q) Q (bf (LT.not Q) Q (gH mW Q Q) Q (eG (LT.oG (v := (Bv (!fE))) Q mW) Q Q (gH hb16 Q Q) Q ?_)))))))))
      refine jE (Bv (!fE)) hb16 y5 (bf (LT.assign (v := (Bv (!fE))) Q) Q Q Q (aT.nil (by kernel_rfl) (aZ Q z1 J)))
    ·refine ax hb16 y3 (ax hb16 y3 (ax hb16 y3 (ax hb16 y3 (aW y3 (aW y3 (aW y3 (aW y3 (aW y3 (aW y3 (aW y3 (aW y3 ?_)))))))))))
     refine aW y3 (ax hb16 y3 (jX (Bv false) hb16 af (bf (LT.assign (v := (Bv false)) Q) Q Q Q (aT.nil (by kernel_rfl) (aZ Q z1 J)))))
   ·refine ax jJ y3 (ax jJ y3 (ax jJ y3 (jX (Bv false) jJ af (bY (Bv false) y4 (aW y3 (aW y3 (aW y3 (aW y3 (aW y3 (aW y3 (aW y3 ?_)))))))))))
    refine aW y3 (aW y3 (aW y3 (aW y3 (aW y3 (aW y3 (aW y3 (jX (Bv false) Q af (bf (LT.assign (v := (Bv false)) Q) Q Q Q (aT.nil (by kernel_rfl) (aZ Q z1 J))))))))))
  ·refine ax l9 y3 (ax l9 y3 (ax l9 y3 (jX (Bv false) l9 af (bY (Bv false) y4 (aW y3 (aW y3 (aW y3 (jX (Bv false) Q af (bY (Bv false) y4 (aW y3 (aW y3 ?_)))))))))))
   refine aW y3 (aW y3 (aW y3 (aW y3 (aW y3 (aW y3 (aW y3 (aW y3 (aW y3 (aW y3 (aW y3 (aW y3 ?_)))))))))))
   refine jX (Bv false) Q af (bf (LT.assign (v := (Bv false)) Q) Q Q Q (aT.nil (by kernel_rfl) (aZ Q z1 J)))
 ·refine aB.ret (bD.mk (.inr Q) z1 J Q ⟨ak.sc,J⟩ J)
theorem aBk (x : List aK) : ∀ t,Di x = some t → Fw.Fn Tryz.prog 142 [.c (.loc 0 0 x.length),.c (.fn 136 [])] [(0,pR 40 aG x)] (.dI []) [(0,pR 40 aG t)] [0] [] := fun t h => aAu x t h
theorem aBg (g : aQ) (l : (List aK)) : FT Tryz.prog (Df g l) 87 [.agg [iC g.aF,xF aG g.aA],.c (xF aG l)] [] (fun (t : aQ) => [.agg [iC t.aF,lo 0 t.aA.length]]) (fun (t : aQ) => [(0,pR 40 aG t.aA)]) [0] := by
 refine FT.of [] Tryz.func87 Tryz.ntmps87 Q y2 ?_
 intro w0 U0 R0 g0
 unfold Df
 refine Ws (Wr ?_)
 refine dF (LT.box (n := 21) (v := (.agg [iC g.aF,xF aG g.aA])) Q aX (by exact Q)) Q Q Q (dA (LT.alloc (n := 22) (cells := [iC 0,sC aO]) Q fK Q Q Q) Q Q (On (Ws (Wr ?_))))
 refine bV (bJ [iC g.aF,xF aG g.aA] Q bU ai aX) Q Q Q Q (aY fun r1 hr1 => (aS.step (bH [.agg [iC g.aF,xF aG g.aA]] (Fw.Fn.ren [(0,24)] (MN g r1 hr1) Q) Ii (jL y2) J y3) z2 J Q Q (dA (LT.alloc (n := 25) (cells := [iC 0,sC aO]) Q fK Q Q Q) Q Q (bW (stA [iC r1.aF,lo 24 r1.aA.length] Q Q ai aX) Q Q Q Q Q (On (Ws ?_))))))
 refine en [(1,Cc (xF aG l)),(4,Cc (.pl 22 0)),(5,Cc (.pl 25 0))] [(22,.row 26 [[iC 0,sC aO]]),(24,pR 40 aG r1.aA),(25,.row 26 [[iC r1.aF,lo 24 r1.aA.length]])] z3 z3 (Wr (cZ (lo 24 r1.aA.length) dP dY bG (aH (Cc (xF aG l)) y4 (aY fun u2 hu2 => (bW (LT.sF (enc := aG) Q  Q dK dw Q (by decide) (by decide) (fun _ => Q) (iG hu2)) Q Q Q Q Q (ah (LT.ig Q dP) Q Q Q (bW (mO (.c (lo 24 ((r1.aA ++ l).length))) [iC r1.aF,lo 24 ((r1.aA ++ l).length)] Q Q tN uT) Q Q Q Q Q (On (Ws (Wr ?_))))))))))
 refine cZ (lo 24 ((r1.aA ++ l).length)) dP dY bG (aY fun r3 hr3 => (aS.step (bH [.c (lo 24 ((r1.aA ++ l).length)),.c (.fn 136 [])] (Fw.Fn.ren [(0,24)] (aBk (r1.aA ++ l) r3 hr3) Q) U4 (gK y2) z1 y3) z3 z1 Q Q (On (Ws ?_))))
 refine en [(4,Cc (.pl 22 0)),(5,Cc (.pl 25 0))] [(22,.row 26 [[iC 0,sC aO]]),(24,pR 40 aG r3),(25,.row 26 [[iC r1.aF,lo 24 ((r1.aA ++ l).length)]])] z2 z3 (Wr (bV (bJ [iC r1.aF,lo 24 ((r1.aA ++ l).length)] Q bU ai aX) Q Q Q Q (bW (stA [iC r1.aF,lo 24 ((r1.aA ++ l).length)] Q Q ai aX) Q Q Q Q Q (On (aB.bind fun u4 Jz => (en [(4,Cc (.pl 22 0))] [(22,.row 26 [[iC r1.aF,lo 24 ((r1.aA ++ l).length)]]),(24,pR 40 aG r3)] z1 z2 (aB.ent (aU.mv 24 0 Q Q) (en [(4,Cc (.pl 22 0))] [(0,pR 40 aG r3),(22,.row 26 [[iC r1.aF,lo 0 r3.length]])] z1 ⟨Q,congrArg (fun l1 => (some (Ob.row 26 [[iC r1.aF,lo 0 l1]]) : Option Ob)) (same_eq Jz),J⟩ (aB.ret (bD.mk (.inr Q) ⟨⟨_,_,_,Q,Q,Q,bU,aX,_,dQ ai⟩,J⟩ z1 Q ⟨⟨ak.sc,J,J⟩,J⟩ ⟨bK.bg jF,J⟩))))))))))
theorem aBR (g : aQ) : FT Tryz.prog (DR g) 18 [.agg [iC g.aF,xF aG g.aA]] [] (fun (t : ((List aK) × Bool)) => [.c (lo 0 t.1.length),.c (bC t.2)]) (fun (t : ((List aK) × Bool)) => [(0,pR 40 aG t.1)]) [0] := by
 refine FT.of [] Tryz.func18 Tryz.ntmps18 Q y2 ?_
 intro w0 U0 R0 g0
 unfold DR
 refine Ws (Wr ?_)
 refine dF (LT.box (n := 21) (v := (.agg [iC g.aF,xF aG g.aA])) Q aX (by exact Q)) Q Q Q (aP (Cc (sC aO)) au (aP (Bv false) au (On (Ws (Wr ?_)))))
 refine dA (LT.eY (n := 22) (enc := aG) [] ([] : List aK) Q Q dK dw Q Q Q Q (by decide) (fun _ => Q) Q) Q Q (aP (Cc (lo 22 (([] : List aK).length))) y4 (On (Ws (Wr ?_))))
 refine bV (bJ [iC g.aF,xF aG g.aA] Q bU ai aX) Q Q Q Q (aY fun r1 hr1 => (aS.step (bH [.agg [iC g.aF,xF aG g.aA]] (Fw.Fn.ren [(0,24)] (MN g r1 hr1) Q) Ii (jL y2) J y3) z2 J Q Q (dA (LT.alloc (n := 25) (cells := [iC 0,sC aO]) Q fK Q Q Q) Q Q (bW (stA [iC r1.aF,lo 24 r1.aA.length] Q Q ai aX) Q Q Q Q Q (On (Ws (Ws ?_)))))))
 refine en [(1,Cc (.pl 21 0)),(4,Cc (lo 22 (([] : List aK).length))),(5,Cc (.pl 25 0))] [(21,.row 26 [[iC g.aF,xF aG g.aA]]),(22,pR 40 aG ([] : List aK)),(24,pR 40 aG r1.aA),(25,.row 26 [[iC r1.aF,lo 24 r1.aA.length]])] z3 z4 (Wr (bV (bJ [iC g.aF,xF aG g.aA] Q bU ai aX) Q Q Q Q (aY fun r2 hr2 => (aS.step (bH [.agg [iC g.aF,xF aG g.aA]] (Fw.Fn.ren [(0,27)] (TY g r2 hr2) Q) OO (jL y2) J y3) z2 J Q Q (ah (LT.lX Q dK) Q Q Q (aH (Iv 0) au (On (aB.block ?_))))))))
 refine aB.iy (id := 0) (zS r2) (fun s3 => ([(4,Cc (lo 22 s3.2.1.length)),(5,Cc (.pl 25 0)),(12,Cc (lo 27 r2.length)),(13,Iv (r2.length : Int)),(14,Iv s3.1)],[(22,pR 40 aG s3.2.1),(24,pR 40 aG s3.2.2.2),(25,.row 26 [[iC s3.2.2.1,lo 24 s3.2.2.2.length]]),(27,pR 40 aG r2)])) (fun b32 => ([(4,Cc (lo 22 b32.1.length)),(5,Cc (.pl 25 0))],[(22,pR 40 aG b32.1),(24,pR 40 aG b32.2.1),(25,.row 26 [[iC b32.2.2,lo 24 b32.2.1.length]])])) ?_ (aU.of z5 z4) Q (fun b32 _ => ?_)
 ·intro s3
  unfold zS
  refine Ws (Wr ?_)
  refine aj LT.lss y5 (On (Ws ?_))
  refine aB.cond Q (fun Bz => ?_) (fun Bz => ?_)
  ·refine aB.skip (Ws (aB.block (Ws (Wr ?_))))
   refine aY fun x34 hx34 => (lC (LT.gy Q Q iJ hx34) Q Q Q Q Q (bV (LT.Ht Q jO (dQ gV) dM hx34 (by exact Q) (by exact Q)) Q Q Q Q (dA (LT.alloc (n := 28) (cells := [iC 0,iC 0]) Q dw Q Q Q) Q Q (bW (stA [iC x34.A,iC x34.B] Q Q gV dM) Q Q Q Q Q (On (Ws ?_))))))
   refine aB.dZ (fun j37 => ([(4,Cc (lo 22 s3.2.1.length)),(5,Cc (.pl 25 0)),(7,Cc (.pl 28 0)),(12,Cc (lo 27 r2.length)),(13,Iv (r2.length : Int)),(14,Iv s3.1),(30,Bv j37)],[(22,pR 40 aG s3.2.1),(24,pR 40 aG s3.2.2.2),(25,.row 26 [[iC s3.2.2.1,lo 24 s3.2.2.2.length]]),(27,pR 40 aG r2),(28,.row 40 [[iC x34.A,iC x34.B]])])) ?_ (fun j37 _ => ?_)
   ·refine Wr (cZ (lo 24 s3.2.2.2.length) dP dY bG (ah (LT.lX Q dK) Q Q Q (aj LT.lss af (aH (Bv (decide ((s3.2.2.2.length : Int) < 24))) y4 (aS.split (fun jy => ?_) (fun jy => ?_))))))
    ·refine bV (bJ [iC s3.2.2.1,lo 24 s3.2.2.2.length] Q bU ai aX) Q Q (gH jy Q Q) Q (iU (iC x34.A) iO bM jy fB (iU (iC x34.B) jd bM jy fB (aY fun Gu YB => (aS.pure (cF [.agg [iC s3.2.2.1,lo 24 s3.2.2.2.length],.c (iC x34.A),.c (iC x34.B)] [(24,pR 40 aG s3.2.2.2)] (aBT (aQ.mk s3.2.2.1 s3.2.2.2) x34.A x34.B Gu YB) Va (.cons (.agg (.cons (.same Q) (.cons (.dN Q Q) .nil))) (.cons (.c (.same Q)) (.cons (.c (.same Q)) .nil))) J y3) z4 z1 (gH jy Q Q) Q (ah (LT.not Q) Q (gH jy Q Q) Q (dL (Bv (!Gu)) jy y5 (On (aZ Q z7 z5))))))))
    ·refine aV jy y5 (aV jy y5 (aV jy y5 (aV jy y5 (aV jy y5 (aV jy y5 (aV jy y5 (eH (Bv false) jy af (On (aZ Q z7 z5)))))))))
   ·refine aB.dZ (fun j43 => ([(4,Cc (lo 22 j43.1.length)),(5,Cc (.pl 25 0)),(12,Cc (lo 27 r2.length)),(13,Iv (r2.length : Int)),(14,Iv s3.1)],[(22,pR 40 aG j43.1),(25,.row 26 [[iC j43.2.1,lo 32 j43.2.2.length]]),(27,pR 40 aG r2),(32,pR 40 aG j43.2.2)])) ?_ (fun j43 _ => ?_)
    ·refine aB.cond Q (fun JQ => ?_) (fun JQ => ?_)
     ·refine Ws (Wr ?_)
      refine bV (bJ [iC s3.2.2.1,lo 24 s3.2.2.2.length] Q bU ai aX) Q Q Q Q (bV (bJ [iC x34.A,iC x34.B] Q jO gV dM) Q Q Q Q (dF (LT.eY (n := 30) (enc := aG) [(0,.tmp 32,.agg [iC x34.A,iC x34.B])] [x34] Q Q dK dw Q Q Q Q (by decide) (fun _ => Q) Q) Q Q Q (aY fun uQ YC => (aS.step (cF [.agg [iC s3.2.2.1,lo 24 s3.2.2.2.length],.c (lo 30 ([x34].length))] [(24,pR 40 aG s3.2.2.2),(30,pR 40 aG [x34])] (Fw.Fn.ren [(0,32)] (aBg (aQ.mk s3.2.2.1 s3.2.2.2) [x34] uQ YC) Q) Vb (.cons (.agg (.cons (.same Q) (.cons (.dN Q Q) .nil))) (.cons (.c (.dN Q Q)) .nil)) J y3) z3 z2 Q Q (bW (stA [iC uQ.aF,lo 32 uQ.aA.length] Q Q ai aX) Q Q Q Q Q (On (en [(4,Cc (lo 22 s3.2.1.length)),(5,Cc (.pl 25 0)),(7,Cc (.pl 28 0)),(12,Cc (lo 27 r2.length)),(13,Iv (r2.length : Int)),(14,Iv s3.1)] [(22,pR 40 aG s3.2.1),(25,.row 26 [[iC uQ.aF,lo 32 uQ.aA.length]]),(27,pR 40 aG r2),(28,.row 40 [[iC x34.A,iC x34.B]]),(32,pR 40 aG uQ.aA)] z6 z5 (Wr (aH (Cc (lo 22 s3.2.1.length)) y4 (bV (bJ [iC x34.A,iC x34.B] Q jO gV dM) Q Q Q Q (dF (LT.eY (n := 33) (enc := aG) [(0,.tmp 36,.agg [iC x34.A,iC x34.B])] [x34] Q Q dK dw Q Q Q Q (by decide) (fun _ => Q) Q) Q Q Q ?_)))))))))))
      refine aY fun u46 Yj => (kR (LT.jg (enc := aG) Q Q Q dK dw Q (by decide) (by decide) (fun _ => Q) (iG Yj)) Q Q Q Q Q Q (aP (Cc (lo 22 ((s3.2.1 ++ [x34]).length))) y4 (On (aZ Q z5 z4))))
     ·refine aB.skip (en [(4,Cc (lo 22 s3.2.1.length)),(5,Cc (.pl 25 0)),(12,Cc (lo 27 r2.length)),(13,Iv (r2.length : Int)),(14,Iv s3.1)] [(22,pR 40 aG s3.2.1),(24,pR 40 aG s3.2.2.2),(25,.row 26 [[iC s3.2.2.1,lo 24 s3.2.2.2.length]]),(27,pR 40 aG r2)] z5 z4 (aB.ent (aU.mv 24 32 Q Q) (aZ Q z5 z4)))
    ·refine aB.blk (Wr ?_)
     refine aj LT.add af (aH (Iv (aJ (s3.1 + 1))) y4 (On (en [(4,Cc (lo 22 j43.1.length)),(5,Cc (.pl 25 0)),(12,Cc (lo 27 r2.length)),(13,Iv (r2.length : Int)),(14,Iv (aJ (s3.1 + 1)))] [(22,pR 40 aG j43.1),(25,.row 26 [[iC j43.2.1,lo 32 j43.2.2.length]]),(27,pR 40 aG r2),(32,pR 40 aG j43.2.2)] z5 z4 (aB.ent (aU.mv 32 24 Q Q) (aZ Q z5 z4)))))
  ·refine aB.fH Q ⟨Q,aU.of z2 z3⟩
 ·refine Ws (Ws (Wr ?_))
  refine bV (bJ [iC b32.2.2,lo 24 b32.2.1.length] Q bU ai aX) Q Q Q Q (aY fun LZ hr47 => (aS.pure (cF [.agg [iC b32.2.2,lo 24 b32.2.1.length]] [(24,pR 40 aG b32.2.1)] (Hz (aQ.mk b32.2.2 b32.2.1) LZ hr47) FC (.cons (.agg (.cons (.same Q) (.cons (.dN Q Q) .nil))) .nil) J y3) z2 z1 Q Q (ah (LT.not Q) Q Q Q (On (aB.cond Q (fun JR => ?_) (fun JR => ?_))))))
  ·refine Ws (Wr ?_)
   refine dA (LT.eY (n := 35) (enc := aG) [] ([] : List aK) Q Q dK dw Q Q Q Q (by decide) (fun _ => Q) Q) Q Q (aP (Cc (lo 35 (([] : List aK).length))) y4 (aP (Bv false) au (On (en [(2,Cc (lo 35 (([] : List aK).length))),(3,Bv false)] [(35,pR 40 aG ([] : List aK))] z2 z1 (aB.ent (aU.mv 35 0 Q Q) (en [(2,Cc (lo 0 (([] : List aK).length))),(3,Bv false)] [(0,pR 40 aG ([] : List aK))] z2 z1 (aB.ret (bD.mk (.inr Q) z2 z1 Q ⟨J,ak.sc,J⟩ ⟨bK.bg jF,J⟩))))))))
  ·refine aB.skip (Ws (Wr ?_))
   refine aH (Cc (lo 22 b32.1.length)) y4 (aP (Cc (lo 22 b32.1.length)) y4 (aP (Bv true) au (On (en [(2,Cc (lo 22 b32.1.length)),(3,Bv true)] [(22,pR 40 aG b32.1)] z2 z1 (aB.ent (aU.mv 22 0 Q Q) (en [(2,Cc (lo 0 b32.1.length)),(3,Bv true)] [(0,pR 40 aG b32.1)] z2 z1 (aB.ret (bD.mk (.inr Q) z2 z1 Q ⟨J,ak.sc,J⟩ ⟨bK.bg jF,J⟩))))))))
theorem UA (g : aQ) : FT Tryz.prog (vV g) 28 [.agg [iC g.aF,xF aG g.aA]] [] (fun (t : (List aK)) => [.c (lo 0 t.length)]) (fun (t : (List aK)) => [(0,pR 40 aG t)]) [0] := by
 refine FT.of [] Tryz.func28 Tryz.ntmps28 Q y2 ?_
 intro w0 U0 R0 g0
 unfold vV
 refine Ws (Wr ?_)
 refine dF (LT.box (n := 21) (v := (.agg [iC g.aF,xF aG g.aA])) Q aX (by exact Q)) Q Q Q (aP (Cc (sC aO)) au (On (Ws (Wr ?_))))
 refine dA (LT.eY (n := 22) (enc := aG) [] ([] : List aK) Q Q dK dw Q Q Q Q (by decide) (fun _ => Q) Q) Q Q (aP (Cc (lo 22 (([] : List aK).length))) y4 (On (Ws (Ws (Wr ?_)))))
 refine aP (Iv 0) au (On (aB.block ?_))
 refine aB.iy (id := 0) (xw g) (fun s1 => ([(1,Cc (.pl 21 0)),(3,Cc (lo 22 s1.2.length)),(4,Iv s1.1)],[(21,.row 26 [[iC g.aF,xF aG g.aA]]),(22,pR 40 aG s1.2)])) (fun iZ => ([(3,Cc (lo 22 iZ.length))],[(22,pR 40 aG iZ)])) ?_ (aU.of z3 z2) Q (fun iZ _ => ?_)
 ·intro s1
  unfold xw
  refine Ws (Ws ?_)
  refine aB.dZ (fun j49 => ([(1,Cc (.pl 21 0)),(3,Cc (lo 22 s1.2.length)),(4,Iv s1.1),(14,Bv j49)],[(21,.row 26 [[iC g.aF,xF aG g.aA]]),(22,pR 40 aG s1.2)])) ?_ (fun j49 _ => ?_)
  ·refine Wr (aH (Iv s1.1) y4 (cZ (iC g.aF) iq bM bG (aj LT.lss y5 (aH (Bv (decide (s1.1 < g.aF))) y4 (aS.split (fun jQ => ?_) (fun jQ => ?_))))))
   ·refine bV (bJ [iC g.aF,xF aG g.aA] Q bU ai aX) Q Q (gH jQ Q Q) Q (aY fun Gv YD => (aS.pure (bH [.agg [iC g.aF,xF aG g.aA]] (sH g Gv YD) rE (jL y2) J y3) z2 J (gH jQ Q Q) Q (dL (Bv Gv) jQ y5 (On (aZ Q z4 z2)))))
   ·refine aV jQ y5 (aV jQ y5 (eH (Bv false) jQ af (On (aZ Q z4 z2))))
  ·refine aB.cond Q (fun XH => ?_) (fun XH => ?_)
   ·refine aB.skip (Ws (aB.block (Ws (Wr ?_))))
    refine aH (Iv s1.1) y4 (aj LT.add af (aP (Iv (aJ (s1.1 + 1))) y4 (On (aB.block ?_))))
    refine aB.iy (id := 2) (Dw g s1) (fun s53 => ([(1,Cc (.pl 21 0)),(3,Cc (lo 22 s53.2.length)),(4,Iv s1.1),(5,Iv s53.1)],[(21,.row 26 [[iC g.aF,xF aG g.aA]]),(22,pR 40 aG s53.2)])) (fun sQ => ([(1,Cc (.pl 21 0)),(3,Cc (lo 22 sQ.2.length)),(4,Iv sQ.1)],[(21,.row 26 [[iC g.aF,xF aG g.aA]]),(22,pR 40 aG sQ.2)])) ?_ (aU.of z4 z2) Q (fun sQ _ => ?_)
    ·intro s53
     unfold Dw
     refine Ws (Ws (Wr ?_))
     refine aH (Iv s53.1) y4 (cZ (iC g.aF) iq bM bG (aj LT.lss y5 (On (aB.cond Q (fun JS => ?_) (fun JS => ?_)))))
     ·refine aB.skip (Ws (aB.block (Ws (Wr ?_))))
      refine bV (bJ [iC g.aF,xF aG g.aA] Q bU ai aX) Q Q Q Q (aH (Iv s1.1) y4 (aH (Iv s53.1) y4 (aY fun Ld YM => (aS.pure (bH [.agg [iC g.aF,xF aG g.aA],.c (iC s1.1),.c (iC s53.1)] (Tq g s1.1 s53.1 Ld YM) OY (qx y4) J y3) z4 J Q Q (aj LT.eql af (On (aB.dZ (fun j73 => ([(1,Cc (.pl 21 0)),(3,Cc (lo 22 j73.length)),(4,Iv s1.1),(5,Iv s53.1)],[(21,.row 26 [[iC g.aF,xF aG g.aA]]),(22,pR 40 aG j73)])) ?_ (fun j73 _ => ?_))))))))
      ·refine aB.cond Q (fun XL => ?_) (fun XL => ?_)
       ·refine Wr (aH (Cc (lo 22 s53.2.length)) y4 (aH (Iv s1.1) y4 (aH (Iv s53.1) y4 (fA (LT.build [(0,.tmp 31,.c (iC s1.1)),(1,.tmp 32,.c (iC s53.1))] Q Q qE dw Q Q Q) Q Q Q Q (dF (LT.eY (n := 25) (enc := aG) [(0,.tmp 33,.agg [iC s1.1,iC s53.1])] [aK.mk s1.1 s53.1] Q Q dK dw Q Q Q Q (by decide) (fun _ => Q) Q) Q Q Q (aY fun u75 Yn => (kR (LT.jg (enc := aG) Q Q Q dK dw Q (by decide) (by decide) (fun _ => Q) (iG Yn)) Q Q Q Q Q Q (aP (Cc (lo 22 ((s53.2 ++ [aK.mk s1.1 s53.1]).length))) y4 (On (aZ Q z4 z2))))))))))
       ·refine aB.skip (aZ Q z4 z2)
      ·refine aB.blk (Wr ?_)
       refine aH (Iv s53.1) y4 (aj LT.add af (aP (Iv (aJ (s53.1 + 1))) y4 (On (aZ Q z4 z2))))
     ·refine aB.fH Q ⟨Q,aU.of z3 z2⟩
    ·refine aB.blk (Wr ?_)
     refine aH (Iv sQ.1) y4 (aj LT.add af (aP (Iv (aJ (sQ.1 + 1))) y4 (On (aZ Q z3 z2))))
   ·refine aB.fH Q ⟨Q,aU.of z1 z1⟩
 ·refine Ws (Wr ?_)
  refine aH (Cc (lo 22 iZ.length)) y4 (aP (Cc (lo 22 iZ.length)) y4 (On (en [(2,Cc (lo 22 iZ.length))] [(22,pR 40 aG iZ)] z1 z1 (aB.ent (aU.mv 22 0 Q Q) (en [(2,Cc (lo 0 iZ.length))] [(0,pR 40 aG iZ)] z1 z1 (aB.ret (bD.mk (.inr Q) z1 z1 Q ⟨J,J⟩ ⟨bK.bg jF,J⟩)))))))
theorem UI (g : aQ) : FT Tryz.prog (Ap g) 143 [.agg [iC g.aF,xF aG g.aA]] [] (fun (t : Int) => [.c (iC t)]) (fun (t : Int) => []) [] := by
 refine FT.of [] Tryz.func143 Tryz.ntmps143 Q y2 ?_
 intro w0 U0 R0 g0
 unfold Ap
 refine Ws (Wr ?_)
 refine dF (LT.box (n := 21) (v := (.agg [iC g.aF,xF aG g.aA])) Q aX (by exact Q)) Q Q Q (aP (Iv 0) au (On (Ws (Wr ?_))))
 refine cZ (iC g.aF) iq bM bG (ah (LT.build [(0,.tmp 11,.c (iC g.aF))] Q Q uN fK Q Q Q) Q Q Q (aY fun r1 hr1 => (aS.step (bH [.agg [iC g.aF,sC aO],.c (iC 2)] (Fw.Fn.ren [(0,23),(1,24),(2,25)] (UB (aQ.mk g.aF ([] : List aK)) 2 r1 hr1) Q) OD (.cons (.agg (.cons (.same Q) (.cons .nil .nil))) (.cons (.c (.same Q)) .nil)) J y3) ⟨Q,Q,y2,J⟩ J Q Q (aH (.dI [.agg [lo 23 r1.1.Free.length,lo 24 r1.1.aN.length,lo 25 r1.1.aI.length],.c (bC r1.2)]) y4 (ah (LT.extract (v := (.agg [lo 23 r1.1.Free.length,lo 24 r1.1.aN.length,lo 25 r1.1.aI.length])) Q (by exact Q)) Q Q Q (ah (LT.extract (v := (.c (bC r1.2))) Q (by exact Q)) Q Q Q (dA (LT.alloc (n := 26) (cells := [sC aO,sC aO,sC aO]) Q jY Q Q Q) Q Q (bW (stA [lo 23 r1.1.Free.length,lo 24 r1.1.aN.length,lo 25 r1.1.aI.length] Q Q dR dJ) Q Q Q Q Q (aP (Bv r1.2) y4 (On (Ws ?_)))))))))))
 refine en [(1,Cc (.pl 21 0)),(3,Cc (.pl 26 0))] [(21,.row 26 [[iC g.aF,xF aG g.aA]]),(23,pR 3 aC r1.1.Free),(24,pR 3 aC r1.1.aN),(25,pR 3 aC r1.1.aI),(26,.row 113 [[lo 23 r1.1.Free.length,lo 24 r1.1.aN.length,lo 25 r1.1.aI.length]])] z2 z5 (Wr (aP (Iv 0) au (On (Ws (Ws (Wr ?_))))))
 refine aP (Iv 0) au (On (aB.block ?_))
 refine aB.iy (id := 0) (yK g) (fun s2 => ([(1,Cc (.pl 21 0)),(3,Cc (.pl 26 0)),(5,Iv s2.2.1),(6,Iv s2.1)],[(21,.row 26 [[iC g.aF,xF aG g.aA]]),(23,pR 3 aC s2.2.2.1),(24,pR 3 aC s2.2.2.2.1),(25,pR 3 aC s2.2.2.2.2),(26,.row 113 [[lo 23 s2.2.2.1.length,lo 24 s2.2.2.2.1.length,lo 25 s2.2.2.2.2.length]])])) (fun b27 => ([(5,Iv b27)],[])) ?_ (aU.of z4 z5) Q (fun b27 _ => ?_)
 ·intro s2
  unfold yK
  refine Ws (Ws (Wr ?_))
  refine aH (Iv s2.1) y4 (cZ (xF aG g.aA) dP dY bG (ah (LT.gY Q dK) Q Q Q (aj LT.lss y5 (On (aB.cond Q (fun hc28 => ?_) (fun hc28 => ?_))))))
  ·refine aB.skip (Ws (aB.block (Ws (aB.draw mixed ?_))))
   refine fU (bJ [iC g.aF,xF aG g.aA] Q bU ai aX) Q Q Q Q (fU (bJ [lo 23 s2.2.2.1.length,lo 24 s2.2.2.2.1.length,lo 25 s2.2.2.2.2.length] Q gm dR dJ) Q Q Q Q (fD (xF aG g.aA) dP dY bG (bY (Iv s2.1) y4 (aT.bind fun x29 hx29 => (eG (LT.fO (enc := aG) Q iJ hx29 dM) Q Q Q Q (bf (LT.oN Q iO) Q Q Q (bf (LT.iP Q bM) Q Q Q (fD (xF aG g.aA) dP dY bG (bY (Iv s2.1) y4 ?_)))))))))
   refine aT.bind fun x30 ZB => (eG (LT.fO (enc := aG) Q iJ ZB dM) Q Q Q Q (bf (LT.oN Q jd) Q Q Q (bf (LT.iP Q bM) Q Q Q (aT.bind fun bI qJ => (aT.step (cF [.agg [iC g.aF,xF aG g.aA],.agg [lo 23 s2.2.2.1.length,lo 24 s2.2.2.2.1.length,lo 25 s2.2.2.2.2.length],.c (iC x29.A),.c (iC x30.B),.c (iC 4)] [(23,pR 3 aC s2.2.2.1),(24,pR 3 aC s2.2.2.2.1),(25,pR 3 aC s2.2.2.2.2)] (Fw.Fn.ren [(0,28),(1,29),(2,30)] (UF g (ay.mk s2.2.2.1 s2.2.2.2.1 s2.2.2.2.2) x29.A x30.B 4 bI qJ) Q) OE (.cons (.agg (.cons (.same Q) (.cons (.same Q) .nil))) (.cons (.agg (.cons (.dN Q Q) (.cons (.dN Q Q) (.cons (.dN Q Q) .nil)))) (.cons (.c (.same Q)) (.cons (.c (.same Q)) (.cons (.c (.same Q)) .nil))))) J y3) ⟨Q,Q,Q,Q,Q,y2,J⟩ z3 Q Q (bY (.dI [.agg [lo 28 bI.1.Free.length,lo 29 bI.1.aN.length,lo 30 bI.1.aI.length],.c (bC bI.2)]) y4 (bf (LT.extract (v := (.agg [lo 28 bI.1.Free.length,lo 29 bI.1.aN.length,lo 30 bI.1.aI.length])) Q (by exact Q)) Q Q Q (bf (LT.extract (v := (.c (bC bI.2))) Q (by exact Q)) Q Q Q (qy (LT.alloc (n := 31) (cells := [sC aO,sC aO,sC aO]) Q jY Q Q Q) Q Q (ji (stA [lo 28 bI.1.Free.length,lo 29 bI.1.aN.length,lo 30 bI.1.aI.length] Q Q dR dJ) Q Q Q Q Q (bf (LT.assign (v := (Bv bI.2)) Q) Q Q Q ?_)))))))))))
   refine aT.nil (by kernel_rfl) (Ws (Ws ?_))
   refine en [(1,Cc (.pl 21 0)),(3,Cc (.pl 26 0)),(5,Iv s2.2.1),(6,Iv s2.1),(7,Cc (.pl 31 0)),(8,Bv bI.2)] [(21,.row 26 [[iC g.aF,xF aG g.aA]]),(23,pR 3 aC s2.2.2.1),(24,pR 3 aC s2.2.2.2.1),(25,pR 3 aC s2.2.2.2.2),(26,.row 113 [[lo 23 s2.2.2.1.length,lo 24 s2.2.2.2.1.length,lo 25 s2.2.2.2.2.length]]),(28,pR 3 aC bI.1.Free),(29,pR 3 aC bI.1.aN),(30,pR 3 aC bI.1.aI),(31,.row 113 [[lo 28 bI.1.Free.length,lo 29 bI.1.aN.length,lo 30 bI.1.aI.length]])] z6 z9 (Wr (aH (Bv bI.2) y4 (ah (LT.not Q) Q Q Q (On (aB.cond Q (fun hc32 => ?_) (fun hc32 => ?_))))))
   ·refine aB.exit Q (Wr ?_)
    refine aH (Iv s2.1) y4 (aj LT.add af (aP (Iv (aJ (s2.1 + 1))) y4 (On (aZ Q z4 z5))))
   ·refine aB.skip (Ws (aB.draw mixed ?_))
    refine fD (lo 28 bI.1.Free.length) jl eU bG (fD (xF aG g.aA) dP dY bG (bY (Iv s2.1) y4 (aT.bind fun wK ZC => (eG (LT.fO (enc := aG) Q iJ ZC dM) Q Q Q Q (bf (LT.oN Q iO) Q Q Q (bf (LT.iP Q bM) Q Q Q (fD (lo 28 bI.1.Free.length) jl eU bG (bf (LT.ig Q dP) Q Q Q ?_))))))))
    refine fU (xK (xF aG g.aA) Q dY) Q Q Q Q (bY (Iv s2.1) y4 (aT.bind fun x34 hx34 => (eG (LT.fO (enc := aG) Q iJ hx34 dM) Q Q Q Q (bf (LT.oN Q iO) Q Q Q (bf (LT.iP Q bM) Q Q Q (aT.bind fun uY QB => (kz (LT.gy Q Q fV QB) Q Q Q Q Q (fU (LT.kQ (k := 0) Q bM QB (by exact Q) (by exact Q)) Q Q Q Q (jG LT.sub af (aT.bind fun yh Fg => (kz (LT.gy Q Q fV Fg) Q Q Q Q Q ?_)))))))))))
    refine ji (LT.qG (k := 0) (v := (.c (iC (aJ (uY - 1))))) (b' := (aJ (uY - 1))) Q Q (dQ oz) jB (by exact Q) Fg (by exact Q) (by exact K Q) (by exact Q)) Q Q Q Q Q (aT.nil (by kernel_rfl) (Ws (en [(1,Cc (.pl 21 0)),(3,Cc (.pl 26 0)),(5,Iv s2.2.1),(6,Iv s2.1),(7,Cc (.pl 31 0))] [(21,.row 26 [[iC g.aF,xF aG g.aA]]),(23,pR 3 aC s2.2.2.1),(24,pR 3 aC s2.2.2.2.1),(25,pR 3 aC s2.2.2.2.2),(26,.row 113 [[lo 23 s2.2.2.1.length,lo 24 s2.2.2.2.1.length,lo 25 s2.2.2.2.2.length]]),(28,pR 3 aC (bI.1.Free.set wK.A.toNat (aJ (uY - 1)))),(29,pR 3 aC bI.1.aN),(30,pR 3 aC bI.1.aI),(31,.row 113 [[lo 28 bI.1.Free.length,lo 29 bI.1.aN.length,lo 30 bI.1.aI.length]])] z5 z9 (aB.draw mixed (fD (lo 29 bI.1.aN.length) lq eU bG (fD (xF aG g.aA) dP dY bG (bY (Iv s2.1) y4 (aT.bind fun nX ZE => (eG (LT.fO (enc := aG) Q iJ ZE dM) Q Q Q Q ?_)))))))))
    refine bf (LT.oN Q iO) Q Q Q (bf (LT.iP Q bM) Q Q Q (BL (LT.eY (n := 32) (enc := aC) [(0,.tmp 70,.c (iC nX.A))] ([nX.A] : List Int) Q Q dO fF Q Q Q Q (by decide) (fun _ => Q) Q) Q Q Q (aT.bind fun u38 Yg => (BM (LT.jg (enc := aC) Q Q Q dO fF Q (by decide) (by decide) (fun _ => Q) (iG Yg)) Q Q Q Q Q Q (bf (LT.ig Q lq) Q Q Q (ji (mO (.c (lo 29 ((bI.1.aN ++ ([nX.A] : List Int)).length))) [lo 28 bI.1.Free.length,lo 29 ((bI.1.aN ++ ([nX.A] : List Int)).length),lo 30 bI.1.aI.length] Q Q uy wH) Q Q Q Q Q (aT.nil (by kernel_rfl) (Ws (en [(1,Cc (.pl 21 0)),(3,Cc (.pl 26 0)),(5,Iv s2.2.1),(6,Iv s2.1),(7,Cc (.pl 31 0))] [(21,.row 26 [[iC g.aF,xF aG g.aA]]),(23,pR 3 aC s2.2.2.1),(24,pR 3 aC s2.2.2.2.1),(25,pR 3 aC s2.2.2.2.2),(26,.row 113 [[lo 23 s2.2.2.1.length,lo 24 s2.2.2.2.1.length,lo 25 s2.2.2.2.2.length]]),(28,pR 3 aC (bI.1.Free.set wK.A.toNat (aJ (uY - 1)))),(29,pR 3 aC (bI.1.aN ++ ([nX.A] : List Int))),(30,pR 3 aC bI.1.aI),(31,.row 113 [[lo 28 bI.1.Free.length,lo 29 ((bI.1.aN ++ ([nX.A] : List Int)).length),lo 30 bI.1.aI.length]])] z5 z9 (Wr (ah (LT.ig Q lV) Q Q Q ?_)))))))))))
    refine bV (xK (lo 30 bI.1.aI.length) Q eU) Q Q Q Q (aH (Iv s2.1) y4 (dF (LT.eY (n := 33) (enc := aC) [(0,.tmp 76,.c (iC s2.1))] ([s2.1] : List Int) Q Q dO fF Q Q Q Q (by decide) (fun _ => Q) Q) Q Q Q (aY fun MH Jy => (kR (LT.jg (enc := aC) Q Q Q dO fF Q (by decide) (by decide) (fun _ => Q) (iG Jy)) Q Q Q Q Q Q (ah (LT.ig Q lV) Q Q Q (bW (mO (.c (lo 30 ((bI.1.aI ++ ([s2.1] : List Int)).length))) [lo 28 bI.1.Free.length,lo 29 ((bI.1.aN ++ ([nX.A] : List Int)).length),lo 30 ((bI.1.aI ++ ([s2.1] : List Int)).length)] Q Q uy wH) Q Q Q Q Q (On (Ws ?_))))))))
    refine en [(1,Cc (.pl 21 0)),(3,Cc (.pl 26 0)),(5,Iv s2.2.1),(6,Iv s2.1),(7,Cc (.pl 31 0))] [(21,.row 26 [[iC g.aF,xF aG g.aA]]),(23,pR 3 aC s2.2.2.1),(24,pR 3 aC s2.2.2.2.1),(25,pR 3 aC s2.2.2.2.2),(26,.row 113 [[lo 23 s2.2.2.1.length,lo 24 s2.2.2.2.1.length,lo 25 s2.2.2.2.2.length]]),(28,pR 3 aC (bI.1.Free.set wK.A.toNat (aJ (uY - 1)))),(29,pR 3 aC (bI.1.aN ++ ([nX.A] : List Int))),(30,pR 3 aC (bI.1.aI ++ ([s2.1] : List Int))),(31,.row 113 [[lo 28 bI.1.Free.length,lo 29 ((bI.1.aN ++ ([nX.A] : List Int)).length),lo 30 ((bI.1.aI ++ ([s2.1] : List Int)).length)]])] z5 z9 (Wr (bV (bJ [lo 28 bI.1.Free.length,lo 29 ((bI.1.aN ++ ([nX.A] : List Int)).length),lo 30 ((bI.1.aI ++ ([s2.1] : List Int)).length)] Q gm dR dJ) Q Q Q Q (bW (stA [lo 28 bI.1.Free.length,lo 29 ((bI.1.aN ++ ([nX.A] : List Int)).length),lo 30 ((bI.1.aI ++ ([s2.1] : List Int)).length)] Q Q dR dJ) Q Q Q Q Q (On (Wr ?_)))))
    refine aH (Iv s2.2.1) y4 (aj LT.add af (aP (Iv (aJ (s2.2.1 + 1))) y4 (On (aB.blk (Wr ?_)))))
    refine aH (Iv s2.1) y4 (aj LT.add af (aP (Iv (aJ (s2.1 + 1))) y4 (On (en [(1,Cc (.pl 21 0)),(3,Cc (.pl 26 0)),(5,Iv (aJ (s2.2.1 + 1))),(6,Iv (aJ (s2.1 + 1)))] [(21,.row 26 [[iC g.aF,xF aG g.aA]]),(26,.row 113 [[lo 28 bI.1.Free.length,lo 29 ((bI.1.aN ++ ([nX.A] : List Int)).length),lo 30 ((bI.1.aI ++ ([s2.1] : List Int)).length)]]),(28,pR 3 aC (bI.1.Free.set wK.A.toNat (aJ (uY - 1)))),(29,pR 3 aC (bI.1.aN ++ ([nX.A] : List Int))),(30,pR 3 aC (bI.1.aI ++ ([s2.1] : List Int)))] z4 z5 (aB.ent (aU.mv 28 23 Q Q) (aB.ent (aU.mv 29 24 Q Q) (aB.ent (aU.mv 30 25 Q Q) (aB.nil ⟨Q,aU.of z4 ⟨Q,Q,Q,Q,congrArg (fun l1 => (some (Ob.row 113 [[lo 23 l1,lo 24 ((bI.1.aN ++ ([nX.A] : List Int)).length),lo 25 ((bI.1.aI ++ ([s2.1] : List Int)).length)]]) : Option Ob)) (show bI.1.Free.length = (bI.1.Free.set wK.A.toNat (aJ (uY - 1))).length by simp only [List.length_set]),J⟩⟩))))))))
  ·refine aB.fH Q ⟨Q,aU.of z1 J⟩
 ·refine Ws (Wr ?_)
  refine aH (Iv b27) y4 (aP (Iv b27) y4 (On (aB.ret (bD.mk (.inr Q) z1 J Q ⟨ak.sc,J⟩ J))))
theorem aBq (g : aQ) (a : Int) (b : Int) : FT Tryz.prog (Dt g a b) 89 [.agg [iC g.aF,xF aG g.aA],.c (iC a),.c (iC b)] [] (fun (t : Bool) => [.c (bC t)]) (fun (t : Bool) => []) [] := by
 refine FT.of [] Tryz.func89 Tryz.ntmps89 Q y2 ?_
 intro w0 U0 R0 g0
 unfold Dt
 refine Ws (Wr ?_)
 refine dF (LT.box (n := 21) (v := (.agg [iC g.aF,xF aG g.aA])) Q aX (by exact Q)) Q Q Q (aP (Bv false) au (On (Ws (Ws ?_))))
 refine aB.dZ (fun j6 => ([(1,Iv a),(2,Iv b),(3,Cc (.pl 21 0)),(30,Bv j6)],[(21,.row 26 [[iC g.aF,xF aG g.aA]])])) ?_ (fun j6 _ => ?_)
 ·refine Wr (bV (bJ [iC g.aF,xF aG g.aA] Q bU ai aX) Q Q Q Q (aY fun r7 nN => (aS.pure (bH [.agg [iC g.aF,xF aG g.aA]] (sH g r7 nN) rE (jL y2) J y3) z2 J Q Q (ah (LT.not Q) Q Q Q (aH (Bv (!r7)) y4 (aS.split (fun hb8 => ?_) (fun hb8 => ?_)))))))
  ·refine aV hb8 y5 (aV hb8 y5 (dL (Bv true) hb8 af (aH (Bv true) y4 (bT y5 (bT y5 (dL (Bv true) Q af (aH (Bv true) y4 (bT y5 (bT y5 (bT y5 (bT y5 ?_)))))))))))
   refine dL (Bv true) Q af (aH (Bv true) y4 (bT y5 (bT y5 (bT y5 (bT y5 (dL (Bv true) Q af (On (aZ Q z4 z1))))))))
  ·refine dn (Iv a) hb8 y5 (fZ LT.lss hb8 jZ (eH (Bv (decide (a < 0))) hb8 y5 (aH (Bv (decide (a < 0))) y4 (aS.split (fun wu => ?_) (fun wu => ?_)))))
   ·refine aV wu y5 (aV wu y5 (dL (Bv true) wu af (aH (Bv true) y4 (bT y5 (bT y5 (bT y5 (bT y5 (dL (Bv true) Q af (aH (Bv true) y4 (bT y5 (bT y5 ?_)))))))))))
    refine bT y5 (bT y5 (dL (Bv true) Q af (On (aZ Q z4 z1))))
   ·refine dn (Iv b) wu y5 (fZ LT.lss wu jZ (eH (Bv (decide (b < 0))) wu y5 (aH (Bv (decide (b < 0))) y4 (aS.split (fun jI => ?_) (fun jI => ?_)))))
    ·refine aV jI y5 (aV jI y5 (aV jI y5 (aV jI y5 (dL (Bv true) jI af (aH (Bv true) y4 (bT y5 (bT y5 (bT y5 (bT y5 (dL (Bv true) Q af (On ?_)))))))))))
     refine aZ Q z4 z1
    ·refine dn (Iv a) jI y5 (iU (iC g.aF) iq bM jI fB (fZ LT.geq jI y6 (eH (Bv (decide (g.aF ≤ a))) jI y5 (aH (Bv (decide (g.aF ≤ a))) y4 (aS.split (fun gJ => ?_) (fun gJ => ?_))))))
     ·refine aV gJ y5 (aV gJ y5 (aV gJ y5 (aV gJ y5 (dL (Bv true) gJ af (On (aZ Q z4 z1))))))
     ·refine dn (Iv b) gJ y5 (iU (iC g.aF) iq bM gJ fB (fZ LT.geq gJ y6 (eH (Bv (decide (g.aF ≤ b))) gJ y5 (On (aZ Q z4 z1)))))
 ·refine aB.cond Q (fun hc12 => ?_) (fun hc12 => ?_)
  ·refine Ws (Wr ?_)
   refine aP (Bv false) au (On (aB.ret (bD.mk (.inr Q) z1 J Q ⟨ak.sc,J⟩ J)))
  ·refine aB.skip (Ws (Wr ?_))
   refine bV (bJ [iC g.aF,xF aG g.aA] Q bU ai aX) Q Q Q Q (aH (Iv a) y4 (aH (Iv b) y4 (aj LT.min y5 (aH (Iv a) y4 (aH (Iv b) y4 (aj LT.max y5 (fA (LT.build [(0,.tmp 34,.c (iC (if b < a then b else a))),(1,.tmp 37,.c (iC (if a < b then b else a)))] Q Q qE dw Q Q Q) Q Q Q Q (aY fun r13 tH => (aS.step (bH [.agg [iC g.aF,xF aG g.aA],.agg [iC (if b < a then b else a),iC (if a < b then b else a)]] (Fw.Fn.ren [(0,24)] (uV g (aK.mk (if b < a then b else a) (if a < b then b else a)) r13 tH) Q) sV (EW y4) J y3) z3 J Q Q (dA (LT.alloc (n := 25) (cells := [iC 0,sC aO]) Q fK Q Q Q) Q Q (bW (stA [iC r13.aF,lo 24 r13.aA.length] Q Q ai aX) Q Q Q Q Q ?_)))))))))))
   refine On (Ws ?_)
   refine aB.dZ (fun j17 => ([(6,Bv j17)],[])) ?_ (fun j17 _ => ?_)
   ·refine en [(1,Iv a),(2,Iv b),(3,Cc (.pl 21 0)),(7,Cc (.pl 25 0))] [(21,.row 26 [[iC g.aF,xF aG g.aA]]),(24,pR 40 aG r13.aA),(25,.row 26 [[iC r13.aF,lo 24 r13.aA.length]])] z4 z3 (aB.draw mixed (bY (Iv a) y4 (bY (Iv b) y4 (jG LT.eql y5 (bY (Bv (a == b)) y4 (aT.split (fun pX => ?_) (fun pX => ?_)))))))
    ·refine ax pX y3 (ax pX y3 (ax pX y3 (ax pX y3 (ax pX y3 (jE (Bv true) pX af (bf (LT.assign (v := (Bv true)) Q) Q Q Q (aT.nil (by kernel_rfl) (aZ Q z1 J))))))))
    ·refine fU (bJ [iC r13.aF,lo 24 r13.aA.length] Q bU ai aX) Q Q (gH pX Q Q) Q (aT.bind fun fE tJ => (aT.pure (cF [.agg [iC r13.aF,lo 24 r13.aA.length]] [(24,pR 40 aG r13.aA)] (UI r13 fE tJ) N8 (.cons (.agg (.cons (.same Q) (.cons (.dN Q Q) .nil))) .nil) J y3) z2 z1 (gH pX Q Q) Q (fU (bJ [iC g.aF,xF aG g.aA] Q bU ai aX) Q Q (gH pX Q Q) Q (aT.bind fun EP X6 => (aT.pure (bH [.agg [iC g.aF,xF aG g.aA]] (UI g EP X6) N8 (jL y2) J y3) z2 J (gH pX Q Q) Q (ku LT.eql pX y6 (jX (Bv (fE == EP)) pX y5 (bf (LT.assign (v := (Bv (fE == EP))) Q) Q Q Q (aT.nil (by kernel_rfl) (aZ Q z1 J))))))))))
   ·refine aB.ret (bD.mk (.inr Q) z1 J Q ⟨ak.sc,J⟩ J)
theorem aBp (g : aQ) : FT Tryz.prog (Dp g) 19 [.agg [iC g.aF,xF aG g.aA]] [] (fun (t : ((List aK) × Bool)) => [.c (lo 0 t.1.length),.c (bC t.2)]) (fun (t : ((List aK) × Bool)) => [(0,pR 40 aG t.1)]) [0] := by
 refine FT.of [] Tryz.func19 Tryz.ntmps19 Q y2 ?_
 intro w0 U0 R0 g0
 unfold Dp
 refine Ws (Wr ?_)
 refine dF (LT.box (n := 21) (v := (.agg [iC g.aF,xF aG g.aA])) Q aX (by exact Q)) Q Q Q (aP (Cc (sC aO)) au (aP (Bv false) au (On (Ws (Wr ?_)))))
 refine dA (LT.eY (n := 22) (enc := aG) [] ([] : List aK) Q Q dK dw Q Q Q Q (by decide) (fun _ => Q) Q) Q Q (aP (Cc (lo 22 (([] : List aK).length))) y4 (On (Ws (Wr ?_))))
 refine bV (bJ [iC g.aF,xF aG g.aA] Q bU ai aX) Q Q Q Q (aY fun r1 hr1 => (aS.step (bH [.agg [iC g.aF,xF aG g.aA]] (Fw.Fn.ren [(0,24)] (MV g r1 hr1) Q) Ij (jL y2) J y3) z2 J Q Q (dA (LT.alloc (n := 25) (cells := [iC 0,sC aO]) Q fK Q Q Q) Q Q (bW (stA [iC r1.aF,lo 24 r1.aA.length] Q Q ai aX) Q Q Q Q Q (On (Ws ?_))))))
 refine en [(1,Cc (.pl 21 0)),(4,Cc (lo 22 (([] : List aK).length))),(5,Cc (.pl 25 0))] [(21,.row 26 [[iC g.aF,xF aG g.aA]]),(22,pR 40 aG ([] : List aK)),(24,pR 40 aG r1.aA),(25,.row 26 [[iC r1.aF,lo 24 r1.aA.length]])] z3 z4 (Wr (bV (bJ [iC g.aF,xF aG g.aA] Q bU ai aX) Q Q Q Q (aY fun r2 hr2 => (aS.step (bH [.agg [iC g.aF,xF aG g.aA]] (Fw.Fn.ren [(0,27)] (UA g r2 hr2) Q) OQ (jL y2) J y3) z2 J Q Q (aP (Cc (lo 27 r2.length)) y4 (On (Ws (Ws (Wr ?_)))))))))
 refine aP (Iv 0) au (On (aB.block ?_))
 refine aB.iy (id := 0) (AB r2) (fun s3 => ([(4,Cc (lo 22 s3.2.1.length)),(5,Cc (.pl 25 0)),(6,Cc (lo 27 r2.length)),(7,Iv s3.1)],[(22,pR 40 aG s3.2.1),(24,pR 40 aG s3.2.2.2),(25,.row 26 [[iC s3.2.2.1,lo 24 s3.2.2.2.length]]),(27,pR 40 aG r2)])) (fun iZ => ([(4,Cc (lo 22 iZ.1.length)),(5,Cc (.pl 25 0))],[(22,pR 40 aG iZ.1),(24,pR 40 aG iZ.2.1),(25,.row 26 [[iC iZ.2.2,lo 24 iZ.2.1.length]])])) ?_ (aU.of z4 z4) Q (fun iZ _ => ?_)
 ·intro s3
  unfold AB
  refine Ws (Ws (Wr ?_))
  refine aH (Iv s3.1) y4 (aH (Cc (lo 27 r2.length)) y4 (ah (LT.lX Q dK) Q Q Q (aj LT.lss y5 (On (aB.cond Q (fun hc47 => ?_) (fun hc47 => ?_))))))
  ·refine aB.skip (Ws (aB.block (Ws ?_)))
   refine aB.dZ (fun j52 => ([(4,Cc (lo 22 s3.2.1.length)),(5,Cc (.pl 25 0)),(6,Cc (lo 27 r2.length)),(7,Iv s3.1),(37,Bv j52)],[(22,pR 40 aG s3.2.1),(24,pR 40 aG s3.2.2.2),(25,.row 26 [[iC s3.2.2.1,lo 24 s3.2.2.2.length]]),(27,pR 40 aG r2)])) ?_ (fun j52 _ => ?_)
   ·refine aB.draw mixed (fU (bJ [iC s3.2.2.1,lo 24 s3.2.2.2.length] Q bU ai aX) Q Q Q Q (bY (Cc (lo 27 r2.length)) y4 (bY (Iv s3.1) y4 (aT.bind fun IG QC => (kz (LT.gy Q Q iJ QC) Q Q Q Q Q (bf (LT.ig Q iO) Q Q Q (fU (LT.kQ (k := 0) Q bM QC (by exact Q) (by exact Q)) Q Q Q Q (bY (Cc (lo 27 r2.length)) y4 (bY (Iv s3.1) y4 (aT.bind fun x54 zJ => (kz (LT.gy Q Q iJ zJ) Q Q Q Q Q ?_)))))))))))
    refine bf (LT.ig Q jd) Q Q Q (fU (LT.kQ (k := 1) Q bM zJ (by exact Q) (by exact Q)) Q Q Q Q (aT.bind fun oI Ci => (aT.pure (cF [.agg [iC s3.2.2.1,lo 24 s3.2.2.2.length],.c (iC IG.A),.c (iC x54.B)] [(24,pR 40 aG s3.2.2.2)] (aBq (aQ.mk s3.2.2.1 s3.2.2.2) IG.A x54.B oI Ci) Vd (.cons (.agg (.cons (.same Q) (.cons (.dN Q Q) .nil))) (.cons (.c (.same Q)) (.cons (.c (.same Q)) .nil))) J y3) z4 z1 Q Q (bf (LT.not Q) Q Q Q (bY (Bv (!oI)) y4 (aT.split (fun rO => ?_) (fun rO => ?_)))))))
    ·refine kT (lo 24 s3.2.2.2.length) dP dY rO fB (bf (LT.lX Q dK) Q (gH rO Q Q) Q (ku LT.lss rO jZ (jE (Bv (decide ((s3.2.2.2.length : Int) < 24))) rO y5 (aT.nil (by kernel_rfl) (aZ Q z5 z4)))))
    ·refine ax rO y3 (ax rO y3 (ax rO y3 (ax rO y3 (jX (Bv false) rO af (aT.nil (by kernel_rfl) (aZ Q z5 z4))))))
   ·refine aB.dZ (fun j62 => ([(4,Cc (lo 22 j62.1.length)),(5,Cc (.pl 25 0)),(6,Cc (lo 27 r2.length)),(7,Iv s3.1)],[(22,pR 40 aG j62.1),(25,.row 26 [[iC j62.2.1,lo 30 j62.2.2.length]]),(27,pR 40 aG r2),(30,pR 40 aG j62.2.2)])) ?_ (fun j62 _ => ?_)
    ·refine aB.cond Q (fun hc63 => ?_) (fun hc63 => ?_)
     ·refine Ws (aB.draw mixed ?_)
      refine fU (bJ [iC s3.2.2.1,lo 24 s3.2.2.2.length] Q bU ai aX) Q Q Q Q (bY (Cc (lo 27 r2.length)) y4 (bY (Iv s3.1) y4 (aT.bind fun Ee QD => (kz (LT.gy Q Q iJ QD) Q Q Q Q Q (fU (LT.Ht Q jO (dQ gV) dM QD (by exact Q) (by exact Q)) Q Q Q Q (aT.bind fun uS YI => (aT.step (cF [.agg [iC s3.2.2.1,lo 24 s3.2.2.2.length],.agg [iC Ee.A,iC Ee.B]] [(24,pR 40 aG s3.2.2.2)] (Fw.Fn.ren [(0,30)] (uV (aQ.mk s3.2.2.1 s3.2.2.2) Ee uS YI) Q) sV (.cons (.agg (.cons (.same Q) (.cons (.dN Q Q) .nil))) (.cons (.agg (.cons (.same Q) (.cons (.same Q) .nil))) .nil)) J y3) z3 z1 Q Q (ji (stA [iC uS.aF,lo 30 uS.aA.length] Q Q ai aX) Q Q Q Q Q (aT.nil (by kernel_rfl) (en [(4,Cc (lo 22 s3.2.1.length)),(5,Cc (.pl 25 0)),(6,Cc (lo 27 r2.length)),(7,Iv s3.1)] [(22,pR 40 aG s3.2.1),(25,.row 26 [[iC uS.aF,lo 30 uS.aA.length]]),(27,pR 40 aG r2),(30,pR 40 aG uS.aA)] z4 z4 (Wr ?_)))))))))))
      refine aH (Cc (lo 22 s3.2.1.length)) y4 (aH (Cc (lo 27 r2.length)) y4 (aH (Iv s3.1) y4 (aY fun x66 QE => (lC (LT.gy Q Q iJ QE) Q Q Q Q Q (bV (LT.Ht Q jO (dQ gV) dM QE (by exact Q) (by exact Q)) Q Q Q Q (dF (LT.eY (n := 31) (enc := aG) [(0,.tmp 48,.agg [iC x66.A,iC x66.B])] [x66] Q Q dK dw Q Q Q Q (by decide) (fun _ => Q) Q) Q Q Q (aY fun u67 Ym => (kR (LT.jg (enc := aG) Q Q Q dK dw Q (by decide) (by decide) (fun _ => Q) (iG Ym)) Q Q Q Q Q Q (aP (Cc (lo 22 ((s3.2.1 ++ [x66]).length))) y4 (On (aZ Q z4 z4)))))))))))
     ·refine aB.skip (en [(4,Cc (lo 22 s3.2.1.length)),(5,Cc (.pl 25 0)),(6,Cc (lo 27 r2.length)),(7,Iv s3.1)] [(22,pR 40 aG s3.2.1),(24,pR 40 aG s3.2.2.2),(25,.row 26 [[iC s3.2.2.1,lo 24 s3.2.2.2.length]]),(27,pR 40 aG r2)] z4 z4 (aB.ent (aU.mv 24 30 Q Q) (aZ Q z4 z4)))
    ·refine aB.blk (Wr ?_)
     refine aH (Iv s3.1) y4 (aj LT.add af (aP (Iv (aJ (s3.1 + 1))) y4 (On (en [(4,Cc (lo 22 j62.1.length)),(5,Cc (.pl 25 0)),(6,Cc (lo 27 r2.length)),(7,Iv (aJ (s3.1 + 1)))] [(22,pR 40 aG j62.1),(25,.row 26 [[iC j62.2.1,lo 30 j62.2.2.length]]),(27,pR 40 aG r2),(30,pR 40 aG j62.2.2)] z4 z4 (aB.ent (aU.mv 30 24 Q Q) (aZ Q z4 z4))))))
  ·refine aB.fH Q ⟨Q,aU.of z2 z3⟩
 ·refine Ws (Ws (Wr ?_))
  refine bV (bJ [iC iZ.2.2,lo 24 iZ.2.1.length] Q bU ai aX) Q Q Q Q (aY fun Lc YK => (aS.pure (cF [.agg [iC iZ.2.2,lo 24 iZ.2.1.length]] [(24,pR 40 aG iZ.2.1)] (MQ (aQ.mk iZ.2.2 iZ.2.1) Lc YK) Ih (.cons (.agg (.cons (.same Q) (.cons (.dN Q Q) .nil))) .nil) J y3) z2 z1 Q Q (ah (LT.not Q) Q Q Q (On (aB.cond Q (fun JS => ?_) (fun JS => ?_))))))
  ·refine Ws (Wr ?_)
   refine dA (LT.eY (n := 33) (enc := aG) [] ([] : List aK) Q Q dK dw Q Q Q Q (by decide) (fun _ => Q) Q) Q Q (aP (Cc (lo 33 (([] : List aK).length))) y4 (aP (Bv false) au (On (en [(2,Cc (lo 33 (([] : List aK).length))),(3,Bv false)] [(33,pR 40 aG ([] : List aK))] z2 z1 (aB.ent (aU.mv 33 0 Q Q) (en [(2,Cc (lo 0 (([] : List aK).length))),(3,Bv false)] [(0,pR 40 aG ([] : List aK))] z2 z1 (aB.ret (bD.mk (.inr Q) z2 z1 Q ⟨J,ak.sc,J⟩ ⟨bK.bg jF,J⟩))))))))
  ·refine aB.skip (Ws (Wr ?_))
   refine aH (Cc (lo 22 iZ.1.length)) y4 (aP (Cc (lo 22 iZ.1.length)) y4 (aP (Bv true) au (On (en [(2,Cc (lo 22 iZ.1.length)),(3,Bv true)] [(22,pR 40 aG iZ.1)] z2 z1 (aB.ent (aU.mv 22 0 Q Q) (en [(2,Cc (lo 0 iZ.1.length)),(3,Bv true)] [(0,pR 40 aG iZ.1)] z2 z1 (aB.ret (bD.mk (.inr Q) z2 z1 Q ⟨J,ak.sc,J⟩ ⟨bK.bg jF,J⟩))))))))
end Go.Proofs.YtdmlaldifbmkpaaGreat
end
section
set_option linter.unusedVariables false
set_option linter.unusedSimpArgs false
set_option linter.unnecessarySimpa false
set_option maxRecDepth 100000
set_option maxHeartbeats 8000000
open Go Go.Fw
namespace Go.Proofs.YtdmlaldifbmkpaaGreat
theorem Tj (a : (List aK)) (b : (List aK)) : FT Tryz.prog (zn a b) 20 [.c (xF aG a),.c (xF aG b)] [] (fun (t : Bool) => [.c (bC t)]) (fun (t : Bool) => []) [] := by
 refine FT.of [] Tryz.func20 Tryz.ntmps20 Q y2 ?_
 intro w0 U0 R0 g0
 unfold zn
 refine Ws (Wr ?_)
 refine aP (Bv false) au (On (Ws (Ws (Wr ?_))))
 refine aH (Cc (xF aG a)) y4 (ah (LT.gY Q dK) Q Q Q (aH (Cc (xF aG b)) y4 (ah (LT.gY Q dK) Q Q Q (aj LT.neq y5 (On (aB.cond Q (fun hc1 => ?_) (fun hc1 => ?_)))))))
 ·refine Ws (Wr ?_)
  refine aP (Bv false) au (On (aB.ret (bD.mk (.inr Q) z1 J Q ⟨ak.sc,J⟩ J)))
 ·refine aB.skip (Ws (Ws (Wr ?_)))
  refine aP (Iv 0) au (On (aB.block ?_))
  refine aB.oC (id := 0) (zo a b) (fun s2 => ([(0,Cc (xF aG a)),(1,Cc (xF aG b)),(5,Iv s2)],[])) (fun b11 => ([],[])) (bD Tryz.prog Tryz.f20.results.toList [] [] (fun (t : Bool) => [.c (bC t)]) (fun (t : Bool) => [])) ?_ (aU.of z3 J) Q (fun b11 _ => ?_) (by intro r t σ m ht hk; injection ht with ht; subst ht; exact hk)
  ·intro s2
   unfold zo
   refine Ws (Ws (Wr ?_))
   refine aH (Iv s2) y4 (aH (Cc (xF aG a)) y4 (ah (LT.gY Q dK) Q Q Q (aj LT.lss y5 (On (aB.cond Q (fun hc12 => ?_) (fun hc12 => ?_))))))
   ·refine aB.skip (Ws (aB.block (Ws (aB.draw mixed ?_))))
    refine bY (Cc (xF aG a)) y4 (bY (Iv s2) y4 (aT.bind fun wJ J7 => (eG (LT.fO (enc := aG) Q iJ J7 dM) Q Q Q Q (bf (LT.ni Q jO (dQ gV) (by exact dM.symm)) Q Q Q (bY (Cc (xF aG b)) y4 (bY (Iv s2) y4 (aT.bind fun x14 Cm => (eG (LT.fO (enc := aG) Q iJ Cm dM) Q Q Q Q (bf (LT.ni Q jO (dQ gV) (by exact dM.symm)) Q Q Q (eG (LT.Z9 [wJ.A,wJ.B] [x14.A,x14.B] Q Zb Q Q) Q Q Q Q (aT.nil (by kernel_rfl) ?_)))))))))))
    refine aB.cond Q (fun Bo => ?_) (fun Bo => ?_)
    ·refine Ws (en [] [] J J (Wr (aP (Bv false) au (On (aB.ret ⟨Q,bD.mk (.inr Q) z1 J Q ⟨ak.sc,J⟩ J⟩)))))
    ·refine aB.skip (aB.blk ?_)
     refine en [(0,Cc (xF aG a)),(1,Cc (xF aG b)),(5,Iv s2)] [] z3 J (Wr (aH (Iv s2) y4 (aj LT.add af (aP (Iv (aJ (s2 + 1))) y4 (On (aZ Q z3 J))))))
   ·refine aB.fH Q ⟨Q,aU.of J J⟩
  ·refine Ws (Wr ?_)
   refine aP (Bv true) au (On (aB.ret (bD.mk (.inr Q) z1 J Q ⟨ak.sc,J⟩ J)))
theorem aBm (code : (List Int)) : FT Tryz.prog (Dk code) 24 [.c (xT bF code)] [] (fun (t : (aQ × (List Int))) => [.agg [iC t.1.aF,lo 0 t.1.aA.length],.c (lo 1 t.2.length)]) (fun (t : (aQ × (List Int))) => [(0,pR 40 aG t.1.aA),(1,pR 3 aC t.2)]) [0,1] := by
 refine FT.of [] Tryz.func24 Tryz.ntmps24 Q y2 ?_
 intro w0 U0 R0 g0
 unfold Dk
 refine Ws (Wr ?_)
 refine dA (LT.alloc (n := 21) (cells := [iC 0,sC aO]) Q fK Q Q Q) Q Q (aP (Cc (sC aO)) au (On (Ws (Wr ?_))))
 refine aH (Cc (xT bF code)) y4 (aY fun r1 hr1 => (aS.step (bH [.c (xT bF code)] (Fw.Fn.ren [(0,23)] (H8 code r1 hr1) Q) FD (lI Q) J y3) z2 J Q Q (aP (Cc (.pl 23 0)) y4 (On (Ws (Wr ?_))))))
 refine aH (Cc (.pl 23 0)) y4 (aY fun r2 hr2 => (aS.step (bH [.c (.pl 23 0)] (Fw.Fn.ren [(0,23),(1,25)] (UC r1 r2 hr2) Q) OT (lI Q) z1 y3) z2 z1 Q Q (dA (LT.alloc (n := 26) (cells := [iC 0,sC aO]) Q fK Q Q Q) Q Q (bW (stA [iC r2.1.aF,lo 25 r2.1.aA.length] Q Q ai aX) Q Q Q Q Q (On (Ws ?_))))))
 refine en [(2,Cc (.pl 21 0)),(4,Cc (.pl 23 0)),(5,Cc (.pl 26 0))] [(21,.row 26 [[iC 0,sC aO]]),(23,.row 105 [[xT bF r2.2.b,iC r2.2.i,iC r2.2.h]]),(25,pR 40 aG r2.1.aA),(26,.row 26 [[iC r2.1.aF,lo 25 r2.1.aA.length]])] z3 z4 (Wr (dA (LT.eY (n := 27) (enc := aC) [] ([] : List Int) Q Q dO fF Q Q Q Q (by decide) (fun _ => Q) Q) Q Q (aP (Cc (lo 27 (([] : List Int).length))) y4 (On (Ws (Ws (Wr ?_)))))))
 refine aH (Cc (.pl 23 0)) y4 (aY fun r3 hr3 => (aS.step (bH [.c (.pl 23 0),.c (iC 3)] (Fw.Fn.ren [(0,23)] (jq r2.2 3 r3 hr3) Q) jk (gK y2) z1 y3) ⟨Q,Q,y2,J⟩ z1 Q Q (aP (Iv r3.1) y4 (On (aB.block ?_)))))
 refine aB.iy (id := 0) (AA r2) (fun s4 => ([(2,Cc (.pl 21 0)),(4,Cc (.pl 23 0)),(5,Cc (.pl 26 0)),(6,Cc (lo 27 s4.2.2.2.2.length)),(7,Iv s4.1)],[(21,.row 26 [[iC 0,sC aO]]),(23,.row 105 [[xT bF s4.2.1,iC s4.2.2.1,iC s4.2.2.2.1]]),(25,pR 40 aG r2.1.aA),(26,.row 26 [[iC r2.1.aF,lo 25 r2.1.aA.length]]),(27,pR 3 aC s4.2.2.2.2)])) (fun b11 => ([(2,Cc (.pl 21 0)),(5,Cc (.pl 26 0)),(6,Cc (lo 27 b11.2.2.length))],[(21,.row 26 [[iC 0,sC aO]]),(25,pR 40 aG b11.1),(26,.row 26 [[iC b11.2.1,lo 25 b11.1.length]]),(27,pR 3 aC b11.2.2)])) ?_ (aU.of z5 z5) Q (fun b11 _ => ?_)
 ·intro s4
  unfold AA
  refine Ws (Ws (Wr ?_))
  refine aH (Iv s4.1) y4 (aj LT.gtr af (On (aB.cond Q (fun hc12 => ?_) (fun hc12 => ?_))))
  ·refine aB.skip (Ws (aB.block (Wr ?_)))
   refine aH (Cc (lo 27 s4.2.2.2.2.length)) y4 (aH (Cc (.pl 23 0)) y4 (aY fun r13 tH => (aS.step (bH [.c (.pl 23 0),.c (iC 9)] (Fw.Fn.ren [(0,23)] (jq (dB.mk s4.2.1 s4.2.2.1 s4.2.2.2.1) 9 r13 tH) Q) jk (gK y2) z1 y3) ⟨Q,Q,y2,J⟩ z1 Q Q (aj LT.sub af (dF (LT.eY (n := 30) (enc := aC) [(0,.tmp 22,.c (iC (aJ (r13.1 - 1))))] ([aJ (r13.1 - 1)] : List Int) Q Q dO fF Q Q Q Q (by decide) (fun _ => Q) Q) Q Q Q (aY fun u14 Ju => (kR (LT.jg (enc := aC) Q Q Q dO fF Q (by decide) (by decide) (fun _ => Q) (iG Ju)) Q Q Q Q Q Q (aP (Cc (lo 27 ((s4.2.2.2.2 ++ ([aJ (r13.1 - 1)] : List Int)).length))) y4 (On (aB.blk ?_))))))))))
   refine en [(2,Cc (.pl 21 0)),(4,Cc (.pl 23 0)),(5,Cc (.pl 26 0)),(6,Cc (lo 27 ((s4.2.2.2.2 ++ ([aJ (r13.1 - 1)] : List Int)).length))),(7,Iv s4.1)] [(21,.row 26 [[iC 0,sC aO]]),(23,.row 105 [[xT bF r13.2.b,iC r13.2.i,iC r13.2.h]]),(25,pR 40 aG r2.1.aA),(26,.row 26 [[iC r2.1.aF,lo 25 r2.1.aA.length]]),(27,pR 3 aC (s4.2.2.2.2 ++ ([aJ (r13.1 - 1)] : List Int)))] z5 z5 (Wr (aH (Iv s4.1) y4 (aj LT.sub af (aP (Iv (aJ (s4.1 - 1))) y4 (On (aZ Q z5 z5))))))
  ·refine aB.fH Q ⟨Q,aU.of z3 z4⟩
 ·refine Ws (Wr ?_)
  refine bV (bJ [iC b11.2.1,lo 25 b11.1.length] Q bU ai aX) Q Q Q Q (aH (Cc (lo 27 b11.2.2.length)) y4 (bW (stA [iC b11.2.1,lo 25 b11.1.length] Q Q ai aX) Q Q Q Q Q (aP (Cc (lo 27 b11.2.2.length)) y4 (On (en [(2,Cc (.pl 21 0)),(3,Cc (lo 27 b11.2.2.length))] [(21,.row 26 [[iC b11.2.1,lo 25 b11.1.length]]),(25,pR 40 aG b11.1),(27,pR 3 aC b11.2.2)] z2 z3 (aB.ent (aU.mv 27 1 Q Q) (aB.ent (aU.mv 25 0 Q Q) (en [(2,Cc (.pl 21 0)),(3,Cc (lo 1 b11.2.2.length))] [(0,pR 40 aG b11.1),(1,pR 3 aC b11.2.2),(21,.row 26 [[iC b11.2.1,lo 0 b11.1.length]])] z2 z3 (aB.ret (bD.mk (.inr Q) ⟨⟨_,_,_,Q,Q,Q,bU,aX,_,dQ ai⟩,Q,J⟩ z2 Q ⟨⟨ak.sc,J,J⟩,J,J⟩ ⟨bK.bg jF,bK.bg dS,J⟩))))))))))
theorem aBn (code : (List Int)) : FT Tryz.prog (Dl code) 25 [.c (xT bF code)] [] (fun (t : aQ) => [.agg [iC t.aF,lo 0 t.aA.length]]) (fun (t : aQ) => [(0,pR 40 aG t.aA)]) [0] := by
 refine FT.of [] Tryz.func25 Tryz.ntmps25 Q y2 ?_
 intro w0 U0 R0 g0
 unfold Dl
 refine Ws (Wr ?_)
 refine dA (LT.alloc (n := 21) (cells := [iC 0,sC aO]) Q fK Q Q Q) Q Q (On (Ws (Wr ?_)))
 refine aH (Cc (xT bF code)) y4 (aY fun r1 hr1 => (aS.step (bH [.c (xT bF code)] (Fw.Fn.ren [(0,23)] (H8 code r1 hr1) Q) FD (lI Q) J y3) z2 J Q Q (aY fun r2 hr2 => (aS.step (bH [.c (.pl 23 0)] (Fw.Fn.ren [(0,23),(1,25)] (UE r1 r2 hr2) Q) OX (lI Q) z1 y3) z2 z1 Q Q (bW (stA [iC r2.1.aF,lo 25 r2.1.aA.length] Q Q ai aX) Q Q Q Q Q (On (en [(2,Cc (.pl 21 0))] [(21,.row 26 [[iC r2.1.aF,lo 25 r2.1.aA.length]]),(25,pR 40 aG r2.1.aA)] z1 z2 (aB.ent (aU.mv 25 0 Q Q) (en [(2,Cc (.pl 21 0))] [(0,pR 40 aG r2.1.aA),(21,.row 26 [[iC r2.1.aF,lo 0 r2.1.aA.length]])] z1 z2 (aB.ret (bD.mk (.inr Q) ⟨⟨_,_,_,Q,Q,Q,bU,aX,_,dQ ai⟩,J⟩ z1 Q ⟨⟨ak.sc,J,J⟩,J⟩ ⟨bK.bg jF,J⟩)))))))))))
theorem aBt (g : aQ) (broken : (List Int)) : FT Tryz.prog (Dv g broken) 26 [.agg [iC g.aF,xF aG g.aA],.c (xF aC broken)] [] (fun (t : Bool) => [.c (bC t)]) (fun (t : Bool) => []) [] := by
 refine FT.of [] Tryz.func26 Tryz.ntmps26 Q y2 ?_
 intro w0 U0 R0 g0
 unfold Dv
 refine Ws (Wr ?_)
 refine dF (LT.box (n := 21) (v := (.agg [iC g.aF,xF aG g.aA])) Q aX (by exact Q)) Q Q Q (aP (Bv false) au (On (Ws (Wr ?_))))
 refine dA (LT.eY (n := 22) (enc := aC) [] ([] : List Int) Q Q dO fF Q Q Q Q (by decide) (fun _ => Q) Q) Q Q (aP (Cc (lo 22 (([] : List Int).length))) y4 (On (Ws (Ws (Wr ?_)))))
 refine aP (Iv 0) au (On (aB.block ?_))
 refine aB.iy (id := 0) (xu g broken) (fun s1 => ([(1,Cc (xF aC broken)),(2,Cc (.pl 21 0)),(5,Cc (lo 22 s1.2.length)),(6,Iv s1.1)],[(21,.row 26 [[iC g.aF,xF aG g.aA]]),(22,pR 3 aC s1.2)])) (fun b16 => ([(2,Cc (.pl 21 0)),(5,Cc (lo 22 b16.length))],[(21,.row 26 [[iC g.aF,xF aG g.aA]]),(22,pR 3 aC b16)])) ?_ (aU.of z4 z2) Q (fun b16 _ => ?_)
 ·intro s1
  unfold xu
  refine Ws (Ws (Wr ?_))
  refine aH (Iv s1.1) y4 (cZ (xF aG g.aA) dP dY bG (ah (LT.gY Q dK) Q Q Q (aj LT.lss y5 (On (aB.cond Q (fun hc17 => ?_) (fun hc17 => ?_))))))
  ·refine aB.skip (Ws (aB.block (Ws (Wr ?_))))
   refine aH (Cc (xF aC broken)) y4 (aH (Iv s1.1) y4 (aY fun fJ qi => (aS.pure (bH [.c (xF aC broken),.c (iC s1.1)] (MW broken s1.1 fJ qi) Ig (gK y2) J y3) z3 J Q Q (ah (LT.not Q) Q Q Q (On (aB.dZ (fun j21 => ([(1,Cc (xF aC broken)),(2,Cc (.pl 21 0)),(5,Cc (lo 22 j21.length)),(6,Iv s1.1)],[(21,.row 26 [[iC g.aF,xF aG g.aA]]),(22,pR 3 aC j21)])) ?_ (fun j21 _ => ?_)))))))
   ·refine aB.cond Q (fun hc22 => ?_) (fun hc22 => ?_)
    ·refine Wr (aH (Cc (lo 22 s1.2.length)) y4 (aH (Iv s1.1) y4 (dF (LT.eY (n := 24) (enc := aC) [(0,.tmp 20,.c (iC s1.1))] ([s1.1] : List Int) Q Q dO fF Q Q Q Q (by decide) (fun _ => Q) Q) Q Q Q (aY fun u23 Jv => (kR (LT.jg (enc := aC) Q Q Q dO fF Q (by decide) (by decide) (fun _ => Q) (iG Jv)) Q Q Q Q Q Q (aP (Cc (lo 22 ((s1.2 ++ ([s1.1] : List Int)).length))) y4 (On (aZ Q z4 z2))))))))
    ·refine aB.skip (aZ Q z4 z2)
   ·refine aB.blk (Wr ?_)
    refine aH (Iv s1.1) y4 (aj LT.add af (aP (Iv (aJ (s1.1 + 1))) y4 (On (aZ Q z4 z2))))
  ·refine aB.fH Q ⟨Q,aU.of z2 z2⟩
 ·refine Ws (aB.dZ (fun j28 => ([(4,Bv j28)],[])) ?_ (fun j28 _ => ?_))
  ·refine Wr (bV (bJ [iC g.aF,xF aG g.aA] Q bU ai aX) Q Q Q Q (aY fun uP Ji => (aS.pure (bH [.agg [iC g.aF,xF aG g.aA]] (sH g uP Ji) rE (jL y2) J y3) z2 J Q Q (aH (Bv uP) y4 (aS.split (fun lD => ?_) (fun lD => ?_))))))
   ·refine bV (bJ [iC g.aF,xF aG g.aA] Q bU ai aX) Q Q (gH lD Q Q) Q (dn (Cc (lo 22 b16.length)) lD y5 (aY fun bI qJ => (aS.step (cF [.agg [iC g.aF,xF aG g.aA],.c (lo 22 b16.length)] [(22,pR 3 aC b16)] (Fw.Fn.ren [(0,27)] (aBu g b16 bI qJ) Q) Vf (.cons (.agg (.cons (.same Q) (.cons (.same Q) .nil))) (.cons (.c (.dN Q Q)) .nil)) J y3) z3 z1 (gH lD Q Q) Q (aY fun r32 xG => (aS.pure (cF [.agg [iC bI.aF,lo 27 bI.aA.length]] [(27,pR 40 aG bI.aA)] (MQ bI r32 xG) Ih (.cons (.agg (.cons (.same Q) (.cons (.dN Q Q) .nil))) .nil) J y3) z2 z1 (gH lD Q Q) Q (dL (Bv r32) lD y5 (aP (Bv r32) y4 (On (aZ Q z1 J)))))))))
   ·refine aV lD y5 (aV lD y5 (aV lD y5 (aV lD y5 (eH (Bv false) lD af (aP (Bv false) y4 (On (aZ Q z1 J)))))))
  ·refine aB.ret (bD.mk (.inr Q) z1 J Q ⟨ak.sc,J⟩ J)
theorem aBh (code : (List Int)) : FT Tryz.prog (GK code) 3 [.c (xT bF code)] [] (fun (t : Bool) => [.c (bC t)]) (fun (t : Bool) => []) [] := by
 refine FT.of [] Tryz.func3 Tryz.ntmps3 Q y2 ?_
 intro w0 U0 R0 g0
 unfold GK
 refine Ws (Wr ?_)
 refine aP (Bv false) au (On (Ws (Ws (Wr ?_))))
 refine aH (Cc (xT bF code)) y4 (aY fun r1 hr1 => (aS.pure (bH [.c (xT bF code)] (aBi code r1 hr1) VU (.cons (.c (.weak (.same Q) (QW.xsm aAO (fun h => by cases h) _))) .nil) J y3) z2 J Q Q (On (aB.cond Q (fun hc2 => ?_) (fun hc2 => ?_)))))
 ·refine Ws (Wr ?_)
  refine aP (Bv true) au (On (aB.ret (bD.mk (.inr Q) z1 J Q ⟨ak.sc,J⟩ J)))
 ·refine aB.skip (Ws (Wr ?_))
  refine aH (Cc (xT bF code)) y4 (aY fun r3 hr3 => (aS.step (bH [.c (xT bF code)] (Fw.Fn.ren [(0,23)] (aBo code r3 hr3) Q) VW (lI Q) J y3) z2 J Q Q (dA (LT.alloc (n := 24) (cells := [iC 0,sC aO]) Q fK Q Q Q) Q Q (bW (stA [iC r3.aF,lo 23 r3.aA.length] Q Q ai aX) Q Q Q Q Q (On (Ws ?_))))))
  refine en [(0,Cc (xT bF code)),(3,Cc (.pl 24 0))] [(23,pR 40 aG r3.aA),(24,.row 26 [[iC r3.aF,lo 23 r3.aA.length]])] z2 z2 (Wr (bV (bJ [iC r3.aF,lo 23 r3.aA.length] Q bU ai aX) Q Q Q Q (aY fun r4 hr4 => (aS.step (cF [.agg [iC r3.aF,lo 23 r3.aA.length]] [(23,pR 40 aG r3.aA)] (Fw.Fn.ren [(0,26)] (aBW r3 r4 hr4) Q) VY (.cons (.agg (.cons (.same Q) (.cons (.dN Q Q) .nil))) .nil) J y3) z2 z1 Q Q (aP (Cc (lo 26 r4.length)) y4 (On (Ws (Wr ?_))))))))
  refine bV (bJ [iC r3.aF,lo 23 r3.aA.length] Q bU ai aX) Q Q Q Q (aY fun r5 lW => (aS.step (cF [.agg [iC r3.aF,lo 23 r3.aA.length]] [(23,pR 40 aG r3.aA)] (Fw.Fn.ren [(0,28)] (MK r3 r5 lW) Q) Ik (.cons (.agg (.cons (.same Q) (.cons (.dN Q Q) .nil))) .nil) J y3) z2 z1 Q Q (aP (Cc (lo 28 r5.length)) y4 (On (Ws (Ws ?_))))))
  refine aB.dZ (fun j17 => ([(0,Cc (xT bF code)),(3,Cc (.pl 24 0)),(60,Bv j17)],[(23,pR 40 aG r3.aA),(24,.row 26 [[iC r3.aF,lo 23 r3.aA.length]])])) ?_ (fun j17 _ => ?_)
  ·refine aB.draw mixed (bY (Cc (lo 26 r4.length)) y4 (fU (bJ [iC r3.aF,lo 23 r3.aA.length] Q bU ai aX) Q Q Q Q (aT.bind fun fJ qi => (aT.step (cF [.agg [iC r3.aF,lo 23 r3.aA.length]] [(23,pR 40 aG r3.aA)] (Fw.Fn.ren [(0,30)] (aBw r3 fJ qi) Q) Uu (.cons (.agg (.cons (.same Q) (.cons (.dN Q Q) .nil))) .nil) J y3) z2 z1 Q Q (aT.bind fun fE tJ => (aT.pure (cF [.c (lo 26 r4.length),.c (lo 30 fJ.length)] [(26,pR 3 aC r4),(30,pR 3 aC fJ)] (Tm r4 fJ fE tJ) Nw (.cons (.c (.dN Q Q)) (.cons (.c (.dN Q Q)) .nil)) J y3) z3 z2 Q Q (bf (LT.not Q) Q Q Q (bY (Bv (!fE)) y4 (aT.split (fun pY => ?_) (fun pY => ?_))))))))))
   ·refine ax pY y3 (ax pY y3 (ax pY y3 (ax pY y3 (ax pY y3 (jE (Bv true) pY af (bY (Bv true) y4 (aW y3 (aW y3 (aW y3 (aW y3 (aW y3 ?_)))))))))))
    refine jE (Bv true) Q af (bY (Bv true) y4 (aW y3 (aW y3 (aW y3 (aW y3 (aW y3 (aW y3 (aW y3 (aW y3 (aW y3 (aW y3 ?_)))))))))))
    refine aW y3 (aW y3 (aW y3 (jE (Bv true) Q af (aT.nil (by kernel_rfl) (aZ Q z3 z2)))))
   ·refine jD (Cc (lo 28 r5.length)) pY y5 (fU (bJ [iC r3.aF,lo 23 r3.aA.length] Q bU ai aX) Q Q (gH pY Q Q) Q (aT.bind fun bn xC => (aT.step (cF [.agg [iC r3.aF,lo 23 r3.aA.length]] [(23,pR 40 aG r3.aA)] (Fw.Fn.ren [(0,33)] (Tt r3 bn xC) Q) Ny (.cons (.agg (.cons (.same Q) (.cons (.dN Q Q) .nil))) .nil) J y3) z2 z1 (gH pY Q Q) Q (aT.bind fun r22 Cb => (aT.pure (cF [.c (lo 28 r5.length),.c (lo 33 bn.length)] [(28,pR 3 aC r5),(33,pR 3 aC bn)] (Tm r5 bn r22 Cb) Nw (.cons (.c (.dN Q Q)) (.cons (.c (.dN Q Q)) .nil)) J y3) z3 z2 (gH pY Q Q) Q (bf (LT.not Q) Q (gH pY Q Q) Q (jX (Bv (!r22)) pY y5 (bY (Bv (!r22)) y4 (aT.split (fun pq => ?_) (fun pq => ?_))))))))))
    ·refine ax pq y3 (ax pq y3 (ax pq y3 (ax pq y3 (ax pq y3 (jE (Bv true) pq af (bY (Bv true) y4 (aW y3 (aW y3 (aW y3 (aW y3 (aW y3 ?_)))))))))))
     refine aW y3 (aW y3 (aW y3 (aW y3 (aW y3 (aW y3 (aW y3 (aW y3 (jE (Bv true) Q af (aT.nil (by kernel_rfl) (aZ Q z3 z2))))))))))
    ·refine fU (bJ [iC r3.aF,lo 23 r3.aA.length] Q bU ai aX) Q Q (gH pq Q Q) Q (aT.bind fun gu xE => (aT.pure (cF [.agg [iC r3.aF,lo 23 r3.aA.length]] [(23,pR 40 aG r3.aA)] (TU r3 gu xE) Nz (.cons (.agg (.cons (.same Q) (.cons (.dN Q Q) .nil))) .nil) J y3) z2 z1 (gH pq Q Q) Q (fU (bJ [iC r3.aF,lo 23 r3.aA.length] Q bU ai aX) Q Q (gH pq Q Q) Q (aT.bind fun r25 Ce => (aT.pure (cF [.agg [iC r3.aF,lo 23 r3.aA.length]] [(23,pR 40 aG r3.aA)] (aBs r3 r25 Ce) U1 (.cons (.agg (.cons (.same Q) (.cons (.dN Q Q) .nil))) .nil) J y3) z2 z1 (gH pq Q Q) Q (eG (LT.Qy Q MI) Q Q (gH pq Q Q) Q (jX (Bv (gu != r25)) pq y5 (bY (Bv (gu != r25)) y4 (aT.split (fun pz => ?_) (fun pz => ?_))))))))))
     ·refine ax pz y3 (ax pz y3 (ax pz y3 (aW y3 (aW y3 (aW y3 (aW y3 (aW y3 (aW y3 (aW y3 (aW y3 (aW y3 ?_)))))))))))
      refine ax pz y3 (jE (Bv true) pz af (aT.nil (by kernel_rfl) (aZ Q z3 z2)))
     ·refine fU (bJ [iC r3.aF,lo 23 r3.aA.length] Q bU ai aX) Q Q (gH pz Q Q) Q (aT.bind fun r27 X8 => (aT.pure (cF [.agg [iC r3.aF,lo 23 r3.aA.length]] [(23,pR 40 aG r3.aA)] (sH r3 r27 X8) rE (.cons (.agg (.cons (.same Q) (.cons (.dN Q Q) .nil))) .nil) J y3) z2 z1 (gH pz Q Q) Q (jD (Bv r27) pz y5 (aT.split (fun jm => ?_) (fun jm => ?_)))))
      ·refine jD (Cc (lo 26 r4.length)) jm y5 (bf (LT.lX Q dO) Q (gH jm Q Q) Q (jD (Cc (lo 28 r5.length)) jm y5 (bf (LT.lX Q dO) Q (gH jm Q Q) Q (ku LT.add jm y6 (kT (lo 23 r3.aA.length) dP dY jm fB (bf (LT.lX Q dK) Q (gH jm Q Q) Q (ku LT.neq jm y6 (eG (LT.oH (v := (Bv ((aJ ((r4.length : Int) + (r5.length : Int))) != (r3.aA.length : Int)))) Q jm) Q Q (gH pz Q Q) Q (jX (Bv ((aJ ((r4.length : Int) + (r5.length : Int))) != (r3.aA.length : Int))) pz y5 (aT.nil (by kernel_rfl) ?_))))))))))
       refine aZ Q z3 z2
      ·refine ax jm y3 (ax jm y3 (ax jm y3 (ax jm y3 (ax jm y3 (ax jm y3 (ax jm y3 (ax jm y3 (ax jm y3 (eG (LT.oG (v := (Bv false)) Q jm) Q y2 (gH pz Q Q) Q (jX (Bv false) pz y5 (aT.nil (by kernel_rfl) ?_)))))))))))
       refine aZ Q z3 z2
  ·refine aB.cond Q (fun hc29 => ?_) (fun hc29 => ?_)
   ·refine Ws (Wr ?_)
    refine aP (Bv false) au (On (aB.ret (bD.mk (.inr Q) z1 J Q ⟨ak.sc,J⟩ J)))
   ·refine aB.skip (Ws (Ws (Wr ?_)))
    refine aP (Iv 0) au (On (aB.block ?_))
    refine aB.oC (id := 0) (xY r3) (fun nV => ([(0,Cc (xT bF code)),(3,Cc (.pl 24 0)),(6,Iv nV)],[(23,pR 40 aG r3.aA),(24,.row 26 [[iC r3.aF,lo 23 r3.aA.length]])])) (fun Nc => ([(0,Cc (xT bF code))],[])) (bD Tryz.prog Tryz.f3.results.toList [] [] (fun (t : Bool) => [.c (bC t)]) (fun (t : Bool) => [])) ?_ (aU.of z3 z2) Q (fun Nc _ => ?_) (by intro r t σ m ht hk; injection ht with ht; subst ht; exact hk)
    ·intro nV
     unfold xY
     refine Ws (Ws ?_)
     refine aB.dZ (fun j50 => ([(0,Cc (xT bF code)),(3,Cc (.pl 24 0)),(6,Iv nV),(69,Bv j50)],[(23,pR 40 aG r3.aA),(24,.row 26 [[iC r3.aF,lo 23 r3.aA.length]])])) ?_ (fun j50 _ => ?_)
     ·refine Wr (aH (Iv nV) y4 (cZ (lo 23 r3.aA.length) dP dY bG (ah (LT.lX Q dK) Q Q Q (aj LT.lss y5 (aH (Bv (decide (nV < (r3.aA.length : Int)))) y4 (aS.split (fun jR => ?_) (fun jR => ?_)))))))
      ·refine bV (bJ [iC r3.aF,lo 23 r3.aA.length] Q bU ai aX) Q Q (gH jR Q Q) Q (aY fun Gw YE => (aS.pure (cF [.agg [iC r3.aF,lo 23 r3.aA.length]] [(23,pR 40 aG r3.aA)] (TU r3 Gw YE) Nz (.cons (.agg (.cons (.same Q) (.cons (.dN Q Q) .nil))) .nil) J y3) z2 z1 (gH jR Q Q) Q (dL (Bv Gw) jR y5 (On (aZ Q z4 z2)))))
      ·refine aV jR y5 (aV jR y5 (eH (Bv false) jR af (On (aZ Q z4 z2))))
     ·refine aB.cond Q (fun CJ => ?_) (fun CJ => ?_)
      ·refine aB.skip (Ws (aB.block (Ws (Wr ?_))))
       refine bV (bJ [iC r3.aF,lo 23 r3.aA.length] Q bU ai aX) Q Q Q Q (aH (Iv nV) y4 (dF (LT.eY (n := 39) (enc := aC) [(0,.tmp 73,.c (iC nV))] ([nV] : List Int) Q Q dO fF Q Q Q Q (by decide) (fun _ => Q) Q) Q Q Q (aY fun La YF => (aS.pure (cF [.agg [iC r3.aF,lo 23 r3.aA.length],.c (lo 39 (([nV] : List Int).length))] [(23,pR 40 aG r3.aA),(39,pR 3 aC ([nV] : List Int))] (TV r3 ([nV] : List Int) La YF) N9 (.cons (.agg (.cons (.same Q) (.cons (.dN Q Q) .nil))) (.cons (.c (.dN Q Q)) .nil)) J y3) z3 z2 Q Q (ah (LT.not Q) Q Q Q (On (aB.cond Q (fun XI => ?_) (fun XI => ?_))))))))
       ·refine Ws (Wr ?_)
        refine aP (Bv false) au (On (aB.ret ⟨Q,bD.mk (.inr Q) z1 J Q ⟨ak.sc,J⟩ J⟩))
       ·refine aB.skip (aB.blk (Wr ?_))
        refine aH (Iv nV) y4 (aj LT.add af (aP (Iv (aJ (nV + 1))) y4 (On (aZ Q z3 z2))))
      ·refine aB.fH Q ⟨Q,aU.of z1 J⟩
    ·refine Ws (Wr ?_)
     refine aH (Cc (xT bF code)) y4 (aY fun iR YG => (aS.step (bH [.c (xT bF code)] (Fw.Fn.ren [(0,42)] (aBl code iR YG) Q) VA (lI Q) J y3) z2 J Q Q (dA (LT.alloc (n := 43) (cells := [iC 0,sC aO]) Q fK Q Q Q) Q Q (bW (stA [iC iR.aF,lo 42 iR.aA.length] Q Q ai aX) Q Q Q Q Q (On (Ws (Wr ?_)))))))
     refine bV (bJ [iC iR.aF,lo 42 iR.aA.length] Q bU ai aX) Q Q Q Q (aY fun je Jk => (aS.step (cF [.agg [iC iR.aF,lo 42 iR.aA.length]] [(42,pR 40 aG iR.aA)] (Fw.Fn.ren [(0,45)] (aBR iR je Jk) Q) VH (.cons (.agg (.cons (.same Q) (.cons (.dN Q Q) .nil))) .nil) J y3) z2 z1 Q Q (aH (.dI [.c (lo 45 je.1.length),.c (bC je.2)]) y4 (ah (LT.extract (v := (.c (lo 45 je.1.length))) Q (by exact Q)) Q Q Q (ah (LT.extract (v := (.c (bC je.2))) Q (by exact Q)) Q Q Q (aP (Cc (lo 45 je.1.length)) y4 (aP (Bv je.2) y4 (On (Ws ?_)))))))))
     refine en [(0,Cc (xT bF code)),(7,Cc (.pl 43 0)),(8,Cc (lo 45 je.1.length)),(9,Bv je.2)] [(42,pR 40 aG iR.aA),(43,.row 26 [[iC iR.aF,lo 42 iR.aA.length]]),(45,pR 40 aG je.1)] z4 z3 (Wr (bV (bJ [iC iR.aF,lo 42 iR.aA.length] Q bU ai aX) Q Q Q Q (aY fun iT YH => (aS.step (cF [.agg [iC iR.aF,lo 42 iR.aA.length]] [(42,pR 40 aG iR.aA)] (Fw.Fn.ren [(0,47)] (aBp iR iT YH) Q) VJ (.cons (.agg (.cons (.same Q) (.cons (.dN Q Q) .nil))) .nil) J y3) z2 z1 Q Q (aH (.dI [.c (lo 47 iT.1.length),.c (bC iT.2)]) y4 (ah (LT.extract (v := (.c (lo 47 iT.1.length))) Q (by exact Q)) Q Q Q (ah (LT.extract (v := (.c (bC iT.2))) Q (by exact Q)) Q Q Q (aP (Cc (lo 47 iT.1.length)) y4 (aP (Bv iT.2) y4 (On (Ws (Ws ?_))))))))))))
     refine aB.dZ (fun j64 => ([(0,Cc (xT bF code)),(7,Cc (.pl 43 0)),(9,Bv je.2),(10,Cc (lo 47 iT.1.length)),(107,Bv j64)],[(42,pR 40 aG iR.aA),(43,.row 26 [[iC iR.aF,lo 42 iR.aA.length]]),(47,pR 40 aG iT.1)])) ?_ (fun j64 _ => ?_)
     ·refine Wr (aH (Bv je.2) y4 (aH (Bv iT.2) y4 (fA (LT.Qy Q MI) Q Q Q Q (aH (Bv (je.2 != iT.2)) y4 (aS.split (fun qf => ?_) (fun qf => ?_))))))
      ·refine aV qf y5 (aV qf y5 (aV qf y5 (aV qf y5 (dL (Bv true) qf af (aH (Bv true) y4 (bT y5 (bT y5 (Oj Q Q Q Q (Oj Q Q Q Q (Oj Q Q Q Q (Oj Q Q Q Q ?_)))))))))))
       refine Oj Q Q Q Q (bT y5 (dL (Bv true) Q af (On (aZ Q z5 z3))))
      ·refine dn (Cc (lo 45 je.1.length)) qf y5 (dn (Cc (lo 47 iT.1.length)) qf y5 (aY fun EQ YJ => (aS.pure (cF [.c (lo 45 je.1.length),.c (lo 47 iT.1.length)] [(45,pR 40 aG je.1),(47,pR 40 aG iT.1)] (Tj je.1 iT.1 EQ YJ) OJ (.cons (.c (.dN Q Q)) (.cons (.c (.dN Q Q)) .nil)) J y3) z3 z2 (gH qf Q Q) Q (ah (LT.not Q) Q (gH qf Q Q) Q (eH (Bv (!EQ)) qf y5 (aH (Bv (!EQ)) y4 (aS.split (fun qg => ?_) (fun qg => ?_))))))))
       ·refine aV qg y5 (aV qg y5 (Oj Q Q Q Q (Oj Q Q Q Q (Oj Q Q Q Q (Oj Q Q Q Q (Oj Q Q Q Q (aV qg y5 (dL (Bv true) qg af (On (aZ Q z5 z3))))))))))
       ·refine dn (Bv je.2) qg y5 (dn (Bv je.2) qg y5 (aS.split (fun iL => ?_) (fun iL => ?_)))
        ·refine dn (Cc (lo 47 iT.1.length)) iL y5 (ah (LT.lX Q dK) Q (gH iL Q Q) Q (bV (bJ [iC iR.aF,lo 42 iR.aA.length] Q bU ai aX) Q Q (gH iL Q Q) Q (aY fun ER YL => (aS.pure (cF [.agg [iC iR.aF,lo 42 iR.aA.length]] [(42,pR 40 aG iR.aA)] (Tv iR ER YL) OL (.cons (.agg (.cons (.same Q) (.cons (.dN Q Q) .nil))) .nil) J y3) z2 z1 (gH iL Q Q) Q (fZ LT.neq iL y6 (fA (LT.oH (v := (Bv ((iT.1.length : Int) != ER))) Q iL) Q Q (gH qg Q Q) Q (eH (Bv ((iT.1.length : Int) != ER)) qg y5 (On (aZ Q z5 z3)))))))))
        ·refine aV iL y5 (aV iL y5 (aV iL y5 (aV iL y5 (aV iL y5 (fA (LT.oG (v := (Bv false)) Q iL) Q y2 (gH qg Q Q) Q (eH (Bv false) qg y5 (On (aZ Q z5 z3))))))))
     ·refine aB.cond Q (fun XK => ?_) (fun XK => ?_)
      ·refine Ws (Wr ?_)
       refine aP (Bv false) au (On (aB.ret (bD.mk (.inr Q) z1 J Q ⟨ak.sc,J⟩ J)))
      ·refine aB.skip (Ws (Ws (Wr ?_)))
       refine aH (Bv je.2) y4 (On (aB.Zc (fun j86 => ([(0,Cc (xT bF code))],[])) (bD Tryz.prog Tryz.f3.results.toList [] [] (fun (t : Bool) => [.c (bC t)]) (fun (t : Bool) => [])) ?_ (fun j86 _ => ?_) (by intro r t σ m ht hk; injection ht with ht; subst ht; exact hk)))
       ·refine aB.cond Q (fun JU => ?_) (fun JU => ?_)
        ·refine Ws (Wr ?_)
         refine bV (bJ [iC iR.aF,lo 42 iR.aA.length] Q bU ai aX) Q Q Q Q (dA (LT.alloc (n := 50) (cells := [iC 0,sC aO]) Q fK Q Q Q) Q Q (bW (stA [iC iR.aF,lo 42 iR.aA.length] Q Q ai aX) Q Q Q Q Q (On (Ws (Ws (Wr ?_))))))
         refine aP (Iv 0) au (On (aB.block ?_))
         refine aB.oC (id := 2) (zl iT) (fun jS => ([(0,Cc (xT bF code)),(10,Cc (lo 47 iT.1.length)),(12,Cc (.pl 50 0)),(13,Iv jS.1)],[(42,pR 40 aG jS.2.2),(47,pR 40 aG iT.1),(50,.row 26 [[iC jS.2.1,lo 42 jS.2.2.length]])])) (fun og => ([(0,Cc (xT bF code)),(12,Cc (.pl 50 0))],[(42,pR 40 aG og.1),(50,.row 26 [[iC og.2,lo 42 og.1.length]])])) (bD Tryz.prog Tryz.f3.results.toList [] [] (fun (t : Bool) => [.c (bC t)]) (fun (t : Bool) => [])) ?_ (aU.of z4 z3) Q (fun og _ => ?_) (by intro r t σ m ht hk; injection ht with ht; subst ht; exact ⟨Q,hk⟩)
         ·intro jS
          unfold zl
          refine Ws (Ws (Wr ?_))
          refine aH (Iv jS.1) y4 (aH (Cc (lo 47 iT.1.length)) y4 (ah (LT.lX Q dK) Q Q Q (aj LT.lss y5 (On (aB.cond Q (fun Wu => ?_) (fun Wu => ?_))))))
          ·refine aB.skip (Ws (aB.block (Ws (aB.draw mixed ?_))))
           refine fU (bJ [iC jS.2.1,lo 42 jS.2.2.length] Q bU ai aX) Q Q Q Q (bY (Cc (lo 47 iT.1.length)) y4 (bY (Iv jS.1) y4 (aT.bind fun x101 hx101 => (kz (LT.gy Q Q iJ hx101) Q Q Q Q Q (bf (LT.ig Q iO) Q Q Q (fU (LT.kQ (k := 0) Q bM hx101 (by exact Q) (by exact Q)) Q Q Q Q (bY (Cc (lo 47 iT.1.length)) y4 (bY (Iv jS.1) y4 (aT.bind fun x102 hx102 => (kz (LT.gy Q Q iJ hx102) Q Q Q Q Q (bf (LT.ig Q jd) Q Q Q ?_)))))))))))
           refine fU (LT.kQ (k := 1) Q bM hx102 (by exact Q) (by exact Q)) Q Q Q Q (aT.bind fun kD Xh => (aT.step (cF [.agg [iC jS.2.1,lo 42 jS.2.2.length],.c (iC x101.A),.c (iC x102.B)] [(42,pR 40 aG jS.2.2)] (Fw.Fn.ren [(0,52)] (H6 (aQ.mk jS.2.1 jS.2.2) x101.A x102.B kD Xh) Q) FB (.cons (.agg (.cons (.same Q) (.cons (.dN Q Q) .nil))) (.cons (.c (.same Q)) (.cons (.c (.same Q)) .nil))) J y3) z4 z1 Q Q (bY (.dI [.agg [iC kD.1.aF,lo 52 kD.1.aA.length],.c (bC kD.2)]) y4 (bf (LT.extract (v := (.agg [iC kD.1.aF,lo 52 kD.1.aA.length])) Q (by exact Q)) Q Q Q (bf (LT.extract (v := (.c (bC kD.2))) Q (by exact Q)) Q Q Q (qy (LT.alloc (n := 53) (cells := [iC 0,sC aO]) Q fK Q Q Q) Q Q (ji (stA [iC kD.1.aF,lo 52 kD.1.aA.length] Q Q ai aX) Q Q Q Q Q (bf (LT.assign (v := (Bv kD.2)) Q) Q Q Q (aT.nil (by kernel_rfl) (Ws (Ws ?_)))))))))))
           refine en [(0,Cc (xT bF code)),(10,Cc (lo 47 iT.1.length)),(12,Cc (.pl 50 0)),(13,Iv jS.1),(14,Cc (.pl 53 0)),(15,Bv kD.2)] [(42,pR 40 aG jS.2.2),(47,pR 40 aG iT.1),(50,.row 26 [[iC jS.2.1,lo 42 jS.2.2.length]]),(52,pR 40 aG kD.1.aA),(53,.row 26 [[iC kD.1.aF,lo 52 kD.1.aA.length]])] z6 z5 (Wr (aH (Bv kD.2) y4 (ah (LT.not Q) Q Q Q (On (aB.cond Q (fun hc104 => ?_) (fun hc104 => ?_))))))
           ·refine Ws (Wr ?_)
            refine aP (Bv false) au (On (aB.ret ⟨Q,bD.mk (.inr Q) z1 J Q ⟨ak.sc,J⟩ J⟩))
           ·refine aB.skip (Wr ?_)
            refine bV (bJ [iC kD.1.aF,lo 52 kD.1.aA.length] Q bU ai aX) Q Q Q Q (bW (stA [iC kD.1.aF,lo 52 kD.1.aA.length] Q Q ai aX) Q Q Q Q Q (On (aB.blk (Wr ?_))))
            refine aH (Iv jS.1) y4 (aj LT.add af (aP (Iv (aJ (jS.1 + 1))) y4 (On (en [(0,Cc (xT bF code)),(10,Cc (lo 47 iT.1.length)),(12,Cc (.pl 50 0)),(13,Iv (aJ (jS.1 + 1)))] [(47,pR 40 aG iT.1),(50,.row 26 [[iC kD.1.aF,lo 52 kD.1.aA.length]]),(52,pR 40 aG kD.1.aA)] z4 z3 (aB.ent (aU.mv 52 42 Q Q) (aZ Q z4 z3))))))
          ·refine aB.fH Q ⟨Q,aU.of z2 z2⟩
         ·refine Ws (Wr ?_)
          refine bV (bJ [iC og.2,lo 42 og.1.length] Q bU ai aX) Q Q Q Q (aY fun kN Jc => (aS.pure (cF [.agg [iC og.2,lo 42 og.1.length]] [(42,pR 40 aG og.1)] (Hz (aQ.mk og.2 og.1) kN Jc) FC (.cons (.agg (.cons (.same Q) (.cons (.dN Q Q) .nil))) .nil) J y3) z2 z1 Q Q (ah (LT.not Q) Q Q Q (On (aB.cond Q (fun Wv => ?_) (fun Wv => ?_))))))
          ·refine Ws (Wr ?_)
           refine aP (Bv false) au (On (aB.ret ⟨Q,bD.mk (.inr Q) z1 J Q ⟨ak.sc,J⟩ J⟩))
          ·refine aB.skip (aZ Q z1 J)
        ·refine aB.skip (aZ Q z1 J)
       ·refine Ws (Wr ?_)
        refine aH (Cc (xT bF code)) y4 (aY fun iH Xj => (aS.step (bH [.c (xT bF code)] (Fw.Fn.ren [(0,56),(1,57)] (aBm code iH Xj) Q) VR (lI Q) J y3) z2 J Q Q (aH (.dI [.agg [iC iH.1.aF,lo 56 iH.1.aA.length],.c (lo 57 iH.2.length)]) y4 (ah (LT.extract (v := (.agg [iC iH.1.aF,lo 56 iH.1.aA.length])) Q (by exact Q)) Q Q Q (ah (LT.extract (v := (.c (lo 57 iH.2.length))) Q (by exact Q)) Q Q Q (dA (LT.alloc (n := 58) (cells := [iC 0,sC aO]) Q fK Q Q Q) Q Q (bW (stA [iC iH.1.aF,lo 56 iH.1.aA.length] Q Q ai aX) Q Q Q Q Q (aP (Cc (lo 57 iH.2.length)) y4 (On (Ws ?_))))))))))
        refine en [(0,Cc (xT bF code)),(16,Cc (.pl 58 0)),(17,Cc (lo 57 iH.2.length))] [(56,pR 40 aG iH.1.aA),(57,pR 3 aC iH.2),(58,.row 26 [[iC iH.1.aF,lo 56 iH.1.aA.length]])] z3 z3 (Wr (aH (Cc (xT bF code)) y4 (aY fun nM Xk => (aS.step (bH [.c (xT bF code)] (Fw.Fn.ren [(0,60)] (aBn code nM Xk) Q) VS (lI Q) J y3) z2 J Q Q (dA (LT.alloc (n := 61) (cells := [iC 0,sC aO]) Q fK Q Q Q) Q Q (bW (stA [iC nM.aF,lo 60 nM.aA.length] Q Q ai aX) Q Q Q Q Q (On (Ws ?_))))))))
        refine aB.dZ (fun j115 => ([(2,Bv j115)],[])) ?_ (fun j115 _ => ?_)
        ·refine aB.draw mixed (fU (bJ [iC iH.1.aF,lo 56 iH.1.aA.length] Q bU ai aX) Q Q Q Q (bY (Cc (lo 57 iH.2.length)) y4 (aT.bind fun Gp Xm => (aT.pure (cF [.agg [iC iH.1.aF,lo 56 iH.1.aA.length],.c (lo 57 iH.2.length)] [(56,pR 40 aG iH.1.aA),(57,pR 3 aC iH.2)] (TV iH.1 iH.2 Gp Xm) N9 (.cons (.agg (.cons (.same Q) (.cons (.dN Q Q) .nil))) (.cons (.c (.dN Q Q)) .nil)) J y3) z3 z2 Q Q (fU (bJ [iC iH.1.aF,lo 56 iH.1.aA.length] Q bU ai aX) Q Q Q Q (bY (Cc (lo 57 iH.2.length)) y4 (aT.bind fun Gq Xn => (aT.pure (cF [.agg [iC iH.1.aF,lo 56 iH.1.aA.length],.c (lo 57 iH.2.length)] [(56,pR 40 aG iH.1.aA),(57,pR 3 aC iH.2)] (aBt iH.1 iH.2 Gq Xn) VT (.cons (.agg (.cons (.same Q) (.cons (.dN Q Q) .nil))) (.cons (.c (.dN Q Q)) .nil)) J y3) z3 z2 Q Q (eG (LT.V7 Q MI) Q Q Q Q (bY (Bv (Gp == Gq)) y4 (aT.split (fun pW => ?_) (fun pW => ?_))))))))))))
         ·refine fU (bJ [iC nM.aF,lo 60 nM.aA.length] Q bU ai aX) Q Q (gH pW Q Q) Q (aT.bind fun A8 Xo => (aT.step (cF [.agg [iC nM.aF,lo 60 nM.aA.length]] [(60,pR 40 aG nM.aA)] (Fw.Fn.ren [(0,65)] (TY nM A8 Xo) Q) OO (.cons (.agg (.cons (.same Q) (.cons (.dN Q Q) .nil))) .nil) J y3) z2 z1 (gH pW Q Q) Q (fU (bJ [iC nM.aF,lo 60 nM.aA.length] Q bU ai aX) Q Q (gH pW Q Q) Q (aT.bind fun BA Xp => (aT.step (cF [.agg [iC nM.aF,lo 60 nM.aA.length]] [(60,pR 40 aG nM.aA)] (Fw.Fn.ren [(0,67)] (UA nM BA Xp) Q) OQ (.cons (.agg (.cons (.same Q) (.cons (.dN Q Q) .nil))) .nil) J y3) z2 z1 (gH pW Q Q) Q (aT.bind fun EO Xq => (aT.pure (cF [.c (lo 65 A8.length),.c (lo 67 BA.length)] [(65,pR 40 aG A8),(67,pR 40 aG BA)] (Tj A8 BA EO Xq) OJ (.cons (.c (.dN Q Q)) (.cons (.c (.dN Q Q)) .nil)) J y3) z3 z2 (gH pW Q Q) Q (jE (Bv EO) pW y5 (bf (LT.assign (v := (Bv EO)) Q) Q Q Q (aT.nil (by kernel_rfl) (aZ Q z1 J)))))))))))
         ·refine ax pW y3 (ax pW y3 (ax pW y3 (ax pW y3 (ax pW y3 (jX (Bv false) pW af (bf (LT.assign (v := (Bv false)) Q) Q Q Q (aT.nil (by kernel_rfl) (aZ Q z1 J))))))))
        ·refine aB.ret (bD.mk (.inr Q) z1 J Q ⟨ak.sc,J⟩ J)
end Go.Proofs.YtdmlaldifbmkpaaGreat
end
section
set_option linter.unusedVariables false
set_option linter.unusedSimpArgs false
set_option linter.unnecessarySimpa false
namespace Go.Fw
open Go.ChangeShapes Go.WideShapes Go.ChangeAt Go.RowKit
open Go.Proofs.YtdmlaldifbmkpaaGreat (Rows.uptoBulk Rows.uptoBulkAll)
abbrev mg (W : World) : Nat → Prop := fun b => b < W.heap.size
abbrev rC : Nat → Prop := fun _ => False
abbrev wY : Nat → GS := fun _ => .dead
def Opn {α : Type} (P : Program) (t : TypeId) (s : Nat) (enc : α → List PV) (wt : α → Nat) (ok : α → Prop) : Prop :=
 ∀ (H : Type) (e : TypeId × Value → H) (W : World) (base : Nat) (spare : Nat → Bool) (held : Bool) (fuel : Nat) (cs : List Value) (x : DataW H × List MemPlace),DataW.trod e P W base spare held fuel t cs = some x →
  ∃ a : α,ok a ∧ wt a ≤ Go.Proofs.YtdmlaldifbmkpaaGreat.Rows.uptoBulk x.1 ∧ cs.length = s ∧ (enc a).length = s ∧ ∀ (k : Nat) p,(enc a)[k]? = some p → ∃ u,cs[k]? = some u ∧ gI W rC (mg W) p u
def okI (n : Int) : Prop := -9223372036854775808 ≤ n ∧ n ≤ 9223372036854775807
def okL {α : Type} (ok : α → Prop) (xs : List α) : Prop := ∀ x ∈ xs,ok x
def wI (_ : Int) : Nat := 1
def yg {α : Type} (wt : α → Nat) (xs : List α) : Nat := (xs.map wt).sum + 1
section
variable {P : Program}
theorem one1 {p q : PV} {cs : List Value} {v : Value} {W : World} (hcs : cs = [v]) (h : gI W rC (mg W) p v) : ∀ (k : Nat) r,[p][k]? = some r → ∃ u,cs[k]? = some u ∧ gI W rC (mg W) r u := fun k r hk => by
 subst hcs
 cases k with
 | zero => simp at hk; subst hk; exact ⟨v,rfl,h⟩
 | succ k => simp at hk
theorem Opn.int {t : TypeId} (ht : P.underlying t = some (.int .i64)) : Opn P t 1 (fun n : Int => [.sc (.int .i64 n)]) wI okI := fun H e W base spare held fuel cs x h => by
 obtain ⟨n,rfl,rfl,hw⟩ := DataW.trod_int ht h
 refine ⟨n,?_,by simp [wI,Go.Proofs.YtdmlaldifbmkpaaGreat.Rows.uptoBulk],rfl,rfl,one1 (q := .sc (.int .i64 n)) rfl (.sc rfl)⟩
 simp [Lit.wf,IntKind.min,IntKind.max,IntKind.signed,IntKind.bits] at hw
 exact ⟨by omega,by omega⟩
theorem Qc {α : Type} {p : Nat → α → Prop} : ∀ n : Nat,(∀ i,i < n → ∃ a,p i a) → ∃ xs : List α,xs.length = n ∧ ∀ (i : Nat) a,xs[i]? = some a → p i a
 | 0,_ => ⟨[],rfl,fun i a h => by simp at h⟩
 | n + 1,h => by
  obtain ⟨xs,h1,h2⟩ := Qc n fun i hi => h i (by omega)
  obtain ⟨a,ha⟩ := h n (by omega)
  refine ⟨xs ++ [a],by simp [h1],fun i b hb => ?_⟩
  rw [List.getElem?_append] at hb
  split at hb
  ·exact h2 i b hb
  ·rename_i hn
   have hi : i - xs.length = 0 := by
    have := (List.getElem?_eq_some_iff.1 hb).1
    simp at this
    omega
   rw [hi] at hb
   simp at hb
   subst hb
   have : i = n := by omega
   subst this
   exact ha
theorem Ns {α : Type} {H : Type} {wt : α → Nat} {D : Nat → DataW H} : ∀ (xs : List α) (k : Nat),(∀ (i : Nat) a,xs[i]? = some a → wt a ≤ Go.Proofs.YtdmlaldifbmkpaaGreat.Rows.uptoBulk (D (k + i))) →
  (xs.map wt).sum ≤ Go.Proofs.YtdmlaldifbmkpaaGreat.Rows.uptoBulkAll ((List.range' k xs.length).map D)
 | [],_,_ => by simp [Go.Proofs.YtdmlaldifbmkpaaGreat.Rows.uptoBulkAll]
 | a :: r,k,h => by
  have h0 := h 0 a rfl
  have ih := Ns r (k + 1) fun i b hb => by
   have := h (i + 1) b (by simpa using hb)
   rwa [show k + 1 + i = k + (i + 1) by omega]
  rw [Nat.add_zero] at h0
  simp only [List.map_cons,List.sum_cons,List.length_cons,List.range'_succ,Go.Proofs.YtdmlaldifbmkpaaGreat.Rows.uptoBulkAll]
  omega
theorem cell_lt {w : World} {a : Addr} {v : Value} (h : w.cell? a = some v) : a.block < w.heap.size := by
 unfold World.cell? at h
 cases hb : w.heap[a.block]? with
 | none => rw [hb] at h; simp at h
 | some o => exact (Array.getElem?_eq_some_iff.1 hb).1
theorem Opn.slice {α : Type} {t e : TypeId} {s : Nat} {enc : α → List PV} {wt : α → Nat} {ok : α → Prop} (ht : P.underlying t = some (.slice e)) (hs : P.cellsOf e = s) (hs0 : 0 < s) (he : Opn P e s enc wt ok) :
  Opn P t 1 (fun xs : List α => [.xs false (xs.map enc)]) (yg wt) (okL ok) := fun H en W base spare held fuel cs x h => by
 rcases Go.Deep.open_slice ht h with ⟨rfl,rfl⟩ | ⟨a,len,cap,m,n,D,Pl,rfl,hb,hl,hm,hmm,rfl,hi⟩
 ·refine ⟨[],?_,?_,rfl,rfl,one1 (q := .xs false []) rfl .emp⟩
  ·intro x hx; cases hx
  ·simp [yg,Go.Proofs.YtdmlaldifbmkpaaGreat.Rows.uptoBulk]
 ·have hml : len ≤ m := by rw [hmm]; split <;> omega
  obtain ⟨xs,hxl,hx⟩ := Qc (p := fun i (b : α) => ok b ∧ wt b ≤ Go.Proofs.YtdmlaldifbmkpaaGreat.Rows.uptoBulk (D i) ∧ (enc b).length = s ∧ ∀ (k : Nat) p,(enc b)[k]? = some p → ∃ u,W.cell? (a.add (i * s + k)) = some u ∧ gI W rC (mg W) p u) len (fun i hil => by
   obtain ⟨cs',hc,htr⟩ := hi i (by omega)
   obtain ⟨b,h1,h2,h3,h4,h5⟩ := he _ _ _ _ _ _ _ _ _ htr
   obtain ⟨_,hcl,hat⟩ := World.cells?_some hc
   refine ⟨b,h1,h2,h4,fun k p hk => ?_⟩
   obtain ⟨u,hu,hr⟩ := h5 k p hk
   refine ⟨u,?_,hr⟩
   have hks : k < s := by rw [← h4]; exact (List.getElem?_eq_some_iff.1 hk).1
   have := hat k (by rw [hs]; exact hks)
   rw [add_add,hs] at this
   rw [this]
   exact hu)
  refine ⟨xs,fun b hb => ?_,?_,rfl,rfl,one1 (q := .sc undef) rfl ?_⟩
  ·obtain ⟨i,hib⟩ := List.getElem?_of_mem hb
   exact (hx i b hib).1
  ·have := Ns (wt := wt) (D := D) xs 0 (fun i b hb => by rw [Nat.zero_add]; exact (hx i b hb).2.1)
   simp only [yg,Go.Proofs.YtdmlaldifbmkpaaGreat.Rows.uptoBulk]
   rw [hxl,← List.range_eq_range'] at this
   omega
  ·cases hxs : xs with
   | nil =>
    have : len = 0 := by rw [← hxl,hxs]; rfl
    subst this
    exact .emp
   | cons b r =>
    rw [← hxs]
    have hget : ∀ (j k : Nat) cs p,(xs.map enc)[j]? = some cs → cs[k]? = some p → ∃ u,W.cell? (a.add (j * s + k)) = some u ∧ gI W rC (mg W) p u := fun j k cs p hj hk => by
     rw [List.getElem?_map] at hj
     cases JZ : xs[j]? with
     | none => rw [JZ] at hj; cases hj
     | some c =>
      rw [JZ] at hj
      injection hj with hj
      subst hj
      exact (hx j c JZ).2.2.2 k p hk
    refine .xs (s := s) (fun j k => (W.cell? (a.add (j * s + k))).getD undef) (by simp [hxl]) ?_ (by simp [hxl]; exact hl) (fun cs hcs => ?_) (fun j k cs p hj hk => ?_) (fun j k cs p hj hk => ?_)
    ·have h0 := hx 0 b (by rw [hxs]; rfl)
     have hlt : 0 < (enc b).length := by rw [h0.2.2.1]; exact hs0
     obtain ⟨u,hu,_⟩ := h0.2.2.2 0 (enc b)[0] (List.getElem?_eq_getElem hlt)
     have := cell_lt hu
     rw [add_block] at this
     exact this
    ·obtain ⟨c,hc,rfl⟩ := List.mem_map.1 hcs
     obtain ⟨i,hic⟩ := List.getElem?_of_mem hc
     exact (hx i c hic).2.2.1
    ·obtain ⟨u,hu,_⟩ := hget j k cs p hj hk
     rw [hu]; rfl
    ·obtain ⟨u,hu,hr⟩ := hget j k cs p hj hk
     rw [hu]
     exact hr
theorem Zr {α : Type} {wt : α → Nat} (h : ∀ x,1 ≤ wt x) (xs : List α) : xs.length ≤ yg wt xs := by
 unfold yg
 induction xs with
 | nil => simp
 | cons x r ih =>
  have := h x
  simp only [List.map_cons,List.sum_cons,List.length_cons] at ih ⊢
  omega
theorem Opn.arg1 {α : Type} {t : TypeId} {enc : α → List PV} {wt : α → Nat} {ok : α → Prop} (h : Opn P t 1 enc wt ok) {p : α → PV} (hp : ∀ a,enc a = [p a]) {H : Type} {e : TypeId × Value → H} {W : World} {sp : Nat → Bool} {v : Value} {d : DataW H} {ps : List MemPlace}
  (hv : v.oneCell' = true) (hd : DataW.Trod e P W 0 sp true t v d ps) : ∃ a : α,ok a ∧ wt a ≤ Go.Proofs.YtdmlaldifbmkpaaGreat.Rows.uptoBulk d ∧ RS P W rC (mg W) wY (.c (.pv (p a))) v := by
 obtain ⟨fuel,hf⟩ := hd
 obtain ⟨a,h1,h2,h3,h4,h5⟩ := h _ _ _ _ _ _ _ _ _ hf
 refine ⟨a,h1,h2,?_⟩
 have hc : v.cells = #[v] := aAD hv
 obtain ⟨u,hu,hr⟩ := h5 0 (p a) (by rw [hp]; rfl)
 rw [hc] at hu
 have : v = u := by simpa using hu
 subst this
 exact ⟨hv,hr⟩
def Eg (P : Program) (W : World) : List SV → List Value → Prop
 | [],[] => True
 | x :: xs,v :: vs => RS P W rC (mg W) wY x v ∧ Eg P W xs vs
 | _,_ => False
theorem Eg.spec {W : World} : ∀ {xs : List SV} {vs : List Value},Eg P W xs vs → vs.length = xs.length ∧ ∀ (k : Nat) x,xs[k]? = some x → ∃ u,vs[k]? = some u ∧ RS P W rC (mg W) wY x u
 | [],[],_ => ⟨rfl,fun k x hk => by simp at hk⟩
 | [],_ :: _,h => h.elim
 | _ :: _,[],h => h.elim
 | x :: xs,v :: vs,h => by
  obtain ⟨h1,h2⟩ := Eg.spec h.2
  refine ⟨by simp [h1],fun k y hk => ?_⟩
  cases k with
  | zero => simp at hk; subst hk; exact ⟨v,rfl,h.1⟩
  | succ k => exact h2 k y (by simpa using hk)
theorem TL {H : Type} {e : TypeId × Value → H} (hl : laidOutB P = true) {W W' : World} {sp : Nat → Bool} (hb : Below W.heap.size W W') : ∀ {ts : List TypeId} {vs : List Value} {ds : List (DataW H)} {ps : List MemPlace},(ts.all fun t => P.readableRec t && decide (t < P.types.size)) = true →
  DataW.TrodAll e P W 0 (fun _ => true) true ts vs ds ps → (∀ p ∈ ps,p.block < W.heap.size) → (∀ p ∈ ps,sp p.block = true) → DataW.TrodAll e P W' 0 sp true ts vs ds ps
 | [],[],[],_,_,h,_,_ => h
 | t :: ts,v :: vs,d :: ds,ps,hr,h,hlt,hs => by
  obtain ⟨p,q,h1,h2,rfl⟩ := h
  simp only [List.all_cons,Bool.and_eq_true,decide_eq_true_eq] at hr
  exact ⟨p,q,Go.WideElems.Trod_stays hl hr.1.1 hr.1.2 h1 (fun x hx => hb.same (hlt x (List.mem_append_left _ hx))) (fun x hx => hs x (List.mem_append_left _ hx)),TL hl hb hr.2 h2 (fun x hx => hlt x (List.mem_append_right _ hx)) (fun x hx => hs x (List.mem_append_right _ hx)),rfl⟩
 | [],[],_ :: _,_,_,h,_,_ => h.elim
 | [],_ :: _,_,_,_,h,_,_ => h.elim
 | _ :: _,[],_,_,_,h,_,_ => h.elim
 | _ :: _,_ :: _,[],_,_,h,_,_ => h.elim
theorem aAN {H : Type} {e : TypeId × Value → H} {f : Func} {s : ChangeSpec} {apart handsOn again : Bool} {fresh : Bool} {W W' : World} {args : Array Value} {ds gs : List (DataW H)} {before : List MemPlace} {tb : TypeId} (hW : DataW.Whole e P f.params.toList s.vars apart W args.toList ds gs before) (hl : laidOutB P = true)
  (hr : (f.params.toList.all fun t => P.readableRec t && decide (t < P.types.size)) = true) (hb : Below W.heap.size W W') (hv : s.vars = []) (hf : s.fn H ds = { results := [.lit (.bool true)],args := ds }) (hrt : f.resultTypes = #[tb]) (htb : P.underlying tb = some .bool) :
  s.post e P f apart fresh handsOn again W args (.bool true) W' := by
 have hlt : ∀ p ∈ before,p.block < W.heap.size := fun p hp => hW.lt p hp
 have hW0 := hW
 obtain ⟨p,q,hA,hV,hpq,hz,hn⟩ := hW
 rw [hv] at hV
 obtain ⟨rfl,rfl⟩ : gs = [] ∧ q = [] := by
  cases gs with
  | nil => exact ⟨rfl,hV⟩
  | cons _ _ => exact hV.elim
 rw [List.append_nil] at hpq
 subst hpq
 have hargs : ∀ sp : Nat → Bool,(∀ p ∈ before,sp p.block = true) → DataW.TrodAll e P W' 0 sp true f.params.toList args.toList ds before := fun sp hs => TL hl hb hr hA hlt hs
 have hres : ∀ (b : Nat) (sp : Nat → Bool) (hd : Bool),DataW.TrodAll e P W' b sp hd f.resultTypes.toList ((Value.bool true).resultList f.resultTypes.size) [.lit (.bool true)] [] := fun b sp hd => by
  rw [hrt]
  exact ⟨[],[],shut_bool htb _,rfl,rfl⟩
 have hfd : s.fn H (ds ++ []) = { results := [.lit (.bool true)],args := ds } := by rw [List.append_nil]; exact hf
 have hold : ∀ p ∈ before,(fun b => decide (b < W.heap.size)) p.block = true := fun p hp => by simpa using hlt p hp
 have hvs : ∀ sp : Nat → Bool,DataW.TrodVars e P W' sp s.vars [] [] := fun sp => by rw [hv]; rfl
 refine ⟨ds,[],before,[],before,[],hW0,?_,?_,?_,World.keptBut_mono (fun p hp => ⟨hp,?_⟩) (hb.frame (· ∈ before)),fun _ => ?_⟩
 ·rw [hfd]; exact hres _ _ _
 ·rw [hfd]; exact hargs _ hold
 ·rw [hfd]; exact hvs _
 ·exact Or.inr (Or.inl hp)
 ·refine ⟨ok_one hrt rfl (okWide_bool_mk htb _),?_⟩
  ·refine ⟨_,_,([] ++ before) ++ [],⟨[] ++ before,[],trodAll_append (hargs _ (fun _ _ => rfl)) (hres _ _ _),hvs _,rfl,?_,?_⟩,?_⟩
   ·intro b off hp
    have hin : MemPlace.cell b off ∈ before := by simpa using hp
    rw [hb.frozen (hlt _ hin)]
    exact hz b off hin
   ·intro ha
    simpa using hn ha
   ·intro p hp _
    simpa using hp
end
end Go.Fw
end
section
set_option linter.unusedVariables false
set_option linter.unusedSimpArgs false
set_option linter.unnecessarySimpa false
open Go Go.Fw
open Go.ChangeShapes Go.WideShapes Go.ChangeAt Go.RowKit
namespace Go.Proofs.YtdmlaldifbmkpaaGreat
theorem oC5 : Tryz.prog.cellsOf 5 = 1 := by kernel_rfl
theorem RJ : Tryz.prog.underlying 22 = some (.slice 5) := by kernel_rfl
theorem oU5 : Tryz.prog.underlying 5 = some (.int .u8) := by kernel_rfl
def okB (n : Int) : Prop := 0 ≤ n ∧ n ≤ 255
theorem Opn.u8 {P : Program} {t : TypeId} (ht : P.underlying t = some (.int .u8)) : Opn P t 1 bF wI okB := fun H e W base spare held fuel cs x h => by
  obtain ⟨n, rfl, rfl, hw⟩ := DataW.trod_int ht h
  refine ⟨n, ?_, by simp [wI, Go.Proofs.YtdmlaldifbmkpaaGreat.Rows.uptoBulk], rfl, rfl, one1 (q := .sc (.int .u8 n)) rfl (.sc rfl)⟩
  simp [Lit.wf, IntKind.min, IntKind.max, IntKind.signed, IntKind.bits] at hw
  exact ⟨by omega, by omega⟩
theorem gI.Uo {W : World} {l : List Int} {v : Value} (h : gI W rC (mg W) (.xs false (l.map bF)) v) : gI W (mg W) (mg W) (.xs true (l.map bF)) v := by
  generalize hE : l.map bF = E at h
  cases h with
  | emp => exact .emp
  | xs val hn hb hc hs hv hr =>
    refine .xs val hn hb hc hs hv fun j k cs p hj hk => ?_
    have h1 := hr j k cs p hj hk
    subst hE
    obtain ⟨x, hx, rfl⟩ := List.mem_map.mp (List.mem_of_getElem? hj)
    cases k with
    | zero =>
      cases hk
      revert h1
      generalize val j 0 = u
      intro h1
      cases h1 with | sc h => exact .sc h
    | succ k => cases hk
theorem Fn.Ur {P : Program} {f : FuncId} {l : List Int} (hf : Fw.Fn P f [.c (xT bF l)] [] (.s (.c (bC true))) [] [] []) {W : World} {v : Value} (ha : RS P W rC (mg W) wY (.c (xF bF l)) v) : Calls P f #[v] W fun e W' => e = .returned (.bool true) ∧ Below W.heap.size W W' := by
  have ha' : RS P W (mg W) (mg W) wY (.c (xT bF l)) v := ⟨ha.1, gI.Uo ha.2⟩
  have hw : WF (mg W) (mg W) wY W := ⟨fun b hb => hb, fun b hb => hb, fun n b hg => hg.elim, fun n m b hg => hg.elim, fun n j k b h => (by cases h)⟩
  have := hf (mg W) (mg W) wY W [v] hw rfl (fun k x hk => by cases k with | zero => cases hk; exact ⟨v, rfl, ha'⟩ | succ k => cases hk) (fun p hp => by cases hp)
  refine this.mono fun e W' hp => ?_
  obtain ⟨u, R', B', g', rfl, had, _, hv, _⟩ := hp
  have hu : u = .bool true := by
    obtain ⟨_, h3⟩ := hv
    cases h3
    rfl
  subst hu
  exact ⟨rfl, had.os, had.tape, had.output, had.size, fun k hk => had.heap k hk fun n hn => by cases hn⟩
end Go.Proofs.YtdmlaldifbmkpaaGreat
end
