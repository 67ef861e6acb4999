/- Parts of a proof that a law of the program holds: what the program computes, and why that is right. -/
import Derived.Shelf.SlSortCmp.NoneTotal
import Derived.Test.YtdmlaldifbmkpaaProg
import Derived.Shelf.SlGeneric
import Derived.Shelf.SlLaysF0
import Derived.WalkKit
import Derived.Test.YtdmlaldifbmkpaaRows
import Derived.ProofKit
import Derived.OpenShut
import Derived.JoinedCond
import Derived.Carry
import Derived.Deep.Slices
import Derived.ChangeSame
import Derived.Test.YtdmlaldifbmkpaaZEFewestAdded2
section
set_option linter.unusedVariables false
set_option linter.unusedSimpArgs false
set_option linter.unnecessarySimpa false
set_option maxRecDepth 100000
set_option maxHeartbeats 8000000
open Go Go.Fw
namespace Go.Proofs.Ytdmlaldifbmkpaa
theorem Cm (g : aX) (p : aY) (a : Int) (b : Int) : FT Try.prog (qp g p a b) 204 [.agg [iC g.aH,xF aF g.aC],.agg [xF aA p.Free,xF aA p.aJ,xF aA p.aI],.c (iC a),.c (iC b)] [] (fun (t : (aY × Bool)) => [.agg [(bif t.2 then (.loc 0 0 t.1.Free.length) else .junk),(bif t.2 then (.loc 1 0 t.1.aJ.length) else .junk),(bif t.2 then (.loc 2 0 t.1.aI.length) else .junk)],.c (bC t.2)]) (fun (t : (aY × Bool)) => [(0,.dF 3 ((bif t.2 then t.1.Free else []).map aA)),(1,.dF 3 ((bif t.2 then t.1.aJ else []).map aA)),(2,.dF 3 ((bif t.2 then t.1.aI else []).map aA))]) [0,1,2] := by
 refine FT.of [] Try.func204 Try.ntmps204 Q y2 ?_
 intro w0 U0 R0 g0
 unfold qp
 refine Ws (Wr ?_)
 refine dG (LT.box (n := 21) (v := (.agg [iC g.aH,xF aF g.aC])) Q bM (by exact Q)) Q Q Q (dG (LT.box (n := 22) (v := (.agg [xF aA p.Free,xF aA p.aJ,xF aA p.aI])) Q bV (by exact Q)) Q Q Q (dX (LT.alloc (n := 23) (cells := [sC aO,sC aO,sC aO]) Q iW Q Q Q) Q Q (aQ (Bv false) af (On (Ws (Wr ?_))))))
 refine bU (iC g.aH) iy bD bF (ak fun u1 hu1 => (DV (LT.Gh (n := 24) (enc := aA) (zc := [iC 0]) (0 : Int) Q eU gy Q Q Q (by decide) (by decide) (FH hu1) Q) Q Q Q Q (aQ (Cc (lo 24 ((List.replicate g.aH.toNat (0 : Int)).length))) y4 (On (Ws (Ws ?_))))))
 refine en [(2,Iv a),(3,Iv b),(4,Cc (.pl 21 0)),(5,Cc (.pl 22 0)),(8,Cc (.pl 23 0)),(10,Cc (lo 24 ((List.replicate g.aH.toNat (0 : Int)).length)))] [(21,.row 26 [[iC g.aH,xF aF g.aC]]),(22,.row 163 [[xF aA p.Free,xF aA p.aJ,xF aA p.aI]]),(23,.row 163 [[sC aO,sC aO,sC aO]]),(24,pR 3 aA (List.replicate g.aH.toNat (0 : Int)))] z6 z4 (Wr (aQ (Iv 0) af (On (aB.block ?_))))
 refine aB.kD (id := 0) (wH g) (fun s2 => ([(2,Iv a),(3,Iv b),(4,Cc (.pl 21 0)),(5,Cc (.pl 22 0)),(8,Cc (.pl 23 0)),(10,Cc (lo 24 s2.2.length)),(11,Iv s2.1)],[(21,.row 26 [[iC g.aH,xF aF g.aC]]),(22,.row 163 [[xF aA p.Free,xF aA p.aJ,xF aA p.aI]]),(23,.row 163 [[sC aO,sC aO,sC aO]]),(24,pR 3 aA s2.2)])) (fun b7 => ([(2,Iv a),(3,Iv b),(4,Cc (.pl 21 0)),(5,Cc (.pl 22 0)),(8,Cc (.pl 23 0)),(10,Cc (lo 24 b7.length))],[(21,.row 26 [[iC g.aH,xF aF g.aC]]),(22,.row 163 [[xF aA p.Free,xF aA p.aJ,xF aA p.aI]]),(23,.row 163 [[sC aO,sC aO,sC aO]]),(24,pR 3 aA b7)])) ?_ (aU.of z7 z4) Q (fun b7 _ => ?_)
 ·intro s2
  unfold wH
  refine Ws (Ws (Wr ?_))
  refine aN (Iv s2.1) y4 (bU (iC g.aH) iy bD bF (bG LT.lss y5 (On (aB.cond Q (fun hc8 => ?_) (fun hc8 => ?_)))))
  ·refine aB.skip (Ws (aB.block (Wr ?_)))
   refine aN (Cc (lo 24 s2.2.length)) y4 (aN (Iv s2.1) y4 (ak fun x9 xq => (jJ (LT.fK Q Q fB xq) Q Q Q Q Q (bn (LT.lX (k := 0) (v := (.c (iC (-1)))) (b' := (-1)) Q Q (dR lQ) iO (by exact Q) xq (by exact Q) (by exact K Q) (by exact Q)) Q y2 Q Q Q (On (aB.blk (Wr ?_)))))))
   refine aN (Iv s2.1) y4 (bG LT.add ah (aQ (Iv (aP (s2.1 + 1))) y4 (On (aB.nil ⟨Q,aU.of ⟨Q,Q,Q,Q,Q,congrArg (fun l1 => (some (AV.s (.c (lo 24 l1))) : Option AV)) (show s2.2.length = (s2.2.set s2.1.toNat (-1)).length by simp only [List.length_set]),Q,J⟩ z4⟩))))
  ·refine aB.gV Q ⟨Q,aU.of z6 z4⟩
 ·refine Ws (Wr ?_)
  refine aN (Iv a) y4 (dG (LT.gJ (n := 25) (enc := aA) [(0,.tmp 30,.c (iC a))] ([a] : List Int) Q Q eU gy Q Q Q Q (by decide) (fun _ => Q) Q) Q Q Q (aQ (Cc (lo 25 (([a] : List Int).length))) y4 (On (Ws (Wr ?_)))))
  refine bU (iC g.aH) iy bD bF (ak fun u10 Eg => (DV (LT.Gh (n := 26) (enc := oL) (zc := [bC false]) false Q Vz Vo Q Q Q (by decide) (by decide) (FH Eg) Q) Q Q Q Q (aQ (Cc (lo 26 ((List.replicate g.aH.toNat false).length))) y4 (On (Ws ?_)))))
  refine en [(2,Iv a),(3,Iv b),(4,Cc (.pl 21 0)),(5,Cc (.pl 22 0)),(8,Cc (.pl 23 0)),(10,Cc (lo 24 b7.length)),(12,Cc (lo 25 (([a] : List Int).length))),(13,Cc (lo 26 ((List.replicate g.aH.toNat false).length)))] [(21,.row 26 [[iC g.aH,xF aF g.aC]]),(22,.row 163 [[xF aA p.Free,xF aA p.aJ,xF aA p.aI]]),(23,.row 163 [[sC aO,sC aO,sC aO]]),(24,pR 3 aA b7),(25,pR 3 aA ([a] : List Int)),(26,pR 4 oL (List.replicate g.aH.toNat false))] z8 z6 (Wr (aN (Cc (lo 26 ((List.replicate g.aH.toNat false).length))) y4 (aN (Iv a) y4 (ak fun x11 xk => (jJ (LT.fK Q Q Dl xk) Q Q Q Q Q (bn (LT.lX (k := 0) (v := (.c (bC true))) (b' := true) Q Q (dR Jc) Lm (by exact Q) xk (by exact Q) (by exact K Q) (by exact Q)) Q y2 Q Q Q (On (Ws (Ws (Wr ?_))))))))))
  refine aQ (Iv 0) af (On (aB.block ?_))
  refine aB.nN (id := 2) (tN g p a b) (fun s12 => ([(2,Iv a),(3,Iv b),(4,Cc (.pl 21 0)),(5,Cc (.pl 22 0)),(8,Cc (.pl 23 0)),(10,Cc (lo 24 s12.2.1.length)),(12,Cc (lo 25 s12.2.2.1.length)),(13,Cc (lo 26 s12.2.2.2.length)),(14,Iv s12.1)],[(21,.row 26 [[iC g.aH,xF aF g.aC]]),(22,.row 163 [[xF aA p.Free,xF aA p.aJ,xF aA p.aI]]),(23,.row 163 [[sC aO,sC aO,sC aO]]),(24,pR 3 aA s12.2.1),(25,pR 3 aA s12.2.2.1),(26,pR 4 oL s12.2.2.2)])) (fun Hg => ([(5,Cc (.pl 22 0)),(8,Cc (.pl 23 0))],[(22,.row 163 [[xF aA p.Free,xF aA p.aJ,xF aA p.aI]]),(23,.row 163 [[sC aO,sC aO,sC aO]])])) (ay Try.prog Try.f204.results.toList [] [0,1,2] (fun (t : (aY × Bool)) => [.agg [(bif t.2 then (.loc 0 0 t.1.Free.length) else .junk),(bif t.2 then (.loc 1 0 t.1.aJ.length) else .junk),(bif t.2 then (.loc 2 0 t.1.aI.length) else .junk)],.c (bC t.2)]) (fun (t : (aY × Bool)) => [(0,.dF 3 ((bif t.2 then t.1.Free else []).map aA)),(1,.dF 3 ((bif t.2 then t.1.aJ else []).map aA)),(2,.dF 3 ((bif t.2 then t.1.aI else []).map aA))])) ?_ (aU.of ⟨Q,Q,Q,Q,Q,Q,Q,congrArg (fun l1 => (some (AV.s (.c (lo 26 l1))) : Option AV)) (show (List.replicate g.aH.toNat false).length = ((List.replicate g.aH.toNat false).set a.toNat true).length by simp only [List.length_set]),Q,J⟩ z6) Q (fun Hg _ => ?_) (by intro r t σ m ht hk; injection ht with ht; subst ht; exact hk)
  ·intro s12
   unfold tN
   refine Ws (Ws (Wr ?_))
   refine aN (Iv s12.1) y4 (aN (Cc (lo 25 s12.2.2.1.length)) y4 (aZ (LT.oG Q eU) Q Q Q (bG LT.lss y5 (On (aB.cond Q (fun QT => ?_) (fun QT => ?_))))))
   ·refine aB.skip (Ws (aB.block (Ws (Wr ?_))))
    refine aN (Cc (lo 25 s12.2.2.1.length)) y4 (aN (Iv s12.1) y4 (ak fun x95 hx95 => (jJ (LT.fK Q Q fB hx95) Q Q Q Q Q (bZ (LT.je (k := 0) Q bD hx95 (by exact Q) (by exact Q)) Q Q Q Q (aQ (Iv x95) y4 (On (Ws (Wr ?_))))))))
    refine aQ (Iv 0) af (On (aB.block ?_))
    refine aB.nN (id := 4) (qA g p a b s12 x95) (fun bJ => ([(2,Iv a),(3,Iv b),(4,Cc (.pl 21 0)),(5,Cc (.pl 22 0)),(8,Cc (.pl 23 0)),(10,Cc (lo 24 bJ.2.1.length)),(12,Cc (lo 25 bJ.2.2.1.length)),(13,Cc (lo 26 bJ.2.2.2.length)),(14,Iv s12.1),(15,Iv x95),(16,Iv bJ.1)],[(21,.row 26 [[iC g.aH,xF aF g.aC]]),(22,.row 163 [[xF aA p.Free,xF aA p.aJ,xF aA p.aI]]),(23,.row 163 [[sC aO,sC aO,sC aO]]),(24,pR 3 aA bJ.2.1),(25,pR 3 aA bJ.2.2.1),(26,pR 4 oL bJ.2.2.2)])) (fun lg => ([(2,Iv a),(3,Iv b),(4,Cc (.pl 21 0)),(5,Cc (.pl 22 0)),(8,Cc (.pl 23 0)),(10,Cc (lo 24 lg.2.1.length)),(12,Cc (lo 25 lg.2.2.1.length)),(13,Cc (lo 26 lg.2.2.2.length)),(14,Iv lg.1)],[(21,.row 26 [[iC g.aH,xF aF g.aC]]),(22,.row 163 [[xF aA p.Free,xF aA p.aJ,xF aA p.aI]]),(23,.row 163 [[sC aO,sC aO,sC aO]]),(24,pR 3 aA lg.2.1),(25,pR 3 aA lg.2.2.1),(26,pR 4 oL lg.2.2.2)])) (ay Try.prog Try.f204.results.toList [] [0,1,2] (fun (t : (aY × Bool)) => [.agg [(bif t.2 then (.loc 0 0 t.1.Free.length) else .junk),(bif t.2 then (.loc 1 0 t.1.aJ.length) else .junk),(bif t.2 then (.loc 2 0 t.1.aI.length) else .junk)],.c (bC t.2)]) (fun (t : (aY × Bool)) => [(0,.dF 3 ((bif t.2 then t.1.Free else []).map aA)),(1,.dF 3 ((bif t.2 then t.1.aJ else []).map aA)),(2,.dF 3 ((bif t.2 then t.1.aI else []).map aA))])) ?_ (aU.of z11 z6) Q (fun lg _ => ?_) (by intro r t σ m ht hk; injection ht with ht; subst ht; exact ⟨Q,hk⟩)
    ·intro bJ
     unfold qA
     refine Ws (Ws (Wr ?_))
     refine aN (Iv bJ.1) y4 (bU (xF aA p.aI) jq dP bF (aZ (LT.jC Q eU) Q Q Q (bG LT.lss y5 (On (aB.cond Q (fun P8 => ?_) (fun P8 => ?_))))))
     ·refine aB.skip (Ws (aB.block (Ws (Ws (Wr ?_)))))
      refine bU (xF aA p.aJ) jw dP bF (aN (Iv bJ.1) y4 (ak fun Mc SX => (fA (LT.eX (enc := aA) Q fB SX iO) Q Q Q Q (aZ (LT.iG Q bD) Q Q Q (aN (Iv x95) y4 (bG LT.neq y5 (On (aB.cond Q (fun P9 => ?_) (fun P9 => ?_)))))))))
      ·refine aB.exit Q (en [(2,Iv a),(3,Iv b),(4,Cc (.pl 21 0)),(5,Cc (.pl 22 0)),(8,Cc (.pl 23 0)),(10,Cc (lo 24 bJ.2.1.length)),(12,Cc (lo 25 bJ.2.2.1.length)),(13,Cc (lo 26 bJ.2.2.2.length)),(14,Iv s12.1),(15,Iv x95),(16,Iv bJ.1)] [(21,.row 26 [[iC g.aH,xF aF g.aC]]),(22,.row 163 [[xF aA p.Free,xF aA p.aJ,xF aA p.aI]]),(23,.row 163 [[sC aO,sC aO,sC aO]]),(24,pR 3 aA bJ.2.1),(25,pR 3 aA bJ.2.2.1),(26,pR 4 oL bJ.2.2.2)] z11 z6 (Wr (aN (Iv bJ.1) y4 (bG LT.add ah (aQ (Iv (aP (bJ.1 + 1))) y4 (On (aj Q z11 z6)))))))
      ·refine aB.skip (Ws ?_)
       refine en [(2,Iv a),(3,Iv b),(4,Cc (.pl 21 0)),(5,Cc (.pl 22 0)),(8,Cc (.pl 23 0)),(10,Cc (lo 24 bJ.2.1.length)),(12,Cc (lo 25 bJ.2.2.1.length)),(13,Cc (lo 26 bJ.2.2.2.length)),(14,Iv s12.1),(15,Iv x95),(16,Iv bJ.1)] [(21,.row 26 [[iC g.aH,xF aF g.aC]]),(22,.row 163 [[xF aA p.Free,xF aA p.aJ,xF aA p.aI]]),(23,.row 163 [[sC aO,sC aO,sC aO]]),(24,pR 3 aA bJ.2.1),(25,pR 3 aA bJ.2.2.1),(26,pR 4 oL bJ.2.2.2)] z11 z6 (aB.draw mixed (fQ (xF aF g.aC) dZ eH bF (fQ (xF aA p.aI) jq dP bF (bf (Iv bJ.1) y4 (aS.bind fun Md SY => (eu (LT.eX (enc := aA) Q fB SY iO) Q Q Q Q (bg (LT.iG Q bD) Q Q Q (aS.bind fun zS Si => (eu (LT.eX (enc := aF) Q gB Si dD) Q Q Q Q ?_)))))))))
       refine bg (LT.l9 Q ig (dR gQ) (by exact dD.symm)) Q Q Q (bf (Iv x95) y4 (aS.bind fun fE Qm => (aS.pure (cO [.agg [iC zS.A,iC zS.B],.c (iC x95)] (MV zS x95 fE Qm) Ht (rF y3) J y3) z3 J Q Q (bg (LT.assign (v := (Iv fE)) Q) Q Q Q (aS.nil (by kernel_rfl) (Ws (Ws ?_)))))))
       refine en [(2,Iv a),(3,Iv b),(4,Cc (.pl 21 0)),(5,Cc (.pl 22 0)),(8,Cc (.pl 23 0)),(10,Cc (lo 24 bJ.2.1.length)),(12,Cc (lo 25 bJ.2.2.1.length)),(13,Cc (lo 26 bJ.2.2.2.length)),(14,Iv s12.1),(15,Iv x95),(16,Iv bJ.1),(17,Iv fE)] [(21,.row 26 [[iC g.aH,xF aF g.aC]]),(22,.row 163 [[xF aA p.Free,xF aA p.aJ,xF aA p.aI]]),(23,.row 163 [[sC aO,sC aO,sC aO]]),(24,pR 3 aA bJ.2.1),(25,pR 3 aA bJ.2.2.1),(26,pR 4 oL bJ.2.2.2)] z12 z6 (Wr (aN (Cc (lo 26 bJ.2.2.2.length)) y4 (aN (Iv fE) y4 (ak fun Me JE => (jJ (LT.fK Q Q Dl JE) Q Q Q Q Q (bZ (LT.je (k := 0) Q NP JE (by exact Q) (by exact Q)) Q Q Q Q (On (aB.cond Q (fun EG => ?_) (fun EG => ?_)))))))))
       ·refine aB.exit Q (Wr ?_)
        refine aN (Iv bJ.1) y4 (bG LT.add ah (aQ (Iv (aP (bJ.1 + 1))) y4 (On (aj Q z11 z6))))
       ·refine aB.skip (Ws (Wr ?_))
        refine aN (Cc (lo 26 bJ.2.2.2.length)) y4 (aN (Iv fE) y4 (ak fun XD JF => (jJ (LT.fK Q Q Dl JF) Q Q Q Q Q (bn (LT.lX (k := 0) (v := (.c (bC true))) (b' := true) Q Q (dR Jc) Lm (by exact Q) JF (by exact Q) (by exact K Q) (by exact Q)) Q y2 Q Q Q (On (Ws (Wr ?_)))))))
        refine aN (Cc (lo 24 bJ.2.1.length)) y4 (aN (Iv fE) y4 (aN (Iv bJ.1) y4 (ak fun XE JG => (jJ (LT.fK Q Q fB JG) Q Q Q Q Q (bn (LT.lX (k := 0) (v := (.c (iC bJ.1))) (b' := bJ.1) Q Q (dR lQ) iO (by exact Q) JG (by exact Q) (by exact K Q) (by exact Q)) Q Q Q Q Q (On (Ws (Ws ?_))))))))
        refine aB.fG (fun pO => ([(2,Iv a),(3,Iv b),(4,Cc (.pl 21 0)),(5,Cc (.pl 22 0)),(8,Cc (.pl 23 0)),(10,Cc (lo 24 ((bJ.2.1.set fE.toNat bJ.1).length))),(12,Cc (lo 25 bJ.2.2.1.length)),(13,Cc (lo 26 ((bJ.2.2.2.set fE.toNat true).length))),(14,Iv s12.1),(15,Iv x95),(16,Iv bJ.1),(17,Iv fE),(94,Bv pO)],[(21,.row 26 [[iC g.aH,xF aF g.aC]]),(22,.row 163 [[xF aA p.Free,xF aA p.aJ,xF aA p.aI]]),(23,.row 163 [[sC aO,sC aO,sC aO]]),(24,pR 3 aA (bJ.2.1.set fE.toNat bJ.1)),(25,pR 3 aA bJ.2.2.1),(26,pR 4 oL (bJ.2.2.2.set fE.toNat true))])) ?_ (fun pO _ => ?_)
        ·refine en [(2,Iv a),(3,Iv b),(4,Cc (.pl 21 0)),(5,Cc (.pl 22 0)),(8,Cc (.pl 23 0)),(10,Cc (lo 24 bJ.2.1.length)),(12,Cc (lo 25 bJ.2.2.1.length)),(13,Cc (lo 26 bJ.2.2.2.length)),(14,Iv s12.1),(15,Iv x95),(16,Iv bJ.1),(17,Iv fE)] [(21,.row 26 [[iC g.aH,xF aF g.aC]]),(22,.row 163 [[xF aA p.Free,xF aA p.aJ,xF aA p.aI]]),(23,.row 163 [[sC aO,sC aO,sC aO]]),(24,pR 3 aA (bJ.2.1.set fE.toNat bJ.1)),(25,pR 3 aA bJ.2.2.1),(26,pR 4 oL (bJ.2.2.2.set fE.toNat true))] z12 z6 (Wr (aN (Iv fE) y4 (aN (Iv b) y4 (bG LT.neq y5 (aN (Bv (fE != b)) y4 (aT.split (fun mO => ?_) (fun mO => ?_)))))))
         ·refine iq (xF aA p.Free) iw dP mO eG (dY (Iv fE) mO y5 (ak fun Gt Sl => (fA (LT.eX (enc := aA) Q fB Sl iO) Q Q (gH mO Q Q) Q (aZ (LT.iG Q bD) Q (gH mO Q Q) Q (iE LT.gtr mO kN (eF (Bv (decide (0 < Gt))) mO y5 (On (aB.nil ⟨Q,aU.of ⟨Q,Q,Q,Q,Q,congrArg (fun l1 => (some (AV.s (.c (lo 24 l1))) : Option AV)) (show bJ.2.1.length = (bJ.2.1.set fE.toNat bJ.1).length by simp only [List.length_set]),Q,congrArg (fun l1 => (some (AV.s (.c (lo 26 l1))) : Option AV)) (show bJ.2.2.2.length = (bJ.2.2.2.set fE.toNat true).length by simp only [List.length_set]),Q,Q,Q,Q,Q,J⟩ z6⟩))))))))
         ·refine aW mO y5 (aW mO y5 (aW mO y5 (aW mO y5 (aW mO y5 (aW mO y5 (fD (Bv false) mO ah (On (aB.nil ⟨Q,aU.of ⟨Q,Q,Q,Q,Q,congrArg (fun l1 => (some (AV.s (.c (lo 24 l1))) : Option AV)) (show bJ.2.1.length = (bJ.2.1.set fE.toNat bJ.1).length by simp only [List.length_set]),Q,congrArg (fun l1 => (some (AV.s (.c (lo 26 l1))) : Option AV)) (show bJ.2.2.2.length = (bJ.2.2.2.set fE.toNat true).length by simp only [List.length_set]),Q,Q,Q,Q,Q,J⟩ z6⟩))))))))
        ·refine aB.cond Q (fun QA => ?_) (fun QA => ?_)
         ·refine Ws (Wr ?_)
          refine bZ (bW [iC g.aH,xF aF g.aC] Q dw dN bM) Q Q Q Q (bZ (bW [xF aA p.Free,xF aA p.aJ,xF aA p.aI] Q fJ dB bV) Q Q Q Q (aN (Cc (lo 24 ((bJ.2.1.set fE.toNat bJ.1).length))) y4 (aN (Iv a) y4 (aN (Iv fE) y4 (ak fun jc EX => (aT.step (cF [.agg [iC g.aH,xF aF g.aC],.agg [xF aA p.Free,xF aA p.aJ,xF aA p.aI],.c (lo 24 ((bJ.2.1.set fE.toNat bJ.1).length)),.c (iC a),.c (iC fE)] [(24,pR 3 aA (bJ.2.1.set fE.toNat bJ.1))] (Fw.Fn.ren [(0,29),(1,30),(2,31)] (W9 g p (bJ.2.1.set fE.toNat bJ.1) a fE jc EX) Q) OM (.cons (.agg (.cons (.same Q) (.cons (.same Q) .nil))) (.cons (.agg (.cons (.same Q) (.cons (.same Q) (.cons (.same Q) .nil)))) (.cons (.c (.fF Q Q)) (.cons (.c (.same Q)) (.cons (.c (.same Q)) .nil))))) J y3) z6 z1 Q Q (bn (stA [lo 29 jc.Free.length,lo 30 jc.aJ.length,lo 31 jc.aI.length] Q Q dB bV) Q Q Q Q Q (aQ (Bv true) af (On (en [(8,Cc (.pl 23 0)),(9,Bv true)] [(23,.row 163 [[lo 29 jc.Free.length,lo 30 jc.aJ.length,lo 31 jc.aI.length]]),(29,pR 3 aA jc.Free),(30,pR 3 aA jc.aJ),(31,pR 3 aA jc.aI)] z2 z4 (aB.ent (aU.mv 29 0 Q Q) ?_)))))))))))
          refine aB.ent (aU.mv 30 1 Q Q) (aB.ent (aU.mv 31 2 Q Q) (en [(8,Cc (.pl 23 0)),(9,Bv true)] [(0,pR 3 aA jc.Free),(1,pR 3 aA jc.aJ),(2,pR 3 aA jc.aI),(23,.row 163 [[lo 0 jc.Free.length,lo 1 jc.aJ.length,lo 2 jc.aI.length]])] z2 z4 (aB.ret ⟨Q,ay.mk (.inr Q) ⟨⟨_,_,_,Q,Q,Q,fJ,bV,_,dR dB⟩,Q,J⟩ z3 Q ⟨⟨J,J,J,J⟩,bI.sc,J⟩ ⟨bK.bY dK,bK.bY dK,bK.bY dK,J⟩⟩)))
         ·refine aB.skip (Wr ?_)
          refine aN (Cc (lo 25 bJ.2.2.1.length)) y4 (aN (Iv fE) y4 (dG (LT.gJ (n := 32) (enc := aA) [(0,.tmp 102,.c (iC fE))] ([fE] : List Int) Q Q eU gy Q Q Q Q (by decide) (fun _ => Q) Q) Q Q Q (ak fun Vt RZ => (lZ (LT.kY (enc := aA) Q Q Q eU gy Q (by decide) (by decide) (fun _ => Q) (jF RZ)) Q Q Q Q Q Q (aQ (Cc (lo 25 ((bJ.2.2.1 ++ ([fE] : List Int)).length))) y4 (On (aB.blk (Wr ?_))))))))
          refine aN (Iv bJ.1) y4 (bG LT.add ah (aQ (Iv (aP (bJ.1 + 1))) y4 (On (aj Q z11 z6))))
     ·refine aB.gV Q ⟨Q,aU.of z9 z6⟩
    ·refine aB.blk (Wr ?_)
     refine aN (Iv lg.1) y4 (bG LT.add ah (aQ (Iv (aP (lg.1 + 1))) y4 (On (aj Q z9 z6))))
   ·refine aB.gV Q ⟨Q,aU.of z2 z2⟩
  ·refine Ws (Wr ?_)
   refine bZ (bW [xF aA p.Free,xF aA p.aJ,xF aA p.aI] Q fJ dB bV) Q Q Q Q (bn (stA [xF aA p.Free,xF aA p.aJ,xF aA p.aI] Q Q dB bV) Q Q Q Q Q (aQ (Bv false) af (On (aB.ent (aU.Ez 23 0 Q) (aB.ent (aU.Ez 23 1 Q) (aB.ent (aU.Ez 23 2 Q) (aB.ent (aU.FQ 0 3 Q) (aB.ent (aU.FQ 1 3 Q) (aB.ent (aU.FQ 2 3 Q) (en [(8,Cc (.pl 23 0)),(9,Bv false)] [(0,pR 3 aA ([] : List Int)),(1,pR 3 aA ([] : List Int)),(2,pR 3 aA ([] : List Int)),(23,.row 163 [[.junk,.junk,.junk]])] z2 z4 (aB.ret (ay.mk (.inr Q) ⟨⟨_,_,_,Q,Q,Q,fJ,bV,_,dR dB⟩,Q,J⟩ z3 Q ⟨⟨J,J,J,J⟩,bI.sc,J⟩ ⟨bK.bY dK,bK.bY dK,bK.bY dK,J⟩))))))))))))
theorem MS (g : aX) (p : aY) (a : Int) (b : Int) (want : Int) : FT Try.prog (qw g p a b want) 194 [.agg [iC g.aH,xF aF g.aC],.agg [xF aA p.Free,xF aA p.aJ,xF aA p.aI],.c (iC a),.c (iC b),.c (iC want)] [] (fun (t : (aY × Bool)) => [.agg [lo 0 t.1.Free.length,lo 1 t.1.aJ.length,lo 2 t.1.aI.length],.c (bC t.2)]) (fun (t : (aY × Bool)) => [(0,pR 3 aA t.1.Free),(1,pR 3 aA t.1.aJ),(2,pR 3 aA t.1.aI)]) [0,1,2] := by
 refine FT.of [] Try.func194 Try.ntmps194 Q y2 ?_
 intro w0 U0 R0 g0
 unfold qw
 refine Ws (Wr ?_)
 refine dG (LT.box (n := 21) (v := (.agg [iC g.aH,xF aF g.aC])) Q bM (by exact Q)) Q Q Q (dG (LT.box (n := 22) (v := (.agg [xF aA p.Free,xF aA p.aJ,xF aA p.aI])) Q bV (by exact Q)) Q Q Q (dX (LT.alloc (n := 23) (cells := [sC aO,sC aO,sC aO]) Q iW Q Q Q) Q Q (aQ (Bv false) af (On (Ws (Wr ?_))))))
 refine bZ (bW [xF aA p.Free,xF aA p.aJ,xF aA p.aI] Q fJ dB bV) Q Q Q Q (ak fun r1 hr1 => (aT.step (cO [.agg [xF aA p.Free,xF aA p.aJ,xF aA p.aI]] (Fw.Fn.ren [(0,25),(1,26),(2,27)] (Cj p r1 hr1) Q) zx (CO y3) J y3) z2 J Q Q (dX (LT.alloc (n := 28) (cells := [sC aO,sC aO,sC aO]) Q iW Q Q Q) Q Q (bn (stA [lo 25 r1.Free.length,lo 26 r1.aJ.length,lo 27 r1.aI.length] Q Q dB bV) Q Q Q Q Q (On (Ws (aB.block ?_)))))))
 refine aB.nN (id := 0) (qx g a b want) (fun s2 => ([(2,Iv a),(3,Iv b),(4,Iv want),(5,Cc (.pl 21 0)),(10,Cc (.pl 23 0)),(12,Cc (.pl 28 0))],[(21,.row 26 [[iC g.aH,xF aF g.aC]]),(23,.row 163 [[sC aO,sC aO,sC aO]]),(25,pR 3 aA s2.1),(26,pR 3 aA s2.2.1),(27,pR 3 aA s2.2.2),(28,.row 163 [[lo 25 s2.1.length,lo 26 s2.2.1.length,lo 27 s2.2.2.length]])])) (fun b27 => ([(10,Cc (.pl 23 0)),(12,Cc (.pl 28 0))],[(23,.row 163 [[sC aO,sC aO,sC aO]]),(25,pR 3 aA b27.1),(26,pR 3 aA b27.2.1),(27,pR 3 aA b27.2.2),(28,.row 163 [[lo 25 b27.1.length,lo 26 b27.2.1.length,lo 27 b27.2.2.length]])])) (ay Try.prog Try.f194.results.toList [] [0,1,2] (fun (t : (aY × Bool)) => [.agg [lo 0 t.1.Free.length,lo 1 t.1.aJ.length,lo 2 t.1.aI.length],.c (bC t.2)]) (fun (t : (aY × Bool)) => [(0,pR 3 aA t.1.Free),(1,pR 3 aA t.1.aJ),(2,pR 3 aA t.1.aI)])) ?_ (aU.of z6 z6) Q (fun b27 _ => ?_) (by intro r t σ m ht hk; injection ht with ht; subst ht; exact hk)
 ·intro s2
  unfold qx
  refine Ws (Ws (aB.draw mixed ?_))
  refine fQ (lo 25 s2.1.length) iw dP bF (bf (Iv a) y4 (aS.bind fun x28 hx28 => (kF (LT.fK Q Q fB hx28) Q Q Q Q Q (fZ (LT.je (k := 0) Q bD hx28 (by exact Q) (by exact Q)) Q Q Q Q (fQ (lo 25 s2.1.length) iw dP bF (bf (Iv b) y4 (aS.bind fun x29 hx29 => (kF (LT.fK Q Q fB hx29) Q Q Q Q Q (fZ (LT.je (k := 0) Q bD hx29 (by exact Q) (by exact Q)) Q Q Q Q ?_)))))))))
  refine jP LT.add y5 (bf (Iv want) y4 (jP LT.lss y5 (aS.nil (by kernel_rfl) (aB.cond Q (fun EH => ?_) (fun EH => ?_)))))
  ·refine aB.skip (aB.block (Ws ?_))
   refine en [(2,Iv a),(3,Iv b),(4,Iv want),(5,Cc (.pl 21 0)),(10,Cc (.pl 23 0)),(12,Cc (.pl 28 0))] [(21,.row 26 [[iC g.aH,xF aF g.aC]]),(23,.row 163 [[sC aO,sC aO,sC aO]]),(25,pR 3 aA s2.1),(26,pR 3 aA s2.2.1),(27,pR 3 aA s2.2.2),(28,.row 163 [[lo 25 s2.1.length,lo 26 s2.2.1.length,lo 27 s2.2.2.length]])] z6 z6 (Wr (bZ (bW [iC g.aH,xF aF g.aC] Q dw dN bM) Q Q Q Q (bZ (bW [lo 25 s2.1.length,lo 26 s2.2.1.length,lo 27 s2.2.2.length] Q fJ dB bV) Q Q Q Q (aN (Iv a) y4 (aN (Iv b) y4 (ak fun ax uw => (aT.split (fun EC => ?_) (fun EC => ?_))))))))
   ·refine aT.step (cF [.agg [iC g.aH,xF aF g.aC],.agg [lo 25 s2.1.length,lo 26 s2.2.1.length,lo 27 s2.2.2.length],.c (iC a),.c (iC b)] [(25,pR 3 aA s2.1),(26,pR 3 aA s2.2.1),(27,pR 3 aA s2.2.2)] (show Fw.Fn Try.prog 204 [.agg [iC g.aH,xF aF g.aC],.agg [xF aA ((aY.mk s2.1 s2.2.1 s2.2.2).Free),xF aA ((aY.mk s2.1 s2.2.1 s2.2.2).aJ),xF aA ((aY.mk s2.1 s2.2.1 s2.2.2).aI)],.c (iC a),.c (iC b)] [] (.cZ [.agg [lo 30 ax.1.Free.length,lo 31 ax.1.aJ.length,lo 32 ax.1.aI.length],.c (bC true)]) [(30,pR 3 aA ax.1.Free),(31,pR 3 aA ax.1.aJ),(32,pR 3 aA ax.1.aI)] [] [30,31,32] from Fw.Fn.ren [(0,30),(1,31),(2,32)] (by have q := Cm g (aY.mk s2.1 s2.2.1 s2.2.2) a b ax uw; dsimp only at q; rw [EC] at q; exact q) Q) zy (.cons (.agg (.cons (.same Q) (.cons (.same Q) .nil))) (.cons (.agg (.cons (.fF Q Q) (.cons (.fF Q Q) (.cons (.fF Q Q) .nil)))) (.cons (.c (.same Q)) (.cons (.c (.same Q)) .nil)))) J y3) z5 z3 Q Q (aN (.cZ [.agg [lo 30 ax.1.Free.length,lo 31 ax.1.aJ.length,lo 32 ax.1.aI.length],.c (bC true)]) y4 (aZ (LT.extract (v := (.agg [lo 30 ax.1.Free.length,lo 31 ax.1.aJ.length,lo 32 ax.1.aI.length])) Q (by exact Q)) Q Q Q (aZ (LT.extract (v := (.c (bC true))) Q (by exact Q)) Q Q Q (dX (LT.alloc (n := 33) (cells := [sC aO,sC aO,sC aO]) Q iW Q Q Q) Q Q (bn (stA [lo 30 ax.1.Free.length,lo 31 ax.1.aJ.length,lo 32 ax.1.aI.length] Q Q dB bV) Q Q Q Q Q (aQ (Bv true) y4 (On (Ws (Ws ?_)))))))))
    refine en [(2,Iv a),(3,Iv b),(4,Iv want),(5,Cc (.pl 21 0)),(10,Cc (.pl 23 0)),(12,Cc (.pl 28 0)),(13,Cc (.pl 33 0)),(14,Bv true)] [(21,.row 26 [[iC g.aH,xF aF g.aC]]),(23,.row 163 [[sC aO,sC aO,sC aO]]),(25,pR 3 aA s2.1),(26,pR 3 aA s2.2.1),(27,pR 3 aA s2.2.2),(28,.row 163 [[lo 25 s2.1.length,lo 26 s2.2.1.length,lo 27 s2.2.2.length]]),(30,pR 3 aA ax.1.Free),(31,pR 3 aA ax.1.aJ),(32,pR 3 aA ax.1.aI),(33,.row 163 [[lo 30 ax.1.Free.length,lo 31 ax.1.aJ.length,lo 32 ax.1.aI.length]])] z8 z10 (Wr (aN (Bv true) y4 (aZ (LT.not Q) Q Q Q (On (aB.cond Q (fun EI => ?_) (fun EI => ?_))))))
    ·exact aB.none
    ·refine aB.skip (Ws (Ws (Wr ?_)))
     refine aN (Bv true) y4 (aZ (LT.not Q) Q Q Q (On (aB.cond Q (fun hc34 => ?_) (fun hc34 => ?_))))
     ·exact aB.none
     ·refine aB.skip (Wr ?_)
      refine bZ (bW [lo 30 ax.1.Free.length,lo 31 ax.1.aJ.length,lo 32 ax.1.aI.length] Q fJ dB bV) Q Q Q Q (bn (stA [lo 30 ax.1.Free.length,lo 31 ax.1.aJ.length,lo 32 ax.1.aI.length] Q Q dB bV) Q Q Q Q Q (On (aB.blk ?_)))
      refine en [(2,Iv a),(3,Iv b),(4,Iv want),(5,Cc (.pl 21 0)),(10,Cc (.pl 23 0)),(12,Cc (.pl 28 0))] [(21,.row 26 [[iC g.aH,xF aF g.aC]]),(23,.row 163 [[sC aO,sC aO,sC aO]]),(28,.row 163 [[lo 30 ax.1.Free.length,lo 31 ax.1.aJ.length,lo 32 ax.1.aI.length]]),(30,pR 3 aA ax.1.Free),(31,pR 3 aA ax.1.aJ),(32,pR 3 aA ax.1.aI)] z6 z6 (aB.ent (aU.mv 30 25 Q Q) (aB.ent (aU.mv 31 26 Q Q) (aB.ent (aU.mv 32 27 Q Q) (aj Q z6 z6))))
   ·refine aT.step (cF [.agg [iC g.aH,xF aF g.aC],.agg [lo 25 s2.1.length,lo 26 s2.2.1.length,lo 27 s2.2.2.length],.c (iC a),.c (iC b)] [(25,pR 3 aA s2.1),(26,pR 3 aA s2.2.1),(27,pR 3 aA s2.2.2)] (show Fw.Fn Try.prog 204 [.agg [iC g.aH,xF aF g.aC],.agg [xF aA ((aY.mk s2.1 s2.2.1 s2.2.2).Free),xF aA ((aY.mk s2.1 s2.2.1 s2.2.2).aJ),xF aA ((aY.mk s2.1 s2.2.1 s2.2.2).aI)],.c (iC a),.c (iC b)] [] (.cZ [.agg [.junk,.junk,.junk],.c (bC false)]) [(30,pR 3 aA ([] : List Int)),(31,pR 3 aA ([] : List Int)),(32,pR 3 aA ([] : List Int))] [] [30,31,32] from Fw.Fn.ren [(0,30),(1,31),(2,32)] (by have q := Cm g (aY.mk s2.1 s2.2.1 s2.2.2) a b ax uw; dsimp only at q; rw [EC] at q; exact q) Q) zy (.cons (.agg (.cons (.same Q) (.cons (.same Q) .nil))) (.cons (.agg (.cons (.fF Q Q) (.cons (.fF Q Q) (.cons (.fF Q Q) .nil)))) (.cons (.c (.same Q)) (.cons (.c (.same Q)) .nil)))) J y3) z5 z3 Q Q (aN (.cZ [.agg [.junk,.junk,.junk],.c (bC false)]) y4 (aZ (LT.extract (v := (.agg [.junk,.junk,.junk])) Q (by exact Q)) Q Q Q (aZ (LT.extract (v := (.c (bC false))) Q (by exact Q)) Q Q Q (dX (LT.alloc (n := 33) (cells := [sC aO,sC aO,sC aO]) Q iW Q Q Q) Q Q (bn (stA [.junk,.junk,.junk] Q Q dB bV) Q Q Q Q Q (aQ (Bv false) y4 (On (Ws (Ws ?_)))))))))
    refine en [(2,Iv a),(3,Iv b),(4,Iv want),(5,Cc (.pl 21 0)),(10,Cc (.pl 23 0)),(12,Cc (.pl 28 0)),(13,Cc (.pl 33 0)),(14,Bv false)] [(21,.row 26 [[iC g.aH,xF aF g.aC]]),(23,.row 163 [[sC aO,sC aO,sC aO]]),(25,pR 3 aA s2.1),(26,pR 3 aA s2.2.1),(27,pR 3 aA s2.2.2),(28,.row 163 [[lo 25 s2.1.length,lo 26 s2.2.1.length,lo 27 s2.2.2.length]]),(33,.row 163 [[.junk,.junk,.junk]])] z8 z7 (Wr (aN (Bv false) y4 (aZ (LT.not Q) Q Q Q (On (aB.cond Q (fun EJ => ?_) (fun EJ => ?_))))))
    ·refine Wr (bZ (bW [iC g.aH,xF aF g.aC] Q dw dN bM) Q Q Q Q (bZ (bW [lo 25 s2.1.length,lo 26 s2.2.1.length,lo 27 s2.2.2.length] Q fJ dB bV) Q Q Q Q (aN (Iv b) y4 (aN (Iv a) y4 (ak fun fV I5 => (aT.split (fun ED => ?_) (fun ED => ?_)))))))
     ·refine aT.step (cF [.agg [iC g.aH,xF aF g.aC],.agg [lo 25 s2.1.length,lo 26 s2.2.1.length,lo 27 s2.2.2.length],.c (iC b),.c (iC a)] [(25,pR 3 aA s2.1),(26,pR 3 aA s2.2.1),(27,pR 3 aA s2.2.2)] (show Fw.Fn Try.prog 204 [.agg [iC g.aH,xF aF g.aC],.agg [xF aA ((aY.mk s2.1 s2.2.1 s2.2.2).Free),xF aA ((aY.mk s2.1 s2.2.1 s2.2.2).aJ),xF aA ((aY.mk s2.1 s2.2.1 s2.2.2).aI)],.c (iC b),.c (iC a)] [] (.cZ [.agg [lo 35 fV.1.Free.length,lo 36 fV.1.aJ.length,lo 37 fV.1.aI.length],.c (bC true)]) [(35,pR 3 aA fV.1.Free),(36,pR 3 aA fV.1.aJ),(37,pR 3 aA fV.1.aI)] [] [35,36,37] from Fw.Fn.ren [(0,35),(1,36),(2,37)] (by have q := Cm g (aY.mk s2.1 s2.2.1 s2.2.2) b a fV I5; dsimp only at q; rw [ED] at q; exact q) Q) zy (.cons (.agg (.cons (.same Q) (.cons (.same Q) .nil))) (.cons (.agg (.cons (.fF Q Q) (.cons (.fF Q Q) (.cons (.fF Q Q) .nil)))) (.cons (.c (.same Q)) (.cons (.c (.same Q)) .nil)))) J y3) z5 z3 Q Q (aN (.cZ [.agg [lo 35 fV.1.Free.length,lo 36 fV.1.aJ.length,lo 37 fV.1.aI.length],.c (bC true)]) y4 (aZ (LT.extract (v := (.agg [lo 35 fV.1.Free.length,lo 36 fV.1.aJ.length,lo 37 fV.1.aI.length])) Q (by exact Q)) Q Q Q (aZ (LT.extract (v := (.c (bC true))) Q (by exact Q)) Q Q Q (bn (stA [lo 35 fV.1.Free.length,lo 36 fV.1.aJ.length,lo 37 fV.1.aI.length] Q Q dB bV) Q Q Q Q Q (aQ (Bv true) y4 (On (Ws (Ws ?_))))))))
      refine en [(2,Iv a),(3,Iv b),(4,Iv want),(5,Cc (.pl 21 0)),(10,Cc (.pl 23 0)),(12,Cc (.pl 28 0)),(13,Cc (.pl 33 0)),(14,Bv true)] [(21,.row 26 [[iC g.aH,xF aF g.aC]]),(23,.row 163 [[sC aO,sC aO,sC aO]]),(25,pR 3 aA s2.1),(26,pR 3 aA s2.2.1),(27,pR 3 aA s2.2.2),(28,.row 163 [[lo 25 s2.1.length,lo 26 s2.2.1.length,lo 27 s2.2.2.length]]),(33,.row 163 [[lo 35 fV.1.Free.length,lo 36 fV.1.aJ.length,lo 37 fV.1.aI.length]]),(35,pR 3 aA fV.1.Free),(36,pR 3 aA fV.1.aJ),(37,pR 3 aA fV.1.aI)] z8 z10 (Wr (aN (Bv true) y4 (aZ (LT.not Q) Q Q Q (On (aB.cond Q (fun hc38 => ?_) (fun hc38 => ?_))))))
      ·exact aB.none
      ·refine aB.skip (Wr ?_)
       refine bZ (bW [lo 35 fV.1.Free.length,lo 36 fV.1.aJ.length,lo 37 fV.1.aI.length] Q fJ dB bV) Q Q Q Q (bn (stA [lo 35 fV.1.Free.length,lo 36 fV.1.aJ.length,lo 37 fV.1.aI.length] Q Q dB bV) Q Q Q Q Q (On (aB.blk ?_)))
       refine en [(2,Iv a),(3,Iv b),(4,Iv want),(5,Cc (.pl 21 0)),(10,Cc (.pl 23 0)),(12,Cc (.pl 28 0))] [(21,.row 26 [[iC g.aH,xF aF g.aC]]),(23,.row 163 [[sC aO,sC aO,sC aO]]),(28,.row 163 [[lo 35 fV.1.Free.length,lo 36 fV.1.aJ.length,lo 37 fV.1.aI.length]]),(35,pR 3 aA fV.1.Free),(36,pR 3 aA fV.1.aJ),(37,pR 3 aA fV.1.aI)] z6 z6 (aB.ent (aU.mv 35 25 Q Q) (aB.ent (aU.mv 36 26 Q Q) (aB.ent (aU.mv 37 27 Q Q) (aj Q z6 z6))))
     ·refine aT.step (cF [.agg [iC g.aH,xF aF g.aC],.agg [lo 25 s2.1.length,lo 26 s2.2.1.length,lo 27 s2.2.2.length],.c (iC b),.c (iC a)] [(25,pR 3 aA s2.1),(26,pR 3 aA s2.2.1),(27,pR 3 aA s2.2.2)] (show Fw.Fn Try.prog 204 [.agg [iC g.aH,xF aF g.aC],.agg [xF aA ((aY.mk s2.1 s2.2.1 s2.2.2).Free),xF aA ((aY.mk s2.1 s2.2.1 s2.2.2).aJ),xF aA ((aY.mk s2.1 s2.2.1 s2.2.2).aI)],.c (iC b),.c (iC a)] [] (.cZ [.agg [.junk,.junk,.junk],.c (bC false)]) [(35,pR 3 aA ([] : List Int)),(36,pR 3 aA ([] : List Int)),(37,pR 3 aA ([] : List Int))] [] [35,36,37] from Fw.Fn.ren [(0,35),(1,36),(2,37)] (by have q := Cm g (aY.mk s2.1 s2.2.1 s2.2.2) b a fV I5; dsimp only at q; rw [ED] at q; exact q) Q) zy (.cons (.agg (.cons (.same Q) (.cons (.same Q) .nil))) (.cons (.agg (.cons (.fF Q Q) (.cons (.fF Q Q) (.cons (.fF Q Q) .nil)))) (.cons (.c (.same Q)) (.cons (.c (.same Q)) .nil)))) J y3) z5 z3 Q Q (aN (.cZ [.agg [.junk,.junk,.junk],.c (bC false)]) y4 (aZ (LT.extract (v := (.agg [.junk,.junk,.junk])) Q (by exact Q)) Q Q Q (aZ (LT.extract (v := (.c (bC false))) Q (by exact Q)) Q Q Q (bn (stA [.junk,.junk,.junk] Q Q dB bV) Q Q Q Q Q (aQ (Bv false) y4 (On (Ws (Ws ?_))))))))
      refine en [(2,Iv a),(3,Iv b),(4,Iv want),(5,Cc (.pl 21 0)),(10,Cc (.pl 23 0)),(12,Cc (.pl 28 0)),(13,Cc (.pl 33 0)),(14,Bv false)] [(21,.row 26 [[iC g.aH,xF aF g.aC]]),(23,.row 163 [[sC aO,sC aO,sC aO]]),(25,pR 3 aA s2.1),(26,pR 3 aA s2.2.1),(27,pR 3 aA s2.2.2),(28,.row 163 [[lo 25 s2.1.length,lo 26 s2.2.1.length,lo 27 s2.2.2.length]]),(33,.row 163 [[.junk,.junk,.junk]])] z8 z7 (Wr (aN (Bv false) y4 (aZ (LT.not Q) Q Q Q (On (aB.cond Q (fun hc39 => ?_) (fun hc39 => ?_))))))
      ·refine Ws (Wr ?_)
       refine bZ (bW [lo 25 s2.1.length,lo 26 s2.2.1.length,lo 27 s2.2.2.length] Q fJ dB bV) Q Q Q Q (bn (stA [lo 25 s2.1.length,lo 26 s2.2.1.length,lo 27 s2.2.2.length] Q Q dB bV) Q Q Q Q Q (aQ (Bv false) af (On (en [(10,Cc (.pl 23 0)),(11,Bv false)] [(23,.row 163 [[lo 25 s2.1.length,lo 26 s2.2.1.length,lo 27 s2.2.2.length]]),(25,pR 3 aA s2.1),(26,pR 3 aA s2.2.1),(27,pR 3 aA s2.2.2)] z2 z4 (aB.ent (aU.mv 25 0 Q Q) (aB.ent (aU.mv 26 1 Q Q) (aB.ent (aU.mv 27 2 Q Q) (en [(10,Cc (.pl 23 0)),(11,Bv false)] [(0,pR 3 aA s2.1),(1,pR 3 aA s2.2.1),(2,pR 3 aA s2.2.2),(23,.row 163 [[lo 0 s2.1.length,lo 1 s2.2.1.length,lo 2 s2.2.2.length]])] z2 z4 (aB.ret ⟨Q,ay.mk (.inr Q) ⟨⟨_,_,_,Q,Q,Q,fJ,bV,_,dR dB⟩,Q,J⟩ z3 Q ⟨⟨J,J,J,J⟩,bI.sc,J⟩ ⟨bK.bY dK,bK.bY dK,bK.bY dK,J⟩⟩)))))))))
      ·exact aB.none
    ·exact aB.none
  ·refine aB.gV Q ⟨Q,aU.of z2 z5⟩
 ·refine Ws (Wr ?_)
  refine bZ (bW [lo 25 b27.1.length,lo 26 b27.2.1.length,lo 27 b27.2.2.length] Q fJ dB bV) Q Q Q Q (bn (stA [lo 25 b27.1.length,lo 26 b27.2.1.length,lo 27 b27.2.2.length] Q Q dB bV) Q Q Q Q Q (aQ (Bv true) af (On (en [(10,Cc (.pl 23 0)),(11,Bv true)] [(23,.row 163 [[lo 25 b27.1.length,lo 26 b27.2.1.length,lo 27 b27.2.2.length]]),(25,pR 3 aA b27.1),(26,pR 3 aA b27.2.1),(27,pR 3 aA b27.2.2)] z2 z4 (aB.ent (aU.mv 25 0 Q Q) (aB.ent (aU.mv 26 1 Q Q) (aB.ent (aU.mv 27 2 Q Q) (en [(10,Cc (.pl 23 0)),(11,Bv true)] [(0,pR 3 aA b27.1),(1,pR 3 aA b27.2.1),(2,pR 3 aA b27.2.2),(23,.row 163 [[lo 0 b27.1.length,lo 1 b27.2.1.length,lo 2 b27.2.2.length]])] z2 z4 (aB.ret (ay.mk (.inr Q) ⟨⟨_,_,_,Q,Q,Q,fJ,bV,_,dR dB⟩,Q,J⟩ z3 Q ⟨⟨J,J,J,J⟩,bI.sc,J⟩ ⟨bK.bY dK,bK.bY dK,bK.bY dK,J⟩))))))))))
theorem MW (g : aX) : FT Try.prog (wJ g) 172 [.agg [iC g.aH,xF aF g.aC]] [] (fun (t : Int) => [.c (iC t)]) (fun (t : Int) => []) [] := by
 refine FT.of [] Try.func172 Try.ntmps172 Q y2 ?_
 intro w0 U0 R0 g0
 unfold wJ
 refine Ws (Wr ?_)
 refine dG (LT.box (n := 21) (v := (.agg [iC g.aH,xF aF g.aC])) Q bM (by exact Q)) Q Q Q (aQ (Iv 0) af (On (Ws (Wr ?_))))
 refine bU (iC g.aH) iy bD bF (aZ (LT.build [(0,.tmp 11,.c (iC g.aH))] Q Q BQ lW Q Q Q) Q Q Q (ak fun r1 hr1 => (aT.step (cO [.agg [iC g.aH,sC aO],.c (iC 2)] (Fw.Fn.ren [(0,23),(1,24),(2,25)] (MP (aX.mk g.aH ([] : List aK)) 2 r1 hr1) Q) H7 (.cons (.agg (.cons (.same Q) (.cons .nil .nil))) (.cons (.c (.same Q)) .nil)) J y3) ⟨Q,Q,y2,J⟩ J Q Q (aN (.cZ [.agg [lo 23 r1.1.Free.length,lo 24 r1.1.aJ.length,lo 25 r1.1.aI.length],.c (bC r1.2)]) y4 (aZ (LT.extract (v := (.agg [lo 23 r1.1.Free.length,lo 24 r1.1.aJ.length,lo 25 r1.1.aI.length])) Q (by exact Q)) Q Q Q (aZ (LT.extract (v := (.c (bC r1.2))) Q (by exact Q)) Q Q Q (dX (LT.alloc (n := 26) (cells := [sC aO,sC aO,sC aO]) Q iW Q Q Q) Q Q (bn (stA [lo 23 r1.1.Free.length,lo 24 r1.1.aJ.length,lo 25 r1.1.aI.length] Q Q dB bV) Q Q Q Q Q (aQ (Bv r1.2) y4 (On (Ws ?_)))))))))))
 refine en [(1,Cc (.pl 21 0)),(3,Cc (.pl 26 0))] [(21,.row 26 [[iC g.aH,xF aF g.aC]]),(23,pR 3 aA r1.1.Free),(24,pR 3 aA r1.1.aJ),(25,pR 3 aA r1.1.aI),(26,.row 163 [[lo 23 r1.1.Free.length,lo 24 r1.1.aJ.length,lo 25 r1.1.aI.length]])] z2 z5 (Wr (aQ (Iv 0) af (On (Ws (Ws (Wr ?_))))))
 refine aQ (Iv 0) af (On (aB.block ?_))
 refine aB.kD (id := 0) (tY g) (fun s2 => ([(1,Cc (.pl 21 0)),(3,Cc (.pl 26 0)),(5,Iv s2.2.1),(6,Iv s2.1)],[(21,.row 26 [[iC g.aH,xF aF g.aC]]),(23,pR 3 aA s2.2.2.1),(24,pR 3 aA s2.2.2.2.1),(25,pR 3 aA s2.2.2.2.2),(26,.row 163 [[lo 23 s2.2.2.1.length,lo 24 s2.2.2.2.1.length,lo 25 s2.2.2.2.2.length]])])) (fun b27 => ([(5,Iv b27)],[])) ?_ (aU.of z4 z5) Q (fun b27 _ => ?_)
 ·intro s2
  unfold tY
  refine Ws (Ws (Wr ?_))
  refine aN (Iv s2.1) y4 (bU (xF aF g.aC) dZ eH bF (aZ (LT.jC Q dh) Q Q Q (bG LT.lss y5 (On (aB.cond Q (fun hc28 => ?_) (fun hc28 => ?_))))))
  ·refine aB.skip (Ws (aB.block (Ws (aB.draw mixed ?_))))
   refine fZ (bW [iC g.aH,xF aF g.aC] Q dw dN bM) Q Q Q Q (fZ (bW [lo 23 s2.2.2.1.length,lo 24 s2.2.2.2.1.length,lo 25 s2.2.2.2.2.length] Q fJ dB bV) Q Q Q Q (fQ (xF aF g.aC) dZ eH bF (bf (Iv s2.1) y4 (aS.bind fun x29 hx29 => (eu (LT.eX (enc := aF) Q gB hx29 dD) Q Q Q Q (bg (LT.ku Q gI) Q Q Q (bg (LT.iG Q bD) Q Q Q (fQ (xF aF g.aC) dZ eH bF (bf (Iv s2.1) y4 ?_)))))))))
   refine aS.bind fun x30 TF => (eu (LT.eX (enc := aF) Q gB TF dD) Q Q Q Q (bg (LT.ku Q iR) Q Q Q (bg (LT.iG Q bD) Q Q Q (aS.bind fun ax uw => (aS.step (cF [.agg [iC g.aH,xF aF g.aC],.agg [lo 23 s2.2.2.1.length,lo 24 s2.2.2.2.1.length,lo 25 s2.2.2.2.2.length],.c (iC x29.A),.c (iC x30.B),.c (iC 4)] [(23,pR 3 aA s2.2.2.1),(24,pR 3 aA s2.2.2.2.1),(25,pR 3 aA s2.2.2.2.2)] (Fw.Fn.ren [(0,28),(1,29),(2,30)] (MS g (aY.mk s2.2.2.1 s2.2.2.2.1 s2.2.2.2.2) x29.A x30.B 4 ax uw) Q) H8 (.cons (.agg (.cons (.same Q) (.cons (.same Q) .nil))) (.cons (.agg (.cons (.fF Q Q) (.cons (.fF Q Q) (.cons (.fF Q Q) .nil)))) (.cons (.c (.same Q)) (.cons (.c (.same Q)) (.cons (.c (.same Q)) .nil))))) J y3) ⟨Q,Q,Q,Q,Q,y2,J⟩ z3 Q Q (bf (.cZ [.agg [lo 28 ax.1.Free.length,lo 29 ax.1.aJ.length,lo 30 ax.1.aI.length],.c (bC ax.2)]) y4 (bg (LT.extract (v := (.agg [lo 28 ax.1.Free.length,lo 29 ax.1.aJ.length,lo 30 ax.1.aI.length])) Q (by exact Q)) Q Q Q (bg (LT.extract (v := (.c (bC ax.2))) Q (by exact Q)) Q Q Q (rP (LT.alloc (n := 31) (cells := [sC aO,sC aO,sC aO]) Q iW Q Q Q) Q Q (kQ (stA [lo 28 ax.1.Free.length,lo 29 ax.1.aJ.length,lo 30 ax.1.aI.length] Q Q dB bV) Q Q Q Q Q (bg (LT.assign (v := (Bv ax.2)) Q) Q Q Q ?_)))))))))))
   refine aS.nil (by kernel_rfl) (Ws (Ws ?_))
   refine en [(1,Cc (.pl 21 0)),(3,Cc (.pl 26 0)),(5,Iv s2.2.1),(6,Iv s2.1),(7,Cc (.pl 31 0)),(8,Bv ax.2)] [(21,.row 26 [[iC g.aH,xF aF g.aC]]),(23,pR 3 aA s2.2.2.1),(24,pR 3 aA s2.2.2.2.1),(25,pR 3 aA s2.2.2.2.2),(26,.row 163 [[lo 23 s2.2.2.1.length,lo 24 s2.2.2.2.1.length,lo 25 s2.2.2.2.2.length]]),(28,pR 3 aA ax.1.Free),(29,pR 3 aA ax.1.aJ),(30,pR 3 aA ax.1.aI),(31,.row 163 [[lo 28 ax.1.Free.length,lo 29 ax.1.aJ.length,lo 30 ax.1.aI.length]])] z6 z9 (Wr (aN (Bv ax.2) y4 (aZ (LT.not Q) Q Q Q (On (aB.cond Q (fun hc32 => ?_) (fun hc32 => ?_))))))
   ·refine aB.exit Q (Wr ?_)
    refine aN (Iv s2.1) y4 (bG LT.add ah (aQ (Iv (aP (s2.1 + 1))) y4 (On (aj Q z4 z5))))
   ·refine aB.skip (Ws (aB.draw mixed ?_))
    refine fQ (lo 28 ax.1.Free.length) iw dP bF (fQ (xF aF g.aC) dZ eH bF (bf (Iv s2.1) y4 (aS.bind fun rO TG => (eu (LT.eX (enc := aF) Q gB TG dD) Q Q Q Q (bg (LT.ku Q gI) Q Q Q (bg (LT.iG Q bD) Q Q Q (fQ (lo 28 ax.1.Free.length) iw dP bF (bg (LT.iJ Q dZ) Q Q Q ?_))))))))
    refine fZ (sO (xF aF g.aC) Q eH) Q Q Q Q (bf (Iv s2.1) y4 (aS.bind fun x34 hx34 => (eu (LT.eX (enc := aF) Q gB hx34 dD) Q Q Q Q (bg (LT.ku Q gI) Q Q Q (bg (LT.iG Q bD) Q Q Q (aS.bind fun qI JW => (kF (LT.fK Q Q fB JW) Q Q Q Q Q (fZ (LT.je (k := 0) Q bD JW (by exact Q) (by exact Q)) Q Q Q Q (jP LT.sub ah (aS.bind fun uS Aj => (kF (LT.fK Q Q fB Aj) Q Q Q Q Q ?_)))))))))))
    refine kQ (LT.lX (k := 0) (v := (.c (iC (aP (qI - 1))))) (b' := (aP (qI - 1))) Q Q (dR lQ) iO (by exact Q) Aj (by exact Q) (by exact K Q) (by exact Q)) Q Q Q Q Q (aS.nil (by kernel_rfl) (Ws (en [(1,Cc (.pl 21 0)),(3,Cc (.pl 26 0)),(5,Iv s2.2.1),(6,Iv s2.1),(7,Cc (.pl 31 0))] [(21,.row 26 [[iC g.aH,xF aF g.aC]]),(23,pR 3 aA s2.2.2.1),(24,pR 3 aA s2.2.2.2.1),(25,pR 3 aA s2.2.2.2.2),(26,.row 163 [[lo 23 s2.2.2.1.length,lo 24 s2.2.2.2.1.length,lo 25 s2.2.2.2.2.length]]),(28,pR 3 aA (ax.1.Free.set rO.A.toNat (aP (qI - 1)))),(29,pR 3 aA ax.1.aJ),(30,pR 3 aA ax.1.aI),(31,.row 163 [[lo 28 ax.1.Free.length,lo 29 ax.1.aJ.length,lo 30 ax.1.aI.length]])] z5 z9 (aB.draw mixed (fQ (lo 29 ax.1.aJ.length) jw dP bF (fQ (xF aF g.aC) dZ eH bF (bf (Iv s2.1) y4 (aS.bind fun lI TJ => (eu (LT.eX (enc := aF) Q gB TJ dD) Q Q Q Q ?_)))))))))
    refine bg (LT.ku Q gI) Q Q Q (bg (LT.iG Q bD) Q Q Q (DT (LT.gJ (n := 32) (enc := aA) [(0,.tmp 70,.c (iC lI.A))] ([lI.A] : List Int) Q Q eU gy Q Q Q Q (by decide) (fun _ => Q) Q) Q Q Q (aS.bind fun u38 Eh => (DU (LT.kY (enc := aA) Q Q Q eU gy Q (by decide) (by decide) (fun _ => Q) (jF Eh)) Q Q Q Q Q Q (bg (LT.iJ Q jw) Q Q Q (kQ (lV (.c (lo 29 ((ax.1.aJ ++ ([lI.A] : List Int)).length))) [lo 28 ax.1.Free.length,lo 29 ((ax.1.aJ ++ ([lI.A] : List Int)).length),lo 30 ax.1.aI.length] Q Q qR rH) Q Q Q Q Q (aS.nil (by kernel_rfl) (Ws (en [(1,Cc (.pl 21 0)),(3,Cc (.pl 26 0)),(5,Iv s2.2.1),(6,Iv s2.1),(7,Cc (.pl 31 0))] [(21,.row 26 [[iC g.aH,xF aF g.aC]]),(23,pR 3 aA s2.2.2.1),(24,pR 3 aA s2.2.2.2.1),(25,pR 3 aA s2.2.2.2.2),(26,.row 163 [[lo 23 s2.2.2.1.length,lo 24 s2.2.2.2.1.length,lo 25 s2.2.2.2.2.length]]),(28,pR 3 aA (ax.1.Free.set rO.A.toNat (aP (qI - 1)))),(29,pR 3 aA (ax.1.aJ ++ ([lI.A] : List Int))),(30,pR 3 aA ax.1.aI),(31,.row 163 [[lo 28 ax.1.Free.length,lo 29 ((ax.1.aJ ++ ([lI.A] : List Int)).length),lo 30 ax.1.aI.length]])] z5 z9 (Wr (aZ (LT.iJ Q jq) Q Q Q ?_)))))))))))
    refine bZ (sO (lo 30 ax.1.aI.length) Q dP) Q Q Q Q (aN (Iv s2.1) y4 (dG (LT.gJ (n := 33) (enc := aA) [(0,.tmp 76,.c (iC s2.1))] ([s2.1] : List Int) Q Q eU gy Q Q Q Q (by decide) (fun _ => Q) Q) Q Q Q (ak fun Vw Ro => (lZ (LT.kY (enc := aA) Q Q Q eU gy Q (by decide) (by decide) (fun _ => Q) (jF Ro)) Q Q Q Q Q Q (aZ (LT.iJ Q jq) Q Q Q (bn (lV (.c (lo 30 ((ax.1.aI ++ ([s2.1] : List Int)).length))) [lo 28 ax.1.Free.length,lo 29 ((ax.1.aJ ++ ([lI.A] : List Int)).length),lo 30 ((ax.1.aI ++ ([s2.1] : List Int)).length)] Q Q qR rH) Q Q Q Q Q (On (Ws ?_))))))))
    refine en [(1,Cc (.pl 21 0)),(3,Cc (.pl 26 0)),(5,Iv s2.2.1),(6,Iv s2.1),(7,Cc (.pl 31 0))] [(21,.row 26 [[iC g.aH,xF aF g.aC]]),(23,pR 3 aA s2.2.2.1),(24,pR 3 aA s2.2.2.2.1),(25,pR 3 aA s2.2.2.2.2),(26,.row 163 [[lo 23 s2.2.2.1.length,lo 24 s2.2.2.2.1.length,lo 25 s2.2.2.2.2.length]]),(28,pR 3 aA (ax.1.Free.set rO.A.toNat (aP (qI - 1)))),(29,pR 3 aA (ax.1.aJ ++ ([lI.A] : List Int))),(30,pR 3 aA (ax.1.aI ++ ([s2.1] : List Int))),(31,.row 163 [[lo 28 ax.1.Free.length,lo 29 ((ax.1.aJ ++ ([lI.A] : List Int)).length),lo 30 ((ax.1.aI ++ ([s2.1] : List Int)).length)]])] z5 z9 (Wr (bZ (bW [lo 28 ax.1.Free.length,lo 29 ((ax.1.aJ ++ ([lI.A] : List Int)).length),lo 30 ((ax.1.aI ++ ([s2.1] : List Int)).length)] Q fJ dB bV) Q Q Q Q (bn (stA [lo 28 ax.1.Free.length,lo 29 ((ax.1.aJ ++ ([lI.A] : List Int)).length),lo 30 ((ax.1.aI ++ ([s2.1] : List Int)).length)] Q Q dB bV) Q Q Q Q Q (On (Wr ?_)))))
    refine aN (Iv s2.2.1) y4 (bG LT.add ah (aQ (Iv (aP (s2.2.1 + 1))) y4 (On (aB.blk (Wr ?_)))))
    refine aN (Iv s2.1) y4 (bG LT.add ah (aQ (Iv (aP (s2.1 + 1))) y4 (On (en [(1,Cc (.pl 21 0)),(3,Cc (.pl 26 0)),(5,Iv (aP (s2.2.1 + 1))),(6,Iv (aP (s2.1 + 1)))] [(21,.row 26 [[iC g.aH,xF aF g.aC]]),(26,.row 163 [[lo 28 ax.1.Free.length,lo 29 ((ax.1.aJ ++ ([lI.A] : List Int)).length),lo 30 ((ax.1.aI ++ ([s2.1] : List Int)).length)]]),(28,pR 3 aA (ax.1.Free.set rO.A.toNat (aP (qI - 1)))),(29,pR 3 aA (ax.1.aJ ++ ([lI.A] : List Int))),(30,pR 3 aA (ax.1.aI ++ ([s2.1] : List Int)))] z4 z5 (aB.ent (aU.mv 28 23 Q Q) (aB.ent (aU.mv 29 24 Q Q) (aB.ent (aU.mv 30 25 Q Q) (aB.nil ⟨Q,aU.of z4 ⟨Q,Q,Q,Q,congrArg (fun l1 => (some (Ob.row 163 [[lo 23 l1,lo 24 ((ax.1.aJ ++ ([lI.A] : List Int)).length),lo 25 ((ax.1.aI ++ ([s2.1] : List Int)).length)]]) : Option Ob)) (show ax.1.Free.length = (ax.1.Free.set rO.A.toNat (aP (qI - 1))).length by simp only [List.length_set]),J⟩⟩))))))))
  ·refine aB.gV Q ⟨Q,aU.of z1 J⟩
 ·refine Ws (Wr ?_)
  refine aN (Iv b27) y4 (aQ (Iv b27) y4 (On (aB.ret (ay.mk (.inr Q) z1 J Q ⟨bI.sc,J⟩ J))))
theorem Wl (g : aX) (a : Int) (b : Int) : FT Try.prog (yc g a b) 114 [.agg [iC g.aH,xF aF g.aC],.c (iC a),.c (iC b)] [] (fun (t : Bool) => [.c (bC t)]) (fun (t : Bool) => []) [] := by
 refine FT.of [] Try.func114 Try.ntmps114 Q y2 ?_
 intro w0 U0 R0 g0
 unfold yc
 refine Ws (Wr ?_)
 refine dG (LT.box (n := 21) (v := (.agg [iC g.aH,xF aF g.aC])) Q bM (by exact Q)) Q Q Q (aQ (Bv false) af (On (Ws (Ws ?_))))
 refine aB.fG (fun j6 => ([(1,Iv a),(2,Iv b),(3,Cc (.pl 21 0)),(30,Bv j6)],[(21,.row 26 [[iC g.aH,xF aF g.aC]])])) ?_ (fun j6 _ => ?_)
 ·refine Wr (bZ (bW [iC g.aH,xF aF g.aC] Q dw dN bM) Q Q Q Q (ak fun r7 pJ => (aT.pure (cO [.agg [iC g.aH,xF aF g.aC]] (zM g r7 pJ) xB (jl y2) J y3) z2 J Q Q (aZ (LT.not Q) Q Q Q (aN (Bv (!r7)) y4 (aT.split (fun hb8 => ?_) (fun hb8 => ?_)))))))
  ·refine aW hb8 y5 (aW hb8 y5 (eF (Bv true) hb8 ah (aN (Bv true) y4 (dA y5 (dA y5 (eF (Bv true) Q ah (aN (Bv true) y4 (dA y5 (dA y5 (dA y5 (dA y5 ?_)))))))))))
   refine eF (Bv true) Q ah (aN (Bv true) y4 (dA y5 (dA y5 (dA y5 (dA y5 (eF (Bv true) Q ah (On (aj Q z4 z1))))))))
  ·refine dY (Iv a) hb8 y5 (iE LT.lss hb8 kN (fD (Bv (decide (a < 0))) hb8 y5 (aN (Bv (decide (a < 0))) y4 (aT.split (fun sG => ?_) (fun sG => ?_)))))
   ·refine aW sG y5 (aW sG y5 (eF (Bv true) sG ah (aN (Bv true) y4 (dA y5 (dA y5 (dA y5 (dA y5 (eF (Bv true) Q ah (aN (Bv true) y4 (dA y5 (dA y5 ?_)))))))))))
    refine dA y5 (dA y5 (eF (Bv true) Q ah (On (aj Q z4 z1))))
   ·refine dY (Iv b) sG y5 (iE LT.lss sG kN (fD (Bv (decide (b < 0))) sG y5 (aN (Bv (decide (b < 0))) y4 (aT.split (fun jR => ?_) (fun jR => ?_)))))
    ·refine aW jR y5 (aW jR y5 (aW jR y5 (aW jR y5 (eF (Bv true) jR ah (aN (Bv true) y4 (dA y5 (dA y5 (dA y5 (dA y5 (eF (Bv true) Q ah (On ?_)))))))))))
     refine aj Q z4 z1
    ·refine dY (Iv a) jR y5 (iq (iC g.aH) iy bD jR eG (iE LT.geq jR y6 (fD (Bv (decide (g.aH ≤ a))) jR y5 (aN (Bv (decide (g.aH ≤ a))) y4 (aT.split (fun eP => ?_) (fun eP => ?_))))))
     ·refine aW eP y5 (aW eP y5 (aW eP y5 (aW eP y5 (eF (Bv true) eP ah (On (aj Q z4 z1))))))
     ·refine dY (Iv b) eP y5 (iq (iC g.aH) iy bD eP eG (iE LT.geq eP y6 (fD (Bv (decide (g.aH ≤ b))) eP y5 (On (aj Q z4 z1)))))
 ·refine aB.cond Q (fun hc12 => ?_) (fun hc12 => ?_)
  ·refine Ws (Wr ?_)
   refine aQ (Bv false) af (On (aB.ret (ay.mk (.inr Q) z1 J Q ⟨bI.sc,J⟩ J)))
  ·refine aB.skip (Ws (Wr ?_))
   refine bZ (bW [iC g.aH,xF aF g.aC] Q dw dN bM) Q Q Q Q (aN (Iv a) y4 (aN (Iv b) y4 (bG LT.min y5 (aN (Iv a) y4 (aN (Iv b) y4 (bG LT.max y5 (fA (LT.build [(0,.tmp 34,.c (iC (if b < a then b else a))),(1,.tmp 37,.c (iC (if a < b then b else a)))] Q Q BR fC Q Q Q) Q Q Q Q (ak fun r13 xY => (aT.step (cO [.agg [iC g.aH,xF aF g.aC],.agg [iC (if b < a then b else a),iC (if a < b then b else a)]] (Fw.Fn.ren [(0,24)] (MR g (aK.mk (if b < a then b else a) (if a < b then b else a)) r13 xY) Q) Hu (zJ y4) J y3) z3 J Q Q (dX (LT.alloc (n := 25) (cells := [iC 0,sC aO]) Q lW Q Q Q) Q Q (bn (stA [iC r13.aH,lo 24 r13.aC.length] Q Q dN bM) Q Q Q Q Q ?_)))))))))))
   refine On (Ws ?_)
   refine aB.fG (fun j17 => ([(6,Bv j17)],[])) ?_ (fun j17 _ => ?_)
   ·refine en [(1,Iv a),(2,Iv b),(3,Cc (.pl 21 0)),(7,Cc (.pl 25 0))] [(21,.row 26 [[iC g.aH,xF aF g.aC]]),(24,pR 96 aF r13.aC),(25,.row 26 [[iC r13.aH,lo 24 r13.aC.length]])] z4 z3 (aB.draw mixed (bf (Iv a) y4 (bf (Iv b) y4 (jP LT.eql y5 (bf (Bv (a == b)) y4 (aS.split (fun nG => ?_) (fun nG => ?_)))))))
    ·refine ai nG y3 (ai nG y3 (ai nG y3 (ai nG y3 (ai nG y3 (jG (Bv true) nG ah (bg (LT.assign (v := (Bv true)) Q) Q Q Q (aS.nil (by kernel_rfl) (aj Q z1 J))))))))
    ·refine fZ (bW [iC r13.aH,lo 24 r13.aC.length] Q dw dN bM) Q Q (gH nG Q Q) Q (aS.bind fun iD xZ => (aS.pure (cF [.agg [iC r13.aH,lo 24 r13.aC.length]] [(24,pR 96 aF r13.aC)] (MW r13 iD xZ) H6 (.cons (.agg (.cons (.same Q) (.cons (.fF Q Q) .nil))) .nil) J y3) z2 z1 (gH nG Q Q) Q (fZ (bW [iC g.aH,xF aF g.aC] Q dw dN bM) Q Q (gH nG Q Q) Q (aS.bind fun zG Qr => (aS.pure (cO [.agg [iC g.aH,xF aF g.aC]] (MW g zG Qr) H6 (jl y2) J y3) z2 J (gH nG Q Q) Q (jm LT.eql nG y6 (jM (Bv (iD == zG)) nG y5 (bg (LT.assign (v := (Bv (iD == zG))) Q) Q Q Q (aS.nil (by kernel_rfl) (aj Q z1 J))))))))))
   ·refine aB.ret (ay.mk (.inr Q) z1 J Q ⟨bI.sc,J⟩ J)
theorem MO (k : Int) (l : Int) : FT Try.prog (sZ k l) 219 [.c (iC k),.c (iC l)] [] (fun (t : Bool) => [.c (bC t)]) (fun (t : Bool) => []) [] := by
 refine FT.of [] Try.func219 Try.ntmps219 Q y2 ?_
 intro w0 U0 R0 g0
 unfold sZ
 refine Ws (Wr ?_)
 refine aQ (Bv false) af (On (Ws ?_))
 refine aB.fG (fun j4 => ([(4,Bv j4)],[])) ?_ (fun j4 _ => ?_)
 ·refine Wr (aN (Iv k) y4 (ak fun r5 pI => (aT.pure (cO [.c (iC k),.c (iC 1),.c (iC 3)] (Ci k 1 3 r5 pI) AL (rE y3) J y3) ⟨Q,Q,y2,y2,J⟩ J Q Q (aN (Bv r5) y4 (aT.split (fun hb6 => ?_) (fun hb6 => ?_))))))
  ·refine dY (Iv l) hb6 y5 (iE LT.geq hb6 kN (eF (Bv (decide (0 ≤ l))) hb6 y5 (aN (Bv (decide (0 ≤ l))) y4 (aT.split (fun hb7 => ?_) (fun hb7 => ?_)))))
   ·refine dY (Iv l) hb7 y5 (dY (Iv k) hb7 y5 (iE LT.mul hb7 MB (iE LT.lss hb7 y6 (eF (Bv (decide (l < (aP (2 * k))))) hb7 y5 (aQ (Bv (decide (l < (aP (2 * k))))) y4 (On (aj Q z1 J)))))))
   ·refine aW hb7 y5 (aW hb7 y5 (aW hb7 y5 (aW hb7 y5 (fD (Bv false) hb7 ah (aQ (Bv false) y4 (On (aj Q z1 J)))))))
  ·refine aW hb6 y5 (aW hb6 y5 (fD (Bv false) hb6 ah (aN (Bv false) y4 (dA y5 (dA y5 (dA y5 (dA y5 (fD (Bv false) Q ah (aQ (Bv false) y4 (On (aj Q z1 J)))))))))))
 ·refine aB.ret (ay.mk (.inr Q) z1 J Q ⟨bI.sc,J⟩ J)
theorem XA (p : aY) (v : Int) : FT Try.prog (yx p v) 232 [.agg [xF aA p.Free,xF aA p.aJ,xF aA p.aI],.c (iC v)] [] (fun (t : Int) => [.c (iC t)]) (fun (t : Int) => []) [] := by
 refine FT.of [] Try.func232 Try.ntmps232 Q y2 ?_
 intro w0 U0 R0 g0
 unfold yx
 refine Ws (Wr ?_)
 refine dG (LT.box (n := 21) (v := (.agg [xF aA p.Free,xF aA p.aJ,xF aA p.aI])) Q bV (by exact Q)) Q Q Q (aQ (Iv 0) af (On (Ws (Wr ?_))))
 refine aQ (Iv 0) af (On (Ws (Ws (Wr ?_))))
 refine aQ (Iv 0) af (On (aB.block ?_))
 refine aB.kD (id := 0) (wI p v) (fun s1 => ([(1,Iv v),(2,Cc (.pl 21 0)),(5,Iv s1.1),(6,Iv s1.2)],[(21,.row 163 [[xF aA p.Free,xF aA p.aJ,xF aA p.aI]])])) (fun b12 => ([(5,Iv b12)],[])) ?_ (aU.of z4 z1) Q (fun b12 _ => ?_)
 ·intro s1
  unfold wI
  refine Ws (Ws (Wr ?_))
  refine aN (Iv s1.2) y4 (bU (xF aA p.aJ) jw dP bF (aZ (LT.jC Q eU) Q Q Q (bG LT.lss y5 (On (aB.cond Q (fun hc13 => ?_) (fun hc13 => ?_))))))
  ·refine aB.skip (Ws (aB.block (Ws (Wr ?_))))
   refine bU (xF aA p.aJ) jw dP bF (aN (Iv s1.2) y4 (ak fun x14 Ej => (fA (LT.eX (enc := aA) Q fB Ej iO) Q Q Q Q (aZ (LT.iG Q bD) Q Q Q (aN (Iv v) y4 (bG LT.eql y5 (On (aB.fG (fun j16 => ([(1,Iv v),(2,Cc (.pl 21 0)),(5,Iv j16),(6,Iv s1.2)],[(21,.row 163 [[xF aA p.Free,xF aA p.aJ,xF aA p.aI]])])) ?_ (fun j16 _ => ?_)))))))))
   ·refine aB.cond Q (fun hc17 => ?_) (fun hc17 => ?_)
    ·refine en [(1,Iv v),(2,Cc (.pl 21 0)),(5,Iv s1.1),(6,Iv s1.2)] [(21,.row 163 [[xF aA p.Free,xF aA p.aJ,xF aA p.aI]])] z4 z1 (Wr (aN (Iv s1.1) y4 (bG LT.add ah (aQ (Iv (aP (s1.1 + 1))) y4 (On (aj Q z4 z1))))))
    ·refine aB.skip (aj Q z4 z1)
   ·refine aB.blk (Wr ?_)
    refine aN (Iv s1.2) y4 (bG LT.add ah (aQ (Iv (aP (s1.2 + 1))) y4 (On (aj Q z4 z1))))
  ·refine aB.gV Q ⟨Q,aU.of z1 J⟩
 ·refine Ws (Wr ?_)
  refine aN (Iv b12) y4 (aQ (Iv b12) y4 (On (aB.ret (ay.mk (.inr Q) z1 J Q ⟨bI.sc,J⟩ J))))
end Go.Proofs.Ytdmlaldifbmkpaa
end
section
set_option linter.unusedVariables false
set_option linter.unusedSimpArgs false
set_option linter.unnecessarySimpa false
set_option maxRecDepth 100000
set_option maxHeartbeats 8000000
open Go Go.Fw
namespace Go.Proofs.Ytdmlaldifbmkpaa
theorem Wn (g : aX) (k : Int) (p : aY) : FT Try.prog (qm g k p) 229 [.agg [iC g.aH,xF aF g.aC],.c (iC k),.agg [xF aA p.Free,xF aA p.aJ,xF aA p.aI]] [] (fun (t : Bool) => [.c (bC t)]) (fun (t : Bool) => []) [] := by
 refine FT.of [] Try.func229 Try.ntmps229 Q y2 ?_
 intro w0 U0 R0 g0
 unfold qm
 refine Ws (Wr ?_)
 refine dG (LT.box (n := 21) (v := (.agg [iC g.aH,xF aF g.aC])) Q bM (by exact Q)) Q Q Q (dG (LT.box (n := 22) (v := (.agg [xF aA p.Free,xF aA p.aJ,xF aA p.aI])) Q bV (by exact Q)) Q Q Q (aQ (Bv false) af (On (Ws (Ws ?_)))))
 refine aB.fG (fun j6 => ([(1,Iv k),(3,Cc (.pl 21 0)),(5,Cc (.pl 22 0)),(34,Bv j6)],[(21,.row 26 [[iC g.aH,xF aF g.aC]]),(22,.row 163 [[xF aA p.Free,xF aA p.aJ,xF aA p.aI]])])) ?_ (fun j6 _ => ?_)
 ·refine Wr (bZ (bW [iC g.aH,xF aF g.aC] Q dw dN bM) Q Q Q Q (ak fun r7 pJ => (aT.pure (cO [.agg [iC g.aH,xF aF g.aC]] (zM g r7 pJ) xB (jl y2) J y3) z2 J Q Q (aZ (LT.not Q) Q Q Q (aN (Bv (!r7)) y4 (aT.split (fun hb8 => ?_) (fun hb8 => ?_)))))))
  ·refine aW hb8 y5 (aW hb8 y5 (aW hb8 y5 (eF (Bv true) hb8 ah (aN (Bv true) y4 (dA y5 (dA y5 (dA y5 (dA y5 (dA y5 (dA y5 (eF (Bv true) Q ah ?_)))))))))))
   refine aN (Bv true) y4 (dA y5 (dA y5 (dA y5 (dA y5 (dA y5 (dA y5 (dA y5 (eF (Bv true) Q ah (On (aj Q z4 z2))))))))))
  ·refine dY (Iv k) hb8 y5 (ak fun r9 Eb => (aT.pure (cO [.c (iC k),.c (iC 1),.c (iC 3)] (Ci k 1 3 r9 Eb) AL (rE y3) J y3) ⟨Q,Q,y2,y2,J⟩ J (gH hb8 Q Q) Q (aZ (LT.not Q) Q (gH hb8 Q Q) Q (fD (Bv (!r9)) hb8 y5 (aN (Bv (!r9)) y4 (aT.split (fun jR => ?_) (fun jR => ?_)))))))
   ·refine aW jR y5 (aW jR y5 (aW jR y5 (aW jR y5 (aW jR y5 (aW jR y5 (eF (Bv true) jR ah (aN (Bv true) y4 (dA y5 (dA y5 (dA y5 (dA y5 ?_)))))))))))
    refine dA y5 (dA y5 (dA y5 (eF (Bv true) Q ah (On (aj Q z4 z2)))))
   ·refine iq (xF aA p.Free) iw dP jR eG (aZ (LT.jC Q eU) Q (gH jR Q Q) Q (iq (iC g.aH) iy bD jR eG (iE LT.neq jR y6 (fD (Bv ((p.Free.length : Int) != g.aH)) jR y5 (aN (Bv ((p.Free.length : Int) != g.aH)) y4 (aT.split (fun eP => ?_) (fun eP => ?_)))))))
    ·refine aW eP y5 (aW eP y5 (aW eP y5 (aW eP y5 (aW eP y5 (aW eP y5 (aW eP y5 (eF (Bv true) eP ah (On (aj Q z4 z2)))))))))
    ·refine iq (xF aA p.aJ) jw dP eP eG (aZ (LT.jC Q eU) Q (gH eP Q Q) Q (iq (xF aA p.aI) jq dP eP eG (aZ (LT.jC Q eU) Q (gH eP Q Q) Q (iE LT.neq eP y6 (fD (Bv ((p.aJ.length : Int) != (p.aI.length : Int))) eP y5 (On (aj Q z4 z2)))))))
 ·refine aB.cond Q (fun hc12 => ?_) (fun hc12 => ?_)
  ·refine Ws (Wr ?_)
   refine aQ (Bv false) af (On (aB.ret (ay.mk (.inr Q) z1 J Q ⟨bI.sc,J⟩ J)))
  ·refine aB.skip (Ws (Ws (Wr ?_)))
   refine aQ (Iv 0) af (On (aB.block ?_))
   refine aB.nN (id := 0) (vz g p) (fun s13 => ([(1,Iv k),(3,Cc (.pl 21 0)),(5,Cc (.pl 22 0)),(7,Iv s13)],[(21,.row 26 [[iC g.aH,xF aF g.aC]]),(22,.row 163 [[xF aA p.Free,xF aA p.aJ,xF aA p.aI]])])) (fun Hf => ([(1,Iv k),(3,Cc (.pl 21 0)),(5,Cc (.pl 22 0))],[(21,.row 26 [[iC g.aH,xF aF g.aC]]),(22,.row 163 [[xF aA p.Free,xF aA p.aJ,xF aA p.aI]])])) (ay Try.prog Try.f229.results.toList [] [] (fun (t : Bool) => [.c (bC t)]) (fun (t : Bool) => [])) ?_ (aU.of z4 z2) Q (fun Hf _ => ?_) (by intro r t σ m ht hk; injection ht with ht; subst ht; exact hk)
   ·intro s13
    unfold vz
    refine Ws (Ws (Wr ?_))
    refine aN (Iv s13) y4 (bU (xF aA p.aI) jq dP bF (aZ (LT.jC Q eU) Q Q Q (bG LT.lss y5 (On (aB.cond Q (fun QO => ?_) (fun QO => ?_))))))
    ·refine aB.skip (Ws (aB.block (Ws (Wr ?_))))
     refine bU (xF aA p.aI) jq dP bF (aN (Iv s13) y4 (ak fun x84 TS => (fA (LT.eX (enc := aA) Q fB TS iO) Q Q Q Q (aZ (LT.iG Q bD) Q Q Q (aQ (Iv x84) y4 (On (Ws ?_)))))))
     refine aB.fG (fun j100 => ([(1,Iv k),(3,Cc (.pl 21 0)),(5,Cc (.pl 22 0)),(7,Iv s13),(97,Bv j100)],[(21,.row 26 [[iC g.aH,xF aF g.aC]]),(22,.row 163 [[xF aA p.Free,xF aA p.aJ,xF aA p.aI]])])) ?_ (fun j100 _ => ?_)
     ·refine en [(1,Iv k),(3,Cc (.pl 21 0)),(5,Cc (.pl 22 0)),(7,Iv s13),(8,Iv x84)] [(21,.row 26 [[iC g.aH,xF aF g.aC]]),(22,.row 163 [[xF aA p.Free,xF aA p.aJ,xF aA p.aI]])] z5 z2 (aB.draw mixed (bf (Iv x84) y4 (jP LT.lss ah (bf (Bv (decide (x84 < 0))) y4 (aS.split (fun nM => ?_) (fun nM => ?_))))))
      ·refine ai nM y3 (ai nM y3 (ai nM y3 (ai nM y3 (ai nM y3 (jG (Bv true) nM ah (bf (Bv true) y4 (aV y3 (aV y3 (aV y3 (aV y3 (aV y3 ?_)))))))))))
       refine aV y3 (aV y3 (aV y3 (aV y3 (aV y3 (aV y3 (aV y3 (jG (Bv true) Q ah (bf (Bv true) y4 (aV y3 (aV y3 (aV y3 ?_)))))))))))
       refine aV y3 (aV y3 (aV y3 (aV y3 (aV y3 (aV y3 (aV y3 (aV y3 (aV y3 (aV y3 (aV y3 (aV y3 ?_)))))))))))
       refine aV y3 (aV y3 (aV y3 (aV y3 (aV y3 (aV y3 (aV y3 (aV y3 (aV y3 (aV y3 (aV y3 (jG (Bv true) Q ah ?_)))))))))))
       refine aS.nil (by kernel_rfl) (aj Q z5 z2)
      ·refine iY (Iv x84) nM y5 (jY (xF aF g.aC) dZ eH nM eG (bg (LT.jC Q dh) Q (gH nM Q Q) Q (jm LT.geq nM y6 (jM (Bv (decide ((g.aC.length : Int) ≤ x84))) nM y5 (bf (Bv (decide ((g.aC.length : Int) ≤ x84))) y4 (aS.split (fun nD => ?_) (fun nD => ?_)))))))
       ·refine ai nD y3 (ai nD y3 (ai nD y3 (aV y3 (aV y3 (aV y3 (aV y3 (aV y3 (aV y3 (aV y3 (aV y3 (ai nD y3 ?_)))))))))))
        refine jG (Bv true) nD ah (bf (Bv true) y4 (aV y3 (aV y3 (aV y3 (aV y3 (aV y3 (aV y3 (aV y3 (aV y3 (aV y3 (aV y3 ?_)))))))))))
        refine aV y3 (aV y3 (aV y3 (aV y3 (aV y3 (aV y3 (aV y3 (aV y3 (aV y3 (aV y3 (aV y3 (aV y3 ?_)))))))))))
        refine aV y3 (aV y3 (aV y3 (aV y3 (jG (Bv true) Q ah (aS.nil (by kernel_rfl) (aj Q z5 z2))))))
       ·refine iY (Iv s13) nD y5 (jm LT.gtr nD kN (iY (Bv (decide (0 < s13))) nD y5 (aS.split (fun kR => ?_) (fun kR => ?_))))
        ·refine jY (xF aA p.aI) jq dP kR eG (iY (Iv s13) kR y5 (jm LT.sub kR kN (aS.bind fun x104 hx104 => (eu (LT.eX (enc := aA) Q fB hx104 iO) Q Q (gH kR Q Q) Q (bg (LT.iG Q bD) Q (gH kR Q Q) Q (iY (Iv x84) kR y5 (jm LT.geq kR y6 (eu (LT.mW (v := (Bv (decide (x84 ≤ x104)))) Q kR) Q Q (gH nD Q Q) Q (jM (Bv (decide (x84 ≤ x104))) nD y5 (bf (Bv (decide (x84 ≤ x104))) y4 ?_))))))))))
         refine aS.split (fun iK => ?_) (fun iK => ?_)
         ·refine ai iK y3 (ai iK y3 (ai iK y3 (ai iK y3 (ai iK y3 (ai iK y3 (ai iK y3 (ai iK y3 (ai iK y3 (ai iK y3 (ai iK y3 (ai iK y3 ?_)))))))))))
          refine ai iK y3 (aV y3 (aV y3 (aV y3 (aV y3 (aV y3 (aV y3 (aV y3 (aV y3 (aV y3 (aV y3 (aV y3 ?_)))))))))))
          refine aV y3 (ai iK y3 (jG (Bv true) iK ah (aS.nil (by kernel_rfl) (aj Q z5 z2))))
         ·refine jY (xF aA p.aJ) jw dP iK eG (iY (Iv s13) iK y5 (aS.bind fun Gp SI => (eu (LT.eX (enc := aA) Q fB SI iO) Q Q (gH iK Q Q) Q (bg (LT.iG Q bD) Q (gH iK Q Q) Q (jY (xF aF g.aC) dZ eH iK eG (iY (Iv x84) iK y5 (aS.bind fun x107 SK => (eu (LT.eX (enc := aF) Q gB SK dD) Q Q (gH iK Q Q) Q (bg (LT.ku Q gI) Q (gH iK Q Q) Q ?_)))))))))
          refine bg (LT.iG Q bD) Q (gH iK Q Q) Q (jm LT.neq iK y6 (iY (Bv (Gp != x107.A)) iK y5 (aS.split (fun jK => ?_) (fun jK => ?_))))
          ·refine jY (xF aA p.aJ) jw dP jK eG (iY (Iv s13) jK y5 (aS.bind fun DC SL => (eu (LT.eX (enc := aA) Q fB SL iO) Q Q (gH jK Q Q) Q (bg (LT.iG Q bD) Q (gH jK Q Q) Q (jY (xF aF g.aC) dZ eH jK eG (iY (Iv x84) jK y5 (aS.bind fun DF SN => (eu (LT.eX (enc := aF) Q gB SN dD) Q Q (gH jK Q Q) Q (bg (LT.ku Q iR) Q (gH jK Q Q) Q ?_)))))))))
           refine bg (LT.iG Q bD) Q (gH jK Q Q) Q (jm LT.neq jK y6 (eu (LT.mW (v := (Bv (DC != DF.B))) Q jK) Q Q (gH iK Q Q) Q (jM (Bv (DC != DF.B)) iK y5 (aS.nil (by kernel_rfl) (aj Q z5 z2)))))
          ·refine ai jK y3 (ai jK y3 (ai jK y3 (ai jK y3 (ai jK y3 (ai jK y3 (ai jK y3 (ai jK y3 (ai jK y3 (ai jK y3 (ai jK y3 (ai jK y3 ?_)))))))))))
           refine eu (LT.mV (v := (Bv false)) Q jK) Q y2 (gH iK Q Q) Q (jM (Bv false) iK y5 (aS.nil (by kernel_rfl) (aj Q z5 z2)))
        ·refine ai kR y3 (ai kR y3 (ai kR y3 (ai kR y3 (ai kR y3 (ai kR y3 (ai kR y3 (ai kR y3 (eu (LT.mV (v := (Bv false)) Q kR) Q y2 (gH nD Q Q) Q (jM (Bv false) nD y5 (bf (Bv false) y4 (bg (LT.iJ Q jw) Q (gS Q Q) Q ?_)))))))))))
         refine fZ (sO (xF aA p.aJ) Q dP) Q Q (gS Q Q) Q (bg (LT.move (v := (Iv s13)) Q) Q (gS Q Q) Q (aS.bind fun Gq SQ => (eu (LT.eX (enc := aA) Q fB SQ iO) Q Q (gS Q Q) Q (bg (LT.iG Q bD) Q (gS Q Q) Q (bg (LT.iJ Q dZ) Q (gS Q Q) Q (fZ (sO (xF aF g.aC) Q eH) Q Q (gS Q Q) Q (bg (LT.move (v := (Iv x84)) Q) Q (gS Q Q) Q (aS.bind fun x112 hx112 => (eu (LT.eX (enc := aF) Q gB hx112 dD) Q Q (gS Q Q) Q (bg (LT.ku Q gI) Q (gS Q Q) Q (bg (LT.iG Q bD) Q (gS Q Q) Q ?_)))))))))))
         refine eu (LT.neq Q) Q Q (gS Q Q) Q (bg (LT.move (v := (Bv (Gq != x112.A))) Q) Q (gS Q Q) Q (aS.split (fun jL => ?_) (fun jL => ?_)))
         ·refine jY (xF aA p.aJ) jw dP jL eG (iY (Iv s13) jL y5 (aS.bind fun x114 hx114 => (eu (LT.eX (enc := aA) Q fB hx114 iO) Q Q (gH jL Q Q) Q (bg (LT.iG Q bD) Q (gH jL Q Q) Q (jY (xF aF g.aC) dZ eH jL eG (iY (Iv x84) jL y5 (aS.bind fun x115 hx115 => (eu (LT.eX (enc := aF) Q gB hx115 dD) Q Q (gH jL Q Q) Q (bg (LT.ku Q iR) Q (gH jL Q Q) Q ?_)))))))))
          refine bg (LT.iG Q bD) Q (gH jL Q Q) Q (jm LT.neq jL y6 (eu (LT.mW (v := (Bv (x114 != x115.B))) Q jL) Q Q (gS Q Q) Q (jM (Bv (x114 != x115.B)) Q y5 (aS.nil (by kernel_rfl) (aj Q z5 z2)))))
         ·refine ai jL y3 (ai jL y3 (ai jL y3 (ai jL y3 (ai jL y3 (ai jL y3 (ai jL y3 (ai jL y3 (ai jL y3 (ai jL y3 (ai jL y3 (ai jL y3 ?_)))))))))))
          refine eu (LT.mV (v := (Bv false)) Q jL) Q y2 (gS Q Q) Q (jM (Bv false) Q y5 (aS.nil (by kernel_rfl) (aj Q z5 z2)))
     ·refine aB.cond Q (fun P6 => ?_) (fun P6 => ?_)
      ·refine Ws (Wr ?_)
       refine aQ (Bv false) af (On (aB.ret ⟨Q,ay.mk (.inr Q) z1 J Q ⟨bI.sc,J⟩ J⟩))
      ·refine aB.skip (aB.blk (Wr ?_))
       refine aN (Iv s13) y4 (bG LT.add ah (aQ (Iv (aP (s13 + 1))) y4 (On (aj Q z4 z2))))
    ·refine aB.gV Q ⟨Q,aU.of z3 z2⟩
   ·refine Ws (Ws (Wr ?_))
    refine aQ (Iv 0) af (On (aB.block ?_))
    refine aB.nN (id := 2) (wB g k p) (fun lH => ([(1,Iv k),(3,Cc (.pl 21 0)),(5,Cc (.pl 22 0)),(9,Iv lH)],[(21,.row 26 [[iC g.aH,xF aF g.aC]]),(22,.row 163 [[xF aA p.Free,xF aA p.aJ,xF aA p.aI]])])) (fun He => ([],[])) (ay Try.prog Try.f229.results.toList [] [] (fun (t : Bool) => [.c (bC t)]) (fun (t : Bool) => [])) ?_ (aU.of z4 z2) Q (fun He _ => ?_) (by intro r t σ m ht hk; injection ht with ht; subst ht; exact hk)
    ·intro lH
     unfold wB
     refine Ws (Ws (Wr ?_))
     refine aN (Iv lH) y4 (bU (iC g.aH) iy bD bF (bG LT.lss y5 (On (aB.cond Q (fun EG => ?_) (fun EG => ?_)))))
     ·refine aB.skip (Ws (aB.block (Ws ?_)))
      refine aB.fG (fun pO => ([(1,Iv k),(3,Cc (.pl 21 0)),(5,Cc (.pl 22 0)),(9,Iv lH),(122,Bv pO)],[(21,.row 26 [[iC g.aH,xF aF g.aC]]),(22,.row 163 [[xF aA p.Free,xF aA p.aJ,xF aA p.aI]])])) ?_ (fun pO _ => ?_)
      ·refine aB.draw mixed (fQ (xF aA p.Free) iw dP bF (bf (Iv lH) y4 (aS.bind fun Gs Sj => (eu (LT.eX (enc := aA) Q fB Sj iO) Q Q Q Q (bg (LT.iG Q bD) Q Q Q (jP LT.lss ah (bf (Bv (decide (Gs < 0))) y4 (aS.split (fun jS => ?_) (fun jS => ?_)))))))))
       ·refine ai jS y3 (ai jS y3 (ai jS y3 (ai jS y3 (ai jS y3 (ai jS y3 (ai jS y3 (ai jS y3 (ai jS y3 (ai jS y3 (ai jS y3 (jG (Bv true) jS ah ?_)))))))))))
        refine aS.nil (by kernel_rfl) (aj Q z5 z2)
       ·refine jY (xF aA p.Free) iw dP jS eG (iY (Iv lH) jS y5 (aS.bind fun Gu Sm => (eu (LT.eX (enc := aA) Q fB Sm iO) Q Q (gH jS Q Q) Q (bg (LT.iG Q bD) Q (gH jS Q Q) Q (fZ (bW [xF aA p.Free,xF aA p.aJ,xF aA p.aI] Q fJ dB bV) Q Q (gH jS Q Q) Q (iY (Iv lH) jS y5 (aS.bind fun jc EX => (aS.pure (cO [.agg [xF aA p.Free,xF aA p.aJ,xF aA p.aI],.c (iC lH)] (XA p lH jc EX) OX (VO y4) J y3) z3 J (gH jS Q Q) Q (jm LT.add jS y6 (iY (Iv k) jS y5 ?_))))))))))
        refine jm LT.neq jS y6 (jM (Bv ((aP (Gu + jc)) != k)) jS y5 (aS.nil (by kernel_rfl) (aj Q z5 z2)))
      ·refine aB.cond Q (fun hc151 => ?_) (fun hc151 => ?_)
       ·refine Ws (Wr ?_)
        refine aQ (Bv false) af (On (aB.ret ⟨Q,ay.mk (.inr Q) z1 J Q ⟨bI.sc,J⟩ J⟩))
       ·refine aB.skip (aB.blk (Wr ?_))
        refine aN (Iv lH) y4 (bG LT.add ah (aQ (Iv (aP (lH + 1))) y4 (On (aj Q z4 z2))))
     ·refine aB.gV Q ⟨Q,aU.of J J⟩
    ·refine Ws (Wr ?_)
     refine aQ (Bv true) af (On (aB.ret (ay.mk (.inr Q) z1 J Q ⟨bI.sc,J⟩ J)))
theorem Wu (g : aX) (k : Int) (l : Int) (p : aY) (bar : Int) : FT Try.prog (tJ g k l p bar) 220 [.agg [iC g.aH,xF aF g.aC],.c (iC k),.c (iC l),.agg [xF aA p.Free,xF aA p.aJ,xF aA p.aI],.c (iC bar)] [] (fun (t : (aY × Bool)) => [.agg [lo 0 t.1.Free.length,lo 1 t.1.aJ.length,lo 2 t.1.aI.length],.c (bC t.2)]) (fun (t : (aY × Bool)) => [(0,pR 3 aA t.1.Free),(1,pR 3 aA t.1.aJ),(2,pR 3 aA t.1.aI)]) [0,1,2] := by
 refine FT.of [] Try.func220 Try.ntmps220 Q y2 ?_
 intro w0 U0 R0 g0
 unfold tJ
 refine Ws (Wr ?_)
 refine dG (LT.box (n := 21) (v := (.agg [iC g.aH,xF aF g.aC])) Q bM (by exact Q)) Q Q Q (dG (LT.box (n := 22) (v := (.agg [xF aA p.Free,xF aA p.aJ,xF aA p.aI])) Q bV (by exact Q)) Q Q Q (dX (LT.alloc (n := 23) (cells := [sC aO,sC aO,sC aO]) Q iW Q Q Q) Q Q (aQ (Bv false) af (On (Ws (Ws ?_))))))
 refine aB.fG (fun j9 => ([(2,Iv l),(4,Iv bar),(5,Cc (.pl 21 0)),(8,Cc (.pl 22 0)),(10,Cc (.pl 23 0)),(55,Bv j9)],[(21,.row 26 [[iC g.aH,xF aF g.aC]]),(22,.row 163 [[xF aA p.Free,xF aA p.aJ,xF aA p.aI]]),(23,.row 163 [[sC aO,sC aO,sC aO]])])) ?_ (fun j9 _ => ?_)
 ·refine Wr (bZ (bW [iC g.aH,xF aF g.aC] Q dw dN bM) Q Q Q Q (aN (Iv k) y4 (bZ (bW [xF aA p.Free,xF aA p.aJ,xF aA p.aI] Q fJ dB bV) Q Q Q Q (ak fun r10 ET => (aT.pure (cO [.agg [iC g.aH,xF aF g.aC],.c (iC k),.agg [xF aA p.Free,xF aA p.aJ,xF aA p.aI]] (Wn g k p r10 ET) OV (VL y6) J y3) z4 J Q Q (aZ (LT.not Q) Q Q Q (aN (Bv (!r10)) y4 (aT.split (fun eP => ?_) (fun eP => ?_)))))))))
  ·refine aW eP y5 (aW eP y5 (aW eP y5 (aW eP y5 (eF (Bv true) eP ah (aN (Bv true) y4 (dA y5 (dA y5 (eF (Bv true) Q ah (aN (Bv true) y4 (dA y5 (dA y5 ?_)))))))))))
   refine dA y5 (dA y5 (dA y5 (eF (Bv true) Q ah (aN (Bv true) y4 (dA y5 (dA y5 (dA y5 (dA y5 (dA y5 (Oj Q Q Q Q (Oj Q Q Q Q ?_)))))))))))
   refine Oj Q Q Q Q (Oj Q Q Q Q (Oj Q Q Q Q (Oj Q Q Q Q (Oj Q Q Q Q (Oj Q Q Q Q (Oj Q Q Q Q (Oj Q Q Q Q (dA y5 (eF (Bv true) Q ah (On (aj Q z6 z3)))))))))))
  ·refine dY (Iv k) eP y5 (dY (Iv l) eP y5 (ak fun r12 Ql => (aT.pure (cO [.c (iC k),.c (iC l)] (MO k l r12 Ql) IC (nS y2) J y3) z3 J (gH eP Q Q) Q (aZ (LT.not Q) Q (gH eP Q Q) Q (fD (Bv (!r12)) eP y5 (aN (Bv (!r12)) y4 (aT.split (fun sF => ?_) (fun sF => ?_))))))))
   ·refine aW sF y5 (aW sF y5 (eF (Bv true) sF ah (aN (Bv true) y4 (dA y5 (dA y5 (dA y5 (dA y5 (dA y5 (eF (Bv true) Q ah (aN (Bv true) y4 (dA y5 ?_)))))))))))
    refine dA y5 (dA y5 (dA y5 (dA y5 (Oj Q Q Q Q (Oj Q Q Q Q (Oj Q Q Q Q (Oj Q Q Q Q (Oj Q Q Q Q (Oj Q Q Q Q (Oj Q Q Q Q (Oj Q Q Q Q ?_)))))))))))
    refine Oj Q Q Q Q (Oj Q Q Q Q (dA y5 (eF (Bv true) Q ah (On (aj Q z6 z3)))))
   ·refine dY (Iv bar) sF y5 (iE LT.lss sF kN (fD (Bv (decide (bar < 0))) sF y5 (aN (Bv (decide (bar < 0))) y4 (aT.split (fun jg => ?_) (fun jg => ?_)))))
    ·refine aW jg y5 (aW jg y5 (aW jg y5 (aW jg y5 (aW jg y5 (eF (Bv true) jg ah (aN (Bv true) y4 (dA y5 (dA y5 (dA y5 (dA y5 (dA y5 ?_)))))))))))
     refine Oj Q Q Q Q (Oj Q Q Q Q (Oj Q Q Q Q (Oj Q Q Q Q (Oj Q Q Q Q (Oj Q Q Q Q (Oj Q Q Q Q (Oj Q Q Q Q (Oj Q Q Q Q (Oj Q Q Q Q (dA y5 (eF (Bv true) Q ah ?_)))))))))))
     refine On (aj Q z6 z3)
    ·refine dY (Iv bar) jg y5 (iq (xF aF g.aC) dZ eH jg eG (aZ (LT.jC Q dh) Q (gH jg Q Q) Q (iE LT.geq jg y6 (fD (Bv (decide ((g.aC.length : Int) ≤ bar))) jg y5 (aN (Bv (decide ((g.aC.length : Int) ≤ bar))) y4 (aT.split (fun lM => ?_) (fun lM => ?_)))))))
     ·refine aW lM y5 (aW lM y5 (aW lM y5 (aW lM y5 (aW lM y5 (Oj Q Q Q Q (Oj Q Q Q Q (Oj Q Q Q Q (Oj Q Q Q Q (Oj Q Q Q Q (Oj Q Q Q Q (Oj Q Q Q Q ?_)))))))))))
      refine Oj Q Q Q Q (Oj Q Q Q Q (Oj Q Q Q Q (aW lM y5 (eF (Bv true) lM ah (On (aj Q z6 z3))))))
     ·refine iq (xF aA p.aI) jq dP lM eG (aZ (LT.jC Q eU) Q (gH lM Q Q) Q (iE LT.gtr lM kN (dY (Bv (decide (0 < (p.aI.length : Int)))) lM y5 (aT.split (fun hb16 => ?_) (fun hb16 => ?_)))))
      ·refine iq (xF aA p.aI) jq dP hb16 eG (iq (xF aA p.aI) jq dP hb16 eG (aZ (LT.jC Q eU) Q (gH hb16 Q Q) Q (iE LT.sub hb16 kN (ak fun x17 Sr => (fA (LT.eX (enc := aA) Q fB Sr iO) Q Q (gH hb16 Q Q) Q (aZ (LT.iG Q bD) Q (gH hb16 Q Q) Q (dY (Iv bar) hb16 y5 (iE LT.geq hb16 y6 (fA (LT.mW (v := (Bv (decide (bar ≤ x17)))) Q hb16) Q Q (gH lM Q Q) Q ?_)))))))))
       refine fD (Bv (decide (bar ≤ x17))) lM y5 (On (aj Q z6 z3))
      ·refine aW hb16 y5 (aW hb16 y5 (aW hb16 y5 (aW hb16 y5 (aW hb16 y5 (aW hb16 y5 (aW hb16 y5 (aW hb16 y5 (aW hb16 y5 (aW hb16 y5 (fA (LT.mV (v := (Bv false)) Q hb16) Q y2 (gH lM Q Q) Q (fD (Bv false) lM y5 ?_)))))))))))
       refine On (aj Q z6 z3)
 ·refine aB.cond Q (fun hc18 => ?_) (fun hc18 => ?_)
  ·refine Ws (Wr ?_)
   refine bZ (bW [xF aA p.Free,xF aA p.aJ,xF aA p.aI] Q fJ dB bV) Q Q Q Q (ak fun iD xZ => (aT.step (cO [.agg [xF aA p.Free,xF aA p.aJ,xF aA p.aI]] (Fw.Fn.ren [(0,27),(1,28),(2,29)] (Cj p iD xZ) Q) zx (CO y3) J y3) z2 J Q Q (bn (stA [lo 27 iD.Free.length,lo 28 iD.aJ.length,lo 29 iD.aI.length] Q Q dB bV) Q Q Q Q Q (aQ (Bv false) af (On (en [(10,Cc (.pl 23 0)),(11,Bv false)] [(23,.row 163 [[lo 27 iD.Free.length,lo 28 iD.aJ.length,lo 29 iD.aI.length]]),(27,pR 3 aA iD.Free),(28,pR 3 aA iD.aJ),(29,pR 3 aA iD.aI)] z2 z4 (aB.ent (aU.mv 27 0 Q Q) (aB.ent (aU.mv 28 1 Q Q) (aB.ent (aU.mv 29 2 Q Q) (en [(10,Cc (.pl 23 0)),(11,Bv false)] [(0,pR 3 aA iD.Free),(1,pR 3 aA iD.aJ),(2,pR 3 aA iD.aI),(23,.row 163 [[lo 0 iD.Free.length,lo 1 iD.aJ.length,lo 2 iD.aI.length]])] z2 z4 (aB.ret (ay.mk (.inr Q) ⟨⟨_,_,_,Q,Q,Q,fJ,bV,_,dR dB⟩,Q,J⟩ z3 Q ⟨⟨J,J,J,J⟩,bI.sc,J⟩ ⟨bK.bY dK,bK.bY dK,bK.bY dK,J⟩))))))))))))
  ·refine aB.skip (Ws (Wr ?_))
   refine bU (xF aF g.aC) dZ eH bF (aN (Iv bar) y4 (ak fun x20 S9 => (fA (LT.eX (enc := aF) Q gB S9 dD) Q Q Q Q (aZ (LT.l9 Q ig (dR gQ) (by exact dD.symm)) Q Q Q (dX (LT.alloc (n := 30) (cells := [iC 0,iC 0]) Q fC Q Q Q) Q Q (bn (stA [iC x20.A,iC x20.B] Q Q gQ dD) Q Q Q Q Q (On (Ws ?_))))))))
   refine en [(2,Iv l),(4,Iv bar),(5,Cc (.pl 21 0)),(8,Cc (.pl 22 0)),(10,Cc (.pl 23 0)),(12,Cc (.pl 30 0))] [(21,.row 26 [[iC g.aH,xF aF g.aC]]),(22,.row 163 [[xF aA p.Free,xF aA p.aJ,xF aA p.aI]]),(23,.row 163 [[sC aO,sC aO,sC aO]]),(30,.row 96 [[iC x20.A,iC x20.B]])] z6 z4 (Wr (bZ (bW [iC g.aH,xF aF g.aC] Q dw dN bM) Q Q Q Q (bZ (bW [xF aA p.Free,xF aA p.aJ,xF aA p.aI] Q fJ dB bV) Q Q Q Q (bU (iC x20.A) gI bD bF (bU (iC x20.B) iR bD bF (aN (Iv l) y4 (bG LT.add ah (ak fun bP Qs => (aT.step (cO [.agg [iC g.aH,xF aF g.aC],.agg [xF aA p.Free,xF aA p.aJ,xF aA p.aI],.c (iC x20.A),.c (iC x20.B),.c (iC (aP (l + 1)))] (Fw.Fn.ren [(0,32),(1,33),(2,34)] (MS g p x20.A x20.B (aP (l + 1)) bP Qs) Q) H8 (VN y8) J y3) z6 J Q Q ?_)))))))))
   refine aN (.cZ [.agg [lo 32 bP.1.Free.length,lo 33 bP.1.aJ.length,lo 34 bP.1.aI.length],.c (bC bP.2)]) y4 (aZ (LT.extract (v := (.agg [lo 32 bP.1.Free.length,lo 33 bP.1.aJ.length,lo 34 bP.1.aI.length])) Q (by exact Q)) Q Q Q (aZ (LT.extract (v := (.c (bC bP.2))) Q (by exact Q)) Q Q Q (dX (LT.alloc (n := 35) (cells := [sC aO,sC aO,sC aO]) Q iW Q Q Q) Q Q (bn (stA [lo 32 bP.1.Free.length,lo 33 bP.1.aJ.length,lo 34 bP.1.aI.length] Q Q dB bV) Q Q Q Q Q (aQ (Bv bP.2) y4 (On (Ws (Ws ?_))))))))
   refine en [(4,Iv bar),(8,Cc (.pl 22 0)),(10,Cc (.pl 23 0)),(12,Cc (.pl 30 0)),(13,Cc (.pl 35 0)),(14,Bv bP.2)] [(22,.row 163 [[xF aA p.Free,xF aA p.aJ,xF aA p.aI]]),(23,.row 163 [[sC aO,sC aO,sC aO]]),(30,.row 96 [[iC x20.A,iC x20.B]]),(32,pR 3 aA bP.1.Free),(33,pR 3 aA bP.1.aJ),(34,pR 3 aA bP.1.aI),(35,.row 163 [[lo 32 bP.1.Free.length,lo 33 bP.1.aJ.length,lo 34 bP.1.aI.length]])] z6 z7 (Wr (aN (Bv bP.2) y4 (aZ (LT.not Q) Q Q Q (On (aB.cond Q (fun hc22 => ?_) (fun hc22 => ?_))))))
   ·refine Ws (Wr ?_)
    refine bZ (bW [xF aA p.Free,xF aA p.aJ,xF aA p.aI] Q fJ dB bV) Q Q Q Q (ak fun kX Qv => (aT.step (cO [.agg [xF aA p.Free,xF aA p.aJ,xF aA p.aI]] (Fw.Fn.ren [(0,37),(1,38),(2,39)] (Cj p kX Qv) Q) zx (CO y3) J y3) z2 J Q Q (bn (stA [lo 37 kX.Free.length,lo 38 kX.aJ.length,lo 39 kX.aI.length] Q Q dB bV) Q Q Q Q Q (aQ (Bv false) af (On (en [(10,Cc (.pl 23 0)),(11,Bv false)] [(23,.row 163 [[lo 37 kX.Free.length,lo 38 kX.aJ.length,lo 39 kX.aI.length]]),(37,pR 3 aA kX.Free),(38,pR 3 aA kX.aJ),(39,pR 3 aA kX.aI)] z2 z4 (aB.ent (aU.mv 37 0 Q Q) (aB.ent (aU.mv 38 1 Q Q) (aB.ent (aU.mv 39 2 Q Q) (en [(10,Cc (.pl 23 0)),(11,Bv false)] [(0,pR 3 aA kX.Free),(1,pR 3 aA kX.aJ),(2,pR 3 aA kX.aI),(23,.row 163 [[lo 0 kX.Free.length,lo 1 kX.aJ.length,lo 2 kX.aI.length]])] z2 z4 (aB.ret (ay.mk (.inr Q) ⟨⟨_,_,_,Q,Q,Q,fJ,bV,_,dR dB⟩,Q,J⟩ z3 Q ⟨⟨J,J,J,J⟩,bI.sc,J⟩ ⟨bK.bY dK,bK.bY dK,bK.bY dK,J⟩))))))))))))
   ·refine aB.skip (Ws (Wr ?_))
    refine bU (iC x20.A) gI bD bF (aQ (Iv x20.A) y4 (On (Ws (Ws (Wr ?_)))))
    refine bU (lo 32 bP.1.Free.length) iw dP bF (bU (iC x20.A) gI bD bF (ak fun x24 hx24 => (jJ (LT.fK Q Q fB hx24) Q Q Q Q Q (bZ (LT.je (k := 0) Q bD hx24 (by exact Q) (by exact Q)) Q Q Q Q (bG LT.eql ah (On (aB.fG (fun j26 => ([(4,Iv bar),(10,Cc (.pl 23 0)),(13,Cc (.pl 35 0)),(15,Iv j26)],[(23,.row 163 [[sC aO,sC aO,sC aO]]),(32,pR 3 aA bP.1.Free),(33,pR 3 aA bP.1.aJ),(34,pR 3 aA bP.1.aI),(35,.row 163 [[lo 32 bP.1.Free.length,lo 33 bP.1.aJ.length,lo 34 bP.1.aI.length]])])) ?_ (fun j26 _ => ?_))))))))
    ·refine aB.cond Q (fun hc27 => ?_) (fun hc27 => ?_)
     ·refine en [(4,Iv bar),(10,Cc (.pl 23 0)),(12,Cc (.pl 30 0)),(13,Cc (.pl 35 0))] [(23,.row 163 [[sC aO,sC aO,sC aO]]),(30,.row 96 [[iC x20.A,iC x20.B]]),(32,pR 3 aA bP.1.Free),(33,pR 3 aA bP.1.aJ),(34,pR 3 aA bP.1.aI),(35,.row 163 [[lo 32 bP.1.Free.length,lo 33 bP.1.aJ.length,lo 34 bP.1.aI.length]])] z4 z6 (Wr (bU (iC x20.B) iR bD bF (aQ (Iv x20.B) y4 (On (aj Q z4 z5)))))
     ·refine aB.skip (aj Q z4 z5)
    ·refine Ws (aB.draw mixed ?_)
     refine fQ (lo 32 bP.1.Free.length) iw dP bF (bf (Iv j26) y4 (fQ (lo 32 bP.1.Free.length) iw dP bF (bf (Iv j26) y4 (aS.bind fun x28 hx28 => (kF (LT.fK Q Q fB hx28) Q Q Q Q Q (fZ (LT.je (k := 0) Q bD hx28 (by exact Q) (by exact Q)) Q Q Q Q (jP LT.sub ah (aS.bind fun x29 hx29 => (kF (LT.fK Q Q fB hx29) Q Q Q Q Q ?_)))))))))
     refine kQ (LT.lX (k := 0) (v := (.c (iC (aP (x28 - 1))))) (b' := (aP (x28 - 1))) Q Q (dR lQ) iO (by exact Q) hx29 (by exact Q) (by exact K Q) (by exact Q)) Q Q Q Q Q (aS.nil (by kernel_rfl) (Ws (en [(4,Iv bar),(10,Cc (.pl 23 0)),(13,Cc (.pl 35 0)),(15,Iv j26)] [(23,.row 163 [[sC aO,sC aO,sC aO]]),(32,pR 3 aA (bP.1.Free.set j26.toNat (aP (x28 - 1)))),(33,pR 3 aA bP.1.aJ),(34,pR 3 aA bP.1.aI),(35,.row 163 [[lo 32 bP.1.Free.length,lo 33 bP.1.aJ.length,lo 34 bP.1.aI.length]])] z4 z5 (Wr (bU (lo 33 bP.1.aJ.length) jw dP bF (aN (Iv j26) y4 (dG (LT.gJ (n := 40) (enc := aA) [(0,.tmp 102,.c (iC j26))] ([j26] : List Int) Q Q eU gy Q Q Q Q (by decide) (fun _ => Q) Q) Q Q Q (ak fun u30 Rj => (lZ (LT.kY (enc := aA) Q Q Q eU gy Q (by decide) (by decide) (fun _ => Q) (jF Rj)) Q Q Q Q Q Q (aZ (LT.iJ Q jw) Q Q Q ?_))))))))))
     refine bn (lV (.c (lo 33 ((bP.1.aJ ++ ([j26] : List Int)).length))) [lo 32 bP.1.Free.length,lo 33 ((bP.1.aJ ++ ([j26] : List Int)).length),lo 34 bP.1.aI.length] Q Q qR rH) Q Q Q Q Q (On (Ws ?_))
     refine en [(4,Iv bar),(10,Cc (.pl 23 0)),(13,Cc (.pl 35 0))] [(23,.row 163 [[sC aO,sC aO,sC aO]]),(32,pR 3 aA (bP.1.Free.set j26.toNat (aP (x28 - 1)))),(33,pR 3 aA (bP.1.aJ ++ ([j26] : List Int))),(34,pR 3 aA bP.1.aI),(35,.row 163 [[lo 32 bP.1.Free.length,lo 33 ((bP.1.aJ ++ ([j26] : List Int)).length),lo 34 bP.1.aI.length]])] z3 z5 (Wr (bU (lo 34 bP.1.aI.length) jq dP bF (aN (Iv bar) y4 (dG (LT.gJ (n := 41) (enc := aA) [(0,.tmp 108,.c (iC bar))] ([bar] : List Int) Q Q eU gy Q Q Q Q (by decide) (fun _ => Q) Q) Q Q Q (ak fun u31 Rk => (lZ (LT.kY (enc := aA) Q Q Q eU gy Q (by decide) (by decide) (fun _ => Q) (jF Rk)) Q Q Q Q Q Q (aZ (LT.iJ Q jq) Q Q Q (bn (lV (.c (lo 34 ((bP.1.aI ++ ([bar] : List Int)).length))) [lo 32 bP.1.Free.length,lo 33 ((bP.1.aJ ++ ([j26] : List Int)).length),lo 34 ((bP.1.aI ++ ([bar] : List Int)).length)] Q Q qR rH) Q Q Q Q Q (On (Ws ?_))))))))))
     refine en [(10,Cc (.pl 23 0)),(13,Cc (.pl 35 0))] [(23,.row 163 [[sC aO,sC aO,sC aO]]),(32,pR 3 aA (bP.1.Free.set j26.toNat (aP (x28 - 1)))),(33,pR 3 aA (bP.1.aJ ++ ([j26] : List Int))),(34,pR 3 aA (bP.1.aI ++ ([bar] : List Int))),(35,.row 163 [[lo 32 bP.1.Free.length,lo 33 ((bP.1.aJ ++ ([j26] : List Int)).length),lo 34 ((bP.1.aI ++ ([bar] : List Int)).length)]])] z2 z5 (Wr (bZ (bW [lo 32 bP.1.Free.length,lo 33 ((bP.1.aJ ++ ([j26] : List Int)).length),lo 34 ((bP.1.aI ++ ([bar] : List Int)).length)] Q fJ dB bV) Q Q Q Q (bn (stA [lo 32 bP.1.Free.length,lo 33 ((bP.1.aJ ++ ([j26] : List Int)).length),lo 34 ((bP.1.aI ++ ([bar] : List Int)).length)] Q Q dB bV) Q Q Q Q Q (aQ (Bv true) af (On (en [(10,Cc (.pl 23 0)),(11,Bv true)] [(23,.row 163 [[lo 32 bP.1.Free.length,lo 33 ((bP.1.aJ ++ ([j26] : List Int)).length),lo 34 ((bP.1.aI ++ ([bar] : List Int)).length)]]),(32,pR 3 aA (bP.1.Free.set j26.toNat (aP (x28 - 1)))),(33,pR 3 aA (bP.1.aJ ++ ([j26] : List Int))),(34,pR 3 aA (bP.1.aI ++ ([bar] : List Int)))] z2 z4 (aB.ent (aU.mv 32 0 Q Q) (aB.ent (aU.mv 33 1 Q Q) (aB.ent (aU.mv 34 2 Q Q) (en [(10,Cc (.pl 23 0)),(11,Bv true)] [(0,pR 3 aA (bP.1.Free.set j26.toNat (aP (x28 - 1)))),(1,pR 3 aA (bP.1.aJ ++ ([j26] : List Int))),(2,pR 3 aA (bP.1.aI ++ ([bar] : List Int))),(23,.row 163 [[lo 0 ((bP.1.Free.set j26.toNat (aP (x28 - 1))).length),lo 1 ((bP.1.aJ ++ ([j26] : List Int)).length),lo 2 ((bP.1.aI ++ ([bar] : List Int)).length)]])] z2 ⟨Q,Q,Q,congrArg (fun l1 => (some (Ob.row 163 [[lo 0 l1,lo 1 ((bP.1.aJ ++ ([j26] : List Int)).length),lo 2 ((bP.1.aI ++ ([bar] : List Int)).length)]]) : Option Ob)) (show bP.1.Free.length = (bP.1.Free.set j26.toNat (aP (x28 - 1))).length by simp only [List.length_set]),J⟩ (aB.ret (ay.mk (.inr Q) ⟨⟨_,_,_,Q,Q,Q,fJ,bV,_,dR dB⟩,Q,J⟩ z3 Q ⟨⟨J,J,J,J⟩,bI.sc,J⟩ ⟨bK.bY dK,bK.bY dK,bK.bY dK,J⟩))))))))))))
theorem Wx (g : aX) (k : Int) (l : Int) : FT Try.prog (yt g k l) 205 [.agg [iC g.aH,xF aF g.aC],.c (iC k),.c (iC l)] [] (fun (t : (aY × Bool)) => [.agg [lo 0 t.1.Free.length,lo 1 t.1.aJ.length,lo 2 t.1.aI.length],.c (bC t.2)]) (fun (t : (aY × Bool)) => [(0,pR 3 aA t.1.Free),(1,pR 3 aA t.1.aJ),(2,pR 3 aA t.1.aI)]) [0,1,2] := by
 refine FT.of [] Try.func205 Try.ntmps205 Q y2 ?_
 intro w0 U0 R0 g0
 unfold yt
 refine Ws (Wr ?_)
 refine dG (LT.box (n := 21) (v := (.agg [iC g.aH,xF aF g.aC])) Q bM (by exact Q)) Q Q Q (dX (LT.alloc (n := 22) (cells := [sC aO,sC aO,sC aO]) Q iW Q Q Q) Q Q (aQ (Bv false) af (On (Ws (Wr ?_)))))
 refine bZ (bW [iC g.aH,xF aF g.aC] Q dw dN bM) Q Q Q Q (aN (Iv k) y4 (ak fun r1 hr1 => (aT.step (cO [.agg [iC g.aH,xF aF g.aC],.c (iC k)] (Fw.Fn.ren [(0,24),(1,25),(2,26)] (MP g k r1 hr1) Q) H7 (rF y3) J y3) z3 J Q Q (aN (.cZ [.agg [lo 24 r1.1.Free.length,lo 25 r1.1.aJ.length,lo 26 r1.1.aI.length],.c (bC r1.2)]) y4 (aZ (LT.extract (v := (.agg [lo 24 r1.1.Free.length,lo 25 r1.1.aJ.length,lo 26 r1.1.aI.length])) Q (by exact Q)) Q Q Q (aZ (LT.extract (v := (.c (bC r1.2))) Q (by exact Q)) Q Q Q (dX (LT.alloc (n := 27) (cells := [sC aO,sC aO,sC aO]) Q iW Q Q Q) Q Q (bn (stA [lo 24 r1.1.Free.length,lo 25 r1.1.aJ.length,lo 26 r1.1.aI.length] Q Q dB bV) Q Q Q Q Q (aQ (Bv r1.2) y4 (On (Ws (Ws ?_))))))))))))
 refine aB.fG (fun j4 => ([(1,Iv k),(2,Iv l),(3,Cc (.pl 21 0)),(6,Cc (.pl 22 0)),(8,Cc (.pl 27 0)),(24,Bv j4)],[(21,.row 26 [[iC g.aH,xF aF g.aC]]),(22,.row 163 [[sC aO,sC aO,sC aO]]),(24,pR 3 aA r1.1.Free),(25,pR 3 aA r1.1.aJ),(26,pR 3 aA r1.1.aI),(27,.row 163 [[lo 24 r1.1.Free.length,lo 25 r1.1.aJ.length,lo 26 r1.1.aI.length]])])) ?_ (fun j4 _ => ?_)
 ·refine en [(1,Iv k),(2,Iv l),(3,Cc (.pl 21 0)),(6,Cc (.pl 22 0)),(8,Cc (.pl 27 0)),(9,Bv r1.2)] [(21,.row 26 [[iC g.aH,xF aF g.aC]]),(22,.row 163 [[sC aO,sC aO,sC aO]]),(24,pR 3 aA r1.1.Free),(25,pR 3 aA r1.1.aJ),(26,pR 3 aA r1.1.aI),(27,.row 163 [[lo 24 r1.1.Free.length,lo 25 r1.1.aJ.length,lo 26 r1.1.aI.length]])] z6 z6 (Wr (aN (Bv r1.2) y4 (aZ (LT.not Q) Q Q Q (aN (Bv (!r1.2)) y4 (aT.split (fun hb5 => ?_) (fun hb5 => ?_))))))
  ·refine aW hb5 y5 (aW hb5 y5 (aW hb5 y5 (aW hb5 y5 (eF (Bv true) hb5 ah (On (aj Q z6 z6))))))
  ·refine dY (Iv k) hb5 y5 (dY (Iv l) hb5 y5 (ak fun r6 Ea => (aT.pure (cO [.c (iC k),.c (iC l)] (MO k l r6 Ea) IC (nS y2) J y3) z3 J (gH hb5 Q Q) Q (aZ (LT.not Q) Q (gH hb5 Q Q) Q (fD (Bv (!r6)) hb5 y5 (On (aj Q z6 z6)))))))
 ·refine aB.cond Q (fun xR => ?_) (fun xR => ?_)
  ·refine Ws (Wr ?_)
   refine zf (LT.build [] Q Q uH iW Q Q Q) Q Q (bn (stA [sC aO,sC aO,sC aO] Q Q dB bV) Q Q Q Q Q (aQ (Bv false) af (On (aB.ent (aU.nO 22 0 0 3 Q Q Q Q) (aB.ent (aU.nO 22 1 1 3 Q Q Q Q) (aB.ent (aU.nO 22 2 2 3 Q Q Q Q) (en [(6,Cc (.pl 22 0)),(7,Bv false)] [(0,pR 3 aA ([] : List Int)),(1,pR 3 aA ([] : List Int)),(2,pR 3 aA ([] : List Int)),(22,.row 163 [[lo 0 (([] : List Int).length),lo 1 (([] : List Int).length),lo 2 (([] : List Int).length)]])] z2 z4 (aB.ret (ay.mk (.inr Q) ⟨⟨_,_,_,Q,Q,Q,fJ,bV,_,dR dB⟩,Q,J⟩ z3 Q ⟨⟨J,J,J,J⟩,bI.sc,J⟩ ⟨bK.bY dK,bK.bY dK,bK.bY dK,J⟩)))))))))
  ·refine aB.skip (Ws (Ws (Wr ?_)))
   refine aQ (Iv 0) af (On (aB.block ?_))
   refine aB.kD (id := 0) (wF g k l) (fun s8 => ([(1,Iv k),(2,Iv l),(3,Cc (.pl 21 0)),(6,Cc (.pl 22 0)),(8,Cc (.pl 27 0)),(10,Iv s8.1)],[(21,.row 26 [[iC g.aH,xF aF g.aC]]),(22,.row 163 [[sC aO,sC aO,sC aO]]),(24,pR 3 aA s8.2.1),(25,pR 3 aA s8.2.2.1),(26,pR 3 aA s8.2.2.2),(27,.row 163 [[lo 24 s8.2.1.length,lo 25 s8.2.2.1.length,lo 26 s8.2.2.2.length]])])) (fun b13 => ([(6,Cc (.pl 22 0)),(8,Cc (.pl 27 0))],[(22,.row 163 [[sC aO,sC aO,sC aO]]),(24,pR 3 aA b13.1),(25,pR 3 aA b13.2.1),(26,pR 3 aA b13.2.2),(27,.row 163 [[lo 24 b13.1.length,lo 25 b13.2.1.length,lo 26 b13.2.2.length]])])) ?_ (aU.of z6 z6) Q (fun b13 _ => ?_)
   ·intro s8
    unfold wF
    refine Ws (Ws (Wr ?_))
    refine aN (Iv s8.1) y4 (bU (xF aF g.aC) dZ eH bF (aZ (LT.jC Q dh) Q Q Q (bG LT.lss y5 (On (aB.cond Q (fun EF => ?_) (fun EF => ?_))))))
    ·refine aB.skip (Ws (aB.block (Wr ?_)))
     refine bZ (bW [iC g.aH,xF aF g.aC] Q dw dN bM) Q Q Q Q (aN (Iv k) y4 (aN (Iv l) y4 (bZ (bW [lo 24 s8.2.1.length,lo 25 s8.2.2.1.length,lo 26 s8.2.2.2.length] Q fJ dB bV) Q Q Q Q (aN (Iv s8.1) y4 (ak fun gu EW => (aT.step (cF [.agg [iC g.aH,xF aF g.aC],.c (iC k),.c (iC l),.agg [lo 24 s8.2.1.length,lo 25 s8.2.2.1.length,lo 26 s8.2.2.2.length],.c (iC s8.1)] [(24,pR 3 aA s8.2.1),(25,pR 3 aA s8.2.2.1),(26,pR 3 aA s8.2.2.2)] (Fw.Fn.ren [(0,30),(1,31),(2,32)] (Wu g k l (aY.mk s8.2.1 s8.2.2.1 s8.2.2.2) s8.1 gu EW) Q) OO (.cons (.agg (.cons (.same Q) (.cons (.same Q) .nil))) (.cons (.c (.same Q)) (.cons (.c (.same Q)) (.cons (.agg (.cons (.fF Q Q) (.cons (.fF Q Q) (.cons (.fF Q Q) .nil)))) (.cons (.c (.same Q)) .nil))))) J y3) z6 z3 Q Q (aN (.cZ [.agg [lo 30 gu.1.Free.length,lo 31 gu.1.aJ.length,lo 32 gu.1.aI.length],.c (bC gu.2)]) y4 (aZ (LT.extract (v := (.agg [lo 30 gu.1.Free.length,lo 31 gu.1.aJ.length,lo 32 gu.1.aI.length])) Q (by exact Q)) Q Q Q (aZ (LT.extract (v := (.c (bC gu.2))) Q (by exact Q)) Q Q Q (bn (stA [lo 30 gu.1.Free.length,lo 31 gu.1.aJ.length,lo 32 gu.1.aI.length] Q Q dB bV) Q Q Q Q Q (On (aB.blk ?_))))))))))))
     refine en [(1,Iv k),(2,Iv l),(3,Cc (.pl 21 0)),(6,Cc (.pl 22 0)),(8,Cc (.pl 27 0)),(10,Iv s8.1)] [(21,.row 26 [[iC g.aH,xF aF g.aC]]),(22,.row 163 [[sC aO,sC aO,sC aO]]),(27,.row 163 [[lo 30 gu.1.Free.length,lo 31 gu.1.aJ.length,lo 32 gu.1.aI.length]]),(30,pR 3 aA gu.1.Free),(31,pR 3 aA gu.1.aJ),(32,pR 3 aA gu.1.aI)] z6 z6 (Wr (aN (Iv s8.1) y4 (bG LT.add ah (aQ (Iv (aP (s8.1 + 1))) y4 (On (en [(1,Iv k),(2,Iv l),(3,Cc (.pl 21 0)),(6,Cc (.pl 22 0)),(8,Cc (.pl 27 0)),(10,Iv (aP (s8.1 + 1)))] [(21,.row 26 [[iC g.aH,xF aF g.aC]]),(22,.row 163 [[sC aO,sC aO,sC aO]]),(27,.row 163 [[lo 30 gu.1.Free.length,lo 31 gu.1.aJ.length,lo 32 gu.1.aI.length]]),(30,pR 3 aA gu.1.Free),(31,pR 3 aA gu.1.aJ),(32,pR 3 aA gu.1.aI)] z6 z6 (aB.ent (aU.mv 30 24 Q Q) (aB.ent (aU.mv 31 25 Q Q) (aB.ent (aU.mv 32 26 Q Q) (aj Q z6 z6))))))))))
    ·refine aB.gV Q ⟨Q,aU.of z2 z5⟩
   ·refine Ws (Wr ?_)
    refine bZ (bW [lo 24 b13.1.length,lo 25 b13.2.1.length,lo 26 b13.2.2.length] Q fJ dB bV) Q Q Q Q (bn (stA [lo 24 b13.1.length,lo 25 b13.2.1.length,lo 26 b13.2.2.length] Q Q dB bV) Q Q Q Q Q (aQ (Bv true) af (On (en [(6,Cc (.pl 22 0)),(7,Bv true)] [(22,.row 163 [[lo 24 b13.1.length,lo 25 b13.2.1.length,lo 26 b13.2.2.length]]),(24,pR 3 aA b13.1),(25,pR 3 aA b13.2.1),(26,pR 3 aA b13.2.2)] z2 z4 (aB.ent (aU.mv 24 0 Q Q) (aB.ent (aU.mv 25 1 Q Q) (aB.ent (aU.mv 26 2 Q Q) (en [(6,Cc (.pl 22 0)),(7,Bv true)] [(0,pR 3 aA b13.1),(1,pR 3 aA b13.2.1),(2,pR 3 aA b13.2.2),(22,.row 163 [[lo 0 b13.1.length,lo 1 b13.2.1.length,lo 2 b13.2.2.length]])] z2 z4 (aB.ret (ay.mk (.inr Q) ⟨⟨_,_,_,Q,Q,Q,fJ,bV,_,dR dB⟩,Q,J⟩ z3 Q ⟨⟨J,J,J,J⟩,bI.sc,J⟩ ⟨bK.bY dK,bK.bY dK,bK.bY dK,J⟩))))))))))
theorem Wv (g : aX) (k : Int) (l : Int) : FT Try.prog (yj g k l) 195 [.agg [iC g.aH,xF aF g.aC],.c (iC k),.c (iC l)] [] (fun (t : Int) => [.c (iC t)]) (fun (t : Int) => []) [] := by
 refine FT.of [] Try.func195 Try.ntmps195 Q y2 ?_
 intro w0 U0 R0 g0
 unfold yj
 refine Ws (Wr ?_)
 refine dG (LT.box (n := 21) (v := (.agg [iC g.aH,xF aF g.aC])) Q bM (by exact Q)) Q Q Q (aQ (Iv 0) af (On (Ws (Wr ?_))))
 refine bZ (bW [iC g.aH,xF aF g.aC] Q dw dN bM) Q Q Q Q (aN (Iv k) y4 (aN (Iv l) y4 (ak fun r1 hr1 => (aT.step (cO [.agg [iC g.aH,xF aF g.aC],.c (iC k),.c (iC l)] (Fw.Fn.ren [(0,23),(1,24),(2,25)] (Wx g k l r1 hr1) Q) OJ (wW y4) J y3) z4 J Q Q (aN (.cZ [.agg [lo 23 r1.1.Free.length,lo 24 r1.1.aJ.length,lo 25 r1.1.aI.length],.c (bC r1.2)]) y4 (aZ (LT.extract (v := (.agg [lo 23 r1.1.Free.length,lo 24 r1.1.aJ.length,lo 25 r1.1.aI.length])) Q (by exact Q)) Q Q Q (aZ (LT.extract (v := (.c (bC r1.2))) Q (by exact Q)) Q Q Q (dX (LT.alloc (n := 26) (cells := [sC aO,sC aO,sC aO]) Q iW Q Q Q) Q Q (bn (stA [lo 23 r1.1.Free.length,lo 24 r1.1.aJ.length,lo 25 r1.1.aI.length] Q Q dB bV) Q Q Q Q Q (aQ (Bv r1.2) y4 (On (Ws (Ws ?_)))))))))))))
 refine en [(7,Cc (.pl 26 0)),(8,Bv r1.2)] [(23,pR 3 aA r1.1.Free),(24,pR 3 aA r1.1.aJ),(25,pR 3 aA r1.1.aI),(26,.row 163 [[lo 23 r1.1.Free.length,lo 24 r1.1.aJ.length,lo 25 r1.1.aI.length]])] z2 z4 (Wr (aN (Bv r1.2) y4 (aZ (LT.not Q) Q Q Q (On (aB.cond Q (fun hc2 => ?_) (fun hc2 => ?_))))))
 ·refine Ws (Wr ?_)
  refine aQ (Iv (-1)) af (On (aB.ret (ay.mk (.inr Q) z1 J Q ⟨bI.sc,J⟩ J)))
 ·refine aB.skip (Ws (Wr ?_))
  refine bU (lo 25 r1.1.aI.length) jq dP bF (aZ (LT.oG Q eU) Q Q Q (aQ (Iv (r1.1.aI.length : Int)) y4 (On (aB.ret (ay.mk (.inr Q) z1 J Q ⟨bI.sc,J⟩ J)))))
theorem Wj (g : aX) : FT Try.prog (yY g) 173 [.agg [iC g.aH,xF aF g.aC]] [] (fun (t : Int) => [.c (iC t)]) (fun (t : Int) => []) [] := by
 refine FT.of [] Try.func173 Try.ntmps173 Q y2 ?_
 intro w0 U0 R0 g0
 unfold yY
 refine Ws (Wr ?_)
 refine dG (LT.box (n := 21) (v := (.agg [iC g.aH,xF aF g.aC])) Q bM (by exact Q)) Q Q Q (aQ (Iv 0) af (On (Ws (Ws (Wr ?_)))))
 refine bZ (bW [iC g.aH,xF aF g.aC] Q dw dN bM) Q Q Q Q (ak fun r1 hr1 => (aT.pure (cO [.agg [iC g.aH,xF aF g.aC]] (zM g r1 hr1) xB (jl y2) J y3) z2 J Q Q (aZ (LT.not Q) Q Q Q (On (aB.cond Q (fun hc2 => ?_) (fun hc2 => ?_))))))
 ·refine Ws (Wr ?_)
  refine aQ (Iv (-1)) af (On (aB.ret (ay.mk (.inr Q) z1 J Q ⟨bI.sc,J⟩ J)))
 ·refine aB.skip (Ws (aB.draw mixed ?_))
  refine fQ (iC g.aH) iy bD bF (jP LT.mul CX (jP LT.sub ah (jP LT.max CX (fZ (bW [iC g.aH,xF aF g.aC] Q dw dN bM) Q Q Q Q (aS.bind fun r3 hr3 => (aS.pure (cO [.agg [iC g.aH,xF aF g.aC],.c (iC 2),.c (iC 3)] (Wv g 2 3 r3 hr3) OH (wW y4) J y3) ⟨Q,Q,y2,y2,J⟩ J Q Q (jP LT.sub y5 (bg (LT.assign (v := (Iv (aP ((if 0 < (aP ((aP (2 * g.aH)) - 3)) then (aP ((aP (2 * g.aH)) - 3)) else 0) - r3)))) Q) Q Q Q (aS.nil (by kernel_rfl) (aB.ret (ay.mk (.inr Q) z1 J Q ⟨bI.sc,J⟩ J)))))))))))
theorem Wp (g : aX) : FT Try.prog (yg g) 116 [.agg [iC g.aH,xF aF g.aC]] [] (fun (t : Bool) => [.c (bC t)]) (fun (t : Bool) => []) [] := by
 refine FT.of [] Try.func116 Try.ntmps116 Q y2 ?_
 intro w0 U0 R0 g0
 unfold yg
 refine Ws (Wr ?_)
 refine dG (LT.box (n := 21) (v := (.agg [iC g.aH,xF aF g.aC])) Q bM (by exact Q)) Q Q Q (aQ (Bv false) af (On (Ws (Wr ?_))))
 refine bZ (bW [iC g.aH,xF aF g.aC] Q dw dN bM) Q Q Q Q (ak fun r1 hr1 => (aT.pure (cO [.agg [iC g.aH,xF aF g.aC]] (Wj g r1 hr1) N7 (jl y2) J y3) z2 J Q Q (bG LT.eql ah (aQ (Bv (r1 == 0)) y4 (On (aB.ret (ay.mk (.inr Q) z1 J Q ⟨bI.sc,J⟩ J)))))))
theorem Wi (g : aX) : FT Try.prog (vk g) 40 [.agg [iC g.aH,xF aF g.aC]] [] (fun (t : ((List aK) × Bool)) => [.c (lo 0 t.1.length),.c (bC t.2)]) (fun (t : ((List aK) × Bool)) => [(0,pR 96 aF t.1)]) [0] := by
 refine FT.of [] Try.func40 Try.ntmps40 Q y2 ?_
 intro w0 U0 R0 g0
 unfold vk
 refine Ws (Wr ?_)
 refine dG (LT.box (n := 21) (v := (.agg [iC g.aH,xF aF g.aC])) Q bM (by exact Q)) Q Q Q (aQ (Cc (sC aO)) af (aQ (Bv false) af (On (Ws (Wr ?_)))))
 refine dX (LT.gJ (n := 22) (enc := aF) [] ([] : List aK) Q Q dh fC Q Q Q Q (by decide) (fun _ => Q) Q) Q Q (aQ (Cc (lo 22 (([] : List aK).length))) y4 (On (Ws (Wr ?_))))
 refine bZ (bW [iC g.aH,xF aF g.aC] Q dw dN bM) Q Q Q Q (ak fun r1 hr1 => (aT.step (cO [.agg [iC g.aH,xF aF g.aC]] (Fw.Fn.ren [(0,24)] (Wy g r1 hr1) Q) Nk (jl y2) J y3) z2 J Q Q (dX (LT.alloc (n := 25) (cells := [iC 0,sC aO]) Q lW Q Q Q) Q Q (bn (stA [iC r1.aH,lo 24 r1.aC.length] Q Q dN bM) Q Q Q Q Q (On (Ws ?_))))))
 refine en [(1,Cc (.pl 21 0)),(4,Cc (lo 22 (([] : List aK).length))),(5,Cc (.pl 25 0))] [(21,.row 26 [[iC g.aH,xF aF g.aC]]),(22,pR 96 aF ([] : List aK)),(24,pR 96 aF r1.aC),(25,.row 26 [[iC r1.aH,lo 24 r1.aC.length]])] z3 z4 (Wr (bZ (bW [iC g.aH,xF aF g.aC] Q dw dN bM) Q Q Q Q (ak fun r2 hr2 => (aT.step (cO [.agg [iC g.aH,xF aF g.aC]] (Fw.Fn.ren [(0,27)] (Wq g r2 hr2) Q) Nl (jl y2) J y3) z2 J Q Q (aQ (Cc (lo 27 r2.length)) y4 (On (Ws (Ws (Wr ?_)))))))))
 refine aQ (Iv 0) af (On (aB.block ?_))
 refine aB.kD (id := 0) (vw r2) (fun s3 => ([(4,Cc (lo 22 s3.2.1.length)),(5,Cc (.pl 25 0)),(6,Cc (lo 27 r2.length)),(7,Iv s3.1)],[(22,pR 96 aF s3.2.1),(24,pR 96 aF s3.2.2.2),(25,.row 26 [[iC s3.2.2.1,lo 24 s3.2.2.2.length]]),(27,pR 96 aF r2)])) (fun gZ => ([(4,Cc (lo 22 gZ.1.length)),(5,Cc (.pl 25 0))],[(22,pR 96 aF gZ.1),(24,pR 96 aF gZ.2.1),(25,.row 26 [[iC gZ.2.2,lo 24 gZ.2.1.length]])])) ?_ (aU.of z4 z4) Q (fun gZ _ => ?_)
 ·intro s3
  unfold vw
  refine Ws (Ws (Wr ?_))
  refine aN (Iv s3.1) y4 (aN (Cc (lo 27 r2.length)) y4 (aZ (LT.oG Q dh) Q Q Q (bG LT.lss y5 (On (aB.cond Q (fun hc47 => ?_) (fun hc47 => ?_))))))
  ·refine aB.skip (Ws (aB.block (Ws ?_)))
   refine aB.fG (fun j52 => ([(4,Cc (lo 22 s3.2.1.length)),(5,Cc (.pl 25 0)),(6,Cc (lo 27 r2.length)),(7,Iv s3.1),(37,Bv j52)],[(22,pR 96 aF s3.2.1),(24,pR 96 aF s3.2.2.2),(25,.row 26 [[iC s3.2.2.1,lo 24 s3.2.2.2.length]]),(27,pR 96 aF r2)])) ?_ (fun j52 _ => ?_)
   ·refine aB.draw mixed (fZ (bW [iC s3.2.2.1,lo 24 s3.2.2.2.length] Q dw dN bM) Q Q Q Q (bf (Cc (lo 27 r2.length)) y4 (bf (Iv s3.1) y4 (aS.bind fun DJ JX => (kF (LT.fK Q Q gB JX) Q Q Q Q Q (bg (LT.iJ Q gI) Q Q Q (fZ (LT.je (k := 0) Q bD JX (by exact Q) (by exact Q)) Q Q Q Q (bf (Cc (lo 27 r2.length)) y4 (bf (Iv s3.1) y4 (aS.bind fun x54 uz => (kF (LT.fK Q Q gB uz) Q Q Q Q Q ?_)))))))))))
    refine bg (LT.iJ Q iR) Q Q Q (fZ (LT.je (k := 1) Q bD uz (by exact Q) (by exact Q)) Q Q Q Q (aS.bind fun lU xg => (aS.pure (cF [.agg [iC s3.2.2.1,lo 24 s3.2.2.2.length],.c (iC DJ.A),.c (iC x54.B)] [(24,pR 96 aF s3.2.2.2)] (Wl (aX.mk s3.2.2.1 s3.2.2.2) DJ.A x54.B lU xg) Np (.cons (.agg (.cons (.same Q) (.cons (.fF Q Q) .nil))) (.cons (.c (.same Q)) (.cons (.c (.same Q)) .nil))) J y3) z4 z1 Q Q (bg (LT.not Q) Q Q Q (bf (Bv (!lU)) y4 (aS.split (fun oP => ?_) (fun oP => ?_)))))))
    ·refine jY (lo 24 s3.2.2.2.length) dZ eH oP eG (bg (LT.oG Q dh) Q (gH oP Q Q) Q (jm LT.lss oP kN (jG (Bv (decide ((s3.2.2.2.length : Int) < 24))) oP y5 (aS.nil (by kernel_rfl) (aj Q z5 z4)))))
    ·refine ai oP y3 (ai oP y3 (ai oP y3 (ai oP y3 (jM (Bv false) oP ah (aS.nil (by kernel_rfl) (aj Q z5 z4))))))
   ·refine aB.fG (fun j62 => ([(4,Cc (lo 22 j62.1.length)),(5,Cc (.pl 25 0)),(6,Cc (lo 27 r2.length)),(7,Iv s3.1)],[(22,pR 96 aF j62.1),(25,.row 26 [[iC j62.2.1,lo 30 j62.2.2.length]]),(27,pR 96 aF r2),(30,pR 96 aF j62.2.2)])) ?_ (fun j62 _ => ?_)
    ·refine aB.cond Q (fun hc63 => ?_) (fun hc63 => ?_)
     ·refine Ws (aB.draw mixed ?_)
      refine fZ (bW [iC s3.2.2.1,lo 24 s3.2.2.2.length] Q dw dN bM) Q Q Q Q (bf (Cc (lo 27 r2.length)) y4 (bf (Iv s3.1) y4 (aS.bind fun zV JY => (kF (LT.fK Q Q gB JY) Q Q Q Q Q (fZ (LT.Gg Q ig (dR gQ) dD JY (by exact Q) (by exact Q)) Q Q Q Q (aS.bind fun qE RH => (aS.step (cF [.agg [iC s3.2.2.1,lo 24 s3.2.2.2.length],.agg [iC zV.A,iC zV.B]] [(24,pR 96 aF s3.2.2.2)] (Fw.Fn.ren [(0,30)] (MR (aX.mk s3.2.2.1 s3.2.2.2) zV qE RH) Q) Hu (.cons (.agg (.cons (.same Q) (.cons (.fF Q Q) .nil))) (.cons (.agg (.cons (.same Q) (.cons (.same Q) .nil))) .nil)) J y3) z3 z1 Q Q (kQ (stA [iC qE.aH,lo 30 qE.aC.length] Q Q dN bM) Q Q Q Q Q (aS.nil (by kernel_rfl) (en [(4,Cc (lo 22 s3.2.1.length)),(5,Cc (.pl 25 0)),(6,Cc (lo 27 r2.length)),(7,Iv s3.1)] [(22,pR 96 aF s3.2.1),(25,.row 26 [[iC qE.aH,lo 30 qE.aC.length]]),(27,pR 96 aF r2),(30,pR 96 aF qE.aC)] z4 z4 (Wr ?_)))))))))))
      refine aN (Cc (lo 22 s3.2.1.length)) y4 (aN (Cc (lo 27 r2.length)) y4 (aN (Iv s3.1) y4 (ak fun x66 JZ => (jJ (LT.fK Q Q gB JZ) Q Q Q Q Q (bZ (LT.Gg Q ig (dR gQ) dD JZ (by exact Q) (by exact Q)) Q Q Q Q (dG (LT.gJ (n := 31) (enc := aF) [(0,.tmp 48,.agg [iC x66.A,iC x66.B])] [x66] Q Q dh fC Q Q Q Q (by decide) (fun _ => Q) Q) Q Q Q (ak fun Vy Rz => (lZ (LT.kY (enc := aF) Q Q Q dh fC Q (by decide) (by decide) (fun _ => Q) (jF Rz)) Q Q Q Q Q Q (aQ (Cc (lo 22 ((s3.2.1 ++ [x66]).length))) y4 (On (aj Q z4 z4)))))))))))
     ·refine aB.skip (en [(4,Cc (lo 22 s3.2.1.length)),(5,Cc (.pl 25 0)),(6,Cc (lo 27 r2.length)),(7,Iv s3.1)] [(22,pR 96 aF s3.2.1),(24,pR 96 aF s3.2.2.2),(25,.row 26 [[iC s3.2.2.1,lo 24 s3.2.2.2.length]]),(27,pR 96 aF r2)] z4 z4 (aB.ent (aU.mv 24 30 Q Q) (aj Q z4 z4)))
    ·refine aB.blk (Wr ?_)
     refine aN (Iv s3.1) y4 (bG LT.add ah (aQ (Iv (aP (s3.1 + 1))) y4 (On (en [(4,Cc (lo 22 j62.1.length)),(5,Cc (.pl 25 0)),(6,Cc (lo 27 r2.length)),(7,Iv (aP (s3.1 + 1)))] [(22,pR 96 aF j62.1),(25,.row 26 [[iC j62.2.1,lo 30 j62.2.2.length]]),(27,pR 96 aF r2),(30,pR 96 aF j62.2.2)] z4 z4 (aB.ent (aU.mv 30 24 Q Q) (aj Q z4 z4))))))
  ·refine aB.gV Q ⟨Q,aU.of z2 z3⟩
 ·refine Ws (Ws (Wr ?_))
  refine bZ (bW [iC gZ.2.2,lo 24 gZ.2.1.length] Q dw dN bM) Q Q Q Q (ak fun F8 RI => (aT.pure (cF [.agg [iC gZ.2.2,lo 24 gZ.2.1.length]] [(24,pR 96 aF gZ.2.1)] (Wp (aX.mk gZ.2.2 gZ.2.1) F8 RI) Nq (.cons (.agg (.cons (.same Q) (.cons (.fF Q Q) .nil))) .nil) J y3) z2 z1 Q Q (aZ (LT.not Q) Q Q Q (On (aB.cond Q (fun EM => ?_) (fun EM => ?_))))))
  ·refine Ws (Wr ?_)
   refine dX (LT.gJ (n := 33) (enc := aF) [] ([] : List aK) Q Q dh fC Q Q Q Q (by decide) (fun _ => Q) Q) Q Q (aQ (Cc (lo 33 (([] : List aK).length))) y4 (aQ (Bv false) af (On (en [(2,Cc (lo 33 (([] : List aK).length))),(3,Bv false)] [(33,pR 96 aF ([] : List aK))] z2 z1 (aB.ent (aU.mv 33 0 Q Q) (en [(2,Cc (lo 0 (([] : List aK).length))),(3,Bv false)] [(0,pR 96 aF ([] : List aK))] z2 z1 (aB.ret (ay.mk (.inr Q) z2 z1 Q ⟨J,bI.sc,J⟩ ⟨bK.bY mJ,J⟩))))))))
  ·refine aB.skip (Ws (Wr ?_))
   refine aN (Cc (lo 22 gZ.1.length)) y4 (aQ (Cc (lo 22 gZ.1.length)) y4 (aQ (Bv true) af (On (en [(2,Cc (lo 22 gZ.1.length)),(3,Bv true)] [(22,pR 96 aF gZ.1)] z2 z1 (aB.ent (aU.mv 22 0 Q Q) (en [(2,Cc (lo 0 gZ.1.length)),(3,Bv true)] [(0,pR 96 aF gZ.1)] z2 z1 (aB.ret (ay.mk (.inr Q) z2 z1 Q ⟨J,bI.sc,J⟩ ⟨bK.bY mJ,J⟩))))))))
end Go.Proofs.Ytdmlaldifbmkpaa
end
section
set_option linter.unusedVariables false
set_option linter.unusedSimpArgs false
set_option linter.unnecessarySimpa false
set_option maxRecDepth 100000
set_option maxHeartbeats 8000000
open Go Go.Fw
namespace Go.Proofs.Ytdmlaldifbmkpaa
theorem V8 (g : aX) (a : Int) (b : Int) : FT Try.prog (qW g a b) 175 [.agg [iC g.aH,xF aF g.aC],.c (iC a),.c (iC b)] [] (fun (t : Int) => [.c (iC t)]) (fun (t : Int) => []) [] := by
 refine FT.of [] Try.func175 Try.ntmps175 Q y2 ?_
 intro w0 U0 R0 g0
 unfold qW
 refine Ws (Wr ?_)
 refine dG (LT.box (n := 21) (v := (.agg [iC g.aH,xF aF g.aC])) Q bM (by exact Q)) Q Q Q (aQ (Iv 0) af (On (Ws (Wr ?_))))
 refine aQ (Iv 0) af (On (Ws (Ws (Wr ?_))))
 refine bU (xF aF g.aC) dZ eH bF (aZ (LT.jC Q dh) Q Q Q (aN (Iv 0) af (On (aB.block ?_))))
 refine aB.kD (id := 0) (qX g a b) (fun s1 => ([(1,Iv a),(2,Iv b),(7,Iv s1.1),(11,Cc (xF aF g.aC)),(12,Iv (g.aC.length : Int)),(13,Iv s1.2)],[])) (fun uY => ([(7,Iv uY)],[])) ?_ (aU.of z6 J) Q (fun uY _ => ?_)
 ·intro s1
  unfold qX
  refine Ws (Wr ?_)
  refine bG LT.lss y5 (On (Ws ?_))
  refine aB.cond Q (fun hc31 => ?_) (fun hc31 => ?_)
  ·refine aB.skip (Ws (aB.block (Ws (Wr ?_))))
   refine ak fun x32 hx32 => (fA (LT.eX (enc := aF) Q gB hx32 dD) Q Q Q Q (aZ (LT.l9 Q ig (dR gQ) (by exact dD.symm)) Q Q Q (dX (LT.alloc (n := 22) (cells := [iC 0,iC 0]) Q fC Q Q Q) Q Q (bn (stA [iC x32.A,iC x32.B] Q Q gQ dD) Q Q Q Q Q (On (Ws ?_))))))
   refine aB.fG (fun j37 => ([(1,Iv a),(2,Iv b),(7,Iv s1.1),(11,Cc (xF aF g.aC)),(12,Iv (g.aC.length : Int)),(13,Iv s1.2),(38,Bv j37)],[])) ?_ (fun j37 _ => ?_)
   ·refine Wr (bU (iC x32.A) gI bD bF (aN (Iv a) y4 (bG LT.eql y5 (aN (Bv (x32.A == a)) y4 (aT.split (fun jD => ?_) (fun jD => ?_))))))
    ·refine iq (iC x32.B) iR bD jD eG (dY (Iv b) jD y5 (iE LT.eql jD y6 (eF (Bv (x32.B == b)) jD y5 (aN (Bv (x32.B == b)) y4 (aT.split (fun lN => ?_) (fun lN => ?_))))))
     ·refine aW lN y5 (aW lN y5 (aW lN y5 (aW lN y5 (aW lN y5 (Oj Q Q Q Q (Oj Q Q Q Q (Oj Q Q Q Q (Oj Q Q Q Q (aW lN y5 (eF (Bv true) lN ah (On ?_)))))))))))
      refine aj Q z7 J
     ·refine iq (iC x32.A) gI bD lN eG (dY (Iv b) lN y5 (iE LT.eql lN y6 (dY (Bv (x32.A == b)) lN y5 (aT.split (fun oN => ?_) (fun oN => ?_)))))
      ·refine iq (iC x32.B) iR bD oN eG (dY (Iv a) oN y5 (iE LT.eql oN y6 (fA (LT.mW (v := (Bv (x32.B == a))) Q oN) Q Q (gH lN Q Q) Q (fD (Bv (x32.B == a)) lN y5 (On (aj Q z7 J))))))
      ·refine aW oN y5 (aW oN y5 (aW oN y5 (aW oN y5 (fA (LT.mV (v := (Bv false)) Q oN) Q y2 (gH lN Q Q) Q (fD (Bv false) lN y5 (On (aj Q z7 J)))))))
    ·refine aW jD y5 (aW jD y5 (aW jD y5 (aW jD y5 (fD (Bv false) jD ah (aN (Bv false) y4 (aZ (LT.iJ Q gI) Q (gS Q Q) Q (bZ (sO (iC x32.A) Q bD) Q Q (gS Q Q) Q (mv (Iv b) Q Q (gS Q Q) Q (fA (LT.eql Q) Q Q (gS Q Q) Q (mv (Bv (x32.A == b)) Q Q (gS Q Q) Q (aT.split (fun oO => ?_) (fun oO => ?_))))))))))))
     ·refine iq (iC x32.B) iR bD oO eG (dY (Iv a) oO y5 (iE LT.eql oO y6 (fA (LT.mW (v := (Bv (x32.B == a))) Q oO) Q Q (gS Q Q) Q (fD (Bv (x32.B == a)) Q y5 (On (aj Q z7 J))))))
     ·refine aW oO y5 (aW oO y5 (aW oO y5 (aW oO y5 (fA (LT.mV (v := (Bv false)) Q oO) Q y2 (gS Q Q) Q (fD (Bv false) Q y5 (On (aj Q z7 J)))))))
   ·refine aB.fG (fun j43 => ([(1,Iv a),(2,Iv b),(7,Iv j43),(11,Cc (xF aF g.aC)),(12,Iv (g.aC.length : Int)),(13,Iv s1.2)],[])) ?_ (fun j43 _ => ?_)
    ·refine aB.cond Q (fun EK => ?_) (fun EK => ?_)
     ·refine Wr (aN (Iv s1.1) y4 (bG LT.add ah (aQ (Iv (aP (s1.1 + 1))) y4 (On (aj Q z6 J)))))
     ·refine aB.skip (aj Q z6 J)
    ·refine aB.blk (Wr ?_)
     refine bG LT.add ah (aN (Iv (aP (s1.2 + 1))) y4 (On (aj Q z6 J)))
  ·refine aB.gV Q ⟨Q,aU.of z1 J⟩
 ·refine Ws (Wr ?_)
  refine aN (Iv uY) y4 (aQ (Iv uY) y4 (On (aB.ret (ay.mk (.inr Q) z1 J Q ⟨bI.sc,J⟩ J))))
theorem WE (g : aX) : FT Try.prog (oW g) 119 [.agg [iC g.aH,xF aF g.aC]] [] (fun (t : (List aK)) => [.c (lo 0 t.length)]) (fun (t : (List aK)) => [(0,pR 96 aF t)]) [0] := by
 refine FT.of [] Try.func119 Try.ntmps119 Q y2 ?_
 intro w0 U0 R0 g0
 unfold oW
 refine Ws (Wr ?_)
 refine dG (LT.box (n := 21) (v := (.agg [iC g.aH,xF aF g.aC])) Q bM (by exact Q)) Q Q Q (aQ (Cc (sC aO)) af (On (Ws (Wr ?_))))
 refine dX (LT.gJ (n := 22) (enc := aF) [] ([] : List aK) Q Q dh fC Q Q Q Q (by decide) (fun _ => Q) Q) Q Q (aQ (Cc (lo 22 (([] : List aK).length))) y4 (On (Ws (Ws (Wr ?_)))))
 refine bZ (bW [iC g.aH,xF aF g.aC] Q dw dN bM) Q Q Q Q (ak fun r1 hr1 => (aT.pure (cO [.agg [iC g.aH,xF aF g.aC]] (CY g r1 hr1) zq (jl y2) J y3) z2 J Q Q (aZ (LT.not Q) Q Q Q (On (aB.cond Q (fun hc2 => ?_) (fun hc2 => ?_))))))
 ·refine Ws (en [(3,Cc (lo 22 (([] : List aK).length)))] [(22,pR 96 aF ([] : List aK))] z1 z1 (Wr (aN (Cc (lo 22 (([] : List aK).length))) y4 (aQ (Cc (lo 22 (([] : List aK).length))) y4 (On (en [(2,Cc (lo 22 (([] : List aK).length)))] [(22,pR 96 aF ([] : List aK))] z1 z1 (aB.ent (aU.mv 22 0 Q Q) (en [(2,Cc (lo 0 (([] : List aK).length)))] [(0,pR 96 aF ([] : List aK))] z1 z1 (aB.ret (ay.mk (.inr Q) z1 z1 Q ⟨J,J⟩ ⟨bK.bY mJ,J⟩))))))))))
 ·refine aB.skip (Ws (Ws ?_))
  refine en [(1,Cc (.pl 21 0)),(3,Cc (lo 22 (([] : List aK).length)))] [(21,.row 26 [[iC g.aH,xF aF g.aC]]),(22,pR 96 aF ([] : List aK))] z2 z2 (Wr (bU (iC g.aH) iy bD bF (aN (Iv 0) af (On (aB.block ?_)))))
  refine aB.kD (id := 0) (qZ g) (fun s3 => ([(1,Cc (.pl 21 0)),(3,Cc (lo 22 s3.2.length)),(12,Iv g.aH),(13,Iv s3.1)],[(21,.row 26 [[iC g.aH,xF aF g.aC]]),(22,pR 96 aF s3.2)])) (fun nZ => ([(3,Cc (lo 22 nZ.length))],[(22,pR 96 aF nZ)])) ?_ (aU.of z4 z2) Q (fun nZ _ => ?_)
  ·intro s3
   unfold qZ
   refine Ws (Wr ?_)
   refine bG LT.lss y5 (On (Ws ?_))
   refine aB.cond Q (fun hc39 => ?_) (fun hc39 => ?_)
   ·refine aB.skip (Ws (aB.block (Ws (Wr ?_))))
    refine aN (Iv s3.1) y4 (aQ (Iv s3.1) y4 (On (Ws (Wr ?_))))
    refine aN (Iv s3.1) y4 (bG LT.add ah (aQ (Iv (aP (s3.1 + 1))) y4 (On (aB.block ?_))))
    refine aB.kD (id := 2) (qc g s3) (fun jA => ([(1,Cc (.pl 21 0)),(3,Cc (lo 22 jA.2.length)),(4,Iv s3.1),(5,Iv jA.1),(12,Iv g.aH),(13,Iv s3.1)],[(21,.row 26 [[iC g.aH,xF aF g.aC]]),(22,pR 96 aF jA.2)])) (fun qP => ([(1,Cc (.pl 21 0)),(3,Cc (lo 22 qP.2.length)),(12,Iv g.aH),(13,Iv qP.1)],[(21,.row 26 [[iC g.aH,xF aF g.aC]]),(22,pR 96 aF qP.2)])) ?_ (aU.of z6 z2) Q (fun qP _ => ?_)
    ·intro jA
     unfold qc
     refine Ws (Ws (Wr ?_))
     refine aN (Iv jA.1) y4 (bU (iC g.aH) iy bD bF (bG LT.lss y5 (On (aB.cond Q (fun xQ => ?_) (fun xQ => ?_)))))
     ·refine aB.skip (Ws (aB.block (Ws (Wr ?_))))
      refine bZ (bW [iC g.aH,xF aF g.aC] Q dw dN bM) Q Q Q Q (aN (Iv s3.1) y4 (aN (Iv jA.1) y4 (ak fun F7 RG => (aT.pure (cO [.agg [iC g.aH,xF aF g.aC],.c (iC s3.1),.c (iC jA.1)] (V8 g s3.1 jA.1 F7 RG) N9 (wW y4) J y3) z4 J Q Q (bG LT.eql ah (On (aB.fG (fun j60 => ([(1,Cc (.pl 21 0)),(3,Cc (lo 22 j60.length)),(4,Iv s3.1),(5,Iv jA.1),(12,Iv g.aH),(13,Iv s3.1)],[(21,.row 26 [[iC g.aH,xF aF g.aC]]),(22,pR 96 aF j60)])) ?_ (fun j60 _ => ?_))))))))
      ·refine aB.cond Q (fun QL => ?_) (fun QL => ?_)
       ·refine Wr (aN (Cc (lo 22 jA.2.length)) y4 (aN (Iv s3.1) y4 (aN (Iv jA.1) y4 (fA (LT.build [(0,.tmp 30,.c (iC s3.1)),(1,.tmp 31,.c (iC jA.1))] Q Q BR fC Q Q Q) Q Q Q Q (dG (LT.gJ (n := 25) (enc := aF) [(0,.tmp 32,.agg [iC s3.1,iC jA.1])] [aK.mk s3.1 jA.1] Q Q dh fC Q Q Q Q (by decide) (fun _ => Q) Q) Q Q Q (ak fun Vx Ry => (lZ (LT.kY (enc := aF) Q Q Q dh fC Q (by decide) (by decide) (fun _ => Q) (jF Ry)) Q Q Q Q Q Q (aQ (Cc (lo 22 ((jA.2 ++ [aK.mk s3.1 jA.1]).length))) y4 (On (aj Q z6 z2))))))))))
       ·refine aB.skip (aj Q z6 z2)
      ·refine aB.blk (Wr ?_)
       refine aN (Iv jA.1) y4 (bG LT.add ah (aQ (Iv (aP (jA.1 + 1))) y4 (On (aj Q z6 z2))))
     ·refine aB.gV Q ⟨Q,aU.of z4 z2⟩
    ·refine aB.blk (Wr ?_)
     refine bG LT.add ah (aN (Iv (aP (qP.1 + 1))) y4 (On (aj Q z4 z2)))
   ·refine aB.gV Q ⟨Q,aU.of z1 z1⟩
  ·refine Ws (Wr ?_)
   refine aN (Cc (lo 22 nZ.length)) y4 (aQ (Cc (lo 22 nZ.length)) y4 (On (en [(2,Cc (lo 22 nZ.length))] [(22,pR 96 aF nZ)] z1 z1 (aB.ent (aU.mv 22 0 Q Q) (en [(2,Cc (lo 0 nZ.length))] [(0,pR 96 aF nZ)] z1 z1 (aB.ret (ay.mk (.inr Q) z1 z1 Q ⟨J,J⟩ ⟨bK.bY mJ,J⟩)))))))
theorem MF (g : aX) (v : Int) : FT Try.prog (vO g v) 149 [.agg [iC g.aH,xF aF g.aC],.c (iC v)] [] (fun (t : Bool) => [.c (bC t)]) (fun (t : Bool) => []) [] := by
 refine FT.of [] Try.func149 Try.ntmps149 Q y2 ?_
 intro w0 U0 R0 g0
 unfold vO
 refine Ws (Wr ?_)
 refine dG (LT.box (n := 21) (v := (.agg [iC g.aH,xF aF g.aC])) Q bM (by exact Q)) Q Q Q (aQ (Bv false) af (On (Ws (Wr ?_))))
 refine aN (Iv v) y4 (bU (iC g.aH) iy bD bF (bG LT.sub ah (ak fun r1 hr1 => (aT.pure (cO [.c (iC v),.c (iC 0),.c (iC (aP (g.aH - 1)))] (CZ v 0 (aP (g.aH - 1)) r1 hr1) zu (rE y3) J y3) ⟨Q,Q,y2,Q,J⟩ J Q Q (aQ (Bv r1) y4 (On (aB.ret (ay.mk (.inr Q) z1 J Q ⟨bI.sc,J⟩ J))))))))
theorem WI (a : Int) (b : Int) : FT Try.prog (Az a b) 177 [.c (iC a),.c (iC b)] [] (fun (t : aK) => [.agg [iC t.A,iC t.B]]) (fun (t : aK) => []) [] := by
 refine FT.of [] Try.func177 Try.ntmps177 Q y2 ?_
 intro w0 U0 R0 g0
 unfold Az
 refine Ws (Wr ?_)
 refine dX (LT.alloc (n := 21) (cells := [iC 0,iC 0]) Q fC Q Q Q) Q Q (On (Ws (Wr ?_)))
 refine aN (Iv a) y4 (aN (Iv b) y4 (bG LT.min y5 (aN (Iv a) y4 (aN (Iv b) y4 (bG LT.max y5 (fA (LT.build [(0,.tmp 7,.c (iC (if b < a then b else a))),(1,.tmp 10,.c (iC (if a < b then b else a)))] Q Q BR fC Q Q Q) Q Q Q Q (bn (stA [iC (if b < a then b else a),iC (if a < b then b else a)] Q Q gQ dD) Q Q Q Q Q (On (aB.ret (ay.mk (.inr Q) ⟨⟨_,_,_,Q,Q,Q,ig,dD,_,dR gQ⟩,J⟩ J Q ⟨⟨bI.sc,bI.sc,J⟩,J⟩ J))))))))))
theorem WL (p : aY) : FT Try.prog (yL p) 221 [.agg [xF aA p.Free,xF aA p.aJ,xF aA p.aI]] [] (fun (t : aY) => [.agg [lo 0 t.Free.length,lo 1 t.aJ.length,lo 2 t.aI.length]]) (fun (t : aY) => [(0,pR 3 aA t.Free),(1,pR 3 aA t.aJ),(2,pR 3 aA t.aI)]) [0,1,2] := by
 refine FT.of [] Try.func221 Try.ntmps221 Q y2 ?_
 intro w0 U0 R0 g0
 unfold yL
 refine Ws (Wr ?_)
 refine dG (LT.box (n := 21) (v := (.agg [xF aA p.Free,xF aA p.aJ,xF aA p.aI])) Q bV (by exact Q)) Q Q Q (dX (LT.alloc (n := 22) (cells := [sC aO,sC aO,sC aO]) Q iW Q Q Q) Q Q (On (Ws (aB.draw mixed ?_))))
 refine fQ (xF aA p.Free) iw dP bF (aS.bind fun r1 hr1 => (aS.step (cO [.c (xF aA p.Free)] (Fw.Fn.ren [(0,24)] (Gm p.Free r1 hr1) Q) Dc (CJ Q) J y3) z2 J Q Q (fQ (xF aA p.aJ) jw dP bF (aS.bind fun r2 hr2 => (aS.step (cO [.c (xF aA p.aJ)] (Fw.Fn.ren [(0,26)] (Gm p.aJ r2 hr2) Q) Dc (CJ Q) J y3) z2 J Q Q (fQ (xF aA p.aI) jq dP bF (aS.bind fun r3 hr3 => (aS.step (cO [.c (xF aA p.aI)] (Fw.Fn.ren [(0,28)] (Gm p.aI r3 hr3) Q) Dc (CJ Q) J y3) z2 J Q Q ?_))))))))
 refine Gy (LT.build [(0,.tmp 5,.c (lo 24 r1.length)),(1,.tmp 8,.c (lo 26 r2.length)),(2,.tmp 11,.c (lo 28 r3.length))] Q Q uH iW Q Q Q) Q Q Q Q Q (kQ (stA [lo 24 r1.length,lo 26 r2.length,lo 28 r3.length] Q Q dB bV) Q Q Q Q Q (aS.nil (by kernel_rfl) (en [(2,Cc (.pl 22 0))] [(22,.row 163 [[lo 24 r1.length,lo 26 r2.length,lo 28 r3.length]]),(24,pR 3 aA r1),(26,pR 3 aA r2),(28,pR 3 aA r3)] z1 z4 (aB.ent (aU.mv 24 0 Q Q) (aB.ent (aU.mv 26 1 Q Q) (aB.ent (aU.mv 28 2 Q Q) (en [(2,Cc (.pl 22 0))] [(0,pR 3 aA r1),(1,pR 3 aA r2),(2,pR 3 aA r3),(22,.row 163 [[lo 0 r1.length,lo 1 r2.length,lo 2 r3.length]])] z1 z4 (aB.ret (ay.mk (.inr Q) ⟨⟨_,_,_,Q,Q,Q,fJ,bV,_,dR dB⟩,J⟩ z3 Q ⟨⟨J,J,J,J⟩,J⟩ ⟨bK.bY dK,bK.bY dK,bK.bY dK,J⟩)))))))))
theorem MI (bars : (List aK)) (p : aY) (a : Int) (b : Int) : FT Try.prog (qg bars p a b) 233 [.c (xF aF bars),.c (.pl 0 0),.c (iC a),.c (iC b)] [(0,.row 163 [[lo 1 p.Free.length,lo 2 p.aJ.length,lo 3 p.aI.length]]),(1,pR 3 aA p.Free),(2,pR 3 aA p.aJ),(3,pR 3 aA p.aI)] (fun (t : (Bool × aY)) => [.c (bC t.1)]) (fun (t : (Bool × aY)) => [(0,.row 163 [[lo 1 t.2.Free.length,lo 2 t.2.aJ.length,lo 3 t.2.aI.length]]),(1,pR 3 aA t.2.Free),(2,pR 3 aA t.2.aJ),(3,pR 3 aA t.2.aI)]) [1,2,3] := by
 refine FT.of [0] Try.func233 Try.ntmps233 Q y2 ?_
 intro w0 U0 R0 g0
 unfold qg
 refine Ws (Wr ?_)
 refine aQ (Bv false) af (On (Ws (Wr ?_)))
 refine dX (LT.makeMap (n := 21) Q) Q Q (aN (Iv a) y4 (Gz (LT.J8 (v := .cZ []) (.inr Q) Q BD) Q Q y2 Q Q Q (aN (Cc (.mref 21)) y4 (aQ (Cc (.mref 21)) y4 (On (Ws (Wr ?_)))))))
 refine aN (Iv a) y4 (dG (LT.gJ (n := 22) (enc := aA) [(0,.tmp 23,.c (iC a))] ([a] : List Int) Q Q eU gy Q Q Q Q (by decide) (fun _ => Q) Q) Q Q Q (aQ (Cc (lo 22 (([a] : List Int).length))) y4 (On (Ws (Ws ?_)))))
 refine en [(0,Cc (xF aF bars)),(1,Cc (.pl 0 0)),(2,Iv a),(3,Iv b),(9,Cc (.mref 21)),(10,Cc (lo 22 (([a] : List Int).length)))] [(0,.row 163 [[lo 1 p.Free.length,lo 2 p.aJ.length,lo 3 p.aI.length]]),(1,pR 3 aA p.Free),(2,pR 3 aA p.aJ),(3,pR 3 aA p.aI),(21,.mp (gU ([] : List (Int × Int)) a (-1))),(22,pR 3 aA ([a] : List Int))] z6 z6 (Wr (aQ (Iv 0) af (On (aB.block ?_))))
 refine aB.nN (id := 0) (sW bars p a b) (fun s1 => ([(0,Cc (xF aF bars)),(1,Cc (.pl 0 0)),(2,Iv a),(3,Iv b),(9,Cc (.mref 21)),(10,Cc (lo 22 s1.2.2.length)),(11,Iv s1.1)],[(0,.row 163 [[lo 1 p.Free.length,lo 2 p.aJ.length,lo 3 p.aI.length]]),(1,pR 3 aA p.Free),(2,pR 3 aA p.aJ),(3,pR 3 aA p.aI),(21,.mp s1.2.1),(22,pR 3 aA s1.2.2)])) (fun HY => ([],[(0,.row 163 [[lo 1 p.Free.length,lo 2 p.aJ.length,lo 3 p.aI.length]]),(1,pR 3 aA p.Free),(2,pR 3 aA p.aJ),(3,pR 3 aA p.aI)])) (ay Try.prog Try.f233.results.toList [(0,.row 163 [[lo 1 p.Free.length,lo 2 p.aJ.length,lo 3 p.aI.length]]),(1,pR 3 aA p.Free),(2,pR 3 aA p.aJ),(3,pR 3 aA p.aI)] [1,2,3] (fun (t : (Bool × aY)) => [.c (bC t.1)]) (fun (t : (Bool × aY)) => [(0,.row 163 [[lo 1 t.2.Free.length,lo 2 t.2.aJ.length,lo 3 t.2.aI.length]]),(1,pR 3 aA t.2.Free),(2,pR 3 aA t.2.aJ),(3,pR 3 aA t.2.aI)])) ?_ (aU.of z7 z6) Q (fun HY _ => ?_) (by intro r t σ m ht hk; injection ht with ht; subst ht; exact hk)
 ·intro s1
  unfold sW
  refine Ws (Ws (Wr ?_))
  refine aN (Iv s1.1) y4 (aN (Cc (lo 22 s1.2.2.length)) y4 (aZ (LT.oG Q eU) Q Q Q (bG LT.lss y5 (On (aB.cond Q (fun P7 => ?_) (fun P7 => ?_))))))
  ·refine aB.skip (Ws (aB.block (Ws (Wr ?_))))
   refine aN (Cc (.pl 0 0)) y4 (aZ (LT.mF Q) Q Q Q (bU (lo 3 p.aI.length) jq dP bF (aZ (LT.oG Q eU) Q Q Q (aN (Iv 0) af (On (aB.block ?_))))))
   refine aB.nN (id := 2) (pX bars p a b s1) (fun bT => ([(0,Cc (xF aF bars)),(1,Cc (.pl 0 0)),(2,Iv a),(3,Iv b),(9,Cc (.mref 21)),(10,Cc (lo 22 bT.2.2.length)),(11,Iv s1.1),(34,Cc (lo 3 p.aI.length)),(35,Iv (p.aI.length : Int)),(36,Iv bT.1)],[(0,.row 163 [[lo 1 p.Free.length,lo 2 p.aJ.length,lo 3 p.aI.length]]),(1,pR 3 aA p.Free),(2,pR 3 aA p.aJ),(3,pR 3 aA p.aI),(21,.mp bT.2.1),(22,pR 3 aA bT.2.2)])) (fun nY => ([(0,Cc (xF aF bars)),(1,Cc (.pl 0 0)),(2,Iv a),(3,Iv b),(9,Cc (.mref 21)),(10,Cc (lo 22 nY.2.2.length)),(11,Iv nY.1)],[(0,.row 163 [[lo 1 p.Free.length,lo 2 p.aJ.length,lo 3 p.aI.length]]),(1,pR 3 aA p.Free),(2,pR 3 aA p.aJ),(3,pR 3 aA p.aI),(21,.mp nY.2.1),(22,pR 3 aA nY.2.2)])) (ay Try.prog Try.f233.results.toList [(0,.row 163 [[lo 1 p.Free.length,lo 2 p.aJ.length,lo 3 p.aI.length]]),(1,pR 3 aA p.Free),(2,pR 3 aA p.aJ),(3,pR 3 aA p.aI)] [1,2,3] (fun (t : (Bool × aY)) => [.c (bC t.1)]) (fun (t : (Bool × aY)) => [(0,.row 163 [[lo 1 t.2.Free.length,lo 2 t.2.aJ.length,lo 3 t.2.aI.length]]),(1,pR 3 aA t.2.Free),(2,pR 3 aA t.2.aJ),(3,pR 3 aA t.2.aI)])) ?_ (aU.of z10 z6) Q (fun nY _ => ?_) (by intro r t σ m ht hk; injection ht with ht; subst ht; exact ⟨Q,hk⟩)
   ·intro bT
    unfold pX
    refine Ws (Wr ?_)
    refine bG LT.lss y5 (On (Ws ?_))
    refine aB.cond Q (fun QB => ?_) (fun QB => ?_)
    ·refine aB.skip (Ws (aB.block (Ws (Wr ?_))))
     refine aN (Iv bT.1) y4 (ak fun zT JH => (jJ (LT.fK Q Q fB JH) Q Q Q Q Q (bZ (LT.je (k := 0) Q bD JH (by exact Q) (by exact Q)) Q Q Q Q (aQ (Iv bT.1) y4 (aQ (Iv zT) y4 (On (Ws (Ws (aB.draw mixed ?_)))))))))
     refine bf (Cc (.pl 0 0)) y4 (bg (LT.mF Q) Q Q Q (fQ (lo 2 p.aJ.length) jw dP bF (bf (Iv bT.1) y4 (aS.bind fun NC JI => (kF (LT.fK Q Q fB JI) Q Q Q Q Q (fZ (LT.je (k := 0) Q bD JI (by exact Q) (by exact Q)) Q Q Q Q (bf (Cc (lo 22 bT.2.2.length)) y4 (bf (Iv s1.1) y4 (aS.bind fun ND JJ => (kF (LT.fK Q Q fB JJ) Q Q Q Q Q ?_))))))))))
     refine fZ (LT.je (k := 0) Q bD JJ (by exact Q) (by exact Q)) Q Q Q Q (jP LT.neq y5 (aS.nil (by kernel_rfl) (aB.cond Q (fun QC => ?_) (fun QC => ?_))))
     ·refine aB.exit Q (en [(0,Cc (xF aF bars)),(1,Cc (.pl 0 0)),(2,Iv a),(3,Iv b),(9,Cc (.mref 21)),(10,Cc (lo 22 bT.2.2.length)),(11,Iv s1.1),(34,Cc (lo 3 p.aI.length)),(35,Iv (p.aI.length : Int)),(36,Iv bT.1)] [(0,.row 163 [[lo 1 p.Free.length,lo 2 p.aJ.length,lo 3 p.aI.length]]),(1,pR 3 aA p.Free),(2,pR 3 aA p.aJ),(3,pR 3 aA p.aI),(21,.mp bT.2.1),(22,pR 3 aA bT.2.2)] z10 z6 (Wr (bG LT.add ah (aN (Iv (aP (bT.1 + 1))) y4 (On (aj Q z10 z6))))))
     ·refine aB.skip (Ws ?_)
      refine en [(0,Cc (xF aF bars)),(1,Cc (.pl 0 0)),(2,Iv a),(3,Iv b),(9,Cc (.mref 21)),(10,Cc (lo 22 bT.2.2.length)),(11,Iv s1.1),(12,Iv bT.1),(13,Iv zT),(34,Cc (lo 3 p.aI.length)),(35,Iv (p.aI.length : Int)),(36,Iv bT.1)] [(0,.row 163 [[lo 1 p.Free.length,lo 2 p.aJ.length,lo 3 p.aI.length]]),(1,pR 3 aA p.Free),(2,pR 3 aA p.aJ),(3,pR 3 aA p.aI),(21,.mp bT.2.1),(22,pR 3 aA bT.2.2)] z12 z6 (aB.draw mixed (bf (Cc (xF aF bars)) y4 (bf (Iv zT) y4 (aS.bind fun zU Sz => (eu (LT.eX (enc := aF) Q gB Sz dD) Q Q Q Q (bg (LT.l9 Q ig (dR gQ) (by exact dD.symm)) Q Q Q (bf (Cc (lo 22 bT.2.2.length)) y4 (bf (Iv s1.1) y4 (aS.bind fun DI JK => (kF (LT.fK Q Q fB JK) Q Q Q Q Q (fZ (LT.je (k := 0) Q bD JK (by exact Q) (by exact Q)) Q Q Q Q ?_)))))))))))
      refine aS.bind fun dO Qq => (aS.pure (cO [.agg [iC zU.A,iC zU.B],.c (iC DI)] (V7 zU DI dO Qq) Oe (rF y3) J y3) z3 J Q Q (bg (LT.assign (v := (Iv dO)) Q) Q Q Q (aS.nil (by kernel_rfl) (Ws (Ws (Wr ?_))))))
      refine aN (Cc (.mref 21)) y4 (aN (Iv dO) y4 (jJ (LT.UK Q BD) Q Q Q Q Q (aN (.cZ [.c (iC (gq bT.2.1 dO)),.c (bC (iU bT.2.1 dO))]) y4 (aZ (LT.extract (v := (.c (iC (gq bT.2.1 dO)))) Q (by exact Q)) Q Q Q (aZ (LT.extract (v := (.c (bC (iU bT.2.1 dO)))) Q (by exact Q)) Q Q Q (aQ (Iv (gq bT.2.1 dO)) y4 (aQ (Bv (iU bT.2.1 dO)) y4 (On (Ws ?_)))))))))
      refine en [(0,Cc (xF aF bars)),(1,Cc (.pl 0 0)),(2,Iv a),(3,Iv b),(9,Cc (.mref 21)),(10,Cc (lo 22 bT.2.2.length)),(11,Iv s1.1),(12,Iv bT.1),(14,Iv dO),(16,Bv (iU bT.2.1 dO)),(34,Cc (lo 3 p.aI.length)),(35,Iv (p.aI.length : Int)),(36,Iv bT.1)] [(0,.row 163 [[lo 1 p.Free.length,lo 2 p.aJ.length,lo 3 p.aI.length]]),(1,pR 3 aA p.Free),(2,pR 3 aA p.aJ),(3,pR 3 aA p.aI),(21,.mp bT.2.1),(22,pR 3 aA bT.2.2)] z13 z6 (Wr (aN (Bv (iU bT.2.1 dO)) y4 (On (aB.cond Q (fun QD => ?_) (fun QD => ?_)))))
      ·refine aB.exit Q (Wr ?_)
       refine bG LT.add ah (aN (Iv (aP (bT.1 + 1))) y4 (On (aj Q z10 z6)))
      ·refine aB.skip (Ws (Wr ?_))
       refine aN (Cc (.mref 21)) y4 (aN (Iv dO) y4 (aN (Iv bT.1) y4 (Gz (LT.J8 (v := .cZ []) (.inl Q) Q BD) Q Q Q Q Q Q (On (Ws (Ws ?_))))))
       refine aB.fG (fun Ak => ([(0,Cc (xF aF bars)),(1,Cc (.pl 0 0)),(2,Iv a),(3,Iv b),(9,Cc (.mref 21)),(10,Cc (lo 22 bT.2.2.length)),(11,Iv s1.1),(14,Iv dO),(34,Cc (lo 3 p.aI.length)),(35,Iv (p.aI.length : Int)),(36,Iv bT.1),(84,Bv Ak)],[(0,.row 163 [[lo 1 p.Free.length,lo 2 p.aJ.length,lo 3 p.aI.length]]),(1,pR 3 aA p.Free),(2,pR 3 aA p.aJ),(3,pR 3 aA p.aI),(21,.mp (gU bT.2.1 dO bT.1)),(22,pR 3 aA bT.2.2)])) ?_ (fun Ak _ => ?_)
       ·refine Wr (aN (Iv dO) y4 (aN (Iv b) y4 (bG LT.eql y5 (aN (Bv (dO == b)) y4 (aT.split (fun kS => ?_) (fun kS => ?_))))))
        ·refine aW kS y5 (aW kS y5 (aW kS y5 (aW kS y5 (aW kS y5 (aW kS y5 (aW kS y5 (aW kS y5 (eF (Bv true) kS ah (On (aj Q z12 z6))))))))))
        ·refine dY (Cc (.pl 0 0)) kS y5 (aZ (LT.mF Q) Q (gH kS Q Q) Q (iq (lo 1 p.Free.length) iw dP kS eG (dY (Iv dO) kS y5 (ak fun Gv JL => (jJ (LT.fK Q Q fB JL) Q Q Q (gH kS Q Q) Q (bZ (LT.je (k := 0) Q bD JL (by exact Q) (by exact Q)) Q Q (gH kS Q Q) Q (iE LT.eql kS kN (fD (Bv (Gv == 0)) kS y5 (On (aj Q z12 z6))))))))))
       ·refine aB.cond Q (fun QE => ?_) (fun QE => ?_)
        ·refine Ws (Wr ?_)
         refine aN (Cc (lo 22 bT.2.2.length)) y4 (aN (Iv dO) y4 (dG (LT.gJ (n := 24) (enc := aA) [(0,.tmp 86,.c (iC dO))] ([dO] : List Int) Q Q eU gy Q Q Q Q (by decide) (fun _ => Q) Q) Q Q Q (ak fun Vu Rh => (lZ (LT.kY (enc := aA) Q Q Q eU gy Q (by decide) (by decide) (fun _ => Q) (jF Rh)) Q Q Q Q Q Q (aQ (Cc (lo 22 ((bT.2.2 ++ ([dO] : List Int)).length))) y4 (On (aB.exit Q (Wr ?_))))))))
         refine bG LT.add ah (aN (Iv (aP (bT.1 + 1))) y4 (On (aj Q z10 z6)))
        ·refine aB.skip (Ws (Wr ?_))
         refine aN (Cc (.pl 0 0)) y4 (aZ (LT.mF Q) Q Q Q (bU (lo 1 p.Free.length) iw dP bF (aN (Iv dO) y4 (ak fun kP JM => (jJ (LT.fK Q Q fB JM) Q Q Q Q Q (bZ (LT.je (k := 0) Q bD JM (by exact Q) (by exact Q)) Q Q Q Q (bG LT.sub ah (ak fun XF JO => (jJ (LT.fK Q Q fB JO) Q Q Q Q Q (bn (LT.lX (k := 0) (v := (.c (iC (aP (kP - 1))))) (b' := (aP (kP - 1))) Q Q (dR lQ) iO (by exact Q) JO (by exact Q) (by exact K Q) (by exact Q)) Q Q Q Q Q ?_))))))))))
         refine On (Ws ?_)
         refine en [(1,Cc (.pl 0 0)),(2,Iv a),(9,Cc (.mref 21)),(14,Iv dO)] [(0,.row 163 [[lo 1 p.Free.length,lo 2 p.aJ.length,lo 3 p.aI.length]]),(1,pR 3 aA (p.Free.set dO.toNat (aP (kP - 1)))),(2,pR 3 aA p.aJ),(3,pR 3 aA p.aI),(21,.mp (gU bT.2.1 dO bT.1))] z4 z5 (Wr (aN (Cc (.pl 0 0)) y4 (aZ (LT.mF Q) Q Q Q (bU (lo 1 p.Free.length) iw dP bF (aN (Iv a) y4 (ak fun mY JQ => (jJ (LT.fK (show p.Free.length = (p.Free.set dO.toNat (aP (kP - 1))).length by simp only [List.length_set]) Q fB JQ) Q Q Q Q Q (bZ (LT.je (k := 0) Q bD JQ (by exact Q) (by exact Q)) Q Q Q Q (bG LT.add ah (ak fun XG JR => ?_))))))))))
         refine jJ (LT.fK (show p.Free.length = (p.Free.set dO.toNat (aP (kP - 1))).length by simp only [List.length_set]) Q fB JR) Q Q Q Q Q (bn (LT.lX (k := 0) (v := (.c (iC (aP (mY + 1))))) (b' := (aP (mY + 1))) Q Q (dR lQ) iO (by exact Q) JR (by exact Q) (by exact K Q) (by exact Q)) Q Q Q Q Q (On (Ws (Ws ?_))))
         refine en [(1,Cc (.pl 0 0)),(2,Iv a),(9,Cc (.mref 21)),(14,Iv dO)] [(0,.row 163 [[lo 1 p.Free.length,lo 2 p.aJ.length,lo 3 p.aI.length]]),(1,pR 3 aA ((p.Free.set dO.toNat (aP (kP - 1))).set a.toNat (aP (mY + 1)))),(2,pR 3 aA p.aJ),(3,pR 3 aA p.aI),(21,.mp (gU bT.2.1 dO bT.1))] z4 z5 (Wr (aN (Iv dO) y4 (aQ (Iv dO) y4 (On (aB.block ?_)))))
         refine aB.kD (id := 4) (qh p a bT dO kP mY) (fun iH => ([(1,Cc (.pl 0 0)),(2,Iv a),(9,Cc (.mref 21)),(17,Iv iH.1)],[(0,.row 163 [[lo 1 (((p.Free.set dO.toNat (aP (kP - 1))).set a.toNat (aP (mY + 1))).length),lo 2 iH.2.length,lo 3 p.aI.length]]),(1,pR 3 aA ((p.Free.set dO.toNat (aP (kP - 1))).set a.toNat (aP (mY + 1)))),(2,pR 3 aA iH.2),(3,pR 3 aA p.aI),(21,.mp (gU bT.2.1 dO bT.1))])) (fun qO => ([],[(0,.row 163 [[lo 1 qO.1.length,lo 2 qO.2.length,lo 3 p.aI.length]]),(1,pR 3 aA qO.1),(2,pR 3 aA qO.2),(3,pR 3 aA p.aI)])) ?_ (aU.of z4 ⟨congrArg (fun l1 => (some (Ob.row 163 [[lo 1 l1,lo 2 p.aJ.length,lo 3 p.aI.length]]) : Option Ob)) (show p.Free.length = ((p.Free.set dO.toNat (aP (kP - 1))).set a.toNat (aP (mY + 1))).length by simp only [List.length_set]),Q,Q,Q,Q,J⟩) Q (fun qO _ => ?_)
         ·intro iH
          unfold qh
          refine Ws (Ws (Wr ?_))
          refine aN (Iv iH.1) y4 (aN (Iv a) y4 (bG LT.neq y5 (On (aB.cond Q (fun QG => ?_) (fun QG => ?_)))))
          ·refine aB.skip (aB.block (Ws (Wr ?_)))
           refine aN (Cc (.mref 21)) y4 (aN (Iv iH.1) y4 (jJ (LT.UJ Q BD) Q Q Q Q Q (aQ (Iv (gq (gU bT.2.1 dO bT.1) iH.1)) y4 (On (Ws (Wr ?_))))))
           refine aN (Cc (.pl 0 0)) y4 (aZ (LT.mF Q) Q Q Q (bU (lo 2 iH.2.length) jw dP bF (aN (Iv (gq (gU bT.2.1 dO bT.1) iH.1)) y4 (ak fun wX JS => (jJ (LT.fK Q Q fB JS) Q Q Q Q Q (bZ (LT.je (k := 0) Q bD JS (by exact Q) (by exact Q)) Q Q Q Q (aQ (Iv wX) y4 (On (Ws ?_)))))))))
           refine en [(1,Cc (.pl 0 0)),(2,Iv a),(9,Cc (.mref 21)),(17,Iv iH.1),(18,Iv (gq (gU bT.2.1 dO bT.1) iH.1)),(19,Iv wX)] [(0,.row 163 [[lo 1 (((p.Free.set dO.toNat (aP (kP - 1))).set a.toNat (aP (mY + 1))).length),lo 2 iH.2.length,lo 3 p.aI.length]]),(1,pR 3 aA ((p.Free.set dO.toNat (aP (kP - 1))).set a.toNat (aP (mY + 1)))),(2,pR 3 aA iH.2),(3,pR 3 aA p.aI),(21,.mp (gU bT.2.1 dO bT.1))] z6 z5 (Wr (aN (Cc (.pl 0 0)) y4 (aZ (LT.mF Q) Q Q Q (bU (lo 2 iH.2.length) jw dP bF (aN (Iv (gq (gU bT.2.1 dO bT.1) iH.1)) y4 (aN (Iv iH.1) y4 (ak fun XH JU => (jJ (LT.fK Q Q fB JU) Q Q Q Q Q (bn (LT.lX (k := 0) (v := (.c (iC iH.1))) (b' := iH.1) Q Q (dR lQ) iO (by exact Q) JU (by exact Q) (by exact K Q) (by exact Q)) Q Q Q Q Q (On (Wr ?_)))))))))))
           refine aN (Iv wX) y4 (aQ (Iv wX) y4 (On (aB.blk ?_)))
           refine aB.nil ⟨Q,aU.of z4 ⟨congrArg (fun l1 => (some (Ob.row 163 [[lo 1 (((p.Free.set dO.toNat (aP (kP - 1))).set a.toNat (aP (mY + 1))).length),lo 2 l1,lo 3 p.aI.length]]) : Option Ob)) (show iH.2.length = (iH.2.set (gq (gU bT.2.1 dO bT.1) iH.1).toNat iH.1).length by simp only [List.length_set]),Q,Q,Q,Q,J⟩⟩
          ·refine aB.gV Q ⟨Q,aU.of J z4⟩
         ·refine Ws (Wr ?_)
          refine aQ (Bv true) af (On (aB.ret ⟨Q,ay.mk (.inr Q) z1 z4 Q ⟨bI.sc,J⟩ ⟨bK.wV ⟨J,J,J,J⟩,bK.bY dK,bK.bY dK,bK.bY dK,J⟩⟩))
    ·refine aB.gV Q ⟨Q,aU.of z7 z6⟩
   ·refine aB.blk (Wr ?_)
    refine aN (Iv nY.1) y4 (bG LT.add ah (aQ (Iv (aP (nY.1 + 1))) y4 (On (aj Q z7 z6))))
  ·refine aB.gV Q ⟨Q,aU.of J z4⟩
 ·refine Ws (Wr ?_)
  refine aQ (Bv false) af (On (aB.ret (ay.mk (.inr Q) z1 z4 Q ⟨bI.sc,J⟩ ⟨bK.wV ⟨J,J,J,J⟩,bK.bY dK,bK.bY dK,bK.bY dK,J⟩)))
theorem WM (bars : (List aK)) (p : aY) (a : Int) (b : Int) (want : Int) : FT Try.prog (sV bars p a b want) 230 [.c (xF aF bars),.c (.pl 0 0),.c (iC a),.c (iC b),.c (iC want)] [(0,.row 163 [[lo 1 p.Free.length,lo 2 p.aJ.length,lo 3 p.aI.length]]),(1,pR 3 aA p.Free),(2,pR 3 aA p.aJ),(3,pR 3 aA p.aI)] (fun (t : (Bool × aY)) => [.c (bC t.1)]) (fun (t : (Bool × aY)) => [(0,.row 163 [[lo 1 t.2.Free.length,lo 2 t.2.aJ.length,lo 3 t.2.aI.length]]),(1,pR 3 aA t.2.Free),(2,pR 3 aA t.2.aJ),(3,pR 3 aA t.2.aI)]) [1,2,3] := by
 refine FT.of [0] Try.func230 Try.ntmps230 Q y2 ?_
 intro w0 U0 R0 g0
 unfold sV
 refine Ws (Wr ?_)
 refine aQ (Bv false) af (On (Ws (aB.block ?_)))
 refine aB.nN (id := 0) (qf bars a b want) (fun s1 => ([(0,Cc (xF aF bars)),(1,Cc (.pl 0 0)),(2,Iv a),(3,Iv b),(4,Iv want)],[(0,.row 163 [[lo 1 s1.1.length,lo 2 s1.2.1.length,lo 3 s1.2.2.length]]),(1,pR 3 aA s1.1),(2,pR 3 aA s1.2.1),(3,pR 3 aA s1.2.2)])) (fun lm => ([],[(0,.row 163 [[lo 1 lm.1.length,lo 2 lm.2.1.length,lo 3 lm.2.2.length]]),(1,pR 3 aA lm.1),(2,pR 3 aA lm.2.1),(3,pR 3 aA lm.2.2)])) (ay Try.prog Try.f230.results.toList [(0,.row 163 [[lo 1 p.Free.length,lo 2 p.aJ.length,lo 3 p.aI.length]]),(1,pR 3 aA p.Free),(2,pR 3 aA p.aJ),(3,pR 3 aA p.aI)] [1,2,3] (fun (t : (Bool × aY)) => [.c (bC t.1)]) (fun (t : (Bool × aY)) => [(0,.row 163 [[lo 1 t.2.Free.length,lo 2 t.2.aJ.length,lo 3 t.2.aI.length]]),(1,pR 3 aA t.2.Free),(2,pR 3 aA t.2.aJ),(3,pR 3 aA t.2.aI)])) ?_ (aU.of z5 z4) Q (fun lm _ => ?_) (by intro r t σ m ht hk; injection ht with ht; subst ht; exact hk)
 ·intro s1
  unfold qf
  refine Ws (Ws (aB.draw mixed ?_))
  refine bf (Cc (.pl 0 0)) y4 (bg (LT.mF Q) Q Q Q (fQ (lo 1 s1.1.length) iw dP bF (bf (Iv a) y4 (aS.bind fun x25 hx25 => (kF (LT.fK Q Q fB hx25) Q Q Q Q Q (fZ (LT.je (k := 0) Q bD hx25 (by exact Q) (by exact Q)) Q Q Q Q (bf (Cc (.pl 0 0)) y4 (bg (LT.mF Q) Q Q Q (fQ (lo 1 s1.1.length) iw dP bF ?_)))))))))
  refine bf (Iv b) y4 (aS.bind fun NG JV => (kF (LT.fK Q Q fB JV) Q Q Q Q Q (fZ (LT.je (k := 0) Q bD JV (by exact Q) (by exact Q)) Q Q Q Q (jP LT.add y5 (bf (Iv want) y4 (jP LT.lss y5 (aS.nil (by kernel_rfl) (aB.cond Q (fun hc27 => ?_) (fun hc27 => ?_)))))))))
  ·refine aB.skip (aB.block (Ws ?_))
   refine aB.fG (fun j31 => ([(0,Cc (xF aF bars)),(1,Cc (.pl 0 0)),(2,Iv a),(3,Iv b),(4,Iv want),(41,Bv j31.1)],[(0,.row 163 [[lo 1 j31.2.1.length,lo 2 j31.2.2.1.length,lo 3 j31.2.2.2.length]]),(1,pR 3 aA j31.2.1),(2,pR 3 aA j31.2.2.1),(3,pR 3 aA j31.2.2.2)])) ?_ (fun j31 _ => ?_)
   ·refine en [(0,Cc (xF aF bars)),(1,Cc (.pl 0 0)),(2,Iv a),(3,Iv b),(4,Iv want)] [(0,.row 163 [[lo 1 s1.1.length,lo 2 s1.2.1.length,lo 3 s1.2.2.length]]),(1,pR 3 aA s1.1),(2,pR 3 aA s1.2.1),(3,pR 3 aA s1.2.2)] z5 z4 (Wr (aN (Cc (xF aF bars)) y4 (aN (Cc (.pl 0 0)) y4 (aN (Iv a) y4 (aN (Iv b) y4 (ak fun r32 Qy => (aT.step (cO [.c (xF aF bars),.c (.pl 0 0),.c (iC a),.c (iC b)] (Fw.Fn.ren [(0,0),(1,1),(2,2),(3,3)] (MI bars (aY.mk s1.1 s1.2.1 s1.2.2) a b r32 Qy) Q) IE (zI y4) z4 y3) z5 z4 Q Q (aZ (LT.not Q) Q Q Q (aN (Bv (!r32.1)) y4 (aT.split (fun lu => ?_) (fun lu => ?_)))))))))))
    ·refine dY (Cc (xF aF bars)) lu y5 (dY (Cc (.pl 0 0)) lu y5 (dY (Iv b) lu y5 (dY (Iv a) lu y5 (ak fun uJ Qz => (aT.step (cO [.c (xF aF bars),.c (.pl 0 0),.c (iC b),.c (iC a)] (Fw.Fn.ren [(0,0),(1,1),(2,2),(3,3)] (MI bars r32.2 b a uJ Qz) Q) IE (zI y4) z4 y3) z5 z4 (gH lu Q Q) Q (aZ (LT.not Q) Q (gH lu Q Q) Q (eF (Bv (!uJ.1)) lu y5 (On (aj Q z6 z4)))))))))
    ·refine aW lu y5 (aW lu y5 (aW lu y5 (aW lu y5 (aW lu y5 (aW lu y5 (fD (Bv false) lu ah (On (aj Q z6 z4))))))))
   ·refine aB.cond Q (fun EJ => ?_) (fun EJ => ?_)
    ·refine Ws (Wr ?_)
     refine aQ (Bv false) af (On (aB.ret ⟨Q,ay.mk (.inr Q) z1 z4 Q ⟨bI.sc,J⟩ ⟨bK.wV ⟨J,J,J,J⟩,bK.bY dK,bK.bY dK,bK.bY dK,J⟩⟩))
    ·refine aB.skip (aB.blk ?_)
     refine aj Q z5 z4
  ·refine aB.gV Q ⟨Q,aU.of J z4⟩
 ·refine Ws (Wr ?_)
  refine aQ (Bv true) af (On (aB.ret (ay.mk (.inr Q) z1 z4 Q ⟨bI.sc,J⟩ ⟨bK.wV ⟨J,J,J,J⟩,bK.bY dK,bK.bY dK,bK.bY dK,J⟩)))
theorem WN (bars : (List aK)) (l : Int) (p : aY) (e : Int) : FT Try.prog (lC bars l p e) 222 [.c (xF aF bars),.c (iC l),.c (.pl 0 0),.c (iC e)] [(0,.row 163 [[lo 1 p.Free.length,lo 2 p.aJ.length,lo 3 p.aI.length]]),(1,pR 3 aA p.Free),(2,pR 3 aA p.aJ),(3,pR 3 aA p.aI)] (fun (t : (Bool × aY)) => [.c (bC t.1)]) (fun (t : (Bool × aY)) => [(0,.row 163 [[lo 1 t.2.Free.length,lo 2 t.2.aJ.length,lo 3 t.2.aI.length]]),(1,pR 3 aA t.2.Free),(2,pR 3 aA t.2.aJ),(3,pR 3 aA t.2.aI)]) [1,2,3] := by
 refine FT.of [0] Try.func222 Try.ntmps222 Q y2 ?_
 intro w0 U0 R0 g0
 unfold lC
 refine Ws (Wr ?_)
 refine aQ (Bv false) af (On (Ws (Wr ?_)))
 refine aN (Cc (xF aF bars)) y4 (aN (Iv e) y4 (ak fun x1 hx1 => (fA (LT.eX (enc := aF) Q gB hx1 dD) Q Q Q Q (aZ (LT.l9 Q ig (dR gQ) (by exact dD.symm)) Q Q Q (dX (LT.alloc (n := 21) (cells := [iC 0,iC 0]) Q fC Q Q Q) Q Q (bn (stA [iC x1.A,iC x1.B] Q Q gQ dD) Q Q Q Q Q (On (Ws (Ws ?_)))))))))
 refine en [(0,Cc (xF aF bars)),(1,Iv l),(2,Cc (.pl 0 0)),(3,Iv e),(9,Cc (.pl 21 0))] [(0,.row 163 [[lo 1 p.Free.length,lo 2 p.aJ.length,lo 3 p.aI.length]]),(1,pR 3 aA p.Free),(2,pR 3 aA p.aJ),(3,pR 3 aA p.aI),(21,.row 96 [[iC x1.A,iC x1.B]])] z5 z5 (Wr (aN (Cc (xF aF bars)) y4 (aN (Cc (.pl 0 0)) y4 (bU (iC x1.A) gI bD bF (bU (iC x1.B) iR bD bF (aN (Iv l) y4 (bG LT.add ah (ak fun r2 hr2 => (aT.step (cO [.c (xF aF bars),.c (.pl 0 0),.c (iC x1.A),.c (iC x1.B),.c (iC (aP (l + 1)))] (Fw.Fn.ren [(0,0),(1,1),(2,2),(3,3)] (WM bars p x1.A x1.B (aP (l + 1)) r2 hr2) Q) OW (VJ y5) z4 y3) z6 z4 Q Q ?_)))))))))
 refine aZ (LT.not Q) Q Q Q (On (aB.cond Q (fun hc3 => ?_) (fun hc3 => ?_)))
 ·refine Ws (en [] [(0,.row 163 [[lo 1 r2.2.Free.length,lo 2 r2.2.aJ.length,lo 3 r2.2.aI.length]]),(1,pR 3 aA r2.2.Free),(2,pR 3 aA r2.2.aJ),(3,pR 3 aA r2.2.aI)] J z4 (Wr (aQ (Bv false) af (On (aB.ret (ay.mk (.inr Q) z1 z4 Q ⟨bI.sc,J⟩ ⟨bK.wV ⟨J,J,J,J⟩,bK.bY dK,bK.bY dK,bK.bY dK,J⟩))))))
 ·refine aB.skip (Ws ?_)
  refine en [(2,Cc (.pl 0 0)),(3,Iv e),(9,Cc (.pl 21 0))] [(0,.row 163 [[lo 1 r2.2.Free.length,lo 2 r2.2.aJ.length,lo 3 r2.2.aI.length]]),(1,pR 3 aA r2.2.Free),(2,pR 3 aA r2.2.aJ),(3,pR 3 aA r2.2.aI),(21,.row 96 [[iC x1.A,iC x1.B]])] z3 z5 (Wr (bU (iC x1.A) gI bD bF (aQ (Iv x1.A) y4 (On (Ws (Ws (aB.draw mixed ?_)))))))
  refine bf (Cc (.pl 0 0)) y4 (bg (LT.mF Q) Q Q Q (fQ (lo 1 r2.2.Free.length) iw dP bF (fQ (iC x1.A) gI bD bF (aS.bind fun x4 hx4 => (kF (LT.fK Q Q fB hx4) Q Q Q Q Q (fZ (LT.je (k := 0) Q bD hx4 (by exact Q) (by exact Q)) Q Q Q Q (jP LT.eql ah (aS.nil (by kernel_rfl) (aB.fG (fun j6 => ([(2,Cc (.pl 0 0)),(3,Iv e),(10,Iv j6)],[(0,.row 163 [[lo 1 r2.2.Free.length,lo 2 r2.2.aJ.length,lo 3 r2.2.aI.length]]),(1,pR 3 aA r2.2.Free),(2,pR 3 aA r2.2.aJ),(3,pR 3 aA r2.2.aI)])) ?_ (fun j6 _ => ?_))))))))))
  ·refine aB.cond Q (fun xR => ?_) (fun xR => ?_)
   ·refine en [(2,Cc (.pl 0 0)),(3,Iv e),(9,Cc (.pl 21 0))] [(0,.row 163 [[lo 1 r2.2.Free.length,lo 2 r2.2.aJ.length,lo 3 r2.2.aI.length]]),(1,pR 3 aA r2.2.Free),(2,pR 3 aA r2.2.aJ),(3,pR 3 aA r2.2.aI),(21,.row 96 [[iC x1.A,iC x1.B]])] z3 z5 (Wr (bU (iC x1.B) iR bD bF (aQ (Iv x1.B) y4 (On (aj Q z3 z4)))))
   ·refine aB.skip (aj Q z3 z4)
  ·refine Ws (Wr ?_)
   refine aN (Cc (.pl 0 0)) y4 (aZ (LT.mF Q) Q Q Q (bU (lo 1 r2.2.Free.length) iw dP bF (aN (Iv j6) y4 (ak fun x8 Ja => (jJ (LT.fK Q Q fB Ja) Q Q Q Q Q (bZ (LT.je (k := 0) Q bD Ja (by exact Q) (by exact Q)) Q Q Q Q (bG LT.sub ah (ak fun x9 xq => (jJ (LT.fK Q Q fB xq) Q Q Q Q Q (bn (LT.lX (k := 0) (v := (.c (iC (aP (x8 - 1))))) (b' := (aP (x8 - 1))) Q Q (dR lQ) iO (by exact Q) xq (by exact Q) (by exact K Q) (by exact Q)) Q Q Q Q Q ?_))))))))))
   refine On (Ws ?_)
   refine en [(2,Cc (.pl 0 0)),(3,Iv e),(10,Iv j6)] [(0,.row 163 [[lo 1 r2.2.Free.length,lo 2 r2.2.aJ.length,lo 3 r2.2.aI.length]]),(1,pR 3 aA (r2.2.Free.set j6.toNat (aP (x8 - 1)))),(2,pR 3 aA r2.2.aJ),(3,pR 3 aA r2.2.aI)] z3 z4 (Wr (aN (Cc (.pl 0 0)) y4 (aN (Cc (.pl 0 0)) y4 (aZ (LT.mF Q) Q Q Q (bU (lo 2 r2.2.aJ.length) jw dP bF (aN (Iv j6) y4 (dG (LT.gJ (n := 23) (enc := aA) [(0,.tmp 52,.c (iC j6))] ([j6] : List Int) Q Q eU gy Q Q Q Q (by decide) (fun _ => Q) Q) Q Q Q (ak fun u10 Eg => (lZ (LT.kY (enc := aA) Q Q Q eU gy Q (by decide) (by decide) (fun _ => Q) (jF Eg)) Q Q Q Q Q Q (aZ (LT.mF Q) Q Q Q ?_))))))))))
   refine aZ (LT.iJ Q jw) Q Q Q (bn (lV (.c (lo 2 ((r2.2.aJ ++ ([j6] : List Int)).length))) [lo 1 r2.2.Free.length,lo 2 ((r2.2.aJ ++ ([j6] : List Int)).length),lo 3 r2.2.aI.length] Q Q qR rH) Q Q Q Q Q (On (Ws ?_)))
   refine en [(2,Cc (.pl 0 0)),(3,Iv e)] [(0,.row 163 [[lo 1 r2.2.Free.length,lo 2 ((r2.2.aJ ++ ([j6] : List Int)).length),lo 3 r2.2.aI.length]]),(1,pR 3 aA (r2.2.Free.set j6.toNat (aP (x8 - 1)))),(2,pR 3 aA (r2.2.aJ ++ ([j6] : List Int))),(3,pR 3 aA r2.2.aI)] z2 z4 (Wr (aN (Cc (.pl 0 0)) y4 (aN (Cc (.pl 0 0)) y4 (aZ (LT.mF Q) Q Q Q (bU (lo 3 r2.2.aI.length) jq dP bF (aN (Iv e) y4 (dG (LT.gJ (n := 24) (enc := aA) [(0,.tmp 62,.c (iC e))] ([e] : List Int) Q Q eU gy Q Q Q Q (by decide) (fun _ => Q) Q) Q Q Q (ak fun u11 RY => (lZ (LT.kY (enc := aA) Q Q Q eU gy Q (by decide) (by decide) (fun _ => Q) (jF RY)) Q Q Q Q Q Q (aZ (LT.mF Q) Q Q Q ?_))))))))))
   refine aZ (LT.iJ Q jq) Q Q Q (bn (lV (.c (lo 3 ((r2.2.aI ++ ([e] : List Int)).length))) [lo 1 r2.2.Free.length,lo 2 ((r2.2.aJ ++ ([j6] : List Int)).length),lo 3 ((r2.2.aI ++ ([e] : List Int)).length)] Q Q qR rH) Q Q Q Q Q (On (Ws ?_)))
   refine en [] [(0,.row 163 [[lo 1 r2.2.Free.length,lo 2 ((r2.2.aJ ++ ([j6] : List Int)).length),lo 3 ((r2.2.aI ++ ([e] : List Int)).length)]]),(1,pR 3 aA (r2.2.Free.set j6.toNat (aP (x8 - 1)))),(2,pR 3 aA (r2.2.aJ ++ ([j6] : List Int))),(3,pR 3 aA (r2.2.aI ++ ([e] : List Int)))] J z4 (Wr (aQ (Bv true) af (On (en [(8,Bv true)] [(0,.row 163 [[lo 1 ((r2.2.Free.set j6.toNat (aP (x8 - 1))).length),lo 2 ((r2.2.aJ ++ ([j6] : List Int)).length),lo 3 ((r2.2.aI ++ ([e] : List Int)).length)]]),(1,pR 3 aA (r2.2.Free.set j6.toNat (aP (x8 - 1)))),(2,pR 3 aA (r2.2.aJ ++ ([j6] : List Int))),(3,pR 3 aA (r2.2.aI ++ ([e] : List Int)))] z1 ⟨congrArg (fun l1 => (some (Ob.row 163 [[lo 1 l1,lo 2 ((r2.2.aJ ++ ([j6] : List Int)).length),lo 3 ((r2.2.aI ++ ([e] : List Int)).length)]]) : Option Ob)) (show r2.2.Free.length = (r2.2.Free.set j6.toNat (aP (x8 - 1))).length by simp only [List.length_set]),Q,Q,Q,J⟩ (aB.ret (ay.mk (.inr Q) z1 z4 Q ⟨bI.sc,J⟩ ⟨bK.wV ⟨J,J,J,J⟩,bK.bY dK,bK.bY dK,bK.bY dK,J⟩))))))
end Go.Proofs.Ytdmlaldifbmkpaa
end
section
set_option linter.unusedVariables false
set_option linter.unusedSimpArgs false
set_option linter.unnecessarySimpa false
namespace Go.Fw
open Go.Proofs Go.Sort
section
variable {P : Program} {ρ : Go.Shelf.Ren} {α : Type} [Inhabited α]
theorem heap_sorted (ev : α → List Value) (k : Nat) (w : World) (b n : Nat) (d : Array α) (os : Array Obj) :
  (sortWorldK ev k w b 0 n d os).heap = w.heap.modify b (onCells (putCells id 0 (flatK ev k d))) ++ os := rfl
theorem Fn.VW (L : SlLaysF0.n6 P ρ) {k g0 e : Nat} (aE : ∀ w,(isAgg (ρ.t 24)).run P w = .ok true w) (zE : ∀ w,(Go.sizeOf (ρ.t 24)).run P w = .ok k w) (hz : bH P e = k) (enc : α → List PV) (ev : α → List Value)
  (hev : ∀ x,enc x = (ev x).map .sc) (hk : ∀ x,(ev x).length = k) (h1 : ∀ x,∀ v ∈ ev x,v.oneCell' = true) (cf : α → α → Int) (hO : SWO (ltOf cf)) (hT : ∀ x y,(ltOf cf) x y = false → (ltOf cf) y x = false → x = y)
  (eg : ∀ args w,(callFunc g0 args).run P w = .ok (.enter g0 args) w)
  (hcmp : ∀ x y W,Calls P g0 #[.agg (ev x).toArray,.agg (ev y).toArray] W fun e w' => e = .returned (.int .i64 (cf x y)) ∧ ∃ q os',w' = grow (W.drewN q) os') (xs : List α) (hsz : xs.length < 4611686018427387904) :
  Fn P (ρ.f 6) [.c (.loc 0 0 xs.length),.c (.fn g0 [])] [(0,.dF e (xs.map enc))] (.cZ []) [(0,.dF e ((xs.mergeSort fun x y => !(ltOf cf) y x).map enc))] [0] [] := by
 intro R B g w vs hwf hlen hargs hus
 have h0 : dM P w R B g 0 e (dJ (xs.map enc)) := hus (0,.dF e (xs.map enc)) (List.mem_singleton.2 rfl)
 obtain ⟨u0,hu0,_,hr0⟩ := hargs 0 _ rfl
 obtain ⟨u1,hu1,_,ls,hr1,hl1,_⟩ := hargs 1 _ rfl
 have hls : ls = [] := List.eq_nil_of_length_eq_zero hl1
 subst hls hr1
 have hvs : vs = [u0,.func (.func g0) #[] #[]] := by
  match vs,hlen with
  | [a,b],_ => simp at hu0 hu1; rw [hu0,hu1]
 subst hvs
 rcases hr0 with ⟨hn,_,hl,rfl⟩ | ⟨_,hne,_⟩ | ⟨b,cap,cur,e',hg,hh,hle,hcap,hcur,rfl⟩
 ·have hx : xs = [] := List.eq_nil_of_length_eq_zero hl
  subst hx
  refine (AnyF.slices_SortFunc_none L none 0 _ w).mono fun ex w' ⟨he,hw⟩ => ?_
  subst hw
  exact ⟨_,R,B,g,he,⟨hwf,fun _ h => h,fun _ h => h,rfl,rfl,rfl,Nat.le_refl _,fun _ _ _ => rfl,fun _ _ => rfl,fun n hn => by simp at hn,fun n _ _ b cur e h h2 => ⟨cur,h2,rfl⟩⟩,fun _ h => .inl h,⟨[],rfl,rfl,fun k x h => by simp at h⟩,fun p hp => by
   rw [List.mem_singleton.1 hp]
   exact .inl ⟨hn,by simp [dJ]⟩⟩
 ·exact absurd rfl hne
 ·obtain ⟨hn,_⟩ | ⟨b',cur',hg',hh',hs,hle',hcell⟩ := h0
  ·rw [hg] at hn; cases hn
  rw [hg] at hg'
  injection hg' with hb; subst hb
  rw [hh] at hh'
  injection hh' with hh'; injection hh' with hc he
  subst hc he
  have hbl : b < w.heap.size := (hwf.own 0 b hg).2
  have hget : ∀ j i,j < xs.length → i < k → ∃ x,xs[j]? = some x ∧ cur[j * k + i]? = (ev x)[i]? := fun j i hj hi => by
   have hx : xs[j]? = some xs[j] := List.getElem?_eq_getElem hj
   have hi' : i < (ev xs[j]).length := by rw [hk]; exact hi
   obtain ⟨u,h2,h3⟩ := hcell j i ((enc xs[j]).map .pv) (.pv (.sc (ev xs[j])[i])) (by simp [dJ,hx]) (by simp [hev,hi'])
   refine ⟨_,hx,?_⟩
   rw [← hz,h2,List.getElem?_eq_getElem hi']
   obtain ⟨_,h4⟩ := h3
   cases h4
   rfl
  have hH : HoldsK ev k w b 0 xs.toArray := fun t ht => by
   rw [size_flatK] at ht
   have k0 : 0 < k := Nat.pos_of_ne_zero fun h => by subst h; simp at ht
   have ht' : t < xs.length * k := by simpa using ht
   have hj : t / k < xs.length := (Nat.div_lt_iff_lt_mul k0).2 ht'
   have hi : t % k < k := Nat.mod_lt _ k0
   obtain ⟨x,hx,h2⟩ := hget _ _ hj hi
   rw [Nat.div_add_mod'] at h2
   refine ⟨?_,?_⟩
   ·unfold World.cell?
    simp only [hh,Nat.zero_add,Option.isSome_none,Bool.false_eq_true,if_false]
    rw [get_flatK _ _ _ _ ht,h2]
    have hx' : xs.toArray[t / k]! = x := by
     rw [getElem!_pos xs.toArray (t / k) (by simpa using hj)]
     rw [List.getElem?_eq_getElem hj] at hx
     injection hx
    rw [hx',id,getElem!_pos (ev x) (t % k) (by rw [hk]; exact hi),List.getElem?_eq_getElem]
   ·unfold World.frozen?
    simp [hh]
  have hsl : (Value.slice (some ⟨b,0 * bH P e',none⟩) xs.length cap) = .slice (some ⟨b,0,none⟩) xs.toArray.size cap := by simp
  rw [hsl]
  refine (AnyQ.slices_SortFunc_total L k aE zE ev hk h1 cf hO g0 #[] b 0 cap xs.toArray w eg (fun _ _ _ _ x y => hcmp x y _) hH hbl (by simpa using hsz) hT).mono fun ex w' ⟨he,n,os,hw⟩ => ?_
  have hheap : w'.heap = w.heap.modify b (onCells (putCells id 0 (flatK ev k (xs.mergeSort fun x y => !(ltOf cf) y x).toArray))) ++ os := by rw [hw,heap_sorted]
  have hat : ∀ c,c < w.heap.size → c ≠ b → w'.heap[c]? = w.heap[c]? := fun c hc hne => by
   rw [hheap,Array.getElem?_append_left (by simpa using hc),Array.getElem?_modify,if_neg (Ne.symm hne)]
  have Ir : w'.heap[b]? = some (.cells (putCells id 0 (flatK ev k (xs.mergeSort fun x y => !(ltOf cf) y x).toArray) cur) e' (0,0)) := by
   rw [hheap,Array.getElem?_append_left (by simpa using hbl),Array.getElem?_modify,if_pos rfl,hh]
   rfl
  have hsize : w.heap.size ≤ w'.heap.size := by rw [hheap]; simp
  refine ⟨_,R,B,g,he,⟨hwf.mono hsize,fun _ h => h,fun _ h => h,by rw [hw]; rfl,by rw [hw]; rfl,by rw [hw]; rfl,hsize,fun c hc hno => hat c hc fun h => hno 0 (List.mem_singleton.2 rfl) (by rw [h]; exact GS.ny hg),fun _ _ => rfl,fun n hn => by simp at hn,fun m hm _ c cu ee hc h2 => ?_⟩,fun _ h => .inl h,⟨[],rfl,rfl,fun k x h => by simp at h⟩,fun p hp => ?_⟩
  ·rw [List.mem_singleton.1 hm] at hc
   have hcb := GS.Pv hg hc
   subst hcb
   rw [hh] at h2
   injection h2 with h2; injection h2 with h2 h3
   subst h2 h3
   exact ⟨_,Ir,by simp [putCells]⟩
  ·rw [List.mem_singleton.1 hp]
   have hlm : (xs.mergeSort fun x y => !(ltOf cf) y x).length = xs.length := List.length_mergeSort xs
   refine .inr ⟨b,_,hg,Ir,fun cs hcs => ?_,?_,fun j i cs x hj hi => ?_⟩
   ·simp only [dJ,List.mem_map] at hcs
    obtain ⟨_,⟨y,_,rfl⟩,rfl⟩ := hcs
    simp [hev,hk,hz]
   ·have : (dJ (List.map enc (xs.mergeSort fun x y => !(ltOf cf) y x))).length = (dJ (xs.map enc)).length := by simp [dJ,hlm]
    rw [this]
    simpa [putCells] using hle'
   ·simp only [dJ,List.getElem?_map] at hj
    cases hy : (xs.mergeSort fun x y => !(ltOf cf) y x)[j]? with
    | none => rw [hy] at hj; cases hj
    | some y =>
     rw [hy] at hj
     injection hj with hj
     subst hj
     obtain ⟨hjl,hye⟩ := List.getElem?_eq_some_iff.1 hy
     simp only [hev,List.map_map,List.getElem?_map] at hi
     cases hv : (ev y)[i]? with
     | none => rw [hv] at hi; cases hi
     | some v =>
      rw [hv] at hi
      injection hi with hi
      subst hi
      obtain ⟨hil,SE⟩ := List.getElem?_eq_some_iff.1 hv
      rw [hk] at hil
      have hlt : j * k + i < xs.length * k := by
       have := Nat.mul_le_mul_right k (show j + 1 ≤ xs.length by omega)
       rw [Nat.add_mul,Nat.one_mul] at this
       omega
      have e1 : (j * k + i) / k = j := (blk_iff k j _ (by omega)).1 ⟨by omega,by omega⟩
      have e2 : (j * k + i) % k = i := by rw [Nat.mod_eq_sub_div_mul,e1]; omega
      have hcs : (dJ (xs.map enc)).length = xs.length := by simp [dJ]
      rw [hcs,hz] at hle'
      have hone : v.oneCell' = true := h1 y v (List.mem_of_getElem? hv)
      refine ⟨v,?_,hone,.sc hone⟩
      rw [hz]
      simp only [putCells,Array.getElem?_mapIdx]
      rw [Array.getElem?_eq_getElem (by omega),Option.map_some,if_pos ⟨by omega,by rw [size_flatK]; simpa [hlm] using hlt⟩]
      congr 1
      rw [Nat.sub_zero,get_flatK _ _ _ _ (by simpa [hlm] using hlt),e1,e2,getElem!_pos _ j (by simpa using hjl)]
      simp only [id,List.getElem_toArray,hye]
      rw [getElem!_pos (ev y) i (by rw [hk]; exact hil),SE]
end
end Go.Fw
end
section
set_option linter.unusedVariables false
set_option linter.unusedSimpArgs false
set_option linter.unnecessarySimpa false
namespace Go.Proofs
open Go.Shelf
def Try.sortL_ren : Go.Shelf.Ren := ⟨fun | 6 => 178 | 15 => 198 | 14 => 197 | 28 => 215 | 29 => 216 | 20 => 207 | 21 => 208 | 22 => 209 | 23 => 210 | 24 => 211 | 25 => 212 | 26 => 213 | 27 => 214 | 46 => 223 | 47 => 224 | 48 => 225 | 49 => 226 | 50 => 227 | 57 => 231 | n => n, fun | 22 => 24 | 24 => 96 | 25 => 154 | 3 => 3 | 39 => 170 | 0 => 0 | 53 => 185 | 55 => 187 | 4 => 4 | 46 => 179 | 45 => 178 | 50 => 129 | 5 => 5 | 9 => 9 | 66 => 194 | 70 => 198 | 76 => 202 | 77 => 44 | n => n, fun | n => n⟩
theorem Try.sortL : Go.Proofs.SlLaysF0.n6 Try.prog Try.sortL_ren where
  mixed := by kernel_rfl
  f6 := ⟨Try.f178.name, by kernel_rfl, Try.func178.trans (congrArg some (by kernel_rfl))⟩
  f14 := ⟨Try.f197.name, by kernel_rfl, Try.func197.trans (congrArg some (by kernel_rfl))⟩
  f15 := Try.func198.trans (congrArg some (by kernel_rfl))
  f20 := ⟨Try.f207.name, by kernel_rfl, Try.func207.trans (congrArg some (by kernel_rfl))⟩
  f21 := ⟨Try.f208.name, by kernel_rfl, Try.func208.trans (congrArg some (by kernel_rfl))⟩
  f22 := ⟨Try.f209.name, by kernel_rfl, Try.func209.trans (congrArg some (by kernel_rfl))⟩
  f23 := ⟨Try.f210.name, by kernel_rfl, Try.func210.trans (congrArg some (by kernel_rfl))⟩
  f24 := ⟨Try.f211.name, by kernel_rfl, Try.func211.trans (congrArg some (by kernel_rfl))⟩
  f25 := ⟨Try.f212.name, by kernel_rfl, Try.func212.trans (congrArg some (by kernel_rfl))⟩
  f26 := ⟨Try.f213.name, by kernel_rfl, Try.func213.trans (congrArg some (by kernel_rfl))⟩
  f27 := ⟨Try.f214.name, by kernel_rfl, Try.func214.trans (congrArg some (by kernel_rfl))⟩
  f28 := Try.func215.trans (congrArg some (by kernel_rfl))
  f29 := Try.func216.trans (congrArg some (by kernel_rfl))
  f46 := ⟨Try.f223.name, by kernel_rfl, Try.func223.trans (congrArg some (by kernel_rfl))⟩
  f47 := Try.func224.trans (congrArg some (by kernel_rfl))
  f48 := Try.func225.trans (congrArg some (by kernel_rfl))
  f49 := ⟨Try.f226.name, by kernel_rfl, Try.func226.trans (congrArg some (by kernel_rfl))⟩
  f50 := ⟨Try.f227.name, by kernel_rfl, Try.func227.trans (congrArg some (by kernel_rfl))⟩
  f57 := ⟨Try.f231.name, by kernel_rfl, Try.func231.trans (congrArg some (by kernel_rfl))⟩
  t0 := Try.underlying0
  a0 := Try.isAgg0
  z0 := Try.sizeOf0
  v0 := Try.zeroValue0
  t3 := Try.underlying3
  a3 := Try.isAgg3
  z3 := Try.sizeOf3
  v3 := Try.zeroValue3
  t4 := Try.underlying4
  a4 := Try.isAgg4
  z4 := Try.sizeOf4
  v4 := Try.zeroValue4
  t5 := Try.underlying5
  a5 := Try.isAgg5
  z5 := Try.sizeOf5
  v5 := Try.zeroValue5
  t9 := Try.underlying9
  a9 := Try.isAgg9
  z9 := Try.sizeOf9
  v9 := Try.zeroValue9
  t22 := Try.underlying24
  a22 := Try.isAgg24
  z22 := Try.sizeOf24
  v22 := Try.zeroValue24
  t25 := Try.underlying154
  a25 := Try.isAgg154
  z25 := Try.sizeOf154
  v25 := Try.zeroValue154
  t39 := Try.underlying170
  a39 := Try.isAgg170
  z39 := Try.sizeOf170
  v39 := Try.zeroValue170
  t45 := Try.underlying178
  a45 := Try.isAgg178
  z45 := Try.sizeOf178
  v45 := Try.zeroValue178
  t46 := Try.underlying179
  a46 := Try.isAgg179
  z46 := Try.sizeOf179
  v46 := Try.zeroValue179
  t50 := Try.underlying129
  a50 := Try.isAgg129
  z50 := Try.sizeOf129
  v50 := Try.zeroValue129
  t53 := Try.underlying185
  a53 := Try.isAgg185
  z53 := Try.sizeOf185
  v53 := Try.zeroValue185
  t55 := Try.underlying187
  a55 := Try.isAgg187
  z55 := Try.sizeOf187
  v55 := Try.zeroValue187
  t66 := Try.underlying194
  a66 := Try.isAgg194
  z66 := Try.sizeOf194
  v66 := Try.zeroValue194
  t70 := Try.underlying198
  a70 := Try.isAgg198
  z70 := Try.sizeOf198
  v70 := Try.zeroValue198
  t76 := Try.underlying202
  a76 := Try.isAgg202
  z76 := Try.sizeOf202
  v76 := Try.zeroValue202
  t77 := Try.underlying44
  a77 := Try.isAgg44
  z77 := Try.sizeOf44
  v77 := Try.zeroValue44
end Go.Proofs
namespace Go.Proofs.Ytdmlaldifbmkpaa
open Go Go.Fw Go.Sort
instance XQ : Inhabited aK := ⟨⟨0, 0⟩⟩
def AU (x : aK) : List Value := [.int .i64 x.A, .int .i64 x.B]
theorem Aw (x y : aK) : ltOf mr x y = decide (x.A < y.A ∨ x.A = y.A ∧ x.B < y.B) := by
  unfold ltOf mr
  by_cases h1 : x.A < y.A
  · simp [h1]
  · by_cases h2 : y.A < x.A
    · have h3 : ¬ x.A = y.A := by omega
      simp [h1, h2, h3]
    · have h3 : x.A = y.A := by omega
      by_cases h4 : x.B < y.B
      · simp [h3, h4]
      · by_cases h5 : y.B < x.B <;> simp [h3, h4, h5]
theorem Vj : SWO (ltOf mr) where
  irrefl x := by rw [Aw]; simp
  trans x y z h1 h2 := by rw [Aw] at *; simp only [decide_eq_true_eq] at *; omega
  ntrans x y z h1 h2 := by rw [Aw] at *; simp only [decide_eq_false_iff_not] at *; omega
theorem Vr (x y : aK) (h1 : ltOf mr x y = false) (h2 : ltOf mr y x = false) : x = y := by
  rw [Aw] at *
  simp only [decide_eq_false_iff_not] at *
  obtain ⟨a, b⟩ := x
  obtain ⟨c, d⟩ := y
  simp only at *
  obtain rfl : a = c := by omega
  obtain rfl : b = d := by omega
  rfl
def qQ (a b : Int) : Int := bif decide (a < b) then -1 else bif decide (b < a) then 1 else 0
set_option maxHeartbeats 1000000 in
set_option maxRecDepth 100000 in
theorem IU (a b : Int) (W : World) : Calls Try.prog 199 #[.int .i64 a, .int .i64 b] W fun e w' => e = .returned (.int .i64 (qQ a b)) ∧ w' = W := by
  unfold qQ
  by_cases h1 : a < b
  · simp only [h1, decide_true, cond_true]
    go_enter Try.func199, Try.ntmps199
    go_wp2
    go_ret
    exact ⟨rfl, rfl⟩
  · by_cases h2 : b < a
    · simp only [h1, h2, decide_true, decide_false, cond_true, cond_false]
      go_enter Try.func199, Try.ntmps199
      go_wp2
      go_ret
      exact ⟨rfl, rfl⟩
    · simp only [h1, h2, decide_false, cond_false]
      go_enter Try.func199, Try.ntmps199
      go_wp2
      go_ret
      exact ⟨rfl, rfl⟩
theorem IL (x y : aK) : mr x y = if qQ x.A y.A ≠ 0 then qQ x.A y.A else qQ x.B y.B := by
  unfold mr qQ
  by_cases h1 : x.A < y.A
  · simp [h1]
  · by_cases h2 : y.A < x.A
    · simp [h1, h2]
    · simp [h1, h2]
set_option maxHeartbeats 4000000 in
set_option maxRecDepth 100000 in
theorem Oq (a b c d r s : Int) (hr : r ≠ 0) (hA : ∀ W, Calls Try.prog 199 #[.int .i64 a, .int .i64 c] W fun e w' => e = .returned (.int .i64 r) ∧ w' = W) (W : World) :
    Calls Try.prog 179 #[.agg #[.int .i64 a, .int .i64 b], .agg #[.int .i64 c, .int .i64 d]] W fun e w' => e = .returned (.int .i64 r) ∧ ∃ q os', w' = grow (W.drewN q) os' := by
  go_enter Try.func179, Try.ntmps179
  go_wp2_with (go_at_call 199; refine (hA _).mono ?_; rintro e w' ⟨rfl, rfl⟩)
  go_ret
  exact ⟨rfl, 0, _, by rw [alloc_eq_grow, alloc_eq_grow, grow_grow]; rfl⟩
set_option maxHeartbeats 4000000 in
set_option maxRecDepth 100000 in
theorem Ot (F : Int → Int → Int) (hC : ∀ u v W, Calls Try.prog 199 #[.int .i64 u, .int .i64 v] W fun e w' => e = .returned (.int .i64 (F u v)) ∧ w' = W) (a b c d : Int) (hF : F a c = 0) (W : World) :
    Calls Try.prog 179 #[.agg #[.int .i64 a, .int .i64 b], .agg #[.int .i64 c, .int .i64 d]] W fun e w' => e = .returned (.int .i64 (F b d)) ∧ ∃ q os', w' = grow (W.drewN q) os' := by
  go_enter Try.func179, Try.ntmps179
  go_wp2_with (go_at_call 199; refine (hC _ _ _).mono ?_; rintro e w' ⟨rfl, rfl⟩; try rw [hF])
  go_ret
  exact ⟨rfl, 0, _, by rw [alloc_eq_grow, alloc_eq_grow, grow_grow]; rfl⟩
theorem Oo (x y : aK) (W : World) : Calls Try.prog 179 #[.agg (AU x).toArray, .agg (AU y).toArray] W fun e w' => e = .returned (.int .i64 (mr x y)) ∧ ∃ q os', w' = grow (W.drewN q) os' := by
  have hA := fun W => IU x.A y.A W
  by_cases h : qQ x.A y.A = 0
  · rw [IL, if_neg (by simp [h])]
    exact Ot qQ IU _ _ _ _ h W
  · rw [IL, if_pos h]
    exact Oq _ _ _ _ _ 0 h hA W
set_option maxRecDepth 100000 in
theorem VU (x t : List aK) (h : yV x = some t) : Fw.Fn Try.prog 178 [.c (.loc 0 0 x.length), .c (.fn 179 [])] [(0, pR 96 aF x)] (.cZ []) [(0, pR 96 aF t)] [0] [] := by
  unfold yV at h
  by_cases hl : x.length ≤ 4096
  · rw [decide_eq_true hl] at h
    injection h with h
    subst h
    exact Fw.Fn.VW Try.sortL (k := 2) (e := 96) Try.isAgg96 Try.sizeOf96 (by kernel_rfl) aF AU (fun _ => rfl) (fun _ => rfl) (fun x v hv => by simp [AU] at hv; rcases hv with rfl | rfl <;> rfl) mr Vj Vr (enters_of Try.func179 (by kernel_rfl) rfl) (fun x y W => Oo x y W) x (by omega)
  · rw [decide_eq_false hl] at h; cases h
end Go.Proofs.Ytdmlaldifbmkpaa
end
section
set_option linter.unusedVariables false
set_option linter.unusedSimpArgs false
set_option linter.unnecessarySimpa false
set_option maxRecDepth 100000
set_option maxHeartbeats 8000000
open Go Go.Fw
namespace Go.Proofs.Ytdmlaldifbmkpaa
theorem MK (points : Int) (bars : (List aK)) (k : Int) (l : Int) : FT Try.prog (vV points bars k l) 206 [.c (iC points),.c (xF aF bars),.c (iC k),.c (iC l)] [] (fun (t : aY) => [.agg [lo 0 t.Free.length,lo 1 t.aJ.length,lo 2 t.aI.length]]) (fun (t : aY) => [(0,pR 3 aA t.Free),(1,pR 3 aA t.aJ),(2,pR 3 aA t.aI)]) [0,1,2] := by
 refine FT.of [] Try.func206 Try.ntmps206 Q y2 ?_
 intro w0 U0 R0 g0
 unfold vV
 refine Ws (Wr ?_)
 refine dX (LT.alloc (n := 21) (cells := [sC aO,sC aO,sC aO]) Q iW Q Q Q) Q Q (On (Ws (Wr ?_)))
 refine zf (LT.build [] Q Q uH iW Q Q Q) Q Q (dX (LT.alloc (n := 22) (cells := [sC aO,sC aO,sC aO]) Q iW Q Q Q) Q Q (bn (stA [sC aO,sC aO,sC aO] Q Q dB bV) Q Q Q Q Q (On (Ws (Ws (Wr ?_))))))
 refine aN (Iv points) y4 (aN (Iv 0) af (On (aB.block ?_)))
 refine aB.ent (aU.nO 22 0 25 3 Q Q Q Q) (aB.kD (id := 0) (vW points k) (fun s1 => ([(1,Cc (xF aF bars)),(2,Iv k),(3,Iv l),(8,Cc (.pl 21 0)),(9,Cc (.pl 22 0)),(13,Iv points),(14,Iv s1.1)],[(21,.row 163 [[sC aO,sC aO,sC aO]]),(22,.row 163 [[lo 25 s1.2.length,sC aO,sC aO]]),(25,pR 3 aA s1.2)])) (fun b6 => ([(1,Cc (xF aF bars)),(3,Iv l),(8,Cc (.pl 21 0)),(9,Cc (.pl 22 0))],[(21,.row 163 [[sC aO,sC aO,sC aO]]),(22,.row 163 [[lo 25 b6.length,sC aO,sC aO]]),(25,pR 3 aA b6)])) ?_ (aU.of z7 z3) Q (fun b6 _ => ?_))
 ·intro s1
  unfold vW
  refine Ws (Wr ?_)
  refine bG LT.lss y5 (On (Ws ?_))
  refine aB.cond Q (fun xR => ?_) (fun xR => ?_)
  ·refine aB.skip (Ws (aB.block (Wr ?_)))
   refine bU (lo 25 s1.2.length) iw dP bF (aN (Iv k) y4 (dG (LT.gJ (n := 23) (enc := aA) [(0,.tmp 18,.c (iC k))] ([k] : List Int) Q Q eU gy Q Q Q Q (by decide) (fun _ => Q) Q) Q Q Q (ak fun u8 SB => (lZ (LT.kY (enc := aA) Q Q Q eU gy Q (by decide) (by decide) (fun _ => Q) (jF SB)) Q Q Q Q Q Q (aZ (LT.iJ Q iw) Q Q Q (bn (lV (.c (lo 25 ((s1.2 ++ ([k] : List Int)).length))) [lo 25 ((s1.2 ++ ([k] : List Int)).length),sC aO,sC aO] Q Q qR rH) Q Q Q Q Q (On (aB.blk ?_))))))))
   refine en [(1,Cc (xF aF bars)),(2,Iv k),(3,Iv l),(8,Cc (.pl 21 0)),(9,Cc (.pl 22 0)),(13,Iv points),(14,Iv s1.1)] [(21,.row 163 [[sC aO,sC aO,sC aO]]),(22,.row 163 [[lo 25 ((s1.2 ++ ([k] : List Int)).length),sC aO,sC aO]]),(25,pR 3 aA (s1.2 ++ ([k] : List Int)))] z7 z3 (Wr (bG LT.add ah (aN (Iv (aP (s1.1 + 1))) y4 (On (aj Q z7 z3)))))
  ·refine aB.gV Q ⟨Q,aU.of z4 z3⟩
 ·refine Ws (Ws (Wr ?_))
  refine aN (Cc (xF aF bars)) y4 (aZ (LT.jC Q dh) Q Q Q (aN (Iv 0) af (On (aB.block ?_))))
  refine aB.ent (aU.nO 22 1 32 3 Q Q Q Q) (aB.ent (aU.nO 22 2 33 3 Q Q Q Q) (aB.kD (id := 2) (vX bars l) (fun s9 => ([(1,Cc (xF aF bars)),(3,Iv l),(8,Cc (.pl 21 0)),(9,Cc (.pl 22 0)),(24,Iv (bars.length : Int)),(25,Iv s9.1)],[(21,.row 163 [[sC aO,sC aO,sC aO]]),(22,.row 163 [[lo 25 s9.2.1.length,lo 32 s9.2.2.1.length,lo 33 s9.2.2.2.length]]),(25,pR 3 aA s9.2.1),(32,pR 3 aA s9.2.2.1),(33,pR 3 aA s9.2.2.2)])) (fun b22 => ([(8,Cc (.pl 21 0)),(9,Cc (.pl 22 0))],[(21,.row 163 [[sC aO,sC aO,sC aO]]),(22,.row 163 [[lo 25 b22.1.length,lo 32 b22.2.1.length,lo 33 b22.2.2.length]]),(25,pR 3 aA b22.1),(32,pR 3 aA b22.2.1),(33,pR 3 aA b22.2.2)])) ?_ (aU.of z6 z5) Q (fun b22 _ => ?_)))
  ·intro s9
   unfold vX
   refine Ws (Wr ?_)
   refine bG LT.lss y5 (On (Ws ?_))
   refine aB.cond Q (fun QH => ?_) (fun QH => ?_)
   ·refine aB.skip (Ws (aB.block (Ws (Wr ?_))))
    refine aN (Iv s9.1) y4 (aQ (Iv s9.1) y4 (On (Ws (Wr ?_))))
    refine bZ (bW [lo 25 s9.2.1.length,lo 32 s9.2.2.1.length,lo 33 s9.2.2.2.length] Q fJ dB bV) Q Q Q Q (ak fun jv EY => (aT.step (cF [.agg [lo 25 s9.2.1.length,lo 32 s9.2.2.1.length,lo 33 s9.2.2.2.length]] [(25,pR 3 aA s9.2.1),(32,pR 3 aA s9.2.2.1),(33,pR 3 aA s9.2.2.2)] (Fw.Fn.ren [(0,27),(1,28),(2,29)] (WL (aY.mk s9.2.1 s9.2.2.1 s9.2.2.2) jv EY) Q) OQ (.cons (.agg (.cons (.fF Q Q) (.cons (.fF Q Q) (.cons (.fF Q Q) .nil)))) .nil) J y3) z2 z3 Q Q (dX (LT.alloc (n := 30) (cells := [sC aO,sC aO,sC aO]) Q iW Q Q Q) Q Q (bn (stA [lo 27 jv.Free.length,lo 28 jv.aJ.length,lo 29 jv.aI.length] Q Q dB bV) Q Q Q Q Q (On (Ws ?_))))))
    refine en [(1,Cc (xF aF bars)),(3,Iv l),(8,Cc (.pl 21 0)),(9,Cc (.pl 22 0)),(10,Iv s9.1),(11,Cc (.pl 30 0)),(24,Iv (bars.length : Int)),(25,Iv s9.1)] [(21,.row 163 [[sC aO,sC aO,sC aO]]),(22,.row 163 [[lo 25 s9.2.1.length,lo 32 s9.2.2.1.length,lo 33 s9.2.2.2.length]]),(25,pR 3 aA s9.2.1),(27,pR 3 aA jv.Free),(28,pR 3 aA jv.aJ),(29,pR 3 aA jv.aI),(30,.row 163 [[lo 27 jv.Free.length,lo 28 jv.aJ.length,lo 29 jv.aI.length]]),(32,pR 3 aA s9.2.2.1),(33,pR 3 aA s9.2.2.2)] z8 z9 (Wr (aN (Cc (xF aF bars)) y4 (aN (Iv l) y4 (aN (Iv s9.1) y4 (ak fun r25 EZ => (aT.step (cO [.c (xF aF bars),.c (iC l),.c (.pl 30 0),.c (iC s9.1)] (Fw.Fn.ren [(0,30),(1,27),(2,28),(3,29)] (WN bars l jv s9.1 r25 EZ) Q) OT (zI y4) z4 y3) z5 z4 Q Q (On (aB.fG (fun j27 => ([(1,Cc (xF aF bars)),(3,Iv l),(8,Cc (.pl 21 0)),(9,Cc (.pl 22 0)),(24,Iv (bars.length : Int)),(25,Iv s9.1)],[(21,.row 163 [[sC aO,sC aO,sC aO]]),(22,.row 163 [[lo 27 j27.1.length,lo 28 j27.2.1.length,lo 29 j27.2.2.length]]),(27,pR 3 aA j27.1),(28,pR 3 aA j27.2.1),(29,pR 3 aA j27.2.2)])) ?_ (fun j27 _ => ?_)))))))))
    ·refine aB.cond Q (fun hc28 => ?_) (fun hc28 => ?_)
     ·refine Wr (bZ (bW [lo 27 r25.2.Free.length,lo 28 r25.2.aJ.length,lo 29 r25.2.aI.length] Q fJ dB bV) Q Q Q Q (bn (stA [lo 27 r25.2.Free.length,lo 28 r25.2.aJ.length,lo 29 r25.2.aI.length] Q Q dB bV) Q Q Q Q Q (On (aj Q z6 z5))))
     ·refine aB.skip (en [(1,Cc (xF aF bars)),(3,Iv l),(8,Cc (.pl 21 0)),(9,Cc (.pl 22 0)),(24,Iv (bars.length : Int)),(25,Iv s9.1)] [(21,.row 163 [[sC aO,sC aO,sC aO]]),(22,.row 163 [[lo 25 s9.2.1.length,lo 32 s9.2.2.1.length,lo 33 s9.2.2.2.length]]),(25,pR 3 aA s9.2.1),(32,pR 3 aA s9.2.2.1),(33,pR 3 aA s9.2.2.2)] z6 z5 (aB.ent (aU.mv 25 27 Q Q) (aB.ent (aU.mv 32 28 Q Q) (aB.ent (aU.mv 33 29 Q Q) (aj Q z6 z5)))))
    ·refine aB.blk (Wr ?_)
     refine bG LT.add ah (aN (Iv (aP (s9.1 + 1))) y4 (On (en [(1,Cc (xF aF bars)),(3,Iv l),(8,Cc (.pl 21 0)),(9,Cc (.pl 22 0)),(24,Iv (bars.length : Int)),(25,Iv (aP (s9.1 + 1)))] [(21,.row 163 [[sC aO,sC aO,sC aO]]),(22,.row 163 [[lo 27 j27.1.length,lo 28 j27.2.1.length,lo 29 j27.2.2.length]]),(27,pR 3 aA j27.1),(28,pR 3 aA j27.2.1),(29,pR 3 aA j27.2.2)] z6 z5 (aB.ent (aU.mv 27 25 Q Q) (aB.ent (aU.mv 28 32 Q Q) (aB.ent (aU.mv 29 33 Q Q) (aj Q z6 z5)))))))
   ·refine aB.gV Q ⟨Q,aU.of z2 z5⟩
  ·refine Ws (Wr ?_)
   refine bZ (bW [lo 25 b22.1.length,lo 32 b22.2.1.length,lo 33 b22.2.2.length] Q fJ dB bV) Q Q Q Q (bn (stA [lo 25 b22.1.length,lo 32 b22.2.1.length,lo 33 b22.2.2.length] Q Q dB bV) Q Q Q Q Q (On (en [(8,Cc (.pl 21 0))] [(21,.row 163 [[lo 25 b22.1.length,lo 32 b22.2.1.length,lo 33 b22.2.2.length]]),(25,pR 3 aA b22.1),(32,pR 3 aA b22.2.1),(33,pR 3 aA b22.2.2)] z1 z4 (aB.ent (aU.mv 25 0 Q Q) (aB.ent (aU.mv 32 1 Q Q) (aB.ent (aU.mv 33 2 Q Q) (en [(8,Cc (.pl 21 0))] [(0,pR 3 aA b22.1),(1,pR 3 aA b22.2.1),(2,pR 3 aA b22.2.2),(21,.row 163 [[lo 0 b22.1.length,lo 1 b22.2.1.length,lo 2 b22.2.2.length]])] z1 z4 (aB.ret (ay.mk (.inr Q) ⟨⟨_,_,_,Q,Q,Q,fJ,bV,_,dR dB⟩,J⟩ z3 Q ⟨⟨J,J,J,J⟩,J⟩ ⟨bK.bY dK,bK.bY dK,bK.bY dK,J⟩)))))))))
theorem MJ (points : Int) (bars : (List aK)) : FT Try.prog (vU points bars) 196 [.c (iC points),.c (xF aF bars)] [] (fun (t : Int) => [.c (iC t)]) (fun (t : Int) => []) [] := by
 refine FT.of [] Try.func196 Try.ntmps196 Q y2 ?_
 intro w0 U0 R0 g0
 unfold vU
 refine Ws (Wr ?_)
 refine aQ (Iv 0) af (On (Ws (Wr ?_)))
 refine aN (Iv points) y4 (aN (Cc (xF aF bars)) y4 (ak fun r1 hr1 => (aT.step (cO [.c (iC points),.c (xF aF bars),.c (iC 2),.c (iC 3)] (Fw.Fn.ren [(0,22),(1,23),(2,24)] (MK points bars 2 3 r1 hr1) Q) IB (zI y4) J y3) ⟨Q,Q,Q,y2,y2,J⟩ J Q Q (aZ (LT.PI (c := (lo 24 r1.aI.length)) Q PW dP Q) Q Q Q (aZ (LT.oG Q eU) Q Q Q (aQ (Iv (r1.aI.length : Int)) y4 (On (aB.ret (ay.mk (.inr Q) z1 J Q ⟨bI.sc,J⟩ J)))))))))
theorem WO (points : Int) (bars : (List aK)) (x : aK) : FT Try.prog (yM points bars x) 176 [.c (iC points),.c (xF aF bars),.agg [iC x.A,iC x.B]] [] (fun (t : Bool) => [.c (bC t)]) (fun (t : Bool) => []) [] := by
 refine FT.of [] Try.func176 Try.ntmps176 Q y2 ?_
 intro w0 U0 R0 g0
 unfold yM
 refine Ws (Wr ?_)
 refine dG (LT.box (n := 21) (v := (.agg [iC x.A,iC x.B])) Q dD (by exact Q)) Q Q Q (aQ (Bv false) af (On (Ws (aB.draw mixed ?_))))
 refine bf (Iv points) y4 (rP (LT.gJ (n := 22) (enc := aF) [] ([] : List aK) Q Q dh fC Q Q Q Q (by decide) (fun _ => Q) Q) Q Q (bf (Cc (xF aF bars)) y4 (aS.bind fun u1 hu1 => (kQ (LT.rM (enc := aF) Q  Q dh fC Q (by decide) (by decide) (fun _ => Q) (jF hu1)) Q Q Q Q Q (fZ (bW [iC x.A,iC x.B] Q ig gQ dD) Q Q Q Q (DT (LT.gJ (n := 23) (enc := aF) [(0,.tmp 11,.agg [iC x.A,iC x.B])] [x] Q Q dh fC Q Q Q Q (by decide) (fun _ => Q) Q) Q Q Q (aS.bind fun u2 hu2 => (DU (LT.kY (enc := aF) Q Q Q dh fC Q (by decide) (by decide) (fun _ => Q) (jF hu2)) Q Q Q Q Q Q (aS.bind fun r3 hr3 => (aS.pure (cF [.c (iC points),.c (lo 22 (((([] : List aK) ++ bars) ++ [x]).length))] [(22,pR 96 aF ((([] : List aK) ++ bars) ++ [x]))] (MJ points ((([] : List aK) ++ bars) ++ [x]) r3 hr3) H9 (.cons (.c (.same Q)) (.cons (.c (.fF Q Q)) .nil)) J y3) z3 z1 Q Q (bf (Iv points) y4 ?_)))))))))))
 refine bf (Cc (xF aF bars)) y4 (aS.bind fun r4 hr4 => (aS.pure (cO [.c (iC points),.c (xF aF bars)] (MJ points bars r4 hr4) H9 (nS y2) J y3) z3 J Q Q (jP LT.gtr y5 (bg (LT.assign (v := (Bv (decide (r4 < r3)))) Q) Q Q Q (aS.nil (by kernel_rfl) (aB.ret (ay.mk (.inr Q) z1 J Q ⟨bI.sc,J⟩ J)))))))
theorem WA (g : aX) (a : Int) (b : Int) : FT Try.prog (yG g a b) 120 [.agg [iC g.aH,xF aF g.aC],.c (iC a),.c (iC b)] [] (fun (t : Bool) => [.c (bC t)]) (fun (t : Bool) => []) [] := by
 refine FT.of [] Try.func120 Try.ntmps120 Q y2 ?_
 intro w0 U0 R0 g0
 unfold yG
 refine Ws (Wr ?_)
 refine dG (LT.box (n := 21) (v := (.agg [iC g.aH,xF aF g.aC])) Q bM (by exact Q)) Q Q Q (aQ (Bv false) af (On (Ws ?_)))
 refine aB.fG (fun j10 => ([(6,Bv j10)],[])) ?_ (fun j10 _ => ?_)
 ·refine aB.draw mixed (fZ (bW [iC g.aH,xF aF g.aC] Q dw dN bM) Q Q Q Q (aS.bind fun r11 Qk => (aS.pure (cO [.agg [iC g.aH,xF aF g.aC]] (CY g r11 Qk) zq (jl y2) J y3) z2 J Q Q (bf (Bv r11) y4 (aS.split (fun o6 => ?_) (fun o6 => ?_))))))
  ·refine fZ (bW [iC g.aH,xF aF g.aC] Q dw dN bM) Q Q (gH o6 Q Q) Q (iY (Iv a) o6 y5 (aS.bind fun r13 xY => (aS.pure (cO [.agg [iC g.aH,xF aF g.aC],.c (iC a)] (MF g a r13 xY) Hy (rF y3) J y3) z3 J (gH o6 Q Q) Q (jG (Bv r13) o6 y5 (bf (Bv r13) y4 (aS.split (fun jg => ?_) (fun jg => ?_)))))))
   ·refine fZ (bW [iC g.aH,xF aF g.aC] Q dw dN bM) Q Q (gH jg Q Q) Q (iY (Iv b) jg y5 (aS.bind fun gu EW => (aS.pure (cO [.agg [iC g.aH,xF aF g.aC],.c (iC b)] (MF g b gu EW) Hy (rF y3) J y3) z3 J (gH jg Q Q) Q (jG (Bv gu) jg y5 (bf (Bv gu) y4 (aS.split (fun hb16 => ?_) (fun hb16 => ?_)))))))
    ·refine iY (Iv a) hb16 y5 (iY (Iv b) hb16 y5 (jm LT.eql hb16 y6 (iY (Bv (a == b)) hb16 y5 (aS.split (fun kK => ?_) (fun kK => ?_)))))
     ·refine ai kK y3 (ai kK y3 (ai kK y3 (ai kK y3 (ai kK y3 (ai kK y3 (ai kK y3 (ai kK y3 (ai kK y3 (eu (LT.mW (v := (Bv true)) Q kK) Q y2 (gH hb16 Q Q) Q (jG (Bv true) hb16 y5 (bg (LT.assign (v := (Bv true)) Q) Q Q Q ?_)))))))))))
      refine aS.nil (by kernel_rfl) (aj Q z1 J)
     ·refine jY (iC g.aH) iy bD kK eG (jY (xF aF g.aC) dZ eH kK eG (iY (Iv a) kK y5 (iY (Iv b) kK y5 (aS.bind fun wR Qp => (aS.pure (cO [.c (iC a),.c (iC b)] (WI a b wR Qp) OB (nS y2) J y3) z3 J (gH kK Q Q) Q (aS.bind fun iD xZ => (aS.pure (cO [.c (iC g.aH),.c (xF aF g.aC),.agg [iC wR.A,iC wR.B]] (WO g.aH g.aC wR iD xZ) OA (VK y4) J y3) z4 J (gH kK Q Q) Q (bg (LT.not Q) Q (gH kK Q Q) Q (eu (LT.mV (v := (Bv (!iD))) Q kK) Q Q (gH hb16 Q Q) Q ?_)))))))))
      refine jG (Bv (!iD)) hb16 y5 (bg (LT.assign (v := (Bv (!iD))) Q) Q Q Q (aS.nil (by kernel_rfl) (aj Q z1 J)))
    ·refine ai hb16 y3 (ai hb16 y3 (ai hb16 y3 (ai hb16 y3 (aV y3 (aV y3 (aV y3 (aV y3 (aV y3 (aV y3 (aV y3 (aV y3 ?_)))))))))))
     refine aV y3 (ai hb16 y3 (jM (Bv false) hb16 ah (bg (LT.assign (v := (Bv false)) Q) Q Q Q (aS.nil (by kernel_rfl) (aj Q z1 J)))))
   ·refine ai jg y3 (ai jg y3 (ai jg y3 (jM (Bv false) jg ah (bf (Bv false) y4 (aV y3 (aV y3 (aV y3 (aV y3 (aV y3 (aV y3 (aV y3 ?_)))))))))))
    refine aV y3 (aV y3 (aV y3 (aV y3 (aV y3 (aV y3 (aV y3 (jM (Bv false) Q ah (bg (LT.assign (v := (Bv false)) Q) Q Q Q (aS.nil (by kernel_rfl) (aj Q z1 J))))))))))
  ·refine ai o6 y3 (ai o6 y3 (ai o6 y3 (jM (Bv false) o6 ah (bf (Bv false) y4 (aV y3 (aV y3 (aV y3 (jM (Bv false) Q ah (bf (Bv false) y4 (aV y3 (aV y3 ?_)))))))))))
   refine aV y3 (aV y3 (aV y3 (aV y3 (aV y3 (aV y3 (aV y3 (aV y3 (aV y3 (aV y3 (aV y3 (aV y3 ?_)))))))))))
   refine jM (Bv false) Q ah (bg (LT.assign (v := (Bv false)) Q) Q Q Q (aS.nil (by kernel_rfl) (aj Q z1 J)))
 ·refine aB.ret (ay.mk (.inr Q) z1 J Q ⟨bI.sc,J⟩ J)
theorem WZ (x : List aK) : ∀ t,yV x = some t → Fw.Fn Try.prog 178 [.c (.loc 0 0 x.length),.c (.fn 179 [])] [(0,pR 96 aF x)] (.cZ []) [(0,pR 96 aF t)] [0] [] := fun t h => VU x t h
theorem WQ (g : aX) (l : (List aK)) : FT Try.prog (yN g l) 121 [.agg [iC g.aH,xF aF g.aC],.c (xF aF l)] [] (fun (t : aX) => [.agg [iC t.aH,lo 0 t.aC.length]]) (fun (t : aX) => [(0,pR 96 aF t.aC)]) [0] := by
 refine FT.of [] Try.func121 Try.ntmps121 Q y2 ?_
 intro w0 U0 R0 g0
 unfold yN
 refine Ws (Wr ?_)
 refine dG (LT.box (n := 21) (v := (.agg [iC g.aH,xF aF g.aC])) Q bM (by exact Q)) Q Q Q (dX (LT.alloc (n := 22) (cells := [iC 0,sC aO]) Q lW Q Q Q) Q Q (On (Ws (Wr ?_))))
 refine bZ (bW [iC g.aH,xF aF g.aC] Q dw dN bM) Q Q Q Q (ak fun r1 hr1 => (aT.step (cO [.agg [iC g.aH,xF aF g.aC]] (Fw.Fn.ren [(0,24)] (MH g r1 hr1) Q) Hw (jl y2) J y3) z2 J Q Q (dX (LT.alloc (n := 25) (cells := [iC 0,sC aO]) Q lW Q Q Q) Q Q (bn (stA [iC r1.aH,lo 24 r1.aC.length] Q Q dN bM) Q Q Q Q Q (On (Ws ?_))))))
 refine en [(1,Cc (xF aF l)),(4,Cc (.pl 22 0)),(5,Cc (.pl 25 0))] [(22,.row 26 [[iC 0,sC aO]]),(24,pR 96 aF r1.aC),(25,.row 26 [[iC r1.aH,lo 24 r1.aC.length]])] z3 z3 (Wr (bU (lo 24 r1.aC.length) dZ eH bF (aN (Cc (xF aF l)) y4 (ak fun u2 hu2 => (bn (LT.rM (enc := aF) Q  Q dh fC Q (by decide) (by decide) (fun _ => Q) (jF hu2)) Q Q Q Q Q (aZ (LT.iJ Q dZ) Q Q Q (bn (lV (.c (lo 24 ((r1.aC ++ l).length))) [iC r1.aH,lo 24 ((r1.aC ++ l).length)] Q Q xu zK) Q Q Q Q Q (On (Ws (Wr ?_))))))))))
 refine bU (lo 24 ((r1.aC ++ l).length)) dZ eH bF (ak fun r3 hr3 => (aT.step (cO [.c (lo 24 ((r1.aC ++ l).length)),.c (.fn 179 [])] (Fw.Fn.ren [(0,24)] (WZ (r1.aC ++ l) r3 hr3) Q) OD (nS y2) z1 y3) z3 z1 Q Q (On (Ws ?_))))
 refine en [(4,Cc (.pl 22 0)),(5,Cc (.pl 25 0))] [(22,.row 26 [[iC 0,sC aO]]),(24,pR 96 aF r3),(25,.row 26 [[iC r1.aH,lo 24 ((r1.aC ++ l).length)]])] z2 z3 (Wr (bZ (bW [iC r1.aH,lo 24 ((r1.aC ++ l).length)] Q dw dN bM) Q Q Q Q (bn (stA [iC r1.aH,lo 24 ((r1.aC ++ l).length)] Q Q dN bM) Q Q Q Q Q (On (aB.bind fun u4 Rq => (en [(4,Cc (.pl 22 0))] [(22,.row 26 [[iC r1.aH,lo 24 ((r1.aC ++ l).length)]]),(24,pR 96 aF r3)] z1 z2 (aB.ent (aU.mv 24 0 Q Q) (en [(4,Cc (.pl 22 0))] [(0,pR 96 aF r3),(22,.row 26 [[iC r1.aH,lo 0 r3.length]])] z1 ⟨Q,congrArg (fun l1 => (some (Ob.row 26 [[iC r1.aH,lo 0 l1]]) : Option Ob)) (same_eq Rq),J⟩ (aB.ret (ay.mk (.inr Q) ⟨⟨_,_,_,Q,Q,Q,dw,bM,_,dR dN⟩,J⟩ z1 Q ⟨⟨bI.sc,J,J⟩,J⟩ ⟨bK.bY mJ,J⟩))))))))))
theorem WB (k : Int) (l : Int) : FT Try.prog (yH k l) 228 [.c (iC k),.c (iC l)] [] (fun (t : Bool) => [.c (bC t)]) (fun (t : Bool) => []) [] := by
 refine FT.of [] Try.func228 Try.ntmps228 Q y2 ?_
 intro w0 U0 R0 g0
 unfold yH
 refine Ws (Wr ?_)
 refine aQ (Bv false) af (On (Ws ?_))
 refine aB.fG (fun j4 => ([(4,Bv j4)],[])) ?_ (fun j4 _ => ?_)
 ·refine Wr (aN (Iv k) y4 (ak fun r5 pI => (aT.pure (cO [.c (iC k),.c (iC 1),.c (iC 3)] (CZ k 1 3 r5 pI) zu (rE y3) J y3) ⟨Q,Q,y2,y2,J⟩ J Q Q (aN (Bv r5) y4 (aT.split (fun hb6 => ?_) (fun hb6 => ?_))))))
  ·refine dY (Iv l) hb6 y5 (dY (Iv k) hb6 y5 (iE LT.mul hb6 MB (iE LT.sub hb6 kN (ak fun r7 pJ => (aT.pure (cO [.c (iC l),.c (iC 0),.c (iC (aP ((aP (2 * k)) - 1)))] (CZ l 0 (aP ((aP (2 * k)) - 1)) r7 pJ) zu (rE y3) J y3) ⟨Q,Q,y2,Q,J⟩ J (gH hb6 Q Q) Q (eF (Bv r7) hb6 y5 (aQ (Bv r7) y4 (On (aj Q z1 J)))))))))
  ·refine aW hb6 y5 (aW hb6 y5 (aW hb6 y5 (aW hb6 y5 (aW hb6 y5 (fD (Bv false) hb6 ah (aQ (Bv false) y4 (On (aj Q z1 J))))))))
 ·refine aB.ret (ay.mk (.inr Q) z1 J Q ⟨bI.sc,J⟩ J)
theorem WH (g : aX) (k : Int) (l : Int) : FT Try.prog (yK g k l) 217 [.agg [iC g.aH,xF aF g.aC],.c (iC k),.c (iC l)] [] (fun (t : (aY × Bool)) => [.agg [lo 0 t.1.Free.length,lo 1 t.1.aJ.length,lo 2 t.1.aI.length],.c (bC t.2)]) (fun (t : (aY × Bool)) => [(0,pR 3 aA t.1.Free),(1,pR 3 aA t.1.aJ),(2,pR 3 aA t.1.aI)]) [0,1,2] := by
 refine FT.of [] Try.func217 Try.ntmps217 Q y2 ?_
 intro w0 U0 R0 g0
 unfold yK
 refine Ws (Wr ?_)
 refine dG (LT.box (n := 21) (v := (.agg [iC g.aH,xF aF g.aC])) Q bM (by exact Q)) Q Q Q (dX (LT.alloc (n := 22) (cells := [sC aO,sC aO,sC aO]) Q iW Q Q Q) Q Q (aQ (Bv false) af (On (Ws (Ws ?_)))))
 refine aB.fG (fun j4 => ([(1,Iv k),(2,Iv l),(3,Cc (.pl 21 0)),(6,Cc (.pl 22 0)),(16,Bv j4)],[(21,.row 26 [[iC g.aH,xF aF g.aC]]),(22,.row 163 [[sC aO,sC aO,sC aO]])])) ?_ (fun j4 _ => ?_)
 ·refine Wr (bZ (bW [iC g.aH,xF aF g.aC] Q dw dN bM) Q Q Q Q (ak fun r5 pI => (aT.pure (cO [.agg [iC g.aH,xF aF g.aC]] (CY g r5 pI) zq (jl y2) J y3) z2 J Q Q (aZ (LT.not Q) Q Q Q (aN (Bv (!r5)) y4 (aT.split (fun hb6 => ?_) (fun hb6 => ?_)))))))
  ·refine aW hb6 y5 (aW hb6 y5 (aW hb6 y5 (aW hb6 y5 (eF (Bv true) hb6 ah (On (aj Q z5 z2))))))
  ·refine dY (Iv k) hb6 y5 (dY (Iv l) hb6 y5 (ak fun r7 pJ => (aT.pure (cO [.c (iC k),.c (iC l)] (WB k l r7 pJ) OU (nS y2) J y3) z3 J (gH hb6 Q Q) Q (aZ (LT.not Q) Q (gH hb6 Q Q) Q (fD (Bv (!r7)) hb6 y5 (On (aj Q z5 z2)))))))
 ·refine aB.cond Q (fun hc8 => ?_) (fun hc8 => ?_)
  ·refine Ws (Wr ?_)
   refine zf (LT.build [] Q Q uH iW Q Q Q) Q Q (bn (stA [sC aO,sC aO,sC aO] Q Q dB bV) Q Q Q Q Q (aQ (Bv false) af (On (aB.ent (aU.nO 22 0 0 3 Q Q Q Q) (aB.ent (aU.nO 22 1 1 3 Q Q Q Q) (aB.ent (aU.nO 22 2 2 3 Q Q Q Q) (en [(6,Cc (.pl 22 0)),(7,Bv false)] [(0,pR 3 aA ([] : List Int)),(1,pR 3 aA ([] : List Int)),(2,pR 3 aA ([] : List Int)),(22,.row 163 [[lo 0 (([] : List Int).length),lo 1 (([] : List Int).length),lo 2 (([] : List Int).length)]])] z2 z4 (aB.ret (ay.mk (.inr Q) ⟨⟨_,_,_,Q,Q,Q,fJ,bV,_,dR dB⟩,Q,J⟩ z3 Q ⟨⟨J,J,J,J⟩,bI.sc,J⟩ ⟨bK.bY dK,bK.bY dK,bK.bY dK,J⟩)))))))))
  ·refine aB.skip (Ws (Wr ?_))
   refine bU (iC g.aH) iy bD bF (bU (xF aF g.aC) dZ eH bF (aN (Iv k) y4 (aN (Iv l) y4 (ak fun r9 Eb => (aT.step (cO [.c (iC g.aH),.c (xF aF g.aC),.c (iC k),.c (iC l)] (Fw.Fn.ren [(0,26),(1,27),(2,28)] (MK g.aH g.aC k l r9 Eb) Q) IB (zI y4) J y3) z5 J Q Q (bn (stA [lo 26 r9.Free.length,lo 27 r9.aJ.length,lo 28 r9.aI.length] Q Q dB bV) Q Q Q Q Q (aQ (Bv true) af (On (en [(6,Cc (.pl 22 0)),(7,Bv true)] [(22,.row 163 [[lo 26 r9.Free.length,lo 27 r9.aJ.length,lo 28 r9.aI.length]]),(26,pR 3 aA r9.Free),(27,pR 3 aA r9.aJ),(28,pR 3 aA r9.aI)] z2 z4 ?_)))))))))
   refine aB.ent (aU.mv 26 0 Q Q) (aB.ent (aU.mv 27 1 Q Q) (aB.ent (aU.mv 28 2 Q Q) (en [(6,Cc (.pl 22 0)),(7,Bv true)] [(0,pR 3 aA r9.Free),(1,pR 3 aA r9.aJ),(2,pR 3 aA r9.aI),(22,.row 163 [[lo 0 r9.Free.length,lo 1 r9.aJ.length,lo 2 r9.aI.length]])] z2 z4 (aB.ret (ay.mk (.inr Q) ⟨⟨_,_,_,Q,Q,Q,fJ,bV,_,dR dB⟩,Q,J⟩ z3 Q ⟨⟨J,J,J,J⟩,bI.sc,J⟩ ⟨bK.bY dK,bK.bY dK,bK.bY dK,J⟩)))))
end Go.Proofs.Ytdmlaldifbmkpaa
end
section
set_option linter.unusedVariables false
set_option linter.unusedSimpArgs false
set_option linter.unnecessarySimpa false
set_option maxRecDepth 100000
set_option maxHeartbeats 8000000
open Go Go.Fw
namespace Go.Proofs.Ytdmlaldifbmkpaa
theorem WG (g : aX) (k : Int) (l : Int) : FT Try.prog (yJ g k l) 200 [.agg [iC g.aH,xF aF g.aC],.c (iC k),.c (iC l)] [] (fun (t : Int) => [.c (iC t)]) (fun (t : Int) => []) [] := by
 refine FT.of [] Try.func200 Try.ntmps200 Q y2 ?_
 intro w0 U0 R0 g0
 unfold yJ
 refine Ws (Wr ?_)
 refine dG (LT.box (n := 21) (v := (.agg [iC g.aH,xF aF g.aC])) Q bM (by exact Q)) Q Q Q (aQ (Iv 0) af (On (Ws (Wr ?_))))
 refine bZ (bW [iC g.aH,xF aF g.aC] Q dw dN bM) Q Q Q Q (aN (Iv k) y4 (aN (Iv l) y4 (ak fun r1 hr1 => (aT.step (cO [.agg [iC g.aH,xF aF g.aC],.c (iC k),.c (iC l)] (Fw.Fn.ren [(0,23),(1,24),(2,25)] (WH g k l r1 hr1) Q) OL (wW y4) J y3) z4 J Q Q (aN (.cZ [.agg [lo 23 r1.1.Free.length,lo 24 r1.1.aJ.length,lo 25 r1.1.aI.length],.c (bC r1.2)]) y4 (aZ (LT.extract (v := (.agg [lo 23 r1.1.Free.length,lo 24 r1.1.aJ.length,lo 25 r1.1.aI.length])) Q (by exact Q)) Q Q Q (aZ (LT.extract (v := (.c (bC r1.2))) Q (by exact Q)) Q Q Q (dX (LT.alloc (n := 26) (cells := [sC aO,sC aO,sC aO]) Q iW Q Q Q) Q Q (bn (stA [lo 23 r1.1.Free.length,lo 24 r1.1.aJ.length,lo 25 r1.1.aI.length] Q Q dB bV) Q Q Q Q Q (aQ (Bv r1.2) y4 (On (Ws (Ws ?_)))))))))))))
 refine en [(7,Cc (.pl 26 0)),(8,Bv r1.2)] [(23,pR 3 aA r1.1.Free),(24,pR 3 aA r1.1.aJ),(25,pR 3 aA r1.1.aI),(26,.row 163 [[lo 23 r1.1.Free.length,lo 24 r1.1.aJ.length,lo 25 r1.1.aI.length]])] z2 z4 (Wr (aN (Bv r1.2) y4 (aZ (LT.not Q) Q Q Q (On (aB.cond Q (fun hc2 => ?_) (fun hc2 => ?_))))))
 ·refine Ws (Wr ?_)
  refine aQ (Iv (-1)) af (On (aB.ret (ay.mk (.inr Q) z1 J Q ⟨bI.sc,J⟩ J)))
 ·refine aB.skip (Ws (Wr ?_))
  refine bU (lo 25 r1.1.aI.length) jq dP bF (aZ (LT.oG Q eU) Q Q Q (aQ (Iv (r1.1.aI.length : Int)) y4 (On (aB.ret (ay.mk (.inr Q) z1 J Q ⟨bI.sc,J⟩ J)))))
theorem V9 (g : aX) : FT Try.prog (yF g) 180 [.agg [iC g.aH,xF aF g.aC]] [] (fun (t : Int) => [.c (iC t)]) (fun (t : Int) => []) [] := by
 refine FT.of [] Try.func180 Try.ntmps180 Q y2 ?_
 intro w0 U0 R0 g0
 unfold yF
 refine Ws (Wr ?_)
 refine dG (LT.box (n := 21) (v := (.agg [iC g.aH,xF aF g.aC])) Q bM (by exact Q)) Q Q Q (aQ (Iv 0) af (On (Ws (Ws (Wr ?_)))))
 refine bZ (bW [iC g.aH,xF aF g.aC] Q dw dN bM) Q Q Q Q (ak fun r1 hr1 => (aT.pure (cO [.agg [iC g.aH,xF aF g.aC]] (CY g r1 hr1) zq (jl y2) J y3) z2 J Q Q (aZ (LT.not Q) Q Q Q (On (aB.cond Q (fun hc2 => ?_) (fun hc2 => ?_))))))
 ·refine Ws (Wr ?_)
  refine aQ (Iv (-1)) af (On (aB.ret (ay.mk (.inr Q) z1 J Q ⟨bI.sc,J⟩ J)))
 ·refine aB.skip (Ws (aB.draw mixed ?_))
  refine fQ (iC g.aH) iy bD bF (jP LT.mul CX (jP LT.sub ah (jP LT.max CX (fZ (bW [iC g.aH,xF aF g.aC] Q dw dN bM) Q Q Q Q (aS.bind fun r3 hr3 => (aS.pure (cO [.agg [iC g.aH,xF aF g.aC],.c (iC 2),.c (iC 3)] (WG g 2 3 r3 hr3) OI (wW y4) J y3) ⟨Q,Q,y2,y2,J⟩ J Q Q (jP LT.sub y5 (bg (LT.assign (v := (Iv (aP ((if 0 < (aP ((aP (2 * g.aH)) - 3)) then (aP ((aP (2 * g.aH)) - 3)) else 0) - r3)))) Q) Q Q Q (aS.nil (by kernel_rfl) (aB.ret (ay.mk (.inr Q) z1 J Q ⟨bI.sc,J⟩ J)))))))))))
theorem WC (g : aX) : FT Try.prog (yI g) 122 [.agg [iC g.aH,xF aF g.aC]] [] (fun (t : Bool) => [.c (bC t)]) (fun (t : Bool) => []) [] := by
 refine FT.of [] Try.func122 Try.ntmps122 Q y2 ?_
 intro w0 U0 R0 g0
 unfold yI
 refine Ws (Wr ?_)
 refine dG (LT.box (n := 21) (v := (.agg [iC g.aH,xF aF g.aC])) Q bM (by exact Q)) Q Q Q (aQ (Bv false) af (On (Ws (Wr ?_))))
 refine bZ (bW [iC g.aH,xF aF g.aC] Q dw dN bM) Q Q Q Q (ak fun r1 hr1 => (aT.pure (cO [.agg [iC g.aH,xF aF g.aC]] (V9 g r1 hr1) OG (jl y2) J y3) z2 J Q Q (bG LT.eql ah (aQ (Bv (r1 == 0)) y4 (On (aB.ret (ay.mk (.inr Q) z1 J Q ⟨bI.sc,J⟩ J)))))))
theorem MC (g : aX) : FT Try.prog (sS g) 42 [.agg [iC g.aH,xF aF g.aC]] [] (fun (t : ((List aK) × Bool)) => [.c (lo 0 t.1.length),.c (bC t.2)]) (fun (t : ((List aK) × Bool)) => [(0,pR 96 aF t.1)]) [0] := by
 refine FT.of [] Try.func42 Try.ntmps42 Q y2 ?_
 intro w0 U0 R0 g0
 unfold sS
 refine Ws (Wr ?_)
 refine dG (LT.box (n := 21) (v := (.agg [iC g.aH,xF aF g.aC])) Q bM (by exact Q)) Q Q Q (aQ (Cc (sC aO)) af (aQ (Bv false) af (On (Ws (Wr ?_)))))
 refine dX (LT.gJ (n := 22) (enc := aF) [] ([] : List aK) Q Q dh fC Q Q Q Q (by decide) (fun _ => Q) Q) Q Q (aQ (Cc (lo 22 (([] : List aK).length))) y4 (On (Ws (Wr ?_))))
 refine bZ (bW [iC g.aH,xF aF g.aC] Q dw dN bM) Q Q Q Q (ak fun r1 hr1 => (aT.step (cO [.agg [iC g.aH,xF aF g.aC]] (Fw.Fn.ren [(0,24)] (MH g r1 hr1) Q) Hw (jl y2) J y3) z2 J Q Q (dX (LT.alloc (n := 25) (cells := [iC 0,sC aO]) Q lW Q Q Q) Q Q (bn (stA [iC r1.aH,lo 24 r1.aC.length] Q Q dN bM) Q Q Q Q Q (On (Ws (Ws ?_)))))))
 refine en [(1,Cc (.pl 21 0)),(4,Cc (lo 22 (([] : List aK).length))),(5,Cc (.pl 25 0))] [(21,.row 26 [[iC g.aH,xF aF g.aC]]),(22,pR 96 aF ([] : List aK)),(24,pR 96 aF r1.aC),(25,.row 26 [[iC r1.aH,lo 24 r1.aC.length]])] z3 z4 (Wr (bZ (bW [iC g.aH,xF aF g.aC] Q dw dN bM) Q Q Q Q (ak fun r2 hr2 => (aT.step (cO [.agg [iC g.aH,xF aF g.aC]] (Fw.Fn.ren [(0,27)] (WE g r2 hr2) Q) Ns (jl y2) J y3) z2 J Q Q (aZ (LT.oG Q dh) Q Q Q (aN (Iv 0) af (On (aB.block ?_))))))))
 refine aB.kD (id := 0) (vN r2) (fun s3 => ([(4,Cc (lo 22 s3.2.1.length)),(5,Cc (.pl 25 0)),(12,Cc (lo 27 r2.length)),(13,Iv (r2.length : Int)),(14,Iv s3.1)],[(22,pR 96 aF s3.2.1),(24,pR 96 aF s3.2.2.2),(25,.row 26 [[iC s3.2.2.1,lo 24 s3.2.2.2.length]]),(27,pR 96 aF r2)])) (fun b32 => ([(4,Cc (lo 22 b32.1.length)),(5,Cc (.pl 25 0))],[(22,pR 96 aF b32.1),(24,pR 96 aF b32.2.1),(25,.row 26 [[iC b32.2.2,lo 24 b32.2.1.length]])])) ?_ (aU.of z5 z4) Q (fun b32 _ => ?_)
 ·intro s3
  unfold vN
  refine Ws (Wr ?_)
  refine bG LT.lss y5 (On (Ws ?_))
  refine aB.cond Q (fun EI => ?_) (fun EI => ?_)
  ·refine aB.skip (Ws (aB.block (Ws (Wr ?_))))
   refine ak fun x34 hx34 => (jJ (LT.fK Q Q gB hx34) Q Q Q Q Q (bZ (LT.Gg Q ig (dR gQ) dD hx34 (by exact Q) (by exact Q)) Q Q Q Q (dX (LT.alloc (n := 28) (cells := [iC 0,iC 0]) Q fC Q Q Q) Q Q (bn (stA [iC x34.A,iC x34.B] Q Q gQ dD) Q Q Q Q Q (On (Ws ?_))))))
   refine aB.fG (fun j37 => ([(4,Cc (lo 22 s3.2.1.length)),(5,Cc (.pl 25 0)),(7,Cc (.pl 28 0)),(12,Cc (lo 27 r2.length)),(13,Iv (r2.length : Int)),(14,Iv s3.1),(30,Bv j37)],[(22,pR 96 aF s3.2.1),(24,pR 96 aF s3.2.2.2),(25,.row 26 [[iC s3.2.2.1,lo 24 s3.2.2.2.length]]),(27,pR 96 aF r2),(28,.row 96 [[iC x34.A,iC x34.B]])])) ?_ (fun j37 _ => ?_)
   ·refine Wr (bU (lo 24 s3.2.2.2.length) dZ eH bF (aZ (LT.oG Q dh) Q Q Q (bG LT.lss ah (aN (Bv (decide ((s3.2.2.2.length : Int) < 24))) y4 (aT.split (fun jD => ?_) (fun jD => ?_))))))
    ·refine bZ (bW [iC s3.2.2.1,lo 24 s3.2.2.2.length] Q dw dN bM) Q Q (gH jD Q Q) Q (iq (iC x34.A) gI bD jD eG (iq (iC x34.B) iR bD jD eG (ak fun Bc Q8 => (aT.pure (cF [.agg [iC s3.2.2.1,lo 24 s3.2.2.2.length],.c (iC x34.A),.c (iC x34.B)] [(24,pR 96 aF s3.2.2.2)] (WA (aX.mk s3.2.2.1 s3.2.2.2) x34.A x34.B Bc Q8) Nu (.cons (.agg (.cons (.same Q) (.cons (.fF Q Q) .nil))) (.cons (.c (.same Q)) (.cons (.c (.same Q)) .nil))) J y3) z4 z1 (gH jD Q Q) Q (aZ (LT.not Q) Q (gH jD Q Q) Q (eF (Bv (!Bc)) jD y5 (On (aj Q z7 z5))))))))
    ·refine aW jD y5 (aW jD y5 (aW jD y5 (aW jD y5 (aW jD y5 (aW jD y5 (aW jD y5 (fD (Bv false) jD ah (On (aj Q z7 z5)))))))))
   ·refine aB.fG (fun j43 => ([(4,Cc (lo 22 j43.1.length)),(5,Cc (.pl 25 0)),(12,Cc (lo 27 r2.length)),(13,Iv (r2.length : Int)),(14,Iv s3.1)],[(22,pR 96 aF j43.1),(25,.row 26 [[iC j43.2.1,lo 32 j43.2.2.length]]),(27,pR 96 aF r2),(32,pR 96 aF j43.2.2)])) ?_ (fun j43 _ => ?_)
    ·refine aB.cond Q (fun EK => ?_) (fun EK => ?_)
     ·refine Ws (Wr ?_)
      refine bZ (bW [iC s3.2.2.1,lo 24 s3.2.2.2.length] Q dw dN bM) Q Q Q Q (bZ (bW [iC x34.A,iC x34.B] Q ig gQ dD) Q Q Q Q (dG (LT.gJ (n := 30) (enc := aF) [(0,.tmp 32,.agg [iC x34.A,iC x34.B])] [x34] Q Q dh fC Q Q Q Q (by decide) (fun _ => Q) Q) Q Q Q (ak fun qC RD => (aT.step (cF [.agg [iC s3.2.2.1,lo 24 s3.2.2.2.length],.c (lo 30 ([x34].length))] [(24,pR 96 aF s3.2.2.2),(30,pR 96 aF [x34])] (Fw.Fn.ren [(0,32)] (WQ (aX.mk s3.2.2.1 s3.2.2.2) [x34] qC RD) Q) Nv (.cons (.agg (.cons (.same Q) (.cons (.fF Q Q) .nil))) (.cons (.c (.fF Q Q)) .nil)) J y3) z3 z2 Q Q (bn (stA [iC qC.aH,lo 32 qC.aC.length] Q Q dN bM) Q Q Q Q Q (On (en [(4,Cc (lo 22 s3.2.1.length)),(5,Cc (.pl 25 0)),(7,Cc (.pl 28 0)),(12,Cc (lo 27 r2.length)),(13,Iv (r2.length : Int)),(14,Iv s3.1)] [(22,pR 96 aF s3.2.1),(25,.row 26 [[iC qC.aH,lo 32 qC.aC.length]]),(27,pR 96 aF r2),(28,.row 96 [[iC x34.A,iC x34.B]]),(32,pR 96 aF qC.aC)] z6 z5 (Wr (aN (Cc (lo 22 s3.2.1.length)) y4 (bZ (bW [iC x34.A,iC x34.B] Q ig gQ dD) Q Q Q Q (dG (LT.gJ (n := 33) (enc := aF) [(0,.tmp 36,.agg [iC x34.A,iC x34.B])] [x34] Q Q dh fC Q Q Q Q (by decide) (fun _ => Q) Q) Q Q Q ?_)))))))))))
      refine ak fun u46 Rw => (lZ (LT.kY (enc := aF) Q Q Q dh fC Q (by decide) (by decide) (fun _ => Q) (jF Rw)) Q Q Q Q Q Q (aQ (Cc (lo 22 ((s3.2.1 ++ [x34]).length))) y4 (On (aj Q z5 z4))))
     ·refine aB.skip (en [(4,Cc (lo 22 s3.2.1.length)),(5,Cc (.pl 25 0)),(12,Cc (lo 27 r2.length)),(13,Iv (r2.length : Int)),(14,Iv s3.1)] [(22,pR 96 aF s3.2.1),(24,pR 96 aF s3.2.2.2),(25,.row 26 [[iC s3.2.2.1,lo 24 s3.2.2.2.length]]),(27,pR 96 aF r2)] z5 z4 (aB.ent (aU.mv 24 32 Q Q) (aj Q z5 z4)))
    ·refine aB.blk (Wr ?_)
     refine bG LT.add ah (aN (Iv (aP (s3.1 + 1))) y4 (On (en [(4,Cc (lo 22 j43.1.length)),(5,Cc (.pl 25 0)),(12,Cc (lo 27 r2.length)),(13,Iv (r2.length : Int)),(14,Iv (aP (s3.1 + 1)))] [(22,pR 96 aF j43.1),(25,.row 26 [[iC j43.2.1,lo 32 j43.2.2.length]]),(27,pR 96 aF r2),(32,pR 96 aF j43.2.2)] z5 z4 (aB.ent (aU.mv 32 24 Q Q) (aj Q z5 z4)))))
  ·refine aB.gV Q ⟨Q,aU.of z2 z3⟩
 ·refine Ws (Ws (Wr ?_))
  refine bZ (bW [iC b32.2.2,lo 24 b32.2.1.length] Q dw dN bM) Q Q Q Q (ak fun F6 hr47 => (aT.pure (cF [.agg [iC b32.2.2,lo 24 b32.2.1.length]] [(24,pR 96 aF b32.2.1)] (WC (aX.mk b32.2.2 b32.2.1) F6 hr47) Nw (.cons (.agg (.cons (.same Q) (.cons (.fF Q Q) .nil))) .nil) J y3) z2 z1 Q Q (aZ (LT.not Q) Q Q Q (On (aB.cond Q (fun EL => ?_) (fun EL => ?_))))))
  ·refine Ws (Wr ?_)
   refine dX (LT.gJ (n := 35) (enc := aF) [] ([] : List aK) Q Q dh fC Q Q Q Q (by decide) (fun _ => Q) Q) Q Q (aQ (Cc (lo 35 (([] : List aK).length))) y4 (aQ (Bv false) af (On (en [(2,Cc (lo 35 (([] : List aK).length))),(3,Bv false)] [(35,pR 96 aF ([] : List aK))] z2 z1 (aB.ent (aU.mv 35 0 Q Q) (en [(2,Cc (lo 0 (([] : List aK).length))),(3,Bv false)] [(0,pR 96 aF ([] : List aK))] z2 z1 (aB.ret (ay.mk (.inr Q) z2 z1 Q ⟨J,bI.sc,J⟩ ⟨bK.bY mJ,J⟩))))))))
  ·refine aB.skip (Ws (Wr ?_))
   refine aN (Cc (lo 22 b32.1.length)) y4 (aQ (Cc (lo 22 b32.1.length)) y4 (aQ (Bv true) af (On (en [(2,Cc (lo 22 b32.1.length)),(3,Bv true)] [(22,pR 96 aF b32.1)] z2 z1 (aB.ent (aU.mv 22 0 Q Q) (en [(2,Cc (lo 0 b32.1.length)),(3,Bv true)] [(0,pR 96 aF b32.1)] z2 z1 (aB.ret (ay.mk (.inr Q) z2 z1 Q ⟨J,bI.sc,J⟩ ⟨bK.bY mJ,J⟩))))))))
theorem ML (a : (List aK)) (k : Int) : FT Try.prog (vY a k) 47 [.c (xF aF a),.c (iC k)] [] (fun (t : Int) => [.c (iC t)]) (fun (t : Int) => []) [] := by
 refine FT.of [] Try.func47 Try.ntmps47 Q y2 ?_
 intro w0 U0 R0 g0
 unfold vY
 refine Ws (Wr ?_)
 refine aQ (Iv 0) af (On (Ws (Ws (Wr ?_))))
 refine aQ (Iv 0) af (On (aB.block ?_))
 refine aB.nN (id := 0) (vZ a) (fun s1 => ([(0,Cc (xF aF a)),(1,Iv s1.1),(5,Iv s1.2)],[])) (fun b12 => ([(1,Iv b12)],[])) (ay Try.prog Try.f47.results.toList [] [] (fun (t : Int) => [.c (iC t)]) (fun (t : Int) => [])) ?_ (aU.of z3 J) Q (fun b12 _ => ?_) (by intro r t σ m ht hk; injection ht with ht; subst ht; exact hk)
 ·intro s1
  unfold vZ
  refine Ws (Ws (Wr ?_))
  refine aN (Iv s1.2) y4 (aN (Cc (xF aF a)) y4 (aZ (LT.jC Q dh) Q Q Q (bG LT.lss y5 (On (aB.cond Q (fun hc13 => ?_) (fun hc13 => ?_))))))
  ·refine aB.skip (Ws (aB.block (Ws (Ws (Wr ?_)))))
   refine aN (Cc (xF aF a)) y4 (aN (Iv s1.2) y4 (ak fun x14 Ej => (fA (LT.eX (enc := aF) Q gB Ej dD) Q Q Q Q (aZ (LT.ku Q gI) Q Q Q (aZ (LT.iG Q bD) Q Q Q (aN (Iv s1.1) y4 (bG LT.neq y5 (On (aB.cond Q (fun xP => ?_) (fun xP => ?_))))))))))
   ·refine Ws (en [] [] J J (Wr (aQ (Iv (-1)) af (On (aB.ret ⟨Q,ay.mk (.inr Q) z1 J Q ⟨bI.sc,J⟩ J⟩)))))
   ·refine aB.skip (Ws ?_)
    refine en [(0,Cc (xF aF a)),(1,Iv s1.1),(5,Iv s1.2)] [] z3 J (Wr (aN (Iv s1.1) y4 (bG LT.add ah (aQ (Iv (aP (s1.1 + 1))) y4 (On (Ws (Ws (Wr ?_))))))))
    refine aN (Cc (xF aF a)) y4 (aN (Iv s1.2) y4 (ak fun x16 hx16 => (fA (LT.eX (enc := aF) Q gB hx16 dD) Q Q Q Q (aZ (LT.ku Q iR) Q Q Q (aZ (LT.iG Q bD) Q Q Q (aN (Iv (aP (s1.1 + 1))) y4 (bG LT.neq y5 (On (aB.cond Q (fun hc17 => ?_) (fun hc17 => ?_))))))))))
    ·refine Ws (Wr ?_)
     refine aQ (Iv (-1)) af (On (aB.ret ⟨Q,ay.mk (.inr Q) z1 J Q ⟨bI.sc,J⟩ J⟩))
    ·refine aB.skip (Wr ?_)
     refine aN (Iv (aP (s1.1 + 1))) y4 (bG LT.add ah (aQ (Iv (aP ((aP (s1.1 + 1)) + 1))) y4 (On (aB.blk ?_))))
     refine en [(0,Cc (xF aF a)),(1,Iv (aP ((aP (s1.1 + 1)) + 1))),(5,Iv s1.2)] [] z3 J (Wr (aN (Iv s1.2) y4 (bG LT.add ah (aQ (Iv (aP (s1.2 + 1))) y4 (On (aj Q z3 J))))))
  ·refine aB.gV Q ⟨Q,aU.of z1 J⟩
 ·refine Ws (Wr ?_)
  refine aN (Iv b12) y4 (aQ (Iv b12) y4 (On (aB.ret (ay.mk (.inr Q) z1 J Q ⟨bI.sc,J⟩ J))))
theorem WR (aG : aX) : FT Try.prog (A7 aG) 5 [.agg [iC aG.aH,xF aF aG.aC]] [] (fun (t : Bool) => [.c (bC t)]) (fun (t : Bool) => []) [] := by
 refine FT.of [] Try.func5 Try.ntmps5 Q y2 ?_
 intro w0 U0 R0 g0
 unfold A7
 refine Ws (Wr ?_)
 refine dG (LT.box (n := 21) (v := (.agg [iC aG.aH,xF aF aG.aC])) Q rJ (by exact Q)) Q Q Q (aQ (Bv false) af (On (Ws (Wr ?_))))
 refine aQ (Iv 1048576) af (On (Ws (Wr ?_)))
 refine bZ (bW [iC aG.aH,xF aF aG.aC] Q wo xw rJ) Q Q Q Q (aN (Iv 1048576) y4 (ak fun r1 hr1 => (aT.pure (cO [.agg [iC aG.aH,xF aF aG.aC],.c (iC 1048576)] (WW aG 1048576 r1 hr1) OY (rF y3) J y3) z3 J Q Q (aQ (Iv r1) y4 (On (Ws (Ws (Wr ?_))))))))
 refine aN (Iv r1) y4 (bG LT.lss ah (On (aB.cond Q (fun hc2 => ?_) (fun hc2 => ?_))))
 ·refine Ws (en [] [] J J (Wr (aQ (Bv true) af (On (aB.ret (ay.mk (.inr Q) z1 J Q ⟨bI.sc,J⟩ J))))))
 ·refine aB.skip (Ws ?_)
  refine en [(1,Cc (.pl 21 0))] [(21,.row 50 [[iC aG.aH,xF aF aG.aC]])] z1 z1 (Wr (bZ (bW [iC aG.aH,xF aF aG.aC] Q wo xw rJ) Q Q Q Q (ak fun r3 hr3 => (aT.step (cO [.agg [iC aG.aH,xF aF aG.aC]] (Fw.Fn.ren [(0,24)] (Ce aG r3 hr3) Q) AA (jl y2) J y3) z2 J Q Q (ak fun r4 hr4 => (aT.step (cF [.agg [iC r3.aH,lo 24 r3.aC.length]] [(24,pR 96 aF r3.aC)] (Fw.Fn.ren [(0,26)] (Wi r3 r4 hr4) Q) OZ (.cons (.agg (.cons (.same Q) (.cons (.fF Q Q) .nil))) .nil) J y3) z2 z1 Q Q (aN (.cZ [.c (lo 26 r4.1.length),.c (bC r4.2)]) y4 (aZ (LT.extract (v := (.c (lo 26 r4.1.length))) Q (by exact Q)) Q Q Q (aZ (LT.extract (v := (.c (bC r4.2))) Q (by exact Q)) Q Q Q (aQ (Cc (lo 26 r4.1.length)) y4 (aQ (Bv r4.2) y4 ?_)))))))))))
  refine On (Ws ?_)
  refine en [(1,Cc (.pl 21 0)),(4,Cc (lo 26 r4.1.length)),(5,Bv r4.2)] [(21,.row 50 [[iC aG.aH,xF aF aG.aC]]),(26,pR 96 aF r4.1)] z3 z2 (Wr (bZ (bW [iC aG.aH,xF aF aG.aC] Q wo xw rJ) Q Q Q Q (ak fun r5 pI => (aT.step (cO [.agg [iC aG.aH,xF aF aG.aC]] (Fw.Fn.ren [(0,28)] (Ce aG r5 pI) Q) AA (jl y2) J y3) z2 J Q Q (dX (LT.alloc (n := 29) (cells := [iC 0,sC aO]) Q lW Q Q Q) Q Q (bn (stA [iC r5.aH,lo 28 r5.aC.length] Q Q dN bM) Q Q Q Q Q (On (Ws (Wr ?_)))))))))
  refine bZ (bW [iC r5.aH,lo 28 r5.aC.length] Q dw dN bM) Q Q Q Q (ak fun r6 Ea => (aT.step (cF [.agg [iC r5.aH,lo 28 r5.aC.length]] [(28,pR 96 aF r5.aC)] (Fw.Fn.ren [(0,31)] (MC r5 r6 Ea) Q) IG (.cons (.agg (.cons (.same Q) (.cons (.fF Q Q) .nil))) .nil) J y3) z2 z1 Q Q (aN (.cZ [.c (lo 31 r6.1.length),.c (bC r6.2)]) y4 (aZ (LT.extract (v := (.c (lo 31 r6.1.length))) Q (by exact Q)) Q Q Q (aZ (LT.extract (v := (.c (bC r6.2))) Q (by exact Q)) Q Q Q (aQ (Cc (lo 31 r6.1.length)) y4 (aQ (Bv r6.2) y4 (On (Ws (Ws ?_))))))))))
  refine aB.fG (fun j9 => ([(1,Cc (.pl 21 0)),(4,Cc (lo 26 r4.1.length)),(5,Bv r4.2),(6,Cc (.pl 29 0)),(7,Cc (lo 31 r6.1.length)),(8,Bv r6.2),(40,Bv j9)],[(21,.row 50 [[iC aG.aH,xF aF aG.aC]]),(26,pR 96 aF r4.1),(28,pR 96 aF r5.aC),(29,.row 26 [[iC r5.aH,lo 28 r5.aC.length]]),(31,pR 96 aF r6.1)])) ?_ (fun j9 _ => ?_)
  ·refine en [(1,Cc (.pl 21 0)),(4,Cc (lo 26 r4.1.length)),(5,Bv r4.2),(6,Cc (.pl 29 0)),(7,Cc (lo 31 r6.1.length)),(8,Bv r6.2)] [(21,.row 50 [[iC aG.aH,xF aF aG.aC]]),(26,pR 96 aF r4.1),(28,pR 96 aF r5.aC),(29,.row 26 [[iC r5.aH,lo 28 r5.aC.length]]),(31,pR 96 aF r6.1)] z6 z5 (Wr (aN (Cc (lo 31 r6.1.length)) y4 (aN (Cc (lo 26 r4.1.length)) y4 (ak fun r10 ET => (aT.pure (cF [.c (lo 31 r6.1.length),.c (lo 26 r4.1.length)] [(31,pR 96 aF r6.1),(26,pR 96 aF r4.1)] (Cb r6.1 r4.1 r10 ET) AB (.cons (.c (.fF Q Q)) (.cons (.c (.fF Q Q)) .nil)) J y3) z3 z2 Q Q (aZ (LT.not Q) Q Q Q (aN (Bv (!r10)) y4 (aT.split (fun eP => ?_) (fun eP => ?_)))))))))
   ·refine aW eP y5 (aW eP y5 (aW eP y5 (eF (Bv true) eP ah (On (aj Q z7 z5)))))
   ·refine dY (Bv r6.2) eP y5 (dY (Bv r4.2) eP y5 (fA (LT.FP Q Gi) Q Q (gH eP Q Q) Q (fD (Bv (r6.2 != r4.2)) eP y5 (On (aj Q z7 z5)))))
  ·refine aB.cond Q (fun hc12 => ?_) (fun hc12 => ?_)
   ·refine Ws (Wr ?_)
    refine aQ (Bv false) af (On (aB.ret (ay.mk (.inr Q) z1 J Q ⟨bI.sc,J⟩ J)))
   ·refine aB.skip (Ws (Ws (aB.draw mixed ?_)))
    refine fZ (bW [iC r5.aH,lo 28 r5.aC.length] Q dw dN bM) Q Q Q Q (fZ (bW [iC aG.aH,xF aF aG.aC] Q wo xw rJ) Q Q Q Q (aS.bind fun r13 xY => (aS.step (cO [.agg [iC aG.aH,xF aF aG.aC]] (Fw.Fn.ren [(0,34)] (Ce aG r13 xY) Q) AA (jl y2) J y3) z2 J Q Q (aS.bind fun nR EU => (aS.pure (cF [.agg [iC r5.aH,lo 28 r5.aC.length],.agg [iC r13.aH,lo 34 r13.aC.length]] [(28,pR 96 aF r5.aC),(34,pR 96 aF r13.aC)] (WT r5 r13 nR EU) Oa (.cons (.agg (.cons (.same Q) (.cons (.fF Q Q) .nil))) (.cons (.agg (.cons (.same Q) (.cons (.fF Q Q) .nil))) .nil)) J y3) z3 z2 Q Q (bg (LT.not Q) Q Q Q (aS.nil (by kernel_rfl) (aB.cond Q (fun xP => ?_) (fun xP => ?_)))))))))
    ·refine Ws (Wr ?_)
     refine aQ (Bv false) af (On (aB.ret (ay.mk (.inr Q) z1 J Q ⟨bI.sc,J⟩ J)))
    ·refine aB.skip (Ws (Wr ?_))
     refine aQ (Iv 1) af (On (Ws (Wr ?_)))
     refine bZ (bW [iC r5.aH,lo 28 r5.aC.length] Q dw dN bM) Q Q Q Q (aN (Iv 1) y4 (ak fun r16 Qn => (aT.step (cO [.agg [iC r5.aH,lo 28 r5.aC.length],.c (iC 1)] (Fw.Fn.ren [(0,28)] (WU r5 1 r16 Qn) Q) Oc (rF y3) z1 y3) z3 z1 Q Q (aQ (Iv r16.1) y4 (On (Ws (Ws ?_)))))))
     refine aB.fG (fun j20 => ([(1,Cc (.pl 21 0)),(4,Cc (lo 26 r4.1.length)),(5,Bv r4.2),(7,Cc (lo 31 r6.1.length)),(61,Bv j20)],[(21,.row 50 [[iC aG.aH,xF aF aG.aC]]),(26,pR 96 aF r4.1),(31,pR 96 aF r6.1)])) ?_ (fun j20 _ => ?_)
     ·refine en [(1,Cc (.pl 21 0)),(4,Cc (lo 26 r4.1.length)),(5,Bv r4.2),(7,Cc (lo 31 r6.1.length)),(8,Bv r6.2),(9,Iv r16.1)] [(21,.row 50 [[iC aG.aH,xF aF aG.aC]]),(26,pR 96 aF r4.1),(31,pR 96 aF r6.1)] z6 z3 (Wr (aN (Iv r16.1) y4 (bG LT.lss ah (aN (Bv (decide (r16.1 < 0))) y4 (aT.split (fun oC => ?_) (fun oC => ?_))))))
      ·refine aW oC y5 (aW oC y5 (aW oC y5 (aW oC y5 (eF (Bv true) oC ah (aN (Bv true) y4 (dA y5 (dA y5 (dA y5 (eF (Bv true) Q ah (On (aj Q z5 z3)))))))))))
      ·refine dY (Cc (lo 31 r6.1.length)) oC y5 (dY (Cc (lo 26 r4.1.length)) oC y5 (ak fun r22 Qu => (aT.pure (cF [.c (lo 31 r6.1.length),.c (lo 26 r4.1.length)] [(31,pR 96 aF r6.1),(26,pR 96 aF r4.1)] (Cb r6.1 r4.1 r22 Qu) AB (.cons (.c (.fF Q Q)) (.cons (.c (.fF Q Q)) .nil)) J y3) z3 z2 (gH oC Q Q) Q (aZ (LT.not Q) Q (gH oC Q Q) Q (fD (Bv (!r22)) oC y5 (aN (Bv (!r22)) y4 (aT.split (fun o7 => ?_) (fun o7 => ?_))))))))
       ·refine aW o7 y5 (aW o7 y5 (aW o7 y5 (eF (Bv true) o7 ah (On (aj Q z5 z3)))))
       ·refine dY (Bv r6.2) o7 y5 (dY (Bv r4.2) o7 y5 (fA (LT.FP Q Gi) Q Q (gH o7 Q Q) Q (fD (Bv (r6.2 != r4.2)) o7 y5 (On (aj Q z5 z3)))))
     ·refine aB.cond Q (fun hc24 => ?_) (fun hc24 => ?_)
      ·refine Ws (Wr ?_)
       refine aQ (Bv false) af (On (aB.ret (ay.mk (.inr Q) z1 J Q ⟨bI.sc,J⟩ J)))
      ·refine aB.skip (Ws (Wr ?_))
       refine aQ (Iv 1) af (On (Ws (Wr ?_)))
       refine aN (Cc (lo 31 r6.1.length)) y4 (aN (Iv 1) y4 (ak fun r25 EZ => (aT.step (cO [.c (lo 31 r6.1.length),.c (iC 1)] (Fw.Fn.ren [(0,31)] (MN r6.1 1 r25 EZ) Q) II (nS y2) z1 y3) z3 z1 Q Q (aQ (Iv r25.1) y4 (On (Ws (Wr ?_)))))))
       refine aQ (Iv 1) af (On (Ws (Wr ?_)))
       refine aN (Cc (lo 31 r6.1.length)) y4 (aN (Iv 1) y4 (ak fun u26 Ri => (ak fun r27 Qw => (aT.pure (cF [.c (lo 31 r6.1.length),.c (iC 1)] [(31,pR 96 aF r25.2)] (ML r25.2 1 r27 Qw) IJ (.cons (.c (.fF (same_eq Ri) Q)) (.cons (.c (.same Q)) .nil)) J y3) z3 z1 Q Q (aQ (Iv r27) y4 (On (Ws (Ws ?_))))))))
       refine en [(1,Cc (.pl 21 0)),(4,Cc (lo 26 r4.1.length)),(5,Bv r4.2),(7,Cc (lo 31 r6.1.length)),(10,Iv r25.1),(11,Iv r27)] [(21,.row 50 [[iC aG.aH,xF aF aG.aC]]),(26,pR 96 aF r4.1),(31,pR 96 aF r25.2)] z6 z3 (Wr (aN (Iv r27) y4 (bG LT.lss ah (On (aB.cond Q (fun hc28 => ?_) (fun hc28 => ?_))))))
       ·refine Ws (Wr ?_)
        refine aQ (Bv false) af (On (aB.ret (ay.mk (.inr Q) z1 J Q ⟨bI.sc,J⟩ J)))
       ·refine aB.skip (Ws (Ws (Wr ?_)))
        refine aN (Iv r27) y4 (aN (Iv r25.1) y4 (bG LT.neq y5 (On (aB.cond Q (fun hc29 => ?_) (fun hc29 => ?_)))))
        ·refine Ws (Wr ?_)
         refine aQ (Bv false) af (On (aB.ret (ay.mk (.inr Q) z1 J Q ⟨bI.sc,J⟩ J)))
        ·refine aB.skip (Ws (Wr ?_))
         refine bZ (bW [iC aG.aH,xF aF aG.aC] Q wo xw rJ) Q Q Q Q (ak fun uI Qx => (aT.step (cO [.agg [iC aG.aH,xF aF aG.aC]] (Fw.Fn.ren [(0,41)] (Ce aG uI Qx) Q) AA (jl y2) J y3) z2 J Q Q (ak fun ax uw => (aT.step (cF [.agg [iC uI.aH,lo 41 uI.aC.length]] [(41,pR 96 aF uI.aC)] (Fw.Fn.ren [(0,43)] (MC uI ax uw) Q) IG (.cons (.agg (.cons (.same Q) (.cons (.fF Q Q) .nil))) .nil) J y3) z2 z1 Q Q (aN (.cZ [.c (lo 43 ax.1.length),.c (bC ax.2)]) y4 (aZ (LT.extract (v := (.c (lo 43 ax.1.length))) Q (by exact Q)) Q Q Q (aZ (LT.extract (v := (.c (bC ax.2))) Q (by exact Q)) Q Q Q (aQ (Cc (lo 43 ax.1.length)) y4 (aQ (Bv ax.2) y4 (On (Ws (Ws ?_))))))))))))
         refine aB.fG (fun j34 => ([(7,Cc (lo 31 r25.2.length)),(10,Iv r25.1),(87,Bv j34)],[(31,pR 96 aF r25.2)])) ?_ (fun j34 _ => ?_)
         ·refine en [(4,Cc (lo 26 r4.1.length)),(5,Bv r4.2),(7,Cc (lo 31 r6.1.length)),(10,Iv r25.1),(12,Cc (lo 43 ax.1.length)),(13,Bv ax.2)] [(26,pR 96 aF r4.1),(31,pR 96 aF r25.2),(43,pR 96 aF ax.1)] z6 z3 (Wr (aN (Cc (lo 43 ax.1.length)) y4 (aN (Cc (lo 26 r4.1.length)) y4 (ak fun BZ Q5 => (aT.pure (cF [.c (lo 43 ax.1.length),.c (lo 26 r4.1.length)] [(43,pR 96 aF ax.1),(26,pR 96 aF r4.1)] (Cb ax.1 r4.1 BZ Q5) AB (.cons (.c (.fF Q Q)) (.cons (.c (.fF Q Q)) .nil)) J y3) z3 z2 Q Q (aZ (LT.not Q) Q Q Q (aN (Bv (!BZ)) y4 (aT.split (fun o8 => ?_) (fun o8 => ?_)))))))))
          ·refine aW o8 y5 (aW o8 y5 (aW o8 y5 (eF (Bv true) o8 ah (On (aB.bind fun u37 Rn => (aB.nil ⟨Q,aU.of ⟨congrArg (fun l1 => (some (AV.s (.c (lo 31 l1))) : Option AV)) (same_eq Rn),Q,Q,J⟩ z1⟩))))))
          ·refine dY (Bv ax.2) o8 y5 (dY (Bv r4.2) o8 y5 (fA (LT.FP Q Gi) Q Q (gH o8 Q Q) Q (fD (Bv (ax.2 != r4.2)) o8 y5 (On (aB.bind fun u38 Eh => (aB.nil ⟨Q,aU.of ⟨congrArg (fun l1 => (some (AV.s (.c (lo 31 l1))) : Option AV)) (same_eq Eh),Q,Q,J⟩ z1⟩))))))
         ·refine aB.cond Q (fun hc39 => ?_) (fun hc39 => ?_)
          ·refine Ws (Wr ?_)
           refine aQ (Bv false) af (On (aB.ret (ay.mk (.inr Q) z1 J Q ⟨bI.sc,J⟩ J)))
          ·refine aB.skip (Ws (Wr ?_))
           refine aQ (Iv 1) af (On (Ws (Wr ?_)))
           refine aN (Cc (lo 31 r25.2.length)) y4 (aN (Iv 1) y4 (ak fun uK Q9 => (aT.pure (cF [.c (lo 31 r25.2.length),.c (iC 1)] [(31,pR 96 aF r25.2)] (ML r25.2 1 uK Q9) IJ (.cons (.c (.fF Q Q)) (.cons (.c (.same Q)) .nil)) J y3) z3 z1 Q Q (aQ (Iv uK) y4 (On (Ws (Ws (Wr ?_))))))))
           refine aN (Iv uK) y4 (bG LT.lss ah (On (aB.cond Q (fun sH => ?_) (fun sH => ?_))))
           ·refine Ws (Wr ?_)
            refine aQ (Bv false) af (On (aB.ret (ay.mk (.inr Q) z1 J Q ⟨bI.sc,J⟩ J)))
           ·refine aB.skip (Ws (Ws (Wr ?_)))
            refine aN (Iv uK) y4 (aN (Iv r25.1) y4 (bG LT.neq y5 (On (aB.cond Q (fun QI => ?_) (fun QI => ?_)))))
            ·refine Ws (Wr ?_)
             refine aQ (Bv false) af (On (aB.ret (ay.mk (.inr Q) z1 J Q ⟨bI.sc,J⟩ J)))
            ·refine aB.skip (Ws (Wr ?_))
             refine aQ (Bv true) af (On (aB.ret (ay.mk (.inr Q) z1 J Q ⟨bI.sc,J⟩ J)))
end Go.Proofs.Ytdmlaldifbmkpaa
end
section
set_option linter.unusedVariables false
set_option linter.unusedSimpArgs false
set_option linter.unnecessarySimpa false
namespace Go.Fw
open Go.ChangeShapes Go.WideShapes Go.ChangeAt Go.RowKit
open Go.Proofs.Ytdmlaldifbmkpaa (Rows.uptoBulk Rows.uptoBulkAll)
abbrev oJ (W : World) : Nat → Prop := fun b => b < W.heap.size
abbrev oK : Nat → Prop := fun _ => False
abbrev xK : Nat → GS := fun _ => .dead
def Opn {α : Type} (P : Program) (t : TypeId) (s : Nat) (enc : α → List PV) (wt : α → Nat) (ok : α → Prop) : Prop :=
 ∀ (H : Type) (e : TypeId × Value → H) (W : World) (base : Nat) (spare : Nat → Bool) (held : Bool) (fuel : Nat) (cs : List Value) (x : DataW H × List MemPlace),DataW.trod e P W base spare held fuel t cs = some x →
  ∃ a : α,ok a ∧ wt a ≤ Go.Proofs.Ytdmlaldifbmkpaa.Rows.uptoBulk x.1 ∧ cs.length = s ∧ (enc a).length = s ∧ ∀ (k : Nat) p,(enc a)[k]? = some p → ∃ u,cs[k]? = some u ∧ fP W oK (oJ W) p u
def okI (n : Int) : Prop := -9223372036854775808 ≤ n ∧ n ≤ 9223372036854775807
def KZ {α : Type} (ok : α → Prop) (xs : List α) : Prop := ∀ x ∈ xs,ok x
def uP (_ : Int) : Nat := 1
def uQ {α : Type} (wt : α → Nat) (xs : List α) : Nat := (xs.map wt).sum + 1
section
variable {P : Program}
theorem one1 {p q : PV} {cs : List Value} {v : Value} {W : World} (hcs : cs = [v]) (h : fP W oK (oJ W) p v) : ∀ (k : Nat) r,[p][k]? = some r → ∃ u,cs[k]? = some u ∧ fP W oK (oJ W) r u := fun k r hk => by
 subst hcs
 cases k with
 | zero => simp at hk; subst hk; exact ⟨v,rfl,h⟩
 | succ k => simp at hk
theorem Opn.int {t : TypeId} (ht : P.underlying t = some (.int .i64)) : Opn P t 1 (fun n : Int => [.sc (.int .i64 n)]) uP okI := fun H e W base spare held fuel cs x h => by
 obtain ⟨n,rfl,rfl,hw⟩ := DataW.trod_int ht h
 refine ⟨n,?_,by simp [uP,Go.Proofs.Ytdmlaldifbmkpaa.Rows.uptoBulk],rfl,rfl,one1 (q := .sc (.int .i64 n)) rfl (.sc rfl)⟩
 simp [Lit.wf,IntKind.min,IntKind.max,IntKind.signed,IntKind.bits] at hw
 exact ⟨by omega,by omega⟩
theorem Jt {α : Type} {p : Nat → α → Prop} : ∀ n : Nat,(∀ i,i < n → ∃ a,p i a) → ∃ xs : List α,xs.length = n ∧ ∀ (i : Nat) a,xs[i]? = some a → p i a
 | 0,_ => ⟨[],rfl,fun i a h => by simp at h⟩
 | n + 1,h => by
  obtain ⟨xs,h1,h2⟩ := Jt n fun i hi => h i (by omega)
  obtain ⟨a,ha⟩ := h n (by omega)
  refine ⟨xs ++ [a],by simp [h1],fun i b hb => ?_⟩
  rw [List.getElem?_append] at hb
  split at hb
  ·exact h2 i b hb
  ·rename_i hn
   have hi : i - xs.length = 0 := by
    have := (List.getElem?_eq_some_iff.1 hb).1
    simp at this
    omega
   rw [hi] at hb
   simp at hb
   subst hb
   have : i = n := by omega
   subst this
   exact ha
theorem Ho {α : Type} {H : Type} {wt : α → Nat} {D : Nat → DataW H} : ∀ (xs : List α) (k : Nat),(∀ (i : Nat) a,xs[i]? = some a → wt a ≤ Go.Proofs.Ytdmlaldifbmkpaa.Rows.uptoBulk (D (k + i))) →
  (xs.map wt).sum ≤ Go.Proofs.Ytdmlaldifbmkpaa.Rows.uptoBulkAll ((List.range' k xs.length).map D)
 | [],_,_ => by simp [Go.Proofs.Ytdmlaldifbmkpaa.Rows.uptoBulkAll]
 | a :: r,k,h => by
  have h0 := h 0 a rfl
  have ih := Ho r (k + 1) fun i b hb => by
   have := h (i + 1) b (by simpa using hb)
   rwa [show k + 1 + i = k + (i + 1) by omega]
  rw [Nat.add_zero] at h0
  simp only [List.map_cons,List.sum_cons,List.length_cons,List.range'_succ,Go.Proofs.Ytdmlaldifbmkpaa.Rows.uptoBulkAll]
  omega
theorem cell_lt {w : World} {a : Addr} {v : Value} (h : w.cell? a = some v) : a.block < w.heap.size := by
 unfold World.cell? at h
 cases hb : w.heap[a.block]? with
 | none => rw [hb] at h; simp at h
 | some o => exact (Array.getElem?_eq_some_iff.1 hb).1
theorem Opn.slice {α : Type} {t e : TypeId} {s : Nat} {enc : α → List PV} {wt : α → Nat} {ok : α → Prop} (ht : P.underlying t = some (.slice e)) (hs : P.cellsOf e = s) (hs0 : 0 < s) (he : Opn P e s enc wt ok) :
  Opn P t 1 (fun xs : List α => [.xs false (xs.map enc)]) (uQ wt) (KZ ok) := fun H en W base spare held fuel cs x h => by
 rcases Go.Deep.open_slice ht h with ⟨rfl,rfl⟩ | ⟨a,len,cap,m,n,D,Pl,rfl,hb,hl,hm,hmm,rfl,hi⟩
 ·refine ⟨[],?_,?_,rfl,rfl,one1 (q := .xs false []) rfl .emp⟩
  ·intro x hx; cases hx
  ·simp [uQ,Go.Proofs.Ytdmlaldifbmkpaa.Rows.uptoBulk]
 ·have hml : len ≤ m := by rw [hmm]; split <;> omega
  obtain ⟨xs,hxl,hx⟩ := Jt (p := fun i (b : α) => ok b ∧ wt b ≤ Go.Proofs.Ytdmlaldifbmkpaa.Rows.uptoBulk (D i) ∧ (enc b).length = s ∧ ∀ (k : Nat) p,(enc b)[k]? = some p → ∃ u,W.cell? (a.add (i * s + k)) = some u ∧ fP W oK (oJ W) p u) len (fun i hil => by
   obtain ⟨cs',hc,htr⟩ := hi i (by omega)
   obtain ⟨b,h1,h2,h3,h4,h5⟩ := he _ _ _ _ _ _ _ _ _ htr
   obtain ⟨_,hcl,hat⟩ := World.cells?_some hc
   refine ⟨b,h1,h2,h4,fun k p hk => ?_⟩
   obtain ⟨u,hu,hr⟩ := h5 k p hk
   refine ⟨u,?_,hr⟩
   have hks : k < s := by rw [← h4]; exact (List.getElem?_eq_some_iff.1 hk).1
   have := hat k (by rw [hs]; exact hks)
   rw [add_add,hs] at this
   rw [this]
   exact hu)
  refine ⟨xs,fun b hb => ?_,?_,rfl,rfl,one1 (q := .sc undef) rfl ?_⟩
  ·obtain ⟨i,hib⟩ := List.getElem?_of_mem hb
   exact (hx i b hib).1
  ·have := Ho (wt := wt) (D := D) xs 0 (fun i b hb => by rw [Nat.zero_add]; exact (hx i b hb).2.1)
   simp only [uQ,Go.Proofs.Ytdmlaldifbmkpaa.Rows.uptoBulk]
   rw [hxl,← List.range_eq_range'] at this
   omega
  ·cases hxs : xs with
   | nil =>
    have : len = 0 := by rw [← hxl,hxs]; rfl
    subst this
    exact .emp
   | cons b r =>
    rw [← hxs]
    have hget : ∀ (j k : Nat) cs p,(xs.map enc)[j]? = some cs → cs[k]? = some p → ∃ u,W.cell? (a.add (j * s + k)) = some u ∧ fP W oK (oJ W) p u := fun j k cs p hj hk => by
     rw [List.getElem?_map] at hj
     cases ER : xs[j]? with
     | none => rw [ER] at hj; cases hj
     | some c =>
      rw [ER] at hj
      injection hj with hj
      subst hj
      exact (hx j c ER).2.2.2 k p hk
    refine .xs (s := s) (fun j k => (W.cell? (a.add (j * s + k))).getD undef) (by simp [hxl]) ?_ (by simp [hxl]; exact hl) (fun cs hcs => ?_) (fun j k cs p hj hk => ?_) (fun j k cs p hj hk => ?_)
    ·have h0 := hx 0 b (by rw [hxs]; rfl)
     have hlt : 0 < (enc b).length := by rw [h0.2.2.1]; exact hs0
     obtain ⟨u,hu,_⟩ := h0.2.2.2 0 (enc b)[0] (List.getElem?_eq_getElem hlt)
     have := cell_lt hu
     rw [add_block] at this
     exact this
    ·obtain ⟨c,hc,rfl⟩ := List.mem_map.1 hcs
     obtain ⟨i,hic⟩ := List.getElem?_of_mem hc
     exact (hx i c hic).2.2.1
    ·obtain ⟨u,hu,_⟩ := hget j k cs p hj hk
     rw [hu]; rfl
    ·obtain ⟨u,hu,hr⟩ := hget j k cs p hj hk
     rw [hu]
     exact hr
def st2 (P : Program) (t : TypeId) : Option (Nat × Nat × Nat × Nat) := match P.underlying t with
 | some (.struct fs) => match fs.toList with
  | [f0,f1] => some (f0.type,f0.offset,f1.type,f1.offset)
  | _ => none
 | _ => none
theorem Opn.Lh {α β γ : Type} {t t1 t2 : TypeId} {s1 s2 : Nat} {enc1 : α → List PV} {enc2 : β → List PV} {enc : γ → List PV} {MX : α → Nat} {MZ : β → Nat} {wt : γ → Nat} {ok1 : α → Prop} {ok2 : β → Prop} {ok : γ → Prop} (mk : α → β → γ)
  (ht : st2 P t = some (t1,0,t2,s1)) (hc : P.cellsOf t = s1 + s2) (hc1 : P.cellsOf t1 = s1) (hc2 : P.cellsOf t2 = s2) (h1 : Opn P t1 s1 enc1 MX ok1) (h2 : Opn P t2 s2 enc2 MZ ok2)
  (he : ∀ a b,enc (mk a b) = enc1 a ++ enc2 b) (hw : ∀ a b,wt (mk a b) = MX a + MZ b) (ho : ∀ a b,ok1 a → ok2 b → ok (mk a b)) : Opn P t (s1 + s2) enc wt ok := fun H e W base spare held fuel cs x h => by
 unfold st2 at ht
 split at ht
 ·rename_i fs hfs
  split at ht
  ·rename_i f0 f1 hfl
   obtain ⟨l⟩ := fs
   simp only at hfl
   subst hfl
   simp only [Option.some.injEq,Prod.mk.injEq] at ht
   obtain ⟨rfl,ho0,rfl,ho1⟩ := ht
   obtain ⟨y0,y1,n,rfl,hl,h3,h4⟩ := Go.ChangeShapes.trod_struct2 hfs h
   rw [ho0,hc1] at h3
   rw [ho1,hc2] at h4
   obtain ⟨a,a1,a2,a3,a4,a5⟩ := h1 _ _ _ _ _ _ _ _ _ h3
   obtain ⟨b,b1,b2,b3,b4,b5⟩ := h2 _ _ _ _ _ _ _ _ _ h4
   refine ⟨mk a b,ho a b a1 b1,?_,by rw [hl,hc],by rw [he,List.length_append,a4,b4],fun k p hk => ?_⟩
   ·rw [hw]
    simp only [Go.Proofs.Ytdmlaldifbmkpaa.Rows.uptoBulk,Go.Proofs.Ytdmlaldifbmkpaa.Rows.uptoBulkAll]
    omega
   ·rw [he,List.getElem?_append] at hk
    split at hk
    ·rename_i hlt
     rw [a4] at hlt
     obtain ⟨u,hu,hr⟩ := a5 k p hk
     refine ⟨u,?_,hr⟩
     rw [List.getElem?_take,if_pos hlt,List.drop_zero] at hu
     exact hu
    ·rename_i hlt
     rw [a4] at hlt hk
     obtain ⟨u,hu,hr⟩ := b5 _ p hk
     refine ⟨u,?_,hr⟩
     rw [List.getElem?_take] at hu
     split at hu
     ·rw [List.getElem?_drop] at hu
      rwa [show s1 + (k - s1) = k by omega] at hu
     ·cases hu
  ·cases ht
 ·cases ht
theorem UH {α : Type} {wt : α → Nat} (h : ∀ x,1 ≤ wt x) (xs : List α) : xs.length ≤ uQ wt xs := by
 unfold uQ
 induction xs with
 | nil => simp
 | cons x r ih =>
  have := h x
  simp only [List.map_cons,List.sum_cons,List.length_cons] at ih ⊢
  omega
theorem Opn.NW {α : Type} {t : TypeId} {s : Nat} {enc : α → List PV} {wt : α → Nat} {ok : α → Prop} (h : Opn P t s enc wt ok) {H : Type} {e : TypeId × Value → H} {W : World} {sp : Nat → Bool} {v : Value} {d : DataW H} {ps : List MemPlace}
  (hv : ∃ cs : Array Value,v = .agg cs) (hd : DataW.Trod e P W 0 sp true t v d ps) : ∃ a : α,ok a ∧ wt a ≤ Go.Proofs.Ytdmlaldifbmkpaa.Rows.uptoBulk d ∧ RS P W oK (oJ W) xK (.agg ((enc a).map .pv)) v := by
 obtain ⟨cs,rfl⟩ := hv
 obtain ⟨fuel,hf⟩ := hd
 obtain ⟨a,h1,h2,h3,h4,h5⟩ := h _ _ _ _ _ _ _ _ _ hf
 refine ⟨a,h1,h2,cs.toList,by simp,by rw [List.length_map,h4]; simpa [Value.cells] using h3,fun k x hk => ?_⟩
 rw [List.getElem?_map] at hk
 cases hp : (enc a)[k]? with
 | none => rw [hp] at hk; cases hk
 | some p =>
  rw [hp] at hk
  injection hk with hk
  subst hk
  obtain ⟨u,hu,hr⟩ := h5 k p hp
  exact ⟨u,by simpa [Value.cells] using hu,hr.oneCell,hr⟩
def uT (P : Program) (W : World) : List SV → List Value → Prop
 | [],[] => True
 | x :: xs,v :: vs => RS P W oK (oJ W) xK x v ∧ uT P W xs vs
 | _,_ => False
theorem uT.spec {W : World} : ∀ {xs : List SV} {vs : List Value},uT P W xs vs → vs.length = xs.length ∧ ∀ (k : Nat) x,xs[k]? = some x → ∃ u,vs[k]? = some u ∧ RS P W oK (oJ W) xK x u
 | [],[],_ => ⟨rfl,fun k x hk => by simp at hk⟩
 | [],_ :: _,h => h.elim
 | _ :: _,[],h => h.elim
 | x :: xs,v :: vs,h => by
  obtain ⟨h1,h2⟩ := uT.spec h.2
  refine ⟨by simp [h1],fun k y hk => ?_⟩
  cases k with
  | zero => simp at hk; subst hk; exact ⟨v,rfl,h.1⟩
  | succ k => exact h2 k y (by simpa using hk)
theorem Fn.called {f : FuncId} {xs : List SV} (hf : Fw.Fn P f xs [] (.s (.c (bC true))) [] [] []) {W : World} {args : Array Value} (ha : uT P W xs args.toList) : Calls P f args W fun e W' => e = .returned (.bool true) ∧ Below W.heap.size W W' := by
 obtain ⟨h1,h2⟩ := ha.spec
 have hw : WF oK (oJ W) xK W := ⟨fun b hb => hb.elim,fun b hb => hb,fun n b hg => hg.elim,fun n m b hg => hg.elim,fun n j k b h => (by cases h)⟩
 have := hf oK (oJ W) xK W args.toList hw h1 h2 (fun p hp => by cases hp)
 rw [show args.toList.toArray = args from by simp] at this
 refine this.mono fun e W' hp => ?_
 obtain ⟨u,R',B',g',rfl,had,_,hv,_⟩ := hp
 have hu : u = .bool true := by
  obtain ⟨_,h3⟩ := hv
  cases h3
  rfl
 subst hu
 exact ⟨rfl,had.os,had.tape,had.output,had.size,fun k hk => had.heap k hk fun n hn => by cases hn⟩
theorem L8 {H : Type} {e : TypeId × Value → H} (hl : laidOutB P = true) {W W' : World} {sp : Nat → Bool} (hb : Below W.heap.size W W') : ∀ {ts : List TypeId} {vs : List Value} {ds : List (DataW H)} {ps : List MemPlace},(ts.all fun t => P.readableRec t && decide (t < P.types.size)) = true →
  DataW.TrodAll e P W 0 (fun _ => true) true ts vs ds ps → (∀ p ∈ ps,p.block < W.heap.size) → (∀ p ∈ ps,sp p.block = true) → DataW.TrodAll e P W' 0 sp true ts vs ds ps
 | [],[],[],_,_,h,_,_ => h
 | t :: ts,v :: vs,d :: ds,ps,hr,h,hlt,hs => by
  obtain ⟨p,q,h1,h2,rfl⟩ := h
  simp only [List.all_cons,Bool.and_eq_true,decide_eq_true_eq] at hr
  exact ⟨p,q,Go.WideElems.Trod_stays hl hr.1.1 hr.1.2 h1 (fun x hx => hb.same (hlt x (List.mem_append_left _ hx))) (fun x hx => hs x (List.mem_append_left _ hx)),L8 hl hb hr.2 h2 (fun x hx => hlt x (List.mem_append_right _ hx)) (fun x hx => hs x (List.mem_append_right _ hx)),rfl⟩
 | [],[],_ :: _,_,_,h,_,_ => h.elim
 | [],_ :: _,_,_,_,h,_,_ => h.elim
 | _ :: _,[],_,_,_,h,_,_ => h.elim
 | _ :: _,_ :: _,[],_,_,h,_,_ => h.elim
theorem Ut {H : Type} {e : TypeId × Value → H} {f : Func} {s : ChangeSpec} {apart handsOn again : Bool} {fresh : Bool} {W W' : World} {args : Array Value} {ds gs : List (DataW H)} {before : List MemPlace} {tb : TypeId} (hW : DataW.Whole e P f.params.toList s.vars apart W args.toList ds gs before) (hl : laidOutB P = true)
  (hr : (f.params.toList.all fun t => P.readableRec t && decide (t < P.types.size)) = true) (hb : Below W.heap.size W W') (hv : s.vars = []) (hf : s.fn H ds = { results := [.lit (.bool true)],args := ds }) (hrt : f.resultTypes = #[tb]) (htb : P.underlying tb = some .bool) :
  s.post e P f apart fresh handsOn again W args (.bool true) W' := by
 have hlt : ∀ p ∈ before,p.block < W.heap.size := fun p hp => hW.lt p hp
 have hW0 := hW
 obtain ⟨p,q,hA,hV,hpq,hz,hn⟩ := hW
 rw [hv] at hV
 obtain ⟨rfl,rfl⟩ : gs = [] ∧ q = [] := by
  cases gs with
  | nil => exact ⟨rfl,hV⟩
  | cons _ _ => exact hV.elim
 rw [List.append_nil] at hpq
 subst hpq
 have hargs : ∀ sp : Nat → Bool,(∀ p ∈ before,sp p.block = true) → DataW.TrodAll e P W' 0 sp true f.params.toList args.toList ds before := fun sp hs => L8 hl hb hr hA hlt hs
 have hres : ∀ (b : Nat) (sp : Nat → Bool) (hd : Bool),DataW.TrodAll e P W' b sp hd f.resultTypes.toList ((Value.bool true).resultList f.resultTypes.size) [.lit (.bool true)] [] := fun b sp hd => by
  rw [hrt]
  exact ⟨[],[],shut_bool htb _,rfl,rfl⟩
 have hfd : s.fn H (ds ++ []) = { results := [.lit (.bool true)],args := ds } := by rw [List.append_nil]; exact hf
 have hold : ∀ p ∈ before,(fun b => decide (b < W.heap.size)) p.block = true := fun p hp => by simpa using hlt p hp
 have hvs : ∀ sp : Nat → Bool,DataW.TrodVars e P W' sp s.vars [] [] := fun sp => by rw [hv]; rfl
 refine ⟨ds,[],before,[],before,[],hW0,?_,?_,?_,World.keptBut_mono (fun p hp => ⟨hp,?_⟩) (hb.frame (· ∈ before)),fun _ => ?_⟩
 ·rw [hfd]; exact hres _ _ _
 ·rw [hfd]; exact hargs _ hold
 ·rw [hfd]; exact hvs _
 ·exact Or.inr (Or.inl hp)
 ·refine ⟨ok_one hrt rfl (okWide_bool_mk htb _),?_⟩
  ·refine ⟨_,_,([] ++ before) ++ [],⟨[] ++ before,[],trodAll_append (hargs _ (fun _ _ => rfl)) (hres _ _ _),hvs _,rfl,?_,?_⟩,?_⟩
   ·intro b off hp
    have hin : MemPlace.cell b off ∈ before := by simpa using hp
    rw [hb.frozen (hlt _ hin)]
    exact hz b off hin
   ·intro ha
    simpa using hn ha
   ·intro p hp _
    simpa using hp
end
end Go.Fw
end
section
set_option linter.unusedVariables false
set_option linter.unusedSimpArgs false
set_option linter.unnecessarySimpa false
open Go Go.Fw
open Go.ChangeShapes Go.WideShapes Go.ChangeAt Go.RowKit
namespace Go.Proofs.Ytdmlaldifbmkpaa
theorem KW : Try.prog.cellsOf 150 = 2 := by kernel_rfl
theorem FX : Try.prog.cellsOf 3 = 1 := by kernel_rfl
theorem Ua : Try.prog.cellsOf 48 = 1 := by kernel_rfl
theorem Ub : Try.prog.cellsOf 50 = 2 := by kernel_rfl
theorem Uc : st2 Try.prog 150 = some (3, 0, 3, 1) := by kernel_rfl
theorem Ud : st2 Try.prog 50 = some (3, 0, 48, 1) := by kernel_rfl
theorem FY : Try.prog.underlying 3 = some (.int .i64) := by kernel_rfl
theorem Ue : Try.prog.underlying 48 = some (.slice 150) := by kernel_rfl
theorem Uf : Try.prog.underlying 50 = some (.struct (Try.prog.fieldsOf 50)) := by kernel_rfl
def IZ (a : aK) : List PV := [.sc (.int .i64 a.A), .sc (.int .i64 a.B)]
def zO (a : aK) : Nat := uP a.A + uP a.B
def Ko (a : aK) : Prop := okI a.A ∧ okI a.B
theorem Uj : Opn Try.prog 150 2 IZ zO Ko := Opn.Lh (enc1 := (fun n : Int => [.sc (.int .i64 n)])) (enc2 := (fun n : Int => [.sc (.int .i64 n)])) aK.mk Uc KW FX FX (Opn.int FY) (Opn.int FY) (fun _ _ => rfl) (fun _ _ => rfl) (fun _ _ h1 h2 => ⟨h1, h2⟩)
def O1 (a : aX) : List PV := [.sc (.int .i64 a.aH), .xs false (a.aC.map aF)]
def C9 (a : aX) : Nat := uP a.aH + (uQ zO) a.aC
def Uh (a : aX) : Prop := okI a.aH ∧ (KZ Ko) a.aC
theorem Uk : Opn Try.prog 50 2 O1 C9 Uh := Opn.Lh (enc1 := (fun n : Int => [.sc (.int .i64 n)])) (enc2 := (fun xs => [.xs false (xs.map IZ)])) aX.mk Ud Ub FX Ua (Opn.int FY) (Opn.slice Ue KW (by decide) Uj) (fun _ _ => rfl) (fun _ _ => rfl) (fun _ _ h1 h2 => ⟨h1, h2⟩)
end Go.Proofs.Ytdmlaldifbmkpaa
end
