/- Parts of a proof that a law of the program holds: what the program computes, and why that is right. -/
import Derived.Test.YtdmlaldifbmkpaaZFnStresses4
section
set_option linter.unusedVariables false
set_option linter.unusedSimpArgs false
set_option linter.unnecessarySimpa false
set_option maxRecDepth 100000
set_option maxHeartbeats 8000000
open Go Go.Fw
namespace Go.Proofs.Ytdmlaldifbmkpaa
theorem aB3 (m : (List (List Int))) (columns : Int) : FT Try.prog (Hw m columns) 81 [.c (xF (bI false) m),.c (iC columns)] [] (fun (t : (List (List Int))) => [.c (lo 0 t.length)]) (fun (t : (List (List Int))) => [(0,.ax 37 1 (af t)),(1,.pool 3 (rowsOf aH t))]) [0,1] := by
 refine FT.of [] Try.func81 Try.ntmps81 Q y2 ?_
 intro w0 U0 R0 g0
 unfold Hw
 refine Ws (Wr ?_)
 refine aJ (Cc (sC ah)) aX (On (Ws (Wr ?_)))
 refine aF (Cc (xF (bI false) m)) y4 (aF (Iv columns) y4 (aQ fun r1 hr1 => (aP.step (bQ [.c (xF (bI false) m),.c (iC columns)] (Fw.Fn.ren [(0,22),(1,23),(2,24)] (aB4 m columns r1 hr1) Q) Xr (ji y2) J y3) z3 J Q Q (aF (.dO [.c (lo 22 r1.1.length),.c (lo 24 r1.2.1.length),.c (iC r1.2.2)]) y4 (aS (LT.extract (v := (.c (lo 22 r1.1.length))) Q (by exact Q)) Q Q Q (aS (LT.extract (v := (.c (lo 24 r1.2.1.length))) Q (by exact Q)) Q Q Q (aS (LT.extract (v := (.c (iC r1.2.2))) Q (by exact Q)) Q Q Q (aJ (Cc (lo 22 r1.1.length)) y4 (aJ (Cc (lo 24 r1.2.1.length)) y4 (aJ (Iv r1.2.2) y4 (On (Ws ?_))))))))))))
 refine en [(1,Iv columns),(5,Cc (lo 22 r1.1.length)),(6,Cc (lo 24 r1.2.1.length)),(7,Iv r1.2.2)] [(22,.ax 37 23 (af r1.1)),(23,.pool 3 (rowsOf aH r1.1)),(24,pR 3 aH r1.2.1)] z4 z3 (Wr (aF (Iv columns) y4 (aQ fun u2 hu2 => (wV (LT.Jb (n := 25) (enc := aH) (zc := [iC 0]) (0 : Int) Q bZ eu Q Q Q (by decide) (by decide) (EO hu2) Q) Q Q Q Q (aJ (Cc (lo 25 ((List.replicate columns.toNat (0 : Int)).length))) y4 (On (Ws (Ws (Wr ?_)))))))))
 refine aF (Cc (lo 25 ((List.replicate columns.toNat (0 : Int)).length))) y4 (aS (LT.jg Q bZ) Q Q Q (aF (Iv 0) aX (On (aC.block ?_))))
 refine aC.iW (id := 0) (Hy columns r1) (fun s3 => ([(1,Iv columns),(5,Cc (lo 22 r1.1.length)),(6,Cc (lo 24 r1.2.1.length)),(7,Iv r1.2.2),(8,Cc (lo 25 s3.2.length)),(26,Iv ((List.replicate columns.toNat (0 : Int)).length : Int)),(27,Iv s3.1)],[(22,.ax 37 23 (af r1.1)),(23,.pool 3 (rowsOf aH r1.1)),(24,pR 3 aH r1.2.1),(25,pR 3 aH s3.2)])) (fun b8 => ([(1,Iv columns),(5,Cc (lo 22 b8.2.1.length)),(6,Cc (lo 24 b8.2.2.1.length)),(7,Iv b8.1),(8,Cc (lo 25 b8.2.2.2.length))],[(22,.ax 37 23 (af b8.2.1)),(23,.pool 3 (rowsOf aH b8.2.1)),(24,pR 3 aH b8.2.2.1),(25,pR 3 aH b8.2.2.2)])) ?_ (aO.of z7 z4) Q (fun b8 _ => ?_)
 ·intro s3
  unfold Hy
  refine Ws (Wr ?_)
  refine aT LT.lss y5 (On (Ws ?_))
  refine aC.cond Q (fun wz => ?_) (fun wz => ?_)
  ·refine aC.skip (Ws (aC.block (Ws (Wr ?_))))
   refine aF (Iv s3.1) y4 (aJ (Iv s3.1) y4 (On (Wr ?_)))
   refine aF (Cc (lo 25 s3.2.length)) y4 (aF (Iv s3.1) y4 (aQ fun x10 PE => (iK (LT.iG Q Q dR PE) Q Q Q Q Q (dU (LT.nN (k := 0) (v := (.c (iC (-1)))) (b' := (-1)) Q Q (dK nI) fM (by exact Q) PE (by exact Q) (by exact K Q) (by exact Q)) Q y2 Q Q Q (On (aC.blk (Wr ?_)))))))
   refine aT LT.add aU (aF (Iv (aA (s3.1 + 1))) y4 (On (aC.nil ⟨Q,aO.of ⟨Q,Q,Q,Q,congrArg (fun l1 => (some (AV.s (.c (lo 25 l1))) : Option AV)) (show s3.2.length = (s3.2.set s3.1.toNat (-1)).length by simp only [List.length_set]),Q,Q,J⟩ z4⟩)))
  ·refine aC.eF Q ⟨Q,aO.of z5 z4⟩
 ·refine Ws (Ws (Wr ?_))
  refine aF (Cc (lo 24 b8.2.2.1.length)) y4 (aS (LT.jg Q bZ) Q Q Q (aF (Iv 0) aX (On (aC.block ?_))))
  refine aC.iW (id := 2) (Hz b8) (fun s11 => ([(1,Iv columns),(5,Cc (lo 22 b8.2.1.length)),(7,Iv b8.1),(8,Cc (lo 25 s11.2.length)),(34,Cc (lo 24 b8.2.2.1.length)),(35,Iv (b8.2.2.1.length : Int)),(36,Iv s11.1)],[(22,.ax 37 23 (af b8.2.1)),(23,.pool 3 (rowsOf aH b8.2.1)),(24,pR 3 aH b8.2.2.1),(25,pR 3 aH s11.2)])) (fun b18 => ([(1,Iv columns),(5,Cc (lo 22 b18.2.1.length)),(7,Iv b18.1),(8,Cc (lo 25 b18.2.2.length))],[(22,.ax 37 23 (af b18.2.1)),(23,.pool 3 (rowsOf aH b18.2.1)),(25,pR 3 aH b18.2.2)])) ?_ (aO.of z7 z4) Q (fun b18 _ => ?_)
  ·intro s11
   unfold Hz
   refine Ws (Wr ?_)
   refine aT LT.lss y5 (On (Ws ?_))
   refine aC.cond Q (fun hc19 => ?_) (fun hc19 => ?_)
   ·refine aC.skip (Ws (aC.block (Ws (Wr ?_))))
    refine aF (Iv s11.1) y4 (aQ fun x20 zX => (iK (LT.iG Q Q dR zX) Q Q Q Q Q (bf (LT.lU (k := 0) Q ay zX (by exact Q) (by exact Q)) Q Q Q Q (aJ (Iv s11.1) y4 (aJ (Iv x20) y4 (On (Wr ?_)))))))
    refine aF (Cc (lo 25 s11.2.length)) y4 (aF (Iv x20) y4 (aF (Iv s11.1) y4 (aQ fun x21 yJ => (iK (LT.iG Q Q dR yJ) Q Q Q Q Q (dU (LT.nN (k := 0) (v := (.c (iC s11.1))) (b' := s11.1) Q Q (dK nI) fM (by exact Q) yJ (by exact Q) (by exact K Q) (by exact Q)) Q Q Q Q Q (On (aC.blk ?_)))))))
    refine en [(1,Iv columns),(5,Cc (lo 22 b8.2.1.length)),(7,Iv b8.1),(8,Cc (lo 25 s11.2.length)),(34,Cc (lo 24 b8.2.2.1.length)),(35,Iv (b8.2.2.1.length : Int)),(36,Iv s11.1)] [(22,.ax 37 23 (af b8.2.1)),(23,.pool 3 (rowsOf aH b8.2.1)),(24,pR 3 aH b8.2.2.1),(25,pR 3 aH (s11.2.set x20.toNat s11.1))] z7 z4 (Wr (aT LT.add aU (aF (Iv (aA (s11.1 + 1))) y4 (On (aC.nil ⟨Q,aO.of ⟨Q,Q,Q,congrArg (fun l1 => (some (AV.s (.c (lo 25 l1))) : Option AV)) (show s11.2.length = (s11.2.set x20.toNat s11.1).length by simp only [List.length_set]),Q,Q,Q,J⟩ z4⟩)))))
   ·refine aC.eF Q ⟨Q,aO.of z4 z3⟩
  ·refine Ws (Wr ?_)
   refine dP (LT.buildSlice (n := 26) (els := []) [] Q Q gy kX Q Q Q Q (by decide) Q Q) Q Q (aJ (Cc (lo 26 0)) y4 (On (aC.ent (aO.E5 27 3 Q) (aC.ent (aO.ax (n := 26) (p := 27) (lens := af ([] : List (List Int))) (List.append_nil _) Q) (Ws (Ws (Wr ?_)))))))
   refine aF (Iv columns) y4 (aF (Iv 0) aX (On (aC.block ?_)))
   refine aC.iW (id := 4) (H6 columns) (fun dQ => ([(1,Iv columns),(5,Cc (lo 22 dQ.2.2.2.1.length)),(7,Iv dQ.2.1),(8,Cc (lo 25 dQ.2.2.1.length)),(12,Cc (lo 26 dQ.2.2.2.2.length)),(47,Iv columns),(48,Iv dQ.1)],[(22,.ax 37 23 (af dQ.2.2.2.1)),(23,.pool 3 (rowsOf aH dQ.2.2.2.1)),(25,pR 3 aH dQ.2.2.1),(26,.ax 37 27 (af dQ.2.2.2.2)),(27,.pool 3 (rowsOf aH dQ.2.2.2.2))])) (fun uS => ([(12,Cc (lo 26 uS.length))],[(26,.ax 37 27 (af uS)),(27,.pool 3 (rowsOf aH uS))])) ?_ (aO.of z7 z5) Q (fun uS _ => ?_)
   ·intro dQ
    unfold H6
    refine Ws (Wr ?_)
    refine aT LT.lss y5 (On (Ws ?_))
    refine aC.cond Q (fun aEu => ?_) (fun aEu => ?_)
    ·refine aC.skip (Ws (aC.block (Ws (Wr ?_))))
     refine aF (Iv dQ.1) y4 (aJ (Iv dQ.1) y4 (On (Ws (Ws (Wr ?_)))))
     refine aF (Cc (lo 25 dQ.2.2.1.length)) y4 (aF (Iv dQ.1) y4 (aQ fun x95 hx95 => (iK (LT.iG Q Q dR hx95) Q Q Q Q Q (bf (LT.lU (k := 0) Q ay hx95 (by exact Q) (by exact Q)) Q Q Q Q (aT LT.geq aU (On (aC.cond Q (fun hc96 => ?_) (fun hc96 => ?_))))))))
     ·refine aC.exit Q (Wr ?_)
      refine aT LT.add aU (aF (Iv (aA (dQ.1 + 1))) y4 (On (aW Q z7 z5)))
     ·refine aC.skip (Ws (Wr ?_))
      refine aF (Iv columns) y4 (aQ fun u97 aGV => (wV (LT.Jb (n := 28) (enc := aH) (zc := [iC 0]) (0 : Int) Q bZ eu Q Q Q (by decide) (by decide) (EO aGV) Q) Q Q Q Q (aJ (Cc (lo 28 ((List.replicate columns.toNat (0 : Int)).length))) y4 (On (Ws ?_)))))
      refine en [(1,Iv columns),(5,Cc (lo 22 dQ.2.2.2.1.length)),(7,Iv dQ.2.1),(8,Cc (lo 25 dQ.2.2.1.length)),(12,Cc (lo 26 dQ.2.2.2.2.length)),(13,Iv dQ.1),(14,Cc (lo 28 ((List.replicate columns.toNat (0 : Int)).length))),(47,Iv columns),(48,Iv dQ.1)] [(22,.ax 37 23 (af dQ.2.2.2.1)),(23,.pool 3 (rowsOf aH dQ.2.2.2.1)),(25,pR 3 aH dQ.2.2.1),(26,.ax 37 27 (af dQ.2.2.2.2)),(27,.pool 3 (rowsOf aH dQ.2.2.2.2)),(28,pR 3 aH (List.replicate columns.toNat (0 : Int)))] z9 z6 (Wr (aF (Cc (lo 28 ((List.replicate columns.toNat (0 : Int)).length))) y4 (aF (Iv dQ.1) y4 (aF (Iv dQ.2.1) y4 (aQ fun x98 hx98 => (iK (LT.iG Q Q dR hx98) Q Q Q Q Q (dU (LT.nN (k := 0) (v := (.c (iC dQ.2.1))) (b' := dQ.2.1) Q Q (dK nI) fM (by exact Q) hx98 (by exact Q) (by exact K Q) (by exact Q)) Q Q Q Q Q (On (Ws (Ws (Wr ?_)))))))))))
      refine aF (Iv columns) y4 (aF (Iv 0) aX (On (aC.block ?_)))
      refine aC.iW (id := 6) (H7 columns dQ) (fun nG => ([(1,Iv columns),(5,Cc (lo 22 dQ.2.2.2.1.length)),(7,Iv dQ.2.1),(8,Cc (lo 25 dQ.2.2.1.length)),(12,Cc (lo 26 dQ.2.2.2.2.length)),(13,Iv dQ.1),(14,Cc (lo 28 nG.2.length)),(47,Iv columns),(48,Iv dQ.1),(62,Iv columns),(63,Iv nG.1)],[(22,.ax 37 23 (af dQ.2.2.2.1)),(23,.pool 3 (rowsOf aH dQ.2.2.2.1)),(25,pR 3 aH dQ.2.2.1),(26,.ax 37 27 (af dQ.2.2.2.2)),(27,.pool 3 (rowsOf aH dQ.2.2.2.2)),(28,pR 3 aH nG.2)])) (fun kJ => ([(1,Iv columns),(5,Cc (lo 22 kJ.2.2.1.length)),(7,Iv kJ.1),(8,Cc (lo 25 kJ.2.2.2.1.length)),(12,Cc (lo 26 kJ.2.2.2.2.1.length)),(14,Cc (lo 28 kJ.2.2.2.2.2.length)),(47,Iv columns),(48,Iv kJ.2.1)],[(22,.ax 37 23 (af kJ.2.2.1)),(23,.pool 3 (rowsOf aH kJ.2.2.1)),(25,pR 3 aH kJ.2.2.2.1),(26,.ax 37 27 (af kJ.2.2.2.2.1)),(27,.pool 3 (rowsOf aH kJ.2.2.2.2.1)),(28,pR 3 aH kJ.2.2.2.2.2)])) ?_ (aO.of ⟨Q,Q,Q,Q,Q,Q,congrArg (fun l1 => (some (AV.s (.c (lo 28 l1))) : Option AV)) (show (List.replicate columns.toNat (0 : Int)).length = ((List.replicate columns.toNat (0 : Int)).set dQ.1.toNat dQ.2.1).length by simp only [List.length_set]),Q,Q,Q,Q,J⟩ z6) Q (fun kJ _ => ?_)
      ·intro nG
       unfold H7
       refine Ws (Wr ?_)
       refine aT LT.lss y5 (On (Ws ?_))
       refine aC.cond Q (fun aET => ?_) (fun aET => ?_)
       ·refine aC.skip (Ws (aC.block (Ws (Wr ?_))))
        refine aF (Iv nG.1) y4 (aJ (Iv nG.1) y4 (On (Ws (Wr ?_))))
        refine aF (Cc (lo 25 dQ.2.2.1.length)) y4 (aF (Iv nG.1) y4 (aQ fun aCM hx128 => (iK (LT.iG Q Q dR hx128) Q Q Q Q Q (bf (LT.lU (k := 0) Q ay hx128 (by exact Q) (by exact Q)) Q Q Q Q (aT LT.geq aU (On (aC.fC (fun j134 => ([(1,Iv columns),(5,Cc (lo 22 dQ.2.2.2.1.length)),(7,Iv dQ.2.1),(8,Cc (lo 25 dQ.2.2.1.length)),(12,Cc (lo 26 dQ.2.2.2.2.length)),(13,Iv dQ.1),(14,Cc (lo 28 j134.length)),(47,Iv columns),(48,Iv dQ.1),(62,Iv columns),(63,Iv nG.1)],[(22,.ax 37 23 (af dQ.2.2.2.1)),(23,.pool 3 (rowsOf aH dQ.2.2.2.1)),(25,pR 3 aH dQ.2.2.1),(26,.ax 37 27 (af dQ.2.2.2.2)),(27,.pool 3 (rowsOf aH dQ.2.2.2.2)),(28,pR 3 aH j134)])) ?_ (fun j134 _ => ?_))))))))
        ·refine aC.cond Q (fun aEW => ?_) (fun aEW => ?_)
         ·refine Wr (aF (Cc (lo 28 nG.2.length)) y4 (aF (Iv nG.1) y4 (aF (Cc (lo 22 dQ.2.2.2.1.length)) y4 (aF (Cc (lo 25 dQ.2.2.1.length)) y4 (aF (Iv nG.1) y4 (aQ fun mP BD => (iK (LT.iG Q Q dR BD) Q Q Q Q Q (bf (LT.lU (k := 0) Q ay BD (by exact Q) (by exact Q)) Q Q Q Q (aQ fun aCP PI => (iK (LT.pJ Q Q iL PI) Q Q Q Q Q (bf (LT.rE Q jR PI Q) Q Q Q Q ?_)))))))))))
          refine aF (Iv dQ.1) y4 (aQ fun Nw ZG => (iK (LT.Ce Q Q dR (jM PI) ZG) Q Q Q Q Q (bf (LT.FN (enc := aH) (j := 0) Q ay (jM PI) ZG (by exact Q) (by exact Q)) Q Q Q Q (aS (LT.neg Q) Q Q Q (aQ fun aJx ZH => (iK (LT.iG Q Q dR ZH) Q Q Q Q Q (dU (LT.nN (k := 0) (v := (.c (iC (aA (-Nw))))) (b' := (aA (-Nw))) Q Q (dK nI) fM (by exact Q) ZH (by exact Q) (by exact K Q) (by exact Q)) Q Q Q Q Q (On (aC.nil ⟨Q,aO.of ⟨Q,Q,Q,Q,Q,Q,congrArg (fun l1 => (some (AV.s (.c (lo 28 l1))) : Option AV)) (show nG.2.length = (nG.2.set nG.1.toNat (aA (-Nw))).length by simp only [List.length_set]),Q,Q,Q,Q,J⟩ z6⟩)))))))))
         ·refine aC.skip (aW Q z11 z6)
        ·refine aC.blk (Wr ?_)
         refine aT LT.add aU (aF (Iv (aA (nG.1 + 1))) y4 (On (aW Q z11 z6)))
       ·refine aC.eF Q ⟨Q,aO.of z8 z6⟩
      ·refine Wr (aF (Cc (lo 26 kJ.2.2.2.2.1.length)) y4 (aF (Cc (lo 28 kJ.2.2.2.2.2.length)) y4 (aQ fun mG UM => (aP.step (cF [.c (lo 28 kJ.2.2.2.2.2.length)] [(28,pR 3 aH kJ.2.2.2.2.2)] (Fw.Fn.ren [(0,30)] (aJJ kJ.2.2.2.2.2 mG UM) Q) aC6 (.cons (.c (.iZ Q Q)) .nil) J y3) z2 z1 Q Q (fK (LT.buildSlice (n := 31) (els := [[lo 30 mG.length]]) [(0,.tmp 88,.c (lo 30 mG.length))] Q Q gy kX Q Q Q Q (by decide) Q Q) Q Q Q (aQ fun aIx aF0 => (nS (LT.N8 Q Q Q gy kX Q (by decide) (by decide) Q (jU aF0)) Q Q Q Q Q Q (aJ (Cc (lo 26 (kJ.2.2.2.2.1.length + 1))) y4 (On (aC.ent (aO.Cb (enc := aH) (n := 26) (m := 30) (p := 27) (rows := kJ.2.2.2.2.1) (r := mG) (rest := []) Q Q Q Q Q Q) (aC.ent (aO.ax (n := 26) (p := 27) (lens := af (kJ.2.2.2.2.1 ++ [mG])) (List.append_nil _) Q) ?_)))))))))))
       refine aC.blk (Wr ?_)
       refine aT LT.add aU (aF (Iv (aA (kJ.2.1 + 1))) y4 (On (aC.nil ⟨Q,aO.of ⟨Q,Q,Q,Q,congrArg (fun l1 => (some (AV.s (.c (lo 26 l1))) : Option AV)) (show (kJ.2.2.2.2.1.length + 1) = (kJ.2.2.2.2.1 ++ [mG]).length from LV),Q,Q,J⟩ z5⟩)))
    ·refine aC.eF Q ⟨Q,aO.of z1 z2⟩
   ·refine Ws (Wr ?_)
    refine aF (Cc (lo 26 uS.length)) y4 (aJ (Cc (lo 26 uS.length)) y4 (On (en [(4,Cc (lo 26 uS.length))] [(26,.ax 37 27 (af uS)),(27,.pool 3 (rowsOf aH uS))] z1 z2 (aC.ent (aO.mv 26 0 Q Q) (aC.ent (aO.mv 27 1 Q Q) (en [(4,Cc (lo 0 uS.length))] [(0,.ax 37 1 (af uS)),(1,.pool 3 (rowsOf aH uS))] z1 z2 (aC.ret (aj.mk (.inr Q) z1 z2 Q ⟨J,J⟩ ⟨J,dG.xK jb _,J⟩))))))))
theorem aJK (f : aZ) : FT Try.prog (Lp f) 9 [.agg [iC f.Graph.aG,xF aI f.Graph.aB,xF aK f.Places]] [] (fun (t : (List (List Int))) => [.c (lo 0 t.length)]) (fun (t : (List (List Int))) => [(0,.ax 37 1 (af t)),(1,.pool 3 (rowsOf aH t))]) [0,1] := by
 refine FT.of [] Try.func9 Try.ntmps9 Q y2 ?_
 intro w0 U0 R0 g0
 unfold Lp
 refine Ws (Wr ?_)
 refine fK (LT.box (n := 21) (v := (.agg [iC f.Graph.aG,xF aI f.Graph.aB,xF aK f.Places])) Q bU (by exact Q)) Q Q Q (aJ (Cc (sC ah)) aX (On (Ws (Ws ?_))))
 refine aC.fC (fun j3 => ([(1,Cc (.pl 21 0)),(12,Bv j3)],[(21,.row 29 [[iC f.Graph.aG,xF aI f.Graph.aB,xF aK f.Places]])])) ?_ (fun j3 _ => ?_)
 ·refine Wr (bf (cO [iC f.Graph.aG,xF aI f.Graph.aB,xF aK f.Places] Q dW bn bU) Q Q Q Q (aQ fun r4 hr4 => (aP.pure (bQ [.agg [iC f.Graph.aG,xF aI f.Graph.aB,xF aK f.Places]] (FU f r4 hr4) Dh (mO y3) J y3) z2 J Q Q (aS (LT.not Q) Q Q Q (aF (Bv (!r4)) y4 (aP.split (fun hb5 => ?_) (fun hb5 => ?_)))))))
  ·refine aV hb5 y5 (aV hb5 y5 (aV hb5 y5 (aV hb5 y5 (aV hb5 y5 (dh (Bv true) hb5 aU (On (aW Q z2 z1)))))))
  ·refine aS (LT.gV Q jm) Q (gH hb5 Q Q) Q (kR (xF aI f.Graph.aB) iJ iU hb5 iq (aS (LT.fA Q ig) Q (gH hb5 Q Q) Q (iT LT.eql hb5 kE (gY (Bv ((f.Graph.aB.length : Int) == 0)) hb5 y5 (On (aW Q z2 z1))))))
 ·refine aC.cond Q (fun hc6 => ?_) (fun hc6 => ?_)
  ·refine Ws (Wr ?_)
   refine dP (LT.buildSlice (n := 23) (els := []) [] Q Q gy kX Q Q Q Q (by decide) Q Q) Q Q (aJ (Cc (lo 23 0)) y4 (On (aC.ent (aO.E5 24 3 Q) (aC.ent (aO.ax (n := 23) (p := 24) (lens := af ([] : List (List Int))) (List.append_nil _) Q) (en [(2,Cc (lo 23 0))] [(23,.ax 37 24 (af ([] : List (List Int)))),(24,.pool 3 (rowsOf aH ([] : List (List Int))))] z1 z2 (aC.ent (aO.mv 23 0 Q Q) (aC.ent (aO.mv 24 1 Q Q) (en [(2,Cc (lo 0 (([] : List (List Int)).length)))] [(0,.ax 37 1 (af ([] : List (List Int)))),(1,.pool 3 (rowsOf aH ([] : List (List Int))))] z1 z2 (aC.ret (aj.mk (.inr Q) z1 z2 Q ⟨J,J⟩ ⟨J,dG.xK jb _,J⟩))))))))))
  ·refine aC.skip (Ws (aC.draw mixed ?_))
   refine gQ (cO [iC f.Graph.aG,xF aI f.Graph.aB,xF aK f.Places] Q dW bn bU) Q Q Q Q (aN.bind fun r7 tY => (aN.step (bQ [.agg [iC f.Graph.aG,xF aI f.Graph.aB,xF aK f.Places]] (Fw.Fn.ren [(0,26),(1,27)] (WV f r7 tY) Q) SK (mO y3) J y3) z2 J Q Q (bJ (LT.gV Q jm) Q Q Q (eG (iC f.Graph.aG) mQ ay bP (iE LT.mul nP (aN.bind fun r8 xB => (aN.step (cF [.c (lo 26 r7.length),.c (iC (aA (2 * f.Graph.aG)))] [(26,.ax 37 27 (af r7)),(27,.pool 3 (rowsOf aH r7))] (Fw.Fn.ren [(0,29),(1,30)] (aB5 r7 (aA (2 * f.Graph.aG)) r8 xB) Q) X5 (.cons (.c (.Ci Q Q Q (fun _ => Q))) (.cons (.c (.same Q)) .nil)) J y3) z3 z2 Q Q (bJ (LT.gV Q jm) Q Q Q (eG (xF aI f.Graph.aB) iJ iU bP ?_)))))))))
   refine bJ (LT.fA Q ig) Q Q Q (aN.bind fun r9 EF => (aN.step (cF [.c (lo 29 r8.length),.c (iC (f.Graph.aB.length : Int))] [(29,.ax 37 30 (af r8)),(30,.pool 3 (rowsOf aH r8))] (Fw.Fn.ren [(0,32),(1,33)] (aB3 r8 (f.Graph.aB.length : Int) r9 EF) Q) X4 (.cons (.c (.Ci Q Q Q (fun _ => Q))) (.cons (.c (.same Q)) .nil)) J y3) z3 z2 Q Q (bJ (LT.assign (v := (Cc (lo 32 r9.length))) Q) Q Q Q (aN.nil (by kernel_rfl) (en [(2,Cc (lo 32 r9.length))] [(32,.ax 37 33 (af r9)),(33,.pool 3 (rowsOf aH r9))] z1 z2 (aC.ent (aO.mv 32 0 Q Q) (aC.ent (aO.mv 33 1 Q Q) (en [(2,Cc (lo 0 r9.length))] [(0,.ax 37 1 (af r9)),(1,.pool 3 (rowsOf aH r9))] z1 z2 (aC.ret (aj.mk (.inr Q) z1 z2 Q ⟨J,J⟩ ⟨J,dG.xK jb _,J⟩))))))))))
theorem C9 (f : aZ) : FT Try.prog (wG f) 12 [.agg [iC f.Graph.aG,xF aI f.Graph.aB,xF aK f.Places]] [] (fun (t : Bool) => [.c (bC t)]) (fun (t : Bool) => []) [] := by
 refine FT.of [] Try.func12 Try.ntmps12 Q y2 ?_
 intro w0 U0 R0 g0
 unfold wG
 refine Ws (Wr ?_)
 refine fK (LT.box (n := 21) (v := (.agg [iC f.Graph.aG,xF aI f.Graph.aB,xF aK f.Places])) Q bU (by exact Q)) Q Q Q (aJ (Bv false) aX (On (Ws (Ws ?_))))
 refine aC.fC (fun j5 => ([(1,Cc (.pl 21 0)),(31,Bv j5)],[(21,.row 29 [[iC f.Graph.aG,xF aI f.Graph.aB,xF aK f.Places]])])) ?_ (fun j5 _ => ?_)
 ·refine Wr (aS (LT.gV Q jm) Q Q Q (bf (cO [iC f.Graph.aG,xF aI f.Graph.aB] Q lJ iR gu) Q Q Q Q (aQ fun r6 KR => (aP.pure (bQ [.agg [iC f.Graph.aG,xF aI f.Graph.aB]] (WZ f.Graph r6 KR) SL (FI y2) J y3) z2 J Q Q (aS (LT.not Q) Q Q Q (aF (Bv (!r6)) y4 (aP.split (fun hb7 => ?_) (fun hb7 => ?_))))))))
  ·refine aV hb7 y5 (aV hb7 y5 (aV hb7 y5 (aV hb7 y5 (dh (Bv true) hb7 aU (aF (Bv true) y4 (dD y5 (dD y5 (dD y5 (dD y5 (dD y5 (dD y5 ?_)))))))))))
   refine dD y5 (dh (Bv true) Q aU (aF (Bv true) y4 (dD y5 (dD y5 (dD y5 (dD y5 (dD y5 (dh (Bv true) Q aU (On (aW Q z2 z1))))))))))
  ·refine aS (LT.gV Q jm) Q (gH hb7 Q Q) Q (kR (iC f.Graph.aG) mQ ay hb7 iq (iT LT.gtr hb7 kE (gY (Bv (decide (6 < f.Graph.aG))) hb7 y5 (aF (Bv (decide (6 < f.Graph.aG))) y4 (aP.split (fun hb8 => ?_) (fun hb8 => ?_))))))
   ·refine aV hb8 y5 (aV hb8 y5 (aV hb8 y5 (aV hb8 y5 (aV hb8 y5 (aV hb8 y5 (aV hb8 y5 (dh (Bv true) hb8 aU (aF (Bv true) y4 (dD y5 (dD y5 (dD y5 ?_)))))))))))
    refine dD y5 (dD y5 (dh (Bv true) Q aU (On (aW Q z2 z1))))
   ·refine kR (xF aK f.Places) iy jC hb8 iq (aS (LT.fA Q sZ) Q (gH hb8 Q Q) Q (aS (LT.gV Q jm) Q (gH hb8 Q Q) Q (kR (iC f.Graph.aG) mQ ay hb8 iq (iT LT.neq hb8 y6 (gY (Bv ((f.Places.length : Int) != f.Graph.aG)) hb8 y5 (aF (Bv ((f.Places.length : Int) != f.Graph.aG)) y4 (aP.split (fun mW => ?_) (fun mW => ?_))))))))
    ·refine aV mW y5 (aV mW y5 (aV mW y5 (aV mW y5 (aV mW y5 (dh (Bv true) mW aU (On (aW Q z2 z1)))))))
    ·refine aS (LT.gV Q jm) Q (gH mW Q Q) Q (kR (xF aI f.Graph.aB) iJ iU mW iq (aS (LT.fA Q ig) Q (gH mW Q Q) Q (iT LT.gtr mW kE (gY (Bv (decide (15 < (f.Graph.aB.length : Int)))) mW y5 (On (aW Q z2 z1))))))
 ·refine aC.cond Q (fun TY => ?_) (fun TY => ?_)
  ·refine Ws (Wr ?_)
   refine aJ (Bv false) aX (On (aC.ret (aj.mk (.inr Q) z1 J Q ⟨au.sc,J⟩ J)))
  ·refine aC.skip (Ws (Ws (Wr ?_)))
   refine aJ (Iv 0) aX (On (aC.block ?_))
   refine aC.nV (id := 0) (IQ f) (fun s11 => ([(1,Cc (.pl 21 0)),(3,Iv s11)],[(21,.row 29 [[iC f.Graph.aG,xF aI f.Graph.aB,xF aK f.Places]])])) (fun XW => ([(1,Cc (.pl 21 0))],[(21,.row 29 [[iC f.Graph.aG,xF aI f.Graph.aB,xF aK f.Places]])])) (aj Try.prog Try.f12.results.toList [] [] (fun (t : Bool) => [.c (bC t)]) (fun (t : Bool) => [])) ?_ (aO.of z2 z1) Q (fun XW _ => ?_) (by intro r t σ m ht hk; injection ht with ht; subst ht; exact hk)
   ·intro s11
    unfold IQ
    refine Ws (Ws (Wr ?_))
    refine aF (Iv s11) y4 (fV (xF aK f.Places) iy jC bP (aS (LT.fA Q sZ) Q Q Q (aT LT.lss y5 (On (aC.cond Q (fun hc39 => ?_) (fun hc39 => ?_))))))
    ·refine aC.skip (Ws (aC.block (Ws ?_)))
     refine aC.fC (fun j45 => ([(1,Cc (.pl 21 0)),(3,Iv s11),(56,Bv j45)],[(21,.row 29 [[iC f.Graph.aG,xF aI f.Graph.aB,xF aK f.Places]])])) ?_ (fun j45 _ => ?_)
     ·refine Wr (fV (xF aK f.Places) iy jC bP (aF (Iv s11) y4 (aQ fun jd Uo => (dY (LT.dH (enc := aK) Q kG Uo iH) Q Q Q Q (aS (LT.sK Q rJ) Q Q Q (aS (LT.fO Q ay) Q Q Q (aQ fun QU hr47 => (aP.pure (bQ [.c (iC jd.X),.c (iC 0),.c (iC 4)] (DC jd.X 0 4 QU hr47) Au (vH y3) J y3) ⟨Q,Q,y2,y2,J⟩ J Q Q (aS (LT.not Q) Q Q Q (aF (Bv (!QU)) y4 ?_))))))))))
      refine aP.split (fun hb48 => ?_) (fun hb48 => ?_)
      ·refine aV hb48 y5 (aV hb48 y5 (aV hb48 y5 (aV hb48 y5 (aV hb48 y5 (aV hb48 y5 (aV hb48 y5 (aV hb48 y5 (dh (Bv true) hb48 aU (On (aW Q z3 z1))))))))))
      ·refine kR (xF aK f.Places) iy jC hb48 iq (gW (Iv s11) hb48 y5 (aQ fun Ae EJ => (dY (LT.dH (enc := aK) Q kG EJ iH) Q Q (gH hb48 Q Q) Q (aS (LT.sK Q sN) Q (gH hb48 Q Q) Q (aS (LT.fO Q ay) Q (gH hb48 Q Q) Q (aQ fun QV aFf => (aP.pure (bQ [.c (iC Ae.Y),.c (iC 0),.c (iC 4)] (DC Ae.Y 0 4 QV aFf) Au (vH y3) J y3) ⟨Q,Q,y2,y2,J⟩ J (gH hb48 Q Q) Q (aS (LT.not Q) Q (gH hb48 Q Q) Q (gY (Bv (!QV)) hb48 y5 (On ?_))))))))))
       refine aW Q z3 z1
     ·refine aC.cond Q (fun aEm => ?_) (fun aEm => ?_)
      ·refine Ws (Wr ?_)
       refine aJ (Bv false) aX (On (aC.ret ⟨Q,aj.mk (.inr Q) z1 J Q ⟨au.sc,J⟩ J⟩))
      ·refine aC.skip (aC.blk (Wr ?_))
       refine aF (Iv s11) y4 (aT LT.add aU (aJ (Iv (aA (s11 + 1))) y4 (On (aW Q z2 z1))))
    ·refine aC.eF Q ⟨Q,aO.of z1 z1⟩
   ·refine Ws (Ws (Wr ?_))
    refine aJ (Iv 0) aX (On (aC.block ?_))
    refine aC.nV (id := 2) (IU f) (fun rZ => ([(1,Cc (.pl 21 0)),(4,Iv rZ)],[(21,.row 29 [[iC f.Graph.aG,xF aI f.Graph.aB,xF aK f.Places]])])) (fun Jr => ([],[])) (aj Try.prog Try.f12.results.toList [] [] (fun (t : Bool) => [.c (bC t)]) (fun (t : Bool) => [])) ?_ (aO.of z2 z1) Q (fun Jr _ => ?_) (by intro r t σ m ht hk; injection ht with ht; subst ht; exact hk)
    ·intro rZ
     unfold IU
     refine Ws (Ws (Wr ?_))
     refine aF (Iv rZ) y4 (aS (LT.gV Q jm) Q Q Q (fV (xF aI f.Graph.aB) iJ iU bP (aS (LT.fA Q ig) Q Q Q (aT LT.lss y5 (On (aC.cond Q (fun UA => ?_) (fun UA => ?_)))))))
     ·refine aC.skip (Ws (aC.block (Ws (Wr ?_))))
      refine aS (LT.gV Q jm) Q Q Q (fV (xF aI f.Graph.aB) iJ iU bP (aF (Iv rZ) y4 (aQ fun x83 Gg => (dY (LT.dH (enc := aI) Q rH Gg fQ) Q Q Q Q (aS (LT.lF Q kZ (dK jO) (by exact fQ.symm)) Q Q Q (dP (LT.alloc (n := 25) (cells := [iC 0,iC 0]) Q jo Q Q Q) Q Q (dU (stA [iC x83.A,iC x83.B] Q Q jO fQ) Q Q Q Q Q (On (Ws ?_)))))))))
      refine aC.fC (fun j89 => ([(1,Cc (.pl 21 0)),(4,Iv rZ),(98,Bv j89)],[(21,.row 29 [[iC f.Graph.aG,xF aI f.Graph.aB,xF aK f.Places]])])) ?_ (fun j89 _ => ?_)
      ·refine en [(1,Cc (.pl 21 0)),(4,Iv rZ),(5,Cc (.pl 25 0))] [(21,.row 29 [[iC f.Graph.aG,xF aI f.Graph.aB,xF aK f.Places]]),(25,.row 96 [[iC x83.A,iC x83.B]])] z3 z2 (aC.draw mixed (eG (xF aK f.Places) iy jC bP (eG (iC x83.A) lS ay bP (aN.bind fun x90 hx90 => (dJ (LT.dH (enc := aK) Q kG hx90 iH) Q Q Q Q (bJ (LT.lF Q rF (dK nT) (by exact iH.symm)) Q Q Q (eG (xF aK f.Places) iy jC bP (bJ (LT.gV Q mV) Q Q Q ?_))))))))
       refine gQ (zk (iC x83.B) Q ay) Q Q Q Q (aN.bind fun x91 hx91 => (dJ (LT.dH (enc := aK) Q kG hx91 iH) Q Q Q Q (bJ (LT.lF Q rF (dK nT) (by exact iH.symm)) Q Q Q (dJ (LT.J6 [x90.X,x90.Y] [x91.X,x91.Y] Q LK Q Q) Q Q Q Q (ak (Bv (jS [x90.X,x90.Y] [x91.X,x91.Y])) y4 (aN.split (fun lT => ?_) (fun lT => ?_)))))))
       ·refine bT lT y3 (bT lT y3 (bT lT y3 (bK y3 (bK y3 (bK y3 (bK y3 (bK y3 (bK y3 (bK y3 (bK y3 (bK y3 ?_)))))))))))
        refine bT lT y3 (kL (Bv true) lT aU (aN.nil (by kernel_rfl) (aW Q z3 z1)))
       ·refine lG (Iv rZ) lT y5 (qg LT.gtr lT kE (lG (Bv (decide (0 < rZ))) lT y5 (aN.split (fun pX => ?_) (fun pX => ?_))))
        ·refine bJ (LT.gV Q jm) Q (gH pX Q Q) Q (qi (xF aI f.Graph.aB) iJ iU pX iq (lG (Iv rZ) pX y5 (qg LT.sub pX kE (aN.bind fun Ai aGq => (dJ (LT.dH (enc := aI) Q rH aGq fQ) Q Q (gH pX Q Q) Q (bJ (LT.lF Q kZ (dK jO) (by exact fQ.symm)) Q (gH pX Q Q) Q (gQ (cO [iC x83.A,iC x83.B] Q kZ jO fQ) Q Q (gH pX Q Q) Q (dJ (LT.J6 [Ai.A,Ai.B] [x83.A,x83.B] Q U5 Q Q) Q Q (gH pX Q Q) Q (dJ (LT.xJ (v := (Bv (jS [Ai.A,Ai.B] [x83.A,x83.B]))) Q pX) Q Q (gH lT Q Q) Q (mg (Bv (jS [Ai.A,Ai.B] [x83.A,x83.B])) lT y5 ?_))))))))))
         refine aN.nil (by kernel_rfl) (aW Q z3 z1)
        ·refine bT pX y3 (bT pX y3 (bT pX y3 (bT pX y3 (bT pX y3 (bT pX y3 (bT pX y3 (bT pX y3 (bT pX y3 (dJ (LT.wJ (v := (Bv false)) Q pX) Q y2 (gH lT Q Q) Q (mg (Bv false) lT y5 (aN.nil (by kernel_rfl) ?_)))))))))))
         refine aW Q z3 z1
      ·refine aC.cond Q (fun hc95 => ?_) (fun hc95 => ?_)
       ·refine Ws (Wr ?_)
        refine aJ (Bv false) aX (On (aC.ret ⟨Q,aj.mk (.inr Q) z1 J Q ⟨au.sc,J⟩ J⟩))
       ·refine aC.skip (aC.blk (Wr ?_))
        refine aF (Iv rZ) y4 (aT LT.add aU (aJ (Iv (aA (rZ + 1))) y4 (On (aW Q z2 z1))))
     ·refine aC.eF Q ⟨Q,aO.of J J⟩
    ·refine Ws (Wr ?_)
     refine aJ (Bv true) aX (On (aC.ret (aj.mk (.inr Q) z1 J Q ⟨au.sc,J⟩ J)))
theorem aB8 (f : aZ) : FT Try.prog (Ia f) 135 [.agg [iC f.Graph.aG,xF aI f.Graph.aB,xF aK f.Places]] [] (fun (t : (List (List Int))) => [.c (lo 0 t.length)]) (fun (t : (List (List Int))) => [(0,pR 37 (bI true) t)]) [0] := by
 refine FT.AB [] Try.func135 Try.ntmps135 Q y2 ?_
 intro w0 U0 R0 g0 hU
 unfold Ia
 refine Ws (Wr ?_)
 refine fK (LT.box (n := 21) (v := (.agg [iC f.Graph.aG,xF aI f.Graph.aB,xF aK f.Places])) Q bU (by exact Q)) Q Q Q (aJ (Cc (sC ah)) aX (On (Ws (Wr ?_))))
 refine dP (LT.fZ (n := 22) (enc := (bI true)) [] ([] : List (List Int)) Q Q gy kX Q Q Q Q (by decide) (fun _ => Q) Q) Q Q (aJ (Cc (lo 22 (([] : List (List Int)).length))) y4 (On (Ws (Ws (Wr ?_)))))
 refine aJ (Iv 0) aX (On (aC.block ?_))
 refine aC.iW (id := 0) (BZ f) (fun s1 => ([(1,Cc (.pl 21 0)),(3,Cc (lo 22 s1.2.length)),(4,Iv s1.1)],[(21,.row 29 [[iC f.Graph.aG,xF aI f.Graph.aB,xF aK f.Places]]),(22,pR 37 (bI true) s1.2)])) (fun oW => ([(3,Cc (lo 22 oW.length))],[(22,pR 37 (bI true) oW)])) ?_ (aO.of z3 z2) Q (fun oW _ => ?_)
 ·intro s1
  unfold BZ
  refine Ws (Ws ?_)
  refine aC.fC (fun j39 => ([(1,Cc (.pl 21 0)),(3,Cc (lo 22 s1.2.length)),(4,Iv s1.1),(19,Bv j39)],[(21,.row 29 [[iC f.Graph.aG,xF aI f.Graph.aB,xF aK f.Places]]),(22,pR 37 (bI true) s1.2)])) ?_ (fun j39 _ => ?_)
  ·refine Wr (aF (Iv s1.1) y4 (aS (LT.gV Q jm) Q Q Q (fV (xF aI f.Graph.aB) iJ iU bP (aS (LT.fA Q ig) Q Q Q (aT LT.lss y5 (aF (Bv (decide (s1.1 < (f.Graph.aB.length : Int)))) y4 (aP.split (fun D5 => ?_) (fun D5 => ?_))))))))
   ·refine bf (cO [iC f.Graph.aG,xF aI f.Graph.aB,xF aK f.Places] Q dW bn bU) Q Q (gH D5 Q Q) Q (aQ fun QT aFd => (aP.pure (bQ [.agg [iC f.Graph.aG,xF aI f.Graph.aB,xF aK f.Places]] (C9 f QT aFd) Ar (mO y3) J y3) z2 J (gH D5 Q Q) Q (dh (Bv QT) D5 y5 (On (aW Q z4 z2)))))
   ·refine aV D5 y5 (aV D5 y5 (gY (Bv false) D5 aU (On (aW Q z4 z2))))
  ·refine aC.cond Q (fun Tm => ?_) (fun Tm => ?_)
   ·refine aC.skip (Ws (aC.block (Ws (Wr ?_))))
    refine aS (LT.gV Q jm) Q Q Q (fV (xF aI f.Graph.aB) iJ iU bP (aF (Iv s1.1) y4 (aQ fun x43 zY => (dY (LT.dH (enc := aI) Q rH zY fQ) Q Q Q Q (aS (LT.lF Q kZ (dK jO) (by exact fQ.symm)) Q Q Q (dP (LT.alloc (n := 24) (cells := [iC 0,iC 0]) Q jo Q Q Q) Q Q (dU (stA [iC x43.A,iC x43.B] Q Q jO fQ) Q Q Q Q Q (On (Ws ?_)))))))))
    refine en [(1,Cc (.pl 21 0)),(3,Cc (lo 22 s1.2.length)),(4,Iv s1.1),(5,Cc (.pl 24 0))] [(21,.row 29 [[iC f.Graph.aG,xF aI f.Graph.aB,xF aK f.Places]]),(22,pR 37 (bI true) s1.2),(24,.row 96 [[iC x43.A,iC x43.B]])] z4 z3 (Wr (aS (LT.gV Q jm) Q Q Q (fV (iC f.Graph.aG) mQ ay bP (aT LT.mul nP (aQ fun u44 KX => (wV (LT.Jb (n := 25) (enc := aH) (zc := [iC 0]) (0 : Int) Q bZ eu Q Q Q (by decide) (by decide) (EO KX) Q) Q Q Q Q (aJ (Cc (lo 25 ((List.replicate (aA (2 * f.Graph.aG)).toNat (0 : Int)).length))) y4 (On (Ws (aC.draw mixed ?_))))))))))
    refine eG (xF aK f.Places) iy jC bP (eG (iC x43.A) lS ay bP (aN.bind fun jY GZ => (dJ (LT.dH (enc := aK) Q kG GZ iH) Q Q Q Q (bJ (LT.sK Q rJ) Q Q Q (bJ (LT.fO Q ay) Q Q Q (eG (xF aK f.Places) iy jC bP (eG (iC x43.B) mV ay bP ?_)))))))
    refine aN.bind fun jd Uo => (dJ (LT.dH (enc := aK) Q kG Uo iH) Q Q Q Q (bJ (LT.sK Q rJ) Q Q Q (bJ (LT.fO Q ay) Q Q Q (iE LT.sub y5 (bJ (LT.assign (v := (Iv (aA (jY.X - jd.X)))) Q) Q Q Q (aN.nil (by kernel_rfl) (Ws (en [(1,Cc (.pl 21 0)),(3,Cc (lo 22 s1.2.length)),(4,Iv s1.1),(5,Cc (.pl 24 0)),(6,Cc (lo 25 ((List.replicate (aA (2 * f.Graph.aG)).toNat (0 : Int)).length))),(7,Iv (aA (jY.X - jd.X)))] [(21,.row 29 [[iC f.Graph.aG,xF aI f.Graph.aB,xF aK f.Places]]),(22,pR 37 (bI true) s1.2),(24,.row 96 [[iC x43.A,iC x43.B]]),(25,pR 3 aH (List.replicate (aA (2 * f.Graph.aG)).toNat (0 : Int)))] z6 z4 (aC.draw mixed (eG (xF aK f.Places) iy jC bP ?_))))))))))
    refine eG (iC x43.A) lS ay bP (aN.bind fun lV aGe => (dJ (LT.dH (enc := aK) Q kG aGe iH) Q Q Q Q (bJ (LT.sK Q sN) Q Q Q (bJ (LT.fO Q ay) Q Q Q (eG (xF aK f.Places) iy jC bP (eG (iC x43.B) mV ay bP (aN.bind fun jH Ur => (dJ (LT.dH (enc := aK) Q kG Ur iH) Q Q Q Q ?_))))))))
    refine bJ (LT.sK Q sN) Q Q Q (bJ (LT.fO Q ay) Q Q Q (iE LT.sub y5 (bJ (LT.assign (v := (Iv (aA (lV.Y - jH.Y)))) Q) Q Q Q (aN.nil (by kernel_rfl) (Ws (en [(1,Cc (.pl 21 0)),(3,Cc (lo 22 s1.2.length)),(4,Iv s1.1),(5,Cc (.pl 24 0)),(6,Cc (lo 25 ((List.replicate (aA (2 * f.Graph.aG)).toNat (0 : Int)).length))),(7,Iv (aA (jY.X - jd.X))),(8,Iv (aA (lV.Y - jH.Y)))] [(21,.row 29 [[iC f.Graph.aG,xF aI f.Graph.aB,xF aK f.Places]]),(22,pR 37 (bI true) s1.2),(24,.row 96 [[iC x43.A,iC x43.B]]),(25,pR 3 aH (List.replicate (aA (2 * f.Graph.aG)).toNat (0 : Int)))] z7 z4 (Wr (aF (Cc (lo 25 ((List.replicate (aA (2 * f.Graph.aG)).toNat (0 : Int)).length))) y4 (fV (iC x43.A) lS ay bP (aT LT.mul nP ?_))))))))))
    refine aF (Iv (aA (jY.X - jd.X))) y4 (aQ fun Ae EJ => (iK (LT.iG Q Q dR EJ) Q Q Q Q Q (dU (LT.nN (k := 0) (v := (.c (iC (aA (jY.X - jd.X))))) (b' := (aA (jY.X - jd.X))) Q Q (dK nI) fM (by exact Q) EJ (by exact Q) (by exact K Q) (by exact Q)) Q Q Q Q Q (On (Ws (Wr ?_))))))
    refine aF (Cc (lo 25 ((List.replicate (aA (2 * f.Graph.aG)).toNat (0 : Int)).length))) y4 (fV (iC x43.A) lS ay bP (aT LT.mul nP (aT LT.add aU (aF (Iv (aA (lV.Y - jH.Y))) y4 (aQ fun nR Gf => (iK (LT.iG (show (List.replicate (aA (2 * f.Graph.aG)).toNat (0 : Int)).length = ((List.replicate (aA (2 * f.Graph.aG)).toNat (0 : Int)).set (aA (2 * x43.A)).toNat (aA (jY.X - jd.X))).length by simp only [List.length_set]) Q dR Gf) Q Q Q Q Q (dU (LT.nN (k := 0) (v := (.c (iC (aA (lV.Y - jH.Y))))) (b' := (aA (lV.Y - jH.Y))) Q Q (dK nI) fM (by exact Q) Gf (by exact Q) (by exact K Q) (by exact Q)) Q Q Q Q Q (On (Ws ?_)))))))))
    refine en [(1,Cc (.pl 21 0)),(3,Cc (lo 22 s1.2.length)),(4,Iv s1.1),(5,Cc (.pl 24 0)),(6,Cc (lo 25 ((List.replicate (aA (2 * f.Graph.aG)).toNat (0 : Int)).length))),(7,Iv (aA (jY.X - jd.X))),(8,Iv (aA (lV.Y - jH.Y)))] [(21,.row 29 [[iC f.Graph.aG,xF aI f.Graph.aB,xF aK f.Places]]),(22,pR 37 (bI true) s1.2),(24,.row 96 [[iC x43.A,iC x43.B]]),(25,pR 3 aH (((List.replicate (aA (2 * f.Graph.aG)).toNat (0 : Int)).set (aA (2 * x43.A)).toNat (aA (jY.X - jd.X))).set (aA ((aA (2 * x43.A)) + 1)).toNat (aA (lV.Y - jH.Y))))] z7 z4 (Wr (aF (Cc (lo 25 ((List.replicate (aA (2 * f.Graph.aG)).toNat (0 : Int)).length))) y4 (fV (iC x43.B) mV ay bP (aT LT.mul nP (aF (Iv (aA (jY.X - jd.X))) y4 (aS (LT.neg Q) Q Q Q (aQ fun Jg PW => (iK (LT.iG (show (List.replicate (aA (2 * f.Graph.aG)).toNat (0 : Int)).length = (((List.replicate (aA (2 * f.Graph.aG)).toNat (0 : Int)).set (aA (2 * x43.A)).toNat (aA (jY.X - jd.X))).set (aA ((aA (2 * x43.A)) + 1)).toNat (aA (lV.Y - jH.Y))).length by simp only [List.length_set]) Q dR PW) Q Q Q Q Q (dU (LT.nN (k := 0) (v := (.c (iC (aA (-(aA (jY.X - jd.X))))))) (b' := (aA (-(aA (jY.X - jd.X))))) Q Q (dK nI) fM (by exact Q) PW (by exact Q) (by exact K Q) (by exact Q)) Q Q Q Q Q (On (Ws (Wr ?_))))))))))))
    refine aF (Cc (lo 25 ((List.replicate (aA (2 * f.Graph.aG)).toNat (0 : Int)).length))) y4 (fV (iC x43.B) mV ay bP (aT LT.mul nP (aT LT.add aU (aF (Iv (aA (lV.Y - jH.Y))) y4 (aS (LT.neg Q) Q Q Q (aQ fun N7 PX => (iK (LT.iG (show (List.replicate (aA (2 * f.Graph.aG)).toNat (0 : Int)).length = ((((List.replicate (aA (2 * f.Graph.aG)).toNat (0 : Int)).set (aA (2 * x43.A)).toNat (aA (jY.X - jd.X))).set (aA ((aA (2 * x43.A)) + 1)).toNat (aA (lV.Y - jH.Y))).set (aA (2 * x43.B)).toNat (aA (-(aA (jY.X - jd.X))))).length by simp only [List.length_set]) Q dR PX) Q Q Q Q Q (dU (LT.nN (k := 0) (v := (.c (iC (aA (-(aA (lV.Y - jH.Y))))))) (b' := (aA (-(aA (lV.Y - jH.Y))))) Q Q (dK nI) fM (by exact Q) PX (by exact Q) (by exact K Q) (by exact Q)) Q Q Q Q Q (On (en [(1,Cc (.pl 21 0)),(3,Cc (lo 22 s1.2.length)),(4,Iv s1.1),(6,Cc (lo 25 ((List.replicate (aA (2 * f.Graph.aG)).toNat (0 : Int)).length)))] [(21,.row 29 [[iC f.Graph.aG,xF aI f.Graph.aB,xF aK f.Places]]),(22,pR 37 (bI true) s1.2),(25,pR 3 aH (((((List.replicate (aA (2 * f.Graph.aG)).toNat (0 : Int)).set (aA (2 * x43.A)).toNat (aA (jY.X - jd.X))).set (aA ((aA (2 * x43.A)) + 1)).toNat (aA (lV.Y - jH.Y))).set (aA (2 * x43.B)).toNat (aA (-(aA (jY.X - jd.X))))).set (aA ((aA (2 * x43.B)) + 1)).toNat (aA (-(aA (lV.Y - jH.Y))))))] z4 z3 ?_))))))))))
    refine Wr (aF (Cc (lo 22 s1.2.length)) y4 (aF (Cc (lo 25 ((List.replicate (aA (2 * f.Graph.aG)).toNat (0 : Int)).length))) y4 (aP.ent (aO.Az (enc := aH) 92 25 hU Q (show (List.replicate (aA (2 * f.Graph.aG)).toNat (0 : Int)).length = (((((List.replicate (aA (2 * f.Graph.aG)).toNat (0 : Int)).set (aA (2 * x43.A)).toNat (aA (jY.X - jd.X))).set (aA ((aA (2 * x43.A)) + 1)).toNat (aA (lV.Y - jH.Y))).set (aA (2 * x43.B)).toNat (aA (-(aA (jY.X - jd.X))))).set (aA ((aA (2 * x43.B)) + 1)).toNat (aA (-(aA (lV.Y - jH.Y))))).length by simp only [List.length_set]) Q Q) (fK (LT.fZ (n := 26) (enc := (bI true)) [(0,.tmp 92,.c (xT aH (((((List.replicate (aA (2 * f.Graph.aG)).toNat (0 : Int)).set (aA (2 * x43.A)).toNat (aA (jY.X - jd.X))).set (aA ((aA (2 * x43.A)) + 1)).toNat (aA (lV.Y - jH.Y))).set (aA (2 * x43.B)).toNat (aA (-(aA (jY.X - jd.X))))).set (aA ((aA (2 * x43.B)) + 1)).toNat (aA (-(aA (lV.Y - jH.Y)))))))] [((((List.replicate (aA (2 * f.Graph.aG)).toNat (0 : Int)).set (aA (2 * x43.A)).toNat (aA (jY.X - jd.X))).set (aA ((aA (2 * x43.A)) + 1)).toNat (aA (lV.Y - jH.Y))).set (aA (2 * x43.B)).toNat (aA (-(aA (jY.X - jd.X))))).set (aA ((aA (2 * x43.B)) + 1)).toNat (aA (-(aA (lV.Y - jH.Y))))] Q Q gy kX Q Q Q Q (by decide) (fun _ => Q) Q) Q Q Q (aQ fun u53 aGP => (nS (LT.lI (enc := (bI true)) Q Q Q gy kX Q (by decide) (by decide) (fun _ => Q) (jU aGP)) Q Q Q Q Q Q (aJ (Cc (lo 22 ((s1.2 ++ [((((List.replicate (aA (2 * f.Graph.aG)).toNat (0 : Int)).set (aA (2 * x43.A)).toNat (aA (jY.X - jd.X))).set (aA ((aA (2 * x43.A)) + 1)).toNat (aA (lV.Y - jH.Y))).set (aA (2 * x43.B)).toNat (aA (-(aA (jY.X - jd.X))))).set (aA ((aA (2 * x43.B)) + 1)).toNat (aA (-(aA (lV.Y - jH.Y))))]).length))) y4 (On (aC.blk (Wr ?_))))))))))
    refine aF (Iv s1.1) y4 (aT LT.add aU (aJ (Iv (aA (s1.1 + 1))) y4 (On (aW Q z3 z2))))
   ·refine aC.eF Q ⟨Q,aO.of z1 z1⟩
 ·refine Ws (Wr ?_)
  refine aF (Cc (lo 22 oW.length)) y4 (aJ (Cc (lo 22 oW.length)) y4 (On (en [(2,Cc (lo 22 oW.length))] [(22,pR 37 (bI true) oW)] z1 z1 (aC.ent (aO.mv 22 0 Q Q) (en [(2,Cc (lo 0 oW.length))] [(0,pR 37 (bI true) oW)] z1 z1 (aC.ret (aj.mk (.inr Q) z1 z1 Q ⟨J,J⟩ ⟨dG.gm Bz,J⟩)))))))
theorem aCC (f : aZ) : FT Try.prog (Ih f) 85 [.agg [iC f.Graph.aG,xF aI f.Graph.aB,xF aK f.Places]] [] (fun (t : (List (List Int))) => [.c (lo 0 t.length)]) (fun (t : (List (List Int))) => [(0,.ax 37 1 (af t)),(1,.pool 3 (rowsOf aH t))]) [0,1] := by
 refine FT.of [] Try.func85 Try.ntmps85 Q y2 ?_
 intro w0 U0 R0 g0
 unfold Ih
 refine Ws (Wr ?_)
 refine fK (LT.box (n := 21) (v := (.agg [iC f.Graph.aG,xF aI f.Graph.aB,xF aK f.Places])) Q bU (by exact Q)) Q Q Q (aJ (Cc (sC ah)) aX (On (Ws (Wr ?_))))
 refine bf (cO [iC f.Graph.aG,xF aI f.Graph.aB,xF aK f.Places] Q dW bn bU) Q Q Q Q (aQ fun r1 hr1 => (aP.step (bQ [.agg [iC f.Graph.aG,xF aI f.Graph.aB,xF aK f.Places]] (Fw.Fn.ren [(0,23)] (aB8 f r1 hr1) Q) Xo (mO y3) J y3) z2 J Q Q (aJ (Cc (lo 23 r1.length)) y4 (On (Ws (Wr ?_))))))
 refine dP (LT.buildSlice (n := 24) (els := []) [] Q Q gy kX Q Q Q Q (by decide) Q Q) Q Q (aJ (Cc (lo 24 0)) y4 (On (aC.ent (aO.E5 25 3 Q) (aC.ent (aO.ax (n := 24) (p := 25) (lens := af ([] : List (List Int))) (List.append_nil _) Q) (Ws (Ws (Wr ?_)))))))
 refine aJ (Iv 0) aX (On (aC.block ?_))
 refine aC.iW (id := 0) (Bc f) (fun s2 => ([(1,Cc (.pl 21 0)),(3,Cc (lo 23 s2.2.1.length)),(4,Cc (lo 24 s2.2.2.length)),(5,Iv s2.1)],[(21,.row 29 [[iC f.Graph.aG,xF aI f.Graph.aB,xF aK f.Places]]),(23,pR 37 (bI true) s2.2.1),(24,.ax 37 25 (af s2.2.2)),(25,.pool 3 (rowsOf aH s2.2.2))])) (fun uO => ([(4,Cc (lo 24 uO.length))],[(24,.ax 37 25 (af uO)),(25,.pool 3 (rowsOf aH uO))])) ?_ (aO.of z4 z4) Q (fun uO _ => ?_)
 ·intro s2
  unfold Bc
  refine Ws (Ws ?_)
  refine aC.fC (fun j35 => ([(1,Cc (.pl 21 0)),(3,Cc (lo 23 s2.2.1.length)),(4,Cc (lo 24 s2.2.2.length)),(5,Iv s2.1),(21,Bv j35)],[(21,.row 29 [[iC f.Graph.aG,xF aI f.Graph.aB,xF aK f.Places]]),(23,pR 37 (bI true) s2.2.1),(24,.ax 37 25 (af s2.2.2)),(25,.pool 3 (rowsOf aH s2.2.2))])) ?_ (fun j35 _ => ?_)
  ·refine Wr (aF (Iv s2.1) y4 (aS (LT.gV Q jm) Q Q Q (fV (iC f.Graph.aG) mQ ay bP (aT LT.mul nP (aT LT.lss y5 (aF (Bv (decide (s2.1 < (aA (2 * f.Graph.aG))))) y4 (aP.split (fun zL => ?_) (fun zL => ?_))))))))
   ·refine gW (Cc (lo 23 s2.2.1.length)) zL y5 (aS (LT.jg Q gy) Q (gH zL Q Q) Q (iT LT.gtr zL kE (dh (Bv (decide (0 < (s2.2.1.length : Int)))) zL y5 (On (aW Q z5 z4)))))
   ·refine aV zL y5 (aV zL y5 (aV zL y5 (gY (Bv false) zL aU (On (aW Q z5 z4)))))
  ·refine aC.cond Q (fun Tj => ?_) (fun Tj => ?_)
   ·refine aC.skip (Ws (aC.block (Ws (Wr ?_))))
    refine dP (LT.fZ (n := 26) (enc := aH) [] ([] : List Int) Q Q bZ eu Q Q Q Q (by decide) (fun _ => Q) Q) Q Q (aJ (Cc (lo 26 (([] : List Int).length))) y4 (On (Ws (Ws (Wr ?_)))))
    refine aJ (Iv 0) aX (On (aC.block ?_))
    refine aC.iW (id := 2) (Ii s2) (fun jL => ([(1,Cc (.pl 21 0)),(3,Cc (lo 23 s2.2.1.length)),(4,Cc (lo 24 s2.2.2.length)),(5,Iv s2.1),(6,Cc (lo 26 jL.2.length)),(7,Iv jL.1)],[(21,.row 29 [[iC f.Graph.aG,xF aI f.Graph.aB,xF aK f.Places]]),(23,pR 37 (bI true) s2.2.1),(24,.ax 37 25 (af s2.2.2)),(25,.pool 3 (rowsOf aH s2.2.2)),(26,pR 3 aH jL.2)])) (fun lQ => ([(1,Cc (.pl 21 0)),(3,Cc (lo 23 lQ.2.1.length)),(4,Cc (lo 24 lQ.2.2.1.length)),(5,Iv lQ.1),(6,Cc (lo 26 lQ.2.2.2.length))],[(21,.row 29 [[iC f.Graph.aG,xF aI f.Graph.aB,xF aK f.Places]]),(23,pR 37 (bI true) lQ.2.1),(24,.ax 37 25 (af lQ.2.2.1)),(25,.pool 3 (rowsOf aH lQ.2.2.1)),(26,pR 3 aH lQ.2.2.2)])) ?_ (aO.of z6 z5) Q (fun lQ _ => ?_)
    ·intro jL
     unfold Ii
     refine Ws (Ws (Wr ?_))
     refine aF (Iv jL.1) y4 (aF (Cc (lo 23 s2.2.1.length)) y4 (aS (LT.jg Q gy) Q Q Q (aT LT.lss y5 (On (aC.cond Q (fun KG => ?_) (fun KG => ?_))))))
     ·refine aC.skip (Ws (aC.block (Wr ?_)))
      refine aF (Cc (lo 26 jL.2.length)) y4 (aF (Cc (lo 23 s2.2.1.length)) y4 (aF (Iv jL.1) y4 (aQ fun Ae EJ => (iK (LT.iG Q Q iL EJ) Q Q Q Q Q (bf (LT.lU (k := 0) Q jR EJ (by exact Q) (by exact Q)) Q Q Q Q (aF (Iv s2.1) y4 (aQ fun nR Gf => (dY (LT.dH (enc := aH) Q dR Gf fM) Q Q Q Q (aS (LT.fO Q ay) Q Q Q (fK (LT.fZ (n := 27) (enc := aH) [(0,.tmp 38,.c (iC nR))] ([nR] : List Int) Q Q bZ eu Q Q Q Q (by decide) (fun _ => Q) Q) Q Q Q (aQ fun u51 aGN => ?_)))))))))))
      refine nS (LT.lI (enc := aH) Q Q Q bZ eu Q (by decide) (by decide) (fun _ => Q) (jU aGN)) Q Q Q Q Q Q (aJ (Cc (lo 26 ((jL.2 ++ ([nR] : List Int)).length))) y4 (On (aC.blk ?_)))
      refine en [(1,Cc (.pl 21 0)),(3,Cc (lo 23 s2.2.1.length)),(4,Cc (lo 24 s2.2.2.length)),(5,Iv s2.1),(6,Cc (lo 26 ((jL.2 ++ ([nR] : List Int)).length))),(7,Iv jL.1)] [(21,.row 29 [[iC f.Graph.aG,xF aI f.Graph.aB,xF aK f.Places]]),(23,pR 37 (bI true) s2.2.1),(24,.ax 37 25 (af s2.2.2)),(25,.pool 3 (rowsOf aH s2.2.2)),(26,pR 3 aH (jL.2 ++ ([nR] : List Int)))] z6 z5 (Wr (aF (Iv jL.1) y4 (aT LT.add aU (aJ (Iv (aA (jL.1 + 1))) y4 (On (aW Q z6 z5))))))
     ·refine aC.eF Q ⟨Q,aO.of z5 z5⟩
    ·refine Wr (aF (Cc (lo 24 lQ.2.2.1.length)) y4 (aF (Cc (lo 26 lQ.2.2.2.length)) y4 (fK (LT.buildSlice (n := 28) (els := [[lo 26 lQ.2.2.2.length]]) [(0,.tmp 42,.c (lo 26 lQ.2.2.2.length))] Q Q gy kX Q Q Q Q (by decide) Q Q) Q Q Q (aQ fun u52 aGO => (nS (LT.N8 Q Q Q gy kX Q (by decide) (by decide) Q (jU aGO)) Q Q Q Q Q Q (aJ (Cc (lo 24 (lQ.2.2.1.length + 1))) y4 (On (aC.ent (aO.Cb (enc := aH) (n := 24) (m := 26) (p := 25) (rows := lQ.2.2.1) (r := lQ.2.2.2) (rest := []) Q Q Q Q Q Q) (aC.ent (aO.ax (n := 24) (p := 25) (lens := af (lQ.2.2.1 ++ [lQ.2.2.2])) (List.append_nil _) Q) (aC.blk (Wr ?_)))))))))))
     refine aF (Iv lQ.1) y4 (aT LT.add aU (aJ (Iv (aA (lQ.1 + 1))) y4 (On (aC.nil ⟨Q,aO.of ⟨Q,Q,congrArg (fun l1 => (some (AV.s (.c (lo 24 l1))) : Option AV)) (show (lQ.2.2.1.length + 1) = (lQ.2.2.1 ++ [lQ.2.2.2]).length from LV),Q,J⟩ z4⟩))))
   ·refine aC.eF Q ⟨Q,aO.of z1 z2⟩
 ·refine Ws (Wr ?_)
  refine aF (Cc (lo 24 uO.length)) y4 (aJ (Cc (lo 24 uO.length)) y4 (On (en [(2,Cc (lo 24 uO.length))] [(24,.ax 37 25 (af uO)),(25,.pool 3 (rowsOf aH uO))] z1 z2 (aC.ent (aO.mv 24 0 Q Q) (aC.ent (aO.mv 25 1 Q Q) (en [(2,Cc (lo 0 uO.length))] [(0,.ax 37 1 (af uO)),(1,.pool 3 (rowsOf aH uO))] z1 z2 (aC.ret (aj.mk (.inr Q) z1 z2 Q ⟨J,J⟩ ⟨J,dG.xK jb _,J⟩))))))))
theorem RG (a : Int) (b : Int) : FT Try.prog (yO a b) 162 [.c (iC a),.c (iC b)] [] (fun (t : Int) => [.c (iC t)]) (fun (t : Int) => []) [] := by
 refine FT.of [] Try.func162 Try.ntmps162 Q y2 ?_
 intro w0 U0 R0 g0
 unfold yO
 refine Ws (Wr ?_)
 refine aJ (Iv 0) aX (On (Ws (Ws ?_)))
 refine aC.fC (fun j4 => ([(0,Iv a),(1,Iv b),(13,Bv j4)],[])) ?_ (fun j4 _ => ?_)
 ·refine Wr (aF (Iv a) y4 (aQ fun r5 vV => (aP.pure (bQ [.c (iC a),.c (iC (-9000000000000000000)),.c (iC 9000000000000000000)] (DC a (-9000000000000000000) 9000000000000000000 r5 vV) Au (vH y3) J y3) ⟨Q,Q,y2,y2,J⟩ J Q Q (aS (LT.not Q) Q Q Q (aF (Bv (!r5)) y4 (aP.split (fun hb6 => ?_) (fun hb6 => ?_)))))))
  ·refine aV hb6 y5 (aV hb6 y5 (aV hb6 y5 (dh (Bv true) hb6 aU (On (aW Q z3 J)))))
  ·refine gW (Iv b) hb6 y5 (aQ fun r7 tY => (aP.pure (bQ [.c (iC b),.c (iC (-9000000000000000000)),.c (iC 9000000000000000000)] (DC b (-9000000000000000000) 9000000000000000000 r7 tY) Au (vH y3) J y3) ⟨Q,Q,y2,y2,J⟩ J (gH hb6 Q Q) Q (aS (LT.not Q) Q (gH hb6 Q Q) Q (gY (Bv (!r7)) hb6 y5 (On (aW Q z3 J))))))
 ·refine aC.cond Q (fun hc8 => ?_) (fun hc8 => ?_)
  ·refine Ws (Wr ?_)
   refine aJ (Iv 0) aX (On (aC.ret (aj.mk (.inr Q) z1 J Q ⟨au.sc,J⟩ J)))
  ·refine aC.skip (Ws (Wr ?_))
   refine aF (Iv a) y4 (aF (Iv a) y4 (aS (LT.neg Q) Q Q Q (aT LT.max y5 (aJ (Iv (if a < (aA (-a)) then (aA (-a)) else a)) y4 (On (Ws (Wr ?_)))))))
   refine aF (Iv b) y4 (aF (Iv b) y4 (aS (LT.neg Q) Q Q Q (aT LT.max y5 (aJ (Iv (if b < (aA (-b)) then (aA (-b)) else b)) y4 (On (Ws (aC.block ?_)))))))
   refine aC.iW (id := 0) MI (fun s9 => ([(0,Iv s9.1),(1,Iv s9.2)],[])) (fun b14 => ([(0,Iv b14)],[])) ?_ (aO.of z2 J) Q (fun b14 _ => ?_)
   ·intro s9
    unfold MI
    refine Ws (Ws (Wr ?_))
    refine aF (Iv s9.2) y4 (aT LT.gtr aU (On (aC.cond Q (fun KF => ?_) (fun KF => ?_))))
    ·refine aC.skip (aC.block (Ws (Wr ?_)))
     refine aF (Iv s9.1) y4 (aF (Iv s9.2) y4 (aQ fun u16 Ue => (dY (LT.rem Q (uq Ue)) Q Q Q Q (aJ (Iv (Int.tmod s9.1 s9.2)) y4 (On (Ws (Wr ?_)))))))
     refine aF (Iv s9.2) y4 (aJ (Iv s9.2) y4 (On (Wr ?_)))
     refine aF (Iv (Int.tmod s9.1 s9.2)) y4 (aJ (Iv (Int.tmod s9.1 s9.2)) y4 (On (aC.blk ?_)))
     refine aW Q z2 J
    ·refine aC.eF Q ⟨Q,aO.of z1 J⟩
   ·refine Ws (Wr ?_)
    refine aF (Iv b14) y4 (aJ (Iv b14) y4 (On (aC.ret (aj.mk (.inr Q) z1 J Q ⟨au.sc,J⟩ J))))
theorem aB7 (v : (List Int)) : FT Try.prog (IW v) 163 [.c (xF aH v)] [] (fun (t : (List Int)) => [.c (lo 0 t.length)]) (fun (t : (List Int)) => [(0,pR 3 aH t)]) [0] := by
 refine FT.of [] Try.func163 Try.ntmps163 Q y2 ?_
 intro w0 U0 R0 g0
 unfold IW
 refine Ws (Wr ?_)
 refine aJ (Cc (sC ah)) aX (On (Ws (Wr ?_)))
 refine aJ (Iv 0) aX (On (Ws (Ws (Wr ?_))))
 refine aJ (Iv 0) aX (On (aC.block ?_))
 refine aC.nV (id := 0) (IX v) (fun s1 => ([(0,Cc (xF aH v)),(3,Iv s1.1),(4,Iv s1.2)],[])) (fun b16 => ([(0,Cc (xF aH v)),(3,Iv b16)],[])) (aj Try.prog Try.f163.results.toList [] [0] (fun (t : (List Int)) => [.c (lo 0 t.length)]) (fun (t : (List Int)) => [(0,pR 3 aH t)])) ?_ (aO.of z3 J) Q (fun b16 _ => ?_) (by intro r t σ m ht hk; injection ht with ht; subst ht; exact hk)
 ·intro s1
  unfold IX
  refine Ws (Ws (Wr ?_))
  refine aF (Iv s1.2) y4 (aF (Cc (xF aH v)) y4 (aS (LT.fA Q bZ) Q Q Q (aT LT.lss y5 (On (aC.cond Q (fun hc17 => ?_) (fun hc17 => ?_))))))
  ·refine aC.skip (Ws (aC.block (Ws (Ws (Wr ?_)))))
   refine aF (Cc (xF aH v)) y4 (aF (Iv s1.2) y4 (aQ fun x18 wE => (dY (LT.dH (enc := aH) Q dR wE fM) Q Q Q Q (aS (LT.fO Q ay) Q Q Q (aQ fun Vk aFV => (aP.pure (bQ [.c (iC x18),.c (iC (-9000000000000000000)),.c (iC 9000000000000000000)] (DC x18 (-9000000000000000000) 9000000000000000000 Vk aFV) Au (vH y3) J y3) ⟨Q,Q,y2,y2,J⟩ J Q Q (aS (LT.not Q) Q Q Q (On (aC.cond Q (fun Tf => ?_) (fun Tf => ?_))))))))))
   ·refine Ws (Wr ?_)
    refine dP (LT.fZ (n := 22) (enc := aH) [] ([] : List Int) Q Q bZ eu Q Q Q Q (by decide) (fun _ => Q) Q) Q Q (aF (Cc (xF aH v)) y4 (aQ fun u21 hu21 => (dU (LT.Ja (enc := aH) Q  Q bZ eu Q (by decide) (by decide) (fun _ => Q) (jU hu21)) Q Q Q Q Q (aJ (Cc (lo 22 ((([] : List Int) ++ v).length))) y4 (On (en [(2,Cc (lo 22 ((([] : List Int) ++ v).length)))] [(22,pR 3 aH (([] : List Int) ++ v))] z1 z1 (aC.ent (aO.mv 22 0 Q Q) (en [(2,Cc (lo 0 ((([] : List Int) ++ v).length)))] [(0,pR 3 aH (([] : List Int) ++ v))] z1 z1 (aC.ret ⟨Q,aj.mk (.inr Q) z1 z1 Q ⟨J,J⟩ ⟨dG.gm jb,J⟩⟩)))))))))
   ·refine aC.skip (Wr ?_)
    refine aF (Iv s1.1) y4 (aF (Cc (xF aH v)) y4 (aF (Iv s1.2) y4 (aQ fun vM Um => (dY (LT.dH (enc := aH) Q dR Um fM) Q Q Q Q (aS (LT.fO Q ay) Q Q Q (aQ fun AO UX => (aP.pure (bQ [.c (iC s1.1),.c (iC vM)] (RG s1.1 vM AO UX) OT (ji y2) J y3) z3 J Q Q (aJ (Iv AO) y4 (On (aC.blk ?_))))))))))
    refine en [(0,Cc (xF aH v)),(3,Iv AO),(4,Iv s1.2)] [] z3 J (Wr (aF (Iv s1.2) y4 (aT LT.add aU (aJ (Iv (aA (s1.2 + 1))) y4 (On (aW Q z3 J))))))
  ·refine aC.eF Q ⟨Q,aO.of z2 J⟩
 ·refine Ws (Ws (Wr ?_))
  refine aF (Iv b16) y4 (aT LT.eql aU (On (aC.cond Q (fun hc24 => ?_) (fun hc24 => ?_))))
  ·refine Ws (Wr ?_)
   refine dP (LT.fZ (n := 24) (enc := aH) [] ([] : List Int) Q Q bZ eu Q Q Q Q (by decide) (fun _ => Q) Q) Q Q (aF (Cc (xF aH v)) y4 (aQ fun u25 aGB => (dU (LT.Ja (enc := aH) Q  Q bZ eu Q (by decide) (by decide) (fun _ => Q) (jU aGB)) Q Q Q Q Q (aJ (Cc (lo 24 ((([] : List Int) ++ v).length))) y4 (On (en [(2,Cc (lo 24 ((([] : List Int) ++ v).length)))] [(24,pR 3 aH (([] : List Int) ++ v))] z1 z1 (aC.ent (aO.mv 24 0 Q Q) (en [(2,Cc (lo 0 ((([] : List Int) ++ v).length)))] [(0,pR 3 aH (([] : List Int) ++ v))] z1 z1 (aC.ret (aj.mk (.inr Q) z1 z1 Q ⟨J,J⟩ ⟨dG.gm jb,J⟩))))))))))
  ·refine aC.skip (Ws (Wr ?_))
   refine aJ (Iv 0) aX (On (Ws (Ws (Wr ?_))))
   refine aJ (Iv 0) aX (On (aC.block ?_))
   refine aC.iW (id := 2) (IY v b16) (fun s26 => ([(0,Cc (xF aH v)),(3,Iv b16),(5,Iv s26.1),(6,Iv s26.2)],[])) (fun xY => ([(0,Cc (xF aH v)),(3,Iv xY.1),(5,Iv xY.2)],[])) ?_ (aO.of z4 J) Q (fun xY _ => ?_)
   ·intro s26
    unfold IY
    refine Ws (Ws (Wr ?_))
    refine aF (Iv s26.2) y4 (aF (Cc (xF aH v)) y4 (aS (LT.fA Q bZ) Q Q Q (aT LT.lss y5 (On (aC.cond Q (fun aEj => ?_) (fun aEj => ?_))))))
    ·refine aC.skip (Ws (aC.block (Ws (Wr ?_))))
     refine aF (Iv s26.1) y4 (aT LT.eql aU (On (aC.fC (fun j43 => ([(0,Cc (xF aH v)),(3,Iv b16),(5,Iv j43),(6,Iv s26.2)],[])) ?_ (fun j43 _ => ?_))))
     ·refine aC.cond Q (fun aEk => ?_) (fun aEk => ?_)
      ·refine Wr (aF (Cc (xF aH v)) y4 (aF (Iv s26.2) y4 (aQ fun jY GZ => (dY (LT.dH (enc := aH) Q dR GZ fM) Q Q Q Q (aS (LT.fO Q ay) Q Q Q (aJ (Iv jY) y4 (On (aW Q z4 J))))))))
      ·refine aC.skip (aW Q z4 J)
     ·refine aC.blk (Wr ?_)
      refine aF (Iv s26.2) y4 (aT LT.add aU (aJ (Iv (aA (s26.2 + 1))) y4 (On (aW Q z4 J))))
    ·refine aC.eF Q ⟨Q,aO.of z3 J⟩
   ·refine Ws (Ws (Wr ?_))
    refine aF (Iv xY.2) y4 (aT LT.lss aU (On (aC.fC (fun j47 => ([(0,Cc (xF aH v)),(3,Iv j47)],[])) ?_ (fun j47 _ => ?_))))
    ·refine aC.cond Q (fun KG => ?_) (fun KG => ?_)
     ·refine Wr (aF (Iv xY.1) y4 (aS (LT.neg Q) Q Q Q (aJ (Iv (aA (-xY.1))) y4 (On (aW Q z2 J)))))
     ·refine aC.skip (aW Q z2 J)
    ·refine Ws (Wr ?_)
     refine dP (LT.fZ (n := 25) (enc := aH) [] ([] : List Int) Q Q bZ eu Q Q Q Q (by decide) (fun _ => Q) Q) Q Q (aJ (Cc (lo 25 (([] : List Int).length))) y4 (On (Ws (Ws (Wr ?_)))))
     refine aJ (Iv 0) aX (On (aC.block ?_))
     refine aC.iW (id := 4) (IZ v j47) (fun s49 => ([(0,Cc (xF aH v)),(3,Iv j47),(7,Cc (lo 25 s49.2.length)),(8,Iv s49.1)],[(25,pR 3 aH s49.2)])) (fun wo => ([(7,Cc (lo 25 wo.length))],[(25,pR 3 aH wo)])) ?_ (aO.of z4 z1) Q (fun wo _ => ?_)
     ·intro s49
      unfold IZ
      refine Ws (Ws (Wr ?_))
      refine aF (Iv s49.1) y4 (aF (Cc (xF aH v)) y4 (aS (LT.fA Q bZ) Q Q Q (aT LT.lss y5 (On (aC.cond Q (fun Tt => ?_) (fun Tt => ?_))))))
      ·refine aC.skip (Ws (aC.block (Wr ?_)))
       refine aF (Cc (lo 25 s49.2.length)) y4 (aF (Cc (xF aH v)) y4 (aF (Iv s49.1) y4 (aQ fun DL aGh => (dY (LT.dH (enc := aH) Q dR aGh fM) Q Q Q Q (aS (LT.fO Q ay) Q Q Q (aF (Iv j47) y4 (aQ fun u61 aGR => (dY (LT.quo Q (uq aGR)) Q Q Q Q (fK (LT.fZ (n := 26) (enc := aH) [(0,.tmp 64,.c (iC (aA (Int.tdiv DL j47))))] ([aA (Int.tdiv DL j47)] : List Int) Q Q bZ eu Q Q Q Q (by decide) (fun _ => Q) Q) Q Q Q (aQ fun u62 aGS => (nS (LT.lI (enc := aH) Q Q Q bZ eu Q (by decide) (by decide) (fun _ => Q) (jU aGS)) Q Q Q Q Q Q ?_)))))))))))
       refine aJ (Cc (lo 25 ((s49.2 ++ ([aA (Int.tdiv DL j47)] : List Int)).length))) y4 (On (aC.blk ?_))
       refine en [(0,Cc (xF aH v)),(3,Iv j47),(7,Cc (lo 25 ((s49.2 ++ ([aA (Int.tdiv DL j47)] : List Int)).length))),(8,Iv s49.1)] [(25,pR 3 aH (s49.2 ++ ([aA (Int.tdiv DL j47)] : List Int)))] z4 z1 (Wr (aF (Iv s49.1) y4 (aT LT.add aU (aJ (Iv (aA (s49.1 + 1))) y4 (On (aW Q z4 z1))))))
      ·refine aC.eF Q ⟨Q,aO.of z1 z1⟩
     ·refine Ws (Wr ?_)
      refine aF (Cc (lo 25 wo.length)) y4 (aJ (Cc (lo 25 wo.length)) y4 (On (en [(2,Cc (lo 25 wo.length))] [(25,pR 3 aH wo)] z1 z1 (aC.ent (aO.mv 25 0 Q Q) (en [(2,Cc (lo 0 wo.length))] [(0,pR 3 aH wo)] z1 z1 (aC.ret (aj.mk (.inr Q) z1 z1 Q ⟨J,J⟩ ⟨dG.gm jb,J⟩)))))))
theorem aCG (row : (List Int)) : FT Try.prog (En row) 182 [.c (xF aH row)] [] (fun (t : (List Int)) => [.c (lo 0 t.length)]) (fun (t : (List Int)) => [(0,pR 3 aH t)]) [0] := by
 refine FT.of [] Try.func182 Try.ntmps182 Q y2 ?_
 intro w0 U0 R0 g0
 unfold En
 refine Ws (Wr ?_)
 refine aJ (Cc (sC ah)) aX (On (Ws (Wr ?_)))
 refine aF (Cc (xF aH row)) y4 (aQ fun r1 hr1 => (aP.step (bQ [.c (xF aH row)] (Fw.Fn.ren [(0,22)] (aB7 row r1 hr1) Q) Xt (lu Q) J y3) z2 J Q Q (aJ (Cc (lo 22 r1.length)) y4 (On (en [(2,Cc (lo 22 r1.length))] [(22,pR 3 aH r1)] z1 z1 (aC.ent (aO.mv 22 0 Q Q) (en [(2,Cc (lo 0 r1.length))] [(0,pR 3 aH r1)] z1 z1 (aC.ret (aj.mk (.inr Q) z1 z1 Q ⟨J,J⟩ ⟨dG.gm jb,J⟩)))))))))
end Go.Proofs.Ytdmlaldifbmkpaa
end
section
set_option linter.unusedVariables false
set_option linter.unusedSimpArgs false
set_option linter.unnecessarySimpa false
set_option maxRecDepth 100000
set_option maxHeartbeats 8000000
open Go Go.Fw
namespace Go.Proofs.Ytdmlaldifbmkpaa
theorem aJq (a : (List Int)) (row : (List Int)) (j : Int) : FT Try.prog (NE a row j) 183 [.c (xF aH a),.c (xF aH row),.c (iC j)] [] (fun (t : (List Int)) => [.c (lo 0 t.length)]) (fun (t : (List Int)) => [(0,pR 3 aH t)]) [0] := by
 refine FT.of [] Try.func183 Try.ntmps183 Q y2 ?_
 intro w0 U0 R0 g0
 unfold NE
 refine Ws (Wr ?_)
 refine aJ (Cc (sC ah)) aX (On (Ws (aC.draw mixed ?_)))
 refine ak (Cc (xF aH a)) y4 (ak (Iv j) y4 (aN.bind fun x1 hx1 => (dJ (LT.dH (enc := aH) Q dR hx1 fM) Q Q Q Q (bJ (LT.fO Q ay) Q Q Q (ak (Cc (xF aH row)) y4 (ak (Iv j) y4 (aN.bind fun x2 hx2 => (dJ (LT.dH (enc := aH) Q dR hx2 fM) Q Q Q Q (bJ (LT.fO Q ay) Q Q Q (aN.bind fun r3 hr3 => (aN.pure (bQ [.c (iC x1),.c (iC x2)] (RG x1 x2 r3 hr3) OT (ji y2) J y3) z3 J Q Q ?_)))))))))))
 refine bJ (LT.assign (v := (Iv r3)) Q) Q Q Q (aN.nil (by kernel_rfl) (Ws (en [(0,Cc (xF aH a)),(1,Cc (xF aH row)),(2,Iv j),(7,Iv r3)] [] z4 J (Wr (aF (Cc (xF aH row)) y4 (aF (Iv j) y4 (aQ fun x4 hx4 => (dY (LT.dH (enc := aH) Q dR hx4 fM) Q Q Q Q (aS (LT.fO Q ay) Q Q Q (aF (Iv r3) y4 (aQ fun u5 hu5 => ?_)))))))))))
 refine dY (LT.quo Q (uq hu5)) Q Q Q Q (aJ (Iv (aA (Int.tdiv x4 r3))) y4 (On (Ws (Wr ?_))))
 refine aF (Cc (xF aH a)) y4 (aF (Iv j) y4 (aQ fun x6 hx6 => (dY (LT.dH (enc := aH) Q dR hx6 fM) Q Q Q Q (aS (LT.fO Q ay) Q Q Q (aF (Iv r3) y4 (aQ fun u7 hu7 => (dY (LT.quo Q (uq hu7)) Q Q Q Q (aJ (Iv (aA (Int.tdiv x6 r3))) y4 (On (Ws ?_))))))))))
 refine en [(0,Cc (xF aH a)),(1,Cc (xF aH row)),(8,Iv (aA (Int.tdiv x4 r3))),(9,Iv (aA (Int.tdiv x6 r3)))] [] z4 J (Wr (dP (LT.fZ (n := 22) (enc := aH) [] ([] : List Int) Q Q bZ eu Q Q Q Q (by decide) (fun _ => Q) Q) Q Q (aJ (Cc (lo 22 (([] : List Int).length))) y4 (On (Ws (Ws (Wr ?_)))))))
 refine aJ (Iv 0) aX (On (aC.block ?_))
 refine aC.iW (id := 0) (I9 a row r3 x4 x6) (fun s8 => ([(0,Cc (xF aH a)),(1,Cc (xF aH row)),(8,Iv (aA (Int.tdiv x4 r3))),(9,Iv (aA (Int.tdiv x6 r3))),(10,Cc (lo 22 s8.2.length)),(11,Iv s8.1)],[(22,pR 3 aH s8.2)])) (fun b17 => ([(10,Cc (lo 22 b17.length))],[(22,pR 3 aH b17)])) ?_ (aO.of z6 z1) Q (fun b17 _ => ?_)
 ·intro s8
  unfold I9
  refine Ws (Ws (Wr ?_))
  refine aF (Iv s8.1) y4 (aF (Cc (xF aH a)) y4 (aS (LT.fA Q bZ) Q Q Q (aT LT.lss y5 (On (aC.cond Q (fun hc18 => ?_) (fun hc18 => ?_))))))
  ·refine aC.skip (Ws (aC.block (aC.draw mixed ?_)))
   refine ak (Cc (lo 22 s8.2.length)) y4 (ak (Cc (xF aH a)) y4 (ak (Iv s8.1) y4 (aN.bind fun x19 GY => (dJ (LT.dH (enc := aH) Q dR GY fM) Q Q Q Q (bJ (LT.fO Q ay) Q Q Q (ak (Iv (aA (Int.tdiv x4 r3))) y4 (iE LT.mul y5 (ak (Cc (xF aH row)) y4 (ak (Iv s8.1) y4 (aN.bind fun x20 zX => (dJ (LT.dH (enc := aH) Q dR zX fM) Q Q Q Q ?_)))))))))))
   refine bJ (LT.fO Q ay) Q Q Q (ak (Iv (aA (Int.tdiv x6 r3))) y4 (iE LT.mul y5 (iE LT.sub y5 (Fh (LT.fZ (n := 23) (enc := aH) [(0,.tmp 53,.c (iC (aA ((aA (x19 * (aA (Int.tdiv x4 r3)))) - (aA (x20 * (aA (Int.tdiv x6 r3))))))))] ([aA ((aA (x19 * (aA (Int.tdiv x4 r3)))) - (aA (x20 * (aA (Int.tdiv x6 r3)))))] : List Int) Q Q bZ eu Q Q Q Q (by decide) (fun _ => Q) Q) Q Q Q (aN.bind fun u21 hu21 => (Jj (LT.lI (enc := aH) Q Q Q bZ eu Q (by decide) (by decide) (fun _ => Q) (jU hu21)) Q Q Q Q Q Q (bJ (LT.assign (v := (Cc (lo 22 ((s8.2 ++ ([aA ((aA (x19 * (aA (Int.tdiv x4 r3)))) - (aA (x20 * (aA (Int.tdiv x6 r3)))))] : List Int)).length)))) Q) Q Q Q (aN.nil (by kernel_rfl) (aC.blk (en [(0,Cc (xF aH a)),(1,Cc (xF aH row)),(8,Iv (aA (Int.tdiv x4 r3))),(9,Iv (aA (Int.tdiv x6 r3))),(10,Cc (lo 22 ((s8.2 ++ ([aA ((aA (x19 * (aA (Int.tdiv x4 r3)))) - (aA (x20 * (aA (Int.tdiv x6 r3)))))] : List Int)).length))),(11,Iv s8.1)] [(22,pR 3 aH (s8.2 ++ ([aA ((aA (x19 * (aA (Int.tdiv x4 r3)))) - (aA (x20 * (aA (Int.tdiv x6 r3)))))] : List Int)))] z6 z1 (Wr ?_)))))))))))
   refine aF (Iv s8.1) y4 (aT LT.add aU (aJ (Iv (aA (s8.1 + 1))) y4 (On (aW Q z6 z1))))
  ·refine aC.eF Q ⟨Q,aO.of z1 z1⟩
 ·refine Ws (Wr ?_)
  refine aF (Cc (lo 22 b17.length)) y4 (aQ fun r22 KP => (aP.step (cF [.c (lo 22 b17.length)] [(22,pR 3 aH b17)] (Fw.Fn.ren [(0,25)] (aCG b17 r22 KP) Q) Xx (.cons (.c (.iZ Q Q)) .nil) J y3) z2 z1 Q Q (aJ (Cc (lo 25 r22.length)) y4 (On (en [(6,Cc (lo 25 r22.length))] [(25,pR 3 aH r22)] z1 z1 (aC.ent (aO.mv 25 0 Q Q) (en [(6,Cc (lo 0 r22.length))] [(0,pR 3 aH r22)] z1 z1 (aC.ret (aj.mk (.inr Q) z1 z1 Q ⟨J,J⟩ ⟨dG.gm jb,J⟩)))))))))
theorem aCI (m : (List (List Int))) : FT Try.prog (Iy m) 134 [.c (xF (bI false) m)] [] (fun (t : ((List (List Int)) × (List Int))) => [.c (lo 0 t.1.length),.c (lo 1 t.2.length)]) (fun (t : ((List (List Int)) × (List Int))) => [(0,pR 37 (bI true) t.1),(1,pR 3 aH t.2)]) [0,1] := by
 refine FT.AB [] Try.func134 Try.ntmps134 Q y2 ?_
 intro w0 U0 R0 g0 hU
 unfold Iy
 refine Ws (Wr ?_)
 refine aJ (Cc (sC ah)) aX (aJ (Cc (sC ah)) aX (On (Ws (Wr ?_))))
 refine dP (LT.fZ (n := 21) (enc := (bI true)) [] ([] : List (List Int)) Q Q gy kX Q Q Q Q (by decide) (fun _ => Q) Q) Q Q (aJ (Cc (lo 21 (([] : List (List Int)).length))) y4 (On (Ws (Ws (Wr ?_)))))
 refine aJ (Iv 0) aX (On (aC.block ?_))
 refine aC.iW (id := 0) (Iz m) (fun s1 => ([(0,Cc (xF (bI false) m)),(4,Cc (lo 21 s1.2.length)),(5,Iv s1.1)],[(21,pR 37 (bI true) s1.2)])) (fun b10 => ([(4,Cc (lo 21 b10.length))],[(21,pR 37 (bI true) b10)])) ?_ (aO.of z3 z1) Q (fun b10 _ => ?_)
 ·intro s1
  unfold Iz
  refine Ws (Ws (Wr ?_))
  refine aF (Iv s1.1) y4 (aF (Cc (xF (bI false) m)) y4 (aS (LT.fA Q gy) Q Q Q (aT LT.lss y5 (On (aC.cond Q (fun rP => ?_) (fun rP => ?_))))))
  ·refine aC.skip (Ws (aC.block (Wr ?_)))
   refine aF (Cc (lo 21 s1.2.length)) y4 (aF (Cc (xF (bI false) m)) y4 (aF (Iv s1.1) y4 (aQ fun x12 vW => (dY (LT.dH (enc := (bI false)) Q iL vW qy) Q Q Q Q (aS (LT.fO Q jR) Q Q Q (aQ fun r13 rQ => (aP.step (bQ [.c (xF aH x12)] (Fw.Fn.ren [(0,23)] (aCG x12 r13 rQ) Q) Xx (lu Q) J y3) z2 J Q Q (aP.ent (aO.Az (enc := aH) 23 23 hU Q Q Q Q) (fK (LT.fZ (n := 24) (enc := (bI true)) [(0,.tmp 23,.c (xT aH r13))] [r13] Q Q gy kX Q Q Q Q (by decide) (fun _ => Q) Q) Q Q Q (aQ fun u14 KU => (nS (LT.lI (enc := (bI true)) Q Q Q gy kX Q (by decide) (by decide) (fun _ => Q) (jU KU)) Q Q Q Q Q Q ?_)))))))))))
   refine aJ (Cc (lo 21 ((s1.2 ++ [r13]).length))) y4 (On (aC.blk ?_))
   refine en [(0,Cc (xF (bI false) m)),(4,Cc (lo 21 ((s1.2 ++ [r13]).length))),(5,Iv s1.1)] [(21,pR 37 (bI true) (s1.2 ++ [r13]))] z3 z1 (Wr (aF (Iv s1.1) y4 (aT LT.add aU (aJ (Iv (aA (s1.1 + 1))) y4 (On (aW Q z3 z1))))))
  ·refine aC.eF Q ⟨Q,aO.of z1 z1⟩
 ·refine Ws (Wr ?_)
  refine dP (LT.fZ (n := 25) (enc := aH) [] ([] : List Int) Q Q bZ eu Q Q Q Q (by decide) (fun _ => Q) Q) Q Q (aJ (Cc (lo 25 (([] : List Int).length))) y4 (On (Ws (Ws (Wr ?_)))))
  refine aJ (Iv 0) aX (On (aC.block ?_))
  refine aC.iW (id := 2) Bd (fun s15 => ([(4,Cc (lo 21 s15.2.1.length)),(6,Cc (lo 25 s15.2.2.length)),(7,Iv s15.1)],[(21,pR 37 (bI true) s15.2.1),(25,pR 3 aH s15.2.2)])) (fun pK => ([(4,Cc (lo 21 pK.1.length)),(6,Cc (lo 25 pK.2.length))],[(21,pR 37 (bI true) pK.1),(25,pR 3 aH pK.2)])) ?_ (aO.of z3 z2) Q (fun pK _ => ?_)
  ·intro s15
   unfold Bd
   refine Ws (Ws ?_)
   refine aC.fC (fun Pn => ([(4,Cc (lo 21 s15.2.1.length)),(6,Cc (lo 25 s15.2.2.length)),(7,Iv s15.1),(37,Bv Pn)],[(21,pR 37 (bI true) s15.2.1),(25,pR 3 aH s15.2.2)])) ?_ (fun Pn _ => ?_)
   ·refine Wr (aF (Cc (lo 21 s15.2.1.length)) y4 (aS (LT.jg Q gy) Q Q Q (aT LT.gtr aU (aF (Bv (decide (0 < (s15.2.1.length : Int)))) y4 (aP.split (fun tV => ?_) (fun tV => ?_))))))
    ·refine gW (Iv s15.1) tV y5 (gW (Cc (lo 21 s15.2.1.length)) tV y5 (aQ fun x153 hx153 => (iK (LT.iG Q Q iL hx153) Q y2 Q (gH tV Q Q) Q (bf (LT.lU (k := 0) Q jR hx153 (by exact Q) (by exact Q)) Q Q (gH tV Q Q) Q (aS (LT.fA Q bZ) Q (gH tV Q Q) Q (iT LT.lss tV y6 (dh (Bv (decide (s15.1 < (x153.length : Int)))) tV y5 (On (aW Q z4 z2)))))))))
    ·refine aV tV y5 (aV tV y5 (aV tV y5 (aV tV y5 (aV tV y5 (aV tV y5 (gY (Bv false) tV aU (On (aW Q z4 z2))))))))
   ·refine aC.cond Q (fun aEZ => ?_) (fun aEZ => ?_)
    ·refine aC.skip (Ws (aC.block (Ws (Wr ?_))))
     refine aF (Cc (lo 25 s15.2.2.length)) y4 (aS (LT.jg Q bZ) Q Q Q (aJ (Iv (s15.2.2.length : Int)) y4 (On (Ws (aC.block ?_)))))
     refine aC.iW (id := 4) (I4 s15) (fun vw => ([(4,Cc (lo 21 s15.2.1.length)),(6,Cc (lo 25 s15.2.2.length)),(7,Iv s15.1),(8,Iv vw)],[(21,pR 37 (bI true) s15.2.1),(25,pR 3 aH s15.2.2)])) (fun fB => ([(4,Cc (lo 21 fB.2.2.1.length)),(6,Cc (lo 25 fB.2.2.2.length)),(7,Iv fB.1),(8,Iv fB.2.1)],[(21,pR 37 (bI true) fB.2.2.1),(25,pR 3 aH fB.2.2.2)])) ?_ (aO.of z4 z2) Q (fun fB _ => ?_)
     ·intro vw
      unfold I4
      refine Ws (Ws ?_)
      refine aC.fC (fun Pq => ([(4,Cc (lo 21 s15.2.1.length)),(6,Cc (lo 25 s15.2.2.length)),(7,Iv s15.1),(8,Iv vw),(55,Bv Pq)],[(21,pR 37 (bI true) s15.2.1),(25,pR 3 aH s15.2.2)])) ?_ (fun Pq _ => ?_)
      ·refine Wr (aF (Iv vw) y4 (aF (Cc (lo 21 s15.2.1.length)) y4 (aS (LT.jg Q gy) Q Q Q (aT LT.lss y5 (aF (Bv (decide (vw < (s15.2.1.length : Int)))) y4 (aP.split (fun qL => ?_) (fun qL => ?_)))))))
       ·refine gW (Cc (lo 21 s15.2.1.length)) qL y5 (gW (Iv vw) qL y5 (aQ fun aCT ZL => (iK (LT.iG Q Q iL ZL) Q Q Q (gH qL Q Q) Q (bf (LT.lU (k := 0) Q jR ZL (by exact Q) (by exact Q)) Q Q (gH qL Q Q) Q (gW (Iv s15.1) qL y5 (aQ fun Je GX => (dY (LT.dH (enc := aH) Q dR GX fM) Q Q (gH qL Q Q) Q (aS (LT.fO Q ay) Q (gH qL Q Q) Q (iT LT.eql qL kE (dh (Bv (Je == 0)) qL y5 (On ?_)))))))))))
        refine aW Q z5 z2
       ·refine aV qL y5 (aV qL y5 (aV qL y5 (aV qL y5 (aV qL y5 (aV qL y5 (aV qL y5 (aV qL y5 (gY (Bv false) qL aU (On (aW Q z5 z2))))))))))
      ·refine aC.cond Q (fun Tc => ?_) (fun Tc => ?_)
       ·refine aC.skip (aC.block (Wr ?_))
        refine aF (Iv vw) y4 (aT LT.add aU (aJ (Iv (aA (vw + 1))) y4 (On (aC.blk ?_))))
        refine aW Q z4 z2
       ·refine aC.eF Q ⟨Q,aO.of z4 z2⟩
     ·refine Ws (Ws (Wr ?_))
      refine aF (Iv fB.2.1) y4 (aF (Cc (lo 21 fB.2.2.1.length)) y4 (aS (LT.jg Q gy) Q Q Q (aT LT.eql y5 (On (aC.cond Q (fun Td => ?_) (fun Td => ?_))))))
      ·refine aC.exit Q (Wr ?_)
       refine aF (Iv fB.1) y4 (aT LT.add aU (aJ (Iv (aA (fB.1 + 1))) y4 (On (aW Q z3 z2))))
      ·refine aC.skip (Ws (Wr ?_))
       refine aF (Cc (lo 21 fB.2.2.1.length)) y4 (aF (Iv fB.2.1) y4 (aQ fun oM Kq => (iK (LT.iG Q Q iL Kq) Q Q Q Q Q (bf (LT.lU (k := 0) Q jR Kq (by exact Q) (by exact Q)) Q Q Q Q (aJ (Cc (xT aH oM)) y4 (On (Ws (Wr ?_))))))))
       refine aF (Cc (lo 21 fB.2.2.1.length)) y4 (aF (Iv fB.2.1) y4 (aF (Cc (lo 21 fB.2.2.1.length)) y4 (aF (Cc (lo 25 fB.2.2.2.length)) y4 (aS (LT.jg Q bZ) Q Q Q (aQ fun oN BG => (iK (LT.iG Q Q iL BG) Q Q Q Q Q (bf (LT.lU (k := 0) Q jR BG (by exact Q) (by exact Q)) Q Q Q Q (aQ fun yu zW => (iK (LT.iG Q Q iL zW) Q Q Q Q Q (dU (LT.nN (k := 0) (v := (.c (xT aH oN))) (b' := oN) Q Q (dK wF) qy (by exact Q) zW (by exact Q) (by exact K Q) (by exact Q)) Q Q Q Q Q (On (Ws ?_))))))))))))
       refine en [(4,Cc (lo 21 fB.2.2.1.length)),(6,Cc (lo 25 fB.2.2.2.length)),(7,Iv fB.1),(9,Cc (xT aH oM))] [(21,pR 37 (bI true) (fB.2.2.1.set fB.2.1.toNat oN)),(25,pR 3 aH fB.2.2.2)] z4 z2 (Wr (aF (Cc (lo 21 fB.2.2.1.length)) y4 (aF (Cc (lo 25 fB.2.2.2.length)) y4 (aS (LT.jg Q bZ) Q Q Q (aF (Cc (xT aH oM)) y4 (aQ fun DI BH => (iK (LT.iG (show fB.2.2.1.length = (fB.2.2.1.set fB.2.1.toNat oN).length by simp only [List.length_set]) Q iL BH) Q Q Q Q Q (dU (LT.nN (k := 0) (v := (.c (xT aH oM))) (b' := oM) Q Q (dK wF) qy (by exact Q) BH (by exact Q) (by exact K Q) (by exact Q)) Q Q Q Q Q (On (Ws (Ws (Wr ?_))))))))))))
       refine aJ (Iv 0) aX (On (aC.block ?_))
       refine aC.iW (id := 6) (I5 fB oM) (fun jh => ([(4,Cc (lo 21 jh.2.length)),(6,Cc (lo 25 fB.2.2.2.length)),(7,Iv fB.1),(9,Cc (xT aH oM)),(10,Iv jh.1)],[(21,pR 37 (bI true) jh.2),(25,pR 3 aH fB.2.2.2)])) (fun o7 => ([(4,Cc (lo 21 o7.2.1.length)),(6,Cc (lo 25 o7.2.2.length)),(7,Iv o7.1)],[(21,pR 37 (bI true) o7.2.1),(25,pR 3 aH o7.2.2)])) ?_ (aO.of ⟨congrArg (fun l1 => (some (AV.s (.c (lo 21 l1))) : Option AV)) (show fB.2.2.1.length = ((fB.2.2.1.set fB.2.1.toNat oN).set (fB.2.2.2.length : Int).toNat oM).length by simp only [List.length_set]),Q,Q,Q,Q,J⟩ z2) Q (fun o7 _ => ?_)
       ·intro jh
        unfold I5
        refine Ws (Ws (Wr ?_))
        refine aF (Iv jh.1) y4 (aF (Cc (lo 21 jh.2.length)) y4 (aS (LT.jg Q gy) Q Q Q (aT LT.lss y5 (On (aC.cond Q (fun aEc => ?_) (fun aEc => ?_))))))
        ·refine aC.skip (Ws (aC.block (Ws ?_)))
         refine aC.fC (fun Px => ([(4,Cc (lo 21 jh.2.length)),(6,Cc (lo 25 fB.2.2.2.length)),(7,Iv fB.1),(9,Cc (xT aH oM)),(10,Iv jh.1),(98,Bv Px)],[(21,pR 37 (bI true) jh.2),(25,pR 3 aH fB.2.2.2)])) ?_ (fun Px _ => ?_)
         ·refine Wr (aF (Iv jh.1) y4 (aF (Cc (lo 25 fB.2.2.2.length)) y4 (aS (LT.jg Q bZ) Q Q Q (aT LT.neq y5 (aF (Bv (jh.1 != (fB.2.2.2.length : Int))) y4 (aP.split (fun qO => ?_) (fun qO => ?_)))))))
          ·refine gW (Cc (lo 21 jh.2.length)) qO y5 (gW (Iv jh.1) qO y5 (aQ fun aCV ZO => (iK (LT.iG Q Q iL ZO) Q Q Q (gH qO Q Q) Q (bf (LT.lU (k := 0) Q jR ZO (by exact Q) (by exact Q)) Q Q (gH qO Q Q) Q (gW (Iv fB.1) qO y5 (aQ fun Wv aGa => (dY (LT.dH (enc := aH) Q dR aGa fM) Q Q (gH qO Q Q) Q (aS (LT.fO Q ay) Q (gH qO Q Q) Q (iT LT.neq qO kE (dh (Bv (Wv != 0)) qO y5 (On ?_)))))))))))
           refine aW Q z6 z2
          ·refine aV qO y5 (aV qO y5 (aV qO y5 (aV qO y5 (aV qO y5 (aV qO y5 (aV qO y5 (aV qO y5 (gY (Bv false) qO aU (On (aW Q z6 z2))))))))))
         ·refine aC.fC (fun LM => ([(4,Cc (lo 21 LM.length)),(6,Cc (lo 25 fB.2.2.2.length)),(7,Iv fB.1),(9,Cc (xT aH oM)),(10,Iv jh.1)],[(21,pR 37 (bI true) LM),(25,pR 3 aH fB.2.2.2)])) ?_ (fun LM _ => ?_)
          ·refine aC.cond Q (fun Ti => ?_) (fun Ti => ?_)
           ·refine Wr (aF (Cc (lo 21 jh.2.length)) y4 (aF (Iv jh.1) y4 (aF (Cc (lo 21 jh.2.length)) y4 (aF (Iv jh.1) y4 (aQ fun RH ZP => (iK (LT.iG Q Q iL ZP) Q Q Q Q Q (bf (LT.lU (k := 0) Q jR ZP (by exact Q) (by exact Q)) Q Q Q Q (aF (Cc (xT aH oM)) y4 (aF (Iv fB.1) y4 (aQ fun JO aFX => (aP.step (bQ [.c (xT aH RH),.c (xT aH oM),.c (iC fB.1)] (Fw.Fn.ren [(0,27)] (aJq RH oM fB.1 JO aFX) Q) aDC (.cons (.c (.weak (.same Q) (QW.kN yS (fun h => by cases h) _))) (.cons (.c (.weak (.same Q) (QW.kN yS (fun h => by cases h) _))) (.cons (.c (.same Q)) .nil))) J y3) z4 J Q Q ?_)))))))))))
            refine aQ fun rC Ku => (iK (LT.iG Q Q iL Ku) Q Q Q Q Q (aP.ent (aO.Az (enc := aH) 107 27 hU Q Q Q Q) (dU (LT.nN (k := 0) (v := (.c (xT aH JO))) (b' := JO) Q Q (dK wF) qy (by exact Q) Ku (by exact Q) (by exact K Q) (by exact Q)) Q Q Q Q Q (On (aC.nil ⟨Q,aO.of ⟨congrArg (fun l1 => (some (AV.s (.c (lo 21 l1))) : Option AV)) (show jh.2.length = (jh.2.set jh.1.toNat JO).length by simp only [List.length_set]),Q,Q,Q,Q,J⟩ z2⟩)))))
           ·refine aC.skip (aW Q z5 z2)
          ·refine aC.blk (Wr ?_)
           refine aF (Iv jh.1) y4 (aT LT.add aU (aJ (Iv (aA (jh.1 + 1))) y4 (On (aW Q z5 z2))))
        ·refine aC.eF Q ⟨Q,aO.of z3 z2⟩
       ·refine Wr (aF (Cc (lo 25 o7.2.2.length)) y4 (aF (Iv o7.1) y4 (fK (LT.fZ (n := 28) (enc := aH) [(0,.tmp 110,.c (iC o7.1))] ([o7.1] : List Int) Q Q bZ eu Q Q Q Q (by decide) (fun _ => Q) Q) Q Q Q (aQ fun aI3 aGA => (nS (LT.lI (enc := aH) Q Q Q bZ eu Q (by decide) (by decide) (fun _ => Q) (jU aGA)) Q Q Q Q Q Q (aJ (Cc (lo 25 ((o7.2.2 ++ ([o7.1] : List Int)).length))) y4 (On (aC.blk (Wr ?_)))))))))
        refine aF (Iv o7.1) y4 (aT LT.add aU (aJ (Iv (aA (o7.1 + 1))) y4 (On (aW Q z3 z2))))
    ·refine aC.eF Q ⟨Q,aO.of z2 z2⟩
  ·refine Ws (Wr ?_)
   refine aF (Cc (lo 21 pK.1.length)) y4 (aF (Cc (lo 25 pK.2.length)) y4 (aJ (Cc (lo 21 pK.1.length)) y4 (aJ (Cc (lo 25 pK.2.length)) y4 (On (en [(2,Cc (lo 21 pK.1.length)),(3,Cc (lo 25 pK.2.length))] [(21,pR 37 (bI true) pK.1),(25,pR 3 aH pK.2)] z2 z2 (aC.ent (aO.mv 21 0 Q Q) (aC.ent (aO.mv 25 1 Q Q) (en [(2,Cc (lo 0 pK.1.length)),(3,Cc (lo 1 pK.2.length))] [(0,pR 37 (bI true) pK.1),(1,pR 3 aH pK.2)] z2 z2 (aC.ret (aj.mk (.inr Q) z2 z2 Q ⟨J,J,J⟩ ⟨dG.gm Bz,dG.gm jb,J⟩))))))))))
theorem aJm (l : (List Int)) (x : Int) : FT Try.prog (Mc l x) 161 [.c (xF aH l),.c (iC x)] [] (fun (t : Bool) => [.c (bC t)]) (fun (t : Bool) => []) [] := by
 refine FT.of [] Try.func161 Try.ntmps161 Q y2 ?_
 intro w0 U0 R0 g0
 unfold Mc
 refine Ws (Wr ?_)
 refine aJ (Bv false) aX (On (Ws (Ws (Wr ?_))))
 refine aJ (Iv 0) aX (On (aC.block ?_))
 refine aC.nV (id := 0) (Ik l x) (fun s1 => ([(0,Cc (xF aH l)),(1,Iv x),(5,Iv s1)],[])) (fun b8 => ([],[])) (aj Try.prog Try.f161.results.toList [] [] (fun (t : Bool) => [.c (bC t)]) (fun (t : Bool) => [])) ?_ (aO.of z3 J) Q (fun b8 _ => ?_) (by intro r t σ m ht hk; injection ht with ht; subst ht; exact hk)
 ·intro s1
  unfold Ik
  refine Ws (Ws (Wr ?_))
  refine aF (Iv s1) y4 (aF (Cc (xF aH l)) y4 (aS (LT.fA Q bZ) Q Q Q (aT LT.lss y5 (On (aC.cond Q (fun wz => ?_) (fun wz => ?_))))))
  ·refine aC.skip (Ws (aC.block (Ws (Wr ?_))))
   refine aF (Cc (xF aH l)) y4 (aF (Iv s1) y4 (aQ fun x10 PE => (dY (LT.dH (enc := aH) Q dR PE fM) Q Q Q Q (aS (LT.fO Q ay) Q Q Q (aF (Iv x) y4 (aT LT.eql y5 (On (aC.cond Q (fun rP => ?_) (fun rP => ?_)))))))))
   ·refine Ws (Wr ?_)
    refine aJ (Bv true) aX (On (aC.ret ⟨Q,aj.mk (.inr Q) z1 J Q ⟨au.sc,J⟩ J⟩))
   ·refine aC.skip (aC.blk (Wr ?_))
    refine aF (Iv s1) y4 (aT LT.add aU (aJ (Iv (aA (s1 + 1))) y4 (On (aW Q z3 J))))
  ·refine aC.eF Q ⟨Q,aO.of J J⟩
 ·refine Ws (Wr ?_)
  refine aJ (Bv false) aX (On (aC.ret (aj.mk (.inr Q) z1 J Q ⟨au.sc,J⟩ J)))
theorem aCH (m : (List (List Int))) (columns : Int) : FT Try.prog (Iq m columns) 84 [.c (xF (bI false) m),.c (iC columns)] [] (fun (t : (List (List Int))) => [.c (lo 0 t.length)]) (fun (t : (List (List Int))) => [(0,pR 37 (bI true) t)]) [0] := by
 refine FT.AB [] Try.func84 Try.ntmps84 Q y2 ?_
 intro w0 U0 R0 g0 hU
 unfold Iq
 refine Ws (Wr ?_)
 refine aJ (Cc (sC ah)) aX (On (Ws (Wr ?_)))
 refine dP (LT.fZ (n := 21) (enc := (bI true)) [] ([] : List (List Int)) Q Q gy kX Q Q Q Q (by decide) (fun _ => Q) Q) Q Q (aJ (Cc (lo 21 (([] : List (List Int)).length))) y4 (On (Ws (Wr ?_))))
 refine aF (Cc (xF (bI false) m)) y4 (aQ fun r1 hr1 => (aP.step (bQ [.c (xF (bI false) m)] (Fw.Fn.ren [(0,23),(1,24)] (aCI m r1 hr1) Q) Xn (lu Q) J y3) z2 J Q Q (aF (.dO [.c (lo 23 r1.1.length),.c (lo 24 r1.2.length)]) y4 (aS (LT.extract (v := (.c (lo 23 r1.1.length))) Q (by exact Q)) Q Q Q (aS (LT.extract (v := (.c (lo 24 r1.2.length))) Q (by exact Q)) Q Q Q (aJ (Cc (lo 23 r1.1.length)) y4 (aJ (Cc (lo 24 r1.2.length)) y4 (On (Ws (Ws ?_))))))))))
 refine en [(1,Iv columns),(5,Cc (lo 21 (([] : List (List Int)).length))),(6,Cc (lo 23 r1.1.length)),(7,Cc (lo 24 r1.2.length))] [(21,pR 37 (bI true) ([] : List (List Int))),(23,pR 37 (bI true) r1.1),(24,pR 3 aH r1.2)] z4 z3 (Wr (aJ (Iv 0) aX (On (aC.block ?_))))
 refine aC.iW (id := 0) (Ir columns) (fun s2 => ([(1,Iv columns),(5,Cc (lo 21 s2.2.1.length)),(6,Cc (lo 23 s2.2.2.1.length)),(7,Cc (lo 24 s2.2.2.2.length)),(8,Iv s2.1)],[(21,pR 37 (bI true) s2.2.1),(23,pR 37 (bI true) s2.2.2.1),(24,pR 3 aH s2.2.2.2)])) (fun wY => ([(5,Cc (lo 21 wY.length))],[(21,pR 37 (bI true) wY)])) ?_ (aO.of z5 z3) Q (fun wY _ => ?_)
 ·intro s2
  unfold Ir
  refine Ws (Ws (Wr ?_))
  refine aF (Iv s2.1) y4 (aF (Iv columns) y4 (aT LT.lss y5 (On (aC.cond Q (fun hc114 => ?_) (fun hc114 => ?_)))))
  ·refine aC.skip (Ws (aC.block (Ws (Ws (Wr ?_)))))
   refine aF (Cc (lo 24 s2.2.2.2.length)) y4 (aF (Iv s2.1) y4 (aQ fun Vj aFK => (aP.pure (cF [.c (lo 24 s2.2.2.2.length),.c (iC s2.1)] [(24,pR 3 aH s2.2.2.2)] (aJm s2.2.2.2 s2.1 Vj aFK) aC7 (.cons (.c (.iZ Q Q)) (.cons (.c (.same Q)) .nil)) J y3) z3 z1 Q Q (On (aC.cond Q (fun aER => ?_) (fun aER => ?_))))))
   ·refine aC.exit Q (Wr ?_)
    refine aF (Iv s2.1) y4 (aT LT.add aU (aJ (Iv (aA (s2.1 + 1))) y4 (On (aW Q z5 z3))))
   ·refine aC.skip (Ws (Wr ?_))
    refine aJ (Iv 1) aX (On (Ws (Ws (Wr ?_))))
    refine aJ (Iv 0) aX (On (aC.block ?_))
    refine aC.iW (id := 2) (Iu s2) (fun kW => ([(1,Iv columns),(5,Cc (lo 21 s2.2.1.length)),(6,Cc (lo 23 s2.2.2.1.length)),(7,Cc (lo 24 s2.2.2.2.length)),(8,Iv s2.1),(9,Iv kW.1),(10,Iv kW.2)],[(21,pR 37 (bI true) s2.2.1),(23,pR 37 (bI true) s2.2.2.1),(24,pR 3 aH s2.2.2.2)])) (fun fH => ([(1,Iv columns),(5,Cc (lo 21 fH.2.2.1.length)),(6,Cc (lo 23 fH.2.2.2.1.length)),(7,Cc (lo 24 fH.2.2.2.2.length)),(8,Iv fH.1),(9,Iv fH.2.1)],[(21,pR 37 (bI true) fH.2.2.1),(23,pR 37 (bI true) fH.2.2.2.1),(24,pR 3 aH fH.2.2.2.2)])) ?_ (aO.of z7 z3) Q (fun fH _ => ?_)
    ·intro kW
     unfold Iu
     refine Ws (Ws (Wr ?_))
     refine aF (Iv kW.2) y4 (aF (Cc (lo 24 s2.2.2.2.length)) y4 (aS (LT.jg Q bZ) Q Q Q (aT LT.lss y5 (On (aC.cond Q (fun aEY => ?_) (fun aEY => ?_))))))
     ·refine aC.skip (Ws (aC.block (Ws (aC.draw mixed ?_))))
      refine ak (Cc (lo 23 s2.2.2.1.length)) y4 (ak (Iv kW.2) y4 (aN.bind fun aCQ ZI => (je (LT.iG Q Q iL ZI) Q Q Q Q Q (gQ (LT.lU (k := 0) Q jR ZI (by exact Q) (by exact Q)) Q Q Q Q (ak (Cc (lo 24 s2.2.2.2.length)) y4 (ak (Iv kW.2) y4 (aN.bind fun aCR ZJ => (je (LT.iG Q Q dR ZJ) Q Q Q Q Q (gQ (LT.lU (k := 0) Q ay ZJ (by exact Q) (by exact Q)) Q Q Q Q (aN.bind fun kH aGZ => (dJ (LT.dH (enc := aH) Q dR aGZ fM) Q Q Q Q ?_)))))))))))
      refine bJ (LT.fO Q ay) Q Q Q (ak (Cc (lo 23 s2.2.2.1.length)) y4 (ak (Iv kW.2) y4 (aN.bind fun aCS ZK => (je (LT.iG Q Q iL ZK) Q Q Q Q Q (gQ (LT.lU (k := 0) Q jR ZK (by exact Q) (by exact Q)) Q Q Q Q (ak (Cc (lo 24 s2.2.2.2.length)) y4 (ak (Iv kW.2) y4 (aN.bind fun x150 hx150 => (je (LT.iG Q Q dR hx150) Q Q Q Q Q (gQ (LT.lU (k := 0) Q ay hx150 (by exact Q) (by exact Q)) Q Q Q Q (aN.bind fun x151 hx151 => ?_)))))))))))
      refine dJ (LT.dH (enc := aH) Q dR hx151 fM) Q Q Q Q (bJ (LT.fO Q ay) Q Q Q (bJ (LT.neg Q) Q Q Q (iE LT.max y5 (bJ (LT.assign (v := (Iv (if kH < (aA (-x151)) then (aA (-x151)) else kH))) Q) Q Q Q (aN.nil (by kernel_rfl) (Ws (en [(1,Iv columns),(5,Cc (lo 21 s2.2.1.length)),(6,Cc (lo 23 s2.2.2.1.length)),(7,Cc (lo 24 s2.2.2.2.length)),(8,Iv s2.1),(9,Iv kW.1),(10,Iv kW.2),(11,Iv (if kH < (aA (-x151)) then (aA (-x151)) else kH))] [(21,pR 37 (bI true) s2.2.1),(23,pR 37 (bI true) s2.2.2.1),(24,pR 3 aH s2.2.2.2)] z8 z3 (Wr (aF (Iv (if kH < (aA (-x151)) then (aA (-x151)) else kH)) y4 (aF (Iv (if kH < (aA (-x151)) then (aA (-x151)) else kH)) y4 (aF (Cc (lo 23 s2.2.2.1.length)) y4 ?_)))))))))))
      refine aF (Iv kW.2) y4 (aQ fun x152 hx152 => (iK (LT.iG Q Q iL hx152) Q Q Q Q Q (bf (LT.lU (k := 0) Q jR hx152 (by exact Q) (by exact Q)) Q Q Q Q (aF (Iv s2.1) y4 (aQ fun x153 hx153 => (dY (LT.dH (enc := aH) Q dR hx153 fM) Q Q Q Q (aS (LT.fO Q ay) Q Q Q (aQ fun qA UR => (aP.pure (bQ [.c (iC (if kH < (aA (-x151)) then (aA (-x151)) else kH)),.c (iC x153)] (RG (if kH < (aA (-x151)) then (aA (-x151)) else kH) x153 qA UR) OT (ji y2) J y3) z3 J Q Q (aQ fun aIy aF1 => (dY (LT.quo Q (uq aF1)) Q Q Q Q ?_)))))))))))
      refine aJ (Iv (aA (Int.tdiv (if kH < (aA (-x151)) then (aA (-x151)) else kH) qA))) y4 (On (en [(1,Iv columns),(5,Cc (lo 21 s2.2.1.length)),(6,Cc (lo 23 s2.2.2.1.length)),(7,Cc (lo 24 s2.2.2.2.length)),(8,Iv s2.1),(9,Iv kW.1),(10,Iv kW.2),(12,Iv (aA (Int.tdiv (if kH < (aA (-x151)) then (aA (-x151)) else kH) qA)))] [(21,pR 37 (bI true) s2.2.1),(23,pR 37 (bI true) s2.2.2.1),(24,pR 3 aH s2.2.2.2)] z8 z3 (Wr (aF (Iv kW.1) y4 (aF (Iv kW.1) y4 (aF (Iv (aA (Int.tdiv (if kH < (aA (-x151)) then (aA (-x151)) else kH) qA))) y4 (aQ fun qB KN => (aP.pure (bQ [.c (iC kW.1),.c (iC (aA (Int.tdiv (if kH < (aA (-x151)) then (aA (-x151)) else kH) qA)))] (RG kW.1 (aA (Int.tdiv (if kH < (aA (-x151)) then (aA (-x151)) else kH) qA)) qB KN) OT (ji y2) J y3) z3 J Q Q (aQ fun aIz aF2 => (dY (LT.quo Q (uq aF2)) Q Q Q Q (aF (Iv (aA (Int.tdiv (if kH < (aA (-x151)) then (aA (-x151)) else kH) qA))) y4 ?_)))))))))))
      refine aT LT.mul y5 (aJ (Iv (aA ((aA (Int.tdiv kW.1 qB)) * (aA (Int.tdiv (if kH < (aA (-x151)) then (aA (-x151)) else kH) qA))))) y4 (On (aC.blk (Wr ?_))))
      refine aF (Iv kW.2) y4 (aT LT.add aU (aJ (Iv (aA (kW.2 + 1))) y4 (On (aW Q z7 z3))))
     ·refine aC.eF Q ⟨Q,aO.of z6 z3⟩
    ·refine Ws (Wr ?_)
     refine aF (Iv columns) y4 (aQ fun aI0 aF3 => (wV (LT.Jb (n := 28) (enc := aH) (zc := [iC 0]) (0 : Int) Q bZ eu Q Q Q (by decide) (by decide) (EO aF3) Q) Q Q Q Q (aJ (Cc (lo 28 ((List.replicate columns.toNat (0 : Int)).length))) y4 (On (Ws (Wr ?_))))))
     refine aF (Cc (lo 28 ((List.replicate columns.toNat (0 : Int)).length))) y4 (aF (Iv fH.1) y4 (aF (Iv fH.2.1) y4 (aQ fun x159 hx159 => (iK (LT.iG Q Q dR hx159) Q Q Q Q Q (dU (LT.nN (k := 0) (v := (.c (iC fH.2.1))) (b' := fH.2.1) Q Q (dK nI) fM (by exact Q) hx159 (by exact Q) (by exact K Q) (by exact Q)) Q Q Q Q Q (On (Ws (Ws ?_))))))))
     refine en [(1,Iv columns),(5,Cc (lo 21 fH.2.2.1.length)),(6,Cc (lo 23 fH.2.2.2.1.length)),(7,Cc (lo 24 fH.2.2.2.2.length)),(8,Iv fH.1),(9,Iv fH.2.1),(13,Cc (lo 28 ((List.replicate columns.toNat (0 : Int)).length)))] [(21,pR 37 (bI true) fH.2.2.1),(23,pR 37 (bI true) fH.2.2.2.1),(24,pR 3 aH fH.2.2.2.2),(28,pR 3 aH ((List.replicate columns.toNat (0 : Int)).set fH.1.toNat fH.2.1))] z7 z4 (Wr (aJ (Iv 0) aX (On (aC.block ?_))))
     refine aC.iW (id := 4) (Iw fH) (fun mM => ([(1,Iv columns),(5,Cc (lo 21 fH.2.2.1.length)),(6,Cc (lo 23 fH.2.2.2.1.length)),(7,Cc (lo 24 fH.2.2.2.2.length)),(8,Iv fH.1),(9,Iv fH.2.1),(13,Cc (lo 28 mM.2.length)),(14,Iv mM.1)],[(21,pR 37 (bI true) fH.2.2.1),(23,pR 37 (bI true) fH.2.2.2.1),(24,pR 3 aH fH.2.2.2.2),(28,pR 3 aH mM.2)])) (fun jq => ([(1,Iv columns),(5,Cc (lo 21 jq.2.1.length)),(6,Cc (lo 23 jq.2.2.1.length)),(7,Cc (lo 24 jq.2.2.2.1.length)),(8,Iv jq.1),(13,Cc (lo 28 jq.2.2.2.2.length))],[(21,pR 37 (bI true) jq.2.1),(23,pR 37 (bI true) jq.2.2.1),(24,pR 3 aH jq.2.2.2.1),(28,pR 3 aH jq.2.2.2.2)])) ?_ (aO.of ⟨Q,Q,Q,Q,Q,Q,congrArg (fun l1 => (some (AV.s (.c (lo 28 l1))) : Option AV)) (show (List.replicate columns.toNat (0 : Int)).length = ((List.replicate columns.toNat (0 : Int)).set fH.1.toNat fH.2.1).length by simp only [List.length_set]),Q,J⟩ z4) Q (fun jq _ => ?_)
     ·intro mM
      unfold Iw
      refine Ws (Ws (Wr ?_))
      refine aF (Iv mM.1) y4 (aF (Cc (lo 24 fH.2.2.2.2.length)) y4 (aS (LT.jg Q bZ) Q Q Q (aT LT.lss y5 (On (aC.cond Q (fun Tc => ?_) (fun Tc => ?_))))))
      ·refine aC.skip (Ws (aC.block (aC.draw mixed ?_)))
       refine ak (Cc (lo 28 mM.2.length)) y4 (ak (Cc (lo 24 fH.2.2.2.2.length)) y4 (ak (Iv mM.1) y4 (aN.bind fun FX ZN => (je (LT.iG Q Q dR ZN) Q Q Q Q Q (gQ (LT.lU (k := 0) Q ay ZN (by exact Q) (by exact Q)) Q Q Q Q (ak (Cc (lo 23 fH.2.2.2.1.length)) y4 (ak (Iv mM.1) y4 (aN.bind fun oM Kq => (je (LT.iG Q Q iL Kq) Q Q Q Q Q (gQ (LT.lU (k := 0) Q jR Kq (by exact Q) (by exact Q)) Q Q Q Q (ak (Iv fH.1) y4 ?_)))))))))))
       refine aN.bind fun oN BG => (dJ (LT.dH (enc := aH) Q dR BG fM) Q Q Q Q (bJ (LT.fO Q ay) Q Q Q (ak (Iv fH.2.1) y4 (iE LT.mul y5 (ak (Cc (lo 23 fH.2.2.2.1.length)) y4 (ak (Iv mM.1) y4 (aN.bind fun yu zW => (je (LT.iG Q Q iL zW) Q Q Q Q Q (gQ (LT.lU (k := 0) Q jR zW (by exact Q) (by exact Q)) Q Q Q Q (ak (Cc (lo 24 fH.2.2.2.2.length)) y4 (ak (Iv mM.1) y4 ?_)))))))))))
       refine aN.bind fun DI BH => (je (LT.iG Q Q dR BH) Q Q Q Q Q (gQ (LT.lU (k := 0) Q ay BH (by exact Q) (by exact Q)) Q Q Q Q (aN.bind fun xQ PL => (dJ (LT.dH (enc := aH) Q dR PL fM) Q Q Q Q (bJ (LT.fO Q ay) Q Q Q (aN.bind fun aI1 aF5 => (dJ (LT.quo Q (uq aF5)) Q Q Q Q (bJ (LT.neg Q) Q Q Q (aN.bind fun Ny Kt => (je (LT.iG Q Q dR Kt) Q Q Q Q Q (lW (LT.nN (k := 0) (v := (.c (iC (aA (-(aA (Int.tdiv (aA (oN * fH.2.1)) xQ))))))) (b' := (aA (-(aA (Int.tdiv (aA (oN * fH.2.1)) xQ))))) Q Q (dK nI) fM (by exact Q) Kt (by exact Q) (by exact K Q) (by exact Q)) Q Q Q Q Q ?_)))))))))))
       refine aN.nil (by kernel_rfl) (aC.blk (en [(1,Iv columns),(5,Cc (lo 21 fH.2.2.1.length)),(6,Cc (lo 23 fH.2.2.2.1.length)),(7,Cc (lo 24 fH.2.2.2.2.length)),(8,Iv fH.1),(9,Iv fH.2.1),(13,Cc (lo 28 mM.2.length)),(14,Iv mM.1)] [(21,pR 37 (bI true) fH.2.2.1),(23,pR 37 (bI true) fH.2.2.2.1),(24,pR 3 aH fH.2.2.2.2),(28,pR 3 aH (mM.2.set FX.toNat (aA (-(aA (Int.tdiv (aA (oN * fH.2.1)) xQ))))))] z8 z4 (Wr (aF (Iv mM.1) y4 (aT LT.add aU (aJ (Iv (aA (mM.1 + 1))) y4 (On (aC.nil ⟨Q,aO.of ⟨Q,Q,Q,Q,Q,Q,congrArg (fun l1 => (some (AV.s (.c (lo 28 l1))) : Option AV)) (show mM.2.length = (mM.2.set FX.toNat (aA (-(aA (Int.tdiv (aA (oN * fH.2.1)) xQ))))).length by simp only [List.length_set]),Q,J⟩ z4⟩))))))))
      ·refine aC.eF Q ⟨Q,aO.of z6 z4⟩
     ·refine Wr (aF (Cc (lo 21 jq.2.1.length)) y4 (aF (Cc (lo 28 jq.2.2.2.2.length)) y4 (aQ fun AL aFU => (aP.step (cF [.c (lo 28 jq.2.2.2.2.length)] [(28,pR 3 aH jq.2.2.2.2)] (Fw.Fn.ren [(0,30)] (aB7 jq.2.2.2.2 AL aFU) Q) Xt (.cons (.c (.iZ Q Q)) .nil) J y3) z2 z1 Q Q (aP.ent (aO.Az (enc := aH) 116 30 hU Q Q Q Q) (fK (LT.fZ (n := 31) (enc := (bI true)) [(0,.tmp 116,.c (xT aH AL))] [AL] Q Q gy kX Q Q Q Q (by decide) (fun _ => Q) Q) Q Q Q (aQ fun aI2 aF7 => (nS (LT.lI (enc := (bI true)) Q Q Q gy kX Q (by decide) (by decide) (fun _ => Q) (jU aF7)) Q Q Q Q Q Q (aJ (Cc (lo 21 ((jq.2.1 ++ [AL]).length))) y4 (On (aC.blk ?_)))))))))))
      refine en [(1,Iv columns),(5,Cc (lo 21 ((jq.2.1 ++ [AL]).length))),(6,Cc (lo 23 jq.2.2.1.length)),(7,Cc (lo 24 jq.2.2.2.1.length)),(8,Iv jq.1)] [(21,pR 37 (bI true) (jq.2.1 ++ [AL])),(23,pR 37 (bI true) jq.2.2.1),(24,pR 3 aH jq.2.2.2.1)] z5 z3 (Wr (aF (Iv jq.1) y4 (aT LT.add aU (aJ (Iv (aA (jq.1 + 1))) y4 (On (aW Q z5 z3))))))
  ·refine aC.eF Q ⟨Q,aO.of z1 z1⟩
 ·refine Ws (Wr ?_)
  refine aF (Cc (lo 21 wY.length)) y4 (aJ (Cc (lo 21 wY.length)) y4 (On (en [(4,Cc (lo 21 wY.length))] [(21,pR 37 (bI true) wY)] z1 z1 (aC.ent (aO.mv 21 0 Q Q) (en [(4,Cc (lo 0 wY.length))] [(0,pR 37 (bI true) wY)] z1 z1 (aC.ret (aj.mk (.inr Q) z1 z1 Q ⟨J,J⟩ ⟨dG.gm Bz,J⟩)))))))
theorem aB9 (f : aZ) : FT Try.prog (Ib f) 11 [.agg [iC f.Graph.aG,xF aI f.Graph.aB,xF aK f.Places]] [] (fun (t : (List (List Int))) => [.c (lo 0 t.length)]) (fun (t : (List (List Int))) => [(0,pR 37 (bI true) t)]) [0] := by
 refine FT.of [] Try.func11 Try.ntmps11 Q y2 ?_
 intro w0 U0 R0 g0
 unfold Ib
 refine Ws (Wr ?_)
 refine fK (LT.box (n := 21) (v := (.agg [iC f.Graph.aG,xF aI f.Graph.aB,xF aK f.Places])) Q bU (by exact Q)) Q Q Q (aJ (Cc (sC ah)) aX (On (Ws (Ws ?_))))
 refine aC.fC (fun j3 => ([(1,Cc (.pl 21 0)),(12,Bv j3)],[(21,.row 29 [[iC f.Graph.aG,xF aI f.Graph.aB,xF aK f.Places]])])) ?_ (fun j3 _ => ?_)
 ·refine Wr (bf (cO [iC f.Graph.aG,xF aI f.Graph.aB,xF aK f.Places] Q dW bn bU) Q Q Q Q (aQ fun r4 hr4 => (aP.pure (bQ [.agg [iC f.Graph.aG,xF aI f.Graph.aB,xF aK f.Places]] (C9 f r4 hr4) Ar (mO y3) J y3) z2 J Q Q (aS (LT.not Q) Q Q Q (aF (Bv (!r4)) y4 (aP.split (fun hb5 => ?_) (fun hb5 => ?_)))))))
  ·refine aV hb5 y5 (aV hb5 y5 (aV hb5 y5 (aV hb5 y5 (aV hb5 y5 (dh (Bv true) hb5 aU (On (aW Q z2 z1)))))))
  ·refine aS (LT.gV Q jm) Q (gH hb5 Q Q) Q (kR (xF aI f.Graph.aB) iJ iU hb5 iq (aS (LT.fA Q ig) Q (gH hb5 Q Q) Q (iT LT.eql hb5 kE (gY (Bv ((f.Graph.aB.length : Int) == 0)) hb5 y5 (On (aW Q z2 z1))))))
 ·refine aC.cond Q (fun hc6 => ?_) (fun hc6 => ?_)
  ·refine Ws (Wr ?_)
   refine dP (LT.fZ (n := 23) (enc := (bI true)) [] ([] : List (List Int)) Q Q gy kX Q Q Q Q (by decide) (fun _ => Q) Q) Q Q (aJ (Cc (lo 23 (([] : List (List Int)).length))) y4 (On (en [(2,Cc (lo 23 (([] : List (List Int)).length)))] [(23,pR 37 (bI true) ([] : List (List Int)))] z1 z1 (aC.ent (aO.mv 23 0 Q Q) (en [(2,Cc (lo 0 (([] : List (List Int)).length)))] [(0,pR 37 (bI true) ([] : List (List Int)))] z1 z1 (aC.ret (aj.mk (.inr Q) z1 z1 Q ⟨J,J⟩ ⟨dG.gm Bz,J⟩)))))))
  ·refine aC.skip (Ws (aC.draw mixed ?_))
   refine gQ (cO [iC f.Graph.aG,xF aI f.Graph.aB,xF aK f.Places] Q dW bn bU) Q Q Q Q (aN.bind fun r7 tY => (aN.step (bQ [.agg [iC f.Graph.aG,xF aI f.Graph.aB,xF aK f.Places]] (Fw.Fn.ren [(0,25),(1,26)] (aCC f r7 tY) Q) X7 (mO y3) J y3) z2 J Q Q (bJ (LT.gV Q jm) Q Q Q (eG (xF aI f.Graph.aB) iJ iU bP (bJ (LT.fA Q ig) Q Q Q (aN.bind fun r8 xB => (aN.step (cF [.c (lo 25 r7.length),.c (iC (f.Graph.aB.length : Int))] [(25,.ax 37 26 (af r7)),(26,.pool 3 (rowsOf aH r7))] (Fw.Fn.ren [(0,28)] (aCH r7 (f.Graph.aB.length : Int) r8 xB) Q) X6 (.cons (.c (.Ci Q Q Q (fun _ => Q))) (.cons (.c (.same Q)) .nil)) J y3) z3 z2 Q Q (bJ (LT.assign (v := (Cc (lo 28 r8.length))) Q) Q Q Q (aN.nil (by kernel_rfl) (en [(2,Cc (lo 28 r8.length))] [(28,pR 37 (bI true) r8)] z1 z1 ?_))))))))))
   refine aC.ent (aO.mv 28 0 Q Q) (en [(2,Cc (lo 0 r8.length))] [(0,pR 37 (bI true) r8)] z1 z1 (aC.ret (aj.mk (.inr Q) z1 z1 Q ⟨J,J⟩ ⟨dG.gm Bz,J⟩)))
theorem WY (a : (List Int)) (b : (List Int)) : FT Try.prog (BV a b) 19 [.c (xF aH a),.c (xF aH b)] [] (fun (t : Bool) => [.c (bC t)]) (fun (t : Bool) => []) [] := by
 refine FT.of [] Try.func19 Try.ntmps19 Q y2 ?_
 intro w0 U0 R0 g0
 unfold BV
 refine Ws (Wr ?_)
 refine aJ (Bv false) aX (On (Ws (Ws (Wr ?_))))
 refine aF (Cc (xF aH a)) y4 (aS (LT.fA Q bZ) Q Q Q (aF (Cc (xF aH b)) y4 (aS (LT.fA Q bZ) Q Q Q (aT LT.neq y5 (On (aC.cond Q (fun hc1 => ?_) (fun hc1 => ?_)))))))
 ·refine Ws (Wr ?_)
  refine aJ (Bv false) aX (On (aC.ret (aj.mk (.inr Q) z1 J Q ⟨au.sc,J⟩ J)))
 ·refine aC.skip (Ws (Ws (Wr ?_)))
  refine aJ (Iv 0) aX (On (aC.block ?_))
  refine aC.nV (id := 0) (IG a b) (fun s2 => ([(0,Cc (xF aH a)),(1,Cc (xF aH b)),(5,Iv s2)],[])) (fun b11 => ([],[])) (aj Try.prog Try.f19.results.toList [] [] (fun (t : Bool) => [.c (bC t)]) (fun (t : Bool) => [])) ?_ (aO.of z3 J) Q (fun b11 _ => ?_) (by intro r t σ m ht hk; injection ht with ht; subst ht; exact hk)
  ·intro s2
   unfold IG
   refine Ws (Ws (Wr ?_))
   refine aF (Iv s2) y4 (aF (Cc (xF aH a)) y4 (aS (LT.fA Q bZ) Q Q Q (aT LT.lss y5 (On (aC.cond Q (fun hc12 => ?_) (fun hc12 => ?_))))))
   ·refine aC.skip (Ws (aC.block (Ws (aC.draw mixed ?_))))
    refine ak (Cc (xF aH a)) y4 (ak (Iv s2) y4 (aN.bind fun jQ Ko => (dJ (LT.dH (enc := aH) Q dR Ko fM) Q Q Q Q (bJ (LT.fO Q ay) Q Q Q (ak (Cc (xF aH b)) y4 (ak (Iv s2) y4 (aN.bind fun x14 Uk => (dJ (LT.dH (enc := aH) Q dR Uk fM) Q Q Q Q (bJ (LT.fO Q ay) Q Q Q (iE LT.neq y5 (aN.nil (by kernel_rfl) ?_)))))))))))
    refine aC.cond Q (fun KF => ?_) (fun KF => ?_)
    ·refine Ws (en [] [] J J (Wr (aJ (Bv false) aX (On (aC.ret ⟨Q,aj.mk (.inr Q) z1 J Q ⟨au.sc,J⟩ J⟩)))))
    ·refine aC.skip (aC.blk ?_)
     refine en [(0,Cc (xF aH a)),(1,Cc (xF aH b)),(5,Iv s2)] [] z3 J (Wr (aF (Iv s2) y4 (aT LT.add aU (aJ (Iv (aA (s2 + 1))) y4 (On (aW Q z3 J))))))
   ·refine aC.eF Q ⟨Q,aO.of J J⟩
  ·refine Ws (Wr ?_)
   refine aJ (Bv true) aX (On (aC.ret (aj.mk (.inr Q) z1 J Q ⟨au.sc,J⟩ J)))
theorem aJS (a : (List (List Int))) (b : (List (List Int))) : FT Try.prog (II a b) 10 [.c (xF (bI false) a),.c (xF (bI false) b)] [] (fun (t : Bool) => [.c (bC t)]) (fun (t : Bool) => []) [] := by
 refine FT.of [] Try.func10 Try.ntmps10 Q y2 ?_
 intro w0 U0 R0 g0
 unfold II
 refine Ws (Wr ?_)
 refine aJ (Bv false) aX (On (Ws (Ws (Wr ?_))))
 refine aF (Cc (xF (bI false) a)) y4 (aS (LT.fA Q gy) Q Q Q (aF (Cc (xF (bI false) b)) y4 (aS (LT.fA Q gy) Q Q Q (aT LT.neq y5 (On (aC.cond Q (fun hc1 => ?_) (fun hc1 => ?_)))))))
 ·refine Ws (Wr ?_)
  refine aJ (Bv false) aX (On (aC.ret (aj.mk (.inr Q) z1 J Q ⟨au.sc,J⟩ J)))
 ·refine aC.skip (Ws (Ws (Wr ?_)))
  refine aJ (Iv 0) aX (On (aC.block ?_))
  refine aC.nV (id := 0) (IJ a b) (fun s2 => ([(0,Cc (xF (bI false) a)),(1,Cc (xF (bI false) b)),(5,Iv s2)],[])) (fun b13 => ([],[])) (aj Try.prog Try.f10.results.toList [] [] (fun (t : Bool) => [.c (bC t)]) (fun (t : Bool) => [])) ?_ (aO.of z3 J) Q (fun b13 _ => ?_) (by intro r t σ m ht hk; injection ht with ht; subst ht; exact hk)
  ·intro s2
   unfold IJ
   refine Ws (Ws (Wr ?_))
   refine aF (Iv s2) y4 (aF (Cc (xF (bI false) a)) y4 (aS (LT.fA Q gy) Q Q Q (aT LT.lss y5 (On (aC.cond Q (fun wu => ?_) (fun wu => ?_))))))
   ·refine aC.skip (Ws (aC.block (Ws (aC.draw mixed ?_))))
    refine ak (Cc (xF (bI false) a)) y4 (ak (Iv s2) y4 (aN.bind fun x15 Ul => (dJ (LT.dH (enc := (bI false)) Q iL Ul qy) Q Q Q Q (bJ (LT.fO Q jR) Q Q Q (ak (Cc (xF (bI false) b)) y4 (ak (Iv s2) y4 (aN.bind fun x16 hx16 => (dJ (LT.dH (enc := (bI false)) Q iL hx16 qy) Q Q Q Q (bJ (LT.fO Q jR) Q Q Q (aN.bind fun pG KO => (aN.pure (bQ [.c (xF aH x15),.c (xF aH x16)] (WY x15 x16 pG KO) SB (ji y2) J y3) z3 J Q Q ?_)))))))))))
    refine bJ (LT.not Q) Q Q Q (aN.nil (by kernel_rfl) (aC.cond Q (fun hc18 => ?_) (fun hc18 => ?_)))
    ·refine Ws (en [] [] J J (Wr (aJ (Bv false) aX (On (aC.ret ⟨Q,aj.mk (.inr Q) z1 J Q ⟨au.sc,J⟩ J⟩)))))
    ·refine aC.skip (aC.blk ?_)
     refine en [(0,Cc (xF (bI false) a)),(1,Cc (xF (bI false) b)),(5,Iv s2)] [] z3 J (Wr (aF (Iv s2) y4 (aT LT.add aU (aJ (Iv (aA (s2 + 1))) y4 (On (aW Q z3 J))))))
   ·refine aC.eF Q ⟨Q,aO.of J J⟩
  ·refine Ws (Wr ?_)
   refine aJ (Bv true) aX (On (aC.ret (aj.mk (.inr Q) z1 J Q ⟨au.sc,J⟩ J)))
theorem aJP (m : (List (List Int))) (columns : Int) : FT Try.prog (P5 m columns) 133 [.c (xF (bI false) m),.c (iC columns)] [] (fun (t : Int) => [.c (iC t)]) (fun (t : Int) => []) [] := by
 refine FT.of [] Try.func133 Try.ntmps133 Q y2 ?_
 intro w0 U0 R0 g0
 unfold P5
 refine Ws (Wr ?_)
 refine aJ (Iv 0) aX (On (Ws (Wr ?_)))
 refine aF (Cc (xF (bI false) m)) y4 (aF (Iv columns) y4 (aQ fun r1 hr1 => (aP.step (bQ [.c (xF (bI false) m),.c (iC columns)] (Fw.Fn.ren [(0,22),(1,23),(2,24)] (aB4 m columns r1 hr1) Q) Xr (ji y2) J y3) z3 J Q Q (aF (.dO [.c (lo 22 r1.1.length),.c (lo 24 r1.2.1.length),.c (iC r1.2.2)]) y4 (aS (LT.extract (v := (.c (lo 22 r1.1.length))) Q (by exact Q)) Q Q Q (aS (LT.extract (v := (.c (lo 24 r1.2.1.length))) Q (by exact Q)) Q Q Q (aS (LT.extract (v := (.c (iC r1.2.2))) Q (by exact Q)) Q Q Q (aJ (Cc (lo 22 r1.1.length)) y4 (aJ (Cc (lo 24 r1.2.1.length)) y4 (aJ (Iv r1.2.2) y4 (On (Ws ?_))))))))))))
 refine en [(6,Cc (lo 24 r1.2.1.length))] [(24,pR 3 aH r1.2.1)] z1 z1 (Wr (aF (Cc (lo 24 r1.2.1.length)) y4 (aS (LT.jg Q bZ) Q Q Q (aJ (Iv (r1.2.1.length : Int)) y4 (On (aC.ret (aj.mk (.inr Q) z1 J Q ⟨au.sc,J⟩ J)))))))
end Go.Proofs.Ytdmlaldifbmkpaa
end
section
set_option linter.unusedVariables false
set_option linter.unusedSimpArgs false
set_option linter.unnecessarySimpa false
set_option maxRecDepth 100000
set_option maxHeartbeats 8000000
open Go Go.Fw
namespace Go.Proofs.Ytdmlaldifbmkpaa
theorem aJF (f : aZ) : FT Try.prog (Le f) 60 [.agg [iC f.Graph.aG,xF aI f.Graph.aB,xF aK f.Places]] [] (fun (t : Int) => [.c (iC t)]) (fun (t : Int) => []) [] := by
 refine FT.of [] Try.func60 Try.ntmps60 Q y2 ?_
 intro w0 U0 R0 g0
 unfold Le
 refine Ws (Wr ?_)
 refine fK (LT.box (n := 21) (v := (.agg [iC f.Graph.aG,xF aI f.Graph.aB,xF aK f.Places])) Q bU (by exact Q)) Q Q Q (aJ (Iv 0) aX (On (Ws (Ws (Wr ?_)))))
 refine bf (cO [iC f.Graph.aG,xF aI f.Graph.aB,xF aK f.Places] Q dW bn bU) Q Q Q Q (aQ fun r1 hr1 => (aP.pure (bQ [.agg [iC f.Graph.aG,xF aI f.Graph.aB,xF aK f.Places]] (FU f r1 hr1) Dh (mO y3) J y3) z2 J Q Q (aS (LT.not Q) Q Q Q (On (aC.cond Q (fun hc2 => ?_) (fun hc2 => ?_))))))
 ·refine Ws (Wr ?_)
  refine aJ (Iv (-1)) aX (On (aC.ret (aj.mk (.inr Q) z1 J Q ⟨au.sc,J⟩ J)))
 ·refine aC.skip (Ws (aC.draw mixed ?_))
  refine gQ (cO [iC f.Graph.aG,xF aI f.Graph.aB,xF aK f.Places] Q dW bn bU) Q Q Q Q (aN.bind fun r3 hr3 => (aN.step (bQ [.agg [iC f.Graph.aG,xF aI f.Graph.aB,xF aK f.Places]] (Fw.Fn.ren [(0,24),(1,25)] (WV f r3 hr3) Q) SK (mO y3) J y3) z2 J Q Q (bJ (LT.gV Q jm) Q Q Q (eG (iC f.Graph.aG) mQ ay bP (iE LT.mul nP (aN.bind fun r4 hr4 => (aN.pure (cF [.c (lo 24 r3.length),.c (iC (aA (2 * f.Graph.aG)))] [(24,.ax 37 25 (af r3)),(25,.pool 3 (rowsOf aH r3))] (aJP r3 (aA (2 * f.Graph.aG)) r4 hr4) aC2 (.cons (.c (.Ci Q Q Q (fun _ => Q))) (.cons (.c (.same Q)) .nil)) J y3) z3 z2 Q Q (bJ (LT.assign (v := (Iv r4)) Q) Q Q Q (aN.nil (by kernel_rfl) (aC.ret (aj.mk (.inr Q) z1 J Q ⟨au.sc,J⟩ J)))))))))))
theorem aJE (f : aZ) : FT Try.prog (Ld f) 13 [.agg [iC f.Graph.aG,xF aI f.Graph.aB,xF aK f.Places]] [] (fun (t : Int) => [.c (iC t)]) (fun (t : Int) => []) [] := by
 refine FT.of [] Try.func13 Try.ntmps13 Q y2 ?_
 intro w0 U0 R0 g0
 unfold Ld
 refine Ws (Wr ?_)
 refine fK (LT.box (n := 21) (v := (.agg [iC f.Graph.aG,xF aI f.Graph.aB,xF aK f.Places])) Q bU (by exact Q)) Q Q Q (aJ (Iv 0) aX (On (Ws (Ws (Wr ?_)))))
 refine bf (cO [iC f.Graph.aG,xF aI f.Graph.aB,xF aK f.Places] Q dW bn bU) Q Q Q Q (aQ fun r1 hr1 => (aP.pure (bQ [.agg [iC f.Graph.aG,xF aI f.Graph.aB,xF aK f.Places]] (FU f r1 hr1) Dh (mO y3) J y3) z2 J Q Q (aS (LT.not Q) Q Q Q (On (aC.cond Q (fun hc2 => ?_) (fun hc2 => ?_))))))
 ·refine Ws (Wr ?_)
  refine aJ (Iv (-1)) aX (On (aC.ret (aj.mk (.inr Q) z1 J Q ⟨au.sc,J⟩ J)))
 ·refine aC.skip (Ws (aC.draw mixed ?_))
  refine bJ (LT.gV Q jm) Q Q Q (eG (xF aI f.Graph.aB) iJ iU bP (bJ (LT.fA Q ig) Q Q Q (gQ (cO [iC f.Graph.aG,xF aI f.Graph.aB,xF aK f.Places] Q dW bn bU) Q Q Q Q (aN.bind fun r3 hr3 => (aN.pure (bQ [.agg [iC f.Graph.aG,xF aI f.Graph.aB,xF aK f.Places]] (aJF f r3 hr3) aDQ (mO y3) J y3) z2 J Q Q (iE LT.sub y5 (bJ (LT.assign (v := (Iv (aA ((f.Graph.aB.length : Int) - r3)))) Q) Q Q Q (aN.nil (by kernel_rfl) (aC.ret (aj.mk (.inr Q) z1 J Q ⟨au.sc,J⟩ J))))))))))
theorem aJL (v : (List Int)) (n : Int) : FT Try.prog (Lr v n) 165 [.c (xF aH v),.c (iC n)] [] (fun (t : Bool) => [.c (bC t)]) (fun (t : Bool) => []) [] := by
 refine FT.of [] Try.func165 Try.ntmps165 Q y2 ?_
 intro w0 U0 R0 g0
 unfold Lr
 refine Ws (Wr ?_)
 refine aJ (Bv false) aX (On (Ws (Ws (Wr ?_))))
 refine aF (Cc (xF aH v)) y4 (aS (LT.fA Q bZ) Q Q Q (aF (Iv 0) aX (On (aC.block ?_))))
 refine aC.nV (id := 0) (Ho v) (fun s1 => ([(0,Cc (xF aH v)),(1,Iv n),(7,Cc (xF aH v)),(8,Iv (v.length : Int)),(9,Iv s1)],[])) (fun b10 => ([(0,Cc (xF aH v)),(1,Iv n)],[])) (aj Try.prog Try.f165.results.toList [] [] (fun (t : Bool) => [.c (bC t)]) (fun (t : Bool) => [])) ?_ (aO.of z5 J) Q (fun b10 _ => ?_) (by intro r t σ m ht hk; injection ht with ht; subst ht; exact hk)
 ·intro s1
  unfold Ho
  refine Ws (Wr ?_)
  refine aT LT.lss y5 (On (Ws ?_))
  refine aC.cond Q (fun rP => ?_) (fun rP => ?_)
  ·refine aC.skip (Ws (aC.block (Ws (Wr ?_))))
   refine aQ fun x12 vW => (dY (LT.dH (enc := aH) Q dR vW fM) Q Q Q Q (aS (LT.fO Q ay) Q Q Q (aJ (Iv x12) y4 (On (Ws (Wr ?_))))))
   refine aF (Iv x12) y4 (aQ fun r13 rQ => (aP.pure (bQ [.c (iC x12),.c (iC (-10000000000)),.c (iC 10000000000)] (Ns x12 (-10000000000) 10000000000 r13 rQ) Jv (vH y3) J y3) ⟨Q,Q,y2,y2,J⟩ J Q Q (aS (LT.not Q) Q Q Q (On (aC.cond Q (fun wu => ?_) (fun wu => ?_))))))
   ·refine Ws (Wr ?_)
    refine aJ (Bv false) aX (On (aC.ret ⟨Q,aj.mk (.inr Q) z1 J Q ⟨au.sc,J⟩ J⟩))
   ·refine aC.skip (aC.blk (Wr ?_))
    refine aT LT.add aU (aF (Iv (aA (s1 + 1))) y4 (On (aW Q z5 J)))
  ·refine aC.eF Q ⟨Q,aO.of z2 J⟩
 ·refine Ws (Wr ?_)
  refine aF (Cc (xF aH v)) y4 (aS (LT.fA Q bZ) Q Q Q (aF (Iv n) y4 (aT LT.eql y5 (aJ (Bv ((v.length : Int) == n)) y4 (On (aC.ret (aj.mk (.inr Q) z1 J Q ⟨au.sc,J⟩ J)))))))
theorem aB0 (f : aZ) (w : (List Int)) : FT Try.prog (Hl f w) 88 [.agg [iC f.Graph.aG,xF aI f.Graph.aB,xF aK f.Places],.c (xF aH w)] [] (fun (t : Bool) => [.c (bC t)]) (fun (t : Bool) => []) [] := by
 refine FT.of [] Try.func88 Try.ntmps88 Q y2 ?_
 intro w0 U0 R0 g0
 unfold Hl
 refine Ws (Wr ?_)
 refine fK (LT.box (n := 21) (v := (.agg [iC f.Graph.aG,xF aI f.Graph.aB,xF aK f.Places])) Q bU (by exact Q)) Q Q Q (aJ (Bv false) aX (On (Ws ?_)))
 refine aC.fC (fun j4 => ([(4,Bv j4)],[])) ?_ (fun j4 _ => ?_)
 ·refine Wr (bf (cO [iC f.Graph.aG,xF aI f.Graph.aB,xF aK f.Places] Q dW bn bU) Q Q Q Q (aQ fun r5 vV => (aP.pure (bQ [.agg [iC f.Graph.aG,xF aI f.Graph.aB,xF aK f.Places]] (FU f r5 vV) Dh (mO y3) J y3) z2 J Q Q (aF (Bv r5) y4 (aP.split (fun hb6 => ?_) (fun hb6 => ?_))))))
  ·refine gW (Cc (xF aH w)) hb6 y5 (aS (LT.gV Q jm) Q (gH hb6 Q Q) Q (kR (xF aI f.Graph.aB) iJ iU hb6 iq (aS (LT.fA Q ig) Q (gH hb6 Q Q) Q (aQ fun r7 tY => (aP.pure (bQ [.c (xF aH w),.c (iC (f.Graph.aB.length : Int))] (aJL w (f.Graph.aB.length : Int) r7 tY) aC8 (ji y2) J y3) z3 J (gH hb6 Q Q) Q (dh (Bv r7) hb6 y5 (aJ (Bv r7) y4 (On (aW Q z1 J)))))))))
  ·refine aV hb6 y5 (aV hb6 y5 (aV hb6 y5 (aV hb6 y5 (aV hb6 y5 (aV hb6 y5 (gY (Bv false) hb6 aU (aJ (Bv false) y4 (On (aW Q z1 J)))))))))
 ·refine aC.ret (aj.mk (.inr Q) z1 J Q ⟨au.sc,J⟩ J)
theorem aJB (x : aY) (v : Int) : FT Try.prog (LZ x v) 97 [.agg [iC x.A,iC x.B],.c (iC v)] [] (fun (t : Bool) => [.c (bC t)]) (fun (t : Bool) => []) [] := by
 refine FT.of [] Try.func97 Try.ntmps97 Q y2 ?_
 intro w0 U0 R0 g0
 unfold LZ
 refine Ws (Wr ?_)
 refine fK (LT.box (n := 21) (v := (.agg [iC x.A,iC x.B])) Q fQ (by exact Q)) Q Q Q (aJ (Bv false) aX (On (Ws ?_)))
 refine aC.fC (fun j2 => ([(4,Bv j2)],[])) ?_ (fun j2 _ => ?_)
 ·refine Wr (fV (iC x.A) lS ay bP (aF (Iv v) y4 (aT LT.eql y5 (aF (Bv (x.A == v)) y4 (aP.split (fun hb3 => ?_) (fun hb3 => ?_))))))
  ·refine aV hb3 y5 (aV hb3 y5 (aV hb3 y5 (aV hb3 y5 (dh (Bv true) hb3 aU (aJ (Bv true) y4 (On (aW Q z1 J)))))))
  ·refine kR (iC x.B) mV ay hb3 iq (gW (Iv v) hb3 y5 (iT LT.eql hb3 y6 (gY (Bv (x.B == v)) hb3 y5 (aJ (Bv (x.B == v)) y4 (On (aW Q z1 J))))))
 ·refine aC.ret (aj.mk (.inr Q) z1 J Q ⟨au.sc,J⟩ J)
theorem WT (f : aZ) (w : (List Int)) (v : Int) : FT Try.prog (yN f w v) 24 [.agg [iC f.Graph.aG,xF aI f.Graph.aB,xF aK f.Places],.c (xF aH w),.c (iC v)] [] (fun (t : (Int × Int)) => [.c (iC t.1),.c (iC t.2)]) (fun (t : (Int × Int)) => []) [] := by
 refine FT.of [] Try.func24 Try.ntmps24 Q y2 ?_
 intro w0 U0 R0 g0
 unfold yN
 refine Ws (Wr ?_)
 refine fK (LT.box (n := 21) (v := (.agg [iC f.Graph.aG,xF aI f.Graph.aB,xF aK f.Places])) Q bU (by exact Q)) Q Q Q (aJ (Iv 0) aX (aJ (Iv 0) aX (On (Ws (Wr ?_)))))
 refine aJ (Iv 0) aX (aJ (Iv 0) aX (On (Ws (Ws (Wr ?_)))))
 refine bf (cO [iC f.Graph.aG,xF aI f.Graph.aB,xF aK f.Places] Q dW bn bU) Q Q Q Q (aF (Cc (xF aH w)) y4 (aQ fun r1 hr1 => (aP.pure (bQ [.agg [iC f.Graph.aG,xF aI f.Graph.aB,xF aK f.Places],.c (xF aH w)] (aB0 f w r1 hr1) X8 (xM y4) J y3) z3 J Q Q (aS (LT.not Q) Q Q Q (On (aC.cond Q (fun hc2 => ?_) (fun hc2 => ?_)))))))
 ·refine Ws (en [(8,Iv 0),(9,Iv 0)] [] z2 J (Wr (aF (Iv 0) y4 (aF (Iv 0) y4 (aJ (Iv 0) y4 (aJ (Iv 0) y4 (On (aC.ret (aj.mk (.inr Q) z2 J Q ⟨au.sc,au.sc,J⟩ J)))))))))
 ·refine aC.skip (Ws (Ws ?_))
  refine en [(1,Cc (xF aH w)),(2,Iv v),(3,Cc (.pl 21 0)),(8,Iv 0),(9,Iv 0)] [(21,.row 29 [[iC f.Graph.aG,xF aI f.Graph.aB,xF aK f.Places]])] z5 z1 (Wr (aS (LT.gV Q jm) Q Q Q (fV (xF aI f.Graph.aB) iJ iU bP (aS (LT.fA Q ig) Q Q Q (aF (Iv 0) aX (On (aC.block ?_)))))))
  refine aC.iW (id := 0) (zo f w v) (fun s3 => ([(1,Cc (xF aH w)),(2,Iv v),(3,Cc (.pl 21 0)),(8,Iv s3.1),(9,Iv s3.2.1),(22,Cc (xF aI f.Graph.aB)),(23,Iv (f.Graph.aB.length : Int)),(24,Iv s3.2.2)],[(21,.row 29 [[iC f.Graph.aG,xF aI f.Graph.aB,xF aK f.Places]])])) (fun oW => ([(8,Iv oW.1),(9,Iv oW.2)],[])) ?_ (aO.of z8 z1) Q (fun oW _ => ?_)
  ·intro s3
   unfold zo
   refine Ws (Wr ?_)
   refine aT LT.lss y5 (On (Ws ?_))
   refine aC.cond Q (fun Tj => ?_) (fun Tj => ?_)
   ·refine aC.skip (Ws (aC.block (Ws (Wr ?_))))
    refine aF (Iv s3.2.2) y4 (aQ fun x38 hx38 => (dY (LT.dH (enc := aI) Q rH hx38 fQ) Q Q Q Q (aS (LT.lF Q kZ (dK jO) (by exact fQ.symm)) Q Q Q (dP (LT.alloc (n := 23) (cells := [iC 0,iC 0]) Q jo Q Q Q) Q Q (aJ (Iv s3.2.2) y4 (dU (stA [iC x38.A,iC x38.B] Q Q jO fQ) Q Q Q Q Q (On (Ws ?_))))))))
    refine en [(1,Cc (xF aH w)),(2,Iv v),(3,Cc (.pl 21 0)),(8,Iv s3.1),(9,Iv s3.2.1),(10,Iv s3.2.2),(11,Cc (.pl 23 0)),(22,Cc (xF aI f.Graph.aB)),(23,Iv (f.Graph.aB.length : Int)),(24,Iv s3.2.2)] [(21,.row 29 [[iC f.Graph.aG,xF aI f.Graph.aB,xF aK f.Places]]),(23,.row 96 [[iC x38.A,iC x38.B]])] z10 z2 (Wr (bf (cO [iC x38.A,iC x38.B] Q kZ jO fQ) Q Q Q Q (aF (Iv v) y4 (aQ fun Vl aFc => (aP.pure (bQ [.agg [iC x38.A,iC x38.B],.c (iC v)] (aJB x38 v Vl aFc) aDX (V4 y3) J y3) z3 J Q Q (On (aC.fC (fun j46 => ([(1,Cc (xF aH w)),(2,Iv v),(3,Cc (.pl 21 0)),(8,Iv j46.1),(9,Iv j46.2),(22,Cc (xF aI f.Graph.aB)),(23,Iv (f.Graph.aB.length : Int)),(24,Iv s3.2.2)],[(21,.row 29 [[iC f.Graph.aG,xF aI f.Graph.aB,xF aK f.Places]])])) ?_ (fun j46 _ => ?_))))))))
    ·refine aC.cond Q (fun hc47 => ?_) (fun hc47 => ?_)
     ·refine Ws (aC.draw mixed ?_)
      refine eG (xF aK f.Places) iy jC bP (ak (Iv v) y4 (aN.bind fun jH Ur => (dJ (LT.dH (enc := aK) Q kG Ur iH) Q Q Q Q (bJ (LT.lF Q rF (dK nT) (by exact iH.symm)) Q Q Q (eG (xF aK f.Places) iy jC bP (gQ (cO [iC x38.A,iC x38.B] Q kZ jO fQ) Q Q Q Q (ak (Iv v) y4 (aN.bind fun Vm aFe => (aN.pure (bQ [.agg [iC x38.A,iC x38.B],.c (iC v)] (aJC x38 v Vm aFe) aDY (V4 y3) J y3) z3 J Q Q ?_)))))))))
      refine aN.bind fun nR Gf => (dJ (LT.dH (enc := aK) Q kG Gf iH) Q Q Q Q (bJ (LT.lF Q rF (dK nT) (by exact iH.symm)) Q Q Q (DN (LT.alloc (n := 26) (cells := [iC 0,iC 0]) Q AY Q Q Q) Q Q (DN (LT.alloc (n := 27) (cells := [iC 0,iC 0]) Q AY Q Q Q) Q Q (lW (stA [iC jH.X,iC jH.Y] Q Q nT iH) Q Q Q Q Q (lW (stA [iC nR.X,iC nR.Y] Q Q nT iH) Q Q Q Q Q (aN.nil (by kernel_rfl) (Ws (en [(1,Cc (xF aH w)),(2,Iv v),(3,Cc (.pl 21 0)),(8,Iv s3.1),(9,Iv s3.2.1),(10,Iv s3.2.2),(12,Cc (.pl 26 0)),(13,Cc (.pl 27 0)),(22,Cc (xF aI f.Graph.aB)),(23,Iv (f.Graph.aB.length : Int)),(24,Iv s3.2.2)] [(21,.row 29 [[iC f.Graph.aG,xF aI f.Graph.aB,xF aK f.Places]]),(26,.row 82 [[iC jH.X,iC jH.Y]]),(27,.row 82 [[iC nR.X,iC nR.Y]])] z11 z3 (aC.draw mixed (ak (Iv s3.1) y4 ?_)))))))))))
      refine ak (Cc (xF aH w)) y4 (ak (Iv s3.2.2) y4 (aN.bind fun Jg PW => (dJ (LT.dH (enc := aH) Q dR PW fM) Q Q Q Q (bJ (LT.fO Q ay) Q Q Q (eG (iC jH.X) rJ ay bP (eG (iC nR.X) rJ ay bP (iE LT.sub y5 (iE LT.mul y5 (iE LT.add y5 ?_)))))))))
      refine bJ (LT.assign (v := (Iv (aA (s3.1 + (aA (Jg * (aA (jH.X - nR.X)))))))) Q) Q Q Q (aN.nil (by kernel_rfl) (en [(1,Cc (xF aH w)),(2,Iv v),(3,Cc (.pl 21 0)),(8,Iv (aA (s3.1 + (aA (Jg * (aA (jH.X - nR.X))))))),(9,Iv s3.2.1),(10,Iv s3.2.2),(12,Cc (.pl 26 0)),(13,Cc (.pl 27 0)),(22,Cc (xF aI f.Graph.aB)),(23,Iv (f.Graph.aB.length : Int)),(24,Iv s3.2.2)] [(21,.row 29 [[iC f.Graph.aG,xF aI f.Graph.aB,xF aK f.Places]]),(26,.row 82 [[iC jH.X,iC jH.Y]]),(27,.row 82 [[iC nR.X,iC nR.Y]])] z11 z3 (aC.draw mixed (ak (Iv s3.2.1) y4 (ak (Cc (xF aH w)) y4 (ak (Iv s3.2.2) y4 (aN.bind fun N7 PX => (dJ (LT.dH (enc := aH) Q dR PX fM) Q Q Q Q (bJ (LT.fO Q ay) Q Q Q (eG (iC jH.Y) sN ay bP ?_))))))))))
      refine eG (iC nR.Y) sN ay bP (iE LT.sub y5 (iE LT.mul y5 (iE LT.add y5 (bJ (LT.assign (v := (Iv (aA (s3.2.1 + (aA (N7 * (aA (jH.Y - nR.Y)))))))) Q) Q Q Q (aN.nil (by kernel_rfl) (aW Q z8 z1))))))
     ·refine aC.skip (aW Q z8 z1)
    ·refine aC.blk (Wr ?_)
     refine aT LT.add aU (aF (Iv (aA (s3.2.2 + 1))) y4 (On (aW Q z8 z1)))
   ·refine aC.eF Q ⟨Q,aO.of z2 J⟩
  ·refine Ws (Wr ?_)
   refine aF (Iv oW.1) y4 (aF (Iv oW.2) y4 (aJ (Iv oW.1) y4 (aJ (Iv oW.2) y4 (On (aC.ret (aj.mk (.inr Q) z2 J Q ⟨au.sc,au.sc,J⟩ J))))))
theorem aBy (f : aZ) (w : (List Int)) : FT Try.prog (G7 f w) 14 [.agg [iC f.Graph.aG,xF aI f.Graph.aB,xF aK f.Places],.c (xF aH w)] [] (fun (t : Bool) => [.c (bC t)]) (fun (t : Bool) => []) [] := by
 refine FT.of [] Try.func14 Try.ntmps14 Q y2 ?_
 intro w0 U0 R0 g0
 unfold G7
 refine Ws (Wr ?_)
 refine fK (LT.box (n := 21) (v := (.agg [iC f.Graph.aG,xF aI f.Graph.aB,xF aK f.Places])) Q bU (by exact Q)) Q Q Q (aJ (Bv false) aX (On (Ws (Ws (Wr ?_)))))
 refine bf (cO [iC f.Graph.aG,xF aI f.Graph.aB,xF aK f.Places] Q dW bn bU) Q Q Q Q (aF (Cc (xF aH w)) y4 (aQ fun r1 hr1 => (aP.pure (bQ [.agg [iC f.Graph.aG,xF aI f.Graph.aB,xF aK f.Places],.c (xF aH w)] (aB0 f w r1 hr1) X8 (xM y4) J y3) z3 J Q Q (aS (LT.not Q) Q Q Q (On (aC.cond Q (fun hc2 => ?_) (fun hc2 => ?_)))))))
 ·refine Ws (Wr ?_)
  refine aJ (Bv false) aX (On (aC.ret (aj.mk (.inr Q) z1 J Q ⟨au.sc,J⟩ J)))
 ·refine aC.skip (Ws (Ws (Wr ?_)))
  refine fV (xF aK f.Places) iy jC bP (aS (LT.fA Q sZ) Q Q Q (aF (Iv 0) aX (On (aC.block ?_))))
  refine aC.nV (id := 0) (G8 f w) (fun s3 => ([(1,Cc (xF aH w)),(2,Cc (.pl 21 0)),(14,Iv (f.Places.length : Int)),(15,Iv s3)],[(21,.row 29 [[iC f.Graph.aG,xF aI f.Graph.aB,xF aK f.Places]])])) (fun b16 => ([],[])) (aj Try.prog Try.f14.results.toList [] [] (fun (t : Bool) => [.c (bC t)]) (fun (t : Bool) => [])) ?_ (aO.of z4 z1) Q (fun b16 _ => ?_) (by intro r t σ m ht hk; injection ht with ht; subst ht; exact hk)
  ·intro s3
   unfold G8
   refine Ws (Wr ?_)
   refine aT LT.lss y5 (On (Ws ?_))
   refine aC.cond Q (fun hc17 => ?_) (fun hc17 => ?_)
   ·refine aC.skip (Ws (aC.block (Ws (Wr ?_))))
    refine aF (Iv s3) y4 (aJ (Iv s3) y4 (On (Ws (Wr ?_))))
    refine bf (cO [iC f.Graph.aG,xF aI f.Graph.aB,xF aK f.Places] Q dW bn bU) Q Q Q Q (aF (Cc (xF aH w)) y4 (aF (Iv s3) y4 (aQ fun jJ zV => (aP.pure (bQ [.agg [iC f.Graph.aG,xF aI f.Graph.aB,xF aK f.Places],.c (xF aH w),.c (iC s3)] (WT f w s3 jJ zV) SG (aBG y5) J y3) z4 J Q Q (aF (.dO [.c (iC jJ.1),.c (iC jJ.2)]) y4 (aS (LT.extract (v := (.c (iC jJ.1))) Q (by exact Q)) Q Q Q (aS (LT.extract (v := (.c (iC jJ.2))) Q (by exact Q)) Q Q Q (aJ (Iv jJ.1) y4 (aJ (Iv jJ.2) y4 (On (Ws ?_)))))))))))
    refine aC.fC (fun j20 => ([(1,Cc (xF aH w)),(2,Cc (.pl 21 0)),(14,Iv (f.Places.length : Int)),(15,Iv s3),(30,Bv j20)],[(21,.row 29 [[iC f.Graph.aG,xF aI f.Graph.aB,xF aK f.Places]])])) ?_ (fun j20 _ => ?_)
    ·refine en [(1,Cc (xF aH w)),(2,Cc (.pl 21 0)),(6,Iv jJ.1),(7,Iv jJ.2),(14,Iv (f.Places.length : Int)),(15,Iv s3)] [(21,.row 29 [[iC f.Graph.aG,xF aI f.Graph.aB,xF aK f.Places]])] z6 z1 (Wr (aF (Iv jJ.1) y4 (aT LT.neq aU (aF (Bv (jJ.1 != 0)) y4 (aP.split (fun Dy => ?_) (fun Dy => ?_))))))
     ·refine aV Dy y5 (aV Dy y5 (dh (Bv true) Dy aU (On (aW Q z5 z1))))
     ·refine gW (Iv jJ.2) Dy y5 (iT LT.neq Dy kE (gY (Bv (jJ.2 != 0)) Dy y5 (On (aW Q z5 z1))))
    ·refine aC.cond Q (fun hc22 => ?_) (fun hc22 => ?_)
     ·refine Ws (Wr ?_)
      refine aJ (Bv false) aX (On (aC.ret ⟨Q,aj.mk (.inr Q) z1 J Q ⟨au.sc,J⟩ J⟩))
     ·refine aC.skip (aC.blk (Wr ?_))
      refine aT LT.add aU (aF (Iv (aA (s3 + 1))) y4 (On (aW Q z4 z1)))
   ·refine aC.eF Q ⟨Q,aO.of J J⟩
  ·refine Ws (Wr ?_)
   refine aJ (Bv true) aX (On (aC.ret (aj.mk (.inr Q) z1 J Q ⟨au.sc,J⟩ J)))
theorem aBz (w : (List Int)) : FT Try.prog (ES w) 15 [.c (xF aH w)] [] (fun (t : (List Int)) => [.c (lo 0 t.length)]) (fun (t : (List Int)) => [(0,pR 3 aH t)]) [0] := by
 refine FT.of [] Try.func15 Try.ntmps15 Q y2 ?_
 intro w0 U0 R0 g0
 unfold ES
 refine Ws (Wr ?_)
 refine aJ (Cc (sC ah)) aX (On (Ws (Wr ?_)))
 refine dP (LT.fZ (n := 21) (enc := aH) [] ([] : List Int) Q Q bZ eu Q Q Q Q (by decide) (fun _ => Q) Q) Q Q (aJ (Cc (lo 21 (([] : List Int).length))) y4 (On (Ws (Ws (Wr ?_)))))
 refine aF (Cc (xF aH w)) y4 (aS (LT.fA Q bZ) Q Q Q (aF (Iv 0) aX (On (aC.block ?_))))
 refine aC.iW (id := 0) (ET w) (fun s1 => ([(3,Cc (lo 21 s1.2.length)),(7,Cc (xF aH w)),(8,Iv (w.length : Int)),(9,Iv s1.1)],[(21,pR 3 aH s1.2)])) (fun b16 => ([(3,Cc (lo 21 b16.length))],[(21,pR 3 aH b16)])) ?_ (aO.of z4 z1) Q (fun b16 _ => ?_)
 ·intro s1
  unfold ET
  refine Ws (Wr ?_)
  refine aT LT.lss y5 (On (Ws ?_))
  refine aC.cond Q (fun hc17 => ?_) (fun hc17 => ?_)
  ·refine aC.skip (Ws (aC.block (Ws (Wr ?_))))
   refine aF (Iv s1.1) y4 (aQ fun x18 wE => (dY (LT.dH (enc := aH) Q dR wE fM) Q Q Q Q (aS (LT.fO Q ay) Q Q Q (aJ (Iv s1.1) y4 (aJ (Iv x18) y4 (On (Ws (Wr ?_))))))))
   refine aF (Iv x18) y4 (aT LT.neq aU (On (aC.fC (fun j21 => ([(3,Cc (lo 21 j21.length)),(7,Cc (xF aH w)),(8,Iv (w.length : Int)),(9,Iv s1.1)],[(21,pR 3 aH j21)])) ?_ (fun j21 _ => ?_))))
   ·refine aC.cond Q (fun hc22 => ?_) (fun hc22 => ?_)
    ·refine Wr (aF (Cc (lo 21 s1.2.length)) y4 (aF (Iv s1.1) y4 (fK (LT.fZ (n := 22) (enc := aH) [(0,.tmp 17,.c (iC s1.1))] ([s1.1] : List Int) Q Q bZ eu Q Q Q Q (by decide) (fun _ => Q) Q) Q Q Q (aQ fun u23 KW => (nS (LT.lI (enc := aH) Q Q Q bZ eu Q (by decide) (by decide) (fun _ => Q) (jU KW)) Q Q Q Q Q Q (aJ (Cc (lo 21 ((s1.2 ++ ([s1.1] : List Int)).length))) y4 (On (aW Q z4 z1))))))))
    ·refine aC.skip (aW Q z4 z1)
   ·refine aC.blk (Wr ?_)
    refine aT LT.add aU (aF (Iv (aA (s1.1 + 1))) y4 (On (aW Q z4 z1)))
  ·refine aC.eF Q ⟨Q,aO.of z1 z1⟩
 ·refine Ws (Wr ?_)
  refine aF (Cc (lo 21 b16.length)) y4 (aJ (Cc (lo 21 b16.length)) y4 (On (en [(2,Cc (lo 21 b16.length))] [(21,pR 3 aH b16)] z1 z1 (aC.ent (aO.mv 21 0 Q Q) (en [(2,Cc (lo 0 b16.length))] [(0,pR 3 aH b16)] z1 z1 (aC.ret (aj.mk (.inr Q) z1 z1 Q ⟨J,J⟩ ⟨dG.gm jb,J⟩)))))))
end Go.Proofs.Ytdmlaldifbmkpaa
end
section
set_option linter.unusedVariables false
set_option linter.unusedSimpArgs false
set_option linter.unnecessarySimpa false
set_option maxRecDepth 100000
set_option maxHeartbeats 8000000
open Go Go.Fw
namespace Go.Proofs.Ytdmlaldifbmkpaa
theorem aCJ (c : cZ) (n : Int) : FT Try.prog (I7 c n) 166 [.c (.pl 0 0),.c (iC n)] [(0,.row 139 [[xT bD c.b,iC c.i,iC c.h]])] (fun (t : ((List Int) × cZ)) => [.c (lo 1 t.1.length)]) (fun (t : ((List Int) × cZ)) => [(0,.row 139 [[xT bD t.2.b,iC t.2.i,iC t.2.h]]),(1,pR 3 aH t.1)]) [1] := by
 refine FT.of [0] Try.func166 Try.ntmps166 Q y2 ?_
 intro w0 U0 R0 g0
 unfold I7
 refine Ws (Wr ?_)
 refine aJ (Cc (sC ah)) aX (On (Ws (Wr ?_)))
 refine dP (LT.fZ (n := 21) (enc := aH) [] ([] : List Int) Q Q bZ eu Q Q Q Q (by decide) (fun _ => Q) Q) Q Q (aJ (Cc (lo 21 (([] : List Int).length))) y4 (On (Ws (Ws (Wr ?_)))))
 refine aJ (Iv 0) aX (On (aC.block ?_))
 refine aC.iW (id := 0) (I8 n) (fun s1 => ([(0,Cc (.pl 0 0)),(1,Iv n),(5,Cc (lo 21 s1.2.2.2.2.length)),(6,Iv s1.1)],[(0,.row 139 [[xT bD s1.2.1,iC s1.2.2.1,iC s1.2.2.2.1]]),(21,pR 3 aH s1.2.2.2.2)])) (fun b8 => ([(5,Cc (lo 21 b8.2.2.2.length))],[(0,.row 139 [[xT bD b8.1,iC b8.2.1,iC b8.2.2.1]]),(21,pR 3 aH b8.2.2.2)])) ?_ (aO.of z4 z2) Q (fun b8 _ => ?_)
 ·intro s1
  unfold I8
  refine Ws (Ws (Wr ?_))
  refine aF (Iv s1.1) y4 (aF (Iv n) y4 (aT LT.lss y5 (On (aC.cond Q (fun wz => ?_) (fun wz => ?_)))))
  ·refine aC.skip (Ws (aC.block (Wr ?_)))
   refine aF (Cc (lo 21 s1.2.2.2.2.length)) y4 (aF (Cc (.pl 0 0)) y4 (aQ fun r10 zU => (aP.step (bQ [.c (.pl 0 0),.c (iC 13)] (Fw.Fn.ren [(0,0)] (qE (cZ.mk s1.2.1 s1.2.2.1 s1.2.2.2.1) 13 r10 zU) Q) pW (ji y2) z1 y3) ⟨Q,Q,y2,J⟩ z1 Q Q (aT LT.sub aU (fK (LT.fZ (n := 23) (enc := aH) [(0,.tmp 16,.c (iC (aA (r10.1 - 6))))] ([aA (r10.1 - 6)] : List Int) Q Q bZ eu Q Q Q Q (by decide) (fun _ => Q) Q) Q Q Q (aQ fun u11 Ud => (nS (LT.lI (enc := aH) Q Q Q bZ eu Q (by decide) (by decide) (fun _ => Q) (jU Ud)) Q Q Q Q Q Q (aJ (Cc (lo 21 ((s1.2.2.2.2 ++ ([aA (r10.1 - 6)] : List Int)).length))) y4 (On (aC.blk ?_))))))))))
   refine en [(0,Cc (.pl 0 0)),(1,Iv n),(5,Cc (lo 21 ((s1.2.2.2.2 ++ ([aA (r10.1 - 6)] : List Int)).length))),(6,Iv s1.1)] [(0,.row 139 [[xT bD r10.2.b,iC r10.2.i,iC r10.2.h]]),(21,pR 3 aH (s1.2.2.2.2 ++ ([aA (r10.1 - 6)] : List Int)))] z4 z2 (Wr (aF (Iv s1.1) y4 (aT LT.add aU (aJ (Iv (aA (s1.1 + 1))) y4 (On (aW Q z4 z2))))))
  ·refine aC.eF Q ⟨Q,aO.of z1 z2⟩
 ·refine Ws (Wr ?_)
  refine aF (Cc (lo 21 b8.2.2.2.length)) y4 (aJ (Cc (lo 21 b8.2.2.2.length)) y4 (On (en [(4,Cc (lo 21 b8.2.2.2.length))] [(0,.row 139 [[xT bD b8.1,iC b8.2.1,iC b8.2.2.1]]),(21,pR 3 aH b8.2.2.2)] z1 z2 (aC.ent (aO.mv 21 1 Q Q) (en [(4,Cc (lo 1 b8.2.2.2.length))] [(0,.row 139 [[xT bD b8.1,iC b8.2.1,iC b8.2.2.1]]),(1,pR 3 aH b8.2.2.2)] z1 z2 (aC.ret (aj.mk (.inr Q) z1 z2 Q ⟨J,J⟩ ⟨dG.qw ⟨kT qo,au.sc,au.sc,J⟩,dG.gm jb,J⟩)))))))
theorem aJj (code : (List Int)) : FT Try.prog (MW code) 89 [.c (xT bD code)] [] (fun (t : (aZ × (List Int))) => [.agg [iC t.1.Graph.aG,lo 0 t.1.Graph.aB.length,xT aK t.1.Places],.c (lo 1 t.2.length)]) (fun (t : (aZ × (List Int))) => [(0,pR 96 aI t.1.Graph.aB),(1,pR 3 aH t.2)]) [0,1] := by
 refine FT.of [] Try.func89 Try.ntmps89 Q y2 ?_
 intro w0 U0 R0 g0
 unfold MW
 refine Ws (Wr ?_)
 refine dP (LT.alloc (n := 21) (cells := [iC 0,sC ah,sC ah]) Q pI Q Q Q) Q Q (aJ (Cc (sC ah)) aX (On (Ws (Wr ?_))))
 refine aF (Cc (xT bD code)) y4 (aQ fun r1 hr1 => (aP.step (bQ [.c (xT bD code)] (Fw.Fn.ren [(0,23)] (Wl code r1 hr1) Q) SI (lu Q) J y3) z2 J Q Q (aJ (Cc (.pl 23 0)) y4 (On (Ws (Wr ?_))))))
 refine aF (Cc (.pl 23 0)) y4 (aQ fun r2 hr2 => (aP.step (bQ [.c (.pl 23 0)] (Fw.Fn.ren [(0,23),(1,25)] (Wh r1 r2 hr2) Q) SH (lu Q) z1 y3) z2 z1 Q Q (dP (LT.alloc (n := 26) (cells := [iC 0,sC ah,sC ah]) Q pI Q Q Q) Q Q (dU (stA [iC r2.1.Graph.aG,lo 25 r2.1.Graph.aB.length,xT aK r2.1.Places] Q Q bn bU) Q Q Q Q Q (On (Ws ?_))))))
 refine en [(2,Cc (.pl 21 0)),(4,Cc (.pl 23 0)),(5,Cc (.pl 26 0))] [(21,.row 29 [[iC 0,sC ah,sC ah]]),(23,.row 139 [[xT bD r2.2.b,iC r2.2.i,iC r2.2.h]]),(25,pR 96 aI r2.1.Graph.aB),(26,.row 29 [[iC r2.1.Graph.aG,lo 25 r2.1.Graph.aB.length,xT aK r2.1.Places]])] z3 z4 (Wr (fV (xT aK r2.1.Places) iy jC bP (aS (LT.fA Q sZ) Q Q Q (aT LT.mul nP (aQ fun u3 hu3 => (wV (LT.Jb (n := 27) (enc := aH) (zc := [iC 0]) (0 : Int) Q bZ eu Q Q Q (by decide) (by decide) (EO hu3) Q) Q Q Q Q (aJ (Cc (lo 27 ((List.replicate (aA (2 * (r2.1.Places.length : Int))).toNat (0 : Int)).length))) y4 (On (Ws (Ws ?_))))))))))
 refine aC.fC (fun j6 => ([(2,Cc (.pl 21 0)),(4,Cc (.pl 23 0)),(5,Cc (.pl 26 0)),(6,Cc (lo 27 ((List.replicate (aA (2 * (r2.1.Places.length : Int))).toNat (0 : Int)).length))),(28,Bv j6.1)],[(21,.row 29 [[iC 0,sC ah,sC ah]]),(23,.row 139 [[xT bD j6.2.1,iC j6.2.2.1,iC j6.2.2.2]]),(25,pR 96 aI r2.1.Graph.aB),(26,.row 29 [[iC r2.1.Graph.aG,lo 25 r2.1.Graph.aB.length,xT aK r2.1.Places]]),(27,pR 3 aH (List.replicate (aA (2 * (r2.1.Places.length : Int))).toNat (0 : Int)))])) ?_ (fun j6 _ => ?_)
 ·refine Wr (fV (xT aK r2.1.Places) iy jC bP (aS (LT.fA Q sZ) Q Q Q (aT LT.gtr aU (aF (Bv (decide (1 < (r2.1.Places.length : Int)))) y4 (aP.split (fun hb7 => ?_) (fun hb7 => ?_))))))
  ·refine gW (Cc (.pl 23 0)) hb7 y5 (aQ fun r8 xB => (aP.step (bQ [.c (.pl 23 0),.c (iC 4)] (Fw.Fn.ren [(0,23)] (Wn r2.2 4 r8 xB) Q) SA (ji y2) z1 y3) ⟨Q,Q,y2,J⟩ z1 (gH hb7 Q Q) Q (aS (LT.not Q) Q (gH hb7 Q Q) Q (dh (Bv (!r8.1)) hb7 y5 (On (aW Q z5 z5))))))
  ·refine aV hb7 y5 (aV hb7 y5 (aV hb7 y5 (gY (Bv false) hb7 aU (On (aW Q z5 z5)))))
 ·refine aC.cond Q (fun wz => ?_) (fun wz => ?_)
  ·refine Ws (Wr ?_)
   refine aF (Cc (.pl 23 0)) y4 (fV (xT aK r2.1.Places) iy jC bP (aS (LT.fA Q sZ) Q Q Q (aQ fun r10 zU => (aP.step (bQ [.c (.pl 23 0),.c (iC (r2.1.Places.length : Int))] (Fw.Fn.ren [(0,23)] (qE (cZ.mk j6.2.1 j6.2.2.1 j6.2.2.2) (r2.1.Places.length : Int) r10 zU) Q) pW (ji y2) z1 y3) z3 z1 Q Q (aJ (Iv r10.1) y4 (On (Ws (aC.draw mixed ?_))))))))
   refine ak (Iv r10.1) y4 (iE LT.add aU (ak (Cc (.pl 23 0)) y4 (eG (xT aK r2.1.Places) iy jC bP (bJ (LT.fA Q sZ) Q Q Q (iE LT.sub aU (aN.bind fun r11 UL => (aN.step (bQ [.c (.pl 23 0),.c (iC (aA ((r2.1.Places.length : Int) - 1)))] (Fw.Fn.ren [(0,23)] (qE r10.2 (aA ((r2.1.Places.length : Int) - 1)) r11 UL) Q) pW (ji y2) z1 y3) z3 z1 Q Q (iE LT.add y5 (eG (xT aK r2.1.Places) iy jC bP ?_)))))))))
   refine bJ (LT.fA Q sZ) Q Q Q (aN.bind fun u12 aFw => (dJ (LT.rem Q (uq aFw)) Q Q Q Q (bJ (LT.assign (v := (Iv (Int.tmod (aA ((aA (r10.1 + 1)) + r11.1)) (r2.1.Places.length : Int)))) Q) Q Q Q (aN.nil (by kernel_rfl) (Ws (en [(2,Cc (.pl 21 0)),(5,Cc (.pl 26 0)),(6,Cc (lo 27 ((List.replicate (aA (2 * (r2.1.Places.length : Int))).toNat (0 : Int)).length))),(7,Iv r10.1),(8,Iv (Int.tmod (aA ((aA (r10.1 + 1)) + r11.1)) (r2.1.Places.length : Int)))] [(21,.row 29 [[iC 0,sC ah,sC ah]]),(25,pR 96 aI r2.1.Graph.aB),(26,.row 29 [[iC r2.1.Graph.aG,lo 25 r2.1.Graph.aB.length,xT aK r2.1.Places]]),(27,pR 3 aH (List.replicate (aA (2 * (r2.1.Places.length : Int))).toNat (0 : Int)))] z5 z4 (aC.draw mixed (eG (xT aK r2.1.Places) iy jC bP (ak (Iv r10.1) y4 (aN.bind fun jQ Ko => ?_))))))))))
   refine dJ (LT.dH (enc := aK) Q kG Ko iH) Q Q Q Q (bJ (LT.sK Q rJ) Q Q Q (bJ (LT.fO Q ay) Q Q Q (eG (xT aK r2.1.Places) iy jC bP (ak (Iv (Int.tmod (aA ((aA (r10.1 + 1)) + r11.1)) (r2.1.Places.length : Int))) y4 (aN.bind fun x14 Uk => (dJ (LT.dH (enc := aK) Q kG Uk iH) Q Q Q Q (bJ (LT.sK Q rJ) Q Q Q (bJ (LT.fO Q ay) Q Q Q (iE LT.sub y5 (bJ (LT.assign (v := (Iv (aA (jQ.X - x14.X)))) Q) Q Q Q ?_))))))))))
   refine aN.nil (by kernel_rfl) (Ws (en [(2,Cc (.pl 21 0)),(5,Cc (.pl 26 0)),(6,Cc (lo 27 ((List.replicate (aA (2 * (r2.1.Places.length : Int))).toNat (0 : Int)).length))),(7,Iv r10.1),(8,Iv (Int.tmod (aA ((aA (r10.1 + 1)) + r11.1)) (r2.1.Places.length : Int))),(9,Iv (aA (jQ.X - x14.X)))] [(21,.row 29 [[iC 0,sC ah,sC ah]]),(25,pR 96 aI r2.1.Graph.aB),(26,.row 29 [[iC r2.1.Graph.aG,lo 25 r2.1.Graph.aB.length,xT aK r2.1.Places]]),(27,pR 3 aH (List.replicate (aA (2 * (r2.1.Places.length : Int))).toNat (0 : Int)))] z6 z4 (aC.draw mixed (eG (xT aK r2.1.Places) iy jC bP (ak (Iv r10.1) y4 (aN.bind fun x15 Ul => (dJ (LT.dH (enc := aK) Q kG Ul iH) Q Q Q Q (bJ (LT.sK Q sN) Q Q Q (bJ (LT.fO Q ay) Q Q Q (bJ (LT.gV Q iy) Q Q Q ?_))))))))))
   refine gQ (zk (xT aK r2.1.Places) Q jC) Q Q Q Q (ak (Iv (Int.tmod (aA ((aA (r10.1 + 1)) + r11.1)) (r2.1.Places.length : Int))) y4 (aN.bind fun x16 hx16 => (dJ (LT.dH (enc := aK) Q kG hx16 iH) Q Q Q Q (bJ (LT.sK Q sN) Q Q Q (bJ (LT.fO Q ay) Q Q Q (iE LT.sub y5 (bJ (LT.assign (v := (Iv (aA (x15.Y - x16.Y)))) Q) Q Q Q (aN.nil (by kernel_rfl) (Ws (en [(2,Cc (.pl 21 0)),(5,Cc (.pl 26 0)),(6,Cc (lo 27 ((List.replicate (aA (2 * (r2.1.Places.length : Int))).toNat (0 : Int)).length))),(7,Iv r10.1),(8,Iv (Int.tmod (aA ((aA (r10.1 + 1)) + r11.1)) (r2.1.Places.length : Int))),(9,Iv (aA (jQ.X - x14.X))),(10,Iv (aA (x15.Y - x16.Y)))] [(21,.row 29 [[iC 0,sC ah,sC ah]]),(25,pR 96 aI r2.1.Graph.aB),(26,.row 29 [[iC r2.1.Graph.aG,lo 25 r2.1.Graph.aB.length,xT aK r2.1.Places]]),(27,pR 3 aH (List.replicate (aA (2 * (r2.1.Places.length : Int))).toNat (0 : Int)))] z7 z4 (Wr ?_)))))))))))
   refine aF (Cc (lo 27 ((List.replicate (aA (2 * (r2.1.Places.length : Int))).toNat (0 : Int)).length))) y4 (aF (Iv r10.1) y4 (aT LT.mul nP (aF (Iv (aA (jQ.X - x14.X))) y4 (aQ fun x17 PK => (iK (LT.iG Q Q dR PK) Q Q Q Q Q (dU (LT.nN (k := 0) (v := (.c (iC (aA (jQ.X - x14.X))))) (b' := (aA (jQ.X - x14.X))) Q Q (dK nI) fM (by exact Q) PK (by exact Q) (by exact K Q) (by exact Q)) Q Q Q Q Q (On (Ws (Wr ?_)))))))))
   refine aF (Cc (lo 27 ((List.replicate (aA (2 * (r2.1.Places.length : Int))).toNat (0 : Int)).length))) y4 (aF (Iv r10.1) y4 (aT LT.mul nP (aT LT.add aU (aF (Iv (aA (x15.Y - x16.Y))) y4 (aQ fun x18 wE => (iK (LT.iG (show (List.replicate (aA (2 * (r2.1.Places.length : Int))).toNat (0 : Int)).length = ((List.replicate (aA (2 * (r2.1.Places.length : Int))).toNat (0 : Int)).set (aA (2 * r10.1)).toNat (aA (jQ.X - x14.X))).length by simp only [List.length_set]) Q dR wE) Q Q Q Q Q (dU (LT.nN (k := 0) (v := (.c (iC (aA (x15.Y - x16.Y))))) (b' := (aA (x15.Y - x16.Y))) Q Q (dK nI) fM (by exact Q) wE (by exact Q) (by exact K Q) (by exact Q)) Q Q Q Q Q (On (Ws ?_)))))))))
   refine en [(2,Cc (.pl 21 0)),(5,Cc (.pl 26 0)),(6,Cc (lo 27 ((List.replicate (aA (2 * (r2.1.Places.length : Int))).toNat (0 : Int)).length))),(8,Iv (Int.tmod (aA ((aA (r10.1 + 1)) + r11.1)) (r2.1.Places.length : Int))),(9,Iv (aA (jQ.X - x14.X))),(10,Iv (aA (x15.Y - x16.Y)))] [(21,.row 29 [[iC 0,sC ah,sC ah]]),(25,pR 96 aI r2.1.Graph.aB),(26,.row 29 [[iC r2.1.Graph.aG,lo 25 r2.1.Graph.aB.length,xT aK r2.1.Places]]),(27,pR 3 aH (((List.replicate (aA (2 * (r2.1.Places.length : Int))).toNat (0 : Int)).set (aA (2 * r10.1)).toNat (aA (jQ.X - x14.X))).set (aA ((aA (2 * r10.1)) + 1)).toNat (aA (x15.Y - x16.Y))))] z6 z4 (Wr (aF (Cc (lo 27 ((List.replicate (aA (2 * (r2.1.Places.length : Int))).toNat (0 : Int)).length))) y4 (aF (Iv (Int.tmod (aA ((aA (r10.1 + 1)) + r11.1)) (r2.1.Places.length : Int))) y4 (aT LT.mul nP (aF (Iv (aA (jQ.X - x14.X))) y4 (aS (LT.neg Q) Q Q Q (aQ fun x19 GY => (iK (LT.iG (show (List.replicate (aA (2 * (r2.1.Places.length : Int))).toNat (0 : Int)).length = (((List.replicate (aA (2 * (r2.1.Places.length : Int))).toNat (0 : Int)).set (aA (2 * r10.1)).toNat (aA (jQ.X - x14.X))).set (aA ((aA (2 * r10.1)) + 1)).toNat (aA (x15.Y - x16.Y))).length by simp only [List.length_set]) Q dR GY) Q Q Q Q Q (dU (LT.nN (k := 0) (v := (.c (iC (aA (-(aA (jQ.X - x14.X))))))) (b' := (aA (-(aA (jQ.X - x14.X))))) Q Q (dK nI) fM (by exact Q) GY (by exact Q) (by exact K Q) (by exact Q)) Q Q Q Q Q (On (Ws (Wr ?_))))))))))))
   refine aF (Cc (lo 27 ((List.replicate (aA (2 * (r2.1.Places.length : Int))).toNat (0 : Int)).length))) y4 (aF (Iv (Int.tmod (aA ((aA (r10.1 + 1)) + r11.1)) (r2.1.Places.length : Int))) y4 (aT LT.mul nP (aT LT.add aU (aF (Iv (aA (x15.Y - x16.Y))) y4 (aS (LT.neg Q) Q Q Q (aQ fun x20 zX => (iK (LT.iG (show (List.replicate (aA (2 * (r2.1.Places.length : Int))).toNat (0 : Int)).length = ((((List.replicate (aA (2 * (r2.1.Places.length : Int))).toNat (0 : Int)).set (aA (2 * r10.1)).toNat (aA (jQ.X - x14.X))).set (aA ((aA (2 * r10.1)) + 1)).toNat (aA (x15.Y - x16.Y))).set (aA (2 * (Int.tmod (aA ((aA (r10.1 + 1)) + r11.1)) (r2.1.Places.length : Int)))).toNat (aA (-(aA (jQ.X - x14.X))))).length by simp only [List.length_set]) Q dR zX) Q Q Q Q Q (dU (LT.nN (k := 0) (v := (.c (iC (aA (-(aA (x15.Y - x16.Y))))))) (b' := (aA (-(aA (x15.Y - x16.Y))))) Q Q (dK nI) fM (by exact Q) zX (by exact Q) (by exact K Q) (by exact Q)) Q Q Q Q Q (On (Ws ?_))))))))))
   refine en [(2,Cc (.pl 21 0)),(5,Cc (.pl 26 0)),(6,Cc (lo 27 ((List.replicate (aA (2 * (r2.1.Places.length : Int))).toNat (0 : Int)).length)))] [(21,.row 29 [[iC 0,sC ah,sC ah]]),(25,pR 96 aI r2.1.Graph.aB),(26,.row 29 [[iC r2.1.Graph.aG,lo 25 r2.1.Graph.aB.length,xT aK r2.1.Places]]),(27,pR 3 aH (((((List.replicate (aA (2 * (r2.1.Places.length : Int))).toNat (0 : Int)).set (aA (2 * r10.1)).toNat (aA (jQ.X - x14.X))).set (aA ((aA (2 * r10.1)) + 1)).toNat (aA (x15.Y - x16.Y))).set (aA (2 * (Int.tmod (aA ((aA (r10.1 + 1)) + r11.1)) (r2.1.Places.length : Int)))).toNat (aA (-(aA (jQ.X - x14.X))))).set (aA ((aA (2 * (Int.tmod (aA ((aA (r10.1 + 1)) + r11.1)) (r2.1.Places.length : Int)))) + 1)).toNat (aA (-(aA (x15.Y - x16.Y))))))] z3 z4 (Wr (bf (cO [iC r2.1.Graph.aG,lo 25 r2.1.Graph.aB.length,xT aK r2.1.Places] Q dW bn bU) Q Q Q Q (aF (Cc (lo 27 ((List.replicate (aA (2 * (r2.1.Places.length : Int))).toNat (0 : Int)).length))) y4 (dU (stA [iC r2.1.Graph.aG,lo 25 r2.1.Graph.aB.length,xT aK r2.1.Places] Q Q bn bU) Q Q Q Q Q (aJ (Cc (lo 27 ((List.replicate (aA (2 * (r2.1.Places.length : Int))).toNat (0 : Int)).length))) y4 (On (en [(2,Cc (.pl 21 0)),(3,Cc (lo 27 ((List.replicate (aA (2 * (r2.1.Places.length : Int))).toNat (0 : Int)).length)))] [(21,.row 29 [[iC r2.1.Graph.aG,lo 25 r2.1.Graph.aB.length,xT aK r2.1.Places]]),(25,pR 96 aI r2.1.Graph.aB),(27,pR 3 aH (((((List.replicate (aA (2 * (r2.1.Places.length : Int))).toNat (0 : Int)).set (aA (2 * r10.1)).toNat (aA (jQ.X - x14.X))).set (aA ((aA (2 * r10.1)) + 1)).toNat (aA (x15.Y - x16.Y))).set (aA (2 * (Int.tmod (aA ((aA (r10.1 + 1)) + r11.1)) (r2.1.Places.length : Int)))).toNat (aA (-(aA (jQ.X - x14.X))))).set (aA ((aA (2 * (Int.tmod (aA ((aA (r10.1 + 1)) + r11.1)) (r2.1.Places.length : Int)))) + 1)).toNat (aA (-(aA (x15.Y - x16.Y))))))] z2 z3 (aC.ent (aO.mv 27 1 Q Q) (aC.ent (aO.mv 25 0 Q Q) (en [(2,Cc (.pl 21 0)),(3,Cc (lo 1 ((((((List.replicate (aA (2 * (r2.1.Places.length : Int))).toNat (0 : Int)).set (aA (2 * r10.1)).toNat (aA (jQ.X - x14.X))).set (aA ((aA (2 * r10.1)) + 1)).toNat (aA (x15.Y - x16.Y))).set (aA (2 * (Int.tmod (aA ((aA (r10.1 + 1)) + r11.1)) (r2.1.Places.length : Int)))).toNat (aA (-(aA (jQ.X - x14.X))))).set (aA ((aA (2 * (Int.tmod (aA ((aA (r10.1 + 1)) + r11.1)) (r2.1.Places.length : Int)))) + 1)).toNat (aA (-(aA (x15.Y - x16.Y))))).length)))] [(0,pR 96 aI r2.1.Graph.aB),(1,pR 3 aH (((((List.replicate (aA (2 * (r2.1.Places.length : Int))).toNat (0 : Int)).set (aA (2 * r10.1)).toNat (aA (jQ.X - x14.X))).set (aA ((aA (2 * r10.1)) + 1)).toNat (aA (x15.Y - x16.Y))).set (aA (2 * (Int.tmod (aA ((aA (r10.1 + 1)) + r11.1)) (r2.1.Places.length : Int)))).toNat (aA (-(aA (jQ.X - x14.X))))).set (aA ((aA (2 * (Int.tmod (aA ((aA (r10.1 + 1)) + r11.1)) (r2.1.Places.length : Int)))) + 1)).toNat (aA (-(aA (x15.Y - x16.Y)))))),(21,.row 29 [[iC r2.1.Graph.aG,lo 0 r2.1.Graph.aB.length,xT aK r2.1.Places]])] ⟨Q,congrArg (fun l1 => (some (AV.s (.c (lo 1 l1))) : Option AV)) (show (List.replicate (aA (2 * (r2.1.Places.length : Int))).toNat (0 : Int)).length = (((((List.replicate (aA (2 * (r2.1.Places.length : Int))).toNat (0 : Int)).set (aA (2 * r10.1)).toNat (aA (jQ.X - x14.X))).set (aA ((aA (2 * r10.1)) + 1)).toNat (aA (x15.Y - x16.Y))).set (aA (2 * (Int.tmod (aA ((aA (r10.1 + 1)) + r11.1)) (r2.1.Places.length : Int)))).toNat (aA (-(aA (jQ.X - x14.X))))).set (aA ((aA (2 * (Int.tmod (aA ((aA (r10.1 + 1)) + r11.1)) (r2.1.Places.length : Int)))) + 1)).toNat (aA (-(aA (x15.Y - x16.Y))))).length by simp only [List.length_set]),J⟩ z3 (aC.ret (aj.mk (.inr Q) ⟨⟨_,_,_,Q,Q,Q,dW,bU,_,dK bn⟩,Q,J⟩ z2 Q ⟨⟨au.sc,J,kT vg,J⟩,J,J⟩ ⟨dG.gm oh,dG.gm jb,J⟩))))))))))))
  ·refine aC.skip (Ws (aC.draw mixed ?_))
   refine gQ (cO [iC r2.1.Graph.aG,lo 25 r2.1.Graph.aB.length,xT aK r2.1.Places] Q dW bn bU) Q Q Q Q (ak (Cc (.pl 23 0)) y4 (ak (Cc (lo 27 ((List.replicate (aA (2 * (r2.1.Places.length : Int))).toNat (0 : Int)).length))) y4 (bJ (LT.jg Q bZ) Q Q Q (aN.bind fun CP aFW => (aN.step (bQ [.c (.pl 23 0),.c (iC ((List.replicate (aA (2 * (r2.1.Places.length : Int))).toNat (0 : Int)).length : Int))] (Fw.Fn.ren [(0,23),(1,32)] (aCJ (cZ.mk j6.2.1 j6.2.2.1 j6.2.2.2) ((List.replicate (aA (2 * (r2.1.Places.length : Int))).toNat (0 : Int)).length : Int) CP aFW) Q) Xv (ji y2) z1 y3) z3 z1 Q Q (lW (stA [iC r2.1.Graph.aG,lo 25 r2.1.Graph.aB.length,xT aK r2.1.Places] Q Q bn bU) Q Q Q Q Q (bJ (LT.assign (v := (Cc (lo 32 CP.1.length))) Q) Q Q Q (aN.nil (by kernel_rfl) (en [(2,Cc (.pl 21 0)),(3,Cc (lo 32 CP.1.length))] [(21,.row 29 [[iC r2.1.Graph.aG,lo 25 r2.1.Graph.aB.length,xT aK r2.1.Places]]),(25,pR 96 aI r2.1.Graph.aB),(32,pR 3 aH CP.1)] z2 z3 (aC.ent (aO.mv 32 1 Q Q) (aC.ent (aO.mv 25 0 Q Q) ?_)))))))))))
   refine en [(2,Cc (.pl 21 0)),(3,Cc (lo 1 CP.1.length))] [(0,pR 96 aI r2.1.Graph.aB),(1,pR 3 aH CP.1),(21,.row 29 [[iC r2.1.Graph.aG,lo 0 r2.1.Graph.aB.length,xT aK r2.1.Places]])] z2 z3 (aC.ret (aj.mk (.inr Q) ⟨⟨_,_,_,Q,Q,Q,dW,bU,_,dK bn⟩,Q,J⟩ z2 Q ⟨⟨au.sc,J,kT vg,J⟩,J,J⟩ ⟨dG.gm oh,dG.gm jb,J⟩))
theorem aJV (code : (List Int)) : FT Try.prog (L9 code) 16 [.c (xT bD code)] [] (fun (t : (aZ × (List Int))) => [.agg [iC t.1.Graph.aG,lo 0 t.1.Graph.aB.length,xT aK t.1.Places],.c (lo 1 t.2.length)]) (fun (t : (aZ × (List Int))) => [(0,pR 96 aI t.1.Graph.aB),(1,pR 3 aH t.2)]) [0,1] := by
 refine FT.of [] Try.func16 Try.ntmps16 Q y2 ?_
 intro w0 U0 R0 g0
 unfold L9
 refine Ws (Wr ?_)
 refine dP (LT.alloc (n := 21) (cells := [iC 0,sC ah,sC ah]) Q pI Q Q Q) Q Q (aJ (Cc (sC ah)) aX (On (Ws (Wr ?_))))
 refine aF (Cc (xT bD code)) y4 (aQ fun r1 hr1 => (aP.step (bQ [.c (xT bD code)] (Fw.Fn.ren [(0,23),(1,24)] (aJj code r1 hr1) Q) aDS (lu Q) J y3) z2 J Q Q (aF (.dO [.agg [iC r1.1.Graph.aG,lo 23 r1.1.Graph.aB.length,xT aK r1.1.Places],.c (lo 24 r1.2.length)]) y4 (aS (LT.extract (v := (.agg [iC r1.1.Graph.aG,lo 23 r1.1.Graph.aB.length,xT aK r1.1.Places])) Q (by exact Q)) Q Q Q (aS (LT.extract (v := (.c (lo 24 r1.2.length))) Q (by exact Q)) Q Q Q (dP (LT.alloc (n := 25) (cells := [iC 0,sC ah,sC ah]) Q pI Q Q Q) Q Q (dU (stA [iC r1.1.Graph.aG,lo 23 r1.1.Graph.aB.length,xT aK r1.1.Places] Q Q bn bU) Q Q Q Q Q (aJ (Cc (lo 24 r1.2.length)) y4 (On (Ws ?_))))))))))
 refine en [(2,Cc (.pl 21 0)),(4,Cc (.pl 25 0)),(5,Cc (lo 24 r1.2.length))] [(21,.row 29 [[iC 0,sC ah,sC ah]]),(23,pR 96 aI r1.1.Graph.aB),(24,pR 3 aH r1.2),(25,.row 29 [[iC r1.1.Graph.aG,lo 23 r1.1.Graph.aB.length,xT aK r1.1.Places]])] z3 z4 (Wr (bf (cO [iC r1.1.Graph.aG,lo 23 r1.1.Graph.aB.length,xT aK r1.1.Places] Q dW bn bU) Q Q Q Q (aF (Cc (lo 24 r1.2.length)) y4 (dU (stA [iC r1.1.Graph.aG,lo 23 r1.1.Graph.aB.length,xT aK r1.1.Places] Q Q bn bU) Q Q Q Q Q (aJ (Cc (lo 24 r1.2.length)) y4 (On (en [(2,Cc (.pl 21 0)),(3,Cc (lo 24 r1.2.length))] [(21,.row 29 [[iC r1.1.Graph.aG,lo 23 r1.1.Graph.aB.length,xT aK r1.1.Places]]),(23,pR 96 aI r1.1.Graph.aB),(24,pR 3 aH r1.2)] z2 z3 (aC.ent (aO.mv 24 1 Q Q) (aC.ent (aO.mv 23 0 Q Q) (en [(2,Cc (.pl 21 0)),(3,Cc (lo 1 r1.2.length))] [(0,pR 96 aI r1.1.Graph.aB),(1,pR 3 aH r1.2),(21,.row 29 [[iC r1.1.Graph.aG,lo 0 r1.1.Graph.aB.length,xT aK r1.1.Places]])] z2 z3 (aC.ret (aj.mk (.inr Q) ⟨⟨_,_,_,Q,Q,Q,dW,bU,_,dK bn⟩,Q,J⟩ z2 Q ⟨⟨au.sc,J,kT vg,J⟩,J,J⟩ ⟨dG.gm oh,dG.gm jb,J⟩))))))))))))
theorem aB2 (f : aZ) (load : (List Int)) : FT Try.prog (Hu f load) 90 [.agg [iC f.Graph.aG,xF aI f.Graph.aB,xF aK f.Places],.c (xF aH load)] [] (fun (t : Bool) => [.c (bC t)]) (fun (t : Bool) => []) [] := by
 refine FT.of [] Try.func90 Try.ntmps90 Q y2 ?_
 intro w0 U0 R0 g0
 unfold Hu
 refine Ws (Wr ?_)
 refine fK (LT.box (n := 21) (v := (.agg [iC f.Graph.aG,xF aI f.Graph.aB,xF aK f.Places])) Q bU (by exact Q)) Q Q Q (aJ (Bv false) aX (On (Ws (Ws (Wr ?_)))))
 refine aF (Cc (xF aH load)) y4 (aS (LT.fA Q bZ) Q Q Q (aF (Iv 0) aX (On (aC.block ?_))))
 refine aC.nV (id := 0) (EW load) (fun s1 => ([(1,Cc (xF aH load)),(2,Cc (.pl 21 0)),(7,Cc (xF aH load)),(8,Iv (load.length : Int)),(9,Iv s1)],[(21,.row 29 [[iC f.Graph.aG,xF aI f.Graph.aB,xF aK f.Places]])])) (fun b10 => ([(1,Cc (xF aH load)),(2,Cc (.pl 21 0))],[(21,.row 29 [[iC f.Graph.aG,xF aI f.Graph.aB,xF aK f.Places]])])) (aj Try.prog Try.f90.results.toList [] [] (fun (t : Bool) => [.c (bC t)]) (fun (t : Bool) => [])) ?_ (aO.of z5 z1) Q (fun b10 _ => ?_) (by intro r t σ m ht hk; injection ht with ht; subst ht; exact hk)
 ·intro s1
  unfold EW
  refine Ws (Wr ?_)
  refine aT LT.lss y5 (On (Ws ?_))
  refine aC.cond Q (fun rP => ?_) (fun rP => ?_)
  ·refine aC.skip (Ws (aC.block (Ws (Wr ?_))))
   refine aQ fun x12 vW => (dY (LT.dH (enc := aH) Q dR vW fM) Q Q Q Q (aS (LT.fO Q ay) Q Q Q (aJ (Iv x12) y4 (On (Ws (Wr ?_))))))
   refine aF (Iv x12) y4 (aQ fun r13 rQ => (aP.pure (bQ [.c (iC x12),.c (iC (-4)),.c (iC 4)] (Ns x12 (-4) 4 r13 rQ) Jv (vH y3) J y3) ⟨Q,Q,y2,y2,J⟩ J Q Q (aS (LT.not Q) Q Q Q (On (aC.cond Q (fun wu => ?_) (fun wu => ?_))))))
   ·refine Ws (Wr ?_)
    refine aJ (Bv false) aX (On (aC.ret ⟨Q,aj.mk (.inr Q) z1 J Q ⟨au.sc,J⟩ J⟩))
   ·refine aC.skip (aC.blk (Wr ?_))
    refine aT LT.add aU (aF (Iv (aA (s1 + 1))) y4 (On (aW Q z5 z1)))
  ·refine aC.eF Q ⟨Q,aO.of z2 z1⟩
 ·refine Ws (aC.fC (fun j17 => ([(4,Bv j17)],[])) ?_ (fun j17 _ => ?_))
  ·refine Wr (bf (cO [iC f.Graph.aG,xF aI f.Graph.aB,xF aK f.Places] Q dW bn bU) Q Q Q Q (aQ fun jJ zV => (aP.pure (bQ [.agg [iC f.Graph.aG,xF aI f.Graph.aB,xF aK f.Places]] (FU f jJ zV) Dh (mO y3) J y3) z2 J Q Q (aF (Bv jJ) y4 (aP.split (fun iQ => ?_) (fun iQ => ?_))))))
   ·refine gW (Cc (xF aH load)) iQ y5 (aS (LT.fA Q bZ) Q (gH iQ Q Q) Q (aS (LT.gV Q jm) Q (gH iQ Q Q) Q (kR (iC f.Graph.aG) mQ ay iQ iq (iT LT.mul iQ WR (iT LT.eql iQ y6 (dh (Bv ((load.length : Int) == (aA (2 * f.Graph.aG)))) iQ y5 (aJ (Bv ((load.length : Int) == (aA (2 * f.Graph.aG)))) y4 (On (aW Q z1 J)))))))))
   ·refine aV iQ y5 (aV iQ y5 (aV iQ y5 (aV iQ y5 (aV iQ y5 (aV iQ y5 (aV iQ y5 (gY (Bv false) iQ aU (aJ (Bv false) y4 (On (aW Q z1 J))))))))))
  ·refine aC.ret (aj.mk (.inr Q) z1 J Q ⟨au.sc,J⟩ J)
theorem aBx (f : aZ) (load : (List Int)) : FT Try.prog (Gv f load) 17 [.agg [iC f.Graph.aG,xF aI f.Graph.aB,xF aK f.Places],.c (xF aH load)] [] (fun (t : ((List Int) × Int × Bool)) => [.c (lo 0 t.1.length),.c (iC t.2.1),.c (bC t.2.2)]) (fun (t : ((List Int) × Int × Bool)) => [(0,pR 3 aH t.1)]) [0] := by
 refine FT.AB [] Try.func17 Try.ntmps17 Q y2 ?_
 intro w0 U0 R0 g0 hU
 unfold Gv
 refine Ws (Wr ?_)
 refine fK (LT.box (n := 21) (v := (.agg [iC f.Graph.aG,xF aI f.Graph.aB,xF aK f.Places])) Q bU (by exact Q)) Q Q Q (aJ (Cc (sC ah)) aX (aJ (Iv 0) aX (aJ (Bv false) aX (On (Ws (Ws (Wr ?_)))))))
 refine bf (cO [iC f.Graph.aG,xF aI f.Graph.aB,xF aK f.Places] Q dW bn bU) Q Q Q Q (aF (Cc (xF aH load)) y4 (aQ fun r1 hr1 => (aP.pure (bQ [.agg [iC f.Graph.aG,xF aI f.Graph.aB,xF aK f.Places],.c (xF aH load)] (aB2 f load r1 hr1) X9 (xM y4) J y3) z3 J Q Q (aS (LT.not Q) Q Q Q (On (aC.cond Q (fun hc2 => ?_) (fun hc2 => ?_)))))))
 ·refine Ws (Wr ?_)
  refine dP (LT.fZ (n := 23) (enc := aH) [] ([] : List Int) Q Q bZ eu Q Q Q Q (by decide) (fun _ => Q) Q) Q Q (aJ (Cc (lo 23 (([] : List Int).length))) y4 (aJ (Iv 0) aX (aJ (Bv false) aX (On (en [(4,Cc (lo 23 (([] : List Int).length))),(5,Iv 0),(6,Bv false)] [(23,pR 3 aH ([] : List Int))] z3 z1 (aC.ent (aO.mv 23 0 Q Q) (en [(4,Cc (lo 0 (([] : List Int).length))),(5,Iv 0),(6,Bv false)] [(0,pR 3 aH ([] : List Int))] z3 z1 (aC.ret (aj.mk (.inr Q) z3 z1 Q ⟨J,au.sc,au.sc,J⟩ ⟨dG.gm jb,J⟩)))))))))
 ·refine aC.skip (Ws (Wr ?_))
  refine aS (LT.gV Q jm) Q Q Q (fV (xF aI f.Graph.aB) iJ iU bP (aS (LT.fA Q ig) Q Q Q (aJ (Iv (f.Graph.aB.length : Int)) y4 (On (Ws ?_)))))
  refine en [(1,Cc (xF aH load)),(2,Cc (.pl 21 0)),(7,Iv (f.Graph.aB.length : Int))] [(21,.row 29 [[iC f.Graph.aG,xF aI f.Graph.aB,xF aK f.Places]])] z3 z1 (aC.draw mixed (gQ (cO [iC f.Graph.aG,xF aI f.Graph.aB,xF aK f.Places] Q dW bn bU) Q Q Q Q (aN.bind fun r3 hr3 => (aN.step (bQ [.agg [iC f.Graph.aG,xF aI f.Graph.aB,xF aK f.Places]] (Fw.Fn.ren [(0,25),(1,26)] (WV f r3 hr3) Q) SK (mO y3) J y3) z2 J Q Q (bJ (LT.gV Q jm) Q Q Q (eG (iC f.Graph.aG) mQ ay bP (iE LT.mul nP (aN.bind fun r4 hr4 => (aN.step (cF [.c (lo 25 r3.length),.c (iC (aA (2 * f.Graph.aG)))] [(25,.ax 37 26 (af r3)),(26,.pool 3 (rowsOf aH r3))] (Fw.Fn.ren [(0,28),(1,29)] (aB5 r3 (aA (2 * f.Graph.aG)) r4 hr4) Q) X5 (.cons (.c (.Ci Q Q Q (fun _ => Q))) (.cons (.c (.same Q)) .nil)) J y3) z3 z2 Q Q (bJ (LT.assign (v := (Cc (lo 28 r4.length))) Q) Q Q Q ?_))))))))))
  refine aN.nil (by kernel_rfl) (Ws (Ws ?_))
  refine en [(1,Cc (xF aH load)),(7,Iv (f.Graph.aB.length : Int)),(8,Cc (lo 28 r4.length))] [(28,.ax 37 29 (af r4)),(29,.pool 3 (rowsOf aH r4))] z3 z2 (Wr (aF (Cc (lo 28 r4.length)) y4 (aS (LT.jg Q gy) Q Q Q (aF (Iv 0) aX (On (aC.block ?_))))))
  refine aC.iW (id := 0) (Gw load r4) (fun s5 => ([(1,Cc (xF aH load)),(7,Iv (f.Graph.aB.length : Int)),(8,Cc (lo 28 s5.2.length)),(32,Iv (r4.length : Int)),(33,Iv s5.1)],[(28,.ax 37 29 (af s5.2)),(29,.pool 3 (rowsOf aH s5.2))])) (fun b16 => ([(7,Iv (f.Graph.aB.length : Int)),(8,Cc (lo 28 b16.length))],[(28,.ax 37 29 (af b16)),(29,.pool 3 (rowsOf aH b16))])) ?_ (aO.of z5 z2) Q (fun b16 _ => ?_)
  ·intro s5
   unfold Gw
   refine Ws (Wr ?_)
   refine aT LT.lss y5 (On (Ws ?_))
   refine aC.cond Q (fun hc17 => ?_) (fun hc17 => ?_)
   ·refine aC.skip (Ws (aC.block (Ws (Wr ?_))))
    refine aF (Iv s5.1) y4 (aJ (Iv s5.1) y4 (On (aC.draw mixed ?_)))
    refine ak (Cc (lo 28 s5.2.length)) y4 (ak (Iv s5.1) y4 (ak (Cc (lo 28 s5.2.length)) y4 (ak (Iv s5.1) y4 (aN.bind fun x18 wE => (je (LT.pJ Q Q iL wE) Q Q Q Q Q (gQ (LT.rE Q jR wE Q) Q Q Q Q (ak (Cc (xF aH load)) y4 (ak (Iv s5.1) y4 (aN.bind fun x19 GY => (dJ (LT.dH (enc := aH) Q dR GY fM) Q Q Q Q (bJ (LT.fO Q ay) Q Q Q ?_)))))))))))
    refine Fh (LT.fZ (n := 30) (enc := aH) [(0,.tmp 45,.c (iC x19))] ([x19] : List Int) Q Q bZ eu Q Q Q Q (by decide) (fun _ => Q) Q) Q Q Q (aN.bind fun u20 aF8 => (aN.step (LT.Nl (p := 29) (k := s5.1.toNat) (m := 31) (n := 28) (e := 37) (enc := aH) (LT.lI (n := 31) (n2 := 30) (enc := aH) Q Q Q bZ eu Q (by decide) (by decide) (fun _ => Q) (jU aF8)) (jM wE) Q) z2 z3 Q Q (aN.bind fun x21 yJ => (je (LT.Ji (show s5.2.length = (s5.2.set s5.1.toNat []).length by simp only [List.length_set]) Q iL yJ) Q Q Q Q Q (lW (LT.N9 (e := 37) (p := 29) Q Q (dK wF) qy yJ Q) Q Q Q Q Q (aN.nil (by kernel_rfl) (aC.ent (aO.FM (enc := aH) (n := 28) (m := 31) (p := 29) (k := s5.1.toNat) (rows := (s5.2.set s5.1.toNat [])) (r := (x18 ++ ([x19] : List Int))) Q (List.getElem?_eq_some_iff.1 (jM yJ)).1 Q Q Q Q) ?_)))))))
    refine aC.ent (aO.ax (n := 28) (p := 29) (lens := af ((s5.2.set s5.1.toNat []).set s5.1.toNat (x18 ++ ([x19] : List Int)))) Q Q) (aC.blk (Wr ?_))
    refine aT LT.add aU (aF (Iv (aA (s5.1 + 1))) y4 (On (aC.nil ⟨Q,aO.of ⟨Q,Q,congrArg (fun l1 => (some (AV.s (.c (lo 28 l1))) : Option AV)) (show s5.2.length = ((s5.2.set s5.1.toNat []).set s5.1.toNat (x18 ++ ([x19] : List Int))).length by simp only [List.length_set]),Q,Q,J⟩ z2⟩)))
   ·refine aC.eF Q ⟨Q,aO.of z2 z2⟩
  ·refine Ws (Ws (Wr ?_))
   refine aF (Cc (lo 28 b16.length)) y4 (aF (Iv (f.Graph.aB.length : Int)) y4 (aT LT.add aU (aQ fun r22 KP => (aP.step (cF [.c (lo 28 b16.length),.c (iC (aA ((f.Graph.aB.length : Int) + 1)))] [(28,.ax 37 29 (af b16)),(29,.pool 3 (rowsOf aH b16))] (Fw.Fn.ren [(0,33),(1,34)] (aB3 b16 (aA ((f.Graph.aB.length : Int) + 1)) r22 KP) Q) X4 (.cons (.c (.Ci Q Q Q (fun _ => Q))) (.cons (.c (.same Q)) .nil)) J y3) z3 z2 Q Q (aP.ent (aO.aED (enc := aH) (zD := (bI true)) 53 33 34 hU Q (fun _ => Q) Q Q Q Q) (aS (LT.fA Q gy) Q Q Q (aF (Iv 0) aX (On (aC.block ?_)))))))))
   refine aC.nV (id := 2) (Gx f r22) (fun s23 => ([(7,Iv (f.Graph.aB.length : Int)),(53,Cc (xT (bI true) r22)),(54,Iv (r22.length : Int)),(55,Iv s23)],[])) (fun Xa => ([],[])) (aj Try.prog Try.f17.results.toList [] [0] (fun (t : ((List Int) × Int × Bool)) => [.c (lo 0 t.1.length),.c (iC t.2.1),.c (bC t.2.2)]) (fun (t : ((List Int) × Int × Bool)) => [(0,pR 3 aH t.1)])) ?_ (aO.of z4 J) Q (fun Xa _ => ?_) (by intro r t σ m ht hk; injection ht with ht; subst ht; exact hk)
   ·intro s23
    unfold Gx
    refine Ws (Wr ?_)
    refine aT LT.lss y5 (On (Ws ?_))
    refine aC.cond Q (fun aEq => ?_) (fun aEq => ?_)
    ·refine aC.skip (Ws (aC.block (Ws (Wr ?_))))
     refine aQ fun rD Us => (dY (LT.dH (enc := (bI true)) Q iL Us qy) Q Q Q Q (aS (LT.fO Q jR) Q Q Q (aJ (Cc (xT aH rD)) y4 (On (Ws (Wr ?_))))))
     refine aF (Cc (xT aH rD)) y4 (aF (Iv (f.Graph.aB.length : Int)) y4 (aQ fun o6 Ut => (dY (LT.dH (enc := aH) Q dR Ut fM) Q Q Q Q (aS (LT.fO Q ay) Q Q Q (aJ (Iv o6) y4 (On (Ws (Ws (Wr ?_)))))))))
     refine aF (Iv o6) y4 (aT LT.eql aU (On (aC.cond Q (fun Tv => ?_) (fun Tv => ?_))))
     ·refine aC.exit Q (en [(7,Iv (f.Graph.aB.length : Int)),(53,Cc (xT (bI true) r22)),(54,Iv (r22.length : Int)),(55,Iv s23)] [] z4 J (Wr (aT LT.add aU (aF (Iv (aA (s23 + 1))) y4 (On (aW Q z4 J))))))
     ·refine aC.skip (Ws ?_)
      refine en [(7,Iv (f.Graph.aB.length : Int)),(11,Cc (xT aH rD)),(12,Iv o6)] [] z3 J (Wr (aF (Cc (xT aH rD)) y4 (aF (Iv (f.Graph.aB.length : Int)) y4 (aQ fun v79 O9 => (dY (LT.Qy (enc := aH) (uV := none) (uT := (some (.tmp 66,(f.Graph.aB.length : Int)))) (l := 0) (h := (f.Graph.aB.length : Int).toNat) Q Q Q bZ nI (fun _ => by rw [fM]; rfl) (.inr y2) (.inl ⟨_,_,Q,Int.le_trans (CW O9).1 (CW O9).2.1,Q⟩) (Qq O9) (Qp O9)) Q Q Q Q (aQ fun wL aFo => (aP.step (bQ [.c (xT aH ((rD.take ((f.Graph.aB.length : Int).toNat)).drop 0))] (Fw.Fn.ren [(0,36)] (WW ((rD.take ((f.Graph.aB.length : Int).toNat)).drop 0) wL aFo) Q) SN (.cons (.c (.weak (.same Q) (QW.kN yS (fun h => by cases h) _))) .nil) J y3) z2 J Q Q (aJ (Cc (lo 36 wL.length)) y4 (On (Ws (Ws (Wr ?_))))))))))))
      refine aF (Iv o6) y4 (aT LT.gtr aU (On (aC.fC (fun j90 => ([(12,Iv j90.1),(13,Cc (lo 36 j90.2.length))],[(36,pR 3 aH j90.2)])) ?_ (fun j90 _ => ?_))))
      ·refine aC.cond Q (fun hc91 => ?_) (fun hc91 => ?_)
       ·refine Ws (Wr ?_)
        refine aF (Cc (lo 36 wL.length)) y4 (aS (LT.jg Q bZ) Q Q Q (aF (Iv 0) aX (On (aC.block ?_))))
        refine aC.iW (id := 4) (Gy o6 wL) (fun lq => ([(12,Iv o6),(13,Cc (lo 36 lq.2.length)),(72,Iv (wL.length : Int)),(73,Iv lq.1)],[(36,pR 3 aH lq.2)])) (fun DZ => ([(12,Iv DZ.1),(13,Cc (lo 36 DZ.2.length))],[(36,pR 3 aH DZ.2)])) ?_ (aO.of z4 z1) Q (fun DZ _ => ?_)
        ·intro lq
         unfold Gy
         refine Ws (Wr ?_)
         refine aT LT.lss y5 (On (Ws ?_))
         refine aC.cond Q (fun aEQ => ?_) (fun aEQ => ?_)
         ·refine aC.skip (Ws (aC.block (Ws (Wr ?_))))
          refine aF (Iv lq.1) y4 (aJ (Iv lq.1) y4 (On (Wr ?_)))
          refine aF (Cc (lo 36 lq.2.length)) y4 (aF (Iv lq.1) y4 (aF (Cc (lo 36 lq.2.length)) y4 (aF (Iv lq.1) y4 (aQ fun x101 hx101 => (iK (LT.iG Q Q dR hx101) Q Q Q Q Q (bf (LT.lU (k := 0) Q ay hx101 (by exact Q) (by exact Q)) Q Q Q Q (aS (LT.neg Q) Q Q Q (aQ fun x102 hx102 => (iK (LT.iG Q Q dR hx102) Q Q Q Q Q (dU (LT.nN (k := 0) (v := (.c (iC (aA (-x101))))) (b' := (aA (-x101))) Q Q (dK nI) fM (by exact Q) hx102 (by exact Q) (by exact K Q) (by exact Q)) Q Q Q Q Q (On (aC.blk ?_))))))))))))
          refine en [(12,Iv o6),(13,Cc (lo 36 lq.2.length)),(72,Iv (wL.length : Int)),(73,Iv lq.1)] [(36,pR 3 aH (lq.2.set lq.1.toNat (aA (-x101))))] z4 z1 (Wr (aT LT.add aU (aF (Iv (aA (lq.1 + 1))) y4 (On (aC.nil ⟨Q,aO.of ⟨Q,congrArg (fun l1 => (some (AV.s (.c (lo 36 l1))) : Option AV)) (show lq.2.length = (lq.2.set lq.1.toNat (aA (-x101))).length by simp only [List.length_set]),Q,Q,J⟩ z1⟩)))))
         ·refine aC.eF Q ⟨Q,aO.of z2 z1⟩
        ·refine aW Q z2 z1
       ·refine aC.skip (aW Q z2 z1)
      ·refine Ws (Wr ?_)
       refine aF (Cc (lo 36 j90.2.length)) y4 (aF (Iv j90.1) y4 (aF (Iv j90.1) y4 (aS (LT.neg Q) Q Q Q (aT LT.max y5 (aJ (Cc (lo 36 j90.2.length)) y4 (aJ (Iv (if j90.1 < (aA (-j90.1)) then (aA (-j90.1)) else j90.1)) y4 (aJ (Bv true) aX (On (en [(4,Cc (lo 36 j90.2.length)),(5,Iv (if j90.1 < (aA (-j90.1)) then (aA (-j90.1)) else j90.1)),(6,Bv true)] [(36,pR 3 aH j90.2)] z3 z1 (aC.ent (aO.mv 36 0 Q Q) (en [(4,Cc (lo 0 j90.2.length)),(5,Iv (if j90.1 < (aA (-j90.1)) then (aA (-j90.1)) else j90.1)),(6,Bv true)] [(0,pR 3 aH j90.2)] z3 z1 ?_)))))))))))
       refine aC.ret ⟨Q,aj.mk (.inr Q) z3 z1 Q ⟨J,au.sc,au.sc,J⟩ ⟨dG.gm jb,J⟩⟩
    ·refine aC.eF Q ⟨Q,aO.of J J⟩
   ·refine Ws (Wr ?_)
    refine dP (LT.fZ (n := 37) (enc := aH) [] ([] : List Int) Q Q bZ eu Q Q Q Q (by decide) (fun _ => Q) Q) Q Q (aJ (Cc (lo 37 (([] : List Int).length))) y4 (aJ (Iv 0) aX (aJ (Bv false) aX (On (en [(4,Cc (lo 37 (([] : List Int).length))),(5,Iv 0),(6,Bv false)] [(37,pR 3 aH ([] : List Int))] z3 z1 (aC.ent (aO.mv 37 0 Q Q) (en [(4,Cc (lo 0 (([] : List Int).length))),(5,Iv 0),(6,Bv false)] [(0,pR 3 aH ([] : List Int))] z3 z1 (aC.ret (aj.mk (.inr Q) z3 z1 Q ⟨J,au.sc,au.sc,J⟩ ⟨dG.gm jb,J⟩)))))))))
theorem aCB (f : aZ) (load : (List Int)) : FT Try.prog (Ig f load) 92 [.agg [iC f.Graph.aG,xF aI f.Graph.aB,xF aK f.Places],.c (xF aH load)] [] (fun (t : Bool) => [.c (bC t)]) (fun (t : Bool) => []) [] := by
 refine FT.of [] Try.func92 Try.ntmps92 Q y2 ?_
 intro w0 U0 R0 g0
 unfold Ig
 refine Ws (Wr ?_)
 refine fK (LT.box (n := 21) (v := (.agg [iC f.Graph.aG,xF aI f.Graph.aB,xF aK f.Places])) Q bU (by exact Q)) Q Q Q (aJ (Bv false) aX (On (Ws (Ws (Wr ?_)))))
 refine aJ (Iv 0) aX (On (aC.block ?_))
 refine aC.nV (id := 0) (Ee load) (fun s1 => ([(1,Cc (xF aH load)),(2,Cc (.pl 21 0)),(5,Iv s1)],[(21,.row 29 [[iC f.Graph.aG,xF aI f.Graph.aB,xF aK f.Places]])])) (fun b10 => ([(1,Cc (xF aH load)),(2,Cc (.pl 21 0))],[(21,.row 29 [[iC f.Graph.aG,xF aI f.Graph.aB,xF aK f.Places]])])) (aj Try.prog Try.f92.results.toList [] [] (fun (t : Bool) => [.c (bC t)]) (fun (t : Bool) => [])) ?_ (aO.of z3 z1) Q (fun b10 _ => ?_) (by intro r t σ m ht hk; injection ht with ht; subst ht; exact hk)
 ·intro s1
  unfold Ee
  refine Ws (Ws (Wr ?_))
  refine aF (Iv s1) y4 (aF (Cc (xF aH load)) y4 (aS (LT.fA Q bZ) Q Q Q (aT LT.lss y5 (On (aC.cond Q (fun rP => ?_) (fun rP => ?_))))))
  ·refine aC.skip (Ws (aC.block (Ws (Wr ?_))))
   refine aF (Cc (xF aH load)) y4 (aF (Iv s1) y4 (aQ fun x12 vW => (dY (LT.dH (enc := aH) Q dR vW fM) Q Q Q Q (aS (LT.fO Q ay) Q Q Q (aQ fun r13 rQ => (aP.pure (bQ [.c (iC x12),.c (iC (-4)),.c (iC 4)] (DC x12 (-4) 4 r13 rQ) Au (vH y3) J y3) ⟨Q,Q,y2,y2,J⟩ J Q Q (aS (LT.not Q) Q Q Q (On (aC.cond Q (fun wu => ?_) (fun wu => ?_))))))))))
   ·refine Ws (Wr ?_)
    refine aJ (Bv false) aX (On (aC.ret ⟨Q,aj.mk (.inr Q) z1 J Q ⟨au.sc,J⟩ J⟩))
   ·refine aC.skip (aC.blk (Wr ?_))
    refine aF (Iv s1) y4 (aT LT.add aU (aJ (Iv (aA (s1 + 1))) y4 (On (aW Q z3 z1))))
  ·refine aC.eF Q ⟨Q,aO.of z2 z1⟩
 ·refine Ws (aC.fC (fun j17 => ([(4,Bv j17)],[])) ?_ (fun j17 _ => ?_))
  ·refine Wr (bf (cO [iC f.Graph.aG,xF aI f.Graph.aB,xF aK f.Places] Q dW bn bU) Q Q Q Q (aQ fun jJ zV => (aP.pure (bQ [.agg [iC f.Graph.aG,xF aI f.Graph.aB,xF aK f.Places]] (C9 f jJ zV) Ar (mO y3) J y3) z2 J Q Q (aF (Bv jJ) y4 (aP.split (fun iQ => ?_) (fun iQ => ?_))))))
   ·refine gW (Cc (xF aH load)) iQ y5 (aS (LT.fA Q bZ) Q (gH iQ Q Q) Q (aS (LT.gV Q jm) Q (gH iQ Q Q) Q (kR (iC f.Graph.aG) mQ ay iQ iq (iT LT.mul iQ WR (iT LT.eql iQ y6 (dh (Bv ((load.length : Int) == (aA (2 * f.Graph.aG)))) iQ y5 (aJ (Bv ((load.length : Int) == (aA (2 * f.Graph.aG)))) y4 (On (aW Q z1 J)))))))))
   ·refine aV iQ y5 (aV iQ y5 (aV iQ y5 (aV iQ y5 (aV iQ y5 (aV iQ y5 (aV iQ y5 (gY (Bv false) iQ aU (aJ (Bv false) y4 (On (aW Q z1 J))))))))))
  ·refine aC.ret (aj.mk (.inr Q) z1 J Q ⟨au.sc,J⟩ J)
theorem aJk (f : aZ) (load : (List Int)) : FT Try.prog (MX f load) 93 [.agg [iC f.Graph.aG,xF aI f.Graph.aB,xF aK f.Places],.c (xF aH load)] [] (fun (t : (List (List Int))) => [.c (lo 0 t.length)]) (fun (t : (List (List Int))) => [(0,pR 37 (bI true) t)]) [0] := by
 refine FT.of [] Try.func93 Try.ntmps93 Q y2 ?_
 intro w0 U0 R0 g0
 unfold MX
 refine Ws (Wr ?_)
 refine fK (LT.box (n := 21) (v := (.agg [iC f.Graph.aG,xF aI f.Graph.aB,xF aK f.Places])) Q bU (by exact Q)) Q Q Q (aJ (Cc (sC ah)) aX (On (Ws (Wr ?_))))
 refine bf (cO [iC f.Graph.aG,xF aI f.Graph.aB,xF aK f.Places] Q dW bn bU) Q Q Q Q (aQ fun r1 hr1 => (aP.step (bQ [.agg [iC f.Graph.aG,xF aI f.Graph.aB,xF aK f.Places]] (Fw.Fn.ren [(0,23),(1,24)] (aCC f r1 hr1) Q) X7 (mO y3) J y3) z2 J Q Q (aJ (Cc (lo 23 r1.length)) y4 (On (Ws (Ws (Wr ?_)))))))
 refine aJ (Iv 0) aX (On (aC.block ?_))
 refine aC.iW (id := 0) (Ba load) (fun s2 => ([(1,Cc (xF aH load)),(2,Cc (.pl 21 0)),(5,Cc (lo 23 s2.2.length)),(6,Iv s2.1)],[(21,.row 29 [[iC f.Graph.aG,xF aI f.Graph.aB,xF aK f.Places]]),(23,.ax 37 24 (af s2.2)),(24,.pool 3 (rowsOf aH s2.2))])) (fun b25 => ([(2,Cc (.pl 21 0)),(5,Cc (lo 23 b25.length))],[(21,.row 29 [[iC f.Graph.aG,xF aI f.Graph.aB,xF aK f.Places]]),(23,.ax 37 24 (af b25)),(24,.pool 3 (rowsOf aH b25))])) ?_ (aO.of z4 z3) Q (fun b25 _ => ?_)
 ·intro s2
  unfold Ba
  refine Ws (Ws (Wr ?_))
  refine aF (Iv s2.1) y4 (aF (Cc (xF aH load)) y4 (aS (LT.fA Q bZ) Q Q Q (aT LT.lss y5 (On (aC.cond Q (fun aEg => ?_) (fun aEg => ?_))))))
  ·refine aC.skip (Ws (aC.block (Ws (Ws (Wr ?_)))))
   refine aF (Cc (lo 23 s2.2.length)) y4 (aS (LT.jg Q gy) Q Q Q (aF (Iv s2.1) y4 (aT LT.leq y5 (On (aC.fC (fun j29 => ([(1,Cc (xF aH load)),(2,Cc (.pl 21 0)),(5,Cc (lo 23 j29.length)),(6,Iv s2.1)],[(21,.row 29 [[iC f.Graph.aG,xF aI f.Graph.aB,xF aK f.Places]]),(23,.ax 37 24 (af j29)),(24,.pool 3 (rowsOf aH j29))])) ?_ (fun j29 _ => ?_))))))
   ·refine aC.cond Q (fun D8 => ?_) (fun D8 => ?_)
    ·refine Wr (aF (Cc (lo 23 s2.2.length)) y4 (dP (LT.fZ (n := 25) (enc := aH) [] ([] : List Int) Q Q bZ eu Q Q Q Q (by decide) (fun _ => Q) Q) Q Q (fK (LT.buildSlice (n := 26) (els := [[lo 25 (([] : List Int).length)]]) [(0,.tmp 20,.c (lo 25 (([] : List Int).length)))] Q Q gy kX Q Q Q Q (by decide) Q Q) Q Q Q (aQ fun u31 aGG => (nS (LT.N8 Q Q Q gy kX Q (by decide) (by decide) Q (jU aGG)) Q Q Q Q Q Q (aJ (Cc (lo 23 (s2.2.length + 1))) y4 (On (aC.ent (aO.Cb (enc := aH) (n := 23) (m := 25) (p := 24) (rows := s2.2) (r := ([] : List Int)) (rest := []) Q Q Q Q Q Q) (aC.ent (aO.ax (n := 23) (p := 24) (lens := af (s2.2 ++ [([] : List Int)])) (List.append_nil _) Q) (aC.nil ⟨Q,aO.of ⟨Q,Q,congrArg (fun l1 => (some (AV.s (.c (lo 23 l1))) : Option AV)) (show (s2.2.length + 1) = (s2.2 ++ [([] : List Int)]).length from LV),Q,J⟩ z3⟩))))))))))
    ·refine aC.skip (aW Q z4 z3)
   ·refine aC.draw mixed (ak (Cc (lo 23 j29.length)) y4 (ak (Iv s2.1) y4 (DN (LT.fZ (n := 27) (enc := aH) [] ([] : List Int) Q Q bZ eu Q Q Q Q (by decide) (fun _ => Q) Q) Q Q (ak (Cc (lo 23 j29.length)) y4 (ak (Iv s2.1) y4 (aN.bind fun x32 hx32 => (je (LT.pJ Q Q iL hx32) Q Q Q Q Q (gQ (LT.rE Q jR hx32 Q) Q Q Q Q (aN.bind fun u33 Uf => (aN.step (LT.aIo (p := 24) (k := s2.1.toNat) (m := 28) (enc := aH) (rows := j29) (LT.aI8 (LT.lI (n := 27) (n2 := 28) (enc := aH) Q Q Q bZ eu Q (by decide) (by decide) (fun _ => Q) (jU Uf))) (jM hx32) Q) z2 z2 Q Q (ak (Cc (xF aH load)) y4 ?_)))))))))))
    refine ak (Iv s2.1) y4 (aN.bind fun x34 hx34 => (dJ (LT.dH (enc := aH) Q dR hx34 fM) Q Q Q Q (bJ (LT.fO Q ay) Q Q Q (Fh (LT.fZ (n := 29) (enc := aH) [(0,.tmp 34,.c (iC x34))] ([x34] : List Int) Q Q bZ eu Q Q Q Q (by decide) (fun _ => Q) Q) Q Q Q (aN.bind fun u35 aGI => (Jj (LT.lI (enc := aH) Q Q Q bZ eu Q (by decide) (by decide) (fun _ => Q) (jU aGI)) Q Q Q Q Q Q (aN.bind fun FZ Kw => (je (LT.pJ Q Q iL Kw) Q Q Q Q Q (lW (LT.Wy (e := 37) (p := 24) Q Q (dK wF) qy Kw Q) Q Q Q Q Q (aN.nil (by kernel_rfl) (aC.ent (aO.FM (enc := aH) (n := 23) (m := 27) (p := 24) (k := s2.1.toNat) (rows := j29) (r := ((([] : List Int) ++ x32) ++ ([x34] : List Int))) Q (List.getElem?_eq_some_iff.1 (jM Kw)).1 Q Q Q Q) ?_)))))))))))
    refine aC.ent (aO.ax (n := 23) (p := 24) (lens := af (j29.set s2.1.toNat ((([] : List Int) ++ x32) ++ ([x34] : List Int)))) Q Q) (aC.blk (Wr ?_))
    refine aF (Iv s2.1) y4 (aT LT.add aU (aJ (Iv (aA (s2.1 + 1))) y4 (On (aC.nil ⟨Q,aO.of ⟨Q,Q,congrArg (fun l1 => (some (AV.s (.c (lo 23 l1))) : Option AV)) (show j29.length = (j29.set s2.1.toNat ((([] : List Int) ++ x32) ++ ([x34] : List Int))).length by simp only [List.length_set]),Q,J⟩ z3⟩))))
  ·refine aC.eF Q ⟨Q,aO.of z2 z3⟩
 ·refine Ws (Wr ?_)
  refine aF (Cc (lo 23 b25.length)) y4 (aS (LT.gV Q jm) Q Q Q (fV (xF aI f.Graph.aB) iJ iU bP (aS (LT.fA Q ig) Q Q Q (aT LT.add aU (aQ fun vk UY => (aP.step (cF [.c (lo 23 b25.length),.c (iC (aA ((f.Graph.aB.length : Int) + 1)))] [(23,.ax 37 24 (af b25)),(24,.pool 3 (rowsOf aH b25))] (Fw.Fn.ren [(0,31)] (aCH b25 (aA ((f.Graph.aB.length : Int) + 1)) vk UY) Q) X6 (.cons (.c (.Ci Q Q Q (fun _ => Q))) (.cons (.c (.same Q)) .nil)) J y3) z3 z2 Q Q (aJ (Cc (lo 31 vk.length)) y4 (On (en [(4,Cc (lo 31 vk.length))] [(31,pR 37 (bI true) vk)] z1 z1 (aC.ent (aO.mv 31 0 Q Q) ?_))))))))))
  refine en [(4,Cc (lo 0 vk.length))] [(0,pR 37 (bI true) vk)] z1 z1 (aC.ret (aj.mk (.inr Q) z1 z1 Q ⟨J,J⟩ ⟨dG.gm Bz,J⟩))
theorem aJU (f : aZ) (load : (List Int)) : FT Try.prog (L8 f load) 18 [.agg [iC f.Graph.aG,xF aI f.Graph.aB,xF aK f.Places],.c (xF aH load)] [] (fun (t : ((List Int) × Int × Bool)) => [.c (lo 0 t.1.length),.c (iC t.2.1),.c (bC t.2.2)]) (fun (t : ((List Int) × Int × Bool)) => [(0,pR 3 aH t.1)]) [0] := by
 refine FT.of [] Try.func18 Try.ntmps18 Q y2 ?_
 intro w0 U0 R0 g0
 unfold L8
 refine Ws (Wr ?_)
 refine fK (LT.box (n := 21) (v := (.agg [iC f.Graph.aG,xF aI f.Graph.aB,xF aK f.Places])) Q bU (by exact Q)) Q Q Q (aJ (Cc (sC ah)) aX (aJ (Iv 0) aX (aJ (Bv false) aX (On (Ws (Ws (Wr ?_)))))))
 refine bf (cO [iC f.Graph.aG,xF aI f.Graph.aB,xF aK f.Places] Q dW bn bU) Q Q Q Q (aF (Cc (xF aH load)) y4 (aQ fun r1 hr1 => (aP.pure (bQ [.agg [iC f.Graph.aG,xF aI f.Graph.aB,xF aK f.Places],.c (xF aH load)] (aCB f load r1 hr1) YA (xM y4) J y3) z3 J Q Q (aS (LT.not Q) Q Q Q (On (aC.cond Q (fun hc2 => ?_) (fun hc2 => ?_)))))))
 ·refine Ws (Wr ?_)
  refine dP (LT.fZ (n := 23) (enc := aH) [] ([] : List Int) Q Q bZ eu Q Q Q Q (by decide) (fun _ => Q) Q) Q Q (aJ (Cc (lo 23 (([] : List Int).length))) y4 (aJ (Iv 0) aX (aJ (Bv false) aX (On (en [(4,Cc (lo 23 (([] : List Int).length))),(5,Iv 0),(6,Bv false)] [(23,pR 3 aH ([] : List Int))] z3 z1 (aC.ent (aO.mv 23 0 Q Q) (en [(4,Cc (lo 0 (([] : List Int).length))),(5,Iv 0),(6,Bv false)] [(0,pR 3 aH ([] : List Int))] z3 z1 (aC.ret (aj.mk (.inr Q) z3 z1 Q ⟨J,au.sc,au.sc,J⟩ ⟨dG.gm jb,J⟩)))))))))
 ·refine aC.skip (Ws (Wr ?_))
  refine bf (cO [iC f.Graph.aG,xF aI f.Graph.aB,xF aK f.Places] Q dW bn bU) Q Q Q Q (aF (Cc (xF aH load)) y4 (aQ fun r3 hr3 => (aP.step (bQ [.agg [iC f.Graph.aG,xF aI f.Graph.aB,xF aK f.Places],.c (xF aH load)] (Fw.Fn.ren [(0,25)] (aJk f load r3 hr3) Q) aDT (xM y4) J y3) z3 J Q Q (aJ (Cc (lo 25 r3.length)) y4 (On (Ws ?_))))))
  refine en [(2,Cc (.pl 21 0)),(7,Cc (lo 25 r3.length))] [(21,.row 29 [[iC f.Graph.aG,xF aI f.Graph.aB,xF aK f.Places]]),(25,pR 37 (bI true) r3)] z2 z2 (Wr (aS (LT.gV Q jm) Q Q Q (fV (xF aI f.Graph.aB) iJ iU bP (aS (LT.fA Q ig) Q Q Q (aJ (Iv (f.Graph.aB.length : Int)) y4 (On (Ws (Ws (Wr ?_)))))))))
  refine aJ (Iv 0) aX (On (aC.block ?_))
  refine aC.nV (id := 0) (IK f r3) (fun s4 => ([(7,Cc (lo 25 r3.length)),(8,Iv (f.Graph.aB.length : Int)),(9,Iv s4)],[(25,pR 37 (bI true) r3)])) (fun Jr => ([],[])) (aj Try.prog Try.f18.results.toList [] [0] (fun (t : ((List Int) × Int × Bool)) => [.c (lo 0 t.1.length),.c (iC t.2.1),.c (bC t.2.2)]) (fun (t : ((List Int) × Int × Bool)) => [(0,pR 3 aH t.1)])) ?_ (aO.of z3 z1) Q (fun Jr _ => ?_) (by intro r t σ m ht hk; injection ht with ht; subst ht; exact hk)
  ·intro s4
   unfold IK
   refine Ws (Ws (Wr ?_))
   refine aF (Iv s4) y4 (aF (Cc (lo 25 r3.length)) y4 (aS (LT.jg Q gy) Q Q Q (aT LT.lss y5 (On (aC.cond Q (fun UA => ?_) (fun UA => ?_))))))
   ·refine aC.skip (Ws (aC.block (Ws (Wr ?_))))
    refine aF (Cc (lo 25 r3.length)) y4 (aF (Iv s4) y4 (aQ fun x83 Gg => (iK (LT.iG Q Q iL Gg) Q Q Q Q Q (bf (LT.lU (k := 0) Q jR Gg (by exact Q) (by exact Q)) Q Q Q Q (aF (Iv (f.Graph.aB.length : Int)) y4 (aQ fun x84 aGp => (dY (LT.dH (enc := aH) Q dR aGp fM) Q Q Q Q (aS (LT.fO Q ay) Q Q Q (aJ (Iv x84) y4 (On (Ws (Ws ?_))))))))))))
    refine en [(7,Cc (lo 25 r3.length)),(8,Iv (f.Graph.aB.length : Int)),(9,Iv s4),(10,Iv x84)] [(25,pR 37 (bI true) r3)] z4 z1 (Wr (aF (Iv x84) y4 (aT LT.eql aU (On (aC.cond Q (fun aEs => ?_) (fun aEs => ?_))))))
    ·refine aC.exit Q (Wr ?_)
     refine aF (Iv s4) y4 (aT LT.add aU (aJ (Iv (aA (s4 + 1))) y4 (On (aW Q z3 z1))))
    ·refine aC.skip (Ws (Wr ?_))
     refine dP (LT.fZ (n := 26) (enc := aH) [] ([] : List Int) Q Q bZ eu Q Q Q Q (by decide) (fun _ => Q) Q) Q Q (aJ (Cc (lo 26 (([] : List Int).length))) y4 (On (Ws (Ws (Wr ?_)))))
     refine aJ (Iv 0) aX (On (aC.block ?_))
     refine aC.iW (id := 2) (IL f r3 s4 x84) (fun ni => ([(7,Cc (lo 25 r3.length)),(8,Iv (f.Graph.aB.length : Int)),(9,Iv s4),(10,Iv x84),(11,Cc (lo 26 ni.2.length)),(12,Iv ni.1)],[(25,pR 37 (bI true) r3),(26,pR 3 aH ni.2)])) (fun ku => ([(10,Iv ku.1),(11,Cc (lo 26 ku.2.length))],[(26,pR 3 aH ku.2)])) ?_ (aO.of z6 z2) Q (fun ku _ => ?_)
     ·intro ni
      unfold IL
      refine Ws (Ws (Wr ?_))
      refine aF (Iv ni.1) y4 (aF (Iv (f.Graph.aB.length : Int)) y4 (aT LT.lss y5 (On (aC.cond Q (fun aES => ?_) (fun aES => ?_)))))
      ·refine aC.skip (Ws (aC.block (Ws (Wr ?_))))
       refine aF (Iv x84) y4 (aT LT.gtr aU (On (aC.fC (fun j128 => ([(7,Cc (lo 25 r3.length)),(8,Iv (f.Graph.aB.length : Int)),(9,Iv s4),(10,Iv x84),(11,Cc (lo 26 j128.length)),(12,Iv ni.1)],[(25,pR 37 (bI true) r3),(26,pR 3 aH j128)])) ?_ (fun j128 _ => ?_))))
       ·refine aC.cond Q (fun aEU => ?_) (fun aEU => ?_)
        ·refine Wr (aF (Cc (lo 26 ni.2.length)) y4 (aF (Cc (lo 25 r3.length)) y4 (aF (Iv s4) y4 (aQ fun aCN ZE => (iK (LT.iG Q Q iL ZE) Q Q Q Q Q (bf (LT.lU (k := 0) Q jR ZE (by exact Q) (by exact Q)) Q Q Q Q (aF (Iv ni.1) y4 (aQ fun Jd aGY => (dY (LT.dH (enc := aH) Q dR aGY fM) Q Q Q Q (aS (LT.fO Q ay) Q Q Q (aS (LT.neg Q) Q Q Q ?_)))))))))))
         refine fK (LT.fZ (n := 27) (enc := aH) [(0,.tmp 56,.c (iC (aA (-Jd))))] ([aA (-Jd)] : List Int) Q Q bZ eu Q Q Q Q (by decide) (fun _ => Q) Q) Q Q Q (aQ fun aIv aFy => (nS (LT.lI (enc := aH) Q Q Q bZ eu Q (by decide) (by decide) (fun _ => Q) (jU aFy)) Q Q Q Q Q Q (aJ (Cc (lo 26 ((ni.2 ++ ([aA (-Jd)] : List Int)).length))) y4 (On (aW Q z6 z2)))))
        ·refine Wr (aF (Cc (lo 26 ni.2.length)) y4 (aF (Cc (lo 25 r3.length)) y4 (aF (Iv s4) y4 (aQ fun aCO ZF => (iK (LT.iG Q Q iL ZF) Q Q Q Q Q (bf (LT.lU (k := 0) Q jR ZF (by exact Q) (by exact Q)) Q Q Q Q (aF (Iv ni.1) y4 (aQ fun yt PG => (dY (LT.dH (enc := aH) Q dR PG fM) Q Q Q Q (aS (LT.fO Q ay) Q Q Q (fK (LT.fZ (n := 28) (enc := aH) [(0,.tmp 66,.c (iC yt))] ([yt] : List Int) Q Q bZ eu Q Q Q Q (by decide) (fun _ => Q) Q) Q Q Q ?_)))))))))))
         refine aQ fun aIw aFz => (nS (LT.lI (enc := aH) Q Q Q bZ eu Q (by decide) (by decide) (fun _ => Q) (jU aFz)) Q Q Q Q Q Q (aJ (Cc (lo 26 ((ni.2 ++ ([yt] : List Int)).length))) y4 (On (aW Q z6 z2))))
       ·refine aC.blk (Wr ?_)
        refine aF (Iv ni.1) y4 (aT LT.add aU (aJ (Iv (aA (ni.1 + 1))) y4 (On (aW Q z6 z2))))
      ·refine aC.eF Q ⟨Q,aO.of z2 z1⟩
     ·refine Ws (Wr ?_)
      refine aF (Cc (lo 26 ku.2.length)) y4 (aF (Iv ku.1) y4 (aF (Iv ku.1) y4 (aS (LT.neg Q) Q Q Q (aT LT.max y5 (aJ (Cc (lo 26 ku.2.length)) y4 (aJ (Iv (if ku.1 < (aA (-ku.1)) then (aA (-ku.1)) else ku.1)) y4 (aJ (Bv true) aX (On (en [(4,Cc (lo 26 ku.2.length)),(5,Iv (if ku.1 < (aA (-ku.1)) then (aA (-ku.1)) else ku.1)),(6,Bv true)] [(26,pR 3 aH ku.2)] z3 z1 (aC.ent (aO.mv 26 0 Q Q) (en [(4,Cc (lo 0 ku.2.length)),(5,Iv (if ku.1 < (aA (-ku.1)) then (aA (-ku.1)) else ku.1)),(6,Bv true)] [(0,pR 3 aH ku.2)] z3 z1 ?_)))))))))))
      refine aC.ret ⟨Q,aj.mk (.inr Q) z3 z1 Q ⟨J,au.sc,au.sc,J⟩ ⟨dG.gm jb,J⟩⟩
   ·refine aC.eF Q ⟨Q,aO.of J J⟩
  ·refine Ws (Wr ?_)
   refine dP (LT.fZ (n := 29) (enc := aH) [] ([] : List Int) Q Q bZ eu Q Q Q Q (by decide) (fun _ => Q) Q) Q Q (aJ (Cc (lo 29 (([] : List Int).length))) y4 (aJ (Iv 0) aX (aJ (Bv false) aX (On (en [(4,Cc (lo 29 (([] : List Int).length))),(5,Iv 0),(6,Bv false)] [(29,pR 3 aH ([] : List Int))] z3 z1 (aC.ent (aO.mv 29 0 Q Q) (en [(4,Cc (lo 0 (([] : List Int).length))),(5,Iv 0),(6,Bv false)] [(0,pR 3 aH ([] : List Int))] z3 z1 (aC.ret (aj.mk (.inr Q) z3 z1 Q ⟨J,au.sc,au.sc,J⟩ ⟨dG.gm jb,J⟩)))))))))
end Go.Proofs.Ytdmlaldifbmkpaa
end
section
set_option linter.unusedVariables false
set_option linter.unusedSimpArgs false
set_option linter.unnecessarySimpa false
set_option maxRecDepth 100000
set_option maxHeartbeats 8000000
open Go Go.Fw
namespace Go.Proofs.Ytdmlaldifbmkpaa
theorem aJD (f : aZ) (load : (List Int)) : FT Try.prog (Lc f load) 20 [.agg [iC f.Graph.aG,xF aI f.Graph.aB,xF aK f.Places],.c (xF aH load)] [] (fun (t : Bool) => [.c (bC t)]) (fun (t : Bool) => []) [] := by
 refine FT.of [] Try.func20 Try.ntmps20 Q y2 ?_
 intro w0 U0 R0 g0
 unfold Lc
 refine Ws (Wr ?_)
 refine fK (LT.box (n := 21) (v := (.agg [iC f.Graph.aG,xF aI f.Graph.aB,xF aK f.Places])) Q bU (by exact Q)) Q Q Q (aJ (Bv false) aX (On (Ws (Wr ?_))))
 refine bf (cO [iC f.Graph.aG,xF aI f.Graph.aB,xF aK f.Places] Q dW bn bU) Q Q Q Q (aF (Cc (xF aH load)) y4 (aQ fun r1 hr1 => (aP.step (bQ [.agg [iC f.Graph.aG,xF aI f.Graph.aB,xF aK f.Places],.c (xF aH load)] (Fw.Fn.ren [(0,23)] (aBx f load r1 hr1) Q) Xw (xM y4) J y3) z3 J Q Q (aF (.dO [.c (lo 23 r1.1.length),.c (iC r1.2.1),.c (bC r1.2.2)]) y4 (aS (LT.extract (v := (.c (lo 23 r1.1.length))) Q (by exact Q)) Q Q Q (aS (LT.extract (v := (.c (iC r1.2.1))) Q (by exact Q)) Q Q Q (aS (LT.extract (v := (.c (bC r1.2.2))) Q (by exact Q)) Q Q Q (aJ (Cc (lo 23 r1.1.length)) y4 (aJ (Iv r1.2.1) y4 (aJ (Bv r1.2.2) y4 (On (Ws ?_))))))))))))
 refine en [(7,Bv r1.2.2)] [] z1 J (Wr (aF (Bv r1.2.2) y4 (aJ (Bv r1.2.2) y4 (On (aC.ret (aj.mk (.inr Q) z1 J Q ⟨au.sc,J⟩ J))))))
theorem aJI (f : aZ) : FT Try.prog (Ll f) 94 [.agg [iC f.Graph.aG,xF aI f.Graph.aB,xF aK f.Places]] [] (fun (t : (List (List Int))) => [.c (lo 0 t.length)]) (fun (t : (List (List Int))) => [(0,.ax 37 1 (af t)),(1,.pool 3 (rowsOf aH t))]) [0,1] := by
 refine FT.of [] Try.func94 Try.ntmps94 Q y2 ?_
 intro w0 U0 R0 g0
 unfold Ll
 refine Ws (Wr ?_)
 refine fK (LT.box (n := 21) (v := (.agg [iC f.Graph.aG,xF aI f.Graph.aB,xF aK f.Places])) Q bU (by exact Q)) Q Q Q (aJ (Cc (sC ah)) aX (On (Ws (Ws (Wr ?_)))))
 refine bf (cO [iC f.Graph.aG,xF aI f.Graph.aB,xF aK f.Places] Q dW bn bU) Q Q Q Q (aQ fun r1 hr1 => (aP.pure (bQ [.agg [iC f.Graph.aG,xF aI f.Graph.aB,xF aK f.Places]] (FU f r1 hr1) Dh (mO y3) J y3) z2 J Q Q (aS (LT.not Q) Q Q Q (On (aC.cond Q (fun hc2 => ?_) (fun hc2 => ?_))))))
 ·refine Ws (Wr ?_)
  refine dP (LT.buildSlice (n := 23) (els := []) [] Q Q gy kX Q Q Q Q (by decide) Q Q) Q Q (aJ (Cc (lo 23 0)) y4 (On (aC.ent (aO.E5 24 3 Q) (aC.ent (aO.ax (n := 23) (p := 24) (lens := af ([] : List (List Int))) (List.append_nil _) Q) (en [(2,Cc (lo 23 0))] [(23,.ax 37 24 (af ([] : List (List Int)))),(24,.pool 3 (rowsOf aH ([] : List (List Int))))] z1 z2 (aC.ent (aO.mv 23 0 Q Q) (aC.ent (aO.mv 24 1 Q Q) (en [(2,Cc (lo 0 (([] : List (List Int)).length)))] [(0,.ax 37 1 (af ([] : List (List Int)))),(1,.pool 3 (rowsOf aH ([] : List (List Int))))] z1 z2 (aC.ret (aj.mk (.inr Q) z1 z2 Q ⟨J,J⟩ ⟨J,dG.xK jb _,J⟩))))))))))
 ·refine aC.skip (Ws (Wr ?_))
  refine dP (LT.fZ (n := 25) (enc := aH) [] ([] : List Int) Q Q bZ eu Q Q Q Q (by decide) (fun _ => Q) Q) Q Q (dP (LT.fZ (n := 26) (enc := aH) [] ([] : List Int) Q Q bZ eu Q Q Q Q (by decide) (fun _ => Q) Q) Q Q (dP (LT.fZ (n := 27) (enc := aH) [] ([] : List Int) Q Q bZ eu Q Q Q Q (by decide) (fun _ => Q) Q) Q Q (XC (LT.buildSlice (n := 28) (els := [[lo 25 (([] : List Int).length)],[lo 26 (([] : List Int).length)],[lo 27 (([] : List Int).length)]]) [(0,.tmp 10,.c (lo 25 (([] : List Int).length))),(1,.tmp 11,.c (lo 26 (([] : List Int).length))),(2,.tmp 12,.c (lo 27 (([] : List Int).length)))] Q Q gy kX Q Q Q Q (by decide) Q Q) Q Q Q Q Q (aJ (Cc (lo 28 3)) y4 (On (aC.ent (aO.E5 29 3 Q) (aC.ent (aO.Cb (enc := aH) (n := 28) (m := 25) (p := 29) (rows := ([] : List (List Int))) (r := ([] : List Int)) (rest := [[lo 26 (([] : List Int).length)],[lo 27 (([] : List Int).length)]]) Q Q Q Q Q Q) (aC.ent (aO.Cb (enc := aH) (n := 28) (m := 26) (p := 29) (rows := (([] : List (List Int)) ++ [([] : List Int)])) (r := ([] : List Int)) (rest := [[lo 27 (([] : List Int).length)]]) Q Q Q Q Q Q) (aC.ent (aO.Cb (enc := aH) (n := 28) (m := 27) (p := 29) (rows := ((([] : List (List Int)) ++ [([] : List Int)]) ++ [([] : List Int)])) (r := ([] : List Int)) (rest := []) Q Q Q Q Q Q) (aC.ent (aO.ax (n := 28) (p := 29) (lens := af (((([] : List (List Int)) ++ [([] : List Int)]) ++ [([] : List Int)]) ++ [([] : List Int)])) (List.append_nil _) Q) (Ws (Ws (Wr ?_)))))))))))))
  refine fV (xF aK f.Places) iy jC bP (aS (LT.fA Q sZ) Q Q Q (aF (Iv 0) aX (On (aC.block ?_))))
  refine aC.bind fun u38 aGK => (aC.iW (id := 0) (HY f) (fun s3 => ([(3,Cc (lo 28 s3.2.length)),(15,Cc (xF aK f.Places)),(16,Iv (f.Places.length : Int)),(17,Iv s3.1)],[(28,.ax 37 29 (af s3.2)),(29,.pool 3 (rowsOf aH s3.2))])) (fun uN => ([(3,Cc (lo 28 uN.length))],[(28,.ax 37 29 (af uN)),(29,.pool 3 (rowsOf aH uN))])) ?_ (aO.of ⟨congrArg (fun l1 => (some (AV.s (.c (lo 28 l1))) : Option AV)) (same_eq aGK),Q,Q,Q,J⟩ z2) Q (fun uN _ => ?_))
  ·intro s3
   unfold HY
   refine Ws (Wr ?_)
   refine aT LT.lss y5 (On (Ws ?_))
   refine aC.cond Q (fun hc27 => ?_) (fun hc27 => ?_)
   ·refine aC.skip (Ws (aC.block (Ws (Wr ?_))))
    refine aQ fun x28 hx28 => (dY (LT.dH (enc := aK) Q kG hx28 iH) Q Q Q Q (aS (LT.lF Q rF (dK nT) (by exact iH.symm)) Q Q Q (dP (LT.alloc (n := 30) (cells := [iC 0,iC 0]) Q AY Q Q Q) Q Q (dU (stA [iC x28.X,iC x28.Y] Q Q nT iH) Q Q Q Q Q (On (Ws (Wr ?_)))))))
    refine aF (Cc (lo 28 s3.2.length)) y4 (aF (Cc (lo 28 s3.2.length)) y4 (aQ fun x29 hx29 => (iK (LT.pJ Q Q iL hx29) Q y2 Q Q Q (bf (LT.rE Q jR hx29 Q) Q Q Q Q (wV (LT.fZ (n := 31) (enc := aH) [(0,.const (.int .i64 1),.c (iC 1)),(1,.const (.int .i64 0),.c (iC 0))] ([1,0] : List Int) Q Q bZ eu Q Q Q Q (by decide) (fun _ => Q) Q) y2 y2 Q Q (aQ fun u30 aGF => (aP.step (LT.Nl (p := 29) (k := (Int.toNat 0)) (m := 32) (n := 28) (e := 37) (enc := aH) (LT.lI (n := 32) (n2 := 31) (enc := aH) Q Q Q bZ eu Q (by decide) (by decide) (fun _ => Q) (jU aGF)) (jM hx29) Q) z2 z3 Q Q (aQ fun x31 hx31 => (iK (LT.Ji (show s3.2.length = (s3.2.set (Int.toNat 0) []).length by simp only [List.length_set]) Q iL hx31) Q y2 Q Q Q (dU (LT.N9 (e := 37) (p := 29) Q Q (dK wF) qy hx31 Q) Q Q Q Q Q (On ?_)))))))))))
    refine aC.ent (aO.FM (enc := aH) (n := 28) (m := 32) (p := 29) (k := (Int.toNat 0)) (rows := (s3.2.set (Int.toNat 0) [])) (r := (x29 ++ ([1,0] : List Int))) Q (List.getElem?_eq_some_iff.1 (jM hx31)).1 Q Q Q Q) ?_
    refine aC.ent (aO.ax (n := 28) (p := 29) (lens := af ((s3.2.set (Int.toNat 0) []).set (Int.toNat 0) (x29 ++ ([1,0] : List Int)))) Q Q) (Ws (Wr ?_))
    refine aF (Cc (lo 28 s3.2.length)) y4 (aF (Cc (lo 28 s3.2.length)) y4 (aQ fun x32 hx32 => (iK (LT.pJ (show s3.2.length = ((s3.2.set (Int.toNat 0) []).set (Int.toNat 0) (x29 ++ ([1,0] : List Int))).length by simp only [List.length_set]) Q iL hx32) Q y2 Q Q Q (bf (LT.rE Q jR hx32 Q) Q Q Q Q (wV (LT.fZ (n := 33) (enc := aH) [(0,.const (.int .i64 0),.c (iC 0)),(1,.const (.int .i64 1),.c (iC 1))] ([0,1] : List Int) Q Q bZ eu Q Q Q Q (by decide) (fun _ => Q) Q) y2 y2 Q Q (aQ fun u33 Uf => (aP.step (LT.Nl (p := 29) (k := (Int.toNat 1)) (m := 34) (n := 28) (e := 37) (enc := aH) (LT.lI (n := 34) (n2 := 33) (enc := aH) Q Q Q bZ eu Q (by decide) (by decide) (fun _ => Q) (jU Uf)) (jM hx32) Q) z2 z3 Q Q (aQ fun x34 hx34 => (iK (LT.Ji (show s3.2.length = (((s3.2.set (Int.toNat 0) []).set (Int.toNat 0) (x29 ++ ([1,0] : List Int))).set (Int.toNat 1) []).length by simp only [List.length_set]) Q iL hx34) Q y2 Q Q Q (dU (LT.N9 (e := 37) (p := 29) Q Q (dK wF) qy hx34 Q) Q Q Q Q Q (On ?_)))))))))))
    refine aC.ent (aO.FM (enc := aH) (n := 28) (m := 34) (p := 29) (k := (Int.toNat 1)) (rows := (((s3.2.set (Int.toNat 0) []).set (Int.toNat 0) (x29 ++ ([1,0] : List Int))).set (Int.toNat 1) [])) (r := (x32 ++ ([0,1] : List Int))) Q (List.getElem?_eq_some_iff.1 (jM hx34)).1 Q Q Q Q) ?_
    refine aC.ent (aO.ax (n := 28) (p := 29) (lens := af ((((s3.2.set (Int.toNat 0) []).set (Int.toNat 0) (x29 ++ ([1,0] : List Int))).set (Int.toNat 1) []).set (Int.toNat 1) (x32 ++ ([0,1] : List Int)))) Q Q) (aC.draw mixed (ak (Cc (lo 28 s3.2.length)) y4 (ak (Cc (lo 28 s3.2.length)) y4 (aN.bind fun Jf Un => (je (LT.pJ (show s3.2.length = ((((s3.2.set (Int.toNat 0) []).set (Int.toNat 0) (x29 ++ ([1,0] : List Int))).set (Int.toNat 1) []).set (Int.toNat 1) (x32 ++ ([0,1] : List Int))).length by simp only [List.length_set]) Q iL Un) Q y2 Q Q Q (gQ (LT.rE Q jR Un Q) Q Q Q Q (eG (iC x28.Y) sN ay bP (bJ (LT.neg Q) Q Q Q (eG (iC x28.X) rJ ay bP ?_)))))))))
    refine XB (LT.fZ (n := 35) (enc := aH) [(0,.tmp 41,.c (iC (aA (-x28.Y)))),(1,.tmp 43,.c (iC x28.X))] ([aA (-x28.Y),x28.X] : List Int) Q Q bZ eu Q Q Q Q (by decide) (fun _ => Q) Q) Q Q Q Q (aN.bind fun u36 aGJ => (aN.step (LT.Nl (p := 29) (k := (Int.toNat 2)) (m := 36) (n := 28) (e := 37) (enc := aH) (LT.lI (n := 36) (n2 := 35) (enc := aH) Q Q Q bZ eu Q (by decide) (by decide) (fun _ => Q) (jU aGJ)) (jM Un) Q) z2 z3 Q Q (aN.bind fun Wx EI => (je (LT.Ji (show s3.2.length = (((((s3.2.set (Int.toNat 0) []).set (Int.toNat 0) (x29 ++ ([1,0] : List Int))).set (Int.toNat 1) []).set (Int.toNat 1) (x32 ++ ([0,1] : List Int))).set (Int.toNat 2) []).length by simp only [List.length_set]) Q iL EI) Q y2 Q Q Q (lW (LT.N9 (e := 37) (p := 29) Q Q (dK wF) qy EI Q) Q Q Q Q Q (aN.nil (by kernel_rfl) (aC.ent (aO.FM (enc := aH) (n := 28) (m := 36) (p := 29) (k := (Int.toNat 2)) (rows := (((((s3.2.set (Int.toNat 0) []).set (Int.toNat 0) (x29 ++ ([1,0] : List Int))).set (Int.toNat 1) []).set (Int.toNat 1) (x32 ++ ([0,1] : List Int))).set (Int.toNat 2) [])) (r := (Jf ++ ([aA (-x28.Y),x28.X] : List Int))) Q (List.getElem?_eq_some_iff.1 (jM EI)).1 Q Q Q Q) ?_)))))))
    refine aC.ent (aO.ax (n := 28) (p := 29) (lens := af ((((((s3.2.set (Int.toNat 0) []).set (Int.toNat 0) (x29 ++ ([1,0] : List Int))).set (Int.toNat 1) []).set (Int.toNat 1) (x32 ++ ([0,1] : List Int))).set (Int.toNat 2) []).set (Int.toNat 2) (Jf ++ ([aA (-x28.Y),x28.X] : List Int)))) Q Q) (aC.blk (Wr ?_))
    refine aT LT.add aU (aF (Iv (aA (s3.1 + 1))) y4 (On (aC.nil ⟨Q,aO.of ⟨congrArg (fun l1 => (some (AV.s (.c (lo 28 l1))) : Option AV)) (show s3.2.length = ((((((s3.2.set (Int.toNat 0) []).set (Int.toNat 0) (x29 ++ ([1,0] : List Int))).set (Int.toNat 1) []).set (Int.toNat 1) (x32 ++ ([0,1] : List Int))).set (Int.toNat 2) []).set (Int.toNat 2) (Jf ++ ([aA (-x28.Y),x28.X] : List Int))).length by simp only [List.length_set]),Q,Q,Q,J⟩ z2⟩)))
   ·refine aC.eF Q ⟨Q,aO.of z1 z2⟩
  ·refine Ws (Wr ?_)
   refine aF (Cc (lo 28 uN.length)) y4 (aJ (Cc (lo 28 uN.length)) y4 (On (en [(2,Cc (lo 28 uN.length))] [(28,.ax 37 29 (af uN)),(29,.pool 3 (rowsOf aH uN))] z1 z2 (aC.ent (aO.mv 28 0 Q Q) (aC.ent (aO.mv 29 1 Q Q) (en [(2,Cc (lo 0 uN.length))] [(0,.ax 37 1 (af uN)),(1,.pool 3 (rowsOf aH uN))] z1 z2 (aC.ret (aj.mk (.inr Q) z1 z2 Q ⟨J,J⟩ ⟨J,dG.xK jb _,J⟩))))))))
theorem WU (f : aZ) (load : (List Int)) : FT Try.prog (EP f load) 21 [.agg [iC f.Graph.aG,xF aI f.Graph.aB,xF aK f.Places],.c (xF aH load)] [] (fun (t : Bool) => [.c (bC t)]) (fun (t : Bool) => []) [] := by
 refine FT.of [] Try.func21 Try.ntmps21 Q y2 ?_
 intro w0 U0 R0 g0
 unfold EP
 refine Ws (Wr ?_)
 refine fK (LT.box (n := 21) (v := (.agg [iC f.Graph.aG,xF aI f.Graph.aB,xF aK f.Places])) Q bU (by exact Q)) Q Q Q (aJ (Bv false) aX (On (Ws (Ws (Wr ?_)))))
 refine bf (cO [iC f.Graph.aG,xF aI f.Graph.aB,xF aK f.Places] Q dW bn bU) Q Q Q Q (aF (Cc (xF aH load)) y4 (aQ fun r1 hr1 => (aP.pure (bQ [.agg [iC f.Graph.aG,xF aI f.Graph.aB,xF aK f.Places],.c (xF aH load)] (aB2 f load r1 hr1) X9 (xM y4) J y3) z3 J Q Q (aS (LT.not Q) Q Q Q (On (aC.cond Q (fun hc2 => ?_) (fun hc2 => ?_)))))))
 ·refine Ws (Wr ?_)
  refine aJ (Bv false) aX (On (aC.ret (aj.mk (.inr Q) z1 J Q ⟨au.sc,J⟩ J)))
 ·refine aC.skip (Ws (Ws (Wr ?_)))
  refine bf (cO [iC f.Graph.aG,xF aI f.Graph.aB,xF aK f.Places] Q dW bn bU) Q Q Q Q (aQ fun r3 hr3 => (aP.step (bQ [.agg [iC f.Graph.aG,xF aI f.Graph.aB,xF aK f.Places]] (Fw.Fn.ren [(0,24),(1,25)] (aJI f r3 hr3) Q) aDU (mO y3) J y3) z2 J Q Q (aS (LT.jg Q gy) Q Q Q (aF (Iv 0) aX (On (aC.block ?_))))))
  refine aC.nV (id := 0) (xC load) (fun s4 => ([(1,Cc (xF aH load)),(15,Cc (lo 24 s4.2.2.length)),(16,Iv s4.1),(17,Iv s4.2.1)],[(24,.ax 37 25 (af s4.2.2)),(25,.pool 3 (rowsOf aH s4.2.2))])) (fun b27 => ([],[])) (aj Try.prog Try.f21.results.toList [] [] (fun (t : Bool) => [.c (bC t)]) (fun (t : Bool) => [])) ?_ (aO.of z4 z2) Q (fun b27 _ => ?_) (by intro r t σ m ht hk; injection ht with ht; subst ht; exact hk)
  ·intro s4
   unfold xC
   refine Ws (Wr ?_)
   refine aT LT.lss y5 (On (Ws ?_))
   refine aC.cond Q (fun hc28 => ?_) (fun hc28 => ?_)
   ·refine aC.skip (Ws (aC.block (Ws (Wr ?_))))
    refine aQ fun x29 hx29 => (iK (LT.pJ Q Q iL hx29) Q Q Q Q Q (bf (LT.rE Q jR hx29 Q) Q Q Q Q (aJ (Cc (.tl 25 s4.2.1.toNat 0 x29.length)) y4 (On (Ws (Wr ?_))))))
    refine aJ (Iv 0) aX (On (Ws (Ws (Wr ?_))))
    refine aF (Cc (.tl 25 s4.2.1.toNat 0 x29.length)) y4 (aS (LT.aJ2 Q bZ) Q Q Q (aF (Iv 0) aX (On (aC.block ?_))))
    refine aC.iW (id := 2) (EQ load s4 x29) (fun qx => ([(1,Cc (xF aH load)),(7,Iv qx.1),(15,Cc (lo 24 s4.2.2.length)),(16,Iv s4.1),(17,Iv s4.2.1),(21,Cc (.tl 25 s4.2.1.toNat 0 x29.length)),(22,Iv (x29.length : Int)),(23,Iv qx.2)],[(24,.ax 37 25 (af s4.2.2)),(25,.pool 3 (rowsOf aH s4.2.2))])) (fun uQ => ([(1,Cc (xF aH load)),(7,Iv uQ.1),(15,Cc (lo 24 uQ.2.2.2.length)),(16,Iv uQ.2.1),(17,Iv uQ.2.2.1)],[(24,.ax 37 25 (af uQ.2.2.2)),(25,.pool 3 (rowsOf aH uQ.2.2.2))])) ?_ (aO.of z8 z2) Q (fun uQ _ => ?_)
    ·intro qx
     unfold EQ
     refine Ws (Wr ?_)
     refine aT LT.lss y5 (On (Ws ?_))
     refine aC.cond Q (fun hc38 => ?_) (fun hc38 => ?_)
     ·refine aC.skip (Ws (aC.block (Ws (Wr ?_))))
      refine aF (Iv qx.2) y4 (aQ fun x39 hx39 => (iK (LT.Ce Q Q dR (jM hx29) hx39) Q Q Q Q Q (bf (LT.FN (enc := aH) (j := 0) Q ay (jM hx29) hx39 (by exact Q) (by exact Q)) Q Q Q Q (aJ (Iv qx.2) y4 (aJ (Iv x39) y4 (On (Wr ?_)))))))
      refine aF (Iv qx.1) y4 (aF (Iv x39) y4 (aF (Cc (xF aH load)) y4 (aF (Iv qx.2) y4 (aQ fun x40 aGc => (dY (LT.dH (enc := aH) Q dR aGc fM) Q Q Q Q (aS (LT.fO Q ay) Q Q Q (aT LT.mul y5 (aT LT.add y5 (aJ (Iv (aA (qx.1 + (aA (x39 * x40))))) y4 (On (aC.blk ?_)))))))))))
      refine en [(1,Cc (xF aH load)),(7,Iv (aA (qx.1 + (aA (x39 * x40))))),(15,Cc (lo 24 s4.2.2.length)),(16,Iv s4.1),(17,Iv s4.2.1),(21,Cc (.tl 25 s4.2.1.toNat 0 x29.length)),(22,Iv (x29.length : Int)),(23,Iv qx.2)] [(24,.ax 37 25 (af s4.2.2)),(25,.pool 3 (rowsOf aH s4.2.2))] z8 z2 (Wr (aT LT.add aU (aF (Iv (aA (qx.2 + 1))) y4 (On (aW Q z8 z2)))))
     ·refine aC.eF Q ⟨Q,aO.of z5 z2⟩
    ·refine Ws (Wr ?_)
     refine aF (Iv uQ.1) y4 (aT LT.neq aU (On (aC.cond Q (fun zO => ?_) (fun zO => ?_))))
     ·refine Ws (Wr ?_)
      refine aJ (Bv false) aX (On (aC.ret ⟨Q,aj.mk (.inr Q) z1 J Q ⟨au.sc,J⟩ J⟩))
     ·refine aC.skip (aC.blk (Wr ?_))
      refine aT LT.add aU (aF (Iv (aA (uQ.2.2.1 + 1))) y4 (On (aW Q z4 z2)))
   ·refine aC.eF Q ⟨Q,aO.of J J⟩
  ·refine Ws (Wr ?_)
   refine aJ (Bv true) aX (On (aC.ret (aj.mk (.inr Q) z1 J Q ⟨au.sc,J⟩ J)))
theorem aJe (f : aZ) : FT Try.prog (MO f) 95 [.agg [iC f.Graph.aG,xF aI f.Graph.aB,xF aK f.Places]] [] (fun (t : (List (List Int))) => [.c (lo 0 t.length)]) (fun (t : (List (List Int))) => [(0,pR 37 (bI true) t)]) [0] := by
 refine FT.AB [] Try.func95 Try.ntmps95 Q y2 ?_
 intro w0 U0 R0 g0 hU
 unfold MO
 refine Ws (Wr ?_)
 refine fK (LT.box (n := 21) (v := (.agg [iC f.Graph.aG,xF aI f.Graph.aB,xF aK f.Places])) Q bU (by exact Q)) Q Q Q (aJ (Cc (sC ah)) aX (On (Ws (Wr ?_))))
 refine dP (LT.fZ (n := 22) (enc := (bI true)) [] ([] : List (List Int)) Q Q gy kX Q Q Q Q (by decide) (fun _ => Q) Q) Q Q (aJ (Cc (lo 22 (([] : List (List Int)).length))) y4 (On (Ws (Ws (Wr ?_)))))
 refine bf (cO [iC f.Graph.aG,xF aI f.Graph.aB,xF aK f.Places] Q dW bn bU) Q Q Q Q (aQ fun r1 hr1 => (aP.pure (bQ [.agg [iC f.Graph.aG,xF aI f.Graph.aB,xF aK f.Places]] (C9 f r1 hr1) Ar (mO y3) J y3) z2 J Q Q (aS (LT.not Q) Q Q Q (On (aC.cond Q (fun hc2 => ?_) (fun hc2 => ?_))))))
 ·refine Ws (en [(3,Cc (lo 22 (([] : List (List Int)).length)))] [(22,pR 37 (bI true) ([] : List (List Int)))] z1 z1 (Wr (aF (Cc (lo 22 (([] : List (List Int)).length))) y4 (aJ (Cc (lo 22 (([] : List (List Int)).length))) y4 (On (en [(2,Cc (lo 22 (([] : List (List Int)).length)))] [(22,pR 37 (bI true) ([] : List (List Int)))] z1 z1 (aC.ent (aO.mv 22 0 Q Q) (en [(2,Cc (lo 0 (([] : List (List Int)).length)))] [(0,pR 37 (bI true) ([] : List (List Int)))] z1 z1 (aC.ret (aj.mk (.inr Q) z1 z1 Q ⟨J,J⟩ ⟨dG.gm Bz,J⟩))))))))))
 ·refine aC.skip (Ws ?_)
  refine en [(1,Cc (.pl 21 0)),(3,Cc (lo 22 (([] : List (List Int)).length)))] [(21,.row 29 [[iC f.Graph.aG,xF aI f.Graph.aB,xF aK f.Places]]),(22,pR 37 (bI true) ([] : List (List Int)))] z2 z2 (Wr (dP (LT.fZ (n := 24) (enc := aH) [] ([] : List Int) Q Q bZ eu Q Q Q Q (by decide) (fun _ => Q) Q) Q Q (aJ (Cc (lo 24 (([] : List Int).length))) y4 (On (Ws (Wr ?_))))))
  refine dP (LT.fZ (n := 25) (enc := aH) [] ([] : List Int) Q Q bZ eu Q Q Q Q (by decide) (fun _ => Q) Q) Q Q (aJ (Cc (lo 25 (([] : List Int).length))) y4 (On (Ws (Wr ?_))))
  refine dP (LT.fZ (n := 26) (enc := aH) [] ([] : List Int) Q Q bZ eu Q Q Q Q (by decide) (fun _ => Q) Q) Q Q (aJ (Cc (lo 26 (([] : List Int).length))) y4 (On (Ws (Ws ?_))))
  refine en [(1,Cc (.pl 21 0)),(3,Cc (lo 22 (([] : List (List Int)).length))),(4,Cc (lo 24 (([] : List Int).length))),(5,Cc (lo 25 (([] : List Int).length))),(6,Cc (lo 26 (([] : List Int).length)))] [(21,.row 29 [[iC f.Graph.aG,xF aI f.Graph.aB,xF aK f.Places]]),(22,pR 37 (bI true) ([] : List (List Int))),(24,pR 3 aH ([] : List Int)),(25,pR 3 aH ([] : List Int)),(26,pR 3 aH ([] : List Int))] z5 z5 (Wr (aJ (Iv 0) aX (On (aC.block ?_))))
  refine aC.iW (id := 0) (IV f) (fun s3 => ([(1,Cc (.pl 21 0)),(3,Cc (lo 22 (([] : List (List Int)).length))),(4,Cc (lo 24 s3.2.1.length)),(5,Cc (lo 25 s3.2.2.1.length)),(6,Cc (lo 26 s3.2.2.2.length)),(7,Iv s3.1)],[(21,.row 29 [[iC f.Graph.aG,xF aI f.Graph.aB,xF aK f.Places]]),(22,pR 37 (bI true) ([] : List (List Int))),(24,pR 3 aH s3.2.1),(25,pR 3 aH s3.2.2.1),(26,pR 3 aH s3.2.2.2)])) (fun b16 => ([(3,Cc (lo 22 (([] : List (List Int)).length))),(4,Cc (lo 24 b16.1.length)),(5,Cc (lo 25 b16.2.1.length)),(6,Cc (lo 26 b16.2.2.length))],[(22,pR 37 (bI true) ([] : List (List Int))),(24,pR 3 aH b16.1),(25,pR 3 aH b16.2.1),(26,pR 3 aH b16.2.2)])) ?_ (aO.of z6 z5) Q (fun b16 _ => ?_)
  ·intro s3
   unfold IV
   refine Ws (Ws (Wr ?_))
   refine aF (Iv s3.1) y4 (fV (xF aK f.Places) iy jC bP (aS (LT.fA Q sZ) Q Q Q (aT LT.lss y5 (On (aC.cond Q (fun hc17 => ?_) (fun hc17 => ?_))))))
   ·refine aC.skip (Ws (aC.block (Ws (Wr ?_))))
    refine aF (Cc (lo 24 s3.2.1.length)) y4 (wV (LT.fZ (n := 27) (enc := aH) [(0,.const (.int .i64 1),.c (iC 1)),(1,.const (.int .i64 0),.c (iC 0))] ([1,0] : List Int) Q Q bZ eu Q Q Q Q (by decide) (fun _ => Q) Q) y2 y2 Q Q (aQ fun u18 aF4 => (nS (LT.lI (enc := aH) Q Q Q bZ eu Q (by decide) (by decide) (fun _ => Q) (jU aF4)) Q Q Q Q Q Q (aJ (Cc (lo 24 ((s3.2.1 ++ ([1,0] : List Int)).length))) y4 (On (Ws ?_))))))
    refine en [(1,Cc (.pl 21 0)),(3,Cc (lo 22 (([] : List (List Int)).length))),(4,Cc (lo 24 ((s3.2.1 ++ ([1,0] : List Int)).length))),(5,Cc (lo 25 s3.2.2.1.length)),(6,Cc (lo 26 s3.2.2.2.length)),(7,Iv s3.1)] [(21,.row 29 [[iC f.Graph.aG,xF aI f.Graph.aB,xF aK f.Places]]),(22,pR 37 (bI true) ([] : List (List Int))),(24,pR 3 aH (s3.2.1 ++ ([1,0] : List Int))),(25,pR 3 aH s3.2.2.1),(26,pR 3 aH s3.2.2.2)] z6 z5 (Wr (aF (Cc (lo 25 s3.2.2.1.length)) y4 (wV (LT.fZ (n := 28) (enc := aH) [(0,.const (.int .i64 0),.c (iC 0)),(1,.const (.int .i64 1),.c (iC 1))] ([0,1] : List Int) Q Q bZ eu Q Q Q Q (by decide) (fun _ => Q) Q) y2 y2 Q Q (aQ fun u19 aF6 => (nS (LT.lI (enc := aH) Q Q Q bZ eu Q (by decide) (by decide) (fun _ => Q) (jU aF6)) Q Q Q Q Q Q (aJ (Cc (lo 25 ((s3.2.2.1 ++ ([0,1] : List Int)).length))) y4 (On (aC.draw mixed ?_))))))))
    refine ak (Cc (lo 26 s3.2.2.2.length)) y4 (eG (xF aK f.Places) iy jC bP (ak (Iv s3.1) y4 (aN.bind fun x20 zX => (dJ (LT.dH (enc := aK) Q kG zX iH) Q Q Q Q (bJ (LT.sK Q sN) Q Q Q (bJ (LT.fO Q ay) Q Q Q (bJ (LT.neg Q) Q Q Q (eG (xF aK f.Places) iy jC bP (ak (Iv s3.1) y4 ?_)))))))))
    refine aN.bind fun x21 yJ => (dJ (LT.dH (enc := aK) Q kG yJ iH) Q Q Q Q (bJ (LT.sK Q rJ) Q Q Q (bJ (LT.fO Q ay) Q Q Q (XB (LT.fZ (n := 29) (enc := aH) [(0,.tmp 36,.c (iC (aA (-x20.Y)))),(1,.tmp 42,.c (iC x21.X))] ([aA (-x20.Y),x21.X] : List Int) Q Q bZ eu Q Q Q Q (by decide) (fun _ => Q) Q) Q Q Q Q (aN.bind fun u22 aF9 => (Jj (LT.lI (enc := aH) Q Q Q bZ eu Q (by decide) (by decide) (fun _ => Q) (jU aF9)) Q Q Q Q Q Q (bJ (LT.assign (v := (Cc (lo 26 ((s3.2.2.2 ++ ([aA (-x20.Y),x21.X] : List Int)).length)))) Q) Q Q Q (aN.nil (by kernel_rfl) (aC.blk (en [(1,Cc (.pl 21 0)),(3,Cc (lo 22 (([] : List (List Int)).length))),(4,Cc (lo 24 ((s3.2.1 ++ ([1,0] : List Int)).length))),(5,Cc (lo 25 ((s3.2.2.1 ++ ([0,1] : List Int)).length))),(6,Cc (lo 26 ((s3.2.2.2 ++ ([aA (-x20.Y),x21.X] : List Int)).length))),(7,Iv s3.1)] [(21,.row 29 [[iC f.Graph.aG,xF aI f.Graph.aB,xF aK f.Places]]),(22,pR 37 (bI true) ([] : List (List Int))),(24,pR 3 aH (s3.2.1 ++ ([1,0] : List Int))),(25,pR 3 aH (s3.2.2.1 ++ ([0,1] : List Int))),(26,pR 3 aH (s3.2.2.2 ++ ([aA (-x20.Y),x21.X] : List Int)))] z6 z5 (Wr ?_)))))))))))
    refine aF (Iv s3.1) y4 (aT LT.add aU (aJ (Iv (aA (s3.1 + 1))) y4 (On (aW Q z6 z5))))
   ·refine aC.eF Q ⟨Q,aO.of z4 z4⟩
  ·refine Ws (Wr ?_)
   refine aF (Cc (lo 22 (([] : List (List Int)).length))) y4 (aF (Cc (lo 24 b16.1.length)) y4 (aF (Cc (lo 25 b16.2.1.length)) y4 (aF (Cc (lo 26 b16.2.2.length)) y4 (aP.ent (aO.Az (enc := aH) 46 24 hU Q Q Q Q) (aP.ent (aO.Az (enc := aH) 47 25 hU Q Q Q Q) (aP.ent (aO.Az (enc := aH) 48 26 hU Q Q Q Q) (XC (LT.fZ (n := 30) (enc := (bI true)) [(0,.tmp 46,.c (xT aH b16.1)),(1,.tmp 47,.c (xT aH b16.2.1)),(2,.tmp 48,.c (xT aH b16.2.2))] [b16.1,b16.2.1,b16.2.2] Q Q gy kX Q Q Q Q (by decide) (fun _ => Q) Q) Q Q Q Q Q (aQ fun u23 KW => (nS (LT.lI (enc := (bI true)) Q Q Q gy kX Q (by decide) (by decide) (fun _ => Q) (jU KW)) Q Q Q Q Q Q (aJ (Cc (lo 22 ((([] : List (List Int)) ++ [b16.1,b16.2.1,b16.2.2]).length))) y4 (On ?_)))))))))))
   refine en [(2,Cc (lo 22 ((([] : List (List Int)) ++ [b16.1,b16.2.1,b16.2.2]).length)))] [(22,pR 37 (bI true) (([] : List (List Int)) ++ [b16.1,b16.2.1,b16.2.2]))] z1 z1 (aC.ent (aO.mv 22 0 Q Q) (en [(2,Cc (lo 0 ((([] : List (List Int)) ++ [b16.1,b16.2.1,b16.2.2]).length)))] [(0,pR 37 (bI true) (([] : List (List Int)) ++ [b16.1,b16.2.1,b16.2.2]))] z1 z1 (aC.ret (aj.mk (.inr Q) z1 z1 Q ⟨J,J⟩ ⟨dG.gm Bz,J⟩))))
theorem aJb (f : aZ) (load : (List Int)) : FT Try.prog (MJ f load) 22 [.agg [iC f.Graph.aG,xF aI f.Graph.aB,xF aK f.Places],.c (xF aH load)] [] (fun (t : Bool) => [.c (bC t)]) (fun (t : Bool) => []) [] := by
 refine FT.of [] Try.func22 Try.ntmps22 Q y2 ?_
 intro w0 U0 R0 g0
 unfold MJ
 refine Ws (Wr ?_)
 refine fK (LT.box (n := 21) (v := (.agg [iC f.Graph.aG,xF aI f.Graph.aB,xF aK f.Places])) Q bU (by exact Q)) Q Q Q (aJ (Bv false) aX (On (Ws (Ws (Wr ?_)))))
 refine bf (cO [iC f.Graph.aG,xF aI f.Graph.aB,xF aK f.Places] Q dW bn bU) Q Q Q Q (aF (Cc (xF aH load)) y4 (aQ fun r1 hr1 => (aP.pure (bQ [.agg [iC f.Graph.aG,xF aI f.Graph.aB,xF aK f.Places],.c (xF aH load)] (aCB f load r1 hr1) YA (xM y4) J y3) z3 J Q Q (aS (LT.not Q) Q Q Q (On (aC.cond Q (fun hc2 => ?_) (fun hc2 => ?_)))))))
 ·refine Ws (Wr ?_)
  refine aJ (Bv false) aX (On (aC.ret (aj.mk (.inr Q) z1 J Q ⟨au.sc,J⟩ J)))
 ·refine aC.skip (Ws (Wr ?_))
  refine bf (cO [iC f.Graph.aG,xF aI f.Graph.aB,xF aK f.Places] Q dW bn bU) Q Q Q Q (aQ fun r3 hr3 => (aP.step (bQ [.agg [iC f.Graph.aG,xF aI f.Graph.aB,xF aK f.Places]] (Fw.Fn.ren [(0,24)] (aJe f r3 hr3) Q) aDV (mO y3) J y3) z2 J Q Q (aJ (Cc (lo 24 r3.length)) y4 (On (Ws (Ws ?_))))))
  refine en [(1,Cc (xF aH load)),(5,Cc (lo 24 r3.length))] [(24,pR 37 (bI true) r3)] z2 z1 (Wr (aJ (Iv 0) aX (On (aC.block ?_))))
  refine aC.nV (id := 0) (xH load) (fun s4 => ([(1,Cc (xF aH load)),(5,Cc (lo 24 s4.2.length)),(6,Iv s4.1)],[(24,pR 37 (bI true) s4.2)])) (fun sF => ([],[])) (aj Try.prog Try.f22.results.toList [] [] (fun (t : Bool) => [.c (bC t)]) (fun (t : Bool) => [])) ?_ (aO.of z3 z1) Q (fun sF _ => ?_) (by intro r t σ m ht hk; injection ht with ht; subst ht; exact hk)
  ·intro s4
   unfold xH
   refine Ws (Ws (Wr ?_))
   refine aF (Iv s4.1) y4 (aT LT.lss aU (On (aC.cond Q (fun D8 => ?_) (fun D8 => ?_))))
   ·refine aC.skip (Ws (aC.block (Ws (Wr ?_))))
    refine aJ (Iv 0) aX (On (Ws (Ws (Wr ?_))))
    refine aJ (Iv 0) aX (On (aC.block ?_))
    refine aC.iW (id := 2) (EZ load s4) (fun qV => ([(1,Cc (xF aH load)),(5,Cc (lo 24 s4.2.length)),(6,Iv s4.1),(7,Iv qV.1),(8,Iv qV.2)],[(24,pR 37 (bI true) s4.2)])) (fun qh => ([(1,Cc (xF aH load)),(5,Cc (lo 24 qh.2.2.length)),(6,Iv qh.1),(7,Iv qh.2.1)],[(24,pR 37 (bI true) qh.2.2)])) ?_ (aO.of z5 z1) Q (fun qh _ => ?_)
    ·intro qV
     unfold EZ
     refine Ws (Ws (Wr ?_))
     refine aF (Iv qV.2) y4 (aF (Cc (xF aH load)) y4 (aS (LT.fA Q bZ) Q Q Q (aT LT.lss y5 (On (aC.cond Q (fun zO => ?_) (fun zO => ?_))))))
     ·refine aC.skip (Ws (aC.block (aC.draw mixed ?_)))
      refine ak (Iv qV.1) y4 (ak (Cc (xF aH load)) y4 (ak (Iv qV.2) y4 (aN.bind fun gZ Ky => (dJ (LT.dH (enc := aH) Q dR Ky fM) Q Q Q Q (bJ (LT.fO Q ay) Q Q Q (ak (Cc (lo 24 s4.2.length)) y4 (ak (Iv s4.1) y4 (aN.bind fun x43 zY => (je (LT.iG Q Q iL zY) Q Q Q Q Q (gQ (LT.lU (k := 0) Q jR zY (by exact Q) (by exact Q)) Q Q Q Q (ak (Iv qV.2) y4 ?_)))))))))))
      refine aN.bind fun RI aGd => (dJ (LT.dH (enc := aH) Q dR aGd fM) Q Q Q Q (bJ (LT.fO Q ay) Q Q Q (iE LT.mul y5 (iE LT.add y5 (bJ (LT.assign (v := (Iv (aA (qV.1 + (aA (gZ * RI)))))) Q) Q Q Q (aN.nil (by kernel_rfl) (aC.blk (en [(1,Cc (xF aH load)),(5,Cc (lo 24 s4.2.length)),(6,Iv s4.1),(7,Iv (aA (qV.1 + (aA (gZ * RI))))),(8,Iv qV.2)] [(24,pR 37 (bI true) s4.2)] z5 z1 (Wr (aF (Iv qV.2) y4 (aT LT.add aU ?_)))))))))))
      refine aJ (Iv (aA (qV.2 + 1))) y4 (On (aW Q z5 z1))
     ·refine aC.eF Q ⟨Q,aO.of z4 z1⟩
    ·refine Ws (Wr ?_)
     refine aF (Iv qh.2.1) y4 (aT LT.neq aU (On (aC.cond Q (fun aEl => ?_) (fun aEl => ?_))))
     ·refine Ws (Wr ?_)
      refine aJ (Bv false) aX (On (aC.ret ⟨Q,aj.mk (.inr Q) z1 J Q ⟨au.sc,J⟩ J⟩))
     ·refine aC.skip (aC.blk (Wr ?_))
      refine aF (Iv qh.1) y4 (aT LT.add aU (aJ (Iv (aA (qh.1 + 1))) y4 (On (aW Q z3 z1))))
   ·refine aC.eF Q ⟨Q,aO.of J J⟩
  ·refine Ws (Wr ?_)
   refine aJ (Bv true) aX (On (aC.ret (aj.mk (.inr Q) z1 J Q ⟨au.sc,J⟩ J)))
theorem aJi (f : aZ) : FT Try.prog (MV f) 168 [.agg [iC f.Graph.aG,xF aI f.Graph.aB,xF aK f.Places]] [] (fun (t : Int) => [.c (iC t)]) (fun (t : Int) => []) [] := by
 refine FT.of [] Try.func168 Try.ntmps168 Q y2 ?_
 intro w0 U0 R0 g0
 unfold MV
 refine Ws (Wr ?_)
 refine fK (LT.box (n := 21) (v := (.agg [iC f.Graph.aG,xF aI f.Graph.aB,xF aK f.Places])) Q bU (by exact Q)) Q Q Q (aJ (Iv 0) aX (On (Ws (Ws (Wr ?_)))))
 refine aJ (Iv 1) aX (On (aC.block ?_))
 refine aC.nV (id := 0) (Ed f) (fun s1 => ([(1,Cc (.pl 21 0)),(3,Iv s1)],[(21,.row 29 [[iC f.Graph.aG,xF aI f.Graph.aB,xF aK f.Places]])])) (fun b10 => ([],[])) (aj Try.prog Try.f168.results.toList [] [] (fun (t : Int) => [.c (iC t)]) (fun (t : Int) => [])) ?_ (aO.of z2 z1) Q (fun b10 _ => ?_) (by intro r t σ m ht hk; injection ht with ht; subst ht; exact hk)
 ·intro s1
  unfold Ed
  refine Ws (Ws (Wr ?_))
  refine aF (Iv s1) y4 (fV (xF aK f.Places) iy jC bP (aS (LT.fA Q sZ) Q Q Q (aT LT.lss y5 (On (aC.cond Q (fun rP => ?_) (fun rP => ?_))))))
  ·refine aC.skip (Ws (aC.block (Ws (aC.draw mixed ?_))))
   refine eG (xF aK f.Places) iy jC bP (ak (Iv s1) y4 (aN.bind fun x12 vW => (dJ (LT.dH (enc := aK) Q kG vW iH) Q Q Q Q (bJ (LT.lF Q rF (dK nT) (by exact iH.symm)) Q Q Q (eG (xF aK f.Places) iy jC bP (aN.bind fun jQ Ko => (dJ (LT.dH (enc := aK) Q kG Ko iH) Q y2 Q Q (bJ (LT.lF Q rF (dK nT) (by exact iH.symm)) Q Q Q (dJ (LT.VO [x12.X,x12.Y] [jQ.X,jQ.Y] Q LK Q Q) Q Q Q Q ?_)))))))))
   refine aN.nil (by kernel_rfl) (aC.cond Q (fun wu => ?_) (fun wu => ?_))
   ·refine Ws (en [] [] J J (Wr (aJ (Iv 3) aX (On (aC.ret ⟨Q,aj.mk (.inr Q) z1 J Q ⟨au.sc,J⟩ J⟩)))))
   ·refine aC.skip (aC.blk ?_)
    refine en [(1,Cc (.pl 21 0)),(3,Iv s1)] [(21,.row 29 [[iC f.Graph.aG,xF aI f.Graph.aB,xF aK f.Places]])] z2 z1 (Wr (aF (Iv s1) y4 (aT LT.add aU (aJ (Iv (aA (s1 + 1))) y4 (On (aW Q z2 z1))))))
  ·refine aC.eF Q ⟨Q,aO.of J J⟩
 ·refine Ws (Wr ?_)
  refine aJ (Iv 2) aX (On (aC.ret (aj.mk (.inr Q) z1 J Q ⟨au.sc,J⟩ J)))
theorem aJa (f : aZ) : FT Try.prog (MH f) 61 [.agg [iC f.Graph.aG,xF aI f.Graph.aB,xF aK f.Places]] [] (fun (t : Int) => [.c (iC t)]) (fun (t : Int) => []) [] := by
 refine FT.of [] Try.func61 Try.ntmps61 Q y2 ?_
 intro w0 U0 R0 g0
 unfold MH
 refine Ws (Wr ?_)
 refine fK (LT.box (n := 21) (v := (.agg [iC f.Graph.aG,xF aI f.Graph.aB,xF aK f.Places])) Q bU (by exact Q)) Q Q Q (aJ (Iv 0) aX (On (Ws (Ws (Wr ?_)))))
 refine bf (cO [iC f.Graph.aG,xF aI f.Graph.aB,xF aK f.Places] Q dW bn bU) Q Q Q Q (aQ fun r1 hr1 => (aP.pure (bQ [.agg [iC f.Graph.aG,xF aI f.Graph.aB,xF aK f.Places]] (C9 f r1 hr1) Ar (mO y3) J y3) z2 J Q Q (aS (LT.not Q) Q Q Q (On (aC.cond Q (fun hc2 => ?_) (fun hc2 => ?_))))))
 ·refine Ws (Wr ?_)
  refine aJ (Iv (-1)) aX (On (aC.ret (aj.mk (.inr Q) z1 J Q ⟨au.sc,J⟩ J)))
 ·refine aC.skip (Ws (Wr ?_))
  refine bf (cO [iC f.Graph.aG,xF aI f.Graph.aB,xF aK f.Places] Q dW bn bU) Q Q Q Q (aQ fun r3 hr3 => (aP.step (bQ [.agg [iC f.Graph.aG,xF aI f.Graph.aB,xF aK f.Places]] (Fw.Fn.ren [(0,24)] (aB8 f r3 hr3) Q) Xo (mO y3) J y3) z2 J Q Q (aQ fun r4 hr4 => (aP.step (cF [.c (lo 24 r3.length)] [(24,pR 37 (bI true) r3)] (Fw.Fn.ren [(0,26),(1,27)] (aCI r3 r4 hr4) Q) Xn (.cons (.c (.weak (.iZ (enc := bI true) Q Q) (QW.kN aAs (fun h => h) _))) .nil) J y3) z2 z1 Q Q (aF (.dO [.c (lo 26 r4.1.length),.c (lo 27 r4.2.length)]) y4 (aS (LT.extract (v := (.c (lo 26 r4.1.length))) Q (by exact Q)) Q Q Q (aS (LT.extract (v := (.c (lo 27 r4.2.length))) Q (by exact Q)) Q Q Q (aJ (Cc (lo 26 r4.1.length)) y4 (aJ (Cc (lo 27 r4.2.length)) y4 (On (Ws ?_)))))))))))
  refine en [(4,Cc (lo 27 r4.2.length))] [(27,pR 3 aH r4.2)] z1 z1 (Wr (aF (Cc (lo 27 r4.2.length)) y4 (aS (LT.jg Q bZ) Q Q Q (aJ (Iv (r4.2.length : Int)) y4 (On (aC.ret (aj.mk (.inr Q) z1 J Q ⟨au.sc,J⟩ J)))))))
theorem aJZ (f : aZ) : FT Try.prog (MG f) 96 [.agg [iC f.Graph.aG,xF aI f.Graph.aB,xF aK f.Places]] [] (fun (t : Int) => [.c (iC t)]) (fun (t : Int) => []) [] := by
 refine FT.of [] Try.func96 Try.ntmps96 Q y2 ?_
 intro w0 U0 R0 g0
 unfold MG
 refine Ws (Wr ?_)
 refine fK (LT.box (n := 21) (v := (.agg [iC f.Graph.aG,xF aI f.Graph.aB,xF aK f.Places])) Q bU (by exact Q)) Q Q Q (aJ (Iv 0) aX (On (Ws (Ws (Wr ?_)))))
 refine bf (cO [iC f.Graph.aG,xF aI f.Graph.aB,xF aK f.Places] Q dW bn bU) Q Q Q Q (aQ fun r1 hr1 => (aP.pure (bQ [.agg [iC f.Graph.aG,xF aI f.Graph.aB,xF aK f.Places]] (C9 f r1 hr1) Ar (mO y3) J y3) z2 J Q Q (aS (LT.not Q) Q Q Q (On (aC.cond Q (fun hc2 => ?_) (fun hc2 => ?_))))))
 ·refine Ws (Wr ?_)
  refine aJ (Iv (-1)) aX (On (aC.ret (aj.mk (.inr Q) z1 J Q ⟨au.sc,J⟩ J)))
 ·refine aC.skip (Ws (aC.draw mixed ?_))
  refine bJ (LT.gV Q jm) Q Q Q (eG (iC f.Graph.aG) mQ ay bP (iE LT.mul nP (gQ (cO [iC f.Graph.aG,xF aI f.Graph.aB,xF aK f.Places] Q dW bn bU) Q Q Q Q (aN.bind fun r3 hr3 => (aN.pure (bQ [.agg [iC f.Graph.aG,xF aI f.Graph.aB,xF aK f.Places]] (aJi f r3 hr3) aC9 (mO y3) J y3) z2 J Q Q (iE LT.sub y5 (gQ (cO [iC f.Graph.aG,xF aI f.Graph.aB,xF aK f.Places] Q dW bn bU) Q Q Q Q (aN.bind fun r4 hr4 => (aN.pure (bQ [.agg [iC f.Graph.aG,xF aI f.Graph.aB,xF aK f.Places]] (aJa f r4 hr4) aDR (mO y3) J y3) z2 J Q Q (iE LT.sub y5 ?_))))))))))
  refine bJ (LT.assign (v := (Iv (aA ((aA ((aA (2 * f.Graph.aG)) - r3)) - r4)))) Q) Q Q Q (aN.nil (by kernel_rfl) (aC.ret (aj.mk (.inr Q) z1 J Q ⟨au.sc,J⟩ J)))
end Go.Proofs.Ytdmlaldifbmkpaa
end
