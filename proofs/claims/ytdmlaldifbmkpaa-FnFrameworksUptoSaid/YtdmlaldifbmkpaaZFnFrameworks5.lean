/- Parts of a proof that a law of the program holds: what the program computes, and why that is right. -/
import Derived.Test.YtdmlaldifbmkpaaZFnFrameworks4
set_option linter.unusedVariables false
set_option linter.unusedSimpArgs false
set_option linter.unnecessarySimpa false
set_option maxRecDepth 100000
set_option maxHeartbeats 8000000
section
open Go Go.Fw
namespace Go.Proofs.Ytdmlaldifbmkpaa
theorem aC8 (f:aW) (a:Int) (b:Int):FT Try.prog (IX f a b) 130 [.agg (ay f),.c (iC a),.c (iC b)] [] (fun (t:Int) => [.c (iC t)]) (fun (t:Int) => []) []:=by
 refine FT.of [] Try.func130 Try.ntmps130 Q y2 ?_
 intro w0 U0 R0 g0
 unfold IX
 refine Ws (Wr ?_)
 refine fZ 21 (.agg (ay f)) ai y5 (aI (Iv 0) ak (On (Ws (aC.draw mixed ?_))))
 refine dw (xF aJ f.Places) fJ fV bI (aY (Iv a) y4 (aN.bind fun x1 hx1 => (bQ (LT.dZ (enc:=aJ) Q jD hx1 bf) Q Q Q Q (bH (LT.pF Q kV) Q Q Q (bH (LT.iq Q bK) Q Q Q (dw (xF aJ f.Places) fJ fV bI (aY (Iv b) y4 (aN.bind fun x2 hx2 => (bQ (LT.dZ (enc:=aJ) Q jD hx2 bf) Q Q Q Q ?_)))))))))
 refine bH (LT.pF Q kV) Q Q Q (bH (LT.iq Q bK) Q Q Q (jS LT.sub y5 (dw (xF aJ f.Places) fJ fV bI (aY (Iv a) y4 (aN.bind fun x3 hx3 => (bQ (LT.dZ (enc:=aJ) Q jD hx3 bf) Q Q Q Q (bH (LT.pF Q lq) Q Q Q (bH (LT.iq Q bK) Q Q Q (dw (xF aJ f.Places) fJ fV bI ?_)))))))))
 refine aY (Iv b) y4 (aN.bind fun x4 hx4 => (bQ (LT.dZ (enc:=aJ) Q jD hx4 bf) Q Q Q Q (bH (LT.pF Q lq) Q Q Q (bH (LT.iq Q bK) Q Q Q (jS LT.sub y5 (bH (LT.assign (v:=(Iv (aB (x1.X - x2.X)))) Q) Q Q Q (bH (LT.assign (v:=(Iv (aB (x3.Y - x4.Y)))) Q) Q Q Q (dF (Ws (en [(7,Iv (aB (x1.X - x2.X))),(8,Iv (aB (x3.Y - x4.Y)))] [] z2 J (Wr ?_)))))))))))
 refine aG (Iv (aB (x1.X - x2.X))) y4 (aG (Iv (aB (x1.X - x2.X))) y4 (aZ LT.mul y5 (aG (Iv (aB (x3.Y - x4.Y))) y4 (aG (Iv (aB (x3.Y - x4.Y))) y4 (aZ LT.mul y5 (aZ LT.add y5 (aI (Iv (aB ((aB ((aB (x1.X - x2.X)) * (aB (x1.X - x2.X)))) + (aB ((aB (x3.Y - x4.Y)) * (aB (x3.Y - x4.Y))))))) y4 (On (bT z1 J ⟨ah.sc,J⟩ J)))))))))
theorem YG (f:aW):FT Try.prog (Ez f) 55 [.agg (ay f)] [] (fun (t:(List Int)) => [.c (lo 0 t.length)]) (fun (t:(List Int)) => [(0,pR 3 aQ t)]) [0]:=by
 refine FT.of [] Try.func55 Try.ntmps55 Q y2 ?_
 intro w0 U0 R0 g0
 unfold Ez
 refine Ws (Wr ?_)
 refine fZ 21 (.agg (ay f)) ai y5 (aI (Cc (sC aO)) ak (On (Ws (Wr ?_))))
 refine ny (gy 22 aQ [] [] iK lG y7) Q Q (aI (Cc (lo 22 (([]:List Int).length))) y4 (On (Ws (Ws (Wr ?_)))))
 refine cZ (bD (ay f) Q bP ax ai) Q Q Q Q (aU fun r1 hr1 => (jC [.agg (ay f)] (vW f r1 hr1) vI (jd y3) y5 z2 (au (LT.not Q) Q Q Q (On (aC.cond Q (fun hc2 => ?_) (fun hc2 => ?_))))))
 ·refine Ws (en [(3,Cc (lo 22 (([]:List Int).length)))] [(22,pR 3 aQ ([]:List Int))] z1 z1 (Wr (aG (Cc (lo 22 (([]:List Int).length))) y4 (aI (Cc (lo 22 (([]:List Int).length))) y4 (On (en [(2,Cc (lo 22 (([]:List Int).length)))] [(22,pR 3 aQ ([]:List Int))] z1 z1 (aC.ent (aj.mv 22 0 Q Q) (en [(2,Cc (lo 0 (([]:List Int).length)))] [(0,pR 3 aQ ([]:List Int))] z1 z1 (bT z1 z1 ⟨J,J⟩ ⟨bg.dO rY,J⟩)))))))))
 ·refine aC.skip (Ws (Ws ?_))
  refine en [(1,Cc (.pl 21 0)),(3,Cc (lo 22 (([]:List Int).length)))] [(21,.row 29 [ay f]),(22,pR 3 aQ ([]:List Int))] z2 z2 (Wr (au (LT.eu Q jv) Q Q Q (dR (xF aK f.Graph.aA) gq iQ bI (au (LT.gB Q iU) Q Q Q (aG (Iv 0) ak (On (aC.block ?_)))))))
  refine aC.jP (id:=0) (Ig f) (fun s3 => ([(1,Cc (.pl 21 0)),(3,Cc (lo 22 s3.2.length)),(13,Cc (xF aK f.Graph.aA)),(14,Iv (f.Graph.aA.length:Int)),(15,Iv s3.1)],[(21,.row 29 [ay f]),(22,pR 3 aQ s3.2)])) (fun b12 => ([(3,Cc (lo 22 b12.length))],[(22,pR 3 aQ b12)])) ?_ (aj.of z5 z2) Q (fun b12 _ => ?_)
  ·intro s3
   unfold Ig
   refine Ws (Wr ?_)
   refine aZ LT.lss y5 (On (Ws ?_))
   refine aC.cond Q (fun hc13 => ?_) (fun hc13 => ?_)
   ·refine aC.skip (Ws (aC.block (Ws (Wr ?_))))
    refine aU fun x14 yI => (dU (LT.dZ (enc:=aK) Q oL yI fG) Q Q Q Q (au (kC Q lU jW fG) Q Q Q (dQ 24 [iC 0,iC 0] jQ y6 (dA (stA [iC x14.A,iC x14.B] Q Q jW fG) Q Q Q Q Q (On (Wr ?_))))))
    refine aG (Cc (lo 22 s3.2.length)) y4 (cZ (bD (ay f) Q bP ax ai) Q Q Q Q (dR (iC x14.A) mZ bK bI (dR (iC x14.B) nS bK bI (aU fun iT yF => (jC [.agg (ay f),.c (iC x14.A),.c (iC x14.B)] (aC8 f x14.A x14.B iT yF) Yy (aCS y5) y5 z4 (oC (gy 26 aQ [(0,.tmp 25,.c (iC iT))] ([iT]:List Int) iK lG y7) Q Q Q (aU fun u16 WC => (oW (LT.ng (enc:=aQ) Q Q Q iK lG Q (by decide) (by decide) (fun _ => Q) (jw WC)) Q Q Q Q Q Q (aI (Cc (lo 22 ((s3.2 ++ ([iT]:List Int)).length))) y4 ?_)))))))))
    refine On (aC.blk ?_)
    refine en [(1,Cc (.pl 21 0)),(3,Cc (lo 22 ((s3.2 ++ ([iT]:List Int)).length))),(13,Cc (xF aK f.Graph.aA)),(14,Iv (f.Graph.aA.length:Int)),(15,Iv s3.1)] [(21,.row 29 [ay f]),(22,pR 3 aQ (s3.2 ++ ([iT]:List Int)))] z5 z2 (Wr (aZ LT.add aP (aG (Iv (aB (s3.1 + 1))) y4 (On (aX Q z5 z2)))))
   ·refine gJ y2 z1 z1
  ·refine Ws (Wr ?_)
   refine aG (Cc (lo 22 b12.length)) y4 (aI (Cc (lo 22 b12.length)) y4 (On (en [(2,Cc (lo 22 b12.length))] [(22,pR 3 aQ b12)] z1 z1 (aC.ent (aj.mv 22 0 Q Q) (en [(2,Cc (lo 0 b12.length))] [(0,pR 3 aQ b12)] z1 z1 (bT z1 z1 ⟨J,J⟩ ⟨bg.dO rY,J⟩))))))
theorem aDE (jF:(List Int)) (kF:(List Int)):FT Try.prog (Iy jF kF) 132 [.c (xF aQ jF),.c (xF aQ kF)] [] (fun (t:Bool) => [.c (bC t)]) (fun (t:Bool) => []) []:=by
 refine FT.of [] Try.func132 Try.ntmps132 Q y2 ?_
 intro w0 U0 R0 g0
 unfold Iy
 refine Ws (Wr ?_)
 refine aI (Bv false) ak (On (Ws (Ws (Wr ?_))))
 refine aG (Cc (xF aQ jF)) y4 (au (LT.gB Q iK) Q Q Q (aG (Cc (xF aQ kF)) y4 (au (LT.gB Q iK) Q Q Q (aZ LT.neq y5 (On (aC.cond Q (fun hc1 => ?_) (fun hc1 => ?_)))))))
 ·refine Ws (Wr ?_)
  refine aI (Bv false) ak (On (bT z1 J ⟨ah.sc,J⟩ J))
 ·refine aC.skip (Ws (Ws (Wr ?_)))
  refine aG (Cc (xF aQ jF)) y4 (au (LT.gB Q iK) Q Q Q (aG (Iv 0) ak (On (aC.block ?_))))
  refine aC.ql (id:=0) (NT jF kF) (fun s2 => ([(0,Cc (xF aQ jF)),(1,Cc (xF aQ kF)),(12,Iv (jF.length:Int)),(13,Iv s2)],[])) (fun b11 => ([],[])) (lI Try.prog Try.f132.results.toList [] [] (fun (t:Bool) => [.c (bC t)]) (fun (t:Bool) => [])) ?_ (aj.of z4 J) Q (fun b11 _ => ?_) qj
  ·intro s2
   unfold NT
   refine Ws (Wr ?_)
   refine aZ LT.lss y5 (On (Ws ?_))
   refine aC.cond Q (fun hc12 => ?_) (fun hc12 => ?_)
   ·refine aC.skip (Ws (aC.block (Ws (Wr ?_))))
    refine aG (Iv s2) y4 (aI (Iv s2) y4 (On (Ws (aC.draw mixed ?_))))
    refine aY (Cc (xF aQ jF)) y4 (aY (Iv s2) y4 (aN.bind fun oU xA => (bQ (LT.dZ (enc:=aQ) Q lJ xA jq) Q Q Q Q (bH (LT.iq Q bK) Q Q Q (aY (Cc (xF aQ kF)) y4 (aY (Iv s2) y4 (aN.bind fun x14 yI => (bQ (LT.dZ (enc:=aQ) Q lJ yI jq) Q Q Q Q (bH (LT.iq Q bK) Q Q Q (jS LT.neq y5 (dF ?_)))))))))))
    refine aC.cond Q (fun rW => ?_) (fun rW => ?_)
    ·refine Ws (en [] [] J J (Wr (aI (Bv false) ak (On (aC.ret ⟨Q,qc z1 J ⟨ah.sc,J⟩ J⟩)))))
    ·refine aC.skip (aC.blk ?_)
     refine en [(0,Cc (xF aQ jF)),(1,Cc (xF aQ kF)),(12,Iv (jF.length:Int)),(13,Iv s2)] [] z4 J (Wr (aZ LT.add aP (aG (Iv (aB (s2 + 1))) y4 (On (aX Q z4 J)))))
   ·refine gJ y2 J J
  ·refine Ws (Wr ?_)
   refine aI (Bv true) ak (On (bT z1 J ⟨ah.sc,J⟩ J))
theorem Tt (a:aW) (b:aW):FT Try.prog (CQ a b) 59 [.agg (ay a),.agg (ay b)] [] (fun (t:Bool) => [.c (bC t)]) (fun (t:Bool) => []) []:=by
 refine FT.of [] Try.func59 Try.ntmps59 Q y2 ?_
 intro w0 U0 R0 g0
 unfold CQ
 refine Ws (Wr ?_)
 refine fZ 21 (.agg (ay a)) ai y5 (fZ 22 (.agg (ay b)) ai y5 (aI (Bv false) ak (On (Ws ?_))))
 refine aC.eG (fun j10 => ([(4,Bv j10)],[])) ?_ (fun j10 _ => ?_)
 ·refine aC.draw mixed (bV (bD (ay a) Q bP ax ai) Q Q Q Q (aN.bind fun r11 wH => (aN.pure (bU [.agg (ay a)] (vW a r11 wH) vI (jd y3) J y3) z2 J Q Q (aY (Bv r11) y4 (aN.split (fun oG => ?_) (fun oG => ?_))))))
  ·refine bV (bD (ay b) Q bP ax ai) Q Q (gH oG Q Q) Q (aN.bind fun r13 uo => (aN.pure (bU [.agg (ay b)] (vW b r13 uo) vI (jd y3) J y3) z2 J (gH oG Q Q) Q (gW (Bv r13) oG y5 (aY (Bv r13) y4 (aN.split (fun gV => ?_) (fun gV => ?_))))))
   ·refine bH (LT.eu Q jv) Q (gH gV Q Q) Q (bV (bD (dI a.Graph) Q iI dX dM) Q Q (gH gV Q Q) Q (bH (LT.eu Q jv) Q (gH gV Q Q) Q (bV (bD (dI b.Graph) Q iI dX dM) Q Q (gH gV Q Q) Q (aN.bind fun iT yF => (aN.pure (bU [.agg (dI a.Graph),.agg (dI b.Graph)] (aC4 a.Graph b.Graph iT yF) Yz (DX y4) J y3) z3 J (gH gV Q Q) Q (gW (Bv iT) gV y5 (aY (Bv iT) y4 (aN.split (fun hb16 => ?_) (fun hb16 => ?_)))))))))
    ·refine bV (bD (ay a) Q bP ax ai) Q Q (gH hb16 Q Q) Q (aN.bind fun kL AY => (aN.step (bU [.agg (ay a)] (Fw.Fn.ren [(0,27)] (YG a kL AY) Q) Ug (jd y3) J y3) z2 J (gH hb16 Q Q) Q (bV (bD (ay b) Q bP ax ai) Q Q (gH hb16 Q Q) Q (aN.bind fun oP Lm => (aN.step (bU [.agg (ay b)] (Fw.Fn.ren [(0,29)] (YG b oP Lm) Q) Ug (jd y3) J y3) z2 J (gH hb16 Q Q) Q (aN.bind fun pV Ed => (aN.pure (cF [.c (lo 27 kL.length),.c (lo 29 oP.length)] [(27,pR 3 aQ kL),(29,pR 3 aQ oP)] (aDE kL oP pV Ed) Y0 (.cons (.c (.dG Q Q)) (.cons (.c (.dG Q Q)) .nil)) J y3) z3 z2 (gH hb16 Q Q) Q (gW (Bv pV) hb16 y5 (bH (LT.assign (v:=(Bv pV)) Q) Q Q Q (dF (aX Q z1 J)))))))))))
    ·refine aS hb16 y3 (aS hb16 y3 (aS hb16 y3 (aS hb16 y3 (aS hb16 y3 (dD (Bv false) hb16 aP (bH (LT.assign (v:=(Bv false)) Q) Q Q Q (dF (aX Q z1 J))))))))
   ·refine aS gV y3 (aS gV y3 (aS gV y3 (aS gV y3 (aS gV y3 (dD (Bv false) gV aP (aY (Bv false) y4 (aH y3 (aH y3 (aH y3 (aH y3 (aH y3 ?_)))))))))))
    refine dD (Bv false) Q aP (bH (LT.assign (v:=(Bv false)) Q) Q Q Q (dF (aX Q z1 J)))
  ·refine aS oG y3 (aS oG y3 (dD (Bv false) oG aP (aY (Bv false) y4 (aH y3 (aH y3 (aH y3 (aH y3 (aH y3 (dD (Bv false) Q aP (aY (Bv false) y4 (aH y3 ?_)))))))))))
   refine aH y3 (aH y3 (aH y3 (aH y3 (dD (Bv false) Q aP (bH (LT.assign (v:=(Bv false)) Q) Q Q Q (dF (aX Q z1 J)))))))
 ·refine bT z1 J ⟨ah.sc,J⟩ J
theorem aKj (code:(List Int)):FT Try.prog (Nh code) 48 [.c (xT bn code)] [] (fun (t:aW) => [.agg [iC t.Graph.aF,lo 0 t.Graph.aA.length,xT aJ t.Places]]) (fun (t:aW) => [(0,pR 96 aK t.Graph.aA)]) [0]:=by
 refine FT.of [] Try.func48 Try.ntmps48 Q y2 ?_
 intro w0 U0 R0 g0
 unfold Nh
 refine Ws (Wr ?_)
 refine dQ 21 [iC 0,sC aO,sC aO] iG y6 (On (Ws (Wr ?_)))
 refine aG (Cc (xT bn code)) y4 (aU fun r1 hr1 => (aT.step (bU [.c (xT bn code)] (Fw.Fn.ren [(0,23)] (KD code r1 hr1) Q) Gu (iF Q) J y3) z2 J Q Q (aU fun r2 hr2 => (aT.step (bU [.c (.pl 23 0)] (Fw.Fn.ren [(0,23),(1,25)] (F5 r1 r2 hr2) Q) EH (iF Q) z1 y3) z2 z1 Q Q (dA (stA [iC r2.1.Graph.aF,lo 25 r2.1.Graph.aA.length,xT aJ r2.1.Places] Q Q ax ai) Q Q Q Q Q (On (en [(2,Cc (.pl 21 0))] [(21,.row 29 [[iC r2.1.Graph.aF,lo 25 r2.1.Graph.aA.length,xT aJ r2.1.Places]]),(25,pR 96 aK r2.1.Graph.aA)] z1 z2 (aC.ent (aj.mv 25 0 Q Q) (en [(2,Cc (.pl 21 0))] [(0,pR 96 aK r2.1.Graph.aA),(21,.row 29 [[iC r2.1.Graph.aF,lo 0 r2.1.Graph.aA.length,xT aJ r2.1.Places]])] z1 z2 (bT ⟨⟨_,_,_,Q,Q,Q,bP,ai,_,fE ax⟩,J⟩ z1 ⟨⟨ah.sc,J,kK jo,J⟩,J⟩ ⟨bg.dO iP,J⟩))))))))))
theorem aKO (p:bG):FT Try.prog (Ri p) 125 [.agg [iC p.X,iC p.Y]] [] (fun (t:bG) => [.agg [iC t.X,iC t.Y]]) (fun (t:bG) => []) []:=by
 refine FT.of [] Try.func125 Try.ntmps125 Q y2 ?_
 intro w0 U0 R0 g0
 unfold Ri
 refine Ws (Wr ?_)
 refine fZ 21 (.agg [iC p.X,iC p.Y]) bf y5 (dQ 22 [iC 0,iC 0] kM y6 (On (Ws (Wr ?_))))
 refine dR (iC p.Y) lq bK bI (aZ LT.sub oQ (dR (iC p.X) kV bK bI (dU (LT.build [(0,.tmp 5,.c (iC (aB (4 - p.Y)))),(1,.tmp 7,.c (iC p.X))] Q Q FZ kM Q Q Q) Q Q Q Q (dA (stA [iC (aB (4 - p.Y)),iC p.X] Q Q dS bf) Q Q Q Q Q (On (bT ⟨⟨_,_,_,Q,Q,Q,gI,bf,_,fE dS⟩,J⟩ J ⟨⟨ah.sc,ah.sc,J⟩,J⟩ J))))))
theorem aKU (f:aW):FT Try.prog (Rk f) 124 [.agg (ay f),.c (.fn 125 [])] [] (fun (t:aW) => [.agg [iC t.Graph.aF,lo 0 t.Graph.aA.length,lo 1 t.Places.length]]) (fun (t:aW) => [(0,pR 96 aK t.Graph.aA),(1,pR 82 aJ t.Places)]) [0,1]:=by
 refine FT.of [] Try.func124 Try.ntmps124 Q y2 ?_
 intro w0 U0 R0 g0
 unfold Rk
 refine Ws (Wr ?_)
 refine fZ 21 (.agg (ay f)) ai y5 (dQ 22 [iC 0,sC aO,sC aO] iG y6 (On (Ws (Wr ?_))))
 refine cZ (bD (ay f) Q bP ax ai) Q Q Q Q (aU fun r1 hr1 => (aT.step (bU [.agg (ay f)] (Fw.Fn.ren [(0,24),(1,25)] (Tv f r1 hr1) Q) QD (jd y3) J y3) z2 J Q Q (dQ 26 [iC 0,sC aO,sC aO] iG y6 (dA (stA [iC r1.Graph.aF,lo 24 r1.Graph.aA.length,lo 25 r1.Places.length] Q Q ax ai) Q Q Q Q Q (On (Ws (Ws ?_)))))))
 refine en [(1,Cc (.fn 125 [])),(2,Cc (.pl 21 0)),(4,Cc (.pl 22 0)),(5,Cc (.pl 26 0))] [(21,.row 29 [ay f]),(22,.row 29 [[iC 0,sC aO,sC aO]]),(24,pR 96 aK r1.Graph.aA),(25,pR 82 aJ r1.Places),(26,.row 29 [[iC r1.Graph.aF,lo 24 r1.Graph.aA.length,lo 25 r1.Places.length]])] z4 z5 (Wr (cZ (bD (ay f) Q bP ax ai) Q Q Q Q (aU fun r2 hr2 => (jC [.agg (ay f)] (vW f r2 hr2) vI (jd y3) y5 z2 (On (aC.eG (fun j14 => ([(4,Cc (.pl 22 0)),(5,Cc (.pl 26 0))],[(22,.row 29 [[iC 0,sC aO,sC aO]]),(24,pR 96 aK j14.2.1),(25,pR 82 aJ j14.2.2),(26,.row 29 [[iC j14.1,lo 24 j14.2.1.length,lo 25 j14.2.2.length]])])) ?_ (fun j14 _ => ?_)))))))
 ·refine aC.cond Q (fun rW => ?_) (fun rW => ?_)
  ·refine Ws (Wr ?_)
   refine dR (xF aJ f.Places) fJ fV bI (au (LT.gB Q lQ) Q Q Q (aG (Iv 0) ak (On (aC.block ?_))))
   refine aC.jP (id:=0) (Io f r1) (fun s16 => ([(1,Cc (.fn 125 [])),(4,Cc (.pl 22 0)),(5,Cc (.pl 26 0)),(13,Cc (xF aJ f.Places)),(14,Iv (f.Places.length:Int)),(15,Iv s16.1)],[(22,.row 29 [[iC 0,sC aO,sC aO]]),(24,pR 96 aK r1.Graph.aA),(25,pR 82 aJ s16.2),(26,.row 29 [[iC r1.Graph.aF,lo 24 r1.Graph.aA.length,lo 25 s16.2.length]])])) (fun b25 => ([(4,Cc (.pl 22 0)),(5,Cc (.pl 26 0))],[(22,.row 29 [[iC 0,sC aO,sC aO]]),(24,pR 96 aK b25.1),(25,pR 82 aJ b25.2.1),(26,.row 29 [[iC b25.2.2,lo 24 b25.1.length,lo 25 b25.2.1.length]])])) ?_ (aj.of z6 z4) Q (fun b25 _ => ?_)
   ·intro s16
    unfold Io
    refine Ws (Wr ?_)
    refine aZ LT.lss y5 (On (Ws ?_))
    refine aC.cond Q (fun VX => ?_) (fun VX => ?_)
    ·refine aC.skip (Ws (aC.block (Ws (Wr ?_))))
     refine aG (Iv s16.1) y4 (aU fun x27 hx27 => (dU (LT.dZ (enc:=aJ) Q jD hx27 bf) Q Q Q Q (au (kC Q gI dS bf) Q Q Q (dQ 28 [iC 0,iC 0] kM y6 (aI (Iv s16.1) y4 (dA (stA [iC x27.X,iC x27.Y] Q Q dS bf) Q Q Q Q Q (On (en [(1,Cc (.fn 125 [])),(4,Cc (.pl 22 0)),(5,Cc (.pl 26 0)),(6,Iv s16.1),(7,Cc (.pl 28 0)),(13,Cc (xF aJ f.Places)),(14,Iv (f.Places.length:Int)),(15,Iv s16.1)] [(22,.row 29 [[iC 0,sC aO,sC aO]]),(24,pR 96 aK r1.Graph.aA),(25,pR 82 aJ s16.2),(26,.row 29 [[iC r1.Graph.aF,lo 24 r1.Graph.aA.length,lo 25 s16.2.length]]),(28,.row 82 [[iC x27.X,iC x27.Y]])] z8 z5 (aC.draw mixed (dw (lo 25 s16.2.length) fJ fV bI ?_))))))))))
     refine aY (Iv s16.1) y4 (aY (Cc (.fn 125 [])) y4 (bV (bD [iC x27.X,iC x27.Y] Q gI dS bf) Q Q Q Q (aN.bind fun r28 Ef => (aN.pure (bU [.agg [iC x27.X,iC x27.Y]] (aKO x27 r28 Ef) aD0 (qV y2) J y3) z2 J Q Q (aN.bind fun x29 hx29 => (kJ (LT.iW Q Q jD hx29) Q Q Q Q Q (iY (qW 0 (.agg [iC r28.X,iC r28.Y]) r28 Q Q dS bf hx29) Q Q Q Q Q (dF (aC.blk (Wr ?_))))))))))
     refine aZ LT.add aP (aG (Iv (aB (s16.1 + 1))) y4 (On (aC.nil ⟨Q,aj.of z6 ⟨Q,Q,Q,congrArg (fun l1 => (some (Ob.row 29 [[iC r1.Graph.aF,lo 24 r1.Graph.aA.length,lo 25 l1]]):Option Ob)) (show s16.2.length = (s16.2.set s16.1.toNat r28).length by simp only [List.length_set]),J⟩⟩)))
    ·refine gJ y2 z2 z4
   ·refine aX Q z2 z4
  ·refine aC.skip (aX Q z2 z4)
 ·refine Ws (Wr ?_)
  refine cZ (bD [iC j14.1,lo 24 j14.2.1.length,lo 25 j14.2.2.length] Q bP ax ai) Q Q Q Q (dA (stA [iC j14.1,lo 24 j14.2.1.length,lo 25 j14.2.2.length] Q Q ax ai) Q Q Q Q Q (On (en [(4,Cc (.pl 22 0))] [(22,.row 29 [[iC j14.1,lo 24 j14.2.1.length,lo 25 j14.2.2.length]]),(24,pR 96 aK j14.2.1),(25,pR 82 aJ j14.2.2)] z1 z3 (aC.ent (aj.mv 24 0 Q Q) (aC.ent (aj.mv 25 1 Q Q) (en [(4,Cc (.pl 22 0))] [(0,pR 96 aK j14.2.1),(1,pR 82 aJ j14.2.2),(22,.row 29 [[iC j14.1,lo 0 j14.2.1.length,lo 1 j14.2.2.length]])] z1 z3 (bT ⟨⟨_,_,_,Q,Q,Q,bP,ai,_,fE ax⟩,J⟩ z2 ⟨⟨ah.sc,J,J,J⟩,J⟩ ⟨bg.dO iP,bg.dO jo,J⟩)))))))
theorem aKN (f:aW):FT Try.prog (NM f) 49 [.agg (ay f)] [] (fun (t:aW) => [.agg [iC t.Graph.aF,lo 0 t.Graph.aA.length,lo 1 t.Places.length]]) (fun (t:aW) => [(0,pR 96 aK t.Graph.aA),(1,pR 82 aJ t.Places)]) [0,1]:=by
 refine FT.of [] Try.func49 Try.ntmps49 Q y2 ?_
 intro w0 U0 R0 g0
 unfold NM
 refine Ws (Wr ?_)
 refine fZ 21 (.agg (ay f)) ai y5 (dQ 22 [iC 0,sC aO,sC aO] iG y6 (On (Ws (Wr ?_))))
 refine cZ (bD (ay f) Q bP ax ai) Q Q Q Q (aU fun r1 hr1 => (aT.step (bU [.agg (ay f),.c (.fn 125 [])] (Fw.Fn.ren [(0,24),(1,25)] (aKU f r1 hr1) Q) Yv (aCR y4) J y3) z3 J Q Q (dA (stA [iC r1.Graph.aF,lo 24 r1.Graph.aA.length,lo 25 r1.Places.length] Q Q ax ai) Q Q Q Q Q (On (en [(2,Cc (.pl 22 0))] [(22,.row 29 [[iC r1.Graph.aF,lo 24 r1.Graph.aA.length,lo 25 r1.Places.length]]),(24,pR 96 aK r1.Graph.aA),(25,pR 82 aJ r1.Places)] z1 z3 (aC.ent (aj.mv 24 0 Q Q) (aC.ent (aj.mv 25 1 Q Q) (en [(2,Cc (.pl 22 0))] [(0,pR 96 aK r1.Graph.aA),(1,pR 82 aJ r1.Places),(22,.row 29 [[iC r1.Graph.aF,lo 0 r1.Graph.aA.length,lo 1 r1.Places.length]])] z1 z3 (bT ⟨⟨_,_,_,Q,Q,Q,bP,ai,_,fE ax⟩,J⟩ z2 ⟨⟨ah.sc,J,J,J⟩,J⟩ ⟨bg.dO iP,bg.dO jo,J⟩)))))))))
theorem aKJ (p:bG):FT Try.prog (Rh p) 126 [.agg [iC p.X,iC p.Y]] [] (fun (t:bG) => [.agg [iC t.X,iC t.Y]]) (fun (t:bG) => []) []:=by
 refine FT.of [] Try.func126 Try.ntmps126 Q y2 ?_
 intro w0 U0 R0 g0
 unfold Rh
 refine Ws (Wr ?_)
 refine fZ 21 (.agg [iC p.X,iC p.Y]) bf y5 (dQ 22 [iC 0,iC 0] kM y6 (On (Ws (Wr ?_))))
 refine dR (iC p.X) kV bK bI (aZ LT.sub oQ (dR (iC p.Y) lq bK bI (dU (LT.build [(0,.tmp 5,.c (iC (aB (4 - p.X)))),(1,.tmp 7,.c (iC p.Y))] Q Q FZ kM Q Q Q) Q Q Q Q (dA (stA [iC (aB (4 - p.X)),iC p.Y] Q Q dS bf) Q Q Q Q Q (On (bT ⟨⟨_,_,_,Q,Q,Q,gI,bf,_,fE dS⟩,J⟩ J ⟨⟨ah.sc,ah.sc,J⟩,J⟩ J))))))
theorem aKV (f:aW):FT Try.prog (Rn f) 124 [.agg (ay f),.c (.fn 126 [])] [] (fun (t:aW) => [.agg [iC t.Graph.aF,lo 0 t.Graph.aA.length,lo 1 t.Places.length]]) (fun (t:aW) => [(0,pR 96 aK t.Graph.aA),(1,pR 82 aJ t.Places)]) [0,1]:=by
 refine FT.of [] Try.func124 Try.ntmps124 Q y2 ?_
 intro w0 U0 R0 g0
 unfold Rn
 refine Ws (Wr ?_)
 refine fZ 21 (.agg (ay f)) ai y5 (dQ 22 [iC 0,sC aO,sC aO] iG y6 (On (Ws (Wr ?_))))
 refine cZ (bD (ay f) Q bP ax ai) Q Q Q Q (aU fun r1 hr1 => (aT.step (bU [.agg (ay f)] (Fw.Fn.ren [(0,24),(1,25)] (Tv f r1 hr1) Q) QD (jd y3) J y3) z2 J Q Q (dQ 26 [iC 0,sC aO,sC aO] iG y6 (dA (stA [iC r1.Graph.aF,lo 24 r1.Graph.aA.length,lo 25 r1.Places.length] Q Q ax ai) Q Q Q Q Q (On (Ws (Ws ?_)))))))
 refine en [(1,Cc (.fn 126 [])),(2,Cc (.pl 21 0)),(4,Cc (.pl 22 0)),(5,Cc (.pl 26 0))] [(21,.row 29 [ay f]),(22,.row 29 [[iC 0,sC aO,sC aO]]),(24,pR 96 aK r1.Graph.aA),(25,pR 82 aJ r1.Places),(26,.row 29 [[iC r1.Graph.aF,lo 24 r1.Graph.aA.length,lo 25 r1.Places.length]])] z4 z5 (Wr (cZ (bD (ay f) Q bP ax ai) Q Q Q Q (aU fun r2 hr2 => (jC [.agg (ay f)] (vW f r2 hr2) vI (jd y3) y5 z2 (On (aC.eG (fun j14 => ([(4,Cc (.pl 22 0)),(5,Cc (.pl 26 0))],[(22,.row 29 [[iC 0,sC aO,sC aO]]),(24,pR 96 aK j14.2.1),(25,pR 82 aJ j14.2.2),(26,.row 29 [[iC j14.1,lo 24 j14.2.1.length,lo 25 j14.2.2.length]])])) ?_ (fun j14 _ => ?_)))))))
 ·refine aC.cond Q (fun rW => ?_) (fun rW => ?_)
  ·refine Ws (Wr ?_)
   refine dR (xF aJ f.Places) fJ fV bI (au (LT.gB Q lQ) Q Q Q (aG (Iv 0) ak (On (aC.block ?_))))
   refine aC.jP (id:=0) (Ip f r1) (fun s16 => ([(1,Cc (.fn 126 [])),(4,Cc (.pl 22 0)),(5,Cc (.pl 26 0)),(13,Cc (xF aJ f.Places)),(14,Iv (f.Places.length:Int)),(15,Iv s16.1)],[(22,.row 29 [[iC 0,sC aO,sC aO]]),(24,pR 96 aK r1.Graph.aA),(25,pR 82 aJ s16.2),(26,.row 29 [[iC r1.Graph.aF,lo 24 r1.Graph.aA.length,lo 25 s16.2.length]])])) (fun b25 => ([(4,Cc (.pl 22 0)),(5,Cc (.pl 26 0))],[(22,.row 29 [[iC 0,sC aO,sC aO]]),(24,pR 96 aK b25.1),(25,pR 82 aJ b25.2.1),(26,.row 29 [[iC b25.2.2,lo 24 b25.1.length,lo 25 b25.2.1.length]])])) ?_ (aj.of z6 z4) Q (fun b25 _ => ?_)
   ·intro s16
    unfold Ip
    refine Ws (Wr ?_)
    refine aZ LT.lss y5 (On (Ws ?_))
    refine aC.cond Q (fun VX => ?_) (fun VX => ?_)
    ·refine aC.skip (Ws (aC.block (Ws (Wr ?_))))
     refine aG (Iv s16.1) y4 (aU fun x27 hx27 => (dU (LT.dZ (enc:=aJ) Q jD hx27 bf) Q Q Q Q (au (kC Q gI dS bf) Q Q Q (dQ 28 [iC 0,iC 0] kM y6 (aI (Iv s16.1) y4 (dA (stA [iC x27.X,iC x27.Y] Q Q dS bf) Q Q Q Q Q (On (en [(1,Cc (.fn 126 [])),(4,Cc (.pl 22 0)),(5,Cc (.pl 26 0)),(6,Iv s16.1),(7,Cc (.pl 28 0)),(13,Cc (xF aJ f.Places)),(14,Iv (f.Places.length:Int)),(15,Iv s16.1)] [(22,.row 29 [[iC 0,sC aO,sC aO]]),(24,pR 96 aK r1.Graph.aA),(25,pR 82 aJ s16.2),(26,.row 29 [[iC r1.Graph.aF,lo 24 r1.Graph.aA.length,lo 25 s16.2.length]]),(28,.row 82 [[iC x27.X,iC x27.Y]])] z8 z5 (aC.draw mixed (dw (lo 25 s16.2.length) fJ fV bI ?_))))))))))
     refine aY (Iv s16.1) y4 (aY (Cc (.fn 126 [])) y4 (bV (bD [iC x27.X,iC x27.Y] Q gI dS bf) Q Q Q Q (aN.bind fun r28 Ef => (aN.pure (bU [.agg [iC x27.X,iC x27.Y]] (aKJ x27 r28 Ef) aD1 (qV y2) J y3) z2 J Q Q (aN.bind fun x29 hx29 => (kJ (LT.iW Q Q jD hx29) Q Q Q Q Q (iY (qW 0 (.agg [iC r28.X,iC r28.Y]) r28 Q Q dS bf hx29) Q Q Q Q Q (dF (aC.blk (Wr ?_))))))))))
     refine aZ LT.add aP (aG (Iv (aB (s16.1 + 1))) y4 (On (aC.nil ⟨Q,aj.of z6 ⟨Q,Q,Q,congrArg (fun l1 => (some (Ob.row 29 [[iC r1.Graph.aF,lo 24 r1.Graph.aA.length,lo 25 l1]]):Option Ob)) (show s16.2.length = (s16.2.set s16.1.toNat r28).length by simp only [List.length_set]),J⟩⟩)))
    ·refine gJ y2 z2 z4
   ·refine aX Q z2 z4
  ·refine aC.skip (aX Q z2 z4)
 ·refine Ws (Wr ?_)
  refine cZ (bD [iC j14.1,lo 24 j14.2.1.length,lo 25 j14.2.2.length] Q bP ax ai) Q Q Q Q (dA (stA [iC j14.1,lo 24 j14.2.1.length,lo 25 j14.2.2.length] Q Q ax ai) Q Q Q Q Q (On (en [(4,Cc (.pl 22 0))] [(22,.row 29 [[iC j14.1,lo 24 j14.2.1.length,lo 25 j14.2.2.length]]),(24,pR 96 aK j14.2.1),(25,pR 82 aJ j14.2.2)] z1 z3 (aC.ent (aj.mv 24 0 Q Q) (aC.ent (aj.mv 25 1 Q Q) (en [(4,Cc (.pl 22 0))] [(0,pR 96 aK j14.2.1),(1,pR 82 aJ j14.2.2),(22,.row 29 [[iC j14.1,lo 0 j14.2.1.length,lo 1 j14.2.2.length]])] z1 z3 (bT ⟨⟨_,_,_,Q,Q,Q,bP,ai,_,fE ax⟩,J⟩ z2 ⟨⟨ah.sc,J,J,J⟩,J⟩ ⟨bg.dO iP,bg.dO jo,J⟩)))))))
theorem aDA (f:aW):FT Try.prog (Ia f) 50 [.agg (ay f)] [] (fun (t:aW) => [.agg [iC t.Graph.aF,lo 0 t.Graph.aA.length,lo 1 t.Places.length]]) (fun (t:aW) => [(0,pR 96 aK t.Graph.aA),(1,pR 82 aJ t.Places)]) [0,1]:=by
 refine FT.of [] Try.func50 Try.ntmps50 Q y2 ?_
 intro w0 U0 R0 g0
 unfold Ia
 refine Ws (Wr ?_)
 refine fZ 21 (.agg (ay f)) ai y5 (dQ 22 [iC 0,sC aO,sC aO] iG y6 (On (Ws (Wr ?_))))
 refine cZ (bD (ay f) Q bP ax ai) Q Q Q Q (aU fun r1 hr1 => (aT.step (bU [.agg (ay f),.c (.fn 126 [])] (Fw.Fn.ren [(0,24),(1,25)] (aKV f r1 hr1) Q) Yv (aCR y4) J y3) z3 J Q Q (dA (stA [iC r1.Graph.aF,lo 24 r1.Graph.aA.length,lo 25 r1.Places.length] Q Q ax ai) Q Q Q Q Q (On (en [(2,Cc (.pl 22 0))] [(22,.row 29 [[iC r1.Graph.aF,lo 24 r1.Graph.aA.length,lo 25 r1.Places.length]]),(24,pR 96 aK r1.Graph.aA),(25,pR 82 aJ r1.Places)] z1 z3 (aC.ent (aj.mv 24 0 Q Q) (aC.ent (aj.mv 25 1 Q Q) (en [(2,Cc (.pl 22 0))] [(0,pR 96 aK r1.Graph.aA),(1,pR 82 aJ r1.Places),(22,.row 29 [[iC r1.Graph.aF,lo 0 r1.Graph.aA.length,lo 1 r1.Places.length]])] z1 z3 (bT ⟨⟨_,_,_,Q,Q,Q,bP,ai,_,fE ax⟩,J⟩ z2 ⟨⟨ah.sc,J,J,J⟩,J⟩ ⟨bg.dO iP,bg.dO jo,J⟩)))))))))
theorem aDN (f:aW):FT Try.prog (JO f) 52 [.agg (ay f)] [] (fun (t:aW) => [.agg [iC t.Graph.aF,lo 0 t.Graph.aA.length,lo 1 t.Places.length]]) (fun (t:aW) => [(0,pR 96 aK t.Graph.aA),(1,pR 82 aJ t.Places)]) [0,1]:=by
 refine FT.of [] Try.func52 Try.ntmps52 Q y2 ?_
 intro w0 U0 R0 g0
 unfold JO
 refine Ws (Wr ?_)
 refine fZ 21 (.agg (ay f)) ai y5 (dQ 22 [iC 0,sC aO,sC aO] iG y6 (On (Ws (Wr ?_))))
 refine cZ (bD (ay f) Q bP ax ai) Q Q Q Q (aU fun r1 hr1 => (aT.step (bU [.agg (ay f)] (Fw.Fn.ren [(0,24),(1,25)] (PZ f r1 hr1) Q) KU (jd y3) J y3) z2 J Q Q (dQ 26 [iC 0,sC aO,sC aO] iG y6 (dA (stA [iC r1.Graph.aF,lo 24 r1.Graph.aA.length,lo 25 r1.Places.length] Q Q ax ai) Q Q Q Q Q (On (Ws (Ws ?_)))))))
 refine en [(1,Cc (.pl 21 0)),(2,Cc (.pl 22 0)),(3,Cc (.pl 26 0))] [(21,.row 29 [ay f]),(22,.row 29 [[iC 0,sC aO,sC aO]]),(24,pR 96 aK r1.Graph.aA),(25,pR 82 aJ r1.Places),(26,.row 29 [[iC r1.Graph.aF,lo 24 r1.Graph.aA.length,lo 25 r1.Places.length]])] z3 z5 (Wr (aI (Iv 0) ak (On (aC.block ?_))))
 refine aC.jP (id:=0) (C9 f r1) (fun s2 => ([(1,Cc (.pl 21 0)),(2,Cc (.pl 22 0)),(3,Cc (.pl 26 0)),(4,Iv s2.1)],[(21,.row 29 [ay f]),(22,.row 29 [[iC 0,sC aO,sC aO]]),(24,pR 96 aK r1.Graph.aA),(25,pR 82 aJ s2.2),(26,.row 29 [[iC r1.Graph.aF,lo 24 r1.Graph.aA.length,lo 25 s2.2.length]])])) (fun oD => ([(2,Cc (.pl 22 0)),(3,Cc (.pl 26 0))],[(22,.row 29 [[iC 0,sC aO,sC aO]]),(24,pR 96 aK oD.1),(25,pR 82 aJ oD.2.1),(26,.row 29 [[iC oD.2.2,lo 24 oD.1.length,lo 25 oD.2.1.length]])])) ?_ (aj.of z4 z5) Q (fun oD _ => ?_)
 ·intro s2
  unfold C9
  refine Ws (Ws ?_)
  refine aC.eG (fun j24 => ([(1,Cc (.pl 21 0)),(2,Cc (.pl 22 0)),(3,Cc (.pl 26 0)),(4,Iv s2.1),(15,Bv j24)],[(21,.row 29 [ay f]),(22,.row 29 [[iC 0,sC aO,sC aO]]),(24,pR 96 aK r1.Graph.aA),(25,pR 82 aJ s2.2),(26,.row 29 [[iC r1.Graph.aF,lo 24 r1.Graph.aA.length,lo 25 s2.2.length]])])) ?_ (fun j24 _ => ?_)
  ·refine Wr (aG (Iv s2.1) y4 (dR (lo 25 s2.2.length) fJ fV bI (au (LT.mM Q lQ) Q Q Q (aZ LT.lss y5 (aG (Bv (decide (s2.1 < (s2.2.length:Int)))) y4 (aT.split (fun qP => ?_) (fun qP => ?_)))))))
   ·refine cZ (bD (ay f) Q bP ax ai) Q Q (gH qP Q Q) Q (aU fun qE Ee => (aT.pure (bU [.agg (ay f)] (uT f qE Ee) uO (jd y3) J y3) z2 J (gH qP Q Q) Q (dn (Bv qE) qP y5 (On (aX Q z5 z5)))))
   ·refine af qP y5 (af qP y5 (gK (Bv false) qP aP (On (aX Q z5 z5))))
  ·refine aC.cond Q (fun hc27 => ?_) (fun hc27 => ?_)
   ·refine aC.skip (Ws (aC.block (aC.draw mixed ?_)))
    refine dw (lo 25 s2.2.length) fJ fV bI (aY (Iv s2.1) y4 (dw (xF aJ f.Places) fJ fV bI (aY (Iv s2.1) y4 (aN.bind fun x28 hx28 => (bQ (LT.dZ (enc:=aJ) Q jD hx28 bf) Q Q Q Q (bH (LT.pF Q lq) Q Q Q (bH (LT.iq Q bK) Q Q Q (jS LT.sub oQ (bH (LT.eu Q fJ) Q Q Q ?_)))))))))
    refine bV (wJ (xF aJ f.Places) Q fV) Q Q Q Q (aY (Iv s2.1) y4 (aN.bind fun x29 hx29 => (bQ (LT.dZ (enc:=aJ) Q jD hx29 bf) Q Q Q Q (bH (LT.pF Q kV) Q Q Q (bH (LT.iq Q bK) Q Q Q (bQ (LT.build [(0,.tmp 27,.c (iC (aB (4 - x28.Y)))),(1,.tmp 33,.c (iC x29.X))] Q Q FZ kM Q Q Q) Q Q Q Q (aN.bind fun x30 MQ => (kJ (LT.iW Q Q jD MQ) Q Q Q Q Q (iY (qW 0 (.agg [iC (aB (4 - x28.Y)),iC x29.X]) (bG.mk (aB (4 - x28.Y)) x29.X) Q Q dS bf MQ) Q Q Q Q Q (dF (aC.blk ?_)))))))))))
    refine en [(1,Cc (.pl 21 0)),(2,Cc (.pl 22 0)),(3,Cc (.pl 26 0)),(4,Iv s2.1)] [(21,.row 29 [ay f]),(22,.row 29 [[iC 0,sC aO,sC aO]]),(24,pR 96 aK r1.Graph.aA),(25,pR 82 aJ (s2.2.set s2.1.toNat (bG.mk (aB (4 - x28.Y)) x29.X))),(26,.row 29 [[iC r1.Graph.aF,lo 24 r1.Graph.aA.length,lo 25 s2.2.length]])] z4 z5 (Wr (aG (Iv s2.1) y4 (aZ LT.add aP (aI (Iv (aB (s2.1 + 1))) y4 (On (aC.nil ⟨Q,aj.of z4 ⟨Q,Q,Q,Q,congrArg (fun l1 => (some (Ob.row 29 [[iC r1.Graph.aF,lo 24 r1.Graph.aA.length,lo 25 l1]]):Option Ob)) (show s2.2.length = (s2.2.set s2.1.toNat (bG.mk (aB (4 - x28.Y)) x29.X)).length by simp only [List.length_set]),J⟩⟩))))))
   ·refine gJ y2 z2 z4
 ·refine Ws (Wr ?_)
  refine cZ (bD [iC oD.2.2,lo 24 oD.1.length,lo 25 oD.2.1.length] Q bP ax ai) Q Q Q Q (dA (stA [iC oD.2.2,lo 24 oD.1.length,lo 25 oD.2.1.length] Q Q ax ai) Q Q Q Q Q (On (en [(2,Cc (.pl 22 0))] [(22,.row 29 [[iC oD.2.2,lo 24 oD.1.length,lo 25 oD.2.1.length]]),(24,pR 96 aK oD.1),(25,pR 82 aJ oD.2.1)] z1 z3 (aC.ent (aj.mv 24 0 Q Q) (aC.ent (aj.mv 25 1 Q Q) (en [(2,Cc (.pl 22 0))] [(0,pR 96 aK oD.1),(1,pR 82 aJ oD.2.1),(22,.row 29 [[iC oD.2.2,lo 0 oD.1.length,lo 1 oD.2.1.length]])] z1 z3 (bT ⟨⟨_,_,_,Q,Q,Q,bP,ai,_,fE ax⟩,J⟩ z2 ⟨⟨ah.sc,J,J,J⟩,J⟩ ⟨bg.dO iP,bg.dO jo,J⟩)))))))
theorem Dk (a:aW) (b:aW):FT Try.prog (xE a b) 51 [.agg (ay a),.agg (ay b)] [] (fun (t:Bool) => [.c (bC t)]) (fun (t:Bool) => []) []:=by
 refine FT.of [] Try.func51 Try.ntmps51 Q y2 ?_
 intro w0 U0 R0 g0
 unfold xE
 refine Ws (Wr ?_)
 refine fZ 21 (.agg (ay a)) ai y5 (fZ 22 (.agg (ay b)) ai y5 (aI (Bv false) ak (On (Ws (Ws ?_)))))
 refine aC.eG (fun j3 => ([(2,Cc (.pl 21 0)),(3,Cc (.pl 22 0)),(20,Bv j3)],[(21,.row 29 [ay a]),(22,.row 29 [ay b])])) ?_ (fun j3 _ => ?_)
 ·refine Wr (au (LT.eu Q jv) Q Q Q (cZ (bD (dI a.Graph) Q iI dX dM) Q Q Q Q (au (LT.eu Q jv) Q Q Q (cZ (bD (dI b.Graph) Q iI dX dM) Q Q Q Q (aU fun r4 hr4 => (jC [.agg (dI a.Graph),.agg (dI b.Graph)] (aDH a.Graph b.Graph r4 hr4) Yw (DX y4) y5 z3 (au (LT.not Q) Q Q Q (aG (Bv (!r4)) y4 (aT.split (fun hb5 => ?_) (fun hb5 => ?_))))))))))
  ·refine af hb5 y5 (af hb5 y5 (af hb5 y5 (af hb5 y5 (af hb5 y5 (af hb5 y5 (af hb5 y5 (dn (Bv true) hb5 aP (On (aX Q z3 z2)))))))))
  ·refine jf (xF aJ a.Places) fJ fV hb5 gm (au (LT.gB Q lQ) Q (gH hb5 Q Q) Q (jf (xF aJ b.Places) fJ fV hb5 gm (au (LT.gB Q lQ) Q (gH hb5 Q Q) Q (iV LT.neq hb5 y6 (gK (Bv ((a.Places.length:Int) != (b.Places.length:Int))) hb5 y5 (On (aX Q z3 z2)))))))
 ·refine aC.cond Q (fun hc6 => ?_) (fun hc6 => ?_)
  ·refine Ws (Wr ?_)
   refine aI (Bv false) ak (On (bT z1 J ⟨ah.sc,J⟩ J))
  ·refine aC.skip (Ws (Ws (Wr ?_)))
   refine aI (Iv 0) ak (On (aC.block ?_))
   refine aC.ql (id:=0) (Nj a b) (fun s7 => ([(2,Cc (.pl 21 0)),(3,Cc (.pl 22 0)),(5,Iv s7)],[(21,.row 29 [ay a]),(22,.row 29 [ay b])])) (fun b16 => ([],[])) (lI Try.prog Try.f51.results.toList [] [] (fun (t:Bool) => [.c (bC t)]) (fun (t:Bool) => [])) ?_ (aj.of z3 z2) Q (fun b16 _ => ?_) qj
   ·intro s7
    unfold Nj
    refine Ws (Ws (Wr ?_))
    refine aG (Iv s7) y4 (dR (xF aJ a.Places) fJ fV bI (au (LT.gB Q lQ) Q Q Q (aZ LT.lss y5 (On (aC.cond Q (fun hc17 => ?_) (fun hc17 => ?_))))))
    ·refine aC.skip (Ws (aC.block (Ws (aC.draw mixed ?_))))
     refine dw (xF aJ a.Places) fJ fV bI (aY (Iv s7) y4 (aN.bind fun x18 MK => (bQ (LT.dZ (enc:=aJ) Q jD MK bf) Q Q Q Q (bH (kC Q gI dS bf) Q Q Q (dw (xF aJ b.Places) fJ fV bI (aY (Iv s7) y4 (aN.bind fun x19 WO => (bQ (LT.dZ (enc:=aJ) Q jD WO bf) Q Q Q Q (bH (kC Q gI dS bf) Q Q Q ?_)))))))))
     refine bQ (LT.Jf [x18.X,x18.Y] [x19.X,x19.Y] Q Hy Q Q) Q Q Q Q (dF (aC.cond Q (fun VU => ?_) (fun VU => ?_)))
     ·refine Ws (en [] [] J J (Wr (aI (Bv false) ak (On (aC.ret ⟨Q,qc z1 J ⟨ah.sc,J⟩ J⟩)))))
     ·refine aC.skip (aC.blk ?_)
      refine en [(2,Cc (.pl 21 0)),(3,Cc (.pl 22 0)),(5,Iv s7)] [(21,.row 29 [ay a]),(22,.row 29 [ay b])] z3 z2 (Wr (aG (Iv s7) y4 (aZ LT.add aP (aI (Iv (aB (s7 + 1))) y4 (On (aX Q z3 z2))))))
    ·refine gJ y2 J J
   ·refine Ws (Wr ?_)
    refine aI (Bv true) ak (On (bT z1 J ⟨ah.sc,J⟩ J))
theorem aDM (f:aW):FT Try.prog (JG f) 53 [.agg (ay f)] [] (fun (t:aW) => [.agg [iC t.Graph.aF,lo 0 t.Graph.aA.length,lo 1 t.Places.length]]) (fun (t:aW) => [(0,pR 96 aK t.Graph.aA),(1,pR 82 aJ t.Places)]) [0,1]:=by
 refine FT.of [] Try.func53 Try.ntmps53 Q y2 ?_
 intro w0 U0 R0 g0
 unfold JG
 refine Ws (Wr ?_)
 refine fZ 21 (.agg (ay f)) ai y5 (dQ 22 [iC 0,sC aO,sC aO] iG y6 (On (Ws (Wr ?_))))
 refine cZ (bD (ay f) Q bP ax ai) Q Q Q Q (aU fun r1 hr1 => (aT.step (bU [.agg (ay f)] (Fw.Fn.ren [(0,24),(1,25)] (PZ f r1 hr1) Q) KU (jd y3) J y3) z2 J Q Q (dQ 26 [iC 0,sC aO,sC aO] iG y6 (dA (stA [iC r1.Graph.aF,lo 24 r1.Graph.aA.length,lo 25 r1.Places.length] Q Q ax ai) Q Q Q Q Q (On (Ws (Ws ?_)))))))
 refine en [(1,Cc (.pl 21 0)),(2,Cc (.pl 22 0)),(3,Cc (.pl 26 0))] [(21,.row 29 [ay f]),(22,.row 29 [[iC 0,sC aO,sC aO]]),(24,pR 96 aK r1.Graph.aA),(25,pR 82 aJ r1.Places),(26,.row 29 [[iC r1.Graph.aF,lo 24 r1.Graph.aA.length,lo 25 r1.Places.length]])] z3 z5 (Wr (aI (Iv 0) ak (On (aC.block ?_))))
 refine aC.jP (id:=0) (Ce f r1) (fun s2 => ([(1,Cc (.pl 21 0)),(2,Cc (.pl 22 0)),(3,Cc (.pl 26 0)),(4,Iv s2.1)],[(21,.row 29 [ay f]),(22,.row 29 [[iC 0,sC aO,sC aO]]),(24,pR 96 aK r1.Graph.aA),(25,pR 82 aJ s2.2),(26,.row 29 [[iC r1.Graph.aF,lo 24 r1.Graph.aA.length,lo 25 s2.2.length]])])) (fun b19 => ([(2,Cc (.pl 22 0)),(3,Cc (.pl 26 0))],[(22,.row 29 [[iC 0,sC aO,sC aO]]),(24,pR 96 aK b19.1),(25,pR 82 aJ b19.2.1),(26,.row 29 [[iC b19.2.2,lo 24 b19.1.length,lo 25 b19.2.1.length]])])) ?_ (aj.of z4 z5) Q (fun b19 _ => ?_)
 ·intro s2
  unfold Ce
  refine Ws (Ws ?_)
  refine aC.eG (fun j22 => ([(1,Cc (.pl 21 0)),(2,Cc (.pl 22 0)),(3,Cc (.pl 26 0)),(4,Iv s2.1),(15,Bv j22)],[(21,.row 29 [ay f]),(22,.row 29 [[iC 0,sC aO,sC aO]]),(24,pR 96 aK r1.Graph.aA),(25,pR 82 aJ s2.2),(26,.row 29 [[iC r1.Graph.aF,lo 24 r1.Graph.aA.length,lo 25 s2.2.length]])])) ?_ (fun j22 _ => ?_)
  ·refine Wr (aG (Iv s2.1) y4 (dR (lo 25 s2.2.length) fJ fV bI (au (LT.mM Q lQ) Q Q Q (aZ LT.lss y5 (aG (Bv (decide (s2.1 < (s2.2.length:Int)))) y4 (aT.split (fun EU => ?_) (fun EU => ?_)))))))
   ·refine cZ (bD (ay f) Q bP ax ai) Q Q (gH EU Q Q) Q (aU fun pW Lr => (aT.pure (bU [.agg (ay f)] (uT f pW Lr) uO (jd y3) J y3) z2 J (gH EU Q Q) Q (dn (Bv pW) EU y5 (On (aX Q z5 z5)))))
   ·refine af EU y5 (af EU y5 (gK (Bv false) EU aP (On (aX Q z5 z5))))
  ·refine aC.cond Q (fun hc25 => ?_) (fun hc25 => ?_)
   ·refine aC.skip (Ws (aC.block (aC.draw mixed ?_)))
    refine dw (lo 25 s2.2.length) fJ fV bI (aY (Iv s2.1) y4 (dw (xF aJ f.Places) fJ fV bI (aY (Iv s2.1) y4 (aN.bind fun fH Bq => (bQ (LT.dZ (enc:=aJ) Q jD Bq bf) Q Q Q Q (bH (LT.pF Q kV) Q Q Q (bH (LT.iq Q bK) Q Q Q (jS LT.sub oQ (aN.bind fun x27 hx27 => ?_)))))))))
    refine kJ (LT.iW Q Q jD hx27) Q Q Q Q Q (bH (LT.eu Q kV) Q Q Q (iY (qW 0 (.c (iC (aB (4 - fH.X)))) (bG.mk (aB (4 - fH.X)) x27.Y) Q Q qh jq hx27) Q Q Q Q Q (dF (aC.blk (en [(1,Cc (.pl 21 0)),(2,Cc (.pl 22 0)),(3,Cc (.pl 26 0)),(4,Iv s2.1)] [(21,.row 29 [ay f]),(22,.row 29 [[iC 0,sC aO,sC aO]]),(24,pR 96 aK r1.Graph.aA),(25,pR 82 aJ (s2.2.set s2.1.toNat (bG.mk (aB (4 - fH.X)) x27.Y))),(26,.row 29 [[iC r1.Graph.aF,lo 24 r1.Graph.aA.length,lo 25 s2.2.length]])] z4 z5 (Wr (aG (Iv s2.1) y4 (aZ LT.add aP (aI (Iv (aB (s2.1 + 1))) y4 (On (aC.nil ⟨Q,aj.of z4 ⟨Q,Q,Q,Q,congrArg (fun l1 => (some (Ob.row 29 [[iC r1.Graph.aF,lo 24 r1.Graph.aA.length,lo 25 l1]]):Option Ob)) (show s2.2.length = (s2.2.set s2.1.toNat (bG.mk (aB (4 - fH.X)) x27.Y)).length by simp only [List.length_set]),J⟩⟩)))))))))))
   ·refine gJ y2 z2 z4
 ·refine Ws (Wr ?_)
  refine cZ (bD [iC b19.2.2,lo 24 b19.1.length,lo 25 b19.2.1.length] Q bP ax ai) Q Q Q Q (dA (stA [iC b19.2.2,lo 24 b19.1.length,lo 25 b19.2.1.length] Q Q ax ai) Q Q Q Q Q (On (en [(2,Cc (.pl 22 0))] [(22,.row 29 [[iC b19.2.2,lo 24 b19.1.length,lo 25 b19.2.1.length]]),(24,pR 96 aK b19.1),(25,pR 82 aJ b19.2.1)] z1 z3 (aC.ent (aj.mv 24 0 Q Q) (aC.ent (aj.mv 25 1 Q Q) (en [(2,Cc (.pl 22 0))] [(0,pR 96 aK b19.1),(1,pR 82 aJ b19.2.1),(22,.row 29 [[iC b19.2.2,lo 0 b19.1.length,lo 1 b19.2.1.length]])] z1 z3 (bT ⟨⟨_,_,_,Q,Q,Q,bP,ai,_,fE ax⟩,J⟩ z2 ⟨⟨ah.sc,J,J,J⟩,J⟩ ⟨bg.dO iP,bg.dO jo,J⟩)))))))
theorem YF (f:aW):FT Try.prog (Eu f) 57 [.agg (ay f)] [] (fun (t:(List Int)) => [.c (lo 0 t.length)]) (fun (t:(List Int)) => [(0,pR 3 aQ t)]) [0]:=by
 refine FT.of [] Try.func57 Try.ntmps57 Q y2 ?_
 intro w0 U0 R0 g0
 unfold Eu
 refine Ws (Wr ?_)
 refine fZ 21 (.agg (ay f)) ai y5 (aI (Cc (sC aO)) ak (On (Ws (Wr ?_))))
 refine ny (gy 22 aQ [] [] iK lG y7) Q Q (aI (Cc (lo 22 (([]:List Int).length))) y4 (On (Ws (Ws (Wr ?_)))))
 refine cZ (bD (ay f) Q bP ax ai) Q Q Q Q (aU fun r1 hr1 => (jC [.agg (ay f)] (vW f r1 hr1) vI (jd y3) y5 z2 (au (LT.not Q) Q Q Q (On (aC.cond Q (fun hc2 => ?_) (fun hc2 => ?_))))))
 ·refine Ws (en [(3,Cc (lo 22 (([]:List Int).length)))] [(22,pR 3 aQ ([]:List Int))] z1 z1 (Wr (aG (Cc (lo 22 (([]:List Int).length))) y4 (aI (Cc (lo 22 (([]:List Int).length))) y4 (On (en [(2,Cc (lo 22 (([]:List Int).length)))] [(22,pR 3 aQ ([]:List Int))] z1 z1 (aC.ent (aj.mv 22 0 Q Q) (en [(2,Cc (lo 0 (([]:List Int).length)))] [(0,pR 3 aQ ([]:List Int))] z1 z1 (bT z1 z1 ⟨J,J⟩ ⟨bg.dO rY,J⟩)))))))))
 ·refine aC.skip (Ws (Ws ?_))
  refine en [(1,Cc (.pl 21 0)),(3,Cc (lo 22 (([]:List Int).length)))] [(21,.row 29 [ay f]),(22,pR 3 aQ ([]:List Int))] z2 z2 (Wr (dR (xF aJ f.Places) fJ fV bI (au (LT.gB Q lQ) Q Q Q (aG (Iv 0) ak (On (aC.block ?_))))))
  refine aC.jP (id:=0) (Ew f) (fun s3 => ([(1,Cc (.pl 21 0)),(3,Cc (lo 22 s3.2.length)),(13,Iv (f.Places.length:Int)),(14,Iv s3.1)],[(21,.row 29 [ay f]),(22,pR 3 aQ s3.2)])) (fun b22 => ([(3,Cc (lo 22 b22.length))],[(22,pR 3 aQ b22)])) ?_ (aj.of z4 z2) Q (fun b22 _ => ?_)
  ·intro s3
   unfold Ew
   refine Ws (Wr ?_)
   refine aZ LT.lss y5 (On (Ws ?_))
   refine aC.cond Q (fun Ea => ?_) (fun Ea => ?_)
   ·refine aC.skip (Ws (aC.block (Ws (Wr ?_))))
    refine aG (Iv s3.1) y4 (aI (Iv s3.1) y4 (On (Ws (Wr ?_))))
    refine aG (Iv s3.1) y4 (aZ LT.add aP (aI (Iv (aB (s3.1 + 1))) y4 (On (aC.block ?_))))
    refine aC.jP (id:=2) (Ib f s3) (fun s24 => ([(1,Cc (.pl 21 0)),(3,Cc (lo 22 s24.2.length)),(4,Iv s3.1),(5,Iv s24.1),(13,Iv (f.Places.length:Int)),(14,Iv s3.1)],[(21,.row 29 [ay f]),(22,pR 3 aQ s24.2)])) (fun Ba => ([(1,Cc (.pl 21 0)),(3,Cc (lo 22 Ba.2.length)),(13,Iv (f.Places.length:Int)),(14,Iv Ba.1)],[(21,.row 29 [ay f]),(22,pR 3 aQ Ba.2)])) ?_ (aj.of z6 z2) Q (fun Ba _ => ?_)
    ·intro s24
     unfold Ib
     refine Ws (Ws (Wr ?_))
     refine aG (Iv s24.1) y4 (dR (xF aJ f.Places) fJ fV bI (au (LT.gB Q lQ) Q Q Q (aZ LT.lss y5 (On (aC.cond Q (fun hc32 => ?_) (fun hc32 => ?_))))))
     ·refine aC.skip (Ws (aC.block (Wr ?_)))
      refine aG (Cc (lo 22 s24.2.length)) y4 (cZ (bD (ay f) Q bP ax ai) Q Q Q Q (aG (Iv s3.1) y4 (aG (Iv s24.1) y4 (aU fun jL Eh => (jC [.agg (ay f),.c (iC s3.1),.c (iC s24.1)] (aC8 f s3.1 s24.1 jL Eh) Yy (aCS y5) y5 z4 (oC (gy 25 aQ [(0,.tmp 30,.c (iC jL))] ([jL]:List Int) iK lG y7) Q Q Q (aU fun u34 WG => (oW (LT.ng (enc:=aQ) Q Q Q iK lG Q (by decide) (by decide) (fun _ => Q) (jw WG)) Q Q Q Q Q Q (aI (Cc (lo 22 ((s24.2 ++ ([jL]:List Int)).length))) y4 (On (aC.blk ?_)))))))))))
      refine en [(1,Cc (.pl 21 0)),(3,Cc (lo 22 ((s24.2 ++ ([jL]:List Int)).length))),(4,Iv s3.1),(5,Iv s24.1),(13,Iv (f.Places.length:Int)),(14,Iv s3.1)] [(21,.row 29 [ay f]),(22,pR 3 aQ (s24.2 ++ ([jL]:List Int)))] z6 z2 (Wr (aG (Iv s24.1) y4 (aZ LT.add aP (aI (Iv (aB (s24.1 + 1))) y4 (On (aX Q z6 z2))))))
     ·refine gJ y2 z4 z2
    ·refine aC.blk (Wr ?_)
     refine aZ LT.add aP (aG (Iv (aB (Ba.1 + 1))) y4 (On (aX Q z4 z2)))
   ·refine gJ y2 z1 z1
  ·refine Ws (Wr ?_)
   refine aG (Cc (lo 22 b22.length)) y4 (aI (Cc (lo 22 b22.length)) y4 (On (en [(2,Cc (lo 22 b22.length))] [(22,pR 3 aQ b22)] z1 z1 (aC.ent (aj.mv 22 0 Q Q) (en [(2,Cc (lo 0 b22.length))] [(0,pR 3 aQ b22)] z1 z1 (bT z1 z1 ⟨J,J⟩ ⟨bg.dO rY,J⟩))))))
theorem YI (f:aW):FT Try.prog (FD f) 58 [.agg (ay f)] [] (fun (t:(List Int)) => [.c (lo 0 t.length)]) (fun (t:(List Int)) => [(0,pR 3 aQ t)]) [0]:=by
 refine FT.of [] Try.func58 Try.ntmps58 Q y2 ?_
 intro w0 U0 R0 g0
 unfold FD
 refine Ws (Wr ?_)
 refine fZ 21 (.agg (ay f)) ai y5 (aI (Cc (sC aO)) ak (On (Ws (Wr ?_))))
 refine ny (gy 22 aQ [] [] iK lG y7) Q Q (aI (Cc (lo 22 (([]:List Int).length))) y4 (On (Ws (Ws (Wr ?_)))))
 refine aI (Iv 0) ak (On (aC.block ?_))
 refine aC.jP (id:=0) (Ap f) (fun s1 => ([(1,Cc (.pl 21 0)),(3,Cc (lo 22 s1.2.length)),(4,Iv s1.1)],[(21,.row 29 [ay f]),(22,pR 3 aQ s1.2)])) (fun xZ => ([(3,Cc (lo 22 xZ.length))],[(22,pR 3 aQ xZ)])) ?_ (aj.of z3 z2) Q (fun xZ _ => ?_)
 ·intro s1
  unfold Ap
  refine Ws (Ws ?_)
  refine aC.eG (fun j45 => ([(1,Cc (.pl 21 0)),(3,Cc (lo 22 s1.2.length)),(4,Iv s1.1),(17,Bv j45)],[(21,.row 29 [ay f]),(22,pR 3 aQ s1.2)])) ?_ (fun j45 _ => ?_)
  ·refine Wr (aG (Iv s1.1) y4 (dR (xF aJ f.Places) fJ fV bI (au (LT.gB Q lQ) Q Q Q (aZ LT.lss y5 (aG (Bv (decide (s1.1 < (f.Places.length:Int)))) y4 (aT.split (fun EY => ?_) (fun EY => ?_)))))))
   ·refine cZ (bD (ay f) Q bP ax ai) Q Q (gH EY Q Q) Q (aU fun BD hr47 => (aT.pure (bU [.agg (ay f)] (uT f BD hr47) uO (jd y3) J y3) z2 J (gH EY Q Q) Q (dn (Bv BD) EY y5 (On (aX Q z4 z2)))))
   ·refine af EY y5 (af EY y5 (gK (Bv false) EY aP (On (aX Q z4 z2))))
  ·refine aC.cond Q (fun La => ?_) (fun La => ?_)
   ·refine aC.skip (Ws (aC.block (Ws (Wr ?_))))
    refine aG (Iv s1.1) y4 (aZ LT.add aP (aI (Iv (aB (s1.1 + 1))) y4 (On (aC.block ?_))))
    refine aC.jP (id:=2) (JH f s1) (fun s49 => ([(1,Cc (.pl 21 0)),(3,Cc (lo 22 s49.2.length)),(4,Iv s1.1),(5,Iv s49.1)],[(21,.row 29 [ay f]),(22,pR 3 aQ s49.2)])) (fun wX => ([(1,Cc (.pl 21 0)),(3,Cc (lo 22 wX.2.length)),(4,Iv wX.1)],[(21,.row 29 [ay f]),(22,pR 3 aQ wX.2)])) ?_ (aj.of z4 z2) Q (fun wX _ => ?_)
    ·intro s49
     unfold JH
     refine Ws (Ws (Wr ?_))
     refine aG (Iv s49.1) y4 (dR (xF aJ f.Places) fJ fV bI (au (LT.gB Q lQ) Q Q Q (aZ LT.lss y5 (On (aC.cond Q (fun hc63 => ?_) (fun hc63 => ?_))))))
     ·refine aC.skip (Ws (aC.block (Ws (aC.draw mixed ?_))))
      refine dw (xF aJ f.Places) fJ fV bI (aY (Iv s1.1) y4 (aN.bind fun jb WR => (bQ (LT.dZ (enc:=aJ) Q jD WR bf) Q Q Q Q (bH (LT.pF Q kV) Q Q Q (bH (LT.iq Q bK) Q Q Q (dw (xF aJ f.Places) fJ fV bI (aY (Iv s49.1) y4 (aN.bind fun mQ WS => (bQ (LT.dZ (enc:=aJ) Q jD WS bf) Q Q Q Q ?_)))))))))
      refine bH (LT.pF Q kV) Q Q Q (bH (LT.iq Q bK) Q Q Q (jS LT.sub y5 (bH (LT.assign (v:=(Iv (aB (jb.X - mQ.X)))) Q) Q Q Q (dF (Ws (en [(1,Cc (.pl 21 0)),(3,Cc (lo 22 s49.2.length)),(4,Iv s1.1),(5,Iv s49.1),(6,Iv (aB (jb.X - mQ.X)))] [(21,.row 29 [ay f]),(22,pR 3 aQ s49.2)] z5 z2 (aC.draw mixed (dw (xF aJ f.Places) fJ fV bI (aY (Iv s1.1) y4 (aN.bind fun x66 RF => ?_))))))))))
      refine bQ (LT.dZ (enc:=aJ) Q jD RF bf) Q Q Q Q (bH (LT.pF Q lq) Q Q Q (bH (LT.iq Q bK) Q Q Q (dw (xF aJ f.Places) fJ fV bI (aY (Iv s49.1) y4 (aN.bind fun sJ aHr => (bQ (LT.dZ (enc:=aJ) Q jD aHr bf) Q Q Q Q (bH (LT.pF Q lq) Q Q Q (bH (LT.iq Q bK) Q Q Q (jS LT.sub y5 (bH (LT.assign (v:=(Iv (aB (x66.Y - sJ.Y)))) Q) Q Q Q ?_))))))))))
      refine dF (en [(1,Cc (.pl 21 0)),(3,Cc (lo 22 s49.2.length)),(4,Iv s1.1),(5,Iv s49.1),(6,Iv (aB (jb.X - mQ.X))),(7,Iv (aB (x66.Y - sJ.Y)))] [(21,.row 29 [ay f]),(22,pR 3 aQ s49.2)] z6 z2 (Wr (aG (Cc (lo 22 s49.2.length)) y4 (aG (Iv (aB (jb.X - mQ.X))) y4 (aG (Iv (aB (jb.X - mQ.X))) y4 (aZ LT.mul y5 (aG (Iv (aB (x66.Y - sJ.Y))) y4 (aG (Iv (aB (x66.Y - sJ.Y))) y4 (aZ LT.mul y5 (aZ LT.add y5 (oC (gy 24 aQ [(0,.tmp 62,.c (iC (aB ((aB ((aB (jb.X - mQ.X)) * (aB (jb.X - mQ.X)))) + (aB ((aB (x66.Y - sJ.Y)) * (aB (x66.Y - sJ.Y))))))))] ([aB ((aB ((aB (jb.X - mQ.X)) * (aB (jb.X - mQ.X)))) + (aB ((aB (x66.Y - sJ.Y)) * (aB (x66.Y - sJ.Y)))))]:List Int) iK lG y7) Q Q Q ?_)))))))))))
      refine aU fun u68 aHh => (oW (LT.ng (enc:=aQ) Q Q Q iK lG Q (by decide) (by decide) (fun _ => Q) (jw aHh)) Q Q Q Q Q Q (aI (Cc (lo 22 ((s49.2 ++ ([aB ((aB ((aB (jb.X - mQ.X)) * (aB (jb.X - mQ.X)))) + (aB ((aB (x66.Y - sJ.Y)) * (aB (x66.Y - sJ.Y)))))]:List Int)).length))) y4 (On (aC.blk ?_))))
      refine en [(1,Cc (.pl 21 0)),(3,Cc (lo 22 ((s49.2 ++ ([aB ((aB ((aB (jb.X - mQ.X)) * (aB (jb.X - mQ.X)))) + (aB ((aB (x66.Y - sJ.Y)) * (aB (x66.Y - sJ.Y)))))]:List Int)).length))),(4,Iv s1.1),(5,Iv s49.1)] [(21,.row 29 [ay f]),(22,pR 3 aQ (s49.2 ++ ([aB ((aB ((aB (jb.X - mQ.X)) * (aB (jb.X - mQ.X)))) + (aB ((aB (x66.Y - sJ.Y)) * (aB (x66.Y - sJ.Y)))))]:List Int)))] z4 z2 (Wr (aG (Iv s49.1) y4 (aZ LT.add aP (aI (Iv (aB (s49.1 + 1))) y4 (On (aX Q z4 z2))))))
     ·refine gJ y2 z3 z2
    ·refine aC.blk (Wr ?_)
     refine aG (Iv wX.1) y4 (aZ LT.add aP (aI (Iv (aB (wX.1 + 1))) y4 (On (aX Q z3 z2))))
   ·refine gJ y2 z1 z1
 ·refine Ws (Wr ?_)
  refine aG (Cc (lo 22 xZ.length)) y4 (aI (Cc (lo 22 xZ.length)) y4 (On (en [(2,Cc (lo 22 xZ.length))] [(22,pR 3 aQ xZ)] z1 z1 (aC.ent (aj.mv 22 0 Q Q) (en [(2,Cc (lo 0 xZ.length))] [(0,pR 3 aQ xZ)] z1 z1 (bT z1 z1 ⟨J,J⟩ ⟨bg.dO rY,J⟩))))))
theorem YE (a:aW) (b:aW):FT Try.prog (Es a b) 62 [.agg (ay a),.agg (ay b)] [] (fun (t:Bool) => [.c (bC t)]) (fun (t:Bool) => []) []:=by
 refine FT.of [] Try.func62 Try.ntmps62 Q y2 ?_
 intro w0 U0 R0 g0
 unfold Es
 refine Ws (Wr ?_)
 refine fZ 21 (.agg (ay a)) ai y5 (fZ 22 (.agg (ay b)) ai y5 (aI (Bv false) ak (On (Ws ?_))))
 refine aC.eG (fun j9 => ([(4,Bv j9)],[])) ?_ (fun j9 _ => ?_)
 ·refine aC.draw mixed (bV (bD (ay a) Q bP ax ai) Q Q Q Q (aN.bind fun r10 AU => (aN.pure (bU [.agg (ay a)] (vW a r10 AU) vI (jd y3) J y3) z2 J Q Q (aY (Bv r10) y4 (aN.split (fun lu => ?_) (fun lu => ?_))))))
  ·refine bV (bD (ay b) Q bP ax ai) Q Q (gH lu Q Q) Q (aN.bind fun r12 AX => (aN.pure (bU [.agg (ay b)] (vW b r12 AX) vI (jd y3) J y3) z2 J (gH lu Q Q) Q (gW (Bv r12) lu y5 (aY (Bv r12) y4 (aN.split (fun eF => ?_) (fun eF => ?_))))))
   ·refine bH (LT.eu Q jv) Q (gH eF Q Q) Q (qA (iC a.Graph.aF) lV bK eF gm (bH (LT.eu Q jv) Q (gH eF Q Q) Q (qA (iC b.Graph.aF) lV bK eF gm (sN LT.eql eF y6 (gW (Bv (a.Graph.aF == b.Graph.aF)) eF y5 (aY (Bv (a.Graph.aF == b.Graph.aF)) y4 (aN.split (fun gV => ?_) (fun gV => ?_))))))))
    ·refine bV (bD (ay a) Q bP ax ai) Q Q (gH gV Q Q) Q (aN.bind fun iT yF => (aN.step (bU [.agg (ay a)] (Fw.Fn.ren [(0,26)] (YF a iT yF) Q) Ui (jd y3) J y3) z2 J (gH gV Q Q) Q (bV (bD (ay b) Q bP ax ai) Q Q (gH gV Q Q) Q (aN.bind fun r16 Vs => (aN.step (bU [.agg (ay b)] (Fw.Fn.ren [(0,28)] (YF b r16 Vs) Q) Ui (jd y3) J y3) z2 J (gH gV Q Q) Q (aN.bind fun kL AY => (aN.pure (cF [.c (lo 26 iT.length),.c (lo 28 r16.length)] [(26,pR 3 aQ iT),(28,pR 3 aQ r16)] (aDE iT r16 kL AY) Y0 (.cons (.c (.dG Q Q)) (.cons (.c (.dG Q Q)) .nil)) J y3) z3 z2 (gH gV Q Q) Q (gW (Bv kL) gV y5 (bH (LT.assign (v:=(Bv kL)) Q) Q Q Q (dF (aX Q z1 J)))))))))))
    ·refine aS gV y3 (aS gV y3 (aS gV y3 (aS gV y3 (aS gV y3 (dD (Bv false) gV aP (bH (LT.assign (v:=(Bv false)) Q) Q Q Q (dF (aX Q z1 J))))))))
   ·refine aS eF y3 (aS eF y3 (aS eF y3 (aS eF y3 (aS eF y3 (aS eF y3 (aS eF y3 (dD (Bv false) eF aP (aY (Bv false) y4 (aH y3 (aH y3 (aH y3 ?_)))))))))))
    refine aH y3 (aH y3 (dD (Bv false) Q aP (bH (LT.assign (v:=(Bv false)) Q) Q Q Q (dF (aX Q z1 J)))))
  ·refine aS lu y3 (aS lu y3 (dD (Bv false) lu aP (aY (Bv false) y4 (aH y3 (aH y3 (aH y3 (aH y3 (aH y3 (aH y3 (aH y3 (dD (Bv false) Q aP ?_)))))))))))
   refine aY (Bv false) y4 (aH y3 (aH y3 (aH y3 (aH y3 (aH y3 (dD (Bv false) Q aP (bH (LT.assign (v:=(Bv false)) Q) Q Q Q (dF (aX Q z1 J)))))))))
 ·refine bT z1 J ⟨ah.sc,J⟩ J
theorem KA (n:Int):FT Try.prog (xC n) 137 [.c (iC n)] [] (fun (t:ByteArray) => [.c (sC (.string t))]) (fun (t:ByteArray) => []) []:=by
 refine FT.of [] Try.func137 Try.ntmps137 Q y2 ?_
 intro w0 U0 R0 g0
 unfold xC
 refine Ws (Wr ?_)
 refine aI (Cc (sC (.string ByteArray.empty))) ak (On (Ws (Ws (Wr ?_))))
 refine aG (Iv n) y4 (aZ LT.eql aP (On (aC.cond Q (fun hc1 => ?_) (fun hc1 => ?_))))
 ·refine Ws (Wr ?_)
  refine aI (Cc (sC (.string (ByteArray.mk #[48])))) ak (On (bT z1 J ⟨ah.sc,J⟩ J))
 ·refine aC.skip (Ws (Wr ?_))
  refine ny (gy 21 bn [] [] qX yR y7) Q Q (aI (Cc (lo 21 (([]:List Int).length))) y4 (On (Ws (Ws (Wr ?_)))))
  refine aG (Iv n) y4 (aI (Iv n) y4 (On (aC.block ?_)))
  refine aC.jP (id:=0) IU (fun s2 => ([(0,Iv n),(3,Cc (lo 21 s2.2.length)),(4,Iv s2.1)],[(21,pR 5 bn s2.2)])) (fun b13 => ([(0,Iv n),(3,Cc (lo 21 b13.length))],[(21,pR 5 bn b13)])) ?_ (aj.of z3 z1) Q (fun b13 _ => ?_)
  ·intro s2
   unfold IU
   refine Ws (Ws (Wr ?_))
   refine aG (Iv s2.1) y4 (aZ LT.neq aP (On (aC.cond Q (fun VS => ?_) (fun VS => ?_))))
   ·refine aC.skip (Ws (aC.block (Ws (Wr ?_))))
    refine aG (Iv s2.1) y4 (dU (LT.rem Q (by decide)) Q y2 Q Q (aI (Iv (Int.tmod s2.1 10)) y4 (On (Ws (Ws (Wr ?_))))))
    refine aG (Iv (Int.tmod s2.1 10)) y4 (aZ LT.lss aP (On (aC.eG (fun j16 => ([(0,Iv n),(3,Cc (lo 21 s2.2.length)),(4,Iv s2.1),(5,Iv j16)],[(21,pR 5 bn s2.2)])) ?_ (fun j16 _ => ?_))))
    ·refine aC.cond Q (fun hc17 => ?_) (fun hc17 => ?_)
     ·refine Wr (aG (Iv (Int.tmod s2.1 10)) y4 (au (LT.neg Q) Q Q Q (aI (Iv (aB (-(Int.tmod s2.1 10)))) y4 (On (aX Q z4 z1)))))
     ·refine aC.skip (aX Q z4 z1)
    ·refine Wr (aG (Cc (lo 21 s2.2.length)) y4 (aG (Iv j16) y4 (aZ LT.add oQ (au (LT.yw Q PN zT) Q Q Q (oC (gy 22 bn [(0,.tmp 25,.c (sC (.int .u8 (IntKind.u8.wrap (aB (48 + j16))))))] ([IntKind.u8.wrap (aB (48 + j16))]:List Int) qX yR y7) Q Q Q (aU fun u18 aHS => (oW (LT.ng (enc:=bn) Q Q Q qX yR Q (by decide) (by decide) (fun _ => Q) (jw aHS)) Q Q Q Q Q Q (aI (Cc (lo 21 ((s2.2 ++ ([IntKind.u8.wrap (aB (48 + j16))]:List Int)).length))) y4 (On (aC.blk ?_))))))))))
     refine en [(0,Iv n),(3,Cc (lo 21 ((s2.2 ++ ([IntKind.u8.wrap (aB (48 + j16))]:List Int)).length))),(4,Iv s2.1)] [(21,pR 5 bn (s2.2 ++ ([IntKind.u8.wrap (aB (48 + j16))]:List Int)))] z3 z1 (Wr (aG (Iv s2.1) y4 (dU (LT.quo Q (by decide)) Q y2 Q Q (aI (Iv (aB (Int.tdiv s2.1 10))) y4 (On (aX Q z3 z1))))))
   ·refine gJ y2 z2 z1
  ·refine Ws (Ws (Wr ?_))
   refine aG (Iv n) y4 (aZ LT.lss aP (On (aC.eG (fun j21 => ([(3,Cc (lo 21 j21.length))],[(21,pR 5 bn j21)])) ?_ (fun j21 _ => ?_))))
   ·refine aC.cond Q (fun hc22 => ?_) (fun hc22 => ?_)
    ·refine Wr (aG (Cc (lo 21 b13.length)) y4 (oC (gy 23 bn [(0,.const (.int .u8 45),.c (sC (.int .u8 45)))] ([45]:List Int) qX yR y7) y2 Q Q (aU fun u23 aHT => (oW (LT.ng (enc:=bn) Q Q Q qX yR Q (by decide) (by decide) (fun _ => Q) (jw aHT)) Q Q Q Q Q Q (aI (Cc (lo 21 ((b13 ++ ([45]:List Int)).length))) y4 (On (aX Q z1 z1)))))))
    ·refine aC.skip (aX Q z1 z1)
   ·refine Ws (Ws (Wr ?_))
    refine aG (Cc (lo 21 j21.length)) y4 (au (LT.mM Q qX) Q Q Q (aZ LT.sub aP (aI (Iv 0) ak (aI (Iv (aB ((j21.length:Int) - 1))) y4 (On (aC.block ?_))))))
    refine aC.jP (id:=2) IV (fun s24 => ([(3,Cc (lo 21 s24.2.2.length)),(6,Iv s24.1),(7,Iv s24.2.1)],[(21,pR 5 bn s24.2.2)])) (fun D9 => ([(3,Cc (lo 21 D9.length))],[(21,pR 5 bn D9)])) ?_ (aj.of z3 z1) Q (fun D9 _ => ?_)
    ·intro s24
     unfold IV
     refine Ws (Ws (Wr ?_))
     refine aG (Iv s24.1) y4 (aG (Iv s24.2.1) y4 (aZ LT.lss y5 (On (aC.cond Q (fun aFi => ?_) (fun aFi => ?_)))))
     ·refine aC.skip (Ws (aC.block (aC.draw mixed ?_)))
      refine aY (Cc (lo 21 s24.2.2.length)) y4 (aY (Iv s24.1) y4 (aY (Cc (lo 21 s24.2.2.length)) y4 (aY (Iv s24.2.1) y4 (aY (Cc (lo 21 s24.2.2.length)) y4 (aY (Iv s24.2.1) y4 (aN.bind fun Dt aAk => (kJ (LT.iW Q Q Gz aAk) Q Q Q Q Q (bV (oK 0 Q P7 aAk) Q Q Q Q (aY (Cc (lo 21 s24.2.2.length)) y4 (aY (Iv s24.1) y4 (aN.bind fun x38 hx38 => ?_)))))))))))
      refine kJ (LT.iW Q Q Gz hx38) Q Q Q Q Q (bV (oK 0 Q P7 hx38) Q Q Q Q (aN.bind fun x39 hx39 => (kJ (LT.iW Q Q Gz hx39) Q Q Q Q Q (iY (qW 0 (.c (sC (.int .u8 Dt))) Dt Q Q aAs Tc hx39) Q Q Q Q Q (aN.bind fun x40 En => (kJ (LT.iW (show s24.2.2.length = (s24.2.2.set s24.1.toNat Dt).length by simp only [List.length_set]) Q Gz En) Q Q Q Q Q (iY (qW 0 (.c (sC (.int .u8 x38))) x38 Q Q aAs Tc En) Q Q Q Q Q (dF (aC.blk (en [(3,Cc (lo 21 s24.2.2.length)),(6,Iv s24.1),(7,Iv s24.2.1)] [(21,pR 5 bn ((s24.2.2.set s24.1.toNat Dt).set s24.2.1.toNat x38))] z3 z1 (Wr ?_)))))))))))
      refine aG (Iv s24.1) y4 (aZ LT.add aP (aG (Iv s24.2.1) y4 (aZ LT.sub aP (aI (Iv (aB (s24.1 + 1))) y4 (aI (Iv (aB (s24.2.1 - 1))) y4 (On (aC.nil ⟨Q,aj.of ⟨congrArg (fun l1 => (some (AV.s (.c (lo 21 l1))):Option AV)) (show s24.2.2.length = ((s24.2.2.set s24.1.toNat Dt).set s24.2.1.toNat x38).length by simp only [List.length_set]),Q,Q,J⟩ z1⟩)))))))
     ·refine gJ y2 z1 z1
    ·refine Ws (Wr ?_)
     refine aG (Cc (lo 21 D9.length)) y4 (cZ (LT.Ko Q Q qX zT jh) Q Q Q Q (aI (Cc (sC (.string (yQ D9)))) y4 (On (bT z1 J ⟨ah.sc,J⟩ J))))
theorem aC6 (g:bM):FT Try.prog (IL g) 136 [.agg (dI g)] [] (fun (t:ByteArray) => [.c (sC (.string t))]) (fun (t:ByteArray) => []) []:=by
 refine FT.of [] Try.func136 Try.ntmps136 Q y2 ?_
 intro w0 U0 R0 g0
 unfold IL
 refine Ws (Wr ?_)
 refine fZ 21 (.agg (dI g)) dM y5 (aI (Cc (sC (.string ByteArray.empty))) ak (On (Ws (Ws (Wr ?_)))))
 refine cZ (bD (dI g) Q iI dX dM) Q Q Q Q (aU fun r1 hr1 => (jC [.agg (dI g)] (aC9 g r1 hr1) Yx (qV y2) y5 z2 (au (LT.not Q) Q Q Q (On (aC.cond Q (fun hc2 => ?_) (fun hc2 => ?_))))))
 ·refine Ws (Wr ?_)
  refine aI (Cc (sC (.string ByteArray.empty))) ak (On (bT z1 J ⟨ah.sc,J⟩ J))
 ·refine aC.skip (Ws (Wr ?_))
  refine dR (iC g.aF) lV bK bI (aU fun r3 hr3 => (jC [.c (iC g.aF)] (KA g.aF r3 hr3) Gq (iF Q) y5 z2 (aU fun s4 hs4 => (dU (LT.lT Q hs4) Q y2 Q Q (aI (Cc (sC (.string s4))) y4 (On (Ws (Ws ?_))))))))
  refine en [(1,Cc (.pl 21 0)),(3,Cc (sC (.string s4)))] [(21,.row 26 [dI g])] z2 z1 (Wr (dR (xF aK g.aA) gq iQ bI (au (LT.gB Q iU) Q Q Q (aG (Iv 0) ak (On (aC.block ?_))))))
  refine aC.jP (id:=0) (IQ g) (fun s5 => ([(3,Cc (sC (.string s5.1))),(14,Cc (xF aK g.aA)),(15,Iv (g.aA.length:Int)),(16,Iv s5.2)],[])) (fun b22 => ([(3,Cc (sC (.string b22)))],[])) ?_ (aj.of z4 J) Q (fun b22 _ => ?_)
  ·intro s5
   unfold IQ
   refine Ws (Wr ?_)
   refine aZ LT.lss y5 (On (Ws ?_))
   refine aC.cond Q (fun Ea => ?_) (fun Ea => ?_)
   ·refine aC.skip (Ws (aC.block (Ws (Wr ?_))))
    refine aU fun x24 hx24 => (dU (LT.dZ (enc:=aK) Q oL hx24 fG) Q Q Q Q (au (kC Q lU jW fG) Q Q Q (dQ 24 [iC 0,iC 0] jQ y6 (dA (stA [iC x24.A,iC x24.B] Q Q jW fG) Q Q Q Q Q (On (aC.draw mixed ?_))))))
    refine aY (Cc (sC (.string s5.1))) y4 (aN.bind fun nZ L9 => (bQ (LT.lT Q L9) Q y2 Q Q (dw (iC x24.A) mZ bK bI (aN.bind fun qE Ee => (aN.pure (bU [.c (iC x24.A)] (KA x24.A qE Ee) Gq (iF Q) J y3) z2 J Q Q (aN.bind fun qU V6 => (bQ (LT.lT Q V6) Q Q Q Q (aN.bind fun vU MC => (bQ (LT.lT Q MC) Q y2 Q Q (bH (LT.eu Q nS) Q Q Q ?_))))))))))
    refine bV (wJ (iC x24.B) Q bK) Q Q Q Q (aN.bind fun sV Eg => (aN.pure (bU [.c (iC x24.B)] (KA x24.B sV Eg) Gq (iF Q) J y3) z2 J Q Q (aN.bind fun oJ AZ => (bQ (LT.lT Q AZ) Q Q Q Q (bH (LT.assign (v:=(Cc (sC (.string oJ)))) Q) Q Q Q (dF (aC.blk (en [(3,Cc (sC (.string oJ))),(14,Cc (xF aK g.aA)),(15,Iv (g.aA.length:Int)),(16,Iv s5.2)] [] z4 J (Wr (aZ LT.add aP (aG (Iv (aB (s5.2 + 1))) y4 ?_)))))))))))
    refine On (aX Q z4 J)
   ·refine gJ y2 z1 J
  ·refine Ws (Wr ?_)
   refine aG (Cc (sC (.string b22))) y4 (aI (Cc (sC (.string b22))) y4 (On (bT z1 J ⟨ah.sc,J⟩ J)))
theorem aC5 (f:aW):FT Try.prog (IJ f) 63 [.agg (ay f)] [] (fun (t:ByteArray) => [.c (sC (.string t))]) (fun (t:ByteArray) => []) []:=by
 refine FT.of [] Try.func63 Try.ntmps63 Q y2 ?_
 intro w0 U0 R0 g0
 unfold IJ
 refine Ws (Wr ?_)
 refine fZ 21 (.agg (ay f)) ai y5 (aI (Cc (sC (.string ByteArray.empty))) ak (On (Ws (Ws (Wr ?_)))))
 refine cZ (bD (ay f) Q bP ax ai) Q Q Q Q (aU fun r1 hr1 => (jC [.agg (ay f)] (vW f r1 hr1) vI (jd y3) y5 z2 (au (LT.not Q) Q Q Q (On (aC.cond Q (fun hc2 => ?_) (fun hc2 => ?_))))))
 ·refine Ws (Wr ?_)
  refine aI (Cc (sC (.string ByteArray.empty))) ak (On (bT z1 J ⟨ah.sc,J⟩ J))
 ·refine aC.skip (Ws (Wr ?_))
  refine au (LT.eu Q jv) Q Q Q (cZ (bD (dI f.Graph) Q iI dX dM) Q Q Q Q (aU fun r3 hr3 => (jC [.agg (dI f.Graph)] (aC6 f.Graph r3 hr3) Y1 (qV y2) y5 z2 (aU fun s4 hs4 => (dU (LT.lT Q hs4) Q y2 Q Q (aI (Cc (sC (.string s4))) y4 (On (Ws (Ws ?_)))))))))
  refine en [(1,Cc (.pl 21 0)),(3,Cc (sC (.string s4)))] [(21,.row 29 [ay f])] z2 z1 (Wr (dR (xF aJ f.Places) fJ fV bI (au (LT.gB Q lQ) Q Q Q (aG (Iv 0) ak (On (aC.block ?_))))))
  refine aC.jP (id:=0) (IK f) (fun s5 => ([(3,Cc (sC (.string s5.1))),(14,Cc (xF aJ f.Places)),(15,Iv (f.Places.length:Int)),(16,Iv s5.2)],[])) (fun b22 => ([(3,Cc (sC (.string b22)))],[])) ?_ (aj.of z4 J) Q (fun b22 _ => ?_)
  ·intro s5
   unfold IK
   refine Ws (Wr ?_)
   refine aZ LT.lss y5 (On (Ws ?_))
   refine aC.cond Q (fun Ea => ?_) (fun Ea => ?_)
   ·refine aC.skip (Ws (aC.block (Ws (Wr ?_))))
    refine aU fun x24 hx24 => (dU (LT.dZ (enc:=aJ) Q jD hx24 bf) Q Q Q Q (au (kC Q gI dS bf) Q Q Q (dQ 24 [iC 0,iC 0] kM y6 (dA (stA [iC x24.X,iC x24.Y] Q Q dS bf) Q Q Q Q Q (On (aC.draw mixed ?_))))))
    refine aY (Cc (sC (.string s5.1))) y4 (aN.bind fun nZ L9 => (bQ (LT.lT Q L9) Q y2 Q Q (dw (iC x24.X) kV bK bI (aN.bind fun qE Ee => (aN.pure (bU [.c (iC x24.X)] (KA x24.X qE Ee) Gq (iF Q) J y3) z2 J Q Q (aN.bind fun qU V6 => (bQ (LT.lT Q V6) Q Q Q Q (aN.bind fun vU MC => (bQ (LT.lT Q MC) Q y2 Q Q (bH (LT.eu Q lq) Q Q Q ?_))))))))))
    refine bV (wJ (iC x24.Y) Q bK) Q Q Q Q (aN.bind fun sV Eg => (aN.pure (bU [.c (iC x24.Y)] (KA x24.Y sV Eg) Gq (iF Q) J y3) z2 J Q Q (aN.bind fun oJ AZ => (bQ (LT.lT Q AZ) Q Q Q Q (bH (LT.assign (v:=(Cc (sC (.string oJ)))) Q) Q Q Q (dF (aC.blk (en [(3,Cc (sC (.string oJ))),(14,Cc (xF aJ f.Places)),(15,Iv (f.Places.length:Int)),(16,Iv s5.2)] [] z4 J (Wr (aZ LT.add aP (aG (Iv (aB (s5.2 + 1))) y4 ?_)))))))))))
    refine On (aX Q z4 J)
   ·refine gJ y2 z1 J
  ·refine Ws (Wr ?_)
   refine aG (Cc (sC (.string b22))) y4 (aI (Cc (sC (.string b22))) y4 (On (bT z1 J ⟨ah.sc,J⟩ J)))
theorem Tz (s:ByteArray) (ku:Int):FT Try.prog (CW s ku) 138 [.c (sC (.string s)),.c (sC (.int .u8 ku))] [] (fun (t:(List ByteArray)) => [.c (lo 0 t.length)]) (fun (t:(List ByteArray)) => [(0,pR 9 encStr t)]) [0]:=by
 refine FT.of [] Try.func138 Try.ntmps138 Q y2 ?_
 intro w0 U0 R0 g0
 unfold CW
 refine Ws (Wr ?_)
 refine aI (Cc (sC aO)) ak (On (Ws (Wr ?_)))
 refine ny (gy 21 encStr [] [] ni yS y7) Q Q (aI (Cc (lo 21 (([]:List ByteArray).length))) y4 (On (Ws (Wr ?_))))
 refine aI (Iv 0) ak (On (Ws (Ws (Wr ?_))))
 refine aI (Iv 0) ak (On (aC.block ?_))
 refine aC.jP (id:=0) (Il s ku) (fun s1 => ([(0,Cc (sC (.string s))),(1,Cc (sC (.int .u8 ku))),(5,Cc (lo 21 s1.2.2.length)),(6,Iv s1.1),(7,Iv s1.2.1)],[(21,pR 9 encStr s1.2.2)])) (fun b20 => ([(0,Cc (sC (.string s))),(5,Cc (lo 21 b20.2.length)),(6,Iv b20.1)],[(21,pR 9 encStr b20.2)])) ?_ (aj.of z5 z1) Q (fun b20 _ => ?_)
 ·intro s1
  unfold Il
  refine Ws (Ws (Wr ?_))
  refine aG (Iv s1.2.1) y4 (aG (Cc (sC (.string s))) y4 (au (LT.lenStr Q jh) Q Q Q (aZ LT.lss y5 (On (aC.cond Q (fun hc21 => ?_) (fun hc21 => ?_))))))
  ·refine aC.skip (Ws (aC.block (Ws (Wr ?_))))
   refine aG (Cc (sC (.string s))) y4 (aG (Iv s1.2.1) y4 (aU fun uK MN => (dU (LT.indexStr Q jh MN) Q Q Q Q (aG (Cc (sC (.int .u8 ku))) y4 (aZ LT.eql y5 (On (aC.eG (fun j26 => ([(0,Cc (sC (.string s))),(1,Cc (sC (.int .u8 ku))),(5,Cc (lo 21 j26.2.length)),(6,Iv j26.1),(7,Iv s1.2.1)],[(21,pR 9 encStr j26.2)])) ?_ (fun j26 _ => ?_))))))))
   ·refine aC.cond Q (fun hc27 => ?_) (fun hc27 => ?_)
    ·refine Ws (Wr ?_)
     refine aG (Cc (lo 21 s1.2.2.length)) y4 (aG (Cc (sC (.string s))) y4 (aG (Iv s1.1) y4 (aG (Iv s1.2.1) y4 (aU fun vU MC => (YW (LT.xP (kU:=(some (.tmp 22,s1.1))) (kT:=(some (.tmp 23,s1.2.1))) Q Q Q jh (.inl Q) (.inl Q) MC) Q Q Q Q Q (oC (gy 22 encStr [(0,.tmp 24,.c (sC (.string vU)))] [vU] ni yS y7) Q Q Q (aU fun u29 aHZ => (oW (LT.ng (enc:=encStr) Q Q Q ni yS Q (by decide) (by decide) (fun _ => Q) (jw aHZ)) Q Q Q Q Q Q (aI (Cc (lo 21 ((s1.2.2 ++ [vU]).length))) y4 (On (en [(0,Cc (sC (.string s))),(1,Cc (sC (.int .u8 ku))),(5,Cc (lo 21 ((s1.2.2 ++ [vU]).length))),(7,Iv s1.2.1)] [(21,pR 9 encStr (s1.2.2 ++ [vU]))] z4 z1 ?_)))))))))))
     refine Wr (aG (Iv s1.2.1) y4 (aZ LT.add aP (aI (Iv (aB (s1.2.1 + 1))) y4 (On (aX Q z5 z1)))))
    ·refine aC.skip (aX Q z5 z1)
   ·refine aC.blk (Wr ?_)
    refine aG (Iv s1.2.1) y4 (aZ LT.add aP (aI (Iv (aB (s1.2.1 + 1))) y4 (On (aX Q z5 z1))))
  ·refine gJ y2 z3 z1
 ·refine Ws (Wr ?_)
  refine aG (Cc (lo 21 b20.2.length)) y4 (aG (Cc (sC (.string s))) y4 (aG (Iv b20.1) y4 (aU fun oJ AZ => (dU (LT.xP (kU:=(some (.tmp 31,b20.1))) (kT:=none) Q Q Q jh (.inl Q) (.inr y2) AZ) Q Q Q Q (oC (gy 23 encStr [(0,.tmp 32,.c (sC (.string oJ)))] [oJ] ni yS y7) Q Q Q (aU fun u31 WE => (oW (LT.ng (enc:=encStr) Q Q Q ni yS Q (by decide) (by decide) (fun _ => Q) (jw WE)) Q Q Q Q Q Q (aI (Cc (lo 21 ((b20.2 ++ [oJ]).length))) y4 (On (en [(4,Cc (lo 21 ((b20.2 ++ [oJ]).length)))] [(21,pR 9 encStr (b20.2 ++ [oJ]))] z1 z1 (aC.ent (aj.mv 21 0 Q Q) ?_)))))))))))
  refine en [(4,Cc (lo 0 ((b20.2 ++ [oJ]).length)))] [(0,pR 9 encStr (b20.2 ++ [oJ]))] z1 z1 (bT z1 z1 ⟨J,J⟩ ⟨bg.dO aBw,J⟩)
theorem aKc (s:(List ByteArray)) (v:ByteArray):FT Try.prog (FB s v) 139 [.c (xF encStr s),.c (sC (.string v))] [] (fun (t:Int) => [.c (iC t)]) (fun (t:Int) => []) []:=by
 refine FT.of [] Try.func139 Try.ntmps139 Q y2 ?_
 intro w0 U0 R0 g0
 unfold FB
 refine Ws (Wr ?_)
 refine aI (Iv 0) ak (On (Ws (Ws (Wr ?_))))
 refine aG (Cc (xF encStr s)) y4 (au (LT.gB Q ni) Q Q Q (aG (Iv 0) ak (On (aC.block ?_))))
 refine aC.ql (id:=0) (CZ s v) (fun s1 => ([(0,Cc (xF encStr s)),(1,Cc (sC (.string v))),(7,Iv (s.length:Int)),(8,Iv s1)],[])) (fun b8 => ([],[])) (lI Try.prog Try.f139.results.toList [] [] (fun (t:Int) => [.c (iC t)]) (fun (t:Int) => [])) ?_ (aj.of z4 J) Q (fun b8 _ => ?_) qj
 ·intro s1
  unfold CZ
  refine Ws (Wr ?_)
  refine aZ LT.lss y5 (On (Ws ?_))
  refine aC.cond Q (fun AO => ?_) (fun AO => ?_)
  ·refine aC.skip (Ws (aC.block (Ws (Wr ?_))))
   refine aG (Iv s1) y4 (aI (Iv s1) y4 (On (Ws (Wr ?_))))
   refine aG (Cc (sC (.string v))) y4 (aG (Cc (xF encStr s)) y4 (aG (Iv s1) y4 (aU fun x10 zB => (dU (LT.dZ (enc:=encStr) Q o9 zB Di) Q Q Q Q (au (LT.iq Q o7) Q Q Q (aZ LT.Uz y5 (On (aC.cond Q (fun EZ => ?_) (fun EZ => ?_)))))))))
   ·refine Ws (Wr ?_)
    refine aG (Iv s1) y4 (aI (Iv s1) y4 (On (aC.ret ⟨Q,qc z1 J ⟨ah.sc,J⟩ J⟩)))
   ·refine aC.skip (aC.blk (Wr ?_))
    refine aZ LT.add aP (aG (Iv (aB (s1 + 1))) y4 (On (aX Q z4 J)))
  ·refine gJ y2 J J
 ·refine Ws (Wr ?_)
  refine aI (Iv (-1)) ak (On (bT z1 J ⟨ah.sc,J⟩ J))
theorem aKT (l:(List ByteArray)) (ku:ByteArray):FT Try.prog (E5 l ku) 141 [.c (xF encStr l),.c (sC (.string ku))] [] (fun (t:ByteArray) => [.c (sC (.string t))]) (fun (t:ByteArray) => []) []:=by
 refine FT.of [] Try.func141 Try.ntmps141 Q y2 ?_
 intro w0 U0 R0 g0
 unfold E5
 refine Ws (Wr ?_)
 refine aI (Cc (sC (.string ByteArray.empty))) ak (On (Ws (Wr ?_)))
 refine aI (Cc (sC (.string ByteArray.empty))) ak (On (Ws (Ws (Wr ?_))))
 refine aG (Cc (xF encStr l)) y4 (au (LT.gB Q ni) Q Q Q (aG (Iv 0) ak (On (aC.block ?_))))
 refine aC.jP (id:=0) (Ak l ku) (fun s1 => ([(1,Cc (sC (.string ku))),(5,Cc (sC (.string s1.1))),(8,Cc (xF encStr l)),(9,Iv (l.length:Int)),(10,Iv s1.2)],[])) (fun b18 => ([(5,Cc (sC (.string b18)))],[])) ?_ (aj.of z5 J) Q (fun b18 _ => ?_)
 ·intro s1
  unfold Ak
  refine Ws (Wr ?_)
  refine aZ LT.lss y5 (On (Ws ?_))
  refine aC.cond Q (fun hc19 => ?_) (fun hc19 => ?_)
  ·refine aC.skip (Ws (aC.block (Ws (Wr ?_))))
   refine aG (Iv s1.2) y4 (aU fun x20 Ht => (dU (LT.dZ (enc:=encStr) Q o9 Ht Di) Q Q Q Q (au (LT.iq Q o7) Q Q Q (aI (Iv s1.2) y4 (aI (Cc (sC (.string x20))) y4 (On (Ws (Ws (Wr ?_)))))))))
   refine aG (Iv s1.2) y4 (aZ LT.gtr aP (On (aC.eG (fun j23 => ([(1,Cc (sC (.string ku))),(5,Cc (sC (.string j23))),(7,Cc (sC (.string x20))),(8,Cc (xF encStr l)),(9,Iv (l.length:Int)),(10,Iv s1.2)],[])) ?_ (fun j23 _ => ?_))))
   ·refine aC.cond Q (fun hc24 => ?_) (fun hc24 => ?_)
    ·refine Wr (aG (Cc (sC (.string s1.1))) y4 (aG (Cc (sC (.string ku))) y4 (aU fun nZ L9 => (dU (LT.lT Q L9) Q Q Q Q (aI (Cc (sC (.string nZ))) y4 (On (aX Q z6 J)))))))
    ·refine aC.skip (aX Q z6 J)
   ·refine Wr (aG (Cc (sC (.string j23))) y4 (aG (Cc (sC (.string x20))) y4 (aU fun s26 MB => (dU (LT.lT Q MB) Q Q Q Q (aI (Cc (sC (.string s26))) y4 (On (aC.blk (Wr ?_))))))))
    refine aZ LT.add aP (aG (Iv (aB (s1.2 + 1))) y4 (On (aX Q z5 J)))
  ·refine gJ y2 z1 J
 ·refine Ws (Wr ?_)
  refine aG (Cc (sC (.string b18))) y4 (aI (Cc (sC (.string b18))) y4 (On (bT z1 J ⟨ah.sc,J⟩ J)))
theorem PX (s:ByteArray):FT Try.prog (zF s) 142 [.c (sC (.string s))] [] (fun (t:(Int × Bool)) => [.c (iC t.1),.c (bC t.2)]) (fun (t:(Int × Bool)) => []) []:=by
 refine FT.of [] Try.func142 Try.ntmps142 Q y2 ?_
 intro w0 U0 R0 g0
 unfold zF
 refine Ws (Wr ?_)
 refine aI (Iv 0) ak (aI (Bv false) ak (On (Ws (Wr ?_))))
 refine aI (Iv 0) ak (On (Ws (Ws ?_)))
 refine aC.eG (fun j3 => ([(0,Cc (sC (.string s))),(4,Iv 0),(14,Bv j3)],[])) ?_ (fun j3 _ => ?_)
 ·refine Wr (aG (Cc (sC (.string s))) y4 (au (LT.lenStr Q jh) Q Q Q (aZ LT.gtr aP (aG (Bv (decide (0 < (s.size:Int)))) y4 (aT.split (fun hb4 => ?_) (fun hb4 => ?_))))))
  ·refine iy (Cc (sC (.string s))) hb4 y5 (aU fun x5 hx5 => (dU (LT.indexStr Q jh hx5) Q y2 (gH hb4 Q Q) Q (iV LT.eql hb4 kY (dn (Bv (x5 == 45)) hb4 y5 (On (aX Q z3 J))))))
  ·refine af hb4 y5 (af hb4 y5 (af hb4 y5 (gK (Bv false) hb4 aP (On (aX Q z3 J)))))
 ·refine aC.eG (fun j7 => ([(0,Cc (sC (.string s))),(4,Iv j7)],[])) ?_ (fun j7 _ => ?_)
  ·refine aC.cond Q (fun hc8 => ?_) (fun hc8 => ?_)
   ·refine Wr (aI (Iv 1) ak (On (aX Q z2 J)))
   ·refine aC.skip (aX Q z2 J)
  ·refine Ws (Ws (Wr ?_))
   refine aG (Cc (sC (.string s))) y4 (au (LT.lenStr Q jh) Q Q Q (aG (Iv j7) y4 (aZ LT.sub y5 (aU fun r9 yH => (jC [.c (iC (aB ((s.size:Int) - j7))),.c (iC 1),.c (iC 9)] (PY (aB ((s.size:Int) - j7)) 1 9 r9 yH) KY (vV y3) y5 ⟨Q,Q,y2,y2,J⟩ (au (LT.not Q) Q Q Q (On (aC.cond Q (fun LY => ?_) (fun LY => ?_)))))))))
   ·refine Ws (Wr ?_)
    refine aI (Iv 0) ak (aI (Bv false) ak (On (bT z2 J ⟨ah.sc,ah.sc,J⟩ J)))
   ·refine aC.skip (Ws (Wr ?_))
    refine aI (Iv 0) ak (On (Ws (Ws (Wr ?_))))
    refine aG (Iv j7) y4 (aI (Iv j7) y4 (On (aC.block ?_)))
    refine aC.ql (id:=0) (Ic s j7) (fun s11 => ([(0,Cc (sC (.string s))),(4,Iv j7),(5,Iv s11.1),(6,Iv s11.2)],[])) (fun b32 => ([(0,Cc (sC (.string s))),(4,Iv b32.1),(5,Iv b32.2)],[])) (lI Try.prog Try.f142.results.toList [] [] (fun (t:(Int × Bool)) => [.c (iC t.1),.c (bC t.2)]) (fun (t:(Int × Bool)) => [])) ?_ (aj.of z4 J) Q (fun b32 _ => ?_) qj
    ·intro s11
     unfold Ic
     refine Ws (Ws (Wr ?_))
     refine aG (Iv s11.2) y4 (aG (Cc (sC (.string s))) y4 (au (LT.lenStr Q jh) Q Q Q (aZ LT.lss y5 (On (aC.cond Q (fun VY => ?_) (fun VY => ?_))))))
     ·refine aC.skip (Ws (aC.block (Ws (Ws ?_))))
      refine aC.eG (fun j37 => ([(0,Cc (sC (.string s))),(4,Iv j7),(5,Iv s11.1),(6,Iv s11.2),(37,Bv j37)],[])) ?_ (fun j37 _ => ?_)
      ·refine Wr (aG (Cc (sC (.string s))) y4 (aG (Iv s11.2) y4 (aU fun x38 hx38 => (dU (LT.indexStr Q jh hx38) Q Q Q Q (aZ LT.lss aP (aG (Bv (decide (x38 < 48))) y4 (aT.split (fun yA => ?_) (fun yA => ?_))))))))
       ·refine af yA y5 (af yA y5 (af yA y5 (af yA y5 (dn (Bv true) yA aP (On (aX Q z5 J))))))
       ·refine iy (Cc (sC (.string s))) yA y5 (iy (Iv s11.2) yA y5 (aU fun x40 En => (dU (LT.indexStr Q jh En) Q Q (gH yA Q Q) Q (iV LT.gtr yA kY (gK (Bv (decide (57 < x40))) yA y5 (On (aX Q z5 J)))))))
      ·refine aC.cond Q (fun Eb => ?_) (fun Eb => ?_)
       ·refine Ws (Wr ?_)
        refine aI (Iv 0) ak (aI (Bv false) ak (On (aC.ret ⟨Q,qc z2 J ⟨ah.sc,ah.sc,J⟩ J⟩)))
       ·refine aC.skip (Wr ?_)
        refine aG (Iv s11.1) y4 (aZ LT.mul oQ (aG (Cc (sC (.string s))) y4 (aG (Iv s11.2) y4 (aU fun gu Bz => (dU (LT.indexStr Q jh Bz) Q Q Q Q (aZ LT.aCe aP (au (LT.yw Q PO PL) Q Q Q (aZ LT.add y5 (aI (Iv (aB ((aB (10 * s11.1)) + (aB (IntKind.u8.wrap (gu - 48)))))) y4 (On (aC.blk (Wr ?_))))))))))))
        refine aG (Iv s11.2) y4 (aZ LT.add aP (aI (Iv (aB (s11.2 + 1))) y4 (On (aX Q z4 J))))
     ·refine gJ y2 z3 J
    ·refine Ws (Ws (Wr ?_))
     refine aG (Iv b32.1) y4 (aZ LT.eql aP (On (aC.eG (fun j44 => ([(0,Cc (sC (.string s))),(5,Iv j44)],[])) ?_ (fun j44 _ => ?_))))
     ·refine aC.cond Q (fun aFn => ?_) (fun aFn => ?_)
      ·refine Wr (aG (Iv b32.2) y4 (au (LT.neg Q) Q Q Q (aI (Iv (aB (-b32.2))) y4 (On (aX Q z2 J)))))
      ·refine aC.skip (aX Q z2 J)
     ·refine Ws (Ws (Wr ?_))
      refine aG (Iv j44) y4 (aU fun XZ aGs => (jC [.c (iC j44)] (KA j44 XZ aGs) Gq (iF Q) y5 z2 (aG (Cc (sC (.string s))) y4 (aZ LT.FU y5 (On (aC.cond Q (fun hc47 => ?_) (fun hc47 => ?_)))))))
      ·refine Ws (Wr ?_)
       refine aI (Iv 0) ak (aI (Bv false) ak (On (bT z2 J ⟨ah.sc,ah.sc,J⟩ J)))
      ·refine aC.skip (Ws (Wr ?_))
       refine aG (Iv j44) y4 (aI (Iv j44) y4 (aI (Bv true) ak (On (bT z2 J ⟨ah.sc,ah.sc,J⟩ J))))
theorem aKL (s:ByteArray):FT Try.prog (Ey s) 140 [.c (sC (.string s))] [] (fun (t:(bM × Bool)) => [.agg [iC t.1.aF,lo 0 t.1.aA.length],.c (bC t.2)]) (fun (t:(bM × Bool)) => [(0,pR 96 aK t.1.aA)]) [0]:=by
 refine FT.A8 [] Try.func140 Try.ntmps140 Q y2 ?_
 intro w0 U0 R0 g0 hU
 unfold Ey
 refine Ws (Wr ?_)
 refine dQ 21 [iC 0,sC aO] lF y6 (aI (Bv false) ak (On (Ws (Wr ?_))))
 refine aG (Cc (sC (.string s))) y4 (aU fun r1 hr1 => (aT.step (bU [.c (sC (.string s)),.c (sC (.int .u8 32))] (Fw.Fn.ren [(0,23)] (Tz s 32 r1 hr1) Q) QF (jG y2) J y3) ⟨Q,Q,y2,J⟩ J Q Q (aI (Cc (lo 23 r1.length)) y4 (On (Ws (Wr ?_))))))
 refine uX (LT.build [] Q Q uy lF Q Q Q) Q Q (dQ 24 [iC 0,sC aO] lF y6 (dA (stA [iC 0,sC aO] Q Q dX dM) Q Q Q Q Q (On (Ws ?_))))
 refine en [(0,Cc (sC (.string s))),(2,Cc (.pl 21 0)),(4,Cc (lo 23 r1.length)),(5,Cc (.pl 24 0))] [(21,.row 26 [[iC 0,sC aO]]),(23,pR 9 encStr r1),(24,.row 26 [[iC 0,sC aO]])] z4 z3 (aC.draw mixed (aY (Cc (lo 23 r1.length)) y4 (aN.bind fun x2 hx2 => (kJ (LT.iW Q Q o9 hx2) Q y2 Q Q Q (bV (oK 0 Q o7 hx2) Q Q Q Q (aY (Cc (lo 23 r1.length)) y4 (aN.bind fun x3 hx3 => (kJ (LT.iW Q Q o9 hx3) Q y2 Q Q Q (bV (oK 0 Q o7 hx3) Q Q Q Q (bH (LT.lenStr Q jh) Q Q Q (jS LT.sub aP ?_)))))))))))
 refine jS LT.max oQ (aN.bind fun s4 hs4 => (bQ (LT.xP (kU:=none) (kT:=(some (.tmp 22,(if 0 < (aB ((x3.size:Int) - 1)) then (aB ((x3.size:Int) - 1)) else 0)))) Q Q Q jh (.inr y2) (.inl Q) hs4) Q Q Q Q (aN.bind fun r5 nU => (aN.pure (bU [.c (sC (.string s4))] (PX s4 r5 nU) KW (iF Q) J y3) z2 J Q Q (aY (.dW [.c (iC r5.1),.c (bC r5.2)]) y4 (Zq (.c (iC r5.1)) y5 (Zq (.c (bC r5.2)) y5 (bH (LT.eu Q lV) Q Q Q (iY (rD (.c (iC r5.1)) [iC r5.1,sC aO] Q Q qh jq) Q Q Q Q Q (dF (Ws (Ws ?_))))))))))))
 refine en [(0,Cc (sC (.string s))),(2,Cc (.pl 21 0)),(4,Cc (lo 23 r1.length)),(5,Cc (.pl 24 0))] [(21,.row 26 [[iC 0,sC aO]]),(23,pR 9 encStr r1),(24,.row 26 [[iC r5.1,sC aO]])] z4 z3 (Wr (aG (Cc (lo 23 r1.length)) y4 (aT.ent (aj.Bo (enc:=encStr) (xs:=r1) (σ':=[(0,Cc (sC (.string s))),(2,Cc (.pl 21 0)),(4,Cc (xT encStr r1)),(5,Cc (.pl 24 0)),(28,Cc (xT encStr r1))]) (m':=[(21,.row 26 [[iC 0,sC aO]]),(24,.row 26 [[iC r5.1,sC aO]])]) 23 hU Q Q ⟨⟨_,Q,.same Q⟩,⟨_,Q,.same Q⟩,⟨_,Q,.c (.fr (by rw [List.length_map]))⟩,⟨_,Q,.same Q⟩,⟨_,Q,.c (.fr (by rw [List.length_map]))⟩,J⟩ ⟨⟨Q,_,Q,.same Q⟩,⟨Q,_,Q,.same Q⟩,J⟩) (aU fun v6 hv6 => (dU (LT.J4 (enc:=encStr) (kU:=(some (.const (.int .i64 1),1))) (kT:=none) (l:=(Int.toNat 1)) (h:=r1.length) Q Q Q ni WW (fun _ => by rw [Di]; rfl) (.inl ⟨_,_,Q,(zO hv6).1,Q⟩) (.inr y2) (Jy hv6) (Jw hv6)) Q y2 Q Q (au (LT.gB Q ni) Q Q Q (aG (Iv 0) ak (On (aC.block ?_)))))))))
 refine aC.ent (aj.qp 24 1 33 96 Q Q Q Q) (aC.ql (id:=0) (Aj r1 r5) (fun s7 => ([(0,Cc (sC (.string s))),(2,Cc (.pl 21 0)),(5,Cc (.pl 24 0)),(29,Cc (xT encStr ((r1.take r1.length).drop (Int.toNat 1)))),(30,Iv (((r1.take r1.length).drop (Int.toNat 1)).length:Int)),(31,Iv s7.1)],[(21,.row 26 [[iC 0,sC aO]]),(24,.row 26 [[iC r5.1,lo 33 s7.2.length]]),(33,pR 96 aK s7.2)])) (fun b32 => ([(0,Cc (sC (.string s))),(2,Cc (.pl 21 0)),(5,Cc (.pl 24 0))],[(21,.row 26 [[iC 0,sC aO]]),(24,.row 26 [[iC b32.1,lo 33 b32.2.length]]),(33,pR 96 aK b32.2)])) (lI Try.prog Try.f140.results.toList [] [0] (fun (t:(bM × Bool)) => [.agg [iC t.1.aF,lo 0 t.1.aA.length],.c (bC t.2)]) (fun (t:(bM × Bool)) => [(0,pR 96 aK t.1.aA)])) ?_ (aj.of z6 z3) Q (fun b32 _ => ?_) qj)
 ·intro s7
  unfold Aj
  refine Ws (Wr ?_)
  refine aZ LT.lss y5 (On (Ws ?_))
  refine aC.cond Q (fun VY => ?_) (fun VY => ?_)
  ·refine aC.skip (Ws (aC.block (Ws (Wr ?_))))
   refine aU fun x34 hx34 => (dU (LT.dZ (enc:=encStr) Q o9 hx34 Di) Q Q Q Q (au (LT.iq Q o7) Q Q Q (aI (Cc (sC (.string x34))) y4 (On (Ws (Wr ?_))))))
   refine aG (Cc (sC (.string x34))) y4 (aU fun jX L6 => (aT.step (bU [.c (sC (.string x34)),.c (sC (.int .u8 45))] (Fw.Fn.ren [(0,27)] (Tz x34 45 jX L6) Q) QF (jG y2) J y3) ⟨Q,Q,y2,J⟩ J Q Q (aI (Cc (lo 27 jX.length)) y4 (On (Ws (Ws ?_))))))
   refine aC.eG (fun j37 => ([(0,Cc (sC (.string s))),(2,Cc (.pl 21 0)),(5,Cc (.pl 24 0)),(8,Cc (lo 27 jX.length)),(29,Cc (xT encStr ((r1.take r1.length).drop (Int.toNat 1)))),(30,Iv (((r1.take r1.length).drop (Int.toNat 1)).length:Int)),(31,Iv s7.1),(45,Bv j37)],[(21,.row 26 [[iC 0,sC aO]]),(24,.row 26 [[iC r5.1,lo 33 s7.2.length]]),(27,pR 9 encStr jX),(33,pR 96 aK s7.2)])) ?_ (fun j37 _ => ?_)
   ·refine Wr (aG (Cc (lo 27 jX.length)) y4 (au (LT.mM Q ni) Q Q Q (aZ LT.neq aP (aG (Bv ((jX.length:Int) != 2)) y4 (aT.split (fun yx => ?_) (fun yx => ?_))))))
    ·refine af yx y5 (af yx y5 (af yx y5 (af yx y5 (dn (Bv true) yx aP (On (aX Q z8 z4))))))
    ·refine jf (lo 33 s7.2.length) gq iQ yx gm (au (LT.mM Q iU) Q (gH yx Q Q) Q (iV LT.eql yx kY (gK (Bv ((s7.2.length:Int) == 24)) yx y5 (On (aX Q z8 z4)))))
   ·refine aC.cond Q (fun hc39 => ?_) (fun hc39 => ?_)
    ·refine Ws (Wr ?_)
     refine uX (LT.build [] Q Q uy lF Q Q Q) Q Q (dA (stA [iC 0,sC aO] Q Q dX dM) Q Q Q Q Q (aI (Bv false) ak (On (aC.ent (aj.qp 21 1 0 96 Q Q Q Q) (en [(2,Cc (.pl 21 0)),(3,Bv false)] [(0,pR 96 aK ([]:List aV)),(21,.row 26 [[iC 0,lo 0 (([]:List aV).length)]])] z2 z2 (aC.ret ⟨Q,qc ⟨⟨_,_,_,Q,Q,Q,iI,dM,_,fE dX⟩,Q,J⟩ z1 ⟨⟨ah.sc,J,J⟩,ah.sc,J⟩ ⟨bg.dO iP,J⟩⟩))))))
    ·refine aC.skip (Ws (Wr ?_))
     refine uX (LT.build [] Q Q zJ jQ Q Q Q) Q Q (dQ 28 [iC 0,iC 0] jQ y6 (dA (stA [iC 0,iC 0] Q Q jW fG) Q Q Q Q Q (On (Ws (Wr ?_)))))
     refine aG (Cc (lo 27 jX.length)) y4 (aU fun x40 En => (lS (LT.iW Q Q o9 En) Q y2 Q Q Q (cZ (oK 0 Q o7 En) Q Q Q Q (aU fun eH L8 => (jC [.c (sC (.string x40))] (PX x40 eH L8) KW (iF Q) y5 z2 (aG (.dW [.c (iC eH.1),.c (bC eH.2)]) y4 (jc (.c (iC eH.1)) y5 (jc (.c (bC eH.2)) y5 (au (LT.eu Q mZ) Q Q Q (dA (rD (.c (iC eH.1)) [iC eH.1,iC 0] Q Q qh jq) Q Q Q Q Q (On (Ws ?_))))))))))))
     refine en [(0,Cc (sC (.string s))),(2,Cc (.pl 21 0)),(5,Cc (.pl 24 0)),(8,Cc (lo 27 jX.length)),(9,Cc (.pl 28 0)),(29,Cc (xT encStr ((r1.take r1.length).drop (Int.toNat 1)))),(30,Iv (((r1.take r1.length).drop (Int.toNat 1)).length:Int)),(31,Iv s7.1)] [(21,.row 26 [[iC 0,sC aO]]),(24,.row 26 [[iC r5.1,lo 33 s7.2.length]]),(27,pR 9 encStr jX),(28,.row 96 [[iC eH.1,iC 0]]),(33,pR 96 aK s7.2)] z8 z5 (Wr (aG (Cc (lo 27 jX.length)) y4 (aU fun gu Bz => (lS (LT.iW Q Q o9 Bz) Q y2 Q Q Q (cZ (oK 0 Q o7 Bz) Q Q Q Q (aU fun qF aGr => (jC [.c (sC (.string gu))] (PX gu qF aGr) KW (iF Q) y5 z2 (aG (.dW [.c (iC qF.1),.c (bC qF.2)]) y4 (jc (.c (iC qF.1)) y5 (jc (.c (bC qF.2)) y5 (au (LT.eu Q nS) Q Q Q ?_)))))))))))
     refine dA (rD (.c (iC qF.1)) [iC eH.1,iC qF.1] Q Q qh jq) Q Q Q Q Q (On (en [(0,Cc (sC (.string s))),(2,Cc (.pl 21 0)),(5,Cc (.pl 24 0)),(9,Cc (.pl 28 0)),(29,Cc (xT encStr ((r1.take r1.length).drop (Int.toNat 1)))),(30,Iv (((r1.take r1.length).drop (Int.toNat 1)).length:Int)),(31,Iv s7.1)] [(21,.row 26 [[iC 0,sC aO]]),(24,.row 26 [[iC r5.1,lo 33 s7.2.length]]),(28,.row 96 [[iC eH.1,iC qF.1]]),(33,pR 96 aK s7.2)] z7 z4 (Wr (dR (lo 33 s7.2.length) gq iQ bI (cZ (bD [iC eH.1,iC qF.1] Q lU jW fG) Q Q Q Q (oC (gy 31 aK [(0,.tmp 66,.agg [iC eH.1,iC qF.1])] [aV.mk eH.1 qF.1] iU jQ y7) Q Q Q (aU fun u44 MH => (oW (LT.ng (enc:=aK) Q Q Q iU jQ Q (by decide) (by decide) (fun _ => Q) (jw MH)) Q Q Q Q Q Q (au (LT.eu Q gq) Q Q Q (dA (rD (.c (lo 33 ((s7.2 ++ [aV.mk eH.1 qF.1]).length))) [iC r5.1,lo 33 ((s7.2 ++ [aV.mk eH.1 qF.1]).length)] Q Q Eo Fp) Q Q Q Q Q ?_))))))))))
     refine On (aC.blk ?_)
     refine en [(0,Cc (sC (.string s))),(2,Cc (.pl 21 0)),(5,Cc (.pl 24 0)),(29,Cc (xT encStr ((r1.take r1.length).drop (Int.toNat 1)))),(30,Iv (((r1.take r1.length).drop (Int.toNat 1)).length:Int)),(31,Iv s7.1)] [(21,.row 26 [[iC 0,sC aO]]),(24,.row 26 [[iC r5.1,lo 33 ((s7.2 ++ [aV.mk eH.1 qF.1]).length)]]),(33,pR 96 aK (s7.2 ++ [aV.mk eH.1 qF.1]))] z6 z3 (Wr (aZ LT.add aP (aG (Iv (aB (s7.1 + 1))) y4 (On (aX Q z6 z3)))))
  ·refine gJ y2 z3 z3
 ·refine Ws (Ws ?_)
  refine aC.eG (fun j47 => ([(2,Cc (.pl 21 0)),(5,Cc (.pl 24 0)),(78,Bv j47)],[(21,.row 26 [[iC 0,sC aO]]),(24,.row 26 [[iC b32.1,lo 33 b32.2.length]]),(33,pR 96 aK b32.2)])) ?_ (fun j47 _ => ?_)
  ·refine Wr (aG (Cc (sC (.string s))) y4 (aZ LT.Uz aP (aG (Bv (s.toList == ByteArray.empty.toList)) y4 (aT.split (fun hb48 => ?_) (fun hb48 => ?_)))))
   ·refine af hb48 y5 (af hb48 y5 (af hb48 y5 (af hb48 y5 (dn (Bv true) hb48 aP (On (aX Q z3 z3))))))
   ·refine cZ (bD [iC b32.1,lo 33 b32.2.length] Q iI dX dM) Q Q (gH hb48 Q Q) Q (aU fun Sr aGt => (aT.pure (cF [.agg [iC b32.1,lo 33 b32.2.length]] [(33,pR 96 aK b32.2)] (aC6 (bM.mk b32.1 b32.2) Sr aGt) Y1 (.cons (.agg (.cons (.same Q) (.cons (.dG Q Q) .nil))) .nil) J y3) z2 z1 (gH hb48 Q Q) Q (iy (Cc (sC (.string s))) hb48 y5 (iV LT.FU hb48 y6 (gK (Bv (!(Sr.toList == s.toList))) hb48 y5 (On (aX Q z3 z3)))))))
  ·refine aC.cond Q (fun aFp => ?_) (fun aFp => ?_)
   ·refine Ws (Wr ?_)
    refine uX (LT.build [] Q Q uy lF Q Q Q) Q Q (dA (stA [iC 0,sC aO] Q Q dX dM) Q Q Q Q Q (aI (Bv false) ak (On (aC.ent (aj.qp 21 1 0 96 Q Q Q Q) (en [(2,Cc (.pl 21 0)),(3,Bv false)] [(0,pR 96 aK ([]:List aV)),(21,.row 26 [[iC 0,lo 0 (([]:List aV).length)]])] z2 z2 (bT ⟨⟨_,_,_,Q,Q,Q,iI,dM,_,fE dX⟩,Q,J⟩ z1 ⟨⟨ah.sc,J,J⟩,ah.sc,J⟩ ⟨bg.dO iP,J⟩))))))
   ·refine aC.skip (Ws (Wr ?_))
    refine cZ (bD [iC b32.1,lo 33 b32.2.length] Q iI dX dM) Q Q Q Q (dA (stA [iC b32.1,lo 33 b32.2.length] Q Q dX dM) Q Q Q Q Q (aI (Bv true) ak (On (en [(2,Cc (.pl 21 0)),(3,Bv true)] [(21,.row 26 [[iC b32.1,lo 33 b32.2.length]]),(33,pR 96 aK b32.2)] z2 z2 (aC.ent (aj.mv 33 0 Q Q) (en [(2,Cc (.pl 21 0)),(3,Bv true)] [(0,pR 96 aK b32.2),(21,.row 26 [[iC b32.1,lo 0 b32.2.length]])] z2 z2 (bT ⟨⟨_,_,_,Q,Q,Q,iI,dM,_,fE dX⟩,Q,J⟩ z1 ⟨⟨ah.sc,J,J⟩,ah.sc,J⟩ ⟨bg.dO iP,J⟩)))))))
theorem aDB (s:ByteArray):FT Try.prog (yJ s) 64 [.c (sC (.string s))] [] (fun (t:(aW × Bool)) => [.agg [iC t.1.Graph.aF,lo 0 t.1.Graph.aA.length,lo 1 t.1.Places.length],.c (bC t.2)]) (fun (t:(aW × Bool)) => [(0,pR 96 aK t.1.Graph.aA),(1,pR 82 aJ t.1.Places)]) [0,1]:=by
 refine FT.A8 [] Try.func64 Try.ntmps64 Q y2 ?_
 intro w0 U0 R0 g0 hU
 unfold yJ
 refine Ws (Wr ?_)
 refine dQ 21 [iC 0,sC aO,sC aO] iG y6 (aI (Bv false) ak (On (Ws (Wr ?_))))
 refine aG (Cc (sC (.string s))) y4 (aU fun r1 hr1 => (aT.step (bU [.c (sC (.string s)),.c (sC (.int .u8 32))] (Fw.Fn.ren [(0,23)] (Tz s 32 r1 hr1) Q) QF (jG y2) J y3) ⟨Q,Q,y2,J⟩ J Q Q (aI (Cc (lo 23 r1.length)) y4 (On (Ws (Wr ?_))))))
 refine aG (Cc (lo 23 r1.length)) y4 (aU fun r2 hr2 => (aT.pure (cF [.c (lo 23 r1.length),.c (sC (.string (ByteArray.mk #[97,116])))] [(23,pR 9 encStr r1)] (aKc r1 (ByteArray.mk #[97,116]) r2 hr2) aD5 (.cons (.c (.dG Q Q)) (.cons (.c (.same Q)) .nil)) J y3) ⟨Q,Q,y2,J⟩ z1 Q Q (aI (Iv r2) y4 (On (Ws (Ws ?_))))))
 refine en [(0,Cc (sC (.string s))),(2,Cc (.pl 21 0)),(4,Cc (lo 23 r1.length)),(5,Iv r2)] [(21,.row 29 [[iC 0,sC aO,sC aO]]),(23,pR 9 encStr r1)] z4 z2 (Wr (aG (Iv r2) y4 (aZ LT.lss aP (On (aC.cond Q (fun hc3 => ?_) (fun hc3 => ?_))))))
 ·refine Ws (Wr ?_)
  refine uX (LT.build [] Q Q yN iG Q Q Q) Q Q (dA (stA [iC 0,sC aO,sC aO] Q Q ax ai) Q Q Q Q Q (aI (Bv false) ak (On (aC.ent (aj.qp 21 1 0 96 Q Q Q Q) (aC.ent (aj.qp 21 2 1 82 Q Q Q Q) (en [(2,Cc (.pl 21 0)),(3,Bv false)] [(0,pR 96 aK ([]:List aV)),(1,pR 82 aJ ([]:List bG)),(21,.row 29 [[iC 0,lo 0 (([]:List aV).length),lo 1 (([]:List bG).length)]])] z2 z3 (bT ⟨⟨_,_,_,Q,Q,Q,bP,ai,_,fE ax⟩,Q,J⟩ z2 ⟨⟨ah.sc,J,J,J⟩,ah.sc,J⟩ ⟨bg.dO iP,bg.dO jo,J⟩)))))))
 ·refine aC.skip (Ws (Wr ?_))
  refine uX (LT.build [] Q Q yN iG Q Q Q) Q Q (dQ 25 [iC 0,sC aO,sC aO] iG y6 (dA (stA [iC 0,sC aO,sC aO] Q Q ax ai) Q Q Q Q Q (On (Ws (Wr ?_)))))
  refine aG (Cc (lo 23 r1.length)) y4 (aG (Iv r2) y4 (aT.ent (aj.Bo (enc:=encStr) (xs:=r1) (σ':=[(0,Cc (sC (.string s))),(2,Cc (.pl 21 0)),(4,Cc (xT encStr r1)),(5,Iv r2),(6,Cc (.pl 25 0)),(15,Iv r2),(16,Bv (decide (r2 < 0))),(18,Ag  [iC 0,sC aO,sC aO]),(20,Cc (xT encStr r1)),(21,Iv r2)]) (m':=[(21,.row 29 [[iC 0,sC aO,sC aO]]),(25,.row 29 [[iC 0,sC aO,sC aO]])]) 23 hU Q Q ⟨⟨_,Q,.same Q⟩,⟨_,Q,.same Q⟩,⟨_,Q,.c (.fr (by rw [List.length_map]))⟩,⟨_,Q,.same Q⟩,⟨_,Q,.same Q⟩,⟨_,Q,.same Q⟩,⟨_,Q,.same Q⟩,⟨_,Q,.same Q⟩,⟨_,Q,.c (.fr (by rw [List.length_map]))⟩,⟨_,Q,.same Q⟩,J⟩ ⟨⟨Q,_,Q,.same Q⟩,⟨Q,_,Q,.same Q⟩,J⟩) (aU fun v4 hv4 => (dU (LT.J4 (enc:=encStr) (kU:=none) (kT:=(some (.tmp 21,r2))) (l:=0) (h:=r2.toNat) Q Q Q ni WW (fun _ => by rw [Di]; rfl) (.inr y2) (.inl ⟨_,_,Q,Int.le_trans (zO hv4).1 (zO hv4).2.1,Q⟩) (Jy hv4) (Jw hv4)) Q Q Q Q (aU fun r5 nU => (jC [.c (xT encStr ((r1.take r2.toNat).drop 0)),.c (sC (.string (ByteArray.mk #[32])))] (aKT ((r1.take r2.toNat).drop 0) (ByteArray.mk #[32]) r5 nU) aD7 (.cons (.c (.weak (.same Q) (QW.iL aI8 (fun h => by cases h) _))) (.cons (.c (.same Q)) .nil)) y5 ⟨Q,Q,y2,J⟩ (aU fun r6 tY => (aT.step (bU [.c (sC (.string r5))] (Fw.Fn.ren [(0,28)] (aKL r5 r6 tY) Q) aD6 (iF Q) J y3) z2 J Q Q (aG (.dW [.agg [iC r6.1.aF,lo 28 r6.1.aA.length],.c (bC r6.2)]) y4 (jc (.agg [iC r6.1.aF,lo 28 r6.1.aA.length]) y5 (jc (.c (bC r6.2)) y5 ?_)))))))))))
  refine au (LT.eu Q jv) Q Q Q (dA (rD (.agg [iC r6.1.aF,lo 28 r6.1.aA.length]) [iC r6.1.aF,lo 28 r6.1.aA.length,sC aO] Q Q dX dM) Q Q Q Q Q (On (Ws (Ws ?_))))
  refine en [(0,Cc (sC (.string s))),(2,Cc (.pl 21 0)),(4,Cc (xT encStr r1)),(5,Iv r2),(6,Cc (.pl 25 0))] [(21,.row 29 [[iC 0,sC aO,sC aO]]),(25,.row 29 [[iC r6.1.aF,lo 28 r6.1.aA.length,sC aO]]),(28,pR 96 aK r6.1.aA)] z5 z3 (Wr (aG (Cc (xT encStr r1)) y4 (aG (Iv r2) y4 (aZ LT.add aP (aU fun v7 hv7 => (dU (LT.J4 (enc:=encStr) (kU:=(some (.tmp 30,aB (r2 + 1)))) (kT:=none) (l:=(aB (r2 + 1)).toNat) (h:=r1.length) Q Q Q ni WW (fun _ => by rw [Di]; rfl) (.inl ⟨_,_,Q,(zO hv7).1,Q⟩) (.inr y2) (Jy hv7) (Jw hv7)) Q Q Q Q (au (LT.gB Q ni) Q Q Q (aG (Iv 0) ak (On (aC.block ?_))))))))))
  refine aC.ent (aj.qp 25 2 36 82 Q Q Q Q) (aC.ql (id:=0) (Ai r1 r2 r6) (fun s8 => ([(0,Cc (sC (.string s))),(2,Cc (.pl 21 0)),(6,Cc (.pl 25 0)),(31,Cc (xT encStr ((r1.take r1.length).drop ((aB (r2 + 1)).toNat)))),(32,Iv (((r1.take r1.length).drop ((aB (r2 + 1)).toNat)).length:Int)),(33,Iv s8.1)],[(21,.row 29 [[iC 0,sC aO,sC aO]]),(25,.row 29 [[iC r6.1.aF,lo 28 r6.1.aA.length,lo 36 s8.2.length]]),(28,pR 96 aK r6.1.aA),(36,pR 82 aJ s8.2)])) (fun b27 => ([(0,Cc (sC (.string s))),(2,Cc (.pl 21 0)),(6,Cc (.pl 25 0))],[(21,.row 29 [[iC 0,sC aO,sC aO]]),(25,.row 29 [[iC b27.1,lo 28 b27.2.1.length,lo 36 b27.2.2.length]]),(28,pR 96 aK b27.2.1),(36,pR 82 aJ b27.2.2)])) (lI Try.prog Try.f64.results.toList [] [0,1] (fun (t:(aW × Bool)) => [.agg [iC t.1.Graph.aF,lo 0 t.1.Graph.aA.length,lo 1 t.1.Places.length],.c (bC t.2)]) (fun (t:(aW × Bool)) => [(0,pR 96 aK t.1.Graph.aA),(1,pR 82 aJ t.1.Places)])) ?_ (aj.of z6 z4) Q (fun b27 _ => ?_) qj)
  ·intro s8
   unfold Ai
   refine Ws (Wr ?_)
   refine aZ LT.lss y5 (On (Ws ?_))
   refine aC.cond Q (fun hc28 => ?_) (fun hc28 => ?_)
   ·refine aC.skip (Ws (aC.block (Ws (Wr ?_))))
    refine aU fun x29 hx29 => (dU (LT.dZ (enc:=encStr) Q o9 hx29 Di) Q Q Q Q (au (LT.iq Q o7) Q Q Q (aI (Cc (sC (.string x29))) y4 (On (Ws (Wr ?_))))))
    refine aG (Cc (sC (.string x29))) y4 (aU fun mG Ls => (aT.step (bU [.c (sC (.string x29)),.c (sC (.int .u8 44))] (Fw.Fn.ren [(0,30)] (Tz x29 44 mG Ls) Q) QF (jG y2) J y3) ⟨Q,Q,y2,J⟩ J Q Q (aI (Cc (lo 30 mG.length)) y4 (On (Ws (Ws (Wr ?_)))))))
    refine aG (Cc (lo 30 mG.length)) y4 (au (LT.mM Q ni) Q Q Q (aZ LT.neq aP (On (aC.cond Q (fun hc31 => ?_) (fun hc31 => ?_)))))
    ·refine Ws (en [(2,Cc (.pl 21 0))] [(21,.row 29 [[iC 0,sC aO,sC aO]])] z1 z1 (Wr (uX (LT.build [] Q Q yN iG Q Q Q) Q Q (dA (stA [iC 0,sC aO,sC aO] Q Q ax ai) Q Q Q Q Q (aI (Bv false) ak (On (aC.ent (aj.qp 21 1 0 96 Q Q Q Q) (aC.ent (aj.qp 21 2 1 82 Q Q Q Q) (en [(2,Cc (.pl 21 0)),(3,Bv false)] [(0,pR 96 aK ([]:List aV)),(1,pR 82 aJ ([]:List bG)),(21,.row 29 [[iC 0,lo 0 (([]:List aV).length),lo 1 (([]:List bG).length)]])] z2 z3 (aC.ret ⟨Q,qc ⟨⟨_,_,_,Q,Q,Q,bP,ai,_,fE ax⟩,Q,J⟩ z2 ⟨⟨ah.sc,J,J,J⟩,ah.sc,J⟩ ⟨bg.dO iP,bg.dO jo,J⟩⟩))))))))))
    ·refine aC.skip (Ws ?_)
     refine en [(0,Cc (sC (.string s))),(2,Cc (.pl 21 0)),(6,Cc (.pl 25 0)),(9,Cc (lo 30 mG.length)),(31,Cc (xT encStr ((r1.take r1.length).drop ((aB (r2 + 1)).toNat)))),(32,Iv (((r1.take r1.length).drop ((aB (r2 + 1)).toNat)).length:Int)),(33,Iv s8.1)] [(21,.row 29 [[iC 0,sC aO,sC aO]]),(25,.row 29 [[iC r6.1.aF,lo 28 r6.1.aA.length,lo 36 s8.2.length]]),(28,pR 96 aK r6.1.aA),(30,pR 9 encStr mG),(36,pR 82 aJ s8.2)] z7 z5 (Wr (uX (LT.build [] Q Q FZ kM Q Q Q) Q Q (dQ 31 [iC 0,iC 0] kM y6 (dA (stA [iC 0,iC 0] Q Q dS bf) Q Q Q Q Q (On (Ws (Wr ?_)))))))
     refine aG (Cc (lo 30 mG.length)) y4 (aU fun x32 hx32 => (lS (LT.iW Q Q o9 hx32) Q y2 Q Q Q (cZ (oK 0 Q o7 hx32) Q Q Q Q (aU fun jL Eh => (jC [.c (sC (.string x32))] (PX x32 jL Eh) KW (iF Q) y5 z2 (aG (.dW [.c (iC jL.1),.c (bC jL.2)]) y4 (jc (.c (iC jL.1)) y5 (jc (.c (bC jL.2)) y5 (au (LT.eu Q kV) Q Q Q (dA (rD (.c (iC jL.1)) [iC jL.1,iC 0] Q Q qh jq) Q Q Q Q Q (On (Ws ?_))))))))))))
     refine en [(0,Cc (sC (.string s))),(2,Cc (.pl 21 0)),(6,Cc (.pl 25 0)),(9,Cc (lo 30 mG.length)),(10,Cc (.pl 31 0)),(31,Cc (xT encStr ((r1.take r1.length).drop ((aB (r2 + 1)).toNat)))),(32,Iv (((r1.take r1.length).drop ((aB (r2 + 1)).toNat)).length:Int)),(33,Iv s8.1)] [(21,.row 29 [[iC 0,sC aO,sC aO]]),(25,.row 29 [[iC r6.1.aF,lo 28 r6.1.aA.length,lo 36 s8.2.length]]),(28,pR 96 aK r6.1.aA),(30,pR 9 encStr mG),(31,.row 82 [[iC jL.1,iC 0]]),(36,pR 82 aJ s8.2)] z8 z6 (Wr (aG (Cc (lo 30 mG.length)) y4 (aU fun x34 hx34 => (lS (LT.iW Q Q o9 hx34) Q y2 Q Q Q (cZ (oK 0 Q o7 hx34) Q Q Q Q (aU fun jX L6 => (jC [.c (sC (.string x34))] (PX x34 jX L6) KW (iF Q) y5 z2 (aG (.dW [.c (iC jX.1),.c (bC jX.2)]) y4 (jc (.c (iC jX.1)) y5 (jc (.c (bC jX.2)) y5 (au (LT.eu Q lq) Q Q Q ?_)))))))))))
     refine dA (rD (.c (iC jX.1)) [iC jL.1,iC jX.1] Q Q qh jq) Q Q Q Q Q (On (en [(0,Cc (sC (.string s))),(2,Cc (.pl 21 0)),(6,Cc (.pl 25 0)),(10,Cc (.pl 31 0)),(31,Cc (xT encStr ((r1.take r1.length).drop ((aB (r2 + 1)).toNat)))),(32,Iv (((r1.take r1.length).drop ((aB (r2 + 1)).toNat)).length:Int)),(33,Iv s8.1)] [(21,.row 29 [[iC 0,sC aO,sC aO]]),(25,.row 29 [[iC r6.1.aF,lo 28 r6.1.aA.length,lo 36 s8.2.length]]),(28,pR 96 aK r6.1.aA),(31,.row 82 [[iC jL.1,iC jX.1]]),(36,pR 82 aJ s8.2)] z7 z5 (Wr (dR (lo 36 s8.2.length) fJ fV bI (cZ (bD [iC jL.1,iC jX.1] Q gI dS bf) Q Q Q Q (oC (gy 34 aJ [(0,.tmp 62,.agg [iC jL.1,iC jX.1])] [bG.mk jL.1 jX.1] lQ kM y7) Q Q Q (aU fun u36 MG => (oW (LT.ng (enc:=aJ) Q Q Q lQ kM Q (by decide) (by decide) (fun _ => Q) (jw MG)) Q Q Q Q Q Q (au (LT.eu Q fJ) Q Q Q (dA (rD (.c (lo 36 ((s8.2 ++ [bG.mk jL.1 jX.1]).length))) [iC r6.1.aF,lo 28 r6.1.aA.length,lo 36 ((s8.2 ++ [bG.mk jL.1 jX.1]).length)] Q Q RH TY) Q Q Q Q Q ?_))))))))))
     refine On (aC.blk ?_)
     refine en [(0,Cc (sC (.string s))),(2,Cc (.pl 21 0)),(6,Cc (.pl 25 0)),(31,Cc (xT encStr ((r1.take r1.length).drop ((aB (r2 + 1)).toNat)))),(32,Iv (((r1.take r1.length).drop ((aB (r2 + 1)).toNat)).length:Int)),(33,Iv s8.1)] [(21,.row 29 [[iC 0,sC aO,sC aO]]),(25,.row 29 [[iC r6.1.aF,lo 28 r6.1.aA.length,lo 36 ((s8.2 ++ [bG.mk jL.1 jX.1]).length)]]),(28,pR 96 aK r6.1.aA),(36,pR 82 aJ (s8.2 ++ [bG.mk jL.1 jX.1]))] z6 z4 (Wr (aZ LT.add aP (aG (Iv (aB (s8.1 + 1))) y4 (On (aX Q z6 z4)))))
   ·refine gJ y2 z3 z4
  ·refine Ws (Ws (Wr ?_))
   refine cZ (bD [iC b27.1,lo 28 b27.2.1.length,lo 36 b27.2.2.length] Q bP ax ai) Q Q Q Q (aU fun sF Ei => (aT.pure (cF [.agg [iC b27.1,lo 28 b27.2.1.length,lo 36 b27.2.2.length]] [(28,pR 96 aK b27.2.1),(36,pR 82 aJ b27.2.2)] (aC5 (aW.mk (bM.mk b27.1 b27.2.1) b27.2.2) sF Ei) ZH (.cons (.agg (.cons (.same Q) (.cons (.dG Q Q) (.cons (.dG Q Q) .nil)))) .nil) J y3) z2 z2 Q Q (aG (Cc (sC (.string s))) y4 (aZ LT.FU y5 (On (aC.cond Q (fun hc38 => ?_) (fun hc38 => ?_)))))))
   ·refine Ws (Wr ?_)
    refine uX (LT.build [] Q Q yN iG Q Q Q) Q Q (dA (stA [iC 0,sC aO,sC aO] Q Q ax ai) Q Q Q Q Q (aI (Bv false) ak (On (aC.ent (aj.qp 21 1 0 96 Q Q Q Q) (aC.ent (aj.qp 21 2 1 82 Q Q Q Q) (en [(2,Cc (.pl 21 0)),(3,Bv false)] [(0,pR 96 aK ([]:List aV)),(1,pR 82 aJ ([]:List bG)),(21,.row 29 [[iC 0,lo 0 (([]:List aV).length),lo 1 (([]:List bG).length)]])] z2 z3 (bT ⟨⟨_,_,_,Q,Q,Q,bP,ai,_,fE ax⟩,Q,J⟩ z2 ⟨⟨ah.sc,J,J,J⟩,ah.sc,J⟩ ⟨bg.dO iP,bg.dO jo,J⟩)))))))
   ·refine aC.skip (Ws (Wr ?_))
    refine cZ (bD [iC b27.1,lo 28 b27.2.1.length,lo 36 b27.2.2.length] Q bP ax ai) Q Q Q Q (dA (stA [iC b27.1,lo 28 b27.2.1.length,lo 36 b27.2.2.length] Q Q ax ai) Q Q Q Q Q (aI (Bv true) ak (On (en [(2,Cc (.pl 21 0)),(3,Bv true)] [(21,.row 29 [[iC b27.1,lo 28 b27.2.1.length,lo 36 b27.2.2.length]]),(28,pR 96 aK b27.2.1),(36,pR 82 aJ b27.2.2)] z2 z3 (aC.ent (aj.mv 28 0 Q Q) (aC.ent (aj.mv 36 1 Q Q) (en [(2,Cc (.pl 21 0)),(3,Bv true)] [(0,pR 96 aK b27.2.1),(1,pR 82 aJ b27.2.2),(21,.row 29 [[iC b27.1,lo 0 b27.2.1.length,lo 1 b27.2.2.length]])] z2 z3 (bT ⟨⟨_,_,_,Q,Q,Q,bP,ai,_,fE ax⟩,Q,J⟩ z2 ⟨⟨ah.sc,J,J,J⟩,ah.sc,J⟩ ⟨bg.dO iP,bg.dO jo,J⟩))))))))
theorem KC (n:Int):FT Try.prog (xG n) 154 [.c (iC n)] [] (fun (t:ByteArray) => [.c (sC (.string t))]) (fun (t:ByteArray) => []) []:=by
 refine FT.of [] Try.func154 Try.ntmps154 Q y2 ?_
 intro w0 U0 R0 g0
 unfold xG
 refine Ws (Wr ?_)
 refine aI (Cc (sC (.string ByteArray.empty))) ak (On (Ws (Ws (Wr ?_))))
 refine aG (Iv n) y4 (aZ LT.eql aP (On (aC.cond Q (fun hc1 => ?_) (fun hc1 => ?_))))
 ·refine Ws (Wr ?_)
  refine aI (Cc (sC (.string (ByteArray.mk #[48])))) ak (On (bT z1 J ⟨ah.sc,J⟩ J))
 ·refine aC.skip (Ws (Wr ?_))
  refine aI (Cc (sC (.string ByteArray.empty))) ak (On (Ws (Wr ?_)))
  refine aG (Iv n) y4 (aZ LT.lss aP (aI (Bv (decide (n < 0))) y4 (On (Ws (aC.block ?_)))))
  refine aC.jP (id:=0) JA (fun s2 => ([(0,Iv s2.1),(3,Cc (sC (.string s2.2))),(4,Bv (decide (n < 0)))],[])) (fun b13 => ([(3,Cc (sC (.string b13))),(4,Bv (decide (n < 0)))],[])) ?_ (aj.of z3 J) Q (fun b13 _ => ?_)
  ·intro s2
   unfold JA
   refine Ws (Ws (Wr ?_))
   refine aG (Iv s2.1) y4 (aZ LT.neq aP (On (aC.cond Q (fun VS => ?_) (fun VS => ?_))))
   ·refine aC.skip (aC.block (Ws (Wr ?_)))
    refine aG (Iv s2.1) y4 (dU (LT.rem Q (by decide)) Q y2 Q Q (aI (Iv (Int.tmod s2.1 10)) y4 (On (Ws (Ws (Wr ?_))))))
    refine aG (Iv (Int.tmod s2.1 10)) y4 (aZ LT.lss aP (On (aC.eG (fun j16 => ([(0,Iv s2.1),(3,Cc (sC (.string s2.2))),(4,Bv (decide (n < 0))),(5,Iv j16)],[])) ?_ (fun j16 _ => ?_))))
    ·refine aC.cond Q (fun hc17 => ?_) (fun hc17 => ?_)
     ·refine Wr (aG (Iv (Int.tmod s2.1 10)) y4 (au (LT.neg Q) Q Q Q (aI (Iv (aB (-(Int.tmod s2.1 10)))) y4 (On (aX Q z4 J)))))
     ·refine aC.skip (aX Q z4 J)
    ·refine Ws (Wr ?_)
     refine aG (Iv j16) y4 (aZ LT.add oQ (au (LT.yw Q PN zT) Q Q Q (oC (gy 21 bn [(0,.tmp 20,.c (sC (.int .u8 (IntKind.u8.wrap (aB (48 + j16))))))] ([IntKind.u8.wrap (aB (48 + j16))]:List Int) qX yR y7) Q Q Q (cZ (LT.Ko Q Q qX zT jh) Q Q Q Q (aG (Cc (sC (.string s2.2))) y4 (aU fun Xh aHH => (dU (LT.lT Q aHH) Q Q Q Q (aI (Cc (sC (.string Xh))) y4 (On (Wr ?_))))))))))
     refine aG (Iv s2.1) y4 (dU (LT.quo Q (by decide)) Q y2 Q Q (aI (Iv (aB (Int.tdiv s2.1 10))) y4 (On (aC.blk ?_))))
     refine aX Q z3 J
   ·refine gJ y2 z2 J
  ·refine Ws (Ws (Wr ?_))
   refine aG (Bv (decide (n < 0))) y4 (On (aC.cond Q (fun hc19 => ?_) (fun hc19 => ?_)))
   ·refine Ws (Wr ?_)
    refine aG (Cc (sC (.string b13))) y4 (aU fun s20 V5 => (dU (LT.lT Q V5) y2 Q Q Q (aI (Cc (sC (.string s20))) y4 (On (bT z1 J ⟨ah.sc,J⟩ J)))))
   ·refine aC.skip (Ws (Wr ?_))
    refine aG (Cc (sC (.string b13))) y4 (aI (Cc (sC (.string b13))) y4 (On (bT z1 J ⟨ah.sc,J⟩ J)))
theorem aDI (g:bM):FT Try.prog (I8 g) 153 [.agg (dI g)] [] (fun (t:ByteArray) => [.c (sC (.string t))]) (fun (t:ByteArray) => []) []:=by
 refine FT.of [] Try.func153 Try.ntmps153 Q y2 ?_
 intro w0 U0 R0 g0
 unfold I8
 refine Ws (Wr ?_)
 refine fZ 21 (.agg (dI g)) dM y5 (aI (Cc (sC (.string ByteArray.empty))) ak (On (Ws (Ws (Wr ?_)))))
 refine cZ (bD (dI g) Q iI dX dM) Q Q Q Q (aU fun r1 hr1 => (jC [.agg (dI g)] (UB g r1 hr1) QJ (qV y2) y5 z2 (au (LT.not Q) Q Q Q (On (aC.cond Q (fun hc2 => ?_) (fun hc2 => ?_))))))
 ·refine Ws (Wr ?_)
  refine aI (Cc (sC (.string ByteArray.empty))) ak (On (bT z1 J ⟨ah.sc,J⟩ J))
 ·refine aC.skip (Ws (Wr ?_))
  refine dR (iC g.aF) lV bK bI (aU fun r3 hr3 => (jC [.c (iC g.aF)] (KC g.aF r3 hr3) Gs (iF Q) y5 z2 (aU fun s4 hs4 => (dU (LT.lT Q hs4) Q y2 Q Q (aI (Cc (sC (.string s4))) y4 (On (Ws (Ws ?_))))))))
  refine en [(1,Cc (.pl 21 0)),(3,Cc (sC (.string s4)))] [(21,.row 26 [dI g])] z2 z1 (Wr (aI (Iv 0) ak (On (aC.block ?_))))
  refine aC.jP (id:=0) (I9 g) (fun s5 => ([(1,Cc (.pl 21 0)),(3,Cc (sC (.string s5.1))),(4,Iv s5.2)],[(21,.row 26 [dI g])])) (fun gG => ([(3,Cc (sC (.string gG)))],[])) ?_ (aj.of z3 z1) Q (fun gG _ => ?_)
  ·intro s5
   unfold I9
   refine Ws (Ws (Wr ?_))
   refine aG (Iv s5.2) y4 (dR (xF aK g.aA) gq iQ bI (au (LT.gB Q iU) Q Q Q (aZ LT.lss y5 (On (aC.cond Q (fun hc25 => ?_) (fun hc25 => ?_))))))
   ·refine aC.skip (Ws (aC.block (aC.draw mixed ?_)))
    refine aY (Cc (sC (.string s5.1))) y4 (aN.bind fun s26 MB => (bQ (LT.lT Q MB) Q y2 Q Q (dw (xF aK g.aA) gq iQ bI (aY (Iv s5.2) y4 (aN.bind fun x27 hx27 => (bQ (LT.dZ (enc:=aK) Q oL hx27 fG) Q Q Q Q (bH (LT.pF Q mZ) Q Q Q (bH (LT.iq Q bK) Q Q Q (aN.bind fun r28 Ef => (aN.pure (bU [.c (iC x27.A)] (KC x27.A r28 Ef) Gs (iF Q) J y3) z2 J Q Q ?_))))))))))
    refine aN.bind fun O6 V7 => (bQ (LT.lT Q V7) Q Q Q Q (aN.bind fun oJ AZ => (bQ (LT.lT Q AZ) Q y2 Q Q (dw (xF aK g.aA) gq iQ bI (aY (Iv s5.2) y4 (aN.bind fun x31 hx31 => (bQ (LT.dZ (enc:=aK) Q oL hx31 fG) Q Q Q Q (bH (LT.pF Q nS) Q Q Q (bH (LT.iq Q bK) Q Q Q (aN.bind fun r32 Lu => ?_))))))))))
    refine aN.pure (bU [.c (iC x31.B)] (KC x31.B r32 Lu) Gs (iF Q) J y3) z2 J Q Q (aN.bind fun BI V8 => (bQ (LT.lT Q V8) Q Q Q Q (bH (LT.assign (v:=(Cc (sC (.string BI)))) Q) Q Q Q (dF (aC.blk (en [(1,Cc (.pl 21 0)),(3,Cc (sC (.string BI))),(4,Iv s5.2)] [(21,.row 26 [dI g])] z3 z1 (Wr (aG (Iv s5.2) y4 (aZ LT.add aP (aI (Iv (aB (s5.2 + 1))) y4 (On ?_)))))))))))
    refine aX Q z3 z1
   ·refine gJ y2 z1 J
  ·refine Ws (Wr ?_)
   refine aG (Cc (sC (.string gG))) y4 (aI (Cc (sC (.string gG))) y4 (On (bT z1 J ⟨ah.sc,J⟩ J)))
theorem YH (f:aW):FT Try.prog (FC f) 73 [.agg (ay f)] [] (fun (t:ByteArray) => [.c (sC (.string t))]) (fun (t:ByteArray) => []) []:=by
 refine FT.of [] Try.func73 Try.ntmps73 Q y2 ?_
 intro w0 U0 R0 g0
 unfold FC
 refine Ws (Wr ?_)
 refine fZ 21 (.agg (ay f)) ai y5 (aI (Cc (sC (.string ByteArray.empty))) ak (On (Ws (Ws (Wr ?_)))))
 refine cZ (bD (ay f) Q bP ax ai) Q Q Q Q (aU fun r1 hr1 => (jC [.agg (ay f)] (uT f r1 hr1) uO (jd y3) y5 z2 (au (LT.not Q) Q Q Q (On (aC.cond Q (fun hc2 => ?_) (fun hc2 => ?_))))))
 ·refine Ws (Wr ?_)
  refine aI (Cc (sC (.string ByteArray.empty))) ak (On (bT z1 J ⟨ah.sc,J⟩ J))
 ·refine aC.skip (Ws (Wr ?_))
  refine au (LT.eu Q jv) Q Q Q (cZ (bD (dI f.Graph) Q iI dX dM) Q Q Q Q (aU fun r3 hr3 => (jC [.agg (dI f.Graph)] (aDI f.Graph r3 hr3) Y3 (qV y2) y5 z2 (aU fun s4 hs4 => (dU (LT.lT Q hs4) Q y2 Q Q (aI (Cc (sC (.string s4))) y4 (On (Ws (Ws ?_)))))))))
  refine en [(1,Cc (.pl 21 0)),(3,Cc (sC (.string s4)))] [(21,.row 29 [ay f])] z2 z1 (Wr (aI (Iv 0) ak (On (aC.block ?_))))
  refine aC.jP (id:=0) (I7 f) (fun s5 => ([(1,Cc (.pl 21 0)),(3,Cc (sC (.string s5.1))),(4,Iv s5.2)],[(21,.row 29 [ay f])])) (fun gG => ([(3,Cc (sC (.string gG)))],[])) ?_ (aj.of z3 z1) Q (fun gG _ => ?_)
  ·intro s5
   unfold I7
   refine Ws (Ws (Wr ?_))
   refine aG (Iv s5.2) y4 (dR (xF aJ f.Places) fJ fV bI (au (LT.gB Q lQ) Q Q Q (aZ LT.lss y5 (On (aC.cond Q (fun hc25 => ?_) (fun hc25 => ?_))))))
   ·refine aC.skip (Ws (aC.block (aC.draw mixed ?_)))
    refine aY (Cc (sC (.string s5.1))) y4 (aN.bind fun s26 MB => (bQ (LT.lT Q MB) Q y2 Q Q (dw (xF aJ f.Places) fJ fV bI (aY (Iv s5.2) y4 (aN.bind fun x27 hx27 => (bQ (LT.dZ (enc:=aJ) Q jD hx27 bf) Q Q Q Q (bH (LT.pF Q kV) Q Q Q (bH (LT.iq Q bK) Q Q Q (aN.bind fun r28 Ef => (aN.pure (bU [.c (iC x27.X)] (KC x27.X r28 Ef) Gs (iF Q) J y3) z2 J Q Q ?_))))))))))
    refine aN.bind fun O6 V7 => (bQ (LT.lT Q V7) Q Q Q Q (aN.bind fun oJ AZ => (bQ (LT.lT Q AZ) Q y2 Q Q (dw (xF aJ f.Places) fJ fV bI (aY (Iv s5.2) y4 (aN.bind fun x31 hx31 => (bQ (LT.dZ (enc:=aJ) Q jD hx31 bf) Q Q Q Q (bH (LT.pF Q lq) Q Q Q (bH (LT.iq Q bK) Q Q Q (aN.bind fun r32 Lu => ?_))))))))))
    refine aN.pure (bU [.c (iC x31.Y)] (KC x31.Y r32 Lu) Gs (iF Q) J y3) z2 J Q Q (aN.bind fun BI V8 => (bQ (LT.lT Q V8) Q Q Q Q (bH (LT.assign (v:=(Cc (sC (.string BI)))) Q) Q Q Q (dF (aC.blk (en [(1,Cc (.pl 21 0)),(3,Cc (sC (.string BI))),(4,Iv s5.2)] [(21,.row 29 [ay f])] z3 z1 (Wr (aG (Iv s5.2) y4 (aZ LT.add aP (aI (Iv (aB (s5.2 + 1))) y4 (On ?_)))))))))))
    refine aX Q z3 z1
   ·refine gJ y2 z1 J
  ·refine Ws (Wr ?_)
   refine aG (Cc (sC (.string gG))) y4 (aI (Cc (sC (.string gG))) y4 (On (bT z1 J ⟨ah.sc,J⟩ J)))
theorem aKu (c:dJ) (most:Int):FT Try.prog (Nz c most) 185 [.c (.pl 0 0),.c (iC most)] [(0,.row 139 [fM c])] (fun (t:(ByteArray × dJ)) => [.c (sC (.string t.1))]) (fun (t:(ByteArray × dJ)) => [(0,.row 139 [fM t.2])]) []:=by
 refine FT.of [0] Try.func185 Try.ntmps185 Q y2 ?_
 intro w0 U0 R0 g0
 unfold Nz
 refine Ws (Wr ?_)
 refine aI (Cc (sC (.string ByteArray.empty))) ak (On (Ws (Wr ?_)))
 refine ny (gy 21 bn [] [] qX yR y7) Q Q (aI (Cc (lo 21 (([]:List Int).length))) y4 (On (Ws (Wr ?_))))
 refine aG (Cc (.pl 0 0)) y4 (aU fun r1 hr1 => (aT.step (bU [.c (.pl 0 0),.c (iC 4)] (Fw.Fn.ren [(0,0)] (nP c 4 r1 hr1) Q) nK (jG y2) z1 y3) ⟨Q,Q,y2,J⟩ z1 Q Q (aI (Iv r1.1) y4 (On (Ws (Ws (Wr ?_)))))))
 refine aG (Cc (.pl 0 0)) y4 (aG (Iv most) y4 (aZ LT.add aP (aU fun r2 hr2 => (aT.step (bU [.c (.pl 0 0),.c (iC (aB (most + 1)))] (Fw.Fn.ren [(0,0)] (nP r1.2 (aB (most + 1)) r2 hr2) Q) nK (jG y2) z1 y3) z3 z1 Q Q (aI (Iv r2.1) y4 (On (aC.block ?_)))))))
 refine aC.jP (id:=0) (JS r1) (fun s3 => ([(0,Cc (.pl 0 0)),(5,Cc (lo 21 s3.2.2.2.2.length)),(6,Iv r1.1),(7,Iv s3.1)],[(0,.row 139 [[xT bn s3.2.1,iC s3.2.2.1,iC s3.2.2.2.1]]),(21,pR 5 bn s3.2.2.2.2)])) (fun b22 => ([(5,Cc (lo 21 b22.2.2.2.length))],[(0,.row 139 [[xT bn b22.1,iC b22.2.1,iC b22.2.2.1]]),(21,pR 5 bn b22.2.2.2)])) ?_ (aj.of z4 z2) Q (fun b22 _ => ?_)
 ·intro s3
  unfold JS
  refine Ws (Ws (Wr ?_))
  refine aG (Iv s3.1) y4 (aZ LT.gtr aP (On (aC.cond Q (fun Ea => ?_) (fun Ea => ?_))))
  ·refine aC.skip (Ws (aC.block (Ws (Wr ?_))))
   refine aG (Cc (.pl 0 0)) y4 (aU fun pW Lr => (aT.step (bU [.c (.pl 0 0)] (Fw.Fn.ren [(0,0)] (F6 (dJ.mk s3.2.1 s3.2.2.1 s3.2.2.2.1) pW Lr) Q) EG (iF Q) z1 y3) z2 z1 Q Q (aI (Iv pW.1) y4 (On (Ws (Ws (Wr ?_)))))))
   refine aG (Iv r1.1) y4 (aZ LT.eql aP (On (aC.eG (fun j26 => ([(0,Cc (.pl 0 0)),(5,Cc (lo 21 s3.2.2.2.2.length)),(6,Iv r1.1),(7,Iv s3.1),(8,Iv j26)],[(0,.row 139 [fM pW.2]),(21,pR 5 bn s3.2.2.2.2)])) ?_ (fun j26 _ => ?_))))
   ·refine aC.cond Q (fun hc27 => ?_) (fun hc27 => ?_)
    ·refine Wr (aG (Iv pW.1) y4 (dU (LT.rem Q (by decide)) Q y2 Q Q (aI (Iv (Int.tmod pW.1 2)) y4 (On (aX Q z5 z2)))))
    ·refine aC.skip (aX Q z5 z2)
   ·refine Ws (Ws (Wr ?_))
    refine aG (Iv r1.1) y4 (aZ LT.eql aP (On (aC.eG (fun j29 => ([(0,Cc (.pl 0 0)),(5,Cc (lo 21 s3.2.2.2.2.length)),(6,Iv r1.1),(7,Iv s3.1),(8,Iv j29)],[(0,.row 139 [fM pW.2]),(21,pR 5 bn s3.2.2.2.2)])) ?_ (fun j29 _ => ?_))))
    ·refine aC.cond Q (fun LZ => ?_) (fun LZ => ?_)
     ·refine Wr (aG (Iv j26) y4 (dU (LT.rem Q (by decide)) Q y2 Q Q (aZ LT.add oQ (aI (Iv (aB (97 + (Int.tmod j26 4)))) y4 (On (aX Q z5 z2))))))
     ·refine aC.skip (aX Q z5 z2)
    ·refine Wr (aG (Cc (lo 21 s3.2.2.2.2.length)) y4 (aG (Iv j29) y4 (au (LT.yw Q PN zT) Q Q Q (oC (gy 25 bn [(0,.tmp 33,.c (sC (.int .u8 (IntKind.u8.wrap j29))))] ([IntKind.u8.wrap j29]:List Int) qX yR y7) Q Q Q (aU fun u31 WE => (oW (LT.ng (enc:=bn) Q Q Q qX yR Q (by decide) (by decide) (fun _ => Q) (jw WE)) Q Q Q Q Q Q (aI (Cc (lo 21 ((s3.2.2.2.2 ++ ([IntKind.u8.wrap j29]:List Int)).length))) y4 (On (aC.blk (Wr ?_))))))))))
     refine aG (Iv s3.1) y4 (aZ LT.sub aP (aI (Iv (aB (s3.1 - 1))) y4 (On (aX Q z4 z2))))
  ·refine gJ y2 z1 z2
 ·refine Ws (Wr ?_)
  refine aG (Cc (lo 21 b22.2.2.2.length)) y4 (cZ (LT.Ko Q Q qX zT jh) Q Q Q Q (aI (Cc (sC (.string (yQ b22.2.2.2)))) y4 (On (bT z1 z1 ⟨ah.sc,J⟩ ⟨bg.ou ⟨kK oh,ah.sc,ah.sc,J⟩,J⟩))))
theorem aKt (c:dJ) (s:ByteArray):FT Try.prog (Ny c s) 144 [.c (.pl 0 0),.c (sC (.string s))] [(0,.row 139 [fM c])] (fun (t:(ByteArray × dJ)) => [.c (sC (.string t.1))]) (fun (t:(ByteArray × dJ)) => [(0,.row 139 [fM t.2])]) []:=by
 refine FT.of [0] Try.func144 Try.ntmps144 Q y2 ?_
 intro w0 U0 R0 g0
 unfold Ny
 refine Ws (Wr ?_)
 refine aI (Cc (sC (.string ByteArray.empty))) ak (On (Ws (Ws (Wr ?_))))
 refine aG (Cc (sC (.string s))) y4 (au (LT.lenStr Q jh) Q Q Q (aZ LT.eql aP (On (aC.cond Q (fun hc1 => ?_) (fun hc1 => ?_)))))
 ·refine Ws (Wr ?_)
  refine aG (Cc (.pl 0 0)) y4 (aU fun r2 hr2 => (aT.step (bU [.c (.pl 0 0),.c (iC 3)] (Fw.Fn.ren [(0,0)] (aKu c 3 r2 hr2) Q) aEJ (jG y2) z1 y3) ⟨Q,Q,y2,J⟩ z1 Q Q (aI (Cc (sC (.string r2.1))) y4 (On (bT z1 z1 ⟨ah.sc,J⟩ ⟨bg.ou ⟨kK oh,ah.sc,ah.sc,J⟩,J⟩)))))
 ·refine aC.skip (Ws (Wr ?_))
  refine aG (Cc (.pl 0 0)) y4 (aG (Cc (sC (.string s))) y4 (au (LT.lenStr Q jh) Q Q Q (aU fun r3 hr3 => (aT.step (bU [.c (.pl 0 0),.c (iC (s.size:Int))] (Fw.Fn.ren [(0,0)] (nP c (s.size:Int) r3 hr3) Q) nK (jG y2) z1 y3) z3 z1 Q Q (aI (Iv r3.1) y4 (On (Ws (Ws ?_))))))))
  refine en [(0,Cc (.pl 0 0)),(1,Cc (sC (.string s))),(5,Iv r3.1)] [(0,.row 139 [fM r3.2])] z3 z1 (Wr (aG (Cc (.pl 0 0)) y4 (aU fun r4 hr4 => (aT.step (bU [.c (.pl 0 0),.c (iC 4)] (Fw.Fn.ren [(0,0)] (nP r3.2 4 r4 hr4) Q) nK (jG y2) z1 y3) ⟨Q,Q,y2,J⟩ z1 Q Q (On (aC.block (Ws (Wr ?_))))))))
  refine aZ LT.eql aP (aI (Bv (r4.1 == 0)) y4 (On (aC.cond Q (fun hc5 => ?_) (fun hc5 => ?_))))
  ·refine Ws (aC.draw mixed ?_)
   refine aY (Cc (sC (.string s))) y4 (aY (Iv r3.1) y4 (aN.bind fun s6 hs6 => (bQ (LT.xP (kU:=none) (kT:=(some (.tmp 20,r3.1))) Q Q Q jh (.inr y2) (.inl Q) hs6) Q Q Q Q (aY (Cc (sC (.string s))) y4 (aY (Iv r3.1) y4 (jS LT.add aP (aN.bind fun s7 hs7 => (bQ (LT.xP (kU:=(some (.tmp 24,aB (r3.1 + 1)))) (kT:=none) Q Q Q jh (.inl Q) (.inr y2) hs7) Q Q Q Q (aN.bind fun s8 hs8 => (bQ (LT.lT Q hs8) Q Q Q Q (bH (LT.assign (v:=(Cc (sC (.string s8)))) Q) Q Q Q ?_)))))))))))
   refine dF (bT z1 z1 ⟨ah.sc,J⟩ ⟨bg.ou ⟨kK oh,ah.sc,ah.sc,J⟩,J⟩)
  ·refine Ws (Wr ?_)
   refine aZ LT.eql aP (aI (Bv (r4.1 == 1)) y4 (On (aC.cond Q (fun AO => ?_) (fun AO => ?_))))
   ·refine Ws (aC.draw mixed ?_)
    refine aY (Cc (sC (.string s))) y4 (aY (Iv r3.1) y4 (aN.bind fun s10 hs10 => (bQ (LT.xP (kU:=none) (kT:=(some (.tmp 30,r3.1))) Q Q Q jh (.inr y2) (.inl Q) hs10) Q Q Q Q (aY (Cc (.pl 0 0)) y4 (aN.bind fun r11 wH => (aN.step (bU [.c (.pl 0 0)] (Fw.Fn.ren [(0,0)] (F6 r4.2 r11 wH) Q) EG (iF Q) z1 y3) z2 z1 Q Q (bH (LT.yw Q PN zT) Q Q Q (Dw (gy 25 bn [(0,.tmp 34,.c (sC (.int .u8 (IntKind.u8.wrap r11.1))))] ([IntKind.u8.wrap r11.1]:List Int) qX yR y7) Q Q Q (bV (LT.Ko Q Q qX zT jh) Q Q Q Q (aN.bind fun s12 aHC => (bQ (LT.lT Q aHC) Q Q Q Q ?_)))))))))))
    refine aY (Cc (sC (.string s))) y4 (aY (Iv r3.1) y4 (aN.bind fun s13 aHD => (bQ (LT.xP (kU:=(some (.tmp 39,r3.1))) (kT:=none) Q Q Q jh (.inl Q) (.inr y2) aHD) Q Q Q Q (aN.bind fun s14 aHE => (bQ (LT.lT Q aHE) Q Q Q Q (bH (LT.assign (v:=(Cc (sC (.string s14)))) Q) Q Q Q (dF (bT z1 z1 ⟨ah.sc,J⟩ ⟨bg.ou ⟨kK oh,ah.sc,ah.sc,J⟩,J⟩))))))))
   ·refine Ws (Wr ?_)
    refine aZ LT.eql aP (aI (Bv (r4.1 == 2)) y4 (On (aC.cond Q (fun rW => ?_) (fun rW => ?_))))
    ·refine Ws (Wr ?_)
     refine aG (Cc (sC (.string s))) y4 (aG (Iv r3.1) y4 (aU fun s16 aHF => (dU (LT.xP (kU:=none) (kT:=(some (.tmp 45,r3.1))) Q Q Q jh (.inr y2) (.inl Q) aHF) Q Q Q Q (aI (Cc (sC (.string s16))) y4 (On (bT z1 z1 ⟨ah.sc,J⟩ ⟨bg.ou ⟨kK oh,ah.sc,ah.sc,J⟩,J⟩))))))
    ·refine aC.skip (aC.blk (Ws (aC.draw mixed ?_)))
     refine aY (Cc (sC (.string s))) y4 (aY (Iv r3.1) y4 (aN.bind fun s17 aHG => (bQ (LT.xP (kU:=none) (kT:=(some (.tmp 48,r3.1))) Q Q Q jh (.inr y2) (.inl Q) aHG) Q Q Q Q (aY (Cc (sC (.string s))) y4 (aY (Iv r3.1) y4 (aN.bind fun x18 MK => (bQ (LT.indexStr Q jh MK) Q Q Q Q (bH (LT.yw Q PO PL) Q Q Q (aY (Cc (.pl 0 0)) y4 (aN.bind fun pV Ed => (aN.step (bU [.c (.pl 0 0),.c (iC 255)] (Fw.Fn.ren [(0,0)] (nP r4.2 255 pV Ed) Q) nK (jG y2) z1 y3) ⟨Q,Q,y2,J⟩ z1 Q Q ?_)))))))))))
     refine jS LT.add oQ (jS LT.xor y5 (bH (LT.yw Q PN zT) Q Q Q (Dw (gy 27 bn [(0,.tmp 58,.c (sC (.int .u8 (IntKind.u8.wrap (bits .xor .i64 (aB x18) (aB (1 + pV.1)))))))] ([IntKind.u8.wrap (bits .xor .i64 (aB x18) (aB (1 + pV.1)))]:List Int) qX yR y7) Q Q Q (bV (LT.Ko Q Q qX zT jh) Q Q Q Q (aN.bind fun s20 V5 => (bQ (LT.lT Q V5) Q Q Q Q (aY (Cc (sC (.string s))) y4 (aY (Iv r3.1) y4 (jS LT.add aP (aN.bind fun s21 aHI => (bQ (LT.xP (kU:=(some (.tmp 64,aB (r3.1 + 1)))) (kT:=none) Q Q Q jh (.inl Q) (.inr y2) aHI) Q Q Q Q ?_)))))))))))
     refine aN.bind fun Xi aHJ => (bQ (LT.lT Q aHJ) Q Q Q Q (bH (LT.assign (v:=(Cc (sC (.string Xi)))) Q) Q Q Q (dF (bT z1 z1 ⟨ah.sc,J⟩ ⟨bg.ou ⟨kK oh,ah.sc,ah.sc,J⟩,J⟩))))
theorem aKs (c:dJ) (list:(List ByteArray)):FT Try.prog (Ru c list) 145 [.c (.pl 0 0),.c (xF encStr list)] [(0,.row 139 [fM c])] (fun (t:(ByteArray × dJ)) => [.c (sC (.string t.1))]) (fun (t:(ByteArray × dJ)) => [(0,.row 139 [fM t.2])]) []:=by
 refine FT.of [0] Try.func145 Try.ntmps145 Q y2 ?_
 intro w0 U0 R0 g0
 unfold Ru
 refine Ws (Wr ?_)
 refine aI (Cc (sC (.string ByteArray.empty))) ak (On (Ws (Wr ?_)))
 refine aG (Cc (xF encStr list)) y4 (aG (Cc (.pl 0 0)) y4 (aG (Cc (xF encStr list)) y4 (au (LT.gB Q ni) Q Q Q (aU fun r1 hr1 => (aT.step (bU [.c (.pl 0 0),.c (iC (list.length:Int))] (Fw.Fn.ren [(0,0)] (nP c (list.length:Int) r1 hr1) Q) nK (jG y2) z1 y3) z3 z1 Q Q (aU fun x2 hx2 => (dU (LT.dZ (enc:=encStr) Q o9 hx2 Di) Q Q Q Q (au (LT.iq Q o7) Q Q Q (aI (Cc (sC (.string x2))) y4 (On (bT z1 z1 ⟨ah.sc,J⟩ ⟨bg.ou ⟨kK oh,ah.sc,ah.sc,J⟩,J⟩)))))))))))
theorem aKi (code:(List Int)):FT Try.prog (Nc code) 65 [.c (xT bn code)] [] (fun (t:ByteArray) => [.c (sC (.string t))]) (fun (t:ByteArray) => []) []:=by
 refine FT.of [] Try.func65 Try.ntmps65 Q y2 ?_
 intro w0 U0 R0 g0
 unfold Nc
 refine Ws (Wr ?_)
 refine aI (Cc (sC (.string ByteArray.empty))) ak (On (Ws (Wr ?_)))
 refine aG (Cc (xT bn code)) y4 (aU fun r1 hr1 => (aT.step (bU [.c (xT bn code)] (Fw.Fn.ren [(0,22)] (KD code r1 hr1) Q) Gu (iF Q) J y3) z2 J Q Q (aI (Cc (.pl 22 0)) y4 (On (Ws (Wr ?_))))))
 refine aG (Cc (.pl 22 0)) y4 (aU fun r2 hr2 => (aT.step (bU [.c (.pl 22 0)] (Fw.Fn.ren [(0,22),(1,24)] (F5 r1 r2 hr2) Q) EH (iF Q) z1 y3) z2 z1 Q Q (aU fun r3 hr3 => (aT.pure (cF [.agg [iC r2.1.Graph.aF,lo 24 r2.1.Graph.aA.length,xT aJ r2.1.Places]] [(24,pR 96 aK r2.1.Graph.aA)] (YH r2.1 r3 hr3) Ul (.cons (.agg (.cons (.same Q) (.cons (.dG Q Q) (.cons (.weak (.same Q) (QW.iL jA (fun h => by cases h) _)) .nil)))) .nil) J y3) z2 z1 Q Q (aI (Cc (sC (.string r3))) y4 (On (Ws (Ws ?_))))))))
 refine en [(3,Cc (.pl 22 0)),(4,Cc (sC (.string r3)))] [(22,.row 139 [fM r2.2])] z2 z1 (Wr (aG (Cc (.pl 22 0)) y4 (aU fun r4 hr4 => (aT.step (bU [.c (.pl 22 0),.c (iC 4)] (Fw.Fn.ren [(0,22)] (nP r2.2 4 r4 hr4) Q) nK (jG y2) z1 y3) ⟨Q,Q,y2,J⟩ z1 Q Q (On (aC.block (Ws (Wr ?_))))))))
 refine aZ LT.eql aP (aI (Bv (r4.1 == 0)) y4 (On (aC.cond Q (fun hc5 => ?_) (fun hc5 => ?_))))
 ·refine Ws (Wr ?_)
  refine aG (Cc (.pl 22 0)) y4 (aG (Cc (sC (.string r3))) y4 (aU fun r6 tY => (aT.step (bU [.c (.pl 22 0),.c (sC (.string r3))] (Fw.Fn.ren [(0,22)] (aKt r4.2 r3 r6 tY) Q) aD8 (jG y2) z1 y3) z3 z1 Q Q (aI (Cc (sC (.string r6.1))) y4 (On (bT z1 J ⟨ah.sc,J⟩ J))))))
 ·refine Ws (Wr ?_)
  refine aZ LT.eql aP (aI (Bv (r4.1 == 1)) y4 (On (aC.cond Q (fun hc7 => ?_) (fun hc7 => ?_))))
  ·refine Ws (Wr ?_)
   refine aG (Cc (.pl 22 0)) y4 (aT.step (gy 28 encStr [(0,.const (.string ByteArray.empty),.c (sC (.string ByteArray.empty))),(1,.const (.string (ByteArray.mk #[97,116])),.c (sC (.string (ByteArray.mk #[97,116])))),(2,.const (.string (ByteArray.mk #[50,58,32,48,45,49,32,97,116,32,48,44,48,32,49,44,48])),.c (sC (.string (ByteArray.mk #[50,58,32,48,45,49,32,97,116,32,48,44,48,32,49,44,48])))),(3,.const (.string (ByteArray.mk #[50,58,32,48,45,49,32,97,116,32,48,44,48,32,48,44,48])),.c (sC (.string (ByteArray.mk #[50,58,32,48,45,49,32,97,116,32,48,44,48,32,48,44,48])))),(4,.const (.string (ByteArray.mk #[50,58,32,97,116,32,48,44,48,32,48,44,48])),.c (sC (.string (ByteArray.mk #[50,58,32,97,116,32,48,44,48,32,48,44,48])))),(5,.const (.string (ByteArray.mk #[50,58,32,48,45,49,32,97,116,32,48,44,48])),.c (sC (.string (ByteArray.mk #[50,58,32,48,45,49,32,97,116,32,48,44,48])))),(6,.const (.string (ByteArray.mk #[50,58,32,48,45,49,32,97,116,32,48,44,48,32,53,44,48])),.c (sC (.string (ByteArray.mk #[50,58,32,48,45,49,32,97,116,32,48,44,48,32,53,44,48])))),(7,.const (.string (ByteArray.mk #[49,58,32,97,116,32,48])),.c (sC (.string (ByteArray.mk #[49,58,32,97,116,32,48]))))] [ByteArray.empty,ByteArray.mk #[97,116],ByteArray.mk #[50,58,32,48,45,49,32,97,116,32,48,44,48,32,49,44,48],ByteArray.mk #[50,58,32,48,45,49,32,97,116,32,48,44,48,32,48,44,48],ByteArray.mk #[50,58,32,97,116,32,48,44,48,32,48,44,48],ByteArray.mk #[50,58,32,48,45,49,32,97,116,32,48,44,48],ByteArray.mk #[50,58,32,48,45,49,32,97,116,32,48,44,48,32,53,44,48],ByteArray.mk #[49,58,32,97,116,32,48]] ni yS y7) ⟨y2,y2,y2,y2,y2,y2,y2,y2,J⟩ J Q Q (aU fun r8 yG => (aT.step (cF [.c (.pl 22 0),.c (lo 28 ([ByteArray.empty,ByteArray.mk #[97,116],ByteArray.mk #[50,58,32,48,45,49,32,97,116,32,48,44,48,32,49,44,48],ByteArray.mk #[50,58,32,48,45,49,32,97,116,32,48,44,48,32,48,44,48],ByteArray.mk #[50,58,32,97,116,32,48,44,48,32,48,44,48],ByteArray.mk #[50,58,32,48,45,49,32,97,116,32,48,44,48],ByteArray.mk #[50,58,32,48,45,49,32,97,116,32,48,44,48,32,53,44,48],ByteArray.mk #[49,58,32,97,116,32,48]].length))] [(28,pR 9 encStr [ByteArray.empty,ByteArray.mk #[97,116],ByteArray.mk #[50,58,32,48,45,49,32,97,116,32,48,44,48,32,49,44,48],ByteArray.mk #[50,58,32,48,45,49,32,97,116,32,48,44,48,32,48,44,48],ByteArray.mk #[50,58,32,97,116,32,48,44,48,32,48,44,48],ByteArray.mk #[50,58,32,48,45,49,32,97,116,32,48,44,48],ByteArray.mk #[50,58,32,48,45,49,32,97,116,32,48,44,48,32,53,44,48],ByteArray.mk #[49,58,32,97,116,32,48]])] (Fw.Fn.ren [(0,22)] (aKs r4.2 [ByteArray.empty,ByteArray.mk #[97,116],ByteArray.mk #[50,58,32,48,45,49,32,97,116,32,48,44,48,32,49,44,48],ByteArray.mk #[50,58,32,48,45,49,32,97,116,32,48,44,48,32,48,44,48],ByteArray.mk #[50,58,32,97,116,32,48,44,48,32,48,44,48],ByteArray.mk #[50,58,32,48,45,49,32,97,116,32,48,44,48],ByteArray.mk #[50,58,32,48,45,49,32,97,116,32,48,44,48,32,53,44,48],ByteArray.mk #[49,58,32,97,116,32,48]] r8 yG) Q) aD9 (.cons (.c (.same Q)) (.cons (.c (.dG Q Q)) .nil)) z1 y3) z3 z2 Q Q (aI (Cc (sC (.string r8.1))) y4 (On (bT z1 J ⟨ah.sc,J⟩ J))))))
  ·refine aC.skip (aC.blk (Ws (Wr ?_)))
   refine aG (Cc (sC (.string r3))) y4 (aI (Cc (sC (.string r3))) y4 (On (bT z1 J ⟨ah.sc,J⟩ J)))
theorem UD (s:ByteArray) (ku:Int):FT Try.prog (DI s ku) 146 [.c (sC (.string s)),.c (sC (.int .u8 ku))] [] (fun (t:(List ByteArray)) => [.c (lo 0 t.length)]) (fun (t:(List ByteArray)) => [(0,pR 9 encStr t)]) [0]:=by
 refine FT.of [] Try.func146 Try.ntmps146 Q y2 ?_
 intro w0 U0 R0 g0
 unfold DI
 refine Ws (Wr ?_)
 refine aI (Cc (sC aO)) ak (On (Ws (Wr ?_)))
 refine ny (gy 21 encStr [] [] ni yS y7) Q Q (aI (Cc (lo 21 (([]:List ByteArray).length))) y4 (On (Ws (Wr ?_))))
 refine aI (Cc (sC (.string ByteArray.empty))) ak (On (Ws (Ws (Wr ?_))))
 refine aI (Iv 0) ak (On (aC.block ?_))
 refine aC.jP (id:=0) (JU s ku) (fun s1 => ([(0,Cc (sC (.string s))),(1,Cc (sC (.int .u8 ku))),(5,Cc (lo 21 s1.2.2.length)),(6,Cc (sC (.string s1.1))),(7,Iv s1.2.1)],[(21,pR 9 encStr s1.2.2)])) (fun gG => ([(5,Cc (lo 21 gG.2.length)),(6,Cc (sC (.string gG.1)))],[(21,pR 9 encStr gG.2)])) ?_ (aj.of z5 z1) Q (fun gG _ => ?_)
 ·intro s1
  unfold JU
  refine Ws (Ws (Wr ?_))
  refine aG (Iv s1.2.1) y4 (aG (Cc (sC (.string s))) y4 (au (LT.lenStr Q jh) Q Q Q (aZ LT.lss y5 (On (aC.cond Q (fun hc25 => ?_) (fun hc25 => ?_))))))
  ·refine aC.skip (Ws (aC.block (Ws (Wr ?_))))
   refine aG (Cc (sC (.string s))) y4 (aG (Iv s1.2.1) y4 (aU fun fH Bq => (dU (LT.indexStr Q jh Bq) Q Q Q Q (aG (Cc (sC (.int .u8 ku))) y4 (aZ LT.eql y5 (On (aC.eG (fun j31 => ([(0,Cc (sC (.string s))),(1,Cc (sC (.int .u8 ku))),(5,Cc (lo 21 j31.2.length)),(6,Cc (sC (.string j31.1))),(7,Iv s1.2.1)],[(21,pR 9 encStr j31.2)])) ?_ (fun j31 _ => ?_))))))))
   ·refine aC.cond Q (fun hc32 => ?_) (fun hc32 => ?_)
    ·refine Ws (Wr ?_)
     refine aG (Cc (lo 21 s1.2.2.length)) y4 (aG (Cc (sC (.string s1.1))) y4 (oC (gy 22 encStr [(0,.tmp 21,.c (sC (.string s1.1)))] [s1.1] ni yS y7) Q Q Q (aU fun u33 aHa => (oW (LT.ng (enc:=encStr) Q Q Q ni yS Q (by decide) (by decide) (fun _ => Q) (jw aHa)) Q Q Q Q Q Q (aI (Cc (lo 21 ((s1.2.2 ++ [s1.1]).length))) y4 (On (en [(0,Cc (sC (.string s))),(1,Cc (sC (.int .u8 ku))),(5,Cc (lo 21 ((s1.2.2 ++ [s1.1]).length))),(7,Iv s1.2.1)] [(21,pR 9 encStr (s1.2.2 ++ [s1.1]))] z4 z1 (Wr (aI (Cc (sC (.string ByteArray.empty))) ak (On (aX Q z5 z1)))))))))))
    ·refine Wr (aG (Cc (sC (.string s1.1))) y4 (aG (Cc (sC (.string s))) y4 (aG (Iv s1.2.1) y4 (aG (Iv s1.2.1) y4 (aZ LT.add aP (aU fun s34 aHK => (YW (LT.xP (kU:=(some (.tmp 26,s1.2.1))) (kT:=(some (.tmp 28,aB (s1.2.1 + 1)))) Q Q Q jh (.inl Q) (.inl Q) aHK) Q Q Q Q Q (aU fun Xj aHL => (dU (LT.lT Q aHL) Q Q Q Q (aI (Cc (sC (.string Xj))) y4 (On ?_)))))))))))
     refine aX Q z5 z1
   ·refine aC.blk (Wr ?_)
    refine aG (Iv s1.2.1) y4 (aZ LT.add aP (aI (Iv (aB (s1.2.1 + 1))) y4 (On (aX Q z5 z1))))
  ·refine gJ y2 z2 z1
 ·refine Ws (Wr ?_)
  refine aG (Cc (lo 21 gG.2.length)) y4 (aG (Cc (sC (.string gG.1))) y4 (oC (gy 23 encStr [(0,.tmp 32,.c (sC (.string gG.1)))] [gG.1] ni yS y7) Q Q Q (aU fun u36 MG => (oW (LT.ng (enc:=encStr) Q Q Q ni yS Q (by decide) (by decide) (fun _ => Q) (jw MG)) Q Q Q Q Q Q (aI (Cc (lo 21 ((gG.2 ++ [gG.1]).length))) y4 (On (en [(4,Cc (lo 21 ((gG.2 ++ [gG.1]).length)))] [(21,pR 9 encStr (gG.2 ++ [gG.1]))] z1 z1 (aC.ent (aj.mv 21 0 Q Q) (en [(4,Cc (lo 0 ((gG.2 ++ [gG.1]).length)))] [(0,pR 9 encStr (gG.2 ++ [gG.1]))] z1 z1 (bT z1 z1 ⟨J,J⟩ ⟨bg.dO aBw,J⟩))))))))))
theorem aKn (s:ByteArray):FT Try.prog (JI s) 186 [.c (sC (.string s))] [] (fun (t:(Int × Bool)) => [.c (iC t.1),.c (bC t.2)]) (fun (t:(Int × Bool)) => []) []:=by
 refine FT.of [] Try.func186 Try.ntmps186 Q y2 ?_
 intro w0 U0 R0 g0
 unfold JI
 refine Ws (Wr ?_)
 refine aI (Iv 0) ak (aI (Bv false) ak (On (Ws (Wr ?_))))
 refine aI (Iv 0) ak (On (Ws (Wr ?_)))
 refine aI (Iv 0) ak (On (Ws (Ws (Wr ?_))))
 refine aI (Iv 0) ak (On (aC.block ?_))
 refine aC.jP (id:=0) (JJ s) (fun s1 => ([(0,Cc (sC (.string s))),(4,Iv s1.1),(5,Iv s1.2.1),(6,Iv s1.2.2)],[])) (fun vH => ([(0,Cc (sC (.string s))),(4,Iv vH.1),(5,Iv vH.2)],[])) ?_ (aj.of z4 J) Q (fun vH _ => ?_)
 ·intro s1
  unfold JJ
  refine Ws (Ws ?_)
  refine aC.eG (fun j36 => ([(0,Cc (sC (.string s))),(4,Iv s1.1),(5,Iv s1.2.1),(6,Iv s1.2.2),(14,Bv j36)],[])) ?_ (fun j36 _ => ?_)
  ·refine Wr (aG (Iv s1.2.2) y4 (aG (Cc (sC (.string s))) y4 (au (LT.lenStr Q jh) Q Q Q (aZ LT.lss y5 (aG (Bv (decide (s1.2.2 < (s.size:Int)))) y4 (aT.split (fun EW => ?_) (fun EW => ?_)))))))
   ·refine iy (Iv s1.2.2) EW y5 (iV LT.lss EW kY (dn (Bv (decide (s1.2.2 < 11))) EW y5 (On (aX Q z5 J))))
   ·refine af EW y5 (af EW y5 (gK (Bv false) EW aP (On (aX Q z5 J))))
  ·refine aC.cond Q (fun hc38 => ?_) (fun hc38 => ?_)
   ·refine aC.skip (Ws (aC.block (Ws ?_)))
    refine aC.eG (fun j42 => ([(0,Cc (sC (.string s))),(4,Iv s1.1),(5,Iv s1.2.1),(6,Iv s1.2.2),(26,Bv j42)],[])) ?_ (fun j42 _ => ?_)
    ·refine Wr (aG (Cc (sC (.string s))) y4 (aG (Iv s1.2.2) y4 (aU fun x43 MR => (dU (LT.indexStr Q jh MR) Q Q Q Q (aZ LT.geq aP (aG (Bv (decide (48 ≤ x43))) y4 (aT.split (fun yB => ?_) (fun yB => ?_))))))))
     ·refine iy (Cc (sC (.string s))) yB y5 (iy (Iv s1.2.2) yB y5 (aU fun je MS => (dU (LT.indexStr Q jh MS) Q Q (gH yB Q Q) Q (iV LT.leq yB kY (dn (Bv (decide (je ≤ 57))) yB y5 (On (aX Q z5 J)))))))
     ·refine af yB y5 (af yB y5 (af yB y5 (af yB y5 (gK (Bv false) yB aP (On (aX Q z5 J))))))
    ·refine aC.eG (fun j48 => ([(0,Cc (sC (.string s))),(4,Iv j48.1),(5,Iv j48.2),(6,Iv s1.2.2)],[])) ?_ (fun j48 _ => ?_)
     ·refine aC.cond Q (fun aFo => ?_) (fun aFo => ?_)
      ·refine Ws (Wr ?_)
       refine aG (Iv s1.1) y4 (aZ LT.mul aP (aG (Cc (sC (.string s))) y4 (aG (Iv s1.2.2) y4 (aU fun Po RD => (dU (LT.indexStr Q jh RD) Q Q Q Q (aZ LT.aCe aP (au (LT.yw Q PO PL) Q Q Q (aZ LT.add y5 (aI (Iv (aB ((aB (s1.1 * 10)) + (aB (IntKind.u8.wrap (Po - 48)))))) y4 (On (Wr ?_)))))))))))
       refine aG (Iv s1.2.1) y4 (aZ LT.add aP (aI (Iv (aB (s1.2.1 + 1))) y4 (On (aX Q z4 J))))
      ·refine aC.skip (aX Q z4 J)
     ·refine aC.blk (Wr ?_)
      refine aG (Iv s1.2.2) y4 (aZ LT.add aP (aI (Iv (aB (s1.2.2 + 1))) y4 (On (aX Q z4 J))))
   ·refine gJ y2 z3 J
 ·refine Ws (Ws ?_)
  refine aC.eG (fun j53 => ([(0,Cc (sC (.string s))),(4,Iv vH.1),(5,Iv vH.2),(44,Bv j53)],[])) ?_ (fun j53 _ => ?_)
  ·refine Wr (aG (Cc (sC (.string s))) y4 (au (LT.lenStr Q jh) Q Q Q (aZ LT.gtr aP (aG (Bv (decide (0 < (s.size:Int)))) y4 (aT.split (fun AL => ?_) (fun AL => ?_))))))
   ·refine iy (Cc (sC (.string s))) AL y5 (aU fun x55 aHp => (dU (LT.indexStr Q jh aHp) Q y2 (gH AL Q Q) Q (iV LT.eql AL kY (dn (Bv (x55 == 45)) AL y5 (On (aX Q z4 J))))))
   ·refine af AL y5 (af AL y5 (af AL y5 (gK (Bv false) AL aP (On (aX Q z4 J)))))
  ·refine aC.eG (fun j57 => ([(0,Cc (sC (.string s))),(4,Iv j57),(5,Iv vH.2)],[])) ?_ (fun j57 _ => ?_)
   ·refine aC.cond Q (fun aFr => ?_) (fun aFr => ?_)
    ·refine Wr (aG (Iv vH.1) y4 (au (LT.neg Q) Q Q Q (aI (Iv (aB (-vH.1))) y4 (On (aX Q z3 J)))))
    ·refine aC.skip (aX Q z3 J)
   ·refine Ws (Ws ?_)
    refine aC.eG (fun j62 => ([(4,Iv j57),(59,Bv j62)],[])) ?_ (fun j62 _ => ?_)
    ·refine Wr (aG (Iv vH.2) y4 (aZ LT.gtr aP (aG (Bv (decide (9 < vH.2))) y4 (aT.split (fun pJ => ?_) (fun pJ => ?_)))))
     ·refine af pJ y5 (af pJ y5 (af pJ y5 (dn (Bv true) pJ aP (aG (Bv true) y4 (bY y5 (bY y5 (bY y5 (bY y5 (dn (Bv true) Q aP (On (aX Q z2 J)))))))))))
     ·refine iy (Cc (sC (.string s))) pJ y5 (au (LT.lenStr Q jh) Q (gH pJ Q Q) Q (iV LT.gtr pJ kY (gK (Bv (decide (10 < (s.size:Int)))) pJ y5 (aG (Bv (decide (10 < (s.size:Int)))) y4 (aT.split (fun hb64 => ?_) (fun hb64 => ?_))))))
      ·refine af hb64 y5 (af hb64 y5 (af hb64 y5 (af hb64 y5 (dn (Bv true) hb64 aP (On (aX Q z2 J))))))
      ·refine iy (Iv j57) hb64 y5 (aU fun TB aGz => (aT.pure (bU [.c (iC j57)] (KC j57 TB aGz) Gs (iF Q) J y3) z2 J (gH hb64 Q Q) Q (iy (Cc (sC (.string s))) hb64 y5 (iV LT.FU hb64 y6 (gK (Bv (!(TB.toList == s.toList))) hb64 y5 (On (aX Q z2 J)))))))
    ·refine aC.cond Q (fun aFv => ?_) (fun aFv => ?_)
     ·refine Ws (Wr ?_)
      refine aI (Iv 0) ak (aI (Bv false) ak (On (bT z2 J ⟨ah.sc,ah.sc,J⟩ J)))
     ·refine aC.skip (Ws (Wr ?_))
      refine aG (Iv j57) y4 (aI (Iv j57) y4 (aI (Bv true) ak (On (bT z2 J ⟨ah.sc,ah.sc,J⟩ J))))
theorem Pg (s:ByteArray):FT Try.prog (wK s) 148 [.c (sC (.string s))] [] (fun (t:Int) => [.c (iC t)]) (fun (t:Int) => []) []:=by
 refine FT.of [] Try.func148 Try.ntmps148 Q y2 ?_
 intro w0 U0 R0 g0
 unfold wK
 refine Ws (Wr ?_)
 refine aI (Iv 0) ak (On (Ws (Wr ?_)))
 refine aG (Cc (sC (.string s))) y4 (aU fun r1 hr1 => (jC [.c (sC (.string s))] (aKn s r1 hr1) aEK (iF Q) y5 z2 (aG (.dW [.c (iC r1.1),.c (bC r1.2)]) y4 (jc (.c (iC r1.1)) y5 (jc (.c (bC r1.2)) y5 (aI (Iv r1.1) y4 (aI (Bv r1.2) y4 (On (Ws (Ws (Wr ?_)))))))))))
 refine aG (Bv r1.2) y4 (au (LT.not Q) Q Q Q (On (aC.cond Q (fun hc2 => ?_) (fun hc2 => ?_))))
 ·refine Ws (Wr ?_)
  refine aI (Iv (-1)) ak (On (bT z1 J ⟨ah.sc,J⟩ J))
 ·refine aC.skip (Ws (Wr ?_))
  refine aG (Iv r1.1) y4 (aI (Iv r1.1) y4 (On (bT z1 J ⟨ah.sc,J⟩ J)))
theorem aKm (s:ByteArray):FT Try.prog (FH s) 147 [.c (sC (.string s))] [] (fun (t:(bM × Bool)) => [.agg [iC t.1.aF,lo 0 t.1.aA.length],.c (bC t.2)]) (fun (t:(bM × Bool)) => [(0,pR 96 aK t.1.aA)]) [0]:=by
 refine FT.of [] Try.func147 Try.ntmps147 Q y2 ?_
 intro w0 U0 R0 g0
 unfold FH
 refine Ws (Wr ?_)
 refine dQ 21 [iC 0,sC aO] lF y6 (aI (Bv false) ak (On (Ws (Wr ?_))))
 refine aG (Cc (sC (.string s))) y4 (aU fun r1 hr1 => (aT.step (bU [.c (sC (.string s)),.c (sC (.int .u8 32))] (Fw.Fn.ren [(0,23)] (UD s 32 r1 hr1) Q) QG (jG y2) J y3) ⟨Q,Q,y2,J⟩ J Q Q (aI (Cc (lo 23 r1.length)) y4 (On (Ws (Wr ?_))))))
 refine ny (gy 24 aK [] [] iU jQ y7) Q Q (au (LT.build [(1,.tmp 10,.c (lo 24 (([]:List aV).length)))] Q Q uy lF Q Q Q) Q Q Q (dQ 25 [iC 0,sC aO] lF y6 (dA (stA [iC 0,lo 24 (([]:List aV).length)] Q Q dX dM) Q Q Q Q Q (On (Ws (Ws ?_))))))
 refine en [(0,Cc (sC (.string s))),(2,Cc (.pl 21 0)),(4,Cc (lo 23 r1.length)),(5,Cc (.pl 25 0))] [(21,.row 26 [[iC 0,sC aO]]),(23,pR 9 encStr r1),(24,pR 96 aK ([]:List aV)),(25,.row 26 [[iC 0,lo 24 (([]:List aV).length)]])] z4 z4 (Wr (aG (Cc (lo 23 r1.length)) y4 (aU fun x2 hx2 => (lS (LT.iW Q Q o9 hx2) Q y2 Q Q Q (cZ (oK 0 Q o7 hx2) Q Q Q Q (au (LT.lenStr Q jh) Q Q Q (aZ LT.lss aP (On (aC.cond Q (fun hc3 => ?_) (fun hc3 => ?_))))))))))
 ·refine Ws (Wr ?_)
  refine uX (LT.build [] Q Q uy lF Q Q Q) Q Q (dA (stA [iC 0,sC aO] Q Q dX dM) Q Q Q Q Q (aI (Bv false) ak (On (aC.ent (aj.qp 21 1 0 96 Q Q Q Q) (en [(2,Cc (.pl 21 0)),(3,Bv false)] [(0,pR 96 aK ([]:List aV)),(21,.row 26 [[iC 0,lo 0 (([]:List aV).length)]])] z2 z2 (bT ⟨⟨_,_,_,Q,Q,Q,iI,dM,_,fE dX⟩,Q,J⟩ z1 ⟨⟨ah.sc,J,J⟩,ah.sc,J⟩ ⟨bg.dO iP,J⟩))))))
 ·refine aC.skip (Ws (aC.draw mixed ?_))
  refine aY (Cc (lo 23 r1.length)) y4 (aN.bind fun x4 hx4 => (kJ (LT.iW Q Q o9 hx4) Q y2 Q Q Q (bV (oK 0 Q o7 hx4) Q Q Q Q (aY (Cc (lo 23 r1.length)) y4 (aN.bind fun x5 hx5 => (kJ (LT.iW Q Q o9 hx5) Q y2 Q Q Q (bV (oK 0 Q o7 hx5) Q Q Q Q (bH (LT.lenStr Q jh) Q Q Q (jS LT.sub aP (aN.bind fun s6 hs6 => (bQ (LT.xP (kU:=none) (kT:=(some (.tmp 25,aB ((x5.size:Int) - 1)))) Q Q Q jh (.inr y2) (.inl Q) hs6) Q Q Q Q ?_)))))))))))
  refine aN.bind fun r7 tZ => (aN.pure (bU [.c (sC (.string s6))] (Pg s6 r7 tZ) KX (iF Q) J y3) z2 J Q Q (bH (LT.eu Q lV) Q Q Q (iY (rD (.c (iC r7)) [iC r7,lo 24 (([]:List aV).length)] Q Q qh jq) Q Q Q Q Q (dF (Ws (Ws ?_))))))
  refine en [(0,Cc (sC (.string s))),(2,Cc (.pl 21 0)),(4,Cc (lo 23 r1.length)),(5,Cc (.pl 25 0))] [(21,.row 26 [[iC 0,sC aO]]),(23,pR 9 encStr r1),(24,pR 96 aK ([]:List aV)),(25,.row 26 [[iC r7,lo 24 (([]:List aV).length)]])] z4 z4 (Wr (aI (Iv 1) ak (On (aC.block ?_))))
  refine aC.ql (id:=0) (Aw r1 r7) (fun s8 => ([(0,Cc (sC (.string s))),(2,Cc (.pl 21 0)),(4,Cc (lo 23 r1.length)),(5,Cc (.pl 25 0)),(6,Iv s8.1)],[(21,.row 26 [[iC 0,sC aO]]),(23,pR 9 encStr r1),(24,pR 96 aK s8.2),(25,.row 26 [[iC r7,lo 24 s8.2.length]])])) (fun b27 => ([(0,Cc (sC (.string s))),(2,Cc (.pl 21 0)),(5,Cc (.pl 25 0))],[(21,.row 26 [[iC 0,sC aO]]),(24,pR 96 aK b27.1),(25,.row 26 [[iC b27.2,lo 24 b27.1.length]])])) (lI Try.prog Try.f147.results.toList [] [0] (fun (t:(bM × Bool)) => [.agg [iC t.1.aF,lo 0 t.1.aA.length],.c (bC t.2)]) (fun (t:(bM × Bool)) => [(0,pR 96 aK t.1.aA)])) ?_ (aj.of z5 z4) Q (fun b27 _ => ?_) qj
  ·intro s8
   unfold Aw
   refine Ws (Ws (Wr ?_))
   refine aG (Iv s8.1) y4 (aG (Cc (lo 23 r1.length)) y4 (au (LT.mM Q ni) Q Q Q (aZ LT.lss y5 (On (aC.cond Q (fun hc28 => ?_) (fun hc28 => ?_))))))
   ·refine aC.skip (Ws (aC.block (Ws (Wr ?_))))
    refine aG (Cc (lo 23 r1.length)) y4 (aG (Iv s8.1) y4 (aU fun x29 hx29 => (lS (LT.iW Q Q o9 hx29) Q Q Q Q Q (cZ (oK 0 Q o7 hx29) Q Q Q Q (aU fun mG Ls => (aT.step (bU [.c (sC (.string x29)),.c (sC (.int .u8 45))] (Fw.Fn.ren [(0,28)] (UD x29 45 mG Ls) Q) QG (jG y2) J y3) ⟨Q,Q,y2,J⟩ J Q Q (aI (Cc (lo 28 mG.length)) y4 (On (Ws (Ws ?_))))))))))
    refine en [(0,Cc (sC (.string s))),(2,Cc (.pl 21 0)),(4,Cc (lo 23 r1.length)),(5,Cc (.pl 25 0)),(6,Iv s8.1),(7,Cc (lo 28 mG.length))] [(21,.row 26 [[iC 0,sC aO]]),(23,pR 9 encStr r1),(24,pR 96 aK s8.2),(25,.row 26 [[iC r7,lo 24 s8.2.length]]),(28,pR 9 encStr mG)] z6 z5 (Wr (aG (Cc (lo 28 mG.length)) y4 (au (LT.mM Q ni) Q Q Q (aZ LT.neq aP (On (aC.cond Q (fun hc31 => ?_) (fun hc31 => ?_)))))))
    ·refine Ws (Wr ?_)
     refine uX (LT.build [] Q Q uy lF Q Q Q) Q Q (dA (stA [iC 0,sC aO] Q Q dX dM) Q Q Q Q Q (aI (Bv false) ak (On (aC.ent (aj.qp 21 1 0 96 Q Q Q Q) (en [(2,Cc (.pl 21 0)),(3,Bv false)] [(0,pR 96 aK ([]:List aV)),(21,.row 26 [[iC 0,lo 0 (([]:List aV).length)]])] z2 z2 (aC.ret ⟨Q,qc ⟨⟨_,_,_,Q,Q,Q,iI,dM,_,fE dX⟩,Q,J⟩ z1 ⟨⟨ah.sc,J,J⟩,ah.sc,J⟩ ⟨bg.dO iP,J⟩⟩))))))
    ·refine aC.skip (aC.draw mixed ?_)
     refine dw (lo 24 s8.2.length) gq iQ bI (aY (Cc (lo 28 mG.length)) y4 (aN.bind fun x32 hx32 => (kJ (LT.iW Q Q o9 hx32) Q y2 Q Q Q (bV (oK 0 Q o7 hx32) Q Q Q Q (aN.bind fun jL Eh => (aN.pure (bU [.c (sC (.string x32))] (Pg x32 jL Eh) KX (iF Q) J y3) z2 J Q Q (aY (Cc (lo 28 mG.length)) y4 (aN.bind fun x34 hx34 => (kJ (LT.iW Q Q o9 hx34) Q y2 Q Q Q (bV (oK 0 Q o7 hx34) Q Q Q Q ?_))))))))))
     refine aN.bind fun jX L6 => (aN.pure (bU [.c (sC (.string x34))] (Pg x34 jX L6) KX (iF Q) J y3) z2 J Q Q (bQ (LT.build [(0,.tmp 49,.c (iC jL)),(1,.tmp 53,.c (iC jX))] Q Q zJ jQ Q Q Q) Q Q Q Q (Dw (gy 31 aK [(0,.tmp 54,.agg [iC jL,iC jX])] [aV.mk jL jX] iU jQ y7) Q Q Q (aN.bind fun u36 MG => (KI (LT.ng (enc:=aK) Q Q Q iU jQ Q (by decide) (by decide) (fun _ => Q) (jw MG)) Q Q Q Q Q Q (bH (LT.eu Q gq) Q Q Q (iY (rD (.c (lo 24 ((s8.2 ++ [aV.mk jL jX]).length))) [iC r7,lo 24 ((s8.2 ++ [aV.mk jL jX]).length)] Q Q Eo Fp) Q Q Q Q Q (dF (aC.blk (en [(0,Cc (sC (.string s))),(2,Cc (.pl 21 0)),(4,Cc (lo 23 r1.length)),(5,Cc (.pl 25 0)),(6,Iv s8.1)] [(21,.row 26 [[iC 0,sC aO]]),(23,pR 9 encStr r1),(24,pR 96 aK (s8.2 ++ [aV.mk jL jX])),(25,.row 26 [[iC r7,lo 24 ((s8.2 ++ [aV.mk jL jX]).length)]])] z5 z4 (Wr ?_)))))))))))
     refine aG (Iv s8.1) y4 (aZ LT.add aP (aI (Iv (aB (s8.1 + 1))) y4 (On (aX Q z5 z4))))
   ·refine gJ y2 z3 z3
  ·refine Ws (Ws (Wr ?_))
   refine cZ (bD [iC b27.2,lo 24 b27.1.length] Q iI dX dM) Q Q Q Q (aU fun sF Ei => (aT.pure (cF [.agg [iC b27.2,lo 24 b27.1.length]] [(24,pR 96 aK b27.1)] (aDI (bM.mk b27.2 b27.1) sF Ei) Y3 (.cons (.agg (.cons (.same Q) (.cons (.dG Q Q) .nil))) .nil) J y3) z2 z1 Q Q (aG (Cc (sC (.string s))) y4 (aZ LT.FU y5 (On (aC.cond Q (fun hc38 => ?_) (fun hc38 => ?_)))))))
   ·refine Ws (Wr ?_)
    refine uX (LT.build [] Q Q uy lF Q Q Q) Q Q (dA (stA [iC 0,sC aO] Q Q dX dM) Q Q Q Q Q (aI (Bv false) ak (On (aC.ent (aj.qp 21 1 0 96 Q Q Q Q) (en [(2,Cc (.pl 21 0)),(3,Bv false)] [(0,pR 96 aK ([]:List aV)),(21,.row 26 [[iC 0,lo 0 (([]:List aV).length)]])] z2 z2 (bT ⟨⟨_,_,_,Q,Q,Q,iI,dM,_,fE dX⟩,Q,J⟩ z1 ⟨⟨ah.sc,J,J⟩,ah.sc,J⟩ ⟨bg.dO iP,J⟩))))))
   ·refine aC.skip (Ws (Wr ?_))
    refine cZ (bD [iC b27.2,lo 24 b27.1.length] Q iI dX dM) Q Q Q Q (dA (stA [iC b27.2,lo 24 b27.1.length] Q Q dX dM) Q Q Q Q Q (aI (Bv true) ak (On (en [(2,Cc (.pl 21 0)),(3,Bv true)] [(21,.row 26 [[iC b27.2,lo 24 b27.1.length]]),(24,pR 96 aK b27.1)] z2 z2 (aC.ent (aj.mv 24 0 Q Q) (en [(2,Cc (.pl 21 0)),(3,Bv true)] [(0,pR 96 aK b27.1),(21,.row 26 [[iC b27.2,lo 0 b27.1.length]])] z2 z2 (bT ⟨⟨_,_,_,Q,Q,Q,iI,dM,_,fE dX⟩,Q,J⟩ z1 ⟨⟨ah.sc,J,J⟩,ah.sc,J⟩ ⟨bg.dO iP,J⟩)))))))
theorem aKl (s:ByteArray):FT Try.prog (Aq s) 66 [.c (sC (.string s))] [] (fun (t:(aW × Bool)) => [.agg [iC t.1.Graph.aF,lo 0 t.1.Graph.aA.length,lo 1 t.1.Places.length],.c (bC t.2)]) (fun (t:(aW × Bool)) => [(0,pR 96 aK t.1.Graph.aA),(1,pR 82 aJ t.1.Places)]) [0,1]:=by
 refine FT.of [] Try.func66 Try.ntmps66 Q y2 ?_
 intro w0 U0 R0 g0
 unfold Aq
 refine Ws (Wr ?_)
 refine dQ 21 [iC 0,sC aO,sC aO] iG y6 (aI (Bv false) ak (On (Ws (Wr ?_))))
 refine aG (Cc (sC (.string s))) y4 (aU fun r1 hr1 => (aT.step (bU [.c (sC (.string s)),.c (sC (.int .u8 32))] (Fw.Fn.ren [(0,23)] (UD s 32 r1 hr1) Q) QG (jG y2) J y3) ⟨Q,Q,y2,J⟩ J Q Q (aI (Cc (lo 23 r1.length)) y4 (On (Ws (Wr ?_))))))
 refine aI (Iv 0) ak (On (Ws (aC.block ?_)))
 refine aC.jP (id:=0) (Ci r1) (fun s2 => ([(0,Cc (sC (.string s))),(2,Cc (.pl 21 0)),(4,Cc (lo 23 r1.length)),(5,Iv s2)],[(21,.row 29 [[iC 0,sC aO,sC aO]]),(23,pR 9 encStr r1)])) (fun b15 => ([(0,Cc (sC (.string s))),(2,Cc (.pl 21 0)),(4,Cc (lo 23 b15.2.length)),(5,Iv b15.1)],[(21,.row 29 [[iC 0,sC aO,sC aO]]),(23,pR 9 encStr b15.2)])) ?_ (aj.of z4 z2) Q (fun b15 _ => ?_)
 ·intro s2
  unfold Ci
  refine Ws (Ws ?_)
  refine aC.eG (fun j18 => ([(0,Cc (sC (.string s))),(2,Cc (.pl 21 0)),(4,Cc (lo 23 r1.length)),(5,Iv s2),(25,Bv j18)],[(21,.row 29 [[iC 0,sC aO,sC aO]]),(23,pR 9 encStr r1)])) ?_ (fun j18 _ => ?_)
  ·refine Wr (aG (Iv s2) y4 (aG (Cc (lo 23 r1.length)) y4 (au (LT.mM Q ni) Q Q Q (aZ LT.lss y5 (aG (Bv (decide (s2 < (r1.length:Int)))) y4 (aT.split (fun vz => ?_) (fun vz => ?_)))))))
   ·refine iy (Cc (lo 23 r1.length)) vz y5 (iy (Iv s2) vz y5 (aU fun x20 Ht => (lS (LT.iW Q Q o9 Ht) Q Q Q (gH vz Q Q) Q (cZ (oK 0 Q o7 Ht) Q Q (gH vz Q Q) Q (iV LT.FU vz kY (dn (Bv (!(x20.toList == (ByteArray.mk #[97,116]).toList))) vz y5 (On (aX Q z5 z2))))))))
   ·refine af vz y5 (af vz y5 (af vz y5 (af vz y5 (af vz y5 (gK (Bv false) vz aP (On (aX Q z5 z2)))))))
  ·refine aC.cond Q (fun hc21 => ?_) (fun hc21 => ?_)
   ·refine aC.skip (aC.block (Wr ?_))
    refine aG (Iv s2) y4 (aZ LT.add aP (aI (Iv (aB (s2 + 1))) y4 (On (aC.blk ?_))))
    refine aX Q z4 z2
   ·refine gJ y2 z4 z2
 ·refine Ws (Ws ?_)
  refine aC.eG (fun j23 => ([(0,Cc (sC (.string s))),(2,Cc (.pl 21 0)),(4,Cc (lo 23 b15.2.length)),(5,Iv b15.1),(35,Bv j23)],[(21,.row 29 [[iC 0,sC aO,sC aO]]),(23,pR 9 encStr b15.2)])) ?_ (fun j23 _ => ?_)
  ·refine Wr (aG (Iv b15.1) y4 (aZ LT.eql aP (aG (Bv (b15.1 == 0)) y4 (aT.split (fun xw => ?_) (fun xw => ?_)))))
   ·refine af xw y5 (af xw y5 (af xw y5 (af xw y5 (dn (Bv true) xw aP (On (aX Q z5 z2))))))
   ·refine iy (Iv b15.1) xw y5 (iy (Cc (lo 23 b15.2.length)) xw y5 (au (LT.mM Q ni) Q (gH xw Q Q) Q (iV LT.eql xw y6 (gK (Bv (b15.1 == (b15.2.length:Int))) xw y5 (On (aX Q z5 z2))))))
  ·refine aC.cond Q (fun hc25 => ?_) (fun hc25 => ?_)
   ·refine Ws (Wr ?_)
    refine uX (LT.build [] Q Q yN iG Q Q Q) Q Q (dA (stA [iC 0,sC aO,sC aO] Q Q ax ai) Q Q Q Q Q (aI (Bv false) ak (On (aC.ent (aj.qp 21 1 0 96 Q Q Q Q) (aC.ent (aj.qp 21 2 1 82 Q Q Q Q) (en [(2,Cc (.pl 21 0)),(3,Bv false)] [(0,pR 96 aK ([]:List aV)),(1,pR 82 aJ ([]:List bG)),(21,.row 29 [[iC 0,lo 0 (([]:List aV).length),lo 1 (([]:List bG).length)]])] z2 z3 (bT ⟨⟨_,_,_,Q,Q,Q,bP,ai,_,fE ax⟩,Q,J⟩ z2 ⟨⟨ah.sc,J,J,J⟩,ah.sc,J⟩ ⟨bg.dO iP,bg.dO jo,J⟩)))))))
   ·refine aC.skip (Ws (Wr ?_))
    refine aG (Cc (lo 23 b15.2.length)) y4 (aU fun fH Bq => (lS (LT.iW Q Q o9 Bq) Q y2 Q Q Q (cZ (oK 0 Q o7 Bq) Q Q Q Q (aI (Cc (sC (.string fH))) y4 (On (Ws (Ws (Wr ?_))))))))
    refine aI (Iv 1) ak (On (aC.block ?_))
    refine aC.jP (id:=2) (Ar b15) (fun qU => ([(0,Cc (sC (.string s))),(2,Cc (.pl 21 0)),(4,Cc (lo 23 b15.2.length)),(5,Iv b15.1),(6,Cc (sC (.string qU.1))),(7,Iv qU.2)],[(21,.row 29 [[iC 0,sC aO,sC aO]]),(23,pR 9 encStr b15.2)])) (fun jT => ([(0,Cc (sC (.string s))),(2,Cc (.pl 21 0)),(4,Cc (lo 23 jT.2.2.length)),(5,Iv jT.1),(6,Cc (sC (.string jT.2.1)))],[(21,.row 29 [[iC 0,sC aO,sC aO]]),(23,pR 9 encStr jT.2.2)])) ?_ (aj.of z6 z2) Q (fun jT _ => ?_)
    ·intro qU
     unfold Ar
     refine Ws (Ws (Wr ?_))
     refine aG (Iv qU.2) y4 (aG (Iv b15.1) y4 (aZ LT.lss y5 (On (aC.cond Q (fun aFj => ?_) (fun aFj => ?_)))))
     ·refine aC.skip (Ws (aC.block (Wr ?_)))
      refine aG (Cc (sC (.string qU.1))) y4 (aU fun s38 aHM => (dU (LT.lT Q aHM) Q y2 Q Q (aG (Cc (lo 23 b15.2.length)) y4 (aG (Iv qU.2) y4 (aU fun x39 hx39 => (lS (LT.iW Q Q o9 hx39) Q Q Q Q Q (cZ (oK 0 Q o7 hx39) Q Q Q Q (aU fun TM aHN => (dU (LT.lT Q aHN) Q Q Q Q (aI (Cc (sC (.string TM))) y4 (On (aC.blk ?_))))))))))))
      refine en [(0,Cc (sC (.string s))),(2,Cc (.pl 21 0)),(4,Cc (lo 23 b15.2.length)),(5,Iv b15.1),(6,Cc (sC (.string TM))),(7,Iv qU.2)] [(21,.row 29 [[iC 0,sC aO,sC aO]]),(23,pR 9 encStr b15.2)] z6 z2 (Wr (aG (Iv qU.2) y4 (aZ LT.add aP (aI (Iv (aB (qU.2 + 1))) y4 (On (aX Q z6 z2))))))
     ·refine gJ y2 z5 z2
    ·refine Ws (Wr ?_)
     refine aG (Cc (sC (.string jT.2.1))) y4 (aU fun eH L8 => (aT.step (bU [.c (sC (.string jT.2.1))] (Fw.Fn.ren [(0,25)] (aKm jT.2.1 eH L8) Q) aEA (iF Q) J y3) z2 J Q Q (aG (.dW [.agg [iC eH.1.aF,lo 25 eH.1.aA.length],.c (bC eH.2)]) y4 (jc (.agg [iC eH.1.aF,lo 25 eH.1.aA.length]) y5 (jc (.c (bC eH.2)) y5 (dQ 26 [iC 0,sC aO] lF y6 (dA (stA [iC eH.1.aF,lo 25 eH.1.aA.length] Q Q dX dM) Q Q Q Q Q (aI (Bv eH.2) y4 (On (Ws ?_))))))))))
     refine en [(0,Cc (sC (.string s))),(2,Cc (.pl 21 0)),(4,Cc (lo 23 jT.2.2.length)),(5,Iv jT.1),(8,Cc (.pl 26 0)),(9,Bv eH.2)] [(21,.row 29 [[iC 0,sC aO,sC aO]]),(23,pR 9 encStr jT.2.2),(25,pR 96 aK eH.1.aA),(26,.row 26 [[iC eH.1.aF,lo 25 eH.1.aA.length]])] z6 z4 (Wr (cZ (bD [iC eH.1.aF,lo 25 eH.1.aA.length] Q iI dX dM) Q Q Q Q (ny (gy 27 aJ [] [] lQ kM y7) Q Q (dU (LT.build [(0,.tmp 57,.agg [iC eH.1.aF,lo 25 eH.1.aA.length]),(1,.tmp 58,.c (lo 27 (([]:List bG).length)))] Q Q yN iG Q Q Q) Q Q Q Q (dQ 28 [iC 0,sC aO,sC aO] iG y6 (dA (stA [iC eH.1.aF,lo 25 eH.1.aA.length,lo 27 (([]:List bG).length)] Q Q ax ai) Q Q Q Q Q (On (Ws (Ws ?_)))))))))
     refine en [(0,Cc (sC (.string s))),(2,Cc (.pl 21 0)),(4,Cc (lo 23 jT.2.2.length)),(5,Iv jT.1),(9,Bv eH.2),(10,Cc (.pl 28 0))] [(21,.row 29 [[iC 0,sC aO,sC aO]]),(23,pR 9 encStr jT.2.2),(25,pR 96 aK eH.1.aA),(27,pR 82 aJ ([]:List bG)),(28,.row 29 [[iC eH.1.aF,lo 25 eH.1.aA.length,lo 27 (([]:List bG).length)]])] z6 z5 (Wr (aG (Iv jT.1) y4 (aZ LT.add aP (aI (Iv (aB (jT.1 + 1))) y4 (On (aC.block ?_))))))
     refine aC.ql (id:=4) (Au jT eH) (fun oz => ([(0,Cc (sC (.string s))),(2,Cc (.pl 21 0)),(4,Cc (lo 23 jT.2.2.length)),(9,Bv eH.2),(10,Cc (.pl 28 0)),(11,Iv oz.1)],[(21,.row 29 [[iC 0,sC aO,sC aO]]),(23,pR 9 encStr jT.2.2),(25,pR 96 aK eH.1.aA),(27,pR 82 aJ oz.2),(28,.row 29 [[iC eH.1.aF,lo 25 eH.1.aA.length,lo 27 oz.2.length]])])) (fun jJ => ([(0,Cc (sC (.string s))),(2,Cc (.pl 21 0)),(9,Bv jJ.1),(10,Cc (.pl 28 0))],[(21,.row 29 [[iC 0,sC aO,sC aO]]),(25,pR 96 aK jJ.2.1),(27,pR 82 aJ jJ.2.2.1),(28,.row 29 [[iC jJ.2.2.2,lo 25 jJ.2.1.length,lo 27 jJ.2.2.1.length]])])) (lI Try.prog Try.f66.results.toList [] [0,1] (fun (t:(aW × Bool)) => [.agg [iC t.1.Graph.aF,lo 0 t.1.Graph.aA.length,lo 1 t.1.Places.length],.c (bC t.2)]) (fun (t:(aW × Bool)) => [(0,pR 96 aK t.1.Graph.aA),(1,pR 82 aJ t.1.Places)])) ?_ (aj.of z6 z5) Q (fun jJ _ => ?_) qj
     ·intro oz
      unfold Au
      refine Ws (Ws (Wr ?_))
      refine aG (Iv oz.1) y4 (aG (Cc (lo 23 jT.2.2.length)) y4 (au (LT.mM Q ni) Q Q Q (aZ LT.lss y5 (On (aC.cond Q (fun aFt => ?_) (fun aFt => ?_))))))
      ·refine aC.skip (Ws (aC.block (Ws (Wr ?_))))
       refine aG (Cc (lo 23 jT.2.2.length)) y4 (aG (Iv oz.1) y4 (aU fun UG aAp => (lS (LT.iW Q Q o9 aAp) Q Q Q Q Q (cZ (oK 0 Q o7 aAp) Q Q Q Q (aU fun uG Vu => (aT.step (bU [.c (sC (.string UG)),.c (sC (.int .u8 44))] (Fw.Fn.ren [(0,30)] (UD UG 44 uG Vu) Q) QG (jG y2) J y3) ⟨Q,Q,y2,J⟩ J Q Q (aI (Cc (lo 30 uG.length)) y4 (On (Ws (Ws ?_))))))))))
       refine en [(0,Cc (sC (.string s))),(2,Cc (.pl 21 0)),(4,Cc (lo 23 jT.2.2.length)),(9,Bv eH.2),(10,Cc (.pl 28 0)),(11,Iv oz.1),(12,Cc (lo 30 uG.length))] [(21,.row 29 [[iC 0,sC aO,sC aO]]),(23,pR 9 encStr jT.2.2),(25,pR 96 aK eH.1.aA),(27,pR 82 aJ oz.2),(28,.row 29 [[iC eH.1.aF,lo 25 eH.1.aA.length,lo 27 oz.2.length]]),(30,pR 9 encStr uG)] z7 z6 (Wr (aG (Cc (lo 30 uG.length)) y4 (au (LT.mM Q ni) Q Q Q (aZ LT.neq aP (On (aC.cond Q (fun aFu => ?_) (fun aFu => ?_)))))))
       ·refine Ws (Wr ?_)
        refine uX (LT.build [] Q Q yN iG Q Q Q) Q Q (dA (stA [iC 0,sC aO,sC aO] Q Q ax ai) Q Q Q Q Q (aI (Bv false) ak (On (aC.ent (aj.qp 21 1 0 96 Q Q Q Q) (aC.ent (aj.qp 21 2 1 82 Q Q Q Q) (en [(2,Cc (.pl 21 0)),(3,Bv false)] [(0,pR 96 aK ([]:List aV)),(1,pR 82 aJ ([]:List bG)),(21,.row 29 [[iC 0,lo 0 (([]:List aV).length),lo 1 (([]:List bG).length)]])] z2 z3 (aC.ret ⟨Q,qc ⟨⟨_,_,_,Q,Q,Q,bP,ai,_,fE ax⟩,Q,J⟩ z2 ⟨⟨ah.sc,J,J,J⟩,ah.sc,J⟩ ⟨bg.dO iP,bg.dO jo,J⟩⟩)))))))
       ·refine aC.skip (aC.draw mixed ?_)
        refine dw (lo 27 oz.2.length) fJ fV bI (aY (Cc (lo 30 uG.length)) y4 (aN.bind fun x66 RF => (kJ (LT.iW Q Q o9 RF) Q y2 Q Q Q (bV (oK 0 Q o7 RF) Q Q Q Q (aN.bind fun uH Vw => (aN.pure (bU [.c (sC (.string x66))] (Pg x66 uH Vw) KX (iF Q) J y3) z2 J Q Q (aY (Cc (lo 30 uG.length)) y4 (aN.bind fun UH aAq => (kJ (LT.iW Q Q o9 aAq) Q y2 Q Q Q (bV (oK 0 Q o7 aAq) Q Q Q Q ?_))))))))))
        refine aN.bind fun uI Vx => (aN.pure (bU [.c (sC (.string UH))] (Pg UH uI Vx) KX (iF Q) J y3) z2 J Q Q (bQ (LT.build [(0,.tmp 82,.c (iC uH)),(1,.tmp 86,.c (iC uI))] Q Q FZ kM Q Q Q) Q Q Q Q (Dw (gy 33 aJ [(0,.tmp 87,.agg [iC uH,iC uI])] [bG.mk uH uI] lQ kM y7) Q Q Q (aN.bind fun u70 WH => (KI (LT.ng (enc:=aJ) Q Q Q lQ kM Q (by decide) (by decide) (fun _ => Q) (jw WH)) Q Q Q Q Q Q (bH (LT.eu Q fJ) Q Q Q (iY (rD (.c (lo 27 ((oz.2 ++ [bG.mk uH uI]).length))) [iC eH.1.aF,lo 25 eH.1.aA.length,lo 27 ((oz.2 ++ [bG.mk uH uI]).length)] Q Q RH TY) Q Q Q Q Q (dF (aC.blk (en [(0,Cc (sC (.string s))),(2,Cc (.pl 21 0)),(4,Cc (lo 23 jT.2.2.length)),(9,Bv eH.2),(10,Cc (.pl 28 0)),(11,Iv oz.1)] [(21,.row 29 [[iC 0,sC aO,sC aO]]),(23,pR 9 encStr jT.2.2),(25,pR 96 aK eH.1.aA),(27,pR 82 aJ (oz.2 ++ [bG.mk uH uI])),(28,.row 29 [[iC eH.1.aF,lo 25 eH.1.aA.length,lo 27 ((oz.2 ++ [bG.mk uH uI]).length)]])] z6 z5 (Wr ?_)))))))))))
        refine aG (Iv oz.1) y4 (aZ LT.add aP (aI (Iv (aB (oz.1 + 1))) y4 (On (aX Q z6 z5))))
      ·refine gJ y2 z4 z4
     ·refine Ws (Ws ?_)
      refine aC.eG (fun j73 => ([(2,Cc (.pl 21 0)),(10,Cc (.pl 28 0)),(98,Bv j73)],[(21,.row 29 [[iC 0,sC aO,sC aO]]),(25,pR 96 aK jJ.2.1),(27,pR 82 aJ jJ.2.2.1),(28,.row 29 [[iC jJ.2.2.2,lo 25 jJ.2.1.length,lo 27 jJ.2.2.1.length]])])) ?_ (fun j73 _ => ?_)
      ·refine Wr (aG (Bv jJ.1) y4 (au (LT.not Q) Q Q Q (aG (Bv (!jJ.1)) y4 (aT.split (fun yE => ?_) (fun yE => ?_)))))
       ·refine af yE y5 (af yE y5 (af yE y5 (af yE y5 (dn (Bv true) yE aP (On (aX Q z3 z4))))))
       ·refine cZ (bD [iC jJ.2.2.2,lo 25 jJ.2.1.length,lo 27 jJ.2.2.1.length] Q bP ax ai) Q Q (gH yE Q Q) Q (aU fun dY Vy => (aT.pure (cF [.agg [iC jJ.2.2.2,lo 25 jJ.2.1.length,lo 27 jJ.2.2.1.length]] [(25,pR 96 aK jJ.2.1),(27,pR 82 aJ jJ.2.2.1)] (YH (aW.mk (bM.mk jJ.2.2.2 jJ.2.1) jJ.2.2.1) dY Vy) Ul (.cons (.agg (.cons (.same Q) (.cons (.dG Q Q) (.cons (.dG Q Q) .nil)))) .nil) J y3) z2 z2 (gH yE Q Q) Q (iy (Cc (sC (.string s))) yE y5 (iV LT.FU yE y6 (gK (Bv (!(dY.toList == s.toList))) yE y5 (On (aX Q z3 z4)))))))
      ·refine aC.cond Q (fun aFy => ?_) (fun aFy => ?_)
       ·refine Ws (Wr ?_)
        refine uX (LT.build [] Q Q yN iG Q Q Q) Q Q (dA (stA [iC 0,sC aO,sC aO] Q Q ax ai) Q Q Q Q Q (aI (Bv false) ak (On (aC.ent (aj.qp 21 1 0 96 Q Q Q Q) (aC.ent (aj.qp 21 2 1 82 Q Q Q Q) (en [(2,Cc (.pl 21 0)),(3,Bv false)] [(0,pR 96 aK ([]:List aV)),(1,pR 82 aJ ([]:List bG)),(21,.row 29 [[iC 0,lo 0 (([]:List aV).length),lo 1 (([]:List bG).length)]])] z2 z3 (bT ⟨⟨_,_,_,Q,Q,Q,bP,ai,_,fE ax⟩,Q,J⟩ z2 ⟨⟨ah.sc,J,J,J⟩,ah.sc,J⟩ ⟨bg.dO iP,bg.dO jo,J⟩)))))))
       ·refine aC.skip (Ws (Wr ?_))
        refine cZ (bD [iC jJ.2.2.2,lo 25 jJ.2.1.length,lo 27 jJ.2.2.1.length] Q bP ax ai) Q Q Q Q (dA (stA [iC jJ.2.2.2,lo 25 jJ.2.1.length,lo 27 jJ.2.2.1.length] Q Q ax ai) Q Q Q Q Q (aI (Bv true) ak (On (en [(2,Cc (.pl 21 0)),(3,Bv true)] [(21,.row 29 [[iC jJ.2.2.2,lo 25 jJ.2.1.length,lo 27 jJ.2.2.1.length]]),(25,pR 96 aK jJ.2.1),(27,pR 82 aJ jJ.2.2.1)] z2 z3 (aC.ent (aj.mv 25 0 Q Q) (aC.ent (aj.mv 27 1 Q Q) (en [(2,Cc (.pl 21 0)),(3,Bv true)] [(0,pR 96 aK jJ.2.1),(1,pR 82 aJ jJ.2.2.1),(21,.row 29 [[iC jJ.2.2.2,lo 0 jJ.2.1.length,lo 1 jJ.2.2.1.length]])] z2 z3 (bT ⟨⟨_,_,_,Q,Q,Q,bP,ai,_,fE ax⟩,Q,J⟩ z2 ⟨⟨ah.sc,J,J,J⟩,ah.sc,J⟩ ⟨bg.dO iP,bg.dO jo,J⟩))))))))
theorem aKf (code:(List Int)):FT Try.prog (NZ code) 67 [.c (xT bn code)] [] (fun (t:(aW × aW)) => [.agg [iC t.1.Graph.aF,lo 0 t.1.Graph.aA.length,xT aJ t.1.Places],.agg [iC t.2.Graph.aF,lo 1 t.2.Graph.aA.length,xT aJ t.2.Places]]) (fun (t:(aW × aW)) => [(0,pR 96 aK t.1.Graph.aA),(1,pR 96 aK t.2.Graph.aA)]) [0,1]:=by
 refine FT.A8 [] Try.func67 Try.ntmps67 Q y2 ?_
 intro w0 U0 R0 g0 hU
 unfold NZ
 refine Ws (Wr ?_)
 refine dQ 21 [iC 0,sC aO,sC aO] iG y6 (dQ 22 [iC 0,sC aO,sC aO] iG y6 (On (Ws (Wr ?_))))
 refine aG (Cc (xT bn code)) y4 (aU fun r1 hr1 => (aT.step (bU [.c (xT bn code)] (Fw.Fn.ren [(0,24)] (KD code r1 hr1) Q) Gu (iF Q) J y3) z2 J Q Q (aI (Cc (.pl 24 0)) y4 (On (Ws ?_)))))
 refine en [(2,Cc (.pl 21 0)),(3,Cc (.pl 22 0)),(4,Cc (.pl 24 0))] [(21,.row 29 [[iC 0,sC aO,sC aO]]),(22,.row 29 [[iC 0,sC aO,sC aO]]),(24,.row 139 [fM r1])] z3 z3 (Wr (aG (Cc (.pl 24 0)) y4 (aU fun r2 hr2 => (aT.step (bU [.c (.pl 24 0)] (Fw.Fn.ren [(0,24),(1,26)] (F5 r1 r2 hr2) Q) EH (iF Q) z1 y3) z2 z1 Q Q (dQ 27 [iC 0,sC aO,sC aO] iG y6 (dA (stA [iC r2.1.Graph.aF,lo 26 r2.1.Graph.aA.length,xT aJ r2.1.Places] Q Q ax ai) Q Q Q Q Q (On (Ws (Ws (Wr ?_))))))))))
 refine aG (Cc (.pl 24 0)) y4 (aU fun r3 hr3 => (aT.step (bU [.c (.pl 24 0),.c (iC 3)] (Fw.Fn.ren [(0,24)] (nP r2.2 3 r3 hr3) Q) nK (jG y2) z1 y3) ⟨Q,Q,y2,J⟩ z1 Q Q (On (aC.block (Ws ?_)))))
 refine en [(2,Cc (.pl 21 0)),(3,Cc (.pl 22 0)),(4,Cc (.pl 24 0)),(5,Cc (.pl 27 0)),(11,Iv r3.1)] [(21,.row 29 [[iC 0,sC aO,sC aO]]),(22,.row 29 [[iC 0,sC aO,sC aO]]),(24,.row 139 [fM r3.2]),(26,pR 96 aK r2.1.Graph.aA),(27,.row 29 [[iC r2.1.Graph.aF,lo 26 r2.1.Graph.aA.length,xT aJ r2.1.Places]])] z5 z5 (Wr (aZ LT.eql aP (aI (Bv (r3.1 == 0)) y4 (On (aC.cond Q (fun hc4 => ?_) (fun hc4 => ?_))))))
 ·refine Ws (aC.draw mixed ?_)
  refine bV (bD [iC r2.1.Graph.aF,lo 26 r2.1.Graph.aA.length,xT aJ r2.1.Places] Q bP ax ai) Q Q Q Q (bV (bD [iC r2.1.Graph.aF,lo 26 r2.1.Graph.aA.length,xT aJ r2.1.Places] Q bP ax ai) Q Q Q Q (aN.bind fun r5 nU => (aN.step (cF [.agg [iC r2.1.Graph.aF,lo 26 r2.1.Graph.aA.length,xT aJ r2.1.Places]] [(26,pR 96 aK r2.1.Graph.aA)] (Fw.Fn.ren [(0,30),(1,31)] (aDM r2.1 r5 nU) Q) ZE (.cons (.agg (.cons (.same Q) (.cons (.dG Q Q) (.cons (.weak (.same Q) (QW.iL jA (fun h => by cases h) _)) .nil)))) .nil) J y3) z2 z1 Q Q (iY (stA [iC r2.1.Graph.aF,lo 26 r2.1.Graph.aA.length,xT aJ r2.1.Places] Q Q ax ai) Q Q Q Q Q (iY (stA [iC r5.Graph.aF,lo 30 r5.Graph.aA.length,lo 31 r5.Places.length] Q Q ax ai) Q Q Q Q Q (dF (aC.ent (aj.Bo (enc:=aJ) (xs:=r5.Places) (σ':=[(2,Cc (.pl 21 0)),(3,Cc (.pl 22 0)),(4,Cc (.pl 24 0)),(5,Cc (.pl 27 0)),(11,Iv r3.1),(12,Bv (r3.1 == 0)),(13,Bv (r3.1 == 0)),(14,Ag  [iC r2.1.Graph.aF,lo 26 r2.1.Graph.aA.length,xT aJ r2.1.Places]),(15,Ag  [iC r2.1.Graph.aF,lo 26 r2.1.Graph.aA.length,xT aJ r2.1.Places]),(16,Ag  [iC r5.Graph.aF,lo 30 r5.Graph.aA.length,xT aJ r5.Places])]) (m':=[(21,.row 29 [[iC r2.1.Graph.aF,lo 26 r2.1.Graph.aA.length,xT aJ r2.1.Places]]),(22,.row 29 [[iC r5.Graph.aF,lo 30 r5.Graph.aA.length,xT aJ r5.Places]]),(24,.row 139 [fM r3.2]),(26,pR 96 aK r2.1.Graph.aA),(27,.row 29 [[iC r2.1.Graph.aF,lo 26 r2.1.Graph.aA.length,xT aJ r2.1.Places]]),(30,pR 96 aK r5.Graph.aA)]) 31 hU Q Q ⟨⟨_,Q,.same Q⟩,⟨_,Q,.same Q⟩,⟨_,Q,.same Q⟩,⟨_,Q,.same Q⟩,⟨_,Q,.same Q⟩,⟨_,Q,.same Q⟩,⟨_,Q,.same Q⟩,⟨_,Q,.same Q⟩,⟨_,Q,.same Q⟩,⟨_,Q,.agg (.cons (.same Q) (.cons (.same Q) (.cons (.fr (by rw [List.length_map])) .nil)))⟩,J⟩ ⟨⟨Q,_,Q,.same Q⟩,⟨Q,_,Q,.row (.cons (.same Q) (.cons (.same Q) (.cons (.fr (by rw [List.length_map])) .nil)))⟩,⟨Q,_,Q,.same Q⟩,⟨Q,_,Q,.same Q⟩,⟨Q,_,Q,.same Q⟩,⟨Q,_,Q,.same Q⟩,J⟩) (en [(2,Cc (.pl 21 0)),(3,Cc (.pl 22 0))] [(21,.row 29 [[iC r2.1.Graph.aF,lo 26 r2.1.Graph.aA.length,xT aJ r2.1.Places]]),(22,.row 29 [[iC r5.Graph.aF,lo 30 r5.Graph.aA.length,xT aJ r5.Places]]),(26,pR 96 aK r2.1.Graph.aA),(30,pR 96 aK r5.Graph.aA)] z2 z4 (aC.ent (aj.mv 26 0 Q Q) (aC.ent (aj.mv 30 1 Q Q) (en [(2,Cc (.pl 21 0)),(3,Cc (.pl 22 0))] [(0,pR 96 aK r2.1.Graph.aA),(1,pR 96 aK r5.Graph.aA),(21,.row 29 [[iC r2.1.Graph.aF,lo 0 r2.1.Graph.aA.length,xT aJ r2.1.Places]]),(22,.row 29 [[iC r5.Graph.aF,lo 1 r5.Graph.aA.length,xT aJ r5.Places]])] z2 z4 ?_)))))))))))
  refine bT ⟨⟨_,_,_,Q,Q,Q,bP,ai,_,fE ax⟩,⟨_,_,_,Q,Q,Q,bP,ai,_,fE ax⟩,J⟩ z2 ⟨⟨ah.sc,J,kK jo,J⟩,⟨ah.sc,J,kK jo,J⟩,J⟩ ⟨bg.dO iP,bg.dO iP,J⟩
 ·refine Ws (Wr ?_)
  refine aZ LT.eql aP (aI (Bv (r3.1 == 1)) y4 (On (aC.cond Q (fun hc6 => ?_) (fun hc6 => ?_))))
  ·refine Ws (aC.draw mixed ?_)
   refine bV (bD [iC r2.1.Graph.aF,lo 26 r2.1.Graph.aA.length,xT aJ r2.1.Places] Q bP ax ai) Q Q Q Q (bV (bD [iC r2.1.Graph.aF,lo 26 r2.1.Graph.aA.length,xT aJ r2.1.Places] Q bP ax ai) Q Q Q Q (aN.bind fun r7 tZ => (aN.step (cF [.agg [iC r2.1.Graph.aF,lo 26 r2.1.Graph.aA.length,xT aJ r2.1.Places]] [(26,pR 96 aK r2.1.Graph.aA)] (Fw.Fn.ren [(0,33),(1,34)] (aDN r2.1 r7 tZ) Q) ZC (.cons (.agg (.cons (.same Q) (.cons (.dG Q Q) (.cons (.weak (.same Q) (QW.iL jA (fun h => by cases h) _)) .nil)))) .nil) J y3) z2 z1 Q Q (iY (stA [iC r2.1.Graph.aF,lo 26 r2.1.Graph.aA.length,xT aJ r2.1.Places] Q Q ax ai) Q Q Q Q Q (iY (stA [iC r7.Graph.aF,lo 33 r7.Graph.aA.length,lo 34 r7.Places.length] Q Q ax ai) Q Q Q Q Q (dF (aC.ent (aj.Bo (enc:=aJ) (xs:=r7.Places) (σ':=[(2,Cc (.pl 21 0)),(3,Cc (.pl 22 0)),(4,Cc (.pl 24 0)),(5,Cc (.pl 27 0)),(11,Iv r3.1),(12,Bv (r3.1 == 0)),(13,Bv (r3.1 == 0)),(17,Bv (r3.1 == 1)),(18,Bv (r3.1 == 1)),(19,Ag  [iC r2.1.Graph.aF,lo 26 r2.1.Graph.aA.length,xT aJ r2.1.Places]),(20,Ag  [iC r2.1.Graph.aF,lo 26 r2.1.Graph.aA.length,xT aJ r2.1.Places]),(21,Ag  [iC r7.Graph.aF,lo 33 r7.Graph.aA.length,xT aJ r7.Places])]) (m':=[(21,.row 29 [[iC r2.1.Graph.aF,lo 26 r2.1.Graph.aA.length,xT aJ r2.1.Places]]),(22,.row 29 [[iC r7.Graph.aF,lo 33 r7.Graph.aA.length,xT aJ r7.Places]]),(24,.row 139 [fM r3.2]),(26,pR 96 aK r2.1.Graph.aA),(27,.row 29 [[iC r2.1.Graph.aF,lo 26 r2.1.Graph.aA.length,xT aJ r2.1.Places]]),(33,pR 96 aK r7.Graph.aA)]) 34 hU Q Q ⟨⟨_,Q,.same Q⟩,⟨_,Q,.same Q⟩,⟨_,Q,.same Q⟩,⟨_,Q,.same Q⟩,⟨_,Q,.same Q⟩,⟨_,Q,.same Q⟩,⟨_,Q,.same Q⟩,⟨_,Q,.same Q⟩,⟨_,Q,.same Q⟩,⟨_,Q,.same Q⟩,⟨_,Q,.same Q⟩,⟨_,Q,.agg (.cons (.same Q) (.cons (.same Q) (.cons (.fr (by rw [List.length_map])) .nil)))⟩,J⟩ ⟨⟨Q,_,Q,.same Q⟩,⟨Q,_,Q,.row (.cons (.same Q) (.cons (.same Q) (.cons (.fr (by rw [List.length_map])) .nil)))⟩,⟨Q,_,Q,.same Q⟩,⟨Q,_,Q,.same Q⟩,⟨Q,_,Q,.same Q⟩,⟨Q,_,Q,.same Q⟩,J⟩) (en [(2,Cc (.pl 21 0)),(3,Cc (.pl 22 0))] [(21,.row 29 [[iC r2.1.Graph.aF,lo 26 r2.1.Graph.aA.length,xT aJ r2.1.Places]]),(22,.row 29 [[iC r7.Graph.aF,lo 33 r7.Graph.aA.length,xT aJ r7.Places]]),(26,pR 96 aK r2.1.Graph.aA),(33,pR 96 aK r7.Graph.aA)] z2 z4 (aC.ent (aj.mv 26 0 Q Q) (aC.ent (aj.mv 33 1 Q Q) (en [(2,Cc (.pl 21 0)),(3,Cc (.pl 22 0))] [(0,pR 96 aK r2.1.Graph.aA),(1,pR 96 aK r7.Graph.aA),(21,.row 29 [[iC r2.1.Graph.aF,lo 0 r2.1.Graph.aA.length,xT aJ r2.1.Places]]),(22,.row 29 [[iC r7.Graph.aF,lo 1 r7.Graph.aA.length,xT aJ r7.Places]])] z2 z4 ?_)))))))))))
   refine bT ⟨⟨_,_,_,Q,Q,Q,bP,ai,_,fE ax⟩,⟨_,_,_,Q,Q,Q,bP,ai,_,fE ax⟩,J⟩ z2 ⟨⟨ah.sc,J,kK jo,J⟩,⟨ah.sc,J,kK jo,J⟩,J⟩ ⟨bg.dO iP,bg.dO iP,J⟩
  ·refine aC.skip (aC.blk (Ws (aC.draw mixed ?_)))
   refine bV (bD [iC r2.1.Graph.aF,lo 26 r2.1.Graph.aA.length,xT aJ r2.1.Places] Q bP ax ai) Q Q Q Q (aY (Cc (.pl 24 0)) y4 (aN.bind fun r8 yG => (aN.step (bU [.c (.pl 24 0)] (Fw.Fn.ren [(0,24),(1,36)] (F5 r3.2 r8 yG) Q) EH (iF Q) z1 y3) z2 z1 Q Q (iY (stA [iC r2.1.Graph.aF,lo 26 r2.1.Graph.aA.length,xT aJ r2.1.Places] Q Q ax ai) Q Q Q Q Q (iY (stA [iC r8.1.Graph.aF,lo 36 r8.1.Graph.aA.length,xT aJ r8.1.Places] Q Q ax ai) Q Q Q Q Q (dF (en [(2,Cc (.pl 21 0)),(3,Cc (.pl 22 0))] [(21,.row 29 [[iC r2.1.Graph.aF,lo 26 r2.1.Graph.aA.length,xT aJ r2.1.Places]]),(22,.row 29 [[iC r8.1.Graph.aF,lo 36 r8.1.Graph.aA.length,xT aJ r8.1.Places]]),(26,pR 96 aK r2.1.Graph.aA),(36,pR 96 aK r8.1.Graph.aA)] z2 z4 (aC.ent (aj.mv 26 0 Q Q) (aC.ent (aj.mv 36 1 Q Q) (en [(2,Cc (.pl 21 0)),(3,Cc (.pl 22 0))] [(0,pR 96 aK r2.1.Graph.aA),(1,pR 96 aK r8.1.Graph.aA),(21,.row 29 [[iC r2.1.Graph.aF,lo 0 r2.1.Graph.aA.length,xT aJ r2.1.Places]]),(22,.row 29 [[iC r8.1.Graph.aF,lo 1 r8.1.Graph.aA.length,xT aJ r8.1.Places]])] z2 z4 (bT ⟨⟨_,_,_,Q,Q,Q,bP,ai,_,fE ax⟩,⟨_,_,_,Q,Q,Q,bP,ai,_,fE ax⟩,J⟩ z2 ⟨⟨ah.sc,J,kK jo,J⟩,⟨ah.sc,J,kK jo,J⟩,J⟩ ⟨bg.dO iP,bg.dO iP,J⟩)))))))))))
theorem aKh (code:(List Int)):FT Try.prog (Nb code) 68 [.c (xT bn code)] [] (fun (t:(aW × Int × bG)) => [.agg [iC t.1.Graph.aF,lo 0 t.1.Graph.aA.length,xT aJ t.1.Places],.c (iC t.2.1),.agg [iC t.2.2.X,iC t.2.2.Y]]) (fun (t:(aW × Int × bG)) => [(0,pR 96 aK t.1.Graph.aA)]) [0]:=by
 refine FT.of [] Try.func68 Try.ntmps68 Q y2 ?_
 intro w0 U0 R0 g0
 unfold Nb
 refine Ws (Wr ?_)
 refine dQ 21 [iC 0,sC aO,sC aO] iG y6 (aI (Iv 0) ak (dQ 22 [iC 0,iC 0] kM y6 (On (Ws (Wr ?_)))))
 refine aG (Cc (xT bn code)) y4 (aU fun r1 hr1 => (aT.step (bU [.c (xT bn code)] (Fw.Fn.ren [(0,24)] (KD code r1 hr1) Q) Gu (iF Q) J y3) z2 J Q Q (aI (Cc (.pl 24 0)) y4 (On (Ws ?_)))))
 refine en [(2,Cc (.pl 21 0)),(4,Cc (.pl 22 0)),(5,Cc (.pl 24 0))] [(21,.row 29 [[iC 0,sC aO,sC aO]]),(22,.row 82 [[iC 0,iC 0]]),(24,.row 139 [fM r1])] z3 z3 (Wr (aG (Cc (.pl 24 0)) y4 (aU fun r2 hr2 => (aT.step (bU [.c (.pl 24 0)] (Fw.Fn.ren [(0,24),(1,26)] (F5 r1 r2 hr2) Q) EH (iF Q) z1 y3) z2 z1 Q Q (dQ 27 [iC 0,sC aO,sC aO] iG y6 (dA (stA [iC r2.1.Graph.aF,lo 26 r2.1.Graph.aA.length,xT aJ r2.1.Places] Q Q ax ai) Q Q Q Q Q (On (Ws (Wr ?_)))))))))
 refine aG (Cc (.pl 24 0)) y4 (aU fun r3 hr3 => (aT.step (bU [.c (.pl 24 0),.c (iC 8)] (Fw.Fn.ren [(0,24)] (nP r2.2 8 r3 hr3) Q) nK (jG y2) z1 y3) ⟨Q,Q,y2,J⟩ z1 Q Q (aZ LT.sub aP (aI (Iv (aB (r3.1 - 1))) y4 (On (Ws ?_))))))
 refine en [(2,Cc (.pl 21 0)),(4,Cc (.pl 22 0)),(5,Cc (.pl 24 0)),(6,Cc (.pl 27 0)),(7,Iv (aB (r3.1 - 1)))] [(21,.row 29 [[iC 0,sC aO,sC aO]]),(22,.row 82 [[iC 0,iC 0]]),(24,.row 139 [fM r3.2]),(26,pR 96 aK r2.1.Graph.aA),(27,.row 29 [[iC r2.1.Graph.aF,lo 26 r2.1.Graph.aA.length,xT aJ r2.1.Places]])] z5 z5 (Wr (aG (Cc (.pl 24 0)) y4 (aU fun r4 hr4 => (aT.step (bU [.c (.pl 24 0),.c (iC 6)] (Fw.Fn.ren [(0,24)] (nP r3.2 6 r4 hr4) Q) nK (jG y2) z1 y3) ⟨Q,Q,y2,J⟩ z1 Q Q (aI (Iv r4.1) y4 (On (Ws (aC.draw mixed ?_))))))))
 refine bV (bD [iC r2.1.Graph.aF,lo 26 r2.1.Graph.aA.length,xT aJ r2.1.Places] Q bP ax ai) Q Q Q Q (aY (Iv (aB (r3.1 - 1))) y4 (aY (Iv r4.1) y4 (aY (Cc (.pl 24 0)) y4 (aN.bind fun r5 nU => (aN.step (bU [.c (.pl 24 0),.c (iC 6)] (Fw.Fn.ren [(0,24)] (nP r4.2 6 r5 nU) Q) nK (jG y2) z1 y3) ⟨Q,Q,y2,J⟩ z1 Q Q (aY (Cc (.pl 24 0)) y4 (aN.bind fun r6 tY => (aN.step (bU [.c (.pl 24 0),.c (iC 2)] (Fw.Fn.ren [(0,24)] (nP r5.2 2 r6 tY) Q) nK (jG y2) z1 y3) ⟨Q,Q,y2,J⟩ z1 Q Q (jS LT.sub y5 (bQ (LT.build [(0,.tmp 20,.c (iC r4.1)),(1,.tmp 25,.c (iC (aB (r5.1 - r6.1))))] Q Q FZ kM Q Q Q) Q Q Q Q (iY (stA [iC r2.1.Graph.aF,lo 26 r2.1.Graph.aA.length,xT aJ r2.1.Places] Q Q ax ai) Q Q Q Q Q ?_)))))))))))
 refine bH (LT.assign (v:=(Iv (aB (r3.1 - 1)))) Q) Q Q Q (iY (stA [iC r4.1,iC (aB (r5.1 - r6.1))] Q Q dS bf) Q Q Q Q Q (dF (en [(2,Cc (.pl 21 0)),(3,Iv (aB (r3.1 - 1))),(4,Cc (.pl 22 0))] [(21,.row 29 [[iC r2.1.Graph.aF,lo 26 r2.1.Graph.aA.length,xT aJ r2.1.Places]]),(22,.row 82 [[iC r4.1,iC (aB (r5.1 - r6.1))]]),(26,pR 96 aK r2.1.Graph.aA)] z3 z3 (aC.ent (aj.mv 26 0 Q Q) (en [(2,Cc (.pl 21 0)),(3,Iv (aB (r3.1 - 1))),(4,Cc (.pl 22 0))] [(0,pR 96 aK r2.1.Graph.aA),(21,.row 29 [[iC r2.1.Graph.aF,lo 0 r2.1.Graph.aA.length,xT aJ r2.1.Places]]),(22,.row 82 [[iC r4.1,iC (aB (r5.1 - r6.1))]])] z3 z3 (bT ⟨⟨_,_,_,Q,Q,Q,bP,ai,_,fE ax⟩,Q,⟨_,_,_,Q,Q,Q,gI,bf,_,fE dS⟩,J⟩ z1 ⟨⟨ah.sc,J,kK jo,J⟩,ah.sc,⟨ah.sc,ah.sc,J⟩,J⟩ ⟨bg.dO iP,J⟩))))))
theorem aKK (f:aW) (v:Int) (p:bG):FT Try.prog (NJ f v p) 69 [.agg (ay f),.c (iC v),.agg [iC p.X,iC p.Y]] [] (fun (t:(aW × Bool)) => [.agg [iC t.1.Graph.aF,lo 0 t.1.Graph.aA.length,lo 1 t.1.Places.length],.c (bC t.2)]) (fun (t:(aW × Bool)) => [(0,pR 96 aK t.1.Graph.aA),(1,pR 82 aJ t.1.Places)]) [0,1]:=by
 refine FT.of [] Try.func69 Try.ntmps69 Q y2 ?_
 intro w0 U0 R0 g0
 unfold NJ
 refine Ws (Wr ?_)
 refine fZ 21 (.agg (ay f)) ai y5 (fZ 22 (.agg [iC p.X,iC p.Y]) bf y5 (dQ 23 [iC 0,sC aO,sC aO] iG y6 (aI (Bv false) ak (On (Ws (Wr ?_))))))
 refine cZ (bD (ay f) Q bP ax ai) Q Q Q Q (aU fun r1 hr1 => (aT.step (bU [.agg (ay f)] (Fw.Fn.ren [(0,25),(1,26)] (Tv f r1 hr1) Q) QD (jd y3) J y3) z2 J Q Q (dQ 27 [iC 0,sC aO,sC aO] iG y6 (dA (stA [iC r1.Graph.aF,lo 25 r1.Graph.aA.length,lo 26 r1.Places.length] Q Q ax ai) Q Q Q Q Q (On (Ws (Ws ?_)))))))
 refine aC.eG (fun j5 => ([(1,Iv v),(3,Cc (.pl 21 0)),(5,Cc (.pl 22 0)),(6,Cc (.pl 23 0)),(8,Cc (.pl 27 0)),(20,Bv j5)],[(21,.row 29 [ay f]),(22,.row 82 [[iC p.X,iC p.Y]]),(23,.row 29 [[iC 0,sC aO,sC aO]]),(25,pR 96 aK r1.Graph.aA),(26,pR 82 aJ r1.Places),(27,.row 29 [[iC r1.Graph.aF,lo 25 r1.Graph.aA.length,lo 26 r1.Places.length]])])) ?_ (fun j5 _ => ?_)
 ·refine en [(1,Iv v),(3,Cc (.pl 21 0)),(5,Cc (.pl 22 0)),(6,Cc (.pl 23 0)),(8,Cc (.pl 27 0))] [(21,.row 29 [ay f]),(22,.row 82 [[iC p.X,iC p.Y]]),(23,.row 29 [[iC 0,sC aO,sC aO]]),(25,pR 96 aK r1.Graph.aA),(26,pR 82 aJ r1.Places),(27,.row 29 [[iC r1.Graph.aF,lo 25 r1.Graph.aA.length,lo 26 r1.Places.length]])] z5 z6 (Wr (cZ (bD (ay f) Q bP ax ai) Q Q Q Q (aU fun r6 tY => (jC [.agg (ay f)] (vW f r6 tY) vI (jd y3) y5 z2 (au (LT.not Q) Q Q Q (aG (Bv (!r6)) y4 (aT.split (fun hb7 => ?_) (fun hb7 => ?_))))))))
  ·refine af hb7 y5 (af hb7 y5 (af hb7 y5 (af hb7 y5 (af hb7 y5 (dn (Bv true) hb7 aP (On (aX Q z6 z6)))))))
  ·refine au (LT.eu Q jv) Q (gH hb7 Q Q) Q (cZ (bD (dI f.Graph) Q iI dX dM) Q Q (gH hb7 Q Q) Q (iy (Iv v) hb7 y5 (aU fun r8 yG => (aT.pure (bU [.agg (dI f.Graph),.c (iC v)] (aKI f.Graph v r8 yG) aEB (aJZ y3) J y3) z3 J (gH hb7 Q Q) Q (au (LT.not Q) Q (gH hb7 Q Q) Q (gK (Bv (!r8)) hb7 y5 (On (aX Q z6 z6))))))))
 ·refine aC.cond Q (fun AO => ?_) (fun AO => ?_)
  ·refine Ws (Wr ?_)
   refine cZ (bD [iC r1.Graph.aF,lo 25 r1.Graph.aA.length,lo 26 r1.Places.length] Q bP ax ai) Q Q Q Q (dA (stA [iC r1.Graph.aF,lo 25 r1.Graph.aA.length,lo 26 r1.Places.length] Q Q ax ai) Q Q Q Q Q (aI (Bv false) ak (On (en [(6,Cc (.pl 23 0)),(7,Bv false)] [(23,.row 29 [[iC r1.Graph.aF,lo 25 r1.Graph.aA.length,lo 26 r1.Places.length]]),(25,pR 96 aK r1.Graph.aA),(26,pR 82 aJ r1.Places)] z2 z3 (aC.ent (aj.mv 25 0 Q Q) (aC.ent (aj.mv 26 1 Q Q) (en [(6,Cc (.pl 23 0)),(7,Bv false)] [(0,pR 96 aK r1.Graph.aA),(1,pR 82 aJ r1.Places),(23,.row 29 [[iC r1.Graph.aF,lo 0 r1.Graph.aA.length,lo 1 r1.Places.length]])] z2 z3 (bT ⟨⟨_,_,_,Q,Q,Q,bP,ai,_,fE ax⟩,Q,J⟩ z2 ⟨⟨ah.sc,J,J,J⟩,ah.sc,J⟩ ⟨bg.dO iP,bg.dO jo,J⟩))))))))
  ·refine aC.skip (Ws (Wr ?_))
   refine dR (lo 26 r1.Places.length) fJ fV bI (aG (Iv v) y4 (cZ (bD [iC p.X,iC p.Y] Q gI dS bf) Q Q Q Q (aU fun x10 zB => (lS (LT.iW Q Q jD zB) Q Q Q Q Q (dA (qW 0 (.agg [iC p.X,iC p.Y]) p Q Q dS bf zB) Q Q Q Q Q (On (Ws (Ws (Wr ?_)))))))))
   refine cZ (bD [iC r1.Graph.aF,lo 25 r1.Graph.aA.length,lo 26 r1.Places.length] Q bP ax ai) Q Q Q Q (aU fun r11 wH => (aT.pure (cF [.agg [iC r1.Graph.aF,lo 25 r1.Graph.aA.length,lo 26 r1.Places.length]] [(25,pR 96 aK r1.Graph.aA),(26,pR 82 aJ (r1.Places.set v.toNat p))] (vW (aW.mk r1.Graph (r1.Places.set v.toNat p)) r11 wH) vI (.cons (.agg (.cons (.same Q) (.cons (.dG Q Q) (.cons (.dG (show r1.Places.length = (r1.Places.set v.toNat p).length by simp only [List.length_set]) Q) .nil)))) .nil) J y3) z2 z2 Q Q (au (LT.not Q) Q Q Q (On (aC.cond Q (fun hc12 => ?_) (fun hc12 => ?_))))))
   ·refine Ws (en [(3,Cc (.pl 21 0)),(6,Cc (.pl 23 0))] [(21,.row 29 [ay f]),(23,.row 29 [[iC 0,sC aO,sC aO]])] z2 z2 (Wr (cZ (bD (ay f) Q bP ax ai) Q Q Q Q (aU fun r13 uo => (aT.step (bU [.agg (ay f)] (Fw.Fn.ren [(0,32),(1,33)] (Tv f r13 uo) Q) QD (jd y3) J y3) z2 J Q Q (dA (stA [iC r13.Graph.aF,lo 32 r13.Graph.aA.length,lo 33 r13.Places.length] Q Q ax ai) Q Q Q Q Q (aI (Bv false) ak (On (en [(6,Cc (.pl 23 0)),(7,Bv false)] [(23,.row 29 [[iC r13.Graph.aF,lo 32 r13.Graph.aA.length,lo 33 r13.Places.length]]),(32,pR 96 aK r13.Graph.aA),(33,pR 82 aJ r13.Places)] z2 z3 (aC.ent (aj.mv 32 0 Q Q) (aC.ent (aj.mv 33 1 Q Q) ?_)))))))))))
    refine en [(6,Cc (.pl 23 0)),(7,Bv false)] [(0,pR 96 aK r13.Graph.aA),(1,pR 82 aJ r13.Places),(23,.row 29 [[iC r13.Graph.aF,lo 0 r13.Graph.aA.length,lo 1 r13.Places.length]])] z2 z3 (bT ⟨⟨_,_,_,Q,Q,Q,bP,ai,_,fE ax⟩,Q,J⟩ z2 ⟨⟨ah.sc,J,J,J⟩,ah.sc,J⟩ ⟨bg.dO iP,bg.dO jo,J⟩)
   ·refine aC.skip (Ws ?_)
    refine en [(6,Cc (.pl 23 0)),(8,Cc (.pl 27 0))] [(23,.row 29 [[iC 0,sC aO,sC aO]]),(25,pR 96 aK r1.Graph.aA),(26,pR 82 aJ (r1.Places.set v.toNat p)),(27,.row 29 [[iC r1.Graph.aF,lo 25 r1.Graph.aA.length,lo 26 r1.Places.length]])] z2 z4 (Wr (cZ (bD [iC r1.Graph.aF,lo 25 r1.Graph.aA.length,lo 26 r1.Places.length] Q bP ax ai) Q Q Q Q (dA (stA [iC r1.Graph.aF,lo 25 r1.Graph.aA.length,lo 26 r1.Places.length] Q Q ax ai) Q Q Q Q Q (aI (Bv true) ak (On (en [(6,Cc (.pl 23 0)),(7,Bv true)] [(23,.row 29 [[iC r1.Graph.aF,lo 25 r1.Graph.aA.length,lo 26 r1.Places.length]]),(25,pR 96 aK r1.Graph.aA),(26,pR 82 aJ (r1.Places.set v.toNat p))] z2 z3 (aC.ent (aj.mv 25 0 Q Q) (aC.ent (aj.mv 26 1 Q Q) (en [(6,Cc (.pl 23 0)),(7,Bv true)] [(0,pR 96 aK r1.Graph.aA),(1,pR 82 aJ (r1.Places.set v.toNat p)),(23,.row 29 [[iC r1.Graph.aF,lo 0 r1.Graph.aA.length,lo 1 ((r1.Places.set v.toNat p).length)]])] z2 ⟨Q,Q,congrArg (fun l1 => (some (Ob.row 29 [[iC r1.Graph.aF,lo 0 r1.Graph.aA.length,lo 1 l1]]):Option Ob)) (show r1.Places.length = (r1.Places.set v.toNat p).length by simp only [List.length_set]),J⟩ (bT ⟨⟨_,_,_,Q,Q,Q,bP,ai,_,fE ax⟩,Q,J⟩ z2 ⟨⟨ah.sc,J,J,J⟩,ah.sc,J⟩ ⟨bg.dO iP,bg.dO jo,J⟩))))))))))
theorem aKk (f:aW) (v:Int) (p:bG):FT Try.prog (Nq f v p) 70 [.agg (ay f),.c (iC v),.agg [iC p.X,iC p.Y]] [] (fun (t:(aW × Bool)) => [.agg [iC t.1.Graph.aF,lo 0 t.1.Graph.aA.length,lo 1 t.1.Places.length],.c (bC t.2)]) (fun (t:(aW × Bool)) => [(0,pR 96 aK t.1.Graph.aA),(1,pR 82 aJ t.1.Places)]) [0,1]:=by
 refine FT.of [] Try.func70 Try.ntmps70 Q y2 ?_
 intro w0 U0 R0 g0
 unfold Nq
 refine Ws (Wr ?_)
 refine fZ 21 (.agg (ay f)) ai y5 (fZ 22 (.agg [iC p.X,iC p.Y]) bf y5 (dQ 23 [iC 0,sC aO,sC aO] iG y6 (aI (Bv false) ak (On (Ws (Wr ?_))))))
 refine cZ (bD (ay f) Q bP ax ai) Q Q Q Q (aU fun r1 hr1 => (aT.step (bU [.agg (ay f)] (Fw.Fn.ren [(0,25),(1,26)] (PZ f r1 hr1) Q) KU (jd y3) J y3) z2 J Q Q (dQ 27 [iC 0,sC aO,sC aO] iG y6 (dA (stA [iC r1.Graph.aF,lo 25 r1.Graph.aA.length,lo 26 r1.Places.length] Q Q ax ai) Q Q Q Q Q (On (Ws (Ws ?_)))))))
 refine aC.eG (fun j5 => ([(1,Iv v),(3,Cc (.pl 21 0)),(5,Cc (.pl 22 0)),(6,Cc (.pl 23 0)),(8,Cc (.pl 27 0)),(24,Bv j5)],[(21,.row 29 [ay f]),(22,.row 82 [[iC p.X,iC p.Y]]),(23,.row 29 [[iC 0,sC aO,sC aO]]),(25,pR 96 aK r1.Graph.aA),(26,pR 82 aJ r1.Places),(27,.row 29 [[iC r1.Graph.aF,lo 25 r1.Graph.aA.length,lo 26 r1.Places.length]])])) ?_ (fun j5 _ => ?_)
 ·refine en [(1,Iv v),(3,Cc (.pl 21 0)),(5,Cc (.pl 22 0)),(6,Cc (.pl 23 0)),(8,Cc (.pl 27 0))] [(21,.row 29 [ay f]),(22,.row 82 [[iC p.X,iC p.Y]]),(23,.row 29 [[iC 0,sC aO,sC aO]]),(25,pR 96 aK r1.Graph.aA),(26,pR 82 aJ r1.Places),(27,.row 29 [[iC r1.Graph.aF,lo 25 r1.Graph.aA.length,lo 26 r1.Places.length]])] z5 z6 (Wr (cZ (bD (ay f) Q bP ax ai) Q Q Q Q (aU fun r6 tY => (jC [.agg (ay f)] (uT f r6 tY) uO (jd y3) y5 z2 (au (LT.not Q) Q Q Q (aG (Bv (!r6)) y4 (aT.split (fun hb7 => ?_) (fun hb7 => ?_))))))))
  ·refine af hb7 y5 (af hb7 y5 (dn (Bv true) hb7 aP (aG (Bv true) y4 (bY y5 (bY y5 (bY y5 (bY y5 (bY y5 (dn (Bv true) Q aP (On (aX Q z6 z6)))))))))))
  ·refine iy (Iv v) hb7 y5 (iV LT.lss hb7 kY (gK (Bv (decide (v < 0))) hb7 y5 (aG (Bv (decide (v < 0))) y4 (aT.split (fun hb8 => ?_) (fun hb8 => ?_)))))
   ·refine af hb8 y5 (af hb8 y5 (af hb8 y5 (af hb8 y5 (af hb8 y5 (dn (Bv true) hb8 aP (On (aX Q z6 z6)))))))
   ·refine iy (Iv v) hb8 y5 (jf (xF aJ f.Places) fJ fV hb8 gm (au (LT.gB Q lQ) Q (gH hb8 Q Q) Q (iV LT.geq hb8 y6 (gK (Bv (decide ((f.Places.length:Int) ≤ v))) hb8 y5 (On (aX Q z6 z6))))))
 ·refine aC.cond Q (fun AO => ?_) (fun AO => ?_)
  ·refine Ws (Wr ?_)
   refine cZ (bD [iC r1.Graph.aF,lo 25 r1.Graph.aA.length,lo 26 r1.Places.length] Q bP ax ai) Q Q Q Q (dA (stA [iC r1.Graph.aF,lo 25 r1.Graph.aA.length,lo 26 r1.Places.length] Q Q ax ai) Q Q Q Q Q (aI (Bv false) ak (On (en [(6,Cc (.pl 23 0)),(7,Bv false)] [(23,.row 29 [[iC r1.Graph.aF,lo 25 r1.Graph.aA.length,lo 26 r1.Places.length]]),(25,pR 96 aK r1.Graph.aA),(26,pR 82 aJ r1.Places)] z2 z3 (aC.ent (aj.mv 25 0 Q Q) (aC.ent (aj.mv 26 1 Q Q) (en [(6,Cc (.pl 23 0)),(7,Bv false)] [(0,pR 96 aK r1.Graph.aA),(1,pR 82 aJ r1.Places),(23,.row 29 [[iC r1.Graph.aF,lo 0 r1.Graph.aA.length,lo 1 r1.Places.length]])] z2 z3 (bT ⟨⟨_,_,_,Q,Q,Q,bP,ai,_,fE ax⟩,Q,J⟩ z2 ⟨⟨ah.sc,J,J,J⟩,ah.sc,J⟩ ⟨bg.dO iP,bg.dO jo,J⟩))))))))
  ·refine aC.skip (Ws (Wr ?_))
   refine dR (lo 26 r1.Places.length) fJ fV bI (aG (Iv v) y4 (cZ (bD [iC p.X,iC p.Y] Q gI dS bf) Q Q Q Q (aU fun x10 zB => (lS (LT.iW Q Q jD zB) Q Q Q Q Q (dA (qW 0 (.agg [iC p.X,iC p.Y]) p Q Q dS bf zB) Q Q Q Q Q (On (Ws (Ws (Wr ?_)))))))))
   refine cZ (bD [iC r1.Graph.aF,lo 25 r1.Graph.aA.length,lo 26 r1.Places.length] Q bP ax ai) Q Q Q Q (aU fun r11 wH => (aT.pure (cF [.agg [iC r1.Graph.aF,lo 25 r1.Graph.aA.length,lo 26 r1.Places.length]] [(25,pR 96 aK r1.Graph.aA),(26,pR 82 aJ (r1.Places.set v.toNat p))] (uT (aW.mk r1.Graph (r1.Places.set v.toNat p)) r11 wH) uO (.cons (.agg (.cons (.same Q) (.cons (.dG Q Q) (.cons (.dG (show r1.Places.length = (r1.Places.set v.toNat p).length by simp only [List.length_set]) Q) .nil)))) .nil) J y3) z2 z2 Q Q (au (LT.not Q) Q Q Q (On (aC.cond Q (fun hc12 => ?_) (fun hc12 => ?_))))))
   ·refine Ws (en [(3,Cc (.pl 21 0)),(6,Cc (.pl 23 0))] [(21,.row 29 [ay f]),(23,.row 29 [[iC 0,sC aO,sC aO]])] z2 z2 (Wr (cZ (bD (ay f) Q bP ax ai) Q Q Q Q (aU fun r13 uo => (aT.step (bU [.agg (ay f)] (Fw.Fn.ren [(0,31),(1,32)] (PZ f r13 uo) Q) KU (jd y3) J y3) z2 J Q Q (dA (stA [iC r13.Graph.aF,lo 31 r13.Graph.aA.length,lo 32 r13.Places.length] Q Q ax ai) Q Q Q Q Q (aI (Bv false) ak (On (en [(6,Cc (.pl 23 0)),(7,Bv false)] [(23,.row 29 [[iC r13.Graph.aF,lo 31 r13.Graph.aA.length,lo 32 r13.Places.length]]),(31,pR 96 aK r13.Graph.aA),(32,pR 82 aJ r13.Places)] z2 z3 (aC.ent (aj.mv 31 0 Q Q) (aC.ent (aj.mv 32 1 Q Q) ?_)))))))))))
    refine en [(6,Cc (.pl 23 0)),(7,Bv false)] [(0,pR 96 aK r13.Graph.aA),(1,pR 82 aJ r13.Places),(23,.row 29 [[iC r13.Graph.aF,lo 0 r13.Graph.aA.length,lo 1 r13.Places.length]])] z2 z3 (bT ⟨⟨_,_,_,Q,Q,Q,bP,ai,_,fE ax⟩,Q,J⟩ z2 ⟨⟨ah.sc,J,J,J⟩,ah.sc,J⟩ ⟨bg.dO iP,bg.dO jo,J⟩)
   ·refine aC.skip (Ws ?_)
    refine en [(6,Cc (.pl 23 0)),(8,Cc (.pl 27 0))] [(23,.row 29 [[iC 0,sC aO,sC aO]]),(25,pR 96 aK r1.Graph.aA),(26,pR 82 aJ (r1.Places.set v.toNat p)),(27,.row 29 [[iC r1.Graph.aF,lo 25 r1.Graph.aA.length,lo 26 r1.Places.length]])] z2 z4 (Wr (cZ (bD [iC r1.Graph.aF,lo 25 r1.Graph.aA.length,lo 26 r1.Places.length] Q bP ax ai) Q Q Q Q (dA (stA [iC r1.Graph.aF,lo 25 r1.Graph.aA.length,lo 26 r1.Places.length] Q Q ax ai) Q Q Q Q Q (aI (Bv true) ak (On (en [(6,Cc (.pl 23 0)),(7,Bv true)] [(23,.row 29 [[iC r1.Graph.aF,lo 25 r1.Graph.aA.length,lo 26 r1.Places.length]]),(25,pR 96 aK r1.Graph.aA),(26,pR 82 aJ (r1.Places.set v.toNat p))] z2 z3 (aC.ent (aj.mv 25 0 Q Q) (aC.ent (aj.mv 26 1 Q Q) (en [(6,Cc (.pl 23 0)),(7,Bv true)] [(0,pR 96 aK r1.Graph.aA),(1,pR 82 aJ (r1.Places.set v.toNat p)),(23,.row 29 [[iC r1.Graph.aF,lo 0 r1.Graph.aA.length,lo 1 ((r1.Places.set v.toNat p).length)]])] z2 ⟨Q,Q,congrArg (fun l1 => (some (Ob.row 29 [[iC r1.Graph.aF,lo 0 r1.Graph.aA.length,lo 1 l1]]):Option Ob)) (show r1.Places.length = (r1.Places.set v.toNat p).length by simp only [List.length_set]),J⟩ (bT ⟨⟨_,_,_,Q,Q,Q,bP,ai,_,fE ax⟩,Q,J⟩ z2 ⟨⟨ah.sc,J,J,J⟩,ah.sc,J⟩ ⟨bg.dO iP,bg.dO jo,J⟩))))))))))
theorem aKe (code:(List Int)):FT Try.prog (NY code) 71 [.c (xT bn code)] [] (fun (t:(bG × bG × bG)) => [.agg [iC t.1.X,iC t.1.Y],.agg [iC t.2.1.X,iC t.2.1.Y],.agg [iC t.2.2.X,iC t.2.2.Y]]) (fun (t:(bG × bG × bG)) => []) []:=by
 refine FT.of [] Try.func71 Try.ntmps71 Q y2 ?_
 intro w0 U0 R0 g0
 unfold NY
 refine Ws (Wr ?_)
 refine dQ 21 [iC 0,iC 0] kM y6 (dQ 22 [iC 0,iC 0] kM y6 (dQ 23 [iC 0,iC 0] kM y6 (On (Ws (Wr ?_)))))
 refine aG (Cc (xT bn code)) y4 (aU fun r1 hr1 => (aT.step (bU [.c (xT bn code)] (Fw.Fn.ren [(0,25)] (KD code r1 hr1) Q) Gu (iF Q) J y3) z2 J Q Q (aI (Cc (.pl 25 0)) y4 (On (Ws ?_)))))
 refine en [(2,Cc (.pl 21 0)),(3,Cc (.pl 22 0)),(4,Cc (.pl 23 0)),(5,Cc (.pl 25 0))] [(21,.row 82 [[iC 0,iC 0]]),(22,.row 82 [[iC 0,iC 0]]),(23,.row 82 [[iC 0,iC 0]]),(25,.row 139 [fM r1])] z4 z4 (Wr (aG (Cc (.pl 25 0)) y4 (au (LT.build [(0,.const (.int .i64 3),.c (iC 3))] Q Q uy lF Q Q Q) y2 Q Q (aU fun r2 hr2 => (aT.step (bU [.c (.pl 25 0),.agg [iC 3,sC aO]] (Fw.Fn.ren [(0,25),(1,27),(2,28)] (UC r1 (bM.mk 3 ([]:List aV)) r2 hr2) Q) QH (.cons (.c (.same Q)) (.cons (.agg (.cons (.same Q) (.cons .nil .nil))) .nil)) z1 y3) z3 z1 Q Q (dQ 29 [iC 0,sC aO,sC aO] iG y6 (dA (stA [iC r2.1.Graph.aF,lo 27 r2.1.Graph.aA.length,lo 28 r2.1.Places.length] Q Q ax ai) Q Q Q Q Q (On (Ws (Ws ?_))))))))))
 refine en [(2,Cc (.pl 21 0)),(3,Cc (.pl 22 0)),(4,Cc (.pl 23 0)),(5,Cc (.pl 25 0)),(6,Cc (.pl 29 0))] [(21,.row 82 [[iC 0,iC 0]]),(22,.row 82 [[iC 0,iC 0]]),(23,.row 82 [[iC 0,iC 0]]),(25,.row 139 [fM r2.2]),(27,pR 96 aK r2.1.Graph.aA),(28,pR 82 aJ r2.1.Places),(29,.row 29 [[iC r2.1.Graph.aF,lo 27 r2.1.Graph.aA.length,lo 28 r2.1.Places.length]])] z5 z7 (Wr (aG (Cc (.pl 25 0)) y4 (aU fun r3 hr3 => (aT.step (bU [.c (.pl 25 0),.c (iC 10)] (Fw.Fn.ren [(0,25)] (YL r2.2 10 r3 hr3) Q) Ue (jG y2) z1 y3) ⟨Q,Q,y2,J⟩ z1 Q Q (On (aC.eG (fun j7 => ([(2,Cc (.pl 21 0)),(3,Cc (.pl 22 0)),(4,Cc (.pl 23 0)),(6,Cc (.pl 29 0))],[(21,.row 82 [[iC 0,iC 0]]),(22,.row 82 [[iC 0,iC 0]]),(23,.row 82 [[iC 0,iC 0]]),(27,pR 96 aK r2.1.Graph.aA),(28,pR 82 aJ j7),(29,.row 29 [[iC r2.1.Graph.aF,lo 27 r2.1.Graph.aA.length,lo 28 j7.length]])])) ?_ (fun j7 _ => ?_)))))))
 ·refine aC.cond Q (fun hc8 => ?_) (fun hc8 => ?_)
  ·refine aC.draw mixed (dw (lo 28 r2.1.Places.length) fJ fV bI (aY (Cc (.pl 25 0)) y4 (YV (gy 31 aQ [(0,.const (.int .i64 (-1)),.c (iC (-1))),(1,.const (.int .i64 5),.c (iC 5)),(2,.const (.int .i64 1000000007),.c (iC 1000000007))] ([-1,5,1000000007]:List Int) iK lG y7) y2 y2 y2 Q Q (aN.bind fun r9 yH => (aN.step (cF [.c (.pl 25 0),.c (lo 31 (([-1,5,1000000007]:List Int).length))] [(31,pR 3 aQ ([-1,5,1000000007]:List Int))] (Fw.Fn.ren [(0,25)] (aDO r3.2 ([-1,5,1000000007]:List Int) r9 yH) Q) Y2 (.cons (.c (.same Q)) (.cons (.c (.dG Q Q)) .nil)) z1 y3) z3 z2 Q Q (aN.bind fun x10 zB => (kJ (LT.iW Q Q jD zB) Q y2 Q Q Q (bH (LT.eu Q kV) Q Q Q (iY (qW 0 (.c (iC r9.1)) (bG.mk r9.1 x10.Y) Q Q qh jq zB) Q Q Q Q Q (dF ?_))))))))))
   refine aC.nil ⟨Q,aj.of z4 ⟨Q,Q,Q,Q,Q,congrArg (fun l1 => (some (Ob.row 29 [[iC r2.1.Graph.aF,lo 27 r2.1.Graph.aA.length,lo 28 l1]]):Option Ob)) (show r2.1.Places.length = (r2.1.Places.set (Int.toNat 0) (bG.mk r9.1 x10.Y)).length by simp only [List.length_set]),J⟩⟩
  ·refine aC.skip (aX Q z4 z6)
 ·refine Ws (aC.draw mixed ?_)
  refine dw (lo 28 j7.length) fJ fV bI (aN.bind fun x11 MJ => (kJ (LT.iW Q Q jD MJ) Q y2 Q Q Q (bV (LT.J3 Q gI (fE dS) bf MJ (by exact Q) (by exact Q)) Q Q Q Q (dw (lo 28 j7.length) fJ fV bI (aN.bind fun x12 Hl => (kJ (LT.iW Q Q jD Hl) Q y2 Q Q Q (bV (LT.J3 Q gI (fE dS) bf Hl (by exact Q) (by exact Q)) Q Q Q Q (dw (lo 28 j7.length) fJ fV bI ?_))))))))
  refine aN.bind fun oU xA => (kJ (LT.iW Q Q jD xA) Q y2 Q Q Q (bV (LT.J3 Q gI (fE dS) bf xA (by exact Q) (by exact Q)) Q Q Q Q (iY (stA [iC x11.X,iC x11.Y] Q Q dS bf) Q Q Q Q Q (iY (stA [iC x12.X,iC x12.Y] Q Q dS bf) Q Q Q Q Q (iY (stA [iC oU.X,iC oU.Y] Q Q dS bf) Q Q Q Q Q (dF (bT ⟨⟨_,_,_,Q,Q,Q,gI,bf,_,fE dS⟩,⟨_,_,_,Q,Q,Q,gI,bf,_,fE dS⟩,⟨_,_,_,Q,Q,Q,gI,bf,_,fE dS⟩,J⟩ J ⟨⟨ah.sc,ah.sc,J⟩,⟨ah.sc,ah.sc,J⟩,⟨ah.sc,ah.sc,J⟩,J⟩ J)))))))
theorem aKg (code:(List Int)):FT Try.prog (Na code) 72 [.c (xT bn code)] [] (fun (t:(aW × aW)) => [.agg [iC t.1.Graph.aF,lo 0 t.1.Graph.aA.length,xT aJ t.1.Places],.agg [iC t.2.Graph.aF,lo 1 t.2.Graph.aA.length,xT aJ t.2.Places]]) (fun (t:(aW × aW)) => [(0,pR 96 aK t.1.Graph.aA),(1,pR 96 aK t.2.Graph.aA)]) [0,1]:=by
 refine FT.A8 [] Try.func72 Try.ntmps72 Q y2 ?_
 intro w0 U0 R0 g0 hU
 unfold Na
 refine Ws (Wr ?_)
 refine dQ 21 [iC 0,sC aO,sC aO] iG y6 (dQ 22 [iC 0,sC aO,sC aO] iG y6 (On (Ws (Wr ?_))))
 refine aG (Cc (xT bn code)) y4 (aU fun r1 hr1 => (aT.step (bU [.c (xT bn code)] (Fw.Fn.ren [(0,24)] (KD code r1 hr1) Q) Gu (iF Q) J y3) z2 J Q Q (aI (Cc (.pl 24 0)) y4 (On (Ws ?_)))))
 refine en [(2,Cc (.pl 21 0)),(3,Cc (.pl 22 0)),(4,Cc (.pl 24 0))] [(21,.row 29 [[iC 0,sC aO,sC aO]]),(22,.row 29 [[iC 0,sC aO,sC aO]]),(24,.row 139 [fM r1])] z3 z3 (Wr (aG (Cc (.pl 24 0)) y4 (aU fun r2 hr2 => (aT.step (bU [.c (.pl 24 0)] (Fw.Fn.ren [(0,24),(1,26)] (F5 r1 r2 hr2) Q) EH (iF Q) z1 y3) z2 z1 Q Q (dQ 27 [iC 0,sC aO,sC aO] iG y6 (dA (stA [iC r2.1.Graph.aF,lo 26 r2.1.Graph.aA.length,xT aJ r2.1.Places] Q Q ax ai) Q Q Q Q Q (On (Ws (Ws (Wr ?_))))))))))
 refine aG (Cc (.pl 24 0)) y4 (aU fun r3 hr3 => (aT.step (bU [.c (.pl 24 0),.c (iC 2)] (Fw.Fn.ren [(0,24)] (YL r2.2 2 r3 hr3) Q) Ue (jG y2) z1 y3) ⟨Q,Q,y2,J⟩ z1 Q Q (On (aC.cond Q (fun hc4 => ?_) (fun hc4 => ?_)))))
 ·refine Ws (en [(2,Cc (.pl 21 0)),(3,Cc (.pl 22 0)),(5,Cc (.pl 27 0))] [(21,.row 29 [[iC 0,sC aO,sC aO]]),(22,.row 29 [[iC 0,sC aO,sC aO]]),(26,pR 96 aK r2.1.Graph.aA),(27,.row 29 [[iC r2.1.Graph.aF,lo 26 r2.1.Graph.aA.length,xT aJ r2.1.Places]])] z3 z4 (aC.draw mixed (bV (bD [iC r2.1.Graph.aF,lo 26 r2.1.Graph.aA.length,xT aJ r2.1.Places] Q bP ax ai) Q Q Q Q (bV (bD [iC r2.1.Graph.aF,lo 26 r2.1.Graph.aA.length,xT aJ r2.1.Places] Q bP ax ai) Q Q Q Q (aN.bind fun r5 nU => (aN.step (cF [.agg [iC r2.1.Graph.aF,lo 26 r2.1.Graph.aA.length,xT aJ r2.1.Places]] [(26,pR 96 aK r2.1.Graph.aA)] (Fw.Fn.ren [(0,30),(1,31)] (PZ r2.1 r5 nU) Q) KU (.cons (.agg (.cons (.same Q) (.cons (.dG Q Q) (.cons (.weak (.same Q) (QW.iL jA (fun h => by cases h) _)) .nil)))) .nil) J y3) z2 z1 Q Q (iY (stA [iC r2.1.Graph.aF,lo 26 r2.1.Graph.aA.length,xT aJ r2.1.Places] Q Q ax ai) Q Q Q Q Q (iY (stA [iC r5.Graph.aF,lo 30 r5.Graph.aA.length,lo 31 r5.Places.length] Q Q ax ai) Q Q Q Q Q (dF (aC.ent (aj.Bo (enc:=aJ) (xs:=r5.Places) (σ':=[(2,Cc (.pl 21 0)),(3,Cc (.pl 22 0)),(5,Cc (.pl 27 0)),(12,Ag  [iC r2.1.Graph.aF,lo 26 r2.1.Graph.aA.length,xT aJ r2.1.Places]),(13,Ag  [iC r2.1.Graph.aF,lo 26 r2.1.Graph.aA.length,xT aJ r2.1.Places]),(14,Ag  [iC r5.Graph.aF,lo 30 r5.Graph.aA.length,xT aJ r5.Places])]) (m':=[(21,.row 29 [[iC r2.1.Graph.aF,lo 26 r2.1.Graph.aA.length,xT aJ r2.1.Places]]),(22,.row 29 [[iC r5.Graph.aF,lo 30 r5.Graph.aA.length,xT aJ r5.Places]]),(26,pR 96 aK r2.1.Graph.aA),(27,.row 29 [[iC r2.1.Graph.aF,lo 26 r2.1.Graph.aA.length,xT aJ r2.1.Places]]),(30,pR 96 aK r5.Graph.aA)]) 31 hU Q Q ⟨⟨_,Q,.same Q⟩,⟨_,Q,.same Q⟩,⟨_,Q,.same Q⟩,⟨_,Q,.same Q⟩,⟨_,Q,.same Q⟩,⟨_,Q,.agg (.cons (.same Q) (.cons (.same Q) (.cons (.fr (by rw [List.length_map])) .nil)))⟩,J⟩ ⟨⟨Q,_,Q,.same Q⟩,⟨Q,_,Q,.row (.cons (.same Q) (.cons (.same Q) (.cons (.fr (by rw [List.length_map])) .nil)))⟩,⟨Q,_,Q,.same Q⟩,⟨Q,_,Q,.same Q⟩,⟨Q,_,Q,.same Q⟩,J⟩) (en [(2,Cc (.pl 21 0)),(3,Cc (.pl 22 0))] [(21,.row 29 [[iC r2.1.Graph.aF,lo 26 r2.1.Graph.aA.length,xT aJ r2.1.Places]]),(22,.row 29 [[iC r5.Graph.aF,lo 30 r5.Graph.aA.length,xT aJ r5.Places]]),(26,pR 96 aK r2.1.Graph.aA),(30,pR 96 aK r5.Graph.aA)] z2 z4 ?_)))))))))))
  refine aC.ent (aj.mv 26 0 Q Q) (aC.ent (aj.mv 30 1 Q Q) (en [(2,Cc (.pl 21 0)),(3,Cc (.pl 22 0))] [(0,pR 96 aK r2.1.Graph.aA),(1,pR 96 aK r5.Graph.aA),(21,.row 29 [[iC r2.1.Graph.aF,lo 0 r2.1.Graph.aA.length,xT aJ r2.1.Places]]),(22,.row 29 [[iC r5.Graph.aF,lo 1 r5.Graph.aA.length,xT aJ r5.Places]])] z2 z4 (bT ⟨⟨_,_,_,Q,Q,Q,bP,ai,_,fE ax⟩,⟨_,_,_,Q,Q,Q,bP,ai,_,fE ax⟩,J⟩ z2 ⟨⟨ah.sc,J,kK jo,J⟩,⟨ah.sc,J,kK jo,J⟩,J⟩ ⟨bg.dO iP,bg.dO iP,J⟩)))
 ·refine aC.skip (Ws ?_)
  refine en [(2,Cc (.pl 21 0)),(3,Cc (.pl 22 0)),(4,Cc (.pl 24 0)),(5,Cc (.pl 27 0))] [(21,.row 29 [[iC 0,sC aO,sC aO]]),(22,.row 29 [[iC 0,sC aO,sC aO]]),(24,.row 139 [fM r3.2]),(26,pR 96 aK r2.1.Graph.aA),(27,.row 29 [[iC r2.1.Graph.aF,lo 26 r2.1.Graph.aA.length,xT aJ r2.1.Places]])] z4 z5 (aC.draw mixed (bV (bD [iC r2.1.Graph.aF,lo 26 r2.1.Graph.aA.length,xT aJ r2.1.Places] Q bP ax ai) Q Q Q Q (aY (Cc (.pl 24 0)) y4 (aN.bind fun r6 tY => (aN.step (bU [.c (.pl 24 0)] (Fw.Fn.ren [(0,24),(1,33)] (F5 r3.2 r6 tY) Q) EH (iF Q) z1 y3) z2 z1 Q Q (iY (stA [iC r2.1.Graph.aF,lo 26 r2.1.Graph.aA.length,xT aJ r2.1.Places] Q Q ax ai) Q Q Q Q Q (iY (stA [iC r6.1.Graph.aF,lo 33 r6.1.Graph.aA.length,xT aJ r6.1.Places] Q Q ax ai) Q Q Q Q Q (dF (en [(2,Cc (.pl 21 0)),(3,Cc (.pl 22 0))] [(21,.row 29 [[iC r2.1.Graph.aF,lo 26 r2.1.Graph.aA.length,xT aJ r2.1.Places]]),(22,.row 29 [[iC r6.1.Graph.aF,lo 33 r6.1.Graph.aA.length,xT aJ r6.1.Places]]),(26,pR 96 aK r2.1.Graph.aA),(33,pR 96 aK r6.1.Graph.aA)] z2 z4 (aC.ent (aj.mv 26 0 Q Q) (aC.ent (aj.mv 33 1 Q Q) ?_)))))))))))
  refine en [(2,Cc (.pl 21 0)),(3,Cc (.pl 22 0))] [(0,pR 96 aK r2.1.Graph.aA),(1,pR 96 aK r6.1.Graph.aA),(21,.row 29 [[iC r2.1.Graph.aF,lo 0 r2.1.Graph.aA.length,xT aJ r2.1.Places]]),(22,.row 29 [[iC r6.1.Graph.aF,lo 1 r6.1.Graph.aA.length,xT aJ r6.1.Places]])] z2 z4 (bT ⟨⟨_,_,_,Q,Q,Q,bP,ai,_,fE ax⟩,⟨_,_,_,Q,Q,Q,bP,ai,_,fE ax⟩,J⟩ z2 ⟨⟨ah.sc,J,kK jo,J⟩,⟨ah.sc,J,kK jo,J⟩,J⟩ ⟨bg.dO iP,bg.dO iP,J⟩)
theorem aDL (a:aW) (b:aW):FT Try.prog (JD a b) 75 [.agg (ay a),.agg (ay b)] [] (fun (t:Bool) => [.c (bC t)]) (fun (t:Bool) => []) []:=by
 refine FT.of [] Try.func75 Try.ntmps75 Q y2 ?_
 intro w0 U0 R0 g0
 unfold JD
 refine Ws (Wr ?_)
 refine fZ 21 (.agg (ay a)) ai y5 (fZ 22 (.agg (ay b)) ai y5 (aI (Bv false) ak (On (Ws ?_))))
 refine aC.eG (fun j9 => ([(4,Bv j9)],[])) ?_ (fun j9 _ => ?_)
 ·refine aC.draw mixed (bV (bD (ay a) Q bP ax ai) Q Q Q Q (aN.bind fun r10 AU => (aN.pure (bU [.agg (ay a)] (uT a r10 AU) uO (jd y3) J y3) z2 J Q Q (aY (Bv r10) y4 (aN.split (fun lu => ?_) (fun lu => ?_))))))
  ·refine bV (bD (ay b) Q bP ax ai) Q Q (gH lu Q Q) Q (aN.bind fun r12 AX => (aN.pure (bU [.agg (ay b)] (uT b r12 AX) uO (jd y3) J y3) z2 J (gH lu Q Q) Q (gW (Bv r12) lu y5 (aY (Bv r12) y4 (aN.split (fun eF => ?_) (fun eF => ?_))))))
   ·refine bH (LT.eu Q jv) Q (gH eF Q Q) Q (qA (iC a.Graph.aF) lV bK eF gm (bH (LT.eu Q jv) Q (gH eF Q Q) Q (qA (iC b.Graph.aF) lV bK eF gm (sN LT.eql eF y6 (gW (Bv (a.Graph.aF == b.Graph.aF)) eF y5 (aY (Bv (a.Graph.aF == b.Graph.aF)) y4 (aN.split (fun gV => ?_) (fun gV => ?_))))))))
    ·refine bV (bD (ay a) Q bP ax ai) Q Q (gH gV Q Q) Q (aN.bind fun iT yF => (aN.step (bU [.agg (ay a)] (Fw.Fn.ren [(0,26)] (YI a iT yF) Q) Uj (jd y3) J y3) z2 J (gH gV Q Q) Q (bV (bD (ay b) Q bP ax ai) Q Q (gH gV Q Q) Q (aN.bind fun r16 Vs => (aN.step (bU [.agg (ay b)] (Fw.Fn.ren [(0,28)] (YI b r16 Vs) Q) Uj (jd y3) J y3) z2 J (gH gV Q Q) Q (aN.bind fun kL AY => (aN.pure (cF [.c (lo 26 iT.length),.c (lo 28 r16.length)] [(26,pR 3 aQ iT),(28,pR 3 aQ r16)] (aDR iT r16 kL AY) Y4 (.cons (.c (.dG Q Q)) (.cons (.c (.dG Q Q)) .nil)) J y3) z3 z2 (gH gV Q Q) Q (gW (Bv kL) gV y5 (bH (LT.assign (v:=(Bv kL)) Q) Q Q Q (dF (aX Q z1 J)))))))))))
    ·refine aS gV y3 (aS gV y3 (aS gV y3 (aS gV y3 (aS gV y3 (dD (Bv false) gV aP (bH (LT.assign (v:=(Bv false)) Q) Q Q Q (dF (aX Q z1 J))))))))
   ·refine aS eF y3 (aS eF y3 (aS eF y3 (aS eF y3 (aS eF y3 (aS eF y3 (aS eF y3 (dD (Bv false) eF aP (aY (Bv false) y4 (aH y3 (aH y3 (aH y3 ?_)))))))))))
    refine aH y3 (aH y3 (dD (Bv false) Q aP (bH (LT.assign (v:=(Bv false)) Q) Q Q Q (dF (aX Q z1 J)))))
  ·refine aS lu y3 (aS lu y3 (dD (Bv false) lu aP (aY (Bv false) y4 (aH y3 (aH y3 (aH y3 (aH y3 (aH y3 (aH y3 (aH y3 (dD (Bv false) Q aP ?_)))))))))))
   refine aY (Bv false) y4 (aH y3 (aH y3 (aH y3 (aH y3 (aH y3 (dD (Bv false) Q aP (bH (LT.assign (v:=(Bv false)) Q) Q Q Q (dF (aX Q z1 J)))))))))
 ·refine bT z1 J ⟨ah.sc,J⟩ J
theorem J9 (a:bG) (b:bG) (c:bG):FT Try.prog (xB a b c) 76 [.agg [iC a.X,iC a.Y],.agg [iC b.X,iC b.Y],.agg [iC c.X,iC c.Y]] [] (fun (t:Bool) => [.c (bC t)]) (fun (t:Bool) => []) []:=by
 refine FT.of [] Try.func76 Try.ntmps76 Q y2 ?_
 intro w0 U0 R0 g0
 unfold xB
 refine Ws (Wr ?_)
 refine fZ 21 (.agg [iC a.X,iC a.Y]) bf y5 (fZ 22 (.agg [iC b.X,iC b.Y]) bf y5 (fZ 23 (.agg [iC c.X,iC c.Y]) bf y5 (aI (Bv false) ak (On (Ws ?_)))))
 refine aC.eG (fun j7 => ([(6,Bv j7)],[])) ?_ (fun j7 _ => ?_)
 ·refine Wr (cZ (bD [iC a.X,iC a.Y] Q gI dS bf) Q Q Q Q (aU fun r8 yG => (jC [.agg [iC a.X,iC a.Y]] (UA a r8 yG) QE (qV y2) y5 z2 (aG (Bv r8) y4 (aT.split (fun lC => ?_) (fun lC => ?_))))))
  ·refine cZ (bD [iC b.X,iC b.Y] Q gI dS bf) Q Q (gH lC Q Q) Q (aU fun r10 AU => (aT.pure (bU [.agg [iC b.X,iC b.Y]] (UA b r10 AU) QE (qV y2) J y3) z2 J (gH lC Q Q) Q (dn (Bv r10) lC y5 (aG (Bv r10) y4 (aT.split (fun lu => ?_) (fun lu => ?_))))))
   ·refine cZ (bD [iC c.X,iC c.Y] Q gI dS bf) Q Q (gH lu Q Q) Q (aU fun r12 AX => (aT.pure (bU [.agg [iC c.X,iC c.Y]] (UA c r12 AX) QE (qV y2) J y3) z2 J (gH lu Q Q) Q (dn (Bv r12) lu y5 (aG (Bv r12) y4 (aT.split (fun eF => ?_) (fun eF => ?_))))))
    ·refine jf (iC b.X) kV bK eF gm (jf (iC a.X) kV bK eF gm (iV LT.sub eF y6 (jf (iC c.Y) lq bK eF gm (jf (iC a.Y) lq bK eF gm (iV LT.sub eF y6 (iV LT.mul eF y6 (au (LT.eu Q kV) Q (gH eF Q Q) Q ?_)))))))
     refine cZ (wJ (iC c.X) Q bK) Q Q (gH eF Q Q) Q (jf (iC a.X) kV bK eF gm (iV LT.sub eF y6 (jf (iC b.Y) lq bK eF gm (jf (iC a.Y) lq bK eF gm (iV LT.sub eF y6 (iV LT.mul eF y6 (iV LT.eql eF y6 (dn (Bv ((aB ((aB (b.X - a.X)) * (aB (c.Y - a.Y)))) == (aB ((aB (c.X - a.X)) * (aB (b.Y - a.Y)))))) eF y5 ?_))))))))
     refine aI (Bv ((aB ((aB (b.X - a.X)) * (aB (c.Y - a.Y)))) == (aB ((aB (c.X - a.X)) * (aB (b.Y - a.Y)))))) y4 (On (aX Q z1 J))
    ·refine af eF y5 (af eF y5 (af eF y5 (af eF y5 (af eF y5 (af eF y5 (af eF y5 (af eF y5 (af eF y5 (af eF y5 (af eF y5 (af eF y5 ?_)))))))))))
     refine af eF y5 (af eF y5 (af eF y5 (af eF y5 (af eF y5 (af eF y5 (af eF y5 (af eF y5 (af eF y5 (af eF y5 (af eF y5 (gK (Bv false) eF aP ?_)))))))))))
     refine aI (Bv false) y4 (On (aX Q z1 J))
   ·refine af lu y5 (af lu y5 (gK (Bv false) lu aP (aG (Bv false) y4 (bY y5 (bY y5 (bY y5 (bY y5 (bY y5 (bY y5 (bY y5 (bY y5 ?_)))))))))))
    refine bY y5 (bY y5 (bY y5 (bY y5 (bY y5 (bY y5 (bY y5 (bY y5 (bY y5 (bY y5 (bY y5 (bY y5 ?_)))))))))))
    refine bY y5 (bY y5 (bY y5 (gK (Bv false) Q aP (aI (Bv false) y4 (On (aX Q z1 J))))))
  ·refine af lC y5 (af lC y5 (gK (Bv false) lC aP (aG (Bv false) y4 (bY y5 (bY y5 (gK (Bv false) Q aP (aG (Bv false) y4 (bY y5 (bY y5 (bY y5 (bY y5 ?_)))))))))))
   refine bY y5 (bY y5 (bY y5 (bY y5 (bY y5 (bY y5 (bY y5 (bY y5 (bY y5 (bY y5 (bY y5 (bY y5 ?_)))))))))))
   refine bY y5 (bY y5 (bY y5 (bY y5 (bY y5 (bY y5 (bY y5 (gK (Bv false) Q aP (aI (Bv false) y4 (On (aX Q z1 J))))))))))
 ·refine bT z1 J ⟨ah.sc,J⟩ J
theorem YK (p:bG):FT Try.prog (FK p) 156 [.agg [iC p.X,iC p.Y]] [] (fun (t:Bool) => [.c (bC t)]) (fun (t:Bool) => []) []:=by
 refine FT.of [] Try.func156 Try.ntmps156 Q y2 ?_
 intro w0 U0 R0 g0
 unfold FK
 refine Ws (Wr ?_)
 refine fZ 21 (.agg [iC p.X,iC p.Y]) bf y5 (aI (Bv false) ak (On (Ws ?_)))
 refine aC.eG (fun j4 => ([(2,Bv j4)],[])) ?_ (fun j4 _ => ?_)
 ·refine Wr (dR (iC p.X) kV bK bI (aU fun r5 nU => (jC [.c (iC p.X),.c (iC 0),.c (iC 4)] (Dl p.X 0 4 r5 nU) Bf (vV y3) y5 ⟨Q,Q,y2,y2,J⟩ (aG (Bv r5) y4 (aT.split (fun hb6 => ?_) (fun hb6 => ?_))))))
  ·refine jf (iC p.Y) lq bK hb6 gm (aU fun r7 tZ => (aT.pure (bU [.c (iC p.Y),.c (iC 0),.c (iC 4)] (Dl p.Y 0 4 r7 tZ) Bf (vV y3) J y3) ⟨Q,Q,y2,y2,J⟩ J (gH hb6 Q Q) Q (dn (Bv r7) hb6 y5 (aI (Bv r7) y4 (On (aX Q z1 J))))))
  ·refine af hb6 y5 (af hb6 y5 (af hb6 y5 (gK (Bv false) hb6 aP (aI (Bv false) y4 (On (aX Q z1 J))))))
 ·refine bT z1 J ⟨ah.sc,J⟩ J
theorem aDF (a:bG) (b:bG) (c:bG):FT Try.prog (Iz a b c) 77 [.agg [iC a.X,iC a.Y],.agg [iC b.X,iC b.Y],.agg [iC c.X,iC c.Y]] [] (fun (t:Bool) => [.c (bC t)]) (fun (t:Bool) => []) []:=by
 refine FT.of [] Try.func77 Try.ntmps77 Q y2 ?_
 intro w0 U0 R0 g0
 unfold Iz
 refine Ws (Wr ?_)
 refine fZ 21 (.agg [iC a.X,iC a.Y]) bf y5 (fZ 22 (.agg [iC b.X,iC b.Y]) bf y5 (fZ 23 (.agg [iC c.X,iC c.Y]) bf y5 (aI (Bv false) ak (On (Ws (Ws ?_))))))
 refine aC.eG (fun j6 => ([(3,Cc (.pl 21 0)),(4,Cc (.pl 22 0)),(5,Cc (.pl 23 0)),(19,Bv j6)],[(21,.row 82 [[iC a.X,iC a.Y]]),(22,.row 82 [[iC b.X,iC b.Y]]),(23,.row 82 [[iC c.X,iC c.Y]])])) ?_ (fun j6 _ => ?_)
 ·refine Wr (cZ (bD [iC a.X,iC a.Y] Q gI dS bf) Q Q Q Q (aU fun r7 tZ => (jC [.agg [iC a.X,iC a.Y]] (YK a r7 tZ) Uf (qV y2) y5 z2 (au (LT.not Q) Q Q Q (aG (Bv (!r7)) y4 (aT.split (fun hb8 => ?_) (fun hb8 => ?_)))))))
  ·refine af hb8 y5 (af hb8 y5 (af hb8 y5 (dn (Bv true) hb8 aP (aG (Bv true) y4 (bY y5 (bY y5 (bY y5 (dn (Bv true) Q aP (On (aX Q z4 z3))))))))))
  ·refine cZ (bD [iC b.X,iC b.Y] Q gI dS bf) Q Q (gH hb8 Q Q) Q (aU fun r9 yH => (aT.pure (bU [.agg [iC b.X,iC b.Y]] (YK b r9 yH) Uf (qV y2) J y3) z2 J (gH hb8 Q Q) Q (au (LT.not Q) Q (gH hb8 Q Q) Q (gK (Bv (!r9)) hb8 y5 (aG (Bv (!r9)) y4 (aT.split (fun tJ => ?_) (fun tJ => ?_)))))))
   ·refine af tJ y5 (af tJ y5 (af tJ y5 (dn (Bv true) tJ aP (On (aX Q z4 z3)))))
   ·refine cZ (bD [iC c.X,iC c.Y] Q gI dS bf) Q Q (gH tJ Q Q) Q (aU fun r11 wH => (aT.pure (bU [.agg [iC c.X,iC c.Y]] (YK c r11 wH) Uf (qV y2) J y3) z2 J (gH tJ Q Q) Q (au (LT.not Q) Q (gH tJ Q Q) Q (gK (Bv (!r11)) tJ y5 (On (aX Q z4 z3))))))
 ·refine aC.cond Q (fun hc12 => ?_) (fun hc12 => ?_)
  ·refine Ws (Wr ?_)
   refine aI (Bv false) ak (On (bT z1 J ⟨ah.sc,J⟩ J))
  ·refine aC.skip (Ws (Wr ?_))
   refine dR (iC b.X) kV bK bI (dR (iC a.X) kV bK bI (aZ LT.sub y5 (dR (iC c.Y) lq bK bI (dR (iC a.Y) lq bK bI (aZ LT.sub y5 (aZ LT.mul y5 (au (LT.eu Q lq) Q Q Q ?_)))))))
   refine cZ (wJ (iC b.Y) Q bK) Q Q Q Q (dR (iC a.Y) lq bK bI (aZ LT.sub y5 (dR (iC c.X) kV bK bI (dR (iC a.X) kV bK bI (aZ LT.sub y5 (aZ LT.mul y5 (aZ LT.eql y5 (aI (Bv ((aB ((aB (b.X - a.X)) * (aB (c.Y - a.Y)))) == (aB ((aB (b.Y - a.Y)) * (aB (c.X - a.X)))))) y4 ?_))))))))
   refine On (bT z1 J ⟨ah.sc,J⟩ J)
theorem aKb (jF:(List bG)) (kF:(List bG)):FT Try.prog (NU jF kF) 157 [.c (xF aJ jF),.c (xF aJ kF)] [] (fun (t:Bool) => [.c (bC t)]) (fun (t:Bool) => []) []:=by
 refine FT.of [] Try.func157 Try.ntmps157 Q y2 ?_
 intro w0 U0 R0 g0
 unfold NU
 refine Ws (Wr ?_)
 refine aI (Bv false) ak (On (Ws (Ws (Wr ?_))))
 refine aG (Cc (xF aJ jF)) y4 (au (LT.gB Q lQ) Q Q Q (aG (Cc (xF aJ kF)) y4 (au (LT.gB Q lQ) Q Q Q (aZ LT.neq y5 (On (aC.cond Q (fun hc1 => ?_) (fun hc1 => ?_)))))))
 ·refine Ws (Wr ?_)
  refine aI (Bv false) ak (On (bT z1 J ⟨ah.sc,J⟩ J))
 ·refine aC.skip (Ws (Ws (Wr ?_)))
  refine aG (Cc (xF aJ jF)) y4 (au (LT.gB Q lQ) Q Q Q (aG (Iv 0) ak (On (aC.block ?_))))
  refine aC.ql (id:=0) (NV jF kF) (fun s2 => ([(0,Cc (xF aJ jF)),(1,Cc (xF aJ kF)),(12,Iv (jF.length:Int)),(13,Iv s2)],[])) (fun b11 => ([],[])) (lI Try.prog Try.f157.results.toList [] [] (fun (t:Bool) => [.c (bC t)]) (fun (t:Bool) => [])) ?_ (aj.of z4 J) Q (fun b11 _ => ?_) qj
  ·intro s2
   unfold NV
   refine Ws (Wr ?_)
   refine aZ LT.lss y5 (On (Ws ?_))
   refine aC.cond Q (fun hc12 => ?_) (fun hc12 => ?_)
   ·refine aC.skip (Ws (aC.block (Ws (Wr ?_))))
    refine aG (Iv s2) y4 (aI (Iv s2) y4 (On (Ws (aC.draw mixed ?_))))
    refine aY (Cc (xF aJ jF)) y4 (aY (Iv s2) y4 (aN.bind fun oU xA => (bQ (LT.dZ (enc:=aJ) Q jD xA bf) Q Q Q Q (bH (kC Q gI dS bf) Q Q Q (aY (Cc (xF aJ kF)) y4 (aY (Iv s2) y4 (aN.bind fun x14 yI => (bQ (LT.dZ (enc:=aJ) Q jD yI bf) Q Q Q Q (bH (kC Q gI dS bf) Q Q Q (bQ (LT.Jf [oU.X,oU.Y] [x14.X,x14.Y] Q Hy Q Q) Q Q Q Q (dF ?_)))))))))))
    refine aC.cond Q (fun rW => ?_) (fun rW => ?_)
    ·refine Ws (en [] [] J J (Wr (aI (Bv false) ak (On (aC.ret ⟨Q,qc z1 J ⟨ah.sc,J⟩ J⟩)))))
    ·refine aC.skip (aC.blk ?_)
     refine en [(0,Cc (xF aJ jF)),(1,Cc (xF aJ kF)),(12,Iv (jF.length:Int)),(13,Iv s2)] [] z4 J (Wr (aZ LT.add aP (aG (Iv (aB (s2 + 1))) y4 (On (aX Q z4 J)))))
   ·refine gJ y2 J J
  ·refine Ws (Wr ?_)
   refine aI (Bv true) ak (On (bT z1 J ⟨ah.sc,J⟩ J))
theorem aC3 (a:aW) (b:aW):FT Try.prog (IG a b) 78 [.agg (ay a),.agg (ay b)] [] (fun (t:Bool) => [.c (bC t)]) (fun (t:Bool) => []) []:=by
 refine FT.of [] Try.func78 Try.ntmps78 Q y2 ?_
 intro w0 U0 R0 g0
 unfold IG
 refine Ws (Wr ?_)
 refine fZ 21 (.agg (ay a)) ai y5 (fZ 22 (.agg (ay b)) ai y5 (aI (Bv false) ak (On (Ws ?_))))
 refine aC.eG (fun j4 => ([(4,Bv j4)],[])) ?_ (fun j4 _ => ?_)
 ·refine Wr (au (LT.eu Q jv) Q Q Q (cZ (bD (dI a.Graph) Q iI dX dM) Q Q Q Q (au (LT.eu Q jv) Q Q Q (cZ (bD (dI b.Graph) Q iI dX dM) Q Q Q Q (aU fun r5 nU => (jC [.agg (dI a.Graph),.agg (dI b.Graph)] (aC4 a.Graph b.Graph r5 nU) Yz (DX y4) y5 z3 (aG (Bv r5) y4 (aT.split (fun hb6 => ?_) (fun hb6 => ?_)))))))))
  ·refine jf (xF aJ a.Places) fJ fV hb6 gm (jf (xF aJ b.Places) fJ fV hb6 gm (aU fun r7 tZ => (aT.pure (bU [.c (xF aJ a.Places),.c (xF aJ b.Places)] (aKb a.Places b.Places r7 tZ) aEC (jG y2) J y3) z3 J (gH hb6 Q Q) Q (dn (Bv r7) hb6 y5 (aI (Bv r7) y4 (On (aX Q z1 J)))))))
  ·refine af hb6 y5 (af hb6 y5 (af hb6 y5 (af hb6 y5 (af hb6 y5 (gK (Bv false) hb6 aP (aI (Bv false) y4 (On (aX Q z1 J))))))))
 ·refine bT z1 J ⟨ah.sc,J⟩ J
end Go.Proofs.Ytdmlaldifbmkpaa
end
