/- Parts of a proof that a law of the program holds: what the program computes, and why that is right. -/
import Derived.Test.YtdmlaldifbmkpaaGreatZFnTensions5
set_option linter.unusedVariables false
set_option linter.unusedSimpArgs false
set_option linter.unnecessarySimpa false
set_option maxRecDepth 100000
set_option maxHeartbeats 8000000
section
open Go Go.Fw
namespace Go.Proofs.YtdmlaldifbmkpaaGreat
theorem Xi (a:Int) (b:Int):FT Tryz.prog (CB a b) 183 [.c (iC a),.c (iC b)] [] (fun (t:Int) => [.c (iC t)]) (fun (t:Int) => []) []:=by
 refine FT.of [] Tryz.func183 Tryz.ntmps183 Q y2 ?_
 intro w0 U0 R0 g0
 unfold CB
 refine Ws (Wr ?_)
 refine aJ (Iv 0) aZ (On (Ws (Ws ?_)))
 refine aB.eX (fun j4 => ([(0,Iv a),(1,Iv b),(13,Bv j4)],[])) ?_ (fun j4 _ => ?_)
 ·refine Wr (aH (Iv a) y4 (aS fun r5 nI => (iD [.c (iC a),.c (iC (-9000000000000000000)),.c (iC 9000000000000000000)] (DF a (-9000000000000000000) 9000000000000000000 r5 nI) BN (vK y3) y5 ⟨Q,Q,y2,y2,J⟩ (aW (LT.not Q) Q Q Q (aH (Bv (!r5)) y4 (aT.split (fun hb6 => ?_) (fun hb6 => ?_)))))))
  ·refine aK hb6 y5 (aK hb6 y5 (aK hb6 y5 (dD (Bv true) hb6 aU (On (aV Q z3 J)))))
  ·refine dB (Iv b) hb6 y5 (aS fun r7 lH => (aT.pure (dK [.c (iC b),.c (iC (-9000000000000000000)),.c (iC 9000000000000000000)] (DF b (-9000000000000000000) 9000000000000000000 r7 lH) BN (vK y3) J y3) ⟨Q,Q,y2,y2,J⟩ J (gH hb6 Q Q) Q (aW (LT.not Q) Q (gH hb6 Q Q) Q (dA (Bv (!r7)) hb6 y5 (On (aV Q z3 J))))))
 ·refine aB.cond Q (fun hc8 => ?_) (fun hc8 => ?_)
  ·refine Ws (Wr ?_)
   refine aJ (Iv 0) aZ (On (bT z1 J ⟨au.sc,J⟩ J))
  ·refine aB.skip (Ws (Wr ?_))
   refine aH (Iv a) y4 (aH (Iv a) y4 (aW (LT.neg Q) Q Q Q (af LT.max y5 (aJ (Iv (if a < (aA (-a)) then (aA (-a)) else a)) y4 (On (Ws (Wr ?_)))))))
   refine aH (Iv b) y4 (aH (Iv b) y4 (aW (LT.neg Q) Q Q Q (af LT.max y5 (aJ (Iv (if b < (aA (-b)) then (aA (-b)) else b)) y4 (On (Ws (aB.block ?_)))))))
   refine aB.jM (id:=0) Ro (fun s9 => ([(0,Iv s9.1),(1,Iv s9.2)],[])) (fun b14 => ([(0,Iv b14)],[])) ?_ (aY.of z2 J) Q (fun b14 _ => ?_)
   ·intro s9
    unfold Ro
    refine Ws (Ws (Wr ?_))
    refine aH (Iv s9.2) y4 (af LT.gtr aU (On (aB.cond Q (fun D5 => ?_) (fun D5 => ?_))))
    ·refine aB.skip (aB.block (Ws (Wr ?_)))
     refine aH (Iv s9.1) y4 (aH (Iv s9.2) y4 (aS fun u16 Zb => (bg (LT.rem Q (yZ Zb)) Q Q Q Q (aJ (Iv (Int.tmod s9.1 s9.2)) y4 (On (Ws (Wr ?_)))))))
     refine aH (Iv s9.2) y4 (aJ (Iv s9.2) y4 (On (Wr ?_)))
     refine aH (Iv (Int.tmod s9.1 s9.2)) y4 (aJ (Iv (Int.tmod s9.1 s9.2)) y4 (On (aB.blk ?_)))
     refine aV Q z2 J
    ·refine eu y2 z1 J
   ·refine Ws (Wr ?_)
    refine aH (Iv b14) y4 (aJ (Iv b14) y4 (On (bT z1 J ⟨au.sc,J⟩ J)))
theorem aGI (v:(List Int)):FT Tryz.prog (NT v) 184 [.c (xF aC v)] [] (fun (t:(List Int)) => [.c (lo 0 t.length)]) (fun (t:(List Int)) => [(0,pR 3 aC t)]) [0]:=by
 refine FT.of [] Tryz.func184 Tryz.ntmps184 Q y2 ?_
 intro w0 U0 R0 g0
 unfold NT
 refine Ws (Wr ?_)
 refine aJ (Cc (sC aX)) aZ (On (Ws (Wr ?_)))
 refine aJ (Iv 0) aZ (On (Ws (Ws (Wr ?_))))
 refine aJ (Iv 0) aZ (On (aB.block ?_))
 refine aB.lD (id:=0) (NU v) (fun s1 => ([(0,Cc (xF aC v)),(3,Iv s1.1),(4,Iv s1.2)],[])) (fun b16 => ([(0,Cc (xF aC v)),(3,Iv b16)],[])) (ja Tryz.prog Tryz.f184.results.toList [] [0] (fun (t:(List Int)) => [.c (lo 0 t.length)]) (fun (t:(List Int)) => [(0,pR 3 aC t)])) ?_ (aY.of z3 J) Q (fun b16 _ => ?_) lK
 ·intro s1
  unfold NU
  refine Ws (Ws (Wr ?_))
  refine aH (Iv s1.2) y4 (aH (Cc (xF aC v)) y4 (aW (LT.fG Q dO) Q Q Q (af LT.lss y5 (On (aB.cond Q (fun hc17 => ?_) (fun hc17 => ?_))))))
  ·refine aB.skip (Ws (aB.block (Ws (Ws (Wr ?_)))))
   refine aH (Cc (xF aC v)) y4 (aH (Iv s1.2) y4 (aS fun x18 Bf => (bg (LT.bU (enc:=aC) Q dG Bf dQ) Q Q Q Q (aW (LT.dJ Q ak) Q Q Q (aS fun r19 aKj => (iD [.c (iC x18),.c (iC (-9000000000000000000)),.c (iC 9000000000000000000)] (DF x18 (-9000000000000000000) 9000000000000000000 r19 aKj) BN (vK y3) y5 ⟨Q,Q,y2,y2,J⟩ (aW (LT.not Q) Q Q Q (On (aB.cond Q (fun Px => ?_) (fun Px => ?_))))))))))
   ·refine Ws (Wr ?_)
    refine jo (gu 22 aC [] [] dO iL y7) Q Q (aH (Cc (xF aC v)) y4 (aS fun u21 hu21 => (dZ (LT.Cj (enc:=aC) Q  Q dO iL Q (by decide) (by decide) (fun _ => Q) (kU hu21)) Q Q Q Q Q (aJ (Cc (lo 22 ((([]:List Int) ++ v).length))) y4 (On (en [(2,Cc (lo 22 ((([]:List Int) ++ v).length)))] [(22,pR 3 aC (([]:List Int) ++ v))] z1 z1 (aB.ent (aY.mv 22 0 Q Q) (en [(2,Cc (lo 0 ((([]:List Int) ++ v).length)))] [(0,pR 3 aC (([]:List Int) ++ v))] z1 z1 (aB.ret ⟨Q,kz z1 z1 ⟨J,J⟩ ⟨cZ.fA gQ,J⟩⟩)))))))))
   ·refine aB.skip (Wr ?_)
    refine aH (Iv s1.1) y4 (aH (Cc (xF aC v)) y4 (aH (Iv s1.2) y4 (aS fun oJ Ie => (bg (LT.bU (enc:=aC) Q dG Ie dQ) Q Q Q Q (aW (LT.dJ Q ak) Q Q Q (aS fun wV QF => (iD [.c (iC s1.1),.c (iC oJ)] (Xi s1.1 oJ wV QF) Uh (jv y2) y5 z3 (aJ (Iv wV) y4 (On (aB.blk ?_))))))))))
    refine en [(0,Cc (xF aC v)),(3,Iv wV),(4,Iv s1.2)] [] z3 J (Wr (aH (Iv s1.2) y4 (af LT.add aU (aJ (Iv (aA (s1.2 + 1))) y4 (On (aV Q z3 J))))))
  ·refine eu y2 z2 J
 ·refine Ws (Ws (Wr ?_))
  refine aH (Iv b16) y4 (af LT.eql aU (On (aB.cond Q (fun hc24 => ?_) (fun hc24 => ?_))))
  ·refine Ws (Wr ?_)
   refine jo (gu 24 aC [] [] dO iL y7) Q Q (aH (Cc (xF aC v)) y4 (aS fun u25 aLT => (dZ (LT.Cj (enc:=aC) Q  Q dO iL Q (by decide) (by decide) (fun _ => Q) (kU aLT)) Q Q Q Q Q (aJ (Cc (lo 24 ((([]:List Int) ++ v).length))) y4 (On (en [(2,Cc (lo 24 ((([]:List Int) ++ v).length)))] [(24,pR 3 aC (([]:List Int) ++ v))] z1 z1 (aB.ent (aY.mv 24 0 Q Q) (en [(2,Cc (lo 0 ((([]:List Int) ++ v).length)))] [(0,pR 3 aC (([]:List Int) ++ v))] z1 z1 (bT z1 z1 ⟨J,J⟩ ⟨cZ.fA gQ,J⟩)))))))))
  ·refine aB.skip (Ws (Wr ?_))
   refine aJ (Iv 0) aZ (On (Ws (Ws (Wr ?_))))
   refine aJ (Iv 0) aZ (On (aB.block ?_))
   refine aB.jM (id:=2) (NW v b16) (fun s26 => ([(0,Cc (xF aC v)),(3,Iv b16),(5,Iv s26.1),(6,Iv s26.2)],[])) (fun BL => ([(0,Cc (xF aC v)),(3,Iv BL.1),(5,Iv BL.2)],[])) ?_ (aY.of z4 J) Q (fun BL _ => ?_)
   ·intro s26
    unfold NW
    refine Ws (Ws (Wr ?_))
    refine aH (Iv s26.2) y4 (aH (Cc (xF aC v)) y4 (aW (LT.fG Q dO) Q Q Q (af LT.lss y5 (On (aB.cond Q (fun aJe => ?_) (fun aJe => ?_))))))
    ·refine aB.skip (Ws (aB.block (Ws (Wr ?_))))
     refine aH (Iv s26.1) y4 (af LT.eql aU (On (aB.eX (fun j43 => ([(0,Cc (xF aC v)),(3,Iv b16),(5,Iv j43),(6,Iv s26.2)],[])) ?_ (fun j43 _ => ?_))))
     ·refine aB.cond Q (fun Yy => ?_) (fun Yy => ?_)
      ·refine Wr (aH (Cc (xF aC v)) y4 (aH (Iv s26.2) y4 (aS fun kL FI => (bg (LT.bU (enc:=aC) Q dG FI dQ) Q Q Q Q (aW (LT.dJ Q ak) Q Q Q (aJ (Iv kL) y4 (On (aV Q z4 J))))))))
      ·refine aB.skip (aV Q z4 J)
     ·refine aB.blk (Wr ?_)
      refine aH (Iv s26.2) y4 (af LT.add aU (aJ (Iv (aA (s26.2 + 1))) y4 (On (aV Q z4 J))))
    ·refine eu y2 z3 J
   ·refine Ws (Ws (Wr ?_))
    refine aH (Iv BL.2) y4 (af LT.lss aU (On (aB.eX (fun j47 => ([(0,Cc (xF aC v)),(3,Iv j47)],[])) ?_ (fun j47 _ => ?_))))
    ·refine aB.cond Q (fun IW => ?_) (fun IW => ?_)
     ·refine Wr (aH (Iv BL.1) y4 (aW (LT.neg Q) Q Q Q (aJ (Iv (aA (-BL.1))) y4 (On (aV Q z2 J)))))
     ·refine aB.skip (aV Q z2 J)
    ·refine Ws (Wr ?_)
     refine jo (gu 25 aC [] [] dO iL y7) Q Q (aJ (Cc (lo 25 (([]:List Int).length))) y4 (On (Ws (Ws (Wr ?_)))))
     refine aJ (Iv 0) aZ (On (aB.block ?_))
     refine aB.jM (id:=4) (NY v j47) (fun s49 => ([(0,Cc (xF aC v)),(3,Iv j47),(7,Cc (lo 25 s49.2.length)),(8,Iv s49.1)],[(25,pR 3 aC s49.2)])) (fun zo => ([(7,Cc (lo 25 zo.length))],[(25,pR 3 aC zo)])) ?_ (aY.of z4 z1) Q (fun zo _ => ?_)
     ·intro s49
      unfold NY
      refine Ws (Ws (Wr ?_))
      refine aH (Iv s49.1) y4 (aH (Cc (xF aC v)) y4 (aW (LT.fG Q dO) Q Q Q (af LT.lss y5 (On (aB.cond Q (fun Y3 => ?_) (fun Y3 => ?_))))))
      ·refine aB.skip (Ws (aB.block (Wr ?_)))
       refine aH (Cc (lo 25 s49.2.length)) y4 (aH (Cc (xF aC v)) y4 (aH (Iv s49.1) y4 (aS fun BG Zr => (bg (LT.bU (enc:=aC) Q dG Zr dQ) Q Q Q Q (aW (LT.dJ Q ak) Q Q Q (aH (Iv j47) y4 (aS fun u61 aLh => (bg (LT.quo Q (yZ aLh)) Q Q Q Q (pV (gu 26 aC [(0,.tmp 64,.c (iC (aA (Int.tdiv BG j47))))] ([aA (Int.tdiv BG j47)]:List Int) dO iL y7) Q Q Q (aS fun u62 Zg => (qM (LT.pK (enc:=aC) Q Q Q dO iL Q (by decide) (by decide) (fun _ => Q) (kU Zg)) Q Q Q Q Q Q ?_)))))))))))
       refine aJ (Cc (lo 25 ((s49.2 ++ ([aA (Int.tdiv BG j47)]:List Int)).length))) y4 (On (aB.blk ?_))
       refine en [(0,Cc (xF aC v)),(3,Iv j47),(7,Cc (lo 25 ((s49.2 ++ ([aA (Int.tdiv BG j47)]:List Int)).length))),(8,Iv s49.1)] [(25,pR 3 aC (s49.2 ++ ([aA (Int.tdiv BG j47)]:List Int)))] z4 z1 (Wr (aH (Iv s49.1) y4 (af LT.add aU (aJ (Iv (aA (s49.1 + 1))) y4 (On (aV Q z4 z1))))))
      ·refine eu y2 z1 z1
     ·refine Ws (Wr ?_)
      refine aH (Cc (lo 25 zo.length)) y4 (aJ (Cc (lo 25 zo.length)) y4 (On (en [(2,Cc (lo 25 zo.length))] [(25,pR 3 aC zo)] z1 z1 (aB.ent (aY.mv 25 0 Q Q) (en [(2,Cc (lo 0 zo.length))] [(0,pR 3 aC zo)] z1 z1 (bT z1 z1 ⟨J,J⟩ ⟨cZ.fA gQ,J⟩))))))
theorem aGT (row:(List Int)):FT Tryz.prog (JL row) 189 [.c (xF aC row)] [] (fun (t:(List Int)) => [.c (lo 0 t.length)]) (fun (t:(List Int)) => [(0,pR 3 aC t)]) [0]:=by
 refine FT.of [] Tryz.func189 Tryz.ntmps189 Q y2 ?_
 intro w0 U0 R0 g0
 unfold JL
 refine Ws (Wr ?_)
 refine aJ (Cc (sC aX)) aZ (On (Ws (Wr ?_)))
 refine aH (Cc (xF aC row)) y4 (aS fun r1 hr1 => (aT.step (dK [.c (xF aC row)] (Fw.Fn.ren [(0,22)] (aGI row r1 hr1) Q) aCO (l9 Q) J y3) z2 J Q Q (aJ (Cc (lo 22 r1.length)) y4 (On (en [(2,Cc (lo 22 r1.length))] [(22,pR 3 aC r1)] z1 z1 (aB.ent (aY.mv 22 0 Q Q) (en [(2,Cc (lo 0 r1.length))] [(0,pR 3 aC r1)] z1 z1 (bT z1 z1 ⟨J,J⟩ ⟨cZ.fA gQ,J⟩))))))))
theorem aPz (a:(List Int)) (row:(List Int)) (j:Int):FT Tryz.prog (SS a row j) 190 [.c (xF aC a),.c (xF aC row),.c (iC j)] [] (fun (t:(List Int)) => [.c (lo 0 t.length)]) (fun (t:(List Int)) => [(0,pR 3 aC t)]) [0]:=by
 refine FT.of [] Tryz.func190 Tryz.ntmps190 Q y2 ?_
 intro w0 U0 R0 g0
 unfold SS
 refine Ws (Wr ?_)
 refine aJ (Cc (sC aX)) aZ (On (Ws (aB.draw mixed ?_)))
 refine ay (Cc (xF aC a)) y4 (ay (Iv j) y4 (aQ.bind fun x1 hx1 => (bZ (LT.bU (enc:=aC) Q dG hx1 dQ) Q Q Q Q (ax (LT.dJ Q ak) Q Q Q (ay (Cc (xF aC row)) y4 (ay (Iv j) y4 (aQ.bind fun x2 hx2 => (bZ (LT.bU (enc:=aC) Q dG hx2 dQ) Q Q Q Q (ax (LT.dJ Q ak) Q Q Q (aQ.bind fun r3 hr3 => (aQ.pure (dK [.c (iC x1),.c (iC x2)] (Xi x1 x2 r3 hr3) Uh (jv y2) J y3) z3 J Q Q ?_)))))))))))
 refine ax (LT.assign (v:=(Iv r3)) Q) Q Q Q (dm (Ws (en [(0,Cc (xF aC a)),(1,Cc (xF aC row)),(2,Iv j),(7,Iv r3)] [] z4 J (Wr (aH (Cc (xF aC row)) y4 (aH (Iv j) y4 (aS fun x4 hx4 => (bg (LT.bU (enc:=aC) Q dG hx4 dQ) Q Q Q Q (aW (LT.dJ Q ak) Q Q Q (aH (Iv r3) y4 (aS fun u5 Ze => ?_)))))))))))
 refine bg (LT.quo Q (yZ Ze)) Q Q Q Q (aJ (Iv (aA (Int.tdiv x4 r3))) y4 (On (Ws (Wr ?_))))
 refine aH (Cc (xF aC a)) y4 (aH (Iv j) y4 (aS fun x6 hx6 => (bg (LT.bU (enc:=aC) Q dG hx6 dQ) Q Q Q Q (aW (LT.dJ Q ak) Q Q Q (aH (Iv r3) y4 (aS fun u7 hu7 => (bg (LT.quo Q (yZ hu7)) Q Q Q Q (aJ (Iv (aA (Int.tdiv x6 r3))) y4 (On (Ws ?_))))))))))
 refine en [(0,Cc (xF aC a)),(1,Cc (xF aC row)),(8,Iv (aA (Int.tdiv x4 r3))),(9,Iv (aA (Int.tdiv x6 r3)))] [] z4 J (Wr (jo (gu 22 aC [] [] dO iL y7) Q Q (aJ (Cc (lo 22 (([]:List Int).length))) y4 (On (Ws (Ws (Wr ?_)))))))
 refine aJ (Iv 0) aZ (On (aB.block ?_))
 refine aB.jM (id:=0) (OO a row r3 x4 x6) (fun s8 => ([(0,Cc (xF aC a)),(1,Cc (xF aC row)),(8,Iv (aA (Int.tdiv x4 r3))),(9,Iv (aA (Int.tdiv x6 r3))),(10,Cc (lo 22 s8.2.length)),(11,Iv s8.1)],[(22,pR 3 aC s8.2)])) (fun b17 => ([(10,Cc (lo 22 b17.length))],[(22,pR 3 aC b17)])) ?_ (aY.of z6 z1) Q (fun b17 _ => ?_)
 ·intro s8
  unfold OO
  refine Ws (Ws (Wr ?_))
  refine aH (Iv s8.1) y4 (aH (Cc (xF aC a)) y4 (aW (LT.fG Q dO) Q Q Q (af LT.lss y5 (On (aB.cond Q (fun hc18 => ?_) (fun hc18 => ?_))))))
  ·refine aB.skip (Ws (aB.block (aB.draw mixed ?_)))
   refine ay (Cc (lo 22 s8.2.length)) y4 (ay (Cc (xF aC a)) y4 (ay (Iv s8.1) y4 (aQ.bind fun x19 QS => (bZ (LT.bU (enc:=aC) Q dG QS dQ) Q Q Q Q (ax (LT.dJ Q ak) Q Q Q (ay (Iv (aA (Int.tdiv x4 r3))) y4 (dV LT.mul y5 (ay (Cc (xF aC row)) y4 (ay (Iv s8.1) y4 (aQ.bind fun x20 Ad => (bZ (LT.bU (enc:=aC) Q dG Ad dQ) Q Q Q Q ?_)))))))))))
   refine ax (LT.dJ Q ak) Q Q Q (ay (Iv (aA (Int.tdiv x6 r3))) y4 (dV LT.mul y5 (dV LT.sub y5 (G5 (gu 23 aC [(0,.tmp 53,.c (iC (aA ((aA (x19 * (aA (Int.tdiv x4 r3)))) - (aA (x20 * (aA (Int.tdiv x6 r3))))))))] ([aA ((aA (x19 * (aA (Int.tdiv x4 r3)))) - (aA (x20 * (aA (Int.tdiv x6 r3)))))]:List Int) dO iL y7) Q Q Q (aQ.bind fun u21 hu21 => (Jz (LT.pK (enc:=aC) Q Q Q dO iL Q (by decide) (by decide) (fun _ => Q) (kU hu21)) Q Q Q Q Q Q (ax (LT.assign (v:=(Cc (lo 22 ((s8.2 ++ ([aA ((aA (x19 * (aA (Int.tdiv x4 r3)))) - (aA (x20 * (aA (Int.tdiv x6 r3)))))]:List Int)).length)))) Q) Q Q Q (dm (aB.blk (en [(0,Cc (xF aC a)),(1,Cc (xF aC row)),(8,Iv (aA (Int.tdiv x4 r3))),(9,Iv (aA (Int.tdiv x6 r3))),(10,Cc (lo 22 ((s8.2 ++ ([aA ((aA (x19 * (aA (Int.tdiv x4 r3)))) - (aA (x20 * (aA (Int.tdiv x6 r3)))))]:List Int)).length))),(11,Iv s8.1)] [(22,pR 3 aC (s8.2 ++ ([aA ((aA (x19 * (aA (Int.tdiv x4 r3)))) - (aA (x20 * (aA (Int.tdiv x6 r3)))))]:List Int)))] z6 z1 (Wr ?_)))))))))))
   refine aH (Iv s8.1) y4 (af LT.add aU (aJ (Iv (aA (s8.1 + 1))) y4 (On (aV Q z6 z1))))
  ·refine eu y2 z1 z1
 ·refine Ws (Wr ?_)
  refine aH (Cc (lo 22 b17.length)) y4 (aS fun r22 QE => (aT.step (cF [.c (lo 22 b17.length)] [(22,pR 3 aC b17)] (Fw.Fn.ren [(0,25)] (aGT b17 r22 QE) Q) aCP (.cons (.c (.eU Q Q)) .nil) J y3) z2 z1 Q Q (aJ (Cc (lo 25 r22.length)) y4 (On (en [(6,Cc (lo 25 r22.length))] [(25,pR 3 aC r22)] z1 z1 (aB.ent (aY.mv 25 0 Q Q) (en [(6,Cc (lo 0 r22.length))] [(0,pR 3 aC r22)] z1 z1 (bT z1 z1 ⟨J,J⟩ ⟨cZ.fA gQ,J⟩))))))))
theorem aGV (m:(List (List Int))):FT Tryz.prog (OG m) 166 [.c (xF (bG false) m)] [] (fun (t:((List (List Int)) × (List Int))) => [.c (lo 0 t.1.length),.c (lo 1 t.2.length)]) (fun (t:((List (List Int)) × (List Int))) => [(0,pR 28 (bG true) t.1),(1,pR 3 aC t.2)]) [0,1]:=by
 refine FT.xK [] Tryz.func166 Tryz.ntmps166 Q y2 ?_
 intro w0 U0 R0 g0 hU
 unfold OG
 refine Ws (Wr ?_)
 refine aJ (Cc (sC aX)) aZ (aJ (Cc (sC aX)) aZ (On (Ws (Wr ?_))))
 refine jo (gu 21 (bG true) [] ([]:List (List Int)) jR oH y7) Q Q (aJ (Cc (lo 21 (([]:List (List Int)).length))) y4 (On (Ws (Ws (Wr ?_)))))
 refine aJ (Iv 0) aZ (On (aB.block ?_))
 refine aB.jM (id:=0) (OH m) (fun s1 => ([(0,Cc (xF (bG false) m)),(4,Cc (lo 21 s1.2.length)),(5,Iv s1.1)],[(21,pR 28 (bG true) s1.2)])) (fun b10 => ([(4,Cc (lo 21 b10.length))],[(21,pR 28 (bG true) b10)])) ?_ (aY.of z3 z1) Q (fun b10 _ => ?_)
 ·intro s1
  unfold OH
  refine Ws (Ws (Wr ?_))
  refine aH (Iv s1.1) y4 (aH (Cc (xF (bG false) m)) y4 (aW (LT.fG Q jR) Q Q Q (af LT.lss y5 (On (aB.cond Q (fun sG => ?_) (fun sG => ?_))))))
  ·refine aB.skip (Ws (aB.block (Wr ?_)))
   refine aH (Cc (lo 21 s1.2.length)) y4 (aH (Cc (xF (bG false) m)) y4 (aH (Iv s1.1) y4 (aS fun x12 wO => (bg (LT.bU (enc:=(bG false)) Q jw wO uU) Q Q Q Q (aW (LT.dJ Q fP) Q Q Q (aS fun r13 uF => (aT.step (dK [.c (xF aC x12)] (Fw.Fn.ren [(0,23)] (aGT x12 r13 uF) Q) aCP (l9 Q) J y3) z2 J Q Q (aT.ent (aY.H6 (enc:=aC) 23 23 hU Q Q Q Q) (pV (gu 24 (bG true) [(0,.tmp 23,.c (xT aC r13))] [r13] jR oH y7) Q Q Q (aS fun u14 QI => (qM (LT.pK (enc:=(bG true)) Q Q Q jR oH Q (by decide) (by decide) (fun _ => Q) (kU QI)) Q Q Q Q Q Q ?_)))))))))))
   refine aJ (Cc (lo 21 ((s1.2 ++ [r13]).length))) y4 (On (aB.blk ?_))
   refine en [(0,Cc (xF (bG false) m)),(4,Cc (lo 21 ((s1.2 ++ [r13]).length))),(5,Iv s1.1)] [(21,pR 28 (bG true) (s1.2 ++ [r13]))] z3 z1 (Wr (aH (Iv s1.1) y4 (af LT.add aU (aJ (Iv (aA (s1.1 + 1))) y4 (On (aV Q z3 z1))))))
  ·refine eu y2 z1 z1
 ·refine Ws (Wr ?_)
  refine jo (gu 25 aC [] [] dO iL y7) Q Q (aJ (Cc (lo 25 (([]:List Int).length))) y4 (On (Ws (Ws (Wr ?_)))))
  refine aJ (Iv 0) aZ (On (aB.block ?_))
  refine aB.jM (id:=2) GH (fun s15 => ([(4,Cc (lo 21 s15.2.1.length)),(6,Cc (lo 25 s15.2.2.length)),(7,Iv s15.1)],[(21,pR 28 (bG true) s15.2.1),(25,pR 3 aC s15.2.2)])) (fun sQ => ([(4,Cc (lo 21 sQ.1.length)),(6,Cc (lo 25 sQ.2.length))],[(21,pR 28 (bG true) sQ.1),(25,pR 3 aC sQ.2)])) ?_ (aY.of z3 z2) Q (fun sQ _ => ?_)
  ·intro s15
   unfold GH
   refine Ws (Ws ?_)
   refine aB.eX (fun Vt => ([(4,Cc (lo 21 s15.2.1.length)),(6,Cc (lo 25 s15.2.2.length)),(7,Iv s15.1),(37,Bv Vt)],[(21,pR 28 (bG true) s15.2.1),(25,pR 3 aC s15.2.2)])) ?_ (fun Vt _ => ?_)
   ·refine Wr (aH (Cc (lo 21 s15.2.1.length)) y4 (aW (LT.lC Q jR) Q Q Q (af LT.gtr aU (aH (Bv (decide (0 < (s15.2.1.length:Int)))) y4 (aT.split (fun wL => ?_) (fun wL => ?_))))))
    ·refine dB (Iv s15.1) wL y5 (dB (Cc (lo 21 s15.2.1.length)) wL y5 (aS fun x153 hx153 => (jf (LT.jH Q Q jw hx153) Q y2 Q (gH wL Q Q) Q (bV (ni 0 Q fP hx153) Q Q (gH wL Q Q) Q (aW (LT.fG Q dO) Q (gH wL Q Q) Q (fB LT.lss wL y6 (dD (Bv (decide (s15.1 < (x153.length:Int)))) wL y5 (On (aV Q z4 z2)))))))))
    ·refine aK wL y5 (aK wL y5 (aK wL y5 (aK wL y5 (aK wL y5 (aK wL y5 (dA (Bv false) wL aU (On (aV Q z4 z2))))))))
   ·refine aB.cond Q (fun aJQ => ?_) (fun aJQ => ?_)
    ·refine aB.skip (Ws (aB.block (Ws (Wr ?_))))
     refine aH (Cc (lo 25 s15.2.2.length)) y4 (aW (LT.lC Q dO) Q Q Q (aJ (Iv (s15.2.2.length:Int)) y4 (On (Ws (aB.block ?_)))))
     refine aB.jM (id:=4) (OI s15) (fun yx => ([(4,Cc (lo 21 s15.2.1.length)),(6,Cc (lo 25 s15.2.2.length)),(7,Iv s15.1),(8,Iv yx)],[(21,pR 28 (bG true) s15.2.1),(25,pR 3 aC s15.2.2)])) (fun iG => ([(4,Cc (lo 21 iG.2.2.1.length)),(6,Cc (lo 25 iG.2.2.2.length)),(7,Iv iG.1),(8,Iv iG.2.1)],[(21,pR 28 (bG true) iG.2.2.1),(25,pR 3 aC iG.2.2.2)])) ?_ (aY.of z4 z2) Q (fun iG _ => ?_)
     ·intro yx
      unfold OI
      refine Ws (Ws ?_)
      refine aB.eX (fun EK => ([(4,Cc (lo 21 s15.2.1.length)),(6,Cc (lo 25 s15.2.2.length)),(7,Iv s15.1),(8,Iv yx),(55,Bv EK)],[(21,pR 28 (bG true) s15.2.1),(25,pR 3 aC s15.2.2)])) ?_ (fun EK _ => ?_)
      ·refine Wr (aH (Iv yx) y4 (aH (Cc (lo 21 s15.2.1.length)) y4 (aW (LT.lC Q jR) Q Q Q (af LT.lss y5 (aH (Bv (decide (yx < (s15.2.1.length:Int)))) y4 (aT.split (fun tu => ?_) (fun tu => ?_)))))))
       ·refine dB (Cc (lo 21 s15.2.1.length)) tu y5 (dB (Iv yx) tu y5 (aS fun aGd aDa => (jf (LT.jH Q Q jw aDa) Q Q Q (gH tu Q Q) Q (bV (ni 0 Q fP aDa) Q Q (gH tu Q Q) Q (dB (Iv s15.1) tu y5 (aS fun xX FD => (bg (LT.bU (enc:=aC) Q dG FD dQ) Q Q (gH tu Q Q) Q (aW (LT.dJ Q ak) Q (gH tu Q Q) Q (fB LT.eql tu iT (dD (Bv (xX == 0)) tu y5 (On ?_)))))))))))
        refine aV Q z5 z2
       ·refine aK tu y5 (aK tu y5 (aK tu y5 (aK tu y5 (aK tu y5 (aK tu y5 (aK tu y5 (aK tu y5 (dA (Bv false) tu aU (On (aV Q z5 z2))))))))))
      ·refine aB.cond Q (fun Yt => ?_) (fun Yt => ?_)
       ·refine aB.skip (aB.block (Wr ?_))
        refine aH (Iv yx) y4 (af LT.add aU (aJ (Iv (aA (yx + 1))) y4 (On (aB.blk ?_))))
        refine aV Q z4 z2
       ·refine eu y2 z4 z2
     ·refine Ws (Ws (Wr ?_))
      refine aH (Iv iG.2.1) y4 (aH (Cc (lo 21 iG.2.2.1.length)) y4 (aW (LT.lC Q jR) Q Q Q (af LT.eql y5 (On (aB.cond Q (fun Yu => ?_) (fun Yu => ?_))))))
      ·refine aB.exit Q (Wr ?_)
       refine aH (Iv iG.1) y4 (af LT.add aU (aJ (Iv (aA (iG.1 + 1))) y4 (On (aV Q z3 z2))))
      ·refine aB.skip (Ws (Wr ?_))
       refine aH (Cc (lo 21 iG.2.2.1.length)) y4 (aH (Iv iG.2.1) y4 (aS fun pO Ic => (jf (LT.jH Q Q jw Ic) Q Q Q Q Q (bV (ni 0 Q fP Ic) Q Q Q Q (aJ (Cc (xT aC pO)) y4 (On (Ws (Wr ?_))))))))
       refine aH (Cc (lo 21 iG.2.2.1.length)) y4 (aH (Iv iG.2.1) y4 (aH (Cc (lo 21 iG.2.2.1.length)) y4 (aH (Cc (lo 25 iG.2.2.2.length)) y4 (aW (LT.lC Q dO) Q Q Q (aS fun pU Bg => (jf (LT.jH Q Q jw Bg) Q Q Q Q Q (bV (ni 0 Q fP Bg) Q Q Q Q (aS fun DU EG => (jf (LT.jH Q Q jw EG) Q Q Q Q Q (dZ (qI 0 (.c (xT aC pU)) pU Q Q EH uU EG) Q Q Q Q Q (On (Ws ?_))))))))))))
       refine en [(4,Cc (lo 21 iG.2.2.1.length)),(6,Cc (lo 25 iG.2.2.2.length)),(7,Iv iG.1),(9,Cc (xT aC pO))] [(21,pR 28 (bG true) (iG.2.2.1.set iG.2.1.toNat pU)),(25,pR 3 aC iG.2.2.2)] z4 z2 (Wr (aH (Cc (lo 21 iG.2.2.1.length)) y4 (aH (Cc (lo 25 iG.2.2.2.length)) y4 (aW (LT.lC Q dO) Q Q Q (aH (Cc (xT aC pO)) y4 (aS fun xY Bh => (jf (LT.jH (show iG.2.2.1.length = (iG.2.2.1.set iG.2.1.toNat pU).length by simp only [List.length_set]) Q jw Bh) Q Q Q Q Q (dZ (qI 0 (.c (xT aC pO)) pO Q Q EH uU Bh) Q Q Q Q Q (On (Ws (Ws (Wr ?_))))))))))))
       refine aJ (Iv 0) aZ (On (aB.block ?_))
       refine aB.jM (id:=6) (OJ iG pO) (fun lN => ([(4,Cc (lo 21 lN.2.length)),(6,Cc (lo 25 iG.2.2.2.length)),(7,Iv iG.1),(9,Cc (xT aC pO)),(10,Iv lN.1)],[(21,pR 28 (bG true) lN.2),(25,pR 3 aC iG.2.2.2)])) (fun rY => ([(4,Cc (lo 21 rY.2.1.length)),(6,Cc (lo 25 rY.2.2.length)),(7,Iv rY.1)],[(21,pR 28 (bG true) rY.2.1),(25,pR 3 aC rY.2.2)])) ?_ (aY.of ⟨congrArg (fun l1 => (some (AV.s (.c (lo 21 l1))):Option AV)) (show iG.2.2.1.length = ((iG.2.2.1.set iG.2.1.toNat pU).set (iG.2.2.2.length:Int).toNat pO).length by simp only [List.length_set]),Q,Q,Q,Q,J⟩ z2) Q (fun rY _ => ?_)
       ·intro lN
        unfold OJ
        refine Ws (Ws (Wr ?_))
        refine aH (Iv lN.1) y4 (aH (Cc (lo 21 lN.2.length)) y4 (aW (LT.lC Q jR) Q Q Q (af LT.lss y5 (On (aB.cond Q (fun aJW => ?_) (fun aJW => ?_))))))
        ·refine aB.skip (Ws (aB.block (Ws ?_)))
         refine aB.eX (fun Vz => ([(4,Cc (lo 21 lN.2.length)),(6,Cc (lo 25 iG.2.2.2.length)),(7,Iv iG.1),(9,Cc (xT aC pO)),(10,Iv lN.1),(98,Bv Vz)],[(21,pR 28 (bG true) lN.2),(25,pR 3 aC iG.2.2.2)])) ?_ (fun Vz _ => ?_)
         ·refine Wr (aH (Iv lN.1) y4 (aH (Cc (lo 25 iG.2.2.2.length)) y4 (aW (LT.lC Q dO) Q Q Q (af LT.neq y5 (aH (Bv (lN.1 != (iG.2.2.2.length:Int))) y4 (aT.split (fun uD => ?_) (fun uD => ?_)))))))
          ·refine dB (Cc (lo 21 lN.2.length)) uD y5 (dB (Iv lN.1) uD y5 (aS fun aGf aDc => (jf (LT.jH Q Q jw aDc) Q Q Q (gH uD Q Q) Q (bV (ni 0 Q fP aDc) Q Q (gH uD Q Q) Q (dB (Iv iG.1) uD y5 (aS fun aBV aMA => (bg (LT.bU (enc:=aC) Q dG aMA dQ) Q Q (gH uD Q Q) Q (aW (LT.dJ Q ak) Q (gH uD Q Q) Q (fB LT.neq uD iT (dD (Bv (aBV != 0)) uD y5 (On ?_)))))))))))
           refine aV Q z6 z2
          ·refine aK uD y5 (aK uD y5 (aK uD y5 (aK uD y5 (aK uD y5 (aK uD y5 (aK uD y5 (aK uD y5 (dA (Bv false) uD aU (On (aV Q z6 z2))))))))))
         ·refine aB.eX (fun Qd => ([(4,Cc (lo 21 Qd.length)),(6,Cc (lo 25 iG.2.2.2.length)),(7,Iv iG.1),(9,Cc (xT aC pO)),(10,Iv lN.1)],[(21,pR 28 (bG true) Qd),(25,pR 3 aC iG.2.2.2)])) ?_ (fun Qd _ => ?_)
          ·refine aB.cond Q (fun Yv => ?_) (fun Yv => ?_)
           ·refine Wr (aH (Cc (lo 21 lN.2.length)) y4 (aH (Iv lN.1) y4 (aH (Cc (lo 21 lN.2.length)) y4 (aH (Iv lN.1) y4 (aS fun Xm aDe => (jf (LT.jH Q Q jw aDe) Q Q Q Q Q (bV (ni 0 Q fP aDe) Q Q Q Q (aH (Cc (xT aC pO)) y4 (aH (Iv iG.1) y4 (aS fun Oh aKm => (aT.step (dK [.c (xT aC Xm),.c (xT aC pO),.c (iC iG.1)] (Fw.Fn.ren [(0,27)] (aPz Xm pO iG.1 Oh aKm) Q) aHl (.cons (.c (.weak (.same Q) (QW.fO pz (fun h => by cases h) _))) (.cons (.c (.weak (.same Q) (QW.fO pz (fun h => by cases h) _))) (.cons (.c (.same Q)) .nil))) J y3) z4 J Q Q ?_)))))))))))
            refine aS fun uV QT => (jf (LT.jH Q Q jw QT) Q Q Q Q Q (aT.ent (aY.H6 (enc:=aC) 107 27 hU Q Q Q Q) (dZ (qI 0 (.c (xT aC Oh)) Oh Q Q EH uU QT) Q Q Q Q Q (On (aB.nil ⟨Q,aY.of ⟨congrArg (fun l1 => (some (AV.s (.c (lo 21 l1))):Option AV)) (show lN.2.length = (lN.2.set lN.1.toNat Oh).length by simp only [List.length_set]),Q,Q,Q,Q,J⟩ z2⟩)))))
           ·refine aB.skip (aV Q z5 z2)
          ·refine aB.blk (Wr ?_)
           refine aH (Iv lN.1) y4 (af LT.add aU (aJ (Iv (aA (lN.1 + 1))) y4 (On (aV Q z5 z2))))
        ·refine eu y2 z3 z2
       ·refine Wr (aH (Cc (lo 25 rY.2.2.length)) y4 (aH (Iv rY.1) y4 (pV (gu 28 aC [(0,.tmp 110,.c (iC rY.1))] ([rY.1]:List Int) dO iL y7) Q Q Q (aS fun aOv aLR => (qM (LT.pK (enc:=aC) Q Q Q dO iL Q (by decide) (by decide) (fun _ => Q) (kU aLR)) Q Q Q Q Q Q (aJ (Cc (lo 25 ((rY.2.2 ++ ([rY.1]:List Int)).length))) y4 (On (aB.blk (Wr ?_)))))))))
        refine aH (Iv rY.1) y4 (af LT.add aU (aJ (Iv (aA (rY.1 + 1))) y4 (On (aV Q z3 z2))))
    ·refine eu y2 z2 z2
  ·refine Ws (Wr ?_)
   refine aH (Cc (lo 21 sQ.1.length)) y4 (aH (Cc (lo 25 sQ.2.length)) y4 (aJ (Cc (lo 21 sQ.1.length)) y4 (aJ (Cc (lo 25 sQ.2.length)) y4 (On (en [(2,Cc (lo 21 sQ.1.length)),(3,Cc (lo 25 sQ.2.length))] [(21,pR 28 (bG true) sQ.1),(25,pR 3 aC sQ.2)] z2 z2 (aB.ent (aY.mv 21 0 Q Q) (aB.ent (aY.mv 25 1 Q Q) (en [(2,Cc (lo 0 sQ.1.length)),(3,Cc (lo 1 sQ.2.length))] [(0,pR 28 (bG true) sQ.1),(1,pR 3 aC sQ.2)] z2 z2 (bT z2 z2 ⟨J,J,J⟩ ⟨cZ.fA Am,cZ.fA gQ,J⟩)))))))))
theorem aGU (m:(List (List Int))) (columns:Int):FT Tryz.prog (OA m columns) 153 [.c (xF (bG false) m),.c (iC columns)] [] (fun (t:(List (List Int))) => [.c (lo 0 t.length)]) (fun (t:(List (List Int))) => [(0,pR 28 (bG true) t)]) [0]:=by
 refine FT.xK [] Tryz.func153 Tryz.ntmps153 Q y2 ?_
 intro w0 U0 R0 g0 hU
 unfold OA
 refine Ws (Wr ?_)
 refine aJ (Cc (sC aX)) aZ (On (Ws (Wr ?_)))
 refine jo (gu 21 (bG true) [] ([]:List (List Int)) jR oH y7) Q Q (aJ (Cc (lo 21 (([]:List (List Int)).length))) y4 (On (Ws (Wr ?_))))
 refine aH (Cc (xF (bG false) m)) y4 (aS fun r1 hr1 => (aT.step (dK [.c (xF (bG false) m)] (Fw.Fn.ren [(0,23),(1,24)] (aGV m r1 hr1) Q) aCL (l9 Q) J y3) z2 J Q Q (aH (.eH [.c (lo 23 r1.1.length),.c (lo 24 r1.2.length)]) y4 (jQ (.c (lo 23 r1.1.length)) y5 (jQ (.c (lo 24 r1.2.length)) y5 (aJ (Cc (lo 23 r1.1.length)) y4 (aJ (Cc (lo 24 r1.2.length)) y4 (On (Ws (Ws ?_))))))))))
 refine en [(1,Iv columns),(5,Cc (lo 21 (([]:List (List Int)).length))),(6,Cc (lo 23 r1.1.length)),(7,Cc (lo 24 r1.2.length))] [(21,pR 28 (bG true) ([]:List (List Int))),(23,pR 28 (bG true) r1.1),(24,pR 3 aC r1.2)] z4 z3 (Wr (aJ (Iv 0) aZ (On (aB.block ?_))))
 refine aB.jM (id:=0) (OB columns) (fun s2 => ([(1,Iv columns),(5,Cc (lo 21 s2.2.1.length)),(6,Cc (lo 23 s2.2.2.1.length)),(7,Cc (lo 24 s2.2.2.2.length)),(8,Iv s2.1)],[(21,pR 28 (bG true) s2.2.1),(23,pR 28 (bG true) s2.2.2.1),(24,pR 3 aC s2.2.2.2)])) (fun zk => ([(5,Cc (lo 21 zk.length))],[(21,pR 28 (bG true) zk)])) ?_ (aY.of z5 z3) Q (fun zk _ => ?_)
 ·intro s2
  unfold OB
  refine Ws (Ws (Wr ?_))
  refine aH (Iv s2.1) y4 (aH (Iv columns) y4 (af LT.lss y5 (On (aB.cond Q (fun hc114 => ?_) (fun hc114 => ?_)))))
  ·refine aB.skip (Ws (aB.block (Ws (Ws (Wr ?_)))))
   refine aH (Cc (lo 24 s2.2.2.2.length)) y4 (aH (Iv s2.1) y4 (aS fun GX ZI => (aT.pure (cF [.c (lo 24 s2.2.2.2.length),.c (iC s2.1)] [(24,pR 3 aC s2.2.2.2)] (aGR s2.2.2.2 s2.1 GX ZI) aCU (.cons (.c (.eU Q Q)) (.cons (.c (.same Q)) .nil)) J y3) z3 z1 Q Q (On (aB.cond Q (fun Yq => ?_) (fun Yq => ?_))))))
   ·refine aB.exit Q (Wr ?_)
    refine aH (Iv s2.1) y4 (af LT.add aU (aJ (Iv (aA (s2.1 + 1))) y4 (On (aV Q z5 z3))))
   ·refine aB.skip (Ws (Wr ?_))
    refine aJ (Iv 1) aZ (On (Ws (Ws (Wr ?_))))
    refine aJ (Iv 0) aZ (On (aB.block ?_))
    refine aB.jM (id:=2) (OD s2) (fun jY => ([(1,Iv columns),(5,Cc (lo 21 s2.2.1.length)),(6,Cc (lo 23 s2.2.2.1.length)),(7,Cc (lo 24 s2.2.2.2.length)),(8,Iv s2.1),(9,Iv jY.1),(10,Iv jY.2)],[(21,pR 28 (bG true) s2.2.1),(23,pR 28 (bG true) s2.2.2.1),(24,pR 3 aC s2.2.2.2)])) (fun iM => ([(1,Iv columns),(5,Cc (lo 21 iM.2.2.1.length)),(6,Cc (lo 23 iM.2.2.2.1.length)),(7,Cc (lo 24 iM.2.2.2.2.length)),(8,Iv iM.1),(9,Iv iM.2.1)],[(21,pR 28 (bG true) iM.2.2.1),(23,pR 28 (bG true) iM.2.2.2.1),(24,pR 3 aC iM.2.2.2.2)])) ?_ (aY.of z7 z3) Q (fun iM _ => ?_)
    ·intro jY
     unfold OD
     refine Ws (Ws (Wr ?_))
     refine aH (Iv jY.2) y4 (aH (Cc (lo 24 s2.2.2.2.length)) y4 (aW (LT.lC Q dO) Q Q Q (af LT.lss y5 (On (aB.cond Q (fun aJP => ?_) (fun aJP => ?_))))))
     ·refine aB.skip (Ws (aB.block (Ws (aB.draw mixed ?_))))
      refine ay (Cc (lo 23 s2.2.2.1.length)) y4 (ay (Iv jY.2) y4 (aQ.bind fun aGa aDX => (mF (LT.jH Q Q jw aDX) Q Q Q Q Q (fM (ni 0 Q fP aDX) Q Q Q Q (ay (Cc (lo 24 s2.2.2.2.length)) y4 (ay (Iv jY.2) y4 (aQ.bind fun aGb aDY => (mF (LT.jH Q Q dG aDY) Q Q Q Q Q (fM (ni 0 Q ak aDY) Q Q Q Q (aQ.bind fun nN aL0 => (bZ (LT.bU (enc:=aC) Q dG aL0 dQ) Q Q Q Q ?_)))))))))))
      refine ax (LT.dJ Q ak) Q Q Q (ay (Cc (lo 23 s2.2.2.1.length)) y4 (ay (Iv jY.2) y4 (aQ.bind fun aGc aDZ => (mF (LT.jH Q Q jw aDZ) Q Q Q Q Q (fM (ni 0 Q fP aDZ) Q Q Q Q (ay (Cc (lo 24 s2.2.2.2.length)) y4 (ay (Iv jY.2) y4 (aQ.bind fun x150 hx150 => (mF (LT.jH Q Q dG hx150) Q Q Q Q Q (fM (ni 0 Q ak hx150) Q Q Q Q (aQ.bind fun x151 hx151 => ?_)))))))))))
      refine bZ (LT.bU (enc:=aC) Q dG hx151 dQ) Q Q Q Q (ax (LT.dJ Q ak) Q Q Q (ax (LT.neg Q) Q Q Q (dV LT.max y5 (ax (LT.assign (v:=(Iv (if nN < (aA (-x151)) then (aA (-x151)) else nN))) Q) Q Q Q (dm (Ws (en [(1,Iv columns),(5,Cc (lo 21 s2.2.1.length)),(6,Cc (lo 23 s2.2.2.1.length)),(7,Cc (lo 24 s2.2.2.2.length)),(8,Iv s2.1),(9,Iv jY.1),(10,Iv jY.2),(11,Iv (if nN < (aA (-x151)) then (aA (-x151)) else nN))] [(21,pR 28 (bG true) s2.2.1),(23,pR 28 (bG true) s2.2.2.1),(24,pR 3 aC s2.2.2.2)] z8 z3 (Wr (aH (Iv (if nN < (aA (-x151)) then (aA (-x151)) else nN)) y4 (aH (Iv (if nN < (aA (-x151)) then (aA (-x151)) else nN)) y4 (aH (Cc (lo 23 s2.2.2.1.length)) y4 ?_)))))))))))
      refine aH (Iv jY.2) y4 (aS fun x152 hx152 => (jf (LT.jH Q Q jw hx152) Q Q Q Q Q (bV (ni 0 Q fP hx152) Q Q Q Q (aH (Iv s2.1) y4 (aS fun x153 hx153 => (bg (LT.bU (enc:=aC) Q dG hx153 dQ) Q Q Q Q (aW (LT.dJ Q ak) Q Q Q (aS fun tK ZK => (iD [.c (iC (if nN < (aA (-x151)) then (aA (-x151)) else nN)),.c (iC x153)] (Xi (if nN < (aA (-x151)) then (aA (-x151)) else nN) x153 tK ZK) Uh (jv y2) y5 z3 (aS fun aOq aLM => (bg (LT.quo Q (yZ aLM)) Q Q Q Q ?_)))))))))))
      refine aJ (Iv (aA (Int.tdiv (if nN < (aA (-x151)) then (aA (-x151)) else nN) tK))) y4 (On (en [(1,Iv columns),(5,Cc (lo 21 s2.2.1.length)),(6,Cc (lo 23 s2.2.2.1.length)),(7,Cc (lo 24 s2.2.2.2.length)),(8,Iv s2.1),(9,Iv jY.1),(10,Iv jY.2),(12,Iv (aA (Int.tdiv (if nN < (aA (-x151)) then (aA (-x151)) else nN) tK)))] [(21,pR 28 (bG true) s2.2.1),(23,pR 28 (bG true) s2.2.2.1),(24,pR 3 aC s2.2.2.2)] z8 z3 (Wr (aH (Iv jY.1) y4 (aH (Iv jY.1) y4 (aH (Iv (aA (Int.tdiv (if nN < (aA (-x151)) then (aA (-x151)) else nN) tK))) y4 (aS fun yh ZL => (iD [.c (iC jY.1),.c (iC (aA (Int.tdiv (if nN < (aA (-x151)) then (aA (-x151)) else nN) tK)))] (Xi jY.1 (aA (Int.tdiv (if nN < (aA (-x151)) then (aA (-x151)) else nN) tK)) yh ZL) Uh (jv y2) y5 z3 (aS fun aOr aLN => (bg (LT.quo Q (yZ aLN)) Q Q Q Q (aH (Iv (aA (Int.tdiv (if nN < (aA (-x151)) then (aA (-x151)) else nN) tK))) y4 ?_)))))))))))
      refine af LT.mul y5 (aJ (Iv (aA ((aA (Int.tdiv jY.1 yh)) * (aA (Int.tdiv (if nN < (aA (-x151)) then (aA (-x151)) else nN) tK))))) y4 (On (aB.blk (Wr ?_))))
      refine aH (Iv jY.2) y4 (af LT.add aU (aJ (Iv (aA (jY.2 + 1))) y4 (On (aV Q z7 z3))))
     ·refine eu y2 z6 z3
    ·refine Ws (Wr ?_)
     refine aH (Iv columns) y4 (aS fun aOs aLO => (G7 (LT.Ji (n:=28) (enc:=aC) (zc:=[iC 0]) (0:Int) Q dO iL Q Q Q (by decide) (by decide) (FV aLO) Q) Q Q Q Q (aJ (Cc (lo 28 ((List.replicate columns.toNat (0:Int)).length))) y4 (On (Ws (Wr ?_))))))
     refine aH (Cc (lo 28 ((List.replicate columns.toNat (0:Int)).length))) y4 (aH (Iv iM.1) y4 (aH (Iv iM.2.1) y4 (aS fun x159 hx159 => (jf (LT.jH Q Q dG hx159) Q Q Q Q Q (dZ (qI 0 (.c (iC iM.2.1)) iM.2.1 Q Q pX dQ hx159) Q Q Q Q Q (On (Ws (Ws ?_))))))))
     refine en [(1,Iv columns),(5,Cc (lo 21 iM.2.2.1.length)),(6,Cc (lo 23 iM.2.2.2.1.length)),(7,Cc (lo 24 iM.2.2.2.2.length)),(8,Iv iM.1),(9,Iv iM.2.1),(13,Cc (lo 28 ((List.replicate columns.toNat (0:Int)).length)))] [(21,pR 28 (bG true) iM.2.2.1),(23,pR 28 (bG true) iM.2.2.2.1),(24,pR 3 aC iM.2.2.2.2),(28,pR 3 aC ((List.replicate columns.toNat (0:Int)).set iM.1.toNat iM.2.1))] z7 z4 (Wr (aJ (Iv 0) aZ (On (aB.block ?_))))
     refine aB.jM (id:=4) (OE iM) (fun kC => ([(1,Iv columns),(5,Cc (lo 21 iM.2.2.1.length)),(6,Cc (lo 23 iM.2.2.2.1.length)),(7,Cc (lo 24 iM.2.2.2.2.length)),(8,Iv iM.1),(9,Iv iM.2.1),(13,Cc (lo 28 kC.2.length)),(14,Iv kC.1)],[(21,pR 28 (bG true) iM.2.2.1),(23,pR 28 (bG true) iM.2.2.2.1),(24,pR 3 aC iM.2.2.2.2),(28,pR 3 aC kC.2)])) (fun lZ => ([(1,Iv columns),(5,Cc (lo 21 lZ.2.1.length)),(6,Cc (lo 23 lZ.2.2.1.length)),(7,Cc (lo 24 lZ.2.2.2.1.length)),(8,Iv lZ.1),(13,Cc (lo 28 lZ.2.2.2.2.length))],[(21,pR 28 (bG true) lZ.2.1),(23,pR 28 (bG true) lZ.2.2.1),(24,pR 3 aC lZ.2.2.2.1),(28,pR 3 aC lZ.2.2.2.2)])) ?_ (aY.of ⟨Q,Q,Q,Q,Q,Q,congrArg (fun l1 => (some (AV.s (.c (lo 28 l1))):Option AV)) (show (List.replicate columns.toNat (0:Int)).length = ((List.replicate columns.toNat (0:Int)).set iM.1.toNat iM.2.1).length by simp only [List.length_set]),Q,J⟩ z4) Q (fun lZ _ => ?_)
     ·intro kC
      unfold OE
      refine Ws (Ws (Wr ?_))
      refine aH (Iv kC.1) y4 (aH (Cc (lo 24 iM.2.2.2.2.length)) y4 (aW (LT.lC Q dO) Q Q Q (af LT.lss y5 (On (aB.cond Q (fun Yt => ?_) (fun Yt => ?_))))))
      ·refine aB.skip (Ws (aB.block (aB.draw mixed ?_)))
       refine ay (Cc (lo 28 kC.2.length)) y4 (ay (Cc (lo 24 iM.2.2.2.2.length)) y4 (ay (Iv kC.1) y4 (aQ.bind fun Js aDb => (mF (LT.jH Q Q dG aDb) Q Q Q Q Q (fM (ni 0 Q ak aDb) Q Q Q Q (ay (Cc (lo 23 iM.2.2.2.1.length)) y4 (ay (Iv kC.1) y4 (aQ.bind fun pO Ic => (mF (LT.jH Q Q jw Ic) Q Q Q Q Q (fM (ni 0 Q fP Ic) Q Q Q Q (ay (Iv iM.1) y4 ?_)))))))))))
       refine aQ.bind fun pU Bg => (bZ (LT.bU (enc:=aC) Q dG Bg dQ) Q Q Q Q (ax (LT.dJ Q ak) Q Q Q (ay (Iv iM.2.1) y4 (dV LT.mul y5 (ay (Cc (lo 23 iM.2.2.2.1.length)) y4 (ay (Iv kC.1) y4 (aQ.bind fun DU EG => (mF (LT.jH Q Q jw EG) Q Q Q Q Q (fM (ni 0 Q fP EG) Q Q Q Q (ay (Cc (lo 24 iM.2.2.2.2.length)) y4 (ay (Iv kC.1) y4 ?_)))))))))))
       refine aQ.bind fun xY Bh => (mF (LT.jH Q Q dG Bh) Q Q Q Q Q (fM (ni 0 Q ak Bh) Q Q Q Q (aQ.bind fun vP KY => (bZ (LT.bU (enc:=aC) Q dG KY dQ) Q Q Q Q (ax (LT.dJ Q ak) Q Q Q (aQ.bind fun aOt aLP => (bZ (LT.quo Q (yZ aLP)) Q Q Q Q (ax (LT.neg Q) Q Q Q (aQ.bind fun UG QO => (mF (LT.jH Q Q dG QO) Q Q Q Q Q (lQ (qI 0 (.c (iC (aA (-(aA (Int.tdiv (aA (pU * iM.2.1)) vP)))))) (aA (-(aA (Int.tdiv (aA (pU * iM.2.1)) vP)))) Q Q pX dQ QO) Q Q Q Q Q ?_)))))))))))
       refine dm (aB.blk (en [(1,Iv columns),(5,Cc (lo 21 iM.2.2.1.length)),(6,Cc (lo 23 iM.2.2.2.1.length)),(7,Cc (lo 24 iM.2.2.2.2.length)),(8,Iv iM.1),(9,Iv iM.2.1),(13,Cc (lo 28 kC.2.length)),(14,Iv kC.1)] [(21,pR 28 (bG true) iM.2.2.1),(23,pR 28 (bG true) iM.2.2.2.1),(24,pR 3 aC iM.2.2.2.2),(28,pR 3 aC (kC.2.set Js.toNat (aA (-(aA (Int.tdiv (aA (pU * iM.2.1)) vP))))))] z8 z4 (Wr (aH (Iv kC.1) y4 (af LT.add aU (aJ (Iv (aA (kC.1 + 1))) y4 (On (aB.nil ⟨Q,aY.of ⟨Q,Q,Q,Q,Q,Q,congrArg (fun l1 => (some (AV.s (.c (lo 28 l1))):Option AV)) (show kC.2.length = (kC.2.set Js.toNat (aA (-(aA (Int.tdiv (aA (pU * iM.2.1)) vP))))).length by simp only [List.length_set]),Q,J⟩ z4⟩))))))))
      ·refine eu y2 z6 z4
     ·refine Wr (aH (Cc (lo 21 lZ.2.1.length)) y4 (aH (Cc (lo 28 lZ.2.2.2.2.length)) y4 (aS fun EU aKi => (aT.step (cF [.c (lo 28 lZ.2.2.2.2.length)] [(28,pR 3 aC lZ.2.2.2.2)] (Fw.Fn.ren [(0,30)] (aGI lZ.2.2.2.2 EU aKi) Q) aCO (.cons (.c (.eU Q Q)) .nil) J y3) z2 z1 Q Q (aT.ent (aY.H6 (enc:=aC) 116 30 hU Q Q Q Q) (pV (gu 31 (bG true) [(0,.tmp 116,.c (xT aC EU))] [EU] jR oH y7) Q Q Q (aS fun aOu aLQ => (qM (LT.pK (enc:=(bG true)) Q Q Q jR oH Q (by decide) (by decide) (fun _ => Q) (kU aLQ)) Q Q Q Q Q Q (aJ (Cc (lo 21 ((lZ.2.1 ++ [EU]).length))) y4 (On (aB.blk ?_)))))))))))
      refine en [(1,Iv columns),(5,Cc (lo 21 ((lZ.2.1 ++ [EU]).length))),(6,Cc (lo 23 lZ.2.2.1.length)),(7,Cc (lo 24 lZ.2.2.2.1.length)),(8,Iv lZ.1)] [(21,pR 28 (bG true) (lZ.2.1 ++ [EU])),(23,pR 28 (bG true) lZ.2.2.1),(24,pR 3 aC lZ.2.2.2.1)] z5 z3 (Wr (aH (Iv lZ.1) y4 (af LT.add aU (aJ (Iv (aA (lZ.1 + 1))) y4 (On (aV Q z5 z3))))))
  ·refine eu y2 z1 z1
 ·refine Ws (Wr ?_)
  refine aH (Cc (lo 21 zk.length)) y4 (aJ (Cc (lo 21 zk.length)) y4 (On (en [(4,Cc (lo 21 zk.length))] [(21,pR 28 (bG true) zk)] z1 z1 (aB.ent (aY.mv 21 0 Q Q) (en [(4,Cc (lo 0 zk.length))] [(0,pR 28 (bG true) zk)] z1 z1 (bT z1 z1 ⟨J,J⟩ ⟨cZ.fA Am,J⟩))))))
theorem aGK (f:ah):FT Tryz.prog (NZ f) 103 [.agg (aj f)] [] (fun (t:(List (List Int))) => [.c (lo 0 t.length)]) (fun (t:(List (List Int))) => [(0,pR 28 (bG true) t)]) [0]:=by
 refine FT.of [] Tryz.func103 Tryz.ntmps103 Q y2 ?_
 intro w0 U0 R0 g0
 unfold NZ
 refine Ws (Wr ?_)
 refine gy 21 (.agg (aj f)) dS y5 (aJ (Cc (sC aX)) aZ (On (Ws (Ws ?_))))
 refine aB.eX (fun j3 => ([(1,Cc (.pl 21 0)),(12,Bv j3)],[(21,.row 46 [aj f])])) ?_ (fun j3 _ => ?_)
 ·refine Wr (bV (bQ (aj f) Q gY fF dS) Q Q Q Q (aS fun r4 hr4 => (iD [.agg (aj f)] (Gt f r4 hr4) E8 (mV y3) y5 z2 (aW (LT.not Q) Q Q Q (aH (Bv (!r4)) y4 (aT.split (fun hb5 => ?_) (fun hb5 => ?_)))))))
  ·refine aK hb5 y5 (aK hb5 y5 (aK hb5 y5 (aK hb5 y5 (aK hb5 y5 (dD (Bv true) hb5 aU (On (aV Q z2 z1)))))))
  ·refine aW (LT.dR Q jW) Q (gH hb5 Q Q) Q (jd (xF aP f.Graph.aF) iO jC hb5 iJ (aW (LT.fG Q jE) Q (gH hb5 Q Q) Q (fB LT.eql hb5 iT (dA (Bv ((f.Graph.aF.length:Int) == 0)) hb5 y5 (On (aV Q z2 z1))))))
 ·refine aB.cond Q (fun hc6 => ?_) (fun hc6 => ?_)
  ·refine Ws (Wr ?_)
   refine jo (gu 23 (bG true) [] ([]:List (List Int)) jR oH y7) Q Q (aJ (Cc (lo 23 (([]:List (List Int)).length))) y4 (On (en [(2,Cc (lo 23 (([]:List (List Int)).length)))] [(23,pR 28 (bG true) ([]:List (List Int)))] z1 z1 (aB.ent (aY.mv 23 0 Q Q) (en [(2,Cc (lo 0 (([]:List (List Int)).length)))] [(0,pR 28 (bG true) ([]:List (List Int)))] z1 z1 (bT z1 z1 ⟨J,J⟩ ⟨cZ.fA Am,J⟩))))))
  ·refine aB.skip (Ws (aB.draw mixed ?_))
   refine fM (bQ (aj f) Q gY fF dS) Q Q Q Q (aQ.bind fun r7 lH => (aQ.step (dK [.agg (aj f)] (Fw.Fn.ren [(0,25),(1,26)] (aPt f r7 lH) Q) aHV (mV y3) J y3) z2 J Q Q (ax (LT.dR Q jW) Q Q Q (dh (xF aP f.Graph.aF) iO jC bK (ax (LT.fG Q jE) Q Q Q (aQ.bind fun r8 Ac => (aQ.step (cF [.c (lo 25 r7.length),.c (iC (f.Graph.aF.length:Int))] [(25,.bf 28 26 (bP r7)),(26,.pool 3 (rowsOf aC r7))] (Fw.Fn.ren [(0,28)] (aGU r7 (f.Graph.aF.length:Int) r8 Ac) Q) aCI (.cons (.c (.Tv Q Q Q (fun _ => Q))) (.cons (.c (.same Q)) .nil)) J y3) z3 z2 Q Q (ax (LT.assign (v:=(Cc (lo 28 r8.length))) Q) Q Q Q (dm (en [(2,Cc (lo 28 r8.length))] [(28,pR 28 (bG true) r8)] z1 z1 ?_))))))))))
   refine aB.ent (aY.mv 28 0 Q Q) (en [(2,Cc (lo 0 r8.length))] [(0,pR 28 (bG true) r8)] z1 z1 (bT z1 z1 ⟨J,J⟩ ⟨cZ.fA Am,J⟩))
theorem aPv (l:(List (List Int))) (n:Int):FT Tryz.prog (SI l n) 102 [.c (xF (bG false) l),.c (iC n)] [] (fun (t:(List (List Int))) => [.c (lo 0 t.length)]) (fun (t:(List (List Int))) => [(0,pR 28 (bG true) t)]) [0]:=by
 refine FT.xK [] Tryz.func102 Tryz.ntmps102 Q y2 ?_
 intro w0 U0 R0 g0 hU
 unfold SI
 refine Ws (Wr ?_)
 refine aJ (Cc (sC aX)) aZ (On (Ws (Wr ?_)))
 refine aH (Iv n) y4 (aS fun u1 hu1 => (G7 (LT.Ji (n:=21) (enc:=aC) (zc:=[iC 0]) (0:Int) Q dO iL Q Q Q (by decide) (by decide) (FV hu1) Q) Q Q Q Q (aT.ent (aY.H6 (enc:=aC) 13 21 hU Q Q Q Q) (pV (gu 22 (bG true) [(0,.tmp 13,.c (xT aC (List.replicate n.toNat (0:Int))))] [List.replicate n.toNat (0:Int)] jR oH y7) Q Q Q (aJ (Cc (lo 22 ([List.replicate n.toNat (0:Int)].length))) y4 (On (Ws (Ws (Wr ?_)))))))))
 refine aJ (Iv 0) aZ (On (aB.block ?_))
 refine aB.jM (id:=0) (JH l n) (fun s2 => ([(0,Cc (xF (bG false) l)),(1,Iv n),(5,Cc (lo 22 s2.2.length)),(6,Iv s2.1)],[(22,pR 28 (bG true) s2.2)])) (fun zl => ([(5,Cc (lo 22 zl.length))],[(22,pR 28 (bG true) zl)])) ?_ (aY.of z4 z1) Q (fun zl _ => ?_)
 ·intro s2
  unfold JH
  refine Ws (Ws ?_)
  refine aB.eX (fun Vw => ([(0,Cc (xF (bG false) l)),(1,Iv n),(5,Cc (lo 22 s2.2.length)),(6,Iv s2.1),(22,Bv Vw)],[(22,pR 28 (bG true) s2.2)])) ?_ (fun Vw _ => ?_)
  ·refine Wr (aH (Iv s2.1) y4 (aH (Cc (xF (bG false) l)) y4 (aW (LT.fG Q jR) Q Q Q (af LT.lss y5 (aH (Bv (decide (s2.1 < (l.length:Int)))) y4 (aT.split (fun IK => ?_) (fun IK => ?_)))))))
   ·refine dB (Iv s2.1) IK y5 (fB LT.lss IK iT (dD (Bv (decide (s2.1 < 3))) IK y5 (On (aV Q z5 z1))))
   ·refine aK IK y5 (aK IK y5 (dA (Bv false) IK aU (On (aV Q z5 z1))))
  ·refine aB.cond Q (fun hc159 => ?_) (fun hc159 => ?_)
   ·refine aB.skip (Ws (aB.block (Ws (Wr ?_))))
    refine jo (gu 23 (bG true) [] ([]:List (List Int)) jR oH y7) Q Q (aJ (Cc (lo 23 (([]:List (List Int)).length))) y4 (On (Ws (Ws (Wr ?_)))))
    refine aJ (Iv 0) aZ (On (aB.block ?_))
    refine aB.jM (id:=2) (Ns l n) (fun kC => ([(0,Cc (xF (bG false) l)),(1,Iv n),(5,Cc (lo 22 kC.2.2.1.length)),(6,Iv kC.1),(7,Cc (lo 23 kC.2.2.2.length)),(8,Iv kC.2.1)],[(22,pR 28 (bG true) kC.2.2.1),(23,pR 28 (bG true) kC.2.2.2)])) (fun wY => ([(0,Cc (xF (bG false) l)),(1,Iv n),(6,Iv wY.1),(7,Cc (lo 23 wY.2.length))],[(23,pR 28 (bG true) wY.2)])) ?_ (aY.of z6 z2) Q (fun wY _ => ?_)
    ·intro kC
     unfold Ns
     refine Ws (Ws (Wr ?_))
     refine aH (Iv kC.2.1) y4 (aH (Cc (lo 22 kC.2.2.1.length)) y4 (aW (LT.lC Q jR) Q Q Q (af LT.lss y5 (On (aB.cond Q (fun aJX => ?_) (fun aJX => ?_))))))
     ·refine aB.skip (Ws (aB.block (Ws (Wr ?_))))
      refine aJ (Iv (-2)) aZ (On (aB.block ?_))
      refine aB.jM (id:=4) (Nu l n) (fun jZ => ([(0,Cc (xF (bG false) l)),(1,Iv n),(5,Cc (lo 22 jZ.2.2.2.1.length)),(6,Iv jZ.1),(7,Cc (lo 23 jZ.2.2.2.2.length)),(8,Iv jZ.2.1),(9,Iv jZ.2.2.1)],[(22,pR 28 (bG true) jZ.2.2.2.1),(23,pR 28 (bG true) jZ.2.2.2.2)])) (fun wZ => ([(0,Cc (xF (bG false) l)),(1,Iv n),(5,Cc (lo 22 wZ.2.2.1.length)),(6,Iv wZ.1),(7,Cc (lo 23 wZ.2.2.2.length)),(8,Iv wZ.2.1)],[(22,pR 28 (bG true) wZ.2.2.1),(23,pR 28 (bG true) wZ.2.2.2)])) ?_ (aY.of z7 z2) Q (fun wZ _ => ?_)
      ·intro jZ
       unfold Nu
       refine Ws (Ws (Wr ?_))
       refine aH (Iv jZ.2.2.1) y4 (af LT.leq aU (On (aB.cond Q (fun aJb => ?_) (fun aJb => ?_))))
       ·refine aB.skip (Ws (aB.block (Ws (Wr ?_))))
        refine jo (gu 24 aC [] [] dO iL y7) Q Q (aJ (Cc (lo 24 (([]:List Int).length))) y4 (On (Ws (Ws (Wr ?_)))))
        refine aJ (Iv 0) aZ (On (aB.block ?_))
        refine aB.jM (id:=6) (JI l n jZ) (fun rQ => ([(0,Cc (xF (bG false) l)),(1,Iv n),(5,Cc (lo 22 jZ.2.2.2.1.length)),(6,Iv jZ.1),(7,Cc (lo 23 jZ.2.2.2.2.length)),(8,Iv jZ.2.1),(9,Iv jZ.2.2.1),(10,Cc (lo 24 rQ.2.length)),(11,Iv rQ.1)],[(22,pR 28 (bG true) jZ.2.2.2.1),(23,pR 28 (bG true) jZ.2.2.2.2),(24,pR 3 aC rQ.2)])) (fun o7 => ([(0,Cc (xF (bG false) l)),(1,Iv n),(5,Cc (lo 22 o7.2.2.2.1.length)),(6,Iv o7.1),(7,Cc (lo 23 o7.2.2.2.2.1.length)),(8,Iv o7.2.1),(9,Iv o7.2.2.1),(10,Cc (lo 24 o7.2.2.2.2.2.length))],[(22,pR 28 (bG true) o7.2.2.2.1),(23,pR 28 (bG true) o7.2.2.2.2.1),(24,pR 3 aC o7.2.2.2.2.2)])) ?_ (aY.of z9 z3) Q (fun o7 _ => ?_)
        ·intro rQ
         unfold JI
         refine Ws (Ws (Wr ?_))
         refine aH (Iv rQ.1) y4 (aH (Iv n) y4 (af LT.lss y5 (On (aB.cond Q (fun aJc => ?_) (fun aJc => ?_)))))
         ·refine aB.skip (Ws (aB.block (aB.draw mixed ?_)))
          refine ay (Cc (lo 24 rQ.2.length)) y4 (ay (Cc (lo 22 jZ.2.2.2.1.length)) y4 (ay (Iv jZ.2.1) y4 (aQ.bind fun aGj aDi => (mF (LT.jH Q Q jw aDi) Q Q Q Q Q (fM (ni 0 Q fP aDi) Q Q Q Q (ay (Iv rQ.1) y4 (aQ.bind fun Gx aMC => (bZ (LT.bU (enc:=aC) Q dG aMC dQ) Q Q Q Q (ax (LT.dJ Q ak) Q Q Q (ay (Iv jZ.2.2.1) y4 (ay (Cc (xF (bG false) l)) y4 ?_)))))))))))
          refine ay (Iv jZ.1) y4 (aQ.bind fun aGk aMD => (bZ (LT.bU (enc:=(bG false)) Q jw aMD uU) Q Q Q Q (ax (LT.dJ Q fP) Q Q Q (ay (Iv rQ.1) y4 (aQ.bind fun Gy aME => (bZ (LT.bU (enc:=aC) Q dG aME dQ) Q Q Q Q (ax (LT.dJ Q ak) Q Q Q (dV LT.mul y5 (dV LT.add y5 (G5 (gu 25 aC [(0,.tmp 59,.c (iC (aA (Gx + (aA (jZ.2.2.1 * Gy))))))] ([aA (Gx + (aA (jZ.2.2.1 * Gy)))]:List Int) dO iL y7) Q Q Q (aQ.bind fun aOy aLX => ?_)))))))))))
          refine Jz (LT.pK (enc:=aC) Q Q Q dO iL Q (by decide) (by decide) (fun _ => Q) (kU aLX)) Q Q Q Q Q Q (ax (LT.assign (v:=(Cc (lo 24 ((rQ.2 ++ ([aA (Gx + (aA (jZ.2.2.1 * Gy)))]:List Int)).length)))) Q) Q Q Q (dm (aB.blk (en [(0,Cc (xF (bG false) l)),(1,Iv n),(5,Cc (lo 22 jZ.2.2.2.1.length)),(6,Iv jZ.1),(7,Cc (lo 23 jZ.2.2.2.2.length)),(8,Iv jZ.2.1),(9,Iv jZ.2.2.1),(10,Cc (lo 24 ((rQ.2 ++ ([aA (Gx + (aA (jZ.2.2.1 * Gy)))]:List Int)).length))),(11,Iv rQ.1)] [(22,pR 28 (bG true) jZ.2.2.2.1),(23,pR 28 (bG true) jZ.2.2.2.2),(24,pR 3 aC (rQ.2 ++ ([aA (Gx + (aA (jZ.2.2.1 * Gy)))]:List Int)))] z9 z3 (Wr (aH (Iv rQ.1) y4 (af LT.add aU (aJ (Iv (aA (rQ.1 + 1))) y4 (On (aV Q z9 z3))))))))))
         ·refine eu y2 z8 z3
        ·refine Wr (aH (Cc (lo 23 o7.2.2.2.2.1.length)) y4 (aH (Cc (lo 24 o7.2.2.2.2.2.length)) y4 (aT.ent (aY.H6 (enc:=aC) 63 24 hU Q Q Q Q) (pV (gu 26 (bG true) [(0,.tmp 63,.c (xT aC o7.2.2.2.2.2))] [o7.2.2.2.2.2] jR oH y7) Q Q Q (aS fun aOz aLY => (qM (LT.pK (enc:=(bG true)) Q Q Q jR oH Q (by decide) (by decide) (fun _ => Q) (kU aLY)) Q Q Q Q Q Q (aJ (Cc (lo 23 ((o7.2.2.2.2.1 ++ [o7.2.2.2.2.2]).length))) y4 (On (aB.blk (Wr ?_))))))))))
         refine aH (Iv o7.2.2.1) y4 (af LT.add aU (aJ (Iv (aA (o7.2.2.1 + 1))) y4 (On (aV Q z7 z2))))
       ·refine eu y2 z6 z2
      ·refine aB.blk (Wr ?_)
       refine aH (Iv wZ.2.1) y4 (af LT.add aU (aJ (Iv (aA (wZ.2.1 + 1))) y4 (On (aV Q z6 z2))))
     ·refine eu y2 z4 z1
    ·refine Wr (aH (Cc (lo 23 wY.2.length)) y4 (aJ (Cc (lo 23 wY.2.length)) y4 (On (aB.blk (Wr ?_)))))
     refine aH (Iv wY.1) y4 (af LT.add aU (aJ (Iv (aA (wY.1 + 1))) y4 (On (en [(0,Cc (xF (bG false) l)),(1,Iv n),(5,Cc (lo 23 wY.2.length)),(6,Iv (aA (wY.1 + 1)))] [(23,pR 28 (bG true) wY.2)] z4 z1 (aB.ent (aY.mv 23 22 Q Q) (aV Q z4 z1))))))
   ·refine eu y2 z1 z1
 ·refine Ws (Wr ?_)
  refine aH (Cc (lo 22 zl.length)) y4 (aJ (Cc (lo 22 zl.length)) y4 (On (en [(4,Cc (lo 22 zl.length))] [(22,pR 28 (bG true) zl)] z1 z1 (aB.ent (aY.mv 22 0 Q Q) (en [(4,Cc (lo 0 zl.length))] [(0,pR 28 (bG true) zl)] z1 z1 (bT z1 z1 ⟨J,J⟩ ⟨cZ.fA Am,J⟩))))))
theorem aBL (f:ah) (w:(List Int)):FT Tryz.prog (JF f w) 158 [.agg (aj f),.c (xF aC w)] [] (fun (t:Bool) => [.c (bC t)]) (fun (t:Bool) => []) []:=by
 refine FT.of [] Tryz.func158 Tryz.ntmps158 Q y2 ?_
 intro w0 U0 R0 g0
 unfold JF
 refine Ws (Wr ?_)
 refine gy 21 (.agg (aj f)) dS y5 (aJ (Bv false) aZ (On (Ws (Ws (Wr ?_)))))
 refine aJ (Iv 0) aZ (On (aB.block ?_))
 refine aB.lD (id:=0) (JG w) (fun s1 => ([(1,Cc (xF aC w)),(2,Cc (.pl 21 0)),(5,Iv s1)],[(21,.row 46 [aj f])])) (fun b10 => ([(1,Cc (xF aC w)),(2,Cc (.pl 21 0))],[(21,.row 46 [aj f])])) (ja Tryz.prog Tryz.f158.results.toList [] [] (fun (t:Bool) => [.c (bC t)]) (fun (t:Bool) => [])) ?_ (aY.of z3 z1) Q (fun b10 _ => ?_) lK
 ·intro s1
  unfold JG
  refine Ws (Ws (Wr ?_))
  refine aH (Iv s1) y4 (aH (Cc (xF aC w)) y4 (aW (LT.fG Q dO) Q Q Q (af LT.lss y5 (On (aB.cond Q (fun sG => ?_) (fun sG => ?_))))))
  ·refine aB.skip (Ws (aB.block (Ws (Wr ?_))))
   refine aH (Cc (xF aC w)) y4 (aH (Iv s1) y4 (aS fun x12 wO => (bg (LT.bU (enc:=aC) Q dG wO dQ) Q Q Q Q (aW (LT.dJ Q ak) Q Q Q (aS fun r13 uF => (iD [.c (iC x12),.c (iC (-10000000000)),.c (iC 10000000000)] (DF x12 (-10000000000) 10000000000 r13 uF) BN (vK y3) y5 ⟨Q,Q,y2,y2,J⟩ (aW (LT.not Q) Q Q Q (On (aB.cond Q (fun yS => ?_) (fun yS => ?_))))))))))
   ·refine Ws (Wr ?_)
    refine aJ (Bv false) aZ (On (aB.ret ⟨Q,kz z1 J ⟨au.sc,J⟩ J⟩))
   ·refine aB.skip (aB.blk (Wr ?_))
    refine aH (Iv s1) y4 (af LT.add aU (aJ (Iv (aA (s1 + 1))) y4 (On (aV Q z3 z1))))
  ·refine eu y2 z2 z1
 ·refine Ws (aB.eX (fun j17 => ([(4,Bv j17)],[])) ?_ (fun j17 _ => ?_))
  ·refine Wr (bV (bQ (aj f) Q gY fF dS) Q Q Q Q (aS fun jk Aa => (iD [.agg (aj f)] (Gt f jk Aa) E8 (mV y3) y5 z2 (aH (Bv jk) y4 (aT.split (fun iH => ?_) (fun iH => ?_))))))
   ·refine dB (Cc (xF aC w)) iH y5 (aW (LT.fG Q dO) Q (gH iH Q Q) Q (aW (LT.dR Q jW) Q (gH iH Q Q) Q (jd (xF aP f.Graph.aF) iO jC iH iJ (aW (LT.fG Q jE) Q (gH iH Q Q) Q (fB LT.eql iH y6 (dD (Bv ((w.length:Int) == (f.Graph.aF.length:Int))) iH y5 (aJ (Bv ((w.length:Int) == (f.Graph.aF.length:Int))) y4 (On (aV Q z1 J)))))))))
   ·refine aK iH y5 (aK iH y5 (aK iH y5 (aK iH y5 (aK iH y5 (aK iH y5 (aK iH y5 (dA (Bv false) iH aU (aJ (Bv false) y4 (On (aV Q z1 J))))))))))
  ·refine bT z1 J ⟨au.sc,J⟩ J
theorem aPi (f:ah) (w:(List Int)) (v:Int):FT Tryz.prog (Rj f w v) 159 [.agg (aj f),.c (xF aC w),.c (iC v)] [] (fun (t:(Int × Int)) => [.c (iC t.1),.c (iC t.2)]) (fun (t:(Int × Int)) => []) []:=by
 refine FT.of [] Tryz.func159 Tryz.ntmps159 Q y2 ?_
 intro w0 U0 R0 g0
 unfold Rj
 refine Ws (Wr ?_)
 refine gy 21 (.agg (aj f)) dS y5 (aJ (Iv 0) aZ (aJ (Iv 0) aZ (On (Ws (Wr ?_)))))
 refine aJ (Iv 0) aZ (On (Ws (Wr ?_)))
 refine aJ (Iv 0) aZ (On (Ws (Ws (Wr ?_))))
 refine aJ (Iv 0) aZ (On (aB.block ?_))
 refine aB.jM (id:=0) (NH f w v) (fun s1 => ([(1,Cc (xF aC w)),(2,Iv v),(3,Cc (.pl 21 0)),(8,Iv s1.1),(9,Iv s1.2.1),(10,Iv s1.2.2)],[(21,.row 46 [aj f])])) (fun yD => ([(8,Iv yD.1),(9,Iv yD.2)],[])) ?_ (aY.of z6 z1) Q (fun yD _ => ?_)
 ·intro s1
  unfold NH
  refine Ws (Ws ?_)
  refine aB.eX (fun j59 => ([(1,Cc (xF aC w)),(2,Iv v),(3,Cc (.pl 21 0)),(8,Iv s1.1),(9,Iv s1.2.1),(10,Iv s1.2.2),(21,Bv j59)],[(21,.row 46 [aj f])])) ?_ (fun j59 _ => ?_)
  ·refine Wr (aH (Iv s1.2.2) y4 (aH (Cc (xF aC w)) y4 (aW (LT.fG Q dO) Q Q Q (af LT.lss y5 (aH (Bv (decide (s1.2.2 < (w.length:Int)))) y4 (aT.split (fun qw => ?_) (fun qw => ?_)))))))
   ·refine bV (bQ (aj f) Q gY fF dS) Q Q (gH qw Q Q) Q (dB (Cc (xF aC w)) qw y5 (aS fun Wx aKy => (aT.pure (dK [.agg (aj f),.c (xF aC w)] (aBL f w Wx aKy) YC (vM y4) J y3) z3 J (gH qw Q Q) Q (dD (Bv Wx) qw y5 (On (aV Q z7 z1))))))
   ·refine aK qw y5 (aK qw y5 (aK qw y5 (dA (Bv false) qw aU (On (aV Q z7 z1)))))
  ·refine aB.cond Q (fun aJl => ?_) (fun aJl => ?_)
   ·refine aB.skip (Ws (aB.block (Ws (Wr ?_))))
    refine aW (LT.dR Q jW) Q Q Q (fC (xF aP f.Graph.aF) iO jC bK (aH (Iv s1.2.2) y4 (aS fun qZ Zt => (bg (LT.bU (enc:=aP) Q qP Zt fU) Q Q Q Q (aW (kJ Q lX je fU) Q Q Q (iF 23 [iC 0,iC 0] jh y6 (dZ (stA [iC qZ.A,iC qZ.B] Q Q je fU) Q Q Q Q Q (On (Ws ?_)))))))))
    refine aB.eX (fun j65 => ([(1,Cc (xF aC w)),(2,Iv v),(3,Cc (.pl 21 0)),(8,Iv s1.1),(9,Iv s1.2.1),(10,Iv s1.2.2),(11,Cc (.pl 23 0)),(39,Bv j65)],[(21,.row 46 [aj f]),(23,.row 40 [[iC qZ.A,iC qZ.B]])])) ?_ (fun j65 _ => ?_)
    ·refine en [(1,Cc (xF aC w)),(2,Iv v),(3,Cc (.pl 21 0)),(8,Iv s1.1),(9,Iv s1.2.1),(10,Iv s1.2.2),(11,Cc (.pl 23 0))] [(21,.row 46 [aj f]),(23,.row 40 [[iC qZ.A,iC qZ.B]])] z7 z2 (Wr (fC (iC qZ.A) nS ak bK (aH (Iv v) y4 (af LT.eql y5 (aH (Bv (qZ.A == v)) y4 (aT.split (fun BZ => ?_) (fun BZ => ?_)))))))
     ·refine aK BZ y5 (aK BZ y5 (aK BZ y5 (aK BZ y5 (dD (Bv true) BZ aU (On (aV Q z8 z2))))))
     ·refine jd (iC qZ.B) oZ ak BZ iJ (dB (Iv v) BZ y5 (fB LT.eql BZ y6 (dA (Bv (qZ.B == v)) BZ y5 (On (aV Q z8 z2)))))
    ·refine aB.eX (fun j75 => ([(1,Cc (xF aC w)),(2,Iv v),(3,Cc (.pl 21 0)),(8,Iv j75.1),(9,Iv j75.2),(10,Iv s1.2.2)],[(21,.row 46 [aj f])])) ?_ (fun j75 _ => ?_)
     ·refine aB.cond Q (fun aJq => ?_) (fun aJq => ?_)
      ·refine Ws (Wr ?_)
       refine bV (bQ [iC qZ.A,iC qZ.B] Q lX je fU) Q Q Q Q (aH (Iv v) y4 (aS fun GY aK5 => (iD [.agg [iC qZ.A,iC qZ.B],.c (iC v)] (aPx qZ v GY aK5) aHj (Ov y3) y5 z3 (aJ (Iv GY) y4 (On (Ws (aB.draw mixed ?_)))))))
       refine ay (Iv s1.1) y4 (ay (Cc (xF aC w)) y4 (ay (Iv s1.2.2) y4 (aQ.bind fun qc Ik => (bZ (LT.bU (enc:=aC) Q dG Ik dQ) Q Q Q Q (ax (LT.dJ Q ak) Q Q Q (dh (xF aO f.Places) iR iV bK (ay (Iv v) y4 (aQ.bind fun zf Zv => (bZ (LT.bU (enc:=aO) Q jU Zv fE) Q Q Q Q (ax (LT.oW Q qC) Q Q Q ?_))))))))))
       refine ax (LT.dJ Q ak) Q Q Q (dh (xF aO f.Places) iR iV bK (ay (Iv GY) y4 (aQ.bind fun x80 aMN => (bZ (LT.bU (enc:=aO) Q jU aMN fE) Q Q Q Q (ax (LT.oW Q qC) Q Q Q (ax (LT.dJ Q ak) Q Q Q (dV LT.sub y5 (dV LT.mul y5 (dV LT.add y5 (ax (LT.assign (v:=(Iv (aA (s1.1 + (aA (qc * (aA (zf.X - x80.X)))))))) Q) Q Q Q ?_))))))))))
       refine dm (en [(1,Cc (xF aC w)),(2,Iv v),(3,Cc (.pl 21 0)),(8,Iv (aA (s1.1 + (aA (qc * (aA (zf.X - x80.X))))))),(9,Iv s1.2.1),(10,Iv s1.2.2),(12,Iv GY)] [(21,.row 46 [aj f])] z7 z1 (aB.draw mixed (ay (Iv s1.2.1) y4 (ay (Cc (xF aC w)) y4 (ay (Iv s1.2.2) y4 (aQ.bind fun x81 aMO => (bZ (LT.bU (enc:=aC) Q dG aMO dQ) Q Q Q Q (ax (LT.dJ Q ak) Q Q Q (dh (xF aO f.Places) iR iV bK (ay (Iv v) y4 ?_))))))))))
       refine aQ.bind fun x82 aMP => (bZ (LT.bU (enc:=aO) Q jU aMP fE) Q Q Q Q (ax (LT.oW Q qQ) Q Q Q (ax (LT.dJ Q ak) Q Q Q (dh (xF aO f.Places) iR iV bK (ay (Iv GY) y4 (aQ.bind fun x83 Zw => (bZ (LT.bU (enc:=aO) Q jU Zw fE) Q Q Q Q (ax (LT.oW Q qQ) Q Q Q (ax (LT.dJ Q ak) Q Q Q (dV LT.sub y5 ?_))))))))))
       refine dV LT.mul y5 (dV LT.add y5 (ax (LT.assign (v:=(Iv (aA (s1.2.1 + (aA (x81 * (aA (x82.Y - x83.Y)))))))) Q) Q Q Q (dm (aV Q z6 z1))))
      ·refine aB.skip (aV Q z6 z1)
     ·refine aB.blk (Wr ?_)
      refine aH (Iv s1.2.2) y4 (af LT.add aU (aJ (Iv (aA (s1.2.2 + 1))) y4 (On (aV Q z6 z1))))
   ·refine eu y2 z2 J
 ·refine Ws (Wr ?_)
  refine aH (Iv yD.1) y4 (aH (Iv yD.2) y4 (aJ (Iv yD.1) y4 (aJ (Iv yD.2) y4 (On (bT z2 J ⟨au.sc,au.sc,J⟩ J)))))
theorem aPm (f:ah) (w:(List Int)):FT Tryz.prog (Ru f w) 113 [.agg (aj f),.c (xF aC w)] [] (fun (t:Bool) => [.c (bC t)]) (fun (t:Bool) => []) []:=by
 refine FT.of [] Tryz.func113 Tryz.ntmps113 Q y2 ?_
 intro w0 U0 R0 g0
 unfold Ru
 refine Ws (Wr ?_)
 refine gy 21 (.agg (aj f)) dS y5 (aJ (Bv false) aZ (On (Ws (Ws (Wr ?_)))))
 refine aJ (Iv 0) aZ (On (aB.block ?_))
 refine aB.lD (id:=0) (Fj f w) (fun s1 => ([(1,Cc (xF aC w)),(2,Cc (.pl 21 0)),(5,Iv s1)],[(21,.row 46 [aj f])])) (fun fV => ([(1,Cc (xF aC w)),(2,Cc (.pl 21 0))],[(21,.row 46 [aj f])])) (ja Tryz.prog Tryz.f113.results.toList [] [] (fun (t:Bool) => [.c (bC t)]) (fun (t:Bool) => [])) ?_ (aY.of z3 z1) Q (fun fV _ => ?_) lK
 ·intro s1
  unfold Fj
  refine Ws (Ws ?_)
  refine aB.eX (fun j27 => ([(1,Cc (xF aC w)),(2,Cc (.pl 21 0)),(5,Iv s1),(17,Bv j27)],[(21,.row 46 [aj f])])) ?_ (fun j27 _ => ?_)
  ·refine Wr (aH (Iv s1) y4 (aW (LT.dR Q jW) Q Q Q (fC (iC f.Graph.aI) lT ak bK (af LT.lss y5 (aH (Bv (decide (s1 < f.Graph.aI))) y4 (aT.split (fun sF => ?_) (fun sF => ?_)))))))
   ·refine bV (bQ (aj f) Q gY fF dS) Q Q (gH sF Q Q) Q (dB (Cc (xF aC w)) sF y5 (aS fun pI QH => (aT.pure (dK [.agg (aj f),.c (xF aC w)] (aBL f w pI QH) YC (vM y4) J y3) z3 J (gH sF Q Q) Q (dD (Bv pI) sF y5 (On (aV Q z4 z1))))))
   ·refine aK sF y5 (aK sF y5 (aK sF y5 (dA (Bv false) sF aU (On (aV Q z4 z1)))))
  ·refine aB.cond Q (fun Pz => ?_) (fun Pz => ?_)
   ·refine aB.skip (Ws (aB.block (Ws (Wr ?_))))
    refine bV (bQ (aj f) Q gY fF dS) Q Q Q Q (aH (Cc (xF aC w)) y4 (aH (Iv s1) y4 (aS fun qW ZO => (iD [.agg (aj f),.c (xF aC w),.c (iC s1)] (aPi f w s1 qW ZO) aHX (aFO y5) y5 z4 (aH (.eH [.c (iC qW.1),.c (iC qW.2)]) y4 (jQ (.c (iC qW.1)) y5 (jQ (.c (iC qW.2)) y5 (aJ (Iv qW.1) y4 (aJ (Iv qW.2) y4 (On (Ws ?_)))))))))))
    refine aB.eX (fun j33 => ([(1,Cc (xF aC w)),(2,Cc (.pl 21 0)),(5,Iv s1),(32,Bv j33)],[(21,.row 46 [aj f])])) ?_ (fun j33 _ => ?_)
    ·refine Wr (aH (Iv qW.1) y4 (af LT.neq aU (aH (Bv (qW.1 != 0)) y4 (aT.split (fun IQ => ?_) (fun IQ => ?_)))))
     ·refine aK IQ y5 (aK IQ y5 (dD (Bv true) IQ aU (On (aV Q z4 z1))))
     ·refine dB (Iv qW.2) IQ y5 (fB LT.neq IQ iT (dA (Bv (qW.2 != 0)) IQ y5 (On (aV Q z4 z1))))
    ·refine aB.cond Q (fun Yw => ?_) (fun Yw => ?_)
     ·refine Ws (Wr ?_)
      refine aJ (Bv false) aZ (On (aB.ret ⟨Q,kz z1 J ⟨au.sc,J⟩ J⟩))
     ·refine aB.skip (aB.blk (Wr ?_))
      refine aH (Iv s1) y4 (af LT.add aU (aJ (Iv (aA (s1 + 1))) y4 (On (aV Q z3 z1))))
   ·refine eu y2 z2 z1
 ·refine Ws (Wr ?_)
  refine bV (bQ (aj f) Q gY fF dS) Q Q Q Q (aH (Cc (xF aC w)) y4 (aS fun yt ZR => (iD [.agg (aj f),.c (xF aC w)] (aBL f w yt ZR) YC (vM y4) y5 z3 (aJ (Bv yt) y4 (On (bT z1 J ⟨au.sc,J⟩ J))))))
theorem aGG (tV:bI) (w:(List Int)):FT Tryz.prog (NM tV w) 39 [.agg (eP tV),.c (xF aC w)] [] (fun (t:Bool) => [.c (bC t)]) (fun (t:Bool) => []) []:=by
 refine FT.of [] Tryz.func39 Tryz.ntmps39 Q y2 ?_
 intro w0 U0 R0 g0
 unfold NM
 refine Ws (Wr ?_)
 refine gy 21 (.agg (eP tV)) dP y5 (aJ (Bv false) aZ (On (Ws (Ws ?_))))
 refine aB.eX (fun j4 => ([(1,Cc (xF aC w)),(2,Cc (.pl 21 0)),(15,Bv j4)],[(21,.row 48 [eP tV])])) ?_ (fun j4 _ => ?_)
 ·refine Wr (bV (bQ (eP tV) Q gZ eF dP) Q Q Q Q (aS fun r5 nI => (iD [.agg (eP tV)] (Gu tV r5 nI) E5 (Gg y4) y5 z2 (aW (LT.not Q) Q Q Q (aH (Bv (!r5)) y4 (aT.split (fun hb6 => ?_) (fun hb6 => ?_)))))))
  ·refine aK hb6 y5 (aK hb6 y5 (aK hb6 y5 (aK hb6 y5 (aK hb6 y5 (dD (Bv true) hb6 aU (On (aV Q z3 z1)))))))
  ·refine aW (LT.dR Q mM) Q (gH hb6 Q Q) Q (bV (bQ (aj tV.aG) Q gY fF dS) Q Q (gH hb6 Q Q) Q (dB (Cc (xF aC w)) hb6 y5 (aS fun r7 lH => (aT.pure (dK [.agg (aj tV.aG),.c (xF aC w)] (aPm tV.aG w r7 lH) aHJ (vM y4) J y3) z3 J (gH hb6 Q Q) Q (aW (LT.not Q) Q (gH hb6 Q Q) Q (dA (Bv (!r7)) hb6 y5 (On (aV Q z3 z1))))))))
 ·refine aB.cond Q (fun hc8 => ?_) (fun hc8 => ?_)
  ·refine Ws (Wr ?_)
   refine aJ (Bv false) aZ (On (bT z1 J ⟨au.sc,J⟩ J))
  ·refine aB.skip (Ws (Ws (Wr ?_)))
   refine aJ (Iv 0) aZ (On (aB.block ?_))
   refine aB.lD (id:=0) (NP tV w) (fun s9 => ([(1,Cc (xF aC w)),(2,Cc (.pl 21 0)),(5,Iv s9)],[(21,.row 48 [eP tV])])) (fun yD => ([],[])) (ja Tryz.prog Tryz.f39.results.toList [] [] (fun (t:Bool) => [.c (bC t)]) (fun (t:Bool) => [])) ?_ (aY.of z3 z1) Q (fun yD _ => ?_) lK
   ·intro s9
    unfold NP
    refine Ws (Ws (Wr ?_))
    refine aH (Iv s9) y4 (aH (Cc (xF aC w)) y4 (aW (LT.fG Q dO) Q Q Q (af LT.lss y5 (On (aB.cond Q (fun Y2 => ?_) (fun Y2 => ?_))))))
    ·refine aB.skip (Ws (aB.block (Ws ?_)))
     refine aB.eX (fun j68 => ([(1,Cc (xF aC w)),(2,Cc (.pl 21 0)),(5,Iv s9),(49,Bv j68)],[(21,.row 48 [eP tV])])) ?_ (fun j68 _ => ?_)
     ·refine Wr (fC (xF aC tV.aN) jy fP bK (aH (Iv s9) y4 (aS fun x69 aMI => (bg (LT.bU (enc:=aC) Q dG aMI dQ) Q Q Q Q (aW (LT.dJ Q ak) Q Q Q (af LT.eql aU (aH (Bv (x69 == 1)) y4 (aT.split (fun yQ => ?_) (fun yQ => ?_)))))))))
      ·refine dB (Cc (xF aC w)) yQ y5 (dB (Iv s9) yQ y5 (aS fun Xn aMJ => (bg (LT.bU (enc:=aC) Q dG aMJ dQ) Q Q (gH yQ Q Q) Q (aW (LT.dJ Q ak) Q (gH yQ Q Q) Q (fB LT.lss yQ iT (dD (Bv (decide (Xn < 0))) yQ y5 (aH (Bv (decide (Xn < 0))) y4 (aT.split (fun sZ => ?_) (fun sZ => ?_)))))))))
       ·refine aK sZ y5 (aK sZ y5 (aK sZ y5 (aK sZ y5 (aK sZ y5 (aK sZ y5 (aK sZ y5 (Oj Q Q Q Q (Oj Q Q Q Q (Oj Q Q Q Q (Oj Q Q Q Q (Oj Q Q Q Q ?_)))))))))))
        refine aK sZ y5 (dD (Bv true) sZ aU (On (aV Q z4 z1)))
       ·refine jd (xF aC tV.aN) jy fP sZ iJ (dB (Iv s9) sZ y5 (aS fun x73 aMK => (bg (LT.bU (enc:=aC) Q dG aMK dQ) Q Q (gH sZ Q Q) Q (aW (LT.dJ Q ak) Q (gH sZ Q Q) Q (fB LT.eql sZ iT (dB (Bv (x73 == 2)) sZ y5 (aT.split (fun oO => ?_) (fun oO => ?_))))))))
        ·refine dB (Cc (xF aC w)) oO y5 (dB (Iv s9) oO y5 (aS fun Xo aMM => (bg (LT.bU (enc:=aC) Q dG aMM dQ) Q Q (gH oO Q Q) Q (aW (LT.dJ Q ak) Q (gH oO Q Q) Q (fB LT.gtr oO iT (bg (LT.nY (v:=(Bv (decide (0 < Xo)))) Q oO) Q Q (gH sZ Q Q) Q (dA (Bv (decide (0 < Xo))) sZ y5 (On (aV Q z4 z1)))))))))
        ·refine aK oO y5 (aK oO y5 (aK oO y5 (aK oO y5 (aK oO y5 (bg (LT.oG (v:=(Bv false)) Q oO) Q y2 (gH sZ Q Q) Q (dA (Bv false) sZ y5 (On (aV Q z4 z1))))))))
      ·refine aK yQ y5 (aK yQ y5 (aK yQ y5 (aK yQ y5 (aK yQ y5 (dA (Bv false) yQ aU (aH (Bv false) y4 (aW (LT.dR Q jy) Q (gS Q Q) Q (bV (qx (xF aC tV.aN) Q fP) Q Q (gS Q Q) Q (mv (Iv s9) Q Q (gS Q Q) Q (aS fun oU Qa => (bg (LT.bU (enc:=aC) Q dG Qa dQ) Q Q (gS Q Q) Q ?_)))))))))))
       refine aW (LT.dJ Q ak) Q (gS Q Q) Q (bg (LT.eql Q) Q y2 (gS Q Q) Q (mv (Bv (oU == 2)) Q Q (gS Q Q) Q (aT.split (fun nU => ?_) (fun nU => ?_))))
       ·refine dB (Cc (xF aC w)) nU y5 (dB (Iv s9) nU y5 (aS fun qc Ik => (bg (LT.bU (enc:=aC) Q dG Ik dQ) Q Q (gH nU Q Q) Q (aW (LT.dJ Q ak) Q (gH nU Q Q) Q (fB LT.gtr nU iT (bg (LT.nY (v:=(Bv (decide (0 < qc)))) Q nU) Q Q (gS Q Q) Q (dA (Bv (decide (0 < qc))) Q y5 (On (aV Q z4 z1)))))))))
       ·refine aK nU y5 (aK nU y5 (aK nU y5 (aK nU y5 (aK nU y5 (bg (LT.oG (v:=(Bv false)) Q nU) Q y2 (gS Q Q) Q (dA (Bv false) Q y5 (On (aV Q z4 z1))))))))
     ·refine aB.cond Q (fun aJs => ?_) (fun aJs => ?_)
      ·refine Ws (Wr ?_)
       refine aJ (Bv false) aZ (On (aB.ret ⟨Q,kz z1 J ⟨au.sc,J⟩ J⟩))
      ·refine aB.skip (aB.blk (Wr ?_))
       refine aH (Iv s9) y4 (af LT.add aU (aJ (Iv (aA (s9 + 1))) y4 (On (aV Q z3 z1))))
    ·refine eu y2 J J
   ·refine Ws (Wr ?_)
    refine aJ (Bv true) aZ (On (bT z1 J ⟨au.sc,J⟩ J))
theorem aBG (tV:bI) (w:(List Int)):FT Tryz.prog (EO tV w) 41 [.agg (eP tV),.c (xF aC w)] [] (fun (t:Bool) => [.c (bC t)]) (fun (t:Bool) => []) []:=by
 refine FT.of [] Tryz.func41 Tryz.ntmps41 Q y2 ?_
 intro w0 U0 R0 g0
 unfold EO
 refine Ws (Wr ?_)
 refine gy 21 (.agg (eP tV)) dP y5 (aJ (Bv false) aZ (On (Ws (Ws (Wr ?_)))))
 refine bV (bQ (eP tV) Q gZ eF dP) Q Q Q Q (aH (Cc (xF aC w)) y4 (aS fun r1 hr1 => (iD [.agg (eP tV),.c (xF aC w)] (aGG tV w r1 hr1) aCR (Gh y5) y5 z3 (aW (LT.not Q) Q Q Q (On (aB.cond Q (fun hc2 => ?_) (fun hc2 => ?_)))))))
 ·refine Ws (Wr ?_)
  refine aJ (Bv false) aZ (On (bT z1 J ⟨au.sc,J⟩ J))
 ·refine aB.skip (Ws (Ws (Wr ?_)))
  refine aJ (Iv 0) aZ (On (aB.block ?_))
  refine aB.lD (id:=0) (NQ tV w) (fun s3 => ([(1,Cc (xF aC w)),(2,Cc (.pl 21 0)),(5,Iv s3)],[(21,.row 48 [eP tV])])) (fun b22 => ([],[])) (ja Tryz.prog Tryz.f41.results.toList [] [] (fun (t:Bool) => [.c (bC t)]) (fun (t:Bool) => [])) ?_ (aY.of z3 z1) Q (fun b22 _ => ?_) lK
  ·intro s3
   unfold NQ
   refine Ws (Ws (Wr ?_))
   refine aH (Iv s3) y4 (aH (Cc (xF aC w)) y4 (aW (LT.fG Q dO) Q Q Q (af LT.lss y5 (On (aB.cond Q (fun Py => ?_) (fun Py => ?_))))))
   ·refine aB.skip (Ws (aB.block (Ws ?_)))
    refine aB.eX (fun j27 => ([(1,Cc (xF aC w)),(2,Cc (.pl 21 0)),(5,Iv s3),(28,Bv j27)],[(21,.row 48 [eP tV])])) ?_ (fun j27 _ => ?_)
    ·refine Wr (fC (xF aC tV.aN) jy fP bK (aH (Iv s3) y4 (aS fun x28 hx28 => (bg (LT.bU (enc:=aC) Q dG hx28 dQ) Q Q Q Q (aW (LT.dJ Q ak) Q Q Q (af LT.neq aU (aH (Bv (x28 != 0)) y4 (aT.split (fun yL => ?_) (fun yL => ?_)))))))))
     ·refine dB (Cc (xF aC w)) yL y5 (dB (Iv s3) yL y5 (aS fun x30 KZ => (bg (LT.bU (enc:=aC) Q dG KZ dQ) Q Q (gH yL Q Q) Q (aW (LT.dJ Q ak) Q (gH yL Q Q) Q (fB LT.eql yL iT (dD (Bv (x30 == 0)) yL y5 (On (aV Q z4 z1))))))))
     ·refine aK yL y5 (aK yL y5 (aK yL y5 (aK yL y5 (aK yL y5 (dA (Bv false) yL aU (On (aV Q z4 z1)))))))
    ·refine aB.cond Q (fun hc31 => ?_) (fun hc31 => ?_)
     ·refine Ws (Wr ?_)
      refine aJ (Bv false) aZ (On (aB.ret ⟨Q,kz z1 J ⟨au.sc,J⟩ J⟩))
     ·refine aB.skip (aB.blk (Wr ?_))
      refine aH (Iv s3) y4 (af LT.add aU (aJ (Iv (aA (s3 + 1))) y4 (On (aV Q z3 z1))))
   ·refine eu y2 J J
  ·refine Ws (Wr ?_)
   refine aJ (Bv true) aZ (On (bT z1 J ⟨au.sc,J⟩ J))
theorem aPh (tV:bI):FT Tryz.prog (Ri tV) 31 [.agg (eP tV)] [] (fun (t:((List Int) × Bool)) => [.c (lo 0 t.1.length),.c (bC t.2)]) (fun (t:((List Int) × Bool)) => [(0,pR 3 aC t.1)]) [0]:=by
 refine FT.of [] Tryz.func31 Tryz.ntmps31 Q y2 ?_
 intro w0 U0 R0 g0
 unfold Ri
 refine Ws (Wr ?_)
 refine gy 21 (.agg (eP tV)) dP y5 (aJ (Cc (sC aX)) aZ (aJ (Bv false) aZ (On (Ws (Ws (Wr ?_))))))
 refine bV (bQ (eP tV) Q gZ eF dP) Q Q Q Q (aS fun r1 hr1 => (iD [.agg (eP tV)] (Gu tV r1 hr1) E5 (Gg y4) y5 z2 (aW (LT.not Q) Q Q Q (On (aB.cond Q (fun hc2 => ?_) (fun hc2 => ?_))))))
 ·refine Ws (Wr ?_)
  refine jo (gu 23 aC [] [] dO iL y7) Q Q (aJ (Cc (lo 23 (([]:List Int).length))) y4 (aJ (Bv false) aZ (On (en [(2,Cc (lo 23 (([]:List Int).length))),(3,Bv false)] [(23,pR 3 aC ([]:List Int))] z2 z1 (aB.ent (aY.mv 23 0 Q Q) (en [(2,Cc (lo 0 (([]:List Int).length))),(3,Bv false)] [(0,pR 3 aC ([]:List Int))] z2 z1 (bT z2 z1 ⟨J,au.sc,J⟩ ⟨cZ.fA gQ,J⟩)))))))
 ·refine aB.skip (Ws (aB.draw mixed ?_))
  refine ax (LT.dR Q mM) Q Q Q (fM (bQ (aj tV.aG) Q gY fF dS) Q Q Q Q (aQ.bind fun r3 hr3 => (aQ.step (dK [.agg (aj tV.aG)] (Fw.Fn.ren [(0,25)] (aGK tV.aG r3 hr3) Q) aB4 (mV y3) J y3) z2 J Q Q (dh (xF aC tV.aN) jy fP bK (ax (LT.fG Q dO) Q Q Q (aQ.bind fun r4 hr4 => (aQ.step (cF [.c (lo 25 r3.length),.c (iC (tV.aN.length:Int))] [(25,pR 28 (bG true) r3)] (Fw.Fn.ren [(0,27)] (aPv r3 (tV.aN.length:Int) r4 hr4) Q) aHF (.cons (.c (.weak (.eU (enc:=bG true) Q Q) (QW.fO aAc (fun h => h) _))) (.cons (.c (.same Q)) .nil)) J y3) z3 z1 Q Q (ax (LT.assign (v:=(Cc (lo 27 r4.length))) Q) Q Q Q (dm (Ws (Ws ?_)))))))))))
  refine en [(1,Cc (.pl 21 0)),(4,Cc (lo 27 r4.length))] [(21,.row 48 [eP tV]),(27,pR 28 (bG true) r4)] z2 z2 (Wr (aJ (Iv 0) aZ (On (aB.block ?_))))
  refine aB.lD (id:=0) (NG tV r4) (fun s5 => ([(1,Cc (.pl 21 0)),(4,Cc (lo 27 r4.length)),(5,Iv s5)],[(21,.row 48 [eP tV]),(27,pR 28 (bG true) r4)])) (fun b18 => ([],[])) (ja Tryz.prog Tryz.f31.results.toList [] [0] (fun (t:((List Int) × Bool)) => [.c (lo 0 t.1.length),.c (bC t.2)]) (fun (t:((List Int) × Bool)) => [(0,pR 3 aC t.1)])) ?_ (aY.of z3 z2) Q (fun b18 _ => ?_) lK
  ·intro s5
   unfold NG
   refine Ws (Ws (Wr ?_))
   refine aH (Iv s5) y4 (aH (Cc (lo 27 r4.length)) y4 (aW (LT.lC Q jR) Q Q Q (af LT.lss y5 (On (aB.cond Q (fun hc19 => ?_) (fun hc19 => ?_))))))
   ·refine aB.skip (Ws (aB.block (Ws (aB.draw mixed ?_))))
    refine fM (bQ (eP tV) Q gZ eF dP) Q Q Q Q (ay (Cc (lo 27 r4.length)) y4 (ay (Iv s5) y4 (aQ.bind fun x20 Ad => (mF (LT.jH Q Q jw Ad) Q Q Q Q Q (fM (ni 0 Q fP Ad) Q Q Q Q (aQ.bind fun Jc ZM => (aQ.pure (dK [.agg (eP tV),.c (xT aC x20)] (aBG tV x20 Jc ZM) YI (.cons (.agg (.cons (.same Q) (.cons (.same Q) (.cons (.same Q) (.cons (.same Q) .nil))))) (.cons (.c (.weak (.same Q) (QW.fO pz (fun h => by cases h) _))) .nil)) J y3) z3 J Q Q (dm (aB.cond Q (fun hc22 => ?_) (fun hc22 => ?_))))))))))
    ·refine Ws (Wr ?_)
     refine jo (gu 29 aC [] [] dO iL y7) Q Q (aH (Cc (lo 27 r4.length)) y4 (aH (Iv s5) y4 (aS fun x23 aDd => (jf (LT.jH Q Q jw aDd) Q Q Q Q Q (bV (ni 0 Q fP aDd) Q Q Q Q (aS fun u24 aLS => (dZ (LT.Cj (enc:=aC) Q  Q dO iL Q (by decide) (by decide) (fun _ => Q) (kU aLS)) Q Q Q Q Q (aJ (Cc (lo 29 ((([]:List Int) ++ x23).length))) y4 (aJ (Bv true) aZ (On (en [(2,Cc (lo 29 ((([]:List Int) ++ x23).length))),(3,Bv true)] [(29,pR 3 aC (([]:List Int) ++ x23))] z2 z1 ?_)))))))))))
     refine aB.ent (aY.mv 29 0 Q Q) (en [(2,Cc (lo 0 ((([]:List Int) ++ x23).length))),(3,Bv true)] [(0,pR 3 aC (([]:List Int) ++ x23))] z2 z1 (aB.ret ⟨Q,kz z2 z1 ⟨J,au.sc,J⟩ ⟨cZ.fA gQ,J⟩⟩))
    ·refine aB.skip (aB.blk (Wr ?_))
     refine aH (Iv s5) y4 (af LT.add aU (aJ (Iv (aA (s5 + 1))) y4 (On (aV Q z3 z2))))
   ·refine eu y2 J J
  ·refine Ws (Wr ?_)
   refine jo (gu 30 aC [] [] dO iL y7) Q Q (aJ (Cc (lo 30 (([]:List Int).length))) y4 (aJ (Bv false) aZ (On (en [(2,Cc (lo 30 (([]:List Int).length))),(3,Bv false)] [(30,pR 3 aC ([]:List Int))] z2 z1 (aB.ent (aY.mv 30 0 Q Q) (en [(2,Cc (lo 0 (([]:List Int).length))),(3,Bv false)] [(0,pR 3 aC ([]:List Int))] z2 z1 (bT z2 z1 ⟨J,au.sc,J⟩ ⟨cZ.fA gQ,J⟩)))))))
theorem aF6 (f:ah):FT Tryz.prog (Ir f) 106 [.agg (aj f)] [] (fun (t:(List (List Int))) => [.c (lo 0 t.length)]) (fun (t:(List (List Int))) => [(0,.bf 28 1 (bP t)),(1,.pool 3 (rowsOf aC t))]) [0,1]:=by
 refine FT.of [] Tryz.func106 Tryz.ntmps106 Q y2 ?_
 intro w0 U0 R0 g0
 unfold Ir
 refine Ws (Wr ?_)
 refine gy 21 (.agg (aj f)) dS y5 (aJ (Cc (sC aX)) aZ (On (Ws (Ws (Wr ?_)))))
 refine bV (bQ (aj f) Q gY fF dS) Q Q Q Q (aS fun r1 hr1 => (iD [.agg (aj f)] (Gs f r1 hr1) Ez (mV y3) y5 z2 (aW (LT.not Q) Q Q Q (On (aB.cond Q (fun hc2 => ?_) (fun hc2 => ?_))))))
 ·refine Ws (Wr ?_)
  refine jo (LT.buildSlice (n:=23) (els:=[]) [] Q Q jR oH Q Q Q Q (by decide) Q Q) Q Q (aJ (Cc (lo 23 0)) y4 (On (aB.ent (aY.Oa 24 3 Q) (aB.ent (aY.bf (n:=23) (p:=24) (lens:=bP ([]:List (List Int))) (List.append_nil _) Q) (en [(2,Cc (lo 23 0))] [(23,.bf 28 24 (bP ([]:List (List Int)))),(24,.pool 3 (rowsOf aC ([]:List (List Int))))] z1 z2 (aB.ent (aY.mv 23 0 Q Q) (aB.ent (aY.mv 24 1 Q Q) (en [(2,Cc (lo 0 (([]:List (List Int)).length)))] [(0,.bf 28 1 (bP ([]:List (List Int)))),(1,.pool 3 (rowsOf aC ([]:List (List Int))))] z1 z2 (bT z1 z2 ⟨J,J⟩ ⟨J,cZ.Aq gQ _,J⟩)))))))))
 ·refine aB.skip (Ws (aB.draw mixed ?_))
  refine fM (bQ (aj f) Q gY fF dS) Q Q Q Q (aQ.bind fun r3 hr3 => (aQ.step (dK [.agg (aj f)] (Fw.Fn.ren [(0,26),(1,27)] (aBB f r3 hr3) Q) YA (mV y3) J y3) z2 J Q Q (ax (LT.dR Q jW) Q Q Q (dh (iC f.Graph.aI) lT ak bK (dV LT.mul lV (aQ.bind fun r4 hr4 => (aQ.step (cF [.c (lo 26 r3.length),.c (iC (aA (2 * f.Graph.aI)))] [(26,.bf 28 27 (bP r3)),(27,.pool 3 (rowsOf aC r3))] (Fw.Fn.ren [(0,29),(1,30)] (aGA r3 (aA (2 * f.Graph.aI)) r4 hr4) Q) aCH (.cons (.c (.Tv Q Q Q (fun _ => Q))) (.cons (.c (.same Q)) .nil)) J y3) z3 z2 Q Q (ax (LT.assign (v:=(Cc (lo 29 r4.length))) Q) Q Q Q (dm (en [(2,Cc (lo 29 r4.length))] [(29,.bf 28 30 (bP r4)),(30,.pool 3 (rowsOf aC r4))] z1 z2 ?_))))))))))
  refine aB.ent (aY.mv 29 0 Q Q) (aB.ent (aY.mv 30 1 Q Q) (en [(2,Cc (lo 0 r4.length))] [(0,.bf 28 1 (bP r4)),(1,.pool 3 (rowsOf aC r4))] z1 z2 (bT z1 z2 ⟨J,J⟩ ⟨J,cZ.Aq gQ _,J⟩)))
theorem aBE (f:ah) (v:(List Int)):FT Tryz.prog (I5 f v) 118 [.agg (aj f),.c (xF aC v)] [] (fun (t:Bool) => [.c (bC t)]) (fun (t:Bool) => []) []:=by
 refine FT.of [] Tryz.func118 Tryz.ntmps118 Q y2 ?_
 intro w0 U0 R0 g0
 unfold I5
 refine Ws (Wr ?_)
 refine gy 21 (.agg (aj f)) dS y5 (aJ (Bv false) aZ (On (Ws ?_)))
 refine aB.eX (fun j4 => ([(4,Bv j4)],[])) ?_ (fun j4 _ => ?_)
 ·refine Wr (bV (bQ (aj f) Q gY fF dS) Q Q Q Q (aS fun r5 nI => (iD [.agg (aj f)] (Gs f r5 nI) Ez (mV y3) y5 z2 (aH (Bv r5) y4 (aT.split (fun hb6 => ?_) (fun hb6 => ?_))))))
  ·refine dB (Cc (xF aC v)) hb6 y5 (aW (LT.dR Q jW) Q (gH hb6 Q Q) Q (jd (iC f.Graph.aI) lT ak hb6 iJ (fB LT.mul hb6 Jj (aS fun r7 lH => (aT.pure (dK [.c (xF aC v),.c (iC (aA (2 * f.Graph.aI)))] (aF8 v (aA (2 * f.Graph.aI)) r7 lH) aCK (jv y2) J y3) z3 J (gH hb6 Q Q) Q (dD (Bv r7) hb6 y5 (aJ (Bv r7) y4 (On (aV Q z1 J)))))))))
  ·refine aK hb6 y5 (aK hb6 y5 (aK hb6 y5 (aK hb6 y5 (aK hb6 y5 (aK hb6 y5 (dA (Bv false) hb6 aU (aJ (Bv false) y4 (On (aV Q z1 J)))))))))
 ·refine bT z1 J ⟨au.sc,J⟩ J
theorem aA9 (f:ah) (v:(List Int)):FT Tryz.prog (zO f v) 47 [.agg (aj f),.c (xF aC v)] [] (fun (t:Bool) => [.c (bC t)]) (fun (t:Bool) => []) []:=by
 refine FT.of [] Tryz.func47 Tryz.ntmps47 Q y2 ?_
 intro w0 U0 R0 g0
 unfold zO
 refine Ws (Wr ?_)
 refine gy 21 (.agg (aj f)) dS y5 (aJ (Bv false) aZ (On (Ws (Ws (Wr ?_)))))
 refine bV (bQ (aj f) Q gY fF dS) Q Q Q Q (aH (Cc (xF aC v)) y4 (aS fun r1 hr1 => (iD [.agg (aj f),.c (xF aC v)] (aBE f v r1 hr1) X8 (vM y4) y5 z3 (aW (LT.not Q) Q Q Q (On (aB.cond Q (fun hc2 => ?_) (fun hc2 => ?_)))))))
 ·refine Ws (Wr ?_)
  refine aJ (Bv false) aZ (On (bT z1 J ⟨au.sc,J⟩ J))
 ·refine aB.skip (Ws (Wr ?_))
  refine aJ (Iv 0) aZ (aJ (Iv 1) aZ (On (Ws (Ws (Wr ?_)))))
  refine fC (xF aO f.Places) iR iV bK (aW (LT.fG Q uN) Q Q Q (aH (Iv 0) aZ (On (aB.block ?_))))
  refine aB.jM (id:=0) (Lm f v) (fun s3 => ([(1,Cc (xF aC v)),(2,Cc (.pl 21 0)),(5,Iv 0),(6,Iv 1),(20,Cc (xF aO f.Places)),(21,Iv (f.Places.length:Int)),(22,Iv s3)],[(21,.row 46 [aj f])])) (fun b28 => ([(1,Cc (xF aC v)),(2,Cc (.pl 21 0)),(5,Iv b28.1),(6,Iv b28.2)],[(21,.row 46 [aj f])])) ?_ (aY.of z7 z1) Q (fun b28 _ => ?_)
  ·intro s3
   unfold Lm
   refine Ws (Wr ?_)
   refine af LT.lss y5 (On (Ws ?_))
   refine aB.cond Q (fun hc29 => ?_) (fun hc29 => ?_)
   ·refine aB.skip (Ws (aB.block (Ws (Wr ?_))))
    refine aH (Iv s3) y4 (aS fun x30 KZ => (bg (LT.bU (enc:=aO) Q jU KZ fE) Q Q Q Q (aW (kJ Q o6 lJ fE) Q Q Q (iF 23 [iC 0,iC 0] tX y6 (aJ (Iv s3) y4 (dZ (stA [iC x30.X,iC x30.Y] Q Q lJ fE) Q Q Q Q Q (On (Ws ?_))))))))
    refine en [(1,Cc (xF aC v)),(2,Cc (.pl 21 0)),(5,Iv 0),(6,Iv 1),(7,Iv s3),(8,Cc (.pl 23 0)),(20,Cc (xF aO f.Places)),(21,Iv (f.Places.length:Int)),(22,Iv s3)] [(21,.row 46 [aj f]),(23,.row 98 [[iC x30.X,iC x30.Y]])] z9 z2 (aB.draw mixed (dh (iC x30.X) qC ak bK (dh (xF aO f.Places) iR iV bK (aQ.bind fun x31 hx31 => (bZ (LT.bU (enc:=aO) Q jU hx31 fE) Q y2 Q Q (ax (LT.oW Q qC) Q Q Q (ax (LT.dJ Q ak) Q Q Q (dV LT.sub y5 (ax (LT.dR Q qQ) Q Q Q ?_)))))))))
    refine fM (qx (iC x30.Y) Q ak) Q Q Q Q (dh (xF aO f.Places) iR iV bK (aQ.bind fun x32 hx32 => (bZ (LT.bU (enc:=aO) Q jU hx32 fE) Q y2 Q Q (ax (LT.oW Q qQ) Q Q Q (ax (LT.dJ Q ak) Q Q Q (dV LT.sub y5 (ax (LT.assign (v:=(Iv (aA (x30.X - x31.X)))) Q) Q Q Q (ax (LT.assign (v:=(Iv (aA (x30.Y - x32.Y)))) Q) Q Q Q (dm (Ws ?_))))))))))
    refine aB.eX (fun j34 => ([(1,Cc (xF aC v)),(2,Cc (.pl 21 0)),(5,Iv 0),(6,Iv 1),(7,Iv s3),(9,Iv (aA (x30.X - x31.X))),(10,Iv (aA (x30.Y - x32.Y))),(20,Cc (xF aO f.Places)),(21,Iv (f.Places.length:Int)),(22,Iv s3),(48,Bv j34)],[(21,.row 46 [aj f])])) ?_ (fun j34 _ => ?_)
    ·refine en [(1,Cc (xF aC v)),(2,Cc (.pl 21 0)),(5,Iv 0),(6,Iv 1),(7,Iv s3),(9,Iv (aA (x30.X - x31.X))),(10,Iv (aA (x30.Y - x32.Y))),(20,Cc (xF aO f.Places)),(21,Iv (f.Places.length:Int)),(22,Iv s3)] [(21,.row 46 [aj f])] z10 z1 (Wr (aH (Iv (aA (x30.X - x31.X))) y4 (af LT.neq aU (aH (Bv ((aA (x30.X - x31.X)) != 0)) y4 (aT.split (fun pW => ?_) (fun pW => ?_))))))
     ·refine aK pW y5 (aK pW y5 (dD (Bv true) pW aU (On (aV Q z11 z1))))
     ·refine dB (Iv (aA (x30.Y - x32.Y))) pW y5 (fB LT.neq pW iT (dA (Bv ((aA (x30.Y - x32.Y)) != 0)) pW y5 (On (aV Q z11 z1))))
    ·refine aB.cond Q (fun P5 => ?_) (fun P5 => ?_)
     ·refine Ws (aB.draw mixed ?_)
      refine ay (Cc (xF aC v)) y4 (ay (Iv s3) y4 (dV LT.mul lV (dV LT.add aU (aQ.bind fun Gz FH => (bZ (LT.bU (enc:=aC) Q dG FH dQ) Q Q Q Q (ax (LT.dJ Q ak) Q Q Q (ay (Cc (xF aC v)) y4 (aQ.bind fun x38 hx38 => (bZ (LT.bU (enc:=aC) Q dG hx38 dQ) Q y2 Q Q (ax (LT.dJ Q ak) Q Q Q (dV LT.sub y5 ?_)))))))))))
      refine ay (Iv (aA (x30.X - x31.X))) y4 (dV LT.mul y5 (ay (Cc (xF aC v)) y4 (ay (Iv s3) y4 (dV LT.mul lV (aQ.bind fun x39 hx39 => (bZ (LT.bU (enc:=aC) Q dG hx39 dQ) Q Q Q Q (ax (LT.dJ Q ak) Q Q Q (ay (Cc (xF aC v)) y4 (aQ.bind fun x40 Vg => (bZ (LT.bU (enc:=aC) Q dG Vg dQ) Q y2 Q Q (ax (LT.dJ Q ak) Q Q Q ?_)))))))))))
      refine dV LT.sub y5 (ay (Iv (aA (x30.Y - x32.Y))) y4 (dV LT.mul y5 (dV LT.sub y5 (ax (LT.assign (v:=(Iv (aA ((aA ((aA (Gz - x38)) * (aA (x30.X - x31.X)))) - (aA ((aA (x39 - x40)) * (aA (x30.Y - x32.Y)))))))) Q) Q Q Q (dm (Ws (en [(1,Cc (xF aC v)),(2,Cc (.pl 21 0)),(5,Iv (aA ((aA ((aA (Gz - x38)) * (aA (x30.X - x31.X)))) - (aA ((aA (x39 - x40)) * (aA (x30.Y - x32.Y))))))),(9,Iv (aA (x30.X - x31.X))),(10,Iv (aA (x30.Y - x32.Y)))] [(21,.row 46 [aj f])] z5 z1 (Wr (aH (Iv (aA (x30.X - x31.X))) y4 (aH (Iv (aA (x30.X - x31.X))) y4 (af LT.mul y5 ?_)))))))))))
      refine aH (Iv (aA (x30.Y - x32.Y))) y4 (aH (Iv (aA (x30.Y - x32.Y))) y4 (af LT.mul y5 (af LT.add y5 (aJ (Iv (aA ((aA ((aA (x30.X - x31.X)) * (aA (x30.X - x31.X)))) + (aA ((aA (x30.Y - x32.Y)) * (aA (x30.Y - x32.Y))))))) y4 (On (eu y2 z4 z1))))))
     ·refine aB.skip (aB.blk (Wr ?_))
      refine af LT.add aU (aH (Iv (aA (s3 + 1))) y4 (On (aV Q z7 z1)))
   ·refine eu y2 z4 z1
  ·refine Ws (Ws (Wr ?_))
   refine fC (xF aO f.Places) iR iV bK (aW (LT.fG Q uN) Q Q Q (aH (Iv 0) aZ (On (aB.block ?_))))
   refine aB.lD (id:=2) (Lp f v b28) (fun uT => ([(1,Cc (xF aC v)),(2,Cc (.pl 21 0)),(5,Iv b28.1),(6,Iv b28.2),(82,Cc (xF aO f.Places)),(83,Iv (f.Places.length:Int)),(84,Iv uT)],[(21,.row 46 [aj f])])) (fun b74 => ([],[])) (ja Tryz.prog Tryz.f47.results.toList [] [] (fun (t:Bool) => [.c (bC t)]) (fun (t:Bool) => [])) ?_ (aY.of z7 z1) Q (fun b74 _ => ?_) lK
   ·intro uT
    unfold Lp
    refine Ws (Wr ?_)
    refine af LT.lss y5 (On (Ws ?_))
    refine aB.cond Q (fun aJp => ?_) (fun aJp => ?_)
    ·refine aB.skip (Ws (aB.block (Ws (Wr ?_))))
     refine aH (Iv uT) y4 (aS fun oU Qa => (bg (LT.bU (enc:=aO) Q jU Qa fE) Q Q Q Q (aW (kJ Q o6 lJ fE) Q Q Q (iF 24 [iC 0,iC 0] tX y6 (aJ (Iv uT) y4 (dZ (stA [iC oU.X,iC oU.Y] Q Q lJ fE) Q Q Q Q Q (On (Ws ?_))))))))
     refine en [(1,Cc (xF aC v)),(2,Cc (.pl 21 0)),(5,Iv b28.1),(6,Iv b28.2),(11,Iv uT),(12,Cc (.pl 24 0)),(82,Cc (xF aO f.Places)),(83,Iv (f.Places.length:Int)),(84,Iv uT)] [(21,.row 46 [aj f]),(24,.row 98 [[iC oU.X,iC oU.Y]])] z9 z2 (aB.draw mixed (dh (iC oU.X) qC ak bK (dh (xF aO f.Places) iR iV bK (aQ.bind fun xk Zu => (bZ (LT.bU (enc:=aO) Q jU Zu fE) Q y2 Q Q (ax (LT.oW Q qC) Q Q Q (ax (LT.dJ Q ak) Q Q Q (dV LT.sub y5 (ax (LT.dR Q qQ) Q Q Q ?_)))))))))
     refine fM (qx (iC oU.Y) Q ak) Q Q Q Q (dh (xF aO f.Places) iR iV bK (aQ.bind fun qc Ik => (bZ (LT.bU (enc:=aO) Q jU Ik fE) Q y2 Q Q (ax (LT.oW Q qQ) Q Q Q (ax (LT.dJ Q ak) Q Q Q (dV LT.sub y5 (ax (LT.assign (v:=(Iv (aA (oU.X - xk.X)))) Q) Q Q Q (ax (LT.assign (v:=(Iv (aA (oU.Y - qc.Y)))) Q) Q Q Q (dm (Ws ?_))))))))))
     refine aB.eX (fun j84 => ([(1,Cc (xF aC v)),(2,Cc (.pl 21 0)),(5,Iv b28.1),(6,Iv b28.2),(82,Cc (xF aO f.Places)),(83,Iv (f.Places.length:Int)),(84,Iv uT),(138,Bv j84)],[(21,.row 46 [aj f])])) ?_ (fun j84 _ => ?_)
     ·refine en [(1,Cc (xF aC v)),(2,Cc (.pl 21 0)),(5,Iv b28.1),(6,Iv b28.2),(11,Iv uT),(13,Iv (aA (oU.X - xk.X))),(14,Iv (aA (oU.Y - qc.Y))),(82,Cc (xF aO f.Places)),(83,Iv (f.Places.length:Int)),(84,Iv uT)] [(21,.row 46 [aj f])] z10 z1 (aB.draw mixed (ay (Cc (xF aC v)) y4 (ay (Iv uT) y4 (dV LT.mul lV (aQ.bind fun x85 aMQ => (bZ (LT.bU (enc:=aC) Q dG aMQ dQ) Q Q Q Q (ax (LT.dJ Q ak) Q Q Q (ay (Cc (xF aC v)) y4 (aQ.bind fun x86 aMR => (bZ (LT.bU (enc:=aC) Q dG aMR dQ) Q y2 Q Q (ax (LT.dJ Q ak) Q Q Q ?_)))))))))))
      refine dV LT.sub y5 (ay (Iv b28.2) y4 (dV LT.mul y5 (ay (Iv b28.1) y4 (ax (LT.neg Q) Q Q Q (ay (Iv (aA (oU.Y - qc.Y))) y4 (dV LT.mul y5 (dV LT.neq y5 (ay (Bv ((aA ((aA (x85 - x86)) * b28.2)) != (aA ((aA (-b28.1)) * (aA (oU.Y - qc.Y)))))) y4 (aQ.split (fun mO => ?_) (fun mO => ?_))))))))))
      ·refine bJ mO y3 (bJ mO y3 (bJ mO y3 (bJ mO y3 (bJ mO y3 (bJ mO y3 (bJ mO y3 (bJ mO y3 (bJ mO y3 (bJ mO y3 (bJ mO y3 (bJ mO y3 ?_)))))))))))
       refine bJ mO y3 (bJ mO y3 (bJ mO y3 (bJ mO y3 (mP (Bv true) mO aU (dm (aV Q z8 z1))))))
      ·refine kN (Cc (xF aC v)) mO y5 (kN (Iv uT) mO y5 (oV LT.mul mO Jj (oV LT.add mO iT (aQ.bind fun x88 aMS => (bZ (LT.bU (enc:=aC) Q dG aMS dQ) Q Q (gH mO Q Q) Q (ax (LT.dJ Q ak) Q (gH mO Q Q) Q (kN (Cc (xF aC v)) mO y5 (aQ.bind fun x89 aMT => (bZ (LT.bU (enc:=aC) Q dG aMT dQ) Q y2 (gH mO Q Q) Q (ax (LT.dJ Q ak) Q (gH mO Q Q) Q (oV LT.sub mO y6 ?_)))))))))))
       refine kN (Iv b28.2) mO y5 (oV LT.mul mO y6 (kN (Iv b28.1) mO y5 (kN (Iv (aA (oU.X - xk.X))) mO y5 (oV LT.mul mO y6 (oV LT.neq mO y6 (lm (Bv ((aA ((aA (x88 - x89)) * b28.2)) != (aA (b28.1 * (aA (oU.X - xk.X)))))) mO y5 (dm (aV Q z8 z1))))))))
     ·refine aB.cond Q (fun hc90 => ?_) (fun hc90 => ?_)
      ·refine Ws (Wr ?_)
       refine aJ (Bv false) aZ (On (aB.ret ⟨Q,kz z1 J ⟨au.sc,J⟩ J⟩))
      ·refine aB.skip (aB.blk (Wr ?_))
       refine af LT.add aU (aH (Iv (aA (uT + 1))) y4 (On (aV Q z7 z1)))
    ·refine eu y2 J J
   ·refine Ws (Wr ?_)
    refine aJ (Bv true) aZ (On (bT z1 J ⟨au.sc,J⟩ J))
theorem aO9 (f:ah):FT Tryz.prog (Qp f) 104 [.agg (aj f)] [] (fun (t:((List Int) × Bool)) => [.c (lo 0 t.1.length),.c (bC t.2)]) (fun (t:((List Int) × Bool)) => [(0,pR 3 aC t.1)]) [0]:=by
 refine FT.of [] Tryz.func104 Tryz.ntmps104 Q y2 ?_
 intro w0 U0 R0 g0
 unfold Qp
 refine Ws (Wr ?_)
 refine gy 21 (.agg (aj f)) dS y5 (aJ (Cc (sC aX)) aZ (aJ (Bv false) aZ (On (Ws (Ws (Wr ?_))))))
 refine bV (bQ (aj f) Q gY fF dS) Q Q Q Q (aS fun r1 hr1 => (aT.step (dK [.agg (aj f)] (Fw.Fn.ren [(0,23),(1,24)] (aF6 f r1 hr1) Q) aB6 (mV y3) J y3) z2 J Q Q (aW (LT.lC Q jR) Q Q Q (aH (Iv 0) aZ (On (aB.block ?_))))))
 refine aB.lD (id:=0) (LU f r1) (fun s2 => ([(1,Cc (.pl 21 0)),(7,Cc (lo 23 r1.length)),(8,Iv (r1.length:Int)),(9,Iv s2)],[(21,.row 46 [aj f]),(23,.bf 28 24 (bP r1)),(24,.pool 3 (rowsOf aC r1))])) (fun b11 => ([],[])) (ja Tryz.prog Tryz.f104.results.toList [] [0] (fun (t:((List Int) × Bool)) => [.c (lo 0 t.1.length),.c (bC t.2)]) (fun (t:((List Int) × Bool)) => [(0,pR 3 aC t.1)])) ?_ (aY.of z4 z3) Q (fun b11 _ => ?_) lK
 ·intro s2
  unfold LU
  refine Ws (Wr ?_)
  refine af LT.lss y5 (On (Ws ?_))
  refine aB.cond Q (fun hc12 => ?_) (fun hc12 => ?_)
  ·refine aB.skip (Ws (aB.block (Ws (Wr ?_))))
   refine aS fun kZ wP => (jf (LT.xq Q Q jw wP) Q Q Q Q Q (bV (LT.zh Q fP wP Q) Q Q Q Q (aJ (Cc (.tl 24 s2.toNat 0 kZ.length)) y4 (On (Ws (Wr ?_))))))
   refine bV (bQ (aj f) Q gY fF dS) Q Q Q Q (aH (Cc (.tl 24 s2.toNat 0 kZ.length)) y4 (aS fun gX QD => (aT.pure (cF [.agg (aj f),.c (.tl 24 s2.toNat 0 kZ.length)] [(24,.pool 3 (rowsOf aC r1))] (aA9 f kZ gX QD) YK (.cons (.agg (.cons (.same Q) (.cons (.same Q) (.cons (.same Q) .nil)))) (.cons (.c (.ttl Q Q (lI wP))) .nil)) J y3) z3 z1 Q Q (aW (LT.not Q) Q Q Q (On (aB.cond Q (fun D5 => ?_) (fun D5 => ?_)))))))
   ·refine Ws (Wr ?_)
    refine aH (Cc (.tl 24 s2.toNat 0 kZ.length)) y4 (aJ (Cc (.tl 24 s2.toNat 0 kZ.length)) y4 (aJ (Bv true) aZ (On (aB.ent (aY.aA2 (enc:=aC) 2 24 s2.toNat 26 (rows:=r1) (r:=kZ) Q Q Q (lI wP) Q) (en [(2,Cc (lo 26 kZ.length)),(3,Bv true)] [(26,pR 3 aC kZ)] z2 z1 (aB.ent (aY.mv 26 0 Q Q) (en [(2,Cc (lo 0 kZ.length)),(3,Bv true)] [(0,pR 3 aC kZ)] z2 z1 (aB.ret ⟨Q,kz z2 z1 ⟨J,au.sc,J⟩ ⟨cZ.fA gQ,J⟩⟩))))))))
   ·refine aB.skip (aB.blk (Wr ?_))
    refine af LT.add aU (aH (Iv (aA (s2 + 1))) y4 (On (aV Q z4 z3)))
  ·refine eu y2 J J
 ·refine Ws (Wr ?_)
  refine jo (gu 27 aC [] [] dO iL y7) Q Q (aJ (Cc (lo 27 (([]:List Int).length))) y4 (aJ (Bv false) aZ (On (en [(2,Cc (lo 27 (([]:List Int).length))),(3,Bv false)] [(27,pR 3 aC ([]:List Int))] z2 z1 (aB.ent (aY.mv 27 0 Q Q) (en [(2,Cc (lo 0 (([]:List Int).length))),(3,Bv false)] [(0,pR 3 aC ([]:List Int))] z2 z1 (bT z2 z1 ⟨J,au.sc,J⟩ ⟨cZ.fA gQ,J⟩)))))))
theorem aO7 (f:ah) (v:(List Int)) (a:Int) (b:Int):FT Tryz.prog (Ql f v a b) 119 [.agg (aj f),.c (xF aC v),.c (iC a),.c (iC b)] [] (fun (t:Int) => [.c (iC t)]) (fun (t:Int) => []) []:=by
 refine FT.of [] Tryz.func119 Tryz.ntmps119 Q y2 ?_
 intro w0 U0 R0 g0
 unfold Ql
 refine Ws (Wr ?_)
 refine gy 21 (.agg (aj f)) dS y5 (aJ (Iv 0) aZ (On (Ws (Ws ?_))))
 refine aB.eX (fun j6 => ([(1,Cc (xF aC v)),(2,Iv a),(3,Iv b),(4,Cc (.pl 21 0)),(28,Bv j6)],[(21,.row 46 [aj f])])) ?_ (fun j6 _ => ?_)
 ·refine Wr (bV (bQ (aj f) Q gY fF dS) Q Q Q Q (aH (Cc (xF aC v)) y4 (aS fun r7 lH => (iD [.agg (aj f),.c (xF aC v)] (aBE f v r7 lH) X8 (vM y4) y5 z3 (aW (LT.not Q) Q Q Q (aH (Bv (!r7)) y4 (aT.split (fun hb8 => ?_) (fun hb8 => ?_))))))))
  ·refine aK hb8 y5 (aK hb8 y5 (aK hb8 y5 (aK hb8 y5 (aK hb8 y5 (dD (Bv true) hb8 aU (aH (Bv true) y4 (bF y5 (bF y5 (bF y5 (bF y5 (bF y5 ?_)))))))))))
   refine dD (Bv true) Q aU (On (aV Q z5 z1))
  ·refine aW (LT.dR Q jW) Q (gH hb8 Q Q) Q (bV (bQ (eY f.Graph) Q jq gW fD) Q Q (gH hb8 Q Q) Q (dB (Iv a) hb8 y5 (aS fun r9 ED => (aT.pure (dK [.agg (eY f.Graph),.c (iC a)] (aF5 f.Graph a r9 ED) aCG (Ov y3) J y3) z3 J (gH hb8 Q Q) Q (aW (LT.not Q) Q (gH hb8 Q Q) Q (dA (Bv (!r9)) hb8 y5 (aH (Bv (!r9)) y4 (aT.split (fun mX => ?_) (fun mX => ?_)))))))))
   ·refine aK mX y5 (aK mX y5 (aK mX y5 (aK mX y5 (aK mX y5 (dD (Bv true) mX aU (On (aV Q z5 z1)))))))
   ·refine aW (LT.dR Q jW) Q (gH mX Q Q) Q (bV (bQ (eY f.Graph) Q jq gW fD) Q Q (gH mX Q Q) Q (dB (Iv b) mX y5 (aS fun r11 QB => (aT.pure (dK [.agg (eY f.Graph),.c (iC b)] (aF5 f.Graph b r11 QB) aCG (Ov y3) J y3) z3 J (gH mX Q Q) Q (aW (LT.not Q) Q (gH mX Q Q) Q (dA (Bv (!r11)) mX y5 (On (aV Q z5 z1))))))))
 ·refine aB.cond Q (fun hc12 => ?_) (fun hc12 => ?_)
  ·refine Ws (Wr ?_)
   refine aJ (Iv 0) aZ (On (bT z1 J ⟨au.sc,J⟩ J))
  ·refine aB.skip (Ws (aB.draw mixed ?_))
   refine dh (xF aO f.Places) iR iV bK (ay (Iv a) y4 (aQ.bind fun kZ wP => (bZ (LT.bU (enc:=aO) Q jU wP fE) Q Q Q Q (ax (kJ Q o6 lJ fE) Q Q Q (dh (xF aO f.Places) iR iV bK (ay (Iv b) y4 (aQ.bind fun x14 QN => (bZ (LT.bU (enc:=aO) Q jU QN fE) Q Q Q Q (ax (kJ Q o6 lJ fE) Q Q Q ?_)))))))))
   refine zB (LT.alloc (n:=25) (cells:=[iC 0,iC 0]) Q tX Q Q Q) Q Q (zB (LT.alloc (n:=26) (cells:=[iC 0,iC 0]) Q tX Q Q Q) Q Q (lQ (stA [iC kZ.X,iC kZ.Y] Q Q lJ fE) Q Q Q Q Q (lQ (stA [iC x14.X,iC x14.Y] Q Q lJ fE) Q Q Q Q Q (dm (Ws (en [(1,Cc (xF aC v)),(2,Iv a),(3,Iv b),(9,Cc (.pl 25 0)),(10,Cc (.pl 26 0))] [(25,.row 98 [[iC kZ.X,iC kZ.Y]]),(26,.row 98 [[iC x14.X,iC x14.Y]])] z5 z2 (aB.draw mixed (dh (iC kZ.X) qC ak bK (dh (iC x14.X) qC ak bK ?_)))))))))
   refine dV LT.sub y5 (ay (Cc (xF aC v)) y4 (ay (Iv a) y4 (dV LT.mul lV (aQ.bind fun x15 KX => (bZ (LT.bU (enc:=aC) Q dG KX dQ) Q Q Q Q (ax (LT.dJ Q ak) Q Q Q (ay (Cc (xF aC v)) y4 (ay (Iv b) y4 (dV LT.mul lV (aQ.bind fun x16 hx16 => (bZ (LT.bU (enc:=aC) Q dG hx16 dQ) Q Q Q Q ?_)))))))))))
   refine ax (LT.dJ Q ak) Q Q Q (dV LT.sub y5 (dV LT.mul y5 (dh (iC kZ.Y) qQ ak bK (dh (iC x14.Y) qQ ak bK (dV LT.sub y5 (ay (Cc (xF aC v)) y4 (ay (Iv a) y4 (dV LT.mul lV (dV LT.add aU ?_)))))))))
   refine aQ.bind fun x17 EF => (bZ (LT.bU (enc:=aC) Q dG EF dQ) Q Q Q Q (ax (LT.dJ Q ak) Q Q Q (ay (Cc (xF aC v)) y4 (ay (Iv b) y4 (dV LT.mul lV (dV LT.add aU (aQ.bind fun x18 Bf => (bZ (LT.bU (enc:=aC) Q dG Bf dQ) Q Q Q Q (ax (LT.dJ Q ak) Q Q Q (dV LT.sub y5 (dV LT.mul y5 ?_)))))))))))
   refine dV LT.add y5 (ax (LT.assign (v:=(Iv (aA ((aA ((aA (kZ.X - x14.X)) * (aA (x15 - x16)))) + (aA ((aA (kZ.Y - x14.Y)) * (aA (x17 - x18)))))))) Q) Q Q Q (dm (bT z1 J ⟨au.sc,J⟩ J)))
theorem aA7 (tV:bI) (v:(List Int)):FT Tryz.prog (Fa tV v) 45 [.agg (eP tV),.c (xF aC v)] [] (fun (t:Bool) => [.c (bC t)]) (fun (t:Bool) => []) []:=by
 refine FT.of [] Tryz.func45 Tryz.ntmps45 Q y2 ?_
 intro w0 U0 R0 g0
 unfold Fa
 refine Ws (Wr ?_)
 refine gy 21 (.agg (eP tV)) dP y5 (aJ (Bv false) aZ (On (Ws (Ws ?_))))
 refine aB.eX (fun j4 => ([(1,Cc (xF aC v)),(2,Cc (.pl 21 0)),(17,Bv j4)],[(21,.row 48 [eP tV])])) ?_ (fun j4 _ => ?_)
 ·refine Wr (bV (bQ (eP tV) Q gZ eF dP) Q Q Q Q (aS fun r5 nI => (iD [.agg (eP tV)] (Oz tV r5 nI) KE (Gg y4) y5 z2 (aW (LT.not Q) Q Q Q (aH (Bv (!r5)) y4 (aT.split (fun hb6 => ?_) (fun hb6 => ?_)))))))
  ·refine aK hb6 y5 (aK hb6 y5 (aK hb6 y5 (aK hb6 y5 (aK hb6 y5 (dD (Bv true) hb6 aU (On (aV Q z3 z1)))))))
  ·refine aW (LT.dR Q mM) Q (gH hb6 Q Q) Q (bV (bQ (aj tV.aG) Q gY fF dS) Q Q (gH hb6 Q Q) Q (dB (Cc (xF aC v)) hb6 y5 (aS fun r7 lH => (aT.pure (dK [.agg (aj tV.aG),.c (xF aC v)] (aBE tV.aG v r7 lH) X8 (vM y4) J y3) z3 J (gH hb6 Q Q) Q (aW (LT.not Q) Q (gH hb6 Q Q) Q (dA (Bv (!r7)) hb6 y5 (On (aV Q z3 z1))))))))
 ·refine aB.cond Q (fun hc8 => ?_) (fun hc8 => ?_)
  ·refine Ws (Wr ?_)
   refine aJ (Bv false) aZ (On (bT z1 J ⟨au.sc,J⟩ J))
  ·refine aB.skip (Ws (Ws (Wr ?_)))
   refine aW (LT.dR Q mM) Q Q Q (aW (LT.dR Q jW) Q Q Q (fC (xF aP tV.aG.Graph.aF) iO jC bK (aW (LT.fG Q jE) Q Q Q (aH (Iv 0) aZ (On (aB.block ?_))))))
   refine aB.lD (id:=0) (Lc tV v) (fun s9 => ([(1,Cc (xF aC v)),(2,Cc (.pl 21 0)),(21,Cc (xF aP tV.aG.Graph.aF)),(22,Iv (tV.aG.Graph.aF.length:Int)),(23,Iv s9)],[(21,.row 48 [eP tV])])) (fun b88 => ([],[])) (ja Tryz.prog Tryz.f45.results.toList [] [] (fun (t:Bool) => [.c (bC t)]) (fun (t:Bool) => [])) ?_ (aY.of z5 z1) Q (fun b88 _ => ?_) lK
   ·intro s9
    unfold Lc
    refine Ws (Wr ?_)
    refine af LT.lss y5 (On (Ws ?_))
    refine aB.cond Q (fun aJx => ?_) (fun aJx => ?_)
    ·refine aB.skip (Ws (aB.block (Ws (Wr ?_))))
     refine aH (Iv s9) y4 (aS fun x90 hx90 => (bg (LT.bU (enc:=aP) Q qP hx90 fU) Q Q Q Q (aW (kJ Q lX je fU) Q Q Q (iF 24 [iC 0,iC 0] jh y6 (aJ (Iv s9) y4 (dZ (stA [iC x90.A,iC x90.B] Q Q je fU) Q Q Q Q Q (On (Ws ?_))))))))
     refine en [(1,Cc (xF aC v)),(2,Cc (.pl 21 0)),(5,Iv s9),(6,Cc (.pl 24 0)),(21,Cc (xF aP tV.aG.Graph.aF)),(22,Iv (tV.aG.Graph.aF.length:Int)),(23,Iv s9)] [(21,.row 48 [eP tV]),(24,.row 40 [[iC x90.A,iC x90.B]])] z7 z2 (Wr (aW (LT.dR Q mM) Q Q Q (bV (bQ (aj tV.aG) Q gY fF dS) Q Q Q Q (aH (Cc (xF aC v)) y4 (fC (iC x90.A) nS ak bK (fC (iC x90.B) oZ ak bK (aS fun nJ aLF => (iD [.agg (aj tV.aG),.c (xF aC v),.c (iC x90.A),.c (iC x90.B)] (aO7 tV.aG v x90.A x90.B nJ aLF) aHL (aAq y6) y5 z5 (aJ (Iv nJ) y4 ?_)))))))))
     refine On (Ws ?_)
     refine aB.eX (fun j109 => ([(1,Cc (xF aC v)),(2,Cc (.pl 21 0)),(21,Cc (xF aP tV.aG.Graph.aF)),(22,Iv (tV.aG.Graph.aF.length:Int)),(23,Iv s9),(69,Bv j109)],[(21,.row 48 [eP tV])])) ?_ (fun j109 _ => ?_)
     ·refine Wr (fC (xF aC tV.aN) jy fP bK (aH (Iv s9) y4 (aS fun aBN aLt => (bg (LT.bU (enc:=aC) Q dG aLt dQ) Q Q Q Q (aW (LT.dJ Q ak) Q Q Q (af LT.eql aU (aH (Bv (aBN == 0)) y4 (aT.split (fun tq => ?_) (fun tq => ?_)))))))))
      ·refine dB (Iv nJ) tq y5 (fB LT.neq tq iT (dD (Bv (nJ != 0)) tq y5 (aH (Bv (nJ != 0)) y4 (aT.split (fun og => ?_) (fun og => ?_)))))
       ·refine aK og y5 (aK og y5 (aK og y5 (aK og y5 (aK og y5 (aK og y5 (aK og y5 (Oj Q Q Q Q (Oj Q Q Q Q (aK og y5 (dD (Bv true) og aU (aH (Bv true) y4 ?_)))))))))))
        refine bF y5 (bF y5 (bF y5 (bF y5 (bF y5 (bF y5 (bF y5 (Oj Q Q Q Q (Oj Q Q Q Q (bF y5 (dD (Bv true) Q aU (On ?_)))))))))))
        refine aV Q z6 z1
       ·refine jd (xF aC tV.aN) jy fP og iJ (dB (Iv s9) og y5 (aS fun x113 hx113 => (bg (LT.bU (enc:=aC) Q dG hx113 dQ) Q Q (gH og Q Q) Q (aW (LT.dJ Q ak) Q (gH og Q Q) Q (fB LT.eql og iT (dB (Bv (x113 == 1)) og y5 (aT.split (fun qE => ?_) (fun qE => ?_))))))))
        ·refine dB (Iv nJ) qE y5 (fB LT.gtr qE iT (bg (LT.nY (v:=(Bv (decide (0 < nJ)))) Q qE) Q Q (gH og Q Q) Q (dA (Bv (decide (0 < nJ))) og y5 (aH (Bv (decide (0 < nJ))) y4 (aT.split (fun jS => ?_) (fun jS => ?_))))))
         ·refine aK jS y5 (aK jS y5 (aK jS y5 (aK jS y5 (aK jS y5 (aK jS y5 (aK jS y5 (Oj Q Q Q Q (Oj Q Q Q Q (aK jS y5 (dD (Bv true) jS aU (On ?_)))))))))))
          refine aV Q z6 z1
         ·refine jd (xF aC tV.aN) jy fP jS iJ (dB (Iv s9) jS y5 (aS fun Jq Zl => (bg (LT.bU (enc:=aC) Q dG Zl dQ) Q Q (gH jS Q Q) Q (aW (LT.dJ Q ak) Q (gH jS Q Q) Q (fB LT.eql jS iT (dB (Bv (Jq == 2)) jS y5 (aT.split (fun wJ => ?_) (fun wJ => ?_))))))))
          ·refine dB (Iv nJ) wJ y5 (fB LT.lss wJ iT (bg (LT.nY (v:=(Bv (decide (nJ < 0)))) Q wJ) Q Q (gH jS Q Q) Q (dA (Bv (decide (nJ < 0))) jS y5 (On (aV Q z6 z1)))))
          ·refine aK wJ y5 (aK wJ y5 (bg (LT.oG (v:=(Bv false)) Q wJ) Q y2 (gH jS Q Q) Q (dA (Bv false) jS y5 (On (aV Q z6 z1)))))
        ·refine aK qE y5 (aK qE y5 (bg (LT.oG (v:=(Bv false)) Q qE) Q y2 (gH og Q Q) Q (dA (Bv false) og y5 (aH (Bv false) y4 (aW (LT.dR Q jy) Q (gS Q Q) Q (bV (qx (xF aC tV.aN) Q fP) Q Q (gS Q Q) Q (mv (Iv s9) Q Q (gS Q Q) Q (aS fun aBO aLu => (bg (LT.bU (enc:=aC) Q dG aLu dQ) Q Q (gS Q Q) Q (aW (LT.dJ Q ak) Q (gS Q Q) Q (bg (LT.eql Q) Q y2 (gS Q Q) Q ?_)))))))))))
         refine mv (Bv (aBO == 2)) Q Q (gS Q Q) Q (aT.split (fun IB => ?_) (fun IB => ?_))
         ·refine dB (Iv nJ) IB y5 (fB LT.lss IB iT (bg (LT.nY (v:=(Bv (decide (nJ < 0)))) Q IB) Q Q (gS Q Q) Q (dA (Bv (decide (nJ < 0))) Q y5 (On (aV Q z6 z1)))))
         ·refine aK IB y5 (aK IB y5 (bg (LT.oG (v:=(Bv false)) Q IB) Q y2 (gS Q Q) Q (dA (Bv false) Q y5 (On (aV Q z6 z1)))))
      ·refine aK tq y5 (aK tq y5 (dA (Bv false) tq aU (aH (Bv false) y4 (aW (LT.dR Q jy) Q (gS Q Q) Q (bV (qx (xF aC tV.aN) Q fP) Q Q (gS Q Q) Q (mv (Iv s9) Q Q (gS Q Q) Q (aS fun aBQ aLw => (bg (LT.bU (enc:=aC) Q dG aLw dQ) Q Q (gS Q Q) Q (aW (LT.dJ Q ak) Q (gS Q Q) Q (bg (LT.eql Q) Q y2 (gS Q Q) Q (mv (Bv (aBQ == 1)) Q Q (gS Q Q) Q ?_)))))))))))
       refine aT.split (fun IE => ?_) (fun IE => ?_)
       ·refine dB (Iv nJ) IE y5 (fB LT.gtr IE iT (bg (LT.nY (v:=(Bv (decide (0 < nJ)))) Q IE) Q Q (gS Q Q) Q (dA (Bv (decide (0 < nJ))) Q y5 (aH (Bv (decide (0 < nJ))) y4 (aT.split (fun oh => ?_) (fun oh => ?_))))))
        ·refine aK oh y5 (aK oh y5 (aK oh y5 (aK oh y5 (aK oh y5 (aK oh y5 (aK oh y5 (Oj Q Q Q Q (Oj Q Q Q Q (aK oh y5 (dD (Bv true) oh aU (On ?_)))))))))))
         refine aV Q z6 z1
        ·refine jd (xF aC tV.aN) jy fP oh iJ (dB (Iv s9) oh y5 (aS fun Jr Zm => (bg (LT.bU (enc:=aC) Q dG Zm dQ) Q Q (gH oh Q Q) Q (aW (LT.dJ Q ak) Q (gH oh Q Q) Q (fB LT.eql oh iT (dB (Bv (Jr == 2)) oh y5 (aT.split (fun wK => ?_) (fun wK => ?_))))))))
         ·refine dB (Iv nJ) wK y5 (fB LT.lss wK iT (bg (LT.nY (v:=(Bv (decide (nJ < 0)))) Q wK) Q Q (gH oh Q Q) Q (dA (Bv (decide (nJ < 0))) oh y5 (On (aV Q z6 z1)))))
         ·refine aK wK y5 (aK wK y5 (bg (LT.oG (v:=(Bv false)) Q wK) Q y2 (gH oh Q Q) Q (dA (Bv false) oh y5 (On (aV Q z6 z1)))))
       ·refine aK IE y5 (aK IE y5 (bg (LT.oG (v:=(Bv false)) Q IE) Q y2 (gS Q Q) Q (dA (Bv false) Q y5 (aH (Bv false) y4 (aW (LT.dR Q jy) Q (gS Q Q) Q (bV (qx (xF aC tV.aN) Q fP) Q Q (gS Q Q) Q (mv (Iv s9) Q Q (gS Q Q) Q (aS fun aBS aLy => (bg (LT.bU (enc:=aC) Q dG aLy dQ) Q Q (gS Q Q) Q (aW (LT.dJ Q ak) Q (gS Q Q) Q (bg (LT.eql Q) Q y2 (gS Q Q) Q ?_)))))))))))
        refine mv (Bv (aBS == 2)) Q Q (gS Q Q) Q (aT.split (fun IG => ?_) (fun IG => ?_))
        ·refine dB (Iv nJ) IG y5 (fB LT.lss IG iT (bg (LT.nY (v:=(Bv (decide (nJ < 0)))) Q IG) Q Q (gS Q Q) Q (dA (Bv (decide (nJ < 0))) Q y5 (On (aV Q z6 z1)))))
        ·refine aK IG y5 (aK IG y5 (bg (LT.oG (v:=(Bv false)) Q IG) Q y2 (gS Q Q) Q (dA (Bv false) Q y5 (On (aV Q z6 z1)))))
     ·refine aB.cond Q (fun Yr => ?_) (fun Yr => ?_)
      ·refine Ws (Wr ?_)
       refine aJ (Bv false) aZ (On (aB.ret ⟨Q,kz z1 J ⟨au.sc,J⟩ J⟩))
      ·refine aB.skip (aB.blk (Wr ?_))
       refine af LT.add aU (aH (Iv (aA (s9 + 1))) y4 (On (aV Q z5 z1)))
    ·refine eu y2 J J
   ·refine Ws (Wr ?_)
    refine aJ (Bv true) aZ (On (bT z1 J ⟨au.sc,J⟩ J))
theorem UD (tV:bI) (v:(List Int)):FT Tryz.prog (wQ tV v) 35 [.agg (eP tV),.c (xF aC v)] [] (fun (t:Bool) => [.c (bC t)]) (fun (t:Bool) => []) []:=by
 refine FT.of [] Tryz.func35 Tryz.ntmps35 Q y2 ?_
 intro w0 U0 R0 g0
 unfold wQ
 refine Ws (Wr ?_)
 refine gy 21 (.agg (eP tV)) dP y5 (aJ (Bv false) aZ (On (Ws ?_)))
 refine aB.eX (fun j4 => ([(4,Bv j4)],[])) ?_ (fun j4 _ => ?_)
 ·refine Wr (bV (bQ (eP tV) Q gZ eF dP) Q Q Q Q (aH (Cc (xF aC v)) y4 (aS fun r5 nI => (iD [.agg (eP tV),.c (xF aC v)] (aA7 tV v r5 nI) YJ (Gh y5) y5 z3 (aH (Bv r5) y4 (aT.split (fun hb6 => ?_) (fun hb6 => ?_)))))))
  ·refine aW (LT.dR Q mM) Q (gH hb6 Q Q) Q (bV (bQ (aj tV.aG) Q gY fF dS) Q Q (gH hb6 Q Q) Q (dB (Cc (xF aC v)) hb6 y5 (aS fun r7 lH => (aT.pure (dK [.agg (aj tV.aG),.c (xF aC v)] (aA9 tV.aG v r7 lH) YK (vM y4) J y3) z3 J (gH hb6 Q Q) Q (aW (LT.not Q) Q (gH hb6 Q Q) Q (dD (Bv (!r7)) hb6 y5 (aJ (Bv (!r7)) y4 (On (aV Q z1 J)))))))))
  ·refine aK hb6 y5 (aK hb6 y5 (aK hb6 y5 (aK hb6 y5 (aK hb6 y5 (dA (Bv false) hb6 aU (aJ (Bv false) y4 (On (aV Q z1 J))))))))
 ·refine bT z1 J ⟨au.sc,J⟩ J
theorem aF3 (keep:(List Int)) (gV:bI):FT Tryz.prog (Qn keep gV) 105 [.c (xF aC keep),.c (.pl 0 0)] [(0,.row 48 [iK gV])] (fun (t:((List Int) × Bool × bI)) => [.c (lo 1 t.1.length),.c (bC t.2.1)]) (fun (t:((List Int) × Bool × bI)) => [(0,.row 48 [iK t.2.2]),(1,pR 3 aC t.1)]) [1]:=by
 refine FT.of [0] Tryz.func105 Tryz.ntmps105 Q y2 ?_
 intro w0 U0 R0 g0
 unfold Qn
 refine Ws (Wr ?_)
 refine aJ (Cc (sC aX)) aZ (aJ (Bv false) aZ (On (Ws (aB.draw mixed ?_))))
 refine ax (LT.dR Q mM) Q Q Q (ax (LT.dR Q jW) Q Q Q (fM (bQ (aB1 gV.aG.Graph) Q jq gW fD) Q Q Q Q (ay (Cc (xF aC keep)) y4 (aQ.bind fun r1 hr1 => (aQ.step (dK [.agg (aB1 gV.aG.Graph),.c (xF aC keep)] (Fw.Fn.ren [(0,22)] (aPJ gV.aG.Graph keep r1 hr1) Q) aH3 (.cons (.agg (.cons (.same Q) (.cons (.weak (.same Q) (QW.fO xM (fun h => by cases h) _)) .nil))) (.cons (.c (.same Q)) .nil)) J y3) z3 J Q Q (ax (LT.dR Q mM) Q Q Q (dh (xT aO gV.aG.Places) iR iV bK (bZ (LT.build [(0,.tmp 13,.agg [iC r1.aI,lo 22 r1.aF.length]),(1,.tmp 16,.c (xT aO gV.aG.Places))] Q Q OY xR Q Q Q) Q Q Q Q (zB (LT.alloc (n:=23) (cells:=[iC 0,sC aX,sC aX]) Q xR Q Q Q) Q Q (lQ (stA [iC r1.aI,lo 22 r1.aF.length,xT aO gV.aG.Places] Q Q fF dS) Q Q Q Q Q ?_))))))))))
 refine dm (Ws (Ws ?_))
 refine en [(1,Cc (.pl 0 0)),(5,Cc (.pl 23 0))] [(0,.row 48 [iK gV]),(22,pR 40 aP r1.aF),(23,.row 46 [[iC r1.aI,lo 22 r1.aF.length,xT aO gV.aG.Places]])] z2 z3 (Wr (bV (bQ [iC r1.aI,lo 22 r1.aF.length,xT aO gV.aG.Places] Q gY fF dS) Q Q Q Q (aS fun r2 hr2 => (aT.step (cF [.agg [iC r1.aI,lo 22 r1.aF.length,xT aO gV.aG.Places]] [(22,pR 40 aP r1.aF)] (Fw.Fn.ren [(0,25),(1,26)] (aF6 (ah.mk r1 gV.aG.Places) r2 hr2) Q) aB6 (.cons (.agg (.cons (.same Q) (.cons (.eU Q Q) (.cons (.weak (.same Q) (QW.fO kW (fun h => by cases h) _)) .nil)))) .nil) J y3) z2 z1 Q Q (aW (LT.lC Q jR) Q Q Q (aH (Iv 0) aZ (On (aB.block ?_))))))))
 refine aB.lD (id:=0) (aAD gV) (fun s3 => ([(1,Cc (.pl 0 0)),(19,Cc (lo 25 s3.2.2.length)),(20,Iv s3.1),(21,Iv s3.2.1)],[(0,.row 48 [iK gV]),(25,.bf 28 26 (bP s3.2.2)),(26,.pool 3 (rowsOf aC s3.2.2))])) (fun X0 => ([],[(0,.row 48 [iK gV])])) (ja Tryz.prog Tryz.f105.results.toList [(0,.row 48 [iK gV])] [1] (fun (t:((List Int) × Bool × bI)) => [.c (lo 1 t.1.length),.c (bC t.2.1)]) (fun (t:((List Int) × Bool × bI)) => [(0,.row 48 [iK t.2.2]),(1,pR 3 aC t.1)])) ?_ (aY.of z4 z3) Q (fun X0 _ => ?_) lK
 ·intro s3
  unfold aAD
  refine Ws (Wr ?_)
  refine af LT.lss y5 (On (Ws ?_))
  refine aB.cond Q (fun aJg => ?_) (fun aJg => ?_)
  ·refine aB.skip (Ws (aB.block (Ws (Wr ?_))))
   refine aS fun fH FK => (jf (LT.xq Q Q jw FK) Q Q Q Q Q (bV (LT.zh Q fP FK Q) Q Q Q Q (aJ (Cc (.tl 26 s3.2.1.toNat 0 fH.length)) y4 (On (Ws (Ws (Wr ?_)))))))
   refine bV (bQ (iK gV) Q gZ eF dP) Q Q Q Q (aH (Cc (.tl 26 s3.2.1.toNat 0 fH.length)) y4 (aS fun CY hr47 => (aT.pure (cF [.agg (iK gV),.c (.tl 26 s3.2.1.toNat 0 fH.length)] [(26,.pool 3 (rowsOf aC s3.2.2))] (UD gV fH CY hr47) PS (.cons (.agg (.cons (.same Q) (.cons (.weak (.same Q) (QW.fO xM (fun h => by cases h) _)) (.cons (.weak (.same Q) (QW.fO kW (fun h => by cases h) _)) (.cons (.weak (.same Q) (QW.fO pz (fun h => by cases h) _)) .nil))))) (.cons (.c (.ttl Q Q (lI FK))) .nil)) J y3) z3 z1 Q Q (On (aB.cond Q (fun IW => ?_) (fun IW => ?_))))))
   ·refine Ws (Wr ?_)
    refine aH (Cc (.tl 26 s3.2.1.toNat 0 fH.length)) y4 (aJ (Cc (.tl 26 s3.2.1.toNat 0 fH.length)) y4 (aJ (Bv true) aZ (On (aB.ent (aY.aA2 (enc:=aC) 3 26 s3.2.1.toNat 30 (rows:=s3.2.2) (r:=fH) Q Q Q (lI FK) Q) (en [(3,Cc (lo 30 fH.length)),(4,Bv true)] [(0,.row 48 [iK gV]),(30,pR 3 aC fH)] z2 z2 (aB.ent (aY.mv 30 1 Q Q) (en [(3,Cc (lo 1 fH.length)),(4,Bv true)] [(0,.row 48 [iK gV]),(1,pR 3 aC fH)] z2 z2 (aB.ret ⟨Q,kz z2 z2 ⟨J,au.sc,J⟩ ⟨cZ.nP ⟨au.sc,iY lF,iY pq,iY gQ,J⟩,cZ.fA gQ,J⟩⟩))))))))
   ·refine aB.skip (Ws (Ws (Wr ?_)))
    refine aH (Cc (.tl 26 s3.2.1.toNat 0 fH.length)) y4 (aW (LT.aQB Q dO) Q Q Q (aH (Iv 0) aZ (On (aB.block ?_))))
    refine aB.jM (id:=2) (aAE s3 fH) (fun s49 => ([(1,Cc (.pl 0 0)),(7,Cc (.tl 26 s3.2.1.toNat 0 fH.length)),(19,Cc (lo 25 s49.2.length)),(20,Iv s3.1),(21,Iv s3.2.1),(30,Iv (fH.length:Int)),(31,Iv s49.1)],[(0,.row 48 [iK gV]),(25,.bf 28 26 (bP s49.2)),(26,.pool 3 (rowsOf aC s49.2))])) (fun rZ => ([(1,Cc (.pl 0 0)),(7,Cc (.tl 26 s3.2.1.toNat 0 fH.length)),(19,Cc (lo 25 rZ.2.2.length)),(20,Iv rZ.1),(21,Iv rZ.2.1)],[(0,.row 48 [iK gV]),(25,.bf 28 26 (bP rZ.2.2)),(26,.pool 3 (rowsOf aC rZ.2.2))])) ?_ (aY.of z7 z3) Q (fun rZ _ => ?_)
    ·intro s49
     unfold aAE
     refine Ws (Wr ?_)
     refine af LT.lss y5 (On (Ws ?_))
     refine aB.cond Q (fun aJk => ?_) (fun aJk => ?_)
     ·refine aB.skip (Ws (aB.block (Ws (Wr ?_))))
      refine aH (Iv s49.1) y4 (aJ (Iv s49.1) y4 (On (Wr ?_)))
      refine aH (Cc (.tl 26 s3.2.1.toNat 0 fH.length)) y4 (aH (Iv s49.1) y4 (aH (Cc (.tl 26 s3.2.1.toNat 0 fH.length)) y4 (aH (Iv s49.1) y4 (aS fun xg QY => (aS fun u63 aLi => (aS fun mg Vj => (jf (LT.EZ (same_eq aLi) Q dG (lI QY) Vj) Q Q Q Q Q (bV (LT.Jh (enc:=aC) (j:=0) Q ak (lI QY) Vj (by exact Q) (by exact Q)) Q Q Q Q (aW (LT.neg Q) Q Q Q (aS fun rW QZ => (aS fun u66 aLj => ?_)))))))))))
      refine aS fun x67 aDk => (jf (LT.EZ (same_eq aLj) Q dG (lI QZ) aDk) Q Q Q Q Q (dZ (LT.aFj (enc:=aC) (j:=0) (b':=(aA (-mg))) (v:=(.int .i64 (aA (-mg)))) 28 Q Q (ji pX) dQ Q (lI QZ) aDk (by exact Q) (by exact K Q) (by exact Q) Q) Q Q Q Q Q (On (aB.ent (aY.lens (n:=25) (aD0 (r':=(rW.set s49.1.toNat (aA (-mg)))) (lI QZ) (List.length_set ..)) Q) (aB.blk (en [(1,Cc (.pl 0 0)),(7,Cc (.tl 26 s3.2.1.toNat 0 fH.length)),(19,Cc (lo 25 s49.2.length)),(20,Iv s3.1),(21,Iv s3.2.1),(30,Iv (fH.length:Int)),(31,Iv s49.1)] [(0,.row 48 [iK gV]),(25,.bf 28 26 (bP (s49.2.set s3.2.1.toNat (rW.set s49.1.toNat (aA (-mg)))))),(26,.pool 3 (rowsOf aC (s49.2.set s3.2.1.toNat (rW.set s49.1.toNat (aA (-mg))))))] z7 z3 (Wr (af LT.add aU (aH (Iv (aA (s49.1 + 1))) y4 (On (aB.nil ⟨Q,aY.of ⟨Q,Q,congrArg (fun l1 => (some (AV.s (.c (lo 25 l1))):Option AV)) (show s49.2.length = (s49.2.set s3.2.1.toNat (rW.set s49.1.toNat (aA (-mg)))).length by simp only [List.length_set]),Q,Q,Q,Q,J⟩ z3⟩)))))))))))
     ·refine eu y2 z5 z3
    ·refine Ws (Wr ?_)
     refine bV (bQ (iK gV) Q gZ eF dP) Q Q Q Q (aH (Cc (.tl 26 s3.2.1.toNat 0 fH.length)) y4 (aS fun Jv aMH => (aS fun u69 aLk => (aS fun TY aK1 => (aT.pure (cF [.agg (iK gV),.c (.tl 26 s3.2.1.toNat 0 fH.length)] [(26,.pool 3 (rowsOf aC rZ.2.2))] (UD gV Jv TY aK1) PS (.cons (.agg (.cons (.same Q) (.cons (.weak (.same Q) (QW.fO xM (fun h => by cases h) _)) (.cons (.weak (.same Q) (QW.fO kW (fun h => by cases h) _)) (.cons (.weak (.same Q) (QW.fO pz (fun h => by cases h) _)) .nil))))) (.cons (.c (.ttl (same_eq aLk) Q (lI aMH))) .nil)) J y3) z3 z1 Q Q (On (aB.cond Q (fun aJn => ?_) (fun aJn => ?_))))))))
     ·refine Ws (Wr ?_)
      refine aH (Cc (.tl 26 s3.2.1.toNat 0 fH.length)) y4 (aJ (Cc (.tl 26 s3.2.1.toNat 0 fH.length)) y4 (aJ (Bv true) aZ (On (aB.bind fun u72 aLl => (aB.bind fun u73 aLm => (aB.ent (aY.aA2 (enc:=aC) 3 26 s3.2.1.toNat 31 (rows:=rZ.2.2) (r:=u72) (same_eq aLm) Q Q (lI aLl) Q) (aB.bind fun u74 aLn => (en [(3,Cc (lo 31 fH.length)),(4,Bv true)] [(0,.row 48 [iK gV]),(31,pR 3 aC u72)] z2 z2 (aB.ent (aY.mv 31 1 Q Q) (en [(3,Cc (lo 1 u72.length)),(4,Bv true)] [(0,.row 48 [iK gV]),(1,pR 3 aC u72)] ⟨congrArg (fun l1 => (some (AV.s (.c (lo 1 l1))):Option AV)) (same_eq aLn),Q,J⟩ z2 (aB.ret ⟨Q,kz z2 z2 ⟨J,au.sc,J⟩ ⟨cZ.nP ⟨au.sc,iY lF,iY pq,iY gQ,J⟩,cZ.fA gQ,J⟩⟩)))))))))))
     ·refine aB.skip (aB.blk (Wr ?_))
      refine af LT.add aU (aH (Iv (aA (rZ.2.1 + 1))) y4 (On (aV Q z4 z3)))
  ·refine eu y2 J z1
 ·refine Ws (Wr ?_)
  refine jo (gu 32 aC [] [] dO iL y7) Q Q (aJ (Cc (lo 32 (([]:List Int).length))) y4 (aJ (Bv false) aZ (On (en [(3,Cc (lo 32 (([]:List Int).length))),(4,Bv false)] [(0,.row 48 [iK gV]),(32,pR 3 aC ([]:List Int))] z2 z2 (aB.ent (aY.mv 32 1 Q Q) (en [(3,Cc (lo 1 (([]:List Int).length))),(4,Bv false)] [(0,.row 48 [iK gV]),(1,pR 3 aC ([]:List Int))] z2 z2 (bT z2 z2 ⟨J,au.sc,J⟩ ⟨cZ.nP ⟨au.sc,iY lF,iY pq,iY gQ,J⟩,cZ.fA gQ,J⟩)))))))
theorem aO8 (tV:bI):FT Tryz.prog (Qo tV) 32 [.agg (iK tV)] [] (fun (t:((List Int) × Bool)) => [.c (lo 0 t.1.length),.c (bC t.2)]) (fun (t:((List Int) × Bool)) => [(0,pR 3 aC t.1)]) [0]:=by
 refine FT.of [] Tryz.func32 Tryz.ntmps32 Q y2 ?_
 intro w0 U0 R0 g0
 unfold Qo
 refine Ws (Wr ?_)
 refine gy 21 (.agg (iK tV)) dP y5 (aJ (Cc (sC aX)) aZ (aJ (Bv false) aZ (On (Ws (Ws (Wr ?_))))))
 refine bV (bQ (iK tV) Q gZ eF dP) Q Q Q Q (aS fun r1 hr1 => (iD [.agg (iK tV)] (Oz tV r1 hr1) KE (.cons (.agg (.cons (.same Q) (.cons (.weak (.same Q) (QW.fO xM (fun h => by cases h) _)) (.cons (.weak (.same Q) (QW.fO kW (fun h => by cases h) _)) (.cons (.weak (.same Q) (QW.fO pz (fun h => by cases h) _)) .nil))))) .nil) y5 z2 (aW (LT.not Q) Q Q Q (On (aB.cond Q (fun hc2 => ?_) (fun hc2 => ?_))))))
 ·refine Ws (Wr ?_)
  refine jo (gu 23 aC [] [] dO iL y7) Q Q (aJ (Cc (lo 23 (([]:List Int).length))) y4 (aJ (Bv false) aZ (On (en [(2,Cc (lo 23 (([]:List Int).length))),(3,Bv false)] [(23,pR 3 aC ([]:List Int))] z2 z1 (aB.ent (aY.mv 23 0 Q Q) (en [(2,Cc (lo 0 (([]:List Int).length))),(3,Bv false)] [(0,pR 3 aC ([]:List Int))] z2 z1 (bT z2 z1 ⟨J,au.sc,J⟩ ⟨cZ.fA gQ,J⟩)))))))
 ·refine aB.skip (Ws (Ws (Wr ?_)))
  refine aW (LT.dR Q mM) Q Q Q (bV (bQ (Uc tV.aG) Q gY fF dS) Q Q Q Q (aS fun r3 hr3 => (aT.step (dK [.agg (Uc tV.aG)] (Fw.Fn.ren [(0,25)] (aO9 tV.aG r3 hr3) Q) aHG (.cons (.agg (.cons (.same Q) (.cons (.weak (.same Q) (QW.fO xM (fun h => by cases h) _)) (.cons (.weak (.same Q) (QW.fO kW (fun h => by cases h) _)) .nil)))) .nil) J y3) z2 J Q Q (aH (.eH [.c (lo 25 r3.1.length),.c (bC r3.2)]) y4 (jQ (.c (lo 25 r3.1.length)) y5 (jQ (.c (bC r3.2)) y5 (aJ (Cc (lo 25 r3.1.length)) y4 (aJ (Bv r3.2) y4 (On (Ws ?_))))))))))
  refine en [(1,Cc (.pl 21 0)),(4,Cc (lo 25 r3.1.length)),(5,Bv r3.2)] [(21,.row 48 [iK tV]),(25,pR 3 aC r3.1)] z3 z2 (Wr (aH (Bv r3.2) y4 (On (aB.cond Q (fun hc4 => ?_) (fun hc4 => ?_)))))
  ·refine Ws (Wr ?_)
   refine aH (Cc (lo 25 r3.1.length)) y4 (aJ (Cc (lo 25 r3.1.length)) y4 (aJ (Bv true) aZ (On (en [(2,Cc (lo 25 r3.1.length)),(3,Bv true)] [(25,pR 3 aC r3.1)] z2 z1 (aB.ent (aY.mv 25 0 Q Q) (en [(2,Cc (lo 0 r3.1.length)),(3,Bv true)] [(0,pR 3 aC r3.1)] z2 z1 (bT z2 z1 ⟨J,au.sc,J⟩ ⟨cZ.fA gQ,J⟩)))))))
  ·refine aB.skip (Ws (Wr ?_))
   refine fC (xT aC tV.aN) jy fP bK (aW (LT.fG Q dO) Q Q Q (aJ (Iv (tV.aN.length:Int)) y4 (On (Ws (Wr ?_)))))
   refine aT.pure (LT.aEH [21] Q Q) z1 J Q Q (aJ (Cc (.fn 105 [21])) y4 (On (Ws (Wr ?_))))
   refine jo (gu 26 aC [] [] dO iL y7) Q Q (aJ (Cc (lo 26 (([]:List Int).length))) y4 (On (Ws (Ws ?_))))
   refine en [(1,Cc (.pl 21 0)),(6,Iv (tV.aN.length:Int)),(7,Cc (.fn 105 [21])),(8,Cc (lo 26 (([]:List Int).length)))] [(21,.row 48 [iK tV]),(26,pR 3 aC ([]:List Int))] z4 z2 (Wr (fC (xT aC tV.aN) jy fP bK (aW (LT.fG Q dO) Q Q Q (aH (Iv 0) aZ (On (aB.block ?_))))))
   refine aB.lD (id:=0) (LQ tV) (fun s5 => ([(6,Iv (tV.aN.length:Int)),(7,Cc (.fn 105 [21])),(8,Cc (lo 26 s5.2.1.length)),(33,Cc (xT aC tV.aN)),(34,Iv (tV.aN.length:Int)),(35,Iv s5.1)],[(21,.row 48 [[iC s5.2.2.1,xT aP s5.2.2.2.1,xT aO s5.2.2.2.2.1,xT aC s5.2.2.2.2.2]]),(26,pR 3 aC s5.2.1)])) (fun ny => ([(7,Cc (.fn 105 [21])),(8,Cc (lo 26 ny.2.2.2.2.length))],[(21,.row 48 [[iC ny.1,xT aP ny.2.1,xT aO ny.2.2.1,xT aC ny.2.2.2.1]]),(26,pR 3 aC ny.2.2.2.2)])) (ja Tryz.prog Tryz.f32.results.toList [] [0] (fun (t:((List Int) × Bool)) => [.c (lo 0 t.1.length),.c (bC t.2)]) (fun (t:((List Int) × Bool)) => [(0,pR 3 aC t.1)])) ?_ (aY.of z6 z2) Q (fun ny _ => ?_) lK
   ·intro s5
    unfold LQ
    refine Ws (Wr ?_)
    refine af LT.lss y5 (On (Ws ?_))
    refine aB.cond Q (fun hc47 => ?_) (fun hc47 => ?_)
    ·refine aB.skip (Ws (aB.block (Ws (Wr ?_))))
     refine aH (Iv s5.1) y4 (aS fun jG Ig => (bg (LT.bU (enc:=aC) Q dG Ig dQ) Q Q Q Q (aW (LT.dJ Q ak) Q Q Q (aJ (Iv s5.1) y4 (aJ (Iv jG) y4 (On (Ws (Ws (Wr ?_)))))))))
     refine aH (Iv jG) y4 (af LT.eql aU (On (aB.cond Q (fun aJh => ?_) (fun aJh => ?_))))
     ·refine Ws (Wr ?_)
      refine aH (Cc (lo 26 s5.2.1.length)) y4 (aH (Iv s5.1) y4 (pV (gu 27 aC [(0,.tmp 43,.c (iC s5.1))] ([s5.1]:List Int) dO iL y7) Q Q Q (aS fun u50 aLd => (qM (LT.pK (enc:=aC) Q Q Q dO iL Q (by decide) (by decide) (fun _ => Q) (kU aLd)) Q Q Q Q Q Q (aJ (Cc (lo 26 ((s5.2.1 ++ ([s5.1]:List Int)).length))) y4 (On (aB.exit Q ?_)))))))
      refine en [(6,Iv (tV.aN.length:Int)),(7,Cc (.fn 105 [21])),(8,Cc (lo 26 ((s5.2.1 ++ ([s5.1]:List Int)).length))),(33,Cc (xT aC tV.aN)),(34,Iv (tV.aN.length:Int)),(35,Iv s5.1)] [(21,.row 48 [[iC s5.2.2.1,xT aP s5.2.2.2.1,xT aO s5.2.2.2.2.1,xT aC s5.2.2.2.2.2]]),(26,pR 3 aC (s5.2.1 ++ ([s5.1]:List Int)))] z6 z2 (Wr (af LT.add aU (aH (Iv (aA (s5.1 + 1))) y4 (On (aV Q z6 z2)))))
     ·refine aB.skip (Ws (Wr ?_))
      refine jo (gu 28 aC [] [] dO iL y7) Q Q (aJ (Cc (lo 28 (([]:List Int).length))) y4 (On (Ws (Ws ?_))))
      refine en [(6,Iv (tV.aN.length:Int)),(7,Cc (.fn 105 [21])),(8,Cc (lo 26 s5.2.1.length)),(9,Iv s5.1),(11,Cc (lo 28 (([]:List Int).length))),(33,Cc (xT aC tV.aN)),(34,Iv (tV.aN.length:Int)),(35,Iv s5.1)] [(21,.row 48 [[iC s5.2.2.1,xT aP s5.2.2.2.1,xT aO s5.2.2.2.2.1,xT aC s5.2.2.2.2.2]]),(26,pR 3 aC s5.2.1),(28,pR 3 aC ([]:List Int))] z8 z3 (Wr (aH (Iv (tV.aN.length:Int)) y4 (aH (Iv 0) aZ (On (aB.block ?_)))))
      refine aB.jM (id:=2) (Ip tV s5) (fun qH => ([(6,Iv (tV.aN.length:Int)),(7,Cc (.fn 105 [21])),(8,Cc (lo 26 s5.2.1.length)),(9,Iv s5.1),(11,Cc (lo 28 qH.2.length)),(33,Cc (xT aC tV.aN)),(34,Iv (tV.aN.length:Int)),(35,Iv s5.1),(47,Iv (tV.aN.length:Int)),(48,Iv qH.1)],[(21,.row 48 [[iC s5.2.2.1,xT aP s5.2.2.2.1,xT aO s5.2.2.2.2.1,xT aC s5.2.2.2.2.2]]),(26,pR 3 aC s5.2.1),(28,pR 3 aC qH.2)])) (fun b64 => ([(6,Iv (tV.aN.length:Int)),(7,Cc (.fn 105 [21])),(8,Cc (lo 26 b64.2.2.2.2.2.1.length)),(11,Cc (lo 28 b64.2.2.2.2.2.2.length)),(33,Cc (xT aC tV.aN)),(34,Iv (tV.aN.length:Int)),(35,Iv b64.1)],[(21,.row 48 [[iC b64.2.1,xT aP b64.2.2.1,xT aO b64.2.2.2.1,xT aC b64.2.2.2.2.1]]),(26,pR 3 aC b64.2.2.2.2.2.1),(28,pR 3 aC b64.2.2.2.2.2.2)])) ?_ (aY.of z10 z3) Q (fun b64 _ => ?_)
      ·intro qH
       unfold Ip
       refine Ws (Wr ?_)
       refine af LT.lss y5 (On (Ws ?_))
       refine aB.cond Q (fun aJm => ?_) (fun aJm => ?_)
       ·refine aB.skip (Ws (aB.block (Ws (Wr ?_))))
        refine aH (Iv qH.1) y4 (aJ (Iv qH.1) y4 (On (Ws (Wr ?_))))
        refine aH (Iv qH.1) y4 (aH (Iv s5.1) y4 (af LT.neq y5 (On (aB.eX (fun j68 => ([(6,Iv (tV.aN.length:Int)),(7,Cc (.fn 105 [21])),(8,Cc (lo 26 s5.2.1.length)),(9,Iv s5.1),(11,Cc (lo 28 j68.length)),(33,Cc (xT aC tV.aN)),(34,Iv (tV.aN.length:Int)),(35,Iv s5.1),(47,Iv (tV.aN.length:Int)),(48,Iv qH.1)],[(21,.row 48 [[iC s5.2.2.1,xT aP s5.2.2.2.1,xT aO s5.2.2.2.2.1,xT aC s5.2.2.2.2.2]]),(26,pR 3 aC s5.2.1),(28,pR 3 aC j68)])) ?_ (fun j68 _ => ?_)))))
        ·refine aB.cond Q (fun Y5 => ?_) (fun Y5 => ?_)
         ·refine Wr (aH (Cc (lo 28 qH.2.length)) y4 (aH (Iv qH.1) y4 (pV (gu 29 aC [(0,.tmp 55,.c (iC qH.1))] ([qH.1]:List Int) dO iL y7) Q Q Q (aS fun u70 Zh => (qM (LT.pK (enc:=aC) Q Q Q dO iL Q (by decide) (by decide) (fun _ => Q) (kU Zh)) Q Q Q Q Q Q (aJ (Cc (lo 28 ((qH.2 ++ ([qH.1]:List Int)).length))) y4 (On (aV Q z10 z3))))))))
         ·refine aB.skip (aV Q z10 z3)
        ·refine aB.blk (Wr ?_)
         refine af LT.add aU (aH (Iv (aA (qH.1 + 1))) y4 (On (aV Q z10 z3)))
       ·refine eu y2 z7 z3
      ·refine Ws (Wr ?_)
       refine aH (Cc (.fn 105 [21])) y4 (aH (Cc (lo 28 b64.2.2.2.2.2.2.length)) y4 (aS fun ou aK2 => (aT.step (LT.Ud (P:=Tryz.prog) (f:=105) (xs:=[.c (lo 28 b64.2.2.2.2.2.2.length)]) (sh:=[(28,pR 3 aC b64.2.2.2.2.2.2)]) [21] [.c (xF aC b64.2.2.2.2.2.2)] (show Fw.Fn Tryz.prog 105 [.c (xF aC b64.2.2.2.2.2.2),.c (.pl 21 0)] [(21,.row 48 [[iC b64.2.1,xT aP b64.2.2.1,xT aO b64.2.2.2.1,xT aC b64.2.2.2.2.1]])] (.eH [.c (lo 31 ou.1.length),.c (bC ou.2.1)]) [(21,.row 48 [iK ou.2.2]),(31,pR 3 aC ou.1)] [21] [31] from Fw.Fn.ren [(0,21),(1,31)] (aF3 b64.2.2.2.2.2.2 (bI.mk (ah.mk (bW.mk b64.2.1 b64.2.2.1) b64.2.2.2.1) b64.2.2.2.2.1) ou aK2) Q) Q aB5 (.cons (.c (.eU Q Q)) .nil) Q Q z1) z2 z2 Q Q (aH (.eH [.c (lo 31 ou.1.length),.c (bC ou.2.1)]) y4 (jQ (.c (lo 31 ou.1.length)) y5 (jQ (.c (bC ou.2.1)) y5 (aJ (Cc (lo 31 ou.1.length)) y4 (aJ (Bv ou.2.1) y4 (On (Ws (Wr ?_)))))))))))
       refine aH (Bv ou.2.1) y4 (On (aB.cond Q (fun aJo => ?_) (fun aJo => ?_)))
       ·refine Ws (en [(13,Cc (lo 31 ou.1.length))] [(31,pR 3 aC ou.1)] z1 z1 (Wr (aH (Cc (lo 31 ou.1.length)) y4 (aJ (Cc (lo 31 ou.1.length)) y4 (aJ (Bv true) aZ (On (en [(2,Cc (lo 31 ou.1.length)),(3,Bv true)] [(31,pR 3 aC ou.1)] z2 z1 (aB.ent (aY.mv 31 0 Q Q) (en [(2,Cc (lo 0 ou.1.length)),(3,Bv true)] [(0,pR 3 aC ou.1)] z2 z1 (aB.ret ⟨Q,kz z2 z1 ⟨J,au.sc,J⟩ ⟨cZ.fA gQ,J⟩⟩))))))))))
       ·refine aB.skip (aB.blk ?_)
        refine en [(6,Iv (tV.aN.length:Int)),(7,Cc (.fn 105 [21])),(8,Cc (lo 26 b64.2.2.2.2.2.1.length)),(33,Cc (xT aC tV.aN)),(34,Iv (tV.aN.length:Int)),(35,Iv b64.1)] [(21,.row 48 [iK ou.2.2]),(26,pR 3 aC b64.2.2.2.2.2.1)] z6 z2 (Wr (af LT.add aU (aH (Iv (aA (b64.1 + 1))) y4 (On (aV Q z6 z2)))))
    ·refine eu y2 z2 z2
   ·refine Ws (Wr ?_)
    refine aH (Cc (.fn 105 [21])) y4 (aH (Cc (lo 26 ny.2.2.2.2.length)) y4 (aS fun rC ZW => (aT.step (LT.Ud (P:=Tryz.prog) (f:=105) (xs:=[.c (lo 26 ny.2.2.2.2.length)]) (sh:=[(26,pR 3 aC ny.2.2.2.2)]) [21] [.c (xF aC ny.2.2.2.2)] (show Fw.Fn Tryz.prog 105 [.c (xF aC ny.2.2.2.2),.c (.pl 21 0)] [(21,.row 48 [[iC ny.1,xT aP ny.2.1,xT aO ny.2.2.1,xT aC ny.2.2.2.1]])] (.eH [.c (lo 33 rC.1.length),.c (bC rC.2.1)]) [(21,.row 48 [iK rC.2.2]),(33,pR 3 aC rC.1)] [21] [33] from Fw.Fn.ren [(0,21),(1,33)] (aF3 ny.2.2.2.2 (bI.mk (ah.mk (bW.mk ny.1 ny.2.1) ny.2.2.1) ny.2.2.2.1) rC ZW) Q) Q aB5 (.cons (.c (.eU Q Q)) .nil) Q Q z1) z2 z2 Q Q (jQ (.c (lo 33 rC.1.length)) y5 (jQ (.c (bC rC.2.1)) y5 (aJ (Cc (lo 33 rC.1.length)) y4 (aJ (Bv rC.2.1) y4 (On (en [(2,Cc (lo 33 rC.1.length)),(3,Bv rC.2.1)] [(33,pR 3 aC rC.1)] z2 z1 (aB.ent (aY.mv 33 0 Q Q) (en [(2,Cc (lo 0 rC.1.length)),(3,Bv rC.2.1)] [(0,pR 3 aC rC.1)] z2 z1 ?_)))))))))))
    refine bT z2 z1 ⟨J,au.sc,J⟩ ⟨cZ.fA gQ,J⟩
theorem aBH (f:ah):FT Tryz.prog (JA f) 110 [.agg (aj f)] [] (fun (t:(List (List Int))) => [.c (lo 0 t.length)]) (fun (t:(List (List Int))) => [(0,pR 28 (bG true) t)]) [0]:=by
 refine FT.of [] Tryz.func110 Tryz.ntmps110 Q y2 ?_
 intro w0 U0 R0 g0
 unfold JA
 refine Ws (Wr ?_)
 refine gy 21 (.agg (aj f)) dS y5 (aJ (Cc (sC aX)) aZ (On (Ws (Ws (Wr ?_)))))
 refine bV (bQ (aj f) Q gY fF dS) Q Q Q Q (aS fun r1 hr1 => (iD [.agg (aj f)] (Gt f r1 hr1) E8 (mV y3) y5 z2 (aW (LT.not Q) Q Q Q (On (aB.cond Q (fun hc2 => ?_) (fun hc2 => ?_))))))
 ·refine Ws (Wr ?_)
  refine jo (gu 23 (bG true) [] ([]:List (List Int)) jR oH y7) Q Q (aJ (Cc (lo 23 (([]:List (List Int)).length))) y4 (On (en [(2,Cc (lo 23 (([]:List (List Int)).length)))] [(23,pR 28 (bG true) ([]:List (List Int)))] z1 z1 (aB.ent (aY.mv 23 0 Q Q) (en [(2,Cc (lo 0 (([]:List (List Int)).length)))] [(0,pR 28 (bG true) ([]:List (List Int)))] z1 z1 (bT z1 z1 ⟨J,J⟩ ⟨cZ.fA Am,J⟩))))))
 ·refine aB.skip (Ws (aB.draw mixed ?_))
  refine fM (bQ (aj f) Q gY fF dS) Q Q Q Q (aQ.bind fun r3 hr3 => (aQ.step (dK [.agg (aj f)] (Fw.Fn.ren [(0,25)] (aBJ f r3 hr3) Q) YB (mV y3) J y3) z2 J Q Q (ax (LT.dR Q jW) Q Q Q (dh (iC f.Graph.aI) lT ak bK (dV LT.mul lV (aQ.bind fun r4 hr4 => (aQ.step (cF [.c (lo 25 r3.length),.c (iC (aA (2 * f.Graph.aI)))] [(25,pR 28 (bG true) r3)] (Fw.Fn.ren [(0,27)] (aGU r3 (aA (2 * f.Graph.aI)) r4 hr4) Q) aCI (.cons (.c (.weak (.eU (enc:=bG true) Q Q) (QW.fO aAc (fun h => h) _))) (.cons (.c (.same Q)) .nil)) J y3) z3 z1 Q Q (ax (LT.assign (v:=(Cc (lo 27 r4.length))) Q) Q Q Q (dm (en [(2,Cc (lo 27 r4.length))] [(27,pR 28 (bG true) r4)] z1 z1 ?_))))))))))
  refine aB.ent (aY.mv 27 0 Q Q) (en [(2,Cc (lo 0 r4.length))] [(0,pR 28 (bG true) r4)] z1 z1 (bT z1 z1 ⟨J,J⟩ ⟨cZ.fA Am,J⟩))
theorem Xj (f:ah) (v:(List Int)):FT Tryz.prog (F6 f v) 120 [.agg (aj f),.c (xF aC v)] [] (fun (t:Bool) => [.c (bC t)]) (fun (t:Bool) => []) []:=by
 refine FT.of [] Tryz.func120 Tryz.ntmps120 Q y2 ?_
 intro w0 U0 R0 g0
 unfold F6
 refine Ws (Wr ?_)
 refine gy 21 (.agg (aj f)) dS y5 (aJ (Bv false) aZ (On (Ws (Ws (Wr ?_)))))
 refine aJ (Iv 0) aZ (On (aB.block ?_))
 refine aB.lD (id:=0) (JE v) (fun s1 => ([(1,Cc (xF aC v)),(2,Cc (.pl 21 0)),(5,Iv s1)],[(21,.row 46 [aj f])])) (fun b10 => ([(1,Cc (xF aC v)),(2,Cc (.pl 21 0))],[(21,.row 46 [aj f])])) (ja Tryz.prog Tryz.f120.results.toList [] [] (fun (t:Bool) => [.c (bC t)]) (fun (t:Bool) => [])) ?_ (aY.of z3 z1) Q (fun b10 _ => ?_) lK
 ·intro s1
  unfold JE
  refine Ws (Ws (Wr ?_))
  refine aH (Iv s1) y4 (aH (Cc (xF aC v)) y4 (aW (LT.fG Q dO) Q Q Q (af LT.lss y5 (On (aB.cond Q (fun sG => ?_) (fun sG => ?_))))))
  ·refine aB.skip (Ws (aB.block (Ws (Wr ?_))))
   refine aH (Cc (xF aC v)) y4 (aH (Iv s1) y4 (aS fun x12 wO => (bg (LT.bU (enc:=aC) Q dG wO dQ) Q Q Q Q (aW (LT.dJ Q ak) Q Q Q (aS fun r13 uF => (iD [.c (iC x12),.c (iC (-10000000000)),.c (iC 10000000000)] (DF x12 (-10000000000) 10000000000 r13 uF) BN (vK y3) y5 ⟨Q,Q,y2,y2,J⟩ (aW (LT.not Q) Q Q Q (On (aB.cond Q (fun yS => ?_) (fun yS => ?_))))))))))
   ·refine Ws (Wr ?_)
    refine aJ (Bv false) aZ (On (aB.ret ⟨Q,kz z1 J ⟨au.sc,J⟩ J⟩))
   ·refine aB.skip (aB.blk (Wr ?_))
    refine aH (Iv s1) y4 (af LT.add aU (aJ (Iv (aA (s1 + 1))) y4 (On (aV Q z3 z1))))
  ·refine eu y2 z2 z1
 ·refine Ws (aB.eX (fun j17 => ([(4,Bv j17)],[])) ?_ (fun j17 _ => ?_))
  ·refine Wr (bV (bQ (aj f) Q gY fF dS) Q Q Q Q (aS fun jk Aa => (iD [.agg (aj f)] (Gt f jk Aa) E8 (mV y3) y5 z2 (aH (Bv jk) y4 (aT.split (fun iH => ?_) (fun iH => ?_))))))
   ·refine dB (Cc (xF aC v)) iH y5 (aW (LT.fG Q dO) Q (gH iH Q Q) Q (aW (LT.dR Q jW) Q (gH iH Q Q) Q (jd (iC f.Graph.aI) lT ak iH iJ (fB LT.mul iH Jj (fB LT.eql iH y6 (dD (Bv ((v.length:Int) == (aA (2 * f.Graph.aI)))) iH y5 (aJ (Bv ((v.length:Int) == (aA (2 * f.Graph.aI)))) y4 (On (aV Q z1 J)))))))))
   ·refine aK iH y5 (aK iH y5 (aK iH y5 (aK iH y5 (aK iH y5 (aK iH y5 (aK iH y5 (dA (Bv false) iH aU (aJ (Bv false) y4 (On (aV Q z1 J))))))))))
  ·refine bT z1 J ⟨au.sc,J⟩ J
theorem aGC (f:ah) (v:(List Int)) (a:Int) (b:Int):FT Tryz.prog (Mc f v a b) 121 [.agg (aj f),.c (xF aC v),.c (iC a),.c (iC b)] [] (fun (t:Int) => [.c (iC t)]) (fun (t:Int) => []) []:=by
 refine FT.of [] Tryz.func121 Tryz.ntmps121 Q y2 ?_
 intro w0 U0 R0 g0
 unfold Mc
 refine Ws (Wr ?_)
 refine gy 21 (.agg (aj f)) dS y5 (aJ (Iv 0) aZ (On (Ws (Ws ?_))))
 refine aB.eX (fun j6 => ([(1,Cc (xF aC v)),(2,Iv a),(3,Iv b),(4,Cc (.pl 21 0)),(34,Bv j6)],[(21,.row 46 [aj f])])) ?_ (fun j6 _ => ?_)
 ·refine Wr (bV (bQ (aj f) Q gY fF dS) Q Q Q Q (aH (Cc (xF aC v)) y4 (aS fun r7 lH => (iD [.agg (aj f),.c (xF aC v)] (Xj f v r7 lH) Ug (vM y4) y5 z3 (aW (LT.not Q) Q Q Q (aH (Bv (!r7)) y4 (aT.split (fun hb8 => ?_) (fun hb8 => ?_))))))))
  ·refine aK hb8 y5 (aK hb8 y5 (dD (Bv true) hb8 aU (aH (Bv true) y4 (bF y5 (bF y5 (dD (Bv true) Q aU (aH (Bv true) y4 (bF y5 (bF y5 (bF y5 (bF y5 ?_)))))))))))
   refine bF y5 (dD (Bv true) Q aU (aH (Bv true) y4 (bF y5 (bF y5 (bF y5 (bF y5 (bF y5 (dD (Bv true) Q aU (On (aV Q z5 z1))))))))))
  ·refine dB (Iv a) hb8 y5 (fB LT.lss hb8 iT (dA (Bv (decide (a < 0))) hb8 y5 (aH (Bv (decide (a < 0))) y4 (aT.split (fun mY => ?_) (fun mY => ?_)))))
   ·refine aK mY y5 (aK mY y5 (dD (Bv true) mY aU (aH (Bv true) y4 (bF y5 (bF y5 (bF y5 (bF y5 (bF y5 (dD (Bv true) Q aU (aH (Bv true) y4 (bF y5 ?_)))))))))))
    refine bF y5 (bF y5 (bF y5 (bF y5 (dD (Bv true) Q aU (On (aV Q z5 z1))))))
   ·refine dB (Iv b) mY y5 (fB LT.lss mY iT (dA (Bv (decide (b < 0))) mY y5 (aH (Bv (decide (b < 0))) y4 (aT.split (fun mX => ?_) (fun mX => ?_)))))
    ·refine aK mX y5 (aK mX y5 (aK mX y5 (aK mX y5 (aK mX y5 (dD (Bv true) mX aU (aH (Bv true) y4 (bF y5 (bF y5 (bF y5 (bF y5 (bF y5 ?_)))))))))))
     refine dD (Bv true) Q aU (On (aV Q z5 z1))
    ·refine dB (Iv a) mX y5 (aW (LT.dR Q jW) Q (gH mX Q Q) Q (jd (iC f.Graph.aI) lT ak mX iJ (fB LT.geq mX y6 (dA (Bv (decide (f.Graph.aI ≤ a))) mX y5 (aH (Bv (decide (f.Graph.aI ≤ a))) y4 (aT.split (fun sU => ?_) (fun sU => ?_)))))))
     ·refine aK sU y5 (aK sU y5 (aK sU y5 (aK sU y5 (aK sU y5 (dD (Bv true) sU aU (On (aV Q z5 z1)))))))
     ·refine dB (Iv b) sU y5 (aW (LT.dR Q jW) Q (gH sU Q Q) Q (jd (iC f.Graph.aI) lT ak sU iJ (fB LT.geq sU y6 (dA (Bv (decide (f.Graph.aI ≤ b))) sU y5 (On (aV Q z5 z1))))))
 ·refine aB.cond Q (fun hc12 => ?_) (fun hc12 => ?_)
  ·refine Ws (Wr ?_)
   refine aJ (Iv 0) aZ (On (bT z1 J ⟨au.sc,J⟩ J))
  ·refine aB.skip (Ws (aB.draw mixed ?_))
   refine dh (xF aO f.Places) iR iV bK (ay (Iv a) y4 (aQ.bind fun kZ wP => (bZ (LT.bU (enc:=aO) Q jU wP fE) Q Q Q Q (ax (LT.oW Q qC) Q Q Q (ax (LT.dJ Q ak) Q Q Q (dh (xF aO f.Places) iR iV bK (ay (Iv b) y4 (aQ.bind fun x14 QN => (bZ (LT.bU (enc:=aO) Q jU QN fE) Q Q Q Q ?_)))))))))
   refine ax (LT.oW Q qC) Q Q Q (ax (LT.dJ Q ak) Q Q Q (dV LT.sub y5 (ay (Cc (xF aC v)) y4 (ay (Iv a) y4 (dV LT.mul lV (aQ.bind fun x15 KX => (bZ (LT.bU (enc:=aC) Q dG KX dQ) Q Q Q Q (ax (LT.dJ Q ak) Q Q Q (ay (Cc (xF aC v)) y4 (ay (Iv b) y4 (dV LT.mul lV ?_)))))))))))
   refine aQ.bind fun x16 hx16 => (bZ (LT.bU (enc:=aC) Q dG hx16 dQ) Q Q Q Q (ax (LT.dJ Q ak) Q Q Q (dV LT.sub y5 (dV LT.mul y5 (dh (xF aO f.Places) iR iV bK (ay (Iv a) y4 (aQ.bind fun x17 EF => (bZ (LT.bU (enc:=aO) Q jU EF fE) Q Q Q Q (ax (LT.oW Q qQ) Q Q Q (ax (LT.dJ Q ak) Q Q Q ?_))))))))))
   refine dh (xF aO f.Places) iR iV bK (ay (Iv b) y4 (aQ.bind fun x18 Bf => (bZ (LT.bU (enc:=aO) Q jU Bf fE) Q Q Q Q (ax (LT.oW Q qQ) Q Q Q (ax (LT.dJ Q ak) Q Q Q (dV LT.sub y5 (ay (Cc (xF aC v)) y4 (ay (Iv a) y4 (dV LT.mul lV (dV LT.add aU ?_))))))))))
   refine aQ.bind fun x19 QS => (bZ (LT.bU (enc:=aC) Q dG QS dQ) Q Q Q Q (ax (LT.dJ Q ak) Q Q Q (ay (Cc (xF aC v)) y4 (ay (Iv b) y4 (dV LT.mul lV (dV LT.add aU (aQ.bind fun x20 Ad => (bZ (LT.bU (enc:=aC) Q dG Ad dQ) Q Q Q Q (ax (LT.dJ Q ak) Q Q Q (dV LT.sub y5 (dV LT.mul y5 ?_)))))))))))
   refine dV LT.add y5 (ax (LT.assign (v:=(Iv (aA ((aA ((aA (kZ.X - x14.X)) * (aA (x15 - x16)))) + (aA ((aA (x17.Y - x18.Y)) * (aA (x19 - x20)))))))) Q) Q Q Q (dm (bT z1 J ⟨au.sc,J⟩ J)))
theorem aPs (f:ah) (v:(List Int)):FT Tryz.prog (SE f v) 163 [.agg (aj f),.c (xF aC v)] [] (fun (t:Bool) => [.c (bC t)]) (fun (t:Bool) => []) []:=by
 refine FT.of [] Tryz.func163 Tryz.ntmps163 Q y2 ?_
 intro w0 U0 R0 g0
 unfold SE
 refine Ws (Wr ?_)
 refine gy 21 (.agg (aj f)) dS y5 (aJ (Bv false) aZ (On (Ws (Ws (Wr ?_)))))
 refine aJ (Iv 1) aZ (On (aB.block ?_))
 refine aB.lD (id:=0) (Nb f v) (fun s1 => ([(1,Cc (xF aC v)),(2,Cc (.pl 21 0)),(5,Iv s1)],[(21,.row 46 [aj f])])) (fun aBp => ([],[])) (ja Tryz.prog Tryz.f163.results.toList [] [] (fun (t:Bool) => [.c (bC t)]) (fun (t:Bool) => [])) ?_ (aY.of z3 z1) Q (fun aBp _ => ?_) lK
 ·intro s1
  unfold Nb
  refine Ws (Ws (Wr ?_))
  refine aH (Iv s1) y4 (aW (LT.dR Q jW) Q Q Q (fC (iC f.Graph.aI) lT ak bK (af LT.lss y5 (On (aB.cond Q (fun hc101 => ?_) (fun hc101 => ?_))))))
  ·refine aB.skip (Ws (aB.block (Ws (Wr ?_))))
   refine aJ (Iv 1) aZ (On (aB.block ?_))
   refine aB.lD (id:=2) (Nc f v s1) (fun rD => ([(1,Cc (xF aC v)),(2,Cc (.pl 21 0)),(5,Iv s1),(6,Iv rD)],[(21,.row 46 [aj f])])) (fun J8 => ([(1,Cc (xF aC v)),(2,Cc (.pl 21 0)),(5,Iv J8)],[(21,.row 46 [aj f])])) (ja Tryz.prog Tryz.f163.results.toList [] [] (fun (t:Bool) => [.c (bC t)]) (fun (t:Bool) => [])) ?_ (aY.of z4 z1) Q (fun J8 _ => ?_) (by intro r t σ m ht hk; injection ht with ht; subst ht; exact ⟨Q,hk⟩)
   ·intro rD
    unfold Nc
    refine Ws (Ws (Wr ?_))
    refine aH (Iv rD) y4 (aH (Iv s1) y4 (af LT.lss y5 (On (aB.cond Q (fun hc150 => ?_) (fun hc150 => ?_)))))
    ·refine aB.skip (Ws (aB.block (Ws (aB.draw mixed ?_))))
     refine dh (xF aO f.Places) iR iV bK (ay (Iv s1) y4 (aQ.bind fun x151 hx151 => (bZ (LT.bU (enc:=aO) Q jU hx151 fE) Q Q Q Q (ax (LT.oW Q qC) Q Q Q (ax (LT.dJ Q ak) Q Q Q (dh (xF aO f.Places) iR iV bK (aQ.bind fun x152 hx152 => (bZ (LT.bU (enc:=aO) Q jU hx152 fE) Q y2 Q Q (ax (LT.oW Q qC) Q Q Q ?_)))))))))
     refine ax (LT.dJ Q ak) Q Q Q (dV LT.sub y5 (ax (LT.assign (v:=(Iv (aA (x151.X - x152.X)))) Q) Q Q Q (dm (Ws (en [(1,Cc (xF aC v)),(2,Cc (.pl 21 0)),(5,Iv s1),(6,Iv rD),(7,Iv (aA (x151.X - x152.X)))] [(21,.row 46 [aj f])] z5 z1 (aB.draw mixed (dh (xF aO f.Places) iR iV bK (ay (Iv s1) y4 (aQ.bind fun x153 hx153 => (bZ (LT.bU (enc:=aO) Q jU hx153 fE) Q Q Q Q ?_))))))))))
     refine ax (LT.oW Q qQ) Q Q Q (ax (LT.dJ Q ak) Q Q Q (dh (xF aO f.Places) iR iV bK (aQ.bind fun vO aL1 => (bZ (LT.bU (enc:=aO) Q jU aL1 fE) Q y2 Q Q (ax (LT.oW Q qQ) Q Q Q (ax (LT.dJ Q ak) Q Q Q (dV LT.sub y5 (ax (LT.assign (v:=(Iv (aA (x153.Y - vO.Y)))) Q) Q Q Q (dm (Ws ?_))))))))))
     refine en [(1,Cc (xF aC v)),(2,Cc (.pl 21 0)),(5,Iv s1),(6,Iv rD),(7,Iv (aA (x151.X - x152.X))),(8,Iv (aA (x153.Y - vO.Y)))] [(21,.row 46 [aj f])] z6 z1 (aB.draw mixed (dh (xF aO f.Places) iR iV bK (ay (Iv rD) y4 (aQ.bind fun vz aL2 => (bZ (LT.bU (enc:=aO) Q jU aL2 fE) Q Q Q Q (ax (LT.oW Q qC) Q Q Q (ax (LT.dJ Q ak) Q Q Q (dh (xF aO f.Places) iR iV bK (aQ.bind fun wB aL3 => ?_)))))))))
     refine bZ (LT.bU (enc:=aO) Q jU aL3 fE) Q y2 Q Q (ax (LT.oW Q qC) Q Q Q (ax (LT.dJ Q ak) Q Q Q (dV LT.sub y5 (ax (LT.assign (v:=(Iv (aA (vz.X - wB.X)))) Q) Q Q Q (dm (Ws (en [(1,Cc (xF aC v)),(2,Cc (.pl 21 0)),(5,Iv s1),(6,Iv rD),(7,Iv (aA (x151.X - x152.X))),(8,Iv (aA (x153.Y - vO.Y))),(9,Iv (aA (vz.X - wB.X)))] [(21,.row 46 [aj f])] z7 z1 (aB.draw mixed (dh (xF aO f.Places) iR iV bK (ay (Iv rD) y4 ?_))))))))))
     refine aQ.bind fun x157 hx157 => (bZ (LT.bU (enc:=aO) Q jU hx157 fE) Q Q Q Q (ax (LT.oW Q qQ) Q Q Q (ax (LT.dJ Q ak) Q Q Q (dh (xF aO f.Places) iR iV bK (aQ.bind fun x158 hx158 => (bZ (LT.bU (enc:=aO) Q jU hx158 fE) Q y2 Q Q (ax (LT.oW Q qQ) Q Q Q (ax (LT.dJ Q ak) Q Q Q (dV LT.sub y5 (ax (LT.assign (v:=(Iv (aA (x157.Y - x158.Y)))) Q) Q Q Q ?_))))))))))
     refine dm (Ws (en [(1,Cc (xF aC v)),(2,Cc (.pl 21 0)),(5,Iv s1),(6,Iv rD),(7,Iv (aA (x151.X - x152.X))),(8,Iv (aA (x153.Y - vO.Y))),(9,Iv (aA (vz.X - wB.X))),(10,Iv (aA (x157.Y - x158.Y)))] [(21,.row 46 [aj f])] z8 z1 (aB.draw mixed (ay (Cc (xF aC v)) y4 (ay (Iv s1) y4 (dV LT.mul lV (aQ.bind fun x159 hx159 => (bZ (LT.bU (enc:=aC) Q dG hx159 dQ) Q Q Q Q (ax (LT.dJ Q ak) Q Q Q (ay (Cc (xF aC v)) y4 (aQ.bind fun x160 hx160 => ?_)))))))))))
     refine bZ (LT.bU (enc:=aC) Q dG hx160 dQ) Q y2 Q Q (ax (LT.dJ Q ak) Q Q Q (dV LT.sub y5 (ax (LT.assign (v:=(Iv (aA (x159 - x160)))) Q) Q Q Q (dm (Ws (aB.draw mixed ?_))))))
     refine ay (Cc (xF aC v)) y4 (ay (Iv s1) y4 (dV LT.mul lV (dV LT.add aU (aQ.bind fun BA aL4 => (bZ (LT.bU (enc:=aC) Q dG aL4 dQ) Q Q Q Q (ax (LT.dJ Q ak) Q Q Q (ay (Cc (xF aC v)) y4 (aQ.bind fun BD aL5 => (bZ (LT.bU (enc:=aC) Q dG aL5 dQ) Q y2 Q Q (ax (LT.dJ Q ak) Q Q Q (dV LT.sub y5 ?_)))))))))))
     refine ax (LT.assign (v:=(Iv (aA (BA - BD)))) Q) Q Q Q (dm (Ws (en [(1,Cc (xF aC v)),(2,Cc (.pl 21 0)),(5,Iv s1),(6,Iv rD),(7,Iv (aA (x151.X - x152.X))),(8,Iv (aA (x153.Y - vO.Y))),(9,Iv (aA (vz.X - wB.X))),(10,Iv (aA (x157.Y - x158.Y))),(11,Iv (aA (x159 - x160))),(12,Iv (aA (BA - BD)))] [(21,.row 46 [aj f])] z10 z1 (aB.draw mixed (ay (Cc (xF aC v)) y4 (ay (Iv rD) y4 (dV LT.mul lV (aQ.bind fun DL aL6 => (bZ (LT.bU (enc:=aC) Q dG aL6 dQ) Q Q Q Q (ax (LT.dJ Q ak) Q Q Q (ay (Cc (xF aC v)) y4 ?_)))))))))))
     refine aQ.bind fun DN aL7 => (bZ (LT.bU (enc:=aC) Q dG aL7 dQ) Q y2 Q Q (ax (LT.dJ Q ak) Q Q Q (dV LT.sub y5 (ax (LT.assign (v:=(Iv (aA (DL - DN)))) Q) Q Q Q (dm (Ws (aB.draw mixed ?_)))))))
     refine ay (Cc (xF aC v)) y4 (ay (Iv rD) y4 (dV LT.mul lV (dV LT.add aU (aQ.bind fun DR aL8 => (bZ (LT.bU (enc:=aC) Q dG aL8 dQ) Q Q Q Q (ax (LT.dJ Q ak) Q Q Q (ay (Cc (xF aC v)) y4 (aQ.bind fun DT aL9 => (bZ (LT.bU (enc:=aC) Q dG aL9 dQ) Q y2 Q Q (ax (LT.dJ Q ak) Q Q Q (dV LT.sub y5 ?_)))))))))))
     refine ax (LT.assign (v:=(Iv (aA (DR - DT)))) Q) Q Q Q (dm (Ws (aB.eX (fun Vx => ([(1,Cc (xF aC v)),(2,Cc (.pl 21 0)),(5,Iv s1),(6,Iv rD),(153,Bv Vx)],[(21,.row 46 [aj f])])) ?_ (fun Vx _ => ?_))))
     ·refine en [(1,Cc (xF aC v)),(2,Cc (.pl 21 0)),(5,Iv s1),(6,Iv rD),(7,Iv (aA (x151.X - x152.X))),(8,Iv (aA (x153.Y - vO.Y))),(9,Iv (aA (vz.X - wB.X))),(10,Iv (aA (x157.Y - x158.Y))),(11,Iv (aA (x159 - x160))),(12,Iv (aA (BA - BD))),(13,Iv (aA (DL - DN))),(14,Iv (aA (DR - DT)))] [(21,.row 46 [aj f])] z12 z1 (Wr (aH (Iv (aA (x151.X - x152.X))) y4 (aH (Iv (aA (x157.Y - x158.Y))) y4 (af LT.mul y5 (aH (Iv (aA (x153.Y - vO.Y))) y4 (aH (Iv (aA (vz.X - wB.X))) y4 (af LT.mul y5 (af LT.eql y5 (aH (Bv ((aA ((aA (x151.X - x152.X)) * (aA (x157.Y - x158.Y)))) == (aA ((aA (x153.Y - vO.Y)) * (aA (vz.X - wB.X)))))) y4 (aT.split (fun lG => ?_) (fun lG => ?_)))))))))))
      ·refine dB (Iv (aA (vz.X - wB.X))) lG y5 (dB (Iv (aA (x159 - x160))) lG y5 (fB LT.mul lG y6 (dB (Iv (aA (x157.Y - x158.Y))) lG y5 (dB (Iv (aA (BA - BD))) lG y5 (fB LT.mul lG y6 (fB LT.add lG y6 (dB (Iv (aA (x151.X - x152.X))) lG y5 (dB (Iv (aA (DL - DN))) lG y5 (fB LT.mul lG y6 (dB (Iv (aA (x153.Y - vO.Y))) lG y5 (dB (Iv (aA (DR - DT))) lG y5 ?_)))))))))))
       refine fB LT.mul lG y6 (fB LT.add lG y6 (fB LT.neq lG y6 (dB (Bv ((aA ((aA ((aA (vz.X - wB.X)) * (aA (x159 - x160)))) + (aA ((aA (x157.Y - x158.Y)) * (aA (BA - BD)))))) != (aA ((aA ((aA (x151.X - x152.X)) * (aA (DL - DN)))) + (aA ((aA (x153.Y - vO.Y)) * (aA (DR - DT)))))))) lG y5 (aT.split (fun nH => ?_) (fun nH => ?_)))))
       ·refine aK nH y5 (aK nH y5 (aK nH y5 (aK nH y5 (aK nH y5 (aK nH y5 (aK nH y5 (aK nH y5 (aK nH y5 (aK nH y5 (aK nH y5 (aK nH y5 ?_)))))))))))
        refine aK nH y5 (aK nH y5 (aK nH y5 (bg (LT.nY (v:=(Bv true)) Q nH) Q y2 (gH lG Q Q) Q (dD (Bv true) lG y5 (On (aV Q z5 z1))))))
       ·refine dB (Iv (aA (vz.X - wB.X))) nH y5 (dB (Iv (aA (BA - BD))) nH y5 (fB LT.mul nH y6 (dB (Iv (aA (x157.Y - x158.Y))) nH y5 (dB (Iv (aA (x159 - x160))) nH y5 (fB LT.mul nH y6 (fB LT.sub nH y6 (dB (Iv (aA (x151.X - x152.X))) nH y5 (dB (Iv (aA (DR - DT))) nH y5 (fB LT.mul nH y6 (dB (Iv (aA (x153.Y - vO.Y))) nH y5 (dB (Iv (aA (DL - DN))) nH y5 ?_)))))))))))
        refine fB LT.mul nH y6 (fB LT.sub nH y6 (fB LT.neq nH y6 (bg (LT.oG (v:=(Bv ((aA ((aA ((aA (vz.X - wB.X)) * (aA (BA - BD)))) - (aA ((aA (x157.Y - x158.Y)) * (aA (x159 - x160)))))) != (aA ((aA ((aA (x151.X - x152.X)) * (aA (DR - DT)))) - (aA ((aA (x153.Y - vO.Y)) * (aA (DL - DN))))))))) Q nH) Q Q (gH lG Q Q) Q (dD (Bv ((aA ((aA ((aA (vz.X - wB.X)) * (aA (BA - BD)))) - (aA ((aA (x157.Y - x158.Y)) * (aA (x159 - x160)))))) != (aA ((aA ((aA (x151.X - x152.X)) * (aA (DR - DT)))) - (aA ((aA (x153.Y - vO.Y)) * (aA (DL - DN)))))))) lG y5 (On (aV Q z5 z1))))))
      ·refine aK lG y5 (aK lG y5 (aK lG y5 (aK lG y5 (aK lG y5 (aK lG y5 (aK lG y5 (aK lG y5 (aK lG y5 (aK lG y5 (aK lG y5 (aK lG y5 ?_)))))))))))
       refine aK lG y5 (aK lG y5 (aK lG y5 (aK lG y5 (Oj Q Q Q Q (Oj Q Q Q Q (Oj Q Q Q Q (Oj Q Q Q Q (Oj Q Q Q Q (Oj Q Q Q Q (Oj Q Q Q Q (Oj Q Q Q Q ?_)))))))))))
       refine Oj Q Q Q Q (Oj Q Q Q Q (Oj Q Q Q Q (Oj Q Q Q Q (Oj Q Q Q Q (Oj Q Q Q Q (Oj Q Q Q Q (aK lG y5 (dA (Bv false) lG aU (On (aV Q z5 z1))))))))))
     ·refine aB.cond Q (fun aJT => ?_) (fun aJT => ?_)
      ·refine Ws (Wr ?_)
       refine aJ (Bv false) aZ (On (aB.ret ⟨Q,kz z1 J ⟨au.sc,J⟩ J⟩))
      ·refine aB.skip (aB.blk (Wr ?_))
       refine aH (Iv rD) y4 (af LT.add aU (aJ (Iv (aA (rD + 1))) y4 (On (aV Q z4 z1))))
    ·refine eu y2 z3 z1
   ·refine aB.blk (Wr ?_)
    refine aH (Iv J8) y4 (af LT.add aU (aJ (Iv (aA (J8 + 1))) y4 (On (aV Q z3 z1))))
  ·refine eu y2 J J
 ·refine Ws (Wr ?_)
  refine aJ (Bv true) aZ (On (bT z1 J ⟨au.sc,J⟩ J))
theorem aGH (f:ah) (v:(List Int)):FT Tryz.prog (Fp f v) 123 [.agg (aj f),.c (xF aC v)] [] (fun (t:Bool) => [.c (bC t)]) (fun (t:Bool) => []) []:=by
 refine FT.of [] Tryz.func123 Tryz.ntmps123 Q y2 ?_
 intro w0 U0 R0 g0
 unfold Fp
 refine Ws (Wr ?_)
 refine gy 21 (.agg (aj f)) dS y5 (aJ (Bv false) aZ (On (Ws (Ws (Wr ?_)))))
 refine aJ (Iv 0) aZ (On (aB.block ?_))
 refine aB.lD (id:=0) (Fq f v) (fun s1 => ([(1,Cc (xF aC v)),(2,Cc (.pl 21 0)),(5,Iv s1)],[(21,.row 46 [aj f])])) (fun b110 => ([(1,Cc (xF aC v)),(2,Cc (.pl 21 0))],[(21,.row 46 [aj f])])) (ja Tryz.prog Tryz.f123.results.toList [] [] (fun (t:Bool) => [.c (bC t)]) (fun (t:Bool) => [])) ?_ (aY.of z3 z1) Q (fun b110 _ => ?_) lK
 ·intro s1
  unfold Fq
  refine Ws (Ws ?_)
  refine aB.eX (fun j113 => ([(1,Cc (xF aC v)),(2,Cc (.pl 21 0)),(5,Iv s1),(16,Bv j113)],[(21,.row 46 [aj f])])) ?_ (fun j113 _ => ?_)
  ·refine Wr (aH (Iv s1) y4 (aW (LT.dR Q jW) Q Q Q (fC (iC f.Graph.aI) lT ak bK (af LT.lss y5 (aH (Bv (decide (s1 < f.Graph.aI))) y4 (aT.split (fun qE => ?_) (fun qE => ?_)))))))
   ·refine bV (bQ (aj f) Q gY fF dS) Q Q (gH qE Q Q) Q (dB (Cc (xF aC v)) qE y5 (aS fun GX ZI => (aT.pure (dK [.agg (aj f),.c (xF aC v)] (Xj f v GX ZI) Ug (vM y4) J y3) z3 J (gH qE Q Q) Q (dD (Bv GX) qE y5 (On (aV Q z4 z1))))))
   ·refine aK qE y5 (aK qE y5 (aK qE y5 (dA (Bv false) qE aU (On (aV Q z4 z1)))))
  ·refine aB.cond Q (fun Yq => ?_) (fun Yq => ?_)
   ·refine aB.skip (Ws (aB.block (Ws (Wr ?_))))
    refine aJ (Iv 0) aZ (On (aB.block ?_))
    refine aB.lD (id:=2) (NR f v s1) (fun jY => ([(1,Cc (xF aC v)),(2,Cc (.pl 21 0)),(5,Iv s1),(6,Iv jY)],[(21,.row 46 [aj f])])) (fun J9 => ([(1,Cc (xF aC v)),(2,Cc (.pl 21 0)),(5,Iv J9)],[(21,.row 46 [aj f])])) (ja Tryz.prog Tryz.f123.results.toList [] [] (fun (t:Bool) => [.c (bC t)]) (fun (t:Bool) => [])) ?_ (aY.of z4 z1) Q (fun J9 _ => ?_) (by intro r t σ m ht hk; injection ht with ht; subst ht; exact ⟨Q,hk⟩)
    ·intro jY
     unfold NR
     refine Ws (Ws (Wr ?_))
     refine aH (Iv jY) y4 (aH (Iv s1) y4 (af LT.lss y5 (On (aB.cond Q (fun aJS => ?_) (fun aJS => ?_)))))
     ·refine aB.skip (Ws (aB.block (Ws ?_)))
      refine aB.eX (fun EK => ([(1,Cc (xF aC v)),(2,Cc (.pl 21 0)),(5,Iv s1),(6,Iv jY),(70,Bv EK)],[(21,.row 46 [aj f])])) ?_ (fun EK _ => ?_)
      ·refine aB.draw mixed (fM (bQ (aj f) Q gY fF dS) Q Q Q Q (ay (Cc (xF aC v)) y4 (ay (Iv s1) y4 (ay (Iv jY) y4 (aQ.bind fun Wp aKh => (aQ.pure (dK [.agg (aj f),.c (xF aC v),.c (iC s1),.c (iC jY)] (aGC f v s1 jY Wp aKh) aCB (aAq y6) J y3) z5 J Q Q (dV LT.neq aU (ay (Bv (Wp != 0)) y4 (aQ.split (fun jX => ?_) (fun jX => ?_))))))))))
       ·refine bJ jX y3 (bJ jX y3 (bJ jX y3 (bJ jX y3 (bJ jX y3 (bJ jX y3 (bJ jX y3 (bJ jX y3 (bJ jX y3 (bJ jX y3 (bJ jX y3 (bJ jX y3 ?_)))))))))))
        refine bM y3 (bM y3 (bM y3 (bM y3 (bM y3 (bM y3 (bM y3 (bM y3 (bM y3 (bM y3 (bM y3 (bM y3 ?_)))))))))))
        refine bM y3 (bM y3 (bM y3 (bM y3 (bM y3 (bM y3 (bM y3 (bM y3 (bM y3 (bM y3 (bM y3 (bM y3 ?_)))))))))))
        refine bM y3 (bM y3 (bJ jX y3 (mP (Bv true) jX aU (dm (aV Q z5 z1)))))
       ·refine ql (xF aO f.Places) iR iV jX iJ (kN (Iv s1) jX y5 (aQ.bind fun xX FD => (bZ (LT.bU (enc:=aO) Q jU FD fE) Q Q (gH jX Q Q) Q (ax (kJ Q o6 lJ fE) Q (gH jX Q Q) Q (ql (xF aO f.Places) iR iV jX iJ (kN (Iv jY) jX y5 (aQ.bind fun BF VZ => (bZ (LT.bU (enc:=aO) Q jU VZ fE) Q Q (gH jX Q Q) Q (ax (kJ Q o6 lJ fE) Q (gH jX Q Q) Q ?_)))))))))
        refine bZ (LT.Hw [xX.X,xX.Y] [BF.X,BF.Y] Q FQ Q Q) Q Q (gH jX Q Q) Q (kN (Bv (jT [xX.X,xX.Y] [BF.X,BF.Y])) jX y5 (aQ.split (fun nT => ?_) (fun nT => ?_)))
        ·refine kN (Cc (xF aC v)) nT y5 (kN (Iv s1) nT y5 (oV LT.mul nT Jj (aQ.bind fun pO Ic => (bZ (LT.bU (enc:=aC) Q dG Ic dQ) Q Q (gH nT Q Q) Q (ax (LT.dJ Q ak) Q (gH nT Q Q) Q (kN (Cc (xF aC v)) nT y5 (kN (Iv jY) nT y5 (oV LT.mul nT Jj (aQ.bind fun pU Bg => (bZ (LT.bU (enc:=aC) Q dG Bg dQ) Q Q (gH nT Q Q) Q (ax (LT.dJ Q ak) Q (gH nT Q Q) Q ?_)))))))))))
         refine oV LT.neq nT y6 (kN (Bv (pO != pU)) nT y5 (aQ.split (fun oN => ?_) (fun oN => ?_)))
         ·refine bJ oN y3 (bJ oN y3 (bJ oN y3 (bJ oN y3 (bJ oN y3 (bJ oN y3 (bJ oN y3 (bJ oN y3 (bJ oN y3 (bJ oN y3 (bJ oN y3 (bJ oN y3 ?_)))))))))))
          refine bJ oN y3 (bZ (LT.nY (v:=(Bv true)) Q oN) Q y2 (gH nT Q Q) Q (bZ (LT.nY (v:=(Bv true)) Q nT) Q Q (gH jX Q Q) Q (lm (Bv true) jX y5 (dm (aV Q z5 z1)))))
         ·refine kN (Cc (xF aC v)) oN y5 (kN (Iv s1) oN y5 (oV LT.mul oN Jj (oV LT.add oN iT (aQ.bind fun xY Bh => (bZ (LT.bU (enc:=aC) Q dG Bh dQ) Q Q (gH oN Q Q) Q (ax (LT.dJ Q ak) Q (gH oN Q Q) Q (kN (Cc (xF aC v)) oN y5 (kN (Iv jY) oN y5 (oV LT.mul oN Jj (oV LT.add oN iT (aQ.bind fun vP KY => ?_)))))))))))
          refine bZ (LT.bU (enc:=aC) Q dG KY dQ) Q Q (gH oN Q Q) Q (ax (LT.dJ Q ak) Q (gH oN Q Q) Q (oV LT.neq oN y6 (bZ (LT.oG (v:=(Bv (xY != vP))) Q oN) Q Q (gH nT Q Q) Q (bZ (LT.nY (v:=(Bv (xY != vP))) Q nT) Q Q (gH jX Q Q) Q (lm (Bv (xY != vP)) jX y5 (dm (aV Q z5 z1)))))))
        ·refine bJ nT y3 (bJ nT y3 (bJ nT y3 (bJ nT y3 (bJ nT y3 (bJ nT y3 (bJ nT y3 (bJ nT y3 (bJ nT y3 (bJ nT y3 (bJ nT y3 (bJ nT y3 ?_)))))))))))
         refine bM y3 (bM y3 (bM y3 (bM y3 (bM y3 (bM y3 (bM y3 (bM y3 (bM y3 (bM y3 (bM y3 (bM y3 ?_)))))))))))
         refine bM y3 (bJ nT y3 (bZ (LT.oG (v:=(Bv false)) Q nT) Q y2 (gH jX Q Q) Q (lm (Bv false) jX y5 (dm (aV Q z5 z1)))))
      ·refine aB.cond Q (fun aJV => ?_) (fun aJV => ?_)
       ·refine Ws (Wr ?_)
        refine aJ (Bv false) aZ (On (aB.ret ⟨Q,kz z1 J ⟨au.sc,J⟩ J⟩))
       ·refine aB.skip (aB.blk (Wr ?_))
        refine aH (Iv jY) y4 (af LT.add aU (aJ (Iv (aA (jY + 1))) y4 (On (aV Q z4 z1))))
     ·refine eu y2 z3 z1
    ·refine aB.blk (Wr ?_)
     refine aH (Iv J9) y4 (af LT.add aU (aJ (Iv (aA (J9 + 1))) y4 (On (aV Q z3 z1))))
   ·refine eu y2 z2 z1
 ·refine Ws (aB.eX (fun LD => ([(4,Bv LD)],[])) ?_ (fun LD _ => ?_))
  ·refine Wr (bV (bQ (aj f) Q gY fF dS) Q Q Q Q (aH (Cc (xF aC v)) y4 (aS fun Wq aKk => (iD [.agg (aj f),.c (xF aC v)] (Xj f v Wq aKk) Ug (vM y4) y5 z3 (aH (Bv Wq) y4 (aT.split (fun Dx => ?_) (fun Dx => ?_)))))))
   ·refine bV (bQ (aj f) Q gY fF dS) Q Q (gH Dx Q Q) Q (dB (Cc (xF aC v)) Dx y5 (aS fun TW aKl => (aT.pure (dK [.agg (aj f),.c (xF aC v)] (aPs f v TW aKl) aHa (vM y4) J y3) z3 J (gH Dx Q Q) Q (dD (Bv TW) Dx y5 (aJ (Bv TW) y4 (On (aV Q z1 J)))))))
   ·refine aK Dx y5 (aK Dx y5 (aK Dx y5 (dA (Bv false) Dx aU (aJ (Bv false) y4 (On (aV Q z1 J))))))
  ·refine bT z1 J ⟨au.sc,J⟩ J
theorem aPg (f:ah):FT Tryz.prog (Rh f) 107 [.agg (aj f)] [] (fun (t:((List Int) × Bool)) => [.c (xT aC t.1),.c (bC t.2)]) (fun (t:((List Int) × Bool)) => []) []:=by
 refine FT.xK [] Tryz.func107 Tryz.ntmps107 Q y2 ?_
 intro w0 U0 R0 g0 hU
 unfold Rh
 refine Ws (Wr ?_)
 refine gy 21 (.agg (aj f)) dS y5 (aJ (Cc (sC aX)) aZ (aJ (Bv false) aZ (On (Ws (Wr ?_)))))
 refine bV (bQ (aj f) Q gY fF dS) Q Q Q Q (aS fun r1 hr1 => (aT.step (dK [.agg (aj f)] (Fw.Fn.ren [(0,23)] (aBH f r1 hr1) Q) X7 (mV y3) J y3) z2 J Q Q (aJ (Cc (lo 23 r1.length)) y4 (On (Ws (Ws (Wr ?_)))))))
 refine aJ (Iv 0) aZ (On (aB.block ?_))
 refine aB.lD (id:=0) (NE f r1) (fun s2 => ([(1,Cc (.pl 21 0)),(4,Cc (lo 23 r1.length)),(5,Iv s2)],[(21,.row 46 [aj f]),(23,pR 28 (bG true) r1)])) (fun b13 => ([],[])) (ja Tryz.prog Tryz.f107.results.toList [] [] (fun (t:((List Int) × Bool)) => [.c (xT aC t.1),.c (bC t.2)]) (fun (t:((List Int) × Bool)) => [])) ?_ (aY.of z3 z2) Q (fun b13 _ => ?_) lK
 ·intro s2
  unfold NE
  refine Ws (Ws (Wr ?_))
  refine aH (Iv s2) y4 (aH (Cc (lo 23 r1.length)) y4 (aW (LT.lC Q jR) Q Q Q (af LT.lss y5 (On (aB.cond Q (fun yS => ?_) (fun yS => ?_))))))
  ·refine aB.skip (Ws (aB.block (Ws (aB.draw mixed ?_))))
   refine fM (bQ (aj f) Q gY fF dS) Q Q Q Q (ay (Cc (lo 23 r1.length)) y4 (ay (Iv s2) y4 (aQ.bind fun x15 KX => (mF (LT.jH Q Q jw KX) Q Q Q Q Q (fM (ni 0 Q fP KX) Q Q Q Q (aQ.bind fun r16 aKf => (aQ.pure (dK [.agg (aj f),.c (xT aC x15)] (aGH f x15 r16 aKf) aCC (.cons (.agg (.cons (.same Q) (.cons (.same Q) (.cons (.same Q) .nil)))) (.cons (.c (.weak (.same Q) (QW.fO pz (fun h => by cases h) _))) .nil)) J y3) z3 J Q Q (ax (LT.not Q) Q Q Q (dm (aB.cond Q (fun hc17 => ?_) (fun hc17 => ?_)))))))))))
   ·refine Ws (en [(4,Cc (lo 23 r1.length)),(5,Iv s2)] [(23,pR 28 (bG true) r1)] z2 z1 (Wr (aH (Cc (lo 23 r1.length)) y4 (aH (Iv s2) y4 (aS fun x18 Bf => (jf (LT.jH Q Q jw Bf) Q Q Q Q Q (bV (ni 0 Q fP Bf) Q Q Q Q (aJ (Cc (xT aC x18)) y4 (aJ (Bv true) aZ (On (aB.ret ⟨Q,kz z2 J ⟨iY gQ,au.sc,J⟩ J⟩)))))))))))
   ·refine aB.skip (aB.blk ?_)
    refine en [(1,Cc (.pl 21 0)),(4,Cc (lo 23 r1.length)),(5,Iv s2)] [(21,.row 46 [aj f]),(23,pR 28 (bG true) r1)] z3 z2 (Wr (aH (Iv s2) y4 (af LT.add aU (aJ (Iv (aA (s2 + 1))) y4 (On (aV Q z3 z2))))))
  ·refine eu y2 J J
 ·refine Ws (Wr ?_)
  refine jo (gu 25 aC [] [] dO iL y7) Q Q (aJ (Cc (lo 25 (([]:List Int).length))) y4 (aJ (Bv false) aZ (On (aB.ent (aY.AB (enc:=aC) (xs:=([]:List Int)) (σ':=[(2,Cc (xT aC ([]:List Int))),(3,Bv false),(25,Cc (xT aC ([]:List Int)))]) (m':=[]) 25 hU Q Q ⟨⟨_,Q,.c (.fr (by rw [List.length_map]))⟩,⟨_,Q,.same Q⟩,⟨_,Q,.c (.fr (by rw [List.length_map]))⟩,J⟩ J) (bT z2 J ⟨iY gQ,au.sc,J⟩ J)))))
theorem aGF (tV:bI) (v:(List Int)):FT Tryz.prog (I8 tV v) 51 [.agg (eP tV),.c (xF aC v)] [] (fun (t:Bool) => [.c (bC t)]) (fun (t:Bool) => []) []:=by
 refine FT.of [] Tryz.func51 Tryz.ntmps51 Q y2 ?_
 intro w0 U0 R0 g0
 unfold I8
 refine Ws (Wr ?_)
 refine gy 21 (.agg (eP tV)) dP y5 (aJ (Bv false) aZ (On (Ws (Ws ?_))))
 refine aB.eX (fun j4 => ([(1,Cc (xF aC v)),(2,Cc (.pl 21 0)),(16,Bv j4)],[(21,.row 48 [eP tV])])) ?_ (fun j4 _ => ?_)
 ·refine Wr (bV (bQ (eP tV) Q gZ eF dP) Q Q Q Q (aS fun r5 nI => (iD [.agg (eP tV)] (Gu tV r5 nI) E5 (Gg y4) y5 z2 (aW (LT.not Q) Q Q Q (aH (Bv (!r5)) y4 (aT.split (fun hb6 => ?_) (fun hb6 => ?_)))))))
  ·refine aK hb6 y5 (aK hb6 y5 (aK hb6 y5 (aK hb6 y5 (aK hb6 y5 (dD (Bv true) hb6 aU (On (aV Q z3 z1)))))))
  ·refine aW (LT.dR Q mM) Q (gH hb6 Q Q) Q (bV (bQ (aj tV.aG) Q gY fF dS) Q Q (gH hb6 Q Q) Q (dB (Cc (xF aC v)) hb6 y5 (aS fun r7 lH => (aT.pure (dK [.agg (aj tV.aG),.c (xF aC v)] (Xj tV.aG v r7 lH) Ug (vM y4) J y3) z3 J (gH hb6 Q Q) Q (aW (LT.not Q) Q (gH hb6 Q Q) Q (dA (Bv (!r7)) hb6 y5 (On (aV Q z3 z1))))))))
 ·refine aB.cond Q (fun hc8 => ?_) (fun hc8 => ?_)
  ·refine Ws (Wr ?_)
   refine aJ (Bv false) aZ (On (bT z1 J ⟨au.sc,J⟩ J))
  ·refine aB.skip (Ws (Ws (Wr ?_)))
   refine aJ (Iv 0) aZ (On (aB.block ?_))
   refine aB.lD (id:=0) (NI tV v) (fun s9 => ([(1,Cc (xF aC v)),(2,Cc (.pl 21 0)),(5,Iv s9)],[(21,.row 48 [eP tV])])) (fun b90 => ([],[])) (ja Tryz.prog Tryz.f51.results.toList [] [] (fun (t:Bool) => [.c (bC t)]) (fun (t:Bool) => [])) ?_ (aY.of z3 z1) Q (fun b90 _ => ?_) lK
   ·intro s9
    unfold NI
    refine Ws (Ws (Wr ?_))
    refine aH (Iv s9) y4 (fC (xF aC tV.aN) jy fP bK (aW (LT.fG Q dO) Q Q Q (af LT.lss y5 (On (aB.cond Q (fun hc91 => ?_) (fun hc91 => ?_))))))
    ·refine aB.skip (Ws (aB.block (Ws (aB.draw mixed ?_))))
     refine ax (LT.dR Q mM) Q Q Q (fM (bQ (aj tV.aG) Q gY fF dS) Q Q Q Q (ay (Cc (xF aC v)) y4 (ax (LT.dR Q mM) Q Q Q (ax (LT.dR Q jW) Q Q Q (dh (xF aP tV.aG.Graph.aF) iO jC bK (ay (Iv s9) y4 (aQ.bind fun Xp aMU => (bZ (LT.bU (enc:=aP) Q qP aMU fU) Q Q Q Q (ax (LT.oW Q nS) Q Q Q (ax (LT.dJ Q ak) Q Q Q ?_))))))))))
     refine ax (LT.dR Q mM) Q Q Q (ax (LT.dR Q jW) Q Q Q (dh (xF aP tV.aG.Graph.aF) iO jC bK (ay (Iv s9) y4 (aQ.bind fun x93 hx93 => (bZ (LT.bU (enc:=aP) Q qP hx93 fU) Q Q Q Q (ax (LT.oW Q oZ) Q Q Q (ax (LT.dJ Q ak) Q Q Q (aQ.bind fun mZ aLG => (aQ.pure (dK [.agg (aj tV.aG),.c (xF aC v),.c (iC Xp.A),.c (iC x93.B)] (aGC tV.aG v Xp.A x93.B mZ aLG) aCB (aAq y6) J y3) z5 J Q Q (ax (LT.assign (v:=(Iv mZ)) Q) Q Q Q ?_))))))))))
     refine dm (Ws (aB.eX (fun j112 => ([(1,Cc (xF aC v)),(2,Cc (.pl 21 0)),(5,Iv s9),(77,Bv j112)],[(21,.row 48 [eP tV])])) ?_ (fun j112 _ => ?_)))
     ·refine en [(1,Cc (xF aC v)),(2,Cc (.pl 21 0)),(5,Iv s9),(6,Iv mZ)] [(21,.row 48 [eP tV])] z4 z1 (Wr (fC (xF aC tV.aN) jy fP bK (aH (Iv s9) y4 (aS fun x113 hx113 => (bg (LT.bU (enc:=aC) Q dG hx113 dQ) Q Q Q Q (aW (LT.dJ Q ak) Q Q Q (af LT.eql aU (aH (Bv (x113 == 0)) y4 (aT.split (fun qE => ?_) (fun qE => ?_))))))))))
      ·refine dB (Iv mZ) qE y5 (fB LT.neq qE iT (dD (Bv (mZ != 0)) qE y5 (aH (Bv (mZ != 0)) y4 (aT.split (fun jS => ?_) (fun jS => ?_)))))
       ·refine aK jS y5 (aK jS y5 (aK jS y5 (aK jS y5 (aK jS y5 (aK jS y5 (aK jS y5 (Oj Q Q Q Q (Oj Q Q Q Q (aK jS y5 (dD (Bv true) jS aU (aH (Bv true) y4 ?_)))))))))))
        refine bF y5 (bF y5 (bF y5 (bF y5 (bF y5 (bF y5 (bF y5 (Oj Q Q Q Q (Oj Q Q Q Q (bF y5 (dD (Bv true) Q aU (On ?_)))))))))))
        refine aV Q z4 z1
       ·refine jd (xF aC tV.aN) jy fP jS iJ (dB (Iv s9) jS y5 (aS fun Jq Zl => (bg (LT.bU (enc:=aC) Q dG Zl dQ) Q Q (gH jS Q Q) Q (aW (LT.dJ Q ak) Q (gH jS Q Q) Q (fB LT.eql jS iT (dB (Bv (Jq == 1)) jS y5 (aT.split (fun wJ => ?_) (fun wJ => ?_))))))))
        ·refine dB (Iv mZ) wJ y5 (fB LT.gtr wJ iT (bg (LT.nY (v:=(Bv (decide (0 < mZ)))) Q wJ) Q Q (gH jS Q Q) Q (dA (Bv (decide (0 < mZ))) jS y5 (aH (Bv (decide (0 < mZ))) y4 (aT.split (fun sV => ?_) (fun sV => ?_))))))
         ·refine aK sV y5 (aK sV y5 (aK sV y5 (aK sV y5 (aK sV y5 (aK sV y5 (aK sV y5 (Oj Q Q Q Q (Oj Q Q Q Q (aK sV y5 (dD (Bv true) sV aU (On ?_)))))))))))
          refine aV Q z4 z1
         ·refine jd (xF aC tV.aN) jy fP sV iJ (dB (Iv s9) sV y5 (aS fun aBP aLv => (bg (LT.bU (enc:=aC) Q dG aLv dQ) Q Q (gH sV Q Q) Q (aW (LT.dJ Q ak) Q (gH sV Q Q) Q (fB LT.eql sV iT (dB (Bv (aBP == 2)) sV y5 (aT.split (fun IC => ?_) (fun IC => ?_))))))))
          ·refine dB (Iv mZ) IC y5 (fB LT.lss IC iT (bg (LT.nY (v:=(Bv (decide (mZ < 0)))) Q IC) Q Q (gH sV Q Q) Q (dA (Bv (decide (mZ < 0))) sV y5 (On (aV Q z4 z1)))))
          ·refine aK IC y5 (aK IC y5 (bg (LT.oG (v:=(Bv false)) Q IC) Q y2 (gH sV Q Q) Q (dA (Bv false) sV y5 (On (aV Q z4 z1)))))
        ·refine aK wJ y5 (aK wJ y5 (bg (LT.oG (v:=(Bv false)) Q wJ) Q y2 (gH jS Q Q) Q (dA (Bv false) jS y5 (aH (Bv false) y4 (aW (LT.dR Q jy) Q (gS Q Q) Q (bV (qx (xF aC tV.aN) Q fP) Q Q (gS Q Q) Q (mv (Iv s9) Q Q (gS Q Q) Q (aS fun aBR aLx => (bg (LT.bU (enc:=aC) Q dG aLx dQ) Q Q (gS Q Q) Q (aW (LT.dJ Q ak) Q (gS Q Q) Q (bg (LT.eql Q) Q y2 (gS Q Q) Q ?_)))))))))))
         refine mv (Bv (aBR == 2)) Q Q (gS Q Q) Q (aT.split (fun oh => ?_) (fun oh => ?_))
         ·refine dB (Iv mZ) oh y5 (fB LT.lss oh iT (bg (LT.nY (v:=(Bv (decide (mZ < 0)))) Q oh) Q Q (gS Q Q) Q (dA (Bv (decide (mZ < 0))) Q y5 (On (aV Q z4 z1)))))
         ·refine aK oh y5 (aK oh y5 (bg (LT.oG (v:=(Bv false)) Q oh) Q y2 (gS Q Q) Q (dA (Bv false) Q y5 (On (aV Q z4 z1)))))
      ·refine aK qE y5 (aK qE y5 (dA (Bv false) qE aU (aH (Bv false) y4 (aW (LT.dR Q jy) Q (gS Q Q) Q (bV (qx (xF aC tV.aN) Q fP) Q Q (gS Q Q) Q (mv (Iv s9) Q Q (gS Q Q) Q (aS fun Jr Zm => (bg (LT.bU (enc:=aC) Q dG Zm dQ) Q Q (gS Q Q) Q (aW (LT.dJ Q ak) Q (gS Q Q) Q (bg (LT.eql Q) Q y2 (gS Q Q) Q (mv (Bv (Jr == 1)) Q Q (gS Q Q) Q ?_)))))))))))
       refine aT.split (fun wK => ?_) (fun wK => ?_)
       ·refine dB (Iv mZ) wK y5 (fB LT.gtr wK iT (bg (LT.nY (v:=(Bv (decide (0 < mZ)))) Q wK) Q Q (gS Q Q) Q (dA (Bv (decide (0 < mZ))) Q y5 (aH (Bv (decide (0 < mZ))) y4 (aT.split (fun sW => ?_) (fun sW => ?_))))))
        ·refine aK sW y5 (aK sW y5 (aK sW y5 (aK sW y5 (aK sW y5 (aK sW y5 (aK sW y5 (Oj Q Q Q Q (Oj Q Q Q Q (aK sW y5 (dD (Bv true) sW aU (On ?_)))))))))))
         refine aV Q z4 z1
        ·refine jd (xF aC tV.aN) jy fP sW iJ (dB (Iv s9) sW y5 (aS fun aBT aLz => (bg (LT.bU (enc:=aC) Q dG aLz dQ) Q Q (gH sW Q Q) Q (aW (LT.dJ Q ak) Q (gH sW Q Q) Q (fB LT.eql sW iT (dB (Bv (aBT == 2)) sW y5 (aT.split (fun II => ?_) (fun II => ?_))))))))
         ·refine dB (Iv mZ) II y5 (fB LT.lss II iT (bg (LT.nY (v:=(Bv (decide (mZ < 0)))) Q II) Q Q (gH sW Q Q) Q (dA (Bv (decide (mZ < 0))) sW y5 (On (aV Q z4 z1)))))
         ·refine aK II y5 (aK II y5 (bg (LT.oG (v:=(Bv false)) Q II) Q y2 (gH sW Q Q) Q (dA (Bv false) sW y5 (On (aV Q z4 z1)))))
       ·refine aK wK y5 (aK wK y5 (bg (LT.oG (v:=(Bv false)) Q wK) Q y2 (gS Q Q) Q (dA (Bv false) Q y5 (aH (Bv false) y4 (aW (LT.dR Q jy) Q (gS Q Q) Q (bV (qx (xF aC tV.aN) Q fP) Q Q (gS Q Q) Q (mv (Iv s9) Q Q (gS Q Q) Q (aS fun O4 hx128 => (bg (LT.bU (enc:=aC) Q dG hx128 dQ) Q Q (gS Q Q) Q (aW (LT.dJ Q ak) Q (gS Q Q) Q (bg (LT.eql Q) Q y2 (gS Q Q) Q ?_)))))))))))
        refine mv (Bv (O4 == 2)) Q Q (gS Q Q) Q (aT.split (fun IJ => ?_) (fun IJ => ?_))
        ·refine dB (Iv mZ) IJ y5 (fB LT.lss IJ iT (bg (LT.nY (v:=(Bv (decide (mZ < 0)))) Q IJ) Q Q (gS Q Q) Q (dA (Bv (decide (mZ < 0))) Q y5 (On (aV Q z4 z1)))))
        ·refine aK IJ y5 (aK IJ y5 (bg (LT.oG (v:=(Bv false)) Q IJ) Q y2 (gS Q Q) Q (dA (Bv false) Q y5 (On (aV Q z4 z1)))))
     ·refine aB.cond Q (fun aJM => ?_) (fun aJM => ?_)
      ·refine Ws (Wr ?_)
       refine aJ (Bv false) aZ (On (aB.ret ⟨Q,kz z1 J ⟨au.sc,J⟩ J⟩))
      ·refine aB.skip (aB.blk (Wr ?_))
       refine aH (Iv s9) y4 (af LT.add aU (aJ (Iv (aA (s9 + 1))) y4 (On (aV Q z3 z1))))
    ·refine eu y2 J J
   ·refine Ws (Wr ?_)
    refine aJ (Bv true) aZ (On (bT z1 J ⟨au.sc,J⟩ J))
theorem aBI (tV:bI) (v:(List Int)):FT Tryz.prog (Fv tV v) 53 [.agg (eP tV),.c (xF aC v)] [] (fun (t:Bool) => [.c (bC t)]) (fun (t:Bool) => []) []:=by
 refine FT.of [] Tryz.func53 Tryz.ntmps53 Q y2 ?_
 intro w0 U0 R0 g0
 unfold Fv
 refine Ws (Wr ?_)
 refine gy 21 (.agg (eP tV)) dP y5 (aJ (Bv false) aZ (On (Ws ?_)))
 refine aB.eX (fun j4 => ([(4,Bv j4)],[])) ?_ (fun j4 _ => ?_)
 ·refine Wr (bV (bQ (eP tV) Q gZ eF dP) Q Q Q Q (aH (Cc (xF aC v)) y4 (aS fun r5 nI => (iD [.agg (eP tV),.c (xF aC v)] (aGF tV v r5 nI) aCT (Gh y5) y5 z3 (aH (Bv r5) y4 (aT.split (fun hb6 => ?_) (fun hb6 => ?_)))))))
  ·refine aW (LT.dR Q mM) Q (gH hb6 Q Q) Q (bV (bQ (aj tV.aG) Q gY fF dS) Q Q (gH hb6 Q Q) Q (dB (Cc (xF aC v)) hb6 y5 (aS fun r7 lH => (aT.pure (dK [.agg (aj tV.aG),.c (xF aC v)] (aGH tV.aG v r7 lH) aCC (vM y4) J y3) z3 J (gH hb6 Q Q) Q (aW (LT.not Q) Q (gH hb6 Q Q) Q (dD (Bv (!r7)) hb6 y5 (aJ (Bv (!r7)) y4 (On (aV Q z1 J)))))))))
  ·refine aK hb6 y5 (aK hb6 y5 (aK hb6 y5 (aK hb6 y5 (aK hb6 y5 (dA (Bv false) hb6 aU (aJ (Bv false) y4 (On (aV Q z1 J))))))))
 ·refine bT z1 J ⟨au.sc,J⟩ J
theorem aGL (tV:bI) (l:(List (List Int))):FT Tryz.prog (Nk tV l) 109 [.agg (eP tV),.c (xT (bG true) l)] [] (fun (t:((List Int) × Bool)) => [.c (xT aC t.1),.c (bC t.2)]) (fun (t:((List Int) × Bool)) => []) []:=by
 refine FT.xK [] Tryz.func109 Tryz.ntmps109 Q y2 ?_
 intro w0 U0 R0 g0 hU
 unfold Nk
 refine Ws (Wr ?_)
 refine gy 21 (.agg (eP tV)) dP y5 (aJ (Cc (sC aX)) aZ (aJ (Bv false) aZ (On (Ws (Ws (Wr ?_))))))
 refine aJ (Iv 0) aZ (On (aB.block ?_))
 refine aB.lD (id:=0) (Nl tV l) (fun s1 => ([(1,Cc (xT (bG true) l)),(2,Cc (.pl 21 0)),(6,Iv s1)],[(21,.row 48 [eP tV])])) (fun Eu => ([],[])) (ja Tryz.prog Tryz.f109.results.toList [] [] (fun (t:((List Int) × Bool)) => [.c (xT aC t.1),.c (bC t.2)]) (fun (t:((List Int) × Bool)) => [])) ?_ (aY.of z3 z1) Q (fun Eu _ => ?_) lK
 ·intro s1
  unfold Nl
  refine Ws (Ws (Wr ?_))
  refine aH (Iv s1) y4 (aH (Cc (xT (bG true) l)) y4 (aW (LT.fG Q jR) Q Q Q (af LT.lss y5 (On (aB.cond Q (fun IV => ?_) (fun IV => ?_))))))
  ·refine aB.skip (Ws (aB.block (Ws (Ws (aB.draw mixed ?_)))))
   refine fM (bQ (eP tV) Q gZ eF dP) Q Q Q Q (ay (Cc (xT (bG true) l)) y4 (ay (Iv s1) y4 (aQ.bind fun jI QX => (bZ (LT.bU (enc:=(bG true)) Q jw QX uU) Q Q Q Q (ax (LT.dJ Q fP) Q Q Q (aQ.bind fun r43 aKs => (aQ.pure (dK [.agg (eP tV),.c (xT aC jI)] (aBI tV jI r43 aKs) YL (.cons (.agg (.cons (.same Q) (.cons (.same Q) (.cons (.same Q) (.cons (.same Q) .nil))))) (.cons (.c (.weak (.same Q) (QW.fO pz (fun h => by cases h) _))) .nil)) J y3) z3 J Q Q (dm (aB.cond Q (fun Yy => ?_) (fun Yy => ?_))))))))))
   ·refine Ws (Wr ?_)
    refine aH (Cc (xT (bG true) l)) y4 (aH (Iv s1) y4 (aS fun kL FI => (bg (LT.bU (enc:=(bG true)) Q jw FI uU) Q Q Q Q (aW (LT.dJ Q fP) Q Q Q (aJ (Cc (xT aC kL)) y4 (aJ (Bv true) aZ (On (aB.ret ⟨Q,kz z2 J ⟨iY gQ,au.sc,J⟩ J⟩))))))))
   ·refine aB.skip (Ws (Wr ?_))
    refine jo (gu 23 aC [] [] dO iL y7) Q Q (aJ (Cc (lo 23 (([]:List Int).length))) y4 (On (Ws (Ws ?_))))
    refine en [(1,Cc (xT (bG true) l)),(2,Cc (.pl 21 0)),(6,Iv s1),(7,Cc (lo 23 (([]:List Int).length)))] [(21,.row 48 [eP tV]),(23,pR 3 aC ([]:List Int))] z4 z2 (Wr (aJ (Iv 0) aZ (On (aB.block ?_))))
    refine aB.jM (id:=2) (Np l s1) (fun kY => ([(1,Cc (xT (bG true) l)),(2,Cc (.pl 21 0)),(6,Iv s1),(7,Cc (lo 23 kY.2.length)),(8,Iv kY.1)],[(21,.row 48 [eP tV]),(23,pR 3 aC kY.2)])) (fun rH => ([(1,Cc (xT (bG true) l)),(2,Cc (.pl 21 0)),(6,Iv rH.1),(7,Cc (lo 23 rH.2.length))],[(21,.row 48 [eP tV]),(23,pR 3 aC rH.2)])) ?_ (aY.of z5 z2) Q (fun rH _ => ?_)
    ·intro kY
     unfold Np
     refine Ws (Ws (Wr ?_))
     refine aH (Iv kY.1) y4 (aH (Cc (xT (bG true) l)) y4 (aH (Iv s1) y4 (aS fun Ju Zq => (bg (LT.bU (enc:=(bG true)) Q jw Zq uU) Q Q Q Q (aW (LT.dJ Q fP) Q Q Q (aW (LT.fG Q dO) Q Q Q (af LT.lss y5 (On (aB.cond Q (fun Y3 => ?_) (fun Y3 => ?_))))))))))
     ·refine aB.skip (Ws (aB.block (Wr ?_)))
      refine aH (Cc (lo 23 kY.2.length)) y4 (aH (Cc (xT (bG true) l)) y4 (aH (Iv s1) y4 (aS fun BG Zr => (bg (LT.bU (enc:=(bG true)) Q jw Zr uU) Q Q Q Q (aW (LT.dJ Q fP) Q Q Q (aH (Iv kY.1) y4 (aS fun sN Kt => (bg (LT.bU (enc:=aC) Q dG Kt dQ) Q Q Q Q (aW (LT.dJ Q ak) Q Q Q (aW (LT.neg Q) Q Q Q (pV (gu 24 aC [(0,.tmp 43,.c (iC (aA (-sN))))] ([aA (-sN)]:List Int) dO iL y7) Q Q Q ?_)))))))))))
      refine aS fun u62 Zg => (qM (LT.pK (enc:=aC) Q Q Q dO iL Q (by decide) (by decide) (fun _ => Q) (kU Zg)) Q Q Q Q Q Q (aJ (Cc (lo 23 ((kY.2 ++ ([aA (-sN)]:List Int)).length))) y4 (On (aB.blk ?_))))
      refine en [(1,Cc (xT (bG true) l)),(2,Cc (.pl 21 0)),(6,Iv s1),(7,Cc (lo 23 ((kY.2 ++ ([aA (-sN)]:List Int)).length))),(8,Iv kY.1)] [(21,.row 48 [eP tV]),(23,pR 3 aC (kY.2 ++ ([aA (-sN)]:List Int)))] z5 z2 (Wr (aH (Iv kY.1) y4 (af LT.add aU (aJ (Iv (aA (kY.1 + 1))) y4 (On (aV Q z5 z2))))))
     ·refine eu y2 z4 z2
    ·refine Ws (Wr ?_)
     refine bV (bQ (eP tV) Q gZ eF dP) Q Q Q Q (aH (Cc (lo 23 rH.2.length)) y4 (aS fun Wy aKz => (aT.pure (cF [.agg (eP tV),.c (lo 23 rH.2.length)] [(23,pR 3 aC rH.2)] (aBI tV rH.2 Wy aKz) YL (.cons (.agg (.cons (.same Q) (.cons (.same Q) (.cons (.same Q) (.cons (.same Q) .nil))))) (.cons (.c (.eU Q Q)) .nil)) J y3) z3 z1 Q Q (On (aB.cond Q (fun Y4 => ?_) (fun Y4 => ?_))))))
     ·refine Ws (Wr ?_)
      refine aH (Cc (lo 23 rH.2.length)) y4 (aJ (Cc (lo 23 rH.2.length)) y4 (aJ (Bv true) aZ (On (aB.ent (aY.AB (enc:=aC) (xs:=rH.2) (σ':=[(1,Cc (xT (bG true) l)),(2,Cc (.pl 21 0)),(4,Cc (xT aC rH.2)),(5,Bv true),(6,Iv rH.1),(7,Cc (xT aC rH.2)),(46,Ag  (eP tV)),(47,Cc (xT aC rH.2)),(48,Bv Wy),(49,Cc (xT aC rH.2))]) (m':=[(21,.row 48 [eP tV])]) 23 hU Q Q ⟨⟨_,Q,.same Q⟩,⟨_,Q,.same Q⟩,⟨_,Q,.c (.fr (by rw [List.length_map]))⟩,⟨_,Q,.same Q⟩,⟨_,Q,.same Q⟩,⟨_,Q,.c (.fr (by rw [List.length_map]))⟩,⟨_,Q,.same Q⟩,⟨_,Q,.c (.fr (by rw [List.length_map]))⟩,⟨_,Q,.same Q⟩,⟨_,Q,.c (.fr (by rw [List.length_map]))⟩,J⟩ ⟨⟨Q,_,Q,.same Q⟩,J⟩) (aB.ret ⟨Q,kz z2 J ⟨iY gQ,au.sc,J⟩ J⟩)))))
     ·refine aB.skip (aB.blk (Wr ?_))
      refine aH (Iv rH.1) y4 (af LT.add aU (aJ (Iv (aA (rH.1 + 1))) y4 (On (aV Q z3 z1))))
  ·refine eu y2 J J
 ·refine Ws (Wr ?_)
  refine jo (gu 26 aC [] [] dO iL y7) Q Q (aJ (Cc (lo 26 (([]:List Int).length))) y4 (aJ (Bv false) aZ (On (aB.ent (aY.AB (enc:=aC) (xs:=([]:List Int)) (σ':=[(4,Cc (xT aC ([]:List Int))),(5,Bv false),(50,Cc (xT aC ([]:List Int)))]) (m':=[]) 26 hU Q Q ⟨⟨_,Q,.c (.fr (by rw [List.length_map]))⟩,⟨_,Q,.same Q⟩,⟨_,Q,.c (.fr (by rw [List.length_map]))⟩,J⟩ J) (bT z2 J ⟨iY gQ,au.sc,J⟩ J)))))
theorem aGE (tV:bI):FT Tryz.prog (NC tV) 33 [.agg (eP tV)] [] (fun (t:((List Int) × Bool)) => [.c (xT aC t.1),.c (bC t.2)]) (fun (t:((List Int) × Bool)) => []) []:=by
 refine FT.xK [] Tryz.func33 Tryz.ntmps33 Q y2 ?_
 intro w0 U0 R0 g0 hU
 unfold NC
 refine Ws (Wr ?_)
 refine gy 21 (.agg (eP tV)) dP y5 (aJ (Cc (sC aX)) aZ (aJ (Bv false) aZ (On (Ws (Ws (Wr ?_))))))
 refine bV (bQ (eP tV) Q gZ eF dP) Q Q Q Q (aS fun r1 hr1 => (iD [.agg (eP tV)] (Gu tV r1 hr1) E5 (Gg y4) y5 z2 (aW (LT.not Q) Q Q Q (On (aB.cond Q (fun hc2 => ?_) (fun hc2 => ?_))))))
 ·refine Ws (Wr ?_)
  refine jo (gu 23 aC [] [] dO iL y7) Q Q (aJ (Cc (lo 23 (([]:List Int).length))) y4 (aJ (Bv false) aZ (On (aB.ent (aY.AB (enc:=aC) (xs:=([]:List Int)) (σ':=[(0,Ag  (eP tV)),(1,Cc (.pl 21 0)),(2,Cc (xT aC ([]:List Int))),(3,Bv false),(14,Ag  (eP tV)),(15,Bv r1),(16,Bv (!r1)),(17,Cc (xT aC ([]:List Int)))]) (m':=[(21,.row 48 [eP tV])]) 23 hU Q Q ⟨⟨_,Q,.same Q⟩,⟨_,Q,.same Q⟩,⟨_,Q,.c (.fr (by rw [List.length_map]))⟩,⟨_,Q,.same Q⟩,⟨_,Q,.same Q⟩,⟨_,Q,.same Q⟩,⟨_,Q,.same Q⟩,⟨_,Q,.c (.fr (by rw [List.length_map]))⟩,J⟩ ⟨⟨Q,_,Q,.same Q⟩,J⟩) (bT z2 J ⟨iY gQ,au.sc,J⟩ J)))))
 ·refine aB.skip (Ws (Wr ?_))
  refine aW (LT.dR Q mM) Q Q Q (bV (bQ (aj tV.aG) Q gY fF dS) Q Q Q Q (aS fun r3 hr3 => (iD [.agg (aj tV.aG)] (aPg tV.aG r3 hr3) aHH (mV y3) y5 z2 (aH (.eH [.c (xT aC r3.1),.c (bC r3.2)]) y4 (jQ (.c (xT aC r3.1)) y5 (jQ (.c (bC r3.2)) y5 (aJ (Cc (xT aC r3.1)) y4 (aJ (Bv r3.2) y4 (On (Ws (Ws ?_)))))))))))
  refine en [(1,Cc (.pl 21 0)),(4,Cc (xT aC r3.1)),(5,Bv r3.2)] [(21,.row 48 [eP tV])] z3 z1 (Wr (aH (Bv r3.2) y4 (On (aB.cond Q (fun hc4 => ?_) (fun hc4 => ?_)))))
  ·refine Ws (Wr ?_)
   refine aH (Cc (xT aC r3.1)) y4 (aJ (Cc (xT aC r3.1)) y4 (aJ (Bv true) aZ (On (bT z2 J ⟨iY gQ,au.sc,J⟩ J))))
  ·refine aB.skip (Ws (Wr ?_))
   refine jo (gu 25 aC [] [] dO iL y7) Q Q (aJ (Cc (lo 25 (([]:List Int).length))) y4 (On (Ws (Ws (Wr ?_)))))
   refine aJ (Iv 0) aZ (On (aB.block ?_))
   refine aB.lD (id:=0) (ND tV) (fun s5 => ([(1,Cc (.pl 21 0)),(6,Cc (lo 25 s5.2.length)),(7,Iv s5.1)],[(21,.row 48 [eP tV]),(25,pR 3 aC s5.2)])) (fun b22 => ([(1,Cc (.pl 21 0)),(6,Cc (lo 25 b22.length))],[(21,.row 48 [eP tV]),(25,pR 3 aC b22)])) (ja Tryz.prog Tryz.f33.results.toList [] [] (fun (t:((List Int) × Bool)) => [.c (xT aC t.1),.c (bC t.2)]) (fun (t:((List Int) × Bool)) => [])) ?_ (aY.of z3 z2) Q (fun b22 _ => ?_) lK
   ·intro s5
    unfold ND
    refine Ws (Ws (Wr ?_))
    refine aH (Iv s5.1) y4 (fC (xF aC tV.aN) jy fP bK (aW (LT.fG Q dO) Q Q Q (af LT.lss y5 (On (aB.cond Q (fun Py => ?_) (fun Py => ?_))))))
    ·refine aB.skip (Ws (aB.block (Ws (Ws (Wr ?_)))))
     refine fC (xF aC tV.aN) jy fP bK (aH (Iv s5.1) y4 (aS fun x24 hx24 => (bg (LT.bU (enc:=aC) Q dG hx24 dQ) Q Q Q Q (aW (LT.dJ Q ak) Q Q Q (af LT.eql aU (On (aB.cond Q (fun hc25 => ?_) (fun hc25 => ?_))))))))
     ·refine Ws (en [(1,Cc (.pl 21 0)),(6,Cc (lo 25 s5.2.length)),(7,Iv s5.1)] [(21,.row 48 [eP tV]),(25,pR 3 aC s5.2)] z3 z2 (Wr (aH (Cc (lo 25 s5.2.length)) y4 (aH (Iv s5.1) y4 (pV (gu 26 aC [(0,.tmp 41,.c (iC s5.1))] ([s5.1]:List Int) dO iL y7) Q Q Q (aS fun u26 Zc => (qM (LT.pK (enc:=aC) Q Q Q dO iL Q (by decide) (by decide) (fun _ => Q) (kU Zc)) Q Q Q Q Q Q (aJ (Cc (lo 25 ((s5.2 ++ ([s5.1]:List Int)).length))) y4 (On (aB.exit Q (Wr ?_)))))))))))
      refine aH (Iv s5.1) y4 (af LT.add aU (aJ (Iv (aA (s5.1 + 1))) y4 (On (aV Q z3 z2))))
     ·refine aB.skip (Ws ?_)
      refine en [(1,Cc (.pl 21 0)),(6,Cc (lo 25 s5.2.length)),(7,Iv s5.1)] [(21,.row 48 [eP tV]),(25,pR 3 aC s5.2)] z3 z2 (Wr (aW (LT.dR Q mM) Q Q Q (aW (LT.dR Q jW) Q Q Q (bV (bQ (eY tV.aG.Graph) Q jq gW fD) Q Q Q Q (aH (Iv s5.1) y4 (aS fun r27 ZN => (aT.step (dK [.agg (eY tV.aG.Graph),.c (iC s5.1)] (Fw.Fn.ren [(0,28)] (aGJ tV.aG.Graph s5.1 r27 ZN) Q) aB7 (Ov y3) J y3) z3 J Q Q (aH (.eH [.agg [iC r27.1.aI,lo 28 r27.1.aF.length],.c (bC r27.2)]) y4 (jQ (.agg [iC r27.1.aI,lo 28 r27.1.aF.length]) y5 (jQ (.c (bC r27.2)) y5 (iF 29 [iC 0,sC aX] nK y6 ?_)))))))))))
      refine dZ (stA [iC r27.1.aI,lo 28 r27.1.aF.length] Q Q gW fD) Q Q Q Q Q (aJ (Bv r27.2) y4 (On (Ws ?_)))
      refine en [(1,Cc (.pl 21 0)),(6,Cc (lo 25 s5.2.length)),(7,Iv s5.1),(8,Cc (.pl 29 0))] [(21,.row 48 [eP tV]),(25,pR 3 aC s5.2),(28,pR 40 aP r27.1.aF),(29,.row 26 [[iC r27.1.aI,lo 28 r27.1.aF.length]])] z4 z4 (aB.draw mixed (fM (bQ (eP tV) Q gZ eF dP) Q Q Q Q (fM (bQ [iC r27.1.aI,lo 28 r27.1.aF.length] Q jq gW fD) Q Q Q Q (ax (LT.dR Q mM) Q Q Q (dh (xF aO tV.aG.Places) iR iV bK (bZ (LT.build [(0,.tmp 54,.agg [iC r27.1.aI,lo 28 r27.1.aF.length]),(1,.tmp 57,.c (xF aO tV.aG.Places))] Q Q OY xR Q Q Q) Q Q Q Q (aQ.bind fun r28 aKo => (aQ.step (LT.aC6 (enc:=(bG true)) (xs:=r28) (v':=(Cc (xT (bG true) r28))) (zH:=[]) 31 (cF [.agg [iC r27.1.aI,lo 28 r27.1.aF.length,xF aO tV.aG.Places]] [(28,pR 40 aP r27.1.aF)] (Fw.Fn.ren [(0,31)] (aBH (ah.mk r27.1 tV.aG.Places) r28 aKo) Q) X7 (.cons (.agg (.cons (.same Q) (.cons (.eU Q Q) (.cons (.same Q) .nil)))) .nil) J y3) Q Q (.c (.fr (by rw [List.length_map]))) J) z2 z1 Q Q (aQ.bind fun pI QH => (aQ.pure (dK [.agg (eP tV),.c (xT (bG true) r28)] (aGL tV r28 pI QH) aB8 (Gh y5) J y3) z3 J Q Q ?_))))))))))
      refine ay (.eH [.c (xT aC pI.1),.c (bC pI.2)]) y4 (KH (.c (xT aC pI.1)) y5 (KH (.c (bC pI.2)) y5 (ax (LT.assign (v:=(Cc (xT aC pI.1))) Q) Q Q Q (ax (LT.assign (v:=(Bv pI.2)) Q) Q Q Q (dm (Ws (en [(1,Cc (.pl 21 0)),(6,Cc (lo 25 s5.2.length)),(7,Iv s5.1),(10,Cc (xT aC pI.1)),(11,Bv pI.2)] [(21,.row 48 [eP tV]),(25,pR 3 aC s5.2)] z5 z2 (Wr (aH (Bv pI.2) y4 (On (aB.cond Q (fun Pz => ?_) (fun Pz => ?_))))))))))))
      ·refine Ws (Wr ?_)
       refine aH (Cc (xT aC pI.1)) y4 (aJ (Cc (xT aC pI.1)) y4 (aJ (Bv true) aZ (On (aB.ret ⟨Q,kz z2 J ⟨iY gQ,au.sc,J⟩ J⟩))))
      ·refine aB.skip (aB.blk (Wr ?_))
       refine aH (Iv s5.1) y4 (af LT.add aU (aJ (Iv (aA (s5.1 + 1))) y4 (On (aV Q z3 z2))))
    ·refine eu y2 z2 z2
   ·refine Ws (aB.draw mixed ?_)
    refine fM (bQ (eP tV) Q gZ eF dP) Q Q Q Q (ax (LT.dR Q mM) Q Q Q (ax (LT.dR Q jW) Q Q Q (fM (bQ (eY tV.aG.Graph) Q jq gW fD) Q Q Q Q (ay (Cc (lo 25 b22.length)) y4 (aQ.bind fun qW ZO => (aQ.step (cF [.agg (eY tV.aG.Graph),.c (lo 25 b22.length)] [(25,pR 3 aC b22)] (Fw.Fn.ren [(0,34)] (aPn tV.aG.Graph b22 qW ZO) Q) aH5 (.cons (.agg (.cons (.same Q) (.cons (.same Q) .nil))) (.cons (.c (.eU Q Q)) .nil)) J y3) z3 z1 Q Q (ax (LT.dR Q mM) Q Q Q (dh (xF aO tV.aG.Places) iR iV bK (bZ (LT.build [(0,.tmp 71,.agg [iC qW.aI,lo 34 qW.aF.length]),(1,.tmp 74,.c (xF aO tV.aG.Places))] Q Q OY xR Q Q Q) Q Q Q Q (aQ.bind fun r32 ZP => ?_))))))))))
    refine aQ.step (LT.aC6 (enc:=(bG true)) (xs:=r32) (v':=(Cc (xT (bG true) r32))) (zH:=[]) 36 (cF [.agg [iC qW.aI,lo 34 qW.aF.length,xF aO tV.aG.Places]] [(34,pR 40 aP qW.aF)] (Fw.Fn.ren [(0,36)] (aBH (ah.mk qW tV.aG.Places) r32 ZP) Q) X7 (.cons (.agg (.cons (.same Q) (.cons (.eU Q Q) (.cons (.same Q) .nil)))) .nil) J y3) Q Q (.c (.fr (by rw [List.length_map]))) J) z2 z1 Q Q (aQ.bind fun qX ZQ => (aQ.pure (dK [.agg (eP tV),.c (xT (bG true) r32)] (aGL tV r32 qX ZQ) aB8 (Gh y5) J y3) z3 J Q Q (ay (.eH [.c (xT aC qX.1),.c (bC qX.2)]) y4 (KH (.c (xT aC qX.1)) y5 (KH (.c (bC qX.2)) y5 (ax (LT.assign (v:=(Cc (xT aC qX.1))) Q) Q Q Q (ax (LT.assign (v:=(Bv qX.2)) Q) Q Q Q (dm (Ws (en [(12,Cc (xT aC qX.1)),(13,Bv qX.2)] [] z2 J (Wr ?_)))))))))))
    refine aH (Cc (xT aC qX.1)) y4 (aH (Bv qX.2) y4 (aJ (Cc (xT aC qX.1)) y4 (aJ (Bv qX.2) y4 (On (bT z2 J ⟨iY gQ,au.sc,J⟩ J)))))
theorem aPR (m:(List (List Int))) (columns:Int):FT Tryz.prog (V9 m columns) 165 [.c (xF (bG false) m),.c (iC columns)] [] (fun (t:Int) => [.c (iC t)]) (fun (t:Int) => []) []:=by
 refine FT.of [] Tryz.func165 Tryz.ntmps165 Q y2 ?_
 intro w0 U0 R0 g0
 unfold V9
 refine Ws (Wr ?_)
 refine aJ (Iv 0) aZ (On (Ws (Wr ?_)))
 refine aH (Cc (xF (bG false) m)) y4 (aH (Iv columns) y4 (aS fun r1 hr1 => (aT.step (dK [.c (xF (bG false) m),.c (iC columns)] (Fw.Fn.ren [(0,22),(1,23),(2,24)] (aGB m columns r1 hr1) Q) aCN (jv y2) J y3) z3 J Q Q (aH (.eH [.c (lo 22 r1.1.length),.c (lo 24 r1.2.1.length),.c (iC r1.2.2)]) y4 (jQ (.c (lo 22 r1.1.length)) y5 (jQ (.c (lo 24 r1.2.1.length)) y5 (jQ (.c (iC r1.2.2)) y5 (aJ (Cc (lo 22 r1.1.length)) y4 (aJ (Cc (lo 24 r1.2.1.length)) y4 (aJ (Iv r1.2.2) y4 (On (Ws ?_))))))))))))
 refine en [(6,Cc (lo 24 r1.2.1.length))] [(24,pR 3 aC r1.2.1)] z1 z1 (Wr (aH (Cc (lo 24 r1.2.1.length)) y4 (aW (LT.lC Q dO) Q Q Q (aJ (Iv (r1.2.1.length:Int)) y4 (On (bT z1 J ⟨au.sc,J⟩ J))))))
theorem aPE (f:ah):FT Tryz.prog (Qv f) 129 [.agg (aj f)] [] (fun (t:Int) => [.c (iC t)]) (fun (t:Int) => []) []:=by
 refine FT.of [] Tryz.func129 Tryz.ntmps129 Q y2 ?_
 intro w0 U0 R0 g0
 unfold Qv
 refine Ws (Wr ?_)
 refine gy 21 (.agg (aj f)) dS y5 (aJ (Iv 0) aZ (On (Ws (Ws (Wr ?_)))))
 refine bV (bQ (aj f) Q gY fF dS) Q Q Q Q (aS fun r1 hr1 => (iD [.agg (aj f)] (Gs f r1 hr1) Ez (mV y3) y5 z2 (aW (LT.not Q) Q Q Q (On (aB.cond Q (fun hc2 => ?_) (fun hc2 => ?_))))))
 ·refine Ws (Wr ?_)
  refine aJ (Iv (-1)) aZ (On (bT z1 J ⟨au.sc,J⟩ J))
 ·refine aB.skip (Ws (aB.draw mixed ?_))
  refine fM (bQ (aj f) Q gY fF dS) Q Q Q Q (aQ.bind fun r3 hr3 => (aQ.step (dK [.agg (aj f)] (Fw.Fn.ren [(0,24),(1,25)] (aBB f r3 hr3) Q) YA (mV y3) J y3) z2 J Q Q (ax (LT.dR Q jW) Q Q Q (dh (iC f.Graph.aI) lT ak bK (dV LT.mul lV (aQ.bind fun r4 hr4 => (aQ.pure (cF [.c (lo 24 r3.length),.c (iC (aA (2 * f.Graph.aI)))] [(24,.bf 28 25 (bP r3)),(25,.pool 3 (rowsOf aC r3))] (aPR r3 (aA (2 * f.Graph.aI)) r4 hr4) aHb (.cons (.c (.Tv Q Q Q (fun _ => Q))) (.cons (.c (.same Q)) .nil)) J y3) z3 z2 Q Q (ax (LT.assign (v:=(Iv r4)) Q) Q Q Q (dm (bT z1 J ⟨au.sc,J⟩ J))))))))))
theorem aPD (f:ah):FT Tryz.prog (Qu f) 156 [.agg (aj f)] [] (fun (t:Int) => [.c (iC t)]) (fun (t:Int) => []) []:=by
 refine FT.of [] Tryz.func156 Tryz.ntmps156 Q y2 ?_
 intro w0 U0 R0 g0
 unfold Qu
 refine Ws (Wr ?_)
 refine gy 21 (.agg (aj f)) dS y5 (aJ (Iv 0) aZ (On (Ws (Ws (Wr ?_)))))
 refine bV (bQ (aj f) Q gY fF dS) Q Q Q Q (aS fun r1 hr1 => (iD [.agg (aj f)] (Gs f r1 hr1) Ez (mV y3) y5 z2 (aW (LT.not Q) Q Q Q (On (aB.cond Q (fun hc2 => ?_) (fun hc2 => ?_))))))
 ·refine Ws (Wr ?_)
  refine aJ (Iv (-1)) aZ (On (bT z1 J ⟨au.sc,J⟩ J))
 ·refine aB.skip (Ws (Wr ?_))
  refine aJ (Iv 3) aZ (On (Ws (Wr ?_)))
  refine aJ (Bv true) aZ (On (Ws (Ws (Wr ?_))))
  refine fC (xF aO f.Places) iR iV bK (aW (LT.fG Q uN) Q Q Q (aH (Iv 0) aZ (On (aB.block ?_))))
  refine aB.jM (id:=0) (LZ f) (fun s3 => ([(1,Cc (.pl 21 0)),(3,Iv 3),(4,Bv s3.1),(11,Cc (xF aO f.Places)),(12,Iv (f.Places.length:Int)),(13,Iv s3.2)],[(21,.row 46 [aj f])])) (fun b15 => ([(1,Cc (.pl 21 0)),(3,Iv 3),(4,Bv b15)],[(21,.row 46 [aj f])])) ?_ (aY.of z6 z1) Q (fun b15 _ => ?_)
  ·intro s3
   unfold LZ
   refine Ws (Wr ?_)
   refine af LT.lss y5 (On (Ws ?_))
   refine aB.cond Q (fun hc16 => ?_) (fun hc16 => ?_)
   ·refine aB.skip (Ws (aB.block (Ws (Wr ?_))))
    refine aS fun x17 EF => (bg (LT.bU (enc:=aO) Q jU EF fE) Q Q Q Q (aW (kJ Q o6 lJ fE) Q Q Q (iF 23 [iC 0,iC 0] tX y6 (dZ (stA [iC x17.X,iC x17.Y] Q Q lJ fE) Q Q Q Q Q (On (aB.eX (fun j20 => ([(1,Cc (.pl 21 0)),(3,Iv 3),(4,Bv j20),(11,Cc (xF aO f.Places)),(12,Iv (f.Places.length:Int)),(13,Iv s3.2)],[(21,.row 46 [aj f])])) ?_ (fun j20 _ => ?_)))))))
    ·refine aB.draw mixed (ay (Bv s3.1) y4 (ay (Bv s3.1) y4 (aQ.split (fun rO => ?_) (fun rO => ?_))))
     ·refine fM (bQ [iC x17.X,iC x17.Y] Q o6 lJ fE) Q Q (gH rO Q Q) Q (ql (xF aO f.Places) iR iV rO iJ (aQ.bind fun oJ Ie => (bZ (LT.bU (enc:=aO) Q jU Ie fE) Q y2 (gH rO Q Q) Q (ax (kJ Q o6 lJ fE) Q (gH rO Q Q) Q (bZ (LT.Hw [x17.X,x17.Y] [oJ.X,oJ.Y] Q FQ Q Q) Q Q (gH rO Q Q) Q (mP (Bv (jT [x17.X,x17.Y] [oJ.X,oJ.Y])) rO y5 (ax (LT.assign (v:=(Bv (jT [x17.X,x17.Y] [oJ.X,oJ.Y]))) Q) Q Q Q (dm (aV Q z6 z1)))))))))
     ·refine bJ rO y3 (bJ rO y3 (bJ rO y3 (bJ rO y3 (bJ rO y3 (bJ rO y3 (lm (Bv false) rO aU (ax (LT.assign (v:=(Bv false)) Q) Q Q Q (dm (aV Q z6 z1)))))))))
    ·refine aB.blk (Wr ?_)
     refine af LT.add aU (aH (Iv (aA (s3.2 + 1))) y4 (On (aV Q z6 z1)))
   ·refine eu y2 z3 z1
  ·refine Ws (Ws (Wr ?_))
   refine aH (Bv b15) y4 (On (aB.eX (fun j24 => ([(1,Cc (.pl 21 0)),(3,Iv j24)],[(21,.row 46 [aj f])])) ?_ (fun j24 _ => ?_)))
   ·refine aB.cond Q (fun hc25 => ?_) (fun hc25 => ?_)
    ·refine Wr (aJ (Iv 2) aZ (On (aV Q z2 z1)))
    ·refine aB.skip (aV Q z2 z1)
   ·refine Ws (aB.draw mixed ?_)
    refine ax (LT.dR Q jW) Q Q Q (dh (iC f.Graph.aI) lT ak bK (dV LT.mul lV (ay (Iv j24) y4 (dV LT.sub y5 (fM (bQ (aj f) Q gY fF dS) Q Q Q Q (aQ.bind fun qy QG => (aQ.pure (dK [.agg (aj f)] (aPE f qy QG) aHO (mV y3) J y3) z2 J Q Q (dV LT.sub y5 (ax (LT.assign (v:=(Iv (aA ((aA ((aA (2 * f.Graph.aI)) - j24)) - qy)))) Q) Q Q Q (dm ?_))))))))))
    refine bT z1 J ⟨au.sc,J⟩ J
theorem aPH (f:ah):FT Tryz.prog (Qy f) 111 [.agg (aj f)] [] (fun (t:Bool) => [.c (bC t)]) (fun (t:Bool) => []) []:=by
 refine FT.of [] Tryz.func111 Tryz.ntmps111 Q y2 ?_
 intro w0 U0 R0 g0
 unfold Qy
 refine Ws (Wr ?_)
 refine gy 21 (.agg (aj f)) dS y5 (aJ (Bv false) aZ (On (Ws (Wr ?_))))
 refine bV (bQ (aj f) Q gY fF dS) Q Q Q Q (aS fun r1 hr1 => (iD [.agg (aj f)] (aPD f r1 hr1) aHW (mV y3) y5 z2 (af LT.eql aU (aJ (Bv (r1 == 0)) y4 (On (bT z1 J ⟨au.sc,J⟩ J))))))
theorem aBA (tV:bI) (w:(List Int)):FT Tryz.prog (Iu tV w) 36 [.agg (eP tV),.c (xF aC w)] [] (fun (t:Bool) => [.c (bC t)]) (fun (t:Bool) => []) []:=by
 refine FT.of [] Tryz.func36 Tryz.ntmps36 Q y2 ?_
 intro w0 U0 R0 g0
 unfold Iu
 refine Ws (Wr ?_)
 refine gy 21 (.agg (eP tV)) dP y5 (aJ (Bv false) aZ (On (Ws ?_)))
 refine aB.eX (fun j4 => ([(4,Bv j4)],[])) ?_ (fun j4 _ => ?_)
 ·refine Wr (bV (bQ (eP tV) Q gZ eF dP) Q Q Q Q (aH (Cc (xF aC w)) y4 (aS fun r5 nI => (iD [.agg (eP tV),.c (xF aC w)] (UC tV w r5 nI) PO (Gh y5) y5 z3 (aH (Bv r5) y4 (aT.split (fun hb6 => ?_) (fun hb6 => ?_)))))))
  ·refine aW (LT.dR Q mM) Q (gH hb6 Q Q) Q (bV (bQ (aj tV.aG) Q gY fF dS) Q Q (gH hb6 Q Q) Q (aS fun r7 lH => (aT.pure (dK [.agg (aj tV.aG)] (aPH tV.aG r7 lH) aHI (mV y3) J y3) z2 J (gH hb6 Q Q) Q (dD (Bv r7) hb6 y5 (aJ (Bv r7) y4 (On (aV Q z1 J)))))))
  ·refine aK hb6 y5 (aK hb6 y5 (aK hb6 y5 (dA (Bv false) hb6 aU (aJ (Bv false) y4 (On (aV Q z1 J))))))
 ·refine bT z1 J ⟨au.sc,J⟩ J
theorem aGW (c:dW) (n:Int):FT Tryz.prog (OL c n) 157 [.c (.pl 0 0),.c (iC n)] [(0,.row 105 [iw c])] (fun (t:((List Int) × dW)) => [.c (lo 1 t.1.length)]) (fun (t:((List Int) × dW)) => [(0,.row 105 [iw t.2]),(1,pR 3 aC t.1)]) [1]:=by
 refine FT.of [0] Tryz.func157 Tryz.ntmps157 Q y2 ?_
 intro w0 U0 R0 g0
 unfold OL
 refine Ws (Wr ?_)
 refine aJ (Cc (sC aX)) aZ (On (Ws (Wr ?_)))
 refine jo (gu 21 aC [] [] dO iL y7) Q Q (aJ (Cc (lo 21 (([]:List Int).length))) y4 (On (Ws (Ws (Wr ?_)))))
 refine aJ (Iv 0) aZ (On (aB.block ?_))
 refine aB.jM (id:=0) (OM n) (fun s1 => ([(0,Cc (.pl 0 0)),(1,Iv n),(5,Cc (lo 21 s1.2.2.2.2.length)),(6,Iv s1.1)],[(0,.row 105 [[xT dI s1.2.1,iC s1.2.2.1,iC s1.2.2.2.1]]),(21,pR 3 aC s1.2.2.2.2)])) (fun b8 => ([(5,Cc (lo 21 b8.2.2.2.length))],[(0,.row 105 [[xT dI b8.1,iC b8.2.1,iC b8.2.2.1]]),(21,pR 3 aC b8.2.2.2)])) ?_ (aY.of z4 z2) Q (fun b8 _ => ?_)
 ·intro s1
  unfold OM
  refine Ws (Ws (Wr ?_))
  refine aH (Iv s1.1) y4 (aH (Iv n) y4 (af LT.lss y5 (On (aB.cond Q (fun yT => ?_) (fun yT => ?_)))))
  ·refine aB.skip (Ws (aB.block (Wr ?_)))
   refine aH (Cc (lo 21 s1.2.2.2.2.length)) y4 (aH (Cc (.pl 0 0)) y4 (aS fun r10 D9 => (aT.step (dK [.c (.pl 0 0),.c (iC 13)] (Fw.Fn.ren [(0,0)] (rV (dW.mk s1.2.1 s1.2.2.1 s1.2.2.2.1) 13 r10 D9) Q) rM (jv y2) z1 y3) ⟨Q,Q,y2,J⟩ z1 Q Q (af LT.sub aU (pV (gu 23 aC [(0,.tmp 16,.c (iC (aA (r10.1 - 6))))] ([aA (r10.1 - 6)]:List Int) dO iL y7) Q Q Q (aS fun u11 Za => (qM (LT.pK (enc:=aC) Q Q Q dO iL Q (by decide) (by decide) (fun _ => Q) (kU Za)) Q Q Q Q Q Q (aJ (Cc (lo 21 ((s1.2.2.2.2 ++ ([aA (r10.1 - 6)]:List Int)).length))) y4 (On (aB.blk ?_))))))))))
   refine en [(0,Cc (.pl 0 0)),(1,Iv n),(5,Cc (lo 21 ((s1.2.2.2.2 ++ ([aA (r10.1 - 6)]:List Int)).length))),(6,Iv s1.1)] [(0,.row 105 [iw r10.2]),(21,pR 3 aC (s1.2.2.2.2 ++ ([aA (r10.1 - 6)]:List Int)))] z4 z2 (Wr (aH (Iv s1.1) y4 (af LT.add aU (aJ (Iv (aA (s1.1 + 1))) y4 (On (aV Q z4 z2))))))
  ·refine eu y2 z1 z2
 ·refine Ws (Wr ?_)
  refine aH (Cc (lo 21 b8.2.2.2.length)) y4 (aJ (Cc (lo 21 b8.2.2.2.length)) y4 (On (en [(4,Cc (lo 21 b8.2.2.2.length))] [(0,.row 105 [[xT dI b8.1,iC b8.2.1,iC b8.2.2.1]]),(21,pR 3 aC b8.2.2.2)] z1 z2 (aB.ent (aY.mv 21 1 Q Q) (en [(4,Cc (lo 1 b8.2.2.2.length))] [(0,.row 105 [[xT dI b8.1,iC b8.2.1,iC b8.2.2.1]]),(1,pR 3 aC b8.2.2.2)] z1 z2 (bT z1 z2 ⟨J,J⟩ ⟨cZ.nP ⟨iY tH,au.sc,au.sc,J⟩,cZ.fA gQ,J⟩))))))
theorem aGN (code:(List Int)):FT Tryz.prog (Nr code) 112 [.c (xT dI code)] [] (fun (t:(bI × (List Int))) => [.agg [iC t.1.aG.Graph.aI,lo 0 t.1.aG.Graph.aF.length,xT aO t.1.aG.Places,lo 1 t.1.aN.length],.c (lo 2 t.2.length)]) (fun (t:(bI × (List Int))) => [(0,pR 40 aP t.1.aG.Graph.aF),(1,pR 3 aC t.1.aN),(2,pR 3 aC t.2)]) [0,1,2]:=by
 refine FT.of [] Tryz.func112 Tryz.ntmps112 Q y2 ?_
 intro w0 U0 R0 g0
 unfold Nr
 refine Ws (Wr ?_)
 refine iF 21 [iC 0,sC aX,sC aX,sC aX] oI y6 (aJ (Cc (sC aX)) aZ (On (Ws (Wr ?_))))
 refine aH (Cc (xT dI code)) y4 (aS fun r1 hr1 => (aT.step (dK [.c (xT dI code)] (Fw.Fn.ren [(0,23)] (Xl code r1 hr1) Q) Ui (l9 Q) J y3) z2 J Q Q (aJ (Cc (.pl 23 0)) y4 (On (Ws (Wr ?_))))))
 refine aH (Cc (.pl 23 0)) y4 (aS fun r2 hr2 => (aT.step (dK [.c (.pl 23 0)] (Fw.Fn.ren [(0,23),(1,25),(2,26)] (Xk r1 r2 hr2) Q) Uj (l9 Q) z1 y3) z2 z1 Q Q (iF 27 [iC 0,sC aX,sC aX,sC aX] oI y6 (dZ (stA [iC r2.1.aG.Graph.aI,lo 25 r2.1.aG.Graph.aF.length,xT aO r2.1.aG.Places,lo 26 r2.1.aN.length] Q Q eF dP) Q Q Q Q Q (On (Ws ?_))))))
 refine en [(2,Cc (.pl 21 0)),(4,Cc (.pl 23 0)),(5,Cc (.pl 27 0))] [(21,.row 48 [[iC 0,sC aX,sC aX,sC aX]]),(23,.row 105 [iw r2.2]),(25,pR 40 aP r2.1.aG.Graph.aF),(26,pR 3 aC r2.1.aN),(27,.row 48 [[iC r2.1.aG.Graph.aI,lo 25 r2.1.aG.Graph.aF.length,xT aO r2.1.aG.Places,lo 26 r2.1.aN.length]])] z3 z5 (Wr (aW (LT.dR Q mM) Q Q Q (bV (bQ [iC r2.1.aG.Graph.aI,lo 25 r2.1.aG.Graph.aF.length,xT aO r2.1.aG.Places] Q gY fF dS) Q Q Q Q (aS fun r3 hr3 => (aT.step (cF [.agg [iC r2.1.aG.Graph.aI,lo 25 r2.1.aG.Graph.aF.length,xT aO r2.1.aG.Places]] [(25,pR 40 aP r2.1.aG.Graph.aF)] (Fw.Fn.ren [(0,29)] (aGK r2.1.aG r3 hr3) Q) aB4 (.cons (.agg (.cons (.same Q) (.cons (.eU Q Q) (.cons (.weak (.same Q) (QW.fO kW (fun h => by cases h) _)) .nil)))) .nil) J y3) z2 z1 Q Q (aJ (Cc (lo 29 r3.length)) y4 (On (Ws (Ws ?_)))))))))
 refine aB.eX (fun j6 => ([(2,Cc (.pl 21 0)),(4,Cc (.pl 23 0)),(5,Cc (.pl 27 0)),(6,Cc (lo 29 r3.length)),(23,Bv j6.1)],[(21,.row 48 [[iC 0,sC aX,sC aX,sC aX]]),(23,.row 105 [[xT dI j6.2.1,iC j6.2.2.1,iC j6.2.2.2]]),(25,pR 40 aP r2.1.aG.Graph.aF),(26,pR 3 aC r2.1.aN),(27,.row 48 [[iC r2.1.aG.Graph.aI,lo 25 r2.1.aG.Graph.aF.length,xT aO r2.1.aG.Places,lo 26 r2.1.aN.length]]),(29,pR 28 (bG true) r3)])) ?_ (fun j6 _ => ?_)
 ·refine Wr (aH (Cc (lo 29 r3.length)) y4 (aW (LT.lC Q jR) Q Q Q (af LT.gtr aU (aH (Bv (decide (0 < (r3.length:Int)))) y4 (aT.split (fun hb7 => ?_) (fun hb7 => ?_))))))
  ·refine dB (Cc (.pl 23 0)) hb7 y5 (aS fun r8 Ac => (aT.step (dK [.c (.pl 23 0),.c (iC 5)] (Fw.Fn.ren [(0,23)] (Jm r2.2 5 r8 Ac) Q) Ho (jv y2) z1 y3) ⟨Q,Q,y2,J⟩ z1 (gH hb7 Q Q) Q (aW (LT.not Q) Q (gH hb7 Q Q) Q (dD (Bv (!r8.1)) hb7 y5 (On (aV Q z5 z6))))))
  ·refine aK hb7 y5 (aK hb7 y5 (aK hb7 y5 (dA (Bv false) hb7 aU (On (aV Q z5 z6)))))
 ·refine aB.cond Q (fun yT => ?_) (fun yT => ?_)
  ·refine Ws (Wr ?_)
   refine jo (gu 31 aC [] [] dO iL y7) Q Q (aH (Cc (lo 29 r3.length)) y4 (aH (Cc (.pl 23 0)) y4 (aH (Cc (lo 29 r3.length)) y4 (aW (LT.lC Q jR) Q Q Q (aS fun r10 D9 => (aT.step (dK [.c (.pl 23 0),.c (iC (r3.length:Int))] (Fw.Fn.ren [(0,23)] (rV (dW.mk j6.2.1 j6.2.2.1 j6.2.2.2) (r3.length:Int) r10 D9) Q) rM (jv y2) z1 y3) z3 z1 Q Q (aS fun x11 QL => (jf (LT.jH Q Q jw QL) Q Q Q Q Q (bV (ni 0 Q fP QL) Q Q Q Q (aS fun u12 aLJ => (dZ (LT.Cj (enc:=aC) Q  Q dO iL Q (by decide) (by decide) (fun _ => Q) (kU aLJ)) Q Q Q Q Q ?_)))))))))))
   refine aJ (Cc (lo 31 ((([]:List Int) ++ x11).length))) y4 (On (Ws (Ws ?_)))
   refine en [(2,Cc (.pl 21 0)),(4,Cc (.pl 23 0)),(5,Cc (.pl 27 0)),(7,Cc (lo 31 ((([]:List Int) ++ x11).length)))] [(21,.row 48 [[iC 0,sC aX,sC aX,sC aX]]),(23,.row 105 [iw r10.2]),(25,pR 40 aP r2.1.aG.Graph.aF),(26,pR 3 aC r2.1.aN),(27,.row 48 [[iC r2.1.aG.Graph.aI,lo 25 r2.1.aG.Graph.aF.length,xT aO r2.1.aG.Places,lo 26 r2.1.aN.length]]),(31,pR 3 aC (([]:List Int) ++ x11))] z4 z6 (Wr (aH (Cc (.pl 23 0)) y4 (aS fun r13 uF => (aT.step (dK [.c (.pl 23 0),.c (iC 2)] (Fw.Fn.ren [(0,23)] (Jm r10.2 2 r13 uF) Q) Ho (jv y2) z1 y3) ⟨Q,Q,y2,J⟩ z1 Q Q (On (aB.eX (fun j23 => ([(2,Cc (.pl 21 0)),(5,Cc (.pl 27 0)),(7,Cc (lo 31 j23.2.2.1.length))],[(21,.row 48 [[iC 0,sC aX,sC aX,sC aX]]),(25,pR 40 aP j23.2.2.2.1),(26,pR 3 aC j23.2.2.2.2),(27,.row 48 [[iC j23.1,lo 25 j23.2.2.2.1.length,xT aO j23.2.1,lo 26 j23.2.2.2.2.length]]),(31,pR 3 aC j23.2.2.1)])) ?_ (fun j23 _ => ?_)))))))
   ·refine aB.cond Q (fun hc24 => ?_) (fun hc24 => ?_)
    ·refine Ws (Wr ?_)
     refine aJ (Iv 0) aZ (On (aB.block ?_))
     refine aB.jM (id:=0) (SH r2) (fun jm => ([(2,Cc (.pl 21 0)),(5,Cc (.pl 27 0)),(7,Cc (lo 31 jm.2.length)),(8,Iv jm.1)],[(21,.row 48 [[iC 0,sC aX,sC aX,sC aX]]),(25,pR 40 aP r2.1.aG.Graph.aF),(26,pR 3 aC r2.1.aN),(27,.row 48 [[iC r2.1.aG.Graph.aI,lo 25 r2.1.aG.Graph.aF.length,xT aO r2.1.aG.Places,lo 26 r2.1.aN.length]]),(31,pR 3 aC jm.2)])) (fun b32 => ([(2,Cc (.pl 21 0)),(5,Cc (.pl 27 0)),(7,Cc (lo 31 b32.2.2.2.2.length))],[(21,.row 48 [[iC 0,sC aX,sC aX,sC aX]]),(25,pR 40 aP b32.1),(26,pR 3 aC b32.2.1),(27,.row 48 [[iC b32.2.2.1,lo 25 b32.1.length,xT aO b32.2.2.2.1,lo 26 b32.2.1.length]]),(31,pR 3 aC b32.2.2.2.2)])) ?_ (aY.of z4 z5) Q (fun b32 _ => ?_)
     ·intro jm
      unfold SH
      refine Ws (Ws (Wr ?_))
      refine aH (Iv jm.1) y4 (aH (Cc (lo 31 jm.2.length)) y4 (aW (LT.lC Q dO) Q Q Q (af LT.lss y5 (On (aB.cond Q (fun aJd => ?_) (fun aJd => ?_))))))
      ·refine aB.skip (Ws (aB.block (Wr ?_)))
       refine aH (Cc (lo 31 jm.2.length)) y4 (aH (Iv jm.1) y4 (aH (Cc (lo 31 jm.2.length)) y4 (aH (Iv jm.1) y4 (aS fun x34 hx34 => (jf (LT.jH Q Q dG hx34) Q Q Q Q Q (bV (ni 0 Q ak hx34) Q Q Q Q (aW (LT.neg Q) Q Q Q (aS fun x35 QV => (jf (LT.jH Q Q dG QV) Q Q Q Q Q (dZ (qI 0 (.c (iC (aA (-x34)))) (aA (-x34)) Q Q pX dQ QV) Q Q Q Q Q (On (aB.blk ?_))))))))))))
       refine en [(2,Cc (.pl 21 0)),(5,Cc (.pl 27 0)),(7,Cc (lo 31 jm.2.length)),(8,Iv jm.1)] [(21,.row 48 [[iC 0,sC aX,sC aX,sC aX]]),(25,pR 40 aP r2.1.aG.Graph.aF),(26,pR 3 aC r2.1.aN),(27,.row 48 [[iC r2.1.aG.Graph.aI,lo 25 r2.1.aG.Graph.aF.length,xT aO r2.1.aG.Places,lo 26 r2.1.aN.length]]),(31,pR 3 aC (jm.2.set jm.1.toNat (aA (-x34))))] z4 z5 (Wr (aH (Iv jm.1) y4 (af LT.add aU (aJ (Iv (aA (jm.1 + 1))) y4 (On (aB.nil ⟨Q,aY.of ⟨Q,Q,congrArg (fun l1 => (some (AV.s (.c (lo 31 l1))):Option AV)) (show jm.2.length = (jm.2.set jm.1.toNat (aA (-x34))).length by simp only [List.length_set]),Q,J⟩ z5⟩))))))
      ·refine eu y2 z3 z5
     ·refine aV Q z3 z5
    ·refine aB.skip (aV Q z3 z5)
   ·refine Ws (Wr ?_)
    refine bV (bQ [iC j23.1,lo 25 j23.2.2.2.1.length,xT aO j23.2.1,lo 26 j23.2.2.2.2.length] Q gZ eF dP) Q Q Q Q (aH (Cc (lo 31 j23.2.2.1.length)) y4 (dZ (stA [iC j23.1,lo 25 j23.2.2.2.1.length,xT aO j23.2.1,lo 26 j23.2.2.2.2.length] Q Q eF dP) Q Q Q Q Q (aJ (Cc (lo 31 j23.2.2.1.length)) y4 (On (en [(2,Cc (.pl 21 0)),(3,Cc (lo 31 j23.2.2.1.length))] [(21,.row 48 [[iC j23.1,lo 25 j23.2.2.2.1.length,xT aO j23.2.1,lo 26 j23.2.2.2.2.length]]),(25,pR 40 aP j23.2.2.2.1),(26,pR 3 aC j23.2.2.2.2),(31,pR 3 aC j23.2.2.1)] z2 z4 (aB.ent (aY.mv 31 2 Q Q) (aB.ent (aY.mv 25 0 Q Q) (aB.ent (aY.mv 26 1 Q Q) (en [(2,Cc (.pl 21 0)),(3,Cc (lo 2 j23.2.2.1.length))] [(0,pR 40 aP j23.2.2.2.1),(1,pR 3 aC j23.2.2.2.2),(2,pR 3 aC j23.2.2.1),(21,.row 48 [[iC j23.1,lo 0 j23.2.2.2.1.length,xT aO j23.2.1,lo 1 j23.2.2.2.2.length]])] z2 z4 (bT ⟨⟨_,_,_,Q,Q,Q,gZ,dP,_,ji eF⟩,Q,J⟩ z3 ⟨⟨au.sc,J,iY pq,J,J⟩,J,J⟩ ⟨cZ.fA lF,cZ.fA gQ,cZ.fA gQ,J⟩))))))))))
  ·refine aB.skip (Ws (aB.draw mixed ?_))
   refine fM (bQ [iC r2.1.aG.Graph.aI,lo 25 r2.1.aG.Graph.aF.length,xT aO r2.1.aG.Places,lo 26 r2.1.aN.length] Q gZ eF dP) Q Q Q Q (ay (Cc (.pl 23 0)) y4 (dh (lo 26 r2.1.aN.length) jy fP bK (ax (LT.lC Q dO) Q Q Q (aQ.bind fun yt ZR => (aQ.step (dK [.c (.pl 23 0),.c (iC (r2.1.aN.length:Int))] (Fw.Fn.ren [(0,23),(1,35)] (aGW (dW.mk j6.2.1 j6.2.2.1 j6.2.2.2) (r2.1.aN.length:Int) yt ZR) Q) aCJ (jv y2) z1 y3) z3 z1 Q Q (lQ (stA [iC r2.1.aG.Graph.aI,lo 25 r2.1.aG.Graph.aF.length,xT aO r2.1.aG.Places,lo 26 r2.1.aN.length] Q Q eF dP) Q Q Q Q Q (ax (LT.assign (v:=(Cc (lo 35 yt.1.length))) Q) Q Q Q (dm (en [(2,Cc (.pl 21 0)),(3,Cc (lo 35 yt.1.length))] [(21,.row 48 [[iC r2.1.aG.Graph.aI,lo 25 r2.1.aG.Graph.aF.length,xT aO r2.1.aG.Places,lo 26 r2.1.aN.length]]),(25,pR 40 aP r2.1.aG.Graph.aF),(26,pR 3 aC r2.1.aN),(35,pR 3 aC yt.1)] z2 z4 (aB.ent (aY.mv 35 2 Q Q) ?_))))))))))
   refine aB.ent (aY.mv 25 0 Q Q) (aB.ent (aY.mv 26 1 Q Q) (en [(2,Cc (.pl 21 0)),(3,Cc (lo 2 yt.1.length))] [(0,pR 40 aP r2.1.aG.Graph.aF),(1,pR 3 aC r2.1.aN),(2,pR 3 aC yt.1),(21,.row 48 [[iC r2.1.aG.Graph.aI,lo 0 r2.1.aG.Graph.aF.length,xT aO r2.1.aG.Places,lo 1 r2.1.aN.length]])] z2 z4 (bT ⟨⟨_,_,_,Q,Q,Q,gZ,dP,_,ji eF⟩,Q,J⟩ z3 ⟨⟨au.sc,J,iY pq,J,J⟩,J,J⟩ ⟨cZ.fA lF,cZ.fA gQ,cZ.fA gQ,J⟩)))
end Go.Proofs.YtdmlaldifbmkpaaGreat
end
