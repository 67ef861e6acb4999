/- Parts of a proof that a law of the program holds: what the program computes, and why that is right. -/
import Derived.Test.YtdmlaldifbmkpaaRows
import Derived.ProofKit
import Derived.OpenShut
import Derived.JoinedCond
import Derived.Carry
import Derived.Deep.Slices
import Derived.ChangeSame
import Derived.Test.YtdmlaldifbmkpaaZFnStresses5
section
set_option linter.unusedVariables false
set_option linter.unusedSimpArgs false
set_option linter.unnecessarySimpa false
set_option maxRecDepth 100000
set_option maxHeartbeats 8000000
open Go Go.Fw
namespace Go.Proofs.Ytdmlaldifbmkpaa
theorem aJc (f : aZ) : FT Try.prog (ML f) 23 [.agg [iC f.Graph.aG,xF aI f.Graph.aB,xF aK f.Places]] [] (fun (t : Bool) => [.c (bC t)]) (fun (t : Bool) => []) [] := by
 refine FT.of [] Try.func23 Try.ntmps23 Q y2 ?_
 intro w0 U0 R0 g0
 unfold ML
 refine Ws (Wr ?_)
 refine fK (LT.box (n := 21) (v := (.agg [iC f.Graph.aG,xF aI f.Graph.aB,xF aK f.Places])) Q bU (by exact Q)) Q Q Q (aJ (Bv false) aX (On (Ws (Wr ?_))))
 refine bf (cO [iC f.Graph.aG,xF aI f.Graph.aB,xF aK f.Places] Q dW bn bU) Q Q Q Q (aQ fun r1 hr1 => (aP.pure (bQ [.agg [iC f.Graph.aG,xF aI f.Graph.aB,xF aK f.Places]] (aJZ f r1 hr1) aDW (mO y3) J y3) z2 J Q Q (aT LT.eql aU (aJ (Bv (r1 == 0)) y4 (On (aC.ret (aj.mk (.inr Q) z1 J Q ⟨au.sc,J⟩ J)))))))
theorem aCA (code : (List Int)) : FT Try.prog (Ie code) 99 [.c (xT bD code)] [] (fun (t : (aZ × (List Int))) => [.agg [iC t.1.Graph.aG,lo 0 t.1.Graph.aB.length,xT aK t.1.Places],.c (xT aH t.2)]) (fun (t : (aZ × (List Int))) => [(0,pR 96 aI t.1.Graph.aB)]) [0] := by
 refine FT.AB [] Try.func99 Try.ntmps99 Q y2 ?_
 intro w0 U0 R0 g0 hU
 unfold Ie
 refine Ws (Wr ?_)
 refine dP (LT.alloc (n := 21) (cells := [iC 0,sC ah,sC ah]) Q pI Q Q Q) Q Q (aJ (Cc (sC ah)) aX (On (Ws (Wr ?_))))
 refine aF (Cc (xT bD code)) y4 (aQ fun r1 hr1 => (aP.step (bQ [.c (xT bD code)] (Fw.Fn.ren [(0,23)] (Wl code r1 hr1) Q) SI (lu Q) J y3) z2 J Q Q (aJ (Cc (.pl 23 0)) y4 (On (Ws (Wr ?_))))))
 refine aF (Cc (.pl 23 0)) y4 (aQ fun r2 hr2 => (aP.step (bQ [.c (.pl 23 0)] (Fw.Fn.ren [(0,23),(1,25)] (Wh r1 r2 hr2) Q) SH (lu Q) z1 y3) z2 z1 Q Q (dP (LT.alloc (n := 26) (cells := [iC 0,sC ah,sC ah]) Q pI Q Q Q) Q Q (dU (stA [iC r2.1.Graph.aG,lo 25 r2.1.Graph.aB.length,xT aK r2.1.Places] Q Q bn bU) Q Q Q Q Q (On (Ws ?_))))))
 refine en [(2,Cc (.pl 21 0)),(4,Cc (.pl 23 0)),(5,Cc (.pl 26 0))] [(21,.row 29 [[iC 0,sC ah,sC ah]]),(23,.row 139 [[xT bD r2.2.b,iC r2.2.i,iC r2.2.h]]),(25,pR 96 aI r2.1.Graph.aB),(26,.row 29 [[iC r2.1.Graph.aG,lo 25 r2.1.Graph.aB.length,xT aK r2.1.Places]])] z3 z4 (Wr (bf (cO [iC r2.1.Graph.aG,lo 25 r2.1.Graph.aB.length,xT aK r2.1.Places] Q dW bn bU) Q Q Q Q (aQ fun r3 hr3 => (aP.step (cF [.agg [iC r2.1.Graph.aG,lo 25 r2.1.Graph.aB.length,xT aK r2.1.Places]] [(25,pR 96 aI r2.1.Graph.aB)] (Fw.Fn.ren [(0,28)] (aB9 r2.1 r3 hr3) Q) Xl (.cons (.agg (.cons (.same Q) (.cons (.iZ Q Q) (.cons (.weak (.same Q) (QW.kN qR (fun h => by cases h) _)) .nil)))) .nil) J y3) z2 z1 Q Q (aJ (Cc (lo 28 r3.length)) y4 (On (Ws (Ws ?_))))))))
 refine aC.fC (fun j6 => ([(2,Cc (.pl 21 0)),(4,Cc (.pl 23 0)),(5,Cc (.pl 26 0)),(6,Cc (lo 28 r3.length)),(20,Bv j6.1)],[(21,.row 29 [[iC 0,sC ah,sC ah]]),(23,.row 139 [[xT bD j6.2.1,iC j6.2.2.1,iC j6.2.2.2]]),(25,pR 96 aI r2.1.Graph.aB),(26,.row 29 [[iC r2.1.Graph.aG,lo 25 r2.1.Graph.aB.length,xT aK r2.1.Places]]),(28,pR 37 (bI true) r3)])) ?_ (fun j6 _ => ?_)
 ·refine Wr (aF (Cc (lo 28 r3.length)) y4 (aS (LT.jg Q gy) Q Q Q (aT LT.gtr aU (aF (Bv (decide (0 < (r3.length : Int)))) y4 (aP.split (fun hb7 => ?_) (fun hb7 => ?_))))))
  ·refine gW (Cc (.pl 23 0)) hb7 y5 (aQ fun r8 xB => (aP.step (bQ [.c (.pl 23 0),.c (iC 4)] (Fw.Fn.ren [(0,23)] (Wn r2.2 4 r8 xB) Q) SA (ji y2) z1 y3) ⟨Q,Q,y2,J⟩ z1 (gH hb7 Q Q) Q (aS (LT.not Q) Q (gH hb7 Q Q) Q (dh (Bv (!r8.1)) hb7 y5 (On (aW Q z5 z5))))))
  ·refine aV hb7 y5 (aV hb7 y5 (aV hb7 y5 (gY (Bv false) hb7 aU (On (aW Q z5 z5)))))
 ·refine aC.cond Q (fun wz => ?_) (fun wz => ?_)
  ·refine Ws (aC.draw mixed ?_)
   refine gQ (cO [iC r2.1.Graph.aG,lo 25 r2.1.Graph.aB.length,xT aK r2.1.Places] Q dW bn bU) Q Q Q Q (ak (Cc (lo 28 r3.length)) y4 (ak (Cc (.pl 23 0)) y4 (ak (Cc (lo 28 r3.length)) y4 (bJ (LT.jg Q gy) Q Q Q (aN.bind fun r10 zU => (aN.step (bQ [.c (.pl 23 0),.c (iC (r3.length : Int))] (Fw.Fn.ren [(0,23)] (qE (cZ.mk j6.2.1 j6.2.2.1 j6.2.2.2) (r3.length : Int) r10 zU) Q) pW (ji y2) z1 y3) z3 z1 Q Q (aN.bind fun x11 KZ => (je (LT.iG Q Q iL KZ) Q Q Q Q Q (gQ (LT.lU (k := 0) Q jR KZ (by exact Q) (by exact Q)) Q Q Q Q (lW (stA [iC r2.1.Graph.aG,lo 25 r2.1.Graph.aB.length,xT aK r2.1.Places] Q Q bn bU) Q Q Q Q Q (bJ (LT.assign (v := (Cc (xT aH x11))) Q) Q Q Q ?_)))))))))))
   refine aN.nil (by kernel_rfl) (en [(2,Cc (.pl 21 0)),(3,Cc (xT aH x11))] [(21,.row 29 [[iC r2.1.Graph.aG,lo 25 r2.1.Graph.aB.length,xT aK r2.1.Places]]),(25,pR 96 aI r2.1.Graph.aB)] z2 z2 (aC.ent (aO.mv 25 0 Q Q) (en [(2,Cc (.pl 21 0)),(3,Cc (xT aH x11))] [(0,pR 96 aI r2.1.Graph.aB),(21,.row 29 [[iC r2.1.Graph.aG,lo 0 r2.1.Graph.aB.length,xT aK r2.1.Places]])] z2 z2 (aC.ret (aj.mk (.inr Q) ⟨⟨_,_,_,Q,Q,Q,dW,bU,_,dK bn⟩,Q,J⟩ z1 Q ⟨⟨au.sc,J,kT vg,J⟩,kT jb,J⟩ ⟨dG.gm oh,J⟩)))))
  ·refine aC.skip (Ws (aC.draw mixed ?_))
   refine gQ (cO [iC r2.1.Graph.aG,lo 25 r2.1.Graph.aB.length,xT aK r2.1.Places] Q dW bn bU) Q Q Q Q (ak (Cc (.pl 23 0)) y4 (bJ (LT.gV Q jm) Q Q Q (eG (lo 25 r2.1.Graph.aB.length) iJ iU bP (bJ (LT.jg Q ig) Q Q Q (aN.bind fun r12 ED => (aN.step (bQ [.c (.pl 23 0),.c (iC (r2.1.Graph.aB.length : Int))] (Fw.Fn.ren [(0,23),(1,32)] (aCJ (cZ.mk j6.2.1 j6.2.2.1 j6.2.2.2) (r2.1.Graph.aB.length : Int) r12 ED) Q) Xv (ji y2) z1 y3) z3 z1 Q Q (lW (stA [iC r2.1.Graph.aG,lo 25 r2.1.Graph.aB.length,xT aK r2.1.Places] Q Q bn bU) Q Q Q Q Q (bJ (LT.assign (v := (Cc (lo 32 r12.1.length))) Q) Q Q Q (aN.nil (by kernel_rfl) (aC.ent (aO.Ou (enc := aH) (xs := r12.1) (σ' := [(2,Cc (.pl 21 0)),(3,Cc (xT aH r12.1)),(4,Cc (.pl 23 0)),(5,Cc (.pl 26 0)),(6,Cc (lo 28 r3.length)),(20,Bv j6.1),(29,Ag  [iC r2.1.Graph.aG,lo 25 r2.1.Graph.aB.length,xT aK r2.1.Places]),(30,Cc (.pl 23 0)),(31,Cc (.pl 26 0)),(32,Cc (.pl 26 1)),(33,Cc (lo 25 r2.1.Graph.aB.length)),(34,Iv (r2.1.Graph.aB.length : Int)),(35,Cc (xT aH r12.1))]) (m' := [(21,.row 29 [[iC r2.1.Graph.aG,lo 25 r2.1.Graph.aB.length,xT aK r2.1.Places]]),(23,.row 139 [[xT bD r12.2.b,iC r12.2.i,iC r12.2.h]]),(25,pR 96 aI r2.1.Graph.aB),(26,.row 29 [[iC r2.1.Graph.aG,lo 25 r2.1.Graph.aB.length,xT aK r2.1.Places]]),(28,pR 37 (bI true) r3)]) 32 hU Q Q ⟨⟨_,Q,.same Q⟩,⟨_,Q,.c (.fr (by rw [List.length_map]))⟩,⟨_,Q,.same Q⟩,⟨_,Q,.same Q⟩,⟨_,Q,.same Q⟩,⟨_,Q,.same Q⟩,⟨_,Q,.same Q⟩,⟨_,Q,.same Q⟩,⟨_,Q,.same Q⟩,⟨_,Q,.same Q⟩,⟨_,Q,.same Q⟩,⟨_,Q,.same Q⟩,⟨_,Q,.c (.fr (by rw [List.length_map]))⟩,J⟩ ⟨⟨Q,_,Q,.same Q⟩,⟨Q,_,Q,.same Q⟩,⟨Q,_,Q,.same Q⟩,⟨Q,_,Q,.same Q⟩,⟨Q,_,Q,.same Q⟩,J⟩) ?_))))))))))
   refine en [(2,Cc (.pl 21 0)),(3,Cc (xT aH r12.1))] [(21,.row 29 [[iC r2.1.Graph.aG,lo 25 r2.1.Graph.aB.length,xT aK r2.1.Places]]),(25,pR 96 aI r2.1.Graph.aB)] z2 z2 (aC.ent (aO.mv 25 0 Q Q) (en [(2,Cc (.pl 21 0)),(3,Cc (xT aH r12.1))] [(0,pR 96 aI r2.1.Graph.aB),(21,.row 29 [[iC r2.1.Graph.aG,lo 0 r2.1.Graph.aB.length,xT aK r2.1.Places]])] z2 z2 (aC.ret (aj.mk (.inr Q) ⟨⟨_,_,_,Q,Q,Q,dW,bU,_,dK bn⟩,Q,J⟩ z1 Q ⟨⟨au.sc,J,kT vg,J⟩,kT jb,J⟩ ⟨dG.gm oh,J⟩))))
theorem aJX (code : (List Int)) : FT Try.prog (MC code) 25 [.c (xT bD code)] [] (fun (t : (aZ × (List Int))) => [.agg [iC t.1.Graph.aG,lo 0 t.1.Graph.aB.length,xT aK t.1.Places],.c (xT aH t.2)]) (fun (t : (aZ × (List Int))) => [(0,pR 96 aI t.1.Graph.aB)]) [0] := by
 refine FT.of [] Try.func25 Try.ntmps25 Q y2 ?_
 intro w0 U0 R0 g0
 unfold MC
 refine Ws (Wr ?_)
 refine dP (LT.alloc (n := 21) (cells := [iC 0,sC ah,sC ah]) Q pI Q Q Q) Q Q (aJ (Cc (sC ah)) aX (On (Ws (Wr ?_))))
 refine aF (Cc (xT bD code)) y4 (aQ fun r1 hr1 => (aP.step (bQ [.c (xT bD code)] (Fw.Fn.ren [(0,23)] (aCA code r1 hr1) Q) YB (lu Q) J y3) z2 J Q Q (aF (.dO [.agg [iC r1.1.Graph.aG,lo 23 r1.1.Graph.aB.length,xT aK r1.1.Places],.c (xT aH r1.2)]) y4 (aS (LT.extract (v := (.agg [iC r1.1.Graph.aG,lo 23 r1.1.Graph.aB.length,xT aK r1.1.Places])) Q (by exact Q)) Q Q Q (aS (LT.extract (v := (.c (xT aH r1.2))) Q (by exact Q)) Q Q Q (dP (LT.alloc (n := 24) (cells := [iC 0,sC ah,sC ah]) Q pI Q Q Q) Q Q (dU (stA [iC r1.1.Graph.aG,lo 23 r1.1.Graph.aB.length,xT aK r1.1.Places] Q Q bn bU) Q Q Q Q Q (aJ (Cc (xT aH r1.2)) y4 (On (Ws ?_))))))))))
 refine en [(2,Cc (.pl 21 0)),(4,Cc (.pl 24 0)),(5,Cc (xT aH r1.2))] [(21,.row 29 [[iC 0,sC ah,sC ah]]),(23,pR 96 aI r1.1.Graph.aB),(24,.row 29 [[iC r1.1.Graph.aG,lo 23 r1.1.Graph.aB.length,xT aK r1.1.Places]])] z3 z3 (Wr (bf (cO [iC r1.1.Graph.aG,lo 23 r1.1.Graph.aB.length,xT aK r1.1.Places] Q dW bn bU) Q Q Q Q (aF (Cc (xT aH r1.2)) y4 (dU (stA [iC r1.1.Graph.aG,lo 23 r1.1.Graph.aB.length,xT aK r1.1.Places] Q Q bn bU) Q Q Q Q Q (aJ (Cc (xT aH r1.2)) y4 (On (en [(2,Cc (.pl 21 0)),(3,Cc (xT aH r1.2))] [(21,.row 29 [[iC r1.1.Graph.aG,lo 23 r1.1.Graph.aB.length,xT aK r1.1.Places]]),(23,pR 96 aI r1.1.Graph.aB)] z2 z2 (aC.ent (aO.mv 23 0 Q Q) (en [(2,Cc (.pl 21 0)),(3,Cc (xT aH r1.2))] [(0,pR 96 aI r1.1.Graph.aB),(21,.row 29 [[iC r1.1.Graph.aG,lo 0 r1.1.Graph.aB.length,xT aK r1.1.Places]])] z2 z2 (aC.ret (aj.mk (.inr Q) ⟨⟨_,_,_,Q,Q,Q,dW,bU,_,dK bn⟩,Q,J⟩ z1 Q ⟨⟨au.sc,J,kT vg,J⟩,kT jb,J⟩ ⟨dG.gm oh,J⟩)))))))))))
theorem aJW (code : (List Int)) : FT Try.prog (MB code) 26 [.c (xT bD code)] [] (fun (t : (aZ × (List Int) × Int)) => [.agg [iC t.1.Graph.aG,lo 0 t.1.Graph.aB.length,xT aK t.1.Places],.c (xT aH t.2.1),.c (iC t.2.2)]) (fun (t : (aZ × (List Int) × Int)) => [(0,pR 96 aI t.1.Graph.aB)]) [0] := by
 refine FT.of [] Try.func26 Try.ntmps26 Q y2 ?_
 intro w0 U0 R0 g0
 unfold MB
 refine Ws (Wr ?_)
 refine dP (LT.alloc (n := 21) (cells := [iC 0,sC ah,sC ah]) Q pI Q Q Q) Q Q (aJ (Cc (sC ah)) aX (aJ (Iv 0) aX (On (Ws (Wr ?_)))))
 refine aF (Cc (xT bD code)) y4 (aQ fun r1 hr1 => (aP.step (bQ [.c (xT bD code)] (Fw.Fn.ren [(0,23)] (aCA code r1 hr1) Q) YB (lu Q) J y3) z2 J Q Q (aF (.dO [.agg [iC r1.1.Graph.aG,lo 23 r1.1.Graph.aB.length,xT aK r1.1.Places],.c (xT aH r1.2)]) y4 (aS (LT.extract (v := (.agg [iC r1.1.Graph.aG,lo 23 r1.1.Graph.aB.length,xT aK r1.1.Places])) Q (by exact Q)) Q Q Q (aS (LT.extract (v := (.c (xT aH r1.2))) Q (by exact Q)) Q Q Q (dP (LT.alloc (n := 24) (cells := [iC 0,sC ah,sC ah]) Q pI Q Q Q) Q Q (dU (stA [iC r1.1.Graph.aG,lo 23 r1.1.Graph.aB.length,xT aK r1.1.Places] Q Q bn bU) Q Q Q Q Q (aJ (Cc (xT aH r1.2)) y4 (On (Ws ?_))))))))))
 refine en [(0,Cc (xT bD code)),(2,Cc (.pl 21 0)),(5,Cc (.pl 24 0)),(6,Cc (xT aH r1.2))] [(21,.row 29 [[iC 0,sC ah,sC ah]]),(23,pR 96 aI r1.1.Graph.aB),(24,.row 29 [[iC r1.1.Graph.aG,lo 23 r1.1.Graph.aB.length,xT aK r1.1.Places]])] z4 z3 (Wr (bf (cO [iC r1.1.Graph.aG,lo 23 r1.1.Graph.aB.length,xT aK r1.1.Places] Q dW bn bU) Q Q Q Q (aF (Cc (xT aH r1.2)) y4 (aF (Cc (xT bD code)) y4 (aS (LT.fA Q Nq) Q Q Q (dY (LT.rem Q (by decide)) Q y2 Q Q (aT LT.sub aU (dU (stA [iC r1.1.Graph.aG,lo 23 r1.1.Graph.aB.length,xT aK r1.1.Places] Q Q bn bU) Q Q Q Q Q (aJ (Cc (xT aH r1.2)) y4 (aJ (Iv (aA ((Int.tmod (code.length : Int) 8) - 1))) y4 (On ?_)))))))))))
 refine en [(2,Cc (.pl 21 0)),(3,Cc (xT aH r1.2)),(4,Iv (aA ((Int.tmod (code.length : Int) 8) - 1)))] [(21,.row 29 [[iC r1.1.Graph.aG,lo 23 r1.1.Graph.aB.length,xT aK r1.1.Places]]),(23,pR 96 aI r1.1.Graph.aB)] z3 z2 (aC.ent (aO.mv 23 0 Q Q) (en [(2,Cc (.pl 21 0)),(3,Cc (xT aH r1.2)),(4,Iv (aA ((Int.tmod (code.length : Int) 8) - 1)))] [(0,pR 96 aI r1.1.Graph.aB),(21,.row 29 [[iC r1.1.Graph.aG,lo 0 r1.1.Graph.aB.length,xT aK r1.1.Places]])] z3 z2 (aC.ret (aj.mk (.inr Q) ⟨⟨_,_,_,Q,Q,Q,dW,bU,_,dK bn⟩,Q,Q,J⟩ z1 Q ⟨⟨au.sc,J,kT vg,J⟩,kT jb,au.sc,J⟩ ⟨dG.gm oh,J⟩))))
theorem Wj (f : aZ) (w : (List Int)) : FT Try.prog (Ef f w) 100 [.agg [iC f.Graph.aG,xF aI f.Graph.aB,xF aK f.Places],.c (xF aH w)] [] (fun (t : Bool) => [.c (bC t)]) (fun (t : Bool) => []) [] := by
 refine FT.of [] Try.func100 Try.ntmps100 Q y2 ?_
 intro w0 U0 R0 g0
 unfold Ef
 refine Ws (Wr ?_)
 refine fK (LT.box (n := 21) (v := (.agg [iC f.Graph.aG,xF aI f.Graph.aB,xF aK f.Places])) Q bU (by exact Q)) Q Q Q (aJ (Bv false) aX (On (Ws (Ws (Wr ?_)))))
 refine aJ (Iv 0) aX (On (aC.block ?_))
 refine aC.nV (id := 0) (Eg w) (fun s1 => ([(1,Cc (xF aH w)),(2,Cc (.pl 21 0)),(5,Iv s1)],[(21,.row 29 [[iC f.Graph.aG,xF aI f.Graph.aB,xF aK f.Places]])])) (fun b10 => ([(1,Cc (xF aH w)),(2,Cc (.pl 21 0))],[(21,.row 29 [[iC f.Graph.aG,xF aI f.Graph.aB,xF aK f.Places]])])) (aj Try.prog Try.f100.results.toList [] [] (fun (t : Bool) => [.c (bC t)]) (fun (t : Bool) => [])) ?_ (aO.of z3 z1) Q (fun b10 _ => ?_) (by intro r t σ m ht hk; injection ht with ht; subst ht; exact hk)
 ·intro s1
  unfold Eg
  refine Ws (Ws (Wr ?_))
  refine aF (Iv s1) y4 (aF (Cc (xF aH w)) y4 (aS (LT.fA Q bZ) Q Q Q (aT LT.lss y5 (On (aC.cond Q (fun rP => ?_) (fun rP => ?_))))))
  ·refine aC.skip (Ws (aC.block (Ws (Wr ?_))))
   refine aF (Cc (xF aH w)) y4 (aF (Iv s1) y4 (aQ fun x12 vW => (dY (LT.dH (enc := aH) Q dR vW fM) Q Q Q Q (aS (LT.fO Q ay) Q Q Q (aQ fun r13 rQ => (aP.pure (bQ [.c (iC x12),.c (iC (-10000000000)),.c (iC 10000000000)] (DC x12 (-10000000000) 10000000000 r13 rQ) Au (vH y3) J y3) ⟨Q,Q,y2,y2,J⟩ J Q Q (aS (LT.not Q) Q Q Q (On (aC.cond Q (fun wu => ?_) (fun wu => ?_))))))))))
   ·refine Ws (Wr ?_)
    refine aJ (Bv false) aX (On (aC.ret ⟨Q,aj.mk (.inr Q) z1 J Q ⟨au.sc,J⟩ J⟩))
   ·refine aC.skip (aC.blk (Wr ?_))
    refine aF (Iv s1) y4 (aT LT.add aU (aJ (Iv (aA (s1 + 1))) y4 (On (aW Q z3 z1))))
  ·refine aC.eF Q ⟨Q,aO.of z2 z1⟩
 ·refine Ws (aC.fC (fun j17 => ([(4,Bv j17)],[])) ?_ (fun j17 _ => ?_))
  ·refine Wr (bf (cO [iC f.Graph.aG,xF aI f.Graph.aB,xF aK f.Places] Q dW bn bU) Q Q Q Q (aQ fun jJ zV => (aP.pure (bQ [.agg [iC f.Graph.aG,xF aI f.Graph.aB,xF aK f.Places]] (C9 f jJ zV) Ar (mO y3) J y3) z2 J Q Q (aF (Bv jJ) y4 (aP.split (fun iQ => ?_) (fun iQ => ?_))))))
   ·refine gW (Cc (xF aH w)) iQ y5 (aS (LT.fA Q bZ) Q (gH iQ Q Q) Q (aS (LT.gV Q jm) Q (gH iQ Q Q) Q (kR (xF aI f.Graph.aB) iJ iU iQ iq (aS (LT.fA Q ig) Q (gH iQ Q Q) Q (iT LT.eql iQ y6 (dh (Bv ((w.length : Int) == (f.Graph.aB.length : Int))) iQ y5 (aJ (Bv ((w.length : Int) == (f.Graph.aB.length : Int))) y4 (On (aW Q z1 J)))))))))
   ·refine aV iQ y5 (aV iQ y5 (aV iQ y5 (aV iQ y5 (aV iQ y5 (aV iQ y5 (aV iQ y5 (gY (Bv false) iQ aU (aJ (Bv false) y4 (On (aW Q z1 J))))))))))
  ·refine aC.ret (aj.mk (.inr Q) z1 J Q ⟨au.sc,J⟩ J)
theorem aB6 (f : aZ) (w : (List Int)) (v : Int) : FT Try.prog (zu f w v) 27 [.agg [iC f.Graph.aG,xF aI f.Graph.aB,xF aK f.Places],.c (xF aH w),.c (iC v)] [] (fun (t : (Int × Int)) => [.c (iC t.1),.c (iC t.2)]) (fun (t : (Int × Int)) => []) [] := by
 refine FT.of [] Try.func27 Try.ntmps27 Q y2 ?_
 intro w0 U0 R0 g0
 unfold zu
 refine Ws (Wr ?_)
 refine fK (LT.box (n := 21) (v := (.agg [iC f.Graph.aG,xF aI f.Graph.aB,xF aK f.Places])) Q bU (by exact Q)) Q Q Q (aJ (Iv 0) aX (aJ (Iv 0) aX (On (Ws (Wr ?_)))))
 refine aJ (Iv 0) aX (On (Ws (Wr ?_)))
 refine aJ (Iv 0) aX (On (Ws (Ws (Wr ?_))))
 refine aJ (Iv 0) aX (On (aC.block ?_))
 refine aC.iW (id := 0) (xG f w v) (fun s1 => ([(1,Cc (xF aH w)),(2,Iv v),(3,Cc (.pl 21 0)),(8,Iv s1.1),(9,Iv s1.2.1),(10,Iv s1.2.2)],[(21,.row 29 [[iC f.Graph.aG,xF aI f.Graph.aB,xF aK f.Places]])])) (fun xZ => ([(8,Iv xZ.1),(9,Iv xZ.2)],[])) ?_ (aO.of z6 z1) Q (fun xZ _ => ?_)
 ·intro s1
  unfold xG
  refine Ws (Ws ?_)
  refine aC.fC (fun j59 => ([(1,Cc (xF aH w)),(2,Iv v),(3,Cc (.pl 21 0)),(8,Iv s1.1),(9,Iv s1.2.1),(10,Iv s1.2.2),(21,Bv j59)],[(21,.row 29 [[iC f.Graph.aG,xF aI f.Graph.aB,xF aK f.Places]])])) ?_ (fun j59 _ => ?_)
  ·refine Wr (aF (Iv s1.2.2) y4 (aF (Cc (xF aH w)) y4 (aS (LT.fA Q bZ) Q Q Q (aT LT.lss y5 (aF (Bv (decide (s1.2.2 < (w.length : Int)))) y4 (aP.split (fun zM => ?_) (fun zM => ?_)))))))
   ·refine bf (cO [iC f.Graph.aG,xF aI f.Graph.aB,xF aK f.Places] Q dW bn bU) Q Q (gH zM Q Q) Q (gW (Cc (xF aH w)) zM y5 (aQ fun eU UZ => (aP.pure (bQ [.agg [iC f.Graph.aG,xF aI f.Graph.aB,xF aK f.Places],.c (xF aH w)] (Wj f w eU UZ) Ry (xM y4) J y3) z3 J (gH zM Q Q) Q (dh (Bv eU) zM y5 (On (aW Q z7 z1))))))
   ·refine aV zM y5 (aV zM y5 (aV zM y5 (gY (Bv false) zM aU (On (aW Q z7 z1)))))
  ·refine aC.cond Q (fun aEo => ?_) (fun aEo => ?_)
   ·refine aC.skip (Ws (aC.block (Ws (Wr ?_))))
    refine aS (LT.gV Q jm) Q Q Q (fV (xF aI f.Graph.aB) iJ iU bP (aF (Iv s1.2.2) y4 (aQ fun qc aGi => (dY (LT.dH (enc := aI) Q rH aGi fQ) Q Q Q Q (aS (LT.lF Q kZ (dK jO) (by exact fQ.symm)) Q Q Q (dP (LT.alloc (n := 23) (cells := [iC 0,iC 0]) Q jo Q Q Q) Q Q (dU (stA [iC qc.A,iC qc.B] Q Q jO fQ) Q Q Q Q Q (On (Ws ?_)))))))))
    refine aC.fC (fun j65 => ([(1,Cc (xF aH w)),(2,Iv v),(3,Cc (.pl 21 0)),(8,Iv s1.1),(9,Iv s1.2.1),(10,Iv s1.2.2),(11,Cc (.pl 23 0)),(39,Bv j65)],[(21,.row 29 [[iC f.Graph.aG,xF aI f.Graph.aB,xF aK f.Places]]),(23,.row 96 [[iC qc.A,iC qc.B]])])) ?_ (fun j65 _ => ?_)
    ·refine en [(1,Cc (xF aH w)),(2,Iv v),(3,Cc (.pl 21 0)),(8,Iv s1.1),(9,Iv s1.2.1),(10,Iv s1.2.2),(11,Cc (.pl 23 0))] [(21,.row 29 [[iC f.Graph.aG,xF aI f.Graph.aB,xF aK f.Places]]),(23,.row 96 [[iC qc.A,iC qc.B]])] z7 z2 (Wr (fV (iC qc.A) lS ay bP (aF (Iv v) y4 (aT LT.eql y5 (aF (Bv (qc.A == v)) y4 (aP.split (fun yE => ?_) (fun yE => ?_)))))))
     ·refine aV yE y5 (aV yE y5 (aV yE y5 (aV yE y5 (dh (Bv true) yE aU (On (aW Q z8 z2))))))
     ·refine kR (iC qc.B) mV ay yE iq (gW (Iv v) yE y5 (iT LT.eql yE y6 (gY (Bv (qc.B == v)) yE y5 (On (aW Q z8 z2)))))
    ·refine aC.fC (fun j75 => ([(1,Cc (xF aH w)),(2,Iv v),(3,Cc (.pl 21 0)),(8,Iv j75.1),(9,Iv j75.2),(10,Iv s1.2.2)],[(21,.row 29 [[iC f.Graph.aG,xF aI f.Graph.aB,xF aK f.Places]])])) ?_ (fun j75 _ => ?_)
     ·refine aC.cond Q (fun aEr => ?_) (fun aEr => ?_)
      ·refine Ws (Wr ?_)
       refine bf (cO [iC qc.A,iC qc.B] Q kZ jO fQ) Q Q Q Q (aF (Iv v) y4 (aQ fun CQ aFl => (aP.pure (bQ [.agg [iC qc.A,iC qc.B],.c (iC v)] (aJo qc v CQ aFl) aCy (V4 y3) J y3) z3 J Q Q (aJ (Iv CQ) y4 (On (Ws (aC.draw mixed ?_)))))))
       refine ak (Iv s1.1) y4 (ak (Cc (xF aH w)) y4 (ak (Iv s1.2.2) y4 (aN.bind fun wR Uu => (dJ (LT.dH (enc := aH) Q dR Uu fM) Q Q Q Q (bJ (LT.fO Q ay) Q Q Q (eG (xF aK f.Places) iy jC bP (ak (Iv v) y4 (aN.bind fun wS Uw => (dJ (LT.dH (enc := aK) Q kG Uw iH) Q Q Q Q (bJ (LT.sK Q rJ) Q Q Q ?_))))))))))
       refine bJ (LT.fO Q ay) Q Q Q (eG (xF aK f.Places) iy jC bP (ak (Iv CQ) y4 (aN.bind fun x80 aGm => (dJ (LT.dH (enc := aK) Q kG aGm iH) Q Q Q Q (bJ (LT.sK Q rJ) Q Q Q (bJ (LT.fO Q ay) Q Q Q (iE LT.sub y5 (iE LT.mul y5 (iE LT.add y5 (bJ (LT.assign (v := (Iv (aA (s1.1 + (aA (wR * (aA (wS.X - x80.X)))))))) Q) Q Q Q ?_))))))))))
       refine aN.nil (by kernel_rfl) (en [(1,Cc (xF aH w)),(2,Iv v),(3,Cc (.pl 21 0)),(8,Iv (aA (s1.1 + (aA (wR * (aA (wS.X - x80.X))))))),(9,Iv s1.2.1),(10,Iv s1.2.2),(12,Iv CQ)] [(21,.row 29 [[iC f.Graph.aG,xF aI f.Graph.aB,xF aK f.Places]])] z7 z1 (aC.draw mixed (ak (Iv s1.2.1) y4 (ak (Cc (xF aH w)) y4 (ak (Iv s1.2.2) y4 (aN.bind fun x81 aGn => (dJ (LT.dH (enc := aH) Q dR aGn fM) Q Q Q Q (bJ (LT.fO Q ay) Q Q Q (eG (xF aK f.Places) iy jC bP (ak (Iv v) y4 ?_))))))))))
       refine aN.bind fun x82 aGo => (dJ (LT.dH (enc := aK) Q kG aGo iH) Q Q Q Q (bJ (LT.sK Q sN) Q Q Q (bJ (LT.fO Q ay) Q Q Q (eG (xF aK f.Places) iy jC bP (ak (Iv CQ) y4 (aN.bind fun x83 Gg => (dJ (LT.dH (enc := aK) Q kG Gg iH) Q Q Q Q (bJ (LT.sK Q sN) Q Q Q (bJ (LT.fO Q ay) Q Q Q (iE LT.sub y5 ?_))))))))))
       refine iE LT.mul y5 (iE LT.add y5 (bJ (LT.assign (v := (Iv (aA (s1.2.1 + (aA (x81 * (aA (x82.Y - x83.Y)))))))) Q) Q Q Q (aN.nil (by kernel_rfl) (aW Q z6 z1))))
      ·refine aC.skip (aW Q z6 z1)
     ·refine aC.blk (Wr ?_)
      refine aF (Iv s1.2.2) y4 (aT LT.add aU (aJ (Iv (aA (s1.2.2 + 1))) y4 (On (aW Q z6 z1))))
   ·refine aC.eF Q ⟨Q,aO.of z2 J⟩
 ·refine Ws (Wr ?_)
  refine aF (Iv xZ.1) y4 (aF (Iv xZ.2) y4 (aJ (Iv xZ.1) y4 (aJ (Iv xZ.2) y4 (On (aC.ret (aj.mk (.inr Q) z2 J Q ⟨au.sc,au.sc,J⟩ J))))))
theorem aJd (f : aZ) (w : (List Int)) : FT Try.prog (MN f w) 28 [.agg [iC f.Graph.aG,xF aI f.Graph.aB,xF aK f.Places],.c (xF aH w)] [] (fun (t : Bool) => [.c (bC t)]) (fun (t : Bool) => []) [] := by
 refine FT.of [] Try.func28 Try.ntmps28 Q y2 ?_
 intro w0 U0 R0 g0
 unfold MN
 refine Ws (Wr ?_)
 refine fK (LT.box (n := 21) (v := (.agg [iC f.Graph.aG,xF aI f.Graph.aB,xF aK f.Places])) Q bU (by exact Q)) Q Q Q (aJ (Bv false) aX (On (Ws (Ws (Wr ?_)))))
 refine aJ (Iv 0) aX (On (aC.block ?_))
 refine aC.nV (id := 0) (BX f w) (fun s1 => ([(1,Cc (xF aH w)),(2,Cc (.pl 21 0)),(5,Iv s1)],[(21,.row 29 [[iC f.Graph.aG,xF aI f.Graph.aB,xF aK f.Places]])])) (fun o8 => ([(1,Cc (xF aH w)),(2,Cc (.pl 21 0))],[(21,.row 29 [[iC f.Graph.aG,xF aI f.Graph.aB,xF aK f.Places]])])) (aj Try.prog Try.f28.results.toList [] [] (fun (t : Bool) => [.c (bC t)]) (fun (t : Bool) => [])) ?_ (aO.of z3 z1) Q (fun o8 _ => ?_) (by intro r t σ m ht hk; injection ht with ht; subst ht; exact hk)
 ·intro s1
  unfold BX
  refine Ws (Ws ?_)
  refine aC.fC (fun j27 => ([(1,Cc (xF aH w)),(2,Cc (.pl 21 0)),(5,Iv s1),(17,Bv j27)],[(21,.row 29 [[iC f.Graph.aG,xF aI f.Graph.aB,xF aK f.Places]])])) ?_ (fun j27 _ => ?_)
  ·refine Wr (aF (Iv s1) y4 (aS (LT.gV Q jm) Q Q Q (fV (iC f.Graph.aG) mQ ay bP (aT LT.lss y5 (aF (Bv (decide (s1 < f.Graph.aG))) y4 (aP.split (fun zK => ?_) (fun zK => ?_)))))))
   ·refine bf (cO [iC f.Graph.aG,xF aI f.Graph.aB,xF aK f.Places] Q dW bn bU) Q Q (gH zK Q Q) Q (gW (Cc (xF aH w)) zK y5 (aQ fun QN aFZ => (aP.pure (bQ [.agg [iC f.Graph.aG,xF aI f.Graph.aB,xF aK f.Places],.c (xF aH w)] (Wj f w QN aFZ) Ry (xM y4) J y3) z3 J (gH zK Q Q) Q (dh (Bv QN) zK y5 (On (aW Q z4 z1))))))
   ·refine aV zK y5 (aV zK y5 (aV zK y5 (gY (Bv false) zK aU (On (aW Q z4 z1)))))
  ·refine aC.cond Q (fun D8 => ?_) (fun D8 => ?_)
   ·refine aC.skip (Ws (aC.block (Ws (Wr ?_))))
    refine bf (cO [iC f.Graph.aG,xF aI f.Graph.aB,xF aK f.Places] Q dW bn bU) Q Q Q Q (aF (Cc (xF aH w)) y4 (aF (Iv s1) y4 (aQ fun uy aFa => (aP.pure (bQ [.agg [iC f.Graph.aG,xF aI f.Graph.aB,xF aK f.Places],.c (xF aH w),.c (iC s1)] (aB6 f w s1 uy aFa) X3 (aBG y5) J y3) z4 J Q Q (aF (.dO [.c (iC uy.1),.c (iC uy.2)]) y4 (aS (LT.extract (v := (.c (iC uy.1))) Q (by exact Q)) Q Q Q (aS (LT.extract (v := (.c (iC uy.2))) Q (by exact Q)) Q Q Q (aJ (Iv uy.1) y4 (aJ (Iv uy.2) y4 (On (Ws ?_)))))))))))
    refine aC.fC (fun j33 => ([(1,Cc (xF aH w)),(2,Cc (.pl 21 0)),(5,Iv s1),(32,Bv j33)],[(21,.row 29 [[iC f.Graph.aG,xF aI f.Graph.aB,xF aK f.Places]])])) ?_ (fun j33 _ => ?_)
    ·refine Wr (aF (Iv uy.1) y4 (aT LT.neq aU (aF (Bv (uy.1 != 0)) y4 (aP.split (fun Dz => ?_) (fun Dz => ?_)))))
     ·refine aV Dz y5 (aV Dz y5 (dh (Bv true) Dz aU (On (aW Q z4 z1))))
     ·refine gW (Iv uy.2) Dz y5 (iT LT.neq Dz kE (gY (Bv (uy.2 != 0)) Dz y5 (On (aW Q z4 z1))))
    ·refine aC.cond Q (fun aEh => ?_) (fun aEh => ?_)
     ·refine Ws (Wr ?_)
      refine aJ (Bv false) aX (On (aC.ret ⟨Q,aj.mk (.inr Q) z1 J Q ⟨au.sc,J⟩ J⟩))
     ·refine aC.skip (aC.blk (Wr ?_))
      refine aF (Iv s1) y4 (aT LT.add aU (aJ (Iv (aA (s1 + 1))) y4 (On (aW Q z3 z1))))
   ·refine aC.eF Q ⟨Q,aO.of z2 z1⟩
 ·refine Ws (Wr ?_)
  refine bf (cO [iC f.Graph.aG,xF aI f.Graph.aB,xF aK f.Places] Q dW bn bU) Q Q Q Q (aF (Cc (xF aH w)) y4 (aQ fun QS aFb => (aP.pure (bQ [.agg [iC f.Graph.aG,xF aI f.Graph.aB,xF aK f.Places],.c (xF aH w)] (Wj f w QS aFb) Ry (xM y4) J y3) z3 J Q Q (aJ (Bv QS) y4 (On (aC.ret (aj.mk (.inr Q) z1 J Q ⟨au.sc,J⟩ J)))))))
theorem aJg (w : (List Int)) : FT Try.prog (MQ w) 29 [.c (xF aH w)] [] (fun (t : (List Int)) => [.c (lo 0 t.length)]) (fun (t : (List Int)) => [(0,pR 3 aH t)]) [0] := by
 refine FT.of [] Try.func29 Try.ntmps29 Q y2 ?_
 intro w0 U0 R0 g0
 unfold MQ
 refine Ws (Wr ?_)
 refine aJ (Cc (sC ah)) aX (On (Ws (Wr ?_)))
 refine dP (LT.fZ (n := 21) (enc := aH) [] ([] : List Int) Q Q bZ eu Q Q Q Q (by decide) (fun _ => Q) Q) Q Q (aJ (Cc (lo 21 (([] : List Int).length))) y4 (On (Ws (Ws (Wr ?_)))))
 refine aJ (Iv 0) aX (On (aC.block ?_))
 refine aC.iW (id := 0) (P8 w) (fun s1 => ([(0,Cc (xF aH w)),(3,Cc (lo 21 s1.2.length)),(4,Iv s1.1)],[(21,pR 3 aH s1.2)])) (fun b16 => ([(3,Cc (lo 21 b16.length))],[(21,pR 3 aH b16)])) ?_ (aO.of z3 z1) Q (fun b16 _ => ?_)
 ·intro s1
  unfold P8
  refine Ws (Ws (Wr ?_))
  refine aF (Iv s1.1) y4 (aF (Cc (xF aH w)) y4 (aS (LT.fA Q bZ) Q Q Q (aT LT.lss y5 (On (aC.cond Q (fun hc17 => ?_) (fun hc17 => ?_))))))
  ·refine aC.skip (Ws (aC.block (Ws (Wr ?_))))
   refine aF (Cc (xF aH w)) y4 (aF (Iv s1.1) y4 (aQ fun x18 wE => (dY (LT.dH (enc := aH) Q dR wE fM) Q Q Q Q (aS (LT.fO Q ay) Q Q Q (aT LT.neq aU (On (aC.fC (fun j21 => ([(0,Cc (xF aH w)),(3,Cc (lo 21 j21.length)),(4,Iv s1.1)],[(21,pR 3 aH j21)])) ?_ (fun j21 _ => ?_))))))))
   ·refine aC.cond Q (fun hc22 => ?_) (fun hc22 => ?_)
    ·refine Wr (aF (Cc (lo 21 s1.2.length)) y4 (aF (Iv s1.1) y4 (fK (LT.fZ (n := 22) (enc := aH) [(0,.tmp 18,.c (iC s1.1))] ([s1.1] : List Int) Q Q bZ eu Q Q Q Q (by decide) (fun _ => Q) Q) Q Q Q (aQ fun u23 KW => (nS (LT.lI (enc := aH) Q Q Q bZ eu Q (by decide) (by decide) (fun _ => Q) (jU KW)) Q Q Q Q Q Q (aJ (Cc (lo 21 ((s1.2 ++ ([s1.1] : List Int)).length))) y4 (On (aW Q z3 z1))))))))
    ·refine aC.skip (aW Q z3 z1)
   ·refine aC.blk (Wr ?_)
    refine aF (Iv s1.1) y4 (aT LT.add aU (aJ (Iv (aA (s1.1 + 1))) y4 (On (aW Q z3 z1))))
  ·refine aC.eF Q ⟨Q,aO.of z1 z1⟩
 ·refine Ws (Wr ?_)
  refine aF (Cc (lo 21 b16.length)) y4 (aJ (Cc (lo 21 b16.length)) y4 (On (en [(2,Cc (lo 21 b16.length))] [(21,pR 3 aH b16)] z1 z1 (aC.ent (aO.mv 21 0 Q Q) (en [(2,Cc (lo 0 b16.length))] [(0,pR 3 aH b16)] z1 z1 (aC.ret (aj.mk (.inr Q) z1 z1 Q ⟨J,J⟩ ⟨dG.gm jb,J⟩)))))))
end Go.Proofs.Ytdmlaldifbmkpaa
end
section
set_option linter.unusedVariables false
set_option linter.unusedSimpArgs false
set_option linter.unnecessarySimpa false
set_option maxRecDepth 100000
set_option maxHeartbeats 8000000
open Go Go.Fw
namespace Go.Proofs.Ytdmlaldifbmkpaa
theorem aJQ (code : (List Int)) : FT Try.prog (P6 code) 3 [.c (xT bD code)] [] (fun (t : Bool) => [.c (bC t)]) (fun (t : Bool) => []) [] := by
 refine FT.of [] Try.func3 Try.ntmps3 Q y2 ?_
 intro w0 U0 R0 g0
 unfold P6
 refine Ws (Wr ?_)
 refine aJ (Bv false) aX (On (Ws (Ws (Wr ?_))))
 refine aF (Cc (xT bD code)) y4 (aQ fun r1 hr1 => (aP.pure (bQ [.c (xT bD code)] (aJR code r1 hr1) cb7 (.cons (.c (.weak (.same Q) (QW.kN aH2 (fun h => by cases h) _))) .nil) J y3) z2 J Q Q (On (aC.cond Q (fun hc2 => ?_) (fun hc2 => ?_)))))
 ·refine Ws (Wr ?_)
  refine aJ (Bv true) aX (On (aC.ret (aj.mk (.inr Q) z1 J Q ⟨au.sc,J⟩ J)))
 ·refine aC.skip (Ws (Wr ?_))
  refine aF (Cc (xT bD code)) y4 (aQ fun r3 hr3 => (aP.step (bQ [.c (xT bD code)] (Fw.Fn.ren [(0,23)] (aJY code r3 hr3) Q) cb8 (lu Q) J y3) z2 J Q Q (dP (LT.alloc (n := 24) (cells := [iC 0,sC ah,sC ah]) Q pI Q Q Q) Q Q (dU (stA [iC r3.Graph.aG,lo 23 r3.Graph.aB.length,xT aK r3.Places] Q Q bn bU) Q Q Q Q Q (On (Ws ?_))))))
  refine en [(0,Cc (xT bD code)),(3,Cc (.pl 24 0))] [(23,pR 96 aI r3.Graph.aB),(24,.row 29 [[iC r3.Graph.aG,lo 23 r3.Graph.aB.length,xT aK r3.Places]])] z2 z2 (Wr (bf (cO [iC r3.Graph.aG,lo 23 r3.Graph.aB.length,xT aK r3.Places] Q dW bn bU) Q Q Q Q (aQ fun r4 hr4 => (aP.step (cF [.agg [iC r3.Graph.aG,lo 23 r3.Graph.aB.length,xT aK r3.Places]] [(23,pR 96 aI r3.Graph.aB)] (Fw.Fn.ren [(0,26),(1,27)] (aJK r3 r4 hr4) Q) cb9 (.cons (.agg (.cons (.same Q) (.cons (.iZ Q Q) (.cons (.weak (.same Q) (QW.kN qR (fun h => by cases h) _)) .nil)))) .nil) J y3) z2 z1 Q Q (aJ (Cc (lo 26 r4.length)) y4 (On (Ws (Ws ?_))))))))
  refine aC.fC (fun j11 => ([(0,Cc (xT bD code)),(3,Cc (.pl 24 0)),(4,Cc (lo 26 r4.length)),(47,Bv j11)],[(23,pR 96 aI r3.Graph.aB),(24,.row 29 [[iC r3.Graph.aG,lo 23 r3.Graph.aB.length,xT aK r3.Places]]),(26,.ax 37 27 (af r4)),(27,.pool 3 (rowsOf aH r4))])) ?_ (fun j11 _ => ?_)
  ·refine Wr (aF (Cc (lo 26 r4.length)) y4 (bf (cO [iC r3.Graph.aG,lo 23 r3.Graph.aB.length,xT aK r3.Places] Q dW bn bU) Q Q Q Q (aQ fun r12 ED => (aP.step (cF [.agg [iC r3.Graph.aG,lo 23 r3.Graph.aB.length,xT aK r3.Places]] [(23,pR 96 aI r3.Graph.aB)] (Fw.Fn.ren [(0,29)] (aB9 r3 r12 ED) Q) Xl (.cons (.agg (.cons (.same Q) (.cons (.iZ Q Q) (.cons (.weak (.same Q) (QW.kN qR (fun h => by cases h) _)) .nil)))) .nil) J y3) z2 z1 Q Q (aQ fun r13 rQ => (aP.pure (cF [.c (lo 26 r4.length),.c (lo 29 r12.length)] [(26,.ax 37 27 (af r4)),(27,.pool 3 (rowsOf aH r4)),(29,pR 37 (bI true) r12)] (aJS r4 r12 r13 rQ) aCx (.cons (.c (.Ci Q Q Q (fun _ => Q))) (.cons (.c (.weak (.iZ (enc := bI true) Q Q) (QW.kN aAs (fun h => h) _))) .nil)) J y3) z3 z3 Q Q (aS (LT.not Q) Q Q Q (aF (Bv (!r13)) y4 (aP.split (fun oH => ?_) (fun oH => ?_))))))))))
   ·refine aV oH y5 (aV oH y5 (aV oH y5 (Oj Q Q Q Q (Oj Q Q Q Q (Oj Q Q Q Q (Oj Q Q Q Q (Oj Q Q Q Q (aV oH y5 (dh (Bv true) oH aU (On (aW Q z4 z4)))))))))))
   ·refine bf (cO [iC r3.Graph.aG,lo 23 r3.Graph.aB.length,xT aK r3.Places] Q dW bn bU) Q Q (gH oH Q Q) Q (aQ fun lg UN => (aP.pure (cF [.agg [iC r3.Graph.aG,lo 23 r3.Graph.aB.length,xT aK r3.Places]] [(23,pR 96 aI r3.Graph.aB)] (C9 r3 lg UN) Ar (.cons (.agg (.cons (.same Q) (.cons (.iZ Q Q) (.cons (.weak (.same Q) (QW.kN qR (fun h => by cases h) _)) .nil)))) .nil) J y3) z2 z1 (gH oH Q Q) Q (gW (Bv lg) oH y5 (aP.split (fun hb16 => ?_) (fun hb16 => ?_)))))
    ·refine gW (Cc (lo 26 r4.length)) hb16 y5 (aS (LT.jg Q gy) Q (gH hb16 Q Q) Q (bf (cO [iC r3.Graph.aG,lo 23 r3.Graph.aB.length,xT aK r3.Places] Q dW bn bU) Q Q (gH hb16 Q Q) Q (aQ fun pG KO => (aP.pure (cF [.agg [iC r3.Graph.aG,lo 23 r3.Graph.aB.length,xT aK r3.Places]] [(23,pR 96 aI r3.Graph.aB)] (aJE r3 pG KO) aC1 (.cons (.agg (.cons (.same Q) (.cons (.iZ Q Q) (.cons (.weak (.same Q) (QW.kN qR (fun h => by cases h) _)) .nil)))) .nil) J y3) z2 z1 (gH hb16 Q Q) Q (iT LT.neq hb16 y6 (dY (LT.xJ (v := (Bv ((r4.length : Int) != pG))) Q hb16) Q Q (gH oH Q Q) Q (gY (Bv ((r4.length : Int) != pG)) oH y5 (On (aW Q z4 z4)))))))))
    ·refine aV hb16 y5 (aV hb16 y5 (aV hb16 y5 (aV hb16 y5 (aV hb16 y5 (dY (LT.wJ (v := (Bv false)) Q hb16) Q y2 (gH oH Q Q) Q (gY (Bv false) oH y5 (On (aW Q z4 z4))))))))
  ·refine aC.cond Q (fun hc18 => ?_) (fun hc18 => ?_)
   ·refine Ws (Wr ?_)
    refine aJ (Bv false) aX (On (aC.ret (aj.mk (.inr Q) z1 J Q ⟨au.sc,J⟩ J)))
   ·refine aC.skip (Ws (Ws (Wr ?_)))
    refine aJ (Iv 0) aX (On (aC.block ?_))
    refine aC.nV (id := 0) (BU r3 r4) (fun uH => ([(0,Cc (xT bD code)),(3,Cc (.pl 24 0)),(4,Cc (lo 26 r4.length)),(5,Iv uH)],[(23,pR 96 aI r3.Graph.aB),(24,.row 29 [[iC r3.Graph.aG,lo 23 r3.Graph.aB.length,xT aK r3.Places]]),(26,.ax 37 27 (af r4)),(27,.pool 3 (rowsOf aH r4))])) (fun XY => ([(0,Cc (xT bD code))],[])) (aj Try.prog Try.f3.results.toList [] [] (fun (t : Bool) => [.c (bC t)]) (fun (t : Bool) => [])) ?_ (aO.of z4 z4) Q (fun XY _ => ?_) (by intro r t σ m ht hk; injection ht with ht; subst ht; exact hk)
    ·intro uH
     unfold BU
     refine Ws (Ws (Wr ?_))
     refine aF (Iv uH) y4 (aF (Cc (lo 26 r4.length)) y4 (aS (LT.jg Q gy) Q Q Q (aT LT.lss y5 (On (aC.cond Q (fun hc47 => ?_) (fun hc47 => ?_))))))
     ·refine aC.skip (Ws (aC.block (Ws ?_)))
      refine aC.fC (fun j53 => ([(0,Cc (xT bD code)),(3,Cc (.pl 24 0)),(4,Cc (lo 26 r4.length)),(5,Iv uH),(69,Bv j53)],[(23,pR 96 aI r3.Graph.aB),(24,.row 29 [[iC r3.Graph.aG,lo 23 r3.Graph.aB.length,xT aK r3.Places]]),(26,.ax 37 27 (af r4)),(27,.pool 3 (rowsOf aH r4))])) ?_ (fun j53 _ => ?_)
      ·refine aC.draw mixed (gQ (cO [iC r3.Graph.aG,lo 23 r3.Graph.aB.length,xT aK r3.Places] Q dW bn bU) Q Q Q Q (ak (Cc (lo 26 r4.length)) y4 (ak (Iv uH) y4 (aN.bind fun x54 vX => (je (LT.pJ Q Q iL vX) Q Q Q Q Q (gQ (LT.rE Q jR vX Q) Q Q Q Q (aN.bind fun sU KQ => (aN.pure (cF [.agg [iC r3.Graph.aG,lo 23 r3.Graph.aB.length,xT aK r3.Places],.c (.tl 27 uH.toNat 0 x54.length)] [(23,pR 96 aI r3.Graph.aB),(27,.pool 3 (rowsOf aH r4))] (aBy r3 x54 sU KQ) Xp (.cons (.agg (.cons (.same Q) (.cons (.iZ Q Q) (.cons (.weak (.same Q) (QW.kN qR (fun h => by cases h) _)) .nil)))) (.cons (.c (.ttl Q Q (jM vX))) .nil)) J y3) z3 z2 Q Q (bJ (LT.not Q) Q Q Q (ak (Bv (!sU)) y4 (aN.split (fun rM => ?_) (fun rM => ?_))))))))))))
       ·refine bT rM y3 (bT rM y3 (bT rM y3 (bT rM y3 (bT rM y3 (bT rM y3 (bT rM y3 (kL (Bv true) rM aU (aN.nil (by kernel_rfl) (aW Q z5 z4)))))))))
       ·refine lG (Cc (lo 26 r4.length)) rM y5 (lG (Iv uH) rM y5 (aN.bind fun Jh EK => (je (LT.pJ Q Q iL EK) Q Q Q (gH rM Q Q) Q (gQ (LT.rE Q jR EK Q) Q Q (gH rM Q Q) Q (aN.bind fun QX aFg => (aN.step (cF [.c (.tl 27 uH.toNat 0 Jh.length)] [(27,.pool 3 (rowsOf aH r4))] (Fw.Fn.ren [(0,35)] (aBz Jh QX aFg) Q) Xq (.cons (.c (.ttl Q Q (jM EK))) .nil) J y3) z2 z1 (gH rM Q Q) Q (bJ (LT.jg Q bZ) Q (gH rM Q Q) Q (qg LT.lss rM kE (mg (Bv (decide ((QX.length : Int) < 3))) rM y5 (aN.nil (by kernel_rfl) (aW Q z5 z4)))))))))))
      ·refine aC.cond Q (fun Tt => ?_) (fun Tt => ?_)
       ·refine Ws (Wr ?_)
        refine aJ (Bv false) aX (On (aC.ret ⟨Q,aj.mk (.inr Q) z1 J Q ⟨au.sc,J⟩ J⟩))
       ·refine aC.skip (aC.blk (Wr ?_))
        refine aF (Iv uH) y4 (aT LT.add aU (aJ (Iv (aA (uH + 1))) y4 (On (aW Q z4 z4))))
     ·refine aC.eF Q ⟨Q,aO.of z1 J⟩
    ·refine Ws (Wr ?_)
     refine aF (Cc (xT bD code)) y4 (aQ fun ai aFh => (aP.step (bQ [.c (xT bD code)] (Fw.Fn.ren [(0,37),(1,38)] (aJV code ai aFh) Q) aC5 (lu Q) J y3) z2 J Q Q (aF (.dO [.agg [iC ai.1.Graph.aG,lo 37 ai.1.Graph.aB.length,xT aK ai.1.Places],.c (lo 38 ai.2.length)]) y4 (aS (LT.extract (v := (.agg [iC ai.1.Graph.aG,lo 37 ai.1.Graph.aB.length,xT aK ai.1.Places])) Q (by exact Q)) Q Q Q (aS (LT.extract (v := (.c (lo 38 ai.2.length))) Q (by exact Q)) Q Q Q (dP (LT.alloc (n := 39) (cells := [iC 0,sC ah,sC ah]) Q pI Q Q Q) Q Q (dU (stA [iC ai.1.Graph.aG,lo 37 ai.1.Graph.aB.length,xT aK ai.1.Places] Q Q bn bU) Q Q Q Q Q (aJ (Cc (lo 38 ai.2.length)) y4 (On (Ws ?_))))))))))
     refine en [(0,Cc (xT bD code)),(6,Cc (.pl 39 0)),(7,Cc (lo 38 ai.2.length))] [(37,pR 96 aI ai.1.Graph.aB),(38,pR 3 aH ai.2),(39,.row 29 [[iC ai.1.Graph.aG,lo 37 ai.1.Graph.aB.length,xT aK ai.1.Places]])] z3 z3 (Wr (bf (cO [iC ai.1.Graph.aG,lo 37 ai.1.Graph.aB.length,xT aK ai.1.Places] Q dW bn bU) Q Q Q Q (aF (Cc (lo 38 ai.2.length)) y4 (aQ fun eU UZ => (aP.step (cF [.agg [iC ai.1.Graph.aG,lo 37 ai.1.Graph.aB.length,xT aK ai.1.Places],.c (lo 38 ai.2.length)] [(37,pR 96 aI ai.1.Graph.aB),(38,pR 3 aH ai.2)] (Fw.Fn.ren [(0,41)] (aBx ai.1 ai.2 eU UZ) Q) Xw (.cons (.agg (.cons (.same Q) (.cons (.iZ Q Q) (.cons (.weak (.same Q) (QW.kN qR (fun h => by cases h) _)) .nil)))) (.cons (.c (.iZ Q Q)) .nil)) J y3) z3 z2 Q Q (aF (.dO [.c (lo 41 eU.1.length),.c (iC eU.2.1),.c (bC eU.2.2)]) y4 (aS (LT.extract (v := (.c (lo 41 eU.1.length))) Q (by exact Q)) Q Q Q (aS (LT.extract (v := (.c (iC eU.2.1))) Q (by exact Q)) Q Q Q (aS (LT.extract (v := (.c (bC eU.2.2))) Q (by exact Q)) Q Q Q (aJ (Cc (lo 41 eU.1.length)) y4 (aJ (Iv eU.2.1) y4 ?_)))))))))))
     refine aJ (Bv eU.2.2) y4 (On (Ws ?_))
     refine en [(0,Cc (xT bD code)),(6,Cc (.pl 39 0)),(7,Cc (lo 38 ai.2.length)),(8,Cc (lo 41 eU.1.length)),(9,Iv eU.2.1),(10,Bv eU.2.2)] [(37,pR 96 aI ai.1.Graph.aB),(38,pR 3 aH ai.2),(39,.row 29 [[iC ai.1.Graph.aG,lo 37 ai.1.Graph.aB.length,xT aK ai.1.Places]]),(41,pR 3 aH eU.1)] z6 z4 (Wr (bf (cO [iC ai.1.Graph.aG,lo 37 ai.1.Graph.aB.length,xT aK ai.1.Places] Q dW bn bU) Q Q Q Q (aF (Cc (lo 38 ai.2.length)) y4 (aQ fun jF aFi => (aP.step (cF [.agg [iC ai.1.Graph.aG,lo 37 ai.1.Graph.aB.length,xT aK ai.1.Places],.c (lo 38 ai.2.length)] [(37,pR 96 aI ai.1.Graph.aB),(38,pR 3 aH ai.2)] (Fw.Fn.ren [(0,43)] (aJU ai.1 ai.2 jF aFi) Q) aDB (.cons (.agg (.cons (.same Q) (.cons (.iZ Q Q) (.cons (.weak (.same Q) (QW.kN qR (fun h => by cases h) _)) .nil)))) (.cons (.c (.iZ Q Q)) .nil)) J y3) z3 z2 Q Q (aF (.dO [.c (lo 43 jF.1.length),.c (iC jF.2.1),.c (bC jF.2.2)]) y4 (aS (LT.extract (v := (.c (lo 43 jF.1.length))) Q (by exact Q)) Q Q Q (aS (LT.extract (v := (.c (iC jF.2.1))) Q (by exact Q)) Q Q Q (aS (LT.extract (v := (.c (bC jF.2.2))) Q (by exact Q)) Q Q Q (aJ (Cc (lo 43 jF.1.length)) y4 (aJ (Iv jF.2.1) y4 ?_)))))))))))
     refine aJ (Bv jF.2.2) y4 (On (Ws (Ws ?_)))
     refine aC.fC (fun j71 => ([(0,Cc (xT bD code)),(6,Cc (.pl 39 0)),(7,Cc (lo 38 ai.2.length)),(9,Iv eU.2.1),(10,Bv eU.2.2),(11,Cc (lo 43 jF.1.length)),(118,Bv j71)],[(37,pR 96 aI ai.1.Graph.aB),(38,pR 3 aH ai.2),(39,.row 29 [[iC ai.1.Graph.aG,lo 37 ai.1.Graph.aB.length,xT aK ai.1.Places]]),(43,pR 3 aH jF.1)])) ?_ (fun j71 _ => ?_)
     ·refine en [(0,Cc (xT bD code)),(6,Cc (.pl 39 0)),(7,Cc (lo 38 ai.2.length)),(8,Cc (lo 41 eU.1.length)),(9,Iv eU.2.1),(10,Bv eU.2.2),(11,Cc (lo 43 jF.1.length)),(12,Iv jF.2.1),(13,Bv jF.2.2)] [(37,pR 96 aI ai.1.Graph.aB),(38,pR 3 aH ai.2),(39,.row 29 [[iC ai.1.Graph.aG,lo 37 ai.1.Graph.aB.length,xT aK ai.1.Places]]),(41,pR 3 aH eU.1),(43,pR 3 aH jF.1)] z9 z5 (aC.draw mixed (ak (Bv eU.2.2) y4 (ak (Bv jF.2.2) y4 (dJ (LT.VN Q Q5) Q Q Q Q (ak (Bv (eU.2.2 != jF.2.2)) y4 (aN.split (fun zN => ?_) (fun zN => ?_)))))))
      ·refine bT zN y3 (bT zN y3 (bT zN y3 (kL (Bv true) zN aU (ak (Bv true) y4 (bK y3 (bK y3 (bK y3 (bK y3 (kL (Bv true) Q aU (ak (Bv true) y4 (bK y3 ?_)))))))))))
       refine bK y3 (bK y3 (bK y3 (bK y3 (kL (Bv true) Q aU (ak (Bv true) y4 (bK y3 (bK y3 (bK y3 (bK y3 (bK y3 (bK y3 ?_)))))))))))
       refine bK y3 (kL (Bv true) Q aU (aN.nil (by kernel_rfl) (aW Q z7 z4)))
      ·refine lG (Iv eU.2.1) zN y5 (lG (Iv jF.2.1) zN y5 (qg LT.neq zN y6 (mg (Bv (eU.2.1 != jF.2.1)) zN y5 (ak (Bv (eU.2.1 != jF.2.1)) y4 (aN.split (fun lC => ?_) (fun lC => ?_))))))
       ·refine bT lC y3 (bT lC y3 (bT lC y3 (bT lC y3 (kL (Bv true) lC aU (ak (Bv true) y4 (bK y3 (bK y3 (bK y3 (bK y3 (bK y3 (kL (Bv true) Q aU ?_)))))))))))
        refine ak (Bv true) y4 (bK y3 (bK y3 (bK y3 (bK y3 (bK y3 (bK y3 (bK y3 (kL (Bv true) Q aU (aN.nil (by kernel_rfl) (aW Q z7 z4))))))))))
       ·refine lG (Cc (lo 41 eU.1.length)) lC y5 (lG (Cc (lo 43 jF.1.length)) lC y5 (aN.bind fun NU aFj => (aN.pure (cF [.c (lo 41 eU.1.length),.c (lo 43 jF.1.length)] [(41,pR 3 aH eU.1),(43,pR 3 aH jF.1)] (WY eU.1 jF.1 NU aFj) SB (.cons (.c (.iZ Q Q)) (.cons (.c (.iZ Q Q)) .nil)) J y3) z3 z2 (gH lC Q Q) Q (bJ (LT.not Q) Q (gH lC Q Q) Q (mg (Bv (!NU)) lC y5 (ak (Bv (!NU)) y4 (aN.split (fun jZ => ?_) (fun jZ => ?_))))))))
        ·refine bT jZ y3 (bT jZ y3 (bT jZ y3 (bT jZ y3 (bT jZ y3 (kL (Bv true) jZ aU (ak (Bv true) y4 (bK y3 (bK y3 (bK y3 (bK y3 (bK y3 ?_)))))))))))
         refine bK y3 (bK y3 (kL (Bv true) Q aU (aN.nil (by kernel_rfl) (aW Q z7 z4))))
        ·refine gQ (cO [iC ai.1.Graph.aG,lo 37 ai.1.Graph.aB.length,xT aK ai.1.Places] Q dW bn bU) Q Q (gH jZ Q Q) Q (lG (Cc (lo 38 ai.2.length)) jZ y5 (aN.bind fun NW aFk => (aN.pure (cF [.agg [iC ai.1.Graph.aG,lo 37 ai.1.Graph.aB.length,xT aK ai.1.Places],.c (lo 38 ai.2.length)] [(37,pR 96 aI ai.1.Graph.aB),(38,pR 3 aH ai.2)] (aJD ai.1 ai.2 NW aFk) aDH (.cons (.agg (.cons (.same Q) (.cons (.iZ Q Q) (.cons (.weak (.same Q) (QW.kN qR (fun h => by cases h) _)) .nil)))) (.cons (.c (.iZ Q Q)) .nil)) J y3) z3 z2 (gH jZ Q Q) Q (lG (Bv eU.2.2) jZ y5 (dJ (LT.VN Q Q5) Q Q (gH jZ Q Q) Q (mg (Bv (NW != eU.2.2)) jZ y5 (ak (Bv (NW != eU.2.2)) y4 (aN.split (fun rO => ?_) (fun rO => ?_)))))))))
         ·refine bT rO y3 (bT rO y3 (bT rO y3 (bT rO y3 (bT rO y3 (bT rO y3 (bT rO y3 (kL (Bv true) rO aU (aN.nil (by kernel_rfl) (aW Q z7 z4)))))))))
         ·refine gQ (cO [iC ai.1.Graph.aG,lo 37 ai.1.Graph.aB.length,xT aK ai.1.Places] Q dW bn bU) Q Q (gH rO Q Q) Q (lG (Cc (lo 38 ai.2.length)) rO y5 (aN.bind fun QY aFm => (aN.pure (cF [.agg [iC ai.1.Graph.aG,lo 37 ai.1.Graph.aB.length,xT aK ai.1.Places],.c (lo 38 ai.2.length)] [(37,pR 96 aI ai.1.Graph.aB),(38,pR 3 aH ai.2)] (WU ai.1 ai.2 QY aFm) SE (.cons (.agg (.cons (.same Q) (.cons (.iZ Q Q) (.cons (.weak (.same Q) (QW.kN qR (fun h => by cases h) _)) .nil)))) (.cons (.c (.iZ Q Q)) .nil)) J y3) z3 z2 (gH rO Q Q) Q (gQ (cO [iC ai.1.Graph.aG,lo 37 ai.1.Graph.aB.length,xT aK ai.1.Places] Q dW bn bU) Q Q (gH rO Q Q) Q (lG (Cc (lo 38 ai.2.length)) rO y5 (aN.bind fun QZ aFn => (aN.pure (cF [.agg [iC ai.1.Graph.aG,lo 37 ai.1.Graph.aB.length,xT aK ai.1.Places],.c (lo 38 ai.2.length)] [(37,pR 96 aI ai.1.Graph.aB),(38,pR 3 aH ai.2)] (aJb ai.1 ai.2 QZ aFn) aDK (.cons (.agg (.cons (.same Q) (.cons (.iZ Q Q) (.cons (.weak (.same Q) (QW.kN qR (fun h => by cases h) _)) .nil)))) (.cons (.c (.iZ Q Q)) .nil)) J y3) z3 z2 (gH rO Q Q) Q (dJ (LT.VN Q Q5) Q Q (gH rO Q Q) Q (mg (Bv (QY != QZ)) rO y5 (aN.nil (by kernel_rfl) (aW Q z7 z4)))))))))))
     ·refine aC.cond Q (fun Tz => ?_) (fun Tz => ?_)
      ·refine Ws (Wr ?_)
       refine aJ (Bv false) aX (On (aC.ret (aj.mk (.inr Q) z1 J Q ⟨au.sc,J⟩ J)))
      ·refine aC.skip (Ws (Ws ?_))
       refine aC.fC (fun j88 => ([(0,Cc (xT bD code)),(6,Cc (.pl 39 0)),(7,Cc (lo 38 ai.2.length)),(9,Iv eU.2.1),(10,Bv eU.2.2),(11,Cc (lo 43 jF.1.length)),(142,Bv j88)],[(37,pR 96 aI ai.1.Graph.aB),(38,pR 3 aH ai.2),(39,.row 29 [[iC ai.1.Graph.aG,lo 37 ai.1.Graph.aB.length,xT aK ai.1.Places]]),(43,pR 3 aH jF.1)])) ?_ (fun j88 _ => ?_)
       ·refine Wr (aF (Bv eU.2.2) y4 (aF (Bv eU.2.2) y4 (aP.split (fun nH => ?_) (fun nH => ?_))))
        ·refine bf (cO [iC ai.1.Graph.aG,lo 37 ai.1.Graph.aB.length,xT aK ai.1.Places] Q dW bn bU) Q Q (gH nH Q Q) Q (gW (Cc (lo 38 ai.2.length)) nH y5 (aQ fun Qa aFq => (aP.pure (cF [.agg [iC ai.1.Graph.aG,lo 37 ai.1.Graph.aB.length,xT aK ai.1.Places],.c (lo 38 ai.2.length)] [(37,pR 96 aI ai.1.Graph.aB),(38,pR 3 aH ai.2)] (WU ai.1 ai.2 Qa aFq) SE (.cons (.agg (.cons (.same Q) (.cons (.iZ Q Q) (.cons (.weak (.same Q) (QW.kN qR (fun h => by cases h) _)) .nil)))) (.cons (.c (.iZ Q Q)) .nil)) J y3) z3 z2 (gH nH Q Q) Q (aS (LT.not Q) Q (gH nH Q Q) Q (gW (Bv (!Qa)) nH y5 (aP.split (fun D6 => ?_) (fun D6 => ?_)))))))
         ·refine aV D6 y5 (aV D6 y5 (dY (LT.xJ (v := (Bv true)) Q D6) Q y2 (gH nH Q Q) Q (dh (Bv true) nH y5 (aF (Bv true) y4 (dD y5 (dD y5 (dD y5 (Oj Q Q Q Q (Oj Q Q Q Q (Oj Q Q Q Q (dD y5 ?_)))))))))))
          refine dD y5 (Oj Q Q Q Q (Oj Q Q Q Q (dD y5 (dh (Bv true) Q aU (On (aW Q z7 z4))))))
         ·refine gW (Iv eU.2.1) D6 y5 (iT LT.lss D6 kE (dY (LT.wJ (v := (Bv (decide (eU.2.1 < 1)))) Q D6) Q Q (gH nH Q Q) Q (dh (Bv (decide (eU.2.1 < 1))) nH y5 (aF (Bv (decide (eU.2.1 < 1))) y4 (aP.split (fun lT => ?_) (fun lT => ?_))))))
          ·refine aV lT y5 (aV lT y5 (aV lT y5 (Oj Q Q Q Q (Oj Q Q Q Q (Oj Q Q Q Q (aV lT y5 (aV lT y5 (Oj Q Q Q Q (Oj Q Q Q Q (aV lT y5 (dh (Bv true) lT aU ?_)))))))))))
           refine On (aW Q z7 z4)
          ·refine gW (Bv eU.2.2) lT y5 (aS (LT.not Q) Q (gH lT Q Q) Q (gW (Bv (!eU.2.2)) lT y5 (Ok Q Q Q (by rw [nH];rfl) Q (Ok Q Q Q (by rw [nH];rfl) Q (Ok Q Q Q (by rw [nH];rfl) Q (dY (LT.wJ (v := (Bv false)) Q (by rw [nH]; rfl)) Q y2 (gH lT Q Q) Q (gW (Bv false) lT y5 (dD y5 (dD y5 (dY (LT.wJ (v := (Bv false)) Q Q) Q y2 (gH lT Q Q) Q (gY (Bv false) lT y5 ?_)))))))))))
           refine On (aW Q z7 z4)
        ·refine aV nH y5 (aV nH y5 (aV nH y5 (aV nH y5 (aV nH y5 (Oj Q Q Q Q (Oj Q Q Q Q (aV nH y5 (gY (Bv false) nH aU (aF (Bv false) y4 (mv (Bv eU.2.2) Q Q (gS Q Q) Q (aS (LT.not Q) Q (gS Q Q) Q ?_)))))))))))
         refine mv (Bv (!eU.2.2)) Q Q (gS Q Q) Q (bf (cO [iC ai.1.Graph.aG,lo 37 ai.1.Graph.aB.length,xT aK ai.1.Places] Q dW bn bU) Q Q ⟨_,Q,.inl ⟨_,Q,(by rw [nH];rfl)⟩⟩ Q (mv (Cc (lo 38 ai.2.length)) Q Q ⟨_,Q,.inl ⟨_,Q,(by rw [nH];rfl)⟩⟩ Q (aQ fun NY aFr => (aP.pure (cF [.agg [iC ai.1.Graph.aG,lo 37 ai.1.Graph.aB.length,xT aK ai.1.Places],.c (lo 38 ai.2.length)] [(37,pR 96 aI ai.1.Graph.aB),(38,pR 3 aH ai.2)] (WU ai.1 ai.2 NY aFr) SE (.cons (.agg (.cons (.same Q) (.cons (.iZ Q Q) (.cons (.weak (.same Q) (QW.kN qR (fun h => by cases h) _)) .nil)))) (.cons (.c (.iZ Q Q)) .nil)) J y3) z3 z2 ⟨_,Q,.inl ⟨_,Q,(by rw [nH];rfl)⟩⟩ Q (dY (LT.xJ (v := (Bv NY)) Q (by rw [nH]; rfl)) Q Q (gS Q Q) Q (mv (Bv NY) Q Q (gS Q Q) Q (aP.split (fun D7 => ?_) (fun D7 => ?_))))))))
         ·refine bf (cO [iC ai.1.Graph.aG,lo 37 ai.1.Graph.aB.length,xT aK ai.1.Places] Q dW bn bU) Q Q (gH D7 Q Q) Q (aQ fun NZ aFs => (aP.pure (cF [.agg [iC ai.1.Graph.aG,lo 37 ai.1.Graph.aB.length,xT aK ai.1.Places]] [(37,pR 96 aI ai.1.Graph.aB)] (aJc ai.1 NZ aFs) aDL (.cons (.agg (.cons (.same Q) (.cons (.iZ Q Q) (.cons (.weak (.same Q) (QW.kN qR (fun h => by cases h) _)) .nil)))) .nil) J y3) z2 z1 (gH D7 Q Q) Q (dY (LT.xJ (v := (Bv NZ)) Q D7) Q Q (gS Q Q) Q (gY (Bv NZ) Q y5 (On (aW Q z7 z4))))))
         ·refine aV D7 y5 (aV D7 y5 (dY (LT.wJ (v := (Bv false)) Q D7) Q y2 (gS Q Q) Q (gY (Bv false) Q y5 (On (aW Q z7 z4)))))
       ·refine aC.cond Q (fun hc96 => ?_) (fun hc96 => ?_)
        ·refine Ws (Wr ?_)
         refine aJ (Bv false) aX (On (aC.ret (aj.mk (.inr Q) z1 J Q ⟨au.sc,J⟩ J)))
        ·refine aC.skip (Ws (Ws (Wr ?_)))
         refine aJ (Iv 0) aX (On (aC.block ?_))
         refine aC.nV (id := 2) (EY ai eU jF) (fun qW => ([(0,Cc (xT bD code)),(6,Cc (.pl 39 0)),(7,Cc (lo 38 ai.2.length)),(9,Iv eU.2.1),(10,Bv eU.2.2),(11,Cc (lo 43 jF.1.length)),(14,Iv qW)],[(37,pR 96 aI ai.1.Graph.aB),(38,pR 3 aH ai.2),(39,.row 29 [[iC ai.1.Graph.aG,lo 37 ai.1.Graph.aB.length,xT aK ai.1.Places]]),(43,pR 3 aH jF.1)])) (fun XU => ([(0,Cc (xT bD code))],[])) (aj Try.prog Try.f3.results.toList [] [] (fun (t : Bool) => [.c (bC t)]) (fun (t : Bool) => [])) ?_ (aO.of z7 z4) Q (fun XU _ => ?_) (by intro r t σ m ht hk; injection ht with ht; subst ht; exact hk)
         ·intro qW
          unfold EY
          refine Ws (Ws ?_)
          refine aC.fC (fun j126 => ([(0,Cc (xT bD code)),(6,Cc (.pl 39 0)),(7,Cc (lo 38 ai.2.length)),(9,Iv eU.2.1),(10,Bv eU.2.2),(11,Cc (lo 43 jF.1.length)),(14,Iv qW),(150,Bv j126)],[(37,pR 96 aI ai.1.Graph.aB),(38,pR 3 aH ai.2),(39,.row 29 [[iC ai.1.Graph.aG,lo 37 ai.1.Graph.aB.length,xT aK ai.1.Places]]),(43,pR 3 aH jF.1)])) ?_ (fun j126 _ => ?_)
          ·refine Wr (aF (Iv qW) y4 (aS (LT.gV Q jm) Q Q Q (fV (iC ai.1.Graph.aG) mQ ay bP (aT LT.lss y5 (aF (Bv (decide (qW < ai.1.Graph.aG))) y4 (aP.split (fun KE => ?_) (fun KE => ?_)))))))
           ·refine gW (Bv eU.2.2) KE y5 (dh (Bv eU.2.2) KE y5 (On (aW Q z8 z4)))
           ·refine aV KE y5 (gY (Bv false) KE aU (On (aW Q z8 z4)))
          ·refine aC.cond Q (fun hc128 => ?_) (fun hc128 => ?_)
           ·refine aC.skip (Ws (aC.block (Ws (Wr ?_))))
            refine bf (cO [iC ai.1.Graph.aG,lo 37 ai.1.Graph.aB.length,xT aK ai.1.Places] Q dW bn bU) Q Q Q Q (aF (Cc (lo 43 jF.1.length)) y4 (aF (Iv qW) y4 (aQ fun uw aFL => (aP.pure (cF [.agg [iC ai.1.Graph.aG,lo 37 ai.1.Graph.aB.length,xT aK ai.1.Places],.c (lo 43 jF.1.length),.c (iC qW)] [(37,pR 96 aI ai.1.Graph.aB),(43,pR 3 aH jF.1)] (WT ai.1 jF.1 qW uw aFL) SG (.cons (.agg (.cons (.same Q) (.cons (.iZ Q Q) (.cons (.weak (.same Q) (QW.kN qR (fun h => by cases h) _)) .nil)))) (.cons (.c (.iZ Q Q)) (.cons (.c (.same Q)) .nil))) J y3) z4 z2 Q Q (aF (.dO [.c (iC uw.1),.c (iC uw.2)]) y4 (aS (LT.extract (v := (.c (iC uw.1))) Q (by exact Q)) Q Q Q (aS (LT.extract (v := (.c (iC uw.2))) Q (by exact Q)) Q Q Q (aJ (Iv uw.1) y4 (aJ (Iv uw.2) y4 (On (Ws ?_)))))))))))
            refine aC.fC (fun j133 => ([(0,Cc (xT bD code)),(6,Cc (.pl 39 0)),(7,Cc (lo 38 ai.2.length)),(9,Iv eU.2.1),(10,Bv eU.2.2),(11,Cc (lo 43 jF.1.length)),(14,Iv qW),(180,Bv j133)],[(37,pR 96 aI ai.1.Graph.aB),(38,pR 3 aH ai.2),(39,.row 29 [[iC ai.1.Graph.aG,lo 37 ai.1.Graph.aB.length,xT aK ai.1.Places]]),(43,pR 3 aH jF.1)])) ?_ (fun j133 _ => ?_)
            ·refine Wr (aF (Iv uw.1) y4 (aF (Iv eU.2.1) y4 (aF (Cc (lo 38 ai.2.length)) y4 (aF (Iv qW) y4 (aT LT.mul nP (aQ fun yt PG => (iK (LT.iG Q Q dR PG) Q Q Q Q Q (bf (LT.lU (k := 0) Q ay PG (by exact Q) (by exact Q)) Q Q Q Q (aT LT.mul y5 (aT LT.neq y5 (aF (Bv (uw.1 != (aA (eU.2.1 * yt)))) y4 ?_)))))))))))
             refine aP.split (fun oG => ?_) (fun oG => ?_)
             ·refine aV oG y5 (aV oG y5 (aV oG y5 (aV oG y5 (aV oG y5 (aV oG y5 (aV oG y5 (aV oG y5 (aV oG y5 (aV oG y5 (dh (Bv true) oG aU (On ?_)))))))))))
              refine aW Q z8 z4
             ·refine gW (Iv uw.2) oG y5 (gW (Iv eU.2.1) oG y5 (gW (Cc (lo 38 ai.2.length)) oG y5 (gW (Iv qW) oG y5 (iT LT.mul oG WR (iT LT.add oG kE (aQ fun mP BD => (iK (LT.iG Q Q dR BD) Q Q Q (gH oG Q Q) Q (bf (LT.lU (k := 0) Q ay BD (by exact Q) (by exact Q)) Q Q (gH oG Q Q) Q (iT LT.mul oG y6 (iT LT.neq oG y6 (gY (Bv (uw.2 != (aA (eU.2.1 * mP)))) oG y5 ?_)))))))))))
              refine On (aW Q z8 z4)
            ·refine aC.cond Q (fun aEX => ?_) (fun aEX => ?_)
             ·refine Ws (Wr ?_)
              refine aJ (Bv false) aX (On (aC.ret ⟨Q,aj.mk (.inr Q) z1 J Q ⟨au.sc,J⟩ J⟩))
             ·refine aC.skip (aC.blk (Wr ?_))
              refine aF (Iv qW) y4 (aT LT.add aU (aJ (Iv (aA (qW + 1))) y4 (On (aW Q z7 z4))))
           ·refine aC.eF Q ⟨Q,aO.of z1 J⟩
         ·refine Ws (Wr ?_)
          refine aF (Cc (xT bD code)) y4 (aQ fun gI aFN => (aP.step (bQ [.c (xT bD code)] (Fw.Fn.ren [(0,53)] (aJX code gI aFN) Q) aDM (lu Q) J y3) z2 J Q Q (aF (.dO [.agg [iC gI.1.Graph.aG,lo 53 gI.1.Graph.aB.length,xT aK gI.1.Places],.c (xT aH gI.2)]) y4 (aS (LT.extract (v := (.agg [iC gI.1.Graph.aG,lo 53 gI.1.Graph.aB.length,xT aK gI.1.Places])) Q (by exact Q)) Q Q Q (aS (LT.extract (v := (.c (xT aH gI.2))) Q (by exact Q)) Q Q Q (dP (LT.alloc (n := 54) (cells := [iC 0,sC ah,sC ah]) Q pI Q Q Q) Q Q (dU (stA [iC gI.1.Graph.aG,lo 53 gI.1.Graph.aB.length,xT aK gI.1.Places] Q Q bn bU) Q Q Q Q Q (aJ (Cc (xT aH gI.2)) y4 (On (Ws ?_))))))))))
          refine en [(0,Cc (xT bD code)),(17,Cc (.pl 54 0)),(18,Cc (xT aH gI.2))] [(53,pR 96 aI gI.1.Graph.aB),(54,.row 29 [[iC gI.1.Graph.aG,lo 53 gI.1.Graph.aB.length,xT aK gI.1.Places]])] z3 z2 (Wr (aF (Cc (xT bD code)) y4 (aQ fun gq aFO => (aP.step (bQ [.c (xT bD code)] (Fw.Fn.ren [(0,56)] (aJW code gq aFO) Q) aDN (lu Q) J y3) z2 J Q Q (aF (.dO [.agg [iC gq.1.Graph.aG,lo 56 gq.1.Graph.aB.length,xT aK gq.1.Places],.c (xT aH gq.2.1),.c (iC gq.2.2)]) y4 (aS (LT.extract (v := (.agg [iC gq.1.Graph.aG,lo 56 gq.1.Graph.aB.length,xT aK gq.1.Places])) Q (by exact Q)) Q Q Q (aS (LT.extract (v := (.c (xT aH gq.2.1))) Q (by exact Q)) Q Q Q (aS (LT.extract (v := (.c (iC gq.2.2))) Q (by exact Q)) Q Q Q (dP (LT.alloc (n := 57) (cells := [iC 0,sC ah,sC ah]) Q pI Q Q Q) Q Q (dU (stA [iC gq.1.Graph.aG,lo 56 gq.1.Graph.aB.length,xT aK gq.1.Places] Q Q bn bU) Q Q Q Q Q (aJ (Cc (xT aH gq.2.1)) y4 ?_)))))))))))
          refine aJ (Iv gq.2.2) y4 (On (Ws ?_))
          refine en [(17,Cc (.pl 54 0)),(18,Cc (xT aH gI.2)),(19,Cc (.pl 57 0)),(20,Cc (xT aH gq.2.1)),(21,Iv gq.2.2)] [(53,pR 96 aI gI.1.Graph.aB),(54,.row 29 [[iC gI.1.Graph.aG,lo 53 gI.1.Graph.aB.length,xT aK gI.1.Places]]),(56,pR 96 aI gq.1.Graph.aB),(57,.row 29 [[iC gq.1.Graph.aG,lo 56 gq.1.Graph.aB.length,xT aK gq.1.Places]])] z5 z4 (Wr (bf (cO [iC gq.1.Graph.aG,lo 56 gq.1.Graph.aB.length,xT aK gq.1.Places] Q dW bn bU) Q Q Q Q (aF (Cc (xT aH gq.2.1)) y4 (aF (Iv gq.2.2) y4 (aQ fun mG UM => (aP.pure (cF [.agg [iC gq.1.Graph.aG,lo 56 gq.1.Graph.aB.length,xT aK gq.1.Places],.c (xT aH gq.2.1),.c (iC gq.2.2)] [(56,pR 96 aI gq.1.Graph.aB)] (WT gq.1 gq.2.1 gq.2.2 mG UM) SG (.cons (.agg (.cons (.same Q) (.cons (.iZ Q Q) (.cons (.weak (.same Q) (QW.kN qR (fun h => by cases h) _)) .nil)))) (.cons (.c (.weak (.same Q) (QW.kN yS (fun h => by cases h) _))) (.cons (.c (.same Q)) .nil))) J y3) z4 z1 Q Q (aF (.dO [.c (iC mG.1),.c (iC mG.2)]) y4 (aS (LT.extract (v := (.c (iC mG.1))) Q (by exact Q)) Q Q Q (aS (LT.extract (v := (.c (iC mG.2))) Q (by exact Q)) Q Q Q (aJ (Iv mG.1) y4 (aJ (Iv mG.2) y4 ?_)))))))))))
          refine On (Ws (Wr ?_))
          refine bf (cO [iC gq.1.Graph.aG,lo 56 gq.1.Graph.aB.length,xT aK gq.1.Places] Q dW bn bU) Q Q Q Q (aF (Cc (xT aH gq.2.1)) y4 (aF (Iv gq.2.2) y4 (aQ fun qp aFQ => (aP.pure (cF [.agg [iC gq.1.Graph.aG,lo 56 gq.1.Graph.aB.length,xT aK gq.1.Places],.c (xT aH gq.2.1),.c (iC gq.2.2)] [(56,pR 96 aI gq.1.Graph.aB)] (aB6 gq.1 gq.2.1 gq.2.2 qp aFQ) X3 (.cons (.agg (.cons (.same Q) (.cons (.iZ Q Q) (.cons (.weak (.same Q) (QW.kN qR (fun h => by cases h) _)) .nil)))) (.cons (.c (.weak (.same Q) (QW.kN yS (fun h => by cases h) _))) (.cons (.c (.same Q)) .nil))) J y3) z4 z1 Q Q (aF (.dO [.c (iC qp.1),.c (iC qp.2)]) y4 (aS (LT.extract (v := (.c (iC qp.1))) Q (by exact Q)) Q Q Q (aS (LT.extract (v := (.c (iC qp.2))) Q (by exact Q)) Q Q Q (aJ (Iv qp.1) y4 (aJ (Iv qp.2) y4 (On (Ws ?_)))))))))))
          refine aC.fC (fun Pm => ([(2,Bv Pm)],[])) ?_ (fun Pm _ => ?_)
          ·refine en [(17,Cc (.pl 54 0)),(18,Cc (xT aH gI.2)),(22,Iv mG.1),(23,Iv mG.2),(24,Iv qp.1),(25,Iv qp.2)] [(53,pR 96 aI gI.1.Graph.aB),(54,.row 29 [[iC gI.1.Graph.aG,lo 53 gI.1.Graph.aB.length,xT aK gI.1.Places]])] z6 z2 (aC.draw mixed (gQ (cO [iC gI.1.Graph.aG,lo 53 gI.1.Graph.aB.length,xT aK gI.1.Places] Q dW bn bU) Q Q Q Q (ak (Cc (xT aH gI.2)) y4 (aN.bind fun pz UO => (aN.pure (cF [.agg [iC gI.1.Graph.aG,lo 53 gI.1.Graph.aB.length,xT aK gI.1.Places],.c (xT aH gI.2)] [(53,pR 96 aI gI.1.Graph.aB)] (aBy gI.1 gI.2 pz UO) Xp (.cons (.agg (.cons (.same Q) (.cons (.iZ Q Q) (.cons (.weak (.same Q) (QW.kN qR (fun h => by cases h) _)) .nil)))) (.cons (.c (.weak (.same Q) (QW.kN yS (fun h => by cases h) _))) .nil)) J y3) z3 z1 Q Q (gQ (cO [iC gI.1.Graph.aG,lo 53 gI.1.Graph.aB.length,xT aK gI.1.Places] Q dW bn bU) Q Q Q Q (ak (Cc (xT aH gI.2)) y4 (aN.bind fun nK UQ => (aN.pure (cF [.agg [iC gI.1.Graph.aG,lo 53 gI.1.Graph.aB.length,xT aK gI.1.Places],.c (xT aH gI.2)] [(53,pR 96 aI gI.1.Graph.aB)] (aJd gI.1 gI.2 nK UQ) aDO (.cons (.agg (.cons (.same Q) (.cons (.iZ Q Q) (.cons (.weak (.same Q) (QW.kN qR (fun h => by cases h) _)) .nil)))) (.cons (.c (.weak (.same Q) (QW.kN yS (fun h => by cases h) _))) .nil)) J y3) z3 z1 Q Q (dJ (LT.aDu Q Q5) Q Q Q Q (ak (Bv (pz == nK)) y4 ?_)))))))))))
           refine aN.split (fun zJ => ?_) (fun zJ => ?_)
           ·refine lG (Iv mG.1) zJ y5 (lG (Iv qp.1) zJ y5 (qg LT.eql zJ y6 (kL (Bv (mG.1 == qp.1)) zJ y5 (ak (Bv (mG.1 == qp.1)) y4 (aN.split (fun oI => ?_) (fun oI => ?_))))))
            ·refine lG (Iv mG.2) oI y5 (lG (Iv qp.2) oI y5 (qg LT.eql oI y6 (kL (Bv (mG.2 == qp.2)) oI y5 (ak (Bv (mG.2 == qp.2)) y4 (aN.split (fun vT => ?_) (fun vT => ?_))))))
             ·refine lG (Cc (xT aH gI.2)) vT y5 (aN.bind fun qB KN => (aN.step (bQ [.c (xT aH gI.2)] (Fw.Fn.ren [(0,63)] (aBz gI.2 qB KN) Q) Xq (.cons (.c (.weak (.same Q) (QW.kN yS (fun h => by cases h) _))) .nil) J y3) z2 J (gH vT Q Q) Q (lG (Cc (xT aH gI.2)) vT y5 (aN.bind fun sS UW => (aN.step (bQ [.c (xT aH gI.2)] (Fw.Fn.ren [(0,65)] (aJg gI.2 sS UW) Q) aDP (.cons (.c (.weak (.same Q) (QW.kN yS (fun h => by cases h) _))) .nil) J y3) z2 J (gH vT Q Q) Q (aN.bind fun NT aFT => (aN.pure (cF [.c (lo 63 qB.length),.c (lo 65 sS.length)] [(63,pR 3 aH qB),(65,pR 3 aH sS)] (WY qB sS NT aFT) SB (.cons (.c (.iZ Q Q)) (.cons (.c (.iZ Q Q)) .nil)) J y3) z3 z2 (gH vT Q Q) Q (kL (Bv NT) vT y5 (bJ (LT.assign (v := (Bv NT)) Q) Q Q Q (aN.nil (by kernel_rfl) (aW Q z1 J)))))))))))
             ·refine bT vT y3 (bT vT y3 (bT vT y3 (bT vT y3 (bT vT y3 (mg (Bv false) vT aU (bJ (LT.assign (v := (Bv false)) Q) Q Q Q (aN.nil (by kernel_rfl) (aW Q z1 J))))))))
            ·refine bT oI y3 (bT oI y3 (bT oI y3 (mg (Bv false) oI aU (ak (Bv false) y4 (bK y3 (bK y3 (bK y3 (bK y3 (bK y3 (mg (Bv false) Q aU (bJ (LT.assign (v := (Bv false)) Q) Q Q Q ?_)))))))))))
             refine aN.nil (by kernel_rfl) (aW Q z1 J)
           ·refine bT zJ y3 (bT zJ y3 (bT zJ y3 (mg (Bv false) zJ aU (ak (Bv false) y4 (bK y3 (bK y3 (bK y3 (mg (Bv false) Q aU (ak (Bv false) y4 (bK y3 (bK y3 ?_)))))))))))
            refine bK y3 (bK y3 (bK y3 (mg (Bv false) Q aU (bJ (LT.assign (v := (Bv false)) Q) Q Q Q (aN.nil (by kernel_rfl) (aW Q z1 J))))))
          ·refine aC.ret (aj.mk (.inr Q) z1 J Q ⟨au.sc,J⟩ J)
end Go.Proofs.Ytdmlaldifbmkpaa
end
section
set_option linter.unusedVariables false
set_option linter.unusedSimpArgs false
set_option linter.unnecessarySimpa false
namespace Go.Fw
open Go.ChangeShapes Go.WideShapes Go.ChangeAt Go.RowKit
open Go.Proofs.Ytdmlaldifbmkpaa (Rows.uptoBulk Rows.uptoBulkAll)
abbrev qf (W : World) : Nat → Prop := fun b => b < W.heap.size
abbrev xW : Nat → Prop := fun _ => False
abbrev Dt : Nat → GS := fun _ => .dead
def Opn {α : Type} (P : Program) (t : TypeId) (s : Nat) (enc : α → List PV) (wt : α → Nat) (ok : α → Prop) : Prop :=
 ∀ (H : Type) (e : TypeId × Value → H) (W : World) (base : Nat) (spare : Nat → Bool) (held : Bool) (fuel : Nat) (cs : List Value) (x : DataW H × List MemPlace),DataW.trod e P W base spare held fuel t cs = some x →
  ∃ a : α,ok a ∧ wt a ≤ Go.Proofs.Ytdmlaldifbmkpaa.Rows.uptoBulk x.1 ∧ cs.length = s ∧ (enc a).length = s ∧ ∀ (k : Nat) p,(enc a)[k]? = some p → ∃ u,cs[k]? = some u ∧ iw W xW (qf W) p u
def okI (n : Int) : Prop := -9223372036854775808 ≤ n ∧ n ≤ 9223372036854775807
def okL {α : Type} (ok : α → Prop) (xs : List α) : Prop := ∀ x ∈ xs,ok x
def DF (_ : Int) : Nat := 1
def FW {α : Type} (wt : α → Nat) (xs : List α) : Nat := (xs.map wt).sum + 1
section
variable {P : Program}
theorem one1 {p q : PV} {cs : List Value} {v : Value} {W : World} (hcs : cs = [v]) (h : iw W xW (qf W) p v) : ∀ (k : Nat) r,[p][k]? = some r → ∃ u,cs[k]? = some u ∧ iw W xW (qf W) r u := fun k r hk => by
 subst hcs
 cases k with
 | zero => simp at hk; subst hk; exact ⟨v,rfl,h⟩
 | succ k => simp at hk
theorem Opn.int {t : TypeId} (ht : P.underlying t = some (.int .i64)) : Opn P t 1 (fun n : Int => [.sc (.int .i64 n)]) DF okI := fun H e W base spare held fuel cs x h => by
 obtain ⟨n,rfl,rfl,hw⟩ := DataW.trod_int ht h
 refine ⟨n,?_,by simp [DF,Go.Proofs.Ytdmlaldifbmkpaa.Rows.uptoBulk],rfl,rfl,one1 (q := .sc (.int .i64 n)) rfl (.sc rfl)⟩
 simp [Lit.wf,IntKind.min,IntKind.max,IntKind.signed,IntKind.bits] at hw
 exact ⟨by omega,by omega⟩
theorem Zv {α : Type} {p : Nat → α → Prop} : ∀ n : Nat,(∀ i,i < n → ∃ a,p i a) → ∃ xs : List α,xs.length = n ∧ ∀ (i : Nat) a,xs[i]? = some a → p i a
 | 0,_ => ⟨[],rfl,fun i a h => by simp at h⟩
 | n + 1,h => by
  obtain ⟨xs,h1,h2⟩ := Zv n fun i hi => h i (by omega)
  obtain ⟨a,ha⟩ := h n (by omega)
  refine ⟨xs ++ [a],by simp [h1],fun i b hb => ?_⟩
  rw [List.getElem?_append] at hb
  split at hb
  ·exact h2 i b hb
  ·rename_i hn
   have hi : i - xs.length = 0 := by
    have := (List.getElem?_eq_some_iff.1 hb).1
    simp at this
    omega
   rw [hi] at hb
   simp at hb
   subst hb
   have : i = n := by omega
   subst this
   exact ha
theorem Xh {α : Type} {H : Type} {wt : α → Nat} {D : Nat → DataW H} : ∀ (xs : List α) (k : Nat),(∀ (i : Nat) a,xs[i]? = some a → wt a ≤ Go.Proofs.Ytdmlaldifbmkpaa.Rows.uptoBulk (D (k + i))) →
  (xs.map wt).sum ≤ Go.Proofs.Ytdmlaldifbmkpaa.Rows.uptoBulkAll ((List.range' k xs.length).map D)
 | [],_,_ => by simp [Go.Proofs.Ytdmlaldifbmkpaa.Rows.uptoBulkAll]
 | a :: r,k,h => by
  have h0 := h 0 a rfl
  have ih := Xh r (k + 1) fun i b hb => by
   have := h (i + 1) b (by simpa using hb)
   rwa [show k + 1 + i = k + (i + 1) by omega]
  rw [Nat.add_zero] at h0
  simp only [List.map_cons,List.sum_cons,List.length_cons,List.range'_succ,Go.Proofs.Ytdmlaldifbmkpaa.Rows.uptoBulkAll]
  omega
theorem cell_lt {w : World} {a : Addr} {v : Value} (h : w.cell? a = some v) : a.block < w.heap.size := by
 unfold World.cell? at h
 cases hb : w.heap[a.block]? with
 | none => rw [hb] at h; simp at h
 | some o => exact (Array.getElem?_eq_some_iff.1 hb).1
theorem Opn.slice {α : Type} {t e : TypeId} {s : Nat} {enc : α → List PV} {wt : α → Nat} {ok : α → Prop} (ht : P.underlying t = some (.slice e)) (hs : P.cellsOf e = s) (hs0 : 0 < s) (he : Opn P e s enc wt ok) :
  Opn P t 1 (fun xs : List α => [.xs false (xs.map enc)]) (FW wt) (okL ok) := fun H en W base spare held fuel cs x h => by
 rcases Go.Deep.open_slice ht h with ⟨rfl,rfl⟩ | ⟨a,len,cap,m,n,D,Pl,rfl,hb,hl,hm,hmm,rfl,hi⟩
 ·refine ⟨[],?_,?_,rfl,rfl,one1 (q := .xs false []) rfl .emp⟩
  ·intro x hx; cases hx
  ·simp [FW,Go.Proofs.Ytdmlaldifbmkpaa.Rows.uptoBulk]
 ·have hml : len ≤ m := by rw [hmm]; split <;> omega
  obtain ⟨xs,hxl,hx⟩ := Zv (p := fun i (b : α) => ok b ∧ wt b ≤ Go.Proofs.Ytdmlaldifbmkpaa.Rows.uptoBulk (D i) ∧ (enc b).length = s ∧ ∀ (k : Nat) p,(enc b)[k]? = some p → ∃ u,W.cell? (a.add (i * s + k)) = some u ∧ iw W xW (qf W) p u) len (fun i hil => by
   obtain ⟨cs',hc,htr⟩ := hi i (by omega)
   obtain ⟨b,h1,h2,h3,h4,h5⟩ := he _ _ _ _ _ _ _ _ _ htr
   obtain ⟨_,hcl,hat⟩ := World.cells?_some hc
   refine ⟨b,h1,h2,h4,fun k p hk => ?_⟩
   obtain ⟨u,hu,hr⟩ := h5 k p hk
   refine ⟨u,?_,hr⟩
   have hks : k < s := by rw [← h4]; exact (List.getElem?_eq_some_iff.1 hk).1
   have := hat k (by rw [hs]; exact hks)
   rw [add_add,hs] at this
   rw [this]
   exact hu)
  refine ⟨xs,fun b hb => ?_,?_,rfl,rfl,one1 (q := .sc undef) rfl ?_⟩
  ·obtain ⟨i,hib⟩ := List.getElem?_of_mem hb
   exact (hx i b hib).1
  ·have := Xh (wt := wt) (D := D) xs 0 (fun i b hb => by rw [Nat.zero_add]; exact (hx i b hb).2.1)
   simp only [FW,Go.Proofs.Ytdmlaldifbmkpaa.Rows.uptoBulk]
   rw [hxl,← List.range_eq_range'] at this
   omega
  ·cases hxs : xs with
   | nil =>
    have : len = 0 := by rw [← hxl,hxs]; rfl
    subst this
    exact .emp
   | cons b r =>
    rw [← hxs]
    have hget : ∀ (j k : Nat) cs p,(xs.map enc)[j]? = some cs → cs[k]? = some p → ∃ u,W.cell? (a.add (j * s + k)) = some u ∧ iw W xW (qf W) p u := fun j k cs p hj hk => by
     rw [List.getElem?_map] at hj
     cases UE : xs[j]? with
     | none => rw [UE] at hj; cases hj
     | some c =>
      rw [UE] at hj
      injection hj with hj
      subst hj
      exact (hx j c UE).2.2.2 k p hk
    refine .xs (s := s) (fun j k => (W.cell? (a.add (j * s + k))).getD undef) (by simp [hxl]) ?_ (by simp [hxl]; exact hl) (fun cs hcs => ?_) (fun j k cs p hj hk => ?_) (fun j k cs p hj hk => ?_)
    ·have h0 := hx 0 b (by rw [hxs]; rfl)
     have hlt : 0 < (enc b).length := by rw [h0.2.2.1]; exact hs0
     obtain ⟨u,hu,_⟩ := h0.2.2.2 0 (enc b)[0] (List.getElem?_eq_getElem hlt)
     have := cell_lt hu
     rw [add_block] at this
     exact this
    ·obtain ⟨c,hc,rfl⟩ := List.mem_map.1 hcs
     obtain ⟨i,hic⟩ := List.getElem?_of_mem hc
     exact (hx i c hic).2.2.1
    ·obtain ⟨u,hu,_⟩ := hget j k cs p hj hk
     rw [hu]; rfl
    ·obtain ⟨u,hu,hr⟩ := hget j k cs p hj hk
     rw [hu]
     exact hr
def st2 (P : Program) (t : TypeId) : Option (Nat × Nat × Nat × Nat) := match P.underlying t with
 | some (.struct fs) => match fs.toList with
  | [f0,f1] => some (f0.type,f0.offset,f1.type,f1.offset)
  | _ => none
 | _ => none
theorem aHG {α : Type} {wt : α → Nat} (h : ∀ x,1 ≤ wt x) (xs : List α) : xs.length ≤ FW wt xs := by
 unfold FW
 induction xs with
 | nil => simp
 | cons x r ih =>
  have := h x
  simp only [List.map_cons,List.sum_cons,List.length_cons] at ih ⊢
  omega
theorem Opn.arg1 {α : Type} {t : TypeId} {enc : α → List PV} {wt : α → Nat} {ok : α → Prop} (h : Opn P t 1 enc wt ok) {p : α → PV} (hp : ∀ a,enc a = [p a]) {H : Type} {e : TypeId × Value → H} {W : World} {sp : Nat → Bool} {v : Value} {d : DataW H} {ps : List MemPlace}
  (hv : v.oneCell' = true) (hd : DataW.Trod e P W 0 sp true t v d ps) : ∃ a : α,ok a ∧ wt a ≤ Go.Proofs.Ytdmlaldifbmkpaa.Rows.uptoBulk d ∧ RS P W xW (qf W) Dt (.c (.pv (p a))) v := by
 obtain ⟨fuel,hf⟩ := hd
 obtain ⟨a,h1,h2,h3,h4,h5⟩ := h _ _ _ _ _ _ _ _ _ hf
 refine ⟨a,h1,h2,?_⟩
 have hc : v.cells = #[v] := aHh hv
 obtain ⟨u,hu,hr⟩ := h5 0 (p a) (by rw [hp]; rfl)
 rw [hc] at hu
 have : v = u := by simpa using hu
 subst this
 exact ⟨hv,hr⟩
def OB (P : Program) (W : World) : List SV → List Value → Prop
 | [],[] => True
 | x :: xs,v :: vs => RS P W xW (qf W) Dt x v ∧ OB P W xs vs
 | _,_ => False
theorem OB.spec {W : World} : ∀ {xs : List SV} {vs : List Value},OB P W xs vs → vs.length = xs.length ∧ ∀ (k : Nat) x,xs[k]? = some x → ∃ u,vs[k]? = some u ∧ RS P W xW (qf W) Dt x u
 | [],[],_ => ⟨rfl,fun k x hk => by simp at hk⟩
 | [],_ :: _,h => h.elim
 | _ :: _,[],h => h.elim
 | x :: xs,v :: vs,h => by
  obtain ⟨h1,h2⟩ := OB.spec h.2
  refine ⟨by simp [h1],fun k y hk => ?_⟩
  cases k with
  | zero => simp at hk; subst hk; exact ⟨v,rfl,h.1⟩
  | succ k => exact h2 k y (by simpa using hk)
theorem aBg {H : Type} {e : TypeId × Value → H} (hl : laidOutB P = true) {W W' : World} {sp : Nat → Bool} (hb : Below W.heap.size W W') : ∀ {ts : List TypeId} {vs : List Value} {ds : List (DataW H)} {ps : List MemPlace},(ts.all fun t => P.readableRec t && decide (t < P.types.size)) = true →
  DataW.TrodAll e P W 0 (fun _ => true) true ts vs ds ps → (∀ p ∈ ps,p.block < W.heap.size) → (∀ p ∈ ps,sp p.block = true) → DataW.TrodAll e P W' 0 sp true ts vs ds ps
 | [],[],[],_,_,h,_,_ => h
 | t :: ts,v :: vs,d :: ds,ps,hr,h,hlt,hs => by
  obtain ⟨p,q,h1,h2,rfl⟩ := h
  simp only [List.all_cons,Bool.and_eq_true,decide_eq_true_eq] at hr
  exact ⟨p,q,Go.WideElems.Trod_stays hl hr.1.1 hr.1.2 h1 (fun x hx => hb.same (hlt x (List.mem_append_left _ hx))) (fun x hx => hs x (List.mem_append_left _ hx)),aBg hl hb hr.2 h2 (fun x hx => hlt x (List.mem_append_right _ hx)) (fun x hx => hs x (List.mem_append_right _ hx)),rfl⟩
 | [],[],_ :: _,_,_,h,_,_ => h.elim
 | [],_ :: _,_,_,_,h,_,_ => h.elim
 | _ :: _,[],_,_,_,h,_,_ => h.elim
 | _ :: _,_ :: _,[],_,_,h,_,_ => h.elim
theorem aHw {H : Type} {e : TypeId × Value → H} {f : Func} {s : ChangeSpec} {apart handsOn again : Bool} {fresh : Bool} {W W' : World} {args : Array Value} {ds gs : List (DataW H)} {before : List MemPlace} {tb : TypeId} (hW : DataW.Whole e P f.params.toList s.vars apart W args.toList ds gs before) (hl : laidOutB P = true)
  (hr : (f.params.toList.all fun t => P.readableRec t && decide (t < P.types.size)) = true) (hb : Below W.heap.size W W') (hv : s.vars = []) (hf : s.fn H ds = { results := [.lit (.bool true)],args := ds }) (hrt : f.resultTypes = #[tb]) (htb : P.underlying tb = some .bool) :
  s.post e P f apart fresh handsOn again W args (.bool true) W' := by
 have hlt : ∀ p ∈ before,p.block < W.heap.size := fun p hp => hW.lt p hp
 have hW0 := hW
 obtain ⟨p,q,hA,hV,hpq,hz,hn⟩ := hW
 rw [hv] at hV
 obtain ⟨rfl,rfl⟩ : gs = [] ∧ q = [] := by
  cases gs with
  | nil => exact ⟨rfl,hV⟩
  | cons _ _ => exact hV.elim
 rw [List.append_nil] at hpq
 subst hpq
 have hargs : ∀ sp : Nat → Bool,(∀ p ∈ before,sp p.block = true) → DataW.TrodAll e P W' 0 sp true f.params.toList args.toList ds before := fun sp hs => aBg hl hb hr hA hlt hs
 have hres : ∀ (b : Nat) (sp : Nat → Bool) (hd : Bool),DataW.TrodAll e P W' b sp hd f.resultTypes.toList ((Value.bool true).resultList f.resultTypes.size) [.lit (.bool true)] [] := fun b sp hd => by
  rw [hrt]
  exact ⟨[],[],shut_bool htb _,rfl,rfl⟩
 have hfd : s.fn H (ds ++ []) = { results := [.lit (.bool true)],args := ds } := by rw [List.append_nil]; exact hf
 have hold : ∀ p ∈ before,(fun b => decide (b < W.heap.size)) p.block = true := fun p hp => by simpa using hlt p hp
 have hvs : ∀ sp : Nat → Bool,DataW.TrodVars e P W' sp s.vars [] [] := fun sp => by rw [hv]; rfl
 refine ⟨ds,[],before,[],before,[],hW0,?_,?_,?_,World.keptBut_mono (fun p hp => ⟨hp,?_⟩) (hb.frame (· ∈ before)),fun _ => ?_⟩
 ·rw [hfd]; exact hres _ _ _
 ·rw [hfd]; exact hargs _ hold
 ·rw [hfd]; exact hvs _
 ·exact Or.inr (Or.inl hp)
 ·refine ⟨ok_one hrt rfl (okWide_bool_mk htb _),?_⟩
  ·refine ⟨_,_,([] ++ before) ++ [],⟨[] ++ before,[],trodAll_append (hargs _ (fun _ _ => rfl)) (hres _ _ _),hvs _,rfl,?_,?_⟩,?_⟩
   ·intro b off hp
    have hin : MemPlace.cell b off ∈ before := by simpa using hp
    rw [hb.frozen (hlt _ hin)]
    exact hz b off hin
   ·intro ha
    simpa using hn ha
   ·intro p hp _
    simpa using hp
end
end Go.Fw
end
section
set_option linter.unusedVariables false
set_option linter.unusedSimpArgs false
set_option linter.unnecessarySimpa false
open Go Go.Fw
open Go.ChangeShapes Go.WideShapes Go.ChangeAt Go.RowKit
namespace Go.Proofs.Ytdmlaldifbmkpaa
theorem oC5 : Try.prog.cellsOf 5 = 1 := by kernel_rfl
theorem aAX : Try.prog.underlying 22 = some (.slice 5) := by kernel_rfl
theorem oU5 : Try.prog.underlying 5 = some (.int .u8) := by kernel_rfl
def okB (n : Int) : Prop := 0 ≤ n ∧ n ≤ 255
theorem Opn.u8 {P : Program} {t : TypeId} (ht : P.underlying t = some (.int .u8)) : Opn P t 1 bD DF okB := fun H e W base spare held fuel cs x h => by
  obtain ⟨n, rfl, rfl, hw⟩ := DataW.trod_int ht h
  refine ⟨n, ?_, by simp [DF, Go.Proofs.Ytdmlaldifbmkpaa.Rows.uptoBulk], rfl, rfl, one1 (q := .sc (.int .u8 n)) rfl (.sc rfl)⟩
  simp [Lit.wf, IntKind.min, IntKind.max, IntKind.signed, IntKind.bits] at hw
  exact ⟨by omega, by omega⟩
theorem iw.aCs {W : World} {l : List Int} {v : Value} (h : iw W xW (qf W) (.xs false (l.map bD)) v) : iw W (qf W) (qf W) (.xs true (l.map bD)) v := by
  generalize hE : l.map bD = E at h
  cases h with
  | emp => exact .emp
  | xs val hn hb hc hs hv hr =>
    refine .xs val hn hb hc hs hv fun j k cs p hj hk => ?_
    have h1 := hr j k cs p hj hk
    subst hE
    obtain ⟨x, hx, rfl⟩ := List.mem_map.mp (List.mem_of_getElem? hj)
    cases k with
    | zero =>
      cases hk
      revert h1
      generalize val j 0 = u
      intro h1
      cases h1 with | sc h => exact .sc h
    | succ k => cases hk
theorem Fn.aCt {P : Program} {f : FuncId} {l : List Int} (hf : Fw.Fn P f [.c (xT bD l)] [] (.s (.c (bC true))) [] [] []) {W : World} {v : Value} (ha : RS P W xW (qf W) Dt (.c (xF bD l)) v) : Calls P f #[v] W fun e W' => e = .returned (.bool true) ∧ Below W.heap.size W W' := by
  have ha' : RS P W (qf W) (qf W) Dt (.c (xT bD l)) v := ⟨ha.1, iw.aCs ha.2⟩
  have hw : WF (qf W) (qf W) Dt W := ⟨fun b hb => hb, fun b hb => hb, fun n b hg => hg.elim, fun n m b hg => hg.elim, fun n j k b h => (by cases h)⟩
  have := hf (qf W) (qf W) Dt W [v] hw rfl (fun k x hk => by cases k with | zero => cases hk; exact ⟨v, rfl, ha'⟩ | succ k => cases hk) (fun p hp => by cases hp)
  refine this.mono fun e W' hp => ?_
  obtain ⟨u, R', B', g', rfl, had, _, hv, _⟩ := hp
  have hu : u = .bool true := by
    obtain ⟨_, h3⟩ := hv
    cases h3
    rfl
  subst hu
  exact ⟨rfl, had.os, had.tape, had.output, had.size, fun k hk => had.heap k hk fun n hn => by cases hn⟩
end Go.Proofs.Ytdmlaldifbmkpaa
end
