/- Parts of a proof that a law of the program holds: what the program computes, and why that is right. -/
import Derived.Test.YtdmlaldifbmkpaaRows
import Derived.ProofKit
import Derived.OpenShut
import Derived.JoinedCond
import Derived.Carry
import Derived.Deep.Slices
import Derived.ChangeSame
import Derived.Test.YtdmlaldifbmkpaaZEOtherPlaces2
set_option linter.unusedVariables false
set_option linter.unusedSimpArgs false
set_option linter.unnecessarySimpa false
set_option maxRecDepth 100000
set_option maxHeartbeats 8000000
section
open Go Go.Fw
namespace Go.Proofs.Ytdmlaldifbmkpaa
def uz (s1:(Int × Int × (List aH))):Option ((Int × Int × (List aH)) ⊕ (Int × (List aH))) :=
(bif (decide (s1.2.1 < (s1.2.2.length:Int))) then
(idx s1.2.2 s1.2.1).bind (fun x10 =>
(uw x10.Graph.aB (aJ (s1.1 + 1))).bind (fun r13 =>
(same x10.Graph.aB.length r13.2.length).bind (fun u14 =>
(vC x10.Places r13.1).bind (fun fO =>
(same x10.Places.length fO.2.length).bind (fun u16 =>
 some (.inl (fO.1, (aJ (s1.2.1 + 1)), (s1.2.2.set s1.2.1.toNat (aH.mk (au.mk s1.1 r13.2) fO.2)))))))))
 else
 some (.inr (s1.1, s1.2.2)))
def yE (a:(List aH)) (k:Int):Option (Int × (List aH)) :=
((bY (uz) BIG (k, 0, a)).bind (fun b8 =>
 some (b8.1, b8.2)))
theorem uF {xs:List aH} {i:Int} {x:aH} (h:idx xs i = some x):idx (bQ xs) i = some (x.Graph.aC, x.Graph.aB.length, x.Places.length):=by
  have h0:=uG h
  have h1:=pF h
  unfold idx
  rw [if_pos h0, bQ, List.getElem?_map, h1]
  rfl
theorem AB {fs:List (Int × Nat × Nat)} {i:Int} {f g:Int × Nat × Nat} (h:idx fs i = some f):idx (fs.set i.toNat g) i = some g:=by
  have h0:=uG h
  have h1:=List.getElem?_eq_some_iff.1 (pF h)
  unfold idx
  rw [if_pos h0, List.getElem?_set, if_pos rfl, if_pos h1.1]
theorem LC {xs:List aH} {i:Int} {x:aH} (h:idx xs i = some x):(cO xs)[i.toNat]? = some x.Graph.aB:=by
  rw [cO, List.getElem?_map, pF h]
  rfl
theorem RP {xs:List aH} {i:Int} {x:aH} (h:idx xs i = some x):(dD xs)[i.toNat]? = some x.Places:=by
  rw [dD, List.getElem?_map, pF h]
  rfl
theorem Nk (xs:List aH) (j:Nat) (k:Int) (bs:List aQ) (ps:List aO):(bQ xs).set j (k, bs.length, ps.length) = bQ (xs.set j (aH.mk (au.mk k bs) ps)):=by simp [bQ, List.map_set]
theorem Ky (xs:List aH) (j:Nat) (k:Int) (bs:List aQ) (ps:List aO):(cO xs).set j bs = cO (xs.set j (aH.mk (au.mk k bs) ps)):=by simp [cO, List.map_set]
theorem RJ (xs:List aH) (j:Nat) (k:Int) (bs:List aQ) (ps:List aO):(dD xs).set j ps = dD (xs.set j (aH.mk (au.mk k bs) ps)):=by simp [dD, List.map_set]
theorem Qx (a:(List aH)) (k:Int):∀ t, yE a k = some t → Fw.Fn Try.prog 37 [(.c (lo 0 a.length)), (.c (iC k))] [(0, (.ax 29 1 2 (bQ a))), (1, (.pool 96 (rowsOf aG (cO a)))), (2, (.pool 82 (rowsOf aI (dD a))))] (.s (.c (iC t.1))) [(0, (.ax 29 1 2 (bQ t.2))), (1, (.pool 96 (rowsOf aG (cO t.2)))), (2, (.pool 82 (rowsOf aI (dD t.2))))] [0, 1, 2] []:=by
 refine Fw.Fn.of (P:=Try.prog) (X:=[]) (pn:=[0, 1, 2]) (rs:=(fun (t:(Int × (List aH))) => [(.c (iC t.1))])) (dL:=(fun (t:(Int × (List aH))) => [(0, (.ax 29 1 2 (bQ t.2))), (1, (.pool 96 (rowsOf aG (cO t.2)))), (2, (.pool 82 (rowsOf aI (dD t.2))))])) Try.func37 rfl Try.ntmps37 (Nat.le_of_ble_eq_true rfl) rfl ?_
 intro w0 U0 R0 g0
 unfold yE
 refine Ws (Wr ?_)
 refine dw (Iv 0) rfl ⟨rfl, rfl⟩ rfl rfl ?_
 refine On (Ws (Ws (Wr ?_)))
 refine dw (Iv 0) rfl ⟨rfl, rfl⟩ rfl rfl ?_
 refine On (aA.block ?_)
 refine aA.mJ (id:=0) (uz) (fun s1 => ([(0, (Cc (lo 0 s1.2.2.length))), (1, (Iv s1.1)), (5, (Iv s1.2.1))], [(0, (.ax 29 1 2 (bQ s1.2.2))), (1, (.pool 96 (rowsOf aG (cO s1.2.2)))), (2, (.pool 82 (rowsOf aI (dD s1.2.2))))])) (fun b8 => ([(1, (Iv b8.1))], [(0, (.ax 29 1 2 (bQ b8.2))), (1, (.pool 96 (rowsOf aG (cO b8.2)))), (2, (.pool 82 (rowsOf aI (dD b8.2))))])) ?_ (aU.of ⟨rfl, rfl, rfl, trivial⟩ ⟨rfl, rfl, rfl, trivial⟩) rfl (fun b8 _ => ?_)
 ·intro s1
  unfold uz
  refine Ws (Ws (Wr ?_))
  refine mv (Iv s1.2.1) rfl rfl rfl rfl ?_
  refine mv (Cc (lo 0 s1.2.2.length)) rfl rfl rfl rfl ?_
  refine aT (LT.Dx rfl mr) rfl rfl rfl ?_
  refine dF (LT.lss rfl) rfl rfl rfl rfl ?_
  refine On ?_
  refine aA.cond rfl (fun wo => ?_) (fun wo => ?_)
  ·refine aA.skip (Ws (aA.block (Ws (Wr ?_))))
   refine mv (Cc (lo 0 s1.2.2.length)) rfl rfl rfl rfl ?_
   refine mv (Iv s1.2.1) rfl rfl rfl rfl ?_
   refine mv (Iv s1.1) rfl rfl rfl rfl ?_
   refine ay fun x10 lJ => ?_
   refine nH (LT.CO (wU s1.2.2).symm rfl qK (uF lJ)) rfl rfl rfl rfl rfl ?_
   refine aT (LT.dO rfl gm) rfl rfl rfl ?_
   refine aT (LT.dO rfl jD) rfl rfl rfl ?_
   refine gJ (LT.Nl (v:=s1.1) rfl rfl (gB oD) lM (uF lJ) (by exact rfl)) rfl rfl rfl rfl rfl ?_
   refine On (Ws (Wr ?_))
   refine mv (Iv s1.1) rfl rfl rfl rfl ?_
   refine dF (LT.add rfl) rfl ⟨rfl, rfl⟩ rfl rfl ?_
   refine dw (Iv (aJ (s1.1 + 1))) rfl rfl rfl rfl ?_
   refine On (Ws (Wr ?_))
   refine mv (Cc (lo 0 s1.2.2.length)) rfl rfl rfl rfl ?_
   refine mv (Iv s1.2.1) rfl rfl rfl rfl ?_
   refine nH (LT.CO (fs:=(bQ s1.2.2).set s1.2.1.toNat (s1.1, x10.Graph.aB.length, x10.Places.length)) (by rw [List.length_set, wU]) rfl qK (AB (uF lJ))) rfl rfl rfl rfl rfl ?_
   refine aT (LT.dO rfl gm) rfl rfl rfl ?_
   refine aT (LT.dO rfl fZ) rfl rfl rfl ?_
   refine eY (LT.Gj (k:=1) (c:=.tl 1 s1.2.1.toNat 0 x10.Graph.aB.length) rfl gK (AB (uF lJ)) (by exact rfl) rfl) rfl rfl rfl rfl ?_
   refine mv (Iv (aJ (s1.1 + 1))) rfl rfl rfl rfl ?_
   refine ay fun r13 xE => ?_
   refine ay fun u14 Df => ?_
   refine aS.step (LT.Ju (p:=1) (k:=s1.2.1.toNat) (m:=21) (enc:=aG) (r:=x10.Graph.aB) (r':=r13.2) (rows:=cO s1.2.2) (@LT.iR Try.prog _ _ 46 _ _ [(.c (lo 21 x10.Graph.aB.length)), (.c (iC (aJ (s1.1 + 1))))] _ _ [] _ _ _ _ ((show Fw.Fn Try.prog 46 [(.c (lo 21 x10.Graph.aB.length)), (.c (iC (aJ (s1.1 + 1))))] [(21, (pR 96 aG x10.Graph.aB))] (Iv r13.1) [(21, (pR 96 aG r13.2))] [21] [] from Fw.Fn.ren [(0, 21)] (KD x10.Graph.aB (aJ (s1.1 + 1)) r13 xE) rfl)) rfl Fp (.cons (.c (.same rfl)) (.cons (.c (.same rfl)) .nil)) rfl rfl ⟨rfl, trivial⟩) (LC lJ) rfl) ⟨rfl, rfl, rfl, trivial⟩ ⟨rfl, trivial⟩ rfl rfl ?_
   refine dw (Iv r13.1) rfl rfl rfl rfl ?_
   refine On (Wr ?_)
   refine mv (Cc (lo 0 s1.2.2.length)) rfl rfl rfl rfl ?_
   refine mv (Iv s1.2.1) rfl rfl rfl rfl ?_
   refine nH (LT.CO (fs:=(bQ s1.2.2).set s1.2.1.toNat (s1.1, x10.Graph.aB.length, x10.Places.length)) (by rw [List.length_set, wU]) rfl qK (AB (uF lJ))) rfl rfl rfl rfl rfl ?_
   refine aT (LT.dO rfl iG) rfl rfl rfl ?_
   refine eY (LT.Gj (k:=2) (c:=.tl 2 s1.2.1.toNat 0 x10.Places.length) rfl iJ (AB (uF lJ)) (by exact rfl) rfl) rfl rfl rfl rfl ?_
   refine mv (Iv r13.1) rfl rfl rfl rfl ?_
   refine ay fun fO rU => ?_
   refine ay fun u16 Dh => ?_
   refine aS.step (LT.Ju (p:=2) (k:=s1.2.1.toNat) (m:=22) (enc:=aI) (r:=x10.Places) (r':=fO.2) (rows:=dD s1.2.2) (@LT.iR Try.prog _ _ 109 _ _ [(.c (lo 22 x10.Places.length)), (.c (iC r13.1))] _ _ [] _ _ _ _ ((show Fw.Fn Try.prog 109 [(.c (lo 22 x10.Places.length)), (.c (iC r13.1))] [(22, (pR 82 aI x10.Places))] (Iv fO.1) [(22, (pR 82 aI fO.2))] [22] [] from Fw.Fn.ren [(0, 22)] (KE x10.Places r13.1 fO rU) rfl)) rfl Fb (.cons (.c (.same rfl)) (.cons (.c (.same rfl)) .nil)) rfl rfl ⟨rfl, trivial⟩) (RP lJ) rfl) ⟨rfl, rfl, rfl, trivial⟩ ⟨rfl, trivial⟩ rfl rfl ?_
   refine dw (Iv fO.1) rfl rfl rfl rfl ?_
   refine On (aA.blk (Wr ?_))
   refine mv (Iv s1.2.1) rfl rfl rfl rfl ?_
   refine dF (LT.add rfl) rfl ⟨rfl, rfl⟩ rfl rfl ?_
   refine dw (Iv (aJ (s1.2.1 + 1))) rfl rfl rfl rfl ?_
   refine On ?_
   refine aA.nil ⟨rfl, aU.of ⟨(congrArg (fun l1 => (some (AV.s (.c (lo 0 l1))):Option AV)) (show s1.2.2.length = (s1.2.2.set s1.2.1.toNat (aH.mk (au.mk s1.1 r13.2) fO.2)).length by simp only [List.length_set])), rfl, rfl, trivial⟩ ⟨(congrArg (fun z => (some (Ob.ax 29 1 2 z):Option Ob)) (show (bQ s1.2.2).set s1.2.1.toNat (s1.1, x10.Graph.aB.length, x10.Places.length) = bQ (s1.2.2.set s1.2.1.toNat (aH.mk (au.mk s1.1 r13.2) fO.2)) by rw [same_eq Df, same_eq Dh]; exact Nk ..)), (congrArg (fun z => (some (Ob.pool 96 (rowsOf aG z)):Option Ob)) (Ky s1.2.2 s1.2.1.toNat s1.1 r13.2 fO.2)), (congrArg (fun z => (some (Ob.pool 82 (rowsOf aI z)):Option Ob)) (RJ s1.2.2 s1.2.1.toNat s1.1 r13.2 fO.2)), trivial⟩⟩
  ·refine aA.qL rfl ⟨rfl, aU.of ⟨rfl, trivial⟩ ⟨rfl, rfl, rfl, trivial⟩⟩
 ·refine Ws (Wr ?_)
  refine mv (Iv b8.1) rfl rfl rfl rfl ?_
  refine dw (Iv b8.1) rfl rfl rfl rfl ?_
  refine On ?_
  refine aA.ret (dm.mk (.inr rfl) ⟨rfl, trivial⟩ ⟨rfl, rfl, rfl, trivial⟩ rfl ⟨aX.sc, trivial⟩ ⟨trivial, dB.oJ jR _, dB.oJ jq _, trivial⟩)
theorem L8:cZ Try.prog 37 = true:=by kernel_rfl
theorem Fj:cZ Try.prog 38 = true:=by kernel_rfl
def AU (aF:aH):Option Bool :=
(yH aF 1048576).bind (fun r1 =>
(bif (decide (r1 < 0)) then
 some true
 else
(qQ aF).bind (fun r3 =>
(yZ r3).bind (fun r4 =>
(qQ aF).bind (fun r5 =>
(uU r5).bind (fun r6 =>
(((
(rY r6.1 r4.1).bind (fun r10 =>
(bif (!r10) then
(same r5.Graph.aB.length r6.2.2.1.length).bind (fun u12 =>
(same r5.Places.length r6.2.2.2.length).bind (fun u13 =>
 some true
))
 else
(same r5.Graph.aB.length r6.2.2.1.length).bind (fun u14 =>
(same r5.Places.length r6.2.2.2.length).bind (fun u15 =>
 some (r6.2.1 != r4.2)
))
)
)
):Option Bool).bind (fun j9 =>
(bif j9 then
 some false
 else
(qQ aF).bind (fun eu =>
(uh (aH.mk (au.mk r5.Graph.aC r6.2.2.1) r6.2.2.2) eu).bind (fun kG =>
(bif (!kG) then
 some false
 else
(yD (aH.mk (au.mk r5.Graph.aC r6.2.2.1) r6.2.2.2) 1).bind (fun oK =>
(((
(bif (decide (oK.1 < 0)) then
 some true
 else
(rY r6.1 r4.1).bind (fun zF =>
(bif (!zF) then
 some true
 else
 some (r6.2.1 != r4.2)
)
)
)
):Option Bool).bind (fun j24 =>
(bif j24 then
 some false
 else
(yE r6.1 1).bind (fun dZ =>
(same r6.1.length dZ.2.length).bind (fun u30 =>
(um dZ.2 1).bind (fun qZ =>
(bif (decide (qZ < 0)) then
 some false
 else
(bif (qZ != dZ.1) then
 some false
 else
(qQ aF).bind (fun kH =>
(uU kH).bind (fun gZ =>
(((
(rY gZ.1 r4.1).bind (fun qc =>
(bif (!qc) then
(same r6.1.length dZ.2.length).bind (fun Si =>
 some true
)
 else
(same r6.1.length dZ.2.length).bind (fun u42 =>
 some (gZ.2.1 != r4.2)
)
)
)
):Option Bool).bind (fun j38 =>
(bif j38 then
 some false
 else
(um dZ.2 1).bind (fun sH =>
(bif (decide (sH < 0)) then
 some false
 else
(bif (sH != dZ.1) then
 some false
 else
 some true
)
)
)
)
))
)
)
)
)
))
)
)
))
)
)
)
)
)
))
)
)
)
)
)
)
theorem TK (aF:aH):∀ t, AU aF = some t → Fw.Fn Try.prog 4 [(.agg [(iC aF.Graph.aC), (xF aG aF.Graph.aB), (xF aI aF.Places)])] [] (.s (.c (bC t))) [] [] []:=by
 refine Fw.Fn.of (P:=Try.prog) (X:=[]) (pn:=[]) (rs:=(fun (t:Bool) => [(.c (bC t))])) (dL:=(fun (t:Bool) => [])) Try.func4 rfl Try.ntmps4 (Nat.le_of_ble_eq_true rfl) rfl ?_
 intro w0 U0 R0 g0
 unfold AU
 refine Ws (Wr ?_)
 refine qw (LT.box (n:=21) (v:=(.agg [(iC aF.Graph.aC), (xF aG aF.Graph.aB), (xF aI aF.Places)])) rfl qj (by exact rfl)) rfl rfl rfl ?_
 refine dw (Bv false) rfl ⟨rfl, rfl⟩ rfl rfl ?_
 refine On (Ws (Wr ?_))
 refine dw (Iv 1048576) rfl ⟨rfl, rfl⟩ rfl rfl ?_
 refine On (Ws (Wr ?_))
 refine eY (LT.kV (out:=[(iC aF.Graph.aC), (xF aG aF.Graph.aB), (xF aI aF.Places)]) rfl wI (gB xM) qj (by exact rfl) (by exact rfl)) rfl rfl rfl rfl ?_
 refine mv (Iv 1048576) rfl rfl rfl rfl ?_
 refine ay fun r1 hr1 => ?_
 refine aS.pure (@LT.iR Try.prog _ _ 30 _ _ [(.agg [(iC aF.Graph.aC), (xF aG aF.Graph.aB), (xF aI aF.Places)]), (.c (iC 1048576))] _ _ [] _ _ _ _ (TY aF 1048576 r1 hr1) rfl Ls (.cons (.agg (.cons (.same rfl) (.cons (.same rfl) (.cons (.same rfl) .nil)))) (.cons (.c (.same rfl)) .nil)) rfl rfl trivial) ⟨rfl, rfl, rfl, trivial⟩ trivial rfl rfl ?_
 refine dw (Iv r1) rfl rfl rfl rfl ?_
 refine On (Ws (Ws (Wr ?_)))
 refine mv (Iv r1) rfl rfl rfl rfl ?_
 refine dF (LT.lss rfl) rfl ⟨rfl, rfl⟩ rfl rfl ?_
 refine On ?_
 refine aA.cond rfl (fun hc2 => ?_) (fun hc2 => ?_)
 ·refine Ws ?_
  refine en [] [] trivial trivial ?_
  refine Wr ?_
  refine dw (Bv true) rfl ⟨rfl, rfl⟩ rfl rfl ?_
  refine On ?_
  refine aA.ret (dm.mk (.inr rfl) ⟨rfl, trivial⟩ trivial rfl ⟨aX.sc, trivial⟩ trivial)
 ·refine aA.skip (Ws ?_)
  refine en [(1, (Cc (.pl 21 0)))] [(21, (.row 53 [[(iC aF.Graph.aC), (xF aG aF.Graph.aB), (xF aI aF.Places)]]))] ⟨rfl, trivial⟩ ⟨rfl, trivial⟩ ?_
  refine Wr ?_
  refine eY (LT.kV (out:=[(iC aF.Graph.aC), (xF aG aF.Graph.aB), (xF aI aF.Places)]) rfl wI (gB xM) qj (by exact rfl) (by exact rfl)) rfl rfl rfl rfl ?_
  refine ay fun r3 hr3 => ?_
  refine aS.step (@LT.iR Try.prog _ _ 32 _ _ [(.agg [(iC aF.Graph.aC), (xF aG aF.Graph.aB), (xF aI aF.Places)])] _ _ [] _ _ _ _ ((show Fw.Fn Try.prog 32 [(.agg [(iC aF.Graph.aC), (xF aG aF.Graph.aB), (xF aI aF.Places)])] [] (Ag  [(iC r3.Graph.aC), (lo 24 r3.Graph.aB.length), (lo 25 r3.Places.length)]) [(24, (pR 96 aG r3.Graph.aB)), (25, (pR 82 aI r3.Places))] [] [24, 25] from Fw.Fn.ren [(0, 24), (1, 25)] (BL aF r3 hr3) rfl)) rfl zS (.cons (.agg (.cons (.same rfl) (.cons (.same rfl) (.cons (.same rfl) .nil)))) .nil) rfl rfl trivial) ⟨rfl, rfl, trivial⟩ trivial rfl rfl ?_
  refine ay fun r4 hr4 => ?_
  refine aS.step (@LT.iR Try.prog _ _ 31 _ _ [(.agg [(iC r3.Graph.aC), (lo 24 r3.Graph.aB.length), (lo 25 r3.Places.length)])] _ _ [(24, (pR 96 aG r3.Graph.aB)), (25, (pR 82 aI r3.Places))] _ _ _ _ ((show Fw.Fn Try.prog 31 [(.agg [(iC r3.Graph.aC), (xF aG r3.Graph.aB), (xF aI r3.Places)])] [] (.bV [(.c (lo 27 r4.1.length)), (.c (bC r4.2))]) [(27, (pR 29 (bW true) r4.1))] [] [27] from Fw.Fn.ren [(0, 27)] (UB r3 r4 hr4) rfl)) rfl Lu (.cons (.agg (.cons (.same rfl) (.cons (.iZ rfl rfl) (.cons (.iZ rfl rfl) .nil)))) .nil) rfl rfl trivial) ⟨rfl, rfl, trivial⟩ ⟨rfl, rfl, trivial⟩ rfl rfl ?_
  refine mv (.bV [(.c (lo 27 r4.1.length)), (.c (bC r4.2))]) rfl rfl rfl rfl ?_
  refine aT (LT.extract (v:=(.c (lo 27 r4.1.length))) rfl (by exact rfl)) rfl rfl rfl ?_
  refine aT (LT.extract (v:=(.c (bC r4.2))) rfl (by exact rfl)) rfl rfl rfl ?_
  refine dw (Cc (lo 27 r4.1.length)) rfl rfl rfl rfl ?_
  refine dw (Bv r4.2) rfl rfl rfl rfl ?_
  refine On (Ws ?_)
  refine en [(1, (Cc (.pl 21 0))), (4, (Cc (lo 27 r4.1.length))), (5, (Bv r4.2))] [(21, (.row 53 [[(iC aF.Graph.aC), (xF aG aF.Graph.aB), (xF aI aF.Places)]])), (27, (pR 29 (bW true) r4.1))] ⟨rfl, rfl, rfl, trivial⟩ ⟨rfl, rfl, trivial⟩ ?_
  refine Wr ?_
  refine eY (LT.kV (out:=[(iC aF.Graph.aC), (xF aG aF.Graph.aB), (xF aI aF.Places)]) rfl wI (gB xM) qj (by exact rfl) (by exact rfl)) rfl rfl rfl rfl ?_
  refine ay fun r5 xH => ?_
  refine aS.step (@LT.iR Try.prog _ _ 32 _ _ [(.agg [(iC aF.Graph.aC), (xF aG aF.Graph.aB), (xF aI aF.Places)])] _ _ [] _ _ _ _ ((show Fw.Fn Try.prog 32 [(.agg [(iC aF.Graph.aC), (xF aG aF.Graph.aB), (xF aI aF.Places)])] [] (Ag  [(iC r5.Graph.aC), (lo 29 r5.Graph.aB.length), (lo 30 r5.Places.length)]) [(29, (pR 96 aG r5.Graph.aB)), (30, (pR 82 aI r5.Places))] [] [29, 30] from Fw.Fn.ren [(0, 29), (1, 30)] (BL aF r5 xH) rfl)) rfl zS (.cons (.agg (.cons (.same rfl) (.cons (.same rfl) (.cons (.same rfl) .nil)))) .nil) rfl rfl trivial) ⟨rfl, rfl, trivial⟩ trivial rfl rfl ?_
  refine oP (LT.alloc (n:=31) (cells:=[(iC 0), (sC fU), (sC fU)]) rfl ku rfl rfl rfl) rfl rfl ?_
  refine gJ (LT.tX (v:=(.agg [(iC r5.Graph.aC), (lo 29 r5.Graph.aB.length), (lo 30 r5.Places.length)])) (out:=[(iC r5.Graph.aC), (lo 29 r5.Graph.aB.length), (lo 30 r5.Places.length)]) rfl rfl (gB fG) dI (by exact rfl) (by exact Nat.le_of_ble_eq_true rfl) (by exact rfl)) rfl rfl rfl rfl rfl ?_
  refine On (Ws (Wr ?_))
  refine eY (LT.kV (out:=[(iC r5.Graph.aC), (lo 29 r5.Graph.aB.length), (lo 30 r5.Places.length)]) rfl gX (gB fG) dI (by exact rfl) (by exact rfl)) rfl rfl rfl rfl ?_
  refine ay fun r6 xI => ?_
  refine aS.step (@LT.iR Try.prog _ _ 33 _ _ [(.agg [(iC r5.Graph.aC), (lo 29 r5.Graph.aB.length), (lo 30 r5.Places.length)])] _ _ [] _ _ _ _ ((show Fw.Fn Try.prog 33 [(.agg [(iC r5.Graph.aC), (lo 29 r5.Graph.aB.length), (lo 30 r5.Places.length)])] [(29, (pR 96 aG r5.Graph.aB)), (30, (pR 82 aI r5.Places))] (.bV [(.c (lo 33 r6.1.length)), (.c (bC r6.2.1))]) [(29, (pR 96 aG r6.2.2.1)), (30, (pR 82 aI r6.2.2.2)), (33, (.ax 29 50 51 (bQ r6.1))), (50, (.pool 96 (rowsOf aG (cO r6.1)))), (51, (.pool 82 (rowsOf aI (dD r6.1))))] [29, 30] [33, 50, 51] from Fw.Fn.ren [(0, 29), (1, 30), (2, 33), (3, 50), (4, 51)] (Iq r5 r6 xI) rfl)) rfl Fg (.cons (.agg (.cons (.same rfl) (.cons (.same rfl) (.cons (.same rfl) .nil)))) .nil) rfl rfl ⟨rfl, rfl, trivial⟩) ⟨rfl, rfl, trivial⟩ ⟨rfl, rfl, trivial⟩ rfl rfl ?_
  refine mv (.bV [(.c (lo 33 r6.1.length)), (.c (bC r6.2.1))]) rfl rfl rfl rfl ?_
  refine aT (LT.extract (v:=(.c (lo 33 r6.1.length))) rfl (by exact rfl)) rfl rfl rfl ?_
  refine aT (LT.extract (v:=(.c (bC r6.2.1))) rfl (by exact rfl)) rfl rfl rfl ?_
  refine dw (Cc (lo 33 r6.1.length)) rfl rfl rfl rfl ?_
  refine dw (Bv r6.2.1) rfl rfl rfl rfl ?_
  refine On (Ws (Ws ?_))
  refine aA.iU (fun j9 => ([(1, (Cc (.pl 21 0))), (4, (Cc (lo 27 r4.1.length))), (5, (Bv r4.2)), (6, (Cc (.pl 31 0))), (7, (Cc (lo 33 r6.1.length))), (8, (Bv r6.2.1)), (40, (Bv j9))], [(21, (.row 53 [[(iC aF.Graph.aC), (xF aG aF.Graph.aB), (xF aI aF.Places)]])), (27, (pR 29 (bW true) r4.1)), (29, (pR 96 aG r6.2.2.1)), (30, (pR 82 aI r6.2.2.2)), (31, (.row 29 [[(iC r5.Graph.aC), (lo 29 r6.2.2.1.length), (lo 30 r6.2.2.2.length)]])), (33, (.ax 29 50 51 (bQ r6.1))), (50, (.pool 96 (rowsOf aG (cO r6.1)))), (51, (.pool 82 (rowsOf aI (dD r6.1))))])) ?_ (fun j9 _ => ?_)
  ·refine en [(1, (Cc (.pl 21 0))), (4, (Cc (lo 27 r4.1.length))), (5, (Bv r4.2)), (6, (Cc (.pl 31 0))), (7, (Cc (lo 33 r6.1.length))), (8, (Bv r6.2.1))] [(21, (.row 53 [[(iC aF.Graph.aC), (xF aG aF.Graph.aB), (xF aI aF.Places)]])), (27, (pR 29 (bW true) r4.1)), (29, (pR 96 aG r6.2.2.1)), (30, (pR 82 aI r6.2.2.2)), (31, (.row 29 [[(iC r5.Graph.aC), (lo 29 r5.Graph.aB.length), (lo 30 r5.Places.length)]])), (33, (.ax 29 50 51 (bQ r6.1))), (50, (.pool 96 (rowsOf aG (cO r6.1)))), (51, (.pool 82 (rowsOf aI (dD r6.1))))] ⟨rfl, rfl, rfl, rfl, rfl, rfl, trivial⟩ ⟨rfl, rfl, rfl, rfl, rfl, rfl, rfl, rfl, trivial⟩ ?_
   refine Wr ?_
   refine mv (Cc (lo 33 r6.1.length)) rfl rfl rfl rfl ?_
   refine mv (Cc (lo 27 r4.1.length)) rfl rfl rfl rfl ?_
   refine ay fun r10 Oy => ?_
   refine aS.pure (@LT.iR Try.prog _ _ 34 _ _ [(.c (lo 33 r6.1.length)), (.c (lo 27 r4.1.length))] _ _ [(33, (.ax 29 50 51 (bQ r6.1))), (50, (.pool 96 (rowsOf aG (cO r6.1)))), (51, (.pool 82 (rowsOf aI (dD r6.1)))), (27, (pR 29 (bW true) r4.1))] _ _ _ _ (Ew r6.1 r4.1 r10 Oy) rfl Ba (.cons (.c (gW.wR (pt:=fun f => f.Graph.aC) (ba:=fun f => f.Graph.aB) (pl:=fun f => f.Places) (enc1:=aG) (enc2:=aI) (oh:=bW false) (xs:=r6.1) rfl rfl rfl rfl rfl rfl rfl (fun _ => rfl))) (.cons (.c (.weak (.iZ (enc:=bW true) rfl rfl) (QW.zI ER (fun h => h) _))) .nil)) rfl rfl trivial) ⟨rfl, rfl, rfl, trivial⟩ ⟨rfl, rfl, rfl, rfl, trivial⟩ rfl rfl ?_
   refine aT (LT.not rfl) rfl rfl rfl ?_
   refine mv (Bv (!r10)) rfl rfl rfl rfl ?_
   refine aS.split (fun ou => ?_) (fun ou => ?_)
   ·refine Ok rfl rfl rfl (by rw [ou]; rfl) rfl ?_
    refine Ok rfl rfl rfl (by rw [ou]; rfl) rfl ?_
    refine Ok rfl rfl rfl (by rw [ou]; rfl) rfl ?_
    refine dF (LT.mQ (v:=(Bv true)) rfl ou) rfl ⟨rfl, rfl⟩ rfl rfl ?_
    refine On ?_
    refine aA.bind fun u12 PG => ?_
    refine aA.bind fun u13 PI => ?_
    refine aA.nil ⟨rfl, aU.of ⟨rfl, rfl, rfl, rfl, rfl, rfl, rfl, trivial⟩ ⟨rfl, rfl, rfl, rfl, (congr (congrArg (fun l1 l2 => (some (Ob.row 29 [[(iC r5.Graph.aC), (lo 29 l1), (lo 30 l2)]]):Option Ob)) (same_eq PG)) (same_eq PI)), rfl, rfl, rfl, trivial⟩⟩
   ·refine mv (Bv r6.2.1) rfl rfl ⟨_, rfl, .inl ⟨_, rfl, (by rw [ou]; rfl)⟩⟩ rfl ?_
    refine mv (Bv r4.2) rfl rfl ⟨_, rfl, .inl ⟨_, rfl, (by rw [ou]; rfl)⟩⟩ rfl ?_
    refine dF (LT.ED rfl Ej) rfl rfl ⟨_, rfl, .inl ⟨_, rfl, (by rw [ou]; rfl)⟩⟩ rfl ?_
    refine dF (LT.nT (v:=(Bv (r6.2.1 != r4.2))) rfl ou) rfl rfl rfl rfl ?_
    refine On ?_
    refine aA.bind fun u14 Df => ?_
    refine aA.bind fun u15 PK => ?_
    refine aA.nil ⟨rfl, aU.of ⟨rfl, rfl, rfl, rfl, rfl, rfl, rfl, trivial⟩ ⟨rfl, rfl, rfl, rfl, (congr (congrArg (fun l1 l2 => (some (Ob.row 29 [[(iC r5.Graph.aC), (lo 29 l1), (lo 30 l2)]]):Option Ob)) (same_eq Df)) (same_eq PK)), rfl, rfl, rfl, trivial⟩⟩
  ·refine aA.cond rfl (fun hc16 => ?_) (fun hc16 => ?_)
   ·refine Ws (Wr ?_)
    refine dw (Bv false) rfl ⟨rfl, rfl⟩ rfl rfl ?_
    refine On ?_
    refine aA.ret (dm.mk (.inr rfl) ⟨rfl, trivial⟩ trivial rfl ⟨aX.sc, trivial⟩ trivial)
   ·refine aA.skip (Ws (Ws (aA.draw mixed ?_)))
    refine gV (LT.kV (out:=[(iC r5.Graph.aC), (lo 29 r6.2.2.1.length), (lo 30 r6.2.2.2.length)]) rfl gX (gB fG) dI (by exact rfl) (by exact rfl)) rfl rfl rfl rfl ?_
    refine gV (LT.kV (out:=[(iC aF.Graph.aC), (xF aG aF.Graph.aB), (xF aI aF.Places)]) rfl wI (gB xM) qj (by exact rfl) (by exact rfl)) rfl rfl rfl rfl ?_
    refine aP.bind fun eu nO => ?_
    refine aP.step (@LT.iR Try.prog _ _ 32 _ _ [(.agg [(iC aF.Graph.aC), (xF aG aF.Graph.aB), (xF aI aF.Places)])] _ _ [] _ _ _ _ ((show Fw.Fn Try.prog 32 [(.agg [(iC aF.Graph.aC), (xF aG aF.Graph.aB), (xF aI aF.Places)])] [] (Ag  [(iC eu.Graph.aC), (lo 36 eu.Graph.aB.length), (lo 37 eu.Places.length)]) [(36, (pR 96 aG eu.Graph.aB)), (37, (pR 82 aI eu.Places))] [] [36, 37] from Fw.Fn.ren [(0, 36), (1, 37)] (BL aF eu nO) rfl)) rfl zS (.cons (.agg (.cons (.same rfl) (.cons (.same rfl) (.cons (.same rfl) .nil)))) .nil) rfl rfl trivial) ⟨rfl, rfl, trivial⟩ trivial rfl rfl ?_
    refine aP.bind fun kG xG => ?_
    refine aP.pure (@LT.iR Try.prog _ _ 35 _ _ [(.agg [(iC r5.Graph.aC), (lo 29 r6.2.2.1.length), (lo 30 r6.2.2.2.length)]), (.agg [(iC eu.Graph.aC), (lo 36 eu.Graph.aB.length), (lo 37 eu.Places.length)])] _ _ [(29, (pR 96 aG r6.2.2.1)), (30, (pR 82 aI r6.2.2.2)), (36, (pR 96 aG eu.Graph.aB)), (37, (pR 82 aI eu.Places))] _ _ _ _ (KA (aH.mk (au.mk r5.Graph.aC r6.2.2.1) r6.2.2.2) eu kG xG) rfl Fh (.cons (.agg (.cons (.same rfl) (.cons (.iZ rfl rfl) (.cons (.iZ rfl rfl) .nil)))) (.cons (.agg (.cons (.same rfl) (.cons (.iZ rfl rfl) (.cons (.iZ rfl rfl) .nil)))) .nil)) rfl rfl trivial) ⟨rfl, rfl, rfl, trivial⟩ ⟨rfl, rfl, rfl, rfl, trivial⟩ rfl rfl ?_
    refine bT (LT.not rfl) rfl rfl rfl ?_
    refine aP.nil (by kernel_rfl) ?_
    refine aA.cond rfl (fun hc19 => ?_) (fun hc19 => ?_)
    ·refine Ws (Wr ?_)
     refine dw (Bv false) rfl ⟨rfl, rfl⟩ rfl rfl ?_
     refine On ?_
     refine aA.ret (dm.mk (.inr rfl) ⟨rfl, trivial⟩ trivial rfl ⟨aX.sc, trivial⟩ trivial)
    ·refine aA.skip (Ws (Wr ?_))
     refine dw (Iv 1) rfl ⟨rfl, rfl⟩ rfl rfl ?_
     refine On (Ws (Wr ?_))
     refine eY (LT.kV (out:=[(iC r5.Graph.aC), (lo 29 r6.2.2.1.length), (lo 30 r6.2.2.2.length)]) rfl gX (gB fG) dI (by exact rfl) (by exact rfl)) rfl rfl rfl rfl ?_
     refine mv (Iv 1) rfl rfl rfl rfl ?_
     refine ay fun oK Oz => ?_
     refine aS.step (@LT.iR Try.prog _ _ 36 _ _ [(.agg [(iC r5.Graph.aC), (lo 29 r6.2.2.1.length), (lo 30 r6.2.2.2.length)]), (.c (iC 1))] _ _ [] _ _ _ _ ((show Fw.Fn Try.prog 36 [(.agg [(iC r5.Graph.aC), (lo 29 r6.2.2.1.length), (lo 30 r6.2.2.2.length)]), (.c (iC 1))] [(29, (pR 96 aG r6.2.2.1)), (30, (pR 82 aI r6.2.2.2))] (Iv oK.1) [(29, (pR 96 aG oK.2.1)), (30, (pR 82 aI oK.2.2))] [29, 30] [] from Fw.Fn.ren [(0, 29), (1, 30)] (TT (aH.mk (au.mk r5.Graph.aC r6.2.2.1) r6.2.2.2) 1 oK Oz) rfl)) rfl L6 (.cons (.agg (.cons (.same rfl) (.cons (.same rfl) (.cons (.same rfl) .nil)))) (.cons (.c (.same rfl)) .nil)) rfl rfl ⟨rfl, rfl, trivial⟩) ⟨rfl, rfl, rfl, trivial⟩ ⟨rfl, rfl, trivial⟩ rfl rfl ?_
     refine dw (Iv oK.1) rfl rfl rfl rfl ?_
     refine On (Ws (Ws ?_))
     refine aA.iU (fun j24 => ([(1, (Cc (.pl 21 0))), (4, (Cc (lo 27 r4.1.length))), (5, (Bv r4.2)), (7, (Cc (lo 33 r6.1.length))), (61, (Bv j24))], [(21, (.row 53 [[(iC aF.Graph.aC), (xF aG aF.Graph.aB), (xF aI aF.Places)]])), (27, (pR 29 (bW true) r4.1)), (33, (.ax 29 50 51 (bQ r6.1))), (50, (.pool 96 (rowsOf aG (cO r6.1)))), (51, (.pool 82 (rowsOf aI (dD r6.1))))])) ?_ (fun j24 _ => ?_)
     ·refine en [(1, (Cc (.pl 21 0))), (4, (Cc (lo 27 r4.1.length))), (5, (Bv r4.2)), (7, (Cc (lo 33 r6.1.length))), (8, (Bv r6.2.1)), (9, (Iv oK.1))] [(21, (.row 53 [[(iC aF.Graph.aC), (xF aG aF.Graph.aB), (xF aI aF.Places)]])), (27, (pR 29 (bW true) r4.1)), (33, (.ax 29 50 51 (bQ r6.1))), (50, (.pool 96 (rowsOf aG (cO r6.1)))), (51, (.pool 82 (rowsOf aI (dD r6.1))))] ⟨rfl, rfl, rfl, rfl, rfl, rfl, trivial⟩ ⟨rfl, rfl, rfl, rfl, rfl, trivial⟩ ?_
      refine Wr ?_
      refine mv (Iv oK.1) rfl rfl rfl rfl ?_
      refine dF (LT.lss rfl) rfl ⟨rfl, rfl⟩ rfl rfl ?_
      refine mv (Bv (decide (oK.1 < 0))) rfl rfl rfl rfl ?_
      refine aS.split (fun nM => ?_) (fun nM => ?_)
      ·refine Ok rfl rfl rfl (by rw [nM]; rfl) rfl ?_
       refine Ok rfl rfl rfl (by rw [nM]; rfl) rfl ?_
       refine Ok rfl rfl rfl (by rw [nM]; rfl) rfl ?_
       refine Ok rfl rfl rfl (by rw [nM]; rfl) rfl ?_
       refine dF (LT.mQ (v:=(Bv true)) rfl nM) rfl ⟨rfl, rfl⟩ rfl rfl ?_
       refine mv (Bv true) rfl rfl rfl rfl ?_
       refine Ok rfl rfl rfl rfl rfl ?_
       refine Ok rfl rfl rfl rfl rfl ?_
       refine Ok rfl rfl rfl rfl rfl ?_
       refine dF (LT.mQ (v:=(Bv true)) rfl rfl) rfl ⟨rfl, rfl⟩ rfl rfl ?_
       refine On ?_
       refine aA.nil ⟨rfl, aU.of ⟨rfl, rfl, rfl, rfl, rfl, trivial⟩ ⟨rfl, rfl, rfl, rfl, rfl, trivial⟩⟩
      ·refine mv (Cc (lo 33 r6.1.length)) rfl rfl ⟨_, rfl, .inl ⟨_, rfl, (by rw [nM]; rfl)⟩⟩ rfl ?_
       refine mv (Cc (lo 27 r4.1.length)) rfl rfl ⟨_, rfl, .inl ⟨_, rfl, (by rw [nM]; rfl)⟩⟩ rfl ?_
       refine ay fun zF O3 => ?_
       refine aS.pure (@LT.iR Try.prog _ _ 34 _ _ [(.c (lo 33 r6.1.length)), (.c (lo 27 r4.1.length))] _ _ [(33, (.ax 29 50 51 (bQ r6.1))), (50, (.pool 96 (rowsOf aG (cO r6.1)))), (51, (.pool 82 (rowsOf aI (dD r6.1)))), (27, (pR 29 (bW true) r4.1))] _ _ _ _ (Ew r6.1 r4.1 zF O3) rfl Ba (.cons (.c (gW.wR (pt:=fun f => f.Graph.aC) (ba:=fun f => f.Graph.aB) (pl:=fun f => f.Places) (enc1:=aG) (enc2:=aI) (oh:=bW false) (xs:=r6.1) rfl rfl rfl rfl rfl rfl rfl (fun _ => rfl))) (.cons (.c (.weak (.iZ (enc:=bW true) rfl rfl) (QW.zI ER (fun h => h) _))) .nil)) rfl rfl trivial) ⟨rfl, rfl, rfl, trivial⟩ ⟨rfl, rfl, rfl, rfl, trivial⟩ ⟨_, rfl, .inl ⟨_, rfl, (by rw [nM]; rfl)⟩⟩ rfl ?_
       refine aT (LT.not rfl) rfl ⟨_, rfl, .inl ⟨_, rfl, (by rw [nM]; rfl)⟩⟩ rfl ?_
       refine dF (LT.nT (v:=(Bv (!zF))) rfl nM) rfl rfl rfl rfl ?_
       refine mv (Bv (!zF)) rfl rfl rfl rfl ?_
       refine aS.split (fun oz => ?_) (fun oz => ?_)
       ·refine Ok rfl rfl rfl (by rw [oz]; rfl) rfl ?_
        refine Ok rfl rfl rfl (by rw [oz]; rfl) rfl ?_
        refine Ok rfl rfl rfl (by rw [oz]; rfl) rfl ?_
        refine dF (LT.mQ (v:=(Bv true)) rfl oz) rfl ⟨rfl, rfl⟩ rfl rfl ?_
        refine On ?_
        refine aA.nil ⟨rfl, aU.of ⟨rfl, rfl, rfl, rfl, rfl, trivial⟩ ⟨rfl, rfl, rfl, rfl, rfl, trivial⟩⟩
       ·refine mv (Bv r6.2.1) rfl rfl ⟨_, rfl, .inl ⟨_, rfl, (by rw [oz]; rfl)⟩⟩ rfl ?_
        refine mv (Bv r4.2) rfl rfl ⟨_, rfl, .inl ⟨_, rfl, (by rw [oz]; rfl)⟩⟩ rfl ?_
        refine dF (LT.ED rfl Ej) rfl rfl ⟨_, rfl, .inl ⟨_, rfl, (by rw [oz]; rfl)⟩⟩ rfl ?_
        refine dF (LT.nT (v:=(Bv (r6.2.1 != r4.2))) rfl oz) rfl rfl rfl rfl ?_
        refine On ?_
        refine aA.nil ⟨rfl, aU.of ⟨rfl, rfl, rfl, rfl, rfl, trivial⟩ ⟨rfl, rfl, rfl, rfl, rfl, trivial⟩⟩
     ·refine aA.cond rfl (fun hc28 => ?_) (fun hc28 => ?_)
      ·refine Ws (Wr ?_)
       refine dw (Bv false) rfl ⟨rfl, rfl⟩ rfl rfl ?_
       refine On ?_
       refine aA.ret (dm.mk (.inr rfl) ⟨rfl, trivial⟩ trivial rfl ⟨aX.sc, trivial⟩ trivial)
      ·refine aA.skip (Ws (Wr ?_))
       refine dw (Iv 1) rfl ⟨rfl, rfl⟩ rfl rfl ?_
       refine On (Ws (Wr ?_))
       refine mv (Cc (lo 33 r6.1.length)) rfl rfl rfl rfl ?_
       refine mv (Iv 1) rfl rfl rfl rfl ?_
       refine ay fun dZ DR => ?_
       refine aS.step (@LT.iR Try.prog _ _ 37 _ _ [(.c (lo 33 r6.1.length)), (.c (iC 1))] _ _ [] _ _ _ _ ((show Fw.Fn Try.prog 37 [(.c (lo 33 r6.1.length)), (.c (iC 1))] [(33, (.ax 29 50 51 (bQ r6.1))), (50, (.pool 96 (rowsOf aG (cO r6.1)))), (51, (.pool 82 (rowsOf aI (dD r6.1))))] (Iv dZ.1) [(33, (.ax 29 50 51 (bQ dZ.2))), (50, (.pool 96 (rowsOf aG (cO dZ.2)))), (51, (.pool 82 (rowsOf aI (dD dZ.2))))] [33, 50, 51] [] from Fw.Fn.ren [(0, 33), (1, 50), (2, 51)] (Qx r6.1 1 dZ DR) rfl)) rfl L8 (.cons (.c (.same rfl)) (.cons (.c (.same rfl)) .nil)) rfl rfl ⟨rfl, rfl, rfl, trivial⟩) ⟨rfl, rfl, rfl, trivial⟩ ⟨rfl, rfl, rfl, trivial⟩ rfl rfl ?_
       refine dw (Iv dZ.1) rfl rfl rfl rfl ?_
       refine On (Ws (Wr ?_))
       refine dw (Iv 1) rfl ⟨rfl, rfl⟩ rfl rfl ?_
       refine On (Ws (Wr ?_))
       refine mv (Cc (lo 33 r6.1.length)) rfl rfl rfl rfl ?_
       refine mv (Iv 1) rfl rfl rfl rfl ?_
       refine ay fun u30 PL => ?_
       refine ay fun qZ O5 => ?_
       refine aS.pure (@LT.iR Try.prog _ _ 38 _ _ [(.c (lo 33 r6.1.length)), (.c (iC 1))] _ _ [(33, (.ax 29 50 51 (bQ dZ.2))), (50, (.pool 96 (rowsOf aG (cO dZ.2)))), (51, (.pool 82 (rowsOf aI (dD dZ.2))))] _ _ _ _ (KC dZ.2 1 qZ O5) rfl Fj (.cons (.c (gW.wR (pt:=fun f => f.Graph.aC) (ba:=fun f => f.Graph.aB) (pl:=fun f => f.Places) (enc1:=aG) (enc2:=aI) (oh:=bW false) (xs:=dZ.2) (same_eq PL) rfl rfl rfl rfl rfl rfl (fun _ => rfl))) (.cons (.c (.same rfl)) .nil)) rfl rfl trivial) ⟨rfl, rfl, rfl, trivial⟩ ⟨rfl, rfl, rfl, trivial⟩ rfl rfl ?_
       refine dw (Iv qZ) rfl rfl rfl rfl ?_
       refine On (Ws (Ws ?_))
       refine en [(1, (Cc (.pl 21 0))), (4, (Cc (lo 27 r4.1.length))), (5, (Bv r4.2)), (7, (Cc (lo 33 r6.1.length))), (10, (Iv dZ.1)), (11, (Iv qZ))] [(21, (.row 53 [[(iC aF.Graph.aC), (xF aG aF.Graph.aB), (xF aI aF.Places)]])), (27, (pR 29 (bW true) r4.1)), (33, (.ax 29 50 51 (bQ dZ.2))), (50, (.pool 96 (rowsOf aG (cO dZ.2)))), (51, (.pool 82 (rowsOf aI (dD dZ.2))))] ⟨rfl, rfl, rfl, rfl, rfl, rfl, trivial⟩ ⟨rfl, rfl, rfl, rfl, rfl, trivial⟩ ?_
       refine Wr ?_
       refine mv (Iv qZ) rfl rfl rfl rfl ?_
       refine dF (LT.lss rfl) rfl ⟨rfl, rfl⟩ rfl rfl ?_
       refine On ?_
       refine aA.cond rfl (fun hc32 => ?_) (fun hc32 => ?_)
       ·refine Ws (Wr ?_)
        refine dw (Bv false) rfl ⟨rfl, rfl⟩ rfl rfl ?_
        refine On ?_
        refine aA.ret (dm.mk (.inr rfl) ⟨rfl, trivial⟩ trivial rfl ⟨aX.sc, trivial⟩ trivial)
       ·refine aA.skip (Ws (Ws (Wr ?_)))
        refine mv (Iv qZ) rfl rfl rfl rfl ?_
        refine mv (Iv dZ.1) rfl rfl rfl rfl ?_
        refine dF (LT.neq rfl) rfl rfl rfl rfl ?_
        refine On ?_
        refine aA.cond rfl (fun OH => ?_) (fun OH => ?_)
        ·refine Ws (Wr ?_)
         refine dw (Bv false) rfl ⟨rfl, rfl⟩ rfl rfl ?_
         refine On ?_
         refine aA.ret (dm.mk (.inr rfl) ⟨rfl, trivial⟩ trivial rfl ⟨aX.sc, trivial⟩ trivial)
        ·refine aA.skip (Ws (Wr ?_))
         refine eY (LT.kV (out:=[(iC aF.Graph.aC), (xF aG aF.Graph.aB), (xF aI aF.Places)]) rfl wI (gB xM) qj (by exact rfl) (by exact rfl)) rfl rfl rfl rfl ?_
         refine ay fun kH O6 => ?_
         refine aS.step (@LT.iR Try.prog _ _ 32 _ _ [(.agg [(iC aF.Graph.aC), (xF aG aF.Graph.aB), (xF aI aF.Places)])] _ _ [] _ _ _ _ ((show Fw.Fn Try.prog 32 [(.agg [(iC aF.Graph.aC), (xF aG aF.Graph.aB), (xF aI aF.Places)])] [] (Ag  [(iC kH.Graph.aC), (lo 44 kH.Graph.aB.length), (lo 45 kH.Places.length)]) [(44, (pR 96 aG kH.Graph.aB)), (45, (pR 82 aI kH.Places))] [] [44, 45] from Fw.Fn.ren [(0, 44), (1, 45)] (BL aF kH O6) rfl)) rfl zS (.cons (.agg (.cons (.same rfl) (.cons (.same rfl) (.cons (.same rfl) .nil)))) .nil) rfl rfl trivial) ⟨rfl, rfl, trivial⟩ trivial rfl rfl ?_
         refine ay fun gZ O7 => ?_
         refine aS.step (@LT.iR Try.prog _ _ 33 _ _ [(.agg [(iC kH.Graph.aC), (lo 44 kH.Graph.aB.length), (lo 45 kH.Places.length)])] _ _ [] _ _ _ _ ((show Fw.Fn Try.prog 33 [(.agg [(iC kH.Graph.aC), (lo 44 kH.Graph.aB.length), (lo 45 kH.Places.length)])] [(44, (pR 96 aG kH.Graph.aB)), (45, (pR 82 aI kH.Places))] (.bV [(.c (lo 47 gZ.1.length)), (.c (bC gZ.2.1))]) [(44, (pR 96 aG gZ.2.2.1)), (45, (pR 82 aI gZ.2.2.2)), (47, (.ax 29 52 53 (bQ gZ.1))), (52, (.pool 96 (rowsOf aG (cO gZ.1)))), (53, (.pool 82 (rowsOf aI (dD gZ.1))))] [44, 45] [47, 52, 53] from Fw.Fn.ren [(0, 44), (1, 45), (2, 47), (3, 52), (4, 53)] (Iq kH gZ O7) rfl)) rfl Fg (.cons (.agg (.cons (.same rfl) (.cons (.same rfl) (.cons (.same rfl) .nil)))) .nil) rfl rfl ⟨rfl, rfl, trivial⟩) ⟨rfl, rfl, trivial⟩ ⟨rfl, rfl, trivial⟩ rfl rfl ?_
         refine mv (.bV [(.c (lo 47 gZ.1.length)), (.c (bC gZ.2.1))]) rfl rfl rfl rfl ?_
         refine aT (LT.extract (v:=(.c (lo 47 gZ.1.length))) rfl (by exact rfl)) rfl rfl rfl ?_
         refine aT (LT.extract (v:=(.c (bC gZ.2.1))) rfl (by exact rfl)) rfl rfl rfl ?_
         refine dw (Cc (lo 47 gZ.1.length)) rfl rfl rfl rfl ?_
         refine dw (Bv gZ.2.1) rfl rfl rfl rfl ?_
         refine On (Ws (Ws ?_))
         refine aA.iU (fun j38 => ([(7, (Cc (lo 33 dZ.2.length))), (10, (Iv dZ.1)), (87, (Bv j38))], [(33, (.ax 29 50 51 (bQ dZ.2))), (50, (.pool 96 (rowsOf aG (cO dZ.2)))), (51, (.pool 82 (rowsOf aI (dD dZ.2))))])) ?_ (fun j38 _ => ?_)
         ·refine en [(4, (Cc (lo 27 r4.1.length))), (5, (Bv r4.2)), (7, (Cc (lo 33 r6.1.length))), (10, (Iv dZ.1)), (12, (Cc (lo 47 gZ.1.length))), (13, (Bv gZ.2.1))] [(27, (pR 29 (bW true) r4.1)), (33, (.ax 29 50 51 (bQ dZ.2))), (50, (.pool 96 (rowsOf aG (cO dZ.2)))), (51, (.pool 82 (rowsOf aI (dD dZ.2)))), (47, (.ax 29 52 53 (bQ gZ.1))), (52, (.pool 96 (rowsOf aG (cO gZ.1)))), (53, (.pool 82 (rowsOf aI (dD gZ.1))))] ⟨rfl, rfl, rfl, rfl, rfl, rfl, trivial⟩ ⟨rfl, rfl, rfl, rfl, rfl, rfl, rfl, trivial⟩ ?_
          refine Wr ?_
          refine mv (Cc (lo 47 gZ.1.length)) rfl rfl rfl rfl ?_
          refine mv (Cc (lo 27 r4.1.length)) rfl rfl rfl rfl ?_
          refine ay fun qc DT => ?_
          refine aS.pure (@LT.iR Try.prog _ _ 34 _ _ [(.c (lo 47 gZ.1.length)), (.c (lo 27 r4.1.length))] _ _ [(47, (.ax 29 52 53 (bQ gZ.1))), (52, (.pool 96 (rowsOf aG (cO gZ.1)))), (53, (.pool 82 (rowsOf aI (dD gZ.1)))), (27, (pR 29 (bW true) r4.1))] _ _ _ _ (Ew gZ.1 r4.1 qc DT) rfl Ba (.cons (.c (gW.wR (pt:=fun f => f.Graph.aC) (ba:=fun f => f.Graph.aB) (pl:=fun f => f.Places) (enc1:=aG) (enc2:=aI) (oh:=bW false) (xs:=gZ.1) rfl rfl rfl rfl rfl rfl rfl (fun _ => rfl))) (.cons (.c (.weak (.iZ (enc:=bW true) rfl rfl) (QW.zI ER (fun h => h) _))) .nil)) rfl rfl trivial) ⟨rfl, rfl, rfl, trivial⟩ ⟨rfl, rfl, rfl, rfl, trivial⟩ rfl rfl ?_
          refine aT (LT.not rfl) rfl rfl rfl ?_
          refine mv (Bv (!qc)) rfl rfl rfl rfl ?_
          refine aS.split (fun o6 => ?_) (fun o6 => ?_)
          ·refine Ok rfl rfl rfl (by rw [o6]; rfl) rfl ?_
           refine Ok rfl rfl rfl (by rw [o6]; rfl) rfl ?_
           refine Ok rfl rfl rfl (by rw [o6]; rfl) rfl ?_
           refine dF (LT.mQ (v:=(Bv true)) rfl o6) rfl ⟨rfl, rfl⟩ rfl rfl ?_
           refine On ?_
           refine aA.bind fun Si PO => ?_
           refine aA.nil ⟨rfl, aU.of ⟨(congrArg (fun l1 => (some (AV.s (.c (lo 33 l1))):Option AV)) (same_eq PO)), rfl, rfl, trivial⟩ ⟨rfl, rfl, rfl, trivial⟩⟩
          ·refine mv (Bv gZ.2.1) rfl rfl ⟨_, rfl, .inl ⟨_, rfl, (by rw [o6]; rfl)⟩⟩ rfl ?_
           refine mv (Bv r4.2) rfl rfl ⟨_, rfl, .inl ⟨_, rfl, (by rw [o6]; rfl)⟩⟩ rfl ?_
           refine dF (LT.ED rfl Ej) rfl rfl ⟨_, rfl, .inl ⟨_, rfl, (by rw [o6]; rfl)⟩⟩ rfl ?_
           refine dF (LT.nT (v:=(Bv (gZ.2.1 != r4.2))) rfl o6) rfl rfl rfl rfl ?_
           refine On ?_
           refine aA.bind fun u42 Di => ?_
           refine aA.nil ⟨rfl, aU.of ⟨(congrArg (fun l1 => (some (AV.s (.c (lo 33 l1))):Option AV)) (same_eq Di)), rfl, rfl, trivial⟩ ⟨rfl, rfl, rfl, trivial⟩⟩
         ·refine aA.cond rfl (fun OJ => ?_) (fun OJ => ?_)
          ·refine Ws (Wr ?_)
           refine dw (Bv false) rfl ⟨rfl, rfl⟩ rfl rfl ?_
           refine On ?_
           refine aA.ret (dm.mk (.inr rfl) ⟨rfl, trivial⟩ trivial rfl ⟨aX.sc, trivial⟩ trivial)
          ·refine aA.skip (Ws (Wr ?_))
           refine dw (Iv 1) rfl ⟨rfl, rfl⟩ rfl rfl ?_
           refine On (Ws (Wr ?_))
           refine mv (Cc (lo 33 dZ.2.length)) rfl rfl rfl rfl ?_
           refine mv (Iv 1) rfl rfl rfl rfl ?_
           refine ay fun sH O8 => ?_
           refine aS.pure (@LT.iR Try.prog _ _ 38 _ _ [(.c (lo 33 dZ.2.length)), (.c (iC 1))] _ _ [(33, (.ax 29 50 51 (bQ dZ.2))), (50, (.pool 96 (rowsOf aG (cO dZ.2)))), (51, (.pool 82 (rowsOf aI (dD dZ.2))))] _ _ _ _ (KC dZ.2 1 sH O8) rfl Fj (.cons (.c (gW.wR (pt:=fun f => f.Graph.aC) (ba:=fun f => f.Graph.aB) (pl:=fun f => f.Places) (enc1:=aG) (enc2:=aI) (oh:=bW false) (xs:=dZ.2) rfl rfl rfl rfl rfl rfl rfl (fun _ => rfl))) (.cons (.c (.same rfl)) .nil)) rfl rfl trivial) ⟨rfl, rfl, rfl, trivial⟩ ⟨rfl, rfl, rfl, trivial⟩ rfl rfl ?_
           refine dw (Iv sH) rfl rfl rfl rfl ?_
           refine On (Ws (Ws (Wr ?_)))
           refine mv (Iv sH) rfl rfl rfl rfl ?_
           refine dF (LT.lss rfl) rfl ⟨rfl, rfl⟩ rfl rfl ?_
           refine On ?_
           refine aA.cond rfl (fun OL => ?_) (fun OL => ?_)
           ·refine Ws (Wr ?_)
            refine dw (Bv false) rfl ⟨rfl, rfl⟩ rfl rfl ?_
            refine On ?_
            refine aA.ret (dm.mk (.inr rfl) ⟨rfl, trivial⟩ trivial rfl ⟨aX.sc, trivial⟩ trivial)
           ·refine aA.skip (Ws (Ws (Wr ?_)))
            refine mv (Iv sH) rfl rfl rfl rfl ?_
            refine mv (Iv dZ.1) rfl rfl rfl rfl ?_
            refine dF (LT.neq rfl) rfl rfl rfl rfl ?_
            refine On ?_
            refine aA.cond rfl (fun OM => ?_) (fun OM => ?_)
            ·refine Ws (Wr ?_)
             refine dw (Bv false) rfl ⟨rfl, rfl⟩ rfl rfl ?_
             refine On ?_
             refine aA.ret (dm.mk (.inr rfl) ⟨rfl, trivial⟩ trivial rfl ⟨aX.sc, trivial⟩ trivial)
            ·refine aA.skip (Ws (Wr ?_))
             refine dw (Bv true) rfl ⟨rfl, rfl⟩ rfl rfl ?_
             refine On ?_
             refine aA.ret (dm.mk (.inr rfl) ⟨rfl, trivial⟩ trivial rfl ⟨aX.sc, trivial⟩ trivial)
def gy (a:List aH) (b:Int):Nat → Int
  | 0 => b
  | k + 1 => gy a b k + match a[k]? with
    | some f => 1 + 2 * (f.Graph.aB.length:Int) + 2 * (f.Places.length:Int)
    | none => 0
def zh (a:List aH) (b:Int) (k:Nat):aH:=match a[k]? with
  | some f => ⟨⟨gy a b k, jH (gy a b k + 1) f.Graph.aB.length⟩, jQ (gy a b k + 1 + 2 * (f.Graph.aB.length:Int)) f.Places.length⟩
  | none => ⟨⟨0, []⟩, []⟩
def kR (a:List aH) (b:Int) (n:Nat):List aH:=(List.range n).map (zh a b)
theorem oq (a:List aH) (b:Int) (n:Nat):(kR a b n).length = n:=by simp [kR]
theorem NY {a:List aH} {b:Int} {n k:Nat} (h:k < n):(kR a b n)[k]? = some (zh a b k):=by simp [kR, h]
structure wC (a:List aH):Prop where
  len:a.length ≤ 1000
  b:∀ x ∈ a, x.Graph.aB.length ≤ 100
  p:∀ x ∈ a, x.Places.length ≤ 100
theorem CS {a:List aH} {b:Int} {k:Nat} (h:k < a.length):gy a b (k + 1) = gy a b k + (1 + 2 * (a[k].Graph.aB.length:Int) + 2 * (a[k].Places.length:Int)):=by
  show gy a b k + _ = _
  rw [List.getElem?_eq_getElem h]
theorem zo {a:List aH} (ha:wC a):∀ k, k ≤ a.length → 1 ≤ gy a 1 k ∧ gy a 1 k ≤ 1 + 500 * (k:Int)
  | 0, _ => ⟨Int.le_refl _, by show (1:Int) ≤ _; omega⟩
  | k + 1, h => by
    have hx:=List.getElem_mem (show k < a.length by omega)
    have h1:=ha.b _ hx
    have h2:=ha.p _ hx
    have ih:=zo ha k (by omega)
    rw [CS (by omega)]
    omega
theorem Gl {a:List aH} {b:Int} {k:Nat} (h:k < a.length):zh a b k = ⟨⟨gy a b k, jH (gy a b k + 1) a[k].Graph.aB.length⟩, jQ (gy a b k + 1 + 2 * (a[k].Graph.aB.length:Int)) a[k].Places.length⟩:=by
  unfold zh
  rw [List.getElem?_eq_getElem h]
theorem Qc {a:List aH} (ha:wC a):yE a 1 = some (gy a 1 a.length, kR a 1 a.length):=by
  have hlen:=ha.len
  have e:bY uz BIG (1, 0, a) = some (gy a 1 a.length, kR a 1 a.length):=by
    refine lg (fun (k:Nat) => (gy a 1 k, (k:Int), kR a 1 k ++ a.drop k)) a.length (by omega) (by simp [kR, gy]) (fun k hk => ?_) (by simp [uz, oq])
    have hx:=List.getElem_mem hk
    have h1:=ha.b _ hx
    have h2:=ha.p _ hx
    have hp:=zo ha k (by omega)
    have hl:(kR a 1 k ++ a.drop k).length = a.length:=by simp [oq]; omega
    have hi:idx (kR a 1 k ++ a.drop k) (k:Int) = some a[k]:=by
      apply jP
      rw [List.getElem?_append_right (by simp [oq]), oq, Nat.sub_self, List.getElem?_drop, Nat.add_zero, List.getElem?_eq_getElem hk]
    have hset:∀ x, (kR a 1 k ++ a.drop k).set k x = kR a 1 k ++ (x :: a.drop (k + 1)):=fun x => by
      rw [List.set_append_right _ _ (by simp [oq]), oq, Nat.sub_self, List.drop_eq_getElem_cons hk, List.set_cons_zero]
    simp only [uz, hi, Option.bind_some, jA (n:=gy a 1 k + 1) (by omega) (by omega), IY a[k].Graph.aB (by show _ ≤ _; omega) (gy a 1 k + 1) ⟨by omega, by omega⟩, lm, IZ a[k].Places (by show _ ≤ _; omega) (gy a 1 k + 1 + 2 * (a[k].Graph.aB.length:Int)) ⟨by omega, by omega⟩, lq, EW, Int.toNat_natCast, hset, lC (show k ≤ 1099511627776 by omega)]
    rw [decide_eq_true (by rw [hl]; omega), cond_true, CS hk, ← Gl hk]
    congr 3
    · omega
    · congr 1
      simp [kR, List.range_succ]
  unfold yE
  rw [e]
  rfl
theorem Oc {a:List aH} (ha:wC a):um (kR a 1 a.length) 1 = some (gy a 1 a.length):=by
  have hlen:=ha.len
  have e:bY (uo (kR a 1 a.length)) BIG (1, 0) = some (.inl (gy a 1 a.length)):=by
    refine lg (fun (k:Nat) => (gy a 1 k, (k:Int))) a.length (by omega) rfl (fun k hk => ?_) (by simp [uo, oq])
    have hx:=List.getElem_mem hk
    have h1:=ha.b _ hx
    have h2:=ha.p _ hx
    have hp:=zo ha k (by omega)
    have hi:idx (kR a 1 a.length) (k:Int) = some ⟨⟨gy a 1 k, jH (gy a 1 k + 1) a[k].Graph.aB.length⟩, jQ (gy a 1 k + 1 + 2 * (a[k].Graph.aB.length:Int)) a[k].Places.length⟩:=by
      rw [jP (NY hk), Gl hk]
    simp only [uo, oq, hi, Option.bind_some, bne_self_eq_false, cond_false, jA (n:=gy a 1 k + 1) (by omega) (by omega), Oa a[k].Graph.aB.length (by show _ ≤ _; omega) (gy a 1 k + 1) ⟨by omega, by omega⟩, Oe a[k].Places.length (by show _ ≤ _; omega) (gy a 1 k + 1 + 2 * (a[k].Graph.aB.length:Int)) ⟨by omega, by omega⟩, lC (show k ≤ 1099511627776 by omega)]
    rw [decide_eq_true (by omega), cond_true, decide_eq_false (by omega), cond_false, decide_eq_false (by omega), cond_false, CS hk]
    congr 3
    omega
  unfold um
  rw [e]
  rfl
theorem ND {a:List aH} (ha:wC a):rY a a = some true:=by
  have hlen:=ha.len
  unfold rY
  rw [Bf a.length (by omega) (fun k hk => ?_) (by simp [xu] <;> rfl)]
  · simp
  · have hx:=List.getElem_mem hk
    have h1:=ha.b _ hx
    have h2:=ha.p _ hx
    simp only [xu, lZ hk, GN a[k] (by show _ ≤ _; omega) (by show _ ≤ _; omega), Option.bind_some]
    rw [decide_eq_true (by omega)]
    simp
theorem NU (f:aH):wC (others f).1:=by
  have hs:=I9 f
  refine ⟨by omega, fun x hx => ?_, fun x hx => ?_⟩
  · obtain ⟨h1, h2, h3, _⟩:=I8 hx
    have:=(tY h1).1.len
    rw [h2]
    omega
  · obtain ⟨h1, h2, h3, _⟩:=I8 hx
    have h4:=(tY h1).2
    have h5:=(tY h1).1.kD
    omega
theorem QV (aF:aH) {p0:Prop} (_:p0) (l0:aF.Graph.aB.length ≤ 1048576) (l1:aF.Places.length ≤ 1048576):AU aF = some true:=by
  have s0:SM aF.Graph.aB.length:=by show _ ≤ _; omega
  have s1:SM aF.Places.length:=by show _ ≤ _; omega
  have hF:=NU aF
  have hp:=zo hF (others aF).1.length (Nat.le_refl _)
  have hs:=I9 aF
  unfold AU
  obtain ⟨z0, e0⟩:=SE aF 1048576
  rw [e0, Option.bind_some]
  cases decide (z0 < 0)
  rotate_left
  · rfl
  simp only [cond_false]
  simp only [SN aF s0 s1, RD s0 s1, Q9 s0 s1, Option.bind_some, ND hF, Bool.not_true, cond_false, EW, bne_self_eq_false, show aH.mk (au.mk aF.Graph.aC aF.Graph.aB) aF.Places = aF from rfl, GN aF s0 s1, Qd aF s0 s1 1 (by omega) (by omega), decide_eq_false (show ¬ (1 + 2 * (aF.Graph.aB.length:Int) + 2 * (aF.Places.length:Int)) < 0 by omega), Qc hF, oq, Oc hF, decide_eq_false (show ¬ gy (others aF).1 1 (others aF).1.length < 0 by omega)]
end Go.Proofs.Ytdmlaldifbmkpaa
end
section
namespace Go.Fw
open Go.ChangeShapes Go.WideShapes Go.ChangeAt Go.RowKit
open Go.Proofs.Ytdmlaldifbmkpaa (Rows.uptoBulk Rows.uptoBulkAll)
abbrev nZ (W:World):Nat → Prop:=fun b => b < W.heap.size
abbrev ni:Nat → Prop:=fun _ => False
abbrev wV:Nat → GS:=fun _ => .dead
def Opn {α:Type} (P:Program) (t:TypeId) (s:Nat) (enc:α → List PV) (wt:α → Nat) (ok:α → Prop):Prop :=
 ∀ (H:Type) (e:TypeId × Value → H) (W:World) (base:Nat) (spare:Nat → Bool) (held:Bool) (fuel:Nat) (cs:List Value) (x:DataW H × List MemPlace),DataW.trod e P W base spare held fuel t cs = some x →
  ∃ a:α,ok a ∧ wt a ≤ Go.Proofs.Ytdmlaldifbmkpaa.Rows.uptoBulk x.1 ∧ cs.length = s ∧ (enc a).length = s ∧ ∀ (k:Nat) p,(enc a)[k]? = some p → ∃ u,cs[k]? = some u ∧ eH W ni (nZ W) p u
def okI (n:Int):Prop:=-9223372036854775808 ≤ n ∧ n ≤ 9223372036854775807
def EK {α:Type} (ok:α → Prop) (xs:List α):Prop:=∀ x ∈ xs,ok x
def nY (_:Int):Nat:=1
def pq {α:Type} (wt:α → Nat) (xs:List α):Nat:=(xs.map wt).sum + 1
section
variable {P:Program}
theorem one1 {p q:PV} {cs:List Value} {v:Value} {W:World} (hcs:cs = [v]) (h:eH W ni (nZ W) p v):∀ (k:Nat) r,[p][k]? = some r → ∃ u,cs[k]? = some u ∧ eH W ni (nZ W) r u:=fun k r hk => by
 subst hcs
 cases k with
 | zero => simp at hk; subst hk; exact ⟨v,rfl,h⟩
 | succ k => simp at hk
theorem Opn.int {t:TypeId} (ht:P.underlying t = some (.int .i64)):Opn P t 1 (fun n:Int => [.sc (.int .i64 n)]) nY okI:=fun H e W base spare held fuel cs x h => by
 obtain ⟨n,rfl,rfl,hw⟩:=DataW.trod_int ht h
 refine ⟨n,?_,by simp [nY,Go.Proofs.Ytdmlaldifbmkpaa.Rows.uptoBulk],rfl,rfl,one1 (q:=.sc (.int .i64 n)) rfl (.sc rfl)⟩
 simp [Lit.wf,IntKind.min,IntKind.max,IntKind.signed,IntKind.bits] at hw
 exact ⟨by omega,by omega⟩
theorem IG {α:Type} {p:Nat → α → Prop}:∀ n:Nat,(∀ i,i < n → ∃ a,p i a) → ∃ xs:List α,xs.length = n ∧ ∀ (i:Nat) a,xs[i]? = some a → p i a
 | 0,_ => ⟨[],rfl,fun i a h => by simp at h⟩
 | n + 1,h => by
  obtain ⟨xs,h1,h2⟩:=IG n fun i hi => h i (by omega)
  obtain ⟨a,ha⟩:=h n (by omega)
  refine ⟨xs ++ [a],by simp [h1],fun i b hb => ?_⟩
  rw [List.getElem?_append] at hb
  split at hb
  ·exact h2 i b hb
  ·rename_i hn
   have hi:i - xs.length = 0:=by
    have:=(List.getElem?_eq_some_iff.1 hb).1
    simp at this
    omega
   rw [hi] at hb
   simp at hb
   subst hb
   have:i = n:=by omega
   subst this
   exact ha
theorem FX {α:Type} {H:Type} {wt:α → Nat} {D:Nat → DataW H}:∀ (xs:List α) (k:Nat),(∀ (i:Nat) a,xs[i]? = some a → wt a ≤ Go.Proofs.Ytdmlaldifbmkpaa.Rows.uptoBulk (D (k + i))) →
  (xs.map wt).sum ≤ Go.Proofs.Ytdmlaldifbmkpaa.Rows.uptoBulkAll ((List.range' k xs.length).map D)
 | [],_,_ => by simp [Go.Proofs.Ytdmlaldifbmkpaa.Rows.uptoBulkAll]
 | a :: r,k,h => by
  have h0:=h 0 a rfl
  have ih:=FX r (k + 1) fun i b hb => by
   have:=h (i + 1) b (by simpa using hb)
   rwa [show k + 1 + i = k + (i + 1) by omega]
  rw [Nat.add_zero] at h0
  simp only [List.map_cons,List.sum_cons,List.length_cons,List.range'_succ,Go.Proofs.Ytdmlaldifbmkpaa.Rows.uptoBulkAll]
  omega
theorem cell_lt {w:World} {a:Addr} {v:Value} (h:w.cell? a = some v):a.block < w.heap.size:=by
 unfold World.cell? at h
 cases hb:w.heap[a.block]? with
 | none => rw [hb] at h; simp at h
 | some o => exact (Array.getElem?_eq_some_iff.1 hb).1
theorem Opn.slice {α:Type} {t e:TypeId} {s:Nat} {enc:α → List PV} {wt:α → Nat} {ok:α → Prop} (ht:P.underlying t = some (.slice e)) (hs:P.cellsOf e = s) (hs0:0 < s) (he:Opn P e s enc wt ok) :
  Opn P t 1 (fun xs:List α => [.xs false (xs.map enc)]) (pq wt) (EK ok):=fun H en W base spare held fuel cs x h => by
 rcases Go.Deep.open_slice ht h with ⟨rfl,rfl⟩ | ⟨a,len,cap,m,n,D,Pl,rfl,hb,hl,hm,hmm,rfl,hi⟩
 ·refine ⟨[],?_,?_,rfl,rfl,one1 (q:=.xs false []) rfl .emp⟩
  ·intro x hx; cases hx
  ·simp [pq,Go.Proofs.Ytdmlaldifbmkpaa.Rows.uptoBulk]
 ·have hml:len ≤ m:=by rw [hmm]; split <;> omega
  obtain ⟨xs,hxl,hx⟩:=IG (p:=fun i (b:α) => ok b ∧ wt b ≤ Go.Proofs.Ytdmlaldifbmkpaa.Rows.uptoBulk (D i) ∧ (enc b).length = s ∧ ∀ (k:Nat) p,(enc b)[k]? = some p → ∃ u,W.cell? (a.add (i * s + k)) = some u ∧ eH W ni (nZ W) p u) len (fun i hil => by
   obtain ⟨cs',hc,htr⟩:=hi i (by omega)
   obtain ⟨b,h1,h2,h3,h4,h5⟩:=he _ _ _ _ _ _ _ _ _ htr
   obtain ⟨_,hcl,hat⟩:=World.cells?_some hc
   refine ⟨b,h1,h2,h4,fun k p hk => ?_⟩
   obtain ⟨u,hu,hr⟩:=h5 k p hk
   refine ⟨u,?_,hr⟩
   have hks:k < s:=by rw [← h4]; exact (List.getElem?_eq_some_iff.1 hk).1
   have:=hat k (by rw [hs]; exact hks)
   rw [add_add,hs] at this
   rw [this]
   exact hu)
  refine ⟨xs,fun b hb => ?_,?_,rfl,rfl,one1 (q:=.sc undef) rfl ?_⟩
  ·obtain ⟨i,hib⟩:=List.getElem?_of_mem hb
   exact (hx i b hib).1
  ·have:=FX (wt:=wt) (D:=D) xs 0 (fun i b hb => by rw [Nat.zero_add]; exact (hx i b hb).2.1)
   simp only [pq,Go.Proofs.Ytdmlaldifbmkpaa.Rows.uptoBulk]
   rw [hxl,← List.range_eq_range'] at this
   omega
  ·cases hxs:xs with
   | nil =>
    have:len = 0:=by rw [← hxl,hxs]; rfl
    subst this
    exact .emp
   | cons b r =>
    rw [← hxs]
    have hget:∀ (j k:Nat) cs p,(xs.map enc)[j]? = some cs → cs[k]? = some p → ∃ u,W.cell? (a.add (j * s + k)) = some u ∧ eH W ni (nZ W) p u:=fun j k cs p hj hk => by
     rw [List.getElem?_map] at hj
     cases DC:xs[j]? with
     | none => rw [DC] at hj; cases hj
     | some c =>
      rw [DC] at hj
      injection hj with hj
      subst hj
      exact (hx j c DC).2.2.2 k p hk
    refine .xs (s:=s) (fun j k => (W.cell? (a.add (j * s + k))).getD undef) (by simp [hxl]) ?_ (by simp [hxl]; exact hl) (fun cs hcs => ?_) (fun j k cs p hj hk => ?_) (fun j k cs p hj hk => ?_)
    ·have h0:=hx 0 b (by rw [hxs]; rfl)
     have hlt:0 < (enc b).length:=by rw [h0.2.2.1]; exact hs0
     obtain ⟨u,hu,_⟩:=h0.2.2.2 0 (enc b)[0] (List.getElem?_eq_getElem hlt)
     have:=cell_lt hu
     rw [add_block] at this
     exact this
    ·obtain ⟨c,hc,rfl⟩:=List.mem_map.1 hcs
     obtain ⟨i,hic⟩:=List.getElem?_of_mem hc
     exact (hx i c hic).2.2.1
    ·obtain ⟨u,hu,_⟩:=hget j k cs p hj hk
     rw [hu]; rfl
    ·obtain ⟨u,hu,hr⟩:=hget j k cs p hj hk
     rw [hu]
     exact hr
def st2 (P:Program) (t:TypeId):Option (Nat × Nat × Nat × Nat):=match P.underlying t with
 | some (.struct fs) => match fs.toList with
  | [f0,f1] => some (f0.type,f0.offset,f1.type,f1.offset)
  | _ => none
 | _ => none
theorem Opn.BG {α β γ:Type} {t t1 t2:TypeId} {s1 s2:Nat} {enc1:α → List PV} {enc2:β → List PV} {enc:γ → List PV} {KI:α → Nat} {KN:β → Nat} {wt:γ → Nat} {ok1:α → Prop} {ok2:β → Prop} {ok:γ → Prop} (mk:α → β → γ)
  (ht:st2 P t = some (t1,0,t2,s1)) (hc:P.cellsOf t = s1 + s2) (hc1:P.cellsOf t1 = s1) (hc2:P.cellsOf t2 = s2) (h1:Opn P t1 s1 enc1 KI ok1) (h2:Opn P t2 s2 enc2 KN ok2)
  (he:∀ a b,enc (mk a b) = enc1 a ++ enc2 b) (hw:∀ a b,wt (mk a b) = KI a + KN b) (ho:∀ a b,ok1 a → ok2 b → ok (mk a b)):Opn P t (s1 + s2) enc wt ok:=fun H e W base spare held fuel cs x h => by
 unfold st2 at ht
 split at ht
 ·rename_i fs hfs
  split at ht
  ·rename_i f0 f1 hfl
   obtain ⟨l⟩:=fs
   simp only at hfl
   subst hfl
   simp only [Option.some.injEq,Prod.mk.injEq] at ht
   obtain ⟨rfl,ho0,rfl,ho1⟩:=ht
   obtain ⟨y0,y1,n,rfl,hl,h3,h4⟩:=Go.ChangeShapes.trod_struct2 hfs h
   rw [ho0,hc1] at h3
   rw [ho1,hc2] at h4
   obtain ⟨a,a1,a2,a3,a4,a5⟩:=h1 _ _ _ _ _ _ _ _ _ h3
   obtain ⟨b,b1,b2,b3,b4,b5⟩:=h2 _ _ _ _ _ _ _ _ _ h4
   refine ⟨mk a b,ho a b a1 b1,?_,by rw [hl,hc],by rw [he,List.length_append,a4,b4],fun k p hk => ?_⟩
   ·rw [hw]
    simp only [Go.Proofs.Ytdmlaldifbmkpaa.Rows.uptoBulk,Go.Proofs.Ytdmlaldifbmkpaa.Rows.uptoBulkAll]
    omega
   ·rw [he,List.getElem?_append] at hk
    split at hk
    ·rename_i hlt
     rw [a4] at hlt
     obtain ⟨u,hu,hr⟩:=a5 k p hk
     refine ⟨u,?_,hr⟩
     rw [List.getElem?_take,if_pos hlt,List.drop_zero] at hu
     exact hu
    ·rename_i hlt
     rw [a4] at hlt hk
     obtain ⟨u,hu,hr⟩:=b5 _ p hk
     refine ⟨u,?_,hr⟩
     rw [List.getElem?_take] at hu
     split at hu
     ·rw [List.getElem?_drop] at hu
      rwa [show s1 + (k - s1) = k by omega] at hu
     ·cases hu
  ·cases ht
 ·cases ht
theorem IC {α:Type} {wt:α → Nat} (h:∀ x,1 ≤ wt x) (xs:List α):xs.length ≤ pq wt xs:=by
 unfold pq
 induction xs with
 | nil => simp
 | cons x r ih =>
  have:=h x
  simp only [List.map_cons,List.sum_cons,List.length_cons] at ih ⊢
  omega
theorem Opn.Kv {α:Type} {t:TypeId} {s:Nat} {enc:α → List PV} {wt:α → Nat} {ok:α → Prop} (h:Opn P t s enc wt ok) {H:Type} {e:TypeId × Value → H} {W:World} {sp:Nat → Bool} {v:Value} {d:DataW H} {ps:List MemPlace}
  (hv:∃ cs:Array Value,v = .agg cs) (hd:DataW.Trod e P W 0 sp true t v d ps):∃ a:α,ok a ∧ wt a ≤ Go.Proofs.Ytdmlaldifbmkpaa.Rows.uptoBulk d ∧ RS P W ni (nZ W) wV (.agg ((enc a).map .pv)) v:=by
 obtain ⟨cs,rfl⟩:=hv
 obtain ⟨fuel,hf⟩:=hd
 obtain ⟨a,h1,h2,h3,h4,h5⟩:=h _ _ _ _ _ _ _ _ _ hf
 refine ⟨a,h1,h2,cs.toList,by simp,by rw [List.length_map,h4]; simpa [Value.cells] using h3,fun k x hk => ?_⟩
 rw [List.getElem?_map] at hk
 cases hp:(enc a)[k]? with
 | none => rw [hp] at hk; cases hk
 | some p =>
  rw [hp] at hk
  injection hk with hk
  subst hk
  obtain ⟨u,hu,hr⟩:=h5 k p hp
  exact ⟨u,by simpa [Value.cells] using hu,hr.oneCell,hr⟩
def tC (P:Program) (W:World):List SV → List Value → Prop
 | [],[] => True
 | x :: xs,v :: vs => RS P W ni (nZ W) wV x v ∧ tC P W xs vs
 | _,_ => False
theorem tC.spec {W:World}:∀ {xs:List SV} {vs:List Value},tC P W xs vs → vs.length = xs.length ∧ ∀ (k:Nat) x,xs[k]? = some x → ∃ u,vs[k]? = some u ∧ RS P W ni (nZ W) wV x u
 | [],[],_ => ⟨rfl,fun k x hk => by simp at hk⟩
 | [],_ :: _,h => h.elim
 | _ :: _,[],h => h.elim
 | x :: xs,v :: vs,h => by
  obtain ⟨h1,h2⟩:=tC.spec h.2
  refine ⟨by simp [h1],fun k y hk => ?_⟩
  cases k with
  | zero => simp at hk; subst hk; exact ⟨v,rfl,h.1⟩
  | succ k => exact h2 k y (by simpa using hk)
theorem Fn.called {f:FuncId} {xs:List SV} (hf:Fw.Fn P f xs [] (.s (.c (bC true))) [] [] []) {W:World} {args:Array Value} (ha:tC P W xs args.toList):Calls P f args W fun e W' => e = .returned (.bool true) ∧ Below W.heap.size W W':=by
 obtain ⟨h1,h2⟩:=ha.spec
 have hw:WF ni (nZ W) wV W:=⟨fun b hb => hb.elim,fun b hb => hb,fun n b hg => hg.elim,fun n m b hg => hg.elim,fun n j k b h => (by cases h)⟩
 have:=hf ni (nZ W) wV W args.toList hw h1 h2 (fun p hp => by cases hp)
 rw [show args.toList.toArray = args from by simp] at this
 refine this.mono fun e W' hp => ?_
 obtain ⟨u,R',B',g',rfl,had,_,hv,_⟩:=hp
 have hu:u = .bool true:=by
  obtain ⟨_,h3⟩:=hv
  cases h3
  rfl
 subst hu
 exact ⟨rfl,had.os,had.tape,had.output,had.size,fun k hk => had.heap k hk fun n hn => by cases hn⟩
theorem Jw {H:Type} {e:TypeId × Value → H} (hl:laidOutB P = true) {W W':World} {sp:Nat → Bool} (hb:Below W.heap.size W W'):∀ {ts:List TypeId} {vs:List Value} {ds:List (DataW H)} {ps:List MemPlace},(ts.all fun t => P.readableRec t && decide (t < P.types.size)) = true →
  DataW.TrodAll e P W 0 (fun _ => true) true ts vs ds ps → (∀ p ∈ ps,p.block < W.heap.size) → (∀ p ∈ ps,sp p.block = true) → DataW.TrodAll e P W' 0 sp true ts vs ds ps
 | [],[],[],_,_,h,_,_ => h
 | t :: ts,v :: vs,d :: ds,ps,hr,h,hlt,hs => by
  obtain ⟨p,q,h1,h2,rfl⟩:=h
  simp only [List.all_cons,Bool.and_eq_true,decide_eq_true_eq] at hr
  exact ⟨p,q,Go.WideElems.Trod_stays hl hr.1.1 hr.1.2 h1 (fun x hx => hb.same (hlt x (List.mem_append_left _ hx))) (fun x hx => hs x (List.mem_append_left _ hx)),Jw hl hb hr.2 h2 (fun x hx => hlt x (List.mem_append_right _ hx)) (fun x hx => hs x (List.mem_append_right _ hx)),rfl⟩
 | [],[],_ :: _,_,_,h,_,_ => h.elim
 | [],_ :: _,_,_,_,h,_,_ => h.elim
 | _ :: _,[],_,_,_,h,_,_ => h.elim
 | _ :: _,_ :: _,[],_,_,h,_,_ => h.elim
theorem RG {H:Type} {e:TypeId × Value → H} {f:Func} {s:ChangeSpec} {apart handsOn again:Bool} {fresh:Bool} {W W':World} {args:Array Value} {ds gs:List (DataW H)} {before:List MemPlace} {tb:TypeId} (hW:DataW.Whole e P f.params.toList s.vars apart W args.toList ds gs before) (hl:laidOutB P = true)
  (hr:(f.params.toList.all fun t => P.readableRec t && decide (t < P.types.size)) = true) (hb:Below W.heap.size W W') (hv:s.vars = []) (hf:s.fn H ds = { results:=[.lit (.bool true)],args:=ds }) (hrt:f.resultTypes = #[tb]) (htb:P.underlying tb = some .bool) :
  s.post e P f apart fresh handsOn again W args (.bool true) W':=by
 have hlt:∀ p ∈ before,p.block < W.heap.size:=fun p hp => hW.lt p hp
 have hW0:=hW
 obtain ⟨p,q,hA,hV,hpq,hz,hn⟩:=hW
 rw [hv] at hV
 obtain ⟨rfl,rfl⟩:gs = [] ∧ q = []:=by
  cases gs with
  | nil => exact ⟨rfl,hV⟩
  | cons _ _ => exact hV.elim
 rw [List.append_nil] at hpq
 subst hpq
 have hargs:∀ sp:Nat → Bool,(∀ p ∈ before,sp p.block = true) → DataW.TrodAll e P W' 0 sp true f.params.toList args.toList ds before:=fun sp hs => Jw hl hb hr hA hlt hs
 have hres:∀ (b:Nat) (sp:Nat → Bool) (hd:Bool),DataW.TrodAll e P W' b sp hd f.resultTypes.toList ((Value.bool true).resultList f.resultTypes.size) [.lit (.bool true)] []:=fun b sp hd => by
  rw [hrt]
  exact ⟨[],[],shut_bool htb _,rfl,rfl⟩
 have hfd:s.fn H (ds ++ []) = { results:=[.lit (.bool true)],args:=ds }:=by rw [List.append_nil]; exact hf
 have hold:∀ p ∈ before,(fun b => decide (b < W.heap.size)) p.block = true:=fun p hp => by simpa using hlt p hp
 have hvs:∀ sp:Nat → Bool,DataW.TrodVars e P W' sp s.vars [] []:=fun sp => by rw [hv]; rfl
 refine ⟨ds,[],before,[],before,[],hW0,?_,?_,?_,World.keptBut_mono (fun p hp => ⟨hp,?_⟩) (hb.frame (· ∈ before)),fun _ => ?_⟩
 ·rw [hfd]; exact hres _ _ _
 ·rw [hfd]; exact hargs _ hold
 ·rw [hfd]; exact hvs _
 ·exact Or.inr (Or.inl hp)
 ·refine ⟨ok_one hrt rfl (okWide_bool_mk htb _),?_⟩
  ·refine ⟨_,_,([] ++ before) ++ [],⟨[] ++ before,[],trodAll_append (hargs _ (fun _ _ => rfl)) (hres _ _ _),hvs _,rfl,?_,?_⟩,?_⟩
   ·intro b off hp
    have hin:MemPlace.cell b off ∈ before:=by simpa using hp
    rw [hb.frozen (hlt _ hin)]
    exact hz b off hin
   ·intro ha
    simpa using hn ha
   ·intro p hp _
    simpa using hp
end
end Go.Fw
end
section
open Go Go.Fw
open Go.ChangeShapes Go.WideShapes Go.ChangeAt Go.RowKit
namespace Go.Proofs.Ytdmlaldifbmkpaa
theorem Il:Try.prog.cellsOf 145 = 2:=by kernel_rfl
theorem Io:Try.prog.cellsOf 150 = 2:=by kernel_rfl
theorem y9:Try.prog.cellsOf 3 = 1:=by kernel_rfl
theorem Ql:Try.prog.cellsOf 48 = 1:=by kernel_rfl
theorem Ip:Try.prog.cellsOf 50 = 2:=by kernel_rfl
theorem Qm:Try.prog.cellsOf 51 = 1:=by kernel_rfl
theorem Qn:Try.prog.cellsOf 53 = 3:=by kernel_rfl
theorem Qo:st2 Try.prog 145 = some (3, 0, 3, 1):=by kernel_rfl
theorem Qp:st2 Try.prog 150 = some (3, 0, 3, 1):=by kernel_rfl
theorem Qq:st2 Try.prog 50 = some (3, 0, 48, 1):=by kernel_rfl
theorem Qr:st2 Try.prog 53 = some (50, 0, 51, 2):=by kernel_rfl
theorem zA:Try.prog.underlying 3 = some (.int .i64):=by kernel_rfl
theorem Qs:Try.prog.underlying 48 = some (.slice 150):=by kernel_rfl
theorem Qu:Try.prog.underlying 51 = some (.slice 145):=by kernel_rfl
theorem Qv:Try.prog.underlying 53 = some (.struct (Try.prog.fieldsOf 53)):=by kernel_rfl
def GH (a:aQ):List PV:=[.sc (.int .i64 a.A), .sc (.int .i64 a.B)]
def sS (a:aQ):Nat:=nY a.A + nY a.B
def Iz (a:aQ):Prop:=okI a.A ∧ okI a.B
theorem Q5:Opn Try.prog 150 2 GH sS Iz:=Opn.BG (enc1:=(fun n:Int => [.sc (.int .i64 n)])) (enc2:=(fun n:Int => [.sc (.int .i64 n)])) aQ.mk Qp Io y9 y9 (Opn.int zA) (Opn.int zA) (fun _ _ => rfl) (fun _ _ => rfl) (fun _ _ h1 h2 => ⟨h1, h2⟩)
def GI (a:au):List PV:=[.sc (.int .i64 a.aC), .xs false (a.aB.map aG)]
def vz (a:au):Nat:=nY a.aC + (pq sS) a.aB
def I4 (a:au):Prop:=okI a.aC ∧ (EK Iz) a.aB
theorem Q7:Opn Try.prog 50 2 GI vz I4:=Opn.BG (enc1:=(fun n:Int => [.sc (.int .i64 n)])) (enc2:=(fun xs => [.xs false (xs.map GH)])) au.mk Qq Ip y9 Ql (Opn.int zA) (Opn.slice Qs Io (by decide) Q5) (fun _ _ => rfl) (fun _ _ => rfl) (fun _ _ h1 h2 => ⟨h1, h2⟩)
def GK (a:aO):List PV:=[.sc (.int .i64 a.X), .sc (.int .i64 a.Y)]
def sU (a:aO):Nat:=nY a.X + nY a.Y
def I5 (a:aO):Prop:=okI a.X ∧ okI a.Y
theorem Qz:Opn Try.prog 145 2 GK sU I5:=Opn.BG (enc1:=(fun n:Int => [.sc (.int .i64 n)])) (enc2:=(fun n:Int => [.sc (.int .i64 n)])) aO.mk Qo Il y9 y9 (Opn.int zA) (Opn.int zA) (fun _ _ => rfl) (fun _ _ => rfl) (fun _ _ h1 h2 => ⟨h1, h2⟩)
def MZ (a:aH):List PV:=[.sc (.int .i64 a.Graph.aC), .xs false (a.Graph.aB.map aG), .xs false (a.Places.map aI)]
def vw (a:aH):Nat:=vz a.Graph + (pq sU) a.Places
def Qy (a:aH):Prop:=I4 a.Graph ∧ (EK I5) a.Places
theorem Q8:Opn Try.prog 53 3 MZ vw Qy:=Opn.BG (enc1:=GI) (enc2:=(fun xs => [.xs false (xs.map GK)])) aH.mk Qr Qn Ip Qm Q7 (Opn.slice Qu Il (by decide) Qz) (fun _ _ => rfl) (fun _ _ => rfl) (fun _ _ h1 h2 => ⟨h1, h2⟩)
end Go.Proofs.Ytdmlaldifbmkpaa
end
