/- Parts of a proof that a law of the program holds: what the program computes, and why that is right. -/
import Derived.Test.YtghofbijdnenoaaRows
import Derived.ProofKit
import Derived.OpenShut
import Derived.JoinedCond
import Derived.Carry
import Derived.Deep.Slices
import Derived.ChangeSame
import Derived.Test.YtghofbijdnenoaaZEFindStrictStress5
section
set_option linter.unusedVariables false
set_option linter.unusedSimpArgs false
set_option linter.unnecessarySimpa false
set_option maxRecDepth 100000
set_option maxHeartbeats 8000000
open Go Go.Fw
namespace Go.Proofs.Ytghofbijdnenoaa
theorem w_spec_l19Tries (l : (List (List Int))) (n : Int) : ∀ t, m_spec_l19Tries l n = some t → Fw.Fn Try.prog 147 [(.c (xF (encLInt false) l)), (.c (iC n))] [] (.s (.c (lo 0 t.length))) [(0, (pR 37 (encLInt true) t))] [] [0] := by
 refine Fw.Fn.ofU (P := Try.prog) (X := [0]) (pn := []) (rs := (fun (t : (List (List Int))) => [(.c (lo 0 t.length))])) (dfs := (fun (t : (List (List Int))) => [(0, (pR 37 (encLInt true) t))])) Try.func147 rfl Try.ntmps147 (Nat.le_of_ble_eq_true rfl) rfl ?_
 intro w0 U0 R0 g0 hU
 unfold m_spec_l19Tries
 refine Ws (Wr ?_)
 refine asg (Cc (sC nilV)) rfl ⟨rfl, rfl⟩ rfl rfl ?_
 refine On (Ws (Wr ?_))
 refine mv (Iv n) rfl rfl rfl rfl ?_
 refine Ob' fun u1 hu1 => ?_
 refine Os20 (LT.tmake (n := 21) (enc := encInt) (zc := [(iC 0)]) (0 : Int) rfl und37 ti3 rfl rfl rfl (by decide) (by decide) (lenOk_le hu1) rfl) rfl rfl rfl rfl ?_
 refine AOR.ent (Ent.freezeS (enc := encInt) 13 21 hU rfl rfl rfl rfl) ?_
 refine Os10 (LT.tbuildSlice (n := 22) (enc := (encLInt true)) [(0, .tmp 13, (.c (xT encInt (List.replicate n.toNat (0 : Int)))))] [(List.replicate n.toNat (0 : Int))] rfl rfl und31 ti37 rfl rfl rfl rfl (by decide) (fun _ => rfl) rfl) rfl rfl rfl ?_
 refine asg (Cc (lo 22 ([(List.replicate n.toNat (0 : Int))].length))) rfl rfl rfl rfl ?_
 refine On (Ws (Ws (Wr ?_)))
 refine asg (Iv 0) rfl ⟨rfl, rfl⟩ rfl rfl ?_
 refine On (AWR.block ?_)
 refine AWR.loop1 (id := 0) (m_spec_l19Tries_L15 l n) (fun s2 => ([(0, (Cc (xF (encLInt false) l))), (1, (Iv n)), (5, (Cc (lo 22 s2.2.length))), (6, (Iv s2.1))], [(22, (pR 37 (encLInt true) s2.2))])) (fun b155 => ([(5, (Cc (lo 22 b155.length)))], [(22, (pR 37 (encLInt true) b155))])) ?_ (Ent.of ⟨rfl, rfl, rfl, rfl, trivial⟩ ⟨rfl, trivial⟩) rfl (fun b155 _ => ?_)
 ·intro s2
  unfold m_spec_l19Tries_L15
  refine Ws (Ws ?_)
  refine AWR.joinK (fun j157 => ([(0, (Cc (xF (encLInt false) l))), (1, (Iv n)), (5, (Cc (lo 22 s2.2.length))), (6, (Iv s2.1)), (22, (Bv j157))], [(22, (pR 37 (encLInt true) s2.2))])) ?_ (fun j157 _ => ?_)
  ·refine Wr ?_
   refine mv (Iv s2.1) rfl rfl rfl rfl ?_
   refine mv (Cc (xF (encLInt false) l)) rfl rfl rfl rfl ?_
   refine Op10 (LT.tlenRO rfl und31) rfl rfl rfl ?_
   refine Op20 (LT.lss rfl) rfl rfl rfl rfl ?_
   refine mv (Bv (decide (s2.1 < (l.length : Int)))) rfl rfl rfl rfl ?_
   refine AOR.split (fun hb158 => ?_) (fun hb158 => ?_)
   ·refine mv (Iv s2.1) rfl rfl ⟨_, rfl, .inl ⟨_, rfl, (by rw [hb158]; rfl)⟩⟩ rfl ?_
    refine Op20 (LT.lss rfl) rfl ⟨rfl, rfl⟩ ⟨_, rfl, .inl ⟨_, rfl, (by rw [hb158]; rfl)⟩⟩ rfl ?_
    refine Op20 (LT.pickT (v := (Bv (decide (s2.1 < 3)))) rfl hb158) rfl rfl rfl rfl ?_
    refine On ?_
    refine AWR.nil ⟨rfl, Ent.of ⟨rfl, rfl, rfl, rfl, rfl, trivial⟩ ⟨rfl, trivial⟩⟩
   ·refine Ok rfl rfl rfl (by rw [hb158]; rfl) rfl ?_
    refine Ok rfl rfl rfl (by rw [hb158]; rfl) rfl ?_
    refine Op20 (LT.pickF (v := (Bv false)) rfl hb158) rfl ⟨rfl, rfl⟩ rfl rfl ?_
    refine On ?_
    refine AWR.nil ⟨rfl, Ent.of ⟨rfl, rfl, rfl, rfl, rfl, trivial⟩ ⟨rfl, trivial⟩⟩
  ·refine AWR.cond rfl (fun hc159 => ?_) (fun hc159 => ?_)
   ·refine AWR.skip (Ws (AWR.block (Ws (Wr ?_))))
    refine Os00 (LT.tbuildSlice (n := 23) (enc := (encLInt true)) [] ([] : List (List Int)) rfl rfl und31 ti37 rfl rfl rfl rfl (by decide) (fun _ => rfl) rfl) rfl rfl ?_
    refine asg (Cc (lo 23 (([] : List (List Int)).length))) rfl rfl rfl rfl ?_
    refine On (Ws (Ws (Wr ?_)))
    refine asg (Iv 0) rfl ⟨rfl, rfl⟩ rfl rfl ?_
    refine On (AWR.block ?_)
    refine AWR.loop1 (id := 2) (m_spec_l19Tries_L22 l n) (fun s160 => ([(0, (Cc (xF (encLInt false) l))), (1, (Iv n)), (5, (Cc (lo 22 s160.2.2.1.length))), (6, (Iv s160.1)), (7, (Cc (lo 23 s160.2.2.2.length))), (8, (Iv s160.2.1))], [(22, (pR 37 (encLInt true) s160.2.2.1)), (23, (pR 37 (encLInt true) s160.2.2.2))])) (fun b231 => ([(0, (Cc (xF (encLInt false) l))), (1, (Iv n)), (6, (Iv b231.1)), (7, (Cc (lo 23 b231.2.length)))], [(23, (pR 37 (encLInt true) b231.2))])) ?_ (Ent.of ⟨rfl, rfl, rfl, rfl, rfl, rfl, trivial⟩ ⟨rfl, rfl, trivial⟩) rfl (fun b231 _ => ?_)
    ·intro s160
     unfold m_spec_l19Tries_L22
     refine Ws (Ws (Wr ?_))
     refine mv (Iv s160.2.1) rfl rfl rfl rfl ?_
     refine mv (Cc (lo 22 s160.2.2.1.length)) rfl rfl rfl rfl ?_
     refine Op10 (LT.lenLoc rfl und31) rfl rfl rfl ?_
     refine Op20 (LT.lss rfl) rfl rfl rfl rfl ?_
     refine On ?_
     refine AWR.cond rfl (fun hc232 => ?_) (fun hc232 => ?_)
     ·refine AWR.skip (Ws (AWR.block (Ws (Wr ?_))))
      refine asg (Iv (-2)) rfl ⟨rfl, rfl⟩ rfl rfl ?_
      refine On (AWR.block ?_)
      refine AWR.loop1 (id := 4) (m_spec_l19Tries_L25 l n) (fun s233 => ([(0, (Cc (xF (encLInt false) l))), (1, (Iv n)), (5, (Cc (lo 22 s233.2.2.2.1.length))), (6, (Iv s233.1)), (7, (Cc (lo 23 s233.2.2.2.2.length))), (8, (Iv s233.2.1)), (9, (Iv s233.2.2.1))], [(22, (pR 37 (encLInt true) s233.2.2.2.1)), (23, (pR 37 (encLInt true) s233.2.2.2.2))])) (fun b266 => ([(0, (Cc (xF (encLInt false) l))), (1, (Iv n)), (5, (Cc (lo 22 b266.2.2.1.length))), (6, (Iv b266.1)), (7, (Cc (lo 23 b266.2.2.2.length))), (8, (Iv b266.2.1))], [(22, (pR 37 (encLInt true) b266.2.2.1)), (23, (pR 37 (encLInt true) b266.2.2.2))])) ?_ (Ent.of ⟨rfl, rfl, rfl, rfl, rfl, rfl, rfl, trivial⟩ ⟨rfl, rfl, trivial⟩) rfl (fun b266 _ => ?_)
      ·intro s233
       unfold m_spec_l19Tries_L25
       refine Ws (Ws (Wr ?_))
       refine mv (Iv s233.2.2.1) rfl rfl rfl rfl ?_
       refine Op20 (LT.leq rfl) rfl ⟨rfl, rfl⟩ rfl rfl ?_
       refine On ?_
       refine AWR.cond rfl (fun hc267 => ?_) (fun hc267 => ?_)
       ·refine AWR.skip (Ws (AWR.block (Ws (Wr ?_))))
        refine Os00 (LT.tbuildSlice (n := 24) (enc := encInt) [] ([] : List Int) rfl rfl und37 ti3 rfl rfl rfl rfl (by decide) (fun _ => rfl) rfl) rfl rfl ?_
        refine asg (Cc (lo 24 (([] : List Int).length))) rfl rfl rfl rfl ?_
        refine On (Ws (Ws (Wr ?_)))
        refine asg (Iv 0) rfl ⟨rfl, rfl⟩ rfl rfl ?_
        refine On (AWR.block ?_)
        refine AWR.loop1 (id := 6) (m_spec_l19Tries_L26 l n s233) (fun s268 => ([(0, (Cc (xF (encLInt false) l))), (1, (Iv n)), (5, (Cc (lo 22 s233.2.2.2.1.length))), (6, (Iv s233.1)), (7, (Cc (lo 23 s233.2.2.2.2.length))), (8, (Iv s233.2.1)), (9, (Iv s233.2.2.1)), (10, (Cc (lo 24 s268.2.length))), (11, (Iv s268.1))], [(22, (pR 37 (encLInt true) s233.2.2.2.1)), (23, (pR 37 (encLInt true) s233.2.2.2.2)), (24, (pR 3 encInt s268.2))])) (fun b281 => ([(0, (Cc (xF (encLInt false) l))), (1, (Iv n)), (5, (Cc (lo 22 b281.2.2.2.1.length))), (6, (Iv b281.1)), (7, (Cc (lo 23 b281.2.2.2.2.1.length))), (8, (Iv b281.2.1)), (9, (Iv b281.2.2.1)), (10, (Cc (lo 24 b281.2.2.2.2.2.length)))], [(22, (pR 37 (encLInt true) b281.2.2.2.1)), (23, (pR 37 (encLInt true) b281.2.2.2.2.1)), (24, (pR 3 encInt b281.2.2.2.2.2))])) ?_ (Ent.of ⟨rfl, rfl, rfl, rfl, rfl, rfl, rfl, rfl, rfl, trivial⟩ ⟨rfl, rfl, rfl, trivial⟩) rfl (fun b281 _ => ?_)
        ·intro s268
         unfold m_spec_l19Tries_L26
         refine Ws (Ws (Wr ?_))
         refine mv (Iv s268.1) rfl rfl rfl rfl ?_
         refine mv (Iv n) rfl rfl rfl rfl ?_
         refine Op20 (LT.lss rfl) rfl rfl rfl rfl ?_
         refine On ?_
         refine AWR.cond rfl (fun hc282 => ?_) (fun hc282 => ?_)
         ·refine AWR.skip (Ws (AWR.block (AWR.draw mixed ?_)))
          refine Dp10 (LT.move (v := (Cc (lo 24 s268.2.length))) rfl) rfl rfl rfl ?_
          refine Dp10 (LT.move (v := (Cc (lo 22 s233.2.2.2.1.length))) rfl) rfl rfl rfl ?_
          refine Dp10 (LT.move (v := (Iv s233.2.1)) rfl) rfl rfl rfl ?_
          refine AOD.bind fun x283 hx283 => ?_
          refine Dp21 (LT.tindexLoc rfl rfl el31 hx283) rfl rfl rfl rfl rfl ?_
          refine Dp11 (LT.tload1 (k := 0) rfl ag37 hx283 (by exact rfl) (by exact rfl)) rfl rfl rfl rfl ?_
          refine Dp10 (LT.move (v := (Iv s268.1)) rfl) rfl rfl rfl ?_
          refine AOD.bind fun x284 hx284 => ?_
          refine Dp20 (LT.tindexRO (enc := encInt) rfl el37 hx284 sz3) rfl rfl rfl rfl ?_
          refine Dp10 (LT.loadPx1 rfl ag3) rfl rfl rfl ?_
          refine Dp10 (LT.move (v := (Iv s233.2.2.1)) rfl) rfl rfl rfl ?_
          refine Dp10 (LT.move (v := (Cc (xF (encLInt false) l))) rfl) rfl rfl rfl ?_
          refine Dp10 (LT.move (v := (Iv s233.1)) rfl) rfl rfl rfl ?_
          refine AOD.bind fun x285 hx285 => ?_
          refine Dp20 (LT.tindexRO (enc := (encLInt false)) rfl el31 hx285 sz37) rfl rfl rfl rfl ?_
          refine Dp10 (LT.loadPx1 rfl ag37) rfl rfl rfl ?_
          refine Dp10 (LT.move (v := (Iv s268.1)) rfl) rfl rfl rfl ?_
          refine AOD.bind fun x286 hx286 => ?_
          refine Dp20 (LT.tindexRO (enc := encInt) rfl el37 hx286 sz3) rfl rfl rfl rfl ?_
          refine Dp10 (LT.loadPx1 rfl ag3) rfl rfl rfl ?_
          refine Dp20 (LT.mul rfl) rfl rfl rfl rfl ?_
          refine Dp20 (LT.add rfl) rfl rfl rfl rfl ?_
          refine Ds10 (LT.tbuildSlice (n := 25) (enc := encInt) [(0, .tmp 59, (.c (iC (w64 (x284 + (w64 (s233.2.2.1 * x286)))))))] ([(w64 (x284 + (w64 (s233.2.2.1 * x286))))] : List Int) rfl rfl und37 ti3 rfl rfl rfl rfl (by decide) (fun _ => rfl) rfl) rfl rfl rfl ?_
          refine AOD.bind fun u287 hu287 => ?_
          refine Ds22 (LT.tappP (enc := encInt) rfl rfl rfl und37 ti3 rfl (by decide) (by decide) (fun _ => rfl) (lim_le hu287)) rfl rfl rfl rfl rfl rfl ?_
          refine Dp10 (LT.assign (v := (Cc (lo 24 ((s268.2 ++ ([(w64 (x284 + (w64 (s233.2.2.1 * x286))))] : List Int)).length)))) rfl) rfl rfl rfl ?_
          refine AOD.nil (by kernel_rfl) ?_
          refine AWR.blk ?_
          refine en [(0, (Cc (xF (encLInt false) l))), (1, (Iv n)), (5, (Cc (lo 22 s233.2.2.2.1.length))), (6, (Iv s233.1)), (7, (Cc (lo 23 s233.2.2.2.2.length))), (8, (Iv s233.2.1)), (9, (Iv s233.2.2.1)), (10, (Cc (lo 24 ((s268.2 ++ ([(w64 (x284 + (w64 (s233.2.2.1 * x286))))] : List Int)).length)))), (11, (Iv s268.1))] [(22, (pR 37 (encLInt true) s233.2.2.2.1)), (23, (pR 37 (encLInt true) s233.2.2.2.2)), (24, (pR 3 encInt (s268.2 ++ ([(w64 (x284 + (w64 (s233.2.2.1 * x286))))] : List Int))))] ⟨rfl, rfl, rfl, rfl, rfl, rfl, rfl, rfl, rfl, trivial⟩ ⟨rfl, rfl, rfl, trivial⟩ ?_
          refine Wr ?_
          refine mv (Iv s268.1) rfl rfl rfl rfl ?_
          refine Op20 (LT.add rfl) rfl ⟨rfl, rfl⟩ rfl rfl ?_
          refine asg (Iv (w64 (s268.1 + 1))) rfl rfl rfl rfl ?_
          refine On ?_
          refine AWR.nil ⟨rfl, Ent.of ⟨rfl, rfl, rfl, rfl, rfl, rfl, rfl, rfl, rfl, trivial⟩ ⟨rfl, rfl, rfl, trivial⟩⟩
         ·refine AWR.exit_end rfl ⟨rfl, Ent.of ⟨rfl, rfl, rfl, rfl, rfl, rfl, rfl, rfl, trivial⟩ ⟨rfl, rfl, rfl, trivial⟩⟩
        ·refine Wr ?_
         refine mv (Cc (lo 23 b281.2.2.2.2.1.length)) rfl rfl rfl rfl ?_
         refine mv (Cc (lo 24 b281.2.2.2.2.2.length)) rfl rfl rfl rfl ?_
         refine AOR.ent (Ent.freezeS (enc := encInt) 63 24 hU rfl rfl rfl rfl) ?_
         refine Os10 (LT.tbuildSlice (n := 26) (enc := (encLInt true)) [(0, .tmp 63, (.c (xT encInt b281.2.2.2.2.2)))] [b281.2.2.2.2.2] rfl rfl und31 ti37 rfl rfl rfl rfl (by decide) (fun _ => rfl) rfl) rfl rfl rfl ?_
         refine Ob' fun u288 hu288 => ?_
         refine Os22 (LT.tappP (enc := (encLInt true)) rfl rfl rfl und31 ti37 rfl (by decide) (by decide) (fun _ => rfl) (lim_le hu288)) rfl rfl rfl rfl rfl rfl ?_
         refine asg (Cc (lo 23 ((b281.2.2.2.2.1 ++ [b281.2.2.2.2.2]).length))) rfl rfl rfl rfl ?_
         refine On (AWR.blk (Wr ?_))
         refine mv (Iv b281.2.2.1) rfl rfl rfl rfl ?_
         refine Op20 (LT.add rfl) rfl ⟨rfl, rfl⟩ rfl rfl ?_
         refine asg (Iv (w64 (b281.2.2.1 + 1))) rfl rfl rfl rfl ?_
         refine On ?_
         refine AWR.nil ⟨rfl, Ent.of ⟨rfl, rfl, rfl, rfl, rfl, rfl, rfl, trivial⟩ ⟨rfl, rfl, trivial⟩⟩
       ·refine AWR.exit_end rfl ⟨rfl, Ent.of ⟨rfl, rfl, rfl, rfl, rfl, rfl, trivial⟩ ⟨rfl, rfl, trivial⟩⟩
      ·refine AWR.blk (Wr ?_)
       refine mv (Iv b266.2.1) rfl rfl rfl rfl ?_
       refine Op20 (LT.add rfl) rfl ⟨rfl, rfl⟩ rfl rfl ?_
       refine asg (Iv (w64 (b266.2.1 + 1))) rfl rfl rfl rfl ?_
       refine On ?_
       refine AWR.nil ⟨rfl, Ent.of ⟨rfl, rfl, rfl, rfl, rfl, rfl, trivial⟩ ⟨rfl, rfl, trivial⟩⟩
     ·refine AWR.exit_end rfl ⟨rfl, Ent.of ⟨rfl, rfl, rfl, rfl, trivial⟩ ⟨rfl, trivial⟩⟩
    ·refine Wr ?_
     refine mv (Cc (lo 23 b231.2.length)) rfl rfl rfl rfl ?_
     refine asg (Cc (lo 23 b231.2.length)) rfl rfl rfl rfl ?_
     refine On (AWR.blk (Wr ?_))
     refine mv (Iv b231.1) rfl rfl rfl rfl ?_
     refine Op20 (LT.add rfl) rfl ⟨rfl, rfl⟩ rfl rfl ?_
     refine asg (Iv (w64 (b231.1 + 1))) rfl rfl rfl rfl ?_
     refine On ?_
     refine en [(0, (Cc (xF (encLInt false) l))), (1, (Iv n)), (5, (Cc (lo 23 b231.2.length))), (6, (Iv (w64 (b231.1 + 1))))] [(23, (pR 37 (encLInt true) b231.2))] ⟨rfl, rfl, rfl, rfl, trivial⟩ ⟨rfl, trivial⟩ ?_
     refine AWR.ent (Ent.mv 23 22 rfl rfl) ?_
     refine AWR.nil ⟨rfl, Ent.of ⟨rfl, rfl, rfl, rfl, trivial⟩ ⟨rfl, trivial⟩⟩
   ·refine AWR.exit_end rfl ⟨rfl, Ent.of ⟨rfl, trivial⟩ ⟨rfl, trivial⟩⟩
 ·refine Ws (Wr ?_)
  refine mv (Cc (lo 22 b155.length)) rfl rfl rfl rfl ?_
  refine asg (Cc (lo 22 b155.length)) rfl rfl rfl rfl ?_
  refine On ?_
  refine en [(4, (Cc (lo 22 b155.length)))] [(22, (pR 37 (encLInt true) b155))] ⟨rfl, trivial⟩ ⟨rfl, trivial⟩ ?_
  refine AWR.ent (Ent.mv 22 0 rfl rfl) ?_
  refine en [(4, (Cc (lo 0 b155.length)))] [(0, (pR 37 (encLInt true) b155))] ⟨rfl, trivial⟩ ⟨rfl, trivial⟩ ?_
  refine AWR.ret (FPost.mk (.inr rfl) ⟨rfl, trivial⟩ ⟨rfl, trivial⟩ rfl ⟨trivial, trivial⟩ ⟨PermO.prow' perm_encLInt, trivial⟩)
theorem w_spec_IsProperStress (tV : TTensegrity) (w : (List Int)) : ∀ t, m_spec_IsProperStress tV w = some t → Fw.Fn Try.prog 219 [(.agg [(iC tV.Framework.Graph.Points), (xF encTBar tV.Framework.Graph.Bars), (xF encTPlace tV.Framework.Places), (xF encInt tV.Kinds)]), (.c (xF encInt w))] [] (.s (.c (bC t))) [] [] [] := by
 refine Fw.Fn.of (P := Try.prog) (X := []) (pn := []) (rs := (fun (t : Bool) => [(.c (bC t))])) (dfs := (fun (t : Bool) => [])) Try.func219 rfl Try.ntmps219 (Nat.le_of_ble_eq_true rfl) rfl ?_
 intro w0 U0 R0 g0
 unfold m_spec_IsProperStress
 refine Ws (Wr ?_)
 refine Os10 (LT.box (n := 21) (v := (.agg [(iC tV.Framework.Graph.Points), (xF encTBar tV.Framework.Graph.Bars), (xF encTPlace tV.Framework.Places), (xF encInt tV.Kinds)])) rfl sz75 (by exact rfl)) rfl rfl rfl ?_
 refine asg (Bv false) rfl ⟨rfl, rfl⟩ rfl rfl ?_
 refine On (Ws (Ws ?_))
 refine AWR.joinK (fun j4 => ([(1, (Cc (xF encInt w))), (2, (Cc (.pl 21 0))), (15, (Bv j4))], [(21, (.row 75 [[(iC tV.Framework.Graph.Points), (xF encTBar tV.Framework.Graph.Bars), (xF encTPlace tV.Framework.Places), (xF encInt tV.Kinds)]]))])) ?_ (fun j4 _ => ?_)
 ·refine Wr ?_
  refine Op11 (LT.bloadN (out := [(iC tV.Framework.Graph.Points), (xF encTBar tV.Framework.Graph.Bars), (xF encTPlace tV.Framework.Places), (xF encInt tV.Kinds)]) rfl ag75 (infS inf75) sz75 (by exact rfl) (by exact rfl)) rfl rfl rfl rfl ?_
  refine Ob' fun r5 hr5 => ?_
  refine AOR.pure (@LT.callF Try.prog _ _ 146 _ _ [(.agg [(iC tV.Framework.Graph.Points), (xF encTBar tV.Framework.Graph.Bars), (xF encTPlace tV.Framework.Places), (xF encInt tV.Kinds)])] _ _ [] _ _ _ _ (w_spec_IsTensegrity tV r5 hr5) rfl cb146 (.cons (.agg (.cons (.same rfl) (.cons (.same rfl) (.cons (.same rfl) (.cons (.same rfl) .nil))))) .nil) rfl rfl trivial) ⟨rfl, rfl, trivial⟩ trivial rfl rfl ?_
  refine Op10 (LT.not rfl) rfl rfl rfl ?_
  refine mv (Bv (!r5)) rfl rfl rfl rfl ?_
  refine AOR.split (fun hb6 => ?_) (fun hb6 => ?_)
  ·refine Ok rfl rfl rfl (by rw [hb6]; rfl) rfl ?_
   refine Ok rfl rfl rfl (by rw [hb6]; rfl) rfl ?_
   refine Ok rfl rfl rfl (by rw [hb6]; rfl) rfl ?_
   refine Ok rfl rfl rfl (by rw [hb6]; rfl) rfl ?_
   refine Ok rfl rfl rfl (by rw [hb6]; rfl) rfl ?_
   refine Op20 (LT.pickT (v := (Bv true)) rfl hb6) rfl ⟨rfl, rfl⟩ rfl rfl ?_
   refine On ?_
   refine AWR.nil ⟨rfl, Ent.of ⟨rfl, rfl, rfl, trivial⟩ ⟨rfl, trivial⟩⟩
  ·refine Op10 (LT.fieldPl rfl fo75_0) rfl ⟨_, rfl, .inl ⟨_, rfl, (by rw [hb6]; rfl)⟩⟩ rfl ?_
   refine Op11 (LT.bloadN (out := [(iC tV.Framework.Graph.Points), (xF encTBar tV.Framework.Graph.Bars), (xF encTPlace tV.Framework.Places)]) rfl ag29 (infS inf29) sz29 (by exact rfl) (by exact rfl)) rfl rfl ⟨_, rfl, .inl ⟨_, rfl, (by rw [hb6]; rfl)⟩⟩ rfl ?_
   refine mv (Cc (xF encInt w)) rfl rfl ⟨_, rfl, .inl ⟨_, rfl, (by rw [hb6]; rfl)⟩⟩ rfl ?_
   refine Ob' fun r7 hr7 => ?_
   refine AOR.pure (@LT.callF Try.prog _ _ 31 _ _ [(.agg [(iC tV.Framework.Graph.Points), (xF encTBar tV.Framework.Graph.Bars), (xF encTPlace tV.Framework.Places)]), (.c (xF encInt w))] _ _ [] _ _ _ _ (w_spec_IsStress tV.Framework w r7 hr7) rfl cb31 (.cons (.agg (.cons (.same rfl) (.cons (.same rfl) (.cons (.same rfl) .nil)))) (.cons (.c (.same rfl)) .nil)) rfl rfl trivial) ⟨rfl, rfl, rfl, trivial⟩ trivial ⟨_, rfl, .inl ⟨_, rfl, (by rw [hb6]; rfl)⟩⟩ rfl ?_
   refine Op10 (LT.not rfl) rfl ⟨_, rfl, .inl ⟨_, rfl, (by rw [hb6]; rfl)⟩⟩ rfl ?_
   refine Op20 (LT.pickF (v := (Bv (!r7))) rfl hb6) rfl rfl rfl rfl ?_
   refine On ?_
   refine AWR.nil ⟨rfl, Ent.of ⟨rfl, rfl, rfl, trivial⟩ ⟨rfl, trivial⟩⟩
 ·refine AWR.cond rfl (fun hc8 => ?_) (fun hc8 => ?_)
  ·refine Ws (Wr ?_)
   refine asg (Bv false) rfl ⟨rfl, rfl⟩ rfl rfl ?_
   refine On ?_
   refine AWR.ret (FPost.mk (.inr rfl) ⟨rfl, trivial⟩ trivial rfl ⟨PermP.sc, trivial⟩ trivial)
  ·refine AWR.skip (Ws (Ws (Wr ?_)))
   refine asg (Iv 0) rfl ⟨rfl, rfl⟩ rfl rfl ?_
   refine On (AWR.block ?_)
   refine AWR.loopR (id := 0) (m_spec_IsProperStress_L1 tV w) (fun s9 => ([(1, (Cc (xF encInt w))), (2, (Cc (.pl 21 0))), (5, (Iv s9))], [(21, (.row 75 [[(iC tV.Framework.Graph.Points), (xF encTBar tV.Framework.Graph.Bars), (xF encTPlace tV.Framework.Places), (xF encInt tV.Kinds)]]))])) (fun b56 => ([], [])) (FPost Try.prog Try.f219.results.toList [] [] (fun (t : Bool) => [(.c (bC t))]) (fun (t : Bool) => [])) ?_ (Ent.of ⟨rfl, rfl, rfl, trivial⟩ ⟨rfl, trivial⟩) rfl (fun b56 _ => ?_) (by intro r t σ m ht hk; injection ht with ht; subst ht; exact hk)
   ·intro s9
    unfold m_spec_IsProperStress_L1
    refine Ws (Ws (Wr ?_))
    refine mv (Iv s9) rfl rfl rfl rfl ?_
    refine mv (Cc (xF encInt w)) rfl rfl rfl rfl ?_
    refine Op10 (LT.tlenRO rfl und37) rfl rfl rfl ?_
    refine Op20 (LT.lss rfl) rfl rfl rfl rfl ?_
    refine On ?_
    refine AWR.cond rfl (fun hc57 => ?_) (fun hc57 => ?_)
    ·refine AWR.skip (Ws (AWR.block (Ws ?_)))
     refine AWR.joinK (fun j68 => ([(1, (Cc (xF encInt w))), (2, (Cc (.pl 21 0))), (5, (Iv s9)), (49, (Bv j68))], [(21, (.row 75 [[(iC tV.Framework.Graph.Points), (xF encTBar tV.Framework.Graph.Bars), (xF encTPlace tV.Framework.Places), (xF encInt tV.Kinds)]]))])) ?_ (fun j68 _ => ?_)
     ·refine Wr ?_
      refine Op10 (LT.fieldPl rfl fo75_1) rfl rfl rfl ?_
      refine Op11 (LT.bload1 (c := (xF encInt tV.Kinds)) rfl ag37 (by exact rfl)) rfl rfl rfl rfl ?_
      refine mv (Iv s9) rfl rfl rfl rfl ?_
      refine Ob' fun x69 hx69 => ?_
      refine Op20 (LT.tindexRO (enc := encInt) rfl el37 hx69 sz3) rfl rfl rfl rfl ?_
      refine Op10 (LT.loadPx1 rfl ag3) rfl rfl rfl ?_
      refine Op20 (LT.eql rfl) rfl ⟨rfl, rfl⟩ rfl rfl ?_
      refine mv (Bv (x69 == 1)) rfl rfl rfl rfl ?_
      refine AOR.split (fun hb70 => ?_) (fun hb70 => ?_)
      ·refine mv (Cc (xF encInt w)) rfl rfl ⟨_, rfl, .inl ⟨_, rfl, (by rw [hb70]; rfl)⟩⟩ rfl ?_
       refine mv (Iv s9) rfl rfl ⟨_, rfl, .inl ⟨_, rfl, (by rw [hb70]; rfl)⟩⟩ rfl ?_
       refine Ob' fun x71 hx71 => ?_
       refine Op20 (LT.tindexRO (enc := encInt) rfl el37 hx71 sz3) rfl rfl ⟨_, rfl, .inl ⟨_, rfl, (by rw [hb70]; rfl)⟩⟩ rfl ?_
       refine Op10 (LT.loadPx1 rfl ag3) rfl ⟨_, rfl, .inl ⟨_, rfl, (by rw [hb70]; rfl)⟩⟩ rfl ?_
       refine Op20 (LT.lss rfl) rfl ⟨rfl, rfl⟩ ⟨_, rfl, .inl ⟨_, rfl, (by rw [hb70]; rfl)⟩⟩ rfl ?_
       refine Op20 (LT.pickT (v := (Bv (decide (x71 < 0)))) rfl hb70) rfl rfl rfl rfl ?_
       refine mv (Bv (decide (x71 < 0))) rfl rfl rfl rfl ?_
       refine AOR.split (fun hb72 => ?_) (fun hb72 => ?_)
       ·refine Ok rfl rfl rfl (by rw [hb72]; rfl) rfl ?_
        refine Ok rfl rfl rfl (by rw [hb72]; rfl) rfl ?_
        refine Ok rfl rfl rfl (by rw [hb72]; rfl) rfl ?_
        refine Ok rfl rfl rfl (by rw [hb72]; rfl) rfl ?_
        refine Ok rfl rfl rfl (by rw [hb72]; rfl) rfl ?_
        refine Ok rfl rfl rfl (by rw [hb72]; rfl) rfl ?_
        refine Ok rfl rfl rfl (by rw [hb72]; rfl) rfl ?_
        refine Oj rfl rfl rfl rfl ?_
        refine Oj rfl rfl rfl rfl ?_
        refine Oj rfl rfl rfl rfl ?_
        refine Oj rfl rfl rfl rfl ?_
        refine Oj rfl rfl rfl rfl ?_
        refine Ok rfl rfl rfl (by rw [hb72]; rfl) rfl ?_
        refine Op20 (LT.pickT (v := (Bv true)) rfl hb72) rfl ⟨rfl, rfl⟩ rfl rfl ?_
        refine On ?_
        refine AWR.nil ⟨rfl, Ent.of ⟨rfl, rfl, rfl, rfl, trivial⟩ ⟨rfl, trivial⟩⟩
       ·refine Op10 (LT.fieldPl rfl fo75_1) rfl ⟨_, rfl, .inl ⟨_, rfl, (by rw [hb72]; rfl)⟩⟩ rfl ?_
        refine Op11 (LT.bload1 (c := (xF encInt tV.Kinds)) rfl ag37 (by exact rfl)) rfl rfl ⟨_, rfl, .inl ⟨_, rfl, (by rw [hb72]; rfl)⟩⟩ rfl ?_
        refine mv (Iv s9) rfl rfl ⟨_, rfl, .inl ⟨_, rfl, (by rw [hb72]; rfl)⟩⟩ rfl ?_
        refine Ob' fun x73 hx73 => ?_
        refine Op20 (LT.tindexRO (enc := encInt) rfl el37 hx73 sz3) rfl rfl ⟨_, rfl, .inl ⟨_, rfl, (by rw [hb72]; rfl)⟩⟩ rfl ?_
        refine Op10 (LT.loadPx1 rfl ag3) rfl ⟨_, rfl, .inl ⟨_, rfl, (by rw [hb72]; rfl)⟩⟩ rfl ?_
        refine Op20 (LT.eql rfl) rfl ⟨rfl, rfl⟩ ⟨_, rfl, .inl ⟨_, rfl, (by rw [hb72]; rfl)⟩⟩ rfl ?_
        refine mv (Bv (x73 == 2)) rfl rfl ⟨_, rfl, .inl ⟨_, rfl, (by rw [hb72]; rfl)⟩⟩ rfl ?_
        refine AOR.split (fun hb74 => ?_) (fun hb74 => ?_)
        ·refine mv (Cc (xF encInt w)) rfl rfl ⟨_, rfl, .inl ⟨_, rfl, (by rw [hb74]; rfl)⟩⟩ rfl ?_
         refine mv (Iv s9) rfl rfl ⟨_, rfl, .inl ⟨_, rfl, (by rw [hb74]; rfl)⟩⟩ rfl ?_
         refine Ob' fun x75 hx75 => ?_
         refine Op20 (LT.tindexRO (enc := encInt) rfl el37 hx75 sz3) rfl rfl ⟨_, rfl, .inl ⟨_, rfl, (by rw [hb74]; rfl)⟩⟩ rfl ?_
         refine Op10 (LT.loadPx1 rfl ag3) rfl ⟨_, rfl, .inl ⟨_, rfl, (by rw [hb74]; rfl)⟩⟩ rfl ?_
         refine Op20 (LT.gtr rfl) rfl ⟨rfl, rfl⟩ ⟨_, rfl, .inl ⟨_, rfl, (by rw [hb74]; rfl)⟩⟩ rfl ?_
         refine Op20 (LT.pickT (v := (Bv (decide (0 < x75)))) rfl hb74) rfl rfl ⟨_, rfl, .inl ⟨_, rfl, (by rw [hb72]; rfl)⟩⟩ rfl ?_
         refine Op20 (LT.pickF (v := (Bv (decide (0 < x75)))) rfl hb72) rfl rfl rfl rfl ?_
         refine On ?_
         refine AWR.nil ⟨rfl, Ent.of ⟨rfl, rfl, rfl, rfl, trivial⟩ ⟨rfl, trivial⟩⟩
        ·refine Ok rfl rfl rfl (by rw [hb74]; rfl) rfl ?_
         refine Ok rfl rfl rfl (by rw [hb74]; rfl) rfl ?_
         refine Ok rfl rfl rfl (by rw [hb74]; rfl) rfl ?_
         refine Ok rfl rfl rfl (by rw [hb74]; rfl) rfl ?_
         refine Ok rfl rfl rfl (by rw [hb74]; rfl) rfl ?_
         refine Op20 (LT.pickF (v := (Bv false)) rfl hb74) rfl ⟨rfl, rfl⟩ ⟨_, rfl, .inl ⟨_, rfl, (by rw [hb72]; rfl)⟩⟩ rfl ?_
         refine Op20 (LT.pickF (v := (Bv false)) rfl hb72) rfl rfl rfl rfl ?_
         refine On ?_
         refine AWR.nil ⟨rfl, Ent.of ⟨rfl, rfl, rfl, rfl, trivial⟩ ⟨rfl, trivial⟩⟩
      ·refine Ok rfl rfl rfl (by rw [hb70]; rfl) rfl ?_
       refine Ok rfl rfl rfl (by rw [hb70]; rfl) rfl ?_
       refine Ok rfl rfl rfl (by rw [hb70]; rfl) rfl ?_
       refine Ok rfl rfl rfl (by rw [hb70]; rfl) rfl ?_
       refine Ok rfl rfl rfl (by rw [hb70]; rfl) rfl ?_
       refine Op20 (LT.pickF (v := (Bv false)) rfl hb70) rfl ⟨rfl, rfl⟩ rfl rfl ?_
       refine mv (Bv false) rfl rfl rfl rfl ?_
       refine Op10 (LT.fieldPl rfl fo75_1) rfl ⟨_, rfl, .inl ⟨_, rfl, rfl⟩⟩ rfl ?_
       refine Op11 (LT.bload1 (c := (xF encInt tV.Kinds)) rfl ag37 (by exact rfl)) rfl rfl ⟨_, rfl, .inl ⟨_, rfl, rfl⟩⟩ rfl ?_
       refine mv (Iv s9) rfl rfl ⟨_, rfl, .inl ⟨_, rfl, rfl⟩⟩ rfl ?_
       refine Ob' fun x76 hx76 => ?_
       refine Op20 (LT.tindexRO (enc := encInt) rfl el37 hx76 sz3) rfl rfl ⟨_, rfl, .inl ⟨_, rfl, rfl⟩⟩ rfl ?_
       refine Op10 (LT.loadPx1 rfl ag3) rfl ⟨_, rfl, .inl ⟨_, rfl, rfl⟩⟩ rfl ?_
       refine Op20 (LT.eql rfl) rfl ⟨rfl, rfl⟩ ⟨_, rfl, .inl ⟨_, rfl, rfl⟩⟩ rfl ?_
       refine mv (Bv (x76 == 2)) rfl rfl ⟨_, rfl, .inl ⟨_, rfl, rfl⟩⟩ rfl ?_
       refine AOR.split (fun hb77 => ?_) (fun hb77 => ?_)
       ·refine mv (Cc (xF encInt w)) rfl rfl ⟨_, rfl, .inl ⟨_, rfl, (by rw [hb77]; rfl)⟩⟩ rfl ?_
        refine mv (Iv s9) rfl rfl ⟨_, rfl, .inl ⟨_, rfl, (by rw [hb77]; rfl)⟩⟩ rfl ?_
        refine Ob' fun x78 hx78 => ?_
        refine Op20 (LT.tindexRO (enc := encInt) rfl el37 hx78 sz3) rfl rfl ⟨_, rfl, .inl ⟨_, rfl, (by rw [hb77]; rfl)⟩⟩ rfl ?_
        refine Op10 (LT.loadPx1 rfl ag3) rfl ⟨_, rfl, .inl ⟨_, rfl, (by rw [hb77]; rfl)⟩⟩ rfl ?_
        refine Op20 (LT.gtr rfl) rfl ⟨rfl, rfl⟩ ⟨_, rfl, .inl ⟨_, rfl, (by rw [hb77]; rfl)⟩⟩ rfl ?_
        refine Op20 (LT.pickT (v := (Bv (decide (0 < x78)))) rfl hb77) rfl rfl ⟨_, rfl, .inl ⟨_, rfl, rfl⟩⟩ rfl ?_
        refine Op20 (LT.pickF (v := (Bv (decide (0 < x78)))) rfl rfl) rfl rfl rfl rfl ?_
        refine On ?_
        refine AWR.nil ⟨rfl, Ent.of ⟨rfl, rfl, rfl, rfl, trivial⟩ ⟨rfl, trivial⟩⟩
       ·refine Ok rfl rfl rfl (by rw [hb77]; rfl) rfl ?_
        refine Ok rfl rfl rfl (by rw [hb77]; rfl) rfl ?_
        refine Ok rfl rfl rfl (by rw [hb77]; rfl) rfl ?_
        refine Ok rfl rfl rfl (by rw [hb77]; rfl) rfl ?_
        refine Ok rfl rfl rfl (by rw [hb77]; rfl) rfl ?_
        refine Op20 (LT.pickF (v := (Bv false)) rfl hb77) rfl ⟨rfl, rfl⟩ ⟨_, rfl, .inl ⟨_, rfl, rfl⟩⟩ rfl ?_
        refine Op20 (LT.pickF (v := (Bv false)) rfl rfl) rfl rfl rfl rfl ?_
        refine On ?_
        refine AWR.nil ⟨rfl, Ent.of ⟨rfl, rfl, rfl, rfl, trivial⟩ ⟨rfl, trivial⟩⟩
     ·refine AWR.cond rfl (fun hc79 => ?_) (fun hc79 => ?_)
      ·refine Ws (Wr ?_)
       refine asg (Bv false) rfl ⟨rfl, rfl⟩ rfl rfl ?_
       refine On ?_
       refine AWR.ret ⟨rfl, FPost.mk (.inr rfl) ⟨rfl, trivial⟩ trivial rfl ⟨PermP.sc, trivial⟩ trivial⟩
      ·refine AWR.skip (AWR.blk (Wr ?_))
       refine mv (Iv s9) rfl rfl rfl rfl ?_
       refine Op20 (LT.add rfl) rfl ⟨rfl, rfl⟩ rfl rfl ?_
       refine asg (Iv (w64 (s9 + 1))) rfl rfl rfl rfl ?_
       refine On ?_
       refine AWR.nil ⟨rfl, Ent.of ⟨rfl, rfl, rfl, trivial⟩ ⟨rfl, trivial⟩⟩
    ·refine AWR.exit_end rfl ⟨rfl, Ent.of trivial trivial⟩
   ·refine Ws (Wr ?_)
    refine asg (Bv true) rfl ⟨rfl, rfl⟩ rfl rfl ?_
    refine On ?_
    refine AWR.ret (FPost.mk (.inr rfl) ⟨rfl, trivial⟩ trivial rfl ⟨PermP.sc, trivial⟩ trivial)
theorem w_spec_IsStrictStress (tV : TTensegrity) (w : (List Int)) : ∀ t, m_spec_IsStrictStress tV w = some t → Fw.Fn Try.prog 148 [(.agg [(iC tV.Framework.Graph.Points), (xF encTBar tV.Framework.Graph.Bars), (xF encTPlace tV.Framework.Places), (xF encInt tV.Kinds)]), (.c (xF encInt w))] [] (.s (.c (bC t))) [] [] [] := by
 refine Fw.Fn.of (P := Try.prog) (X := []) (pn := []) (rs := (fun (t : Bool) => [(.c (bC t))])) (dfs := (fun (t : Bool) => [])) Try.func148 rfl Try.ntmps148 (Nat.le_of_ble_eq_true rfl) rfl ?_
 intro w0 U0 R0 g0
 unfold m_spec_IsStrictStress
 refine Ws (Wr ?_)
 refine Os10 (LT.box (n := 21) (v := (.agg [(iC tV.Framework.Graph.Points), (xF encTBar tV.Framework.Graph.Bars), (xF encTPlace tV.Framework.Places), (xF encInt tV.Kinds)])) rfl sz75 (by exact rfl)) rfl rfl rfl ?_
 refine asg (Bv false) rfl ⟨rfl, rfl⟩ rfl rfl ?_
 refine On (Ws (Ws (Wr ?_)))
 refine Op11 (LT.bloadN (out := [(iC tV.Framework.Graph.Points), (xF encTBar tV.Framework.Graph.Bars), (xF encTPlace tV.Framework.Places), (xF encInt tV.Kinds)]) rfl ag75 (infS inf75) sz75 (by exact rfl) (by exact rfl)) rfl rfl rfl rfl ?_
 refine mv (Cc (xF encInt w)) rfl rfl rfl rfl ?_
 refine Ob' fun r1 hr1 => ?_
 refine AOR.pure (@LT.callF Try.prog _ _ 219 _ _ [(.agg [(iC tV.Framework.Graph.Points), (xF encTBar tV.Framework.Graph.Bars), (xF encTPlace tV.Framework.Places), (xF encInt tV.Kinds)]), (.c (xF encInt w))] _ _ [] _ _ _ _ (w_spec_IsProperStress tV w r1 hr1) rfl cb219 (.cons (.agg (.cons (.same rfl) (.cons (.same rfl) (.cons (.same rfl) (.cons (.same rfl) .nil))))) (.cons (.c (.same rfl)) .nil)) rfl rfl trivial) ⟨rfl, rfl, rfl, trivial⟩ trivial rfl rfl ?_
 refine Op10 (LT.not rfl) rfl rfl rfl ?_
 refine On ?_
 refine AWR.cond rfl (fun hc2 => ?_) (fun hc2 => ?_)
 ·refine Ws (Wr ?_)
  refine asg (Bv false) rfl ⟨rfl, rfl⟩ rfl rfl ?_
  refine On ?_
  refine AWR.ret (FPost.mk (.inr rfl) ⟨rfl, trivial⟩ trivial rfl ⟨PermP.sc, trivial⟩ trivial)
 ·refine AWR.skip (Ws (Ws (Wr ?_)))
  refine asg (Iv 0) rfl ⟨rfl, rfl⟩ rfl rfl ?_
  refine On (AWR.block ?_)
  refine AWR.loopR (id := 0) (m_spec_IsStrictStress_L1 tV w) (fun s3 => ([(1, (Cc (xF encInt w))), (2, (Cc (.pl 21 0))), (5, (Iv s3))], [(21, (.row 75 [[(iC tV.Framework.Graph.Points), (xF encTBar tV.Framework.Graph.Bars), (xF encTPlace tV.Framework.Places), (xF encInt tV.Kinds)]]))])) (fun b22 => ([], [])) (FPost Try.prog Try.f148.results.toList [] [] (fun (t : Bool) => [(.c (bC t))]) (fun (t : Bool) => [])) ?_ (Ent.of ⟨rfl, rfl, rfl, trivial⟩ ⟨rfl, trivial⟩) rfl (fun b22 _ => ?_) (by intro r t σ m ht hk; injection ht with ht; subst ht; exact hk)
  ·intro s3
   unfold m_spec_IsStrictStress_L1
   refine Ws (Ws (Wr ?_))
   refine mv (Iv s3) rfl rfl rfl rfl ?_
   refine mv (Cc (xF encInt w)) rfl rfl rfl rfl ?_
   refine Op10 (LT.tlenRO rfl und37) rfl rfl rfl ?_
   refine Op20 (LT.lss rfl) rfl rfl rfl rfl ?_
   refine On ?_
   refine AWR.cond rfl (fun hc23 => ?_) (fun hc23 => ?_)
   ·refine AWR.skip (Ws (AWR.block (Ws ?_)))
    refine AWR.joinK (fun j27 => ([(1, (Cc (xF encInt w))), (2, (Cc (.pl 21 0))), (5, (Iv s3)), (28, (Bv j27))], [(21, (.row 75 [[(iC tV.Framework.Graph.Points), (xF encTBar tV.Framework.Graph.Bars), (xF encTPlace tV.Framework.Places), (xF encInt tV.Kinds)]]))])) ?_ (fun j27 _ => ?_)
    ·refine Wr ?_
     refine Op10 (LT.fieldPl rfl fo75_1) rfl rfl rfl ?_
     refine Op11 (LT.bload1 (c := (xF encInt tV.Kinds)) rfl ag37 (by exact rfl)) rfl rfl rfl rfl ?_
     refine mv (Iv s3) rfl rfl rfl rfl ?_
     refine Ob' fun x28 hx28 => ?_
     refine Op20 (LT.tindexRO (enc := encInt) rfl el37 hx28 sz3) rfl rfl rfl rfl ?_
     refine Op10 (LT.loadPx1 rfl ag3) rfl rfl rfl ?_
     refine Op20 (LT.neq rfl) rfl ⟨rfl, rfl⟩ rfl rfl ?_
     refine mv (Bv (x28 != 0)) rfl rfl rfl rfl ?_
     refine AOR.split (fun hb29 => ?_) (fun hb29 => ?_)
     ·refine mv (Cc (xF encInt w)) rfl rfl ⟨_, rfl, .inl ⟨_, rfl, (by rw [hb29]; rfl)⟩⟩ rfl ?_
      refine mv (Iv s3) rfl rfl ⟨_, rfl, .inl ⟨_, rfl, (by rw [hb29]; rfl)⟩⟩ rfl ?_
      refine Ob' fun x30 hx30 => ?_
      refine Op20 (LT.tindexRO (enc := encInt) rfl el37 hx30 sz3) rfl rfl ⟨_, rfl, .inl ⟨_, rfl, (by rw [hb29]; rfl)⟩⟩ rfl ?_
      refine Op10 (LT.loadPx1 rfl ag3) rfl ⟨_, rfl, .inl ⟨_, rfl, (by rw [hb29]; rfl)⟩⟩ rfl ?_
      refine Op20 (LT.eql rfl) rfl ⟨rfl, rfl⟩ ⟨_, rfl, .inl ⟨_, rfl, (by rw [hb29]; rfl)⟩⟩ rfl ?_
      refine Op20 (LT.pickT (v := (Bv (x30 == 0))) rfl hb29) rfl rfl rfl rfl ?_
      refine On ?_
      refine AWR.nil ⟨rfl, Ent.of ⟨rfl, rfl, rfl, rfl, trivial⟩ ⟨rfl, trivial⟩⟩
     ·refine Ok rfl rfl rfl (by rw [hb29]; rfl) rfl ?_
      refine Ok rfl rfl rfl (by rw [hb29]; rfl) rfl ?_
      refine Ok rfl rfl rfl (by rw [hb29]; rfl) rfl ?_
      refine Ok rfl rfl rfl (by rw [hb29]; rfl) rfl ?_
      refine Ok rfl rfl rfl (by rw [hb29]; rfl) rfl ?_
      refine Op20 (LT.pickF (v := (Bv false)) rfl hb29) rfl ⟨rfl, rfl⟩ rfl rfl ?_
      refine On ?_
      refine AWR.nil ⟨rfl, Ent.of ⟨rfl, rfl, rfl, rfl, trivial⟩ ⟨rfl, trivial⟩⟩
    ·refine AWR.cond rfl (fun hc31 => ?_) (fun hc31 => ?_)
     ·refine Ws (Wr ?_)
      refine asg (Bv false) rfl ⟨rfl, rfl⟩ rfl rfl ?_
      refine On ?_
      refine AWR.ret ⟨rfl, FPost.mk (.inr rfl) ⟨rfl, trivial⟩ trivial rfl ⟨PermP.sc, trivial⟩ trivial⟩
     ·refine AWR.skip (AWR.blk (Wr ?_))
      refine mv (Iv s3) rfl rfl rfl rfl ?_
      refine Op20 (LT.add rfl) rfl ⟨rfl, rfl⟩ rfl rfl ?_
      refine asg (Iv (w64 (s3 + 1))) rfl rfl rfl rfl ?_
      refine On ?_
      refine AWR.nil ⟨rfl, Ent.of ⟨rfl, rfl, rfl, trivial⟩ ⟨rfl, trivial⟩⟩
   ·refine AWR.exit_end rfl ⟨rfl, Ent.of trivial trivial⟩
  ·refine Ws (Wr ?_)
   refine asg (Bv true) rfl ⟨rfl, rfl⟩ rfl rfl ?_
   refine On ?_
   refine AWR.ret (FPost.mk (.inr rfl) ⟨rfl, trivial⟩ trivial rfl ⟨PermP.sc, trivial⟩ trivial)
theorem w_spec_FindStrictStress (tV : TTensegrity) : ∀ t, m_spec_FindStrictStress tV = some t → Fw.Fn Try.prog 60 [(.agg [(iC tV.Framework.Graph.Points), (xF encTBar tV.Framework.Graph.Bars), (xF encTPlace tV.Framework.Places), (xF encInt tV.Kinds)])] [] (resA [(.c (lo 0 t.1.length)), (.c (bC t.2))]) [(0, (pR 3 encInt t.1))] [] [0] := by
 refine Fw.Fn.of (P := Try.prog) (X := [0]) (pn := []) (rs := (fun (t : ((List Int) × Bool)) => [(.c (lo 0 t.1.length)), (.c (bC t.2))])) (dfs := (fun (t : ((List Int) × Bool)) => [(0, (pR 3 encInt t.1))])) Try.func60 rfl Try.ntmps60 (Nat.le_of_ble_eq_true rfl) rfl ?_
 intro w0 U0 R0 g0
 unfold m_spec_FindStrictStress
 refine Ws (Wr ?_)
 refine Os10 (LT.box (n := 21) (v := (.agg [(iC tV.Framework.Graph.Points), (xF encTBar tV.Framework.Graph.Bars), (xF encTPlace tV.Framework.Places), (xF encInt tV.Kinds)])) rfl sz75 (by exact rfl)) rfl rfl rfl ?_
 refine asg (Cc (sC nilV)) rfl ⟨rfl, rfl⟩ rfl rfl ?_
 refine asg (Bv false) rfl ⟨rfl, rfl⟩ rfl rfl ?_
 refine On (Ws (Ws (Wr ?_)))
 refine Op11 (LT.bloadN (out := [(iC tV.Framework.Graph.Points), (xF encTBar tV.Framework.Graph.Bars), (xF encTPlace tV.Framework.Places), (xF encInt tV.Kinds)]) rfl ag75 (infS inf75) sz75 (by exact rfl) (by exact rfl)) rfl rfl rfl rfl ?_
 refine Ob' fun r1 hr1 => ?_
 refine AOR.pure (@LT.callF Try.prog _ _ 146 _ _ [(.agg [(iC tV.Framework.Graph.Points), (xF encTBar tV.Framework.Graph.Bars), (xF encTPlace tV.Framework.Places), (xF encInt tV.Kinds)])] _ _ [] _ _ _ _ (w_spec_IsTensegrity tV r1 hr1) rfl cb146 (.cons (.agg (.cons (.same rfl) (.cons (.same rfl) (.cons (.same rfl) (.cons (.same rfl) .nil))))) .nil) rfl rfl trivial) ⟨rfl, rfl, trivial⟩ trivial rfl rfl ?_
 refine Op10 (LT.not rfl) rfl rfl rfl ?_
 refine On ?_
 refine AWR.cond rfl (fun hc2 => ?_) (fun hc2 => ?_)
 ·refine Ws (Wr ?_)
  refine Os00 (LT.tbuildSlice (n := 23) (enc := encInt) [] ([] : List Int) rfl rfl und37 ti3 rfl rfl rfl rfl (by decide) (fun _ => rfl) rfl) rfl rfl ?_
  refine asg (Cc (lo 23 (([] : List Int).length))) rfl rfl rfl rfl ?_
  refine asg (Bv false) rfl ⟨rfl, rfl⟩ rfl rfl ?_
  refine On ?_
  refine en [(2, (Cc (lo 23 (([] : List Int).length)))), (3, (Bv false))] [(23, (pR 3 encInt ([] : List Int)))] ⟨rfl, rfl, trivial⟩ ⟨rfl, trivial⟩ ?_
  refine AWR.ent (Ent.mv 23 0 rfl rfl) ?_
  refine en [(2, (Cc (lo 0 (([] : List Int).length)))), (3, (Bv false))] [(0, (pR 3 encInt ([] : List Int)))] ⟨rfl, rfl, trivial⟩ ⟨rfl, trivial⟩ ?_
  refine AWR.ret (FPost.mk (.inr rfl) ⟨rfl, rfl, trivial⟩ ⟨rfl, trivial⟩ rfl ⟨trivial, PermP.sc, trivial⟩ ⟨PermO.prow' perm_encInt, trivial⟩)
 ·refine AWR.skip (Ws (AWR.draw mixed ?_))
  refine Dp10 (LT.fieldPl rfl fo75_0) rfl rfl rfl ?_
  refine Dp11 (LT.bloadN (out := [(iC tV.Framework.Graph.Points), (xF encTBar tV.Framework.Graph.Bars), (xF encTPlace tV.Framework.Places)]) rfl ag29 (infS inf29) sz29 (by exact rfl) (by exact rfl)) rfl rfl rfl rfl ?_
  refine AOD.bind fun r3 hr3 => ?_
  refine AOD.step (@LT.callF Try.prog _ _ 14 _ _ [(.agg [(iC tV.Framework.Graph.Points), (xF encTBar tV.Framework.Graph.Bars), (xF encTPlace tV.Framework.Places)])] _ _ [] _ _ _ _ ((show Fw.Fn Try.prog 14 [(.agg [(iC tV.Framework.Graph.Points), (xF encTBar tV.Framework.Graph.Bars), (xF encTPlace tV.Framework.Places)])] [] (Cc (lo 25 r3.length)) [(25, (pR 37 (encLInt true) r3))] [] [25] from Fw.Fn.ren [(0, 25)] (w_spec_StressesOf tV.Framework r3 hr3) rfl)) rfl cb14 (.cons (.agg (.cons (.same rfl) (.cons (.same rfl) (.cons (.same rfl) .nil)))) .nil) rfl rfl trivial) ⟨rfl, rfl, trivial⟩ trivial rfl rfl ?_
  refine Dp10 (LT.fieldPl rfl fo75_1) rfl rfl rfl ?_
  refine Dp11 (LT.bload1 (c := (xF encInt tV.Kinds)) rfl ag37 (by exact rfl)) rfl rfl rfl rfl ?_
  refine Dp10 (LT.tlenRO rfl und37) rfl rfl rfl ?_
  refine AOD.bind fun r4 hr4 => ?_
  refine AOD.step (@LT.callF Try.prog _ _ 147 _ _ [(.c (lo 25 r3.length)), (.c (iC (tV.Kinds.length : Int)))] _ _ [(25, (pR 37 (encLInt true) r3))] _ _ _ _ ((show Fw.Fn Try.prog 147 [(.c (xF (encLInt false) r3)), (.c (iC (tV.Kinds.length : Int)))] [] (Cc (lo 27 r4.length)) [(27, (pR 37 (encLInt true) r4))] [] [27] from Fw.Fn.ren [(0, 27)] (w_spec_l19Tries r3 (tV.Kinds.length : Int) r4 hr4) rfl)) rfl cb147 (.cons (.c (.weak (.tloc (enc := encLInt true) rfl rfl) (QW.xsm qw_encLInt (fun h => h) _))) (.cons (.c (.same rfl)) .nil)) rfl rfl trivial) ⟨rfl, rfl, rfl, trivial⟩ ⟨rfl, trivial⟩ rfl rfl ?_
  refine Dp10 (LT.assign (v := (Cc (lo 27 r4.length))) rfl) rfl rfl rfl ?_
  refine AOD.nil (by kernel_rfl) ?_
  refine Ws (Ws ?_)
  refine en [(1, (Cc (.pl 21 0))), (4, (Cc (lo 27 r4.length)))] [(21, (.row 75 [[(iC tV.Framework.Graph.Points), (xF encTBar tV.Framework.Graph.Bars), (xF encTPlace tV.Framework.Places), (xF encInt tV.Kinds)]])), (27, (pR 37 (encLInt true) r4))] ⟨rfl, rfl, trivial⟩ ⟨rfl, rfl, trivial⟩ ?_
  refine Wr ?_
  refine asg (Iv 0) rfl ⟨rfl, rfl⟩ rfl rfl ?_
  refine On (AWR.block ?_)
  refine AWR.loopR (id := 0) (m_spec_FindStrictStress_L1 tV r4) (fun s5 => ([(1, (Cc (.pl 21 0))), (4, (Cc (lo 27 r4.length))), (5, (Iv s5))], [(21, (.row 75 [[(iC tV.Framework.Graph.Points), (xF encTBar tV.Framework.Graph.Bars), (xF encTPlace tV.Framework.Places), (xF encInt tV.Kinds)]])), (27, (pR 37 (encLInt true) r4))])) (fun b18 => ([], [])) (FPost Try.prog Try.f60.results.toList [] [0] (fun (t : ((List Int) × Bool)) => [(.c (lo 0 t.1.length)), (.c (bC t.2))]) (fun (t : ((List Int) × Bool)) => [(0, (pR 3 encInt t.1))])) ?_ (Ent.of ⟨rfl, rfl, rfl, trivial⟩ ⟨rfl, rfl, trivial⟩) rfl (fun b18 _ => ?_) (by intro r t σ m ht hk; injection ht with ht; subst ht; exact hk)
  ·intro s5
   unfold m_spec_FindStrictStress_L1
   refine Ws (Ws (Wr ?_))
   refine mv (Iv s5) rfl rfl rfl rfl ?_
   refine mv (Cc (lo 27 r4.length)) rfl rfl rfl rfl ?_
   refine Op10 (LT.lenLoc rfl und31) rfl rfl rfl ?_
   refine Op20 (LT.lss rfl) rfl rfl rfl rfl ?_
   refine On ?_
   refine AWR.cond rfl (fun hc19 => ?_) (fun hc19 => ?_)
   ·refine AWR.skip (Ws (AWR.block (Ws (AWR.draw mixed ?_))))
    refine Dp11 (LT.bloadN (out := [(iC tV.Framework.Graph.Points), (xF encTBar tV.Framework.Graph.Bars), (xF encTPlace tV.Framework.Places), (xF encInt tV.Kinds)]) rfl ag75 (infS inf75) sz75 (by exact rfl) (by exact rfl)) rfl rfl rfl rfl ?_
    refine Dp10 (LT.move (v := (Cc (lo 27 r4.length))) rfl) rfl rfl rfl ?_
    refine Dp10 (LT.move (v := (Iv s5)) rfl) rfl rfl rfl ?_
    refine AOD.bind fun x20 hx20 => ?_
    refine Dp21 (LT.tindexLoc rfl rfl el31 hx20) rfl rfl rfl rfl rfl ?_
    refine Dp11 (LT.tload1 (k := 0) rfl ag37 hx20 (by exact rfl) (by exact rfl)) rfl rfl rfl rfl ?_
    refine AOD.bind fun r21 hr21 => ?_
    refine AOD.pure (@LT.callF Try.prog _ _ 148 _ _ [(.agg [(iC tV.Framework.Graph.Points), (xF encTBar tV.Framework.Graph.Bars), (xF encTPlace tV.Framework.Places), (xF encInt tV.Kinds)]), (.c (xT encInt x20))] _ _ [] _ _ _ _ (w_spec_IsStrictStress tV x20 r21 hr21) rfl cb148 (.cons (.agg (.cons (.same rfl) (.cons (.same rfl) (.cons (.same rfl) (.cons (.same rfl) .nil))))) (.cons (.c (.weak (.same rfl) (QW.xsm qw_encInt (fun h => by cases h) _))) .nil)) rfl rfl trivial) ⟨rfl, rfl, rfl, trivial⟩ trivial rfl rfl ?_
    refine AOD.nil (by kernel_rfl) ?_
    refine AWR.cond rfl (fun hc22 => ?_) (fun hc22 => ?_)
    ·refine Ws (Wr ?_)
     refine Os00 (LT.tbuildSlice (n := 29) (enc := encInt) [] ([] : List Int) rfl rfl und37 ti3 rfl rfl rfl rfl (by decide) (fun _ => rfl) rfl) rfl rfl ?_
     refine mv (Cc (lo 27 r4.length)) rfl rfl rfl rfl ?_
     refine mv (Iv s5) rfl rfl rfl rfl ?_
     refine Ob' fun x23 hx23 => ?_
     refine Op21 (LT.tindexLoc rfl rfl el31 hx23) rfl rfl rfl rfl rfl ?_
     refine Op11 (LT.tload1 (k := 0) rfl ag37 hx23 (by exact rfl) (by exact rfl)) rfl rfl rfl rfl ?_
     refine Ob' fun u24 hu24 => ?_
     refine Os21 (LT.tappRO (enc := encInt) rfl  rfl und37 ti3 rfl (by decide) (by decide) (fun _ => rfl) (lim_le hu24)) rfl rfl rfl rfl rfl ?_
     refine asg (Cc (lo 29 ((([] : List Int) ++ x23).length))) rfl rfl rfl rfl ?_
     refine asg (Bv true) rfl ⟨rfl, rfl⟩ rfl rfl ?_
     refine On ?_
     refine en [(2, (Cc (lo 29 ((([] : List Int) ++ x23).length)))), (3, (Bv true))] [(29, (pR 3 encInt (([] : List Int) ++ x23)))] ⟨rfl, rfl, trivial⟩ ⟨rfl, trivial⟩ ?_
     refine AWR.ent (Ent.mv 29 0 rfl rfl) ?_
     refine en [(2, (Cc (lo 0 ((([] : List Int) ++ x23).length)))), (3, (Bv true))] [(0, (pR 3 encInt (([] : List Int) ++ x23)))] ⟨rfl, rfl, trivial⟩ ⟨rfl, trivial⟩ ?_
     refine AWR.ret ⟨rfl, FPost.mk (.inr rfl) ⟨rfl, rfl, trivial⟩ ⟨rfl, trivial⟩ rfl ⟨trivial, PermP.sc, trivial⟩ ⟨PermO.prow' perm_encInt, trivial⟩⟩
    ·refine AWR.skip (AWR.blk (Wr ?_))
     refine mv (Iv s5) rfl rfl rfl rfl ?_
     refine Op20 (LT.add rfl) rfl ⟨rfl, rfl⟩ rfl rfl ?_
     refine asg (Iv (w64 (s5 + 1))) rfl rfl rfl rfl ?_
     refine On ?_
     refine AWR.nil ⟨rfl, Ent.of ⟨rfl, rfl, rfl, trivial⟩ ⟨rfl, rfl, trivial⟩⟩
   ·refine AWR.exit_end rfl ⟨rfl, Ent.of trivial trivial⟩
  ·refine Ws (Wr ?_)
   refine Os00 (LT.tbuildSlice (n := 30) (enc := encInt) [] ([] : List Int) rfl rfl und37 ti3 rfl rfl rfl rfl (by decide) (fun _ => rfl) rfl) rfl rfl ?_
   refine asg (Cc (lo 30 (([] : List Int).length))) rfl rfl rfl rfl ?_
   refine asg (Bv false) rfl ⟨rfl, rfl⟩ rfl rfl ?_
   refine On ?_
   refine en [(2, (Cc (lo 30 (([] : List Int).length)))), (3, (Bv false))] [(30, (pR 3 encInt ([] : List Int)))] ⟨rfl, rfl, trivial⟩ ⟨rfl, trivial⟩ ?_
   refine AWR.ent (Ent.mv 30 0 rfl rfl) ?_
   refine en [(2, (Cc (lo 0 (([] : List Int).length)))), (3, (Bv false))] [(0, (pR 3 encInt ([] : List Int)))] ⟨rfl, rfl, trivial⟩ ⟨rfl, trivial⟩ ?_
   refine AWR.ret (FPost.mk (.inr rfl) ⟨rfl, rfl, trivial⟩ ⟨rfl, trivial⟩ rfl ⟨trivial, PermP.sc, trivial⟩ ⟨PermO.prow' perm_encInt, trivial⟩)
theorem w_impl_IsProperStress (tV : TTensegrity) (w : (List Int)) : ∀ t, m_impl_IsProperStress tV w = some t → Fw.Fn Try.prog 220 [(.agg [(iC tV.Framework.Graph.Points), (xF encTBar tV.Framework.Graph.Bars), (xF encTPlace tV.Framework.Places), (xF encInt tV.Kinds)]), (.c (xF encInt w))] [] (.s (.c (bC t))) [] [] [] := by
 refine Fw.Fn.of (P := Try.prog) (X := []) (pn := []) (rs := (fun (t : Bool) => [(.c (bC t))])) (dfs := (fun (t : Bool) => [])) Try.func220 rfl Try.ntmps220 (Nat.le_of_ble_eq_true rfl) rfl ?_
 intro w0 U0 R0 g0
 unfold m_impl_IsProperStress
 refine Ws (Wr ?_)
 refine Os10 (LT.box (n := 21) (v := (.agg [(iC tV.Framework.Graph.Points), (xF encTBar tV.Framework.Graph.Bars), (xF encTPlace tV.Framework.Places), (xF encInt tV.Kinds)])) rfl sz75 (by exact rfl)) rfl rfl rfl ?_
 refine asg (Bv false) rfl ⟨rfl, rfl⟩ rfl rfl ?_
 refine On (Ws (Ws ?_))
 refine AWR.joinK (fun j4 => ([(1, (Cc (xF encInt w))), (2, (Cc (.pl 21 0))), (16, (Bv j4))], [(21, (.row 75 [[(iC tV.Framework.Graph.Points), (xF encTBar tV.Framework.Graph.Bars), (xF encTPlace tV.Framework.Places), (xF encInt tV.Kinds)]]))])) ?_ (fun j4 _ => ?_)
 ·refine Wr ?_
  refine Op11 (LT.bloadN (out := [(iC tV.Framework.Graph.Points), (xF encTBar tV.Framework.Graph.Bars), (xF encTPlace tV.Framework.Places), (xF encInt tV.Kinds)]) rfl ag75 (infS inf75) sz75 (by exact rfl) (by exact rfl)) rfl rfl rfl rfl ?_
  refine Ob' fun r5 hr5 => ?_
  refine AOR.pure (@LT.callF Try.prog _ _ 150 _ _ [(.agg [(iC tV.Framework.Graph.Points), (xF encTBar tV.Framework.Graph.Bars), (xF encTPlace tV.Framework.Places), (xF encInt tV.Kinds)])] _ _ [] _ _ _ _ (w_impl_IsTensegrity tV r5 hr5) rfl cb150 (.cons (.agg (.cons (.same rfl) (.cons (.same rfl) (.cons (.same rfl) (.cons (.same rfl) .nil))))) .nil) rfl rfl trivial) ⟨rfl, rfl, trivial⟩ trivial rfl rfl ?_
  refine Op10 (LT.not rfl) rfl rfl rfl ?_
  refine mv (Bv (!r5)) rfl rfl rfl rfl ?_
  refine AOR.split (fun hb6 => ?_) (fun hb6 => ?_)
  ·refine Ok rfl rfl rfl (by rw [hb6]; rfl) rfl ?_
   refine Ok rfl rfl rfl (by rw [hb6]; rfl) rfl ?_
   refine Ok rfl rfl rfl (by rw [hb6]; rfl) rfl ?_
   refine Ok rfl rfl rfl (by rw [hb6]; rfl) rfl ?_
   refine Ok rfl rfl rfl (by rw [hb6]; rfl) rfl ?_
   refine Op20 (LT.pickT (v := (Bv true)) rfl hb6) rfl ⟨rfl, rfl⟩ rfl rfl ?_
   refine On ?_
   refine AWR.nil ⟨rfl, Ent.of ⟨rfl, rfl, rfl, trivial⟩ ⟨rfl, trivial⟩⟩
  ·refine Op10 (LT.fieldPl rfl fo75_0) rfl ⟨_, rfl, .inl ⟨_, rfl, (by rw [hb6]; rfl)⟩⟩ rfl ?_
   refine Op11 (LT.bloadN (out := [(iC tV.Framework.Graph.Points), (xF encTBar tV.Framework.Graph.Bars), (xF encTPlace tV.Framework.Places)]) rfl ag29 (infS inf29) sz29 (by exact rfl) (by exact rfl)) rfl rfl ⟨_, rfl, .inl ⟨_, rfl, (by rw [hb6]; rfl)⟩⟩ rfl ?_
   refine mv (Cc (xF encInt w)) rfl rfl ⟨_, rfl, .inl ⟨_, rfl, (by rw [hb6]; rfl)⟩⟩ rfl ?_
   refine Ob' fun r7 hr7 => ?_
   refine AOR.pure (@LT.callF Try.prog _ _ 17 _ _ [(.agg [(iC tV.Framework.Graph.Points), (xF encTBar tV.Framework.Graph.Bars), (xF encTPlace tV.Framework.Places)]), (.c (xF encInt w))] _ _ [] _ _ _ _ (w_impl_IsStress tV.Framework w r7 hr7) rfl cb17 (.cons (.agg (.cons (.same rfl) (.cons (.same rfl) (.cons (.same rfl) .nil)))) (.cons (.c (.same rfl)) .nil)) rfl rfl trivial) ⟨rfl, rfl, rfl, trivial⟩ trivial ⟨_, rfl, .inl ⟨_, rfl, (by rw [hb6]; rfl)⟩⟩ rfl ?_
   refine Op10 (LT.not rfl) rfl ⟨_, rfl, .inl ⟨_, rfl, (by rw [hb6]; rfl)⟩⟩ rfl ?_
   refine Op20 (LT.pickF (v := (Bv (!r7))) rfl hb6) rfl rfl rfl rfl ?_
   refine On ?_
   refine AWR.nil ⟨rfl, Ent.of ⟨rfl, rfl, rfl, trivial⟩ ⟨rfl, trivial⟩⟩
 ·refine AWR.cond rfl (fun hc8 => ?_) (fun hc8 => ?_)
  ·refine Ws (Wr ?_)
   refine asg (Bv false) rfl ⟨rfl, rfl⟩ rfl rfl ?_
   refine On ?_
   refine AWR.ret (FPost.mk (.inr rfl) ⟨rfl, trivial⟩ trivial rfl ⟨PermP.sc, trivial⟩ trivial)
  ·refine AWR.skip (Ws (Ws (Wr ?_)))
   refine Op10 (LT.fieldPl rfl fo75_1) rfl rfl rfl ?_
   refine Op11 (LT.bload1 (c := (xF encInt tV.Kinds)) rfl ag37 (by exact rfl)) rfl rfl rfl rfl ?_
   refine Op10 (LT.tlenRO rfl und37) rfl rfl rfl ?_
   refine mv (Iv 0) rfl ⟨rfl, rfl⟩ rfl rfl ?_
   refine On (AWR.block ?_)
   refine AWR.loopR (id := 0) (m_impl_IsProperStress_L1 tV w) (fun s9 => ([(1, (Cc (xF encInt w))), (18, (Cc (xF encInt tV.Kinds))), (19, (Iv (tV.Kinds.length : Int))), (20, (Iv s9))], [])) (fun b46 => ([], [])) (FPost Try.prog Try.f220.results.toList [] [] (fun (t : Bool) => [(.c (bC t))]) (fun (t : Bool) => [])) ?_ (Ent.of ⟨rfl, rfl, rfl, rfl, trivial⟩ trivial) rfl (fun b46 _ => ?_) (by intro r t σ m ht hk; injection ht with ht; subst ht; exact hk)
   ·intro s9
    unfold m_impl_IsProperStress_L1
    refine Ws (Wr ?_)
    refine Op20 (LT.lss rfl) rfl rfl rfl rfl ?_
    refine On (Ws ?_)
    refine AWR.cond rfl (fun hc47 => ?_) (fun hc47 => ?_)
    ·refine AWR.skip (Ws (AWR.block (Ws (Wr ?_))))
     refine mv (Iv s9) rfl rfl rfl rfl ?_
     refine Ob' fun x48 hx48 => ?_
     refine Op20 (LT.tindexRO (enc := encInt) rfl el37 hx48 sz3) rfl rfl rfl rfl ?_
     refine Op10 (LT.loadPx1 rfl ag3) rfl rfl rfl ?_
     refine asg (Iv s9) rfl rfl rfl rfl ?_
     refine asg (Iv x48) rfl rfl rfl rfl ?_
     refine On (Ws ?_)
     refine AWR.joinK (fun j56 => ([(1, (Cc (xF encInt w))), (18, (Cc (xF encInt tV.Kinds))), (19, (Iv (tV.Kinds.length : Int))), (20, (Iv s9)), (44, (Bv j56))], [])) ?_ (fun j56 _ => ?_)
     ·refine Wr ?_
      refine mv (Iv x48) rfl rfl rfl rfl ?_
      refine Op20 (LT.eql rfl) rfl ⟨rfl, rfl⟩ rfl rfl ?_
      refine mv (Bv (x48 == 1)) rfl rfl rfl rfl ?_
      refine AOR.split (fun hb57 => ?_) (fun hb57 => ?_)
      ·refine mv (Cc (xF encInt w)) rfl rfl ⟨_, rfl, .inl ⟨_, rfl, (by rw [hb57]; rfl)⟩⟩ rfl ?_
       refine mv (Iv s9) rfl rfl ⟨_, rfl, .inl ⟨_, rfl, (by rw [hb57]; rfl)⟩⟩ rfl ?_
       refine Ob' fun x58 hx58 => ?_
       refine Op20 (LT.tindexRO (enc := encInt) rfl el37 hx58 sz3) rfl rfl ⟨_, rfl, .inl ⟨_, rfl, (by rw [hb57]; rfl)⟩⟩ rfl ?_
       refine Op10 (LT.loadPx1 rfl ag3) rfl ⟨_, rfl, .inl ⟨_, rfl, (by rw [hb57]; rfl)⟩⟩ rfl ?_
       refine Op20 (LT.lss rfl) rfl ⟨rfl, rfl⟩ ⟨_, rfl, .inl ⟨_, rfl, (by rw [hb57]; rfl)⟩⟩ rfl ?_
       refine Op20 (LT.pickT (v := (Bv (decide (x58 < 0)))) rfl hb57) rfl rfl rfl rfl ?_
       refine mv (Bv (decide (x58 < 0))) rfl rfl rfl rfl ?_
       refine AOR.split (fun hb59 => ?_) (fun hb59 => ?_)
       ·refine Ok rfl rfl rfl (by rw [hb59]; rfl) rfl ?_
        refine Ok rfl rfl rfl (by rw [hb59]; rfl) rfl ?_
        refine Ok rfl rfl rfl (by rw [hb59]; rfl) rfl ?_
        refine Oj rfl rfl rfl rfl ?_
        refine Oj rfl rfl rfl rfl ?_
        refine Oj rfl rfl rfl rfl ?_
        refine Oj rfl rfl rfl rfl ?_
        refine Oj rfl rfl rfl rfl ?_
        refine Ok rfl rfl rfl (by rw [hb59]; rfl) rfl ?_
        refine Op20 (LT.pickT (v := (Bv true)) rfl hb59) rfl ⟨rfl, rfl⟩ rfl rfl ?_
        refine On ?_
        refine AWR.nil ⟨rfl, Ent.of ⟨rfl, rfl, rfl, rfl, rfl, trivial⟩ trivial⟩
       ·refine mv (Iv x48) rfl rfl ⟨_, rfl, .inl ⟨_, rfl, (by rw [hb59]; rfl)⟩⟩ rfl ?_
        refine Op20 (LT.eql rfl) rfl ⟨rfl, rfl⟩ ⟨_, rfl, .inl ⟨_, rfl, (by rw [hb59]; rfl)⟩⟩ rfl ?_
        refine mv (Bv (x48 == 2)) rfl rfl ⟨_, rfl, .inl ⟨_, rfl, (by rw [hb59]; rfl)⟩⟩ rfl ?_
        refine AOR.split (fun hb60 => ?_) (fun hb60 => ?_)
        ·refine mv (Cc (xF encInt w)) rfl rfl ⟨_, rfl, .inl ⟨_, rfl, (by rw [hb60]; rfl)⟩⟩ rfl ?_
         refine mv (Iv s9) rfl rfl ⟨_, rfl, .inl ⟨_, rfl, (by rw [hb60]; rfl)⟩⟩ rfl ?_
         refine Ob' fun x61 hx61 => ?_
         refine Op20 (LT.tindexRO (enc := encInt) rfl el37 hx61 sz3) rfl rfl ⟨_, rfl, .inl ⟨_, rfl, (by rw [hb60]; rfl)⟩⟩ rfl ?_
         refine Op10 (LT.loadPx1 rfl ag3) rfl ⟨_, rfl, .inl ⟨_, rfl, (by rw [hb60]; rfl)⟩⟩ rfl ?_
         refine Op20 (LT.gtr rfl) rfl ⟨rfl, rfl⟩ ⟨_, rfl, .inl ⟨_, rfl, (by rw [hb60]; rfl)⟩⟩ rfl ?_
         refine Op20 (LT.pickT (v := (Bv (decide (0 < x61)))) rfl hb60) rfl rfl ⟨_, rfl, .inl ⟨_, rfl, (by rw [hb59]; rfl)⟩⟩ rfl ?_
         refine Op20 (LT.pickF (v := (Bv (decide (0 < x61)))) rfl hb59) rfl rfl rfl rfl ?_
         refine On ?_
         refine AWR.nil ⟨rfl, Ent.of ⟨rfl, rfl, rfl, rfl, rfl, trivial⟩ trivial⟩
        ·refine Ok rfl rfl rfl (by rw [hb60]; rfl) rfl ?_
         refine Ok rfl rfl rfl (by rw [hb60]; rfl) rfl ?_
         refine Ok rfl rfl rfl (by rw [hb60]; rfl) rfl ?_
         refine Ok rfl rfl rfl (by rw [hb60]; rfl) rfl ?_
         refine Ok rfl rfl rfl (by rw [hb60]; rfl) rfl ?_
         refine Op20 (LT.pickF (v := (Bv false)) rfl hb60) rfl ⟨rfl, rfl⟩ ⟨_, rfl, .inl ⟨_, rfl, (by rw [hb59]; rfl)⟩⟩ rfl ?_
         refine Op20 (LT.pickF (v := (Bv false)) rfl hb59) rfl rfl rfl rfl ?_
         refine On ?_
         refine AWR.nil ⟨rfl, Ent.of ⟨rfl, rfl, rfl, rfl, rfl, trivial⟩ trivial⟩
      ·refine Ok rfl rfl rfl (by rw [hb57]; rfl) rfl ?_
       refine Ok rfl rfl rfl (by rw [hb57]; rfl) rfl ?_
       refine Ok rfl rfl rfl (by rw [hb57]; rfl) rfl ?_
       refine Ok rfl rfl rfl (by rw [hb57]; rfl) rfl ?_
       refine Ok rfl rfl rfl (by rw [hb57]; rfl) rfl ?_
       refine Op20 (LT.pickF (v := (Bv false)) rfl hb57) rfl ⟨rfl, rfl⟩ rfl rfl ?_
       refine mv (Bv false) rfl rfl rfl rfl ?_
       refine mv (Iv x48) rfl rfl ⟨_, rfl, .inl ⟨_, rfl, rfl⟩⟩ rfl ?_
       refine Op20 (LT.eql rfl) rfl ⟨rfl, rfl⟩ ⟨_, rfl, .inl ⟨_, rfl, rfl⟩⟩ rfl ?_
       refine mv (Bv (x48 == 2)) rfl rfl ⟨_, rfl, .inl ⟨_, rfl, rfl⟩⟩ rfl ?_
       refine AOR.split (fun hb62 => ?_) (fun hb62 => ?_)
       ·refine mv (Cc (xF encInt w)) rfl rfl ⟨_, rfl, .inl ⟨_, rfl, (by rw [hb62]; rfl)⟩⟩ rfl ?_
        refine mv (Iv s9) rfl rfl ⟨_, rfl, .inl ⟨_, rfl, (by rw [hb62]; rfl)⟩⟩ rfl ?_
        refine Ob' fun x63 hx63 => ?_
        refine Op20 (LT.tindexRO (enc := encInt) rfl el37 hx63 sz3) rfl rfl ⟨_, rfl, .inl ⟨_, rfl, (by rw [hb62]; rfl)⟩⟩ rfl ?_
        refine Op10 (LT.loadPx1 rfl ag3) rfl ⟨_, rfl, .inl ⟨_, rfl, (by rw [hb62]; rfl)⟩⟩ rfl ?_
        refine Op20 (LT.gtr rfl) rfl ⟨rfl, rfl⟩ ⟨_, rfl, .inl ⟨_, rfl, (by rw [hb62]; rfl)⟩⟩ rfl ?_
        refine Op20 (LT.pickT (v := (Bv (decide (0 < x63)))) rfl hb62) rfl rfl ⟨_, rfl, .inl ⟨_, rfl, rfl⟩⟩ rfl ?_
        refine Op20 (LT.pickF (v := (Bv (decide (0 < x63)))) rfl rfl) rfl rfl rfl rfl ?_
        refine On ?_
        refine AWR.nil ⟨rfl, Ent.of ⟨rfl, rfl, rfl, rfl, rfl, trivial⟩ trivial⟩
       ·refine Ok rfl rfl rfl (by rw [hb62]; rfl) rfl ?_
        refine Ok rfl rfl rfl (by rw [hb62]; rfl) rfl ?_
        refine Ok rfl rfl rfl (by rw [hb62]; rfl) rfl ?_
        refine Ok rfl rfl rfl (by rw [hb62]; rfl) rfl ?_
        refine Ok rfl rfl rfl (by rw [hb62]; rfl) rfl ?_
        refine Op20 (LT.pickF (v := (Bv false)) rfl hb62) rfl ⟨rfl, rfl⟩ ⟨_, rfl, .inl ⟨_, rfl, rfl⟩⟩ rfl ?_
        refine Op20 (LT.pickF (v := (Bv false)) rfl rfl) rfl rfl rfl rfl ?_
        refine On ?_
        refine AWR.nil ⟨rfl, Ent.of ⟨rfl, rfl, rfl, rfl, rfl, trivial⟩ trivial⟩
     ·refine AWR.cond rfl (fun hc64 => ?_) (fun hc64 => ?_)
      ·refine Ws (Wr ?_)
       refine asg (Bv false) rfl ⟨rfl, rfl⟩ rfl rfl ?_
       refine On ?_
       refine AWR.ret ⟨rfl, FPost.mk (.inr rfl) ⟨rfl, trivial⟩ trivial rfl ⟨PermP.sc, trivial⟩ trivial⟩
      ·refine AWR.skip (AWR.blk (Wr ?_))
       refine Op20 (LT.add rfl) rfl ⟨rfl, rfl⟩ rfl rfl ?_
       refine mv (Iv (w64 (s9 + 1))) rfl rfl rfl rfl ?_
       refine On ?_
       refine AWR.nil ⟨rfl, Ent.of ⟨rfl, rfl, rfl, rfl, trivial⟩ trivial⟩
    ·refine AWR.exit_end rfl ⟨rfl, Ent.of trivial trivial⟩
   ·refine Ws (Wr ?_)
    refine asg (Bv true) rfl ⟨rfl, rfl⟩ rfl rfl ?_
    refine On ?_
    refine AWR.ret (FPost.mk (.inr rfl) ⟨rfl, trivial⟩ trivial rfl ⟨PermP.sc, trivial⟩ trivial)
theorem w_impl_IsStrictStress (tV : TTensegrity) (w : (List Int)) : ∀ t, m_impl_IsStrictStress tV w = some t → Fw.Fn Try.prog 152 [(.agg [(iC tV.Framework.Graph.Points), (xF encTBar tV.Framework.Graph.Bars), (xF encTPlace tV.Framework.Places), (xF encInt tV.Kinds)]), (.c (xF encInt w))] [] (.s (.c (bC t))) [] [] [] := by
 refine Fw.Fn.of (P := Try.prog) (X := []) (pn := []) (rs := (fun (t : Bool) => [(.c (bC t))])) (dfs := (fun (t : Bool) => [])) Try.func152 rfl Try.ntmps152 (Nat.le_of_ble_eq_true rfl) rfl ?_
 intro w0 U0 R0 g0
 unfold m_impl_IsStrictStress
 refine Ws (Wr ?_)
 refine Os10 (LT.box (n := 21) (v := (.agg [(iC tV.Framework.Graph.Points), (xF encTBar tV.Framework.Graph.Bars), (xF encTPlace tV.Framework.Places), (xF encInt tV.Kinds)])) rfl sz75 (by exact rfl)) rfl rfl rfl ?_
 refine asg (Bv false) rfl ⟨rfl, rfl⟩ rfl rfl ?_
 refine On (Ws (Ws (Wr ?_)))
 refine Op11 (LT.bloadN (out := [(iC tV.Framework.Graph.Points), (xF encTBar tV.Framework.Graph.Bars), (xF encTPlace tV.Framework.Places), (xF encInt tV.Kinds)]) rfl ag75 (infS inf75) sz75 (by exact rfl) (by exact rfl)) rfl rfl rfl rfl ?_
 refine mv (Cc (xF encInt w)) rfl rfl rfl rfl ?_
 refine Ob' fun r1 hr1 => ?_
 refine AOR.pure (@LT.callF Try.prog _ _ 220 _ _ [(.agg [(iC tV.Framework.Graph.Points), (xF encTBar tV.Framework.Graph.Bars), (xF encTPlace tV.Framework.Places), (xF encInt tV.Kinds)]), (.c (xF encInt w))] _ _ [] _ _ _ _ (w_impl_IsProperStress tV w r1 hr1) rfl cb220 (.cons (.agg (.cons (.same rfl) (.cons (.same rfl) (.cons (.same rfl) (.cons (.same rfl) .nil))))) (.cons (.c (.same rfl)) .nil)) rfl rfl trivial) ⟨rfl, rfl, rfl, trivial⟩ trivial rfl rfl ?_
 refine Op10 (LT.not rfl) rfl rfl rfl ?_
 refine On ?_
 refine AWR.cond rfl (fun hc2 => ?_) (fun hc2 => ?_)
 ·refine Ws (Wr ?_)
  refine asg (Bv false) rfl ⟨rfl, rfl⟩ rfl rfl ?_
  refine On ?_
  refine AWR.ret (FPost.mk (.inr rfl) ⟨rfl, trivial⟩ trivial rfl ⟨PermP.sc, trivial⟩ trivial)
 ·refine AWR.skip (Ws (Ws (Wr ?_)))
  refine Op10 (LT.fieldPl rfl fo75_1) rfl rfl rfl ?_
  refine Op11 (LT.bload1 (c := (xF encInt tV.Kinds)) rfl ag37 (by exact rfl)) rfl rfl rfl rfl ?_
  refine Op10 (LT.tlenRO rfl und37) rfl rfl rfl ?_
  refine mv (Iv 0) rfl ⟨rfl, rfl⟩ rfl rfl ?_
  refine On (AWR.block ?_)
  refine AWR.loopR (id := 0) (m_impl_IsStrictStress_L1 tV w) (fun s3 => ([(1, (Cc (xF encInt w))), (12, (Cc (xF encInt tV.Kinds))), (13, (Iv (tV.Kinds.length : Int))), (14, (Iv s3))], [])) (fun b20 => ([], [])) (FPost Try.prog Try.f152.results.toList [] [] (fun (t : Bool) => [(.c (bC t))]) (fun (t : Bool) => [])) ?_ (Ent.of ⟨rfl, rfl, rfl, rfl, trivial⟩ trivial) rfl (fun b20 _ => ?_) (by intro r t σ m ht hk; injection ht with ht; subst ht; exact hk)
  ·intro s3
   unfold m_impl_IsStrictStress_L1
   refine Ws (Wr ?_)
   refine Op20 (LT.lss rfl) rfl rfl rfl rfl ?_
   refine On (Ws ?_)
   refine AWR.cond rfl (fun hc21 => ?_) (fun hc21 => ?_)
   ·refine AWR.skip (Ws (AWR.block (Ws (Wr ?_))))
    refine mv (Iv s3) rfl rfl rfl rfl ?_
    refine Ob' fun x22 hx22 => ?_
    refine Op20 (LT.tindexRO (enc := encInt) rfl el37 hx22 sz3) rfl rfl rfl rfl ?_
    refine Op10 (LT.loadPx1 rfl ag3) rfl rfl rfl ?_
    refine asg (Iv s3) rfl rfl rfl rfl ?_
    refine asg (Iv x22) rfl rfl rfl rfl ?_
    refine On (Ws ?_)
    refine AWR.joinK (fun j25 => ([(1, (Cc (xF encInt w))), (12, (Cc (xF encInt tV.Kinds))), (13, (Iv (tV.Kinds.length : Int))), (14, (Iv s3)), (27, (Bv j25))], [])) ?_ (fun j25 _ => ?_)
    ·refine Wr ?_
     refine mv (Iv x22) rfl rfl rfl rfl ?_
     refine Op20 (LT.neq rfl) rfl ⟨rfl, rfl⟩ rfl rfl ?_
     refine mv (Bv (x22 != 0)) rfl rfl rfl rfl ?_
     refine AOR.split (fun hb26 => ?_) (fun hb26 => ?_)
     ·refine mv (Cc (xF encInt w)) rfl rfl ⟨_, rfl, .inl ⟨_, rfl, (by rw [hb26]; rfl)⟩⟩ rfl ?_
      refine mv (Iv s3) rfl rfl ⟨_, rfl, .inl ⟨_, rfl, (by rw [hb26]; rfl)⟩⟩ rfl ?_
      refine Ob' fun x27 hx27 => ?_
      refine Op20 (LT.tindexRO (enc := encInt) rfl el37 hx27 sz3) rfl rfl ⟨_, rfl, .inl ⟨_, rfl, (by rw [hb26]; rfl)⟩⟩ rfl ?_
      refine Op10 (LT.loadPx1 rfl ag3) rfl ⟨_, rfl, .inl ⟨_, rfl, (by rw [hb26]; rfl)⟩⟩ rfl ?_
      refine Op20 (LT.eql rfl) rfl ⟨rfl, rfl⟩ ⟨_, rfl, .inl ⟨_, rfl, (by rw [hb26]; rfl)⟩⟩ rfl ?_
      refine Op20 (LT.pickT (v := (Bv (x27 == 0))) rfl hb26) rfl rfl rfl rfl ?_
      refine On ?_
      refine AWR.nil ⟨rfl, Ent.of ⟨rfl, rfl, rfl, rfl, rfl, trivial⟩ trivial⟩
     ·refine Ok rfl rfl rfl (by rw [hb26]; rfl) rfl ?_
      refine Ok rfl rfl rfl (by rw [hb26]; rfl) rfl ?_
      refine Ok rfl rfl rfl (by rw [hb26]; rfl) rfl ?_
      refine Ok rfl rfl rfl (by rw [hb26]; rfl) rfl ?_
      refine Ok rfl rfl rfl (by rw [hb26]; rfl) rfl ?_
      refine Op20 (LT.pickF (v := (Bv false)) rfl hb26) rfl ⟨rfl, rfl⟩ rfl rfl ?_
      refine On ?_
      refine AWR.nil ⟨rfl, Ent.of ⟨rfl, rfl, rfl, rfl, rfl, trivial⟩ trivial⟩
    ·refine AWR.cond rfl (fun hc28 => ?_) (fun hc28 => ?_)
     ·refine Ws (Wr ?_)
      refine asg (Bv false) rfl ⟨rfl, rfl⟩ rfl rfl ?_
      refine On ?_
      refine AWR.ret ⟨rfl, FPost.mk (.inr rfl) ⟨rfl, trivial⟩ trivial rfl ⟨PermP.sc, trivial⟩ trivial⟩
     ·refine AWR.skip (AWR.blk (Wr ?_))
      refine Op20 (LT.add rfl) rfl ⟨rfl, rfl⟩ rfl rfl ?_
      refine mv (Iv (w64 (s3 + 1))) rfl rfl rfl rfl ?_
      refine On ?_
      refine AWR.nil ⟨rfl, Ent.of ⟨rfl, rfl, rfl, rfl, trivial⟩ trivial⟩
   ·refine AWR.exit_end rfl ⟨rfl, Ent.of trivial trivial⟩
  ·refine Ws (Wr ?_)
   refine asg (Bv true) rfl ⟨rfl, rfl⟩ rfl rfl ?_
   refine On ?_
   refine AWR.ret (FPost.mk (.inr rfl) ⟨rfl, trivial⟩ trivial rfl ⟨PermP.sc, trivial⟩ trivial)
theorem w_impl_FindStrictStress_c1_B (recF : ((List Int) → Int → (List (List Int)) → TTensegrity → Option ((List Int) × Bool × (List (List Int)) × TTensegrity))) (hrec : ∀ (w : (List Int)) (i : Int) (capaV : (List (List Int))) (capbV : TTensegrity), ∀ t, recF w i capaV capbV = some t → Fw.Fn Try.prog 151 [(.c (lo 0 w.length)), (.c (iC i)), (.c (.pl 1 0)), (.c (.pl 2 0)), (.c (.pl 3 0))] [(0, (pR 3 encInt w)), (1, (.row 31 [[(xT (encLInt true) capaV)]])), (2, (.row 75 [[(iC capbV.Framework.Graph.Points), (lo 4 capbV.Framework.Graph.Bars.length), (lo 5 capbV.Framework.Places.length), (lo 6 capbV.Kinds.length)]])), (3, (.row 126 [[(.fn 151 [1, 2, 3])]])), (4, (pR 62 encTBar capbV.Framework.Graph.Bars)), (5, (pR 94 encTPlace capbV.Framework.Places)), (6, (pR 3 encInt capbV.Kinds))] (resA [(.c (lo 0 t.1.length)), (.c (bC t.2.1))]) [(0, (pR 3 encInt t.1)), (1, (.row 31 [[(xT (encLInt true) t.2.2.1)]])), (2, (.row 75 [[(iC t.2.2.2.Framework.Graph.Points), (lo 4 t.2.2.2.Framework.Graph.Bars.length), (lo 5 t.2.2.2.Framework.Places.length), (lo 6 t.2.2.2.Kinds.length)]])), (3, (.row 126 [[(.fn 151 [1, 2, 3])]])), (4, (pR 62 encTBar t.2.2.2.Framework.Graph.Bars)), (5, (pR 94 encTPlace t.2.2.2.Framework.Places)), (6, (pR 3 encInt t.2.2.2.Kinds))] [0, 1, 2, 3, 4, 5, 6] [0]) (w : (List Int)) (i : Int) (capaV : (List (List Int))) (capbV : TTensegrity) : ∀ t, m_impl_FindStrictStress_c1_B recF w i capaV capbV = some t → Fw.Fn Try.prog 151 [(.c (lo 0 w.length)), (.c (iC i)), (.c (.pl 1 0)), (.c (.pl 2 0)), (.c (.pl 3 0))] [(0, (pR 3 encInt w)), (1, (.row 31 [[(xT (encLInt true) capaV)]])), (2, (.row 75 [[(iC capbV.Framework.Graph.Points), (lo 4 capbV.Framework.Graph.Bars.length), (lo 5 capbV.Framework.Places.length), (lo 6 capbV.Kinds.length)]])), (3, (.row 126 [[(.fn 151 [1, 2, 3])]])), (4, (pR 62 encTBar capbV.Framework.Graph.Bars)), (5, (pR 94 encTPlace capbV.Framework.Places)), (6, (pR 3 encInt capbV.Kinds))] (resA [(.c (lo 0 t.1.length)), (.c (bC t.2.1))]) [(0, (pR 3 encInt t.1)), (1, (.row 31 [[(xT (encLInt true) t.2.2.1)]])), (2, (.row 75 [[(iC t.2.2.2.Framework.Graph.Points), (lo 4 t.2.2.2.Framework.Graph.Bars.length), (lo 5 t.2.2.2.Framework.Places.length), (lo 6 t.2.2.2.Kinds.length)]])), (3, (.row 126 [[(.fn 151 [1, 2, 3])]])), (4, (pR 62 encTBar t.2.2.2.Framework.Graph.Bars)), (5, (pR 94 encTPlace t.2.2.2.Framework.Places)), (6, (pR 3 encInt t.2.2.2.Kinds))] [0, 1, 2, 3, 4, 5, 6] [0] := by
 refine Fw.Fn.of (P := Try.prog) (X := [0]) (pn := [1, 2, 4, 5, 6, 3]) (rs := (fun (t : ((List Int) × Bool × (List (List Int)) × TTensegrity)) => [(.c (lo 0 t.1.length)), (.c (bC t.2.1))])) (dfs := (fun (t : ((List Int) × Bool × (List (List Int)) × TTensegrity)) => [(0, (pR 3 encInt t.1)), (1, (.row 31 [[(xT (encLInt true) t.2.2.1)]])), (2, (.row 75 [[(iC t.2.2.2.Framework.Graph.Points), (lo 4 t.2.2.2.Framework.Graph.Bars.length), (lo 5 t.2.2.2.Framework.Places.length), (lo 6 t.2.2.2.Kinds.length)]])), (3, (.row 126 [[(.fn 151 [1, 2, 3])]])), (4, (pR 62 encTBar t.2.2.2.Framework.Graph.Bars)), (5, (pR 94 encTPlace t.2.2.2.Framework.Places)), (6, (pR 3 encInt t.2.2.2.Kinds))])) Try.func151 rfl Try.ntmps151 (Nat.le_of_ble_eq_true rfl) rfl ?_
 intro w0 U0 R0 g0
 unfold m_impl_FindStrictStress_c1_B
 refine Ws (Wr ?_)
 refine asg (Cc (sC nilV)) rfl ⟨rfl, rfl⟩ rfl rfl ?_
 refine asg (Bv false) rfl ⟨rfl, rfl⟩ rfl rfl ?_
 refine On (Ws (Ws (Wr ?_)))
 refine mv (Iv i) rfl rfl rfl rfl ?_
 refine Op11 (LT.bload1 (c := (xT (encLInt true) capaV)) rfl ag31 (by exact rfl)) rfl rfl rfl rfl ?_
 refine Op10 (LT.tlenRO rfl und31) rfl rfl rfl ?_
 refine Op20 (LT.eql rfl) rfl rfl rfl rfl ?_
 refine On ?_
 refine AWR.cond rfl (fun hc1 => ?_) (fun hc1 => ?_)
 ·refine Ws (Wr ?_)
  refine mv (Cc (lo 0 w.length)) rfl rfl rfl rfl ?_
  refine Op11 (LT.bloadN (out := [(iC capbV.Framework.Graph.Points), (lo 4 capbV.Framework.Graph.Bars.length), (lo 5 capbV.Framework.Places.length), (lo 6 capbV.Kinds.length)]) rfl ag75 (infS inf75) sz75 (by exact rfl) (by exact rfl)) rfl rfl rfl rfl ?_
  refine mv (Cc (lo 0 w.length)) rfl rfl rfl rfl ?_
  refine Ob' fun r2 hr2 => ?_
  refine AOR.pure (@LT.callF Try.prog _ _ 152 _ _ [(.agg [(iC capbV.Framework.Graph.Points), (lo 4 capbV.Framework.Graph.Bars.length), (lo 5 capbV.Framework.Places.length), (lo 6 capbV.Kinds.length)]), (.c (lo 0 w.length))] _ _ [(4, (pR 62 encTBar capbV.Framework.Graph.Bars)), (5, (pR 94 encTPlace capbV.Framework.Places)), (6, (pR 3 encInt capbV.Kinds)), (0, (pR 3 encInt w))] _ _ _ _ (w_impl_IsStrictStress capbV w r2 hr2) rfl cb152 (.cons (.agg (.cons (.same rfl) (.cons (.tloc rfl rfl) (.cons (.tloc rfl rfl) (.cons (.tloc rfl rfl) .nil))))) (.cons (.c (.tloc rfl rfl)) .nil)) rfl rfl trivial) ⟨rfl, rfl, rfl, trivial⟩ ⟨rfl, rfl, rfl, rfl, trivial⟩ rfl rfl ?_
  refine asg (Cc (lo 0 w.length)) rfl rfl rfl rfl ?_
  refine asg (Bv r2) rfl rfl rfl rfl ?_
  refine On ?_
  refine en [(7, (Cc (lo 0 w.length))), (8, (Bv r2))] [(0, (pR 3 encInt w)), (1, (.row 31 [[(xT (encLInt true) capaV)]])), (2, (.row 75 [[(iC capbV.Framework.Graph.Points), (lo 4 capbV.Framework.Graph.Bars.length), (lo 5 capbV.Framework.Places.length), (lo 6 capbV.Kinds.length)]])), (3, (.row 126 [[(.fn 151 [1, 2, 3])]])), (4, (pR 62 encTBar capbV.Framework.Graph.Bars)), (5, (pR 94 encTPlace capbV.Framework.Places)), (6, (pR 3 encInt capbV.Kinds))] ⟨rfl, rfl, trivial⟩ ⟨rfl, rfl, rfl, rfl, rfl, rfl, rfl, trivial⟩ ?_
  refine AWR.ret (FPost.mk (.inr rfl) ⟨rfl, rfl, trivial⟩ ⟨rfl, rfl, rfl, rfl, rfl, rfl, rfl, trivial⟩ rfl ⟨trivial, PermP.sc, trivial⟩ ⟨PermO.prow' perm_encInt, PermO.row1 ⟨(permC_xs perm_encLInt), trivial⟩, PermO.row1 ⟨PermP.sc, trivial, trivial, trivial, trivial⟩, PermO.row1 ⟨trivial, trivial⟩, PermO.prow' perm_encTBar, PermO.prow' perm_encTPlace, PermO.prow' perm_encInt, trivial⟩)
 ·refine AWR.skip (Ws (Ws (Wr ?_)))
  refine asg (Iv (-2)) rfl ⟨rfl, rfl⟩ rfl rfl ?_
  refine On (AWR.block ?_)
  refine AWR.loopR (id := 0) (m_impl_FindStrictStress_c1_L3 w i recF) (fun s3 => ([(0, (Cc (lo 0 w.length))), (1, (Iv i)), (2, (Cc (.pl 1 0))), (4, (Cc (.pl 3 0))), (9, (Iv s3.1))], [(0, (pR 3 encInt w)), (1, (.row 31 [[(xT (encLInt true) s3.2.1)]])), (2, (.row 75 [[(iC s3.2.2.1), (lo 4 s3.2.2.2.1.length), (lo 5 s3.2.2.2.2.1.length), (lo 6 s3.2.2.2.2.2.length)]])), (3, (.row 126 [[(.fn 151 [1, 2, 3])]])), (4, (pR 62 encTBar s3.2.2.2.1)), (5, (pR 94 encTPlace s3.2.2.2.2.1)), (6, (pR 3 encInt s3.2.2.2.2.2))])) (fun b36 => ([], [(1, (.row 31 [[(xT (encLInt true) b36.1)]])), (2, (.row 75 [[(iC b36.2.1), (lo 4 b36.2.2.1.length), (lo 5 b36.2.2.2.1.length), (lo 6 b36.2.2.2.2.length)]])), (3, (.row 126 [[(.fn 151 [1, 2, 3])]])), (4, (pR 62 encTBar b36.2.2.1)), (5, (pR 94 encTPlace b36.2.2.2.1)), (6, (pR 3 encInt b36.2.2.2.2))])) (FPost Try.prog Try.f151.results.toList [(0, (pR 3 encInt w)), (1, (.row 31 [[(xT (encLInt true) capaV)]])), (2, (.row 75 [[(iC capbV.Framework.Graph.Points), (lo 4 capbV.Framework.Graph.Bars.length), (lo 5 capbV.Framework.Places.length), (lo 6 capbV.Kinds.length)]])), (3, (.row 126 [[(.fn 151 [1, 2, 3])]])), (4, (pR 62 encTBar capbV.Framework.Graph.Bars)), (5, (pR 94 encTPlace capbV.Framework.Places)), (6, (pR 3 encInt capbV.Kinds))] [0] (fun (t : ((List Int) × Bool × (List (List Int)) × TTensegrity)) => [(.c (lo 0 t.1.length)), (.c (bC t.2.1))]) (fun (t : ((List Int) × Bool × (List (List Int)) × TTensegrity)) => [(0, (pR 3 encInt t.1)), (1, (.row 31 [[(xT (encLInt true) t.2.2.1)]])), (2, (.row 75 [[(iC t.2.2.2.Framework.Graph.Points), (lo 4 t.2.2.2.Framework.Graph.Bars.length), (lo 5 t.2.2.2.Framework.Places.length), (lo 6 t.2.2.2.Kinds.length)]])), (3, (.row 126 [[(.fn 151 [1, 2, 3])]])), (4, (pR 62 encTBar t.2.2.2.Framework.Graph.Bars)), (5, (pR 94 encTPlace t.2.2.2.Framework.Places)), (6, (pR 3 encInt t.2.2.2.Kinds))])) ?_ (Ent.of ⟨rfl, rfl, rfl, rfl, rfl, trivial⟩ ⟨rfl, rfl, rfl, rfl, rfl, rfl, rfl, trivial⟩) rfl (fun b36 _ => ?_) (by intro r t σ m ht hk; injection ht with ht; subst ht; exact hk)
  ·intro s3
   unfold m_impl_FindStrictStress_c1_L3
   refine Ws (Ws (Wr ?_))
   refine mv (Iv s3.1) rfl rfl rfl rfl ?_
   refine Op20 (LT.leq rfl) rfl ⟨rfl, rfl⟩ rfl rfl ?_
   refine On ?_
   refine AWR.cond rfl (fun hc37 => ?_) (fun hc37 => ?_)
   ·refine AWR.skip (Ws (AWR.block (Ws (Wr ?_))))
    refine mv (Cc (lo 0 w.length)) rfl rfl rfl rfl ?_
    refine Ob' fun r38 hr38 => ?_
    refine AOR.step (@LT.callF Try.prog _ _ 114 _ _ [(.c (lo 0 w.length))] _ _ [(0, (pR 3 encInt w))] _ _ _ _ ((show Fw.Fn Try.prog 114 [(.c (xF encInt w))] [] (Cc (lo 23 r38.length)) [(23, (pR 3 encInt r38))] [] [23] from Fw.Fn.ren [(0, 23)] (w_impl_copyInts w r38 hr38) rfl)) rfl cb114 (.cons (.c (.tloc rfl rfl)) .nil) rfl rfl trivial) ⟨rfl, rfl, trivial⟩ ⟨rfl, trivial⟩ rfl rfl ?_
    refine asg (Cc (lo 23 r38.length)) rfl rfl rfl rfl ?_
    refine On (Ws (Ws (Wr ?_)))
    refine mv (Cc (lo 23 r38.length)) rfl rfl rfl rfl ?_
    refine Op10 (LT.lenLoc rfl und37) rfl rfl rfl ?_
    refine mv (Iv 0) rfl ⟨rfl, rfl⟩ rfl rfl ?_
    refine On (AWR.block ?_)
    refine AWR.loop1 (id := 2) (m_impl_FindStrictStress_c1_L4 i s3 r38) (fun s39 => ([(0, (Cc (lo 0 w.length))), (1, (Iv i)), (2, (Cc (.pl 1 0))), (4, (Cc (.pl 3 0))), (9, (Iv s3.1)), (10, (Cc (lo 23 s39.2.length))), (29, (Iv (r38.length : Int))), (30, (Iv s39.1))], [(0, (pR 3 encInt w)), (1, (.row 31 [[(xT (encLInt true) s3.2.1)]])), (2, (.row 75 [[(iC s3.2.2.1), (lo 4 s3.2.2.2.1.length), (lo 5 s3.2.2.2.2.1.length), (lo 6 s3.2.2.2.2.2.length)]])), (3, (.row 126 [[(.fn 151 [1, 2, 3])]])), (4, (pR 62 encTBar s3.2.2.2.1)), (5, (pR 94 encTPlace s3.2.2.2.2.1)), (6, (pR 3 encInt s3.2.2.2.2.2)), (23, (pR 3 encInt s39.2))])) (fun b50 => ([(0, (Cc (lo 0 w.length))), (1, (Iv i)), (2, (Cc (.pl 1 0))), (4, (Cc (.pl 3 0))), (9, (Iv b50.1)), (10, (Cc (lo 23 b50.2.2.2.2.2.2.length)))], [(0, (pR 3 encInt w)), (1, (.row 31 [[(xT (encLInt true) b50.2.1)]])), (2, (.row 75 [[(iC b50.2.2.1), (lo 4 b50.2.2.2.1.length), (lo 5 b50.2.2.2.2.1.length), (lo 6 b50.2.2.2.2.2.1.length)]])), (3, (.row 126 [[(.fn 151 [1, 2, 3])]])), (4, (pR 62 encTBar b50.2.2.2.1)), (5, (pR 94 encTPlace b50.2.2.2.2.1)), (6, (pR 3 encInt b50.2.2.2.2.2.1)), (23, (pR 3 encInt b50.2.2.2.2.2.2))])) ?_ (Ent.of ⟨rfl, rfl, rfl, rfl, rfl, rfl, rfl, rfl, trivial⟩ ⟨rfl, rfl, rfl, rfl, rfl, rfl, rfl, rfl, trivial⟩) rfl (fun b50 _ => ?_)
    ·intro s39
     unfold m_impl_FindStrictStress_c1_L4
     refine Ws (Wr ?_)
     refine Op20 (LT.lss rfl) rfl rfl rfl rfl ?_
     refine On (Ws ?_)
     refine AWR.cond rfl (fun hc51 => ?_) (fun hc51 => ?_)
     ·refine AWR.skip (Ws (AWR.block (Ws (Wr ?_))))
      refine mv (Iv s39.1) rfl rfl rfl rfl ?_
      refine asg (Iv s39.1) rfl rfl rfl rfl ?_
      refine On (AWR.draw mixed ?_)
      refine Dp10 (LT.move (v := (Cc (lo 23 s39.2.length))) rfl) rfl rfl rfl ?_
      refine Dp10 (LT.move (v := (Iv s39.1)) rfl) rfl rfl rfl ?_
      refine Dp10 (LT.move (v := (Cc (lo 23 s39.2.length))) rfl) rfl rfl rfl ?_
      refine Dp10 (LT.move (v := (Iv s39.1)) rfl) rfl rfl rfl ?_
      refine AOD.bind fun x52 hx52 => ?_
      refine Dp21 (LT.tindexLoc rfl rfl el37 hx52) rfl rfl rfl rfl rfl ?_
      refine Dp11 (LT.tload1 (k := 0) rfl ag3 hx52 (by exact rfl) (by exact rfl)) rfl rfl rfl rfl ?_
      refine Dp10 (LT.move (v := (Iv s3.1)) rfl) rfl rfl rfl ?_
      refine Dp11 (LT.bload1 (c := (xT (encLInt true) s3.2.1)) rfl ag31 (by exact rfl)) rfl rfl rfl rfl ?_
      refine Dp10 (LT.move (v := (Iv i)) rfl) rfl rfl rfl ?_
      refine AOD.bind fun x53 hx53 => ?_
      refine Dp20 (LT.tindexRO (enc := (encLInt true)) rfl el31 hx53 sz37) rfl rfl rfl rfl ?_
      refine Dp10 (LT.loadPx1 rfl ag37) rfl rfl rfl ?_
      refine Dp10 (LT.move (v := (Iv s39.1)) rfl) rfl rfl rfl ?_
      refine AOD.bind fun x54 hx54 => ?_
      refine Dp20 (LT.tindexRO (enc := encInt) rfl el37 hx54 sz3) rfl rfl rfl rfl ?_
      refine Dp10 (LT.loadPx1 rfl ag3) rfl rfl rfl ?_
      refine Dp20 (LT.mul rfl) rfl rfl rfl rfl ?_
      refine Dp20 (LT.add rfl) rfl rfl rfl rfl ?_
      refine AOD.bind fun x55 hx55 => ?_
      refine Dp21 (LT.tindexLoc rfl rfl el37 hx55) rfl rfl rfl rfl rfl ?_
      refine Ds21 (LT.tstore (k := 0) (v := (.c (iC (w64 (x52 + (w64 (s3.1 * x54))))))) (b' := (w64 (x52 + (w64 (s3.1 * x54))))) rfl rfl (infS inf3) sz3 (by exact rfl) hx55 (by exact rfl) (by exact Nat.le_of_ble_eq_true rfl) (by exact rfl)) rfl rfl rfl rfl rfl ?_
      refine AOD.nil (by kernel_rfl) ?_
      refine AWR.blk ?_
      refine en [(0, (Cc (lo 0 w.length))), (1, (Iv i)), (2, (Cc (.pl 1 0))), (4, (Cc (.pl 3 0))), (9, (Iv s3.1)), (10, (Cc (lo 23 s39.2.length))), (29, (Iv (r38.length : Int))), (30, (Iv s39.1))] [(0, (pR 3 encInt w)), (1, (.row 31 [[(xT (encLInt true) s3.2.1)]])), (2, (.row 75 [[(iC s3.2.2.1), (lo 4 s3.2.2.2.1.length), (lo 5 s3.2.2.2.2.1.length), (lo 6 s3.2.2.2.2.2.length)]])), (3, (.row 126 [[(.fn 151 [1, 2, 3])]])), (4, (pR 62 encTBar s3.2.2.2.1)), (5, (pR 94 encTPlace s3.2.2.2.2.1)), (6, (pR 3 encInt s3.2.2.2.2.2)), (23, (pR 3 encInt (s39.2.set s39.1.toNat (w64 (x52 + (w64 (s3.1 * x54)))))))] ⟨rfl, rfl, rfl, rfl, rfl, rfl, rfl, rfl, trivial⟩ ⟨rfl, rfl, rfl, rfl, rfl, rfl, rfl, rfl, trivial⟩ ?_
      refine Wr ?_
      refine Op20 (LT.add rfl) rfl ⟨rfl, rfl⟩ rfl rfl ?_
      refine mv (Iv (w64 (s39.1 + 1))) rfl rfl rfl rfl ?_
      refine On ?_
      refine AWR.nil ⟨rfl, Ent.of ⟨rfl, rfl, rfl, rfl, rfl, (congrArg (fun l1 => (some (AV.s (.c (lo 23 l1))) : Option AV)) (show s39.2.length = (s39.2.set s39.1.toNat (w64 (x52 + (w64 (s3.1 * x54))))).length by simp only [List.length_set])), rfl, rfl, trivial⟩ ⟨rfl, rfl, rfl, rfl, rfl, rfl, rfl, rfl, trivial⟩⟩
     ·refine AWR.exit_end rfl ⟨rfl, Ent.of ⟨rfl, rfl, rfl, rfl, rfl, rfl, trivial⟩ ⟨rfl, rfl, rfl, rfl, rfl, rfl, rfl, rfl, trivial⟩⟩
    ·refine Ws (Wr ?_)
     refine Op11 (LT.bload1 (c := (.fn 151 [1, 2, 3])) rfl ag126 (by exact rfl)) rfl rfl rfl rfl ?_
     refine mv (Cc (lo 23 b50.2.2.2.2.2.2.length)) rfl rfl rfl rfl ?_
     refine mv (Iv i) rfl rfl rfl rfl ?_
     refine Op20 (LT.add rfl) rfl ⟨rfl, rfl⟩ rfl rfl ?_
     refine Ob' fun r56 hr56 => ?_
     refine AOR.step (LT.callC (P := Try.prog) (f := 151) (xs := [(.c (lo 23 b50.2.2.2.2.2.2.length)), (.c (iC (w64 (i + 1))))]) (sh := []) [1, 2, 3] [(.c (lo 23 b50.2.2.2.2.2.2.length)), (.c (iC (w64 (i + 1))))] ((show Fw.Fn Try.prog 151 [(.c (lo 23 b50.2.2.2.2.2.2.length)), (.c (iC (w64 (i + 1)))), (.c (.pl 1 0)), (.c (.pl 2 0)), (.c (.pl 3 0))] [(23, (pR 3 encInt b50.2.2.2.2.2.2)), (1, (.row 31 [[(xT (encLInt true) b50.2.1)]])), (2, (.row 75 [[(iC b50.2.2.1), (lo 4 b50.2.2.2.1.length), (lo 5 b50.2.2.2.2.1.length), (lo 6 b50.2.2.2.2.2.1.length)]])), (3, (.row 126 [[(.fn 151 [1, 2, 3])]])), (4, (pR 62 encTBar b50.2.2.2.1)), (5, (pR 94 encTPlace b50.2.2.2.2.1)), (6, (pR 3 encInt b50.2.2.2.2.2.1))] (.tup [(.c (lo 23 r56.1.length)), (.c (bC r56.2.1))]) [(23, (pR 3 encInt r56.1)), (1, (.row 31 [[(xT (encLInt true) r56.2.2.1)]])), (2, (.row 75 [[(iC r56.2.2.2.Framework.Graph.Points), (lo 4 r56.2.2.2.Framework.Graph.Bars.length), (lo 5 r56.2.2.2.Framework.Places.length), (lo 6 r56.2.2.2.Kinds.length)]])), (3, (.row 126 [[(.fn 151 [1, 2, 3])]])), (4, (pR 62 encTBar r56.2.2.2.Framework.Graph.Bars)), (5, (pR 94 encTPlace r56.2.2.2.Framework.Places)), (6, (pR 3 encInt r56.2.2.2.Kinds))] [23, 1, 2, 3, 4, 5, 6] [23] from Fw.Fn.ren [(0, 23), (1, 1), (2, 2), (3, 3), (4, 4), (5, 5), (6, 6)] (hrec b50.2.2.2.2.2.2 (w64 (i + 1)) b50.2.1 (TTensegrity.mk (TFramework.mk (TGraph.mk b50.2.2.1 b50.2.2.2.1) b50.2.2.2.2.1) b50.2.2.2.2.2.1) r56 hr56) rfl)) rfl cb151 (.cons (.c (.same rfl)) (.cons (.c (.same rfl)) .nil)) rfl rfl ⟨rfl, rfl, rfl, rfl, rfl, rfl, rfl, trivial⟩) ⟨rfl, rfl, rfl, trivial⟩ ⟨rfl, rfl, rfl, rfl, rfl, rfl, rfl, trivial⟩ rfl rfl ?_
     refine mv (.tup [(.c (lo 23 r56.1.length)), (.c (bC r56.2.1))]) rfl rfl rfl rfl ?_
     refine Op10 (LT.extract (v := (.c (lo 23 r56.1.length))) rfl (by exact rfl)) rfl rfl rfl ?_
     refine Op10 (LT.extract (v := (.c (bC r56.2.1))) rfl (by exact rfl)) rfl rfl rfl ?_
     refine asg (Cc (lo 23 r56.1.length)) rfl rfl rfl rfl ?_
     refine asg (Bv r56.2.1) rfl rfl rfl rfl ?_
     refine On (Ws ?_)
     refine en [(0, (Cc (lo 0 w.length))), (1, (Iv i)), (2, (Cc (.pl 1 0))), (4, (Cc (.pl 3 0))), (9, (Iv b50.1)), (12, (Cc (lo 23 r56.1.length))), (13, (Bv r56.2.1))] [(0, (pR 3 encInt w)), (1, (.row 31 [[(xT (encLInt true) r56.2.2.1)]])), (2, (.row 75 [[(iC r56.2.2.2.Framework.Graph.Points), (lo 4 r56.2.2.2.Framework.Graph.Bars.length), (lo 5 r56.2.2.2.Framework.Places.length), (lo 6 r56.2.2.2.Kinds.length)]])), (3, (.row 126 [[(.fn 151 [1, 2, 3])]])), (4, (pR 62 encTBar r56.2.2.2.Framework.Graph.Bars)), (5, (pR 94 encTPlace r56.2.2.2.Framework.Places)), (6, (pR 3 encInt r56.2.2.2.Kinds)), (23, (pR 3 encInt r56.1))] ⟨rfl, rfl, rfl, rfl, rfl, rfl, rfl, trivial⟩ ⟨rfl, rfl, rfl, rfl, rfl, rfl, rfl, rfl, trivial⟩ ?_
     refine Wr ?_
     refine mv (Bv r56.2.1) rfl rfl rfl rfl ?_
     refine On ?_
     refine AWR.cond rfl (fun hc57 => ?_) (fun hc57 => ?_)
     ·refine Ws (Wr ?_)
      refine mv (Cc (lo 23 r56.1.length)) rfl rfl rfl rfl ?_
      refine asg (Cc (lo 23 r56.1.length)) rfl rfl rfl rfl ?_
      refine asg (Bv true) rfl ⟨rfl, rfl⟩ rfl rfl ?_
      refine On ?_
      refine en [(7, (Cc (lo 23 r56.1.length))), (8, (Bv true))] [(1, (.row 31 [[(xT (encLInt true) r56.2.2.1)]])), (2, (.row 75 [[(iC r56.2.2.2.Framework.Graph.Points), (lo 4 r56.2.2.2.Framework.Graph.Bars.length), (lo 5 r56.2.2.2.Framework.Places.length), (lo 6 r56.2.2.2.Kinds.length)]])), (3, (.row 126 [[(.fn 151 [1, 2, 3])]])), (4, (pR 62 encTBar r56.2.2.2.Framework.Graph.Bars)), (5, (pR 94 encTPlace r56.2.2.2.Framework.Places)), (6, (pR 3 encInt r56.2.2.2.Kinds)), (23, (pR 3 encInt r56.1))] ⟨rfl, rfl, trivial⟩ ⟨rfl, rfl, rfl, rfl, rfl, rfl, rfl, trivial⟩ ?_
      refine AWR.ent (Ent.mv 23 0 rfl rfl) ?_
      refine en [(7, (Cc (lo 0 r56.1.length))), (8, (Bv true))] [(0, (pR 3 encInt r56.1)), (1, (.row 31 [[(xT (encLInt true) r56.2.2.1)]])), (2, (.row 75 [[(iC r56.2.2.2.Framework.Graph.Points), (lo 4 r56.2.2.2.Framework.Graph.Bars.length), (lo 5 r56.2.2.2.Framework.Places.length), (lo 6 r56.2.2.2.Kinds.length)]])), (3, (.row 126 [[(.fn 151 [1, 2, 3])]])), (4, (pR 62 encTBar r56.2.2.2.Framework.Graph.Bars)), (5, (pR 94 encTPlace r56.2.2.2.Framework.Places)), (6, (pR 3 encInt r56.2.2.2.Kinds))] ⟨rfl, rfl, trivial⟩ ⟨rfl, rfl, rfl, rfl, rfl, rfl, rfl, trivial⟩ ?_
      refine AWR.ret ⟨rfl, FPost.mk (.inr rfl) ⟨rfl, rfl, trivial⟩ ⟨rfl, rfl, rfl, rfl, rfl, rfl, rfl, trivial⟩ rfl ⟨trivial, PermP.sc, trivial⟩ ⟨PermO.prow' perm_encInt, PermO.row1 ⟨(permC_xs perm_encLInt), trivial⟩, PermO.row1 ⟨PermP.sc, trivial, trivial, trivial, trivial⟩, PermO.row1 ⟨trivial, trivial⟩, PermO.prow' perm_encTBar, PermO.prow' perm_encTPlace, PermO.prow' perm_encInt, trivial⟩⟩
     ·refine AWR.skip (AWR.blk (Wr ?_))
      refine mv (Iv b50.1) rfl rfl rfl rfl ?_
      refine Op20 (LT.add rfl) rfl ⟨rfl, rfl⟩ rfl rfl ?_
      refine asg (Iv (w64 (b50.1 + 1))) rfl rfl rfl rfl ?_
      refine On ?_
      refine AWR.nil ⟨rfl, Ent.of ⟨rfl, rfl, rfl, rfl, rfl, trivial⟩ ⟨rfl, rfl, rfl, rfl, rfl, rfl, rfl, trivial⟩⟩
   ·refine AWR.exit_end rfl ⟨rfl, Ent.of trivial ⟨rfl, rfl, rfl, rfl, rfl, rfl, trivial⟩⟩
  ·refine Ws (Wr ?_)
   refine Os00 (LT.tbuildSlice (n := 25) (enc := encInt) [] ([] : List Int) rfl rfl und37 ti3 rfl rfl rfl rfl (by decide) (fun _ => rfl) rfl) rfl rfl ?_
   refine asg (Cc (lo 25 (([] : List Int).length))) rfl rfl rfl rfl ?_
   refine asg (Bv false) rfl ⟨rfl, rfl⟩ rfl rfl ?_
   refine On ?_
   refine en [(7, (Cc (lo 25 (([] : List Int).length)))), (8, (Bv false))] [(1, (.row 31 [[(xT (encLInt true) b36.1)]])), (2, (.row 75 [[(iC b36.2.1), (lo 4 b36.2.2.1.length), (lo 5 b36.2.2.2.1.length), (lo 6 b36.2.2.2.2.length)]])), (3, (.row 126 [[(.fn 151 [1, 2, 3])]])), (4, (pR 62 encTBar b36.2.2.1)), (5, (pR 94 encTPlace b36.2.2.2.1)), (6, (pR 3 encInt b36.2.2.2.2)), (25, (pR 3 encInt ([] : List Int)))] ⟨rfl, rfl, trivial⟩ ⟨rfl, rfl, rfl, rfl, rfl, rfl, rfl, trivial⟩ ?_
   refine AWR.ent (Ent.mv 25 0 rfl rfl) ?_
   refine en [(7, (Cc (lo 0 (([] : List Int).length)))), (8, (Bv false))] [(0, (pR 3 encInt ([] : List Int))), (1, (.row 31 [[(xT (encLInt true) b36.1)]])), (2, (.row 75 [[(iC b36.2.1), (lo 4 b36.2.2.1.length), (lo 5 b36.2.2.2.1.length), (lo 6 b36.2.2.2.2.length)]])), (3, (.row 126 [[(.fn 151 [1, 2, 3])]])), (4, (pR 62 encTBar b36.2.2.1)), (5, (pR 94 encTPlace b36.2.2.2.1)), (6, (pR 3 encInt b36.2.2.2.2))] ⟨rfl, rfl, trivial⟩ ⟨rfl, rfl, rfl, rfl, rfl, rfl, rfl, trivial⟩ ?_
   refine AWR.ret (FPost.mk (.inr rfl) ⟨rfl, rfl, trivial⟩ ⟨rfl, rfl, rfl, rfl, rfl, rfl, rfl, trivial⟩ rfl ⟨trivial, PermP.sc, trivial⟩ ⟨PermO.prow' perm_encInt, PermO.row1 ⟨(permC_xs perm_encLInt), trivial⟩, PermO.row1 ⟨PermP.sc, trivial, trivial, trivial, trivial⟩, PermO.row1 ⟨trivial, trivial⟩, PermO.prow' perm_encTBar, PermO.prow' perm_encTPlace, PermO.prow' perm_encInt, trivial⟩)
theorem w_impl_FindStrictStress_c1 : ∀ (n : Nat) (w : (List Int)) (i : Int) (capaV : (List (List Int))) (capbV : TTensegrity), ∀ t, m_impl_FindStrictStress_c1 n w i capaV capbV = some t → Fw.Fn Try.prog 151 [(.c (lo 0 w.length)), (.c (iC i)), (.c (.pl 1 0)), (.c (.pl 2 0)), (.c (.pl 3 0))] [(0, (pR 3 encInt w)), (1, (.row 31 [[(xT (encLInt true) capaV)]])), (2, (.row 75 [[(iC capbV.Framework.Graph.Points), (lo 4 capbV.Framework.Graph.Bars.length), (lo 5 capbV.Framework.Places.length), (lo 6 capbV.Kinds.length)]])), (3, (.row 126 [[(.fn 151 [1, 2, 3])]])), (4, (pR 62 encTBar capbV.Framework.Graph.Bars)), (5, (pR 94 encTPlace capbV.Framework.Places)), (6, (pR 3 encInt capbV.Kinds))] (resA [(.c (lo 0 t.1.length)), (.c (bC t.2.1))]) [(0, (pR 3 encInt t.1)), (1, (.row 31 [[(xT (encLInt true) t.2.2.1)]])), (2, (.row 75 [[(iC t.2.2.2.Framework.Graph.Points), (lo 4 t.2.2.2.Framework.Graph.Bars.length), (lo 5 t.2.2.2.Framework.Places.length), (lo 6 t.2.2.2.Kinds.length)]])), (3, (.row 126 [[(.fn 151 [1, 2, 3])]])), (4, (pR 62 encTBar t.2.2.2.Framework.Graph.Bars)), (5, (pR 94 encTPlace t.2.2.2.Framework.Places)), (6, (pR 3 encInt t.2.2.2.Kinds))] [0, 1, 2, 3, 4, 5, 6] [0]
  | 0, _, _, _, _ => fun _ h => by cases h
  | n + 1, w, i, capaV, capbV => w_impl_FindStrictStress_c1_B (m_impl_FindStrictStress_c1 n) (w_impl_FindStrictStress_c1 n) w i capaV capbV
theorem w_impl_FindStrictStress (tV : TTensegrity) : ∀ t, m_impl_FindStrictStress tV = some t → Fw.Fn Try.prog 62 [(.agg [(iC tV.Framework.Graph.Points), (lo 0 tV.Framework.Graph.Bars.length), (lo 1 tV.Framework.Places.length), (lo 2 tV.Kinds.length)])] [(0, (pR 62 encTBar tV.Framework.Graph.Bars)), (1, (pR 94 encTPlace tV.Framework.Places)), (2, (pR 3 encInt tV.Kinds))] (resA [(.c (lo 3 t.1.length)), (.c (bC t.2.1))]) [(0, (pR 62 encTBar t.2.2.1)), (1, (pR 94 encTPlace t.2.2.2.1)), (2, (pR 3 encInt t.2.2.2.2)), (3, (pR 3 encInt t.1))] [0, 1, 2] [3] := by
 refine Fw.Fn.ofU (P := Try.prog) (X := [3]) (pn := [0, 1, 2]) (rs := (fun (t : ((List Int) × Bool × (List TBar) × (List TPlace) × (List Int))) => [(.c (lo 3 t.1.length)), (.c (bC t.2.1))])) (dfs := (fun (t : ((List Int) × Bool × (List TBar) × (List TPlace) × (List Int))) => [(0, (pR 62 encTBar t.2.2.1)), (1, (pR 94 encTPlace t.2.2.2.1)), (2, (pR 3 encInt t.2.2.2.2)), (3, (pR 3 encInt t.1))])) Try.func62 rfl Try.ntmps62 (Nat.le_of_ble_eq_true rfl) rfl ?_
 intro w0 U0 R0 g0 hU
 unfold m_impl_FindStrictStress
 refine Ws (Wr ?_)
 refine Os10 (LT.box (n := 21) (v := (.agg [(iC tV.Framework.Graph.Points), (lo 0 tV.Framework.Graph.Bars.length), (lo 1 tV.Framework.Places.length), (lo 2 tV.Kinds.length)])) rfl sz75 (by exact rfl)) rfl rfl rfl ?_
 refine asg (Cc (sC nilV)) rfl ⟨rfl, rfl⟩ rfl rfl ?_
 refine asg (Bv false) rfl ⟨rfl, rfl⟩ rfl rfl ?_
 refine On (Ws (Ws (Wr ?_)))
 refine Op11 (LT.bloadN (out := [(iC tV.Framework.Graph.Points), (lo 0 tV.Framework.Graph.Bars.length), (lo 1 tV.Framework.Places.length), (lo 2 tV.Kinds.length)]) rfl ag75 (infS inf75) sz75 (by exact rfl) (by exact rfl)) rfl rfl rfl rfl ?_
 refine Ob' fun r1 hr1 => ?_
 refine AOR.pure (@LT.callF Try.prog _ _ 150 _ _ [(.agg [(iC tV.Framework.Graph.Points), (lo 0 tV.Framework.Graph.Bars.length), (lo 1 tV.Framework.Places.length), (lo 2 tV.Kinds.length)])] _ _ [(0, (pR 62 encTBar tV.Framework.Graph.Bars)), (1, (pR 94 encTPlace tV.Framework.Places)), (2, (pR 3 encInt tV.Kinds))] _ _ _ _ (w_impl_IsTensegrity tV r1 hr1) rfl cb150 (.cons (.agg (.cons (.same rfl) (.cons (.tloc rfl rfl) (.cons (.tloc rfl rfl) (.cons (.tloc rfl rfl) .nil))))) .nil) rfl rfl trivial) ⟨rfl, rfl, trivial⟩ ⟨rfl, rfl, rfl, trivial⟩ rfl rfl ?_
 refine Op10 (LT.not rfl) rfl rfl rfl ?_
 refine On ?_
 refine AWR.cond rfl (fun hc2 => ?_) (fun hc2 => ?_)
 ·refine Ws (Wr ?_)
  refine Os00 (LT.tbuildSlice (n := 23) (enc := encInt) [] ([] : List Int) rfl rfl und37 ti3 rfl rfl rfl rfl (by decide) (fun _ => rfl) rfl) rfl rfl ?_
  refine asg (Cc (lo 23 (([] : List Int).length))) rfl rfl rfl rfl ?_
  refine asg (Bv false) rfl ⟨rfl, rfl⟩ rfl rfl ?_
  refine On ?_
  refine en [(2, (Cc (lo 23 (([] : List Int).length)))), (3, (Bv false))] [(0, (pR 62 encTBar tV.Framework.Graph.Bars)), (1, (pR 94 encTPlace tV.Framework.Places)), (2, (pR 3 encInt tV.Kinds)), (23, (pR 3 encInt ([] : List Int)))] ⟨rfl, rfl, trivial⟩ ⟨rfl, rfl, rfl, rfl, trivial⟩ ?_
  refine AWR.ent (Ent.mv 23 3 rfl rfl) ?_
  refine en [(2, (Cc (lo 3 (([] : List Int).length)))), (3, (Bv false))] [(0, (pR 62 encTBar tV.Framework.Graph.Bars)), (1, (pR 94 encTPlace tV.Framework.Places)), (2, (pR 3 encInt tV.Kinds)), (3, (pR 3 encInt ([] : List Int)))] ⟨rfl, rfl, trivial⟩ ⟨rfl, rfl, rfl, rfl, trivial⟩ ?_
  refine AWR.ret (FPost.mk (.inr rfl) ⟨rfl, rfl, trivial⟩ ⟨rfl, rfl, rfl, rfl, trivial⟩ rfl ⟨trivial, PermP.sc, trivial⟩ ⟨PermO.prow' perm_encTBar, PermO.prow' perm_encTPlace, PermO.prow' perm_encInt, PermO.prow' perm_encInt, trivial⟩)
 ·refine AWR.skip (Ws (Wr ?_))
  refine Op10 (LT.fieldPl rfl fo75_0) rfl rfl rfl ?_
  refine Op11 (LT.bloadN (out := [(iC tV.Framework.Graph.Points), (lo 0 tV.Framework.Graph.Bars.length), (lo 1 tV.Framework.Places.length)]) rfl ag29 (infS inf29) sz29 (by exact rfl) (by exact rfl)) rfl rfl rfl rfl ?_
  refine Ob' fun r3 hr3 => ?_
  refine AOR.step (@LT.callF Try.prog _ _ 12 _ _ [(.agg [(iC tV.Framework.Graph.Points), (lo 0 tV.Framework.Graph.Bars.length), (lo 1 tV.Framework.Places.length)])] _ _ [(0, (pR 62 encTBar tV.Framework.Graph.Bars)), (1, (pR 94 encTPlace tV.Framework.Places))] _ _ _ _ ((show Fw.Fn Try.prog 12 [(.agg [(iC tV.Framework.Graph.Points), (xF encTBar tV.Framework.Graph.Bars), (xF encTPlace tV.Framework.Places)])] [] (Cc (lo 25 r3.length)) [(25, (.trow 37 26 (lensOf r3))), (26, (.pool 3 (rowsOf encInt r3)))] [] [25, 26] from Fw.Fn.ren [(0, 25), (1, 26)] (w_impl_StressesOf tV.Framework r3 hr3) rfl)) rfl cb12 (.cons (.agg (.cons (.same rfl) (.cons (.tloc rfl rfl) (.cons (.tloc rfl rfl) .nil)))) .nil) rfl rfl trivial) ⟨rfl, rfl, trivial⟩ ⟨rfl, rfl, trivial⟩ rfl rfl ?_
  refine AOR.ent (Ent.freezeT (enc := encInt) (encL := (encLInt true)) 14 25 26 hU rfl (fun _ => rfl) rfl rfl rfl rfl) ?_
  refine Os00 (LT.alloc (n := 27) (cells := [(sC nilV)]) rfl ti31 rfl rfl rfl) rfl rfl ?_
  refine Os21 (LT.bstore (v := (.c (xT (encLInt true) r3))) (out := [(xT (encLInt true) r3)]) rfl rfl (infS inf31) sz31 (by exact rfl) (by exact Nat.le_of_ble_eq_true rfl) (by exact rfl)) rfl rfl rfl rfl rfl ?_
  refine On (Ws ?_)
  refine en [(1, (Cc (.pl 21 0))), (4, (Cc (.pl 27 0)))] [(0, (pR 62 encTBar tV.Framework.Graph.Bars)), (1, (pR 94 encTPlace tV.Framework.Places)), (2, (pR 3 encInt tV.Kinds)), (21, (.row 75 [[(iC tV.Framework.Graph.Points), (lo 0 tV.Framework.Graph.Bars.length), (lo 1 tV.Framework.Places.length), (lo 2 tV.Kinds.length)]])), (27, (.row 31 [[(xT (encLInt true) r3)]]))] ⟨rfl, rfl, trivial⟩ ⟨rfl, rfl, rfl, rfl, rfl, trivial⟩ ?_
  refine Wr ?_
  refine Op11 (LT.bload1 (c := (xT (encLInt true) r3)) rfl ag31 (by exact rfl)) rfl rfl rfl rfl ?_
  refine Op11 (LT.bload1 (c := (xT (encLInt true) r3)) rfl ag31 (by exact rfl)) rfl rfl rfl rfl ?_
  refine Op10 (LT.tlenRO rfl und31) rfl rfl rfl ?_
  refine Op20 (LT.min rfl) rfl ⟨rfl, rfl⟩ rfl rfl ?_
  refine Ob' fun v4 hv4 => ?_
  refine Op20 (LT.tsliceRO (enc := (encLInt true)) (blo := none) (bhi := (some (.tmp 18, (if 3 < (r3.length : Int) then 3 else (r3.length : Int))))) (l := 0) (h := (if 3 < (r3.length : Int) then 3 else (r3.length : Int)).toNat) rfl rfl rfl und31 inf37 (fun _ => by rw [sz37]; rfl) (.inr ⟨rfl, rfl⟩) (.inl ⟨_, _, rfl, Int.le_trans (slc_spec hv4).1 (slc_spec hv4).2.1, rfl⟩) (slc_lh hv4) (slc_hl hv4)) rfl rfl rfl rfl ?_
  refine Os21 (LT.bstore (v := (.c (xT (encLInt true) ((r3.take ((if 3 < (r3.length : Int) then 3 else (r3.length : Int)).toNat)).drop 0)))) (out := [(xT (encLInt true) ((r3.take ((if 3 < (r3.length : Int) then 3 else (r3.length : Int)).toNat)).drop 0))]) rfl rfl (infS inf31) sz31 (by exact rfl) (by exact Nat.le_of_ble_eq_true rfl) (by exact rfl)) rfl rfl rfl rfl rfl ?_
  refine On (Ws (Wr ?_))
  refine Os00 (LT.alloc (n := 28) (cells := [(sC .nilFunc)]) rfl ti126 rfl rfl rfl) rfl rfl ?_
  refine On (Ws ?_)
  refine en [(1, (Cc (.pl 21 0))), (4, (Cc (.pl 27 0))), (5, (Cc (.pl 28 0)))] [(0, (pR 62 encTBar tV.Framework.Graph.Bars)), (1, (pR 94 encTPlace tV.Framework.Places)), (2, (pR 3 encInt tV.Kinds)), (21, (.row 75 [[(iC tV.Framework.Graph.Points), (lo 0 tV.Framework.Graph.Bars.length), (lo 1 tV.Framework.Places.length), (lo 2 tV.Kinds.length)]])), (27, (.row 31 [[(xT (encLInt true) ((r3.take ((if 3 < (r3.length : Int) then 3 else (r3.length : Int)).toNat)).drop 0))]])), (28, (.row 126 [[(sC .nilFunc)]]))] ⟨rfl, rfl, rfl, trivial⟩ ⟨rfl, rfl, rfl, rfl, rfl, rfl, trivial⟩ ?_
  refine Wr ?_
  refine AOR.pure (LT.makeFuncC [27, 21, 28] rfl rfl) ⟨rfl, rfl, rfl, trivial⟩ trivial rfl rfl ?_
  refine Os21 (LT.bstore (v := (.c (.fn 151 [27, 21, 28]))) (out := [(.fn 151 [27, 21, 28])]) rfl rfl (infS inf126) sz126 (by exact rfl) (by exact Nat.le_of_ble_eq_true rfl) (by exact rfl)) rfl rfl rfl rfl rfl ?_
  refine On (Ws (AWR.draw mixed ?_))
  refine Dp11 (LT.bload1 (c := (.fn 151 [27, 21, 28])) rfl ag126 (by exact rfl)) rfl rfl rfl rfl ?_
  refine Dp10 (LT.fieldPl rfl fo75_1) rfl rfl rfl ?_
  refine Dp11 (LT.bload1 (c := (lo 2 tV.Kinds.length)) rfl ag37 (by exact rfl)) rfl rfl rfl rfl ?_
  refine Dp10 (LT.lenLoc rfl und37) rfl rfl rfl ?_
  refine AOD.bind fun u5 hu5 => ?_
  refine Ds20 (LT.tmake (n := 29) (enc := encInt) (zc := [(iC 0)]) (0 : Int) rfl und37 ti3 rfl rfl rfl (by decide) (by decide) (lenOk_le hu5) rfl) rfl rfl rfl rfl ?_
  refine AOD.bind fun r6 hr6 => ?_
  refine AOD.step (LT.callC (P := Try.prog) (f := 151) (xs := [(.c (lo 29 ((List.replicate (tV.Kinds.length : Int).toNat (0 : Int)).length))), (.c (iC 0))]) (sh := []) [27, 21, 28] [(.c (lo 29 ((List.replicate (tV.Kinds.length : Int).toNat (0 : Int)).length))), (.c (iC 0))] ((show Fw.Fn Try.prog 151 [(.c (lo 29 ((List.replicate (tV.Kinds.length : Int).toNat (0 : Int)).length))), (.c (iC 0)), (.c (.pl 27 0)), (.c (.pl 21 0)), (.c (.pl 28 0))] [(29, (pR 3 encInt (List.replicate (tV.Kinds.length : Int).toNat (0 : Int)))), (27, (.row 31 [[(xT (encLInt true) ((r3.take ((if 3 < (r3.length : Int) then 3 else (r3.length : Int)).toNat)).drop 0))]])), (21, (.row 75 [[(iC tV.Framework.Graph.Points), (lo 0 tV.Framework.Graph.Bars.length), (lo 1 tV.Framework.Places.length), (lo 2 tV.Kinds.length)]])), (28, (.row 126 [[(.fn 151 [27, 21, 28])]])), (0, (pR 62 encTBar tV.Framework.Graph.Bars)), (1, (pR 94 encTPlace tV.Framework.Places)), (2, (pR 3 encInt tV.Kinds))] (.tup [(.c (lo 29 r6.1.length)), (.c (bC r6.2.1))]) [(29, (pR 3 encInt r6.1)), (27, (.row 31 [[(xT (encLInt true) r6.2.2.1)]])), (21, (.row 75 [[(iC r6.2.2.2.Framework.Graph.Points), (lo 0 r6.2.2.2.Framework.Graph.Bars.length), (lo 1 r6.2.2.2.Framework.Places.length), (lo 2 r6.2.2.2.Kinds.length)]])), (28, (.row 126 [[(.fn 151 [27, 21, 28])]])), (0, (pR 62 encTBar r6.2.2.2.Framework.Graph.Bars)), (1, (pR 94 encTPlace r6.2.2.2.Framework.Places)), (2, (pR 3 encInt r6.2.2.2.Kinds))] [29, 27, 21, 28, 0, 1, 2] [29] from Fw.Fn.ren [(0, 29), (1, 27), (2, 21), (3, 28), (4, 0), (5, 1), (6, 2)] (w_impl_FindStrictStress_c1 64 (List.replicate (tV.Kinds.length : Int).toNat (0 : Int)) 0 ((r3.take ((if 3 < (r3.length : Int) then 3 else (r3.length : Int)).toNat)).drop 0) tV r6 hr6) rfl)) rfl cb151 (.cons (.c (.same rfl)) (.cons (.c (.same rfl)) .nil)) rfl rfl ⟨rfl, rfl, rfl, rfl, rfl, rfl, rfl, trivial⟩) ⟨rfl, rfl, ⟨rfl, rfl⟩, trivial⟩ ⟨rfl, rfl, rfl, rfl, rfl, rfl, rfl, trivial⟩ rfl rfl ?_
  refine Dp10 (LT.move (v := (.tup [(.c (lo 29 r6.1.length)), (.c (bC r6.2.1))])) rfl) rfl rfl rfl ?_
  refine Dp10 (LT.extract (v := (.c (lo 29 r6.1.length))) rfl (by exact rfl)) rfl rfl rfl ?_
  refine Dp10 (LT.extract (v := (.c (bC r6.2.1))) rfl (by exact rfl)) rfl rfl rfl ?_
  refine Dp10 (LT.assign (v := (Cc (lo 29 r6.1.length))) rfl) rfl rfl rfl ?_
  refine Dp10 (LT.assign (v := (Bv r6.2.1)) rfl) rfl rfl rfl ?_
  refine AOD.nil (by kernel_rfl) ?_
  refine Ws (Ws ?_)
  refine en [(6, (Cc (lo 29 r6.1.length))), (7, (Bv r6.2.1))] [(0, (pR 62 encTBar r6.2.2.2.Framework.Graph.Bars)), (1, (pR 94 encTPlace r6.2.2.2.Framework.Places)), (2, (pR 3 encInt r6.2.2.2.Kinds)), (29, (pR 3 encInt r6.1))] ⟨rfl, rfl, trivial⟩ ⟨rfl, rfl, rfl, rfl, trivial⟩ ?_
  refine Wr ?_
  refine mv (Bv r6.2.1) rfl rfl rfl rfl ?_
  refine Op10 (LT.not rfl) rfl rfl rfl ?_
  refine On ?_
  refine AWR.cond rfl (fun hc7 => ?_) (fun hc7 => ?_)
  ·refine Ws (Wr ?_)
   refine Os00 (LT.tbuildSlice (n := 31) (enc := encInt) [] ([] : List Int) rfl rfl und37 ti3 rfl rfl rfl rfl (by decide) (fun _ => rfl) rfl) rfl rfl ?_
   refine asg (Cc (lo 31 (([] : List Int).length))) rfl rfl rfl rfl ?_
   refine asg (Bv false) rfl ⟨rfl, rfl⟩ rfl rfl ?_
   refine On ?_
   refine en [(2, (Cc (lo 31 (([] : List Int).length)))), (3, (Bv false))] [(0, (pR 62 encTBar r6.2.2.2.Framework.Graph.Bars)), (1, (pR 94 encTPlace r6.2.2.2.Framework.Places)), (2, (pR 3 encInt r6.2.2.2.Kinds)), (31, (pR 3 encInt ([] : List Int)))] ⟨rfl, rfl, trivial⟩ ⟨rfl, rfl, rfl, rfl, trivial⟩ ?_
   refine AWR.ent (Ent.mv 31 3 rfl rfl) ?_
   refine en [(2, (Cc (lo 3 (([] : List Int).length)))), (3, (Bv false))] [(0, (pR 62 encTBar r6.2.2.2.Framework.Graph.Bars)), (1, (pR 94 encTPlace r6.2.2.2.Framework.Places)), (2, (pR 3 encInt r6.2.2.2.Kinds)), (3, (pR 3 encInt ([] : List Int)))] ⟨rfl, rfl, trivial⟩ ⟨rfl, rfl, rfl, rfl, trivial⟩ ?_
   refine AWR.ret (FPost.mk (.inr rfl) ⟨rfl, rfl, trivial⟩ ⟨rfl, rfl, rfl, rfl, trivial⟩ rfl ⟨trivial, PermP.sc, trivial⟩ ⟨PermO.prow' perm_encTBar, PermO.prow' perm_encTPlace, PermO.prow' perm_encInt, PermO.prow' perm_encInt, trivial⟩)
  ·refine AWR.skip (Ws (Wr ?_))
   refine mv (Cc (lo 29 r6.1.length)) rfl rfl rfl rfl ?_
   refine asg (Cc (lo 29 r6.1.length)) rfl rfl rfl rfl ?_
   refine asg (Bv true) rfl ⟨rfl, rfl⟩ rfl rfl ?_
   refine On ?_
   refine en [(2, (Cc (lo 29 r6.1.length))), (3, (Bv true))] [(0, (pR 62 encTBar r6.2.2.2.Framework.Graph.Bars)), (1, (pR 94 encTPlace r6.2.2.2.Framework.Places)), (2, (pR 3 encInt r6.2.2.2.Kinds)), (29, (pR 3 encInt r6.1))] ⟨rfl, rfl, trivial⟩ ⟨rfl, rfl, rfl, rfl, trivial⟩ ?_
   refine AWR.ent (Ent.mv 29 3 rfl rfl) ?_
   refine en [(2, (Cc (lo 3 r6.1.length))), (3, (Bv true))] [(0, (pR 62 encTBar r6.2.2.2.Framework.Graph.Bars)), (1, (pR 94 encTPlace r6.2.2.2.Framework.Places)), (2, (pR 3 encInt r6.2.2.2.Kinds)), (3, (pR 3 encInt r6.1))] ⟨rfl, rfl, trivial⟩ ⟨rfl, rfl, rfl, rfl, trivial⟩ ?_
   refine AWR.ret (FPost.mk (.inr rfl) ⟨rfl, rfl, trivial⟩ ⟨rfl, rfl, rfl, rfl, trivial⟩ rfl ⟨trivial, PermP.sc, trivial⟩ ⟨PermO.prow' perm_encTBar, PermO.prow' perm_encTPlace, PermO.prow' perm_encInt, PermO.prow' perm_encInt, trivial⟩)
end Go.Proofs.Ytghofbijdnenoaa
end
section
set_option linter.unusedVariables false
set_option linter.unusedSimpArgs false
set_option linter.unnecessarySimpa false
set_option maxRecDepth 100000
set_option maxHeartbeats 8000000
open Go Go.Fw
namespace Go.Proofs.Ytghofbijdnenoaa
theorem w_laws_FnExactFindStrictStress (aT : TTensegrity) : ∀ t, m_laws_FnExactFindStrictStress aT = some t → Fw.Fn Try.prog 6 [(.agg [(iC aT.Framework.Graph.Points), (xF encTBar aT.Framework.Graph.Bars), (xF encTPlace aT.Framework.Places), (xF encInt aT.Kinds)])] [] (.s (.c (bC t))) [] [] [] := by
 refine Fw.Fn.of (P := Try.prog) (X := []) (pn := []) (rs := (fun (t : Bool) => [(.c (bC t))])) (dfs := (fun (t : Bool) => [])) Try.func6 rfl Try.ntmps6 (Nat.le_of_ble_eq_true rfl) rfl ?_
 intro w0 U0 R0 g0
 unfold m_laws_FnExactFindStrictStress
 refine Ws (Wr ?_)
 refine Os10 (LT.box (n := 21) (v := (.agg [(iC aT.Framework.Graph.Points), (xF encTBar aT.Framework.Graph.Bars), (xF encTPlace aT.Framework.Places), (xF encInt aT.Kinds)])) rfl sz70 (by exact rfl)) rfl rfl rfl ?_
 refine asg (Bv false) rfl ⟨rfl, rfl⟩ rfl rfl ?_
 refine On (Ws (Wr ?_))
 refine asg (Iv 1048576) rfl ⟨rfl, rfl⟩ rfl rfl ?_
 refine On (Ws (Wr ?_))
 refine Op11 (LT.bloadN (out := [(iC aT.Framework.Graph.Points), (xF encTBar aT.Framework.Graph.Bars), (xF encTPlace aT.Framework.Places), (xF encInt aT.Kinds)]) rfl ag70 (infS inf70) sz70 (by exact rfl) (by exact rfl)) rfl rfl rfl rfl ?_
 refine mv (Iv 1048576) rfl rfl rfl rfl ?_
 refine Ob' fun r1 hr1 => ?_
 refine AOR.pure (@LT.callF Try.prog _ _ 59 _ _ [(.agg [(iC aT.Framework.Graph.Points), (xF encTBar aT.Framework.Graph.Bars), (xF encTPlace aT.Framework.Places), (xF encInt aT.Kinds)]), (.c (iC 1048576))] _ _ [] _ _ _ _ (w_laws_szTensegrity aT 1048576 r1 hr1) rfl cb59 (.cons (.agg (.cons (.same rfl) (.cons (.same rfl) (.cons (.same rfl) (.cons (.same rfl) .nil))))) (.cons (.c (.same rfl)) .nil)) rfl rfl trivial) ⟨rfl, rfl, rfl, trivial⟩ trivial rfl rfl ?_
 refine asg (Iv r1) rfl rfl rfl rfl ?_
 refine On (Ws (Ws (Wr ?_)))
 refine mv (Iv r1) rfl rfl rfl rfl ?_
 refine Op20 (LT.lss rfl) rfl ⟨rfl, rfl⟩ rfl rfl ?_
 refine On ?_
 refine AWR.cond rfl (fun hc2 => ?_) (fun hc2 => ?_)
 ·refine Ws ?_
  refine en [] [] trivial trivial ?_
  refine Wr ?_
  refine asg (Bv true) rfl ⟨rfl, rfl⟩ rfl rfl ?_
  refine On ?_
  refine AWR.ret (FPost.mk (.inr rfl) ⟨rfl, trivial⟩ trivial rfl ⟨PermP.sc, trivial⟩ trivial)
 ·refine AWR.skip (Ws ?_)
  refine en [(1, (Cc (.pl 21 0)))] [(21, (.row 70 [[(iC aT.Framework.Graph.Points), (xF encTBar aT.Framework.Graph.Bars), (xF encTPlace aT.Framework.Places), (xF encInt aT.Kinds)]]))] ⟨rfl, trivial⟩ ⟨rfl, trivial⟩ ?_
  refine Wr ?_
  refine Op11 (LT.bloadN (out := [(iC aT.Framework.Graph.Points), (xF encTBar aT.Framework.Graph.Bars), (xF encTPlace aT.Framework.Places), (xF encInt aT.Kinds)]) rfl ag70 (infS inf70) sz70 (by exact rfl) (by exact rfl)) rfl rfl rfl rfl ?_
  refine Ob' fun r3 hr3 => ?_
  refine AOR.step (@LT.callF Try.prog _ _ 61 _ _ [(.agg [(iC aT.Framework.Graph.Points), (xF encTBar aT.Framework.Graph.Bars), (xF encTPlace aT.Framework.Places), (xF encInt aT.Kinds)])] _ _ [] _ _ _ _ ((show Fw.Fn Try.prog 61 [(.agg [(iC aT.Framework.Graph.Points), (xF encTBar aT.Framework.Graph.Bars), (xF encTPlace aT.Framework.Places), (xF encInt aT.Kinds)])] [] (Ag  [(iC r3.Framework.Graph.Points), (lo 24 r3.Framework.Graph.Bars.length), (lo 25 r3.Framework.Places.length), (lo 26 r3.Kinds.length)]) [(24, (pR 62 encTBar r3.Framework.Graph.Bars)), (25, (pR 94 encTPlace r3.Framework.Places)), (26, (pR 3 encInt r3.Kinds))] [] [24, 25, 26] from Fw.Fn.ren [(0, 24), (1, 25), (2, 26)] (w_laws_toTensegrity aT r3 hr3) rfl)) rfl cb61 (.cons (.agg (.cons (.same rfl) (.cons (.same rfl) (.cons (.same rfl) (.cons (.same rfl) .nil))))) .nil) rfl rfl trivial) ⟨rfl, rfl, trivial⟩ trivial rfl rfl ?_
  refine Ob' fun r4 hr4 => ?_
  refine AOR.step (@LT.callF Try.prog _ _ 60 _ _ [(.agg [(iC r3.Framework.Graph.Points), (lo 24 r3.Framework.Graph.Bars.length), (lo 25 r3.Framework.Places.length), (lo 26 r3.Kinds.length)])] _ _ [(24, (pR 62 encTBar r3.Framework.Graph.Bars)), (25, (pR 94 encTPlace r3.Framework.Places)), (26, (pR 3 encInt r3.Kinds))] _ _ _ _ ((show Fw.Fn Try.prog 60 [(.agg [(iC r3.Framework.Graph.Points), (xF encTBar r3.Framework.Graph.Bars), (xF encTPlace r3.Framework.Places), (xF encInt r3.Kinds)])] [] (.tup [(.c (lo 28 r4.1.length)), (.c (bC r4.2))]) [(28, (pR 3 encInt r4.1))] [] [28] from Fw.Fn.ren [(0, 28)] (w_spec_FindStrictStress r3 r4 hr4) rfl)) rfl cb60 (.cons (.agg (.cons (.same rfl) (.cons (.tloc rfl rfl) (.cons (.tloc rfl rfl) (.cons (.tloc rfl rfl) .nil))))) .nil) rfl rfl trivial) ⟨rfl, rfl, trivial⟩ ⟨rfl, rfl, rfl, trivial⟩ rfl rfl ?_
  refine mv (.tup [(.c (lo 28 r4.1.length)), (.c (bC r4.2))]) rfl rfl rfl rfl ?_
  refine Op10 (LT.extract (v := (.c (lo 28 r4.1.length))) rfl (by exact rfl)) rfl rfl rfl ?_
  refine Op10 (LT.extract (v := (.c (bC r4.2))) rfl (by exact rfl)) rfl rfl rfl ?_
  refine asg (Cc (lo 28 r4.1.length)) rfl rfl rfl rfl ?_
  refine asg (Bv r4.2) rfl rfl rfl rfl ?_
  refine On (Ws ?_)
  refine en [(1, (Cc (.pl 21 0))), (4, (Cc (lo 28 r4.1.length))), (5, (Bv r4.2))] [(21, (.row 70 [[(iC aT.Framework.Graph.Points), (xF encTBar aT.Framework.Graph.Bars), (xF encTPlace aT.Framework.Places), (xF encInt aT.Kinds)]])), (28, (pR 3 encInt r4.1))] ⟨rfl, rfl, rfl, trivial⟩ ⟨rfl, rfl, trivial⟩ ?_
  refine Wr ?_
  refine Op11 (LT.bloadN (out := [(iC aT.Framework.Graph.Points), (xF encTBar aT.Framework.Graph.Bars), (xF encTPlace aT.Framework.Places), (xF encInt aT.Kinds)]) rfl ag70 (infS inf70) sz70 (by exact rfl) (by exact rfl)) rfl rfl rfl rfl ?_
  refine Ob' fun r5 hr5 => ?_
  refine AOR.step (@LT.callF Try.prog _ _ 61 _ _ [(.agg [(iC aT.Framework.Graph.Points), (xF encTBar aT.Framework.Graph.Bars), (xF encTPlace aT.Framework.Places), (xF encInt aT.Kinds)])] _ _ [] _ _ _ _ ((show Fw.Fn Try.prog 61 [(.agg [(iC aT.Framework.Graph.Points), (xF encTBar aT.Framework.Graph.Bars), (xF encTPlace aT.Framework.Places), (xF encInt aT.Kinds)])] [] (Ag  [(iC r5.Framework.Graph.Points), (lo 30 r5.Framework.Graph.Bars.length), (lo 31 r5.Framework.Places.length), (lo 32 r5.Kinds.length)]) [(30, (pR 62 encTBar r5.Framework.Graph.Bars)), (31, (pR 94 encTPlace r5.Framework.Places)), (32, (pR 3 encInt r5.Kinds))] [] [30, 31, 32] from Fw.Fn.ren [(0, 30), (1, 31), (2, 32)] (w_laws_toTensegrity aT r5 hr5) rfl)) rfl cb61 (.cons (.agg (.cons (.same rfl) (.cons (.same rfl) (.cons (.same rfl) (.cons (.same rfl) .nil))))) .nil) rfl rfl trivial) ⟨rfl, rfl, trivial⟩ trivial rfl rfl ?_
  refine Os00 (LT.alloc (n := 33) (cells := [(iC 0), (sC nilV), (sC nilV), (sC nilV)]) rfl ti75 rfl rfl rfl) rfl rfl ?_
  refine Os21 (LT.bstore (v := (.agg [(iC r5.Framework.Graph.Points), (lo 30 r5.Framework.Graph.Bars.length), (lo 31 r5.Framework.Places.length), (lo 32 r5.Kinds.length)])) (out := [(iC r5.Framework.Graph.Points), (lo 30 r5.Framework.Graph.Bars.length), (lo 31 r5.Framework.Places.length), (lo 32 r5.Kinds.length)]) rfl rfl (infS inf75) sz75 (by exact rfl) (by exact Nat.le_of_ble_eq_true rfl) (by exact rfl)) rfl rfl rfl rfl rfl ?_
  refine On (Ws (Wr ?_))
  refine Op11 (LT.bloadN (out := [(iC r5.Framework.Graph.Points), (lo 30 r5.Framework.Graph.Bars.length), (lo 31 r5.Framework.Places.length), (lo 32 r5.Kinds.length)]) rfl ag75 (infS inf75) sz75 (by exact rfl) (by exact rfl)) rfl rfl rfl rfl ?_
  refine Ob' fun r6 hr6 => ?_
  refine AOR.step (@LT.callF Try.prog _ _ 62 _ _ [(.agg [(iC r5.Framework.Graph.Points), (lo 30 r5.Framework.Graph.Bars.length), (lo 31 r5.Framework.Places.length), (lo 32 r5.Kinds.length)])] _ _ [] _ _ _ _ ((show Fw.Fn Try.prog 62 [(.agg [(iC r5.Framework.Graph.Points), (lo 30 r5.Framework.Graph.Bars.length), (lo 31 r5.Framework.Places.length), (lo 32 r5.Kinds.length)])] [(30, (pR 62 encTBar r5.Framework.Graph.Bars)), (31, (pR 94 encTPlace r5.Framework.Places)), (32, (pR 3 encInt r5.Kinds))] (.tup [(.c (lo 35 r6.1.length)), (.c (bC r6.2.1))]) [(30, (pR 62 encTBar r6.2.2.1)), (31, (pR 94 encTPlace r6.2.2.2.1)), (32, (pR 3 encInt r6.2.2.2.2)), (35, (pR 3 encInt r6.1))] [30, 31, 32] [35] from Fw.Fn.ren [(0, 30), (1, 31), (2, 32), (3, 35)] (w_impl_FindStrictStress r5 r6 hr6) rfl)) rfl cb62 (.cons (.agg (.cons (.same rfl) (.cons (.same rfl) (.cons (.same rfl) (.cons (.same rfl) .nil))))) .nil) rfl rfl ⟨rfl, rfl, rfl, trivial⟩) ⟨rfl, rfl, trivial⟩ ⟨rfl, rfl, rfl, trivial⟩ rfl rfl ?_
  refine mv (.tup [(.c (lo 35 r6.1.length)), (.c (bC r6.2.1))]) rfl rfl rfl rfl ?_
  refine Op10 (LT.extract (v := (.c (lo 35 r6.1.length))) rfl (by exact rfl)) rfl rfl rfl ?_
  refine Op10 (LT.extract (v := (.c (bC r6.2.1))) rfl (by exact rfl)) rfl rfl rfl ?_
  refine asg (Cc (lo 35 r6.1.length)) rfl rfl rfl rfl ?_
  refine asg (Bv r6.2.1) rfl rfl rfl rfl ?_
  refine On (Ws (Ws ?_))
  refine AWR.joinK (fun j9 => ([(1, (Cc (.pl 21 0))), (4, (Cc (lo 28 r4.1.length))), (5, (Bv r4.2)), (6, (Cc (.pl 33 0))), (7, (Cc (lo 35 r6.1.length))), (8, (Bv r6.2.1)), (40, (Bv j9))], [(21, (.row 70 [[(iC aT.Framework.Graph.Points), (xF encTBar aT.Framework.Graph.Bars), (xF encTPlace aT.Framework.Places), (xF encInt aT.Kinds)]])), (28, (pR 3 encInt r4.1)), (30, (pR 62 encTBar r6.2.2.1)), (31, (pR 94 encTPlace r6.2.2.2.1)), (32, (pR 3 encInt r6.2.2.2.2)), (33, (.row 75 [[(iC r5.Framework.Graph.Points), (lo 30 r6.2.2.1.length), (lo 31 r6.2.2.2.1.length), (lo 32 r6.2.2.2.2.length)]])), (35, (pR 3 encInt r6.1))])) ?_ (fun j9 _ => ?_)
  ·refine en [(1, (Cc (.pl 21 0))), (4, (Cc (lo 28 r4.1.length))), (5, (Bv r4.2)), (6, (Cc (.pl 33 0))), (7, (Cc (lo 35 r6.1.length))), (8, (Bv r6.2.1))] [(21, (.row 70 [[(iC aT.Framework.Graph.Points), (xF encTBar aT.Framework.Graph.Bars), (xF encTPlace aT.Framework.Places), (xF encInt aT.Kinds)]])), (28, (pR 3 encInt r4.1)), (30, (pR 62 encTBar r6.2.2.1)), (31, (pR 94 encTPlace r6.2.2.2.1)), (32, (pR 3 encInt r6.2.2.2.2)), (33, (.row 75 [[(iC r5.Framework.Graph.Points), (lo 30 r5.Framework.Graph.Bars.length), (lo 31 r5.Framework.Places.length), (lo 32 r5.Kinds.length)]])), (35, (pR 3 encInt r6.1))] ⟨rfl, rfl, rfl, rfl, rfl, rfl, trivial⟩ ⟨rfl, rfl, rfl, rfl, rfl, rfl, rfl, trivial⟩ ?_
   refine Wr ?_
   refine mv (Cc (lo 35 r6.1.length)) rfl rfl rfl rfl ?_
   refine mv (Cc (lo 28 r4.1.length)) rfl rfl rfl rfl ?_
   refine Ob' fun r10 hr10 => ?_
   refine AOR.pure (@LT.callF Try.prog _ _ 63 _ _ [(.c (lo 35 r6.1.length)), (.c (lo 28 r4.1.length))] _ _ [(35, (pR 3 encInt r6.1)), (28, (pR 3 encInt r4.1))] _ _ _ _ (w_laws_eqIntS r6.1 r4.1 r10 hr10) rfl cb63 (.cons (.c (.tloc rfl rfl)) (.cons (.c (.tloc rfl rfl)) .nil)) rfl rfl trivial) ⟨rfl, rfl, rfl, trivial⟩ ⟨rfl, rfl, trivial⟩ rfl rfl ?_
   refine Op10 (LT.not rfl) rfl rfl rfl ?_
   refine mv (Bv (!r10)) rfl rfl rfl rfl ?_
   refine AOR.split (fun hb11 => ?_) (fun hb11 => ?_)
   ·refine Ok rfl rfl rfl (by rw [hb11]; rfl) rfl ?_
    refine Ok rfl rfl rfl (by rw [hb11]; rfl) rfl ?_
    refine Ok rfl rfl rfl (by rw [hb11]; rfl) rfl ?_
    refine Op20 (LT.pickT (v := (Bv true)) rfl hb11) rfl ⟨rfl, rfl⟩ rfl rfl ?_
    refine On ?_
    refine AWR.bind fun u12 hu12 => ?_
    refine AWR.bind fun u13 hu13 => ?_
    refine AWR.bind fun u14 hu14 => ?_
    refine AWR.nil ⟨rfl, Ent.of ⟨rfl, rfl, rfl, rfl, rfl, rfl, rfl, trivial⟩ ⟨rfl, rfl, rfl, rfl, rfl, (congr (congr (congrArg (fun l1 l2 l3 => (some (Ob.row 75 [[(iC r5.Framework.Graph.Points), (lo 30 l1), (lo 31 l2), (lo 32 l3)]]) : Option Ob)) (same_eq hu12)) (same_eq hu13)) (same_eq hu14)), rfl, trivial⟩⟩
   ·refine mv (Bv r6.2.1) rfl rfl ⟨_, rfl, .inl ⟨_, rfl, (by rw [hb11]; rfl)⟩⟩ rfl ?_
    refine mv (Bv r4.2) rfl rfl ⟨_, rfl, .inl ⟨_, rfl, (by rw [hb11]; rfl)⟩⟩ rfl ?_
    refine Op20 (LT.neqB rfl und4) rfl rfl ⟨_, rfl, .inl ⟨_, rfl, (by rw [hb11]; rfl)⟩⟩ rfl ?_
    refine Op20 (LT.pickF (v := (Bv (r6.2.1 != r4.2))) rfl hb11) rfl rfl rfl rfl ?_
    refine On ?_
    refine AWR.bind fun u15 hu15 => ?_
    refine AWR.bind fun u16 hu16 => ?_
    refine AWR.bind fun u17 hu17 => ?_
    refine AWR.nil ⟨rfl, Ent.of ⟨rfl, rfl, rfl, rfl, rfl, rfl, rfl, trivial⟩ ⟨rfl, rfl, rfl, rfl, rfl, (congr (congr (congrArg (fun l1 l2 l3 => (some (Ob.row 75 [[(iC r5.Framework.Graph.Points), (lo 30 l1), (lo 31 l2), (lo 32 l3)]]) : Option Ob)) (same_eq hu15)) (same_eq hu16)) (same_eq hu17)), rfl, trivial⟩⟩
  ·refine AWR.cond rfl (fun hc18 => ?_) (fun hc18 => ?_)
   ·refine Ws (Wr ?_)
    refine asg (Bv false) rfl ⟨rfl, rfl⟩ rfl rfl ?_
    refine On ?_
    refine AWR.ret (FPost.mk (.inr rfl) ⟨rfl, trivial⟩ trivial rfl ⟨PermP.sc, trivial⟩ trivial)
   ·refine AWR.skip (Ws (Ws (AWR.draw mixed ?_)))
    refine Dp11 (LT.bloadN (out := [(iC r5.Framework.Graph.Points), (lo 30 r6.2.2.1.length), (lo 31 r6.2.2.2.1.length), (lo 32 r6.2.2.2.2.length)]) rfl ag75 (infS inf75) sz75 (by exact rfl) (by exact rfl)) rfl rfl rfl rfl ?_
    refine Dp11 (LT.bloadN (out := [(iC aT.Framework.Graph.Points), (xF encTBar aT.Framework.Graph.Bars), (xF encTPlace aT.Framework.Places), (xF encInt aT.Kinds)]) rfl ag70 (infS inf70) sz70 (by exact rfl) (by exact rfl)) rfl rfl rfl rfl ?_
    refine AOD.bind fun r19 hr19 => ?_
    refine AOD.step (@LT.callF Try.prog _ _ 61 _ _ [(.agg [(iC aT.Framework.Graph.Points), (xF encTBar aT.Framework.Graph.Bars), (xF encTPlace aT.Framework.Places), (xF encInt aT.Kinds)])] _ _ [] _ _ _ _ ((show Fw.Fn Try.prog 61 [(.agg [(iC aT.Framework.Graph.Points), (xF encTBar aT.Framework.Graph.Bars), (xF encTPlace aT.Framework.Places), (xF encInt aT.Kinds)])] [] (Ag  [(iC r19.Framework.Graph.Points), (lo 38 r19.Framework.Graph.Bars.length), (lo 39 r19.Framework.Places.length), (lo 40 r19.Kinds.length)]) [(38, (pR 62 encTBar r19.Framework.Graph.Bars)), (39, (pR 94 encTPlace r19.Framework.Places)), (40, (pR 3 encInt r19.Kinds))] [] [38, 39, 40] from Fw.Fn.ren [(0, 38), (1, 39), (2, 40)] (w_laws_toTensegrity aT r19 hr19) rfl)) rfl cb61 (.cons (.agg (.cons (.same rfl) (.cons (.same rfl) (.cons (.same rfl) (.cons (.same rfl) .nil))))) .nil) rfl rfl trivial) ⟨rfl, rfl, trivial⟩ trivial rfl rfl ?_
    refine AOD.bind fun r20 hr20 => ?_
    refine AOD.pure (@LT.callF Try.prog _ _ 64 _ _ [(.agg [(iC r5.Framework.Graph.Points), (lo 30 r6.2.2.1.length), (lo 31 r6.2.2.2.1.length), (lo 32 r6.2.2.2.2.length)]), (.agg [(iC r19.Framework.Graph.Points), (lo 38 r19.Framework.Graph.Bars.length), (lo 39 r19.Framework.Places.length), (lo 40 r19.Kinds.length)])] _ _ [(30, (pR 62 encTBar r6.2.2.1)), (31, (pR 94 encTPlace r6.2.2.2.1)), (32, (pR 3 encInt r6.2.2.2.2)), (38, (pR 62 encTBar r19.Framework.Graph.Bars)), (39, (pR 94 encTPlace r19.Framework.Places)), (40, (pR 3 encInt r19.Kinds))] _ _ _ _ (w_laws_eqTensegrity (TTensegrity.mk (TFramework.mk (TGraph.mk r5.Framework.Graph.Points r6.2.2.1) r6.2.2.2.1) r6.2.2.2.2) r19 r20 hr20) rfl cb64 (.cons (.agg (.cons (.same rfl) (.cons (.tloc rfl rfl) (.cons (.tloc rfl rfl) (.cons (.tloc rfl rfl) .nil))))) (.cons (.agg (.cons (.same rfl) (.cons (.tloc rfl rfl) (.cons (.tloc rfl rfl) (.cons (.tloc rfl rfl) .nil))))) .nil)) rfl rfl trivial) ⟨rfl, rfl, rfl, trivial⟩ ⟨rfl, rfl, rfl, rfl, rfl, rfl, trivial⟩ rfl rfl ?_
    refine Dp10 (LT.not rfl) rfl rfl rfl ?_
    refine AOD.nil (by kernel_rfl) ?_
    refine AWR.cond rfl (fun hc21 => ?_) (fun hc21 => ?_)
    ·refine Ws (Wr ?_)
     refine asg (Bv false) rfl ⟨rfl, rfl⟩ rfl rfl ?_
     refine On ?_
     refine AWR.ret (FPost.mk (.inr rfl) ⟨rfl, trivial⟩ trivial rfl ⟨PermP.sc, trivial⟩ trivial)
    ·refine AWR.skip (Ws (Wr ?_))
     refine asg (Iv 1) rfl ⟨rfl, rfl⟩ rfl rfl ?_
     refine On (Ws (Wr ?_))
     refine Op11 (LT.bloadN (out := [(iC r5.Framework.Graph.Points), (lo 30 r6.2.2.1.length), (lo 31 r6.2.2.2.1.length), (lo 32 r6.2.2.2.2.length)]) rfl ag75 (infS inf75) sz75 (by exact rfl) (by exact rfl)) rfl rfl rfl rfl ?_
     refine mv (Iv 1) rfl rfl rfl rfl ?_
     refine Ob' fun r22 hr22 => ?_
     refine AOR.step (@LT.callF Try.prog _ _ 65 _ _ [(.agg [(iC r5.Framework.Graph.Points), (lo 30 r6.2.2.1.length), (lo 31 r6.2.2.2.1.length), (lo 32 r6.2.2.2.2.length)]), (.c (iC 1))] _ _ [] _ _ _ _ ((show Fw.Fn Try.prog 65 [(.agg [(iC r5.Framework.Graph.Points), (lo 30 r6.2.2.1.length), (lo 31 r6.2.2.2.1.length), (lo 32 r6.2.2.2.2.length)]), (.c (iC 1))] [(30, (pR 62 encTBar r6.2.2.1)), (31, (pR 94 encTPlace r6.2.2.2.1)), (32, (pR 3 encInt r6.2.2.2.2))] (Iv r22.1) [(30, (pR 62 encTBar r22.2.1)), (31, (pR 94 encTPlace r22.2.2.1)), (32, (pR 3 encInt r22.2.2.2))] [30, 31, 32] [] from Fw.Fn.ren [(0, 30), (1, 31), (2, 32)] (w_laws_markTensegrity (TTensegrity.mk (TFramework.mk (TGraph.mk r5.Framework.Graph.Points r6.2.2.1) r6.2.2.2.1) r6.2.2.2.2) 1 r22 hr22) rfl)) rfl cb65 (.cons (.agg (.cons (.same rfl) (.cons (.same rfl) (.cons (.same rfl) (.cons (.same rfl) .nil))))) (.cons (.c (.same rfl)) .nil)) rfl rfl ⟨rfl, rfl, rfl, trivial⟩) ⟨rfl, rfl, rfl, trivial⟩ ⟨rfl, rfl, rfl, trivial⟩ rfl rfl ?_
     refine asg (Iv r22.1) rfl rfl rfl rfl ?_
     refine On (Ws (Ws ?_))
     refine AWR.joinK (fun j26 => ([(1, (Cc (.pl 21 0))), (4, (Cc (lo 28 r4.1.length))), (5, (Bv r4.2)), (7, (Cc (lo 35 r6.1.length))), (61, (Bv j26))], [(21, (.row 70 [[(iC aT.Framework.Graph.Points), (xF encTBar aT.Framework.Graph.Bars), (xF encTPlace aT.Framework.Places), (xF encInt aT.Kinds)]])), (28, (pR 3 encInt r4.1)), (35, (pR 3 encInt r6.1))])) ?_ (fun j26 _ => ?_)
     ·refine en [(1, (Cc (.pl 21 0))), (4, (Cc (lo 28 r4.1.length))), (5, (Bv r4.2)), (7, (Cc (lo 35 r6.1.length))), (8, (Bv r6.2.1)), (9, (Iv r22.1))] [(21, (.row 70 [[(iC aT.Framework.Graph.Points), (xF encTBar aT.Framework.Graph.Bars), (xF encTPlace aT.Framework.Places), (xF encInt aT.Kinds)]])), (28, (pR 3 encInt r4.1)), (35, (pR 3 encInt r6.1))] ⟨rfl, rfl, rfl, rfl, rfl, rfl, trivial⟩ ⟨rfl, rfl, rfl, trivial⟩ ?_
      refine Wr ?_
      refine mv (Iv r22.1) rfl rfl rfl rfl ?_
      refine Op20 (LT.lss rfl) rfl ⟨rfl, rfl⟩ rfl rfl ?_
      refine mv (Bv (decide (r22.1 < 0))) rfl rfl rfl rfl ?_
      refine AOR.split (fun hb27 => ?_) (fun hb27 => ?_)
      ·refine Ok rfl rfl rfl (by rw [hb27]; rfl) rfl ?_
       refine Ok rfl rfl rfl (by rw [hb27]; rfl) rfl ?_
       refine Ok rfl rfl rfl (by rw [hb27]; rfl) rfl ?_
       refine Ok rfl rfl rfl (by rw [hb27]; rfl) rfl ?_
       refine Op20 (LT.pickT (v := (Bv true)) rfl hb27) rfl ⟨rfl, rfl⟩ rfl rfl ?_
       refine mv (Bv true) rfl rfl rfl rfl ?_
       refine Ok rfl rfl rfl rfl rfl ?_
       refine Ok rfl rfl rfl rfl rfl ?_
       refine Ok rfl rfl rfl rfl rfl ?_
       refine Op20 (LT.pickT (v := (Bv true)) rfl rfl) rfl ⟨rfl, rfl⟩ rfl rfl ?_
       refine On ?_
       refine AWR.nil ⟨rfl, Ent.of ⟨rfl, rfl, rfl, rfl, rfl, trivial⟩ ⟨rfl, rfl, rfl, trivial⟩⟩
      ·refine mv (Cc (lo 35 r6.1.length)) rfl rfl ⟨_, rfl, .inl ⟨_, rfl, (by rw [hb27]; rfl)⟩⟩ rfl ?_
       refine mv (Cc (lo 28 r4.1.length)) rfl rfl ⟨_, rfl, .inl ⟨_, rfl, (by rw [hb27]; rfl)⟩⟩ rfl ?_
       refine Ob' fun r28 hr28 => ?_
       refine AOR.pure (@LT.callF Try.prog _ _ 63 _ _ [(.c (lo 35 r6.1.length)), (.c (lo 28 r4.1.length))] _ _ [(35, (pR 3 encInt r6.1)), (28, (pR 3 encInt r4.1))] _ _ _ _ (w_laws_eqIntS r6.1 r4.1 r28 hr28) rfl cb63 (.cons (.c (.tloc rfl rfl)) (.cons (.c (.tloc rfl rfl)) .nil)) rfl rfl trivial) ⟨rfl, rfl, rfl, trivial⟩ ⟨rfl, rfl, trivial⟩ ⟨_, rfl, .inl ⟨_, rfl, (by rw [hb27]; rfl)⟩⟩ rfl ?_
       refine Op10 (LT.not rfl) rfl ⟨_, rfl, .inl ⟨_, rfl, (by rw [hb27]; rfl)⟩⟩ rfl ?_
       refine Op20 (LT.pickF (v := (Bv (!r28))) rfl hb27) rfl rfl rfl rfl ?_
       refine mv (Bv (!r28)) rfl rfl rfl rfl ?_
       refine AOR.split (fun hb29 => ?_) (fun hb29 => ?_)
       ·refine Ok rfl rfl rfl (by rw [hb29]; rfl) rfl ?_
        refine Ok rfl rfl rfl (by rw [hb29]; rfl) rfl ?_
        refine Ok rfl rfl rfl (by rw [hb29]; rfl) rfl ?_
        refine Op20 (LT.pickT (v := (Bv true)) rfl hb29) rfl ⟨rfl, rfl⟩ rfl rfl ?_
        refine On ?_
        refine AWR.nil ⟨rfl, Ent.of ⟨rfl, rfl, rfl, rfl, rfl, trivial⟩ ⟨rfl, rfl, rfl, trivial⟩⟩
       ·refine mv (Bv r6.2.1) rfl rfl ⟨_, rfl, .inl ⟨_, rfl, (by rw [hb29]; rfl)⟩⟩ rfl ?_
        refine mv (Bv r4.2) rfl rfl ⟨_, rfl, .inl ⟨_, rfl, (by rw [hb29]; rfl)⟩⟩ rfl ?_
        refine Op20 (LT.neqB rfl und4) rfl rfl ⟨_, rfl, .inl ⟨_, rfl, (by rw [hb29]; rfl)⟩⟩ rfl ?_
        refine Op20 (LT.pickF (v := (Bv (r6.2.1 != r4.2))) rfl hb29) rfl rfl rfl rfl ?_
        refine On ?_
        refine AWR.nil ⟨rfl, Ent.of ⟨rfl, rfl, rfl, rfl, rfl, trivial⟩ ⟨rfl, rfl, rfl, trivial⟩⟩
     ·refine AWR.cond rfl (fun hc30 => ?_) (fun hc30 => ?_)
      ·refine Ws (Wr ?_)
       refine asg (Bv false) rfl ⟨rfl, rfl⟩ rfl rfl ?_
       refine On ?_
       refine AWR.ret (FPost.mk (.inr rfl) ⟨rfl, trivial⟩ trivial rfl ⟨PermP.sc, trivial⟩ trivial)
      ·refine AWR.skip (Ws (Wr ?_))
       refine asg (Iv 1) rfl ⟨rfl, rfl⟩ rfl rfl ?_
       refine On (Ws (Wr ?_))
       refine mv (Cc (lo 35 r6.1.length)) rfl rfl rfl rfl ?_
       refine mv (Iv 1) rfl rfl rfl rfl ?_
       refine Ob' fun r31 hr31 => ?_
       refine AOR.step (@LT.callF Try.prog _ _ 66 _ _ [(.c (lo 35 r6.1.length)), (.c (iC 1))] _ _ [] _ _ _ _ ((show Fw.Fn Try.prog 66 [(.c (lo 35 r6.1.length)), (.c (iC 1))] [(35, (pR 3 encInt r6.1))] (Iv r31.1) [(35, (pR 3 encInt r31.2))] [35] [] from Fw.Fn.ren [(0, 35)] (w_laws_markIntS r6.1 1 r31 hr31) rfl)) rfl cb66 (.cons (.c (.same rfl)) (.cons (.c (.same rfl)) .nil)) rfl rfl ⟨rfl, trivial⟩) ⟨rfl, rfl, rfl, trivial⟩ ⟨rfl, trivial⟩ rfl rfl ?_
       refine asg (Iv r31.1) rfl rfl rfl rfl ?_
       refine On (Ws (Wr ?_))
       refine asg (Iv 1) rfl ⟨rfl, rfl⟩ rfl rfl ?_
       refine On (Ws (Wr ?_))
       refine mv (Cc (lo 35 r6.1.length)) rfl rfl rfl rfl ?_
       refine mv (Iv 1) rfl rfl rfl rfl ?_
       refine Ob' fun u32 hu32 => ?_
       refine Ob' fun r33 hr33 => ?_
       refine AOR.pure (@LT.callF Try.prog _ _ 67 _ _ [(.c (lo 35 r6.1.length)), (.c (iC 1))] _ _ [(35, (pR 3 encInt r31.2))] _ _ _ _ (w_laws_heldIntS r31.2 1 r33 hr33) rfl cb67 (.cons (.c (.tloc (same_eq hu32) rfl)) (.cons (.c (.same rfl)) .nil)) rfl rfl trivial) ⟨rfl, rfl, rfl, trivial⟩ ⟨rfl, trivial⟩ rfl rfl ?_
       refine asg (Iv r33) rfl rfl rfl rfl ?_
       refine On (Ws (Ws ?_))
       refine en [(1, (Cc (.pl 21 0))), (4, (Cc (lo 28 r4.1.length))), (5, (Bv r4.2)), (7, (Cc (lo 35 r6.1.length))), (10, (Iv r31.1)), (11, (Iv r33))] [(21, (.row 70 [[(iC aT.Framework.Graph.Points), (xF encTBar aT.Framework.Graph.Bars), (xF encTPlace aT.Framework.Places), (xF encInt aT.Kinds)]])), (28, (pR 3 encInt r4.1)), (35, (pR 3 encInt r31.2))] ⟨rfl, rfl, rfl, rfl, rfl, rfl, trivial⟩ ⟨rfl, rfl, rfl, trivial⟩ ?_
       refine Wr ?_
       refine mv (Iv r33) rfl rfl rfl rfl ?_
       refine Op20 (LT.lss rfl) rfl ⟨rfl, rfl⟩ rfl rfl ?_
       refine On ?_
       refine AWR.cond rfl (fun hc34 => ?_) (fun hc34 => ?_)
       ·refine Ws (Wr ?_)
        refine asg (Bv false) rfl ⟨rfl, rfl⟩ rfl rfl ?_
        refine On ?_
        refine AWR.ret (FPost.mk (.inr rfl) ⟨rfl, trivial⟩ trivial rfl ⟨PermP.sc, trivial⟩ trivial)
       ·refine AWR.skip (Ws (Ws (Wr ?_)))
        refine mv (Iv r33) rfl rfl rfl rfl ?_
        refine mv (Iv r31.1) rfl rfl rfl rfl ?_
        refine Op20 (LT.neq rfl) rfl rfl rfl rfl ?_
        refine On ?_
        refine AWR.cond rfl (fun hc35 => ?_) (fun hc35 => ?_)
        ·refine Ws (Wr ?_)
         refine asg (Bv false) rfl ⟨rfl, rfl⟩ rfl rfl ?_
         refine On ?_
         refine AWR.ret (FPost.mk (.inr rfl) ⟨rfl, trivial⟩ trivial rfl ⟨PermP.sc, trivial⟩ trivial)
        ·refine AWR.skip (Ws (Wr ?_))
         refine Op11 (LT.bloadN (out := [(iC aT.Framework.Graph.Points), (xF encTBar aT.Framework.Graph.Bars), (xF encTPlace aT.Framework.Places), (xF encInt aT.Kinds)]) rfl ag70 (infS inf70) sz70 (by exact rfl) (by exact rfl)) rfl rfl rfl rfl ?_
         refine Ob' fun r36 hr36 => ?_
         refine AOR.step (@LT.callF Try.prog _ _ 61 _ _ [(.agg [(iC aT.Framework.Graph.Points), (xF encTBar aT.Framework.Graph.Bars), (xF encTPlace aT.Framework.Places), (xF encInt aT.Kinds)])] _ _ [] _ _ _ _ ((show Fw.Fn Try.prog 61 [(.agg [(iC aT.Framework.Graph.Points), (xF encTBar aT.Framework.Graph.Bars), (xF encTPlace aT.Framework.Places), (xF encInt aT.Kinds)])] [] (Ag  [(iC r36.Framework.Graph.Points), (lo 47 r36.Framework.Graph.Bars.length), (lo 48 r36.Framework.Places.length), (lo 49 r36.Kinds.length)]) [(47, (pR 62 encTBar r36.Framework.Graph.Bars)), (48, (pR 94 encTPlace r36.Framework.Places)), (49, (pR 3 encInt r36.Kinds))] [] [47, 48, 49] from Fw.Fn.ren [(0, 47), (1, 48), (2, 49)] (w_laws_toTensegrity aT r36 hr36) rfl)) rfl cb61 (.cons (.agg (.cons (.same rfl) (.cons (.same rfl) (.cons (.same rfl) (.cons (.same rfl) .nil))))) .nil) rfl rfl trivial) ⟨rfl, rfl, trivial⟩ trivial rfl rfl ?_
         refine Ob' fun r37 hr37 => ?_
         refine AOR.step (@LT.callF Try.prog _ _ 62 _ _ [(.agg [(iC r36.Framework.Graph.Points), (lo 47 r36.Framework.Graph.Bars.length), (lo 48 r36.Framework.Places.length), (lo 49 r36.Kinds.length)])] _ _ [] _ _ _ _ ((show Fw.Fn Try.prog 62 [(.agg [(iC r36.Framework.Graph.Points), (lo 47 r36.Framework.Graph.Bars.length), (lo 48 r36.Framework.Places.length), (lo 49 r36.Kinds.length)])] [(47, (pR 62 encTBar r36.Framework.Graph.Bars)), (48, (pR 94 encTPlace r36.Framework.Places)), (49, (pR 3 encInt r36.Kinds))] (.tup [(.c (lo 51 r37.1.length)), (.c (bC r37.2.1))]) [(47, (pR 62 encTBar r37.2.2.1)), (48, (pR 94 encTPlace r37.2.2.2.1)), (49, (pR 3 encInt r37.2.2.2.2)), (51, (pR 3 encInt r37.1))] [47, 48, 49] [51] from Fw.Fn.ren [(0, 47), (1, 48), (2, 49), (3, 51)] (w_impl_FindStrictStress r36 r37 hr37) rfl)) rfl cb62 (.cons (.agg (.cons (.same rfl) (.cons (.same rfl) (.cons (.same rfl) (.cons (.same rfl) .nil))))) .nil) rfl rfl ⟨rfl, rfl, rfl, trivial⟩) ⟨rfl, rfl, trivial⟩ ⟨rfl, rfl, rfl, trivial⟩ rfl rfl ?_
         refine mv (.tup [(.c (lo 51 r37.1.length)), (.c (bC r37.2.1))]) rfl rfl rfl rfl ?_
         refine Op10 (LT.extract (v := (.c (lo 51 r37.1.length))) rfl (by exact rfl)) rfl rfl rfl ?_
         refine Op10 (LT.extract (v := (.c (bC r37.2.1))) rfl (by exact rfl)) rfl rfl rfl ?_
         refine asg (Cc (lo 51 r37.1.length)) rfl rfl rfl rfl ?_
         refine asg (Bv r37.2.1) rfl rfl rfl rfl ?_
         refine On (Ws (Ws ?_))
         refine AWR.joinK (fun j40 => ([(7, (Cc (lo 35 r31.2.length))), (10, (Iv r31.1)), (87, (Bv j40))], [(35, (pR 3 encInt r31.2))])) ?_ (fun j40 _ => ?_)
         ·refine en [(4, (Cc (lo 28 r4.1.length))), (5, (Bv r4.2)), (7, (Cc (lo 35 r6.1.length))), (10, (Iv r31.1)), (12, (Cc (lo 51 r37.1.length))), (13, (Bv r37.2.1))] [(28, (pR 3 encInt r4.1)), (35, (pR 3 encInt r31.2)), (51, (pR 3 encInt r37.1))] ⟨rfl, rfl, rfl, rfl, rfl, rfl, trivial⟩ ⟨rfl, rfl, rfl, trivial⟩ ?_
          refine Wr ?_
          refine mv (Cc (lo 51 r37.1.length)) rfl rfl rfl rfl ?_
          refine mv (Cc (lo 28 r4.1.length)) rfl rfl rfl rfl ?_
          refine Ob' fun r41 hr41 => ?_
          refine AOR.pure (@LT.callF Try.prog _ _ 63 _ _ [(.c (lo 51 r37.1.length)), (.c (lo 28 r4.1.length))] _ _ [(51, (pR 3 encInt r37.1)), (28, (pR 3 encInt r4.1))] _ _ _ _ (w_laws_eqIntS r37.1 r4.1 r41 hr41) rfl cb63 (.cons (.c (.tloc rfl rfl)) (.cons (.c (.tloc rfl rfl)) .nil)) rfl rfl trivial) ⟨rfl, rfl, rfl, trivial⟩ ⟨rfl, rfl, trivial⟩ rfl rfl ?_
          refine Op10 (LT.not rfl) rfl rfl rfl ?_
          refine mv (Bv (!r41)) rfl rfl rfl rfl ?_
          refine AOR.split (fun hb42 => ?_) (fun hb42 => ?_)
          ·refine Ok rfl rfl rfl (by rw [hb42]; rfl) rfl ?_
           refine Ok rfl rfl rfl (by rw [hb42]; rfl) rfl ?_
           refine Ok rfl rfl rfl (by rw [hb42]; rfl) rfl ?_
           refine Op20 (LT.pickT (v := (Bv true)) rfl hb42) rfl ⟨rfl, rfl⟩ rfl rfl ?_
           refine On ?_
           refine AWR.bind fun u43 hu43 => ?_
           refine AWR.nil ⟨rfl, Ent.of ⟨(congrArg (fun l1 => (some (AV.s (.c (lo 35 l1))) : Option AV)) (same_eq hu43)), rfl, rfl, trivial⟩ ⟨rfl, trivial⟩⟩
          ·refine mv (Bv r37.2.1) rfl rfl ⟨_, rfl, .inl ⟨_, rfl, (by rw [hb42]; rfl)⟩⟩ rfl ?_
           refine mv (Bv r4.2) rfl rfl ⟨_, rfl, .inl ⟨_, rfl, (by rw [hb42]; rfl)⟩⟩ rfl ?_
           refine Op20 (LT.neqB rfl und4) rfl rfl ⟨_, rfl, .inl ⟨_, rfl, (by rw [hb42]; rfl)⟩⟩ rfl ?_
           refine Op20 (LT.pickF (v := (Bv (r37.2.1 != r4.2))) rfl hb42) rfl rfl rfl rfl ?_
           refine On ?_
           refine AWR.bind fun u44 hu44 => ?_
           refine AWR.nil ⟨rfl, Ent.of ⟨(congrArg (fun l1 => (some (AV.s (.c (lo 35 l1))) : Option AV)) (same_eq hu44)), rfl, rfl, trivial⟩ ⟨rfl, trivial⟩⟩
         ·refine AWR.cond rfl (fun hc45 => ?_) (fun hc45 => ?_)
          ·refine Ws (Wr ?_)
           refine asg (Bv false) rfl ⟨rfl, rfl⟩ rfl rfl ?_
           refine On ?_
           refine AWR.ret (FPost.mk (.inr rfl) ⟨rfl, trivial⟩ trivial rfl ⟨PermP.sc, trivial⟩ trivial)
          ·refine AWR.skip (Ws (Wr ?_))
           refine asg (Iv 1) rfl ⟨rfl, rfl⟩ rfl rfl ?_
           refine On (Ws (Wr ?_))
           refine mv (Cc (lo 35 r31.2.length)) rfl rfl rfl rfl ?_
           refine mv (Iv 1) rfl rfl rfl rfl ?_
           refine Ob' fun r46 hr46 => ?_
           refine AOR.pure (@LT.callF Try.prog _ _ 67 _ _ [(.c (lo 35 r31.2.length)), (.c (iC 1))] _ _ [(35, (pR 3 encInt r31.2))] _ _ _ _ (w_laws_heldIntS r31.2 1 r46 hr46) rfl cb67 (.cons (.c (.tloc rfl rfl)) (.cons (.c (.same rfl)) .nil)) rfl rfl trivial) ⟨rfl, rfl, rfl, trivial⟩ ⟨rfl, trivial⟩ rfl rfl ?_
           refine asg (Iv r46) rfl rfl rfl rfl ?_
           refine On (Ws (Ws (Wr ?_)))
           refine mv (Iv r46) rfl rfl rfl rfl ?_
           refine Op20 (LT.lss rfl) rfl ⟨rfl, rfl⟩ rfl rfl ?_
           refine On ?_
           refine AWR.cond rfl (fun hc47 => ?_) (fun hc47 => ?_)
           ·refine Ws (Wr ?_)
            refine asg (Bv false) rfl ⟨rfl, rfl⟩ rfl rfl ?_
            refine On ?_
            refine AWR.ret (FPost.mk (.inr rfl) ⟨rfl, trivial⟩ trivial rfl ⟨PermP.sc, trivial⟩ trivial)
           ·refine AWR.skip (Ws (Ws (Wr ?_)))
            refine mv (Iv r46) rfl rfl rfl rfl ?_
            refine mv (Iv r31.1) rfl rfl rfl rfl ?_
            refine Op20 (LT.neq rfl) rfl rfl rfl rfl ?_
            refine On ?_
            refine AWR.cond rfl (fun hc48 => ?_) (fun hc48 => ?_)
            ·refine Ws (Wr ?_)
             refine asg (Bv false) rfl ⟨rfl, rfl⟩ rfl rfl ?_
             refine On ?_
             refine AWR.ret (FPost.mk (.inr rfl) ⟨rfl, trivial⟩ trivial rfl ⟨PermP.sc, trivial⟩ trivial)
            ·refine AWR.skip (Ws (Wr ?_))
             refine asg (Bv true) rfl ⟨rfl, rfl⟩ rfl rfl ?_
             refine On ?_
             refine AWR.ret (FPost.mk (.inr rfl) ⟨rfl, trivial⟩ trivial rfl ⟨PermP.sc, trivial⟩ trivial)
end Go.Proofs.Ytghofbijdnenoaa
end
section
set_option linter.unusedVariables false
set_option linter.unusedSimpArgs false
set_option linter.unnecessarySimpa false
namespace Go.Fw
open Go.ChangeShapes Go.WideShapes Go.ChangeAt Go.RowKit
open Go.Proofs.Ytghofbijdnenoaa (Rows.uptoBulk Rows.uptoBulkAll)
abbrev Bof (W : World) : Nat → Prop := fun b => b < W.heap.size
abbrev Rno : Nat → Prop := fun _ => False
abbrev gno : Nat → GS := fun _ => .dead
def Opn {α : Type} (P : Program) (t : TypeId) (s : Nat) (enc : α → List PV) (wt : α → Nat) (ok : α → Prop) : Prop :=
  ∀ (H : Type) (e : TypeId × Value → H) (W : World) (base : Nat) (spare : Nat → Bool) (held : Bool) (fuel : Nat) (cs : List Value) (x : DataW H × List MemPlace), DataW.trod e P W base spare held fuel t cs = some x →
    ∃ a : α, ok a ∧ wt a ≤ Go.Proofs.Ytghofbijdnenoaa.Rows.uptoBulk x.1 ∧ cs.length = s ∧ (enc a).length = s ∧ ∀ (k : Nat) p, (enc a)[k]? = some p → ∃ u, cs[k]? = some u ∧ RPV W Rno (Bof W) p u
def okI (n : Int) : Prop := -9223372036854775808 ≤ n ∧ n ≤ 9223372036854775807
def okL {α : Type} (ok : α → Prop) (xs : List α) : Prop := ∀ x ∈ xs, ok x
def wtI (_ : Int) : Nat := 1
def wtL {α : Type} (wt : α → Nat) (xs : List α) : Nat := (xs.map wt).sum + 1
section
variable {P : Program}
theorem one1 {p q : PV} {cs : List Value} {v : Value} {W : World} (hcs : cs = [v]) (h : RPV W Rno (Bof W) p v) : ∀ (k : Nat) r, [p][k]? = some r → ∃ u, cs[k]? = some u ∧ RPV W Rno (Bof W) r u := fun k r hk => by
  subst hcs
  cases k with
  | zero => simp at hk; subst hk; exact ⟨v, rfl, h⟩
  | succ k => simp at hk
theorem Opn.int {t : TypeId} (ht : P.underlying t = some (.int .i64)) : Opn P t 1 (fun n : Int => [.sc (.int .i64 n)]) wtI okI := fun H e W base spare held fuel cs x h => by
  obtain ⟨n, rfl, rfl, hw⟩ := DataW.trod_int ht h
  refine ⟨n, ?_, by simp [wtI, Go.Proofs.Ytghofbijdnenoaa.Rows.uptoBulk], rfl, rfl, one1 (q := .sc (.int .i64 n)) rfl (.sc rfl)⟩
  simp [Lit.wf, IntKind.min, IntKind.max, IntKind.signed, IntKind.bits] at hw
  exact ⟨by omega, by omega⟩
theorem list_of {α : Type} {p : Nat → α → Prop} : ∀ n : Nat, (∀ i, i < n → ∃ a, p i a) → ∃ xs : List α, xs.length = n ∧ ∀ (i : Nat) a, xs[i]? = some a → p i a
  | 0, _ => ⟨[], rfl, fun i a h => by simp at h⟩
  | n + 1, h => by
    obtain ⟨xs, h1, h2⟩ := list_of n fun i hi => h i (by omega)
    obtain ⟨a, ha⟩ := h n (by omega)
    refine ⟨xs ++ [a], by simp [h1], fun i b hb => ?_⟩
    rw [List.getElem?_append] at hb
    split at hb
    · exact h2 i b hb
    · rename_i hn
      have hi : i - xs.length = 0 := by
        have := (List.getElem?_eq_some_iff.1 hb).1
        simp at this
        omega
      rw [hi] at hb
      simp at hb
      subst hb
      have : i = n := by omega
      subst this
      exact ha
theorem bulk_sum {α : Type} {H : Type} {wt : α → Nat} {D : Nat → DataW H} : ∀ (xs : List α) (k : Nat), (∀ (i : Nat) a, xs[i]? = some a → wt a ≤ Go.Proofs.Ytghofbijdnenoaa.Rows.uptoBulk (D (k + i))) →
    (xs.map wt).sum ≤ Go.Proofs.Ytghofbijdnenoaa.Rows.uptoBulkAll ((List.range' k xs.length).map D)
  | [], _, _ => by simp [Go.Proofs.Ytghofbijdnenoaa.Rows.uptoBulkAll]
  | a :: r, k, h => by
    have h0 := h 0 a rfl
    have ih := bulk_sum r (k + 1) fun i b hb => by
      have := h (i + 1) b (by simpa using hb)
      rwa [show k + 1 + i = k + (i + 1) by omega]
    rw [Nat.add_zero] at h0
    simp only [List.map_cons, List.sum_cons, List.length_cons, List.range'_succ, Go.Proofs.Ytghofbijdnenoaa.Rows.uptoBulkAll]
    omega
theorem cell_lt {w : World} {a : Addr} {v : Value} (h : w.cell? a = some v) : a.block < w.heap.size := by
  unfold World.cell? at h
  cases hb : w.heap[a.block]? with
  | none => rw [hb] at h; simp at h
  | some o => exact (Array.getElem?_eq_some_iff.1 hb).1
theorem Opn.slice {α : Type} {t e : TypeId} {s : Nat} {enc : α → List PV} {wt : α → Nat} {ok : α → Prop} (ht : P.underlying t = some (.slice e)) (hs : P.cellsOf e = s) (hs0 : 0 < s) (he : Opn P e s enc wt ok) :
    Opn P t 1 (fun xs : List α => [.xs false (xs.map enc)]) (wtL wt) (okL ok) := fun H en W base spare held fuel cs x h => by
  rcases Go.Deep.open_slice ht h with ⟨rfl, rfl⟩ | ⟨a, len, cap, m, n, D, Pl, rfl, hb, hl, hm, hmm, rfl, hi⟩
  · refine ⟨[], ?_, ?_, rfl, rfl, one1 (q := .xs false []) rfl .emp⟩
    · intro x hx; cases hx
    · simp [wtL, Go.Proofs.Ytghofbijdnenoaa.Rows.uptoBulk]
  · have hml : len ≤ m := by rw [hmm]; split <;> omega
    obtain ⟨xs, hxl, hx⟩ := list_of (p := fun i (b : α) => ok b ∧ wt b ≤ Go.Proofs.Ytghofbijdnenoaa.Rows.uptoBulk (D i) ∧ (enc b).length = s ∧ ∀ (k : Nat) p, (enc b)[k]? = some p → ∃ u, W.cell? (a.add (i * s + k)) = some u ∧ RPV W Rno (Bof W) p u) len (fun i hil => by
      obtain ⟨cs', hc, htr⟩ := hi i (by omega)
      obtain ⟨b, h1, h2, h3, h4, h5⟩ := he _ _ _ _ _ _ _ _ _ htr
      obtain ⟨_, hcl, hat⟩ := World.cells?_some hc
      refine ⟨b, h1, h2, h4, fun k p hk => ?_⟩
      obtain ⟨u, hu, hr⟩ := h5 k p hk
      refine ⟨u, ?_, hr⟩
      have hks : k < s := by rw [← h4]; exact (List.getElem?_eq_some_iff.1 hk).1
      have := hat k (by rw [hs]; exact hks)
      rw [add_add, hs] at this
      rw [this]
      exact hu)
    refine ⟨xs, fun b hb => ?_, ?_, rfl, rfl, one1 (q := .sc undef) rfl ?_⟩
    · obtain ⟨i, hib⟩ := List.getElem?_of_mem hb
      exact (hx i b hib).1
    · have := bulk_sum (wt := wt) (D := D) xs 0 (fun i b hb => by rw [Nat.zero_add]; exact (hx i b hb).2.1)
      simp only [wtL, Go.Proofs.Ytghofbijdnenoaa.Rows.uptoBulk]
      rw [hxl, ← List.range_eq_range'] at this
      omega
    · cases hxs : xs with
      | nil =>
        have : len = 0 := by rw [← hxl, hxs]; rfl
        subst this
        exact .emp
      | cons b r =>
        rw [← hxs]
        have hget : ∀ (j k : Nat) cs p, (xs.map enc)[j]? = some cs → cs[k]? = some p → ∃ u, W.cell? (a.add (j * s + k)) = some u ∧ RPV W Rno (Bof W) p u := fun j k cs p hj hk => by
          rw [List.getElem?_map] at hj
          cases hjx : xs[j]? with
          | none => rw [hjx] at hj; cases hj
          | some c =>
            rw [hjx] at hj
            injection hj with hj
            subst hj
            exact (hx j c hjx).2.2.2 k p hk
        refine .xs (s := s) (fun j k => (W.cell? (a.add (j * s + k))).getD undef) (by simp [hxl]) ?_ (by simp [hxl]; exact hl) (fun cs hcs => ?_) (fun j k cs p hj hk => ?_) (fun j k cs p hj hk => ?_)
        · have h0 := hx 0 b (by rw [hxs]; rfl)
          have hlt : 0 < (enc b).length := by rw [h0.2.2.1]; exact hs0
          obtain ⟨u, hu, _⟩ := h0.2.2.2 0 (enc b)[0] (List.getElem?_eq_getElem hlt)
          have := cell_lt hu
          rw [add_block] at this
          exact this
        · obtain ⟨c, hc, rfl⟩ := List.mem_map.1 hcs
          obtain ⟨i, hic⟩ := List.getElem?_of_mem hc
          exact (hx i c hic).2.2.1
        · obtain ⟨u, hu, _⟩ := hget j k cs p hj hk
          rw [hu]; rfl
        · obtain ⟨u, hu, hr⟩ := hget j k cs p hj hk
          rw [hu]
          exact hr
def st2 (P : Program) (t : TypeId) : Option (Nat × Nat × Nat × Nat) := match P.underlying t with
  | some (.struct fs) => match fs.toList with
    | [f0, f1] => some (f0.type, f0.offset, f1.type, f1.offset)
    | _ => none
  | _ => none
theorem Opn.struct2 {α β γ : Type} {t t1 t2 : TypeId} {s1 s2 : Nat} {enc1 : α → List PV} {enc2 : β → List PV} {enc : γ → List PV} {wt1 : α → Nat} {wt2 : β → Nat} {wt : γ → Nat} {ok1 : α → Prop} {ok2 : β → Prop} {ok : γ → Prop} (mk : α → β → γ)
    (ht : st2 P t = some (t1, 0, t2, s1)) (hc : P.cellsOf t = s1 + s2) (hc1 : P.cellsOf t1 = s1) (hc2 : P.cellsOf t2 = s2) (h1 : Opn P t1 s1 enc1 wt1 ok1) (h2 : Opn P t2 s2 enc2 wt2 ok2)
    (he : ∀ a b, enc (mk a b) = enc1 a ++ enc2 b) (hw : ∀ a b, wt (mk a b) = wt1 a + wt2 b) (ho : ∀ a b, ok1 a → ok2 b → ok (mk a b)) : Opn P t (s1 + s2) enc wt ok := fun H e W base spare held fuel cs x h => by
  unfold st2 at ht
  split at ht
  · rename_i fs hfs
    split at ht
    · rename_i f0 f1 hfl
      obtain ⟨l⟩ := fs
      simp only at hfl
      subst hfl
      simp only [Option.some.injEq, Prod.mk.injEq] at ht
      obtain ⟨rfl, ho0, rfl, ho1⟩ := ht
      obtain ⟨y0, y1, n, rfl, hl, h3, h4⟩ := Go.ChangeShapes.trod_struct2 hfs h
      rw [ho0, hc1] at h3
      rw [ho1, hc2] at h4
      obtain ⟨a, a1, a2, a3, a4, a5⟩ := h1 _ _ _ _ _ _ _ _ _ h3
      obtain ⟨b, b1, b2, b3, b4, b5⟩ := h2 _ _ _ _ _ _ _ _ _ h4
      refine ⟨mk a b, ho a b a1 b1, ?_, by rw [hl, hc], by rw [he, List.length_append, a4, b4], fun k p hk => ?_⟩
      · rw [hw]
        simp only [Go.Proofs.Ytghofbijdnenoaa.Rows.uptoBulk, Go.Proofs.Ytghofbijdnenoaa.Rows.uptoBulkAll]
        omega
      · rw [he, List.getElem?_append] at hk
        split at hk
        · rename_i hlt
          rw [a4] at hlt
          obtain ⟨u, hu, hr⟩ := a5 k p hk
          refine ⟨u, ?_, hr⟩
          rw [List.getElem?_take, if_pos hlt, List.drop_zero] at hu
          exact hu
        · rename_i hlt
          rw [a4] at hlt hk
          obtain ⟨u, hu, hr⟩ := b5 _ p hk
          refine ⟨u, ?_, hr⟩
          rw [List.getElem?_take] at hu
          split at hu
          · rw [List.getElem?_drop] at hu
            rwa [show s1 + (k - s1) = k by omega] at hu
          · cases hu
    · cases ht
  · cases ht
theorem len_wtL {α : Type} {wt : α → Nat} (h : ∀ x, 1 ≤ wt x) (xs : List α) : xs.length ≤ wtL wt xs := by
  unfold wtL
  induction xs with
  | nil => simp
  | cons x r ih =>
    have := h x
    simp only [List.map_cons, List.sum_cons, List.length_cons] at ih ⊢
    omega
theorem Opn.argN {α : Type} {t : TypeId} {s : Nat} {enc : α → List PV} {wt : α → Nat} {ok : α → Prop} (h : Opn P t s enc wt ok) {H : Type} {e : TypeId × Value → H} {W : World} {sp : Nat → Bool} {v : Value} {d : DataW H} {ps : List MemPlace}
    (hv : ∃ cs : Array Value, v = .agg cs) (hd : DataW.Trod e P W 0 sp true t v d ps) : ∃ a : α, ok a ∧ wt a ≤ Go.Proofs.Ytghofbijdnenoaa.Rows.uptoBulk d ∧ RS P W Rno (Bof W) gno (.agg ((enc a).map .pv)) v := by
  obtain ⟨cs, rfl⟩ := hv
  obtain ⟨fuel, hf⟩ := hd
  obtain ⟨a, h1, h2, h3, h4, h5⟩ := h _ _ _ _ _ _ _ _ _ hf
  refine ⟨a, h1, h2, cs.toList, by simp, by rw [List.length_map, h4]; simpa [Value.cells] using h3, fun k x hk => ?_⟩
  rw [List.getElem?_map] at hk
  cases hp : (enc a)[k]? with
  | none => rw [hp] at hk; cases hk
  | some p =>
    rw [hp] at hk
    injection hk with hk
    subst hk
    obtain ⟨u, hu, hr⟩ := h5 k p hp
    exact ⟨u, by simpa [Value.cells] using hu, hr.oneCell, hr⟩
def ArgR (P : Program) (W : World) : List SV → List Value → Prop
  | [], [] => True
  | x :: xs, v :: vs => RS P W Rno (Bof W) gno x v ∧ ArgR P W xs vs
  | _, _ => False
theorem ArgR.spec {W : World} : ∀ {xs : List SV} {vs : List Value}, ArgR P W xs vs → vs.length = xs.length ∧ ∀ (k : Nat) x, xs[k]? = some x → ∃ u, vs[k]? = some u ∧ RS P W Rno (Bof W) gno x u
  | [], [], _ => ⟨rfl, fun k x hk => by simp at hk⟩
  | [], _ :: _, h => h.elim
  | _ :: _, [], h => h.elim
  | x :: xs, v :: vs, h => by
    obtain ⟨h1, h2⟩ := ArgR.spec h.2
    refine ⟨by simp [h1], fun k y hk => ?_⟩
    cases k with
    | zero => simp at hk; subst hk; exact ⟨v, rfl, h.1⟩
    | succ k => exact h2 k y (by simpa using hk)
theorem Fn.called {f : FuncId} {xs : List SV} (hf : Fw.Fn P f xs [] (.s (.c (bC true))) [] [] []) {W : World} {args : Array Value} (ha : ArgR P W xs args.toList) : Calls P f args W fun e W' => e = .returned (.bool true) ∧ Below W.heap.size W W' := by
  obtain ⟨h1, h2⟩ := ha.spec
  have hw : WF Rno (Bof W) gno W := ⟨fun b hb => hb.elim, fun b hb => hb, fun n b hg => hg.elim, fun n m b hg => hg.elim, fun n j k b h => (by cases h)⟩
  have := hf Rno (Bof W) gno W args.toList hw h1 h2 (fun p hp => by cases hp)
  rw [show args.toList.toArray = args from by simp] at this
  refine this.mono fun e W' hp => ?_
  obtain ⟨u, R', B', g', rfl, had, _, hv, _⟩ := hp
  have hu : u = .bool true := by
    obtain ⟨_, h3⟩ := hv
    cases h3
    rfl
  subst hu
  exact ⟨rfl, had.os, had.tape, had.output, had.size, fun k hk => had.heap k hk fun n hn => by cases hn⟩
theorem trodAll_stays {H : Type} {e : TypeId × Value → H} (hl : laidOutB P = true) {W W' : World} {sp : Nat → Bool} (hb : Below W.heap.size W W') : ∀ {ts : List TypeId} {vs : List Value} {ds : List (DataW H)} {ps : List MemPlace}, (ts.all fun t => P.readableRec t && decide (t < P.types.size)) = true →
    DataW.TrodAll e P W 0 (fun _ => true) true ts vs ds ps → (∀ p ∈ ps, p.block < W.heap.size) → (∀ p ∈ ps, sp p.block = true) → DataW.TrodAll e P W' 0 sp true ts vs ds ps
  | [], [], [], _, _, h, _, _ => h
  | t :: ts, v :: vs, d :: ds, ps, hr, h, hlt, hs => by
    obtain ⟨p, q, h1, h2, rfl⟩ := h
    simp only [List.all_cons, Bool.and_eq_true, decide_eq_true_eq] at hr
    exact ⟨p, q, Go.WideElems.Trod_stays hl hr.1.1 hr.1.2 h1 (fun x hx => hb.same (hlt x (List.mem_append_left _ hx))) (fun x hx => hs x (List.mem_append_left _ hx)), trodAll_stays hl hb hr.2 h2 (fun x hx => hlt x (List.mem_append_right _ hx)) (fun x hx => hs x (List.mem_append_right _ hx)), rfl⟩
  | [], [], _ :: _, _, _, h, _, _ => h.elim
  | [], _ :: _, _, _, _, h, _, _ => h.elim
  | _ :: _, [], _, _, _, h, _, _ => h.elim
  | _ :: _, _ :: _, [], _, _, h, _, _ => h.elim
theorem post_of_fw {H : Type} {e : TypeId × Value → H} {f : Func} {s : ChangeSpec} {apart handsOn again : Bool} {fresh : Bool} {W W' : World} {args : Array Value} {ds gs : List (DataW H)} {before : List MemPlace} {tb : TypeId} (hW : DataW.Whole e P f.params.toList s.vars apart W args.toList ds gs before) (hl : laidOutB P = true)
    (hr : (f.params.toList.all fun t => P.readableRec t && decide (t < P.types.size)) = true) (hb : Below W.heap.size W W') (hv : s.vars = []) (hf : s.fn H ds = { results := [.lit (.bool true)], args := ds }) (hrt : f.resultTypes = #[tb]) (htb : P.underlying tb = some .bool) :
    s.post e P f apart fresh handsOn again W args (.bool true) W' := by
  have hlt : ∀ p ∈ before, p.block < W.heap.size := fun p hp => hW.lt p hp
  have hW0 := hW
  obtain ⟨p, q, hA, hV, hpq, hz, hn⟩ := hW
  rw [hv] at hV
  obtain ⟨rfl, rfl⟩ : gs = [] ∧ q = [] := by
    cases gs with
    | nil => exact ⟨rfl, hV⟩
    | cons _ _ => exact hV.elim
  rw [List.append_nil] at hpq
  subst hpq
  have hargs : ∀ sp : Nat → Bool, (∀ p ∈ before, sp p.block = true) → DataW.TrodAll e P W' 0 sp true f.params.toList args.toList ds before := fun sp hs => trodAll_stays hl hb hr hA hlt hs
  have hres : ∀ (b : Nat) (sp : Nat → Bool) (hd : Bool), DataW.TrodAll e P W' b sp hd f.resultTypes.toList ((Value.bool true).resultList f.resultTypes.size) [.lit (.bool true)] [] := fun b sp hd => by
    rw [hrt]
    exact ⟨[], [], shut_bool htb _, rfl, rfl⟩
  have hfd : s.fn H (ds ++ []) = { results := [.lit (.bool true)], args := ds } := by rw [List.append_nil]; exact hf
  have hold : ∀ p ∈ before, (fun b => decide (b < W.heap.size)) p.block = true := fun p hp => by simpa using hlt p hp
  have hvs : ∀ sp : Nat → Bool, DataW.TrodVars e P W' sp s.vars [] [] := fun sp => by rw [hv]; rfl
  refine ⟨ds, [], before, [], before, [], hW0, ?_, ?_, ?_, World.keptBut_mono (fun p hp => ⟨hp, ?_⟩) (hb.frame (· ∈ before)), fun _ => ?_⟩
  · rw [hfd]; exact hres _ _ _
  · rw [hfd]; exact hargs _ hold
  · rw [hfd]; exact hvs _
  · exact Or.inr (Or.inl hp)
  · refine ⟨ok_one hrt rfl (okWide_bool_mk htb _), ?_⟩
    · refine ⟨_, _, ([] ++ before) ++ [], ⟨[] ++ before, [], trodAll_append (hargs _ (fun _ _ => rfl)) (hres _ _ _), hvs _, rfl, ?_, ?_⟩, ?_⟩
      · intro b off hp
        have hin : MemPlace.cell b off ∈ before := by simpa using hp
        rw [hb.frozen (hlt _ hin)]
        exact hz b off hin
      · intro ha
        simpa using hn ha
      · intro p hp _
        simpa using hp
end
end Go.Fw
end
section
set_option linter.unusedVariables false
set_option linter.unusedSimpArgs false
set_option linter.unnecessarySimpa false
open Go Go.Fw
namespace Go.Proofs.Ytghofbijdnenoaa
theorem oC162 : Try.prog.cellsOf 162 = 2 := by kernel_rfl
theorem oC170 : Try.prog.cellsOf 170 = 2 := by kernel_rfl
theorem oC3 : Try.prog.cellsOf 3 = 1 := by kernel_rfl
theorem oC37 : Try.prog.cellsOf 37 = 1 := by kernel_rfl
theorem oC48 : Try.prog.cellsOf 48 = 1 := by kernel_rfl
theorem oC50 : Try.prog.cellsOf 50 = 2 := by kernel_rfl
theorem oC66 : Try.prog.cellsOf 66 = 1 := by kernel_rfl
theorem oC68 : Try.prog.cellsOf 68 = 3 := by kernel_rfl
theorem oC70 : Try.prog.cellsOf 70 = 4 := by kernel_rfl
theorem oS162 : st2 Try.prog 162 = some (3, 0, 3, 1) := by kernel_rfl
theorem oS170 : st2 Try.prog 170 = some (3, 0, 3, 1) := by kernel_rfl
theorem oS50 : st2 Try.prog 50 = some (3, 0, 48, 1) := by kernel_rfl
theorem oS68 : st2 Try.prog 68 = some (50, 0, 66, 2) := by kernel_rfl
theorem oS70 : st2 Try.prog 70 = some (68, 0, 37, 3) := by kernel_rfl
theorem oU3 : Try.prog.underlying 3 = some (.int .i64) := by kernel_rfl
theorem oU37 : Try.prog.underlying 37 = some (.slice 3) := by kernel_rfl
theorem oU48 : Try.prog.underlying 48 = some (.slice 162) := by kernel_rfl
theorem oU66 : Try.prog.underlying 66 = some (.slice 170) := by kernel_rfl
theorem oX70 : Try.prog.underlying 70 = some (.struct (Try.prog.fieldsOf 70)) := by kernel_rfl
def e_TBar (a : TBar) : List PV := [.sc (.int .i64 a.A), .sc (.int .i64 a.B)]
def wt_TBar (a : TBar) : Nat := wtI a.A + wtI a.B
def ok_TBar (a : TBar) : Prop := okI a.A ∧ okI a.B
theorem opn_162 : Opn Try.prog 162 2 e_TBar wt_TBar ok_TBar := Opn.struct2 (enc1 := (fun n : Int => [.sc (.int .i64 n)])) (enc2 := (fun n : Int => [.sc (.int .i64 n)])) TBar.mk oS162 oC162 oC3 oC3 (Opn.int oU3) (Opn.int oU3) (fun _ _ => rfl) (fun _ _ => rfl) (fun _ _ h1 h2 => ⟨h1, h2⟩)
def e_TGraph (a : TGraph) : List PV := [.sc (.int .i64 a.Points), .xs false (a.Bars.map encTBar)]
def wt_TGraph (a : TGraph) : Nat := wtI a.Points + (wtL wt_TBar) a.Bars
def ok_TGraph (a : TGraph) : Prop := okI a.Points ∧ (okL ok_TBar) a.Bars
theorem opn_50 : Opn Try.prog 50 2 e_TGraph wt_TGraph ok_TGraph := Opn.struct2 (enc1 := (fun n : Int => [.sc (.int .i64 n)])) (enc2 := (fun xs => [.xs false (xs.map e_TBar)])) TGraph.mk oS50 oC50 oC3 oC48 (Opn.int oU3) (Opn.slice oU48 oC162 (by decide) opn_162) (fun _ _ => rfl) (fun _ _ => rfl) (fun _ _ h1 h2 => ⟨h1, h2⟩)
def e_TPlace (a : TPlace) : List PV := [.sc (.int .i64 a.X), .sc (.int .i64 a.Y)]
def wt_TPlace (a : TPlace) : Nat := wtI a.X + wtI a.Y
def ok_TPlace (a : TPlace) : Prop := okI a.X ∧ okI a.Y
theorem opn_170 : Opn Try.prog 170 2 e_TPlace wt_TPlace ok_TPlace := Opn.struct2 (enc1 := (fun n : Int => [.sc (.int .i64 n)])) (enc2 := (fun n : Int => [.sc (.int .i64 n)])) TPlace.mk oS170 oC170 oC3 oC3 (Opn.int oU3) (Opn.int oU3) (fun _ _ => rfl) (fun _ _ => rfl) (fun _ _ h1 h2 => ⟨h1, h2⟩)
def e_TFramework (a : TFramework) : List PV := [.sc (.int .i64 a.Graph.Points), .xs false (a.Graph.Bars.map encTBar), .xs false (a.Places.map encTPlace)]
def wt_TFramework (a : TFramework) : Nat := wt_TGraph a.Graph + (wtL wt_TPlace) a.Places
def ok_TFramework (a : TFramework) : Prop := ok_TGraph a.Graph ∧ (okL ok_TPlace) a.Places
theorem opn_68 : Opn Try.prog 68 3 e_TFramework wt_TFramework ok_TFramework := Opn.struct2 (enc1 := e_TGraph) (enc2 := (fun xs => [.xs false (xs.map e_TPlace)])) TFramework.mk oS68 oC68 oC50 oC66 opn_50 (Opn.slice oU66 oC170 (by decide) opn_170) (fun _ _ => rfl) (fun _ _ => rfl) (fun _ _ h1 h2 => ⟨h1, h2⟩)
def e_TTensegrity (a : TTensegrity) : List PV := [.sc (.int .i64 a.Framework.Graph.Points), .xs false (a.Framework.Graph.Bars.map encTBar), .xs false (a.Framework.Places.map encTPlace), .xs false (a.Kinds.map encInt)]
def wt_TTensegrity (a : TTensegrity) : Nat := wt_TFramework a.Framework + (wtL wtI) a.Kinds
def ok_TTensegrity (a : TTensegrity) : Prop := ok_TFramework a.Framework ∧ (okL okI) a.Kinds
theorem opn_70 : Opn Try.prog 70 4 e_TTensegrity wt_TTensegrity ok_TTensegrity := Opn.struct2 (enc1 := e_TFramework) (enc2 := (fun xs => [.xs false (xs.map (fun n : Int => [.sc (.int .i64 n)]))])) TTensegrity.mk oS70 oC70 oC68 oC37 opn_68 (Opn.slice oU37 oC3 (by decide) (Opn.int oU3)) (fun _ _ => rfl) (fun _ _ => rfl) (fun _ _ h1 h2 => ⟨h1, h2⟩)
end Go.Proofs.Ytghofbijdnenoaa
end
