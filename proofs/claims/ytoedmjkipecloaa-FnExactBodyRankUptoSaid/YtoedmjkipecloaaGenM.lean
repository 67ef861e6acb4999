/- The types of the models, their encoders, and the models of the functions. Written by a program of mine. -/
import Derived.Test.YtoedmjkipecloaaFw16
set_option linter.unusedVariables false
set_option linter.unusedSimpArgs false
set_option linter.unnecessarySimpa false
open Go Go.Fw
namespace Go.Proofs.Ytoedmjkipecloaa
structure TBar where
  mk ::
  A : Int
  B : Int
structure TGraph where
  mk ::
  Points : Int
  Bars : (List TBar)
structure TPlace where
  mk ::
  X : Int
  Y : Int
structure TFramework where
  mk ::
  Graph : TGraph
  Places : (List TPlace)
structure TTensegrity where
  mk ::
  Framework : TFramework
  Kinds : (List Int)
structure TPebbles where
  mk ::
  Free : (List Int)
  Tails : (List Int)
  Placed : (List Int)
def encTBar (a : TBar) : List PV := [.sc (.int .i64 a.A), .sc (.int .i64 a.B)]
theorem perm_encTBar (a : TBar) : PermPL (encTBar a) := ⟨.sc, .sc, trivial⟩
def encTPlace (a : TPlace) : List PV := [.sc (.int .i64 a.X), .sc (.int .i64 a.Y)]
theorem perm_encTPlace (a : TPlace) : PermPL (encTPlace a) := ⟨.sc, .sc, trivial⟩
def encInt (a : Int) : List PV := [.sc (.int .i64 a)]
theorem perm_encInt (a : Int) : PermPL (encInt a) := ⟨.sc, trivial⟩
def encBool (a : Bool) : List PV := [.sc (.bool a)]
theorem perm_encBool (a : Bool) : PermPL (encBool a) := ⟨.sc, trivial⟩
def m_laws_szBarS (a : (List TBar)) (leftV : Int) : Option Int :=
(bif (decide ((w64 (leftV - (a.length : Int))) < 0)) then
 some (-1)
 else
 some (w64 (leftV - (a.length : Int)))
)

def m_laws_szGraph (a : TGraph) (leftV : Int) : Option Int :=
(m_laws_szBarS a.Bars leftV).bind (fun r1 =>
(bif (decide (r1 < 0)) then
 some (-1)
 else
 some r1
)
)

def m_laws_szPlaceS (a : (List TPlace)) (leftV : Int) : Option Int :=
(bif (decide ((w64 (leftV - (a.length : Int))) < 0)) then
 some (-1)
 else
 some (w64 (leftV - (a.length : Int)))
)

def m_laws_szFramework (a : TFramework) (leftV : Int) : Option Int :=
(m_laws_szGraph a.Graph leftV).bind (fun r1 =>
(bif (decide (r1 < 0)) then
 some (-1)
 else
(m_laws_szPlaceS a.Places r1).bind (fun r3 =>
(bif (decide (r3 < 0)) then
 some (-1)
 else
 some r3
)
)
)
)

def m_laws_szIntS (a : (List Int)) (leftV : Int) : Option Int :=
(bif (decide ((w64 (leftV - (a.length : Int))) < 0)) then
 some (-1)
 else
 some (w64 (leftV - (a.length : Int)))
)

def m_laws_szTensegrity (a : TTensegrity) (leftV : Int) : Option Int :=
(m_laws_szFramework a.Framework leftV).bind (fun r1 =>
(bif (decide (r1 < 0)) then
 some (-1)
 else
(m_laws_szIntS a.Kinds r1).bind (fun r3 =>
(bif (decide (r3 < 0)) then
 some (-1)
 else
 some r3
)
)
)
)

def m_laws_toBar (a : TBar) : Option TBar :=
 some a

def m_laws_toBarS_L1 (a : (List TBar)) (s2 : (Int × (List TBar))) : Option ((Int × (List TBar)) ⊕ (List TBar)) :=
(bif (decide (s2.1 < (a.length : Int))) then
(idx a s2.1).bind (fun x13 =>
(m_laws_toBar x13).bind (fun r14 =>
(idx s2.2 s2.1).bind (fun x15 =>
 some (.inl ((w64 (s2.1 + 1)), (s2.2.set s2.1.toNat r14)))
)
)
)
 else
 some (.inr s2.2)
)
def m_laws_toBarS (a : (List TBar)) : Option (List TBar) :=
(lenOk (a.length : Int)).bind (fun u1 =>
((loopM (m_laws_toBarS_L1 a) BIG (0, (List.replicate (a.length : Int).toNat (TBar.mk (0 : Int) (0 : Int))))).bind (fun b11 =>
 some b11
))
)

def m_laws_toGraph (a : TGraph) : Option TGraph :=
(m_laws_toBarS a.Bars).bind (fun r1 =>
 some (TGraph.mk a.Points r1)
)

def m_laws_toPlace (a : TPlace) : Option TPlace :=
 some a

def m_laws_toPlaceS_L1 (a : (List TPlace)) (s2 : (Int × (List TPlace))) : Option ((Int × (List TPlace)) ⊕ (List TPlace)) :=
(bif (decide (s2.1 < (a.length : Int))) then
(idx a s2.1).bind (fun x13 =>
(m_laws_toPlace x13).bind (fun r14 =>
(idx s2.2 s2.1).bind (fun x15 =>
 some (.inl ((w64 (s2.1 + 1)), (s2.2.set s2.1.toNat r14)))
)
)
)
 else
 some (.inr s2.2)
)
def m_laws_toPlaceS (a : (List TPlace)) : Option (List TPlace) :=
(lenOk (a.length : Int)).bind (fun u1 =>
((loopM (m_laws_toPlaceS_L1 a) BIG (0, (List.replicate (a.length : Int).toNat (TPlace.mk (0 : Int) (0 : Int))))).bind (fun b11 =>
 some b11
))
)

def m_laws_toFramework (a : TFramework) : Option TFramework :=
(m_laws_toGraph a.Graph).bind (fun r1 =>
(m_laws_toPlaceS a.Places).bind (fun r2 =>
 some (TFramework.mk r1 r2)
)
)

def m_laws_toIntS_L1 (a : (List Int)) (s2 : (Int × (List Int))) : Option ((Int × (List Int)) ⊕ (List Int)) :=
(bif (decide (s2.1 < (a.length : Int))) then
(idx a s2.1).bind (fun x11 =>
(idx s2.2 s2.1).bind (fun x12 =>
 some (.inl ((w64 (s2.1 + 1)), (s2.2.set s2.1.toNat x11)))
)
)
 else
 some (.inr s2.2)
)
def m_laws_toIntS (a : (List Int)) : Option (List Int) :=
(lenOk (a.length : Int)).bind (fun u1 =>
((loopM (m_laws_toIntS_L1 a) BIG (0, (List.replicate (a.length : Int).toNat (0 : Int)))).bind (fun b9 =>
 some b9
))
)

def m_laws_toTensegrity (a : TTensegrity) : Option TTensegrity :=
(m_laws_toFramework a.Framework).bind (fun r1 =>
(m_laws_toIntS a.Kinds).bind (fun r2 =>
 some (TTensegrity.mk r1 r2)
)
)

def m_spec_l2Copy (g : TGraph) : Option TGraph :=
(lim (([] : List TBar).length + g.Bars.length)).bind (fun u1 =>
 some (TGraph.mk g.Points (([] : List TBar) ++ g.Bars))
)

def m_spec_l10Copy (f : TFramework) : Option TFramework :=
(m_spec_l2Copy f.Graph).bind (fun r1 =>
(lim (([] : List TPlace).length + f.Places.length)).bind (fun u2 =>
 some (TFramework.mk r1 (([] : List TPlace) ++ f.Places))
)
)

def m_spec_l19Copy (tV : TTensegrity) : Option TTensegrity :=
(m_spec_l10Copy tV.Framework).bind (fun r1 =>
(lim (([] : List Int).length + tV.Kinds.length)).bind (fun u2 =>
 some (TTensegrity.mk r1 (([] : List Int) ++ tV.Kinds))
)
)

def m_spec_SwapKinds_L1 (tV : TTensegrity) (r1 : TTensegrity) (s2 : (Int × (List Int))) : Option ((Int × (List Int)) ⊕ ((List TBar) × (List TPlace) × (List Int) × Int)) :=
(bif (decide (s2.1 < (s2.2.length : Int))) then
(idx tV.Kinds s2.1).bind (fun x27 =>
(((
(bif (x27 == 1) then
(idx s2.2 s2.1).bind (fun x34 =>
 some (s2.2.set s2.1.toNat 2)
)
 else
(bif (x27 == 2) then
(idx s2.2 s2.1).bind (fun x36 =>
 some (s2.2.set s2.1.toNat 1)
)
 else
 some s2.2
)
)
) : Option (List Int)).bind (fun j32 =>
 some (.inl ((w64 (s2.1 + 1)), j32))
))
)
 else
 some (.inr (r1.Framework.Graph.Bars, r1.Framework.Places, s2.2, r1.Framework.Graph.Points))
)
def m_spec_SwapKinds (tV : TTensegrity) : Option TTensegrity :=
(m_spec_l19Copy tV).bind (fun r1 =>
((loopM (m_spec_SwapKinds_L1 tV r1) BIG (0, r1.Kinds)).bind (fun b25 =>
 some (TTensegrity.mk (TFramework.mk (TGraph.mk b25.2.2.2 b25.1) b25.2.1) b25.2.2.1)
))
)

def m_impl_copyGraph (g : TGraph) : Option TGraph :=
(lim (([] : List TBar).length + g.Bars.length)).bind (fun u1 =>
 some (TGraph.mk g.Points (([] : List TBar) ++ g.Bars))
)

def m_impl_copyFramework (f : TFramework) : Option TFramework :=
(m_impl_copyGraph f.Graph).bind (fun r1 =>
(lim (([] : List TPlace).length + f.Places.length)).bind (fun u2 =>
 some (TFramework.mk r1 (([] : List TPlace) ++ f.Places))
)
)

def m_impl_copyInts (l : (List Int)) : Option (List Int) :=
(lim (([] : List Int).length + l.length)).bind (fun u1 =>
 some (([] : List Int) ++ l)
)

def m_impl_SwapKinds_L1 (r1 : TFramework) (r2 : (List Int)) (s3 : (Int × (List Int))) : Option ((Int × (List Int)) ⊕ ((List TBar) × (List TPlace) × (List Int) × Int)) :=
(bif (decide (s3.1 < (r2.length : Int))) then
(idx s3.2 s3.1).bind (fun x28 =>
(((
(bif (x28 == 1) then
(idx s3.2 s3.1).bind (fun x35 =>
 some (s3.2.set s3.1.toNat 2)
)
 else
(bif (x28 == 2) then
(idx s3.2 s3.1).bind (fun x37 =>
 some (s3.2.set s3.1.toNat 1)
)
 else
 some s3.2
)
)
) : Option (List Int)).bind (fun j33 =>
 some (.inl ((w64 (s3.1 + 1)), j33))
))
)
 else
 some (.inr (r1.Graph.Bars, r1.Places, s3.2, r1.Graph.Points))
)
def m_impl_SwapKinds (tV : TTensegrity) : Option TTensegrity :=
(m_impl_copyFramework tV.Framework).bind (fun r1 =>
(m_impl_copyInts tV.Kinds).bind (fun r2 =>
((loopM (m_impl_SwapKinds_L1 r1 r2) BIG (0, r2)).bind (fun b26 =>
 some (TTensegrity.mk (TFramework.mk (TGraph.mk b26.2.2.2 b26.1) b26.2.1) b26.2.2.1)
))
)
)

def m_laws_eqBar (a : TBar) (b : TBar) : Option Bool :=
(bif (a.A != b.A) then
 some false
 else
(bif (a.B != b.B) then
 some false
 else
 some true
)
)

def m_laws_eqBarS_L1 (a : (List TBar)) (b : (List TBar)) (s2 : Int) : Option (Int ⊕ (Unit ⊕ Bool)) :=
(bif (decide (s2 < (a.length : Int))) then
(idx a s2).bind (fun x15 =>
(idx b s2).bind (fun x16 =>
(m_laws_eqBar x15 x16).bind (fun r17 =>
(bif (!r17) then
 some (.inr (.inr false))
 else
 some (.inl (w64 (s2 + 1)))
)
)
)
)
 else
 some (.inr (.inl ()))
)
def m_laws_eqBarS (a : (List TBar)) (b : (List TBar)) : Option Bool :=
(bif ((a.length : Int) != (b.length : Int)) then
 some false
 else
((loopM (m_laws_eqBarS_L1 a b) BIG 0).bind (Sum.elim (fun b13 => (
 some true
)) (fun r => some r)))
)

def m_laws_eqGraph (a : TGraph) (b : TGraph) : Option Bool :=
(bif (a.Points != b.Points) then
 some false
 else
(m_laws_eqBarS a.Bars b.Bars).bind (fun r2 =>
(bif (!r2) then
 some false
 else
 some true
)
)
)

def m_laws_eqPlace (a : TPlace) (b : TPlace) : Option Bool :=
(bif (a.X != b.X) then
 some false
 else
(bif (a.Y != b.Y) then
 some false
 else
 some true
)
)

def m_laws_eqPlaceS_L1 (a : (List TPlace)) (b : (List TPlace)) (s2 : Int) : Option (Int ⊕ (Unit ⊕ Bool)) :=
(bif (decide (s2 < (a.length : Int))) then
(idx a s2).bind (fun x15 =>
(idx b s2).bind (fun x16 =>
(m_laws_eqPlace x15 x16).bind (fun r17 =>
(bif (!r17) then
 some (.inr (.inr false))
 else
 some (.inl (w64 (s2 + 1)))
)
)
)
)
 else
 some (.inr (.inl ()))
)
def m_laws_eqPlaceS (a : (List TPlace)) (b : (List TPlace)) : Option Bool :=
(bif ((a.length : Int) != (b.length : Int)) then
 some false
 else
((loopM (m_laws_eqPlaceS_L1 a b) BIG 0).bind (Sum.elim (fun b13 => (
 some true
)) (fun r => some r)))
)

def m_laws_eqFramework (a : TFramework) (b : TFramework) : Option Bool :=
(m_laws_eqGraph a.Graph b.Graph).bind (fun r1 =>
(bif (!r1) then
 some false
 else
(m_laws_eqPlaceS a.Places b.Places).bind (fun r3 =>
(bif (!r3) then
 some false
 else
 some true
)
)
)
)

def m_laws_eqIntS_L1 (a : (List Int)) (b : (List Int)) (s2 : Int) : Option (Int ⊕ (Unit ⊕ Bool)) :=
(bif (decide (s2 < (a.length : Int))) then
(idx a s2).bind (fun x13 =>
(idx b s2).bind (fun x14 =>
(bif (x13 != x14) then
 some (.inr (.inr false))
 else
 some (.inl (w64 (s2 + 1)))
)
)
)
 else
 some (.inr (.inl ()))
)
def m_laws_eqIntS (a : (List Int)) (b : (List Int)) : Option Bool :=
(bif ((a.length : Int) != (b.length : Int)) then
 some false
 else
((loopM (m_laws_eqIntS_L1 a b) BIG 0).bind (Sum.elim (fun b11 => (
 some true
)) (fun r => some r)))
)

def m_laws_eqTensegrity (a : TTensegrity) (b : TTensegrity) : Option Bool :=
(m_laws_eqFramework a.Framework b.Framework).bind (fun r1 =>
(bif (!r1) then
 some false
 else
(m_laws_eqIntS a.Kinds b.Kinds).bind (fun r3 =>
(bif (!r3) then
 some false
 else
 some true
)
)
)
)

def m_laws_markBarS_L1  (s1 : (Int × Int × (List TBar))) : Option ((Int × Int × (List TBar)) ⊕ (Int × (List TBar))) :=
(bif (decide (s1.2.1 < (s1.2.2.length : Int))) then
(idx s1.2.2 s1.2.1).bind (fun x10 =>
(idx (s1.2.2.set s1.2.1.toNat (TBar.mk s1.1 x10.B)) s1.2.1).bind (fun x11 =>
 some (.inl ((w64 ((w64 (s1.1 + 1)) + 1)), (w64 (s1.2.1 + 1)), ((s1.2.2.set s1.2.1.toNat (TBar.mk s1.1 x10.B)).set s1.2.1.toNat (TBar.mk x11.A (w64 (s1.1 + 1))))))
)
)
 else
 some (.inr (s1.1, s1.2.2))
)
def m_laws_markBarS (a : (List TBar)) (k : Int) : Option (Int × (List TBar)) :=
((loopM (m_laws_markBarS_L1) BIG (k, 0, a)).bind (fun b8 =>
 some (b8.1, b8.2)
))

def m_laws_markGraph (a : TGraph) (k : Int) : Option (Int × (List TBar)) :=
(m_laws_markBarS a.Bars k).bind (fun r1 =>
 some (r1.1, r1.2)
)

def m_laws_markPlaceS_L1  (s1 : (Int × Int × (List TPlace))) : Option ((Int × Int × (List TPlace)) ⊕ (Int × (List TPlace))) :=
(bif (decide (s1.2.1 < (s1.2.2.length : Int))) then
(idx s1.2.2 s1.2.1).bind (fun x10 =>
(idx (s1.2.2.set s1.2.1.toNat (TPlace.mk s1.1 x10.Y)) s1.2.1).bind (fun x11 =>
 some (.inl ((w64 ((w64 (s1.1 + 1)) + 1)), (w64 (s1.2.1 + 1)), ((s1.2.2.set s1.2.1.toNat (TPlace.mk s1.1 x10.Y)).set s1.2.1.toNat (TPlace.mk x11.X (w64 (s1.1 + 1))))))
)
)
 else
 some (.inr (s1.1, s1.2.2))
)
def m_laws_markPlaceS (a : (List TPlace)) (k : Int) : Option (Int × (List TPlace)) :=
((loopM (m_laws_markPlaceS_L1) BIG (k, 0, a)).bind (fun b8 =>
 some (b8.1, b8.2)
))

def m_laws_markFramework (a : TFramework) (k : Int) : Option (Int × (List TBar) × (List TPlace)) :=
(m_laws_markGraph a.Graph k).bind (fun r1 =>
(m_laws_markPlaceS a.Places r1.1).bind (fun r2 =>
 some (r2.1, r1.2, r2.2)
)
)

def m_laws_markIntS_L1  (s1 : (Int × Int × (List Int))) : Option ((Int × Int × (List Int)) ⊕ (Int × (List Int))) :=
(bif (decide (s1.2.1 < (s1.2.2.length : Int))) then
(idx s1.2.2 s1.2.1).bind (fun x8 =>
 some (.inl ((w64 (s1.1 + 1)), (w64 (s1.2.1 + 1)), (s1.2.2.set s1.2.1.toNat s1.1)))
)
 else
 some (.inr (s1.1, s1.2.2))
)
def m_laws_markIntS (a : (List Int)) (k : Int) : Option (Int × (List Int)) :=
((loopM (m_laws_markIntS_L1) BIG (k, 0, a)).bind (fun b6 =>
 some (b6.1, b6.2)
))

def m_laws_markTensegrity (a : TTensegrity) (k : Int) : Option (Int × (List TBar) × (List TPlace) × (List Int)) :=
(m_laws_markFramework a.Framework k).bind (fun r1 =>
(m_laws_markIntS a.Kinds r1.1).bind (fun r2 =>
 some (r2.1, r1.2.1, r1.2.2, r2.2)
)
)

def m_laws_heldBarS_L1 (a : (List TBar)) (s1 : (Int × Int)) : Option ((Int × Int) ⊕ (Int ⊕ Int)) :=
(bif (decide (s1.2 < (a.length : Int))) then
(idx a s1.2).bind (fun x14 =>
(bif (x14.A != s1.1) then
 some (.inr (.inr (-1)))
 else
(idx a s1.2).bind (fun x16 =>
(bif (x16.B != (w64 (s1.1 + 1))) then
 some (.inr (.inr (-1)))
 else
 some (.inl ((w64 ((w64 (s1.1 + 1)) + 1)), (w64 (s1.2 + 1))))
)
)
)
)
 else
 some (.inr (.inl s1.1))
)
def m_laws_heldBarS (a : (List TBar)) (k : Int) : Option Int :=
((loopM (m_laws_heldBarS_L1 a) BIG (k, 0)).bind (Sum.elim (fun b12 => (
 some b12
)) (fun r => some r)))

def m_laws_heldGraph (a : TGraph) (k : Int) : Option Int :=
(m_laws_heldBarS a.Bars k).bind (fun r1 =>
(bif (decide (r1 < 0)) then
 some (-1)
 else
 some r1
)
)

def m_laws_heldPlaceS_L1 (a : (List TPlace)) (s1 : (Int × Int)) : Option ((Int × Int) ⊕ (Int ⊕ Int)) :=
(bif (decide (s1.2 < (a.length : Int))) then
(idx a s1.2).bind (fun x14 =>
(bif (x14.X != s1.1) then
 some (.inr (.inr (-1)))
 else
(idx a s1.2).bind (fun x16 =>
(bif (x16.Y != (w64 (s1.1 + 1))) then
 some (.inr (.inr (-1)))
 else
 some (.inl ((w64 ((w64 (s1.1 + 1)) + 1)), (w64 (s1.2 + 1))))
)
)
)
)
 else
 some (.inr (.inl s1.1))
)
def m_laws_heldPlaceS (a : (List TPlace)) (k : Int) : Option Int :=
((loopM (m_laws_heldPlaceS_L1 a) BIG (k, 0)).bind (Sum.elim (fun b12 => (
 some b12
)) (fun r => some r)))

def m_laws_heldFramework (a : TFramework) (k : Int) : Option Int :=
(m_laws_heldGraph a.Graph k).bind (fun r1 =>
(bif (decide (r1 < 0)) then
 some (-1)
 else
(m_laws_heldPlaceS a.Places r1).bind (fun r3 =>
(bif (decide (r3 < 0)) then
 some (-1)
 else
 some r3
)
)
)
)

def m_laws_heldIntS_L1 (a : (List Int)) (s1 : (Int × Int)) : Option ((Int × Int) ⊕ (Int ⊕ Int)) :=
(bif (decide (s1.2 < (a.length : Int))) then
(idx a s1.2).bind (fun x10 =>
(bif (x10 != s1.1) then
 some (.inr (.inr (-1)))
 else
 some (.inl ((w64 (s1.1 + 1)), (w64 (s1.2 + 1))))
)
)
 else
 some (.inr (.inl s1.1))
)
def m_laws_heldIntS (a : (List Int)) (k : Int) : Option Int :=
((loopM (m_laws_heldIntS_L1 a) BIG (k, 0)).bind (Sum.elim (fun b8 => (
 some b8
)) (fun r => some r)))

def m_laws_heldTensegrity (a : TTensegrity) (k : Int) : Option Int :=
(m_laws_heldFramework a.Framework k).bind (fun r1 =>
(bif (decide (r1 < 0)) then
 some (-1)
 else
(m_laws_heldIntS a.Kinds r1).bind (fun r3 =>
(bif (decide (r3 < 0)) then
 some (-1)
 else
 some r3
)
)
)
)

def m_laws_FnExactSwapKinds (aT : TTensegrity) : Option Bool :=
(m_laws_szTensegrity aT 1048576).bind (fun r1 =>
(bif (decide (r1 < 0)) then
 some true
 else
(m_laws_toTensegrity aT).bind (fun r3 =>
(m_spec_SwapKinds r3).bind (fun r4 =>
(m_laws_toTensegrity aT).bind (fun r5 =>
(m_impl_SwapKinds r5).bind (fun r6 =>
(m_laws_eqTensegrity r6 r4).bind (fun r7 =>
(bif (!r7) then
 some false
 else
(m_laws_toTensegrity aT).bind (fun r9 =>
(m_laws_eqTensegrity r5 r9).bind (fun r10 =>
(bif (!r10) then
 some false
 else
(m_laws_markTensegrity r5 1).bind (fun r12 =>
(((
(bif (decide (r12.1 < 0)) then
 some true
 else
(m_laws_eqTensegrity r6 r4).bind (fun r17 =>
 some (!r17)
)
)
) : Option Bool).bind (fun j15 =>
(bif j15 then
 some false
 else
(m_laws_markTensegrity r6 1).bind (fun r19 =>
(same r6.Framework.Graph.Bars.length r19.2.1.length).bind (fun u20 =>
(same r6.Framework.Places.length r19.2.2.1.length).bind (fun u21 =>
(same r6.Kinds.length r19.2.2.2.length).bind (fun u22 =>
(m_laws_heldTensegrity (TTensegrity.mk (TFramework.mk (TGraph.mk r6.Framework.Graph.Points r19.2.1) r19.2.2.1) r19.2.2.2) 1).bind (fun r23 =>
(bif (decide (r23 < 0)) then
 some false
 else
(bif (r23 != r19.1) then
 some false
 else
(m_laws_toTensegrity aT).bind (fun r26 =>
(m_impl_SwapKinds r26).bind (fun r27 =>
(m_laws_eqTensegrity r27 r4).bind (fun r28 =>
(bif (!r28) then
 some false
 else
(same r6.Framework.Graph.Bars.length r19.2.1.length).bind (fun u30 =>
(same r6.Framework.Places.length r19.2.2.1.length).bind (fun u31 =>
(same r6.Kinds.length r19.2.2.2.length).bind (fun u32 =>
(m_laws_heldTensegrity (TTensegrity.mk (TFramework.mk (TGraph.mk r6.Framework.Graph.Points r19.2.1) r19.2.2.1) r19.2.2.2) 1).bind (fun r33 =>
(bif (decide (r33 < 0)) then
 some false
 else
(bif (r33 != r19.1) then
 some false
 else
 some true
)
)
))))
)
)
)
)
)
)
))))
)
)
))
)
)
)
)
)
)
)
)
)
)
)
)

def m_spec_l1In (x : Int) (low : Int) (high : Int) : Option Bool :=
(((
(bif (decide (low ≤ x)) then
 some (decide (x ≤ high))
 else
 some false
)
) : Option Bool).bind (fun j2 =>
 some j2
))

def m_spec_l2After (a : TBar) (b : TBar) : Option Bool :=
(((
(bif (decide (a.A < b.A)) then
 some true
 else
(bif (a.A == b.A) then
 some (decide (a.B ≤ b.B))
 else
 some false
)
)
) : Option Bool).bind (fun j3 =>
 some j3
))

def m_spec_IsGraph_L1 (g : TGraph) (s7 : Int) : Option (Int ⊕ (Unit ⊕ Bool)) :=
(bif (decide (s7 < (g.Bars.length : Int))) then
(idx g.Bars s7).bind (fun x42 =>
(((
(bif (decide (x42.A < 0)) then
 some true
 else
(bif (decide (x42.B ≤ x42.A)) then
 some true
 else
(bif (decide (g.Points ≤ x42.B)) then
 some true
 else
(bif (decide (0 < s7)) then
(idx g.Bars (w64 (s7 - 1))).bind (fun x54 =>
(m_spec_l2After x54 x42).bind (fun r55 =>
 some (!r55)
)
)
 else
 some false
)
)
)
)
) : Option Bool).bind (fun j49 =>
(bif j49 then
 some (.inr (.inr false))
 else
 some (.inl (w64 (s7 + 1)))
)
))
)
 else
 some (.inr (.inl ()))
)
def m_spec_IsGraph (g : TGraph) : Option Bool :=
(((
(m_spec_l1In g.Points 1 8).bind (fun r4 =>
(bif (!r4) then
 some true
 else
 some (decide (24 < (g.Bars.length : Int)))
)
)
) : Option Bool).bind (fun j3 =>
(bif j3 then
 some false
 else
((loopM (m_spec_IsGraph_L1 g) BIG 0).bind (Sum.elim (fun b40 => (
 some true
)) (fun r => some r)))
)
))

def m_spec_IsFramework_L1 (f : TFramework) (s11 : Int) : Option (Int ⊕ (Unit ⊕ Bool)) :=
(bif (decide (s11 < (f.Places.length : Int))) then
(((
(idx f.Places s11).bind (fun x46 =>
(m_spec_l1In x46.X 0 4).bind (fun r47 =>
(bif (!r47) then
 some true
 else
(idx f.Places s11).bind (fun x49 =>
(m_spec_l1In x49.Y 0 4).bind (fun r50 =>
 some (!r50)
)
)
)
)
)
) : Option Bool).bind (fun j45 =>
(bif j45 then
 some (.inr (.inr false))
 else
 some (.inl (w64 (s11 + 1)))
)
))
 else
 some (.inr (.inl ()))
)
def m_spec_IsFramework_L2 (f : TFramework) (s52 : Int) : Option (Int ⊕ (Unit ⊕ Bool)) :=
(bif (decide (s52 < (f.Graph.Bars.length : Int))) then
(idx f.Graph.Bars s52).bind (fun x83 =>
(((
(idx f.Places x83.A).bind (fun x90 =>
(idx f.Places x83.B).bind (fun x91 =>
(bif (eqI [x90.X, x90.Y] [x91.X, x91.Y]) then
 some true
 else
(bif (decide (0 < s52)) then
(idx f.Graph.Bars (w64 (s52 - 1))).bind (fun x94 =>
 some (eqI [x94.A, x94.B] [x83.A, x83.B])
)
 else
 some false
)
)
)
)
) : Option Bool).bind (fun j89 =>
(bif j89 then
 some (.inr (.inr false))
 else
 some (.inl (w64 (s52 + 1)))
)
))
)
 else
 some (.inr (.inl ()))
)
def m_spec_IsFramework (f : TFramework) : Option Bool :=
(((
(m_spec_IsGraph f.Graph).bind (fun r6 =>
(bif (!r6) then
 some true
 else
(bif (decide (6 < f.Graph.Points)) then
 some true
 else
(bif ((f.Places.length : Int) != f.Graph.Points) then
 some true
 else
 some (decide (15 < (f.Graph.Bars.length : Int)))
)
)
)
)
) : Option Bool).bind (fun j5 =>
(bif j5 then
 some false
 else
((loopM (m_spec_IsFramework_L1 f) BIG 0).bind (Sum.elim (fun b38 => (
((loopM (m_spec_IsFramework_L2 f) BIG 0).bind (Sum.elim (fun b81 => (
 some true
)) (fun r => some r)))
)) (fun r => some r)))
)
))

def m_spec_IsTensegrity_L1 (tV : TTensegrity) (s1 : Int) : Option (Int ⊕ (Unit ⊕ Bool)) :=
(bif (decide (s1 < (tV.Kinds.length : Int))) then
(idx tV.Kinds s1).bind (fun x12 =>
(m_spec_l1In x12 0 2).bind (fun r13 =>
(bif (!r13) then
 some (.inr (.inr false))
 else
 some (.inl (w64 (s1 + 1)))
)
)
)
 else
 some (.inr (.inl ()))
)
def m_spec_IsTensegrity (tV : TTensegrity) : Option Bool :=
((loopM (m_spec_IsTensegrity_L1 tV) BIG 0).bind (Sum.elim (fun b10 => (
(((
(m_spec_IsFramework tV.Framework).bind (fun r18 =>
(bif r18 then
 some ((tV.Kinds.length : Int) == (tV.Framework.Graph.Bars.length : Int))
 else
 some false
)
)
) : Option Bool).bind (fun j17 =>
 some j17
))
)) (fun r => some r)))

def m_spec_l12Vector_L1 (v : (List Int)) (s1 : Int) : Option (Int ⊕ (Unit ⊕ Bool)) :=
(bif (decide (s1 < (v.length : Int))) then
(idx v s1).bind (fun x12 =>
(m_spec_l1In x12 (-10000000000) 10000000000).bind (fun r13 =>
(bif (!r13) then
 some (.inr (.inr false))
 else
 some (.inl (w64 (s1 + 1)))
)
)
)
 else
 some (.inr (.inl ()))
)
def m_spec_l12Vector (f : TFramework) (v : (List Int)) : Option Bool :=
((loopM (m_spec_l12Vector_L1 v) BIG 0).bind (Sum.elim (fun b10 => (
(((
(m_spec_IsFramework f).bind (fun r18 =>
(bif r18 then
 some ((v.length : Int) == (w64 (2 * f.Graph.Points)))
 else
 some false
)
)
) : Option Bool).bind (fun j17 =>
 some j17
))
)) (fun r => some r)))

def m_spec_ChangeOf (f : TFramework) (v : (List Int)) (a : Int) (b : Int) : Option Int :=
(((
(m_spec_l12Vector f v).bind (fun r7 =>
(bif (!r7) then
 some true
 else
(bif (decide (a < 0)) then
 some true
 else
(bif (decide (b < 0)) then
 some true
 else
(bif (decide (f.Graph.Points ≤ a)) then
 some true
 else
 some (decide (f.Graph.Points ≤ b))
)
)
)
)
)
) : Option Bool).bind (fun j6 =>
(bif j6 then
 some 0
 else
(idx f.Places a).bind (fun x13 =>
(idx f.Places b).bind (fun x14 =>
(idx v (w64 (2 * a))).bind (fun x15 =>
(idx v (w64 (2 * b))).bind (fun x16 =>
(idx f.Places a).bind (fun x17 =>
(idx f.Places b).bind (fun x18 =>
(idx v (w64 ((w64 (2 * a)) + 1))).bind (fun x19 =>
(idx v (w64 ((w64 (2 * b)) + 1))).bind (fun x20 =>
 some (w64 ((w64 ((w64 (x13.X - x14.X)) * (w64 (x15 - x16)))) + (w64 ((w64 (x17.Y - x18.Y)) * (w64 (x19 - x20))))))
)
)
)
)
)
)
)
)
)
))

def m_spec_IsAllowedMotion_L1 (tV : TTensegrity) (v : (List Int)) (s9 : Int) : Option (Int ⊕ (Unit ⊕ Bool)) :=
(bif (decide (s9 < (tV.Kinds.length : Int))) then
(idx tV.Framework.Graph.Bars s9).bind (fun x92 =>
(idx tV.Framework.Graph.Bars s9).bind (fun x93 =>
(m_spec_ChangeOf tV.Framework v x92.A x93.B).bind (fun r94 =>
(((
(idx tV.Kinds s9).bind (fun x113 =>
(bif (x113 == 0) then
(bif (r94 != 0) then
 some true
 else
(idx tV.Kinds s9).bind (fun x116 =>
(bif (x116 == 1) then
(bif (decide (0 < r94)) then
 some true
 else
(idx tV.Kinds s9).bind (fun x119 =>
(bif (x119 == 2) then
 some (decide (r94 < 0))
 else
 some false
)
)
)
 else
(idx tV.Kinds s9).bind (fun x121 =>
(bif (x121 == 2) then
 some (decide (r94 < 0))
 else
 some false
)
)
)
)
)
 else
(idx tV.Kinds s9).bind (fun x123 =>
(bif (x123 == 1) then
(bif (decide (0 < r94)) then
 some true
 else
(idx tV.Kinds s9).bind (fun x126 =>
(bif (x126 == 2) then
 some (decide (r94 < 0))
 else
 some false
)
)
)
 else
(idx tV.Kinds s9).bind (fun x128 =>
(bif (x128 == 2) then
 some (decide (r94 < 0))
 else
 some false
)
)
)
)
)
)
) : Option Bool).bind (fun j112 =>
(bif j112 then
 some (.inr (.inr false))
 else
 some (.inl (w64 (s9 + 1)))
)
))
)
)
)
 else
 some (.inr (.inl ()))
)
def m_spec_IsAllowedMotion (tV : TTensegrity) (v : (List Int)) : Option Bool :=
(((
(m_spec_IsTensegrity tV).bind (fun r5 =>
(bif (!r5) then
 some true
 else
(m_spec_l12Vector tV.Framework v).bind (fun r7 =>
 some (!r7)
)
)
)
) : Option Bool).bind (fun j4 =>
(bif j4 then
 some false
 else
((loopM (m_spec_IsAllowedMotion_L1 tV v) BIG 0).bind (Sum.elim (fun b90 => (
 some true
)) (fun r => some r)))
)
))

def m_impl_within (x : Int) (lo : Int) (hi : Int) : Option Bool :=
(((
(bif (decide (lo ≤ x)) then
 some (decide (x ≤ hi))
 else
 some false
)
) : Option Bool).bind (fun j2 =>
 some j2
))

def m_impl_compareInts (a : Int) (b : Int) : Option Int :=
(bif (decide (a < b)) then
 some (-1)
 else
(bif (decide (b < a)) then
 some 1
 else
 some 0
)
)

def m_impl_compareBars (x : TBar) (y : TBar) : Option Int :=
(m_impl_compareInts x.A y.A).bind (fun r1 =>
(bif (r1 != 0) then
 some r1
 else
(m_impl_compareInts x.B y.B).bind (fun r3 =>
 some r3
)
)
)

def m_impl_IsGraph_L1 (g : TGraph) (s7 : Int) : Option (Int ⊕ (Unit ⊕ Bool)) :=
(bif (decide (s7 < (g.Bars.length : Int))) then
(idx g.Bars s7).bind (fun x42 =>
(((
(bif (decide (x42.A < 0)) then
 some true
 else
(bif (decide (x42.B ≤ x42.A)) then
 some true
 else
(bif (decide (g.Points ≤ x42.B)) then
 some true
 else
(bif (decide (0 < s7)) then
(idx g.Bars (w64 (s7 - 1))).bind (fun x54 =>
(m_impl_compareBars x54 x42).bind (fun r55 =>
 some (decide (0 < r55))
)
)
 else
 some false
)
)
)
)
) : Option Bool).bind (fun j49 =>
(bif j49 then
 some (.inr (.inr false))
 else
 some (.inl (w64 (s7 + 1)))
)
))
)
 else
 some (.inr (.inl ()))
)
def m_impl_IsGraph (g : TGraph) : Option Bool :=
(((
(m_impl_within g.Points 1 8).bind (fun r4 =>
(bif (!r4) then
 some true
 else
 some (decide (24 < (g.Bars.length : Int)))
)
)
) : Option Bool).bind (fun j3 =>
(bif j3 then
 some false
 else
((loopM (m_impl_IsGraph_L1 g) BIG 0).bind (Sum.elim (fun b40 => (
 some true
)) (fun r => some r)))
)
))

def m_impl_isPlace (p : TPlace) : Option Bool :=
(((
(m_impl_within p.X 0 4).bind (fun r5 =>
(bif r5 then
(m_impl_within p.Y 0 4).bind (fun r7 =>
 some r7
)
 else
 some false
)
)
) : Option Bool).bind (fun j4 =>
 some j4
))

def m_impl_IsFramework_L1 (f : TFramework) (s11 : Int) : Option (Int ⊕ (Unit ⊕ Bool)) :=
(bif (decide (s11 < (f.Places.length : Int))) then
(idx f.Places s11).bind (fun x22 =>
(m_impl_isPlace x22).bind (fun r23 =>
(bif (!r23) then
 some (.inr (.inr false))
 else
 some (.inl (w64 (s11 + 1)))
)
)
)
 else
 some (.inr (.inl ()))
)
def m_impl_IsFramework_L2 (f : TFramework) (s25 : Int) : Option (Int ⊕ (Unit ⊕ Bool)) :=
(bif (decide (s25 < (f.Graph.Bars.length : Int))) then
(idx f.Graph.Bars s25).bind (fun x64 =>
(((
(bif (decide (0 < s25)) then
(idx f.Graph.Bars (w64 (s25 - 1))).bind (fun x74 =>
(bif (eqI [x74.A, x74.B] [x64.A, x64.B]) then
 some true
 else
(idx f.Places x64.A).bind (fun x76 =>
(idx f.Places x64.B).bind (fun x77 =>
 some (eqI [x76.X, x76.Y] [x77.X, x77.Y])
)
)
)
)
 else
(idx f.Places x64.A).bind (fun x78 =>
(idx f.Places x64.B).bind (fun x79 =>
 some (eqI [x78.X, x78.Y] [x79.X, x79.Y])
)
)
)
) : Option Bool).bind (fun j72 =>
(bif j72 then
 some (.inr (.inr false))
 else
 some (.inl (w64 (s25 + 1)))
)
))
)
 else
 some (.inr (.inl ()))
)
def m_impl_IsFramework (f : TFramework) : Option Bool :=
(((
(m_impl_IsGraph f.Graph).bind (fun r6 =>
(bif (!r6) then
 some true
 else
(bif (decide (6 < f.Graph.Points)) then
 some true
 else
(bif (decide (15 < (f.Graph.Bars.length : Int))) then
 some true
 else
 some ((f.Places.length : Int) != f.Graph.Points)
)
)
)
)
) : Option Bool).bind (fun j5 =>
(bif j5 then
 some false
 else
((loopM (m_impl_IsFramework_L1 f) BIG 0).bind (Sum.elim (fun b20 => (
((loopM (m_impl_IsFramework_L2 f) BIG 0).bind (Sum.elim (fun b62 => (
 some true
)) (fun r => some r)))
)) (fun r => some r)))
)
))

def m_impl_IsTensegrity_L1 (tV : TTensegrity) (s1 : Int) : Option (Int ⊕ (Unit ⊕ Bool)) :=
(bif (decide (s1 < (tV.Kinds.length : Int))) then
(idx tV.Kinds s1).bind (fun x12 =>
(m_impl_within x12 0 2).bind (fun r13 =>
(bif (!r13) then
 some (.inr (.inr false))
 else
 some (.inl (w64 (s1 + 1)))
)
)
)
 else
 some (.inr (.inl ()))
)
def m_impl_IsTensegrity (tV : TTensegrity) : Option Bool :=
((loopM (m_impl_IsTensegrity_L1 tV) BIG 0).bind (Sum.elim (fun b10 => (
(((
(m_impl_IsFramework tV.Framework).bind (fun r18 =>
(bif r18 then
 some ((tV.Kinds.length : Int) == (tV.Framework.Graph.Bars.length : Int))
 else
 some false
)
)
) : Option Bool).bind (fun j17 =>
 some j17
))
)) (fun r => some r)))

def m_impl_areSmall_L1 (v : (List Int)) (s1 : Int) : Option (Int ⊕ (Unit ⊕ Bool)) :=
(bif (decide (s1 < (v.length : Int))) then
(idx v s1).bind (fun x12 =>
(m_impl_within x12 (-10000000000) 10000000000).bind (fun r13 =>
(bif (!r13) then
 some (.inr (.inr false))
 else
 some (.inl (w64 (s1 + 1)))
)
)
)
 else
 some (.inr (.inl ()))
)
def m_impl_areSmall (v : (List Int)) (n : Int) : Option Bool :=
((loopM (m_impl_areSmall_L1 v) BIG 0).bind (Sum.elim (fun b10 => (
 some ((v.length : Int) == n)
)) (fun r => some r)))

def m_impl_isVelocity (f : TFramework) (v : (List Int)) : Option Bool :=
(((
(m_impl_IsFramework f).bind (fun r5 =>
(bif r5 then
(m_impl_areSmall v (w64 (2 * f.Graph.Points))).bind (fun r7 =>
 some r7
)
 else
 some false
)
)
) : Option Bool).bind (fun j4 =>
 some j4
))

def m_impl_Graph_has (g : TGraph) (v : Int) : Option Bool :=
(m_impl_within v 0 (w64 (g.Points - 1))).bind (fun r1 =>
 some r1
)

def m_impl_ChangeOf (f : TFramework) (v : (List Int)) (a : Int) (b : Int) : Option Int :=
(((
(m_impl_isVelocity f v).bind (fun r7 =>
(bif (!r7) then
 some true
 else
(m_impl_Graph_has f.Graph a).bind (fun r9 =>
(bif (!r9) then
 some true
 else
(m_impl_Graph_has f.Graph b).bind (fun r11 =>
 some (!r11)
)
)
)
)
)
) : Option Bool).bind (fun j6 =>
(bif j6 then
 some 0
 else
(idx f.Places a).bind (fun x13 =>
(idx f.Places b).bind (fun x14 =>
(idx v (w64 (2 * a))).bind (fun x15 =>
(idx v (w64 (2 * b))).bind (fun x16 =>
(idx v (w64 ((w64 (2 * a)) + 1))).bind (fun x17 =>
(idx v (w64 ((w64 (2 * b)) + 1))).bind (fun x18 =>
 some (w64 ((w64 ((w64 (x13.X - x14.X)) * (w64 (x15 - x16)))) + (w64 ((w64 (x13.Y - x14.Y)) * (w64 (x17 - x18))))))
)
)
)
)
)
)
)
))

def m_impl_IsAllowedMotion_L1 (tV : TTensegrity) (v : (List Int)) (s9 : Int) : Option (Int ⊕ (Unit ⊕ Bool)) :=
(bif (decide (s9 < (tV.Framework.Graph.Bars.length : Int))) then
(idx tV.Framework.Graph.Bars s9).bind (fun x90 =>
(m_impl_ChangeOf tV.Framework v x90.A x90.B).bind (fun r91 =>
(((
(idx tV.Kinds s9).bind (fun x110 =>
(bif (x110 == 0) then
(bif (r91 != 0) then
 some true
 else
(idx tV.Kinds s9).bind (fun x113 =>
(bif (x113 == 1) then
(bif (decide (0 < r91)) then
 some true
 else
(idx tV.Kinds s9).bind (fun x116 =>
(bif (x116 == 2) then
 some (decide (r91 < 0))
 else
 some false
)
)
)
 else
(idx tV.Kinds s9).bind (fun x118 =>
(bif (x118 == 2) then
 some (decide (r91 < 0))
 else
 some false
)
)
)
)
)
 else
(idx tV.Kinds s9).bind (fun x120 =>
(bif (x120 == 1) then
(bif (decide (0 < r91)) then
 some true
 else
(idx tV.Kinds s9).bind (fun x123 =>
(bif (x123 == 2) then
 some (decide (r91 < 0))
 else
 some false
)
)
)
 else
(idx tV.Kinds s9).bind (fun x125 =>
(bif (x125 == 2) then
 some (decide (r91 < 0))
 else
 some false
)
)
)
)
)
)
) : Option Bool).bind (fun j109 =>
(bif j109 then
 some (.inr (.inr false))
 else
 some (.inl (w64 (s9 + 1)))
)
))
)
)
 else
 some (.inr (.inl ()))
)
def m_impl_IsAllowedMotion (tV : TTensegrity) (v : (List Int)) : Option Bool :=
(((
(m_impl_IsTensegrity tV).bind (fun r5 =>
(bif (!r5) then
 some true
 else
(m_impl_isVelocity tV.Framework v).bind (fun r7 =>
 some (!r7)
)
)
)
) : Option Bool).bind (fun j4 =>
(bif j4 then
 some false
 else
((loopM (m_impl_IsAllowedMotion_L1 tV v) BIG 0).bind (Sum.elim (fun b88 => (
 some true
)) (fun r => some r)))
)
))

def m_laws_FnExactIsAllowedMotion (aT : TTensegrity) (aV : (List Int)) : Option Bool :=
(bif (decide (1048576 < (aV.length : Int))) then
 some true
 else
(m_laws_szTensegrity aT 1048576).bind (fun r2 =>
(bif (decide (r2 < 0)) then
 some true
 else
(m_laws_toTensegrity aT).bind (fun r4 =>
(m_laws_toIntS aV).bind (fun r5 =>
(m_spec_IsAllowedMotion r4 r5).bind (fun r6 =>
(m_laws_toTensegrity aT).bind (fun r7 =>
(m_laws_toIntS aV).bind (fun r8 =>
(m_impl_IsAllowedMotion r7 r8).bind (fun r9 =>
(bif (r9 != r6) then
 some false
 else
(m_laws_toTensegrity aT).bind (fun r11 =>
(m_laws_eqTensegrity r7 r11).bind (fun r12 =>
(bif (!r12) then
 some false
 else
(m_laws_toIntS aV).bind (fun r14 =>
(m_laws_eqIntS r8 r14).bind (fun r15 =>
(bif (!r15) then
 some false
 else
 some true
)
)
)
)
)
)
)
)
)
)
)
)
)
)
)
)

def m_spec_l13Vector_L1 (w : (List Int)) (s1 : Int) : Option (Int ⊕ (Unit ⊕ Bool)) :=
(bif (decide (s1 < (w.length : Int))) then
(idx w s1).bind (fun x12 =>
(m_spec_l1In x12 (-10000000000) 10000000000).bind (fun r13 =>
(bif (!r13) then
 some (.inr (.inr false))
 else
 some (.inl (w64 (s1 + 1)))
)
)
)
 else
 some (.inr (.inl ()))
)
def m_spec_l13Vector (f : TFramework) (w : (List Int)) : Option Bool :=
((loopM (m_spec_l13Vector_L1 w) BIG 0).bind (Sum.elim (fun b10 => (
(((
(m_spec_IsFramework f).bind (fun r18 =>
(bif r18 then
 some ((w.length : Int) == (f.Graph.Bars.length : Int))
 else
 some false
)
)
) : Option Bool).bind (fun j17 =>
 some j17
))
)) (fun r => some r)))

def m_spec_l4Other (b : TBar) (v : Int) : Option Int :=
 some (w64 ((w64 (b.A + b.B)) - v))

def m_spec_ForceAt_L1 (f : TFramework) (w : (List Int)) (v : Int) (s1 : (Int × Int × Int)) : Option ((Int × Int × Int) ⊕ (Int × Int)) :=
(((
(bif (decide (s1.2.2 < (w.length : Int))) then
(m_spec_l13Vector f w).bind (fun r61 =>
 some r61
)
 else
 some false
)
) : Option Bool).bind (fun j59 =>
(bif j59 then
(idx f.Graph.Bars s1.2.2).bind (fun x63 =>
(((
(bif (x63.A == v) then
 some true
 else
 some (x63.B == v)
)
) : Option Bool).bind (fun j65 =>
(((
(bif j65 then
(m_spec_l4Other x63 v).bind (fun r77 =>
(idx w s1.2.2).bind (fun x78 =>
(idx f.Places v).bind (fun x79 =>
(idx f.Places r77).bind (fun x80 =>
(idx w s1.2.2).bind (fun x81 =>
(idx f.Places v).bind (fun x82 =>
(idx f.Places r77).bind (fun x83 =>
 some ((w64 (s1.1 + (w64 (x78 * (w64 (x79.X - x80.X)))))), (w64 (s1.2.1 + (w64 (x81 * (w64 (x82.Y - x83.Y)))))))
)
)
)
)
)
)
)
 else
 some (s1.1, s1.2.1)
)
) : Option (Int × Int)).bind (fun j75 =>
 some (.inl (j75.1, j75.2, (w64 (s1.2.2 + 1))))
))
))
)
 else
 some (.inr (s1.1, s1.2.1))
)
))
def m_spec_ForceAt (f : TFramework) (w : (List Int)) (v : Int) : Option (Int × Int) :=
((loopM (m_spec_ForceAt_L1 f w v) BIG (0, 0, 0)).bind (fun b56 =>
 some (b56.1, b56.2)
))

def m_spec_IsStress_L1 (f : TFramework) (w : (List Int)) (s1 : Int) : Option (Int ⊕ (Unit ⊕ Bool)) :=
(((
(bif (decide (s1 < f.Graph.Points)) then
(m_spec_l13Vector f w).bind (fun r29 =>
 some r29
)
 else
 some false
)
) : Option Bool).bind (fun j27 =>
(bif j27 then
(m_spec_ForceAt f w s1).bind (fun r31 =>
(((
(bif (r31.1 != 0) then
 some true
 else
 some (r31.2 != 0)
)
) : Option Bool).bind (fun j33 =>
(bif j33 then
 some (.inr (.inr false))
 else
 some (.inl (w64 (s1 + 1)))
)
))
)
 else
 some (.inr (.inl ()))
)
))
def m_spec_IsStress (f : TFramework) (w : (List Int)) : Option Bool :=
((loopM (m_spec_IsStress_L1 f w) BIG 0).bind (Sum.elim (fun b24 => (
(m_spec_l13Vector f w).bind (fun r36 =>
 some r36
)
)) (fun r => some r)))

def m_spec_IsProperStress_L1 (tV : TTensegrity) (w : (List Int)) (s9 : Int) : Option (Int ⊕ (Unit ⊕ Bool)) :=
(bif (decide (s9 < (w.length : Int))) then
(((
(idx tV.Kinds s9).bind (fun x69 =>
(bif (x69 == 1) then
(idx w s9).bind (fun x71 =>
(bif (decide (x71 < 0)) then
 some true
 else
(idx tV.Kinds s9).bind (fun x73 =>
(bif (x73 == 2) then
(idx w s9).bind (fun x75 =>
 some (decide (0 < x75))
)
 else
 some false
)
)
)
)
 else
(idx tV.Kinds s9).bind (fun x76 =>
(bif (x76 == 2) then
(idx w s9).bind (fun x78 =>
 some (decide (0 < x78))
)
 else
 some false
)
)
)
)
) : Option Bool).bind (fun j68 =>
(bif j68 then
 some (.inr (.inr false))
 else
 some (.inl (w64 (s9 + 1)))
)
))
 else
 some (.inr (.inl ()))
)
def m_spec_IsProperStress (tV : TTensegrity) (w : (List Int)) : Option Bool :=
(((
(m_spec_IsTensegrity tV).bind (fun r5 =>
(bif (!r5) then
 some true
 else
(m_spec_IsStress tV.Framework w).bind (fun r7 =>
 some (!r7)
)
)
)
) : Option Bool).bind (fun j4 =>
(bif j4 then
 some false
 else
((loopM (m_spec_IsProperStress_L1 tV w) BIG 0).bind (Sum.elim (fun b56 => (
 some true
)) (fun r => some r)))
)
))

def m_impl_areForces (f : TFramework) (w : (List Int)) : Option Bool :=
(((
(m_impl_IsFramework f).bind (fun r5 =>
(bif r5 then
(m_impl_areSmall w (f.Graph.Bars.length : Int)).bind (fun r7 =>
 some r7
)
 else
 some false
)
)
) : Option Bool).bind (fun j4 =>
 some j4
))

def m_impl_Bar_has (x : TBar) (v : Int) : Option Bool :=
(((
(bif (x.A == v) then
 some true
 else
 some (x.B == v)
)
) : Option Bool).bind (fun j2 =>
 some j2
))

def m_impl_Bar_other (x : TBar) (v : Int) : Option Int :=
(bif (x.A == v) then
 some x.B
 else
 some x.A
)

def m_impl_ForceAt_L1 (f : TFramework) (w : (List Int)) (v : Int) (s3 : (Int × Int × Int)) : Option ((Int × Int × Int) ⊕ (Int × Int)) :=
(bif (decide (s3.2.2 < (f.Graph.Bars.length : Int))) then
(idx f.Graph.Bars s3.2.2).bind (fun x38 =>
(m_impl_Bar_has x38 v).bind (fun r39 =>
(((
(bif r39 then
(idx f.Places v).bind (fun x48 =>
(m_impl_Bar_other x38 v).bind (fun r49 =>
(idx f.Places r49).bind (fun x50 =>
(idx w s3.2.2).bind (fun x51 =>
(idx w s3.2.2).bind (fun x52 =>
 some ((w64 (s3.1 + (w64 (x51 * (w64 (x48.X - x50.X)))))), (w64 (s3.2.1 + (w64 (x52 * (w64 (x48.Y - x50.Y)))))))
)
)
)
)
)
 else
 some (s3.1, s3.2.1)
)
) : Option (Int × Int)).bind (fun j46 =>
 some (.inl (j46.1, j46.2, (w64 (s3.2.2 + 1))))
))
)
)
 else
 some (.inr (s3.1, s3.2.1))
)
def m_impl_ForceAt (f : TFramework) (w : (List Int)) (v : Int) : Option (Int × Int) :=
(m_impl_areForces f w).bind (fun r1 =>
(bif (!r1) then
 some (0, 0)
 else
((loopM (m_impl_ForceAt_L1 f w v) BIG (0, 0, 0)).bind (fun b36 =>
 some (b36.1, b36.2)
))
)
)

def m_impl_IsStress_L1 (f : TFramework) (w : (List Int)) (s3 : Int) : Option (Int ⊕ (Unit ⊕ Bool)) :=
(bif (decide (s3 < (f.Places.length : Int))) then
(m_impl_ForceAt f w s3).bind (fun r18 =>
(((
(bif (r18.1 != 0) then
 some true
 else
 some (r18.2 != 0)
)
) : Option Bool).bind (fun j20 =>
(bif j20 then
 some (.inr (.inr false))
 else
 some (.inl (w64 (s3 + 1)))
)
))
)
 else
 some (.inr (.inl ()))
)
def m_impl_IsStress (f : TFramework) (w : (List Int)) : Option Bool :=
(m_impl_areForces f w).bind (fun r1 =>
(bif (!r1) then
 some false
 else
((loopM (m_impl_IsStress_L1 f w) BIG 0).bind (Sum.elim (fun b16 => (
 some true
)) (fun r => some r)))
)
)

def m_impl_IsProperStress_L1 (tV : TTensegrity) (w : (List Int)) (s9 : Int) : Option (Int ⊕ (Unit ⊕ Bool)) :=
(bif (decide (s9 < (tV.Kinds.length : Int))) then
(idx tV.Kinds s9).bind (fun x48 =>
(((
(bif (x48 == 1) then
(idx w s9).bind (fun x58 =>
(bif (decide (x58 < 0)) then
 some true
 else
(bif (x48 == 2) then
(idx w s9).bind (fun x61 =>
 some (decide (0 < x61))
)
 else
 some false
)
)
)
 else
(bif (x48 == 2) then
(idx w s9).bind (fun x63 =>
 some (decide (0 < x63))
)
 else
 some false
)
)
) : Option Bool).bind (fun j56 =>
(bif j56 then
 some (.inr (.inr false))
 else
 some (.inl (w64 (s9 + 1)))
)
))
)
 else
 some (.inr (.inl ()))
)
def m_impl_IsProperStress (tV : TTensegrity) (w : (List Int)) : Option Bool :=
(((
(m_impl_IsTensegrity tV).bind (fun r5 =>
(bif (!r5) then
 some true
 else
(m_impl_IsStress tV.Framework w).bind (fun r7 =>
 some (!r7)
)
)
)
) : Option Bool).bind (fun j4 =>
(bif j4 then
 some false
 else
((loopM (m_impl_IsProperStress_L1 tV w) BIG 0).bind (Sum.elim (fun b46 => (
 some true
)) (fun r => some r)))
)
))

def m_laws_FnExactIsProperStress (aT : TTensegrity) (aW : (List Int)) : Option Bool :=
(bif (decide (1048576 < (aW.length : Int))) then
 some true
 else
(m_laws_szTensegrity aT 1048576).bind (fun r2 =>
(bif (decide (r2 < 0)) then
 some true
 else
(m_laws_toTensegrity aT).bind (fun r4 =>
(m_laws_toIntS aW).bind (fun r5 =>
(m_spec_IsProperStress r4 r5).bind (fun r6 =>
(m_laws_toTensegrity aT).bind (fun r7 =>
(m_laws_toIntS aW).bind (fun r8 =>
(m_impl_IsProperStress r7 r8).bind (fun r9 =>
(bif (r9 != r6) then
 some false
 else
(m_laws_toTensegrity aT).bind (fun r11 =>
(m_laws_eqTensegrity r7 r11).bind (fun r12 =>
(bif (!r12) then
 some false
 else
(m_laws_toIntS aW).bind (fun r14 =>
(m_laws_eqIntS r8 r14).bind (fun r15 =>
(bif (!r15) then
 some false
 else
 some true
)
)
)
)
)
)
)
)
)
)
)
)
)
)
)
)

def m_spec_IsStrictStress_L1 (tV : TTensegrity) (w : (List Int)) (s3 : Int) : Option (Int ⊕ (Unit ⊕ Bool)) :=
(bif (decide (s3 < (w.length : Int))) then
(((
(idx tV.Kinds s3).bind (fun x28 =>
(bif (x28 != 0) then
(idx w s3).bind (fun x30 =>
 some (x30 == 0)
)
 else
 some false
)
)
) : Option Bool).bind (fun j27 =>
(bif j27 then
 some (.inr (.inr false))
 else
 some (.inl (w64 (s3 + 1)))
)
))
 else
 some (.inr (.inl ()))
)
def m_spec_IsStrictStress (tV : TTensegrity) (w : (List Int)) : Option Bool :=
(m_spec_IsProperStress tV w).bind (fun r1 =>
(bif (!r1) then
 some false
 else
((loopM (m_spec_IsStrictStress_L1 tV w) BIG 0).bind (Sum.elim (fun b22 => (
 some true
)) (fun r => some r)))
)
)

def m_impl_IsStrictStress_L1 (tV : TTensegrity) (w : (List Int)) (s3 : Int) : Option (Int ⊕ (Unit ⊕ Bool)) :=
(bif (decide (s3 < (tV.Kinds.length : Int))) then
(idx tV.Kinds s3).bind (fun x22 =>
(((
(bif (x22 != 0) then
(idx w s3).bind (fun x27 =>
 some (x27 == 0)
)
 else
 some false
)
) : Option Bool).bind (fun j25 =>
(bif j25 then
 some (.inr (.inr false))
 else
 some (.inl (w64 (s3 + 1)))
)
))
)
 else
 some (.inr (.inl ()))
)
def m_impl_IsStrictStress (tV : TTensegrity) (w : (List Int)) : Option Bool :=
(m_impl_IsProperStress tV w).bind (fun r1 =>
(bif (!r1) then
 some false
 else
((loopM (m_impl_IsStrictStress_L1 tV w) BIG 0).bind (Sum.elim (fun b20 => (
 some true
)) (fun r => some r)))
)
)

def m_laws_FnExactIsStrictStress (aT : TTensegrity) (aW : (List Int)) : Option Bool :=
(bif (decide (1048576 < (aW.length : Int))) then
 some true
 else
(m_laws_szTensegrity aT 1048576).bind (fun r2 =>
(bif (decide (r2 < 0)) then
 some true
 else
(m_laws_toTensegrity aT).bind (fun r4 =>
(m_laws_toIntS aW).bind (fun r5 =>
(m_spec_IsStrictStress r4 r5).bind (fun r6 =>
(m_laws_toTensegrity aT).bind (fun r7 =>
(m_laws_toIntS aW).bind (fun r8 =>
(m_impl_IsStrictStress r7 r8).bind (fun r9 =>
(bif (r9 != r6) then
 some false
 else
(m_laws_toTensegrity aT).bind (fun r11 =>
(m_laws_eqTensegrity r7 r11).bind (fun r12 =>
(bif (!r12) then
 some false
 else
(m_laws_toIntS aW).bind (fun r14 =>
(m_laws_eqIntS r8 r14).bind (fun r15 =>
(bif (!r15) then
 some false
 else
 some true
)
)
)
)
)
)
)
)
)
)
)
)
)
)
)
)

def m_spec_l12Flat_L4 (f : TFramework) (v : (List Int)) (s1 : Int) (s102 : Int) : Option (Int ⊕ (Int ⊕ Bool)) :=
(bif (decide (s102 < s1)) then
(idx f.Places s1).bind (fun x151 =>
(idx f.Places 0).bind (fun x152 =>
(idx f.Places s1).bind (fun x153 =>
(idx f.Places 0).bind (fun x154 =>
(idx f.Places s102).bind (fun x155 =>
(idx f.Places 0).bind (fun x156 =>
(idx f.Places s102).bind (fun x157 =>
(idx f.Places 0).bind (fun x158 =>
(idx v (w64 (2 * s1))).bind (fun x159 =>
(idx v 0).bind (fun x160 =>
(idx v (w64 ((w64 (2 * s1)) + 1))).bind (fun x161 =>
(idx v 1).bind (fun x162 =>
(idx v (w64 (2 * s102))).bind (fun x163 =>
(idx v 0).bind (fun x164 =>
(idx v (w64 ((w64 (2 * s102)) + 1))).bind (fun x165 =>
(idx v 1).bind (fun x166 =>
(((
(bif ((w64 ((w64 (x151.X - x152.X)) * (w64 (x157.Y - x158.Y)))) == (w64 ((w64 (x153.Y - x154.Y)) * (w64 (x155.X - x156.X))))) then
(bif ((w64 ((w64 ((w64 (x155.X - x156.X)) * (w64 (x159 - x160)))) + (w64 ((w64 (x157.Y - x158.Y)) * (w64 (x161 - x162)))))) != (w64 ((w64 ((w64 (x151.X - x152.X)) * (w64 (x163 - x164)))) + (w64 ((w64 (x153.Y - x154.Y)) * (w64 (x165 - x166))))))) then
 some true
 else
 some ((w64 ((w64 ((w64 (x155.X - x156.X)) * (w64 (x161 - x162)))) - (w64 ((w64 (x157.Y - x158.Y)) * (w64 (x159 - x160)))))) != (w64 ((w64 ((w64 (x151.X - x152.X)) * (w64 (x165 - x166)))) - (w64 ((w64 (x153.Y - x154.Y)) * (w64 (x163 - x164)))))))
)
 else
 some false
)
) : Option Bool).bind (fun j169 =>
(bif j169 then
 some (.inr (.inr false))
 else
 some (.inl (w64 (s102 + 1)))
)
))
)
)
)
)
)
)
)
)
)
)
)
)
)
)
)
)
 else
 some (.inr (.inl s1))
)
def m_spec_l12Flat_L3 (f : TFramework) (v : (List Int)) (s1 : Int) : Option (Int ⊕ (Unit ⊕ Bool)) :=
(bif (decide (s1 < f.Graph.Points)) then
((loopM (m_spec_l12Flat_L4 f v s1) BIG 1).bind (Sum.elim (fun b149 => (
 some (.inl (w64 (b149 + 1)))
)) (fun r => some (.inr (.inr r)))))
 else
 some (.inr (.inl ()))
)
def m_spec_l12Flat (f : TFramework) (v : (List Int)) : Option Bool :=
((loopM (m_spec_l12Flat_L3 f v) BIG 1).bind (Sum.elim (fun b100 => (
 some true
)) (fun r => some r)))

def m_spec_IsTrivialMotion_L4 (f : TFramework) (v : (List Int)) (s1 : Int) (s117 : Int) : Option (Int ⊕ (Int ⊕ Bool)) :=
(bif (decide (s117 < s1)) then
(((
(m_spec_ChangeOf f v s1 s117).bind (fun r177 =>
(bif (r177 != 0) then
 some true
 else
(idx f.Places s1).bind (fun x179 =>
(idx f.Places s117).bind (fun x180 =>
(bif (eqI [x179.X, x179.Y] [x180.X, x180.Y]) then
(idx v (w64 (2 * s1))).bind (fun x182 =>
(idx v (w64 (2 * s117))).bind (fun x183 =>
(bif (x182 != x183) then
 some true
 else
(idx v (w64 ((w64 (2 * s1)) + 1))).bind (fun x185 =>
(idx v (w64 ((w64 (2 * s117)) + 1))).bind (fun x186 =>
 some (x185 != x186)
)
)
)
)
)
 else
 some false
)
)
)
)
)
) : Option Bool).bind (fun j176 =>
(bif j176 then
 some (.inr (.inr false))
 else
 some (.inl (w64 (s117 + 1)))
)
))
 else
 some (.inr (.inl s1))
)
def m_spec_IsTrivialMotion_L3 (f : TFramework) (v : (List Int)) (s1 : Int) : Option (Int ⊕ (Unit ⊕ Bool)) :=
(((
(bif (decide (s1 < f.Graph.Points)) then
(m_spec_l12Vector f v).bind (fun r115 =>
 some r115
)
 else
 some false
)
) : Option Bool).bind (fun j113 =>
(bif j113 then
((loopM (m_spec_IsTrivialMotion_L4 f v s1) BIG 0).bind (Sum.elim (fun b164 => (
 some (.inl (w64 (b164 + 1)))
)) (fun r => some (.inr (.inr r)))))
 else
 some (.inr (.inl ()))
)
))
def m_spec_IsTrivialMotion (f : TFramework) (v : (List Int)) : Option Bool :=
((loopM (m_spec_IsTrivialMotion_L3 f v) BIG 0).bind (Sum.elim (fun b110 => (
(((
(m_spec_l12Vector f v).bind (fun r192 =>
(bif r192 then
(m_spec_l12Flat f v).bind (fun r194 =>
 some r194
)
 else
 some false
)
)
) : Option Bool).bind (fun j191 =>
 some j191
))
)) (fun r => some r)))

def m_spec_ProvesLoose (tV : TTensegrity) (v : (List Int)) : Option Bool :=
(((
(m_spec_IsAllowedMotion tV v).bind (fun r5 =>
(bif r5 then
(m_spec_IsTrivialMotion tV.Framework v).bind (fun r7 =>
 some (!r7)
)
 else
 some false
)
)
) : Option Bool).bind (fun j4 =>
 some j4
))

def m_impl_IsTrivialMotion_L1 (f : TFramework) (v : (List Int)) (s3 : Int) : Option (Int ⊕ (Int × Int)) :=
(bif (decide (s3 < (f.Places.length : Int))) then
(idx f.Places s3).bind (fun x30 =>
(idx f.Places 0).bind (fun x31 =>
(idx f.Places 0).bind (fun x32 =>
(((
(bif ((w64 (x30.X - x31.X)) != 0) then
 some true
 else
 some ((w64 (x30.Y - x32.Y)) != 0)
)
) : Option Bool).bind (fun j34 =>
(bif j34 then
(idx v (w64 ((w64 (2 * s3)) + 1))).bind (fun x37 =>
(idx v 1).bind (fun x38 =>
(idx v (w64 (2 * s3))).bind (fun x39 =>
(idx v 0).bind (fun x40 =>
 some (.inr ((w64 ((w64 ((w64 (x37 - x38)) * (w64 (x30.X - x31.X)))) - (w64 ((w64 (x39 - x40)) * (w64 (x30.Y - x32.Y)))))), (w64 ((w64 ((w64 (x30.X - x31.X)) * (w64 (x30.X - x31.X)))) + (w64 ((w64 (x30.Y - x32.Y)) * (w64 (x30.Y - x32.Y))))))))
)
)
)
)
 else
 some (.inl (w64 (s3 + 1)))
)
))
)
)
)
 else
 some (.inr (0, 1))
)
def m_impl_IsTrivialMotion_L2 (f : TFramework) (v : (List Int)) (b28 : (Int × Int)) (s41 : Int) : Option (Int ⊕ (Unit ⊕ Bool)) :=
(bif (decide (s41 < (f.Places.length : Int))) then
(idx f.Places s41).bind (fun x76 =>
(idx f.Places 0).bind (fun x77 =>
(idx f.Places 0).bind (fun x78 =>
(((
(idx v (w64 (2 * s41))).bind (fun x85 =>
(idx v 0).bind (fun x86 =>
(bif ((w64 ((w64 (x85 - x86)) * b28.2)) != (w64 ((w64 (-b28.1)) * (w64 (x76.Y - x78.Y))))) then
 some true
 else
(idx v (w64 ((w64 (2 * s41)) + 1))).bind (fun x88 =>
(idx v 1).bind (fun x89 =>
 some ((w64 ((w64 (x88 - x89)) * b28.2)) != (w64 (b28.1 * (w64 (x76.X - x77.X)))))
)
)
)
)
)
) : Option Bool).bind (fun j84 =>
(bif j84 then
 some (.inr (.inr false))
 else
 some (.inl (w64 (s41 + 1)))
)
))
)
)
)
 else
 some (.inr (.inl ()))
)
def m_impl_IsTrivialMotion (f : TFramework) (v : (List Int)) : Option Bool :=
(m_impl_isVelocity f v).bind (fun r1 =>
(bif (!r1) then
 some false
 else
((loopM (m_impl_IsTrivialMotion_L1 f v) BIG 0).bind (fun b28 =>
((loopM (m_impl_IsTrivialMotion_L2 f v b28) BIG 0).bind (Sum.elim (fun b74 => (
 some true
)) (fun r => some r)))
))
)
)

def m_impl_ProvesLoose (tV : TTensegrity) (v : (List Int)) : Option Bool :=
(((
(m_impl_IsAllowedMotion tV v).bind (fun r5 =>
(bif r5 then
(m_impl_IsTrivialMotion tV.Framework v).bind (fun r7 =>
 some (!r7)
)
 else
 some false
)
)
) : Option Bool).bind (fun j4 =>
 some j4
))

def m_laws_FnExactProvesLoose (aT : TTensegrity) (aV : (List Int)) : Option Bool :=
(bif (decide (1048576 < (aV.length : Int))) then
 some true
 else
(m_laws_szTensegrity aT 1048576).bind (fun r2 =>
(bif (decide (r2 < 0)) then
 some true
 else
(m_laws_toTensegrity aT).bind (fun r4 =>
(m_laws_toIntS aV).bind (fun r5 =>
(m_spec_ProvesLoose r4 r5).bind (fun r6 =>
(m_laws_toTensegrity aT).bind (fun r7 =>
(m_laws_toIntS aV).bind (fun r8 =>
(m_impl_ProvesLoose r7 r8).bind (fun r9 =>
(bif (r9 != r6) then
 some false
 else
(m_laws_toTensegrity aT).bind (fun r11 =>
(m_laws_eqTensegrity r7 r11).bind (fun r12 =>
(bif (!r12) then
 some false
 else
(m_laws_toIntS aV).bind (fun r14 =>
(m_laws_eqIntS r8 r14).bind (fun r15 =>
(bif (!r15) then
 some false
 else
 some true
)
)
)
)
)
)
)
)
)
)
)
)
)
)
)
)

def m_spec_NewPebbles_L1 (g : TGraph) (k : Int) (s9 : (Int × (List Int))) : Option ((Int × (List Int)) ⊕ (List Int)) :=
(bif (decide (s9.1 < g.Points)) then
(lim (s9.2.length + ([k] : List Int).length)).bind (fun u16 =>
 some (.inl ((w64 (s9.1 + 1)), (s9.2 ++ ([k] : List Int))))
)
 else
 some (.inr s9.2)
)
def m_spec_NewPebbles (g : TGraph) (k : Int) : Option (TPebbles × Bool) :=
(((
(m_spec_IsGraph g).bind (fun r5 =>
(bif (!r5) then
 some true
 else
(m_spec_l1In k 1 3).bind (fun r7 =>
 some (!r7)
)
)
)
) : Option Bool).bind (fun j4 =>
(bif j4 then
 some ((TPebbles.mk ([] : List Int) ([] : List Int) ([] : List Int)), false)
 else
((loopM (m_spec_NewPebbles_L1 g k) BIG (0, ([] : List Int))).bind (fun b14 =>
 some ((TPebbles.mk b14 ([] : List Int) ([] : List Int)), true)
))
)
))

def m_spec_IsRange (k : Int) (l : Int) : Option Bool :=
(((
(m_spec_l1In k 1 3).bind (fun r5 =>
(bif r5 then
(bif (decide (0 ≤ l)) then
 some (decide (l < (w64 (2 * k))))
 else
 some false
)
 else
 some false
)
)
) : Option Bool).bind (fun j4 =>
 some j4
))

def m_spec_l4Tail_L1 (p : TPebbles) (v : Int) (s1 : (Int × Int)) : Option ((Int × Int) ⊕ Int) :=
(bif (decide (s1.2 < (p.Tails.length : Int))) then
(idx p.Tails s1.2).bind (fun x14 =>
(((
(bif (x14 == v) then
 some (w64 (s1.1 + 1))
 else
 some s1.1
)
) : Option Int).bind (fun j16 =>
 some (.inl (j16, (w64 (s1.2 + 1))))
))
)
 else
 some (.inr s1.1)
)
def m_spec_l4Tail (p : TPebbles) (v : Int) : Option Int :=
((loopM (m_spec_l4Tail_L1 p v) BIG (0, 0)).bind (fun b12 =>
 some b12
))

def m_spec_IsPebbles_L1 (g : TGraph) (p : TPebbles) (s13 : Int) : Option (Int ⊕ (Unit ⊕ Bool)) :=
(bif (decide (s13 < (p.Placed.length : Int))) then
(idx p.Placed s13).bind (fun x84 =>
(((
(bif (decide (x84 < 0)) then
 some true
 else
(bif (decide ((g.Bars.length : Int) ≤ x84)) then
 some true
 else
(bif (decide (0 < s13)) then
(idx p.Placed (w64 (s13 - 1))).bind (fun x104 =>
(bif (decide (x84 ≤ x104)) then
 some true
 else
(idx p.Tails s13).bind (fun x106 =>
(idx g.Bars x84).bind (fun x107 =>
(bif (x106 != x107.A) then
(idx p.Tails s13).bind (fun x109 =>
(idx g.Bars x84).bind (fun x110 =>
 some (x109 != x110.B)
)
)
 else
 some false
)
)
)
)
)
 else
(idx p.Tails s13).bind (fun x111 =>
(idx g.Bars x84).bind (fun x112 =>
(bif (x111 != x112.A) then
(idx p.Tails s13).bind (fun x114 =>
(idx g.Bars x84).bind (fun x115 =>
 some (x114 != x115.B)
)
)
 else
 some false
)
)
)
)
)
)
) : Option Bool).bind (fun j100 =>
(bif j100 then
 some (.inr (.inr false))
 else
 some (.inl (w64 (s13 + 1)))
)
))
)
 else
 some (.inr (.inl ()))
)
def m_spec_IsPebbles_L2 (g : TGraph) (k : Int) (p : TPebbles) (s117 : Int) : Option (Int ⊕ (Unit ⊕ Bool)) :=
(bif (decide (s117 < g.Points)) then
(((
(idx p.Free s117).bind (fun x147 =>
(bif (decide (x147 < 0)) then
 some true
 else
(idx p.Free s117).bind (fun x149 =>
(m_spec_l4Tail p s117).bind (fun r150 =>
 some ((w64 (x149 + r150)) != k)
)
)
)
)
) : Option Bool).bind (fun j146 =>
(bif j146 then
 some (.inr (.inr false))
 else
 some (.inl (w64 (s117 + 1)))
)
))
 else
 some (.inr (.inl ()))
)
def m_spec_IsPebbles (g : TGraph) (k : Int) (p : TPebbles) : Option Bool :=
(((
(m_spec_IsGraph g).bind (fun r7 =>
(bif (!r7) then
 some true
 else
(m_spec_l1In k 1 3).bind (fun r9 =>
(bif (!r9) then
 some true
 else
(bif ((p.Free.length : Int) != g.Points) then
 some true
 else
 some ((p.Tails.length : Int) != (p.Placed.length : Int))
)
)
)
)
)
) : Option Bool).bind (fun j6 =>
(bif j6 then
 some false
 else
((loopM (m_spec_IsPebbles_L1 g p) BIG 0).bind (Sum.elim (fun b82 => (
((loopM (m_spec_IsPebbles_L2 g k p) BIG 0).bind (Sum.elim (fun b140 => (
 some true
)) (fun r => some r)))
)) (fun r => some r)))
)
))

def m_spec_l4Copy (p : TPebbles) : Option TPebbles :=
(lim (([] : List Int).length + p.Free.length)).bind (fun u1 =>
(lim (([] : List Int).length + p.Tails.length)).bind (fun u2 =>
(lim (([] : List Int).length + p.Placed.length)).bind (fun u3 =>
 some (TPebbles.mk (([] : List Int) ++ p.Free) (([] : List Int) ++ p.Tails) (([] : List Int) ++ p.Placed))
)
)
)

def m_spec_l4Shift_L1 (g : TGraph) (p : TPebbles) (fromV : (List Int)) (a : Int) (u : Int) (r1 : TPebbles) (x2 : Int) (x4 : Int) (s6 : (Int × (List Int))) : Option ((Int × (List Int)) ⊕ ((List Int) × (List Int) × (List Int))) :=
(bif (s6.1 != a) then
(idx fromV s6.1).bind (fun x21 =>
(idx p.Placed x21).bind (fun x22 =>
(idx g.Bars x22).bind (fun x23 =>
(m_spec_l4Other x23 s6.1).bind (fun r24 =>
(idx s6.2 x21).bind (fun x25 =>
 some (.inl (r24, (s6.2.set x21.toNat s6.1)))
)
)
)
)
)
 else
 some (.inr (((r1.Free.set u.toNat (w64 (x2 - 1))).set a.toNat (w64 (x4 + 1))), s6.2, r1.Placed))
)
def m_spec_l4Shift (g : TGraph) (p : TPebbles) (fromV : (List Int)) (a : Int) (u : Int) : Option TPebbles :=
(m_spec_l4Copy p).bind (fun r1 =>
(idx r1.Free u).bind (fun x2 =>
(idx r1.Free u).bind (fun x3 =>
(idx (r1.Free.set u.toNat (w64 (x2 - 1))) a).bind (fun x4 =>
(idx (r1.Free.set u.toNat (w64 (x2 - 1))) a).bind (fun x5 =>
((loopM (m_spec_l4Shift_L1 g p fromV a u r1 x2 x4) BIG (u, r1.Tails)).bind (fun b19 =>
 some (TPebbles.mk b19.1 b19.2.1 b19.2.2)
))
)
)
)
)
)

def m_spec_l4Find_L1 (g : TGraph) (s2 : (Int × (List Int))) : Option ((Int × (List Int)) ⊕ (List Int)) :=
(bif (decide (s2.1 < g.Points)) then
(idx s2.2 s2.1).bind (fun x9 =>
 some (.inl ((w64 (s2.1 + 1)), (s2.2.set s2.1.toNat (-1))))
)
 else
 some (.inr s2.2)
)
def m_spec_l4Find_L5 (g : TGraph) (p : TPebbles) (a : Int) (b : Int) (s12 : (Int × (List Int) × (List Int) × (List Bool))) (x95 : Int) (s96 : (Int × (List Int) × (List Int) × (List Bool))) : Option ((Int × (List Int) × (List Int) × (List Bool)) ⊕ ((Int × (List Int) × (List Int) × (List Bool)) ⊕ (TPebbles × Bool))) :=
(bif (decide (s96.1 < (p.Placed.length : Int))) then
(idx p.Tails s96.1).bind (fun x135 =>
(bif (x135 != x95) then
 some (.inl ((w64 (s96.1 + 1)), s96.2.1, s96.2.2.1, s96.2.2.2))
 else
(idx p.Placed s96.1).bind (fun x137 =>
(idx g.Bars x137).bind (fun x138 =>
(m_spec_l4Other x138 x95).bind (fun r139 =>
(idx s96.2.2.2 r139).bind (fun x140 =>
(bif x140 then
 some (.inl ((w64 (s96.1 + 1)), s96.2.1, s96.2.2.1, s96.2.2.2))
 else
(idx s96.2.2.2 r139).bind (fun x142 =>
(idx s96.2.1 r139).bind (fun x143 =>
(((
(bif (r139 != b) then
(idx p.Free r139).bind (fun x148 =>
 some (decide (0 < x148))
)
 else
 some false
)
) : Option Bool).bind (fun j146 =>
(bif j146 then
(m_spec_l4Shift g p (s96.2.1.set r139.toNat s96.1) a r139).bind (fun r150 =>
 some (.inr (.inr (r150, true)))
)
 else
(lim (s96.2.2.1.length + ([r139] : List Int).length)).bind (fun u151 =>
 some (.inl ((w64 (s96.1 + 1)), (s96.2.1.set r139.toNat s96.1), (s96.2.2.1 ++ ([r139] : List Int)), (s96.2.2.2.set r139.toNat true)))
)
)
))
)
)
)
)
)
)
)
)
)
 else
 some (.inr (.inl (s12.1, s96.2.1, s96.2.2.1, s96.2.2.2)))
)
def m_spec_l4Find_L4 (g : TGraph) (p : TPebbles) (a : Int) (b : Int) (s12 : (Int × (List Int) × (List Int) × (List Bool))) : Option ((Int × (List Int) × (List Int) × (List Bool)) ⊕ (Unit ⊕ (TPebbles × Bool))) :=
(bif (decide (s12.1 < (s12.2.2.1.length : Int))) then
(idx s12.2.2.1 s12.1).bind (fun x95 =>
((loopM (m_spec_l4Find_L5 g p a b s12 x95) BIG (0, s12.2.1, s12.2.2.1, s12.2.2.2)).bind (Sum.elim (fun b133 => (
 some (.inl ((w64 (b133.1 + 1)), b133.2.1, b133.2.2.1, b133.2.2.2))
)) (fun r => some (.inr (.inr r)))))
)
 else
 some (.inr (.inl ()))
)
def m_spec_l4Find (g : TGraph) (p : TPebbles) (a : Int) (b : Int) : Option (TPebbles × Bool) :=
(lenOk g.Points).bind (fun u1 =>
((loopM (m_spec_l4Find_L1 g) BIG (0, (List.replicate g.Points.toNat (0 : Int)))).bind (fun b7 =>
(lenOk g.Points).bind (fun u10 =>
(idx (List.replicate g.Points.toNat false) a).bind (fun x11 =>
((loopM (m_spec_l4Find_L4 g p a b) BIG (0, b7, ([a] : List Int), ((List.replicate g.Points.toNat false).set a.toNat true))).bind (Sum.elim (fun b93 => (
 some (p, false)
)) (fun r => some r)))
)
)
))
)

def m_spec_l4Gather_L1 (g : TGraph) (a : Int) (b : Int) (want : Int) (s2 : ((List Int) × (List Int) × (List Int))) : Option (((List Int) × (List Int) × (List Int)) ⊕ (((List Int) × (List Int) × (List Int)) ⊕ (TPebbles × Bool))) :=
(idx s2.1 a).bind (fun x28 =>
(idx s2.1 b).bind (fun x29 =>
(bif (decide ((w64 (x28 + x29)) < want)) then
(m_spec_l4Find g (TPebbles.mk s2.1 s2.2.1 s2.2.2) a b).bind (fun r31 =>
(bif r31.2 then
(bif (!true) then
 none
 else
(bif (!true) then
 none
 else
 some (.inl (r31.1.Free, r31.1.Tails, r31.1.Placed))
)
)
 else
(bif (!false) then
(m_spec_l4Find g (TPebbles.mk s2.1 s2.2.1 s2.2.2) b a).bind (fun r36 =>
(bif r36.2 then
(bif (!true) then
 none
 else
 some (.inl (r36.1.Free, r36.1.Tails, r36.1.Placed))
)
 else
(bif (!false) then
 some (.inr (.inr ((TPebbles.mk s2.1 s2.2.1 s2.2.2), false)))
 else
 none
)
)
)
 else
 none
)
)
)
 else
 some (.inr (.inl (s2.1, s2.2.1, s2.2.2)))
)
)
)
def m_spec_l4Gather (g : TGraph) (p : TPebbles) (a : Int) (b : Int) (want : Int) : Option (TPebbles × Bool) :=
(m_spec_l4Copy p).bind (fun r1 =>
((loopM (m_spec_l4Gather_L1 g a b want) BIG (r1.Free, r1.Tails, r1.Placed)).bind (Sum.elim (fun b27 => (
 some ((TPebbles.mk b27.1 b27.2.1 b27.2.2), true)
)) (fun r => some r)))
)

def m_spec_PlaceBar (g : TGraph) (k : Int) (l : Int) (p : TPebbles) (bar : Int) : Option (TPebbles × Bool) :=
(((
(m_spec_IsPebbles g k p).bind (fun r10 =>
(bif (!r10) then
 some true
 else
(m_spec_IsRange k l).bind (fun r12 =>
(bif (!r12) then
 some true
 else
(bif (decide (bar < 0)) then
 some true
 else
(bif (decide ((g.Bars.length : Int) ≤ bar)) then
 some true
 else
(bif (decide (0 < (p.Placed.length : Int))) then
(idx p.Placed (w64 ((p.Placed.length : Int) - 1))).bind (fun x17 =>
 some (decide (bar ≤ x17))
)
 else
 some false
)
)
)
)
)
)
)
) : Option Bool).bind (fun j9 =>
(bif j9 then
(m_spec_l4Copy p).bind (fun r19 =>
 some (r19, false)
)
 else
(idx g.Bars bar).bind (fun x20 =>
(m_spec_l4Gather g p x20.A x20.B (w64 (l + 1))).bind (fun r21 =>
(bif (!r21.2) then
(m_spec_l4Copy p).bind (fun r23 =>
 some (r23, false)
)
 else
(idx r21.1.Free x20.A).bind (fun x24 =>
(((
(bif (x24 == 0) then
 some x20.B
 else
 some x20.A
)
) : Option Int).bind (fun j26 =>
(idx r21.1.Free j26).bind (fun x28 =>
(idx r21.1.Free j26).bind (fun x29 =>
(lim (r21.1.Tails.length + ([j26] : List Int).length)).bind (fun u30 =>
(lim (r21.1.Placed.length + ([bar] : List Int).length)).bind (fun u31 =>
 some ((TPebbles.mk (r21.1.Free.set j26.toNat (w64 (x28 - 1))) (r21.1.Tails ++ ([j26] : List Int)) (r21.1.Placed ++ ([bar] : List Int))), true)
)
)
)
)
))
)
)
)
)
)
))

def m_spec_RunPebbles_L1 (g : TGraph) (k : Int) (l : Int) (s8 : (Int × (List Int) × (List Int) × (List Int))) : Option ((Int × (List Int) × (List Int) × (List Int)) ⊕ ((List Int) × (List Int) × (List Int))) :=
(bif (decide (s8.1 < (g.Bars.length : Int))) then
(m_spec_PlaceBar g k l (TPebbles.mk s8.2.1 s8.2.2.1 s8.2.2.2) s8.1).bind (fun r15 =>
 some (.inl ((w64 (s8.1 + 1)), r15.1.Free, r15.1.Tails, r15.1.Placed))
)
 else
 some (.inr (s8.2.1, s8.2.2.1, s8.2.2.2))
)
def m_spec_RunPebbles (g : TGraph) (k : Int) (l : Int) : Option (TPebbles × Bool) :=
(m_spec_NewPebbles g k).bind (fun r1 =>
(((
(bif (!r1.2) then
 some true
 else
(m_spec_IsRange k l).bind (fun r6 =>
 some (!r6)
)
)
) : Option Bool).bind (fun j4 =>
(bif j4 then
 some ((TPebbles.mk ([] : List Int) ([] : List Int) ([] : List Int)), false)
 else
((loopM (m_spec_RunPebbles_L1 g k l) BIG (0, r1.1.Free, r1.1.Tails, r1.1.Placed)).bind (fun b13 =>
 some ((TPebbles.mk b13.1 b13.2.1 b13.2.2), true)
))
)
))
)

def m_spec_RankOf (g : TGraph) (k : Int) (l : Int) : Option Int :=
(m_spec_RunPebbles g k l).bind (fun r1 =>
(bif (!r1.2) then
 some (-1)
 else
 some (r1.1.Placed.length : Int)
)
)

def m_spec_BodyRank (g : TGraph) : Option Int :=
(m_spec_RankOf g 3 3).bind (fun r1 =>
 some r1
)

def m_impl_IsRange (k : Int) (l : Int) : Option Bool :=
(((
(m_impl_within k 1 3).bind (fun r5 =>
(bif r5 then
(m_impl_within l 0 (w64 ((w64 (2 * k)) - 1))).bind (fun r7 =>
 some r7
)
 else
 some false
)
)
) : Option Bool).bind (fun j4 =>
 some j4
))

def m_impl_copyPebbles (p : TPebbles) : Option TPebbles :=
(m_impl_copyInts p.Free).bind (fun r1 =>
(m_impl_copyInts p.Tails).bind (fun r2 =>
(m_impl_copyInts p.Placed).bind (fun r3 =>
 some (TPebbles.mk r1 r2 r3)
)
)
)

def m_impl_moveTo_L11 (p : TPebbles) (a : Int) (s122 : (Int × (List (Int × Int)) × (List Int))) (r187 : Int) (x196 : Int) (x198 : Int) (s200 : (Int × (List Int))) : Option ((Int × (List Int)) ⊕ ((List Int) × (List Int))) :=
(bif (s200.1 != a) then
(idx s200.2 (mget (mput s122.2.1 r187 s122.1) s200.1)).bind (fun x209 =>
(idx s200.2 (mget (mput s122.2.1 r187 s122.1) s200.1)).bind (fun x210 =>
 some (.inl (x209, (s200.2.set (mget (mput s122.2.1 r187 s122.1) s200.1).toNat s200.1)))
)
)
 else
 some (.inr (((p.Free.set r187.toNat (w64 (x196 - 1))).set a.toNat (w64 (x198 + 1))), s200.2))
)
def m_impl_moveTo_L10 (bars : (List TBar)) (p : TPebbles) (a : Int) (b : Int) (s1 : (Int × (List (Int × Int)) × (List Int))) (s122 : (Int × (List (Int × Int)) × (List Int))) : Option ((Int × (List (Int × Int)) × (List Int)) ⊕ ((Int × (List (Int × Int)) × (List Int)) ⊕ (Bool × TPebbles))) :=
(bif (decide (s122.1 < (p.Placed.length : Int))) then
(idx p.Placed s122.1).bind (fun x181 =>
(idx p.Tails s122.1).bind (fun x182 =>
(idx s122.2.2 s1.1).bind (fun x183 =>
(bif (x182 != x183) then
 some (.inl ((w64 (s122.1 + 1)), s122.2.1, s122.2.2))
 else
(idx bars x181).bind (fun x185 =>
(idx s122.2.2 s1.1).bind (fun x186 =>
(m_impl_Bar_other x185 x186).bind (fun r187 =>
(bif (mhas s122.2.1 r187) then
 some (.inl ((w64 (s122.1 + 1)), s122.2.1, s122.2.2))
 else
(((
(bif (r187 == b) then
 some true
 else
(idx p.Free r187).bind (fun x193 =>
 some (x193 == 0)
)
)
) : Option Bool).bind (fun j191 =>
(bif j191 then
(lim (s122.2.2.length + ([r187] : List Int).length)).bind (fun u195 =>
 some (.inl ((w64 (s122.1 + 1)), (mput s122.2.1 r187 s122.1), (s122.2.2 ++ ([r187] : List Int))))
)
 else
(idx p.Free r187).bind (fun x196 =>
(idx p.Free r187).bind (fun x197 =>
(idx (p.Free.set r187.toNat (w64 (x196 - 1))) a).bind (fun x198 =>
(idx (p.Free.set r187.toNat (w64 (x196 - 1))) a).bind (fun x199 =>
((loopM (m_impl_moveTo_L11 p a s122 r187 x196 x198) BIG (r187, p.Tails)).bind (fun b207 =>
 some (.inr (.inr (true, (TPebbles.mk b207.1 b207.2 p.Placed))))
))
)
)
)
)
)
))
)
)
)
)
)
)
)
)
 else
 some (.inr (.inl (s1.1, s122.2.1, s122.2.2)))
)
def m_impl_moveTo_L7 (bars : (List TBar)) (p : TPebbles) (a : Int) (b : Int) (s1 : (Int × (List (Int × Int)) × (List Int))) : Option ((Int × (List (Int × Int)) × (List Int)) ⊕ (Unit ⊕ (Bool × TPebbles))) :=
(bif (decide (s1.1 < (s1.2.2.length : Int))) then
((loopM (m_impl_moveTo_L10 bars p a b s1) BIG (0, s1.2.1, s1.2.2)).bind (Sum.elim (fun b179 => (
 some (.inl ((w64 (b179.1 + 1)), b179.2.1, b179.2.2))
)) (fun r => some (.inr (.inr r)))))
 else
 some (.inr (.inl ()))
)
def m_impl_moveTo (bars : (List TBar)) (p : TPebbles) (a : Int) (b : Int) : Option (Bool × TPebbles) :=
((loopM (m_impl_moveTo_L7 bars p a b) BIG (0, (mput ([] : List (Int × Int)) a (-1)), ([a] : List Int))).bind (Sum.elim (fun b120 => (
 some (false, p)
)) (fun r => some r)))

def m_impl_gather_L1 (bars : (List TBar)) (a : Int) (b : Int) (want : Int) (s1 : ((List Int) × (List Int) × (List Int))) : Option (((List Int) × (List Int) × (List Int)) ⊕ (((List Int) × (List Int) × (List Int)) ⊕ (Bool × TPebbles))) :=
(idx s1.1 a).bind (fun x25 =>
(idx s1.1 b).bind (fun x26 =>
(bif (decide ((w64 (x25 + x26)) < want)) then
(((
(m_impl_moveTo bars (TPebbles.mk s1.1 s1.2.1 s1.2.2) a b).bind (fun r32 =>
(bif (!r32.1) then
(m_impl_moveTo bars r32.2 b a).bind (fun r34 =>
 some ((!r34.1), r34.2.Free, r34.2.Tails, r34.2.Placed)
)
 else
 some (false, r32.2.Free, r32.2.Tails, r32.2.Placed)
)
)
) : Option (Bool × (List Int) × (List Int) × (List Int))).bind (fun j31 =>
(bif j31.1 then
 some (.inr (.inr (false, (TPebbles.mk j31.2.1 j31.2.2.1 j31.2.2.2))))
 else
 some (.inl (j31.2.1, j31.2.2.1, j31.2.2.2))
)
))
 else
 some (.inr (.inl (s1.1, s1.2.1, s1.2.2)))
)
)
)
def m_impl_gather (bars : (List TBar)) (p : TPebbles) (a : Int) (b : Int) (want : Int) : Option (Bool × TPebbles) :=
((loopM (m_impl_gather_L1 bars a b want) BIG (p.Free, p.Tails, p.Placed)).bind (Sum.elim (fun b24 => (
 some (true, (TPebbles.mk b24.1 b24.2.1 b24.2.2))
)) (fun r => some r)))

def m_impl_place (bars : (List TBar)) (l : Int) (p : TPebbles) (e : Int) : Option (Bool × TPebbles) :=
(idx bars e).bind (fun x1 =>
(m_impl_gather bars p x1.A x1.B (w64 (l + 1))).bind (fun r2 =>
(bif (!r2.1) then
 some (false, r2.2)
 else
(idx r2.2.Free x1.A).bind (fun x4 =>
(((
(bif (x4 == 0) then
 some x1.B
 else
 some x1.A
)
) : Option Int).bind (fun j6 =>
(idx r2.2.Free j6).bind (fun x8 =>
(idx r2.2.Free j6).bind (fun x9 =>
(lim (r2.2.Tails.length + ([j6] : List Int).length)).bind (fun u10 =>
(lim (r2.2.Placed.length + ([e] : List Int).length)).bind (fun u11 =>
 some (true, (TPebbles.mk (r2.2.Free.set j6.toNat (w64 (x8 - 1))) (r2.2.Tails ++ ([j6] : List Int)) (r2.2.Placed ++ ([e] : List Int))))
)
)
)
)
))
)
)
)
)

def m_impl_play_L1 (points : Int) (k : Int) (s1 : (Int × (List Int))) : Option ((Int × (List Int)) ⊕ (List Int)) :=
(bif (decide (s1.1 < points)) then
(lim (s1.2.length + ([k] : List Int).length)).bind (fun u8 =>
 some (.inl ((w64 (s1.1 + 1)), (s1.2 ++ ([k] : List Int))))
)
 else
 some (.inr s1.2)
)
def m_impl_play_L2 (bars : (List TBar)) (l : Int) (s9 : (Int × (List Int) × (List Int) × (List Int))) : Option ((Int × (List Int) × (List Int) × (List Int)) ⊕ ((List Int) × (List Int) × (List Int))) :=
(bif (decide (s9.1 < (bars.length : Int))) then
(m_impl_copyPebbles (TPebbles.mk s9.2.1 s9.2.2.1 s9.2.2.2)).bind (fun r24 =>
(m_impl_place bars l r24 s9.1).bind (fun r25 =>
(((
(bif r25.1 then
 some (r25.2.Free, r25.2.Tails, r25.2.Placed)
 else
 some (s9.2.1, s9.2.2.1, s9.2.2.2)
)
) : Option ((List Int) × (List Int) × (List Int))).bind (fun j27 =>
 some (.inl ((w64 (s9.1 + 1)), j27.1, j27.2.1, j27.2.2))
))
)
)
 else
 some (.inr (s9.2.1, s9.2.2.1, s9.2.2.2))
)
def m_impl_play (points : Int) (bars : (List TBar)) (k : Int) (l : Int) : Option TPebbles :=
((loopM (m_impl_play_L1 points k) BIG (0, ([] : List Int))).bind (fun b6 =>
((loopM (m_impl_play_L2 bars l) BIG (0, b6, ([] : List Int), ([] : List Int))).bind (fun b22 =>
 some (TPebbles.mk b22.1 b22.2.1 b22.2.2)
))
))

def m_impl_RunPebbles (g : TGraph) (k : Int) (l : Int) : Option (TPebbles × Bool) :=
(((
(m_impl_IsGraph g).bind (fun r5 =>
(bif (!r5) then
 some true
 else
(m_impl_IsRange k l).bind (fun r7 =>
 some (!r7)
)
)
)
) : Option Bool).bind (fun j4 =>
(bif j4 then
 some ((TPebbles.mk ([] : List Int) ([] : List Int) ([] : List Int)), false)
 else
(m_impl_play g.Points g.Bars k l).bind (fun r9 =>
 some (r9, true)
)
)
))

def m_impl_RankOf (g : TGraph) (k : Int) (l : Int) : Option Int :=
(m_impl_RunPebbles g k l).bind (fun r1 =>
(bif (!r1.2) then
 some (-1)
 else
 some (r1.1.Placed.length : Int)
)
)

def m_impl_BodyRank (g : TGraph) : Option Int :=
(m_impl_RankOf g 3 3).bind (fun r1 =>
 some r1
)

def m_laws_FnExactBodyRank (aG : TGraph) : Option Bool :=
(m_laws_szGraph aG 1048576).bind (fun r1 =>
(bif (decide (r1 < 0)) then
 some true
 else
(m_laws_toGraph aG).bind (fun r3 =>
(m_spec_BodyRank r3).bind (fun r4 =>
(m_laws_toGraph aG).bind (fun r5 =>
(m_impl_BodyRank r5).bind (fun r6 =>
(bif (r6 != r4) then
 some false
 else
(m_laws_toGraph aG).bind (fun r8 =>
(m_laws_eqGraph r5 r8).bind (fun r9 =>
(bif (!r9) then
 some false
 else
 some true
)
)
)
)
)
)
)
)
)
)

def m_spec_BodyFreedom (g : TGraph) : Option Int :=
(m_spec_IsGraph g).bind (fun r1 =>
(bif (!r1) then
 some (-1)
 else
(m_spec_BodyRank g).bind (fun r3 =>
 some (w64 ((w64 ((w64 (3 * g.Points)) - 3)) - r3))
)
)
)

def m_impl_BodyFreedom (g : TGraph) : Option Int :=
(m_impl_IsGraph g).bind (fun r1 =>
(bif (!r1) then
 some (-1)
 else
(m_impl_BodyRank g).bind (fun r3 =>
 some (w64 ((w64 ((w64 (3 * g.Points)) - 3)) - r3))
)
)
)

def m_laws_FnExactBodyFreedom (aG : TGraph) : Option Bool :=
(m_laws_szGraph aG 1048576).bind (fun r1 =>
(bif (decide (r1 < 0)) then
 some true
 else
(m_laws_toGraph aG).bind (fun r3 =>
(m_spec_BodyFreedom r3).bind (fun r4 =>
(m_laws_toGraph aG).bind (fun r5 =>
(m_impl_BodyFreedom r5).bind (fun r6 =>
(bif (r6 != r4) then
 some false
 else
(m_laws_toGraph aG).bind (fun r8 =>
(m_laws_eqGraph r5 r8).bind (fun r9 =>
(bif (!r9) then
 some false
 else
 some true
)
)
)
)
)
)
)
)
)
)

def m_spec_IsBodyRigid (g : TGraph) : Option Bool :=
(m_spec_BodyFreedom g).bind (fun r1 =>
 some (r1 == 0)
)

def m_impl_IsBodyRigid (g : TGraph) : Option Bool :=
(m_impl_BodyFreedom g).bind (fun r1 =>
 some (r1 == 0)
)

def m_laws_FnExactIsBodyRigid (aG : TGraph) : Option Bool :=
(m_laws_szGraph aG 1048576).bind (fun r1 =>
(bif (decide (r1 < 0)) then
 some true
 else
(m_laws_toGraph aG).bind (fun r3 =>
(m_spec_IsBodyRigid r3).bind (fun r4 =>
(m_laws_toGraph aG).bind (fun r5 =>
(m_impl_IsBodyRigid r5).bind (fun r6 =>
(bif (r6 != r4) then
 some false
 else
(m_laws_toGraph aG).bind (fun r8 =>
(m_laws_eqGraph r5 r8).bind (fun r9 =>
(bif (!r9) then
 some false
 else
 some true
)
)
)
)
)
)
)
)
)
)

def m_spec_HingeGraph_L1 (g : TGraph) (s7 : (Int × (List TBar))) : Option ((Int × (List TBar)) ⊕ (List TBar)) :=
(bif (decide (s7.1 < (g.Bars.length : Int))) then
(idx g.Bars s7.1).bind (fun x18 =>
(idx g.Bars s7.1).bind (fun x19 =>
(lim (s7.2.length + [x18, x19].length)).bind (fun u20 =>
 some (.inl ((w64 (s7.1 + 1)), (s7.2 ++ [x18, x19])))
)
)
)
 else
 some (.inr s7.2)
)
def m_spec_HingeGraph (g : TGraph) : Option (TGraph × Bool) :=
(((
(m_spec_IsGraph g).bind (fun r4 =>
(bif (!r4) then
 some true
 else
 some (decide (24 < (w64 (2 * (g.Bars.length : Int)))))
)
)
) : Option Bool).bind (fun j3 =>
(bif j3 then
 some ((TGraph.mk 0 ([] : List TBar)), false)
 else
((loopM (m_spec_HingeGraph_L1 g) BIG (0, ([] : List TBar))).bind (fun b16 =>
 some ((TGraph.mk g.Points b16), true)
))
)
))

def m_spec_HingeFreedom (g : TGraph) : Option Int :=
(m_spec_HingeGraph g).bind (fun r1 =>
(bif (!r1.2) then
 some (-1)
 else
(m_spec_BodyFreedom r1.1).bind (fun r3 =>
 some r3
)
)
)

def m_impl_HingeGraph_L1 (g : TGraph) (s7 : (Int × (List TBar))) : Option ((Int × (List TBar)) ⊕ (List TBar)) :=
(bif (decide (s7.1 < (g.Bars.length : Int))) then
(idx g.Bars s7.1).bind (fun x16 =>
(lim (s7.2.length + [x16, x16].length)).bind (fun u17 =>
 some (.inl ((w64 (s7.1 + 1)), (s7.2 ++ [x16, x16])))
)
)
 else
 some (.inr s7.2)
)
def m_impl_HingeGraph (g : TGraph) : Option (TGraph × Bool) :=
(((
(m_impl_IsGraph g).bind (fun r4 =>
(bif (!r4) then
 some true
 else
 some (decide (24 < (w64 (2 * (g.Bars.length : Int)))))
)
)
) : Option Bool).bind (fun j3 =>
(bif j3 then
 some ((TGraph.mk 0 ([] : List TBar)), false)
 else
((loopM (m_impl_HingeGraph_L1 g) BIG (0, ([] : List TBar))).bind (fun b14 =>
 some ((TGraph.mk g.Points b14), true)
))
)
))

def m_impl_HingeFreedom (g : TGraph) : Option Int :=
(m_impl_HingeGraph g).bind (fun r1 =>
(bif (!r1.2) then
 some (-1)
 else
(m_impl_BodyFreedom r1.1).bind (fun r3 =>
 some r3
)
)
)

def m_laws_FnExactHingeFreedom (aG : TGraph) : Option Bool :=
(m_laws_szGraph aG 1048576).bind (fun r1 =>
(bif (decide (r1 < 0)) then
 some true
 else
(m_laws_toGraph aG).bind (fun r3 =>
(m_spec_HingeFreedom r3).bind (fun r4 =>
(m_laws_toGraph aG).bind (fun r5 =>
(m_impl_HingeFreedom r5).bind (fun r6 =>
(bif (r6 != r4) then
 some false
 else
(m_laws_toGraph aG).bind (fun r8 =>
(m_laws_eqGraph r5 r8).bind (fun r9 =>
(bif (!r9) then
 some false
 else
 some true
)
)
)
)
)
)
)
)
)
)

def m_spec_RemoveBar (g : TGraph) (k : Int) : Option (TGraph × Bool) :=
(((
(m_spec_IsGraph g).bind (fun r5 =>
(bif (!r5) then
 some true
 else
(bif (decide (k < 0)) then
 some true
 else
 some (decide ((g.Bars.length : Int) ≤ k))
)
)
)
) : Option Bool).bind (fun j4 =>
(bif j4 then
(m_spec_l2Copy g).bind (fun r9 =>
 some (r9, false)
)
 else
(slc g.Bars 0 k).bind (fun v10 =>
(lim (([] : List TBar).length + ((g.Bars.take k.toNat).drop 0).length)).bind (fun u11 =>
(slc g.Bars (w64 (k + 1)) (g.Bars.length : Int)).bind (fun v12 =>
(lim ((([] : List TBar) ++ ((g.Bars.take k.toNat).drop 0)).length + ((g.Bars.take g.Bars.length).drop ((w64 (k + 1)).toNat)).length)).bind (fun u13 =>
 some ((TGraph.mk g.Points ((([] : List TBar) ++ ((g.Bars.take k.toNat).drop 0)) ++ ((g.Bars.take g.Bars.length).drop ((w64 (k + 1)).toNat)))), true)
)
)
)
)
)
))

def m_spec_BridgesOf_L1 (g : TGraph) (k : Int) (l : Int) (r1 : Int) (s2 : (Int × (List Int))) : Option ((Int × (List Int)) ⊕ (List Int)) :=
(((
(bif (decide (s2.1 < (g.Bars.length : Int))) then
 some (decide (0 ≤ r1))
 else
 some false
)
) : Option Bool).bind (fun j27 =>
(bif j27 then
(m_spec_RemoveBar g s2.1).bind (fun r30 =>
(m_spec_RankOf r30.1 k l).bind (fun r31 =>
(((
(bif (decide (r31 < r1)) then
(lim (s2.2.length + ([s2.1] : List Int).length)).bind (fun u36 =>
 some (s2.2 ++ ([s2.1] : List Int))
)
 else
 some s2.2
)
) : Option (List Int)).bind (fun j34 =>
 some (.inl ((w64 (s2.1 + 1)), j34))
))
)
)
 else
 some (.inr s2.2)
)
))
def m_spec_BridgesOf (g : TGraph) (k : Int) (l : Int) : Option (List Int) :=
(m_spec_RankOf g k l).bind (fun r1 =>
((loopM (m_spec_BridgesOf_L1 g k l r1) BIG (0, ([] : List Int))).bind (fun b25 =>
 some b25
))
)

def m_spec_FragileBars (g : TGraph) : Option (List Int) :=
(m_spec_BridgesOf g 2 3).bind (fun r1 =>
 some r1
)

def m_impl_RemoveBar (g : TGraph) (k : Int) : Option (TGraph × Bool) :=
(m_impl_copyGraph g).bind (fun r1 =>
(((
(m_impl_IsGraph g).bind (fun r6 =>
(bif (!r6) then
 some true
 else
(m_impl_within k 0 (w64 ((g.Bars.length : Int) - 1))).bind (fun r8 =>
 some (!r8)
)
)
)
) : Option Bool).bind (fun j5 =>
(bif j5 then
 some (r1, false)
 else
(slc r1.Bars 0 k).bind (fun v10 =>
(slc r1.Bars (w64 (k + 1)) (r1.Bars.length : Int)).bind (fun v11 =>
(lim ((k.toNat - 0) + (r1.Bars.length - (w64 (k + 1)).toNat))).bind (fun u12 =>
(same ((w64 (k + 1)).toNat + (r1.Bars.length - (w64 (k + 1)).toNat) - r1.Bars.length) 0).bind (fun u13 =>
(same ((k.toNat - 0) - r1.Bars.length) 0).bind (fun u14 =>
 some ((TGraph.mk r1.Points (r1.Bars.take (k.toNat - 0) ++ (r1.Bars.drop ((w64 (k + 1)).toNat)).take (r1.Bars.length - (w64 (k + 1)).toNat))), true)
)))
)
)
)
))
)

def m_impl_BridgesOf_L1 (g : TGraph) (k : Int) (l : Int) (r1 : Int) (s3 : (Int × (List Int))) : Option ((Int × (List Int)) ⊕ (List Int)) :=
(bif (decide (s3.1 < (g.Bars.length : Int))) then
(m_impl_RemoveBar g s3.1).bind (fun r22 =>
(m_impl_RankOf r22.1 k l).bind (fun r23 =>
(((
(bif (decide (r23 < r1)) then
(lim (s3.2.length + ([s3.1] : List Int).length)).bind (fun u28 =>
 some (s3.2 ++ ([s3.1] : List Int))
)
 else
 some s3.2
)
) : Option (List Int)).bind (fun j26 =>
 some (.inl ((w64 (s3.1 + 1)), j26))
))
)
)
 else
 some (.inr s3.2)
)
def m_impl_BridgesOf (g : TGraph) (k : Int) (l : Int) : Option (List Int) :=
(m_impl_RankOf g k l).bind (fun r1 =>
(bif (decide (r1 < 0)) then
 some ([] : List Int)
 else
((loopM (m_impl_BridgesOf_L1 g k l r1) BIG (0, ([] : List Int))).bind (fun b20 =>
 some b20
))
)
)

def m_impl_FragileBars (g : TGraph) : Option (List Int) :=
(m_impl_BridgesOf g 2 3).bind (fun r1 =>
 some r1
)

def m_laws_FnExactFragileBars (aG : TGraph) : Option Bool :=
(m_laws_szGraph aG 1048576).bind (fun r1 =>
(bif (decide (r1 < 0)) then
 some true
 else
(m_laws_toGraph aG).bind (fun r3 =>
(m_spec_FragileBars r3).bind (fun r4 =>
(m_laws_toGraph aG).bind (fun r5 =>
(m_impl_FragileBars r5).bind (fun r6 =>
(m_laws_eqIntS r6 r4).bind (fun r7 =>
(bif (!r7) then
 some false
 else
(m_laws_toGraph aG).bind (fun r9 =>
(m_laws_eqGraph r5 r9).bind (fun r10 =>
(bif (!r10) then
 some false
 else
(m_laws_markGraph r5 1).bind (fun r12 =>
(((
(bif (decide (r12.1 < 0)) then
 some true
 else
(m_laws_eqIntS r6 r4).bind (fun r17 =>
 some (!r17)
)
)
) : Option Bool).bind (fun j15 =>
(bif j15 then
 some false
 else
(m_laws_markIntS r6 1).bind (fun r19 =>
(same r6.length r19.2.length).bind (fun u20 =>
(m_laws_heldIntS r19.2 1).bind (fun r21 =>
(bif (decide (r21 < 0)) then
 some false
 else
(bif (r21 != r19.1) then
 some false
 else
(m_laws_toGraph aG).bind (fun r24 =>
(m_impl_FragileBars r24).bind (fun r25 =>
(m_laws_eqIntS r25 r4).bind (fun r26 =>
(bif (!r26) then
 some false
 else
(same r6.length r19.2.length).bind (fun u28 =>
(m_laws_heldIntS r19.2 1).bind (fun r29 =>
(bif (decide (r29 < 0)) then
 some false
 else
(bif (r29 != r19.1) then
 some false
 else
 some true
)
)
))
)
)
)
)
)
)
))
)
)
))
)
)
)
)
)
)
)
)
)
)
)
)

def m_spec_FreedomOf (g : TGraph) : Option Int :=
(m_spec_IsGraph g).bind (fun r1 =>
(bif (!r1) then
 some (-1)
 else
(m_spec_RankOf g 2 3).bind (fun r3 =>
 some (w64 ((if 0 < (w64 ((w64 (2 * g.Points)) - 3)) then (w64 ((w64 (2 * g.Points)) - 3)) else 0) - r3))
)
)
)

def m_spec_IsRigid (g : TGraph) : Option Bool :=
(m_spec_FreedomOf g).bind (fun r1 =>
 some (r1 == 0)
)

def m_spec_IsRedundantlyRigid (g : TGraph) : Option Bool :=
(((
(m_spec_IsRigid g).bind (fun r5 =>
(bif r5 then
(m_spec_FragileBars g).bind (fun r7 =>
 some ((r7.length : Int) == 0)
)
 else
 some false
)
)
) : Option Bool).bind (fun j4 =>
 some j4
))

def m_impl_FreedomOf (g : TGraph) : Option Int :=
(m_impl_IsGraph g).bind (fun r1 =>
(bif (!r1) then
 some (-1)
 else
(m_impl_RankOf g 2 3).bind (fun r3 =>
 some (w64 ((if 0 < (w64 ((w64 (2 * g.Points)) - 3)) then (w64 ((w64 (2 * g.Points)) - 3)) else 0) - r3))
)
)
)

def m_impl_IsRigid (g : TGraph) : Option Bool :=
(m_impl_FreedomOf g).bind (fun r1 =>
 some (r1 == 0)
)

def m_impl_IsRedundantlyRigid (g : TGraph) : Option Bool :=
(((
(m_impl_IsRigid g).bind (fun r5 =>
(bif r5 then
(m_impl_FragileBars g).bind (fun r7 =>
 some ((r7.length : Int) == 0)
)
 else
 some false
)
)
) : Option Bool).bind (fun j4 =>
 some j4
))

def m_laws_FnExactIsRedundantlyRigid (aG : TGraph) : Option Bool :=
(m_laws_szGraph aG 1048576).bind (fun r1 =>
(bif (decide (r1 < 0)) then
 some true
 else
(m_laws_toGraph aG).bind (fun r3 =>
(m_spec_IsRedundantlyRigid r3).bind (fun r4 =>
(m_laws_toGraph aG).bind (fun r5 =>
(m_impl_IsRedundantlyRigid r5).bind (fun r6 =>
(bif (r6 != r4) then
 some false
 else
(m_laws_toGraph aG).bind (fun r8 =>
(m_laws_eqGraph r5 r8).bind (fun r9 =>
(bif (!r9) then
 some false
 else
 some true
)
)
)
)
)
)
)
)
)
)

def m_spec_l2Has_L1 (l : (List Int)) (x : Int) (s1 : Int) : Option (Int ⊕ (Unit ⊕ Bool)) :=
(bif (decide (s1 < (l.length : Int))) then
(idx l s1).bind (fun x10 =>
(bif (x10 == x) then
 some (.inr (.inr true))
 else
 some (.inl (w64 (s1 + 1)))
)
)
 else
 some (.inr (.inl ()))
)
def m_spec_l2Has (l : (List Int)) (x : Int) : Option Bool :=
((loopM (m_spec_l2Has_L1 l x) BIG 0).bind (Sum.elim (fun b8 => (
 some false
)) (fun r => some r)))

def m_spec_OnlyBars_L1 (g : TGraph) (keep : (List Int)) (s1 : (Int × (List TBar))) : Option ((Int × (List TBar)) ⊕ (List TBar)) :=
(bif (decide (s1.1 < (g.Bars.length : Int))) then
(m_spec_l2Has keep s1.1).bind (fun r22 =>
(((
(bif r22 then
(idx g.Bars s1.1).bind (fun x28 =>
(lim (s1.2.length + [x28].length)).bind (fun u29 =>
 some (s1.2 ++ [x28])
)
)
 else
 some s1.2
)
) : Option (List TBar)).bind (fun j26 =>
 some (.inl ((w64 (s1.1 + 1)), j26))
))
)
 else
 some (.inr s1.2)
)
def m_spec_OnlyBars (g : TGraph) (keep : (List Int)) : Option TGraph :=
((loopM (m_spec_OnlyBars_L1 g keep) BIG (0, ([] : List TBar))).bind (fun b20 =>
 some (TGraph.mk g.Points b20)
))

def m_spec_IsStillRigid_L1 (g : TGraph) (broken : (List Int)) (s1 : (Int × (List Int))) : Option ((Int × (List Int)) ⊕ (List Int)) :=
(bif (decide (s1.1 < (g.Bars.length : Int))) then
(m_spec_l2Has broken s1.1).bind (fun r18 =>
(((
(bif (!r18) then
(lim (s1.2.length + ([s1.1] : List Int).length)).bind (fun u23 =>
 some (s1.2 ++ ([s1.1] : List Int))
)
 else
 some s1.2
)
) : Option (List Int)).bind (fun j21 =>
 some (.inl ((w64 (s1.1 + 1)), j21))
))
)
 else
 some (.inr s1.2)
)
def m_spec_IsStillRigid (g : TGraph) (broken : (List Int)) : Option Bool :=
((loopM (m_spec_IsStillRigid_L1 g broken) BIG (0, ([] : List Int))).bind (fun b16 =>
(((
(m_spec_IsGraph g).bind (fun r29 =>
(bif r29 then
(m_spec_OnlyBars g b16).bind (fun r31 =>
(m_spec_IsRigid r31).bind (fun r32 =>
 some r32
)
)
 else
 some false
)
)
) : Option Bool).bind (fun j28 =>
 some j28
))
))

def m_slices_Index_L1 (s : (List Int)) (v : Int) (s1 : Int) : Option (Int ⊕ (Unit ⊕ Int)) :=
(bif (decide (s1 < (s.length : Int))) then
(idx s s1).bind (fun x10 =>
(bif (v == x10) then
 some (.inr (.inr s1))
 else
 some (.inl (w64 (s1 + 1)))
)
)
 else
 some (.inr (.inl ()))
)
def m_slices_Index (s : (List Int)) (v : Int) : Option Int :=
((loopM (m_slices_Index_L1 s v) BIG 0).bind (Sum.elim (fun b8 => (
 some (-1)
)) (fun r => some r)))

def m_slices_Contains (s : (List Int)) (v : Int) : Option Bool :=
(m_slices_Index s v).bind (fun r1 =>
 some (decide (0 ≤ r1))
)

def m_impl_OnlyBars_L1 (g : TGraph) (keep : (List Int)) (s1 : (Int × (List TBar))) : Option ((Int × (List TBar)) ⊕ (List TBar)) :=
(bif (decide (s1.1 < (g.Bars.length : Int))) then
(idx g.Bars s1.1).bind (fun x20 =>
(m_slices_Contains keep s1.1).bind (fun r21 =>
(((
(bif r21 then
(lim (s1.2.length + [x20].length)).bind (fun u26 =>
 some (s1.2 ++ [x20])
)
 else
 some s1.2
)
) : Option (List TBar)).bind (fun j24 =>
 some (.inl ((w64 (s1.1 + 1)), j24))
))
)
)
 else
 some (.inr s1.2)
)
def m_impl_OnlyBars (g : TGraph) (keep : (List Int)) : Option TGraph :=
((loopM (m_impl_OnlyBars_L1 g keep) BIG (0, ([] : List TBar))).bind (fun b18 =>
 some (TGraph.mk g.Points b18)
))

def m_impl_IsStillRigid_L1 (g : TGraph) (broken : (List Int)) (s1 : (Int × (List Int))) : Option ((Int × (List Int)) ⊕ (List Int)) :=
(bif (decide (s1.1 < (g.Bars.length : Int))) then
(m_slices_Contains broken s1.1).bind (fun r18 =>
(((
(bif (!r18) then
(lim (s1.2.length + ([s1.1] : List Int).length)).bind (fun u23 =>
 some (s1.2 ++ ([s1.1] : List Int))
)
 else
 some s1.2
)
) : Option (List Int)).bind (fun j21 =>
 some (.inl ((w64 (s1.1 + 1)), j21))
))
)
 else
 some (.inr s1.2)
)
def m_impl_IsStillRigid (g : TGraph) (broken : (List Int)) : Option Bool :=
((loopM (m_impl_IsStillRigid_L1 g broken) BIG (0, ([] : List Int))).bind (fun b16 =>
(((
(m_impl_IsGraph g).bind (fun r29 =>
(bif r29 then
(m_impl_OnlyBars g b16).bind (fun r31 =>
(m_impl_IsRigid r31).bind (fun r32 =>
 some r32
)
)
 else
 some false
)
)
) : Option Bool).bind (fun j28 =>
 some j28
))
))

def m_laws_FnExactIsStillRigid (aG : TGraph) (aBroken : (List Int)) : Option Bool :=
(bif (decide (1048576 < (aBroken.length : Int))) then
 some true
 else
(m_laws_szGraph aG 1048576).bind (fun r2 =>
(bif (decide (r2 < 0)) then
 some true
 else
(m_laws_toGraph aG).bind (fun r4 =>
(m_laws_toIntS aBroken).bind (fun r5 =>
(m_spec_IsStillRigid r4 r5).bind (fun r6 =>
(m_laws_toGraph aG).bind (fun r7 =>
(m_laws_toIntS aBroken).bind (fun r8 =>
(m_impl_IsStillRigid r7 r8).bind (fun r9 =>
(bif (r9 != r6) then
 some false
 else
(m_laws_toGraph aG).bind (fun r11 =>
(m_laws_eqGraph r7 r11).bind (fun r12 =>
(bif (!r12) then
 some false
 else
(m_laws_toIntS aBroken).bind (fun r14 =>
(m_laws_eqIntS r8 r14).bind (fun r15 =>
(bif (!r15) then
 some false
 else
 some true
)
)
)
)
)
)
)
)
)
)
)
)
)
)
)
)

end Go.Proofs.Ytoedmjkipecloaa
