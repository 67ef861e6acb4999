/- The types of the models, their encoders, and the models of the functions. Written by a program of mine. -/
import Derived.Test.YtfiiebikkimjbaaFw24
set_option linter.unusedVariables false
set_option linter.unusedSimpArgs false
set_option linter.unnecessarySimpa false
open Go Go.Fw
namespace Go.Proofs.Ytfiiebikkimjbaa
structure TBar where
  mk ::
  A : Int
  B : Int
structure TGraph where
  mk ::
  Points : Int
  Bars : (List TBar)
structure TPlace where
  mk ::
  X : Int
  Y : Int
structure TFramework where
  mk ::
  Graph : TGraph
  Places : (List TPlace)
structure TPebbles where
  mk ::
  Free : (List Int)
  Tails : (List Int)
  Placed : (List Int)
structure TTensegrity where
  mk ::
  Framework : TFramework
  Kinds : (List Int)
structure Tl1Cur where
  mk ::
  b : (List Int)
  i : Int
  h : Int
def encTBar (a : TBar) : List PV := [.sc (.int .i64 a.A), .sc (.int .i64 a.B)]
theorem perm_encTBar (a : TBar) : PermPL (encTBar a) := ⟨.sc, .sc, trivial⟩
theorem qw_encTBar (a : TBar) : QWL (encTBar a) (encTBar a) := ⟨.sc, .sc, trivial⟩
def encInt (a : Int) : List PV := [.sc (.int .i64 a)]
theorem perm_encInt (a : Int) : PermPL (encInt a) := ⟨.sc, trivial⟩
theorem qw_encInt (a : Int) : QWL (encInt a) (encInt a) := ⟨.sc, trivial⟩
def encLInt (q : Bool) (a : (List Int)) : List PV := [.xs q (a.map encInt)]
theorem perm_encLInt (a : (List Int)) : PermPL (encLInt true a) := ⟨permP_xs perm_encInt _, trivial⟩
theorem qw_encLInt (a : (List Int)) : QWL (encLInt true a) (encLInt false a) := ⟨QW.xsm qw_encInt (fun h => by cases h) _, trivial⟩
def encBool (a : Bool) : List PV := [.sc (.bool a)]
theorem perm_encBool (a : Bool) : PermPL (encBool a) := ⟨.sc, trivial⟩
theorem qw_encBool (a : Bool) : QWL (encBool a) (encBool a) := ⟨.sc, trivial⟩
def encTPlace (a : TPlace) : List PV := [.sc (.int .i64 a.X), .sc (.int .i64 a.Y)]
theorem perm_encTPlace (a : TPlace) : PermPL (encTPlace a) := ⟨.sc, .sc, trivial⟩
theorem qw_encTPlace (a : TPlace) : QWL (encTPlace a) (encTPlace a) := ⟨.sc, .sc, trivial⟩
def encInt_u8 (a : Int) : List PV := [.sc (.int .u8 a)]
theorem perm_encInt_u8 (a : Int) : PermPL (encInt_u8 a) := ⟨.sc, trivial⟩
theorem qw_encInt_u8 (a : Int) : QWL (encInt_u8 a) (encInt_u8 a) := ⟨.sc, trivial⟩
def m_laws_szBarS (a : (List TBar)) (leftV : Int) : Option Int :=
(bif (decide ((w64 (leftV - (a.length : Int))) < 0)) then
 some (-1)
 else
 some (w64 (leftV - (a.length : Int)))
)

def m_laws_szGraph (a : TGraph) (leftV : Int) : Option Int :=
(m_laws_szBarS a.Bars leftV).bind (fun r1 =>
(bif (decide (r1 < 0)) then
 some (-1)
 else
 some r1
)
)

def m_laws_toBar (a : TBar) : Option TBar :=
 some a

def m_laws_toBarS_L1 (a : (List TBar)) (s2 : (Int × (List TBar))) : Option ((Int × (List TBar)) ⊕ (List TBar)) :=
(bif (decide (s2.1 < (a.length : Int))) then
(idx a s2.1).bind (fun x13 =>
(m_laws_toBar x13).bind (fun r14 =>
(idx s2.2 s2.1).bind (fun x15 =>
 some (.inl ((w64 (s2.1 + 1)), (s2.2.set s2.1.toNat r14)))
)
)
)
 else
 some (.inr s2.2)
)
def m_laws_toBarS (a : (List TBar)) : Option (List TBar) :=
(lenOk (a.length : Int)).bind (fun u1 =>
((loopM (m_laws_toBarS_L1 a) BIG (0, (List.replicate (a.length : Int).toNat (TBar.mk (0 : Int) (0 : Int))))).bind (fun b11 =>
 some b11
))
)

def m_laws_toGraph (a : TGraph) : Option TGraph :=
(m_laws_toBarS a.Bars).bind (fun r1 =>
 some (TGraph.mk a.Points r1)
)

def m_spec_l1In (x : Int) (low : Int) (high : Int) : Option Bool :=
(((
(bif (decide (low ≤ x)) then
 some (decide (x ≤ high))
 else
 some false
)
) : Option Bool).bind (fun j2 =>
 some j2
))

def m_spec_l2After (a : TBar) (b : TBar) : Option Bool :=
(((
(bif (decide (a.A < b.A)) then
 some true
 else
(bif (a.A == b.A) then
 some (decide (a.B ≤ b.B))
 else
 some false
)
)
) : Option Bool).bind (fun j3 =>
 some j3
))

def m_spec_IsGraph_L1 (g : TGraph) (s7 : Int) : Option (Int ⊕ (Unit ⊕ Bool)) :=
(bif (decide (s7 < (g.Bars.length : Int))) then
(idx g.Bars s7).bind (fun x42 =>
(((
(bif (decide (x42.A < 0)) then
 some true
 else
(bif (decide (x42.B ≤ x42.A)) then
 some true
 else
(bif (decide (g.Points ≤ x42.B)) then
 some true
 else
(bif (decide (0 < s7)) then
(idx g.Bars (w64 (s7 - 1))).bind (fun x54 =>
(m_spec_l2After x54 x42).bind (fun r55 =>
 some (!r55)
)
)
 else
 some false
)
)
)
)
) : Option Bool).bind (fun j49 =>
(bif j49 then
 some (.inr (.inr false))
 else
 some (.inl (w64 (s7 + 1)))
)
))
)
 else
 some (.inr (.inl ()))
)
def m_spec_IsGraph (g : TGraph) : Option Bool :=
(((
(m_spec_l1In g.Points 1 8).bind (fun r4 =>
(bif (!r4) then
 some true
 else
 some (decide (24 < (g.Bars.length : Int)))
)
)
) : Option Bool).bind (fun j3 =>
(bif j3 then
 some false
 else
((loopM (m_spec_IsGraph_L1 g) BIG 0).bind (Sum.elim (fun b40 => (
 some true
)) (fun r => some r)))
)
))

def m_spec_l3Set_L1 (n : Int) (mask : Int) (s1 : (Int × (List Int))) : Option ((Int × (List Int)) ⊕ (List Int)) :=
(bif (decide (s1.1 < n)) then
(nn s1.1).bind (fun u17 =>
(((
(bif ((bits .and .i64 (shrI mask s1.1) 1) == 1) then
(lim (s1.2.length + ([s1.1] : List Int).length)).bind (fun u22 =>
 some (s1.2 ++ ([s1.1] : List Int))
)
 else
 some s1.2
)
) : Option (List Int)).bind (fun j20 =>
 some (.inl ((w64 (s1.1 + 1)), j20))
))
)
 else
 some (.inr s1.2)
)
def m_spec_l3Set (n : Int) (mask : Int) : Option (List Int) :=
((loopM (m_spec_l3Set_L1 n mask) BIG (0, ([] : List Int))).bind (fun b15 =>
 some b15
))

def m_spec_l2Has_L1 (l : (List Int)) (x : Int) (s1 : Int) : Option (Int ⊕ (Unit ⊕ Bool)) :=
(bif (decide (s1 < (l.length : Int))) then
(idx l s1).bind (fun x10 =>
(bif (x10 == x) then
 some (.inr (.inr true))
 else
 some (.inl (w64 (s1 + 1)))
)
)
 else
 some (.inr (.inl ()))
)
def m_spec_l2Has (l : (List Int)) (x : Int) : Option Bool :=
((loopM (m_spec_l2Has_L1 l x) BIG 0).bind (Sum.elim (fun b8 => (
 some false
)) (fun r => some r)))

def m_spec_WithoutPoints_L1 (setV : (List Int)) (s2 : (Int × Int × (List Int))) : Option ((Int × Int × (List Int)) ⊕ (Int × (List Int))) :=
(bif (decide (s2.2.1 < (s2.2.2.length : Int))) then
(idx s2.2.2 s2.2.1).bind (fun x21 =>
(m_spec_l2Has setV s2.2.1).bind (fun r22 =>
(((
(bif (!r22) then
(idx (s2.2.2.set s2.2.1.toNat (-1)) s2.2.1).bind (fun x27 =>
 some ((w64 (s2.1 + 1)), ((s2.2.2.set s2.2.1.toNat (-1)).set s2.2.1.toNat s2.1))
)
 else
 some (s2.1, (s2.2.2.set s2.2.1.toNat (-1)))
)
) : Option (Int × (List Int))).bind (fun j25 =>
 some (.inl (j25.1, (w64 (s2.2.1 + 1)), j25.2))
))
)
)
 else
 some (.inr (s2.1, s2.2.2))
)
def m_spec_WithoutPoints_L2 (g : TGraph) (b19 : (Int × (List Int))) (s28 : (Int × (List TBar))) : Option ((Int × (List TBar)) ⊕ ((List TBar) × Int)) :=
(((
(bif (decide (s28.1 < (g.Bars.length : Int))) then
(m_spec_IsGraph g).bind (fun r70 =>
 some r70
)
 else
 some false
)
) : Option Bool).bind (fun j68 =>
(bif j68 then
(idx g.Bars s28.1).bind (fun x72 =>
(idx b19.2 x72.A).bind (fun x73 =>
(idx g.Bars s28.1).bind (fun x74 =>
(idx b19.2 x74.B).bind (fun x75 =>
(((
(bif (decide (0 ≤ x73)) then
 some (decide (0 ≤ x75))
 else
 some false
)
) : Option Bool).bind (fun j77 =>
(((
(bif j77 then
(lim (s28.2.length + [(TBar.mk x73 x75)].length)).bind (fun u83 =>
 some (s28.2 ++ [(TBar.mk x73 x75)])
)
 else
 some s28.2
)
) : Option (List TBar)).bind (fun j81 =>
 some (.inl ((w64 (s28.1 + 1)), j81))
))
))
)
)
)
)
 else
 some (.inr (s28.2, b19.1))
)
))
def m_spec_WithoutPoints (g : TGraph) (setV : (List Int)) : Option TGraph :=
(lenOk (if 0 < (if g.Points < 8 then g.Points else 8) then (if g.Points < 8 then g.Points else 8) else 0)).bind (fun u1 =>
((loopM (m_spec_WithoutPoints_L1 setV) BIG (0, 0, (List.replicate (if 0 < (if g.Points < 8 then g.Points else 8) then (if g.Points < 8 then g.Points else 8) else 0).toNat (0 : Int)))).bind (fun b19 =>
((loopM (m_spec_WithoutPoints_L2 g b19) BIG (0, ([] : List TBar))).bind (fun b65 =>
 some (TGraph.mk b65.2 b65.1)
))
))
)

def m_spec_ReachOf_L4 (g : TGraph) (s11 : (Int × (List Bool))) (s112 : (Int × (List Bool))) : Option ((Int × (List Bool)) ⊕ (Int × (List Bool))) :=
(bif (decide (s112.1 < (g.Bars.length : Int))) then
(((
(idx g.Bars s112.1).bind (fun x167 =>
(idx s112.2 x167.A).bind (fun x168 =>
(bif x168 then
 some true
 else
(idx g.Bars s112.1).bind (fun x170 =>
(idx s112.2 x170.B).bind (fun x171 =>
 some x171
)
)
)
)
)
) : Option Bool).bind (fun j166 =>
(((
(bif j166 then
(idx g.Bars s112.1).bind (fun x179 =>
(idx s112.2 x179.A).bind (fun x180 =>
(idx g.Bars s112.1).bind (fun x181 =>
(idx (s112.2.set x179.A.toNat true) x181.B).bind (fun x182 =>
 some ((s112.2.set x179.A.toNat true).set x181.B.toNat true)
)
)
)
)
 else
 some s112.2
)
) : Option (List Bool)).bind (fun j177 =>
 some (.inl ((w64 (s112.1 + 1)), j177))
))
))
 else
 some (.inr (s11.1, s112.2))
)
def m_spec_ReachOf_L3 (g : TGraph) (s11 : (Int × (List Bool))) : Option ((Int × (List Bool)) ⊕ (List Bool)) :=
(bif (decide (s11.1 < g.Points)) then
((loopM (m_spec_ReachOf_L4 g s11) BIG (0, s11.2)).bind (fun b159 =>
 some (.inl ((w64 (b159.1 + 1)), b159.2))
))
 else
 some (.inr s11.2)
)
def m_spec_ReachOf_L5 (g : TGraph) (b110 : (List Bool)) (s183 : (Int × (List Int))) : Option ((Int × (List Int)) ⊕ (List Int)) :=
(bif (decide (s183.1 < g.Points)) then
(idx b110 s183.1).bind (fun x200 =>
(((
(bif x200 then
(lim (s183.2.length + ([s183.1] : List Int).length)).bind (fun u205 =>
 some (s183.2 ++ ([s183.1] : List Int))
)
 else
 some s183.2
)
) : Option (List Int)).bind (fun j203 =>
 some (.inl ((w64 (s183.1 + 1)), j203))
))
)
 else
 some (.inr s183.2)
)
def m_spec_ReachOf (g : TGraph) (v : Int) : Option (List Int) :=
(((
(m_spec_IsGraph g).bind (fun r5 =>
(bif (!r5) then
 some true
 else
(bif (decide (v < 0)) then
 some true
 else
 some (decide (g.Points ≤ v))
)
)
)
) : Option Bool).bind (fun j4 =>
(bif j4 then
 some ([] : List Int)
 else
(lenOk g.Points).bind (fun u9 =>
(idx (List.replicate g.Points.toNat false) v).bind (fun x10 =>
((loopM (m_spec_ReachOf_L3 g) BIG (0, ((List.replicate g.Points.toNat false).set v.toNat true))).bind (fun b110 =>
((loopM (m_spec_ReachOf_L5 g b110) BIG (0, ([] : List Int))).bind (fun b198 =>
 some b198
))
))
)
)
)
))

def m_spec_IsConnected (g : TGraph) : Option Bool :=
(((
(m_spec_IsGraph g).bind (fun r5 =>
(bif r5 then
(m_spec_ReachOf g 0).bind (fun r7 =>
 some ((r7.length : Int) == g.Points)
)
 else
 some false
)
)
) : Option Bool).bind (fun j4 =>
 some j4
))

def m_spec_CutSets_L1 (g : TGraph) (k : Int) (s9 : (Int × (List (List Int)))) : Option ((Int × (List (List Int))) ⊕ (List (List Int))) :=
(nn g.Points).bind (fun u45 =>
(bif (decide (s9.1 < (shlI 1 g.Points))) then
(m_spec_l3Set g.Points s9.1).bind (fun r47 =>
(((
(bif ((r47.length : Int) == k) then
(bif (decide (2 ≤ (w64 (g.Points - k)))) then
(m_spec_WithoutPoints g r47).bind (fun r55 =>
(m_spec_IsConnected r55).bind (fun r56 =>
 some (!r56)
)
)
 else
 some false
)
 else
 some false
)
) : Option Bool).bind (fun j52 =>
(((
(bif j52 then
(lim (s9.2.length + [r47].length)).bind (fun u61 =>
 some (s9.2 ++ [r47])
)
 else
 some s9.2
)
) : Option (List (List Int))).bind (fun j59 =>
 some (.inl ((w64 (s9.1 + 1)), j59))
))
))
)
 else
 some (.inr s9.2)
)
)
def m_spec_CutSets (g : TGraph) (k : Int) : Option (List (List Int)) :=
(((
(m_spec_IsGraph g).bind (fun r5 =>
(bif (!r5) then
 some true
 else
(m_spec_l1In k 0 3).bind (fun r7 =>
 some (!r7)
)
)
)
) : Option Bool).bind (fun j4 =>
(bif j4 then
 some ([] : List (List Int))
 else
((loopM (m_spec_CutSets_L1 g k) BIG (0, ([] : List (List Int)))).bind (fun b44 =>
 some b44
))
)
))

def m_impl_within (x : Int) (lo : Int) (hi : Int) : Option Bool :=
(((
(bif (decide (lo ≤ x)) then
 some (decide (x ≤ hi))
 else
 some false
)
) : Option Bool).bind (fun j2 =>
 some j2
))

def m_impl_compareInts (a : Int) (b : Int) : Option Int :=
(bif (decide (a < b)) then
 some (-1)
 else
(bif (decide (b < a)) then
 some 1
 else
 some 0
)
)

def m_impl_compareBars (x : TBar) (y : TBar) : Option Int :=
(m_impl_compareInts x.A y.A).bind (fun r1 =>
(bif (r1 != 0) then
 some r1
 else
(m_impl_compareInts x.B y.B).bind (fun r3 =>
 some r3
)
)
)

def m_impl_IsGraph_L1 (g : TGraph) (s7 : Int) : Option (Int ⊕ (Unit ⊕ Bool)) :=
(bif (decide (s7 < (g.Bars.length : Int))) then
(idx g.Bars s7).bind (fun x42 =>
(((
(bif (decide (x42.A < 0)) then
 some true
 else
(bif (decide (x42.B ≤ x42.A)) then
 some true
 else
(bif (decide (g.Points ≤ x42.B)) then
 some true
 else
(bif (decide (0 < s7)) then
(idx g.Bars (w64 (s7 - 1))).bind (fun x54 =>
(m_impl_compareBars x54 x42).bind (fun r55 =>
 some (decide (0 < r55))
)
)
 else
 some false
)
)
)
)
) : Option Bool).bind (fun j49 =>
(bif j49 then
 some (.inr (.inr false))
 else
 some (.inl (w64 (s7 + 1)))
)
))
)
 else
 some (.inr (.inl ()))
)
def m_impl_IsGraph (g : TGraph) : Option Bool :=
(((
(m_impl_within g.Points 1 8).bind (fun r4 =>
(bif (!r4) then
 some true
 else
 some (decide (24 < (g.Bars.length : Int)))
)
)
) : Option Bool).bind (fun j3 =>
(bif j3 then
 some false
 else
((loopM (m_impl_IsGraph_L1 g) BIG 0).bind (Sum.elim (fun b40 => (
 some true
)) (fun r => some r)))
)
))

def m_impl_setOf_L1 (mask : Int) (n : Int) (s1 : (Int × (List Int))) : Option ((Int × (List Int)) ⊕ (List Int)) :=
(bif (decide (s1.1 < n)) then
(nn s1.1).bind (fun u17 =>
(((
(bif ((bits .and .i64 (shrI mask s1.1) 1) == 1) then
(lim (s1.2.length + ([s1.1] : List Int).length)).bind (fun u22 =>
 some (s1.2 ++ ([s1.1] : List Int))
)
 else
 some s1.2
)
) : Option (List Int)).bind (fun j20 =>
 some (.inl ((w64 (s1.1 + 1)), j20))
))
)
 else
 some (.inr s1.2)
)
def m_impl_setOf (mask : Int) (n : Int) : Option (List Int) :=
((loopM (m_impl_setOf_L1 mask n) BIG (0, ([] : List Int))).bind (fun b15 =>
 some b15
))

def m_slices_Index_L1 (s : (List Int)) (v : Int) (s1 : Int) : Option (Int ⊕ (Unit ⊕ Int)) :=
(bif (decide (s1 < (s.length : Int))) then
(idx s s1).bind (fun x10 =>
(bif (v == x10) then
 some (.inr (.inr s1))
 else
 some (.inl (w64 (s1 + 1)))
)
)
 else
 some (.inr (.inl ()))
)
def m_slices_Index (s : (List Int)) (v : Int) : Option Int :=
((loopM (m_slices_Index_L1 s v) BIG 0).bind (Sum.elim (fun b8 => (
 some (-1)
)) (fun r => some r)))

def m_slices_Contains (s : (List Int)) (v : Int) : Option Bool :=
(m_slices_Index s v).bind (fun r1 =>
 some (decide (0 ≤ r1))
)

def m_impl_WithoutPoints_L1 (g : TGraph) (setV : (List Int)) (s2 : (Int × (List Int) × Int)) : Option ((Int × (List Int) × Int) ⊕ ((List Int) × Int)) :=
(bif (decide (s2.1 < ((List.replicate (if 0 < (if 8 < g.Points then 8 else g.Points) then (if 8 < g.Points then 8 else g.Points) else 0).toNat (0 : Int)).length : Int))) then
(idx s2.2.1 s2.1).bind (fun x21 =>
(m_slices_Contains setV s2.1).bind (fun r22 =>
(((
(bif (!r22) then
(idx (s2.2.1.set s2.1.toNat (-1)) s2.1).bind (fun x27 =>
 some (((s2.2.1.set s2.1.toNat (-1)).set s2.1.toNat s2.2.2), (w64 (s2.2.2 + 1)))
)
 else
 some ((s2.2.1.set s2.1.toNat (-1)), s2.2.2)
)
) : Option ((List Int) × Int)).bind (fun j25 =>
 some (.inl ((w64 (s2.1 + 1)), j25.1, j25.2))
))
)
)
 else
 some (.inr (s2.2.1, s2.2.2))
)
def m_impl_WithoutPoints_L2 (g : TGraph) (b19 : ((List Int) × Int)) (s30 : (Int × (List TBar))) : Option ((Int × (List TBar)) ⊕ (Int × (List TBar))) :=
(bif (decide (s30.1 < (g.Bars.length : Int))) then
(idx g.Bars s30.1).bind (fun x57 =>
(idx b19.1 x57.A).bind (fun x58 =>
(idx b19.1 x57.B).bind (fun x59 =>
(((
(bif (decide (0 ≤ x58)) then
 some (decide (0 ≤ x59))
 else
 some false
)
) : Option Bool).bind (fun j61 =>
(((
(bif j61 then
(lim (s30.2.length + [(TBar.mk x58 x59)].length)).bind (fun u67 =>
 some (s30.2 ++ [(TBar.mk x58 x59)])
)
 else
 some s30.2
)
) : Option (List TBar)).bind (fun j65 =>
 some (.inl ((w64 (s30.1 + 1)), j65))
))
))
)
)
)
 else
 some (.inr (b19.2, s30.2))
)
def m_impl_WithoutPoints (g : TGraph) (setV : (List Int)) : Option TGraph :=
(lenOk (if 0 < (if 8 < g.Points then 8 else g.Points) then (if 8 < g.Points then 8 else g.Points) else 0)).bind (fun u1 =>
((loopM (m_impl_WithoutPoints_L1 g setV) BIG (0, (List.replicate (if 0 < (if 8 < g.Points then 8 else g.Points) then (if 8 < g.Points then 8 else g.Points) else 0).toNat (0 : Int)), 0)).bind (fun b19 =>
(m_impl_IsGraph g).bind (fun r28 =>
(bif (!r28) then
 some (TGraph.mk b19.2 ([] : List TBar))
 else
((loopM (m_impl_WithoutPoints_L2 g b19) BIG (0, ([] : List TBar))).bind (fun b55 =>
 some (TGraph.mk b55.1 b55.2)
))
)
)
))
)

def m_impl_Graph_has (g : TGraph) (v : Int) : Option Bool :=
(m_impl_within v 0 (w64 (g.Points - 1))).bind (fun r1 =>
 some r1
)

def m_impl_Graph_reach_L4 (g : TGraph) (s56 : (Bool × Int × (List Bool))) : Option ((Bool × Int × (List Bool)) ⊕ (Bool × (List Bool))) :=
(bif (decide (s56.2.1 < (g.Bars.length : Int))) then
(idx g.Bars s56.2.1).bind (fun x81 =>
(idx s56.2.2 x81.A).bind (fun x82 =>
(idx s56.2.2 x81.B).bind (fun x83 =>
(((
(bif (x82 != x83) then
(idx s56.2.2 x81.A).bind (fun x89 =>
(idx (s56.2.2.set x81.A.toNat true) x81.B).bind (fun x90 =>
 some (true, ((s56.2.2.set x81.A.toNat true).set x81.B.toNat true))
)
)
 else
 some (s56.1, s56.2.2)
)
) : Option (Bool × (List Bool))).bind (fun j87 =>
 some (.inl (j87.1, (w64 (s56.2.1 + 1)), j87.2))
))
)
)
)
 else
 some (.inr (s56.1, s56.2.2))
)
def m_impl_Graph_reach_L3 (g : TGraph) (s3 : (Bool × (List Bool))) : Option ((Bool × (List Bool)) ⊕ (List Bool)) :=
(bif s3.1 then
((loopM (m_impl_Graph_reach_L4 g) BIG (false, 0, s3.2)).bind (fun b79 =>
 some (.inl (b79.1, b79.2))
))
 else
 some (.inr s3.2)
)
def m_impl_Graph_reach (g : TGraph) (v : Int) : Option (List Bool) :=
(lenOk g.Points).bind (fun u1 =>
(idx (List.replicate g.Points.toNat false) v).bind (fun x2 =>
((loopM (m_impl_Graph_reach_L3 g) BIG (true, ((List.replicate g.Points.toNat false).set v.toNat true))).bind (fun b54 =>
 some b54
))
)
)

def m_impl_ReachOf_L1 (r9 : (List Bool)) (s10 : (Int × (List Int))) : Option ((Int × (List Int)) ⊕ (List Int)) :=
(bif (decide (s10.1 < (r9.length : Int))) then
(idx r9 s10.1).bind (fun x27 =>
(((
(bif x27 then
(lim (s10.2.length + ([s10.1] : List Int).length)).bind (fun u32 =>
 some (s10.2 ++ ([s10.1] : List Int))
)
 else
 some s10.2
)
) : Option (List Int)).bind (fun j30 =>
 some (.inl ((w64 (s10.1 + 1)), j30))
))
)
 else
 some (.inr s10.2)
)
def m_impl_ReachOf (g : TGraph) (v : Int) : Option (List Int) :=
(((
(m_impl_IsGraph g).bind (fun r5 =>
(bif (!r5) then
 some true
 else
(m_impl_Graph_has g v).bind (fun r7 =>
 some (!r7)
)
)
)
) : Option Bool).bind (fun j4 =>
(bif j4 then
 some ([] : List Int)
 else
(m_impl_Graph_reach g v).bind (fun r9 =>
((loopM (m_impl_ReachOf_L1 r9) BIG (0, ([] : List Int))).bind (fun b25 =>
 some b25
))
)
)
))

def m_impl_IsConnected (g : TGraph) : Option Bool :=
(((
(m_impl_IsGraph g).bind (fun r5 =>
(bif r5 then
(m_impl_ReachOf g 0).bind (fun r7 =>
 some ((r7.length : Int) == g.Points)
)
 else
 some false
)
)
) : Option Bool).bind (fun j4 =>
 some j4
))

def m_impl_CutSets_L1 (g : TGraph) (k : Int) (s10 : (Int × (List (List Int)))) : Option ((Int × (List (List Int))) ⊕ (List (List Int))) :=
(bif (decide (s10.1 < (shlI 1 g.Points))) then
(m_impl_setOf s10.1 g.Points).bind (fun r41 =>
(bif ((r41.length : Int) != k) then
 some (.inl ((w64 (s10.1 + 1)), s10.2))
 else
(m_impl_WithoutPoints g r41).bind (fun r43 =>
(((
(bif (decide (2 ≤ r43.Points)) then
(m_impl_IsConnected r43).bind (fun r48 =>
 some (!r48)
)
 else
 some false
)
) : Option Bool).bind (fun j46 =>
(((
(bif j46 then
(lim (s10.2.length + 1)).bind (fun u53 =>
 some (s10.2 ++ [r41])
)
 else
 some s10.2
)
) : Option (List (List Int))).bind (fun j51 =>
 some (.inl ((w64 (s10.1 + 1)), j51))
))
))
)
)
)
 else
 some (.inr s10.2)
)
def m_impl_CutSets (g : TGraph) (k : Int) : Option (List (List Int)) :=
(((
(m_impl_IsGraph g).bind (fun r5 =>
(bif (!r5) then
 some true
 else
(m_impl_within k 0 3).bind (fun r7 =>
 some (!r7)
)
)
)
) : Option Bool).bind (fun j4 =>
(bif j4 then
 some ([] : List (List Int))
 else
(nn g.Points).bind (fun u9 =>
((loopM (m_impl_CutSets_L1 g k) BIG (0, ([] : List (List Int)))).bind (fun b39 =>
 some b39
))
)
)
))

def m_laws_eqIntS_L1 (a : (List Int)) (b : (List Int)) (s2 : Int) : Option (Int ⊕ (Unit ⊕ Bool)) :=
(bif (decide (s2 < (a.length : Int))) then
(idx a s2).bind (fun x13 =>
(idx b s2).bind (fun x14 =>
(bif (x13 != x14) then
 some (.inr (.inr false))
 else
 some (.inl (w64 (s2 + 1)))
)
)
)
 else
 some (.inr (.inl ()))
)
def m_laws_eqIntS (a : (List Int)) (b : (List Int)) : Option Bool :=
(bif ((a.length : Int) != (b.length : Int)) then
 some false
 else
((loopM (m_laws_eqIntS_L1 a b) BIG 0).bind (Sum.elim (fun b11 => (
 some true
)) (fun r => some r)))
)

def m_laws_eqIntSS_L1 (a : (List (List Int))) (b : (List (List Int))) (s2 : Int) : Option (Int ⊕ (Unit ⊕ Bool)) :=
(bif (decide (s2 < (a.length : Int))) then
(idx a s2).bind (fun x15 =>
(idx b s2).bind (fun x16 =>
(m_laws_eqIntS x15 x16).bind (fun r17 =>
(bif (!r17) then
 some (.inr (.inr false))
 else
 some (.inl (w64 (s2 + 1)))
)
)
)
)
 else
 some (.inr (.inl ()))
)
def m_laws_eqIntSS (a : (List (List Int))) (b : (List (List Int))) : Option Bool :=
(bif ((a.length : Int) != (b.length : Int)) then
 some false
 else
((loopM (m_laws_eqIntSS_L1 a b) BIG 0).bind (Sum.elim (fun b13 => (
 some true
)) (fun r => some r)))
)

def m_laws_eqBar (a : TBar) (b : TBar) : Option Bool :=
(bif (a.A != b.A) then
 some false
 else
(bif (a.B != b.B) then
 some false
 else
 some true
)
)

def m_laws_eqBarS_L1 (a : (List TBar)) (b : (List TBar)) (s2 : Int) : Option (Int ⊕ (Unit ⊕ Bool)) :=
(bif (decide (s2 < (a.length : Int))) then
(idx a s2).bind (fun x15 =>
(idx b s2).bind (fun x16 =>
(m_laws_eqBar x15 x16).bind (fun r17 =>
(bif (!r17) then
 some (.inr (.inr false))
 else
 some (.inl (w64 (s2 + 1)))
)
)
)
)
 else
 some (.inr (.inl ()))
)
def m_laws_eqBarS (a : (List TBar)) (b : (List TBar)) : Option Bool :=
(bif ((a.length : Int) != (b.length : Int)) then
 some false
 else
((loopM (m_laws_eqBarS_L1 a b) BIG 0).bind (Sum.elim (fun b13 => (
 some true
)) (fun r => some r)))
)

def m_laws_eqGraph (a : TGraph) (b : TGraph) : Option Bool :=
(bif (a.Points != b.Points) then
 some false
 else
(m_laws_eqBarS a.Bars b.Bars).bind (fun r2 =>
(bif (!r2) then
 some false
 else
 some true
)
)
)

def m_laws_markBarS_L1  (s1 : (Int × Int × (List TBar))) : Option ((Int × Int × (List TBar)) ⊕ (Int × (List TBar))) :=
(bif (decide (s1.2.1 < (s1.2.2.length : Int))) then
(idx s1.2.2 s1.2.1).bind (fun x10 =>
(idx (s1.2.2.set s1.2.1.toNat (TBar.mk s1.1 x10.B)) s1.2.1).bind (fun x11 =>
 some (.inl ((w64 ((w64 (s1.1 + 1)) + 1)), (w64 (s1.2.1 + 1)), ((s1.2.2.set s1.2.1.toNat (TBar.mk s1.1 x10.B)).set s1.2.1.toNat (TBar.mk x11.A (w64 (s1.1 + 1))))))
)
)
 else
 some (.inr (s1.1, s1.2.2))
)
def m_laws_markBarS (a : (List TBar)) (k : Int) : Option (Int × (List TBar)) :=
((loopM (m_laws_markBarS_L1) BIG (k, 0, a)).bind (fun b8 =>
 some (b8.1, b8.2)
))

def m_laws_markGraph (a : TGraph) (k : Int) : Option (Int × (List TBar)) :=
(m_laws_markBarS a.Bars k).bind (fun r1 =>
 some (r1.1, r1.2)
)

def m_laws_markIntS_L1  (s1 : (Int × Int × (List Int))) : Option ((Int × Int × (List Int)) ⊕ (Int × (List Int))) :=
(bif (decide (s1.2.1 < (s1.2.2.length : Int))) then
(idx s1.2.2 s1.2.1).bind (fun x8 =>
 some (.inl ((w64 (s1.1 + 1)), (w64 (s1.2.1 + 1)), (s1.2.2.set s1.2.1.toNat s1.1)))
)
 else
 some (.inr (s1.1, s1.2.2))
)
def m_laws_markIntS (a : (List Int)) (k : Int) : Option (Int × (List Int)) :=
((loopM (m_laws_markIntS_L1) BIG (k, 0, a)).bind (fun b6 =>
 some (b6.1, b6.2)
))

def m_laws_markIntSS_L1  (s1 : (Int × Int × (List (List Int)))) : Option ((Int × Int × (List (List Int))) ⊕ (Int × (List (List Int)))) :=
(bif (decide (s1.2.1 < (s1.2.2.length : Int))) then
(idx s1.2.2 s1.2.1).bind (fun x12 =>
(m_laws_markIntS x12 s1.1).bind (fun r13 =>
(same r13.2.length x12.length).bind (fun u14 =>
 some (.inl (r13.1, (w64 (s1.2.1 + 1)), (s1.2.2.set s1.2.1.toNat r13.2)))
))
)
 else
 some (.inr (s1.1, s1.2.2))
)
def m_laws_markIntSS (a : (List (List Int))) (k : Int) : Option (Int × (List (List Int))) :=
((loopM (m_laws_markIntSS_L1) BIG (k, 0, a)).bind (fun b10 =>
 some (b10.1, b10.2)
))

def m_laws_heldIntS_L1 (a : (List Int)) (s1 : (Int × Int)) : Option ((Int × Int) ⊕ (Int ⊕ Int)) :=
(bif (decide (s1.2 < (a.length : Int))) then
(idx a s1.2).bind (fun x10 =>
(bif (x10 != s1.1) then
 some (.inr (.inr (-1)))
 else
 some (.inl ((w64 (s1.1 + 1)), (w64 (s1.2 + 1))))
)
)
 else
 some (.inr (.inl s1.1))
)
def m_laws_heldIntS (a : (List Int)) (k : Int) : Option Int :=
((loopM (m_laws_heldIntS_L1 a) BIG (k, 0)).bind (Sum.elim (fun b8 => (
 some b8
)) (fun r => some r)))

def m_laws_heldIntSS_L1 (a : (List (List Int))) (s1 : (Int × Int)) : Option ((Int × Int) ⊕ (Int ⊕ Int)) :=
(bif (decide (s1.2 < (a.length : Int))) then
(idx a s1.2).bind (fun x12 =>
(m_laws_heldIntS x12 s1.1).bind (fun r13 =>
(bif (decide (r13 < 0)) then
 some (.inr (.inr (-1)))
 else
 some (.inl (r13, (w64 (s1.2 + 1))))
)
)
)
 else
 some (.inr (.inl s1.1))
)
def m_laws_heldIntSS (a : (List (List Int))) (k : Int) : Option Int :=
((loopM (m_laws_heldIntSS_L1 a) BIG (k, 0)).bind (Sum.elim (fun b10 => (
 some b10
)) (fun r => some r)))

def m_laws_FnExactCutSets (aG : TGraph) (aK : Int) : Option Bool :=
(m_laws_szGraph aG 1048576).bind (fun r1 =>
(bif (decide (r1 < 0)) then
 some true
 else
(m_laws_toGraph aG).bind (fun r3 =>
(m_spec_CutSets r3 aK).bind (fun r4 =>
(m_laws_toGraph aG).bind (fun r5 =>
(m_impl_CutSets r5 aK).bind (fun r6 =>
(m_laws_eqIntSS r6 r4).bind (fun r7 =>
(bif (!r7) then
 some false
 else
(m_laws_toGraph aG).bind (fun r9 =>
(m_laws_eqGraph r5 r9).bind (fun r10 =>
(bif (!r10) then
 some false
 else
(m_laws_markGraph r5 1).bind (fun r12 =>
(((
(bif (decide (r12.1 < 0)) then
 some true
 else
(m_laws_eqIntSS r6 r4).bind (fun r17 =>
 some (!r17)
)
)
) : Option Bool).bind (fun j15 =>
(bif j15 then
 some false
 else
(m_laws_markIntSS r6 1).bind (fun r19 =>
(same r6.length r19.2.length).bind (fun u20 =>
(m_laws_heldIntSS r19.2 1).bind (fun r21 =>
(bif (decide (r21 < 0)) then
 some false
 else
(bif (r21 != r19.1) then
 some false
 else
(m_laws_toGraph aG).bind (fun r24 =>
(m_impl_CutSets r24 aK).bind (fun r25 =>
(m_laws_eqIntSS r25 r4).bind (fun r26 =>
(bif (!r26) then
 some false
 else
(same r6.length r19.2.length).bind (fun u28 =>
(m_laws_heldIntSS r19.2 1).bind (fun r29 =>
(bif (decide (r29 < 0)) then
 some false
 else
(bif (r29 != r19.1) then
 some false
 else
 some true
)
)
))
)
)
)
)
)
)
))
)
)
))
)
)
)
)
)
)
)
)
)
)
)
)

def m_spec_HingePairs (g : TGraph) : Option (List (List Int)) :=
(m_spec_CutSets g 2).bind (fun r1 =>
 some r1
)

def m_impl_HingePairs (g : TGraph) : Option (List (List Int)) :=
(m_impl_CutSets g 2).bind (fun r1 =>
 some r1
)

def m_laws_FnExactHingePairs (aG : TGraph) : Option Bool :=
(m_laws_szGraph aG 1048576).bind (fun r1 =>
(bif (decide (r1 < 0)) then
 some true
 else
(m_laws_toGraph aG).bind (fun r3 =>
(m_spec_HingePairs r3).bind (fun r4 =>
(m_laws_toGraph aG).bind (fun r5 =>
(m_impl_HingePairs r5).bind (fun r6 =>
(m_laws_eqIntSS r6 r4).bind (fun r7 =>
(bif (!r7) then
 some false
 else
(m_laws_toGraph aG).bind (fun r9 =>
(m_laws_eqGraph r5 r9).bind (fun r10 =>
(bif (!r10) then
 some false
 else
(m_laws_markGraph r5 1).bind (fun r12 =>
(((
(bif (decide (r12.1 < 0)) then
 some true
 else
(m_laws_eqIntSS r6 r4).bind (fun r17 =>
 some (!r17)
)
)
) : Option Bool).bind (fun j15 =>
(bif j15 then
 some false
 else
(m_laws_markIntSS r6 1).bind (fun r19 =>
(same r6.length r19.2.length).bind (fun u20 =>
(m_laws_heldIntSS r19.2 1).bind (fun r21 =>
(bif (decide (r21 < 0)) then
 some false
 else
(bif (r21 != r19.1) then
 some false
 else
(m_laws_toGraph aG).bind (fun r24 =>
(m_impl_HingePairs r24).bind (fun r25 =>
(m_laws_eqIntSS r25 r4).bind (fun r26 =>
(bif (!r26) then
 some false
 else
(same r6.length r19.2.length).bind (fun u28 =>
(m_laws_heldIntSS r19.2 1).bind (fun r29 =>
(bif (decide (r29 < 0)) then
 some false
 else
(bif (r29 != r19.1) then
 some false
 else
 some true
)
)
))
)
)
)
)
)
)
))
)
)
))
)
)
)
)
)
)
)
)
)
)
)
)

def m_laws_szPlaceS (a : (List TPlace)) (leftV : Int) : Option Int :=
(bif (decide ((w64 (leftV - (a.length : Int))) < 0)) then
 some (-1)
 else
 some (w64 (leftV - (a.length : Int)))
)

def m_laws_szFramework (a : TFramework) (leftV : Int) : Option Int :=
(m_laws_szGraph a.Graph leftV).bind (fun r1 =>
(bif (decide (r1 < 0)) then
 some (-1)
 else
(m_laws_szPlaceS a.Places r1).bind (fun r3 =>
(bif (decide (r3 < 0)) then
 some (-1)
 else
 some r3
)
)
)
)

def m_laws_toPlace (a : TPlace) : Option TPlace :=
 some a

def m_laws_toPlaceS_L1 (a : (List TPlace)) (s2 : (Int × (List TPlace))) : Option ((Int × (List TPlace)) ⊕ (List TPlace)) :=
(bif (decide (s2.1 < (a.length : Int))) then
(idx a s2.1).bind (fun x13 =>
(m_laws_toPlace x13).bind (fun r14 =>
(idx s2.2 s2.1).bind (fun x15 =>
 some (.inl ((w64 (s2.1 + 1)), (s2.2.set s2.1.toNat r14)))
)
)
)
 else
 some (.inr s2.2)
)
def m_laws_toPlaceS (a : (List TPlace)) : Option (List TPlace) :=
(lenOk (a.length : Int)).bind (fun u1 =>
((loopM (m_laws_toPlaceS_L1 a) BIG (0, (List.replicate (a.length : Int).toNat (TPlace.mk (0 : Int) (0 : Int))))).bind (fun b11 =>
 some b11
))
)

def m_laws_toFramework (a : TFramework) : Option TFramework :=
(m_laws_toGraph a.Graph).bind (fun r1 =>
(m_laws_toPlaceS a.Places).bind (fun r2 =>
 some (TFramework.mk r1 r2)
)
)

def m_spec_IsFramework_L1 (f : TFramework) (s11 : Int) : Option (Int ⊕ (Unit ⊕ Bool)) :=
(bif (decide (s11 < (f.Places.length : Int))) then
(((
(idx f.Places s11).bind (fun x46 =>
(m_spec_l1In x46.X 0 4).bind (fun r47 =>
(bif (!r47) then
 some true
 else
(idx f.Places s11).bind (fun x49 =>
(m_spec_l1In x49.Y 0 4).bind (fun r50 =>
 some (!r50)
)
)
)
)
)
) : Option Bool).bind (fun j45 =>
(bif j45 then
 some (.inr (.inr false))
 else
 some (.inl (w64 (s11 + 1)))
)
))
 else
 some (.inr (.inl ()))
)
def m_spec_IsFramework_L2 (f : TFramework) (s52 : Int) : Option (Int ⊕ (Unit ⊕ Bool)) :=
(bif (decide (s52 < (f.Graph.Bars.length : Int))) then
(idx f.Graph.Bars s52).bind (fun x83 =>
(((
(idx f.Places x83.A).bind (fun x90 =>
(idx f.Places x83.B).bind (fun x91 =>
(bif (eqI [x90.X, x90.Y] [x91.X, x91.Y]) then
 some true
 else
(bif (decide (0 < s52)) then
(idx f.Graph.Bars (w64 (s52 - 1))).bind (fun x94 =>
 some (eqI [x94.A, x94.B] [x83.A, x83.B])
)
 else
 some false
)
)
)
)
) : Option Bool).bind (fun j89 =>
(bif j89 then
 some (.inr (.inr false))
 else
 some (.inl (w64 (s52 + 1)))
)
))
)
 else
 some (.inr (.inl ()))
)
def m_spec_IsFramework (f : TFramework) : Option Bool :=
(((
(m_spec_IsGraph f.Graph).bind (fun r6 =>
(bif (!r6) then
 some true
 else
(bif (decide (6 < f.Graph.Points)) then
 some true
 else
(bif ((f.Places.length : Int) != f.Graph.Points) then
 some true
 else
 some (decide (15 < (f.Graph.Bars.length : Int)))
)
)
)
)
) : Option Bool).bind (fun j5 =>
(bif j5 then
 some false
 else
((loopM (m_spec_IsFramework_L1 f) BIG 0).bind (Sum.elim (fun b38 => (
((loopM (m_spec_IsFramework_L2 f) BIG 0).bind (Sum.elim (fun b81 => (
 some true
)) (fun r => some r)))
)) (fun r => some r)))
)
))

def m_spec_NewPebbles_L1 (g : TGraph) (k : Int) (s9 : (Int × (List Int))) : Option ((Int × (List Int)) ⊕ (List Int)) :=
(bif (decide (s9.1 < g.Points)) then
(lim (s9.2.length + ([k] : List Int).length)).bind (fun u16 =>
 some (.inl ((w64 (s9.1 + 1)), (s9.2 ++ ([k] : List Int))))
)
 else
 some (.inr s9.2)
)
def m_spec_NewPebbles (g : TGraph) (k : Int) : Option (TPebbles × Bool) :=
(((
(m_spec_IsGraph g).bind (fun r5 =>
(bif (!r5) then
 some true
 else
(m_spec_l1In k 1 3).bind (fun r7 =>
 some (!r7)
)
)
)
) : Option Bool).bind (fun j4 =>
(bif j4 then
 some ((TPebbles.mk ([] : List Int) ([] : List Int) ([] : List Int)), false)
 else
((loopM (m_spec_NewPebbles_L1 g k) BIG (0, ([] : List Int))).bind (fun b14 =>
 some ((TPebbles.mk b14 ([] : List Int) ([] : List Int)), true)
))
)
))

def m_spec_IsRange (k : Int) (l : Int) : Option Bool :=
(((
(m_spec_l1In k 1 3).bind (fun r5 =>
(bif r5 then
(bif (decide (0 ≤ l)) then
 some (decide (l < (w64 (2 * k))))
 else
 some false
)
 else
 some false
)
)
) : Option Bool).bind (fun j4 =>
 some j4
))

def m_spec_l4Tail_L1 (p : TPebbles) (v : Int) (s1 : (Int × Int)) : Option ((Int × Int) ⊕ Int) :=
(bif (decide (s1.2 < (p.Tails.length : Int))) then
(idx p.Tails s1.2).bind (fun x14 =>
(((
(bif (x14 == v) then
 some (w64 (s1.1 + 1))
 else
 some s1.1
)
) : Option Int).bind (fun j16 =>
 some (.inl (j16, (w64 (s1.2 + 1))))
))
)
 else
 some (.inr s1.1)
)
def m_spec_l4Tail (p : TPebbles) (v : Int) : Option Int :=
((loopM (m_spec_l4Tail_L1 p v) BIG (0, 0)).bind (fun b12 =>
 some b12
))

def m_spec_IsPebbles_L1 (g : TGraph) (p : TPebbles) (s13 : Int) : Option (Int ⊕ (Unit ⊕ Bool)) :=
(bif (decide (s13 < (p.Placed.length : Int))) then
(idx p.Placed s13).bind (fun x84 =>
(((
(bif (decide (x84 < 0)) then
 some true
 else
(bif (decide ((g.Bars.length : Int) ≤ x84)) then
 some true
 else
(bif (decide (0 < s13)) then
(idx p.Placed (w64 (s13 - 1))).bind (fun x104 =>
(bif (decide (x84 ≤ x104)) then
 some true
 else
(idx p.Tails s13).bind (fun x106 =>
(idx g.Bars x84).bind (fun x107 =>
(bif (x106 != x107.A) then
(idx p.Tails s13).bind (fun x109 =>
(idx g.Bars x84).bind (fun x110 =>
 some (x109 != x110.B)
)
)
 else
 some false
)
)
)
)
)
 else
(idx p.Tails s13).bind (fun x111 =>
(idx g.Bars x84).bind (fun x112 =>
(bif (x111 != x112.A) then
(idx p.Tails s13).bind (fun x114 =>
(idx g.Bars x84).bind (fun x115 =>
 some (x114 != x115.B)
)
)
 else
 some false
)
)
)
)
)
)
) : Option Bool).bind (fun j100 =>
(bif j100 then
 some (.inr (.inr false))
 else
 some (.inl (w64 (s13 + 1)))
)
))
)
 else
 some (.inr (.inl ()))
)
def m_spec_IsPebbles_L2 (g : TGraph) (k : Int) (p : TPebbles) (s117 : Int) : Option (Int ⊕ (Unit ⊕ Bool)) :=
(bif (decide (s117 < g.Points)) then
(((
(idx p.Free s117).bind (fun x147 =>
(bif (decide (x147 < 0)) then
 some true
 else
(idx p.Free s117).bind (fun x149 =>
(m_spec_l4Tail p s117).bind (fun r150 =>
 some ((w64 (x149 + r150)) != k)
)
)
)
)
) : Option Bool).bind (fun j146 =>
(bif j146 then
 some (.inr (.inr false))
 else
 some (.inl (w64 (s117 + 1)))
)
))
 else
 some (.inr (.inl ()))
)
def m_spec_IsPebbles (g : TGraph) (k : Int) (p : TPebbles) : Option Bool :=
(((
(m_spec_IsGraph g).bind (fun r7 =>
(bif (!r7) then
 some true
 else
(m_spec_l1In k 1 3).bind (fun r9 =>
(bif (!r9) then
 some true
 else
(bif ((p.Free.length : Int) != g.Points) then
 some true
 else
 some ((p.Tails.length : Int) != (p.Placed.length : Int))
)
)
)
)
)
) : Option Bool).bind (fun j6 =>
(bif j6 then
 some false
 else
((loopM (m_spec_IsPebbles_L1 g p) BIG 0).bind (Sum.elim (fun b82 => (
((loopM (m_spec_IsPebbles_L2 g k p) BIG 0).bind (Sum.elim (fun b140 => (
 some true
)) (fun r => some r)))
)) (fun r => some r)))
)
))

def m_spec_l4Copy (p : TPebbles) : Option TPebbles :=
(lim (([] : List Int).length + p.Free.length)).bind (fun u1 =>
(lim (([] : List Int).length + p.Tails.length)).bind (fun u2 =>
(lim (([] : List Int).length + p.Placed.length)).bind (fun u3 =>
 some (TPebbles.mk (([] : List Int) ++ p.Free) (([] : List Int) ++ p.Tails) (([] : List Int) ++ p.Placed))
)
)
)

def m_spec_l4Other (b : TBar) (v : Int) : Option Int :=
 some (w64 ((w64 (b.A + b.B)) - v))

def m_spec_l4Shift_L1 (g : TGraph) (p : TPebbles) (fromV : (List Int)) (a : Int) (u : Int) (r1 : TPebbles) (x2 : Int) (x4 : Int) (s6 : (Int × (List Int))) : Option ((Int × (List Int)) ⊕ ((List Int) × (List Int) × (List Int))) :=
(bif (s6.1 != a) then
(idx fromV s6.1).bind (fun x21 =>
(idx p.Placed x21).bind (fun x22 =>
(idx g.Bars x22).bind (fun x23 =>
(m_spec_l4Other x23 s6.1).bind (fun r24 =>
(idx s6.2 x21).bind (fun x25 =>
 some (.inl (r24, (s6.2.set x21.toNat s6.1)))
)
)
)
)
)
 else
 some (.inr (((r1.Free.set u.toNat (w64 (x2 - 1))).set a.toNat (w64 (x4 + 1))), s6.2, r1.Placed))
)
def m_spec_l4Shift (g : TGraph) (p : TPebbles) (fromV : (List Int)) (a : Int) (u : Int) : Option TPebbles :=
(m_spec_l4Copy p).bind (fun r1 =>
(idx r1.Free u).bind (fun x2 =>
(idx r1.Free u).bind (fun x3 =>
(idx (r1.Free.set u.toNat (w64 (x2 - 1))) a).bind (fun x4 =>
(idx (r1.Free.set u.toNat (w64 (x2 - 1))) a).bind (fun x5 =>
((loopM (m_spec_l4Shift_L1 g p fromV a u r1 x2 x4) BIG (u, r1.Tails)).bind (fun b19 =>
 some (TPebbles.mk b19.1 b19.2.1 b19.2.2)
))
)
)
)
)
)

def m_spec_l4Find_L1 (g : TGraph) (s2 : (Int × (List Int))) : Option ((Int × (List Int)) ⊕ (List Int)) :=
(bif (decide (s2.1 < g.Points)) then
(idx s2.2 s2.1).bind (fun x9 =>
 some (.inl ((w64 (s2.1 + 1)), (s2.2.set s2.1.toNat (-1))))
)
 else
 some (.inr s2.2)
)
def m_spec_l4Find_L5 (g : TGraph) (p : TPebbles) (a : Int) (b : Int) (s12 : (Int × (List Int) × (List Int) × (List Bool))) (x95 : Int) (s96 : (Int × (List Int) × (List Int) × (List Bool))) : Option ((Int × (List Int) × (List Int) × (List Bool)) ⊕ ((Int × (List Int) × (List Int) × (List Bool)) ⊕ (TPebbles × Bool))) :=
(bif (decide (s96.1 < (p.Placed.length : Int))) then
(idx p.Tails s96.1).bind (fun x135 =>
(bif (x135 != x95) then
 some (.inl ((w64 (s96.1 + 1)), s96.2.1, s96.2.2.1, s96.2.2.2))
 else
(idx p.Placed s96.1).bind (fun x137 =>
(idx g.Bars x137).bind (fun x138 =>
(m_spec_l4Other x138 x95).bind (fun r139 =>
(idx s96.2.2.2 r139).bind (fun x140 =>
(bif x140 then
 some (.inl ((w64 (s96.1 + 1)), s96.2.1, s96.2.2.1, s96.2.2.2))
 else
(idx s96.2.2.2 r139).bind (fun x142 =>
(idx s96.2.1 r139).bind (fun x143 =>
(((
(bif (r139 != b) then
(idx p.Free r139).bind (fun x148 =>
 some (decide (0 < x148))
)
 else
 some false
)
) : Option Bool).bind (fun j146 =>
(bif j146 then
(m_spec_l4Shift g p (s96.2.1.set r139.toNat s96.1) a r139).bind (fun r150 =>
 some (.inr (.inr (r150, true)))
)
 else
(lim (s96.2.2.1.length + ([r139] : List Int).length)).bind (fun u151 =>
 some (.inl ((w64 (s96.1 + 1)), (s96.2.1.set r139.toNat s96.1), (s96.2.2.1 ++ ([r139] : List Int)), (s96.2.2.2.set r139.toNat true)))
)
)
))
)
)
)
)
)
)
)
)
)
 else
 some (.inr (.inl (s12.1, s96.2.1, s96.2.2.1, s96.2.2.2)))
)
def m_spec_l4Find_L4 (g : TGraph) (p : TPebbles) (a : Int) (b : Int) (s12 : (Int × (List Int) × (List Int) × (List Bool))) : Option ((Int × (List Int) × (List Int) × (List Bool)) ⊕ (Unit ⊕ (TPebbles × Bool))) :=
(bif (decide (s12.1 < (s12.2.2.1.length : Int))) then
(idx s12.2.2.1 s12.1).bind (fun x95 =>
((loopM (m_spec_l4Find_L5 g p a b s12 x95) BIG (0, s12.2.1, s12.2.2.1, s12.2.2.2)).bind (Sum.elim (fun b133 => (
 some (.inl ((w64 (b133.1 + 1)), b133.2.1, b133.2.2.1, b133.2.2.2))
)) (fun r => some (.inr (.inr r)))))
)
 else
 some (.inr (.inl ()))
)
def m_spec_l4Find (g : TGraph) (p : TPebbles) (a : Int) (b : Int) : Option (TPebbles × Bool) :=
(lenOk g.Points).bind (fun u1 =>
((loopM (m_spec_l4Find_L1 g) BIG (0, (List.replicate g.Points.toNat (0 : Int)))).bind (fun b7 =>
(lenOk g.Points).bind (fun u10 =>
(idx (List.replicate g.Points.toNat false) a).bind (fun x11 =>
((loopM (m_spec_l4Find_L4 g p a b) BIG (0, b7, ([a] : List Int), ((List.replicate g.Points.toNat false).set a.toNat true))).bind (Sum.elim (fun b93 => (
 some (p, false)
)) (fun r => some r)))
)
)
))
)

def m_spec_l4Gather_L1 (g : TGraph) (a : Int) (b : Int) (want : Int) (s2 : ((List Int) × (List Int) × (List Int))) : Option (((List Int) × (List Int) × (List Int)) ⊕ (((List Int) × (List Int) × (List Int)) ⊕ (TPebbles × Bool))) :=
(idx s2.1 a).bind (fun x28 =>
(idx s2.1 b).bind (fun x29 =>
(bif (decide ((w64 (x28 + x29)) < want)) then
(m_spec_l4Find g (TPebbles.mk s2.1 s2.2.1 s2.2.2) a b).bind (fun r31 =>
(bif r31.2 then
(bif (!true) then
 none
 else
(bif (!true) then
 none
 else
 some (.inl (r31.1.Free, r31.1.Tails, r31.1.Placed))
)
)
 else
(bif (!false) then
(m_spec_l4Find g (TPebbles.mk s2.1 s2.2.1 s2.2.2) b a).bind (fun r36 =>
(bif r36.2 then
(bif (!true) then
 none
 else
 some (.inl (r36.1.Free, r36.1.Tails, r36.1.Placed))
)
 else
(bif (!false) then
 some (.inr (.inr ((TPebbles.mk s2.1 s2.2.1 s2.2.2), false)))
 else
 none
)
)
)
 else
 none
)
)
)
 else
 some (.inr (.inl (s2.1, s2.2.1, s2.2.2)))
)
)
)
def m_spec_l4Gather (g : TGraph) (p : TPebbles) (a : Int) (b : Int) (want : Int) : Option (TPebbles × Bool) :=
(m_spec_l4Copy p).bind (fun r1 =>
((loopM (m_spec_l4Gather_L1 g a b want) BIG (r1.Free, r1.Tails, r1.Placed)).bind (Sum.elim (fun b27 => (
 some ((TPebbles.mk b27.1 b27.2.1 b27.2.2), true)
)) (fun r => some r)))
)

def m_spec_PlaceBar (g : TGraph) (k : Int) (l : Int) (p : TPebbles) (bar : Int) : Option (TPebbles × Bool) :=
(((
(m_spec_IsPebbles g k p).bind (fun r10 =>
(bif (!r10) then
 some true
 else
(m_spec_IsRange k l).bind (fun r12 =>
(bif (!r12) then
 some true
 else
(bif (decide (bar < 0)) then
 some true
 else
(bif (decide ((g.Bars.length : Int) ≤ bar)) then
 some true
 else
(bif (decide (0 < (p.Placed.length : Int))) then
(idx p.Placed (w64 ((p.Placed.length : Int) - 1))).bind (fun x17 =>
 some (decide (bar ≤ x17))
)
 else
 some false
)
)
)
)
)
)
)
) : Option Bool).bind (fun j9 =>
(bif j9 then
(m_spec_l4Copy p).bind (fun r19 =>
 some (r19, false)
)
 else
(idx g.Bars bar).bind (fun x20 =>
(m_spec_l4Gather g p x20.A x20.B (w64 (l + 1))).bind (fun r21 =>
(bif (!r21.2) then
(m_spec_l4Copy p).bind (fun r23 =>
 some (r23, false)
)
 else
(idx r21.1.Free x20.A).bind (fun x24 =>
(((
(bif (x24 == 0) then
 some x20.B
 else
 some x20.A
)
) : Option Int).bind (fun j26 =>
(idx r21.1.Free j26).bind (fun x28 =>
(idx r21.1.Free j26).bind (fun x29 =>
(lim (r21.1.Tails.length + ([j26] : List Int).length)).bind (fun u30 =>
(lim (r21.1.Placed.length + ([bar] : List Int).length)).bind (fun u31 =>
 some ((TPebbles.mk (r21.1.Free.set j26.toNat (w64 (x28 - 1))) (r21.1.Tails ++ ([j26] : List Int)) (r21.1.Placed ++ ([bar] : List Int))), true)
)
)
)
)
))
)
)
)
)
)
))

def m_spec_RunPebbles_L1 (g : TGraph) (k : Int) (l : Int) (s8 : (Int × (List Int) × (List Int) × (List Int))) : Option ((Int × (List Int) × (List Int) × (List Int)) ⊕ ((List Int) × (List Int) × (List Int))) :=
(bif (decide (s8.1 < (g.Bars.length : Int))) then
(m_spec_PlaceBar g k l (TPebbles.mk s8.2.1 s8.2.2.1 s8.2.2.2) s8.1).bind (fun r15 =>
 some (.inl ((w64 (s8.1 + 1)), r15.1.Free, r15.1.Tails, r15.1.Placed))
)
 else
 some (.inr (s8.2.1, s8.2.2.1, s8.2.2.2))
)
def m_spec_RunPebbles (g : TGraph) (k : Int) (l : Int) : Option (TPebbles × Bool) :=
(m_spec_NewPebbles g k).bind (fun r1 =>
(((
(bif (!r1.2) then
 some true
 else
(m_spec_IsRange k l).bind (fun r6 =>
 some (!r6)
)
)
) : Option Bool).bind (fun j4 =>
(bif j4 then
 some ((TPebbles.mk ([] : List Int) ([] : List Int) ([] : List Int)), false)
 else
((loopM (m_spec_RunPebbles_L1 g k l) BIG (0, r1.1.Free, r1.1.Tails, r1.1.Placed)).bind (fun b13 =>
 some ((TPebbles.mk b13.1 b13.2.1 b13.2.2), true)
))
)
))
)

def m_spec_RankOf (g : TGraph) (k : Int) (l : Int) : Option Int :=
(m_spec_RunPebbles g k l).bind (fun r1 =>
(bif (!r1.2) then
 some (-1)
 else
 some (r1.1.Placed.length : Int)
)
)

def m_spec_RigidityMatrix_L1 (f : TFramework) (s1 : (Int × (List (List Int)))) : Option ((Int × (List (List Int))) ⊕ (List (List Int))) :=
(((
(bif (decide (s1.1 < (f.Graph.Bars.length : Int))) then
(m_spec_IsFramework f).bind (fun r41 =>
 some r41
)
 else
 some false
)
) : Option Bool).bind (fun j39 =>
(bif j39 then
(idx f.Graph.Bars s1.1).bind (fun x43 =>
(lenOk (w64 (2 * f.Graph.Points))).bind (fun u44 =>
(idx f.Places x43.A).bind (fun x45 =>
(idx f.Places x43.B).bind (fun x46 =>
(idx f.Places x43.A).bind (fun x47 =>
(idx f.Places x43.B).bind (fun x48 =>
(idx (List.replicate (w64 (2 * f.Graph.Points)).toNat (0 : Int)) (w64 (2 * x43.A))).bind (fun x49 =>
(idx ((List.replicate (w64 (2 * f.Graph.Points)).toNat (0 : Int)).set (w64 (2 * x43.A)).toNat (w64 (x45.X - x46.X))) (w64 ((w64 (2 * x43.A)) + 1))).bind (fun x50 =>
(idx (((List.replicate (w64 (2 * f.Graph.Points)).toNat (0 : Int)).set (w64 (2 * x43.A)).toNat (w64 (x45.X - x46.X))).set (w64 ((w64 (2 * x43.A)) + 1)).toNat (w64 (x47.Y - x48.Y))) (w64 (2 * x43.B))).bind (fun x51 =>
(idx ((((List.replicate (w64 (2 * f.Graph.Points)).toNat (0 : Int)).set (w64 (2 * x43.A)).toNat (w64 (x45.X - x46.X))).set (w64 ((w64 (2 * x43.A)) + 1)).toNat (w64 (x47.Y - x48.Y))).set (w64 (2 * x43.B)).toNat (w64 (-(w64 (x45.X - x46.X))))) (w64 ((w64 (2 * x43.B)) + 1))).bind (fun x52 =>
(lim (s1.2.length + [(((((List.replicate (w64 (2 * f.Graph.Points)).toNat (0 : Int)).set (w64 (2 * x43.A)).toNat (w64 (x45.X - x46.X))).set (w64 ((w64 (2 * x43.A)) + 1)).toNat (w64 (x47.Y - x48.Y))).set (w64 (2 * x43.B)).toNat (w64 (-(w64 (x45.X - x46.X))))).set (w64 ((w64 (2 * x43.B)) + 1)).toNat (w64 (-(w64 (x47.Y - x48.Y)))))].length)).bind (fun u53 =>
 some (.inl ((w64 (s1.1 + 1)), (s1.2 ++ [(((((List.replicate (w64 (2 * f.Graph.Points)).toNat (0 : Int)).set (w64 (2 * x43.A)).toNat (w64 (x45.X - x46.X))).set (w64 ((w64 (2 * x43.A)) + 1)).toNat (w64 (x47.Y - x48.Y))).set (w64 (2 * x43.B)).toNat (w64 (-(w64 (x45.X - x46.X))))).set (w64 ((w64 (2 * x43.B)) + 1)).toNat (w64 (-(w64 (x47.Y - x48.Y)))))])))
)
)
)
)
)
)
)
)
)
)
)
 else
 some (.inr s1.2)
)
))
def m_spec_RigidityMatrix (f : TFramework) : Option (List (List Int)) :=
((loopM (m_spec_RigidityMatrix_L1 f) BIG (0, ([] : List (List Int)))).bind (fun b36 =>
 some b36
))

def m_spec_GcdOf_L1  (s9 : (Int × Int)) : Option ((Int × Int) ⊕ Int) :=
(bif (decide (0 < s9.2)) then
(nz s9.2).bind (fun u16 =>
 some (.inl (s9.2, (Int.tmod s9.1 s9.2)))
)
 else
 some (.inr s9.1)
)
def m_spec_GcdOf (a : Int) (b : Int) : Option Int :=
(((
(m_spec_l1In a (-9000000000000000000) 9000000000000000000).bind (fun r5 =>
(bif (!r5) then
 some true
 else
(m_spec_l1In b (-9000000000000000000) 9000000000000000000).bind (fun r7 =>
 some (!r7)
)
)
)
) : Option Bool).bind (fun j4 =>
(bif j4 then
 some 0
 else
((loopM (m_spec_GcdOf_L1) BIG ((if a < (w64 (-a)) then (w64 (-a)) else a), (if b < (w64 (-b)) then (w64 (-b)) else b))).bind (fun b14 =>
 some b14
))
)
))

def m_spec_PrimitiveVector_L1 (v : (List Int)) (s1 : (Int × Int)) : Option ((Int × Int) ⊕ (Int ⊕ (List Int))) :=
(bif (decide (s1.2 < (v.length : Int))) then
(idx v s1.2).bind (fun x18 =>
(m_spec_l1In x18 (-9000000000000000000) 9000000000000000000).bind (fun r19 =>
(bif (!r19) then
(lim (([] : List Int).length + v.length)).bind (fun u21 =>
 some (.inr (.inr (([] : List Int) ++ v)))
)
 else
(idx v s1.2).bind (fun x22 =>
(m_spec_GcdOf s1.1 x22).bind (fun r23 =>
 some (.inl (r23, (w64 (s1.2 + 1))))
)
)
)
)
)
 else
 some (.inr (.inl s1.1))
)
def m_spec_PrimitiveVector_L2 (v : (List Int)) (b16 : Int) (s26 : (Int × Int)) : Option ((Int × Int) ⊕ (Int × Int)) :=
(bif (decide (s26.2 < (v.length : Int))) then
(((
(bif (s26.1 == 0) then
(idx v s26.2).bind (fun x45 =>
 some x45
)
 else
 some s26.1
)
) : Option Int).bind (fun j43 =>
 some (.inl (j43, (w64 (s26.2 + 1))))
))
 else
 some (.inr (b16, s26.1))
)
def m_spec_PrimitiveVector_L3 (v : (List Int)) (j47 : Int) (s49 : (Int × (List Int))) : Option ((Int × (List Int)) ⊕ (List Int)) :=
(bif (decide (s49.1 < (v.length : Int))) then
(idx v s49.1).bind (fun x60 =>
(nz j47).bind (fun u61 =>
(lim (s49.2.length + ([(w64 (Int.tdiv x60 j47))] : List Int).length)).bind (fun u62 =>
 some (.inl ((w64 (s49.1 + 1)), (s49.2 ++ ([(w64 (Int.tdiv x60 j47))] : List Int))))
)
)
)
 else
 some (.inr s49.2)
)
def m_spec_PrimitiveVector (v : (List Int)) : Option (List Int) :=
((loopM (m_spec_PrimitiveVector_L1 v) BIG (0, 0)).bind (Sum.elim (fun b16 => (
(bif (b16 == 0) then
(lim (([] : List Int).length + v.length)).bind (fun u25 =>
 some (([] : List Int) ++ v)
)
 else
((loopM (m_spec_PrimitiveVector_L2 v b16) BIG (0, 0)).bind (fun b39 =>
(((
(bif (decide (b39.2 < 0)) then
 some (w64 (-b39.1))
 else
 some b39.1
)
) : Option Int).bind (fun j47 =>
((loopM (m_spec_PrimitiveVector_L3 v j47) BIG (0, ([] : List Int))).bind (fun b58 =>
 some b58
))
))
))
)
)) (fun r => some r)))

def m_spec_l9Clean (row : (List Int)) : Option (List Int) :=
(m_spec_PrimitiveVector row).bind (fun r1 =>
 some r1
)

def m_spec_l9Without_L1 (a : (List Int)) (row : (List Int)) (r3 : Int) (x4 : Int) (x6 : Int) (s8 : (Int × (List Int))) : Option ((Int × (List Int)) ⊕ (List Int)) :=
(bif (decide (s8.1 < (a.length : Int))) then
(idx a s8.1).bind (fun x19 =>
(idx row s8.1).bind (fun x20 =>
(lim (s8.2.length + ([(w64 ((w64 (x19 * (w64 (Int.tdiv x4 r3)))) - (w64 (x20 * (w64 (Int.tdiv x6 r3))))))] : List Int).length)).bind (fun u21 =>
 some (.inl ((w64 (s8.1 + 1)), (s8.2 ++ ([(w64 ((w64 (x19 * (w64 (Int.tdiv x4 r3)))) - (w64 (x20 * (w64 (Int.tdiv x6 r3))))))] : List Int))))
)
)
)
 else
 some (.inr s8.2)
)
def m_spec_l9Without (a : (List Int)) (row : (List Int)) (j : Int) : Option (List Int) :=
(idx a j).bind (fun x1 =>
(idx row j).bind (fun x2 =>
(m_spec_GcdOf x1 x2).bind (fun r3 =>
(idx row j).bind (fun x4 =>
(nz r3).bind (fun u5 =>
(idx a j).bind (fun x6 =>
(nz r3).bind (fun u7 =>
((loopM (m_spec_l9Without_L1 a row r3 x4 x6) BIG (0, ([] : List Int))).bind (fun b17 =>
(m_spec_l9Clean b17).bind (fun r22 =>
 some r22
)
))
)
)
)
)
)
)
)

def m_spec_l9Reduced_L1 (m : (List (List Int))) (s1 : (Int × (List (List Int)))) : Option ((Int × (List (List Int))) ⊕ (List (List Int))) :=
(bif (decide (s1.1 < (m.length : Int))) then
(idx m s1.1).bind (fun x12 =>
(m_spec_l9Clean x12).bind (fun r13 =>
(lim (s1.2.length + [r13].length)).bind (fun u14 =>
 some (.inl ((w64 (s1.1 + 1)), (s1.2 ++ [r13])))
)
)
)
 else
 some (.inr s1.2)
)
def m_spec_l9Reduced_L7 (s15 : (Int × (List (List Int)) × (List Int))) (s155 : Int) : Option (Int ⊕ (Int × Int × (List (List Int)) × (List Int))) :=
(((
(bif (decide (s155 < (s15.2.1.length : Int))) then
(idx s15.2.1 s155).bind (fun x178 =>
(idx x178 s15.1).bind (fun x179 =>
 some (x179 == 0)
)
)
 else
 some false
)
) : Option Bool).bind (fun j176 =>
(bif j176 then
 some (.inl (w64 (s155 + 1)))
 else
 some (.inr (s15.1, s155, s15.2.1, s15.2.2))
)
))
def m_spec_l9Reduced_L8 (b172 : (Int × Int × (List (List Int)) × (List Int))) (x182 : (List Int)) (s186 : (Int × (List (List Int)))) : Option ((Int × (List (List Int))) ⊕ (Int × (List (List Int)) × (List Int))) :=
(bif (decide (s186.1 < (s186.2.length : Int))) then
(((
(bif (s186.1 != (b172.2.2.2.length : Int)) then
(idx s186.2 s186.1).bind (fun x228 =>
(idx x228 b172.1).bind (fun x229 =>
 some (x229 != 0)
)
)
 else
 some false
)
) : Option Bool).bind (fun j226 =>
(((
(bif j226 then
(idx s186.2 s186.1).bind (fun x236 =>
(m_spec_l9Without x236 x182 b172.1).bind (fun r237 =>
(idx s186.2 s186.1).bind (fun x238 =>
 some (s186.2.set s186.1.toNat r237)
)
)
)
 else
 some s186.2
)
) : Option (List (List Int))).bind (fun j234 =>
 some (.inl ((w64 (s186.1 + 1)), j234))
))
))
 else
 some (.inr (b172.1, s186.2, b172.2.2.2))
)
def m_spec_l9Reduced_L6  (s15 : (Int × (List (List Int)) × (List Int))) : Option ((Int × (List (List Int)) × (List Int)) ⊕ ((List (List Int)) × (List Int))) :=
(((
(bif (decide (0 < (s15.2.1.length : Int))) then
(idx s15.2.1 0).bind (fun x153 =>
 some (decide (s15.1 < (x153.length : Int)))
)
 else
 some false
)
) : Option Bool).bind (fun j151 =>
(bif j151 then
((loopM (m_spec_l9Reduced_L7 s15) BIG (s15.2.2.length : Int)).bind (fun b172 =>
(bif (b172.2.1 == (b172.2.2.1.length : Int)) then
 some (.inl ((w64 (b172.1 + 1)), b172.2.2.1, b172.2.2.2))
 else
(idx b172.2.2.1 b172.2.1).bind (fun x182 =>
(idx b172.2.2.1 (b172.2.2.2.length : Int)).bind (fun x183 =>
(idx b172.2.2.1 b172.2.1).bind (fun x184 =>
(idx (b172.2.2.1.set b172.2.1.toNat x183) (b172.2.2.2.length : Int)).bind (fun x185 =>
((loopM (m_spec_l9Reduced_L8 b172 x182) BIG (0, ((b172.2.2.1.set b172.2.1.toNat x183).set (b172.2.2.2.length : Int).toNat x182))).bind (fun b221 =>
(lim (b221.2.2.length + ([b221.1] : List Int).length)).bind (fun u239 =>
 some (.inl ((w64 (b221.1 + 1)), b221.2.1, (b221.2.2 ++ ([b221.1] : List Int))))
)
))
)
)
)
)
)
))
 else
 some (.inr (s15.2.1, s15.2.2))
)
))
def m_spec_l9Reduced (m : (List (List Int))) : Option ((List (List Int)) × (List Int)) :=
((loopM (m_spec_l9Reduced_L1 m) BIG (0, ([] : List (List Int)))).bind (fun b10 =>
((loopM (m_spec_l9Reduced_L6) BIG (0, b10, ([] : List Int))).bind (fun b148 =>
 some (b148.1, b148.2)
))
))

def m_spec_FrameworkRank (f : TFramework) : Option Int :=
(m_spec_IsFramework f).bind (fun r1 =>
(bif (!r1) then
 some (-1)
 else
(m_spec_RigidityMatrix f).bind (fun r3 =>
(m_spec_l9Reduced r3).bind (fun r4 =>
 some (r4.2.length : Int)
)
)
)
)

def m_spec_LostRank (f : TFramework) : Option Int :=
(m_spec_IsFramework f).bind (fun r1 =>
(bif (!r1) then
 some (-1)
 else
(m_spec_RankOf f.Graph 2 3).bind (fun r3 =>
(m_spec_FrameworkRank f).bind (fun r4 =>
 some (w64 (r3 - r4))
)
)
)
)

def m_impl_isPlace (p : TPlace) : Option Bool :=
(((
(m_impl_within p.X 0 4).bind (fun r5 =>
(bif r5 then
(m_impl_within p.Y 0 4).bind (fun r7 =>
 some r7
)
 else
 some false
)
)
) : Option Bool).bind (fun j4 =>
 some j4
))

def m_impl_IsFramework_L1 (f : TFramework) (s11 : Int) : Option (Int ⊕ (Unit ⊕ Bool)) :=
(bif (decide (s11 < (f.Places.length : Int))) then
(idx f.Places s11).bind (fun x22 =>
(m_impl_isPlace x22).bind (fun r23 =>
(bif (!r23) then
 some (.inr (.inr false))
 else
 some (.inl (w64 (s11 + 1)))
)
)
)
 else
 some (.inr (.inl ()))
)
def m_impl_IsFramework_L2 (f : TFramework) (s25 : Int) : Option (Int ⊕ (Unit ⊕ Bool)) :=
(bif (decide (s25 < (f.Graph.Bars.length : Int))) then
(idx f.Graph.Bars s25).bind (fun x64 =>
(((
(bif (decide (0 < s25)) then
(idx f.Graph.Bars (w64 (s25 - 1))).bind (fun x74 =>
(bif (eqI [x74.A, x74.B] [x64.A, x64.B]) then
 some true
 else
(idx f.Places x64.A).bind (fun x76 =>
(idx f.Places x64.B).bind (fun x77 =>
 some (eqI [x76.X, x76.Y] [x77.X, x77.Y])
)
)
)
)
 else
(idx f.Places x64.A).bind (fun x78 =>
(idx f.Places x64.B).bind (fun x79 =>
 some (eqI [x78.X, x78.Y] [x79.X, x79.Y])
)
)
)
) : Option Bool).bind (fun j72 =>
(bif j72 then
 some (.inr (.inr false))
 else
 some (.inl (w64 (s25 + 1)))
)
))
)
 else
 some (.inr (.inl ()))
)
def m_impl_IsFramework (f : TFramework) : Option Bool :=
(((
(m_impl_IsGraph f.Graph).bind (fun r6 =>
(bif (!r6) then
 some true
 else
(bif (decide (6 < f.Graph.Points)) then
 some true
 else
(bif (decide (15 < (f.Graph.Bars.length : Int))) then
 some true
 else
 some ((f.Places.length : Int) != f.Graph.Points)
)
)
)
)
) : Option Bool).bind (fun j5 =>
(bif j5 then
 some false
 else
((loopM (m_impl_IsFramework_L1 f) BIG 0).bind (Sum.elim (fun b20 => (
((loopM (m_impl_IsFramework_L2 f) BIG 0).bind (Sum.elim (fun b62 => (
 some true
)) (fun r => some r)))
)) (fun r => some r)))
)
))

def m_impl_IsRange (k : Int) (l : Int) : Option Bool :=
(((
(m_impl_within k 1 3).bind (fun r5 =>
(bif r5 then
(m_impl_within l 0 (w64 ((w64 (2 * k)) - 1))).bind (fun r7 =>
 some r7
)
 else
 some false
)
)
) : Option Bool).bind (fun j4 =>
 some j4
))

def m_impl_copyInts (l : (List Int)) : Option (List Int) :=
(lim (([] : List Int).length + l.length)).bind (fun u1 =>
 some (([] : List Int) ++ l)
)

def m_impl_copyPebbles (p : TPebbles) : Option TPebbles :=
(m_impl_copyInts p.Free).bind (fun r1 =>
(m_impl_copyInts p.Tails).bind (fun r2 =>
(m_impl_copyInts p.Placed).bind (fun r3 =>
 some (TPebbles.mk r1 r2 r3)
)
)
)

def m_impl_Bar_other (x : TBar) (v : Int) : Option Int :=
(bif (x.A == v) then
 some x.B
 else
 some x.A
)

def m_impl_moveTo_L11 (p : TPebbles) (a : Int) (s122 : (Int × (List (Int × Int)) × (List Int))) (r187 : Int) (x196 : Int) (x198 : Int) (s200 : (Int × (List Int))) : Option ((Int × (List Int)) ⊕ ((List Int) × (List Int))) :=
(bif (s200.1 != a) then
(idx s200.2 (mget (mput s122.2.1 r187 s122.1) s200.1)).bind (fun x209 =>
(idx s200.2 (mget (mput s122.2.1 r187 s122.1) s200.1)).bind (fun x210 =>
 some (.inl (x209, (s200.2.set (mget (mput s122.2.1 r187 s122.1) s200.1).toNat s200.1)))
)
)
 else
 some (.inr (((p.Free.set r187.toNat (w64 (x196 - 1))).set a.toNat (w64 (x198 + 1))), s200.2))
)
def m_impl_moveTo_L10 (bars : (List TBar)) (p : TPebbles) (a : Int) (b : Int) (s1 : (Int × (List (Int × Int)) × (List Int))) (s122 : (Int × (List (Int × Int)) × (List Int))) : Option ((Int × (List (Int × Int)) × (List Int)) ⊕ ((Int × (List (Int × Int)) × (List Int)) ⊕ (Bool × TPebbles))) :=
(bif (decide (s122.1 < (p.Placed.length : Int))) then
(idx p.Placed s122.1).bind (fun x181 =>
(idx p.Tails s122.1).bind (fun x182 =>
(idx s122.2.2 s1.1).bind (fun x183 =>
(bif (x182 != x183) then
 some (.inl ((w64 (s122.1 + 1)), s122.2.1, s122.2.2))
 else
(idx bars x181).bind (fun x185 =>
(idx s122.2.2 s1.1).bind (fun x186 =>
(m_impl_Bar_other x185 x186).bind (fun r187 =>
(bif (mhas s122.2.1 r187) then
 some (.inl ((w64 (s122.1 + 1)), s122.2.1, s122.2.2))
 else
(((
(bif (r187 == b) then
 some true
 else
(idx p.Free r187).bind (fun x193 =>
 some (x193 == 0)
)
)
) : Option Bool).bind (fun j191 =>
(bif j191 then
(lim (s122.2.2.length + ([r187] : List Int).length)).bind (fun u195 =>
 some (.inl ((w64 (s122.1 + 1)), (mput s122.2.1 r187 s122.1), (s122.2.2 ++ ([r187] : List Int))))
)
 else
(idx p.Free r187).bind (fun x196 =>
(idx p.Free r187).bind (fun x197 =>
(idx (p.Free.set r187.toNat (w64 (x196 - 1))) a).bind (fun x198 =>
(idx (p.Free.set r187.toNat (w64 (x196 - 1))) a).bind (fun x199 =>
((loopM (m_impl_moveTo_L11 p a s122 r187 x196 x198) BIG (r187, p.Tails)).bind (fun b207 =>
 some (.inr (.inr (true, (TPebbles.mk b207.1 b207.2 p.Placed))))
))
)
)
)
)
)
))
)
)
)
)
)
)
)
)
 else
 some (.inr (.inl (s1.1, s122.2.1, s122.2.2)))
)
def m_impl_moveTo_L7 (bars : (List TBar)) (p : TPebbles) (a : Int) (b : Int) (s1 : (Int × (List (Int × Int)) × (List Int))) : Option ((Int × (List (Int × Int)) × (List Int)) ⊕ (Unit ⊕ (Bool × TPebbles))) :=
(bif (decide (s1.1 < (s1.2.2.length : Int))) then
((loopM (m_impl_moveTo_L10 bars p a b s1) BIG (0, s1.2.1, s1.2.2)).bind (Sum.elim (fun b179 => (
 some (.inl ((w64 (b179.1 + 1)), b179.2.1, b179.2.2))
)) (fun r => some (.inr (.inr r)))))
 else
 some (.inr (.inl ()))
)
def m_impl_moveTo (bars : (List TBar)) (p : TPebbles) (a : Int) (b : Int) : Option (Bool × TPebbles) :=
((loopM (m_impl_moveTo_L7 bars p a b) BIG (0, (mput ([] : List (Int × Int)) a (-1)), ([a] : List Int))).bind (Sum.elim (fun b120 => (
 some (false, p)
)) (fun r => some r)))

def m_impl_gather_L1 (bars : (List TBar)) (a : Int) (b : Int) (want : Int) (s1 : ((List Int) × (List Int) × (List Int))) : Option (((List Int) × (List Int) × (List Int)) ⊕ (((List Int) × (List Int) × (List Int)) ⊕ (Bool × TPebbles))) :=
(idx s1.1 a).bind (fun x25 =>
(idx s1.1 b).bind (fun x26 =>
(bif (decide ((w64 (x25 + x26)) < want)) then
(((
(m_impl_moveTo bars (TPebbles.mk s1.1 s1.2.1 s1.2.2) a b).bind (fun r32 =>
(bif (!r32.1) then
(m_impl_moveTo bars r32.2 b a).bind (fun r34 =>
 some ((!r34.1), r34.2.Free, r34.2.Tails, r34.2.Placed)
)
 else
 some (false, r32.2.Free, r32.2.Tails, r32.2.Placed)
)
)
) : Option (Bool × (List Int) × (List Int) × (List Int))).bind (fun j31 =>
(bif j31.1 then
 some (.inr (.inr (false, (TPebbles.mk j31.2.1 j31.2.2.1 j31.2.2.2))))
 else
 some (.inl (j31.2.1, j31.2.2.1, j31.2.2.2))
)
))
 else
 some (.inr (.inl (s1.1, s1.2.1, s1.2.2)))
)
)
)
def m_impl_gather (bars : (List TBar)) (p : TPebbles) (a : Int) (b : Int) (want : Int) : Option (Bool × TPebbles) :=
((loopM (m_impl_gather_L1 bars a b want) BIG (p.Free, p.Tails, p.Placed)).bind (Sum.elim (fun b24 => (
 some (true, (TPebbles.mk b24.1 b24.2.1 b24.2.2))
)) (fun r => some r)))

def m_impl_place (bars : (List TBar)) (l : Int) (p : TPebbles) (e : Int) : Option (Bool × TPebbles) :=
(idx bars e).bind (fun x1 =>
(m_impl_gather bars p x1.A x1.B (w64 (l + 1))).bind (fun r2 =>
(bif (!r2.1) then
 some (false, r2.2)
 else
(idx r2.2.Free x1.A).bind (fun x4 =>
(((
(bif (x4 == 0) then
 some x1.B
 else
 some x1.A
)
) : Option Int).bind (fun j6 =>
(idx r2.2.Free j6).bind (fun x8 =>
(idx r2.2.Free j6).bind (fun x9 =>
(lim (r2.2.Tails.length + ([j6] : List Int).length)).bind (fun u10 =>
(lim (r2.2.Placed.length + ([e] : List Int).length)).bind (fun u11 =>
 some (true, (TPebbles.mk (r2.2.Free.set j6.toNat (w64 (x8 - 1))) (r2.2.Tails ++ ([j6] : List Int)) (r2.2.Placed ++ ([e] : List Int))))
)
)
)
)
))
)
)
)
)

def m_impl_play_L1 (points : Int) (k : Int) (s1 : (Int × (List Int))) : Option ((Int × (List Int)) ⊕ (List Int)) :=
(bif (decide (s1.1 < points)) then
(lim (s1.2.length + ([k] : List Int).length)).bind (fun u8 =>
 some (.inl ((w64 (s1.1 + 1)), (s1.2 ++ ([k] : List Int))))
)
 else
 some (.inr s1.2)
)
def m_impl_play_L2 (bars : (List TBar)) (l : Int) (s9 : (Int × (List Int) × (List Int) × (List Int))) : Option ((Int × (List Int) × (List Int) × (List Int)) ⊕ ((List Int) × (List Int) × (List Int))) :=
(bif (decide (s9.1 < (bars.length : Int))) then
(m_impl_copyPebbles (TPebbles.mk s9.2.1 s9.2.2.1 s9.2.2.2)).bind (fun r24 =>
(m_impl_place bars l r24 s9.1).bind (fun r25 =>
(((
(bif r25.1 then
 some (r25.2.Free, r25.2.Tails, r25.2.Placed)
 else
 some (s9.2.1, s9.2.2.1, s9.2.2.2)
)
) : Option ((List Int) × (List Int) × (List Int))).bind (fun j27 =>
 some (.inl ((w64 (s9.1 + 1)), j27.1, j27.2.1, j27.2.2))
))
)
)
 else
 some (.inr (s9.2.1, s9.2.2.1, s9.2.2.2))
)
def m_impl_play (points : Int) (bars : (List TBar)) (k : Int) (l : Int) : Option TPebbles :=
((loopM (m_impl_play_L1 points k) BIG (0, ([] : List Int))).bind (fun b6 =>
((loopM (m_impl_play_L2 bars l) BIG (0, b6, ([] : List Int), ([] : List Int))).bind (fun b22 =>
 some (TPebbles.mk b22.1 b22.2.1 b22.2.2)
))
))

def m_impl_RunPebbles (g : TGraph) (k : Int) (l : Int) : Option (TPebbles × Bool) :=
(((
(m_impl_IsGraph g).bind (fun r5 =>
(bif (!r5) then
 some true
 else
(m_impl_IsRange k l).bind (fun r7 =>
 some (!r7)
)
)
)
) : Option Bool).bind (fun j4 =>
(bif j4 then
 some ((TPebbles.mk ([] : List Int) ([] : List Int) ([] : List Int)), false)
 else
(m_impl_play g.Points g.Bars k l).bind (fun r9 =>
 some (r9, true)
)
)
))

def m_impl_RankOf (g : TGraph) (k : Int) (l : Int) : Option Int :=
(m_impl_RunPebbles g k l).bind (fun r1 =>
(bif (!r1.2) then
 some (-1)
 else
 some (r1.1.Placed.length : Int)
)
)

def m_impl_RigidityMatrix_L1 (f : TFramework) (s3 : (Int × (List (List Int)))) : Option ((Int × (List (List Int))) ⊕ (List (List Int))) :=
(bif (decide (s3.1 < (f.Graph.Bars.length : Int))) then
(idx f.Graph.Bars s3.1).bind (fun x26 =>
(lenOk (w64 (2 * f.Graph.Points))).bind (fun u27 =>
(idx f.Places x26.A).bind (fun x28 =>
(idx f.Places x26.B).bind (fun x29 =>
(idx (List.replicate (w64 (2 * f.Graph.Points)).toNat (0 : Int)) (w64 (2 * x26.A))).bind (fun x30 =>
(idx ((List.replicate (w64 (2 * f.Graph.Points)).toNat (0 : Int)).set (w64 (2 * x26.A)).toNat (w64 (x28.X - x29.X))) (w64 ((w64 (2 * x26.A)) + 1))).bind (fun x31 =>
(idx (((List.replicate (w64 (2 * f.Graph.Points)).toNat (0 : Int)).set (w64 (2 * x26.A)).toNat (w64 (x28.X - x29.X))).set (w64 ((w64 (2 * x26.A)) + 1)).toNat (w64 (x28.Y - x29.Y))) (w64 (2 * x26.B))).bind (fun x32 =>
(idx ((((List.replicate (w64 (2 * f.Graph.Points)).toNat (0 : Int)).set (w64 (2 * x26.A)).toNat (w64 (x28.X - x29.X))).set (w64 ((w64 (2 * x26.A)) + 1)).toNat (w64 (x28.Y - x29.Y))).set (w64 (2 * x26.B)).toNat (w64 (x29.X - x28.X))) (w64 ((w64 (2 * x26.B)) + 1))).bind (fun x33 =>
(lim (s3.2.length + 1)).bind (fun u34 =>
 some (.inl ((w64 (s3.1 + 1)), (s3.2 ++ [(((((List.replicate (w64 (2 * f.Graph.Points)).toNat (0 : Int)).set (w64 (2 * x26.A)).toNat (w64 (x28.X - x29.X))).set (w64 ((w64 (2 * x26.A)) + 1)).toNat (w64 (x28.Y - x29.Y))).set (w64 (2 * x26.B)).toNat (w64 (x29.X - x28.X))).set (w64 ((w64 (2 * x26.B)) + 1)).toNat (w64 (x29.Y - x28.Y)))])))
)
)
)
)
)
)
)
)
)
 else
 some (.inr s3.2)
)
def m_impl_RigidityMatrix (f : TFramework) : Option (List (List Int)) :=
(m_impl_IsFramework f).bind (fun r1 =>
(bif (!r1) then
 some ([] : List (List Int))
 else
((loopM (m_impl_RigidityMatrix_L1 f) BIG (0, ([] : List (List Int)))).bind (fun b24 =>
 some b24
))
)
)

def m_impl_copyLists_L1 (l : (List (List Int))) (s1 : (Int × (List (List Int)))) : Option ((Int × (List (List Int))) ⊕ (List (List Int))) :=
(bif (decide (s1.1 < (l.length : Int))) then
(idx l s1.1).bind (fun x12 =>
(m_impl_copyInts x12).bind (fun r13 =>
(lim (s1.2.length + 1)).bind (fun u14 =>
 some (.inl ((w64 (s1.1 + 1)), (s1.2 ++ [r13])))
)
)
)
 else
 some (.inr s1.2)
)
def m_impl_copyLists (l : (List (List Int))) : Option (List (List Int)) :=
((loopM (m_impl_copyLists_L1 l) BIG (0, ([] : List (List Int)))).bind (fun b10 =>
 some b10
))

def m_impl_reduced_L10 (s2 : (Int × (List (List Int)) × Int × (List Int))) (s156 : Int) : Option (Int ⊕ (Int × Int × Int × Int × (List (List Int)) × (List Int))) :=
(((
(bif (decide (s156 < (s2.2.1.length : Int))) then
(idx s2.2.1 s156).bind (fun x179 =>
(idx x179 s2.1).bind (fun x180 =>
 some (x180 == 0)
)
)
 else
 some false
)
) : Option Bool).bind (fun j177 =>
(bif j177 then
 some (.inl (w64 (s156 + 1)))
 else
 some (.inr (s2.2.2.1, s2.1, (s2.2.2.2.length : Int), s156, s2.2.1, s2.2.2.2))
)
))
def m_impl_reduced_L14 (columns : Int) (s189 : (Int × Int × Int × Int × Int × Int × (List Int) × (List (List Int)))) (x238 : Int) (s239 : (Int × (List (List Int)))) : Option ((Int × (List (List Int))) ⊕ (Int × Int × Int × Int × Int × Int × (List (List Int)) × (List Int))) :=
(bif (decide (s239.1 < columns)) then
(idx s239.2 s189.1).bind (fun x258 =>
(idx s239.2 s189.1).bind (fun x259 =>
(idx x259 s239.1).bind (fun x260 =>
(idx s239.2 s189.2.2.2.1).bind (fun x261 =>
(idx x261 s239.1).bind (fun x262 =>
(nz s189.2.1).bind (fun u263 =>
(idx x258 s239.1).bind (fun x264 =>
 some (.inl ((w64 (s239.1 + 1)), (s239.2.set s189.1.toNat (x258.set s239.1.toNat (w64 (Int.tdiv (w64 ((w64 (s189.2.2.2.2.1 * x260)) - (w64 (x238 * x262)))) s189.2.1))))))
)
)
)
)
)
)
)
 else
 some (.inr (s189.2.1, s189.2.2.1, s189.2.2.2.1, s189.2.2.2.2.1, s189.2.2.2.2.2.1, s189.1, s239.2, s189.2.2.2.2.2.2.1))
)
def m_impl_reduced_L13 (columns : Int) (s189 : (Int × Int × Int × Int × Int × Int × (List Int) × (List (List Int)))) : Option ((Int × Int × Int × Int × Int × Int × (List Int) × (List (List Int))) ⊕ (Int × Int × (List (List Int)) × (List Int))) :=
(bif (decide (s189.1 < s189.2.2.2.2.2.1)) then
(bif (s189.1 == s189.2.2.2.1) then
 some (.inl ((w64 (s189.1 + 1)), s189.2.1, s189.2.2.1, s189.2.2.2.1, s189.2.2.2.2.1, s189.2.2.2.2.2.1, s189.2.2.2.2.2.2.1, s189.2.2.2.2.2.2.2))
 else
(idx s189.2.2.2.2.2.2.2 s189.1).bind (fun x237 =>
(idx x237 s189.2.2.1).bind (fun x238 =>
((loopM (m_impl_reduced_L14 columns s189 x238) BIG (0, s189.2.2.2.2.2.2.2)).bind (fun b256 =>
 some (.inl ((w64 (b256.2.2.2.2.2.1 + 1)), b256.1, b256.2.1, b256.2.2.1, b256.2.2.2.1, b256.2.2.2.2.1, b256.2.2.2.2.2.2.2, b256.2.2.2.2.2.2.1))
))
)
)
)
 else
 some (.inr (s189.2.2.1, s189.2.2.2.2.1, s189.2.2.2.2.2.2.2, s189.2.2.2.2.2.2.1))
)
def m_impl_reduced_L9 (columns : Int) (s2 : (Int × (List (List Int)) × Int × (List Int))) : Option ((Int × (List (List Int)) × Int × (List Int)) ⊕ (Int × (List (List Int)) × (List Int))) :=
(((
(bif (decide (s2.1 < columns)) then
 some (decide ((s2.2.2.2.length : Int) < (s2.2.1.length : Int)))
 else
 some false
)
) : Option Bool).bind (fun j153 =>
(bif j153 then
((loopM (m_impl_reduced_L10 s2) BIG (s2.2.2.2.length : Int)).bind (fun b173 =>
(bif (b173.2.2.2.1 == (b173.2.2.2.2.1.length : Int)) then
 some (.inl ((w64 (b173.2.1 + 1)), b173.2.2.2.2.1, b173.1, b173.2.2.2.2.2))
 else
(idx b173.2.2.2.2.1 b173.2.2.2.1).bind (fun x183 =>
(idx b173.2.2.2.2.1 b173.2.2.1).bind (fun x184 =>
(idx b173.2.2.2.2.1 b173.2.2.1).bind (fun x185 =>
(idx b173.2.2.2.2.1 b173.2.2.2.1).bind (fun x186 =>
(idx ((b173.2.2.2.2.1.set b173.2.2.1.toNat x183).set b173.2.2.2.1.toNat x184) b173.2.2.1).bind (fun x187 =>
(idx x187 b173.2.1).bind (fun x188 =>
((loopM (m_impl_reduced_L13 columns) BIG (0, b173.1, b173.2.1, b173.2.2.1, x188, (b173.2.2.2.2.1.length : Int), b173.2.2.2.2.2, ((b173.2.2.2.2.1.set b173.2.2.1.toNat x183).set b173.2.2.2.1.toNat x184))).bind (fun b234 =>
(lim (b234.2.2.2.length + ([b234.1] : List Int).length)).bind (fun u265 =>
 some (.inl ((w64 (b234.1 + 1)), b234.2.2.1, b234.2.1, (b234.2.2.2 ++ ([b234.1] : List Int))))
)
))
)
)
)
)
)
)
)
))
 else
 some (.inr (s2.2.2.1, s2.2.1, s2.2.2.2))
)
))
def m_impl_reduced (m : (List (List Int))) (columns : Int) : Option ((List (List Int)) × (List Int) × Int) :=
(m_impl_copyLists m).bind (fun r1 =>
((loopM (m_impl_reduced_L9 columns) BIG (0, r1, 1, ([] : List Int))).bind (fun b151 =>
 some (b151.2.1, b151.2.2, b151.1)
))
)

def m_impl_rank (m : (List (List Int))) (columns : Int) : Option Int :=
(m_impl_reduced m columns).bind (fun r1 =>
 some (r1.2.1.length : Int)
)

def m_impl_FrameworkRank (f : TFramework) : Option Int :=
(m_impl_IsFramework f).bind (fun r1 =>
(bif (!r1) then
 some (-1)
 else
(m_impl_RigidityMatrix f).bind (fun r3 =>
(m_impl_rank r3 (w64 (2 * f.Graph.Points))).bind (fun r4 =>
 some r4
)
)
)
)

def m_impl_LostRank (f : TFramework) : Option Int :=
(m_impl_IsFramework f).bind (fun r1 =>
(bif (!r1) then
 some (-1)
 else
(m_impl_RankOf f.Graph 2 3).bind (fun r3 =>
(m_impl_FrameworkRank f).bind (fun r4 =>
 some (w64 (r3 - r4))
)
)
)
)

def m_laws_eqPlace (a : TPlace) (b : TPlace) : Option Bool :=
(bif (a.X != b.X) then
 some false
 else
(bif (a.Y != b.Y) then
 some false
 else
 some true
)
)

def m_laws_eqPlaceS_L1 (a : (List TPlace)) (b : (List TPlace)) (s2 : Int) : Option (Int ⊕ (Unit ⊕ Bool)) :=
(bif (decide (s2 < (a.length : Int))) then
(idx a s2).bind (fun x15 =>
(idx b s2).bind (fun x16 =>
(m_laws_eqPlace x15 x16).bind (fun r17 =>
(bif (!r17) then
 some (.inr (.inr false))
 else
 some (.inl (w64 (s2 + 1)))
)
)
)
)
 else
 some (.inr (.inl ()))
)
def m_laws_eqPlaceS (a : (List TPlace)) (b : (List TPlace)) : Option Bool :=
(bif ((a.length : Int) != (b.length : Int)) then
 some false
 else
((loopM (m_laws_eqPlaceS_L1 a b) BIG 0).bind (Sum.elim (fun b13 => (
 some true
)) (fun r => some r)))
)

def m_laws_eqFramework (a : TFramework) (b : TFramework) : Option Bool :=
(m_laws_eqGraph a.Graph b.Graph).bind (fun r1 =>
(bif (!r1) then
 some false
 else
(m_laws_eqPlaceS a.Places b.Places).bind (fun r3 =>
(bif (!r3) then
 some false
 else
 some true
)
)
)
)

def m_laws_FnExactLostRank (aF : TFramework) : Option Bool :=
(m_laws_szFramework aF 1048576).bind (fun r1 =>
(bif (decide (r1 < 0)) then
 some true
 else
(m_laws_toFramework aF).bind (fun r3 =>
(m_spec_LostRank r3).bind (fun r4 =>
(m_laws_toFramework aF).bind (fun r5 =>
(m_impl_LostRank r5).bind (fun r6 =>
(bif (r6 != r4) then
 some false
 else
(m_laws_toFramework aF).bind (fun r8 =>
(m_laws_eqFramework r5 r8).bind (fun r9 =>
(bif (!r9) then
 some false
 else
 some true
)
)
)
)
)
)
)
)
)
)

def m_spec_IsSpecial (f : TFramework) : Option Bool :=
(m_spec_LostRank f).bind (fun r1 =>
 some (decide (0 < r1))
)

def m_impl_IsSpecial (f : TFramework) : Option Bool :=
(m_impl_LostRank f).bind (fun r1 =>
 some (decide (0 < r1))
)

def m_laws_FnExactIsSpecial (aF : TFramework) : Option Bool :=
(m_laws_szFramework aF 1048576).bind (fun r1 =>
(bif (decide (r1 < 0)) then
 some true
 else
(m_laws_toFramework aF).bind (fun r3 =>
(m_spec_IsSpecial r3).bind (fun r4 =>
(m_laws_toFramework aF).bind (fun r5 =>
(m_impl_IsSpecial r5).bind (fun r6 =>
(bif (r6 != r4) then
 some false
 else
(m_laws_toFramework aF).bind (fun r8 =>
(m_laws_eqFramework r5 r8).bind (fun r9 =>
(bif (!r9) then
 some false
 else
 some true
)
)
)
)
)
)
)
)
)
)

def m_spec_l2Copy (g : TGraph) : Option TGraph :=
(lim (([] : List TBar).length + g.Bars.length)).bind (fun u1 =>
 some (TGraph.mk g.Points (([] : List TBar) ++ g.Bars))
)

def m_spec_NextSeed (seed : Int) : Option Int :=
(m_spec_l1In seed 0 65535).bind (fun r1 =>
(bif (!r1) then
 some 0
 else
 some (Int.tmod (w64 ((w64 (seed * 25173)) + 13849)) 65536)
)
)

def m_spec_PlacesFor_L1 (g : TGraph) (r1 : TGraph) (s10 : (Int × Int × (List TPlace))) : Option ((Int × Int × (List TPlace)) ⊕ ((List TBar) × (List TPlace) × Int)) :=
(bif (decide (s10.2.1 < g.Points)) then
(m_spec_NextSeed s10.1).bind (fun r19 =>
(lim (s10.2.2.length + [(TPlace.mk (Int.tmod (Int.tmod (w64 (Int.tdiv r19 16)) 25) 5) (w64 (Int.tdiv (Int.tmod (w64 (Int.tdiv r19 16)) 25) 5)))].length)).bind (fun u20 =>
 some (.inl (r19, (w64 (s10.2.1 + 1)), (s10.2.2 ++ [(TPlace.mk (Int.tmod (Int.tmod (w64 (Int.tdiv r19 16)) 25) 5) (w64 (Int.tdiv (Int.tmod (w64 (Int.tdiv r19 16)) 25) 5)))])))
)
)
 else
 some (.inr (r1.Bars, s10.2.2, r1.Points))
)
def m_spec_PlacesFor (g : TGraph) (seed : Int) : Option (TFramework × Bool) :=
(m_spec_l2Copy g).bind (fun r1 =>
(((
(m_spec_IsGraph g).bind (fun r6 =>
(bif (!r6) then
 some true
 else
(m_spec_l1In seed 0 65535).bind (fun r8 =>
 some (!r8)
)
)
)
) : Option Bool).bind (fun j5 =>
(bif j5 then
 some ((TFramework.mk (TGraph.mk 0 ([] : List TBar)) ([] : List TPlace)), false)
 else
((loopM (m_spec_PlacesFor_L1 g r1) BIG (seed, 0, ([] : List TPlace))).bind (fun b17 =>
(m_spec_IsFramework (TFramework.mk (TGraph.mk b17.2.2 b17.1) b17.2.1)).bind (fun r21 =>
(bif (!r21) then
 some ((TFramework.mk (TGraph.mk 0 ([] : List TBar)) ([] : List TPlace)), false)
 else
 some ((TFramework.mk (TGraph.mk b17.2.2 b17.1) b17.2.1), true)
)
)
))
)
))
)

def m_spec_IsGenericHere (f : TFramework) : Option Bool :=
(((
(m_spec_IsFramework f).bind (fun r6 =>
(bif r6 then
(m_spec_FrameworkRank f).bind (fun r8 =>
(m_spec_RankOf f.Graph 2 3).bind (fun r9 =>
 some (r8 == r9)
)
)
 else
 some false
)
)
) : Option Bool).bind (fun j5 =>
 some j5
))

def m_spec_GenericPlaces_L1 (g : TGraph) (s1 : (Int × Int)) : Option ((Int × Int) ⊕ (Unit ⊕ (TFramework × Int × Bool))) :=
(((
(bif (decide (s1.2 ≤ 20)) then
(m_spec_l1In s1.1 0 65535).bind (fun r35 =>
 some r35
)
 else
 some false
)
) : Option Bool).bind (fun j33 =>
(bif j33 then
(m_spec_PlacesFor g s1.1).bind (fun r37 =>
(((
(bif r37.2 then
(m_spec_IsGenericHere r37.1).bind (fun r42 =>
 some r42
)
 else
 some false
)
) : Option Bool).bind (fun j40 =>
(bif j40 then
 some (.inr (.inr (r37.1, s1.2, true)))
 else
(m_spec_NextSeed s1.1).bind (fun r44 =>
 some (.inl (r44, (w64 (s1.2 + 1))))
)
)
))
)
 else
 some (.inr (.inl ()))
)
))
def m_spec_GenericPlaces (g : TGraph) (seed : Int) : Option (TFramework × Int × Bool) :=
((loopM (m_spec_GenericPlaces_L1 g) BIG (seed, 1)).bind (Sum.elim (fun b30 => (
 some ((TFramework.mk (TGraph.mk 0 ([] : List TBar)) ([] : List TPlace)), 0, false)
)) (fun r => some r)))

def m_impl_copyGraph (g : TGraph) : Option TGraph :=
(lim (([] : List TBar).length + g.Bars.length)).bind (fun u1 =>
 some (TGraph.mk g.Points (([] : List TBar) ++ g.Bars))
)

def m_impl_NextSeed (seed : Int) : Option Int :=
(m_impl_within seed 0 65535).bind (fun r1 =>
(bif (!r1) then
 some 0
 else
 some (Int.tmod (w64 ((w64 (25173 * seed)) + 13849)) 65536)
)
)

def m_impl_PlacesFor_L1 (g : TGraph) (r9 : TGraph) (s10 : (Int × Int × (List TPlace))) : Option ((Int × Int × (List TPlace)) ⊕ ((List TBar) × Int × (List TPlace))) :=
(bif (decide (s10.2.1 < g.Points)) then
(m_impl_NextSeed s10.1).bind (fun r19 =>
(lim (s10.2.2.length + [(TPlace.mk (Int.tmod (Int.tmod (w64 (Int.tdiv r19 16)) 25) 5) (w64 (Int.tdiv (Int.tmod (w64 (Int.tdiv r19 16)) 25) 5)))].length)).bind (fun u20 =>
 some (.inl (r19, (w64 (s10.2.1 + 1)), (s10.2.2 ++ [(TPlace.mk (Int.tmod (Int.tmod (w64 (Int.tdiv r19 16)) 25) 5) (w64 (Int.tdiv (Int.tmod (w64 (Int.tdiv r19 16)) 25) 5)))])))
)
)
 else
 some (.inr (r9.Bars, r9.Points, s10.2.2))
)
def m_impl_PlacesFor (g : TGraph) (seed : Int) : Option (TFramework × Bool) :=
(((
(m_impl_IsGraph g).bind (fun r5 =>
(bif (!r5) then
 some true
 else
(m_impl_within seed 0 65535).bind (fun r7 =>
 some (!r7)
)
)
)
) : Option Bool).bind (fun j4 =>
(bif j4 then
 some ((TFramework.mk (TGraph.mk 0 ([] : List TBar)) ([] : List TPlace)), false)
 else
(m_impl_copyGraph g).bind (fun r9 =>
((loopM (m_impl_PlacesFor_L1 g r9) BIG (seed, 0, ([] : List TPlace))).bind (fun b17 =>
(m_impl_IsFramework (TFramework.mk (TGraph.mk b17.2.1 b17.1) b17.2.2)).bind (fun r21 =>
(bif (!r21) then
 some ((TFramework.mk (TGraph.mk 0 ([] : List TBar)) ([] : List TPlace)), false)
 else
 some ((TFramework.mk (TGraph.mk b17.2.1 b17.1) b17.2.2), true)
)
)
))
)
)
))

def m_impl_IsGenericHere (f : TFramework) : Option Bool :=
(((
(m_impl_IsFramework f).bind (fun r6 =>
(bif r6 then
(m_impl_FrameworkRank f).bind (fun r8 =>
(m_impl_RankOf f.Graph 2 3).bind (fun r9 =>
 some (r8 == r9)
)
)
 else
 some false
)
)
) : Option Bool).bind (fun j5 =>
 some j5
))

def m_impl_GenericPlaces_L1 (g : TGraph) (s3 : (Int × Int)) : Option ((Int × Int) ⊕ (Unit ⊕ (TFramework × Int × Bool))) :=
(bif (decide (s3.2 ≤ 20)) then
(m_impl_PlacesFor g s3.1).bind (fun r24 =>
(((
(bif r24.2 then
(m_impl_IsGenericHere r24.1).bind (fun r29 =>
 some r29
)
 else
 some false
)
) : Option Bool).bind (fun j27 =>
(bif j27 then
 some (.inr (.inr (r24.1, s3.2, true)))
 else
(m_impl_NextSeed s3.1).bind (fun r31 =>
 some (.inl (r31, (w64 (s3.2 + 1))))
)
)
))
)
 else
 some (.inr (.inl ()))
)
def m_impl_GenericPlaces (g : TGraph) (seed : Int) : Option (TFramework × Int × Bool) :=
(m_impl_within seed 0 65535).bind (fun r1 =>
(bif (!r1) then
 some ((TFramework.mk (TGraph.mk 0 ([] : List TBar)) ([] : List TPlace)), 0, false)
 else
((loopM (m_impl_GenericPlaces_L1 g) BIG (seed, 1)).bind (Sum.elim (fun b22 => (
 some ((TFramework.mk (TGraph.mk 0 ([] : List TBar)) ([] : List TPlace)), 0, false)
)) (fun r => some r)))
)
)

def m_laws_markPlaceS_L1  (s1 : (Int × Int × (List TPlace))) : Option ((Int × Int × (List TPlace)) ⊕ (Int × (List TPlace))) :=
(bif (decide (s1.2.1 < (s1.2.2.length : Int))) then
(idx s1.2.2 s1.2.1).bind (fun x10 =>
(idx (s1.2.2.set s1.2.1.toNat (TPlace.mk s1.1 x10.Y)) s1.2.1).bind (fun x11 =>
 some (.inl ((w64 ((w64 (s1.1 + 1)) + 1)), (w64 (s1.2.1 + 1)), ((s1.2.2.set s1.2.1.toNat (TPlace.mk s1.1 x10.Y)).set s1.2.1.toNat (TPlace.mk x11.X (w64 (s1.1 + 1))))))
)
)
 else
 some (.inr (s1.1, s1.2.2))
)
def m_laws_markPlaceS (a : (List TPlace)) (k : Int) : Option (Int × (List TPlace)) :=
((loopM (m_laws_markPlaceS_L1) BIG (k, 0, a)).bind (fun b8 =>
 some (b8.1, b8.2)
))

def m_laws_markFramework (a : TFramework) (k : Int) : Option (Int × (List TBar) × (List TPlace)) :=
(m_laws_markGraph a.Graph k).bind (fun r1 =>
(m_laws_markPlaceS a.Places r1.1).bind (fun r2 =>
 some (r2.1, r1.2, r2.2)
)
)

def m_laws_heldBarS_L1 (a : (List TBar)) (s1 : (Int × Int)) : Option ((Int × Int) ⊕ (Int ⊕ Int)) :=
(bif (decide (s1.2 < (a.length : Int))) then
(idx a s1.2).bind (fun x14 =>
(bif (x14.A != s1.1) then
 some (.inr (.inr (-1)))
 else
(idx a s1.2).bind (fun x16 =>
(bif (x16.B != (w64 (s1.1 + 1))) then
 some (.inr (.inr (-1)))
 else
 some (.inl ((w64 ((w64 (s1.1 + 1)) + 1)), (w64 (s1.2 + 1))))
)
)
)
)
 else
 some (.inr (.inl s1.1))
)
def m_laws_heldBarS (a : (List TBar)) (k : Int) : Option Int :=
((loopM (m_laws_heldBarS_L1 a) BIG (k, 0)).bind (Sum.elim (fun b12 => (
 some b12
)) (fun r => some r)))

def m_laws_heldGraph (a : TGraph) (k : Int) : Option Int :=
(m_laws_heldBarS a.Bars k).bind (fun r1 =>
(bif (decide (r1 < 0)) then
 some (-1)
 else
 some r1
)
)

def m_laws_heldPlaceS_L1 (a : (List TPlace)) (s1 : (Int × Int)) : Option ((Int × Int) ⊕ (Int ⊕ Int)) :=
(bif (decide (s1.2 < (a.length : Int))) then
(idx a s1.2).bind (fun x14 =>
(bif (x14.X != s1.1) then
 some (.inr (.inr (-1)))
 else
(idx a s1.2).bind (fun x16 =>
(bif (x16.Y != (w64 (s1.1 + 1))) then
 some (.inr (.inr (-1)))
 else
 some (.inl ((w64 ((w64 (s1.1 + 1)) + 1)), (w64 (s1.2 + 1))))
)
)
)
)
 else
 some (.inr (.inl s1.1))
)
def m_laws_heldPlaceS (a : (List TPlace)) (k : Int) : Option Int :=
((loopM (m_laws_heldPlaceS_L1 a) BIG (k, 0)).bind (Sum.elim (fun b12 => (
 some b12
)) (fun r => some r)))

def m_laws_heldFramework (a : TFramework) (k : Int) : Option Int :=
(m_laws_heldGraph a.Graph k).bind (fun r1 =>
(bif (decide (r1 < 0)) then
 some (-1)
 else
(m_laws_heldPlaceS a.Places r1).bind (fun r3 =>
(bif (decide (r3 < 0)) then
 some (-1)
 else
 some r3
)
)
)
)

def m_laws_FnExactGenericPlaces (aG : TGraph) (aSeed : Int) : Option Bool :=
(m_laws_szGraph aG 1048576).bind (fun r1 =>
(bif (decide (r1 < 0)) then
 some true
 else
(m_laws_toGraph aG).bind (fun r3 =>
(m_spec_GenericPlaces r3 aSeed).bind (fun r4 =>
(m_laws_toGraph aG).bind (fun r5 =>
(m_impl_GenericPlaces r5 aSeed).bind (fun r6 =>
(((
(m_laws_eqFramework r6.1 r4.1).bind (fun r11 =>
(bif (!r11) then
 some true
 else
(bif (r6.2.1 != r4.2.1) then
 some true
 else
 some (r6.2.2 != r4.2.2)
)
)
)
) : Option Bool).bind (fun j10 =>
(bif j10 then
 some false
 else
(m_laws_toGraph aG).bind (fun r15 =>
(m_laws_eqGraph r5 r15).bind (fun r16 =>
(bif (!r16) then
 some false
 else
(m_laws_markGraph r5 1).bind (fun r18 =>
(((
(bif (decide (r18.1 < 0)) then
 some true
 else
(m_laws_eqFramework r6.1 r4.1).bind (fun r25 =>
(bif (!r25) then
 some true
 else
(bif (r6.2.1 != r4.2.1) then
 some true
 else
 some (r6.2.2 != r4.2.2)
)
)
)
)
) : Option Bool).bind (fun j23 =>
(bif j23 then
 some false
 else
(m_laws_markFramework r6.1 1).bind (fun r29 =>
(same r6.1.Graph.Bars.length r29.2.1.length).bind (fun u30 =>
(same r6.1.Places.length r29.2.2.length).bind (fun u31 =>
(m_laws_heldFramework (TFramework.mk (TGraph.mk r6.1.Graph.Points r29.2.1) r29.2.2) 1).bind (fun r32 =>
(bif (decide (r32 < 0)) then
 some false
 else
(bif (r32 != r29.1) then
 some false
 else
(m_laws_toGraph aG).bind (fun r35 =>
(m_impl_GenericPlaces r35 aSeed).bind (fun r36 =>
(((
(m_laws_eqFramework r36.1 r4.1).bind (fun r41 =>
(bif (!r41) then
(same r6.1.Graph.Bars.length r29.2.1.length).bind (fun u43 =>
(same r6.1.Places.length r29.2.2.length).bind (fun u44 =>
 some true
))
 else
(bif (r36.2.1 != r4.2.1) then
(same r6.1.Graph.Bars.length r29.2.1.length).bind (fun u46 =>
(same r6.1.Places.length r29.2.2.length).bind (fun u47 =>
 some true
))
 else
(same r6.1.Graph.Bars.length r29.2.1.length).bind (fun u48 =>
(same r6.1.Places.length r29.2.2.length).bind (fun u49 =>
 some (r36.2.2 != r4.2.2)
))
)
)
)
) : Option Bool).bind (fun j40 =>
(bif j40 then
 some false
 else
(m_laws_heldFramework (TFramework.mk (TGraph.mk r6.1.Graph.Points r29.2.1) r29.2.2) 1).bind (fun r51 =>
(bif (decide (r51 < 0)) then
 some false
 else
(bif (r51 != r29.1) then
 some false
 else
 some true
)
)
)
)
))
)
)
)
)
)))
)
)
))
)
)
)
)
)
))
)
)
)
)
)
)

def m_laws_toIntS_L1 (a : (List Int)) (s2 : (Int × (List Int))) : Option ((Int × (List Int)) ⊕ (List Int)) :=
(bif (decide (s2.1 < (a.length : Int))) then
(idx a s2.1).bind (fun x11 =>
(idx s2.2 s2.1).bind (fun x12 =>
 some (.inl ((w64 (s2.1 + 1)), (s2.2.set s2.1.toNat x11)))
)
)
 else
 some (.inr s2.2)
)
def m_laws_toIntS (a : (List Int)) : Option (List Int) :=
(lenOk (a.length : Int)).bind (fun u1 =>
((loopM (m_laws_toIntS_L1 a) BIG (0, (List.replicate (a.length : Int).toNat (0 : Int)))).bind (fun b9 =>
 some b9
))
)

def m_spec_l13Load_L1 (load : (List Int)) (s1 : Int) : Option (Int ⊕ (Unit ⊕ Bool)) :=
(bif (decide (s1 < (load.length : Int))) then
(idx load s1).bind (fun x12 =>
(m_spec_l1In x12 (-4) 4).bind (fun r13 =>
(bif (!r13) then
 some (.inr (.inr false))
 else
 some (.inl (w64 (s1 + 1)))
)
)
)
 else
 some (.inr (.inl ()))
)
def m_spec_l13Load (f : TFramework) (load : (List Int)) : Option Bool :=
((loopM (m_spec_l13Load_L1 load) BIG 0).bind (Sum.elim (fun b10 => (
(((
(m_spec_IsFramework f).bind (fun r18 =>
(bif r18 then
 some ((load.length : Int) == (w64 (2 * f.Graph.Points)))
 else
 some false
)
)
) : Option Bool).bind (fun j17 =>
 some j17
))
)) (fun r => some r)))

def m_spec_l13Turned_L4 (s2 : (Int × (List (List Int)) × (List (List Int)))) (s38 : (Int × (List Int))) : Option ((Int × (List Int)) ⊕ (Int × (List (List Int)) × (List (List Int)) × (List Int))) :=
(bif (decide (s38.1 < (s2.2.1.length : Int))) then
(idx s2.2.1 s38.1).bind (fun x49 =>
(idx x49 s2.1).bind (fun x50 =>
(lim (s38.2.length + ([x50] : List Int).length)).bind (fun u51 =>
 some (.inl ((w64 (s38.1 + 1)), (s38.2 ++ ([x50] : List Int))))
)
)
)
 else
 some (.inr (s2.1, s2.2.1, s2.2.2, s38.2))
)
def m_spec_l13Turned_L3 (f : TFramework) (s2 : (Int × (List (List Int)) × (List (List Int)))) : Option ((Int × (List (List Int)) × (List (List Int))) ⊕ (List (List Int))) :=
(((
(bif (decide (s2.1 < (w64 (2 * f.Graph.Points)))) then
 some (decide (0 < (s2.2.1.length : Int)))
 else
 some false
)
) : Option Bool).bind (fun j35 =>
(bif j35 then
((loopM (m_spec_l13Turned_L4 s2) BIG (0, ([] : List Int))).bind (fun b47 =>
(lim (b47.2.2.1.length + 1)).bind (fun u52 =>
 some (.inl ((w64 (b47.1 + 1)), b47.2.1, (b47.2.2.1 ++ [b47.2.2.2])))
)
))
 else
 some (.inr s2.2.2)
)
))
def m_spec_l13Turned (f : TFramework) : Option (List (List Int)) :=
(m_spec_RigidityMatrix f).bind (fun r1 =>
((loopM (m_spec_l13Turned_L3 f) BIG (0, r1, ([] : List (List Int)))).bind (fun b33 =>
 some b33
))
)

def m_spec_l9Null_L6 (s2 : (Int × (List (List Int)) × (List (List Int)) × (List Int))) (s117 : (Int × Int)) : Option ((Int × Int) ⊕ (Int × Int × (List (List Int)) × (List (List Int)) × (List Int))) :=
(bif (decide (s117.2 < (s2.2.2.2.length : Int))) then
(idx s2.2.2.1 s117.2).bind (fun x146 =>
(idx s2.2.2.2 s117.2).bind (fun x147 =>
(idx x146 x147).bind (fun x148 =>
(idx s2.2.2.1 s117.2).bind (fun x149 =>
(idx s2.2.2.2 s117.2).bind (fun x150 =>
(idx x149 x150).bind (fun x151 =>
(idx s2.2.2.1 s117.2).bind (fun x152 =>
(idx x152 s2.1).bind (fun x153 =>
(m_spec_GcdOf (if x148 < (w64 (-x151)) then (w64 (-x151)) else x148) x153).bind (fun r154 =>
(nz r154).bind (fun u155 =>
(m_spec_GcdOf s117.1 (w64 (Int.tdiv (if x148 < (w64 (-x151)) then (w64 (-x151)) else x148) r154))).bind (fun r156 =>
(nz r156).bind (fun u157 =>
 some (.inl ((w64 ((w64 (Int.tdiv s117.1 r156)) * (w64 (Int.tdiv (if x148 < (w64 (-x151)) then (w64 (-x151)) else x148) r154)))), (w64 (s117.2 + 1))))
)
)
)
)
)
)
)
)
)
)
)
)
 else
 some (.inr (s2.1, s117.1, s2.2.1, s2.2.2.1, s2.2.2.2))
)
def m_spec_l9Null_L7 (b144 : (Int × Int × (List (List Int)) × (List (List Int)) × (List Int))) (s160 : (Int × (List Int))) : Option ((Int × (List Int)) ⊕ (Int × (List (List Int)) × (List (List Int)) × (List Int) × (List Int))) :=
(bif (decide (s160.1 < (b144.2.2.2.2.length : Int))) then
(idx b144.2.2.2.2 s160.1).bind (fun x181 =>
(idx b144.2.2.2.1 s160.1).bind (fun x182 =>
(idx x182 b144.1).bind (fun x183 =>
(idx b144.2.2.2.1 s160.1).bind (fun x184 =>
(idx b144.2.2.2.2 s160.1).bind (fun x185 =>
(idx x184 x185).bind (fun x186 =>
(nz x186).bind (fun u187 =>
(idx s160.2 x181).bind (fun x188 =>
 some (.inl ((w64 (s160.1 + 1)), (s160.2.set x181.toNat (w64 (-(w64 (Int.tdiv (w64 (x183 * b144.2.1)) x186)))))))
)
)
)
)
)
)
)
)
 else
 some (.inr (b144.1, b144.2.2.1, b144.2.2.2.1, b144.2.2.2.2, s160.2))
)
def m_spec_l9Null_L5 (columns : Int) (s2 : (Int × (List (List Int)) × (List (List Int)) × (List Int))) : Option ((Int × (List (List Int)) × (List (List Int)) × (List Int)) ⊕ (List (List Int))) :=
(bif (decide (s2.1 < columns)) then
(m_spec_l2Has s2.2.2.2 s2.1).bind (fun r115 =>
(bif r115 then
 some (.inl ((w64 (s2.1 + 1)), s2.2.1, s2.2.2.1, s2.2.2.2))
 else
((loopM (m_spec_l9Null_L6 s2) BIG (1, 0)).bind (fun b144 =>
(lenOk columns).bind (fun u158 =>
(idx (List.replicate columns.toNat (0 : Int)) b144.1).bind (fun x159 =>
((loopM (m_spec_l9Null_L7 b144) BIG (0, ((List.replicate columns.toNat (0 : Int)).set b144.1.toNat b144.2.1))).bind (fun b179 =>
(m_spec_PrimitiveVector b179.2.2.2.2).bind (fun r189 =>
(lim (b179.2.1.length + [r189].length)).bind (fun u190 =>
 some (.inl ((w64 (b179.1 + 1)), (b179.2.1 ++ [r189]), b179.2.2.1, b179.2.2.2.1))
)
)
))
)
)
))
)
)
 else
 some (.inr s2.2.1)
)
def m_spec_l9Null (m : (List (List Int))) (columns : Int) : Option (List (List Int)) :=
(m_spec_l9Reduced m).bind (fun r1 =>
((loopM (m_spec_l9Null_L5 columns) BIG (0, ([] : List (List Int)), r1.1, r1.2)).bind (fun b113 =>
 some b113
))
)

def m_spec_l13Solve_L1 (load : (List Int)) (s2 : (Int × (List (List Int)))) : Option ((Int × (List (List Int))) ⊕ (List (List Int))) :=
(bif (decide (s2.1 < (load.length : Int))) then
(((
(bif (decide ((s2.2.length : Int) ≤ s2.1)) then
(lim (s2.2.length + 1)).bind (fun u31 =>
 some (s2.2 ++ [([] : List Int)])
)
 else
 some s2.2
)
) : Option (List (List Int))).bind (fun j29 =>
(idx j29 s2.1).bind (fun x32 =>
(lim (([] : List Int).length + x32.length)).bind (fun u33 =>
(idx load s2.1).bind (fun x34 =>
(lim ((([] : List Int) ++ x32).length + ([x34] : List Int).length)).bind (fun u35 =>
(idx j29 s2.1).bind (fun x36 =>
 some (.inl ((w64 (s2.1 + 1)), (j29.set s2.1.toNat ((([] : List Int) ++ x32) ++ ([x34] : List Int)))))
)
)
)
)
)
))
 else
 some (.inr s2.2)
)
def m_spec_l13Solve (f : TFramework) (load : (List Int)) : Option (List (List Int)) :=
(m_spec_l13Turned f).bind (fun r1 =>
((loopM (m_spec_l13Solve_L1 load) BIG (0, r1)).bind (fun b25 =>
(m_spec_l9Null b25 (w64 ((f.Graph.Bars.length : Int) + 1))).bind (fun r37 =>
 some r37
)
))
)

def m_spec_BearingForces_L4 (f : TFramework) (r3 : (List (List Int))) (s4 : Int) (x84 : Int) (s86 : (Int × (List Int))) : Option ((Int × (List Int)) ⊕ (Int × (List Int))) :=
(bif (decide (s86.1 < (f.Graph.Bars.length : Int))) then
(((
(bif (decide (0 < x84)) then
(idx r3 s4).bind (fun x130 =>
(idx x130 s86.1).bind (fun x131 =>
(lim (s86.2.length + ([(w64 (-x131))] : List Int).length)).bind (fun u132 =>
 some (s86.2 ++ ([(w64 (-x131))] : List Int))
)
)
)
 else
(idx r3 s4).bind (fun x133 =>
(idx x133 s86.1).bind (fun x134 =>
(lim (s86.2.length + ([x134] : List Int).length)).bind (fun u135 =>
 some (s86.2 ++ ([x134] : List Int))
)
)
)
)
) : Option (List Int)).bind (fun j128 =>
 some (.inl ((w64 (s86.1 + 1)), j128))
))
 else
 some (.inr (x84, s86.2))
)
def m_spec_BearingForces_L3 (f : TFramework) (r3 : (List (List Int))) (s4 : Int) : Option (Int ⊕ (Unit ⊕ ((List Int) × Int × Bool))) :=
(bif (decide (s4 < (r3.length : Int))) then
(idx r3 s4).bind (fun x83 =>
(idx x83 (f.Graph.Bars.length : Int)).bind (fun x84 =>
(bif (x84 == 0) then
 some (.inl (w64 (s4 + 1)))
 else
((loopM (m_spec_BearingForces_L4 f r3 s4 x84) BIG (0, ([] : List Int))).bind (fun b119 =>
 some (.inr (.inr (b119.2, (if b119.1 < (w64 (-b119.1)) then (w64 (-b119.1)) else b119.1), true)))
))
)
)
)
 else
 some (.inr (.inl ()))
)
def m_spec_BearingForces (f : TFramework) (load : (List Int)) : Option ((List Int) × Int × Bool) :=
(m_spec_l13Load f load).bind (fun r1 =>
(bif (!r1) then
 some (([] : List Int), 0, false)
 else
(m_spec_l13Solve f load).bind (fun r3 =>
((loopM (m_spec_BearingForces_L3 f r3) BIG 0).bind (Sum.elim (fun b81 => (
 some (([] : List Int), 0, false)
)) (fun r => some r)))
)
)
)

def m_impl_isLoad_L1 (load : (List Int)) (s1 : Int) : Option (Int ⊕ (Unit ⊕ Bool)) :=
(bif (decide (s1 < (load.length : Int))) then
(idx load s1).bind (fun x12 =>
(m_impl_within x12 (-4) 4).bind (fun r13 =>
(bif (!r13) then
 some (.inr (.inr false))
 else
 some (.inl (w64 (s1 + 1)))
)
)
)
 else
 some (.inr (.inl ()))
)
def m_impl_isLoad (f : TFramework) (load : (List Int)) : Option Bool :=
((loopM (m_impl_isLoad_L1 load) BIG 0).bind (Sum.elim (fun b10 => (
(((
(m_impl_IsFramework f).bind (fun r18 =>
(bif r18 then
 some ((load.length : Int) == (w64 (2 * f.Graph.Points)))
 else
 some false
)
)
) : Option Bool).bind (fun j17 =>
 some j17
))
)) (fun r => some r)))

def m_impl_transposed_L4 (m : (List (List Int))) (s2 : (Int × (List (List Int)))) (s38 : (Int × (List (List Int)))) : Option ((Int × (List (List Int))) ⊕ (Int × (List (List Int)))) :=
(bif (decide (s38.1 < (m.length : Int))) then
(idx m s38.1).bind (fun x53 =>
(idx s38.2 s2.1).bind (fun x54 =>
(idx x53 s2.1).bind (fun x55 =>
(lim (x54.length + ([x55] : List Int).length)).bind (fun u56 =>
(idx (s38.2.set s2.1.toNat []) s2.1).bind (fun x57 =>
 some (.inl ((w64 (s38.1 + 1)), ((s38.2.set s2.1.toNat []).set s2.1.toNat (x54 ++ ([x55] : List Int)))))
)
)
)
)
)
 else
 some (.inr (s2.1, s38.2))
)
def m_impl_transposed_L3 (m : (List (List Int))) (columns : Int) (s2 : (Int × (List (List Int)))) : Option ((Int × (List (List Int))) ⊕ (List (List Int))) :=
(bif (decide (s2.1 < (columns.toNat : Int))) then
(idx s2.2 s2.1).bind (fun x37 =>
((loopM (m_impl_transposed_L4 m s2) BIG (0, (s2.2.set s2.1.toNat ([] : List Int)))).bind (fun b51 =>
 some (.inl ((w64 (b51.1 + 1)), b51.2))
))
)
 else
 some (.inr s2.2)
)
def m_impl_transposed (m : (List (List Int))) (columns : Int) : Option (List (List Int)) :=
(lenOk columns).bind (fun u1 =>
((loopM (m_impl_transposed_L3 m columns) BIG (0, (List.replicate columns.toNat ([] : List Int)))).bind (fun b35 =>
 some b35
))
)

def m_impl_isGreat (x : Int) : Option Bool :=
(((
(bif (decide (9000000000000000000 < x)) then
 some true
 else
 some (decide (x < (-9000000000000000000)))
)
) : Option Bool).bind (fun j2 =>
 some j2
))

def m_impl_GcdOf_L1  (s9 : (Int × Int)) : Option ((Int × Int) ⊕ Int) :=
(bif (s9.2 != 0) then
(nz s9.2).bind (fun u16 =>
 some (.inl (s9.2, (Int.tmod s9.1 s9.2)))
)
 else
 some (.inr s9.1)
)
def m_impl_GcdOf (a : Int) (b : Int) : Option Int :=
(((
(m_impl_isGreat a).bind (fun r5 =>
(bif r5 then
 some true
 else
(m_impl_isGreat b).bind (fun r7 =>
 some r7
)
)
)
) : Option Bool).bind (fun j4 =>
(bif j4 then
 some 0
 else
((loopM (m_impl_GcdOf_L1) BIG ((if a < (w64 (-a)) then (w64 (-a)) else a), (if b < (w64 (-b)) then (w64 (-b)) else b))).bind (fun b14 =>
 some b14
))
)
))

def m_impl_PrimitiveVector_L1 (v : (List Int)) (r1 : (List Int)) (s2 : (Int × Int × Int)) : Option ((Int × Int × Int) ⊕ ((Int × Int × (List Int)) ⊕ (List Int))) :=
(bif (decide (s2.2.2 < (v.length : Int))) then
(idx v s2.2.2).bind (fun x21 =>
(m_impl_isGreat x21).bind (fun r22 =>
(bif r22 then
 some (.inr (.inr r1))
 else
(m_impl_GcdOf s2.1 x21).bind (fun r24 =>
(((
(bif (s2.2.1 == 0) then
 some x21
 else
 some s2.2.1
)
) : Option Int).bind (fun j26 =>
 some (.inl (r24, j26, (w64 (s2.2.2 + 1))))
))
)
)
)
)
 else
 some (.inr (.inl (s2.1, s2.2.1, r1)))
)
def m_impl_PrimitiveVector_L2 (b19 : (Int × Int × (List Int))) (j30 : Int) (s32 : (Int × (List Int))) : Option ((Int × (List Int)) ⊕ (List Int)) :=
(bif (decide (s32.1 < (b19.2.2.length : Int))) then
(idx s32.2 s32.1).bind (fun x43 =>
(nz j30).bind (fun u44 =>
(idx s32.2 s32.1).bind (fun x45 =>
 some (.inl ((w64 (s32.1 + 1)), (s32.2.set s32.1.toNat (w64 (Int.tdiv x43 j30)))))
)
)
)
 else
 some (.inr s32.2)
)
def m_impl_PrimitiveVector (v : (List Int)) : Option (List Int) :=
(m_impl_copyInts v).bind (fun r1 =>
((loopM (m_impl_PrimitiveVector_L1 v r1) BIG (0, 0, 0)).bind (Sum.elim (fun b19 => (
(bif (b19.1 == 0) then
 some b19.2.2
 else
(((
(bif (decide (b19.2.1 < 0)) then
 some (w64 (-b19.1))
 else
 some b19.1
)
) : Option Int).bind (fun j30 =>
((loopM (m_impl_PrimitiveVector_L2 b19 j30) BIG (0, b19.2.2)).bind (fun b41 =>
 some b41
))
))
)
)) (fun r => some r)))
)

def m_impl_nullspace_L1 (columns : Int) (r1 : ((List (List Int)) × (List Int) × Int)) (s3 : (Int × (List Int))) : Option ((Int × (List Int)) ⊕ (Int × (List (List Int)) × (List Int) × (List Int))) :=
(bif (decide (s3.1 < ((List.replicate columns.toNat (0 : Int)).length : Int))) then
(idx s3.2 s3.1).bind (fun x10 =>
 some (.inl ((w64 (s3.1 + 1)), (s3.2.set s3.1.toNat (-1))))
)
 else
 some (.inr (r1.2.2, r1.1, r1.2.1, s3.2))
)
def m_impl_nullspace_L2 (b8 : (Int × (List (List Int)) × (List Int) × (List Int))) (s11 : (Int × (List Int))) : Option ((Int × (List Int)) ⊕ (Int × (List (List Int)) × (List Int))) :=
(bif (decide (s11.1 < (b8.2.2.1.length : Int))) then
(idx b8.2.2.1 s11.1).bind (fun x20 =>
(idx s11.2 x20).bind (fun x21 =>
 some (.inl ((w64 (s11.1 + 1)), (s11.2.set x20.toNat s11.1)))
)
)
 else
 some (.inr (b8.1, b8.2.1, s11.2))
)
def m_impl_nullspace_L6 (columns : Int) (s22 : (Int × Int × (List Int) × (List (List Int)) × (List (List Int)))) (s99 : (Int × (List Int))) : Option ((Int × (List Int)) ⊕ (Int × Int × (List (List Int)) × (List Int) × (List (List Int)) × (List Int))) :=
(bif (decide (s99.1 < columns)) then
(idx s22.2.2.1 s99.1).bind (fun x128 =>
(((
(bif (decide (0 ≤ x128)) then
(idx s22.2.2.1 s99.1).bind (fun x136 =>
(idx s22.2.2.2.1 x136).bind (fun x137 =>
(idx x137 s22.1).bind (fun x138 =>
(idx s99.2 s99.1).bind (fun x139 =>
 some (s99.2.set s99.1.toNat (w64 (-x138)))
)
)
)
)
 else
 some s99.2
)
) : Option (List Int)).bind (fun j134 =>
 some (.inl ((w64 (s99.1 + 1)), j134))
))
)
 else
 some (.inr (s22.2.1, s22.1, s22.2.2.2.1, s22.2.2.1, s22.2.2.2.2, s99.2))
)
def m_impl_nullspace_L5 (columns : Int) (s22 : (Int × Int × (List Int) × (List (List Int)) × (List (List Int)))) : Option ((Int × Int × (List Int) × (List (List Int)) × (List (List Int))) ⊕ (List (List Int))) :=
(bif (decide (s22.1 < columns)) then
(idx s22.2.2.1 s22.1).bind (fun x95 =>
(bif (decide (0 ≤ x95)) then
 some (.inl ((w64 (s22.1 + 1)), s22.2.1, s22.2.2.1, s22.2.2.2.1, s22.2.2.2.2))
 else
(lenOk columns).bind (fun u97 =>
(idx (List.replicate columns.toNat (0 : Int)) s22.1).bind (fun x98 =>
((loopM (m_impl_nullspace_L6 columns s22) BIG (0, ((List.replicate columns.toNat (0 : Int)).set s22.1.toNat s22.2.1))).bind (fun b126 =>
(m_impl_PrimitiveVector b126.2.2.2.2.2).bind (fun r140 =>
(lim (b126.2.2.2.2.1.length + 1)).bind (fun u141 =>
 some (.inl ((w64 (b126.2.1 + 1)), b126.1, b126.2.2.2.1, b126.2.2.1, (b126.2.2.2.2.1 ++ [r140])))
)
)
))
)
)
)
)
 else
 some (.inr s22.2.2.2.2)
)
def m_impl_nullspace (m : (List (List Int))) (columns : Int) : Option (List (List Int)) :=
(m_impl_reduced m columns).bind (fun r1 =>
(lenOk columns).bind (fun u2 =>
((loopM (m_impl_nullspace_L1 columns r1) BIG (0, (List.replicate columns.toNat (0 : Int)))).bind (fun b8 =>
((loopM (m_impl_nullspace_L2 b8) BIG (0, b8.2.2.2)).bind (fun b18 =>
((loopM (m_impl_nullspace_L5 columns) BIG (0, b18.1, b18.2.2, b18.2.1, ([] : List (List Int)))).bind (fun b93 =>
 some b93
))
))
))
)
)

def m_impl_BearingForces_L1 (load : (List Int)) (r4 : (List (List Int))) (s5 : (Int × (List (List Int)))) : Option ((Int × (List (List Int))) ⊕ (List (List Int))) :=
(bif (decide (s5.1 < (r4.length : Int))) then
(idx s5.2 s5.1).bind (fun x18 =>
(idx load s5.1).bind (fun x19 =>
(lim (x18.length + ([x19] : List Int).length)).bind (fun u20 =>
(idx (s5.2.set s5.1.toNat []) s5.1).bind (fun x21 =>
 some (.inl ((w64 (s5.1 + 1)), ((s5.2.set s5.1.toNat []).set s5.1.toNat (x18 ++ ([x19] : List Int)))))
)
)
)
)
 else
 some (.inr s5.2)
)
def m_impl_BearingForces_L8 (x77 : Int) (r80 : (List Int)) (s92 : (Int × (List Int))) : Option ((Int × (List Int)) ⊕ (Int × (List Int))) :=
(bif (decide (s92.1 < (r80.length : Int))) then
(idx s92.2 s92.1).bind (fun x101 =>
(idx s92.2 s92.1).bind (fun x102 =>
 some (.inl ((w64 (s92.1 + 1)), (s92.2.set s92.1.toNat (w64 (-x101)))))
)
)
 else
 some (.inr (x77, s92.2))
)
def m_impl_BearingForces_L6 (f : TFramework) (r22 : (List (List Int))) (s23 : Int) : Option (Int ⊕ (Unit ⊕ ((List Int) × Int × Bool))) :=
(bif (decide (s23 < (r22.length : Int))) then
(idx r22 s23).bind (fun x76 =>
(idx x76 (f.Graph.Bars.length : Int)).bind (fun x77 =>
(bif (x77 == 0) then
 some (.inl (w64 (s23 + 1)))
 else
(slc x76 0 (f.Graph.Bars.length : Int)).bind (fun v79 =>
(m_impl_copyInts ((x76.take ((f.Graph.Bars.length : Int).toNat)).drop 0)).bind (fun r80 =>
(((
(bif (decide (0 < x77)) then
((loopM (m_impl_BearingForces_L8 x77 r80) BIG (0, r80)).bind (fun b99 =>
 some (b99.1, b99.2)
))
 else
 some (x77, r80)
)
) : Option (Int × (List Int))).bind (fun j90 =>
 some (.inr (.inr (j90.2, (if j90.1 < (w64 (-j90.1)) then (w64 (-j90.1)) else j90.1), true)))
))
)
)
)
)
)
 else
 some (.inr (.inl ()))
)
def m_impl_BearingForces (f : TFramework) (load : (List Int)) : Option ((List Int) × Int × Bool) :=
(m_impl_isLoad f load).bind (fun r1 =>
(bif (!r1) then
 some (([] : List Int), 0, false)
 else
(m_impl_RigidityMatrix f).bind (fun r3 =>
(m_impl_transposed r3 (w64 (2 * f.Graph.Points))).bind (fun r4 =>
((loopM (m_impl_BearingForces_L1 load r4) BIG (0, r4)).bind (fun b16 =>
(m_impl_nullspace b16 (w64 ((f.Graph.Bars.length : Int) + 1))).bind (fun r22 =>
((loopM (m_impl_BearingForces_L6 f r22) BIG 0).bind (Sum.elim (fun b74 => (
 some (([] : List Int), 0, false)
)) (fun r => some r)))
)
))
)
)
)
)

def m_laws_FnExactBearingForces (aF : TFramework) (aLoad : (List Int)) : Option Bool :=
(bif (decide (1048576 < (aLoad.length : Int))) then
 some true
 else
(m_laws_szFramework aF 1048576).bind (fun r2 =>
(bif (decide (r2 < 0)) then
 some true
 else
(m_laws_toFramework aF).bind (fun r4 =>
(m_laws_toIntS aLoad).bind (fun r5 =>
(m_spec_BearingForces r4 r5).bind (fun r6 =>
(m_laws_toFramework aF).bind (fun r7 =>
(m_laws_toIntS aLoad).bind (fun r8 =>
(m_impl_BearingForces r7 r8).bind (fun r9 =>
(((
(m_laws_eqIntS r9.1 r6.1).bind (fun r14 =>
(bif (!r14) then
 some true
 else
(bif (r9.2.1 != r6.2.1) then
 some true
 else
 some (r9.2.2 != r6.2.2)
)
)
)
) : Option Bool).bind (fun j13 =>
(bif j13 then
 some false
 else
(m_laws_toFramework aF).bind (fun r18 =>
(m_laws_eqFramework r7 r18).bind (fun r19 =>
(bif (!r19) then
 some false
 else
(m_laws_toIntS aLoad).bind (fun r21 =>
(m_laws_eqIntS r8 r21).bind (fun r22 =>
(bif (!r22) then
 some false
 else
(m_laws_markFramework r7 1).bind (fun r24 =>
(m_laws_markIntS r8 r24.1).bind (fun r25 =>
(((
(bif (decide (r25.1 < 0)) then
 some true
 else
(m_laws_eqIntS r9.1 r6.1).bind (fun r32 =>
(bif (!r32) then
 some true
 else
(bif (r9.2.1 != r6.2.1) then
 some true
 else
 some (r9.2.2 != r6.2.2)
)
)
)
)
) : Option Bool).bind (fun j30 =>
(bif j30 then
 some false
 else
(m_laws_markIntS r9.1 1).bind (fun r36 =>
(same r9.1.length r36.2.length).bind (fun u37 =>
(m_laws_heldIntS r36.2 1).bind (fun r38 =>
(bif (decide (r38 < 0)) then
 some false
 else
(bif (r38 != r36.1) then
 some false
 else
(m_laws_toFramework aF).bind (fun r41 =>
(m_laws_toIntS aLoad).bind (fun r42 =>
(m_impl_BearingForces r41 r42).bind (fun r43 =>
(((
(m_laws_eqIntS r43.1 r6.1).bind (fun r48 =>
(bif (!r48) then
(same r9.1.length r36.2.length).bind (fun u50 =>
 some true
)
 else
(bif (r43.2.1 != r6.2.1) then
(same r9.1.length r36.2.length).bind (fun u52 =>
 some true
)
 else
(same r9.1.length r36.2.length).bind (fun u53 =>
 some (r43.2.2 != r6.2.2)
)
)
)
)
) : Option Bool).bind (fun j47 =>
(bif j47 then
 some false
 else
(m_laws_heldIntS r36.2 1).bind (fun r55 =>
(bif (decide (r55 < 0)) then
 some false
 else
(bif (r55 != r36.1) then
 some false
 else
 some true
)
)
)
)
))
)
)
)
)
)
))
)
)
))
)
)
)
)
)
)
)
)
)
))
)
)
)
)
)
)
)
)
)

def m_laws_szIntS (a : (List Int)) (leftV : Int) : Option Int :=
(bif (decide ((w64 (leftV - (a.length : Int))) < 0)) then
 some (-1)
 else
 some (w64 (leftV - (a.length : Int)))
)

def m_laws_szTensegrity (a : TTensegrity) (leftV : Int) : Option Int :=
(m_laws_szFramework a.Framework leftV).bind (fun r1 =>
(bif (decide (r1 < 0)) then
 some (-1)
 else
(m_laws_szIntS a.Kinds r1).bind (fun r3 =>
(bif (decide (r3 < 0)) then
 some (-1)
 else
 some r3
)
)
)
)

def m_laws_toTensegrity (a : TTensegrity) : Option TTensegrity :=
(m_laws_toFramework a.Framework).bind (fun r1 =>
(m_laws_toIntS a.Kinds).bind (fun r2 =>
 some (TTensegrity.mk r1 r2)
)
)

def m_spec_IsTensegrity_L1 (tV : TTensegrity) (s1 : Int) : Option (Int ⊕ (Unit ⊕ Bool)) :=
(bif (decide (s1 < (tV.Kinds.length : Int))) then
(idx tV.Kinds s1).bind (fun x12 =>
(m_spec_l1In x12 0 2).bind (fun r13 =>
(bif (!r13) then
 some (.inr (.inr false))
 else
 some (.inl (w64 (s1 + 1)))
)
)
)
 else
 some (.inr (.inl ()))
)
def m_spec_IsTensegrity (tV : TTensegrity) : Option Bool :=
((loopM (m_spec_IsTensegrity_L1 tV) BIG 0).bind (Sum.elim (fun b10 => (
(((
(m_spec_IsFramework tV.Framework).bind (fun r18 =>
(bif r18 then
 some ((tV.Kinds.length : Int) == (tV.Framework.Graph.Bars.length : Int))
 else
 some false
)
)
) : Option Bool).bind (fun j17 =>
 some j17
))
)) (fun r => some r)))

def m_spec_l13Vector_L1 (w : (List Int)) (s1 : Int) : Option (Int ⊕ (Unit ⊕ Bool)) :=
(bif (decide (s1 < (w.length : Int))) then
(idx w s1).bind (fun x12 =>
(m_spec_l1In x12 (-10000000000) 10000000000).bind (fun r13 =>
(bif (!r13) then
 some (.inr (.inr false))
 else
 some (.inl (w64 (s1 + 1)))
)
)
)
 else
 some (.inr (.inl ()))
)
def m_spec_l13Vector (f : TFramework) (w : (List Int)) : Option Bool :=
((loopM (m_spec_l13Vector_L1 w) BIG 0).bind (Sum.elim (fun b10 => (
(((
(m_spec_IsFramework f).bind (fun r18 =>
(bif r18 then
 some ((w.length : Int) == (f.Graph.Bars.length : Int))
 else
 some false
)
)
) : Option Bool).bind (fun j17 =>
 some j17
))
)) (fun r => some r)))

def m_spec_ForceAt_L1 (f : TFramework) (w : (List Int)) (v : Int) (s1 : (Int × Int × Int)) : Option ((Int × Int × Int) ⊕ (Int × Int)) :=
(((
(bif (decide (s1.2.2 < (w.length : Int))) then
(m_spec_l13Vector f w).bind (fun r61 =>
 some r61
)
 else
 some false
)
) : Option Bool).bind (fun j59 =>
(bif j59 then
(idx f.Graph.Bars s1.2.2).bind (fun x63 =>
(((
(bif (x63.A == v) then
 some true
 else
 some (x63.B == v)
)
) : Option Bool).bind (fun j65 =>
(((
(bif j65 then
(m_spec_l4Other x63 v).bind (fun r77 =>
(idx w s1.2.2).bind (fun x78 =>
(idx f.Places v).bind (fun x79 =>
(idx f.Places r77).bind (fun x80 =>
(idx w s1.2.2).bind (fun x81 =>
(idx f.Places v).bind (fun x82 =>
(idx f.Places r77).bind (fun x83 =>
 some ((w64 (s1.1 + (w64 (x78 * (w64 (x79.X - x80.X)))))), (w64 (s1.2.1 + (w64 (x81 * (w64 (x82.Y - x83.Y)))))))
)
)
)
)
)
)
)
 else
 some (s1.1, s1.2.1)
)
) : Option (Int × Int)).bind (fun j75 =>
 some (.inl (j75.1, j75.2, (w64 (s1.2.2 + 1))))
))
))
)
 else
 some (.inr (s1.1, s1.2.1))
)
))
def m_spec_ForceAt (f : TFramework) (w : (List Int)) (v : Int) : Option (Int × Int) :=
((loopM (m_spec_ForceAt_L1 f w v) BIG (0, 0, 0)).bind (fun b56 =>
 some (b56.1, b56.2)
))

def m_spec_IsStress_L1 (f : TFramework) (w : (List Int)) (s1 : Int) : Option (Int ⊕ (Unit ⊕ Bool)) :=
(((
(bif (decide (s1 < f.Graph.Points)) then
(m_spec_l13Vector f w).bind (fun r29 =>
 some r29
)
 else
 some false
)
) : Option Bool).bind (fun j27 =>
(bif j27 then
(m_spec_ForceAt f w s1).bind (fun r31 =>
(((
(bif (r31.1 != 0) then
 some true
 else
 some (r31.2 != 0)
)
) : Option Bool).bind (fun j33 =>
(bif j33 then
 some (.inr (.inr false))
 else
 some (.inl (w64 (s1 + 1)))
)
))
)
 else
 some (.inr (.inl ()))
)
))
def m_spec_IsStress (f : TFramework) (w : (List Int)) : Option Bool :=
((loopM (m_spec_IsStress_L1 f w) BIG 0).bind (Sum.elim (fun b24 => (
(m_spec_l13Vector f w).bind (fun r36 =>
 some r36
)
)) (fun r => some r)))

def m_spec_IsProperStress_L1 (tV : TTensegrity) (w : (List Int)) (s9 : Int) : Option (Int ⊕ (Unit ⊕ Bool)) :=
(bif (decide (s9 < (w.length : Int))) then
(((
(idx tV.Kinds s9).bind (fun x69 =>
(bif (x69 == 1) then
(idx w s9).bind (fun x71 =>
(bif (decide (x71 < 0)) then
 some true
 else
(idx tV.Kinds s9).bind (fun x73 =>
(bif (x73 == 2) then
(idx w s9).bind (fun x75 =>
 some (decide (0 < x75))
)
 else
 some false
)
)
)
)
 else
(idx tV.Kinds s9).bind (fun x76 =>
(bif (x76 == 2) then
(idx w s9).bind (fun x78 =>
 some (decide (0 < x78))
)
 else
 some false
)
)
)
)
) : Option Bool).bind (fun j68 =>
(bif j68 then
 some (.inr (.inr false))
 else
 some (.inl (w64 (s9 + 1)))
)
))
 else
 some (.inr (.inl ()))
)
def m_spec_IsProperStress (tV : TTensegrity) (w : (List Int)) : Option Bool :=
(((
(m_spec_IsTensegrity tV).bind (fun r5 =>
(bif (!r5) then
 some true
 else
(m_spec_IsStress tV.Framework w).bind (fun r7 =>
 some (!r7)
)
)
)
) : Option Bool).bind (fun j4 =>
(bif j4 then
 some false
 else
((loopM (m_spec_IsProperStress_L1 tV w) BIG 0).bind (Sum.elim (fun b56 => (
 some true
)) (fun r => some r)))
)
))

def m_spec_IsStrictStress_L1 (tV : TTensegrity) (w : (List Int)) (s3 : Int) : Option (Int ⊕ (Unit ⊕ Bool)) :=
(bif (decide (s3 < (w.length : Int))) then
(((
(idx tV.Kinds s3).bind (fun x28 =>
(bif (x28 != 0) then
(idx w s3).bind (fun x30 =>
 some (x30 == 0)
)
 else
 some false
)
)
) : Option Bool).bind (fun j27 =>
(bif j27 then
 some (.inr (.inr false))
 else
 some (.inl (w64 (s3 + 1)))
)
))
 else
 some (.inr (.inl ()))
)
def m_spec_IsStrictStress (tV : TTensegrity) (w : (List Int)) : Option Bool :=
(m_spec_IsProperStress tV w).bind (fun r1 =>
(bif (!r1) then
 some false
 else
((loopM (m_spec_IsStrictStress_L1 tV w) BIG 0).bind (Sum.elim (fun b22 => (
 some true
)) (fun r => some r)))
)
)

def m_spec_l11Trivial_L1 (f : TFramework) (s1 : Int) : Option (Int ⊕ (Unit ⊕ Int)) :=
(bif (decide (s1 < (f.Places.length : Int))) then
(idx f.Places s1).bind (fun x12 =>
(idx f.Places 0).bind (fun x13 =>
(bif (!(eqI [x12.X, x12.Y] [x13.X, x13.Y])) then
 some (.inr (.inr 3))
 else
 some (.inl (w64 (s1 + 1)))
)
)
)
 else
 some (.inr (.inl ()))
)
def m_spec_l11Trivial (f : TFramework) : Option Int :=
((loopM (m_spec_l11Trivial_L1 f) BIG 1).bind (Sum.elim (fun b10 => (
 some 2
)) (fun r => some r)))

def m_spec_FrameworkFreedom (f : TFramework) : Option Int :=
(m_spec_IsFramework f).bind (fun r1 =>
(bif (!r1) then
 some (-1)
 else
(m_spec_l11Trivial f).bind (fun r3 =>
(m_spec_FrameworkRank f).bind (fun r4 =>
 some (w64 ((w64 ((w64 (2 * f.Graph.Points)) - r3)) - r4))
)
)
)
)

def m_spec_IsStiff (f : TFramework) : Option Bool :=
(m_spec_FrameworkFreedom f).bind (fun r1 =>
 some (r1 == 0)
)

def m_spec_ProvesStiff (tV : TTensegrity) (w : (List Int)) : Option Bool :=
(((
(m_spec_IsStrictStress tV w).bind (fun r5 =>
(bif r5 then
(m_spec_IsStiff tV.Framework).bind (fun r7 =>
 some r7
)
 else
 some false
)
)
) : Option Bool).bind (fun j4 =>
 some j4
))

def m_impl_IsTensegrity_L1 (tV : TTensegrity) (s1 : Int) : Option (Int ⊕ (Unit ⊕ Bool)) :=
(bif (decide (s1 < (tV.Kinds.length : Int))) then
(idx tV.Kinds s1).bind (fun x12 =>
(m_impl_within x12 0 2).bind (fun r13 =>
(bif (!r13) then
 some (.inr (.inr false))
 else
 some (.inl (w64 (s1 + 1)))
)
)
)
 else
 some (.inr (.inl ()))
)
def m_impl_IsTensegrity (tV : TTensegrity) : Option Bool :=
((loopM (m_impl_IsTensegrity_L1 tV) BIG 0).bind (Sum.elim (fun b10 => (
(((
(m_impl_IsFramework tV.Framework).bind (fun r18 =>
(bif r18 then
 some ((tV.Kinds.length : Int) == (tV.Framework.Graph.Bars.length : Int))
 else
 some false
)
)
) : Option Bool).bind (fun j17 =>
 some j17
))
)) (fun r => some r)))

def m_impl_areSmall_L1 (v : (List Int)) (s1 : Int) : Option (Int ⊕ (Unit ⊕ Bool)) :=
(bif (decide (s1 < (v.length : Int))) then
(idx v s1).bind (fun x12 =>
(m_impl_within x12 (-10000000000) 10000000000).bind (fun r13 =>
(bif (!r13) then
 some (.inr (.inr false))
 else
 some (.inl (w64 (s1 + 1)))
)
)
)
 else
 some (.inr (.inl ()))
)
def m_impl_areSmall (v : (List Int)) (n : Int) : Option Bool :=
((loopM (m_impl_areSmall_L1 v) BIG 0).bind (Sum.elim (fun b10 => (
 some ((v.length : Int) == n)
)) (fun r => some r)))

def m_impl_areForces (f : TFramework) (w : (List Int)) : Option Bool :=
(((
(m_impl_IsFramework f).bind (fun r5 =>
(bif r5 then
(m_impl_areSmall w (f.Graph.Bars.length : Int)).bind (fun r7 =>
 some r7
)
 else
 some false
)
)
) : Option Bool).bind (fun j4 =>
 some j4
))

def m_impl_Bar_has (x : TBar) (v : Int) : Option Bool :=
(((
(bif (x.A == v) then
 some true
 else
 some (x.B == v)
)
) : Option Bool).bind (fun j2 =>
 some j2
))

def m_impl_ForceAt_L1 (f : TFramework) (w : (List Int)) (v : Int) (s3 : (Int × Int × Int)) : Option ((Int × Int × Int) ⊕ (Int × Int)) :=
(bif (decide (s3.2.2 < (f.Graph.Bars.length : Int))) then
(idx f.Graph.Bars s3.2.2).bind (fun x38 =>
(m_impl_Bar_has x38 v).bind (fun r39 =>
(((
(bif r39 then
(idx f.Places v).bind (fun x48 =>
(m_impl_Bar_other x38 v).bind (fun r49 =>
(idx f.Places r49).bind (fun x50 =>
(idx w s3.2.2).bind (fun x51 =>
(idx w s3.2.2).bind (fun x52 =>
 some ((w64 (s3.1 + (w64 (x51 * (w64 (x48.X - x50.X)))))), (w64 (s3.2.1 + (w64 (x52 * (w64 (x48.Y - x50.Y)))))))
)
)
)
)
)
 else
 some (s3.1, s3.2.1)
)
) : Option (Int × Int)).bind (fun j46 =>
 some (.inl (j46.1, j46.2, (w64 (s3.2.2 + 1))))
))
)
)
 else
 some (.inr (s3.1, s3.2.1))
)
def m_impl_ForceAt (f : TFramework) (w : (List Int)) (v : Int) : Option (Int × Int) :=
(m_impl_areForces f w).bind (fun r1 =>
(bif (!r1) then
 some (0, 0)
 else
((loopM (m_impl_ForceAt_L1 f w v) BIG (0, 0, 0)).bind (fun b36 =>
 some (b36.1, b36.2)
))
)
)

def m_impl_IsStress_L1 (f : TFramework) (w : (List Int)) (s3 : Int) : Option (Int ⊕ (Unit ⊕ Bool)) :=
(bif (decide (s3 < (f.Places.length : Int))) then
(m_impl_ForceAt f w s3).bind (fun r18 =>
(((
(bif (r18.1 != 0) then
 some true
 else
 some (r18.2 != 0)
)
) : Option Bool).bind (fun j20 =>
(bif j20 then
 some (.inr (.inr false))
 else
 some (.inl (w64 (s3 + 1)))
)
))
)
 else
 some (.inr (.inl ()))
)
def m_impl_IsStress (f : TFramework) (w : (List Int)) : Option Bool :=
(m_impl_areForces f w).bind (fun r1 =>
(bif (!r1) then
 some false
 else
((loopM (m_impl_IsStress_L1 f w) BIG 0).bind (Sum.elim (fun b16 => (
 some true
)) (fun r => some r)))
)
)

def m_impl_IsProperStress_L1 (tV : TTensegrity) (w : (List Int)) (s9 : Int) : Option (Int ⊕ (Unit ⊕ Bool)) :=
(bif (decide (s9 < (tV.Kinds.length : Int))) then
(idx tV.Kinds s9).bind (fun x48 =>
(((
(bif (x48 == 1) then
(idx w s9).bind (fun x58 =>
(bif (decide (x58 < 0)) then
 some true
 else
(bif (x48 == 2) then
(idx w s9).bind (fun x61 =>
 some (decide (0 < x61))
)
 else
 some false
)
)
)
 else
(bif (x48 == 2) then
(idx w s9).bind (fun x63 =>
 some (decide (0 < x63))
)
 else
 some false
)
)
) : Option Bool).bind (fun j56 =>
(bif j56 then
 some (.inr (.inr false))
 else
 some (.inl (w64 (s9 + 1)))
)
))
)
 else
 some (.inr (.inl ()))
)
def m_impl_IsProperStress (tV : TTensegrity) (w : (List Int)) : Option Bool :=
(((
(m_impl_IsTensegrity tV).bind (fun r5 =>
(bif (!r5) then
 some true
 else
(m_impl_IsStress tV.Framework w).bind (fun r7 =>
 some (!r7)
)
)
)
) : Option Bool).bind (fun j4 =>
(bif j4 then
 some false
 else
((loopM (m_impl_IsProperStress_L1 tV w) BIG 0).bind (Sum.elim (fun b46 => (
 some true
)) (fun r => some r)))
)
))

def m_impl_IsStrictStress_L1 (tV : TTensegrity) (w : (List Int)) (s3 : Int) : Option (Int ⊕ (Unit ⊕ Bool)) :=
(bif (decide (s3 < (tV.Kinds.length : Int))) then
(idx tV.Kinds s3).bind (fun x22 =>
(((
(bif (x22 != 0) then
(idx w s3).bind (fun x27 =>
 some (x27 == 0)
)
 else
 some false
)
) : Option Bool).bind (fun j25 =>
(bif j25 then
 some (.inr (.inr false))
 else
 some (.inl (w64 (s3 + 1)))
)
))
)
 else
 some (.inr (.inl ()))
)
def m_impl_IsStrictStress (tV : TTensegrity) (w : (List Int)) : Option Bool :=
(m_impl_IsProperStress tV w).bind (fun r1 =>
(bif (!r1) then
 some false
 else
((loopM (m_impl_IsStrictStress_L1 tV w) BIG 0).bind (Sum.elim (fun b20 => (
 some true
)) (fun r => some r)))
)
)

def m_impl_FrameworkFreedom_L1 (f : TFramework) (s3 : (Bool × Int)) : Option ((Bool × Int) ⊕ Bool) :=
(bif (decide (s3.2 < (f.Places.length : Int))) then
(idx f.Places s3.2).bind (fun x17 =>
(((
(bif s3.1 then
(idx f.Places 0).bind (fun x22 =>
 some (eqI [x17.X, x17.Y] [x22.X, x22.Y])
)
 else
 some false
)
) : Option Bool).bind (fun j20 =>
 some (.inl (j20, (w64 (s3.2 + 1))))
))
)
 else
 some (.inr s3.1)
)
def m_impl_FrameworkFreedom (f : TFramework) : Option Int :=
(m_impl_IsFramework f).bind (fun r1 =>
(bif (!r1) then
 some (-1)
 else
((loopM (m_impl_FrameworkFreedom_L1 f) BIG (true, 0)).bind (fun b15 =>
(((
(bif b15 then
 some 2
 else
 some 3
)
) : Option Int).bind (fun j24 =>
(m_impl_FrameworkRank f).bind (fun r26 =>
 some (w64 ((w64 ((w64 (2 * f.Graph.Points)) - j24)) - r26))
)
))
))
)
)

def m_impl_IsStiff (f : TFramework) : Option Bool :=
(m_impl_FrameworkFreedom f).bind (fun r1 =>
 some (r1 == 0)
)

def m_impl_ProvesStiff (tV : TTensegrity) (w : (List Int)) : Option Bool :=
(((
(m_impl_IsStrictStress tV w).bind (fun r5 =>
(bif r5 then
(m_impl_IsStiff tV.Framework).bind (fun r7 =>
 some r7
)
 else
 some false
)
)
) : Option Bool).bind (fun j4 =>
 some j4
))

def m_laws_eqTensegrity (a : TTensegrity) (b : TTensegrity) : Option Bool :=
(m_laws_eqFramework a.Framework b.Framework).bind (fun r1 =>
(bif (!r1) then
 some false
 else
(m_laws_eqIntS a.Kinds b.Kinds).bind (fun r3 =>
(bif (!r3) then
 some false
 else
 some true
)
)
)
)

def m_laws_FnExactProvesStiff (aT : TTensegrity) (aW : (List Int)) : Option Bool :=
(bif (decide (1048576 < (aW.length : Int))) then
 some true
 else
(m_laws_szTensegrity aT 1048576).bind (fun r2 =>
(bif (decide (r2 < 0)) then
 some true
 else
(m_laws_toTensegrity aT).bind (fun r4 =>
(m_laws_toIntS aW).bind (fun r5 =>
(m_spec_ProvesStiff r4 r5).bind (fun r6 =>
(m_laws_toTensegrity aT).bind (fun r7 =>
(m_laws_toIntS aW).bind (fun r8 =>
(m_impl_ProvesStiff r7 r8).bind (fun r9 =>
(bif (r9 != r6) then
 some false
 else
(m_laws_toTensegrity aT).bind (fun r11 =>
(m_laws_eqTensegrity r7 r11).bind (fun r12 =>
(bif (!r12) then
 some false
 else
(m_laws_toIntS aW).bind (fun r14 =>
(m_laws_eqIntS r8 r14).bind (fun r15 =>
(bif (!r15) then
 some false
 else
 some true
)
)
)
)
)
)
)
)
)
)
)
)
)
)
)
)

def m_spec_StressesOf (f : TFramework) : Option (List (List Int)) :=
(((
(m_spec_IsFramework f).bind (fun r4 =>
(bif (!r4) then
 some true
 else
 some ((f.Graph.Bars.length : Int) == 0)
)
)
) : Option Bool).bind (fun j3 =>
(bif j3 then
 some ([] : List (List Int))
 else
(m_spec_l13Turned f).bind (fun r7 =>
(m_spec_l9Null r7 (f.Graph.Bars.length : Int)).bind (fun r8 =>
 some r8
)
)
)
))

def m_spec_l19Tries_L26 (l : (List (List Int))) (n : Int) (s233 : (Int × Int × Int × (List (List Int)) × (List (List Int)))) (s268 : (Int × (List Int))) : Option ((Int × (List Int)) ⊕ (Int × Int × Int × (List (List Int)) × (List (List Int)) × (List Int))) :=
(bif (decide (s268.1 < n)) then
(idx s233.2.2.2.1 s233.2.1).bind (fun x283 =>
(idx x283 s268.1).bind (fun x284 =>
(idx l s233.1).bind (fun x285 =>
(idx x285 s268.1).bind (fun x286 =>
(lim (s268.2.length + ([(w64 (x284 + (w64 (s233.2.2.1 * x286))))] : List Int).length)).bind (fun u287 =>
 some (.inl ((w64 (s268.1 + 1)), (s268.2 ++ ([(w64 (x284 + (w64 (s233.2.2.1 * x286))))] : List Int))))
)
)
)
)
)
 else
 some (.inr (s233.1, s233.2.1, s233.2.2.1, s233.2.2.2.1, s233.2.2.2.2, s268.2))
)
def m_spec_l19Tries_L25 (l : (List (List Int))) (n : Int) (s233 : (Int × Int × Int × (List (List Int)) × (List (List Int)))) : Option ((Int × Int × Int × (List (List Int)) × (List (List Int))) ⊕ (Int × Int × (List (List Int)) × (List (List Int)))) :=
(bif (decide (s233.2.2.1 ≤ 2)) then
((loopM (m_spec_l19Tries_L26 l n s233) BIG (0, ([] : List Int))).bind (fun b281 =>
(lim (b281.2.2.2.2.1.length + [b281.2.2.2.2.2].length)).bind (fun u288 =>
 some (.inl (b281.1, b281.2.1, (w64 (b281.2.2.1 + 1)), b281.2.2.2.1, (b281.2.2.2.2.1 ++ [b281.2.2.2.2.2])))
)
))
 else
 some (.inr (s233.1, s233.2.1, s233.2.2.2.1, s233.2.2.2.2))
)
def m_spec_l19Tries_L22 (l : (List (List Int))) (n : Int) (s160 : (Int × Int × (List (List Int)) × (List (List Int)))) : Option ((Int × Int × (List (List Int)) × (List (List Int))) ⊕ (Int × (List (List Int)))) :=
(bif (decide (s160.2.1 < (s160.2.2.1.length : Int))) then
((loopM (m_spec_l19Tries_L25 l n) BIG (s160.1, s160.2.1, (-2), s160.2.2.1, s160.2.2.2)).bind (fun b266 =>
 some (.inl (b266.1, (w64 (b266.2.1 + 1)), b266.2.2.1, b266.2.2.2))
))
 else
 some (.inr (s160.1, s160.2.2.2))
)
def m_spec_l19Tries_L15 (l : (List (List Int))) (n : Int) (s2 : (Int × (List (List Int)))) : Option ((Int × (List (List Int))) ⊕ (List (List Int))) :=
(((
(bif (decide (s2.1 < (l.length : Int))) then
 some (decide (s2.1 < 3))
 else
 some false
)
) : Option Bool).bind (fun j157 =>
(bif j157 then
((loopM (m_spec_l19Tries_L22 l n) BIG (s2.1, 0, s2.2, ([] : List (List Int)))).bind (fun b231 =>
 some (.inl ((w64 (b231.1 + 1)), b231.2))
))
 else
 some (.inr s2.2)
)
))
def m_spec_l19Tries (l : (List (List Int))) (n : Int) : Option (List (List Int)) :=
(lenOk n).bind (fun u1 =>
((loopM (m_spec_l19Tries_L15 l n) BIG (0, [(List.replicate n.toNat (0 : Int))])).bind (fun b155 =>
 some b155
))
)

def m_spec_FindStrictStress_L1 (tV : TTensegrity) (r4 : (List (List Int))) (s5 : Int) : Option (Int ⊕ (Unit ⊕ ((List Int) × Bool))) :=
(bif (decide (s5 < (r4.length : Int))) then
(idx r4 s5).bind (fun x20 =>
(m_spec_IsStrictStress tV x20).bind (fun r21 =>
(bif r21 then
(idx r4 s5).bind (fun x23 =>
(lim (([] : List Int).length + x23.length)).bind (fun u24 =>
 some (.inr (.inr ((([] : List Int) ++ x23), true)))
)
)
 else
 some (.inl (w64 (s5 + 1)))
)
)
)
 else
 some (.inr (.inl ()))
)
def m_spec_FindStrictStress (tV : TTensegrity) : Option ((List Int) × Bool) :=
(m_spec_IsTensegrity tV).bind (fun r1 =>
(bif (!r1) then
 some (([] : List Int), false)
 else
(m_spec_StressesOf tV.Framework).bind (fun r3 =>
(m_spec_l19Tries r3 (tV.Kinds.length : Int)).bind (fun r4 =>
((loopM (m_spec_FindStrictStress_L1 tV r4) BIG 0).bind (Sum.elim (fun b18 => (
 some (([] : List Int), false)
)) (fun r => some r)))
)
)
)
)

def m_impl_StressesOf (f : TFramework) : Option (List (List Int)) :=
(((
(m_impl_IsFramework f).bind (fun r4 =>
(bif (!r4) then
 some true
 else
 some ((f.Graph.Bars.length : Int) == 0)
)
)
) : Option Bool).bind (fun j3 =>
(bif j3 then
 some ([] : List (List Int))
 else
(m_impl_RigidityMatrix f).bind (fun r7 =>
(m_impl_transposed r7 (w64 (2 * f.Graph.Points))).bind (fun r8 =>
(m_impl_nullspace r8 (f.Graph.Bars.length : Int)).bind (fun r9 =>
 some r9
)
)
)
)
))

def m_spec_AcceptedBars (g : TGraph) (k : Int) (l : Int) : Option (List Int) :=
(m_spec_RunPebbles g k l).bind (fun r1 =>
(lim (([] : List Int).length + r1.1.Placed.length)).bind (fun u2 =>
 some (([] : List Int) ++ r1.1.Placed)
)
)

def m_spec_OnlyBars_L1 (g : TGraph) (keep : (List Int)) (s1 : (Int × (List TBar))) : Option ((Int × (List TBar)) ⊕ (List TBar)) :=
(bif (decide (s1.1 < (g.Bars.length : Int))) then
(m_spec_l2Has keep s1.1).bind (fun r22 =>
(((
(bif r22 then
(idx g.Bars s1.1).bind (fun x28 =>
(lim (s1.2.length + [x28].length)).bind (fun u29 =>
 some (s1.2 ++ [x28])
)
)
 else
 some s1.2
)
) : Option (List TBar)).bind (fun j26 =>
 some (.inl ((w64 (s1.1 + 1)), j26))
))
)
 else
 some (.inr s1.2)
)
def m_spec_OnlyBars (g : TGraph) (keep : (List Int)) : Option TGraph :=
((loopM (m_spec_OnlyBars_L1 g keep) BIG (0, ([] : List TBar))).bind (fun b20 =>
 some (TGraph.mk g.Points b20)
))

def m_spec_SpecialStress_L1 (r3 : (List Int)) (r5 : (List (List Int))) (s8 : (Int × (List Int))) : Option ((Int × (List Int)) ⊕ (List Int)) :=
(bif (decide (s8.1 < (r3.length : Int))) then
(idx r3 s8.1).bind (fun x21 =>
(idx r5 0).bind (fun x22 =>
(idx x22 s8.1).bind (fun x23 =>
(idx s8.2 x21).bind (fun x24 =>
 some (.inl ((w64 (s8.1 + 1)), (s8.2.set x21.toNat x23)))
)
)
)
)
 else
 some (.inr s8.2)
)
def m_spec_SpecialStress (f : TFramework) : Option ((List Int) × Bool) :=
(m_spec_IsFramework f).bind (fun r1 =>
(bif (!r1) then
 some (([] : List Int), false)
 else
(m_spec_AcceptedBars f.Graph 2 3).bind (fun r3 =>
(m_spec_OnlyBars f.Graph r3).bind (fun r4 =>
(m_spec_StressesOf (TFramework.mk r4 f.Places)).bind (fun r5 =>
(bif ((r5.length : Int) == 0) then
 some (([] : List Int), false)
 else
(lenOk (f.Graph.Bars.length : Int)).bind (fun u7 =>
((loopM (m_spec_SpecialStress_L1 r3 r5) BIG (0, (List.replicate (f.Graph.Bars.length : Int).toNat (0 : Int)))).bind (fun b19 =>
 some (b19, true)
))
)
)
)
)
)
)
)

def m_impl_AcceptedBars (g : TGraph) (k : Int) (l : Int) : Option (List Int) :=
(m_impl_RunPebbles g k l).bind (fun r1 =>
(m_impl_copyInts r1.1.Placed).bind (fun r2 =>
 some r2
)
)

def m_impl_OnlyBars_L1 (g : TGraph) (keep : (List Int)) (s1 : (Int × (List TBar))) : Option ((Int × (List TBar)) ⊕ (List TBar)) :=
(bif (decide (s1.1 < (g.Bars.length : Int))) then
(idx g.Bars s1.1).bind (fun x20 =>
(m_slices_Contains keep s1.1).bind (fun r21 =>
(((
(bif r21 then
(lim (s1.2.length + [x20].length)).bind (fun u26 =>
 some (s1.2 ++ [x20])
)
 else
 some s1.2
)
) : Option (List TBar)).bind (fun j24 =>
 some (.inl ((w64 (s1.1 + 1)), j24))
))
)
)
 else
 some (.inr s1.2)
)
def m_impl_OnlyBars (g : TGraph) (keep : (List Int)) : Option TGraph :=
((loopM (m_impl_OnlyBars_L1 g keep) BIG (0, ([] : List TBar))).bind (fun b18 =>
 some (TGraph.mk g.Points b18)
))

def m_impl_SpecialStress_L1 (f : TFramework) (r3 : (List Int)) (r5 : (List (List Int))) (s8 : (Int × (List Int))) : Option ((Int × (List Int)) ⊕ (List Int)) :=
(bif (decide (s8.1 < ((List.replicate (f.Graph.Bars.length : Int).toNat (0 : Int)).length : Int))) then
(m_slices_Index r3 s8.1).bind (fun r33 =>
(((
(bif (decide (0 ≤ r33)) then
(idx r5 0).bind (fun x40 =>
(idx x40 r33).bind (fun x41 =>
(idx s8.2 s8.1).bind (fun x42 =>
 some (s8.2.set s8.1.toNat x41)
)
)
)
 else
 some s8.2
)
) : Option (List Int)).bind (fun j38 =>
 some (.inl ((w64 (s8.1 + 1)), j38))
))
)
 else
 some (.inr s8.2)
)
def m_impl_SpecialStress (f : TFramework) : Option ((List Int) × Bool) :=
(m_impl_IsFramework f).bind (fun r1 =>
(bif (!r1) then
 some (([] : List Int), false)
 else
(m_impl_AcceptedBars f.Graph 2 3).bind (fun r3 =>
(m_impl_OnlyBars f.Graph r3).bind (fun r4 =>
(m_impl_StressesOf (TFramework.mk r4 f.Places)).bind (fun r5 =>
(bif ((r5.length : Int) == 0) then
 some (([] : List Int), false)
 else
(lenOk (f.Graph.Bars.length : Int)).bind (fun u7 =>
((loopM (m_impl_SpecialStress_L1 f r3 r5) BIG (0, (List.replicate (f.Graph.Bars.length : Int).toNat (0 : Int)))).bind (fun b31 =>
 some (b31, true)
))
)
)
)
)
)
)
)

def m_laws_FnExactSpecialStress (aF : TFramework) : Option Bool :=
(m_laws_szFramework aF 1048576).bind (fun r1 =>
(bif (decide (r1 < 0)) then
 some true
 else
(m_laws_toFramework aF).bind (fun r3 =>
(m_spec_SpecialStress r3).bind (fun r4 =>
(m_laws_toFramework aF).bind (fun r5 =>
(m_impl_SpecialStress r5).bind (fun r6 =>
(((
(m_laws_eqIntS r6.1 r4.1).bind (fun r10 =>
(bif (!r10) then
 some true
 else
 some (r6.2 != r4.2)
)
)
) : Option Bool).bind (fun j9 =>
(bif j9 then
 some false
 else
(m_laws_toFramework aF).bind (fun r13 =>
(m_laws_eqFramework r5 r13).bind (fun r14 =>
(bif (!r14) then
 some false
 else
(m_laws_markFramework r5 1).bind (fun r16 =>
(((
(bif (decide (r16.1 < 0)) then
 some true
 else
(m_laws_eqIntS r6.1 r4.1).bind (fun r22 =>
(bif (!r22) then
 some true
 else
 some (r6.2 != r4.2)
)
)
)
) : Option Bool).bind (fun j20 =>
(bif j20 then
 some false
 else
(m_laws_markIntS r6.1 1).bind (fun r25 =>
(same r6.1.length r25.2.length).bind (fun u26 =>
(m_laws_heldIntS r25.2 1).bind (fun r27 =>
(bif (decide (r27 < 0)) then
 some false
 else
(bif (r27 != r25.1) then
 some false
 else
(m_laws_toFramework aF).bind (fun r30 =>
(m_impl_SpecialStress r30).bind (fun r31 =>
(((
(m_laws_eqIntS r31.1 r4.1).bind (fun r35 =>
(bif (!r35) then
(same r6.1.length r25.2.length).bind (fun u37 =>
 some true
)
 else
(same r6.1.length r25.2.length).bind (fun u38 =>
 some (r31.2 != r4.2)
)
)
)
) : Option Bool).bind (fun j34 =>
(bif j34 then
 some false
 else
(m_laws_heldIntS r25.2 1).bind (fun r40 =>
(bif (decide (r40 < 0)) then
 some false
 else
(bif (r40 != r25.1) then
 some false
 else
 some true
)
)
)
)
))
)
)
)
)
))
)
)
))
)
)
)
)
)
))
)
)
)
)
)
)

def m_spec_MotionsOf (f : TFramework) : Option (List (List Int)) :=
(m_spec_IsFramework f).bind (fun r1 =>
(bif (!r1) then
 some ([] : List (List Int))
 else
(m_spec_RigidityMatrix f).bind (fun r3 =>
(m_spec_l9Null r3 (w64 (2 * f.Graph.Points))).bind (fun r4 =>
 some r4
)
)
)
)

def m_spec_l12Vector_L1 (v : (List Int)) (s1 : Int) : Option (Int ⊕ (Unit ⊕ Bool)) :=
(bif (decide (s1 < (v.length : Int))) then
(idx v s1).bind (fun x12 =>
(m_spec_l1In x12 (-10000000000) 10000000000).bind (fun r13 =>
(bif (!r13) then
 some (.inr (.inr false))
 else
 some (.inl (w64 (s1 + 1)))
)
)
)
 else
 some (.inr (.inl ()))
)
def m_spec_l12Vector (f : TFramework) (v : (List Int)) : Option Bool :=
((loopM (m_spec_l12Vector_L1 v) BIG 0).bind (Sum.elim (fun b10 => (
(((
(m_spec_IsFramework f).bind (fun r18 =>
(bif r18 then
 some ((v.length : Int) == (w64 (2 * f.Graph.Points)))
 else
 some false
)
)
) : Option Bool).bind (fun j17 =>
 some j17
))
)) (fun r => some r)))

def m_spec_ChangeOf (f : TFramework) (v : (List Int)) (a : Int) (b : Int) : Option Int :=
(((
(m_spec_l12Vector f v).bind (fun r7 =>
(bif (!r7) then
 some true
 else
(bif (decide (a < 0)) then
 some true
 else
(bif (decide (b < 0)) then
 some true
 else
(bif (decide (f.Graph.Points ≤ a)) then
 some true
 else
 some (decide (f.Graph.Points ≤ b))
)
)
)
)
)
) : Option Bool).bind (fun j6 =>
(bif j6 then
 some 0
 else
(idx f.Places a).bind (fun x13 =>
(idx f.Places b).bind (fun x14 =>
(idx v (w64 (2 * a))).bind (fun x15 =>
(idx v (w64 (2 * b))).bind (fun x16 =>
(idx f.Places a).bind (fun x17 =>
(idx f.Places b).bind (fun x18 =>
(idx v (w64 ((w64 (2 * a)) + 1))).bind (fun x19 =>
(idx v (w64 ((w64 (2 * b)) + 1))).bind (fun x20 =>
 some (w64 ((w64 ((w64 (x13.X - x14.X)) * (w64 (x15 - x16)))) + (w64 ((w64 (x17.Y - x18.Y)) * (w64 (x19 - x20))))))
)
)
)
)
)
)
)
)
)
))

def m_spec_l12Flat_L4 (f : TFramework) (v : (List Int)) (s1 : Int) (s102 : Int) : Option (Int ⊕ (Int ⊕ Bool)) :=
(bif (decide (s102 < s1)) then
(idx f.Places s1).bind (fun x151 =>
(idx f.Places 0).bind (fun x152 =>
(idx f.Places s1).bind (fun x153 =>
(idx f.Places 0).bind (fun x154 =>
(idx f.Places s102).bind (fun x155 =>
(idx f.Places 0).bind (fun x156 =>
(idx f.Places s102).bind (fun x157 =>
(idx f.Places 0).bind (fun x158 =>
(idx v (w64 (2 * s1))).bind (fun x159 =>
(idx v 0).bind (fun x160 =>
(idx v (w64 ((w64 (2 * s1)) + 1))).bind (fun x161 =>
(idx v 1).bind (fun x162 =>
(idx v (w64 (2 * s102))).bind (fun x163 =>
(idx v 0).bind (fun x164 =>
(idx v (w64 ((w64 (2 * s102)) + 1))).bind (fun x165 =>
(idx v 1).bind (fun x166 =>
(((
(bif ((w64 ((w64 (x151.X - x152.X)) * (w64 (x157.Y - x158.Y)))) == (w64 ((w64 (x153.Y - x154.Y)) * (w64 (x155.X - x156.X))))) then
(bif ((w64 ((w64 ((w64 (x155.X - x156.X)) * (w64 (x159 - x160)))) + (w64 ((w64 (x157.Y - x158.Y)) * (w64 (x161 - x162)))))) != (w64 ((w64 ((w64 (x151.X - x152.X)) * (w64 (x163 - x164)))) + (w64 ((w64 (x153.Y - x154.Y)) * (w64 (x165 - x166))))))) then
 some true
 else
 some ((w64 ((w64 ((w64 (x155.X - x156.X)) * (w64 (x161 - x162)))) - (w64 ((w64 (x157.Y - x158.Y)) * (w64 (x159 - x160)))))) != (w64 ((w64 ((w64 (x151.X - x152.X)) * (w64 (x165 - x166)))) - (w64 ((w64 (x153.Y - x154.Y)) * (w64 (x163 - x164)))))))
)
 else
 some false
)
) : Option Bool).bind (fun j169 =>
(bif j169 then
 some (.inr (.inr false))
 else
 some (.inl (w64 (s102 + 1)))
)
))
)
)
)
)
)
)
)
)
)
)
)
)
)
)
)
)
 else
 some (.inr (.inl s1))
)
def m_spec_l12Flat_L3 (f : TFramework) (v : (List Int)) (s1 : Int) : Option (Int ⊕ (Unit ⊕ Bool)) :=
(bif (decide (s1 < f.Graph.Points)) then
((loopM (m_spec_l12Flat_L4 f v s1) BIG 1).bind (Sum.elim (fun b149 => (
 some (.inl (w64 (b149 + 1)))
)) (fun r => some (.inr (.inr r)))))
 else
 some (.inr (.inl ()))
)
def m_spec_l12Flat (f : TFramework) (v : (List Int)) : Option Bool :=
((loopM (m_spec_l12Flat_L3 f v) BIG 1).bind (Sum.elim (fun b100 => (
 some true
)) (fun r => some r)))

def m_spec_IsTrivialMotion_L4 (f : TFramework) (v : (List Int)) (s1 : Int) (s117 : Int) : Option (Int ⊕ (Int ⊕ Bool)) :=
(bif (decide (s117 < s1)) then
(((
(m_spec_ChangeOf f v s1 s117).bind (fun r177 =>
(bif (r177 != 0) then
 some true
 else
(idx f.Places s1).bind (fun x179 =>
(idx f.Places s117).bind (fun x180 =>
(bif (eqI [x179.X, x179.Y] [x180.X, x180.Y]) then
(idx v (w64 (2 * s1))).bind (fun x182 =>
(idx v (w64 (2 * s117))).bind (fun x183 =>
(bif (x182 != x183) then
 some true
 else
(idx v (w64 ((w64 (2 * s1)) + 1))).bind (fun x185 =>
(idx v (w64 ((w64 (2 * s117)) + 1))).bind (fun x186 =>
 some (x185 != x186)
)
)
)
)
)
 else
 some false
)
)
)
)
)
) : Option Bool).bind (fun j176 =>
(bif j176 then
 some (.inr (.inr false))
 else
 some (.inl (w64 (s117 + 1)))
)
))
 else
 some (.inr (.inl s1))
)
def m_spec_IsTrivialMotion_L3 (f : TFramework) (v : (List Int)) (s1 : Int) : Option (Int ⊕ (Unit ⊕ Bool)) :=
(((
(bif (decide (s1 < f.Graph.Points)) then
(m_spec_l12Vector f v).bind (fun r115 =>
 some r115
)
 else
 some false
)
) : Option Bool).bind (fun j113 =>
(bif j113 then
((loopM (m_spec_IsTrivialMotion_L4 f v s1) BIG 0).bind (Sum.elim (fun b164 => (
 some (.inl (w64 (b164 + 1)))
)) (fun r => some (.inr (.inr r)))))
 else
 some (.inr (.inl ()))
)
))
def m_spec_IsTrivialMotion (f : TFramework) (v : (List Int)) : Option Bool :=
((loopM (m_spec_IsTrivialMotion_L3 f v) BIG 0).bind (Sum.elim (fun b110 => (
(((
(m_spec_l12Vector f v).bind (fun r192 =>
(bif r192 then
(m_spec_l12Flat f v).bind (fun r194 =>
 some r194
)
 else
 some false
)
)
) : Option Bool).bind (fun j191 =>
 some j191
))
)) (fun r => some r)))

def m_spec_FindMotion_L1 (f : TFramework) (r1 : (List (List Int))) (s2 : Int) : Option (Int ⊕ (Unit ⊕ ((List Int) × Bool))) :=
(bif (decide (s2 < (r1.length : Int))) then
(idx r1 s2).bind (fun x15 =>
(m_spec_IsTrivialMotion f x15).bind (fun r16 =>
(bif (!r16) then
(idx r1 s2).bind (fun x18 =>
 some (.inr (.inr (x18, true)))
)
 else
 some (.inl (w64 (s2 + 1)))
)
)
)
 else
 some (.inr (.inl ()))
)
def m_spec_FindMotion (f : TFramework) : Option ((List Int) × Bool) :=
(m_spec_MotionsOf f).bind (fun r1 =>
((loopM (m_spec_FindMotion_L1 f r1) BIG 0).bind (Sum.elim (fun b13 => (
 some (([] : List Int), false)
)) (fun r => some r)))
)

def m_laws_big (code : (List Int)) : Option Bool :=
 some (decide (1048576 < (code.length : Int)))

def m_laws_markTensegrity (a : TTensegrity) (k : Int) : Option (Int × (List TBar) × (List TPlace) × (List Int)) :=
(m_laws_markFramework a.Framework k).bind (fun r1 =>
(m_laws_markIntS a.Kinds r1.1).bind (fun r2 =>
 some (r2.1, r1.2.1, r1.2.2, r2.2)
)
)

def m_impl_MotionsOf (f : TFramework) : Option (List (List Int)) :=
(m_impl_IsFramework f).bind (fun r1 =>
(bif (!r1) then
 some ([] : List (List Int))
 else
(m_impl_RigidityMatrix f).bind (fun r3 =>
(m_impl_nullspace r3 (w64 (2 * f.Graph.Points))).bind (fun r4 =>
 some r4
)
)
)
)

def m_impl_isVelocity (f : TFramework) (v : (List Int)) : Option Bool :=
(((
(m_impl_IsFramework f).bind (fun r5 =>
(bif r5 then
(m_impl_areSmall v (w64 (2 * f.Graph.Points))).bind (fun r7 =>
 some r7
)
 else
 some false
)
)
) : Option Bool).bind (fun j4 =>
 some j4
))

def m_impl_IsTrivialMotion_L1 (f : TFramework) (v : (List Int)) (s3 : Int) : Option (Int ⊕ (Int × Int)) :=
(bif (decide (s3 < (f.Places.length : Int))) then
(idx f.Places s3).bind (fun x30 =>
(idx f.Places 0).bind (fun x31 =>
(idx f.Places 0).bind (fun x32 =>
(((
(bif ((w64 (x30.X - x31.X)) != 0) then
 some true
 else
 some ((w64 (x30.Y - x32.Y)) != 0)
)
) : Option Bool).bind (fun j34 =>
(bif j34 then
(idx v (w64 ((w64 (2 * s3)) + 1))).bind (fun x37 =>
(idx v 1).bind (fun x38 =>
(idx v (w64 (2 * s3))).bind (fun x39 =>
(idx v 0).bind (fun x40 =>
 some (.inr ((w64 ((w64 ((w64 (x37 - x38)) * (w64 (x30.X - x31.X)))) - (w64 ((w64 (x39 - x40)) * (w64 (x30.Y - x32.Y)))))), (w64 ((w64 ((w64 (x30.X - x31.X)) * (w64 (x30.X - x31.X)))) + (w64 ((w64 (x30.Y - x32.Y)) * (w64 (x30.Y - x32.Y))))))))
)
)
)
)
 else
 some (.inl (w64 (s3 + 1)))
)
))
)
)
)
 else
 some (.inr (0, 1))
)
def m_impl_IsTrivialMotion_L2 (f : TFramework) (v : (List Int)) (b28 : (Int × Int)) (s41 : Int) : Option (Int ⊕ (Unit ⊕ Bool)) :=
(bif (decide (s41 < (f.Places.length : Int))) then
(idx f.Places s41).bind (fun x76 =>
(idx f.Places 0).bind (fun x77 =>
(idx f.Places 0).bind (fun x78 =>
(((
(idx v (w64 (2 * s41))).bind (fun x85 =>
(idx v 0).bind (fun x86 =>
(bif ((w64 ((w64 (x85 - x86)) * b28.2)) != (w64 ((w64 (-b28.1)) * (w64 (x76.Y - x78.Y))))) then
 some true
 else
(idx v (w64 ((w64 (2 * s41)) + 1))).bind (fun x88 =>
(idx v 1).bind (fun x89 =>
 some ((w64 ((w64 (x88 - x89)) * b28.2)) != (w64 (b28.1 * (w64 (x76.X - x77.X)))))
)
)
)
)
)
) : Option Bool).bind (fun j84 =>
(bif j84 then
 some (.inr (.inr false))
 else
 some (.inl (w64 (s41 + 1)))
)
))
)
)
)
 else
 some (.inr (.inl ()))
)
def m_impl_IsTrivialMotion (f : TFramework) (v : (List Int)) : Option Bool :=
(m_impl_isVelocity f v).bind (fun r1 =>
(bif (!r1) then
 some false
 else
((loopM (m_impl_IsTrivialMotion_L1 f v) BIG 0).bind (fun b28 =>
((loopM (m_impl_IsTrivialMotion_L2 f v b28) BIG 0).bind (Sum.elim (fun b74 => (
 some true
)) (fun r => some r)))
))
)
)

def m_impl_FindMotion_L1 (f : TFramework) (r1 : (List (List Int))) (s2 : Int) : Option (Int ⊕ (Unit ⊕ ((List Int) × Bool))) :=
(bif (decide (s2 < (r1.length : Int))) then
(idx r1 s2).bind (fun x13 =>
(m_impl_IsTrivialMotion f x13).bind (fun r14 =>
(bif (!r14) then
 some (.inr (.inr (x13, true)))
 else
 some (.inl (w64 (s2 + 1)))
)
)
)
 else
 some (.inr (.inl ()))
)
def m_impl_FindMotion (f : TFramework) : Option ((List Int) × Bool) :=
(m_impl_MotionsOf f).bind (fun r1 =>
((loopM (m_impl_FindMotion_L1 f r1) BIG 0).bind (Sum.elim (fun b11 => (
 some (([] : List Int), false)
)) (fun r => some r)))
)

def m_laws_sameInts_L1 (a : (List Int)) (b : (List Int)) (s2 : Int) : Option (Int ⊕ (Unit ⊕ Bool)) :=
(bif (decide (s2 < (a.length : Int))) then
(idx a s2).bind (fun x13 =>
(idx b s2).bind (fun x14 =>
(bif (x13 != x14) then
 some (.inr (.inr false))
 else
 some (.inl (w64 (s2 + 1)))
)
)
)
 else
 some (.inr (.inl ()))
)
def m_laws_sameInts (a : (List Int)) (b : (List Int)) : Option Bool :=
(bif ((a.length : Int) != (b.length : Int)) then
 some false
 else
((loopM (m_laws_sameInts_L1 a b) BIG 0).bind (Sum.elim (fun b11 => (
 some true
)) (fun r => some r)))
)

def m_laws_sameSets_L1 (a : (List (List Int))) (b : (List (List Int))) (s2 : Int) : Option (Int ⊕ (Unit ⊕ Bool)) :=
(bif (decide (s2 < (a.length : Int))) then
(idx a s2).bind (fun x15 =>
(idx b s2).bind (fun x16 =>
(m_laws_sameInts x15 x16).bind (fun r17 =>
(bif (!r17) then
 some (.inr (.inr false))
 else
 some (.inl (w64 (s2 + 1)))
)
)
)
)
 else
 some (.inr (.inl ()))
)
def m_laws_sameSets (a : (List (List Int))) (b : (List (List Int))) : Option Bool :=
(bif ((a.length : Int) != (b.length : Int)) then
 some false
 else
((loopM (m_laws_sameSets_L1 a b) BIG 0).bind (Sum.elim (fun b13 => (
 some true
)) (fun r => some r)))
)

def m_impl_CountStresses (f : TFramework) : Option Int :=
(m_impl_IsFramework f).bind (fun r1 =>
(bif (!r1) then
 some (-1)
 else
(m_impl_FrameworkRank f).bind (fun r3 =>
 some (w64 ((f.Graph.Bars.length : Int) - r3))
)
)
)

def m_impl_StressedBars_L1 (w : (List Int)) (s1 : (Int × (List Int))) : Option ((Int × (List Int)) ⊕ (List Int)) :=
(bif (decide (s1.1 < (w.length : Int))) then
(idx w s1.1).bind (fun x18 =>
(((
(bif (x18 != 0) then
(lim (s1.2.length + ([s1.1] : List Int).length)).bind (fun u23 =>
 some (s1.2 ++ ([s1.1] : List Int))
)
 else
 some s1.2
)
) : Option (List Int)).bind (fun j21 =>
 some (.inl ((w64 (s1.1 + 1)), j21))
))
)
 else
 some (.inr s1.2)
)
def m_impl_StressedBars (w : (List Int)) : Option (List Int) :=
((loopM (m_impl_StressedBars_L1 w) BIG (0, ([] : List Int))).bind (fun b16 =>
 some b16
))

def m_impl_CanBear (f : TFramework) (load : (List Int)) : Option Bool :=
(m_impl_BearingForces f load).bind (fun r1 =>
 some r1.2.2
)

def m_impl_PlaneMotions_L1 (f : TFramework) (s3 : (Int × (List (List Int)))) : Option ((Int × (List (List Int))) ⊕ (List (List Int))) :=
(bif (decide (s3.1 < (f.Places.length : Int))) then
(idx f.Places s3.1).bind (fun x28 =>
(idx s3.2 0).bind (fun x29 =>
(lim (x29.length + ([1, 0] : List Int).length)).bind (fun u30 =>
(idx (s3.2.set (Int.toNat 0) []) 0).bind (fun x31 =>
(idx ((s3.2.set (Int.toNat 0) []).set (Int.toNat 0) (x29 ++ ([1, 0] : List Int))) 1).bind (fun x32 =>
(lim (x32.length + ([0, 1] : List Int).length)).bind (fun u33 =>
(idx (((s3.2.set (Int.toNat 0) []).set (Int.toNat 0) (x29 ++ ([1, 0] : List Int))).set (Int.toNat 1) []) 1).bind (fun x34 =>
(idx ((((s3.2.set (Int.toNat 0) []).set (Int.toNat 0) (x29 ++ ([1, 0] : List Int))).set (Int.toNat 1) []).set (Int.toNat 1) (x32 ++ ([0, 1] : List Int))) 2).bind (fun x35 =>
(lim (x35.length + ([(w64 (-x28.Y)), x28.X] : List Int).length)).bind (fun u36 =>
(idx (((((s3.2.set (Int.toNat 0) []).set (Int.toNat 0) (x29 ++ ([1, 0] : List Int))).set (Int.toNat 1) []).set (Int.toNat 1) (x32 ++ ([0, 1] : List Int))).set (Int.toNat 2) []) 2).bind (fun x37 =>
 some (.inl ((w64 (s3.1 + 1)), ((((((s3.2.set (Int.toNat 0) []).set (Int.toNat 0) (x29 ++ ([1, 0] : List Int))).set (Int.toNat 1) []).set (Int.toNat 1) (x32 ++ ([0, 1] : List Int))).set (Int.toNat 2) []).set (Int.toNat 2) (x35 ++ ([(w64 (-x28.Y)), x28.X] : List Int)))))
)
)
)
)
)
)
)
)
)
)
 else
 some (.inr s3.2)
)
def m_impl_PlaneMotions (f : TFramework) : Option (List (List Int)) :=
(m_impl_IsFramework f).bind (fun r1 =>
(bif (!r1) then
 some ([] : List (List Int))
 else
(same 3 ((((([] : List (List Int)) ++ [([] : List Int)]) ++ [([] : List Int)]) ++ [([] : List Int)]).length)).bind (fun u38 =>
((loopM (m_impl_PlaneMotions_L1 f) BIG (0, (((([] : List (List Int)) ++ [([] : List Int)]) ++ [([] : List Int)]) ++ [([] : List Int)]))).bind (fun b26 =>
 some b26
))
)
)
)

def m_impl_IsEquilibriumLoad_L4 (load : (List Int)) (s4 : (Int × Int × (List (List Int)))) (x29 : (List Int)) (s30 : (Int × Int)) : Option ((Int × Int) ⊕ (Int × Int × Int × (List (List Int)))) :=
(bif (decide (s30.2 < (x29.length : Int))) then
(idx x29 s30.2).bind (fun x39 =>
(idx load s30.2).bind (fun x40 =>
 some (.inl ((w64 (s30.1 + (w64 (x39 * x40)))), (w64 (s30.2 + 1))))
)
)
 else
 some (.inr (s30.1, s4.1, s4.2.1, s4.2.2))
)
def m_impl_IsEquilibriumLoad_L3 (load : (List Int)) (s4 : (Int × Int × (List (List Int)))) : Option ((Int × Int × (List (List Int))) ⊕ (Unit ⊕ Bool)) :=
(bif (decide (s4.2.1 < s4.1)) then
(idx s4.2.2 s4.2.1).bind (fun x29 =>
((loopM (m_impl_IsEquilibriumLoad_L4 load s4 x29) BIG (0, 0)).bind (fun b37 =>
(bif (b37.1 != 0) then
 some (.inr (.inr false))
 else
 some (.inl (b37.2.1, (w64 (b37.2.2.1 + 1)), b37.2.2.2))
)
))
)
 else
 some (.inr (.inl ()))
)
def m_impl_IsEquilibriumLoad (f : TFramework) (load : (List Int)) : Option Bool :=
(m_impl_isLoad f load).bind (fun r1 =>
(bif (!r1) then
 some false
 else
(m_impl_PlaneMotions f).bind (fun r3 =>
((loopM (m_impl_IsEquilibriumLoad_L3 load) BIG ((r3.length : Int), 0, r3)).bind (Sum.elim (fun b27 => (
 some true
)) (fun r => some r)))
)
)
)

def m_spec_PlaneMotions_L1 (f : TFramework) (s3 : (Int × (List Int) × (List Int) × (List Int))) : Option ((Int × (List Int) × (List Int) × (List Int)) ⊕ ((List Int) × (List Int) × (List Int))) :=
(bif (decide (s3.1 < (f.Places.length : Int))) then
(lim (s3.2.1.length + ([1, 0] : List Int).length)).bind (fun u18 =>
(lim (s3.2.2.1.length + ([0, 1] : List Int).length)).bind (fun u19 =>
(idx f.Places s3.1).bind (fun x20 =>
(idx f.Places s3.1).bind (fun x21 =>
(lim (s3.2.2.2.length + ([(w64 (-x20.Y)), x21.X] : List Int).length)).bind (fun u22 =>
 some (.inl ((w64 (s3.1 + 1)), (s3.2.1 ++ ([1, 0] : List Int)), (s3.2.2.1 ++ ([0, 1] : List Int)), (s3.2.2.2 ++ ([(w64 (-x20.Y)), x21.X] : List Int))))
)
)
)
)
)
 else
 some (.inr (s3.2.1, s3.2.2.1, s3.2.2.2))
)
def m_spec_PlaneMotions (f : TFramework) : Option (List (List Int)) :=
(m_spec_IsFramework f).bind (fun r1 =>
(bif (!r1) then
 some ([] : List (List Int))
 else
((loopM (m_spec_PlaneMotions_L1 f) BIG (0, ([] : List Int), ([] : List Int), ([] : List Int))).bind (fun b16 =>
(lim (([] : List (List Int)).length + [b16.1, b16.2.1, b16.2.2].length)).bind (fun u23 =>
 some (([] : List (List Int)) ++ [b16.1, b16.2.1, b16.2.2])
)
))
)
)

def m_spec_IsEquilibriumLoad_L4 (load : (List Int)) (s4 : (Int × (List (List Int)))) (s31 : (Int × Int)) : Option ((Int × Int) ⊕ (Int × Int × (List (List Int)))) :=
(bif (decide (s31.2 < (load.length : Int))) then
(idx load s31.2).bind (fun x42 =>
(idx s4.2 s4.1).bind (fun x43 =>
(idx x43 s31.2).bind (fun x44 =>
 some (.inl ((w64 (s31.1 + (w64 (x42 * x44)))), (w64 (s31.2 + 1))))
)
)
)
 else
 some (.inr (s4.1, s31.1, s4.2))
)
def m_spec_IsEquilibriumLoad_L3 (load : (List Int)) (s4 : (Int × (List (List Int)))) : Option ((Int × (List (List Int))) ⊕ (Unit ⊕ Bool)) :=
(bif (decide (s4.1 < 3)) then
((loopM (m_spec_IsEquilibriumLoad_L4 load s4) BIG (0, 0)).bind (fun b40 =>
(bif (b40.2.1 != 0) then
 some (.inr (.inr false))
 else
 some (.inl ((w64 (b40.1 + 1)), b40.2.2))
)
))
 else
 some (.inr (.inl ()))
)
def m_spec_IsEquilibriumLoad (f : TFramework) (load : (List Int)) : Option Bool :=
(m_spec_l13Load f load).bind (fun r1 =>
(bif (!r1) then
 some false
 else
(m_spec_PlaneMotions f).bind (fun r3 =>
((loopM (m_spec_IsEquilibriumLoad_L3 load) BIG (0, r3)).bind (Sum.elim (fun b29 => (
 some true
)) (fun r => some r)))
)
)
)

def m_spec_StressedBars_L1 (w : (List Int)) (s1 : (Int × (List Int))) : Option ((Int × (List Int)) ⊕ (List Int)) :=
(bif (decide (s1.1 < (w.length : Int))) then
(idx w s1.1).bind (fun x18 =>
(((
(bif (x18 != 0) then
(lim (s1.2.length + ([s1.1] : List Int).length)).bind (fun u23 =>
 some (s1.2 ++ ([s1.1] : List Int))
)
 else
 some s1.2
)
) : Option (List Int)).bind (fun j21 =>
 some (.inl ((w64 (s1.1 + 1)), j21))
))
)
 else
 some (.inr s1.2)
)
def m_spec_StressedBars (w : (List Int)) : Option (List Int) :=
((loopM (m_spec_StressedBars_L1 w) BIG (0, ([] : List Int))).bind (fun b16 =>
 some b16
))

def m_impl_IsIndependentFramework (f : TFramework) : Option Bool :=
(((
(m_impl_IsFramework f).bind (fun r5 =>
(bif r5 then
(m_impl_FrameworkRank f).bind (fun r7 =>
 some (r7 == (f.Graph.Bars.length : Int))
)
 else
 some false
)
)
) : Option Bool).bind (fun j4 =>
 some j4
))

def m_spec_IsIndependentFramework (f : TFramework) : Option Bool :=
(((
(m_spec_IsFramework f).bind (fun r5 =>
(bif r5 then
(m_spec_FrameworkRank f).bind (fun r7 =>
 some (r7 == (f.Graph.Bars.length : Int))
)
 else
 some false
)
)
) : Option Bool).bind (fun j4 =>
 some j4
))

def m_impl_AreCollinear (a : TPlace) (b : TPlace) (c : TPlace) : Option Bool :=
(((
(m_impl_isPlace a).bind (fun r8 =>
(bif r8 then
(m_impl_isPlace b).bind (fun r10 =>
(bif r10 then
(m_impl_isPlace c).bind (fun r12 =>
(bif r12 then
 some ((w64 ((w64 (b.X - a.X)) * (w64 (c.Y - a.Y)))) == (w64 ((w64 (c.X - a.X)) * (w64 (b.Y - a.Y)))))
 else
 some false
)
)
 else
 some false
)
)
 else
 some false
)
)
) : Option Bool).bind (fun j7 =>
 some j7
))

def m_impl_FlatSets_L11 (f : TFramework) (s104 : (Int × Int × Int × (List (List Int)))) (s153 : (Int × (List (List Int)))) : Option ((Int × (List (List Int))) ⊕ (Int × Int × Int × (List (List Int)))) :=
(bif (decide (s153.1 < (f.Places.length : Int))) then
(idx f.Places s104.1).bind (fun x176 =>
(idx f.Places s104.2.1).bind (fun x177 =>
(idx f.Places s153.1).bind (fun x178 =>
(m_impl_AreCollinear x176 x177 x178).bind (fun r179 =>
(((
(bif r179 then
(lim (s153.2.length + 1)).bind (fun u184 =>
 some (s153.2 ++ [([s104.1, s104.2.1, s153.1] : List Int)])
)
 else
 some s153.2
)
) : Option (List (List Int))).bind (fun j182 =>
 some (.inl ((w64 (s153.1 + 1)), j182))
))
)
)
)
)
 else
 some (.inr (s104.1, s104.2.1, s104.2.2.1, s153.2))
)
def m_impl_FlatSets_L10 (f : TFramework) (s104 : (Int × Int × Int × (List (List Int)))) : Option ((Int × Int × Int × (List (List Int))) ⊕ (Int × (List (List Int)))) :=
(bif (decide (s104.2.1 < (f.Places.length : Int))) then
((loopM (m_impl_FlatSets_L11 f s104) BIG ((w64 (s104.2.1 + 1)), s104.2.2.2)).bind (fun b174 =>
 some (.inl (b174.1, (w64 (b174.2.1 + 1)), b174.2.2.1, b174.2.2.2))
))
 else
 some (.inr (s104.2.2.1, s104.2.2.2))
)
def m_impl_FlatSets_L7 (f : TFramework) (s3 : (Int × (List (List Int)))) : Option ((Int × (List (List Int))) ⊕ (List (List Int))) :=
(bif (decide (s3.1 < (f.Places.length : Int))) then
((loopM (m_impl_FlatSets_L10 f) BIG (s3.1, (w64 (s3.1 + 1)), s3.1, s3.2)).bind (fun b151 =>
 some (.inl ((w64 (b151.1 + 1)), b151.2))
))
 else
 some (.inr s3.2)
)
def m_impl_FlatSets (f : TFramework) : Option (List (List Int)) :=
(m_impl_IsFramework f).bind (fun r1 =>
(bif (!r1) then
 some ([] : List (List Int))
 else
((loopM (m_impl_FlatSets_L7 f) BIG (0, ([] : List (List Int)))).bind (fun b102 =>
 some b102
))
)
)

def m_spec_l10On (p : TPlace) : Option Bool :=
(((
(m_spec_l1In p.X 0 4).bind (fun r5 =>
(bif r5 then
(m_spec_l1In p.Y 0 4).bind (fun r7 =>
 some r7
)
 else
 some false
)
)
) : Option Bool).bind (fun j4 =>
 some j4
))

def m_spec_AreCollinear (a : TPlace) (b : TPlace) (c : TPlace) : Option Bool :=
(((
(m_spec_l10On a).bind (fun r7 =>
(bif (!r7) then
 some true
 else
(m_spec_l10On b).bind (fun r9 =>
(bif (!r9) then
 some true
 else
(m_spec_l10On c).bind (fun r11 =>
 some (!r11)
)
)
)
)
)
) : Option Bool).bind (fun j6 =>
(bif j6 then
 some false
 else
 some ((w64 ((w64 (b.X - a.X)) * (w64 (c.Y - a.Y)))) == (w64 ((w64 (b.Y - a.Y)) * (w64 (c.X - a.X)))))
)
))

def m_spec_FlatSets_L11 (f : TFramework) (s117 : (Int × Int × (List (List Int)))) (s166 : (Int × (List (List Int)))) : Option ((Int × (List (List Int))) ⊕ (Int × Int × (List (List Int)))) :=
(bif (decide (s166.1 < (f.Places.length : Int))) then
(idx f.Places s117.1).bind (fun x189 =>
(idx f.Places s117.2.1).bind (fun x190 =>
(idx f.Places s166.1).bind (fun x191 =>
(m_spec_AreCollinear x189 x190 x191).bind (fun r192 =>
(((
(bif r192 then
(lim (s166.2.length + [([s117.1, s117.2.1, s166.1] : List Int)].length)).bind (fun u197 =>
 some (s166.2 ++ [([s117.1, s117.2.1, s166.1] : List Int)])
)
 else
 some s166.2
)
) : Option (List (List Int))).bind (fun j195 =>
 some (.inl ((w64 (s166.1 + 1)), j195))
))
)
)
)
)
 else
 some (.inr (s117.1, s117.2.1, s166.2))
)
def m_spec_FlatSets_L10 (f : TFramework) (s117 : (Int × Int × (List (List Int)))) : Option ((Int × Int × (List (List Int))) ⊕ (Int × (List (List Int)))) :=
(bif (decide (s117.2.1 < (f.Places.length : Int))) then
((loopM (m_spec_FlatSets_L11 f s117) BIG ((w64 (s117.2.1 + 1)), s117.2.2)).bind (fun b187 =>
 some (.inl (b187.1, (w64 (b187.2.1 + 1)), b187.2.2))
))
 else
 some (.inr (s117.1, s117.2.2))
)
def m_spec_FlatSets_L7 (f : TFramework) (s1 : (Int × (List (List Int)))) : Option ((Int × (List (List Int))) ⊕ (List (List Int))) :=
(((
(bif (decide (s1.1 < (f.Places.length : Int))) then
(m_spec_IsFramework f).bind (fun r115 =>
 some r115
)
 else
 some false
)
) : Option Bool).bind (fun j113 =>
(bif j113 then
((loopM (m_spec_FlatSets_L10 f) BIG (s1.1, (w64 (s1.1 + 1)), s1.2)).bind (fun b164 =>
 some (.inl ((w64 (b164.1 + 1)), b164.2))
))
 else
 some (.inr s1.2)
)
))
def m_spec_FlatSets (f : TFramework) : Option (List (List Int)) :=
((loopM (m_spec_FlatSets_L7 f) BIG (0, ([] : List (List Int)))).bind (fun b110 =>
 some b110
))

def m_spec_CountBar_L1 (g : TGraph) (a : Int) (b : Int) (s1 : (Int × Int)) : Option ((Int × Int) ⊕ Int) :=
(bif (decide (s1.2 < (g.Bars.length : Int))) then
(((
(idx g.Bars s1.2).bind (fun x65 =>
(bif (x65.A == a) then
(idx g.Bars s1.2).bind (fun x67 =>
(bif (x67.B == b) then
 some true
 else
(idx g.Bars s1.2).bind (fun x69 =>
(bif (x69.A == b) then
(idx g.Bars s1.2).bind (fun x71 =>
 some (x71.B == a)
)
 else
 some false
)
)
)
)
 else
(idx g.Bars s1.2).bind (fun x72 =>
(bif (x72.A == b) then
(idx g.Bars s1.2).bind (fun x74 =>
 some (x74.B == a)
)
 else
 some false
)
)
)
)
) : Option Bool).bind (fun j64 =>
(((
(bif j64 then
 some (w64 (s1.1 + 1))
 else
 some s1.1
)
) : Option Int).bind (fun j76 =>
 some (.inl (j76, (w64 (s1.2 + 1))))
))
))
 else
 some (.inr s1.1)
)
def m_spec_CountBar (g : TGraph) (a : Int) (b : Int) : Option Int :=
((loopM (m_spec_CountBar_L1 g a b) BIG (0, 0)).bind (fun b52 =>
 some b52
))

def m_spec_MissingBars_L4 (g : TGraph) (s1 : (Int × (List TBar))) (s53 : (Int × (List TBar))) : Option ((Int × (List TBar)) ⊕ (Int × (List TBar))) :=
(bif (decide (s53.1 < g.Points)) then
(m_spec_CountBar g s1.1 s53.1).bind (fun r70 =>
(((
(bif (r70 == 0) then
(lim (s53.2.length + [(TBar.mk s1.1 s53.1)].length)).bind (fun u75 =>
 some (s53.2 ++ [(TBar.mk s1.1 s53.1)])
)
 else
 some s53.2
)
) : Option (List TBar)).bind (fun j73 =>
 some (.inl ((w64 (s53.1 + 1)), j73))
))
)
 else
 some (.inr (s1.1, s53.2))
)
def m_spec_MissingBars_L3 (g : TGraph) (s1 : (Int × (List TBar))) : Option ((Int × (List TBar)) ⊕ (List TBar)) :=
(((
(bif (decide (s1.1 < g.Points)) then
(m_spec_IsGraph g).bind (fun r51 =>
 some r51
)
 else
 some false
)
) : Option Bool).bind (fun j49 =>
(bif j49 then
((loopM (m_spec_MissingBars_L4 g s1) BIG ((w64 (s1.1 + 1)), s1.2)).bind (fun b68 =>
 some (.inl ((w64 (b68.1 + 1)), b68.2))
))
 else
 some (.inr s1.2)
)
))
def m_spec_MissingBars (g : TGraph) : Option (List TBar) :=
((loopM (m_spec_MissingBars_L3 g) BIG (0, ([] : List TBar))).bind (fun b46 =>
 some b46
))

def m_laws_at (code : (List Int)) (i : Int) : Option Int :=
(bif (decide (i < (code.length : Int))) then
(idx code i).bind (fun x2 =>
 some (w64 x2)
)
 else
 some (Int.tmod (w64 ((w64 (i * 37)) + (w64 ((code.length : Int) * 11)))) 256)
)

def m_spec_l2Put_L1 (g : TGraph) (x : TBar) (s1 : (Bool × Int × (List TBar))) : Option ((Bool × Int × (List TBar)) ⊕ (Bool × (List TBar))) :=
(bif (decide (s1.2.1 < (g.Bars.length : Int))) then
(((
(bif (!s1.1) then
(idx g.Bars s1.2.1).bind (fun x36 =>
(m_spec_l2After x36 x).bind (fun r37 =>
 some (!r37)
)
)
 else
 some false
)
) : Option Bool).bind (fun j34 =>
(((
(bif j34 then
(lim (s1.2.2.length + [x].length)).bind (fun u42 =>
 some (true, (s1.2.2 ++ [x]))
)
 else
 some (s1.1, s1.2.2)
)
) : Option (Bool × (List TBar))).bind (fun j40 =>
(idx g.Bars s1.2.1).bind (fun x43 =>
(lim (j40.2.length + [x43].length)).bind (fun u44 =>
 some (.inl (j40.1, (w64 (s1.2.1 + 1)), (j40.2 ++ [x43])))
)
)
))
))
 else
 some (.inr (s1.1, s1.2.2))
)
def m_spec_l2Put (g : TGraph) (x : TBar) : Option TGraph :=
((loopM (m_spec_l2Put_L1 g x) BIG (false, 0, ([] : List TBar))).bind (fun b29 =>
(((
(bif (!b29.1) then
(lim (b29.2.length + [x].length)).bind (fun u49 =>
 some (b29.2 ++ [x])
)
 else
 some b29.2
)
) : Option (List TBar)).bind (fun j47 =>
 some (TGraph.mk g.Points j47)
))
))

def m_spec_AddBar (g : TGraph) (a : Int) (b : Int) : Option (TGraph × Bool) :=
(((
(m_spec_IsGraph g).bind (fun r9 =>
(bif (!r9) then
 some true
 else
(bif (decide (a < 0)) then
 some true
 else
(bif (decide (b < 0)) then
 some true
 else
(bif (decide (g.Points ≤ a)) then
 some true
 else
(bif (decide (g.Points ≤ b)) then
 some true
 else
(bif (a == b) then
 some true
 else
 some (decide (24 ≤ (g.Bars.length : Int)))
)
)
)
)
)
)
)
) : Option Bool).bind (fun j8 =>
(bif j8 then
(m_spec_l2Copy g).bind (fun r17 =>
 some (r17, false)
)
 else
(m_spec_l2Put g (TBar.mk (if b < a then b else a) (if a < b then b else a))).bind (fun r18 =>
 some (r18, true)
)
)
))

def m_spec_RemoveBar (g : TGraph) (k : Int) : Option (TGraph × Bool) :=
(((
(m_spec_IsGraph g).bind (fun r5 =>
(bif (!r5) then
 some true
 else
(bif (decide (k < 0)) then
 some true
 else
 some (decide ((g.Bars.length : Int) ≤ k))
)
)
)
) : Option Bool).bind (fun j4 =>
(bif j4 then
(m_spec_l2Copy g).bind (fun r9 =>
 some (r9, false)
)
 else
(slc g.Bars 0 k).bind (fun v10 =>
(lim (([] : List TBar).length + ((g.Bars.take k.toNat).drop 0).length)).bind (fun u11 =>
(slc g.Bars (w64 (k + 1)) (g.Bars.length : Int)).bind (fun v12 =>
(lim ((([] : List TBar) ++ ((g.Bars.take k.toNat).drop 0)).length + ((g.Bars.take g.Bars.length).drop ((w64 (k + 1)).toNat)).length)).bind (fun u13 =>
 some ((TGraph.mk g.Points ((([] : List TBar) ++ ((g.Bars.take k.toNat).drop 0)) ++ ((g.Bars.take g.Bars.length).drop ((w64 (k + 1)).toNat)))), true)
)
)
)
)
)
))

def m_spec_IsAllowedMotion_L1 (tV : TTensegrity) (v : (List Int)) (s9 : Int) : Option (Int ⊕ (Unit ⊕ Bool)) :=
(bif (decide (s9 < (tV.Kinds.length : Int))) then
(idx tV.Framework.Graph.Bars s9).bind (fun x92 =>
(idx tV.Framework.Graph.Bars s9).bind (fun x93 =>
(m_spec_ChangeOf tV.Framework v x92.A x93.B).bind (fun r94 =>
(((
(idx tV.Kinds s9).bind (fun x113 =>
(bif (x113 == 0) then
(bif (r94 != 0) then
 some true
 else
(idx tV.Kinds s9).bind (fun x116 =>
(bif (x116 == 1) then
(bif (decide (0 < r94)) then
 some true
 else
(idx tV.Kinds s9).bind (fun x119 =>
(bif (x119 == 2) then
 some (decide (r94 < 0))
 else
 some false
)
)
)
 else
(idx tV.Kinds s9).bind (fun x121 =>
(bif (x121 == 2) then
 some (decide (r94 < 0))
 else
 some false
)
)
)
)
)
 else
(idx tV.Kinds s9).bind (fun x123 =>
(bif (x123 == 1) then
(bif (decide (0 < r94)) then
 some true
 else
(idx tV.Kinds s9).bind (fun x126 =>
(bif (x126 == 2) then
 some (decide (r94 < 0))
 else
 some false
)
)
)
 else
(idx tV.Kinds s9).bind (fun x128 =>
(bif (x128 == 2) then
 some (decide (r94 < 0))
 else
 some false
)
)
)
)
)
)
) : Option Bool).bind (fun j112 =>
(bif j112 then
 some (.inr (.inr false))
 else
 some (.inl (w64 (s9 + 1)))
)
))
)
)
)
 else
 some (.inr (.inl ()))
)
def m_spec_IsAllowedMotion (tV : TTensegrity) (v : (List Int)) : Option Bool :=
(((
(m_spec_IsTensegrity tV).bind (fun r5 =>
(bif (!r5) then
 some true
 else
(m_spec_l12Vector tV.Framework v).bind (fun r7 =>
 some (!r7)
)
)
)
) : Option Bool).bind (fun j4 =>
(bif j4 then
 some false
 else
((loopM (m_spec_IsAllowedMotion_L1 tV v) BIG 0).bind (Sum.elim (fun b90 => (
 some true
)) (fun r => some r)))
)
))

def m_spec_ProvesLoose (tV : TTensegrity) (v : (List Int)) : Option Bool :=
(((
(m_spec_IsAllowedMotion tV v).bind (fun r5 =>
(bif r5 then
(m_spec_IsTrivialMotion tV.Framework v).bind (fun r7 =>
 some (!r7)
)
 else
 some false
)
)
) : Option Bool).bind (fun j4 =>
 some j4
))

def m_spec_l19Loose_L4 (l : (List (List Int))) (s1 : Int) (s46 : (Int × (List Int))) : Option ((Int × (List Int)) ⊕ (Int × (List Int))) :=
(idx l s1).bind (fun x58 =>
(bif (decide (s46.1 < (x58.length : Int))) then
(idx l s1).bind (fun x60 =>
(idx x60 s46.1).bind (fun x61 =>
(lim (s46.2.length + ([(w64 (-x61))] : List Int).length)).bind (fun u62 =>
 some (.inl ((w64 (s46.1 + 1)), (s46.2 ++ ([(w64 (-x61))] : List Int))))
)
)
)
 else
 some (.inr (s1, s46.2))
)
)
def m_spec_l19Loose_L3 (tV : TTensegrity) (l : (List (List Int))) (s1 : Int) : Option (Int ⊕ (Unit ⊕ ((List Int) × Bool))) :=
(bif (decide (s1 < (l.length : Int))) then
(idx l s1).bind (fun x42 =>
(m_spec_ProvesLoose tV x42).bind (fun r43 =>
(bif r43 then
(idx l s1).bind (fun x45 =>
 some (.inr (.inr (x45, true)))
)
 else
((loopM (m_spec_l19Loose_L4 l s1) BIG (0, ([] : List Int))).bind (fun b57 =>
(m_spec_ProvesLoose tV b57.2).bind (fun r63 =>
(bif r63 then
 some (.inr (.inr (b57.2, true)))
 else
 some (.inl (w64 (b57.1 + 1)))
)
)
))
)
)
)
 else
 some (.inr (.inl ()))
)
def m_spec_l19Loose (tV : TTensegrity) (l : (List (List Int))) : Option ((List Int) × Bool) :=
((loopM (m_spec_l19Loose_L3 tV l) BIG 0).bind (Sum.elim (fun b40 => (
 some (([] : List Int), false)
)) (fun r => some r)))

def m_impl_ChangeOf (f : TFramework) (v : (List Int)) (a : Int) (b : Int) : Option Int :=
(((
(m_impl_isVelocity f v).bind (fun r7 =>
(bif (!r7) then
 some true
 else
(m_impl_Graph_has f.Graph a).bind (fun r9 =>
(bif (!r9) then
 some true
 else
(m_impl_Graph_has f.Graph b).bind (fun r11 =>
 some (!r11)
)
)
)
)
)
) : Option Bool).bind (fun j6 =>
(bif j6 then
 some 0
 else
(idx f.Places a).bind (fun x13 =>
(idx f.Places b).bind (fun x14 =>
(idx v (w64 (2 * a))).bind (fun x15 =>
(idx v (w64 (2 * b))).bind (fun x16 =>
(idx v (w64 ((w64 (2 * a)) + 1))).bind (fun x17 =>
(idx v (w64 ((w64 (2 * b)) + 1))).bind (fun x18 =>
 some (w64 ((w64 ((w64 (x13.X - x14.X)) * (w64 (x15 - x16)))) + (w64 ((w64 (x13.Y - x14.Y)) * (w64 (x17 - x18))))))
)
)
)
)
)
)
)
))

def m_impl_IsAllowedMotion_L1 (tV : TTensegrity) (v : (List Int)) (s9 : Int) : Option (Int ⊕ (Unit ⊕ Bool)) :=
(bif (decide (s9 < (tV.Framework.Graph.Bars.length : Int))) then
(idx tV.Framework.Graph.Bars s9).bind (fun x90 =>
(m_impl_ChangeOf tV.Framework v x90.A x90.B).bind (fun r91 =>
(((
(idx tV.Kinds s9).bind (fun x110 =>
(bif (x110 == 0) then
(bif (r91 != 0) then
 some true
 else
(idx tV.Kinds s9).bind (fun x113 =>
(bif (x113 == 1) then
(bif (decide (0 < r91)) then
 some true
 else
(idx tV.Kinds s9).bind (fun x116 =>
(bif (x116 == 2) then
 some (decide (r91 < 0))
 else
 some false
)
)
)
 else
(idx tV.Kinds s9).bind (fun x118 =>
(bif (x118 == 2) then
 some (decide (r91 < 0))
 else
 some false
)
)
)
)
)
 else
(idx tV.Kinds s9).bind (fun x120 =>
(bif (x120 == 1) then
(bif (decide (0 < r91)) then
 some true
 else
(idx tV.Kinds s9).bind (fun x123 =>
(bif (x123 == 2) then
 some (decide (r91 < 0))
 else
 some false
)
)
)
 else
(idx tV.Kinds s9).bind (fun x125 =>
(bif (x125 == 2) then
 some (decide (r91 < 0))
 else
 some false
)
)
)
)
)
)
) : Option Bool).bind (fun j109 =>
(bif j109 then
 some (.inr (.inr false))
 else
 some (.inl (w64 (s9 + 1)))
)
))
)
)
 else
 some (.inr (.inl ()))
)
def m_impl_IsAllowedMotion (tV : TTensegrity) (v : (List Int)) : Option Bool :=
(((
(m_impl_IsTensegrity tV).bind (fun r5 =>
(bif (!r5) then
 some true
 else
(m_impl_isVelocity tV.Framework v).bind (fun r7 =>
 some (!r7)
)
)
)
) : Option Bool).bind (fun j4 =>
(bif j4 then
 some false
 else
((loopM (m_impl_IsAllowedMotion_L1 tV v) BIG 0).bind (Sum.elim (fun b88 => (
 some true
)) (fun r => some r)))
)
))

def m_impl_ProvesLoose (tV : TTensegrity) (v : (List Int)) : Option Bool :=
(((
(m_impl_IsAllowedMotion tV v).bind (fun r5 =>
(bif r5 then
(m_impl_IsTrivialMotion tV.Framework v).bind (fun r7 =>
 some (!r7)
)
 else
 some false
)
)
) : Option Bool).bind (fun j4 =>
 some j4
))

def m_spec_l1Byte (c : Tl1Cur) : Option (Int × Tl1Cur) :=
(((
(bif (decide (c.i < (c.b.length : Int))) then
(idx c.b c.i).bind (fun x5 =>
 some ((bits .and .i64 (w64 ((bits .and .i64 (bits .xor .i64 (shrI (w64 ((w64 (c.h * 6364136223846793005)) + 1442695040888963407)) 33) (shrI (w64 ((w64 (c.h * 6364136223846793005)) + 1442695040888963407)) 45)) 255) + (w64 x5))) 255), (w64 (c.i + 1)))
)
 else
 some ((bits .and .i64 (bits .xor .i64 (shrI (w64 ((w64 (c.h * 6364136223846793005)) + 1442695040888963407)) 33) (shrI (w64 ((w64 (c.h * 6364136223846793005)) + 1442695040888963407)) 45)) 255), c.i)
)
) : Option (Int × Int)).bind (fun j3 =>
 some (j3.1, (Tl1Cur.mk c.b j3.2 (w64 ((w64 (c.h * 6364136223846793005)) + 1442695040888963407))))
))

def m_spec_l1Below (c : Tl1Cur) (n : Int) : Option (Int × Tl1Cur) :=
(bif (decide (n ≤ 0)) then
 some (0, c)
 else
(bif (decide (n ≤ 256)) then
(m_spec_l1Byte c).bind (fun r3 =>
(nz n).bind (fun u4 =>
 some ((Int.tmod r3.1 n), r3.2)
)
)
 else
(m_spec_l1Byte c).bind (fun r5 =>
(m_spec_l1Byte r5.2).bind (fun r6 =>
(m_spec_l1Byte r6.2).bind (fun r7 =>
(m_spec_l1Byte r7.2).bind (fun r8 =>
(nz n).bind (fun u9 =>
 some ((Int.tmod (w64 ((w64 ((w64 ((w64 (r5.1 * 16777216)) + (w64 (r6.1 * 65536)))) + (w64 (r7.1 * 256)))) + r8.1)) n), r8.2)
)
)
)
)
)
)
)

def m_spec_l2Simple_L4 (n : Int) (odd : Int) (s1 : (Int × Int × Int × (List Int) × (List TBar))) (s54 : (Int × Int × Int × (List Int) × (List TBar))) : Option ((Int × Int × Int × (List Int) × (List TBar)) ⊕ (Int × Int × Int × (List Int) × (List TBar))) :=
(bif (decide (s54.1 < n)) then
(((
(m_spec_l1Below (Tl1Cur.mk s54.2.2.2.1 s54.2.1 s54.2.2.1) 10).bind (fun r82 =>
(bif (decide (r82.1 < odd)) then
 some ((decide ((s54.2.2.2.2.length : Int) < 24)), r82.2.i, r82.2.h, r82.2.b)
 else
 some (false, r82.2.i, r82.2.h, r82.2.b)
)
)
) : Option (Bool × Int × Int × (List Int))).bind (fun j81 =>
(((
(bif j81.1 then
(lim (s54.2.2.2.2.length + [(TBar.mk s1.1 s54.1)].length)).bind (fun u88 =>
 some (s54.2.2.2.2 ++ [(TBar.mk s1.1 s54.1)])
)
 else
 some s54.2.2.2.2
)
) : Option (List TBar)).bind (fun j86 =>
 some (.inl ((w64 (s54.1 + 1)), j81.2.1, j81.2.2.1, j81.2.2.2, j86))
))
))
 else
 some (.inr (s1.1, s54.2.1, s54.2.2.1, s54.2.2.2.1, s54.2.2.2.2))
)
def m_spec_l2Simple_L3 (n : Int) (odd : Int) (s1 : (Int × Int × Int × (List Int) × (List TBar))) : Option ((Int × Int × Int × (List Int) × (List TBar)) ⊕ (Int × Int × (List Int) × (List TBar))) :=
(bif (decide (s1.1 < n)) then
((loopM (m_spec_l2Simple_L4 n odd s1) BIG ((w64 (s1.1 + 1)), s1.2.1, s1.2.2.1, s1.2.2.2.1, s1.2.2.2.2)).bind (fun b77 =>
 some (.inl ((w64 (b77.1 + 1)), b77.2.1, b77.2.2.1, b77.2.2.2.1, b77.2.2.2.2))
))
 else
 some (.inr (s1.2.1, s1.2.2.1, s1.2.2.2.1, s1.2.2.2.2))
)
def m_spec_l2Simple (c : Tl1Cur) (n : Int) (odd : Int) : Option (TGraph × Tl1Cur) :=
((loopM (m_spec_l2Simple_L3 n odd) BIG (0, c.i, c.h, c.b, ([] : List TBar))).bind (fun b52 =>
 some ((TGraph.mk n b52.2.2.2), (Tl1Cur.mk b52.2.2.1 b52.1 b52.2.1))
))

def m_spec_l10Of_L1 (g : TGraph) (s1 : (Int × Int × Int × (List Int) × (List TPlace))) : Option ((Int × Int × Int × (List Int) × (List TPlace)) ⊕ (Int × Int × (List Int) × (List TPlace))) :=
(bif (decide (s1.1 < g.Points)) then
(m_spec_l1Below (Tl1Cur.mk s1.2.2.2.1 s1.2.1 s1.2.2.1) 5).bind (fun r12 =>
(m_spec_l1Below r12.2 5).bind (fun r13 =>
(lim (s1.2.2.2.2.length + [(TPlace.mk r12.1 r13.1)].length)).bind (fun u14 =>
 some (.inl ((w64 (s1.1 + 1)), r13.2.i, r13.2.h, r13.2.b, (s1.2.2.2.2 ++ [(TPlace.mk r12.1 r13.1)])))
)
)
)
 else
 some (.inr (s1.2.1, s1.2.2.1, s1.2.2.2.1, s1.2.2.2.2))
)
def m_spec_l10Of_L2 (g : TGraph) (b10 : (Int × Int × (List Int) × (List TPlace))) (s15 : (Int × (List TBar))) : Option ((Int × (List TBar)) ⊕ (Int × Int × (List Int) × (List TBar) × (List TPlace))) :=
(bif (decide (s15.1 < (g.Bars.length : Int))) then
(idx g.Bars s15.1).bind (fun x54 =>
(((
(idx b10.2.2.2 x54.A).bind (fun x61 =>
(idx b10.2.2.2 x54.B).bind (fun x62 =>
(bif (!(eqI [x61.X, x61.Y] [x62.X, x62.Y])) then
(bif (s15.1 == 0) then
 some true
 else
(idx g.Bars (w64 (s15.1 - 1))).bind (fun x65 =>
 some (!(eqI [x65.A, x65.B] [x54.A, x54.B]))
)
)
 else
 some false
)
)
)
) : Option Bool).bind (fun j60 =>
(((
(bif j60 then
(lim (s15.2.length + [x54].length)).bind (fun u70 =>
 some (s15.2 ++ [x54])
)
 else
 some s15.2
)
) : Option (List TBar)).bind (fun j68 =>
 some (.inl ((w64 (s15.1 + 1)), j68))
))
))
)
 else
 some (.inr (b10.1, b10.2.1, b10.2.2.1, s15.2, b10.2.2.2))
)
def m_spec_l10Of (c : Tl1Cur) (g : TGraph) : Option (TFramework × Tl1Cur) :=
((loopM (m_spec_l10Of_L1 g) BIG (0, c.i, c.h, c.b, ([] : List TPlace))).bind (fun b10 =>
((loopM (m_spec_l10Of_L2 g b10) BIG (0, ([] : List TBar))).bind (fun b52 =>
 some ((TFramework.mk (TGraph.mk g.Points b52.2.2.2.1) b52.2.2.2.2), (Tl1Cur.mk b52.2.2.1 b52.1 b52.2.1))
))
))

def m_spec_l1Once (c : Tl1Cur) (n : Int) : Option (Bool × Tl1Cur) :=
(m_spec_l1Below c n).bind (fun r1 =>
 some ((r1.1 == 0), r1.2)
)

def m_spec_l6Third (c : Tl1Cur) (n : Int) (x : TBar) (other : Int) : Option (Int × Tl1Cur) :=
(m_spec_l1Below c n).bind (fun r1 =>
(((
(bif (r1.1 == x.A) then
 some true
 else
 some (r1.1 == x.B)
)
) : Option Bool).bind (fun j3 =>
(bif j3 then
 some (other, r1.2)
 else
 some (r1.1, r1.2)
)
))
)

def m_spec_l6Laman_L7 (s3 : (Int × Int × Int × (List Int) × Int × (List TBar))) (r135 : (Int × Tl1Cur)) (x136 : TBar) (s137 : Int) : Option (Int ⊕ (Int × Int × Int × Int × Int × (List Int) × Int × (List TBar) × Int × Int)) :=
(((
(bif (s137 == x136.A) then
 some true
 else
 some (s137 == x136.B)
)
) : Option Bool).bind (fun j148 =>
(bif j148 then
 some (.inl (w64 (s137 + 1)))
 else
 some (.inr (s3.1, r135.1, s137, r135.2.i, r135.2.h, r135.2.b, s3.2.2.2.2.1, s3.2.2.2.2.2, x136.A, x136.B))
)
))
def m_spec_l6Laman_L5 (n : Int) (s3 : (Int × Int × Int × (List Int) × Int × (List TBar))) : Option ((Int × Int × Int × (List Int) × Int × (List TBar)) ⊕ (Int × Int × (List Int) × Int × (List TBar))) :=
(bif (decide (s3.1 < n)) then
(m_spec_l1Below (Tl1Cur.mk s3.2.2.2.1 s3.2.1 s3.2.2.1) s3.1).bind (fun r105 =>
(m_spec_l1Below r105.2 (w64 (s3.1 - 1))).bind (fun r106 =>
(nz s3.1).bind (fun u107 =>
(((
(m_spec_l1Once r106.2 2).bind (fun r111 =>
(bif r111.1 then
 some ((decide (2 < s3.1)), r111.2.i, r111.2.h, r111.2.b)
 else
 some (false, r111.2.i, r111.2.h, r111.2.b)
)
)
) : Option (Bool × Int × Int × (List Int))).bind (fun j110 =>
(((
(bif j110.1 then
(m_spec_l1Below (Tl1Cur.mk j110.2.2.2 j110.2.1 j110.2.2.1) (s3.2.2.2.2.2.length : Int)).bind (fun r135 =>
(idx s3.2.2.2.2.2 r135.1).bind (fun x136 =>
((loopM (m_spec_l6Laman_L7 s3 r135 x136) BIG 0).bind (fun b146 =>
(m_spec_l6Third (Tl1Cur.mk b146.2.2.2.2.2.1 b146.2.2.2.1 b146.2.2.2.2.1) b146.1 (TBar.mk b146.2.2.2.2.2.2.2.2.1 b146.2.2.2.2.2.2.2.2.2) b146.2.2.1).bind (fun r151 =>
(m_spec_RemoveBar (TGraph.mk b146.2.2.2.2.2.2.1 b146.2.2.2.2.2.2.2.1) b146.2.1).bind (fun r152 =>
(m_spec_l2Put r152.1 (TBar.mk b146.2.2.2.2.2.2.2.2.1 b146.1)).bind (fun r153 =>
(m_spec_l2Put r153 (TBar.mk b146.2.2.2.2.2.2.2.2.2 b146.1)).bind (fun r154 =>
(m_spec_l2Put r154 (TBar.mk r151.1 b146.1)).bind (fun r155 =>
 some (b146.1, r151.2.i, r151.2.h, r151.2.b, r155.Points, r155.Bars)
)
)
)
)
)
))
)
)
 else
(m_spec_l2Put (TGraph.mk s3.2.2.2.2.1 s3.2.2.2.2.2) (TBar.mk r105.1 s3.1)).bind (fun r156 =>
(m_spec_l2Put r156 (TBar.mk (Int.tmod (w64 ((w64 (r105.1 + 1)) + r106.1)) s3.1) s3.1)).bind (fun r157 =>
 some (s3.1, j110.2.1, j110.2.2.1, j110.2.2.2, r157.Points, r157.Bars)
)
)
)
) : Option (Int × Int × Int × (List Int) × Int × (List TBar))).bind (fun j133 =>
 some (.inl ((w64 (j133.1 + 1)), j133.2.1, j133.2.2.1, j133.2.2.2.1, j133.2.2.2.2.1, j133.2.2.2.2.2))
))
))
)
)
)
 else
 some (.inr (s3.2.1, s3.2.2.1, s3.2.2.2.1, s3.2.2.2.2.1, s3.2.2.2.2.2))
)
def m_spec_l6Laman (c : Tl1Cur) (n : Int) : Option (TGraph × Tl1Cur) :=
(bif (decide (n < 2)) then
 some ((TGraph.mk n ([] : List TBar)), c)
 else
(m_spec_l2Put (TGraph.mk n ([] : List TBar)) (TBar.mk 0 1)).bind (fun r2 =>
((loopM (m_spec_l6Laman_L5 n) BIG (2, c.i, c.h, c.b, r2.Points, r2.Bars)).bind (fun b103 =>
 some ((TGraph.mk b103.2.2.2.1 b103.2.2.2.2), (Tl1Cur.mk b103.2.2.1 b103.1 b103.2.1))
))
)
)

def m_spec_l10Framework (c : Tl1Cur) : Option (TFramework × Tl1Cur) :=
(m_spec_l1Below c 3).bind (fun r1 =>
(bif (r1.1 == 0) then
(m_spec_l1Below r1.2 5).bind (fun r3 =>
(m_spec_l2Simple r3.2 (w64 (2 + r3.1)) 7).bind (fun r4 =>
(m_spec_l10Of r4.2 r4.1).bind (fun r5 =>
 some (r5.1, r5.2)
)
)
)
 else
(bif (r1.1 == 1) then
(m_spec_l1Below r1.2 4).bind (fun r7 =>
(m_spec_l6Laman r7.2 (w64 (2 + r7.1))).bind (fun r8 =>
(m_spec_l1Below r8.2 (w64 (2 + r7.1))).bind (fun r9 =>
(m_spec_l1Below r9.2 (w64 (2 + r7.1))).bind (fun r10 =>
(m_spec_AddBar r8.1 r9.1 r10.1).bind (fun r11 =>
(m_spec_l10Of r10.2 r11.1).bind (fun r12 =>
 some (r12.1, r12.2)
)
)
)
)
)
)
 else
(m_spec_l1Below r1.2 5).bind (fun r13 =>
(m_spec_l6Laman r13.2 (w64 (2 + r13.1))).bind (fun r14 =>
(m_spec_l10Of r14.2 r14.1).bind (fun r15 =>
 some (r15.1, r15.2)
)
)
)
)
)
)

def m_spec_l1PickInt (c : Tl1Cur) (list : (List Int)) : Option (Int × Tl1Cur) :=
(m_spec_l1Below c (list.length : Int)).bind (fun r1 =>
(idx list r1.1).bind (fun x2 =>
 some (x2, r1.2)
)
)

def m_spec_l9Vector_L1 (n : Int) (s1 : (Int × Int × Int × (List Int) × (List Int))) : Option ((Int × Int × Int × (List Int) × (List Int)) ⊕ (Int × Int × (List Int) × (List Int))) :=
(bif (decide (s1.1 < n)) then
(m_spec_l1Below (Tl1Cur.mk s1.2.2.2.1 s1.2.1 s1.2.2.1) 13).bind (fun r10 =>
(lim (s1.2.2.2.2.length + ([(w64 (r10.1 - 6))] : List Int).length)).bind (fun u11 =>
 some (.inl ((w64 (s1.1 + 1)), r10.2.i, r10.2.h, r10.2.b, (s1.2.2.2.2 ++ ([(w64 (r10.1 - 6))] : List Int))))
)
)
 else
 some (.inr (s1.2.1, s1.2.2.1, s1.2.2.2.1, s1.2.2.2.2))
)
def m_spec_l9Vector (c : Tl1Cur) (n : Int) : Option ((List Int) × Tl1Cur) :=
((loopM (m_spec_l9Vector_L1 n) BIG (0, c.i, c.h, c.b, ([] : List Int))).bind (fun b8 =>
 some (b8.2.2.2, (Tl1Cur.mk b8.2.2.1 b8.1 b8.2.1))
))

end Go.Proofs.Ytfiiebikkimjbaa
