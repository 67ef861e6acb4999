/- Parts of a proof that a law of the program holds: what the program computes, and why that is right. -/
import Derived.Test.YtghofbijdnenoaaZESpecialStress1
section
set_option linter.unusedVariables false
set_option linter.unusedSimpArgs false
set_option linter.unnecessarySimpa false
set_option maxRecDepth 100000
set_option maxHeartbeats 8000000
open Go Go.Fw
namespace Go.Proofs.Ytghofbijdnenoaa
structure TBar where
  mk ::
  A : Int
  B : Int
structure TGraph where
  mk ::
  Points : Int
  Bars : (List TBar)
structure TPlace where
  mk ::
  X : Int
  Y : Int
structure TFramework where
  mk ::
  Graph : TGraph
  Places : (List TPlace)
structure TPebbles where
  mk ::
  Free : (List Int)
  Tails : (List Int)
  Placed : (List Int)
structure TTensegrity where
  mk ::
  Framework : TFramework
  Kinds : (List Int)
def encTBar (a : TBar) : List PV := [.sc (.int .i64 a.A), .sc (.int .i64 a.B)]
theorem perm_encTBar (a : TBar) : PermPL (encTBar a) := ⟨.sc, .sc, trivial⟩
def encTPlace (a : TPlace) : List PV := [.sc (.int .i64 a.X), .sc (.int .i64 a.Y)]
theorem perm_encTPlace (a : TPlace) : PermPL (encTPlace a) := ⟨.sc, .sc, trivial⟩
def encInt (a : Int) : List PV := [.sc (.int .i64 a)]
theorem perm_encInt (a : Int) : PermPL (encInt a) := ⟨.sc, trivial⟩
theorem qw_encInt (a : Int) : QWL (encInt a) (encInt a) := ⟨.sc, trivial⟩
def encLInt (q : Bool) (a : (List Int)) : List PV := [.xs q (a.map encInt)]
theorem perm_encLInt (a : (List Int)) : PermPL (encLInt true a) := ⟨permP_xs perm_encInt _, trivial⟩
def encBool (a : Bool) : List PV := [.sc (.bool a)]
def m_spec_l2After (a : TBar) (b : TBar) : Option Bool :=
(((
(bif (decide (a.A < b.A)) then
 some true
 else
(bif (a.A == b.A) then
 some (decide (a.B ≤ b.B))
 else
 some false
)
)
) : Option Bool).bind (fun j3 =>
 some j3
))
def m_spec_l1In (x : Int) (low : Int) (high : Int) : Option Bool :=
(((
(bif (decide (low ≤ x)) then
 some (decide (x ≤ high))
 else
 some false
)
) : Option Bool).bind (fun j2 =>
 some j2
))
def m_spec_IsGraph_L1 (g : TGraph) (s7 : Int) : Option (Int ⊕ (Unit ⊕ Bool)) :=
(bif (decide (s7 < (g.Bars.length : Int))) then
(idx g.Bars s7).bind (fun x42 =>
(((
(bif (decide (x42.A < 0)) then
 some true
 else
(bif (decide (x42.B ≤ x42.A)) then
 some true
 else
(bif (decide (g.Points ≤ x42.B)) then
 some true
 else
(bif (decide (0 < s7)) then
(idx g.Bars (w64 (s7 - 1))).bind (fun x54 =>
(m_spec_l2After x54 x42).bind (fun r55 =>
 some (!r55)
)
)
 else
 some false
)
)
)
)
) : Option Bool).bind (fun j49 =>
(bif j49 then
 some (.inr (.inr false))
 else
 some (.inl (w64 (s7 + 1)))
)
))
)
 else
 some (.inr (.inl ()))
)
def m_spec_IsGraph (g : TGraph) : Option Bool :=
(((
(m_spec_l1In g.Points 1 8).bind (fun r4 =>
(bif (!r4) then
 some true
 else
 some (decide (24 < (g.Bars.length : Int)))
)
)
) : Option Bool).bind (fun j3 =>
(bif j3 then
 some false
 else
((loopM (m_spec_IsGraph_L1 g) BIG 0).bind (Sum.elim (fun b40 => (
 some true
)) (fun r => some r)))
)
))
def m_impl_within (x : Int) (loV : Int) (hi : Int) : Option Bool :=
(((
(bif (decide (loV ≤ x)) then
 some (decide (x ≤ hi))
 else
 some false
)
) : Option Bool).bind (fun j2 =>
 some j2
))
def m_impl_compareInts (a : Int) (b : Int) : Option Int :=
(bif (decide (a < b)) then
 some (-1)
 else
(bif (decide (b < a)) then
 some 1
 else
 some 0
)
)
def m_impl_compareBars (x : TBar) (y : TBar) : Option Int :=
(m_impl_compareInts x.A y.A).bind (fun r1 =>
(bif (r1 != 0) then
 some r1
 else
(m_impl_compareInts x.B y.B).bind (fun r3 =>
 some r3
)
)
)
def m_impl_IsGraph_L1 (g : TGraph) (s7 : Int) : Option (Int ⊕ (Unit ⊕ Bool)) :=
(bif (decide (s7 < (g.Bars.length : Int))) then
(idx g.Bars s7).bind (fun x42 =>
(((
(bif (decide (x42.A < 0)) then
 some true
 else
(bif (decide (x42.B ≤ x42.A)) then
 some true
 else
(bif (decide (g.Points ≤ x42.B)) then
 some true
 else
(bif (decide (0 < s7)) then
(idx g.Bars (w64 (s7 - 1))).bind (fun x54 =>
(m_impl_compareBars x54 x42).bind (fun r55 =>
 some (decide (0 < r55))
)
)
 else
 some false
)
)
)
)
) : Option Bool).bind (fun j49 =>
(bif j49 then
 some (.inr (.inr false))
 else
 some (.inl (w64 (s7 + 1)))
)
))
)
 else
 some (.inr (.inl ()))
)
def m_impl_IsGraph (g : TGraph) : Option Bool :=
(((
(m_impl_within g.Points 1 8).bind (fun r4 =>
(bif (!r4) then
 some true
 else
 some (decide (24 < (g.Bars.length : Int)))
)
)
) : Option Bool).bind (fun j3 =>
(bif j3 then
 some false
 else
((loopM (m_impl_IsGraph_L1 g) BIG 0).bind (Sum.elim (fun b40 => (
 some true
)) (fun r => some r)))
)
))
def m_impl_isPlace (p : TPlace) : Option Bool :=
(((
(m_impl_within p.X 0 4).bind (fun r5 =>
(bif r5 then
(m_impl_within p.Y 0 4).bind (fun r7 =>
 some r7
)
 else
 some false
)
)
) : Option Bool).bind (fun j4 =>
 some j4
))
def m_impl_IsFramework_L1 (f : TFramework) (s11 : Int) : Option (Int ⊕ (Unit ⊕ Bool)) :=
(bif (decide (s11 < (f.Places.length : Int))) then
(idx f.Places s11).bind (fun x22 =>
(m_impl_isPlace x22).bind (fun r23 =>
(bif (!r23) then
 some (.inr (.inr false))
 else
 some (.inl (w64 (s11 + 1)))
)
)
)
 else
 some (.inr (.inl ()))
)
def m_impl_IsFramework_L2 (f : TFramework) (s25 : Int) : Option (Int ⊕ (Unit ⊕ Bool)) :=
(bif (decide (s25 < (f.Graph.Bars.length : Int))) then
(idx f.Graph.Bars s25).bind (fun x64 =>
(((
(bif (decide (0 < s25)) then
(idx f.Graph.Bars (w64 (s25 - 1))).bind (fun x74 =>
(bif (eqI [x74.A, x74.B] [x64.A, x64.B]) then
 some true
 else
(idx f.Places x64.A).bind (fun x76 =>
(idx f.Places x64.B).bind (fun x77 =>
 some (eqI [x76.X, x76.Y] [x77.X, x77.Y])
)
)
)
)
 else
(idx f.Places x64.A).bind (fun x78 =>
(idx f.Places x64.B).bind (fun x79 =>
 some (eqI [x78.X, x78.Y] [x79.X, x79.Y])
)
)
)
) : Option Bool).bind (fun j72 =>
(bif j72 then
 some (.inr (.inr false))
 else
 some (.inl (w64 (s25 + 1)))
)
))
)
 else
 some (.inr (.inl ()))
)
def m_impl_IsFramework (f : TFramework) : Option Bool :=
(((
(m_impl_IsGraph f.Graph).bind (fun r6 =>
(bif (!r6) then
 some true
 else
(bif (decide (6 < f.Graph.Points)) then
 some true
 else
(bif (decide (15 < (f.Graph.Bars.length : Int))) then
 some true
 else
 some ((f.Places.length : Int) != f.Graph.Points)
)
)
)
)
) : Option Bool).bind (fun j5 =>
(bif j5 then
 some false
 else
((loopM (m_impl_IsFramework_L1 f) BIG 0).bind (Sum.elim (fun b20 => (
((loopM (m_impl_IsFramework_L2 f) BIG 0).bind (Sum.elim (fun b62 => (
 some true
)) (fun r => some r)))
)) (fun r => some r)))
)
))
def m_impl_RigidityMatrix_L1 (f : TFramework) (s3 : (Int × (List (List Int)))) : Option ((Int × (List (List Int))) ⊕ (List (List Int))) :=
(bif (decide (s3.1 < (f.Graph.Bars.length : Int))) then
(idx f.Graph.Bars s3.1).bind (fun x26 =>
(lenOk (w64 (2 * f.Graph.Points))).bind (fun u27 =>
(idx f.Places x26.A).bind (fun x28 =>
(idx f.Places x26.B).bind (fun x29 =>
(idx (List.replicate (w64 (2 * f.Graph.Points)).toNat (0 : Int)) (w64 (2 * x26.A))).bind (fun x30 =>
(idx ((List.replicate (w64 (2 * f.Graph.Points)).toNat (0 : Int)).set (w64 (2 * x26.A)).toNat (w64 (x28.X - x29.X))) (w64 ((w64 (2 * x26.A)) + 1))).bind (fun x31 =>
(idx (((List.replicate (w64 (2 * f.Graph.Points)).toNat (0 : Int)).set (w64 (2 * x26.A)).toNat (w64 (x28.X - x29.X))).set (w64 ((w64 (2 * x26.A)) + 1)).toNat (w64 (x28.Y - x29.Y))) (w64 (2 * x26.B))).bind (fun x32 =>
(idx ((((List.replicate (w64 (2 * f.Graph.Points)).toNat (0 : Int)).set (w64 (2 * x26.A)).toNat (w64 (x28.X - x29.X))).set (w64 ((w64 (2 * x26.A)) + 1)).toNat (w64 (x28.Y - x29.Y))).set (w64 (2 * x26.B)).toNat (w64 (x29.X - x28.X))) (w64 ((w64 (2 * x26.B)) + 1))).bind (fun x33 =>
(lim (s3.2.length + 1)).bind (fun u34 =>
 some (.inl ((w64 (s3.1 + 1)), (s3.2 ++ [(((((List.replicate (w64 (2 * f.Graph.Points)).toNat (0 : Int)).set (w64 (2 * x26.A)).toNat (w64 (x28.X - x29.X))).set (w64 ((w64 (2 * x26.A)) + 1)).toNat (w64 (x28.Y - x29.Y))).set (w64 (2 * x26.B)).toNat (w64 (x29.X - x28.X))).set (w64 ((w64 (2 * x26.B)) + 1)).toNat (w64 (x29.Y - x28.Y)))])))
)
)
)
)
)
)
)
)
)
 else
 some (.inr s3.2)
)
def m_impl_RigidityMatrix (f : TFramework) : Option (List (List Int)) :=
(m_impl_IsFramework f).bind (fun r1 =>
(bif (!r1) then
 some ([] : List (List Int))
 else
((loopM (m_impl_RigidityMatrix_L1 f) BIG (0, ([] : List (List Int)))).bind (fun b24 =>
 some b24
))
)
)
def m_impl_transposed_L4 (m : (List (List Int))) (s2 : (Int × (List (List Int)))) (s38 : (Int × (List (List Int)))) : Option ((Int × (List (List Int))) ⊕ (Int × (List (List Int)))) :=
(bif (decide (s38.1 < (m.length : Int))) then
(idx m s38.1).bind (fun x53 =>
(idx s38.2 s2.1).bind (fun x54 =>
(idx x53 s2.1).bind (fun x55 =>
(lim (x54.length + ([x55] : List Int).length)).bind (fun u56 =>
(idx (s38.2.set s2.1.toNat []) s2.1).bind (fun x57 =>
 some (.inl ((w64 (s38.1 + 1)), ((s38.2.set s2.1.toNat []).set s2.1.toNat (x54 ++ ([x55] : List Int)))))
)
)
)
)
)
 else
 some (.inr (s2.1, s38.2))
)
def m_impl_transposed_L3 (m : (List (List Int))) (columns : Int) (s2 : (Int × (List (List Int)))) : Option ((Int × (List (List Int))) ⊕ (List (List Int))) :=
(bif (decide (s2.1 < (columns.toNat : Int))) then
(idx s2.2 s2.1).bind (fun x37 =>
((loopM (m_impl_transposed_L4 m s2) BIG (0, (s2.2.set s2.1.toNat ([] : List Int)))).bind (fun b51 =>
 some (.inl ((w64 (b51.1 + 1)), b51.2))
))
)
 else
 some (.inr s2.2)
)
def m_impl_transposed (m : (List (List Int))) (columns : Int) : Option (List (List Int)) :=
(lenOk columns).bind (fun u1 =>
((loopM (m_impl_transposed_L3 m columns) BIG (0, (List.replicate columns.toNat ([] : List Int)))).bind (fun b35 =>
 some b35
))
)
def m_impl_copyInts (l : (List Int)) : Option (List Int) :=
(lim (([] : List Int).length + l.length)).bind (fun u1 =>
 some (([] : List Int) ++ l)
)
def m_impl_copyLists_L1 (l : (List (List Int))) (s1 : (Int × (List (List Int)))) : Option ((Int × (List (List Int))) ⊕ (List (List Int))) :=
(bif (decide (s1.1 < (l.length : Int))) then
(idx l s1.1).bind (fun x12 =>
(m_impl_copyInts x12).bind (fun r13 =>
(lim (s1.2.length + 1)).bind (fun u14 =>
 some (.inl ((w64 (s1.1 + 1)), (s1.2 ++ [r13])))
)
)
)
 else
 some (.inr s1.2)
)
def m_impl_copyLists (l : (List (List Int))) : Option (List (List Int)) :=
((loopM (m_impl_copyLists_L1 l) BIG (0, ([] : List (List Int)))).bind (fun b10 =>
 some b10
))
def m_impl_reduced_L10 (s2 : (Int × (List (List Int)) × Int × (List Int))) (s156 : Int) : Option (Int ⊕ (Int × Int × Int × Int × (List (List Int)) × (List Int))) :=
(((
(bif (decide (s156 < (s2.2.1.length : Int))) then
(idx s2.2.1 s156).bind (fun x179 =>
(idx x179 s2.1).bind (fun x180 =>
 some (x180 == 0)
)
)
 else
 some false
)
) : Option Bool).bind (fun j177 =>
(bif j177 then
 some (.inl (w64 (s156 + 1)))
 else
 some (.inr (s2.2.2.1, s2.1, (s2.2.2.2.length : Int), s156, s2.2.1, s2.2.2.2))
)
))
def m_impl_reduced_L14 (columns : Int) (s189 : (Int × Int × Int × Int × Int × Int × (List Int) × (List (List Int)))) (x238 : Int) (s239 : (Int × (List (List Int)))) : Option ((Int × (List (List Int))) ⊕ (Int × Int × Int × Int × Int × Int × (List (List Int)) × (List Int))) :=
(bif (decide (s239.1 < columns)) then
(idx s239.2 s189.1).bind (fun x258 =>
(idx s239.2 s189.1).bind (fun x259 =>
(idx x259 s239.1).bind (fun x260 =>
(idx s239.2 s189.2.2.2.1).bind (fun x261 =>
(idx x261 s239.1).bind (fun x262 =>
(nz s189.2.1).bind (fun u263 =>
(idx x258 s239.1).bind (fun x264 =>
 some (.inl ((w64 (s239.1 + 1)), (s239.2.set s189.1.toNat (x258.set s239.1.toNat (w64 (Int.tdiv (w64 ((w64 (s189.2.2.2.2.1 * x260)) - (w64 (x238 * x262)))) s189.2.1))))))
)
)
)
)
)
)
)
 else
 some (.inr (s189.2.1, s189.2.2.1, s189.2.2.2.1, s189.2.2.2.2.1, s189.2.2.2.2.2.1, s189.1, s239.2, s189.2.2.2.2.2.2.1))
)
def m_impl_reduced_L13 (columns : Int) (s189 : (Int × Int × Int × Int × Int × Int × (List Int) × (List (List Int)))) : Option ((Int × Int × Int × Int × Int × Int × (List Int) × (List (List Int))) ⊕ (Int × Int × (List (List Int)) × (List Int))) :=
(bif (decide (s189.1 < s189.2.2.2.2.2.1)) then
(bif (s189.1 == s189.2.2.2.1) then
 some (.inl ((w64 (s189.1 + 1)), s189.2.1, s189.2.2.1, s189.2.2.2.1, s189.2.2.2.2.1, s189.2.2.2.2.2.1, s189.2.2.2.2.2.2.1, s189.2.2.2.2.2.2.2))
 else
(idx s189.2.2.2.2.2.2.2 s189.1).bind (fun x237 =>
(idx x237 s189.2.2.1).bind (fun x238 =>
((loopM (m_impl_reduced_L14 columns s189 x238) BIG (0, s189.2.2.2.2.2.2.2)).bind (fun b256 =>
 some (.inl ((w64 (b256.2.2.2.2.2.1 + 1)), b256.1, b256.2.1, b256.2.2.1, b256.2.2.2.1, b256.2.2.2.2.1, b256.2.2.2.2.2.2.2, b256.2.2.2.2.2.2.1))
))
)
)
)
 else
 some (.inr (s189.2.2.1, s189.2.2.2.2.1, s189.2.2.2.2.2.2.2, s189.2.2.2.2.2.2.1))
)
def m_impl_reduced_L9 (columns : Int) (s2 : (Int × (List (List Int)) × Int × (List Int))) : Option ((Int × (List (List Int)) × Int × (List Int)) ⊕ (Int × (List (List Int)) × (List Int))) :=
(((
(bif (decide (s2.1 < columns)) then
 some (decide ((s2.2.2.2.length : Int) < (s2.2.1.length : Int)))
 else
 some false
)
) : Option Bool).bind (fun j153 =>
(bif j153 then
((loopM (m_impl_reduced_L10 s2) BIG (s2.2.2.2.length : Int)).bind (fun b173 =>
(bif (b173.2.2.2.1 == (b173.2.2.2.2.1.length : Int)) then
 some (.inl ((w64 (b173.2.1 + 1)), b173.2.2.2.2.1, b173.1, b173.2.2.2.2.2))
 else
(idx b173.2.2.2.2.1 b173.2.2.2.1).bind (fun x183 =>
(idx b173.2.2.2.2.1 b173.2.2.1).bind (fun x184 =>
(idx b173.2.2.2.2.1 b173.2.2.1).bind (fun x185 =>
(idx b173.2.2.2.2.1 b173.2.2.2.1).bind (fun x186 =>
(idx ((b173.2.2.2.2.1.set b173.2.2.1.toNat x183).set b173.2.2.2.1.toNat x184) b173.2.2.1).bind (fun x187 =>
(idx x187 b173.2.1).bind (fun x188 =>
((loopM (m_impl_reduced_L13 columns) BIG (0, b173.1, b173.2.1, b173.2.2.1, x188, (b173.2.2.2.2.1.length : Int), b173.2.2.2.2.2, ((b173.2.2.2.2.1.set b173.2.2.1.toNat x183).set b173.2.2.2.1.toNat x184))).bind (fun b234 =>
(lim (b234.2.2.2.length + ([b234.1] : List Int).length)).bind (fun u265 =>
 some (.inl ((w64 (b234.1 + 1)), b234.2.2.1, b234.2.1, (b234.2.2.2 ++ ([b234.1] : List Int))))
)
))
)
)
)
)
)
)
)
))
 else
 some (.inr (s2.2.2.1, s2.2.1, s2.2.2.2))
)
))
def m_impl_reduced (m : (List (List Int))) (columns : Int) : Option ((List (List Int)) × (List Int) × Int) :=
(m_impl_copyLists m).bind (fun r1 =>
((loopM (m_impl_reduced_L9 columns) BIG (0, r1, 1, ([] : List Int))).bind (fun b151 =>
 some (b151.2.1, b151.2.2, b151.1)
))
)
def m_impl_isGreat (x : Int) : Option Bool :=
(((
(bif (decide (9000000000000000000 < x)) then
 some true
 else
 some (decide (x < (-9000000000000000000)))
)
) : Option Bool).bind (fun j2 =>
 some j2
))
def m_impl_GcdOf_L1  (s9 : (Int × Int)) : Option ((Int × Int) ⊕ Int) :=
(bif (s9.2 != 0) then
(nz s9.2).bind (fun u16 =>
 some (.inl (s9.2, (Int.tmod s9.1 s9.2)))
)
 else
 some (.inr s9.1)
)
def m_impl_GcdOf (a : Int) (b : Int) : Option Int :=
(((
(m_impl_isGreat a).bind (fun r5 =>
(bif r5 then
 some true
 else
(m_impl_isGreat b).bind (fun r7 =>
 some r7
)
)
)
) : Option Bool).bind (fun j4 =>
(bif j4 then
 some 0
 else
((loopM (m_impl_GcdOf_L1) BIG ((if a < (w64 (-a)) then (w64 (-a)) else a), (if b < (w64 (-b)) then (w64 (-b)) else b))).bind (fun b14 =>
 some b14
))
)
))
def m_impl_PrimitiveVector_L1 (v : (List Int)) (r1 : (List Int)) (s2 : (Int × Int × Int)) : Option ((Int × Int × Int) ⊕ ((Int × Int × (List Int)) ⊕ (List Int))) :=
(bif (decide (s2.2.2 < (v.length : Int))) then
(idx v s2.2.2).bind (fun x21 =>
(m_impl_isGreat x21).bind (fun r22 =>
(bif r22 then
 some (.inr (.inr r1))
 else
(m_impl_GcdOf s2.1 x21).bind (fun r24 =>
(((
(bif (s2.2.1 == 0) then
 some x21
 else
 some s2.2.1
)
) : Option Int).bind (fun j26 =>
 some (.inl (r24, j26, (w64 (s2.2.2 + 1))))
))
)
)
)
)
 else
 some (.inr (.inl (s2.1, s2.2.1, r1)))
)
def m_impl_PrimitiveVector_L2 (b19 : (Int × Int × (List Int))) (j30 : Int) (s32 : (Int × (List Int))) : Option ((Int × (List Int)) ⊕ (List Int)) :=
(bif (decide (s32.1 < (b19.2.2.length : Int))) then
(idx s32.2 s32.1).bind (fun x43 =>
(nz j30).bind (fun u44 =>
(idx s32.2 s32.1).bind (fun x45 =>
 some (.inl ((w64 (s32.1 + 1)), (s32.2.set s32.1.toNat (w64 (Int.tdiv x43 j30)))))
)
)
)
 else
 some (.inr s32.2)
)
def m_impl_PrimitiveVector (v : (List Int)) : Option (List Int) :=
(m_impl_copyInts v).bind (fun r1 =>
((loopM (m_impl_PrimitiveVector_L1 v r1) BIG (0, 0, 0)).bind (Sum.elim (fun b19 => (
(bif (b19.1 == 0) then
 some b19.2.2
 else
(((
(bif (decide (b19.2.1 < 0)) then
 some (w64 (-b19.1))
 else
 some b19.1
)
) : Option Int).bind (fun j30 =>
((loopM (m_impl_PrimitiveVector_L2 b19 j30) BIG (0, b19.2.2)).bind (fun b41 =>
 some b41
))
))
)
)) (fun r => some r)))
)
def m_impl_nullspace_L1 (columns : Int) (r1 : ((List (List Int)) × (List Int) × Int)) (s3 : (Int × (List Int))) : Option ((Int × (List Int)) ⊕ (Int × (List (List Int)) × (List Int) × (List Int))) :=
(bif (decide (s3.1 < ((List.replicate columns.toNat (0 : Int)).length : Int))) then
(idx s3.2 s3.1).bind (fun x10 =>
 some (.inl ((w64 (s3.1 + 1)), (s3.2.set s3.1.toNat (-1))))
)
 else
 some (.inr (r1.2.2, r1.1, r1.2.1, s3.2))
)
def m_impl_nullspace_L2 (b8 : (Int × (List (List Int)) × (List Int) × (List Int))) (s11 : (Int × (List Int))) : Option ((Int × (List Int)) ⊕ (Int × (List (List Int)) × (List Int))) :=
(bif (decide (s11.1 < (b8.2.2.1.length : Int))) then
(idx b8.2.2.1 s11.1).bind (fun x20 =>
(idx s11.2 x20).bind (fun x21 =>
 some (.inl ((w64 (s11.1 + 1)), (s11.2.set x20.toNat s11.1)))
)
)
 else
 some (.inr (b8.1, b8.2.1, s11.2))
)
def m_impl_nullspace_L6 (columns : Int) (s22 : (Int × Int × (List Int) × (List (List Int)) × (List (List Int)))) (s99 : (Int × (List Int))) : Option ((Int × (List Int)) ⊕ (Int × Int × (List (List Int)) × (List Int) × (List (List Int)) × (List Int))) :=
(bif (decide (s99.1 < columns)) then
(idx s22.2.2.1 s99.1).bind (fun x128 =>
(((
(bif (decide (0 ≤ x128)) then
(idx s22.2.2.1 s99.1).bind (fun x136 =>
(idx s22.2.2.2.1 x136).bind (fun x137 =>
(idx x137 s22.1).bind (fun x138 =>
(idx s99.2 s99.1).bind (fun x139 =>
 some (s99.2.set s99.1.toNat (w64 (-x138)))
)
)
)
)
 else
 some s99.2
)
) : Option (List Int)).bind (fun j134 =>
 some (.inl ((w64 (s99.1 + 1)), j134))
))
)
 else
 some (.inr (s22.2.1, s22.1, s22.2.2.2.1, s22.2.2.1, s22.2.2.2.2, s99.2))
)
def m_impl_nullspace_L5 (columns : Int) (s22 : (Int × Int × (List Int) × (List (List Int)) × (List (List Int)))) : Option ((Int × Int × (List Int) × (List (List Int)) × (List (List Int))) ⊕ (List (List Int))) :=
(bif (decide (s22.1 < columns)) then
(idx s22.2.2.1 s22.1).bind (fun x95 =>
(bif (decide (0 ≤ x95)) then
 some (.inl ((w64 (s22.1 + 1)), s22.2.1, s22.2.2.1, s22.2.2.2.1, s22.2.2.2.2))
 else
(lenOk columns).bind (fun u97 =>
(idx (List.replicate columns.toNat (0 : Int)) s22.1).bind (fun x98 =>
((loopM (m_impl_nullspace_L6 columns s22) BIG (0, ((List.replicate columns.toNat (0 : Int)).set s22.1.toNat s22.2.1))).bind (fun b126 =>
(m_impl_PrimitiveVector b126.2.2.2.2.2).bind (fun r140 =>
(lim (b126.2.2.2.2.1.length + 1)).bind (fun u141 =>
 some (.inl ((w64 (b126.2.1 + 1)), b126.1, b126.2.2.2.1, b126.2.2.1, (b126.2.2.2.2.1 ++ [r140])))
)
)
))
)
)
)
)
 else
 some (.inr s22.2.2.2.2)
)
def m_impl_nullspace (m : (List (List Int))) (columns : Int) : Option (List (List Int)) :=
(m_impl_reduced m columns).bind (fun r1 =>
(lenOk columns).bind (fun u2 =>
((loopM (m_impl_nullspace_L1 columns r1) BIG (0, (List.replicate columns.toNat (0 : Int)))).bind (fun b8 =>
((loopM (m_impl_nullspace_L2 b8) BIG (0, b8.2.2.2)).bind (fun b18 =>
((loopM (m_impl_nullspace_L5 columns) BIG (0, b18.1, b18.2.2, b18.2.1, ([] : List (List Int)))).bind (fun b93 =>
 some b93
))
))
))
)
)
def m_impl_StressesOf (f : TFramework) : Option (List (List Int)) :=
(((
(m_impl_IsFramework f).bind (fun r4 =>
(bif (!r4) then
 some true
 else
 some ((f.Graph.Bars.length : Int) == 0)
)
)
) : Option Bool).bind (fun j3 =>
(bif j3 then
 some ([] : List (List Int))
 else
(m_impl_RigidityMatrix f).bind (fun r7 =>
(m_impl_transposed r7 (w64 (2 * f.Graph.Points))).bind (fun r8 =>
(m_impl_nullspace r8 (f.Graph.Bars.length : Int)).bind (fun r9 =>
 some r9
)
)
)
)
))
def m_spec_IsFramework_L1 (f : TFramework) (s11 : Int) : Option (Int ⊕ (Unit ⊕ Bool)) :=
(bif (decide (s11 < (f.Places.length : Int))) then
(((
(idx f.Places s11).bind (fun x46 =>
(m_spec_l1In x46.X 0 4).bind (fun r47 =>
(bif (!r47) then
 some true
 else
(idx f.Places s11).bind (fun x49 =>
(m_spec_l1In x49.Y 0 4).bind (fun r50 =>
 some (!r50)
)
)
)
)
)
) : Option Bool).bind (fun j45 =>
(bif j45 then
 some (.inr (.inr false))
 else
 some (.inl (w64 (s11 + 1)))
)
))
 else
 some (.inr (.inl ()))
)
def m_spec_IsFramework_L2 (f : TFramework) (s52 : Int) : Option (Int ⊕ (Unit ⊕ Bool)) :=
(bif (decide (s52 < (f.Graph.Bars.length : Int))) then
(idx f.Graph.Bars s52).bind (fun x83 =>
(((
(idx f.Places x83.A).bind (fun x90 =>
(idx f.Places x83.B).bind (fun x91 =>
(bif (eqI [x90.X, x90.Y] [x91.X, x91.Y]) then
 some true
 else
(bif (decide (0 < s52)) then
(idx f.Graph.Bars (w64 (s52 - 1))).bind (fun x94 =>
 some (eqI [x94.A, x94.B] [x83.A, x83.B])
)
 else
 some false
)
)
)
)
) : Option Bool).bind (fun j89 =>
(bif j89 then
 some (.inr (.inr false))
 else
 some (.inl (w64 (s52 + 1)))
)
))
)
 else
 some (.inr (.inl ()))
)
def m_spec_IsFramework (f : TFramework) : Option Bool :=
(((
(m_spec_IsGraph f.Graph).bind (fun r6 =>
(bif (!r6) then
 some true
 else
(bif (decide (6 < f.Graph.Points)) then
 some true
 else
(bif ((f.Places.length : Int) != f.Graph.Points) then
 some true
 else
 some (decide (15 < (f.Graph.Bars.length : Int)))
)
)
)
)
) : Option Bool).bind (fun j5 =>
(bif j5 then
 some false
 else
((loopM (m_spec_IsFramework_L1 f) BIG 0).bind (Sum.elim (fun b38 => (
((loopM (m_spec_IsFramework_L2 f) BIG 0).bind (Sum.elim (fun b81 => (
 some true
)) (fun r => some r)))
)) (fun r => some r)))
)
))
def m_spec_RigidityMatrix_L1 (f : TFramework) (s1 : (Int × (List (List Int)))) : Option ((Int × (List (List Int))) ⊕ (List (List Int))) :=
(((
(bif (decide (s1.1 < (f.Graph.Bars.length : Int))) then
(m_spec_IsFramework f).bind (fun r41 =>
 some r41
)
 else
 some false
)
) : Option Bool).bind (fun j39 =>
(bif j39 then
(idx f.Graph.Bars s1.1).bind (fun x43 =>
(lenOk (w64 (2 * f.Graph.Points))).bind (fun u44 =>
(idx f.Places x43.A).bind (fun x45 =>
(idx f.Places x43.B).bind (fun x46 =>
(idx f.Places x43.A).bind (fun x47 =>
(idx f.Places x43.B).bind (fun x48 =>
(idx (List.replicate (w64 (2 * f.Graph.Points)).toNat (0 : Int)) (w64 (2 * x43.A))).bind (fun x49 =>
(idx ((List.replicate (w64 (2 * f.Graph.Points)).toNat (0 : Int)).set (w64 (2 * x43.A)).toNat (w64 (x45.X - x46.X))) (w64 ((w64 (2 * x43.A)) + 1))).bind (fun x50 =>
(idx (((List.replicate (w64 (2 * f.Graph.Points)).toNat (0 : Int)).set (w64 (2 * x43.A)).toNat (w64 (x45.X - x46.X))).set (w64 ((w64 (2 * x43.A)) + 1)).toNat (w64 (x47.Y - x48.Y))) (w64 (2 * x43.B))).bind (fun x51 =>
(idx ((((List.replicate (w64 (2 * f.Graph.Points)).toNat (0 : Int)).set (w64 (2 * x43.A)).toNat (w64 (x45.X - x46.X))).set (w64 ((w64 (2 * x43.A)) + 1)).toNat (w64 (x47.Y - x48.Y))).set (w64 (2 * x43.B)).toNat (w64 (-(w64 (x45.X - x46.X))))) (w64 ((w64 (2 * x43.B)) + 1))).bind (fun x52 =>
(lim (s1.2.length + [(((((List.replicate (w64 (2 * f.Graph.Points)).toNat (0 : Int)).set (w64 (2 * x43.A)).toNat (w64 (x45.X - x46.X))).set (w64 ((w64 (2 * x43.A)) + 1)).toNat (w64 (x47.Y - x48.Y))).set (w64 (2 * x43.B)).toNat (w64 (-(w64 (x45.X - x46.X))))).set (w64 ((w64 (2 * x43.B)) + 1)).toNat (w64 (-(w64 (x47.Y - x48.Y)))))].length)).bind (fun u53 =>
 some (.inl ((w64 (s1.1 + 1)), (s1.2 ++ [(((((List.replicate (w64 (2 * f.Graph.Points)).toNat (0 : Int)).set (w64 (2 * x43.A)).toNat (w64 (x45.X - x46.X))).set (w64 ((w64 (2 * x43.A)) + 1)).toNat (w64 (x47.Y - x48.Y))).set (w64 (2 * x43.B)).toNat (w64 (-(w64 (x45.X - x46.X))))).set (w64 ((w64 (2 * x43.B)) + 1)).toNat (w64 (-(w64 (x47.Y - x48.Y)))))])))
)
)
)
)
)
)
)
)
)
)
)
 else
 some (.inr s1.2)
)
))
def m_spec_RigidityMatrix (f : TFramework) : Option (List (List Int)) :=
((loopM (m_spec_RigidityMatrix_L1 f) BIG (0, ([] : List (List Int)))).bind (fun b36 =>
 some b36
))
def m_spec_l13Turned_L4 (s2 : (Int × (List (List Int)) × (List (List Int)))) (s38 : (Int × (List Int))) : Option ((Int × (List Int)) ⊕ (Int × (List (List Int)) × (List (List Int)) × (List Int))) :=
(bif (decide (s38.1 < (s2.2.1.length : Int))) then
(idx s2.2.1 s38.1).bind (fun x49 =>
(idx x49 s2.1).bind (fun x50 =>
(lim (s38.2.length + ([x50] : List Int).length)).bind (fun u51 =>
 some (.inl ((w64 (s38.1 + 1)), (s38.2 ++ ([x50] : List Int))))
)
)
)
 else
 some (.inr (s2.1, s2.2.1, s2.2.2, s38.2))
)
def m_spec_l13Turned_L3 (f : TFramework) (s2 : (Int × (List (List Int)) × (List (List Int)))) : Option ((Int × (List (List Int)) × (List (List Int))) ⊕ (List (List Int))) :=
(((
(bif (decide (s2.1 < (w64 (2 * f.Graph.Points)))) then
 some (decide (0 < (s2.2.1.length : Int)))
 else
 some false
)
) : Option Bool).bind (fun j35 =>
(bif j35 then
((loopM (m_spec_l13Turned_L4 s2) BIG (0, ([] : List Int))).bind (fun b47 =>
(lim (b47.2.2.1.length + 1)).bind (fun u52 =>
 some (.inl ((w64 (b47.1 + 1)), b47.2.1, (b47.2.2.1 ++ [b47.2.2.2])))
)
))
 else
 some (.inr s2.2.2)
)
))
def m_spec_l13Turned (f : TFramework) : Option (List (List Int)) :=
(m_spec_RigidityMatrix f).bind (fun r1 =>
((loopM (m_spec_l13Turned_L3 f) BIG (0, r1, ([] : List (List Int)))).bind (fun b33 =>
 some b33
))
)
def m_spec_GcdOf_L1  (s9 : (Int × Int)) : Option ((Int × Int) ⊕ Int) :=
(bif (decide (0 < s9.2)) then
(nz s9.2).bind (fun u16 =>
 some (.inl (s9.2, (Int.tmod s9.1 s9.2)))
)
 else
 some (.inr s9.1)
)
def m_spec_GcdOf (a : Int) (b : Int) : Option Int :=
(((
(m_spec_l1In a (-9000000000000000000) 9000000000000000000).bind (fun r5 =>
(bif (!r5) then
 some true
 else
(m_spec_l1In b (-9000000000000000000) 9000000000000000000).bind (fun r7 =>
 some (!r7)
)
)
)
) : Option Bool).bind (fun j4 =>
(bif j4 then
 some 0
 else
((loopM (m_spec_GcdOf_L1) BIG ((if a < (w64 (-a)) then (w64 (-a)) else a), (if b < (w64 (-b)) then (w64 (-b)) else b))).bind (fun b14 =>
 some b14
))
)
))
def m_spec_PrimitiveVector_L1 (v : (List Int)) (s1 : (Int × Int)) : Option ((Int × Int) ⊕ (Int ⊕ (List Int))) :=
(bif (decide (s1.2 < (v.length : Int))) then
(idx v s1.2).bind (fun x18 =>
(m_spec_l1In x18 (-9000000000000000000) 9000000000000000000).bind (fun r19 =>
(bif (!r19) then
(lim (([] : List Int).length + v.length)).bind (fun u21 =>
 some (.inr (.inr (([] : List Int) ++ v)))
)
 else
(idx v s1.2).bind (fun x22 =>
(m_spec_GcdOf s1.1 x22).bind (fun r23 =>
 some (.inl (r23, (w64 (s1.2 + 1))))
)
)
)
)
)
 else
 some (.inr (.inl s1.1))
)
def m_spec_PrimitiveVector_L2 (v : (List Int)) (b16 : Int) (s26 : (Int × Int)) : Option ((Int × Int) ⊕ (Int × Int)) :=
(bif (decide (s26.2 < (v.length : Int))) then
(((
(bif (s26.1 == 0) then
(idx v s26.2).bind (fun x45 =>
 some x45
)
 else
 some s26.1
)
) : Option Int).bind (fun j43 =>
 some (.inl (j43, (w64 (s26.2 + 1))))
))
 else
 some (.inr (b16, s26.1))
)
def m_spec_PrimitiveVector_L3 (v : (List Int)) (j47 : Int) (s49 : (Int × (List Int))) : Option ((Int × (List Int)) ⊕ (List Int)) :=
(bif (decide (s49.1 < (v.length : Int))) then
(idx v s49.1).bind (fun x60 =>
(nz j47).bind (fun u61 =>
(lim (s49.2.length + ([(w64 (Int.tdiv x60 j47))] : List Int).length)).bind (fun u62 =>
 some (.inl ((w64 (s49.1 + 1)), (s49.2 ++ ([(w64 (Int.tdiv x60 j47))] : List Int))))
)
)
)
 else
 some (.inr s49.2)
)
def m_spec_PrimitiveVector (v : (List Int)) : Option (List Int) :=
((loopM (m_spec_PrimitiveVector_L1 v) BIG (0, 0)).bind (Sum.elim (fun b16 => (
(bif (b16 == 0) then
(lim (([] : List Int).length + v.length)).bind (fun u25 =>
 some (([] : List Int) ++ v)
)
 else
((loopM (m_spec_PrimitiveVector_L2 v b16) BIG (0, 0)).bind (fun b39 =>
(((
(bif (decide (b39.2 < 0)) then
 some (w64 (-b39.1))
 else
 some b39.1
)
) : Option Int).bind (fun j47 =>
((loopM (m_spec_PrimitiveVector_L3 v j47) BIG (0, ([] : List Int))).bind (fun b58 =>
 some b58
))
))
))
)
)) (fun r => some r)))
def m_spec_l9Clean (row : (List Int)) : Option (List Int) :=
(m_spec_PrimitiveVector row).bind (fun r1 =>
 some r1
)
def m_spec_l9Without_L1 (a : (List Int)) (row : (List Int)) (r3 : Int) (x4 : Int) (x6 : Int) (s8 : (Int × (List Int))) : Option ((Int × (List Int)) ⊕ (List Int)) :=
(bif (decide (s8.1 < (a.length : Int))) then
(idx a s8.1).bind (fun x19 =>
(idx row s8.1).bind (fun x20 =>
(lim (s8.2.length + ([(w64 ((w64 (x19 * (w64 (Int.tdiv x4 r3)))) - (w64 (x20 * (w64 (Int.tdiv x6 r3))))))] : List Int).length)).bind (fun u21 =>
 some (.inl ((w64 (s8.1 + 1)), (s8.2 ++ ([(w64 ((w64 (x19 * (w64 (Int.tdiv x4 r3)))) - (w64 (x20 * (w64 (Int.tdiv x6 r3))))))] : List Int))))
)
)
)
 else
 some (.inr s8.2)
)
def m_spec_l9Without (a : (List Int)) (row : (List Int)) (j : Int) : Option (List Int) :=
(idx a j).bind (fun x1 =>
(idx row j).bind (fun x2 =>
(m_spec_GcdOf x1 x2).bind (fun r3 =>
(idx row j).bind (fun x4 =>
(nz r3).bind (fun u5 =>
(idx a j).bind (fun x6 =>
(nz r3).bind (fun u7 =>
((loopM (m_spec_l9Without_L1 a row r3 x4 x6) BIG (0, ([] : List Int))).bind (fun b17 =>
(m_spec_l9Clean b17).bind (fun r22 =>
 some r22
)
))
)
)
)
)
)
)
)
def m_spec_l9Reduced_L1 (m : (List (List Int))) (s1 : (Int × (List (List Int)))) : Option ((Int × (List (List Int))) ⊕ (List (List Int))) :=
(bif (decide (s1.1 < (m.length : Int))) then
(idx m s1.1).bind (fun x12 =>
(m_spec_l9Clean x12).bind (fun r13 =>
(lim (s1.2.length + [r13].length)).bind (fun u14 =>
 some (.inl ((w64 (s1.1 + 1)), (s1.2 ++ [r13])))
)
)
)
 else
 some (.inr s1.2)
)
def m_spec_l9Reduced_L7 (s15 : (Int × (List (List Int)) × (List Int))) (s155 : Int) : Option (Int ⊕ (Int × Int × (List (List Int)) × (List Int))) :=
(((
(bif (decide (s155 < (s15.2.1.length : Int))) then
(idx s15.2.1 s155).bind (fun x178 =>
(idx x178 s15.1).bind (fun x179 =>
 some (x179 == 0)
)
)
 else
 some false
)
) : Option Bool).bind (fun j176 =>
(bif j176 then
 some (.inl (w64 (s155 + 1)))
 else
 some (.inr (s15.1, s155, s15.2.1, s15.2.2))
)
))
def m_spec_l9Reduced_L8 (b172 : (Int × Int × (List (List Int)) × (List Int))) (x182 : (List Int)) (s186 : (Int × (List (List Int)))) : Option ((Int × (List (List Int))) ⊕ (Int × (List (List Int)) × (List Int))) :=
(bif (decide (s186.1 < (s186.2.length : Int))) then
(((
(bif (s186.1 != (b172.2.2.2.length : Int)) then
(idx s186.2 s186.1).bind (fun x228 =>
(idx x228 b172.1).bind (fun x229 =>
 some (x229 != 0)
)
)
 else
 some false
)
) : Option Bool).bind (fun j226 =>
(((
(bif j226 then
(idx s186.2 s186.1).bind (fun x236 =>
(m_spec_l9Without x236 x182 b172.1).bind (fun r237 =>
(idx s186.2 s186.1).bind (fun x238 =>
 some (s186.2.set s186.1.toNat r237)
)
)
)
 else
 some s186.2
)
) : Option (List (List Int))).bind (fun j234 =>
 some (.inl ((w64 (s186.1 + 1)), j234))
))
))
 else
 some (.inr (b172.1, s186.2, b172.2.2.2))
)
def m_spec_l9Reduced_L6  (s15 : (Int × (List (List Int)) × (List Int))) : Option ((Int × (List (List Int)) × (List Int)) ⊕ ((List (List Int)) × (List Int))) :=
(((
(bif (decide (0 < (s15.2.1.length : Int))) then
(idx s15.2.1 0).bind (fun x153 =>
 some (decide (s15.1 < (x153.length : Int)))
)
 else
 some false
)
) : Option Bool).bind (fun j151 =>
(bif j151 then
((loopM (m_spec_l9Reduced_L7 s15) BIG (s15.2.2.length : Int)).bind (fun b172 =>
(bif (b172.2.1 == (b172.2.2.1.length : Int)) then
 some (.inl ((w64 (b172.1 + 1)), b172.2.2.1, b172.2.2.2))
 else
(idx b172.2.2.1 b172.2.1).bind (fun x182 =>
(idx b172.2.2.1 (b172.2.2.2.length : Int)).bind (fun x183 =>
(idx b172.2.2.1 b172.2.1).bind (fun x184 =>
(idx (b172.2.2.1.set b172.2.1.toNat x183) (b172.2.2.2.length : Int)).bind (fun x185 =>
((loopM (m_spec_l9Reduced_L8 b172 x182) BIG (0, ((b172.2.2.1.set b172.2.1.toNat x183).set (b172.2.2.2.length : Int).toNat x182))).bind (fun b221 =>
(lim (b221.2.2.length + ([b221.1] : List Int).length)).bind (fun u239 =>
 some (.inl ((w64 (b221.1 + 1)), b221.2.1, (b221.2.2 ++ ([b221.1] : List Int))))
)
))
)
)
)
)
)
))
 else
 some (.inr (s15.2.1, s15.2.2))
)
))
def m_spec_l9Reduced (m : (List (List Int))) : Option ((List (List Int)) × (List Int)) :=
((loopM (m_spec_l9Reduced_L1 m) BIG (0, ([] : List (List Int)))).bind (fun b10 =>
((loopM (m_spec_l9Reduced_L6) BIG (0, b10, ([] : List Int))).bind (fun b148 =>
 some (b148.1, b148.2)
))
))
def m_spec_l2Has_L1 (l : (List Int)) (x : Int) (s1 : Int) : Option (Int ⊕ (Unit ⊕ Bool)) :=
(bif (decide (s1 < (l.length : Int))) then
(idx l s1).bind (fun x10 =>
(bif (x10 == x) then
 some (.inr (.inr true))
 else
 some (.inl (w64 (s1 + 1)))
)
)
 else
 some (.inr (.inl ()))
)
def m_spec_l2Has (l : (List Int)) (x : Int) : Option Bool :=
((loopM (m_spec_l2Has_L1 l x) BIG 0).bind (Sum.elim (fun b8 => (
 some false
)) (fun r => some r)))
def m_spec_l9Null_L6 (s2 : (Int × (List (List Int)) × (List (List Int)) × (List Int))) (s117 : (Int × Int)) : Option ((Int × Int) ⊕ (Int × Int × (List (List Int)) × (List (List Int)) × (List Int))) :=
(bif (decide (s117.2 < (s2.2.2.2.length : Int))) then
(idx s2.2.2.1 s117.2).bind (fun x146 =>
(idx s2.2.2.2 s117.2).bind (fun x147 =>
(idx x146 x147).bind (fun x148 =>
(idx s2.2.2.1 s117.2).bind (fun x149 =>
(idx s2.2.2.2 s117.2).bind (fun x150 =>
(idx x149 x150).bind (fun x151 =>
(idx s2.2.2.1 s117.2).bind (fun x152 =>
(idx x152 s2.1).bind (fun x153 =>
(m_spec_GcdOf (if x148 < (w64 (-x151)) then (w64 (-x151)) else x148) x153).bind (fun r154 =>
(nz r154).bind (fun u155 =>
(m_spec_GcdOf s117.1 (w64 (Int.tdiv (if x148 < (w64 (-x151)) then (w64 (-x151)) else x148) r154))).bind (fun r156 =>
(nz r156).bind (fun u157 =>
 some (.inl ((w64 ((w64 (Int.tdiv s117.1 r156)) * (w64 (Int.tdiv (if x148 < (w64 (-x151)) then (w64 (-x151)) else x148) r154)))), (w64 (s117.2 + 1))))
)
)
)
)
)
)
)
)
)
)
)
)
 else
 some (.inr (s2.1, s117.1, s2.2.1, s2.2.2.1, s2.2.2.2))
)
def m_spec_l9Null_L7 (b144 : (Int × Int × (List (List Int)) × (List (List Int)) × (List Int))) (s160 : (Int × (List Int))) : Option ((Int × (List Int)) ⊕ (Int × (List (List Int)) × (List (List Int)) × (List Int) × (List Int))) :=
(bif (decide (s160.1 < (b144.2.2.2.2.length : Int))) then
(idx b144.2.2.2.2 s160.1).bind (fun x181 =>
(idx b144.2.2.2.1 s160.1).bind (fun x182 =>
(idx x182 b144.1).bind (fun x183 =>
(idx b144.2.2.2.1 s160.1).bind (fun x184 =>
(idx b144.2.2.2.2 s160.1).bind (fun x185 =>
(idx x184 x185).bind (fun x186 =>
(nz x186).bind (fun u187 =>
(idx s160.2 x181).bind (fun x188 =>
 some (.inl ((w64 (s160.1 + 1)), (s160.2.set x181.toNat (w64 (-(w64 (Int.tdiv (w64 (x183 * b144.2.1)) x186)))))))
)
)
)
)
)
)
)
)
 else
 some (.inr (b144.1, b144.2.2.1, b144.2.2.2.1, b144.2.2.2.2, s160.2))
)
def m_spec_l9Null_L5 (columns : Int) (s2 : (Int × (List (List Int)) × (List (List Int)) × (List Int))) : Option ((Int × (List (List Int)) × (List (List Int)) × (List Int)) ⊕ (List (List Int))) :=
(bif (decide (s2.1 < columns)) then
(m_spec_l2Has s2.2.2.2 s2.1).bind (fun r115 =>
(bif r115 then
 some (.inl ((w64 (s2.1 + 1)), s2.2.1, s2.2.2.1, s2.2.2.2))
 else
((loopM (m_spec_l9Null_L6 s2) BIG (1, 0)).bind (fun b144 =>
(lenOk columns).bind (fun u158 =>
(idx (List.replicate columns.toNat (0 : Int)) b144.1).bind (fun x159 =>
((loopM (m_spec_l9Null_L7 b144) BIG (0, ((List.replicate columns.toNat (0 : Int)).set b144.1.toNat b144.2.1))).bind (fun b179 =>
(m_spec_PrimitiveVector b179.2.2.2.2).bind (fun r189 =>
(lim (b179.2.1.length + [r189].length)).bind (fun u190 =>
 some (.inl ((w64 (b179.1 + 1)), (b179.2.1 ++ [r189]), b179.2.2.1, b179.2.2.2.1))
)
)
))
)
)
))
)
)
 else
 some (.inr s2.2.1)
)
def m_spec_l9Null (m : (List (List Int))) (columns : Int) : Option (List (List Int)) :=
(m_spec_l9Reduced m).bind (fun r1 =>
((loopM (m_spec_l9Null_L5 columns) BIG (0, ([] : List (List Int)), r1.1, r1.2)).bind (fun b113 =>
 some b113
))
)
def m_spec_StressesOf (f : TFramework) : Option (List (List Int)) :=
(((
(m_spec_IsFramework f).bind (fun r4 =>
(bif (!r4) then
 some true
 else
 some ((f.Graph.Bars.length : Int) == 0)
)
)
) : Option Bool).bind (fun j3 =>
(bif j3 then
 some ([] : List (List Int))
 else
(m_spec_l13Turned f).bind (fun r7 =>
(m_spec_l9Null r7 (f.Graph.Bars.length : Int)).bind (fun r8 =>
 some r8
)
)
)
))
def m_impl_Bar_other (x : TBar) (v : Int) : Option Int :=
(bif (x.A == v) then
 some x.B
 else
 some x.A
)
def m_spec_l4Other (b : TBar) (v : Int) : Option Int :=
 some (w64 ((w64 (b.A + b.B)) - v))
def m_laws_szBarS (a : (List TBar)) (leftV : Int) : Option Int :=
(bif (decide ((w64 (leftV - (a.length : Int))) < 0)) then
 some (-1)
 else
 some (w64 (leftV - (a.length : Int)))
)
def m_laws_szGraph (a : TGraph) (leftV : Int) : Option Int :=
(m_laws_szBarS a.Bars leftV).bind (fun r1 =>
(bif (decide (r1 < 0)) then
 some (-1)
 else
 some r1
)
)
def m_laws_toBar (a : TBar) : Option TBar :=
 some a
def m_laws_toBarS_L1 (a : (List TBar)) (s2 : (Int × (List TBar))) : Option ((Int × (List TBar)) ⊕ (List TBar)) :=
(bif (decide (s2.1 < (a.length : Int))) then
(idx a s2.1).bind (fun x13 =>
(m_laws_toBar x13).bind (fun r14 =>
(idx s2.2 s2.1).bind (fun x15 =>
 some (.inl ((w64 (s2.1 + 1)), (s2.2.set s2.1.toNat r14)))
)
)
)
 else
 some (.inr s2.2)
)
def m_laws_toBarS (a : (List TBar)) : Option (List TBar) :=
(lenOk (a.length : Int)).bind (fun u1 =>
((loopM (m_laws_toBarS_L1 a) BIG (0, (List.replicate (a.length : Int).toNat (TBar.mk (0 : Int) (0 : Int))))).bind (fun b11 =>
 some b11
))
)
def m_laws_toGraph (a : TGraph) : Option TGraph :=
(m_laws_toBarS a.Bars).bind (fun r1 =>
 some (TGraph.mk a.Points r1)
)
def m_spec_NewPebbles_L1 (g : TGraph) (k : Int) (s9 : (Int × (List Int))) : Option ((Int × (List Int)) ⊕ (List Int)) :=
(bif (decide (s9.1 < g.Points)) then
(lim (s9.2.length + ([k] : List Int).length)).bind (fun u16 =>
 some (.inl ((w64 (s9.1 + 1)), (s9.2 ++ ([k] : List Int))))
)
 else
 some (.inr s9.2)
)
def m_spec_NewPebbles (g : TGraph) (k : Int) : Option (TPebbles × Bool) :=
(((
(m_spec_IsGraph g).bind (fun r5 =>
(bif (!r5) then
 some true
 else
(m_spec_l1In k 1 3).bind (fun r7 =>
 some (!r7)
)
)
)
) : Option Bool).bind (fun j4 =>
(bif j4 then
 some ((TPebbles.mk ([] : List Int) ([] : List Int) ([] : List Int)), false)
 else
((loopM (m_spec_NewPebbles_L1 g k) BIG (0, ([] : List Int))).bind (fun b14 =>
 some ((TPebbles.mk b14 ([] : List Int) ([] : List Int)), true)
))
)
))
def m_spec_IsRange (k : Int) (l : Int) : Option Bool :=
(((
(m_spec_l1In k 1 3).bind (fun r5 =>
(bif r5 then
(bif (decide (0 ≤ l)) then
 some (decide (l < (w64 (2 * k))))
 else
 some false
)
 else
 some false
)
)
) : Option Bool).bind (fun j4 =>
 some j4
))
def m_spec_l4Tail_L1 (p : TPebbles) (v : Int) (s1 : (Int × Int)) : Option ((Int × Int) ⊕ Int) :=
(bif (decide (s1.2 < (p.Tails.length : Int))) then
(idx p.Tails s1.2).bind (fun x14 =>
(((
(bif (x14 == v) then
 some (w64 (s1.1 + 1))
 else
 some s1.1
)
) : Option Int).bind (fun j16 =>
 some (.inl (j16, (w64 (s1.2 + 1))))
))
)
 else
 some (.inr s1.1)
)
def m_spec_l4Tail (p : TPebbles) (v : Int) : Option Int :=
((loopM (m_spec_l4Tail_L1 p v) BIG (0, 0)).bind (fun b12 =>
 some b12
))
def m_spec_IsPebbles_L1 (g : TGraph) (p : TPebbles) (s13 : Int) : Option (Int ⊕ (Unit ⊕ Bool)) :=
(bif (decide (s13 < (p.Placed.length : Int))) then
(idx p.Placed s13).bind (fun x84 =>
(((
(bif (decide (x84 < 0)) then
 some true
 else
(bif (decide ((g.Bars.length : Int) ≤ x84)) then
 some true
 else
(bif (decide (0 < s13)) then
(idx p.Placed (w64 (s13 - 1))).bind (fun x104 =>
(bif (decide (x84 ≤ x104)) then
 some true
 else
(idx p.Tails s13).bind (fun x106 =>
(idx g.Bars x84).bind (fun x107 =>
(bif (x106 != x107.A) then
(idx p.Tails s13).bind (fun x109 =>
(idx g.Bars x84).bind (fun x110 =>
 some (x109 != x110.B)
)
)
 else
 some false
)
)
)
)
)
 else
(idx p.Tails s13).bind (fun x111 =>
(idx g.Bars x84).bind (fun x112 =>
(bif (x111 != x112.A) then
(idx p.Tails s13).bind (fun x114 =>
(idx g.Bars x84).bind (fun x115 =>
 some (x114 != x115.B)
)
)
 else
 some false
)
)
)
)
)
)
) : Option Bool).bind (fun j100 =>
(bif j100 then
 some (.inr (.inr false))
 else
 some (.inl (w64 (s13 + 1)))
)
))
)
 else
 some (.inr (.inl ()))
)
def m_spec_IsPebbles_L2 (g : TGraph) (k : Int) (p : TPebbles) (s117 : Int) : Option (Int ⊕ (Unit ⊕ Bool)) :=
(bif (decide (s117 < g.Points)) then
(((
(idx p.Free s117).bind (fun x147 =>
(bif (decide (x147 < 0)) then
 some true
 else
(idx p.Free s117).bind (fun x149 =>
(m_spec_l4Tail p s117).bind (fun r150 =>
 some ((w64 (x149 + r150)) != k)
)
)
)
)
) : Option Bool).bind (fun j146 =>
(bif j146 then
 some (.inr (.inr false))
 else
 some (.inl (w64 (s117 + 1)))
)
))
 else
 some (.inr (.inl ()))
)
def m_spec_IsPebbles (g : TGraph) (k : Int) (p : TPebbles) : Option Bool :=
(((
(m_spec_IsGraph g).bind (fun r7 =>
(bif (!r7) then
 some true
 else
(m_spec_l1In k 1 3).bind (fun r9 =>
(bif (!r9) then
 some true
 else
(bif ((p.Free.length : Int) != g.Points) then
 some true
 else
 some ((p.Tails.length : Int) != (p.Placed.length : Int))
)
)
)
)
)
) : Option Bool).bind (fun j6 =>
(bif j6 then
 some false
 else
((loopM (m_spec_IsPebbles_L1 g p) BIG 0).bind (Sum.elim (fun b82 => (
((loopM (m_spec_IsPebbles_L2 g k p) BIG 0).bind (Sum.elim (fun b140 => (
 some true
)) (fun r => some r)))
)) (fun r => some r)))
)
))
def m_spec_l4Copy (p : TPebbles) : Option TPebbles :=
(lim (([] : List Int).length + p.Free.length)).bind (fun u1 =>
(lim (([] : List Int).length + p.Tails.length)).bind (fun u2 =>
(lim (([] : List Int).length + p.Placed.length)).bind (fun u3 =>
 some (TPebbles.mk (([] : List Int) ++ p.Free) (([] : List Int) ++ p.Tails) (([] : List Int) ++ p.Placed))
)
)
)
def m_spec_l4Shift_L1 (g : TGraph) (p : TPebbles) (fromV : (List Int)) (a : Int) (u : Int) (r1 : TPebbles) (x2 : Int) (x4 : Int) (s6 : (Int × (List Int))) : Option ((Int × (List Int)) ⊕ ((List Int) × (List Int) × (List Int))) :=
(bif (s6.1 != a) then
(idx fromV s6.1).bind (fun x21 =>
(idx p.Placed x21).bind (fun x22 =>
(idx g.Bars x22).bind (fun x23 =>
(m_spec_l4Other x23 s6.1).bind (fun r24 =>
(idx s6.2 x21).bind (fun x25 =>
 some (.inl (r24, (s6.2.set x21.toNat s6.1)))
)
)
)
)
)
 else
 some (.inr (((r1.Free.set u.toNat (w64 (x2 - 1))).set a.toNat (w64 (x4 + 1))), s6.2, r1.Placed))
)
def m_spec_l4Shift (g : TGraph) (p : TPebbles) (fromV : (List Int)) (a : Int) (u : Int) : Option TPebbles :=
(m_spec_l4Copy p).bind (fun r1 =>
(idx r1.Free u).bind (fun x2 =>
(idx r1.Free u).bind (fun x3 =>
(idx (r1.Free.set u.toNat (w64 (x2 - 1))) a).bind (fun x4 =>
(idx (r1.Free.set u.toNat (w64 (x2 - 1))) a).bind (fun x5 =>
((loopM (m_spec_l4Shift_L1 g p fromV a u r1 x2 x4) BIG (u, r1.Tails)).bind (fun b19 =>
 some (TPebbles.mk b19.1 b19.2.1 b19.2.2)
))
)
)
)
)
)
def m_spec_l4Find_L1 (g : TGraph) (s2 : (Int × (List Int))) : Option ((Int × (List Int)) ⊕ (List Int)) :=
(bif (decide (s2.1 < g.Points)) then
(idx s2.2 s2.1).bind (fun x9 =>
 some (.inl ((w64 (s2.1 + 1)), (s2.2.set s2.1.toNat (-1))))
)
 else
 some (.inr s2.2)
)
def m_spec_l4Find_L5 (g : TGraph) (p : TPebbles) (a : Int) (b : Int) (s12 : (Int × (List Int) × (List Int) × (List Bool))) (x95 : Int) (s96 : (Int × (List Int) × (List Int) × (List Bool))) : Option ((Int × (List Int) × (List Int) × (List Bool)) ⊕ ((Int × (List Int) × (List Int) × (List Bool)) ⊕ (TPebbles × Bool))) :=
(bif (decide (s96.1 < (p.Placed.length : Int))) then
(idx p.Tails s96.1).bind (fun x135 =>
(bif (x135 != x95) then
 some (.inl ((w64 (s96.1 + 1)), s96.2.1, s96.2.2.1, s96.2.2.2))
 else
(idx p.Placed s96.1).bind (fun x137 =>
(idx g.Bars x137).bind (fun x138 =>
(m_spec_l4Other x138 x95).bind (fun r139 =>
(idx s96.2.2.2 r139).bind (fun x140 =>
(bif x140 then
 some (.inl ((w64 (s96.1 + 1)), s96.2.1, s96.2.2.1, s96.2.2.2))
 else
(idx s96.2.2.2 r139).bind (fun x142 =>
(idx s96.2.1 r139).bind (fun x143 =>
(((
(bif (r139 != b) then
(idx p.Free r139).bind (fun x148 =>
 some (decide (0 < x148))
)
 else
 some false
)
) : Option Bool).bind (fun j146 =>
(bif j146 then
(m_spec_l4Shift g p (s96.2.1.set r139.toNat s96.1) a r139).bind (fun r150 =>
 some (.inr (.inr (r150, true)))
)
 else
(lim (s96.2.2.1.length + ([r139] : List Int).length)).bind (fun u151 =>
 some (.inl ((w64 (s96.1 + 1)), (s96.2.1.set r139.toNat s96.1), (s96.2.2.1 ++ ([r139] : List Int)), (s96.2.2.2.set r139.toNat true)))
)
)
))
)
)
)
)
)
)
)
)
)
 else
 some (.inr (.inl (s12.1, s96.2.1, s96.2.2.1, s96.2.2.2)))
)
def m_spec_l4Find_L4 (g : TGraph) (p : TPebbles) (a : Int) (b : Int) (s12 : (Int × (List Int) × (List Int) × (List Bool))) : Option ((Int × (List Int) × (List Int) × (List Bool)) ⊕ (Unit ⊕ (TPebbles × Bool))) :=
(bif (decide (s12.1 < (s12.2.2.1.length : Int))) then
(idx s12.2.2.1 s12.1).bind (fun x95 =>
((loopM (m_spec_l4Find_L5 g p a b s12 x95) BIG (0, s12.2.1, s12.2.2.1, s12.2.2.2)).bind (Sum.elim (fun b133 => (
 some (.inl ((w64 (b133.1 + 1)), b133.2.1, b133.2.2.1, b133.2.2.2))
)) (fun r => some (.inr (.inr r)))))
)
 else
 some (.inr (.inl ()))
)
def m_spec_l4Find (g : TGraph) (p : TPebbles) (a : Int) (b : Int) : Option (TPebbles × Bool) :=
(lenOk g.Points).bind (fun u1 =>
((loopM (m_spec_l4Find_L1 g) BIG (0, (List.replicate g.Points.toNat (0 : Int)))).bind (fun b7 =>
(lenOk g.Points).bind (fun u10 =>
(idx (List.replicate g.Points.toNat false) a).bind (fun x11 =>
((loopM (m_spec_l4Find_L4 g p a b) BIG (0, b7, ([a] : List Int), ((List.replicate g.Points.toNat false).set a.toNat true))).bind (Sum.elim (fun b93 => (
 some (p, false)
)) (fun r => some r)))
)
)
))
)
def m_spec_l4Gather_L1 (g : TGraph) (a : Int) (b : Int) (want : Int) (s2 : ((List Int) × (List Int) × (List Int))) : Option (((List Int) × (List Int) × (List Int)) ⊕ (((List Int) × (List Int) × (List Int)) ⊕ (TPebbles × Bool))) :=
(idx s2.1 a).bind (fun x28 =>
(idx s2.1 b).bind (fun x29 =>
(bif (decide ((w64 (x28 + x29)) < want)) then
(m_spec_l4Find g (TPebbles.mk s2.1 s2.2.1 s2.2.2) a b).bind (fun r31 =>
(bif r31.2 then
(bif (!true) then
 none
 else
(bif (!true) then
 none
 else
 some (.inl (r31.1.Free, r31.1.Tails, r31.1.Placed))
)
)
 else
(bif (!false) then
(m_spec_l4Find g (TPebbles.mk s2.1 s2.2.1 s2.2.2) b a).bind (fun r36 =>
(bif r36.2 then
(bif (!true) then
 none
 else
 some (.inl (r36.1.Free, r36.1.Tails, r36.1.Placed))
)
 else
(bif (!false) then
 some (.inr (.inr ((TPebbles.mk s2.1 s2.2.1 s2.2.2), false)))
 else
 none
)
)
)
 else
 none
)
)
)
 else
 some (.inr (.inl (s2.1, s2.2.1, s2.2.2)))
)
)
)
def m_spec_l4Gather (g : TGraph) (p : TPebbles) (a : Int) (b : Int) (want : Int) : Option (TPebbles × Bool) :=
(m_spec_l4Copy p).bind (fun r1 =>
((loopM (m_spec_l4Gather_L1 g a b want) BIG (r1.Free, r1.Tails, r1.Placed)).bind (Sum.elim (fun b27 => (
 some ((TPebbles.mk b27.1 b27.2.1 b27.2.2), true)
)) (fun r => some r)))
)
def m_spec_PlaceBar (g : TGraph) (k : Int) (l : Int) (p : TPebbles) (bar : Int) : Option (TPebbles × Bool) :=
(((
(m_spec_IsPebbles g k p).bind (fun r10 =>
(bif (!r10) then
 some true
 else
(m_spec_IsRange k l).bind (fun r12 =>
(bif (!r12) then
 some true
 else
(bif (decide (bar < 0)) then
 some true
 else
(bif (decide ((g.Bars.length : Int) ≤ bar)) then
 some true
 else
(bif (decide (0 < (p.Placed.length : Int))) then
(idx p.Placed (w64 ((p.Placed.length : Int) - 1))).bind (fun x17 =>
 some (decide (bar ≤ x17))
)
 else
 some false
)
)
)
)
)
)
)
) : Option Bool).bind (fun j9 =>
(bif j9 then
(m_spec_l4Copy p).bind (fun r19 =>
 some (r19, false)
)
 else
(idx g.Bars bar).bind (fun x20 =>
(m_spec_l4Gather g p x20.A x20.B (w64 (l + 1))).bind (fun r21 =>
(bif (!r21.2) then
(m_spec_l4Copy p).bind (fun r23 =>
 some (r23, false)
)
 else
(idx r21.1.Free x20.A).bind (fun x24 =>
(((
(bif (x24 == 0) then
 some x20.B
 else
 some x20.A
)
) : Option Int).bind (fun j26 =>
(idx r21.1.Free j26).bind (fun x28 =>
(idx r21.1.Free j26).bind (fun x29 =>
(lim (r21.1.Tails.length + ([j26] : List Int).length)).bind (fun u30 =>
(lim (r21.1.Placed.length + ([bar] : List Int).length)).bind (fun u31 =>
 some ((TPebbles.mk (r21.1.Free.set j26.toNat (w64 (x28 - 1))) (r21.1.Tails ++ ([j26] : List Int)) (r21.1.Placed ++ ([bar] : List Int))), true)
)
)
)
)
))
)
)
)
)
)
))
def m_spec_RunPebbles_L1 (g : TGraph) (k : Int) (l : Int) (s8 : (Int × (List Int) × (List Int) × (List Int))) : Option ((Int × (List Int) × (List Int) × (List Int)) ⊕ ((List Int) × (List Int) × (List Int))) :=
(bif (decide (s8.1 < (g.Bars.length : Int))) then
(m_spec_PlaceBar g k l (TPebbles.mk s8.2.1 s8.2.2.1 s8.2.2.2) s8.1).bind (fun r15 =>
 some (.inl ((w64 (s8.1 + 1)), r15.1.Free, r15.1.Tails, r15.1.Placed))
)
 else
 some (.inr (s8.2.1, s8.2.2.1, s8.2.2.2))
)
def m_spec_RunPebbles (g : TGraph) (k : Int) (l : Int) : Option (TPebbles × Bool) :=
(m_spec_NewPebbles g k).bind (fun r1 =>
(((
(bif (!r1.2) then
 some true
 else
(m_spec_IsRange k l).bind (fun r6 =>
 some (!r6)
)
)
) : Option Bool).bind (fun j4 =>
(bif j4 then
 some ((TPebbles.mk ([] : List Int) ([] : List Int) ([] : List Int)), false)
 else
((loopM (m_spec_RunPebbles_L1 g k l) BIG (0, r1.1.Free, r1.1.Tails, r1.1.Placed)).bind (fun b13 =>
 some ((TPebbles.mk b13.1 b13.2.1 b13.2.2), true)
))
)
))
)
def m_impl_IsRange (k : Int) (l : Int) : Option Bool :=
(((
(m_impl_within k 1 3).bind (fun r5 =>
(bif r5 then
(m_impl_within l 0 (w64 ((w64 (2 * k)) - 1))).bind (fun r7 =>
 some r7
)
 else
 some false
)
)
) : Option Bool).bind (fun j4 =>
 some j4
))
def m_impl_copyPebbles (p : TPebbles) : Option TPebbles :=
(m_impl_copyInts p.Free).bind (fun r1 =>
(m_impl_copyInts p.Tails).bind (fun r2 =>
(m_impl_copyInts p.Placed).bind (fun r3 =>
 some (TPebbles.mk r1 r2 r3)
)
)
)
def m_impl_moveTo_L11 (p : TPebbles) (a : Int) (s122 : (Int × (List (Int × Int)) × (List Int))) (r187 : Int) (x196 : Int) (x198 : Int) (s200 : (Int × (List Int))) : Option ((Int × (List Int)) ⊕ ((List Int) × (List Int))) :=
(bif (s200.1 != a) then
(idx s200.2 (mget (mput s122.2.1 r187 s122.1) s200.1)).bind (fun x209 =>
(idx s200.2 (mget (mput s122.2.1 r187 s122.1) s200.1)).bind (fun x210 =>
 some (.inl (x209, (s200.2.set (mget (mput s122.2.1 r187 s122.1) s200.1).toNat s200.1)))
)
)
 else
 some (.inr (((p.Free.set r187.toNat (w64 (x196 - 1))).set a.toNat (w64 (x198 + 1))), s200.2))
)
def m_impl_moveTo_L10 (bars : (List TBar)) (p : TPebbles) (a : Int) (b : Int) (s1 : (Int × (List (Int × Int)) × (List Int))) (s122 : (Int × (List (Int × Int)) × (List Int))) : Option ((Int × (List (Int × Int)) × (List Int)) ⊕ ((Int × (List (Int × Int)) × (List Int)) ⊕ (Bool × TPebbles))) :=
(bif (decide (s122.1 < (p.Placed.length : Int))) then
(idx p.Placed s122.1).bind (fun x181 =>
(idx p.Tails s122.1).bind (fun x182 =>
(idx s122.2.2 s1.1).bind (fun x183 =>
(bif (x182 != x183) then
 some (.inl ((w64 (s122.1 + 1)), s122.2.1, s122.2.2))
 else
(idx bars x181).bind (fun x185 =>
(idx s122.2.2 s1.1).bind (fun x186 =>
(m_impl_Bar_other x185 x186).bind (fun r187 =>
(bif (mhas s122.2.1 r187) then
 some (.inl ((w64 (s122.1 + 1)), s122.2.1, s122.2.2))
 else
(((
(bif (r187 == b) then
 some true
 else
(idx p.Free r187).bind (fun x193 =>
 some (x193 == 0)
)
)
) : Option Bool).bind (fun j191 =>
(bif j191 then
(lim (s122.2.2.length + ([r187] : List Int).length)).bind (fun u195 =>
 some (.inl ((w64 (s122.1 + 1)), (mput s122.2.1 r187 s122.1), (s122.2.2 ++ ([r187] : List Int))))
)
 else
(idx p.Free r187).bind (fun x196 =>
(idx p.Free r187).bind (fun x197 =>
(idx (p.Free.set r187.toNat (w64 (x196 - 1))) a).bind (fun x198 =>
(idx (p.Free.set r187.toNat (w64 (x196 - 1))) a).bind (fun x199 =>
((loopM (m_impl_moveTo_L11 p a s122 r187 x196 x198) BIG (r187, p.Tails)).bind (fun b207 =>
 some (.inr (.inr (true, (TPebbles.mk b207.1 b207.2 p.Placed))))
))
)
)
)
)
)
))
)
)
)
)
)
)
)
)
 else
 some (.inr (.inl (s1.1, s122.2.1, s122.2.2)))
)
def m_impl_moveTo_L7 (bars : (List TBar)) (p : TPebbles) (a : Int) (b : Int) (s1 : (Int × (List (Int × Int)) × (List Int))) : Option ((Int × (List (Int × Int)) × (List Int)) ⊕ (Unit ⊕ (Bool × TPebbles))) :=
(bif (decide (s1.1 < (s1.2.2.length : Int))) then
((loopM (m_impl_moveTo_L10 bars p a b s1) BIG (0, s1.2.1, s1.2.2)).bind (Sum.elim (fun b179 => (
 some (.inl ((w64 (b179.1 + 1)), b179.2.1, b179.2.2))
)) (fun r => some (.inr (.inr r)))))
 else
 some (.inr (.inl ()))
)
def m_impl_moveTo (bars : (List TBar)) (p : TPebbles) (a : Int) (b : Int) : Option (Bool × TPebbles) :=
((loopM (m_impl_moveTo_L7 bars p a b) BIG (0, (mput ([] : List (Int × Int)) a (-1)), ([a] : List Int))).bind (Sum.elim (fun b120 => (
 some (false, p)
)) (fun r => some r)))
def m_impl_gather_L1 (bars : (List TBar)) (a : Int) (b : Int) (want : Int) (s1 : ((List Int) × (List Int) × (List Int))) : Option (((List Int) × (List Int) × (List Int)) ⊕ (((List Int) × (List Int) × (List Int)) ⊕ (Bool × TPebbles))) :=
(idx s1.1 a).bind (fun x25 =>
(idx s1.1 b).bind (fun x26 =>
(bif (decide ((w64 (x25 + x26)) < want)) then
(((
(m_impl_moveTo bars (TPebbles.mk s1.1 s1.2.1 s1.2.2) a b).bind (fun r32 =>
(bif (!r32.1) then
(m_impl_moveTo bars r32.2 b a).bind (fun r34 =>
 some ((!r34.1), r34.2.Free, r34.2.Tails, r34.2.Placed)
)
 else
 some (false, r32.2.Free, r32.2.Tails, r32.2.Placed)
)
)
) : Option (Bool × (List Int) × (List Int) × (List Int))).bind (fun j31 =>
(bif j31.1 then
 some (.inr (.inr (false, (TPebbles.mk j31.2.1 j31.2.2.1 j31.2.2.2))))
 else
 some (.inl (j31.2.1, j31.2.2.1, j31.2.2.2))
)
))
 else
 some (.inr (.inl (s1.1, s1.2.1, s1.2.2)))
)
)
)
def m_impl_gather (bars : (List TBar)) (p : TPebbles) (a : Int) (b : Int) (want : Int) : Option (Bool × TPebbles) :=
((loopM (m_impl_gather_L1 bars a b want) BIG (p.Free, p.Tails, p.Placed)).bind (Sum.elim (fun b24 => (
 some (true, (TPebbles.mk b24.1 b24.2.1 b24.2.2))
)) (fun r => some r)))
def m_impl_place (bars : (List TBar)) (l : Int) (p : TPebbles) (e : Int) : Option (Bool × TPebbles) :=
(idx bars e).bind (fun x1 =>
(m_impl_gather bars p x1.A x1.B (w64 (l + 1))).bind (fun r2 =>
(bif (!r2.1) then
 some (false, r2.2)
 else
(idx r2.2.Free x1.A).bind (fun x4 =>
(((
(bif (x4 == 0) then
 some x1.B
 else
 some x1.A
)
) : Option Int).bind (fun j6 =>
(idx r2.2.Free j6).bind (fun x8 =>
(idx r2.2.Free j6).bind (fun x9 =>
(lim (r2.2.Tails.length + ([j6] : List Int).length)).bind (fun u10 =>
(lim (r2.2.Placed.length + ([e] : List Int).length)).bind (fun u11 =>
 some (true, (TPebbles.mk (r2.2.Free.set j6.toNat (w64 (x8 - 1))) (r2.2.Tails ++ ([j6] : List Int)) (r2.2.Placed ++ ([e] : List Int))))
)
)
)
)
))
)
)
)
)
def m_impl_play_L1 (points : Int) (k : Int) (s1 : (Int × (List Int))) : Option ((Int × (List Int)) ⊕ (List Int)) :=
(bif (decide (s1.1 < points)) then
(lim (s1.2.length + ([k] : List Int).length)).bind (fun u8 =>
 some (.inl ((w64 (s1.1 + 1)), (s1.2 ++ ([k] : List Int))))
)
 else
 some (.inr s1.2)
)
def m_impl_play_L2 (bars : (List TBar)) (l : Int) (s9 : (Int × (List Int) × (List Int) × (List Int))) : Option ((Int × (List Int) × (List Int) × (List Int)) ⊕ ((List Int) × (List Int) × (List Int))) :=
(bif (decide (s9.1 < (bars.length : Int))) then
(m_impl_copyPebbles (TPebbles.mk s9.2.1 s9.2.2.1 s9.2.2.2)).bind (fun r24 =>
(m_impl_place bars l r24 s9.1).bind (fun r25 =>
(((
(bif r25.1 then
 some (r25.2.Free, r25.2.Tails, r25.2.Placed)
 else
 some (s9.2.1, s9.2.2.1, s9.2.2.2)
)
) : Option ((List Int) × (List Int) × (List Int))).bind (fun j27 =>
 some (.inl ((w64 (s9.1 + 1)), j27.1, j27.2.1, j27.2.2))
))
)
)
 else
 some (.inr (s9.2.1, s9.2.2.1, s9.2.2.2))
)
def m_impl_play (points : Int) (bars : (List TBar)) (k : Int) (l : Int) : Option TPebbles :=
((loopM (m_impl_play_L1 points k) BIG (0, ([] : List Int))).bind (fun b6 =>
((loopM (m_impl_play_L2 bars l) BIG (0, b6, ([] : List Int), ([] : List Int))).bind (fun b22 =>
 some (TPebbles.mk b22.1 b22.2.1 b22.2.2)
))
))
def m_impl_RunPebbles (g : TGraph) (k : Int) (l : Int) : Option (TPebbles × Bool) :=
(((
(m_impl_IsGraph g).bind (fun r5 =>
(bif (!r5) then
 some true
 else
(m_impl_IsRange k l).bind (fun r7 =>
 some (!r7)
)
)
)
) : Option Bool).bind (fun j4 =>
(bif j4 then
 some ((TPebbles.mk ([] : List Int) ([] : List Int) ([] : List Int)), false)
 else
(m_impl_play g.Points g.Bars k l).bind (fun r9 =>
 some (r9, true)
)
)
))
def m_laws_eqBar (a : TBar) (b : TBar) : Option Bool :=
(bif (a.A != b.A) then
 some false
 else
(bif (a.B != b.B) then
 some false
 else
 some true
)
)
def m_laws_eqBarS_L1 (a : (List TBar)) (b : (List TBar)) (s2 : Int) : Option (Int ⊕ (Unit ⊕ Bool)) :=
(bif (decide (s2 < (a.length : Int))) then
(idx a s2).bind (fun x15 =>
(idx b s2).bind (fun x16 =>
(m_laws_eqBar x15 x16).bind (fun r17 =>
(bif (!r17) then
 some (.inr (.inr false))
 else
 some (.inl (w64 (s2 + 1)))
)
)
)
)
 else
 some (.inr (.inl ()))
)
def m_laws_eqBarS (a : (List TBar)) (b : (List TBar)) : Option Bool :=
(bif ((a.length : Int) != (b.length : Int)) then
 some false
 else
((loopM (m_laws_eqBarS_L1 a b) BIG 0).bind (Sum.elim (fun b13 => (
 some true
)) (fun r => some r)))
)
def m_laws_eqGraph (a : TGraph) (b : TGraph) : Option Bool :=
(bif (a.Points != b.Points) then
 some false
 else
(m_laws_eqBarS a.Bars b.Bars).bind (fun r2 =>
(bif (!r2) then
 some false
 else
 some true
)
)
)
def m_laws_eqPlace (a : TPlace) (b : TPlace) : Option Bool :=
(bif (a.X != b.X) then
 some false
 else
(bif (a.Y != b.Y) then
 some false
 else
 some true
)
)
def m_laws_eqPlaceS_L1 (a : (List TPlace)) (b : (List TPlace)) (s2 : Int) : Option (Int ⊕ (Unit ⊕ Bool)) :=
(bif (decide (s2 < (a.length : Int))) then
(idx a s2).bind (fun x15 =>
(idx b s2).bind (fun x16 =>
(m_laws_eqPlace x15 x16).bind (fun r17 =>
(bif (!r17) then
 some (.inr (.inr false))
 else
 some (.inl (w64 (s2 + 1)))
)
)
)
)
 else
 some (.inr (.inl ()))
)
def m_laws_eqPlaceS (a : (List TPlace)) (b : (List TPlace)) : Option Bool :=
(bif ((a.length : Int) != (b.length : Int)) then
 some false
 else
((loopM (m_laws_eqPlaceS_L1 a b) BIG 0).bind (Sum.elim (fun b13 => (
 some true
)) (fun r => some r)))
)
def m_laws_eqFramework (a : TFramework) (b : TFramework) : Option Bool :=
(m_laws_eqGraph a.Graph b.Graph).bind (fun r1 =>
(bif (!r1) then
 some false
 else
(m_laws_eqPlaceS a.Places b.Places).bind (fun r3 =>
(bif (!r3) then
 some false
 else
 some true
)
)
)
)
def m_laws_markBarS_L1  (s1 : (Int × Int × (List TBar))) : Option ((Int × Int × (List TBar)) ⊕ (Int × (List TBar))) :=
(bif (decide (s1.2.1 < (s1.2.2.length : Int))) then
(idx s1.2.2 s1.2.1).bind (fun x10 =>
(idx (s1.2.2.set s1.2.1.toNat (TBar.mk s1.1 x10.B)) s1.2.1).bind (fun x11 =>
 some (.inl ((w64 ((w64 (s1.1 + 1)) + 1)), (w64 (s1.2.1 + 1)), ((s1.2.2.set s1.2.1.toNat (TBar.mk s1.1 x10.B)).set s1.2.1.toNat (TBar.mk x11.A (w64 (s1.1 + 1))))))
)
)
 else
 some (.inr (s1.1, s1.2.2))
)
def m_laws_markBarS (a : (List TBar)) (k : Int) : Option (Int × (List TBar)) :=
((loopM (m_laws_markBarS_L1) BIG (k, 0, a)).bind (fun b8 =>
 some (b8.1, b8.2)
))
def m_laws_markGraph (a : TGraph) (k : Int) : Option (Int × (List TBar)) :=
(m_laws_markBarS a.Bars k).bind (fun r1 =>
 some (r1.1, r1.2)
)
def m_laws_markPlaceS_L1  (s1 : (Int × Int × (List TPlace))) : Option ((Int × Int × (List TPlace)) ⊕ (Int × (List TPlace))) :=
(bif (decide (s1.2.1 < (s1.2.2.length : Int))) then
(idx s1.2.2 s1.2.1).bind (fun x10 =>
(idx (s1.2.2.set s1.2.1.toNat (TPlace.mk s1.1 x10.Y)) s1.2.1).bind (fun x11 =>
 some (.inl ((w64 ((w64 (s1.1 + 1)) + 1)), (w64 (s1.2.1 + 1)), ((s1.2.2.set s1.2.1.toNat (TPlace.mk s1.1 x10.Y)).set s1.2.1.toNat (TPlace.mk x11.X (w64 (s1.1 + 1))))))
)
)
 else
 some (.inr (s1.1, s1.2.2))
)
def m_laws_markPlaceS (a : (List TPlace)) (k : Int) : Option (Int × (List TPlace)) :=
((loopM (m_laws_markPlaceS_L1) BIG (k, 0, a)).bind (fun b8 =>
 some (b8.1, b8.2)
))
def m_laws_markFramework (a : TFramework) (k : Int) : Option (Int × (List TBar) × (List TPlace)) :=
(m_laws_markGraph a.Graph k).bind (fun r1 =>
(m_laws_markPlaceS a.Places r1.1).bind (fun r2 =>
 some (r2.1, r1.2, r2.2)
)
)
def m_laws_szPlaceS (a : (List TPlace)) (leftV : Int) : Option Int :=
(bif (decide ((w64 (leftV - (a.length : Int))) < 0)) then
 some (-1)
 else
 some (w64 (leftV - (a.length : Int)))
)
def m_laws_szFramework (a : TFramework) (leftV : Int) : Option Int :=
(m_laws_szGraph a.Graph leftV).bind (fun r1 =>
(bif (decide (r1 < 0)) then
 some (-1)
 else
(m_laws_szPlaceS a.Places r1).bind (fun r3 =>
(bif (decide (r3 < 0)) then
 some (-1)
 else
 some r3
)
)
)
)
def m_laws_toPlace (a : TPlace) : Option TPlace :=
 some a
def m_laws_toPlaceS_L1 (a : (List TPlace)) (s2 : (Int × (List TPlace))) : Option ((Int × (List TPlace)) ⊕ (List TPlace)) :=
(bif (decide (s2.1 < (a.length : Int))) then
(idx a s2.1).bind (fun x13 =>
(m_laws_toPlace x13).bind (fun r14 =>
(idx s2.2 s2.1).bind (fun x15 =>
 some (.inl ((w64 (s2.1 + 1)), (s2.2.set s2.1.toNat r14)))
)
)
)
 else
 some (.inr s2.2)
)
def m_laws_toPlaceS (a : (List TPlace)) : Option (List TPlace) :=
(lenOk (a.length : Int)).bind (fun u1 =>
((loopM (m_laws_toPlaceS_L1 a) BIG (0, (List.replicate (a.length : Int).toNat (TPlace.mk (0 : Int) (0 : Int))))).bind (fun b11 =>
 some b11
))
)
def m_laws_toFramework (a : TFramework) : Option TFramework :=
(m_laws_toGraph a.Graph).bind (fun r1 =>
(m_laws_toPlaceS a.Places).bind (fun r2 =>
 some (TFramework.mk r1 r2)
)
)
def m_laws_eqIntS_L1 (a : (List Int)) (b : (List Int)) (s2 : Int) : Option (Int ⊕ (Unit ⊕ Bool)) :=
(bif (decide (s2 < (a.length : Int))) then
(idx a s2).bind (fun x13 =>
(idx b s2).bind (fun x14 =>
(bif (x13 != x14) then
 some (.inr (.inr false))
 else
 some (.inl (w64 (s2 + 1)))
)
)
)
 else
 some (.inr (.inl ()))
)
def m_laws_eqIntS (a : (List Int)) (b : (List Int)) : Option Bool :=
(bif ((a.length : Int) != (b.length : Int)) then
 some false
 else
((loopM (m_laws_eqIntS_L1 a b) BIG 0).bind (Sum.elim (fun b11 => (
 some true
)) (fun r => some r)))
)
def m_laws_markIntS_L1  (s1 : (Int × Int × (List Int))) : Option ((Int × Int × (List Int)) ⊕ (Int × (List Int))) :=
(bif (decide (s1.2.1 < (s1.2.2.length : Int))) then
(idx s1.2.2 s1.2.1).bind (fun x8 =>
 some (.inl ((w64 (s1.1 + 1)), (w64 (s1.2.1 + 1)), (s1.2.2.set s1.2.1.toNat s1.1)))
)
 else
 some (.inr (s1.1, s1.2.2))
)
def m_laws_markIntS (a : (List Int)) (k : Int) : Option (Int × (List Int)) :=
((loopM (m_laws_markIntS_L1) BIG (k, 0, a)).bind (fun b6 =>
 some (b6.1, b6.2)
))
def m_laws_heldIntS_L1 (a : (List Int)) (s1 : (Int × Int)) : Option ((Int × Int) ⊕ (Int ⊕ Int)) :=
(bif (decide (s1.2 < (a.length : Int))) then
(idx a s1.2).bind (fun x10 =>
(bif (x10 != s1.1) then
 some (.inr (.inr (-1)))
 else
 some (.inl ((w64 (s1.1 + 1)), (w64 (s1.2 + 1))))
)
)
 else
 some (.inr (.inl s1.1))
)
def m_laws_heldIntS (a : (List Int)) (k : Int) : Option Int :=
((loopM (m_laws_heldIntS_L1 a) BIG (k, 0)).bind (Sum.elim (fun b8 => (
 some b8
)) (fun r => some r)))
def m_spec_AcceptedBars (g : TGraph) (k : Int) (l : Int) : Option (List Int) :=
(m_spec_RunPebbles g k l).bind (fun r1 =>
(lim (([] : List Int).length + r1.1.Placed.length)).bind (fun u2 =>
 some (([] : List Int) ++ r1.1.Placed)
)
)
def m_spec_OnlyBars_L1 (g : TGraph) (keep : (List Int)) (s1 : (Int × (List TBar))) : Option ((Int × (List TBar)) ⊕ (List TBar)) :=
(bif (decide (s1.1 < (g.Bars.length : Int))) then
(m_spec_l2Has keep s1.1).bind (fun r22 =>
(((
(bif r22 then
(idx g.Bars s1.1).bind (fun x28 =>
(lim (s1.2.length + [x28].length)).bind (fun u29 =>
 some (s1.2 ++ [x28])
)
)
 else
 some s1.2
)
) : Option (List TBar)).bind (fun j26 =>
 some (.inl ((w64 (s1.1 + 1)), j26))
))
)
 else
 some (.inr s1.2)
)
def m_spec_OnlyBars (g : TGraph) (keep : (List Int)) : Option TGraph :=
((loopM (m_spec_OnlyBars_L1 g keep) BIG (0, ([] : List TBar))).bind (fun b20 =>
 some (TGraph.mk g.Points b20)
))
def m_spec_SpecialStress_L1 (r3 : (List Int)) (r5 : (List (List Int))) (s8 : (Int × (List Int))) : Option ((Int × (List Int)) ⊕ (List Int)) :=
(bif (decide (s8.1 < (r3.length : Int))) then
(idx r3 s8.1).bind (fun x21 =>
(idx r5 0).bind (fun x22 =>
(idx x22 s8.1).bind (fun x23 =>
(idx s8.2 x21).bind (fun x24 =>
 some (.inl ((w64 (s8.1 + 1)), (s8.2.set x21.toNat x23)))
)
)
)
)
 else
 some (.inr s8.2)
)
def m_spec_SpecialStress (f : TFramework) : Option ((List Int) × Bool) :=
(m_spec_IsFramework f).bind (fun r1 =>
(bif (!r1) then
 some (([] : List Int), false)
 else
(m_spec_AcceptedBars f.Graph 2 3).bind (fun r3 =>
(m_spec_OnlyBars f.Graph r3).bind (fun r4 =>
(m_spec_StressesOf (TFramework.mk r4 f.Places)).bind (fun r5 =>
(bif ((r5.length : Int) == 0) then
 some (([] : List Int), false)
 else
(lenOk (f.Graph.Bars.length : Int)).bind (fun u7 =>
((loopM (m_spec_SpecialStress_L1 r3 r5) BIG (0, (List.replicate (f.Graph.Bars.length : Int).toNat (0 : Int)))).bind (fun b19 =>
 some (b19, true)
))
)
)
)
)
)
)
)
def m_impl_AcceptedBars (g : TGraph) (k : Int) (l : Int) : Option (List Int) :=
(m_impl_RunPebbles g k l).bind (fun r1 =>
(m_impl_copyInts r1.1.Placed).bind (fun r2 =>
 some r2
)
)
def m_slices_Index_L1 (s : (List Int)) (v : Int) (s1 : Int) : Option (Int ⊕ (Unit ⊕ Int)) :=
(bif (decide (s1 < (s.length : Int))) then
(idx s s1).bind (fun x10 =>
(bif (v == x10) then
 some (.inr (.inr s1))
 else
 some (.inl (w64 (s1 + 1)))
)
)
 else
 some (.inr (.inl ()))
)
def m_slices_Index (s : (List Int)) (v : Int) : Option Int :=
((loopM (m_slices_Index_L1 s v) BIG 0).bind (Sum.elim (fun b8 => (
 some (-1)
)) (fun r => some r)))
def m_slices_Contains (s : (List Int)) (v : Int) : Option Bool :=
(m_slices_Index s v).bind (fun r1 =>
 some (decide (0 ≤ r1))
)
def m_impl_OnlyBars_L1 (g : TGraph) (keep : (List Int)) (s1 : (Int × (List TBar))) : Option ((Int × (List TBar)) ⊕ (List TBar)) :=
(bif (decide (s1.1 < (g.Bars.length : Int))) then
(idx g.Bars s1.1).bind (fun x20 =>
(m_slices_Contains keep s1.1).bind (fun r21 =>
(((
(bif r21 then
(lim (s1.2.length + [x20].length)).bind (fun u26 =>
 some (s1.2 ++ [x20])
)
 else
 some s1.2
)
) : Option (List TBar)).bind (fun j24 =>
 some (.inl ((w64 (s1.1 + 1)), j24))
))
)
)
 else
 some (.inr s1.2)
)
def m_impl_OnlyBars (g : TGraph) (keep : (List Int)) : Option TGraph :=
((loopM (m_impl_OnlyBars_L1 g keep) BIG (0, ([] : List TBar))).bind (fun b18 =>
 some (TGraph.mk g.Points b18)
))
def m_impl_SpecialStress_L1 (f : TFramework) (r3 : (List Int)) (r5 : (List (List Int))) (s8 : (Int × (List Int))) : Option ((Int × (List Int)) ⊕ (List Int)) :=
(bif (decide (s8.1 < ((List.replicate (f.Graph.Bars.length : Int).toNat (0 : Int)).length : Int))) then
(m_slices_Index r3 s8.1).bind (fun r33 =>
(((
(bif (decide (0 ≤ r33)) then
(idx r5 0).bind (fun x40 =>
(idx x40 r33).bind (fun x41 =>
(idx s8.2 s8.1).bind (fun x42 =>
 some (s8.2.set s8.1.toNat x41)
)
)
)
 else
 some s8.2
)
) : Option (List Int)).bind (fun j38 =>
 some (.inl ((w64 (s8.1 + 1)), j38))
))
)
 else
 some (.inr s8.2)
)
def m_impl_SpecialStress (f : TFramework) : Option ((List Int) × Bool) :=
(m_impl_IsFramework f).bind (fun r1 =>
(bif (!r1) then
 some (([] : List Int), false)
 else
(m_impl_AcceptedBars f.Graph 2 3).bind (fun r3 =>
(m_impl_OnlyBars f.Graph r3).bind (fun r4 =>
(m_impl_StressesOf (TFramework.mk r4 f.Places)).bind (fun r5 =>
(bif ((r5.length : Int) == 0) then
 some (([] : List Int), false)
 else
(lenOk (f.Graph.Bars.length : Int)).bind (fun u7 =>
((loopM (m_impl_SpecialStress_L1 f r3 r5) BIG (0, (List.replicate (f.Graph.Bars.length : Int).toNat (0 : Int)))).bind (fun b31 =>
 some (b31, true)
))
)
)
)
)
)
)
)
def m_laws_FnExactSpecialStress (aF : TFramework) : Option Bool :=
(m_laws_szFramework aF 1048576).bind (fun r1 =>
(bif (decide (r1 < 0)) then
 some true
 else
(m_laws_toFramework aF).bind (fun r3 =>
(m_spec_SpecialStress r3).bind (fun r4 =>
(m_laws_toFramework aF).bind (fun r5 =>
(m_impl_SpecialStress r5).bind (fun r6 =>
(((
(m_laws_eqIntS r6.1 r4.1).bind (fun r10 =>
(bif (!r10) then
 some true
 else
 some (r6.2 != r4.2)
)
)
) : Option Bool).bind (fun j9 =>
(bif j9 then
 some false
 else
(m_laws_toFramework aF).bind (fun r13 =>
(m_laws_eqFramework r5 r13).bind (fun r14 =>
(bif (!r14) then
 some false
 else
(m_laws_markFramework r5 1).bind (fun r16 =>
(((
(bif (decide (r16.1 < 0)) then
 some true
 else
(m_laws_eqIntS r6.1 r4.1).bind (fun r22 =>
(bif (!r22) then
 some true
 else
 some (r6.2 != r4.2)
)
)
)
) : Option Bool).bind (fun j20 =>
(bif j20 then
 some false
 else
(m_laws_markIntS r6.1 1).bind (fun r25 =>
(same r6.1.length r25.2.length).bind (fun u26 =>
(m_laws_heldIntS r25.2 1).bind (fun r27 =>
(bif (decide (r27 < 0)) then
 some false
 else
(bif (r27 != r25.1) then
 some false
 else
(m_laws_toFramework aF).bind (fun r30 =>
(m_impl_SpecialStress r30).bind (fun r31 =>
(((
(m_laws_eqIntS r31.1 r4.1).bind (fun r35 =>
(bif (!r35) then
(same r6.1.length r25.2.length).bind (fun u37 =>
 some true
)
 else
(same r6.1.length r25.2.length).bind (fun u38 =>
 some (r31.2 != r4.2)
)
)
)
) : Option Bool).bind (fun j34 =>
(bif j34 then
 some false
 else
(m_laws_heldIntS r25.2 1).bind (fun r40 =>
(bif (decide (r40 < 0)) then
 some false
 else
(bif (r40 != r25.1) then
 some false
 else
 some true
)
)
)
)
))
)
)
)
)
))
)
)
))
)
)
)
)
)
))
)
)
)
)
)
)
end Go.Proofs.Ytghofbijdnenoaa
end
section
set_option linter.unusedVariables false
set_option linter.unusedSimpArgs false
set_option linter.unnecessarySimpa false
open Go Go.Fw
namespace Go.Proofs.Ytghofbijdnenoaa
abbrev SM (n : Nat) : Prop := n ≤ 2147483648
abbrev KM (k : Int) : Prop := 0 ≤ k ∧ k ≤ 1099511627776
theorem eqIntS_refl (a : List Int) (h : SM a.length) : m_laws_eqIntS a a = some true := by
  unfold m_laws_eqIntS
  rw [count_loop a.length (by omega) (fun k hk => ?_) (by simp [m_laws_eqIntS_L1] <;> rfl)]
  · simp
  · simp only [m_laws_eqIntS_L1, idx_at hk, Option.bind_some]
    rw [decide_eq_true (by omega)]
    simp
def mkIntS (b : Int) (n : Nat) : List Int := (List.range n).map fun (i : Nat) => b + (i : Int)
theorem mkIntS_get {b : Int} {n k : Nat} (h : k < n) : (mkIntS b n)[k]? = some (b + (k : Int)) := by simp [mkIntS, h]
theorem mkIntS_len (b : Int) (n : Nat) : (mkIntS b n).length = n := by simp [mkIntS]
theorem markIntS_eq (a : List Int) (h : SM a.length) (b : Int) (hb : KM b) : m_laws_markIntS a b = some (b + (a.length : Int), mkIntS b a.length) := by
  have e : loopM m_laws_markIntS_L1 BIG (b, 0, a) = some ((b + (a.length : Int)), mkIntS b a.length) := by
    refine loopM_run (fun (k : Nat) => ((b + (k : Int)), (k : Int), mkIntS b k ++ a.drop k)) a.length (by omega) (by simp [mkIntS]) (fun k hk => ?_) (by simp [m_laws_markIntS_L1, mkIntS_len])
    have hl : (mkIntS b k ++ a.drop k).length = a.length := by simp [mkIntS_len]; omega
    have hi : idx (mkIntS b k ++ a.drop k) (k : Int) = some a[k] := by
      apply idx_of
      rw [List.getElem?_append_right (by simp [mkIntS_len]), mkIntS_len, Nat.sub_self, List.getElem?_drop, Nat.add_zero, List.getElem?_eq_getElem hk]
    have hset : ∀ x, (mkIntS b k ++ a.drop k).set k x = mkIntS b k ++ (x :: a.drop (k + 1)) := fun x => by
      rw [List.set_append_right _ _ (by simp [mkIntS_len]), mkIntS_len, Nat.sub_self, List.drop_eq_getElem_cons hk, List.set_cons_zero]
    have e1 : w64 (b + (k : Int) + 1) = b + ((k + 1 : Nat) : Int) := by rw [w64_small (by omega) (by omega)]; omega
    simp only [m_laws_markIntS_L1, hi, Option.bind_some, Int.toNat_natCast, hset, e1, w64_succ (show k ≤ 1099511627776 by omega)]
    rw [decide_eq_true (by rw [hl]; omega), cond_true]
    congr 4
    simp [mkIntS, List.range_succ]
  unfold m_laws_markIntS
  rw [e]
  rfl
theorem heldIntS_eq (n : Nat) (h : SM n) (b : Int) (hb : KM b) : m_laws_heldIntS (mkIntS b n) b = some (b + (n : Int)) := by
  have e : loopM (m_laws_heldIntS_L1 (mkIntS b n)) BIG (b, 0) = some (.inl (b + (n : Int))) := by
    refine loopM_run (fun (k : Nat) => ((b + (k : Int)), (k : Int))) n (by omega) (by simp) (fun k hk => ?_) (by simp [m_laws_heldIntS_L1, mkIntS_len])
    have e1 : w64 (b + (k : Int) + 1) = b + ((k + 1 : Nat) : Int) := by rw [w64_small (by omega) (by omega)]; omega
    simp only [m_laws_heldIntS_L1, mkIntS_len, idx_of (mkIntS_get hk), Option.bind_some, e1, w64_succ (show k ≤ 1099511627776 by omega)]
    rw [decide_eq_true (by omega)]
    simp
  unfold m_laws_heldIntS
  rw [e]
  rfl
theorem toBarS_eq (a : List TBar) (h : SM a.length) : m_laws_toBarS a = some a := by
  unfold m_laws_toBarS
  rw [lenOk_ok (by omega) (by omega), Option.bind_some, Int.toNat_natCast, copy_loop a _ (by omega) (fun k l x y hx hy => ?_) (fun l => ?_)]
  · rfl
  · have hk : k < a.length := (List.getElem?_eq_some_iff.1 hx).1
    simp only [m_laws_toBarS_L1, idx_of hx, idx_of hy, m_laws_toBar, Option.bind_some, Int.toNat_natCast]
    rw [decide_eq_true (by omega)]
    rfl
  · simp [m_laws_toBarS_L1]
theorem eqBarS_refl (a : List TBar) (h : SM a.length) : m_laws_eqBarS a a = some true := by
  unfold m_laws_eqBarS
  rw [count_loop a.length (by omega) (fun k hk => ?_) (by simp [m_laws_eqBarS_L1] <;> rfl)]
  · simp
  · simp only [m_laws_eqBarS_L1, idx_at hk, m_laws_eqBar, Option.bind_some]
    rw [decide_eq_true (by omega)]
    simp
def mkBarS (b : Int) (n : Nat) : List TBar := (List.range n).map fun (i : Nat) => ⟨b + 2 * (i : Int), b + 1 + 2 * (i : Int)⟩
theorem mkBarS_len (b : Int) (n : Nat) : (mkBarS b n).length = n := by simp [mkBarS]
theorem markBarS_eq (a : List TBar) (h : SM a.length) (b : Int) (hb : KM b) : m_laws_markBarS a b = some (b + 2 * (a.length : Int), mkBarS b a.length) := by
  have e : loopM m_laws_markBarS_L1 BIG (b, 0, a) = some ((b + 2 * (a.length : Int)), mkBarS b a.length) := by
    refine loopM_run (fun (k : Nat) => ((b + 2 * (k : Int)), (k : Int), mkBarS b k ++ a.drop k)) a.length (by omega) (by simp [mkBarS]) (fun k hk => ?_) (by simp [m_laws_markBarS_L1, mkBarS_len])
    have hl : (mkBarS b k ++ a.drop k).length = a.length := by simp [mkBarS_len]; omega
    have hi : idx (mkBarS b k ++ a.drop k) (k : Int) = some a[k] := by
      apply idx_of
      rw [List.getElem?_append_right (by simp [mkBarS_len]), mkBarS_len, Nat.sub_self, List.getElem?_drop, Nat.add_zero, List.getElem?_eq_getElem hk]
    have hset : ∀ x, (mkBarS b k ++ a.drop k).set k x = mkBarS b k ++ (x :: a.drop (k + 1)) := fun x => by
      rw [List.set_append_right _ _ (by simp [mkBarS_len]), mkBarS_len, Nat.sub_self, List.drop_eq_getElem_cons hk, List.set_cons_zero]
    have hi2 : ∀ x : TBar, idx (mkBarS b k ++ (x :: a.drop (k + 1))) (k : Int) = some x := fun x => by
      apply idx_of
      rw [List.getElem?_append_right (by simp [mkBarS_len]), mkBarS_len, Nat.sub_self]
      rfl
    have hset2 : ∀ x y : TBar, (mkBarS b k ++ (x :: a.drop (k + 1))).set k y = mkBarS b k ++ (y :: a.drop (k + 1)) := fun x y => by
      rw [List.set_append_right _ _ (by simp [mkBarS_len]), mkBarS_len, Nat.sub_self, List.set_cons_zero]
    have e1 : w64 (b + 2 * (k : Int) + 1) = b + 1 + 2 * (k : Int) := by rw [w64_small (by omega) (by omega)]; omega
    have e2 : w64 (b + 1 + 2 * (k : Int) + 1) = b + 2 * ((k + 1 : Nat) : Int) := by rw [w64_small (by omega) (by omega)]; omega
    simp only [m_laws_markBarS_L1, hi, Option.bind_some, Int.toNat_natCast, hset, hi2, hset2, e1, e2, w64_succ (show k ≤ 1099511627776 by omega)]
    rw [decide_eq_true (by rw [hl]; omega), cond_true]
    congr 4
    simp [mkBarS, List.range_succ]
  unfold m_laws_markBarS
  rw [e]
  rfl
theorem szBarS_some (a : List TBar) (n : Int) : ∃ z, m_laws_szBarS a n = some z := by
  unfold m_laws_szBarS
  cases decide (w64 (n - (a.length : Int)) < 0) <;> exact ⟨_, rfl⟩
theorem toPlaceS_eq (a : List TPlace) (h : SM a.length) : m_laws_toPlaceS a = some a := by
  unfold m_laws_toPlaceS
  rw [lenOk_ok (by omega) (by omega), Option.bind_some, Int.toNat_natCast, copy_loop a _ (by omega) (fun k l x y hx hy => ?_) (fun l => ?_)]
  · rfl
  · have hk : k < a.length := (List.getElem?_eq_some_iff.1 hx).1
    simp only [m_laws_toPlaceS_L1, idx_of hx, idx_of hy, m_laws_toPlace, Option.bind_some, Int.toNat_natCast]
    rw [decide_eq_true (by omega)]
    rfl
  · simp [m_laws_toPlaceS_L1]
theorem eqPlaceS_refl (a : List TPlace) (h : SM a.length) : m_laws_eqPlaceS a a = some true := by
  unfold m_laws_eqPlaceS
  rw [count_loop a.length (by omega) (fun k hk => ?_) (by simp [m_laws_eqPlaceS_L1] <;> rfl)]
  · simp
  · simp only [m_laws_eqPlaceS_L1, idx_at hk, m_laws_eqPlace, Option.bind_some]
    rw [decide_eq_true (by omega)]
    simp
def mkPlaceS (b : Int) (n : Nat) : List TPlace := (List.range n).map fun (i : Nat) => ⟨b + 2 * (i : Int), b + 1 + 2 * (i : Int)⟩
theorem mkPlaceS_len (b : Int) (n : Nat) : (mkPlaceS b n).length = n := by simp [mkPlaceS]
theorem markPlaceS_eq (a : List TPlace) (h : SM a.length) (b : Int) (hb : KM b) : m_laws_markPlaceS a b = some (b + 2 * (a.length : Int), mkPlaceS b a.length) := by
  have e : loopM m_laws_markPlaceS_L1 BIG (b, 0, a) = some ((b + 2 * (a.length : Int)), mkPlaceS b a.length) := by
    refine loopM_run (fun (k : Nat) => ((b + 2 * (k : Int)), (k : Int), mkPlaceS b k ++ a.drop k)) a.length (by omega) (by simp [mkPlaceS]) (fun k hk => ?_) (by simp [m_laws_markPlaceS_L1, mkPlaceS_len])
    have hl : (mkPlaceS b k ++ a.drop k).length = a.length := by simp [mkPlaceS_len]; omega
    have hi : idx (mkPlaceS b k ++ a.drop k) (k : Int) = some a[k] := by
      apply idx_of
      rw [List.getElem?_append_right (by simp [mkPlaceS_len]), mkPlaceS_len, Nat.sub_self, List.getElem?_drop, Nat.add_zero, List.getElem?_eq_getElem hk]
    have hset : ∀ x, (mkPlaceS b k ++ a.drop k).set k x = mkPlaceS b k ++ (x :: a.drop (k + 1)) := fun x => by
      rw [List.set_append_right _ _ (by simp [mkPlaceS_len]), mkPlaceS_len, Nat.sub_self, List.drop_eq_getElem_cons hk, List.set_cons_zero]
    have hi2 : ∀ x : TPlace, idx (mkPlaceS b k ++ (x :: a.drop (k + 1))) (k : Int) = some x := fun x => by
      apply idx_of
      rw [List.getElem?_append_right (by simp [mkPlaceS_len]), mkPlaceS_len, Nat.sub_self]
      rfl
    have hset2 : ∀ x y : TPlace, (mkPlaceS b k ++ (x :: a.drop (k + 1))).set k y = mkPlaceS b k ++ (y :: a.drop (k + 1)) := fun x y => by
      rw [List.set_append_right _ _ (by simp [mkPlaceS_len]), mkPlaceS_len, Nat.sub_self, List.set_cons_zero]
    have e1 : w64 (b + 2 * (k : Int) + 1) = b + 1 + 2 * (k : Int) := by rw [w64_small (by omega) (by omega)]; omega
    have e2 : w64 (b + 1 + 2 * (k : Int) + 1) = b + 2 * ((k + 1 : Nat) : Int) := by rw [w64_small (by omega) (by omega)]; omega
    simp only [m_laws_markPlaceS_L1, hi, Option.bind_some, Int.toNat_natCast, hset, hi2, hset2, e1, e2, w64_succ (show k ≤ 1099511627776 by omega)]
    rw [decide_eq_true (by rw [hl]; omega), cond_true]
    congr 4
    simp [mkPlaceS, List.range_succ]
  unfold m_laws_markPlaceS
  rw [e]
  rfl
theorem szPlaceS_some (a : List TPlace) (n : Int) : ∃ z, m_laws_szPlaceS a n = some z := by
  unfold m_laws_szPlaceS
  cases decide (w64 (n - (a.length : Int)) < 0) <;> exact ⟨_, rfl⟩
theorem toGraph_eq (a : TGraph) (h0 : SM a.Bars.length) : m_laws_toGraph a = some a := by
  unfold m_laws_toGraph
  simp only [toBarS_eq a.Bars h0, Option.bind_some]
theorem eqGraph_refl (a : TGraph) (h0 : SM a.Bars.length) : m_laws_eqGraph a a = some true := by
  unfold m_laws_eqGraph
  simp [eqBarS_refl a.Bars h0]
theorem szGraph_some (a : TGraph) (n : Int) : ∃ z, m_laws_szGraph a n = some z := by
  unfold m_laws_szGraph
  obtain ⟨z0, e0⟩ := szBarS_some a.Bars n
  rw [e0, Option.bind_some]
  cases decide (z0 < 0)
  rotate_left
  · exact ⟨_, rfl⟩
  simp only [cond_false]
  exact ⟨_, rfl⟩
theorem markGraph_eq (a : TGraph) (h0 : SM a.Bars.length) (b : Int) (hb : 0 ≤ b) (hb2 : b ≤ 549755813888) : m_laws_markGraph a b = some ((b + 2 * (a.Bars.length : Int)), mkBarS b a.Bars.length) := by
  unfold m_laws_markGraph
  simp only [markBarS_eq a.Bars h0 b ⟨by omega, by omega⟩, Option.bind_some]
theorem toFramework_eq (a : TFramework) (h0 : SM a.Graph.Bars.length) (h1 : SM a.Places.length) : m_laws_toFramework a = some a := by
  unfold m_laws_toFramework
  simp only [toGraph_eq a.Graph h0, toPlaceS_eq a.Places h1, Option.bind_some]
theorem eqFramework_refl (a : TFramework) (h0 : SM a.Graph.Bars.length) (h1 : SM a.Places.length) : m_laws_eqFramework a a = some true := by
  unfold m_laws_eqFramework
  simp [eqGraph_refl a.Graph h0, eqPlaceS_refl a.Places h1]
theorem szFramework_some (a : TFramework) (n : Int) : ∃ z, m_laws_szFramework a n = some z := by
  unfold m_laws_szFramework
  obtain ⟨z0, e0⟩ := szGraph_some a.Graph n
  rw [e0, Option.bind_some]
  cases decide (z0 < 0)
  rotate_left
  · exact ⟨_, rfl⟩
  simp only [cond_false]
  obtain ⟨z1, e1⟩ := szPlaceS_some a.Places z0
  rw [e1, Option.bind_some]
  cases decide (z1 < 0)
  rotate_left
  · exact ⟨_, rfl⟩
  simp only [cond_false]
  exact ⟨_, rfl⟩
theorem markFramework_eq (a : TFramework) (h0 : SM a.Graph.Bars.length) (h1 : SM a.Places.length) (b : Int) (hb : 0 ≤ b) (hb2 : b ≤ 274877906944) : m_laws_markFramework a b = some (((b + 2 * (a.Graph.Bars.length : Int)) + 2 * (a.Places.length : Int)), mkBarS b a.Graph.Bars.length, mkPlaceS (b + 2 * (a.Graph.Bars.length : Int)) a.Places.length) := by
  unfold m_laws_markFramework
  simp only [markGraph_eq a.Graph h0 b (by omega) (by omega), markPlaceS_eq a.Places h1 (b + 2 * (a.Graph.Bars.length : Int)) ⟨by omega, by omega⟩, Option.bind_some]
end Go.Proofs.Ytghofbijdnenoaa
end
section
set_option linter.unusedVariables false
set_option linter.unusedSimpArgs false
set_option linter.unnecessarySimpa false
open Go Go.Fw
namespace Go.Proofs.Ytghofbijdnenoaa
theorem l1In_eq (x lo hi : Int) : m_spec_l1In x lo hi = some (decide (lo ≤ x) && decide (x ≤ hi)) := by
  unfold m_spec_l1In
  cases decide (lo ≤ x) <;> simp
theorem within_eq (x lo hi : Int) : m_impl_within x lo hi = some (decide (lo ≤ x) && decide (x ≤ hi)) := by
  unfold m_impl_within
  cases decide (lo ≤ x) <;> simp
theorem compareInts_eq (a b : Int) : m_impl_compareInts a b = some (if a < b then -1 else if b < a then 1 else 0) := by
  unfold m_impl_compareInts
  by_cases h1 : a < b
  · simp [h1]
  · by_cases h2 : b < a <;> simp [h1, h2]
def barGt (x y : TBar) : Bool := decide (y.A < x.A) || (x.A == y.A && decide (y.B < x.B))
theorem compareBars_some (x y : TBar) : ∃ c, m_impl_compareBars x y = some c ∧ decide (0 < c) = barGt x y := by
  unfold m_impl_compareBars barGt
  rw [compareInts_eq, compareInts_eq]
  by_cases h1 : x.A < y.A
  · have h3 : (x.A == y.A) = false := by simp; omega
    exact ⟨-1, by simp [h1], by simp [h3]; omega⟩
  · by_cases h2 : y.A < x.A
    · exact ⟨1, by simp [h1, h2], by simp [h2]⟩
    · have : x.A = y.A := by omega
      by_cases h3 : x.B < y.B
      · exact ⟨-1, by simp [this, h3], by simp [this]; omega⟩
      · by_cases h4 : y.B < x.B
        · exact ⟨1, by simp [this, h3, h4], by simp [this, h4]⟩
        · exact ⟨0, by simp [this, h3, h4], by simp [this]; omega⟩
theorem l2After_eq (x y : TBar) : m_spec_l2After x y = some (!barGt x y) := by
  unfold m_spec_l2After barGt
  by_cases h1 : x.A < y.A
  · have h3 : (x.A == y.A) = false := by simp; omega
    simp [h1, h3]; omega
  · by_cases h2 : y.A < x.A
    · have h3 : (x.A == y.A) = false := by simp; omega
      simp [h1, h2, h3]
    · have : x.A = y.A := by omega
      by_cases h4 : y.B < x.B
      · have h5 : ¬ x.B ≤ y.B := by omega
        simp [this, h4, h5]
      · have h5 : x.B ≤ y.B := by omega
        simp [this, h4, h5]
def badBar (g : TGraph) (k : Nat) : Bool := match g.Bars[k]? with
  | none => false
  | some x => decide (x.A < 0) || decide (x.B ≤ x.A) || decide (g.Points ≤ x.B) || (decide (0 < k) && match g.Bars[k - 1]? with
    | none => false
    | some y => barGt y x)
def vG (g : TGraph) : Bool := decide (1 ≤ g.Points) && decide (g.Points ≤ 8) && !decide (24 < (g.Bars.length : Int)) && !(List.range' 0 g.Bars.length).any (badBar g)
theorem isGraphI_eq (g : TGraph) (h : SM g.Bars.length) : m_impl_IsGraph g = some (vG g) := by
  have e : loopM (m_impl_IsGraph_L1 g) BIG 0 = some (bif (List.range' 0 g.Bars.length).any (badBar g) then .inr false else .inl ()) := by
    refine any_loop0 (badBar g) false g.Bars.length (by omega) (fun k hk => ?_) (by simp [m_impl_IsGraph_L1])
    unfold m_impl_IsGraph_L1 badBar
    rw [decide_eq_true (by omega), cond_true, idx_at hk, Option.bind_some, List.getElem?_eq_getElem hk]
    simp only
    cases decide (g.Bars[k].A < 0)
    · cases decide (g.Bars[k].B ≤ g.Bars[k].A)
      · cases decide (g.Points ≤ g.Bars[k].B)
        · by_cases h0 : 0 < k
          · have e1 : w64 ((k : Int) - 1) = ((k - 1 : Nat) : Int) := by rw [w64_small (by omega) (by omega)]; omega
            obtain ⟨c, hc, hd⟩ := compareBars_some (g.Bars[k - 1]'(by omega)) g.Bars[k]
            rw [decide_eq_true (show (0 : Int) < (k : Int) by omega), decide_eq_true h0, e1, idx_at (show k - 1 < g.Bars.length by omega), List.getElem?_eq_getElem (show k - 1 < g.Bars.length by omega)]
            simp only [cond_false, cond_true, Option.bind_some, hc, hd, Bool.false_or, Bool.true_and]
          · rw [decide_eq_false (show ¬ (0 : Int) < (k : Int) by omega), decide_eq_false h0]
            rfl
        · rfl
      · rfl
    · rfl
  unfold m_impl_IsGraph vG
  rw [within_eq, e]
  simp only [Option.bind_some]
  cases decide (1 ≤ g.Points) && decide (g.Points ≤ 8)
  · rfl
  · cases decide (24 < (g.Bars.length : Int))
    · cases (List.range' 0 g.Bars.length).any (badBar g) <;> rfl
    · rfl
theorem isGraph_L1 (g : TGraph) : m_spec_IsGraph_L1 g = m_impl_IsGraph_L1 g := by
  funext s
  unfold m_spec_IsGraph_L1 m_impl_IsGraph_L1
  have e : ∀ x y, ((m_spec_l2After x y).bind fun r => some (!r)) = (m_impl_compareBars x y).bind fun r => some (decide (0 < r)) := fun x y => by
    obtain ⟨c, hc, hd⟩ := compareBars_some x y
    rw [l2After_eq, hc]
    simp [hd]
  simp only [e]
theorem isGraphS_eq (g : TGraph) (h : SM g.Bars.length) : m_spec_IsGraph g = some (vG g) := by
  rw [← isGraphI_eq g h]
  unfold m_spec_IsGraph m_impl_IsGraph
  rw [l1In_eq, within_eq, isGraph_L1]
structure VG (g : TGraph) : Prop where
  p1 : 1 ≤ g.Points
  p8 : g.Points ≤ 8
  len : g.Bars.length ≤ 24
  a0 : ∀ {k : Nat} {x : TBar}, g.Bars[k]? = some x → 0 ≤ x.A
  ab : ∀ {k : Nat} {x : TBar}, g.Bars[k]? = some x → x.A < x.B
  bp : ∀ {k : Nat} {x : TBar}, g.Bars[k]? = some x → x.B < g.Points
  srt : ∀ {k : Nat} {x y : TBar}, g.Bars[k]? = some x → g.Bars[k + 1]? = some y → barGt x y = false
theorem vG_VG {g : TGraph} (h : vG g = true) : VG g := by
  unfold vG at h
  simp only [Bool.and_eq_true, Bool.not_eq_true', decide_eq_true_eq, decide_eq_false_iff_not] at h
  obtain ⟨⟨⟨h1, h2⟩, h3⟩, h4⟩ := h
  rw [any_range_false] at h4
  have hb : ∀ {k : Nat} {x : TBar}, g.Bars[k]? = some x → 0 ≤ x.A ∧ x.A < x.B ∧ x.B < g.Points ∧ ∀ {y : TBar}, 0 < k → g.Bars[k - 1]? = some y → barGt y x = false := fun {k x} hx => by
    have hk : k < g.Bars.length := (List.getElem?_eq_some_iff.1 hx).1
    have := h4 k (by omega) (by omega)
    unfold badBar at this
    rw [hx] at this
    simp only [Bool.or_eq_false_iff, decide_eq_false_iff_not, Bool.and_eq_false_iff] at this
    obtain ⟨⟨⟨a, b⟩, c⟩, d⟩ := this
    refine ⟨by omega, by omega, by omega, fun {y} hk hy => ?_⟩
    rw [hy] at d
    rcases d with d | d
    · exact absurd hk d
    · exact d
  exact ⟨h1, h2, by omega, fun hx => (hb hx).1, fun hx => (hb hx).2.1, fun hx => (hb hx).2.2.1, fun {k x y} hx hy => (hb hy).2.2.2 (by omega) (by simpa using hx)⟩
theorem VG.sm {g : TGraph} (h : VG g) : SM g.Bars.length := by have := h.len; omega
def hasI (l : List Int) (x : Int) : Bool := l.any (· == x)
def atB {α : Type} (l : List α) (p : α → Bool) (k : Nat) : Bool := match l[k]? with
  | some x => p x
  | none => false
theorem atB_at {α : Type} {l : List α} {k : Nat} (h : k < l.length) (p : α → Bool) : atB l p k = p l[k] := by simp [atB, h]
theorem range_any {α : Type} (l : List α) (p : α → Bool) : (List.range' 0 l.length).any (atB l p) = l.any p := by
  induction l with
  | nil => rfl
  | cons x r ih =>
    rw [List.length_cons, List.range'_succ, List.any_cons, List.any_cons]
    congr 1
    rw [← ih, List.range'_eq_map_range, List.range'_eq_map_range, List.any_map, List.any_map]
    congr 1
    funext k
    simp [Function.comp, Nat.add_comm, atB]
theorem l2Has_eq (l : List Int) (h : SM l.length) (x : Int) : m_spec_l2Has l x = some (hasI l x) := by
  have e := any_loop0 (b := m_spec_l2Has_L1 l x) (atB l (· == x)) true l.length (by omega) (fun k hk => by
    unfold m_spec_l2Has_L1
    rw [decide_eq_true (by omega), cond_true, idx_at hk, Option.bind_some, atB_at hk]) (by simp [m_spec_l2Has_L1])
  unfold m_spec_l2Has hasI
  rw [e, range_any]
  cases l.any (· == x) <;> rfl
theorem index_eq (l : List Int) (h : SM l.length) (v : Int) : ∃ i, m_slices_Index l v = some i ∧ decide (0 ≤ i) = hasI l v ∧ (i = -1 ∨ ∃ k : Nat, i = k ∧ l[k]? = some v ∧ ∀ j, j < k → l[j]? ≠ some v) := by
  obtain ⟨r, hr, hq⟩ := loop_inv (b := m_slices_Index_L1 l v) (s := 0) (fun k s => s = (k : Int) ∧ ∀ j, j < k → l[j]? ≠ some v)
    (fun r => match r with | .inl _ => ∀ j, j < l.length → l[j]? ≠ some v | .inr i => ∃ k : Nat, i = k ∧ l[k]? = some v ∧ ∀ j, j < k → l[j]? ≠ some v) l.length (by omega) ⟨rfl, fun j hj => by omega⟩ (fun k s hk hs => by
    obtain ⟨rfl, hs⟩ := hs
    unfold m_slices_Index_L1
    rw [decide_eq_true (by omega), cond_true, idx_at hk, Option.bind_some]
    cases hv : v == l[k] with
    | true => exact .inr ⟨_, rfl, k, rfl, by rw [List.getElem?_eq_getElem hk, eq_of_beq hv], hs⟩
    | false =>
      refine .inl ⟨_, rfl, w64_succ (by omega), fun j hj => ?_⟩
      by_cases hjk : j = k
      · subst hjk
        rw [List.getElem?_eq_getElem hk]
        intro h2
        injection h2 with h2
        rw [h2] at hv
        simp at hv
      · exact hs j (by omega)) (fun s hs => by
    obtain ⟨rfl, hs⟩ := hs
    exact ⟨.inl (), by simp [m_slices_Index_L1], hs⟩)
  unfold m_slices_Index
  rw [hr]
  rcases r with ⟨⟨⟩⟩ | i
  · refine ⟨-1, rfl, ?_, .inl rfl⟩
    unfold hasI
    have : l.any (· == v) = false := by
      rw [← Bool.not_eq_true, List.any_eq_true]
      rintro ⟨x, hx, h2⟩
      obtain ⟨j, hj, rfl⟩ := List.mem_iff_getElem.1 hx
      exact hq j hj (by rw [List.getElem?_eq_getElem hj, eq_of_beq h2])
    rw [this]
    rfl
  · obtain ⟨k, rfl, h1, h2⟩ := hq
    refine ⟨k, rfl, ?_, .inr ⟨k, rfl, h1, h2⟩⟩
    rw [decide_eq_true (by omega)]
    unfold hasI
    symm
    rw [List.any_eq_true]
    exact ⟨v, List.mem_of_getElem? h1, by simp⟩
theorem contains_eq (l : List Int) (h : SM l.length) (x : Int) : m_slices_Contains l x = some (hasI l x) := by
  obtain ⟨i, h1, h2, _⟩ := index_eq l h x
  unfold m_slices_Contains
  rw [h1, Option.bind_some, h2]
end Go.Proofs.Ytghofbijdnenoaa
end
section
set_option linter.unusedVariables false
set_option linter.unusedSimpArgs false
set_option linter.unnecessarySimpa false
open Go Go.Fw
namespace Go.Proofs.Ytghofbijdnenoaa
theorem idx_in {α : Type} {l : List α} {i : Int} (d : α) (h0 : 0 ≤ i) (h1 : i < (l.length : Int)) : idx l i = some ((l[i.toNat]?).getD d) := by
  unfold idx
  rw [if_pos h0, List.getElem?_eq_getElem (by omega)]
  rfl
def plAt (f : TFramework) (v : Int) : TPlace := (f.Places[v.toNat]?).getD ⟨0, 0⟩
def onGrid (p : TPlace) : Bool := (decide (0 ≤ p.X) && decide (p.X ≤ 4)) && (decide (0 ≤ p.Y) && decide (p.Y ≤ 4))
theorem isPlace_eq (p : TPlace) : m_impl_isPlace p = some (onGrid p) := by
  unfold m_impl_isPlace onGrid
  rw [within_eq, within_eq]
  simp only [Option.bind_some]
  cases decide (0 ≤ p.X) && decide (p.X ≤ 4) <;> rfl
def badLen (f : TFramework) (k : Nat) : Bool := match f.Graph.Bars[k]? with
  | none => false
  | some x => eqI [(plAt f x.A).X, (plAt f x.A).Y] [(plAt f x.B).X, (plAt f x.B).Y] || (decide (0 < k) && match f.Graph.Bars[k - 1]? with
    | none => false
    | some y => eqI [y.A, y.B] [x.A, x.B])
def vF (f : TFramework) : Bool := vG f.Graph && !decide (6 < f.Graph.Points) && !((f.Places.length : Int) != f.Graph.Points) && !decide (15 < (f.Graph.Bars.length : Int)) && !(List.range' 0 f.Places.length).any (atB f.Places fun p => !onGrid p) && !(List.range' 0 f.Graph.Bars.length).any (badLen f)
theorem isFI_L1 (f : TFramework) (h : SM f.Places.length) : loopM (m_impl_IsFramework_L1 f) BIG 0 = some (bif (List.range' 0 f.Places.length).any (atB f.Places fun p => !onGrid p) then .inr false else .inl ()) := by
  refine any_loop0 _ false f.Places.length (by omega) (fun k hk => ?_) (by simp [m_impl_IsFramework_L1])
  unfold m_impl_IsFramework_L1
  rw [decide_eq_true (by omega), cond_true, idx_at hk, Option.bind_some, atB_at hk, isPlace_eq, Option.bind_some]
theorem isFS_L1 (f : TFramework) (h : SM f.Places.length) : loopM (m_spec_IsFramework_L1 f) BIG 0 = some (bif (List.range' 0 f.Places.length).any (atB f.Places fun p => !onGrid p) then .inr false else .inl ()) := by
  refine any_loop0 _ false f.Places.length (by omega) (fun k hk => ?_) (by simp [m_spec_IsFramework_L1])
  unfold m_spec_IsFramework_L1 onGrid
  rw [decide_eq_true (by omega), cond_true, idx_at hk, atB_at hk]
  simp only [l1In_eq, Option.bind_some]
  cases decide (0 ≤ f.Places[k].X) && decide (f.Places[k].X ≤ 4) <;> rfl
theorem isFI_L2 (f : TFramework) (hv : VG f.Graph) (hp : (f.Places.length : Int) = f.Graph.Points) : loopM (m_impl_IsFramework_L2 f) BIG 0 = some (bif (List.range' 0 f.Graph.Bars.length).any (badLen f) then .inr false else .inl ()) := by
  refine any_loop0 _ false f.Graph.Bars.length (by have := hv.len; omega) (fun k hk => ?_) (by simp [m_impl_IsFramework_L2])
  have hx := List.getElem?_eq_getElem hk
  have a0 := hv.a0 hx
  have ab := hv.ab hx
  have bp := hv.bp hx
  unfold m_impl_IsFramework_L2 badLen
  rw [decide_eq_true (by omega), cond_true, idx_at hk, Option.bind_some, hx]
  simp only [idx_in (⟨0, 0⟩ : TPlace) a0 (show f.Graph.Bars[k].A < (f.Places.length : Int) by omega), idx_in (⟨0, 0⟩ : TPlace) (show 0 ≤ f.Graph.Bars[k].B by omega) (show f.Graph.Bars[k].B < (f.Places.length : Int) by omega), Option.bind_some]
  by_cases h0 : 0 < k
  · have hl := hv.len
    have e1 : w64 ((k : Int) - 1) = ((k - 1 : Nat) : Int) := by rw [w64_small (by omega) (by omega)]; omega
    rw [decide_eq_true (show (0 : Int) < (k : Int) by omega), decide_eq_true h0, cond_true, e1, idx_at (show k - 1 < f.Graph.Bars.length by omega), Option.bind_some, List.getElem?_eq_getElem (show k - 1 < f.Graph.Bars.length by omega)]
    simp only [Bool.true_and, plAt]
    cases eqI [f.Graph.Bars[k - 1].A, f.Graph.Bars[k - 1].B] [f.Graph.Bars[k].A, f.Graph.Bars[k].B] <;> simp
  · rw [decide_eq_false (show ¬ (0 : Int) < (k : Int) by omega), decide_eq_false h0]
    simp [plAt]
theorem isFS_L2 (f : TFramework) (hv : VG f.Graph) (hp : (f.Places.length : Int) = f.Graph.Points) : loopM (m_spec_IsFramework_L2 f) BIG 0 = some (bif (List.range' 0 f.Graph.Bars.length).any (badLen f) then .inr false else .inl ()) := by
  refine any_loop0 _ false f.Graph.Bars.length (by have := hv.len; omega) (fun k hk => ?_) (by simp [m_spec_IsFramework_L2])
  have hx := List.getElem?_eq_getElem hk
  have a0 := hv.a0 hx
  have ab := hv.ab hx
  have bp := hv.bp hx
  unfold m_spec_IsFramework_L2 badLen
  rw [decide_eq_true (by omega), cond_true, idx_at hk, Option.bind_some, hx]
  simp only [idx_in (⟨0, 0⟩ : TPlace) a0 (show f.Graph.Bars[k].A < (f.Places.length : Int) by omega), idx_in (⟨0, 0⟩ : TPlace) (show 0 ≤ f.Graph.Bars[k].B by omega) (show f.Graph.Bars[k].B < (f.Places.length : Int) by omega), Option.bind_some]
  by_cases h0 : 0 < k
  · have hl := hv.len
    have e1 : w64 ((k : Int) - 1) = ((k - 1 : Nat) : Int) := by rw [w64_small (by omega) (by omega)]; omega
    rw [decide_eq_true (show (0 : Int) < (k : Int) by omega), decide_eq_true h0, cond_true, e1, idx_at (show k - 1 < f.Graph.Bars.length by omega), Option.bind_some, List.getElem?_eq_getElem (show k - 1 < f.Graph.Bars.length by omega)]
    simp only [Bool.true_and, plAt]
    generalize eqI [((f.Places[f.Graph.Bars[k].A.toNat]?).getD ⟨0, 0⟩).X, _] _ = c
    cases c <;> simp
  · rw [decide_eq_false (show ¬ (0 : Int) < (k : Int) by omega), decide_eq_false h0]
    simp only [cond_false, Bool.false_and, Bool.or_false, plAt]
    generalize eqI [((f.Places[f.Graph.Bars[k].A.toNat]?).getD ⟨0, 0⟩).X, _] _ = c
    cases c <;> simp
theorem bne_int {a b : Int} : (a != b) = false ↔ a = b := by simp
theorem isFI_eq (f : TFramework) (h : SM f.Graph.Bars.length) (h2 : SM f.Places.length) : m_impl_IsFramework f = some (vF f) := by
  unfold m_impl_IsFramework vF
  rw [isGraphI_eq _ h, isFI_L1 f h2]
  cases hg : vG f.Graph
  · rfl
  · cases decide (6 < f.Graph.Points)
    · cases decide (15 < (f.Graph.Bars.length : Int))
      · cases hp : ((f.Places.length : Int) != f.Graph.Points)
        · rw [isFI_L2 f (vG_VG hg) (bne_int.1 hp)]
          cases (List.range' 0 f.Places.length).any (atB f.Places fun p => !onGrid p)
          · cases (List.range' 0 f.Graph.Bars.length).any (badLen f) <;> rfl
          · rfl
        · rfl
      · cases ((f.Places.length : Int) != f.Graph.Points) <;> rfl
    · rfl
theorem isFS_eq (f : TFramework) (h : SM f.Graph.Bars.length) (h2 : SM f.Places.length) : m_spec_IsFramework f = some (vF f) := by
  unfold m_spec_IsFramework vF
  rw [isGraphS_eq _ h, isFS_L1 f h2]
  cases hg : vG f.Graph
  · rfl
  · cases decide (6 < f.Graph.Points)
    · cases hp : ((f.Places.length : Int) != f.Graph.Points)
      · cases decide (15 < (f.Graph.Bars.length : Int))
        · rw [isFS_L2 f (vG_VG hg) (bne_int.1 hp)]
          cases (List.range' 0 f.Places.length).any (atB f.Places fun p => !onGrid p)
          · cases (List.range' 0 f.Graph.Bars.length).any (badLen f) <;> rfl
          · rfl
        · rfl
      · rfl
    · rfl
structure VF (f : TFramework) : Prop where
  g : VG f.Graph
  p6 : f.Graph.Points ≤ 6
  len : f.Graph.Bars.length ≤ 15
  pls : (f.Places.length : Int) = f.Graph.Points
  grid : ∀ {k : Nat} {p : TPlace}, f.Places[k]? = some p → 0 ≤ p.X ∧ p.X ≤ 4 ∧ 0 ≤ p.Y ∧ p.Y ≤ 4
  dif : ∀ {k : Nat} {x : TBar}, f.Graph.Bars[k]? = some x → eqI [(plAt f x.A).X, (plAt f x.A).Y] [(plAt f x.B).X, (plAt f x.B).Y] = false
  nod : ∀ {k : Nat} {x y : TBar}, f.Graph.Bars[k]? = some x → f.Graph.Bars[k + 1]? = some y → eqI [x.A, x.B] [y.A, y.B] = false
theorem vF_VF {f : TFramework} (h : vF f = true) : VF f := by
  unfold vF at h
  simp only [Bool.and_eq_true, Bool.not_eq_true', decide_eq_false_iff_not] at h
  obtain ⟨⟨⟨⟨⟨h1, h2⟩, h3⟩, h4⟩, h5⟩, h6⟩ := h
  rw [any_range_false] at h5 h6
  refine ⟨vG_VG h1, by omega, by omega, bne_int.1 h3, fun {k p} hk => ?_, fun {k x} hk => ?_, fun {k x y} hx hy => ?_⟩
  · have hl := (List.getElem?_eq_some_iff.1 hk).1
    have := h5 k (by omega) (by omega)
    unfold atB at this
    rw [hk] at this
    simp only [Bool.not_eq_false', onGrid, Bool.and_eq_true, decide_eq_true_eq] at this
    exact ⟨this.1.1, this.1.2, this.2.1, this.2.2⟩
  · have hl := (List.getElem?_eq_some_iff.1 hk).1
    have := h6 k (by omega) (by omega)
    unfold badLen at this
    rw [hk] at this
    simp only [Bool.or_eq_false_iff] at this
    exact this.1
  · have hl := (List.getElem?_eq_some_iff.1 hy).1
    have := h6 (k + 1) (by omega) (by omega)
    unfold badLen at this
    rw [hy] at this
    simp only [Bool.or_eq_false_iff, Nat.add_sub_cancel, hx] at this
    simpa using this.2
theorem VF.pl_in {f : TFramework} (h : VF f) {v : Int} (h0 : 0 ≤ v) (h1 : v < f.Graph.Points) : idx f.Places v = some (plAt f v) := idx_in _ h0 (by have := h.pls; omega)
theorem VF.pl_grid {f : TFramework} (h : VF f) {v : Int} (h0 : 0 ≤ v) (h1 : v < f.Graph.Points) : 0 ≤ (plAt f v).X ∧ (plAt f v).X ≤ 4 ∧ 0 ≤ (plAt f v).Y ∧ (plAt f v).Y ≤ 4 := by
  have hp := h.pls
  have hl : v.toNat < f.Places.length := by omega
  have e : f.Places[v.toNat]? = some (plAt f v) := by unfold plAt; rw [List.getElem?_eq_getElem hl]; rfl
  exact h.grid e
end Go.Proofs.Ytghofbijdnenoaa
end
section
set_option linter.unusedVariables false
set_option linter.unusedSimpArgs false
set_option linter.unnecessarySimpa false
open Go Go.Fw
namespace Go.Proofs.Ytghofbijdnenoaa
def nameStep (set : List Int) (k : Nat) (a : List Int × Nat) : List Int × Nat := bif hasI set k then (a.1 ++ [-1], a.2) else (a.1 ++ [(a.2 : Int)], a.2 + 1)
def names (set : List Int) (n : Nat) : List Int × Nat := iter (nameStep set) n ([], 0)
def nm (l : List Int) (v : Int) : Int := (l[v.toNat]?).getD 0
end Go.Proofs.Ytghofbijdnenoaa
end
section
set_option linter.unusedVariables false
set_option linter.unusedSimpArgs false
set_option linter.unnecessarySimpa false
open Go Go.Fw
namespace Go.Proofs.Ytghofbijdnenoaa
theorem copyInts_eq (l : List Int) (h : SM l.length) : m_impl_copyInts l = some l := by
  unfold m_impl_copyInts
  rw [lim_ok (by simp; omega)]
  rfl
structure VV (f : TFramework) (v : List Int) : Prop where
  fr : VF f
  len : (v.length : Int) = 2 * f.Graph.Points
  sm : ∀ {k : Nat} {x : Int}, v[k]? = some x → -10000000000 ≤ x ∧ x ≤ 10000000000
def gv (v : List Int) (i : Int) : Int := (v[i.toNat]?).getD 0
theorem VV.lt {f : TFramework} {v : List Int} (h : VV f v) {i : Int} (h0 : 0 ≤ i) (h1 : i < 2 * f.Graph.Points) : -10000000000 ≤ gv v i ∧ gv v i ≤ 10000000000 := by
  have hl := h.len
  have hn : i.toNat < v.length := by omega
  refine h.sm (k := i.toNat) ?_
  unfold gv
  rw [List.getElem?_eq_getElem hn]
  rfl
def otherE (x : TBar) (v : Int) : Int := bif x.A == v then x.B else x.A
end Go.Proofs.Ytghofbijdnenoaa
end
section
set_option linter.unusedVariables false
set_option linter.unusedSimpArgs false
set_option linter.unnecessarySimpa false
namespace Go.Mx
abbrev Ext := List Bool → Int
def wed : List Int → Ext → Ext
  | [], _, _ => 0
  | s :: v, x, m => match m with
    | [] => 0
    | false :: m => wed v (fun m => x (false :: m)) m
    | true :: m => s * x (false :: m) - wed v (fun m => x (true :: m)) m
def con : List Int → Ext → Ext
  | [], _, _ => 0
  | t :: u, x, m => match m with
    | [] => 0
    | false :: m => con u (fun m => x (false :: m)) m + t * x (true :: m)
    | true :: m => - con u (fun m => x (true :: m)) m
def dot : List Int → List Int → Int
  | a :: u, b :: v => a * b + dot u v
  | _, _ => 0
theorem wed_congr : ∀ (v : List Int) (x y : Ext) (m : List Bool), (∀ k : List Bool, k.length = m.length → x k = y k) → wed v x m = wed v y m
  | [], x, y, m, h => rfl
  | s :: v, x, y, [], h => rfl
  | s :: v, x, y, false :: m, h => wed_congr v _ _ m fun k hk => h (false :: k) (by simp [hk])
  | s :: v, x, y, true :: m, h => by
    show s * x (false :: m) - wed v (fun m => x (true :: m)) m = s * y (false :: m) - wed v (fun m => y (true :: m)) m
    rw [h (false :: m) (by simp), wed_congr v (fun m => x (true :: m)) (fun m => y (true :: m)) m fun k hk => h (true :: k) (by simp [hk])]
theorem con_congr : ∀ (v : List Int) (x y : Ext) (m : List Bool), (∀ k : List Bool, k.length = m.length → x k = y k) → con v x m = con v y m
  | [], x, y, m, h => rfl
  | s :: v, x, y, [], h => rfl
  | s :: v, x, y, false :: m, h => by
    show con v (fun m => x (false :: m)) m + s * x (true :: m) = con v (fun m => y (false :: m)) m + s * y (true :: m)
    rw [h (true :: m) (by simp), con_congr v (fun m => x (false :: m)) (fun m => y (false :: m)) m fun k hk => h (false :: k) (by simp [hk])]
  | s :: v, x, y, true :: m, h => by
    show - con v (fun m => x (true :: m)) m = - con v (fun m => y (true :: m)) m
    rw [con_congr v (fun m => x (true :: m)) (fun m => y (true :: m)) m fun k hk => h (true :: k) (by simp [hk])]
theorem wed_lin (a b : Int) : ∀ (v : List Int) (x y : Ext) (m : List Bool), wed v (fun m => a * x m + b * y m) m = a * wed v x m + b * wed v y m
  | [], x, y, m => by simp [wed]
  | s :: v, x, y, [] => by simp [wed]
  | s :: v, x, y, false :: m => wed_lin a b v (fun m => x (false :: m)) (fun m => y (false :: m)) m
  | s :: v, x, y, true :: m => by
    have h := wed_lin a b v (fun m => x (true :: m)) (fun m => y (true :: m)) m
    show s * (a * x (false :: m) + b * y (false :: m)) - wed v (fun m => a * x (true :: m) + b * y (true :: m)) m = a * (s * x (false :: m) - wed v (fun m => x (true :: m)) m) + b * (s * y (false :: m) - wed v (fun m => y (true :: m)) m)
    rw [h]
    grind
theorem con_lin (a b : Int) : ∀ (v : List Int) (x y : Ext) (m : List Bool), con v (fun m => a * x m + b * y m) m = a * con v x m + b * con v y m
  | [], x, y, m => by simp [con]
  | s :: v, x, y, [] => by simp [con]
  | s :: v, x, y, false :: m => by
    have h := con_lin a b v (fun m => x (false :: m)) (fun m => y (false :: m)) m
    show con v (fun m => a * x (false :: m) + b * y (false :: m)) m + s * (a * x (true :: m) + b * y (true :: m)) = a * (con v (fun m => x (false :: m)) m + s * x (true :: m)) + b * (con v (fun m => y (false :: m)) m + s * y (true :: m))
    rw [h]
    grind
  | s :: v, x, y, true :: m => by
    have h := con_lin a b v (fun m => x (true :: m)) (fun m => y (true :: m)) m
    show - con v (fun m => a * x (true :: m) + b * y (true :: m)) m = a * (- con v (fun m => x (true :: m)) m) + b * (- con v (fun m => y (true :: m)) m)
    rw [h]
    grind
theorem wed_zero (v : List Int) (x : Ext) (m : List Bool) (h : ∀ k : List Bool, k.length = m.length → x k = 0) : wed v x m = 0 := by
  rw [wed_congr v x (fun m => 0 * x m + 0 * x m) m fun k hk => by rw [h k hk]; rfl, wed_lin]
  grind
theorem con_zero (v : List Int) (x : Ext) (m : List Bool) (h : ∀ k : List Bool, k.length = m.length → x k = 0) : con v x m = 0 := by
  rw [con_congr v x (fun m => 0 * x m + 0 * x m) m fun k hk => by rw [h k hk]; rfl, con_lin]
  grind
theorem wed_neg (v : List Int) (x : Ext) (m : List Bool) : wed v (fun m => - x m) m = - wed v x m := by
  rw [wed_congr v (fun m => - x m) (fun m => (-1) * x m + 0 * x m) m fun k hk => by grind, wed_lin]
  grind
theorem con_neg (v : List Int) (x : Ext) (m : List Bool) : con v (fun m => - x m) m = - con v x m := by
  rw [con_congr v (fun m => - x m) (fun m => (-1) * x m + 0 * x m) m fun k hk => by grind, con_lin]
  grind
theorem wed_add (t : Int) (v : List Int) (x y : Ext) (m : List Bool) : wed v (fun m => x m + t * y m) m = wed v x m + t * wed v y m := by
  rw [wed_congr v (fun m => x m + t * y m) (fun m => 1 * x m + t * y m) m fun k hk => by grind, wed_lin]
  grind
theorem con_add (t : Int) (v : List Int) (x y : Ext) (m : List Bool) : con v (fun m => x m + t * y m) m = con v x m + t * con v y m := by
  rw [con_congr v (fun m => x m + t * y m) (fun m => 1 * x m + t * y m) m fun k hk => by grind, con_lin]
  grind
theorem wed_sub (t : Int) (v : List Int) (x y : Ext) (m : List Bool) : wed v (fun m => t * x m - y m) m = t * wed v x m - wed v y m := by
  rw [wed_congr v (fun m => t * x m - y m) (fun m => t * x m + (-1) * y m) m fun k hk => by grind, wed_lin]
  grind
theorem con_sub (t : Int) (v : List Int) (x y : Ext) (m : List Bool) : con v (fun m => t * x m - y m) m = t * con v x m - con v y m := by
  rw [con_congr v (fun m => t * x m - y m) (fun m => t * x m + (-1) * y m) m fun k hk => by grind, con_lin]
  grind
theorem con_wed : ∀ (u v : List Int) (x : Ext) (m : List Bool), u.length = m.length → v.length = m.length → con u (wed v x) m + wed v (con u x) m = dot u v * x m
  | [], [], x, m, _, _ => by simp [con, wed, dot]
  | t :: u, s :: v, x, [], h, _ => by cases h
  | [], s :: v, x, m, h1, h2 => by simp at h1 h2; omega
  | t :: u, [], x, m, h1, h2 => by simp at h1 h2; omega
  | t :: u, s :: v, x, false :: m, h1, h2 => by
    have ih := con_wed u v (fun m => x (false :: m)) m (by simpa using h1) (by simpa using h2)
    have e1 := wed_add t v (con u fun m => x (false :: m)) (fun m => x (true :: m)) m
    show con u (wed v fun m => x (false :: m)) m + t * (s * x (false :: m) - wed v (fun m => x (true :: m)) m) + wed v (fun m => con u (fun m => x (false :: m)) m + t * x (true :: m)) m = (t * s + dot u v) * x (false :: m)
    rw [e1]
    grind
  | t :: u, s :: v, x, true :: m, h1, h2 => by
    have ih := con_wed u v (fun m => x (true :: m)) m (by simpa using h1) (by simpa using h2)
    have e1 := con_sub s u (fun m => x (false :: m)) (wed v fun m => x (true :: m)) m
    have e2 := wed_neg v (con u fun m => x (true :: m)) m
    show - con u (fun m => s * x (false :: m) - wed v (fun m => x (true :: m)) m) m + (s * (con u (fun m => x (false :: m)) m + t * x (true :: m)) - wed v (fun m => - con u (fun m => x (true :: m)) m) m) = (t * s + dot u v) * x (true :: m)
    rw [e1, e2]
    grind
theorem wed_wed : ∀ (u v : List Int) (x : Ext) (m : List Bool), u.length = m.length → v.length = m.length → wed u (wed v x) m = - wed v (wed u x) m
  | [], [], x, m, _, _ => by simp [wed]
  | t :: u, s :: v, x, [], h, _ => by cases h
  | [], s :: v, x, m, h1, h2 => by simp at h1 h2; omega
  | t :: u, [], x, m, h1, h2 => by simp at h1 h2; omega
  | t :: u, s :: v, x, false :: m, h1, h2 => wed_wed u v (fun m => x (false :: m)) m (by simpa using h1) (by simpa using h2)
  | t :: u, s :: v, x, true :: m, h1, h2 => by
    have ih := wed_wed u v (fun m => x (true :: m)) m (by simpa using h1) (by simpa using h2)
    have e1 := wed_sub s u (fun m => x (false :: m)) (wed v fun m => x (true :: m)) m
    have e2 := wed_sub t v (fun m => x (false :: m)) (wed u fun m => x (true :: m)) m
    show t * wed v (fun m => x (false :: m)) m - wed u (fun m => s * x (false :: m) - wed v (fun m => x (true :: m)) m) m = - (s * wed u (fun m => x (false :: m)) m - wed v (fun m => t * x (false :: m) - wed u (fun m => x (true :: m)) m) m)
    rw [e1, e2]
    grind
theorem con_con : ∀ (u v : List Int) (x : Ext) (m : List Bool), u.length = m.length → v.length = m.length → con u (con v x) m = - con v (con u x) m
  | [], [], x, m, _, _ => by simp [con]
  | t :: u, s :: v, x, [], h, _ => by cases h
  | [], s :: v, x, m, h1, h2 => by simp at h1 h2; omega
  | t :: u, [], x, m, h1, h2 => by simp at h1 h2; omega
  | t :: u, s :: v, x, false :: m, h1, h2 => by
    have ih := con_con u v (fun m => x (false :: m)) m (by simpa using h1) (by simpa using h2)
    have e1 := con_add s u (con v fun m => x (false :: m)) (fun m => x (true :: m)) m
    have e2 := con_add t v (con u fun m => x (false :: m)) (fun m => x (true :: m)) m
    show con u (fun m => con v (fun m => x (false :: m)) m + s * x (true :: m)) m + t * (- con v (fun m => x (true :: m)) m) = - (con v (fun m => con u (fun m => x (false :: m)) m + t * x (true :: m)) m + s * (- con u (fun m => x (true :: m)) m))
    rw [e1, e2]
    grind
  | t :: u, s :: v, x, true :: m, h1, h2 => by
    have ih := con_con u v (fun m => x (true :: m)) m (by simpa using h1) (by simpa using h2)
    have e1 := con_neg u (con v fun m => x (true :: m)) m
    have e2 := con_neg v (con u fun m => x (true :: m)) m
    show - con u (fun m => - con v (fun m => x (true :: m)) m) m = - - con v (fun m => - con u (fun m => x (true :: m)) m) m
    rw [e1, e2]
    grind
theorem wed_vlin (a b : Int) : ∀ (u v y : List Int) (x : Ext) (m : List Bool), u.length = y.length → v.length = y.length → (∀ k : Nat, y.getD k 0 = a * u.getD k 0 + b * v.getD k 0) → wed y x m = a * wed u x m + b * wed v x m
  | [], [], [], x, m, _, _, _ => by simp [wed]
  | t :: u, s :: v, r :: y, x, [], _, _, _ => by simp [wed]
  | t :: u, s :: v, r :: y, x, false :: m, h1, h2, h3 => wed_vlin a b u v y (fun m => x (false :: m)) m (by simpa using h1) (by simpa using h2) fun k => by simpa using h3 (k + 1)
  | t :: u, s :: v, r :: y, x, true :: m, h1, h2, h3 => by
    have ih := wed_vlin a b u v y (fun m => x (true :: m)) m (by simpa using h1) (by simpa using h2) fun k => by simpa using h3 (k + 1)
    have h0 : r = a * t + b * s := by simpa using h3 0
    show r * x (false :: m) - wed y (fun m => x (true :: m)) m = a * (t * x (false :: m) - wed u (fun m => x (true :: m)) m) + b * (s * x (false :: m) - wed v (fun m => x (true :: m)) m)
    rw [ih, h0]
    grind
  | [], _ :: _, [], _, _, _, h, _ => by cases h
  | _ :: _, [], [], _, _, h, _, _ => by cases h
  | _ :: _, _ :: _, [], _, _, h, _, _ => by cases h
  | [], _, _ :: _, _, _, h, _, _ => by cases h
  | _ :: _, [], _ :: _, _, _, _, h, _ => by cases h
def ip : Nat → Ext → Ext → Int
  | 0, x, y => x [] * y []
  | n + 1, x, y => ip n (fun m => x (false :: m)) (fun m => y (false :: m)) + ip n (fun m => x (true :: m)) (fun m => y (true :: m))
theorem ip_congr : ∀ (n : Nat) (x x' y y' : Ext), (∀ m : List Bool, m.length = n → x m = x' m) → (∀ m : List Bool, m.length = n → y m = y' m) → ip n x y = ip n x' y'
  | 0, x, x', y, y', h1, h2 => by simp [ip, h1 [] rfl, h2 [] rfl]
  | n + 1, x, x', y, y', h1, h2 => by
    unfold ip
    rw [ip_congr n _ _ _ _ (fun m hm => h1 (false :: m) (by simp [hm])) fun m hm => h2 (false :: m) (by simp [hm]), ip_congr n _ _ _ _ (fun m hm => h1 (true :: m) (by simp [hm])) fun m hm => h2 (true :: m) (by simp [hm])]
theorem ip_lin (a b : Int) : ∀ (n : Nat) (x y z : Ext), ip n z (fun m => a * x m + b * y m) = a * ip n z x + b * ip n z y
  | 0, x, y, z => by simp only [ip]; grind
  | n + 1, x, y, z => by
    have h1 := ip_lin a b n (fun m => x (false :: m)) (fun m => y (false :: m)) (fun m => z (false :: m))
    have h2 := ip_lin a b n (fun m => x (true :: m)) (fun m => y (true :: m)) (fun m => z (true :: m))
    unfold ip
    rw [h1, h2]
    grind
theorem ip_comm : ∀ (n : Nat) (x y : Ext), ip n x y = ip n y x
  | 0, x, y => Int.mul_comm ..
  | n + 1, x, y => by
    unfold ip
    rw [ip_comm n, ip_comm n (fun m => x (true :: m))]
theorem ip_add (t : Int) (n : Nat) (x y z : Ext) : ip n z (fun m => x m + t * y m) = ip n z x + t * ip n z y := by
  rw [ip_congr n z z (fun m => x m + t * y m) (fun m => 1 * x m + t * y m) (fun _ _ => rfl) fun m _ => by grind, ip_lin]
  grind
theorem ip_sub (t : Int) (n : Nat) (x y z : Ext) : ip n z (fun m => t * x m - y m) = t * ip n z x - ip n z y := by
  rw [ip_congr n z z (fun m => t * x m - y m) (fun m => t * x m + (-1) * y m) (fun _ _ => rfl) fun m _ => by grind, ip_lin]
  grind
theorem ip_neg (n : Nat) (x z : Ext) : ip n z (fun m => - x m) = - ip n z x := by
  rw [ip_congr n z z (fun m => - x m) (fun m => (-1) * x m + 0 * x m) (fun _ _ => rfl) fun m _ => by grind, ip_lin]
  grind
theorem adj : ∀ (n : Nat) (v : List Int) (x y : Ext), v.length = n → ip n (wed v x) y = ip n x (con v y)
  | 0, [], x, y, _ => by simp [ip, wed, con]
  | n + 1, s :: v, x, y, h => by
    have h1 := adj n v (fun m => x (false :: m)) (fun m => y (false :: m)) (by simpa using h)
    have h2 := adj n v (fun m => x (true :: m)) (fun m => y (true :: m)) (by simpa using h)
    show ip n (wed v fun m => x (false :: m)) (fun m => y (false :: m)) + ip n (fun m => s * x (false :: m) - wed v (fun m => x (true :: m)) m) (fun m => y (true :: m)) = ip n (fun m => x (false :: m)) (fun m => con v (fun m => y (false :: m)) m + s * y (true :: m)) + ip n (fun m => x (true :: m)) (fun m => - con v (fun m => y (true :: m)) m)
    rw [h1, ip_comm n (fun m => s * x (false :: m) - wed v (fun m => x (true :: m)) m), ip_sub, ip_comm n (fun m => y (true :: m)) (wed v fun m => x (true :: m)), h2, ip_add, ip_neg, ip_comm n (fun m => y (true :: m))]
    grind
  | 0, _ :: _, _, _, h => by cases h
  | _ + 1, [], _, _, h => by cases h
def nrm (n : Nat) (x : Ext) : Int := ip n x x
theorem nrm_nonneg : ∀ (n : Nat) (x : Ext), 0 ≤ nrm n x
  | 0, x => by
    show 0 ≤ x [] * x []
    rcases Int.le_total 0 (x []) with h | h
    · exact Int.mul_nonneg h h
    · exact Int.mul_nonneg_of_nonpos_of_nonpos h h
  | n + 1, x => Int.add_nonneg (nrm_nonneg n _) (nrm_nonneg n _)
theorem nrm_wed (n : Nat) (v : List Int) (x : Ext) (h : v.length = n) : nrm n (wed v x) + nrm n (con v x) = dot v v * nrm n x := by
  unfold nrm
  rw [adj n v x _ h]
  have h1 : ip n x (con v (wed v x)) = ip n x (fun m => dot v v * x m - wed v (con v x) m) := ip_congr n _ _ _ _ (fun _ _ => rfl) fun m hm => by
    have := con_wed v v x m (by omega) (by omega)
    omega
  rw [h1, ip_sub, ip_comm n x (wed v (con v x)), adj n v _ _ h]
  omega
theorem nrm_wed_le (n : Nat) (v : List Int) (x : Ext) (h : v.length = n) : nrm n (wed v x) ≤ dot v v * nrm n x := by
  have := nrm_wed n v x h
  have := nrm_nonneg n (con v x)
  omega
theorem nrm_con_le (n : Nat) (v : List Int) (x : Ext) (h : v.length = n) : nrm n (con v x) ≤ dot v v * nrm n x := by
  have := nrm_wed n v x h
  have := nrm_nonneg n (wed v x)
  omega
theorem sq_nonneg (a : Int) : 0 ≤ a * a := by
  rcases Int.le_total 0 a with h | h
  · exact Int.mul_nonneg h h
  · exact Int.mul_nonneg_of_nonpos_of_nonpos h h
theorem sq_le_nrm : ∀ (n : Nat) (x : Ext) (m : List Bool), m.length = n → x m * x m ≤ nrm n x
  | 0, x, [], _ => Int.le_refl _
  | n + 1, x, false :: m, h => by
    have h1 := sq_le_nrm n (fun m => x (false :: m)) m (by simpa using h)
    have h2 := nrm_nonneg n (fun m => x (true :: m))
    have e : nrm (n + 1) x = nrm n (fun m => x (false :: m)) + nrm n (fun m => x (true :: m)) := rfl
    omega
  | n + 1, x, true :: m, h => by
    have h1 := sq_le_nrm n (fun m => x (true :: m)) m (by simpa using h)
    have h2 := nrm_nonneg n (fun m => x (false :: m))
    have e : nrm (n + 1) x = nrm n (fun m => x (false :: m)) + nrm n (fun m => x (true :: m)) := rfl
    omega
  | 0, _, _ :: _, h => by cases h
  | _ + 1, _, [], h => by cases h
def one : Ext := fun m => if m.all (!·) then 1 else 0
def om : List (List Int) → Ext
  | [] => one
  | v :: V => wed v (om V)
def ct : List (List Int) → Ext → Ext
  | [], x => x
  | u :: U, x => ct U (con u x)
def sc (n : Nat) (x : Ext) : Int := x (List.replicate n false)
def prod2 : List (List Int) → Int
  | [] => 1
  | v :: V => dot v v * prod2 V
theorem dot_self (v : List Int) : 0 ≤ dot v v := by
  induction v with
  | nil => exact Int.le_refl _
  | cons a v ih => exact Int.add_nonneg (sq_nonneg a) ih
theorem prod2_nonneg : ∀ V, 0 ≤ prod2 V
  | [] => by decide
  | v :: V => Int.mul_nonneg (dot_self v) (prod2_nonneg V)
theorem nrm_one : ∀ n, nrm n one = 1
  | 0 => rfl
  | n + 1 => by
    have h1 : ip n (fun m => one (false :: m)) (fun m => one (false :: m)) = nrm n one := ip_congr n _ _ _ _ (fun m _ => by simp [one]) (fun m _ => by simp [one])
    have h2 : ip n (fun m => one (true :: m)) (fun m => one (true :: m)) = ip n (fun m => 0 * one m + 0 * one m) (fun m => 0 * one m + 0 * one m) := ip_congr n _ _ _ _ (fun m _ => by simp [one]) (fun m _ => by simp [one])
    show ip n (fun m => one (false :: m)) (fun m => one (false :: m)) + ip n (fun m => one (true :: m)) (fun m => one (true :: m)) = 1
    rw [h1, h2, ip_lin, nrm_one n]
    grind
theorem nrm_om : ∀ (n : Nat) (V : List (List Int)), (∀ v ∈ V, v.length = n) → nrm n (om V) ≤ prod2 V
  | n, [], _ => by rw [show om [] = one from rfl, nrm_one]; exact Int.le_refl _
  | n, v :: V, h => by
    have h1 := nrm_wed_le n v (om V) (h v List.mem_cons_self)
    have h2 := nrm_om n V fun v hv => h v (List.mem_cons_of_mem _ hv)
    exact Int.le_trans h1 (Int.mul_le_mul_of_nonneg_left h2 (dot_self v))
theorem nrm_ct : ∀ (n : Nat) (U : List (List Int)) (x : Ext), (∀ u ∈ U, u.length = n) → nrm n (ct U x) ≤ prod2 U * nrm n x
  | n, [], x, _ => by rw [show prod2 [] = 1 from rfl, Int.one_mul]; exact Int.le_refl _
  | n, u :: U, x, h => by
    have h1 := nrm_ct n U (con u x) fun v hv => h v (List.mem_cons_of_mem _ hv)
    have h2 := nrm_con_le n u x (h u List.mem_cons_self)
    have h3 := Int.mul_le_mul_of_nonneg_left h2 (prod2_nonneg U)
    have e : prod2 (u :: U) * nrm n x = prod2 U * (dot u u * nrm n x) := by
      show dot u u * prod2 U * nrm n x = _
      grind
    rw [e]
    exact Int.le_trans h1 h3
theorem hadamard (n : Nat) (U V : List (List Int)) (hu : ∀ u ∈ U, u.length = n) (hv : ∀ v ∈ V, v.length = n) : sc n (ct U (om V)) * sc n (ct U (om V)) ≤ prod2 U * prod2 V :=
  Int.le_trans (sq_le_nrm n _ _ (List.length_replicate ..)) (Int.le_trans (nrm_ct n U _ hu) (Int.mul_le_mul_of_nonneg_left (nrm_om n V hv) (prod2_nonneg U)))
end Go.Mx
end
section
set_option linter.unusedVariables false
set_option linter.unusedSimpArgs false
set_option linter.unnecessarySimpa false
namespace Go.Mx
structure LinF (n : Nat) (F : Ext → Int) : Prop where
  congr : ∀ x y : Ext, (∀ m : List Bool, m.length = n → x m = y m) → F x = F y
  lin : ∀ (a b : Int) (x y : Ext), F (fun m => a * x m + b * y m) = a * F x + b * F y
theorem LinF.sub {n : Nat} {F : Ext → Int} (h : LinF n F) (t : Int) (x y : Ext) : F (fun m => t * x m - y m) = t * F x - F y := by
  rw [h.congr (fun m => t * x m - y m) (fun m => t * x m + (-1) * y m) fun m _ => by grind, h.lin]
  grind
theorem LinF.neg {n : Nat} {F : Ext → Int} (h : LinF n F) (x : Ext) : F (fun m => - x m) = - F x := by
  rw [h.congr (fun m => - x m) (fun m => (-1) * x m + 0 * x m) fun m _ => by grind, h.lin]
  grind
theorem LinF.zero {n : Nat} {F : Ext → Int} (h : LinF n F) (x : Ext) (hx : ∀ m : List Bool, m.length = n → x m = 0) : F x = 0 := by
  rw [h.congr x (fun m => 0 * x m + 0 * x m) fun m hm => by rw [hx m hm]; rfl, h.lin]
  grind
theorem LinF.sc (n : Nat) : LinF n (sc n) := ⟨fun x y h => h _ (List.length_replicate ..), fun a b x y => rfl⟩
theorem LinF.con {n : Nat} {F : Ext → Int} (h : LinF n F) (u : List Int) : LinF n fun x => F (con u x) :=
  ⟨fun x y hx => h.congr _ _ fun m hm => con_congr u x y m fun k hk => hx k (by omega), fun a b x y => by
    rw [h.congr _ (fun m => a * Mx.con u x m + b * Mx.con u y m) fun m _ => con_lin a b u x y m, h.lin]⟩
theorem LinF.wed {n : Nat} {F : Ext → Int} (h : LinF n F) (u : List Int) : LinF n fun x => F (wed u x) :=
  ⟨fun x y hx => h.congr _ _ fun m hm => wed_congr u x y m fun k hk => hx k (by omega), fun a b x y => by
    rw [h.congr _ (fun m => a * Mx.wed u x m + b * Mx.wed u y m) fun m _ => wed_lin a b u x y m, h.lin]⟩
theorem LinF.ct {n : Nat} : ∀ {F : Ext → Int}, LinF n F → ∀ U : List (List Int), LinF n fun x => F (ct U x)
  | F, h, [] => h
  | F, h, u :: U => (LinF.ct h U).con u
theorem con_one : ∀ (u : List Int) (m : List Bool), con u one m = 0
  | [], m => rfl
  | t :: u, [] => rfl
  | t :: u, false :: m => by
    have h := con_congr u (fun m => one (false :: m)) one m fun k _ => by simp [one]
    show con u (fun m => one (false :: m)) m + t * one (true :: m) = 0
    rw [h, con_one u m]
    simp [one]
  | t :: u, true :: m => by
    have h := con_zero u (fun m => one (true :: m)) m fun k _ => by simp [one]
    show - con u (fun m => one (true :: m)) m = 0
    rw [h]; rfl
theorem sc_wed : ∀ (n : Nat) (v : List Int) (x : Ext), wed v x (List.replicate n false) = 0
  | _, [], _ => rfl
  | 0, _ :: _, _ => rfl
  | n + 1, s :: v, x => sc_wed n v _
def det (n : Nat) (U V : List (List Int)) : Int := sc n (ct U (om V))
def ent (n : Nat) (U V : List (List Int)) (x u : List Int) : Int := det n (u :: U) (x :: V)
def AllL (n : Nat) (V : List (List Int)) : Prop := ∀ v ∈ V, v.length = n
theorem AllL.tail {n : Nat} {v : List Int} {V : List (List Int)} (h : AllL n (v :: V)) : AllL n V := fun x hx => h x (List.mem_cons_of_mem _ hx)
theorem AllL.head {n : Nat} {v : List Int} {V : List (List Int)} (h : AllL n (v :: V)) : v.length = n := h v List.mem_cons_self
theorem ent_eq {n : Nat} {U V : List (List Int)} {x u : List Int} (hx : x.length = n) (hu : u.length = n) : ent n U V x u = dot u x * det n U V - sc n (ct U (wed x (con u (om V)))) := by
  have hF := LinF.ct (LinF.sc n) U
  have h := hF.congr (con u (wed x (om V))) (fun m => dot u x * om V m - wed x (con u (om V)) m) fun m hm => by
    have := con_wed u x (om V) m (by omega) (by omega)
    omega
  show sc n (ct U (con u (wed x (om V)))) = _
  exact h.trans (hF.sub _ _ _)
def Sp (n : Nat) (V : List (List Int)) (y : List Int) : Prop := y.length = n ∧ ∀ m : List Bool, m.length = n → wed y (om V) m = 0
theorem Sp.mem {n : Nat} {v : List Int} : ∀ {V : List (List Int)}, AllL n V → v ∈ V → Sp n V v
  | p :: V, hV, h => by
    refine ⟨hV v h, fun m hm => ?_⟩
    rcases List.mem_cons.1 h with rfl | h
    · have := wed_wed v v (om V) m (by rw [hV.head, hm]) (by rw [hV.head, hm])
      show wed v (wed v (om V)) m = 0
      omega
    · have ih := Sp.mem hV.tail h
      show wed v (wed p (om V)) m = 0
      rw [wed_wed v p (om V) m (by rw [ih.1, hm]) (by rw [hV.head, hm]), wed_zero p (wed v (om V)) m fun k hk => ih.2 k (by omega)]
      rfl
theorem Sp.cons {n : Nat} {V : List (List Int)} {y p : List Int} (h : Sp n V y) (hp : p.length = n) : Sp n (p :: V) y := ⟨h.1, fun m hm => by
  show wed y (wed p (om V)) m = 0
  rw [wed_wed y p (om V) m (by rw [h.1, hm]) (by rw [hp, hm]), wed_zero p (wed y (om V)) m fun k hk => h.2 k (by omega)]
  rfl⟩
theorem Sp.comb {n : Nat} {V : List (List Int)} {u v y : List Int} (a b : Int) (hu : Sp n V u) (hv : Sp n V v) (hy : y.length = n) (h : ∀ k : Nat, y.getD k 0 = a * u.getD k 0 + b * v.getD k 0) : Sp n V y :=
  ⟨hy, fun m hm => by
    rw [wed_vlin a b u v y (om V) m (by rw [hu.1, hy]) (by rw [hv.1, hy]) h, hu.2 m hm, hv.2 m hm]
    simp⟩
theorem ct_wed_sc {n : Nat} {y : List Int} (hy : y.length = n) : ∀ (U : List (List Int)) (x : Ext), AllL n U → (∀ u ∈ U, dot u y = 0) → sc n (ct U (wed y x)) = 0
  | [], x, _, _ => sc_wed n y x
  | u :: U, x, hU, h => by
    have hF := LinF.ct (LinF.sc n) U
    have ih := ct_wed_sc hy U (con u x) hU.tail fun v hv => h v (List.mem_cons_of_mem _ hv)
    have e := hF.congr (con u (wed y x)) (fun m => - wed y (con u x) m) fun m hm => by
      have := con_wed u y x m (by rw [hU.head, hm]) (by omega)
      rw [h u List.mem_cons_self] at this
      omega
    show sc n (ct U (con u (wed y x))) = 0
    refine (e.trans (hF.neg _)).trans ?_
    show - sc n (ct U (wed y (con u x))) = 0
    rw [ih]; rfl
theorem uniq {n : Nat} {U V : List (List Int)} {y u : List Int} (hy : Sp n V y) (hU : AllL n U) (hu : u.length = n) (h : ∀ w ∈ U, dot w y = 0) : dot u y * det n U V = 0 := by
  have h1 := ent_eq (U := U) (V := V) hy.1 hu
  have h2 : ent n U V y u = 0 := (LinF.ct (LinF.sc n) (u :: U)).zero _ fun m hm => hy.2 m hm
  have hF := ((LinF.sc n).ct U)
  rw [h2, ct_wed_sc hy.1 U (con u (om V)) hU h] at h1
  omega
theorem ct_twice {n : Nat} {u : List Int} (hu : u.length = n) : ∀ (U : List (List Int)) (x : Ext), AllL n U → u ∈ U → sc n (ct U (con u x)) = 0
  | w :: U, x, hU, h => by
    have hF := LinF.ct (LinF.sc n) U
    show sc n (ct U (con w (con u x))) = 0
    rcases List.mem_cons.1 h with rfl | h
    · refine hF.zero _ fun m hm => ?_
      have := con_con u u x m (by omega) (by omega)
      omega
    · have ih := ct_twice hu U (con w x) hU.tail h
      have e := hF.congr (con w (con u x)) (fun m => - con u (con w x) m) fun m hm => con_con w u x m (by rw [hU.head, hm]) (by omega)
      refine (e.trans (hF.neg _)).trans ?_
      show - sc n (ct U (con u (con w x))) = 0
      rw [ih]; rfl
theorem ent_col {n : Nat} {U V : List (List Int)} {x u : List Int} (hu : u.length = n) (hU : AllL n U) (h : u ∈ U) : ent n U V x u = 0 := ct_twice hu U _ hU h
def unit (n k : Nat) : List Int := (List.range n).map fun i => if i = k then 1 else 0
theorem unit_len (n k : Nat) : (unit n k).length = n := by simp [unit]
theorem dot_map (f g : Nat → Int) : ∀ n, dot ((List.range n).map f) ((List.range n).map g) = ((List.range n).map fun i => f i * g i).sum := by
  have key : ∀ l : List Nat, dot (l.map f) (l.map g) = (l.map fun i => f i * g i).sum := fun l => by
    induction l with
    | nil => rfl
    | cons a l ih => simp only [List.map_cons, dot, List.sum_cons, ih]
  exact fun n => key _
theorem dot_unit {n k : Nat} {v : List Int} (hv : v.length = n) (hk : k < n) : dot (unit n k) v = v.getD k 0 := by
  have hv' : v = (List.range n).map fun i => v.getD i 0 := by
    refine List.ext_getElem? fun i => ?_
    rw [List.getElem?_map]
    by_cases hi : i < n
    · rw [List.getElem?_range hi]
      simp [List.getD_eq_getElem?_getD, List.getElem?_eq_getElem (show i < v.length by omega)]
    · rw [List.getElem?_eq_none (by omega), List.getElem?_eq_none (by simp; omega)]; rfl
  conv => lhs; rw [hv']
  unfold unit
  rw [dot_map]
  have key : ∀ (l : List Nat), l.Nodup → (l.map fun i => (if i = k then 1 else 0) * v.getD i 0).sum = if k ∈ l then v.getD k 0 else 0 := fun l hl => by
    induction l with
    | nil => rfl
    | cons a l ih =>
      have h1 := (List.nodup_cons.1 hl).1
      have h2 := (List.nodup_cons.1 hl).2
      rw [List.map_cons, List.sum_cons, ih h2]
      by_cases ha : a = k
      · subst ha; simp [h1]
      · rw [if_neg ha]
        simp [Ne.symm ha]
  rw [key _ List.nodup_range, if_pos (List.mem_range.2 hk)]
theorem dot_unit_self {n k : Nat} (hk : k < n) : dot (unit n k) (unit n k) = 1 := by
  rw [dot_unit (unit_len n k) hk]
  simp [unit, List.getD_eq_getElem?_getD, hk]
theorem vec_ext {n : Nat} {u v : List Int} (hu : u.length = n) (hv : v.length = n) (h : ∀ k, k < n → u.getD k 0 = v.getD k 0) : u = v := by
  refine List.ext_getElem? fun i => ?_
  by_cases hi : i < n
  · have := h i hi
    simp only [List.getD_eq_getElem?_getD, List.getElem?_eq_getElem (show i < u.length by omega), List.getElem?_eq_getElem (show i < v.length by omega), Option.getD_some] at this
    rw [List.getElem?_eq_getElem (by omega), List.getElem?_eq_getElem (by omega), this]
  · rw [List.getElem?_eq_none (by omega), List.getElem?_eq_none (by omega)]
theorem getD_out {v : List Int} {k : Nat} (h : v.length ≤ k) : v.getD k 0 = 0 := by
  rw [List.getD_eq_getElem?_getD, List.getElem?_eq_none h]; rfl
def vec (n : Nat) (f : Nat → Int) : List Int := (List.range n).map f
theorem vec_len (n : Nat) (f : Nat → Int) : (vec n f).length = n := by simp [vec]
theorem vec_get {n k : Nat} (f : Nat → Int) (h : k < n) : (vec n f).getD k 0 = f k := by simp [vec, List.getD_eq_getElem?_getD, h]
theorem Sp.vecF {n : Nat} : ∀ (V : List (List Int)) (F : Ext → Int), AllL n V → LinF n F → Sp n V (vec n fun k => F (con (unit n k) (om V)))
  | [], F, _, hF => ⟨vec_len .., fun m hm => by
    have h0 : ∀ k, F (con (unit n k) (om [])) = 0 := fun k => hF.zero _ fun m _ => con_one _ m
    have := wed_vlin 0 0 (vec n fun k => F (con (unit n k) (om []))) (vec n fun k => F (con (unit n k) (om []))) (vec n fun k => F (con (unit n k) (om []))) (om []) m rfl rfl fun k => by
      by_cases hk : k < n
      · rw [vec_get _ hk, h0]; rfl
      · rw [getD_out (by rw [vec_len]; omega)]; rfl
    rw [this]; simp⟩
  | v :: V, F, hV, hF => by
    have ih := Sp.vecF V (fun x => F (wed v x)) hV.tail (hF.wed v)
    have hv := hV.head
    refine ⟨vec_len .., fun m hm => ?_⟩
    have e : ∀ k, k < n → F (con (unit n k) (om (v :: V))) = v.getD k 0 * F (om V) - F (wed v (con (unit n k) (om V))) := fun k hk => by
      have h1 := hF.congr (con (unit n k) (om (v :: V))) (fun m => v.getD k 0 * om V m - wed v (con (unit n k) (om V)) m) fun m hm => by
        have := con_wed (unit n k) v (om V) m (by rw [unit_len, hm]) (by omega)
        rw [dot_unit hv hk] at this
        show con (unit n k) (wed v (om V)) m = _
        omega
      exact h1.trans (hF.sub _ _ _)
    have h2 := wed_vlin (F (om V)) (-1) v (vec n fun k => F (wed v (con (unit n k) (om V)))) (vec n fun k => F (con (unit n k) (om (v :: V)))) (om (v :: V)) m (by rw [vec_len, hv]) (by rw [vec_len, vec_len]) fun k => by
      by_cases hk : k < n
      · rw [vec_get _ hk, vec_get _ hk, e k hk]; grind
      · rw [getD_out (by rw [vec_len]; omega), getD_out (by omega), getD_out (by rw [vec_len]; omega)]; simp
    rw [h2]
    have h3 := (Sp.mem hV List.mem_cons_self).2 m hm
    have h4 := (Sp.cons ih hv).2 m hm
    rw [h3, h4]; simp
def units (n : Nat) (C : List Nat) : List (List Int) := C.map (unit n)
theorem units_len (n : Nat) (C : List Nat) : AllL n (units n C) := fun u hu => by
  obtain ⟨k, _, rfl⟩ := List.mem_map.1 hu
  exact unit_len ..
def arow (n : Nat) (C : List Nat) (V : List (List Int)) (x : List Int) : List Int := vec n fun k => ent n (units n C) V x (unit n k)
structure IsA (n : Nat) (C : List Nat) (V : List (List Int)) (x a : List Int) : Prop where
  len : a.length = n
  sp : Sp n V (vec n fun k => a.getD k 0 - det n (units n C) V * x.getD k 0)
  col : ∀ c ∈ C, a.getD c 0 = 0
theorem arow_isA {n : Nat} {C : List Nat} {V : List (List Int)} {x : List Int} (hV : AllL n V) (hx : x.length = n) : IsA n C V x (arow n C V x) := by
  refine ⟨vec_len .., ?_, fun c hc => ?_⟩
  · have h := Sp.vecF V (fun y => sc n (ct (units n C) (wed x y))) hV (((LinF.sc n).ct _).wed x)
    refine Sp.comb (-1) 0 h h (vec_len ..) fun k => ?_
    by_cases hk : k < n
    · rw [vec_get _ hk, vec_get _ hk, arow, vec_get _ hk, ent_eq hx (unit_len ..), dot_unit hx hk]
      grind
    · rw [getD_out (by rw [vec_len]; omega), getD_out (by rw [vec_len]; omega)]; rfl
  · by_cases hk : c < n
    · rw [arow, vec_get _ hk]
      exact ent_col (unit_len ..) (units_len n C) (List.mem_map.2 ⟨c, hc, rfl⟩)
    · exact getD_out (by rw [arow, vec_len]; omega)
theorem det_cons {n c : Nat} {C : List Nat} {V : List (List Int)} {p : List Int} (hc : c < n) : det n (units n (c :: C)) (p :: V) = (arow n C V p).getD c 0 := by
  rw [arow, vec_get _ hc]; rfl
theorem same_of {n : Nat} {C : List Nat} {V : List (List Int)} {a b : List Int} (hC : ∀ c ∈ C, c < n) (hd : det n (units n C) V ≠ 0) (ha : a.length = n) (hb : b.length = n) (hs : Sp n V (vec n fun k => a.getD k 0 - b.getD k 0)) (hc : ∀ c ∈ C, a.getD c 0 = b.getD c 0) : a = b := by
  refine vec_ext ha hb fun k hk => ?_
  have h := uniq (u := unit n k) hs (units_len n C) (unit_len ..) fun w hw => by
    obtain ⟨c, hcC, rfl⟩ := List.mem_map.1 hw
    have hcn := hC c hcC
    rw [dot_unit (vec_len ..) hcn, vec_get _ hcn, hc c hcC]
    omega
  rw [dot_unit (vec_len ..) hk, vec_get _ hk] at h
  rcases Int.mul_eq_zero.1 h with h | h
  · omega
  · exact absurd h hd
theorem IsA.eq {n : Nat} {C : List Nat} {V : List (List Int)} {x a : List Int} (hC : ∀ c ∈ C, c < n) (hd : det n (units n C) V ≠ 0) (hV : AllL n V) (hx : x.length = n) (h : IsA n C V x a) : a = arow n C V x := by
  have h2 := arow_isA (C := C) hV hx
  refine same_of hC hd h.len h2.len ?_ fun c hc => by rw [h.col c hc, h2.col c hc]
  refine Sp.comb 1 (-1) h.sp h2.sp (vec_len ..) fun k => ?_
  by_cases hk : k < n
  · rw [vec_get _ hk, vec_get _ hk, vec_get _ hk]; grind
  · rw [getD_out (by rw [vec_len]; omega), getD_out (by rw [vec_len]; omega), getD_out (by rw [vec_len]; omega)]; rfl
structure IsB (n : Nat) (C : List Nat) (V : List (List Int)) (c : Nat) (b : List Int) : Prop where
  len : b.length = n
  sp : Sp n V b
  piv : b.getD c 0 = det n (units n C) V
  col : ∀ c' ∈ C, c' ≠ c → b.getD c' 0 = 0
theorem IsB.eq {n : Nat} {C : List Nat} {V : List (List Int)} {c : Nat} {b b' : List Int} (hC : ∀ c ∈ C, c < n) (hd : det n (units n C) V ≠ 0) (h : IsB n C V c b) (h' : IsB n C V c b') : b = b' := by
  refine same_of hC hd h.len h'.len ?_ fun c' hc => ?_
  · refine Sp.comb 1 (-1) h.sp h'.sp (vec_len ..) fun k => ?_
    by_cases hk : k < n
    · rw [vec_get _ hk]; grind
    · rw [getD_out (by rw [vec_len]; omega), getD_out (by rw [h.len]; omega), getD_out (by rw [h'.len]; omega)]; rfl
  · by_cases e : c' = c
    · rw [e, h.piv, h'.piv]
    · rw [h.col c' hc e, h'.col c' hc e]
theorem ct_front {n : Nat} {u : List Int} (hu : u.length = n) : ∀ (U1 U2 : List (List Int)), AllL n (U1 ++ U2) → ∃ s : Int, s * s = 1 ∧ ∀ x : Ext, sc n (ct (U1 ++ u :: U2) x) = s * sc n (ct (u :: (U1 ++ U2)) x)
  | [], U2, _ => ⟨1, rfl, fun x => by rw [Int.one_mul]; rfl⟩
  | w :: U1, U2, hU => by
    obtain ⟨s, h1, h2⟩ := ct_front hu U1 U2 hU.tail
    refine ⟨-s, by grind, fun x => ?_⟩
    have e1 : sc n (ct (w :: U1 ++ u :: U2) x) = s * sc n (ct (u :: (U1 ++ U2)) (con w x)) := h2 (con w x)
    have hF := LinF.ct (LinF.sc n) (U1 ++ U2)
    have hw : w.length = n := hU w List.mem_cons_self
    have e2 := hF.congr (con u (con w x)) (fun m => - con w (con u x) m) fun m hm => con_con u w x m (by omega) (by omega)
    have e3 : sc n (ct (u :: (U1 ++ U2)) (con w x)) = - sc n (ct (u :: (w :: U1 ++ U2)) x) := e2.trans (hF.neg _)
    rw [e1, e3]
    grind
theorem brow_ex {n : Nat} {C1 C2 : List Nat} {c : Nat} {V : List (List Int)} (hC : ∀ k ∈ C1 ++ c :: C2, k < n) (hnd : (C1 ++ c :: C2).Nodup) (hV : AllL n V) :
    ∃ s : Int, s * s = 1 ∧ IsB n (C1 ++ c :: C2) V c (vec n fun k => s * det n (units n (k :: (C1 ++ C2))) V) := by
  have hcn : c < n := hC c (by simp)
  have hl : AllL n (units n C1 ++ units n C2) := fun u hu => by
    rcases List.mem_append.1 hu with h | h
    · exact units_len _ _ u h
    · exact units_len _ _ u h
  obtain ⟨s, h1, h2⟩ := ct_front (unit_len n c) (units n C1) (units n C2) hl
  have hu : units n (C1 ++ C2) = units n C1 ++ units n C2 := by simp [units]
  refine ⟨s, h1, vec_len .., ?_, ?_, fun c' hc' hne => ?_⟩
  · have h := Sp.vecF V (fun y => sc n (ct (units n (C1 ++ C2)) y)) hV ((LinF.sc n).ct _)
    refine Sp.comb s 0 h h (vec_len ..) fun k => ?_
    by_cases hk : k < n
    · rw [vec_get _ hk, vec_get _ hk]
      show s * det n (units n (k :: (C1 ++ C2))) V = s * det n (units n (k :: (C1 ++ C2))) V + 0 * _
      grind
    · rw [getD_out (by rw [vec_len]; omega), getD_out (by rw [vec_len]; omega)]; simp
  · rw [vec_get _ hcn]
    have := h2 (om V)
    have e : units n (C1 ++ c :: C2) = units n C1 ++ unit n c :: units n C2 := by simp [units]
    show s * sc n (ct (units n (c :: (C1 ++ C2))) (om V)) = sc n (ct (units n (C1 ++ c :: C2)) (om V))
    rw [e, this]
    show s * sc n (ct (unit n c :: units n (C1 ++ C2)) (om V)) = _
    rw [hu]
  · have hcn' := hC c' hc'
    rw [vec_get _ hcn']
    have hm : c' ∈ C1 ++ C2 := by
      simp only [List.mem_append, List.mem_cons] at hc' ⊢
      rcases hc' with h | h | h
      · exact .inl h
      · exact absurd h hne
      · exact .inr h
    have : det n (units n (c' :: (C1 ++ C2))) V = 0 := ct_twice (unit_len n c') (units n (C1 ++ C2)) (om V) (units_len n _) (List.mem_map.2 ⟨c', hm, rfl⟩)
    rw [this, Int.mul_zero]
theorem vec_congr {n : Nat} {f g : Nat → Int} (h : ∀ k, k < n → f k = g k) : vec n f = vec n g := vec_ext (vec_len ..) (vec_len ..) fun k hk => by rw [vec_get _ hk, vec_get _ hk, h k hk]
theorem vec_self {n : Nat} {v : List Int} (h : v.length = n) : vec n (fun k => v.getD k 0) = v := vec_ext (vec_len ..) h fun k hk => vec_get _ hk
theorem Sp.vcomb {n : Nat} {V : List (List Int)} {f g h : Nat → Int} (a b : Int) (hf : Sp n V (vec n f)) (hg : Sp n V (vec n g)) (e : ∀ k, k < n → h k = a * f k + b * g k) : Sp n V (vec n h) :=
  Sp.comb a b hf hg (vec_len ..) fun k => by
    by_cases hk : k < n
    · rw [vec_get _ hk, vec_get _ hk, vec_get _ hk, e k hk]
    · rw [getD_out (by rw [vec_len]; omega), getD_out (by rw [vec_len]; omega), getD_out (by rw [vec_len]; omega)]; simp
theorem Sp.self {n : Nat} {V : List (List Int)} {v : List Int} (h : Sp n V v) : Sp n V (vec n fun k => v.getD k 0) := by rw [vec_self h.1]; exact h
theorem Sp.unself {n : Nat} {V : List (List Int)} {v : List Int} (hv : v.length = n) (h : Sp n V (vec n fun k => v.getD k 0)) : Sp n V v := by rwa [vec_self hv] at h
section
variable {n c : Nat} {C : List Nat} {V : List (List Int)} {p : List Int}
theorem allL_cons (hV : AllL n V) (hp : p.length = n) : AllL n (p :: V) := fun v hv => by
  rcases List.mem_cons.1 hv with rfl | h
  · exact hp
  · exact hV v h
theorem step_P (hc : c < n) (hV : AllL n V) (hp : p.length = n) : IsB n (c :: C) (p :: V) c (arow n C V p) := by
  have hP := arow_isA (C := C) hV hp
  refine ⟨hP.len, ?_, ?_, fun c' hc' hne => ?_⟩
  · refine Sp.unself hP.len (Sp.vcomb 1 (det n (units n C) V) (Sp.cons hP.sp hp) (Sp.mem (allL_cons hV hp) List.mem_cons_self).self fun k _ => by grind)
  · rw [det_cons hc]
  · rcases List.mem_cons.1 hc' with h | h
    · exact absurd h hne
    · exact hP.col c' h
theorem step_A (hC : ∀ k ∈ C, k < n) (hc : c < n) (hV : AllL n V) (hp : p.length = n) (hd' : (arow n C V p).getD c 0 ≠ 0) {x : List Int} (hx : x.length = n) (k : Nat) (hk : k < n) :
    det n (units n C) V * (arow n (c :: C) (p :: V) x).getD k 0 = (arow n C V p).getD c 0 * (arow n C V x).getD k 0 - (arow n C V x).getD c 0 * (arow n C V p).getD k 0 := by
  have hA := arow_isA (C := C) hV hx
  have hP := arow_isA (C := C) hV hp
  have hV' := allL_cons hV hp
  have hA' := arow_isA (C := c :: C) hV' hx
  have hB := step_P (C := C) hc hV hp
  have hd := det_cons (C := C) (V := V) (p := p) hc
  have hC' : ∀ k ∈ c :: C, k < n := fun k hk => by
    rcases List.mem_cons.1 hk with rfl | h
    · exact hc
    · exact hC k h
  have hs := hA'.sp
  rw [hd] at hs
  have key := same_of (a := vec n fun k => det n (units n C) V * (arow n (c :: C) (p :: V) x).getD k 0) (b := vec n fun k => (arow n C V p).getD c 0 * (arow n C V x).getD k 0 - (arow n C V x).getD c 0 * (arow n C V p).getD k 0)
    (n := n) (C := c :: C) (V := p :: V) hC' (by rw [hd]; exact hd') (vec_len ..) (vec_len ..) (by
      refine Sp.vcomb 1 1 (Sp.vcomb (h := fun k => det n (units n C) V * (arow n (c :: C) (p :: V) x).getD k 0 - (arow n C V p).getD c 0 * (arow n C V x).getD k 0) (det n (units n C) V) (-(arow n C V p).getD c 0) hs (Sp.cons hA.sp hp) fun k _ => by grind)
        (Sp.vcomb (h := fun k => (arow n C V x).getD c 0 * (arow n C V p).getD k 0) ((arow n C V x).getD c 0) 0 hB.sp.self hB.sp.self fun k _ => by grind) fun k hk => ?_
      rw [vec_get _ hk, vec_get _ hk]
      grind) (fun c' hc' => by
      have hcn := hC' c' hc'
      rw [vec_get _ hcn, vec_get _ hcn, hA'.col c' hc']
      rcases List.mem_cons.1 hc' with rfl | h
      · grind
      · rw [hA.col c' h, hP.col c' h]; grind)
  have := congrArg (fun v => v.getD k 0) key
  simpa only [vec_get _ hk] using this
theorem step_B (hC : ∀ k ∈ C, k < n) (hc : c < n) (hcC : c ∉ C) (hV : AllL n V) (hp : p.length = n) (hd' : (arow n C V p).getD c 0 ≠ 0) {c0 : Nat} (hc0 : c0 ∈ C) {b b' : List Int} (hb : IsB n C V c0 b) (hb' : IsB n (c :: C) (p :: V) c0 b') (k : Nat) (hk : k < n) :
    det n (units n C) V * b'.getD k 0 = (arow n C V p).getD c 0 * b.getD k 0 - b.getD c 0 * (arow n C V p).getD k 0 := by
  have hP := arow_isA (C := C) hV hp
  have hB := step_P (C := C) hc hV hp
  have hd := det_cons (C := C) (V := V) (p := p) hc
  have hC' : ∀ k ∈ c :: C, k < n := fun k hk => by
    rcases List.mem_cons.1 hk with rfl | h
    · exact hc
    · exact hC k h
  have hcc0 : c ≠ c0 := fun e => hcC (e ▸ hc0)
  have key := same_of (a := vec n fun k => det n (units n C) V * b'.getD k 0) (b := vec n fun k => (arow n C V p).getD c 0 * b.getD k 0 - b.getD c 0 * (arow n C V p).getD k 0)
    (n := n) (C := c :: C) (V := p :: V) hC' (by rw [hd]; exact hd') (vec_len ..) (vec_len ..) (by
      refine Sp.vcomb 1 1 (Sp.vcomb (h := fun k => det n (units n C) V * b'.getD k 0 - (arow n C V p).getD c 0 * b.getD k 0) (det n (units n C) V) (-(arow n C V p).getD c 0) hb'.sp.self (Sp.cons hb.sp hp).self fun k _ => by grind)
        (Sp.vcomb (h := fun k => b.getD c 0 * (arow n C V p).getD k 0) (b.getD c 0) 0 hB.sp.self hB.sp.self fun k _ => by grind) fun k hk => ?_
      rw [vec_get _ hk, vec_get _ hk]
      grind) (fun c' hc' => by
      have hcn := hC' c' hc'
      rw [vec_get _ hcn, vec_get _ hcn]
      rcases List.mem_cons.1 hc' with rfl | h
      · rw [hb'.col c' List.mem_cons_self hcc0]; grind
      · by_cases e : c' = c0
        · subst e
          rw [hb'.piv, hb.piv, hP.col c' h, hd]; grind
        · rw [hb'.col c' hc' e, hb.col c' h e, hP.col c' h]; grind)
  have := congrArg (fun v => v.getD k 0) key
  simpa only [vec_get _ hk] using this
end
theorem prod2_units {n : Nat} : ∀ (C : List Nat), (∀ c ∈ C, c < n) → prod2 (units n C) = 1
  | [], _ => rfl
  | c :: C, h => by
    show dot (unit n c) (unit n c) * prod2 (units n C) = 1
    rw [dot_unit_self (h c List.mem_cons_self), prod2_units C fun k hk => h k (List.mem_cons_of_mem _ hk)]
    rfl
end Go.Mx
end
section
set_option linter.unusedVariables false
set_option linter.unusedSimpArgs false
set_option linter.unnecessarySimpa false
namespace Go.Mx
abbrev Mat := List (List Int)
def at2 (a : Mat) (i k : Nat) : Int := (a.getD i []).getD k 0
def pivAt (a : Mat) (r c : Nat) : Option Nat := (List.range' r (a.length - r)).find? fun p => at2 a p c != 0
def swapR (a : Mat) (r p : Nat) : Mat := (a.set r (a.getD p [])).set p (a.getD r [])
def elim (n : Nat) (d f last : Int) (row piv : List Int) : List Int := vec n fun k => Int.tdiv (d * row.getD k 0 - f * piv.getD k 0) last
structure BS where
  a : Mat
  piv : List Nat
  last : Int
def bstep (n c : Nat) (s : BS) : BS :=
  if s.piv.length < s.a.length then
    match pivAt s.a s.piv.length c with
    | none => s
    | some p =>
      let a := swapR s.a s.piv.length p
      let d := at2 a s.piv.length c
      ⟨a.mapIdx fun i row => if i = s.piv.length then row else elim n d (row.getD c 0) s.last row (a.getD s.piv.length []), s.piv ++ [c], d⟩
  else s
def bred (n : Nat) (M : Mat) : Nat → BS
  | 0 => ⟨M, [], 1⟩
  | c + 1 => bstep n c (bred n M c)
theorem pivAt_some {a : Mat} {r c p : Nat} (h : pivAt a r c = some p) : r ≤ p ∧ p < a.length ∧ at2 a p c ≠ 0 ∧ ∀ j, r ≤ j → j < p → at2 a j c = 0 := by
  unfold pivAt at h
  obtain ⟨h1, l1, l2, h2, h3⟩ := List.find?_eq_some_iff_append.1 h
  have hm : p ∈ List.range' r (a.length - r) := by rw [h2]; simp
  have hm' := List.mem_range'_1.1 hm
  refine ⟨hm'.1, by omega, by simpa using h1, fun j hj hjp => ?_⟩
  have hlen : l1.length = p - r := by
    have : (List.range' r (a.length - r))[l1.length]? = some p := by rw [h2]; simp
    have hl := congrArg List.length h2
    simp at hl
    rw [List.getElem?_range' (by omega)] at this
    injection this with this; omega
  have hj1 : l1[j - r]? = some j := by
    have : (List.range' r (a.length - r))[j - r]? = some j := by
      rw [List.getElem?_range' (by omega)]; congr 1; omega
    rw [h2, List.getElem?_append_left (by omega)] at this
    exact this
  have := h3 j (List.mem_of_getElem? hj1)
  simpa using this
theorem pivAt_none {a : Mat} {r c : Nat} (h : pivAt a r c = none) : ∀ j, r ≤ j → j < a.length → at2 a j c = 0 := fun j h1 h2 => by
  unfold pivAt at h
  have := List.find?_eq_none.1 h j (List.mem_range'_1.2 ⟨h1, by omega⟩)
  simpa using this
theorem getD_set {α : Type} {l : List α} {i j : Nat} {x d : α} (hi : i < l.length) : (l.set i x).getD j d = if i = j then x else l.getD j d := by
  simp only [List.getD_eq_getElem?_getD, List.getElem?_set]
  by_cases h : i = j
  · subst h; simp [hi]
  · simp [h]
theorem swapR_len (a : Mat) (r p : Nat) : (swapR a r p).length = a.length := by simp [swapR]
theorem swapR_get {a : Mat} {r p : Nat} (hr : r < a.length) (hp : p < a.length) (j : Nat) : (swapR a r p).getD j [] = if j = p then a.getD r [] else if j = r then a.getD p [] else a.getD j [] := by
  unfold swapR
  rw [getD_set (by simpa using hp), getD_set hr]
  by_cases h1 : p = j
  · subst h1; simp
  · rw [if_neg h1, if_neg (Ne.symm h1)]
    by_cases h2 : r = j
    · subst h2; simp
    · rw [if_neg h2, if_neg (Ne.symm h2)]
structure Reord (M M' : Mat) : Prop where
  ex : ∃ f : Nat → Nat, (∀ i, i < M.length → f i < M.length) ∧ (∀ i j, i < M.length → j < M.length → f i = f j → i = j) ∧ ∀ i, i < M.length → M'.getD i [] = M.getD (f i) []
  len : M'.length = M.length
theorem Reord.refl (M : Mat) : Reord M M := ⟨⟨id, fun i h => h, fun i j _ _ h => h, fun i _ => rfl⟩, rfl⟩
theorem Reord.swap {M M' : Mat} (h : Reord M M') {r p : Nat} (hr : r < M.length) (hp : p < M.length) : Reord M (swapR M' r p) := by
  obtain ⟨⟨f, h1, h2, h3⟩, hl⟩ := h
  refine ⟨⟨fun i => f (if i = p then r else if i = r then p else i), fun i hi => h1 _ (by split; exact hr; split; exact hp; exact hi), fun i j hi hj he => ?_, fun i hi => ?_⟩, by rw [swapR_len, hl]⟩
  · have := h2 _ _ (by split; exact hr; split; exact hp; exact hi) (by split; exact hr; split; exact hp; exact hj) he
    split at this <;> split at this <;> (try split at this) <;> (try split at this) <;> omega
  · rw [swapR_get (by omega) (by omega)]
    show _ = M.getD (f (if i = p then r else if i = r then p else i)) []
    by_cases e1 : i = p
    · rw [if_pos e1, if_pos e1]; exact h3 r hr
    · rw [if_neg e1, if_neg e1]
      by_cases e2 : i = r
      · rw [if_pos e2, if_pos e2]; exact h3 p hp
      · rw [if_neg e2, if_neg e2]; exact h3 i hi
def rowsB (M : Mat) : Nat → Mat
  | 0 => []
  | r + 1 => M.getD r [] :: rowsB M r
theorem rowsB_congr {M M' : Mat} : ∀ r, (∀ i, i < r → M.getD i [] = M'.getD i []) → rowsB M r = rowsB M' r
  | 0, _ => rfl
  | r + 1, h => by
    unfold rowsB
    rw [h r (by omega), rowsB_congr r fun i hi => h i (by omega)]
theorem rowsB_mem {M : Mat} {v : List Int} : ∀ {r : Nat}, v ∈ rowsB M r → ∃ i, i < r ∧ v = M.getD i []
  | 0, h => by cases h
  | r + 1, h => by
    rcases List.mem_cons.1 h with h | h
    · exact ⟨r, by omega, h⟩
    · obtain ⟨i, h1, h2⟩ := rowsB_mem h
      exact ⟨i, by omega, h2⟩
def RowsN (n : Nat) (M : Mat) : Prop := ∀ i, i < M.length → (M.getD i []).length = n
theorem Reord.rows {M M' : Mat} {n : Nat} (h : Reord M M') (hn : RowsN n M) : RowsN n M' := fun i hi => by
  obtain ⟨⟨f, h1, h2, h3⟩, hl⟩ := h
  rw [h3 i (by omega)]
  exact hn _ (h1 i (by omega))
theorem rowsB_all {M : Mat} {n r : Nat} (hn : RowsN n M) (hr : r ≤ M.length) : AllL n (rowsB M r) := fun v hv => by
  obtain ⟨i, h1, rfl⟩ := rowsB_mem hv
  exact hn i (by omega)
structure BInv (n : Nat) (M : Mat) (c : Nat) (s : BS) (M' : Mat) : Prop where
  re : Reord M M'
  len : s.a.length = M.length
  rl : s.piv.length ≤ M.length
  pc : ∀ k ∈ s.piv, k < c
  nd : s.piv.Nodup
  last : det n (units n s.piv.reverse) (rowsB M' s.piv.length) = s.last
  nz : s.last ≠ 0
  lo : ∀ i, s.piv.length ≤ i → i < M.length → s.a.getD i [] = arow n s.piv.reverse (rowsB M' s.piv.length) (M'.getD i [])
  hi : ∀ i (h : i < s.piv.length), IsB n s.piv.reverse (rowsB M' s.piv.length) s.piv[i] (s.a.getD i [])
  zero : ∀ i, s.piv.length ≤ i → i < M.length → ∀ k, k < c → at2 s.a i k = 0
theorem arow_nil {n : Nat} {x : List Int} (hx : x.length = n) : arow n [] [] x = x := vec_ext (vec_len ..) hx fun k hk => by
  rw [arow, vec_get _ hk, ent_eq hx (unit_len ..), dot_unit hx hk]
  have h1 : det n (units n []) [] = 1 := by
    show one (List.replicate n false) = 1
    simp [one]
  have h2 : sc n (ct (units n []) (wed x (con (unit n k) (om [])))) = 0 := sc_wed n x _
  rw [h1, h2]
  omega
theorem BInv.init {n : Nat} {M : Mat} (hn : RowsN n M) : BInv n M 0 (bred n M 0) M := by
  refine ⟨.refl M, rfl, Nat.zero_le _, fun k hk => (by cases hk), List.nodup_nil, ?_, (by show (1 : Int) ≠ 0; decide), fun i _ hi => ?_, fun i h => (by cases h), fun i _ _ k hk => (by omega)⟩
  · show one (List.replicate n false) = 1
    simp [one]
  · exact (arow_nil (hn i hi)).symm
theorem tdiv_of {a b c : Int} (ha : a ≠ 0) (h : a * b = c) : Int.tdiv c a = b := by
  rw [← h]
  exact Int.mul_tdiv_cancel_left b ha
theorem mapIdx_getD {f : Nat → List Int → List Int} {a : Mat} {i : Nat} (h : i < a.length) : (a.mapIdx f).getD i [] = f i (a.getD i []) := by
  simp [List.getD_eq_getElem?_getD, List.getElem?_mapIdx, List.getElem?_eq_getElem h]
theorem elim_eq {n : Nat} {d f last : Int} {row piv b : List Int} (hl : last ≠ 0) (hb : b.length = n) (h : ∀ k, k < n → last * b.getD k 0 = d * row.getD k 0 - f * piv.getD k 0) : elim n d f last row piv = b :=
  vec_ext (vec_len ..) hb fun k hk => by
    rw [elim, vec_get _ hk]
    exact tdiv_of hl (h k hk)
def Exact (n c : Nat) (s : BS) : Prop := ∀ p, pivAt s.a s.piv.length c = some p → s.piv.length < s.a.length → ∀ i, i < s.a.length → i ≠ s.piv.length → ∀ k, k < n →
  s.last * (elim n (at2 (swapR s.a s.piv.length p) s.piv.length c) (((swapR s.a s.piv.length p).getD i []).getD c 0) s.last ((swapR s.a s.piv.length p).getD i []) ((swapR s.a s.piv.length p).getD s.piv.length [])).getD k 0 =
    at2 (swapR s.a s.piv.length p) s.piv.length c * ((swapR s.a s.piv.length p).getD i []).getD k 0 - ((swapR s.a s.piv.length p).getD i []).getD c 0 * ((swapR s.a s.piv.length p).getD s.piv.length []).getD k 0
theorem elim_exact {n : Nat} {d f last : Int} {row piv b : List Int} (hl : last ≠ 0) (hb : b.length = n) (h : ∀ k, k < n → last * b.getD k 0 = d * row.getD k 0 - f * piv.getD k 0) (k : Nat) (hk : k < n) : last * (elim n d f last row piv).getD k 0 = d * row.getD k 0 - f * piv.getD k 0 := by
  rw [elim_eq hl hb h]
  exact h k hk
theorem BInv.step {n : Nat} {M : Mat} {c : Nat} {s : BS} {M' : Mat} (hn : RowsN n M) (hc : c < n) (h : BInv n M c s M') : (∃ M'', BInv n M (c + 1) (bstep n c s) M'') ∧ Exact n c s := by
  unfold bstep
  split
  · rename_i hlt
    rw [h.len] at hlt
    split
    · rename_i hp
      refine ⟨⟨M', h.re, h.len, h.rl, fun k hk => by have := h.pc k hk; omega, h.nd, h.last, h.nz, h.lo, h.hi, fun i h1 h2 k hk => ?_⟩, fun p hp' => by rw [hp] at hp'; cases hp'⟩
      by_cases e : k = c
      · subst e; exact pivAt_none hp i h1 (by rw [h.len]; exact h2)
      · exact h.zero i h1 h2 k (by omega)
    · rename_i p hp
      obtain ⟨p1, p2, p3, p4⟩ := pivAt_some hp
      rw [h.len] at p2
      -- names
      have hre := h.re.swap hlt p2
      have hn' := h.re.rows hn
      have hn'' := hre.rows hn
      have hml : M'.length = M.length := h.re.len
      generalize hV : rowsB M' s.piv.length = V at *
      have hV2 : rowsB (swapR M' s.piv.length p) s.piv.length = V := by
        rw [← hV]
        exact rowsB_congr _ fun i hi => by rw [swapR_get (by omega) (by omega), if_neg (by omega), if_neg (by omega)]
      have hVL : AllL n V := by rw [← hV]; exact rowsB_all hn' (by omega)
      have hC : ∀ k ∈ s.piv.reverse, k < n := fun k hk => by have := h.pc k (by simpa using hk); omega
      have hcC : c ∉ s.piv.reverse := fun hk => by have := h.pc c (by simpa using hk); omega
      have hd := h.last
      have hnz := h.nz
      have hlo := h.lo
      have hhi := h.hi
      rw [hV] at hd
      simp only [hV] at hlo hhi
      -- the pivot's row
      generalize hP : M'.getD p [] = P
      have hPl : P.length = n := by rw [← hP]; exact hn' p (by omega)
      have hap : s.a.getD p [] = arow n s.piv.reverse V P := by rw [← hP]; exact hlo p p1 p2
      have hsw : ∀ i, i < M.length → (swapR s.a s.piv.length p).getD i [] = if i = p then s.a.getD s.piv.length [] else if i = s.piv.length then s.a.getD p [] else s.a.getD i [] := fun i hi => swapR_get (by rw [h.len]; exact hlt) (by rw [h.len]; exact p2) i
      have hswM : ∀ i, (swapR M' s.piv.length p).getD i [] = if i = p then M'.getD s.piv.length [] else if i = s.piv.length then M'.getD p [] else M'.getD i [] := fun i => swapR_get (by omega) (by omega) i
      have hlow : ∀ i, s.piv.length ≤ i → i < M.length → (swapR s.a s.piv.length p).getD i [] = arow n s.piv.reverse V ((swapR M' s.piv.length p).getD i []) := fun i h1 h2 => by
        rw [hsw i h2, hswM i]
        split
        · exact hlo s.piv.length (Nat.le_refl _) hlt
        · split
          · exact hlo p p1 p2
          · exact hlo i h1 h2
      have har : (swapR s.a s.piv.length p).getD s.piv.length [] = arow n s.piv.reverse V P := by
        rw [hlow s.piv.length (Nat.le_refl _) hlt, hswM s.piv.length, ← hP]
        by_cases e : s.piv.length = p
        · rw [if_pos e, e]
        · rw [if_neg e, if_pos rfl]
      have hMr : (swapR M' s.piv.length p).getD s.piv.length [] = P := by
        rw [hswM s.piv.length, ← hP]
        by_cases e : s.piv.length = p
        · rw [if_pos e, e]
        · rw [if_neg e, if_pos rfl]
      have hdv : at2 (swapR s.a s.piv.length p) s.piv.length c = (arow n s.piv.reverse V P).getD c 0 := by unfold at2; rw [har]
      have hdn : (arow n s.piv.reverse V P).getD c 0 ≠ 0 := by
        have : at2 s.a p c ≠ 0 := p3
        unfold at2 at this
        rwa [hap] at this
      have hVn : rowsB (swapR M' s.piv.length p) (s.piv ++ [c]).length = P :: V := by
        rw [List.length_append, List.length_singleton]
        show (swapR M' s.piv.length p).getD s.piv.length [] :: rowsB (swapR M' s.piv.length p) s.piv.length = _
        rw [hMr, hV2]
      have hCn : (s.piv ++ [c]).reverse = c :: s.piv.reverse := by simp
      have hlen' : (s.piv ++ [c]).length = s.piv.length + 1 := by simp
      have hget : ∀ i, i < M.length → ((swapR s.a s.piv.length p).mapIdx fun i row => if i = s.piv.length then row else elim n (at2 (swapR s.a s.piv.length p) s.piv.length c) (row.getD c 0) s.last row ((swapR s.a s.piv.length p).getD s.piv.length [])).getD i [] =
          if i = s.piv.length then (swapR s.a s.piv.length p).getD i [] else elim n (at2 (swapR s.a s.piv.length p) s.piv.length c) (((swapR s.a s.piv.length p).getD i []).getD c 0) s.last ((swapR s.a s.piv.length p).getD i []) ((swapR s.a s.piv.length p).getD s.piv.length []) := fun i hi => mapIdx_getD (by rw [swapR_len, h.len]; exact hi)
      have hdet' : det n (units n (c :: s.piv.reverse)) (P :: V) = at2 (swapR s.a s.piv.length p) s.piv.length c := by rw [det_cons hc, hdv]
      have hlonew : ∀ i, s.piv.length + 1 ≤ i → i < M.length → elim n (at2 (swapR s.a s.piv.length p) s.piv.length c) (((swapR s.a s.piv.length p).getD i []).getD c 0) s.last ((swapR s.a s.piv.length p).getD i []) ((swapR s.a s.piv.length p).getD s.piv.length []) = arow n (c :: s.piv.reverse) (P :: V) ((swapR M' s.piv.length p).getD i []) := fun i h1 h2 => by
        refine elim_eq hnz (vec_len ..) fun k hk => ?_
        rw [hlow i (by omega) h2, har, hdv, ← hd]
        exact step_A hC hc hVL hPl hdn (hn'' i (by rw [swapR_len]; omega)) k hk
      have hbrow : ∀ i (hir : i < s.piv.length), ∃ b, IsB n (c :: s.piv.reverse) (P :: V) s.piv[i] b ∧ ∀ k, k < n → s.last * b.getD k 0 = at2 (swapR s.a s.piv.length p) s.piv.length c * (s.a.getD i []).getD k 0 - (s.a.getD i []).getD c 0 * ((swapR s.a s.piv.length p).getD s.piv.length []).getD k 0 := fun i hir => by
        have hb := hhi i hir
        -- the row of the pivot in the next stage
        obtain ⟨C1, C2, hsp⟩ : ∃ C1 C2, c :: s.piv.reverse = C1 ++ s.piv[i] :: C2 := by
          have : s.piv[i] ∈ c :: s.piv.reverse := List.mem_cons_of_mem _ (by simp)
          exact List.append_of_mem this
        have hC' : ∀ k ∈ c :: s.piv.reverse, k < n := fun k hk => by
          rcases List.mem_cons.1 hk with rfl | hk
          · exact hc
          · exact hC k hk
        have hnd' : (c :: s.piv.reverse).Nodup := List.nodup_cons.2 ⟨hcC, List.pairwise_reverse.2 (h.nd.imp fun h => h.symm)⟩
        obtain ⟨sg, _, hbr⟩ := brow_ex (V := P :: V) (n := n) (C1 := C1) (C2 := C2) (c := s.piv[i]) (by rw [← hsp]; exact hC') (by rw [← hsp]; exact hnd') (allL_cons hVL hPl)
        rw [← hsp] at hbr
        refine ⟨_, hbr, fun k hk => ?_⟩
        rw [har, hdv, ← hd]
        exact step_B hC hc hcC hVL hPl hdn (by simp) hb hbr k hk
      have hai : ∀ i, i < s.piv.length → (swapR s.a s.piv.length p).getD i [] = s.a.getD i [] := fun i hir => by rw [hsw i (by omega), if_neg (by omega), if_neg (by omega)]
      refine ⟨?_, fun p' hp' _ i hi hne k hk => ?_⟩
      rotate_left
      · have : p' = p := by rw [hp] at hp'; injection hp' with hp'; exact hp'.symm
        subst this
        rw [h.len] at hi
        by_cases hir : i < s.piv.length
        · obtain ⟨b, hb1, hb2⟩ := hbrow i hir
          rw [hai i hir]
          exact elim_exact hnz hb1.len hb2 k hk
        · refine elim_exact hnz (vec_len n fun k => ent n (units n (c :: s.piv.reverse)) (P :: V) ((swapR M' s.piv.length p').getD i []) (unit n k)) (fun k hk => ?_) k hk
          rw [hlow i (by omega) hi, har, hdv, ← hd]
          exact step_A hC hc hVL hPl hdn (hn'' i (by rw [swapR_len]; omega)) k hk
      refine ⟨swapR M' s.piv.length p, hre, by rw [List.length_mapIdx, swapR_len, h.len], by rw [hlen']; omega, fun k hk => ?_, ?_, ?_, ?_, fun i h1 h2 => ?_, fun i hi => ?_, fun i h1 h2 k hk => ?_⟩
      · rcases List.mem_append.1 hk with hk | hk
        · have := h.pc k hk; omega
        · have : k = c := by simpa using hk
          omega
      · refine List.nodup_append.2 ⟨h.nd, by simp, fun a ha b hb => ?_⟩
        have : b = c := by simpa using hb
        subst this
        have := h.pc a ha
        omega
      · show det n (units n (s.piv ++ [c]).reverse) (rowsB (swapR M' s.piv.length p) (s.piv ++ [c]).length) = _
        rw [hVn, hCn, hdet']
      · show at2 (swapR s.a s.piv.length p) s.piv.length c ≠ 0
        rw [hdv]; exact hdn
      · rw [hlen'] at h1
        show ((swapR s.a s.piv.length p).mapIdx _).getD i [] = arow n (s.piv ++ [c]).reverse (rowsB (swapR M' s.piv.length p) (s.piv ++ [c]).length) _
        rw [hVn, hCn, hget i h2, if_neg (by omega)]
        exact hlonew i h1 h2
      · show IsB n (s.piv ++ [c]).reverse (rowsB (swapR M' s.piv.length p) (s.piv ++ [c]).length) (s.piv ++ [c])[i] (((swapR s.a s.piv.length p).mapIdx _).getD i [])
        rw [hVn, hCn]
        have hi' : i < s.piv.length + 1 := by rw [← hlen']; exact hi
        rw [hget i (by omega)]
        by_cases e : i = s.piv.length
        · subst e
          have : (s.piv ++ [c])[s.piv.length] = c := by simp
          rw [this, if_pos rfl, har]
          exact step_P hc hVL hPl
        · have hir : i < s.piv.length := by omega
          have hip : i < s.piv.length := by omega
          have e1 : (s.piv ++ [c])[i] = s.piv[i] := List.getElem_append_left hip
          rw [e1, if_neg e]
          obtain ⟨b, hb1, hb2⟩ := hbrow i hir
          rw [hai i hir, elim_eq hnz hb1.len hb2]
          exact hb1
      · rw [hlen'] at h1
        show (((swapR s.a s.piv.length p).mapIdx _).getD i []).getD k 0 = 0
        rw [hget i h2, if_neg (by omega)]
        by_cases e : k = c
        · subst e
          rw [hlonew i h1 h2]
          exact (arow_isA (C := k :: s.piv.reverse) (allL_cons hVL hPl) (hn'' i (by rw [swapR_len]; omega))).col k List.mem_cons_self
        · have hz : ∀ j, s.piv.length ≤ j → j < M.length → ((swapR s.a s.piv.length p).getD j []).getD k 0 = 0 := fun j j1 j2 => by
            rw [hsw j j2]
            split
            · exact h.zero s.piv.length (by omega) hlt k (by omega)
            · split
              · exact h.zero p (by omega) p2 k (by omega)
              · exact h.zero j (by omega) j2 k (by omega)
          rw [elim, vec_get _ (by omega), hz i (by omega) h2, hz s.piv.length (Nat.le_refl _) hlt]
          simp
  · rename_i hlt
    rw [h.len] at hlt
    refine ⟨⟨M', h.re, h.len, h.rl, fun k hk => by have := h.pc k hk; omega, h.nd, h.last, h.nz, h.lo, h.hi, fun i h1 h2 k hk => by omega⟩, fun p _ hl => absurd (by rw [h.len] at hl; exact hl) hlt⟩
theorem bred_inv {n : Nat} {M : Mat} (hn : RowsN n M) : ∀ c, c ≤ n → ∃ M', BInv n M c (bred n M c) M'
  | 0, _ => ⟨M, BInv.init hn⟩
  | c + 1, hc => by
    obtain ⟨M', h⟩ := bred_inv hn c (by omega)
    exact (h.step hn (by omega)).1
theorem bred_exact {n : Nat} {M : Mat} (hn : RowsN n M) {c : Nat} (hc : c < n) : Exact n c (bred n M c) := by
  obtain ⟨M', h⟩ := bred_inv hn c (by omega)
  exact (h.step hn hc).2
end Go.Mx
end
section
set_option linter.unusedVariables false
set_option linter.unusedSimpArgs false
set_option linter.unnecessarySimpa false
namespace Go.Mx
def gl (v : List Int) : Int := v.foldl (fun g x => (Int.gcd g x : Int)) 0
def fnz (v : List Int) : Int := v.foldl (fun f x => if f = 0 then x else f) 0
def sg (v : List Int) : Int := if fnz v < 0 then - gl v else gl v
def prim (v : List Int) : List Int := if gl v = 0 then v else v.map fun x => Int.tdiv x (sg v)
theorem gl_from_nonneg : ∀ (v : List Int) (g : Int), 0 ≤ g → 0 ≤ v.foldl (fun g x => (Int.gcd g x : Int)) g
  | [], g, h => h
  | x :: v, g, _ => gl_from_nonneg v _ (Int.natCast_nonneg _)
theorem gl_nonneg (v : List Int) : 0 ≤ gl v := gl_from_nonneg v 0 (Int.le_refl _)
theorem gl_from_dvd : ∀ (v : List Int) (g : Int), v.foldl (fun g x => (Int.gcd g x : Int)) g ∣ g ∧ ∀ x ∈ v, v.foldl (fun g x => (Int.gcd g x : Int)) g ∣ x
  | [], g => ⟨Int.dvd_refl _, fun x hx => by cases hx⟩
  | a :: v, g => by
    obtain ⟨h1, h2⟩ := gl_from_dvd v (Int.gcd g a : Int)
    refine ⟨Int.dvd_trans h1 (Int.gcd_dvd_left ..), fun x hx => ?_⟩
    rcases List.mem_cons.1 hx with rfl | hx
    · exact Int.dvd_trans h1 (Int.gcd_dvd_right ..)
    · exact h2 x hx
theorem gl_dvd {v : List Int} {x : Int} (hx : x ∈ v) : gl v ∣ x := (gl_from_dvd v 0).2 x hx
theorem gl_from_mul (c : Int) : ∀ (v : List Int) (g : Int), 0 ≤ g → (v.map (c * ·)).foldl (fun g x => (Int.gcd g x : Int)) (c.natAbs * g) = c.natAbs * v.foldl (fun g x => (Int.gcd g x : Int)) g
  | [], g, _ => rfl
  | a :: v, g, hg => by
    show (v.map (c * ·)).foldl (fun g x => (Int.gcd g x : Int)) (Int.gcd ((c.natAbs : Int) * g) (c * a) : Int) = _
    have : (Int.gcd ((c.natAbs : Int) * g) (c * a) : Int) = (c.natAbs : Int) * (Int.gcd g a : Int) := by
      have e : Int.gcd ((c.natAbs : Int) * g) (c * a) = c.natAbs * Int.gcd g a := by
        rw [show Int.gcd ((c.natAbs : Int) * g) (c * a) = Nat.gcd (((c.natAbs : Int) * g).natAbs) ((c * a).natAbs) from rfl, Int.natAbs_mul, Int.natAbs_mul, Int.natAbs_natCast, Nat.gcd_mul_left]
        rfl
      rw [e, Int.natCast_mul]
    rw [this]
    exact gl_from_mul c v _ (Int.natCast_nonneg _)
theorem gl_mul (c : Int) (v : List Int) : gl (v.map (c * ·)) = c.natAbs * gl v := by
  have := gl_from_mul c v 0 (Int.le_refl _)
  rwa [Int.mul_zero] at this
theorem gl_zero {v : List Int} : gl v = 0 ↔ ∀ x ∈ v, x = 0 := by
  refine ⟨fun h x hx => ?_, fun h => ?_⟩
  · have := gl_dvd hx
    rw [h] at this
    exact Int.zero_dvd.1 this
  · have key : ∀ (v : List Int), (∀ x ∈ v, x = 0) → v.foldl (fun g x => (Int.gcd g x : Int)) 0 = 0 := fun v => by
      induction v with
      | nil => intro _; rfl
      | cons a v ih =>
        intro h
        have ha := h a List.mem_cons_self
        subst ha
        exact ih fun x hx => h x (List.mem_cons_of_mem _ hx)
    exact key v h
theorem fnz_from : ∀ (v : List Int) (f : Int), f ≠ 0 → v.foldl (fun f x => if f = 0 then x else f) f = f
  | [], f, _ => rfl
  | a :: v, f, h => by
    show v.foldl (fun f x => if f = 0 then x else f) (if f = 0 then a else f) = f
    rw [if_neg h]
    exact fnz_from v f h
theorem fnz_cons (a : Int) (v : List Int) : fnz (a :: v) = if a = 0 then fnz v else a := by
  show v.foldl (fun f x => if f = 0 then x else f) (if (0 : Int) = 0 then a else 0) = _
  rw [if_pos rfl]
  by_cases h : a = 0
  · rw [if_pos h, h]; rfl
  · rw [if_neg h]; exact fnz_from v a h
theorem fnz_mul {c : Int} (hc : c ≠ 0) (v : List Int) : fnz (v.map (c * ·)) = c * fnz v := by
  induction v with
  | nil => show (0 : Int) = c * 0; omega
  | cons a v ih =>
    rw [List.map_cons, fnz_cons, fnz_cons, ih]
    by_cases h : a = 0
    · rw [if_pos (by rw [h]; omega), if_pos h]
    · rw [if_neg (fun e => by rcases Int.mul_eq_zero.1 e with e | e; exact hc e; exact h e), if_neg h]
theorem fnz_zero {v : List Int} : fnz v = 0 ↔ ∀ x ∈ v, x = 0 := by
  induction v with
  | nil => exact ⟨fun _ x hx => (by cases hx), fun _ => rfl⟩
  | cons a v ih =>
    rw [fnz_cons]
    by_cases h : a = 0
    · rw [if_pos h, ih]
      exact ⟨fun hv x hx => by rcases List.mem_cons.1 hx with e | e; rw [e, h]; exact hv x e, fun hv x hx => hv x (List.mem_cons_of_mem _ hx)⟩
    · rw [if_neg h]
      exact ⟨fun e => absurd e h, fun hv => absurd (hv a List.mem_cons_self) h⟩
theorem sg_zero {v : List Int} : sg v = 0 ↔ gl v = 0 := by unfold sg; split <;> omega
theorem sg_dvd {v : List Int} {x : Int} (hx : x ∈ v) : sg v ∣ x := by
  unfold sg
  split
  · exact Int.neg_dvd.2 (gl_dvd hx)
  · exact gl_dvd hx
theorem sg_mul {c : Int} (hc : c ≠ 0) (v : List Int) : sg (v.map (c * ·)) = c * sg v := by
  unfold sg
  rw [fnz_mul hc, gl_mul]
  have h1 := gl_nonneg v
  by_cases hz : fnz v = 0
  · have : gl v = 0 := gl_zero.2 (fnz_zero.1 hz)
    rw [this, hz]; simp
  · rcases Int.lt_or_gt_of_ne hc with h | h
    · have hn : (c.natAbs : Int) = -c := by omega
      rw [hn]
      rcases Int.lt_or_gt_of_ne hz with g | g
      · have := Int.mul_pos_of_neg_of_neg h g
        rw [if_neg (by omega), if_pos g]; grind
      · have := Int.mul_neg_of_neg_of_pos h g
        rw [if_pos (by omega), if_neg (by omega)]; grind
    · have hn : (c.natAbs : Int) = c := by omega
      rw [hn]
      rcases Int.lt_or_gt_of_ne hz with g | g
      · have := Int.mul_neg_of_pos_of_neg h g
        rw [if_pos (by omega), if_pos g]; grind
      · have := Int.mul_pos h g
        rw [if_neg (by omega), if_neg (by omega)]
theorem prim_len (v : List Int) : (prim v).length = v.length := by unfold prim; split <;> simp
theorem prim_eq (v : List Int) : v = (prim v).map ((if gl v = 0 then 1 else sg v) * ·) := by
  unfold prim
  split
  · simp
  · rename_i h
    rw [List.map_map]
    conv => lhs; rw [← List.map_id v]
    exact List.map_congr_left fun x hx => (Int.mul_tdiv_cancel' (sg_dvd hx)).symm
theorem prim_mul {c : Int} (hc : c ≠ 0) {v : List Int} (hv : gl v ≠ 0) : prim (v.map (c * ·)) = prim v := by
  unfold prim
  have h1 : gl (v.map (c * ·)) ≠ 0 := by
    rw [gl_mul]
    intro e
    rcases Int.mul_eq_zero.1 e with e | e
    · omega
    · exact hv e
  rw [if_neg h1, if_neg hv, List.map_map, sg_mul hc]
  refine List.map_congr_left fun x hx => ?_
  show Int.tdiv (c * x) (c * sg v) = _
  obtain ⟨q, hq⟩ := sg_dvd hx
  have hs : sg v ≠ 0 := fun e => hv (sg_zero.1 e)
  rw [hq, Int.mul_tdiv_cancel_left q hs, ← Int.mul_assoc, Int.mul_tdiv_cancel_left q fun e => by
    rcases Int.mul_eq_zero.1 e with e | e
    · exact hc e
    · exact hs e]
def Par (u v : List Int) : Prop := u.length = v.length ∧ ∃ a b : Int, a ≠ 0 ∧ b ≠ 0 ∧ ∀ k : Nat, a * u.getD k 0 = b * v.getD k 0
theorem map_ext {u v : List Int} {a b : Int} (hl : u.length = v.length) (h : ∀ k : Nat, a * u.getD k 0 = b * v.getD k 0) : u.map (a * ·) = v.map (b * ·) := by
  refine List.ext_getElem (by simpa using hl) fun k h1 h2 => ?_
  have h1 : k < u.length := by simpa using h1
  have h2 : k < v.length := by simpa using h2
  have := h k
  simp only [List.getD_eq_getElem?_getD, List.getElem?_eq_getElem h1, List.getElem?_eq_getElem h2, Option.getD_some] at this
  simpa using this
theorem Par.prim {u v : List Int} (h : Par u v) : prim u = prim v := by
  obtain ⟨hl, a, b, ha, hb, h⟩ := h
  have hm := map_ext hl h
  by_cases hu : gl u = 0
  · have hv : gl v = 0 := by
      have := congrArg gl hm
      rw [gl_mul, gl_mul, hu] at this
      have : (b.natAbs : Int) * gl v = 0 := by omega
      rcases Int.mul_eq_zero.1 this with e | e
      · omega
      · exact e
    have e1 : Mx.prim u = u := if_pos hu
    have e2 : Mx.prim v = v := if_pos hv
    rw [e1, e2]
    have z1 := gl_zero.1 hu
    have z2 := gl_zero.1 hv
    refine List.ext_getElem hl fun k h1 h2 => ?_
    rw [z1 _ (List.getElem_mem h1), z2 _ (List.getElem_mem h2)]
  · have hv : gl v ≠ 0 := fun hv => hu (by
      have := congrArg gl hm
      rw [gl_mul, gl_mul, hv] at this
      have : (a.natAbs : Int) * gl u = 0 := by omega
      rcases Int.mul_eq_zero.1 this with e | e
      · omega
      · exact e)
    rw [← prim_mul ha hu, hm, prim_mul hb hv]
theorem Par.refl (u : List Int) : Par u u := ⟨rfl, 1, 1, by decide, by decide, fun _ => rfl⟩
theorem getD_map_mul (c : Int) (v : List Int) (k : Nat) : (v.map (c * ·)).getD k 0 = c * v.getD k 0 := by
  simp only [List.getD_eq_getElem?_getD, List.getElem?_map]
  cases v[k]? <;> simp
theorem prim_fac (v : List Int) : ∃ t : Int, t ≠ 0 ∧ ∀ k : Nat, v.getD k 0 = t * (prim v).getD k 0 := by
  refine ⟨if gl v = 0 then 1 else sg v, ?_, fun k => ?_⟩
  · split
    · decide
    · rename_i h
      exact fun e => h (sg_zero.1 e)
  · conv => lhs; rw [prim_eq v]
    exact getD_map_mul ..
theorem prim_zero_iff (v : List Int) (k : Nat) : (prim v).getD k 0 = 0 ↔ v.getD k 0 = 0 := by
  obtain ⟨t, ht, h⟩ := prim_fac v
  rw [h k]
  refine ⟨fun e => by rw [e, Int.mul_zero], fun e => ?_⟩
  rcases Int.mul_eq_zero.1 e with e | e
  · exact absurd e ht
  · exact e
theorem prim_le (v : List Int) {B : Int} (hB : ∀ k : Nat, (v.getD k 0).natAbs ≤ B) (k : Nat) : ((prim v).getD k 0).natAbs ≤ B := by
  obtain ⟨t, ht, h⟩ := prim_fac v
  have h1 := hB k
  rw [h k, Int.natAbs_mul] at h1
  have h2 : 1 ≤ t.natAbs := by omega
  have h3 : 1 * ((prim v).getD k 0).natAbs ≤ t.natAbs * ((prim v).getD k 0).natAbs := Nat.mul_le_mul_right _ h2
  omega
end Go.Mx
end
section
set_option linter.unusedVariables false
set_option linter.unusedSimpArgs false
set_option linter.unnecessarySimpa false
open Go Go.Fw Go.Mx
namespace Go.Proofs.Ytghofbijdnenoaa
theorem nz_ok {x : Int} (h : x ≠ 0) : nz x = some () := by unfold nz; rw [if_pos h]
theorem tmod_cast (a b : Nat) : Int.tmod (a : Int) (b : Int) = ((a % b : Nat) : Int) := (Int.ofNat_tmod a b).symm
theorem euclid {bm : Int × Int → Option ((Int × Int) ⊕ Int)} (h0 : ∀ a : Nat, bm ((a : Int), ((0 : Nat) : Int)) = some (.inr (a : Int))) (h1 : ∀ a b : Nat, 0 < b → bm ((a : Int), (b : Int)) = some (.inl ((b : Int), ((a % b : Nat) : Int)))) :
    ∀ (m a b f : Nat), b < 2 ^ m → 2 * m + 1 ≤ f → loopM bm f ((a : Int), (b : Int)) = some ((Nat.gcd a b : Nat) : Int) := by
  intro m
  induction m with
  | zero =>
    intro a b f hb hf
    have : b = 0 := by simp at hb; omega
    subst this
    obtain ⟨f, rfl⟩ : ∃ g, f = g + 1 := ⟨f - 1, by omega⟩
    unfold loopM
    rw [h0, Nat.gcd_zero_right]
  | succ m ih =>
    intro a b f hb hf
    obtain ⟨f, rfl⟩ : ∃ g, f = g + 2 := ⟨f - 2, by omega⟩
    by_cases hb0 : b = 0
    · subst hb0
      unfold loopM
      rw [h0, Nat.gcd_zero_right]
    · unfold loopM
      rw [h1 a b (by omega)]
      show loopM bm (f + 1) ((b : Int), ((a % b : Nat) : Int)) = _
      have e1 : Nat.gcd a b = Nat.gcd b (a % b) := by rw [Nat.gcd_comm b, ← Nat.gcd_rec, Nat.gcd_comm]
      rw [e1]
      by_cases hc0 : a % b = 0
      · rw [hc0]
        unfold loopM
        rw [h0, Nat.gcd_zero_right]
      · unfold loopM
        rw [h1 b (a % b) (by omega)]
        show loopM bm f (((a % b : Nat) : Int), ((b % (a % b) : Nat) : Int)) = _
        have e2 : Nat.gcd b (a % b) = Nat.gcd (a % b) (b % (a % b)) := by rw [Nat.gcd_comm (a % b), ← Nat.gcd_rec, Nat.gcd_comm]
        rw [e2]
        refine ih _ _ f ?_ (by omega)
        have hlt : a % b < b := Nat.mod_lt _ (by omega)
        have hlt2 : b % (a % b) < a % b := Nat.mod_lt _ (by omega)
        have hle : (a % b) + b % (a % b) ≤ b := by
          have := Nat.div_add_mod b (a % b)
          have hq : 1 ≤ b / (a % b) := Nat.div_pos (by omega) (by omega)
          have := Nat.mul_le_mul_left (a % b) hq
          omega
        rw [Nat.pow_succ] at hb
        omega
def Small (B : Int) (x : Int) : Prop := -B ≤ x ∧ x ≤ B
def G9 : Int := 9000000000000000000
theorem great_eq {x : Int} (h : Small G9 x) : m_impl_isGreat x = some false := by
  unfold Small G9 at h
  unfold m_impl_isGreat
  rw [decide_eq_false (by omega), cond_false, decide_eq_false (by omega)]
  rfl
theorem abs_if {x : Int} (h : Small G9 x) : (if x < w64 (-x) then w64 (-x) else x) = ((x.natAbs : Nat) : Int) := by
  unfold Small G9 at h
  rw [w64_id (by omega) (by omega)]
  split <;> omega
theorem natAbs_lt {x : Int} (h : Small G9 x) : x.natAbs < 2 ^ 63 := by
  unfold Small G9 at h
  have : (2 : Nat) ^ 63 = 9223372036854775808 := by decide
  omega
theorem BIG_big : 1000 ≤ BIG := by unfold BIG; omega
theorem gcdI_eq {a b : Int} (ha : Small G9 a) (hb : Small G9 b) : m_impl_GcdOf a b = some (Int.gcd a b : Int) := by
  unfold m_impl_GcdOf
  simp only [great_eq ha, great_eq hb, Option.bind_some, cond_false, abs_if ha, abs_if hb]
  rw [euclid (fun a => by simp [m_impl_GcdOf_L1]) (fun a b h => by
    have hb : ((b : Int) != 0) = true := by simp; omega
    unfold m_impl_GcdOf_L1
    rw [hb, cond_true, nz_ok (by show (b : Int) ≠ 0; omega), Option.bind_some, tmod_cast]) 63 a.natAbs b.natAbs BIG (natAbs_lt hb) (by have := BIG_big; omega)]
  rfl
theorem gcdS_eq {a b : Int} (ha : Small G9 a) (hb : Small G9 b) : m_spec_GcdOf a b = some (Int.gcd a b : Int) := by
  have ha' := ha
  have hb' := hb
  unfold Small G9 at ha' hb'
  unfold m_spec_GcdOf
  simp only [l1In_eq, Option.bind_some]
  rw [decide_eq_true (show -9000000000000000000 ≤ a by omega), decide_eq_true (show a ≤ 9000000000000000000 by omega), decide_eq_true (show -9000000000000000000 ≤ b by omega), decide_eq_true (show b ≤ 9000000000000000000 by omega)]
  simp only [Bool.and_self, Bool.not_true, cond_false, Option.bind_some, abs_if ha, abs_if hb]
  rw [euclid (fun a => by simp [m_spec_GcdOf_L1]) (fun a b h => by
    unfold m_spec_GcdOf_L1
    rw [decide_eq_true (by show 0 < (b : Int); omega), cond_true, nz_ok (by show (b : Int) ≠ 0; omega), Option.bind_some, tmod_cast]) 63 a.natAbs b.natAbs BIG (natAbs_lt hb) (by have := BIG_big; omega)]
  rfl
def SmallL (B : Int) (v : List Int) : Prop := ∀ x ∈ v, Small B x
theorem fold_take {β : Type} (f : β → Int → β) (b : β) {v : List Int} {k : Nat} (hk : k < v.length) : (v.take (k + 1)).foldl f b = f ((v.take k).foldl f b) v[k] := by
  rw [take_get hk, List.foldl_append]; rfl
theorem gl_take_small {v : List Int} (h : SmallL G9 v) (k : Nat) : Small G9 (gl (v.take k)) := by
  have h0 := gl_nonneg (v.take k)
  refine ⟨by unfold G9; omega, ?_⟩
  by_cases hz : gl (v.take k) = 0
  · rw [hz]; unfold G9; omega
  · have : ¬ ∀ x ∈ v.take k, x = 0 := fun e => hz (gl_zero.2 e)
    obtain ⟨x, hx⟩ := Classical.not_forall.1 this
    obtain ⟨hx1, hx2⟩ := Classical.not_imp.1 hx
    have hd := gl_dvd hx1
    have hs := h x (List.mem_of_mem_take hx1)
    have := Int.le_of_dvd (by omega : (0 : Int) < x.natAbs) (Int.dvd_natAbs.2 hd)
    unfold Small at hs
    omega
theorem sg_small {v : List Int} (h : SmallL G9 v) : Small G9 (sg v) := by
  have := gl_take_small h v.length
  rw [List.take_length] at this
  have h0 := gl_nonneg v
  unfold Small at this ⊢
  unfold sg
  split <;> omega
theorem tdiv_small {x g : Int} (hx : Small G9 x) (hg : g ≠ 0) (hd : g ∣ x) : w64 (Int.tdiv x g) = Int.tdiv x g := by
  obtain ⟨q, hq⟩ := hd
  have e : Int.tdiv x g = q := by rw [hq, Int.mul_tdiv_cancel_left q hg]
  rw [e]
  have h2 : (q.natAbs : Int) ≤ x.natAbs := by
    rw [hq, Int.natAbs_mul]
    have : 1 * q.natAbs ≤ g.natAbs * q.natAbs := Nat.mul_le_mul_right _ (by omega)
    omega
  unfold Small G9 at hx
  exact w64_id (by omega) (by omega)
theorem primI_eq (v : List Int) (hl : SM v.length) (h : SmallL G9 v) : m_impl_PrimitiveVector v = some (prim v) := by
  unfold m_impl_PrimitiveVector
  rw [copyInts_eq v hl, Option.bind_some]
  have hL1 : loopM (m_impl_PrimitiveVector_L1 v v) BIG (0, 0, 0) = some (.inl (gl v, fnz v, v)) := by
    refine loopM_run (fun k => (gl (v.take k), fnz (v.take k), (k : Int))) v.length (by omega) (by simp [gl, fnz]) (fun k hk => ?_) ?_
    · have hs := h v[k] (List.getElem_mem hk)
      have e1 : gl (v.take (k + 1)) = (Int.gcd (gl (v.take k)) v[k] : Int) := fold_take _ _ hk
      have e2 : fnz (v.take (k + 1)) = if fnz (v.take k) = 0 then v[k] else fnz (v.take k) := fold_take _ _ hk
      unfold m_impl_PrimitiveVector_L1
      simp only [idx_at hk, great_eq hs, gcdI_eq (gl_take_small h k) hs, Option.bind_some, cond_false, w64_succ (show k ≤ 1099511627776 by omega)]
      rw [decide_eq_true (by omega), cond_true, e1, e2]
      by_cases hz : fnz (v.take k) = 0
      · rw [hz, if_pos rfl]; rfl
      · rw [if_neg hz, show (fnz (v.take k) == 0) = false by simp [hz]]; rfl
    · unfold m_impl_PrimitiveVector_L1
      simp only [List.take_length]
      rw [decide_eq_false (by omega), cond_false]
  rw [hL1, Option.bind_some]
  show (bif gl v == 0 then some v else _) = _
  by_cases hz : gl v = 0
  · rw [hz]
    show some v = some (prim v)
    rw [prim, if_pos hz]
  · rw [show (gl v == 0) = false by simp [hz], cond_false]
    have hj : (bif decide (fnz v < 0) then some (w64 (-gl v)) else some (gl v)) = some (sg v) := by
      have := sg_small h
      unfold Small G9 sg at this
      unfold sg
      by_cases hn : fnz v < 0
      · rw [decide_eq_true hn, cond_true, if_pos hn, w64_id (by rw [if_pos hn] at this; omega) (by rw [if_pos hn] at this; omega)]
      · rw [decide_eq_false hn, cond_false, if_neg hn]
    show ((bif decide (fnz v < 0) then some (w64 (-gl v)) else some (gl v)) : Option Int).bind _ = _
    rw [hj, Option.bind_some]
    have hsg : sg v ≠ 0 := fun e => hz (sg_zero.1 e)
    have hL2 : loopM (m_impl_PrimitiveVector_L2 (gl v, fnz v, v) (sg v)) BIG (0, v) = some (prim v) := by
      have e0 : prim v = v.map fun x => Int.tdiv x (sg v) := by rw [prim, if_neg hz]
      rw [e0]
      refine loopM_run (fun k => ((k : Int), (v.take k).map (fun x => Int.tdiv x (sg v)) ++ v.drop k)) v.length (by omega) (by simp) (fun k hk => ?_) ?_
      · have htl : (v.take k).length = k := by rw [List.length_take]; omega
        have hi : idx ((v.take k).map (fun x => Int.tdiv x (sg v)) ++ v.drop k) (k : Int) = some v[k] := by
          apply idx_of
          rw [List.getElem?_append_right (by rw [List.length_map, htl]; exact Nat.le_refl _), List.length_map, htl, Nat.sub_self, List.getElem?_drop, Nat.add_zero, List.getElem?_eq_getElem hk]
        unfold m_impl_PrimitiveVector_L2
        simp only [hi, nz_ok hsg, Option.bind_some, Int.toNat_natCast, w64_succ (show k ≤ 1099511627776 by omega), tdiv_small (h v[k] (List.getElem_mem hk)) hsg (sg_dvd (List.getElem_mem hk))]
        rw [decide_eq_true (by omega), cond_true, take_get hk, List.map_append]
        congr 3
        rw [List.set_append_right _ _ (by rw [List.length_map, htl]; exact Nat.le_refl _), List.length_map, htl, Nat.sub_self, List.drop_eq_getElem_cons hk, List.set_cons_zero]
        simp
      · unfold m_impl_PrimitiveVector_L2
        rw [decide_eq_false (by simp), cond_false]
        simp
    rw [hL2]
    rfl
theorem primS_eq (v : List Int) (hl : SM v.length) (h : SmallL G9 v) : m_spec_PrimitiveVector v = some (prim v) := by
  unfold m_spec_PrimitiveVector
  have hL1 : loopM (m_spec_PrimitiveVector_L1 v) BIG (0, 0) = some (.inl (gl v)) := by
    refine loopM_run (fun k => (gl (v.take k), (k : Int))) v.length (by omega) (by simp [gl]) (fun k hk => ?_) ?_
    · have hs := h v[k] (List.getElem_mem hk)
      have hs' := hs
      unfold Small G9 at hs'
      have e1 : gl (v.take (k + 1)) = (Int.gcd (gl (v.take k)) v[k] : Int) := fold_take _ _ hk
      unfold m_spec_PrimitiveVector_L1
      simp only [idx_at hk, l1In_eq, gcdS_eq (gl_take_small h k) hs, Option.bind_some, w64_succ (show k ≤ 1099511627776 by omega)]
      rw [decide_eq_true (show (k : Int) < (v.length : Int) by omega), decide_eq_true (show -9000000000000000000 ≤ v[k] by omega), decide_eq_true (show v[k] ≤ 9000000000000000000 by omega), e1]
      rfl
    · unfold m_spec_PrimitiveVector_L1
      simp only [List.take_length]
      rw [decide_eq_false (by omega), cond_false]
  rw [hL1, Option.bind_some]
  show (bif gl v == 0 then _ else _) = _
  have hl0 : lim (([] : List Int).length + v.length) = some () := lim_ok (by simp; exact hl)
  by_cases hz : gl v = 0
  · rw [hz]
    show (lim (([] : List Int).length + v.length)).bind _ = some (prim v)
    rw [hl0, prim, if_pos hz]
    rfl
  · rw [show (gl v == 0) = false by simp [hz], cond_false]
    have hL2 : loopM (m_spec_PrimitiveVector_L2 v (gl v)) BIG (0, 0) = some (gl v, fnz v) := by
      refine loopM_run (fun k => (fnz (v.take k), (k : Int))) v.length (by omega) (by simp [fnz]) (fun k hk => ?_) ?_
      · have e2 : fnz (v.take (k + 1)) = if fnz (v.take k) = 0 then v[k] else fnz (v.take k) := fold_take _ _ hk
        unfold m_spec_PrimitiveVector_L2
        simp only [idx_at hk, Option.bind_some, w64_succ (show k ≤ 1099511627776 by omega)]
        rw [decide_eq_true (by omega), cond_true, e2]
        by_cases hz : fnz (v.take k) = 0
        · rw [hz, if_pos rfl]; rfl
        · rw [if_neg hz, show (fnz (v.take k) == 0) = false by simp [hz]]; rfl
      · unfold m_spec_PrimitiveVector_L2
        simp only [List.take_length]
        rw [decide_eq_false (by omega), cond_false]
    rw [hL2, Option.bind_some]
    have hj : (bif decide (fnz v < 0) then some (w64 (-gl v)) else some (gl v)) = some (sg v) := by
      have := sg_small h
      unfold Small G9 sg at this
      unfold sg
      by_cases hn : fnz v < 0
      · rw [decide_eq_true hn, cond_true, if_pos hn, w64_id (by rw [if_pos hn] at this; omega) (by rw [if_pos hn] at this; omega)]
      · rw [decide_eq_false hn, cond_false, if_neg hn]
    show ((bif decide (fnz v < 0) then some (w64 (-gl v)) else some (gl v)) : Option Int).bind _ = _
    rw [hj, Option.bind_some]
    have hsg : sg v ≠ 0 := fun e => hz (sg_zero.1 e)
    have hL3 : loopM (m_spec_PrimitiveVector_L3 v (sg v)) BIG (0, []) = some (prim v) := by
      have e0 : prim v = v.map fun x => Int.tdiv x (sg v) := by rw [prim, if_neg hz]
      rw [e0]
      refine loopM_run (fun k => ((k : Int), (v.take k).map (fun x => Int.tdiv x (sg v)))) v.length (by omega) (by simp) (fun k hk => ?_) ?_
      · have htl : (v.take k).length = k := by rw [List.length_take]; omega
        have hlm : lim (((v.take k).map (fun x => Int.tdiv x (sg v))).length + ([Int.tdiv v[k] (sg v)] : List Int).length) = some () := lim_ok (by simp; omega)
        unfold m_spec_PrimitiveVector_L3
        simp only [idx_at hk, nz_ok hsg, Option.bind_some, w64_succ (show k ≤ 1099511627776 by omega), tdiv_small (h v[k] (List.getElem_mem hk)) hsg (sg_dvd (List.getElem_mem hk)), hlm]
        rw [decide_eq_true (by omega), cond_true, take_get hk, List.map_append]
        rfl
      · unfold m_spec_PrimitiveVector_L3
        simp only [List.take_length]
        rw [decide_eq_false (by omega), cond_false]
    rw [hL3]
    rfl
end Go.Proofs.Ytghofbijdnenoaa
end
section
set_option linter.unusedVariables false
set_option linter.unusedSimpArgs false
set_option linter.unnecessarySimpa false
open Go Go.Fw Go.Mx
namespace Go.Proofs.Ytghofbijdnenoaa
def mix {α : Type} (u v : List α) (i : Nat) : List α := u.take i ++ v.drop i
section
variable {α : Type} {u v : List α} {i j : Nat}
theorem mix_len (h : u.length = v.length) (hi : i ≤ v.length) : (mix u v i).length = v.length := by
  unfold mix
  rw [List.length_append, List.length_take, List.length_drop]
  omega
theorem mix_zero : mix u v 0 = v := by simp [mix]
theorem mix_full (h : u.length = v.length) : mix u v v.length = u := by
  unfold mix
  rw [List.drop_length, List.append_nil, ← h, List.take_length]
theorem mix_get (d : α) (h : u.length = v.length) (hi : i ≤ v.length) : (mix u v i).getD j d = if j < i then u.getD j d else v.getD j d := by
  unfold mix
  simp only [List.getD_eq_getElem?_getD]
  have hl : (u.take i).length = i := by rw [List.length_take]; omega
  by_cases hj : j < i
  · rw [if_pos hj, List.getElem?_append_left (by omega), List.getElem?_take, if_pos hj]
  · rw [if_neg hj, List.getElem?_append_right (by omega), hl, List.getElem?_drop, show i + (j - i) = j by omega]
theorem mix_set {d x : α} (h : u.length = v.length) (hi : i < v.length) (hx : u.getD i d = x) : (mix u v i).set i x = mix u v (i + 1) := by
  subst hx
  unfold mix
  have hl : (u.take i).length = i := by rw [List.length_take]; omega
  rw [List.set_append_right _ _ (by omega), hl, Nat.sub_self, List.drop_eq_getElem_cons hi, List.set_cons_zero, take_get (by omega), List.append_assoc]
  congr 1
  simp [List.getD_eq_getElem?_getD, List.getElem?_eq_getElem (show i < u.length by omega)]
theorem mix_skip {d : α} (h : u.length = v.length) (hi : i < v.length) (hx : u.getD i d = v.getD i d) : mix u v i = mix u v (i + 1) := by
  rw [← mix_set (d := d) h hi rfl, hx]
  refine (List.ext_getElem? fun j => ?_).symm
  rw [List.getElem?_set]
  by_cases hj : i = j
  · subst hj
    have hl := mix_len h (i := i) (by omega)
    rw [if_pos rfl, if_pos (by omega)]
    have := mix_get (j := i) d h (i := i) (by omega)
    rw [if_neg (by omega)] at this
    rw [← this]
    simp [List.getD_eq_getElem?_getD, List.getElem?_eq_getElem (show i < (mix u v i).length by omega)]
  · rw [if_neg hj]
end
theorem idxD {α : Type} {l : List α} {k : Nat} (d : α) (h : k < l.length) : idx l (k : Int) = some (l.getD k d) := by
  rw [idx_at h]
  simp [List.getD_eq_getElem?_getD, List.getElem?_eq_getElem h]
theorem setD_same {α : Type} {l : List α} {k : Nat} (d : α) (h : k < l.length) : l.set k (l.getD k d) = l := by
  refine List.ext_getElem? fun j => ?_
  rw [List.getElem?_set]
  by_cases hj : k = j
  · subst hj
    rw [if_pos rfl, if_pos h]
    simp [List.getD_eq_getElem?_getD, List.getElem?_eq_getElem h]
  · rw [if_neg hj]
def BB : Nat := 2000000000
theorem mul_b {x y : Int} (hx : x.natAbs ≤ BB) (hy : y.natAbs ≤ BB) : (x * y).natAbs ≤ 4000000000000000000 := by
  rw [Int.natAbs_mul]
  have := Nat.mul_le_mul hx hy
  unfold BB at this
  omega
theorem w64_mul {x y : Int} (hx : x.natAbs ≤ BB) (hy : y.natAbs ≤ BB) : w64 (x * y) = x * y := by
  have := mul_b hx hy
  exact w64_id (by omega) (by omega)
theorem w64_cross {a b c d : Int} (ha : a.natAbs ≤ BB) (hb : b.natAbs ≤ BB) (hc : c.natAbs ≤ BB) (hd : d.natAbs ≤ BB) : w64 (w64 (a * b) - w64 (c * d)) = a * b - c * d ∧ (a * b - c * d).natAbs ≤ 8000000000000000000 := by
  rw [w64_mul ha hb, w64_mul hc hd]
  have := mul_b ha hb
  have := mul_b hc hd
  exact ⟨w64_id (by omega) (by omega), by omega⟩
theorem w64_tdiv {x y : Int} (hx : x.natAbs ≤ 8000000000000000000) : w64 (Int.tdiv x y) = Int.tdiv x y := by
  have : (Int.tdiv x y).natAbs ≤ x.natAbs := by
    rw [Int.natAbs_tdiv]
    exact Nat.div_le_self _ _
  exact w64_id (by omega) (by omega)
structure BndS (s : BS) : Prop where
  ent : ∀ i k : Nat, (at2 s.a i k).natAbs ≤ BB
  last : s.last.natAbs ≤ BB
def Tame (n : Nat) (M : Mat) : Prop := ∀ c, c ≤ n → BndS (bred n M c)
theorem elimI_eq {n : Nat} {a : Mat} {i r : Nat} {d f last c len : Int} {pivs : List Int} (hn : n ≤ 1000000) (hi : i < a.length) (hr : r < a.length) (hir : i ≠ r) (hri : (a.getD i []).length = n) (hrr : (a.getD r []).length = n)
    (hd : d.natAbs ≤ BB) (hf : f.natAbs ≤ BB) (hl : last ≠ 0) (hb : ∀ k : Nat, (at2 a i k).natAbs ≤ BB) (hb2 : ∀ k : Nat, (at2 a r k).natAbs ≤ BB) :
    loopM (m_impl_reduced_L14 (n : Int) ((i : Int), last, c, (r : Int), d, len, pivs, a) f) BIG (0, a) = some (last, c, (r : Int), d, len, (i : Int), a.set i (elim n d f last (a.getD i []) (a.getD r [])), pivs) := by
  have hel : (elim n d f last (a.getD i []) (a.getD r [])).length = (a.getD i []).length := by rw [elim, vec_len, hri]
  refine loopM_run (fun k => ((k : Int), a.set i (mix (elim n d f last (a.getD i []) (a.getD r [])) (a.getD i []) k))) n (by omega) (by simp only [mix_zero]; rw [setD_same [] hi]; rfl) (fun k hk => ?_) ?_
  · have hl1 : (a.set i (mix (elim n d f last (a.getD i []) (a.getD r [])) (a.getD i []) k)).length = a.length := by simp
    have e1 := idxD (l := a.set i (mix (elim n d f last (a.getD i []) (a.getD r [])) (a.getD i []) k)) [] (show i < _ by rw [hl1]; exact hi)
    have e2 := idxD (l := a.set i (mix (elim n d f last (a.getD i []) (a.getD r [])) (a.getD i []) k)) [] (show r < _ by rw [hl1]; exact hr)
    rw [getD_set hi, if_pos rfl] at e1
    rw [getD_set hi, if_neg hir] at e2
    have hml := mix_len hel (i := k) (by omega)
    have e3 := idxD (l := mix (elim n d f last (a.getD i []) (a.getD r [])) (a.getD i []) k) 0 (show k < _ by omega)
    rw [mix_get 0 hel (by omega), if_neg (by omega)] at e3
    have e4 := idxD (l := a.getD r []) 0 (show k < _ by omega)
    obtain ⟨w1, w2⟩ := w64_cross hd (hb k) hf (hb2 k)
    unfold at2 at w1 w2
    unfold m_impl_reduced_L14
    simp only [e1, e2, e3, e4, nz_ok hl, Option.bind_some, Int.toNat_natCast, w64_succ (show k ≤ 1099511627776 by omega), w1, w64_tdiv w2]
    rw [decide_eq_true (by omega), cond_true, List.set_set]
    congr 3
    rw [mix_set (d := 0) hel (by omega)]
    rw [elim, vec_get _ hk]
  · unfold m_impl_reduced_L14
    have := mix_full hel
    rw [hri] at this
    simp only [this]
    rw [decide_eq_false (by omega), cond_false]
theorem stepI_eq {n : Nat} {a : Mat} {r c : Nat} {d last : Int} {pivs : List Int} (hn : n ≤ 1000000) (ha : a.length ≤ 1000000) (hr : r < a.length) (hcn : c < n) (hrows : RowsN n a)
    (hd : d.natAbs ≤ BB) (hl : last ≠ 0) (hb : ∀ i k : Nat, (at2 a i k).natAbs ≤ BB) :
    loopM (m_impl_reduced_L13 (n : Int)) BIG (0, last, (c : Int), (r : Int), d, (a.length : Int), pivs, a) =
      some ((c : Int), d, (a.mapIdx fun i row => if i = r then row else elim n d (row.getD c 0) last row (a.getD r [])), pivs) := by
  generalize hu : (a.mapIdx fun i row => if i = r then row else elim n d (row.getD c 0) last row (a.getD r [])) = u
  have hul : u.length = a.length := by rw [← hu, List.length_mapIdx]
  have hug : ∀ i, i < a.length → u.getD i [] = if i = r then a.getD i [] else elim n d ((a.getD i []).getD c 0) last (a.getD i []) (a.getD r []) := fun i hi => by rw [← hu]; exact mapIdx_getD hi
  refine loopM_run (fun i => ((i : Int), last, (c : Int), (r : Int), d, (a.length : Int), pivs, mix u a i)) a.length (by omega) (by simp [mix_zero]) (fun i hi => ?_) ?_
  · have hml := mix_len hul (i := i) (by omega)
    unfold m_impl_reduced_L13
    by_cases hir : i = r
    · subst hir
      simp only [beq_self_eq_true, cond_true, w64_succ (show i ≤ 1099511627776 by omega)]
      rw [decide_eq_true (by omega), cond_true, mix_skip (d := []) hul hi (by rw [hug i hi, if_pos rfl])]
    · have e1 := idxD (l := mix u a i) [] (show i < _ by omega)
      rw [mix_get [] hul (by omega), if_neg (by omega)] at e1
      have e2 := idxD (l := a.getD i []) 0 (show c < _ by rw [hrows i hi]; exact hcn)
      have hgr : (mix u a i).getD r [] = a.getD r [] := by
        rw [mix_get [] hul (by omega)]
        split
        · rw [hug r hr, if_pos rfl]
        · rfl
      have hgi : (mix u a i).getD i [] = a.getD i [] := by rw [mix_get [] hul (by omega), if_neg (by omega)]
      have e3 := elimI_eq (a := mix u a i) (d := d) (f := (a.getD i []).getD c 0) (last := last) (c := (c : Int)) (len := (a.length : Int)) (pivs := pivs) hn (show i < _ by omega) (show r < _ by omega) hir (by rw [hgi]; exact hrows i hi) (by rw [hgr]; exact hrows r hr) hd (hb i c) hl
        (fun k => by unfold at2; rw [hgi]; exact hb i k) (fun k => by unfold at2; rw [hgr]; exact hb r k)
      rw [hgi, hgr] at e3
      have hne : ((i : Int) == (r : Int)) = false := by simp; omega
      simp only [hne, cond_false, e1, e2, e3, Option.bind_some, w64_succ (show i ≤ 1099511627776 by omega)]
      rw [decide_eq_true (by omega), cond_true, mix_set (d := []) hul hi (by rw [hug i hi, if_neg hir])]
  · unfold m_impl_reduced_L13
    simp only [mix_full hul]
    rw [decide_eq_false (by omega), cond_false]
def pivOr (a : Mat) (r c : Nat) : Nat := (pivAt a r c).getD a.length
theorem pivOr_le {a : Mat} {r c : Nat} (hr : r ≤ a.length) : r ≤ pivOr a r c ∧ pivOr a r c ≤ a.length ∧ (∀ j, r ≤ j → j < pivOr a r c → at2 a j c = 0) ∧ (pivOr a r c < a.length → at2 a (pivOr a r c) c ≠ 0) := by
  unfold pivOr
  cases h : pivAt a r c with
  | none => exact ⟨hr, Nat.le_refl _, fun j h1 h2 => pivAt_none h j h1 h2, fun h => absurd h (Nat.lt_irrefl _)⟩
  | some p =>
    obtain ⟨p1, p2, p3, p4⟩ := pivAt_some h
    exact ⟨p1, by simp; omega, p4, fun _ => p3⟩
theorem findI_eq {n : Nat} {a : Mat} {c : Nat} {last : Int} {pivs : List Int} (ha : a.length ≤ 1000000) (hr : pivs.length < a.length) (hcn : c < n) (hrows : RowsN n a) :
    loopM (m_impl_reduced_L10 ((c : Int), a, last, pivs)) BIG (pivs.length : Int) = some (last, (c : Int), (pivs.length : Int), (pivOr a pivs.length c : Int), a, pivs) := by
  obtain ⟨h1, h2, h3, h4⟩ := pivOr_le (a := a) (c := c) (show pivs.length ≤ a.length by omega)
  refine loopM_run (fun k => ((pivs.length + k : Nat) : Int)) (pivOr a pivs.length c - pivs.length) (by omega) (by simp) (fun k hk => ?_) ?_
  · have hlt : pivs.length + k < a.length := by omega
    have e1 := idxD (l := a) [] hlt
    have e2 := idxD (l := a.getD (pivs.length + k) []) 0 (show c < _ by rw [hrows _ hlt]; exact hcn)
    have e3 := h3 (pivs.length + k) (by omega) (by omega)
    unfold at2 at e3
    unfold m_impl_reduced_L10
    simp only [e1, e2, e3, Option.bind_some]
    rw [decide_eq_true (by omega), cond_true]
    simp only [beq_self_eq_true, Option.bind_some, cond_true]
    rw [w64_succ (by omega)]
    rfl
  · have e0 : ((pivs.length + (pivOr a pivs.length c - pivs.length) : Nat) : Int) = (pivOr a pivs.length c : Int) := by omega
    rw [e0]
    unfold m_impl_reduced_L10
    by_cases hlt : pivOr a pivs.length c < a.length
    · have e1 := idxD (l := a) [] hlt
      have e2 := idxD (l := a.getD (pivOr a pivs.length c) []) 0 (show c < _ by rw [hrows _ hlt]; exact hcn)
      have e3 := h4 hlt
      unfold at2 at e3
      simp only [e1, e2, Option.bind_some]
      rw [decide_eq_true (by omega), cond_true]
      rw [show (((a.getD (pivOr a pivs.length c) []).getD c 0) == 0) = false by simpa using e3]
      rfl
    · simp only []
      rw [decide_eq_false (by omega)]
      rfl
def castL (l : List Nat) : List Int := l.map fun (c : Nat) => (c : Int)
theorem castL_len (l : List Nat) : (castL l).length = l.length := by simp [castL]
theorem castL_snoc (l : List Nat) (c : Nat) : castL (l ++ [c]) = castL l ++ [(c : Int)] := by simp [castL]
theorem inv_rowsN {n : Nat} {M M' : Mat} {c : Nat} {s : BS} (h : BInv n M c s M') : RowsN n s.a := fun i hi => by
  rw [h.len] at hi
  by_cases hl : s.piv.length ≤ i
  · rw [h.lo i hl hi, arow, vec_len]
  · exact (h.hi i (by omega)).len
theorem swap_eq {a : Mat} {r p : Nat} (hr : r < a.length) (hp : p < a.length) : (a.set r (a.getD p [])).set p (a.getD r []) = swapR a r p := rfl
theorem at2_swap {n : Nat} {a : Mat} {r p : Nat} (hr : r < a.length) (hp : p < a.length) (hb : ∀ i k : Nat, (at2 a i k).natAbs ≤ BB) (i k : Nat) : (at2 (swapR a r p) i k).natAbs ≤ BB := by
  unfold at2
  rw [swapR_get hr hp]
  split
  · exact hb r k
  · split
    · exact hb p k
    · exact hb i k
theorem bred_stop {n c : Nat} {M : Mat} (h : ¬ (bred n M c).piv.length < (bred n M c).a.length) : ∀ j, bred n M (c + j) = bred n M c
  | 0 => rfl
  | j + 1 => by
    show bstep n (c + j) (bred n M (c + j)) = _
    rw [bred_stop h j]
    unfold bstep
    rw [if_neg h]
theorem redI_eq {n : Nat} {M : Mat} (hn : n ≤ 1000000) (hM : M.length ≤ 1000000) (hrows : RowsN n M) (hT : Tame n M) :
    loopM (m_impl_reduced_L9 (n : Int)) BIG (0, M, 1, []) = some ((bred n M n).last, (bred n M n).a, castL (bred n M n).piv) := by
  have key := loop_inv (b := m_impl_reduced_L9 (n : Int)) (s := (0, M, 1, [])) (fun k s => s = ((k : Int), (bred n M k).a, (bred n M k).last, castL (bred n M k).piv)) (fun r => r = ((bred n M n).last, (bred n M n).a, castL (bred n M n).piv)) n (by omega) rfl
    (fun c s hc hs => by
      subst hs
      obtain ⟨M', hI⟩ := bred_inv hrows c (by omega)
      have hB := hT c (by omega)
      have hrow := inv_rowsN hI
      have hal : (bred n M c).a.length = M.length := hI.len
      have hnext : bred n M (c + 1) = bstep n c (bred n M c) := rfl
      have hnz := hI.nz
      generalize hsd : bred n M c = s at *
      by_cases hlt : s.piv.length < s.a.length
      · left
        have hf := findI_eq (n := n) (a := s.a) (c := c) (last := s.last) (pivs := castL s.piv) (by omega) (by rw [castL_len]; exact hlt) hc hrow
        rw [castL_len] at hf
        unfold m_impl_reduced_L9
        simp only [castL_len]
        rw [decide_eq_true (show (c : Int) < (n : Int) by omega), cond_true, decide_eq_true (show (s.piv.length : Int) < (s.a.length : Int) by omega), Option.bind_some, cond_true, hf, Option.bind_some]
        obtain ⟨q1, q2, q3, q4⟩ := pivOr_le (a := s.a) (c := c) (show s.piv.length ≤ s.a.length by omega)
        cases hp : pivAt s.a s.piv.length c with
        | none =>
          have hpo : pivOr s.a s.piv.length c = s.a.length := by unfold pivOr; rw [hp]; rfl
          have hst : bred n M (c + 1) = s := by
            rw [hnext]
            unfold bstep
            rw [if_pos hlt, hp]
          refine ⟨_, ?_, rfl⟩
          rw [hst, hpo]
          simp only [beq_self_eq_true, cond_true, w64_succ (show c ≤ 1099511627776 by omega)]
        | some p =>
          have hpo : pivOr s.a s.piv.length c = p := by unfold pivOr; rw [hp]; rfl
          obtain ⟨p1, p2, p3, p4⟩ := pivAt_some hp
          rw [hpo]
          have hne : ((p : Int) == (s.a.length : Int)) = false := by simp; omega
          have e1 := idxD (l := s.a) [] p2
          have e2 := idxD (l := s.a) [] hlt
          have hsl : (swapR s.a s.piv.length p).length = s.a.length := swapR_len ..
          have e3 := idxD (l := swapR s.a s.piv.length p) [] (show s.piv.length < _ by rw [hsl]; exact hlt)
          have hrow2 : RowsN n (swapR s.a s.piv.length p) := fun i hi => by
            rw [hsl] at hi
            rw [swapR_get hlt p2]
            split
            · exact hrow _ hlt
            · split
              · exact hrow _ p2
              · exact hrow i hi
          have e4 := idxD (l := (swapR s.a s.piv.length p).getD s.piv.length []) 0 (show c < _ by rw [hrow2 _ (by rw [hsl]; exact hlt)]; exact hc)
          have e5 := stepI_eq (a := swapR s.a s.piv.length p) (r := s.piv.length) (c := c) (d := at2 (swapR s.a s.piv.length p) s.piv.length c) (last := s.last) (pivs := castL s.piv) hn (by rw [hsl]; omega) (by rw [hsl]; exact hlt) hc hrow2
            (at2_swap (n := n) hlt p2 hB.ent _ _) hnz (at2_swap (n := n) hlt p2 hB.ent)
          rw [hsl] at e5
          have hlim : lim ((castL s.piv).length + ([(c : Int)] : List Int).length) = some () := lim_ok (by rw [castL_len]; simp; omega)
          have hst : bred n M (c + 1) = ⟨(swapR s.a s.piv.length p).mapIdx fun i row => if i = s.piv.length then row else elim n (at2 (swapR s.a s.piv.length p) s.piv.length c) (row.getD c 0) s.last row ((swapR s.a s.piv.length p).getD s.piv.length []), s.piv ++ [c], at2 (swapR s.a s.piv.length p) s.piv.length c⟩ := by
            rw [hnext]
            unfold bstep
            rw [if_pos hlt, hp]
          refine ⟨_, ?_, rfl⟩
          rw [hst]
          simp only [hne, cond_false, e1, e2, Option.bind_some, Int.toNat_natCast, swap_eq hlt p2, e3, e4]
          have e5' : loopM (m_impl_reduced_L13 (n : Int)) BIG (0, s.last, (c : Int), (s.piv.length : Int), ((swapR s.a s.piv.length p).getD s.piv.length []).getD c 0, (s.a.length : Int), castL s.piv, swapR s.a s.piv.length p) = _ := e5
          simp only [e5', Option.bind_some, hlim, w64_succ (show c ≤ 1099511627776 by omega), castL_snoc]
      · right
        refine ⟨_, ?_, rfl⟩
        unfold m_impl_reduced_L9
        simp only [castL_len]
        rw [decide_eq_true (show (c : Int) < (n : Int) by omega), cond_true, decide_eq_false (show ¬ (s.piv.length : Int) < (s.a.length : Int) by omega), Option.bind_some, cond_false]
        have := bred_stop (n := n) (M := M) (c := c) (by rw [hsd]; exact hlt) (n - c)
        rw [show c + (n - c) = n by omega, hsd] at this
        rw [this]) (fun s hs => by
      subst hs
      refine ⟨_, ?_, rfl⟩
      unfold m_impl_reduced_L9
      rw [decide_eq_false (by omega)]
      rfl)
  obtain ⟨r, h1, h2⟩ := key
  rw [h1, h2]
theorem small_of {v : List Int} (h : ∀ k : Nat, (v.getD k 0).natAbs ≤ 8000000000000000000) : SmallL G9 v := fun x hx => by
  obtain ⟨k, hk⟩ := List.mem_iff_getElem?.1 hx
  have := h k
  rw [List.getD_eq_getElem?_getD, hk, Option.getD_some] at this
  unfold Small G9
  omega
theorem copyL_eq {n : Nat} {M : Mat} (hn : n ≤ 1000000) (hM : M.length ≤ 1000000) (hrows : RowsN n M) : m_impl_copyLists M = some M := by
  unfold m_impl_copyLists
  have e : loopM (m_impl_copyLists_L1 M) BIG (0, []) = some M := by
    refine loopM_run (fun k => ((k : Int), M.take k)) M.length (by omega) (by simp) (fun k hk => ?_) ?_
    · have e1 := idxD (l := M) [] hk
      have hl : lim ((M.take k).length + 1) = some () := lim_ok (by rw [List.length_take]; omega)
      have hr : m_impl_copyInts (M.getD k []) = some (M.getD k []) := copyInts_eq _ (by rw [hrows k hk]; show n ≤ _; omega)
      unfold m_impl_copyLists_L1
      simp only [e1, hr, hl, Option.bind_some, w64_succ (show k ≤ 1099511627776 by omega)]
      rw [decide_eq_true (by omega), cond_true, take_get hk]
      simp [List.getD_eq_getElem?_getD, List.getElem?_eq_getElem hk]
    · unfold m_impl_copyLists_L1
      rw [decide_eq_false (by omega), cond_false, List.take_length]
  rw [e]
  rfl
theorem reducedI_eq {n : Nat} {M : Mat} (hn : n ≤ 1000000) (hM : M.length ≤ 1000000) (hrows : RowsN n M) (hT : Tame n M) : m_impl_reduced M (n : Int) = some ((bred n M n).a, castL (bred n M n).piv, (bred n M n).last) := by
  unfold m_impl_reduced
  rw [copyL_eq hn hM hrows, Option.bind_some, redI_eq hn hM hrows hT]
  rfl
end Go.Proofs.Ytghofbijdnenoaa
end
section
set_option linter.unusedVariables false
set_option linter.unusedSimpArgs false
set_option linter.unnecessarySimpa false
open Go Go.Fw Go.Mx
namespace Go.Proofs.Ytghofbijdnenoaa
theorem gcd_ne {a b : Int} (h : b ≠ 0) : (Int.gcd a b : Int) ≠ 0 := by
  have : Int.gcd a b ≠ 0 := fun e => h (Int.gcd_eq_zero_iff.1 e).2
  omega
theorem tdiv_le (x y : Int) : (Int.tdiv x y).natAbs ≤ x.natAbs := by
  rw [Int.natAbs_tdiv]
  exact Nat.div_le_self _ _
def woV (n : Nat) (a row : List Int) (j : Nat) : List Int := vec n fun k => a.getD k 0 * Int.tdiv (row.getD j 0) (Int.gcd (a.getD j 0) (row.getD j 0)) - row.getD k 0 * Int.tdiv (a.getD j 0) (Int.gcd (a.getD j 0) (row.getD j 0))
theorem g9_of {x : Int} (h : x.natAbs ≤ BB) : Small G9 x := by unfold BB at h; unfold Small G9; omega
theorem withoutV_eq {n j : Nat} {a row : List Int} (hn : n ≤ 1000000) (hj : j < n) (ha : a.length = n) (hr : row.length = n) (hba : ∀ k : Nat, (a.getD k 0).natAbs ≤ BB) (hbr : ∀ k : Nat, (row.getD k 0).natAbs ≤ BB) (hp : row.getD j 0 ≠ 0) :
    m_spec_l9Without a row (j : Int) = some (prim (woV n a row j)) := by
  have hg := gcd_ne (a := a.getD j 0) hp
  have hX : w64 (Int.tdiv (row.getD j 0) (Int.gcd (a.getD j 0) (row.getD j 0))) = Int.tdiv (row.getD j 0) (Int.gcd (a.getD j 0) (row.getD j 0)) := w64_tdiv (by have := hbr j; unfold BB at this; omega)
  have hY : w64 (Int.tdiv (a.getD j 0) (Int.gcd (a.getD j 0) (row.getD j 0))) = Int.tdiv (a.getD j 0) (Int.gcd (a.getD j 0) (row.getD j 0)) := w64_tdiv (by have := hba j; unfold BB at this; omega)
  have hcr : ∀ k : Nat, w64 (w64 (a.getD k 0 * Int.tdiv (row.getD j 0) (Int.gcd (a.getD j 0) (row.getD j 0))) - w64 (row.getD k 0 * Int.tdiv (a.getD j 0) (Int.gcd (a.getD j 0) (row.getD j 0)))) = a.getD k 0 * Int.tdiv (row.getD j 0) (Int.gcd (a.getD j 0) (row.getD j 0)) - row.getD k 0 * Int.tdiv (a.getD j 0) (Int.gcd (a.getD j 0) (row.getD j 0)) ∧ _ := fun k =>
    w64_cross (hba k) (Nat.le_trans (tdiv_le _ _) (hbr j)) (hbr k) (Nat.le_trans (tdiv_le _ _) (hba j))
  have e1 := idxD (l := a) 0 (show j < _ by omega)
  have e2 := idxD (l := row) 0 (show j < _ by omega)
  unfold m_spec_l9Without
  simp only [e1, e2, gcdS_eq (g9_of (hba j)) (g9_of (hbr j)), nz_ok hg, Option.bind_some]
  have hL : loopM (m_spec_l9Without_L1 a row (Int.gcd (a.getD j 0) (row.getD j 0) : Int) (row.getD j 0) (a.getD j 0)) BIG (0, []) = some (woV n a row j) := by
    refine loopM_run (fun k => ((k : Int), (woV n a row j).take k)) n (by omega) (by simp) (fun k hk => ?_) ?_
    · have hvl : (woV n a row j).length = n := vec_len ..
      have e3 := idxD (l := a) 0 (show k < _ by omega)
      have e4 := idxD (l := row) 0 (show k < _ by omega)
      have hl : ∀ x : Int, lim (((woV n a row j).take k).length + ([x] : List Int).length) = some () := fun x => lim_ok (by rw [List.length_take]; simp; omega)
      unfold m_spec_l9Without_L1
      simp only [e3, e4, hX, hY, (hcr k).1, hl, Option.bind_some, w64_succ (show k ≤ 1099511627776 by omega)]
      rw [decide_eq_true (by omega), cond_true, take_get (show k < _ by omega)]
      have : (woV n a row j)[k]'(by omega) = a.getD k 0 * Int.tdiv (row.getD j 0) (Int.gcd (a.getD j 0) (row.getD j 0)) - row.getD k 0 * Int.tdiv (a.getD j 0) (Int.gcd (a.getD j 0) (row.getD j 0)) := by simp [woV, vec]
      rw [this]
    · unfold m_spec_l9Without_L1
      rw [decide_eq_false (by omega), cond_false, List.take_of_length_le (by rw [woV, vec_len]; exact Nat.le_refl _)]
  rw [hL, Option.bind_some]
  unfold m_spec_l9Clean
  rw [primS_eq _ (by rw [woV, vec_len]; show n ≤ _; omega) (small_of fun k => by
    by_cases hk : k < n
    · rw [woV, vec_get _ hk]
      exact (hcr k).2
    · rw [getD_out (by rw [woV, vec_len]; omega)]
      decide)]
  rfl
theorem without_par {n c : Nat} {X Y : List Int} {last : Int} (hl : last ≠ 0) (hX : X.length = n) (hY : Y.length = n) (hYc : Y.getD c 0 ≠ 0) (hc : c < n)
    (he : ∀ k, k < n → last * (elim n (Y.getD c 0) (X.getD c 0) last X Y).getD k 0 = Y.getD c 0 * X.getD k 0 - X.getD c 0 * Y.getD k 0) :
    prim (woV n (prim X) (prim Y) c) = prim (elim n (Y.getD c 0) (X.getD c 0) last X Y) := by
  obtain ⟨s, hs, h1⟩ := prim_fac X
  obtain ⟨t, ht, h2⟩ := prim_fac Y
  have hp : (prim Y).getD c 0 ≠ 0 := fun e => hYc ((prim_zero_iff Y c).1 e)
  have hg := gcd_ne (a := (prim X).getD c 0) hp
  refine Par.prim ⟨by rw [woV, vec_len, elim, vec_len], s * t * (Int.gcd ((prim X).getD c 0) ((prim Y).getD c 0) : Int), last, fun e => ?_, hl, fun k => ?_⟩
  · rcases Int.mul_eq_zero.1 e with e | e
    · rcases Int.mul_eq_zero.1 e with e | e
      · exact hs e
      · exact ht e
    · exact hg e
  · by_cases hk : k < n
    · rw [he k hk, woV, vec_get _ hk]
      have d1 : (Int.gcd ((prim X).getD c 0) ((prim Y).getD c 0) : Int) * Int.tdiv ((prim Y).getD c 0) (Int.gcd ((prim X).getD c 0) ((prim Y).getD c 0)) = (prim Y).getD c 0 := Int.mul_tdiv_cancel' (Int.gcd_dvd_right ..)
      have d2 : (Int.gcd ((prim X).getD c 0) ((prim Y).getD c 0) : Int) * Int.tdiv ((prim X).getD c 0) (Int.gcd ((prim X).getD c 0) ((prim Y).getD c 0)) = (prim X).getD c 0 := Int.mul_tdiv_cancel' (Int.gcd_dvd_left ..)
      rw [h1 k, h2 k, h1 c, h2 c]
      generalize (Int.gcd ((prim X).getD c 0) ((prim Y).getD c 0) : Int) = g at *
      generalize Int.tdiv ((prim Y).getD c 0) g = q1 at *
      generalize Int.tdiv ((prim X).getD c 0) g = q2 at *
      rw [← d1, ← d2]
      generalize (prim X).getD k 0 = x
      generalize (prim Y).getD k 0 = y
      grind
    · rw [getD_out (v := woV n (prim X) (prim Y) c) (by rw [woV, vec_len]; omega), getD_out (v := elim n (Y.getD c 0) (X.getD c 0) last X Y) (by rw [elim, vec_len]; omega)]
      simp
theorem skip_par {n : Nat} {X Y : List Int} {c : Nat} {last : Int} (hl : last ≠ 0) (hX : X.length = n) (hYc : Y.getD c 0 ≠ 0) (hXc : X.getD c 0 = 0)
    (he : ∀ k, k < n → last * (elim n (Y.getD c 0) (X.getD c 0) last X Y).getD k 0 = Y.getD c 0 * X.getD k 0 - X.getD c 0 * Y.getD k 0) : prim (elim n (Y.getD c 0) (X.getD c 0) last X Y) = prim X :=
  (Par.prim (u := X) ⟨by rw [elim, vec_len, hX], Y.getD c 0, last, hYc, hl, fun k => by
    by_cases hk : k < n
    · rw [he k hk, hXc]; simp
    · rw [getD_out (v := X) (by omega), getD_out (v := elim n (Y.getD c 0) (X.getD c 0) last X Y) (by rw [elim, vec_len]; omega)]; simp⟩).symm
theorem map_getD {a : Mat} {i : Nat} (h : i < a.length) : (a.map prim).getD i [] = prim (a.getD i []) := by
  simp [List.getD_eq_getElem?_getD, List.getElem?_map, List.getElem?_eq_getElem h]
theorem swap_map {a : Mat} {r p : Nat} (hr : r < a.length) (hp : p < a.length) : ((a.map prim).set p ((a.map prim).getD r [])).set r ((a.map prim).getD p []) = (swapR a r p).map prim := by
  rw [map_getD hr, map_getD hp]
  unfold swapR
  rw [List.map_set, List.map_set]
  by_cases h : r = p
  · subst h; simp
  · rw [List.set_comm _ _ (Ne.symm h)]
theorem findS_eq {n : Nat} {a : Mat} {c : Nat} {cols : List Int} (ha : a.length ≤ 1000000) (hr : cols.length ≤ a.length) (hcn : c < n) (hrows : RowsN n a) :
    loopM (m_spec_l9Reduced_L7 ((c : Int), a.map prim, cols)) BIG (cols.length : Int) = some ((c : Int), (pivOr a cols.length c : Int), a.map prim, cols) := by
  obtain ⟨h1, h2, h3, h4⟩ := pivOr_le (a := a) (c := c) hr
  have hml : (a.map prim).length = a.length := List.length_map ..
  refine loopM_run (fun k => ((cols.length + k : Nat) : Int)) (pivOr a cols.length c - cols.length) (by omega) (by simp) (fun k hk => ?_) ?_
  · have hlt : cols.length + k < a.length := by omega
    have e1 := idxD (l := a.map prim) [] (show cols.length + k < _ by omega)
    rw [map_getD hlt] at e1
    have e2 := idxD (l := prim (a.getD (cols.length + k) [])) 0 (show c < _ by rw [prim_len, hrows _ hlt]; exact hcn)
    have e3 := h3 (cols.length + k) (by omega) (by omega)
    unfold at2 at e3
    rw [(prim_zero_iff _ _).2 e3] at e2
    unfold m_spec_l9Reduced_L7
    simp only [e1, e2, Option.bind_some, hml]
    rw [decide_eq_true (by omega), cond_true]
    simp only [beq_self_eq_true, Option.bind_some, cond_true]
    rw [w64_succ (by omega)]
    rfl
  · have e0 : ((cols.length + (pivOr a cols.length c - cols.length) : Nat) : Int) = (pivOr a cols.length c : Int) := by omega
    rw [e0]
    unfold m_spec_l9Reduced_L7
    by_cases hlt : pivOr a cols.length c < a.length
    · have e1 := idxD (l := a.map prim) [] (show pivOr a cols.length c < _ by omega)
      rw [map_getD hlt] at e1
      have e2 := idxD (l := prim (a.getD (pivOr a cols.length c) [])) 0 (show c < _ by rw [prim_len, hrows _ hlt]; exact hcn)
      have e3 := h4 hlt
      unfold at2 at e3
      have e4 : (prim (a.getD (pivOr a cols.length c) [])).getD c 0 ≠ 0 := fun e => e3 ((prim_zero_iff _ _).1 e)
      simp only [e1, e2, Option.bind_some, hml]
      rw [decide_eq_true (by omega), cond_true]
      rw [show ((prim (a.getD (pivOr a cols.length c) [])).getD c 0 == 0) = false by simpa using e4]
      rfl
    · simp only [hml]
      rw [decide_eq_false (by omega)]
      rfl
theorem stepS_eq {n : Nat} {a : Mat} {c : Nat} {last : Int} {cols : List Int} {p0 : Int} {out0 : List (List Int)} (hn : n ≤ 1000000) (ha : a.length ≤ 1000000) (hr : cols.length < a.length) (hcn : c < n) (hrows : RowsN n a) (hl : last ≠ 0)
    (hd : at2 a cols.length c ≠ 0) (hb : ∀ i k : Nat, (at2 a i k).natAbs ≤ BB)
    (he : ∀ i, i < a.length → i ≠ cols.length → ∀ k, k < n → last * (elim n (at2 a cols.length c) ((a.getD i []).getD c 0) last (a.getD i []) (a.getD cols.length [])).getD k 0 = at2 a cols.length c * (a.getD i []).getD k 0 - (a.getD i []).getD c 0 * (a.getD cols.length []).getD k 0) :
    loopM (m_spec_l9Reduced_L8 ((c : Int), p0, out0, cols) (prim (a.getD cols.length []))) BIG (0, a.map prim) =
      some ((c : Int), (a.mapIdx fun i row => if i = cols.length then row else elim n (at2 a cols.length c) (row.getD c 0) last row (a.getD cols.length [])).map prim, cols) := by
  generalize hu : (a.mapIdx fun i row => if i = cols.length then row else elim n (at2 a cols.length c) (row.getD c 0) last row (a.getD cols.length [])) = u
  have hul : u.length = a.length := by rw [← hu, List.length_mapIdx]
  have hug : ∀ i, i < a.length → u.getD i [] = if i = cols.length then a.getD i [] else elim n (at2 a cols.length c) ((a.getD i []).getD c 0) last (a.getD i []) (a.getD cols.length []) := fun i hi => by rw [← hu]; exact mapIdx_getD hi
  have hml : (a.map prim).length = a.length := List.length_map ..
  have hmu : (u.map prim).length = (a.map prim).length := by rw [hml, List.length_map, hul]
  refine loopM_run (fun i => ((i : Int), mix (u.map prim) (a.map prim) i)) a.length (by omega) (by simp [mix_zero]) (fun i hi => ?_) ?_
  · have hil : i < (a.map prim).length := by omega
    have hmm := mix_len hmu (i := i) (by omega)
    have hgi : (mix (u.map prim) (a.map prim) i).getD i [] = prim (a.getD i []) := by rw [mix_get [] hmu (by omega), if_neg (by omega), map_getD hi]
    have e1 := idxD (l := mix (u.map prim) (a.map prim) i) [] (show i < _ by omega)
    rw [hgi] at e1
    have e2 := idxD (l := prim (a.getD i [])) 0 (show c < _ by rw [prim_len, hrows i hi]; exact hcn)
    have hui : (u.map prim).getD i [] = prim (u.getD i []) := map_getD (by omega)
    unfold m_spec_l9Reduced_L8
    rw [show decide ((((i : Int), mix (u.map prim) (a.map prim) i) : Int × List (List Int)).1 < ((((i : Int), mix (u.map prim) (a.map prim) i) : Int × List (List Int)).2.length : Int)) = true by simp; omega, cond_true]
    by_cases hir : i = cols.length
    · rw [show (((i : Int), mix (u.map prim) (a.map prim) i).1 != (cols.length : Int)) = false by simp [hir]]
      simp only [cond_false, Option.bind_some, w64_succ (show i ≤ 1099511627776 by omega)]
      rw [mix_skip (d := []) hmu hil (by rw [hui, map_getD hi, hug i hi, if_pos hir])]
    · rw [show (((i : Int), mix (u.map prim) (a.map prim) i).1 != (cols.length : Int)) = true by simp; omega]
      simp only [cond_true, e1, e2, Option.bind_some]
      have hex := he i hi hir
      by_cases hz : (prim (a.getD i [])).getD c 0 = 0
      · rw [hz]
        simp only [bne_self_eq_false, cond_false, Option.bind_some, w64_succ (show i ≤ 1099511627776 by omega)]
        rw [mix_skip (d := []) hmu hil (by
          rw [hui, map_getD hi, hug i hi, if_neg hir]
          exact skip_par (Y := a.getD cols.length []) hl (hrows i hi) hd ((prim_zero_iff _ _).1 hz) hex)]
      · have hw := withoutV_eq (a := prim (a.getD i [])) (row := prim (a.getD cols.length [])) hn hcn (by rw [prim_len, hrows i hi]) (by rw [prim_len, hrows _ hr])
          (fun k => by have := prim_le (a.getD i []) (B := (BB : Int)) (fun k => by have := hb i k; unfold at2 at this; omega) k; omega)
          (fun k => by have := prim_le (a.getD cols.length []) (B := (BB : Int)) (fun k => by have := hb cols.length k; unfold at2 at this; omega) k; omega) (fun e => hd ((prim_zero_iff _ _).1 e))
        rw [show ((prim (a.getD i [])).getD c 0 != 0) = true by simpa using hz]
        simp only [cond_true, hw, Option.bind_some, Int.toNat_natCast, w64_succ (show i ≤ 1099511627776 by omega)]
        rw [mix_set (d := []) hmu hil (by
          rw [hui, hug i hi, if_neg hir]
          exact (without_par (Y := a.getD cols.length []) hl (hrows i hi) (hrows _ hr) hd hcn hex).symm)]
  · have := mix_full hmu
    rw [hml] at this
    unfold m_spec_l9Reduced_L8
    simp only [this]
    rw [decide_eq_false (by rw [List.length_map, hul]; omega), cond_false]
theorem redS_eq {n : Nat} {M : Mat} (hn : n ≤ 1000000) (hM : M.length ≤ 1000000) (hM0 : 0 < M.length) (hrows : RowsN n M) (hT : Tame n M) :
    loopM m_spec_l9Reduced_L6 BIG (0, M.map prim, []) = some ((bred n M n).a.map prim, castL (bred n M n).piv) := by
  have key := loop_inv (b := m_spec_l9Reduced_L6) (s := (0, M.map prim, [])) (fun k s => s = ((k : Int), (bred n M k).a.map prim, castL (bred n M k).piv)) (fun r => r = ((bred n M n).a.map prim, castL (bred n M n).piv)) n (by omega) rfl
    (fun c s hc hs => by
      subst hs
      left
      obtain ⟨M', hI⟩ := bred_inv hrows c (by omega)
      have hB := hT c (by omega)
      have hrow := inv_rowsN hI
      have hal : (bred n M c).a.length = M.length := hI.len
      have hnext : bred n M (c + 1) = bstep n c (bred n M c) := rfl
      have hnz := hI.nz
      have hex := bred_exact hrows hc
      have hrl := hI.rl
      generalize hsd : bred n M c = s at *
      have hml : (s.a.map prim).length = s.a.length := List.length_map ..
      have e0 : idx (s.a.map prim) 0 = some (prim (s.a.getD 0 [])) := by
        have := idxD (l := s.a.map prim) (k := 0) [] (by omega)
        rw [map_getD (by omega)] at this
        exact this
      have hf := findS_eq (n := n) (a := s.a) (c := c) (cols := castL s.piv) (by omega) (by rw [castL_len]; omega) hc hrow
      rw [castL_len] at hf
      unfold m_spec_l9Reduced_L6
      simp only [hml, castL_len]
      rw [decide_eq_true (show (0 : Int) < (s.a.length : Int) by omega), cond_true, e0, Option.bind_some, Option.bind_some, decide_eq_true (show (c : Int) < ((prim (s.a.getD 0 [])).length : Int) by rw [prim_len, hrow 0 (by omega)]; omega), cond_true, hf, Option.bind_some]
      by_cases hlt : s.piv.length < s.a.length
      · cases hp : pivAt s.a s.piv.length c with
        | none =>
          have hpo : pivOr s.a s.piv.length c = s.a.length := by unfold pivOr; rw [hp]; rfl
          have hst : bred n M (c + 1) = s := by
            rw [hnext]
            unfold bstep
            rw [if_pos hlt, hp]
          refine ⟨_, ?_, rfl⟩
          rw [hst, hpo]
          simp only [hml, beq_self_eq_true, cond_true, w64_succ (show c ≤ 1099511627776 by omega)]
        | some p =>
          have hpo : pivOr s.a s.piv.length c = p := by unfold pivOr; rw [hp]; rfl
          obtain ⟨p1, p2, p3, p4⟩ := pivAt_some hp
          rw [hpo]
          have hne : ((p : Int) == (s.a.length : Int)) = false := by simp; omega
          have e1 := idxD (l := s.a.map prim) [] (show p < _ by omega)
          have e2 := idxD (l := s.a.map prim) [] (show s.piv.length < _ by omega)
          have e1' : idx (s.a.map prim) (p : Int) = some (prim (s.a.getD p [])) := by rw [e1, map_getD p2]
          have e3 := idxD (l := (s.a.map prim).set p ((s.a.map prim).getD s.piv.length [])) [] (show s.piv.length < _ by rw [List.length_set]; omega)
          have hsw := swap_map hlt p2
          rw [map_getD p2] at hsw
          have hsl : (swapR s.a s.piv.length p).length = s.a.length := swapR_len ..
          have hrow2 : RowsN n (swapR s.a s.piv.length p) := fun i hi => by
            rw [hsl] at hi
            rw [swapR_get hlt p2]
            split
            · exact hrow _ hlt
            · split
              · exact hrow _ p2
              · exact hrow i hi
          have hpr : (swapR s.a s.piv.length p).getD s.piv.length [] = s.a.getD p [] := by
            rw [swapR_get hlt p2]
            by_cases e : s.piv.length = p
            · rw [if_pos e, e]
            · rw [if_neg e, if_pos rfl]
          have e5 := stepS_eq (a := swapR s.a s.piv.length p) (c := c) (last := s.last) (cols := castL s.piv) (p0 := (p : Int)) (out0 := s.a.map prim) hn (by rw [hsl]; omega) (by rw [castL_len, hsl]; exact hlt) hc hrow2 hnz
            (by rw [castL_len]; unfold at2; rw [hpr]; exact p3) (at2_swap (n := n) hlt p2 hB.ent) (by rw [castL_len, hsl]; exact hex p hp hlt)
          rw [castL_len, hpr] at e5
          have hlim : lim (s.piv.length + ([(c : Int)] : List Int).length) = some () := lim_ok (by simp; omega)
          have hst : bred n M (c + 1) = ⟨(swapR s.a s.piv.length p).mapIdx fun i row => if i = s.piv.length then row else elim n (at2 (swapR s.a s.piv.length p) s.piv.length c) (row.getD c 0) s.last row ((swapR s.a s.piv.length p).getD s.piv.length []), s.piv ++ [c], at2 (swapR s.a s.piv.length p) s.piv.length c⟩ := by
            rw [hnext]
            unfold bstep
            rw [if_pos hlt, hp]
          refine ⟨_, ?_, rfl⟩
          rw [hst]
          simp only [hml, castL_len, hne, cond_false, e1', e2, e3, Option.bind_some, Int.toNat_natCast, hsw, e5, hlim, w64_succ (show c ≤ 1099511627776 by omega), castL_snoc, hpr]
      · have hpo : pivOr s.a s.piv.length c = s.a.length := by
          obtain ⟨q1, q2, _⟩ := pivOr_le (a := s.a) (c := c) (show s.piv.length ≤ s.a.length by omega)
          omega
        have hst : bred n M (c + 1) = s := by
          rw [hnext]
          unfold bstep
          rw [if_neg hlt]
        refine ⟨_, ?_, rfl⟩
        rw [hst, hpo]
        simp only [hml, beq_self_eq_true, cond_true, w64_succ (show c ≤ 1099511627776 by omega)]) (fun s hs => by
      subst hs
      refine ⟨_, ?_, rfl⟩
      obtain ⟨M', hI⟩ := bred_inv hrows n (Nat.le_refl _)
      have hrow := inv_rowsN hI
      have hal : (bred n M n).a.length = M.length := hI.len
      have hml : ((bred n M n).a.map prim).length = (bred n M n).a.length := List.length_map ..
      have e0 : idx ((bred n M n).a.map prim) 0 = some (prim ((bred n M n).a.getD 0 [])) := by
        have := idxD (l := (bred n M n).a.map prim) (k := 0) [] (by omega)
        rw [map_getD (by omega)] at this
        exact this
      unfold m_spec_l9Reduced_L6
      simp only [hml]
      rw [decide_eq_true (show (0 : Int) < ((bred n M n).a.length : Int) by omega), cond_true, e0, Option.bind_some, Option.bind_some, decide_eq_false (by rw [prim_len, hrow 0 (by omega)]; omega)]
      rfl)
  obtain ⟨r, h1, h2⟩ := key
  rw [h1, h2]
theorem reducedS_eq {n : Nat} {M : Mat} (hn : n ≤ 1000000) (hM : M.length ≤ 1000000) (hrows : RowsN n M) (hT : Tame n M) : m_spec_l9Reduced M = some ((bred n M n).a.map prim, castL (bred n M n).piv) := by
  unfold m_spec_l9Reduced
  have e : loopM (m_spec_l9Reduced_L1 M) BIG (0, []) = some (M.map prim) := by
    refine loopM_run (fun k => ((k : Int), (M.take k).map prim)) M.length (by omega) (by simp) (fun k hk => ?_) ?_
    · have e1 := idxD (l := M) [] hk
      have hl : ∀ x : List Int, lim (((M.take k).map prim).length + [x].length) = some () := fun x => lim_ok (by rw [List.length_map, List.length_take]; simp; omega)
      have hr : m_spec_l9Clean (M.getD k []) = some (prim (M.getD k [])) := by
        unfold m_spec_l9Clean
        rw [primS_eq _ (by rw [hrows k hk]; show n ≤ _; omega) (small_of fun j => by have := (hT 0 (Nat.zero_le _)).ent k j; unfold at2 BB at this; exact Nat.le_trans this (by decide))]
        rfl
      unfold m_spec_l9Reduced_L1
      simp only [e1, hr, hl, Option.bind_some, w64_succ (show k ≤ 1099511627776 by omega)]
      rw [decide_eq_true (by omega), cond_true, take_get hk, List.map_append]
      simp [List.getD_eq_getElem?_getD, List.getElem?_eq_getElem hk]
    · unfold m_spec_l9Reduced_L1
      rw [decide_eq_false (by omega), cond_false, List.take_length]
  rw [e, Option.bind_some]
  by_cases h0 : 0 < M.length
  · rw [redS_eq hn hM h0 hrows hT]
    rfl
  · have hM0 : M = [] := List.eq_nil_of_length_eq_zero (by omega)
    subst hM0
    have hs := bred_stop (n := n) (M := []) (c := 0) (by show ¬ (0 < 0); omega) n
    rw [Nat.zero_add] at hs
    rw [hs]
    have : loopM m_spec_l9Reduced_L6 BIG (0, ([] : List (List Int)).map prim, []) = some ([], []) := by
      refine loopM_run (fun _ => (0, [], [])) 0 (by omega) rfl (fun k hk => by omega) rfl
    rw [this]
    rfl
end Go.Proofs.Ytghofbijdnenoaa
end
section
set_option linter.unusedVariables false
set_option linter.unusedSimpArgs false
set_option linter.unnecessarySimpa false
open Go Go.Fw Go.Mx
namespace Go.Proofs.Ytghofbijdnenoaa
def rowmap (n : Nat) (piv : List Nat) : Nat → List Int
  | 0 => List.replicate n (-1)
  | r + 1 => (rowmap n piv r).set (piv.getD r 0) (r : Int)
theorem rowmap_len (n : Nat) (piv : List Nat) : ∀ r, (rowmap n piv r).length = n
  | 0 => by simp [rowmap]
  | r + 1 => by rw [rowmap, List.length_set, rowmap_len n piv r]
theorem rowmap_get {n : Nat} {piv : List Nat} (hp : ∀ c ∈ piv, c < n) : ∀ r, r ≤ piv.length → ∀ k, k < n → (∃ i, i < r ∧ piv.getD i 0 = k ∧ (rowmap n piv r).getD k 0 = (i : Int)) ∨ ((∀ i, i < r → piv.getD i 0 ≠ k) ∧ (rowmap n piv r).getD k 0 = -1)
  | 0, _, k, hk => .inr ⟨fun i hi => by omega, by simp [rowmap, List.getD_eq_getElem?_getD, hk]⟩
  | r + 1, hr, k, hk => by
    have ih := rowmap_get hp r (by omega) k hk
    have hc : piv.getD r 0 < n := by
      rw [List.getD_eq_getElem?_getD, List.getElem?_eq_getElem (by omega), Option.getD_some]
      exact hp _ (List.getElem_mem _)
    rw [rowmap, getD_set (by rw [rowmap_len]; exact hc)]
    by_cases h : piv.getD r 0 = k
    · rw [if_pos h]
      exact .inl ⟨r, by omega, h, rfl⟩
    · rw [if_neg h]
      rcases ih with ⟨i, h1, h2, h3⟩ | ⟨h1, h2⟩
      · exact .inl ⟨i, by omega, h2, h3⟩
      · refine .inr ⟨fun i hi => ?_, h2⟩
        by_cases e : i = r
        · rw [e]; exact h
        · exact h1 i (by omega)
def nval (n : Nat) (s : BS) (f k : Nat) : Int :=
  if k = f then s.last else if 0 ≤ (rowmap n s.piv s.piv.length).getD k 0 then - at2 s.a ((rowmap n s.piv s.piv.length).getD k 0).toNat f else 0
def nullF (n : Nat) (s : BS) (f : Nat) : List (List Int) := if 0 ≤ (rowmap n s.piv s.piv.length).getD f 0 then [] else [prim (vec n (nval n s f))]
def nulls (n : Nat) (M : Mat) : List (List Int) := pieces (nullF n (bred n M n)) n
structure Fin (n : Nat) (M : Mat) (s : BS) : Prop where
  n6 : n ≤ 1000000
  len : s.a.length ≤ 1000000
  pl : s.piv.length ≤ s.a.length
  pc : ∀ k ∈ s.piv, k < n
  nd : s.piv.Nodup
  rows : RowsN n s.a
  bnd : BndS s
  nz : s.last ≠ 0
  piv : ∀ i, i < s.piv.length → at2 s.a i (s.piv.getD i 0) = s.last
theorem fin_of {n : Nat} {M : Mat} (hn : n ≤ 1000000) (hM : M.length ≤ 1000000) (hrows : RowsN n M) (hT : Tame n M) : Fin n M (bred n M n) := by
  obtain ⟨M', h⟩ := bred_inv hrows n (Nat.le_refl _)
  refine ⟨hn, by rw [h.len]; exact hM, by rw [h.len]; exact h.rl, h.pc, h.nd, inv_rowsN h, hT n (Nat.le_refl _), h.nz, fun i hi => ?_⟩
  have := (h.hi i hi).piv
  rw [h.last] at this
  rw [List.getD_eq_getElem?_getD, List.getElem?_eq_getElem hi, Option.getD_some]
  exact this
section
variable {n : Nat} {M : Mat} {s : BS}
theorem Fin.pivlt (h : Fin n M s) {i : Nat} (hi : i < s.piv.length) : s.piv.getD i 0 < n := by
  rw [List.getD_eq_getElem?_getD, List.getElem?_eq_getElem hi, Option.getD_some]
  exact h.pc _ (List.getElem_mem _)
theorem Fin.rm (h : Fin n M s) {k : Nat} (hk : k < n) : (∃ i, i < s.piv.length ∧ s.piv.getD i 0 = k ∧ (rowmap n s.piv s.piv.length).getD k 0 = (i : Int)) ∨ ((∀ i, i < s.piv.length → s.piv.getD i 0 ≠ k) ∧ (rowmap n s.piv s.piv.length).getD k 0 = -1) := rowmap_get h.pc _ (Nat.le_refl _) k hk
theorem nval_b (h : Fin n M s) (f k : Nat) : (nval n s f k).natAbs ≤ BB := by
  unfold nval
  split
  · exact h.bnd.last
  · split
    · rw [Int.natAbs_neg]; exact h.bnd.ent _ _
    · decide
theorem nvec_small (h : Fin n M s) (f : Nat) : SmallL G9 (vec n (nval n s f)) := small_of fun k => by
  by_cases hk : k < n
  · rw [vec_get _ hk]
    have := nval_b h f k
    unfold BB at this
    omega
  · rw [getD_out (by rw [vec_len]; omega)]; decide
theorem castL_getD {l : List Nat} {i : Nat} (h : i < l.length) : idx (castL l) (i : Int) = some ((l.getD i 0 : Nat) : Int) := by
  rw [idxD 0 (by rw [castL_len]; exact h)]
  simp [castL, List.getD_eq_getElem?_getD, List.getElem?_map, List.getElem?_eq_getElem h]
theorem w64_neg {x : Int} (h : x.natAbs ≤ BB) : w64 (-x) = -x := by
  unfold BB at h
  exact w64_id (by omega) (by omega)
theorem vec_set {n k : Nat} {f g : Nat → Int} {x : Int} (hk : k < n) (hx : g k = x) (h : ∀ j, j < n → j ≠ k → g j = f j) : (vec n f).set k x = vec n g := by
  refine vec_ext (by rw [List.length_set, vec_len]) (vec_len ..) fun j hj => ?_
  rw [getD_set (by rw [vec_len]; exact hk), vec_get _ hj]
  by_cases e : k = j
  · rw [if_pos e, ← e, vec_get _ hk, hx]
  · rw [if_neg e, vec_get _ hj, h j hj (Ne.symm e)]
theorem repl_vec (n : Nat) (x : Int) : List.replicate n x = vec n fun _ => x := by
  refine vec_ext (by simp) (vec_len ..) fun j hj => ?_
  rw [vec_get _ hj]
  simp [List.getD_eq_getElem?_getD, hj]
theorem nullI_eq (hn : n ≤ 1000000) (hM : M.length ≤ 1000000) (hrows : RowsN n M) (hT : Tame n M) : m_impl_nullspace M (n : Int) = some (nulls n M) := by
  have hF := fin_of hn hM hrows hT
  unfold m_impl_nullspace nulls
  rw [reducedI_eq hn hM hrows hT, Option.bind_some, lenOk_ok (by omega) (by omega), Option.bind_some]
  generalize bred n M n = s at *
  have hL1 : loopM (m_impl_nullspace_L1 (n : Int) (s.a, castL s.piv, s.last)) BIG (0, List.replicate (n : Int).toNat 0) = some (s.last, s.a, castL s.piv, List.replicate n (-1)) := by
    rw [Int.toNat_natCast]
    refine loopM_run (fun k => ((k : Int), mix (List.replicate n (-1)) (List.replicate n 0) k)) n (by omega) (by simp [mix_zero]) (fun k hk => ?_) ?_
    · have hl := mix_len (u := List.replicate n (-1 : Int)) (v := List.replicate n (0 : Int)) (i := k) (by simp) (by simp; omega)
      rw [List.length_replicate] at hl
      have e1 := idxD (l := mix (List.replicate n (-1 : Int)) (List.replicate n 0) k) 0 (show k < _ by omega)
      unfold m_impl_nullspace_L1
      simp only [e1, Option.bind_some, Int.toNat_natCast, List.length_replicate, w64_succ (show k ≤ 1099511627776 by omega)]
      rw [decide_eq_true (by omega), cond_true, mix_set (d := 0) (by simp) (by simp; omega) (by simp [List.getD_eq_getElem?_getD, hk])]
    · unfold m_impl_nullspace_L1
      have := mix_full (u := List.replicate n (-1 : Int)) (v := List.replicate n (0 : Int)) (by simp)
      rw [List.length_replicate] at this
      simp only [List.length_replicate, Int.toNat_natCast, this]
      rw [decide_eq_false (by omega), cond_false]
  have hL2 : loopM (m_impl_nullspace_L2 (s.last, s.a, castL s.piv, List.replicate n (-1))) BIG (0, List.replicate n (-1)) = some (s.last, s.a, rowmap n s.piv s.piv.length) := by
    refine loopM_run (fun r => ((r : Int), rowmap n s.piv r)) s.piv.length (by have := hF.pl; have := hF.len; omega) rfl (fun r hr => ?_) ?_
    · have hpl := hF.pl
      have hln := hF.len
      have e1 := idxD (l := rowmap n s.piv r) 0 (show s.piv.getD r 0 < _ by rw [rowmap_len]; exact hF.pivlt hr)
      unfold m_impl_nullspace_L2
      simp only [castL_getD hr, e1, Option.bind_some, Int.toNat_natCast, castL_len, w64_succ (show r ≤ 1099511627776 by omega)]
      rw [decide_eq_true (by omega), cond_true]
      rfl
    · unfold m_impl_nullspace_L2
      simp only [castL_len]
      rw [decide_eq_false (by omega), cond_false]
  simp only [hL1, hL2, Option.bind_some]
  have hL5 := app_loop (b := m_impl_nullspace_L5 (n : Int)) (s := (0, s.last, rowmap n s.piv s.piv.length, s.a, ([] : List (List Int)))) (fun k out => ((k : Int), s.last, rowmap n s.piv s.piv.length, s.a, out)) (nullF n s) id 1 n [] (by omega) rfl (fun k _ => by unfold nullF; split <;> simp) (fun c out hc ho => by
    simp only [List.length_nil, Nat.zero_add, Nat.one_mul] at ho
    have e1 := idxD (l := rowmap n s.piv s.piv.length) 0 (show c < _ by rw [rowmap_len]; exact hc)
    unfold m_impl_nullspace_L5 nullF
    simp only [e1, Option.bind_some]
    rw [decide_eq_true (show (c : Int) < (n : Int) by omega), cond_true]
    by_cases h0 : 0 ≤ (rowmap n s.piv s.piv.length).getD c 0
    · rw [decide_eq_true h0, cond_true, if_pos h0, List.append_nil, w64_succ (by omega)]
    · rw [decide_eq_false h0, cond_false, if_neg h0, lenOk_ok (by omega) (by omega), Option.bind_some]
      have e2 := idxD (l := List.replicate n (0 : Int)) 0 (show c < _ by simp; exact hc)
      have hL6 : loopM (m_impl_nullspace_L6 (n : Int) ((c : Int), s.last, rowmap n s.piv s.piv.length, s.a, out)) BIG (0, (List.replicate (n : Int).toNat (0 : Int)).set (c : Int).toNat s.last) = some (s.last, (c : Int), s.a, rowmap n s.piv s.piv.length, out, vec n (nval n s c)) := by
        rw [Int.toNat_natCast, Int.toNat_natCast]
        have hstart : (List.replicate n (0 : Int)).set c s.last = vec n fun k => if k = c then s.last else 0 := by
          rw [repl_vec]
          exact vec_set hc (if_pos rfl) fun j _ hj => by rw [if_neg hj]
        rw [hstart]
        refine loopM_run (fun k => ((k : Int), vec n fun j => if j < k then nval n s c j else if j = c then s.last else 0)) n (by omega) (by simp) (fun k hk => ?_) ?_
        · have e3 := idxD (l := rowmap n s.piv s.piv.length) 0 (show k < _ by rw [rowmap_len]; exact hk)
          unfold m_impl_nullspace_L6
          simp only [e3, Option.bind_some, w64_succ (show k ≤ 1099511627776 by omega)]
          rw [decide_eq_true (show (k : Int) < (n : Int) by omega), cond_true]
          rcases hF.rm hk with ⟨i, i1, i2, i3⟩ | ⟨i1, i2⟩
          · have hpl := hF.pl
            have e4 := idxD (l := s.a) [] (show i < _ by omega)
            have e5 := idxD (l := s.a.getD i []) 0 (show c < _ by rw [hF.rows i (by omega)]; exact hc)
            have e6 := idxD (l := vec n fun j => if j < k then nval n s c j else if j = c then s.last else 0) 0 (show k < _ by rw [vec_len]; exact hk)
            have hkc : k ≠ c := fun e => by
              subst e
              rw [i3] at h0
              omega
            have hb := hF.bnd.ent i c
            unfold at2 at hb
            rw [i3]
            rw [decide_eq_true (show (0 : Int) ≤ (i : Int) by omega), cond_true, e4, Option.bind_some, e5, Option.bind_some, e6, Option.bind_some, Option.bind_some, w64_neg hb, Int.toNat_natCast]
            rw [vec_set (g := fun j => if j < k + 1 then nval n s c j else if j = c then s.last else 0) hk (by
              rw [if_pos (by omega)]
              unfold nval
              rw [if_neg hkc, i3, if_pos (by omega), Int.toNat_natCast]
              rfl) fun j _ hj => by
              by_cases e : j < k
              · rw [if_pos e, if_pos (by omega)]
              · rw [if_neg e, if_neg (by omega)]]
          · rw [i2]
            rw [decide_eq_false (show ¬ (0 : Int) ≤ -1 by omega), cond_false, Option.bind_some]
            congr 3
            refine vec_congr fun j hj => ?_
            by_cases e : j < k
            · rw [if_pos e, if_pos (by omega)]
            · rw [if_neg e]
              by_cases e2 : j = k
              · subst e2
                rw [if_pos (show j < j + 1 by omega)]
                unfold nval
                rw [i2, if_neg (show ¬ (0 : Int) ≤ -1 by omega)]
              · rw [if_neg (show ¬ j < k + 1 by omega)]
        · unfold m_impl_nullspace_L6
          rw [decide_eq_false (by omega), cond_false]
          have : (vec n fun j => if j < n then nval n s c j else if j = c then s.last else 0) = vec n (nval n s c) := vec_congr fun j hj => by rw [if_pos hj]
          simp only [this]
      rw [show (n : Int).toNat = n from Int.toNat_natCast n] at *
      simp only [e2, hL6, Option.bind_some, primI_eq _ (show SM (vec n (nval n s c)).length by rw [vec_len]; show n ≤ _; omega) (nvec_small hF c), lim_ok (show out.length + 1 ≤ 2147483648 by omega), w64_succ (show c ≤ 1099511627776 by omega)]) (fun out => by
    unfold m_impl_nullspace_L5
    rw [decide_eq_false (by omega)]
    rfl)
  rw [hL5]
  simp
end
end Go.Proofs.Ytghofbijdnenoaa
end
