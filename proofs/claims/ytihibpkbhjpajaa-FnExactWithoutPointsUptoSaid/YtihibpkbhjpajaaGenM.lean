/- The types of the models, their encoders, and the models of the functions. Written by a program of mine. -/
import Derived.Test.YtihibpkbhjpajaaFw12
open Go Go.Fw
namespace Go.Proofs.Ytihibpkbhjpajaa
structure TBar where
  mk ::
  A : Int
  B : Int
structure TGraph where
  mk ::
  Points : Int
  Bars : (List TBar)
structure TPinned where
  mk ::
  Graph : TGraph
  Ground : (List Int)
structure TPlace where
  mk ::
  X : Int
  Y : Int
structure TFramework where
  mk ::
  Graph : TGraph
  Places : (List TPlace)
structure TTensegrity where
  mk ::
  Framework : TFramework
  Kinds : (List Int)
def encTBar (a : TBar) : List PV := [.sc (.int .i64 a.A), .sc (.int .i64 a.B)]
theorem perm_encTBar (a : TBar) : PermPL (encTBar a) := ⟨.sc, .sc, trivial⟩
def encInt (a : Int) : List PV := [.sc (.int .i64 a)]
theorem perm_encInt (a : Int) : PermPL (encInt a) := ⟨.sc, trivial⟩
def encTPlace (a : TPlace) : List PV := [.sc (.int .i64 a.X), .sc (.int .i64 a.Y)]
theorem perm_encTPlace (a : TPlace) : PermPL (encTPlace a) := ⟨.sc, .sc, trivial⟩
def encLInt (q : Bool) (a : (List Int)) : List PV := [.xs q (a.map encInt)]
def encBool (a : Bool) : List PV := [.sc (.bool a)]
theorem perm_encBool (a : Bool) : PermPL (encBool a) := ⟨.sc, trivial⟩
def m_spec_l1In (x : Int) (low : Int) (high : Int) : Option Bool :=
(((
(bif (decide (low ≤ x)) then
 some (decide (x ≤ high))
 else
 some false
)
) : Option Bool).bind (fun j2 =>
 some j2
))

def m_spec_NextSeed (seed : Int) : Option Int :=
(m_spec_l1In seed 0 65535).bind (fun r1 =>
(bif (!r1) then
 some 0
 else
 some (Int.tmod (w64 ((w64 (seed * 25173)) + 13849)) 65536)
)
)

def m_impl_within (x : Int) (lo : Int) (hi : Int) : Option Bool :=
(((
(bif (decide (lo ≤ x)) then
 some (decide (x ≤ hi))
 else
 some false
)
) : Option Bool).bind (fun j2 =>
 some j2
))

def m_impl_NextSeed (seed : Int) : Option Int :=
(m_impl_within seed 0 65535).bind (fun r1 =>
(bif (!r1) then
 some 0
 else
 some (Int.tmod (w64 ((w64 (25173 * seed)) + 13849)) 65536)
)
)

def m_laws_FnExactNextSeed (aSeed : Int) : Option Bool :=
(m_spec_NextSeed aSeed).bind (fun r1 =>
(m_impl_NextSeed aSeed).bind (fun r2 =>
(bif (r2 != r1) then
 some false
 else
 some true
)
)
)

def m_laws_szBarS (a : (List TBar)) (leftV : Int) : Option Int :=
(bif (decide ((w64 (leftV - (a.length : Int))) < 0)) then
 some (-1)
 else
 some (w64 (leftV - (a.length : Int)))
)

def m_laws_szGraph (a : TGraph) (leftV : Int) : Option Int :=
(m_laws_szBarS a.Bars leftV).bind (fun r1 =>
(bif (decide (r1 < 0)) then
 some (-1)
 else
 some r1
)
)

def m_laws_toBar (a : TBar) : Option TBar :=
 some a

def m_laws_toBarS_L1 (a : (List TBar)) (s2 : (Int × (List TBar))) : Option ((Int × (List TBar)) ⊕ (List TBar)) :=
(bif (decide (s2.1 < (a.length : Int))) then
(idx a s2.1).bind (fun x13 =>
(m_laws_toBar x13).bind (fun r14 =>
(idx s2.2 s2.1).bind (fun x15 =>
 some (.inl ((w64 (s2.1 + 1)), (s2.2.set s2.1.toNat r14)))
)
)
)
 else
 some (.inr s2.2)
)
def m_laws_toBarS (a : (List TBar)) : Option (List TBar) :=
(lenOk (a.length : Int)).bind (fun u1 =>
((loopM (m_laws_toBarS_L1 a) BIG (0, (List.replicate (a.length : Int).toNat (TBar.mk (0 : Int) (0 : Int))))).bind (fun b11 =>
 some b11
))
)

def m_laws_toGraph (a : TGraph) : Option TGraph :=
(m_laws_toBarS a.Bars).bind (fun r1 =>
 some (TGraph.mk a.Points r1)
)

def m_spec_l2After (a : TBar) (b : TBar) : Option Bool :=
(((
(bif (decide (a.A < b.A)) then
 some true
 else
(bif (a.A == b.A) then
 some (decide (a.B ≤ b.B))
 else
 some false
)
)
) : Option Bool).bind (fun j3 =>
 some j3
))

def m_spec_IsGraph_L1 (g : TGraph) (s7 : Int) : Option (Int ⊕ (Unit ⊕ Bool)) :=
(bif (decide (s7 < (g.Bars.length : Int))) then
(idx g.Bars s7).bind (fun x42 =>
(((
(bif (decide (x42.A < 0)) then
 some true
 else
(bif (decide (x42.B ≤ x42.A)) then
 some true
 else
(bif (decide (g.Points ≤ x42.B)) then
 some true
 else
(bif (decide (0 < s7)) then
(idx g.Bars (w64 (s7 - 1))).bind (fun x54 =>
(m_spec_l2After x54 x42).bind (fun r55 =>
 some (!r55)
)
)
 else
 some false
)
)
)
)
) : Option Bool).bind (fun j49 =>
(bif j49 then
 some (.inr (.inr false))
 else
 some (.inl (w64 (s7 + 1)))
)
))
)
 else
 some (.inr (.inl ()))
)
def m_spec_IsGraph (g : TGraph) : Option Bool :=
(((
(m_spec_l1In g.Points 1 8).bind (fun r4 =>
(bif (!r4) then
 some true
 else
 some (decide (24 < (g.Bars.length : Int)))
)
)
) : Option Bool).bind (fun j3 =>
(bif j3 then
 some false
 else
((loopM (m_spec_IsGraph_L1 g) BIG 0).bind (Sum.elim (fun b40 => (
 some true
)) (fun r => some r)))
)
))

def m_spec_HingeGraph_L1 (g : TGraph) (s7 : (Int × (List TBar))) : Option ((Int × (List TBar)) ⊕ (List TBar)) :=
(bif (decide (s7.1 < (g.Bars.length : Int))) then
(idx g.Bars s7.1).bind (fun x18 =>
(idx g.Bars s7.1).bind (fun x19 =>
(lim (s7.2.length + [x18, x19].length)).bind (fun u20 =>
 some (.inl ((w64 (s7.1 + 1)), (s7.2 ++ [x18, x19])))
)
)
)
 else
 some (.inr s7.2)
)
def m_spec_HingeGraph (g : TGraph) : Option (TGraph × Bool) :=
(((
(m_spec_IsGraph g).bind (fun r4 =>
(bif (!r4) then
 some true
 else
 some (decide (24 < (w64 (2 * (g.Bars.length : Int)))))
)
)
) : Option Bool).bind (fun j3 =>
(bif j3 then
 some ((TGraph.mk 0 ([] : List TBar)), false)
 else
((loopM (m_spec_HingeGraph_L1 g) BIG (0, ([] : List TBar))).bind (fun b16 =>
 some ((TGraph.mk g.Points b16), true)
))
)
))

def m_impl_compareInts (a : Int) (b : Int) : Option Int :=
(bif (decide (a < b)) then
 some (-1)
 else
(bif (decide (b < a)) then
 some 1
 else
 some 0
)
)

def m_impl_compareBars (x : TBar) (y : TBar) : Option Int :=
(m_impl_compareInts x.A y.A).bind (fun r1 =>
(bif (r1 != 0) then
 some r1
 else
(m_impl_compareInts x.B y.B).bind (fun r3 =>
 some r3
)
)
)

def m_impl_IsGraph_L1 (g : TGraph) (s7 : Int) : Option (Int ⊕ (Unit ⊕ Bool)) :=
(bif (decide (s7 < (g.Bars.length : Int))) then
(idx g.Bars s7).bind (fun x42 =>
(((
(bif (decide (x42.A < 0)) then
 some true
 else
(bif (decide (x42.B ≤ x42.A)) then
 some true
 else
(bif (decide (g.Points ≤ x42.B)) then
 some true
 else
(bif (decide (0 < s7)) then
(idx g.Bars (w64 (s7 - 1))).bind (fun x54 =>
(m_impl_compareBars x54 x42).bind (fun r55 =>
 some (decide (0 < r55))
)
)
 else
 some false
)
)
)
)
) : Option Bool).bind (fun j49 =>
(bif j49 then
 some (.inr (.inr false))
 else
 some (.inl (w64 (s7 + 1)))
)
))
)
 else
 some (.inr (.inl ()))
)
def m_impl_IsGraph (g : TGraph) : Option Bool :=
(((
(m_impl_within g.Points 1 8).bind (fun r4 =>
(bif (!r4) then
 some true
 else
 some (decide (24 < (g.Bars.length : Int)))
)
)
) : Option Bool).bind (fun j3 =>
(bif j3 then
 some false
 else
((loopM (m_impl_IsGraph_L1 g) BIG 0).bind (Sum.elim (fun b40 => (
 some true
)) (fun r => some r)))
)
))

def m_impl_HingeGraph_L1 (g : TGraph) (s7 : (Int × (List TBar))) : Option ((Int × (List TBar)) ⊕ (List TBar)) :=
(bif (decide (s7.1 < (g.Bars.length : Int))) then
(idx g.Bars s7.1).bind (fun x16 =>
(lim (s7.2.length + [x16, x16].length)).bind (fun u17 =>
 some (.inl ((w64 (s7.1 + 1)), (s7.2 ++ [x16, x16])))
)
)
 else
 some (.inr s7.2)
)
def m_impl_HingeGraph (g : TGraph) : Option (TGraph × Bool) :=
(((
(m_impl_IsGraph g).bind (fun r4 =>
(bif (!r4) then
 some true
 else
 some (decide (24 < (w64 (2 * (g.Bars.length : Int)))))
)
)
) : Option Bool).bind (fun j3 =>
(bif j3 then
 some ((TGraph.mk 0 ([] : List TBar)), false)
 else
((loopM (m_impl_HingeGraph_L1 g) BIG (0, ([] : List TBar))).bind (fun b14 =>
 some ((TGraph.mk g.Points b14), true)
))
)
))

def m_laws_eqBar (a : TBar) (b : TBar) : Option Bool :=
(bif (a.A != b.A) then
 some false
 else
(bif (a.B != b.B) then
 some false
 else
 some true
)
)

def m_laws_eqBarS_L1 (a : (List TBar)) (b : (List TBar)) (s2 : Int) : Option (Int ⊕ (Unit ⊕ Bool)) :=
(bif (decide (s2 < (a.length : Int))) then
(idx a s2).bind (fun x15 =>
(idx b s2).bind (fun x16 =>
(m_laws_eqBar x15 x16).bind (fun r17 =>
(bif (!r17) then
 some (.inr (.inr false))
 else
 some (.inl (w64 (s2 + 1)))
)
)
)
)
 else
 some (.inr (.inl ()))
)
def m_laws_eqBarS (a : (List TBar)) (b : (List TBar)) : Option Bool :=
(bif ((a.length : Int) != (b.length : Int)) then
 some false
 else
((loopM (m_laws_eqBarS_L1 a b) BIG 0).bind (Sum.elim (fun b13 => (
 some true
)) (fun r => some r)))
)

def m_laws_eqGraph (a : TGraph) (b : TGraph) : Option Bool :=
(bif (a.Points != b.Points) then
 some false
 else
(m_laws_eqBarS a.Bars b.Bars).bind (fun r2 =>
(bif (!r2) then
 some false
 else
 some true
)
)
)

def m_laws_markBarS_L1  (s1 : (Int × Int × (List TBar))) : Option ((Int × Int × (List TBar)) ⊕ (Int × (List TBar))) :=
(bif (decide (s1.2.1 < (s1.2.2.length : Int))) then
(idx s1.2.2 s1.2.1).bind (fun x10 =>
(idx (s1.2.2.set s1.2.1.toNat (TBar.mk s1.1 x10.B)) s1.2.1).bind (fun x11 =>
 some (.inl ((w64 ((w64 (s1.1 + 1)) + 1)), (w64 (s1.2.1 + 1)), ((s1.2.2.set s1.2.1.toNat (TBar.mk s1.1 x10.B)).set s1.2.1.toNat (TBar.mk x11.A (w64 (s1.1 + 1))))))
)
)
 else
 some (.inr (s1.1, s1.2.2))
)
def m_laws_markBarS (a : (List TBar)) (k : Int) : Option (Int × (List TBar)) :=
((loopM (m_laws_markBarS_L1) BIG (k, 0, a)).bind (fun b8 =>
 some (b8.1, b8.2)
))

def m_laws_markGraph (a : TGraph) (k : Int) : Option (Int × (List TBar)) :=
(m_laws_markBarS a.Bars k).bind (fun r1 =>
 some (r1.1, r1.2)
)

def m_laws_heldBarS_L1 (a : (List TBar)) (s1 : (Int × Int)) : Option ((Int × Int) ⊕ (Int ⊕ Int)) :=
(bif (decide (s1.2 < (a.length : Int))) then
(idx a s1.2).bind (fun x14 =>
(bif (x14.A != s1.1) then
 some (.inr (.inr (-1)))
 else
(idx a s1.2).bind (fun x16 =>
(bif (x16.B != (w64 (s1.1 + 1))) then
 some (.inr (.inr (-1)))
 else
 some (.inl ((w64 ((w64 (s1.1 + 1)) + 1)), (w64 (s1.2 + 1))))
)
)
)
)
 else
 some (.inr (.inl s1.1))
)
def m_laws_heldBarS (a : (List TBar)) (k : Int) : Option Int :=
((loopM (m_laws_heldBarS_L1 a) BIG (k, 0)).bind (Sum.elim (fun b12 => (
 some b12
)) (fun r => some r)))

def m_laws_heldGraph (a : TGraph) (k : Int) : Option Int :=
(m_laws_heldBarS a.Bars k).bind (fun r1 =>
(bif (decide (r1 < 0)) then
 some (-1)
 else
 some r1
)
)

def m_laws_FnExactHingeGraph (aG : TGraph) : Option Bool :=
(m_laws_szGraph aG 1048576).bind (fun r1 =>
(bif (decide (r1 < 0)) then
 some true
 else
(m_laws_toGraph aG).bind (fun r3 =>
(m_spec_HingeGraph r3).bind (fun r4 =>
(m_laws_toGraph aG).bind (fun r5 =>
(m_impl_HingeGraph r5).bind (fun r6 =>
(((
(m_laws_eqGraph r6.1 r4.1).bind (fun r10 =>
(bif (!r10) then
 some true
 else
 some (r6.2 != r4.2)
)
)
) : Option Bool).bind (fun j9 =>
(bif j9 then
 some false
 else
(m_laws_toGraph aG).bind (fun r13 =>
(m_laws_eqGraph r5 r13).bind (fun r14 =>
(bif (!r14) then
 some false
 else
(m_laws_markGraph r5 1).bind (fun r16 =>
(((
(bif (decide (r16.1 < 0)) then
 some true
 else
(m_laws_eqGraph r6.1 r4.1).bind (fun r22 =>
(bif (!r22) then
 some true
 else
 some (r6.2 != r4.2)
)
)
)
) : Option Bool).bind (fun j20 =>
(bif j20 then
 some false
 else
(m_laws_markGraph r6.1 1).bind (fun r25 =>
(same r6.1.Bars.length r25.2.length).bind (fun u26 =>
(m_laws_heldGraph (TGraph.mk r6.1.Points r25.2) 1).bind (fun r27 =>
(bif (decide (r27 < 0)) then
 some false
 else
(bif (r27 != r25.1) then
 some false
 else
(m_laws_toGraph aG).bind (fun r30 =>
(m_impl_HingeGraph r30).bind (fun r31 =>
(((
(m_laws_eqGraph r31.1 r4.1).bind (fun r35 =>
(bif (!r35) then
(same r6.1.Bars.length r25.2.length).bind (fun u37 =>
 some true
)
 else
(same r6.1.Bars.length r25.2.length).bind (fun u38 =>
 some (r31.2 != r4.2)
)
)
)
) : Option Bool).bind (fun j34 =>
(bif j34 then
 some false
 else
(m_laws_heldGraph (TGraph.mk r6.1.Points r25.2) 1).bind (fun r40 =>
(bif (decide (r40 < 0)) then
 some false
 else
(bif (r40 != r25.1) then
 some false
 else
 some true
)
)
)
)
))
)
)
)
)
))
)
)
))
)
)
)
)
)
))
)
)
)
)
)
)

def m_spec_CountBar_L1 (g : TGraph) (a : Int) (b : Int) (s1 : (Int × Int)) : Option ((Int × Int) ⊕ Int) :=
(bif (decide (s1.2 < (g.Bars.length : Int))) then
(((
(idx g.Bars s1.2).bind (fun x65 =>
(bif (x65.A == a) then
(idx g.Bars s1.2).bind (fun x67 =>
(bif (x67.B == b) then
 some true
 else
(idx g.Bars s1.2).bind (fun x69 =>
(bif (x69.A == b) then
(idx g.Bars s1.2).bind (fun x71 =>
 some (x71.B == a)
)
 else
 some false
)
)
)
)
 else
(idx g.Bars s1.2).bind (fun x72 =>
(bif (x72.A == b) then
(idx g.Bars s1.2).bind (fun x74 =>
 some (x74.B == a)
)
 else
 some false
)
)
)
)
) : Option Bool).bind (fun j64 =>
(((
(bif j64 then
 some (w64 (s1.1 + 1))
 else
 some s1.1
)
) : Option Int).bind (fun j76 =>
 some (.inl (j76, (w64 (s1.2 + 1))))
))
))
 else
 some (.inr s1.1)
)
def m_spec_CountBar (g : TGraph) (a : Int) (b : Int) : Option Int :=
((loopM (m_spec_CountBar_L1 g a b) BIG (0, 0)).bind (fun b52 =>
 some b52
))

def m_spec_MissingBars_L4 (g : TGraph) (s1 : (Int × (List TBar))) (s53 : (Int × (List TBar))) : Option ((Int × (List TBar)) ⊕ (Int × (List TBar))) :=
(bif (decide (s53.1 < g.Points)) then
(m_spec_CountBar g s1.1 s53.1).bind (fun r70 =>
(((
(bif (r70 == 0) then
(lim (s53.2.length + [(TBar.mk s1.1 s53.1)].length)).bind (fun u75 =>
 some (s53.2 ++ [(TBar.mk s1.1 s53.1)])
)
 else
 some s53.2
)
) : Option (List TBar)).bind (fun j73 =>
 some (.inl ((w64 (s53.1 + 1)), j73))
))
)
 else
 some (.inr (s1.1, s53.2))
)
def m_spec_MissingBars_L3 (g : TGraph) (s1 : (Int × (List TBar))) : Option ((Int × (List TBar)) ⊕ (List TBar)) :=
(((
(bif (decide (s1.1 < g.Points)) then
(m_spec_IsGraph g).bind (fun r51 =>
 some r51
)
 else
 some false
)
) : Option Bool).bind (fun j49 =>
(bif j49 then
((loopM (m_spec_MissingBars_L4 g s1) BIG ((w64 (s1.1 + 1)), s1.2)).bind (fun b68 =>
 some (.inl ((w64 (b68.1 + 1)), b68.2))
))
 else
 some (.inr s1.2)
)
))
def m_spec_MissingBars (g : TGraph) : Option (List TBar) :=
((loopM (m_spec_MissingBars_L3 g) BIG (0, ([] : List TBar))).bind (fun b46 =>
 some b46
))

def m_impl_CountBar_L1 (g : TGraph) (a : Int) (b : Int) (s1 : (Int × Int)) : Option ((Int × Int) ⊕ Int) :=
(bif (decide (s1.2 < (g.Bars.length : Int))) then
(idx g.Bars s1.2).bind (fun x32 =>
(((
(bif (x32.A == a) then
(bif (x32.B == b) then
 some true
 else
(bif (x32.A == b) then
 some (x32.B == a)
 else
 some false
)
)
 else
(bif (x32.A == b) then
 some (x32.B == a)
 else
 some false
)
)
) : Option Bool).bind (fun j37 =>
(((
(bif j37 then
 some (w64 (s1.1 + 1))
 else
 some s1.1
)
) : Option Int).bind (fun j43 =>
 some (.inl (j43, (w64 (s1.2 + 1))))
))
))
)
 else
 some (.inr s1.1)
)
def m_impl_CountBar (g : TGraph) (a : Int) (b : Int) : Option Int :=
((loopM (m_impl_CountBar_L1 g a b) BIG (0, 0)).bind (fun b30 =>
 some b30
))

def m_impl_MissingBars_L4 (g : TGraph) (s3 : (Int × (List TBar))) (s40 : (Int × (List TBar))) : Option ((Int × (List TBar)) ⊕ (Int × (List TBar))) :=
(bif (decide (s40.1 < g.Points)) then
(m_impl_CountBar g s3.1 s40.1).bind (fun r57 =>
(((
(bif (r57 == 0) then
(lim (s40.2.length + [(TBar.mk s3.1 s40.1)].length)).bind (fun u62 =>
 some (s40.2 ++ [(TBar.mk s3.1 s40.1)])
)
 else
 some s40.2
)
) : Option (List TBar)).bind (fun j60 =>
 some (.inl ((w64 (s40.1 + 1)), j60))
))
)
 else
 some (.inr (s3.1, s40.2))
)
def m_impl_MissingBars_L3 (g : TGraph) (s3 : (Int × (List TBar))) : Option ((Int × (List TBar)) ⊕ (List TBar)) :=
(bif (decide (s3.1 < g.Points)) then
((loopM (m_impl_MissingBars_L4 g s3) BIG ((w64 (s3.1 + 1)), s3.2)).bind (fun b55 =>
 some (.inl ((w64 (b55.1 + 1)), b55.2))
))
 else
 some (.inr s3.2)
)
def m_impl_MissingBars (g : TGraph) : Option (List TBar) :=
(m_impl_IsGraph g).bind (fun r1 =>
(bif (!r1) then
 some ([] : List TBar)
 else
((loopM (m_impl_MissingBars_L3 g) BIG (0, ([] : List TBar))).bind (fun b38 =>
 some b38
))
)
)

def m_laws_FnExactMissingBars (aG : TGraph) : Option Bool :=
(m_laws_szGraph aG 1048576).bind (fun r1 =>
(bif (decide (r1 < 0)) then
 some true
 else
(m_laws_toGraph aG).bind (fun r3 =>
(m_spec_MissingBars r3).bind (fun r4 =>
(m_laws_toGraph aG).bind (fun r5 =>
(m_impl_MissingBars r5).bind (fun r6 =>
(m_laws_eqBarS r6 r4).bind (fun r7 =>
(bif (!r7) then
 some false
 else
(m_laws_toGraph aG).bind (fun r9 =>
(m_laws_eqGraph r5 r9).bind (fun r10 =>
(bif (!r10) then
 some false
 else
(m_laws_markGraph r5 1).bind (fun r12 =>
(((
(bif (decide (r12.1 < 0)) then
 some true
 else
(m_laws_eqBarS r6 r4).bind (fun r17 =>
 some (!r17)
)
)
) : Option Bool).bind (fun j15 =>
(bif j15 then
 some false
 else
(m_laws_markBarS r6 1).bind (fun r19 =>
(same r6.length r19.2.length).bind (fun u20 =>
(m_laws_heldBarS r19.2 1).bind (fun r21 =>
(bif (decide (r21 < 0)) then
 some false
 else
(bif (r21 != r19.1) then
 some false
 else
(m_laws_toGraph aG).bind (fun r24 =>
(m_impl_MissingBars r24).bind (fun r25 =>
(m_laws_eqBarS r25 r4).bind (fun r26 =>
(bif (!r26) then
 some false
 else
(same r6.length r19.2.length).bind (fun u28 =>
(m_laws_heldBarS r19.2 1).bind (fun r29 =>
(bif (decide (r29 < 0)) then
 some false
 else
(bif (r29 != r19.1) then
 some false
 else
 some true
)
)
))
)
)
)
)
)
)
))
)
)
))
)
)
)
)
)
)
)
)
)
)
)
)

def m_laws_toIntS_L1 (a : (List Int)) (s2 : (Int × (List Int))) : Option ((Int × (List Int)) ⊕ (List Int)) :=
(bif (decide (s2.1 < (a.length : Int))) then
(idx a s2.1).bind (fun x11 =>
(idx s2.2 s2.1).bind (fun x12 =>
 some (.inl ((w64 (s2.1 + 1)), (s2.2.set s2.1.toNat x11)))
)
)
 else
 some (.inr s2.2)
)
def m_laws_toIntS (a : (List Int)) : Option (List Int) :=
(lenOk (a.length : Int)).bind (fun u1 =>
((loopM (m_laws_toIntS_L1 a) BIG (0, (List.replicate (a.length : Int).toNat (0 : Int)))).bind (fun b9 =>
 some b9
))
)

def m_spec_l2Has_L1 (l : (List Int)) (x : Int) (s1 : Int) : Option (Int ⊕ (Unit ⊕ Bool)) :=
(bif (decide (s1 < (l.length : Int))) then
(idx l s1).bind (fun x10 =>
(bif (x10 == x) then
 some (.inr (.inr true))
 else
 some (.inl (w64 (s1 + 1)))
)
)
 else
 some (.inr (.inl ()))
)
def m_spec_l2Has (l : (List Int)) (x : Int) : Option Bool :=
((loopM (m_spec_l2Has_L1 l x) BIG 0).bind (Sum.elim (fun b8 => (
 some false
)) (fun r => some r)))

def m_spec_WithoutPoints_L1 (setV : (List Int)) (s2 : (Int × Int × (List Int))) : Option ((Int × Int × (List Int)) ⊕ (Int × (List Int))) :=
(bif (decide (s2.2.1 < (s2.2.2.length : Int))) then
(idx s2.2.2 s2.2.1).bind (fun x21 =>
(m_spec_l2Has setV s2.2.1).bind (fun r22 =>
(((
(bif (!r22) then
(idx (s2.2.2.set s2.2.1.toNat (-1)) s2.2.1).bind (fun x27 =>
 some ((w64 (s2.1 + 1)), ((s2.2.2.set s2.2.1.toNat (-1)).set s2.2.1.toNat s2.1))
)
 else
 some (s2.1, (s2.2.2.set s2.2.1.toNat (-1)))
)
) : Option (Int × (List Int))).bind (fun j25 =>
 some (.inl (j25.1, (w64 (s2.2.1 + 1)), j25.2))
))
)
)
 else
 some (.inr (s2.1, s2.2.2))
)
def m_spec_WithoutPoints_L2 (g : TGraph) (b19 : (Int × (List Int))) (s28 : (Int × (List TBar))) : Option ((Int × (List TBar)) ⊕ ((List TBar) × Int)) :=
(((
(bif (decide (s28.1 < (g.Bars.length : Int))) then
(m_spec_IsGraph g).bind (fun r70 =>
 some r70
)
 else
 some false
)
) : Option Bool).bind (fun j68 =>
(bif j68 then
(idx g.Bars s28.1).bind (fun x72 =>
(idx b19.2 x72.A).bind (fun x73 =>
(idx g.Bars s28.1).bind (fun x74 =>
(idx b19.2 x74.B).bind (fun x75 =>
(((
(bif (decide (0 ≤ x73)) then
 some (decide (0 ≤ x75))
 else
 some false
)
) : Option Bool).bind (fun j77 =>
(((
(bif j77 then
(lim (s28.2.length + [(TBar.mk x73 x75)].length)).bind (fun u83 =>
 some (s28.2 ++ [(TBar.mk x73 x75)])
)
 else
 some s28.2
)
) : Option (List TBar)).bind (fun j81 =>
 some (.inl ((w64 (s28.1 + 1)), j81))
))
))
)
)
)
)
 else
 some (.inr (s28.2, b19.1))
)
))
def m_spec_WithoutPoints (g : TGraph) (setV : (List Int)) : Option TGraph :=
(lenOk (if 0 < (if g.Points < 8 then g.Points else 8) then (if g.Points < 8 then g.Points else 8) else 0)).bind (fun u1 =>
((loopM (m_spec_WithoutPoints_L1 setV) BIG (0, 0, (List.replicate (if 0 < (if g.Points < 8 then g.Points else 8) then (if g.Points < 8 then g.Points else 8) else 0).toNat (0 : Int)))).bind (fun b19 =>
((loopM (m_spec_WithoutPoints_L2 g b19) BIG (0, ([] : List TBar))).bind (fun b65 =>
 some (TGraph.mk b65.2 b65.1)
))
))
)

def m_slices_Index_L1 (s : (List Int)) (v : Int) (s1 : Int) : Option (Int ⊕ (Unit ⊕ Int)) :=
(bif (decide (s1 < (s.length : Int))) then
(idx s s1).bind (fun x10 =>
(bif (v == x10) then
 some (.inr (.inr s1))
 else
 some (.inl (w64 (s1 + 1)))
)
)
 else
 some (.inr (.inl ()))
)
def m_slices_Index (s : (List Int)) (v : Int) : Option Int :=
((loopM (m_slices_Index_L1 s v) BIG 0).bind (Sum.elim (fun b8 => (
 some (-1)
)) (fun r => some r)))

def m_slices_Contains (s : (List Int)) (v : Int) : Option Bool :=
(m_slices_Index s v).bind (fun r1 =>
 some (decide (0 ≤ r1))
)

def m_impl_WithoutPoints_L1 (g : TGraph) (setV : (List Int)) (s2 : (Int × (List Int) × Int)) : Option ((Int × (List Int) × Int) ⊕ ((List Int) × Int)) :=
(bif (decide (s2.1 < ((List.replicate (if 0 < (if 8 < g.Points then 8 else g.Points) then (if 8 < g.Points then 8 else g.Points) else 0).toNat (0 : Int)).length : Int))) then
(idx s2.2.1 s2.1).bind (fun x21 =>
(m_slices_Contains setV s2.1).bind (fun r22 =>
(((
(bif (!r22) then
(idx (s2.2.1.set s2.1.toNat (-1)) s2.1).bind (fun x27 =>
 some (((s2.2.1.set s2.1.toNat (-1)).set s2.1.toNat s2.2.2), (w64 (s2.2.2 + 1)))
)
 else
 some ((s2.2.1.set s2.1.toNat (-1)), s2.2.2)
)
) : Option ((List Int) × Int)).bind (fun j25 =>
 some (.inl ((w64 (s2.1 + 1)), j25.1, j25.2))
))
)
)
 else
 some (.inr (s2.2.1, s2.2.2))
)
def m_impl_WithoutPoints_L2 (g : TGraph) (b19 : ((List Int) × Int)) (s30 : (Int × (List TBar))) : Option ((Int × (List TBar)) ⊕ (Int × (List TBar))) :=
(bif (decide (s30.1 < (g.Bars.length : Int))) then
(idx g.Bars s30.1).bind (fun x57 =>
(idx b19.1 x57.A).bind (fun x58 =>
(idx b19.1 x57.B).bind (fun x59 =>
(((
(bif (decide (0 ≤ x58)) then
 some (decide (0 ≤ x59))
 else
 some false
)
) : Option Bool).bind (fun j61 =>
(((
(bif j61 then
(lim (s30.2.length + [(TBar.mk x58 x59)].length)).bind (fun u67 =>
 some (s30.2 ++ [(TBar.mk x58 x59)])
)
 else
 some s30.2
)
) : Option (List TBar)).bind (fun j65 =>
 some (.inl ((w64 (s30.1 + 1)), j65))
))
))
)
)
)
 else
 some (.inr (b19.2, s30.2))
)
def m_impl_WithoutPoints (g : TGraph) (setV : (List Int)) : Option TGraph :=
(lenOk (if 0 < (if 8 < g.Points then 8 else g.Points) then (if 8 < g.Points then 8 else g.Points) else 0)).bind (fun u1 =>
((loopM (m_impl_WithoutPoints_L1 g setV) BIG (0, (List.replicate (if 0 < (if 8 < g.Points then 8 else g.Points) then (if 8 < g.Points then 8 else g.Points) else 0).toNat (0 : Int)), 0)).bind (fun b19 =>
(m_impl_IsGraph g).bind (fun r28 =>
(bif (!r28) then
 some (TGraph.mk b19.2 ([] : List TBar))
 else
((loopM (m_impl_WithoutPoints_L2 g b19) BIG (0, ([] : List TBar))).bind (fun b55 =>
 some (TGraph.mk b55.1 b55.2)
))
)
)
))
)

def m_laws_eqIntS_L1 (a : (List Int)) (b : (List Int)) (s2 : Int) : Option (Int ⊕ (Unit ⊕ Bool)) :=
(bif (decide (s2 < (a.length : Int))) then
(idx a s2).bind (fun x13 =>
(idx b s2).bind (fun x14 =>
(bif (x13 != x14) then
 some (.inr (.inr false))
 else
 some (.inl (w64 (s2 + 1)))
)
)
)
 else
 some (.inr (.inl ()))
)
def m_laws_eqIntS (a : (List Int)) (b : (List Int)) : Option Bool :=
(bif ((a.length : Int) != (b.length : Int)) then
 some false
 else
((loopM (m_laws_eqIntS_L1 a b) BIG 0).bind (Sum.elim (fun b11 => (
 some true
)) (fun r => some r)))
)

def m_laws_markIntS_L1  (s1 : (Int × Int × (List Int))) : Option ((Int × Int × (List Int)) ⊕ (Int × (List Int))) :=
(bif (decide (s1.2.1 < (s1.2.2.length : Int))) then
(idx s1.2.2 s1.2.1).bind (fun x8 =>
 some (.inl ((w64 (s1.1 + 1)), (w64 (s1.2.1 + 1)), (s1.2.2.set s1.2.1.toNat s1.1)))
)
 else
 some (.inr (s1.1, s1.2.2))
)
def m_laws_markIntS (a : (List Int)) (k : Int) : Option (Int × (List Int)) :=
((loopM (m_laws_markIntS_L1) BIG (k, 0, a)).bind (fun b6 =>
 some (b6.1, b6.2)
))

def m_laws_FnExactWithoutPoints (aG : TGraph) (aSet : (List Int)) : Option Bool :=
(bif (decide (1048576 < (aSet.length : Int))) then
 some true
 else
(m_laws_szGraph aG 1048576).bind (fun r2 =>
(bif (decide (r2 < 0)) then
 some true
 else
(m_laws_toGraph aG).bind (fun r4 =>
(m_laws_toIntS aSet).bind (fun r5 =>
(m_spec_WithoutPoints r4 r5).bind (fun r6 =>
(m_laws_toGraph aG).bind (fun r7 =>
(m_laws_toIntS aSet).bind (fun r8 =>
(m_impl_WithoutPoints r7 r8).bind (fun r9 =>
(m_laws_eqGraph r9 r6).bind (fun r10 =>
(bif (!r10) then
 some false
 else
(m_laws_toGraph aG).bind (fun r12 =>
(m_laws_eqGraph r7 r12).bind (fun r13 =>
(bif (!r13) then
 some false
 else
(m_laws_toIntS aSet).bind (fun r15 =>
(m_laws_eqIntS r8 r15).bind (fun r16 =>
(bif (!r16) then
 some false
 else
(m_laws_markGraph r7 1).bind (fun r18 =>
(m_laws_markIntS r8 r18.1).bind (fun r19 =>
(((
(bif (decide (r19.1 < 0)) then
 some true
 else
(m_laws_eqGraph r9 r6).bind (fun r24 =>
 some (!r24)
)
)
) : Option Bool).bind (fun j22 =>
(bif j22 then
 some false
 else
(m_laws_markGraph r9 1).bind (fun r26 =>
(same r9.Bars.length r26.2.length).bind (fun u27 =>
(m_laws_heldGraph (TGraph.mk r9.Points r26.2) 1).bind (fun r28 =>
(bif (decide (r28 < 0)) then
 some false
 else
(bif (r28 != r26.1) then
 some false
 else
(m_laws_toGraph aG).bind (fun r31 =>
(m_laws_toIntS aSet).bind (fun r32 =>
(m_impl_WithoutPoints r31 r32).bind (fun r33 =>
(m_laws_eqGraph r33 r6).bind (fun r34 =>
(bif (!r34) then
 some false
 else
(same r9.Bars.length r26.2.length).bind (fun u36 =>
(m_laws_heldGraph (TGraph.mk r9.Points r26.2) 1).bind (fun r37 =>
(bif (decide (r37 < 0)) then
 some false
 else
(bif (r37 != r26.1) then
 some false
 else
 some true
)
)
))
)
)
)
)
)
)
)
))
)
)
))
)
)
)
)
)
)
)
)
)
)
)
)
)
)
)
)
)
)
)

def m_laws_szIntS (a : (List Int)) (leftV : Int) : Option Int :=
(bif (decide ((w64 (leftV - (a.length : Int))) < 0)) then
 some (-1)
 else
 some (w64 (leftV - (a.length : Int)))
)

def m_laws_szPinned (a : TPinned) (leftV : Int) : Option Int :=
(m_laws_szGraph a.Graph leftV).bind (fun r1 =>
(bif (decide (r1 < 0)) then
 some (-1)
 else
(m_laws_szIntS a.Ground r1).bind (fun r3 =>
(bif (decide (r3 < 0)) then
 some (-1)
 else
 some r3
)
)
)
)

def m_laws_toPinned (a : TPinned) : Option TPinned :=
(m_laws_toGraph a.Graph).bind (fun r1 =>
(m_laws_toIntS a.Ground).bind (fun r2 =>
 some (TPinned.mk r1 r2)
)
)

def m_spec_l17Simple_L1 (g : TGraph) (s1 : Int) : Option (Int ⊕ (Unit ⊕ Bool)) :=
(bif (decide (s1 < (g.Bars.length : Int))) then
(idx g.Bars (w64 (s1 - 1))).bind (fun x12 =>
(idx g.Bars s1).bind (fun x13 =>
(bif (eqI [x12.A, x12.B] [x13.A, x13.B]) then
 some (.inr (.inr false))
 else
 some (.inl (w64 (s1 + 1)))
)
)
)
 else
 some (.inr (.inl ()))
)
def m_spec_l17Simple (g : TGraph) : Option Bool :=
((loopM (m_spec_l17Simple_L1 g) BIG 1).bind (Sum.elim (fun b10 => (
(m_spec_IsGraph g).bind (fun r15 =>
 some r15
)
)) (fun r => some r)))

def m_spec_IsPinned_L1 (p : TPinned) (s1 : Int) : Option (Int ⊕ (Unit ⊕ Bool)) :=
(bif (decide (s1 < (p.Ground.length : Int))) then
(((
(idx p.Ground s1).bind (fun x46 =>
(bif (decide (x46 < 0)) then
 some true
 else
(idx p.Ground s1).bind (fun x48 =>
(bif (decide (p.Graph.Points ≤ x48)) then
 some true
 else
(bif (decide (0 < s1)) then
(idx p.Ground (w64 (s1 - 1))).bind (fun x51 =>
(idx p.Ground s1).bind (fun x52 =>
 some (decide (x52 ≤ x51))
)
)
 else
 some false
)
)
)
)
)
) : Option Bool).bind (fun j45 =>
(bif j45 then
 some (.inr (.inr false))
 else
 some (.inl (w64 (s1 + 1)))
)
))
 else
 some (.inr (.inl ()))
)
def m_spec_IsPinned_L2 (p : TPinned) (s54 : Int) : Option (Int ⊕ (Unit ⊕ Bool)) :=
(bif (decide (s54 < (p.Graph.Bars.length : Int))) then
(((
(idx p.Graph.Bars s54).bind (fun x89 =>
(m_spec_l2Has p.Ground x89.A).bind (fun r90 =>
(bif r90 then
(idx p.Graph.Bars s54).bind (fun x92 =>
(m_spec_l2Has p.Ground x92.B).bind (fun r93 =>
 some r93
)
)
 else
 some false
)
)
)
) : Option Bool).bind (fun j88 =>
(bif j88 then
 some (.inr (.inr false))
 else
 some (.inl (w64 (s54 + 1)))
)
))
 else
 some (.inr (.inl ()))
)
def m_spec_IsPinned (p : TPinned) : Option Bool :=
((loopM (m_spec_IsPinned_L1 p) BIG 0).bind (Sum.elim (fun b36 => (
((loopM (m_spec_IsPinned_L2 p) BIG 0).bind (Sum.elim (fun b81 => (
(((
(m_spec_l17Simple p.Graph).bind (fun r100 =>
(bif r100 then
(bif (decide (2 ≤ (p.Ground.length : Int))) then
(bif (decide ((p.Graph.Bars.length : Int) ≤ 15)) then
 some (decide ((w64 ((w64 ((p.Graph.Bars.length : Int) + (w64 (2 * (p.Ground.length : Int))))) - 3)) ≤ 24))
 else
 some false
)
 else
 some false
)
 else
 some false
)
)
) : Option Bool).bind (fun j99 =>
 some j99
))
)) (fun r => some r)))
)) (fun r => some r)))

def m_impl_hasDoubles_L1 (g : TGraph) (s1 : Int) : Option (Int ⊕ (Unit ⊕ Bool)) :=
(bif (decide (s1 < (g.Bars.length : Int))) then
(idx g.Bars (w64 (s1 - 1))).bind (fun x12 =>
(idx g.Bars s1).bind (fun x13 =>
(bif (eqI [x12.A, x12.B] [x13.A, x13.B]) then
 some (.inr (.inr true))
 else
 some (.inl (w64 (s1 + 1)))
)
)
)
 else
 some (.inr (.inl ()))
)
def m_impl_hasDoubles (g : TGraph) : Option Bool :=
((loopM (m_impl_hasDoubles_L1 g) BIG 1).bind (Sum.elim (fun b10 => (
 some false
)) (fun r => some r)))

def m_impl_Graph_has (g : TGraph) (v : Int) : Option Bool :=
(m_impl_within v 0 (w64 (g.Points - 1))).bind (fun r1 =>
 some r1
)

def m_impl_IsPinned_L1 (p : TPinned) (s15 : Int) : Option (Int ⊕ (Unit ⊕ Bool)) :=
(bif (decide (s15 < (p.Ground.length : Int))) then
(idx p.Ground s15).bind (fun x42 =>
(((
(m_impl_Graph_has p.Graph x42).bind (fun r48 =>
(bif (!r48) then
 some true
 else
(bif (decide (0 < s15)) then
(idx p.Ground (w64 (s15 - 1))).bind (fun x51 =>
 some (decide (x42 ≤ x51))
)
 else
 some false
)
)
)
) : Option Bool).bind (fun j47 =>
(bif j47 then
 some (.inr (.inr false))
 else
 some (.inl (w64 (s15 + 1)))
)
))
)
 else
 some (.inr (.inl ()))
)
def m_impl_IsPinned_L2 (p : TPinned) (s53 : Int) : Option (Int ⊕ (Unit ⊕ Bool)) :=
(bif (decide (s53 < (p.Graph.Bars.length : Int))) then
(idx p.Graph.Bars s53).bind (fun x76 =>
(((
(m_slices_Contains p.Ground x76.A).bind (fun r81 =>
(bif r81 then
(m_slices_Contains p.Ground x76.B).bind (fun r83 =>
 some r83
)
 else
 some false
)
)
) : Option Bool).bind (fun j80 =>
(bif j80 then
 some (.inr (.inr false))
 else
 some (.inl (w64 (s53 + 1)))
)
))
)
 else
 some (.inr (.inl ()))
)
def m_impl_IsPinned (p : TPinned) : Option Bool :=
(((
(m_impl_IsGraph p.Graph).bind (fun r8 =>
(bif (!r8) then
 some true
 else
(m_impl_hasDoubles p.Graph).bind (fun r10 =>
(bif r10 then
 some true
 else
(bif (decide ((p.Ground.length : Int) < 2)) then
 some true
 else
(bif (decide (15 < (p.Graph.Bars.length : Int))) then
 some true
 else
 some (decide (24 < (w64 ((w64 ((p.Graph.Bars.length : Int) + (w64 (2 * (p.Ground.length : Int))))) - 3))))
)
)
)
)
)
)
) : Option Bool).bind (fun j7 =>
(bif j7 then
 some false
 else
((loopM (m_impl_IsPinned_L1 p) BIG 0).bind (Sum.elim (fun b40 => (
((loopM (m_impl_IsPinned_L2 p) BIG 0).bind (Sum.elim (fun b74 => (
 some true
)) (fun r => some r)))
)) (fun r => some r)))
)
))

def m_laws_eqPinned (a : TPinned) (b : TPinned) : Option Bool :=
(m_laws_eqGraph a.Graph b.Graph).bind (fun r1 =>
(bif (!r1) then
 some false
 else
(m_laws_eqIntS a.Ground b.Ground).bind (fun r3 =>
(bif (!r3) then
 some false
 else
 some true
)
)
)
)

def m_laws_FnExactIsPinned (aP : TPinned) : Option Bool :=
(m_laws_szPinned aP 1048576).bind (fun r1 =>
(bif (decide (r1 < 0)) then
 some true
 else
(m_laws_toPinned aP).bind (fun r3 =>
(m_spec_IsPinned r3).bind (fun r4 =>
(m_laws_toPinned aP).bind (fun r5 =>
(m_impl_IsPinned r5).bind (fun r6 =>
(bif (r6 != r4) then
 some false
 else
(m_laws_toPinned aP).bind (fun r8 =>
(m_laws_eqPinned r5 r8).bind (fun r9 =>
(bif (!r9) then
 some false
 else
 some true
)
)
)
)
)
)
)
)
)
)

def m_laws_szPlaceS (a : (List TPlace)) (leftV : Int) : Option Int :=
(bif (decide ((w64 (leftV - (a.length : Int))) < 0)) then
 some (-1)
 else
 some (w64 (leftV - (a.length : Int)))
)

def m_laws_szFramework (a : TFramework) (leftV : Int) : Option Int :=
(m_laws_szGraph a.Graph leftV).bind (fun r1 =>
(bif (decide (r1 < 0)) then
 some (-1)
 else
(m_laws_szPlaceS a.Places r1).bind (fun r3 =>
(bif (decide (r3 < 0)) then
 some (-1)
 else
 some r3
)
)
)
)

def m_laws_toPlace (a : TPlace) : Option TPlace :=
 some a

def m_laws_toPlaceS_L1 (a : (List TPlace)) (s2 : (Int × (List TPlace))) : Option ((Int × (List TPlace)) ⊕ (List TPlace)) :=
(bif (decide (s2.1 < (a.length : Int))) then
(idx a s2.1).bind (fun x13 =>
(m_laws_toPlace x13).bind (fun r14 =>
(idx s2.2 s2.1).bind (fun x15 =>
 some (.inl ((w64 (s2.1 + 1)), (s2.2.set s2.1.toNat r14)))
)
)
)
 else
 some (.inr s2.2)
)
def m_laws_toPlaceS (a : (List TPlace)) : Option (List TPlace) :=
(lenOk (a.length : Int)).bind (fun u1 =>
((loopM (m_laws_toPlaceS_L1 a) BIG (0, (List.replicate (a.length : Int).toNat (TPlace.mk (0 : Int) (0 : Int))))).bind (fun b11 =>
 some b11
))
)

def m_laws_toFramework (a : TFramework) : Option TFramework :=
(m_laws_toGraph a.Graph).bind (fun r1 =>
(m_laws_toPlaceS a.Places).bind (fun r2 =>
 some (TFramework.mk r1 r2)
)
)

def m_spec_IsFramework_L1 (f : TFramework) (s11 : Int) : Option (Int ⊕ (Unit ⊕ Bool)) :=
(bif (decide (s11 < (f.Places.length : Int))) then
(((
(idx f.Places s11).bind (fun x46 =>
(m_spec_l1In x46.X 0 4).bind (fun r47 =>
(bif (!r47) then
 some true
 else
(idx f.Places s11).bind (fun x49 =>
(m_spec_l1In x49.Y 0 4).bind (fun r50 =>
 some (!r50)
)
)
)
)
)
) : Option Bool).bind (fun j45 =>
(bif j45 then
 some (.inr (.inr false))
 else
 some (.inl (w64 (s11 + 1)))
)
))
 else
 some (.inr (.inl ()))
)
def m_spec_IsFramework_L2 (f : TFramework) (s52 : Int) : Option (Int ⊕ (Unit ⊕ Bool)) :=
(bif (decide (s52 < (f.Graph.Bars.length : Int))) then
(idx f.Graph.Bars s52).bind (fun x83 =>
(((
(idx f.Places x83.A).bind (fun x90 =>
(idx f.Places x83.B).bind (fun x91 =>
(bif (eqI [x90.X, x90.Y] [x91.X, x91.Y]) then
 some true
 else
(bif (decide (0 < s52)) then
(idx f.Graph.Bars (w64 (s52 - 1))).bind (fun x94 =>
 some (eqI [x94.A, x94.B] [x83.A, x83.B])
)
 else
 some false
)
)
)
)
) : Option Bool).bind (fun j89 =>
(bif j89 then
 some (.inr (.inr false))
 else
 some (.inl (w64 (s52 + 1)))
)
))
)
 else
 some (.inr (.inl ()))
)
def m_spec_IsFramework (f : TFramework) : Option Bool :=
(((
(m_spec_IsGraph f.Graph).bind (fun r6 =>
(bif (!r6) then
 some true
 else
(bif (decide (6 < f.Graph.Points)) then
 some true
 else
(bif ((f.Places.length : Int) != f.Graph.Points) then
 some true
 else
 some (decide (15 < (f.Graph.Bars.length : Int)))
)
)
)
)
) : Option Bool).bind (fun j5 =>
(bif j5 then
 some false
 else
((loopM (m_spec_IsFramework_L1 f) BIG 0).bind (Sum.elim (fun b38 => (
((loopM (m_spec_IsFramework_L2 f) BIG 0).bind (Sum.elim (fun b81 => (
 some true
)) (fun r => some r)))
)) (fun r => some r)))
)
))

def m_spec_PairDistances_L4 (f : TFramework) (s1 : (Int × (List Int))) (s49 : (Int × (List Int))) : Option ((Int × (List Int)) ⊕ (Int × (List Int))) :=
(bif (decide (s49.1 < (f.Places.length : Int))) then
(idx f.Places s1.1).bind (fun x64 =>
(idx f.Places s49.1).bind (fun x65 =>
(idx f.Places s1.1).bind (fun x66 =>
(idx f.Places s49.1).bind (fun x67 =>
(lim (s49.2.length + ([(w64 ((w64 ((w64 (x64.X - x65.X)) * (w64 (x64.X - x65.X)))) + (w64 ((w64 (x66.Y - x67.Y)) * (w64 (x66.Y - x67.Y))))))] : List Int).length)).bind (fun u68 =>
 some (.inl ((w64 (s49.1 + 1)), (s49.2 ++ ([(w64 ((w64 ((w64 (x64.X - x65.X)) * (w64 (x64.X - x65.X)))) + (w64 ((w64 (x66.Y - x67.Y)) * (w64 (x66.Y - x67.Y))))))] : List Int))))
)
)
)
)
)
 else
 some (.inr (s1.1, s49.2))
)
def m_spec_PairDistances_L3 (f : TFramework) (s1 : (Int × (List Int))) : Option ((Int × (List Int)) ⊕ (List Int)) :=
(((
(bif (decide (s1.1 < (f.Places.length : Int))) then
(m_spec_IsFramework f).bind (fun r47 =>
 some r47
)
 else
 some false
)
) : Option Bool).bind (fun j45 =>
(bif j45 then
((loopM (m_spec_PairDistances_L4 f s1) BIG ((w64 (s1.1 + 1)), s1.2)).bind (fun b62 =>
 some (.inl ((w64 (b62.1 + 1)), b62.2))
))
 else
 some (.inr s1.2)
)
))
def m_spec_PairDistances (f : TFramework) : Option (List Int) :=
((loopM (m_spec_PairDistances_L3 f) BIG (0, ([] : List Int))).bind (fun b42 =>
 some b42
))

def m_spec_l6Same_L1 (a : (List Int)) (b : (List Int)) (s2 : Int) : Option (Int ⊕ (Unit ⊕ Bool)) :=
(bif (decide (s2 < (a.length : Int))) then
(idx a s2).bind (fun x13 =>
(idx b s2).bind (fun x14 =>
(bif (x13 != x14) then
 some (.inr (.inr false))
 else
 some (.inl (w64 (s2 + 1)))
)
)
)
 else
 some (.inr (.inl ()))
)
def m_spec_l6Same (a : (List Int)) (b : (List Int)) : Option Bool :=
(bif ((a.length : Int) != (b.length : Int)) then
 some false
 else
((loopM (m_spec_l6Same_L1 a b) BIG 0).bind (Sum.elim (fun b11 => (
 some true
)) (fun r => some r)))
)

def m_spec_IsCongruent (a : TFramework) (b : TFramework) : Option Bool :=
(((
(m_spec_IsFramework a).bind (fun r10 =>
(bif r10 then
(m_spec_IsFramework b).bind (fun r12 =>
(bif r12 then
(bif (a.Graph.Points == b.Graph.Points) then
(m_spec_PairDistances a).bind (fun r15 =>
(m_spec_PairDistances b).bind (fun r16 =>
(m_spec_l6Same r15 r16).bind (fun r17 =>
 some r17
)
)
)
 else
 some false
)
 else
 some false
)
)
 else
 some false
)
)
) : Option Bool).bind (fun j9 =>
 some j9
))

def m_impl_isPlace (p : TPlace) : Option Bool :=
(((
(m_impl_within p.X 0 4).bind (fun r5 =>
(bif r5 then
(m_impl_within p.Y 0 4).bind (fun r7 =>
 some r7
)
 else
 some false
)
)
) : Option Bool).bind (fun j4 =>
 some j4
))

def m_impl_IsFramework_L1 (f : TFramework) (s11 : Int) : Option (Int ⊕ (Unit ⊕ Bool)) :=
(bif (decide (s11 < (f.Places.length : Int))) then
(idx f.Places s11).bind (fun x22 =>
(m_impl_isPlace x22).bind (fun r23 =>
(bif (!r23) then
 some (.inr (.inr false))
 else
 some (.inl (w64 (s11 + 1)))
)
)
)
 else
 some (.inr (.inl ()))
)
def m_impl_IsFramework_L2 (f : TFramework) (s25 : Int) : Option (Int ⊕ (Unit ⊕ Bool)) :=
(bif (decide (s25 < (f.Graph.Bars.length : Int))) then
(idx f.Graph.Bars s25).bind (fun x64 =>
(((
(bif (decide (0 < s25)) then
(idx f.Graph.Bars (w64 (s25 - 1))).bind (fun x74 =>
(bif (eqI [x74.A, x74.B] [x64.A, x64.B]) then
 some true
 else
(idx f.Places x64.A).bind (fun x76 =>
(idx f.Places x64.B).bind (fun x77 =>
 some (eqI [x76.X, x76.Y] [x77.X, x77.Y])
)
)
)
)
 else
(idx f.Places x64.A).bind (fun x78 =>
(idx f.Places x64.B).bind (fun x79 =>
 some (eqI [x78.X, x78.Y] [x79.X, x79.Y])
)
)
)
) : Option Bool).bind (fun j72 =>
(bif j72 then
 some (.inr (.inr false))
 else
 some (.inl (w64 (s25 + 1)))
)
))
)
 else
 some (.inr (.inl ()))
)
def m_impl_IsFramework (f : TFramework) : Option Bool :=
(((
(m_impl_IsGraph f.Graph).bind (fun r6 =>
(bif (!r6) then
 some true
 else
(bif (decide (6 < f.Graph.Points)) then
 some true
 else
(bif (decide (15 < (f.Graph.Bars.length : Int))) then
 some true
 else
 some ((f.Places.length : Int) != f.Graph.Points)
)
)
)
)
) : Option Bool).bind (fun j5 =>
(bif j5 then
 some false
 else
((loopM (m_impl_IsFramework_L1 f) BIG 0).bind (Sum.elim (fun b20 => (
((loopM (m_impl_IsFramework_L2 f) BIG 0).bind (Sum.elim (fun b62 => (
 some true
)) (fun r => some r)))
)) (fun r => some r)))
)
))

def m_impl_Framework_square (f : TFramework) (a : Int) (b : Int) : Option Int :=
(idx f.Places a).bind (fun x1 =>
(idx f.Places b).bind (fun x2 =>
(idx f.Places a).bind (fun x3 =>
(idx f.Places b).bind (fun x4 =>
 some (w64 ((w64 ((w64 (x1.X - x2.X)) * (w64 (x1.X - x2.X)))) + (w64 ((w64 (x3.Y - x4.Y)) * (w64 (x3.Y - x4.Y))))))
)
)
)
)

def m_impl_PairDistances_L4 (f : TFramework) (s3 : (Int × (List Int))) (s24 : (Int × (List Int))) : Option ((Int × (List Int)) ⊕ (Int × (List Int))) :=
(bif (decide (s24.1 < (f.Places.length : Int))) then
(m_impl_Framework_square f s3.1 s24.1).bind (fun r33 =>
(lim (s24.2.length + ([r33] : List Int).length)).bind (fun u34 =>
 some (.inl ((w64 (s24.1 + 1)), (s24.2 ++ ([r33] : List Int))))
)
)
 else
 some (.inr (s3.1, s24.2))
)
def m_impl_PairDistances_L3 (f : TFramework) (s3 : (Int × (List Int))) : Option ((Int × (List Int)) ⊕ (List Int)) :=
(bif (decide (s3.1 < (f.Places.length : Int))) then
((loopM (m_impl_PairDistances_L4 f s3) BIG ((w64 (s3.1 + 1)), s3.2)).bind (fun b31 =>
 some (.inl ((w64 (b31.1 + 1)), b31.2))
))
 else
 some (.inr s3.2)
)
def m_impl_PairDistances (f : TFramework) : Option (List Int) :=
(m_impl_IsFramework f).bind (fun r1 =>
(bif (!r1) then
 some ([] : List Int)
 else
((loopM (m_impl_PairDistances_L3 f) BIG (0, ([] : List Int))).bind (fun b22 =>
 some b22
))
)
)

def m_slices_Equal_L1 (s1V : (List Int)) (s2V : (List Int)) (s2 : Int) : Option (Int ⊕ (Unit ⊕ Bool)) :=
(bif (decide (s2 < (s1V.length : Int))) then
(idx s1V s2).bind (fun x13 =>
(idx s2V s2).bind (fun x14 =>
(bif (x13 != x14) then
 some (.inr (.inr false))
 else
 some (.inl (w64 (s2 + 1)))
)
)
)
 else
 some (.inr (.inl ()))
)
def m_slices_Equal (s1V : (List Int)) (s2V : (List Int)) : Option Bool :=
(bif ((s1V.length : Int) != (s2V.length : Int)) then
 some false
 else
((loopM (m_slices_Equal_L1 s1V s2V) BIG 0).bind (Sum.elim (fun b11 => (
 some true
)) (fun r => some r)))
)

def m_impl_IsCongruent (a : TFramework) (b : TFramework) : Option Bool :=
(((
(m_impl_IsFramework a).bind (fun r10 =>
(bif r10 then
(m_impl_IsFramework b).bind (fun r12 =>
(bif r12 then
(bif (a.Graph.Points == b.Graph.Points) then
(m_impl_PairDistances a).bind (fun r15 =>
(m_impl_PairDistances b).bind (fun r16 =>
(m_slices_Equal r15 r16).bind (fun r17 =>
 some r17
)
)
)
 else
 some false
)
 else
 some false
)
)
 else
 some false
)
)
) : Option Bool).bind (fun j9 =>
 some j9
))

def m_laws_eqPlace (a : TPlace) (b : TPlace) : Option Bool :=
(bif (a.X != b.X) then
 some false
 else
(bif (a.Y != b.Y) then
 some false
 else
 some true
)
)

def m_laws_eqPlaceS_L1 (a : (List TPlace)) (b : (List TPlace)) (s2 : Int) : Option (Int ⊕ (Unit ⊕ Bool)) :=
(bif (decide (s2 < (a.length : Int))) then
(idx a s2).bind (fun x15 =>
(idx b s2).bind (fun x16 =>
(m_laws_eqPlace x15 x16).bind (fun r17 =>
(bif (!r17) then
 some (.inr (.inr false))
 else
 some (.inl (w64 (s2 + 1)))
)
)
)
)
 else
 some (.inr (.inl ()))
)
def m_laws_eqPlaceS (a : (List TPlace)) (b : (List TPlace)) : Option Bool :=
(bif ((a.length : Int) != (b.length : Int)) then
 some false
 else
((loopM (m_laws_eqPlaceS_L1 a b) BIG 0).bind (Sum.elim (fun b13 => (
 some true
)) (fun r => some r)))
)

def m_laws_eqFramework (a : TFramework) (b : TFramework) : Option Bool :=
(m_laws_eqGraph a.Graph b.Graph).bind (fun r1 =>
(bif (!r1) then
 some false
 else
(m_laws_eqPlaceS a.Places b.Places).bind (fun r3 =>
(bif (!r3) then
 some false
 else
 some true
)
)
)
)

def m_laws_FnExactIsCongruent (aA : TFramework) (aB : TFramework) : Option Bool :=
(m_laws_szFramework aA 1048576).bind (fun r1 =>
(bif (decide (r1 < 0)) then
 some true
 else
(m_laws_szFramework aB r1).bind (fun r3 =>
(bif (decide (r3 < 0)) then
 some true
 else
(m_laws_toFramework aA).bind (fun r5 =>
(m_laws_toFramework aB).bind (fun r6 =>
(m_spec_IsCongruent r5 r6).bind (fun r7 =>
(m_laws_toFramework aA).bind (fun r8 =>
(m_laws_toFramework aB).bind (fun r9 =>
(m_impl_IsCongruent r8 r9).bind (fun r10 =>
(bif (r10 != r7) then
 some false
 else
(m_laws_toFramework aA).bind (fun r12 =>
(m_laws_eqFramework r8 r12).bind (fun r13 =>
(bif (!r13) then
 some false
 else
(m_laws_toFramework aB).bind (fun r15 =>
(m_laws_eqFramework r9 r15).bind (fun r16 =>
(bif (!r16) then
 some false
 else
 some true
)
)
)
)
)
)
)
)
)
)
)
)
)
)
)
)
)

def m_laws_szTensegrity (a : TTensegrity) (leftV : Int) : Option Int :=
(m_laws_szFramework a.Framework leftV).bind (fun r1 =>
(bif (decide (r1 < 0)) then
 some (-1)
 else
(m_laws_szIntS a.Kinds r1).bind (fun r3 =>
(bif (decide (r3 < 0)) then
 some (-1)
 else
 some r3
)
)
)
)

def m_laws_toTensegrity (a : TTensegrity) : Option TTensegrity :=
(m_laws_toFramework a.Framework).bind (fun r1 =>
(m_laws_toIntS a.Kinds).bind (fun r2 =>
 some (TTensegrity.mk r1 r2)
)
)

def m_spec_IsTensegrity_L1 (tV : TTensegrity) (s1 : Int) : Option (Int ⊕ (Unit ⊕ Bool)) :=
(bif (decide (s1 < (tV.Kinds.length : Int))) then
(idx tV.Kinds s1).bind (fun x12 =>
(m_spec_l1In x12 0 2).bind (fun r13 =>
(bif (!r13) then
 some (.inr (.inr false))
 else
 some (.inl (w64 (s1 + 1)))
)
)
)
 else
 some (.inr (.inl ()))
)
def m_spec_IsTensegrity (tV : TTensegrity) : Option Bool :=
((loopM (m_spec_IsTensegrity_L1 tV) BIG 0).bind (Sum.elim (fun b10 => (
(((
(m_spec_IsFramework tV.Framework).bind (fun r18 =>
(bif r18 then
 some ((tV.Kinds.length : Int) == (tV.Framework.Graph.Bars.length : Int))
 else
 some false
)
)
) : Option Bool).bind (fun j17 =>
 some j17
))
)) (fun r => some r)))

def m_impl_IsTensegrity_L1 (tV : TTensegrity) (s1 : Int) : Option (Int ⊕ (Unit ⊕ Bool)) :=
(bif (decide (s1 < (tV.Kinds.length : Int))) then
(idx tV.Kinds s1).bind (fun x12 =>
(m_impl_within x12 0 2).bind (fun r13 =>
(bif (!r13) then
 some (.inr (.inr false))
 else
 some (.inl (w64 (s1 + 1)))
)
)
)
 else
 some (.inr (.inl ()))
)
def m_impl_IsTensegrity (tV : TTensegrity) : Option Bool :=
((loopM (m_impl_IsTensegrity_L1 tV) BIG 0).bind (Sum.elim (fun b10 => (
(((
(m_impl_IsFramework tV.Framework).bind (fun r18 =>
(bif r18 then
 some ((tV.Kinds.length : Int) == (tV.Framework.Graph.Bars.length : Int))
 else
 some false
)
)
) : Option Bool).bind (fun j17 =>
 some j17
))
)) (fun r => some r)))

def m_laws_eqTensegrity (a : TTensegrity) (b : TTensegrity) : Option Bool :=
(m_laws_eqFramework a.Framework b.Framework).bind (fun r1 =>
(bif (!r1) then
 some false
 else
(m_laws_eqIntS a.Kinds b.Kinds).bind (fun r3 =>
(bif (!r3) then
 some false
 else
 some true
)
)
)
)

def m_laws_FnExactIsTensegrity (aT : TTensegrity) : Option Bool :=
(m_laws_szTensegrity aT 1048576).bind (fun r1 =>
(bif (decide (r1 < 0)) then
 some true
 else
(m_laws_toTensegrity aT).bind (fun r3 =>
(m_spec_IsTensegrity r3).bind (fun r4 =>
(m_laws_toTensegrity aT).bind (fun r5 =>
(m_impl_IsTensegrity r5).bind (fun r6 =>
(bif (r6 != r4) then
 some false
 else
(m_laws_toTensegrity aT).bind (fun r8 =>
(m_laws_eqTensegrity r5 r8).bind (fun r9 =>
(bif (!r9) then
 some false
 else
 some true
)
)
)
)
)
)
)
)
)
)

def m_spec_InnerPoints_L1 (p : TPinned) (s1 : (Int × (List Int))) : Option ((Int × (List Int)) ⊕ (List Int)) :=
(((
(bif (decide (s1.1 < p.Graph.Points)) then
(m_spec_IsPinned p).bind (fun r31 =>
 some r31
)
 else
 some false
)
) : Option Bool).bind (fun j29 =>
(bif j29 then
(m_spec_l2Has p.Ground s1.1).bind (fun r33 =>
(((
(bif (!r33) then
(lim (s1.2.length + ([s1.1] : List Int).length)).bind (fun u38 =>
 some (s1.2 ++ ([s1.1] : List Int))
)
 else
 some s1.2
)
) : Option (List Int)).bind (fun j36 =>
 some (.inl ((w64 (s1.1 + 1)), j36))
))
)
 else
 some (.inr s1.2)
)
))
def m_spec_InnerPoints (p : TPinned) : Option (List Int) :=
((loopM (m_spec_InnerPoints_L1 p) BIG (0, ([] : List Int))).bind (fun b26 =>
 some b26
))

def m_impl_InnerPoints_L1 (p : TPinned) (s3 : (Int × (List Int))) : Option ((Int × (List Int)) ⊕ (List Int)) :=
(bif (decide (s3.1 < p.Graph.Points)) then
(m_slices_Contains p.Ground s3.1).bind (fun r20 =>
(((
(bif (!r20) then
(lim (s3.2.length + ([s3.1] : List Int).length)).bind (fun u25 =>
 some (s3.2 ++ ([s3.1] : List Int))
)
 else
 some s3.2
)
) : Option (List Int)).bind (fun j23 =>
 some (.inl ((w64 (s3.1 + 1)), j23))
))
)
 else
 some (.inr s3.2)
)
def m_impl_InnerPoints (p : TPinned) : Option (List Int) :=
(m_impl_IsPinned p).bind (fun r1 =>
(bif (!r1) then
 some ([] : List Int)
 else
((loopM (m_impl_InnerPoints_L1 p) BIG (0, ([] : List Int))).bind (fun b18 =>
 some b18
))
)
)

def m_laws_markPinned (a : TPinned) (k : Int) : Option (Int × (List TBar) × (List Int)) :=
(m_laws_markGraph a.Graph k).bind (fun r1 =>
(m_laws_markIntS a.Ground r1.1).bind (fun r2 =>
 some (r2.1, r1.2, r2.2)
)
)

def m_laws_heldIntS_L1 (a : (List Int)) (s1 : (Int × Int)) : Option ((Int × Int) ⊕ (Int ⊕ Int)) :=
(bif (decide (s1.2 < (a.length : Int))) then
(idx a s1.2).bind (fun x10 =>
(bif (x10 != s1.1) then
 some (.inr (.inr (-1)))
 else
 some (.inl ((w64 (s1.1 + 1)), (w64 (s1.2 + 1))))
)
)
 else
 some (.inr (.inl s1.1))
)
def m_laws_heldIntS (a : (List Int)) (k : Int) : Option Int :=
((loopM (m_laws_heldIntS_L1 a) BIG (k, 0)).bind (Sum.elim (fun b8 => (
 some b8
)) (fun r => some r)))

def m_laws_FnExactInnerPoints (aP : TPinned) : Option Bool :=
(m_laws_szPinned aP 1048576).bind (fun r1 =>
(bif (decide (r1 < 0)) then
 some true
 else
(m_laws_toPinned aP).bind (fun r3 =>
(m_spec_InnerPoints r3).bind (fun r4 =>
(m_laws_toPinned aP).bind (fun r5 =>
(m_impl_InnerPoints r5).bind (fun r6 =>
(m_laws_eqIntS r6 r4).bind (fun r7 =>
(bif (!r7) then
 some false
 else
(m_laws_toPinned aP).bind (fun r9 =>
(m_laws_eqPinned r5 r9).bind (fun r10 =>
(bif (!r10) then
 some false
 else
(m_laws_markPinned r5 1).bind (fun r12 =>
(((
(bif (decide (r12.1 < 0)) then
 some true
 else
(m_laws_eqIntS r6 r4).bind (fun r17 =>
 some (!r17)
)
)
) : Option Bool).bind (fun j15 =>
(bif j15 then
 some false
 else
(m_laws_markIntS r6 1).bind (fun r19 =>
(same r6.length r19.2.length).bind (fun u20 =>
(m_laws_heldIntS r19.2 1).bind (fun r21 =>
(bif (decide (r21 < 0)) then
 some false
 else
(bif (r21 != r19.1) then
 some false
 else
(m_laws_toPinned aP).bind (fun r24 =>
(m_impl_InnerPoints r24).bind (fun r25 =>
(m_laws_eqIntS r25 r4).bind (fun r26 =>
(bif (!r26) then
 some false
 else
(same r6.length r19.2.length).bind (fun u28 =>
(m_laws_heldIntS r19.2 1).bind (fun r29 =>
(bif (decide (r29 < 0)) then
 some false
 else
(bif (r29 != r19.1) then
 some false
 else
 some true
)
)
))
)
)
)
)
)
)
))
)
)
))
)
)
)
)
)
)
)
)
)
)
)
)

def m_spec_l3Set_L1 (n : Int) (mask : Int) (s1 : (Int × (List Int))) : Option ((Int × (List Int)) ⊕ (List Int)) :=
(bif (decide (s1.1 < n)) then
(nn s1.1).bind (fun u17 =>
(((
(bif ((bits .and .i64 (shrI mask s1.1) 1) == 1) then
(lim (s1.2.length + ([s1.1] : List Int).length)).bind (fun u22 =>
 some (s1.2 ++ ([s1.1] : List Int))
)
 else
 some s1.2
)
) : Option (List Int)).bind (fun j20 =>
 some (.inl ((w64 (s1.1 + 1)), j20))
))
)
 else
 some (.inr s1.2)
)
def m_spec_l3Set (n : Int) (mask : Int) : Option (List Int) :=
((loopM (m_spec_l3Set_L1 n mask) BIG (0, ([] : List Int))).bind (fun b15 =>
 some b15
))

def m_spec_ReachOf_L4 (g : TGraph) (s11 : (Int × (List Bool))) (s112 : (Int × (List Bool))) : Option ((Int × (List Bool)) ⊕ (Int × (List Bool))) :=
(bif (decide (s112.1 < (g.Bars.length : Int))) then
(((
(idx g.Bars s112.1).bind (fun x167 =>
(idx s112.2 x167.A).bind (fun x168 =>
(bif x168 then
 some true
 else
(idx g.Bars s112.1).bind (fun x170 =>
(idx s112.2 x170.B).bind (fun x171 =>
 some x171
)
)
)
)
)
) : Option Bool).bind (fun j166 =>
(((
(bif j166 then
(idx g.Bars s112.1).bind (fun x179 =>
(idx s112.2 x179.A).bind (fun x180 =>
(idx g.Bars s112.1).bind (fun x181 =>
(idx (s112.2.set x179.A.toNat true) x181.B).bind (fun x182 =>
 some ((s112.2.set x179.A.toNat true).set x181.B.toNat true)
)
)
)
)
 else
 some s112.2
)
) : Option (List Bool)).bind (fun j177 =>
 some (.inl ((w64 (s112.1 + 1)), j177))
))
))
 else
 some (.inr (s11.1, s112.2))
)
def m_spec_ReachOf_L3 (g : TGraph) (s11 : (Int × (List Bool))) : Option ((Int × (List Bool)) ⊕ (List Bool)) :=
(bif (decide (s11.1 < g.Points)) then
((loopM (m_spec_ReachOf_L4 g s11) BIG (0, s11.2)).bind (fun b159 =>
 some (.inl ((w64 (b159.1 + 1)), b159.2))
))
 else
 some (.inr s11.2)
)
def m_spec_ReachOf_L5 (g : TGraph) (b110 : (List Bool)) (s183 : (Int × (List Int))) : Option ((Int × (List Int)) ⊕ (List Int)) :=
(bif (decide (s183.1 < g.Points)) then
(idx b110 s183.1).bind (fun x200 =>
(((
(bif x200 then
(lim (s183.2.length + ([s183.1] : List Int).length)).bind (fun u205 =>
 some (s183.2 ++ ([s183.1] : List Int))
)
 else
 some s183.2
)
) : Option (List Int)).bind (fun j203 =>
 some (.inl ((w64 (s183.1 + 1)), j203))
))
)
 else
 some (.inr s183.2)
)
def m_spec_ReachOf (g : TGraph) (v : Int) : Option (List Int) :=
(((
(m_spec_IsGraph g).bind (fun r5 =>
(bif (!r5) then
 some true
 else
(bif (decide (v < 0)) then
 some true
 else
 some (decide (g.Points ≤ v))
)
)
)
) : Option Bool).bind (fun j4 =>
(bif j4 then
 some ([] : List Int)
 else
(lenOk g.Points).bind (fun u9 =>
(idx (List.replicate g.Points.toNat false) v).bind (fun x10 =>
((loopM (m_spec_ReachOf_L3 g) BIG (0, ((List.replicate g.Points.toNat false).set v.toNat true))).bind (fun b110 =>
((loopM (m_spec_ReachOf_L5 g b110) BIG (0, ([] : List Int))).bind (fun b198 =>
 some b198
))
))
)
)
)
))

def m_spec_IsConnected (g : TGraph) : Option Bool :=
(((
(m_spec_IsGraph g).bind (fun r5 =>
(bif r5 then
(m_spec_ReachOf g 0).bind (fun r7 =>
 some ((r7.length : Int) == g.Points)
)
 else
 some false
)
)
) : Option Bool).bind (fun j4 =>
 some j4
))

def m_laws_markPlaceS_L1  (s1 : (Int × Int × (List TPlace))) : Option ((Int × Int × (List TPlace)) ⊕ (Int × (List TPlace))) :=
(bif (decide (s1.2.1 < (s1.2.2.length : Int))) then
(idx s1.2.2 s1.2.1).bind (fun x10 =>
(idx (s1.2.2.set s1.2.1.toNat (TPlace.mk s1.1 x10.Y)) s1.2.1).bind (fun x11 =>
 some (.inl ((w64 ((w64 (s1.1 + 1)) + 1)), (w64 (s1.2.1 + 1)), ((s1.2.2.set s1.2.1.toNat (TPlace.mk s1.1 x10.Y)).set s1.2.1.toNat (TPlace.mk x11.X (w64 (s1.1 + 1))))))
)
)
 else
 some (.inr (s1.1, s1.2.2))
)
def m_laws_markPlaceS (a : (List TPlace)) (k : Int) : Option (Int × (List TPlace)) :=
((loopM (m_laws_markPlaceS_L1) BIG (k, 0, a)).bind (fun b8 =>
 some (b8.1, b8.2)
))

def m_laws_markFramework (a : TFramework) (k : Int) : Option (Int × (List TBar) × (List TPlace)) :=
(m_laws_markGraph a.Graph k).bind (fun r1 =>
(m_laws_markPlaceS a.Places r1.1).bind (fun r2 =>
 some (r2.1, r1.2, r2.2)
)
)

def m_laws_FnExactPairDistances (aF : TFramework) : Option Bool :=
(m_laws_szFramework aF 1048576).bind (fun r1 =>
(bif (decide (r1 < 0)) then
 some true
 else
(m_laws_toFramework aF).bind (fun r3 =>
(m_spec_PairDistances r3).bind (fun r4 =>
(m_laws_toFramework aF).bind (fun r5 =>
(m_impl_PairDistances r5).bind (fun r6 =>
(m_laws_eqIntS r6 r4).bind (fun r7 =>
(bif (!r7) then
 some false
 else
(m_laws_toFramework aF).bind (fun r9 =>
(m_laws_eqFramework r5 r9).bind (fun r10 =>
(bif (!r10) then
 some false
 else
(m_laws_markFramework r5 1).bind (fun r12 =>
(((
(bif (decide (r12.1 < 0)) then
 some true
 else
(m_laws_eqIntS r6 r4).bind (fun r17 =>
 some (!r17)
)
)
) : Option Bool).bind (fun j15 =>
(bif j15 then
 some false
 else
(m_laws_markIntS r6 1).bind (fun r19 =>
(same r6.length r19.2.length).bind (fun u20 =>
(m_laws_heldIntS r19.2 1).bind (fun r21 =>
(bif (decide (r21 < 0)) then
 some false
 else
(bif (r21 != r19.1) then
 some false
 else
(m_laws_toFramework aF).bind (fun r24 =>
(m_impl_PairDistances r24).bind (fun r25 =>
(m_laws_eqIntS r25 r4).bind (fun r26 =>
(bif (!r26) then
 some false
 else
(same r6.length r19.2.length).bind (fun u28 =>
(m_laws_heldIntS r19.2 1).bind (fun r29 =>
(bif (decide (r29 < 0)) then
 some false
 else
(bif (r29 != r19.1) then
 some false
 else
 some true
)
)
))
)
)
)
)
)
)
))
)
)
))
)
)
)
)
)
)
)
)
)
)
)
)

def m_spec_l2Copy (g : TGraph) : Option TGraph :=
(lim (([] : List TBar).length + g.Bars.length)).bind (fun u1 =>
 some (TGraph.mk g.Points (([] : List TBar) ++ g.Bars))
)

def m_spec_PlacesFor_L1 (g : TGraph) (r1 : TGraph) (s10 : (Int × Int × (List TPlace))) : Option ((Int × Int × (List TPlace)) ⊕ ((List TBar) × (List TPlace) × Int)) :=
(bif (decide (s10.2.1 < g.Points)) then
(m_spec_NextSeed s10.1).bind (fun r19 =>
(lim (s10.2.2.length + [(TPlace.mk (Int.tmod (Int.tmod (w64 (Int.tdiv r19 16)) 25) 5) (w64 (Int.tdiv (Int.tmod (w64 (Int.tdiv r19 16)) 25) 5)))].length)).bind (fun u20 =>
 some (.inl (r19, (w64 (s10.2.1 + 1)), (s10.2.2 ++ [(TPlace.mk (Int.tmod (Int.tmod (w64 (Int.tdiv r19 16)) 25) 5) (w64 (Int.tdiv (Int.tmod (w64 (Int.tdiv r19 16)) 25) 5)))])))
)
)
 else
 some (.inr (r1.Bars, s10.2.2, r1.Points))
)
def m_spec_PlacesFor (g : TGraph) (seed : Int) : Option (TFramework × Bool) :=
(m_spec_l2Copy g).bind (fun r1 =>
(((
(m_spec_IsGraph g).bind (fun r6 =>
(bif (!r6) then
 some true
 else
(m_spec_l1In seed 0 65535).bind (fun r8 =>
 some (!r8)
)
)
)
) : Option Bool).bind (fun j5 =>
(bif j5 then
 some ((TFramework.mk (TGraph.mk 0 ([] : List TBar)) ([] : List TPlace)), false)
 else
((loopM (m_spec_PlacesFor_L1 g r1) BIG (seed, 0, ([] : List TPlace))).bind (fun b17 =>
(m_spec_IsFramework (TFramework.mk (TGraph.mk b17.2.2 b17.1) b17.2.1)).bind (fun r21 =>
(bif (!r21) then
 some ((TFramework.mk (TGraph.mk 0 ([] : List TBar)) ([] : List TPlace)), false)
 else
 some ((TFramework.mk (TGraph.mk b17.2.2 b17.1) b17.2.1), true)
)
)
))
)
))
)

def m_impl_copyGraph (g : TGraph) : Option TGraph :=
(lim (([] : List TBar).length + g.Bars.length)).bind (fun u1 =>
 some (TGraph.mk g.Points (([] : List TBar) ++ g.Bars))
)

def m_impl_PlacesFor_L1 (g : TGraph) (r9 : TGraph) (s10 : (Int × Int × (List TPlace))) : Option ((Int × Int × (List TPlace)) ⊕ ((List TBar) × Int × (List TPlace))) :=
(bif (decide (s10.2.1 < g.Points)) then
(m_impl_NextSeed s10.1).bind (fun r19 =>
(lim (s10.2.2.length + [(TPlace.mk (Int.tmod (Int.tmod (w64 (Int.tdiv r19 16)) 25) 5) (w64 (Int.tdiv (Int.tmod (w64 (Int.tdiv r19 16)) 25) 5)))].length)).bind (fun u20 =>
 some (.inl (r19, (w64 (s10.2.1 + 1)), (s10.2.2 ++ [(TPlace.mk (Int.tmod (Int.tmod (w64 (Int.tdiv r19 16)) 25) 5) (w64 (Int.tdiv (Int.tmod (w64 (Int.tdiv r19 16)) 25) 5)))])))
)
)
 else
 some (.inr (r9.Bars, r9.Points, s10.2.2))
)
def m_impl_PlacesFor (g : TGraph) (seed : Int) : Option (TFramework × Bool) :=
(((
(m_impl_IsGraph g).bind (fun r5 =>
(bif (!r5) then
 some true
 else
(m_impl_within seed 0 65535).bind (fun r7 =>
 some (!r7)
)
)
)
) : Option Bool).bind (fun j4 =>
(bif j4 then
 some ((TFramework.mk (TGraph.mk 0 ([] : List TBar)) ([] : List TPlace)), false)
 else
(m_impl_copyGraph g).bind (fun r9 =>
((loopM (m_impl_PlacesFor_L1 g r9) BIG (seed, 0, ([] : List TPlace))).bind (fun b17 =>
(m_impl_IsFramework (TFramework.mk (TGraph.mk b17.2.1 b17.1) b17.2.2)).bind (fun r21 =>
(bif (!r21) then
 some ((TFramework.mk (TGraph.mk 0 ([] : List TBar)) ([] : List TPlace)), false)
 else
 some ((TFramework.mk (TGraph.mk b17.2.1 b17.1) b17.2.2), true)
)
)
))
)
)
))

def m_laws_heldPlaceS_L1 (a : (List TPlace)) (s1 : (Int × Int)) : Option ((Int × Int) ⊕ (Int ⊕ Int)) :=
(bif (decide (s1.2 < (a.length : Int))) then
(idx a s1.2).bind (fun x14 =>
(bif (x14.X != s1.1) then
 some (.inr (.inr (-1)))
 else
(idx a s1.2).bind (fun x16 =>
(bif (x16.Y != (w64 (s1.1 + 1))) then
 some (.inr (.inr (-1)))
 else
 some (.inl ((w64 ((w64 (s1.1 + 1)) + 1)), (w64 (s1.2 + 1))))
)
)
)
)
 else
 some (.inr (.inl s1.1))
)
def m_laws_heldPlaceS (a : (List TPlace)) (k : Int) : Option Int :=
((loopM (m_laws_heldPlaceS_L1 a) BIG (k, 0)).bind (Sum.elim (fun b12 => (
 some b12
)) (fun r => some r)))

def m_laws_heldFramework (a : TFramework) (k : Int) : Option Int :=
(m_laws_heldGraph a.Graph k).bind (fun r1 =>
(bif (decide (r1 < 0)) then
 some (-1)
 else
(m_laws_heldPlaceS a.Places r1).bind (fun r3 =>
(bif (decide (r3 < 0)) then
 some (-1)
 else
 some r3
)
)
)
)

def m_laws_FnExactPlacesFor (aG : TGraph) (aSeed : Int) : Option Bool :=
(m_laws_szGraph aG 1048576).bind (fun r1 =>
(bif (decide (r1 < 0)) then
 some true
 else
(m_laws_toGraph aG).bind (fun r3 =>
(m_spec_PlacesFor r3 aSeed).bind (fun r4 =>
(m_laws_toGraph aG).bind (fun r5 =>
(m_impl_PlacesFor r5 aSeed).bind (fun r6 =>
(((
(m_laws_eqFramework r6.1 r4.1).bind (fun r10 =>
(bif (!r10) then
 some true
 else
 some (r6.2 != r4.2)
)
)
) : Option Bool).bind (fun j9 =>
(bif j9 then
 some false
 else
(m_laws_toGraph aG).bind (fun r13 =>
(m_laws_eqGraph r5 r13).bind (fun r14 =>
(bif (!r14) then
 some false
 else
(m_laws_markGraph r5 1).bind (fun r16 =>
(((
(bif (decide (r16.1 < 0)) then
 some true
 else
(m_laws_eqFramework r6.1 r4.1).bind (fun r22 =>
(bif (!r22) then
 some true
 else
 some (r6.2 != r4.2)
)
)
)
) : Option Bool).bind (fun j20 =>
(bif j20 then
 some false
 else
(m_laws_markFramework r6.1 1).bind (fun r25 =>
(same r6.1.Graph.Bars.length r25.2.1.length).bind (fun u26 =>
(same r6.1.Places.length r25.2.2.length).bind (fun u27 =>
(m_laws_heldFramework (TFramework.mk (TGraph.mk r6.1.Graph.Points r25.2.1) r25.2.2) 1).bind (fun r28 =>
(bif (decide (r28 < 0)) then
 some false
 else
(bif (r28 != r25.1) then
 some false
 else
(m_laws_toGraph aG).bind (fun r31 =>
(m_impl_PlacesFor r31 aSeed).bind (fun r32 =>
(((
(m_laws_eqFramework r32.1 r4.1).bind (fun r36 =>
(bif (!r36) then
(same r6.1.Graph.Bars.length r25.2.1.length).bind (fun u38 =>
(same r6.1.Places.length r25.2.2.length).bind (fun u39 =>
 some true
))
 else
(same r6.1.Graph.Bars.length r25.2.1.length).bind (fun u40 =>
(same r6.1.Places.length r25.2.2.length).bind (fun u41 =>
 some (r32.2 != r4.2)
))
)
)
) : Option Bool).bind (fun j35 =>
(bif j35 then
 some false
 else
(m_laws_heldFramework (TFramework.mk (TGraph.mk r6.1.Graph.Points r25.2.1) r25.2.2) 1).bind (fun r43 =>
(bif (decide (r43 < 0)) then
 some false
 else
(bif (r43 != r25.1) then
 some false
 else
 some true
)
)
)
)
))
)
)
)
)
)))
)
)
))
)
)
)
)
)
))
)
)
)
)
)
)

def m_impl_setOf_L1 (mask : Int) (n : Int) (s1 : (Int × (List Int))) : Option ((Int × (List Int)) ⊕ (List Int)) :=
(bif (decide (s1.1 < n)) then
(nn s1.1).bind (fun u17 =>
(((
(bif ((bits .and .i64 (shrI mask s1.1) 1) == 1) then
(lim (s1.2.length + ([s1.1] : List Int).length)).bind (fun u22 =>
 some (s1.2 ++ ([s1.1] : List Int))
)
 else
 some s1.2
)
) : Option (List Int)).bind (fun j20 =>
 some (.inl ((w64 (s1.1 + 1)), j20))
))
)
 else
 some (.inr s1.2)
)
def m_impl_setOf (mask : Int) (n : Int) : Option (List Int) :=
((loopM (m_impl_setOf_L1 mask n) BIG (0, ([] : List Int))).bind (fun b15 =>
 some b15
))

def m_impl_Graph_reach_L4 (g : TGraph) (s56 : (Bool × Int × (List Bool))) : Option ((Bool × Int × (List Bool)) ⊕ (Bool × (List Bool))) :=
(bif (decide (s56.2.1 < (g.Bars.length : Int))) then
(idx g.Bars s56.2.1).bind (fun x81 =>
(idx s56.2.2 x81.A).bind (fun x82 =>
(idx s56.2.2 x81.B).bind (fun x83 =>
(((
(bif (x82 != x83) then
(idx s56.2.2 x81.A).bind (fun x89 =>
(idx (s56.2.2.set x81.A.toNat true) x81.B).bind (fun x90 =>
 some (true, ((s56.2.2.set x81.A.toNat true).set x81.B.toNat true))
)
)
 else
 some (s56.1, s56.2.2)
)
) : Option (Bool × (List Bool))).bind (fun j87 =>
 some (.inl (j87.1, (w64 (s56.2.1 + 1)), j87.2))
))
)
)
)
 else
 some (.inr (s56.1, s56.2.2))
)
def m_impl_Graph_reach_L3 (g : TGraph) (s3 : (Bool × (List Bool))) : Option ((Bool × (List Bool)) ⊕ (List Bool)) :=
(bif s3.1 then
((loopM (m_impl_Graph_reach_L4 g) BIG (false, 0, s3.2)).bind (fun b79 =>
 some (.inl (b79.1, b79.2))
))
 else
 some (.inr s3.2)
)
def m_impl_Graph_reach (g : TGraph) (v : Int) : Option (List Bool) :=
(lenOk g.Points).bind (fun u1 =>
(idx (List.replicate g.Points.toNat false) v).bind (fun x2 =>
((loopM (m_impl_Graph_reach_L3 g) BIG (true, ((List.replicate g.Points.toNat false).set v.toNat true))).bind (fun b54 =>
 some b54
))
)
)

def m_impl_ReachOf_L1 (r9 : (List Bool)) (s10 : (Int × (List Int))) : Option ((Int × (List Int)) ⊕ (List Int)) :=
(bif (decide (s10.1 < (r9.length : Int))) then
(idx r9 s10.1).bind (fun x27 =>
(((
(bif x27 then
(lim (s10.2.length + ([s10.1] : List Int).length)).bind (fun u32 =>
 some (s10.2 ++ ([s10.1] : List Int))
)
 else
 some s10.2
)
) : Option (List Int)).bind (fun j30 =>
 some (.inl ((w64 (s10.1 + 1)), j30))
))
)
 else
 some (.inr s10.2)
)
def m_impl_ReachOf (g : TGraph) (v : Int) : Option (List Int) :=
(((
(m_impl_IsGraph g).bind (fun r5 =>
(bif (!r5) then
 some true
 else
(m_impl_Graph_has g v).bind (fun r7 =>
 some (!r7)
)
)
)
) : Option Bool).bind (fun j4 =>
(bif j4 then
 some ([] : List Int)
 else
(m_impl_Graph_reach g v).bind (fun r9 =>
((loopM (m_impl_ReachOf_L1 r9) BIG (0, ([] : List Int))).bind (fun b25 =>
 some b25
))
)
)
))

def m_impl_IsConnected (g : TGraph) : Option Bool :=
(((
(m_impl_IsGraph g).bind (fun r5 =>
(bif r5 then
(m_impl_ReachOf g 0).bind (fun r7 =>
 some ((r7.length : Int) == g.Points)
)
 else
 some false
)
)
) : Option Bool).bind (fun j4 =>
 some j4
))

end Go.Proofs.Ytihibpkbhjpajaa
