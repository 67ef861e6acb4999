/- The types of the models, their encoders, and the models of the functions. Written by a program of mine. -/
import Derived.Test.YtiphmhofhgbhlaaFw16
set_option linter.unusedVariables false
set_option linter.unusedSimpArgs false
set_option linter.unnecessarySimpa false
open Go Go.Fw
namespace Go.Proofs.Ytiphmhofhgbhlaa
structure TBar where
  mk ::
  A : Int
  B : Int
structure TGraph where
  mk ::
  Points : Int
  Bars : (List TBar)
structure TPebbles where
  mk ::
  Free : (List Int)
  Tails : (List Int)
  Placed : (List Int)
def encTBar (a : TBar) : List PV := [.sc (.int .i64 a.A), .sc (.int .i64 a.B)]
theorem perm_encTBar (a : TBar) : PermPL (encTBar a) := ⟨.sc, .sc, trivial⟩
theorem qw_encTBar (a : TBar) : QWL (encTBar a) (encTBar a) := ⟨.sc, .sc, trivial⟩
def encInt (a : Int) : List PV := [.sc (.int .i64 a)]
theorem perm_encInt (a : Int) : PermPL (encInt a) := ⟨.sc, trivial⟩
theorem qw_encInt (a : Int) : QWL (encInt a) (encInt a) := ⟨.sc, trivial⟩
def encBool (a : Bool) : List PV := [.sc (.bool a)]
theorem perm_encBool (a : Bool) : PermPL (encBool a) := ⟨.sc, trivial⟩
theorem qw_encBool (a : Bool) : QWL (encBool a) (encBool a) := ⟨.sc, trivial⟩
def encLInt (q : Bool) (a : (List Int)) : List PV := [.xs q (a.map encInt)]
theorem perm_encLInt (a : (List Int)) : PermPL (encLInt true a) := ⟨permP_xs perm_encInt _, trivial⟩
theorem qw_encLInt (a : (List Int)) : QWL (encLInt true a) (encLInt false a) := ⟨QW.xsm qw_encInt (fun h => by cases h) _, trivial⟩
def m_laws_szBarS (a : (List TBar)) (leftV : Int) : Option Int :=
(bif (decide ((w64 (leftV - (a.length : Int))) < 0)) then
 some (-1)
 else
 some (w64 (leftV - (a.length : Int)))
)

def m_laws_szGraph (a : TGraph) (leftV : Int) : Option Int :=
(m_laws_szBarS a.Bars leftV).bind (fun r1 =>
(bif (decide (r1 < 0)) then
 some (-1)
 else
 some r1
)
)

def m_laws_toBar (a : TBar) : Option TBar :=
 some a

def m_laws_toBarS_L1 (a : (List TBar)) (s2 : (Int × (List TBar))) : Option ((Int × (List TBar)) ⊕ (List TBar)) :=
(bif (decide (s2.1 < (a.length : Int))) then
(idx a s2.1).bind (fun x13 =>
(m_laws_toBar x13).bind (fun r14 =>
(idx s2.2 s2.1).bind (fun x15 =>
 some (.inl ((w64 (s2.1 + 1)), (s2.2.set s2.1.toNat r14)))
)
)
)
 else
 some (.inr s2.2)
)
def m_laws_toBarS (a : (List TBar)) : Option (List TBar) :=
(lenOk (a.length : Int)).bind (fun u1 =>
((loopM (m_laws_toBarS_L1 a) BIG (0, (List.replicate (a.length : Int).toNat (TBar.mk (0 : Int) (0 : Int))))).bind (fun b11 =>
 some b11
))
)

def m_laws_toGraph (a : TGraph) : Option TGraph :=
(m_laws_toBarS a.Bars).bind (fun r1 =>
 some (TGraph.mk a.Points r1)
)

def m_spec_l1In (x : Int) (low : Int) (high : Int) : Option Bool :=
(((
(bif (decide (low ≤ x)) then
 some (decide (x ≤ high))
 else
 some false
)
) : Option Bool).bind (fun j2 =>
 some j2
))

def m_spec_l2After (a : TBar) (b : TBar) : Option Bool :=
(((
(bif (decide (a.A < b.A)) then
 some true
 else
(bif (a.A == b.A) then
 some (decide (a.B ≤ b.B))
 else
 some false
)
)
) : Option Bool).bind (fun j3 =>
 some j3
))

def m_spec_IsGraph_L1 (g : TGraph) (s7 : Int) : Option (Int ⊕ (Unit ⊕ Bool)) :=
(bif (decide (s7 < (g.Bars.length : Int))) then
(idx g.Bars s7).bind (fun x42 =>
(((
(bif (decide (x42.A < 0)) then
 some true
 else
(bif (decide (x42.B ≤ x42.A)) then
 some true
 else
(bif (decide (g.Points ≤ x42.B)) then
 some true
 else
(bif (decide (0 < s7)) then
(idx g.Bars (w64 (s7 - 1))).bind (fun x54 =>
(m_spec_l2After x54 x42).bind (fun r55 =>
 some (!r55)
)
)
 else
 some false
)
)
)
)
) : Option Bool).bind (fun j49 =>
(bif j49 then
 some (.inr (.inr false))
 else
 some (.inl (w64 (s7 + 1)))
)
))
)
 else
 some (.inr (.inl ()))
)
def m_spec_IsGraph (g : TGraph) : Option Bool :=
(((
(m_spec_l1In g.Points 1 8).bind (fun r4 =>
(bif (!r4) then
 some true
 else
 some (decide (24 < (g.Bars.length : Int)))
)
)
) : Option Bool).bind (fun j3 =>
(bif j3 then
 some false
 else
((loopM (m_spec_IsGraph_L1 g) BIG 0).bind (Sum.elim (fun b40 => (
 some true
)) (fun r => some r)))
)
))

def m_spec_NewPebbles_L1 (g : TGraph) (k : Int) (s9 : (Int × (List Int))) : Option ((Int × (List Int)) ⊕ (List Int)) :=
(bif (decide (s9.1 < g.Points)) then
(lim (s9.2.length + ([k] : List Int).length)).bind (fun u16 =>
 some (.inl ((w64 (s9.1 + 1)), (s9.2 ++ ([k] : List Int))))
)
 else
 some (.inr s9.2)
)
def m_spec_NewPebbles (g : TGraph) (k : Int) : Option (TPebbles × Bool) :=
(((
(m_spec_IsGraph g).bind (fun r5 =>
(bif (!r5) then
 some true
 else
(m_spec_l1In k 1 3).bind (fun r7 =>
 some (!r7)
)
)
)
) : Option Bool).bind (fun j4 =>
(bif j4 then
 some ((TPebbles.mk ([] : List Int) ([] : List Int) ([] : List Int)), false)
 else
((loopM (m_spec_NewPebbles_L1 g k) BIG (0, ([] : List Int))).bind (fun b14 =>
 some ((TPebbles.mk b14 ([] : List Int) ([] : List Int)), true)
))
)
))

def m_spec_IsRange (k : Int) (l : Int) : Option Bool :=
(((
(m_spec_l1In k 1 3).bind (fun r5 =>
(bif r5 then
(bif (decide (0 ≤ l)) then
 some (decide (l < (w64 (2 * k))))
 else
 some false
)
 else
 some false
)
)
) : Option Bool).bind (fun j4 =>
 some j4
))

def m_spec_l4Tail_L1 (p : TPebbles) (v : Int) (s1 : (Int × Int)) : Option ((Int × Int) ⊕ Int) :=
(bif (decide (s1.2 < (p.Tails.length : Int))) then
(idx p.Tails s1.2).bind (fun x14 =>
(((
(bif (x14 == v) then
 some (w64 (s1.1 + 1))
 else
 some s1.1
)
) : Option Int).bind (fun j16 =>
 some (.inl (j16, (w64 (s1.2 + 1))))
))
)
 else
 some (.inr s1.1)
)
def m_spec_l4Tail (p : TPebbles) (v : Int) : Option Int :=
((loopM (m_spec_l4Tail_L1 p v) BIG (0, 0)).bind (fun b12 =>
 some b12
))

def m_spec_IsPebbles_L1 (g : TGraph) (p : TPebbles) (s13 : Int) : Option (Int ⊕ (Unit ⊕ Bool)) :=
(bif (decide (s13 < (p.Placed.length : Int))) then
(idx p.Placed s13).bind (fun x84 =>
(((
(bif (decide (x84 < 0)) then
 some true
 else
(bif (decide ((g.Bars.length : Int) ≤ x84)) then
 some true
 else
(bif (decide (0 < s13)) then
(idx p.Placed (w64 (s13 - 1))).bind (fun x104 =>
(bif (decide (x84 ≤ x104)) then
 some true
 else
(idx p.Tails s13).bind (fun x106 =>
(idx g.Bars x84).bind (fun x107 =>
(bif (x106 != x107.A) then
(idx p.Tails s13).bind (fun x109 =>
(idx g.Bars x84).bind (fun x110 =>
 some (x109 != x110.B)
)
)
 else
 some false
)
)
)
)
)
 else
(idx p.Tails s13).bind (fun x111 =>
(idx g.Bars x84).bind (fun x112 =>
(bif (x111 != x112.A) then
(idx p.Tails s13).bind (fun x114 =>
(idx g.Bars x84).bind (fun x115 =>
 some (x114 != x115.B)
)
)
 else
 some false
)
)
)
)
)
)
) : Option Bool).bind (fun j100 =>
(bif j100 then
 some (.inr (.inr false))
 else
 some (.inl (w64 (s13 + 1)))
)
))
)
 else
 some (.inr (.inl ()))
)
def m_spec_IsPebbles_L2 (g : TGraph) (k : Int) (p : TPebbles) (s117 : Int) : Option (Int ⊕ (Unit ⊕ Bool)) :=
(bif (decide (s117 < g.Points)) then
(((
(idx p.Free s117).bind (fun x147 =>
(bif (decide (x147 < 0)) then
 some true
 else
(idx p.Free s117).bind (fun x149 =>
(m_spec_l4Tail p s117).bind (fun r150 =>
 some ((w64 (x149 + r150)) != k)
)
)
)
)
) : Option Bool).bind (fun j146 =>
(bif j146 then
 some (.inr (.inr false))
 else
 some (.inl (w64 (s117 + 1)))
)
))
 else
 some (.inr (.inl ()))
)
def m_spec_IsPebbles (g : TGraph) (k : Int) (p : TPebbles) : Option Bool :=
(((
(m_spec_IsGraph g).bind (fun r7 =>
(bif (!r7) then
 some true
 else
(m_spec_l1In k 1 3).bind (fun r9 =>
(bif (!r9) then
 some true
 else
(bif ((p.Free.length : Int) != g.Points) then
 some true
 else
 some ((p.Tails.length : Int) != (p.Placed.length : Int))
)
)
)
)
)
) : Option Bool).bind (fun j6 =>
(bif j6 then
 some false
 else
((loopM (m_spec_IsPebbles_L1 g p) BIG 0).bind (Sum.elim (fun b82 => (
((loopM (m_spec_IsPebbles_L2 g k p) BIG 0).bind (Sum.elim (fun b140 => (
 some true
)) (fun r => some r)))
)) (fun r => some r)))
)
))

def m_spec_l4Copy (p : TPebbles) : Option TPebbles :=
(lim (([] : List Int).length + p.Free.length)).bind (fun u1 =>
(lim (([] : List Int).length + p.Tails.length)).bind (fun u2 =>
(lim (([] : List Int).length + p.Placed.length)).bind (fun u3 =>
 some (TPebbles.mk (([] : List Int) ++ p.Free) (([] : List Int) ++ p.Tails) (([] : List Int) ++ p.Placed))
)
)
)

def m_spec_l4Other (b : TBar) (v : Int) : Option Int :=
 some (w64 ((w64 (b.A + b.B)) - v))

def m_spec_l4Shift_L1 (g : TGraph) (p : TPebbles) (fromV : (List Int)) (a : Int) (u : Int) (r1 : TPebbles) (x2 : Int) (x4 : Int) (s6 : (Int × (List Int))) : Option ((Int × (List Int)) ⊕ ((List Int) × (List Int) × (List Int))) :=
(bif (s6.1 != a) then
(idx fromV s6.1).bind (fun x21 =>
(idx p.Placed x21).bind (fun x22 =>
(idx g.Bars x22).bind (fun x23 =>
(m_spec_l4Other x23 s6.1).bind (fun r24 =>
(idx s6.2 x21).bind (fun x25 =>
 some (.inl (r24, (s6.2.set x21.toNat s6.1)))
)
)
)
)
)
 else
 some (.inr (((r1.Free.set u.toNat (w64 (x2 - 1))).set a.toNat (w64 (x4 + 1))), s6.2, r1.Placed))
)
def m_spec_l4Shift (g : TGraph) (p : TPebbles) (fromV : (List Int)) (a : Int) (u : Int) : Option TPebbles :=
(m_spec_l4Copy p).bind (fun r1 =>
(idx r1.Free u).bind (fun x2 =>
(idx r1.Free u).bind (fun x3 =>
(idx (r1.Free.set u.toNat (w64 (x2 - 1))) a).bind (fun x4 =>
(idx (r1.Free.set u.toNat (w64 (x2 - 1))) a).bind (fun x5 =>
((loopM (m_spec_l4Shift_L1 g p fromV a u r1 x2 x4) BIG (u, r1.Tails)).bind (fun b19 =>
 some (TPebbles.mk b19.1 b19.2.1 b19.2.2)
))
)
)
)
)
)

def m_spec_l4Find_L1 (g : TGraph) (s2 : (Int × (List Int))) : Option ((Int × (List Int)) ⊕ (List Int)) :=
(bif (decide (s2.1 < g.Points)) then
(idx s2.2 s2.1).bind (fun x9 =>
 some (.inl ((w64 (s2.1 + 1)), (s2.2.set s2.1.toNat (-1))))
)
 else
 some (.inr s2.2)
)
def m_spec_l4Find_L5 (g : TGraph) (p : TPebbles) (a : Int) (b : Int) (s12 : (Int × (List Int) × (List Int) × (List Bool))) (x95 : Int) (s96 : (Int × (List Int) × (List Int) × (List Bool))) : Option ((Int × (List Int) × (List Int) × (List Bool)) ⊕ ((Int × (List Int) × (List Int) × (List Bool)) ⊕ (TPebbles × Bool))) :=
(bif (decide (s96.1 < (p.Placed.length : Int))) then
(idx p.Tails s96.1).bind (fun x135 =>
(bif (x135 != x95) then
 some (.inl ((w64 (s96.1 + 1)), s96.2.1, s96.2.2.1, s96.2.2.2))
 else
(idx p.Placed s96.1).bind (fun x137 =>
(idx g.Bars x137).bind (fun x138 =>
(m_spec_l4Other x138 x95).bind (fun r139 =>
(idx s96.2.2.2 r139).bind (fun x140 =>
(bif x140 then
 some (.inl ((w64 (s96.1 + 1)), s96.2.1, s96.2.2.1, s96.2.2.2))
 else
(idx s96.2.2.2 r139).bind (fun x142 =>
(idx s96.2.1 r139).bind (fun x143 =>
(((
(bif (r139 != b) then
(idx p.Free r139).bind (fun x148 =>
 some (decide (0 < x148))
)
 else
 some false
)
) : Option Bool).bind (fun j146 =>
(bif j146 then
(m_spec_l4Shift g p (s96.2.1.set r139.toNat s96.1) a r139).bind (fun r150 =>
 some (.inr (.inr (r150, true)))
)
 else
(lim (s96.2.2.1.length + ([r139] : List Int).length)).bind (fun u151 =>
 some (.inl ((w64 (s96.1 + 1)), (s96.2.1.set r139.toNat s96.1), (s96.2.2.1 ++ ([r139] : List Int)), (s96.2.2.2.set r139.toNat true)))
)
)
))
)
)
)
)
)
)
)
)
)
 else
 some (.inr (.inl (s12.1, s96.2.1, s96.2.2.1, s96.2.2.2)))
)
def m_spec_l4Find_L4 (g : TGraph) (p : TPebbles) (a : Int) (b : Int) (s12 : (Int × (List Int) × (List Int) × (List Bool))) : Option ((Int × (List Int) × (List Int) × (List Bool)) ⊕ (Unit ⊕ (TPebbles × Bool))) :=
(bif (decide (s12.1 < (s12.2.2.1.length : Int))) then
(idx s12.2.2.1 s12.1).bind (fun x95 =>
((loopM (m_spec_l4Find_L5 g p a b s12 x95) BIG (0, s12.2.1, s12.2.2.1, s12.2.2.2)).bind (Sum.elim (fun b133 => (
 some (.inl ((w64 (b133.1 + 1)), b133.2.1, b133.2.2.1, b133.2.2.2))
)) (fun r => some (.inr (.inr r)))))
)
 else
 some (.inr (.inl ()))
)
def m_spec_l4Find (g : TGraph) (p : TPebbles) (a : Int) (b : Int) : Option (TPebbles × Bool) :=
(lenOk g.Points).bind (fun u1 =>
((loopM (m_spec_l4Find_L1 g) BIG (0, (List.replicate g.Points.toNat (0 : Int)))).bind (fun b7 =>
(lenOk g.Points).bind (fun u10 =>
(idx (List.replicate g.Points.toNat false) a).bind (fun x11 =>
((loopM (m_spec_l4Find_L4 g p a b) BIG (0, b7, ([a] : List Int), ((List.replicate g.Points.toNat false).set a.toNat true))).bind (Sum.elim (fun b93 => (
 some (p, false)
)) (fun r => some r)))
)
)
))
)

def m_spec_l4Gather_L1 (g : TGraph) (a : Int) (b : Int) (want : Int) (s2 : ((List Int) × (List Int) × (List Int))) : Option (((List Int) × (List Int) × (List Int)) ⊕ (((List Int) × (List Int) × (List Int)) ⊕ (TPebbles × Bool))) :=
(idx s2.1 a).bind (fun x28 =>
(idx s2.1 b).bind (fun x29 =>
(bif (decide ((w64 (x28 + x29)) < want)) then
(m_spec_l4Find g (TPebbles.mk s2.1 s2.2.1 s2.2.2) a b).bind (fun r31 =>
(bif r31.2 then
(bif (!true) then
 none
 else
(bif (!true) then
 none
 else
 some (.inl (r31.1.Free, r31.1.Tails, r31.1.Placed))
)
)
 else
(bif (!false) then
(m_spec_l4Find g (TPebbles.mk s2.1 s2.2.1 s2.2.2) b a).bind (fun r36 =>
(bif r36.2 then
(bif (!true) then
 none
 else
 some (.inl (r36.1.Free, r36.1.Tails, r36.1.Placed))
)
 else
(bif (!false) then
 some (.inr (.inr ((TPebbles.mk s2.1 s2.2.1 s2.2.2), false)))
 else
 none
)
)
)
 else
 none
)
)
)
 else
 some (.inr (.inl (s2.1, s2.2.1, s2.2.2)))
)
)
)
def m_spec_l4Gather (g : TGraph) (p : TPebbles) (a : Int) (b : Int) (want : Int) : Option (TPebbles × Bool) :=
(m_spec_l4Copy p).bind (fun r1 =>
((loopM (m_spec_l4Gather_L1 g a b want) BIG (r1.Free, r1.Tails, r1.Placed)).bind (Sum.elim (fun b27 => (
 some ((TPebbles.mk b27.1 b27.2.1 b27.2.2), true)
)) (fun r => some r)))
)

def m_spec_PlaceBar (g : TGraph) (k : Int) (l : Int) (p : TPebbles) (bar : Int) : Option (TPebbles × Bool) :=
(((
(m_spec_IsPebbles g k p).bind (fun r10 =>
(bif (!r10) then
 some true
 else
(m_spec_IsRange k l).bind (fun r12 =>
(bif (!r12) then
 some true
 else
(bif (decide (bar < 0)) then
 some true
 else
(bif (decide ((g.Bars.length : Int) ≤ bar)) then
 some true
 else
(bif (decide (0 < (p.Placed.length : Int))) then
(idx p.Placed (w64 ((p.Placed.length : Int) - 1))).bind (fun x17 =>
 some (decide (bar ≤ x17))
)
 else
 some false
)
)
)
)
)
)
)
) : Option Bool).bind (fun j9 =>
(bif j9 then
(m_spec_l4Copy p).bind (fun r19 =>
 some (r19, false)
)
 else
(idx g.Bars bar).bind (fun x20 =>
(m_spec_l4Gather g p x20.A x20.B (w64 (l + 1))).bind (fun r21 =>
(bif (!r21.2) then
(m_spec_l4Copy p).bind (fun r23 =>
 some (r23, false)
)
 else
(idx r21.1.Free x20.A).bind (fun x24 =>
(((
(bif (x24 == 0) then
 some x20.B
 else
 some x20.A
)
) : Option Int).bind (fun j26 =>
(idx r21.1.Free j26).bind (fun x28 =>
(idx r21.1.Free j26).bind (fun x29 =>
(lim (r21.1.Tails.length + ([j26] : List Int).length)).bind (fun u30 =>
(lim (r21.1.Placed.length + ([bar] : List Int).length)).bind (fun u31 =>
 some ((TPebbles.mk (r21.1.Free.set j26.toNat (w64 (x28 - 1))) (r21.1.Tails ++ ([j26] : List Int)) (r21.1.Placed ++ ([bar] : List Int))), true)
)
)
)
)
))
)
)
)
)
)
))

def m_spec_RunPebbles_L1 (g : TGraph) (k : Int) (l : Int) (s8 : (Int × (List Int) × (List Int) × (List Int))) : Option ((Int × (List Int) × (List Int) × (List Int)) ⊕ ((List Int) × (List Int) × (List Int))) :=
(bif (decide (s8.1 < (g.Bars.length : Int))) then
(m_spec_PlaceBar g k l (TPebbles.mk s8.2.1 s8.2.2.1 s8.2.2.2) s8.1).bind (fun r15 =>
 some (.inl ((w64 (s8.1 + 1)), r15.1.Free, r15.1.Tails, r15.1.Placed))
)
 else
 some (.inr (s8.2.1, s8.2.2.1, s8.2.2.2))
)
def m_spec_RunPebbles (g : TGraph) (k : Int) (l : Int) : Option (TPebbles × Bool) :=
(m_spec_NewPebbles g k).bind (fun r1 =>
(((
(bif (!r1.2) then
 some true
 else
(m_spec_IsRange k l).bind (fun r6 =>
 some (!r6)
)
)
) : Option Bool).bind (fun j4 =>
(bif j4 then
 some ((TPebbles.mk ([] : List Int) ([] : List Int) ([] : List Int)), false)
 else
((loopM (m_spec_RunPebbles_L1 g k l) BIG (0, r1.1.Free, r1.1.Tails, r1.1.Placed)).bind (fun b13 =>
 some ((TPebbles.mk b13.1 b13.2.1 b13.2.2), true)
))
)
))
)

def m_spec_RankOf (g : TGraph) (k : Int) (l : Int) : Option Int :=
(m_spec_RunPebbles g k l).bind (fun r1 =>
(bif (!r1.2) then
 some (-1)
 else
 some (r1.1.Placed.length : Int)
)
)

def m_spec_l2Copy (g : TGraph) : Option TGraph :=
(lim (([] : List TBar).length + g.Bars.length)).bind (fun u1 =>
 some (TGraph.mk g.Points (([] : List TBar) ++ g.Bars))
)

def m_spec_RemoveBar (g : TGraph) (k : Int) : Option (TGraph × Bool) :=
(((
(m_spec_IsGraph g).bind (fun r5 =>
(bif (!r5) then
 some true
 else
(bif (decide (k < 0)) then
 some true
 else
 some (decide ((g.Bars.length : Int) ≤ k))
)
)
)
) : Option Bool).bind (fun j4 =>
(bif j4 then
(m_spec_l2Copy g).bind (fun r9 =>
 some (r9, false)
)
 else
(slc g.Bars 0 k).bind (fun v10 =>
(lim (([] : List TBar).length + ((g.Bars.take k.toNat).drop 0).length)).bind (fun u11 =>
(slc g.Bars (w64 (k + 1)) (g.Bars.length : Int)).bind (fun v12 =>
(lim ((([] : List TBar) ++ ((g.Bars.take k.toNat).drop 0)).length + ((g.Bars.take g.Bars.length).drop ((w64 (k + 1)).toNat)).length)).bind (fun u13 =>
 some ((TGraph.mk g.Points ((([] : List TBar) ++ ((g.Bars.take k.toNat).drop 0)) ++ ((g.Bars.take g.Bars.length).drop ((w64 (k + 1)).toNat)))), true)
)
)
)
)
)
))

def m_spec_BridgesOf_L1 (g : TGraph) (k : Int) (l : Int) (r1 : Int) (s2 : (Int × (List Int))) : Option ((Int × (List Int)) ⊕ (List Int)) :=
(((
(bif (decide (s2.1 < (g.Bars.length : Int))) then
 some (decide (0 ≤ r1))
 else
 some false
)
) : Option Bool).bind (fun j27 =>
(bif j27 then
(m_spec_RemoveBar g s2.1).bind (fun r30 =>
(m_spec_RankOf r30.1 k l).bind (fun r31 =>
(((
(bif (decide (r31 < r1)) then
(lim (s2.2.length + ([s2.1] : List Int).length)).bind (fun u36 =>
 some (s2.2 ++ ([s2.1] : List Int))
)
 else
 some s2.2
)
) : Option (List Int)).bind (fun j34 =>
 some (.inl ((w64 (s2.1 + 1)), j34))
))
)
)
 else
 some (.inr s2.2)
)
))
def m_spec_BridgesOf (g : TGraph) (k : Int) (l : Int) : Option (List Int) :=
(m_spec_RankOf g k l).bind (fun r1 =>
((loopM (m_spec_BridgesOf_L1 g k l r1) BIG (0, ([] : List Int))).bind (fun b25 =>
 some b25
))
)

def m_spec_l2Has_L1 (l : (List Int)) (x : Int) (s1 : Int) : Option (Int ⊕ (Unit ⊕ Bool)) :=
(bif (decide (s1 < (l.length : Int))) then
(idx l s1).bind (fun x10 =>
(bif (x10 == x) then
 some (.inr (.inr true))
 else
 some (.inl (w64 (s1 + 1)))
)
)
 else
 some (.inr (.inl ()))
)
def m_spec_l2Has (l : (List Int)) (x : Int) : Option Bool :=
((loopM (m_spec_l2Has_L1 l x) BIG 0).bind (Sum.elim (fun b8 => (
 some false
)) (fun r => some r)))

def m_spec_RedundantBars_L1 (g : TGraph) (r1 : (List Int)) (s2 : (Int × (List Int))) : Option ((Int × (List Int)) ⊕ (List Int)) :=
(((
(bif (decide (s2.1 < (g.Bars.length : Int))) then
(m_spec_IsGraph g).bind (fun r32 =>
 some r32
)
 else
 some false
)
) : Option Bool).bind (fun j30 =>
(bif j30 then
(m_spec_l2Has r1 s2.1).bind (fun r34 =>
(((
(bif (!r34) then
(lim (s2.2.length + ([s2.1] : List Int).length)).bind (fun u39 =>
 some (s2.2 ++ ([s2.1] : List Int))
)
 else
 some s2.2
)
) : Option (List Int)).bind (fun j37 =>
 some (.inl ((w64 (s2.1 + 1)), j37))
))
)
 else
 some (.inr s2.2)
)
))
def m_spec_RedundantBars (g : TGraph) : Option (List Int) :=
(m_spec_BridgesOf g 2 3).bind (fun r1 =>
((loopM (m_spec_RedundantBars_L1 g r1) BIG (0, ([] : List Int))).bind (fun b27 =>
 some b27
))
)

def m_impl_within (x : Int) (lo : Int) (hi : Int) : Option Bool :=
(((
(bif (decide (lo ≤ x)) then
 some (decide (x ≤ hi))
 else
 some false
)
) : Option Bool).bind (fun j2 =>
 some j2
))

def m_impl_compareInts (a : Int) (b : Int) : Option Int :=
(bif (decide (a < b)) then
 some (-1)
 else
(bif (decide (b < a)) then
 some 1
 else
 some 0
)
)

def m_impl_compareBars (x : TBar) (y : TBar) : Option Int :=
(m_impl_compareInts x.A y.A).bind (fun r1 =>
(bif (r1 != 0) then
 some r1
 else
(m_impl_compareInts x.B y.B).bind (fun r3 =>
 some r3
)
)
)

def m_impl_IsGraph_L1 (g : TGraph) (s7 : Int) : Option (Int ⊕ (Unit ⊕ Bool)) :=
(bif (decide (s7 < (g.Bars.length : Int))) then
(idx g.Bars s7).bind (fun x42 =>
(((
(bif (decide (x42.A < 0)) then
 some true
 else
(bif (decide (x42.B ≤ x42.A)) then
 some true
 else
(bif (decide (g.Points ≤ x42.B)) then
 some true
 else
(bif (decide (0 < s7)) then
(idx g.Bars (w64 (s7 - 1))).bind (fun x54 =>
(m_impl_compareBars x54 x42).bind (fun r55 =>
 some (decide (0 < r55))
)
)
 else
 some false
)
)
)
)
) : Option Bool).bind (fun j49 =>
(bif j49 then
 some (.inr (.inr false))
 else
 some (.inl (w64 (s7 + 1)))
)
))
)
 else
 some (.inr (.inl ()))
)
def m_impl_IsGraph (g : TGraph) : Option Bool :=
(((
(m_impl_within g.Points 1 8).bind (fun r4 =>
(bif (!r4) then
 some true
 else
 some (decide (24 < (g.Bars.length : Int)))
)
)
) : Option Bool).bind (fun j3 =>
(bif j3 then
 some false
 else
((loopM (m_impl_IsGraph_L1 g) BIG 0).bind (Sum.elim (fun b40 => (
 some true
)) (fun r => some r)))
)
))

def m_impl_IsRange (k : Int) (l : Int) : Option Bool :=
(((
(m_impl_within k 1 3).bind (fun r5 =>
(bif r5 then
(m_impl_within l 0 (w64 ((w64 (2 * k)) - 1))).bind (fun r7 =>
 some r7
)
 else
 some false
)
)
) : Option Bool).bind (fun j4 =>
 some j4
))

def m_impl_copyInts (l : (List Int)) : Option (List Int) :=
(lim (([] : List Int).length + l.length)).bind (fun u1 =>
 some (([] : List Int) ++ l)
)

def m_impl_copyPebbles (p : TPebbles) : Option TPebbles :=
(m_impl_copyInts p.Free).bind (fun r1 =>
(m_impl_copyInts p.Tails).bind (fun r2 =>
(m_impl_copyInts p.Placed).bind (fun r3 =>
 some (TPebbles.mk r1 r2 r3)
)
)
)

def m_impl_Bar_other (x : TBar) (v : Int) : Option Int :=
(bif (x.A == v) then
 some x.B
 else
 some x.A
)

def m_impl_moveTo_L11 (p : TPebbles) (a : Int) (s122 : (Int × (List (Int × Int)) × (List Int))) (r187 : Int) (x196 : Int) (x198 : Int) (s200 : (Int × (List Int))) : Option ((Int × (List Int)) ⊕ ((List Int) × (List Int))) :=
(bif (s200.1 != a) then
(idx s200.2 (mget (mput s122.2.1 r187 s122.1) s200.1)).bind (fun x209 =>
(idx s200.2 (mget (mput s122.2.1 r187 s122.1) s200.1)).bind (fun x210 =>
 some (.inl (x209, (s200.2.set (mget (mput s122.2.1 r187 s122.1) s200.1).toNat s200.1)))
)
)
 else
 some (.inr (((p.Free.set r187.toNat (w64 (x196 - 1))).set a.toNat (w64 (x198 + 1))), s200.2))
)
def m_impl_moveTo_L10 (bars : (List TBar)) (p : TPebbles) (a : Int) (b : Int) (s1 : (Int × (List (Int × Int)) × (List Int))) (s122 : (Int × (List (Int × Int)) × (List Int))) : Option ((Int × (List (Int × Int)) × (List Int)) ⊕ ((Int × (List (Int × Int)) × (List Int)) ⊕ (Bool × TPebbles))) :=
(bif (decide (s122.1 < (p.Placed.length : Int))) then
(idx p.Placed s122.1).bind (fun x181 =>
(idx p.Tails s122.1).bind (fun x182 =>
(idx s122.2.2 s1.1).bind (fun x183 =>
(bif (x182 != x183) then
 some (.inl ((w64 (s122.1 + 1)), s122.2.1, s122.2.2))
 else
(idx bars x181).bind (fun x185 =>
(idx s122.2.2 s1.1).bind (fun x186 =>
(m_impl_Bar_other x185 x186).bind (fun r187 =>
(bif (mhas s122.2.1 r187) then
 some (.inl ((w64 (s122.1 + 1)), s122.2.1, s122.2.2))
 else
(((
(bif (r187 == b) then
 some true
 else
(idx p.Free r187).bind (fun x193 =>
 some (x193 == 0)
)
)
) : Option Bool).bind (fun j191 =>
(bif j191 then
(lim (s122.2.2.length + ([r187] : List Int).length)).bind (fun u195 =>
 some (.inl ((w64 (s122.1 + 1)), (mput s122.2.1 r187 s122.1), (s122.2.2 ++ ([r187] : List Int))))
)
 else
(idx p.Free r187).bind (fun x196 =>
(idx p.Free r187).bind (fun x197 =>
(idx (p.Free.set r187.toNat (w64 (x196 - 1))) a).bind (fun x198 =>
(idx (p.Free.set r187.toNat (w64 (x196 - 1))) a).bind (fun x199 =>
((loopM (m_impl_moveTo_L11 p a s122 r187 x196 x198) BIG (r187, p.Tails)).bind (fun b207 =>
 some (.inr (.inr (true, (TPebbles.mk b207.1 b207.2 p.Placed))))
))
)
)
)
)
)
))
)
)
)
)
)
)
)
)
 else
 some (.inr (.inl (s1.1, s122.2.1, s122.2.2)))
)
def m_impl_moveTo_L7 (bars : (List TBar)) (p : TPebbles) (a : Int) (b : Int) (s1 : (Int × (List (Int × Int)) × (List Int))) : Option ((Int × (List (Int × Int)) × (List Int)) ⊕ (Unit ⊕ (Bool × TPebbles))) :=
(bif (decide (s1.1 < (s1.2.2.length : Int))) then
((loopM (m_impl_moveTo_L10 bars p a b s1) BIG (0, s1.2.1, s1.2.2)).bind (Sum.elim (fun b179 => (
 some (.inl ((w64 (b179.1 + 1)), b179.2.1, b179.2.2))
)) (fun r => some (.inr (.inr r)))))
 else
 some (.inr (.inl ()))
)
def m_impl_moveTo (bars : (List TBar)) (p : TPebbles) (a : Int) (b : Int) : Option (Bool × TPebbles) :=
((loopM (m_impl_moveTo_L7 bars p a b) BIG (0, (mput ([] : List (Int × Int)) a (-1)), ([a] : List Int))).bind (Sum.elim (fun b120 => (
 some (false, p)
)) (fun r => some r)))

def m_impl_gather_L1 (bars : (List TBar)) (a : Int) (b : Int) (want : Int) (s1 : ((List Int) × (List Int) × (List Int))) : Option (((List Int) × (List Int) × (List Int)) ⊕ (((List Int) × (List Int) × (List Int)) ⊕ (Bool × TPebbles))) :=
(idx s1.1 a).bind (fun x25 =>
(idx s1.1 b).bind (fun x26 =>
(bif (decide ((w64 (x25 + x26)) < want)) then
(((
(m_impl_moveTo bars (TPebbles.mk s1.1 s1.2.1 s1.2.2) a b).bind (fun r32 =>
(bif (!r32.1) then
(m_impl_moveTo bars r32.2 b a).bind (fun r34 =>
 some ((!r34.1), r34.2.Free, r34.2.Tails, r34.2.Placed)
)
 else
 some (false, r32.2.Free, r32.2.Tails, r32.2.Placed)
)
)
) : Option (Bool × (List Int) × (List Int) × (List Int))).bind (fun j31 =>
(bif j31.1 then
 some (.inr (.inr (false, (TPebbles.mk j31.2.1 j31.2.2.1 j31.2.2.2))))
 else
 some (.inl (j31.2.1, j31.2.2.1, j31.2.2.2))
)
))
 else
 some (.inr (.inl (s1.1, s1.2.1, s1.2.2)))
)
)
)
def m_impl_gather (bars : (List TBar)) (p : TPebbles) (a : Int) (b : Int) (want : Int) : Option (Bool × TPebbles) :=
((loopM (m_impl_gather_L1 bars a b want) BIG (p.Free, p.Tails, p.Placed)).bind (Sum.elim (fun b24 => (
 some (true, (TPebbles.mk b24.1 b24.2.1 b24.2.2))
)) (fun r => some r)))

def m_impl_place (bars : (List TBar)) (l : Int) (p : TPebbles) (e : Int) : Option (Bool × TPebbles) :=
(idx bars e).bind (fun x1 =>
(m_impl_gather bars p x1.A x1.B (w64 (l + 1))).bind (fun r2 =>
(bif (!r2.1) then
 some (false, r2.2)
 else
(idx r2.2.Free x1.A).bind (fun x4 =>
(((
(bif (x4 == 0) then
 some x1.B
 else
 some x1.A
)
) : Option Int).bind (fun j6 =>
(idx r2.2.Free j6).bind (fun x8 =>
(idx r2.2.Free j6).bind (fun x9 =>
(lim (r2.2.Tails.length + ([j6] : List Int).length)).bind (fun u10 =>
(lim (r2.2.Placed.length + ([e] : List Int).length)).bind (fun u11 =>
 some (true, (TPebbles.mk (r2.2.Free.set j6.toNat (w64 (x8 - 1))) (r2.2.Tails ++ ([j6] : List Int)) (r2.2.Placed ++ ([e] : List Int))))
)
)
)
)
))
)
)
)
)

def m_impl_play_L1 (points : Int) (k : Int) (s1 : (Int × (List Int))) : Option ((Int × (List Int)) ⊕ (List Int)) :=
(bif (decide (s1.1 < points)) then
(lim (s1.2.length + ([k] : List Int).length)).bind (fun u8 =>
 some (.inl ((w64 (s1.1 + 1)), (s1.2 ++ ([k] : List Int))))
)
 else
 some (.inr s1.2)
)
def m_impl_play_L2 (bars : (List TBar)) (l : Int) (s9 : (Int × (List Int) × (List Int) × (List Int))) : Option ((Int × (List Int) × (List Int) × (List Int)) ⊕ ((List Int) × (List Int) × (List Int))) :=
(bif (decide (s9.1 < (bars.length : Int))) then
(m_impl_copyPebbles (TPebbles.mk s9.2.1 s9.2.2.1 s9.2.2.2)).bind (fun r24 =>
(m_impl_place bars l r24 s9.1).bind (fun r25 =>
(((
(bif r25.1 then
 some (r25.2.Free, r25.2.Tails, r25.2.Placed)
 else
 some (s9.2.1, s9.2.2.1, s9.2.2.2)
)
) : Option ((List Int) × (List Int) × (List Int))).bind (fun j27 =>
 some (.inl ((w64 (s9.1 + 1)), j27.1, j27.2.1, j27.2.2))
))
)
)
 else
 some (.inr (s9.2.1, s9.2.2.1, s9.2.2.2))
)
def m_impl_play (points : Int) (bars : (List TBar)) (k : Int) (l : Int) : Option TPebbles :=
((loopM (m_impl_play_L1 points k) BIG (0, ([] : List Int))).bind (fun b6 =>
((loopM (m_impl_play_L2 bars l) BIG (0, b6, ([] : List Int), ([] : List Int))).bind (fun b22 =>
 some (TPebbles.mk b22.1 b22.2.1 b22.2.2)
))
))

def m_impl_RunPebbles (g : TGraph) (k : Int) (l : Int) : Option (TPebbles × Bool) :=
(((
(m_impl_IsGraph g).bind (fun r5 =>
(bif (!r5) then
 some true
 else
(m_impl_IsRange k l).bind (fun r7 =>
 some (!r7)
)
)
)
) : Option Bool).bind (fun j4 =>
(bif j4 then
 some ((TPebbles.mk ([] : List Int) ([] : List Int) ([] : List Int)), false)
 else
(m_impl_play g.Points g.Bars k l).bind (fun r9 =>
 some (r9, true)
)
)
))

def m_impl_RankOf (g : TGraph) (k : Int) (l : Int) : Option Int :=
(m_impl_RunPebbles g k l).bind (fun r1 =>
(bif (!r1.2) then
 some (-1)
 else
 some (r1.1.Placed.length : Int)
)
)

def m_impl_copyGraph (g : TGraph) : Option TGraph :=
(lim (([] : List TBar).length + g.Bars.length)).bind (fun u1 =>
 some (TGraph.mk g.Points (([] : List TBar) ++ g.Bars))
)

def m_impl_RemoveBar (g : TGraph) (k : Int) : Option (TGraph × Bool) :=
(m_impl_copyGraph g).bind (fun r1 =>
(((
(m_impl_IsGraph g).bind (fun r6 =>
(bif (!r6) then
 some true
 else
(m_impl_within k 0 (w64 ((g.Bars.length : Int) - 1))).bind (fun r8 =>
 some (!r8)
)
)
)
) : Option Bool).bind (fun j5 =>
(bif j5 then
 some (r1, false)
 else
(slc r1.Bars 0 k).bind (fun v10 =>
(slc r1.Bars (w64 (k + 1)) (r1.Bars.length : Int)).bind (fun v11 =>
(lim ((k.toNat - 0) + (r1.Bars.length - (w64 (k + 1)).toNat))).bind (fun u12 =>
(same ((w64 (k + 1)).toNat + (r1.Bars.length - (w64 (k + 1)).toNat) - r1.Bars.length) 0).bind (fun u13 =>
(same ((k.toNat - 0) - r1.Bars.length) 0).bind (fun u14 =>
 some ((TGraph.mk r1.Points (r1.Bars.take (k.toNat - 0) ++ (r1.Bars.drop ((w64 (k + 1)).toNat)).take (r1.Bars.length - (w64 (k + 1)).toNat))), true)
)))
)
)
)
))
)

def m_impl_BridgesOf_L1 (g : TGraph) (k : Int) (l : Int) (r1 : Int) (s3 : (Int × (List Int))) : Option ((Int × (List Int)) ⊕ (List Int)) :=
(bif (decide (s3.1 < (g.Bars.length : Int))) then
(m_impl_RemoveBar g s3.1).bind (fun r22 =>
(m_impl_RankOf r22.1 k l).bind (fun r23 =>
(((
(bif (decide (r23 < r1)) then
(lim (s3.2.length + ([s3.1] : List Int).length)).bind (fun u28 =>
 some (s3.2 ++ ([s3.1] : List Int))
)
 else
 some s3.2
)
) : Option (List Int)).bind (fun j26 =>
 some (.inl ((w64 (s3.1 + 1)), j26))
))
)
)
 else
 some (.inr s3.2)
)
def m_impl_BridgesOf (g : TGraph) (k : Int) (l : Int) : Option (List Int) :=
(m_impl_RankOf g k l).bind (fun r1 =>
(bif (decide (r1 < 0)) then
 some ([] : List Int)
 else
((loopM (m_impl_BridgesOf_L1 g k l r1) BIG (0, ([] : List Int))).bind (fun b20 =>
 some b20
))
)
)

def m_impl_FragileBars (g : TGraph) : Option (List Int) :=
(m_impl_BridgesOf g 2 3).bind (fun r1 =>
 some r1
)

def m_slices_Index_L1 (s : (List Int)) (v : Int) (s1 : Int) : Option (Int ⊕ (Unit ⊕ Int)) :=
(bif (decide (s1 < (s.length : Int))) then
(idx s s1).bind (fun x10 =>
(bif (v == x10) then
 some (.inr (.inr s1))
 else
 some (.inl (w64 (s1 + 1)))
)
)
 else
 some (.inr (.inl ()))
)
def m_slices_Index (s : (List Int)) (v : Int) : Option Int :=
((loopM (m_slices_Index_L1 s v) BIG 0).bind (Sum.elim (fun b8 => (
 some (-1)
)) (fun r => some r)))

def m_slices_Contains (s : (List Int)) (v : Int) : Option Bool :=
(m_slices_Index s v).bind (fun r1 =>
 some (decide (0 ≤ r1))
)

def m_impl_RedundantBars_L1 (g : TGraph) (r3 : (List Int)) (s4 : (Int × (List Int))) : Option ((Int × (List Int)) ⊕ (List Int)) :=
(bif (decide (s4.1 < (g.Bars.length : Int))) then
(m_slices_Contains r3 s4.1).bind (fun r21 =>
(((
(bif (!r21) then
(lim (s4.2.length + ([s4.1] : List Int).length)).bind (fun u26 =>
 some (s4.2 ++ ([s4.1] : List Int))
)
 else
 some s4.2
)
) : Option (List Int)).bind (fun j24 =>
 some (.inl ((w64 (s4.1 + 1)), j24))
))
)
 else
 some (.inr s4.2)
)
def m_impl_RedundantBars (g : TGraph) : Option (List Int) :=
(m_impl_IsGraph g).bind (fun r1 =>
(bif (!r1) then
 some ([] : List Int)
 else
(m_impl_FragileBars g).bind (fun r3 =>
((loopM (m_impl_RedundantBars_L1 g r3) BIG (0, ([] : List Int))).bind (fun b19 =>
 some b19
))
)
)
)

def m_laws_eqIntS_L1 (a : (List Int)) (b : (List Int)) (s2 : Int) : Option (Int ⊕ (Unit ⊕ Bool)) :=
(bif (decide (s2 < (a.length : Int))) then
(idx a s2).bind (fun x13 =>
(idx b s2).bind (fun x14 =>
(bif (x13 != x14) then
 some (.inr (.inr false))
 else
 some (.inl (w64 (s2 + 1)))
)
)
)
 else
 some (.inr (.inl ()))
)
def m_laws_eqIntS (a : (List Int)) (b : (List Int)) : Option Bool :=
(bif ((a.length : Int) != (b.length : Int)) then
 some false
 else
((loopM (m_laws_eqIntS_L1 a b) BIG 0).bind (Sum.elim (fun b11 => (
 some true
)) (fun r => some r)))
)

def m_laws_eqBar (a : TBar) (b : TBar) : Option Bool :=
(bif (a.A != b.A) then
 some false
 else
(bif (a.B != b.B) then
 some false
 else
 some true
)
)

def m_laws_eqBarS_L1 (a : (List TBar)) (b : (List TBar)) (s2 : Int) : Option (Int ⊕ (Unit ⊕ Bool)) :=
(bif (decide (s2 < (a.length : Int))) then
(idx a s2).bind (fun x15 =>
(idx b s2).bind (fun x16 =>
(m_laws_eqBar x15 x16).bind (fun r17 =>
(bif (!r17) then
 some (.inr (.inr false))
 else
 some (.inl (w64 (s2 + 1)))
)
)
)
)
 else
 some (.inr (.inl ()))
)
def m_laws_eqBarS (a : (List TBar)) (b : (List TBar)) : Option Bool :=
(bif ((a.length : Int) != (b.length : Int)) then
 some false
 else
((loopM (m_laws_eqBarS_L1 a b) BIG 0).bind (Sum.elim (fun b13 => (
 some true
)) (fun r => some r)))
)

def m_laws_eqGraph (a : TGraph) (b : TGraph) : Option Bool :=
(bif (a.Points != b.Points) then
 some false
 else
(m_laws_eqBarS a.Bars b.Bars).bind (fun r2 =>
(bif (!r2) then
 some false
 else
 some true
)
)
)

def m_laws_markBarS_L1  (s1 : (Int × Int × (List TBar))) : Option ((Int × Int × (List TBar)) ⊕ (Int × (List TBar))) :=
(bif (decide (s1.2.1 < (s1.2.2.length : Int))) then
(idx s1.2.2 s1.2.1).bind (fun x10 =>
(idx (s1.2.2.set s1.2.1.toNat (TBar.mk s1.1 x10.B)) s1.2.1).bind (fun x11 =>
 some (.inl ((w64 ((w64 (s1.1 + 1)) + 1)), (w64 (s1.2.1 + 1)), ((s1.2.2.set s1.2.1.toNat (TBar.mk s1.1 x10.B)).set s1.2.1.toNat (TBar.mk x11.A (w64 (s1.1 + 1))))))
)
)
 else
 some (.inr (s1.1, s1.2.2))
)
def m_laws_markBarS (a : (List TBar)) (k : Int) : Option (Int × (List TBar)) :=
((loopM (m_laws_markBarS_L1) BIG (k, 0, a)).bind (fun b8 =>
 some (b8.1, b8.2)
))

def m_laws_markGraph (a : TGraph) (k : Int) : Option (Int × (List TBar)) :=
(m_laws_markBarS a.Bars k).bind (fun r1 =>
 some (r1.1, r1.2)
)

def m_laws_markIntS_L1  (s1 : (Int × Int × (List Int))) : Option ((Int × Int × (List Int)) ⊕ (Int × (List Int))) :=
(bif (decide (s1.2.1 < (s1.2.2.length : Int))) then
(idx s1.2.2 s1.2.1).bind (fun x8 =>
 some (.inl ((w64 (s1.1 + 1)), (w64 (s1.2.1 + 1)), (s1.2.2.set s1.2.1.toNat s1.1)))
)
 else
 some (.inr (s1.1, s1.2.2))
)
def m_laws_markIntS (a : (List Int)) (k : Int) : Option (Int × (List Int)) :=
((loopM (m_laws_markIntS_L1) BIG (k, 0, a)).bind (fun b6 =>
 some (b6.1, b6.2)
))

def m_laws_heldIntS_L1 (a : (List Int)) (s1 : (Int × Int)) : Option ((Int × Int) ⊕ (Int ⊕ Int)) :=
(bif (decide (s1.2 < (a.length : Int))) then
(idx a s1.2).bind (fun x10 =>
(bif (x10 != s1.1) then
 some (.inr (.inr (-1)))
 else
 some (.inl ((w64 (s1.1 + 1)), (w64 (s1.2 + 1))))
)
)
 else
 some (.inr (.inl s1.1))
)
def m_laws_heldIntS (a : (List Int)) (k : Int) : Option Int :=
((loopM (m_laws_heldIntS_L1 a) BIG (k, 0)).bind (Sum.elim (fun b8 => (
 some b8
)) (fun r => some r)))

def m_laws_FnExactRedundantBars (aG : TGraph) : Option Bool :=
(m_laws_szGraph aG 1048576).bind (fun r1 =>
(bif (decide (r1 < 0)) then
 some true
 else
(m_laws_toGraph aG).bind (fun r3 =>
(m_spec_RedundantBars r3).bind (fun r4 =>
(m_laws_toGraph aG).bind (fun r5 =>
(m_impl_RedundantBars r5).bind (fun r6 =>
(m_laws_eqIntS r6 r4).bind (fun r7 =>
(bif (!r7) then
 some false
 else
(m_laws_toGraph aG).bind (fun r9 =>
(m_laws_eqGraph r5 r9).bind (fun r10 =>
(bif (!r10) then
 some false
 else
(m_laws_markGraph r5 1).bind (fun r12 =>
(((
(bif (decide (r12.1 < 0)) then
 some true
 else
(m_laws_eqIntS r6 r4).bind (fun r17 =>
 some (!r17)
)
)
) : Option Bool).bind (fun j15 =>
(bif j15 then
 some false
 else
(m_laws_markIntS r6 1).bind (fun r19 =>
(same r6.length r19.2.length).bind (fun u20 =>
(m_laws_heldIntS r19.2 1).bind (fun r21 =>
(bif (decide (r21 < 0)) then
 some false
 else
(bif (r21 != r19.1) then
 some false
 else
(m_laws_toGraph aG).bind (fun r24 =>
(m_impl_RedundantBars r24).bind (fun r25 =>
(m_laws_eqIntS r25 r4).bind (fun r26 =>
(bif (!r26) then
 some false
 else
(same r6.length r19.2.length).bind (fun u28 =>
(m_laws_heldIntS r19.2 1).bind (fun r29 =>
(bif (decide (r29 < 0)) then
 some false
 else
(bif (r29 != r19.1) then
 some false
 else
 some true
)
)
))
)
)
)
)
)
)
))
)
)
))
)
)
)
)
)
)
)
)
)
)
)
)

def m_spec_l17Simple_L1 (g : TGraph) (s1 : Int) : Option (Int ⊕ (Unit ⊕ Bool)) :=
(bif (decide (s1 < (g.Bars.length : Int))) then
(idx g.Bars (w64 (s1 - 1))).bind (fun x12 =>
(idx g.Bars s1).bind (fun x13 =>
(bif (eqI [x12.A, x12.B] [x13.A, x13.B]) then
 some (.inr (.inr false))
 else
 some (.inl (w64 (s1 + 1)))
)
)
)
 else
 some (.inr (.inl ()))
)
def m_spec_l17Simple (g : TGraph) : Option Bool :=
((loopM (m_spec_l17Simple_L1 g) BIG 1).bind (Sum.elim (fun b10 => (
(m_spec_IsGraph g).bind (fun r15 =>
 some r15
)
)) (fun r => some r)))

def m_spec_FreedomOf (g : TGraph) : Option Int :=
(m_spec_IsGraph g).bind (fun r1 =>
(bif (!r1) then
 some (-1)
 else
(m_spec_RankOf g 2 3).bind (fun r3 =>
 some (w64 ((if 0 < (w64 ((w64 (2 * g.Points)) - 3)) then (w64 ((w64 (2 * g.Points)) - 3)) else 0) - r3))
)
)
)

def m_spec_IsRigid (g : TGraph) : Option Bool :=
(m_spec_FreedomOf g).bind (fun r1 =>
 some (r1 == 0)
)

def m_spec_l3Set_L1 (n : Int) (mask : Int) (s1 : (Int × (List Int))) : Option ((Int × (List Int)) ⊕ (List Int)) :=
(bif (decide (s1.1 < n)) then
(nn s1.1).bind (fun u17 =>
(((
(bif ((bits .and .i64 (shrI mask s1.1) 1) == 1) then
(lim (s1.2.length + ([s1.1] : List Int).length)).bind (fun u22 =>
 some (s1.2 ++ ([s1.1] : List Int))
)
 else
 some s1.2
)
) : Option (List Int)).bind (fun j20 =>
 some (.inl ((w64 (s1.1 + 1)), j20))
))
)
 else
 some (.inr s1.2)
)
def m_spec_l3Set (n : Int) (mask : Int) : Option (List Int) :=
((loopM (m_spec_l3Set_L1 n mask) BIG (0, ([] : List Int))).bind (fun b15 =>
 some b15
))

def m_spec_WithoutPoints_L1 (setV : (List Int)) (s2 : (Int × Int × (List Int))) : Option ((Int × Int × (List Int)) ⊕ (Int × (List Int))) :=
(bif (decide (s2.2.1 < (s2.2.2.length : Int))) then
(idx s2.2.2 s2.2.1).bind (fun x21 =>
(m_spec_l2Has setV s2.2.1).bind (fun r22 =>
(((
(bif (!r22) then
(idx (s2.2.2.set s2.2.1.toNat (-1)) s2.2.1).bind (fun x27 =>
 some ((w64 (s2.1 + 1)), ((s2.2.2.set s2.2.1.toNat (-1)).set s2.2.1.toNat s2.1))
)
 else
 some (s2.1, (s2.2.2.set s2.2.1.toNat (-1)))
)
) : Option (Int × (List Int))).bind (fun j25 =>
 some (.inl (j25.1, (w64 (s2.2.1 + 1)), j25.2))
))
)
)
 else
 some (.inr (s2.1, s2.2.2))
)
def m_spec_WithoutPoints_L2 (g : TGraph) (b19 : (Int × (List Int))) (s28 : (Int × (List TBar))) : Option ((Int × (List TBar)) ⊕ ((List TBar) × Int)) :=
(((
(bif (decide (s28.1 < (g.Bars.length : Int))) then
(m_spec_IsGraph g).bind (fun r70 =>
 some r70
)
 else
 some false
)
) : Option Bool).bind (fun j68 =>
(bif j68 then
(idx g.Bars s28.1).bind (fun x72 =>
(idx b19.2 x72.A).bind (fun x73 =>
(idx g.Bars s28.1).bind (fun x74 =>
(idx b19.2 x74.B).bind (fun x75 =>
(((
(bif (decide (0 ≤ x73)) then
 some (decide (0 ≤ x75))
 else
 some false
)
) : Option Bool).bind (fun j77 =>
(((
(bif j77 then
(lim (s28.2.length + [(TBar.mk x73 x75)].length)).bind (fun u83 =>
 some (s28.2 ++ [(TBar.mk x73 x75)])
)
 else
 some s28.2
)
) : Option (List TBar)).bind (fun j81 =>
 some (.inl ((w64 (s28.1 + 1)), j81))
))
))
)
)
)
)
 else
 some (.inr (s28.2, b19.1))
)
))
def m_spec_WithoutPoints (g : TGraph) (setV : (List Int)) : Option TGraph :=
(lenOk (if 0 < (if g.Points < 8 then g.Points else 8) then (if g.Points < 8 then g.Points else 8) else 0)).bind (fun u1 =>
((loopM (m_spec_WithoutPoints_L1 setV) BIG (0, 0, (List.replicate (if 0 < (if g.Points < 8 then g.Points else 8) then (if g.Points < 8 then g.Points else 8) else 0).toNat (0 : Int)))).bind (fun b19 =>
((loopM (m_spec_WithoutPoints_L2 g b19) BIG (0, ([] : List TBar))).bind (fun b65 =>
 some (TGraph.mk b65.2 b65.1)
))
))
)

def m_spec_ReachOf_L4 (g : TGraph) (s11 : (Int × (List Bool))) (s112 : (Int × (List Bool))) : Option ((Int × (List Bool)) ⊕ (Int × (List Bool))) :=
(bif (decide (s112.1 < (g.Bars.length : Int))) then
(((
(idx g.Bars s112.1).bind (fun x167 =>
(idx s112.2 x167.A).bind (fun x168 =>
(bif x168 then
 some true
 else
(idx g.Bars s112.1).bind (fun x170 =>
(idx s112.2 x170.B).bind (fun x171 =>
 some x171
)
)
)
)
)
) : Option Bool).bind (fun j166 =>
(((
(bif j166 then
(idx g.Bars s112.1).bind (fun x179 =>
(idx s112.2 x179.A).bind (fun x180 =>
(idx g.Bars s112.1).bind (fun x181 =>
(idx (s112.2.set x179.A.toNat true) x181.B).bind (fun x182 =>
 some ((s112.2.set x179.A.toNat true).set x181.B.toNat true)
)
)
)
)
 else
 some s112.2
)
) : Option (List Bool)).bind (fun j177 =>
 some (.inl ((w64 (s112.1 + 1)), j177))
))
))
 else
 some (.inr (s11.1, s112.2))
)
def m_spec_ReachOf_L3 (g : TGraph) (s11 : (Int × (List Bool))) : Option ((Int × (List Bool)) ⊕ (List Bool)) :=
(bif (decide (s11.1 < g.Points)) then
((loopM (m_spec_ReachOf_L4 g s11) BIG (0, s11.2)).bind (fun b159 =>
 some (.inl ((w64 (b159.1 + 1)), b159.2))
))
 else
 some (.inr s11.2)
)
def m_spec_ReachOf_L5 (g : TGraph) (b110 : (List Bool)) (s183 : (Int × (List Int))) : Option ((Int × (List Int)) ⊕ (List Int)) :=
(bif (decide (s183.1 < g.Points)) then
(idx b110 s183.1).bind (fun x200 =>
(((
(bif x200 then
(lim (s183.2.length + ([s183.1] : List Int).length)).bind (fun u205 =>
 some (s183.2 ++ ([s183.1] : List Int))
)
 else
 some s183.2
)
) : Option (List Int)).bind (fun j203 =>
 some (.inl ((w64 (s183.1 + 1)), j203))
))
)
 else
 some (.inr s183.2)
)
def m_spec_ReachOf (g : TGraph) (v : Int) : Option (List Int) :=
(((
(m_spec_IsGraph g).bind (fun r5 =>
(bif (!r5) then
 some true
 else
(bif (decide (v < 0)) then
 some true
 else
 some (decide (g.Points ≤ v))
)
)
)
) : Option Bool).bind (fun j4 =>
(bif j4 then
 some ([] : List Int)
 else
(lenOk g.Points).bind (fun u9 =>
(idx (List.replicate g.Points.toNat false) v).bind (fun x10 =>
((loopM (m_spec_ReachOf_L3 g) BIG (0, ((List.replicate g.Points.toNat false).set v.toNat true))).bind (fun b110 =>
((loopM (m_spec_ReachOf_L5 g b110) BIG (0, ([] : List Int))).bind (fun b198 =>
 some b198
))
))
)
)
)
))

def m_spec_IsConnected (g : TGraph) : Option Bool :=
(((
(m_spec_IsGraph g).bind (fun r5 =>
(bif r5 then
(m_spec_ReachOf g 0).bind (fun r7 =>
 some ((r7.length : Int) == g.Points)
)
 else
 some false
)
)
) : Option Bool).bind (fun j4 =>
 some j4
))

def m_spec_CutSets_L1 (g : TGraph) (k : Int) (s9 : (Int × (List (List Int)))) : Option ((Int × (List (List Int))) ⊕ (List (List Int))) :=
(nn g.Points).bind (fun u45 =>
(bif (decide (s9.1 < (shlI 1 g.Points))) then
(m_spec_l3Set g.Points s9.1).bind (fun r47 =>
(((
(bif ((r47.length : Int) == k) then
(bif (decide (2 ≤ (w64 (g.Points - k)))) then
(m_spec_WithoutPoints g r47).bind (fun r55 =>
(m_spec_IsConnected r55).bind (fun r56 =>
 some (!r56)
)
)
 else
 some false
)
 else
 some false
)
) : Option Bool).bind (fun j52 =>
(((
(bif j52 then
(lim (s9.2.length + [r47].length)).bind (fun u61 =>
 some (s9.2 ++ [r47])
)
 else
 some s9.2
)
) : Option (List (List Int))).bind (fun j59 =>
 some (.inl ((w64 (s9.1 + 1)), j59))
))
))
)
 else
 some (.inr s9.2)
)
)
def m_spec_CutSets (g : TGraph) (k : Int) : Option (List (List Int)) :=
(((
(m_spec_IsGraph g).bind (fun r5 =>
(bif (!r5) then
 some true
 else
(m_spec_l1In k 0 3).bind (fun r7 =>
 some (!r7)
)
)
)
) : Option Bool).bind (fun j4 =>
(bif j4 then
 some ([] : List (List Int))
 else
((loopM (m_spec_CutSets_L1 g k) BIG (0, ([] : List (List Int)))).bind (fun b44 =>
 some b44
))
)
))

def m_spec_IsKConnected_L1 (g : TGraph) (k : Int) (s11 : Int) : Option (Int ⊕ (Unit ⊕ Bool)) :=
(bif (decide (s11 < k)) then
(m_spec_CutSets g s11).bind (fun r20 =>
(bif (decide (0 < (r20.length : Int))) then
 some (.inr (.inr false))
 else
 some (.inl (w64 (s11 + 1)))
)
)
 else
 some (.inr (.inl ()))
)
def m_spec_IsKConnected (g : TGraph) (k : Int) : Option Bool :=
(((
(m_spec_IsGraph g).bind (fun r6 =>
(bif (!r6) then
 some true
 else
(m_spec_l1In k 1 3).bind (fun r8 =>
(bif (!r8) then
 some true
 else
 some (decide (g.Points ≤ k))
)
)
)
)
) : Option Bool).bind (fun j5 =>
(bif j5 then
 some false
 else
((loopM (m_spec_IsKConnected_L1 g k) BIG 0).bind (Sum.elim (fun b18 => (
 some true
)) (fun r => some r)))
)
))

def m_spec_FragileBars (g : TGraph) : Option (List Int) :=
(m_spec_BridgesOf g 2 3).bind (fun r1 =>
 some r1
)

def m_spec_IsRedundantlyRigid (g : TGraph) : Option Bool :=
(((
(m_spec_IsRigid g).bind (fun r5 =>
(bif r5 then
(m_spec_FragileBars g).bind (fun r7 =>
 some ((r7.length : Int) == 0)
)
 else
 some false
)
)
) : Option Bool).bind (fun j4 =>
 some j4
))

def m_spec_WhyNotGlobal (g : TGraph) : Option ByteArray :=
(m_spec_l17Simple g).bind (fun r1 =>
(bif (!r1) then
 some (ByteArray.mk #[103, 114, 97, 112, 104])
 else
(bif (decide (g.Points ≤ 3)) then
(bif (decide ((g.Bars.length : Int) < (w64 (Int.tdiv (w64 (g.Points * (w64 (g.Points - 1)))) 2)))) then
 some (ByteArray.mk #[114, 105, 103, 105, 100])
 else
 some ByteArray.empty
)
 else
(m_spec_IsRigid g).bind (fun r5 =>
(bif (!r5) then
 some (ByteArray.mk #[114, 105, 103, 105, 100])
 else
(m_spec_IsKConnected g 3).bind (fun r7 =>
(bif (!r7) then
 some (ByteArray.mk #[99, 111, 110, 110, 101, 99, 116, 101, 100])
 else
(m_spec_IsRedundantlyRigid g).bind (fun r9 =>
(bif (!r9) then
 some (ByteArray.mk #[114, 101, 100, 117, 110, 100, 97, 110, 116])
 else
 some ByteArray.empty
)
)
)
)
)
)
)
)
)

def m_impl_hasDoubles_L1 (g : TGraph) (s1 : Int) : Option (Int ⊕ (Unit ⊕ Bool)) :=
(bif (decide (s1 < (g.Bars.length : Int))) then
(idx g.Bars (w64 (s1 - 1))).bind (fun x12 =>
(idx g.Bars s1).bind (fun x13 =>
(bif (eqI [x12.A, x12.B] [x13.A, x13.B]) then
 some (.inr (.inr true))
 else
 some (.inl (w64 (s1 + 1)))
)
)
)
 else
 some (.inr (.inl ()))
)
def m_impl_hasDoubles (g : TGraph) : Option Bool :=
((loopM (m_impl_hasDoubles_L1 g) BIG 1).bind (Sum.elim (fun b10 => (
 some false
)) (fun r => some r)))

def m_impl_CountBar_L1 (g : TGraph) (a : Int) (b : Int) (s1 : (Int × Int)) : Option ((Int × Int) ⊕ Int) :=
(bif (decide (s1.2 < (g.Bars.length : Int))) then
(idx g.Bars s1.2).bind (fun x32 =>
(((
(bif (x32.A == a) then
(bif (x32.B == b) then
 some true
 else
(bif (x32.A == b) then
 some (x32.B == a)
 else
 some false
)
)
 else
(bif (x32.A == b) then
 some (x32.B == a)
 else
 some false
)
)
) : Option Bool).bind (fun j37 =>
(((
(bif j37 then
 some (w64 (s1.1 + 1))
 else
 some s1.1
)
) : Option Int).bind (fun j43 =>
 some (.inl (j43, (w64 (s1.2 + 1))))
))
))
)
 else
 some (.inr s1.1)
)
def m_impl_CountBar (g : TGraph) (a : Int) (b : Int) : Option Int :=
((loopM (m_impl_CountBar_L1 g a b) BIG (0, 0)).bind (fun b30 =>
 some b30
))

def m_impl_MissingBars_L4 (g : TGraph) (s3 : (Int × (List TBar))) (s40 : (Int × (List TBar))) : Option ((Int × (List TBar)) ⊕ (Int × (List TBar))) :=
(bif (decide (s40.1 < g.Points)) then
(m_impl_CountBar g s3.1 s40.1).bind (fun r57 =>
(((
(bif (r57 == 0) then
(lim (s40.2.length + [(TBar.mk s3.1 s40.1)].length)).bind (fun u62 =>
 some (s40.2 ++ [(TBar.mk s3.1 s40.1)])
)
 else
 some s40.2
)
) : Option (List TBar)).bind (fun j60 =>
 some (.inl ((w64 (s40.1 + 1)), j60))
))
)
 else
 some (.inr (s3.1, s40.2))
)
def m_impl_MissingBars_L3 (g : TGraph) (s3 : (Int × (List TBar))) : Option ((Int × (List TBar)) ⊕ (List TBar)) :=
(bif (decide (s3.1 < g.Points)) then
((loopM (m_impl_MissingBars_L4 g s3) BIG ((w64 (s3.1 + 1)), s3.2)).bind (fun b55 =>
 some (.inl ((w64 (b55.1 + 1)), b55.2))
))
 else
 some (.inr s3.2)
)
def m_impl_MissingBars (g : TGraph) : Option (List TBar) :=
(m_impl_IsGraph g).bind (fun r1 =>
(bif (!r1) then
 some ([] : List TBar)
 else
((loopM (m_impl_MissingBars_L3 g) BIG (0, ([] : List TBar))).bind (fun b38 =>
 some b38
))
)
)

def m_impl_FreedomOf (g : TGraph) : Option Int :=
(m_impl_IsGraph g).bind (fun r1 =>
(bif (!r1) then
 some (-1)
 else
(m_impl_RankOf g 2 3).bind (fun r3 =>
 some (w64 ((if 0 < (w64 ((w64 (2 * g.Points)) - 3)) then (w64 ((w64 (2 * g.Points)) - 3)) else 0) - r3))
)
)
)

def m_impl_IsRigid (g : TGraph) : Option Bool :=
(m_impl_FreedomOf g).bind (fun r1 =>
 some (r1 == 0)
)

def m_impl_setOf_L1 (mask : Int) (n : Int) (s1 : (Int × (List Int))) : Option ((Int × (List Int)) ⊕ (List Int)) :=
(bif (decide (s1.1 < n)) then
(nn s1.1).bind (fun u17 =>
(((
(bif ((bits .and .i64 (shrI mask s1.1) 1) == 1) then
(lim (s1.2.length + ([s1.1] : List Int).length)).bind (fun u22 =>
 some (s1.2 ++ ([s1.1] : List Int))
)
 else
 some s1.2
)
) : Option (List Int)).bind (fun j20 =>
 some (.inl ((w64 (s1.1 + 1)), j20))
))
)
 else
 some (.inr s1.2)
)
def m_impl_setOf (mask : Int) (n : Int) : Option (List Int) :=
((loopM (m_impl_setOf_L1 mask n) BIG (0, ([] : List Int))).bind (fun b15 =>
 some b15
))

def m_impl_WithoutPoints_L1 (g : TGraph) (setV : (List Int)) (s2 : (Int × (List Int) × Int)) : Option ((Int × (List Int) × Int) ⊕ ((List Int) × Int)) :=
(bif (decide (s2.1 < ((List.replicate (if 0 < (if 8 < g.Points then 8 else g.Points) then (if 8 < g.Points then 8 else g.Points) else 0).toNat (0 : Int)).length : Int))) then
(idx s2.2.1 s2.1).bind (fun x21 =>
(m_slices_Contains setV s2.1).bind (fun r22 =>
(((
(bif (!r22) then
(idx (s2.2.1.set s2.1.toNat (-1)) s2.1).bind (fun x27 =>
 some (((s2.2.1.set s2.1.toNat (-1)).set s2.1.toNat s2.2.2), (w64 (s2.2.2 + 1)))
)
 else
 some ((s2.2.1.set s2.1.toNat (-1)), s2.2.2)
)
) : Option ((List Int) × Int)).bind (fun j25 =>
 some (.inl ((w64 (s2.1 + 1)), j25.1, j25.2))
))
)
)
 else
 some (.inr (s2.2.1, s2.2.2))
)
def m_impl_WithoutPoints_L2 (g : TGraph) (b19 : ((List Int) × Int)) (s30 : (Int × (List TBar))) : Option ((Int × (List TBar)) ⊕ (Int × (List TBar))) :=
(bif (decide (s30.1 < (g.Bars.length : Int))) then
(idx g.Bars s30.1).bind (fun x57 =>
(idx b19.1 x57.A).bind (fun x58 =>
(idx b19.1 x57.B).bind (fun x59 =>
(((
(bif (decide (0 ≤ x58)) then
 some (decide (0 ≤ x59))
 else
 some false
)
) : Option Bool).bind (fun j61 =>
(((
(bif j61 then
(lim (s30.2.length + [(TBar.mk x58 x59)].length)).bind (fun u67 =>
 some (s30.2 ++ [(TBar.mk x58 x59)])
)
 else
 some s30.2
)
) : Option (List TBar)).bind (fun j65 =>
 some (.inl ((w64 (s30.1 + 1)), j65))
))
))
)
)
)
 else
 some (.inr (b19.2, s30.2))
)
def m_impl_WithoutPoints (g : TGraph) (setV : (List Int)) : Option TGraph :=
(lenOk (if 0 < (if 8 < g.Points then 8 else g.Points) then (if 8 < g.Points then 8 else g.Points) else 0)).bind (fun u1 =>
((loopM (m_impl_WithoutPoints_L1 g setV) BIG (0, (List.replicate (if 0 < (if 8 < g.Points then 8 else g.Points) then (if 8 < g.Points then 8 else g.Points) else 0).toNat (0 : Int)), 0)).bind (fun b19 =>
(m_impl_IsGraph g).bind (fun r28 =>
(bif (!r28) then
 some (TGraph.mk b19.2 ([] : List TBar))
 else
((loopM (m_impl_WithoutPoints_L2 g b19) BIG (0, ([] : List TBar))).bind (fun b55 =>
 some (TGraph.mk b55.1 b55.2)
))
)
)
))
)

def m_impl_Graph_has (g : TGraph) (v : Int) : Option Bool :=
(m_impl_within v 0 (w64 (g.Points - 1))).bind (fun r1 =>
 some r1
)

def m_impl_Graph_reach_L4 (g : TGraph) (s56 : (Bool × Int × (List Bool))) : Option ((Bool × Int × (List Bool)) ⊕ (Bool × (List Bool))) :=
(bif (decide (s56.2.1 < (g.Bars.length : Int))) then
(idx g.Bars s56.2.1).bind (fun x81 =>
(idx s56.2.2 x81.A).bind (fun x82 =>
(idx s56.2.2 x81.B).bind (fun x83 =>
(((
(bif (x82 != x83) then
(idx s56.2.2 x81.A).bind (fun x89 =>
(idx (s56.2.2.set x81.A.toNat true) x81.B).bind (fun x90 =>
 some (true, ((s56.2.2.set x81.A.toNat true).set x81.B.toNat true))
)
)
 else
 some (s56.1, s56.2.2)
)
) : Option (Bool × (List Bool))).bind (fun j87 =>
 some (.inl (j87.1, (w64 (s56.2.1 + 1)), j87.2))
))
)
)
)
 else
 some (.inr (s56.1, s56.2.2))
)
def m_impl_Graph_reach_L3 (g : TGraph) (s3 : (Bool × (List Bool))) : Option ((Bool × (List Bool)) ⊕ (List Bool)) :=
(bif s3.1 then
((loopM (m_impl_Graph_reach_L4 g) BIG (false, 0, s3.2)).bind (fun b79 =>
 some (.inl (b79.1, b79.2))
))
 else
 some (.inr s3.2)
)
def m_impl_Graph_reach (g : TGraph) (v : Int) : Option (List Bool) :=
(lenOk g.Points).bind (fun u1 =>
(idx (List.replicate g.Points.toNat false) v).bind (fun x2 =>
((loopM (m_impl_Graph_reach_L3 g) BIG (true, ((List.replicate g.Points.toNat false).set v.toNat true))).bind (fun b54 =>
 some b54
))
)
)

def m_impl_ReachOf_L1 (r9 : (List Bool)) (s10 : (Int × (List Int))) : Option ((Int × (List Int)) ⊕ (List Int)) :=
(bif (decide (s10.1 < (r9.length : Int))) then
(idx r9 s10.1).bind (fun x27 =>
(((
(bif x27 then
(lim (s10.2.length + ([s10.1] : List Int).length)).bind (fun u32 =>
 some (s10.2 ++ ([s10.1] : List Int))
)
 else
 some s10.2
)
) : Option (List Int)).bind (fun j30 =>
 some (.inl ((w64 (s10.1 + 1)), j30))
))
)
 else
 some (.inr s10.2)
)
def m_impl_ReachOf (g : TGraph) (v : Int) : Option (List Int) :=
(((
(m_impl_IsGraph g).bind (fun r5 =>
(bif (!r5) then
 some true
 else
(m_impl_Graph_has g v).bind (fun r7 =>
 some (!r7)
)
)
)
) : Option Bool).bind (fun j4 =>
(bif j4 then
 some ([] : List Int)
 else
(m_impl_Graph_reach g v).bind (fun r9 =>
((loopM (m_impl_ReachOf_L1 r9) BIG (0, ([] : List Int))).bind (fun b25 =>
 some b25
))
)
)
))

def m_impl_IsConnected (g : TGraph) : Option Bool :=
(((
(m_impl_IsGraph g).bind (fun r5 =>
(bif r5 then
(m_impl_ReachOf g 0).bind (fun r7 =>
 some ((r7.length : Int) == g.Points)
)
 else
 some false
)
)
) : Option Bool).bind (fun j4 =>
 some j4
))

def m_impl_CutSets_L1 (g : TGraph) (k : Int) (s10 : (Int × (List (List Int)))) : Option ((Int × (List (List Int))) ⊕ (List (List Int))) :=
(bif (decide (s10.1 < (shlI 1 g.Points))) then
(m_impl_setOf s10.1 g.Points).bind (fun r41 =>
(bif ((r41.length : Int) != k) then
 some (.inl ((w64 (s10.1 + 1)), s10.2))
 else
(m_impl_WithoutPoints g r41).bind (fun r43 =>
(((
(bif (decide (2 ≤ r43.Points)) then
(m_impl_IsConnected r43).bind (fun r48 =>
 some (!r48)
)
 else
 some false
)
) : Option Bool).bind (fun j46 =>
(((
(bif j46 then
(lim (s10.2.length + [r41].length)).bind (fun u53 =>
 some (s10.2 ++ [r41])
)
 else
 some s10.2
)
) : Option (List (List Int))).bind (fun j51 =>
 some (.inl ((w64 (s10.1 + 1)), j51))
))
))
)
)
)
 else
 some (.inr s10.2)
)
def m_impl_CutSets (g : TGraph) (k : Int) : Option (List (List Int)) :=
(((
(m_impl_IsGraph g).bind (fun r5 =>
(bif (!r5) then
 some true
 else
(m_impl_within k 0 3).bind (fun r7 =>
 some (!r7)
)
)
)
) : Option Bool).bind (fun j4 =>
(bif j4 then
 some ([] : List (List Int))
 else
(nn g.Points).bind (fun u9 =>
((loopM (m_impl_CutSets_L1 g k) BIG (0, ([] : List (List Int)))).bind (fun b39 =>
 some b39
))
)
)
))

def m_impl_IsKConnected_L1 (g : TGraph) (k : Int) (s11 : Int) : Option (Int ⊕ (Unit ⊕ Bool)) :=
(bif (decide (s11 < k)) then
(m_impl_CutSets g s11).bind (fun r20 =>
(bif (decide (0 < (r20.length : Int))) then
 some (.inr (.inr false))
 else
 some (.inl (w64 (s11 + 1)))
)
)
 else
 some (.inr (.inl ()))
)
def m_impl_IsKConnected (g : TGraph) (k : Int) : Option Bool :=
(((
(m_impl_IsGraph g).bind (fun r6 =>
(bif (!r6) then
 some true
 else
(m_impl_within k 1 3).bind (fun r8 =>
(bif (!r8) then
 some true
 else
 some (decide (g.Points ≤ k))
)
)
)
)
) : Option Bool).bind (fun j5 =>
(bif j5 then
 some false
 else
((loopM (m_impl_IsKConnected_L1 g k) BIG 0).bind (Sum.elim (fun b18 => (
 some true
)) (fun r => some r)))
)
))

def m_impl_IsRedundantlyRigid (g : TGraph) : Option Bool :=
(((
(m_impl_IsRigid g).bind (fun r5 =>
(bif r5 then
(m_impl_FragileBars g).bind (fun r7 =>
 some ((r7.length : Int) == 0)
)
 else
 some false
)
)
) : Option Bool).bind (fun j4 =>
 some j4
))

def m_impl_WhyNotGlobal (g : TGraph) : Option ByteArray :=
(((
(m_impl_IsGraph g).bind (fun r5 =>
(bif (!r5) then
 some true
 else
(m_impl_hasDoubles g).bind (fun r7 =>
 some r7
)
)
)
) : Option Bool).bind (fun j4 =>
(bif j4 then
 some (ByteArray.mk #[103, 114, 97, 112, 104])
 else
(((
(bif (decide (g.Points ≤ 3)) then
(m_impl_MissingBars g).bind (fun r18 =>
(bif (decide (0 < (r18.length : Int))) then
 some true
 else
(bif (decide (3 < g.Points)) then
(m_impl_IsRigid g).bind (fun r21 =>
 some (!r21)
)
 else
 some false
)
)
)
 else
(bif (decide (3 < g.Points)) then
(m_impl_IsRigid g).bind (fun r23 =>
 some (!r23)
)
 else
 some false
)
)
) : Option Bool).bind (fun j16 =>
(bif j16 then
 some (ByteArray.mk #[114, 105, 103, 105, 100])
 else
(((
(bif (decide (3 < g.Points)) then
(m_impl_IsKConnected g 3).bind (fun r29 =>
 some (!r29)
)
 else
 some false
)
) : Option Bool).bind (fun j27 =>
(bif j27 then
 some (ByteArray.mk #[99, 111, 110, 110, 101, 99, 116, 101, 100])
 else
(((
(bif (decide (3 < g.Points)) then
(m_impl_IsRedundantlyRigid g).bind (fun r35 =>
 some (!r35)
)
 else
 some false
)
) : Option Bool).bind (fun j33 =>
(bif j33 then
 some (ByteArray.mk #[114, 101, 100, 117, 110, 100, 97, 110, 116])
 else
 some ByteArray.empty
)
))
)
))
)
))
)
))

def m_laws_FnExactWhyNotGlobal (aG : TGraph) : Option Bool :=
(m_laws_szGraph aG 1048576).bind (fun r1 =>
(bif (decide (r1 < 0)) then
 some true
 else
(m_laws_toGraph aG).bind (fun r3 =>
(m_spec_WhyNotGlobal r3).bind (fun r4 =>
(m_laws_toGraph aG).bind (fun r5 =>
(m_impl_WhyNotGlobal r5).bind (fun r6 =>
(bif (!(r6.toList == r4.toList)) then
 some false
 else
(m_laws_toGraph aG).bind (fun r8 =>
(m_laws_eqGraph r5 r8).bind (fun r9 =>
(bif (!r9) then
 some false
 else
 some true
)
)
)
)
)
)
)
)
)
)

def m_spec_IsGloballyRigid (g : TGraph) : Option Bool :=
(m_spec_WhyNotGlobal g).bind (fun r1 =>
 some (r1.toList == ByteArray.empty.toList)
)

def m_impl_IsGloballyRigid (g : TGraph) : Option Bool :=
(m_impl_WhyNotGlobal g).bind (fun r1 =>
 some (r1.toList == ByteArray.empty.toList)
)

def m_laws_FnExactIsGloballyRigid (aG : TGraph) : Option Bool :=
(m_laws_szGraph aG 1048576).bind (fun r1 =>
(bif (decide (r1 < 0)) then
 some true
 else
(m_laws_toGraph aG).bind (fun r3 =>
(m_spec_IsGloballyRigid r3).bind (fun r4 =>
(m_laws_toGraph aG).bind (fun r5 =>
(m_impl_IsGloballyRigid r5).bind (fun r6 =>
(bif (r6 != r4) then
 some false
 else
(m_laws_toGraph aG).bind (fun r8 =>
(m_laws_eqGraph r5 r8).bind (fun r9 =>
(bif (!r9) then
 some false
 else
 some true
)
)
)
)
)
)
)
)
)
)

def m_laws_eqIntSS_L1 (a : (List (List Int))) (b : (List (List Int))) (s2 : Int) : Option (Int ⊕ (Unit ⊕ Bool)) :=
(bif (decide (s2 < (a.length : Int))) then
(idx a s2).bind (fun x15 =>
(idx b s2).bind (fun x16 =>
(m_laws_eqIntS x15 x16).bind (fun r17 =>
(bif (!r17) then
 some (.inr (.inr false))
 else
 some (.inl (w64 (s2 + 1)))
)
)
)
)
 else
 some (.inr (.inl ()))
)
def m_laws_eqIntSS (a : (List (List Int))) (b : (List (List Int))) : Option Bool :=
(bif ((a.length : Int) != (b.length : Int)) then
 some false
 else
((loopM (m_laws_eqIntSS_L1 a b) BIG 0).bind (Sum.elim (fun b13 => (
 some true
)) (fun r => some r)))
)

def m_spec_HingePairs (g : TGraph) : Option (List (List Int)) :=
(m_spec_CutSets g 2).bind (fun r1 =>
 some r1
)

def m_impl_HingePairs (g : TGraph) : Option (List (List Int)) :=
(m_impl_CutSets g 2).bind (fun r1 =>
 some r1
)

def m_laws_heldIntSS_L1 (a : (List (List Int))) (s1 : (Int × Int)) : Option ((Int × Int) ⊕ (Int ⊕ Int)) :=
(bif (decide (s1.2 < (a.length : Int))) then
(idx a s1.2).bind (fun x12 =>
(m_laws_heldIntS x12 s1.1).bind (fun r13 =>
(bif (decide (r13 < 0)) then
 some (.inr (.inr (-1)))
 else
 some (.inl (r13, (w64 (s1.2 + 1))))
)
)
)
 else
 some (.inr (.inl s1.1))
)
def m_laws_heldIntSS (a : (List (List Int))) (k : Int) : Option Int :=
((loopM (m_laws_heldIntSS_L1 a) BIG (k, 0)).bind (Sum.elim (fun b10 => (
 some b10
)) (fun r => some r)))

end Go.Proofs.Ytiphmhofhgbhlaa
