/-
  No cell of these rows narrows 'for every input' (looked for: loops, veiled, ifaces, maps, wideKeys, modest, calm, conditions, laid).
  DERIVED. THE GIVEN ROWS OF THIS SEAT. 12 by the template 'for every input the law returns true; each argument reads behind the call as it read before'; 0 by the template 'total and deterministic' (their statements: YtoedmjkipecloaaTotals.lean).
  GIVEN WITH THE SEED: the statements are not yours to turn. If you find one false, say at which input.
  Laid BY PROGRAM, IN A SANDBOX (cutbox-rows.mjs): the forced cells as the released guide's own fill.sh prints them over the translation 14ff4af6dab67ca5… (all of the seat's roots in one cut). By AI agents, Wed Nov 11 2026. No macro, syntax, notation, axiom, sorry.
-/
import Derived.Test.YtoedmjkipecloaaChecked
import GoSem.Claim
import GoSem.ClaimJoined
import GoSem.ClaimMapViews
import Derived.JoinedTies
import Derived.KernelRfl
namespace Go.Proofs.Ytoedmjkipecloaa
/- THE CELL 'sum', in the pinned program and in every row, IS THE sha256 OF THE DUMP (.gsa) THAT YtoedmjkipecloaaProg.lean LOADS. Nothing in Lean hashes anything: it is a label: what it is worth is what the hold of that sum in a sandbox is worth. -/
noncomputable def Try.pinned : Pinned := { name := "ytoedmjkipecloaa", sum := "14ff4af6dab67ca5ed49ed7f43eb19337dfe69a78599c1041c7241323261acc4", checked := Try.checked }
namespace Rows
def none {H : Type} : Left H := { results := [], args := [] }

/-- 'laws.FnExactSwapKinds': WHATEVER THE INPUT: true; the input reads as it did. -/
def fnExactSwapKindsSpec : ChangeSpec := { name := "fnExactSwapKinds", fn := fun _ => fun
  | [d] => { results := [.lit (.bool true)], args := [d] }
  | _ => none }
def fnExactSwapKindsRow : OpenClaim := { program := "ytoedmjkipecloaa", sum := "14ff4af6dab67ca5ed49ed7f43eb19337dfe69a78599c1041c7241323261acc4", func := "loop.example/g02078/laws.FnExactSwapKinds", spec := "fnExactSwapKinds", apart := false }
def FnExactSwapKindsSaid : Prop := fnExactSwapKindsRow.holds Try.pinned (OpenSpec.ofChange fnExactSwapKindsSpec)

/-- ITS FALSE NEIGHBOUR: 'it returns false'. Refute it at one input. -/
def fnExactSwapKindsWrong : ChangeSpec := { name := "fnExactSwapKinds", fn := fun _ => fun
  | [d] => { results := [.lit (.bool false)], args := [d] }
  | _ => none }
def FnExactSwapKindsWrongFalsely : Prop := fnExactSwapKindsRow.holds Try.pinned (OpenSpec.ofChange fnExactSwapKindsWrong)

/-- 'laws.FnExactIsAllowedMotion': WHATEVER THE INPUT: true; the input reads as it did. -/
def fnExactIsAllowedMotionSpec : ChangeSpec := { name := "fnExactIsAllowedMotion", fn := fun _ => fun
  | [d1, d2] => { results := [.lit (.bool true)], args := [d1, d2] }
  | _ => none }
def fnExactIsAllowedMotionRow : OpenClaim := { program := "ytoedmjkipecloaa", sum := "14ff4af6dab67ca5ed49ed7f43eb19337dfe69a78599c1041c7241323261acc4", func := "loop.example/g02078/laws.FnExactIsAllowedMotion", spec := "fnExactIsAllowedMotion", apart := false }
def FnExactIsAllowedMotionSaid : Prop := fnExactIsAllowedMotionRow.holds Try.pinned (OpenSpec.ofChange fnExactIsAllowedMotionSpec)

/-- ITS FALSE NEIGHBOUR: 'it returns false'. Refute it at one input. -/
def fnExactIsAllowedMotionWrong : ChangeSpec := { name := "fnExactIsAllowedMotion", fn := fun _ => fun
  | [d1, d2] => { results := [.lit (.bool false)], args := [d1, d2] }
  | _ => none }
def FnExactIsAllowedMotionWrongFalsely : Prop := fnExactIsAllowedMotionRow.holds Try.pinned (OpenSpec.ofChange fnExactIsAllowedMotionWrong)

/-- 'laws.FnExactIsProperStress': WHATEVER THE INPUT: true; the input reads as it did. -/
def fnExactIsProperStressSpec : ChangeSpec := { name := "fnExactIsProperStress", fn := fun _ => fun
  | [d1, d2] => { results := [.lit (.bool true)], args := [d1, d2] }
  | _ => none }
def fnExactIsProperStressRow : OpenClaim := { program := "ytoedmjkipecloaa", sum := "14ff4af6dab67ca5ed49ed7f43eb19337dfe69a78599c1041c7241323261acc4", func := "loop.example/g02078/laws.FnExactIsProperStress", spec := "fnExactIsProperStress", apart := false }
def FnExactIsProperStressSaid : Prop := fnExactIsProperStressRow.holds Try.pinned (OpenSpec.ofChange fnExactIsProperStressSpec)

/-- ITS FALSE NEIGHBOUR: 'it returns false'. Refute it at one input. -/
def fnExactIsProperStressWrong : ChangeSpec := { name := "fnExactIsProperStress", fn := fun _ => fun
  | [d1, d2] => { results := [.lit (.bool false)], args := [d1, d2] }
  | _ => none }
def FnExactIsProperStressWrongFalsely : Prop := fnExactIsProperStressRow.holds Try.pinned (OpenSpec.ofChange fnExactIsProperStressWrong)

/-- 'laws.FnExactIsStrictStress': WHATEVER THE INPUT: true; the input reads as it did. -/
def fnExactIsStrictStressSpec : ChangeSpec := { name := "fnExactIsStrictStress", fn := fun _ => fun
  | [d1, d2] => { results := [.lit (.bool true)], args := [d1, d2] }
  | _ => none }
def fnExactIsStrictStressRow : OpenClaim := { program := "ytoedmjkipecloaa", sum := "14ff4af6dab67ca5ed49ed7f43eb19337dfe69a78599c1041c7241323261acc4", func := "loop.example/g02078/laws.FnExactIsStrictStress", spec := "fnExactIsStrictStress", apart := false }
def FnExactIsStrictStressSaid : Prop := fnExactIsStrictStressRow.holds Try.pinned (OpenSpec.ofChange fnExactIsStrictStressSpec)

/-- ITS FALSE NEIGHBOUR: 'it returns false'. Refute it at one input. -/
def fnExactIsStrictStressWrong : ChangeSpec := { name := "fnExactIsStrictStress", fn := fun _ => fun
  | [d1, d2] => { results := [.lit (.bool false)], args := [d1, d2] }
  | _ => none }
def FnExactIsStrictStressWrongFalsely : Prop := fnExactIsStrictStressRow.holds Try.pinned (OpenSpec.ofChange fnExactIsStrictStressWrong)

/-- 'laws.FnExactProvesLoose': WHATEVER THE INPUT: true; the input reads as it did. -/
def fnExactProvesLooseSpec : ChangeSpec := { name := "fnExactProvesLoose", fn := fun _ => fun
  | [d1, d2] => { results := [.lit (.bool true)], args := [d1, d2] }
  | _ => none }
def fnExactProvesLooseRow : OpenClaim := { program := "ytoedmjkipecloaa", sum := "14ff4af6dab67ca5ed49ed7f43eb19337dfe69a78599c1041c7241323261acc4", func := "loop.example/g02078/laws.FnExactProvesLoose", spec := "fnExactProvesLoose", apart := false }
def FnExactProvesLooseSaid : Prop := fnExactProvesLooseRow.holds Try.pinned (OpenSpec.ofChange fnExactProvesLooseSpec)

/-- ITS FALSE NEIGHBOUR: 'it returns false'. Refute it at one input. -/
def fnExactProvesLooseWrong : ChangeSpec := { name := "fnExactProvesLoose", fn := fun _ => fun
  | [d1, d2] => { results := [.lit (.bool false)], args := [d1, d2] }
  | _ => none }
def FnExactProvesLooseWrongFalsely : Prop := fnExactProvesLooseRow.holds Try.pinned (OpenSpec.ofChange fnExactProvesLooseWrong)

/-- 'laws.FnExactBodyRank': WHATEVER THE INPUT: true; the input reads as it did. -/
def fnExactBodyRankSpec : ChangeSpec := { name := "fnExactBodyRank", fn := fun _ => fun
  | [d] => { results := [.lit (.bool true)], args := [d] }
  | _ => none }
def fnExactBodyRankRow : OpenClaim := { program := "ytoedmjkipecloaa", sum := "14ff4af6dab67ca5ed49ed7f43eb19337dfe69a78599c1041c7241323261acc4", func := "loop.example/g02078/laws.FnExactBodyRank", spec := "fnExactBodyRank", apart := false }
def FnExactBodyRankSaid : Prop := fnExactBodyRankRow.holds Try.pinned (OpenSpec.ofChange fnExactBodyRankSpec)

/-- ITS FALSE NEIGHBOUR: 'it returns false'. Refute it at one input. -/
def fnExactBodyRankWrong : ChangeSpec := { name := "fnExactBodyRank", fn := fun _ => fun
  | [d] => { results := [.lit (.bool false)], args := [d] }
  | _ => none }
def FnExactBodyRankWrongFalsely : Prop := fnExactBodyRankRow.holds Try.pinned (OpenSpec.ofChange fnExactBodyRankWrong)

/-- 'laws.FnExactBodyFreedom': WHATEVER THE INPUT: true; the input reads as it did. -/
def fnExactBodyFreedomSpec : ChangeSpec := { name := "fnExactBodyFreedom", fn := fun _ => fun
  | [d] => { results := [.lit (.bool true)], args := [d] }
  | _ => none }
def fnExactBodyFreedomRow : OpenClaim := { program := "ytoedmjkipecloaa", sum := "14ff4af6dab67ca5ed49ed7f43eb19337dfe69a78599c1041c7241323261acc4", func := "loop.example/g02078/laws.FnExactBodyFreedom", spec := "fnExactBodyFreedom", apart := false }
def FnExactBodyFreedomSaid : Prop := fnExactBodyFreedomRow.holds Try.pinned (OpenSpec.ofChange fnExactBodyFreedomSpec)

/-- ITS FALSE NEIGHBOUR: 'it returns false'. Refute it at one input. -/
def fnExactBodyFreedomWrong : ChangeSpec := { name := "fnExactBodyFreedom", fn := fun _ => fun
  | [d] => { results := [.lit (.bool false)], args := [d] }
  | _ => none }
def FnExactBodyFreedomWrongFalsely : Prop := fnExactBodyFreedomRow.holds Try.pinned (OpenSpec.ofChange fnExactBodyFreedomWrong)

/-- 'laws.FnExactIsBodyRigid': WHATEVER THE INPUT: true; the input reads as it did. -/
def fnExactIsBodyRigidSpec : ChangeSpec := { name := "fnExactIsBodyRigid", fn := fun _ => fun
  | [d] => { results := [.lit (.bool true)], args := [d] }
  | _ => none }
def fnExactIsBodyRigidRow : OpenClaim := { program := "ytoedmjkipecloaa", sum := "14ff4af6dab67ca5ed49ed7f43eb19337dfe69a78599c1041c7241323261acc4", func := "loop.example/g02078/laws.FnExactIsBodyRigid", spec := "fnExactIsBodyRigid", apart := false }
def FnExactIsBodyRigidSaid : Prop := fnExactIsBodyRigidRow.holds Try.pinned (OpenSpec.ofChange fnExactIsBodyRigidSpec)

/-- ITS FALSE NEIGHBOUR: 'it returns false'. Refute it at one input. -/
def fnExactIsBodyRigidWrong : ChangeSpec := { name := "fnExactIsBodyRigid", fn := fun _ => fun
  | [d] => { results := [.lit (.bool false)], args := [d] }
  | _ => none }
def FnExactIsBodyRigidWrongFalsely : Prop := fnExactIsBodyRigidRow.holds Try.pinned (OpenSpec.ofChange fnExactIsBodyRigidWrong)

/-- 'laws.FnExactHingeFreedom': WHATEVER THE INPUT: true; the input reads as it did. -/
def fnExactHingeFreedomSpec : ChangeSpec := { name := "fnExactHingeFreedom", fn := fun _ => fun
  | [d] => { results := [.lit (.bool true)], args := [d] }
  | _ => none }
def fnExactHingeFreedomRow : OpenClaim := { program := "ytoedmjkipecloaa", sum := "14ff4af6dab67ca5ed49ed7f43eb19337dfe69a78599c1041c7241323261acc4", func := "loop.example/g02078/laws.FnExactHingeFreedom", spec := "fnExactHingeFreedom", apart := false }
def FnExactHingeFreedomSaid : Prop := fnExactHingeFreedomRow.holds Try.pinned (OpenSpec.ofChange fnExactHingeFreedomSpec)

/-- ITS FALSE NEIGHBOUR: 'it returns false'. Refute it at one input. -/
def fnExactHingeFreedomWrong : ChangeSpec := { name := "fnExactHingeFreedom", fn := fun _ => fun
  | [d] => { results := [.lit (.bool false)], args := [d] }
  | _ => none }
def FnExactHingeFreedomWrongFalsely : Prop := fnExactHingeFreedomRow.holds Try.pinned (OpenSpec.ofChange fnExactHingeFreedomWrong)

/-- 'laws.FnExactFragileBars': WHATEVER THE INPUT: true; the input reads as it did. -/
def fnExactFragileBarsSpec : ChangeSpec := { name := "fnExactFragileBars", fn := fun _ => fun
  | [d] => { results := [.lit (.bool true)], args := [d] }
  | _ => none }
def fnExactFragileBarsRow : OpenClaim := { program := "ytoedmjkipecloaa", sum := "14ff4af6dab67ca5ed49ed7f43eb19337dfe69a78599c1041c7241323261acc4", func := "loop.example/g02078/laws.FnExactFragileBars", spec := "fnExactFragileBars", apart := false }
def FnExactFragileBarsSaid : Prop := fnExactFragileBarsRow.holds Try.pinned (OpenSpec.ofChange fnExactFragileBarsSpec)

/-- ITS FALSE NEIGHBOUR: 'it returns false'. Refute it at one input. -/
def fnExactFragileBarsWrong : ChangeSpec := { name := "fnExactFragileBars", fn := fun _ => fun
  | [d] => { results := [.lit (.bool false)], args := [d] }
  | _ => none }
def FnExactFragileBarsWrongFalsely : Prop := fnExactFragileBarsRow.holds Try.pinned (OpenSpec.ofChange fnExactFragileBarsWrong)

/-- 'laws.FnExactIsRedundantlyRigid': WHATEVER THE INPUT: true; the input reads as it did. -/
def fnExactIsRedundantlyRigidSpec : ChangeSpec := { name := "fnExactIsRedundantlyRigid", fn := fun _ => fun
  | [d] => { results := [.lit (.bool true)], args := [d] }
  | _ => none }
def fnExactIsRedundantlyRigidRow : OpenClaim := { program := "ytoedmjkipecloaa", sum := "14ff4af6dab67ca5ed49ed7f43eb19337dfe69a78599c1041c7241323261acc4", func := "loop.example/g02078/laws.FnExactIsRedundantlyRigid", spec := "fnExactIsRedundantlyRigid", apart := false }
def FnExactIsRedundantlyRigidSaid : Prop := fnExactIsRedundantlyRigidRow.holds Try.pinned (OpenSpec.ofChange fnExactIsRedundantlyRigidSpec)

/-- ITS FALSE NEIGHBOUR: 'it returns false'. Refute it at one input. -/
def fnExactIsRedundantlyRigidWrong : ChangeSpec := { name := "fnExactIsRedundantlyRigid", fn := fun _ => fun
  | [d] => { results := [.lit (.bool false)], args := [d] }
  | _ => none }
def FnExactIsRedundantlyRigidWrongFalsely : Prop := fnExactIsRedundantlyRigidRow.holds Try.pinned (OpenSpec.ofChange fnExactIsRedundantlyRigidWrong)

/-- 'laws.FnExactIsStillRigid': WHATEVER THE INPUT: true; the input reads as it did. -/
def fnExactIsStillRigidSpec : ChangeSpec := { name := "fnExactIsStillRigid", fn := fun _ => fun
  | [d1, d2] => { results := [.lit (.bool true)], args := [d1, d2] }
  | _ => none }
def fnExactIsStillRigidRow : OpenClaim := { program := "ytoedmjkipecloaa", sum := "14ff4af6dab67ca5ed49ed7f43eb19337dfe69a78599c1041c7241323261acc4", func := "loop.example/g02078/laws.FnExactIsStillRigid", spec := "fnExactIsStillRigid", apart := false }
def FnExactIsStillRigidSaid : Prop := fnExactIsStillRigidRow.holds Try.pinned (OpenSpec.ofChange fnExactIsStillRigidSpec)

/-- ITS FALSE NEIGHBOUR: 'it returns false'. Refute it at one input. -/
def fnExactIsStillRigidWrong : ChangeSpec := { name := "fnExactIsStillRigid", fn := fun _ => fun
  | [d1, d2] => { results := [.lit (.bool false)], args := [d1, d2] }
  | _ => none }
def FnExactIsStillRigidWrongFalsely : Prop := fnExactIsStillRigidRow.holds Try.pinned (OpenSpec.ofChange fnExactIsStillRigidWrong)

/- THE SECOND FORM. 'bulk': how many values and letters a reading holds, each counted each time it is reached (what is shared counts as often as it is met; a slice's spare places count too). A statement '..UptoSaid' is the law's where the arguments, and the package variables that the reading takes, are together of bulk at most 1048576: NARROWER than '..Said'. Prove '..Said' where nothing that the law and all that it calls make is longer than what came in: it says more and counts as full. Else prove '..UptoSaid'. A law counts once. -/
mutual
def uptoBulk {H : Type} : DataW H → Nat
  | .lit (.string bytes) => bytes.length + 1
  | .lit _ => 1
  | .nil => 1
  | .ptr d => uptoBulk d + 1
  | .slice elems spare => uptoBulkAll elems + uptoBulkAll spare + 1
  | .agg parts => uptoBulkAll parts + 1
  | .iface _ d => uptoBulk d + 1
  | .map entries => uptoBulkEntries entries + 1
  | .held _ => 1
def uptoBulkAll {H : Type} : List (DataW H) → Nat
  | [] => 0
  | d :: r => uptoBulk d + uptoBulkAll r
def uptoBulkEntries {H : Type} : List (Lit × DataW H) → Nat
  | [] => 0
  | x :: r => uptoBulkEntry x + uptoBulkEntries r
def uptoBulkEntry {H : Type} : Lit × DataW H → Nat
  | (.string bytes, d) => bytes.length + uptoBulk d + 1
  | (_, d) => uptoBulk d + 1
 end
def uptoSmall : (H : Type) → List (DataW H) → Bool := fun _ ds => decide (uptoBulkAll ds ≤ 1048576)
def OpenSpec.upto (s : _root_.Go.ChangeSpec) : _root_.Go.OpenSpec := { _root_.Go.OpenSpec.ofChange s with cond := some uptoSmall }

/-- 'laws.FnExactSwapKinds', WHERE WHAT IT READS IS OF BULK AT MOST 1048576: true; the input reads as it did. -/
def fnExactSwapKindsUptoRow : OpenClaim := { program := "ytoedmjkipecloaa", sum := "14ff4af6dab67ca5ed49ed7f43eb19337dfe69a78599c1041c7241323261acc4", func := "loop.example/g02078/laws.FnExactSwapKinds", spec := "fnExactSwapKinds", apart := false, narrowed := true }
def FnExactSwapKindsUptoSaid : Prop := fnExactSwapKindsUptoRow.holds Try.pinned (OpenSpec.upto fnExactSwapKindsSpec)

/-- 'laws.FnExactIsAllowedMotion', WHERE WHAT IT READS IS OF BULK AT MOST 1048576: true; the input reads as it did. -/
def fnExactIsAllowedMotionUptoRow : OpenClaim := { program := "ytoedmjkipecloaa", sum := "14ff4af6dab67ca5ed49ed7f43eb19337dfe69a78599c1041c7241323261acc4", func := "loop.example/g02078/laws.FnExactIsAllowedMotion", spec := "fnExactIsAllowedMotion", apart := false, narrowed := true }
def FnExactIsAllowedMotionUptoSaid : Prop := fnExactIsAllowedMotionUptoRow.holds Try.pinned (OpenSpec.upto fnExactIsAllowedMotionSpec)

/-- 'laws.FnExactIsProperStress', WHERE WHAT IT READS IS OF BULK AT MOST 1048576: true; the input reads as it did. -/
def fnExactIsProperStressUptoRow : OpenClaim := { program := "ytoedmjkipecloaa", sum := "14ff4af6dab67ca5ed49ed7f43eb19337dfe69a78599c1041c7241323261acc4", func := "loop.example/g02078/laws.FnExactIsProperStress", spec := "fnExactIsProperStress", apart := false, narrowed := true }
def FnExactIsProperStressUptoSaid : Prop := fnExactIsProperStressUptoRow.holds Try.pinned (OpenSpec.upto fnExactIsProperStressSpec)

/-- 'laws.FnExactIsStrictStress', WHERE WHAT IT READS IS OF BULK AT MOST 1048576: true; the input reads as it did. -/
def fnExactIsStrictStressUptoRow : OpenClaim := { program := "ytoedmjkipecloaa", sum := "14ff4af6dab67ca5ed49ed7f43eb19337dfe69a78599c1041c7241323261acc4", func := "loop.example/g02078/laws.FnExactIsStrictStress", spec := "fnExactIsStrictStress", apart := false, narrowed := true }
def FnExactIsStrictStressUptoSaid : Prop := fnExactIsStrictStressUptoRow.holds Try.pinned (OpenSpec.upto fnExactIsStrictStressSpec)

/-- 'laws.FnExactProvesLoose', WHERE WHAT IT READS IS OF BULK AT MOST 1048576: true; the input reads as it did. -/
def fnExactProvesLooseUptoRow : OpenClaim := { program := "ytoedmjkipecloaa", sum := "14ff4af6dab67ca5ed49ed7f43eb19337dfe69a78599c1041c7241323261acc4", func := "loop.example/g02078/laws.FnExactProvesLoose", spec := "fnExactProvesLoose", apart := false, narrowed := true }
def FnExactProvesLooseUptoSaid : Prop := fnExactProvesLooseUptoRow.holds Try.pinned (OpenSpec.upto fnExactProvesLooseSpec)

/-- 'laws.FnExactBodyRank', WHERE WHAT IT READS IS OF BULK AT MOST 1048576: true; the input reads as it did. -/
def fnExactBodyRankUptoRow : OpenClaim := { program := "ytoedmjkipecloaa", sum := "14ff4af6dab67ca5ed49ed7f43eb19337dfe69a78599c1041c7241323261acc4", func := "loop.example/g02078/laws.FnExactBodyRank", spec := "fnExactBodyRank", apart := false, narrowed := true }
def FnExactBodyRankUptoSaid : Prop := fnExactBodyRankUptoRow.holds Try.pinned (OpenSpec.upto fnExactBodyRankSpec)

/-- 'laws.FnExactBodyFreedom', WHERE WHAT IT READS IS OF BULK AT MOST 1048576: true; the input reads as it did. -/
def fnExactBodyFreedomUptoRow : OpenClaim := { program := "ytoedmjkipecloaa", sum := "14ff4af6dab67ca5ed49ed7f43eb19337dfe69a78599c1041c7241323261acc4", func := "loop.example/g02078/laws.FnExactBodyFreedom", spec := "fnExactBodyFreedom", apart := false, narrowed := true }
def FnExactBodyFreedomUptoSaid : Prop := fnExactBodyFreedomUptoRow.holds Try.pinned (OpenSpec.upto fnExactBodyFreedomSpec)

/-- 'laws.FnExactIsBodyRigid', WHERE WHAT IT READS IS OF BULK AT MOST 1048576: true; the input reads as it did. -/
def fnExactIsBodyRigidUptoRow : OpenClaim := { program := "ytoedmjkipecloaa", sum := "14ff4af6dab67ca5ed49ed7f43eb19337dfe69a78599c1041c7241323261acc4", func := "loop.example/g02078/laws.FnExactIsBodyRigid", spec := "fnExactIsBodyRigid", apart := false, narrowed := true }
def FnExactIsBodyRigidUptoSaid : Prop := fnExactIsBodyRigidUptoRow.holds Try.pinned (OpenSpec.upto fnExactIsBodyRigidSpec)

/-- 'laws.FnExactHingeFreedom', WHERE WHAT IT READS IS OF BULK AT MOST 1048576: true; the input reads as it did. -/
def fnExactHingeFreedomUptoRow : OpenClaim := { program := "ytoedmjkipecloaa", sum := "14ff4af6dab67ca5ed49ed7f43eb19337dfe69a78599c1041c7241323261acc4", func := "loop.example/g02078/laws.FnExactHingeFreedom", spec := "fnExactHingeFreedom", apart := false, narrowed := true }
def FnExactHingeFreedomUptoSaid : Prop := fnExactHingeFreedomUptoRow.holds Try.pinned (OpenSpec.upto fnExactHingeFreedomSpec)

/-- 'laws.FnExactFragileBars', WHERE WHAT IT READS IS OF BULK AT MOST 1048576: true; the input reads as it did. -/
def fnExactFragileBarsUptoRow : OpenClaim := { program := "ytoedmjkipecloaa", sum := "14ff4af6dab67ca5ed49ed7f43eb19337dfe69a78599c1041c7241323261acc4", func := "loop.example/g02078/laws.FnExactFragileBars", spec := "fnExactFragileBars", apart := false, narrowed := true }
def FnExactFragileBarsUptoSaid : Prop := fnExactFragileBarsUptoRow.holds Try.pinned (OpenSpec.upto fnExactFragileBarsSpec)

/-- 'laws.FnExactIsRedundantlyRigid', WHERE WHAT IT READS IS OF BULK AT MOST 1048576: true; the input reads as it did. -/
def fnExactIsRedundantlyRigidUptoRow : OpenClaim := { program := "ytoedmjkipecloaa", sum := "14ff4af6dab67ca5ed49ed7f43eb19337dfe69a78599c1041c7241323261acc4", func := "loop.example/g02078/laws.FnExactIsRedundantlyRigid", spec := "fnExactIsRedundantlyRigid", apart := false, narrowed := true }
def FnExactIsRedundantlyRigidUptoSaid : Prop := fnExactIsRedundantlyRigidUptoRow.holds Try.pinned (OpenSpec.upto fnExactIsRedundantlyRigidSpec)

/-- 'laws.FnExactIsStillRigid', WHERE WHAT IT READS IS OF BULK AT MOST 1048576: true; the input reads as it did. -/
def fnExactIsStillRigidUptoRow : OpenClaim := { program := "ytoedmjkipecloaa", sum := "14ff4af6dab67ca5ed49ed7f43eb19337dfe69a78599c1041c7241323261acc4", func := "loop.example/g02078/laws.FnExactIsStillRigid", spec := "fnExactIsStillRigid", apart := false, narrowed := true }
def FnExactIsStillRigidUptoSaid : Prop := fnExactIsStillRigidUptoRow.holds Try.pinned (OpenSpec.upto fnExactIsStillRigidSpec)

end Rows
end Go.Proofs.Ytoedmjkipecloaa
