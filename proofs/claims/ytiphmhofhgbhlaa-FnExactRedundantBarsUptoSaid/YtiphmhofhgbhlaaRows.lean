/-
  No cell of these rows narrows 'for every input' (looked for: loops, veiled, ifaces, maps, wideKeys, modest, calm, conditions, laid).
  DERIVED. THE GIVEN ROWS OF THIS SEAT. 5 by the template 'for every input the law returns true; each argument reads behind the call as it read before'; 0 by the template 'total and deterministic' (their statements: YtiphmhofhgbhlaaTotals.lean).
  GIVEN WITH THE SEED: the statements are not yours to turn. If you find one false, say at which input.
  Laid BY PROGRAM, IN A SANDBOX (cutbox-rows.mjs): the forced cells as the released guide's own fill.sh prints them over the translation 2779f12bfb799eb8… (all of the seat's roots in one cut). By AI agents, Wed Nov 11 2026. No macro, syntax, notation, axiom, sorry.
-/
import Derived.Test.YtiphmhofhgbhlaaChecked
import GoSem.Claim
import GoSem.ClaimJoined
import GoSem.ClaimMapViews
import Derived.JoinedTies
import Derived.KernelRfl
namespace Go.Proofs.Ytiphmhofhgbhlaa
/- THE CELL 'sum', in the pinned program and in every row, IS THE sha256 OF THE DUMP (.gsa) THAT YtiphmhofhgbhlaaProg.lean LOADS. Nothing in Lean hashes anything: it is a label: what it is worth is what the hold of that sum in a sandbox is worth. -/
noncomputable def Try.pinned : Pinned := { name := "ytiphmhofhgbhlaa", sum := "2779f12bfb799eb854f877bcc482b7b1016fb8674746b42df5f6fdeb75a68c4d", checked := Try.checked }
namespace Rows
def none {H : Type} : Left H := { results := [], args := [] }

/-- 'laws.FnExactRedundantBars': WHATEVER THE INPUT: true; the input reads as it did. -/
def fnExactRedundantBarsSpec : ChangeSpec := { name := "fnExactRedundantBars", fn := fun _ => fun
  | [d] => { results := [.lit (.bool true)], args := [d] }
  | _ => none }
def fnExactRedundantBarsRow : OpenClaim := { program := "ytiphmhofhgbhlaa", sum := "2779f12bfb799eb854f877bcc482b7b1016fb8674746b42df5f6fdeb75a68c4d", func := "loop.example/g02078/laws.FnExactRedundantBars", spec := "fnExactRedundantBars", apart := false }
def FnExactRedundantBarsSaid : Prop := fnExactRedundantBarsRow.holds Try.pinned (OpenSpec.ofChange fnExactRedundantBarsSpec)

/-- ITS FALSE NEIGHBOUR: 'it returns false'. Refute it at one input. -/
def fnExactRedundantBarsWrong : ChangeSpec := { name := "fnExactRedundantBars", fn := fun _ => fun
  | [d] => { results := [.lit (.bool false)], args := [d] }
  | _ => none }
def FnExactRedundantBarsWrongFalsely : Prop := fnExactRedundantBarsRow.holds Try.pinned (OpenSpec.ofChange fnExactRedundantBarsWrong)

/-- 'laws.FnExactWhyNotGlobal': WHATEVER THE INPUT: true; the input reads as it did. -/
def fnExactWhyNotGlobalSpec : ChangeSpec := { name := "fnExactWhyNotGlobal", fn := fun _ => fun
  | [d] => { results := [.lit (.bool true)], args := [d] }
  | _ => none }
def fnExactWhyNotGlobalRow : OpenClaim := { program := "ytiphmhofhgbhlaa", sum := "2779f12bfb799eb854f877bcc482b7b1016fb8674746b42df5f6fdeb75a68c4d", func := "loop.example/g02078/laws.FnExactWhyNotGlobal", spec := "fnExactWhyNotGlobal", apart := false }
def FnExactWhyNotGlobalSaid : Prop := fnExactWhyNotGlobalRow.holds Try.pinned (OpenSpec.ofChange fnExactWhyNotGlobalSpec)

/-- ITS FALSE NEIGHBOUR: 'it returns false'. Refute it at one input. -/
def fnExactWhyNotGlobalWrong : ChangeSpec := { name := "fnExactWhyNotGlobal", fn := fun _ => fun
  | [d] => { results := [.lit (.bool false)], args := [d] }
  | _ => none }
def FnExactWhyNotGlobalWrongFalsely : Prop := fnExactWhyNotGlobalRow.holds Try.pinned (OpenSpec.ofChange fnExactWhyNotGlobalWrong)

/-- 'laws.FnExactIsGloballyRigid': WHATEVER THE INPUT: true; the input reads as it did. -/
def fnExactIsGloballyRigidSpec : ChangeSpec := { name := "fnExactIsGloballyRigid", fn := fun _ => fun
  | [d] => { results := [.lit (.bool true)], args := [d] }
  | _ => none }
def fnExactIsGloballyRigidRow : OpenClaim := { program := "ytiphmhofhgbhlaa", sum := "2779f12bfb799eb854f877bcc482b7b1016fb8674746b42df5f6fdeb75a68c4d", func := "loop.example/g02078/laws.FnExactIsGloballyRigid", spec := "fnExactIsGloballyRigid", apart := false }
def FnExactIsGloballyRigidSaid : Prop := fnExactIsGloballyRigidRow.holds Try.pinned (OpenSpec.ofChange fnExactIsGloballyRigidSpec)

/-- ITS FALSE NEIGHBOUR: 'it returns false'. Refute it at one input. -/
def fnExactIsGloballyRigidWrong : ChangeSpec := { name := "fnExactIsGloballyRigid", fn := fun _ => fun
  | [d] => { results := [.lit (.bool false)], args := [d] }
  | _ => none }
def FnExactIsGloballyRigidWrongFalsely : Prop := fnExactIsGloballyRigidRow.holds Try.pinned (OpenSpec.ofChange fnExactIsGloballyRigidWrong)

/-- 'laws.FnExactCutSets': WHATEVER THE INPUT: true; the input reads as it did. -/
def fnExactCutSetsSpec : ChangeSpec := { name := "fnExactCutSets", fn := fun _ => fun
  | [d1, d2] => { results := [.lit (.bool true)], args := [d1, d2] }
  | _ => none }
def fnExactCutSetsRow : OpenClaim := { program := "ytiphmhofhgbhlaa", sum := "2779f12bfb799eb854f877bcc482b7b1016fb8674746b42df5f6fdeb75a68c4d", func := "loop.example/g02078/laws.FnExactCutSets", spec := "fnExactCutSets", apart := false }
def FnExactCutSetsSaid : Prop := fnExactCutSetsRow.holds Try.pinned (OpenSpec.ofChange fnExactCutSetsSpec)

/-- ITS FALSE NEIGHBOUR: 'it returns false'. Refute it at one input. -/
def fnExactCutSetsWrong : ChangeSpec := { name := "fnExactCutSets", fn := fun _ => fun
  | [d1, d2] => { results := [.lit (.bool false)], args := [d1, d2] }
  | _ => none }
def FnExactCutSetsWrongFalsely : Prop := fnExactCutSetsRow.holds Try.pinned (OpenSpec.ofChange fnExactCutSetsWrong)

/-- 'laws.FnExactHingePairs': WHATEVER THE INPUT: true; the input reads as it did. -/
def fnExactHingePairsSpec : ChangeSpec := { name := "fnExactHingePairs", fn := fun _ => fun
  | [d] => { results := [.lit (.bool true)], args := [d] }
  | _ => none }
def fnExactHingePairsRow : OpenClaim := { program := "ytiphmhofhgbhlaa", sum := "2779f12bfb799eb854f877bcc482b7b1016fb8674746b42df5f6fdeb75a68c4d", func := "loop.example/g02078/laws.FnExactHingePairs", spec := "fnExactHingePairs", apart := false }
def FnExactHingePairsSaid : Prop := fnExactHingePairsRow.holds Try.pinned (OpenSpec.ofChange fnExactHingePairsSpec)

/-- ITS FALSE NEIGHBOUR: 'it returns false'. Refute it at one input. -/
def fnExactHingePairsWrong : ChangeSpec := { name := "fnExactHingePairs", fn := fun _ => fun
  | [d] => { results := [.lit (.bool false)], args := [d] }
  | _ => none }
def FnExactHingePairsWrongFalsely : Prop := fnExactHingePairsRow.holds Try.pinned (OpenSpec.ofChange fnExactHingePairsWrong)

/- THE SECOND FORM. 'bulk': how many values and letters a reading holds, each counted each time it is reached (what is shared counts as often as it is met; a slice's spare places count too). A statement '..UptoSaid' is the law's where the arguments, and the package variables that the reading takes, are together of bulk at most 1048576: NARROWER than '..Said'. Prove '..Said' where nothing that the law and all that it calls make is longer than what came in: it says more and counts as full. Else prove '..UptoSaid'. A law counts once. -/
mutual
def uptoBulk {H : Type} : DataW H → Nat
  | .lit (.string bytes) => bytes.length + 1
  | .lit _ => 1
  | .nil => 1
  | .ptr d => uptoBulk d + 1
  | .slice elems spare => uptoBulkAll elems + uptoBulkAll spare + 1
  | .agg parts => uptoBulkAll parts + 1
  | .iface _ d => uptoBulk d + 1
  | .map entries => uptoBulkEntries entries + 1
  | .held _ => 1
def uptoBulkAll {H : Type} : List (DataW H) → Nat
  | [] => 0
  | d :: r => uptoBulk d + uptoBulkAll r
def uptoBulkEntries {H : Type} : List (Lit × DataW H) → Nat
  | [] => 0
  | x :: r => uptoBulkEntry x + uptoBulkEntries r
def uptoBulkEntry {H : Type} : Lit × DataW H → Nat
  | (.string bytes, d) => bytes.length + uptoBulk d + 1
  | (_, d) => uptoBulk d + 1
 end
def uptoSmall : (H : Type) → List (DataW H) → Bool := fun _ ds => decide (uptoBulkAll ds ≤ 1048576)
def OpenSpec.upto (s : _root_.Go.ChangeSpec) : _root_.Go.OpenSpec := { _root_.Go.OpenSpec.ofChange s with cond := some uptoSmall }

/-- 'laws.FnExactRedundantBars', WHERE WHAT IT READS IS OF BULK AT MOST 1048576: true; the input reads as it did. -/
def fnExactRedundantBarsUptoRow : OpenClaim := { program := "ytiphmhofhgbhlaa", sum := "2779f12bfb799eb854f877bcc482b7b1016fb8674746b42df5f6fdeb75a68c4d", func := "loop.example/g02078/laws.FnExactRedundantBars", spec := "fnExactRedundantBars", apart := false, narrowed := true }
def FnExactRedundantBarsUptoSaid : Prop := fnExactRedundantBarsUptoRow.holds Try.pinned (OpenSpec.upto fnExactRedundantBarsSpec)

/-- 'laws.FnExactWhyNotGlobal', WHERE WHAT IT READS IS OF BULK AT MOST 1048576: true; the input reads as it did. -/
def fnExactWhyNotGlobalUptoRow : OpenClaim := { program := "ytiphmhofhgbhlaa", sum := "2779f12bfb799eb854f877bcc482b7b1016fb8674746b42df5f6fdeb75a68c4d", func := "loop.example/g02078/laws.FnExactWhyNotGlobal", spec := "fnExactWhyNotGlobal", apart := false, narrowed := true }
def FnExactWhyNotGlobalUptoSaid : Prop := fnExactWhyNotGlobalUptoRow.holds Try.pinned (OpenSpec.upto fnExactWhyNotGlobalSpec)

/-- 'laws.FnExactIsGloballyRigid', WHERE WHAT IT READS IS OF BULK AT MOST 1048576: true; the input reads as it did. -/
def fnExactIsGloballyRigidUptoRow : OpenClaim := { program := "ytiphmhofhgbhlaa", sum := "2779f12bfb799eb854f877bcc482b7b1016fb8674746b42df5f6fdeb75a68c4d", func := "loop.example/g02078/laws.FnExactIsGloballyRigid", spec := "fnExactIsGloballyRigid", apart := false, narrowed := true }
def FnExactIsGloballyRigidUptoSaid : Prop := fnExactIsGloballyRigidUptoRow.holds Try.pinned (OpenSpec.upto fnExactIsGloballyRigidSpec)

/-- 'laws.FnExactCutSets', WHERE WHAT IT READS IS OF BULK AT MOST 1048576: true; the input reads as it did. -/
def fnExactCutSetsUptoRow : OpenClaim := { program := "ytiphmhofhgbhlaa", sum := "2779f12bfb799eb854f877bcc482b7b1016fb8674746b42df5f6fdeb75a68c4d", func := "loop.example/g02078/laws.FnExactCutSets", spec := "fnExactCutSets", apart := false, narrowed := true }
def FnExactCutSetsUptoSaid : Prop := fnExactCutSetsUptoRow.holds Try.pinned (OpenSpec.upto fnExactCutSetsSpec)

/-- 'laws.FnExactHingePairs', WHERE WHAT IT READS IS OF BULK AT MOST 1048576: true; the input reads as it did. -/
def fnExactHingePairsUptoRow : OpenClaim := { program := "ytiphmhofhgbhlaa", sum := "2779f12bfb799eb854f877bcc482b7b1016fb8674746b42df5f6fdeb75a68c4d", func := "loop.example/g02078/laws.FnExactHingePairs", spec := "fnExactHingePairs", apart := false, narrowed := true }
def FnExactHingePairsUptoSaid : Prop := fnExactHingePairsUptoRow.holds Try.pinned (OpenSpec.upto fnExactHingePairsSpec)

end Rows
end Go.Proofs.Ytiphmhofhgbhlaa
