/-
  No cell of these rows narrows 'for every input' (looked for: loops, veiled, ifaces, maps, wideKeys, modest, calm, conditions, laid).
  DERIVED. THE GIVEN ROWS OF THIS SEAT. 12 by the template 'for every input the law returns true; each argument reads behind the call as it read before'; 0 by the template 'total and deterministic' (their statements: YtihibpkbhjpajaaTotals.lean).
  GIVEN WITH THE SEED: the statements are not yours to turn. If you find one false, say at which input.
  Laid BY PROGRAM, IN A SANDBOX (cutbox-rows.mjs): the forced cells as the released guide's own fill.sh prints them over the translation 44714ffbbcbdcda4… (all of the seat's roots in one cut). By AI agents, Wed Nov 11 2026. No macro, syntax, notation, axiom, sorry.
-/
import Derived.Test.YtihibpkbhjpajaaChecked
import GoSem.Claim
import GoSem.ClaimJoined
import GoSem.ClaimMapViews
import Derived.JoinedTies
import Derived.KernelRfl
namespace Go.Proofs.Ytihibpkbhjpajaa
/- THE CELL 'sum', in the pinned program and in every row, IS THE sha256 OF THE DUMP (.gsa) THAT YtihibpkbhjpajaaProg.lean LOADS. Nothing in Lean hashes anything: it is a label: what it is worth is what the hold of that sum in a sandbox is worth. -/
noncomputable def Try.pinned : Pinned := { name := "ytihibpkbhjpajaa", sum := "44714ffbbcbdcda4c0a0d05c8c45d5e8f5eba006209063b486365d1569848cbf", checked := Try.checked }
namespace Rows
def none {H : Type} : Left H := { results := [], args := [] }

/-- 'laws.FnExactNextSeed': WHATEVER THE INPUT: true; the input reads as it did. -/
def fnExactNextSeedSpec : ChangeSpec := { name := "fnExactNextSeed", fn := fun _ => fun
  | [d] => { results := [.lit (.bool true)], args := [d] }
  | _ => none }
def fnExactNextSeedRow : OpenClaim := { program := "ytihibpkbhjpajaa", sum := "44714ffbbcbdcda4c0a0d05c8c45d5e8f5eba006209063b486365d1569848cbf", func := "loop.example/g02078/laws.FnExactNextSeed", spec := "fnExactNextSeed", apart := false }
def FnExactNextSeedSaid : Prop := fnExactNextSeedRow.holds Try.pinned (OpenSpec.ofChange fnExactNextSeedSpec)

/-- ITS FALSE NEIGHBOUR: 'it returns false'. Refute it at one input. -/
def fnExactNextSeedWrong : ChangeSpec := { name := "fnExactNextSeed", fn := fun _ => fun
  | [d] => { results := [.lit (.bool false)], args := [d] }
  | _ => none }
def FnExactNextSeedWrongFalsely : Prop := fnExactNextSeedRow.holds Try.pinned (OpenSpec.ofChange fnExactNextSeedWrong)

/-- 'laws.FnExactHingeGraph': WHATEVER THE INPUT: true; the input reads as it did. -/
def fnExactHingeGraphSpec : ChangeSpec := { name := "fnExactHingeGraph", fn := fun _ => fun
  | [d] => { results := [.lit (.bool true)], args := [d] }
  | _ => none }
def fnExactHingeGraphRow : OpenClaim := { program := "ytihibpkbhjpajaa", sum := "44714ffbbcbdcda4c0a0d05c8c45d5e8f5eba006209063b486365d1569848cbf", func := "loop.example/g02078/laws.FnExactHingeGraph", spec := "fnExactHingeGraph", apart := false }
def FnExactHingeGraphSaid : Prop := fnExactHingeGraphRow.holds Try.pinned (OpenSpec.ofChange fnExactHingeGraphSpec)

/-- ITS FALSE NEIGHBOUR: 'it returns false'. Refute it at one input. -/
def fnExactHingeGraphWrong : ChangeSpec := { name := "fnExactHingeGraph", fn := fun _ => fun
  | [d] => { results := [.lit (.bool false)], args := [d] }
  | _ => none }
def FnExactHingeGraphWrongFalsely : Prop := fnExactHingeGraphRow.holds Try.pinned (OpenSpec.ofChange fnExactHingeGraphWrong)

/-- 'laws.FnExactMissingBars': WHATEVER THE INPUT: true; the input reads as it did. -/
def fnExactMissingBarsSpec : ChangeSpec := { name := "fnExactMissingBars", fn := fun _ => fun
  | [d] => { results := [.lit (.bool true)], args := [d] }
  | _ => none }
def fnExactMissingBarsRow : OpenClaim := { program := "ytihibpkbhjpajaa", sum := "44714ffbbcbdcda4c0a0d05c8c45d5e8f5eba006209063b486365d1569848cbf", func := "loop.example/g02078/laws.FnExactMissingBars", spec := "fnExactMissingBars", apart := false }
def FnExactMissingBarsSaid : Prop := fnExactMissingBarsRow.holds Try.pinned (OpenSpec.ofChange fnExactMissingBarsSpec)

/-- ITS FALSE NEIGHBOUR: 'it returns false'. Refute it at one input. -/
def fnExactMissingBarsWrong : ChangeSpec := { name := "fnExactMissingBars", fn := fun _ => fun
  | [d] => { results := [.lit (.bool false)], args := [d] }
  | _ => none }
def FnExactMissingBarsWrongFalsely : Prop := fnExactMissingBarsRow.holds Try.pinned (OpenSpec.ofChange fnExactMissingBarsWrong)

/-- 'laws.FnExactWithoutPoints': WHATEVER THE INPUT: true; the input reads as it did. -/
def fnExactWithoutPointsSpec : ChangeSpec := { name := "fnExactWithoutPoints", fn := fun _ => fun
  | [d1, d2] => { results := [.lit (.bool true)], args := [d1, d2] }
  | _ => none }
def fnExactWithoutPointsRow : OpenClaim := { program := "ytihibpkbhjpajaa", sum := "44714ffbbcbdcda4c0a0d05c8c45d5e8f5eba006209063b486365d1569848cbf", func := "loop.example/g02078/laws.FnExactWithoutPoints", spec := "fnExactWithoutPoints", apart := false }
def FnExactWithoutPointsSaid : Prop := fnExactWithoutPointsRow.holds Try.pinned (OpenSpec.ofChange fnExactWithoutPointsSpec)

/-- ITS FALSE NEIGHBOUR: 'it returns false'. Refute it at one input. -/
def fnExactWithoutPointsWrong : ChangeSpec := { name := "fnExactWithoutPoints", fn := fun _ => fun
  | [d1, d2] => { results := [.lit (.bool false)], args := [d1, d2] }
  | _ => none }
def FnExactWithoutPointsWrongFalsely : Prop := fnExactWithoutPointsRow.holds Try.pinned (OpenSpec.ofChange fnExactWithoutPointsWrong)

/-- 'laws.FnExactIsPinned': WHATEVER THE INPUT: true; the input reads as it did. -/
def fnExactIsPinnedSpec : ChangeSpec := { name := "fnExactIsPinned", fn := fun _ => fun
  | [d] => { results := [.lit (.bool true)], args := [d] }
  | _ => none }
def fnExactIsPinnedRow : OpenClaim := { program := "ytihibpkbhjpajaa", sum := "44714ffbbcbdcda4c0a0d05c8c45d5e8f5eba006209063b486365d1569848cbf", func := "loop.example/g02078/laws.FnExactIsPinned", spec := "fnExactIsPinned", apart := false }
def FnExactIsPinnedSaid : Prop := fnExactIsPinnedRow.holds Try.pinned (OpenSpec.ofChange fnExactIsPinnedSpec)

/-- ITS FALSE NEIGHBOUR: 'it returns false'. Refute it at one input. -/
def fnExactIsPinnedWrong : ChangeSpec := { name := "fnExactIsPinned", fn := fun _ => fun
  | [d] => { results := [.lit (.bool false)], args := [d] }
  | _ => none }
def FnExactIsPinnedWrongFalsely : Prop := fnExactIsPinnedRow.holds Try.pinned (OpenSpec.ofChange fnExactIsPinnedWrong)

/-- 'laws.FnExactIsCongruent': WHATEVER THE INPUT: true; the input reads as it did. -/
def fnExactIsCongruentSpec : ChangeSpec := { name := "fnExactIsCongruent", fn := fun _ => fun
  | [d1, d2] => { results := [.lit (.bool true)], args := [d1, d2] }
  | _ => none }
def fnExactIsCongruentRow : OpenClaim := { program := "ytihibpkbhjpajaa", sum := "44714ffbbcbdcda4c0a0d05c8c45d5e8f5eba006209063b486365d1569848cbf", func := "loop.example/g02078/laws.FnExactIsCongruent", spec := "fnExactIsCongruent", apart := false }
def FnExactIsCongruentSaid : Prop := fnExactIsCongruentRow.holds Try.pinned (OpenSpec.ofChange fnExactIsCongruentSpec)

/-- ITS FALSE NEIGHBOUR: 'it returns false'. Refute it at one input. -/
def fnExactIsCongruentWrong : ChangeSpec := { name := "fnExactIsCongruent", fn := fun _ => fun
  | [d1, d2] => { results := [.lit (.bool false)], args := [d1, d2] }
  | _ => none }
def FnExactIsCongruentWrongFalsely : Prop := fnExactIsCongruentRow.holds Try.pinned (OpenSpec.ofChange fnExactIsCongruentWrong)

/-- 'laws.FnExactIsTensegrity': WHATEVER THE INPUT: true; the input reads as it did. -/
def fnExactIsTensegritySpec : ChangeSpec := { name := "fnExactIsTensegrity", fn := fun _ => fun
  | [d] => { results := [.lit (.bool true)], args := [d] }
  | _ => none }
def fnExactIsTensegrityRow : OpenClaim := { program := "ytihibpkbhjpajaa", sum := "44714ffbbcbdcda4c0a0d05c8c45d5e8f5eba006209063b486365d1569848cbf", func := "loop.example/g02078/laws.FnExactIsTensegrity", spec := "fnExactIsTensegrity", apart := false }
def FnExactIsTensegritySaid : Prop := fnExactIsTensegrityRow.holds Try.pinned (OpenSpec.ofChange fnExactIsTensegritySpec)

/-- ITS FALSE NEIGHBOUR: 'it returns false'. Refute it at one input. -/
def fnExactIsTensegrityWrong : ChangeSpec := { name := "fnExactIsTensegrity", fn := fun _ => fun
  | [d] => { results := [.lit (.bool false)], args := [d] }
  | _ => none }
def FnExactIsTensegrityWrongFalsely : Prop := fnExactIsTensegrityRow.holds Try.pinned (OpenSpec.ofChange fnExactIsTensegrityWrong)

/-- 'laws.FnExactInnerPoints': WHATEVER THE INPUT: true; the input reads as it did. -/
def fnExactInnerPointsSpec : ChangeSpec := { name := "fnExactInnerPoints", fn := fun _ => fun
  | [d] => { results := [.lit (.bool true)], args := [d] }
  | _ => none }
def fnExactInnerPointsRow : OpenClaim := { program := "ytihibpkbhjpajaa", sum := "44714ffbbcbdcda4c0a0d05c8c45d5e8f5eba006209063b486365d1569848cbf", func := "loop.example/g02078/laws.FnExactInnerPoints", spec := "fnExactInnerPoints", apart := false }
def FnExactInnerPointsSaid : Prop := fnExactInnerPointsRow.holds Try.pinned (OpenSpec.ofChange fnExactInnerPointsSpec)

/-- ITS FALSE NEIGHBOUR: 'it returns false'. Refute it at one input. -/
def fnExactInnerPointsWrong : ChangeSpec := { name := "fnExactInnerPoints", fn := fun _ => fun
  | [d] => { results := [.lit (.bool false)], args := [d] }
  | _ => none }
def FnExactInnerPointsWrongFalsely : Prop := fnExactInnerPointsRow.holds Try.pinned (OpenSpec.ofChange fnExactInnerPointsWrong)

/-- 'laws.FnExactIsKConnected': WHATEVER THE INPUT: true; the input reads as it did. -/
def fnExactIsKConnectedSpec : ChangeSpec := { name := "fnExactIsKConnected", fn := fun _ => fun
  | [d1, d2] => { results := [.lit (.bool true)], args := [d1, d2] }
  | _ => none }
def fnExactIsKConnectedRow : OpenClaim := { program := "ytihibpkbhjpajaa", sum := "44714ffbbcbdcda4c0a0d05c8c45d5e8f5eba006209063b486365d1569848cbf", func := "loop.example/g02078/laws.FnExactIsKConnected", spec := "fnExactIsKConnected", apart := false }
def FnExactIsKConnectedSaid : Prop := fnExactIsKConnectedRow.holds Try.pinned (OpenSpec.ofChange fnExactIsKConnectedSpec)

/-- ITS FALSE NEIGHBOUR: 'it returns false'. Refute it at one input. -/
def fnExactIsKConnectedWrong : ChangeSpec := { name := "fnExactIsKConnected", fn := fun _ => fun
  | [d1, d2] => { results := [.lit (.bool false)], args := [d1, d2] }
  | _ => none }
def FnExactIsKConnectedWrongFalsely : Prop := fnExactIsKConnectedRow.holds Try.pinned (OpenSpec.ofChange fnExactIsKConnectedWrong)

/-- 'laws.FnExactPairDistances': WHATEVER THE INPUT: true; the input reads as it did. -/
def fnExactPairDistancesSpec : ChangeSpec := { name := "fnExactPairDistances", fn := fun _ => fun
  | [d] => { results := [.lit (.bool true)], args := [d] }
  | _ => none }
def fnExactPairDistancesRow : OpenClaim := { program := "ytihibpkbhjpajaa", sum := "44714ffbbcbdcda4c0a0d05c8c45d5e8f5eba006209063b486365d1569848cbf", func := "loop.example/g02078/laws.FnExactPairDistances", spec := "fnExactPairDistances", apart := false }
def FnExactPairDistancesSaid : Prop := fnExactPairDistancesRow.holds Try.pinned (OpenSpec.ofChange fnExactPairDistancesSpec)

/-- ITS FALSE NEIGHBOUR: 'it returns false'. Refute it at one input. -/
def fnExactPairDistancesWrong : ChangeSpec := { name := "fnExactPairDistances", fn := fun _ => fun
  | [d] => { results := [.lit (.bool false)], args := [d] }
  | _ => none }
def FnExactPairDistancesWrongFalsely : Prop := fnExactPairDistancesRow.holds Try.pinned (OpenSpec.ofChange fnExactPairDistancesWrong)

/-- 'laws.FnExactPlacesFor': WHATEVER THE INPUT: true; the input reads as it did. -/
def fnExactPlacesForSpec : ChangeSpec := { name := "fnExactPlacesFor", fn := fun _ => fun
  | [d1, d2] => { results := [.lit (.bool true)], args := [d1, d2] }
  | _ => none }
def fnExactPlacesForRow : OpenClaim := { program := "ytihibpkbhjpajaa", sum := "44714ffbbcbdcda4c0a0d05c8c45d5e8f5eba006209063b486365d1569848cbf", func := "loop.example/g02078/laws.FnExactPlacesFor", spec := "fnExactPlacesFor", apart := false }
def FnExactPlacesForSaid : Prop := fnExactPlacesForRow.holds Try.pinned (OpenSpec.ofChange fnExactPlacesForSpec)

/-- ITS FALSE NEIGHBOUR: 'it returns false'. Refute it at one input. -/
def fnExactPlacesForWrong : ChangeSpec := { name := "fnExactPlacesFor", fn := fun _ => fun
  | [d1, d2] => { results := [.lit (.bool false)], args := [d1, d2] }
  | _ => none }
def FnExactPlacesForWrongFalsely : Prop := fnExactPlacesForRow.holds Try.pinned (OpenSpec.ofChange fnExactPlacesForWrong)

/-- 'laws.FnExactConnectivityOf': WHATEVER THE INPUT: true; the input reads as it did. -/
def fnExactConnectivityOfSpec : ChangeSpec := { name := "fnExactConnectivityOf", fn := fun _ => fun
  | [d] => { results := [.lit (.bool true)], args := [d] }
  | _ => none }
def fnExactConnectivityOfRow : OpenClaim := { program := "ytihibpkbhjpajaa", sum := "44714ffbbcbdcda4c0a0d05c8c45d5e8f5eba006209063b486365d1569848cbf", func := "loop.example/g02078/laws.FnExactConnectivityOf", spec := "fnExactConnectivityOf", apart := false }
def FnExactConnectivityOfSaid : Prop := fnExactConnectivityOfRow.holds Try.pinned (OpenSpec.ofChange fnExactConnectivityOfSpec)

/-- ITS FALSE NEIGHBOUR: 'it returns false'. Refute it at one input. -/
def fnExactConnectivityOfWrong : ChangeSpec := { name := "fnExactConnectivityOf", fn := fun _ => fun
  | [d] => { results := [.lit (.bool false)], args := [d] }
  | _ => none }
def FnExactConnectivityOfWrongFalsely : Prop := fnExactConnectivityOfRow.holds Try.pinned (OpenSpec.ofChange fnExactConnectivityOfWrong)

/- THE SECOND FORM. 'bulk': how many values and letters a reading holds, each counted each time it is reached (what is shared counts as often as it is met; a slice's spare places count too). A statement '..UptoSaid' is the law's where the arguments, and the package variables that the reading takes, are together of bulk at most 1048576: NARROWER than '..Said'. Prove '..Said' where nothing that the law and all that it calls make is longer than what came in: it says more and counts as full. Else prove '..UptoSaid'. A law counts once. -/
mutual
def uptoBulk {H : Type} : DataW H → Nat
  | .lit (.string bytes) => bytes.length + 1
  | .lit _ => 1
  | .nil => 1
  | .ptr d => uptoBulk d + 1
  | .slice elems spare => uptoBulkAll elems + uptoBulkAll spare + 1
  | .agg parts => uptoBulkAll parts + 1
  | .iface _ d => uptoBulk d + 1
  | .map entries => uptoBulkEntries entries + 1
  | .held _ => 1
def uptoBulkAll {H : Type} : List (DataW H) → Nat
  | [] => 0
  | d :: r => uptoBulk d + uptoBulkAll r
def uptoBulkEntries {H : Type} : List (Lit × DataW H) → Nat
  | [] => 0
  | x :: r => uptoBulkEntry x + uptoBulkEntries r
def uptoBulkEntry {H : Type} : Lit × DataW H → Nat
  | (.string bytes, d) => bytes.length + uptoBulk d + 1
  | (_, d) => uptoBulk d + 1
 end
def uptoSmall : (H : Type) → List (DataW H) → Bool := fun _ ds => decide (uptoBulkAll ds ≤ 1048576)
def OpenSpec.upto (s : _root_.Go.ChangeSpec) : _root_.Go.OpenSpec := { _root_.Go.OpenSpec.ofChange s with cond := some uptoSmall }

/-- 'laws.FnExactNextSeed', WHERE WHAT IT READS IS OF BULK AT MOST 1048576: true; the input reads as it did. -/
def fnExactNextSeedUptoRow : OpenClaim := { program := "ytihibpkbhjpajaa", sum := "44714ffbbcbdcda4c0a0d05c8c45d5e8f5eba006209063b486365d1569848cbf", func := "loop.example/g02078/laws.FnExactNextSeed", spec := "fnExactNextSeed", apart := false, narrowed := true }
def FnExactNextSeedUptoSaid : Prop := fnExactNextSeedUptoRow.holds Try.pinned (OpenSpec.upto fnExactNextSeedSpec)

/-- 'laws.FnExactHingeGraph', WHERE WHAT IT READS IS OF BULK AT MOST 1048576: true; the input reads as it did. -/
def fnExactHingeGraphUptoRow : OpenClaim := { program := "ytihibpkbhjpajaa", sum := "44714ffbbcbdcda4c0a0d05c8c45d5e8f5eba006209063b486365d1569848cbf", func := "loop.example/g02078/laws.FnExactHingeGraph", spec := "fnExactHingeGraph", apart := false, narrowed := true }
def FnExactHingeGraphUptoSaid : Prop := fnExactHingeGraphUptoRow.holds Try.pinned (OpenSpec.upto fnExactHingeGraphSpec)

/-- 'laws.FnExactMissingBars', WHERE WHAT IT READS IS OF BULK AT MOST 1048576: true; the input reads as it did. -/
def fnExactMissingBarsUptoRow : OpenClaim := { program := "ytihibpkbhjpajaa", sum := "44714ffbbcbdcda4c0a0d05c8c45d5e8f5eba006209063b486365d1569848cbf", func := "loop.example/g02078/laws.FnExactMissingBars", spec := "fnExactMissingBars", apart := false, narrowed := true }
def FnExactMissingBarsUptoSaid : Prop := fnExactMissingBarsUptoRow.holds Try.pinned (OpenSpec.upto fnExactMissingBarsSpec)

/-- 'laws.FnExactWithoutPoints', WHERE WHAT IT READS IS OF BULK AT MOST 1048576: true; the input reads as it did. -/
def fnExactWithoutPointsUptoRow : OpenClaim := { program := "ytihibpkbhjpajaa", sum := "44714ffbbcbdcda4c0a0d05c8c45d5e8f5eba006209063b486365d1569848cbf", func := "loop.example/g02078/laws.FnExactWithoutPoints", spec := "fnExactWithoutPoints", apart := false, narrowed := true }
def FnExactWithoutPointsUptoSaid : Prop := fnExactWithoutPointsUptoRow.holds Try.pinned (OpenSpec.upto fnExactWithoutPointsSpec)

/-- 'laws.FnExactIsPinned', WHERE WHAT IT READS IS OF BULK AT MOST 1048576: true; the input reads as it did. -/
def fnExactIsPinnedUptoRow : OpenClaim := { program := "ytihibpkbhjpajaa", sum := "44714ffbbcbdcda4c0a0d05c8c45d5e8f5eba006209063b486365d1569848cbf", func := "loop.example/g02078/laws.FnExactIsPinned", spec := "fnExactIsPinned", apart := false, narrowed := true }
def FnExactIsPinnedUptoSaid : Prop := fnExactIsPinnedUptoRow.holds Try.pinned (OpenSpec.upto fnExactIsPinnedSpec)

/-- 'laws.FnExactIsCongruent', WHERE WHAT IT READS IS OF BULK AT MOST 1048576: true; the input reads as it did. -/
def fnExactIsCongruentUptoRow : OpenClaim := { program := "ytihibpkbhjpajaa", sum := "44714ffbbcbdcda4c0a0d05c8c45d5e8f5eba006209063b486365d1569848cbf", func := "loop.example/g02078/laws.FnExactIsCongruent", spec := "fnExactIsCongruent", apart := false, narrowed := true }
def FnExactIsCongruentUptoSaid : Prop := fnExactIsCongruentUptoRow.holds Try.pinned (OpenSpec.upto fnExactIsCongruentSpec)

/-- 'laws.FnExactIsTensegrity', WHERE WHAT IT READS IS OF BULK AT MOST 1048576: true; the input reads as it did. -/
def fnExactIsTensegrityUptoRow : OpenClaim := { program := "ytihibpkbhjpajaa", sum := "44714ffbbcbdcda4c0a0d05c8c45d5e8f5eba006209063b486365d1569848cbf", func := "loop.example/g02078/laws.FnExactIsTensegrity", spec := "fnExactIsTensegrity", apart := false, narrowed := true }
def FnExactIsTensegrityUptoSaid : Prop := fnExactIsTensegrityUptoRow.holds Try.pinned (OpenSpec.upto fnExactIsTensegritySpec)

/-- 'laws.FnExactInnerPoints', WHERE WHAT IT READS IS OF BULK AT MOST 1048576: true; the input reads as it did. -/
def fnExactInnerPointsUptoRow : OpenClaim := { program := "ytihibpkbhjpajaa", sum := "44714ffbbcbdcda4c0a0d05c8c45d5e8f5eba006209063b486365d1569848cbf", func := "loop.example/g02078/laws.FnExactInnerPoints", spec := "fnExactInnerPoints", apart := false, narrowed := true }
def FnExactInnerPointsUptoSaid : Prop := fnExactInnerPointsUptoRow.holds Try.pinned (OpenSpec.upto fnExactInnerPointsSpec)

/-- 'laws.FnExactIsKConnected', WHERE WHAT IT READS IS OF BULK AT MOST 1048576: true; the input reads as it did. -/
def fnExactIsKConnectedUptoRow : OpenClaim := { program := "ytihibpkbhjpajaa", sum := "44714ffbbcbdcda4c0a0d05c8c45d5e8f5eba006209063b486365d1569848cbf", func := "loop.example/g02078/laws.FnExactIsKConnected", spec := "fnExactIsKConnected", apart := false, narrowed := true }
def FnExactIsKConnectedUptoSaid : Prop := fnExactIsKConnectedUptoRow.holds Try.pinned (OpenSpec.upto fnExactIsKConnectedSpec)

/-- 'laws.FnExactPairDistances', WHERE WHAT IT READS IS OF BULK AT MOST 1048576: true; the input reads as it did. -/
def fnExactPairDistancesUptoRow : OpenClaim := { program := "ytihibpkbhjpajaa", sum := "44714ffbbcbdcda4c0a0d05c8c45d5e8f5eba006209063b486365d1569848cbf", func := "loop.example/g02078/laws.FnExactPairDistances", spec := "fnExactPairDistances", apart := false, narrowed := true }
def FnExactPairDistancesUptoSaid : Prop := fnExactPairDistancesUptoRow.holds Try.pinned (OpenSpec.upto fnExactPairDistancesSpec)

/-- 'laws.FnExactPlacesFor', WHERE WHAT IT READS IS OF BULK AT MOST 1048576: true; the input reads as it did. -/
def fnExactPlacesForUptoRow : OpenClaim := { program := "ytihibpkbhjpajaa", sum := "44714ffbbcbdcda4c0a0d05c8c45d5e8f5eba006209063b486365d1569848cbf", func := "loop.example/g02078/laws.FnExactPlacesFor", spec := "fnExactPlacesFor", apart := false, narrowed := true }
def FnExactPlacesForUptoSaid : Prop := fnExactPlacesForUptoRow.holds Try.pinned (OpenSpec.upto fnExactPlacesForSpec)

/-- 'laws.FnExactConnectivityOf', WHERE WHAT IT READS IS OF BULK AT MOST 1048576: true; the input reads as it did. -/
def fnExactConnectivityOfUptoRow : OpenClaim := { program := "ytihibpkbhjpajaa", sum := "44714ffbbcbdcda4c0a0d05c8c45d5e8f5eba006209063b486365d1569848cbf", func := "loop.example/g02078/laws.FnExactConnectivityOf", spec := "fnExactConnectivityOf", apart := false, narrowed := true }
def FnExactConnectivityOfUptoSaid : Prop := fnExactConnectivityOfUptoRow.holds Try.pinned (OpenSpec.upto fnExactConnectivityOfSpec)

end Rows
end Go.Proofs.Ytihibpkbhjpajaa
