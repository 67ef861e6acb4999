/-
  No cell of these rows narrows 'for every input' (looked for: loops, veiled, ifaces, maps, wideKeys, modest, calm, conditions, laid).
  DERIVED. THE GIVEN ROWS OF THIS SEAT. 10 by the template 'for every input the law returns true; each argument reads behind the call as it read before'; 0 by the template 'total and deterministic' (their statements: YtoeigmhhmadmbaaTotals.lean).
  GIVEN WITH THE SEED: the statements are not yours to turn. If you find one false, say at which input.
  Laid BY PROGRAM, IN A SANDBOX (cutbox-rows.mjs): the forced cells as the released guide's own fill.sh prints them over the translation b081e44076de4181… (all of the seat's roots in one cut). By AI agents, Wed Nov 11 2026. No macro, syntax, notation, axiom, sorry.
-/
import Derived.Test.YtoeigmhhmadmbaaChecked
import GoSem.Claim
import GoSem.ClaimJoined
import GoSem.ClaimMapViews
import Derived.JoinedTies
import Derived.KernelRfl
namespace Go.Proofs.Ytoeigmhhmadmbaa
/- THE CELL 'sum', in the pinned program and in every row, IS THE sha256 OF THE DUMP (.gsa) THAT YtoeigmhhmadmbaaProg.lean LOADS. Nothing in Lean hashes anything: it is a label: what it is worth is what the hold of that sum in a sandbox is worth. -/
noncomputable def Try.pinned : Pinned := { name := "ytoeigmhhmadmbaa", sum := "b081e44076de4181df015b47e3d04df1d6d403c650e3757910e49afaf61a9b36", checked := Try.checked }
namespace Rows
def none {H : Type} : Left H := { results := [], args := [] }

/-- 'laws.FnStresses': WHATEVER THE INPUT: true; the input reads as it did. -/
def fnStressesSpec : ChangeSpec := { name := "fnStresses", fn := fun _ => fun
  | [d] => { results := [.lit (.bool true)], args := [d] }
  | _ => none }
def fnStressesRow : OpenClaim := { program := "ytoeigmhhmadmbaa", sum := "b081e44076de4181df015b47e3d04df1d6d403c650e3757910e49afaf61a9b36", func := "loop.example/g02078/laws.FnStresses", spec := "fnStresses", apart := false }
def FnStressesSaid : Prop := fnStressesRow.holds Try.pinned (OpenSpec.ofChange fnStressesSpec)

/-- ITS FALSE NEIGHBOUR: 'it returns false'. Refute it at one input. -/
def fnStressesWrong : ChangeSpec := { name := "fnStresses", fn := fun _ => fun
  | [d] => { results := [.lit (.bool false)], args := [d] }
  | _ => none }
def FnStressesWrongFalsely : Prop := fnStressesRow.holds Try.pinned (OpenSpec.ofChange fnStressesWrong)

/-- 'laws.FnExactProvesStiff': WHATEVER THE INPUT: true; the input reads as it did. -/
def fnExactProvesStiffSpec : ChangeSpec := { name := "fnExactProvesStiff", fn := fun _ => fun
  | [d1, d2] => { results := [.lit (.bool true)], args := [d1, d2] }
  | _ => none }
def fnExactProvesStiffRow : OpenClaim := { program := "ytoeigmhhmadmbaa", sum := "b081e44076de4181df015b47e3d04df1d6d403c650e3757910e49afaf61a9b36", func := "loop.example/g02078/laws.FnExactProvesStiff", spec := "fnExactProvesStiff", apart := false }
def FnExactProvesStiffSaid : Prop := fnExactProvesStiffRow.holds Try.pinned (OpenSpec.ofChange fnExactProvesStiffSpec)

/-- ITS FALSE NEIGHBOUR: 'it returns false'. Refute it at one input. -/
def fnExactProvesStiffWrong : ChangeSpec := { name := "fnExactProvesStiff", fn := fun _ => fun
  | [d1, d2] => { results := [.lit (.bool false)], args := [d1, d2] }
  | _ => none }
def FnExactProvesStiffWrongFalsely : Prop := fnExactProvesStiffRow.holds Try.pinned (OpenSpec.ofChange fnExactProvesStiffWrong)

/-- 'laws.FnExactBearingForces': WHATEVER THE INPUT: true; the input reads as it did. -/
def fnExactBearingForcesSpec : ChangeSpec := { name := "fnExactBearingForces", fn := fun _ => fun
  | [d1, d2] => { results := [.lit (.bool true)], args := [d1, d2] }
  | _ => none }
def fnExactBearingForcesRow : OpenClaim := { program := "ytoeigmhhmadmbaa", sum := "b081e44076de4181df015b47e3d04df1d6d403c650e3757910e49afaf61a9b36", func := "loop.example/g02078/laws.FnExactBearingForces", spec := "fnExactBearingForces", apart := false }
def FnExactBearingForcesSaid : Prop := fnExactBearingForcesRow.holds Try.pinned (OpenSpec.ofChange fnExactBearingForcesSpec)

/-- ITS FALSE NEIGHBOUR: 'it returns false'. Refute it at one input. -/
def fnExactBearingForcesWrong : ChangeSpec := { name := "fnExactBearingForces", fn := fun _ => fun
  | [d1, d2] => { results := [.lit (.bool false)], args := [d1, d2] }
  | _ => none }
def FnExactBearingForcesWrongFalsely : Prop := fnExactBearingForcesRow.holds Try.pinned (OpenSpec.ofChange fnExactBearingForcesWrong)

/-- 'laws.FnExactLostRank': WHATEVER THE INPUT: true; the input reads as it did. -/
def fnExactLostRankSpec : ChangeSpec := { name := "fnExactLostRank", fn := fun _ => fun
  | [d] => { results := [.lit (.bool true)], args := [d] }
  | _ => none }
def fnExactLostRankRow : OpenClaim := { program := "ytoeigmhhmadmbaa", sum := "b081e44076de4181df015b47e3d04df1d6d403c650e3757910e49afaf61a9b36", func := "loop.example/g02078/laws.FnExactLostRank", spec := "fnExactLostRank", apart := false }
def FnExactLostRankSaid : Prop := fnExactLostRankRow.holds Try.pinned (OpenSpec.ofChange fnExactLostRankSpec)

/-- ITS FALSE NEIGHBOUR: 'it returns false'. Refute it at one input. -/
def fnExactLostRankWrong : ChangeSpec := { name := "fnExactLostRank", fn := fun _ => fun
  | [d] => { results := [.lit (.bool false)], args := [d] }
  | _ => none }
def FnExactLostRankWrongFalsely : Prop := fnExactLostRankRow.holds Try.pinned (OpenSpec.ofChange fnExactLostRankWrong)

/-- 'laws.FnExactIsSpecial': WHATEVER THE INPUT: true; the input reads as it did. -/
def fnExactIsSpecialSpec : ChangeSpec := { name := "fnExactIsSpecial", fn := fun _ => fun
  | [d] => { results := [.lit (.bool true)], args := [d] }
  | _ => none }
def fnExactIsSpecialRow : OpenClaim := { program := "ytoeigmhhmadmbaa", sum := "b081e44076de4181df015b47e3d04df1d6d403c650e3757910e49afaf61a9b36", func := "loop.example/g02078/laws.FnExactIsSpecial", spec := "fnExactIsSpecial", apart := false }
def FnExactIsSpecialSaid : Prop := fnExactIsSpecialRow.holds Try.pinned (OpenSpec.ofChange fnExactIsSpecialSpec)

/-- ITS FALSE NEIGHBOUR: 'it returns false'. Refute it at one input. -/
def fnExactIsSpecialWrong : ChangeSpec := { name := "fnExactIsSpecial", fn := fun _ => fun
  | [d] => { results := [.lit (.bool false)], args := [d] }
  | _ => none }
def FnExactIsSpecialWrongFalsely : Prop := fnExactIsSpecialRow.holds Try.pinned (OpenSpec.ofChange fnExactIsSpecialWrong)

/-- 'laws.FnExactGenericPlaces': WHATEVER THE INPUT: true; the input reads as it did. -/
def fnExactGenericPlacesSpec : ChangeSpec := { name := "fnExactGenericPlaces", fn := fun _ => fun
  | [d1, d2] => { results := [.lit (.bool true)], args := [d1, d2] }
  | _ => none }
def fnExactGenericPlacesRow : OpenClaim := { program := "ytoeigmhhmadmbaa", sum := "b081e44076de4181df015b47e3d04df1d6d403c650e3757910e49afaf61a9b36", func := "loop.example/g02078/laws.FnExactGenericPlaces", spec := "fnExactGenericPlaces", apart := false }
def FnExactGenericPlacesSaid : Prop := fnExactGenericPlacesRow.holds Try.pinned (OpenSpec.ofChange fnExactGenericPlacesSpec)

/-- ITS FALSE NEIGHBOUR: 'it returns false'. Refute it at one input. -/
def fnExactGenericPlacesWrong : ChangeSpec := { name := "fnExactGenericPlaces", fn := fun _ => fun
  | [d1, d2] => { results := [.lit (.bool false)], args := [d1, d2] }
  | _ => none }
def FnExactGenericPlacesWrongFalsely : Prop := fnExactGenericPlacesRow.holds Try.pinned (OpenSpec.ofChange fnExactGenericPlacesWrong)

/-- 'laws.FnRigidity': WHATEVER THE INPUT: true; the input reads as it did. -/
def fnRigiditySpec : ChangeSpec := { name := "fnRigidity", fn := fun _ => fun
  | [d] => { results := [.lit (.bool true)], args := [d] }
  | _ => none }
def fnRigidityRow : OpenClaim := { program := "ytoeigmhhmadmbaa", sum := "b081e44076de4181df015b47e3d04df1d6d403c650e3757910e49afaf61a9b36", func := "loop.example/g02078/laws.FnRigidity", spec := "fnRigidity", apart := false }
def FnRigiditySaid : Prop := fnRigidityRow.holds Try.pinned (OpenSpec.ofChange fnRigiditySpec)

/-- ITS FALSE NEIGHBOUR: 'it returns false'. Refute it at one input. -/
def fnRigidityWrong : ChangeSpec := { name := "fnRigidity", fn := fun _ => fun
  | [d] => { results := [.lit (.bool false)], args := [d] }
  | _ => none }
def FnRigidityWrongFalsely : Prop := fnRigidityRow.holds Try.pinned (OpenSpec.ofChange fnRigidityWrong)

/-- 'laws.FnExactFindStrictStress': WHATEVER THE INPUT: true; the input reads as it did. -/
def fnExactFindStrictStressSpec : ChangeSpec := { name := "fnExactFindStrictStress", fn := fun _ => fun
  | [d] => { results := [.lit (.bool true)], args := [d] }
  | _ => none }
def fnExactFindStrictStressRow : OpenClaim := { program := "ytoeigmhhmadmbaa", sum := "b081e44076de4181df015b47e3d04df1d6d403c650e3757910e49afaf61a9b36", func := "loop.example/g02078/laws.FnExactFindStrictStress", spec := "fnExactFindStrictStress", unfollowed := true, recurses := true, apart := false }
def FnExactFindStrictStressSaid : Prop := fnExactFindStrictStressRow.holds Try.pinned (OpenSpec.ofChange fnExactFindStrictStressSpec)

/-- ITS FALSE NEIGHBOUR: 'it returns false'. Refute it at one input. -/
def fnExactFindStrictStressWrong : ChangeSpec := { name := "fnExactFindStrictStress", fn := fun _ => fun
  | [d] => { results := [.lit (.bool false)], args := [d] }
  | _ => none }
def FnExactFindStrictStressWrongFalsely : Prop := fnExactFindStrictStressRow.holds Try.pinned (OpenSpec.ofChange fnExactFindStrictStressWrong)

/-- 'laws.FnExactSpecialStress': WHATEVER THE INPUT: true; the input reads as it did. -/
def fnExactSpecialStressSpec : ChangeSpec := { name := "fnExactSpecialStress", fn := fun _ => fun
  | [d] => { results := [.lit (.bool true)], args := [d] }
  | _ => none }
def fnExactSpecialStressRow : OpenClaim := { program := "ytoeigmhhmadmbaa", sum := "b081e44076de4181df015b47e3d04df1d6d403c650e3757910e49afaf61a9b36", func := "loop.example/g02078/laws.FnExactSpecialStress", spec := "fnExactSpecialStress", apart := false }
def FnExactSpecialStressSaid : Prop := fnExactSpecialStressRow.holds Try.pinned (OpenSpec.ofChange fnExactSpecialStressSpec)

/-- ITS FALSE NEIGHBOUR: 'it returns false'. Refute it at one input. -/
def fnExactSpecialStressWrong : ChangeSpec := { name := "fnExactSpecialStress", fn := fun _ => fun
  | [d] => { results := [.lit (.bool false)], args := [d] }
  | _ => none }
def FnExactSpecialStressWrongFalsely : Prop := fnExactSpecialStressRow.holds Try.pinned (OpenSpec.ofChange fnExactSpecialStressWrong)

/-- 'laws.FnExactFindLooseMotion': WHATEVER THE INPUT: true; the input reads as it did. -/
def fnExactFindLooseMotionSpec : ChangeSpec := { name := "fnExactFindLooseMotion", fn := fun _ => fun
  | [d] => { results := [.lit (.bool true)], args := [d] }
  | _ => none }
def fnExactFindLooseMotionRow : OpenClaim := { program := "ytoeigmhhmadmbaa", sum := "b081e44076de4181df015b47e3d04df1d6d403c650e3757910e49afaf61a9b36", func := "loop.example/g02078/laws.FnExactFindLooseMotion", spec := "fnExactFindLooseMotion", unfollowed := true, recurses := true, apart := false }
def FnExactFindLooseMotionSaid : Prop := fnExactFindLooseMotionRow.holds Try.pinned (OpenSpec.ofChange fnExactFindLooseMotionSpec)

/-- ITS FALSE NEIGHBOUR: 'it returns false'. Refute it at one input. -/
def fnExactFindLooseMotionWrong : ChangeSpec := { name := "fnExactFindLooseMotion", fn := fun _ => fun
  | [d] => { results := [.lit (.bool false)], args := [d] }
  | _ => none }
def FnExactFindLooseMotionWrongFalsely : Prop := fnExactFindLooseMotionRow.holds Try.pinned (OpenSpec.ofChange fnExactFindLooseMotionWrong)

/- THE SECOND FORM. 'bulk': how many values and letters a reading holds, each counted each time it is reached (what is shared counts as often as it is met; a slice's spare places count too). A statement '..UptoSaid' is the law's where the arguments, and the package variables that the reading takes, are together of bulk at most 1048576: NARROWER than '..Said'. Prove '..Said' where nothing that the law and all that it calls make is longer than what came in: it says more and counts as full. Else prove '..UptoSaid'. A law counts once. -/
mutual
def uptoBulk {H : Type} : DataW H → Nat
  | .lit (.string bytes) => bytes.length + 1
  | .lit _ => 1
  | .nil => 1
  | .ptr d => uptoBulk d + 1
  | .slice elems spare => uptoBulkAll elems + uptoBulkAll spare + 1
  | .agg parts => uptoBulkAll parts + 1
  | .iface _ d => uptoBulk d + 1
  | .map entries => uptoBulkEntries entries + 1
  | .held _ => 1
def uptoBulkAll {H : Type} : List (DataW H) → Nat
  | [] => 0
  | d :: r => uptoBulk d + uptoBulkAll r
def uptoBulkEntries {H : Type} : List (Lit × DataW H) → Nat
  | [] => 0
  | x :: r => uptoBulkEntry x + uptoBulkEntries r
def uptoBulkEntry {H : Type} : Lit × DataW H → Nat
  | (.string bytes, d) => bytes.length + uptoBulk d + 1
  | (_, d) => uptoBulk d + 1
 end
def uptoSmall : (H : Type) → List (DataW H) → Bool := fun _ ds => decide (uptoBulkAll ds ≤ 1048576)
def OpenSpec.upto (s : _root_.Go.ChangeSpec) : _root_.Go.OpenSpec := { _root_.Go.OpenSpec.ofChange s with cond := some uptoSmall }

/-- 'laws.FnStresses', WHERE WHAT IT READS IS OF BULK AT MOST 1048576: true; the input reads as it did. -/
def fnStressesUptoRow : OpenClaim := { program := "ytoeigmhhmadmbaa", sum := "b081e44076de4181df015b47e3d04df1d6d403c650e3757910e49afaf61a9b36", func := "loop.example/g02078/laws.FnStresses", spec := "fnStresses", apart := false, narrowed := true }
def FnStressesUptoSaid : Prop := fnStressesUptoRow.holds Try.pinned (OpenSpec.upto fnStressesSpec)

/-- 'laws.FnExactProvesStiff', WHERE WHAT IT READS IS OF BULK AT MOST 1048576: true; the input reads as it did. -/
def fnExactProvesStiffUptoRow : OpenClaim := { program := "ytoeigmhhmadmbaa", sum := "b081e44076de4181df015b47e3d04df1d6d403c650e3757910e49afaf61a9b36", func := "loop.example/g02078/laws.FnExactProvesStiff", spec := "fnExactProvesStiff", apart := false, narrowed := true }
def FnExactProvesStiffUptoSaid : Prop := fnExactProvesStiffUptoRow.holds Try.pinned (OpenSpec.upto fnExactProvesStiffSpec)

/-- 'laws.FnExactBearingForces', WHERE WHAT IT READS IS OF BULK AT MOST 1048576: true; the input reads as it did. -/
def fnExactBearingForcesUptoRow : OpenClaim := { program := "ytoeigmhhmadmbaa", sum := "b081e44076de4181df015b47e3d04df1d6d403c650e3757910e49afaf61a9b36", func := "loop.example/g02078/laws.FnExactBearingForces", spec := "fnExactBearingForces", apart := false, narrowed := true }
def FnExactBearingForcesUptoSaid : Prop := fnExactBearingForcesUptoRow.holds Try.pinned (OpenSpec.upto fnExactBearingForcesSpec)

/-- 'laws.FnExactLostRank', WHERE WHAT IT READS IS OF BULK AT MOST 1048576: true; the input reads as it did. -/
def fnExactLostRankUptoRow : OpenClaim := { program := "ytoeigmhhmadmbaa", sum := "b081e44076de4181df015b47e3d04df1d6d403c650e3757910e49afaf61a9b36", func := "loop.example/g02078/laws.FnExactLostRank", spec := "fnExactLostRank", apart := false, narrowed := true }
def FnExactLostRankUptoSaid : Prop := fnExactLostRankUptoRow.holds Try.pinned (OpenSpec.upto fnExactLostRankSpec)

/-- 'laws.FnExactIsSpecial', WHERE WHAT IT READS IS OF BULK AT MOST 1048576: true; the input reads as it did. -/
def fnExactIsSpecialUptoRow : OpenClaim := { program := "ytoeigmhhmadmbaa", sum := "b081e44076de4181df015b47e3d04df1d6d403c650e3757910e49afaf61a9b36", func := "loop.example/g02078/laws.FnExactIsSpecial", spec := "fnExactIsSpecial", apart := false, narrowed := true }
def FnExactIsSpecialUptoSaid : Prop := fnExactIsSpecialUptoRow.holds Try.pinned (OpenSpec.upto fnExactIsSpecialSpec)

/-- 'laws.FnExactGenericPlaces', WHERE WHAT IT READS IS OF BULK AT MOST 1048576: true; the input reads as it did. -/
def fnExactGenericPlacesUptoRow : OpenClaim := { program := "ytoeigmhhmadmbaa", sum := "b081e44076de4181df015b47e3d04df1d6d403c650e3757910e49afaf61a9b36", func := "loop.example/g02078/laws.FnExactGenericPlaces", spec := "fnExactGenericPlaces", apart := false, narrowed := true }
def FnExactGenericPlacesUptoSaid : Prop := fnExactGenericPlacesUptoRow.holds Try.pinned (OpenSpec.upto fnExactGenericPlacesSpec)

/-- 'laws.FnRigidity', WHERE WHAT IT READS IS OF BULK AT MOST 1048576: true; the input reads as it did. -/
def fnRigidityUptoRow : OpenClaim := { program := "ytoeigmhhmadmbaa", sum := "b081e44076de4181df015b47e3d04df1d6d403c650e3757910e49afaf61a9b36", func := "loop.example/g02078/laws.FnRigidity", spec := "fnRigidity", apart := false, narrowed := true }
def FnRigidityUptoSaid : Prop := fnRigidityUptoRow.holds Try.pinned (OpenSpec.upto fnRigiditySpec)

/-- 'laws.FnExactFindStrictStress', WHERE WHAT IT READS IS OF BULK AT MOST 1048576: true; the input reads as it did. -/
def fnExactFindStrictStressUptoRow : OpenClaim := { program := "ytoeigmhhmadmbaa", sum := "b081e44076de4181df015b47e3d04df1d6d403c650e3757910e49afaf61a9b36", func := "loop.example/g02078/laws.FnExactFindStrictStress", spec := "fnExactFindStrictStress", unfollowed := true, recurses := true, apart := false, narrowed := true }
def FnExactFindStrictStressUptoSaid : Prop := fnExactFindStrictStressUptoRow.holds Try.pinned (OpenSpec.upto fnExactFindStrictStressSpec)

/-- 'laws.FnExactSpecialStress', WHERE WHAT IT READS IS OF BULK AT MOST 1048576: true; the input reads as it did. -/
def fnExactSpecialStressUptoRow : OpenClaim := { program := "ytoeigmhhmadmbaa", sum := "b081e44076de4181df015b47e3d04df1d6d403c650e3757910e49afaf61a9b36", func := "loop.example/g02078/laws.FnExactSpecialStress", spec := "fnExactSpecialStress", apart := false, narrowed := true }
def FnExactSpecialStressUptoSaid : Prop := fnExactSpecialStressUptoRow.holds Try.pinned (OpenSpec.upto fnExactSpecialStressSpec)

/-- 'laws.FnExactFindLooseMotion', WHERE WHAT IT READS IS OF BULK AT MOST 1048576: true; the input reads as it did. -/
def fnExactFindLooseMotionUptoRow : OpenClaim := { program := "ytoeigmhhmadmbaa", sum := "b081e44076de4181df015b47e3d04df1d6d403c650e3757910e49afaf61a9b36", func := "loop.example/g02078/laws.FnExactFindLooseMotion", spec := "fnExactFindLooseMotion", unfollowed := true, recurses := true, apart := false, narrowed := true }
def FnExactFindLooseMotionUptoSaid : Prop := fnExactFindLooseMotionUptoRow.holds Try.pinned (OpenSpec.upto fnExactFindLooseMotionSpec)

end Rows
end Go.Proofs.Ytoeigmhhmadmbaa
