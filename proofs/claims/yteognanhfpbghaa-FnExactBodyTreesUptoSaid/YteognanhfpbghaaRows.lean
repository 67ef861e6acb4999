/-
  No cell of these rows narrows 'for every input' (looked for: loops, veiled, ifaces, maps, wideKeys, modest, calm, conditions, laid).
  DERIVED. THE GIVEN ROWS OF THIS SEAT. 10 by the template 'for every input the law returns true; each argument reads behind the call as it read before'; 0 by the template 'total and deterministic' (their statements: YteognanhfpbghaaTotals.lean).
  GIVEN WITH THE SEED: the statements are not yours to turn. If you find one false, say at which input.
  Laid BY PROGRAM, IN A SANDBOX (cutbox-rows.mjs): the forced cells as the released guide's own fill.sh prints them over the translation 6e68929773b7a334… (all of the seat's roots in one cut). By AI agents, Wed Nov 11 2026. No macro, syntax, notation, axiom, sorry.
-/
import Derived.Test.YteognanhfpbghaaChecked
import GoSem.Claim
import GoSem.ClaimJoined
import GoSem.ClaimMapViews
import Derived.JoinedTies
import Derived.KernelRfl
namespace Go.Proofs.Yteognanhfpbghaa
/- THE CELL 'sum', in the pinned program and in every row, IS THE sha256 OF THE DUMP (.gsa) THAT YteognanhfpbghaaProg.lean LOADS. Nothing in Lean hashes anything: it is a label: what it is worth is what the hold of that sum in a sandbox is worth. -/
noncomputable def Try.pinned : Pinned := { name := "yteognanhfpbghaa", sum := "6e68929773b7a334c46167a2951b10c03ccda6eef28a8480724eadd4caff6597", checked := Try.checked }
namespace Rows
def none {H : Type} : Left H := { results := [], args := [] }

/-- 'laws.FnExactHasTwin': WHATEVER THE INPUT: true; the input reads as it did. -/
def fnExactHasTwinSpec : ChangeSpec := { name := "fnExactHasTwin", fn := fun _ => fun
  | [d] => { results := [.lit (.bool true)], args := [d] }
  | _ => none }
def fnExactHasTwinRow : OpenClaim := { program := "yteognanhfpbghaa", sum := "6e68929773b7a334c46167a2951b10c03ccda6eef28a8480724eadd4caff6597", func := "loop.example/g02078/laws.FnExactHasTwin", spec := "fnExactHasTwin", unfollowed := true, recurses := true, apart := false }
def FnExactHasTwinSaid : Prop := fnExactHasTwinRow.holds Try.pinned (OpenSpec.ofChange fnExactHasTwinSpec)

/-- ITS FALSE NEIGHBOUR: 'it returns false'. Refute it at one input. -/
def fnExactHasTwinWrong : ChangeSpec := { name := "fnExactHasTwin", fn := fun _ => fun
  | [d] => { results := [.lit (.bool false)], args := [d] }
  | _ => none }
def FnExactHasTwinWrongFalsely : Prop := fnExactHasTwinRow.holds Try.pinned (OpenSpec.ofChange fnExactHasTwinWrong)

/-- 'laws.FnExactOtherPlaces': WHATEVER THE INPUT: true; the input reads as it did. -/
def fnExactOtherPlacesSpec : ChangeSpec := { name := "fnExactOtherPlaces", fn := fun _ => fun
  | [d] => { results := [.lit (.bool true)], args := [d] }
  | _ => none }
def fnExactOtherPlacesRow : OpenClaim := { program := "yteognanhfpbghaa", sum := "6e68929773b7a334c46167a2951b10c03ccda6eef28a8480724eadd4caff6597", func := "loop.example/g02078/laws.FnExactOtherPlaces", spec := "fnExactOtherPlaces", unfollowed := true, recurses := true, apart := false }
def FnExactOtherPlacesSaid : Prop := fnExactOtherPlacesRow.holds Try.pinned (OpenSpec.ofChange fnExactOtherPlacesSpec)

/-- ITS FALSE NEIGHBOUR: 'it returns false'. Refute it at one input. -/
def fnExactOtherPlacesWrong : ChangeSpec := { name := "fnExactOtherPlaces", fn := fun _ => fun
  | [d] => { results := [.lit (.bool false)], args := [d] }
  | _ => none }
def FnExactOtherPlacesWrongFalsely : Prop := fnExactOtherPlacesRow.holds Try.pinned (OpenSpec.ofChange fnExactOtherPlacesWrong)

/-- 'laws.FnExactPinnedRank': WHATEVER THE INPUT: true; the input reads as it did. -/
def fnExactPinnedRankSpec : ChangeSpec := { name := "fnExactPinnedRank", fn := fun _ => fun
  | [d] => { results := [.lit (.bool true)], args := [d] }
  | _ => none }
def fnExactPinnedRankRow : OpenClaim := { program := "yteognanhfpbghaa", sum := "6e68929773b7a334c46167a2951b10c03ccda6eef28a8480724eadd4caff6597", func := "loop.example/g02078/laws.FnExactPinnedRank", spec := "fnExactPinnedRank", apart := false }
def FnExactPinnedRankSaid : Prop := fnExactPinnedRankRow.holds Try.pinned (OpenSpec.ofChange fnExactPinnedRankSpec)

/-- ITS FALSE NEIGHBOUR: 'it returns false'. Refute it at one input. -/
def fnExactPinnedRankWrong : ChangeSpec := { name := "fnExactPinnedRank", fn := fun _ => fun
  | [d] => { results := [.lit (.bool false)], args := [d] }
  | _ => none }
def FnExactPinnedRankWrongFalsely : Prop := fnExactPinnedRankRow.holds Try.pinned (OpenSpec.ofChange fnExactPinnedRankWrong)

/-- 'laws.FnPlaces': WHATEVER THE INPUT: true; the input reads as it did. -/
def fnPlacesSpec : ChangeSpec := { name := "fnPlaces", fn := fun _ => fun
  | [d] => { results := [.lit (.bool true)], args := [d] }
  | _ => none }
def fnPlacesRow : OpenClaim := { program := "yteognanhfpbghaa", sum := "6e68929773b7a334c46167a2951b10c03ccda6eef28a8480724eadd4caff6597", func := "loop.example/g02078/laws.FnPlaces", spec := "fnPlaces", unfollowed := true, recurses := true, apart := false }
def FnPlacesSaid : Prop := fnPlacesRow.holds Try.pinned (OpenSpec.ofChange fnPlacesSpec)

/-- ITS FALSE NEIGHBOUR: 'it returns false'. Refute it at one input. -/
def fnPlacesWrong : ChangeSpec := { name := "fnPlaces", fn := fun _ => fun
  | [d] => { results := [.lit (.bool false)], args := [d] }
  | _ => none }
def FnPlacesWrongFalsely : Prop := fnPlacesRow.holds Try.pinned (OpenSpec.ofChange fnPlacesWrong)

/-- 'laws.FnExactRingOf': WHATEVER THE INPUT: true; the input reads as it did. -/
def fnExactRingOfSpec : ChangeSpec := { name := "fnExactRingOf", fn := fun _ => fun
  | [d] => { results := [.lit (.bool true)], args := [d] }
  | _ => none }
def fnExactRingOfRow : OpenClaim := { program := "yteognanhfpbghaa", sum := "6e68929773b7a334c46167a2951b10c03ccda6eef28a8480724eadd4caff6597", func := "loop.example/g02078/laws.FnExactRingOf", spec := "fnExactRingOf", unfollowed := true, recurses := true, apart := false }
def FnExactRingOfSaid : Prop := fnExactRingOfRow.holds Try.pinned (OpenSpec.ofChange fnExactRingOfSpec)

/-- ITS FALSE NEIGHBOUR: 'it returns false'. Refute it at one input. -/
def fnExactRingOfWrong : ChangeSpec := { name := "fnExactRingOf", fn := fun _ => fun
  | [d] => { results := [.lit (.bool false)], args := [d] }
  | _ => none }
def FnExactRingOfWrongFalsely : Prop := fnExactRingOfRow.holds Try.pinned (OpenSpec.ofChange fnExactRingOfWrong)

/-- 'laws.FnExactPinnedFreedom': WHATEVER THE INPUT: true; the input reads as it did. -/
def fnExactPinnedFreedomSpec : ChangeSpec := { name := "fnExactPinnedFreedom", fn := fun _ => fun
  | [d] => { results := [.lit (.bool true)], args := [d] }
  | _ => none }
def fnExactPinnedFreedomRow : OpenClaim := { program := "yteognanhfpbghaa", sum := "6e68929773b7a334c46167a2951b10c03ccda6eef28a8480724eadd4caff6597", func := "loop.example/g02078/laws.FnExactPinnedFreedom", spec := "fnExactPinnedFreedom", apart := false }
def FnExactPinnedFreedomSaid : Prop := fnExactPinnedFreedomRow.holds Try.pinned (OpenSpec.ofChange fnExactPinnedFreedomSpec)

/-- ITS FALSE NEIGHBOUR: 'it returns false'. Refute it at one input. -/
def fnExactPinnedFreedomWrong : ChangeSpec := { name := "fnExactPinnedFreedom", fn := fun _ => fun
  | [d] => { results := [.lit (.bool false)], args := [d] }
  | _ => none }
def FnExactPinnedFreedomWrongFalsely : Prop := fnExactPinnedFreedomRow.holds Try.pinned (OpenSpec.ofChange fnExactPinnedFreedomWrong)

/-- 'laws.FnExactIsPinnedRigid': WHATEVER THE INPUT: true; the input reads as it did. -/
def fnExactIsPinnedRigidSpec : ChangeSpec := { name := "fnExactIsPinnedRigid", fn := fun _ => fun
  | [d] => { results := [.lit (.bool true)], args := [d] }
  | _ => none }
def fnExactIsPinnedRigidRow : OpenClaim := { program := "yteognanhfpbghaa", sum := "6e68929773b7a334c46167a2951b10c03ccda6eef28a8480724eadd4caff6597", func := "loop.example/g02078/laws.FnExactIsPinnedRigid", spec := "fnExactIsPinnedRigid", apart := false }
def FnExactIsPinnedRigidSaid : Prop := fnExactIsPinnedRigidRow.holds Try.pinned (OpenSpec.ofChange fnExactIsPinnedRigidSpec)

/-- ITS FALSE NEIGHBOUR: 'it returns false'. Refute it at one input. -/
def fnExactIsPinnedRigidWrong : ChangeSpec := { name := "fnExactIsPinnedRigid", fn := fun _ => fun
  | [d] => { results := [.lit (.bool false)], args := [d] }
  | _ => none }
def FnExactIsPinnedRigidWrongFalsely : Prop := fnExactIsPinnedRigidRow.holds Try.pinned (OpenSpec.ofChange fnExactIsPinnedRigidWrong)

/-- 'laws.FnExactBodyTrees': WHATEVER THE INPUT: true; the input reads as it did. -/
def fnExactBodyTreesSpec : ChangeSpec := { name := "fnExactBodyTrees", fn := fun _ => fun
  | [d] => { results := [.lit (.bool true)], args := [d] }
  | _ => none }
def fnExactBodyTreesRow : OpenClaim := { program := "yteognanhfpbghaa", sum := "6e68929773b7a334c46167a2951b10c03ccda6eef28a8480724eadd4caff6597", func := "loop.example/g02078/laws.FnExactBodyTrees", spec := "fnExactBodyTrees", unfollowed := true, recurses := true, apart := false }
def FnExactBodyTreesSaid : Prop := fnExactBodyTreesRow.holds Try.pinned (OpenSpec.ofChange fnExactBodyTreesSpec)

/-- ITS FALSE NEIGHBOUR: 'it returns false'. Refute it at one input. -/
def fnExactBodyTreesWrong : ChangeSpec := { name := "fnExactBodyTrees", fn := fun _ => fun
  | [d] => { results := [.lit (.bool false)], args := [d] }
  | _ => none }
def FnExactBodyTreesWrongFalsely : Prop := fnExactBodyTreesRow.holds Try.pinned (OpenSpec.ofChange fnExactBodyTreesWrong)

/-- 'laws.FnConnected': WHATEVER THE INPUT: true; the input reads as it did. -/
def fnConnectedSpec : ChangeSpec := { name := "fnConnected", fn := fun _ => fun
  | [d] => { results := [.lit (.bool true)], args := [d] }
  | _ => none }
def fnConnectedRow : OpenClaim := { program := "yteognanhfpbghaa", sum := "6e68929773b7a334c46167a2951b10c03ccda6eef28a8480724eadd4caff6597", func := "loop.example/g02078/laws.FnConnected", spec := "fnConnected", apart := false }
def FnConnectedSaid : Prop := fnConnectedRow.holds Try.pinned (OpenSpec.ofChange fnConnectedSpec)

/-- ITS FALSE NEIGHBOUR: 'it returns false'. Refute it at one input. -/
def fnConnectedWrong : ChangeSpec := { name := "fnConnected", fn := fun _ => fun
  | [d] => { results := [.lit (.bool false)], args := [d] }
  | _ => none }
def FnConnectedWrongFalsely : Prop := fnConnectedRow.holds Try.pinned (OpenSpec.ofChange fnConnectedWrong)

/-- 'laws.FnExactFewestAdded': WHATEVER THE INPUT: true; the input reads as it did. -/
def fnExactFewestAddedSpec : ChangeSpec := { name := "fnExactFewestAdded", fn := fun _ => fun
  | [d] => { results := [.lit (.bool true)], args := [d] }
  | _ => none }
def fnExactFewestAddedRow : OpenClaim := { program := "yteognanhfpbghaa", sum := "6e68929773b7a334c46167a2951b10c03ccda6eef28a8480724eadd4caff6597", func := "loop.example/g02078/laws.FnExactFewestAdded", spec := "fnExactFewestAdded", unfollowed := true, recurses := true, apart := false }
def FnExactFewestAddedSaid : Prop := fnExactFewestAddedRow.holds Try.pinned (OpenSpec.ofChange fnExactFewestAddedSpec)

/-- ITS FALSE NEIGHBOUR: 'it returns false'. Refute it at one input. -/
def fnExactFewestAddedWrong : ChangeSpec := { name := "fnExactFewestAdded", fn := fun _ => fun
  | [d] => { results := [.lit (.bool false)], args := [d] }
  | _ => none }
def FnExactFewestAddedWrongFalsely : Prop := fnExactFewestAddedRow.holds Try.pinned (OpenSpec.ofChange fnExactFewestAddedWrong)

/- THE SECOND FORM. 'bulk': how many values and letters a reading holds, each counted each time it is reached (what is shared counts as often as it is met; a slice's spare places count too). A statement '..UptoSaid' is the law's where the arguments, and the package variables that the reading takes, are together of bulk at most 1048576: NARROWER than '..Said'. Prove '..Said' where nothing that the law and all that it calls make is longer than what came in: it says more and counts as full. Else prove '..UptoSaid'. A law counts once. -/
mutual
def uptoBulk {H : Type} : DataW H → Nat
  | .lit (.string bytes) => bytes.length + 1
  | .lit _ => 1
  | .nil => 1
  | .ptr d => uptoBulk d + 1
  | .slice elems spare => uptoBulkAll elems + uptoBulkAll spare + 1
  | .agg parts => uptoBulkAll parts + 1
  | .iface _ d => uptoBulk d + 1
  | .map entries => uptoBulkEntries entries + 1
  | .held _ => 1
def uptoBulkAll {H : Type} : List (DataW H) → Nat
  | [] => 0
  | d :: r => uptoBulk d + uptoBulkAll r
def uptoBulkEntries {H : Type} : List (Lit × DataW H) → Nat
  | [] => 0
  | x :: r => uptoBulkEntry x + uptoBulkEntries r
def uptoBulkEntry {H : Type} : Lit × DataW H → Nat
  | (.string bytes, d) => bytes.length + uptoBulk d + 1
  | (_, d) => uptoBulk d + 1
 end
def uptoSmall : (H : Type) → List (DataW H) → Bool := fun _ ds => decide (uptoBulkAll ds ≤ 1048576)
def OpenSpec.upto (s : _root_.Go.ChangeSpec) : _root_.Go.OpenSpec := { _root_.Go.OpenSpec.ofChange s with cond := some uptoSmall }

/-- 'laws.FnExactHasTwin', WHERE WHAT IT READS IS OF BULK AT MOST 1048576: true; the input reads as it did. -/
def fnExactHasTwinUptoRow : OpenClaim := { program := "yteognanhfpbghaa", sum := "6e68929773b7a334c46167a2951b10c03ccda6eef28a8480724eadd4caff6597", func := "loop.example/g02078/laws.FnExactHasTwin", spec := "fnExactHasTwin", unfollowed := true, recurses := true, apart := false, narrowed := true }
def FnExactHasTwinUptoSaid : Prop := fnExactHasTwinUptoRow.holds Try.pinned (OpenSpec.upto fnExactHasTwinSpec)

/-- 'laws.FnExactOtherPlaces', WHERE WHAT IT READS IS OF BULK AT MOST 1048576: true; the input reads as it did. -/
def fnExactOtherPlacesUptoRow : OpenClaim := { program := "yteognanhfpbghaa", sum := "6e68929773b7a334c46167a2951b10c03ccda6eef28a8480724eadd4caff6597", func := "loop.example/g02078/laws.FnExactOtherPlaces", spec := "fnExactOtherPlaces", unfollowed := true, recurses := true, apart := false, narrowed := true }
def FnExactOtherPlacesUptoSaid : Prop := fnExactOtherPlacesUptoRow.holds Try.pinned (OpenSpec.upto fnExactOtherPlacesSpec)

/-- 'laws.FnExactPinnedRank', WHERE WHAT IT READS IS OF BULK AT MOST 1048576: true; the input reads as it did. -/
def fnExactPinnedRankUptoRow : OpenClaim := { program := "yteognanhfpbghaa", sum := "6e68929773b7a334c46167a2951b10c03ccda6eef28a8480724eadd4caff6597", func := "loop.example/g02078/laws.FnExactPinnedRank", spec := "fnExactPinnedRank", apart := false, narrowed := true }
def FnExactPinnedRankUptoSaid : Prop := fnExactPinnedRankUptoRow.holds Try.pinned (OpenSpec.upto fnExactPinnedRankSpec)

/-- 'laws.FnPlaces', WHERE WHAT IT READS IS OF BULK AT MOST 1048576: true; the input reads as it did. -/
def fnPlacesUptoRow : OpenClaim := { program := "yteognanhfpbghaa", sum := "6e68929773b7a334c46167a2951b10c03ccda6eef28a8480724eadd4caff6597", func := "loop.example/g02078/laws.FnPlaces", spec := "fnPlaces", unfollowed := true, recurses := true, apart := false, narrowed := true }
def FnPlacesUptoSaid : Prop := fnPlacesUptoRow.holds Try.pinned (OpenSpec.upto fnPlacesSpec)

/-- 'laws.FnExactRingOf', WHERE WHAT IT READS IS OF BULK AT MOST 1048576: true; the input reads as it did. -/
def fnExactRingOfUptoRow : OpenClaim := { program := "yteognanhfpbghaa", sum := "6e68929773b7a334c46167a2951b10c03ccda6eef28a8480724eadd4caff6597", func := "loop.example/g02078/laws.FnExactRingOf", spec := "fnExactRingOf", unfollowed := true, recurses := true, apart := false, narrowed := true }
def FnExactRingOfUptoSaid : Prop := fnExactRingOfUptoRow.holds Try.pinned (OpenSpec.upto fnExactRingOfSpec)

/-- 'laws.FnExactPinnedFreedom', WHERE WHAT IT READS IS OF BULK AT MOST 1048576: true; the input reads as it did. -/
def fnExactPinnedFreedomUptoRow : OpenClaim := { program := "yteognanhfpbghaa", sum := "6e68929773b7a334c46167a2951b10c03ccda6eef28a8480724eadd4caff6597", func := "loop.example/g02078/laws.FnExactPinnedFreedom", spec := "fnExactPinnedFreedom", apart := false, narrowed := true }
def FnExactPinnedFreedomUptoSaid : Prop := fnExactPinnedFreedomUptoRow.holds Try.pinned (OpenSpec.upto fnExactPinnedFreedomSpec)

/-- 'laws.FnExactIsPinnedRigid', WHERE WHAT IT READS IS OF BULK AT MOST 1048576: true; the input reads as it did. -/
def fnExactIsPinnedRigidUptoRow : OpenClaim := { program := "yteognanhfpbghaa", sum := "6e68929773b7a334c46167a2951b10c03ccda6eef28a8480724eadd4caff6597", func := "loop.example/g02078/laws.FnExactIsPinnedRigid", spec := "fnExactIsPinnedRigid", apart := false, narrowed := true }
def FnExactIsPinnedRigidUptoSaid : Prop := fnExactIsPinnedRigidUptoRow.holds Try.pinned (OpenSpec.upto fnExactIsPinnedRigidSpec)

/-- 'laws.FnExactBodyTrees', WHERE WHAT IT READS IS OF BULK AT MOST 1048576: true; the input reads as it did. -/
def fnExactBodyTreesUptoRow : OpenClaim := { program := "yteognanhfpbghaa", sum := "6e68929773b7a334c46167a2951b10c03ccda6eef28a8480724eadd4caff6597", func := "loop.example/g02078/laws.FnExactBodyTrees", spec := "fnExactBodyTrees", unfollowed := true, recurses := true, apart := false, narrowed := true }
def FnExactBodyTreesUptoSaid : Prop := fnExactBodyTreesUptoRow.holds Try.pinned (OpenSpec.upto fnExactBodyTreesSpec)

/-- 'laws.FnConnected', WHERE WHAT IT READS IS OF BULK AT MOST 1048576: true; the input reads as it did. -/
def fnConnectedUptoRow : OpenClaim := { program := "yteognanhfpbghaa", sum := "6e68929773b7a334c46167a2951b10c03ccda6eef28a8480724eadd4caff6597", func := "loop.example/g02078/laws.FnConnected", spec := "fnConnected", apart := false, narrowed := true }
def FnConnectedUptoSaid : Prop := fnConnectedUptoRow.holds Try.pinned (OpenSpec.upto fnConnectedSpec)

/-- 'laws.FnExactFewestAdded', WHERE WHAT IT READS IS OF BULK AT MOST 1048576: true; the input reads as it did. -/
def fnExactFewestAddedUptoRow : OpenClaim := { program := "yteognanhfpbghaa", sum := "6e68929773b7a334c46167a2951b10c03ccda6eef28a8480724eadd4caff6597", func := "loop.example/g02078/laws.FnExactFewestAdded", spec := "fnExactFewestAdded", unfollowed := true, recurses := true, apart := false, narrowed := true }
def FnExactFewestAddedUptoSaid : Prop := fnExactFewestAddedUptoRow.holds Try.pinned (OpenSpec.upto fnExactFewestAddedSpec)

end Rows
end Go.Proofs.Yteognanhfpbghaa
