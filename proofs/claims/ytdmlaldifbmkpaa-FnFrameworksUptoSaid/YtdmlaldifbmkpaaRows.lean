/-
  No cell of these rows narrows 'for every input' (looked for: loops, veiled, ifaces, maps, wideKeys, modest, calm, conditions, laid).
  DERIVED. THE GIVEN ROWS OF THIS SEAT. 4 by the template 'for every input the law returns true; each argument reads behind the call as it read before'; 0 by the template 'total and deterministic' (their statements: YtdmlaldifbmkpaaTotals.lean).
  GIVEN WITH THE SEED: the statements are not yours to turn. If you find one false, say at which input.
  Laid BY PROGRAM, IN A SANDBOX (cutbox-rows.mjs): the forced cells as the released guide's own fill.sh prints them over the translation 4425b5b70427ca0a… (all of the seat's roots in one cut). By AI agents, Wed Nov 11 2026. No macro, syntax, notation, axiom, sorry.
-/
import Derived.Test.YtdmlaldifbmkpaaChecked
import GoSem.Claim
import GoSem.ClaimJoined
import GoSem.ClaimMapViews
import Derived.JoinedTies
import Derived.KernelRfl
namespace Go.Proofs.Ytdmlaldifbmkpaa
/- THE CELL 'sum', in the pinned program and in every row, IS THE sha256 OF THE DUMP (.gsa) THAT YtdmlaldifbmkpaaProg.lean LOADS. Nothing in Lean hashes anything: it is a label: what it is worth is what the hold of that sum in a sandbox is worth. -/
noncomputable def Try.pinned : Pinned := { name := "ytdmlaldifbmkpaa", sum := "4425b5b70427ca0a1146ee4ecd3420ff8d290051aaa2d59fbe52805079ab70a0", checked := Try.checked }
namespace Rows
def none {H : Type} : Left H := { results := [], args := [] }

/-- 'laws.FnStresses': WHATEVER THE INPUT: true; the input reads as it did. -/
def fnStressesSpec : ChangeSpec := { name := "fnStresses", fn := fun _ => fun
  | [d] => { results := [.lit (.bool true)], args := [d] }
  | _ => none }
def fnStressesRow : OpenClaim := { program := "ytdmlaldifbmkpaa", sum := "4425b5b70427ca0a1146ee4ecd3420ff8d290051aaa2d59fbe52805079ab70a0", func := "loop.example/g02078/laws.FnStresses", spec := "fnStresses", apart := false }
def FnStressesSaid : Prop := fnStressesRow.holds Try.pinned (OpenSpec.ofChange fnStressesSpec)

/-- ITS FALSE NEIGHBOUR: 'it returns false'. Refute it at one input. -/
def fnStressesWrong : ChangeSpec := { name := "fnStresses", fn := fun _ => fun
  | [d] => { results := [.lit (.bool false)], args := [d] }
  | _ => none }
def FnStressesWrongFalsely : Prop := fnStressesRow.holds Try.pinned (OpenSpec.ofChange fnStressesWrong)

/-- 'laws.FnExactOtherPlaces': WHATEVER THE INPUT: true; the input reads as it did. -/
def fnExactOtherPlacesSpec : ChangeSpec := { name := "fnExactOtherPlaces", fn := fun _ => fun
  | [d] => { results := [.lit (.bool true)], args := [d] }
  | _ => none }
def fnExactOtherPlacesRow : OpenClaim := { program := "ytdmlaldifbmkpaa", sum := "4425b5b70427ca0a1146ee4ecd3420ff8d290051aaa2d59fbe52805079ab70a0", func := "loop.example/g02078/laws.FnExactOtherPlaces", spec := "fnExactOtherPlaces", unfollowed := true, recurses := true, apart := false }
def FnExactOtherPlacesSaid : Prop := fnExactOtherPlacesRow.holds Try.pinned (OpenSpec.ofChange fnExactOtherPlacesSpec)

/-- ITS FALSE NEIGHBOUR: 'it returns false'. Refute it at one input. -/
def fnExactOtherPlacesWrong : ChangeSpec := { name := "fnExactOtherPlaces", fn := fun _ => fun
  | [d] => { results := [.lit (.bool false)], args := [d] }
  | _ => none }
def FnExactOtherPlacesWrongFalsely : Prop := fnExactOtherPlacesRow.holds Try.pinned (OpenSpec.ofChange fnExactOtherPlacesWrong)

/-- 'laws.FnExactFewestAdded': WHATEVER THE INPUT: true; the input reads as it did. -/
def fnExactFewestAddedSpec : ChangeSpec := { name := "fnExactFewestAdded", fn := fun _ => fun
  | [d] => { results := [.lit (.bool true)], args := [d] }
  | _ => none }
def fnExactFewestAddedRow : OpenClaim := { program := "ytdmlaldifbmkpaa", sum := "4425b5b70427ca0a1146ee4ecd3420ff8d290051aaa2d59fbe52805079ab70a0", func := "loop.example/g02078/laws.FnExactFewestAdded", spec := "fnExactFewestAdded", unfollowed := true, recurses := true, apart := false }
def FnExactFewestAddedSaid : Prop := fnExactFewestAddedRow.holds Try.pinned (OpenSpec.ofChange fnExactFewestAddedSpec)

/-- ITS FALSE NEIGHBOUR: 'it returns false'. Refute it at one input. -/
def fnExactFewestAddedWrong : ChangeSpec := { name := "fnExactFewestAdded", fn := fun _ => fun
  | [d] => { results := [.lit (.bool false)], args := [d] }
  | _ => none }
def FnExactFewestAddedWrongFalsely : Prop := fnExactFewestAddedRow.holds Try.pinned (OpenSpec.ofChange fnExactFewestAddedWrong)

/-- 'laws.FnFrameworks': WHATEVER THE INPUT: true; the input reads as it did. -/
def fnFrameworksSpec : ChangeSpec := { name := "fnFrameworks", fn := fun _ => fun
  | [d] => { results := [.lit (.bool true)], args := [d] }
  | _ => none }
def fnFrameworksRow : OpenClaim := { program := "ytdmlaldifbmkpaa", sum := "4425b5b70427ca0a1146ee4ecd3420ff8d290051aaa2d59fbe52805079ab70a0", func := "loop.example/g02078/laws.FnFrameworks", spec := "fnFrameworks", unfollowed := true, recurses := true, apart := false }
def FnFrameworksSaid : Prop := fnFrameworksRow.holds Try.pinned (OpenSpec.ofChange fnFrameworksSpec)

/-- ITS FALSE NEIGHBOUR: 'it returns false'. Refute it at one input. -/
def fnFrameworksWrong : ChangeSpec := { name := "fnFrameworks", fn := fun _ => fun
  | [d] => { results := [.lit (.bool false)], args := [d] }
  | _ => none }
def FnFrameworksWrongFalsely : Prop := fnFrameworksRow.holds Try.pinned (OpenSpec.ofChange fnFrameworksWrong)

/- THE SECOND FORM. 'bulk': how many values and letters a reading holds, each counted each time it is reached (what is shared counts as often as it is met; a slice's spare places count too). A statement '..UptoSaid' is the law's where the arguments, and the package variables that the reading takes, are together of bulk at most 1048576: NARROWER than '..Said'. Prove '..Said' where nothing that the law and all that it calls make is longer than what came in: it says more and counts as full. Else prove '..UptoSaid'. A law counts once. -/
mutual
def uptoBulk {H : Type} : DataW H → Nat
  | .lit (.string bytes) => bytes.length + 1
  | .lit _ => 1
  | .nil => 1
  | .ptr d => uptoBulk d + 1
  | .slice elems spare => uptoBulkAll elems + uptoBulkAll spare + 1
  | .agg parts => uptoBulkAll parts + 1
  | .iface _ d => uptoBulk d + 1
  | .map entries => uptoBulkEntries entries + 1
  | .held _ => 1
def uptoBulkAll {H : Type} : List (DataW H) → Nat
  | [] => 0
  | d :: r => uptoBulk d + uptoBulkAll r
def uptoBulkEntries {H : Type} : List (Lit × DataW H) → Nat
  | [] => 0
  | x :: r => uptoBulkEntry x + uptoBulkEntries r
def uptoBulkEntry {H : Type} : Lit × DataW H → Nat
  | (.string bytes, d) => bytes.length + uptoBulk d + 1
  | (_, d) => uptoBulk d + 1
 end
def uptoSmall : (H : Type) → List (DataW H) → Bool := fun _ ds => decide (uptoBulkAll ds ≤ 1048576)
def OpenSpec.upto (s : _root_.Go.ChangeSpec) : _root_.Go.OpenSpec := { _root_.Go.OpenSpec.ofChange s with cond := some uptoSmall }

/-- 'laws.FnStresses', WHERE WHAT IT READS IS OF BULK AT MOST 1048576: true; the input reads as it did. -/
def fnStressesUptoRow : OpenClaim := { program := "ytdmlaldifbmkpaa", sum := "4425b5b70427ca0a1146ee4ecd3420ff8d290051aaa2d59fbe52805079ab70a0", func := "loop.example/g02078/laws.FnStresses", spec := "fnStresses", apart := false, narrowed := true }
def FnStressesUptoSaid : Prop := fnStressesUptoRow.holds Try.pinned (OpenSpec.upto fnStressesSpec)

/-- 'laws.FnExactOtherPlaces', WHERE WHAT IT READS IS OF BULK AT MOST 1048576: true; the input reads as it did. -/
def fnExactOtherPlacesUptoRow : OpenClaim := { program := "ytdmlaldifbmkpaa", sum := "4425b5b70427ca0a1146ee4ecd3420ff8d290051aaa2d59fbe52805079ab70a0", func := "loop.example/g02078/laws.FnExactOtherPlaces", spec := "fnExactOtherPlaces", unfollowed := true, recurses := true, apart := false, narrowed := true }
def FnExactOtherPlacesUptoSaid : Prop := fnExactOtherPlacesUptoRow.holds Try.pinned (OpenSpec.upto fnExactOtherPlacesSpec)

/-- 'laws.FnExactFewestAdded', WHERE WHAT IT READS IS OF BULK AT MOST 1048576: true; the input reads as it did. -/
def fnExactFewestAddedUptoRow : OpenClaim := { program := "ytdmlaldifbmkpaa", sum := "4425b5b70427ca0a1146ee4ecd3420ff8d290051aaa2d59fbe52805079ab70a0", func := "loop.example/g02078/laws.FnExactFewestAdded", spec := "fnExactFewestAdded", unfollowed := true, recurses := true, apart := false, narrowed := true }
def FnExactFewestAddedUptoSaid : Prop := fnExactFewestAddedUptoRow.holds Try.pinned (OpenSpec.upto fnExactFewestAddedSpec)

/-- 'laws.FnFrameworks', WHERE WHAT IT READS IS OF BULK AT MOST 1048576: true; the input reads as it did. -/
def fnFrameworksUptoRow : OpenClaim := { program := "ytdmlaldifbmkpaa", sum := "4425b5b70427ca0a1146ee4ecd3420ff8d290051aaa2d59fbe52805079ab70a0", func := "loop.example/g02078/laws.FnFrameworks", spec := "fnFrameworks", unfollowed := true, recurses := true, apart := false, narrowed := true }
def FnFrameworksUptoSaid : Prop := fnFrameworksUptoRow.holds Try.pinned (OpenSpec.upto fnFrameworksSpec)

end Rows
end Go.Proofs.Ytdmlaldifbmkpaa
