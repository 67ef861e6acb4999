/-
  No cell of these rows narrows 'for every input' (looked for: loops, veiled, ifaces, maps, wideKeys, modest, calm, conditions, laid).
  DERIVED. THE GIVEN ROWS OF THIS SEAT. 7 by the template 'for every input the law returns true; each argument reads behind the call as it read before'; 0 by the template 'total and deterministic' (their statements: YtghofbijdnenoaaTotals.lean).
  GIVEN WITH THE SEED: the statements are not yours to turn. If you find one false, say at which input.
  Laid BY PROGRAM, IN A SANDBOX (cutbox-rows.mjs): the forced cells as the released guide's own fill.sh prints them over the translation 5eb6ea68b2ffb8fa… (all of the seat's roots in one cut). By AI agents, Wed Nov 11 2026. No macro, syntax, notation, axiom, sorry.
-/
import Derived.Test.YtghofbijdnenoaaChecked
import GoSem.Claim
import GoSem.ClaimJoined
import GoSem.ClaimMapViews
import Derived.JoinedTies
import Derived.KernelRfl
namespace Go.Proofs.Ytghofbijdnenoaa
/- THE CELL 'sum', in the pinned program and in every row, IS THE sha256 OF THE DUMP (.gsa) THAT YtghofbijdnenoaaProg.lean LOADS. Nothing in Lean hashes anything: it is a label: what it is worth is what the hold of that sum in a sandbox is worth. -/
noncomputable def Try.pinned : Pinned := { name := "ytghofbijdnenoaa", sum := "5eb6ea68b2ffb8fa83fe5d6f1984339c652228d4c835f528f36ba4ffdc75b41c", checked := Try.checked }
namespace Rows
def none {H : Type} : Left H := { results := [], args := [] }

/-- 'laws.FnStresses': WHATEVER THE INPUT: true; the input reads as it did. -/
def fnStressesSpec : ChangeSpec := { name := "fnStresses", fn := fun _ => fun
  | [d] => { results := [.lit (.bool true)], args := [d] }
  | _ => none }
def fnStressesRow : OpenClaim := { program := "ytghofbijdnenoaa", sum := "5eb6ea68b2ffb8fa83fe5d6f1984339c652228d4c835f528f36ba4ffdc75b41c", func := "loop.example/g02078/laws.FnStresses", spec := "fnStresses", apart := false }
def FnStressesSaid : Prop := fnStressesRow.holds Try.pinned (OpenSpec.ofChange fnStressesSpec)

/-- ITS FALSE NEIGHBOUR: 'it returns false'. Refute it at one input. -/
def fnStressesWrong : ChangeSpec := { name := "fnStresses", fn := fun _ => fun
  | [d] => { results := [.lit (.bool false)], args := [d] }
  | _ => none }
def FnStressesWrongFalsely : Prop := fnStressesRow.holds Try.pinned (OpenSpec.ofChange fnStressesWrong)

/-- 'laws.FnExactGenericPlaces': WHATEVER THE INPUT: true; the input reads as it did. -/
def fnExactGenericPlacesSpec : ChangeSpec := { name := "fnExactGenericPlaces", fn := fun _ => fun
  | [d1, d2] => { results := [.lit (.bool true)], args := [d1, d2] }
  | _ => none }
def fnExactGenericPlacesRow : OpenClaim := { program := "ytghofbijdnenoaa", sum := "5eb6ea68b2ffb8fa83fe5d6f1984339c652228d4c835f528f36ba4ffdc75b41c", func := "loop.example/g02078/laws.FnExactGenericPlaces", spec := "fnExactGenericPlaces", apart := false }
def FnExactGenericPlacesSaid : Prop := fnExactGenericPlacesRow.holds Try.pinned (OpenSpec.ofChange fnExactGenericPlacesSpec)

/-- ITS FALSE NEIGHBOUR: 'it returns false'. Refute it at one input. -/
def fnExactGenericPlacesWrong : ChangeSpec := { name := "fnExactGenericPlaces", fn := fun _ => fun
  | [d1, d2] => { results := [.lit (.bool false)], args := [d1, d2] }
  | _ => none }
def FnExactGenericPlacesWrongFalsely : Prop := fnExactGenericPlacesRow.holds Try.pinned (OpenSpec.ofChange fnExactGenericPlacesWrong)

/-- 'laws.FnRigidity': WHATEVER THE INPUT: true; the input reads as it did. -/
def fnRigiditySpec : ChangeSpec := { name := "fnRigidity", fn := fun _ => fun
  | [d] => { results := [.lit (.bool true)], args := [d] }
  | _ => none }
def fnRigidityRow : OpenClaim := { program := "ytghofbijdnenoaa", sum := "5eb6ea68b2ffb8fa83fe5d6f1984339c652228d4c835f528f36ba4ffdc75b41c", func := "loop.example/g02078/laws.FnRigidity", spec := "fnRigidity", apart := false }
def FnRigiditySaid : Prop := fnRigidityRow.holds Try.pinned (OpenSpec.ofChange fnRigiditySpec)

/-- ITS FALSE NEIGHBOUR: 'it returns false'. Refute it at one input. -/
def fnRigidityWrong : ChangeSpec := { name := "fnRigidity", fn := fun _ => fun
  | [d] => { results := [.lit (.bool false)], args := [d] }
  | _ => none }
def FnRigidityWrongFalsely : Prop := fnRigidityRow.holds Try.pinned (OpenSpec.ofChange fnRigidityWrong)

/-- 'laws.FnExactFindStrictStress': WHATEVER THE INPUT: true; the input reads as it did. -/
def fnExactFindStrictStressSpec : ChangeSpec := { name := "fnExactFindStrictStress", fn := fun _ => fun
  | [d] => { results := [.lit (.bool true)], args := [d] }
  | _ => none }
def fnExactFindStrictStressRow : OpenClaim := { program := "ytghofbijdnenoaa", sum := "5eb6ea68b2ffb8fa83fe5d6f1984339c652228d4c835f528f36ba4ffdc75b41c", func := "loop.example/g02078/laws.FnExactFindStrictStress", spec := "fnExactFindStrictStress", unfollowed := true, recurses := true, apart := false }
def FnExactFindStrictStressSaid : Prop := fnExactFindStrictStressRow.holds Try.pinned (OpenSpec.ofChange fnExactFindStrictStressSpec)

/-- ITS FALSE NEIGHBOUR: 'it returns false'. Refute it at one input. -/
def fnExactFindStrictStressWrong : ChangeSpec := { name := "fnExactFindStrictStress", fn := fun _ => fun
  | [d] => { results := [.lit (.bool false)], args := [d] }
  | _ => none }
def FnExactFindStrictStressWrongFalsely : Prop := fnExactFindStrictStressRow.holds Try.pinned (OpenSpec.ofChange fnExactFindStrictStressWrong)

/-- 'laws.FnExactSpecialStress': WHATEVER THE INPUT: true; the input reads as it did. -/
def fnExactSpecialStressSpec : ChangeSpec := { name := "fnExactSpecialStress", fn := fun _ => fun
  | [d] => { results := [.lit (.bool true)], args := [d] }
  | _ => none }
def fnExactSpecialStressRow : OpenClaim := { program := "ytghofbijdnenoaa", sum := "5eb6ea68b2ffb8fa83fe5d6f1984339c652228d4c835f528f36ba4ffdc75b41c", func := "loop.example/g02078/laws.FnExactSpecialStress", spec := "fnExactSpecialStress", apart := false }
def FnExactSpecialStressSaid : Prop := fnExactSpecialStressRow.holds Try.pinned (OpenSpec.ofChange fnExactSpecialStressSpec)

/-- ITS FALSE NEIGHBOUR: 'it returns false'. Refute it at one input. -/
def fnExactSpecialStressWrong : ChangeSpec := { name := "fnExactSpecialStress", fn := fun _ => fun
  | [d] => { results := [.lit (.bool false)], args := [d] }
  | _ => none }
def FnExactSpecialStressWrongFalsely : Prop := fnExactSpecialStressRow.holds Try.pinned (OpenSpec.ofChange fnExactSpecialStressWrong)

/-- 'laws.FnExactFindLooseMotion': WHATEVER THE INPUT: true; the input reads as it did. -/
def fnExactFindLooseMotionSpec : ChangeSpec := { name := "fnExactFindLooseMotion", fn := fun _ => fun
  | [d] => { results := [.lit (.bool true)], args := [d] }
  | _ => none }
def fnExactFindLooseMotionRow : OpenClaim := { program := "ytghofbijdnenoaa", sum := "5eb6ea68b2ffb8fa83fe5d6f1984339c652228d4c835f528f36ba4ffdc75b41c", func := "loop.example/g02078/laws.FnExactFindLooseMotion", spec := "fnExactFindLooseMotion", unfollowed := true, recurses := true, apart := false }
def FnExactFindLooseMotionSaid : Prop := fnExactFindLooseMotionRow.holds Try.pinned (OpenSpec.ofChange fnExactFindLooseMotionSpec)

/-- ITS FALSE NEIGHBOUR: 'it returns false'. Refute it at one input. -/
def fnExactFindLooseMotionWrong : ChangeSpec := { name := "fnExactFindLooseMotion", fn := fun _ => fun
  | [d] => { results := [.lit (.bool false)], args := [d] }
  | _ => none }
def FnExactFindLooseMotionWrongFalsely : Prop := fnExactFindLooseMotionRow.holds Try.pinned (OpenSpec.ofChange fnExactFindLooseMotionWrong)

/-- 'laws.FnFrameworks': WHATEVER THE INPUT: true; the input reads as it did. -/
def fnFrameworksSpec : ChangeSpec := { name := "fnFrameworks", fn := fun _ => fun
  | [d] => { results := [.lit (.bool true)], args := [d] }
  | _ => none }
def fnFrameworksRow : OpenClaim := { program := "ytghofbijdnenoaa", sum := "5eb6ea68b2ffb8fa83fe5d6f1984339c652228d4c835f528f36ba4ffdc75b41c", func := "loop.example/g02078/laws.FnFrameworks", spec := "fnFrameworks", unfollowed := true, recurses := true, apart := false }
def FnFrameworksSaid : Prop := fnFrameworksRow.holds Try.pinned (OpenSpec.ofChange fnFrameworksSpec)

/-- ITS FALSE NEIGHBOUR: 'it returns false'. Refute it at one input. -/
def fnFrameworksWrong : ChangeSpec := { name := "fnFrameworks", fn := fun _ => fun
  | [d] => { results := [.lit (.bool false)], args := [d] }
  | _ => none }
def FnFrameworksWrongFalsely : Prop := fnFrameworksRow.holds Try.pinned (OpenSpec.ofChange fnFrameworksWrong)

/- THE SECOND FORM. 'bulk': how many values and letters a reading holds, each counted each time it is reached (what is shared counts as often as it is met; a slice's spare places count too). A statement '..UptoSaid' is the law's where the arguments, and the package variables that the reading takes, are together of bulk at most 1048576: NARROWER than '..Said'. Prove '..Said' where nothing that the law and all that it calls make is longer than what came in: it says more and counts as full. Else prove '..UptoSaid'. A law counts once. -/
mutual
def uptoBulk {H : Type} : DataW H → Nat
  | .lit (.string bytes) => bytes.length + 1
  | .lit _ => 1
  | .nil => 1
  | .ptr d => uptoBulk d + 1
  | .slice elems spare => uptoBulkAll elems + uptoBulkAll spare + 1
  | .agg parts => uptoBulkAll parts + 1
  | .iface _ d => uptoBulk d + 1
  | .map entries => uptoBulkEntries entries + 1
  | .held _ => 1
def uptoBulkAll {H : Type} : List (DataW H) → Nat
  | [] => 0
  | d :: r => uptoBulk d + uptoBulkAll r
def uptoBulkEntries {H : Type} : List (Lit × DataW H) → Nat
  | [] => 0
  | x :: r => uptoBulkEntry x + uptoBulkEntries r
def uptoBulkEntry {H : Type} : Lit × DataW H → Nat
  | (.string bytes, d) => bytes.length + uptoBulk d + 1
  | (_, d) => uptoBulk d + 1
 end
def uptoSmall : (H : Type) → List (DataW H) → Bool := fun _ ds => decide (uptoBulkAll ds ≤ 1048576)
def OpenSpec.upto (s : _root_.Go.ChangeSpec) : _root_.Go.OpenSpec := { _root_.Go.OpenSpec.ofChange s with cond := some uptoSmall }

/-- 'laws.FnStresses', WHERE WHAT IT READS IS OF BULK AT MOST 1048576: true; the input reads as it did. -/
def fnStressesUptoRow : OpenClaim := { program := "ytghofbijdnenoaa", sum := "5eb6ea68b2ffb8fa83fe5d6f1984339c652228d4c835f528f36ba4ffdc75b41c", func := "loop.example/g02078/laws.FnStresses", spec := "fnStresses", apart := false, narrowed := true }
def FnStressesUptoSaid : Prop := fnStressesUptoRow.holds Try.pinned (OpenSpec.upto fnStressesSpec)

/-- 'laws.FnExactGenericPlaces', WHERE WHAT IT READS IS OF BULK AT MOST 1048576: true; the input reads as it did. -/
def fnExactGenericPlacesUptoRow : OpenClaim := { program := "ytghofbijdnenoaa", sum := "5eb6ea68b2ffb8fa83fe5d6f1984339c652228d4c835f528f36ba4ffdc75b41c", func := "loop.example/g02078/laws.FnExactGenericPlaces", spec := "fnExactGenericPlaces", apart := false, narrowed := true }
def FnExactGenericPlacesUptoSaid : Prop := fnExactGenericPlacesUptoRow.holds Try.pinned (OpenSpec.upto fnExactGenericPlacesSpec)

/-- 'laws.FnRigidity', WHERE WHAT IT READS IS OF BULK AT MOST 1048576: true; the input reads as it did. -/
def fnRigidityUptoRow : OpenClaim := { program := "ytghofbijdnenoaa", sum := "5eb6ea68b2ffb8fa83fe5d6f1984339c652228d4c835f528f36ba4ffdc75b41c", func := "loop.example/g02078/laws.FnRigidity", spec := "fnRigidity", apart := false, narrowed := true }
def FnRigidityUptoSaid : Prop := fnRigidityUptoRow.holds Try.pinned (OpenSpec.upto fnRigiditySpec)

/-- 'laws.FnExactFindStrictStress', WHERE WHAT IT READS IS OF BULK AT MOST 1048576: true; the input reads as it did. -/
def fnExactFindStrictStressUptoRow : OpenClaim := { program := "ytghofbijdnenoaa", sum := "5eb6ea68b2ffb8fa83fe5d6f1984339c652228d4c835f528f36ba4ffdc75b41c", func := "loop.example/g02078/laws.FnExactFindStrictStress", spec := "fnExactFindStrictStress", unfollowed := true, recurses := true, apart := false, narrowed := true }
def FnExactFindStrictStressUptoSaid : Prop := fnExactFindStrictStressUptoRow.holds Try.pinned (OpenSpec.upto fnExactFindStrictStressSpec)

/-- 'laws.FnExactSpecialStress', WHERE WHAT IT READS IS OF BULK AT MOST 1048576: true; the input reads as it did. -/
def fnExactSpecialStressUptoRow : OpenClaim := { program := "ytghofbijdnenoaa", sum := "5eb6ea68b2ffb8fa83fe5d6f1984339c652228d4c835f528f36ba4ffdc75b41c", func := "loop.example/g02078/laws.FnExactSpecialStress", spec := "fnExactSpecialStress", apart := false, narrowed := true }
def FnExactSpecialStressUptoSaid : Prop := fnExactSpecialStressUptoRow.holds Try.pinned (OpenSpec.upto fnExactSpecialStressSpec)

/-- 'laws.FnExactFindLooseMotion', WHERE WHAT IT READS IS OF BULK AT MOST 1048576: true; the input reads as it did. -/
def fnExactFindLooseMotionUptoRow : OpenClaim := { program := "ytghofbijdnenoaa", sum := "5eb6ea68b2ffb8fa83fe5d6f1984339c652228d4c835f528f36ba4ffdc75b41c", func := "loop.example/g02078/laws.FnExactFindLooseMotion", spec := "fnExactFindLooseMotion", unfollowed := true, recurses := true, apart := false, narrowed := true }
def FnExactFindLooseMotionUptoSaid : Prop := fnExactFindLooseMotionUptoRow.holds Try.pinned (OpenSpec.upto fnExactFindLooseMotionSpec)

/-- 'laws.FnFrameworks', WHERE WHAT IT READS IS OF BULK AT MOST 1048576: true; the input reads as it did. -/
def fnFrameworksUptoRow : OpenClaim := { program := "ytghofbijdnenoaa", sum := "5eb6ea68b2ffb8fa83fe5d6f1984339c652228d4c835f528f36ba4ffdc75b41c", func := "loop.example/g02078/laws.FnFrameworks", spec := "fnFrameworks", unfollowed := true, recurses := true, apart := false, narrowed := true }
def FnFrameworksUptoSaid : Prop := fnFrameworksUptoRow.holds Try.pinned (OpenSpec.upto fnFrameworksSpec)

end Rows
end Go.Proofs.Ytghofbijdnenoaa
