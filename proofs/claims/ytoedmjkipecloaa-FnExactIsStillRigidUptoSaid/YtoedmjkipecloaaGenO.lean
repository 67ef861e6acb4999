/- Arguments of the laws read as typed data. Written by a program of mine. -/
import Derived.Test.YtoedmjkipecloaaFw13
import Derived.Test.YtoedmjkipecloaaGenT
set_option linter.unusedVariables false
set_option linter.unusedSimpArgs false
set_option linter.unnecessarySimpa false
open Go Go.Fw
namespace Go.Proofs.Ytoedmjkipecloaa
theorem oC102 : Try.prog.cellsOf 102 = 2 := by kernel_rfl
theorem oC22 : Try.prog.cellsOf 22 = 1 := by kernel_rfl
theorem oC24 : Try.prog.cellsOf 24 = 2 := by kernel_rfl
theorem oC25 : Try.prog.cellsOf 25 = 1 := by kernel_rfl
theorem oC27 : Try.prog.cellsOf 27 = 3 := by kernel_rfl
theorem oC28 : Try.prog.cellsOf 28 = 1 := by kernel_rfl
theorem oC3 : Try.prog.cellsOf 3 = 1 := by kernel_rfl
theorem oC30 : Try.prog.cellsOf 30 = 4 := by kernel_rfl
theorem oC97 : Try.prog.cellsOf 97 = 2 := by kernel_rfl
theorem oS102 : st2 Try.prog 102 = some (3, 0, 3, 1) := by kernel_rfl
theorem oS24 : st2 Try.prog 24 = some (3, 0, 22, 1) := by kernel_rfl
theorem oS27 : st2 Try.prog 27 = some (24, 0, 25, 2) := by kernel_rfl
theorem oS30 : st2 Try.prog 30 = some (27, 0, 28, 3) := by kernel_rfl
theorem oS97 : st2 Try.prog 97 = some (3, 0, 3, 1) := by kernel_rfl
theorem oU22 : Try.prog.underlying 22 = some (.slice 97) := by kernel_rfl
theorem oU25 : Try.prog.underlying 25 = some (.slice 102) := by kernel_rfl
theorem oU28 : Try.prog.underlying 28 = some (.slice 3) := by kernel_rfl
theorem oU3 : Try.prog.underlying 3 = some (.int .i64) := by kernel_rfl
theorem oX24 : Try.prog.underlying 24 = some (.struct (Try.prog.fieldsOf 24)) := by kernel_rfl
theorem oX30 : Try.prog.underlying 30 = some (.struct (Try.prog.fieldsOf 30)) := by kernel_rfl
def e_TBar (a : TBar) : List PV := [.sc (.int .i64 a.A), .sc (.int .i64 a.B)]
def wt_TBar (a : TBar) : Nat := wtI a.A + wtI a.B
def ok_TBar (a : TBar) : Prop := okI a.A ∧ okI a.B
theorem opn_97 : Opn Try.prog 97 2 e_TBar wt_TBar ok_TBar := Opn.struct2 (enc1 := (fun n : Int => [.sc (.int .i64 n)])) (enc2 := (fun n : Int => [.sc (.int .i64 n)])) TBar.mk oS97 oC97 oC3 oC3 (Opn.int oU3) (Opn.int oU3) (fun _ _ => rfl) (fun _ _ => rfl) (fun _ _ h1 h2 => ⟨h1, h2⟩)
def e_TGraph (a : TGraph) : List PV := [.sc (.int .i64 a.Points), .xs false (a.Bars.map encTBar)]
def wt_TGraph (a : TGraph) : Nat := wtI a.Points + (wtL wt_TBar) a.Bars
def ok_TGraph (a : TGraph) : Prop := okI a.Points ∧ (okL ok_TBar) a.Bars
theorem opn_24 : Opn Try.prog 24 2 e_TGraph wt_TGraph ok_TGraph := Opn.struct2 (enc1 := (fun n : Int => [.sc (.int .i64 n)])) (enc2 := (fun xs => [.xs false (xs.map e_TBar)])) TGraph.mk oS24 oC24 oC3 oC22 (Opn.int oU3) (Opn.slice oU22 oC97 (by decide) opn_97) (fun _ _ => rfl) (fun _ _ => rfl) (fun _ _ h1 h2 => ⟨h1, h2⟩)
def e_TPlace (a : TPlace) : List PV := [.sc (.int .i64 a.X), .sc (.int .i64 a.Y)]
def wt_TPlace (a : TPlace) : Nat := wtI a.X + wtI a.Y
def ok_TPlace (a : TPlace) : Prop := okI a.X ∧ okI a.Y
theorem opn_102 : Opn Try.prog 102 2 e_TPlace wt_TPlace ok_TPlace := Opn.struct2 (enc1 := (fun n : Int => [.sc (.int .i64 n)])) (enc2 := (fun n : Int => [.sc (.int .i64 n)])) TPlace.mk oS102 oC102 oC3 oC3 (Opn.int oU3) (Opn.int oU3) (fun _ _ => rfl) (fun _ _ => rfl) (fun _ _ h1 h2 => ⟨h1, h2⟩)
def e_TFramework (a : TFramework) : List PV := [.sc (.int .i64 a.Graph.Points), .xs false (a.Graph.Bars.map encTBar), .xs false (a.Places.map encTPlace)]
def wt_TFramework (a : TFramework) : Nat := wt_TGraph a.Graph + (wtL wt_TPlace) a.Places
def ok_TFramework (a : TFramework) : Prop := ok_TGraph a.Graph ∧ (okL ok_TPlace) a.Places
theorem opn_27 : Opn Try.prog 27 3 e_TFramework wt_TFramework ok_TFramework := Opn.struct2 (enc1 := e_TGraph) (enc2 := (fun xs => [.xs false (xs.map e_TPlace)])) TFramework.mk oS27 oC27 oC24 oC25 opn_24 (Opn.slice oU25 oC102 (by decide) opn_102) (fun _ _ => rfl) (fun _ _ => rfl) (fun _ _ h1 h2 => ⟨h1, h2⟩)
def e_TTensegrity (a : TTensegrity) : List PV := [.sc (.int .i64 a.Framework.Graph.Points), .xs false (a.Framework.Graph.Bars.map encTBar), .xs false (a.Framework.Places.map encTPlace), .xs false (a.Kinds.map encInt)]
def wt_TTensegrity (a : TTensegrity) : Nat := wt_TFramework a.Framework + (wtL wtI) a.Kinds
def ok_TTensegrity (a : TTensegrity) : Prop := ok_TFramework a.Framework ∧ (okL okI) a.Kinds
theorem opn_30 : Opn Try.prog 30 4 e_TTensegrity wt_TTensegrity ok_TTensegrity := Opn.struct2 (enc1 := e_TFramework) (enc2 := (fun xs => [.xs false (xs.map (fun n : Int => [.sc (.int .i64 n)]))])) TTensegrity.mk oS30 oC30 oC27 oC28 opn_27 (Opn.slice oU28 oC3 (by decide) (Opn.int oU3)) (fun _ _ => rfl) (fun _ _ => rfl) (fun _ _ h1 h2 => ⟨h1, h2⟩)
end Go.Proofs.Ytoedmjkipecloaa
