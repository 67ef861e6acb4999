/- Arguments of the laws read as typed data. Written by a program of mine. -/
import Derived.Test.YtihibpkbhjpajaaFw13
import Derived.Test.YtihibpkbhjpajaaGenT
set_option linter.unusedVariables false
set_option linter.unusedSimpArgs false
open Go Go.Fw
namespace Go.Proofs.Ytihibpkbhjpajaa
theorem oC105 : Try.prog.cellsOf 105 = 2 := by kernel_rfl
theorem oC108 : Try.prog.cellsOf 108 = 2 := by kernel_rfl
theorem oC24 : Try.prog.cellsOf 24 = 1 := by kernel_rfl
theorem oC26 : Try.prog.cellsOf 26 = 2 := by kernel_rfl
theorem oC3 : Try.prog.cellsOf 3 = 1 := by kernel_rfl
theorem oC40 : Try.prog.cellsOf 40 = 1 := by kernel_rfl
theorem oC47 : Try.prog.cellsOf 47 = 3 := by kernel_rfl
theorem oC55 : Try.prog.cellsOf 55 = 1 := by kernel_rfl
theorem oC57 : Try.prog.cellsOf 57 = 3 := by kernel_rfl
theorem oC66 : Try.prog.cellsOf 66 = 4 := by kernel_rfl
theorem oS105 : st2 Try.prog 105 = some (3, 0, 3, 1) := by kernel_rfl
theorem oS108 : st2 Try.prog 108 = some (3, 0, 3, 1) := by kernel_rfl
theorem oS26 : st2 Try.prog 26 = some (3, 0, 24, 1) := by kernel_rfl
theorem oS47 : st2 Try.prog 47 = some (26, 0, 40, 2) := by kernel_rfl
theorem oS57 : st2 Try.prog 57 = some (26, 0, 55, 2) := by kernel_rfl
theorem oS66 : st2 Try.prog 66 = some (57, 0, 40, 3) := by kernel_rfl
theorem oU24 : Try.prog.underlying 24 = some (.slice 105) := by kernel_rfl
theorem oU3 : Try.prog.underlying 3 = some (.int .i64) := by kernel_rfl
theorem oU40 : Try.prog.underlying 40 = some (.slice 3) := by kernel_rfl
theorem oU55 : Try.prog.underlying 55 = some (.slice 108) := by kernel_rfl
theorem oX26 : Try.prog.underlying 26 = some (.struct (Try.prog.fieldsOf 26)) := by kernel_rfl
theorem oX47 : Try.prog.underlying 47 = some (.struct (Try.prog.fieldsOf 47)) := by kernel_rfl
theorem oX57 : Try.prog.underlying 57 = some (.struct (Try.prog.fieldsOf 57)) := by kernel_rfl
theorem oX66 : Try.prog.underlying 66 = some (.struct (Try.prog.fieldsOf 66)) := by kernel_rfl
def e_TBar (a : TBar) : List PV := [.sc (.int .i64 a.A), .sc (.int .i64 a.B)]
def wt_TBar (a : TBar) : Nat := wtI a.A + wtI a.B
def ok_TBar (a : TBar) : Prop := okI a.A ∧ okI a.B
theorem opn_105 : Opn Try.prog 105 2 e_TBar wt_TBar ok_TBar := Opn.struct2 (enc1 := (fun n : Int => [.sc (.int .i64 n)])) (enc2 := (fun n : Int => [.sc (.int .i64 n)])) TBar.mk oS105 oC105 oC3 oC3 (Opn.int oU3) (Opn.int oU3) (fun _ _ => rfl) (fun _ _ => rfl) (fun _ _ h1 h2 => ⟨h1, h2⟩)
def e_TGraph (a : TGraph) : List PV := [.sc (.int .i64 a.Points), .xs false (a.Bars.map encTBar)]
def wt_TGraph (a : TGraph) : Nat := wtI a.Points + (wtL wt_TBar) a.Bars
def ok_TGraph (a : TGraph) : Prop := okI a.Points ∧ (okL ok_TBar) a.Bars
theorem opn_26 : Opn Try.prog 26 2 e_TGraph wt_TGraph ok_TGraph := Opn.struct2 (enc1 := (fun n : Int => [.sc (.int .i64 n)])) (enc2 := (fun xs => [.xs false (xs.map e_TBar)])) TGraph.mk oS26 oC26 oC3 oC24 (Opn.int oU3) (Opn.slice oU24 oC105 (by decide) opn_105) (fun _ _ => rfl) (fun _ _ => rfl) (fun _ _ h1 h2 => ⟨h1, h2⟩)
def e_TPinned (a : TPinned) : List PV := [.sc (.int .i64 a.Graph.Points), .xs false (a.Graph.Bars.map encTBar), .xs false (a.Ground.map encInt)]
def wt_TPinned (a : TPinned) : Nat := wt_TGraph a.Graph + (wtL wtI) a.Ground
def ok_TPinned (a : TPinned) : Prop := ok_TGraph a.Graph ∧ (okL okI) a.Ground
theorem opn_47 : Opn Try.prog 47 3 e_TPinned wt_TPinned ok_TPinned := Opn.struct2 (enc1 := e_TGraph) (enc2 := (fun xs => [.xs false (xs.map (fun n : Int => [.sc (.int .i64 n)]))])) TPinned.mk oS47 oC47 oC26 oC40 opn_26 (Opn.slice oU40 oC3 (by decide) (Opn.int oU3)) (fun _ _ => rfl) (fun _ _ => rfl) (fun _ _ h1 h2 => ⟨h1, h2⟩)
def e_TPlace (a : TPlace) : List PV := [.sc (.int .i64 a.X), .sc (.int .i64 a.Y)]
def wt_TPlace (a : TPlace) : Nat := wtI a.X + wtI a.Y
def ok_TPlace (a : TPlace) : Prop := okI a.X ∧ okI a.Y
theorem opn_108 : Opn Try.prog 108 2 e_TPlace wt_TPlace ok_TPlace := Opn.struct2 (enc1 := (fun n : Int => [.sc (.int .i64 n)])) (enc2 := (fun n : Int => [.sc (.int .i64 n)])) TPlace.mk oS108 oC108 oC3 oC3 (Opn.int oU3) (Opn.int oU3) (fun _ _ => rfl) (fun _ _ => rfl) (fun _ _ h1 h2 => ⟨h1, h2⟩)
def e_TFramework (a : TFramework) : List PV := [.sc (.int .i64 a.Graph.Points), .xs false (a.Graph.Bars.map encTBar), .xs false (a.Places.map encTPlace)]
def wt_TFramework (a : TFramework) : Nat := wt_TGraph a.Graph + (wtL wt_TPlace) a.Places
def ok_TFramework (a : TFramework) : Prop := ok_TGraph a.Graph ∧ (okL ok_TPlace) a.Places
theorem opn_57 : Opn Try.prog 57 3 e_TFramework wt_TFramework ok_TFramework := Opn.struct2 (enc1 := e_TGraph) (enc2 := (fun xs => [.xs false (xs.map e_TPlace)])) TFramework.mk oS57 oC57 oC26 oC55 opn_26 (Opn.slice oU55 oC108 (by decide) opn_108) (fun _ _ => rfl) (fun _ _ => rfl) (fun _ _ h1 h2 => ⟨h1, h2⟩)
def e_TTensegrity (a : TTensegrity) : List PV := [.sc (.int .i64 a.Framework.Graph.Points), .xs false (a.Framework.Graph.Bars.map encTBar), .xs false (a.Framework.Places.map encTPlace), .xs false (a.Kinds.map encInt)]
def wt_TTensegrity (a : TTensegrity) : Nat := wt_TFramework a.Framework + (wtL wtI) a.Kinds
def ok_TTensegrity (a : TTensegrity) : Prop := ok_TFramework a.Framework ∧ (okL okI) a.Kinds
theorem opn_66 : Opn Try.prog 66 4 e_TTensegrity wt_TTensegrity ok_TTensegrity := Opn.struct2 (enc1 := e_TFramework) (enc2 := (fun xs => [.xs false (xs.map (fun n : Int => [.sc (.int .i64 n)]))])) TTensegrity.mk oS66 oC66 oC57 oC40 opn_57 (Opn.slice oU40 oC3 (by decide) (Opn.int oU3)) (fun _ _ => rfl) (fun _ _ => rfl) (fun _ _ h1 h2 => ⟨h1, h2⟩)
end Go.Proofs.Ytihibpkbhjpajaa
