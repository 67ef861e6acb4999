/- Arguments of the laws read as typed data. Written by a program of mine. -/
import Derived.Test.YtfiiebikkimjbaaFw13
import Derived.Test.YtfiiebikkimjbaaGenT
set_option linter.unusedVariables false
set_option linter.unusedSimpArgs false
set_option linter.unnecessarySimpa false
open Go Go.Fw
namespace Go.Proofs.Ytfiiebikkimjbaa
theorem oC132 : Try.prog.cellsOf 132 = 2 := by kernel_rfl
theorem oC22 : Try.prog.cellsOf 22 = 1 := by kernel_rfl
theorem oC24 : Try.prog.cellsOf 24 = 2 := by kernel_rfl
theorem oC3 : Try.prog.cellsOf 3 = 1 := by kernel_rfl
theorem oS132 : st2 Try.prog 132 = some (3, 0, 3, 1) := by kernel_rfl
theorem oS24 : st2 Try.prog 24 = some (3, 0, 22, 1) := by kernel_rfl
theorem oU22 : Try.prog.underlying 22 = some (.slice 132) := by kernel_rfl
theorem oU3 : Try.prog.underlying 3 = some (.int .i64) := by kernel_rfl
theorem oX24 : Try.prog.underlying 24 = some (.struct (Try.prog.fieldsOf 24)) := by kernel_rfl
def e_TBar (a : TBar) : List PV := [.sc (.int .i64 a.A), .sc (.int .i64 a.B)]
def wt_TBar (a : TBar) : Nat := wtI a.A + wtI a.B
def ok_TBar (a : TBar) : Prop := okI a.A ∧ okI a.B
theorem opn_132 : Opn Try.prog 132 2 e_TBar wt_TBar ok_TBar := Opn.struct2 (enc1 := (fun n : Int => [.sc (.int .i64 n)])) (enc2 := (fun n : Int => [.sc (.int .i64 n)])) TBar.mk oS132 oC132 oC3 oC3 (Opn.int oU3) (Opn.int oU3) (fun _ _ => rfl) (fun _ _ => rfl) (fun _ _ h1 h2 => ⟨h1, h2⟩)
def e_TGraph (a : TGraph) : List PV := [.sc (.int .i64 a.Points), .xs false (a.Bars.map encTBar)]
def wt_TGraph (a : TGraph) : Nat := wtI a.Points + (wtL wt_TBar) a.Bars
def ok_TGraph (a : TGraph) : Prop := okI a.Points ∧ (okL ok_TBar) a.Bars
theorem opn_24 : Opn Try.prog 24 2 e_TGraph wt_TGraph ok_TGraph := Opn.struct2 (enc1 := (fun n : Int => [.sc (.int .i64 n)])) (enc2 := (fun xs => [.xs false (xs.map e_TBar)])) TGraph.mk oS24 oC24 oC3 oC22 (Opn.int oU3) (Opn.slice oU22 oC132 (by decide) opn_132) (fun _ _ => rfl) (fun _ _ => rfl) (fun _ _ h1 h2 => ⟨h1, h2⟩)
end Go.Proofs.Ytfiiebikkimjbaa
