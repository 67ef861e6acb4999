/- The law FnExactGenericPlaces returns true, whatever argument of bulk at most 1048576 it is given; the argument reads behind the call as it read before. -/
import Derived.Test.YtghofbijdnenoaaZEGenericPlaces6
set_option linter.unusedVariables false
set_option linter.unusedSimpArgs false
set_option linter.unnecessarySimpa false
open Go Go.Fw
namespace Go.Proofs.Ytghofbijdnenoaa.fnExactGenericPlaces
open Go.ChangeShapes Go.WideShapes Go.ChangeAt Go.RowKit
theorem own : ownKnob Try.prog.godebug = none := by kernel_rfl
theorem laidOut : laidOutB Try.prog = true := by kernel_rfl
set_option maxRecDepth 100000 in
theorem contract (H : Type) (enc : TypeId × Value → H) (W : World) (base : Nat) (args : Array Value) (ds gs : List (DataW H)) (before : List MemPlace)
    (hval : ∀ (j : Nat) t v, Try.f4.params[j]? = some t → args[j]? = some v → Value.okWide Try.prog W .any base t v)
    (hW : DataW.Whole enc Try.prog Try.f4.params.toList Rows.fnExactGenericPlacesSpec.vars false W args.toList ds gs before) (hk : Rows.uptoSmall H (ds ++ gs) = true) :
    Calls Try.prog 4 args W fun e W' => ∃ v, e = .returned v ∧ Rows.fnExactGenericPlacesSpec.post enc Try.prog Try.f4 false true false false W args v W' := by
  have hW' := hW
  obtain ⟨p, q, hA0, hV, rfl, hfz, hnd⟩ := hW
  have hA : DataW.TrodAll enc Try.prog W 0 (fun _ => true) true Try.f4.params.toList args.toList ds p := hA0
  rw [Try.params4] at hA hval
  obtain ⟨v0, vs0, d0, ds0, p0, q0, hargs0, rfl, rfl, h0, r0⟩ := trodAll_cons hA
  obtain ⟨v1, vs1, d1, ds1, p1, q1, hargs1, rfl, rfl, h1, r1⟩ := trodAll_cons r0
  obtain ⟨rfl, rfl, rfl⟩ := trodAll_nil r1
  subst hargs1
  obtain rfl : args = #[v0, v1] := by cases args; simp_all
  obtain ⟨rfl, rfl⟩ := trodVars_none hV
  have hv0 : ∃ cs : Array Value, v0 = .agg cs := by
    obtain ⟨cs, h, _⟩ := okWide_struct (w := W) oX50 (hval 0 50 v0 rfl rfl)
    exact ⟨cs, h⟩
  obtain ⟨a0, k0, b0, s0⟩ := Opn.argN opn_50 hv0 h0
  have hv1 : v1.oneCell' = true := by
    obtain ⟨n, h⟩ := okWide_int (w := W) oU3 (hval 1 3 v1 rfl rfl)
    rw [h]; rfl
  obtain ⟨a1, k1, b1, s1⟩ := Opn.arg1 (Opn.int oU3) (p := fun n => .sc (.int .i64 n)) (fun _ => rfl) hv1 h1
  have hbulk : wt_TGraph a0 + wtI a1 ≤ 1048576 := by
    have h := of_decide_eq_true hk
    simp only [List.append_nil, Rows.uptoBulkAll] at h
    omega
  have l0 : a0.Bars.length ≤ 1048576 := by
    have h := len_wtL (wt := wt_TBar) (fun x => by simp [wt_TBar, wt_TGraph, wtI, wtL]) a0.Bars
    simp only [wt_TBar, wt_TGraph, wtI] at hbulk
    omega
  have ha : ArgR Try.prog W [(.agg [(iC a0.Points), (xF encTBar a0.Bars)]), (.c (iC a1))] [v0, v1] := ⟨s0, s1, trivial⟩
  refine (Fn.called (P := Try.prog) (W := W) (args := #[v0, v1]) (w_laws_FnExactGenericPlaces a0 a1 true (law_FnExactGenericPlaces a0 a1 k0 k1 l0)) ha).mono fun e W' ⟨he, hb⟩ => ?_
  subst he
  exact ⟨_, rfl, post_of_fw hW' laidOut (by kernel_rfl) hb rfl rfl rfl Try.underlying4⟩
set_option maxRecDepth 100000 in
theorem lifted (os : Os) (started : os.Started) (H : Type) (enc : TypeId × Value → H) (F : Stop.Interp) :
    ReturnsInHanded {} Try.checked os 4 .any ((Rows.OpenSpec.upto Rows.fnExactGenericPlacesSpec).pre6 enc Try.prog Try.f4 Rows.fnExactGenericPlacesUptoRow.domain false) (((Rows.OpenSpec.upto Rows.fnExactGenericPlacesSpec).at F).post enc Try.prog Try.f4 false true false false) := by
  refine returnsInHanded_of_cond (C := Try.checked) (s := Rows.OpenSpec.upto Rows.fnExactGenericPlacesSpec) (k := Rows.uptoSmall) rfl own started (by kernel_rfl) Try.func4
    (OpenSpec.witness (enc := enc) (C := Try.checked) (s := Rows.OpenSpec.upto Rows.fnExactGenericPlacesSpec) (k := Rows.uptoSmall) rfl false ⟨#[], #[.agg #[.int .i64 0, .slice none 0 0], .int .i64 0], []⟩ 8 (by kernel_rfl) (by kernel_rfl) (by kernel_rfl)
      (x := ([.agg [.lit (.int .i64 0), .nil], .lit (.int .i64 0)], [], [])) (by kernel_rfl) rfl (by kernel_rfl)) ?_
  intro W base args ds gs before hval hW _ hk _
  exact contract H enc W base args ds gs before hval hW hk
theorem over : Rows.fnExactGenericPlacesUptoRow.holds Try.pinned (Rows.OpenSpec.upto Rows.fnExactGenericPlacesSpec) :=
  OpenClaim.holds_of_cond 4 Try.f4 rfl rfl rfl rfl rfl rfl rfl ⟨rfl, rfl, rfl, rfl, rfl⟩ rfl rfl rfl rfl rfl (by kernel_rfl) Try.func4 (by kernel_rfl)
    (of_decide_eq_true (by kernel_rfl)) (by unfold Func.isWrapper; first | (rw [if_pos (by decide +kernel)]; kernel_rfl) | (rw [if_neg (by decide +kernel)]; exact ⟨rfl, rfl⟩))
    (fun os started H enc _ F => lifted os started H enc F)
theorem proved : Rows.FnExactGenericPlacesUptoSaid := over
end Go.Proofs.Ytghofbijdnenoaa.fnExactGenericPlaces
