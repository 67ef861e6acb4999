/- The law FnExactOtherPlaces returns true, whatever argument of bulk at most 1048576 it is given; the argument reads behind the call as it read before. -/
import Derived.Test.YtdmlaldifbmkpaaZEOtherPlaces3
set_option linter.unusedVariables false
set_option linter.unusedSimpArgs false
set_option linter.unnecessarySimpa false
open Go Go.Fw
namespace Go.Proofs.Ytdmlaldifbmkpaa.fnExactOtherPlaces
open Go.ChangeShapes Go.WideShapes Go.ChangeAt Go.RowKit
theorem own:ownKnob Try.prog.godebug = none:=by kernel_rfl
theorem laidOut:laidOutB Try.prog = true:=by kernel_rfl
set_option maxRecDepth 100000 in
theorem contract (H:Type) (enc:TypeId × Value → H) (W:World) (base:Nat) (args:Array Value) (ds gs:List (DataW H)) (before:List MemPlace)
    (hval:∀ (j:Nat) t v, Try.f4.params[j]? = some t → args[j]? = some v → Value.okWide Try.prog W .any base t v)
    (hW:DataW.Whole enc Try.prog Try.f4.params.toList Rows.fnExactOtherPlacesSpec.vars false W args.toList ds gs before) (hk:Rows.uptoSmall H (ds ++ gs) = true) :
    Calls Try.prog 4 args W fun e W' => ∃ v, e = .returned v ∧ Rows.fnExactOtherPlacesSpec.post enc Try.prog Try.f4 false true false false W args v W':=by
  have hW':=hW
  obtain ⟨p, q, hA0, hV, rfl, hfz, hnd⟩:=hW
  have hA:DataW.TrodAll enc Try.prog W 0 (fun _ => true) true Try.f4.params.toList args.toList ds p:=hA0
  rw [Try.params4] at hA hval
  obtain ⟨v0, UX, d0, ds0, p0, q0, hargs0, rfl, rfl, h0, r0⟩:=trodAll_cons hA
  obtain ⟨rfl, rfl, rfl⟩:=trodAll_nil r0
  obtain rfl:args = #[v0]:=by cases args; simp_all
  obtain ⟨rfl, rfl⟩:=trodVars_none hV
  have hv0:∃ cs:Array Value, v0 = .agg cs:=by
    obtain ⟨cs, h, _⟩:=okWide_struct (w:=W) Qv (hval 0 53 v0 rfl rfl)
    exact ⟨cs, h⟩
  obtain ⟨a0, k0, b0, s0⟩:=Opn.Kv Q8 hv0 h0
  have G5:vw a0 ≤ 1048576:=by
    have h:=of_decide_eq_true hk
    simp only [List.append_nil, Rows.uptoBulkAll] at h
    omega
  have l0:a0.Graph.aB.length ≤ 1048576:=by
    have h:=IC (wt:=sS) (fun x => by simp [sS, vw, vz, sU, nY, pq]) a0.Graph.aB
    try simp only [sS, vw, vz, sU, nY] at G5
    omega
  have l1:a0.Places.length ≤ 1048576:=by
    have h:=IC (wt:=sU) (fun x => by simp [sS, vw, vz, sU, nY, pq]) a0.Places
    try simp only [sS, vw, vz, sU, nY] at G5
    omega
  have ha:tC Try.prog W [(.agg [(iC a0.Graph.aC), (xF aG a0.Graph.aB), (xF aI a0.Places)])] [v0]:=⟨s0, trivial⟩
  refine (Fn.called (P:=Try.prog) (W:=W) (args:=#[v0]) (TK a0 true (QV a0 k0 l0 l1)) ha).mono fun e W' ⟨he, hb⟩ => ?_
  subst he
  exact ⟨_, rfl, RG hW' laidOut (by kernel_rfl) hb rfl rfl rfl Try.underlying4⟩
set_option maxRecDepth 100000 in
theorem lifted (os:Os) (started:os.Started) (H:Type) (enc:TypeId × Value → H) (F:Stop.Interp) :
    ReturnsInHanded {} Try.checked os 4 .any ((Rows.OpenSpec.upto Rows.fnExactOtherPlacesSpec).pre6 enc Try.prog Try.f4 Rows.fnExactOtherPlacesUptoRow.domain false) (((Rows.OpenSpec.upto Rows.fnExactOtherPlacesSpec).at F).post enc Try.prog Try.f4 false true false false):=by
  refine returnsInHanded_of_cond (C:=Try.checked) (s:=Rows.OpenSpec.upto Rows.fnExactOtherPlacesSpec) (k:=Rows.uptoSmall) rfl own started (by kernel_rfl) Try.func4
    (OpenSpec.witness (enc:=enc) (C:=Try.checked) (s:=Rows.OpenSpec.upto Rows.fnExactOtherPlacesSpec) (k:=Rows.uptoSmall) rfl false ⟨#[], #[.agg #[.int .i64 0, .slice none 0 0, .slice none 0 0]], []⟩ 8 (by kernel_rfl) (by kernel_rfl) (by kernel_rfl)
      (x:=([.agg [.agg [.lit (.int .i64 0), .nil], .nil]], [], [])) (by kernel_rfl) rfl (by kernel_rfl)) ?_
  intro W base args ds gs before hval hW _ hk _
  exact contract H enc W base args ds gs before hval hW hk
theorem over:Rows.fnExactOtherPlacesUptoRow.holds Try.pinned (Rows.OpenSpec.upto Rows.fnExactOtherPlacesSpec) :=
  OpenClaim.holds_of_cond 4 Try.f4 rfl rfl rfl rfl rfl rfl rfl ⟨rfl, rfl, rfl, rfl, rfl⟩ rfl rfl rfl rfl rfl (by kernel_rfl) Try.func4 (by kernel_rfl)
    (of_decide_eq_true (by kernel_rfl)) (by unfold Func.isWrapper; first | (rw [if_pos (by decide +kernel)]; kernel_rfl) | (rw [if_neg (by decide +kernel)]; exact ⟨rfl, rfl⟩))
    (fun os started H enc _ F => lifted os started H enc F)
theorem proved:Rows.FnExactOtherPlacesUptoSaid:=over
end Go.Proofs.Ytdmlaldifbmkpaa.fnExactOtherPlaces
