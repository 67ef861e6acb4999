/- The law FnFrameworks returns true, whatever argument of bulk at most 1048576 it is given; the argument reads behind the call as it read before. -/
import Derived.Test.YtdmlaldifbmkpaaZFnFrameworks6
set_option linter.unusedVariables false
set_option linter.unusedSimpArgs false
set_option linter.unnecessarySimpa false
open Go Go.Fw
namespace Go.Proofs.Ytdmlaldifbmkpaa.fnFrameworks
open Go.ChangeShapes Go.WideShapes Go.ChangeAt Go.RowKit
theorem own:ownKnob Try.prog.godebug = none:=by kernel_rfl
theorem laidOut:laidOutB Try.prog = true:=by kernel_rfl
set_option maxRecDepth 100000 in
theorem contract (H:Type) (enc:TypeId × Value → H) (W:World) (base:Nat) (args:Array Value) (ds gs:List (DataW H)) (before:List MemPlace)
    (hval:∀ (j:Nat) t v, Try.f6.params[j]? = some t → args[j]? = some v → Value.okWide Try.prog W .any base t v)
    (hW:DataW.Whole enc Try.prog Try.f6.params.toList Rows.fnFrameworksSpec.vars false W args.toList ds gs before) (hk:Rows.uptoSmall H (ds ++ gs) = true) :
    Calls Try.prog 6 args W fun e W' => ∃ v, e = .returned v ∧ Rows.fnFrameworksSpec.post enc Try.prog Try.f6 false true false false W args v W':=by
  have hW':=hW
  obtain ⟨p, q, hA0, hV, rfl, hfz, hnd⟩:=hW
  have hA:DataW.TrodAll enc Try.prog W 0 (fun _ => true) true Try.f6.params.toList args.toList ds p:=hA0
  rw [Try.params6] at hA hval
  obtain ⟨v0, vs0, d0, ds0, p0, q0, hargs0, rfl, rfl, h0, r0⟩:=trodAll_cons hA
  obtain ⟨rfl, rfl, rfl⟩:=trodAll_nil r0
  obtain rfl:args = #[v0]:=by cases args; simp_all
  obtain ⟨rfl, rfl⟩:=trodVars_none hV
  have hv0:v0.oneCell' = true:=by
    obtain ⟨a, len, cap, h⟩:=okWide_slice (w:=W) aBh (hval 0 22 v0 rfl rfl)
    rw [h]; rfl
  obtain ⟨a0, k0, b0, s0⟩:=Opn.arg1 (Opn.slice aBh oC5 (by decide) (Opn.u8 oU5)) (p:=fun xs => .xs false (xs.map bn)) (fun _ => rfl) hv0 h0
  have aFZ:(F8 Dn) a0 ≤ 1048576:=by
    have h:=of_decide_eq_true hk
    simp only [List.append_nil, Rows.uptoBulkAll] at h
    omega
  have l0:a0.length ≤ 1048576:=by
    have h:=aIN (wt:=Dn) (fun x => by simp [Dn, F8]) a0
    try simp only [Dn] at aFZ
    omega
  refine (Fn.aDx (P:=Try.prog) (aKY a0 true ((fun a _ _ => aIK a) a0 k0 l0)) s0).mono fun e W' ⟨he, hb⟩ => ?_
  subst he
  exact ⟨_, rfl, aI2 hW' laidOut (by kernel_rfl) hb rfl rfl rfl Try.underlying4⟩
set_option maxRecDepth 100000 in
theorem lifted (os:Os) (started:os.Started) (H:Type) (enc:TypeId × Value → H) (F:Stop.Interp) :
    ReturnsInHanded {} Try.checked os 6 .any ((Rows.OpenSpec.upto Rows.fnFrameworksSpec).pre6 enc Try.prog Try.f6 Rows.fnFrameworksUptoRow.domain false) (((Rows.OpenSpec.upto Rows.fnFrameworksSpec).at F).post enc Try.prog Try.f6 false true false false):=by
  refine returnsInHanded_of_cond (C:=Try.checked) (s:=Rows.OpenSpec.upto Rows.fnFrameworksSpec) (k:=Rows.uptoSmall) rfl own started (by kernel_rfl) Try.func6
    (OpenSpec.witness (enc:=enc) (C:=Try.checked) (s:=Rows.OpenSpec.upto Rows.fnFrameworksSpec) (k:=Rows.uptoSmall) rfl false ⟨#[], #[.slice none 0 0], []⟩ 8 (by kernel_rfl) (by kernel_rfl) (by kernel_rfl)
      (x:=([.nil], [], [])) (by kernel_rfl) rfl (by kernel_rfl)) ?_
  intro W base args ds gs before hval hW _ hk _
  exact contract H enc W base args ds gs before hval hW hk
theorem over:Rows.fnFrameworksUptoRow.holds Try.pinned (Rows.OpenSpec.upto Rows.fnFrameworksSpec) :=
  OpenClaim.holds_of_cond 6 Try.f6 rfl rfl rfl rfl rfl rfl rfl ⟨rfl, rfl, rfl, rfl, rfl⟩ rfl rfl rfl rfl rfl (by kernel_rfl) Try.func6 (by kernel_rfl)
    (of_decide_eq_true (by kernel_rfl)) (by unfold Func.isWrapper; first | (rw [if_pos (by decide +kernel)]; kernel_rfl) | (rw [if_neg (by decide +kernel)]; exact ⟨rfl, rfl⟩))
    (fun os started H enc _ F => lifted os started H enc F)
theorem proved:Rows.FnFrameworksUptoSaid:=over
end Go.Proofs.Ytdmlaldifbmkpaa.fnFrameworks
