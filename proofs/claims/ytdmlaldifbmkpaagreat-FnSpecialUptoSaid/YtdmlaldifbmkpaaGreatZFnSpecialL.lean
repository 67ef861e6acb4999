/- The law FnSpecial returns true, whatever argument of bulk at most 1048576 it is given; the argument reads behind the call as it read before. -/
import Derived.Test.YtdmlaldifbmkpaaGreatZFnSpecial7
set_option linter.unusedVariables false
set_option linter.unusedSimpArgs false
set_option linter.unnecessarySimpa false
open Go Go.Fw
namespace Go.Proofs.YtdmlaldifbmkpaaGreat.fnSpecial
open Go.ChangeShapes Go.WideShapes Go.ChangeAt Go.RowKit
theorem own:ownKnob Tryz.prog.godebug = none:=by kernel_rfl
theorem laidOut:laidOutB Tryz.prog = true:=by kernel_rfl
set_option maxRecDepth 100000 in
theorem contract (H:Type) (enc:TypeId × Value → H) (W:World) (base:Nat) (args:Array Value) (ds gs:List (DataW H)) (before:List MemPlace)
    (hval:∀ (j:Nat) t v, Tryz.f5.params[j]? = some t → args[j]? = some v → Value.okWide Tryz.prog W .any base t v)
    (hW:DataW.Whole enc Tryz.prog Tryz.f5.params.toList Rows.fnSpecialSpec.vars false W args.toList ds gs before) (hk:Rows.uptoSmall H (ds ++ gs) = true) :
    Calls Tryz.prog 5 args W fun e W' => ∃ v, e = .returned v ∧ Rows.fnSpecialSpec.post enc Tryz.prog Tryz.f5 false true false false W args v W':=by
  have hW':=hW
  obtain ⟨p, q, hA0, hV, rfl, hfz, hnd⟩:=hW
  have hA:DataW.TrodAll enc Tryz.prog W 0 (fun _ => true) true Tryz.f5.params.toList args.toList ds p:=hA0
  rw [Tryz.params5] at hA hval
  obtain ⟨v0, vs0, d0, ds0, p0, q0, hargs0, rfl, rfl, h0, r0⟩:=trodAll_cons hA
  obtain ⟨rfl, rfl, rfl⟩:=trodAll_nil r0
  obtain rfl:args = #[v0]:=by cases args; simp_all
  obtain ⟨rfl, rfl⟩:=trodVars_none hV
  have hv0:v0.oneCell' = true:=by
    obtain ⟨a, len, cap, h⟩:=okWide_slice (w:=W) aCU (hval 0 22 v0 rfl rfl)
    rw [h]; rfl
  obtain ⟨a0, k0, b0, s0⟩:=Opn.arg1 (Opn.slice aCU oC5 (by decide) (Opn.u8 oU5)) (p:=fun xs => .xs false (xs.map dI)) (fun _ => rfl) hv0 h0
  have aG3:(Gi LJ) a0 ≤ 1048576:=by
    have h:=of_decide_eq_true hk
    simp only [List.append_nil, Rows.uptoBulkAll] at h
    omega
  have l0:a0.length ≤ 1048576:=by
    have h:=aJo (wt:=LJ) (fun x => by simp [LJ, Gi]) a0
    try simp only [LJ] at aG3
    omega
  refine (Fn.aFJ (P:=Tryz.prog) (aMa a0 true ((fun a _ _ => aJk a) a0 k0 l0)) s0).mono fun e W' ⟨he, hb⟩ => ?_
  subst he
  exact ⟨_, rfl, aKX hW' laidOut (by kernel_rfl) hb rfl rfl rfl Tryz.underlying4⟩
set_option maxRecDepth 100000 in
theorem lifted (os:Os) (started:os.Started) (H:Type) (enc:TypeId × Value → H) (F:Stop.Interp) :
    ReturnsInHanded {} Tryz.checked os 5 .any ((Rows.OpenSpec.upto Rows.fnSpecialSpec).pre6 enc Tryz.prog Tryz.f5 Rows.fnSpecialUptoRow.domain false) (((Rows.OpenSpec.upto Rows.fnSpecialSpec).at F).post enc Tryz.prog Tryz.f5 false true false false):=by
  refine returnsInHanded_of_cond (C:=Tryz.checked) (s:=Rows.OpenSpec.upto Rows.fnSpecialSpec) (k:=Rows.uptoSmall) rfl own started (by kernel_rfl) Tryz.func5
    (OpenSpec.witness (enc:=enc) (C:=Tryz.checked) (s:=Rows.OpenSpec.upto Rows.fnSpecialSpec) (k:=Rows.uptoSmall) rfl false ⟨#[], #[.slice none 0 0], []⟩ 8 (by kernel_rfl) (by kernel_rfl) (by kernel_rfl)
      (x:=([.nil], [], [])) (by kernel_rfl) rfl (by kernel_rfl)) ?_
  intro W base args ds gs before hval hW _ hk _
  exact contract H enc W base args ds gs before hval hW hk
theorem over:Rows.fnSpecialUptoRow.holds Tryz.pinned (Rows.OpenSpec.upto Rows.fnSpecialSpec) :=
  OpenClaim.holds_of_cond 5 Tryz.f5 rfl rfl rfl rfl rfl rfl rfl ⟨rfl, rfl, rfl, rfl, rfl⟩ rfl rfl rfl rfl rfl (by kernel_rfl) Tryz.func5 (by kernel_rfl)
    (of_decide_eq_true (by kernel_rfl)) (by unfold Func.isWrapper; first | (rw [if_pos (by decide +kernel)]; kernel_rfl) | (rw [if_neg (by decide +kernel)]; exact ⟨rfl, rfl⟩))
    (fun os started H enc _ F => lifted os started H enc F)
theorem proved:Rows.FnSpecialUptoSaid:=over
end Go.Proofs.YtdmlaldifbmkpaaGreat.fnSpecial
