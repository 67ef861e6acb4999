/- Parts of a proof that a law of the program holds: what the program computes, and why that is right. -/
import Derived.Test.YteognanhfpbghaaProg
import Derived.Test.YteognanhfpbghaaZEBodyTrees2
section
set_option linter.unusedVariables false
set_option linter.unusedSimpArgs false
set_option linter.unnecessarySimpa false
set_option maxRecDepth 100000
set_option maxHeartbeats 8000000
open Go Go.Fw
namespace Go.Proofs.Yteognanhfpbghaa
theorem Q {α : Type} {a : α} : a = a := rfl
theorem J : True := trivial
theorem K {n m : Nat} (h : n.ble m = true) : n ≤ m := Nat.le_of_ble_eq_true h
def gdv (ops : Array Oper) (σ : Slots) (o : Oper) : Option (Bool × Bool) := match o.guard with
  | none => none
  | some (j, want) => ((ops[j]?).bind (·.dst)).bind fun d => match lk σ d with
    | some (.s (.c (.pv (.sc (.bool c))))) => some (c, want)
    | some (.tup []) => some (!want, want)
    | _ => none
theorem gH {ops : Array Oper} {σ : Slots} {o : Oper} {c c0 want b : Bool} (hc : c = c0) (h : gdv ops σ o = some (c, want)) (hb : b = (c0 == want)) : GuardIs ops σ o b := by
  subst hc hb
  unfold gdv at h
  unfold GuardIs
  cases hg : o.guard with
  | none => rw [hg] at h; cases h
  | some p =>
    obtain ⟨j, wt⟩ := p
    rw [hg] at h
    dsimp only at h
    cases hd : (ops[j]?).bind (·.dst) with
    | none => rw [hd] at h; cases h
    | some d =>
      rw [hd] at h
      refine ⟨d, hd, ?_⟩
      simp only [Option.bind_some] at h
      split at h
      · rename_i cc hl; injection h with h; injection h with h1 h2; subst h1 h2; exact .inl ⟨cc, hl, rfl⟩
      · rename_i hl; injection h with h; injection h with h1 h2; subst h1 h2; exact .inr ⟨hl, by cases wt <;> rfl⟩
      · cases h
theorem poolN2 {P : Program} {C : Fw.Ctx} {σ : Slots} {mm : Mem} {α : Type} {enc : α → List PV} {n p c : Nat} {e e2 : TypeId} {els : List (List CV)} (hn : lk mm n = some (.row e els)) (he : els = List.replicate c [.pv (.sc nilV)]) (hd : (!Nat.beq n p && !C.pn.elem p) = true) :
    Ent P C σ mm (junkSl [p] σ) ((p, .pool e2 (rowsOf enc (List.replicate c ([] : List α)))) :: (n, .trow e p (lensOf (List.replicate c ([] : List α)))) :: junkM [p] mm) := Ent.poolN (by rw [hn, he]) hd
theorem gS {ops : Array Oper} {σ : Slots} {o : Oper} {c want b : Bool} (h : gdv ops σ o = some (c, want)) (hb : b = (c == want)) : GuardIs ops σ o b := gH rfl h hb
theorem z1 {α0 : Type} {a0 : α0} : a0 = a0 ∧ True := ⟨rfl, trivial⟩
theorem z2 {α0 α1 : Type} {a0 : α0} {a1 : α1} : a0 = a0 ∧ a1 = a1 ∧ True := ⟨rfl, rfl, trivial⟩
theorem y2 {α0 α1 : Type} {a0 : α0} {a1 : α1} : a0 = a0 ∧ a1 = a1 := ⟨rfl, rfl⟩
theorem z3 {α0 α1 α2 : Type} {a0 : α0} {a1 : α1} {a2 : α2} : a0 = a0 ∧ a1 = a1 ∧ a2 = a2 ∧ True := ⟨rfl, rfl, rfl, trivial⟩
theorem z4 {α0 α1 α2 α3 : Type} {a0 : α0} {a1 : α1} {a2 : α2} {a3 : α3} : a0 = a0 ∧ a1 = a1 ∧ a2 = a2 ∧ a3 = a3 ∧ True := ⟨rfl, rfl, rfl, rfl, trivial⟩
theorem z5 {α0 α1 α2 α3 α4 : Type} {a0 : α0} {a1 : α1} {a2 : α2} {a3 : α3} {a4 : α4} : a0 = a0 ∧ a1 = a1 ∧ a2 = a2 ∧ a3 = a3 ∧ a4 = a4 ∧ True := ⟨rfl, rfl, rfl, rfl, rfl, trivial⟩
theorem z6 {α0 α1 α2 α3 α4 α5 : Type} {a0 : α0} {a1 : α1} {a2 : α2} {a3 : α3} {a4 : α4} {a5 : α5} : a0 = a0 ∧ a1 = a1 ∧ a2 = a2 ∧ a3 = a3 ∧ a4 = a4 ∧ a5 = a5 ∧ True := ⟨rfl, rfl, rfl, rfl, rfl, rfl, trivial⟩
theorem z7 {α0 α1 α2 α3 α4 α5 α6 : Type} {a0 : α0} {a1 : α1} {a2 : α2} {a3 : α3} {a4 : α4} {a5 : α5} {a6 : α6} : a0 = a0 ∧ a1 = a1 ∧ a2 = a2 ∧ a3 = a3 ∧ a4 = a4 ∧ a5 = a5 ∧ a6 = a6 ∧ True := ⟨rfl, rfl, rfl, rfl, rfl, rfl, rfl, trivial⟩
theorem z8 {α0 α1 α2 α3 α4 α5 α6 α7 : Type} {a0 : α0} {a1 : α1} {a2 : α2} {a3 : α3} {a4 : α4} {a5 : α5} {a6 : α6} {a7 : α7} : a0 = a0 ∧ a1 = a1 ∧ a2 = a2 ∧ a3 = a3 ∧ a4 = a4 ∧ a5 = a5 ∧ a6 = a6 ∧ a7 = a7 ∧ True := ⟨rfl, rfl, rfl, rfl, rfl, rfl, rfl, rfl, trivial⟩
theorem z9 {α0 α1 α2 α3 α4 α5 α6 α7 α8 : Type} {a0 : α0} {a1 : α1} {a2 : α2} {a3 : α3} {a4 : α4} {a5 : α5} {a6 : α6} {a7 : α7} {a8 : α8} : a0 = a0 ∧ a1 = a1 ∧ a2 = a2 ∧ a3 = a3 ∧ a4 = a4 ∧ a5 = a5 ∧ a6 = a6 ∧ a7 = a7 ∧ a8 = a8 ∧ True := ⟨rfl, rfl, rfl, rfl, rfl, rfl, rfl, rfl, rfl, trivial⟩
theorem z10 {α0 α1 α2 α3 α4 α5 α6 α7 α8 α9 : Type} {a0 : α0} {a1 : α1} {a2 : α2} {a3 : α3} {a4 : α4} {a5 : α5} {a6 : α6} {a7 : α7} {a8 : α8} {a9 : α9} : a0 = a0 ∧ a1 = a1 ∧ a2 = a2 ∧ a3 = a3 ∧ a4 = a4 ∧ a5 = a5 ∧ a6 = a6 ∧ a7 = a7 ∧ a8 = a8 ∧ a9 = a9 ∧ True := ⟨rfl, rfl, rfl, rfl, rfl, rfl, rfl, rfl, rfl, rfl, trivial⟩
theorem z11 {α0 α1 α2 α3 α4 α5 α6 α7 α8 α9 α10 : Type} {a0 : α0} {a1 : α1} {a2 : α2} {a3 : α3} {a4 : α4} {a5 : α5} {a6 : α6} {a7 : α7} {a8 : α8} {a9 : α9} {a10 : α10} : a0 = a0 ∧ a1 = a1 ∧ a2 = a2 ∧ a3 = a3 ∧ a4 = a4 ∧ a5 = a5 ∧ a6 = a6 ∧ a7 = a7 ∧ a8 = a8 ∧ a9 = a9 ∧ a10 = a10 ∧ True := ⟨rfl, rfl, rfl, rfl, rfl, rfl, rfl, rfl, rfl, rfl, rfl, trivial⟩
theorem z12 {α0 α1 α2 α3 α4 α5 α6 α7 α8 α9 α10 α11 : Type} {a0 : α0} {a1 : α1} {a2 : α2} {a3 : α3} {a4 : α4} {a5 : α5} {a6 : α6} {a7 : α7} {a8 : α8} {a9 : α9} {a10 : α10} {a11 : α11} : a0 = a0 ∧ a1 = a1 ∧ a2 = a2 ∧ a3 = a3 ∧ a4 = a4 ∧ a5 = a5 ∧ a6 = a6 ∧ a7 = a7 ∧ a8 = a8 ∧ a9 = a9 ∧ a10 = a10 ∧ a11 = a11 ∧ True := ⟨rfl, rfl, rfl, rfl, rfl, rfl, rfl, rfl, rfl, rfl, rfl, rfl, trivial⟩
theorem z13 {α0 α1 α2 α3 α4 α5 α6 α7 α8 α9 α10 α11 α12 : Type} {a0 : α0} {a1 : α1} {a2 : α2} {a3 : α3} {a4 : α4} {a5 : α5} {a6 : α6} {a7 : α7} {a8 : α8} {a9 : α9} {a10 : α10} {a11 : α11} {a12 : α12} : a0 = a0 ∧ a1 = a1 ∧ a2 = a2 ∧ a3 = a3 ∧ a4 = a4 ∧ a5 = a5 ∧ a6 = a6 ∧ a7 = a7 ∧ a8 = a8 ∧ a9 = a9 ∧ a10 = a10 ∧ a11 = a11 ∧ a12 = a12 ∧ True := ⟨rfl, rfl, rfl, rfl, rfl, rfl, rfl, rfl, rfl, rfl, rfl, rfl, rfl, trivial⟩
theorem ag112 : agB Try.prog 112 = some true := by kernel_rfl
theorem ag133 : agB Try.prog 133 = some true := by kernel_rfl
theorem ag149 : agB Try.prog 149 = some true := by kernel_rfl
theorem ag150 : agB Try.prog 150 = some false := by kernel_rfl
theorem ag22 : agB Try.prog 22 = some false := by kernel_rfl
theorem ag24 : agB Try.prog 24 = some true := by kernel_rfl
theorem ag3 : agB Try.prog 3 = some false := by kernel_rfl
theorem ag30 : agB Try.prog 30 = some false := by kernel_rfl
theorem ag32 : agB Try.prog 32 = some true := by kernel_rfl
theorem ag4 : agB Try.prog 4 = some false := by kernel_rfl
theorem ag45 : agB Try.prog 45 = some false := by kernel_rfl
theorem ag62 : agB Try.prog 62 = some false := by kernel_rfl
theorem ag65 : agB Try.prog 65 = some false := by kernel_rfl
theorem cb102 : callB Try.prog 102 = true := by kernel_rfl
theorem cb111 : callB Try.prog 111 = true := by kernel_rfl
theorem cb113 : callB Try.prog 113 = true := by kernel_rfl
theorem cb118 : callB Try.prog 118 = true := by kernel_rfl
theorem cb119 : callB Try.prog 119 = true := by kernel_rfl
theorem cb120 : callB Try.prog 120 = true := by kernel_rfl
theorem cb121 : callB Try.prog 121 = true := by kernel_rfl
theorem cb122 : callB Try.prog 122 = true := by kernel_rfl
theorem cb123 : callB Try.prog 123 = true := by kernel_rfl
theorem cb124 : callB Try.prog 124 = true := by kernel_rfl
theorem cb125 : callB Try.prog 125 = true := by kernel_rfl
theorem cb126 : callB Try.prog 126 = true := by kernel_rfl
theorem cb127 : callB Try.prog 127 = true := by kernel_rfl
theorem cb128 : callB Try.prog 128 = true := by kernel_rfl
theorem cb129 : callB Try.prog 129 = true := by kernel_rfl
theorem cb131 : callB Try.prog 131 = true := by kernel_rfl
theorem cb139 : callB Try.prog 139 = true := by kernel_rfl
theorem cb144 : callB Try.prog 144 = true := by kernel_rfl
theorem cb146 : callB Try.prog 146 = true := by kernel_rfl
theorem cb149 : callB Try.prog 149 = true := by kernel_rfl
theorem cb150 : callB Try.prog 150 = true := by kernel_rfl
theorem cb156 : callB Try.prog 156 = true := by kernel_rfl
theorem cb163 : callB Try.prog 163 = true := by kernel_rfl
theorem cb164 : callB Try.prog 164 = true := by kernel_rfl
theorem cb166 : callB Try.prog 166 = true := by kernel_rfl
theorem cb175 : callB Try.prog 175 = true := by kernel_rfl
theorem cb176 : callB Try.prog 176 = true := by kernel_rfl
theorem cb177 : callB Try.prog 177 = true := by kernel_rfl
theorem cb178 : callB Try.prog 178 = true := by kernel_rfl
theorem cb179 : callB Try.prog 179 = true := by kernel_rfl
theorem cb180 : callB Try.prog 180 = true := by kernel_rfl
theorem cb181 : callB Try.prog 181 = true := by kernel_rfl
theorem cb182 : callB Try.prog 182 = true := by kernel_rfl
theorem cb183 : callB Try.prog 183 = true := by kernel_rfl
theorem cb184 : callB Try.prog 184 = true := by kernel_rfl
theorem cb185 : callB Try.prog 185 = true := by kernel_rfl
theorem cb186 : callB Try.prog 186 = true := by kernel_rfl
theorem cb193 : callB Try.prog 193 = true := by kernel_rfl
theorem cb199 : callB Try.prog 199 = true := by kernel_rfl
theorem cb201 : callB Try.prog 201 = true := by kernel_rfl
theorem cb202 : callB Try.prog 202 = true := by kernel_rfl
theorem cb203 : callB Try.prog 203 = true := by kernel_rfl
theorem cb204 : callB Try.prog 204 = true := by kernel_rfl
theorem cb210 : callB Try.prog 210 = true := by kernel_rfl
theorem cb211 : callB Try.prog 211 = true := by kernel_rfl
theorem cb212 : callB Try.prog 212 = true := by kernel_rfl
theorem cb213 : callB Try.prog 213 = true := by kernel_rfl
theorem cb214 : callB Try.prog 214 = true := by kernel_rfl
theorem cb215 : callB Try.prog 215 = true := by kernel_rfl
theorem cb216 : callB Try.prog 216 = true := by kernel_rfl
theorem cb217 : callB Try.prog 217 = true := by kernel_rfl
theorem cb218 : callB Try.prog 218 = true := by kernel_rfl
theorem cb219 : callB Try.prog 219 = true := by kernel_rfl
theorem cb222 : callB Try.prog 222 = true := by kernel_rfl
theorem cb223 : callB Try.prog 223 = true := by kernel_rfl
theorem cb224 : callB Try.prog 224 = true := by kernel_rfl
theorem cb235 : callB Try.prog 235 = true := by kernel_rfl
theorem cb236 : callB Try.prog 236 = true := by kernel_rfl
theorem cb237 : callB Try.prog 237 = true := by kernel_rfl
theorem cb238 : callB Try.prog 238 = true := by kernel_rfl
theorem cb239 : callB Try.prog 239 = true := by kernel_rfl
theorem cb240 : callB Try.prog 240 = true := by kernel_rfl
theorem cb241 : callB Try.prog 241 = true := by kernel_rfl
theorem cb247 : callB Try.prog 247 = true := by kernel_rfl
theorem cb248 : callB Try.prog 248 = true := by kernel_rfl
theorem cb249 : callB Try.prog 249 = true := by kernel_rfl
theorem cb37 : callB Try.prog 37 = true := by kernel_rfl
theorem cb38 : callB Try.prog 38 = true := by kernel_rfl
theorem cb44 : callB Try.prog 44 = true := by kernel_rfl
theorem cb45 : callB Try.prog 45 = true := by kernel_rfl
theorem cb46 : callB Try.prog 46 = true := by kernel_rfl
theorem cb47 : callB Try.prog 47 = true := by kernel_rfl
theorem cb48 : callB Try.prog 48 = true := by kernel_rfl
theorem cb49 : callB Try.prog 49 = true := by kernel_rfl
theorem cb50 : callB Try.prog 50 = true := by kernel_rfl
theorem cb61 : callB Try.prog 61 = true := by kernel_rfl
theorem cb77 : callB Try.prog 77 = true := by kernel_rfl
theorem cb78 : callB Try.prog 78 = true := by kernel_rfl
theorem el150 : elB Try.prog 150 = some 30 := by kernel_rfl
theorem el170 : elB Try.prog 170 = some 4 := by kernel_rfl
theorem el22 : elB Try.prog 22 = some 149 := by kernel_rfl
theorem el30 : elB Try.prog 30 = some 112 := by kernel_rfl
theorem el45 : elB Try.prog 45 = some 3 := by kernel_rfl
theorem el65 : elB Try.prog 65 = some 45 := by kernel_rfl
theorem fo112_0 : foB Try.prog 112 0 = some 0 := by kernel_rfl
theorem fo112_1 : foB Try.prog 112 1 = some 1 := by kernel_rfl
theorem fo133_0 : foB Try.prog 133 0 = some 0 := by kernel_rfl
theorem fo133_1 : foB Try.prog 133 1 = some 1 := by kernel_rfl
theorem fo133_2 : foB Try.prog 133 2 = some 2 := by kernel_rfl
theorem fo149_0 : foB Try.prog 149 0 = some 0 := by kernel_rfl
theorem fo149_1 : foB Try.prog 149 1 = some 1 := by kernel_rfl
theorem fo24_0 : foB Try.prog 24 0 = some 0 := by kernel_rfl
theorem fo24_1 : foB Try.prog 24 1 = some 1 := by kernel_rfl
theorem fo32_0 : foB Try.prog 32 0 = some 0 := by kernel_rfl
theorem fo32_1 : foB Try.prog 32 1 = some 1 := by kernel_rfl
theorem inf112 : (Try.prog.info? 112).isSome = true := by kernel_rfl
theorem inf133 : (Try.prog.info? 133).isSome = true := by kernel_rfl
theorem inf149 : (Try.prog.info? 149).isSome = true := by kernel_rfl
theorem inf150 : (Try.prog.info? 150).isSome = true := by kernel_rfl
theorem inf24 : (Try.prog.info? 24).isSome = true := by kernel_rfl
theorem inf3 : (Try.prog.info? 3).isSome = true := by kernel_rfl
theorem inf30 : (Try.prog.info? 30).isSome = true := by kernel_rfl
theorem inf32 : (Try.prog.info? 32).isSome = true := by kernel_rfl
theorem inf4 : (Try.prog.info? 4).isSome = true := by kernel_rfl
theorem inf45 : (Try.prog.info? 45).isSome = true := by kernel_rfl
theorem inf62 : (Try.prog.info? 62).isSome = true := by kernel_rfl
theorem inf65 : (Try.prog.info? 65).isSome = true := by kernel_rfl
theorem map200 : mapB Try.prog 200 = some (3, 3) := by kernel_rfl
theorem mixed : Try.prog.follows .mixedOrders = true := by kernel_rfl
theorem pl133 : plB Try.prog 133 = some [(0, 1), (1, 1), (2, 1)] := by kernel_rfl
theorem pl32 : plB Try.prog 32 = some [(0, 1), (1, 1)] := by kernel_rfl
theorem sz112 : szP Try.prog 112 = 2 := by kernel_rfl
theorem sz133 : szP Try.prog 133 = 3 := by kernel_rfl
theorem sz149 : szP Try.prog 149 = 2 := by kernel_rfl
theorem sz150 : szP Try.prog 150 = 1 := by kernel_rfl
theorem sz24 : szP Try.prog 24 = 2 := by kernel_rfl
theorem sz3 : szP Try.prog 3 = 1 := by kernel_rfl
theorem sz30 : szP Try.prog 30 = 1 := by kernel_rfl
theorem sz32 : szP Try.prog 32 = 2 := by kernel_rfl
theorem sz4 : szP Try.prog 4 = 1 := by kernel_rfl
theorem sz45 : szP Try.prog 45 = 1 := by kernel_rfl
theorem sz62 : szP Try.prog 62 = 1 := by kernel_rfl
theorem sz65 : szP Try.prog 65 = 1 := by kernel_rfl
theorem ti112 : TI Try.prog 112 (.agg #[(.int .i64 0), (.int .i64 0)]) 2 16 := by unfold TI; kernel_rfl
theorem ti133 : TI Try.prog 133 (.agg #[(.slice none 0 0), (.slice none 0 0), (.slice none 0 0)]) 3 72 := by unfold TI; kernel_rfl
theorem ti150 : TI Try.prog 150 (.slice none 0 0) 1 24 := by unfold TI; kernel_rfl
theorem ti3 : TI Try.prog 3 (.int .i64 0) 1 8 := by unfold TI; kernel_rfl
theorem ti30 : TI Try.prog 30 (.slice none 0 0) 1 24 := by unfold TI; kernel_rfl
theorem ti32 : TI Try.prog 32 (.agg #[(.int .i64 0), (.slice none 0 0)]) 2 32 := by unfold TI; kernel_rfl
theorem ti4 : TI Try.prog 4 (.bool false) 1 1 := by unfold TI; kernel_rfl
theorem ti45 : TI Try.prog 45 (.slice none 0 0) 1 24 := by unfold TI; kernel_rfl
theorem ti62 : TI Try.prog 62 .nilFunc 1 8 := by unfold TI; kernel_rfl
theorem ti65 : TI Try.prog 65 (.slice none 0 0) 1 24 := by unfold TI; kernel_rfl
theorem und150 : Try.prog.underlying 150 = some (.slice 30) := by kernel_rfl
theorem und170 : Try.prog.underlying 170 = some (.slice 4) := by kernel_rfl
theorem und22 : Try.prog.underlying 22 = some (.slice 149) := by kernel_rfl
theorem und30 : Try.prog.underlying 30 = some (.slice 112) := by kernel_rfl
theorem und4 : Try.prog.underlying 4 = some .bool := by kernel_rfl
theorem und45 : Try.prog.underlying 45 = some (.slice 3) := by kernel_rfl
theorem und65 : Try.prog.underlying 65 = some (.slice 45) := by kernel_rfl
end Go.Proofs.Yteognanhfpbghaa
end
section
set_option linter.unusedVariables false
set_option linter.unusedSimpArgs false
set_option linter.unnecessarySimpa false
set_option maxRecDepth 100000
set_option maxHeartbeats 8000000
open Go Go.Fw
namespace Go.Proofs.Yteognanhfpbghaa
theorem w_laws_szBarS (a : (List TBar)) (leftV : Int) : ∀ t,m_laws_szBarS a leftV = some t → Fw.Fn Try.prog 118 [(.c (xF encTBar a)),(.c (iC leftV))] [] (.s (.c (iC t))) [] [] [] := by
 refine Fw.Fn.of (P := Try.prog) (X := []) (pn := []) (rs := (fun (t : Int) => [(.c (iC t))])) (dfs := (fun (t : Int) => [])) Try.func118 Q Try.ntmps118 (K Q) Q ?_
 intro w0 U0 R0 g0
 unfold m_laws_szBarS
 refine Ws (Wr ?_)
 refine asg (Iv 0) Q y2 Q Q (On (Ws (Wr ?_)))
 refine mv (Iv leftV) Q Q Q Q (mv (Cc (xF encTBar a)) Q Q Q Q (Op10 (LT.tlenRO Q und22) Q Q Q (Op20 (LT.sub Q) Q Q Q Q (asg (Iv (w64 (leftV - (a.length : Int)))) Q Q Q Q (On (Ws (Ws (Wr ?_))))))))
 refine mv (Iv (w64 (leftV - (a.length : Int)))) Q Q Q Q (Op20 (LT.lss Q) Q y2 Q Q (On (AWR.cond Q (fun hc1 => ?_) (fun hc1 => ?_))))
 ·refine Ws (Wr ?_)
  refine asg (Iv (-1)) Q y2 Q Q (On (AWR.ret (FPost.mk (.inr Q) z1 J Q ⟨PermP.sc,J⟩ J)))
 ·refine AWR.skip (Ws (Wr ?_))
  refine mv (Iv (w64 (leftV - (a.length : Int)))) Q Q Q Q (asg (Iv (w64 (leftV - (a.length : Int)))) Q Q Q Q (On (AWR.ret (FPost.mk (.inr Q) z1 J Q ⟨PermP.sc,J⟩ J))))
theorem w_laws_szGraph (a : TGraph) (leftV : Int) : ∀ t,m_laws_szGraph a leftV = some t → Fw.Fn Try.prog 44 [(.agg [(iC a.Points),(xF encTBar a.Bars)]),(.c (iC leftV))] [] (.s (.c (iC t))) [] [] [] := by
 refine Fw.Fn.of (P := Try.prog) (X := []) (pn := []) (rs := (fun (t : Int) => [(.c (iC t))])) (dfs := (fun (t : Int) => [])) Try.func44 Q Try.ntmps44 (K Q) Q ?_
 intro w0 U0 R0 g0
 unfold m_laws_szGraph
 refine Ws (Wr ?_)
 refine Os10 (LT.box (n := 21) (v := (.agg [(iC a.Points),(xF encTBar a.Bars)])) Q sz24 (by exact Q)) Q Q Q (asg (Iv 0) Q y2 Q Q (On (Ws (Wr ?_))))
 refine Op10 (LT.fieldPl Q fo24_1) Q Q Q (Op11 (LT.bload1 (c := (xF encTBar a.Bars)) Q ag22 (by exact Q)) Q Q Q Q (mv (Iv leftV) Q Q Q Q (Ob' fun r1 hr1 => (AOR.pure (@LT.callF Try.prog _ _ 118 _ _ [(.c (xF encTBar a.Bars)),(.c (iC leftV))] _ _ [] _ _ _ _ (w_laws_szBarS a.Bars leftV r1 hr1) Q cb118 (.cons (.c (.same Q)) (.cons (.c (.same Q)) .nil)) Q Q J) z3 J Q Q (asg (Iv r1) Q Q Q Q (On (Ws (Ws (Wr ?_)))))))))
 refine mv (Iv r1) Q Q Q Q (Op20 (LT.lss Q) Q y2 Q Q (On (AWR.cond Q (fun hc2 => ?_) (fun hc2 => ?_))))
 ·refine Ws (en [] [] J J (Wr (asg (Iv (-1)) Q y2 Q Q (On (AWR.ret (FPost.mk (.inr Q) z1 J Q ⟨PermP.sc,J⟩ J))))))
 ·refine AWR.skip (Ws ?_)
  refine en [(1,(Iv r1))] [] z1 J (Wr (mv (Iv r1) Q Q Q Q (asg (Iv r1) Q Q Q Q (On (AWR.ret (FPost.mk (.inr Q) z1 J Q ⟨PermP.sc,J⟩ J))))))
theorem w_laws_toBar (a : TBar) : ∀ t,m_laws_toBar a = some t → Fw.Fn Try.prog 180 [(.agg [(iC a.A),(iC a.B)])] [] (.s (.agg [(iC t.A),(iC t.B)])) [] [] [] := by
 refine Fw.Fn.of (P := Try.prog) (X := []) (pn := []) (rs := (fun (t : TBar) => [(.agg [(iC t.A),(iC t.B)])])) (dfs := (fun (t : TBar) => [])) Try.func180 Q Try.ntmps180 (K Q) Q ?_
 intro w0 U0 R0 g0
 unfold m_laws_toBar
 refine Ws (Wr ?_)
 refine Os10 (LT.box (n := 21) (v := (.agg [(iC a.A),(iC a.B)])) Q sz149 (by exact Q)) Q Q Q (Os00 (LT.alloc (n := 22) (cells := [(iC 0),(iC 0)]) Q ti112 Q Q Q) Q Q (On (Ws (Wr ?_))))
 refine Os00 (LT.alloc (n := 23) (cells := [(iC 0),(iC 0)]) Q ti112 Q Q Q) Q Q (On (Ws (Wr ?_)))
 refine Op10 (LT.fieldPl Q fo149_0) Q Q Q (Op11 (LT.bload1 (c := (iC a.A)) Q ag3 (by exact Q)) Q Q Q Q (Op10 (LT.fieldPl Q fo112_0) Q Q Q (Os21 (LT.bstore (v := (.c (iC a.A))) (out := [(iC a.A),(iC 0)]) Q Q (infS inf3) sz3 (by exact Q) (by exact K Q) (by exact Q)) Q Q Q Q Q (On (Ws ?_)))))
 refine en [(1,(Cc (.pl 21 0))),(2,(Cc (.pl 22 0))),(3,(Cc (.pl 23 0)))] [(21,(.row 149 [[(iC a.A),(iC a.B)]])),(22,(.row 112 [[(iC 0),(iC 0)]])),(23,(.row 112 [[(iC a.A),(iC 0)]]))] z3 z3 (Wr (Op10 (LT.fieldPl Q fo149_1) Q Q Q (Op11 (LT.bload1 (c := (iC a.B)) Q ag3 (by exact Q)) Q Q Q Q (Op10 (LT.fieldPl Q fo112_1) Q Q Q (Os21 (LT.bstore (v := (.c (iC a.B))) (out := [(iC a.A),(iC a.B)]) Q Q (infS inf3) sz3 (by exact Q) (by exact K Q) (by exact Q)) Q Q Q Q Q (On (Ws (Wr ?_))))))))
 refine Op11 (LT.bloadN (out := [(iC a.A),(iC a.B)]) Q ag112 (infS inf112) sz112 (by exact Q) (by exact Q)) Q Q Q Q (Os21 (LT.bstore (v := (.agg [(iC a.A),(iC a.B)])) (out := [(iC a.A),(iC a.B)]) Q Q (infS inf112) sz112 (by exact Q) (by exact K Q) (by exact Q)) Q Q Q Q Q (On (AWR.ret (FPost.mk (.inr Q) ⟨⟨_,_,_,Q,Q,Q,ag112,sz112,_,(infS inf112)⟩,J⟩ J Q ⟨⟨PermP.sc,PermP.sc,J⟩,J⟩ J))))
theorem w_laws_toBarS (a : (List TBar)) : ∀ t,m_laws_toBarS a = some t → Fw.Fn Try.prog 123 [(.c (xF encTBar a))] [] (.s (.c (lo 0 t.length))) [(0,(pR 112 encTBar t))] [] [0] := by
 refine Fw.Fn.of (P := Try.prog) (X := [0]) (pn := []) (rs := (fun (t : (List TBar)) => [(.c (lo 0 t.length))])) (dfs := (fun (t : (List TBar)) => [(0,(pR 112 encTBar t))])) Try.func123 Q Try.ntmps123 (K Q) Q ?_
 intro w0 U0 R0 g0
 unfold m_laws_toBarS
 refine Ws (Wr ?_)
 refine asg (Cc (sC nilV)) Q y2 Q Q (On (Ws (Wr ?_)))
 refine mv (Cc (xF encTBar a)) Q Q Q Q (Op10 (LT.tlenRO Q und22) Q Q Q (Ob' fun u1 hu1 => (Os20 (LT.tmake (n := 21) (enc := encTBar) (zc := [(iC 0),(iC 0)]) (TBar.mk (0 : Int) (0 : Int)) Q und30 ti112 Q Q Q (by decide) (by decide) (lenOk_le hu1) Q) Q Q Q Q (asg (Cc (lo 21 ((List.replicate (a.length : Int).toNat (TBar.mk (0 : Int) (0 : Int))).length))) Q Q Q Q (On (Ws (Ws (Wr ?_))))))))
 refine asg (Iv 0) Q y2 Q Q (On (AWR.block ?_))
 refine AWR.loop1 (id := 0) (m_laws_toBarS_L1 a) (fun s2 => ([(0,(Cc (xF encTBar a))),(3,(Cc (lo 21 s2.2.length))),(4,(Iv s2.1))],[(21,(pR 112 encTBar s2.2))])) (fun b11 => ([(3,(Cc (lo 21 b11.length)))],[(21,(pR 112 encTBar b11))])) ?_ (Ent.of z3 z1) Q (fun b11 _ => ?_)
 ·intro s2
  unfold m_laws_toBarS_L1
  refine Ws (Ws (Wr ?_))
  refine mv (Iv s2.1) Q Q Q Q (mv (Cc (xF encTBar a)) Q Q Q Q (Op10 (LT.tlenRO Q und22) Q Q Q (Op20 (LT.lss Q) Q Q Q Q (On (AWR.cond Q (fun hc12 => ?_) (fun hc12 => ?_))))))
  ·refine AWR.skip (Ws (AWR.block (Wr ?_)))
   refine mv (Cc (lo 21 s2.2.length)) Q Q Q Q (mv (Iv s2.1) Q Q Q Q (mv (Cc (xF encTBar a)) Q Q Q Q (mv (Iv s2.1) Q Q Q Q (Ob' fun x13 hx13 => (Op20 (LT.tindexRO (enc := encTBar) Q el22 hx13 sz149) Q Q Q Q (Op10 (LT.loadPxN Q ag149 (infS inf149) (by exact sz149.symm)) Q Q Q (Ob' fun r14 hr14 => (AOR.pure (@LT.callF Try.prog _ _ 180 _ _ [(.agg [(iC x13.A),(iC x13.B)])] _ _ [] _ _ _ _ (w_laws_toBar x13 r14 hr14) Q cb180 (.cons (.agg (.cons (.same Q) (.cons (.same Q) .nil))) .nil) Q Q J) z2 J Q Q (Ob' fun x15 hx15 => (Op21 (LT.tindexLoc Q Q el30 hx15) Q Q Q Q Q (Os21 (LT.tstore (k := 0) (v := (.agg [(iC r14.A),(iC r14.B)])) (b' := r14) Q Q (infS inf112) sz112 (by exact Q) hx15 (by exact Q) (by exact K Q) (by exact Q)) Q Q Q Q Q ?_)))))))))))
   refine On (AWR.blk ?_)
   refine en [(0,(Cc (xF encTBar a))),(3,(Cc (lo 21 s2.2.length))),(4,(Iv s2.1))] [(21,(pR 112 encTBar (s2.2.set s2.1.toNat r14)))] z3 z1 (Wr (mv (Iv s2.1) Q Q Q Q (Op20 (LT.add Q) Q y2 Q Q (asg (Iv (w64 (s2.1 + 1))) Q Q Q Q (On (AWR.nil ⟨Q,Ent.of ⟨Q,(congrArg (fun l1 => (some (AV.s (.c (lo 21 l1))) : Option AV)) (show s2.2.length = (s2.2.set s2.1.toNat r14).length by simp only [List.length_set])),Q,J⟩ z1⟩))))))
  ·refine AWR.exit_end Q ⟨Q,Ent.of z1 z1⟩
 ·refine Ws (Wr ?_)
  refine mv (Cc (lo 21 b11.length)) Q Q Q Q (asg (Cc (lo 21 b11.length)) Q Q Q Q (On (en [(2,(Cc (lo 21 b11.length)))] [(21,(pR 112 encTBar b11))] z1 z1 (AWR.ent (Ent.mv 21 0 Q Q) (en [(2,(Cc (lo 0 b11.length)))] [(0,(pR 112 encTBar b11))] z1 z1 (AWR.ret (FPost.mk (.inr Q) z1 z1 Q ⟨J,J⟩ ⟨PermO.prow' perm_encTBar,J⟩)))))))
theorem w_laws_toGraph (a : TGraph) : ∀ t,m_laws_toGraph a = some t → Fw.Fn Try.prog 46 [(.agg [(iC a.Points),(xF encTBar a.Bars)])] [] (.s (.agg [(iC t.Points),(lo 0 t.Bars.length)])) [(0,(pR 112 encTBar t.Bars))] [] [0] := by
 refine Fw.Fn.of (P := Try.prog) (X := [0]) (pn := []) (rs := (fun (t : TGraph) => [(.agg [(iC t.Points),(lo 0 t.Bars.length)])])) (dfs := (fun (t : TGraph) => [(0,(pR 112 encTBar t.Bars))])) Try.func46 Q Try.ntmps46 (K Q) Q ?_
 intro w0 U0 R0 g0
 unfold m_laws_toGraph
 refine Ws (Wr ?_)
 refine Os10 (LT.box (n := 21) (v := (.agg [(iC a.Points),(xF encTBar a.Bars)])) Q sz24 (by exact Q)) Q Q Q (Os00 (LT.alloc (n := 22) (cells := [(iC 0),(sC nilV)]) Q ti32 Q Q Q) Q Q (On (Ws (Wr ?_))))
 refine Os00 (LT.alloc (n := 23) (cells := [(iC 0),(sC nilV)]) Q ti32 Q Q Q) Q Q (On (Ws (Wr ?_)))
 refine Op10 (LT.fieldPl Q fo24_0) Q Q Q (Op11 (LT.bload1 (c := (iC a.Points)) Q ag3 (by exact Q)) Q Q Q Q (Op10 (LT.fieldPl Q fo32_0) Q Q Q (Os21 (LT.bstore (v := (.c (iC a.Points))) (out := [(iC a.Points),(sC nilV)]) Q Q (infS inf3) sz3 (by exact Q) (by exact K Q) (by exact Q)) Q Q Q Q Q (On (Ws ?_)))))
 refine en [(1,(Cc (.pl 21 0))),(2,(Cc (.pl 22 0))),(3,(Cc (.pl 23 0)))] [(21,(.row 24 [[(iC a.Points),(xF encTBar a.Bars)]])),(22,(.row 32 [[(iC 0),(sC nilV)]])),(23,(.row 32 [[(iC a.Points),(sC nilV)]]))] z3 z3 (Wr (Op10 (LT.fieldPl Q fo24_1) Q Q Q (Op11 (LT.bload1 (c := (xF encTBar a.Bars)) Q ag22 (by exact Q)) Q Q Q Q (Ob' fun r1 hr1 => (AOR.step (@LT.callF Try.prog _ _ 123 _ _ [(.c (xF encTBar a.Bars))] _ _ [] _ _ _ _ ((show Fw.Fn Try.prog 123 [(.c (xF encTBar a.Bars))] [] (Cc (lo 25 r1.length)) [(25,(pR 112 encTBar r1))] [] [25] from Fw.Fn.ren [(0,25)] (w_laws_toBarS a.Bars r1 hr1) Q)) Q cb123 (.cons (.c (.same Q)) .nil) Q Q J) z2 J Q Q (Op10 (LT.fieldPl Q fo32_1) Q Q Q (Os21 (LT.bstore (v := (.c (lo 25 r1.length))) (out := [(iC a.Points),(lo 25 r1.length)]) Q Q (infS inf30) sz30 (by exact Q) (by exact K Q) (by exact Q)) Q Q Q Q Q (On (Ws (Wr ?_))))))))))
 refine Op11 (LT.bloadN (out := [(iC a.Points),(lo 25 r1.length)]) Q ag32 (infS inf32) sz32 (by exact Q) (by exact Q)) Q Q Q Q (Os21 (LT.bstore (v := (.agg [(iC a.Points),(lo 25 r1.length)])) (out := [(iC a.Points),(lo 25 r1.length)]) Q Q (infS inf32) sz32 (by exact Q) (by exact K Q) (by exact Q)) Q Q Q Q Q (On (en [(2,(Cc (.pl 22 0)))] [(22,(.row 32 [[(iC a.Points),(lo 25 r1.length)]])),(25,(pR 112 encTBar r1))] z1 z2 (AWR.ent (Ent.mv 25 0 Q Q) (en [(2,(Cc (.pl 22 0)))] [(0,(pR 112 encTBar r1)),(22,(.row 32 [[(iC a.Points),(lo 0 r1.length)]]))] z1 z2 (AWR.ret (FPost.mk (.inr Q) ⟨⟨_,_,_,Q,Q,Q,ag32,sz32,_,(infS inf32)⟩,J⟩ z1 Q ⟨⟨PermP.sc,J,J⟩,J⟩ ⟨PermO.prow' perm_encTBar,J⟩)))))))
end Go.Proofs.Yteognanhfpbghaa
end
section
set_option linter.unusedVariables false
set_option linter.unusedSimpArgs false
set_option linter.unnecessarySimpa false
set_option maxRecDepth 100000
set_option maxHeartbeats 8000000
open Go Go.Fw
namespace Go.Proofs.Yteognanhfpbghaa
theorem w_laws_eqBar (a : TBar) (b : TBar) : ∀ t,m_laws_eqBar a b = some t → Fw.Fn Try.prog 156 [(.agg [(iC a.A),(iC a.B)]),(.agg [(iC b.A),(iC b.B)])] [] (.s (.c (bC t))) [] [] [] := by
 refine Fw.Fn.of (P := Try.prog) (X := []) (pn := []) (rs := (fun (t : Bool) => [(.c (bC t))])) (dfs := (fun (t : Bool) => [])) Try.func156 Q Try.ntmps156 (K Q) Q ?_
 intro w0 U0 R0 g0
 unfold m_laws_eqBar
 refine Ws (Wr ?_)
 refine Os10 (LT.box (n := 21) (v := (.agg [(iC a.A),(iC a.B)])) Q sz112 (by exact Q)) Q Q Q (Os10 (LT.box (n := 22) (v := (.agg [(iC b.A),(iC b.B)])) Q sz112 (by exact Q)) Q Q Q (asg (Bv false) Q y2 Q Q (On (Ws (Ws (Wr ?_))))))
 refine Op10 (LT.fieldPl Q fo112_0) Q Q Q (Op11 (LT.bload1 (c := (iC a.A)) Q ag3 (by exact Q)) Q Q Q Q (Op10 (LT.fieldPl Q fo112_0) Q Q Q (Op11 (LT.bload1 (c := (iC b.A)) Q ag3 (by exact Q)) Q Q Q Q (Op20 (LT.neq Q) Q Q Q Q (On (AWR.cond Q (fun hc1 => ?_) (fun hc1 => ?_)))))))
 ·refine Ws (en [] [] J J (Wr (asg (Bv false) Q y2 Q Q (On (AWR.ret (FPost.mk (.inr Q) z1 J Q ⟨PermP.sc,J⟩ J))))))
 ·refine AWR.skip (Ws (Ws ?_))
  refine en [(2,(Cc (.pl 21 0))),(3,(Cc (.pl 22 0)))] [(21,(.row 112 [[(iC a.A),(iC a.B)]])),(22,(.row 112 [[(iC b.A),(iC b.B)]]))] z2 z2 (Wr (Op10 (LT.fieldPl Q fo112_1) Q Q Q (Op11 (LT.bload1 (c := (iC a.B)) Q ag3 (by exact Q)) Q Q Q Q (Op10 (LT.fieldPl Q fo112_1) Q Q Q (Op11 (LT.bload1 (c := (iC b.B)) Q ag3 (by exact Q)) Q Q Q Q (Op20 (LT.neq Q) Q Q Q Q (On (AWR.cond Q (fun hc2 => ?_) (fun hc2 => ?_)))))))))
  ·refine Ws (Wr ?_)
   refine asg (Bv false) Q y2 Q Q (On (AWR.ret (FPost.mk (.inr Q) z1 J Q ⟨PermP.sc,J⟩ J)))
  ·refine AWR.skip (Ws (Wr ?_))
   refine asg (Bv true) Q y2 Q Q (On (AWR.ret (FPost.mk (.inr Q) z1 J Q ⟨PermP.sc,J⟩ J)))
theorem w_laws_eqBarS (a : (List TBar)) (b : (List TBar)) : ∀ t,m_laws_eqBarS a b = some t → Fw.Fn Try.prog 77 [(.c (xF encTBar a)),(.c (xF encTBar b))] [] (.s (.c (bC t))) [] [] [] := by
 refine Fw.Fn.of (P := Try.prog) (X := []) (pn := []) (rs := (fun (t : Bool) => [(.c (bC t))])) (dfs := (fun (t : Bool) => [])) Try.func77 Q Try.ntmps77 (K Q) Q ?_
 intro w0 U0 R0 g0
 unfold m_laws_eqBarS
 refine Ws (Wr ?_)
 refine asg (Bv false) Q y2 Q Q (On (Ws (Ws (Wr ?_))))
 refine mv (Cc (xF encTBar a)) Q Q Q Q (Op10 (LT.tlenRO Q und30) Q Q Q (mv (Cc (xF encTBar b)) Q Q Q Q (Op10 (LT.tlenRO Q und30) Q Q Q (Op20 (LT.neq Q) Q Q Q Q (On (AWR.cond Q (fun hc1 => ?_) (fun hc1 => ?_)))))))
 ·refine Ws (Wr ?_)
  refine asg (Bv false) Q y2 Q Q (On (AWR.ret (FPost.mk (.inr Q) z1 J Q ⟨PermP.sc,J⟩ J)))
 ·refine AWR.skip (Ws (Ws (Wr ?_)))
  refine asg (Iv 0) Q y2 Q Q (On (AWR.block ?_))
  refine AWR.loopR (id := 0) (m_laws_eqBarS_L1 a b) (fun s2 => ([(0,(Cc (xF encTBar a))),(1,(Cc (xF encTBar b))),(5,(Iv s2))],[])) (fun b13 => ([],[])) (FPost Try.prog Try.f77.results.toList [] [] (fun (t : Bool) => [(.c (bC t))]) (fun (t : Bool) => [])) ?_ (Ent.of z3 J) Q (fun b13 _ => ?_) (by intro r t σ m ht hk; injection ht with ht; subst ht; exact hk)
  ·intro s2
   unfold m_laws_eqBarS_L1
   refine Ws (Ws (Wr ?_))
   refine mv (Iv s2) Q Q Q Q (mv (Cc (xF encTBar a)) Q Q Q Q (Op10 (LT.tlenRO Q und30) Q Q Q (Op20 (LT.lss Q) Q Q Q Q (On (AWR.cond Q (fun hc14 => ?_) (fun hc14 => ?_))))))
   ·refine AWR.skip (Ws (AWR.block (Ws (AWR.draw mixed ?_))))
    refine Dp10 (LT.move (v := (Cc (xF encTBar a))) Q) Q Q Q (Dp10 (LT.move (v := (Iv s2)) Q) Q Q Q (AOD.bind fun x15 hx15 => (Dp20 (LT.tindexRO (enc := encTBar) Q el30 hx15 sz112) Q Q Q Q (Dp10 (LT.loadPxN Q ag112 (infS inf112) (by exact sz112.symm)) Q Q Q (Dp10 (LT.move (v := (Cc (xF encTBar b))) Q) Q Q Q (Dp10 (LT.move (v := (Iv s2)) Q) Q Q Q (AOD.bind fun x16 hx16 => (Dp20 (LT.tindexRO (enc := encTBar) Q el30 hx16 sz112) Q Q Q Q (Dp10 (LT.loadPxN Q ag112 (infS inf112) (by exact sz112.symm)) Q Q Q (AOD.bind fun r17 hr17 => (AOD.pure (@LT.callF Try.prog _ _ 156 _ _ [(.agg [(iC x15.A),(iC x15.B)]),(.agg [(iC x16.A),(iC x16.B)])] _ _ [] _ _ _ _ (w_laws_eqBar x15 x16 r17 hr17) Q cb156 (.cons (.agg (.cons (.same Q) (.cons (.same Q) .nil))) (.cons (.agg (.cons (.same Q) (.cons (.same Q) .nil))) .nil)) Q Q J) z3 J Q Q ?_)))))))))))
    refine Dp10 (LT.not Q) Q Q Q (AOD.nil (by kernel_rfl) (AWR.cond Q (fun hc18 => ?_) (fun hc18 => ?_)))
    ·refine Ws (en [] [] J J (Wr (asg (Bv false) Q y2 Q Q (On (AWR.ret ⟨Q,FPost.mk (.inr Q) z1 J Q ⟨PermP.sc,J⟩ J⟩)))))
    ·refine AWR.skip (AWR.blk ?_)
     refine en [(0,(Cc (xF encTBar a))),(1,(Cc (xF encTBar b))),(5,(Iv s2))] [] z3 J (Wr (mv (Iv s2) Q Q Q Q (Op20 (LT.add Q) Q y2 Q Q (asg (Iv (w64 (s2 + 1))) Q Q Q Q (On (AWR.nil ⟨Q,Ent.of z3 J⟩))))))
   ·refine AWR.exit_end Q ⟨Q,Ent.of J J⟩
  ·refine Ws (Wr ?_)
   refine asg (Bv true) Q y2 Q Q (On (AWR.ret (FPost.mk (.inr Q) z1 J Q ⟨PermP.sc,J⟩ J)))
theorem w_laws_eqGraph (a : TGraph) (b : TGraph) : ∀ t,m_laws_eqGraph a b = some t → Fw.Fn Try.prog 37 [(.agg [(iC a.Points),(xF encTBar a.Bars)]),(.agg [(iC b.Points),(xF encTBar b.Bars)])] [] (.s (.c (bC t))) [] [] [] := by
 refine Fw.Fn.of (P := Try.prog) (X := []) (pn := []) (rs := (fun (t : Bool) => [(.c (bC t))])) (dfs := (fun (t : Bool) => [])) Try.func37 Q Try.ntmps37 (K Q) Q ?_
 intro w0 U0 R0 g0
 unfold m_laws_eqGraph
 refine Ws (Wr ?_)
 refine Os10 (LT.box (n := 21) (v := (.agg [(iC a.Points),(xF encTBar a.Bars)])) Q sz32 (by exact Q)) Q Q Q (Os10 (LT.box (n := 22) (v := (.agg [(iC b.Points),(xF encTBar b.Bars)])) Q sz32 (by exact Q)) Q Q Q (asg (Bv false) Q y2 Q Q (On (Ws (Ws (Wr ?_))))))
 refine Op10 (LT.fieldPl Q fo32_0) Q Q Q (Op11 (LT.bload1 (c := (iC a.Points)) Q ag3 (by exact Q)) Q Q Q Q (Op10 (LT.fieldPl Q fo32_0) Q Q Q (Op11 (LT.bload1 (c := (iC b.Points)) Q ag3 (by exact Q)) Q Q Q Q (Op20 (LT.neq Q) Q Q Q Q (On (AWR.cond Q (fun hc1 => ?_) (fun hc1 => ?_)))))))
 ·refine Ws (en [] [] J J (Wr (asg (Bv false) Q y2 Q Q (On (AWR.ret (FPost.mk (.inr Q) z1 J Q ⟨PermP.sc,J⟩ J))))))
 ·refine AWR.skip (Ws (Ws ?_))
  refine en [(2,(Cc (.pl 21 0))),(3,(Cc (.pl 22 0)))] [(21,(.row 32 [[(iC a.Points),(xF encTBar a.Bars)]])),(22,(.row 32 [[(iC b.Points),(xF encTBar b.Bars)]]))] z2 z2 (Wr (Op10 (LT.fieldPl Q fo32_1) Q Q Q (Op11 (LT.bload1 (c := (xF encTBar a.Bars)) Q ag30 (by exact Q)) Q Q Q Q (Op10 (LT.fieldPl Q fo32_1) Q Q Q (Op11 (LT.bload1 (c := (xF encTBar b.Bars)) Q ag30 (by exact Q)) Q Q Q Q (Ob' fun r2 hr2 => (AOR.pure (@LT.callF Try.prog _ _ 77 _ _ [(.c (xF encTBar a.Bars)),(.c (xF encTBar b.Bars))] _ _ [] _ _ _ _ (w_laws_eqBarS a.Bars b.Bars r2 hr2) Q cb77 (.cons (.c (.same Q)) (.cons (.c (.same Q)) .nil)) Q Q J) z3 J Q Q (Op10 (LT.not Q) Q Q Q (On (AWR.cond Q (fun hc3 => ?_) (fun hc3 => ?_)))))))))))
  ·refine Ws (Wr ?_)
   refine asg (Bv false) Q y2 Q Q (On (AWR.ret (FPost.mk (.inr Q) z1 J Q ⟨PermP.sc,J⟩ J)))
  ·refine AWR.skip (Ws (Wr ?_))
   refine asg (Bv true) Q y2 Q Q (On (AWR.ret (FPost.mk (.inr Q) z1 J Q ⟨PermP.sc,J⟩ J)))
end Go.Proofs.Yteognanhfpbghaa
end
section
set_option linter.unusedVariables false
set_option linter.unusedSimpArgs false
set_option linter.unnecessarySimpa false
set_option maxRecDepth 100000
set_option maxHeartbeats 8000000
open Go Go.Fw
namespace Go.Proofs.Yteognanhfpbghaa
theorem w_laws_markBarS (a : (List TBar)) (k : Int) : ∀ t,m_laws_markBarS a k = some t → Fw.Fn Try.prog 78 [(.c (lo 0 a.length)),(.c (iC k))] [(0,(pR 112 encTBar a))] (.s (.c (iC t.1))) [(0,(pR 112 encTBar t.2))] [0] [] := by
 refine Fw.Fn.of (P := Try.prog) (X := []) (pn := [0]) (rs := (fun (t : (Int × (List TBar))) => [(.c (iC t.1))])) (dfs := (fun (t : (Int × (List TBar))) => [(0,(pR 112 encTBar t.2))])) Try.func78 Q Try.ntmps78 (K Q) Q ?_
 intro w0 U0 R0 g0
 unfold m_laws_markBarS
 refine Ws (Wr ?_)
 refine asg (Iv 0) Q y2 Q Q (On (Ws (Ws (Wr ?_))))
 refine asg (Iv 0) Q y2 Q Q (On (AWR.block ?_))
 refine AWR.loop1 (id := 0) (m_laws_markBarS_L1) (fun s1 => ([(0,(Cc (lo 0 s1.2.2.length))),(1,(Iv s1.1)),(5,(Iv s1.2.1))],[(0,(pR 112 encTBar s1.2.2))])) (fun b8 => ([(1,(Iv b8.1))],[(0,(pR 112 encTBar b8.2))])) ?_ (Ent.of z3 z1) Q (fun b8 _ => ?_)
 ·intro s1
  unfold m_laws_markBarS_L1
  refine Ws (Ws (Wr ?_))
  refine mv (Iv s1.2.1) Q Q Q Q (mv (Cc (lo 0 s1.2.2.length)) Q Q Q Q (Op10 (LT.lenLoc Q und30) Q Q Q (Op20 (LT.lss Q) Q Q Q Q (On (AWR.cond Q (fun hc9 => ?_) (fun hc9 => ?_))))))
  ·refine AWR.skip (Ws (AWR.block (Ws (Wr ?_))))
   refine mv (Cc (lo 0 s1.2.2.length)) Q Q Q Q (mv (Iv s1.2.1) Q Q Q Q (mv (Iv s1.1) Q Q Q Q (Ob' fun x10 hx10 => (Op21 (LT.tindexLoc Q Q el30 hx10) Q Q Q Q Q (Op10 (LT.fieldPl Q fo112_0) Q Q Q (Os21 (LT.tstore (k := 0) (v := (.c (iC s1.1))) (b' := (TBar.mk s1.1 x10.B)) Q Q (infS inf3) sz3 (by exact Q) hx10 (by exact Q) (by exact K Q) (by exact Q)) Q Q Q Q Q (On (Ws ?_))))))))
   refine en [(0,(Cc (lo 0 s1.2.2.length))),(1,(Iv s1.1)),(5,(Iv s1.2.1))] [(0,(pR 112 encTBar (s1.2.2.set s1.2.1.toNat (TBar.mk s1.1 x10.B))))] z3 z1 (Wr (mv (Iv s1.1) Q Q Q Q (Op20 (LT.add Q) Q y2 Q Q (asg (Iv (w64 (s1.1 + 1))) Q Q Q Q (On (Ws (Wr ?_)))))))
   refine mv (Cc (lo 0 s1.2.2.length)) Q Q Q Q (mv (Iv s1.2.1) Q Q Q Q (mv (Iv (w64 (s1.1 + 1))) Q Q Q Q (Ob' fun x11 hx11 => (Op21 (LT.tindexLoc (show s1.2.2.length = (s1.2.2.set s1.2.1.toNat (TBar.mk s1.1 x10.B)).length by simp only [List.length_set]) Q el30 hx11) Q Q Q Q Q (Op10 (LT.fieldPl Q fo112_1) Q Q Q (Os21 (LT.tstore (k := 1) (v := (.c (iC (w64 (s1.1 + 1))))) (b' := (TBar.mk x11.A (w64 (s1.1 + 1)))) Q Q (infS inf3) sz3 (by exact Q) hx11 (by exact Q) (by exact K Q) (by exact Q)) Q Q Q Q Q (On (en [(0,(Cc (lo 0 s1.2.2.length))),(1,(Iv (w64 (s1.1 + 1)))),(5,(Iv s1.2.1))] [(0,(pR 112 encTBar ((s1.2.2.set s1.2.1.toNat (TBar.mk s1.1 x10.B)).set s1.2.1.toNat (TBar.mk x11.A (w64 (s1.1 + 1))))))] z3 z1 (Wr (mv (Iv (w64 (s1.1 + 1))) Q Q Q Q (Op20 (LT.add Q) Q y2 Q Q ?_)))))))))))
   refine asg (Iv (w64 ((w64 (s1.1 + 1)) + 1))) Q Q Q Q (On (AWR.blk (Wr ?_)))
   refine mv (Iv s1.2.1) Q Q Q Q (Op20 (LT.add Q) Q y2 Q Q (asg (Iv (w64 (s1.2.1 + 1))) Q Q Q Q (On (AWR.nil ⟨Q,Ent.of ⟨(congrArg (fun l1 => (some (AV.s (.c (lo 0 l1))) : Option AV)) (show s1.2.2.length = ((s1.2.2.set s1.2.1.toNat (TBar.mk s1.1 x10.B)).set s1.2.1.toNat (TBar.mk x11.A (w64 (s1.1 + 1)))).length by simp only [List.length_set])),Q,Q,J⟩ z1⟩))))
  ·refine AWR.exit_end Q ⟨Q,Ent.of z1 z1⟩
 ·refine Ws (Wr ?_)
  refine mv (Iv b8.1) Q Q Q Q (asg (Iv b8.1) Q Q Q Q (On (AWR.ret (FPost.mk (.inr Q) z1 z1 Q ⟨PermP.sc,J⟩ ⟨PermO.prow' perm_encTBar,J⟩))))
theorem w_laws_markGraph (a : TGraph) (k : Int) : ∀ t,m_laws_markGraph a k = some t → Fw.Fn Try.prog 38 [(.agg [(iC a.Points),(lo 0 a.Bars.length)]),(.c (iC k))] [(0,(pR 112 encTBar a.Bars))] (.s (.c (iC t.1))) [(0,(pR 112 encTBar t.2))] [0] [] := by
 refine Fw.Fn.of (P := Try.prog) (X := []) (pn := [0]) (rs := (fun (t : (Int × (List TBar))) => [(.c (iC t.1))])) (dfs := (fun (t : (Int × (List TBar))) => [(0,(pR 112 encTBar t.2))])) Try.func38 Q Try.ntmps38 (K Q) Q ?_
 intro w0 U0 R0 g0
 unfold m_laws_markGraph
 refine Ws (Wr ?_)
 refine Os10 (LT.box (n := 21) (v := (.agg [(iC a.Points),(lo 0 a.Bars.length)])) Q sz32 (by exact Q)) Q Q Q (asg (Iv 0) Q y2 Q Q (On (Ws (Wr ?_))))
 refine Op10 (LT.fieldPl Q fo32_1) Q Q Q (Op11 (LT.bload1 (c := (lo 0 a.Bars.length)) Q ag30 (by exact Q)) Q Q Q Q (mv (Iv k) Q Q Q Q (Ob' fun r1 hr1 => (AOR.step (@LT.callF Try.prog _ _ 78 _ _ [(.c (lo 0 a.Bars.length)),(.c (iC k))] _ _ [] _ _ _ _ ((show Fw.Fn Try.prog 78 [(.c (lo 0 a.Bars.length)),(.c (iC k))] [(0,(pR 112 encTBar a.Bars))] (Iv r1.1) [(0,(pR 112 encTBar r1.2))] [0] [] from Fw.Fn.ren [(0,0)] (w_laws_markBarS a.Bars k r1 hr1) Q)) Q cb78 (.cons (.c (.same Q)) (.cons (.c (.same Q)) .nil)) Q Q z1) z3 z1 Q Q (asg (Iv r1.1) Q Q Q Q (On (Ws ?_)))))))
 refine en [(1,(Iv r1.1))] [(0,(pR 112 encTBar r1.2))] z1 z1 (Wr (mv (Iv r1.1) Q Q Q Q (asg (Iv r1.1) Q Q Q Q (On (AWR.ret (FPost.mk (.inr Q) z1 z1 Q ⟨PermP.sc,J⟩ ⟨PermO.prow' perm_encTBar,J⟩))))))
end Go.Proofs.Yteognanhfpbghaa
end
section
set_option linter.unusedVariables false
set_option linter.unusedSimpArgs false
set_option linter.unnecessarySimpa false
set_option maxRecDepth 100000
set_option maxHeartbeats 8000000
open Go Go.Fw
namespace Go.Proofs.Yteognanhfpbghaa
theorem w_spec_l1In (x : Int) (low : Int) (high : Int) : ∀ t,m_spec_l1In x low high = some t → Fw.Fn Try.prog 111 [(.c (iC x)),(.c (iC low)),(.c (iC high))] [] (.s (.c (bC t))) [] [] [] := by
 refine Fw.Fn.of (P := Try.prog) (X := []) (pn := []) (rs := (fun (t : Bool) => [(.c (bC t))])) (dfs := (fun (t : Bool) => [])) Try.func111 Q Try.ntmps111 (K Q) Q ?_
 intro w0 U0 R0 g0
 unfold m_spec_l1In
 refine Ws (Wr ?_)
 refine asg (Bv false) Q y2 Q Q (On (Ws ?_))
 refine AWR.joinK (fun j2 => ([(6,(Bv j2))],[])) ?_ (fun j2 _ => ?_)
 ·refine Wr (mv (Iv x) Q Q Q Q (mv (Iv low) Q Q Q Q (Op20 (LT.geq Q) Q Q Q Q (mv (Bv (decide (low ≤ x))) Q Q Q Q (AOR.split (fun hb3 => ?_) (fun hb3 => ?_))))))
  ·refine mv (Iv x) Q Q (gH hb3 Q Q) Q (mv (Iv high) Q Q (gH hb3 Q Q) Q (Op20 (LT.leq Q) Q Q (gH hb3 Q Q) Q (Op20 (LT.pickT (v := (Bv (decide (x ≤ high)))) Q hb3) Q Q Q Q (asg (Bv (decide (x ≤ high))) Q Q Q Q (On (AWR.nil ⟨Q,Ent.of z1 J⟩))))))
  ·refine Ok Q Q Q (by rw [hb3]; rfl) Q (Ok Q Q Q (by rw [hb3]; rfl) Q (Ok Q Q Q (by rw [hb3]; rfl) Q (Op20 (LT.pickF (v := (Bv false)) Q hb3) Q y2 Q Q (asg (Bv false) Q Q Q Q (On (AWR.nil ⟨Q,Ent.of z1 J⟩))))))
 ·refine AWR.ret (FPost.mk (.inr Q) z1 J Q ⟨PermP.sc,J⟩ J)
theorem w_spec_l2After (a : TBar) (b : TBar) : ∀ t,m_spec_l2After a b = some t → Fw.Fn Try.prog 139 [(.agg [(iC a.A),(iC a.B)]),(.agg [(iC b.A),(iC b.B)])] [] (.s (.c (bC t))) [] [] [] := by
 refine Fw.Fn.of (P := Try.prog) (X := []) (pn := []) (rs := (fun (t : Bool) => [(.c (bC t))])) (dfs := (fun (t : Bool) => [])) Try.func139 Q Try.ntmps139 (K Q) Q ?_
 intro w0 U0 R0 g0
 unfold m_spec_l2After
 refine Ws (Wr ?_)
 refine Os10 (LT.box (n := 21) (v := (.agg [(iC a.A),(iC a.B)])) Q sz112 (by exact Q)) Q Q Q (Os10 (LT.box (n := 22) (v := (.agg [(iC b.A),(iC b.B)])) Q sz112 (by exact Q)) Q Q Q (asg (Bv false) Q y2 Q Q (On (Ws ?_))))
 refine AWR.joinK (fun j3 => ([(4,(Bv j3))],[])) ?_ (fun j3 _ => ?_)
 ·refine Wr (Op10 (LT.fieldPl Q fo112_0) Q Q Q (Op11 (LT.bload1 (c := (iC a.A)) Q ag3 (by exact Q)) Q Q Q Q (Op10 (LT.fieldPl Q fo112_0) Q Q Q (Op11 (LT.bload1 (c := (iC b.A)) Q ag3 (by exact Q)) Q Q Q Q (Op20 (LT.lss Q) Q Q Q Q (mv (Bv (decide (a.A < b.A))) Q Q Q Q (AOR.split (fun hb4 => ?_) (fun hb4 => ?_))))))))
  ·refine Ok Q Q Q (by rw [hb4]; rfl) Q (Ok Q Q Q (by rw [hb4]; rfl) Q (Ok Q Q Q (by rw [hb4]; rfl) Q (Ok Q Q Q (by rw [hb4]; rfl) Q (Ok Q Q Q (by rw [hb4]; rfl) Q (Ok Q Q Q (by rw [hb4]; rfl) Q (Oj Q Q Q Q (Oj Q Q Q Q (Oj Q Q Q Q (Oj Q Q Q Q (Oj Q Q Q Q (Ok Q Q Q (by rw [hb4]; rfl) Q ?_)))))))))))
   refine Op20 (LT.pickT (v := (Bv true)) Q hb4) Q y2 Q Q (asg (Bv true) Q Q Q Q (On (AWR.nil ⟨Q,Ent.of z1 J⟩)))
  ·refine Op10 (LT.fieldPl Q fo112_0) Q (gH hb4 Q Q) Q (Op11 (LT.bload1 (c := (iC a.A)) Q ag3 (by exact Q)) Q Q (gH hb4 Q Q) Q (Op10 (LT.fieldPl Q fo112_0) Q (gH hb4 Q Q) Q (Op11 (LT.bload1 (c := (iC b.A)) Q ag3 (by exact Q)) Q Q (gH hb4 Q Q) Q (Op20 (LT.eql Q) Q Q (gH hb4 Q Q) Q (mv (Bv (a.A == b.A)) Q Q (gH hb4 Q Q) Q (AOR.split (fun hb5 => ?_) (fun hb5 => ?_)))))))
   ·refine Op10 (LT.fieldPl Q fo112_1) Q (gH hb5 Q Q) Q (Op11 (LT.bload1 (c := (iC a.B)) Q ag3 (by exact Q)) Q Q (gH hb5 Q Q) Q (Op10 (LT.fieldPl Q fo112_1) Q (gH hb5 Q Q) Q (Op11 (LT.bload1 (c := (iC b.B)) Q ag3 (by exact Q)) Q Q (gH hb5 Q Q) Q (Op20 (LT.leq Q) Q Q (gH hb5 Q Q) Q (Op20 (LT.pickT (v := (Bv (decide (a.B ≤ b.B)))) Q hb5) Q Q (gH hb4 Q Q) Q (Op20 (LT.pickF (v := (Bv (decide (a.B ≤ b.B)))) Q hb4) Q Q Q Q (asg (Bv (decide (a.B ≤ b.B))) Q Q Q Q (On (AWR.nil ⟨Q,Ent.of z1 J⟩)))))))))
   ·refine Ok Q Q Q (by rw [hb5]; rfl) Q (Ok Q Q Q (by rw [hb5]; rfl) Q (Ok Q Q Q (by rw [hb5]; rfl) Q (Ok Q Q Q (by rw [hb5]; rfl) Q (Ok Q Q Q (by rw [hb5]; rfl) Q (Op20 (LT.pickF (v := (Bv false)) Q hb5) Q y2 (gH hb4 Q Q) Q (Op20 (LT.pickF (v := (Bv false)) Q hb4) Q Q Q Q (asg (Bv false) Q Q Q Q (On (AWR.nil ⟨Q,Ent.of z1 J⟩)))))))))
 ·refine AWR.ret (FPost.mk (.inr Q) z1 J Q ⟨PermP.sc,J⟩ J)
theorem w_impl_within (x : Int) (loV : Int) (hi : Int) : ∀ t,m_impl_within x loV hi = some t → Fw.Fn Try.prog 113 [(.c (iC x)),(.c (iC loV)),(.c (iC hi))] [] (.s (.c (bC t))) [] [] [] := by
 refine Fw.Fn.of (P := Try.prog) (X := []) (pn := []) (rs := (fun (t : Bool) => [(.c (bC t))])) (dfs := (fun (t : Bool) => [])) Try.func113 Q Try.ntmps113 (K Q) Q ?_
 intro w0 U0 R0 g0
 unfold m_impl_within
 refine Ws (Wr ?_)
 refine asg (Bv false) Q y2 Q Q (On (Ws ?_))
 refine AWR.joinK (fun j2 => ([(6,(Bv j2))],[])) ?_ (fun j2 _ => ?_)
 ·refine Wr (mv (Iv x) Q Q Q Q (mv (Iv loV) Q Q Q Q (Op20 (LT.geq Q) Q Q Q Q (mv (Bv (decide (loV ≤ x))) Q Q Q Q (AOR.split (fun hb3 => ?_) (fun hb3 => ?_))))))
  ·refine mv (Iv x) Q Q (gH hb3 Q Q) Q (mv (Iv hi) Q Q (gH hb3 Q Q) Q (Op20 (LT.leq Q) Q Q (gH hb3 Q Q) Q (Op20 (LT.pickT (v := (Bv (decide (x ≤ hi)))) Q hb3) Q Q Q Q (asg (Bv (decide (x ≤ hi))) Q Q Q Q (On (AWR.nil ⟨Q,Ent.of z1 J⟩))))))
  ·refine Ok Q Q Q (by rw [hb3]; rfl) Q (Ok Q Q Q (by rw [hb3]; rfl) Q (Ok Q Q Q (by rw [hb3]; rfl) Q (Op20 (LT.pickF (v := (Bv false)) Q hb3) Q y2 Q Q (asg (Bv false) Q Q Q Q (On (AWR.nil ⟨Q,Ent.of z1 J⟩))))))
 ·refine AWR.ret (FPost.mk (.inr Q) z1 J Q ⟨PermP.sc,J⟩ J)
theorem w_impl_compareInts (a : Int) (b : Int) : ∀ t,m_impl_compareInts a b = some t → Fw.Fn Try.prog 210 [(.c (iC a)),(.c (iC b))] [] (.s (.c (iC t))) [] [] [] := by
 refine Fw.Fn.of (P := Try.prog) (X := []) (pn := []) (rs := (fun (t : Int) => [(.c (iC t))])) (dfs := (fun (t : Int) => [])) Try.func210 Q Try.ntmps210 (K Q) Q ?_
 intro w0 U0 R0 g0
 unfold m_impl_compareInts
 refine Ws (Wr ?_)
 refine asg (Iv 0) Q y2 Q Q (On (Ws (AWR.block (Ws (Wr ?_)))))
 refine mv (Iv a) Q Q Q Q (mv (Iv b) Q Q Q Q (Op20 (LT.lss Q) Q Q Q Q (asg (Bv (decide (a < b))) Q Q Q Q (On (AWR.cond Q (fun hc1 => ?_) (fun hc1 => ?_))))))
 ·refine Ws (Wr ?_)
  refine asg (Iv (-1)) Q y2 Q Q (On (AWR.ret (FPost.mk (.inr Q) z1 J Q ⟨PermP.sc,J⟩ J)))
 ·refine Ws (Wr ?_)
  refine mv (Iv a) Q Q Q Q (mv (Iv b) Q Q Q Q (Op20 (LT.gtr Q) Q Q Q Q (asg (Bv (decide (b < a))) Q Q Q Q (On (AWR.cond Q (fun hc2 => ?_) (fun hc2 => ?_))))))
  ·refine Ws (Wr ?_)
   refine asg (Iv 1) Q y2 Q Q (On (AWR.ret (FPost.mk (.inr Q) z1 J Q ⟨PermP.sc,J⟩ J)))
  ·refine AWR.skip (AWR.blk (Ws (Wr ?_)))
   refine asg (Iv 0) Q y2 Q Q (On (AWR.ret (FPost.mk (.inr Q) z1 J Q ⟨PermP.sc,J⟩ J)))
theorem w_impl_compareBars (x : TBar) (y : TBar) : ∀ t,m_impl_compareBars x y = some t → Fw.Fn Try.prog 175 [(.agg [(iC x.A),(iC x.B)]),(.agg [(iC y.A),(iC y.B)])] [] (.s (.c (iC t))) [] [] [] := by
 refine Fw.Fn.of (P := Try.prog) (X := []) (pn := []) (rs := (fun (t : Int) => [(.c (iC t))])) (dfs := (fun (t : Int) => [])) Try.func175 Q Try.ntmps175 (K Q) Q ?_
 intro w0 U0 R0 g0
 unfold m_impl_compareBars
 refine Ws (Wr ?_)
 refine Os10 (LT.box (n := 21) (v := (.agg [(iC x.A),(iC x.B)])) Q sz112 (by exact Q)) Q Q Q (Os10 (LT.box (n := 22) (v := (.agg [(iC y.A),(iC y.B)])) Q sz112 (by exact Q)) Q Q Q (asg (Iv 0) Q y2 Q Q (On (Ws (Ws (Wr ?_))))))
 refine Op10 (LT.fieldPl Q fo112_0) Q Q Q (Op11 (LT.bload1 (c := (iC x.A)) Q ag3 (by exact Q)) Q Q Q Q (Op10 (LT.fieldPl Q fo112_0) Q Q Q (Op11 (LT.bload1 (c := (iC y.A)) Q ag3 (by exact Q)) Q Q Q Q (Ob' fun r1 hr1 => (AOR.pure (@LT.callF Try.prog _ _ 210 _ _ [(.c (iC x.A)),(.c (iC y.A))] _ _ [] _ _ _ _ (w_impl_compareInts x.A y.A r1 hr1) Q cb210 (.cons (.c (.same Q)) (.cons (.c (.same Q)) .nil)) Q Q J) z3 J Q Q (asg (Iv r1) Q Q Q Q (On (Ws ?_))))))))
 refine en [(2,(Cc (.pl 21 0))),(3,(Cc (.pl 22 0))),(5,(Iv r1))] [(21,(.row 112 [[(iC x.A),(iC x.B)]])),(22,(.row 112 [[(iC y.A),(iC y.B)]]))] z3 z2 (Wr (mv (Iv r1) Q Q Q Q (Op20 (LT.neq Q) Q y2 Q Q (On (AWR.cond Q (fun hc2 => ?_) (fun hc2 => ?_))))))
 ·refine Ws (Wr ?_)
  refine mv (Iv r1) Q Q Q Q (asg (Iv r1) Q Q Q Q (On (AWR.ret (FPost.mk (.inr Q) z1 J Q ⟨PermP.sc,J⟩ J))))
 ·refine AWR.skip (Ws (Wr ?_))
  refine Op10 (LT.fieldPl Q fo112_1) Q Q Q (Op11 (LT.bload1 (c := (iC x.B)) Q ag3 (by exact Q)) Q Q Q Q (Op10 (LT.fieldPl Q fo112_1) Q Q Q (Op11 (LT.bload1 (c := (iC y.B)) Q ag3 (by exact Q)) Q Q Q Q (Ob' fun r3 hr3 => (AOR.pure (@LT.callF Try.prog _ _ 210 _ _ [(.c (iC x.B)),(.c (iC y.B))] _ _ [] _ _ _ _ (w_impl_compareInts x.B y.B r3 hr3) Q cb210 (.cons (.c (.same Q)) (.cons (.c (.same Q)) .nil)) Q Q J) z3 J Q Q (asg (Iv r3) Q Q Q Q (On (AWR.ret (FPost.mk (.inr Q) z1 J Q ⟨PermP.sc,J⟩ J)))))))))
end Go.Proofs.Yteognanhfpbghaa
end
section
set_option linter.unusedVariables false
set_option linter.unusedSimpArgs false
set_option linter.unnecessarySimpa false
set_option maxRecDepth 100000
set_option maxHeartbeats 8000000
open Go Go.Fw
namespace Go.Proofs.Yteognanhfpbghaa
theorem w_spec_IsGraph (g : TGraph) : ∀ t,m_spec_IsGraph g = some t → Fw.Fn Try.prog 61 [(.agg [(iC g.Points),(xF encTBar g.Bars)])] [] (.s (.c (bC t))) [] [] [] := by
 refine Fw.Fn.of (P := Try.prog) (X := []) (pn := []) (rs := (fun (t : Bool) => [(.c (bC t))])) (dfs := (fun (t : Bool) => [])) Try.func61 Q Try.ntmps61 (K Q) Q ?_
 intro w0 U0 R0 g0
 unfold m_spec_IsGraph
 refine Ws (Wr ?_)
 refine Os10 (LT.box (n := 21) (v := (.agg [(iC g.Points),(xF encTBar g.Bars)])) Q sz32 (by exact Q)) Q Q Q (asg (Bv false) Q y2 Q Q (On (Ws (Ws ?_))))
 refine AWR.joinK (fun j3 => ([(1,(Cc (.pl 21 0))),(14,(Bv j3))],[(21,(.row 32 [[(iC g.Points),(xF encTBar g.Bars)]]))])) ?_ (fun j3 _ => ?_)
 ·refine Wr (Op10 (LT.fieldPl Q fo32_0) Q Q Q (Op11 (LT.bload1 (c := (iC g.Points)) Q ag3 (by exact Q)) Q Q Q Q (Ob' fun r4 hr4 => (AOR.pure (@LT.callF Try.prog _ _ 111 _ _ [(.c (iC g.Points)),(.c (iC 1)),(.c (iC 8))] _ _ [] _ _ _ _ (w_spec_l1In g.Points 1 8 r4 hr4) Q cb111 (.cons (.c (.same Q)) (.cons (.c (.same Q)) (.cons (.c (.same Q)) .nil))) Q Q J) ⟨Q,Q,y2,y2,J⟩ J Q Q (Op10 (LT.not Q) Q Q Q (mv (Bv (!r4)) Q Q Q Q (AOR.split (fun hb5 => ?_) (fun hb5 => ?_))))))))
  ·refine Ok Q Q Q (by rw [hb5]; rfl) Q (Ok Q Q Q (by rw [hb5]; rfl) Q (Ok Q Q Q (by rw [hb5]; rfl) Q (Ok Q Q Q (by rw [hb5]; rfl) Q (Op20 (LT.pickT (v := (Bv true)) Q hb5) Q y2 Q Q (On (AWR.nil ⟨Q,Ent.of z2 z1⟩))))))
  ·refine Op10 (LT.fieldPl Q fo32_1) Q (gH hb5 Q Q) Q (Op11 (LT.bload1 (c := (xF encTBar g.Bars)) Q ag30 (by exact Q)) Q Q (gH hb5 Q Q) Q (Op10 (LT.tlenRO Q und30) Q (gH hb5 Q Q) Q (Op20 (LT.gtr Q) Q y2 (gH hb5 Q Q) Q (Op20 (LT.pickF (v := (Bv (decide (24 < (g.Bars.length : Int))))) Q hb5) Q Q Q Q (On (AWR.nil ⟨Q,Ent.of z2 z1⟩))))))
 ·refine AWR.cond Q (fun hc6 => ?_) (fun hc6 => ?_)
  ·refine Ws (Wr ?_)
   refine asg (Bv false) Q y2 Q Q (On (AWR.ret (FPost.mk (.inr Q) z1 J Q ⟨PermP.sc,J⟩ J)))
  ·refine AWR.skip (Ws (Ws (Wr ?_)))
   refine asg (Iv 0) Q y2 Q Q (On (AWR.block ?_))
   refine AWR.loopR (id := 0) (m_spec_IsGraph_L1 g) (fun s7 => ([(1,(Cc (.pl 21 0))),(3,(Iv s7))],[(21,(.row 32 [[(iC g.Points),(xF encTBar g.Bars)]]))])) (fun b40 => ([],[])) (FPost Try.prog Try.f61.results.toList [] [] (fun (t : Bool) => [(.c (bC t))]) (fun (t : Bool) => [])) ?_ (Ent.of z2 z1) Q (fun b40 _ => ?_) (by intro r t σ m ht hk; injection ht with ht; subst ht; exact hk)
   ·intro s7
    unfold m_spec_IsGraph_L1
    refine Ws (Ws (Wr ?_))
    refine mv (Iv s7) Q Q Q Q (Op10 (LT.fieldPl Q fo32_1) Q Q Q (Op11 (LT.bload1 (c := (xF encTBar g.Bars)) Q ag30 (by exact Q)) Q Q Q Q (Op10 (LT.tlenRO Q und30) Q Q Q (Op20 (LT.lss Q) Q Q Q Q (On (AWR.cond Q (fun hc41 => ?_) (fun hc41 => ?_)))))))
    ·refine AWR.skip (Ws (AWR.block (Ws (Wr ?_))))
     refine Op10 (LT.fieldPl Q fo32_1) Q Q Q (Op11 (LT.bload1 (c := (xF encTBar g.Bars)) Q ag30 (by exact Q)) Q Q Q Q (mv (Iv s7) Q Q Q Q (Ob' fun x42 hx42 => (Op20 (LT.tindexRO (enc := encTBar) Q el30 hx42 sz112) Q Q Q Q (Op10 (LT.loadPxN Q ag112 (infS inf112) (by exact sz112.symm)) Q Q Q (Os00 (LT.alloc (n := 23) (cells := [(iC 0),(iC 0)]) Q ti112 Q Q Q) Q Q (Os21 (LT.bstore (v := (.agg [(iC x42.A),(iC x42.B)])) (out := [(iC x42.A),(iC x42.B)]) Q Q (infS inf112) sz112 (by exact Q) (by exact K Q) (by exact Q)) Q Q Q Q Q (On (Ws ?_)))))))))
     refine AWR.joinK (fun j49 => ([(1,(Cc (.pl 21 0))),(3,(Iv s7)),(58,(Bv j49))],[(21,(.row 32 [[(iC g.Points),(xF encTBar g.Bars)]]))])) ?_ (fun j49 _ => ?_)
     ·refine en [(1,(Cc (.pl 21 0))),(3,(Iv s7)),(4,(Cc (.pl 23 0)))] [(21,(.row 32 [[(iC g.Points),(xF encTBar g.Bars)]])),(23,(.row 112 [[(iC x42.A),(iC x42.B)]]))] z3 z2 (AWR.draw mixed (Dp10 (LT.fieldPl Q fo112_0) Q Q Q (Dp11 (LT.bload1 (c := (iC x42.A)) Q ag3 (by exact Q)) Q Q Q Q (Dp20 (LT.lss Q) Q y2 Q Q (Dp10 (LT.move (v := (Bv (decide (x42.A < 0)))) Q) Q Q Q (AOD.split (fun hb50 => ?_) (fun hb50 => ?_)))))))
      ·refine AOD.skip (gH hb50 Q Q) Q (AOD.skip (gH hb50 Q Q) Q (AOD.skip (gH hb50 Q Q) Q (AOD.skip (gH hb50 Q Q) Q (AOD.skip (gH hb50 Q Q) Q (Dp20 (LT.pickT (v := (Bv true)) Q hb50) Q y2 Q Q (Dp10 (LT.move (v := (Bv true)) Q) Q Q Q (AOD.skip (gS Q Q) Q (AOD.skip (gS Q Q) Q (AOD.skip (gS Q Q) Q (AOD.skip (gS Q Q) Q (AOD.skip (gS Q Q) Q ?_)))))))))))
       refine Dp20 (LT.pickT (v := (Bv true)) Q Q) Q y2 Q Q (Dp10 (LT.move (v := (Bv true)) Q) Q Q Q (AOD.skip (gS Q Q) Q (AOD.skip (gS Q Q) Q (AOD.skip (gS Q Q) Q (AOD.skip (gS Q Q) Q (AOD.skip (gS Q Q) Q (AOD.skip (gS Q Q) Q (AOD.skip (gS Q Q) Q (AOD.skip (gS Q Q) Q (AOD.skip (gS Q Q) Q (AOD.skip (gS Q Q) Q ?_)))))))))))
       refine AOD.skip (gS Q Q) Q (AOD.skip (gS Q Q) Q (AOD.skip (gS Q Q) Q (Dp20 (LT.pickT (v := (Bv true)) Q Q) Q y2 Q Q (AOD.nil (by kernel_rfl) (AWR.nil ⟨Q,Ent.of z3 z1⟩)))))
      ·refine Dp10 (LT.fieldPl Q fo112_0) Q (gH hb50 Q Q) Q (Dp11 (LT.bload1 (c := (iC x42.A)) Q ag3 (by exact Q)) Q Q (gH hb50 Q Q) Q (Dp10 (LT.fieldPl Q fo112_1) Q (gH hb50 Q Q) Q (Dp11 (LT.bload1 (c := (iC x42.B)) Q ag3 (by exact Q)) Q Q (gH hb50 Q Q) Q (Dp20 (LT.geq Q) Q Q (gH hb50 Q Q) Q (Dp20 (LT.pickF (v := (Bv (decide (x42.B ≤ x42.A)))) Q hb50) Q Q Q Q (Dp10 (LT.move (v := (Bv (decide (x42.B ≤ x42.A)))) Q) Q Q Q (AOD.split (fun hb51 => ?_) (fun hb51 => ?_))))))))
       ·refine AOD.skip (gH hb51 Q Q) Q (AOD.skip (gH hb51 Q Q) Q (AOD.skip (gH hb51 Q Q) Q (AOD.skip (gH hb51 Q Q) Q (AOD.skip (gH hb51 Q Q) Q (Dp20 (LT.pickT (v := (Bv true)) Q hb51) Q y2 Q Q (Dp10 (LT.move (v := (Bv true)) Q) Q Q Q (AOD.skip (gS Q Q) Q (AOD.skip (gS Q Q) Q (AOD.skip (gS Q Q) Q (AOD.skip (gS Q Q) Q (AOD.skip (gS Q Q) Q ?_)))))))))))
        refine AOD.skip (gS Q Q) Q (AOD.skip (gS Q Q) Q (AOD.skip (gS Q Q) Q (AOD.skip (gS Q Q) Q (AOD.skip (gS Q Q) Q (AOD.skip (gS Q Q) Q (AOD.skip (gS Q Q) Q (AOD.skip (gS Q Q) Q (Dp20 (LT.pickT (v := (Bv true)) Q Q) Q y2 Q Q (AOD.nil (by kernel_rfl) (AWR.nil ⟨Q,Ent.of z3 z1⟩))))))))))
       ·refine Dp10 (LT.fieldPl Q fo112_1) Q (gH hb51 Q Q) Q (Dp11 (LT.bload1 (c := (iC x42.B)) Q ag3 (by exact Q)) Q Q (gH hb51 Q Q) Q (Dp10 (LT.fieldPl Q fo32_0) Q (gH hb51 Q Q) Q (Dp11 (LT.bload1 (c := (iC g.Points)) Q ag3 (by exact Q)) Q Q (gH hb51 Q Q) Q (Dp20 (LT.geq Q) Q Q (gH hb51 Q Q) Q (Dp20 (LT.pickF (v := (Bv (decide (g.Points ≤ x42.B)))) Q hb51) Q Q Q Q (Dp10 (LT.move (v := (Bv (decide (g.Points ≤ x42.B)))) Q) Q Q Q (AOD.split (fun hb52 => ?_) (fun hb52 => ?_))))))))
        ·refine AOD.skip (gH hb52 Q Q) Q (AOD.skip (gH hb52 Q Q) Q (AOD.skip (gH hb52 Q Q) Q (AOD.skip (gS Q Q) Q (AOD.skip (gS Q Q) Q (AOD.skip (gS Q Q) Q (AOD.skip (gS Q Q) Q (AOD.skip (gS Q Q) Q (AOD.skip (gS Q Q) Q (AOD.skip (gS Q Q) Q (AOD.skip (gS Q Q) Q (AOD.skip (gS Q Q) Q ?_)))))))))))
         refine AOD.skip (gH hb52 Q Q) Q (Dp20 (LT.pickT (v := (Bv true)) Q hb52) Q y2 Q Q (AOD.nil (by kernel_rfl) (AWR.nil ⟨Q,Ent.of z3 z1⟩)))
        ·refine Dp10 (LT.move (v := (Iv s7)) Q) Q (gH hb52 Q Q) Q (Dp20 (LT.gtr Q) Q y2 (gH hb52 Q Q) Q (Dp10 (LT.move (v := (Bv (decide (0 < s7)))) Q) Q (gH hb52 Q Q) Q (AOD.split (fun hb53 => ?_) (fun hb53 => ?_))))
         ·refine Dp10 (LT.fieldPl Q fo32_1) Q (gH hb53 Q Q) Q (Dp11 (LT.bload1 (c := (xF encTBar g.Bars)) Q ag30 (by exact Q)) Q Q (gH hb53 Q Q) Q (Dp10 (LT.move (v := (Iv s7)) Q) Q (gH hb53 Q Q) Q (Dp20 (LT.sub Q) Q y2 (gH hb53 Q Q) Q (AOD.bind fun x54 hx54 => (Dp20 (LT.tindexRO (enc := encTBar) Q el30 hx54 sz112) Q Q (gH hb53 Q Q) Q (Dp10 (LT.loadPxN Q ag112 (infS inf112) (by exact sz112.symm)) Q (gH hb53 Q Q) Q (Dp11 (LT.bloadN (out := [(iC x42.A),(iC x42.B)]) Q ag112 (infS inf112) sz112 (by exact Q) (by exact Q)) Q Q (gH hb53 Q Q) Q (AOD.bind fun r55 hr55 => (AOD.pure (@LT.callF Try.prog _ _ 139 _ _ [(.agg [(iC x54.A),(iC x54.B)]),(.agg [(iC x42.A),(iC x42.B)])] _ _ [] _ _ _ _ (w_spec_l2After x54 x42 r55 hr55) Q cb139 (.cons (.agg (.cons (.same Q) (.cons (.same Q) .nil))) (.cons (.agg (.cons (.same Q) (.cons (.same Q) .nil))) .nil)) Q Q J) z3 J (gH hb53 Q Q) Q (Dp10 (LT.not Q) Q (gH hb53 Q Q) Q (Dp20 (LT.pickT (v := (Bv (!r55))) Q hb53) Q Q (gH hb52 Q Q) Q ?_)))))))))))
          refine Dp20 (LT.pickF (v := (Bv (!r55))) Q hb52) Q Q Q Q (AOD.nil (by kernel_rfl) (AWR.nil ⟨Q,Ent.of z3 z1⟩))
         ·refine AOD.skip (gH hb53 Q Q) Q (AOD.skip (gH hb53 Q Q) Q (AOD.skip (gH hb53 Q Q) Q (AOD.skip (gH hb53 Q Q) Q (AOD.skip (gH hb53 Q Q) Q (AOD.skip (gH hb53 Q Q) Q (AOD.skip (gH hb53 Q Q) Q (AOD.skip (gH hb53 Q Q) Q (AOD.skip (gH hb53 Q Q) Q (Dp20 (LT.pickF (v := (Bv false)) Q hb53) Q y2 (gH hb52 Q Q) Q (Dp20 (LT.pickF (v := (Bv false)) Q hb52) Q Q Q Q (AOD.nil (by kernel_rfl) ?_)))))))))))
          refine AWR.nil ⟨Q,Ent.of z3 z1⟩
     ·refine AWR.cond Q (fun hc56 => ?_) (fun hc56 => ?_)
      ·refine Ws (Wr ?_)
       refine asg (Bv false) Q y2 Q Q (On (AWR.ret ⟨Q,FPost.mk (.inr Q) z1 J Q ⟨PermP.sc,J⟩ J⟩))
      ·refine AWR.skip (AWR.blk (Wr ?_))
       refine mv (Iv s7) Q Q Q Q (Op20 (LT.add Q) Q y2 Q Q (asg (Iv (w64 (s7 + 1))) Q Q Q Q (On (AWR.nil ⟨Q,Ent.of z2 z1⟩))))
    ·refine AWR.exit_end Q ⟨Q,Ent.of J J⟩
   ·refine Ws (Wr ?_)
    refine asg (Bv true) Q y2 Q Q (On (AWR.ret (FPost.mk (.inr Q) z1 J Q ⟨PermP.sc,J⟩ J)))
theorem w_impl_IsGraph (g : TGraph) : ∀ t,m_impl_IsGraph g = some t → Fw.Fn Try.prog 131 [(.agg [(iC g.Points),(xF encTBar g.Bars)])] [] (.s (.c (bC t))) [] [] [] := by
 refine Fw.Fn.of (P := Try.prog) (X := []) (pn := []) (rs := (fun (t : Bool) => [(.c (bC t))])) (dfs := (fun (t : Bool) => [])) Try.func131 Q Try.ntmps131 (K Q) Q ?_
 intro w0 U0 R0 g0
 unfold m_impl_IsGraph
 refine Ws (Wr ?_)
 refine Os10 (LT.box (n := 21) (v := (.agg [(iC g.Points),(xF encTBar g.Bars)])) Q sz32 (by exact Q)) Q Q Q (asg (Bv false) Q y2 Q Q (On (Ws (Ws ?_))))
 refine AWR.joinK (fun j3 => ([(1,(Cc (.pl 21 0))),(14,(Bv j3))],[(21,(.row 32 [[(iC g.Points),(xF encTBar g.Bars)]]))])) ?_ (fun j3 _ => ?_)
 ·refine Wr (Op10 (LT.fieldPl Q fo32_0) Q Q Q (Op11 (LT.bload1 (c := (iC g.Points)) Q ag3 (by exact Q)) Q Q Q Q (Ob' fun r4 hr4 => (AOR.pure (@LT.callF Try.prog _ _ 113 _ _ [(.c (iC g.Points)),(.c (iC 1)),(.c (iC 8))] _ _ [] _ _ _ _ (w_impl_within g.Points 1 8 r4 hr4) Q cb113 (.cons (.c (.same Q)) (.cons (.c (.same Q)) (.cons (.c (.same Q)) .nil))) Q Q J) ⟨Q,Q,y2,y2,J⟩ J Q Q (Op10 (LT.not Q) Q Q Q (mv (Bv (!r4)) Q Q Q Q (AOR.split (fun hb5 => ?_) (fun hb5 => ?_))))))))
  ·refine Ok Q Q Q (by rw [hb5]; rfl) Q (Ok Q Q Q (by rw [hb5]; rfl) Q (Ok Q Q Q (by rw [hb5]; rfl) Q (Ok Q Q Q (by rw [hb5]; rfl) Q (Op20 (LT.pickT (v := (Bv true)) Q hb5) Q y2 Q Q (On (AWR.nil ⟨Q,Ent.of z2 z1⟩))))))
  ·refine Op10 (LT.fieldPl Q fo32_1) Q (gH hb5 Q Q) Q (Op11 (LT.bload1 (c := (xF encTBar g.Bars)) Q ag30 (by exact Q)) Q Q (gH hb5 Q Q) Q (Op10 (LT.tlenRO Q und30) Q (gH hb5 Q Q) Q (Op20 (LT.gtr Q) Q y2 (gH hb5 Q Q) Q (Op20 (LT.pickF (v := (Bv (decide (24 < (g.Bars.length : Int))))) Q hb5) Q Q Q Q (On (AWR.nil ⟨Q,Ent.of z2 z1⟩))))))
 ·refine AWR.cond Q (fun hc6 => ?_) (fun hc6 => ?_)
  ·refine Ws (Wr ?_)
   refine asg (Bv false) Q y2 Q Q (On (AWR.ret (FPost.mk (.inr Q) z1 J Q ⟨PermP.sc,J⟩ J)))
  ·refine AWR.skip (Ws (Ws (Wr ?_)))
   refine Op10 (LT.fieldPl Q fo32_1) Q Q Q (Op11 (LT.bload1 (c := (xF encTBar g.Bars)) Q ag30 (by exact Q)) Q Q Q Q (Op10 (LT.tlenRO Q und30) Q Q Q (mv (Iv 0) Q y2 Q Q (On (AWR.block ?_)))))
   refine AWR.loopR (id := 0) (m_impl_IsGraph_L1 g) (fun s7 => ([(1,(Cc (.pl 21 0))),(16,(Cc (xF encTBar g.Bars))),(17,(Iv (g.Bars.length : Int))),(18,(Iv s7))],[(21,(.row 32 [[(iC g.Points),(xF encTBar g.Bars)]]))])) (fun b40 => ([],[])) (FPost Try.prog Try.f131.results.toList [] [] (fun (t : Bool) => [(.c (bC t))]) (fun (t : Bool) => [])) ?_ (Ent.of z4 z1) Q (fun b40 _ => ?_) (by intro r t σ m ht hk; injection ht with ht; subst ht; exact hk)
   ·intro s7
    unfold m_impl_IsGraph_L1
    refine Ws (Wr ?_)
    refine Op20 (LT.lss Q) Q Q Q Q (On (Ws ?_))
    refine AWR.cond Q (fun hc41 => ?_) (fun hc41 => ?_)
    ·refine AWR.skip (Ws (AWR.block (Ws (Wr ?_))))
     refine mv (Iv s7) Q Q Q Q (Ob' fun x42 hx42 => (Op20 (LT.tindexRO (enc := encTBar) Q el30 hx42 sz112) Q Q Q Q (Op10 (LT.loadPxN Q ag112 (infS inf112) (by exact sz112.symm)) Q Q Q (Os00 (LT.alloc (n := 23) (cells := [(iC 0),(iC 0)]) Q ti112 Q Q Q) Q Q (asg (Iv s7) Q Q Q Q (Os21 (LT.bstore (v := (.agg [(iC x42.A),(iC x42.B)])) (out := [(iC x42.A),(iC x42.B)]) Q Q (infS inf112) sz112 (by exact Q) (by exact K Q) (by exact Q)) Q Q Q Q Q (On (Ws ?_))))))))
     refine AWR.joinK (fun j49 => ([(1,(Cc (.pl 21 0))),(16,(Cc (xF encTBar g.Bars))),(17,(Iv (g.Bars.length : Int))),(18,(Iv s7)),(54,(Bv j49))],[(21,(.row 32 [[(iC g.Points),(xF encTBar g.Bars)]]))])) ?_ (fun j49 _ => ?_)
     ·refine en [(1,(Cc (.pl 21 0))),(3,(Iv s7)),(4,(Cc (.pl 23 0))),(16,(Cc (xF encTBar g.Bars))),(17,(Iv (g.Bars.length : Int))),(18,(Iv s7))] [(21,(.row 32 [[(iC g.Points),(xF encTBar g.Bars)]])),(23,(.row 112 [[(iC x42.A),(iC x42.B)]]))] z6 z2 (AWR.draw mixed (Dp10 (LT.fieldPl Q fo112_0) Q Q Q (Dp11 (LT.bload1 (c := (iC x42.A)) Q ag3 (by exact Q)) Q Q Q Q (Dp20 (LT.lss Q) Q y2 Q Q (Dp10 (LT.move (v := (Bv (decide (x42.A < 0)))) Q) Q Q Q (AOD.split (fun hb50 => ?_) (fun hb50 => ?_)))))))
      ·refine AOD.skip (gH hb50 Q Q) Q (AOD.skip (gH hb50 Q Q) Q (AOD.skip (gH hb50 Q Q) Q (AOD.skip (gH hb50 Q Q) Q (AOD.skip (gH hb50 Q Q) Q (Dp20 (LT.pickT (v := (Bv true)) Q hb50) Q y2 Q Q (Dp10 (LT.move (v := (Bv true)) Q) Q Q Q (AOD.skip (gS Q Q) Q (AOD.skip (gS Q Q) Q (AOD.skip (gS Q Q) Q (AOD.skip (gS Q Q) Q (AOD.skip (gS Q Q) Q ?_)))))))))))
       refine Dp20 (LT.pickT (v := (Bv true)) Q Q) Q y2 Q Q (Dp10 (LT.move (v := (Bv true)) Q) Q Q Q (AOD.skip (gS Q Q) Q (AOD.skip (gS Q Q) Q (AOD.skip (gS Q Q) Q (AOD.skip (gS Q Q) Q (AOD.skip (gS Q Q) Q (AOD.skip (gS Q Q) Q (AOD.skip (gS Q Q) Q (AOD.skip (gS Q Q) Q (AOD.skip (gS Q Q) Q (AOD.skip (gS Q Q) Q ?_)))))))))))
       refine AOD.skip (gS Q Q) Q (AOD.skip (gS Q Q) Q (AOD.skip (gS Q Q) Q (Dp20 (LT.pickT (v := (Bv true)) Q Q) Q y2 Q Q (AOD.nil (by kernel_rfl) (AWR.nil ⟨Q,Ent.of z5 z1⟩)))))
      ·refine Dp10 (LT.fieldPl Q fo112_0) Q (gH hb50 Q Q) Q (Dp11 (LT.bload1 (c := (iC x42.A)) Q ag3 (by exact Q)) Q Q (gH hb50 Q Q) Q (Dp10 (LT.fieldPl Q fo112_1) Q (gH hb50 Q Q) Q (Dp11 (LT.bload1 (c := (iC x42.B)) Q ag3 (by exact Q)) Q Q (gH hb50 Q Q) Q (Dp20 (LT.geq Q) Q Q (gH hb50 Q Q) Q (Dp20 (LT.pickF (v := (Bv (decide (x42.B ≤ x42.A)))) Q hb50) Q Q Q Q (Dp10 (LT.move (v := (Bv (decide (x42.B ≤ x42.A)))) Q) Q Q Q (AOD.split (fun hb51 => ?_) (fun hb51 => ?_))))))))
       ·refine AOD.skip (gH hb51 Q Q) Q (AOD.skip (gH hb51 Q Q) Q (AOD.skip (gH hb51 Q Q) Q (AOD.skip (gH hb51 Q Q) Q (AOD.skip (gH hb51 Q Q) Q (Dp20 (LT.pickT (v := (Bv true)) Q hb51) Q y2 Q Q (Dp10 (LT.move (v := (Bv true)) Q) Q Q Q (AOD.skip (gS Q Q) Q (AOD.skip (gS Q Q) Q (AOD.skip (gS Q Q) Q (AOD.skip (gS Q Q) Q (AOD.skip (gS Q Q) Q ?_)))))))))))
        refine AOD.skip (gS Q Q) Q (AOD.skip (gS Q Q) Q (AOD.skip (gS Q Q) Q (AOD.skip (gS Q Q) Q (AOD.skip (gS Q Q) Q (AOD.skip (gS Q Q) Q (AOD.skip (gS Q Q) Q (AOD.skip (gS Q Q) Q (Dp20 (LT.pickT (v := (Bv true)) Q Q) Q y2 Q Q (AOD.nil (by kernel_rfl) (AWR.nil ⟨Q,Ent.of z5 z1⟩))))))))))
       ·refine Dp10 (LT.fieldPl Q fo112_1) Q (gH hb51 Q Q) Q (Dp11 (LT.bload1 (c := (iC x42.B)) Q ag3 (by exact Q)) Q Q (gH hb51 Q Q) Q (Dp10 (LT.fieldPl Q fo32_0) Q (gH hb51 Q Q) Q (Dp11 (LT.bload1 (c := (iC g.Points)) Q ag3 (by exact Q)) Q Q (gH hb51 Q Q) Q (Dp20 (LT.geq Q) Q Q (gH hb51 Q Q) Q (Dp20 (LT.pickF (v := (Bv (decide (g.Points ≤ x42.B)))) Q hb51) Q Q Q Q (Dp10 (LT.move (v := (Bv (decide (g.Points ≤ x42.B)))) Q) Q Q Q (AOD.split (fun hb52 => ?_) (fun hb52 => ?_))))))))
        ·refine AOD.skip (gH hb52 Q Q) Q (AOD.skip (gH hb52 Q Q) Q (AOD.skip (gH hb52 Q Q) Q (AOD.skip (gS Q Q) Q (AOD.skip (gS Q Q) Q (AOD.skip (gS Q Q) Q (AOD.skip (gS Q Q) Q (AOD.skip (gS Q Q) Q (AOD.skip (gS Q Q) Q (AOD.skip (gS Q Q) Q (AOD.skip (gS Q Q) Q (AOD.skip (gS Q Q) Q ?_)))))))))))
         refine AOD.skip (gH hb52 Q Q) Q (Dp20 (LT.pickT (v := (Bv true)) Q hb52) Q y2 Q Q (AOD.nil (by kernel_rfl) (AWR.nil ⟨Q,Ent.of z5 z1⟩)))
        ·refine Dp10 (LT.move (v := (Iv s7)) Q) Q (gH hb52 Q Q) Q (Dp20 (LT.gtr Q) Q y2 (gH hb52 Q Q) Q (Dp10 (LT.move (v := (Bv (decide (0 < s7)))) Q) Q (gH hb52 Q Q) Q (AOD.split (fun hb53 => ?_) (fun hb53 => ?_))))
         ·refine Dp10 (LT.fieldPl Q fo32_1) Q (gH hb53 Q Q) Q (Dp11 (LT.bload1 (c := (xF encTBar g.Bars)) Q ag30 (by exact Q)) Q Q (gH hb53 Q Q) Q (Dp10 (LT.move (v := (Iv s7)) Q) Q (gH hb53 Q Q) Q (Dp20 (LT.sub Q) Q y2 (gH hb53 Q Q) Q (AOD.bind fun x54 hx54 => (Dp20 (LT.tindexRO (enc := encTBar) Q el30 hx54 sz112) Q Q (gH hb53 Q Q) Q (Dp10 (LT.loadPxN Q ag112 (infS inf112) (by exact sz112.symm)) Q (gH hb53 Q Q) Q (Dp11 (LT.bloadN (out := [(iC x42.A),(iC x42.B)]) Q ag112 (infS inf112) sz112 (by exact Q) (by exact Q)) Q Q (gH hb53 Q Q) Q (AOD.bind fun r55 hr55 => (AOD.pure (@LT.callF Try.prog _ _ 175 _ _ [(.agg [(iC x54.A),(iC x54.B)]),(.agg [(iC x42.A),(iC x42.B)])] _ _ [] _ _ _ _ (w_impl_compareBars x54 x42 r55 hr55) Q cb175 (.cons (.agg (.cons (.same Q) (.cons (.same Q) .nil))) (.cons (.agg (.cons (.same Q) (.cons (.same Q) .nil))) .nil)) Q Q J) z3 J (gH hb53 Q Q) Q (Dp20 (LT.gtr Q) Q y2 (gH hb53 Q Q) Q (Dp20 (LT.pickT (v := (Bv (decide (0 < r55)))) Q hb53) Q Q (gH hb52 Q Q) Q ?_)))))))))))
          refine Dp20 (LT.pickF (v := (Bv (decide (0 < r55)))) Q hb52) Q Q Q Q (AOD.nil (by kernel_rfl) (AWR.nil ⟨Q,Ent.of z5 z1⟩))
         ·refine AOD.skip (gH hb53 Q Q) Q (AOD.skip (gH hb53 Q Q) Q (AOD.skip (gH hb53 Q Q) Q (AOD.skip (gH hb53 Q Q) Q (AOD.skip (gH hb53 Q Q) Q (AOD.skip (gH hb53 Q Q) Q (AOD.skip (gH hb53 Q Q) Q (AOD.skip (gH hb53 Q Q) Q (AOD.skip (gH hb53 Q Q) Q (Dp20 (LT.pickF (v := (Bv false)) Q hb53) Q y2 (gH hb52 Q Q) Q (Dp20 (LT.pickF (v := (Bv false)) Q hb52) Q Q Q Q (AOD.nil (by kernel_rfl) ?_)))))))))))
          refine AWR.nil ⟨Q,Ent.of z5 z1⟩
     ·refine AWR.cond Q (fun hc56 => ?_) (fun hc56 => ?_)
      ·refine Ws (Wr ?_)
       refine asg (Bv false) Q y2 Q Q (On (AWR.ret ⟨Q,FPost.mk (.inr Q) z1 J Q ⟨PermP.sc,J⟩ J⟩))
      ·refine AWR.skip (AWR.blk (Wr ?_))
       refine Op20 (LT.add Q) Q y2 Q Q (mv (Iv (w64 (s7 + 1))) Q Q Q Q (On (AWR.nil ⟨Q,Ent.of z4 z1⟩)))
    ·refine AWR.exit_end Q ⟨Q,Ent.of J J⟩
   ·refine Ws (Wr ?_)
    refine asg (Bv true) Q y2 Q Q (On (AWR.ret (FPost.mk (.inr Q) z1 J Q ⟨PermP.sc,J⟩ J)))
end Go.Proofs.Yteognanhfpbghaa
end
section
set_option linter.unusedVariables false
set_option linter.unusedSimpArgs false
set_option linter.unnecessarySimpa false
set_option maxRecDepth 100000
set_option maxHeartbeats 8000000
open Go Go.Fw
namespace Go.Proofs.Yteognanhfpbghaa
theorem w_spec_l2Has (l : (List Int)) (x : Int) : ∀ t,m_spec_l2Has l x = some t → Fw.Fn Try.prog 150 [(.c (xF encInt l)),(.c (iC x))] [] (.s (.c (bC t))) [] [] [] := by
 refine Fw.Fn.of (P := Try.prog) (X := []) (pn := []) (rs := (fun (t : Bool) => [(.c (bC t))])) (dfs := (fun (t : Bool) => [])) Try.func150 Q Try.ntmps150 (K Q) Q ?_
 intro w0 U0 R0 g0
 unfold m_spec_l2Has
 refine Ws (Wr ?_)
 refine asg (Bv false) Q y2 Q Q (On (Ws (Ws (Wr ?_))))
 refine asg (Iv 0) Q y2 Q Q (On (AWR.block ?_))
 refine AWR.loopR (id := 0) (m_spec_l2Has_L1 l x) (fun s1 => ([(0,(Cc (xF encInt l))),(1,(Iv x)),(5,(Iv s1))],[])) (fun b8 => ([],[])) (FPost Try.prog Try.f150.results.toList [] [] (fun (t : Bool) => [(.c (bC t))]) (fun (t : Bool) => [])) ?_ (Ent.of z3 J) Q (fun b8 _ => ?_) (by intro r t σ m ht hk; injection ht with ht; subst ht; exact hk)
 ·intro s1
  unfold m_spec_l2Has_L1
  refine Ws (Ws (Wr ?_))
  refine mv (Iv s1) Q Q Q Q (mv (Cc (xF encInt l)) Q Q Q Q (Op10 (LT.tlenRO Q und45) Q Q Q (Op20 (LT.lss Q) Q Q Q Q (On (AWR.cond Q (fun hc9 => ?_) (fun hc9 => ?_))))))
  ·refine AWR.skip (Ws (AWR.block (Ws (Wr ?_))))
   refine mv (Cc (xF encInt l)) Q Q Q Q (mv (Iv s1) Q Q Q Q (Ob' fun x10 hx10 => (Op20 (LT.tindexRO (enc := encInt) Q el45 hx10 sz3) Q Q Q Q (Op10 (LT.loadPx1 Q ag3) Q Q Q (mv (Iv x) Q Q Q Q (Op20 (LT.eql Q) Q Q Q Q (On (AWR.cond Q (fun hc11 => ?_) (fun hc11 => ?_)))))))))
   ·refine Ws (Wr ?_)
    refine asg (Bv true) Q y2 Q Q (On (AWR.ret ⟨Q,FPost.mk (.inr Q) z1 J Q ⟨PermP.sc,J⟩ J⟩))
   ·refine AWR.skip (AWR.blk (Wr ?_))
    refine mv (Iv s1) Q Q Q Q (Op20 (LT.add Q) Q y2 Q Q (asg (Iv (w64 (s1 + 1))) Q Q Q Q (On (AWR.nil ⟨Q,Ent.of z3 J⟩))))
  ·refine AWR.exit_end Q ⟨Q,Ent.of J J⟩
 ·refine Ws (Wr ?_)
  refine asg (Bv false) Q y2 Q Q (On (AWR.ret (FPost.mk (.inr Q) z1 J Q ⟨PermP.sc,J⟩ J)))
theorem w_slices_Index (s : (List Int)) (v : Int) : ∀ t,m_slices_Index s v = some t → Fw.Fn Try.prog 199 [(.c (xF encInt s)),(.c (iC v))] [] (.s (.c (iC t))) [] [] [] := by
 refine Fw.Fn.of (P := Try.prog) (X := []) (pn := []) (rs := (fun (t : Int) => [(.c (iC t))])) (dfs := (fun (t : Int) => [])) Try.func199 Q Try.ntmps199 (K Q) Q ?_
 intro w0 U0 R0 g0
 unfold m_slices_Index
 refine Ws (Wr ?_)
 refine asg (Iv 0) Q y2 Q Q (On (Ws (Ws (Wr ?_))))
 refine mv (Cc (xF encInt s)) Q Q Q Q (Op10 (LT.tlenRO Q und45) Q Q Q (mv (Iv 0) Q y2 Q Q (On (AWR.block ?_))))
 refine AWR.loopR (id := 0) (m_slices_Index_L1 s v) (fun s1 => ([(0,(Cc (xF encInt s))),(1,(Iv v)),(7,(Iv (s.length : Int))),(8,(Iv s1))],[])) (fun b8 => ([],[])) (FPost Try.prog Try.f199.results.toList [] [] (fun (t : Int) => [(.c (iC t))]) (fun (t : Int) => [])) ?_ (Ent.of z4 J) Q (fun b8 _ => ?_) (by intro r t σ m ht hk; injection ht with ht; subst ht; exact hk)
 ·intro s1
  unfold m_slices_Index_L1
  refine Ws (Wr ?_)
  refine Op20 (LT.lss Q) Q Q Q Q (On (Ws ?_))
  refine AWR.cond Q (fun hc9 => ?_) (fun hc9 => ?_)
  ·refine AWR.skip (Ws (AWR.block (Ws (Wr ?_))))
   refine mv (Iv s1) Q Q Q Q (asg (Iv s1) Q Q Q Q (On (Ws (Wr ?_))))
   refine mv (Iv v) Q Q Q Q (mv (Cc (xF encInt s)) Q Q Q Q (mv (Iv s1) Q Q Q Q (Ob' fun x10 hx10 => (Op20 (LT.tindexRO (enc := encInt) Q el45 hx10 sz3) Q Q Q Q (Op10 (LT.loadPx1 Q ag3) Q Q Q (Op20 (LT.eql Q) Q Q Q Q (On (AWR.cond Q (fun hc11 => ?_) (fun hc11 => ?_)))))))))
   ·refine Ws (Wr ?_)
    refine mv (Iv s1) Q Q Q Q (asg (Iv s1) Q Q Q Q (On (AWR.ret ⟨Q,FPost.mk (.inr Q) z1 J Q ⟨PermP.sc,J⟩ J⟩)))
   ·refine AWR.skip (AWR.blk (Wr ?_))
    refine Op20 (LT.add Q) Q y2 Q Q (mv (Iv (w64 (s1 + 1))) Q Q Q Q (On (AWR.nil ⟨Q,Ent.of z4 J⟩)))
  ·refine AWR.exit_end Q ⟨Q,Ent.of J J⟩
 ·refine Ws (Wr ?_)
  refine asg (Iv (-1)) Q y2 Q Q (On (AWR.ret (FPost.mk (.inr Q) z1 J Q ⟨PermP.sc,J⟩ J)))
theorem w_slices_Contains (s : (List Int)) (v : Int) : ∀ t,m_slices_Contains s v = some t → Fw.Fn Try.prog 149 [(.c (xF encInt s)),(.c (iC v))] [] (.s (.c (bC t))) [] [] [] := by
 refine Fw.Fn.of (P := Try.prog) (X := []) (pn := []) (rs := (fun (t : Bool) => [(.c (bC t))])) (dfs := (fun (t : Bool) => [])) Try.func149 Q Try.ntmps149 (K Q) Q ?_
 intro w0 U0 R0 g0
 unfold m_slices_Contains
 refine Ws (Wr ?_)
 refine asg (Bv false) Q y2 Q Q (On (Ws (Wr ?_)))
 refine mv (Cc (xF encInt s)) Q Q Q Q (mv (Iv v) Q Q Q Q (Ob' fun r1 hr1 => (AOR.pure (@LT.callF Try.prog _ _ 199 _ _ [(.c (xF encInt s)),(.c (iC v))] _ _ [] _ _ _ _ (w_slices_Index s v r1 hr1) Q cb199 (.cons (.c (.same Q)) (.cons (.c (.same Q)) .nil)) Q Q J) z3 J Q Q (Op20 (LT.geq Q) Q y2 Q Q (asg (Bv (decide (0 ≤ r1))) Q Q Q Q (On (AWR.ret (FPost.mk (.inr Q) z1 J Q ⟨PermP.sc,J⟩ J))))))))
end Go.Proofs.Yteognanhfpbghaa
end
section
set_option linter.unusedVariables false
set_option linter.unusedSimpArgs false
set_option linter.unnecessarySimpa false
set_option maxRecDepth 100000
set_option maxHeartbeats 8000000
open Go Go.Fw
namespace Go.Proofs.Yteognanhfpbghaa
theorem w_spec_NewPebbles (g : TGraph) (k : Int) : ∀ t,m_spec_NewPebbles g k = some t → Fw.Fn Try.prog 163 [(.agg [(iC g.Points),(xF encTBar g.Bars)]),(.c (iC k))] [] (resA [(.agg [(lo 0 t.1.Free.length),(lo 1 t.1.Tails.length),(lo 2 t.1.Placed.length)]),(.c (bC t.2))]) [(0,(pR 3 encInt t.1.Free)),(1,(pR 3 encInt t.1.Tails)),(2,(pR 3 encInt t.1.Placed))] [] [0,1,2] := by
 refine Fw.Fn.of (P := Try.prog) (X := [0,1,2]) (pn := []) (rs := (fun (t : (TPebbles × Bool)) => [(.agg [(lo 0 t.1.Free.length),(lo 1 t.1.Tails.length),(lo 2 t.1.Placed.length)]),(.c (bC t.2))])) (dfs := (fun (t : (TPebbles × Bool)) => [(0,(pR 3 encInt t.1.Free)),(1,(pR 3 encInt t.1.Tails)),(2,(pR 3 encInt t.1.Placed))])) Try.func163 Q Try.ntmps163 (K Q) Q ?_
 intro w0 U0 R0 g0
 unfold m_spec_NewPebbles
 refine Ws (Wr ?_)
 refine Os10 (LT.box (n := 21) (v := (.agg [(iC g.Points),(xF encTBar g.Bars)])) Q sz32 (by exact Q)) Q Q Q (Os00 (LT.alloc (n := 22) (cells := [(sC nilV),(sC nilV),(sC nilV)]) Q ti133 Q Q Q) Q Q (asg (Bv false) Q y2 Q Q (On (Ws (Wr ?_)))))
 refine Os00 (LT.tbuildSlice (n := 23) (enc := encInt) [] ([] : List Int) Q Q und45 ti3 Q Q Q Q (by decide) (fun _ => Q) Q) Q Q (Os00 (LT.tbuildSlice (n := 24) (enc := encInt) [] ([] : List Int) Q Q und45 ti3 Q Q Q Q (by decide) (fun _ => Q) Q) Q Q (Os00 (LT.tbuildSlice (n := 25) (enc := encInt) [] ([] : List Int) Q Q und45 ti3 Q Q Q Q (by decide) (fun _ => Q) Q) Q Q (Op30 (LT.build [(0,.tmp 8,(.c (lo 23 (([] : List Int).length)))),(1,.tmp 9,(.c (lo 24 (([] : List Int).length)))),(2,.tmp 10,(.c (lo 25 (([] : List Int).length))))] Q Q pl133 ti133 Q Q Q) Q Q Q Q Q (Os00 (LT.alloc (n := 26) (cells := [(sC nilV),(sC nilV),(sC nilV)]) Q ti133 Q Q Q) Q Q (Os21 (LT.bstore (v := (.agg [(lo 23 (([] : List Int).length)),(lo 24 (([] : List Int).length)),(lo 25 (([] : List Int).length))])) (out := [(lo 23 (([] : List Int).length)),(lo 24 (([] : List Int).length)),(lo 25 (([] : List Int).length))]) Q Q (infS inf133) sz133 (by exact Q) (by exact K Q) (by exact Q)) Q Q Q Q Q (On (Ws (Ws ?_))))))))
 refine AWR.joinK (fun j4 => ([(1,(Iv k)),(2,(Cc (.pl 21 0))),(4,(Cc (.pl 22 0))),(6,(Cc (.pl 26 0))),(19,(Bv j4))],[(21,(.row 32 [[(iC g.Points),(xF encTBar g.Bars)]])),(22,(.row 133 [[(sC nilV),(sC nilV),(sC nilV)]])),(23,(pR 3 encInt ([] : List Int))),(24,(pR 3 encInt ([] : List Int))),(25,(pR 3 encInt ([] : List Int))),(26,(.row 133 [[(lo 23 (([] : List Int).length)),(lo 24 (([] : List Int).length)),(lo 25 (([] : List Int).length))]]))])) ?_ (fun j4 _ => ?_)
 ·refine en [(1,(Iv k)),(2,(Cc (.pl 21 0))),(4,(Cc (.pl 22 0))),(6,(Cc (.pl 26 0)))] [(21,(.row 32 [[(iC g.Points),(xF encTBar g.Bars)]])),(22,(.row 133 [[(sC nilV),(sC nilV),(sC nilV)]])),(23,(pR 3 encInt ([] : List Int))),(24,(pR 3 encInt ([] : List Int))),(25,(pR 3 encInt ([] : List Int))),(26,(.row 133 [[(lo 23 (([] : List Int).length)),(lo 24 (([] : List Int).length)),(lo 25 (([] : List Int).length))]]))] z4 z6 (Wr (Op11 (LT.bloadN (out := [(iC g.Points),(xF encTBar g.Bars)]) Q ag32 (infS inf32) sz32 (by exact Q) (by exact Q)) Q Q Q Q (Ob' fun r5 hr5 => (AOR.pure (@LT.callF Try.prog _ _ 61 _ _ [(.agg [(iC g.Points),(xF encTBar g.Bars)])] _ _ [] _ _ _ _ (w_spec_IsGraph g r5 hr5) Q cb61 (.cons (.agg (.cons (.same Q) (.cons (.same Q) .nil))) .nil) Q Q J) z2 J Q Q (Op10 (LT.not Q) Q Q Q (mv (Bv (!r5)) Q Q Q Q (AOR.split (fun hb6 => ?_) (fun hb6 => ?_))))))))
  ·refine Ok Q Q Q (by rw [hb6]; rfl) Q (Ok Q Q Q (by rw [hb6]; rfl) Q (Ok Q Q Q (by rw [hb6]; rfl) Q (Op20 (LT.pickT (v := (Bv true)) Q hb6) Q y2 Q Q (On (AWR.nil ⟨Q,Ent.of z5 z6⟩)))))
  ·refine mv (Iv k) Q Q (gH hb6 Q Q) Q (Ob' fun r7 hr7 => (AOR.pure (@LT.callF Try.prog _ _ 111 _ _ [(.c (iC k)),(.c (iC 1)),(.c (iC 3))] _ _ [] _ _ _ _ (w_spec_l1In k 1 3 r7 hr7) Q cb111 (.cons (.c (.same Q)) (.cons (.c (.same Q)) (.cons (.c (.same Q)) .nil))) Q Q J) ⟨Q,Q,y2,y2,J⟩ J (gH hb6 Q Q) Q (Op10 (LT.not Q) Q (gH hb6 Q Q) Q (Op20 (LT.pickF (v := (Bv (!r7))) Q hb6) Q Q Q Q (On (AWR.nil ⟨Q,Ent.of z5 z6⟩))))))
 ·refine AWR.cond Q (fun hc8 => ?_) (fun hc8 => ?_)
  ·refine Ws (Wr ?_)
   refine Op00 (LT.build [] Q Q pl133 ti133 Q Q Q) Q Q (Os21 (LT.bstore (v := (.agg [(sC nilV),(sC nilV),(sC nilV)])) (out := [(sC nilV),(sC nilV),(sC nilV)]) Q Q (infS inf133) sz133 (by exact Q) (by exact K Q) (by exact Q)) Q Q Q Q Q (asg (Bv false) Q y2 Q Q (On (AWR.ent (Ent.nilB 22 0 0 3 Q Q Q Q) (AWR.ent (Ent.nilB 22 1 1 3 Q Q Q Q) (AWR.ent (Ent.nilB 22 2 2 3 Q Q Q Q) (en [(4,(Cc (.pl 22 0))),(5,(Bv false))] [(0,(pR 3 encInt ([] : List Int))),(1,(pR 3 encInt ([] : List Int))),(2,(pR 3 encInt ([] : List Int))),(22,(.row 133 [[(lo 0 (([] : List Int).length)),(lo 1 (([] : List Int).length)),(lo 2 (([] : List Int).length))]]))] z2 z4 (AWR.ret (FPost.mk (.inr Q) ⟨⟨_,_,_,Q,Q,Q,ag133,sz133,_,(infS inf133)⟩,Q,J⟩ z3 Q ⟨⟨J,J,J,J⟩,PermP.sc,J⟩ ⟨PermO.prow' perm_encInt,PermO.prow' perm_encInt,PermO.prow' perm_encInt,J⟩)))))))))
  ·refine AWR.skip (Ws (Ws (Wr ?_)))
   refine asg (Iv 0) Q y2 Q Q (On (AWR.block ?_))
   refine AWR.loop1 (id := 0) (m_spec_NewPebbles_L1 g k) (fun s9 => ([(1,(Iv k)),(2,(Cc (.pl 21 0))),(4,(Cc (.pl 22 0))),(6,(Cc (.pl 26 0))),(7,(Iv s9.1))],[(21,(.row 32 [[(iC g.Points),(xF encTBar g.Bars)]])),(22,(.row 133 [[(sC nilV),(sC nilV),(sC nilV)]])),(23,(pR 3 encInt s9.2)),(24,(pR 3 encInt ([] : List Int))),(25,(pR 3 encInt ([] : List Int))),(26,(.row 133 [[(lo 23 s9.2.length),(lo 24 (([] : List Int).length)),(lo 25 (([] : List Int).length))]]))])) (fun b14 => ([(4,(Cc (.pl 22 0))),(6,(Cc (.pl 26 0)))],[(22,(.row 133 [[(sC nilV),(sC nilV),(sC nilV)]])),(23,(pR 3 encInt b14)),(24,(pR 3 encInt ([] : List Int))),(25,(pR 3 encInt ([] : List Int))),(26,(.row 133 [[(lo 23 b14.length),(lo 24 (([] : List Int).length)),(lo 25 (([] : List Int).length))]]))])) ?_ (Ent.of z5 z6) Q (fun b14 _ => ?_)
   ·intro s9
    unfold m_spec_NewPebbles_L1
    refine Ws (Ws (Wr ?_))
    refine mv (Iv s9.1) Q Q Q Q (Op10 (LT.fieldPl Q fo32_0) Q Q Q (Op11 (LT.bload1 (c := (iC g.Points)) Q ag3 (by exact Q)) Q Q Q Q (Op20 (LT.lss Q) Q Q Q Q (On (AWR.cond Q (fun hc15 => ?_) (fun hc15 => ?_))))))
    ·refine AWR.skip (Ws (AWR.block (Wr ?_)))
     refine Op10 (LT.fieldPl Q fo133_0) Q Q Q (Op11 (LT.bload1 (c := (lo 23 s9.2.length)) Q ag45 (by exact Q)) Q Q Q Q (mv (Iv k) Q Q Q Q (Os10 (LT.tbuildSlice (n := 29) (enc := encInt) [(0,.tmp 29,(.c (iC k)))] ([k] : List Int) Q Q und45 ti3 Q Q Q Q (by decide) (fun _ => Q) Q) Q Q Q (Ob' fun u16 hu16 => (Os22 (LT.tappP (enc := encInt) Q Q Q und45 ti3 Q (by decide) (by decide) (fun _ => Q) (lim_le hu16)) Q Q Q Q Q Q (Op10 (LT.fieldPl Q fo133_0) Q Q Q (Os21 (LT.bstore (v := (.c (lo 23 ((s9.2 ++ ([k] : List Int)).length)))) (out := [(lo 23 ((s9.2 ++ ([k] : List Int)).length)),(lo 24 (([] : List Int).length)),(lo 25 (([] : List Int).length))]) Q Q (infS inf45) sz45 (by exact Q) (by exact K Q) (by exact Q)) Q Q Q Q Q (On (AWR.blk ?_)))))))))
     refine en [(1,(Iv k)),(2,(Cc (.pl 21 0))),(4,(Cc (.pl 22 0))),(6,(Cc (.pl 26 0))),(7,(Iv s9.1))] [(21,(.row 32 [[(iC g.Points),(xF encTBar g.Bars)]])),(22,(.row 133 [[(sC nilV),(sC nilV),(sC nilV)]])),(23,(pR 3 encInt (s9.2 ++ ([k] : List Int)))),(24,(pR 3 encInt ([] : List Int))),(25,(pR 3 encInt ([] : List Int))),(26,(.row 133 [[(lo 23 ((s9.2 ++ ([k] : List Int)).length)),(lo 24 (([] : List Int).length)),(lo 25 (([] : List Int).length))]]))] z5 z6 (Wr (mv (Iv s9.1) Q Q Q Q (Op20 (LT.add Q) Q y2 Q Q (asg (Iv (w64 (s9.1 + 1))) Q Q Q Q (On (AWR.nil ⟨Q,Ent.of z5 z6⟩))))))
    ·refine AWR.exit_end Q ⟨Q,Ent.of z2 z5⟩
   ·refine Ws (Wr ?_)
    refine Op11 (LT.bloadN (out := [(lo 23 b14.length),(lo 24 (([] : List Int).length)),(lo 25 (([] : List Int).length))]) Q ag133 (infS inf133) sz133 (by exact Q) (by exact Q)) Q Q Q Q (Os21 (LT.bstore (v := (.agg [(lo 23 b14.length),(lo 24 (([] : List Int).length)),(lo 25 (([] : List Int).length))])) (out := [(lo 23 b14.length),(lo 24 (([] : List Int).length)),(lo 25 (([] : List Int).length))]) Q Q (infS inf133) sz133 (by exact Q) (by exact K Q) (by exact Q)) Q Q Q Q Q (asg (Bv true) Q y2 Q Q (On (en [(4,(Cc (.pl 22 0))),(5,(Bv true))] [(22,(.row 133 [[(lo 23 b14.length),(lo 24 (([] : List Int).length)),(lo 25 (([] : List Int).length))]])),(23,(pR 3 encInt b14)),(24,(pR 3 encInt ([] : List Int))),(25,(pR 3 encInt ([] : List Int)))] z2 z4 (AWR.ent (Ent.mv 23 0 Q Q) (AWR.ent (Ent.mv 24 1 Q Q) (AWR.ent (Ent.mv 25 2 Q Q) (en [(4,(Cc (.pl 22 0))),(5,(Bv true))] [(0,(pR 3 encInt b14)),(1,(pR 3 encInt ([] : List Int))),(2,(pR 3 encInt ([] : List Int))),(22,(.row 133 [[(lo 0 b14.length),(lo 1 (([] : List Int).length)),(lo 2 (([] : List Int).length))]]))] z2 z4 (AWR.ret (FPost.mk (.inr Q) ⟨⟨_,_,_,Q,Q,Q,ag133,sz133,_,(infS inf133)⟩,Q,J⟩ z3 Q ⟨⟨J,J,J,J⟩,PermP.sc,J⟩ ⟨PermO.prow' perm_encInt,PermO.prow' perm_encInt,PermO.prow' perm_encInt,J⟩))))))))))
theorem w_spec_l4Copy (p : TPebbles) : ∀ t,m_spec_l4Copy p = some t → Fw.Fn Try.prog 201 [(.agg [(xF encInt p.Free),(xF encInt p.Tails),(xF encInt p.Placed)])] [] (.s (.agg [(lo 0 t.Free.length),(lo 1 t.Tails.length),(lo 2 t.Placed.length)])) [(0,(pR 3 encInt t.Free)),(1,(pR 3 encInt t.Tails)),(2,(pR 3 encInt t.Placed))] [] [0,1,2] := by
 refine Fw.Fn.of (P := Try.prog) (X := [0,1,2]) (pn := []) (rs := (fun (t : TPebbles) => [(.agg [(lo 0 t.Free.length),(lo 1 t.Tails.length),(lo 2 t.Placed.length)])])) (dfs := (fun (t : TPebbles) => [(0,(pR 3 encInt t.Free)),(1,(pR 3 encInt t.Tails)),(2,(pR 3 encInt t.Placed))])) Try.func201 Q Try.ntmps201 (K Q) Q ?_
 intro w0 U0 R0 g0
 unfold m_spec_l4Copy
 refine Ws (Wr ?_)
 refine Os10 (LT.box (n := 21) (v := (.agg [(xF encInt p.Free),(xF encInt p.Tails),(xF encInt p.Placed)])) Q sz133 (by exact Q)) Q Q Q (Os00 (LT.alloc (n := 22) (cells := [(sC nilV),(sC nilV),(sC nilV)]) Q ti133 Q Q Q) Q Q (On (Ws (AWR.draw mixed ?_))))
 refine Ds00 (LT.tbuildSlice (n := 23) (enc := encInt) [] ([] : List Int) Q Q und45 ti3 Q Q Q Q (by decide) (fun _ => Q) Q) Q Q (Dp10 (LT.fieldPl Q fo133_0) Q Q Q (Dp11 (LT.bload1 (c := (xF encInt p.Free)) Q ag45 (by exact Q)) Q Q Q Q (AOD.bind fun u1 hu1 => (Ds21 (LT.tappRO (enc := encInt) Q  Q und45 ti3 Q (by decide) (by decide) (fun _ => Q) (lim_le hu1)) Q Q Q Q Q (Ds00 (LT.tbuildSlice (n := 24) (enc := encInt) [] ([] : List Int) Q Q und45 ti3 Q Q Q Q (by decide) (fun _ => Q) Q) Q Q (Dp10 (LT.fieldPl Q fo133_1) Q Q Q (Dp11 (LT.bload1 (c := (xF encInt p.Tails)) Q ag45 (by exact Q)) Q Q Q Q (AOD.bind fun u2 hu2 => (Ds21 (LT.tappRO (enc := encInt) Q  Q und45 ti3 Q (by decide) (by decide) (fun _ => Q) (lim_le hu2)) Q Q Q Q Q (Ds00 (LT.tbuildSlice (n := 25) (enc := encInt) [] ([] : List Int) Q Q und45 ti3 Q Q Q Q (by decide) (fun _ => Q) Q) Q Q (Dp10 (LT.fieldPl Q fo133_2) Q Q Q ?_)))))))))))
 refine Dp11 (LT.bload1 (c := (xF encInt p.Placed)) Q ag45 (by exact Q)) Q Q Q Q (AOD.bind fun u3 hu3 => (Ds21 (LT.tappRO (enc := encInt) Q  Q und45 ti3 Q (by decide) (by decide) (fun _ => Q) (lim_le hu3)) Q Q Q Q Q (Dp30 (LT.build [(0,.tmp 6,(.c (lo 23 ((([] : List Int) ++ p.Free).length)))),(1,.tmp 10,(.c (lo 24 ((([] : List Int) ++ p.Tails).length)))),(2,.tmp 14,(.c (lo 25 ((([] : List Int) ++ p.Placed).length))))] Q Q pl133 ti133 Q Q Q) Q Q Q Q Q (Ds21 (LT.bstore (v := (.agg [(lo 23 ((([] : List Int) ++ p.Free).length)),(lo 24 ((([] : List Int) ++ p.Tails).length)),(lo 25 ((([] : List Int) ++ p.Placed).length))])) (out := [(lo 23 ((([] : List Int) ++ p.Free).length)),(lo 24 ((([] : List Int) ++ p.Tails).length)),(lo 25 ((([] : List Int) ++ p.Placed).length))]) Q Q (infS inf133) sz133 (by exact Q) (by exact K Q) (by exact Q)) Q Q Q Q Q (AOD.nil (by kernel_rfl) (en [(2,(Cc (.pl 22 0)))] [(22,(.row 133 [[(lo 23 ((([] : List Int) ++ p.Free).length)),(lo 24 ((([] : List Int) ++ p.Tails).length)),(lo 25 ((([] : List Int) ++ p.Placed).length))]])),(23,(pR 3 encInt (([] : List Int) ++ p.Free))),(24,(pR 3 encInt (([] : List Int) ++ p.Tails))),(25,(pR 3 encInt (([] : List Int) ++ p.Placed)))] z1 z4 (AWR.ent (Ent.mv 23 0 Q Q) (AWR.ent (Ent.mv 24 1 Q Q) (AWR.ent (Ent.mv 25 2 Q Q) (en [(2,(Cc (.pl 22 0)))] [(0,(pR 3 encInt (([] : List Int) ++ p.Free))),(1,(pR 3 encInt (([] : List Int) ++ p.Tails))),(2,(pR 3 encInt (([] : List Int) ++ p.Placed))),(22,(.row 133 [[(lo 0 ((([] : List Int) ++ p.Free).length)),(lo 1 ((([] : List Int) ++ p.Tails).length)),(lo 2 ((([] : List Int) ++ p.Placed).length))]]))] z1 z4 (AWR.ret (FPost.mk (.inr Q) ⟨⟨_,_,_,Q,Q,Q,ag133,sz133,_,(infS inf133)⟩,J⟩ z3 Q ⟨⟨J,J,J,J⟩,J⟩ ⟨PermO.prow' perm_encInt,PermO.prow' perm_encInt,PermO.prow' perm_encInt,J⟩))))))))))))
theorem w_spec_l4Other (b : TBar) (v : Int) : ∀ t,m_spec_l4Other b v = some t → Fw.Fn Try.prog 222 [(.agg [(iC b.A),(iC b.B)]),(.c (iC v))] [] (.s (.c (iC t))) [] [] [] := by
 refine Fw.Fn.of (P := Try.prog) (X := []) (pn := []) (rs := (fun (t : Int) => [(.c (iC t))])) (dfs := (fun (t : Int) => [])) Try.func222 Q Try.ntmps222 (K Q) Q ?_
 intro w0 U0 R0 g0
 unfold m_spec_l4Other
 refine Ws (Wr ?_)
 refine Os10 (LT.box (n := 21) (v := (.agg [(iC b.A),(iC b.B)])) Q sz112 (by exact Q)) Q Q Q (asg (Iv 0) Q y2 Q Q (On (Ws (Wr ?_))))
 refine Op10 (LT.fieldPl Q fo112_0) Q Q Q (Op11 (LT.bload1 (c := (iC b.A)) Q ag3 (by exact Q)) Q Q Q Q (Op10 (LT.fieldPl Q fo112_1) Q Q Q (Op11 (LT.bload1 (c := (iC b.B)) Q ag3 (by exact Q)) Q Q Q Q (Op20 (LT.add Q) Q Q Q Q (mv (Iv v) Q Q Q Q (Op20 (LT.sub Q) Q Q Q Q (asg (Iv (w64 ((w64 (b.A + b.B)) - v))) Q Q Q Q (On (AWR.ret (FPost.mk (.inr Q) z1 J Q ⟨PermP.sc,J⟩ J))))))))))
theorem w_spec_l4Shift (g : TGraph) (p : TPebbles) (fromV : (List Int)) (a : Int) (u : Int) : ∀ t,m_spec_l4Shift g p fromV a u = some t → Fw.Fn Try.prog 223 [(.agg [(iC g.Points),(xF encTBar g.Bars)]),(.agg [(xF encInt p.Free),(xF encInt p.Tails),(xF encInt p.Placed)]),(.c (xF encInt fromV)),(.c (iC a)),(.c (iC u))] [] (.s (.agg [(lo 0 t.Free.length),(lo 1 t.Tails.length),(lo 2 t.Placed.length)])) [(0,(pR 3 encInt t.Free)),(1,(pR 3 encInt t.Tails)),(2,(pR 3 encInt t.Placed))] [] [0,1,2] := by
 refine Fw.Fn.of (P := Try.prog) (X := [0,1,2]) (pn := []) (rs := (fun (t : TPebbles) => [(.agg [(lo 0 t.Free.length),(lo 1 t.Tails.length),(lo 2 t.Placed.length)])])) (dfs := (fun (t : TPebbles) => [(0,(pR 3 encInt t.Free)),(1,(pR 3 encInt t.Tails)),(2,(pR 3 encInt t.Placed))])) Try.func223 Q Try.ntmps223 (K Q) Q ?_
 intro w0 U0 R0 g0
 unfold m_spec_l4Shift
 refine Ws (Wr ?_)
 refine Os10 (LT.box (n := 21) (v := (.agg [(iC g.Points),(xF encTBar g.Bars)])) Q sz32 (by exact Q)) Q Q Q (Os10 (LT.box (n := 22) (v := (.agg [(xF encInt p.Free),(xF encInt p.Tails),(xF encInt p.Placed)])) Q sz133 (by exact Q)) Q Q Q (Os00 (LT.alloc (n := 23) (cells := [(sC nilV),(sC nilV),(sC nilV)]) Q ti133 Q Q Q) Q Q (On (Ws (Wr ?_)))))
 refine Op11 (LT.bloadN (out := [(xF encInt p.Free),(xF encInt p.Tails),(xF encInt p.Placed)]) Q ag133 (infS inf133) sz133 (by exact Q) (by exact Q)) Q Q Q Q (Ob' fun r1 hr1 => (AOR.step (@LT.callF Try.prog _ _ 201 _ _ [(.agg [(xF encInt p.Free),(xF encInt p.Tails),(xF encInt p.Placed)])] _ _ [] _ _ _ _ ((show Fw.Fn Try.prog 201 [(.agg [(xF encInt p.Free),(xF encInt p.Tails),(xF encInt p.Placed)])] [] (Ag  [(lo 25 r1.Free.length),(lo 26 r1.Tails.length),(lo 27 r1.Placed.length)]) [(25,(pR 3 encInt r1.Free)),(26,(pR 3 encInt r1.Tails)),(27,(pR 3 encInt r1.Placed))] [] [25,26,27] from Fw.Fn.ren [(0,25),(1,26),(2,27)] (w_spec_l4Copy p r1 hr1) Q)) Q cb201 (.cons (.agg (.cons (.same Q) (.cons (.same Q) (.cons (.same Q) .nil)))) .nil) Q Q J) z2 J Q Q (Os00 (LT.alloc (n := 28) (cells := [(sC nilV),(sC nilV),(sC nilV)]) Q ti133 Q Q Q) Q Q (Os21 (LT.bstore (v := (.agg [(lo 25 r1.Free.length),(lo 26 r1.Tails.length),(lo 27 r1.Placed.length)])) (out := [(lo 25 r1.Free.length),(lo 26 r1.Tails.length),(lo 27 r1.Placed.length)]) Q Q (infS inf133) sz133 (by exact Q) (by exact K Q) (by exact Q)) Q Q Q Q Q (On (Ws ?_))))))
 refine en [(2,(Cc (xF encInt fromV))),(3,(Iv a)),(4,(Iv u)),(5,(Cc (.pl 21 0))),(6,(Cc (.pl 22 0))),(10,(Cc (.pl 23 0))),(11,(Cc (.pl 28 0)))] [(21,(.row 32 [[(iC g.Points),(xF encTBar g.Bars)]])),(22,(.row 133 [[(xF encInt p.Free),(xF encInt p.Tails),(xF encInt p.Placed)]])),(23,(.row 133 [[(sC nilV),(sC nilV),(sC nilV)]])),(25,(pR 3 encInt r1.Free)),(26,(pR 3 encInt r1.Tails)),(27,(pR 3 encInt r1.Placed)),(28,(.row 133 [[(lo 25 r1.Free.length),(lo 26 r1.Tails.length),(lo 27 r1.Placed.length)]]))] z7 z7 (AWR.draw mixed (Dp10 (LT.fieldPl Q fo133_0) Q Q Q (Dp11 (LT.bload1 (c := (lo 25 r1.Free.length)) Q ag45 (by exact Q)) Q Q Q Q (Dp10 (LT.move (v := (Iv u)) Q) Q Q Q (Dp10 (LT.fieldPl Q fo133_0) Q Q Q (Dp11 (LT.bload1 (c := (lo 25 r1.Free.length)) Q ag45 (by exact Q)) Q Q Q Q (Dp10 (LT.move (v := (Iv u)) Q) Q Q Q (AOD.bind fun x2 hx2 => (Dp21 (LT.tindexLoc Q Q el45 hx2) Q Q Q Q Q (Dp11 (LT.tload1 (k := 0) Q ag3 hx2 (by exact Q) (by exact Q)) Q Q Q Q (Dp20 (LT.sub Q) Q y2 Q Q ?_)))))))))))
 refine AOD.bind fun x3 hx3 => (Dp21 (LT.tindexLoc Q Q el45 hx3) Q Q Q Q Q (Ds21 (LT.tstore (k := 0) (v := (.c (iC (w64 (x2 - 1))))) (b' := (w64 (x2 - 1))) Q Q (infS inf3) sz3 (by exact Q) hx3 (by exact Q) (by exact K Q) (by exact Q)) Q Q Q Q Q (AOD.nil (by kernel_rfl) (Ws (en [(2,(Cc (xF encInt fromV))),(3,(Iv a)),(4,(Iv u)),(5,(Cc (.pl 21 0))),(6,(Cc (.pl 22 0))),(10,(Cc (.pl 23 0))),(11,(Cc (.pl 28 0)))] [(21,(.row 32 [[(iC g.Points),(xF encTBar g.Bars)]])),(22,(.row 133 [[(xF encInt p.Free),(xF encInt p.Tails),(xF encInt p.Placed)]])),(23,(.row 133 [[(sC nilV),(sC nilV),(sC nilV)]])),(25,(pR 3 encInt (r1.Free.set u.toNat (w64 (x2 - 1))))),(26,(pR 3 encInt r1.Tails)),(27,(pR 3 encInt r1.Placed)),(28,(.row 133 [[(lo 25 r1.Free.length),(lo 26 r1.Tails.length),(lo 27 r1.Placed.length)]]))] z7 z7 (AWR.draw mixed (Dp10 (LT.fieldPl Q fo133_0) Q Q Q (Dp11 (LT.bload1 (c := (lo 25 r1.Free.length)) Q ag45 (by exact Q)) Q Q Q Q (Dp10 (LT.move (v := (Iv a)) Q) Q Q Q (Dp10 (LT.fieldPl Q fo133_0) Q Q Q (Dp11 (LT.bload1 (c := (lo 25 r1.Free.length)) Q ag45 (by exact Q)) Q Q Q Q ?_)))))))))))
 refine Dp10 (LT.move (v := (Iv a)) Q) Q Q Q (AOD.bind fun x4 hx4 => (Dp21 (LT.tindexLoc (show r1.Free.length = (r1.Free.set u.toNat (w64 (x2 - 1))).length by simp only [List.length_set]) Q el45 hx4) Q Q Q Q Q (Dp11 (LT.tload1 (k := 0) Q ag3 hx4 (by exact Q) (by exact Q)) Q Q Q Q (Dp20 (LT.add Q) Q y2 Q Q (AOD.bind fun x5 hx5 => (Dp21 (LT.tindexLoc (show r1.Free.length = (r1.Free.set u.toNat (w64 (x2 - 1))).length by simp only [List.length_set]) Q el45 hx5) Q Q Q Q Q (Ds21 (LT.tstore (k := 0) (v := (.c (iC (w64 (x4 + 1))))) (b' := (w64 (x4 + 1))) Q Q (infS inf3) sz3 (by exact Q) hx5 (by exact Q) (by exact K Q) (by exact Q)) Q Q Q Q Q (AOD.nil (by kernel_rfl) (Ws (en [(2,(Cc (xF encInt fromV))),(3,(Iv a)),(4,(Iv u)),(5,(Cc (.pl 21 0))),(6,(Cc (.pl 22 0))),(10,(Cc (.pl 23 0))),(11,(Cc (.pl 28 0)))] [(21,(.row 32 [[(iC g.Points),(xF encTBar g.Bars)]])),(22,(.row 133 [[(xF encInt p.Free),(xF encInt p.Tails),(xF encInt p.Placed)]])),(23,(.row 133 [[(sC nilV),(sC nilV),(sC nilV)]])),(25,(pR 3 encInt ((r1.Free.set u.toNat (w64 (x2 - 1))).set a.toNat (w64 (x4 + 1))))),(26,(pR 3 encInt r1.Tails)),(27,(pR 3 encInt r1.Placed)),(28,(.row 133 [[(lo 25 r1.Free.length),(lo 26 r1.Tails.length),(lo 27 r1.Placed.length)]]))] z7 z7 (Wr ?_)))))))))))
 refine mv (Iv u) Q Q Q Q (asg (Iv u) Q Q Q Q (On (Ws (AWR.block ?_))))
 refine AWR.loop1 (id := 0) (m_spec_l4Shift_L1 g p fromV a u r1 x2 x4) (fun s6 => ([(2,(Cc (xF encInt fromV))),(3,(Iv a)),(5,(Cc (.pl 21 0))),(6,(Cc (.pl 22 0))),(10,(Cc (.pl 23 0))),(11,(Cc (.pl 28 0))),(12,(Iv s6.1))],[(21,(.row 32 [[(iC g.Points),(xF encTBar g.Bars)]])),(22,(.row 133 [[(xF encInt p.Free),(xF encInt p.Tails),(xF encInt p.Placed)]])),(23,(.row 133 [[(sC nilV),(sC nilV),(sC nilV)]])),(25,(pR 3 encInt ((r1.Free.set u.toNat (w64 (x2 - 1))).set a.toNat (w64 (x4 + 1))))),(26,(pR 3 encInt s6.2)),(27,(pR 3 encInt r1.Placed)),(28,(.row 133 [[(lo 25 (((r1.Free.set u.toNat (w64 (x2 - 1))).set a.toNat (w64 (x4 + 1))).length)),(lo 26 s6.2.length),(lo 27 r1.Placed.length)]]))])) (fun b19 => ([(10,(Cc (.pl 23 0))),(11,(Cc (.pl 28 0)))],[(23,(.row 133 [[(sC nilV),(sC nilV),(sC nilV)]])),(25,(pR 3 encInt b19.1)),(26,(pR 3 encInt b19.2.1)),(27,(pR 3 encInt b19.2.2)),(28,(.row 133 [[(lo 25 b19.1.length),(lo 26 b19.2.1.length),(lo 27 b19.2.2.length)]]))])) ?_ (Ent.of z7 ⟨Q,Q,Q,Q,Q,Q,(congrArg (fun l1 => (some (Ob.row 133 [[(lo 25 l1),(lo 26 r1.Tails.length),(lo 27 r1.Placed.length)]]) : Option Ob)) (show r1.Free.length = ((r1.Free.set u.toNat (w64 (x2 - 1))).set a.toNat (w64 (x4 + 1))).length by simp only [List.length_set])),J⟩) Q (fun b19 _ => ?_)
 ·intro s6
  unfold m_spec_l4Shift_L1
  refine Ws (Ws (Wr ?_))
  refine mv (Iv s6.1) Q Q Q Q (mv (Iv a) Q Q Q Q (Op20 (LT.neq Q) Q Q Q Q (On (AWR.cond Q (fun hc20 => ?_) (fun hc20 => ?_)))))
  ·refine AWR.skip (AWR.block (Ws (Wr ?_)))
   refine mv (Cc (xF encInt fromV)) Q Q Q Q (mv (Iv s6.1) Q Q Q Q (Ob' fun x21 hx21 => (Op20 (LT.tindexRO (enc := encInt) Q el45 hx21 sz3) Q Q Q Q (Op10 (LT.loadPx1 Q ag3) Q Q Q (asg (Iv x21) Q Q Q Q (On (Ws (AWR.draw mixed ?_))))))))
   refine Dp10 (LT.fieldPl Q fo32_1) Q Q Q (Dp11 (LT.bload1 (c := (xF encTBar g.Bars)) Q ag30 (by exact Q)) Q Q Q Q (Dp10 (LT.fieldPl Q fo133_2) Q Q Q (Dp11 (LT.bload1 (c := (xF encInt p.Placed)) Q ag45 (by exact Q)) Q Q Q Q (Dp10 (LT.move (v := (Iv x21)) Q) Q Q Q (AOD.bind fun x22 hx22 => (Dp20 (LT.tindexRO (enc := encInt) Q el45 hx22 sz3) Q Q Q Q (Dp10 (LT.loadPx1 Q ag3) Q Q Q (AOD.bind fun x23 hx23 => (Dp20 (LT.tindexRO (enc := encTBar) Q el30 hx23 sz112) Q Q Q Q (Dp10 (LT.loadPxN Q ag112 (infS inf112) (by exact sz112.symm)) Q Q Q (Dp10 (LT.move (v := (Iv s6.1)) Q) Q Q Q ?_)))))))))))
   refine AOD.bind fun r24 hr24 => (AOD.pure (@LT.callF Try.prog _ _ 222 _ _ [(.agg [(iC x23.A),(iC x23.B)]),(.c (iC s6.1))] _ _ [] _ _ _ _ (w_spec_l4Other x23 s6.1 r24 hr24) Q cb222 (.cons (.agg (.cons (.same Q) (.cons (.same Q) .nil))) (.cons (.c (.same Q)) .nil)) Q Q J) z3 J Q Q (Dp10 (LT.assign (v := (Iv r24)) Q) Q Q Q (AOD.nil (by kernel_rfl) (Ws (en [(2,(Cc (xF encInt fromV))),(3,(Iv a)),(5,(Cc (.pl 21 0))),(6,(Cc (.pl 22 0))),(10,(Cc (.pl 23 0))),(11,(Cc (.pl 28 0))),(12,(Iv s6.1)),(13,(Iv x21)),(14,(Iv r24))] [(21,(.row 32 [[(iC g.Points),(xF encTBar g.Bars)]])),(22,(.row 133 [[(xF encInt p.Free),(xF encInt p.Tails),(xF encInt p.Placed)]])),(23,(.row 133 [[(sC nilV),(sC nilV),(sC nilV)]])),(25,(pR 3 encInt ((r1.Free.set u.toNat (w64 (x2 - 1))).set a.toNat (w64 (x4 + 1))))),(26,(pR 3 encInt s6.2)),(27,(pR 3 encInt r1.Placed)),(28,(.row 133 [[(lo 25 (((r1.Free.set u.toNat (w64 (x2 - 1))).set a.toNat (w64 (x4 + 1))).length)),(lo 26 s6.2.length),(lo 27 r1.Placed.length)]]))] z9 z7 (Wr (Op10 (LT.fieldPl Q fo133_1) Q Q Q (Op11 (LT.bload1 (c := (lo 26 s6.2.length)) Q ag45 (by exact Q)) Q Q Q Q (mv (Iv x21) Q Q Q Q (mv (Iv s6.1) Q Q Q Q (Ob' fun x25 hx25 => ?_)))))))))))
   refine Op21 (LT.tindexLoc Q Q el45 hx25) Q Q Q Q Q (Os21 (LT.tstore (k := 0) (v := (.c (iC s6.1))) (b' := s6.1) Q Q (infS inf3) sz3 (by exact Q) hx25 (by exact Q) (by exact K Q) (by exact Q)) Q Q Q Q Q (On (Wr ?_)))
   refine mv (Iv r24) Q Q Q Q (asg (Iv r24) Q Q Q Q (On (AWR.blk ?_)))
   refine AWR.nil ⟨Q,Ent.of z7 ⟨Q,Q,Q,Q,Q,Q,(congrArg (fun l1 => (some (Ob.row 133 [[(lo 25 (((r1.Free.set u.toNat (w64 (x2 - 1))).set a.toNat (w64 (x4 + 1))).length)),(lo 26 l1),(lo 27 r1.Placed.length)]]) : Option Ob)) (show s6.2.length = (s6.2.set x21.toNat s6.1).length by simp only [List.length_set])),J⟩⟩
  ·refine AWR.exit_end Q ⟨Q,Ent.of z2 z5⟩
 ·refine Ws (Wr ?_)
  refine Op11 (LT.bloadN (out := [(lo 25 b19.1.length),(lo 26 b19.2.1.length),(lo 27 b19.2.2.length)]) Q ag133 (infS inf133) sz133 (by exact Q) (by exact Q)) Q Q Q Q (Os21 (LT.bstore (v := (.agg [(lo 25 b19.1.length),(lo 26 b19.2.1.length),(lo 27 b19.2.2.length)])) (out := [(lo 25 b19.1.length),(lo 26 b19.2.1.length),(lo 27 b19.2.2.length)]) Q Q (infS inf133) sz133 (by exact Q) (by exact K Q) (by exact Q)) Q Q Q Q Q (On (en [(10,(Cc (.pl 23 0)))] [(23,(.row 133 [[(lo 25 b19.1.length),(lo 26 b19.2.1.length),(lo 27 b19.2.2.length)]])),(25,(pR 3 encInt b19.1)),(26,(pR 3 encInt b19.2.1)),(27,(pR 3 encInt b19.2.2))] z1 z4 (AWR.ent (Ent.mv 25 0 Q Q) (AWR.ent (Ent.mv 26 1 Q Q) (AWR.ent (Ent.mv 27 2 Q Q) (en [(10,(Cc (.pl 23 0)))] [(0,(pR 3 encInt b19.1)),(1,(pR 3 encInt b19.2.1)),(2,(pR 3 encInt b19.2.2)),(23,(.row 133 [[(lo 0 b19.1.length),(lo 1 b19.2.1.length),(lo 2 b19.2.2.length)]]))] z1 z4 (AWR.ret (FPost.mk (.inr Q) ⟨⟨_,_,_,Q,Q,Q,ag133,sz133,_,(infS inf133)⟩,J⟩ z3 Q ⟨⟨J,J,J,J⟩,J⟩ ⟨PermO.prow' perm_encInt,PermO.prow' perm_encInt,PermO.prow' perm_encInt,J⟩)))))))))
theorem w_spec_l4Find (g : TGraph) (p : TPebbles) (a : Int) (b : Int) : ∀ t,m_spec_l4Find g p a b = some t → Fw.Fn Try.prog 202 [(.agg [(iC g.Points),(xF encTBar g.Bars)]),(.agg [(xF encInt p.Free),(xF encInt p.Tails),(xF encInt p.Placed)]),(.c (iC a)),(.c (iC b))] [] (resA [(.agg [(bif t.2 then (.loc 0 0 t.1.Free.length) else .junk),(bif t.2 then (.loc 1 0 t.1.Tails.length) else .junk),(bif t.2 then (.loc 2 0 t.1.Placed.length) else .junk)]),(.c (bC t.2))]) [(0,(.prow 3 ((bif t.2 then t.1.Free else []).map encInt))),(1,(.prow 3 ((bif t.2 then t.1.Tails else []).map encInt))),(2,(.prow 3 ((bif t.2 then t.1.Placed else []).map encInt)))] [] [0,1,2] := by
 refine Fw.Fn.of (P := Try.prog) (X := [0,1,2]) (pn := []) (rs := (fun (t : (TPebbles × Bool)) => [(.agg [(bif t.2 then (.loc 0 0 t.1.Free.length) else .junk),(bif t.2 then (.loc 1 0 t.1.Tails.length) else .junk),(bif t.2 then (.loc 2 0 t.1.Placed.length) else .junk)]),(.c (bC t.2))])) (dfs := (fun (t : (TPebbles × Bool)) => [(0,(.prow 3 ((bif t.2 then t.1.Free else []).map encInt))),(1,(.prow 3 ((bif t.2 then t.1.Tails else []).map encInt))),(2,(.prow 3 ((bif t.2 then t.1.Placed else []).map encInt)))])) Try.func202 Q Try.ntmps202 (K Q) Q ?_
 intro w0 U0 R0 g0
 unfold m_spec_l4Find
 refine Ws (Wr ?_)
 refine Os10 (LT.box (n := 21) (v := (.agg [(iC g.Points),(xF encTBar g.Bars)])) Q sz32 (by exact Q)) Q Q Q (Os10 (LT.box (n := 22) (v := (.agg [(xF encInt p.Free),(xF encInt p.Tails),(xF encInt p.Placed)])) Q sz133 (by exact Q)) Q Q Q (Os00 (LT.alloc (n := 23) (cells := [(sC nilV),(sC nilV),(sC nilV)]) Q ti133 Q Q Q) Q Q (asg (Bv false) Q y2 Q Q (On (Ws (Wr ?_))))))
 refine Op10 (LT.fieldPl Q fo32_0) Q Q Q (Op11 (LT.bload1 (c := (iC g.Points)) Q ag3 (by exact Q)) Q Q Q Q (Ob' fun u1 hu1 => (Os20 (LT.tmake (n := 24) (enc := encInt) (zc := [(iC 0)]) (0 : Int) Q und45 ti3 Q Q Q (by decide) (by decide) (lenOk_le hu1) Q) Q Q Q Q (asg (Cc (lo 24 ((List.replicate g.Points.toNat (0 : Int)).length))) Q Q Q Q (On (Ws (Ws ?_)))))))
 refine en [(2,(Iv a)),(3,(Iv b)),(4,(Cc (.pl 21 0))),(5,(Cc (.pl 22 0))),(8,(Cc (.pl 23 0))),(10,(Cc (lo 24 ((List.replicate g.Points.toNat (0 : Int)).length))))] [(21,(.row 32 [[(iC g.Points),(xF encTBar g.Bars)]])),(22,(.row 133 [[(xF encInt p.Free),(xF encInt p.Tails),(xF encInt p.Placed)]])),(23,(.row 133 [[(sC nilV),(sC nilV),(sC nilV)]])),(24,(pR 3 encInt (List.replicate g.Points.toNat (0 : Int))))] z6 z4 (Wr (asg (Iv 0) Q y2 Q Q (On (AWR.block ?_))))
 refine AWR.loop1 (id := 0) (m_spec_l4Find_L1 g) (fun s2 => ([(2,(Iv a)),(3,(Iv b)),(4,(Cc (.pl 21 0))),(5,(Cc (.pl 22 0))),(8,(Cc (.pl 23 0))),(10,(Cc (lo 24 s2.2.length))),(11,(Iv s2.1))],[(21,(.row 32 [[(iC g.Points),(xF encTBar g.Bars)]])),(22,(.row 133 [[(xF encInt p.Free),(xF encInt p.Tails),(xF encInt p.Placed)]])),(23,(.row 133 [[(sC nilV),(sC nilV),(sC nilV)]])),(24,(pR 3 encInt s2.2))])) (fun b7 => ([(2,(Iv a)),(3,(Iv b)),(4,(Cc (.pl 21 0))),(5,(Cc (.pl 22 0))),(8,(Cc (.pl 23 0))),(10,(Cc (lo 24 b7.length)))],[(21,(.row 32 [[(iC g.Points),(xF encTBar g.Bars)]])),(22,(.row 133 [[(xF encInt p.Free),(xF encInt p.Tails),(xF encInt p.Placed)]])),(23,(.row 133 [[(sC nilV),(sC nilV),(sC nilV)]])),(24,(pR 3 encInt b7))])) ?_ (Ent.of z7 z4) Q (fun b7 _ => ?_)
 ·intro s2
  unfold m_spec_l4Find_L1
  refine Ws (Ws (Wr ?_))
  refine mv (Iv s2.1) Q Q Q Q (Op10 (LT.fieldPl Q fo32_0) Q Q Q (Op11 (LT.bload1 (c := (iC g.Points)) Q ag3 (by exact Q)) Q Q Q Q (Op20 (LT.lss Q) Q Q Q Q (On (AWR.cond Q (fun hc8 => ?_) (fun hc8 => ?_))))))
  ·refine AWR.skip (Ws (AWR.block (Wr ?_)))
   refine mv (Cc (lo 24 s2.2.length)) Q Q Q Q (mv (Iv s2.1) Q Q Q Q (Ob' fun x9 hx9 => (Op21 (LT.tindexLoc Q Q el45 hx9) Q Q Q Q Q (Os21 (LT.tstore (k := 0) (v := (.c (iC (-1)))) (b' := (-1)) Q Q (infS inf3) sz3 (by exact Q) hx9 (by exact Q) (by exact K Q) (by exact Q)) Q y2 Q Q Q (On (AWR.blk (Wr ?_)))))))
   refine mv (Iv s2.1) Q Q Q Q (Op20 (LT.add Q) Q y2 Q Q (asg (Iv (w64 (s2.1 + 1))) Q Q Q Q (On (AWR.nil ⟨Q,Ent.of ⟨Q,Q,Q,Q,Q,(congrArg (fun l1 => (some (AV.s (.c (lo 24 l1))) : Option AV)) (show s2.2.length = (s2.2.set s2.1.toNat (-1)).length by simp only [List.length_set])),Q,J⟩ z4⟩))))
  ·refine AWR.exit_end Q ⟨Q,Ent.of z6 z4⟩
 ·refine Ws (Wr ?_)
  refine mv (Iv a) Q Q Q Q (Os10 (LT.tbuildSlice (n := 25) (enc := encInt) [(0,.tmp 30,(.c (iC a)))] ([a] : List Int) Q Q und45 ti3 Q Q Q Q (by decide) (fun _ => Q) Q) Q Q Q (asg (Cc (lo 25 (([a] : List Int).length))) Q Q Q Q (On (Ws (Wr ?_)))))
  refine Op10 (LT.fieldPl Q fo32_0) Q Q Q (Op11 (LT.bload1 (c := (iC g.Points)) Q ag3 (by exact Q)) Q Q Q Q (Ob' fun u10 hu10 => (Os20 (LT.tmake (n := 26) (enc := encBool) (zc := [(bC false)]) false Q und170 ti4 Q Q Q (by decide) (by decide) (lenOk_le hu10) Q) Q Q Q Q (asg (Cc (lo 26 ((List.replicate g.Points.toNat false).length))) Q Q Q Q (On (Ws ?_))))))
  refine en [(2,(Iv a)),(3,(Iv b)),(4,(Cc (.pl 21 0))),(5,(Cc (.pl 22 0))),(8,(Cc (.pl 23 0))),(10,(Cc (lo 24 b7.length))),(12,(Cc (lo 25 (([a] : List Int).length)))),(13,(Cc (lo 26 ((List.replicate g.Points.toNat false).length))))] [(21,(.row 32 [[(iC g.Points),(xF encTBar g.Bars)]])),(22,(.row 133 [[(xF encInt p.Free),(xF encInt p.Tails),(xF encInt p.Placed)]])),(23,(.row 133 [[(sC nilV),(sC nilV),(sC nilV)]])),(24,(pR 3 encInt b7)),(25,(pR 3 encInt ([a] : List Int))),(26,(pR 4 encBool (List.replicate g.Points.toNat false)))] z8 z6 (Wr (mv (Cc (lo 26 ((List.replicate g.Points.toNat false).length))) Q Q Q Q (mv (Iv a) Q Q Q Q (Ob' fun x11 hx11 => (Op21 (LT.tindexLoc Q Q el170 hx11) Q Q Q Q Q (Os21 (LT.tstore (k := 0) (v := (.c (bC true))) (b' := true) Q Q (infS inf4) sz4 (by exact Q) hx11 (by exact Q) (by exact K Q) (by exact Q)) Q y2 Q Q Q (On (Ws (Ws (Wr ?_))))))))))
  refine asg (Iv 0) Q y2 Q Q (On (AWR.block ?_))
  refine AWR.loopR (id := 2) (m_spec_l4Find_L4 g p a b) (fun s12 => ([(2,(Iv a)),(3,(Iv b)),(4,(Cc (.pl 21 0))),(5,(Cc (.pl 22 0))),(8,(Cc (.pl 23 0))),(10,(Cc (lo 24 s12.2.1.length))),(12,(Cc (lo 25 s12.2.2.1.length))),(13,(Cc (lo 26 s12.2.2.2.length))),(14,(Iv s12.1))],[(21,(.row 32 [[(iC g.Points),(xF encTBar g.Bars)]])),(22,(.row 133 [[(xF encInt p.Free),(xF encInt p.Tails),(xF encInt p.Placed)]])),(23,(.row 133 [[(sC nilV),(sC nilV),(sC nilV)]])),(24,(pR 3 encInt s12.2.1)),(25,(pR 3 encInt s12.2.2.1)),(26,(pR 4 encBool s12.2.2.2))])) (fun b93 => ([(5,(Cc (.pl 22 0))),(8,(Cc (.pl 23 0)))],[(22,(.row 133 [[(xF encInt p.Free),(xF encInt p.Tails),(xF encInt p.Placed)]])),(23,(.row 133 [[(sC nilV),(sC nilV),(sC nilV)]]))])) (FPost Try.prog Try.f202.results.toList [] [0,1,2] (fun (t : (TPebbles × Bool)) => [(.agg [(bif t.2 then (.loc 0 0 t.1.Free.length) else .junk),(bif t.2 then (.loc 1 0 t.1.Tails.length) else .junk),(bif t.2 then (.loc 2 0 t.1.Placed.length) else .junk)]),(.c (bC t.2))]) (fun (t : (TPebbles × Bool)) => [(0,(.prow 3 ((bif t.2 then t.1.Free else []).map encInt))),(1,(.prow 3 ((bif t.2 then t.1.Tails else []).map encInt))),(2,(.prow 3 ((bif t.2 then t.1.Placed else []).map encInt)))])) ?_ (Ent.of ⟨Q,Q,Q,Q,Q,Q,Q,(congrArg (fun l1 => (some (AV.s (.c (lo 26 l1))) : Option AV)) (show (List.replicate g.Points.toNat false).length = ((List.replicate g.Points.toNat false).set a.toNat true).length by simp only [List.length_set])),Q,J⟩ z6) Q (fun b93 _ => ?_) (by intro r t σ m ht hk; injection ht with ht; subst ht; exact hk)
  ·intro s12
   unfold m_spec_l4Find_L4
   refine Ws (Ws (Wr ?_))
   refine mv (Iv s12.1) Q Q Q Q (mv (Cc (lo 25 s12.2.2.1.length)) Q Q Q Q (Op10 (LT.lenLoc Q und45) Q Q Q (Op20 (LT.lss Q) Q Q Q Q (On (AWR.cond Q (fun hc94 => ?_) (fun hc94 => ?_))))))
   ·refine AWR.skip (Ws (AWR.block (Ws (Wr ?_))))
    refine mv (Cc (lo 25 s12.2.2.1.length)) Q Q Q Q (mv (Iv s12.1) Q Q Q Q (Ob' fun x95 hx95 => (Op21 (LT.tindexLoc Q Q el45 hx95) Q Q Q Q Q (Op11 (LT.tload1 (k := 0) Q ag3 hx95 (by exact Q) (by exact Q)) Q Q Q Q (asg (Iv x95) Q Q Q Q (On (Ws (Wr ?_))))))))
    refine asg (Iv 0) Q y2 Q Q (On (AWR.block ?_))
    refine AWR.loopR (id := 4) (m_spec_l4Find_L5 g p a b s12 x95) (fun s96 => ([(2,(Iv a)),(3,(Iv b)),(4,(Cc (.pl 21 0))),(5,(Cc (.pl 22 0))),(8,(Cc (.pl 23 0))),(10,(Cc (lo 24 s96.2.1.length))),(12,(Cc (lo 25 s96.2.2.1.length))),(13,(Cc (lo 26 s96.2.2.2.length))),(14,(Iv s12.1)),(15,(Iv x95)),(16,(Iv s96.1))],[(21,(.row 32 [[(iC g.Points),(xF encTBar g.Bars)]])),(22,(.row 133 [[(xF encInt p.Free),(xF encInt p.Tails),(xF encInt p.Placed)]])),(23,(.row 133 [[(sC nilV),(sC nilV),(sC nilV)]])),(24,(pR 3 encInt s96.2.1)),(25,(pR 3 encInt s96.2.2.1)),(26,(pR 4 encBool s96.2.2.2))])) (fun b133 => ([(2,(Iv a)),(3,(Iv b)),(4,(Cc (.pl 21 0))),(5,(Cc (.pl 22 0))),(8,(Cc (.pl 23 0))),(10,(Cc (lo 24 b133.2.1.length))),(12,(Cc (lo 25 b133.2.2.1.length))),(13,(Cc (lo 26 b133.2.2.2.length))),(14,(Iv b133.1))],[(21,(.row 32 [[(iC g.Points),(xF encTBar g.Bars)]])),(22,(.row 133 [[(xF encInt p.Free),(xF encInt p.Tails),(xF encInt p.Placed)]])),(23,(.row 133 [[(sC nilV),(sC nilV),(sC nilV)]])),(24,(pR 3 encInt b133.2.1)),(25,(pR 3 encInt b133.2.2.1)),(26,(pR 4 encBool b133.2.2.2))])) (FPost Try.prog Try.f202.results.toList [] [0,1,2] (fun (t : (TPebbles × Bool)) => [(.agg [(bif t.2 then (.loc 0 0 t.1.Free.length) else .junk),(bif t.2 then (.loc 1 0 t.1.Tails.length) else .junk),(bif t.2 then (.loc 2 0 t.1.Placed.length) else .junk)]),(.c (bC t.2))]) (fun (t : (TPebbles × Bool)) => [(0,(.prow 3 ((bif t.2 then t.1.Free else []).map encInt))),(1,(.prow 3 ((bif t.2 then t.1.Tails else []).map encInt))),(2,(.prow 3 ((bif t.2 then t.1.Placed else []).map encInt)))])) ?_ (Ent.of z11 z6) Q (fun b133 _ => ?_) (by intro r t σ m ht hk; injection ht with ht; subst ht; exact ⟨Q,hk⟩)
    ·intro s96
     unfold m_spec_l4Find_L5
     refine Ws (Ws (Wr ?_))
     refine mv (Iv s96.1) Q Q Q Q (Op10 (LT.fieldPl Q fo133_2) Q Q Q (Op11 (LT.bload1 (c := (xF encInt p.Placed)) Q ag45 (by exact Q)) Q Q Q Q (Op10 (LT.tlenRO Q und45) Q Q Q (Op20 (LT.lss Q) Q Q Q Q (On (AWR.cond Q (fun hc134 => ?_) (fun hc134 => ?_)))))))
     ·refine AWR.skip (Ws (AWR.block (Ws (Ws (Wr ?_)))))
      refine Op10 (LT.fieldPl Q fo133_1) Q Q Q (Op11 (LT.bload1 (c := (xF encInt p.Tails)) Q ag45 (by exact Q)) Q Q Q Q (mv (Iv s96.1) Q Q Q Q (Ob' fun x135 hx135 => (Op20 (LT.tindexRO (enc := encInt) Q el45 hx135 sz3) Q Q Q Q (Op10 (LT.loadPx1 Q ag3) Q Q Q (mv (Iv x95) Q Q Q Q (Op20 (LT.neq Q) Q Q Q Q (On (AWR.cond Q (fun hc136 => ?_) (fun hc136 => ?_))))))))))
      ·refine AWR.exit Q (en [(2,(Iv a)),(3,(Iv b)),(4,(Cc (.pl 21 0))),(5,(Cc (.pl 22 0))),(8,(Cc (.pl 23 0))),(10,(Cc (lo 24 s96.2.1.length))),(12,(Cc (lo 25 s96.2.2.1.length))),(13,(Cc (lo 26 s96.2.2.2.length))),(14,(Iv s12.1)),(15,(Iv x95)),(16,(Iv s96.1))] [(21,(.row 32 [[(iC g.Points),(xF encTBar g.Bars)]])),(22,(.row 133 [[(xF encInt p.Free),(xF encInt p.Tails),(xF encInt p.Placed)]])),(23,(.row 133 [[(sC nilV),(sC nilV),(sC nilV)]])),(24,(pR 3 encInt s96.2.1)),(25,(pR 3 encInt s96.2.2.1)),(26,(pR 4 encBool s96.2.2.2))] z11 z6 (Wr (mv (Iv s96.1) Q Q Q Q (Op20 (LT.add Q) Q y2 Q Q (asg (Iv (w64 (s96.1 + 1))) Q Q Q Q (On (AWR.nil ⟨Q,Ent.of z11 z6⟩)))))))
      ·refine AWR.skip (Ws ?_)
       refine en [(2,(Iv a)),(3,(Iv b)),(4,(Cc (.pl 21 0))),(5,(Cc (.pl 22 0))),(8,(Cc (.pl 23 0))),(10,(Cc (lo 24 s96.2.1.length))),(12,(Cc (lo 25 s96.2.2.1.length))),(13,(Cc (lo 26 s96.2.2.2.length))),(14,(Iv s12.1)),(15,(Iv x95)),(16,(Iv s96.1))] [(21,(.row 32 [[(iC g.Points),(xF encTBar g.Bars)]])),(22,(.row 133 [[(xF encInt p.Free),(xF encInt p.Tails),(xF encInt p.Placed)]])),(23,(.row 133 [[(sC nilV),(sC nilV),(sC nilV)]])),(24,(pR 3 encInt s96.2.1)),(25,(pR 3 encInt s96.2.2.1)),(26,(pR 4 encBool s96.2.2.2))] z11 z6 (AWR.draw mixed (Dp10 (LT.fieldPl Q fo32_1) Q Q Q (Dp11 (LT.bload1 (c := (xF encTBar g.Bars)) Q ag30 (by exact Q)) Q Q Q Q (Dp10 (LT.fieldPl Q fo133_2) Q Q Q (Dp11 (LT.bload1 (c := (xF encInt p.Placed)) Q ag45 (by exact Q)) Q Q Q Q (Dp10 (LT.move (v := (Iv s96.1)) Q) Q Q Q (AOD.bind fun x137 hx137 => (Dp20 (LT.tindexRO (enc := encInt) Q el45 hx137 sz3) Q Q Q Q (Dp10 (LT.loadPx1 Q ag3) Q Q Q (AOD.bind fun x138 hx138 => (Dp20 (LT.tindexRO (enc := encTBar) Q el30 hx138 sz112) Q Q Q Q ?_)))))))))))
       refine Dp10 (LT.loadPxN Q ag112 (infS inf112) (by exact sz112.symm)) Q Q Q (Dp10 (LT.move (v := (Iv x95)) Q) Q Q Q (AOD.bind fun r139 hr139 => (AOD.pure (@LT.callF Try.prog _ _ 222 _ _ [(.agg [(iC x138.A),(iC x138.B)]),(.c (iC x95))] _ _ [] _ _ _ _ (w_spec_l4Other x138 x95 r139 hr139) Q cb222 (.cons (.agg (.cons (.same Q) (.cons (.same Q) .nil))) (.cons (.c (.same Q)) .nil)) Q Q J) z3 J Q Q (Dp10 (LT.assign (v := (Iv r139)) Q) Q Q Q (AOD.nil (by kernel_rfl) (Ws (Ws ?_)))))))
       refine en [(2,(Iv a)),(3,(Iv b)),(4,(Cc (.pl 21 0))),(5,(Cc (.pl 22 0))),(8,(Cc (.pl 23 0))),(10,(Cc (lo 24 s96.2.1.length))),(12,(Cc (lo 25 s96.2.2.1.length))),(13,(Cc (lo 26 s96.2.2.2.length))),(14,(Iv s12.1)),(15,(Iv x95)),(16,(Iv s96.1)),(17,(Iv r139))] [(21,(.row 32 [[(iC g.Points),(xF encTBar g.Bars)]])),(22,(.row 133 [[(xF encInt p.Free),(xF encInt p.Tails),(xF encInt p.Placed)]])),(23,(.row 133 [[(sC nilV),(sC nilV),(sC nilV)]])),(24,(pR 3 encInt s96.2.1)),(25,(pR 3 encInt s96.2.2.1)),(26,(pR 4 encBool s96.2.2.2))] z12 z6 (Wr (mv (Cc (lo 26 s96.2.2.2.length)) Q Q Q Q (mv (Iv r139) Q Q Q Q (Ob' fun x140 hx140 => (Op21 (LT.tindexLoc Q Q el170 hx140) Q Q Q Q Q (Op11 (LT.tload1 (k := 0) Q ag4 hx140 (by exact Q) (by exact Q)) Q Q Q Q (On (AWR.cond Q (fun hc141 => ?_) (fun hc141 => ?_)))))))))
       ·refine AWR.exit Q (Wr ?_)
        refine mv (Iv s96.1) Q Q Q Q (Op20 (LT.add Q) Q y2 Q Q (asg (Iv (w64 (s96.1 + 1))) Q Q Q Q (On (AWR.nil ⟨Q,Ent.of z11 z6⟩))))
       ·refine AWR.skip (Ws (Wr ?_))
        refine mv (Cc (lo 26 s96.2.2.2.length)) Q Q Q Q (mv (Iv r139) Q Q Q Q (Ob' fun x142 hx142 => (Op21 (LT.tindexLoc Q Q el170 hx142) Q Q Q Q Q (Os21 (LT.tstore (k := 0) (v := (.c (bC true))) (b' := true) Q Q (infS inf4) sz4 (by exact Q) hx142 (by exact Q) (by exact K Q) (by exact Q)) Q y2 Q Q Q (On (Ws (Wr ?_)))))))
        refine mv (Cc (lo 24 s96.2.1.length)) Q Q Q Q (mv (Iv r139) Q Q Q Q (mv (Iv s96.1) Q Q Q Q (Ob' fun x143 hx143 => (Op21 (LT.tindexLoc Q Q el45 hx143) Q Q Q Q Q (Os21 (LT.tstore (k := 0) (v := (.c (iC s96.1))) (b' := s96.1) Q Q (infS inf3) sz3 (by exact Q) hx143 (by exact Q) (by exact K Q) (by exact Q)) Q Q Q Q Q (On (Ws (Ws ?_))))))))
        refine AWR.joinK (fun j146 => ([(2,(Iv a)),(3,(Iv b)),(4,(Cc (.pl 21 0))),(5,(Cc (.pl 22 0))),(8,(Cc (.pl 23 0))),(10,(Cc (lo 24 ((s96.2.1.set r139.toNat s96.1).length)))),(12,(Cc (lo 25 s96.2.2.1.length))),(13,(Cc (lo 26 ((s96.2.2.2.set r139.toNat true).length)))),(14,(Iv s12.1)),(15,(Iv x95)),(16,(Iv s96.1)),(17,(Iv r139)),(94,(Bv j146))],[(21,(.row 32 [[(iC g.Points),(xF encTBar g.Bars)]])),(22,(.row 133 [[(xF encInt p.Free),(xF encInt p.Tails),(xF encInt p.Placed)]])),(23,(.row 133 [[(sC nilV),(sC nilV),(sC nilV)]])),(24,(pR 3 encInt (s96.2.1.set r139.toNat s96.1))),(25,(pR 3 encInt s96.2.2.1)),(26,(pR 4 encBool (s96.2.2.2.set r139.toNat true)))])) ?_ (fun j146 _ => ?_)
        ·refine en [(2,(Iv a)),(3,(Iv b)),(4,(Cc (.pl 21 0))),(5,(Cc (.pl 22 0))),(8,(Cc (.pl 23 0))),(10,(Cc (lo 24 s96.2.1.length))),(12,(Cc (lo 25 s96.2.2.1.length))),(13,(Cc (lo 26 s96.2.2.2.length))),(14,(Iv s12.1)),(15,(Iv x95)),(16,(Iv s96.1)),(17,(Iv r139))] [(21,(.row 32 [[(iC g.Points),(xF encTBar g.Bars)]])),(22,(.row 133 [[(xF encInt p.Free),(xF encInt p.Tails),(xF encInt p.Placed)]])),(23,(.row 133 [[(sC nilV),(sC nilV),(sC nilV)]])),(24,(pR 3 encInt (s96.2.1.set r139.toNat s96.1))),(25,(pR 3 encInt s96.2.2.1)),(26,(pR 4 encBool (s96.2.2.2.set r139.toNat true)))] z12 z6 (Wr (mv (Iv r139) Q Q Q Q (mv (Iv b) Q Q Q Q (Op20 (LT.neq Q) Q Q Q Q (mv (Bv (r139 != b)) Q Q Q Q (AOR.split (fun hb147 => ?_) (fun hb147 => ?_)))))))
         ·refine Op10 (LT.fieldPl Q fo133_0) Q (gH hb147 Q Q) Q (Op11 (LT.bload1 (c := (xF encInt p.Free)) Q ag45 (by exact Q)) Q Q (gH hb147 Q Q) Q (mv (Iv r139) Q Q (gH hb147 Q Q) Q (Ob' fun x148 hx148 => (Op20 (LT.tindexRO (enc := encInt) Q el45 hx148 sz3) Q Q (gH hb147 Q Q) Q (Op10 (LT.loadPx1 Q ag3) Q (gH hb147 Q Q) Q (Op20 (LT.gtr Q) Q y2 (gH hb147 Q Q) Q (Op20 (LT.pickT (v := (Bv (decide (0 < x148)))) Q hb147) Q Q Q Q (On (AWR.nil ⟨Q,Ent.of ⟨Q,Q,Q,Q,Q,(congrArg (fun l1 => (some (AV.s (.c (lo 24 l1))) : Option AV)) (show s96.2.1.length = (s96.2.1.set r139.toNat s96.1).length by simp only [List.length_set])),Q,(congrArg (fun l1 => (some (AV.s (.c (lo 26 l1))) : Option AV)) (show s96.2.2.2.length = (s96.2.2.2.set r139.toNat true).length by simp only [List.length_set])),Q,Q,Q,Q,Q,J⟩ z6⟩)))))))))
         ·refine Ok Q Q Q (by rw [hb147]; rfl) Q (Ok Q Q Q (by rw [hb147]; rfl) Q (Ok Q Q Q (by rw [hb147]; rfl) Q (Ok Q Q Q (by rw [hb147]; rfl) Q (Ok Q Q Q (by rw [hb147]; rfl) Q (Ok Q Q Q (by rw [hb147]; rfl) Q (Op20 (LT.pickF (v := (Bv false)) Q hb147) Q y2 Q Q (On (AWR.nil ⟨Q,Ent.of ⟨Q,Q,Q,Q,Q,(congrArg (fun l1 => (some (AV.s (.c (lo 24 l1))) : Option AV)) (show s96.2.1.length = (s96.2.1.set r139.toNat s96.1).length by simp only [List.length_set])),Q,(congrArg (fun l1 => (some (AV.s (.c (lo 26 l1))) : Option AV)) (show s96.2.2.2.length = (s96.2.2.2.set r139.toNat true).length by simp only [List.length_set])),Q,Q,Q,Q,Q,J⟩ z6⟩))))))))
        ·refine AWR.cond Q (fun hc149 => ?_) (fun hc149 => ?_)
         ·refine Ws (Wr ?_)
          refine Op11 (LT.bloadN (out := [(iC g.Points),(xF encTBar g.Bars)]) Q ag32 (infS inf32) sz32 (by exact Q) (by exact Q)) Q Q Q Q (Op11 (LT.bloadN (out := [(xF encInt p.Free),(xF encInt p.Tails),(xF encInt p.Placed)]) Q ag133 (infS inf133) sz133 (by exact Q) (by exact Q)) Q Q Q Q (mv (Cc (lo 24 ((s96.2.1.set r139.toNat s96.1).length))) Q Q Q Q (mv (Iv a) Q Q Q Q (mv (Iv r139) Q Q Q Q (Ob' fun r150 hr150 => (AOR.step (@LT.callF Try.prog _ _ 223 _ _ [(.agg [(iC g.Points),(xF encTBar g.Bars)]),(.agg [(xF encInt p.Free),(xF encInt p.Tails),(xF encInt p.Placed)]),(.c (lo 24 ((s96.2.1.set r139.toNat s96.1).length))),(.c (iC a)),(.c (iC r139))] _ _ [(24,(pR 3 encInt (s96.2.1.set r139.toNat s96.1)))] _ _ _ _ ((show Fw.Fn Try.prog 223 [(.agg [(iC g.Points),(xF encTBar g.Bars)]),(.agg [(xF encInt p.Free),(xF encInt p.Tails),(xF encInt p.Placed)]),(.c (xF encInt (s96.2.1.set r139.toNat s96.1))),(.c (iC a)),(.c (iC r139))] [] (Ag  [(lo 29 r150.Free.length),(lo 30 r150.Tails.length),(lo 31 r150.Placed.length)]) [(29,(pR 3 encInt r150.Free)),(30,(pR 3 encInt r150.Tails)),(31,(pR 3 encInt r150.Placed))] [] [29,30,31] from Fw.Fn.ren [(0,29),(1,30),(2,31)] (w_spec_l4Shift g p (s96.2.1.set r139.toNat s96.1) a r139 r150 hr150) Q)) Q cb223 (.cons (.agg (.cons (.same Q) (.cons (.same Q) .nil))) (.cons (.agg (.cons (.same Q) (.cons (.same Q) (.cons (.same Q) .nil)))) (.cons (.c (.tloc Q Q)) (.cons (.c (.same Q)) (.cons (.c (.same Q)) .nil))))) Q Q J) z6 z1 Q Q (Os21 (LT.bstore (v := (.agg [(lo 29 r150.Free.length),(lo 30 r150.Tails.length),(lo 31 r150.Placed.length)])) (out := [(lo 29 r150.Free.length),(lo 30 r150.Tails.length),(lo 31 r150.Placed.length)]) Q Q (infS inf133) sz133 (by exact Q) (by exact K Q) (by exact Q)) Q Q Q Q Q (asg (Bv true) Q y2 Q Q (On (en [(8,(Cc (.pl 23 0))),(9,(Bv true))] [(23,(.row 133 [[(lo 29 r150.Free.length),(lo 30 r150.Tails.length),(lo 31 r150.Placed.length)]])),(29,(pR 3 encInt r150.Free)),(30,(pR 3 encInt r150.Tails)),(31,(pR 3 encInt r150.Placed))] z2 z4 (AWR.ent (Ent.mv 29 0 Q Q) ?_)))))))))))
          refine AWR.ent (Ent.mv 30 1 Q Q) (AWR.ent (Ent.mv 31 2 Q Q) (en [(8,(Cc (.pl 23 0))),(9,(Bv true))] [(0,(pR 3 encInt r150.Free)),(1,(pR 3 encInt r150.Tails)),(2,(pR 3 encInt r150.Placed)),(23,(.row 133 [[(lo 0 r150.Free.length),(lo 1 r150.Tails.length),(lo 2 r150.Placed.length)]]))] z2 z4 (AWR.ret ⟨Q,FPost.mk (.inr Q) ⟨⟨_,_,_,Q,Q,Q,ag133,sz133,_,(infS inf133)⟩,Q,J⟩ z3 Q ⟨⟨J,J,J,J⟩,PermP.sc,J⟩ ⟨PermO.prow' perm_encInt,PermO.prow' perm_encInt,PermO.prow' perm_encInt,J⟩⟩)))
         ·refine AWR.skip (Wr ?_)
          refine mv (Cc (lo 25 s96.2.2.1.length)) Q Q Q Q (mv (Iv r139) Q Q Q Q (Os10 (LT.tbuildSlice (n := 32) (enc := encInt) [(0,.tmp 102,(.c (iC r139)))] ([r139] : List Int) Q Q und45 ti3 Q Q Q Q (by decide) (fun _ => Q) Q) Q Q Q (Ob' fun u151 hu151 => (Os22 (LT.tappP (enc := encInt) Q Q Q und45 ti3 Q (by decide) (by decide) (fun _ => Q) (lim_le hu151)) Q Q Q Q Q Q (asg (Cc (lo 25 ((s96.2.2.1 ++ ([r139] : List Int)).length))) Q Q Q Q (On (AWR.blk (Wr ?_))))))))
          refine mv (Iv s96.1) Q Q Q Q (Op20 (LT.add Q) Q y2 Q Q (asg (Iv (w64 (s96.1 + 1))) Q Q Q Q (On (AWR.nil ⟨Q,Ent.of z11 z6⟩))))
     ·refine AWR.exit_end Q ⟨Q,Ent.of z9 z6⟩
    ·refine AWR.blk (Wr ?_)
     refine mv (Iv b133.1) Q Q Q Q (Op20 (LT.add Q) Q y2 Q Q (asg (Iv (w64 (b133.1 + 1))) Q Q Q Q (On (AWR.nil ⟨Q,Ent.of z9 z6⟩))))
   ·refine AWR.exit_end Q ⟨Q,Ent.of z2 z2⟩
  ·refine Ws (Wr ?_)
   refine Op11 (LT.bloadN (out := [(xF encInt p.Free),(xF encInt p.Tails),(xF encInt p.Placed)]) Q ag133 (infS inf133) sz133 (by exact Q) (by exact Q)) Q Q Q Q (Os21 (LT.bstore (v := (.agg [(xF encInt p.Free),(xF encInt p.Tails),(xF encInt p.Placed)])) (out := [(xF encInt p.Free),(xF encInt p.Tails),(xF encInt p.Placed)]) Q Q (infS inf133) sz133 (by exact Q) (by exact K Q) (by exact Q)) Q Q Q Q Q (asg (Bv false) Q y2 Q Q (On (AWR.ent (Ent.junkB 23 0 Q) (AWR.ent (Ent.junkB 23 1 Q) (AWR.ent (Ent.junkB 23 2 Q) (AWR.ent (Ent.nilNew 0 3 Q) (AWR.ent (Ent.nilNew 1 3 Q) (AWR.ent (Ent.nilNew 2 3 Q) (en [(8,(Cc (.pl 23 0))),(9,(Bv false))] [(0,(pR 3 encInt ([] : List Int))),(1,(pR 3 encInt ([] : List Int))),(2,(pR 3 encInt ([] : List Int))),(23,(.row 133 [[.junk,.junk,.junk]]))] z2 z4 (AWR.ret (FPost.mk (.inr Q) ⟨⟨_,_,_,Q,Q,Q,ag133,sz133,_,(infS inf133)⟩,Q,J⟩ z3 Q ⟨⟨J,J,J,J⟩,PermP.sc,J⟩ ⟨PermO.prow' perm_encInt,PermO.prow' perm_encInt,PermO.prow' perm_encInt,J⟩))))))))))))
theorem w_spec_l4Gather (g : TGraph) (p : TPebbles) (a : Int) (b : Int) (want : Int) : ∀ t,m_spec_l4Gather g p a b want = some t → Fw.Fn Try.prog 164 [(.agg [(iC g.Points),(xF encTBar g.Bars)]),(.agg [(xF encInt p.Free),(xF encInt p.Tails),(xF encInt p.Placed)]),(.c (iC a)),(.c (iC b)),(.c (iC want))] [] (resA [(.agg [(lo 0 t.1.Free.length),(lo 1 t.1.Tails.length),(lo 2 t.1.Placed.length)]),(.c (bC t.2))]) [(0,(pR 3 encInt t.1.Free)),(1,(pR 3 encInt t.1.Tails)),(2,(pR 3 encInt t.1.Placed))] [] [0,1,2] := by
 refine Fw.Fn.of (P := Try.prog) (X := [0,1,2]) (pn := []) (rs := (fun (t : (TPebbles × Bool)) => [(.agg [(lo 0 t.1.Free.length),(lo 1 t.1.Tails.length),(lo 2 t.1.Placed.length)]),(.c (bC t.2))])) (dfs := (fun (t : (TPebbles × Bool)) => [(0,(pR 3 encInt t.1.Free)),(1,(pR 3 encInt t.1.Tails)),(2,(pR 3 encInt t.1.Placed))])) Try.func164 Q Try.ntmps164 (K Q) Q ?_
 intro w0 U0 R0 g0
 unfold m_spec_l4Gather
 refine Ws (Wr ?_)
 refine Os10 (LT.box (n := 21) (v := (.agg [(iC g.Points),(xF encTBar g.Bars)])) Q sz32 (by exact Q)) Q Q Q (Os10 (LT.box (n := 22) (v := (.agg [(xF encInt p.Free),(xF encInt p.Tails),(xF encInt p.Placed)])) Q sz133 (by exact Q)) Q Q Q (Os00 (LT.alloc (n := 23) (cells := [(sC nilV),(sC nilV),(sC nilV)]) Q ti133 Q Q Q) Q Q (asg (Bv false) Q y2 Q Q (On (Ws (Wr ?_))))))
 refine Op11 (LT.bloadN (out := [(xF encInt p.Free),(xF encInt p.Tails),(xF encInt p.Placed)]) Q ag133 (infS inf133) sz133 (by exact Q) (by exact Q)) Q Q Q Q (Ob' fun r1 hr1 => (AOR.step (@LT.callF Try.prog _ _ 201 _ _ [(.agg [(xF encInt p.Free),(xF encInt p.Tails),(xF encInt p.Placed)])] _ _ [] _ _ _ _ ((show Fw.Fn Try.prog 201 [(.agg [(xF encInt p.Free),(xF encInt p.Tails),(xF encInt p.Placed)])] [] (Ag  [(lo 25 r1.Free.length),(lo 26 r1.Tails.length),(lo 27 r1.Placed.length)]) [(25,(pR 3 encInt r1.Free)),(26,(pR 3 encInt r1.Tails)),(27,(pR 3 encInt r1.Placed))] [] [25,26,27] from Fw.Fn.ren [(0,25),(1,26),(2,27)] (w_spec_l4Copy p r1 hr1) Q)) Q cb201 (.cons (.agg (.cons (.same Q) (.cons (.same Q) (.cons (.same Q) .nil)))) .nil) Q Q J) z2 J Q Q (Os00 (LT.alloc (n := 28) (cells := [(sC nilV),(sC nilV),(sC nilV)]) Q ti133 Q Q Q) Q Q (Os21 (LT.bstore (v := (.agg [(lo 25 r1.Free.length),(lo 26 r1.Tails.length),(lo 27 r1.Placed.length)])) (out := [(lo 25 r1.Free.length),(lo 26 r1.Tails.length),(lo 27 r1.Placed.length)]) Q Q (infS inf133) sz133 (by exact Q) (by exact K Q) (by exact Q)) Q Q Q Q Q (On (Ws (AWR.block ?_)))))))
 refine AWR.loopR (id := 0) (m_spec_l4Gather_L1 g a b want) (fun s2 => ([(2,(Iv a)),(3,(Iv b)),(4,(Iv want)),(5,(Cc (.pl 21 0))),(10,(Cc (.pl 23 0))),(12,(Cc (.pl 28 0)))],[(21,(.row 32 [[(iC g.Points),(xF encTBar g.Bars)]])),(23,(.row 133 [[(sC nilV),(sC nilV),(sC nilV)]])),(25,(pR 3 encInt s2.1)),(26,(pR 3 encInt s2.2.1)),(27,(pR 3 encInt s2.2.2)),(28,(.row 133 [[(lo 25 s2.1.length),(lo 26 s2.2.1.length),(lo 27 s2.2.2.length)]]))])) (fun b27 => ([(10,(Cc (.pl 23 0))),(12,(Cc (.pl 28 0)))],[(23,(.row 133 [[(sC nilV),(sC nilV),(sC nilV)]])),(25,(pR 3 encInt b27.1)),(26,(pR 3 encInt b27.2.1)),(27,(pR 3 encInt b27.2.2)),(28,(.row 133 [[(lo 25 b27.1.length),(lo 26 b27.2.1.length),(lo 27 b27.2.2.length)]]))])) (FPost Try.prog Try.f164.results.toList [] [0,1,2] (fun (t : (TPebbles × Bool)) => [(.agg [(lo 0 t.1.Free.length),(lo 1 t.1.Tails.length),(lo 2 t.1.Placed.length)]),(.c (bC t.2))]) (fun (t : (TPebbles × Bool)) => [(0,(pR 3 encInt t.1.Free)),(1,(pR 3 encInt t.1.Tails)),(2,(pR 3 encInt t.1.Placed))])) ?_ (Ent.of z6 z6) Q (fun b27 _ => ?_) (by intro r t σ m ht hk; injection ht with ht; subst ht; exact hk)
 ·intro s2
  unfold m_spec_l4Gather_L1
  refine Ws (Ws (AWR.draw mixed ?_))
  refine Dp10 (LT.fieldPl Q fo133_0) Q Q Q (Dp11 (LT.bload1 (c := (lo 25 s2.1.length)) Q ag45 (by exact Q)) Q Q Q Q (Dp10 (LT.move (v := (Iv a)) Q) Q Q Q (AOD.bind fun x28 hx28 => (Dp21 (LT.tindexLoc Q Q el45 hx28) Q Q Q Q Q (Dp11 (LT.tload1 (k := 0) Q ag3 hx28 (by exact Q) (by exact Q)) Q Q Q Q (Dp10 (LT.fieldPl Q fo133_0) Q Q Q (Dp11 (LT.bload1 (c := (lo 25 s2.1.length)) Q ag45 (by exact Q)) Q Q Q Q (Dp10 (LT.move (v := (Iv b)) Q) Q Q Q (AOD.bind fun x29 hx29 => (Dp21 (LT.tindexLoc Q Q el45 hx29) Q Q Q Q Q (Dp11 (LT.tload1 (k := 0) Q ag3 hx29 (by exact Q) (by exact Q)) Q Q Q Q ?_)))))))))))
  refine Dp20 (LT.add Q) Q Q Q Q (Dp10 (LT.move (v := (Iv want)) Q) Q Q Q (Dp20 (LT.lss Q) Q Q Q Q (AOD.nil (by kernel_rfl) (AWR.cond Q (fun hc30 => ?_) (fun hc30 => ?_)))))
  ·refine AWR.skip (AWR.block (Ws ?_))
   refine en [(2,(Iv a)),(3,(Iv b)),(4,(Iv want)),(5,(Cc (.pl 21 0))),(10,(Cc (.pl 23 0))),(12,(Cc (.pl 28 0)))] [(21,(.row 32 [[(iC g.Points),(xF encTBar g.Bars)]])),(23,(.row 133 [[(sC nilV),(sC nilV),(sC nilV)]])),(25,(pR 3 encInt s2.1)),(26,(pR 3 encInt s2.2.1)),(27,(pR 3 encInt s2.2.2)),(28,(.row 133 [[(lo 25 s2.1.length),(lo 26 s2.2.1.length),(lo 27 s2.2.2.length)]]))] z6 z6 (Wr (Op11 (LT.bloadN (out := [(iC g.Points),(xF encTBar g.Bars)]) Q ag32 (infS inf32) sz32 (by exact Q) (by exact Q)) Q Q Q Q (Op11 (LT.bloadN (out := [(lo 25 s2.1.length),(lo 26 s2.2.1.length),(lo 27 s2.2.2.length)]) Q ag133 (infS inf133) sz133 (by exact Q) (by exact Q)) Q Q Q Q (mv (Iv a) Q Q Q Q (mv (Iv b) Q Q Q Q (Ob' fun r31 hr31 => (AOR.split (fun hb32 => ?_) (fun hb32 => ?_))))))))
   ·refine AOR.step (@LT.callF Try.prog _ _ 202 _ _ [(.agg [(iC g.Points),(xF encTBar g.Bars)]),(.agg [(lo 25 s2.1.length),(lo 26 s2.2.1.length),(lo 27 s2.2.2.length)]),(.c (iC a)),(.c (iC b))] _ _ [(25,(pR 3 encInt s2.1)),(26,(pR 3 encInt s2.2.1)),(27,(pR 3 encInt s2.2.2))] _ _ _ _ ((show Fw.Fn Try.prog 202 [(.agg [(iC g.Points),(xF encTBar g.Bars)]),(.agg [(xF encInt ((TPebbles.mk s2.1 s2.2.1 s2.2.2).Free)),(xF encInt ((TPebbles.mk s2.1 s2.2.1 s2.2.2).Tails)),(xF encInt ((TPebbles.mk s2.1 s2.2.1 s2.2.2).Placed))]),(.c (iC a)),(.c (iC b))] [] (.tup [(.agg [(lo 30 r31.1.Free.length),(lo 31 r31.1.Tails.length),(lo 32 r31.1.Placed.length)]),(.c (bC true))]) [(30,(pR 3 encInt r31.1.Free)),(31,(pR 3 encInt r31.1.Tails)),(32,(pR 3 encInt r31.1.Placed))] [] [30,31,32] from Fw.Fn.ren [(0,30),(1,31),(2,32)] ((by have q := w_spec_l4Find g (TPebbles.mk s2.1 s2.2.1 s2.2.2) a b r31 hr31; rw [hb32] at q; exact q)) Q)) Q cb202 (.cons (.agg (.cons (.same Q) (.cons (.same Q) .nil))) (.cons (.agg (.cons (.tloc Q Q) (.cons (.tloc Q Q) (.cons (.tloc Q Q) .nil)))) (.cons (.c (.same Q)) (.cons (.c (.same Q)) .nil)))) Q Q J) z5 z3 Q Q (mv (.tup [(.agg [(lo 30 r31.1.Free.length),(lo 31 r31.1.Tails.length),(lo 32 r31.1.Placed.length)]),(.c (bC true))]) Q Q Q Q (Op10 (LT.extract (v := (.agg [(lo 30 r31.1.Free.length),(lo 31 r31.1.Tails.length),(lo 32 r31.1.Placed.length)])) Q (by exact Q)) Q Q Q (Op10 (LT.extract (v := (.c (bC true))) Q (by exact Q)) Q Q Q (Os00 (LT.alloc (n := 33) (cells := [(sC nilV),(sC nilV),(sC nilV)]) Q ti133 Q Q Q) Q Q (Os21 (LT.bstore (v := (.agg [(lo 30 r31.1.Free.length),(lo 31 r31.1.Tails.length),(lo 32 r31.1.Placed.length)])) (out := [(lo 30 r31.1.Free.length),(lo 31 r31.1.Tails.length),(lo 32 r31.1.Placed.length)]) Q Q (infS inf133) sz133 (by exact Q) (by exact K Q) (by exact Q)) Q Q Q Q Q (asg (Bv true) Q Q Q Q (On (Ws (Ws ?_)))))))))
    refine en [(2,(Iv a)),(3,(Iv b)),(4,(Iv want)),(5,(Cc (.pl 21 0))),(10,(Cc (.pl 23 0))),(12,(Cc (.pl 28 0))),(13,(Cc (.pl 33 0))),(14,(Bv true))] [(21,(.row 32 [[(iC g.Points),(xF encTBar g.Bars)]])),(23,(.row 133 [[(sC nilV),(sC nilV),(sC nilV)]])),(25,(pR 3 encInt s2.1)),(26,(pR 3 encInt s2.2.1)),(27,(pR 3 encInt s2.2.2)),(28,(.row 133 [[(lo 25 s2.1.length),(lo 26 s2.2.1.length),(lo 27 s2.2.2.length)]])),(30,(pR 3 encInt r31.1.Free)),(31,(pR 3 encInt r31.1.Tails)),(32,(pR 3 encInt r31.1.Placed)),(33,(.row 133 [[(lo 30 r31.1.Free.length),(lo 31 r31.1.Tails.length),(lo 32 r31.1.Placed.length)]]))] z8 z10 (Wr (mv (Bv true) Q Q Q Q (Op10 (LT.not Q) Q Q Q (On (AWR.cond Q (fun hc33 => ?_) (fun hc33 => ?_))))))
    ·exact AWR.none
    ·refine AWR.skip (Ws (Ws (Wr ?_)))
     refine mv (Bv true) Q Q Q Q (Op10 (LT.not Q) Q Q Q (On (AWR.cond Q (fun hc34 => ?_) (fun hc34 => ?_))))
     ·exact AWR.none
     ·refine AWR.skip (Wr ?_)
      refine Op11 (LT.bloadN (out := [(lo 30 r31.1.Free.length),(lo 31 r31.1.Tails.length),(lo 32 r31.1.Placed.length)]) Q ag133 (infS inf133) sz133 (by exact Q) (by exact Q)) Q Q Q Q (Os21 (LT.bstore (v := (.agg [(lo 30 r31.1.Free.length),(lo 31 r31.1.Tails.length),(lo 32 r31.1.Placed.length)])) (out := [(lo 30 r31.1.Free.length),(lo 31 r31.1.Tails.length),(lo 32 r31.1.Placed.length)]) Q Q (infS inf133) sz133 (by exact Q) (by exact K Q) (by exact Q)) Q Q Q Q Q (On (AWR.blk ?_)))
      refine en [(2,(Iv a)),(3,(Iv b)),(4,(Iv want)),(5,(Cc (.pl 21 0))),(10,(Cc (.pl 23 0))),(12,(Cc (.pl 28 0)))] [(21,(.row 32 [[(iC g.Points),(xF encTBar g.Bars)]])),(23,(.row 133 [[(sC nilV),(sC nilV),(sC nilV)]])),(28,(.row 133 [[(lo 30 r31.1.Free.length),(lo 31 r31.1.Tails.length),(lo 32 r31.1.Placed.length)]])),(30,(pR 3 encInt r31.1.Free)),(31,(pR 3 encInt r31.1.Tails)),(32,(pR 3 encInt r31.1.Placed))] z6 z6 (AWR.ent (Ent.mv 30 25 Q Q) (AWR.ent (Ent.mv 31 26 Q Q) (AWR.ent (Ent.mv 32 27 Q Q) (AWR.nil ⟨Q,Ent.of z6 z6⟩))))
   ·refine AOR.step (@LT.callF Try.prog _ _ 202 _ _ [(.agg [(iC g.Points),(xF encTBar g.Bars)]),(.agg [(lo 25 s2.1.length),(lo 26 s2.2.1.length),(lo 27 s2.2.2.length)]),(.c (iC a)),(.c (iC b))] _ _ [(25,(pR 3 encInt s2.1)),(26,(pR 3 encInt s2.2.1)),(27,(pR 3 encInt s2.2.2))] _ _ _ _ ((show Fw.Fn Try.prog 202 [(.agg [(iC g.Points),(xF encTBar g.Bars)]),(.agg [(xF encInt ((TPebbles.mk s2.1 s2.2.1 s2.2.2).Free)),(xF encInt ((TPebbles.mk s2.1 s2.2.1 s2.2.2).Tails)),(xF encInt ((TPebbles.mk s2.1 s2.2.1 s2.2.2).Placed))]),(.c (iC a)),(.c (iC b))] [] (.tup [(.agg [.junk,.junk,.junk]),(.c (bC false))]) [(30,(pR 3 encInt ([] : List Int))),(31,(pR 3 encInt ([] : List Int))),(32,(pR 3 encInt ([] : List Int)))] [] [30,31,32] from Fw.Fn.ren [(0,30),(1,31),(2,32)] ((by have q := w_spec_l4Find g (TPebbles.mk s2.1 s2.2.1 s2.2.2) a b r31 hr31; rw [hb32] at q; exact q)) Q)) Q cb202 (.cons (.agg (.cons (.same Q) (.cons (.same Q) .nil))) (.cons (.agg (.cons (.tloc Q Q) (.cons (.tloc Q Q) (.cons (.tloc Q Q) .nil)))) (.cons (.c (.same Q)) (.cons (.c (.same Q)) .nil)))) Q Q J) z5 z3 Q Q (mv (.tup [(.agg [.junk,.junk,.junk]),(.c (bC false))]) Q Q Q Q (Op10 (LT.extract (v := (.agg [.junk,.junk,.junk])) Q (by exact Q)) Q Q Q (Op10 (LT.extract (v := (.c (bC false))) Q (by exact Q)) Q Q Q (Os00 (LT.alloc (n := 33) (cells := [(sC nilV),(sC nilV),(sC nilV)]) Q ti133 Q Q Q) Q Q (Os21 (LT.bstore (v := (.agg [.junk,.junk,.junk])) (out := [.junk,.junk,.junk]) Q Q (infS inf133) sz133 (by exact Q) (by exact K Q) (by exact Q)) Q Q Q Q Q (asg (Bv false) Q Q Q Q (On (Ws (Ws ?_)))))))))
    refine en [(2,(Iv a)),(3,(Iv b)),(4,(Iv want)),(5,(Cc (.pl 21 0))),(10,(Cc (.pl 23 0))),(12,(Cc (.pl 28 0))),(13,(Cc (.pl 33 0))),(14,(Bv false))] [(21,(.row 32 [[(iC g.Points),(xF encTBar g.Bars)]])),(23,(.row 133 [[(sC nilV),(sC nilV),(sC nilV)]])),(25,(pR 3 encInt s2.1)),(26,(pR 3 encInt s2.2.1)),(27,(pR 3 encInt s2.2.2)),(28,(.row 133 [[(lo 25 s2.1.length),(lo 26 s2.2.1.length),(lo 27 s2.2.2.length)]])),(33,(.row 133 [[.junk,.junk,.junk]]))] z8 z7 (Wr (mv (Bv false) Q Q Q Q (Op10 (LT.not Q) Q Q Q (On (AWR.cond Q (fun hc35 => ?_) (fun hc35 => ?_))))))
    ·refine Wr (Op11 (LT.bloadN (out := [(iC g.Points),(xF encTBar g.Bars)]) Q ag32 (infS inf32) sz32 (by exact Q) (by exact Q)) Q Q Q Q (Op11 (LT.bloadN (out := [(lo 25 s2.1.length),(lo 26 s2.2.1.length),(lo 27 s2.2.2.length)]) Q ag133 (infS inf133) sz133 (by exact Q) (by exact Q)) Q Q Q Q (mv (Iv b) Q Q Q Q (mv (Iv a) Q Q Q Q (Ob' fun r36 hr36 => (AOR.split (fun hb37 => ?_) (fun hb37 => ?_)))))))
     ·refine AOR.step (@LT.callF Try.prog _ _ 202 _ _ [(.agg [(iC g.Points),(xF encTBar g.Bars)]),(.agg [(lo 25 s2.1.length),(lo 26 s2.2.1.length),(lo 27 s2.2.2.length)]),(.c (iC b)),(.c (iC a))] _ _ [(25,(pR 3 encInt s2.1)),(26,(pR 3 encInt s2.2.1)),(27,(pR 3 encInt s2.2.2))] _ _ _ _ ((show Fw.Fn Try.prog 202 [(.agg [(iC g.Points),(xF encTBar g.Bars)]),(.agg [(xF encInt ((TPebbles.mk s2.1 s2.2.1 s2.2.2).Free)),(xF encInt ((TPebbles.mk s2.1 s2.2.1 s2.2.2).Tails)),(xF encInt ((TPebbles.mk s2.1 s2.2.1 s2.2.2).Placed))]),(.c (iC b)),(.c (iC a))] [] (.tup [(.agg [(lo 35 r36.1.Free.length),(lo 36 r36.1.Tails.length),(lo 37 r36.1.Placed.length)]),(.c (bC true))]) [(35,(pR 3 encInt r36.1.Free)),(36,(pR 3 encInt r36.1.Tails)),(37,(pR 3 encInt r36.1.Placed))] [] [35,36,37] from Fw.Fn.ren [(0,35),(1,36),(2,37)] ((by have q := w_spec_l4Find g (TPebbles.mk s2.1 s2.2.1 s2.2.2) b a r36 hr36; rw [hb37] at q; exact q)) Q)) Q cb202 (.cons (.agg (.cons (.same Q) (.cons (.same Q) .nil))) (.cons (.agg (.cons (.tloc Q Q) (.cons (.tloc Q Q) (.cons (.tloc Q Q) .nil)))) (.cons (.c (.same Q)) (.cons (.c (.same Q)) .nil)))) Q Q J) z5 z3 Q Q (mv (.tup [(.agg [(lo 35 r36.1.Free.length),(lo 36 r36.1.Tails.length),(lo 37 r36.1.Placed.length)]),(.c (bC true))]) Q Q Q Q (Op10 (LT.extract (v := (.agg [(lo 35 r36.1.Free.length),(lo 36 r36.1.Tails.length),(lo 37 r36.1.Placed.length)])) Q (by exact Q)) Q Q Q (Op10 (LT.extract (v := (.c (bC true))) Q (by exact Q)) Q Q Q (Os21 (LT.bstore (v := (.agg [(lo 35 r36.1.Free.length),(lo 36 r36.1.Tails.length),(lo 37 r36.1.Placed.length)])) (out := [(lo 35 r36.1.Free.length),(lo 36 r36.1.Tails.length),(lo 37 r36.1.Placed.length)]) Q Q (infS inf133) sz133 (by exact Q) (by exact K Q) (by exact Q)) Q Q Q Q Q (asg (Bv true) Q Q Q Q (On (Ws (Ws ?_))))))))
      refine en [(2,(Iv a)),(3,(Iv b)),(4,(Iv want)),(5,(Cc (.pl 21 0))),(10,(Cc (.pl 23 0))),(12,(Cc (.pl 28 0))),(13,(Cc (.pl 33 0))),(14,(Bv true))] [(21,(.row 32 [[(iC g.Points),(xF encTBar g.Bars)]])),(23,(.row 133 [[(sC nilV),(sC nilV),(sC nilV)]])),(25,(pR 3 encInt s2.1)),(26,(pR 3 encInt s2.2.1)),(27,(pR 3 encInt s2.2.2)),(28,(.row 133 [[(lo 25 s2.1.length),(lo 26 s2.2.1.length),(lo 27 s2.2.2.length)]])),(33,(.row 133 [[(lo 35 r36.1.Free.length),(lo 36 r36.1.Tails.length),(lo 37 r36.1.Placed.length)]])),(35,(pR 3 encInt r36.1.Free)),(36,(pR 3 encInt r36.1.Tails)),(37,(pR 3 encInt r36.1.Placed))] z8 z10 (Wr (mv (Bv true) Q Q Q Q (Op10 (LT.not Q) Q Q Q (On (AWR.cond Q (fun hc38 => ?_) (fun hc38 => ?_))))))
      ·exact AWR.none
      ·refine AWR.skip (Wr ?_)
       refine Op11 (LT.bloadN (out := [(lo 35 r36.1.Free.length),(lo 36 r36.1.Tails.length),(lo 37 r36.1.Placed.length)]) Q ag133 (infS inf133) sz133 (by exact Q) (by exact Q)) Q Q Q Q (Os21 (LT.bstore (v := (.agg [(lo 35 r36.1.Free.length),(lo 36 r36.1.Tails.length),(lo 37 r36.1.Placed.length)])) (out := [(lo 35 r36.1.Free.length),(lo 36 r36.1.Tails.length),(lo 37 r36.1.Placed.length)]) Q Q (infS inf133) sz133 (by exact Q) (by exact K Q) (by exact Q)) Q Q Q Q Q (On (AWR.blk ?_)))
       refine en [(2,(Iv a)),(3,(Iv b)),(4,(Iv want)),(5,(Cc (.pl 21 0))),(10,(Cc (.pl 23 0))),(12,(Cc (.pl 28 0)))] [(21,(.row 32 [[(iC g.Points),(xF encTBar g.Bars)]])),(23,(.row 133 [[(sC nilV),(sC nilV),(sC nilV)]])),(28,(.row 133 [[(lo 35 r36.1.Free.length),(lo 36 r36.1.Tails.length),(lo 37 r36.1.Placed.length)]])),(35,(pR 3 encInt r36.1.Free)),(36,(pR 3 encInt r36.1.Tails)),(37,(pR 3 encInt r36.1.Placed))] z6 z6 (AWR.ent (Ent.mv 35 25 Q Q) (AWR.ent (Ent.mv 36 26 Q Q) (AWR.ent (Ent.mv 37 27 Q Q) (AWR.nil ⟨Q,Ent.of z6 z6⟩))))
     ·refine AOR.step (@LT.callF Try.prog _ _ 202 _ _ [(.agg [(iC g.Points),(xF encTBar g.Bars)]),(.agg [(lo 25 s2.1.length),(lo 26 s2.2.1.length),(lo 27 s2.2.2.length)]),(.c (iC b)),(.c (iC a))] _ _ [(25,(pR 3 encInt s2.1)),(26,(pR 3 encInt s2.2.1)),(27,(pR 3 encInt s2.2.2))] _ _ _ _ ((show Fw.Fn Try.prog 202 [(.agg [(iC g.Points),(xF encTBar g.Bars)]),(.agg [(xF encInt ((TPebbles.mk s2.1 s2.2.1 s2.2.2).Free)),(xF encInt ((TPebbles.mk s2.1 s2.2.1 s2.2.2).Tails)),(xF encInt ((TPebbles.mk s2.1 s2.2.1 s2.2.2).Placed))]),(.c (iC b)),(.c (iC a))] [] (.tup [(.agg [.junk,.junk,.junk]),(.c (bC false))]) [(35,(pR 3 encInt ([] : List Int))),(36,(pR 3 encInt ([] : List Int))),(37,(pR 3 encInt ([] : List Int)))] [] [35,36,37] from Fw.Fn.ren [(0,35),(1,36),(2,37)] ((by have q := w_spec_l4Find g (TPebbles.mk s2.1 s2.2.1 s2.2.2) b a r36 hr36; rw [hb37] at q; exact q)) Q)) Q cb202 (.cons (.agg (.cons (.same Q) (.cons (.same Q) .nil))) (.cons (.agg (.cons (.tloc Q Q) (.cons (.tloc Q Q) (.cons (.tloc Q Q) .nil)))) (.cons (.c (.same Q)) (.cons (.c (.same Q)) .nil)))) Q Q J) z5 z3 Q Q (mv (.tup [(.agg [.junk,.junk,.junk]),(.c (bC false))]) Q Q Q Q (Op10 (LT.extract (v := (.agg [.junk,.junk,.junk])) Q (by exact Q)) Q Q Q (Op10 (LT.extract (v := (.c (bC false))) Q (by exact Q)) Q Q Q (Os21 (LT.bstore (v := (.agg [.junk,.junk,.junk])) (out := [.junk,.junk,.junk]) Q Q (infS inf133) sz133 (by exact Q) (by exact K Q) (by exact Q)) Q Q Q Q Q (asg (Bv false) Q Q Q Q (On (Ws (Ws ?_))))))))
      refine en [(2,(Iv a)),(3,(Iv b)),(4,(Iv want)),(5,(Cc (.pl 21 0))),(10,(Cc (.pl 23 0))),(12,(Cc (.pl 28 0))),(13,(Cc (.pl 33 0))),(14,(Bv false))] [(21,(.row 32 [[(iC g.Points),(xF encTBar g.Bars)]])),(23,(.row 133 [[(sC nilV),(sC nilV),(sC nilV)]])),(25,(pR 3 encInt s2.1)),(26,(pR 3 encInt s2.2.1)),(27,(pR 3 encInt s2.2.2)),(28,(.row 133 [[(lo 25 s2.1.length),(lo 26 s2.2.1.length),(lo 27 s2.2.2.length)]])),(33,(.row 133 [[.junk,.junk,.junk]]))] z8 z7 (Wr (mv (Bv false) Q Q Q Q (Op10 (LT.not Q) Q Q Q (On (AWR.cond Q (fun hc39 => ?_) (fun hc39 => ?_))))))
      ·refine Ws (Wr ?_)
       refine Op11 (LT.bloadN (out := [(lo 25 s2.1.length),(lo 26 s2.2.1.length),(lo 27 s2.2.2.length)]) Q ag133 (infS inf133) sz133 (by exact Q) (by exact Q)) Q Q Q Q (Os21 (LT.bstore (v := (.agg [(lo 25 s2.1.length),(lo 26 s2.2.1.length),(lo 27 s2.2.2.length)])) (out := [(lo 25 s2.1.length),(lo 26 s2.2.1.length),(lo 27 s2.2.2.length)]) Q Q (infS inf133) sz133 (by exact Q) (by exact K Q) (by exact Q)) Q Q Q Q Q (asg (Bv false) Q y2 Q Q (On (en [(10,(Cc (.pl 23 0))),(11,(Bv false))] [(23,(.row 133 [[(lo 25 s2.1.length),(lo 26 s2.2.1.length),(lo 27 s2.2.2.length)]])),(25,(pR 3 encInt s2.1)),(26,(pR 3 encInt s2.2.1)),(27,(pR 3 encInt s2.2.2))] z2 z4 (AWR.ent (Ent.mv 25 0 Q Q) (AWR.ent (Ent.mv 26 1 Q Q) (AWR.ent (Ent.mv 27 2 Q Q) (en [(10,(Cc (.pl 23 0))),(11,(Bv false))] [(0,(pR 3 encInt s2.1)),(1,(pR 3 encInt s2.2.1)),(2,(pR 3 encInt s2.2.2)),(23,(.row 133 [[(lo 0 s2.1.length),(lo 1 s2.2.1.length),(lo 2 s2.2.2.length)]]))] z2 z4 (AWR.ret ⟨Q,FPost.mk (.inr Q) ⟨⟨_,_,_,Q,Q,Q,ag133,sz133,_,(infS inf133)⟩,Q,J⟩ z3 Q ⟨⟨J,J,J,J⟩,PermP.sc,J⟩ ⟨PermO.prow' perm_encInt,PermO.prow' perm_encInt,PermO.prow' perm_encInt,J⟩⟩)))))))))
      ·exact AWR.none
    ·exact AWR.none
  ·refine AWR.exit_end Q ⟨Q,Ent.of z2 z5⟩
 ·refine Ws (Wr ?_)
  refine Op11 (LT.bloadN (out := [(lo 25 b27.1.length),(lo 26 b27.2.1.length),(lo 27 b27.2.2.length)]) Q ag133 (infS inf133) sz133 (by exact Q) (by exact Q)) Q Q Q Q (Os21 (LT.bstore (v := (.agg [(lo 25 b27.1.length),(lo 26 b27.2.1.length),(lo 27 b27.2.2.length)])) (out := [(lo 25 b27.1.length),(lo 26 b27.2.1.length),(lo 27 b27.2.2.length)]) Q Q (infS inf133) sz133 (by exact Q) (by exact K Q) (by exact Q)) Q Q Q Q Q (asg (Bv true) Q y2 Q Q (On (en [(10,(Cc (.pl 23 0))),(11,(Bv true))] [(23,(.row 133 [[(lo 25 b27.1.length),(lo 26 b27.2.1.length),(lo 27 b27.2.2.length)]])),(25,(pR 3 encInt b27.1)),(26,(pR 3 encInt b27.2.1)),(27,(pR 3 encInt b27.2.2))] z2 z4 (AWR.ent (Ent.mv 25 0 Q Q) (AWR.ent (Ent.mv 26 1 Q Q) (AWR.ent (Ent.mv 27 2 Q Q) (en [(10,(Cc (.pl 23 0))),(11,(Bv true))] [(0,(pR 3 encInt b27.1)),(1,(pR 3 encInt b27.2.1)),(2,(pR 3 encInt b27.2.2)),(23,(.row 133 [[(lo 0 b27.1.length),(lo 1 b27.2.1.length),(lo 2 b27.2.2.length)]]))] z2 z4 (AWR.ret (FPost.mk (.inr Q) ⟨⟨_,_,_,Q,Q,Q,ag133,sz133,_,(infS inf133)⟩,Q,J⟩ z3 Q ⟨⟨J,J,J,J⟩,PermP.sc,J⟩ ⟨PermO.prow' perm_encInt,PermO.prow' perm_encInt,PermO.prow' perm_encInt,J⟩))))))))))
theorem w_impl_copyInts (l : (List Int)) : ∀ t,m_impl_copyInts l = some t → Fw.Fn Try.prog 183 [(.c (xF encInt l))] [] (.s (.c (lo 0 t.length))) [(0,(pR 3 encInt t))] [] [0] := by
 refine Fw.Fn.of (P := Try.prog) (X := [0]) (pn := []) (rs := (fun (t : (List Int)) => [(.c (lo 0 t.length))])) (dfs := (fun (t : (List Int)) => [(0,(pR 3 encInt t))])) Try.func183 Q Try.ntmps183 (K Q) Q ?_
 intro w0 U0 R0 g0
 unfold m_impl_copyInts
 refine Ws (Wr ?_)
 refine asg (Cc (sC nilV)) Q y2 Q Q (On (Ws (Wr ?_)))
 refine Os00 (LT.tbuildSlice (n := 21) (enc := encInt) [] ([] : List Int) Q Q und45 ti3 Q Q Q Q (by decide) (fun _ => Q) Q) Q Q (mv (Cc (xF encInt l)) Q Q Q Q (Ob' fun u1 hu1 => (Os21 (LT.tappRO (enc := encInt) Q  Q und45 ti3 Q (by decide) (by decide) (fun _ => Q) (lim_le hu1)) Q Q Q Q Q (asg (Cc (lo 21 ((([] : List Int) ++ l).length))) Q Q Q Q (On (en [(2,(Cc (lo 21 ((([] : List Int) ++ l).length))))] [(21,(pR 3 encInt (([] : List Int) ++ l)))] z1 z1 (AWR.ent (Ent.mv 21 0 Q Q) (en [(2,(Cc (lo 0 ((([] : List Int) ++ l).length))))] [(0,(pR 3 encInt (([] : List Int) ++ l)))] z1 z1 (AWR.ret (FPost.mk (.inr Q) z1 z1 Q ⟨J,J⟩ ⟨PermO.prow' perm_encInt,J⟩))))))))))
theorem w_impl_copyPebbles (p : TPebbles) : ∀ t,m_impl_copyPebbles p = some t → Fw.Fn Try.prog 203 [(.agg [(xF encInt p.Free),(xF encInt p.Tails),(xF encInt p.Placed)])] [] (.s (.agg [(lo 0 t.Free.length),(lo 1 t.Tails.length),(lo 2 t.Placed.length)])) [(0,(pR 3 encInt t.Free)),(1,(pR 3 encInt t.Tails)),(2,(pR 3 encInt t.Placed))] [] [0,1,2] := by
 refine Fw.Fn.of (P := Try.prog) (X := [0,1,2]) (pn := []) (rs := (fun (t : TPebbles) => [(.agg [(lo 0 t.Free.length),(lo 1 t.Tails.length),(lo 2 t.Placed.length)])])) (dfs := (fun (t : TPebbles) => [(0,(pR 3 encInt t.Free)),(1,(pR 3 encInt t.Tails)),(2,(pR 3 encInt t.Placed))])) Try.func203 Q Try.ntmps203 (K Q) Q ?_
 intro w0 U0 R0 g0
 unfold m_impl_copyPebbles
 refine Ws (Wr ?_)
 refine Os10 (LT.box (n := 21) (v := (.agg [(xF encInt p.Free),(xF encInt p.Tails),(xF encInt p.Placed)])) Q sz133 (by exact Q)) Q Q Q (Os00 (LT.alloc (n := 22) (cells := [(sC nilV),(sC nilV),(sC nilV)]) Q ti133 Q Q Q) Q Q (On (Ws (AWR.draw mixed ?_))))
 refine Dp10 (LT.fieldPl Q fo133_0) Q Q Q (Dp11 (LT.bload1 (c := (xF encInt p.Free)) Q ag45 (by exact Q)) Q Q Q Q (AOD.bind fun r1 hr1 => (AOD.step (@LT.callF Try.prog _ _ 183 _ _ [(.c (xF encInt p.Free))] _ _ [] _ _ _ _ ((show Fw.Fn Try.prog 183 [(.c (xF encInt p.Free))] [] (Cc (lo 24 r1.length)) [(24,(pR 3 encInt r1))] [] [24] from Fw.Fn.ren [(0,24)] (w_impl_copyInts p.Free r1 hr1) Q)) Q cb183 (.cons (.c (.same Q)) .nil) Q Q J) z2 J Q Q (Dp10 (LT.fieldPl Q fo133_1) Q Q Q (Dp11 (LT.bload1 (c := (xF encInt p.Tails)) Q ag45 (by exact Q)) Q Q Q Q (AOD.bind fun r2 hr2 => (AOD.step (@LT.callF Try.prog _ _ 183 _ _ [(.c (xF encInt p.Tails))] _ _ [] _ _ _ _ ((show Fw.Fn Try.prog 183 [(.c (xF encInt p.Tails))] [] (Cc (lo 26 r2.length)) [(26,(pR 3 encInt r2))] [] [26] from Fw.Fn.ren [(0,26)] (w_impl_copyInts p.Tails r2 hr2) Q)) Q cb183 (.cons (.c (.same Q)) .nil) Q Q J) z2 J Q Q (Dp10 (LT.fieldPl Q fo133_2) Q Q Q (Dp11 (LT.bload1 (c := (xF encInt p.Placed)) Q ag45 (by exact Q)) Q Q Q Q (AOD.bind fun r3 hr3 => (AOD.step (@LT.callF Try.prog _ _ 183 _ _ [(.c (xF encInt p.Placed))] _ _ [] _ _ _ _ ((show Fw.Fn Try.prog 183 [(.c (xF encInt p.Placed))] [] (Cc (lo 28 r3.length)) [(28,(pR 3 encInt r3))] [] [28] from Fw.Fn.ren [(0,28)] (w_impl_copyInts p.Placed r3 hr3) Q)) Q cb183 (.cons (.c (.same Q)) .nil) Q Q J) z2 J Q Q ?_)))))))))))
 refine Dp30 (LT.build [(0,.tmp 5,(.c (lo 24 r1.length))),(1,.tmp 8,(.c (lo 26 r2.length))),(2,.tmp 11,(.c (lo 28 r3.length)))] Q Q pl133 ti133 Q Q Q) Q Q Q Q Q (Ds21 (LT.bstore (v := (.agg [(lo 24 r1.length),(lo 26 r2.length),(lo 28 r3.length)])) (out := [(lo 24 r1.length),(lo 26 r2.length),(lo 28 r3.length)]) Q Q (infS inf133) sz133 (by exact Q) (by exact K Q) (by exact Q)) Q Q Q Q Q (AOD.nil (by kernel_rfl) (en [(2,(Cc (.pl 22 0)))] [(22,(.row 133 [[(lo 24 r1.length),(lo 26 r2.length),(lo 28 r3.length)]])),(24,(pR 3 encInt r1)),(26,(pR 3 encInt r2)),(28,(pR 3 encInt r3))] z1 z4 (AWR.ent (Ent.mv 24 0 Q Q) (AWR.ent (Ent.mv 26 1 Q Q) (AWR.ent (Ent.mv 28 2 Q Q) (en [(2,(Cc (.pl 22 0)))] [(0,(pR 3 encInt r1)),(1,(pR 3 encInt r2)),(2,(pR 3 encInt r3)),(22,(.row 133 [[(lo 0 r1.length),(lo 1 r2.length),(lo 2 r3.length)]]))] z1 z4 (AWR.ret (FPost.mk (.inr Q) ⟨⟨_,_,_,Q,Q,Q,ag133,sz133,_,(infS inf133)⟩,J⟩ z3 Q ⟨⟨J,J,J,J⟩,J⟩ ⟨PermO.prow' perm_encInt,PermO.prow' perm_encInt,PermO.prow' perm_encInt,J⟩)))))))))
end Go.Proofs.Yteognanhfpbghaa
end
section
set_option linter.unusedVariables false
set_option linter.unusedSimpArgs false
set_option linter.unnecessarySimpa false
set_option maxRecDepth 100000
set_option maxHeartbeats 8000000
open Go Go.Fw
namespace Go.Proofs.Yteognanhfpbghaa
theorem w_impl_Bar_other (x : TBar) (v : Int) : ∀ t,m_impl_Bar_other x v = some t → Fw.Fn Try.prog 249 [(.agg [(iC x.A),(iC x.B)]),(.c (iC v))] [] (.s (.c (iC t))) [] [] [] := by
 refine Fw.Fn.of (P := Try.prog) (X := []) (pn := []) (rs := (fun (t : Int) => [(.c (iC t))])) (dfs := (fun (t : Int) => [])) Try.func249 Q Try.ntmps249 (K Q) Q ?_
 intro w0 U0 R0 g0
 unfold m_impl_Bar_other
 refine Ws (Wr ?_)
 refine Os10 (LT.box (n := 21) (v := (.agg [(iC x.A),(iC x.B)])) Q sz112 (by exact Q)) Q Q Q (asg (Iv 0) Q y2 Q Q (On (Ws (Ws (Wr ?_)))))
 refine Op10 (LT.fieldPl Q fo112_0) Q Q Q (Op11 (LT.bload1 (c := (iC x.A)) Q ag3 (by exact Q)) Q Q Q Q (mv (Iv v) Q Q Q Q (Op20 (LT.eql Q) Q Q Q Q (On (AWR.cond Q (fun hc1 => ?_) (fun hc1 => ?_))))))
 ·refine Ws (Wr ?_)
  refine Op10 (LT.fieldPl Q fo112_1) Q Q Q (Op11 (LT.bload1 (c := (iC x.B)) Q ag3 (by exact Q)) Q Q Q Q (asg (Iv x.B) Q Q Q Q (On (AWR.ret (FPost.mk (.inr Q) z1 J Q ⟨PermP.sc,J⟩ J)))))
 ·refine AWR.skip (Ws (Wr ?_))
  refine Op10 (LT.fieldPl Q fo112_0) Q Q Q (Op11 (LT.bload1 (c := (iC x.A)) Q ag3 (by exact Q)) Q Q Q Q (asg (Iv x.A) Q Q Q Q (On (AWR.ret (FPost.mk (.inr Q) z1 J Q ⟨PermP.sc,J⟩ J)))))
theorem w_impl_moveTo (bars : (List TBar)) (p : TPebbles) (a : Int) (b : Int) : ∀ t,m_impl_moveTo bars p a b = some t → Fw.Fn Try.prog 241 [(.c (xF encTBar bars)),(.c (.pl 0 0)),(.c (iC a)),(.c (iC b))] [(0,(.row 133 [[(lo 1 p.Free.length),(lo 2 p.Tails.length),(lo 3 p.Placed.length)]])),(1,(pR 3 encInt p.Free)),(2,(pR 3 encInt p.Tails)),(3,(pR 3 encInt p.Placed))] (.s (.c (bC t.1))) [(0,(.row 133 [[(lo 1 t.2.Free.length),(lo 2 t.2.Tails.length),(lo 3 t.2.Placed.length)]])),(1,(pR 3 encInt t.2.Free)),(2,(pR 3 encInt t.2.Tails)),(3,(pR 3 encInt t.2.Placed))] [0,1,2,3] [1,2,3] := by
 refine Fw.Fn.of (P := Try.prog) (X := [1,2,3]) (pn := [0]) (rs := (fun (t : (Bool × TPebbles)) => [(.c (bC t.1))])) (dfs := (fun (t : (Bool × TPebbles)) => [(0,(.row 133 [[(lo 1 t.2.Free.length),(lo 2 t.2.Tails.length),(lo 3 t.2.Placed.length)]])),(1,(pR 3 encInt t.2.Free)),(2,(pR 3 encInt t.2.Tails)),(3,(pR 3 encInt t.2.Placed))])) Try.func241 Q Try.ntmps241 (K Q) Q ?_
 intro w0 U0 R0 g0
 unfold m_impl_moveTo
 refine Ws (Wr ?_)
 refine asg (Bv false) Q y2 Q Q (On (Ws (Wr ?_)))
 refine Os00 (LT.makeMap (n := 21) Q) Q Q (mv (Iv a) Q Q Q Q (Os31 (LT.mapPut (v := .tup []) (.inr Q) Q map200) Q Q y2 Q Q Q (mv (Cc (.mref 21)) Q Q Q Q (asg (Cc (.mref 21)) Q Q Q Q (On (Ws (Wr ?_)))))))
 refine mv (Iv a) Q Q Q Q (Os10 (LT.tbuildSlice (n := 22) (enc := encInt) [(0,.tmp 23,(.c (iC a)))] ([a] : List Int) Q Q und45 ti3 Q Q Q Q (by decide) (fun _ => Q) Q) Q Q Q (asg (Cc (lo 22 (([a] : List Int).length))) Q Q Q Q (On (Ws (Ws ?_)))))
 refine en [(0,(Cc (xF encTBar bars))),(1,(Cc (.pl 0 0))),(2,(Iv a)),(3,(Iv b)),(9,(Cc (.mref 21))),(10,(Cc (lo 22 (([a] : List Int).length))))] [(0,(.row 133 [[(lo 1 p.Free.length),(lo 2 p.Tails.length),(lo 3 p.Placed.length)]])),(1,(pR 3 encInt p.Free)),(2,(pR 3 encInt p.Tails)),(3,(pR 3 encInt p.Placed)),(21,(.mp (mput ([] : List (Int × Int)) a (-1)))),(22,(pR 3 encInt ([a] : List Int)))] z6 z6 (Wr (asg (Iv 0) Q y2 Q Q (On (AWR.block ?_))))
 refine AWR.loopR (id := 0) (m_impl_moveTo_L7 bars p a b) (fun s1 => ([(0,(Cc (xF encTBar bars))),(1,(Cc (.pl 0 0))),(2,(Iv a)),(3,(Iv b)),(9,(Cc (.mref 21))),(10,(Cc (lo 22 s1.2.2.length))),(11,(Iv s1.1))],[(0,(.row 133 [[(lo 1 p.Free.length),(lo 2 p.Tails.length),(lo 3 p.Placed.length)]])),(1,(pR 3 encInt p.Free)),(2,(pR 3 encInt p.Tails)),(3,(pR 3 encInt p.Placed)),(21,(.mp s1.2.1)),(22,(pR 3 encInt s1.2.2))])) (fun b120 => ([],[(0,(.row 133 [[(lo 1 p.Free.length),(lo 2 p.Tails.length),(lo 3 p.Placed.length)]])),(1,(pR 3 encInt p.Free)),(2,(pR 3 encInt p.Tails)),(3,(pR 3 encInt p.Placed))])) (FPost Try.prog Try.f241.results.toList [(0,(.row 133 [[(lo 1 p.Free.length),(lo 2 p.Tails.length),(lo 3 p.Placed.length)]])),(1,(pR 3 encInt p.Free)),(2,(pR 3 encInt p.Tails)),(3,(pR 3 encInt p.Placed))] [1,2,3] (fun (t : (Bool × TPebbles)) => [(.c (bC t.1))]) (fun (t : (Bool × TPebbles)) => [(0,(.row 133 [[(lo 1 t.2.Free.length),(lo 2 t.2.Tails.length),(lo 3 t.2.Placed.length)]])),(1,(pR 3 encInt t.2.Free)),(2,(pR 3 encInt t.2.Tails)),(3,(pR 3 encInt t.2.Placed))])) ?_ (Ent.of z7 z6) Q (fun b120 _ => ?_) (by intro r t σ m ht hk; injection ht with ht; subst ht; exact hk)
 ·intro s1
  unfold m_impl_moveTo_L7
  refine Ws (Ws (Wr ?_))
  refine mv (Iv s1.1) Q Q Q Q (mv (Cc (lo 22 s1.2.2.length)) Q Q Q Q (Op10 (LT.lenLoc Q und45) Q Q Q (Op20 (LT.lss Q) Q Q Q Q (On (AWR.cond Q (fun hc121 => ?_) (fun hc121 => ?_))))))
  ·refine AWR.skip (Ws (AWR.block (Ws (Wr ?_))))
   refine mv (Cc (.pl 0 0)) Q Q Q Q (Op10 (LT.nilPl Q) Q Q Q (Op10 (LT.fieldPl Q fo133_2) Q Q Q (Op11 (LT.bload1 (c := (lo 3 p.Placed.length)) Q ag45 (by exact Q)) Q Q Q Q (Op10 (LT.lenLoc Q und45) Q Q Q (mv (Iv 0) Q y2 Q Q (On (AWR.block ?_)))))))
   refine AWR.loopR (id := 2) (m_impl_moveTo_L10 bars p a b s1) (fun s122 => ([(0,(Cc (xF encTBar bars))),(1,(Cc (.pl 0 0))),(2,(Iv a)),(3,(Iv b)),(9,(Cc (.mref 21))),(10,(Cc (lo 22 s122.2.2.length))),(11,(Iv s1.1)),(34,(Cc (lo 3 p.Placed.length))),(35,(Iv (p.Placed.length : Int))),(36,(Iv s122.1))],[(0,(.row 133 [[(lo 1 p.Free.length),(lo 2 p.Tails.length),(lo 3 p.Placed.length)]])),(1,(pR 3 encInt p.Free)),(2,(pR 3 encInt p.Tails)),(3,(pR 3 encInt p.Placed)),(21,(.mp s122.2.1)),(22,(pR 3 encInt s122.2.2))])) (fun b179 => ([(0,(Cc (xF encTBar bars))),(1,(Cc (.pl 0 0))),(2,(Iv a)),(3,(Iv b)),(9,(Cc (.mref 21))),(10,(Cc (lo 22 b179.2.2.length))),(11,(Iv b179.1))],[(0,(.row 133 [[(lo 1 p.Free.length),(lo 2 p.Tails.length),(lo 3 p.Placed.length)]])),(1,(pR 3 encInt p.Free)),(2,(pR 3 encInt p.Tails)),(3,(pR 3 encInt p.Placed)),(21,(.mp b179.2.1)),(22,(pR 3 encInt b179.2.2))])) (FPost Try.prog Try.f241.results.toList [(0,(.row 133 [[(lo 1 p.Free.length),(lo 2 p.Tails.length),(lo 3 p.Placed.length)]])),(1,(pR 3 encInt p.Free)),(2,(pR 3 encInt p.Tails)),(3,(pR 3 encInt p.Placed))] [1,2,3] (fun (t : (Bool × TPebbles)) => [(.c (bC t.1))]) (fun (t : (Bool × TPebbles)) => [(0,(.row 133 [[(lo 1 t.2.Free.length),(lo 2 t.2.Tails.length),(lo 3 t.2.Placed.length)]])),(1,(pR 3 encInt t.2.Free)),(2,(pR 3 encInt t.2.Tails)),(3,(pR 3 encInt t.2.Placed))])) ?_ (Ent.of z10 z6) Q (fun b179 _ => ?_) (by intro r t σ m ht hk; injection ht with ht; subst ht; exact ⟨Q,hk⟩)
   ·intro s122
    unfold m_impl_moveTo_L10
    refine Ws (Wr ?_)
    refine Op20 (LT.lss Q) Q Q Q Q (On (Ws ?_))
    refine AWR.cond Q (fun hc180 => ?_) (fun hc180 => ?_)
    ·refine AWR.skip (Ws (AWR.block (Ws (Wr ?_))))
     refine mv (Iv s122.1) Q Q Q Q (Ob' fun x181 hx181 => (Op21 (LT.tindexLoc Q Q el45 hx181) Q Q Q Q Q (Op11 (LT.tload1 (k := 0) Q ag3 hx181 (by exact Q) (by exact Q)) Q Q Q Q (asg (Iv s122.1) Q Q Q Q (asg (Iv x181) Q Q Q Q (On (Ws (Ws (AWR.draw mixed ?_)))))))))
     refine Dp10 (LT.move (v := (Cc (.pl 0 0))) Q) Q Q Q (Dp10 (LT.nilPl Q) Q Q Q (Dp10 (LT.fieldPl Q fo133_1) Q Q Q (Dp11 (LT.bload1 (c := (lo 2 p.Tails.length)) Q ag45 (by exact Q)) Q Q Q Q (Dp10 (LT.move (v := (Iv s122.1)) Q) Q Q Q (AOD.bind fun x182 hx182 => (Dp21 (LT.tindexLoc Q Q el45 hx182) Q Q Q Q Q (Dp11 (LT.tload1 (k := 0) Q ag3 hx182 (by exact Q) (by exact Q)) Q Q Q Q (Dp10 (LT.move (v := (Cc (lo 22 s122.2.2.length))) Q) Q Q Q (Dp10 (LT.move (v := (Iv s1.1)) Q) Q Q Q (AOD.bind fun x183 hx183 => (Dp21 (LT.tindexLoc Q Q el45 hx183) Q Q Q Q Q ?_)))))))))))
     refine Dp11 (LT.tload1 (k := 0) Q ag3 hx183 (by exact Q) (by exact Q)) Q Q Q Q (Dp20 (LT.neq Q) Q Q Q Q (AOD.nil (by kernel_rfl) (AWR.cond Q (fun hc184 => ?_) (fun hc184 => ?_))))
     ·refine AWR.exit Q (en [(0,(Cc (xF encTBar bars))),(1,(Cc (.pl 0 0))),(2,(Iv a)),(3,(Iv b)),(9,(Cc (.mref 21))),(10,(Cc (lo 22 s122.2.2.length))),(11,(Iv s1.1)),(34,(Cc (lo 3 p.Placed.length))),(35,(Iv (p.Placed.length : Int))),(36,(Iv s122.1))] [(0,(.row 133 [[(lo 1 p.Free.length),(lo 2 p.Tails.length),(lo 3 p.Placed.length)]])),(1,(pR 3 encInt p.Free)),(2,(pR 3 encInt p.Tails)),(3,(pR 3 encInt p.Placed)),(21,(.mp s122.2.1)),(22,(pR 3 encInt s122.2.2))] z10 z6 (Wr (Op20 (LT.add Q) Q y2 Q Q (mv (Iv (w64 (s122.1 + 1))) Q Q Q Q (On (AWR.nil ⟨Q,Ent.of z10 z6⟩))))))
     ·refine AWR.skip (Ws ?_)
      refine en [(0,(Cc (xF encTBar bars))),(1,(Cc (.pl 0 0))),(2,(Iv a)),(3,(Iv b)),(9,(Cc (.mref 21))),(10,(Cc (lo 22 s122.2.2.length))),(11,(Iv s1.1)),(12,(Iv s122.1)),(13,(Iv x181)),(34,(Cc (lo 3 p.Placed.length))),(35,(Iv (p.Placed.length : Int))),(36,(Iv s122.1))] [(0,(.row 133 [[(lo 1 p.Free.length),(lo 2 p.Tails.length),(lo 3 p.Placed.length)]])),(1,(pR 3 encInt p.Free)),(2,(pR 3 encInt p.Tails)),(3,(pR 3 encInt p.Placed)),(21,(.mp s122.2.1)),(22,(pR 3 encInt s122.2.2))] z12 z6 (AWR.draw mixed (Dp10 (LT.move (v := (Cc (xF encTBar bars))) Q) Q Q Q (Dp10 (LT.move (v := (Iv x181)) Q) Q Q Q (AOD.bind fun x185 hx185 => (Dp20 (LT.tindexRO (enc := encTBar) Q el30 hx185 sz112) Q Q Q Q (Dp10 (LT.loadPxN Q ag112 (infS inf112) (by exact sz112.symm)) Q Q Q (Dp10 (LT.move (v := (Cc (lo 22 s122.2.2.length))) Q) Q Q Q (Dp10 (LT.move (v := (Iv s1.1)) Q) Q Q Q (AOD.bind fun x186 hx186 => (Dp21 (LT.tindexLoc Q Q el45 hx186) Q Q Q Q Q (Dp11 (LT.tload1 (k := 0) Q ag3 hx186 (by exact Q) (by exact Q)) Q Q Q Q ?_)))))))))))
      refine AOD.bind fun r187 hr187 => (AOD.pure (@LT.callF Try.prog _ _ 249 _ _ [(.agg [(iC x185.A),(iC x185.B)]),(.c (iC x186))] _ _ [] _ _ _ _ (w_impl_Bar_other x185 x186 r187 hr187) Q cb249 (.cons (.agg (.cons (.same Q) (.cons (.same Q) .nil))) (.cons (.c (.same Q)) .nil)) Q Q J) z3 J Q Q (Dp10 (LT.assign (v := (Iv r187)) Q) Q Q Q (AOD.nil (by kernel_rfl) (Ws (Ws (Wr ?_))))))
      refine mv (Cc (.mref 21)) Q Q Q Q (mv (Iv r187) Q Q Q Q (Op21 (LT.mapGetOk Q map200) Q Q Q Q Q (mv (.tup [(.c (iC (mget s122.2.1 r187))),(.c (bC (mhas s122.2.1 r187)))]) Q Q Q Q (Op10 (LT.extract (v := (.c (iC (mget s122.2.1 r187)))) Q (by exact Q)) Q Q Q (Op10 (LT.extract (v := (.c (bC (mhas s122.2.1 r187)))) Q (by exact Q)) Q Q Q (asg (Iv (mget s122.2.1 r187)) Q Q Q Q (asg (Bv (mhas s122.2.1 r187)) Q Q Q Q (On (Ws ?_)))))))))
      refine en [(0,(Cc (xF encTBar bars))),(1,(Cc (.pl 0 0))),(2,(Iv a)),(3,(Iv b)),(9,(Cc (.mref 21))),(10,(Cc (lo 22 s122.2.2.length))),(11,(Iv s1.1)),(12,(Iv s122.1)),(14,(Iv r187)),(16,(Bv (mhas s122.2.1 r187))),(34,(Cc (lo 3 p.Placed.length))),(35,(Iv (p.Placed.length : Int))),(36,(Iv s122.1))] [(0,(.row 133 [[(lo 1 p.Free.length),(lo 2 p.Tails.length),(lo 3 p.Placed.length)]])),(1,(pR 3 encInt p.Free)),(2,(pR 3 encInt p.Tails)),(3,(pR 3 encInt p.Placed)),(21,(.mp s122.2.1)),(22,(pR 3 encInt s122.2.2))] z13 z6 (Wr (mv (Bv (mhas s122.2.1 r187)) Q Q Q Q (On (AWR.cond Q (fun hc188 => ?_) (fun hc188 => ?_)))))
      ·refine AWR.exit Q (Wr ?_)
       refine Op20 (LT.add Q) Q y2 Q Q (mv (Iv (w64 (s122.1 + 1))) Q Q Q Q (On (AWR.nil ⟨Q,Ent.of z10 z6⟩)))
      ·refine AWR.skip (Ws (Wr ?_))
       refine mv (Cc (.mref 21)) Q Q Q Q (mv (Iv r187) Q Q Q Q (mv (Iv s122.1) Q Q Q Q (Os31 (LT.mapPut (v := .tup []) (.inl Q) Q map200) Q Q Q Q Q Q (On (Ws (Ws ?_))))))
       refine AWR.joinK (fun j191 => ([(0,(Cc (xF encTBar bars))),(1,(Cc (.pl 0 0))),(2,(Iv a)),(3,(Iv b)),(9,(Cc (.mref 21))),(10,(Cc (lo 22 s122.2.2.length))),(11,(Iv s1.1)),(14,(Iv r187)),(34,(Cc (lo 3 p.Placed.length))),(35,(Iv (p.Placed.length : Int))),(36,(Iv s122.1)),(84,(Bv j191))],[(0,(.row 133 [[(lo 1 p.Free.length),(lo 2 p.Tails.length),(lo 3 p.Placed.length)]])),(1,(pR 3 encInt p.Free)),(2,(pR 3 encInt p.Tails)),(3,(pR 3 encInt p.Placed)),(21,(.mp (mput s122.2.1 r187 s122.1))),(22,(pR 3 encInt s122.2.2))])) ?_ (fun j191 _ => ?_)
       ·refine Wr (mv (Iv r187) Q Q Q Q (mv (Iv b) Q Q Q Q (Op20 (LT.eql Q) Q Q Q Q (mv (Bv (r187 == b)) Q Q Q Q (AOR.split (fun hb192 => ?_) (fun hb192 => ?_))))))
        ·refine Ok Q Q Q (by rw [hb192]; rfl) Q (Ok Q Q Q (by rw [hb192]; rfl) Q (Ok Q Q Q (by rw [hb192]; rfl) Q (Ok Q Q Q (by rw [hb192]; rfl) Q (Ok Q Q Q (by rw [hb192]; rfl) Q (Ok Q Q Q (by rw [hb192]; rfl) Q (Ok Q Q Q (by rw [hb192]; rfl) Q (Ok Q Q Q (by rw [hb192]; rfl) Q (Op20 (LT.pickT (v := (Bv true)) Q hb192) Q y2 Q Q (On (AWR.nil ⟨Q,Ent.of z12 z6⟩))))))))))
        ·refine mv (Cc (.pl 0 0)) Q Q (gH hb192 Q Q) Q (Op10 (LT.nilPl Q) Q (gH hb192 Q Q) Q (Op10 (LT.fieldPl Q fo133_0) Q (gH hb192 Q Q) Q (Op11 (LT.bload1 (c := (lo 1 p.Free.length)) Q ag45 (by exact Q)) Q Q (gH hb192 Q Q) Q (mv (Iv r187) Q Q (gH hb192 Q Q) Q (Ob' fun x193 hx193 => (Op21 (LT.tindexLoc Q Q el45 hx193) Q Q Q (gH hb192 Q Q) Q (Op11 (LT.tload1 (k := 0) Q ag3 hx193 (by exact Q) (by exact Q)) Q Q (gH hb192 Q Q) Q (Op20 (LT.eql Q) Q y2 (gH hb192 Q Q) Q (Op20 (LT.pickF (v := (Bv (x193 == 0))) Q hb192) Q Q Q Q (On (AWR.nil ⟨Q,Ent.of z12 z6⟩)))))))))))
       ·refine AWR.cond Q (fun hc194 => ?_) (fun hc194 => ?_)
        ·refine Ws (Wr ?_)
         refine mv (Cc (lo 22 s122.2.2.length)) Q Q Q Q (mv (Iv r187) Q Q Q Q (Os10 (LT.tbuildSlice (n := 24) (enc := encInt) [(0,.tmp 86,(.c (iC r187)))] ([r187] : List Int) Q Q und45 ti3 Q Q Q Q (by decide) (fun _ => Q) Q) Q Q Q (Ob' fun u195 hu195 => (Os22 (LT.tappP (enc := encInt) Q Q Q und45 ti3 Q (by decide) (by decide) (fun _ => Q) (lim_le hu195)) Q Q Q Q Q Q (asg (Cc (lo 22 ((s122.2.2 ++ ([r187] : List Int)).length))) Q Q Q Q (On (AWR.exit Q (Wr ?_))))))))
         refine Op20 (LT.add Q) Q y2 Q Q (mv (Iv (w64 (s122.1 + 1))) Q Q Q Q (On (AWR.nil ⟨Q,Ent.of z10 z6⟩)))
        ·refine AWR.skip (Ws (Wr ?_))
         refine mv (Cc (.pl 0 0)) Q Q Q Q (Op10 (LT.nilPl Q) Q Q Q (Op10 (LT.fieldPl Q fo133_0) Q Q Q (Op11 (LT.bload1 (c := (lo 1 p.Free.length)) Q ag45 (by exact Q)) Q Q Q Q (mv (Iv r187) Q Q Q Q (Ob' fun x196 hx196 => (Op21 (LT.tindexLoc Q Q el45 hx196) Q Q Q Q Q (Op11 (LT.tload1 (k := 0) Q ag3 hx196 (by exact Q) (by exact Q)) Q Q Q Q (Op20 (LT.sub Q) Q y2 Q Q (Ob' fun x197 hx197 => (Op21 (LT.tindexLoc Q Q el45 hx197) Q Q Q Q Q (Os21 (LT.tstore (k := 0) (v := (.c (iC (w64 (x196 - 1))))) (b' := (w64 (x196 - 1))) Q Q (infS inf3) sz3 (by exact Q) hx197 (by exact Q) (by exact K Q) (by exact Q)) Q Q Q Q Q ?_)))))))))))
         refine On (Ws ?_)
         refine en [(1,(Cc (.pl 0 0))),(2,(Iv a)),(9,(Cc (.mref 21))),(14,(Iv r187))] [(0,(.row 133 [[(lo 1 p.Free.length),(lo 2 p.Tails.length),(lo 3 p.Placed.length)]])),(1,(pR 3 encInt (p.Free.set r187.toNat (w64 (x196 - 1))))),(2,(pR 3 encInt p.Tails)),(3,(pR 3 encInt p.Placed)),(21,(.mp (mput s122.2.1 r187 s122.1)))] z4 z5 (Wr (mv (Cc (.pl 0 0)) Q Q Q Q (Op10 (LT.nilPl Q) Q Q Q (Op10 (LT.fieldPl Q fo133_0) Q Q Q (Op11 (LT.bload1 (c := (lo 1 p.Free.length)) Q ag45 (by exact Q)) Q Q Q Q (mv (Iv a) Q Q Q Q (Ob' fun x198 hx198 => (Op21 (LT.tindexLoc (show p.Free.length = (p.Free.set r187.toNat (w64 (x196 - 1))).length by simp only [List.length_set]) Q el45 hx198) Q Q Q Q Q (Op11 (LT.tload1 (k := 0) Q ag3 hx198 (by exact Q) (by exact Q)) Q Q Q Q (Op20 (LT.add Q) Q y2 Q Q (Ob' fun x199 hx199 => ?_)))))))))))
         refine Op21 (LT.tindexLoc (show p.Free.length = (p.Free.set r187.toNat (w64 (x196 - 1))).length by simp only [List.length_set]) Q el45 hx199) Q Q Q Q Q (Os21 (LT.tstore (k := 0) (v := (.c (iC (w64 (x198 + 1))))) (b' := (w64 (x198 + 1))) Q Q (infS inf3) sz3 (by exact Q) hx199 (by exact Q) (by exact K Q) (by exact Q)) Q Q Q Q Q (On (Ws (Ws ?_))))
         refine en [(1,(Cc (.pl 0 0))),(2,(Iv a)),(9,(Cc (.mref 21))),(14,(Iv r187))] [(0,(.row 133 [[(lo 1 p.Free.length),(lo 2 p.Tails.length),(lo 3 p.Placed.length)]])),(1,(pR 3 encInt ((p.Free.set r187.toNat (w64 (x196 - 1))).set a.toNat (w64 (x198 + 1))))),(2,(pR 3 encInt p.Tails)),(3,(pR 3 encInt p.Placed)),(21,(.mp (mput s122.2.1 r187 s122.1)))] z4 z5 (Wr (mv (Iv r187) Q Q Q Q (asg (Iv r187) Q Q Q Q (On (AWR.block ?_)))))
         refine AWR.loop1 (id := 4) (m_impl_moveTo_L11 p a s122 r187 x196 x198) (fun s200 => ([(1,(Cc (.pl 0 0))),(2,(Iv a)),(9,(Cc (.mref 21))),(17,(Iv s200.1))],[(0,(.row 133 [[(lo 1 (((p.Free.set r187.toNat (w64 (x196 - 1))).set a.toNat (w64 (x198 + 1))).length)),(lo 2 s200.2.length),(lo 3 p.Placed.length)]])),(1,(pR 3 encInt ((p.Free.set r187.toNat (w64 (x196 - 1))).set a.toNat (w64 (x198 + 1))))),(2,(pR 3 encInt s200.2)),(3,(pR 3 encInt p.Placed)),(21,(.mp (mput s122.2.1 r187 s122.1)))])) (fun b207 => ([],[(0,(.row 133 [[(lo 1 b207.1.length),(lo 2 b207.2.length),(lo 3 p.Placed.length)]])),(1,(pR 3 encInt b207.1)),(2,(pR 3 encInt b207.2)),(3,(pR 3 encInt p.Placed))])) ?_ (Ent.of z4 ⟨(congrArg (fun l1 => (some (Ob.row 133 [[(lo 1 l1),(lo 2 p.Tails.length),(lo 3 p.Placed.length)]]) : Option Ob)) (show p.Free.length = ((p.Free.set r187.toNat (w64 (x196 - 1))).set a.toNat (w64 (x198 + 1))).length by simp only [List.length_set])),Q,Q,Q,Q,J⟩) Q (fun b207 _ => ?_)
         ·intro s200
          unfold m_impl_moveTo_L11
          refine Ws (Ws (Wr ?_))
          refine mv (Iv s200.1) Q Q Q Q (mv (Iv a) Q Q Q Q (Op20 (LT.neq Q) Q Q Q Q (On (AWR.cond Q (fun hc208 => ?_) (fun hc208 => ?_)))))
          ·refine AWR.skip (AWR.block (Ws (Wr ?_)))
           refine mv (Cc (.mref 21)) Q Q Q Q (mv (Iv s200.1) Q Q Q Q (Op21 (LT.mapGet Q map200) Q Q Q Q Q (asg (Iv (mget (mput s122.2.1 r187 s122.1) s200.1)) Q Q Q Q (On (Ws (Wr ?_))))))
           refine mv (Cc (.pl 0 0)) Q Q Q Q (Op10 (LT.nilPl Q) Q Q Q (Op10 (LT.fieldPl Q fo133_1) Q Q Q (Op11 (LT.bload1 (c := (lo 2 s200.2.length)) Q ag45 (by exact Q)) Q Q Q Q (mv (Iv (mget (mput s122.2.1 r187 s122.1) s200.1)) Q Q Q Q (Ob' fun x209 hx209 => (Op21 (LT.tindexLoc Q Q el45 hx209) Q Q Q Q Q (Op11 (LT.tload1 (k := 0) Q ag3 hx209 (by exact Q) (by exact Q)) Q Q Q Q (asg (Iv x209) Q Q Q Q (On (Ws ?_))))))))))
           refine en [(1,(Cc (.pl 0 0))),(2,(Iv a)),(9,(Cc (.mref 21))),(17,(Iv s200.1)),(18,(Iv (mget (mput s122.2.1 r187 s122.1) s200.1))),(19,(Iv x209))] [(0,(.row 133 [[(lo 1 (((p.Free.set r187.toNat (w64 (x196 - 1))).set a.toNat (w64 (x198 + 1))).length)),(lo 2 s200.2.length),(lo 3 p.Placed.length)]])),(1,(pR 3 encInt ((p.Free.set r187.toNat (w64 (x196 - 1))).set a.toNat (w64 (x198 + 1))))),(2,(pR 3 encInt s200.2)),(3,(pR 3 encInt p.Placed)),(21,(.mp (mput s122.2.1 r187 s122.1)))] z6 z5 (Wr (mv (Cc (.pl 0 0)) Q Q Q Q (Op10 (LT.nilPl Q) Q Q Q (Op10 (LT.fieldPl Q fo133_1) Q Q Q (Op11 (LT.bload1 (c := (lo 2 s200.2.length)) Q ag45 (by exact Q)) Q Q Q Q (mv (Iv (mget (mput s122.2.1 r187 s122.1) s200.1)) Q Q Q Q (mv (Iv s200.1) Q Q Q Q (Ob' fun x210 hx210 => (Op21 (LT.tindexLoc Q Q el45 hx210) Q Q Q Q Q (Os21 (LT.tstore (k := 0) (v := (.c (iC s200.1))) (b' := s200.1) Q Q (infS inf3) sz3 (by exact Q) hx210 (by exact Q) (by exact K Q) (by exact Q)) Q Q Q Q Q (On (Wr ?_))))))))))))
           refine mv (Iv x209) Q Q Q Q (asg (Iv x209) Q Q Q Q (On (AWR.blk ?_)))
           refine AWR.nil ⟨Q,Ent.of z4 ⟨(congrArg (fun l1 => (some (Ob.row 133 [[(lo 1 (((p.Free.set r187.toNat (w64 (x196 - 1))).set a.toNat (w64 (x198 + 1))).length)),(lo 2 l1),(lo 3 p.Placed.length)]]) : Option Ob)) (show s200.2.length = (s200.2.set (mget (mput s122.2.1 r187 s122.1) s200.1).toNat s200.1).length by simp only [List.length_set])),Q,Q,Q,Q,J⟩⟩
          ·refine AWR.exit_end Q ⟨Q,Ent.of J z4⟩
         ·refine Ws (Wr ?_)
          refine asg (Bv true) Q y2 Q Q (On (AWR.ret ⟨Q,FPost.mk (.inr Q) z1 z4 Q ⟨PermP.sc,J⟩ ⟨PermO.row1 ⟨J,J,J,J⟩,PermO.prow' perm_encInt,PermO.prow' perm_encInt,PermO.prow' perm_encInt,J⟩⟩))
    ·refine AWR.exit_end Q ⟨Q,Ent.of z7 z6⟩
   ·refine AWR.blk (Wr ?_)
    refine mv (Iv b179.1) Q Q Q Q (Op20 (LT.add Q) Q y2 Q Q (asg (Iv (w64 (b179.1 + 1))) Q Q Q Q (On (AWR.nil ⟨Q,Ent.of z7 z6⟩))))
  ·refine AWR.exit_end Q ⟨Q,Ent.of J z4⟩
 ·refine Ws (Wr ?_)
  refine asg (Bv false) Q y2 Q Q (On (AWR.ret (FPost.mk (.inr Q) z1 z4 Q ⟨PermP.sc,J⟩ ⟨PermO.row1 ⟨J,J,J,J⟩,PermO.prow' perm_encInt,PermO.prow' perm_encInt,PermO.prow' perm_encInt,J⟩)))
theorem w_impl_gather (bars : (List TBar)) (p : TPebbles) (a : Int) (b : Int) (want : Int) : ∀ t,m_impl_gather bars p a b want = some t → Fw.Fn Try.prog 224 [(.c (xF encTBar bars)),(.c (.pl 0 0)),(.c (iC a)),(.c (iC b)),(.c (iC want))] [(0,(.row 133 [[(lo 1 p.Free.length),(lo 2 p.Tails.length),(lo 3 p.Placed.length)]])),(1,(pR 3 encInt p.Free)),(2,(pR 3 encInt p.Tails)),(3,(pR 3 encInt p.Placed))] (.s (.c (bC t.1))) [(0,(.row 133 [[(lo 1 t.2.Free.length),(lo 2 t.2.Tails.length),(lo 3 t.2.Placed.length)]])),(1,(pR 3 encInt t.2.Free)),(2,(pR 3 encInt t.2.Tails)),(3,(pR 3 encInt t.2.Placed))] [0,1,2,3] [1,2,3] := by
 refine Fw.Fn.of (P := Try.prog) (X := [1,2,3]) (pn := [0]) (rs := (fun (t : (Bool × TPebbles)) => [(.c (bC t.1))])) (dfs := (fun (t : (Bool × TPebbles)) => [(0,(.row 133 [[(lo 1 t.2.Free.length),(lo 2 t.2.Tails.length),(lo 3 t.2.Placed.length)]])),(1,(pR 3 encInt t.2.Free)),(2,(pR 3 encInt t.2.Tails)),(3,(pR 3 encInt t.2.Placed))])) Try.func224 Q Try.ntmps224 (K Q) Q ?_
 intro w0 U0 R0 g0
 unfold m_impl_gather
 refine Ws (Wr ?_)
 refine asg (Bv false) Q y2 Q Q (On (Ws (AWR.block ?_)))
 refine AWR.loopR (id := 0) (m_impl_gather_L1 bars a b want) (fun s1 => ([(0,(Cc (xF encTBar bars))),(1,(Cc (.pl 0 0))),(2,(Iv a)),(3,(Iv b)),(4,(Iv want))],[(0,(.row 133 [[(lo 1 s1.1.length),(lo 2 s1.2.1.length),(lo 3 s1.2.2.length)]])),(1,(pR 3 encInt s1.1)),(2,(pR 3 encInt s1.2.1)),(3,(pR 3 encInt s1.2.2))])) (fun b24 => ([],[(0,(.row 133 [[(lo 1 b24.1.length),(lo 2 b24.2.1.length),(lo 3 b24.2.2.length)]])),(1,(pR 3 encInt b24.1)),(2,(pR 3 encInt b24.2.1)),(3,(pR 3 encInt b24.2.2))])) (FPost Try.prog Try.f224.results.toList [(0,(.row 133 [[(lo 1 p.Free.length),(lo 2 p.Tails.length),(lo 3 p.Placed.length)]])),(1,(pR 3 encInt p.Free)),(2,(pR 3 encInt p.Tails)),(3,(pR 3 encInt p.Placed))] [1,2,3] (fun (t : (Bool × TPebbles)) => [(.c (bC t.1))]) (fun (t : (Bool × TPebbles)) => [(0,(.row 133 [[(lo 1 t.2.Free.length),(lo 2 t.2.Tails.length),(lo 3 t.2.Placed.length)]])),(1,(pR 3 encInt t.2.Free)),(2,(pR 3 encInt t.2.Tails)),(3,(pR 3 encInt t.2.Placed))])) ?_ (Ent.of z5 z4) Q (fun b24 _ => ?_) (by intro r t σ m ht hk; injection ht with ht; subst ht; exact hk)
 ·intro s1
  unfold m_impl_gather_L1
  refine Ws (Ws (AWR.draw mixed ?_))
  refine Dp10 (LT.move (v := (Cc (.pl 0 0))) Q) Q Q Q (Dp10 (LT.nilPl Q) Q Q Q (Dp10 (LT.fieldPl Q fo133_0) Q Q Q (Dp11 (LT.bload1 (c := (lo 1 s1.1.length)) Q ag45 (by exact Q)) Q Q Q Q (Dp10 (LT.move (v := (Iv a)) Q) Q Q Q (AOD.bind fun x25 hx25 => (Dp21 (LT.tindexLoc Q Q el45 hx25) Q Q Q Q Q (Dp11 (LT.tload1 (k := 0) Q ag3 hx25 (by exact Q) (by exact Q)) Q Q Q Q (Dp10 (LT.move (v := (Cc (.pl 0 0))) Q) Q Q Q (Dp10 (LT.nilPl Q) Q Q Q (Dp10 (LT.fieldPl Q fo133_0) Q Q Q (Dp11 (LT.bload1 (c := (lo 1 s1.1.length)) Q ag45 (by exact Q)) Q Q Q Q ?_)))))))))))
  refine Dp10 (LT.move (v := (Iv b)) Q) Q Q Q (AOD.bind fun x26 hx26 => (Dp21 (LT.tindexLoc Q Q el45 hx26) Q Q Q Q Q (Dp11 (LT.tload1 (k := 0) Q ag3 hx26 (by exact Q) (by exact Q)) Q Q Q Q (Dp20 (LT.add Q) Q Q Q Q (Dp10 (LT.move (v := (Iv want)) Q) Q Q Q (Dp20 (LT.lss Q) Q Q Q Q (AOD.nil (by kernel_rfl) (AWR.cond Q (fun hc27 => ?_) (fun hc27 => ?_)))))))))
  ·refine AWR.skip (AWR.block (Ws ?_))
   refine AWR.joinK (fun j31 => ([(0,(Cc (xF encTBar bars))),(1,(Cc (.pl 0 0))),(2,(Iv a)),(3,(Iv b)),(4,(Iv want)),(41,(Bv j31.1))],[(0,(.row 133 [[(lo 1 j31.2.1.length),(lo 2 j31.2.2.1.length),(lo 3 j31.2.2.2.length)]])),(1,(pR 3 encInt j31.2.1)),(2,(pR 3 encInt j31.2.2.1)),(3,(pR 3 encInt j31.2.2.2))])) ?_ (fun j31 _ => ?_)
   ·refine en [(0,(Cc (xF encTBar bars))),(1,(Cc (.pl 0 0))),(2,(Iv a)),(3,(Iv b)),(4,(Iv want))] [(0,(.row 133 [[(lo 1 s1.1.length),(lo 2 s1.2.1.length),(lo 3 s1.2.2.length)]])),(1,(pR 3 encInt s1.1)),(2,(pR 3 encInt s1.2.1)),(3,(pR 3 encInt s1.2.2))] z5 z4 (Wr (mv (Cc (xF encTBar bars)) Q Q Q Q (mv (Cc (.pl 0 0)) Q Q Q Q (mv (Iv a) Q Q Q Q (mv (Iv b) Q Q Q Q (Ob' fun r32 hr32 => (AOR.step (@LT.callF Try.prog _ _ 241 _ _ [(.c (xF encTBar bars)),(.c (.pl 0 0)),(.c (iC a)),(.c (iC b))] _ _ [] _ _ _ _ ((show Fw.Fn Try.prog 241 [(.c (xF encTBar bars)),(.c (.pl 0 0)),(.c (iC a)),(.c (iC b))] [(0,(.row 133 [[(lo 1 s1.1.length),(lo 2 s1.2.1.length),(lo 3 s1.2.2.length)]])),(1,(pR 3 encInt s1.1)),(2,(pR 3 encInt s1.2.1)),(3,(pR 3 encInt s1.2.2))] (Bv r32.1) [(0,(.row 133 [[(lo 1 r32.2.Free.length),(lo 2 r32.2.Tails.length),(lo 3 r32.2.Placed.length)]])),(1,(pR 3 encInt r32.2.Free)),(2,(pR 3 encInt r32.2.Tails)),(3,(pR 3 encInt r32.2.Placed))] [0,1,2,3] [1,2,3] from Fw.Fn.ren [(0,0),(1,1),(2,2),(3,3)] (w_impl_moveTo bars (TPebbles.mk s1.1 s1.2.1 s1.2.2) a b r32 hr32) Q)) Q cb241 (.cons (.c (.same Q)) (.cons (.c (.same Q)) (.cons (.c (.same Q)) (.cons (.c (.same Q)) .nil)))) Q Q z4) z5 z4 Q Q (Op10 (LT.not Q) Q Q Q (mv (Bv (!r32.1)) Q Q Q Q (AOR.split (fun hb33 => ?_) (fun hb33 => ?_)))))))))))
    ·refine mv (Cc (xF encTBar bars)) Q Q (gH hb33 Q Q) Q (mv (Cc (.pl 0 0)) Q Q (gH hb33 Q Q) Q (mv (Iv b) Q Q (gH hb33 Q Q) Q (mv (Iv a) Q Q (gH hb33 Q Q) Q (Ob' fun r34 hr34 => (AOR.step (@LT.callF Try.prog _ _ 241 _ _ [(.c (xF encTBar bars)),(.c (.pl 0 0)),(.c (iC b)),(.c (iC a))] _ _ [] _ _ _ _ ((show Fw.Fn Try.prog 241 [(.c (xF encTBar bars)),(.c (.pl 0 0)),(.c (iC b)),(.c (iC a))] [(0,(.row 133 [[(lo 1 r32.2.Free.length),(lo 2 r32.2.Tails.length),(lo 3 r32.2.Placed.length)]])),(1,(pR 3 encInt r32.2.Free)),(2,(pR 3 encInt r32.2.Tails)),(3,(pR 3 encInt r32.2.Placed))] (Bv r34.1) [(0,(.row 133 [[(lo 1 r34.2.Free.length),(lo 2 r34.2.Tails.length),(lo 3 r34.2.Placed.length)]])),(1,(pR 3 encInt r34.2.Free)),(2,(pR 3 encInt r34.2.Tails)),(3,(pR 3 encInt r34.2.Placed))] [0,1,2,3] [1,2,3] from Fw.Fn.ren [(0,0),(1,1),(2,2),(3,3)] (w_impl_moveTo bars r32.2 b a r34 hr34) Q)) Q cb241 (.cons (.c (.same Q)) (.cons (.c (.same Q)) (.cons (.c (.same Q)) (.cons (.c (.same Q)) .nil)))) Q Q z4) z5 z4 (gH hb33 Q Q) Q (Op10 (LT.not Q) Q (gH hb33 Q Q) Q (Op20 (LT.pickT (v := (Bv (!r34.1))) Q hb33) Q Q Q Q (On (AWR.nil ⟨Q,Ent.of z6 z4⟩)))))))))
    ·refine Ok Q Q Q (by rw [hb33]; rfl) Q (Ok Q Q Q (by rw [hb33]; rfl) Q (Ok Q Q Q (by rw [hb33]; rfl) Q (Ok Q Q Q (by rw [hb33]; rfl) Q (Ok Q Q Q (by rw [hb33]; rfl) Q (Ok Q Q Q (by rw [hb33]; rfl) Q (Op20 (LT.pickF (v := (Bv false)) Q hb33) Q y2 Q Q (On (AWR.nil ⟨Q,Ent.of z6 z4⟩))))))))
   ·refine AWR.cond Q (fun hc35 => ?_) (fun hc35 => ?_)
    ·refine Ws (Wr ?_)
     refine asg (Bv false) Q y2 Q Q (On (AWR.ret ⟨Q,FPost.mk (.inr Q) z1 z4 Q ⟨PermP.sc,J⟩ ⟨PermO.row1 ⟨J,J,J,J⟩,PermO.prow' perm_encInt,PermO.prow' perm_encInt,PermO.prow' perm_encInt,J⟩⟩))
    ·refine AWR.skip (AWR.blk ?_)
     refine AWR.nil ⟨Q,Ent.of z5 z4⟩
  ·refine AWR.exit_end Q ⟨Q,Ent.of J z4⟩
 ·refine Ws (Wr ?_)
  refine asg (Bv true) Q y2 Q Q (On (AWR.ret (FPost.mk (.inr Q) z1 z4 Q ⟨PermP.sc,J⟩ ⟨PermO.row1 ⟨J,J,J,J⟩,PermO.prow' perm_encInt,PermO.prow' perm_encInt,PermO.prow' perm_encInt,J⟩)))
theorem w_impl_place (bars : (List TBar)) (l : Int) (p : TPebbles) (e : Int) : ∀ t,m_impl_place bars l p e = some t → Fw.Fn Try.prog 204 [(.c (xF encTBar bars)),(.c (iC l)),(.c (.pl 0 0)),(.c (iC e))] [(0,(.row 133 [[(lo 1 p.Free.length),(lo 2 p.Tails.length),(lo 3 p.Placed.length)]])),(1,(pR 3 encInt p.Free)),(2,(pR 3 encInt p.Tails)),(3,(pR 3 encInt p.Placed))] (.s (.c (bC t.1))) [(0,(.row 133 [[(lo 1 t.2.Free.length),(lo 2 t.2.Tails.length),(lo 3 t.2.Placed.length)]])),(1,(pR 3 encInt t.2.Free)),(2,(pR 3 encInt t.2.Tails)),(3,(pR 3 encInt t.2.Placed))] [0,1,2,3] [1,2,3] := by
 refine Fw.Fn.of (P := Try.prog) (X := [1,2,3]) (pn := [0]) (rs := (fun (t : (Bool × TPebbles)) => [(.c (bC t.1))])) (dfs := (fun (t : (Bool × TPebbles)) => [(0,(.row 133 [[(lo 1 t.2.Free.length),(lo 2 t.2.Tails.length),(lo 3 t.2.Placed.length)]])),(1,(pR 3 encInt t.2.Free)),(2,(pR 3 encInt t.2.Tails)),(3,(pR 3 encInt t.2.Placed))])) Try.func204 Q Try.ntmps204 (K Q) Q ?_
 intro w0 U0 R0 g0
 unfold m_impl_place
 refine Ws (Wr ?_)
 refine asg (Bv false) Q y2 Q Q (On (Ws (Wr ?_)))
 refine mv (Cc (xF encTBar bars)) Q Q Q Q (mv (Iv e) Q Q Q Q (Ob' fun x1 hx1 => (Op20 (LT.tindexRO (enc := encTBar) Q el30 hx1 sz112) Q Q Q Q (Op10 (LT.loadPxN Q ag112 (infS inf112) (by exact sz112.symm)) Q Q Q (Os00 (LT.alloc (n := 21) (cells := [(iC 0),(iC 0)]) Q ti112 Q Q Q) Q Q (Os21 (LT.bstore (v := (.agg [(iC x1.A),(iC x1.B)])) (out := [(iC x1.A),(iC x1.B)]) Q Q (infS inf112) sz112 (by exact Q) (by exact K Q) (by exact Q)) Q Q Q Q Q (On (Ws (Ws ?_)))))))))
 refine en [(0,(Cc (xF encTBar bars))),(1,(Iv l)),(2,(Cc (.pl 0 0))),(3,(Iv e)),(9,(Cc (.pl 21 0)))] [(0,(.row 133 [[(lo 1 p.Free.length),(lo 2 p.Tails.length),(lo 3 p.Placed.length)]])),(1,(pR 3 encInt p.Free)),(2,(pR 3 encInt p.Tails)),(3,(pR 3 encInt p.Placed)),(21,(.row 112 [[(iC x1.A),(iC x1.B)]]))] z5 z5 (Wr (mv (Cc (xF encTBar bars)) Q Q Q Q (mv (Cc (.pl 0 0)) Q Q Q Q (Op10 (LT.fieldPl Q fo112_0) Q Q Q (Op11 (LT.bload1 (c := (iC x1.A)) Q ag3 (by exact Q)) Q Q Q Q (Op10 (LT.fieldPl Q fo112_1) Q Q Q (Op11 (LT.bload1 (c := (iC x1.B)) Q ag3 (by exact Q)) Q Q Q Q (mv (Iv l) Q Q Q Q (Op20 (LT.add Q) Q y2 Q Q (Ob' fun r2 hr2 => (AOR.step (@LT.callF Try.prog _ _ 224 _ _ [(.c (xF encTBar bars)),(.c (.pl 0 0)),(.c (iC x1.A)),(.c (iC x1.B)),(.c (iC (w64 (l + 1))))] _ _ [] _ _ _ _ ((show Fw.Fn Try.prog 224 [(.c (xF encTBar bars)),(.c (.pl 0 0)),(.c (iC x1.A)),(.c (iC x1.B)),(.c (iC (w64 (l + 1))))] [(0,(.row 133 [[(lo 1 p.Free.length),(lo 2 p.Tails.length),(lo 3 p.Placed.length)]])),(1,(pR 3 encInt p.Free)),(2,(pR 3 encInt p.Tails)),(3,(pR 3 encInt p.Placed))] (Bv r2.1) [(0,(.row 133 [[(lo 1 r2.2.Free.length),(lo 2 r2.2.Tails.length),(lo 3 r2.2.Placed.length)]])),(1,(pR 3 encInt r2.2.Free)),(2,(pR 3 encInt r2.2.Tails)),(3,(pR 3 encInt r2.2.Placed))] [0,1,2,3] [1,2,3] from Fw.Fn.ren [(0,0),(1,1),(2,2),(3,3)] (w_impl_gather bars p x1.A x1.B (w64 (l + 1)) r2 hr2) Q)) Q cb224 (.cons (.c (.same Q)) (.cons (.c (.same Q)) (.cons (.c (.same Q)) (.cons (.c (.same Q)) (.cons (.c (.same Q)) .nil))))) Q Q z4) z6 z4 Q Q ?_)))))))))))
 refine Op10 (LT.not Q) Q Q Q (On (AWR.cond Q (fun hc3 => ?_) (fun hc3 => ?_)))
 ·refine Ws (en [] [(0,(.row 133 [[(lo 1 r2.2.Free.length),(lo 2 r2.2.Tails.length),(lo 3 r2.2.Placed.length)]])),(1,(pR 3 encInt r2.2.Free)),(2,(pR 3 encInt r2.2.Tails)),(3,(pR 3 encInt r2.2.Placed))] J z4 (Wr (asg (Bv false) Q y2 Q Q (On (AWR.ret (FPost.mk (.inr Q) z1 z4 Q ⟨PermP.sc,J⟩ ⟨PermO.row1 ⟨J,J,J,J⟩,PermO.prow' perm_encInt,PermO.prow' perm_encInt,PermO.prow' perm_encInt,J⟩))))))
 ·refine AWR.skip (Ws ?_)
  refine en [(2,(Cc (.pl 0 0))),(3,(Iv e)),(9,(Cc (.pl 21 0)))] [(0,(.row 133 [[(lo 1 r2.2.Free.length),(lo 2 r2.2.Tails.length),(lo 3 r2.2.Placed.length)]])),(1,(pR 3 encInt r2.2.Free)),(2,(pR 3 encInt r2.2.Tails)),(3,(pR 3 encInt r2.2.Placed)),(21,(.row 112 [[(iC x1.A),(iC x1.B)]]))] z3 z5 (Wr (Op10 (LT.fieldPl Q fo112_0) Q Q Q (Op11 (LT.bload1 (c := (iC x1.A)) Q ag3 (by exact Q)) Q Q Q Q (asg (Iv x1.A) Q Q Q Q (On (Ws (Ws (AWR.draw mixed ?_))))))))
  refine Dp10 (LT.move (v := (Cc (.pl 0 0))) Q) Q Q Q (Dp10 (LT.nilPl Q) Q Q Q (Dp10 (LT.fieldPl Q fo133_0) Q Q Q (Dp11 (LT.bload1 (c := (lo 1 r2.2.Free.length)) Q ag45 (by exact Q)) Q Q Q Q (Dp10 (LT.fieldPl Q fo112_0) Q Q Q (Dp11 (LT.bload1 (c := (iC x1.A)) Q ag3 (by exact Q)) Q Q Q Q (AOD.bind fun x4 hx4 => (Dp21 (LT.tindexLoc Q Q el45 hx4) Q Q Q Q Q (Dp11 (LT.tload1 (k := 0) Q ag3 hx4 (by exact Q) (by exact Q)) Q Q Q Q (Dp20 (LT.eql Q) Q y2 Q Q (AOD.nil (by kernel_rfl) (AWR.joinK (fun j6 => ([(2,(Cc (.pl 0 0))),(3,(Iv e)),(10,(Iv j6))],[(0,(.row 133 [[(lo 1 r2.2.Free.length),(lo 2 r2.2.Tails.length),(lo 3 r2.2.Placed.length)]])),(1,(pR 3 encInt r2.2.Free)),(2,(pR 3 encInt r2.2.Tails)),(3,(pR 3 encInt r2.2.Placed))])) ?_ (fun j6 _ => ?_))))))))))))
  ·refine AWR.cond Q (fun hc7 => ?_) (fun hc7 => ?_)
   ·refine en [(2,(Cc (.pl 0 0))),(3,(Iv e)),(9,(Cc (.pl 21 0)))] [(0,(.row 133 [[(lo 1 r2.2.Free.length),(lo 2 r2.2.Tails.length),(lo 3 r2.2.Placed.length)]])),(1,(pR 3 encInt r2.2.Free)),(2,(pR 3 encInt r2.2.Tails)),(3,(pR 3 encInt r2.2.Placed)),(21,(.row 112 [[(iC x1.A),(iC x1.B)]]))] z3 z5 (Wr (Op10 (LT.fieldPl Q fo112_1) Q Q Q (Op11 (LT.bload1 (c := (iC x1.B)) Q ag3 (by exact Q)) Q Q Q Q (asg (Iv x1.B) Q Q Q Q (On (AWR.nil ⟨Q,Ent.of z3 z4⟩))))))
   ·refine AWR.skip (AWR.nil ⟨Q,Ent.of z3 z4⟩)
  ·refine Ws (Wr ?_)
   refine mv (Cc (.pl 0 0)) Q Q Q Q (Op10 (LT.nilPl Q) Q Q Q (Op10 (LT.fieldPl Q fo133_0) Q Q Q (Op11 (LT.bload1 (c := (lo 1 r2.2.Free.length)) Q ag45 (by exact Q)) Q Q Q Q (mv (Iv j6) Q Q Q Q (Ob' fun x8 hx8 => (Op21 (LT.tindexLoc Q Q el45 hx8) Q Q Q Q Q (Op11 (LT.tload1 (k := 0) Q ag3 hx8 (by exact Q) (by exact Q)) Q Q Q Q (Op20 (LT.sub Q) Q y2 Q Q (Ob' fun x9 hx9 => (Op21 (LT.tindexLoc Q Q el45 hx9) Q Q Q Q Q (Os21 (LT.tstore (k := 0) (v := (.c (iC (w64 (x8 - 1))))) (b' := (w64 (x8 - 1))) Q Q (infS inf3) sz3 (by exact Q) hx9 (by exact Q) (by exact K Q) (by exact Q)) Q Q Q Q Q ?_)))))))))))
   refine On (Ws ?_)
   refine en [(2,(Cc (.pl 0 0))),(3,(Iv e)),(10,(Iv j6))] [(0,(.row 133 [[(lo 1 r2.2.Free.length),(lo 2 r2.2.Tails.length),(lo 3 r2.2.Placed.length)]])),(1,(pR 3 encInt (r2.2.Free.set j6.toNat (w64 (x8 - 1))))),(2,(pR 3 encInt r2.2.Tails)),(3,(pR 3 encInt r2.2.Placed))] z3 z4 (Wr (mv (Cc (.pl 0 0)) Q Q Q Q (mv (Cc (.pl 0 0)) Q Q Q Q (Op10 (LT.nilPl Q) Q Q Q (Op10 (LT.fieldPl Q fo133_1) Q Q Q (Op11 (LT.bload1 (c := (lo 2 r2.2.Tails.length)) Q ag45 (by exact Q)) Q Q Q Q (mv (Iv j6) Q Q Q Q (Os10 (LT.tbuildSlice (n := 23) (enc := encInt) [(0,.tmp 52,(.c (iC j6)))] ([j6] : List Int) Q Q und45 ti3 Q Q Q Q (by decide) (fun _ => Q) Q) Q Q Q (Ob' fun u10 hu10 => (Os22 (LT.tappP (enc := encInt) Q Q Q und45 ti3 Q (by decide) (by decide) (fun _ => Q) (lim_le hu10)) Q Q Q Q Q Q (Op10 (LT.nilPl Q) Q Q Q ?_)))))))))))
   refine Op10 (LT.fieldPl Q fo133_1) Q Q Q (Os21 (LT.bstore (v := (.c (lo 2 ((r2.2.Tails ++ ([j6] : List Int)).length)))) (out := [(lo 1 r2.2.Free.length),(lo 2 ((r2.2.Tails ++ ([j6] : List Int)).length)),(lo 3 r2.2.Placed.length)]) Q Q (infS inf45) sz45 (by exact Q) (by exact K Q) (by exact Q)) Q Q Q Q Q (On (Ws ?_)))
   refine en [(2,(Cc (.pl 0 0))),(3,(Iv e))] [(0,(.row 133 [[(lo 1 r2.2.Free.length),(lo 2 ((r2.2.Tails ++ ([j6] : List Int)).length)),(lo 3 r2.2.Placed.length)]])),(1,(pR 3 encInt (r2.2.Free.set j6.toNat (w64 (x8 - 1))))),(2,(pR 3 encInt (r2.2.Tails ++ ([j6] : List Int)))),(3,(pR 3 encInt r2.2.Placed))] z2 z4 (Wr (mv (Cc (.pl 0 0)) Q Q Q Q (mv (Cc (.pl 0 0)) Q Q Q Q (Op10 (LT.nilPl Q) Q Q Q (Op10 (LT.fieldPl Q fo133_2) Q Q Q (Op11 (LT.bload1 (c := (lo 3 r2.2.Placed.length)) Q ag45 (by exact Q)) Q Q Q Q (mv (Iv e) Q Q Q Q (Os10 (LT.tbuildSlice (n := 24) (enc := encInt) [(0,.tmp 62,(.c (iC e)))] ([e] : List Int) Q Q und45 ti3 Q Q Q Q (by decide) (fun _ => Q) Q) Q Q Q (Ob' fun u11 hu11 => (Os22 (LT.tappP (enc := encInt) Q Q Q und45 ti3 Q (by decide) (by decide) (fun _ => Q) (lim_le hu11)) Q Q Q Q Q Q (Op10 (LT.nilPl Q) Q Q Q ?_)))))))))))
   refine Op10 (LT.fieldPl Q fo133_2) Q Q Q (Os21 (LT.bstore (v := (.c (lo 3 ((r2.2.Placed ++ ([e] : List Int)).length)))) (out := [(lo 1 r2.2.Free.length),(lo 2 ((r2.2.Tails ++ ([j6] : List Int)).length)),(lo 3 ((r2.2.Placed ++ ([e] : List Int)).length))]) Q Q (infS inf45) sz45 (by exact Q) (by exact K Q) (by exact Q)) Q Q Q Q Q (On (Ws ?_)))
   refine en [] [(0,(.row 133 [[(lo 1 r2.2.Free.length),(lo 2 ((r2.2.Tails ++ ([j6] : List Int)).length)),(lo 3 ((r2.2.Placed ++ ([e] : List Int)).length))]])),(1,(pR 3 encInt (r2.2.Free.set j6.toNat (w64 (x8 - 1))))),(2,(pR 3 encInt (r2.2.Tails ++ ([j6] : List Int)))),(3,(pR 3 encInt (r2.2.Placed ++ ([e] : List Int))))] J z4 (Wr (asg (Bv true) Q y2 Q Q (On (en [(8,(Bv true))] [(0,(.row 133 [[(lo 1 ((r2.2.Free.set j6.toNat (w64 (x8 - 1))).length)),(lo 2 ((r2.2.Tails ++ ([j6] : List Int)).length)),(lo 3 ((r2.2.Placed ++ ([e] : List Int)).length))]])),(1,(pR 3 encInt (r2.2.Free.set j6.toNat (w64 (x8 - 1))))),(2,(pR 3 encInt (r2.2.Tails ++ ([j6] : List Int)))),(3,(pR 3 encInt (r2.2.Placed ++ ([e] : List Int))))] z1 ⟨(congrArg (fun l1 => (some (Ob.row 133 [[(lo 1 l1),(lo 2 ((r2.2.Tails ++ ([j6] : List Int)).length)),(lo 3 ((r2.2.Placed ++ ([e] : List Int)).length))]]) : Option Ob)) (show r2.2.Free.length = (r2.2.Free.set j6.toNat (w64 (x8 - 1))).length by simp only [List.length_set])),Q,Q,Q,J⟩ (AWR.ret (FPost.mk (.inr Q) z1 z4 Q ⟨PermP.sc,J⟩ ⟨PermO.row1 ⟨J,J,J,J⟩,PermO.prow' perm_encInt,PermO.prow' perm_encInt,PermO.prow' perm_encInt,J⟩))))))
theorem w_impl_play (points : Int) (bars : (List TBar)) (k : Int) (l : Int) : ∀ t,m_impl_play points bars k l = some t → Fw.Fn Try.prog 166 [(.c (iC points)),(.c (xF encTBar bars)),(.c (iC k)),(.c (iC l))] [] (.s (.agg [(lo 0 t.Free.length),(lo 1 t.Tails.length),(lo 2 t.Placed.length)])) [(0,(pR 3 encInt t.Free)),(1,(pR 3 encInt t.Tails)),(2,(pR 3 encInt t.Placed))] [] [0,1,2] := by
 refine Fw.Fn.of (P := Try.prog) (X := [0,1,2]) (pn := []) (rs := (fun (t : TPebbles) => [(.agg [(lo 0 t.Free.length),(lo 1 t.Tails.length),(lo 2 t.Placed.length)])])) (dfs := (fun (t : TPebbles) => [(0,(pR 3 encInt t.Free)),(1,(pR 3 encInt t.Tails)),(2,(pR 3 encInt t.Placed))])) Try.func166 Q Try.ntmps166 (K Q) Q ?_
 intro w0 U0 R0 g0
 unfold m_impl_play
 refine Ws (Wr ?_)
 refine Os00 (LT.alloc (n := 21) (cells := [(sC nilV),(sC nilV),(sC nilV)]) Q ti133 Q Q Q) Q Q (On (Ws (Wr ?_)))
 refine Op00 (LT.build [] Q Q pl133 ti133 Q Q Q) Q Q (Os00 (LT.alloc (n := 22) (cells := [(sC nilV),(sC nilV),(sC nilV)]) Q ti133 Q Q Q) Q Q (Os21 (LT.bstore (v := (.agg [(sC nilV),(sC nilV),(sC nilV)])) (out := [(sC nilV),(sC nilV),(sC nilV)]) Q Q (infS inf133) sz133 (by exact Q) (by exact K Q) (by exact Q)) Q Q Q Q Q (On (Ws (Ws (Wr ?_))))))
 refine mv (Iv points) Q Q Q Q (mv (Iv 0) Q y2 Q Q (On (AWR.block ?_)))
 refine AWR.ent (Ent.nilB 22 0 25 3 Q Q Q Q) (AWR.loop1 (id := 0) (m_impl_play_L1 points k) (fun s1 => ([(1,(Cc (xF encTBar bars))),(2,(Iv k)),(3,(Iv l)),(8,(Cc (.pl 21 0))),(9,(Cc (.pl 22 0))),(13,(Iv points)),(14,(Iv s1.1))],[(21,(.row 133 [[(sC nilV),(sC nilV),(sC nilV)]])),(22,(.row 133 [[(lo 25 s1.2.length),(sC nilV),(sC nilV)]])),(25,(pR 3 encInt s1.2))])) (fun b6 => ([(1,(Cc (xF encTBar bars))),(3,(Iv l)),(8,(Cc (.pl 21 0))),(9,(Cc (.pl 22 0)))],[(21,(.row 133 [[(sC nilV),(sC nilV),(sC nilV)]])),(22,(.row 133 [[(lo 25 b6.length),(sC nilV),(sC nilV)]])),(25,(pR 3 encInt b6))])) ?_ (Ent.of z7 z3) Q (fun b6 _ => ?_))
 ·intro s1
  unfold m_impl_play_L1
  refine Ws (Wr ?_)
  refine Op20 (LT.lss Q) Q Q Q Q (On (Ws ?_))
  refine AWR.cond Q (fun hc7 => ?_) (fun hc7 => ?_)
  ·refine AWR.skip (Ws (AWR.block (Wr ?_)))
   refine Op10 (LT.fieldPl Q fo133_0) Q Q Q (Op11 (LT.bload1 (c := (lo 25 s1.2.length)) Q ag45 (by exact Q)) Q Q Q Q (mv (Iv k) Q Q Q Q (Os10 (LT.tbuildSlice (n := 23) (enc := encInt) [(0,.tmp 18,(.c (iC k)))] ([k] : List Int) Q Q und45 ti3 Q Q Q Q (by decide) (fun _ => Q) Q) Q Q Q (Ob' fun u8 hu8 => (Os22 (LT.tappP (enc := encInt) Q Q Q und45 ti3 Q (by decide) (by decide) (fun _ => Q) (lim_le hu8)) Q Q Q Q Q Q (Op10 (LT.fieldPl Q fo133_0) Q Q Q (Os21 (LT.bstore (v := (.c (lo 25 ((s1.2 ++ ([k] : List Int)).length)))) (out := [(lo 25 ((s1.2 ++ ([k] : List Int)).length)),(sC nilV),(sC nilV)]) Q Q (infS inf45) sz45 (by exact Q) (by exact K Q) (by exact Q)) Q Q Q Q Q (On (AWR.blk ?_)))))))))
   refine en [(1,(Cc (xF encTBar bars))),(2,(Iv k)),(3,(Iv l)),(8,(Cc (.pl 21 0))),(9,(Cc (.pl 22 0))),(13,(Iv points)),(14,(Iv s1.1))] [(21,(.row 133 [[(sC nilV),(sC nilV),(sC nilV)]])),(22,(.row 133 [[(lo 25 ((s1.2 ++ ([k] : List Int)).length)),(sC nilV),(sC nilV)]])),(25,(pR 3 encInt (s1.2 ++ ([k] : List Int))))] z7 z3 (Wr (Op20 (LT.add Q) Q y2 Q Q (mv (Iv (w64 (s1.1 + 1))) Q Q Q Q (On (AWR.nil ⟨Q,Ent.of z7 z3⟩)))))
  ·refine AWR.exit_end Q ⟨Q,Ent.of z4 z3⟩
 ·refine Ws (Ws (Wr ?_))
  refine mv (Cc (xF encTBar bars)) Q Q Q Q (Op10 (LT.tlenRO Q und30) Q Q Q (mv (Iv 0) Q y2 Q Q (On (AWR.block ?_))))
  refine AWR.ent (Ent.nilB 22 1 32 3 Q Q Q Q) (AWR.ent (Ent.nilB 22 2 33 3 Q Q Q Q) (AWR.loop1 (id := 2) (m_impl_play_L2 bars l) (fun s9 => ([(1,(Cc (xF encTBar bars))),(3,(Iv l)),(8,(Cc (.pl 21 0))),(9,(Cc (.pl 22 0))),(24,(Iv (bars.length : Int))),(25,(Iv s9.1))],[(21,(.row 133 [[(sC nilV),(sC nilV),(sC nilV)]])),(22,(.row 133 [[(lo 25 s9.2.1.length),(lo 32 s9.2.2.1.length),(lo 33 s9.2.2.2.length)]])),(25,(pR 3 encInt s9.2.1)),(32,(pR 3 encInt s9.2.2.1)),(33,(pR 3 encInt s9.2.2.2))])) (fun b22 => ([(8,(Cc (.pl 21 0))),(9,(Cc (.pl 22 0)))],[(21,(.row 133 [[(sC nilV),(sC nilV),(sC nilV)]])),(22,(.row 133 [[(lo 25 b22.1.length),(lo 32 b22.2.1.length),(lo 33 b22.2.2.length)]])),(25,(pR 3 encInt b22.1)),(32,(pR 3 encInt b22.2.1)),(33,(pR 3 encInt b22.2.2))])) ?_ (Ent.of z6 z5) Q (fun b22 _ => ?_)))
  ·intro s9
   unfold m_impl_play_L2
   refine Ws (Wr ?_)
   refine Op20 (LT.lss Q) Q Q Q Q (On (Ws ?_))
   refine AWR.cond Q (fun hc23 => ?_) (fun hc23 => ?_)
   ·refine AWR.skip (Ws (AWR.block (Ws (Wr ?_))))
    refine mv (Iv s9.1) Q Q Q Q (asg (Iv s9.1) Q Q Q Q (On (Ws (Wr ?_))))
    refine Op11 (LT.bloadN (out := [(lo 25 s9.2.1.length),(lo 32 s9.2.2.1.length),(lo 33 s9.2.2.2.length)]) Q ag133 (infS inf133) sz133 (by exact Q) (by exact Q)) Q Q Q Q (Ob' fun r24 hr24 => (AOR.step (@LT.callF Try.prog _ _ 203 _ _ [(.agg [(lo 25 s9.2.1.length),(lo 32 s9.2.2.1.length),(lo 33 s9.2.2.2.length)])] _ _ [(25,(pR 3 encInt s9.2.1)),(32,(pR 3 encInt s9.2.2.1)),(33,(pR 3 encInt s9.2.2.2))] _ _ _ _ ((show Fw.Fn Try.prog 203 [(.agg [(xF encInt ((TPebbles.mk s9.2.1 s9.2.2.1 s9.2.2.2).Free)),(xF encInt ((TPebbles.mk s9.2.1 s9.2.2.1 s9.2.2.2).Tails)),(xF encInt ((TPebbles.mk s9.2.1 s9.2.2.1 s9.2.2.2).Placed))])] [] (Ag  [(lo 27 r24.Free.length),(lo 28 r24.Tails.length),(lo 29 r24.Placed.length)]) [(27,(pR 3 encInt r24.Free)),(28,(pR 3 encInt r24.Tails)),(29,(pR 3 encInt r24.Placed))] [] [27,28,29] from Fw.Fn.ren [(0,27),(1,28),(2,29)] (w_impl_copyPebbles (TPebbles.mk s9.2.1 s9.2.2.1 s9.2.2.2) r24 hr24) Q)) Q cb203 (.cons (.agg (.cons (.tloc Q Q) (.cons (.tloc Q Q) (.cons (.tloc Q Q) .nil)))) .nil) Q Q J) z2 z3 Q Q (Os00 (LT.alloc (n := 30) (cells := [(sC nilV),(sC nilV),(sC nilV)]) Q ti133 Q Q Q) Q Q (Os21 (LT.bstore (v := (.agg [(lo 27 r24.Free.length),(lo 28 r24.Tails.length),(lo 29 r24.Placed.length)])) (out := [(lo 27 r24.Free.length),(lo 28 r24.Tails.length),(lo 29 r24.Placed.length)]) Q Q (infS inf133) sz133 (by exact Q) (by exact K Q) (by exact Q)) Q Q Q Q Q (On (Ws ?_))))))
    refine en [(1,(Cc (xF encTBar bars))),(3,(Iv l)),(8,(Cc (.pl 21 0))),(9,(Cc (.pl 22 0))),(10,(Iv s9.1)),(11,(Cc (.pl 30 0))),(24,(Iv (bars.length : Int))),(25,(Iv s9.1))] [(21,(.row 133 [[(sC nilV),(sC nilV),(sC nilV)]])),(22,(.row 133 [[(lo 25 s9.2.1.length),(lo 32 s9.2.2.1.length),(lo 33 s9.2.2.2.length)]])),(25,(pR 3 encInt s9.2.1)),(27,(pR 3 encInt r24.Free)),(28,(pR 3 encInt r24.Tails)),(29,(pR 3 encInt r24.Placed)),(30,(.row 133 [[(lo 27 r24.Free.length),(lo 28 r24.Tails.length),(lo 29 r24.Placed.length)]])),(32,(pR 3 encInt s9.2.2.1)),(33,(pR 3 encInt s9.2.2.2))] z8 z9 (Wr (mv (Cc (xF encTBar bars)) Q Q Q Q (mv (Iv l) Q Q Q Q (mv (Iv s9.1) Q Q Q Q (Ob' fun r25 hr25 => (AOR.step (@LT.callF Try.prog _ _ 204 _ _ [(.c (xF encTBar bars)),(.c (iC l)),(.c (.pl 30 0)),(.c (iC s9.1))] _ _ [] _ _ _ _ ((show Fw.Fn Try.prog 204 [(.c (xF encTBar bars)),(.c (iC l)),(.c (.pl 30 0)),(.c (iC s9.1))] [(30,(.row 133 [[(lo 27 r24.Free.length),(lo 28 r24.Tails.length),(lo 29 r24.Placed.length)]])),(27,(pR 3 encInt r24.Free)),(28,(pR 3 encInt r24.Tails)),(29,(pR 3 encInt r24.Placed))] (Bv r25.1) [(30,(.row 133 [[(lo 27 r25.2.Free.length),(lo 28 r25.2.Tails.length),(lo 29 r25.2.Placed.length)]])),(27,(pR 3 encInt r25.2.Free)),(28,(pR 3 encInt r25.2.Tails)),(29,(pR 3 encInt r25.2.Placed))] [30,27,28,29] [27,28,29] from Fw.Fn.ren [(0,30),(1,27),(2,28),(3,29)] (w_impl_place bars l r24 s9.1 r25 hr25) Q)) Q cb204 (.cons (.c (.same Q)) (.cons (.c (.same Q)) (.cons (.c (.same Q)) (.cons (.c (.same Q)) .nil)))) Q Q z4) z5 z4 Q Q (On (AWR.joinK (fun j27 => ([(1,(Cc (xF encTBar bars))),(3,(Iv l)),(8,(Cc (.pl 21 0))),(9,(Cc (.pl 22 0))),(24,(Iv (bars.length : Int))),(25,(Iv s9.1))],[(21,(.row 133 [[(sC nilV),(sC nilV),(sC nilV)]])),(22,(.row 133 [[(lo 27 j27.1.length),(lo 28 j27.2.1.length),(lo 29 j27.2.2.length)]])),(27,(pR 3 encInt j27.1)),(28,(pR 3 encInt j27.2.1)),(29,(pR 3 encInt j27.2.2))])) ?_ (fun j27 _ => ?_)))))))))
    ·refine AWR.cond Q (fun hc28 => ?_) (fun hc28 => ?_)
     ·refine Wr (Op11 (LT.bloadN (out := [(lo 27 r25.2.Free.length),(lo 28 r25.2.Tails.length),(lo 29 r25.2.Placed.length)]) Q ag133 (infS inf133) sz133 (by exact Q) (by exact Q)) Q Q Q Q (Os21 (LT.bstore (v := (.agg [(lo 27 r25.2.Free.length),(lo 28 r25.2.Tails.length),(lo 29 r25.2.Placed.length)])) (out := [(lo 27 r25.2.Free.length),(lo 28 r25.2.Tails.length),(lo 29 r25.2.Placed.length)]) Q Q (infS inf133) sz133 (by exact Q) (by exact K Q) (by exact Q)) Q Q Q Q Q (On (AWR.nil ⟨Q,Ent.of z6 z5⟩))))
     ·refine AWR.skip (en [(1,(Cc (xF encTBar bars))),(3,(Iv l)),(8,(Cc (.pl 21 0))),(9,(Cc (.pl 22 0))),(24,(Iv (bars.length : Int))),(25,(Iv s9.1))] [(21,(.row 133 [[(sC nilV),(sC nilV),(sC nilV)]])),(22,(.row 133 [[(lo 25 s9.2.1.length),(lo 32 s9.2.2.1.length),(lo 33 s9.2.2.2.length)]])),(25,(pR 3 encInt s9.2.1)),(32,(pR 3 encInt s9.2.2.1)),(33,(pR 3 encInt s9.2.2.2))] z6 z5 (AWR.ent (Ent.mv 25 27 Q Q) (AWR.ent (Ent.mv 32 28 Q Q) (AWR.ent (Ent.mv 33 29 Q Q) (AWR.nil ⟨Q,Ent.of z6 z5⟩)))))
    ·refine AWR.blk (Wr ?_)
     refine Op20 (LT.add Q) Q y2 Q Q (mv (Iv (w64 (s9.1 + 1))) Q Q Q Q (On (en [(1,(Cc (xF encTBar bars))),(3,(Iv l)),(8,(Cc (.pl 21 0))),(9,(Cc (.pl 22 0))),(24,(Iv (bars.length : Int))),(25,(Iv (w64 (s9.1 + 1))))] [(21,(.row 133 [[(sC nilV),(sC nilV),(sC nilV)]])),(22,(.row 133 [[(lo 27 j27.1.length),(lo 28 j27.2.1.length),(lo 29 j27.2.2.length)]])),(27,(pR 3 encInt j27.1)),(28,(pR 3 encInt j27.2.1)),(29,(pR 3 encInt j27.2.2))] z6 z5 (AWR.ent (Ent.mv 27 25 Q Q) (AWR.ent (Ent.mv 28 32 Q Q) (AWR.ent (Ent.mv 29 33 Q Q) (AWR.nil ⟨Q,Ent.of z6 z5⟩)))))))
   ·refine AWR.exit_end Q ⟨Q,Ent.of z2 z5⟩
  ·refine Ws (Wr ?_)
   refine Op11 (LT.bloadN (out := [(lo 25 b22.1.length),(lo 32 b22.2.1.length),(lo 33 b22.2.2.length)]) Q ag133 (infS inf133) sz133 (by exact Q) (by exact Q)) Q Q Q Q (Os21 (LT.bstore (v := (.agg [(lo 25 b22.1.length),(lo 32 b22.2.1.length),(lo 33 b22.2.2.length)])) (out := [(lo 25 b22.1.length),(lo 32 b22.2.1.length),(lo 33 b22.2.2.length)]) Q Q (infS inf133) sz133 (by exact Q) (by exact K Q) (by exact Q)) Q Q Q Q Q (On (en [(8,(Cc (.pl 21 0)))] [(21,(.row 133 [[(lo 25 b22.1.length),(lo 32 b22.2.1.length),(lo 33 b22.2.2.length)]])),(25,(pR 3 encInt b22.1)),(32,(pR 3 encInt b22.2.1)),(33,(pR 3 encInt b22.2.2))] z1 z4 (AWR.ent (Ent.mv 25 0 Q Q) (AWR.ent (Ent.mv 32 1 Q Q) (AWR.ent (Ent.mv 33 2 Q Q) (en [(8,(Cc (.pl 21 0)))] [(0,(pR 3 encInt b22.1)),(1,(pR 3 encInt b22.2.1)),(2,(pR 3 encInt b22.2.2)),(21,(.row 133 [[(lo 0 b22.1.length),(lo 1 b22.2.1.length),(lo 2 b22.2.2.length)]]))] z1 z4 (AWR.ret (FPost.mk (.inr Q) ⟨⟨_,_,_,Q,Q,Q,ag133,sz133,_,(infS inf133)⟩,J⟩ z3 Q ⟨⟨J,J,J,J⟩,J⟩ ⟨PermO.prow' perm_encInt,PermO.prow' perm_encInt,PermO.prow' perm_encInt,J⟩)))))))))
end Go.Proofs.Yteognanhfpbghaa
end
