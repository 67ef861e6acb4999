/- The framework, part 5: stores, appends, slices, closures; what may be said otherwise of one and the same state. -/
import Derived.Test.YtfiiebikkimjbaaFw4
import Derived.Maps.AppendAt
set_option linter.unusedVariables false
set_option linter.unusedSimpArgs false
set_option linter.unnecessarySimpa false
namespace Go.Fw
section
variable {P : Program} {w : World} {R B : Nat → Prop} {g : Nat → GS}

theorem Adv.setRow (h : WF R B g w) {n b : Nat} {cur cur' : Array Value} {e : TypeId} (hn : g n = .blk b) (hh : w.heap[b]? = some (.cells cur e (0, 0))) (hs : cur'.size = cur.size) : Adv R B g w [n] [] R B g (w.setRow b cur') where
  wf := h.mono (by simp [World.setRow])
  r _ h := h
  b _ h := h
  os := rfl
  tape := rfl
  output := rfl
  size := by simp [World.setRow]
  heap c _ hc := setRow_other w b c cur' (fun e => hc n List.mem_cons_self (by rw [hn, e]; rfl))
  names _ _ := rfl
  fresh _ hk := by cases hk
  shape k hk _ c cu e' hg hc := by
    have : k = n := by simpa using hk
    subst this
    rw [hn] at hg
    have hg : b = c := Eq.symm hg
    subst hg
    rw [hh] at hc
    injection hc with hc
    injection hc with h1 h2 h3
    subst h1
    subst h2
    exact ⟨cur', setRow_heap w b cur cur' e (0, 0) hh, hs⟩

theorem oneCell_ne {v : Value} (h : v.oneCell' = true) : v.cells = #[v] := by cases v <;> first | rfl | cases h

theorem LT.store {o : Oper} {t e : TypeId} {n off j k s : Nat} {x y : Operand} {els : List (List CV)} {cs : List CV} {v : SV} (ho : o.op = .store t x y) (hd : o.dst = none) {i : TypeInfo} (hi : P.info? t = some i) (hs : szP P t = s) (hl : (svCells v).length = s) (hj : els[j]? = some cs)
    (ha : off = j * szP P e + k) (hk : k + s ≤ cs.length) : LT P o [(x, Cc (.pl n off)), (y, .s v)] [(n, .row e els)] (.tup []) [(n, .row e (els.set j (ow cs k (svCells v))))] [n] [] := by
  intro R B g w a hw hin hu K Q hK
  obtain ⟨_, b, hb, hx⟩ := in1 hin
  have hro := us1 hu
  have hrel := RS.cells (in2 hin)
  rcases hro with ⟨h1, _⟩ | ⟨b', cur, h1, h2, h3, h4, h5⟩
  · rw [hb] at h1; cases h1
  rw [hb] at h1
  injection h1 with h1
  subst h1
  have hcs : cs.length = szP P e := h3 cs (List.mem_of_getElem? hj)
  have hjl : j < els.length := (List.getElem?_eq_some_iff.1 hj).1
  have hsz : (a.eval y).cells.size = s := by rw [← hl, ← hrel.1]; simp
  have hrow : j * szP P e + szP P e ≤ els.length * szP P e := by
    have := Nat.mul_le_mul_right (szP P e) hjl
    rwa [Nat.succ_mul] at this
  have hfit : off + (a.eval y).cells.toList.length ≤ cur.toList.length := by
    simp only [Array.length_toList, hsz]
    omega
  have hst := run_storeCells_at P b off e (a.eval y).cells.toList 0 cur w h2 (by simpa using hfit) hrel.one
  simp only [Nat.add_zero] at hst
  have hrun : (execOp a.eval o).run P w = .ok .skip (w.setRow b (ow cur.toList off (a.eval y).cells.toList).toArray) := by
    have hsz' : (a.eval y).cells.size = i.size := by rw [hsz, ← hs, szP_of hi]
    simp [execOp, ho, hx, Instr.storeAt, Instr.sureAddr, storeVar, sizeOf, typeInfo, hi, hsz', ow] at hst ⊢
    rw [hst]
    rfl
  unfold Oper.wp
  rw [hrun]
  have hsize : (ow cur.toList off (a.eval y).cells.toList).toArray.size = cur.size := by
    rw [List.size_toArray, ow_length _ _ _ hfit]; simp
  have had := Adv.setRow hw hb h2 hsize
  refine hK undef R B g _ had (fun b hb => .inl hb) (fun h => by rw [hd] at h; cases h) (fun p hp => ?_)
  have : p = (n, .row e (els.set j (ow cs k (svCells v)))) := by simpa using hp
  subst this
  have hkc : k + (svCells v).length ≤ cs.length := by rw [hl]; exact hk
  refine .inr ⟨b, _, hb, setRow_heap w b cur _ e (0, 0) h2, fun c hc => ?_, by rw [hsize]; simpa using h4, fun j' k' c y' hj' hk' => ?_⟩
  · rcases List.mem_or_eq_of_mem_set hc with h | h
    · exact h3 c h
    · rw [h, ow_length _ _ _ hkc]; exact hcs
  · have lift : ∀ {y' : CV} {u : Value}, RC P w R B g y' u → RC P (w.setRow b (ow cur.toList off (a.eval y).cells.toList).toArray) R B g y' u := fun hr => by
      have := had.rc hw hr
      rwa [junkC_nil] at this
    have hvl : (a.eval y).cells.toList.length = s := by simpa using hsz
    rw [List.getElem?_set] at hj'
    by_cases hjj : j = j'
    · subst hjj
      rw [if_pos rfl, if_pos hjl] at hj'
      injection hj' with hj'
      subst hj'
      by_cases hin' : k ≤ k' ∧ k' < k + (svCells v).length
      · rw [ow_in _ _ _ hkc k' hin'.1 hin'.2] at hk'
        obtain ⟨u, hu1, hu2⟩ := hrel.2 _ y' hk'
        refine ⟨u, ?_, lift hu2⟩
        have : (ow cur.toList off (a.eval y).cells.toList)[j * szP P e + k']? = some u := by
          rw [ow_in _ _ _ hfit _ (by omega) (by rw [hvl]; omega), ← hu1]
          congr 1
          omega
        simpa using this
      · have hout : k' < k ∨ k + (svCells v).length ≤ k' := by omega
        rw [ow_out _ _ _ hkc k' hout] at hk'
        obtain ⟨u, hu1, hu2⟩ := h5 j k' cs y' hj hk'
        refine ⟨u, ?_, lift hu2⟩
        have : (ow cur.toList off (a.eval y).cells.toList)[j * szP P e + k']? = some u := by
          rw [ow_out _ _ _ hfit _ (by rw [hvl]; omega)]
          simpa using hu1
        simpa using this
    · rw [if_neg hjj] at hj'
      obtain ⟨u, hu1, hu2⟩ := h5 j' k' c y' hj' hk'
      refine ⟨u, ?_, lift hu2⟩
      have hk'l : k' < szP P e := by rw [← h3 c (List.mem_of_getElem? hj')]; exact (List.getElem?_eq_some_iff.1 hk').1
      have hne : ∀ q, q < szP P e → j * szP P e + q ≠ j' * szP P e + k' := fun q hq => mul_gap hq hk'l hjj
      have hout : j' * szP P e + k' < off ∨ off + (a.eval y).cells.toList.length ≤ j' * szP P e + k' := by
        rw [hvl]
        rcases Nat.lt_or_ge (j' * szP P e + k') off with h | h
        · exact .inl h
        · refine .inr (Nat.le_of_not_lt fun h' => ?_)
          exact hne (j' * szP P e + k' - j * szP P e) (by omega) (by omega)
      have : (ow cur.toList off (a.eval y).cells.toList)[j' * szP P e + k']? = some u := by
        rw [ow_out _ _ _ hfit _ hout]
        simpa using hu1
      simpa using this

/-! ### one thing said in two ways -/
theorem LT.conv {o : Oper} {ins : List (Operand × AV)} {us us' df df' : Mem} {v : AV} {W X : List Nat} (h1 : ∀ (w : World) (R B : Nat → Prop) (g : Nat → GS), (∀ p ∈ us', RO P w R B g p.1 p.2) → ∀ p ∈ us, RO P w R B g p.1 p.2)
    (h2 : ∀ (w : World) (R B : Nat → Prop) (g : Nat → GS), (∀ p ∈ df, RO P w R B g p.1 p.2) → ∀ p ∈ df', RO P w R B g p.1 p.2) (h : LT P o ins us v df W X) : LT P o ins us' v df' W X :=
  fun R B g w a hw hi hu K Q hK => h R B g w a hw hi (h1 w R B g hu) K Q fun u R' B' g' w' had hR hv hob => hK u R' B' g' w' had hR hv (h2 w' R' B' g' hob)

theorem one_ro {n : Nat} {ob : Ob} (h : RO P w R B g n ob) : ∀ p ∈ [(n, ob)], RO P w R B g p.1 p.2 := fun p hp => by
  have : p = (n, ob) := by simpa using hp
  subst this
  exact h

theorem LT.dfP {o : Oper} {ins : List (Operand × AV)} {us : Mem} {v : AV} {n : Nat} {e : TypeId} {pels : List (List PV)} {W X Y : List Nat} (h : LT P o ins us v [(n, .row e ((pvs pels).map (·.map (junkC Y))))] W X) : LT P o ins us v [(n, .prow e pels)] W X :=
  h.conv (fun _ _ _ _ h => h) fun w R B g hu => one_ro (by have := us1 hu; rwa [pvs_junk] at this)
theorem LT.usP {o : Oper} {ins : List (Operand × AV)} {df : Mem} {v : AV} {n : Nat} {e : TypeId} {pels : List (List PV)} {W X : List Nat} (h : LT P o ins [(n, .row e (pvs pels))] v df W X) : LT P o ins [(n, .prow e pels)] v df W X :=
  LT.conv (us := [(n, .row e (pvs pels))]) (us' := [(n, .prow e pels)]) (fun w R B g hu => one_ro (ob := .row e (pvs pels)) (us1 (ob := .prow e pels) hu)) (fun _ _ _ _ h => h) h
theorem pvs_length (els : List (List PV)) : (pvs els).length = els.length := by simp [pvs]

/-! ### rows as flat lists -/
theorem flat_inv {α : Type} {s : Nat} (hs : 0 < s) : ∀ (els : List (List α)), (∀ cs ∈ els, cs.length = s) → ∀ (i : Nat) x, els.flatten[i]? = some x → ∃ cs, els[i / s]? = some cs ∧ cs[i % s]? = some x
  | [], _, i, x, h => by simp at h
  | c :: els, hl, i, x, h => by
    have hc : c.length = s := hl c List.mem_cons_self
    rw [List.flatten_cons] at h
    by_cases hi : i < s
    · rw [List.getElem?_append_left (by omega)] at h
      exact ⟨c, by rw [Nat.div_eq_of_lt hi]; rfl, by rw [Nat.mod_eq_of_lt hi]; exact h⟩
    · rw [List.getElem?_append_right (by omega), hc] at h
      obtain ⟨cs, h1, h2⟩ := flat_inv hs els (fun cs hcs => hl cs (List.mem_cons_of_mem _ hcs)) (i - s) x h
      refine ⟨cs, ?_, ?_⟩
      · rw [Nat.div_eq_sub_div hs (by omega)]; exact h1
      · rw [Nat.mod_eq_sub_mod (by omega)]; exact h2

theorem ROw.flat {n b : Nat} {e : TypeId} {els : List (List CV)} (hs : 0 < szP P e) (h : ROw P w R B g n e els) (hb : g n = .blk b) :
    (∀ cs ∈ els, cs.length = szP P e) ∧ ∃ cur, w.heap[b]? = some (.cells cur e (0, 0)) ∧ els.length * szP P e ≤ cur.size ∧ RelC P w R B g els.flatten (cur.toList.take (els.length * szP P e)) := by
  rcases h with ⟨h1, _⟩ | ⟨b', cur, h1, h2, h3, h4, h5⟩
  · rw [hb] at h1; cases h1
  · rw [hb] at h1
    injection h1 with h1
    subst h1
    refine ⟨h3, cur, h2, h4, by rw [flat_length els h3]; simp; omega, fun i x hi => ?_⟩
    obtain ⟨cs, k1, k2⟩ := flat_inv hs els h3 i x hi
    obtain ⟨u, hu, hr⟩ := h5 _ _ cs x k1 k2
    have hil : i < els.length * szP P e := by rw [← flat_length els h3]; exact (List.getElem?_eq_some_iff.1 hi).1
    refine ⟨u, ?_, hr⟩
    rw [List.getElem?_take, if_pos hil]
    have : i / szP P e * szP P e + i % szP P e = i := by rw [Nat.mul_comm]; exact Nat.div_add_mod i _
    rw [this] at hu
    simpa using hu
theorem ROw.of_flat {n b : Nat} {e : TypeId} {els : List (List CV)} {cur : Array Value} (hb : g n = .blk b) (hl : ∀ cs ∈ els, cs.length = szP P e) (hh : w.heap[b]? = some (.cells cur e (0, 0))) (hc : els.length * szP P e ≤ cur.size)
    (hr : RelC P w R B g els.flatten (cur.toList.take (els.length * szP P e))) : ROw P w R B g n e els :=
  .inr ⟨b, cur, hb, hh, hl, hc, fun j k cs x hj hk => by
    obtain ⟨u, hu, hru⟩ := hr.2 _ x (flat_index els hl j k cs x hj hk)
    refine ⟨u, ?_, hru⟩
    rw [List.getElem?_take] at hu
    split at hu
    · simpa using hu
    · cases hu⟩

/-- What is appended: a slice value that reads as these elements. -/
def SrcV (P : Program) (w : World) (R B : Nat → Prop) (g : Nat → GS) (v : Value) (els : List (List CV)) (s : Nat) : Prop :=
  ∃ A c, v = .slice A els.length c ∧ ∃ news : List Value, RelC P w R B g els.flatten news ∧ ∀ i u, news[i]? = some u → ∃ ad, A = some ad ∧ w.cell? (ad.add i) = some u

theorem srcRO {v : Value} {q : Bool} {els : List (List PV)} {s : Nat} (hs : 0 < s) (hl : ∀ cs ∈ els, cs.length = s) (h : RC P w R B g (.pv (.xs q els)) v) : SrcV P w R B g v (pvs els) s := by
  obtain ⟨_, h⟩ := h
  cases h with
  | emp => exact ⟨_, _, rfl, [], ⟨rfl, fun k x hk => by simp [pvs] at hk⟩, fun i u hu => by simp at hu⟩
  | @xs _ _ ad c s' n val hn hq hc hs' hv hr =>
    subst hn
    have hss : ∀ cs ∈ els, s' = s := fun cs hcs => (hs' cs hcs).symm.trans (hl cs hcs)
    have hflat : ∀ (i : Nat) p, els.flatten[i]? = some p → ∃ cs, els[i / s]? = some cs ∧ cs[i % s]? = some p := flat_inv hs els hl
    refine ⟨some ad, c, by simp [pvs], (List.range els.flatten.length).map fun i => val (i / s) (i % s), ⟨by simp [pvs, ← List.map_flatten], fun k x hk => ?_⟩, fun i u hu => ?_⟩
    · simp only [pvs, ← List.map_flatten, List.getElem?_map] at hk
      cases hp : els.flatten[k]? with
      | none => rw [hp] at hk; cases hk
      | some p =>
        rw [hp] at hk
        injection hk with hk
        subst hk
        obtain ⟨cs, h1, h2⟩ := hflat k p hp
        have hlt : k < els.flatten.length := (List.getElem?_eq_some_iff.1 hp).1
        exact ⟨val (k / s) (k % s), by rw [List.getElem?_map, List.getElem?_range hlt]; rfl, (hr _ _ _ _ h1 h2).oneCell, hr _ _ _ _ h1 h2⟩
    · rw [List.getElem?_map] at hu
      cases hi : (List.range els.flatten.length)[i]? with
      | none => rw [hi] at hu; cases hu
      | some i' =>
        rw [hi] at hu
        injection hu with hu
        subst hu
        have hlt : i < els.flatten.length := by simpa using (List.getElem?_eq_some_iff.1 hi).1
        have hii : i = i' := by
          rw [List.getElem?_eq_getElem (by simpa using hlt)] at hi
          simpa using hi
        subst hii
        obtain ⟨cs, h1, h2⟩ := hflat i els.flatten[i] (List.getElem?_eq_getElem hlt)
        refine ⟨ad, rfl, ?_⟩
        have := hv _ _ _ _ h1 h2
        rw [hss cs (List.mem_of_getElem? h1)] at this
        rwa [show i / s * s + i % s = i by rw [Nat.mul_comm]; exact Nat.div_add_mod i s] at this

theorem srcLoc {v : Value} {n : Nat} {e : TypeId} {els : List (List CV)} (hs : 0 < szP P e) (h : RC P w R B g (.loc n 0 els.length) v) (ho : ROw P w R B g n e els) : SrcV P w R B g v els (szP P e) := by
  obtain ⟨_, h⟩ := h
  rcases h with ⟨h1, _, h3, h4⟩ | ⟨_, h2, _⟩ | ⟨b, cap, cur, e', k1, k2, k3, k4, k5, k6⟩
  · have : els = [] := List.eq_nil_of_length_eq_zero h3
    subst this
    exact ⟨none, 0, h4, [], ⟨rfl, fun k x hk => by simp at hk⟩, fun i u hu => by simp at hu⟩
  · exact absurd rfl h2
  · obtain ⟨hl, cur', h5, h6, h7⟩ := ho.flat hs k1
    rw [k2] at h5
    injection h5 with h5
    injection h5 with h5 h8 h9
    subst h5
    subst h8
    refine ⟨some ⟨b, 0, none⟩, cap, by simpa using k6, _, h7, fun i u hu => ⟨_, rfl, ?_⟩⟩
    rw [add_lit, Nat.zero_add, row_cell k2]
    rw [List.getElem?_take] at hu
    split at hu
    · simpa using hu
    · cases hu

theorem srcNil {s : Nat} : SrcV P w R B g nilV ([] : List (List CV)) s := ⟨none, 0, rfl, [], ⟨rfl, fun k x hk => by simp at hk⟩, fun i u hu => by simp at hu⟩

theorem run_append_none {t ty e : TypeId} {i : TypeInfo} (ht : P.underlying t = some (.slice e)) (hi : P.info? e = some i) (A : Option Addr) (n c c' : Nat) (hn : n ≤ c) (w : World) :
    (Builtin.append_ #[t, t] ty #[.slice A n c, .slice none 0 c']).run P w = .ok (.slice A n c) w := by
  cases A <;> simp [Builtin.append_, run_underlying ht, sizeOf, typeInfo, hi, Builtin.lenOf, Builtin.firstCells, storeCells, hn]

/-- What the target of an append may be. -/
def TgtV (P : Program) (w : World) (R B : Nat → Prop) (g : Nat → GS) (n : Nat) (e : TypeId) (v : Value) (els : List (List CV)) : Prop :=
  (v = nilV ∧ els = []) ∨ (RC P w R B g (.loc n 0 els.length) v ∧ ROw P w R B g n e els)

theorem run_append {t ty e : TypeId} {z : Value} {s by_ : Nat} (ht : P.underlying t = some (.slice e)) (hz : TI P e z s by_) (hzs : z.cells.size = s) (hs : 0 < s) (hb : by_ ≤ 65536) (hw : WF R B g w) {n : Nat} {v x : Value} {els els2 : List (List CV)}
    (hl2 : ∀ cs ∈ els2, cs.length = s) (hv : TgtV P w R B g n e v els) (hx : SrcV P w R B g x els2 s) (hlim : els.length + els2.length ≤ LIM) (W : List Nat) (hW : W = [n] ∨ (v = nilV ∧ W = [])) :
    ∃ v' g' w', (Builtin.append_ #[t, t] ty #[v, x]).run P w = .ok v' w' ∧ Adv R B g w W [n] R B g' w' ∧ RC P w' R B g' (.loc n 0 (els.length + els2.length)) v' ∧ ROw P w' R B g' n e ((els ++ els2).map (·.map (junkC [n]))) := by
  obtain ⟨i, hi1, hi2, hi3, hi4⟩ := hz.parts
  have hsz : szP P e = s := hz.sz
  have hlimn : els.length + els2.length ≤ 2147483648 := hlim
  -- the target owns its row
  have hown : ∃ xs, w.ownsRow 0 e s v els.length xs ∧ RelC P w R B g els.flatten xs ∧ (∀ cs ∈ els, cs.length = s) ∧ (∀ b, v.ownBlock = some b → g n = .blk b) := by
    rcases hv with ⟨rfl, rfl⟩ | ⟨hv1, hv2⟩
    · exact ⟨[], World.ownsRow_nil w 0 e s, ⟨rfl, fun k x hk => by simp at hk⟩, fun cs hcs => by simp at hcs, fun b hb => by simp [Value.ownBlock] at hb⟩
    · obtain ⟨_, hv1⟩ := hv1
      rcases hv1 with ⟨h1, _, h3, h4⟩ | ⟨_, h2, _⟩ | ⟨b, cap, cur, e', k1, k2, k3, k4, k5, k6⟩
      · have : els = [] := List.eq_nil_of_length_eq_zero h3
        subst this
        subst h4
        exact ⟨[], World.ownsRow_nil w 0 e s, ⟨rfl, fun k x hk => by simp at hk⟩, fun cs hcs => by simp at hcs, fun b hb => by simp [Value.ownBlock] at hb⟩
      · exact absurd rfl h2
      · obtain ⟨hl, cur', h5, h6, h7⟩ := hv2.flat (by rw [hsz]; exact hs) k1
        rw [k2] at h5
        injection h5 with h5
        injection h5 with h5 h8 h9
        subst h5
        subst h8
        rw [hsz] at h7 h6 hl k5
        have hk6 : v = .slice (some ⟨b, 0, none⟩) els.length cap := by simpa using k6
        refine ⟨_, ⟨?_, .inr ⟨b, cap, cur, hk6, Nat.zero_le _, k2, k3, by omega, by simpa using k5.symm, rfl⟩⟩, h7, hl, fun b' hb' => ?_⟩
        · simp; omega
        · rw [hk6] at hb'
          simp [Value.ownBlock] at hb'
          rw [← hb']; exact k1
  obtain ⟨xs, hown, hrelx, hlx, hblk⟩ := hown
  obtain ⟨A, c, rfl, news, hreln, hcell⟩ := hx
  have hnl : news.length = els2.length * s := by rw [hreln.1, flat_length els2 hl2]
  -- the run
  have hrun : ∃ v' w', (Builtin.append_ #[t, t] ty #[v, .slice A els2.length c]).run P w = .ok v' w' ∧ w'.ownsRow 0 e s v' (els.length + els2.length) (xs ++ news) ∧ w.grownBy w' v.ownBlock ∧
      (v'.ownBlock = v.ownBlock ∨ v'.ownBlock = some w.heap.size) := by
    cases A with
    | none =>
      have hn0 : news = [] := by
        cases news with
        | nil => rfl
        | cons u r =>
          obtain ⟨ad, h, _⟩ := hcell 0 u rfl
          cases h
      have h20 : els2.length = 0 := by
        rw [hn0] at hnl
        rcases Nat.mul_eq_zero.1 hnl.symm with h | h
        · exact h
        · omega
      refine ⟨v, w, ?_, by rw [hn0, h20]; simpa using hown, World.grownBy.refl w _, .inl rfl⟩
      rw [h20]
      rcases hown.2 with ⟨rfl, _⟩ | ⟨b, cap, cur, rfl, _, _, hnc, _⟩
      · exact run_append_none ht hi1 none 0 0 c (Nat.le_refl _) w
      · exact run_append_none ht hi1 _ _ _ c hnc w
    | some ad =>
      have hc : ∀ j u, news[j]? = some u → w.cell? (ad.add j) = some u := fun j u hu => by
        obtain ⟨ad', h, hc⟩ := hcell j u hu
        injection h with h
        subst h
        exact hc
      obtain ⟨v', w', h1, h2, h3, _, h5⟩ := run_append_own_at (P := P) w 0 t ty e i z s by_ ht hi1 hi2 hi3 hi4 hzs hs v els.length xs hown ad els2.length c news hnl hc hreln.one
        (by simp only [maxLen]; omega) (by
          have : (els.length + els2.length) * by_ ≤ 2147483648 * 65536 := Nat.mul_le_mul hlimn hb
          omega) (Nat.zero_le _)
      exact ⟨v', w', h1, h2, h3, h5⟩
  obtain ⟨v', w', hr1, hr2, hr3, hr4⟩ := hrun
  have hvW : ∀ b, v.ownBlock = some b → W = [n] := fun b hb => by
    rcases hW with h | ⟨h, _⟩
    · exact h
    · rw [h] at hb; simp [Value.ownBlock] at hb
  have hheap : ∀ k, k < w.heap.size → (∀ m ∈ W, ¬ (g m).has k) → w'.heap[k]? = w.heap[k]? := fun k hk hkW => hr3.block k hk fun e => by
    have h1 := hblk k e.symm
    have h2 := hvW k e.symm
    exact hkW n (by rw [h2]; exact List.mem_cons_self) (GS.has_blk h1)
  have hl12 : ∀ cs ∈ els ++ els2, cs.length = s := fun cs hcs => (List.mem_append.1 hcs).elim (hlx cs) (hl2 cs)
  rcases hr2.2 with ⟨h1, h2⟩ | ⟨b2, cap, cur, h1, _, h3, h4, h5, h6, h7⟩
  · -- still nil
    have he1 : els = [] := List.eq_nil_of_length_eq_zero (by omega)
    have he2 : els2 = [] := List.eq_nil_of_length_eq_zero (by omega)
    subst he1
    subst he2
    refine ⟨v', upd g n .nil, w', hr1, ?_, ⟨by rw [h1]; rfl, .inl ⟨upd_same .., rfl, rfl, h1⟩⟩, .inl ⟨upd_same .., rfl⟩⟩
    refine ⟨hw.upd n _ hr3.size (fun b hb => hb.elim) (fun j k b hj => by cases hj), fun _ h => h, fun _ h => h, hr3.os, hr3.tape, hr3.output, hr3.size, hheap, fun k hk => upd_ne g _ (by simpa using hk), fun k hk b hb => ?_, fun k hkW hkX => ?_⟩
    · have : k = n := by simpa using hk
      subst this
      rw [upd_same] at hb; exact hb.elim
    · rcases hW with h | ⟨_, h⟩
      · rw [h] at hkW; exact absurd (by simpa using hkW) hkX
      · rw [h] at hkW; cases hkW
  · -- a row
    have hb2 : (g n = .blk b2) ∨ w.heap.size ≤ b2 := by
      rw [h1] at hr4
      simp only [Value.ownBlock] at hr4
      rcases hr4 with h | h
      · exact .inl (hblk b2 h.symm)
      · injection h with h
        exact .inr (by omega)
    have hb2W : w.heap.size ≤ b2 ∨ ∃ m ∈ W, (g m).has b2 := by
      rw [h1] at hr4
      simp only [Value.ownBlock] at hr4
      rcases hr4 with h | h
      · exact .inr ⟨n, by rw [hvW b2 h.symm]; exact List.mem_cons_self, GS.has_blk (hblk b2 h.symm)⟩
      · injection h with h
        exact .inl (by omega)
    have hb2lt : b2 < w'.heap.size := (Array.getElem?_eq_some_iff.1 h3).1
    have had : Adv R B g w W [n] R B (upd g n (.blk b2)) w' := by
      have hother : ∀ q, q ≠ n → ¬ (g q).has b2 := fun q hq hg => by
        rcases hb2 with h | h
        · exact hq (hw.injH q n b2 hg (GS.has_blk h))
        · exact absurd (hw.ownH q b2 hg).2 (by omega)
      refine ⟨hw.upd n _ hr3.size (fun b hb => ?_) GS.nd_blk, fun _ h => h, fun _ h => h, hr3.os, hr3.tape, hr3.output, hr3.size, hheap, fun k hk => upd_ne g _ (by simpa using hk), fun k hk b hb => ?_, fun k hkW hkX => ?_⟩
      · have hb : b = b2 := hb
        subst hb
        refine ⟨fun hB => ?_, hb2lt, hother⟩
        rcases hb2 with h | h
        · exact (hw.own n b h).1 hB
        · exact absurd (hw.lt b hB) (by omega)
      · have : k = n := by simpa using hk
        subst this
        rw [upd_same] at hb
        have hb : b = b2 := hb
        subst hb
        exact hb2W
      · rcases hW with h | ⟨_, h⟩
        · rw [h] at hkW; exact absurd (by simpa using hkW) hkX
        · rw [h] at hkW; cases hkW
    refine ⟨v', _, w', hr1, had, ⟨by rw [h1]; rfl, .inr (.inr ⟨b2, cap, cur, e, upd_same .., h3, h4, by omega, by rw [hsz]; simpa using h6.symm, by simpa using h1⟩)⟩, ?_⟩
    have hk1 := (hrelx.keep had hw)
    have hk2 := (hreln.keep had hw)
    refine ROw.of_flat (upd_same ..) (fun cs hcs => ?_) h3 ?_ ?_
    · obtain ⟨c0, hc0, rfl⟩ := List.mem_map.1 hcs
      rw [hsz]; simpa using hl12 c0 hc0
    · rw [hsz]
      simp only [List.length_map, List.length_append]
      rw [h6]
      exact Nat.mul_le_mul_right _ h4
    · rw [hsz]
      simp only [List.length_map, List.length_append]
      rw [h7, ← List.map_flatten, List.flatten_append, List.map_append]
      refine ⟨by simp [hk1.1, hk2.1, hrelx.1, hreln.1], fun k x hk => ?_⟩
      rw [List.getElem?_append] at hk ⊢
      have hlen : xs.length = (els.flatten.map (junkC [n])).length := hk1.1
      rw [hlen]
      split at hk
      · rename_i hlt
        rw [if_pos hlt]
        exact hk1.2 k x hk
      · rename_i hlt
        rw [if_neg hlt]
        exact hk2.2 _ x hk

/-- append: the general form -/
theorem LT.append {o : Oper} {ins : List (Operand × AV)} {us : Mem} {t e : TypeId} {x y : Operand} {n : Nat} {els els2 : List (List CV)} {z : Value} {s by_ : Nat} {W : List Nat} (ho : o.op = .call { callee := .builtin .append, args := #[x, y], argTypes := #[t, t] })
    (ht : P.underlying t = some (.slice e)) (hz : TI P e z s by_) (hzs : z.cells.size = s) (hs : 0 < s) (hb : by_ ≤ 65536) (hl2 : ∀ cs ∈ els2, cs.length = s) (hlim : els.length + els2.length ≤ LIM)
    (h : ∀ R B g w (a : Act), WF R B g w → (∀ p ∈ ins, RA P w R B g p.2 (a.eval p.1)) → (∀ p ∈ us, RO P w R B g p.1 p.2) → TgtV P w R B g n e (a.eval x) els ∧ SrcV P w R B g (a.eval y) els2 s ∧ (W = [n] ∨ (a.eval x = nilV ∧ W = []))) :
    LT P o ins us (Cc (.loc n 0 (els.length + els2.length))) [(n, .row e ((els ++ els2).map (·.map (junkC [n]))))] W [n] := by
  intro R B g w a hw hi hu K Q hK
  obtain ⟨h1, h2, h3⟩ := h R B g w a hw hi hu
  obtain ⟨v', g', w', hr, had, hv, hro⟩ := run_append (ty := o.type) ht hz hzs hs hb hw hl2 h1 h2 hlim W h3
  unfold Oper.wp execOp
  simp only [ho, resolve, invoke, builtin, Sem.run_bind, Sem.run_pure, Result.andThen_ok, List.map_toArray, List.map_cons, List.map_nil, hr]
  exact hK v' R B g' w' had (fun b hb => .inl hb) (fun _ => hv) (one_ro hro)

section
variable {o : Oper} {t e : TypeId} {x y : Operand} {n n2 : Nat} {pels pels2 : List (List PV)} {z : Value} {s by_ : Nat} {q : Bool}
/-- own pure row, read-only source -/
theorem LT.appP_RO (ho : o.op = .call { callee := .builtin .append, args := #[x, y], argTypes := #[t, t] }) (ht : P.underlying t = some (.slice e)) (hz : TI P e z s by_) (hzs : z.cells.size = s) (hs : 0 < s) (hb : by_ ≤ 65536)
    (hl2 : ∀ cs ∈ pels2, cs.length = s) (hlim : pels.length + pels2.length ≤ LIM) :
    LT P o [(x, Cc (.loc n 0 pels.length)), (y, Cc (.pv (.xs q pels2)))] [(n, .prow e pels)] (Cc (.loc n 0 (pels.length + pels2.length))) [(n, .prow e (pels ++ pels2))] [n] [n] := by
  have := LT.append (P := P) (ins := [(x, Cc (.loc n 0 pels.length)), (y, Cc (.pv (.xs q pels2)))]) (us := [(n, .prow e pels)]) (n := n) (els := pvs pels) (els2 := pvs pels2) (W := [n]) ho ht hz hzs hs hb
    (fun cs hcs => by obtain ⟨c, hc, rfl⟩ := List.mem_map.1 hcs; simpa using hl2 c hc) (by simpa [pvs] using hlim)
    (fun R B g w a hw hi hu => ⟨.inr ⟨by rw [pvs_length]; exact in1 hi, us1 hu⟩, srcRO hs hl2 (in2 hi), .inl rfl⟩)
  have h2 : LT P o [(x, Cc (.loc n 0 pels.length)), (y, Cc (.pv (.xs q pels2)))] [(n, .prow e pels)] (Cc (.loc n 0 (pels.length + pels2.length))) [(n, .row e ((pvs (pels ++ pels2)).map (·.map (junkC [n]))))] [n] [n] := by
    simpa [pvs] using this
  exact h2.dfP
/-- own pure row, own pure source -/
theorem LT.appP_P (ho : o.op = .call { callee := .builtin .append, args := #[x, y], argTypes := #[t, t] }) (ht : P.underlying t = some (.slice e)) (hz : TI P e z s by_) (hzs : z.cells.size = s) (hs : 0 < s) (hb : by_ ≤ 65536)
    (hl2 : ∀ cs ∈ pels2, cs.length = s) (hlim : pels.length + pels2.length ≤ LIM) :
    LT P o [(x, Cc (.loc n 0 pels.length)), (y, Cc (.loc n2 0 pels2.length))] [(n, .prow e pels), (n2, .prow e pels2)] (Cc (.loc n 0 (pels.length + pels2.length))) [(n, .prow e (pels ++ pels2))] [n] [n] := by
  have := LT.append (P := P) (ins := [(x, Cc (.loc n 0 pels.length)), (y, Cc (.loc n2 0 pels2.length))]) (us := [(n, .prow e pels), (n2, .prow e pels2)]) (n := n) (els := pvs pels) (els2 := pvs pels2) (W := [n]) ho ht hz hzs hs hb
    (fun cs hcs => by obtain ⟨c, hc, rfl⟩ := List.mem_map.1 hcs; simpa using hl2 c hc) (by simpa [pvs] using hlim)
    (fun R B g w a hw hi hu => ⟨.inr ⟨by rw [pvs_length]; exact in1 hi, us1 hu⟩, by
      have := srcLoc (els := pvs pels2) (by rw [hz.sz]; exact hs) (by rw [pvs_length]; exact in2 hi) (us2 hu)
      rwa [hz.sz] at this, .inl rfl⟩)
  have h2 : LT P o [(x, Cc (.loc n 0 pels.length)), (y, Cc (.loc n2 0 pels2.length))] [(n, .prow e pels), (n2, .prow e pels2)] (Cc (.loc n 0 (pels.length + pels2.length))) [(n, .row e ((pvs (pels ++ pels2)).map (·.map (junkC [n]))))] [n] [n] := by
    simpa [pvs] using this
  exact h2.dfP
/-- nil, read-only source -/
theorem LT.appN_RO (ho : o.op = .call { callee := .builtin .append, args := #[x, y], argTypes := #[t, t] }) (ht : P.underlying t = some (.slice e)) (hz : TI P e z s by_) (hzs : z.cells.size = s) (hs : 0 < s) (hb : by_ ≤ 65536)
    (hl2 : ∀ cs ∈ pels2, cs.length = s) (hlim : pels2.length ≤ LIM) :
    LT P o [(x, Sv nilV), (y, Cc (.pv (.xs q pels2)))] [] (Cc (.loc n 0 pels2.length)) [(n, .prow e pels2)] [] [n] := by
  have := LT.append (P := P) (ins := [(x, Sv nilV), (y, Cc (.pv (.xs q pels2)))]) (us := []) (n := n) (els := []) (els2 := pvs pels2) (W := []) ho ht hz hzs hs hb
    (fun cs hcs => by obtain ⟨c, hc, rfl⟩ := List.mem_map.1 hcs; simpa using hl2 c hc) (by simpa [pvs] using hlim)
    (fun R B g w a hw hi hu => ⟨.inl ⟨sc_inv (in1 hi), rfl⟩, srcRO hs hl2 (in2 hi), .inr ⟨sc_inv (in1 hi), rfl⟩⟩)
  have h2 : LT P o [(x, Sv nilV), (y, Cc (.pv (.xs q pels2)))] [] (Cc (.loc n 0 pels2.length)) [(n, .row e ((pvs pels2).map (·.map (junkC [n]))))] [] [n] := by
    simpa [pvs] using this
  exact h2.dfP
/-- nil, own pure source -/
theorem LT.appN_P (ho : o.op = .call { callee := .builtin .append, args := #[x, y], argTypes := #[t, t] }) (ht : P.underlying t = some (.slice e)) (hz : TI P e z s by_) (hzs : z.cells.size = s) (hs : 0 < s) (hb : by_ ≤ 65536)
    (hl2 : ∀ cs ∈ pels2, cs.length = s) (hlim : pels2.length ≤ LIM) :
    LT P o [(x, Sv nilV), (y, Cc (.loc n2 0 pels2.length))] [(n2, .prow e pels2)] (Cc (.loc n 0 pels2.length)) [(n, .prow e pels2)] [] [n] := by
  have := LT.append (P := P) (ins := [(x, Sv nilV), (y, Cc (.loc n2 0 pels2.length))]) (us := [(n2, .prow e pels2)]) (n := n) (els := []) (els2 := pvs pels2) (W := []) ho ht hz hzs hs hb
    (fun cs hcs => by obtain ⟨c, hc, rfl⟩ := List.mem_map.1 hcs; simpa using hl2 c hc) (by simpa [pvs] using hlim)
    (fun R B g w a hw hi hu => ⟨.inl ⟨sc_inv (in1 hi), rfl⟩, by
      have := srcLoc (els := pvs pels2) (by rw [hz.sz]; exact hs) (by rw [pvs_length]; exact in2 hi) (us1 hu)
      rwa [hz.sz] at this, .inr ⟨sc_inv (in1 hi), rfl⟩⟩)
  have h2 : LT P o [(x, Sv nilV), (y, Cc (.loc n2 0 pels2.length))] [(n2, .prow e pels2)] (Cc (.loc n 0 pels2.length)) [(n, .row e ((pvs pels2).map (·.map (junkC [n]))))] [] [n] := by
    simpa [pvs] using this
  exact h2.dfP
end

end
end Go.Fw
