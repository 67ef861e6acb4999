/- The framework, part 10: the operations over typed rows; nil slices as own rows; other names in a state. -/
import Derived.Test.YtfiiebikkimjbaaFw9
set_option linter.unusedVariables false
set_option linter.unusedSimpArgs false
set_option linter.unnecessarySimpa false
namespace Go.Fw
section
variable {P : Program} {o : Oper} {α : Type} {enc : α → List PV}

theorem LT.tlenRO {x : Operand} {t e : TypeId} {q : Bool} {xs : List α} (ho : o.op = .call { callee := .builtin .len, args := #[x], argTypes := #[t] }) (ht : P.underlying t = some (.slice e)) :
    LT P o [(x, Cc (.pv (.xs q (xs.map enc))))] [] (Iv xs.length) [] [] [] := by
  have := LT.lenRO (P := P) (o := o) (q := q) (els := xs.map enc) ho ht
  rwa [List.length_map] at this

theorem LT.tindexRO {x y : Operand} {t e : TypeId} {i : Int} {q : Bool} {xs : List α} {b : α} (ho : o.op = .indexAddr t x y) (h : elB P t = some e) (hi : idx xs i = some b) (hs : szP P e = (enc b).length) :
    LT P o [(x, Cc (.pv (.xs q (xs.map enc)))), (y, Iv i)] [] (Cc (.px q (enc b))) [] [] [] :=
  LT.indexRO ho h (idx_nn hi) (by rw [List.getElem?_map, idx_get hi]; rfl) hs.symm
theorem LT.tindexLoc {x y : Operand} {t e : TypeId} {i : Int} {n len : Nat} {xs : List α} {b : α} (hl : len = xs.length) (ho : o.op = .indexAddr t x y) (h : elB P t = some e) (hi : idx xs i = some b) :
    LT P o [(x, Cc (.loc n 0 len)), (y, Iv i)] [(n, .prow e (xs.map enc))] (Cc (.pl n (i.toNat * szP P e))) [] [] [] := by
  subst hl
  exact LT.usP (LT.indexLoc ho h (idx_nn hi) (idx_lt hi))
theorem LT.indexPl {x y : Operand} {t e : TypeId} {i : Int} {n len : Nat} {els : List (List PV)} (ho : o.op = .indexAddr t x y) (h : elB P t = some e) (h0 : 0 ≤ i) (h1 : i < len) :
    LT P o [(x, Cc (.loc n 0 len)), (y, Iv i)] [(n, .prow e els)] (Cc (.pl n (i.toNat * szP P e))) [] [] [] := LT.usP (LT.indexLoc ho h h0 h1)

theorem pvs_get {xs : List α} {i : Int} {b : α} (hi : idx xs i = some b) : (pvs (xs.map enc))[i.toNat]? = some ((enc b).map .pv) := by
  simp [pvs, List.getElem?_map, idx_get hi]
theorem LT.tload1 {x : Operand} {t e : TypeId} {n off k : Nat} {i : Int} {xs : List α} {b : α} {p : PV} (ho : o.op = .load t x) (h : agB P t = some false) (hi : idx xs i = some b) (hk : (enc b)[k]? = some p)
    (ha : off = i.toNat * szP P e + k) : LT P o [(x, Cc (.pl n off))] [(n, .prow e (xs.map enc))] (Cc (.pv p)) [] [] [] :=
  LT.usP (LT.loadPl1 ho h (pvs_get hi) (by rw [List.getElem?_map, hk]; rfl) ha)
theorem LT.tloadN {x : Operand} {t e : TypeId} {n off s : Nat} {i : Int} {xs : List α} {b : α} {it : TypeInfo} (ho : o.op = .load t x) (h : agB P t = some true) (hit : P.info? t = some it) (hs : szP P t = s) (hi : idx xs i = some b) (hl : (enc b).length = s)
    (ha : off = i.toNat * szP P e) : LT P o [(x, Cc (.pl n off))] [(n, .prow e (xs.map enc))] (Ag ((enc b).map .pv)) [] [] [] := by
  have hd : ((((enc b).map CV.pv).drop 0).take (szP P t)) = (enc b).map CV.pv := by
    rw [List.drop_zero, List.take_of_length_le]
    rw [List.length_map, hl, hs]; exact Nat.le_refl _
  have := LT.loadPlN (P := P) (o := o) (n := n) (e := e) (k := 0) ho h hit (pvs_get (enc := enc) hi) ha (by rw [hd, List.length_map, hl, hs])
  rw [hd] at this
  exact LT.usP this

/-- a box: a row of one element -/
theorem LT.bload1 {x : Operand} {t e : TypeId} {n off : Nat} {cs : List CV} {c : CV} (ho : o.op = .load t x) (h : agB P t = some false) (hk : cs[off]? = some c) : LT P o [(x, Cc (.pl n off))] [(n, .row e [cs])] (Cc c) [] [] [] :=
  LT.loadPl1 (j := 0) ho h rfl hk (by rw [Nat.zero_mul, Nat.zero_add])
theorem LT.bloadN {x : Operand} {t e : TypeId} {n off s : Nat} {cs out : List CV} {it : TypeInfo} (ho : o.op = .load t x) (h : agB P t = some true) (hit : P.info? t = some it) (hs : szP P t = s) (ho2 : (cs.drop off).take s = out) (hl : out.length = s) :
    LT P o [(x, Cc (.pl n off))] [(n, .row e [cs])] (Ag out) [] [] [] := by
  have hd : ((cs.drop off).take (szP P t)) = out := by rw [hs, ho2]
  have := LT.loadPlN (P := P) (o := o) (n := n) (off := off) (e := e) (els := [cs]) (j := 0) (k := off) ho h hit rfl (by rw [Nat.zero_mul, Nat.zero_add]) (by rw [hd, hl, hs])
  rwa [hd] at this
theorem LT.bstore {t e : TypeId} {n off s : Nat} {x y : Operand} {cs out : List CV} {v : SV} {it : TypeInfo} (ho : o.op = .store t x y) (hd : o.dst = none) (hit : P.info? t = some it) (hs : szP P t = s) (hl : (svCells v).length = s) (hk : off + s ≤ cs.length)
    (hout : ow cs off (svCells v) = out) : LT P o [(x, Cc (.pl n off)), (y, .s v)] [(n, .row e [cs])] (.tup []) [(n, .row e [out])] [n] [] := by
  have := LT.store (P := P) (o := o) (n := n) (off := off) (e := e) (els := [cs]) (j := 0) (k := off) ho hd hit hs hl rfl (by rw [Nat.zero_mul, Nat.zero_add]) hk
  subst hout
  exact this

theorem LT.tstore {t e : TypeId} {n off k s : Nat} {x y : Operand} {i : Int} {xs : List α} {b b' : α} {v : SV} {it : TypeInfo} (ho : o.op = .store t x y) (hd : o.dst = none) (hit : P.info? t = some it) (hs : szP P t = s) (hl : (svCells v).length = s) (hi : idx xs i = some b)
    (ha : off = i.toNat * szP P e + k) (hk : k + s ≤ (enc b).length) (hb : ow ((enc b).map .pv) k (svCells v) = (enc b').map .pv) :
    LT P o [(x, Cc (.pl n off)), (y, .s v)] [(n, .prow e (xs.map enc))] (.tup []) [(n, .prow e ((xs.set i.toNat b').map enc))] [n] [] := by
  have := LT.store (P := P) (o := o) (n := n) (off := off) (e := e) (els := pvs (xs.map enc)) ho hd hit hs hl (pvs_get hi) ha (by simpa using hk)
  have e1 : (pvs (xs.map enc)).set i.toNat (ow ((enc b).map .pv) k (svCells v)) = pvs ((xs.set i.toNat b').map enc) := by
    rw [hb]
    simp [pvs, List.map_set]
  rw [e1] at this
  exact LT.dfP (Y := []) (LT.usP (by rw [pvs_junk]; exact this))

/-! ### append -/
section
variable {t e : TypeId} {x y : Operand} {n n2 len len2 : Nat} {xs ys : List α} {z : Value} {s by_ : Nat} {q : Bool}
theorem enc_len (h : ∀ a, (enc a).length = s) : ∀ cs ∈ ys.map enc, cs.length = s := fun cs hcs => by
  obtain ⟨a, _, rfl⟩ := List.mem_map.1 hcs
  exact h a
theorem LT.tappRO (hl : len = xs.length) (ho : o.op = .call { callee := .builtin .append, args := #[x, y], argTypes := #[t, t] }) (ht : P.underlying t = some (.slice e)) (hz : TI P e z s by_) (hzs : z.cells.size = s) (hs : 0 < s) (hb : by_ ≤ 65536)
    (hl2 : ∀ a, (enc a).length = s) (hlim : xs.length + ys.length ≤ LIM) :
    LT P o [(x, Cc (.loc n 0 len)), (y, Cc (.pv (.xs q (ys.map enc))))] [(n, .prow e (xs.map enc))] (Cc (.loc n 0 (xs ++ ys).length)) [(n, .prow e ((xs ++ ys).map enc))] [n] [n] := by
  subst hl
  have := LT.appP_RO (P := P) (o := o) (n := n) (q := q) (pels := xs.map enc) (pels2 := ys.map enc) ho ht hz hzs hs hb (enc_len hl2) (by simpa using hlim)
  rwa [List.length_map, List.length_map, ← List.map_append, ← List.length_append] at this
theorem LT.tappP (hl : len = xs.length) (hl2 : len2 = ys.length) (ho : o.op = .call { callee := .builtin .append, args := #[x, y], argTypes := #[t, t] }) (ht : P.underlying t = some (.slice e)) (hz : TI P e z s by_) (hzs : z.cells.size = s) (hs : 0 < s) (hb : by_ ≤ 65536)
    (hel : ∀ a, (enc a).length = s) (hlim : xs.length + ys.length ≤ LIM) :
    LT P o [(x, Cc (.loc n 0 len)), (y, Cc (.loc n2 0 len2))] [(n, .prow e (xs.map enc)), (n2, .prow e (ys.map enc))] (Cc (.loc n 0 (xs ++ ys).length)) [(n, .prow e ((xs ++ ys).map enc))] [n] [n] := by
  subst hl; subst hl2
  have := LT.appP_P (P := P) (o := o) (n := n) (n2 := n2) (pels := xs.map enc) (pels2 := ys.map enc) ho ht hz hzs hs hb (enc_len hel) (by simpa using hlim)
  rwa [List.length_map, List.length_map, ← List.map_append, ← List.length_append] at this
theorem LT.tappNRO (ho : o.op = .call { callee := .builtin .append, args := #[x, y], argTypes := #[t, t] }) (ht : P.underlying t = some (.slice e)) (hz : TI P e z s by_) (hzs : z.cells.size = s) (hs : 0 < s) (hb : by_ ≤ 65536)
    (hl2 : ∀ a, (enc a).length = s) (hlim : ys.length ≤ LIM) :
    LT P o [(x, Sv nilV), (y, Cc (.pv (.xs q (ys.map enc))))] [] (Cc (.loc n 0 ys.length)) [(n, .prow e (ys.map enc))] [] [n] := by
  have := LT.appN_RO (P := P) (o := o) (n := n) (q := q) (pels2 := ys.map enc) ho ht hz hzs hs hb (enc_len hl2) (by simpa using hlim)
  rwa [List.length_map] at this
theorem LT.tappNP (hl2 : len2 = ys.length) (ho : o.op = .call { callee := .builtin .append, args := #[x, y], argTypes := #[t, t] }) (ht : P.underlying t = some (.slice e)) (hz : TI P e z s by_) (hzs : z.cells.size = s) (hs : 0 < s) (hb : by_ ≤ 65536)
    (hel : ∀ a, (enc a).length = s) (hlim : ys.length ≤ LIM) :
    LT P o [(x, Sv nilV), (y, Cc (.loc n2 0 len2))] [(n2, .prow e (ys.map enc))] (Cc (.loc n 0 ys.length)) [(n, .prow e (ys.map enc))] [] [n] := by
  subst hl2
  have := LT.appN_P (P := P) (o := o) (n := n) (n2 := n2) (pels2 := ys.map enc) ho ht hz hzs hs hb (enc_len hel) (by simpa using hlim)
  rwa [List.length_map] at this
end

/-! ### new rows -/
theorem LT.tbuildSlice {t e : TypeId} {len n : Nat} {parts : Array (Nat × Operand)} (ps : Parts) {z : Value} {s b : Nat} {zc : List CV} (xs : List α) (ho : o.op = .buildSlice t len parts) (hps : parts.toList = Parts.ops ps) (he : P.underlying t = some (.slice e)) (hz : TI P e z s b)
    (hzc : z.cells.toList.map sC = zc) (h1 : z.cells.toList.all (·.oneCell') = true) (hsz : zc.length = s) (hlen : xs.length = len) (hmax : len * s ≤ 16777216 ∧ 0 < s) (hel : ∀ a, (enc a).length = s)
    (hf : fillC (fun i => some (i * s, s)) ((List.range (len * s)).map fun i => zc.getD (i % s) .junk) (Parts.vals ps) = some (pvs (xs.map enc)).flatten) :
    LT P o (Parts.ins ps) [] (Cc (.loc n 0 xs.length)) [(n, .prow e (xs.map enc))] [] [n] := by
  have hlen' : (pvs (xs.map enc)).length = xs.length := by simp [pvs]
  have := LT.buildSlice (P := P) (o := o) (n := n) ps (els := pvs (xs.map enc)) ho hps he hz hzc h1 hsz (hlen'.trans hlen) hmax (by
    refine List.all_eq_true.2 fun cs hcs => ?_
    obtain ⟨c, hc, rfl⟩ := List.mem_map.1 hcs
    obtain ⟨a, _, rfl⟩ := List.mem_map.1 hc
    rw [List.length_map, hel a]
    exact Nat.beq_refl s) hf
  rw [hlen'] at this
  exact this.dfP
theorem LT.tmake {t e : TypeId} {n : Nat} {x y : Operand} {len : Int} {z : Value} {s b : Nat} {zc : List CV} (a : α) (ho : o.op = .makeSlice t x y) (he : P.underlying t = some (.slice e)) (hz : TI P e z s b)
    (hzc : z.cells.toList.map sC = zc) (h1 : z.cells.toList.all (·.oneCell') = true) (hsz : zc.length = s) (hs : 0 < s) (hb : b ≤ 65536) (hl : 0 ≤ len ∧ len ≤ LIM) (ha : (enc a).map .pv = zc) :
    LT P o [(x, Iv len), (y, Iv len)] [] (Cc (.loc n 0 (List.replicate len.toNat a).length)) [(n, .prow e ((List.replicate len.toNat a).map enc))] [] [n] := by
  have := LT.makeSlice (P := P) (o := o) (n := n) (x := x) (y := y) ho he hz hzc h1 hsz hs hb hl
  have e1 : List.replicate len.toNat zc = pvs ((List.replicate len.toNat a).map enc) := by simp [pvs, List.map_replicate, ha]
  have e2 : (List.replicate len.toNat zc).length = (List.replicate len.toNat a).length := by simp
  rw [e2, e1] at this
  exact this.dfP

/-! ### calls -/
theorem ShC.tloc {sh : Mem} {n len : Nat} {e : TypeId} {xs : List α} (hl : len = xs.length) (h : lk sh n = some (.prow e (xs.map enc))) : ShC sh (.loc n 0 len) (.pv (.xs false (xs.map enc))) := by
  subst hl
  have := ShC.loc h
  rwa [List.length_map] at this
def JunkL (X : List Nat) : Mem → Prop
  | [] => True
  | (_, o) :: r => junkO X o = o ∧ JunkL X r
theorem JunkL.spec {X : List Nat} : ∀ {us : Mem}, JunkL X us → ∀ p ∈ us, junkO X p.2 = p.2
  | [], _, p, hp => by cases hp
  | (n, o) :: r, h, p, hp => by
    cases hp with
    | head => exact h.1
    | tail _ hp => exact JunkL.spec h.2 p hp
theorem LT.callF {cf : Operand} {f : FuncId} {ops : Array Operand} {ts : Array TypeId} {xs ys : List SV} {us sh df : Mem} {v : AV} {W X : List Nat} (hf : Fn P f ys us v df W X)
    (ho : o.op = .call { callee := .value cf, args := ops, argTypes := ts }) (hb : callB P f = true) (hsh : ShA sh xs ys) (hlen : ops.size = xs.length)
    (hside : (disL (keys sh) (W ++ X ++ keys us ++ keys df ++ []) && subL W (keys us)) = true) (hus : JunkL (keys sh) us) : LT P o ((cf, Cc (.fn f [])) :: zipOps ops.toList xs) (us ++ sh) v df W X :=
  LT.call (caps := []) (by rw [List.map_nil, List.append_nil]; exact hf) ho hb hlen hsh hside hus.spec
end

/-! ### a nil slice is an own row -/
section
variable {P : Program} {C : Ctx} {σ : Slots} {m : Mem}
theorem St.nilName {R B : Nat → Prop} {g : Nat → GS} {a : Act} {w : World} (hs : St P C σ m R B g a w) (n : Nat) (hn : n ∉ C.pn) (e : TypeId) : St P C (junkSl [n] σ) ((n, .prow e []) :: junkM [n] m) R B (upd g n .nil) a w := by
  have had : Adv R B g w [] [n] R B (upd g n .nil) w := by
    refine ⟨hs.wf.upd n _ (Nat.le_refl _) (fun b hb => hb.elim) (fun i j b hi => by cases hi), fun _ h => h, fun _ h => h, rfl, rfl, rfl, Nat.le_refl _, fun _ _ _ => rfl, fun k hk => upd_ne g _ (by simpa using hk), fun k hk b hb => ?_, fun k hk => by cases hk⟩
    · have : k = n := by simpa using hk
      subst this
      rw [upd_same] at hb; exact hb.elim
  exact hs.step (us := []) (df := [(n, .prow e [])]) (W := []) (X := [n]) (d := none) (v := .tup []) (u := undef) trivial (fun _ h => by cases h) (fun p hp => by
      have : p = (n, .prow e []) := by simpa using hp
      subst this; exact .inl (by simp)) rfl (fun k hk => by
      have : k = n := by simpa using hk
      subst this; exact hn) had (fun b hb => .inl hb) (fun h => by cases h) (one_ro (.inl ⟨upd_same .., rfl⟩))

/-- a slot that holds nil -/
theorem Ent.nilS (t n : Nat) (e : TypeId) (hn : C.pn.elem n = false) (h : lk σ t = some (Sv nilV)) : Ent P C σ m ((t, Cc (.loc n 0 0)) :: junkSl [n] σ) ((n, .prow e []) :: junkM [n] m) := fun R B g a w hs => by
  have h1 := hs.nilName n (notin_of_elem hn) e
  refine ⟨R, B, _, { h1 with sl := fun k v hk => ?_ }⟩
  change (bif Nat.beq t k then some (Cc (.loc n 0 0)) else lk (junkSl [n] σ) k) = some v at hk
  cases hb : Nat.beq t k with
  | false => rw [hb] at hk; exact h1.sl k v hk
  | true =>
    rw [hb, cond_true] at hk
    injection hk with hk
    subst hk
    have := Nat.eq_of_beq_eq_true hb
    subst this
    have h2 := sc_inv (hs.sl t _ h)
    show RC P w R B _ _ _
    rw [h2]
    exact ⟨rfl, .inl ⟨upd_same .., rfl, rfl, rfl⟩⟩

def nilAt (n k : Nat) (cs : List CV) : List CV := cs.set k (.loc n 0 0)
theorem nilAt_rel {w : World} {R B : Nat → Prop} {g : Nat → GS} {n k : Nat} {cs : List CV} {us : Nat → Option Value} (hg : g n = .nil) (hk : cs[k]? = some (sC nilV)) (h : ∀ (j : Nat) x, cs[j]? = some x → ∃ u, us j = some u ∧ RC P w R B g x u) :
    ∀ (j : Nat) x, (nilAt n k cs)[j]? = some x → ∃ u, us j = some u ∧ RC P w R B g x u := fun j x hj => by
  unfold nilAt at hj
  rw [List.getElem?_set] at hj
  by_cases hkj : k = j
  · subst hkj
    have hlt : k < cs.length := (List.getElem?_eq_some_iff.1 hk).1
    rw [if_pos rfl, if_pos hlt] at hj
    injection hj with hj
    subst hj
    obtain ⟨u, h1, h2⟩ := h k _ hk
    obtain ⟨_, h2⟩ := h2
    cases h2
    exact ⟨nilV, h1, rfl, .inl ⟨hg, rfl, rfl, rfl⟩⟩
  · rw [if_neg hkj] at hj
    exact h j x hj
theorem junk_nil_at {n k : Nat} {cs : List CV} (h : cs[k]? = some (sC nilV)) : (cs.map (junkC [n]))[k]? = some (sC nilV) := by rw [List.getElem?_map, h]; rfl

/-- a slot that holds cells, nil at the place k -/
theorem Ent.nilG (t k n : Nat) (e : TypeId) {cs : List CV} (hn : C.pn.elem n = false) (h : lk σ t = some (Ag cs)) (hk : cs[k]? = some (sC nilV)) : Ent P C σ m ((t, Ag (nilAt n k (cs.map (junkC [n])))) :: junkSl [n] σ) ((n, .prow e []) :: junkM [n] m) := fun R B g a w hs => by
  have h1 := hs.nilName n (notin_of_elem hn) e
  refine ⟨R, B, _, { h1 with sl := fun j v hj => ?_ }⟩
  change (bif Nat.beq t j then some (Ag (nilAt n k (cs.map (junkC [n])))) else lk (junkSl [n] σ) j) = some v at hj
  cases hb : Nat.beq t j with
  | false => rw [hb] at hj; exact h1.sl j v hj
  | true =>
    rw [hb, cond_true] at hj
    injection hj with hj
    subst hj
    have := Nat.eq_of_beq_eq_true hb
    subst this
    have h2 : RA P w R B (upd g n .nil) (Ag (cs.map (junkC [n]))) _ := h1.sl t _ (by rw [lk_junkSl, h]; rfl)
    obtain ⟨vs, h3, h4, h5⟩ := h2
    exact ⟨vs, h3, by simpa [nilAt] using h4, nilAt_rel (upd_same ..) (junk_nil_at hk) h5⟩

/-- a box, nil at the place k -/
theorem Ent.nilB (b k n : Nat) (e : TypeId) {t : TypeId} {cs : List CV} (hn : C.pn.elem n = false) (hbn : Nat.beq b n = false) (h : lk m b = some (.row t [cs])) (hk : cs[k]? = some (sC nilV)) :
    Ent P C σ m (junkSl [n] σ) ((b, .row t [nilAt n k (cs.map (junkC [n]))]) :: (n, .prow e []) :: junkM [n] m) := fun R B g a w hs => by
  have h1 := hs.nilName n (notin_of_elem hn) e
  have hne : b ≠ n := Nat.ne_of_beq_eq_false hbn
  have hlk : lk ((n, Ob.prow e []) :: junkM [n] m) b = some (.row t [cs.map (junkC [n])]) := by
    show (bif Nat.beq n b then some (Ob.prow e []) else lk (junkM [n] m) b) = _
    have hnb : Nat.beq n b = false := by
      cases hx : Nat.beq n b with
      | false => rfl
      | true => exact absurd (Nat.eq_of_beq_eq_true hx).symm hne
    rw [hnb, cond_false, lk_junkM', if_neg (by simpa using hne), h]
    rfl
  refine ⟨R, B, _, { h1 with ob := fun j o hj => ?_, ow := fun j o c hj hg => ?_ }⟩
  · change (bif Nat.beq b j then some (Ob.row t [nilAt n k (cs.map (junkC [n]))]) else lk ((n, Ob.prow e []) :: junkM [n] m) j) = some o at hj
    cases hb : Nat.beq b j with
    | false => rw [hb] at hj; exact h1.ob j o hj
    | true =>
      rw [hb, cond_true] at hj
      injection hj with hj
      subst hj
      have := Nat.eq_of_beq_eq_true hb
      subst this
      have h2 := h1.ob b _ hlk
      rcases h2 with ⟨_, h3⟩ | ⟨c, cur, h3, h4, h5, h6, h7⟩
      · cases h3
      · refine .inr ⟨c, cur, h3, h4, fun x hx => ?_, by simpa using h6, fun j k' x y hj hk' => ?_⟩
        · have : x = nilAt n k (cs.map (junkC [n])) := by simpa using hx
          subst this
          have := h5 (cs.map (junkC [n])) (by simp)
          simpa [nilAt] using this
        · cases j with
          | zero =>
            simp at hj
            subst hj
            exact nilAt_rel (us := fun k' => cur[0 * szP P t + k']?) (upd_same ..) (junk_nil_at hk) (fun q y hq => h7 0 q _ y rfl hq) k' y hk'
          | succ j => simp at hj
  · change (bif Nat.beq b j then some (Ob.row t [nilAt n k (cs.map (junkC [n]))]) else lk ((n, Ob.prow e []) :: junkM [n] m) j) = some o at hj
    cases hb : Nat.beq b j with
    | false => rw [hb] at hj; exact h1.ow j o c hj hg
    | true =>
      have := Nat.eq_of_beq_eq_true hb
      subst this
      exact h1.ow b _ c hlk hg
end
end Go.Fw
