/- Parts of a proof that a law of the program holds: what the program computes, and why that is right. -/
import Derived.Test.YtdmlaldifbmkpaaProg
import Derived.Test.YtdmlaldifbmkpaaZFnStresses3
section
set_option linter.unusedVariables false
set_option linter.unusedSimpArgs false
set_option linter.unnecessarySimpa false
open Go Go.Fw Go.Mx
namespace Go.Proofs.Ytdmlaldifbmkpaa
theorem aCh {f : aZ} (hv : vF f = true) (ha : apart f = false) : f.Graph.aB = [] := by
 have h := nO hv
 cases hb : f.Graph.aB with
 | nil => rfl
 | cons b l =>
  have hx : f.Graph.aB[0]? = some b := by rw [hb]; rfl
  have a0 := h.g.a0 hx
  have ab := h.g.ab hx
  have bp := h.g.bp hx
  have hd := h.dif hx
  unfold apart at ha
  rw [wX] at ha
  have hpl := h.nD
  have hA := ha b.A.toNat (by omega) (by omega)
  have Oz := ha b.B.toNat (by omega) (by omega)
  simp only [Bool.not_eq_false'] at hA Oz
  unfold here at hA Oz
  rw [show ((b.A.toNat : Nat) : Int) = b.A by omega] at hA
  rw [show ((b.B.toNat : Nat) : Int) = b.B by omega] at Oz
  obtain ⟨e1,e2⟩ := F7.1 hA
  obtain ⟨e3,e4⟩ := F7.1 Oz
  have := F7.2 ⟨e1.trans e3.symm,e2.trans e4.symm⟩
  rw [this] at hd
  cases hd
theorem Xc {f : aZ} {ld : List Int} (hb : pq f ld = true) (h : (bear f ld).2.2 = false) : ∀ v ∈ solved f ld,v.getD f.Graph.aB.length 0 = 0 := fun v hv => by
 apply Classical.byContradiction
 intro hne
 cases hs : (solved f ld).findSome? (sG f.Graph.aB.length) with
 | none =>
  have := List.findSome?_eq_none_iff.1 hs v hv
  unfold sG at this
  rw [if_neg hne] at this
  cases this
 | some q =>
  obtain ⟨v',hv1,hv2⟩ := TA hs
  unfold bear at h
  rw [hb,hs] at h
  unfold sG at hv2
  split at hv2
  ·cases hv2
  ·injection hv2 with hv2
   rw [← hv2] at h
   cases h
def yj (f : aZ) (ld : List Int) : dI := dA f ++ [ld]
theorem aCL (f : aZ) (ld : List Int) : (yj f ld).length = f.Graph.aB.length + 1 := by unfold yj; rw [List.length_append,jc]; rfl
theorem aHI (f : aZ) (ld : List Int) : jP f ld = turned (nC f) (yj f ld) := by
 apply List.ext_getElem
 ·rw [qm,kD]
 ·intro i h1 h2
  rw [qm] at h1
  have e1 : (jP f ld)[i]'(by rw [qm]; exact h1) = (jP f ld).getD i [] := by rw [List.getD_eq_getElem?_getD,List.getElem?_eq_getElem (by rw [qm]; exact h1)]; rfl
  have e2 : (turned (nC f) (yj f ld))[i]'h2 = (turned (nC f) (yj f ld)).getD i [] := by rw [List.getD_eq_getElem?_getD,List.getElem?_eq_getElem h2]; rfl
  rw [e1,e2,Gu h1,uJ h1,uJ h1]
  unfold yj
  rw [List.map_append]
  rfl
theorem aIb {f : aZ} {ld : List Int} (hb : pq f ld = true) (he : uf f ld = true) (hst : Qu f = true) : (bear f ld).2.2 = true := by
 cases hno : (bear f ld).2.2 with
 | true => rfl
 | false =>
  exfalso
  obtain ⟨hv,hL⟩ := Gn hb
  have H := hL.vf
  have tX := qP H
  have hl := H.len
  have p1 := H.g.p1
  have hpl := H.nD
  have hn : nC f = 2 * f.Places.length := by unfold nC; omega
  obtain ⟨hR,hT⟩ := LY hL
  have hz := Xc hb hno
  have hF := Dl (n := f.Graph.aB.length + 1) (by omega) (show (jP f ld).length ≤ 1000000 by rw [qm]; omega) hR hT
  -- the last column has a pivot
  have aFF : f.Graph.aB.length ∈ (dV (f.Graph.aB.length + 1) (jP f ld) (f.Graph.aB.length + 1)).piv := by
   apply Classical.byContradiction
   intro hnp
   have hrm := hF.rm (show f.Graph.aB.length < f.Graph.aB.length + 1 by omega)
   have hneg : ¬ 0 ≤ (jv (f.Graph.aB.length + 1) (dV (f.Graph.aB.length + 1) (jP f ld) (f.Graph.aB.length + 1)).piv (dV (f.Graph.aB.length + 1) (jP f ld) (f.Graph.aB.length + 1)).piv.length).getD f.Graph.aB.length 0 := by
    rcases hrm with ⟨i,hi,e1,_⟩ | ⟨_,e2⟩
    ·exact absurd (Eo.2 ⟨i,hi,e1⟩) hnp
    ·rw [e2]; omega
   have hmem : bG (vec (f.Graph.aB.length + 1) (nval (f.Graph.aB.length + 1) (dV (f.Graph.aB.length + 1) (jP f ld) (f.Graph.aB.length + 1)) f.Graph.aB.length)) ∈ solved f ld := by
    unfold solved nY
    refine (JH _).2 ⟨f.Graph.aB.length,by omega,?_⟩
    unfold uD
    rw [if_neg hneg]
    exact List.mem_cons_self
   have h0 := hz _ hmem
   rw [E8,dn _ (by omega)] at h0
   unfold nval at h0
   rw [if_pos rfl] at h0
   exact hF.nz h0
  have hTR : jE f.Graph.aB.length (turned (nC f) (dA f)) := by have := WM (nC f) (dA f); rwa [jc] at this
  have hlast := aHB hTR (T' := jP f ld) (by rw [qm,kD]) (fun i k hk => by
   by_cases hi : i < nC f
   ·unfold at2
    rw [Gu hi,List.getD_eq_getElem?_getD (l := _ ++ _),List.getElem?_append_left (by rw [uJ hi,List.length_map,jc]; exact hk),← List.getD_eq_getElem?_getD]
   ·rw [OM (by rw [qm]; omega),OM (by rw [kD]; omega)]) aFF
  have hrows := yX H
  have hr1 := WL hrows
  rw [jc] at hr1
  have hW : jE (nC f) (yj f ld) := fun i hi => by
   rw [aCL] at hi
   unfold yj
   by_cases e : i < f.Graph.aB.length
   ·rw [List.getD_eq_getElem?_getD,List.getElem?_append_left (by rw [jc]; exact e),← List.getD_eq_getElem?_getD]
    exact hrows i (by rw [jc]; exact e)
   ·rw [List.getD_eq_getElem?_getD,List.getElem?_append_right (by rw [jc]; omega),jc,show i - f.Graph.aB.length = 0 by omega]
    exact hL.len
  have hr2 := WL hW
  rw [aCL,← aHI] at hr2
  obtain ⟨V,hB⟩ := OQ hW
  rw [← hr2,hlast,hr1] at hB
  have hfr : sO f = ((dV (nC f) (dA f) (nC f)).piv.length : Int) := by unfold sO; rw [hv]; rfl
  unfold uf at he
  rw [hb,Bool.true_and] at he
  simp only [Bool.and_eq_true,beq_iff_eq] at he
  obtain ⟨eX,eY,eR⟩ := he
  have hst' : J8 f = 0 := beq_iff_eq.1 hst
  unfold J8 at hst'
  rw [hv,cond_true] at hst'
  cases ha : apart f with
  | true =>
   rw [ha,cond_true] at hst'
   have kill : ∀ v ∈ yj f ld,∀ a b g,dot v (yv (nC f) (fun k => (bH f (k : Int)).X) (fun k => (bH f (k : Int)).Y) a b g) = 0 := fun v hvm a b g => by
    rcases List.mem_append.1 hvm with hvm | hvm
    ·exact (JU H).kill v hvm a b g
    ·have := List.mem_singleton.1 hvm
     subst this
     have par : ∀ k,k < nC f → k = 2 * (k / 2) + k % 2 ∧ (k % 2 = 0 ∨ k % 2 = 1) := fun k _ => by omega
     have lX : (mX f.Places.length).length = nC f := by unfold mX; rw [oL (fun _ => rfl),hn]
     have lY : (mY f.Places.length).length = nC f := by unfold mY; rw [oL (fun _ => rfl),hn]
     have lR : (mR f f.Places.length).length = nC f := by unfold mR; rw [oL (fun _ => rfl),hn]
     have e1 := xq b g (mY f.Places.length) (mR f f.Places.length) (vec (nC f) fun k => b * (mY f.Places.length).getD k 0 + g * (mR f f.Places.length).getD k 0) v (by rw [bV,lY]) (by rw [bV,lR]) fun k => by
      by_cases hk : k < nC f
      ·exact dn _ hk
      ·rw [eH (by rw [bV]; omega),eH (v := mY f.Places.length) (k := k) (by omega),eH (v := mR f f.Places.length) (k := k) (by omega)]; omega
     have e2 := xq a 1 (mX f.Places.length) (vec (nC f) fun k => b * (mY f.Places.length).getD k 0 + g * (mR f f.Places.length).getD k 0) (yv (nC f) (fun k => (bH f (k : Int)).X) (fun k => (bH f (k : Int)).Y) a b g) v (by rw [Fe,lX]) (by rw [Fe,bV]) fun k => by
      by_cases hk : k < nC f
      ·obtain ⟨q1,q2⟩ := par k hk
       rw [Fg hk,dn _ hk]
       have g1 : (mX f.Places.length).getD k 0 = ([1,0] : List Int).getD (k % 2) 0 := by
        conv => lhs; rw [q1]
        unfold mX
        rw [yc (fun _ => rfl) (by omega) _ (by omega)]
       have g2 : (mY f.Places.length).getD k 0 = ([0,1] : List Int).getD (k % 2) 0 := by
        conv => lhs; rw [q1]
        unfold mY
        rw [yc (fun _ => rfl) (by omega) _ (by omega)]
       have g3 : (mR f f.Places.length).getD k 0 = ([-(bH f ((k / 2 : Nat) : Int)).Y,(bH f ((k / 2 : Nat) : Int)).X] : List Int).getD (k % 2) 0 := by
        conv => lhs; rw [q1]
        unfold mR
        rw [yc (fun _ => rfl) (by omega) _ (by omega)]
       rw [g1,g2,g3]
       rcases q2 with q | q <;> rw [q]
       ·simp; grind
       ·simp
      ·rw [eH (by rw [Fe]; omega),eH (v := mX f.Places.length) (k := k) (by omega),eH (v := vec _ _) (k := k) (by rw [bV]; omega)]; omega
     rw [dot_comm,e2,e1,eX,eY,eR]
     omega
   have := aH3 hv ha hB kill
   omega
  | false =>
   rw [ha,cond_false] at hst'
   have Yu := aCh hv ha
   have aFt : dA f = [] := by unfold dA; rw [Yu]; rfl
   obtain ⟨M',hi⟩ := uX hrows (nC f) (Nat.le_refl _)
   have h0 := hi.rl
   rw [jc,Yu] at h0
   simp only [List.length_nil] at h0
   have hP : f.Graph.aG = 1 := by omega
   have Yo := hB.len
   cases hV : V with
   | nil => rw [hV] at Yo; simp at Yo
   | cons v l =>
    have hvm := hB.mem v (by rw [hV]; exact List.mem_cons_self)
    unfold yj at hvm
    rw [aFt] at hvm
    have hvl : v = ld := List.mem_singleton.1 hvm
    have hlen1 : f.Places.length = 1 := by omega
    have hld : ld.length = 2 := by rw [hL.len,hn,hlen1]
    match ld,hld with
    | [p,q],_ =>
     rw [hlen1] at eX eY
     have ep : p = 0 := by
      have : (1 : Int) * p + (0 * q + 0) = 0 := eX
      omega
     have eq : q = 0 := by
      have : (0 : Int) * p + (1 * q + 0) = 0 := eY
      omega
     refine hB.ind fun m hm => ?_
     rw [hV,hvl]
     show wed [p,q] (om l) m = 0
     rw [xP 0 0 [p,q] [p,q] [p,q] (om l) m rfl rfl fun k => by
      rw [ep,eq]
      match k with
      | 0 => rfl
      | 1 => rfl
      | k + 2 => rfl]
     omega
end Go.Proofs.Ytdmlaldifbmkpaa
end
section
set_option linter.unusedVariables false
set_option linter.unusedSimpArgs false
set_option linter.unnecessarySimpa false
open Go Go.Fw Go.Mx
namespace Go.Proofs.Ytdmlaldifbmkpaa
theorem WA {f : aZ} (hv : vF f = true) : ((nM f).length : Int) = (f.Graph.aB.length : Int) - sO f ∧ (nM f).length ≤ 15 := by
 have H := nO hv
 have hl := H.len
 have tX := qP H
 obtain ⟨hT,hR⟩ := Np f hv
 have hrows := yX H
 have hfr : sO f = ((dV (nC f) (dA f) (nC f)).piv.length : Int) := by unfold sO; rw [hv]; rfl
 obtain ⟨M',hi⟩ := uX hrows (nC f) (Nat.le_refl _)
 have hrl := hi.rl
 rw [jc] at hrl
 unfold nM
 rw [hv]
 by_cases h0 : 0 < f.Graph.aB.length
 ·rw [decide_eq_true h0]
  have hr1 := WL hrows
  rw [jc] at hr1
  have hc := aHe (by omega) (by rw [kD]; omega) hR hT
  rw [hr1] at hc
  show ((nY f.Graph.aB.length (turned (nC f) (dA f))).length : Int) = _ ∧ (nY f.Graph.aB.length (turned (nC f) (dA f))).length ≤ 15
  omega
 ·rw [decide_eq_false h0]
  show (([] : List (List Int)).length : Int) = _ ∧ ([] : List (List Int)).length ≤ 15
  simp only [List.length_nil]
  omega
theorem aIc {f : aZ} (h0 : SM f.Graph.aB.length) (h1 : SM f.Places.length) : bF (BU f (nM f)) BIG 0 = some (.inl ()) := by
 cases hv : vF f with
 | false =>
  have : nM f = [] := by unfold nM; rw [hv]; rfl
  rw [this]
  have := sD (b := BU f []) (fun _ => false) false 0 (by omega) (fun k hk => by omega) rfl
  rw [this]
  rfl
 | true =>
  have hc := (WA hv).2
  have := sD (b := BU f (nM f)) (fun _ => false) false (nM f).length (by omega) (fun k hk => by
   have hm := List.getElem_mem hk
   obtain ⟨_,hN⟩ := Qv hm
   have hsm : SM (nM f)[k].length := by have := (nO hv).len; have := hN.len; show _ ≤ _; omega
   have h3 := aCw hm
   unfold BU
   rw [decide_eq_true (by omega),cond_true]
   simp only [mZ hk,Option.bind_some,aBP f _ h0 h1 hsm,aIe hm,Bool.not_true,cond_false,Ru _ hsm]
   rw [decide_eq_false (by omega)]
   rfl) (by unfold BU; rw [decide_eq_false (by omega)]; rfl)
  rw [this,wX.2 fun _ _ _ => rfl]
  rfl
theorem aD7 {f : aZ} {ld : List Int} (h0 : SM f.Graph.aB.length) (h1 : SM f.Places.length) : bF (EY (f,ld) (bear f ld) (bear f ld)) BIG 0 = some (.inl ()) := by
 cases hq : (bear f ld).2.2 with
 | false =>
  refine jD (fun _ => (0 : Int)) 0 (by omega) rfl (fun k hk => by omega) ?_
  unfold EY
  simp only [hq]
  cases decide ((0 : Int) < f.Graph.aG) <;> rfl
 | true =>
  have hB := Rn hq
  have H := hB.BK.vf
  have hl := H.len
  have UH := H.p6
  have p1 := H.g.p1
  have hV := AZ hB.Pg
  have hwl := hV.len
  have hd := hB.Sj
  have hs4 := hB.BK.sV
  have hll := hB.BK.len
  refine jD (fun k => (k : Int)) f.Graph.aG.toNat (by omega) rfl (fun k hk => ?_) ?_
  ·have hn : 2 * k + 1 < nC f := by unfold nC; omega
   have e1 : ld[2 * k]? = some (ld.getD (2 * k) 0) := by rw [List.getD_eq_getElem?_getD,List.getElem?_eq_getElem (by omega)]; rfl
   have e2 : ld[2 * k + 1]? = some (ld.getD (2 * k + 1) 0) := by rw [List.getD_eq_getElem?_getD,List.getElem?_eq_getElem (by omega)]; rfl
   have w1 : aA (2 * (k : Int)) = ((2 * k : Nat) : Int) := by rw [fU (by omega) (by omega)]; omega
   have w2 : aA (((2 * k : Nat) : Int) + 1) = ((2 * k + 1 : Nat) : Int) := fJ (by omega)
   have m1 := JC (x := (bear f ld).2.1) (y := ld.getD (2 * k) 0) (B := 2000000000) (C := 4) (by omega) (hs4 _)
   have m2 := JC (x := (bear f ld).2.1) (y := ld.getD (2 * k + 1) 0) (B := 2000000000) (C := 4) (by omega) (hs4 _)
   have s1 := hB.sum (2 * k) (by omega)
   have s2 := hB.sum (2 * k + 1) hn
   unfold EY
   rw [decide_eq_true (by simp only; omega)]
   simp only [cond_true,hq,Option.bind_some,TF hB.Pg h0 h1 (by show _ ≤ _; omega) (v := (k : Int)) (by omega) (by omega),Yf hB.Pg (v := k) (by omega),s1,s2,w1,w2,og e1,og e2]
   rw [fU (n := (bear f ld).2.1 * ld.getD (2 * k) 0) (by omega) (by omega),fU (n := (bear f ld).2.1 * ld.getD (2 * k + 1) 0) (by omega) (by omega)]
   simp only [bne_self_eq_false,cond_false,Option.bind_some,fJ (show k ≤ 1099511627776 by omega)]
  ·unfold EY
   rw [decide_eq_false (by simp only; omega)]
   rfl
theorem aCq (f : aZ) (w : List Int) (v : Int) (h0 : SM f.Graph.aB.length) (h1 : SM f.Places.length) (hw : SM w.length) : ∃ q,yN f w v = some q ∧ zu f w v = some q := by
 cases h : qZ f w f.Graph.aB.length with
 | false =>
  refine ⟨(0,0),?_,?_⟩
  ·unfold yN; rw [OL f w h0 h1 hw,h]; rfl
  ·have : bF (xG f w v) BIG (0,0,0) = some (0,0) := by
    refine jD (fun _ => ((0 : Int),(0 : Int),(0 : Int))) 0 (by omega) rfl (fun k hk => by omega) ?_
    unfold xG
    simp only [EM f w h0 h1 hw,h,Option.bind_some]
    cases decide ((0 : Int) < (w.length : Int)) <;> rfl
   unfold zu
   rw [this]
   rfl
 | true =>
  by_cases hv : 0 ≤ v ∧ v < f.Graph.aG
  ·exact ⟨_,TF h h0 h1 hw hv.1 hv.2,Ye h h0 h1 hw hv.1 hv.2⟩
  ·have hV := AZ h
   have hl := hV.len
   have hb := hV.fr.len
   have no : ∀ {k : Nat} {x : aY},f.Graph.aB[k]? = some x → (x.A == v) = false ∧ (x.B == v) = false := fun {k x} hx => by
    have a0 := hV.fr.g.a0 hx
    have ab := hV.fr.g.ab hx
    have bp := hV.fr.g.bp hx
    exact ⟨beq_eq_false_iff_ne.2 (by omega),beq_eq_false_iff_ne.2 (by omega)⟩
   refine ⟨(0,0),?_,?_⟩
   ·have : bF (zo f w v) BIG (0,0,0) = some (0,0) := by
     refine jD (fun k => ((0 : Int),(0 : Int),(k : Int))) f.Graph.aB.length (by omega) rfl (fun k hk => ?_) ?_
     ·have hx := List.getElem?_eq_getElem hk
      obtain ⟨n1,n2⟩ := no hx
      unfold zo LZ
      rw [decide_eq_true (by simp only; omega),cond_true]
      simp only [og hx,Option.bind_some,n1,n2,cond_false,fJ (show k ≤ 1099511627776 by omega)]
     ·unfold zo
      rw [decide_eq_false (by simp only; omega)]
      rfl
    unfold yN
    rw [OL f w h0 h1 hw,h,Option.bind_some,Bool.not_true,cond_false,this]
    rfl
   ·have : bF (xG f w v) BIG (0,0,0) = some (0,0) := by
     refine jD (fun k => ((0 : Int),(0 : Int),(k : Int))) f.Graph.aB.length (by omega) rfl (fun k hk => ?_) ?_
     ·have hx := List.getElem?_eq_getElem hk
      obtain ⟨n1,n2⟩ := no hx
      unfold xG
      rw [decide_eq_true (by simp only; omega)]
      simp only [cond_true,EM f w h0 h1 hw,h,og hx,Option.bind_some,n1,n2,cond_false,fJ (show k ≤ 1099511627776 by omega)]
     ·unfold xG
      rw [decide_eq_false (by simp only; omega)]
      rfl
    unfold zu
    rw [this]
    rfl
theorem aBt {c : cZ} (h : CO c) {n : Int} (hn : n ≤ 1000) : Ex (I7 c n) fun r => CO r.2 ∧ r.1.length ≤ 1000 := by
 unfold I7
 refine Ex.bind (Q := fun b => CO ⟨b.1,b.2.1,b.2.2.1⟩ ∧ b.2.2.2.length ≤ 1000) ?_ fun b hb => Ex.ret hb
 refine yM (fun k s => s.1 = (k : Int) ∧ CO ⟨s.2.1,s.2.2.1,s.2.2.2.1⟩ ∧ s.2.2.2.2.length ≤ k) _ n.toNat (by omega) ⟨rfl,h,by simp⟩ (fun k s hk hI => ?_) (fun s hI => ?_)
 ·obtain ⟨a,b,i,hh,l⟩ := s
  obtain ⟨ha,hc,hl⟩ := hI
  change a = (k : Int) at ha
  subst ha
  change l.length ≤ k at hl
  have key : Ex (I8 n ((k : Int),b,i,hh,l)) fun r => ∃ t,r = .inl t ∧ t.1 = ((k + 1 : Nat) : Int) ∧ CO ⟨t.2.1,t.2.2.1,t.2.2.2.1⟩ ∧ t.2.2.2.2.length ≤ k + 1 := by
   unfold I8
   rw [decide_eq_true (by simp only; omega),cond_true]
   refine (pU hc 13).bind fun r hr => Ex.lim (by simp; omega) (Ex.ret ⟨_,rfl,?_,hr.1,by simp; omega⟩)
   simp only
   rw [fJ (by omega)]
  obtain ⟨r,e,t,rfl,ht⟩ := key
  exact .inl ⟨t,e,ht⟩
 ·obtain ⟨a,b,i,hh,l⟩ := s
  obtain ⟨ha,hc,hl⟩ := hI
  change a = ((n.toNat : Nat) : Int) at ha
  change l.length ≤ _ at hl
  refine ⟨(b,i,hh,l),?_,hc,by simp only; omega⟩
  unfold I8
  rw [decide_eq_false (by simp only; omega)]
  rfl
theorem aDm {code : List Int} (h : code.length ≤ 1048576) : Ex (Ie code) fun r => FS r.1 ∧ r.2.length ≤ 1000 := by
 unfold Ie
 refine (VP h).bind fun c hc => (Rh hc).bind fun r2 h2 => ?_
 have b0 : SM r2.1.Graph.aB.length := by have := h2.2.b; show _ ≤ _; omega
 have b1 : SM r2.1.Places.length := by have := h2.2.p; show _ ≤ _; omega
 rw [aBQ r2.1 b0 b1,Option.bind_some]
 refine Ex.bind (Q := fun j => CO ⟨j.2.1,j.2.2.1,j.2.2.2⟩ ∧ (j.1 = true → 0 < (nM r2.1).length)) (Ex.bif (fun hd => (VX h2.1 4).bind fun r8 h8 => Ex.ret ⟨h8,fun _ => by have := of_decide_eq_true hd; omega⟩) (fun _ => Ex.ret ⟨h2.1,fun h => by cases h⟩)) fun j hj => Ex.bif (fun hj1 => ?_) (fun _ => ?_)
 ·have hpos := hj.2 hj1
  refine (pU hj.1 _).bind fun r10 h10 => Ex.idx h10.2.1 (h10.2.2 (by omega)) fun x hx => Ex.ret ⟨h2.2,?_⟩
  obtain ⟨hv,hN⟩ := Qv hx
  have := (nO hv).len
  have := hN.len
  simp only
  omega
 ·exact (aBt hj.1 (by have := h2.2.b; omega)).bind fun r hr => Ex.ret ⟨h2.2,hr.2⟩
theorem aHJ {code : List Int} (h : code.length ≤ 1048576) : Ex (MW code) fun r => FS r.1 ∧ r.2.length ≤ 1000 := by
 unfold MW
 refine (VP h).bind fun c hc => (Rh hc).bind fun r2 h2 => ?_
 have hp := h2.2.p
 generalize hn : r2.1.Places.length = n at hp
 have w2 : aA (2 * (n : Int)) = ((2 * n : Nat) : Int) := by rw [fU (by omega) (by omega)]; omega
 rw [w2,show vY ((2 * n : Nat) : Int) = some () from by unfold vY; rw [if_pos (by omega)],Option.bind_some,Int.toNat_natCast]
 refine Ex.bind (Q := fun j => CO ⟨j.2.1,j.2.2.1,j.2.2.2⟩ ∧ (j.1 = true → 1 < n)) (Ex.bif (fun hd => (VX h2.1 4).bind fun r8 h8 => Ex.ret ⟨h8,fun _ => by have := of_decide_eq_true hd; omega⟩) (fun _ => Ex.ret ⟨h2.1,fun h => by cases h⟩)) fun j hj => Ex.bif (fun hj1 => ?_) (fun _ => ?_)
 ·have h1n := hj.2 hj1
  refine (pU hj.1 _).bind fun u hu => (pU hu.1 _).bind fun v hv => ?_
  have u0 := hu.2.1
  have u1 := hu.2.2 (by omega)
  have e1 : aA ((n : Int) - 1) = (n : Int) - 1 := fU (by omega) (by omega)
  have v0 := hv.2.1
  have v1 := hv.2.2 (by rw [e1]; omega)
  rw [e1] at v1
  have e2 : aA (aA (u.1 + 1) + v.1) = u.1 + 1 + v.1 := by rw [fU (n := u.1 + 1) (by omega) (by omega),fU (by omega) (by omega)]
  rw [e2]
  have t0 : 0 ≤ Int.tmod (u.1 + 1 + v.1) (n : Int) := Int.tmod_nonneg _ (by omega)
  have t1 : Int.tmod (u.1 + 1 + v.1) (n : Int) < (n : Int) := Int.tmod_lt_of_pos _ (by omega)
  generalize Int.tmod (u.1 + 1 + v.1) (n : Int) = t at t0 t1 ⊢
  have e3 : aA (2 * u.1) = 2 * u.1 := fU (by omega) (by omega)
  have e4 : aA (2 * t) = 2 * t := fU (by omega) (by omega)
  have e5 : aA (2 * u.1 + 1) = 2 * u.1 + 1 := fU (by omega) (by omega)
  have e6 : aA (2 * t + 1) = 2 * t + 1 := fU (by omega) (by omega)
  rw [e3,e4,e5,e6]
  refine Ex.nz (by omega) (Ex.idx u0 (by omega) fun jQ _ => Ex.idx t0 (by omega) fun x14 _ => Ex.idx u0 (by omega) fun x15 _ => Ex.idx t0 (by omega) fun x16 _ => Ex.idx (by omega) (by simp; omega) fun x17 _ => Ex.idx (by omega) (by simp; omega) fun x18 _ => Ex.idx (by omega) (by simp; omega) fun x19 _ => Ex.idx (by omega) (by simp; omega) fun x20 _ => Ex.ret ⟨h2.2,?_⟩)
  simp
  omega
 ·exact (aBt hj.1 (by simp; omega)).bind fun r hr => Ex.ret ⟨h2.2,hr.2⟩
theorem aHC (code : List Int) : P6 code = some true := by
 unfold P6 P7
 rw [Option.bind_some]
 by_cases hbig : (1048576 : Int) < (code.length : Int)
 ·rw [decide_eq_true hbig]
  rfl
 ·rw [decide_eq_false hbig,cond_false]
  have draw : Ex (MF code) FS := by
   unfold MF
   exact (VP (code := code) (by omega)).bind fun c hc => (Rh hc).bind fun r hr => Ex.ret hr.2
  obtain ⟨f,hf,Yn⟩ := draw
  obtain ⟨⟨g,ld⟩,hg,hgF,hgl⟩ := aHJ (code := code) (by omega)
  obtain ⟨⟨q,w⟩,hq,UJ,BA⟩ := aDm (code := code) (by omega)
  change FS g at hgF
  change ld.length ≤ 1000 at hgl
  change FS q at UJ
  change w.length ≤ 1000 at BA
  have f0 : SM f.Graph.aB.length := by have := Yn.b; show _ ≤ _; omega
  have f1 : SM f.Places.length := by have := Yn.p; show _ ≤ _; omega
  have g0 : SM g.Graph.aB.length := by have := hgF.b; show _ ≤ _; omega
  have g1 : SM g.Places.length := by have := hgF.p; show _ ≤ _; omega
  have q0 : SM q.Graph.aB.length := by have := UJ.b; show _ ≤ _; omega
  have q1 : SM q.Places.length := by have := UJ.p; show _ ≤ _; omega
  have LU : SM ld.length := by show _ ≤ _; omega
  have wm : SM w.length := by show _ ≤ _; omega
  have dB : L9 code = some (g,ld) := by unfold L9; rw [hg]; rfl
  have dS : MC code = some (q,w) := by unfold MC; rw [hq]; rfl
  have dF : MB code = some (q,w,aA (Int.tmod (code.length : Int) 8 - 1)) := by unfold MB; rw [hq]; rfl
  obtain ⟨fa,fa1,fa2⟩ := aCq q w (aA (Int.tmod (code.length : Int) 8 - 1)) q0 q1 wm
  have hsame : II (nM f) (nM f) = some true := by
   cases hv : vF f with
   | false =>
    have : nM f = [] := by unfold nM; rw [hv]; rfl
    rw [this]
    exact aBC [] (by simp) (fun r hr => by cases hr)
   | true => exact aBC _ (by have := (WA hv).2; omega) (fun r hr => by
     obtain ⟨_,hN⟩ := Qv hr
     have := hN.len
     have := (nO hv).len
     omega)
  have hcount : ((bif vF f then some (((nM f).length : Int) != (bif vF f then aA ((f.Graph.aB.length : Int) - sO f) else -1)) else some false) : Option Bool) = some false := by
   cases hv : vF f with
   | false => rfl
   | true =>
    have hc := (WA hv).1
    have hr := Yg f
    have hl := (nO hv).len
    simp only [cond_true]
    rw [fU (by omega) (by omega),hc,bne_self_eq_false]
  have hbl : BV (bear g ld).1 (bear g ld).1 = some true := by
   refine Qe _ ?_
   cases hq2 : (bear g ld).2.2 with
   | true =>
    have hB := Rn hq2
    have := (AZ hB.Pg).len
    have := hB.BK.vf.len
    omega
   | false =>
    cases hb : pq g ld with
    | false => unfold bear; rw [hb]; simp
    | true =>
     have hz := Xc hb hq2
     unfold bear at hq2 ⊢
     rw [hb] at hq2 ⊢
     cases hs : (solved g ld).findSome? (sG g.Graph.aB.length) with
     | none => simp
     | some p =>
      obtain ⟨v',hv1,hv2⟩ := TA hs
      unfold sG at hv2
      rw [if_pos (hz v' hv1)] at hv2
      cases hv2
  have hcan : Lc g ld = some (bear g ld).2.2 := by unfold Lc; rw [Xb g ld g0 g1 LU]; rfl
  have aFA : ((bif (bear g ld).2.2 then (bif !(uf g ld) then some true else (bif decide ((bear g ld).2.1 < 1) then some true else some false)) else (bif uf g ld then some (Qu g) else some false)) : Option Bool) = some false := by
   cases hq2 : (bear g ld).2.2 with
   | true =>
    have hB := Rn hq2
    have hb : pq g ld = true := by
     cases hb : pq g ld with
     | true => rfl
     | false => unfold bear at hq2; rw [hb] at hq2; cases hq2
    rw [hB.uf hb,decide_eq_false (by have := hB.Sj; omega)]
    rfl
   | false =>
    cases he : uf g ld with
    | false => rfl
    | true =>
     cases hst : Qu g with
     | false => rfl
     | true =>
      have hb : pq g ld = true := by
       unfold uf at he
       simp only [Bool.and_eq_true] at he
       exact he.1
      rw [aIb hb he hst] at hq2
      cases hq2
  simp only [hf,Option.bind_some,aIf f f0 f1,aBQ f f0 f1,hsame,Bool.not_true,cond_false,zh f f0 f1,aDe f0 f1,hcount,aIc f0 f1,Sum.elim_inl,dB,Xb g ld g0 g1 LU,aCn g ld g0 g1 LU,bne_self_eq_false,hbl,hcan,aDv g ld g0 g1 LU,aDw g ld g0 g1 LU,aIa g g0 g1,aFA,aD7 g0 g1,dS,dF,fa1,fa2,aBP q w q0 q1 wm,aId q w q0 q1 wm,beq_self_eq_true,cond_true,Ru w wm,aCv w wm,Qe w]
  rw [Qe _ (by
   have := pieces_len (f := fun k => bif w.getD k 0 != 0 then [(k : Int)] else []) (c := 1) w.length (fun k _ => by cases w.getD k 0 != 0 <;> simp)
   unfold carried
   omega)]
  rfl
end Go.Proofs.Ytdmlaldifbmkpaa
end
section
set_option linter.unusedVariables false
set_option linter.unusedSimpArgs false
set_option linter.unnecessarySimpa false
namespace Go.Fw
def vS (ops : Array Oper) (σ : Slots) (o : Oper) : Option (Bool × Bool) := match o.guard with
 | none => none
 | some (j,want) => ((ops[j]?).bind (·.dst)).bind fun d => match lk σ d with
  | some (.s (.c (.pv (.sc (.bool c))))) => some (c,want)
  | some (.dO []) => some (!want,want)
  | _ => none
theorem gH {ops : Array Oper} {σ : Slots} {o : Oper} {c c0 want b : Bool} (hc : c = c0) (h : vS ops σ o = some (c,want)) (hb : b = (c0 == want)) : gX ops σ o b := by
 subst hc hb
 unfold vS at h
 unfold gX
 cases hg : o.guard with
 | none => rw [hg] at h; cases h
 | some p =>
  obtain ⟨j,wt⟩ := p
  rw [hg] at h
  dsimp only at h
  cases hd : (ops[j]?).bind (·.dst) with
  | none => rw [hd] at h; cases h
  | some d =>
   rw [hd] at h
   refine ⟨d,hd,?_⟩
   simp only [Option.bind_some] at h
   split at h
   ·rename_i cc hl; injection h with h; injection h with h1 h2; subst h1 h2; exact .inl ⟨cc,hl,rfl⟩
   ·rename_i hl; injection h with h; injection h with h1 h2; subst h1 h2; exact .inr ⟨hl,by cases wt <;> rfl⟩
   ·cases h
theorem gS {ops : Array Oper} {σ : Slots} {o : Oper} {c want b : Bool} (h : vS ops σ o = some (c,want)) (hb : b = (c == want)) : gX ops σ o b := gH rfl h hb
abbrev FT (P : Program) {ρ : Type} (M : Option ρ) (f : FuncId) (args : List SV) (us : Mem) (rs : ρ → List SV) (jf : ρ → Mem) (X : List Nat) : Prop := ∀ t,M = some t → Fn P f args us (wM (rs t)) (jf t) (keys us) X
section
variable {P : Program}
theorem FT.of (pn : List Nat) {f : FuncId} {fn : Func} {c : Code} {args : List SV} {us : Mem} {X : List Nat} {N : Nat} {ρ : Type} {M : Option ρ} {rs : ρ → List SV} {jf : ρ → Mem} (hf : P.funcs[f]? = some fn) (hN : fn.ntmps = N) (hb : fn.body = some c)
  (hs : args.length.ble N = true ∧ (fF (keys us) (pn ++ X) && lZ X pn && fF pn (keys us)) = true)
  (h : ∀ w0 U0 R0 g0,aC P ⟨w0,U0,R0,g0,N,pn⟩ [.code c] (y8 0 args) us M (aj P fn.results.toList us X rs jf)) : FT P M f args us rs jf X :=
 Fn.of hf hb hN (Nat.le_of_ble_eq_true hs.1) hs.2 h
theorem FT.AB (pn : List Nat) {f : FuncId} {fn : Func} {c : Code} {args : List SV} {us : Mem} {X : List Nat} {N : Nat} {ρ : Type} {M : Option ρ} {rs : ρ → List SV} {jf : ρ → Mem} (hf : P.funcs[f]? = some fn) (hN : fn.ntmps = N) (hb : fn.body = some c)
  (hs : args.length.ble N = true ∧ (fF (keys us) (pn ++ X) && lZ X pn && fF pn (keys us)) = true)
  (h : ∀ w0 U0 R0 g0,(∀ b,U0 b → ∃ n ∈ keys us,(g0 n).has b) → aC P ⟨w0,U0,R0,g0,N,pn⟩ [.code c] (y8 0 args) us M (aj P fn.results.toList us X rs jf)) : FT P M f args us rs jf X :=
 Fn.AB hf hb hN (Nat.le_of_ble_eq_true hs.1) hs.2 h
variable {C : Ctx} {σ : Slots} {m : Mem} {is : List It} {τ υ : Type} {M : Option τ} {K : τ → Post} {ops : Array Oper} {l : List Oper} {done : List Ct} {rest : List Oper} {o o' : Oper}
theorem zk (c : CV) {x : Operand} {t e : TypeId} {n off : Nat} {cs : List CV} (ho : o.op = .load t x) (h : kQ P t = some false) (hk : cs[off]? = some c := by exact rfl) : LT P o [(x,Cc (.pl n off))] [(n,.row e [cs])] (Cc c) [] [] [] := LT.Js ho h hk
theorem cO (out : List CV) {x : Operand} {t e : TypeId} {n off s : Nat} {cs : List CV} (ho : o.op = .load t x) (h : kQ P t = some true) (hi : (P.info? t).isSome = true) (hs : bM P t = s) (ho2 : (cs.drop off).take s = out := by exact rfl) (hl : out.length = s := by exact rfl) :
  LT P o [(x,Cc (.pl n off))] [(n,.row e [cs])] (Ag out) [] [] [] := LT.aCp ho h (dK hi) hs ho2 hl
theorem AQ (v : SV) (out : List CV) {t e : TypeId} {n off s : Nat} {x y : Operand} {cs : List CV} (ho : o.op = .store t x y) (hd : o.dst = none) (hi : (P.info? t).isSome = true) (hs : bM P t = s) (hl : (lH v).length = s := by exact rfl) (hk : (off + s).ble cs.length = true := by exact rfl)
  (hout : ow cs off (lH v) = out := by exact rfl) : LT P o [(x,Cc (.pl n off)),(y,.s v)] [(n,.row e [cs])] (.dO []) [(n,.row e [out])] [n] [] := LT.Xg ho hd (dK hi) hs hl (Nat.le_of_ble_eq_true hk) hout
theorem stA (v : List CV) {t e : TypeId} {n off s : Nat} {x y : Operand} {cs : List CV} (ho : o.op = .store t x y) (hd : o.dst = none) (hi : (P.info? t).isSome = true) (hs : bM P t = s) (hl : (lH (.agg v)).length = s := by exact rfl) (hk : (off + s).ble cs.length = true := by exact rfl)
  (hout : ow cs off (lH (.agg v)) = v := by exact rfl) : LT P o [(x,Cc (.pl n off)),(y,Ag v)] [(n,.row e [cs])] (.dO []) [(n,.row e [v])] [n] [] := LT.Xg ho hd (dK hi) hs hl (Nat.le_of_ble_eq_true hk) hout
theorem fV (c : CV) {x x' : Operand} {t t' e : TypeId} {i n off d : Nat} {cs : List CV} (hf : qK P t i = some d) (ha : kQ P t' = some false)
  (h : o.op = .fieldAddr t x i ∧ fG σ x (Cc (.pl n off)) ∧ gX ops σ o true ∧ gU C.N o.dst = true ∧ o'.op = .load t' x' ∧ fG (fE σ o.dst (Cc (.pl n (off + d)))) x' (Cc (.pl n (off + d))) ∧ lk m n = some (.row e [cs]) ∧ gX ops (fE σ o.dst (Cc (.pl n (off + d)))) o' true ∧ gU C.N o'.dst = true ∧ cs[off + d]? = some c)
  (k : aP P C ops rest is (fE (fE σ o.dst (Cc (.pl n (off + d)))) o'.dst (Cc c)) m M K) : aP P C ops (o :: o' :: rest) is σ m M K :=
 have ⟨a,b,c1,d1,a2,b2,l,c2,d2,z⟩ := h
 aS (LT.gV a hf) b c1 d1 (bf (LT.Js a2 ha z) b2 l c2 d2 k)
theorem kR (c : CV) {x x' : Operand} {t t' e : TypeId} {i n off d : Nat} {cs : List CV} {cb c0 w1 w2 : Bool} (hf : qK P t i = some d) (ha : kQ P t' = some false) (hc : cb = c0)
  (h : o.op = .fieldAddr t x i ∧ fG σ x (Cc (.pl n off)) ∧ vS ops σ o = some (cb,w1) ∧ true = (c0 == w1) ∧ gU C.N o.dst = true ∧ o'.op = .load t' x' ∧ fG (fE σ o.dst (Cc (.pl n (off + d)))) x' (Cc (.pl n (off + d))) ∧ lk m n = some (.row e [cs]) ∧ vS ops (fE σ o.dst (Cc (.pl n (off + d)))) o' = some (cb,w2) ∧ true = (c0 == w2) ∧ gU C.N o'.dst = true ∧ cs[off + d]? = some c)
  (k : aP P C ops rest is (fE (fE σ o.dst (Cc (.pl n (off + d)))) o'.dst (Cc c)) m M K) : aP P C ops (o :: o' :: rest) is σ m M K :=
 have ⟨a,b,c1,c2,d1,a2,b2,l,c3,c4,d2,z⟩ := h
 aS (LT.gV a hf) b (gH hc c1 c2) d1 (bf (LT.Js a2 ha z) b2 l (gH hc c3 c4) d2 k)
theorem eG (c : CV) {x x' : Operand} {t t' e : TypeId} {i n off d : Nat} {cs : List CV} (hf : qK P t i = some d) (ha : kQ P t' = some false)
  (h : o.op = .fieldAddr t x i ∧ fG σ x (Cc (.pl n off)) ∧ gX l.toArray σ o true ∧ gU C.N o.dst = true ∧ o'.op = .load t' x' ∧ fG (fE σ o.dst (Cc (.pl n (off + d)))) x' (Cc (.pl n (off + d))) ∧ lk m n = some (.row e [cs]) ∧ gX l.toArray (fE σ o.dst (Cc (.pl n (off + d)))) o' true ∧ gU C.N o'.dst = true ∧ cs[off + d]? = some c)
  (k : aN P C l (⟨[(x',Cc (.pl n (off + d)))],[(n,.row e [cs])],Cc c,[],[],[],true⟩ :: ⟨[(x,Cc (.pl n off))],[],Cc (.pl n (off + d)),[],[],[],true⟩ :: done) rest is (fE (fE σ o.dst (Cc (.pl n (off + d)))) o'.dst (Cc c)) m M K) : aN P C l done (o :: o' :: rest) is σ m M K :=
 have ⟨a,b,c1,d1,a2,b2,l,c2,d2,z⟩ := h
 bJ (LT.gV a hf) b c1 d1 (gQ (LT.Js a2 ha z) b2 l c2 d2 k)
theorem qi (c : CV) {x x' : Operand} {t t' e : TypeId} {i n off d : Nat} {cs : List CV} {cb c0 w1 w2 : Bool} (hf : qK P t i = some d) (ha : kQ P t' = some false) (hc : cb = c0)
  (h : o.op = .fieldAddr t x i ∧ fG σ x (Cc (.pl n off)) ∧ vS l.toArray σ o = some (cb,w1) ∧ true = (c0 == w1) ∧ gU C.N o.dst = true ∧ o'.op = .load t' x' ∧ fG (fE σ o.dst (Cc (.pl n (off + d)))) x' (Cc (.pl n (off + d))) ∧ lk m n = some (.row e [cs]) ∧ vS l.toArray (fE σ o.dst (Cc (.pl n (off + d)))) o' = some (cb,w2) ∧ true = (c0 == w2) ∧ gU C.N o'.dst = true ∧ cs[off + d]? = some c)
  (k : aN P C l (⟨[(x',Cc (.pl n (off + d)))],[(n,.row e [cs])],Cc c,[],[],[],true⟩ :: ⟨[(x,Cc (.pl n off))],[],Cc (.pl n (off + d)),[],[],[],true⟩ :: done) rest is (fE (fE σ o.dst (Cc (.pl n (off + d)))) o'.dst (Cc c)) m M K) : aN P C l done (o :: o' :: rest) is σ m M K :=
 have ⟨a,b,c1,c2,d1,a2,b2,l,c3,c4,d2,z⟩ := h
 bJ (LT.gV a hf) b (gH hc c1 c2) d1 (gQ (LT.Js a2 ha z) b2 l (gH hc c3 c4) d2 k)
theorem dD {j : Nat} {want : Bool} {d : Tmp} {c : Bool} (h : o.guard = some (j,want) ∧ (ops[j]?).bind (·.dst) = some d ∧ lk σ d = some (Bv c) ∧ (c == want) = false ∧ gU C.N o.dst = true) (k : aP P C ops rest is (fE σ o.dst (.dO [])) m M K) : aP P C ops (o :: rest) is σ m M K := Ok h.1 h.2.1 h.2.2.1 h.2.2.2.1 h.2.2.2.2 k
theorem aV {j : Nat} {want : Bool} {d : Tmp} {c c0 : Bool} (hc : c = c0) (h : o.guard = some (j,want) ∧ (ops[j]?).bind (·.dst) = some d ∧ lk σ d = some (Bv c) ∧ (c0 == want) = false ∧ gU C.N o.dst = true) (k : aP P C ops rest is (fE σ o.dst (.dO [])) m M K) : aP P C ops (o :: rest) is σ m M K := Ok h.1 h.2.1 h.2.2.1 (hc ▸ h.2.2.2.1) h.2.2.2.2 k
theorem bK {c want : Bool} (h : vS l.toArray σ o = some (c,want) ∧ false = (c == want) ∧ gU C.N o.dst = true) (k : aN P C l (⟨[],[],.dO [],[],[],[],false⟩ :: done) rest is (fE σ o.dst (.dO [])) m M K) : aN P C l done (o :: rest) is σ m M K := aN.skip (gS h.1 h.2.1) h.2.2 k
theorem bT {c c0 want : Bool} (hc : c = c0) (h : vS l.toArray σ o = some (c,want) ∧ false = (c0 == want) ∧ gU C.N o.dst = true) (k : aN P C l (⟨[],[],.dO [],[],[],[],false⟩ :: done) rest is (fE σ o.dst (.dO [])) m M K) : aN P C l done (o :: rest) is σ m M K := aN.skip (gH hc h.1 h.2.1) h.2.2 k
theorem aF (v : AV) {x : Operand} (h : o.op = .move x ∧ fG σ x v ∧ gX ops σ o true ∧ gU C.N o.dst = true) (k : aP P C ops rest is (fE σ o.dst v) m M K) : aP P C ops (o :: rest) is σ m M K := mv v h.1 h.2.1 h.2.2.1 h.2.2.2 k
theorem aJ (v : AV) {x : Operand} (h : o.op = .assign x ∧ fG σ x v ∧ gX ops σ o true ∧ gU C.N o.dst = true) (k : aP P C ops rest is (fE σ o.dst v) m M K) : aP P C ops (o :: rest) is σ m M K := asg v h.1 h.2.1 h.2.2.1 h.2.2.2 k
theorem gW (v : AV) {x : Operand} {c c0 w : Bool} (hc : c = c0) (h : o.op = .move x ∧ fG σ x v ∧ vS ops σ o = some (c,w) ∧ true = (c0 == w) ∧ gU C.N o.dst = true) (k : aP P C ops rest is (fE σ o.dst v) m M K) : aP P C ops (o :: rest) is σ m M K := mv v h.1 h.2.1 (gH hc h.2.2.1 h.2.2.2.1) h.2.2.2.2 k
theorem ak (v : AV) {x : Operand} (h : o.op = .move x ∧ fG σ x v ∧ gX l.toArray σ o true ∧ gU C.N o.dst = true) (k : aN P C l (⟨[(x,v)],[],v,[],[],[],true⟩ :: done) rest is (fE σ o.dst v) m M K) : aN P C l done (o :: rest) is σ m M K := bJ (LT.move h.1) h.2.1 h.2.2.1 h.2.2.2 k
theorem lG (v : AV) {x : Operand} {c c0 w : Bool} (hc : c = c0) (h : o.op = .move x ∧ fG σ x v ∧ vS l.toArray σ o = some (c,w) ∧ true = (c0 == w) ∧ gU C.N o.dst = true) (k : aN P C l (⟨[(x,v)],[],v,[],[],[],true⟩ :: done) rest is (fE σ o.dst v) m M K) : aN P C l done (o :: rest) is σ m M K := bJ (LT.move h.1) h.2.1 (gH hc h.2.2.1 h.2.2.2.1) h.2.2.2.2 k
theorem aT {x0 x1 : Operand} {v0 v1 v : AV} {A : Prop} (f : A → LT P o [(x0,v0),(x1,v1)] [] v [] [] []) (h : A ∧ fG σ x0 v0 ∧ fG σ x1 v1 ∧ gX ops σ o true ∧ gU C.N o.dst = true) (k : aP P C ops rest is (fE σ o.dst v) m M K) : aP P C ops (o :: rest) is σ m M K := dY (f h.1) h.2.1 h.2.2.1 h.2.2.2.1 h.2.2.2.2 k
theorem iT {x0 x1 : Operand} {v0 v1 v : AV} {A : Prop} {c c0 w : Bool} (f : A → LT P o [(x0,v0),(x1,v1)] [] v [] [] []) (hc : c = c0) (h : A ∧ fG σ x0 v0 ∧ fG σ x1 v1 ∧ vS ops σ o = some (c,w) ∧ true = (c0 == w) ∧ gU C.N o.dst = true) (k : aP P C ops rest is (fE σ o.dst v) m M K) : aP P C ops (o :: rest) is σ m M K := dY (f h.1) h.2.1 h.2.2.1 (gH hc h.2.2.2.1 h.2.2.2.2.1) h.2.2.2.2.2 k
theorem iE {x0 x1 : Operand} {v0 v1 v : AV} {A : Prop} (f : A → LT P o [(x0,v0),(x1,v1)] [] v [] [] []) (h : A ∧ fG σ x0 v0 ∧ fG σ x1 v1 ∧ gX l.toArray σ o true ∧ gU C.N o.dst = true) (k : aN P C l (⟨[(x0,v0),(x1,v1)],[],v,[],[],[],true⟩ :: done) rest is (fE σ o.dst v) m M K) : aN P C l done (o :: rest) is σ m M K := dJ (f h.1) h.2.1 h.2.2.1 h.2.2.2.1 h.2.2.2.2 k
theorem qg {x0 x1 : Operand} {v0 v1 v : AV} {A : Prop} {c c0 w : Bool} (f : A → LT P o [(x0,v0),(x1,v1)] [] v [] [] []) (hc : c = c0) (h : A ∧ fG σ x0 v0 ∧ fG σ x1 v1 ∧ vS l.toArray σ o = some (c,w) ∧ true = (c0 == w) ∧ gU C.N o.dst = true) (k : aN P C l (⟨[(x0,v0),(x1,v1)],[],v,[],[],[],true⟩ :: done) rest is (fE σ o.dst v) m M K) : aN P C l done (o :: rest) is σ m M K := dJ (f h.1) h.2.1 h.2.2.1 (gH hc h.2.2.2.1 h.2.2.2.2.1) h.2.2.2.2.2 k
theorem dh (v : AV) {c x y : Operand} {b : Bool} (hb : b = true) (h : o.op = .pick c x y ∧ fG σ c (Bv b) ∧ fG σ x v ∧ gX ops σ o true ∧ gU C.N o.dst = true) (k : aP P C ops rest is (fE σ o.dst v) m M K) : aP P C ops (o :: rest) is σ m M K := dY (LT.xJ h.1 hb) h.2.1 h.2.2.1 h.2.2.2.1 h.2.2.2.2 k
theorem gY (v : AV) {c x y : Operand} {b : Bool} (hb : b = false) (h : o.op = .pick c x y ∧ fG σ c (Bv b) ∧ fG σ y v ∧ gX ops σ o true ∧ gU C.N o.dst = true) (k : aP P C ops rest is (fE σ o.dst v) m M K) : aP P C ops (o :: rest) is σ m M K := dY (LT.wJ h.1 hb) h.2.1 h.2.2.1 h.2.2.2.1 h.2.2.2.2 k
theorem kL (v : AV) {c x y : Operand} {b : Bool} (hb : b = true) (h : o.op = .pick c x y ∧ fG σ c (Bv b) ∧ fG σ x v ∧ gX l.toArray σ o true ∧ gU C.N o.dst = true) (k : aN P C l (⟨[(c,Bv b),(x,v)],[],v,[],[],[],true⟩ :: done) rest is (fE σ o.dst v) m M K) : aN P C l done (o :: rest) is σ m M K := dJ (LT.xJ h.1 hb) h.2.1 h.2.2.1 h.2.2.2.1 h.2.2.2.2 k
theorem mg (v : AV) {c x y : Operand} {b : Bool} (hb : b = false) (h : o.op = .pick c x y ∧ fG σ c (Bv b) ∧ fG σ y v ∧ gX l.toArray σ o true ∧ gU C.N o.dst = true) (k : aN P C l (⟨[(c,Bv b),(y,v)],[],v,[],[],[],true⟩ :: done) rest is (fE σ o.dst v) m M K) : aN P C l done (o :: rest) is σ m M K := dJ (LT.wJ h.1 hb) h.2.1 h.2.2.1 h.2.2.2.1 h.2.2.2.2 k
theorem aW {t : τ} {σ' : Slots} {m' : Mem} (e : K t .normal σ m = (Exit.normal = Exit.normal ∧ aO P C σ m σ' m')) (h1 : Ap σ' σ) (h2 : Am m' m) : aC P C [] σ m (some t) K := aC.nil (by rw [e]; exact ⟨rfl,aO.of h1 h2⟩)
theorem cF (xs : List SV) (sh : Mem) {cf : Operand} {f : FuncId} {os : Array Operand} {ts : Array TypeId} {ys : List SV} {us df : Mem} {v : AV} {W X : List Nat} (hf : Fn P f ys us v df W X) (hb : dL P f = true) (hsh : qI sh xs ys) (hus : DT (keys sh) us)
  (h : o.op = .call { callee := .value cf,args := os,argTypes := ts } ∧ os.size = xs.length ∧ (lZ (keys sh) (W ++ X ++ keys us ++ keys df ++ []) && fF W (keys us)) = true) : LT P o ((cf,Cc (.fn f [])) :: OA os.toList xs) (us ++ sh) v df W X := LT.Xi hf h.1 hb hsh h.2.1 h.2.2 hus
theorem bQ (xs : List SV) {cf : Operand} {f : FuncId} {os : Array Operand} {ts : Array TypeId} {ys : List SV} {us df : Mem} {v : AV} {W X : List Nat} (hf : Fn P f ys us v df W X) (hb : dL P f = true) (hsh : qI [] xs ys) (hus : DT (keys ([] : Mem)) us)
  (h : o.op = .call { callee := .value cf,args := os,argTypes := ts } ∧ os.size = xs.length ∧ (lZ (keys ([] : Mem)) (W ++ X ++ keys us ++ keys df ++ []) && fF W (keys us)) = true) : LT P o ((cf,Cc (.fn f [])) :: OA os.toList xs) (us ++ []) v df W X := LT.Xi hf h.1 hb hsh h.2.1 h.2.2 hus
end
end Go.Fw
end
section
set_option linter.unusedVariables false
set_option linter.unusedSimpArgs false
set_option linter.unnecessarySimpa false
set_option maxRecDepth 100000
set_option maxHeartbeats 8000000
open Go Go.Fw
namespace Go.Proofs.Ytdmlaldifbmkpaa
theorem Q {α : Type} {a : α} : a = a := rfl
theorem J : True := trivial
theorem K {n m : Nat} (h : n.ble m = true) : n ≤ m := Nat.le_of_ble_eq_true h
theorem aHv {P : Program} {C : Fw.Ctx} {σ : Slots} {mm : Mem} {α : Type} {enc : α → List PV} {n p c : Nat} {e e2 : TypeId} {els : List (List CV)} (hn : lk mm n = some (.row e els)) (he : els = List.replicate c [.pv (.sc ah)]) (hd : (!Nat.beq n p && !C.pn.elem p) = true) :
    aO P C σ mm (jW [p] σ) ((p, .pool e2 (rowsOf enc (List.replicate c ([] : List α)))) :: (n, .ax e p (af (List.replicate c ([] : List α)))) :: iM [p] mm) := aO.aHu (by rw [hn, he]) hd
theorem z1 {α0 : Type} {a0 : α0} : a0 = a0 ∧ True := ⟨rfl, trivial⟩
theorem z2 {α0 α1 : Type} {a0 : α0} {a1 : α1} : a0 = a0 ∧ a1 = a1 ∧ True := ⟨rfl, rfl, trivial⟩
theorem y2 {α0 α1 : Type} {a0 : α0} {a1 : α1} : a0 = a0 ∧ a1 = a1 := ⟨rfl, rfl⟩
theorem z3 {α0 α1 α2 : Type} {a0 : α0} {a1 : α1} {a2 : α2} : a0 = a0 ∧ a1 = a1 ∧ a2 = a2 ∧ True := ⟨rfl, rfl, rfl, trivial⟩
theorem y3 {α0 α1 α2 : Type} {a0 : α0} {a1 : α1} {a2 : α2} : a0 = a0 ∧ a1 = a1 ∧ a2 = a2 := ⟨rfl, rfl, rfl⟩
theorem z4 {α0 α1 α2 α3 : Type} {a0 : α0} {a1 : α1} {a2 : α2} {a3 : α3} : a0 = a0 ∧ a1 = a1 ∧ a2 = a2 ∧ a3 = a3 ∧ True := ⟨rfl, rfl, rfl, rfl, trivial⟩
theorem y4 {α0 α1 α2 α3 : Type} {a0 : α0} {a1 : α1} {a2 : α2} {a3 : α3} : a0 = a0 ∧ a1 = a1 ∧ a2 = a2 ∧ a3 = a3 := ⟨rfl, rfl, rfl, rfl⟩
theorem z5 {α0 α1 α2 α3 α4 : Type} {a0 : α0} {a1 : α1} {a2 : α2} {a3 : α3} {a4 : α4} : a0 = a0 ∧ a1 = a1 ∧ a2 = a2 ∧ a3 = a3 ∧ a4 = a4 ∧ True := ⟨rfl, rfl, rfl, rfl, rfl, trivial⟩
theorem z6 {α0 α1 α2 α3 α4 α5 : Type} {a0 : α0} {a1 : α1} {a2 : α2} {a3 : α3} {a4 : α4} {a5 : α5} : a0 = a0 ∧ a1 = a1 ∧ a2 = a2 ∧ a3 = a3 ∧ a4 = a4 ∧ a5 = a5 ∧ True := ⟨rfl, rfl, rfl, rfl, rfl, rfl, trivial⟩
theorem z7 {α0 α1 α2 α3 α4 α5 α6 : Type} {a0 : α0} {a1 : α1} {a2 : α2} {a3 : α3} {a4 : α4} {a5 : α5} {a6 : α6} : a0 = a0 ∧ a1 = a1 ∧ a2 = a2 ∧ a3 = a3 ∧ a4 = a4 ∧ a5 = a5 ∧ a6 = a6 ∧ True := ⟨rfl, rfl, rfl, rfl, rfl, rfl, rfl, trivial⟩
theorem z8 {α0 α1 α2 α3 α4 α5 α6 α7 : Type} {a0 : α0} {a1 : α1} {a2 : α2} {a3 : α3} {a4 : α4} {a5 : α5} {a6 : α6} {a7 : α7} : a0 = a0 ∧ a1 = a1 ∧ a2 = a2 ∧ a3 = a3 ∧ a4 = a4 ∧ a5 = a5 ∧ a6 = a6 ∧ a7 = a7 ∧ True := ⟨rfl, rfl, rfl, rfl, rfl, rfl, rfl, rfl, trivial⟩
theorem z9 {α0 α1 α2 α3 α4 α5 α6 α7 α8 : Type} {a0 : α0} {a1 : α1} {a2 : α2} {a3 : α3} {a4 : α4} {a5 : α5} {a6 : α6} {a7 : α7} {a8 : α8} : a0 = a0 ∧ a1 = a1 ∧ a2 = a2 ∧ a3 = a3 ∧ a4 = a4 ∧ a5 = a5 ∧ a6 = a6 ∧ a7 = a7 ∧ a8 = a8 ∧ True := ⟨rfl, rfl, rfl, rfl, rfl, rfl, rfl, rfl, rfl, trivial⟩
theorem z10 {α0 α1 α2 α3 α4 α5 α6 α7 α8 α9 : Type} {a0 : α0} {a1 : α1} {a2 : α2} {a3 : α3} {a4 : α4} {a5 : α5} {a6 : α6} {a7 : α7} {a8 : α8} {a9 : α9} : a0 = a0 ∧ a1 = a1 ∧ a2 = a2 ∧ a3 = a3 ∧ a4 = a4 ∧ a5 = a5 ∧ a6 = a6 ∧ a7 = a7 ∧ a8 = a8 ∧ a9 = a9 ∧ True := ⟨rfl, rfl, rfl, rfl, rfl, rfl, rfl, rfl, rfl, rfl, trivial⟩
theorem z11 {α0 α1 α2 α3 α4 α5 α6 α7 α8 α9 α10 : Type} {a0 : α0} {a1 : α1} {a2 : α2} {a3 : α3} {a4 : α4} {a5 : α5} {a6 : α6} {a7 : α7} {a8 : α8} {a9 : α9} {a10 : α10} : a0 = a0 ∧ a1 = a1 ∧ a2 = a2 ∧ a3 = a3 ∧ a4 = a4 ∧ a5 = a5 ∧ a6 = a6 ∧ a7 = a7 ∧ a8 = a8 ∧ a9 = a9 ∧ a10 = a10 ∧ True := ⟨rfl, rfl, rfl, rfl, rfl, rfl, rfl, rfl, rfl, rfl, rfl, trivial⟩
theorem z13 {α0 α1 α2 α3 α4 α5 α6 α7 α8 α9 α10 α11 α12 : Type} {a0 : α0} {a1 : α1} {a2 : α2} {a3 : α3} {a4 : α4} {a5 : α5} {a6 : α6} {a7 : α7} {a8 : α8} {a9 : α9} {a10 : α10} {a11 : α11} {a12 : α12} : a0 = a0 ∧ a1 = a1 ∧ a2 = a2 ∧ a3 = a3 ∧ a4 = a4 ∧ a5 = a5 ∧ a6 = a6 ∧ a7 = a7 ∧ a8 = a8 ∧ a9 = a9 ∧ a10 = a10 ∧ a11 = a11 ∧ a12 = a12 ∧ True := ⟨rfl, rfl, rfl, rfl, rfl, rfl, rfl, rfl, rfl, rfl, rfl, rfl, rfl, trivial⟩
theorem aU {α0 α1 α2 α3 α4 α5 : Type} {a0 : α0} {a1 : α1} {a2 : α2} {a3 : α3} {a4 : α4} {a5 : α5} : a0 = a0 ∧ a1 = a1 ∧ (a2 = a2 ∧ a3 = a3) ∧ a4 = a4 ∧ a5 = a5 := ⟨rfl, rfl, ⟨rfl, rfl⟩, rfl, rfl⟩
theorem kE {α0 α1 α2 α3 α4 α5 α6 : Type} {a0 : α0} {a1 : α1} {a2 : α2} {a3 : α3} {a4 : α4} {a5 : α5} {a6 : α6} : a0 = a0 ∧ a1 = a1 ∧ (a2 = a2 ∧ a3 = a3) ∧ a4 = a4 ∧ a5 = a5 ∧ a6 = a6 := ⟨rfl, rfl, ⟨rfl, rfl⟩, rfl, rfl, rfl⟩
theorem aX {α0 α1 α2 α3 α4 : Type} {a0 : α0} {a1 : α1} {a2 : α2} {a3 : α3} {a4 : α4} : a0 = a0 ∧ (a1 = a1 ∧ a2 = a2) ∧ a3 = a3 ∧ a4 = a4 := ⟨rfl, ⟨rfl, rfl⟩, rfl, rfl⟩
theorem nP {α0 α1 α2 α3 α4 α5 : Type} {a0 : α0} {a1 : α1} {a2 : α2} {a3 : α3} {a4 : α4} {a5 : α5} : a0 = a0 ∧ (a1 = a1 ∧ a2 = a2) ∧ a3 = a3 ∧ a4 = a4 ∧ a5 = a5 := ⟨rfl, ⟨rfl, rfl⟩, rfl, rfl, rfl⟩
theorem WR {α0 α1 α2 α3 α4 α5 α6 : Type} {a0 : α0} {a1 : α1} {a2 : α2} {a3 : α3} {a4 : α4} {a5 : α5} {a6 : α6} : a0 = a0 ∧ (a1 = a1 ∧ a2 = a2) ∧ a3 = a3 ∧ a4 = a4 ∧ a5 = a5 ∧ a6 = a6 := ⟨rfl, ⟨rfl, rfl⟩, rfl, rfl, rfl, rfl⟩
theorem bP {α0 α1 α2 α3 α4 α5 α6 α7 α8 α9 : Type} {a0 : α0} {a1 : α1} {a2 : α2} {a3 : α3} {a4 : α4} {a5 : α5} {a6 : α6} {a7 : α7} {a8 : α8} {a9 : α9} : a0 = a0 ∧ a1 = a1 ∧ a2 = a2 ∧ a3 = a3 ∧ a4 = a4 ∧ a5 = a5 ∧ a6 = a6 ∧ a7 = a7 ∧ a8 = a8 ∧ a9 = a9 := ⟨rfl, rfl, rfl, rfl, rfl, rfl, rfl, rfl, rfl, rfl⟩
theorem iq {α0 α1 α2 α3 α4 α5 α6 α7 α8 α9 α10 α11 : Type} {a0 : α0} {a1 : α1} {a2 : α2} {a3 : α3} {a4 : α4} {a5 : α5} {a6 : α6} {a7 : α7} {a8 : α8} {a9 : α9} {a10 : α10} {a11 : α11} : a0 = a0 ∧ a1 = a1 ∧ a2 = a2 ∧ a3 = a3 ∧ a4 = a4 ∧ a5 = a5 ∧ a6 = a6 ∧ a7 = a7 ∧ a8 = a8 ∧ a9 = a9 ∧ a10 = a10 ∧ a11 = a11 := ⟨rfl, rfl, rfl, rfl, rfl, rfl, rfl, rfl, rfl, rfl, rfl, rfl⟩
theorem y5 {α0 α1 α2 α3 α4 : Type} {a0 : α0} {a1 : α1} {a2 : α2} {a3 : α3} {a4 : α4} : a0 = a0 ∧ a1 = a1 ∧ a2 = a2 ∧ a3 = a3 ∧ a4 = a4 := ⟨rfl, rfl, rfl, rfl, rfl⟩
theorem y6 {α0 α1 α2 α3 α4 α5 : Type} {a0 : α0} {a1 : α1} {a2 : α2} {a3 : α3} {a4 : α4} {a5 : α5} : a0 = a0 ∧ a1 = a1 ∧ a2 = a2 ∧ a3 = a3 ∧ a4 = a4 ∧ a5 = a5 := ⟨rfl, rfl, rfl, rfl, rfl, rfl⟩
theorem lu {sh : Mem} {x0 : CV} (h : bY (keys sh) x0 = x0) : qI sh [.c x0] [.c x0] := .cons (.c (.same h)) .nil
theorem ji {sh : Mem} {x0 x1 : CV} (h : bY (keys sh) x0 = x0 ∧ bY (keys sh) x1 = x1) : qI sh [.c x0, .c x1] [.c x0, .c x1] := .cons (.c (.same h.1)) (.cons (.c (.same h.2)) .nil)
theorem vH {sh : Mem} {x0 x1 x2 : CV} (h : bY (keys sh) x0 = x0 ∧ bY (keys sh) x1 = x1 ∧ bY (keys sh) x2 = x2) : qI sh [.c x0, .c x1, .c x2] [.c x0, .c x1, .c x2] := .cons (.c (.same h.1)) (.cons (.c (.same h.2.1)) (.cons (.c (.same h.2.2)) .nil))
theorem aII {sh : Mem} {x0 x1 x2 x3 x4 : CV} (h : bY (keys sh) x0 = x0 ∧ bY (keys sh) x1 = x1 ∧ bY (keys sh) x2 = x2 ∧ bY (keys sh) x3 = x3 ∧ bY (keys sh) x4 = x4) : qI sh [.c x0, .c x1, .agg [x2, x3], .c x4] [.c x0, .c x1, .agg [x2, x3], .c x4] := .cons (.c (.same h.1)) (.cons (.c (.same h.2.1)) (.cons (.agg (.cons (.same h.2.2.1) (.cons (.same h.2.2.2.1) .nil))) (.cons (.c (.same h.2.2.2.2)) .nil)))
theorem FI {sh : Mem} {x0 x1 : CV} (h : bY (keys sh) x0 = x0 ∧ bY (keys sh) x1 = x1) : qI sh [.agg [x0, x1]] [.agg [x0, x1]] := .cons (.agg (.cons (.same h.1) (.cons (.same h.2) .nil))) .nil
theorem V4 {sh : Mem} {x0 x1 x2 : CV} (h : bY (keys sh) x0 = x0 ∧ bY (keys sh) x1 = x1 ∧ bY (keys sh) x2 = x2) : qI sh [.agg [x0, x1], .c x2] [.agg [x0, x1], .c x2] := .cons (.agg (.cons (.same h.1) (.cons (.same h.2.1) .nil))) (.cons (.c (.same h.2.2)) .nil)
theorem Qn {sh : Mem} {x0 x1 x2 x3 : CV} (h : bY (keys sh) x0 = x0 ∧ bY (keys sh) x1 = x1 ∧ bY (keys sh) x2 = x2 ∧ bY (keys sh) x3 = x3) : qI sh [.agg [x0, x1], .agg [x2, x3]] [.agg [x0, x1], .agg [x2, x3]] := .cons (.agg (.cons (.same h.1) (.cons (.same h.2.1) .nil))) (.cons (.agg (.cons (.same h.2.2.1) (.cons (.same h.2.2.2) .nil))) .nil)
theorem mO {sh : Mem} {x0 x1 x2 : CV} (h : bY (keys sh) x0 = x0 ∧ bY (keys sh) x1 = x1 ∧ bY (keys sh) x2 = x2) : qI sh [.agg [x0, x1, x2]] [.agg [x0, x1, x2]] := .cons (.agg (.cons (.same h.1) (.cons (.same h.2.1) (.cons (.same h.2.2) .nil)))) .nil
theorem xM {sh : Mem} {x0 x1 x2 x3 : CV} (h : bY (keys sh) x0 = x0 ∧ bY (keys sh) x1 = x1 ∧ bY (keys sh) x2 = x2 ∧ bY (keys sh) x3 = x3) : qI sh [.agg [x0, x1, x2], .c x3] [.agg [x0, x1, x2], .c x3] := .cons (.agg (.cons (.same h.1) (.cons (.same h.2.1) (.cons (.same h.2.2.1) .nil)))) (.cons (.c (.same h.2.2.2)) .nil)
theorem aBG {sh : Mem} {x0 x1 x2 x3 x4 : CV} (h : bY (keys sh) x0 = x0 ∧ bY (keys sh) x1 = x1 ∧ bY (keys sh) x2 = x2 ∧ bY (keys sh) x3 = x3 ∧ bY (keys sh) x4 = x4) : qI sh [.agg [x0, x1, x2], .c x3, .c x4] [.agg [x0, x1, x2], .c x3, .c x4] := .cons (.agg (.cons (.same h.1) (.cons (.same h.2.1) (.cons (.same h.2.2.1) .nil)))) (.cons (.c (.same h.2.2.2.1)) (.cons (.c (.same h.2.2.2.2)) .nil))
theorem XI : kQ Try.prog 22 = some false := by kernel_rfl
theorem iU : kQ Try.prog 24 = some false := by kernel_rfl
theorem lJ : kQ Try.prog 26 = some true := by kernel_rfl
theorem jC : kQ Try.prog 27 = some false := by kernel_rfl
theorem dW : kQ Try.prog 29 = some true := by kernel_rfl
theorem ay : kQ Try.prog 3 = some false := by kernel_rfl
theorem jR : kQ Try.prog 37 = some false := by kernel_rfl
theorem XJ : kQ Try.prog 5 = some false := by kernel_rfl
theorem rF : kQ Try.prog 82 = some true := by kernel_rfl
theorem kZ : kQ Try.prog 96 = some true := by kernel_rfl
theorem aCx : dL Try.prog 10 = true := by kernel_rfl
theorem Ry : dL Try.prog 100 = true := by kernel_rfl
theorem aCy : dL Try.prog 101 = true := by kernel_rfl
theorem Xl : dL Try.prog 11 = true := by kernel_rfl
theorem Xm : dL Try.prog 112 = true := by kernel_rfl
theorem Df : dL Try.prog 115 = true := by kernel_rfl
theorem Ar : dL Try.prog 12 = true := by kernel_rfl
theorem aCz : dL Try.prog 128 = true := by kernel_rfl
theorem aC0 : dL Try.prog 129 = true := by kernel_rfl
theorem aC1 : dL Try.prog 13 = true := by kernel_rfl
theorem aC2 : dL Try.prog 133 = true := by kernel_rfl
theorem Xn : dL Try.prog 134 = true := by kernel_rfl
theorem Xo : dL Try.prog 135 = true := by kernel_rfl
theorem Xp : dL Try.prog 14 = true := by kernel_rfl
theorem pW : dL Try.prog 143 = true := by kernel_rfl
theorem Xq : dL Try.prog 15 = true := by kernel_rfl
theorem Rz : dL Try.prog 150 = true := by kernel_rfl
theorem SA : dL Try.prog 151 = true := by kernel_rfl
theorem aC3 : dL Try.prog 152 = true := by kernel_rfl
theorem aC4 : dL Try.prog 158 = true := by kernel_rfl
theorem Xr : dL Try.prog 159 = true := by kernel_rfl
theorem aC5 : dL Try.prog 16 = true := by kernel_rfl
theorem aC6 : dL Try.prog 160 = true := by kernel_rfl
theorem aC7 : dL Try.prog 161 = true := by kernel_rfl
theorem OT : dL Try.prog 162 = true := by kernel_rfl
theorem Xt : dL Try.prog 163 = true := by kernel_rfl
theorem Xu : dL Try.prog 164 = true := by kernel_rfl
theorem aC8 : dL Try.prog 165 = true := by kernel_rfl
theorem Xv : dL Try.prog 166 = true := by kernel_rfl
theorem Jv : dL Try.prog 167 = true := by kernel_rfl
theorem aC9 : dL Try.prog 168 = true := by kernel_rfl
theorem Xw : dL Try.prog 17 = true := by kernel_rfl
theorem aDA : dL Try.prog 179 = true := by kernel_rfl
theorem aDB : dL Try.prog 18 = true := by kernel_rfl
theorem Xx : dL Try.prog 182 = true := by kernel_rfl
theorem aDC : dL Try.prog 183 = true := by kernel_rfl
theorem Jw : dL Try.prog 184 = true := by kernel_rfl
theorem aDD : dL Try.prog 187 = true := by kernel_rfl
theorem Xy : dL Try.prog 188 = true := by kernel_rfl
theorem aDE : dL Try.prog 189 = true := by kernel_rfl
theorem SB : dL Try.prog 19 = true := by kernel_rfl
theorem aDF : dL Try.prog 190 = true := by kernel_rfl
theorem SC : dL Try.prog 191 = true := by kernel_rfl
theorem aDG : dL Try.prog 192 = true := by kernel_rfl
theorem Xz : dL Try.prog 199 = true := by kernel_rfl
theorem aDH : dL Try.prog 20 = true := by kernel_rfl
theorem aDI : dL Try.prog 201 = true := by kernel_rfl
theorem aDJ : dL Try.prog 202 = true := by kernel_rfl
theorem SE : dL Try.prog 21 = true := by kernel_rfl
theorem aDK : dL Try.prog 22 = true := by kernel_rfl
theorem aDL : dL Try.prog 23 = true := by kernel_rfl
theorem SG : dL Try.prog 24 = true := by kernel_rfl
theorem aDM : dL Try.prog 25 = true := by kernel_rfl
theorem aDN : dL Try.prog 26 = true := by kernel_rfl
theorem X3 : dL Try.prog 27 = true := by kernel_rfl
theorem aDO : dL Try.prog 28 = true := by kernel_rfl
theorem aDP : dL Try.prog 29 = true := by kernel_rfl
theorem Dh : dL Try.prog 54 = true := by kernel_rfl
theorem aDQ : dL Try.prog 60 = true := by kernel_rfl
theorem aDR : dL Try.prog 61 = true := by kernel_rfl
theorem cb7 : dL Try.prog 7 = true := by kernel_rfl
theorem SH : dL Try.prog 79 = true := by kernel_rfl
theorem cb8 : dL Try.prog 8 = true := by kernel_rfl
theorem SI : dL Try.prog 80 = true := by kernel_rfl
theorem X4 : dL Try.prog 81 = true := by kernel_rfl
theorem X5 : dL Try.prog 82 = true := by kernel_rfl
theorem SK : dL Try.prog 83 = true := by kernel_rfl
theorem X6 : dL Try.prog 84 = true := by kernel_rfl
theorem X7 : dL Try.prog 85 = true := by kernel_rfl
theorem SL : dL Try.prog 86 = true := by kernel_rfl
theorem Au : dL Try.prog 87 = true := by kernel_rfl
theorem X8 : dL Try.prog 88 = true := by kernel_rfl
theorem aDS : dL Try.prog 89 = true := by kernel_rfl
theorem cb9 : dL Try.prog 9 = true := by kernel_rfl
theorem X9 : dL Try.prog 90 = true := by kernel_rfl
theorem SN : dL Try.prog 91 = true := by kernel_rfl
theorem YA : dL Try.prog 92 = true := by kernel_rfl
theorem aDT : dL Try.prog 93 = true := by kernel_rfl
theorem aDU : dL Try.prog 94 = true := by kernel_rfl
theorem aDV : dL Try.prog 95 = true := by kernel_rfl
theorem aDW : dL Try.prog 96 = true := by kernel_rfl
theorem aDX : dL Try.prog 97 = true := by kernel_rfl
theorem aDY : dL Try.prog 98 = true := by kernel_rfl
theorem YB : dL Try.prog 99 = true := by kernel_rfl
theorem YR : tJ Try.prog 22 = some 5 := by kernel_rfl
theorem rH : tJ Try.prog 24 = some 96 := by kernel_rfl
theorem kG : tJ Try.prog 27 = some 82 := by kernel_rfl
theorem iL : tJ Try.prog 31 = some 37 := by kernel_rfl
theorem dR : tJ Try.prog 37 = some 3 := by kernel_rfl
theorem Yc : qK Try.prog 139 0 = some 0 := by kernel_rfl
theorem Ol : qK Try.prog 139 1 = some 1 := by kernel_rfl
theorem Om : qK Try.prog 139 2 = some 2 := by kernel_rfl
theorem mQ : qK Try.prog 26 0 = some 0 := by kernel_rfl
theorem iJ : qK Try.prog 26 1 = some 1 := by kernel_rfl
theorem jm : qK Try.prog 29 0 = some 0 := by kernel_rfl
theorem iy : qK Try.prog 29 1 = some 2 := by kernel_rfl
theorem rJ : qK Try.prog 82 0 = some 0 := by kernel_rfl
theorem sN : qK Try.prog 82 1 = some 1 := by kernel_rfl
theorem lS : qK Try.prog 96 0 = some 0 := by kernel_rfl
theorem mV : qK Try.prog 96 1 = some 1 := by kernel_rfl
theorem LG : (Try.prog.info? 24).isSome = true := by kernel_rfl
theorem iR : (Try.prog.info? 26).isSome = true := by kernel_rfl
theorem Zb : (Try.prog.info? 27).isSome = true := by kernel_rfl
theorem bn : (Try.prog.info? 29).isSome = true := by kernel_rfl
theorem nI : (Try.prog.info? 3).isSome = true := by kernel_rfl
theorem wF : (Try.prog.info? 37).isSome = true := by kernel_rfl
theorem nT : (Try.prog.info? 82).isSome = true := by kernel_rfl
theorem jO : (Try.prog.info? 96).isSome = true := by kernel_rfl
theorem LK : Gj Try.prog 82 = some 2 := by kernel_rfl
theorem U5 : Gj Try.prog 96 = some 2 := by kernel_rfl
theorem mixed : Try.prog.follows .mixedOrders = true := by kernel_rfl
theorem aHn : Ez Try.prog 139 = some [(0, 1), (1, 1), (2, 1)] := by kernel_rfl
theorem JI : Ez Try.prog 26 = some [(0, 1), (1, 1)] := by kernel_rfl
theorem aHo : Ez Try.prog 29 = some [(0, 2), (2, 1)] := by kernel_rfl
theorem aHp : Ez Try.prog 82 = some [(0, 1), (1, 1)] := by kernel_rfl
theorem CJ : Ez Try.prog 96 = some [(0, 1), (1, 1)] := by kernel_rfl
theorem aIl : bM Try.prog 139 = 3 := by kernel_rfl
theorem Nh : bM Try.prog 24 = 1 := by kernel_rfl
theorem gu : bM Try.prog 26 = 2 := by kernel_rfl
theorem aBU : bM Try.prog 27 = 1 := by kernel_rfl
theorem bU : bM Try.prog 29 = 3 := by kernel_rfl
theorem fM : bM Try.prog 3 = 1 := by kernel_rfl
theorem qy : bM Try.prog 37 = 1 := by kernel_rfl
theorem sz5 : bM Try.prog 5 = 1 := by kernel_rfl
theorem iH : bM Try.prog 82 = 2 := by kernel_rfl
theorem fQ : bM Try.prog 96 = 2 := by kernel_rfl
theorem aIq : TI Try.prog 139 (.agg #[(.slice none 0 0), (.int .i64 0), (.int .i64 0)]) 3 40 := by unfold TI; kernel_rfl
theorem qX : TI Try.prog 26 (.agg #[(.int .i64 0), (.slice none 0 0)]) 2 32 := by unfold TI; kernel_rfl
theorem pI : TI Try.prog 29 (.agg #[(.int .i64 0), (.slice none 0 0), (.slice none 0 0)]) 3 56 := by unfold TI; kernel_rfl
theorem eu : TI Try.prog 3 (.int .i64 0) 1 8 := by unfold TI; kernel_rfl
theorem kX : TI Try.prog 37 (.slice none 0 0) 1 24 := by unfold TI; kernel_rfl
theorem AY : TI Try.prog 82 (.agg #[(.int .i64 0), (.int .i64 0)]) 2 16 := by unfold TI; kernel_rfl
theorem jo : TI Try.prog 96 (.agg #[(.int .i64 0), (.int .i64 0)]) 2 16 := by unfold TI; kernel_rfl
theorem Nq : Try.prog.underlying 22 = some (.slice 5) := by kernel_rfl
theorem ig : Try.prog.underlying 24 = some (.slice 96) := by kernel_rfl
theorem sZ : Try.prog.underlying 27 = some (.slice 82) := by kernel_rfl
theorem aBo : Try.prog.underlying 3 = some (.int .i64) := by kernel_rfl
theorem gy : Try.prog.underlying 31 = some (.slice 37) := by kernel_rfl
theorem bZ : Try.prog.underlying 37 = some (.slice 3) := by kernel_rfl
theorem Q5 : Try.prog.underlying 4 = some .bool := by kernel_rfl
theorem aBp : (Try.prog.underlying 5).isSome = true := by kernel_rfl
end Go.Proofs.Ytdmlaldifbmkpaa
end
section
set_option linter.unusedVariables false
set_option linter.unusedSimpArgs false
set_option linter.unnecessarySimpa false
set_option maxRecDepth 100000
set_option maxHeartbeats 8000000
open Go Go.Fw
namespace Go.Proofs.Ytdmlaldifbmkpaa
theorem aJR (code : (List Int)) : FT Try.prog (P7 code) 7 [.c (xF bD code)] [] (fun (t : Bool) => [.c (bC t)]) (fun (t : Bool) => []) [] := by
 refine FT.of [] Try.func7 Try.ntmps7 Q y2 ?_
 intro w0 U0 R0 g0
 unfold P7
 refine Ws (Wr ?_)
 refine aJ (Bv false) aX (On (Ws (Wr ?_)))
 refine aF (Cc (xF bD code)) y4 (aS (LT.fA Q Nq) Q Q Q (aT LT.gtr aU (aJ (Bv (decide (1048576 < (code.length : Int)))) y4 (On (aC.ret (aj.mk (.inr Q) z1 J Q ⟨au.sc,J⟩ J))))))
theorem Wl (code : (List Int)) : FT Try.prog (Eh code) 80 [.c (xT bD code)] [] (fun (t : cZ) => [.c (.pl 0 0)]) (fun (t : cZ) => [(0,.row 139 [[xT bD t.b,iC t.i,iC t.h]])]) [0] := by
 refine FT.of [] Try.func80 Try.ntmps80 Q y2 ?_
 intro w0 U0 R0 g0
 unfold Eh
 refine Ws (Wr ?_)
 refine aJ (Cc (sC (.pointer none))) aX (On (Ws (Wr ?_)))
 refine aF (Cc (xT bD code)) y4 (aS (LT.fA Q Nq) Q Q Q (aT LT.add nP (aJ (Iv (aA (10101 + (code.length : Int)))) y4 (On (Ws (Ws (Wr ?_)))))))
 refine aJ (Iv 0) aX (On (aC.block ?_))
 refine aC.iW (id := 0) (Ei code) (fun s1 => ([(0,Cc (xT bD code)),(3,Iv s1.1),(4,Iv s1.2)],[])) (fun b12 => ([(0,Cc (xT bD code)),(3,Iv b12)],[])) ?_ (aO.of z3 J) Q (fun b12 _ => ?_)
 ·intro s1
  unfold Ei
  refine Ws (Ws ?_)
  refine aC.fC (fun j14 => ([(0,Cc (xT bD code)),(3,Iv s1.1),(4,Iv s1.2),(15,Bv j14)],[])) ?_ (fun j14 _ => ?_)
  ·refine Wr (aF (Iv s1.2) y4 (aF (Cc (xT bD code)) y4 (aS (LT.fA Q Nq) Q Q Q (aT LT.lss y5 (aF (Bv (decide (s1.2 < (code.length : Int)))) y4 (aP.split (fun qj => ?_) (fun qj => ?_)))))))
   ·refine gW (Iv s1.2) qj y5 (iT LT.lss qj kE (dh (Bv (decide (s1.2 < 4000))) qj y5 (On (aW Q z4 J))))
   ·refine aV qj y5 (aV qj y5 (gY (Bv false) qj aU (On (aW Q z4 J))))
  ·refine aC.cond Q (fun hc16 => ?_) (fun hc16 => ?_)
   ·refine aC.skip (Ws (aC.block (Wr ?_)))
    refine aF (Iv s1.1) y4 (aT LT.mul aU (aF (Cc (xT bD code)) y4 (aF (Iv s1.2) y4 (aQ fun x17 PK => (dY (LT.dH (enc := bD) Q YR PK sz5) Q Q Q Q (aS (LT.fO Q XJ) Q Q Q (aS (LT.YI Q aBp aBo) Q Q Q (aT LT.add y5 (aT LT.add aU (aT LT.and aU (aJ (Iv (bits .and .i64 (aA ((aA ((aA (s1.1 * 131)) + (aA x17))) + 7)) 1073741823)) y4 ?_)))))))))))
    refine On (aC.blk ?_)
    refine en [(0,Cc (xT bD code)),(3,Iv (bits .and .i64 (aA ((aA ((aA (s1.1 * 131)) + (aA x17))) + 7)) 1073741823)),(4,Iv s1.2)] [] z3 J (Wr (aF (Iv s1.2) y4 (aT LT.add aU (aJ (Iv (aA (s1.2 + 1))) y4 (On (aW Q z3 J))))))
   ·refine aC.eF Q ⟨Q,aO.of z2 J⟩
 ·refine Ws (Wr ?_)
  refine aF (Cc (xT bD code)) y4 (aF (Iv b12) y4 (dY (LT.build [(0,.tmp 28,.c (xT bD code)),(2,.tmp 29,.c (iC b12))] Q Q aHn aIq Q Q Q) Q Q Q Q (fK (LT.box (n := 21) (v := (.agg [xT bD code,iC 0,iC b12])) Q aIl (by exact Q)) Q Q Q (aJ (Cc (.pl 21 0)) y4 (On (en [(2,Cc (.pl 21 0))] [(21,.row 139 [[xT bD code,iC 0,iC b12]])] z1 z1 (aC.ent (aO.mv 21 0 Q Q) (en [(2,Cc (.pl 0 0))] [(0,.row 139 [[xT bD code,iC 0,iC b12]])] z1 z1 (aC.ret (aj.mk (.inr Q) z1 z1 Q ⟨J,J⟩ ⟨dG.qw ⟨kT qo,au.sc,au.sc,J⟩,J⟩))))))))))
theorem Nu (c : cZ) : FT Try.prog (zx c) 184 [.c (.pl 0 0)] [(0,.row 139 [[xT bD c.b,iC c.i,iC c.h]])] (fun (t : (Int × cZ)) => [.c (iC t.1)]) (fun (t : (Int × cZ)) => [(0,.row 139 [[xT bD t.2.b,iC t.2.i,iC t.2.h]])]) [] := by
 refine FT.of [0] Try.func184 Try.ntmps184 Q y2 ?_
 intro w0 U0 R0 g0
 unfold zx
 refine Ws (Wr ?_)
 refine aJ (Iv 0) aX (On (Ws (Wr ?_)))
 refine aF (Cc (.pl 0 0)) y4 (aF (Cc (.pl 0 0)) y4 (aS (LT.yQ Q) Q Q Q (fV (iC c.h) Om ay bP (aT LT.mul aU (aT LT.add aU (aS (LT.yQ Q) Q Q Q (aS (LT.gV Q Om) Q Q Q (dU (AQ (.c (iC (aA ((aA (c.h * 6364136223846793005)) + 1442695040888963407)))) [xT bD c.b,iC c.i,iC (aA ((aA (c.h * 6364136223846793005)) + 1442695040888963407))] Q Q nI fM) Q Q Q Q Q (On (Ws ?_))))))))))
 refine en [(0,Cc (.pl 0 0))] [(0,.row 139 [[xT bD c.b,iC c.i,iC (aA ((aA (c.h * 6364136223846793005)) + 1442695040888963407))]])] z1 z1 (aC.draw mixed (ak (Cc (.pl 0 0)) y4 (bJ (LT.yQ Q) Q Q Q (eG (iC (aA ((aA (c.h * 6364136223846793005)) + 1442695040888963407))) Om ay bP (dJ (LT.shr Q (by decide)) Q y2 Q Q (ak (Cc (.pl 0 0)) y4 (bJ (LT.yQ Q) Q Q Q (eG (iC (aA ((aA (c.h * 6364136223846793005)) + 1442695040888963407))) Om ay bP (dJ (LT.shr Q (by decide)) Q y2 Q Q ?_)))))))))
 refine iE LT.xor y5 (iE LT.and aU (bJ (LT.assign (v := (Iv (bits .and .i64 (bits .xor .i64 (qC (aA ((aA (c.h * 6364136223846793005)) + 1442695040888963407)) 33) (qC (aA ((aA (c.h * 6364136223846793005)) + 1442695040888963407)) 45)) 255))) Q) Q Q Q (aN.nil (by kernel_rfl) (Ws (Ws ?_)))))
 refine en [(0,Cc (.pl 0 0)),(3,Iv (bits .and .i64 (bits .xor .i64 (qC (aA ((aA (c.h * 6364136223846793005)) + 1442695040888963407)) 33) (qC (aA ((aA (c.h * 6364136223846793005)) + 1442695040888963407)) 45)) 255))] [(0,.row 139 [[xT bD c.b,iC c.i,iC (aA ((aA (c.h * 6364136223846793005)) + 1442695040888963407))]])] z2 z1 (aC.draw mixed (ak (Cc (.pl 0 0)) y4 (bJ (LT.yQ Q) Q Q Q (eG (iC c.i) Ol ay bP (ak (Cc (.pl 0 0)) y4 (bJ (LT.yQ Q) Q Q Q (eG (xT bD c.b) Yc XI bP (bJ (LT.fA Q Nq) Q Q Q (iE LT.lss y5 ?_)))))))))
 refine aN.nil (by kernel_rfl) (aC.fC (fun j3 => ([(3,Iv j3.1)],[(0,.row 139 [[xT bD c.b,iC j3.2,iC (aA ((aA (c.h * 6364136223846793005)) + 1442695040888963407))]])])) ?_ (fun j3 _ => ?_))
 ·refine aC.cond Q (fun hc4 => ?_) (fun hc4 => ?_)
  ·refine Ws (aC.draw mixed ?_)
   refine ak (Iv (bits .and .i64 (bits .xor .i64 (qC (aA ((aA (c.h * 6364136223846793005)) + 1442695040888963407)) 33) (qC (aA ((aA (c.h * 6364136223846793005)) + 1442695040888963407)) 45)) 255)) y4 (ak (Cc (.pl 0 0)) y4 (bJ (LT.yQ Q) Q Q Q (eG (xT bD c.b) Yc XI bP (ak (Cc (.pl 0 0)) y4 (bJ (LT.yQ Q) Q Q Q (eG (iC c.i) Ol ay bP (aN.bind fun x5 hx5 => (dJ (LT.dH (enc := bD) Q YR hx5 sz5) Q Q Q Q (bJ (LT.fO Q XJ) Q Q Q ?_)))))))))
   refine bJ (LT.YI Q aBp aBo) Q Q Q (iE LT.add y5 (iE LT.and aU (bJ (LT.assign (v := (Iv (bits .and .i64 (aA ((bits .and .i64 (bits .xor .i64 (qC (aA ((aA (c.h * 6364136223846793005)) + 1442695040888963407)) 33) (qC (aA ((aA (c.h * 6364136223846793005)) + 1442695040888963407)) 45)) 255) + (aA x5))) 255))) Q) Q Q Q (aN.nil (by kernel_rfl) (en [(0,Cc (.pl 0 0)),(3,Iv (bits .and .i64 (aA ((bits .and .i64 (bits .xor .i64 (qC (aA ((aA (c.h * 6364136223846793005)) + 1442695040888963407)) 33) (qC (aA ((aA (c.h * 6364136223846793005)) + 1442695040888963407)) 45)) 255) + (aA x5))) 255))] [(0,.row 139 [[xT bD c.b,iC c.i,iC (aA ((aA (c.h * 6364136223846793005)) + 1442695040888963407))]])] z2 z1 (Wr (aF (Cc (.pl 0 0)) y4 (aF (Cc (.pl 0 0)) y4 (aS (LT.yQ Q) Q Q Q (fV (iC c.i) Ol ay bP ?_))))))))))
   refine aT LT.add aU (aS (LT.yQ Q) Q Q Q (aS (LT.gV Q Ol) Q Q Q (dU (AQ (.c (iC (aA (c.i + 1)))) [xT bD c.b,iC (aA (c.i + 1)),iC (aA ((aA (c.h * 6364136223846793005)) + 1442695040888963407))] Q Q nI fM) Q Q Q Q Q (On (aW Q z1 z1)))))
  ·refine aC.skip (aW Q z1 z1)
 ·refine Ws (Wr ?_)
  refine aF (Iv j3.1) y4 (aJ (Iv j3.1) y4 (On (aC.ret (aj.mk (.inr Q) z1 z1 Q ⟨au.sc,J⟩ ⟨dG.qw ⟨kT qo,au.sc,au.sc,J⟩,J⟩))))
theorem qE (c : cZ) (n : Int) : FT Try.prog (nJ c n) 143 [.c (.pl 0 0),.c (iC n)] [(0,.row 139 [[xT bD c.b,iC c.i,iC c.h]])] (fun (t : (Int × cZ)) => [.c (iC t.1)]) (fun (t : (Int × cZ)) => [(0,.row 139 [[xT bD t.2.b,iC t.2.i,iC t.2.h]])]) [] := by
 refine FT.of [0] Try.func143 Try.ntmps143 Q y2 ?_
 intro w0 U0 R0 g0
 unfold nJ
 refine Ws (Wr ?_)
 refine aJ (Iv 0) aX (On (Ws (Ws (Wr ?_))))
 refine aF (Iv n) y4 (aT LT.leq aU (On (aC.cond Q (fun hc1 => ?_) (fun hc1 => ?_))))
 ·refine Ws (Wr ?_)
  refine aJ (Iv 0) aX (On (aC.ret (aj.mk (.inr Q) z1 z1 Q ⟨au.sc,J⟩ ⟨dG.qw ⟨kT qo,au.sc,au.sc,J⟩,J⟩)))
 ·refine aC.skip (Ws (Ws (Wr ?_)))
  refine aF (Iv n) y4 (aT LT.leq aU (On (aC.cond Q (fun hc2 => ?_) (fun hc2 => ?_))))
  ·refine Ws (Wr ?_)
   refine aF (Cc (.pl 0 0)) y4 (aQ fun r3 hr3 => (aP.step (bQ [.c (.pl 0 0)] (Fw.Fn.ren [(0,0)] (Nu c r3 hr3) Q) Jw (lu Q) z1 y3) z2 z1 Q Q (aF (Iv n) y4 (aQ fun u4 hu4 => (dY (LT.rem Q (uq hu4)) Q Q Q Q (aJ (Iv (Int.tmod r3.1 n)) y4 (On (aC.ret (aj.mk (.inr Q) z1 z1 Q ⟨au.sc,J⟩ ⟨dG.qw ⟨kT qo,au.sc,au.sc,J⟩,J⟩)))))))))
  ·refine aC.skip (Ws (Wr ?_))
   refine aF (Cc (.pl 0 0)) y4 (aQ fun r5 vV => (aP.step (bQ [.c (.pl 0 0)] (Fw.Fn.ren [(0,0)] (Nu c r5 vV) Q) Jw (lu Q) z1 y3) z2 z1 Q Q (aJ (Iv r5.1) y4 (On (Ws (Wr ?_))))))
   refine aF (Cc (.pl 0 0)) y4 (aQ fun r6 KR => (aP.step (bQ [.c (.pl 0 0)] (Fw.Fn.ren [(0,0)] (Nu r5.2 r6 KR) Q) Jw (lu Q) z1 y3) z2 z1 Q Q (aJ (Iv r6.1) y4 (On (Ws ?_)))))
   refine en [(0,Cc (.pl 0 0)),(1,Iv n),(5,Iv r5.1),(6,Iv r6.1)] [(0,.row 139 [[xT bD r6.2.b,iC r6.2.i,iC r6.2.h]])] z4 z1 (Wr (aF (Cc (.pl 0 0)) y4 (aQ fun r7 tY => (aP.step (bQ [.c (.pl 0 0)] (Fw.Fn.ren [(0,0)] (Nu r6.2 r7 tY) Q) Jw (lu Q) z1 y3) z2 z1 Q Q (aJ (Iv r7.1) y4 (On (Ws (Wr ?_))))))))
   refine aF (Cc (.pl 0 0)) y4 (aQ fun r8 xB => (aP.step (bQ [.c (.pl 0 0)] (Fw.Fn.ren [(0,0)] (Nu r7.2 r8 xB) Q) Jw (lu Q) z1 y3) z2 z1 Q Q (aJ (Iv r8.1) y4 (On (Ws (Wr ?_))))))
   refine aF (Iv r5.1) y4 (aT LT.mul aU (aF (Iv r6.1) y4 (aT LT.mul aU (aT LT.add y5 (aF (Iv r7.1) y4 (aT LT.mul aU (aT LT.add y5 (aF (Iv r8.1) y4 (aT LT.add y5 (aF (Iv n) y4 (aQ fun u9 hu9 => ?_)))))))))))
   refine dY (LT.rem Q (uq hu9)) Q Q Q Q (aJ (Iv (Int.tmod (aA ((aA ((aA ((aA (r5.1 * 16777216)) + (aA (r6.1 * 65536)))) + (aA (r7.1 * 256)))) + r8.1)) n)) y4 (On (aC.ret (aj.mk (.inr Q) z1 z1 Q ⟨au.sc,J⟩ ⟨dG.qw ⟨kT qo,au.sc,au.sc,J⟩,J⟩))))
theorem aJn (c : cZ) (n : Int) (odd : Int) : FT Try.prog (Md c n odd) 187 [.c (.pl 0 0),.c (iC n),.c (iC odd)] [(0,.row 139 [[xT bD c.b,iC c.i,iC c.h]])] (fun (t : (dZ × cZ)) => [.agg [iC t.1.aG,lo 1 t.1.aB.length]]) (fun (t : (dZ × cZ)) => [(0,.row 139 [[xT bD t.2.b,iC t.2.i,iC t.2.h]]),(1,pR 96 aI t.1.aB)]) [1] := by
 refine FT.of [0] Try.func187 Try.ntmps187 Q y2 ?_
 intro w0 U0 R0 g0
 unfold Md
 refine Ws (Wr ?_)
 refine dP (LT.alloc (n := 21) (cells := [iC 0,sC ah]) Q qX Q Q Q) Q Q (On (Ws (Wr ?_)))
 refine aF (Iv n) y4 (dP (LT.fZ (n := 22) (enc := aI) [] ([] : List aY) Q Q ig jo Q Q Q Q (by decide) (fun _ => Q) Q) Q Q (dY (LT.build [(0,.tmp 10,.c (iC n)),(1,.tmp 11,.c (lo 22 (([] : List aY).length)))] Q Q JI qX Q Q Q) Q Q Q Q (dP (LT.alloc (n := 23) (cells := [iC 0,sC ah]) Q qX Q Q Q) Q Q (dU (stA [iC n,lo 22 (([] : List aY).length)] Q Q iR gu) Q Q Q Q Q (On (Ws (Ws ?_)))))))
 refine en [(0,Cc (.pl 0 0)),(1,Iv n),(2,Iv odd),(6,Cc (.pl 21 0)),(7,Cc (.pl 23 0))] [(0,.row 139 [[xT bD c.b,iC c.i,iC c.h]]),(21,.row 26 [[iC 0,sC ah]]),(22,pR 96 aI ([] : List aY)),(23,.row 26 [[iC n,lo 22 (([] : List aY).length)]])] z5 z4 (Wr (aJ (Iv 0) aX (On (aC.block ?_))))
 refine aC.iW (id := 0) (Me n odd) (fun s1 => ([(0,Cc (.pl 0 0)),(1,Iv n),(2,Iv odd),(6,Cc (.pl 21 0)),(7,Cc (.pl 23 0)),(8,Iv s1.1)],[(0,.row 139 [[xT bD s1.2.1,iC s1.2.2.1,iC s1.2.2.2.1]]),(21,.row 26 [[iC 0,sC ah]]),(22,pR 96 aI s1.2.2.2.2),(23,.row 26 [[iC n,lo 22 s1.2.2.2.2.length]])])) (fun iF => ([(6,Cc (.pl 21 0)),(7,Cc (.pl 23 0))],[(0,.row 139 [[xT bD iF.1,iC iF.2.1,iC iF.2.2.1]]),(21,.row 26 [[iC 0,sC ah]]),(22,pR 96 aI iF.2.2.2),(23,.row 26 [[iC n,lo 22 iF.2.2.2.length]])])) ?_ (aO.of z6 z4) Q (fun iF _ => ?_)
 ·intro s1
  unfold Me
  refine Ws (Ws (Wr ?_))
  refine aF (Iv s1.1) y4 (aF (Iv n) y4 (aT LT.lss y5 (On (aC.cond Q (fun Tn => ?_) (fun Tn => ?_)))))
  ·refine aC.skip (Ws (aC.block (Ws (Wr ?_))))
   refine aF (Iv s1.1) y4 (aT LT.add aU (aJ (Iv (aA (s1.1 + 1))) y4 (On (aC.block ?_))))
   refine aC.iW (id := 2) (Il n odd s1) (fun jG => ([(0,Cc (.pl 0 0)),(1,Iv n),(2,Iv odd),(6,Cc (.pl 21 0)),(7,Cc (.pl 23 0)),(8,Iv s1.1),(9,Iv jG.1)],[(0,.row 139 [[xT bD jG.2.1,iC jG.2.2.1,iC jG.2.2.2.1]]),(21,.row 26 [[iC 0,sC ah]]),(22,pR 96 aI jG.2.2.2.2),(23,.row 26 [[iC n,lo 22 jG.2.2.2.2.length]])])) (fun tH => ([(0,Cc (.pl 0 0)),(1,Iv n),(2,Iv odd),(6,Cc (.pl 21 0)),(7,Cc (.pl 23 0)),(8,Iv tH.1)],[(0,.row 139 [[xT bD tH.2.1,iC tH.2.2.1,iC tH.2.2.2.1]]),(21,.row 26 [[iC 0,sC ah]]),(22,pR 96 aI tH.2.2.2.2),(23,.row 26 [[iC n,lo 22 tH.2.2.2.2.length]])])) ?_ (aO.of z7 z4) Q (fun tH _ => ?_)
   ·intro jG
    unfold Il
    refine Ws (Ws (Wr ?_))
    refine aF (Iv jG.1) y4 (aF (Iv n) y4 (aT LT.lss y5 (On (aC.cond Q (fun Tv => ?_) (fun Tv => ?_)))))
    ·refine aC.skip (Ws (aC.block (Ws ?_)))
     refine aC.fC (fun j81 => ([(0,Cc (.pl 0 0)),(1,Iv n),(2,Iv odd),(6,Cc (.pl 21 0)),(7,Cc (.pl 23 0)),(8,Iv s1.1),(9,Iv jG.1),(34,Bv j81.1)],[(0,.row 139 [[xT bD j81.2.1,iC j81.2.2.1,iC j81.2.2.2]]),(21,.row 26 [[iC 0,sC ah]]),(22,pR 96 aI jG.2.2.2.2),(23,.row 26 [[iC n,lo 22 jG.2.2.2.2.length]])])) ?_ (fun j81 _ => ?_)
     ·refine Wr (aF (Cc (.pl 0 0)) y4 (aQ fun yU aFp => (aP.step (bQ [.c (.pl 0 0),.c (iC 10)] (Fw.Fn.ren [(0,0)] (qE (cZ.mk jG.2.1 jG.2.2.1 jG.2.2.2.1) 10 yU aFp) Q) pW (ji y2) z1 y3) ⟨Q,Q,y2,J⟩ z1 Q Q (aF (Iv odd) y4 (aT LT.lss y5 (aF (Bv (decide (yU.1 < odd))) y4 (aP.split (fun yF => ?_) (fun yF => ?_))))))))
      ·refine kR (lo 22 jG.2.2.2.2.length) iJ iU yF iq (aS (LT.jg Q ig) Q (gH yF Q Q) Q (iT LT.lss yF kE (dh (Bv (decide ((jG.2.2.2.2.length : Int) < 24))) yF y5 (On (aW Q z8 z4)))))
      ·refine aV yF y5 (aV yF y5 (aV yF y5 (aV yF y5 (gY (Bv false) yF aU (On (aW Q z8 z4))))))
     ·refine aC.fC (fun j86 => ([(0,Cc (.pl 0 0)),(1,Iv n),(2,Iv odd),(6,Cc (.pl 21 0)),(7,Cc (.pl 23 0)),(8,Iv s1.1),(9,Iv jG.1)],[(0,.row 139 [[xT bD j81.2.1,iC j81.2.2.1,iC j81.2.2.2]]),(21,.row 26 [[iC 0,sC ah]]),(22,pR 96 aI j86),(23,.row 26 [[iC n,lo 22 j86.length]])])) ?_ (fun j86 _ => ?_)
      ·refine aC.cond Q (fun aEt => ?_) (fun aEt => ?_)
       ·refine Wr (fV (lo 22 jG.2.2.2.2.length) iJ iU bP (aF (Iv s1.1) y4 (aF (Iv jG.1) y4 (dY (LT.build [(0,.tmp 37,.c (iC s1.1)),(1,.tmp 38,.c (iC jG.1))] Q Q CJ jo Q Q Q) Q Q Q Q (fK (LT.fZ (n := 25) (enc := aI) [(0,.tmp 39,.agg [iC s1.1,iC jG.1])] [aY.mk s1.1 jG.1] Q Q ig jo Q Q Q Q (by decide) (fun _ => Q) Q) Q Q Q (aQ fun u88 aGU => (nS (LT.lI (enc := aI) Q Q Q ig jo Q (by decide) (by decide) (fun _ => Q) (jU aGU)) Q Q Q Q Q Q (aS (LT.gV Q iJ) Q Q Q (dU (AQ (.c (lo 22 ((jG.2.2.2.2 ++ [aY.mk s1.1 jG.1]).length))) [iC n,lo 22 ((jG.2.2.2.2 ++ [aY.mk s1.1 jG.1]).length)] Q Q LG Nh) Q Q Q Q Q (On ?_))))))))))
        refine aW Q z7 z4
       ·refine aC.skip (aW Q z7 z4)
      ·refine aC.blk (Wr ?_)
       refine aF (Iv jG.1) y4 (aT LT.add aU (aJ (Iv (aA (jG.1 + 1))) y4 (On (aW Q z7 z4))))
    ·refine aC.eF Q ⟨Q,aO.of z6 z4⟩
   ·refine aC.blk (Wr ?_)
    refine aF (Iv tH.1) y4 (aT LT.add aU (aJ (Iv (aA (tH.1 + 1))) y4 (On (aW Q z6 z4))))
  ·refine aC.eF Q ⟨Q,aO.of z2 z4⟩
 ·refine Ws (Wr ?_)
  refine bf (cO [iC n,lo 22 iF.2.2.2.length] Q lJ iR gu) Q Q Q Q (dU (stA [iC n,lo 22 iF.2.2.2.length] Q Q iR gu) Q Q Q Q Q (On (en [(6,Cc (.pl 21 0))] [(0,.row 139 [[xT bD iF.1,iC iF.2.1,iC iF.2.2.1]]),(21,.row 26 [[iC n,lo 22 iF.2.2.2.length]]),(22,pR 96 aI iF.2.2.2)] z1 z3 (aC.ent (aO.mv 22 1 Q Q) (en [(6,Cc (.pl 21 0))] [(0,.row 139 [[xT bD iF.1,iC iF.2.1,iC iF.2.2.1]]),(1,pR 96 aI iF.2.2.2),(21,.row 26 [[iC n,lo 1 iF.2.2.2.length]])] z1 z3 (aC.ret (aj.mk (.inr Q) ⟨⟨_,_,_,Q,Q,Q,lJ,gu,_,dK iR⟩,J⟩ z2 Q ⟨⟨au.sc,J,J⟩,J⟩ ⟨dG.qw ⟨kT qo,au.sc,au.sc,J⟩,dG.gm oh,J⟩)))))))
theorem Wi (c : cZ) (g : dZ) : FT Try.prog (Ec c g) 150 [.c (.pl 0 0),.agg [iC g.aG,xF aI g.aB]] [(0,.row 139 [[xT bD c.b,iC c.i,iC c.h]])] (fun (t : (aZ × cZ)) => [.agg [iC t.1.Graph.aG,lo 1 t.1.Graph.aB.length,lo 2 t.1.Places.length]]) (fun (t : (aZ × cZ)) => [(0,.row 139 [[xT bD t.2.b,iC t.2.i,iC t.2.h]]),(1,pR 96 aI t.1.Graph.aB),(2,pR 82 aK t.1.Places)]) [1,2] := by
 refine FT.of [0] Try.func150 Try.ntmps150 Q y2 ?_
 intro w0 U0 R0 g0
 unfold Ec
 refine Ws (Wr ?_)
 refine fK (LT.box (n := 21) (v := (.agg [iC g.aG,xF aI g.aB])) Q gu (by exact Q)) Q Q Q (dP (LT.alloc (n := 22) (cells := [iC 0,sC ah,sC ah]) Q pI Q Q Q) Q Q (On (Ws (Wr ?_))))
 refine fV (iC g.aG) mQ ay bP (dP (LT.fZ (n := 23) (enc := aI) [] ([] : List aY) Q Q ig jo Q Q Q Q (by decide) (fun _ => Q) Q) Q Q (dY (LT.build [(0,.tmp 11,.c (iC g.aG)),(1,.tmp 12,.c (lo 23 (([] : List aY).length)))] Q Q JI qX Q Q Q) Q Q Q Q (aS (LT.build [(0,.tmp 13,.agg [iC g.aG,lo 23 (([] : List aY).length)])] Q Q aHo pI Q Q Q) Q Q Q (dP (LT.alloc (n := 24) (cells := [iC 0,sC ah,sC ah]) Q pI Q Q Q) Q Q (dU (stA [iC g.aG,lo 23 (([] : List aY).length),sC ah] Q Q bn bU) Q Q Q Q Q (On (Ws (Ws ?_))))))))
 refine en [(0,Cc (.pl 0 0)),(3,Cc (.pl 21 0)),(4,Cc (.pl 22 0)),(5,Cc (.pl 24 0))] [(0,.row 139 [[xT bD c.b,iC c.i,iC c.h]]),(21,.row 26 [[iC g.aG,xF aI g.aB]]),(22,.row 29 [[iC 0,sC ah,sC ah]]),(23,pR 96 aI ([] : List aY)),(24,.row 29 [[iC g.aG,lo 23 (([] : List aY).length),sC ah]])] z4 z5 (Wr (aJ (Iv 0) aX (On (aC.block ?_))))
 refine aC.ent (aO.aHY 24 2 29 82 Q Q Q Q) (aC.iW (id := 0) (MS g) (fun s1 => ([(0,Cc (.pl 0 0)),(3,Cc (.pl 21 0)),(4,Cc (.pl 22 0)),(5,Cc (.pl 24 0)),(6,Iv s1.1)],[(0,.row 139 [[xT bD s1.2.1,iC s1.2.2.1,iC s1.2.2.2.1]]),(21,.row 26 [[iC g.aG,xF aI g.aB]]),(22,.row 29 [[iC 0,sC ah,sC ah]]),(23,pR 96 aI ([] : List aY)),(24,.row 29 [[iC g.aG,lo 23 (([] : List aY).length),lo 29 s1.2.2.2.2.length]]),(29,pR 82 aK s1.2.2.2.2)])) (fun b10 => ([(3,Cc (.pl 21 0)),(4,Cc (.pl 22 0)),(5,Cc (.pl 24 0))],[(0,.row 139 [[xT bD b10.1,iC b10.2.1,iC b10.2.2.1]]),(21,.row 26 [[iC g.aG,xF aI g.aB]]),(22,.row 29 [[iC 0,sC ah,sC ah]]),(23,pR 96 aI ([] : List aY)),(24,.row 29 [[iC g.aG,lo 23 (([] : List aY).length),lo 29 b10.2.2.2.length]]),(29,pR 82 aK b10.2.2.2)])) ?_ (aO.of z5 z6) Q (fun b10 _ => ?_))
 ·intro s1
  unfold MS
  refine Ws (Ws (Wr ?_))
  refine aF (Iv s1.1) y4 (fV (iC g.aG) mQ ay bP (aT LT.lss y5 (On (aC.cond Q (fun rP => ?_) (fun rP => ?_)))))
  ·refine aC.skip (Ws (aC.block (Ws (Wr ?_))))
   refine aF (Cc (.pl 0 0)) y4 (aQ fun r12 ED => (aP.step (bQ [.c (.pl 0 0),.c (iC 5)] (Fw.Fn.ren [(0,0)] (qE (cZ.mk s1.2.1 s1.2.2.1 s1.2.2.2.1) 5 r12 ED) Q) pW (ji y2) z1 y3) ⟨Q,Q,y2,J⟩ z1 Q Q (aJ (Iv r12.1) y4 (On (aC.draw mixed ?_)))))
   refine eG (lo 29 s1.2.2.2.2.length) iy jC bP (ak (Iv r12.1) y4 (ak (Cc (.pl 0 0)) y4 (aN.bind fun r13 rQ => (aN.step (bQ [.c (.pl 0 0),.c (iC 5)] (Fw.Fn.ren [(0,0)] (qE r12.2 5 r13 rQ) Q) pW (ji y2) z1 y3) ⟨Q,Q,y2,J⟩ z1 Q Q (dJ (LT.build [(0,.tmp 25,.c (iC r12.1)),(1,.tmp 27,.c (iC r13.1))] Q Q aHp AY Q Q Q) Q Q Q Q (Fh (LT.fZ (n := 27) (enc := aK) [(0,.tmp 28,.agg [iC r12.1,iC r13.1])] [kF.mk r12.1 r13.1] Q Q sZ AY Q Q Q Q (by decide) (fun _ => Q) Q) Q Q Q (aN.bind fun u14 KU => (Jj (LT.lI (enc := aK) Q Q Q sZ AY Q (by decide) (by decide) (fun _ => Q) (jU KU)) Q Q Q Q Q Q (bJ (LT.gV Q iy) Q Q Q (lW (AQ (.c (lo 29 ((s1.2.2.2.2 ++ [kF.mk r12.1 r13.1]).length))) [iC g.aG,lo 23 (([] : List aY).length),lo 29 ((s1.2.2.2.2 ++ [kF.mk r12.1 r13.1]).length)] Q Q Zb aBU) Q Q Q Q Q ?_))))))))))
   refine aN.nil (by kernel_rfl) (aC.blk (en [(0,Cc (.pl 0 0)),(3,Cc (.pl 21 0)),(4,Cc (.pl 22 0)),(5,Cc (.pl 24 0)),(6,Iv s1.1)] [(0,.row 139 [[xT bD r13.2.b,iC r13.2.i,iC r13.2.h]]),(21,.row 26 [[iC g.aG,xF aI g.aB]]),(22,.row 29 [[iC 0,sC ah,sC ah]]),(23,pR 96 aI ([] : List aY)),(24,.row 29 [[iC g.aG,lo 23 (([] : List aY).length),lo 29 ((s1.2.2.2.2 ++ [kF.mk r12.1 r13.1]).length)]]),(29,pR 82 aK (s1.2.2.2.2 ++ [kF.mk r12.1 r13.1]))] z5 z6 (Wr (aF (Iv s1.1) y4 (aT LT.add aU (aJ (Iv (aA (s1.1 + 1))) y4 (On (aW Q z5 z6))))))))
  ·refine aC.eF Q ⟨Q,aO.of z3 z6⟩
 ·refine Ws (Ws (Wr ?_))
  refine aJ (Iv 0) aX (On (aC.block ?_))
  refine aC.iW (id := 2) (Ic g b10) (fun s15 => ([(3,Cc (.pl 21 0)),(4,Cc (.pl 22 0)),(5,Cc (.pl 24 0)),(8,Iv s15.1)],[(0,.row 139 [[xT bD b10.1,iC b10.2.1,iC b10.2.2.1]]),(21,.row 26 [[iC g.aG,xF aI g.aB]]),(22,.row 29 [[iC 0,sC ah,sC ah]]),(23,pR 96 aI s15.2),(24,.row 29 [[iC g.aG,lo 23 s15.2.length,lo 29 b10.2.2.2.length]]),(29,pR 82 aK b10.2.2.2)])) (fun iF => ([(4,Cc (.pl 22 0)),(5,Cc (.pl 24 0))],[(0,.row 139 [[xT bD iF.1,iC iF.2.1,iC iF.2.2.1]]),(22,.row 29 [[iC 0,sC ah,sC ah]]),(23,pR 96 aI iF.2.2.2.1),(24,.row 29 [[iC g.aG,lo 23 iF.2.2.2.1.length,lo 29 iF.2.2.2.2.length]]),(29,pR 82 aK iF.2.2.2.2)])) ?_ (aO.of z4 z6) Q (fun iF _ => ?_)
  ·intro s15
   unfold Ic
   refine Ws (Ws (Wr ?_))
   refine aF (Iv s15.1) y4 (fV (xF aI g.aB) iJ iU bP (aS (LT.fA Q ig) Q Q Q (aT LT.lss y5 (On (aC.cond Q (fun Tn => ?_) (fun Tn => ?_))))))
   ·refine aC.skip (Ws (aC.block (Ws (Wr ?_))))
    refine fV (xF aI g.aB) iJ iU bP (aF (Iv s15.1) y4 (aQ fun x54 vX => (dY (LT.dH (enc := aI) Q rH vX fQ) Q Q Q Q (aS (LT.lF Q kZ (dK jO) (by exact fQ.symm)) Q Q Q (dP (LT.alloc (n := 30) (cells := [iC 0,iC 0]) Q jo Q Q Q) Q Q (dU (stA [iC x54.A,iC x54.B] Q Q jO fQ) Q Q Q Q Q (On (Ws ?_))))))))
    refine aC.fC (fun j60 => ([(3,Cc (.pl 21 0)),(4,Cc (.pl 22 0)),(5,Cc (.pl 24 0)),(8,Iv s15.1),(9,Cc (.pl 30 0)),(70,Bv j60)],[(0,.row 139 [[xT bD b10.1,iC b10.2.1,iC b10.2.2.1]]),(21,.row 26 [[iC g.aG,xF aI g.aB]]),(22,.row 29 [[iC 0,sC ah,sC ah]]),(23,pR 96 aI s15.2),(24,.row 29 [[iC g.aG,lo 23 s15.2.length,lo 29 b10.2.2.2.length]]),(29,pR 82 aK b10.2.2.2),(30,.row 96 [[iC x54.A,iC x54.B]])])) ?_ (fun j60 _ => ?_)
    ·refine en [(3,Cc (.pl 21 0)),(4,Cc (.pl 22 0)),(5,Cc (.pl 24 0)),(8,Iv s15.1),(9,Cc (.pl 30 0))] [(0,.row 139 [[xT bD b10.1,iC b10.2.1,iC b10.2.2.1]]),(21,.row 26 [[iC g.aG,xF aI g.aB]]),(22,.row 29 [[iC 0,sC ah,sC ah]]),(23,pR 96 aI s15.2),(24,.row 29 [[iC g.aG,lo 23 s15.2.length,lo 29 b10.2.2.2.length]]),(29,pR 82 aK b10.2.2.2),(30,.row 96 [[iC x54.A,iC x54.B]])] z5 z7 (aC.draw mixed (eG (lo 29 b10.2.2.2.length) iy jC bP (eG (iC x54.A) lS ay bP (aN.bind fun Fa ZW => (je (LT.iG Q Q kG ZW) Q Q Q Q Q (gQ (LT.WI Q rF (dK nT) iH ZW (by exact Q) (by exact Q)) Q Q Q Q (eG (lo 29 b10.2.2.2.length) iy jC bP (bJ (LT.gV Q mV) Q Q Q ?_))))))))
     refine gQ (zk (iC x54.B) Q ay) Q Q Q Q (aN.bind fun Fb ZX => (je (LT.iG Q Q kG ZX) Q Q Q Q Q (gQ (LT.WI Q rF (dK nT) iH ZX (by exact Q) (by exact Q)) Q Q Q Q (dJ (LT.VO [Fa.X,Fa.Y] [Fb.X,Fb.Y] Q LK Q Q) Q Q Q Q (ak (Bv (!(jS [Fa.X,Fa.Y] [Fb.X,Fb.Y]))) y4 (aN.split (fun vU => ?_) (fun vU => ?_)))))))
     ·refine lG (Iv s15.1) vU y5 (qg LT.eql vU kE (lG (Bv (s15.1 == 0)) vU y5 (aN.split (fun hb64 => ?_) (fun hb64 => ?_))))
      ·refine bT hb64 y3 (bT hb64 y3 (bT hb64 y3 (bT hb64 y3 (bT hb64 y3 (bT hb64 y3 (bT hb64 y3 (bT hb64 y3 (dJ (LT.xJ (v := (Bv true)) Q hb64) Q y2 (gH vU Q Q) Q (kL (Bv true) vU y5 (aN.nil (by kernel_rfl) (aW Q z6 z7)))))))))))
      ·refine qi (xF aI g.aB) iJ iU hb64 iq (lG (Iv s15.1) hb64 y5 (qg LT.sub hb64 kE (aN.bind fun Af aGk => (dJ (LT.dH (enc := aI) Q rH aGk fQ) Q Q (gH hb64 Q Q) Q (bJ (LT.lF Q kZ (dK jO) (by exact fQ.symm)) Q (gH hb64 Q Q) Q (gQ (cO [iC x54.A,iC x54.B] Q kZ jO fQ) Q Q (gH hb64 Q Q) Q (dJ (LT.VO [Af.A,Af.B] [x54.A,x54.B] Q U5 Q Q) Q Q (gH hb64 Q Q) Q (dJ (LT.wJ (v := (Bv (!(jS [Af.A,Af.B] [x54.A,x54.B])))) Q hb64) Q Q (gH vU Q Q) Q (kL (Bv (!(jS [Af.A,Af.B] [x54.A,x54.B]))) vU y5 (aN.nil (by kernel_rfl) ?_))))))))))
       refine aW Q z6 z7
     ·refine bT vU y3 (bT vU y3 (bT vU y3 (bK y3 (bK y3 (bK y3 (bK y3 (bK y3 (bK y3 (bK y3 (bK y3 (bT vU y3 ?_)))))))))))
      refine mg (Bv false) vU aU (aN.nil (by kernel_rfl) (aW Q z6 z7))
    ·refine aC.fC (fun j68 => ([(3,Cc (.pl 21 0)),(4,Cc (.pl 22 0)),(5,Cc (.pl 24 0)),(8,Iv s15.1)],[(0,.row 139 [[xT bD b10.1,iC b10.2.1,iC b10.2.2.1]]),(21,.row 26 [[iC g.aG,xF aI g.aB]]),(22,.row 29 [[iC 0,sC ah,sC ah]]),(23,pR 96 aI j68),(24,.row 29 [[iC g.aG,lo 23 j68.length,lo 29 b10.2.2.2.length]]),(29,pR 82 aK b10.2.2.2)])) ?_ (fun j68 _ => ?_)
     ·refine aC.cond Q (fun aEp => ?_) (fun aEp => ?_)
      ·refine Wr (aS (LT.gV Q jm) Q Q Q (fV (lo 23 s15.2.length) iJ iU bP (bf (cO [iC x54.A,iC x54.B] Q kZ jO fQ) Q Q Q Q (fK (LT.fZ (n := 31) (enc := aI) [(0,.tmp 74,.agg [iC x54.A,iC x54.B])] [x54] Q Q ig jo Q Q Q Q (by decide) (fun _ => Q) Q) Q Q Q (aQ fun u70 aGT => (nS (LT.lI (enc := aI) Q Q Q ig jo Q (by decide) (by decide) (fun _ => Q) (jU aGT)) Q Q Q Q Q Q (aS (LT.gV Q jm) Q Q Q (aS (LT.gV Q iJ) Q Q Q (dU (AQ (.c (lo 23 ((s15.2 ++ [x54]).length))) [iC g.aG,lo 23 ((s15.2 ++ [x54]).length),lo 29 b10.2.2.2.length] Q Q LG Nh) Q Q Q Q Q (On ?_))))))))))
       refine aW Q z4 z6
      ·refine aC.skip (aW Q z4 z6)
     ·refine aC.blk (Wr ?_)
      refine aF (Iv s15.1) y4 (aT LT.add aU (aJ (Iv (aA (s15.1 + 1))) y4 (On (aW Q z4 z6))))
   ·refine aC.eF Q ⟨Q,aO.of z2 z5⟩
  ·refine Ws (Wr ?_)
   refine bf (cO [iC g.aG,lo 23 iF.2.2.2.1.length,lo 29 iF.2.2.2.2.length] Q dW bn bU) Q Q Q Q (dU (stA [iC g.aG,lo 23 iF.2.2.2.1.length,lo 29 iF.2.2.2.2.length] Q Q bn bU) Q Q Q Q Q (On (en [(4,Cc (.pl 22 0))] [(0,.row 139 [[xT bD iF.1,iC iF.2.1,iC iF.2.2.1]]),(22,.row 29 [[iC g.aG,lo 23 iF.2.2.2.1.length,lo 29 iF.2.2.2.2.length]]),(23,pR 96 aI iF.2.2.2.1),(29,pR 82 aK iF.2.2.2.2)] z1 z4 (aC.ent (aO.mv 23 1 Q Q) (aC.ent (aO.mv 29 2 Q Q) (en [(4,Cc (.pl 22 0))] [(0,.row 139 [[xT bD iF.1,iC iF.2.1,iC iF.2.2.1]]),(1,pR 96 aI iF.2.2.2.1),(2,pR 82 aK iF.2.2.2.2),(22,.row 29 [[iC g.aG,lo 1 iF.2.2.2.1.length,lo 2 iF.2.2.2.2.length]])] z1 z4 (aC.ret (aj.mk (.inr Q) ⟨⟨_,_,_,Q,Q,Q,dW,bU,_,dK bn⟩,J⟩ z3 Q ⟨⟨au.sc,J,J,J⟩,J⟩ ⟨dG.qw ⟨kT qo,au.sc,au.sc,J⟩,dG.gm oh,dG.gm vg,J⟩))))))))
theorem Wn (c : cZ) (n : Int) : FT Try.prog (Ej c n) 151 [.c (.pl 0 0),.c (iC n)] [(0,.row 139 [[xT bD c.b,iC c.i,iC c.h]])] (fun (t : (Bool × cZ)) => [.c (bC t.1)]) (fun (t : (Bool × cZ)) => [(0,.row 139 [[xT bD t.2.b,iC t.2.i,iC t.2.h]])]) [] := by
 refine FT.of [0] Try.func151 Try.ntmps151 Q y2 ?_
 intro w0 U0 R0 g0
 unfold Ej
 refine Ws (Wr ?_)
 refine aJ (Bv false) aX (On (Ws (Wr ?_)))
 refine aF (Cc (.pl 0 0)) y4 (aF (Iv n) y4 (aQ fun r1 hr1 => (aP.step (bQ [.c (.pl 0 0),.c (iC n)] (Fw.Fn.ren [(0,0)] (qE c n r1 hr1) Q) pW (ji y2) z1 y3) z3 z1 Q Q (aT LT.eql aU (aJ (Bv (r1.1 == 0)) y4 (On (aC.ret (aj.mk (.inr Q) z1 z1 Q ⟨au.sc,J⟩ ⟨dG.qw ⟨kT qo,au.sc,au.sc,J⟩,J⟩))))))))
theorem aJp (c : cZ) (n : Int) (x : aY) (other : Int) : FT Try.prog (ND c n x other) 201 [.c (.pl 0 0),.c (iC n),.agg [iC x.A,iC x.B],.c (iC other)] [(0,.row 139 [[xT bD c.b,iC c.i,iC c.h]])] (fun (t : (Int × cZ)) => [.c (iC t.1)]) (fun (t : (Int × cZ)) => [(0,.row 139 [[xT bD t.2.b,iC t.2.i,iC t.2.h]])]) [] := by
 refine FT.of [0] Try.func201 Try.ntmps201 Q y2 ?_
 intro w0 U0 R0 g0
 unfold ND
 refine Ws (Wr ?_)
 refine fK (LT.box (n := 21) (v := (.agg [iC x.A,iC x.B])) Q fQ (by exact Q)) Q Q Q (aJ (Iv 0) aX (On (Ws (Wr ?_))))
 refine aF (Cc (.pl 0 0)) y4 (aF (Iv n) y4 (aQ fun r1 hr1 => (aP.step (bQ [.c (.pl 0 0),.c (iC n)] (Fw.Fn.ren [(0,0)] (qE c n r1 hr1) Q) pW (ji y2) z1 y3) z3 z1 Q Q (aJ (Iv r1.1) y4 (On (Ws (Ws ?_)))))))
 refine aC.fC (fun j3 => ([(3,Iv other),(9,Iv r1.1),(22,Bv j3)],[(0,.row 139 [[xT bD r1.2.b,iC r1.2.i,iC r1.2.h]])])) ?_ (fun j3 _ => ?_)
 ·refine Wr (aF (Iv r1.1) y4 (fV (iC x.A) lS ay bP (aT LT.eql y5 (aF (Bv (r1.1 == x.A)) y4 (aP.split (fun hb4 => ?_) (fun hb4 => ?_))))))
  ·refine aV hb4 y5 (aV hb4 y5 (aV hb4 y5 (aV hb4 y5 (dh (Bv true) hb4 aU (On (aW Q z3 z1))))))
  ·refine gW (Iv r1.1) hb4 y5 (kR (iC x.B) mV ay hb4 iq (iT LT.eql hb4 y6 (gY (Bv (r1.1 == x.B)) hb4 y5 (On (aW Q z3 z1)))))
 ·refine aC.cond Q (fun hc5 => ?_) (fun hc5 => ?_)
  ·refine Ws (Wr ?_)
   refine aF (Iv other) y4 (aJ (Iv other) y4 (On (aC.ret (aj.mk (.inr Q) z1 z1 Q ⟨au.sc,J⟩ ⟨dG.qw ⟨kT qo,au.sc,au.sc,J⟩,J⟩))))
  ·refine aC.skip (Ws (Wr ?_))
   refine aF (Iv r1.1) y4 (aJ (Iv r1.1) y4 (On (aC.ret (aj.mk (.inr Q) z1 z1 Q ⟨au.sc,J⟩ ⟨dG.qw ⟨kT qo,au.sc,au.sc,J⟩,J⟩))))
end Go.Proofs.Ytdmlaldifbmkpaa
end
section
set_option linter.unusedVariables false
set_option linter.unusedSimpArgs false
set_option linter.unnecessarySimpa false
set_option maxRecDepth 100000
set_option maxHeartbeats 8000000
open Go Go.Fw
namespace Go.Proofs.Ytdmlaldifbmkpaa
theorem aCD (a : aY) (b : aY) : FT Try.prog (Em a b) 164 [.agg [iC a.A,iC a.B],.agg [iC b.A,iC b.B]] [] (fun (t : Bool) => [.c (bC t)]) (fun (t : Bool) => []) [] := by
 refine FT.of [] Try.func164 Try.ntmps164 Q y2 ?_
 intro w0 U0 R0 g0
 unfold Em
 refine Ws (Wr ?_)
 refine fK (LT.box (n := 21) (v := (.agg [iC a.A,iC a.B])) Q fQ (by exact Q)) Q Q Q (fK (LT.box (n := 22) (v := (.agg [iC b.A,iC b.B])) Q fQ (by exact Q)) Q Q Q (aJ (Bv false) aX (On (Ws ?_))))
 refine aC.fC (fun j3 => ([(4,Bv j3)],[])) ?_ (fun j3 _ => ?_)
 ·refine Wr (fV (iC a.A) lS ay bP (fV (iC b.A) lS ay bP (aT LT.lss y5 (aF (Bv (decide (a.A < b.A))) y4 (aP.split (fun hb4 => ?_) (fun hb4 => ?_))))))
  ·refine aV hb4 y5 (aV hb4 y5 (aV hb4 y5 (aV hb4 y5 (aV hb4 y5 (aV hb4 y5 (Oj Q Q Q Q (Oj Q Q Q Q (Oj Q Q Q Q (Oj Q Q Q Q (Oj Q Q Q Q (aV hb4 y5 ?_)))))))))))
   refine dh (Bv true) hb4 aU (aJ (Bv true) y4 (On (aW Q z1 J)))
  ·refine kR (iC a.A) lS ay hb4 iq (kR (iC b.A) lS ay hb4 iq (iT LT.eql hb4 y6 (gW (Bv (a.A == b.A)) hb4 y5 (aP.split (fun hb5 => ?_) (fun hb5 => ?_)))))
   ·refine kR (iC a.B) mV ay hb5 iq (kR (iC b.B) mV ay hb5 iq (iT LT.leq hb5 y6 (dY (LT.xJ (v := (Bv (decide (a.B ≤ b.B)))) Q hb5) Q Q (gH hb4 Q Q) Q (gY (Bv (decide (a.B ≤ b.B))) hb4 y5 (aJ (Bv (decide (a.B ≤ b.B))) y4 (On (aW Q z1 J)))))))
   ·refine aV hb5 y5 (aV hb5 y5 (aV hb5 y5 (aV hb5 y5 (aV hb5 y5 (dY (LT.wJ (v := (Bv false)) Q hb5) Q y2 (gH hb4 Q Q) Q (gY (Bv false) hb4 y5 (aJ (Bv false) y4 (On (aW Q z1 J)))))))))
 ·refine aC.ret (aj.mk (.inr Q) z1 J Q ⟨au.sc,J⟩ J)
theorem FV (g : dZ) (x : aY) : FT Try.prog (xI g x) 115 [.agg [iC g.aG,xF aI g.aB],.agg [iC x.A,iC x.B]] [] (fun (t : dZ) => [.agg [iC t.aG,lo 0 t.aB.length]]) (fun (t : dZ) => [(0,pR 96 aI t.aB)]) [0] := by
 refine FT.of [] Try.func115 Try.ntmps115 Q y2 ?_
 intro w0 U0 R0 g0
 unfold xI
 refine Ws (Wr ?_)
 refine fK (LT.box (n := 21) (v := (.agg [iC g.aG,xF aI g.aB])) Q gu (by exact Q)) Q Q Q (fK (LT.box (n := 22) (v := (.agg [iC x.A,iC x.B])) Q fQ (by exact Q)) Q Q Q (dP (LT.alloc (n := 23) (cells := [iC 0,sC ah]) Q qX Q Q Q) Q Q (On (Ws (Wr ?_)))))
 refine fV (iC g.aG) mQ ay bP (dP (LT.fZ (n := 24) (enc := aI) [] ([] : List aY) Q Q ig jo Q Q Q Q (by decide) (fun _ => Q) Q) Q Q (dY (LT.build [(0,.tmp 9,.c (iC g.aG)),(1,.tmp 10,.c (lo 24 (([] : List aY).length)))] Q Q JI qX Q Q Q) Q Q Q Q (dP (LT.alloc (n := 25) (cells := [iC 0,sC ah]) Q qX Q Q Q) Q Q (dU (stA [iC g.aG,lo 24 (([] : List aY).length)] Q Q iR gu) Q Q Q Q Q (On (Ws ?_))))))
 refine en [(2,Cc (.pl 21 0)),(3,Cc (.pl 22 0)),(4,Cc (.pl 23 0)),(5,Cc (.pl 25 0))] [(21,.row 26 [[iC g.aG,xF aI g.aB]]),(22,.row 96 [[iC x.A,iC x.B]]),(23,.row 26 [[iC 0,sC ah]]),(24,pR 96 aI ([] : List aY)),(25,.row 26 [[iC g.aG,lo 24 (([] : List aY).length)]])] z4 z5 (Wr (aJ (Bv false) aX (On (Ws (Ws (Wr ?_))))))
 refine aJ (Iv 0) aX (On (aC.block ?_))
 refine aC.iW (id := 0) (zy g x) (fun s1 => ([(2,Cc (.pl 21 0)),(3,Cc (.pl 22 0)),(4,Cc (.pl 23 0)),(5,Cc (.pl 25 0)),(6,Bv s1.1),(7,Iv s1.2.1)],[(21,.row 26 [[iC g.aG,xF aI g.aB]]),(22,.row 96 [[iC x.A,iC x.B]]),(23,.row 26 [[iC 0,sC ah]]),(24,pR 96 aI s1.2.2),(25,.row 26 [[iC g.aG,lo 24 s1.2.2.length]])])) (fun sF => ([(3,Cc (.pl 22 0)),(4,Cc (.pl 23 0)),(5,Cc (.pl 25 0)),(6,Bv sF.1)],[(22,.row 96 [[iC x.A,iC x.B]]),(23,.row 26 [[iC 0,sC ah]]),(24,pR 96 aI sF.2),(25,.row 26 [[iC g.aG,lo 24 sF.2.length]])])) ?_ (aO.of z6 z5) Q (fun sF _ => ?_)
 ·intro s1
  unfold zy
  refine Ws (Ws (Wr ?_))
  refine aF (Iv s1.2.1) y4 (fV (xF aI g.aB) iJ iU bP (aS (LT.fA Q ig) Q Q Q (aT LT.lss y5 (On (aC.cond Q (fun D8 => ?_) (fun D8 => ?_))))))
  ·refine aC.skip (Ws (aC.block (Ws (Ws ?_))))
   refine aC.fC (fun j34 => ([(2,Cc (.pl 21 0)),(3,Cc (.pl 22 0)),(4,Cc (.pl 23 0)),(5,Cc (.pl 25 0)),(6,Bv s1.1),(7,Iv s1.2.1),(30,Bv j34)],[(21,.row 26 [[iC g.aG,xF aI g.aB]]),(22,.row 96 [[iC x.A,iC x.B]]),(23,.row 26 [[iC 0,sC ah]]),(24,pR 96 aI s1.2.2),(25,.row 26 [[iC g.aG,lo 24 s1.2.2.length]])])) ?_ (fun j34 _ => ?_)
   ·refine aC.draw mixed (ak (Bv s1.1) y4 (bJ (LT.not Q) Q Q Q (ak (Bv (!s1.1)) y4 (aN.split (fun ql => ?_) (fun ql => ?_)))))
    ·refine qi (xF aI g.aB) iJ iU ql iq (lG (Iv s1.2.1) ql y5 (aN.bind fun FZ Kw => (dJ (LT.dH (enc := aI) Q rH Kw fQ) Q Q (gH ql Q Q) Q (bJ (LT.lF Q kZ (dK jO) (by exact fQ.symm)) Q (gH ql Q Q) Q (gQ (cO [iC x.A,iC x.B] Q kZ jO fQ) Q Q (gH ql Q Q) Q (aN.bind fun vk UY => (aN.pure (bQ [.agg [iC FZ.A,iC FZ.B],.agg [iC x.A,iC x.B]] (aCD FZ x vk UY) Xu (Qn y4) J y3) z3 J (gH ql Q Q) Q (bJ (LT.not Q) Q (gH ql Q Q) Q (kL (Bv (!vk)) ql y5 (aN.nil (by kernel_rfl) ?_))))))))))
     refine aW Q z7 z5
    ·refine bT ql y3 (bT ql y3 (bT ql y3 (bT ql y3 (bT ql y3 (bT ql y3 (bT ql y3 (bT ql y3 (mg (Bv false) ql aU (aN.nil (by kernel_rfl) (aW Q z7 z5))))))))))
   ·refine aC.fC (fun j40 => ([(2,Cc (.pl 21 0)),(3,Cc (.pl 22 0)),(4,Cc (.pl 23 0)),(5,Cc (.pl 25 0)),(6,Bv j40.1),(7,Iv s1.2.1)],[(21,.row 26 [[iC g.aG,xF aI g.aB]]),(22,.row 96 [[iC x.A,iC x.B]]),(23,.row 26 [[iC 0,sC ah]]),(24,pR 96 aI j40.2),(25,.row 26 [[iC g.aG,lo 24 j40.2.length]])])) ?_ (fun j40 _ => ?_)
    ·refine aC.cond Q (fun zO => ?_) (fun zO => ?_)
     ·refine Ws (Wr ?_)
      refine fV (lo 24 s1.2.2.length) iJ iU bP (bf (cO [iC x.A,iC x.B] Q kZ jO fQ) Q Q Q Q (fK (LT.fZ (n := 27) (enc := aI) [(0,.tmp 33,.agg [iC x.A,iC x.B])] [x] Q Q ig jo Q Q Q Q (by decide) (fun _ => Q) Q) Q Q Q (aQ fun u42 aGL => (nS (LT.lI (enc := aI) Q Q Q ig jo Q (by decide) (by decide) (fun _ => Q) (jU aGL)) Q Q Q Q Q Q (aS (LT.gV Q iJ) Q Q Q (dU (AQ (.c (lo 24 ((s1.2.2 ++ [x]).length))) [iC g.aG,lo 24 ((s1.2.2 ++ [x]).length)] Q Q LG Nh) Q Q Q Q Q (On (en [(2,Cc (.pl 21 0)),(3,Cc (.pl 22 0)),(4,Cc (.pl 23 0)),(5,Cc (.pl 25 0)),(7,Iv s1.2.1)] [(21,.row 26 [[iC g.aG,xF aI g.aB]]),(22,.row 96 [[iC x.A,iC x.B]]),(23,.row 26 [[iC 0,sC ah]]),(24,pR 96 aI (s1.2.2 ++ [x])),(25,.row 26 [[iC g.aG,lo 24 ((s1.2.2 ++ [x]).length)]])] z5 z5 (Wr (aJ (Bv true) aX ?_))))))))))
      refine On (aW Q z6 z5)
     ·refine aC.skip (aW Q z6 z5)
    ·refine aC.draw mixed (eG (lo 24 j40.2.length) iJ iU bP (eG (xF aI g.aB) iJ iU bP (ak (Iv s1.2.1) y4 (aN.bind fun x43 zY => (dJ (LT.dH (enc := aI) Q rH zY fQ) Q Q Q Q (bJ (LT.lF Q kZ (dK jO) (by exact fQ.symm)) Q Q Q (Fh (LT.fZ (n := 28) (enc := aI) [(0,.tmp 43,.agg [iC x43.A,iC x43.B])] [x43] Q Q ig jo Q Q Q Q (by decide) (fun _ => Q) Q) Q Q Q (aN.bind fun u44 KX => (Jj (LT.lI (enc := aI) Q Q Q ig jo Q (by decide) (by decide) (fun _ => Q) (jU KX)) Q Q Q Q Q Q ?_)))))))))
     refine bJ (LT.gV Q iJ) Q Q Q (lW (AQ (.c (lo 24 ((j40.2 ++ [x43]).length))) [iC g.aG,lo 24 ((j40.2 ++ [x43]).length)] Q Q LG Nh) Q Q Q Q Q (aN.nil (by kernel_rfl) (aC.blk (en [(2,Cc (.pl 21 0)),(3,Cc (.pl 22 0)),(4,Cc (.pl 23 0)),(5,Cc (.pl 25 0)),(6,Bv j40.1),(7,Iv s1.2.1)] [(21,.row 26 [[iC g.aG,xF aI g.aB]]),(22,.row 96 [[iC x.A,iC x.B]]),(23,.row 26 [[iC 0,sC ah]]),(24,pR 96 aI (j40.2 ++ [x43])),(25,.row 26 [[iC g.aG,lo 24 ((j40.2 ++ [x43]).length)]])] z6 z5 (Wr (aF (Iv s1.2.1) y4 (aT LT.add aU (aJ (Iv (aA (s1.2.1 + 1))) y4 (On (aW Q z6 z5))))))))))
  ·refine aC.eF Q ⟨Q,aO.of z4 z4⟩
 ·refine Ws (Ws (Wr ?_))
  refine aF (Bv sF.1) y4 (aS (LT.not Q) Q Q Q (On (aC.fC (fun j47 => ([(4,Cc (.pl 23 0)),(5,Cc (.pl 25 0))],[(23,.row 26 [[iC 0,sC ah]]),(24,pR 96 aI j47),(25,.row 26 [[iC g.aG,lo 24 j47.length]])])) ?_ (fun j47 _ => ?_))))
  ·refine aC.cond Q (fun KG => ?_) (fun KG => ?_)
   ·refine Wr (fV (lo 24 sF.2.length) iJ iU bP (bf (cO [iC x.A,iC x.B] Q kZ jO fQ) Q Q Q Q (fK (LT.fZ (n := 29) (enc := aI) [(0,.tmp 51,.agg [iC x.A,iC x.B])] [x] Q Q ig jo Q Q Q Q (by decide) (fun _ => Q) Q) Q Q Q (aQ fun u49 aGM => (nS (LT.lI (enc := aI) Q Q Q ig jo Q (by decide) (by decide) (fun _ => Q) (jU aGM)) Q Q Q Q Q Q (aS (LT.gV Q iJ) Q Q Q (dU (AQ (.c (lo 24 ((sF.2 ++ [x]).length))) [iC g.aG,lo 24 ((sF.2 ++ [x]).length)] Q Q LG Nh) Q Q Q Q Q (On (aW Q z2 z3)))))))))
   ·refine aC.skip (aW Q z2 z3)
  ·refine Ws (Wr ?_)
   refine bf (cO [iC g.aG,lo 24 j47.length] Q lJ iR gu) Q Q Q Q (dU (stA [iC g.aG,lo 24 j47.length] Q Q iR gu) Q Q Q Q Q (On (en [(4,Cc (.pl 23 0))] [(23,.row 26 [[iC g.aG,lo 24 j47.length]]),(24,pR 96 aI j47)] z1 z2 (aC.ent (aO.mv 24 0 Q Q) (en [(4,Cc (.pl 23 0))] [(0,pR 96 aI j47),(23,.row 26 [[iC g.aG,lo 0 j47.length]])] z1 z2 (aC.ret (aj.mk (.inr Q) ⟨⟨_,_,_,Q,Q,Q,lJ,gu,_,dK iR⟩,J⟩ z1 Q ⟨⟨au.sc,J,J⟩,J⟩ ⟨dG.gm oh,J⟩)))))))
theorem DC (x : Int) (low : Int) (high : Int) : FT Try.prog (wH x low high) 87 [.c (iC x),.c (iC low),.c (iC high)] [] (fun (t : Bool) => [.c (bC t)]) (fun (t : Bool) => []) [] := by
 refine FT.of [] Try.func87 Try.ntmps87 Q y2 ?_
 intro w0 U0 R0 g0
 unfold wH
 refine Ws (Wr ?_)
 refine aJ (Bv false) aX (On (Ws ?_))
 refine aC.fC (fun j2 => ([(6,Bv j2)],[])) ?_ (fun j2 _ => ?_)
 ·refine Wr (aF (Iv x) y4 (aF (Iv low) y4 (aT LT.geq y5 (aF (Bv (decide (low ≤ x))) y4 (aP.split (fun hb3 => ?_) (fun hb3 => ?_))))))
  ·refine gW (Iv x) hb3 y5 (gW (Iv high) hb3 y5 (iT LT.leq hb3 y6 (dh (Bv (decide (x ≤ high))) hb3 y5 (aJ (Bv (decide (x ≤ high))) y4 (On (aW Q z1 J))))))
  ·refine aV hb3 y5 (aV hb3 y5 (aV hb3 y5 (gY (Bv false) hb3 aU (aJ (Bv false) y4 (On (aW Q z1 J))))))
 ·refine aC.ret (aj.mk (.inr Q) z1 J Q ⟨au.sc,J⟩ J)
theorem WZ (g : dZ) : FT Try.prog (Ea g) 86 [.agg [iC g.aG,xF aI g.aB]] [] (fun (t : Bool) => [.c (bC t)]) (fun (t : Bool) => []) [] := by
 refine FT.of [] Try.func86 Try.ntmps86 Q y2 ?_
 intro w0 U0 R0 g0
 unfold Ea
 refine Ws (Wr ?_)
 refine fK (LT.box (n := 21) (v := (.agg [iC g.aG,xF aI g.aB])) Q gu (by exact Q)) Q Q Q (aJ (Bv false) aX (On (Ws (Ws ?_))))
 refine aC.fC (fun j3 => ([(1,Cc (.pl 21 0)),(14,Bv j3)],[(21,.row 26 [[iC g.aG,xF aI g.aB]])])) ?_ (fun j3 _ => ?_)
 ·refine Wr (fV (iC g.aG) mQ ay bP (aQ fun r4 hr4 => (aP.pure (bQ [.c (iC g.aG),.c (iC 1),.c (iC 8)] (DC g.aG 1 8 r4 hr4) Au (vH y3) J y3) ⟨Q,Q,y2,y2,J⟩ J Q Q (aS (LT.not Q) Q Q Q (aF (Bv (!r4)) y4 (aP.split (fun hb5 => ?_) (fun hb5 => ?_)))))))
  ·refine aV hb5 y5 (aV hb5 y5 (aV hb5 y5 (aV hb5 y5 (dh (Bv true) hb5 aU (On (aW Q z2 z1))))))
  ·refine kR (xF aI g.aB) iJ iU hb5 iq (aS (LT.fA Q ig) Q (gH hb5 Q Q) Q (iT LT.gtr hb5 kE (gY (Bv (decide (24 < (g.aB.length : Int)))) hb5 y5 (On (aW Q z2 z1)))))
 ·refine aC.cond Q (fun hc6 => ?_) (fun hc6 => ?_)
  ·refine Ws (Wr ?_)
   refine aJ (Bv false) aX (On (aC.ret (aj.mk (.inr Q) z1 J Q ⟨au.sc,J⟩ J)))
  ·refine aC.skip (Ws (Ws (Wr ?_)))
   refine aJ (Iv 0) aX (On (aC.block ?_))
   refine aC.nV (id := 0) (MK g) (fun s7 => ([(1,Cc (.pl 21 0)),(3,Iv s7)],[(21,.row 26 [[iC g.aG,xF aI g.aB]])])) (fun qh => ([],[])) (aj Try.prog Try.f86.results.toList [] [] (fun (t : Bool) => [.c (bC t)]) (fun (t : Bool) => [])) ?_ (aO.of z2 z1) Q (fun qh _ => ?_) (by intro r t σ m ht hk; injection ht with ht; subst ht; exact hk)
   ·intro s7
    unfold MK
    refine Ws (Ws (Wr ?_))
    refine aF (Iv s7) y4 (fV (xF aI g.aB) iJ iU bP (aS (LT.fA Q ig) Q Q Q (aT LT.lss y5 (On (aC.cond Q (fun zO => ?_) (fun zO => ?_))))))
    ·refine aC.skip (Ws (aC.block (Ws (Wr ?_))))
     refine fV (xF aI g.aB) iJ iU bP (aF (Iv s7) y4 (aQ fun gZ Ky => (dY (LT.dH (enc := aI) Q rH Ky fQ) Q Q Q Q (aS (LT.lF Q kZ (dK jO) (by exact fQ.symm)) Q Q Q (dP (LT.alloc (n := 23) (cells := [iC 0,iC 0]) Q jo Q Q Q) Q Q (dU (stA [iC gZ.A,iC gZ.B] Q Q jO fQ) Q Q Q Q Q (On (Ws ?_))))))))
     refine aC.fC (fun j49 => ([(1,Cc (.pl 21 0)),(3,Iv s7),(58,Bv j49)],[(21,.row 26 [[iC g.aG,xF aI g.aB]])])) ?_ (fun j49 _ => ?_)
     ·refine en [(1,Cc (.pl 21 0)),(3,Iv s7),(4,Cc (.pl 23 0))] [(21,.row 26 [[iC g.aG,xF aI g.aB]]),(23,.row 96 [[iC gZ.A,iC gZ.B]])] z3 z2 (aC.draw mixed (eG (iC gZ.A) lS ay bP (iE LT.lss aU (ak (Bv (decide (gZ.A < 0))) y4 (aN.split (fun oJ => ?_) (fun oJ => ?_))))))
      ·refine bT oJ y3 (bT oJ y3 (bT oJ y3 (bT oJ y3 (bT oJ y3 (kL (Bv true) oJ aU (ak (Bv true) y4 (bK y3 (bK y3 (bK y3 (bK y3 (bK y3 ?_)))))))))))
       refine kL (Bv true) Q aU (ak (Bv true) y4 (bK y3 (bK y3 (bK y3 (bK y3 (bK y3 (bK y3 (bK y3 (bK y3 (bK y3 (bK y3 ?_)))))))))))
       refine bK y3 (bK y3 (bK y3 (kL (Bv true) Q aU (aN.nil (by kernel_rfl) (aW Q z3 z1)))))
      ·refine qi (iC gZ.A) lS ay oJ iq (qi (iC gZ.B) mV ay oJ iq (qg LT.geq oJ y6 (mg (Bv (decide (gZ.B ≤ gZ.A))) oJ y5 (ak (Bv (decide (gZ.B ≤ gZ.A))) y4 (aN.split (fun oK => ?_) (fun oK => ?_))))))
       ·refine bT oK y3 (bT oK y3 (bT oK y3 (bT oK y3 (bT oK y3 (kL (Bv true) oK aU (ak (Bv true) y4 (bK y3 (bK y3 (bK y3 (bK y3 (bK y3 ?_)))))))))))
        refine bK y3 (bK y3 (bK y3 (bK y3 (bK y3 (bK y3 (bK y3 (bK y3 (kL (Bv true) Q aU (aN.nil (by kernel_rfl) (aW Q z3 z1))))))))))
       ·refine qi (iC gZ.B) mV ay oK iq (qi (iC g.aG) mQ ay oK iq (qg LT.geq oK y6 (mg (Bv (decide (g.aG ≤ gZ.B))) oK y5 (ak (Bv (decide (g.aG ≤ gZ.B))) y4 (aN.split (fun mD => ?_) (fun mD => ?_))))))
        ·refine bT mD y3 (bT mD y3 (bT mD y3 (bK y3 (bK y3 (bK y3 (bK y3 (bK y3 (bK y3 (bK y3 (bK y3 (bK y3 ?_)))))))))))
         refine bT mD y3 (kL (Bv true) mD aU (aN.nil (by kernel_rfl) (aW Q z3 z1)))
        ·refine lG (Iv s7) mD y5 (qg LT.gtr mD kE (lG (Bv (decide (0 < s7))) mD y5 (aN.split (fun jT => ?_) (fun jT => ?_))))
         ·refine qi (xF aI g.aB) iJ iU jT iq (lG (Iv s7) jT y5 (qg LT.sub jT kE (aN.bind fun x54 vX => (dJ (LT.dH (enc := aI) Q rH vX fQ) Q Q (gH jT Q Q) Q (bJ (LT.lF Q kZ (dK jO) (by exact fQ.symm)) Q (gH jT Q Q) Q (gQ (cO [iC gZ.A,iC gZ.B] Q kZ jO fQ) Q Q (gH jT Q Q) Q (aN.bind fun sU KQ => (aN.pure (bQ [.agg [iC x54.A,iC x54.B],.agg [iC gZ.A,iC gZ.B]] (aCD x54 gZ sU KQ) Xu (Qn y4) J y3) z3 J (gH jT Q Q) Q (bJ (LT.not Q) Q (gH jT Q Q) Q (dJ (LT.xJ (v := (Bv (!sU))) Q jT) Q Q (gH mD Q Q) Q ?_))))))))))
          refine mg (Bv (!sU)) mD y5 (aN.nil (by kernel_rfl) (aW Q z3 z1))
         ·refine bT jT y3 (bT jT y3 (bT jT y3 (bT jT y3 (bT jT y3 (bT jT y3 (bT jT y3 (bT jT y3 (bT jT y3 (dJ (LT.wJ (v := (Bv false)) Q jT) Q y2 (gH mD Q Q) Q (mg (Bv false) mD y5 (aN.nil (by kernel_rfl) ?_)))))))))))
          refine aW Q z3 z1
     ·refine aC.cond Q (fun Tq => ?_) (fun Tq => ?_)
      ·refine Ws (Wr ?_)
       refine aJ (Bv false) aX (On (aC.ret ⟨Q,aj.mk (.inr Q) z1 J Q ⟨au.sc,J⟩ J⟩))
      ·refine aC.skip (aC.blk (Wr ?_))
       refine aF (Iv s7) y4 (aT LT.add aU (aJ (Iv (aA (s7 + 1))) y4 (On (aW Q z2 z1))))
    ·refine aC.eF Q ⟨Q,aO.of J J⟩
   ·refine Ws (Wr ?_)
    refine aJ (Bv true) aX (On (aC.ret (aj.mk (.inr Q) z1 J Q ⟨au.sc,J⟩ J)))
theorem aCE (g : dZ) : FT Try.prog (Ij g) 112 [.agg [iC g.aG,xF aI g.aB]] [] (fun (t : dZ) => [.agg [iC t.aG,lo 0 t.aB.length]]) (fun (t : dZ) => [(0,pR 96 aI t.aB)]) [0] := by
 refine FT.of [] Try.func112 Try.ntmps112 Q y2 ?_
 intro w0 U0 R0 g0
 unfold Ij
 refine Ws (Wr ?_)
 refine fK (LT.box (n := 21) (v := (.agg [iC g.aG,xF aI g.aB])) Q gu (by exact Q)) Q Q Q (dP (LT.alloc (n := 22) (cells := [iC 0,sC ah]) Q qX Q Q Q) Q Q (On (Ws (aC.draw mixed ?_))))
 refine eG (iC g.aG) mQ ay bP (DN (LT.fZ (n := 23) (enc := aI) [] ([] : List aY) Q Q ig jo Q Q Q Q (by decide) (fun _ => Q) Q) Q Q (eG (xF aI g.aB) iJ iU bP (aN.bind fun u1 hu1 => (lW (LT.Ja (enc := aI) Q  Q ig jo Q (by decide) (by decide) (fun _ => Q) (jU hu1)) Q Q Q Q Q (dJ (LT.build [(0,.tmp 4,.c (iC g.aG)),(1,.tmp 8,.c (lo 23 ((([] : List aY) ++ g.aB).length)))] Q Q JI qX Q Q Q) Q Q Q Q (lW (stA [iC g.aG,lo 23 ((([] : List aY) ++ g.aB).length)] Q Q iR gu) Q Q Q Q Q (aN.nil (by kernel_rfl) (en [(2,Cc (.pl 22 0))] [(22,.row 26 [[iC g.aG,lo 23 ((([] : List aY) ++ g.aB).length)]]),(23,pR 96 aI (([] : List aY) ++ g.aB))] z1 z2 (aC.ent (aO.mv 23 0 Q Q) ?_)))))))))
 refine en [(2,Cc (.pl 22 0))] [(0,pR 96 aI (([] : List aY) ++ g.aB)),(22,.row 26 [[iC g.aG,lo 0 ((([] : List aY) ++ g.aB).length)]])] z1 z2 (aC.ret (aj.mk (.inr Q) ⟨⟨_,_,_,Q,Q,Q,lJ,gu,_,dK iR⟩,J⟩ z1 Q ⟨⟨au.sc,J,J⟩,J⟩ ⟨dG.gm oh,J⟩))
theorem Ns (x : Int) (Gt : Int) (hi : Int) : FT Try.prog (zq x Gt hi) 167 [.c (iC x),.c (iC Gt),.c (iC hi)] [] (fun (t : Bool) => [.c (bC t)]) (fun (t : Bool) => []) [] := by
 refine FT.of [] Try.func167 Try.ntmps167 Q y2 ?_
 intro w0 U0 R0 g0
 unfold zq
 refine Ws (Wr ?_)
 refine aJ (Bv false) aX (On (Ws ?_))
 refine aC.fC (fun j2 => ([(6,Bv j2)],[])) ?_ (fun j2 _ => ?_)
 ·refine Wr (aF (Iv x) y4 (aF (Iv Gt) y4 (aT LT.geq y5 (aF (Bv (decide (Gt ≤ x))) y4 (aP.split (fun hb3 => ?_) (fun hb3 => ?_))))))
  ·refine gW (Iv x) hb3 y5 (gW (Iv hi) hb3 y5 (iT LT.leq hb3 y6 (dh (Bv (decide (x ≤ hi))) hb3 y5 (aJ (Bv (decide (x ≤ hi))) y4 (On (aW Q z1 J))))))
  ·refine aV hb3 y5 (aV hb3 y5 (aV hb3 y5 (gY (Bv false) hb3 aU (aJ (Bv false) y4 (On (aW Q z1 J))))))
 ·refine aC.ret (aj.mk (.inr Q) z1 J Q ⟨au.sc,J⟩ J)
theorem aB1 (a : Int) (b : Int) : FT Try.prog (Hr a b) 199 [.c (iC a),.c (iC b)] [] (fun (t : Int) => [.c (iC t)]) (fun (t : Int) => []) [] := by
 refine FT.of [] Try.func199 Try.ntmps199 Q y2 ?_
 intro w0 U0 R0 g0
 unfold Hr
 refine Ws (Wr ?_)
 refine aJ (Iv 0) aX (On (Ws (aC.block (Ws (Wr ?_)))))
 refine aF (Iv a) y4 (aF (Iv b) y4 (aT LT.lss y5 (aJ (Bv (decide (a < b))) y4 (On (aC.cond Q (fun hc1 => ?_) (fun hc1 => ?_))))))
 ·refine Ws (Wr ?_)
  refine aJ (Iv (-1)) aX (On (aC.ret (aj.mk (.inr Q) z1 J Q ⟨au.sc,J⟩ J)))
 ·refine Ws (Wr ?_)
  refine aF (Iv a) y4 (aF (Iv b) y4 (aT LT.gtr y5 (aJ (Bv (decide (b < a))) y4 (On (aC.cond Q (fun hc2 => ?_) (fun hc2 => ?_))))))
  ·refine Ws (Wr ?_)
   refine aJ (Iv 1) aX (On (aC.ret (aj.mk (.inr Q) z1 J Q ⟨au.sc,J⟩ J)))
  ·refine aC.skip (aC.blk (Ws (Wr ?_)))
   refine aJ (Iv 0) aX (On (aC.ret (aj.mk (.inr Q) z1 J Q ⟨au.sc,J⟩ J)))
theorem aJM (x : aY) (y : aY) : FT Try.prog (Hq x y) 179 [.agg [iC x.A,iC x.B],.agg [iC y.A,iC y.B]] [] (fun (t : Int) => [.c (iC t)]) (fun (t : Int) => []) [] := by
 refine FT.of [] Try.func179 Try.ntmps179 Q y2 ?_
 intro w0 U0 R0 g0
 unfold Hq
 refine Ws (Wr ?_)
 refine fK (LT.box (n := 21) (v := (.agg [iC x.A,iC x.B])) Q fQ (by exact Q)) Q Q Q (fK (LT.box (n := 22) (v := (.agg [iC y.A,iC y.B])) Q fQ (by exact Q)) Q Q Q (aJ (Iv 0) aX (On (Ws (Ws (Wr ?_))))))
 refine fV (iC x.A) lS ay bP (fV (iC y.A) lS ay bP (aQ fun r1 hr1 => (aP.pure (bQ [.c (iC x.A),.c (iC y.A)] (aB1 x.A y.A r1 hr1) Xz (ji y2) J y3) z3 J Q Q (aJ (Iv r1) y4 (On (Ws ?_))))))
 refine en [(2,Cc (.pl 21 0)),(3,Cc (.pl 22 0)),(5,Iv r1)] [(21,.row 96 [[iC x.A,iC x.B]]),(22,.row 96 [[iC y.A,iC y.B]])] z3 z2 (Wr (aF (Iv r1) y4 (aT LT.neq aU (On (aC.cond Q (fun hc2 => ?_) (fun hc2 => ?_))))))
 ·refine Ws (Wr ?_)
  refine aF (Iv r1) y4 (aJ (Iv r1) y4 (On (aC.ret (aj.mk (.inr Q) z1 J Q ⟨au.sc,J⟩ J))))
 ·refine aC.skip (Ws (Wr ?_))
  refine fV (iC x.B) mV ay bP (fV (iC y.B) mV ay bP (aQ fun r3 hr3 => (aP.pure (bQ [.c (iC x.B),.c (iC y.B)] (aB1 x.B y.B r3 hr3) Xz (ji y2) J y3) z3 J Q Q (aJ (Iv r3) y4 (On (aC.ret (aj.mk (.inr Q) z1 J Q ⟨au.sc,J⟩ J)))))))
end Go.Proofs.Ytdmlaldifbmkpaa
end
section
set_option linter.unusedVariables false
set_option linter.unusedSimpArgs false
set_option linter.unnecessarySimpa false
set_option maxRecDepth 100000
set_option maxHeartbeats 8000000
open Go Go.Fw
namespace Go.Proofs.Ytdmlaldifbmkpaa
theorem aJf (g : dZ) (k : Int) : FT Try.prog (MP g k) 202 [.agg [iC g.aG,xF aI g.aB],.c (iC k)] [] (fun (t : (dZ × Bool)) => [.agg [iC t.1.aG,lo 0 t.1.aB.length],.c (bC t.2)]) (fun (t : (dZ × Bool)) => [(0,pR 96 aI t.1.aB)]) [0] := by
 refine FT.of [] Try.func202 Try.ntmps202 Q y2 ?_
 intro w0 U0 R0 g0
 unfold MP
 refine Ws (Wr ?_)
 refine fK (LT.box (n := 21) (v := (.agg [iC g.aG,xF aI g.aB])) Q gu (by exact Q)) Q Q Q (dP (LT.alloc (n := 22) (cells := [iC 0,sC ah]) Q qX Q Q Q) Q Q (aJ (Bv false) aX (On (Ws (Ws ?_)))))
 refine aC.fC (fun j4 => ([(1,Iv k),(2,Cc (.pl 21 0)),(4,Cc (.pl 22 0)),(19,Bv j4)],[(21,.row 26 [[iC g.aG,xF aI g.aB]]),(22,.row 26 [[iC 0,sC ah]])])) ?_ (fun j4 _ => ?_)
 ·refine Wr (bf (cO [iC g.aG,xF aI g.aB] Q lJ iR gu) Q Q Q Q (aQ fun r5 vV => (aP.pure (bQ [.agg [iC g.aG,xF aI g.aB]] (WZ g r5 vV) SL (FI y2) J y3) z2 J Q Q (aS (LT.not Q) Q Q Q (aF (Bv (!r5)) y4 (aP.split (fun hb6 => ?_) (fun hb6 => ?_)))))))
  ·refine aV hb6 y5 (aV hb6 y5 (dh (Bv true) hb6 aU (aF (Bv true) y4 (dD y5 (dD y5 (dD y5 (dD y5 (dD y5 (dh (Bv true) Q aU (On (aW Q z4 z2)))))))))))
  ·refine gW (Iv k) hb6 y5 (iT LT.lss hb6 kE (gY (Bv (decide (k < 0))) hb6 y5 (aF (Bv (decide (k < 0))) y4 (aP.split (fun hb7 => ?_) (fun hb7 => ?_)))))
   ·refine aV hb7 y5 (aV hb7 y5 (aV hb7 y5 (aV hb7 y5 (aV hb7 y5 (dh (Bv true) hb7 aU (On (aW Q z4 z2)))))))
   ·refine gW (Iv k) hb7 y5 (kR (xF aI g.aB) iJ iU hb7 iq (aS (LT.fA Q ig) Q (gH hb7 Q Q) Q (iT LT.geq hb7 y6 (gY (Bv (decide ((g.aB.length : Int) ≤ k))) hb7 y5 (On (aW Q z4 z2))))))
 ·refine aC.cond Q (fun hc8 => ?_) (fun hc8 => ?_)
  ·refine Ws (Wr ?_)
   refine bf (cO [iC g.aG,xF aI g.aB] Q lJ iR gu) Q Q Q Q (aQ fun r9 EF => (aP.step (bQ [.agg [iC g.aG,xF aI g.aB]] (Fw.Fn.ren [(0,25)] (aCE g r9 EF) Q) Xm (FI y2) J y3) z2 J Q Q (dU (stA [iC r9.aG,lo 25 r9.aB.length] Q Q iR gu) Q Q Q Q Q (aJ (Bv false) aX (On (en [(4,Cc (.pl 22 0)),(5,Bv false)] [(22,.row 26 [[iC r9.aG,lo 25 r9.aB.length]]),(25,pR 96 aI r9.aB)] z2 z2 (aC.ent (aO.mv 25 0 Q Q) (en [(4,Cc (.pl 22 0)),(5,Bv false)] [(0,pR 96 aI r9.aB),(22,.row 26 [[iC r9.aG,lo 0 r9.aB.length]])] z2 z2 (aC.ret (aj.mk (.inr Q) ⟨⟨_,_,_,Q,Q,Q,lJ,gu,_,dK iR⟩,Q,J⟩ z1 Q ⟨⟨au.sc,J,J⟩,au.sc,J⟩ ⟨dG.gm oh,J⟩))))))))))
  ·refine aC.skip (Ws (aC.draw mixed ?_))
   refine eG (iC g.aG) mQ ay bP (DN (LT.fZ (n := 26) (enc := aI) [] ([] : List aY) Q Q ig jo Q Q Q Q (by decide) (fun _ => Q) Q) Q Q (eG (xF aI g.aB) iJ iU bP (ak (Iv k) y4 (aN.bind fun v10 O8 => (dJ (LT.Qy (enc := aI) (uV := none) (uT := (some (.tmp 27,k))) (l := 0) (h := k.toNat) Q Q Q ig jO (fun _ => by rw [fQ]; rfl) (.inr y2) (.inl ⟨_,_,Q,Int.le_trans (CW O8).1 (CW O8).2.1,Q⟩) (Qq O8) (Qp O8)) Q Q Q Q (aN.bind fun u11 Ud => (lW (LT.Ja (enc := aI) Q  Q ig jo Q (by decide) (by decide) (fun _ => Q) (jU Ud)) Q Q Q Q Q (eG (xF aI g.aB) iJ iU bP ?_))))))))
   refine ak (Iv k) y4 (iE LT.add aU (aN.bind fun v12 Uh => (dJ (LT.Qy (enc := aI) (uV := (some (.tmp 33,aA (k + 1)))) (uT := none) (l := (aA (k + 1)).toNat) (h := g.aB.length) Q Q Q ig jO (fun _ => by rw [fQ]; rfl) (.inl ⟨_,_,Q,(CW Uh).1,Q⟩) (.inr y2) (Qq Uh) (Qp Uh)) Q Q Q Q (aN.bind fun u13 aFx => (lW (LT.Ja (enc := aI) Q  Q ig jo Q (by decide) (by decide) (fun _ => Q) (jU aFx)) Q Q Q Q Q (dJ (LT.build [(0,.tmp 23,.c (iC g.aG)),(1,.tmp 35,.c (lo 26 (((([] : List aY) ++ ((g.aB.take k.toNat).drop 0)) ++ ((g.aB.take g.aB.length).drop ((aA (k + 1)).toNat))).length)))] Q Q JI qX Q Q Q) Q Q Q Q (lW (stA [iC g.aG,lo 26 (((([] : List aY) ++ ((g.aB.take k.toNat).drop 0)) ++ ((g.aB.take g.aB.length).drop ((aA (k + 1)).toNat))).length)] Q Q iR gu) Q Q Q Q Q (bJ (LT.assign (v := (Bv true)) Q) y2 Q Q (aN.nil (by kernel_rfl) (en [(4,Cc (.pl 22 0)),(5,Bv true)] [(22,.row 26 [[iC g.aG,lo 26 (((([] : List aY) ++ ((g.aB.take k.toNat).drop 0)) ++ ((g.aB.take g.aB.length).drop ((aA (k + 1)).toNat))).length)]]),(26,pR 96 aI ((([] : List aY) ++ ((g.aB.take k.toNat).drop 0)) ++ ((g.aB.take g.aB.length).drop ((aA (k + 1)).toNat))))] z2 z2 (aC.ent (aO.mv 26 0 Q Q) ?_)))))))))))
   refine en [(4,Cc (.pl 22 0)),(5,Bv true)] [(0,pR 96 aI ((([] : List aY) ++ ((g.aB.take k.toNat).drop 0)) ++ ((g.aB.take g.aB.length).drop ((aA (k + 1)).toNat)))),(22,.row 26 [[iC g.aG,lo 0 (((([] : List aY) ++ ((g.aB.take k.toNat).drop 0)) ++ ((g.aB.take g.aB.length).drop ((aA (k + 1)).toNat))).length)]])] z2 z2 (aC.ret (aj.mk (.inr Q) ⟨⟨_,_,_,Q,Q,Q,lJ,gu,_,dK iR⟩,Q,J⟩ z1 Q ⟨⟨au.sc,J,J⟩,au.sc,J⟩ ⟨dG.gm oh,J⟩))
theorem aCF (c : cZ) (n : Int) : FT Try.prog (Io c n) 188 [.c (.pl 0 0),.c (iC n)] [(0,.row 139 [[xT bD c.b,iC c.i,iC c.h]])] (fun (t : (dZ × cZ)) => [.agg [iC t.1.aG,lo 1 t.1.aB.length]]) (fun (t : (dZ × cZ)) => [(0,.row 139 [[xT bD t.2.b,iC t.2.i,iC t.2.h]]),(1,pR 96 aI t.1.aB)]) [1] := by
 refine FT.of [0] Try.func188 Try.ntmps188 Q y2 ?_
 intro w0 U0 R0 g0
 unfold Io
 refine Ws (Wr ?_)
 refine dP (LT.alloc (n := 21) (cells := [iC 0,sC ah]) Q qX Q Q Q) Q Q (On (Ws (Wr ?_)))
 refine aF (Iv n) y4 (dP (LT.fZ (n := 22) (enc := aI) [] ([] : List aY) Q Q ig jo Q Q Q Q (by decide) (fun _ => Q) Q) Q Q (dY (LT.build [(0,.tmp 12,.c (iC n)),(1,.tmp 13,.c (lo 22 (([] : List aY).length)))] Q Q JI qX Q Q Q) Q Q Q Q (dP (LT.alloc (n := 23) (cells := [iC 0,sC ah]) Q qX Q Q Q) Q Q (dU (stA [iC n,lo 22 (([] : List aY).length)] Q Q iR gu) Q Q Q Q Q (On (Ws (Ws ?_)))))))
 refine en [(0,Cc (.pl 0 0)),(1,Iv n),(4,Cc (.pl 21 0)),(5,Cc (.pl 23 0))] [(0,.row 139 [[xT bD c.b,iC c.i,iC c.h]]),(21,.row 26 [[iC 0,sC ah]]),(22,pR 96 aI ([] : List aY)),(23,.row 26 [[iC n,lo 22 (([] : List aY).length)]])] z4 z4 (Wr (aF (Iv n) y4 (aT LT.lss aU (On (aC.cond Q (fun hc1 => ?_) (fun hc1 => ?_))))))
 ·refine Ws (Wr ?_)
  refine bf (cO [iC n,lo 22 (([] : List aY).length)] Q lJ iR gu) Q Q Q Q (dU (stA [iC n,lo 22 (([] : List aY).length)] Q Q iR gu) Q Q Q Q Q (On (en [(4,Cc (.pl 21 0))] [(0,.row 139 [[xT bD c.b,iC c.i,iC c.h]]),(21,.row 26 [[iC n,lo 22 (([] : List aY).length)]]),(22,pR 96 aI ([] : List aY))] z1 z3 (aC.ent (aO.mv 22 1 Q Q) (en [(4,Cc (.pl 21 0))] [(0,.row 139 [[xT bD c.b,iC c.i,iC c.h]]),(1,pR 96 aI ([] : List aY)),(21,.row 26 [[iC n,lo 1 (([] : List aY).length)]])] z1 z3 (aC.ret (aj.mk (.inr Q) ⟨⟨_,_,_,Q,Q,Q,lJ,gu,_,dK iR⟩,J⟩ z2 Q ⟨⟨au.sc,J,J⟩,J⟩ ⟨dG.qw ⟨kT qo,au.sc,au.sc,J⟩,dG.gm oh,J⟩)))))))
 ·refine aC.skip (Ws (Wr ?_))
  refine bf (cO [iC n,lo 22 (([] : List aY).length)] Q lJ iR gu) Q Q Q Q (dY (LT.build [(0,.const (.int .i64 0),.c (iC 0)),(1,.const (.int .i64 1),.c (iC 1))] Q Q CJ jo Q Q Q) y2 y2 Q Q (aQ fun r2 hr2 => (aP.step (cF [.agg [iC n,lo 22 (([] : List aY).length)],.agg [iC 0,iC 1]] [(22,pR 96 aI ([] : List aY))] (Fw.Fn.ren [(0,25)] (FV (dZ.mk n ([] : List aY)) (aY.mk 0 1) r2 hr2) Q) Df (.cons (.agg (.cons (.same Q) (.cons (.iZ Q Q) .nil))) (.cons (.agg (.cons (.same Q) (.cons (.same Q) .nil))) .nil)) J y3) z3 z1 Q Q (dU (stA [iC r2.aG,lo 25 r2.aB.length] Q Q iR gu) Q Q Q Q Q (On (Ws (Ws (Wr ?_))))))))
  refine aJ (Iv 2) aX (On (aC.block ?_))
  refine aC.iW (id := 0) (Ip n) (fun s3 => ([(0,Cc (.pl 0 0)),(1,Iv n),(4,Cc (.pl 21 0)),(5,Cc (.pl 23 0)),(6,Iv s3.1)],[(0,.row 139 [[xT bD s3.2.1,iC s3.2.2.1,iC s3.2.2.2.1]]),(21,.row 26 [[iC 0,sC ah]]),(23,.row 26 [[iC s3.2.2.2.2.1,lo 25 s3.2.2.2.2.2.length]]),(25,pR 96 aI s3.2.2.2.2.2)])) (fun lM => ([(4,Cc (.pl 21 0)),(5,Cc (.pl 23 0))],[(0,.row 139 [[xT bD lM.1,iC lM.2.1,iC lM.2.2.1]]),(21,.row 26 [[iC 0,sC ah]]),(23,.row 26 [[iC lM.2.2.2.1,lo 25 lM.2.2.2.2.length]]),(25,pR 96 aI lM.2.2.2.2)])) ?_ (aO.of z5 z4) Q (fun lM _ => ?_)
  ·intro s3
   unfold Ip
   refine Ws (Ws (Wr ?_))
   refine aF (Iv s3.1) y4 (aF (Iv n) y4 (aT LT.lss y5 (On (aC.cond Q (fun hc104 => ?_) (fun hc104 => ?_)))))
   ·refine aC.skip (Ws (aC.block (Ws (Wr ?_))))
    refine aF (Cc (.pl 0 0)) y4 (aF (Iv s3.1) y4 (aQ fun pF aFH => (aP.step (bQ [.c (.pl 0 0),.c (iC s3.1)] (Fw.Fn.ren [(0,0)] (qE (cZ.mk s3.2.1 s3.2.2.1 s3.2.2.2.1) s3.1 pF aFH) Q) pW (ji y2) z1 y3) z3 z1 Q Q (aJ (Iv pF.1) y4 (On (Ws (Wr ?_)))))))
    refine aF (Iv pF.1) y4 (aT LT.add aU (aF (Cc (.pl 0 0)) y4 (aF (Iv s3.1) y4 (aT LT.sub aU (aQ fun uG aFI => (aP.step (bQ [.c (.pl 0 0),.c (iC (aA (s3.1 - 1)))] (Fw.Fn.ren [(0,0)] (qE pF.2 (aA (s3.1 - 1)) uG aFI) Q) pW (ji y2) z1 y3) z3 z1 Q Q (aT LT.add y5 (aF (Iv s3.1) y4 (aQ fun aIu aFv => (dY (LT.rem Q (uq aFv)) Q Q Q Q (aJ (Iv (Int.tmod (aA ((aA (pF.1 + 1)) + uG.1)) s3.1)) y4 ?_)))))))))))
    refine On (Ws ?_)
    refine aC.fC (fun j110 => ([(0,Cc (.pl 0 0)),(1,Iv n),(4,Cc (.pl 21 0)),(5,Cc (.pl 23 0)),(6,Iv s3.1),(7,Iv pF.1),(8,Iv (Int.tmod (aA ((aA (pF.1 + 1)) + uG.1)) s3.1)),(43,Bv j110.1)],[(0,.row 139 [[xT bD j110.2.1,iC j110.2.2.1,iC j110.2.2.2]]),(21,.row 26 [[iC 0,sC ah]]),(23,.row 26 [[iC s3.2.2.2.2.1,lo 25 s3.2.2.2.2.2.length]]),(25,pR 96 aI s3.2.2.2.2.2)])) ?_ (fun j110 _ => ?_)
    ·refine en [(0,Cc (.pl 0 0)),(1,Iv n),(4,Cc (.pl 21 0)),(5,Cc (.pl 23 0)),(6,Iv s3.1),(7,Iv pF.1),(8,Iv (Int.tmod (aA ((aA (pF.1 + 1)) + uG.1)) s3.1))] [(0,.row 139 [[xT bD uG.2.b,iC uG.2.i,iC uG.2.h]]),(21,.row 26 [[iC 0,sC ah]]),(23,.row 26 [[iC s3.2.2.2.2.1,lo 25 s3.2.2.2.2.2.length]]),(25,pR 96 aI s3.2.2.2.2.2)] z7 z4 (Wr (aF (Cc (.pl 0 0)) y4 (aQ fun yT aFJ => (aP.step (bQ [.c (.pl 0 0),.c (iC 2)] (Fw.Fn.ren [(0,0)] (Wn uG.2 2 yT aFJ) Q) SA (ji y2) z1 y3) ⟨Q,Q,y2,J⟩ z1 Q Q (aF (Bv yT.1) y4 (aP.split (fun Dx => ?_) (fun Dx => ?_)))))))
     ·refine gW (Iv s3.1) Dx y5 (iT LT.gtr Dx kE (dh (Bv (decide (2 < s3.1))) Dx y5 (On (aW Q z8 z4))))
     ·refine aV Dx y5 (aV Dx y5 (gY (Bv false) Dx aU (On (aW Q z8 z4))))
    ·refine aC.fC (fun j133 => ([(0,Cc (.pl 0 0)),(1,Iv n),(4,Cc (.pl 21 0)),(5,Cc (.pl 23 0)),(6,Iv j133.1)],[(0,.row 139 [[xT bD j133.2.1,iC j133.2.2.1,iC j133.2.2.2.1]]),(21,.row 26 [[iC 0,sC ah]]),(23,.row 26 [[iC j133.2.2.2.2.1,lo 39 j133.2.2.2.2.2.length]]),(39,pR 96 aI j133.2.2.2.2.2)])) ?_ (fun j133 _ => ?_)
     ·refine aC.cond Q (fun aEV => ?_) (fun aEV => ?_)
      ·refine Ws (Wr ?_)
       refine aF (Cc (.pl 0 0)) y4 (fV (lo 25 s3.2.2.2.2.2.length) iJ iU bP (aS (LT.jg Q ig) Q Q Q (aQ fun ng aFM => (aP.step (bQ [.c (.pl 0 0),.c (iC (s3.2.2.2.2.2.length : Int))] (Fw.Fn.ren [(0,0)] (qE (cZ.mk j110.2.1 j110.2.2.1 j110.2.2.2) (s3.2.2.2.2.2.length : Int) ng aFM) Q) pW (ji y2) z1 y3) z3 z1 Q Q (aJ (Iv ng.1) y4 (On (Ws (Wr ?_))))))))
       refine fV (lo 25 s3.2.2.2.2.2.length) iJ iU bP (aF (Iv ng.1) y4 (aQ fun mP BD => (iK (LT.iG Q Q rH BD) Q Q Q Q Q (bf (LT.WI Q kZ (dK jO) fQ BD (by exact Q) (by exact Q)) Q Q Q Q (dP (LT.alloc (n := 30) (cells := [iC 0,iC 0]) Q jo Q Q Q) Q Q (dU (stA [iC mP.A,iC mP.B] Q Q jO fQ) Q Q Q Q Q (On (Ws ?_))))))))
       refine en [(0,Cc (.pl 0 0)),(1,Iv n),(4,Cc (.pl 21 0)),(5,Cc (.pl 23 0)),(6,Iv s3.1),(9,Iv ng.1),(10,Cc (.pl 30 0))] [(0,.row 139 [[xT bD ng.2.b,iC ng.2.i,iC ng.2.h]]),(21,.row 26 [[iC 0,sC ah]]),(23,.row 26 [[iC s3.2.2.2.2.1,lo 25 s3.2.2.2.2.2.length]]),(25,pR 96 aI s3.2.2.2.2.2),(30,.row 96 [[iC mP.A,iC mP.B]])] z7 z5 (Wr (aJ (Iv 0) aX (On (Ws (aC.block ?_)))))
       refine aC.iW (id := 2) (NC s3 ng mP) (fun uz => ([(0,Cc (.pl 0 0)),(1,Iv n),(4,Cc (.pl 21 0)),(5,Cc (.pl 23 0)),(6,Iv s3.1),(9,Iv ng.1),(10,Cc (.pl 30 0)),(11,Iv uz)],[(0,.row 139 [[xT bD ng.2.b,iC ng.2.i,iC ng.2.h]]),(21,.row 26 [[iC 0,sC ah]]),(23,.row 26 [[iC s3.2.2.2.2.1,lo 25 s3.2.2.2.2.2.length]]),(25,pR 96 aI s3.2.2.2.2.2),(30,.row 96 [[iC mP.A,iC mP.B]])])) (fun dw => ([(0,Cc (.pl 0 0)),(1,Iv n),(4,Cc (.pl 21 0)),(5,Cc (.pl 23 0)),(6,Iv dw.1),(9,Iv dw.2.1),(10,Cc (.pl 30 0)),(11,Iv dw.2.2.1)],[(0,.row 139 [[xT bD dw.2.2.2.1,iC dw.2.2.2.2.1,iC dw.2.2.2.2.2.1]]),(21,.row 26 [[iC 0,sC ah]]),(23,.row 26 [[iC dw.2.2.2.2.2.2.1,lo 25 dw.2.2.2.2.2.2.2.1.length]]),(25,pR 96 aI dw.2.2.2.2.2.2.2.1),(30,.row 96 [[iC dw.2.2.2.2.2.2.2.2.1,iC dw.2.2.2.2.2.2.2.2.2]])])) ?_ (aO.of z8 z5) Q (fun dw _ => ?_)
       ·intro uz
        unfold NC
        refine Ws (Ws ?_)
        refine aC.fC (fun Pj => ([(0,Cc (.pl 0 0)),(1,Iv n),(4,Cc (.pl 21 0)),(5,Cc (.pl 23 0)),(6,Iv s3.1),(9,Iv ng.1),(10,Cc (.pl 30 0)),(11,Iv uz),(63,Bv Pj)],[(0,.row 139 [[xT bD ng.2.b,iC ng.2.i,iC ng.2.h]]),(21,.row 26 [[iC 0,sC ah]]),(23,.row 26 [[iC s3.2.2.2.2.1,lo 25 s3.2.2.2.2.2.length]]),(25,pR 96 aI s3.2.2.2.2.2),(30,.row 96 [[iC mP.A,iC mP.B]])])) ?_ (fun Pj _ => ?_)
        ·refine Wr (aF (Iv uz) y4 (fV (iC mP.A) lS ay bP (aT LT.eql y5 (aF (Bv (uz == mP.A)) y4 (aP.split (fun yD => ?_) (fun yD => ?_))))))
         ·refine aV yD y5 (aV yD y5 (aV yD y5 (aV yD y5 (dh (Bv true) yD aU (On (aW Q z9 z5))))))
         ·refine gW (Iv uz) yD y5 (kR (iC mP.B) mV ay yD iq (iT LT.eql yD y6 (gY (Bv (uz == mP.B)) yD y5 (On (aW Q z9 z5)))))
        ·refine aC.cond Q (fun hc150 => ?_) (fun hc150 => ?_)
         ·refine aC.skip (aC.block (Wr ?_))
          refine aF (Iv uz) y4 (aT LT.add aU (aJ (Iv (aA (uz + 1))) y4 (On (aC.blk ?_))))
          refine aW Q z8 z5
         ·refine aC.eF Q ⟨Q,aO.of z8 z5⟩
       ·refine Ws (Wr ?_)
        refine aF (Cc (.pl 0 0)) y4 (aF (Iv dw.1) y4 (bf (cO [iC dw.2.2.2.2.2.2.2.2.1,iC dw.2.2.2.2.2.2.2.2.2] Q kZ jO fQ) Q Q Q Q (aF (Iv dw.2.2.1) y4 (aQ fun pz UO => (aP.step (bQ [.c (.pl 0 0),.c (iC dw.1),.agg [iC dw.2.2.2.2.2.2.2.2.1,iC dw.2.2.2.2.2.2.2.2.2],.c (iC dw.2.2.1)] (Fw.Fn.ren [(0,0)] (aJp (cZ.mk dw.2.2.2.1 dw.2.2.2.2.1 dw.2.2.2.2.2.1) dw.1 (aY.mk dw.2.2.2.2.2.2.2.2.1 dw.2.2.2.2.2.2.2.2.2) dw.2.2.1 pz UO) Q) aDI (aII y5) z1 y3) z5 z1 Q Q (aJ (Iv pz.1) y4 (On (Ws (Wr ?_)))))))))
        refine bf (cO [iC dw.2.2.2.2.2.2.1,lo 25 dw.2.2.2.2.2.2.2.1.length] Q lJ iR gu) Q Q Q Q (aF (Iv dw.2.1) y4 (aQ fun nK UQ => (aP.step (cF [.agg [iC dw.2.2.2.2.2.2.1,lo 25 dw.2.2.2.2.2.2.2.1.length],.c (iC dw.2.1)] [(25,pR 96 aI dw.2.2.2.2.2.2.2.1)] (Fw.Fn.ren [(0,33)] (aJf (dZ.mk dw.2.2.2.2.2.2.1 dw.2.2.2.2.2.2.2.1) dw.2.1 nK UQ) Q) aDJ (.cons (.agg (.cons (.same Q) (.cons (.iZ Q Q) .nil))) (.cons (.c (.same Q)) .nil)) J y3) z3 z1 Q Q (aF (.dO [.agg [iC nK.1.aG,lo 33 nK.1.aB.length],.c (bC nK.2)]) y4 (aS (LT.extract (v := (.agg [iC nK.1.aG,lo 33 nK.1.aB.length])) Q (by exact Q)) Q Q Q (aS (LT.extract (v := (.c (bC nK.2))) Q (by exact Q)) Q Q Q (dU (stA [iC nK.1.aG,lo 33 nK.1.aB.length] Q Q iR gu) Q Q Q Q Q (On (en [(0,Cc (.pl 0 0)),(1,Iv n),(4,Cc (.pl 21 0)),(5,Cc (.pl 23 0)),(6,Iv dw.1),(10,Cc (.pl 30 0)),(11,Iv pz.1)] [(0,.row 139 [[xT bD pz.2.b,iC pz.2.i,iC pz.2.h]]),(21,.row 26 [[iC 0,sC ah]]),(23,.row 26 [[iC nK.1.aG,lo 33 nK.1.aB.length]]),(30,.row 96 [[iC dw.2.2.2.2.2.2.2.2.1,iC dw.2.2.2.2.2.2.2.2.2]]),(33,pR 96 aI nK.1.aB)] z7 z5 (aC.draw mixed (gQ (cO [iC nK.1.aG,lo 33 nK.1.aB.length] Q lJ iR gu) Q Q Q Q ?_)))))))))))
        refine eG (iC dw.2.2.2.2.2.2.2.2.1) lS ay bP (ak (Iv dw.1) y4 (dJ (LT.build [(0,.tmp 79,.c (iC dw.2.2.2.2.2.2.2.2.1)),(1,.tmp 80,.c (iC dw.1))] Q Q CJ jo Q Q Q) Q Q Q Q (aN.bind fun FB aFR => (aN.step (cF [.agg [iC nK.1.aG,lo 33 nK.1.aB.length],.agg [iC dw.2.2.2.2.2.2.2.2.1,iC dw.1]] [(33,pR 96 aI nK.1.aB)] (Fw.Fn.ren [(0,35)] (FV nK.1 (aY.mk dw.2.2.2.2.2.2.2.2.1 dw.1) FB aFR) Q) Df (.cons (.agg (.cons (.same Q) (.cons (.iZ Q Q) .nil))) (.cons (.agg (.cons (.same Q) (.cons (.same Q) .nil))) .nil)) J y3) z3 z1 Q Q (eG (iC dw.2.2.2.2.2.2.2.2.2) mV ay bP (ak (Iv dw.1) y4 (dJ (LT.build [(0,.tmp 84,.c (iC dw.2.2.2.2.2.2.2.2.2)),(1,.tmp 85,.c (iC dw.1))] Q Q CJ jo Q Q Q) Q Q Q Q (aN.bind fun qA UR => (aN.step (cF [.agg [iC FB.aG,lo 35 FB.aB.length],.agg [iC dw.2.2.2.2.2.2.2.2.2,iC dw.1]] [(35,pR 96 aI FB.aB)] (Fw.Fn.ren [(0,37)] (FV FB (aY.mk dw.2.2.2.2.2.2.2.2.2 dw.1) qA UR) Q) Df (.cons (.agg (.cons (.same Q) (.cons (.iZ Q Q) .nil))) (.cons (.agg (.cons (.same Q) (.cons (.same Q) .nil))) .nil)) J y3) z3 z1 Q Q ?_)))))))))
        refine ak (Iv pz.1) y4 (ak (Iv dw.1) y4 (dJ (LT.build [(0,.tmp 88,.c (iC pz.1)),(1,.tmp 89,.c (iC dw.1))] Q Q CJ jo Q Q Q) Q Q Q Q (aN.bind fun JM aFS => (aN.step (cF [.agg [iC qA.aG,lo 37 qA.aB.length],.agg [iC pz.1,iC dw.1]] [(37,pR 96 aI qA.aB)] (Fw.Fn.ren [(0,39)] (FV qA (aY.mk pz.1 dw.1) JM aFS) Q) Df (.cons (.agg (.cons (.same Q) (.cons (.iZ Q Q) .nil))) (.cons (.agg (.cons (.same Q) (.cons (.same Q) .nil))) .nil)) J y3) z3 z1 Q Q (lW (stA [iC JM.aG,lo 39 JM.aB.length] Q Q iR gu) Q Q Q Q Q (aN.nil (by kernel_rfl) (aW Q z5 z4)))))))
      ·refine Wr (bf (cO [iC s3.2.2.2.2.1,lo 25 s3.2.2.2.2.2.length] Q lJ iR gu) Q Q Q Q (aF (Iv pF.1) y4 (aF (Iv s3.1) y4 (dY (LT.build [(0,.tmp 93,.c (iC pF.1)),(1,.tmp 94,.c (iC s3.1))] Q Q CJ jo Q Q Q) Q Q Q Q (aQ fun qB KN => (aP.step (cF [.agg [iC s3.2.2.2.2.1,lo 25 s3.2.2.2.2.2.length],.agg [iC pF.1,iC s3.1]] [(25,pR 96 aI s3.2.2.2.2.2)] (Fw.Fn.ren [(0,41)] (FV (dZ.mk s3.2.2.2.2.1 s3.2.2.2.2.2) (aY.mk pF.1 s3.1) qB KN) Q) Df (.cons (.agg (.cons (.same Q) (.cons (.iZ Q Q) .nil))) (.cons (.agg (.cons (.same Q) (.cons (.same Q) .nil))) .nil)) J y3) z3 z1 Q Q (aF (Iv (Int.tmod (aA ((aA (pF.1 + 1)) + uG.1)) s3.1)) y4 (aF (Iv s3.1) y4 (dY (LT.build [(0,.tmp 97,.c (iC (Int.tmod (aA ((aA (pF.1 + 1)) + uG.1)) s3.1))),(1,.tmp 98,.c (iC s3.1))] Q Q CJ jo Q Q Q) Q Q Q Q (aQ fun sS UW => (aP.step (cF [.agg [iC qB.aG,lo 41 qB.aB.length],.agg [iC (Int.tmod (aA ((aA (pF.1 + 1)) + uG.1)) s3.1),iC s3.1]] [(41,pR 96 aI qB.aB)] (Fw.Fn.ren [(0,43)] (FV qB (aY.mk (Int.tmod (aA ((aA (pF.1 + 1)) + uG.1)) s3.1) s3.1) sS UW) Q) Df (.cons (.agg (.cons (.same Q) (.cons (.iZ Q Q) .nil))) (.cons (.agg (.cons (.same Q) (.cons (.same Q) .nil))) .nil)) J y3) z3 z1 Q Q ?_)))))))))))
       refine dU (stA [iC sS.aG,lo 43 sS.aB.length] Q Q iR gu) Q Q Q Q Q (On (en [(0,Cc (.pl 0 0)),(1,Iv n),(4,Cc (.pl 21 0)),(5,Cc (.pl 23 0)),(6,Iv s3.1)] [(0,.row 139 [[xT bD j110.2.1,iC j110.2.2.1,iC j110.2.2.2]]),(21,.row 26 [[iC 0,sC ah]]),(23,.row 26 [[iC sS.aG,lo 43 sS.aB.length]]),(43,pR 96 aI sS.aB)] z5 z4 (aC.ent (aO.mv 43 39 Q Q) (aW Q z5 z4))))
     ·refine aC.blk (Wr ?_)
      refine aF (Iv j133.1) y4 (aT LT.add aU (aJ (Iv (aA (j133.1 + 1))) y4 (On (en [(0,Cc (.pl 0 0)),(1,Iv n),(4,Cc (.pl 21 0)),(5,Cc (.pl 23 0)),(6,Iv (aA (j133.1 + 1)))] [(0,.row 139 [[xT bD j133.2.1,iC j133.2.2.1,iC j133.2.2.2.1]]),(21,.row 26 [[iC 0,sC ah]]),(23,.row 26 [[iC j133.2.2.2.2.1,lo 39 j133.2.2.2.2.2.length]]),(39,pR 96 aI j133.2.2.2.2.2)] z5 z4 (aC.ent (aO.mv 39 25 Q Q) (aW Q z5 z4))))))
   ·refine aC.eF Q ⟨Q,aO.of z2 z4⟩
  ·refine Ws (Wr ?_)
   refine bf (cO [iC lM.2.2.2.1,lo 25 lM.2.2.2.2.length] Q lJ iR gu) Q Q Q Q (dU (stA [iC lM.2.2.2.1,lo 25 lM.2.2.2.2.length] Q Q iR gu) Q Q Q Q Q (On (en [(4,Cc (.pl 21 0))] [(0,.row 139 [[xT bD lM.1,iC lM.2.1,iC lM.2.2.1]]),(21,.row 26 [[iC lM.2.2.2.1,lo 25 lM.2.2.2.2.length]]),(25,pR 96 aI lM.2.2.2.2)] z1 z3 (aC.ent (aO.mv 25 1 Q Q) (en [(4,Cc (.pl 21 0))] [(0,.row 139 [[xT bD lM.1,iC lM.2.1,iC lM.2.2.1]]),(1,pR 96 aI lM.2.2.2.2),(21,.row 26 [[iC lM.2.2.2.1,lo 1 lM.2.2.2.2.length]])] z1 z3 (aC.ret (aj.mk (.inr Q) ⟨⟨_,_,_,Q,Q,Q,lJ,gu,_,dK iR⟩,J⟩ z2 Q ⟨⟨au.sc,J,J⟩,J⟩ ⟨dG.qw ⟨kT qo,au.sc,au.sc,J⟩,dG.gm oh,J⟩)))))))
theorem aJT (g : dZ) (a : Int) (b : Int) : FT Try.prog (L6 g a b) 189 [.agg [iC g.aG,xF aI g.aB],.c (iC a),.c (iC b)] [] (fun (t : (dZ × Bool)) => [.agg [iC t.1.aG,lo 0 t.1.aB.length],.c (bC t.2)]) (fun (t : (dZ × Bool)) => [(0,pR 96 aI t.1.aB)]) [0] := by
 refine FT.of [] Try.func189 Try.ntmps189 Q y2 ?_
 intro w0 U0 R0 g0
 unfold L6
 refine Ws (Wr ?_)
 refine fK (LT.box (n := 21) (v := (.agg [iC g.aG,xF aI g.aB])) Q gu (by exact Q)) Q Q Q (dP (LT.alloc (n := 22) (cells := [iC 0,sC ah]) Q qX Q Q Q) Q Q (aJ (Bv false) aX (On (Ws (Ws ?_)))))
 refine aC.fC (fun j8 => ([(1,Iv a),(2,Iv b),(3,Cc (.pl 21 0)),(6,Cc (.pl 22 0)),(41,Bv j8)],[(21,.row 26 [[iC g.aG,xF aI g.aB]]),(22,.row 26 [[iC 0,sC ah]])])) ?_ (fun j8 _ => ?_)
 ·refine Wr (bf (cO [iC g.aG,xF aI g.aB] Q lJ iR gu) Q Q Q Q (aQ fun r9 EF => (aP.pure (bQ [.agg [iC g.aG,xF aI g.aB]] (WZ g r9 EF) SL (FI y2) J y3) z2 J Q Q (aS (LT.not Q) Q Q Q (aF (Bv (!r9)) y4 (aP.split (fun Dv => ?_) (fun Dv => ?_)))))))
  ·refine aV Dv y5 (aV Dv y5 (dh (Bv true) Dv aU (aF (Bv true) y4 (dD y5 (dD y5 (dh (Bv true) Q aU (aF (Bv true) y4 (dD y5 (dD y5 (dD y5 (dD y5 ?_)))))))))))
   refine dh (Bv true) Q aU (aF (Bv true) y4 (dD y5 (dD y5 (dD y5 (dD y5 (dh (Bv true) Q aU (aF (Bv true) y4 (dD y5 (dD y5 (dD y5 (dh (Bv true) Q aU ?_)))))))))))
   refine aF (Bv true) y4 (dD y5 (dD y5 (dD y5 (dD y5 (dh (Bv true) Q aU (On (aW Q z5 z2)))))))
  ·refine gW (Iv a) Dv y5 (iT LT.lss Dv kE (gY (Bv (decide (a < 0))) Dv y5 (aF (Bv (decide (a < 0))) y4 (aP.split (fun Dw => ?_) (fun Dw => ?_)))))
   ·refine aV Dw y5 (aV Dw y5 (dh (Bv true) Dw aU (aF (Bv true) y4 (dD y5 (dD y5 (dD y5 (dD y5 (dh (Bv true) Q aU (aF (Bv true) y4 (dD y5 (dD y5 ?_)))))))))))
    refine dD y5 (dD y5 (dh (Bv true) Q aU (aF (Bv true) y4 (dD y5 (dD y5 (dD y5 (dh (Bv true) Q aU (aF (Bv true) y4 (dD y5 (dD y5 (dD y5 ?_)))))))))))
    refine dD y5 (dh (Bv true) Q aU (On (aW Q z5 z2)))
   ·refine gW (Iv b) Dw y5 (iT LT.lss Dw kE (gY (Bv (decide (b < 0))) Dw y5 (aF (Bv (decide (b < 0))) y4 (aP.split (fun yB => ?_) (fun yB => ?_)))))
    ·refine aV yB y5 (aV yB y5 (aV yB y5 (aV yB y5 (dh (Bv true) yB aU (aF (Bv true) y4 (dD y5 (dD y5 (dD y5 (dD y5 (dh (Bv true) Q aU (aF (Bv true) y4 ?_)))))))))))
     refine dD y5 (dD y5 (dD y5 (dh (Bv true) Q aU (aF (Bv true) y4 (dD y5 (dD y5 (dD y5 (dD y5 (dh (Bv true) Q aU (On (aW Q z5 z2)))))))))))
    ·refine gW (Iv a) yB y5 (kR (iC g.aG) mQ ay yB iq (iT LT.geq yB y6 (gY (Bv (decide (g.aG ≤ a))) yB y5 (aF (Bv (decide (g.aG ≤ a))) y4 (aP.split (fun yC => ?_) (fun yC => ?_))))))
     ·refine aV yC y5 (aV yC y5 (aV yC y5 (aV yC y5 (dh (Bv true) yC aU (aF (Bv true) y4 (dD y5 (dD y5 (dD y5 (dh (Bv true) Q aU (aF (Bv true) y4 (dD y5 ?_)))))))))))
      refine dD y5 (dD y5 (dD y5 (dh (Bv true) Q aU (On (aW Q z5 z2)))))
     ·refine gW (Iv b) yC y5 (kR (iC g.aG) mQ ay yC iq (iT LT.geq yC y6 (gY (Bv (decide (g.aG ≤ b))) yC y5 (aF (Bv (decide (g.aG ≤ b))) y4 (aP.split (fun oH => ?_) (fun oH => ?_))))))
      ·refine aV oH y5 (aV oH y5 (aV oH y5 (dh (Bv true) oH aU (aF (Bv true) y4 (dD y5 (dD y5 (dD y5 (dD y5 (dh (Bv true) Q aU (On (aW Q z5 z2)))))))))))
      ·refine gW (Iv a) oH y5 (gW (Iv b) oH y5 (iT LT.eql oH y6 (gY (Bv (a == b)) oH y5 (aF (Bv (a == b)) y4 (aP.split (fun qj => ?_) (fun qj => ?_))))))
       ·refine aV qj y5 (aV qj y5 (aV qj y5 (aV qj y5 (dh (Bv true) qj aU (On (aW Q z5 z2))))))
       ·refine kR (xF aI g.aB) iJ iU qj iq (aS (LT.fA Q ig) Q (gH qj Q Q) Q (iT LT.geq qj kE (gY (Bv (decide (24 ≤ (g.aB.length : Int)))) qj y5 (On (aW Q z5 z2)))))
 ·refine aC.cond Q (fun hc16 => ?_) (fun hc16 => ?_)
  ·refine Ws (Wr ?_)
   refine bf (cO [iC g.aG,xF aI g.aB] Q lJ iR gu) Q Q Q Q (aQ fun pG KO => (aP.step (bQ [.agg [iC g.aG,xF aI g.aB]] (Fw.Fn.ren [(0,25)] (aCE g pG KO) Q) Xm (FI y2) J y3) z2 J Q Q (dU (stA [iC pG.aG,lo 25 pG.aB.length] Q Q iR gu) Q Q Q Q Q (aJ (Bv false) aX (On (en [(6,Cc (.pl 22 0)),(7,Bv false)] [(22,.row 26 [[iC pG.aG,lo 25 pG.aB.length]]),(25,pR 96 aI pG.aB)] z2 z2 (aC.ent (aO.mv 25 0 Q Q) (en [(6,Cc (.pl 22 0)),(7,Bv false)] [(0,pR 96 aI pG.aB),(22,.row 26 [[iC pG.aG,lo 0 pG.aB.length]])] z2 z2 (aC.ret (aj.mk (.inr Q) ⟨⟨_,_,_,Q,Q,Q,lJ,gu,_,dK iR⟩,Q,J⟩ z1 Q ⟨⟨au.sc,J,J⟩,au.sc,J⟩ ⟨dG.gm oh,J⟩))))))))))
  ·refine aC.skip (Ws (Wr ?_))
   refine bf (cO [iC g.aG,xF aI g.aB] Q lJ iR gu) Q Q Q Q (aF (Iv a) y4 (aF (Iv b) y4 (aT LT.min y5 (aF (Iv a) y4 (aF (Iv b) y4 (aT LT.max y5 (dY (LT.build [(0,.tmp 47,.c (iC (if b < a then b else a))),(1,.tmp 50,.c (iC (if a < b then b else a)))] Q Q CJ jo Q Q Q) Q Q Q Q (aQ fun jJ zV => (aP.step (bQ [.agg [iC g.aG,xF aI g.aB],.agg [iC (if b < a then b else a),iC (if a < b then b else a)]] (Fw.Fn.ren [(0,27)] (FV g (aY.mk (if b < a then b else a) (if a < b then b else a)) jJ zV) Q) Df (Qn y4) J y3) z3 J Q Q (dU (stA [iC jJ.aG,lo 27 jJ.aB.length] Q Q iR gu) Q Q Q Q Q (aJ (Bv true) aX ?_)))))))))))
   refine On (en [(6,Cc (.pl 22 0)),(7,Bv true)] [(22,.row 26 [[iC jJ.aG,lo 27 jJ.aB.length]]),(27,pR 96 aI jJ.aB)] z2 z2 (aC.ent (aO.mv 27 0 Q Q) (en [(6,Cc (.pl 22 0)),(7,Bv true)] [(0,pR 96 aI jJ.aB),(22,.row 26 [[iC jJ.aG,lo 0 jJ.aB.length]])] z2 z2 (aC.ret (aj.mk (.inr Q) ⟨⟨_,_,_,Q,Q,Q,lJ,gu,_,dK iR⟩,Q,J⟩ z1 Q ⟨⟨au.sc,J,J⟩,au.sc,J⟩ ⟨dG.gm oh,J⟩)))))
theorem aJh (c : cZ) : FT Try.prog (MR c) 158 [.c (.pl 0 0)] [(0,.row 139 [[xT bD c.b,iC c.i,iC c.h]])] (fun (t : (aZ × cZ)) => [.agg [iC t.1.Graph.aG,lo 1 t.1.Graph.aB.length,lo 2 t.1.Places.length]]) (fun (t : (aZ × cZ)) => [(0,.row 139 [[xT bD t.2.b,iC t.2.i,iC t.2.h]]),(1,pR 96 aI t.1.Graph.aB),(2,pR 82 aK t.1.Places)]) [1,2] := by
 refine FT.of [0] Try.func158 Try.ntmps158 Q y2 ?_
 intro w0 U0 R0 g0
 unfold MR
 refine Ws (Wr ?_)
 refine dP (LT.alloc (n := 21) (cells := [iC 0,sC ah,sC ah]) Q pI Q Q Q) Q Q (On (Ws (Ws (Wr ?_))))
 refine aF (Cc (.pl 0 0)) y4 (aQ fun r1 hr1 => (aP.step (bQ [.c (.pl 0 0),.c (iC 3)] (Fw.Fn.ren [(0,0)] (qE c 3 r1 hr1) Q) pW (ji y2) z1 y3) ⟨Q,Q,y2,J⟩ z1 Q Q (On (aC.block (Ws (Wr ?_))))))
 refine aT LT.eql aU (aJ (Bv (r1.1 == 0)) y4 (On (aC.cond Q (fun hc2 => ?_) (fun hc2 => ?_))))
 ·refine Ws (Wr ?_)
  refine aF (Cc (.pl 0 0)) y4 (aQ fun r3 hr3 => (aP.step (bQ [.c (.pl 0 0),.c (iC 5)] (Fw.Fn.ren [(0,0)] (qE r1.2 5 r3 hr3) Q) pW (ji y2) z1 y3) ⟨Q,Q,y2,J⟩ z1 Q Q (aT LT.add nP (aJ (Iv (aA (2 + r3.1))) y4 (On (Ws ?_))))))
  refine en [(0,Cc (.pl 0 0)),(2,Cc (.pl 21 0)),(3,Iv (aA (2 + r3.1)))] [(0,.row 139 [[xT bD r3.2.b,iC r3.2.i,iC r3.2.h]]),(21,.row 29 [[iC 0,sC ah,sC ah]])] z3 z2 (Wr (aF (Cc (.pl 0 0)) y4 (aF (Iv (aA (2 + r3.1))) y4 (aQ fun r4 hr4 => (aP.step (bQ [.c (.pl 0 0),.c (iC (aA (2 + r3.1))),.c (iC 7)] (Fw.Fn.ren [(0,0),(1,25)] (aJn r3.2 (aA (2 + r3.1)) 7 r4 hr4) Q) aDD (vH y3) z1 y3) ⟨Q,Q,Q,y2,J⟩ z1 Q Q (dP (LT.alloc (n := 26) (cells := [iC 0,sC ah]) Q qX Q Q Q) Q Q (dU (stA [iC r4.1.aG,lo 25 r4.1.aB.length] Q Q iR gu) Q Q Q Q Q (On (Ws ?_)))))))))
  refine en [(0,Cc (.pl 0 0)),(2,Cc (.pl 21 0)),(4,Cc (.pl 26 0))] [(0,.row 139 [[xT bD r4.2.b,iC r4.2.i,iC r4.2.h]]),(21,.row 29 [[iC 0,sC ah,sC ah]]),(25,pR 96 aI r4.1.aB),(26,.row 26 [[iC r4.1.aG,lo 25 r4.1.aB.length]])] z3 z4 (Wr (aF (Cc (.pl 0 0)) y4 (bf (cO [iC r4.1.aG,lo 25 r4.1.aB.length] Q lJ iR gu) Q Q Q Q (aQ fun r5 vV => (aP.step (cF [.c (.pl 0 0),.agg [iC r4.1.aG,lo 25 r4.1.aB.length]] [(25,pR 96 aI r4.1.aB)] (Fw.Fn.ren [(0,0),(1,28),(2,29)] (Wi r4.2 r4.1 r5 vV) Q) Rz (.cons (.c (.same Q)) (.cons (.agg (.cons (.same Q) (.cons (.iZ Q Q) .nil))) .nil)) z1 y3) z3 z2 Q Q (dU (stA [iC r5.1.Graph.aG,lo 28 r5.1.Graph.aB.length,lo 29 r5.1.Places.length] Q Q bn bU) Q Q Q Q Q (On (en [(2,Cc (.pl 21 0))] [(0,.row 139 [[xT bD r5.2.b,iC r5.2.i,iC r5.2.h]]),(21,.row 29 [[iC r5.1.Graph.aG,lo 28 r5.1.Graph.aB.length,lo 29 r5.1.Places.length]]),(28,pR 96 aI r5.1.Graph.aB),(29,pR 82 aK r5.1.Places)] z1 z4 (aC.ent (aO.mv 28 1 Q Q) (aC.ent (aO.mv 29 2 Q Q) (en [(2,Cc (.pl 21 0))] [(0,.row 139 [[xT bD r5.2.b,iC r5.2.i,iC r5.2.h]]),(1,pR 96 aI r5.1.Graph.aB),(2,pR 82 aK r5.1.Places),(21,.row 29 [[iC r5.1.Graph.aG,lo 1 r5.1.Graph.aB.length,lo 2 r5.1.Places.length]])] z1 z4 ?_)))))))))))
  refine aC.ret (aj.mk (.inr Q) ⟨⟨_,_,_,Q,Q,Q,dW,bU,_,dK bn⟩,J⟩ z3 Q ⟨⟨au.sc,J,J,J⟩,J⟩ ⟨dG.qw ⟨kT qo,au.sc,au.sc,J⟩,dG.gm oh,dG.gm vg,J⟩)
 ·refine Ws (Wr ?_)
  refine aT LT.eql aU (aJ (Bv (r1.1 == 1)) y4 (On (aC.cond Q (fun hc6 => ?_) (fun hc6 => ?_))))
  ·refine Ws (en [(0,Cc (.pl 0 0)),(2,Cc (.pl 21 0))] [(0,.row 139 [[xT bD r1.2.b,iC r1.2.i,iC r1.2.h]]),(21,.row 29 [[iC 0,sC ah,sC ah]])] z2 z2 (Wr (aF (Cc (.pl 0 0)) y4 (aQ fun r7 tY => (aP.step (bQ [.c (.pl 0 0),.c (iC 4)] (Fw.Fn.ren [(0,0)] (qE r1.2 4 r7 tY) Q) pW (ji y2) z1 y3) ⟨Q,Q,y2,J⟩ z1 Q Q (aT LT.add nP (aJ (Iv (aA (2 + r7.1))) y4 (On (Ws (Wr ?_))))))))))
   refine aF (Cc (.pl 0 0)) y4 (aF (Iv (aA (2 + r7.1))) y4 (aQ fun r8 xB => (aP.step (bQ [.c (.pl 0 0),.c (iC (aA (2 + r7.1)))] (Fw.Fn.ren [(0,0),(1,32)] (aCF r7.2 (aA (2 + r7.1)) r8 xB) Q) Xy (ji y2) z1 y3) z3 z1 Q Q (dP (LT.alloc (n := 33) (cells := [iC 0,sC ah]) Q qX Q Q Q) Q Q (dU (stA [iC r8.1.aG,lo 32 r8.1.aB.length] Q Q iR gu) Q Q Q Q Q (On (Ws ?_)))))))
   refine en [(0,Cc (.pl 0 0)),(2,Cc (.pl 21 0)),(5,Iv (aA (2 + r7.1))),(6,Cc (.pl 33 0))] [(0,.row 139 [[xT bD r8.2.b,iC r8.2.i,iC r8.2.h]]),(21,.row 29 [[iC 0,sC ah,sC ah]]),(32,pR 96 aI r8.1.aB),(33,.row 26 [[iC r8.1.aG,lo 32 r8.1.aB.length]])] z4 z4 (Wr (aF (Cc (.pl 0 0)) y4 (aF (Iv (aA (2 + r7.1))) y4 (aQ fun r9 EF => (aP.step (bQ [.c (.pl 0 0),.c (iC (aA (2 + r7.1)))] (Fw.Fn.ren [(0,0)] (qE r8.2 (aA (2 + r7.1)) r9 EF) Q) pW (ji y2) z1 y3) z3 z1 Q Q (aJ (Iv r9.1) y4 (On (Ws (Wr ?_)))))))))
   refine aF (Cc (.pl 0 0)) y4 (aF (Iv (aA (2 + r7.1))) y4 (aQ fun r10 zU => (aP.step (bQ [.c (.pl 0 0),.c (iC (aA (2 + r7.1)))] (Fw.Fn.ren [(0,0)] (qE r9.2 (aA (2 + r7.1)) r10 zU) Q) pW (ji y2) z1 y3) z3 z1 Q Q (aJ (Iv r10.1) y4 (On (Ws ?_))))))
   refine en [(0,Cc (.pl 0 0)),(2,Cc (.pl 21 0)),(6,Cc (.pl 33 0)),(7,Iv r9.1),(8,Iv r10.1)] [(0,.row 139 [[xT bD r10.2.b,iC r10.2.i,iC r10.2.h]]),(21,.row 29 [[iC 0,sC ah,sC ah]]),(32,pR 96 aI r8.1.aB),(33,.row 26 [[iC r8.1.aG,lo 32 r8.1.aB.length]])] z5 z4 (Wr (bf (cO [iC r8.1.aG,lo 32 r8.1.aB.length] Q lJ iR gu) Q Q Q Q (aF (Iv r9.1) y4 (aF (Iv r10.1) y4 (aQ fun r11 UL => (aP.step (cF [.agg [iC r8.1.aG,lo 32 r8.1.aB.length],.c (iC r9.1),.c (iC r10.1)] [(32,pR 96 aI r8.1.aB)] (Fw.Fn.ren [(0,37)] (aJT r8.1 r9.1 r10.1 r11 UL) Q) aDE (.cons (.agg (.cons (.same Q) (.cons (.iZ Q Q) .nil))) (.cons (.c (.same Q)) (.cons (.c (.same Q)) .nil))) J y3) z4 z1 Q Q (aF (.dO [.agg [iC r11.1.aG,lo 37 r11.1.aB.length],.c (bC r11.2)]) y4 (aS (LT.extract (v := (.agg [iC r11.1.aG,lo 37 r11.1.aB.length])) Q (by exact Q)) Q Q Q (aS (LT.extract (v := (.c (bC r11.2))) Q (by exact Q)) Q Q Q (dU (stA [iC r11.1.aG,lo 37 r11.1.aB.length] Q Q iR gu) Q Q Q Q Q (On (Ws ?_))))))))))))
   refine en [(0,Cc (.pl 0 0)),(2,Cc (.pl 21 0)),(6,Cc (.pl 33 0))] [(0,.row 139 [[xT bD r10.2.b,iC r10.2.i,iC r10.2.h]]),(21,.row 29 [[iC 0,sC ah,sC ah]]),(33,.row 26 [[iC r11.1.aG,lo 37 r11.1.aB.length]]),(37,pR 96 aI r11.1.aB)] z3 z4 (Wr (aF (Cc (.pl 0 0)) y4 (bf (cO [iC r11.1.aG,lo 37 r11.1.aB.length] Q lJ iR gu) Q Q Q Q (aQ fun r12 ED => (aP.step (cF [.c (.pl 0 0),.agg [iC r11.1.aG,lo 37 r11.1.aB.length]] [(37,pR 96 aI r11.1.aB)] (Fw.Fn.ren [(0,0),(1,39),(2,40)] (Wi r10.2 r11.1 r12 ED) Q) Rz (.cons (.c (.same Q)) (.cons (.agg (.cons (.same Q) (.cons (.iZ Q Q) .nil))) .nil)) z1 y3) z3 z2 Q Q (dU (stA [iC r12.1.Graph.aG,lo 39 r12.1.Graph.aB.length,lo 40 r12.1.Places.length] Q Q bn bU) Q Q Q Q Q (On (en [(2,Cc (.pl 21 0))] [(0,.row 139 [[xT bD r12.2.b,iC r12.2.i,iC r12.2.h]]),(21,.row 29 [[iC r12.1.Graph.aG,lo 39 r12.1.Graph.aB.length,lo 40 r12.1.Places.length]]),(39,pR 96 aI r12.1.Graph.aB),(40,pR 82 aK r12.1.Places)] z1 z4 (aC.ent (aO.mv 39 1 Q Q) (aC.ent (aO.mv 40 2 Q Q) (en [(2,Cc (.pl 21 0))] [(0,.row 139 [[xT bD r12.2.b,iC r12.2.i,iC r12.2.h]]),(1,pR 96 aI r12.1.Graph.aB),(2,pR 82 aK r12.1.Places),(21,.row 29 [[iC r12.1.Graph.aG,lo 1 r12.1.Graph.aB.length,lo 2 r12.1.Places.length]])] z1 z4 ?_)))))))))))
   refine aC.ret (aj.mk (.inr Q) ⟨⟨_,_,_,Q,Q,Q,dW,bU,_,dK bn⟩,J⟩ z3 Q ⟨⟨au.sc,J,J,J⟩,J⟩ ⟨dG.qw ⟨kT qo,au.sc,au.sc,J⟩,dG.gm oh,dG.gm vg,J⟩)
  ·refine aC.skip (aC.blk (Ws ?_))
   refine en [(0,Cc (.pl 0 0)),(2,Cc (.pl 21 0))] [(0,.row 139 [[xT bD r1.2.b,iC r1.2.i,iC r1.2.h]]),(21,.row 29 [[iC 0,sC ah,sC ah]])] z2 z2 (Wr (aF (Cc (.pl 0 0)) y4 (aQ fun r13 rQ => (aP.step (bQ [.c (.pl 0 0),.c (iC 5)] (Fw.Fn.ren [(0,0)] (qE r1.2 5 r13 rQ) Q) pW (ji y2) z1 y3) ⟨Q,Q,y2,J⟩ z1 Q Q (aT LT.add nP (aJ (Iv (aA (2 + r13.1))) y4 (On (Ws (Wr ?_)))))))))
   refine aF (Cc (.pl 0 0)) y4 (aF (Iv (aA (2 + r13.1))) y4 (aQ fun qU aFP => (aP.step (bQ [.c (.pl 0 0),.c (iC (aA (2 + r13.1)))] (Fw.Fn.ren [(0,0),(1,43)] (aCF r13.2 (aA (2 + r13.1)) qU aFP) Q) Xy (ji y2) z1 y3) z3 z1 Q Q (dP (LT.alloc (n := 44) (cells := [iC 0,sC ah]) Q qX Q Q Q) Q Q (dU (stA [iC qU.1.aG,lo 43 qU.1.aB.length] Q Q iR gu) Q Q Q Q Q (On (Ws ?_)))))))
   refine en [(0,Cc (.pl 0 0)),(2,Cc (.pl 21 0)),(10,Cc (.pl 44 0))] [(0,.row 139 [[xT bD qU.2.b,iC qU.2.i,iC qU.2.h]]),(21,.row 29 [[iC 0,sC ah,sC ah]]),(43,pR 96 aI qU.1.aB),(44,.row 26 [[iC qU.1.aG,lo 43 qU.1.aB.length]])] z3 z4 (Wr (aF (Cc (.pl 0 0)) y4 (bf (cO [iC qU.1.aG,lo 43 qU.1.aB.length] Q lJ iR gu) Q Q Q Q (aQ fun lg UN => (aP.step (cF [.c (.pl 0 0),.agg [iC qU.1.aG,lo 43 qU.1.aB.length]] [(43,pR 96 aI qU.1.aB)] (Fw.Fn.ren [(0,0),(1,46),(2,47)] (Wi qU.2 qU.1 lg UN) Q) Rz (.cons (.c (.same Q)) (.cons (.agg (.cons (.same Q) (.cons (.iZ Q Q) .nil))) .nil)) z1 y3) z3 z2 Q Q (dU (stA [iC lg.1.Graph.aG,lo 46 lg.1.Graph.aB.length,lo 47 lg.1.Places.length] Q Q bn bU) Q Q Q Q Q (On (en [(2,Cc (.pl 21 0))] [(0,.row 139 [[xT bD lg.2.b,iC lg.2.i,iC lg.2.h]]),(21,.row 29 [[iC lg.1.Graph.aG,lo 46 lg.1.Graph.aB.length,lo 47 lg.1.Places.length]]),(46,pR 96 aI lg.1.Graph.aB),(47,pR 82 aK lg.1.Places)] z1 z4 (aC.ent (aO.mv 46 1 Q Q) (aC.ent (aO.mv 47 2 Q Q) (en [(2,Cc (.pl 21 0))] [(0,.row 139 [[xT bD lg.2.b,iC lg.2.i,iC lg.2.h]]),(1,pR 96 aI lg.1.Graph.aB),(2,pR 82 aK lg.1.Places),(21,.row 29 [[iC lg.1.Graph.aG,lo 1 lg.1.Graph.aB.length,lo 2 lg.1.Places.length]])] z1 z4 ?_)))))))))))
   refine aC.ret (aj.mk (.inr Q) ⟨⟨_,_,_,Q,Q,Q,dW,bU,_,dK bn⟩,J⟩ z3 Q ⟨⟨au.sc,J,J,J⟩,J⟩ ⟨dG.qw ⟨kT qo,au.sc,au.sc,J⟩,dG.gm oh,dG.gm vg,J⟩)
theorem aJl (c : cZ) (list : (List Int)) : FT Try.prog (MZ c list) 152 [.c (.pl 0 0),.c (xF aH list)] [(0,.row 139 [[xT bD c.b,iC c.i,iC c.h]])] (fun (t : (Int × cZ)) => [.c (iC t.1)]) (fun (t : (Int × cZ)) => [(0,.row 139 [[xT bD t.2.b,iC t.2.i,iC t.2.h]])]) [] := by
 refine FT.of [0] Try.func152 Try.ntmps152 Q y2 ?_
 intro w0 U0 R0 g0
 unfold MZ
 refine Ws (Wr ?_)
 refine aJ (Iv 0) aX (On (Ws (Wr ?_)))
 refine aF (Cc (xF aH list)) y4 (aF (Cc (.pl 0 0)) y4 (aF (Cc (xF aH list)) y4 (aS (LT.fA Q bZ) Q Q Q (aQ fun r1 hr1 => (aP.step (bQ [.c (.pl 0 0),.c (iC (list.length : Int))] (Fw.Fn.ren [(0,0)] (qE c (list.length : Int) r1 hr1) Q) pW (ji y2) z1 y3) z3 z1 Q Q (aQ fun x2 hx2 => (dY (LT.dH (enc := aH) Q dR hx2 fM) Q Q Q Q (aS (LT.fO Q ay) Q Q Q (aJ (Iv x2) y4 (On (aC.ret (aj.mk (.inr Q) z1 z1 Q ⟨au.sc,J⟩ ⟨dG.qw ⟨kT qo,au.sc,au.sc,J⟩,J⟩))))))))))))
theorem Wh (c : cZ) : FT Try.prog (Eb c) 79 [.c (.pl 0 0)] [(0,.row 139 [[xT bD c.b,iC c.i,iC c.h]])] (fun (t : (aZ × cZ)) => [.agg [iC t.1.Graph.aG,lo 1 t.1.Graph.aB.length,xT aK t.1.Places]]) (fun (t : (aZ × cZ)) => [(0,.row 139 [[xT bD t.2.b,iC t.2.i,iC t.2.h]]),(1,pR 96 aI t.1.Graph.aB)]) [1] := by
 refine FT.AB [0] Try.func79 Try.ntmps79 Q y2 ?_
 intro w0 U0 R0 g0 hU
 unfold Eb
 refine Ws (Wr ?_)
 refine dP (LT.alloc (n := 21) (cells := [iC 0,sC ah,sC ah]) Q pI Q Q Q) Q Q (On (Ws (Wr ?_)))
 refine aF (Cc (.pl 0 0)) y4 (aQ fun r1 hr1 => (aP.step (bQ [.c (.pl 0 0)] (Fw.Fn.ren [(0,0),(1,23),(2,24)] (aJh c r1 hr1) Q) aC4 (lu Q) z1 y3) z2 z1 Q Q (dP (LT.alloc (n := 25) (cells := [iC 0,sC ah,sC ah]) Q pI Q Q Q) Q Q (dU (stA [iC r1.1.Graph.aG,lo 23 r1.1.Graph.aB.length,lo 24 r1.1.Places.length] Q Q bn bU) Q Q Q Q Q (On (Ws (Ws ?_)))))))
 refine en [(0,Cc (.pl 0 0)),(2,Cc (.pl 21 0)),(3,Cc (.pl 25 0))] [(0,.row 139 [[xT bD r1.2.b,iC r1.2.i,iC r1.2.h]]),(21,.row 29 [[iC 0,sC ah,sC ah]]),(23,pR 96 aI r1.1.Graph.aB),(24,pR 82 aK r1.1.Places),(25,.row 29 [[iC r1.1.Graph.aG,lo 23 r1.1.Graph.aB.length,lo 24 r1.1.Places.length]])] z3 z5 (Wr (aF (Cc (.pl 0 0)) y4 (aQ fun r2 hr2 => (aP.step (bQ [.c (.pl 0 0),.c (iC 14)] (Fw.Fn.ren [(0,0)] (qE r1.2 14 r2 hr2) Q) pW (ji y2) z1 y3) ⟨Q,Q,y2,J⟩ z1 Q Q (On (aC.block (Ws (Wr ?_))))))))
 refine aT LT.eql aU (aJ (Bv (r2.1 == 0)) y4 (On (aC.fC (fun j8 => ([(2,Cc (.pl 21 0)),(3,Cc (.pl 25 0))],[(0,.row 139 [[xT bD j8.1,iC j8.2.1,iC j8.2.2.1]]),(21,.row 29 [[iC 0,sC ah,sC ah]]),(23,pR 96 aI r1.1.Graph.aB),(25,.row 29 [[iC r1.1.Graph.aG,lo 23 r1.1.Graph.aB.length,xT aK j8.2.2.2]])])) ?_ (fun j8 _ => ?_))))
 ·refine aC.cond Q (fun wz => ?_) (fun wz => ?_)
  ·refine aC.draw mixed (eG (lo 24 r1.1.Places.length) iy jC bP (ak (Cc (.pl 0 0)) y4 (aCb (LT.fZ (n := 27) (enc := aH) [(0,.const (.int .i64 (-1)),.c (iC (-1))),(1,.const (.int .i64 5),.c (iC 5)),(2,.const (.int .i64 9),.c (iC 9))] ([-1,5,9] : List Int) Q Q bZ eu Q Q Q Q (by decide) (fun _ => Q) Q) y2 y2 y2 Q Q (aN.bind fun r10 zU => (aN.step (cF [.c (.pl 0 0),.c (lo 27 (([-1,5,9] : List Int).length))] [(27,pR 3 aH ([-1,5,9] : List Int))] (Fw.Fn.ren [(0,0)] (aJl r2.2 ([-1,5,9] : List Int) r10 zU) Q) aC3 (.cons (.c (.same Q)) (.cons (.c (.iZ Q Q)) .nil)) z1 y3) z3 z2 Q Q (aN.bind fun x11 KZ => (je (LT.iG Q Q kG KZ) Q y2 Q Q Q (bJ (LT.gV Q rJ) Q Q Q (lW (LT.nN (k := 0) (v := (.c (iC r10.1))) (b' := (kF.mk r10.1 x11.Y)) Q Q (dK nI) fM (by exact Q) KZ (by exact Q) (by exact K Q) (by exact Q)) Q Q Q Q Q (aN.nil (by kernel_rfl) ?_))))))))))
   refine aC.ent (aO.Ou (enc := aK) (xs := (r1.1.Places.set (Int.toNat 0) (kF.mk r10.1 x11.Y))) (σ' := [(0,Cc (.pl 0 0)),(2,Cc (.pl 21 0)),(3,Cc (.pl 25 0)),(6,Cc (.pl 0 0)),(7,Iv r2.1),(8,Bv (r2.1 == 0)),(9,Bv (r2.1 == 0)),(10,Cc (.pl 25 2)),(11,Cc (xT aK (r1.1.Places.set (Int.toNat 0) (kF.mk r10.1 x11.Y)))),(12,Cc (.pl 0 0)),(13,Cc (lo 27 (([-1,5,9] : List Int).length))),(14,Iv r10.1)]) (m' := [(0,.row 139 [[xT bD r10.2.b,iC r10.2.i,iC r10.2.h]]),(21,.row 29 [[iC 0,sC ah,sC ah]]),(23,pR 96 aI r1.1.Graph.aB),(25,.row 29 [[iC r1.1.Graph.aG,lo 23 r1.1.Graph.aB.length,xT aK (r1.1.Places.set (Int.toNat 0) (kF.mk r10.1 x11.Y))]]),(27,pR 3 aH ([-1,5,9] : List Int))]) 24 hU Q Q ⟨⟨_,Q,.same Q⟩,⟨_,Q,.same Q⟩,⟨_,Q,.same Q⟩,⟨_,Q,.same Q⟩,⟨_,Q,.same Q⟩,⟨_,Q,.same Q⟩,⟨_,Q,.same Q⟩,⟨_,Q,.same Q⟩,⟨_,Q,.c (.fr (by simp only [List.length_map,List.length_set]))⟩,⟨_,Q,.same Q⟩,⟨_,Q,.same Q⟩,⟨_,Q,.same Q⟩,J⟩ ⟨⟨Q,_,Q,.same Q⟩,⟨Q,_,Q,.same Q⟩,⟨Q,_,Q,.same Q⟩,⟨Q,_,Q,.row (.cons (.same Q) (.cons (.same Q) (.cons (.fr (by simp only [List.length_map,List.length_set])) .nil)))⟩,⟨Q,_,Q,.same Q⟩,J⟩) (aW Q z2 z4)
  ·refine Ws (Wr ?_)
   refine aT LT.eql aU (aJ (Bv (r2.1 == 1)) y4 (On (aC.cond Q (fun hc12 => ?_) (fun hc12 => ?_))))
   ·refine Wr (fV (lo 24 r1.1.Places.length) iy jC bP (aP.ent (aO.Ou (enc := aK) (xs := r1.1.Places) (σ' := [(0,Cc (.pl 0 0)),(2,Cc (.pl 21 0)),(3,Cc (.pl 25 0)),(6,Cc (.pl 0 0)),(7,Iv r2.1),(8,Bv (r2.1 == 0)),(9,Bv (r2.1 == 0)),(17,Bv (r2.1 == 1)),(18,Bv (r2.1 == 1)),(19,Cc (.pl 25 2)),(20,Cc (xT aK r1.1.Places))]) (m' := [(0,.row 139 [[xT bD r2.2.b,iC r2.2.i,iC r2.2.h]]),(21,.row 29 [[iC 0,sC ah,sC ah]]),(23,pR 96 aI r1.1.Graph.aB),(25,.row 29 [[iC r1.1.Graph.aG,lo 23 r1.1.Graph.aB.length,xT aK r1.1.Places]])]) 24 hU Q Q ⟨⟨_,Q,.same Q⟩,⟨_,Q,.same Q⟩,⟨_,Q,.same Q⟩,⟨_,Q,.same Q⟩,⟨_,Q,.same Q⟩,⟨_,Q,.same Q⟩,⟨_,Q,.same Q⟩,⟨_,Q,.same Q⟩,⟨_,Q,.same Q⟩,⟨_,Q,.same Q⟩,⟨_,Q,.c (.fr (by rw [List.length_map]))⟩,J⟩ ⟨⟨Q,_,Q,.same Q⟩,⟨Q,_,Q,.same Q⟩,⟨Q,_,Q,.same Q⟩,⟨Q,_,Q,.row (.cons (.same Q) (.cons (.same Q) (.cons (.fr (by rw [List.length_map])) .nil)))⟩,J⟩) (aQ fun v13 Ui => (dY (LT.Qy (enc := aK) (uV := (some (.const (.int .i64 1),1))) (uT := none) (l := (Int.toNat 1)) (h := r1.1.Places.length) Q Q Q sZ nT (fun _ => by rw [iH]; rfl) (.inl ⟨_,_,Q,(CW Ui).1,Q⟩) (.inr y2) (Qq Ui) (Qp Ui)) Q y2 Q Q (aS (LT.gV Q iy) Q Q Q (dU (AQ (.c (xT aK ((r1.1.Places.take r1.1.Places.length).drop (Int.toNat 1)))) [iC r1.1.Graph.aG,lo 23 r1.1.Graph.aB.length,xT aK ((r1.1.Places.take r1.1.Places.length).drop (Int.toNat 1))] Q Q Zb aBU) Q Q Q Q Q (On (aW Q z2 z4))))))))
   ·refine aC.skip (aC.ent (aO.Ou (enc := aK) (xs := r1.1.Places) (σ' := [(0,Cc (.pl 0 0)),(2,Cc (.pl 21 0)),(3,Cc (.pl 25 0)),(6,Cc (.pl 0 0)),(7,Iv r2.1),(8,Bv (r2.1 == 0)),(9,Bv (r2.1 == 0)),(17,Bv (r2.1 == 1)),(18,Bv (r2.1 == 1))]) (m' := [(0,.row 139 [[xT bD r2.2.b,iC r2.2.i,iC r2.2.h]]),(21,.row 29 [[iC 0,sC ah,sC ah]]),(23,pR 96 aI r1.1.Graph.aB),(25,.row 29 [[iC r1.1.Graph.aG,lo 23 r1.1.Graph.aB.length,xT aK r1.1.Places]])]) 24 hU Q Q ⟨⟨_,Q,.same Q⟩,⟨_,Q,.same Q⟩,⟨_,Q,.same Q⟩,⟨_,Q,.same Q⟩,⟨_,Q,.same Q⟩,⟨_,Q,.same Q⟩,⟨_,Q,.same Q⟩,⟨_,Q,.same Q⟩,⟨_,Q,.same Q⟩,J⟩ ⟨⟨Q,_,Q,.same Q⟩,⟨Q,_,Q,.same Q⟩,⟨Q,_,Q,.same Q⟩,⟨Q,_,Q,.row (.cons (.same Q) (.cons (.same Q) (.cons (.fr (by rw [List.length_map])) .nil)))⟩,J⟩) (aW Q z2 z4))
 ·refine aC.blk (Ws (Wr ?_))
  refine bf (cO [iC r1.1.Graph.aG,lo 23 r1.1.Graph.aB.length,xT aK j8.2.2.2] Q dW bn bU) Q Q Q Q (dU (stA [iC r1.1.Graph.aG,lo 23 r1.1.Graph.aB.length,xT aK j8.2.2.2] Q Q bn bU) Q Q Q Q Q (On (en [(2,Cc (.pl 21 0))] [(0,.row 139 [[xT bD j8.1,iC j8.2.1,iC j8.2.2.1]]),(21,.row 29 [[iC r1.1.Graph.aG,lo 23 r1.1.Graph.aB.length,xT aK j8.2.2.2]]),(23,pR 96 aI r1.1.Graph.aB)] z1 z3 (aC.ent (aO.mv 23 1 Q Q) (en [(2,Cc (.pl 21 0))] [(0,.row 139 [[xT bD j8.1,iC j8.2.1,iC j8.2.2.1]]),(1,pR 96 aI r1.1.Graph.aB),(21,.row 29 [[iC r1.1.Graph.aG,lo 1 r1.1.Graph.aB.length,xT aK j8.2.2.2]])] z1 z3 (aC.ret (aj.mk (.inr Q) ⟨⟨_,_,_,Q,Q,Q,dW,bU,_,dK bn⟩,J⟩ z2 Q ⟨⟨au.sc,J,kT vg,J⟩,J⟩ ⟨dG.qw ⟨kT qo,au.sc,au.sc,J⟩,dG.gm oh,J⟩)))))))
theorem aJY (code : (List Int)) : FT Try.prog (MF code) 8 [.c (xT bD code)] [] (fun (t : aZ) => [.agg [iC t.Graph.aG,lo 0 t.Graph.aB.length,xT aK t.Places]]) (fun (t : aZ) => [(0,pR 96 aI t.Graph.aB)]) [0] := by
 refine FT.of [] Try.func8 Try.ntmps8 Q y2 ?_
 intro w0 U0 R0 g0
 unfold MF
 refine Ws (Wr ?_)
 refine dP (LT.alloc (n := 21) (cells := [iC 0,sC ah,sC ah]) Q pI Q Q Q) Q Q (On (Ws (Wr ?_)))
 refine aF (Cc (xT bD code)) y4 (aQ fun r1 hr1 => (aP.step (bQ [.c (xT bD code)] (Fw.Fn.ren [(0,23)] (Wl code r1 hr1) Q) SI (lu Q) J y3) z2 J Q Q (aQ fun r2 hr2 => (aP.step (bQ [.c (.pl 23 0)] (Fw.Fn.ren [(0,23),(1,25)] (Wh r1 r2 hr2) Q) SH (lu Q) z1 y3) z2 z1 Q Q (dU (stA [iC r2.1.Graph.aG,lo 25 r2.1.Graph.aB.length,xT aK r2.1.Places] Q Q bn bU) Q Q Q Q Q (On (en [(2,Cc (.pl 21 0))] [(21,.row 29 [[iC r2.1.Graph.aG,lo 25 r2.1.Graph.aB.length,xT aK r2.1.Places]]),(25,pR 96 aI r2.1.Graph.aB)] z1 z2 (aC.ent (aO.mv 25 0 Q Q) (en [(2,Cc (.pl 21 0))] [(0,pR 96 aI r2.1.Graph.aB),(21,.row 29 [[iC r2.1.Graph.aG,lo 0 r2.1.Graph.aB.length,xT aK r2.1.Places]])] z1 z2 (aC.ret (aj.mk (.inr Q) ⟨⟨_,_,_,Q,Q,Q,dW,bU,_,dK bn⟩,J⟩ z1 Q ⟨⟨au.sc,J,kT vg,J⟩,J⟩ ⟨dG.gm oh,J⟩)))))))))))
theorem aJO (p : kF) : FT Try.prog (Lu p) 129 [.agg [iC p.X,iC p.Y]] [] (fun (t : Bool) => [.c (bC t)]) (fun (t : Bool) => []) [] := by
 refine FT.of [] Try.func129 Try.ntmps129 Q y2 ?_
 intro w0 U0 R0 g0
 unfold Lu
 refine Ws (Wr ?_)
 refine fK (LT.box (n := 21) (v := (.agg [iC p.X,iC p.Y])) Q iH (by exact Q)) Q Q Q (aJ (Bv false) aX (On (Ws ?_)))
 refine aC.fC (fun j4 => ([(2,Bv j4)],[])) ?_ (fun j4 _ => ?_)
 ·refine Wr (fV (iC p.X) rJ ay bP (aQ fun r5 vV => (aP.pure (bQ [.c (iC p.X),.c (iC 0),.c (iC 4)] (Ns p.X 0 4 r5 vV) Jv (vH y3) J y3) ⟨Q,Q,y2,y2,J⟩ J Q Q (aF (Bv r5) y4 (aP.split (fun hb6 => ?_) (fun hb6 => ?_))))))
  ·refine kR (iC p.Y) sN ay hb6 iq (aQ fun r7 tY => (aP.pure (bQ [.c (iC p.Y),.c (iC 0),.c (iC 4)] (Ns p.Y 0 4 r7 tY) Jv (vH y3) J y3) ⟨Q,Q,y2,y2,J⟩ J (gH hb6 Q Q) Q (dh (Bv r7) hb6 y5 (aJ (Bv r7) y4 (On (aW Q z1 J))))))
  ·refine aV hb6 y5 (aV hb6 y5 (aV hb6 y5 (gY (Bv false) hb6 aU (aJ (Bv false) y4 (On (aW Q z1 J))))))
 ·refine aC.ret (aj.mk (.inr Q) z1 J Q ⟨au.sc,J⟩ J)
end Go.Proofs.Ytdmlaldifbmkpaa
end
section
set_option linter.unusedVariables false
set_option linter.unusedSimpArgs false
set_option linter.unnecessarySimpa false
set_option maxRecDepth 100000
set_option maxHeartbeats 8000000
open Go Go.Fw
namespace Go.Proofs.Ytdmlaldifbmkpaa
theorem aJH (g : dZ) : FT Try.prog (G6 g) 128 [.agg [iC g.aG,xF aI g.aB]] [] (fun (t : Bool) => [.c (bC t)]) (fun (t : Bool) => []) [] := by
 refine FT.of [] Try.func128 Try.ntmps128 Q y2 ?_
 intro w0 U0 R0 g0
 unfold G6
 refine Ws (Wr ?_)
 refine fK (LT.box (n := 21) (v := (.agg [iC g.aG,xF aI g.aB])) Q gu (by exact Q)) Q Q Q (aJ (Bv false) aX (On (Ws (Ws ?_))))
 refine aC.fC (fun j3 => ([(1,Cc (.pl 21 0)),(14,Bv j3)],[(21,.row 26 [[iC g.aG,xF aI g.aB]])])) ?_ (fun j3 _ => ?_)
 ·refine Wr (fV (iC g.aG) mQ ay bP (aQ fun r4 hr4 => (aP.pure (bQ [.c (iC g.aG),.c (iC 1),.c (iC 8)] (Ns g.aG 1 8 r4 hr4) Jv (vH y3) J y3) ⟨Q,Q,y2,y2,J⟩ J Q Q (aS (LT.not Q) Q Q Q (aF (Bv (!r4)) y4 (aP.split (fun hb5 => ?_) (fun hb5 => ?_)))))))
  ·refine aV hb5 y5 (aV hb5 y5 (aV hb5 y5 (aV hb5 y5 (dh (Bv true) hb5 aU (On (aW Q z2 z1))))))
  ·refine kR (xF aI g.aB) iJ iU hb5 iq (aS (LT.fA Q ig) Q (gH hb5 Q Q) Q (iT LT.gtr hb5 kE (gY (Bv (decide (24 < (g.aB.length : Int)))) hb5 y5 (On (aW Q z2 z1)))))
 ·refine aC.cond Q (fun hc6 => ?_) (fun hc6 => ?_)
  ·refine Ws (Wr ?_)
   refine aJ (Bv false) aX (On (aC.ret (aj.mk (.inr Q) z1 J Q ⟨au.sc,J⟩ J)))
  ·refine aC.skip (Ws (Ws (Wr ?_)))
   refine fV (xF aI g.aB) iJ iU bP (aS (LT.fA Q ig) Q Q Q (aF (Iv 0) aX (On (aC.block ?_))))
   refine aC.nV (id := 0) (BP g) (fun s7 => ([(1,Cc (.pl 21 0)),(16,Cc (xF aI g.aB)),(17,Iv (g.aB.length : Int)),(18,Iv s7)],[(21,.row 26 [[iC g.aG,xF aI g.aB]])])) (fun qh => ([],[])) (aj Try.prog Try.f128.results.toList [] [] (fun (t : Bool) => [.c (bC t)]) (fun (t : Bool) => [])) ?_ (aO.of z4 z1) Q (fun qh _ => ?_) (by intro r t σ m ht hk; injection ht with ht; subst ht; exact hk)
   ·intro s7
    unfold BP
    refine Ws (Wr ?_)
    refine aT LT.lss y5 (On (Ws ?_))
    refine aC.cond Q (fun zO => ?_) (fun zO => ?_)
    ·refine aC.skip (Ws (aC.block (Ws (Wr ?_))))
     refine aF (Iv s7) y4 (aQ fun gZ Ky => (dY (LT.dH (enc := aI) Q rH Ky fQ) Q Q Q Q (aS (LT.lF Q kZ (dK jO) (by exact fQ.symm)) Q Q Q (dP (LT.alloc (n := 23) (cells := [iC 0,iC 0]) Q jo Q Q Q) Q Q (aJ (Iv s7) y4 (dU (stA [iC gZ.A,iC gZ.B] Q Q jO fQ) Q Q Q Q Q (On (Ws ?_))))))))
     refine aC.fC (fun j49 => ([(1,Cc (.pl 21 0)),(16,Cc (xF aI g.aB)),(17,Iv (g.aB.length : Int)),(18,Iv s7),(54,Bv j49)],[(21,.row 26 [[iC g.aG,xF aI g.aB]])])) ?_ (fun j49 _ => ?_)
     ·refine en [(1,Cc (.pl 21 0)),(3,Iv s7),(4,Cc (.pl 23 0)),(16,Cc (xF aI g.aB)),(17,Iv (g.aB.length : Int)),(18,Iv s7)] [(21,.row 26 [[iC g.aG,xF aI g.aB]]),(23,.row 96 [[iC gZ.A,iC gZ.B]])] z6 z2 (aC.draw mixed (eG (iC gZ.A) lS ay bP (iE LT.lss aU (ak (Bv (decide (gZ.A < 0))) y4 (aN.split (fun oJ => ?_) (fun oJ => ?_))))))
      ·refine bT oJ y3 (bT oJ y3 (bT oJ y3 (bT oJ y3 (bT oJ y3 (kL (Bv true) oJ aU (ak (Bv true) y4 (bK y3 (bK y3 (bK y3 (bK y3 (bK y3 ?_)))))))))))
       refine kL (Bv true) Q aU (ak (Bv true) y4 (bK y3 (bK y3 (bK y3 (bK y3 (bK y3 (bK y3 (bK y3 (bK y3 (bK y3 (bK y3 ?_)))))))))))
       refine bK y3 (bK y3 (bK y3 (kL (Bv true) Q aU (aN.nil (by kernel_rfl) (aW Q z5 z1)))))
      ·refine qi (iC gZ.A) lS ay oJ iq (qi (iC gZ.B) mV ay oJ iq (qg LT.geq oJ y6 (mg (Bv (decide (gZ.B ≤ gZ.A))) oJ y5 (ak (Bv (decide (gZ.B ≤ gZ.A))) y4 (aN.split (fun oK => ?_) (fun oK => ?_))))))
       ·refine bT oK y3 (bT oK y3 (bT oK y3 (bT oK y3 (bT oK y3 (kL (Bv true) oK aU (ak (Bv true) y4 (bK y3 (bK y3 (bK y3 (bK y3 (bK y3 ?_)))))))))))
        refine bK y3 (bK y3 (bK y3 (bK y3 (bK y3 (bK y3 (bK y3 (bK y3 (kL (Bv true) Q aU (aN.nil (by kernel_rfl) (aW Q z5 z1))))))))))
       ·refine qi (iC gZ.B) mV ay oK iq (qi (iC g.aG) mQ ay oK iq (qg LT.geq oK y6 (mg (Bv (decide (g.aG ≤ gZ.B))) oK y5 (ak (Bv (decide (g.aG ≤ gZ.B))) y4 (aN.split (fun mD => ?_) (fun mD => ?_))))))
        ·refine bT mD y3 (bT mD y3 (bT mD y3 (bK y3 (bK y3 (bK y3 (bK y3 (bK y3 (bK y3 (bK y3 (bK y3 (bK y3 ?_)))))))))))
         refine bT mD y3 (kL (Bv true) mD aU (aN.nil (by kernel_rfl) (aW Q z5 z1)))
        ·refine lG (Iv s7) mD y5 (qg LT.gtr mD kE (lG (Bv (decide (0 < s7))) mD y5 (aN.split (fun jT => ?_) (fun jT => ?_))))
         ·refine qi (xF aI g.aB) iJ iU jT iq (lG (Iv s7) jT y5 (qg LT.sub jT kE (aN.bind fun x54 vX => (dJ (LT.dH (enc := aI) Q rH vX fQ) Q Q (gH jT Q Q) Q (bJ (LT.lF Q kZ (dK jO) (by exact fQ.symm)) Q (gH jT Q Q) Q (gQ (cO [iC gZ.A,iC gZ.B] Q kZ jO fQ) Q Q (gH jT Q Q) Q (aN.bind fun sU KQ => (aN.pure (bQ [.agg [iC x54.A,iC x54.B],.agg [iC gZ.A,iC gZ.B]] (aJM x54 gZ sU KQ) aDA (Qn y4) J y3) z3 J (gH jT Q Q) Q (qg LT.gtr jT kE (dJ (LT.xJ (v := (Bv (decide (0 < sU)))) Q jT) Q Q (gH mD Q Q) Q ?_))))))))))
          refine mg (Bv (decide (0 < sU))) mD y5 (aN.nil (by kernel_rfl) (aW Q z5 z1))
         ·refine bT jT y3 (bT jT y3 (bT jT y3 (bT jT y3 (bT jT y3 (bT jT y3 (bT jT y3 (bT jT y3 (bT jT y3 (dJ (LT.wJ (v := (Bv false)) Q jT) Q y2 (gH mD Q Q) Q (mg (Bv false) mD y5 (aN.nil (by kernel_rfl) ?_)))))))))))
          refine aW Q z5 z1
     ·refine aC.cond Q (fun Tq => ?_) (fun Tq => ?_)
      ·refine Ws (Wr ?_)
       refine aJ (Bv false) aX (On (aC.ret ⟨Q,aj.mk (.inr Q) z1 J Q ⟨au.sc,J⟩ J⟩))
      ·refine aC.skip (aC.blk (Wr ?_))
       refine aT LT.add aU (aF (Iv (aA (s7 + 1))) y4 (On (aW Q z4 z1)))
    ·refine aC.eF Q ⟨Q,aO.of J J⟩
   ·refine Ws (Wr ?_)
    refine aJ (Bv true) aX (On (aC.ret (aj.mk (.inr Q) z1 J Q ⟨au.sc,J⟩ J)))
theorem WW (l : (List Int)) : FT Try.prog (BQ l) 91 [.c (xF aH l)] [] (fun (t : (List Int)) => [.c (lo 0 t.length)]) (fun (t : (List Int)) => [(0,pR 3 aH t)]) [0] := by
 refine FT.of [] Try.func91 Try.ntmps91 Q y2 ?_
 intro w0 U0 R0 g0
 unfold BQ
 refine Ws (Wr ?_)
 refine aJ (Cc (sC ah)) aX (On (Ws (Wr ?_)))
 refine dP (LT.fZ (n := 21) (enc := aH) [] ([] : List Int) Q Q bZ eu Q Q Q Q (by decide) (fun _ => Q) Q) Q Q (aF (Cc (xF aH l)) y4 (aQ fun u1 hu1 => (dU (LT.Ja (enc := aH) Q  Q bZ eu Q (by decide) (by decide) (fun _ => Q) (jU hu1)) Q Q Q Q Q (aJ (Cc (lo 21 ((([] : List Int) ++ l).length))) y4 (On (en [(2,Cc (lo 21 ((([] : List Int) ++ l).length)))] [(21,pR 3 aH (([] : List Int) ++ l))] z1 z1 (aC.ent (aO.mv 21 0 Q Q) (en [(2,Cc (lo 0 ((([] : List Int) ++ l).length)))] [(0,pR 3 aH (([] : List Int) ++ l))] z1 z1 (aC.ret (aj.mk (.inr Q) z1 z1 Q ⟨J,J⟩ ⟨dG.gm jb,J⟩))))))))))
theorem aJC (x : aY) (v : Int) : FT Try.prog (La x v) 98 [.agg [iC x.A,iC x.B],.c (iC v)] [] (fun (t : Int) => [.c (iC t)]) (fun (t : Int) => []) [] := by
 refine FT.of [] Try.func98 Try.ntmps98 Q y2 ?_
 intro w0 U0 R0 g0
 unfold La
 refine Ws (Wr ?_)
 refine fK (LT.box (n := 21) (v := (.agg [iC x.A,iC x.B])) Q fQ (by exact Q)) Q Q Q (aJ (Iv 0) aX (On (Ws (Ws (Wr ?_)))))
 refine fV (iC x.A) lS ay bP (aF (Iv v) y4 (aT LT.eql y5 (On (aC.cond Q (fun hc1 => ?_) (fun hc1 => ?_)))))
 ·refine Ws (Wr ?_)
  refine fV (iC x.B) mV ay bP (aJ (Iv x.B) y4 (On (aC.ret (aj.mk (.inr Q) z1 J Q ⟨au.sc,J⟩ J))))
 ·refine aC.skip (Ws (Wr ?_))
  refine fV (iC x.A) lS ay bP (aJ (Iv x.A) y4 (On (aC.ret (aj.mk (.inr Q) z1 J Q ⟨au.sc,J⟩ J))))
theorem aJo (b : aY) (v : Int) : FT Try.prog (P9 b v) 101 [.agg [iC b.A,iC b.B],.c (iC v)] [] (fun (t : Int) => [.c (iC t)]) (fun (t : Int) => []) [] := by
 refine FT.of [] Try.func101 Try.ntmps101 Q y2 ?_
 intro w0 U0 R0 g0
 unfold P9
 refine Ws (Wr ?_)
 refine fK (LT.box (n := 21) (v := (.agg [iC b.A,iC b.B])) Q fQ (by exact Q)) Q Q Q (aJ (Iv 0) aX (On (Ws (Wr ?_))))
 refine fV (iC b.A) lS ay bP (fV (iC b.B) mV ay bP (aT LT.add y5 (aF (Iv v) y4 (aT LT.sub y5 (aJ (Iv (aA ((aA (b.A + b.B)) - v))) y4 (On (aC.ret (aj.mk (.inr Q) z1 J Q ⟨au.sc,J⟩ J))))))))
end Go.Proofs.Ytdmlaldifbmkpaa
end
section
set_option linter.unusedVariables false
set_option linter.unusedSimpArgs false
set_option linter.unnecessarySimpa false
set_option maxRecDepth 100000
set_option maxHeartbeats 8000000
open Go Go.Fw
namespace Go.Proofs.Ytdmlaldifbmkpaa
theorem FU (f : aZ) : FT Try.prog (xE f) 54 [.agg [iC f.Graph.aG,xF aI f.Graph.aB,xF aK f.Places]] [] (fun (t : Bool) => [.c (bC t)]) (fun (t : Bool) => []) [] := by
 refine FT.of [] Try.func54 Try.ntmps54 Q y2 ?_
 intro w0 U0 R0 g0
 unfold xE
 refine Ws (Wr ?_)
 refine fK (LT.box (n := 21) (v := (.agg [iC f.Graph.aG,xF aI f.Graph.aB,xF aK f.Places])) Q bU (by exact Q)) Q Q Q (aJ (Bv false) aX (On (Ws (Wr ?_))))
 refine aS (LT.gV Q jm) Q Q Q (bf (cO [iC f.Graph.aG,xF aI f.Graph.aB] Q lJ iR gu) Q Q Q Q (dP (LT.alloc (n := 22) (cells := [iC 0,sC ah]) Q qX Q Q Q) Q Q (dU (stA [iC f.Graph.aG,xF aI f.Graph.aB] Q Q iR gu) Q Q Q Q Q (On (Ws (Ws ?_))))))
 refine aC.fC (fun j5 => ([(1,Cc (.pl 21 0)),(3,Cc (.pl 22 0)),(31,Bv j5)],[(21,.row 29 [[iC f.Graph.aG,xF aI f.Graph.aB,xF aK f.Places]]),(22,.row 26 [[iC f.Graph.aG,xF aI f.Graph.aB]])])) ?_ (fun j5 _ => ?_)
 ·refine en [(1,Cc (.pl 21 0)),(3,Cc (.pl 22 0))] [(21,.row 29 [[iC f.Graph.aG,xF aI f.Graph.aB,xF aK f.Places]]),(22,.row 26 [[iC f.Graph.aG,xF aI f.Graph.aB]])] z2 z2 (Wr (bf (cO [iC f.Graph.aG,xF aI f.Graph.aB] Q lJ iR gu) Q Q Q Q (aQ fun r6 KR => (aP.pure (bQ [.agg [iC f.Graph.aG,xF aI f.Graph.aB]] (aJH f.Graph r6 KR) aCz (FI y2) J y3) z2 J Q Q (aS (LT.not Q) Q Q Q (aF (Bv (!r6)) y4 (aP.split (fun hb7 => ?_) (fun hb7 => ?_))))))))
  ·refine aV hb7 y5 (aV hb7 y5 (aV hb7 y5 (dh (Bv true) hb7 aU (aF (Bv true) y4 (dD y5 (dD y5 (dD y5 (dD y5 (dh (Bv true) Q aU (aF (Bv true) y4 (dD y5 ?_)))))))))))
   refine dD y5 (dD y5 (dD y5 (dD y5 (dD y5 (dh (Bv true) Q aU (On (aW Q z3 z2)))))))
  ·refine kR (iC f.Graph.aG) mQ ay hb7 iq (iT LT.gtr hb7 kE (gY (Bv (decide (6 < f.Graph.aG))) hb7 y5 (aF (Bv (decide (6 < f.Graph.aG))) y4 (aP.split (fun hb8 => ?_) (fun hb8 => ?_)))))
   ·refine aV hb8 y5 (aV hb8 y5 (aV hb8 y5 (aV hb8 y5 (dh (Bv true) hb8 aU (aF (Bv true) y4 (dD y5 (dD y5 (dD y5 (dD y5 (dD y5 (dD y5 ?_)))))))))))
    refine dh (Bv true) Q aU (On (aW Q z3 z2))
   ·refine kR (xF aI f.Graph.aB) iJ iU hb8 iq (aS (LT.fA Q ig) Q (gH hb8 Q Q) Q (iT LT.gtr hb8 kE (gY (Bv (decide (15 < (f.Graph.aB.length : Int)))) hb8 y5 (aF (Bv (decide (15 < (f.Graph.aB.length : Int)))) y4 (aP.split (fun mW => ?_) (fun mW => ?_))))))
    ·refine aV mW y5 (aV mW y5 (aV mW y5 (aV mW y5 (aV mW y5 (aV mW y5 (dh (Bv true) mW aU (On (aW Q z3 z2))))))))
    ·refine kR (xF aK f.Places) iy jC mW iq (aS (LT.fA Q sZ) Q (gH mW Q Q) Q (kR (iC f.Graph.aG) mQ ay mW iq (iT LT.neq mW y6 (gY (Bv ((f.Places.length : Int) != f.Graph.aG)) mW y5 (On (aW Q z3 z2))))))
 ·refine aC.cond Q (fun TY => ?_) (fun TY => ?_)
  ·refine Ws (Wr ?_)
   refine aJ (Bv false) aX (On (aC.ret (aj.mk (.inr Q) z1 J Q ⟨au.sc,J⟩ J)))
  ·refine aC.skip (Ws (Ws (Wr ?_)))
   refine fV (xF aK f.Places) iy jC bP (aS (LT.fA Q sZ) Q Q Q (aF (Iv 0) aX (On (aC.block ?_))))
   refine aC.nV (id := 0) (Gz f) (fun s11 => ([(1,Cc (.pl 21 0)),(3,Cc (.pl 22 0)),(33,Cc (xF aK f.Places)),(34,Iv (f.Places.length : Int)),(35,Iv s11)],[(21,.row 29 [[iC f.Graph.aG,xF aI f.Graph.aB,xF aK f.Places]]),(22,.row 26 [[iC f.Graph.aG,xF aI f.Graph.aB]])])) (fun b20 => ([(1,Cc (.pl 21 0)),(3,Cc (.pl 22 0))],[(21,.row 29 [[iC f.Graph.aG,xF aI f.Graph.aB,xF aK f.Places]]),(22,.row 26 [[iC f.Graph.aG,xF aI f.Graph.aB]])])) (aj Try.prog Try.f54.results.toList [] [] (fun (t : Bool) => [.c (bC t)]) (fun (t : Bool) => [])) ?_ (aO.of z5 z2) Q (fun b20 _ => ?_) (by intro r t σ m ht hk; injection ht with ht; subst ht; exact hk)
   ·intro s11
    unfold Gz
    refine Ws (Wr ?_)
    refine aT LT.lss y5 (On (Ws ?_))
    refine aC.cond Q (fun hc21 => ?_) (fun hc21 => ?_)
    ·refine aC.skip (Ws (aC.block (Ws (Wr ?_))))
     refine aQ fun vM Um => (dY (LT.dH (enc := aK) Q kG Um iH) Q Q Q Q (aS (LT.lF Q rF (dK nT) (by exact iH.symm)) Q Q Q (dP (LT.alloc (n := 24) (cells := [iC 0,iC 0]) Q AY Q Q Q) Q Q (dU (stA [iC vM.X,iC vM.Y] Q Q nT iH) Q Q Q Q Q (On (Ws (Wr ?_)))))))
     refine bf (cO [iC vM.X,iC vM.Y] Q rF nT iH) Q Q Q Q (aQ fun AO UX => (aP.pure (bQ [.agg [iC vM.X,iC vM.Y]] (aJO vM AO UX) aC0 (FI y2) J y3) z2 J Q Q (aS (LT.not Q) Q Q Q (On (aC.cond Q (fun hc24 => ?_) (fun hc24 => ?_))))))
     ·refine Ws (en [] [] J J (Wr (aJ (Bv false) aX (On (aC.ret ⟨Q,aj.mk (.inr Q) z1 J Q ⟨au.sc,J⟩ J⟩)))))
     ·refine aC.skip (aC.blk ?_)
      refine en [(1,Cc (.pl 21 0)),(3,Cc (.pl 22 0)),(33,Cc (xF aK f.Places)),(34,Iv (f.Places.length : Int)),(35,Iv s11)] [(21,.row 29 [[iC f.Graph.aG,xF aI f.Graph.aB,xF aK f.Places]]),(22,.row 26 [[iC f.Graph.aG,xF aI f.Graph.aB]])] z5 z2 (Wr (aT LT.add aU (aF (Iv (aA (s11 + 1))) y4 (On (aW Q z5 z2)))))
    ·refine aC.eF Q ⟨Q,aO.of z2 z2⟩
   ·refine Ws (Ws (Wr ?_))
    refine fV (xF aI f.Graph.aB) iJ iU bP (aS (LT.fA Q ig) Q Q Q (aF (Iv 0) aX (On (aC.block ?_))))
    refine aC.nV (id := 2) (G5 f) (fun rY => ([(1,Cc (.pl 21 0)),(3,Cc (.pl 22 0)),(44,Cc (xF aI f.Graph.aB)),(45,Iv (f.Graph.aB.length : Int)),(46,Iv rY)],[(21,.row 29 [[iC f.Graph.aG,xF aI f.Graph.aB,xF aK f.Places]]),(22,.row 26 [[iC f.Graph.aG,xF aI f.Graph.aB]])])) (fun XZ => ([],[])) (aj Try.prog Try.f54.results.toList [] [] (fun (t : Bool) => [.c (bC t)]) (fun (t : Bool) => [])) ?_ (aO.of z5 z2) Q (fun XZ _ => ?_) (by intro r t σ m ht hk; injection ht with ht; subst ht; exact hk)
    ·intro rY
     unfold G5
     refine Ws (Wr ?_)
     refine aT LT.lss y5 (On (Ws ?_))
     refine aC.cond Q (fun hc63 => ?_) (fun hc63 => ?_)
     ·refine aC.skip (Ws (aC.block (Ws (Wr ?_))))
      refine aF (Iv rY) y4 (aQ fun oO aGj => (dY (LT.dH (enc := aI) Q rH aGj fQ) Q Q Q Q (aS (LT.lF Q kZ (dK jO) (by exact fQ.symm)) Q Q Q (dP (LT.alloc (n := 26) (cells := [iC 0,iC 0]) Q jo Q Q Q) Q Q (aJ (Iv rY) y4 (dU (stA [iC oO.A,iC oO.B] Q Q jO fQ) Q Q Q Q Q (On (Ws ?_))))))))
      refine aC.fC (fun j72 => ([(1,Cc (.pl 21 0)),(3,Cc (.pl 22 0)),(44,Cc (xF aI f.Graph.aB)),(45,Iv (f.Graph.aB.length : Int)),(46,Iv rY),(77,Bv j72)],[(21,.row 29 [[iC f.Graph.aG,xF aI f.Graph.aB,xF aK f.Places]]),(22,.row 26 [[iC f.Graph.aG,xF aI f.Graph.aB]])])) ?_ (fun j72 _ => ?_)
      ·refine en [(1,Cc (.pl 21 0)),(3,Cc (.pl 22 0)),(6,Iv rY),(7,Cc (.pl 26 0)),(44,Cc (xF aI f.Graph.aB)),(45,Iv (f.Graph.aB.length : Int)),(46,Iv rY)] [(21,.row 29 [[iC f.Graph.aG,xF aI f.Graph.aB,xF aK f.Places]]),(22,.row 26 [[iC f.Graph.aG,xF aI f.Graph.aB]]),(26,.row 96 [[iC oO.A,iC oO.B]])] z7 z3 (aC.draw mixed (ak (Iv rY) y4 (iE LT.gtr aU (ak (Bv (decide (0 < rY))) y4 (aN.split (fun lC => ?_) (fun lC => ?_))))))
       ·refine qi (xF aI f.Graph.aB) iJ iU lC iq (lG (Iv rY) lC y5 (qg LT.sub lC kE (aN.bind fun Ah aGl => (dJ (LT.dH (enc := aI) Q rH aGl fQ) Q Q (gH lC Q Q) Q (bJ (LT.lF Q kZ (dK jO) (by exact fQ.symm)) Q (gH lC Q Q) Q (gQ (cO [iC oO.A,iC oO.B] Q kZ jO fQ) Q Q (gH lC Q Q) Q (dJ (LT.J6 [Ah.A,Ah.B] [oO.A,oO.B] Q U5 Q Q) Q Q (gH lC Q Q) Q (kL (Bv (jS [Ah.A,Ah.B] [oO.A,oO.B])) lC y5 (ak (Bv (jS [Ah.A,Ah.B] [oO.A,oO.B])) y4 (aN.split (fun jZ => ?_) (fun jZ => ?_)))))))))))
        ·refine bT jZ y3 (bT jZ y3 (bT jZ y3 (bT jZ y3 (bT jZ y3 (bT jZ y3 (bT jZ y3 (bT jZ y3 (bT jZ y3 (bT jZ y3 (bT jZ y3 (bT jZ y3 ?_)))))))))))
         refine bT jZ y3 (kL (Bv true) jZ aU (aN.nil (by kernel_rfl) (aW Q z6 z2)))
        ·refine qi (xF aK f.Places) iy jC jZ iq (qi (iC oO.A) lS ay jZ iq (aN.bind fun rD Us => (dJ (LT.dH (enc := aK) Q kG Us iH) Q Q (gH jZ Q Q) Q (bJ (LT.lF Q rF (dK nT) (by exact iH.symm)) Q (gH jZ Q Q) Q (qi (xF aK f.Places) iy jC jZ iq (qi (iC oO.B) mV ay jZ iq (aN.bind fun o6 Ut => ?_)))))))
         refine dJ (LT.dH (enc := aK) Q kG Ut iH) Q Q (gH jZ Q Q) Q (bJ (LT.lF Q rF (dK nT) (by exact iH.symm)) Q (gH jZ Q Q) Q (dJ (LT.J6 [rD.X,rD.Y] [o6.X,o6.Y] Q LK Q Q) Q Q (gH jZ Q Q) Q (mg (Bv (jS [rD.X,rD.Y] [o6.X,o6.Y])) jZ y5 (aN.nil (by kernel_rfl) (aW Q z6 z2)))))
       ·refine bT lC y3 (bT lC y3 (bT lC y3 (bT lC y3 (bT lC y3 (bT lC y3 (bT lC y3 (bT lC y3 (mg (Bv false) lC aU (ak (Bv false) y4 (bJ (LT.gV Q iy) Q (gS Q Q) Q (gQ (zk (xF aK f.Places) Q jC) Q Q (gS Q Q) Q ?_)))))))))))
        refine bJ (LT.gV Q lS) Q (gS Q Q) Q (gQ (zk (iC oO.A) Q ay) Q Q (gS Q Q) Q (aN.bind fun wR Uu => (dJ (LT.dH (enc := aK) Q kG Uu iH) Q Q (gS Q Q) Q (bJ (LT.lF Q rF (dK nT) (by exact iH.symm)) Q (gS Q Q) Q (bJ (LT.gV Q iy) Q (gS Q Q) Q (gQ (zk (xF aK f.Places) Q jC) Q Q (gS Q Q) Q (bJ (LT.gV Q mV) Q (gS Q Q) Q (gQ (zk (iC oO.B) Q ay) Q Q (gS Q Q) Q (aN.bind fun wS Uw => (dJ (LT.dH (enc := aK) Q kG Uw iH) Q Q (gS Q Q) Q (bJ (LT.lF Q rF (dK nT) (by exact iH.symm)) Q (gS Q Q) Q ?_)))))))))))
        refine dJ (LT.J6 [wR.X,wR.Y] [wS.X,wS.Y] Q LK Q Q) Q Q (gS Q Q) Q (mg (Bv (jS [wR.X,wR.Y] [wS.X,wS.Y])) Q y5 (aN.nil (by kernel_rfl) (aW Q z6 z2)))
      ·refine aC.cond Q (fun Tz => ?_) (fun Tz => ?_)
       ·refine Ws (Wr ?_)
        refine aJ (Bv false) aX (On (aC.ret ⟨Q,aj.mk (.inr Q) z1 J Q ⟨au.sc,J⟩ J⟩))
       ·refine aC.skip (aC.blk (Wr ?_))
        refine aT LT.add aU (aF (Iv (aA (rY + 1))) y4 (On (aW Q z5 z2)))
     ·refine aC.eF Q ⟨Q,aO.of J J⟩
    ·refine Ws (Wr ?_)
     refine aJ (Bv true) aX (On (aC.ret (aj.mk (.inr Q) z1 J Q ⟨au.sc,J⟩ J)))
theorem WV (f : aZ) : FT Try.prog (ER f) 83 [.agg [iC f.Graph.aG,xF aI f.Graph.aB,xF aK f.Places]] [] (fun (t : (List (List Int))) => [.c (lo 0 t.length)]) (fun (t : (List (List Int))) => [(0,.ax 37 1 (af t)),(1,.pool 3 (rowsOf aH t))]) [0,1] := by
 refine FT.of [] Try.func83 Try.ntmps83 Q y2 ?_
 intro w0 U0 R0 g0
 unfold ER
 refine Ws (Wr ?_)
 refine fK (LT.box (n := 21) (v := (.agg [iC f.Graph.aG,xF aI f.Graph.aB,xF aK f.Places])) Q bU (by exact Q)) Q Q Q (aJ (Cc (sC ah)) aX (On (Ws (Wr ?_))))
 refine dP (LT.buildSlice (n := 22) (els := []) [] Q Q gy kX Q Q Q Q (by decide) Q Q) Q Q (aJ (Cc (lo 22 0)) y4 (On (aC.ent (aO.E5 23 3 Q) (aC.ent (aO.ax (n := 22) (p := 23) (lens := af ([] : List (List Int))) (List.append_nil _) Q) (Ws (Ws (Wr ?_)))))))
 refine bf (cO [iC f.Graph.aG,xF aI f.Graph.aB,xF aK f.Places] Q dW bn bU) Q Q Q Q (aQ fun r1 hr1 => (aP.pure (bQ [.agg [iC f.Graph.aG,xF aI f.Graph.aB,xF aK f.Places]] (FU f r1 hr1) Dh (mO y3) J y3) z2 J Q Q (aS (LT.not Q) Q Q Q (On (aC.cond Q (fun hc2 => ?_) (fun hc2 => ?_))))))
 ·refine Ws (Wr ?_)
  refine aF (Cc (lo 22 0)) y4 (aJ (Cc (lo 22 0)) y4 (On (en [(2,Cc (lo 22 0))] [(22,.ax 37 23 (af ([] : List (List Int)))),(23,.pool 3 (rowsOf aH ([] : List (List Int))))] z1 z2 (aC.ent (aO.mv 22 0 Q Q) (aC.ent (aO.mv 23 1 Q Q) (en [(2,Cc (lo 0 (([] : List (List Int)).length)))] [(0,.ax 37 1 (af ([] : List (List Int)))),(1,.pool 3 (rowsOf aH ([] : List (List Int))))] z1 z2 (aC.ret (aj.mk (.inr Q) z1 z2 Q ⟨J,J⟩ ⟨J,dG.xK jb _,J⟩))))))))
 ·refine aC.skip (Ws (Ws (Wr ?_)))
  refine aS (LT.gV Q jm) Q Q Q (fV (xF aI f.Graph.aB) iJ iU bP (aS (LT.fA Q ig) Q Q Q (aF (Iv 0) aX (On (aC.block ?_)))))
  refine aC.iW (id := 0) (Hg f) (fun s3 => ([(1,Cc (.pl 21 0)),(3,Cc (lo 22 s3.2.length)),(16,Cc (xF aI f.Graph.aB)),(17,Iv (f.Graph.aB.length : Int)),(18,Iv s3.1)],[(21,.row 29 [[iC f.Graph.aG,xF aI f.Graph.aB,xF aK f.Places]]),(22,.ax 37 23 (af s3.2)),(23,.pool 3 (rowsOf aH s3.2))])) (fun o8 => ([(3,Cc (lo 22 o8.length))],[(22,.ax 37 23 (af o8)),(23,.pool 3 (rowsOf aH o8))])) ?_ (aO.of z5 z3) Q (fun o8 _ => ?_)
  ·intro s3
   unfold Hg
   refine Ws (Wr ?_)
   refine aT LT.lss y5 (On (Ws ?_))
   refine aC.cond Q (fun hc25 => ?_) (fun hc25 => ?_)
   ·refine aC.skip (Ws (aC.block (Ws (Wr ?_))))
    refine aQ fun gK aGb => (dY (LT.dH (enc := aI) Q rH aGb fQ) Q Q Q Q (aS (LT.lF Q kZ (dK jO) (by exact fQ.symm)) Q Q Q (dP (LT.alloc (n := 25) (cells := [iC 0,iC 0]) Q jo Q Q Q) Q Q (dU (stA [iC gK.A,iC gK.B] Q Q jO fQ) Q Q Q Q Q (On (Ws (Wr ?_)))))))
    refine aS (LT.gV Q jm) Q Q Q (fV (iC f.Graph.aG) mQ ay bP (aT LT.mul nP (aQ fun u27 aGE => (wV (LT.Jb (n := 26) (enc := aH) (zc := [iC 0]) (0 : Int) Q bZ eu Q Q Q (by decide) (by decide) (EO aGE) Q) Q Q Q Q (aJ (Cc (lo 26 ((List.replicate (aA (2 * f.Graph.aG)).toNat (0 : Int)).length))) y4 (On (Ws ?_)))))))
    refine en [(1,Cc (.pl 21 0)),(3,Cc (lo 22 s3.2.length)),(5,Cc (.pl 25 0)),(6,Cc (lo 26 ((List.replicate (aA (2 * f.Graph.aG)).toNat (0 : Int)).length))),(16,Cc (xF aI f.Graph.aB)),(17,Iv (f.Graph.aB.length : Int)),(18,Iv s3.1)] [(21,.row 29 [[iC f.Graph.aG,xF aI f.Graph.aB,xF aK f.Places]]),(22,.ax 37 23 (af s3.2)),(23,.pool 3 (rowsOf aH s3.2)),(25,.row 96 [[iC gK.A,iC gK.B]]),(26,pR 3 aH (List.replicate (aA (2 * f.Graph.aG)).toNat (0 : Int)))] z7 z5 (aC.draw mixed (eG (xF aK f.Places) iy jC bP (eG (iC gK.A) lS ay bP (aN.bind fun x28 hx28 => (dJ (LT.dH (enc := aK) Q kG hx28 iH) Q Q Q Q (bJ (LT.lF Q rF (dK nT) (by exact iH.symm)) Q Q Q (eG (xF aK f.Places) iy jC bP (bJ (LT.gV Q mV) Q Q Q ?_))))))))
    refine gQ (zk (iC gK.B) Q ay) Q Q Q Q (aN.bind fun x29 hx29 => (dJ (LT.dH (enc := aK) Q kG hx29 iH) Q Q Q Q (bJ (LT.lF Q rF (dK nT) (by exact iH.symm)) Q Q Q (DN (LT.alloc (n := 27) (cells := [iC 0,iC 0]) Q AY Q Q Q) Q Q (DN (LT.alloc (n := 28) (cells := [iC 0,iC 0]) Q AY Q Q Q) Q Q (lW (stA [iC x28.X,iC x28.Y] Q Q nT iH) Q Q Q Q Q (lW (stA [iC x29.X,iC x29.Y] Q Q nT iH) Q Q Q Q Q (aN.nil (by kernel_rfl) (Ws (en [(1,Cc (.pl 21 0)),(3,Cc (lo 22 s3.2.length)),(5,Cc (.pl 25 0)),(6,Cc (lo 26 ((List.replicate (aA (2 * f.Graph.aG)).toNat (0 : Int)).length))),(7,Cc (.pl 27 0)),(8,Cc (.pl 28 0)),(16,Cc (xF aI f.Graph.aB)),(17,Iv (f.Graph.aB.length : Int)),(18,Iv s3.1)] [(21,.row 29 [[iC f.Graph.aG,xF aI f.Graph.aB,xF aK f.Places]]),(22,.ax 37 23 (af s3.2)),(23,.pool 3 (rowsOf aH s3.2)),(25,.row 96 [[iC gK.A,iC gK.B]]),(26,pR 3 aH (List.replicate (aA (2 * f.Graph.aG)).toNat (0 : Int))),(27,.row 82 [[iC x28.X,iC x28.Y]]),(28,.row 82 [[iC x29.X,iC x29.Y]])] z9 z7 (aC.draw mixed ?_)))))))))))
    refine ak (Cc (lo 26 ((List.replicate (aA (2 * f.Graph.aG)).toNat (0 : Int)).length))) y4 (eG (iC gK.A) lS ay bP (iE LT.mul nP (ak (Cc (lo 26 ((List.replicate (aA (2 * f.Graph.aG)).toNat (0 : Int)).length))) y4 (eG (iC gK.A) lS ay bP (iE LT.mul nP (iE LT.add aU (eG (iC x28.X) rJ ay bP (bJ (LT.gV Q rJ) Q Q Q ?_))))))))
    refine gQ (zk (iC x29.X) Q ay) Q Q Q Q (iE LT.sub y5 (eG (iC x28.Y) sN ay bP (eG (iC x29.Y) sN ay bP (iE LT.sub y5 (aN.bind fun x30 ZU => (je (LT.iG Q Q dR ZU) Q Q Q Q Q (lW (LT.nN (k := 0) (v := (.c (iC (aA (x28.X - x29.X))))) (b' := (aA (x28.X - x29.X))) Q Q (dK nI) fM (by exact Q) ZU (by exact Q) (by exact K Q) (by exact Q)) Q Q Q Q Q (aN.bind fun x31 hx31 => (je (LT.iG (show (List.replicate (aA (2 * f.Graph.aG)).toNat (0 : Int)).length = ((List.replicate (aA (2 * f.Graph.aG)).toNat (0 : Int)).set (aA (2 * gK.A)).toNat (aA (x28.X - x29.X))).length by simp only [List.length_set]) Q dR hx31) Q Q Q Q Q ?_)))))))))
    refine lW (LT.nN (k := 0) (v := (.c (iC (aA (x28.Y - x29.Y))))) (b' := (aA (x28.Y - x29.Y))) Q Q (dK nI) fM (by exact Q) hx31 (by exact Q) (by exact K Q) (by exact Q)) Q Q Q Q Q (aN.nil (by kernel_rfl) (Ws (en [(1,Cc (.pl 21 0)),(3,Cc (lo 22 s3.2.length)),(5,Cc (.pl 25 0)),(6,Cc (lo 26 ((List.replicate (aA (2 * f.Graph.aG)).toNat (0 : Int)).length))),(7,Cc (.pl 27 0)),(8,Cc (.pl 28 0)),(16,Cc (xF aI f.Graph.aB)),(17,Iv (f.Graph.aB.length : Int)),(18,Iv s3.1)] [(21,.row 29 [[iC f.Graph.aG,xF aI f.Graph.aB,xF aK f.Places]]),(22,.ax 37 23 (af s3.2)),(23,.pool 3 (rowsOf aH s3.2)),(25,.row 96 [[iC gK.A,iC gK.B]]),(26,pR 3 aH (((List.replicate (aA (2 * f.Graph.aG)).toNat (0 : Int)).set (aA (2 * gK.A)).toNat (aA (x28.X - x29.X))).set (aA ((aA (2 * gK.A)) + 1)).toNat (aA (x28.Y - x29.Y)))),(27,.row 82 [[iC x28.X,iC x28.Y]]),(28,.row 82 [[iC x29.X,iC x29.Y]])] z9 z7 (aC.draw mixed (ak (Cc (lo 26 ((List.replicate (aA (2 * f.Graph.aG)).toNat (0 : Int)).length))) y4 (eG (iC gK.B) mV ay bP (iE LT.mul nP (ak (Cc (lo 26 ((List.replicate (aA (2 * f.Graph.aG)).toNat (0 : Int)).length))) y4 (eG (iC gK.B) mV ay bP ?_)))))))))
    refine iE LT.mul nP (iE LT.add aU (eG (iC x29.X) rJ ay bP (eG (iC x28.X) rJ ay bP (iE LT.sub y5 (eG (iC x29.Y) sN ay bP (eG (iC x28.Y) sN ay bP (iE LT.sub y5 ?_)))))))
    refine aN.bind fun x32 hx32 => (je (LT.iG (show (List.replicate (aA (2 * f.Graph.aG)).toNat (0 : Int)).length = (((List.replicate (aA (2 * f.Graph.aG)).toNat (0 : Int)).set (aA (2 * gK.A)).toNat (aA (x28.X - x29.X))).set (aA ((aA (2 * gK.A)) + 1)).toNat (aA (x28.Y - x29.Y))).length by simp only [List.length_set]) Q dR hx32) Q Q Q Q Q (lW (LT.nN (k := 0) (v := (.c (iC (aA (x29.X - x28.X))))) (b' := (aA (x29.X - x28.X))) Q Q (dK nI) fM (by exact Q) hx32 (by exact Q) (by exact K Q) (by exact Q)) Q Q Q Q Q (aN.bind fun x33 ZV => (je (LT.iG (show (List.replicate (aA (2 * f.Graph.aG)).toNat (0 : Int)).length = ((((List.replicate (aA (2 * f.Graph.aG)).toNat (0 : Int)).set (aA (2 * gK.A)).toNat (aA (x28.X - x29.X))).set (aA ((aA (2 * gK.A)) + 1)).toNat (aA (x28.Y - x29.Y))).set (aA (2 * gK.B)).toNat (aA (x29.X - x28.X))).length by simp only [List.length_set]) Q dR ZV) Q Q Q Q Q (lW (LT.nN (k := 0) (v := (.c (iC (aA (x29.Y - x28.Y))))) (b' := (aA (x29.Y - x28.Y))) Q Q (dK nI) fM (by exact Q) ZV (by exact Q) (by exact K Q) (by exact Q)) Q Q Q Q Q (aN.nil (by kernel_rfl) (en [(1,Cc (.pl 21 0)),(3,Cc (lo 22 s3.2.length)),(6,Cc (lo 26 ((List.replicate (aA (2 * f.Graph.aG)).toNat (0 : Int)).length))),(16,Cc (xF aI f.Graph.aB)),(17,Iv (f.Graph.aB.length : Int)),(18,Iv s3.1)] [(21,.row 29 [[iC f.Graph.aG,xF aI f.Graph.aB,xF aK f.Places]]),(22,.ax 37 23 (af s3.2)),(23,.pool 3 (rowsOf aH s3.2)),(26,pR 3 aH (((((List.replicate (aA (2 * f.Graph.aG)).toNat (0 : Int)).set (aA (2 * gK.A)).toNat (aA (x28.X - x29.X))).set (aA ((aA (2 * gK.A)) + 1)).toNat (aA (x28.Y - x29.Y))).set (aA (2 * gK.B)).toNat (aA (x29.X - x28.X))).set (aA ((aA (2 * gK.B)) + 1)).toNat (aA (x29.Y - x28.Y))))] z6 z4 (Wr (aF (Cc (lo 22 s3.2.length)) y4 (aF (Cc (lo 26 ((List.replicate (aA (2 * f.Graph.aG)).toNat (0 : Int)).length))) y4 (fK (LT.buildSlice (n := 29) (els := [[lo 26 ((List.replicate (aA (2 * f.Graph.aG)).toNat (0 : Int)).length)]]) [(0,.tmp 82,.c (lo 26 ((List.replicate (aA (2 * f.Graph.aG)).toNat (0 : Int)).length)))] Q Q gy kX Q Q Q Q (by decide) Q Q) Q Q Q ?_)))))))))))
    refine aQ fun u34 aGH => (nS (LT.N8 Q Q Q gy kX Q (by decide) (by decide) Q (jU aGH)) Q Q Q Q Q Q (aJ (Cc (lo 22 (s3.2.length + 1))) y4 (On (aC.ent (aO.Cb (enc := aH) (n := 22) (m := 26) (p := 23) (rows := s3.2) (r := (((((List.replicate (aA (2 * f.Graph.aG)).toNat (0 : Int)).set (aA (2 * gK.A)).toNat (aA (x28.X - x29.X))).set (aA ((aA (2 * gK.A)) + 1)).toNat (aA (x28.Y - x29.Y))).set (aA (2 * gK.B)).toNat (aA (x29.X - x28.X))).set (aA ((aA (2 * gK.B)) + 1)).toNat (aA (x29.Y - x28.Y)))) (rest := []) (show (List.replicate (aA (2 * f.Graph.aG)).toNat (0 : Int)).length = (((((List.replicate (aA (2 * f.Graph.aG)).toNat (0 : Int)).set (aA (2 * gK.A)).toNat (aA (x28.X - x29.X))).set (aA ((aA (2 * gK.A)) + 1)).toNat (aA (x28.Y - x29.Y))).set (aA (2 * gK.B)).toNat (aA (x29.X - x28.X))).set (aA ((aA (2 * gK.B)) + 1)).toNat (aA (x29.Y - x28.Y))).length by simp only [List.length_set]) Q Q Q Q Q) (aC.ent (aO.ax (n := 22) (p := 23) (lens := af (s3.2 ++ [((((List.replicate (aA (2 * f.Graph.aG)).toNat (0 : Int)).set (aA (2 * gK.A)).toNat (aA (x28.X - x29.X))).set (aA ((aA (2 * gK.A)) + 1)).toNat (aA (x28.Y - x29.Y))).set (aA (2 * gK.B)).toNat (aA (x29.X - x28.X))).set (aA ((aA (2 * gK.B)) + 1)).toNat (aA (x29.Y - x28.Y))])) (List.append_nil _) Q) (aC.blk (Wr ?_)))))))
    refine aT LT.add aU (aF (Iv (aA (s3.1 + 1))) y4 (On (aC.nil ⟨Q,aO.of ⟨Q,congrArg (fun l1 => (some (AV.s (.c (lo 22 l1))) : Option AV)) (show (s3.2.length + 1) = (s3.2 ++ [((((List.replicate (aA (2 * f.Graph.aG)).toNat (0 : Int)).set (aA (2 * gK.A)).toNat (aA (x28.X - x29.X))).set (aA ((aA (2 * gK.A)) + 1)).toNat (aA (x28.Y - x29.Y))).set (aA (2 * gK.B)).toNat (aA (x29.X - x28.X))).set (aA ((aA (2 * gK.B)) + 1)).toNat (aA (x29.Y - x28.Y))]).length from LV),Q,Q,Q,J⟩ z3⟩)))
   ·refine aC.eF Q ⟨Q,aO.of z1 z2⟩
  ·refine Ws (Wr ?_)
   refine aF (Cc (lo 22 o8.length)) y4 (aJ (Cc (lo 22 o8.length)) y4 (On (en [(2,Cc (lo 22 o8.length))] [(22,.ax 37 23 (af o8)),(23,.pool 3 (rowsOf aH o8))] z1 z2 (aC.ent (aO.mv 22 0 Q Q) (aC.ent (aO.mv 23 1 Q Q) (en [(2,Cc (lo 0 o8.length))] [(0,.ax 37 1 (af o8)),(1,.pool 3 (rowsOf aH o8))] z1 z2 (aC.ret (aj.mk (.inr Q) z1 z2 Q ⟨J,J⟩ ⟨J,dG.xK jb _,J⟩))))))))
theorem aB5 (m : (List (List Int))) (columns : Int) : FT Try.prog (IB m columns) 82 [.c (xF (bI false) m),.c (iC columns)] [] (fun (t : (List (List Int))) => [.c (lo 0 t.length)]) (fun (t : (List (List Int))) => [(0,.ax 37 1 (af t)),(1,.pool 3 (rowsOf aH t))]) [0,1] := by
 refine FT.of [] Try.func82 Try.ntmps82 Q y2 ?_
 intro w0 U0 R0 g0
 unfold IB
 refine Ws (Wr ?_)
 refine aJ (Cc (sC ah)) aX (On (Ws (Wr ?_)))
 refine aF (Iv columns) y4 (aQ fun u1 hu1 => (wV (LT.aJ3 (n := 21) Q gy kX (by decide) (EO hu1)) Q Q Q Q (aJ (Cc (lo 21 columns.toNat)) y4 (On (aC.ent (aHv (enc := aH) (n := 21) (p := 22) (c := columns.toNat) (e := 37) (e2 := 3) Q (by simp only [List.map_replicate]; try rfl) Q) (Ws (Ws (Wr ?_))))))))
 refine aF (Cc (lo 21 columns.toNat)) y4 (aS (LT.jg Q gy) Q Q Q (aF (Iv 0) aX (On (aC.block ?_))))
 refine aC.iW (id := 0) (IC m columns) (fun s2 => ([(0,Cc (xF (bI false) m)),(5,Cc (lo 21 s2.2.length)),(12,Iv (columns.toNat : Int)),(13,Iv s2.1)],[(21,.ax 37 22 (af s2.2)),(22,.pool 3 (rowsOf aH s2.2))])) (fun uP => ([(5,Cc (lo 21 uP.length))],[(21,.ax 37 22 (af uP)),(22,.pool 3 (rowsOf aH uP))])) ?_ (aO.of ⟨Q,congrArg (fun l1 => (some (AV.s (.c (lo 21 l1))) : Option AV)) (show columns.toNat = (List.replicate columns.toNat ([] : List Int)).length from List.length_replicate.symm),Q,Q,J⟩ z2) Q (fun uP _ => ?_)
 ·intro s2
  unfold IC
  refine Ws (Wr ?_)
  refine aT LT.lss y5 (On (Ws ?_))
  refine aC.cond Q (fun aEi => ?_) (fun aEi => ?_)
  ·refine aC.skip (Ws (aC.block (Ws (Wr ?_))))
   refine aF (Iv s2.1) y4 (aJ (Iv s2.1) y4 (On (Ws (Wr ?_))))
   refine aF (Cc (lo 21 s2.2.length)) y4 (aF (Iv s2.1) y4 (dP (LT.fZ (n := 23) (enc := aH) [] ([] : List Int) Q Q bZ eu Q Q Q Q (by decide) (fun _ => Q) Q) Q Q (aQ fun Wx EI => (iK (LT.pJ Q Q iL EI) Q Q Q Q Q (dU (LT.Wy (e := 37) (p := 22) Q Q (dK wF) qy EI Q) Q Q Q Q Q (On (aC.ent (aO.FM (enc := aH) (n := 21) (m := 23) (p := 22) (k := s2.1.toNat) (rows := s2.2) (r := ([] : List Int)) Q (List.getElem?_eq_some_iff.1 (jM EI)).1 Q Q Q Q) ?_)))))))
   refine aC.ent (aO.ax (n := 21) (p := 22) (lens := af (s2.2.set s2.1.toNat ([] : List Int))) Q Q) (Ws (Wr ?_))
   refine aF (Cc (xF (bI false) m)) y4 (aS (LT.fA Q gy) Q Q Q (aF (Iv 0) aX (On (aC.block ?_))))
   refine aC.iW (id := 2) (IE m s2) (fun jL => ([(0,Cc (xF (bI false) m)),(5,Cc (lo 21 jL.2.length)),(6,Iv s2.1),(12,Iv (columns.toNat : Int)),(13,Iv s2.1),(20,Cc (xF (bI false) m)),(21,Iv (m.length : Int)),(22,Iv jL.1)],[(21,.ax 37 22 (af jL.2)),(22,.pool 3 (rowsOf aH jL.2))])) (fun y9 => ([(0,Cc (xF (bI false) m)),(5,Cc (lo 21 y9.2.length)),(12,Iv (columns.toNat : Int)),(13,Iv y9.1)],[(21,.ax 37 22 (af y9.2)),(22,.pool 3 (rowsOf aH y9.2))])) ?_ (aO.of ⟨Q,congrArg (fun l1 => (some (AV.s (.c (lo 21 l1))) : Option AV)) (show s2.2.length = (s2.2.set s2.1.toNat ([] : List Int)).length by simp only [List.length_set]),Q,Q,Q,Q,Q,Q,J⟩ z2) Q (fun y9 _ => ?_)
   ·intro jL
    unfold IE
    refine Ws (Wr ?_)
    refine aT LT.lss y5 (On (Ws ?_))
    refine aC.cond Q (fun aEn => ?_) (fun aEn => ?_)
    ·refine aC.skip (Ws (aC.block (Ws (Wr ?_))))
     refine aQ fun RJ aGf => (dY (LT.dH (enc := (bI false)) Q iL aGf qy) Q Q Q Q (aS (LT.fO Q jR) Q Q Q (aJ (Cc (xF aH RJ)) y4 (On (aC.draw mixed ?_)))))
     refine ak (Cc (lo 21 jL.2.length)) y4 (ak (Iv s2.1) y4 (ak (Cc (lo 21 jL.2.length)) y4 (ak (Iv s2.1) y4 (aN.bind fun x54 vX => (je (LT.pJ Q Q iL vX) Q Q Q Q Q (gQ (LT.rE Q jR vX Q) Q Q Q Q (ak (Cc (xF aH RJ)) y4 (ak (Iv s2.1) y4 (aN.bind fun x55 aGg => (dJ (LT.dH (enc := aH) Q dR aGg fM) Q Q Q Q (bJ (LT.fO Q ay) Q Q Q ?_)))))))))))
     refine Fh (LT.fZ (n := 24) (enc := aH) [(0,.tmp 35,.c (iC x55))] ([x55] : List Int) Q Q bZ eu Q Q Q Q (by decide) (fun _ => Q) Q) Q Q Q (aN.bind fun u56 aGQ => (aN.step (LT.Nl (p := 22) (k := s2.1.toNat) (m := 25) (n := 21) (e := 37) (enc := aH) (LT.lI (n := 25) (n2 := 24) (enc := aH) Q Q Q bZ eu Q (by decide) (by decide) (fun _ => Q) (jU aGQ)) (jM vX) Q) z2 z3 Q Q (aN.bind fun Jh EK => (je (LT.Ji (show jL.2.length = (jL.2.set s2.1.toNat []).length by simp only [List.length_set]) Q iL EK) Q Q Q Q Q (lW (LT.N9 (e := 37) (p := 22) Q Q (dK wF) qy EK Q) Q Q Q Q Q (aN.nil (by kernel_rfl) (aC.ent (aO.FM (enc := aH) (n := 21) (m := 25) (p := 22) (k := s2.1.toNat) (rows := (jL.2.set s2.1.toNat [])) (r := (x54 ++ ([x55] : List Int))) Q (List.getElem?_eq_some_iff.1 (jM EK)).1 Q Q Q Q) ?_)))))))
     refine aC.ent (aO.ax (n := 21) (p := 22) (lens := af ((jL.2.set s2.1.toNat []).set s2.1.toNat (x54 ++ ([x55] : List Int)))) Q Q) (aC.blk (Wr ?_))
     refine aT LT.add aU (aF (Iv (aA (jL.1 + 1))) y4 (On (aC.nil ⟨Q,aO.of ⟨Q,congrArg (fun l1 => (some (AV.s (.c (lo 21 l1))) : Option AV)) (show jL.2.length = ((jL.2.set s2.1.toNat []).set s2.1.toNat (x54 ++ ([x55] : List Int))).length by simp only [List.length_set]),Q,Q,Q,Q,Q,Q,J⟩ z2⟩)))
    ·refine aC.eF Q ⟨Q,aO.of z4 z2⟩
   ·refine aC.blk (Wr ?_)
    refine aT LT.add aU (aF (Iv (aA (y9.1 + 1))) y4 (On (aW Q z4 z2)))
  ·refine aC.eF Q ⟨Q,aO.of z1 z2⟩
 ·refine Ws (Wr ?_)
  refine aF (Cc (lo 21 uP.length)) y4 (aJ (Cc (lo 21 uP.length)) y4 (On (en [(4,Cc (lo 21 uP.length))] [(21,.ax 37 22 (af uP)),(22,.pool 3 (rowsOf aH uP))] z1 z2 (aC.ent (aO.mv 21 0 Q Q) (aC.ent (aO.mv 22 1 Q Q) (en [(4,Cc (lo 0 uP.length))] [(0,.ax 37 1 (af uP)),(1,.pool 3 (rowsOf aH uP))] z1 z2 (aC.ret (aj.mk (.inr Q) z1 z2 Q ⟨J,J⟩ ⟨J,dG.xK jb _,J⟩))))))))
theorem aJN (l : (List (List Int))) : FT Try.prog (Ls l) 190 [.c (xF (bI false) l)] [] (fun (t : (List (List Int))) => [.c (lo 0 t.length)]) (fun (t : (List (List Int))) => [(0,.ax 37 1 (af t)),(1,.pool 3 (rowsOf aH t))]) [0,1] := by
 refine FT.of [] Try.func190 Try.ntmps190 Q y2 ?_
 intro w0 U0 R0 g0
 unfold Ls
 refine Ws (Wr ?_)
 refine aJ (Cc (sC ah)) aX (On (Ws (Wr ?_)))
 refine dP (LT.buildSlice (n := 21) (els := []) [] Q Q gy kX Q Q Q Q (by decide) Q Q) Q Q (aJ (Cc (lo 21 0)) y4 (On (aC.ent (aO.E5 22 3 Q) (aC.ent (aO.ax (n := 21) (p := 22) (lens := af ([] : List (List Int))) (List.append_nil _) Q) (Ws (Ws (Wr ?_)))))))
 refine aF (Cc (xF (bI false) l)) y4 (aS (LT.fA Q gy) Q Q Q (aF (Iv 0) aX (On (aC.block ?_))))
 refine aC.iW (id := 0) (Ht l) (fun s1 => ([(3,Cc (lo 21 s1.2.length)),(7,Cc (xF (bI false) l)),(8,Iv (l.length : Int)),(9,Iv s1.1)],[(21,.ax 37 22 (af s1.2)),(22,.pool 3 (rowsOf aH s1.2))])) (fun b10 => ([(3,Cc (lo 21 b10.length))],[(21,.ax 37 22 (af b10)),(22,.pool 3 (rowsOf aH b10))])) ?_ (aO.of z4 z2) Q (fun b10 _ => ?_)
 ·intro s1
  unfold Ht
  refine Ws (Wr ?_)
  refine aT LT.lss y5 (On (Ws ?_))
  refine aC.cond Q (fun rP => ?_) (fun rP => ?_)
  ·refine aC.skip (Ws (aC.block (Ws (Wr ?_))))
   refine aQ fun x12 vW => (dY (LT.dH (enc := (bI false)) Q iL vW qy) Q Q Q Q (aS (LT.fO Q jR) Q Q Q (aJ (Cc (xF aH x12)) y4 (On (Wr ?_)))))
   refine aF (Cc (lo 21 s1.2.length)) y4 (aF (Cc (xF aH x12)) y4 (aQ fun r13 rQ => (aP.step (bQ [.c (xF aH x12)] (Fw.Fn.ren [(0,24)] (WW x12 r13 rQ) Q) SN (lu Q) J y3) z2 J Q Q (fK (LT.buildSlice (n := 25) (els := [[lo 24 r13.length]]) [(0,.tmp 15,.c (lo 24 r13.length))] Q Q gy kX Q Q Q Q (by decide) Q Q) Q Q Q (aQ fun u14 KU => (nS (LT.N8 Q Q Q gy kX Q (by decide) (by decide) Q (jU KU)) Q Q Q Q Q Q (aJ (Cc (lo 21 (s1.2.length + 1))) y4 (On (aC.ent (aO.Cb (enc := aH) (n := 21) (m := 24) (p := 22) (rows := s1.2) (r := r13) (rest := []) Q Q Q Q Q Q) (aC.ent (aO.ax (n := 21) (p := 22) (lens := af (s1.2 ++ [r13])) (List.append_nil _) Q) (aC.blk (Wr ?_))))))))))))
   refine aT LT.add aU (aF (Iv (aA (s1.1 + 1))) y4 (On (aC.nil ⟨Q,aO.of ⟨congrArg (fun l1 => (some (AV.s (.c (lo 21 l1))) : Option AV)) (show (s1.2.length + 1) = (s1.2 ++ [r13]).length from LV),Q,Q,Q,J⟩ z2⟩)))
  ·refine aC.eF Q ⟨Q,aO.of z1 z2⟩
 ·refine Ws (Wr ?_)
  refine aF (Cc (lo 21 b10.length)) y4 (aJ (Cc (lo 21 b10.length)) y4 (On (en [(2,Cc (lo 21 b10.length))] [(21,.ax 37 22 (af b10)),(22,.pool 3 (rowsOf aH b10))] z1 z2 (aC.ent (aO.mv 21 0 Q Q) (aC.ent (aO.mv 22 1 Q Q) (en [(2,Cc (lo 0 b10.length))] [(0,.ax 37 1 (af b10)),(1,.pool 3 (rowsOf aH b10))] z1 z2 (aC.ret (aj.mk (.inr Q) z1 z2 Q ⟨J,J⟩ ⟨J,dG.xK jb _,J⟩))))))))
theorem aB4 (m : (List (List Int))) (columns : Int) : FT Try.prog (H8 m columns) 159 [.c (xF (bI false) m),.c (iC columns)] [] (fun (t : ((List (List Int)) × (List Int) × Int)) => [.c (lo 0 t.1.length),.c (lo 2 t.2.1.length),.c (iC t.2.2)]) (fun (t : ((List (List Int)) × (List Int) × Int)) => [(0,.ax 37 1 (af t.1)),(1,.pool 3 (rowsOf aH t.1)),(2,pR 3 aH t.2.1)]) [0,1,2] := by
 refine FT.of [] Try.func159 Try.ntmps159 Q y2 ?_
 intro w0 U0 R0 g0
 unfold H8
 refine Ws (Wr ?_)
 refine aJ (Cc (sC ah)) aX (aJ (Cc (sC ah)) aX (aJ (Iv 0) aX (On (Ws (Wr ?_)))))
 refine aF (Cc (xF (bI false) m)) y4 (aQ fun r1 hr1 => (aP.step (bQ [.c (xF (bI false) m)] (Fw.Fn.ren [(0,22),(1,23)] (aJN m r1 hr1) Q) aDF (lu Q) J y3) z2 J Q Q (aJ (Cc (lo 22 r1.length)) y4 (On (Ws (Wr ?_))))))
 refine dP (LT.fZ (n := 24) (enc := aH) [] ([] : List Int) Q Q bZ eu Q Q Q Q (by decide) (fun _ => Q) Q) Q Q (aJ (Cc (lo 24 (([] : List Int).length))) y4 (On (Ws ?_)))
 refine en [(1,Iv columns),(7,Cc (lo 22 r1.length)),(8,Cc (lo 24 (([] : List Int).length)))] [(22,.ax 37 23 (af r1)),(23,.pool 3 (rowsOf aH r1)),(24,pR 3 aH ([] : List Int))] z3 z3 (Wr (aJ (Iv 1) aX (On (Ws (Ws (Wr ?_))))))
 refine aJ (Iv 0) aX (On (aC.block ?_))
 refine aC.iW (id := 0) (BR columns) (fun s2 => ([(1,Iv columns),(7,Cc (lo 22 s2.2.1.length)),(8,Cc (lo 24 s2.2.2.2.length)),(9,Iv s2.2.2.1),(10,Iv s2.1)],[(22,.ax 37 23 (af s2.2.1)),(23,.pool 3 (rowsOf aH s2.2.1)),(24,pR 3 aH s2.2.2.2)])) (fun lN => ([(7,Cc (lo 22 lN.2.1.length)),(8,Cc (lo 24 lN.2.2.length)),(9,Iv lN.1)],[(22,.ax 37 23 (af lN.2.1)),(23,.pool 3 (rowsOf aH lN.2.1)),(24,pR 3 aH lN.2.2)])) ?_ (aO.of z5 z3) Q (fun lN _ => ?_)
 ·intro s2
  unfold BR
  refine Ws (Ws ?_)
  refine aC.fC (fun Po => ([(1,Iv columns),(7,Cc (lo 22 s2.2.1.length)),(8,Cc (lo 24 s2.2.2.2.length)),(9,Iv s2.2.2.1),(10,Iv s2.1),(29,Bv Po)],[(22,.ax 37 23 (af s2.2.1)),(23,.pool 3 (rowsOf aH s2.2.1)),(24,pR 3 aH s2.2.2.2)])) ?_ (fun Po _ => ?_)
  ·refine Wr (aF (Iv s2.1) y4 (aF (Iv columns) y4 (aT LT.lss y5 (aF (Bv (decide (s2.1 < columns))) y4 (aP.split (fun oI => ?_) (fun oI => ?_))))))
   ·refine gW (Cc (lo 24 s2.2.2.2.length)) oI y5 (aS (LT.jg Q bZ) Q (gH oI Q Q) Q (gW (Cc (lo 22 s2.2.1.length)) oI y5 (aS (LT.jg Q gy) Q (gH oI Q Q) Q (iT LT.lss oI y6 (dh (Bv (decide ((s2.2.2.2.length : Int) < (s2.2.1.length : Int)))) oI y5 (On (aW Q z6 z3)))))))
   ·refine aV oI y5 (aV oI y5 (aV oI y5 (aV oI y5 (aV oI y5 (gY (Bv false) oI aU (On (aW Q z6 z3)))))))
  ·refine aC.cond Q (fun aEa => ?_) (fun aEa => ?_)
   ·refine aC.skip (Ws (aC.block (Ws (Wr ?_))))
    refine aF (Cc (lo 24 s2.2.2.2.length)) y4 (aS (LT.jg Q bZ) Q Q Q (aJ (Iv (s2.2.2.2.length : Int)) y4 (On (Ws (Wr ?_)))))
    refine aF (Iv (s2.2.2.2.length : Int)) y4 (aJ (Iv (s2.2.2.2.length : Int)) y4 (On (Ws (aC.block ?_))))
    refine aC.iW (id := 2) (H9 s2) (fun vz => ([(1,Iv columns),(7,Cc (lo 22 s2.2.1.length)),(8,Cc (lo 24 s2.2.2.2.length)),(9,Iv s2.2.2.1),(10,Iv s2.1),(11,Iv (s2.2.2.2.length : Int)),(12,Iv vz)],[(22,.ax 37 23 (af s2.2.1)),(23,.pool 3 (rowsOf aH s2.2.1)),(24,pR 3 aH s2.2.2.2)])) (fun gG => ([(1,Iv columns),(7,Cc (lo 22 gG.2.2.2.2.1.length)),(8,Cc (lo 24 gG.2.2.2.2.2.length)),(9,Iv gG.1),(10,Iv gG.2.1),(11,Iv gG.2.2.1),(12,Iv gG.2.2.2.1)],[(22,.ax 37 23 (af gG.2.2.2.2.1)),(23,.pool 3 (rowsOf aH gG.2.2.2.2.1)),(24,pR 3 aH gG.2.2.2.2.2)])) ?_ (aO.of z7 z3) Q (fun gG _ => ?_)
    ·intro vz
     unfold H9
     refine Ws (Ws ?_)
     refine aC.fC (fun Pv => ([(1,Iv columns),(7,Cc (lo 22 s2.2.1.length)),(8,Cc (lo 24 s2.2.2.2.length)),(9,Iv s2.2.2.1),(10,Iv s2.1),(11,Iv (s2.2.2.2.length : Int)),(12,Iv vz),(48,Bv Pv)],[(22,.ax 37 23 (af s2.2.1)),(23,.pool 3 (rowsOf aH s2.2.1)),(24,pR 3 aH s2.2.2.2)])) ?_ (fun Pv _ => ?_)
     ·refine Wr (aF (Iv vz) y4 (aF (Cc (lo 22 s2.2.1.length)) y4 (aS (LT.jg Q gy) Q Q Q (aT LT.lss y5 (aF (Bv (decide (vz < (s2.2.1.length : Int)))) y4 (aP.split (fun qM => ?_) (fun qM => ?_)))))))
      ·refine gW (Cc (lo 22 s2.2.1.length)) qM y5 (gW (Iv vz) qM y5 (aQ fun Je GX => (iK (LT.pJ Q Q iL GX) Q Q Q (gH qM Q Q) Q (bf (LT.rE Q jR GX Q) Q Q (gH qM Q Q) Q (gW (Iv s2.1) qM y5 (aQ fun Wq ZM => (iK (LT.Ce Q Q dR (jM GX) ZM) Q Q Q (gH qM Q Q) Q (bf (LT.FN (enc := aH) (j := 0) Q ay (jM GX) ZM (by exact Q) (by exact Q)) Q Q (gH qM Q Q) Q (iT LT.eql qM kE (dh (Bv (Wq == 0)) qM y5 (On ?_)))))))))))
       refine aW Q z8 z3
      ·refine aV qM y5 (aV qM y5 (aV qM y5 (aV qM y5 (aV qM y5 (aV qM y5 (aV qM y5 (aV qM y5 (gY (Bv false) qM aU (On (aW Q z8 z3))))))))))
     ·refine aC.cond Q (fun Td => ?_) (fun Td => ?_)
      ·refine aC.skip (aC.block (Wr ?_))
       refine aF (Iv vz) y4 (aT LT.add aU (aJ (Iv (aA (vz + 1))) y4 (On (aC.blk ?_))))
       refine aW Q z7 z3
      ·refine aC.eF Q ⟨Q,aO.of z7 z3⟩
    ·refine Ws (Ws (Wr ?_))
     refine aF (Iv gG.2.2.2.1) y4 (aF (Cc (lo 22 gG.2.2.2.2.1.length)) y4 (aS (LT.jg Q gy) Q Q Q (aT LT.eql y5 (On (aC.cond Q (fun aEb => ?_) (fun aEb => ?_))))))
     ·refine aC.exit Q (Wr ?_)
      refine aF (Iv gG.2.1) y4 (aT LT.add aU (aJ (Iv (aA (gG.2.1 + 1))) y4 (On (aW Q z5 z3))))
     ·refine aC.skip (Ws (aC.draw mixed ?_))
      refine ak (Cc (lo 22 gG.2.2.2.2.1.length)) y4 (ak (Iv gG.2.2.1) y4 (ak (Cc (lo 22 gG.2.2.2.2.1.length)) y4 (ak (Iv gG.2.2.2.1) y4 (ak (Cc (lo 22 gG.2.2.2.2.1.length)) y4 (ak (Iv gG.2.2.2.1) y4 (aN.bind fun oN BG => (je (LT.pJ Q Q iL BG) Q Q Q Q Q (gQ (LT.rE Q jR BG Q) Q Q Q Q (ak (Cc (lo 22 gG.2.2.2.2.1.length)) y4 (ak (Iv gG.2.2.1) y4 (aN.bind fun yu zW => ?_)))))))))))
      refine je (LT.pJ Q Q iL zW) Q Q Q Q Q (gQ (LT.rE Q jR zW Q) Q Q Q Q (aN.bind fun DI BH => (je (LT.pJ Q Q iL BH) Q Q Q Q Q (lW (LT.Wy (e := 37) (p := 23) Q Q (dK wF) qy BH Q) Q Q Q Q Q (aN.bind fun xQ PL => (je (LT.Ji Q Q iL PL) Q Q Q Q Q (lW (LT.aJ4 (e := 37) (p := 23) Q Q (dK wF) qy PL Q) Q Q Q Q Q (aN.nil (by kernel_rfl) (aC.ent (aO.aIs (enc := aH) (n := 22) (p := 23) (rows := gG.2.2.2.2.1) (jM zW) (jM BG) Q Q Q) (Ws (Wr ?_)))))))))))
      refine aF (Cc (lo 22 gG.2.2.2.2.1.length)) y4 (aF (Iv gG.2.2.1) y4 (aQ fun aCU PN => (iK (LT.pJ (show gG.2.2.2.2.1.length = ((gG.2.2.2.2.1.set gG.2.2.1.toNat oN).set gG.2.2.2.1.toNat yu).length by simp only [List.length_set]) Q iL PN) Q Q Q Q Q (bf (LT.rE Q jR PN Q) Q Q Q Q (aF (Iv gG.2.1) y4 (aQ fun Ny Kt => (iK (LT.Ce Q Q dR (jM PN) Kt) Q Q Q Q Q (bf (LT.FN (enc := aH) (j := 0) Q ay (jM PN) Kt (by exact Q) (by exact Q)) Q Q Q Q (aJ (Iv Ny) y4 (On (Ws (Ws (Wr ?_)))))))))))))
      refine aF (Cc (lo 22 gG.2.2.2.2.1.length)) y4 (aS (LT.jg Q gy) Q Q Q (aF (Iv 0) aX (On (aC.block ?_))))
      refine aC.iW (id := 4) (EX columns) (fun bg => ([(1,Iv columns),(7,Cc (lo 22 bg.2.2.2.2.2.2.2.length)),(8,Cc (lo 24 bg.2.2.2.2.2.2.1.length)),(9,Iv bg.2.1),(10,Iv bg.2.2.1),(11,Iv bg.2.2.2.1),(13,Iv bg.2.2.2.2.1),(77,Iv bg.2.2.2.2.2.1),(78,Iv bg.1)],[(22,.ax 37 23 (af bg.2.2.2.2.2.2.2)),(23,.pool 3 (rowsOf aH bg.2.2.2.2.2.2.2)),(24,pR 3 aH bg.2.2.2.2.2.2.1)])) (fun kC => ([(1,Iv columns),(7,Cc (lo 22 kC.2.2.1.length)),(8,Cc (lo 24 kC.2.2.2.length)),(10,Iv kC.1),(13,Iv kC.2.1)],[(22,.ax 37 23 (af kC.2.2.1)),(23,.pool 3 (rowsOf aH kC.2.2.1)),(24,pR 3 aH kC.2.2.2)])) ?_ (aO.of ⟨Q,congrArg (fun l1 => (some (AV.s (.c (lo 22 l1))) : Option AV)) (show gG.2.2.2.2.1.length = ((gG.2.2.2.2.1.set gG.2.2.1.toNat oN).set gG.2.2.2.1.toNat yu).length by simp only [List.length_set]),Q,Q,Q,Q,Q,Q,Q,J⟩ z3) Q (fun kC _ => ?_)
      ·intro bg
       unfold EX
       refine Ws (Wr ?_)
       refine aT LT.lss y5 (On (Ws ?_))
       refine aC.cond Q (fun Ti => ?_) (fun Ti => ?_)
       ·refine aC.skip (Ws (aC.block (Ws (Wr ?_))))
        refine aF (Iv bg.1) y4 (aJ (Iv bg.1) y4 (On (Ws (Ws (Wr ?_)))))
        refine aF (Iv bg.1) y4 (aF (Iv bg.2.2.2.1) y4 (aT LT.eql y5 (On (aC.cond Q (fun aEe => ?_) (fun aEe => ?_)))))
        ·refine aC.exit Q (Wr ?_)
         refine aT LT.add aU (aF (Iv (aA (bg.1 + 1))) y4 (On (aW Q z9 z3)))
        ·refine aC.skip (Ws (Wr ?_))
         refine aF (Cc (lo 22 bg.2.2.2.2.2.2.2.length)) y4 (aF (Iv bg.1) y4 (aQ fun aCW PO => (iK (LT.pJ Q Q iL PO) Q Q Q Q Q (bf (LT.rE Q jR PO Q) Q Q Q Q (aF (Iv bg.2.2.1) y4 (aQ fun rC Ku => (iK (LT.Ce Q Q dR (jM PO) Ku) Q Q Q Q Q (bf (LT.FN (enc := aH) (j := 0) Q ay (jM PO) Ku (by exact Q) (by exact Q)) Q Q Q Q (aJ (Iv rC) y4 (On (Ws ?_)))))))))))
         refine en [(1,Iv columns),(7,Cc (lo 22 bg.2.2.2.2.2.2.2.length)),(8,Cc (lo 24 bg.2.2.2.2.2.2.1.length)),(9,Iv bg.2.1),(10,Iv bg.2.2.1),(11,Iv bg.2.2.2.1),(13,Iv bg.2.2.2.2.1),(14,Iv bg.1),(15,Iv rC),(77,Iv bg.2.2.2.2.2.1),(78,Iv bg.1)] [(22,.ax 37 23 (af bg.2.2.2.2.2.2.2)),(23,.pool 3 (rowsOf aH bg.2.2.2.2.2.2.2)),(24,pR 3 aH bg.2.2.2.2.2.2.1)] z11 z3 (Wr (aF (Iv columns) y4 (aF (Iv 0) aX (On (aC.block ?_)))))
         refine aC.iW (id := 6) (IA columns bg rC) (fun jy => ([(1,Iv columns),(7,Cc (lo 22 jy.2.length)),(8,Cc (lo 24 bg.2.2.2.2.2.2.1.length)),(9,Iv bg.2.1),(10,Iv bg.2.2.1),(11,Iv bg.2.2.2.1),(13,Iv bg.2.2.2.2.1),(14,Iv bg.1),(15,Iv rC),(77,Iv bg.2.2.2.2.2.1),(78,Iv bg.1),(91,Iv columns),(92,Iv jy.1)],[(22,.ax 37 23 (af jy.2)),(23,.pool 3 (rowsOf aH jy.2)),(24,pR 3 aH bg.2.2.2.2.2.2.1)])) (fun oV => ([(1,Iv columns),(7,Cc (lo 22 oV.2.2.2.2.2.2.1.length)),(8,Cc (lo 24 oV.2.2.2.2.2.2.2.length)),(9,Iv oV.1),(10,Iv oV.2.1),(11,Iv oV.2.2.1),(13,Iv oV.2.2.2.1),(77,Iv oV.2.2.2.2.1),(78,Iv oV.2.2.2.2.2.1)],[(22,.ax 37 23 (af oV.2.2.2.2.2.2.1)),(23,.pool 3 (rowsOf aH oV.2.2.2.2.2.2.1)),(24,pR 3 aH oV.2.2.2.2.2.2.2)])) ?_ (aO.of z13 z3) Q (fun oV _ => ?_)
         ·intro jy
          unfold IA
          refine Ws (Wr ?_)
          refine aT LT.lss y5 (On (Ws ?_))
          refine aC.cond Q (fun aEf => ?_) (fun aEf => ?_)
          ·refine aC.skip (Ws (aC.block (Ws (Wr ?_))))
           refine aF (Iv jy.1) y4 (aJ (Iv jy.1) y4 (On (aC.draw mixed ?_)))
           refine ak (Cc (lo 22 jy.2.length)) y4 (ak (Iv bg.1) y4 (aN.bind fun FY Kv => (je (LT.pJ Q Q iL Kv) Q Q Q Q Q (gQ (LT.rE Q jR Kv Q) Q Q Q Q (ak (Iv jy.1) y4 (ak (Iv bg.2.2.2.2.1) y4 (ak (Cc (lo 22 jy.2.length)) y4 (ak (Iv bg.1) y4 (aN.bind fun aCX PS => (je (LT.pJ Q Q iL PS) Q Q Q Q Q (gQ (LT.rE Q jR PS Q) Q Q Q Q ?_)))))))))))
           refine ak (Iv jy.1) y4 (aN.bind fun DJ ZQ => (je (LT.Ce Q Q dR (jM PS) ZQ) Q Q Q Q Q (gQ (LT.FN (enc := aH) (j := 0) Q ay (jM PS) ZQ (by exact Q) (by exact Q)) Q Q Q Q (iE LT.mul y5 (ak (Iv rC) y4 (ak (Cc (lo 22 jy.2.length)) y4 (ak (Iv bg.2.2.2.1) y4 (aN.bind fun aCY PU => (je (LT.pJ Q Q iL PU) Q Q Q Q Q (gQ (LT.rE Q jR PU Q) Q Q Q Q (ak (Iv jy.1) y4 ?_)))))))))))
           refine aN.bind fun DK ZR => (je (LT.Ce Q Q dR (jM PU) ZR) Q Q Q Q Q (gQ (LT.FN (enc := aH) (j := 0) Q ay (jM PU) ZR (by exact Q) (by exact Q)) Q Q Q Q (iE LT.mul y5 (iE LT.sub y5 (ak (Iv bg.2.1) y4 (aN.bind fun aI4 aGC => (dJ (LT.quo Q (uq aGC)) Q Q Q Q (aN.bind fun aJ0 ZT => (je (LT.Ce Q Q dR (jM Kv) ZT) Q Q Q Q Q (lW (LT.aIr (enc := aH) (j := 0) (b' := (aA (Int.tdiv (aA ((aA (bg.2.2.2.2.1 * DJ)) - (aA (rC * DK)))) bg.2.1))) (v := (.int .i64 (aA (Int.tdiv (aA ((aA (bg.2.2.2.2.1 * DJ)) - (aA (rC * DK)))) bg.2.1)))) 25 Q Q (dK nI) fM Q (jM Kv) ZT (by exact Q) (by exact K Q) (by exact Q) Q) Q Q Q Q Q (aN.nil (by kernel_rfl) ?_)))))))))))
           refine aC.ent (aO.lens (n := 22) (aHH (r' := (FY.set jy.1.toNat (aA (Int.tdiv (aA ((aA (bg.2.2.2.2.1 * DJ)) - (aA (rC * DK)))) bg.2.1)))) (jM Kv) (List.length_set ..)) Q) (aC.blk (en [(1,Iv columns),(7,Cc (lo 22 jy.2.length)),(8,Cc (lo 24 bg.2.2.2.2.2.2.1.length)),(9,Iv bg.2.1),(10,Iv bg.2.2.1),(11,Iv bg.2.2.2.1),(13,Iv bg.2.2.2.2.1),(14,Iv bg.1),(15,Iv rC),(77,Iv bg.2.2.2.2.2.1),(78,Iv bg.1),(91,Iv columns),(92,Iv jy.1)] [(22,.ax 37 23 (af (jy.2.set bg.1.toNat (FY.set jy.1.toNat (aA (Int.tdiv (aA ((aA (bg.2.2.2.2.1 * DJ)) - (aA (rC * DK)))) bg.2.1)))))),(23,.pool 3 (rowsOf aH (jy.2.set bg.1.toNat (FY.set jy.1.toNat (aA (Int.tdiv (aA ((aA (bg.2.2.2.2.1 * DJ)) - (aA (rC * DK)))) bg.2.1)))))),(24,pR 3 aH bg.2.2.2.2.2.2.1)] z13 z3 (Wr (aT LT.add aU (aF (Iv (aA (jy.1 + 1))) y4 (On (aC.nil ⟨Q,aO.of ⟨Q,congrArg (fun l1 => (some (AV.s (.c (lo 22 l1))) : Option AV)) (show jy.2.length = (jy.2.set bg.1.toNat (FY.set jy.1.toNat (aA (Int.tdiv (aA ((aA (bg.2.2.2.2.1 * DJ)) - (aA (rC * DK)))) bg.2.1)))).length by simp only [List.length_set]),Q,Q,Q,Q,Q,Q,Q,Q,Q,Q,Q,J⟩ z3⟩)))))))
          ·refine aC.eF Q ⟨Q,aO.of z9 z3⟩
         ·refine aC.blk (Wr ?_)
          refine aT LT.add aU (aF (Iv (aA (oV.2.2.2.2.2.1 + 1))) y4 (On (aW Q z9 z3)))
       ·refine aC.eF Q ⟨Q,aO.of z5 z3⟩
      ·refine Ws (Wr ?_)
       refine aF (Cc (lo 24 kC.2.2.2.length)) y4 (aF (Iv kC.1) y4 (fK (LT.fZ (n := 26) (enc := aH) [(0,.tmp 125,.c (iC kC.1))] ([kC.1] : List Int) Q Q bZ eu Q Q Q Q (by decide) (fun _ => Q) Q) Q Q Q (aQ fun aI5 aGD => (nS (LT.lI (enc := aH) Q Q Q bZ eu Q (by decide) (by decide) (fun _ => Q) (jU aGD)) Q Q Q Q Q Q (aJ (Cc (lo 24 ((kC.2.2.2 ++ ([kC.1] : List Int)).length))) y4 (On (Wr ?_)))))))
       refine aF (Iv kC.2.1) y4 (aJ (Iv kC.2.1) y4 (On (aC.blk ?_)))
       refine en [(1,Iv columns),(7,Cc (lo 22 kC.2.2.1.length)),(8,Cc (lo 24 ((kC.2.2.2 ++ ([kC.1] : List Int)).length))),(9,Iv kC.2.1),(10,Iv kC.1)] [(22,.ax 37 23 (af kC.2.2.1)),(23,.pool 3 (rowsOf aH kC.2.2.1)),(24,pR 3 aH (kC.2.2.2 ++ ([kC.1] : List Int)))] z5 z3 (Wr (aF (Iv kC.1) y4 (aT LT.add aU (aJ (Iv (aA (kC.1 + 1))) y4 (On (aW Q z5 z3))))))
   ·refine aC.eF Q ⟨Q,aO.of z3 z3⟩
 ·refine Ws (Wr ?_)
  refine aF (Cc (lo 22 lN.2.1.length)) y4 (aF (Cc (lo 24 lN.2.2.length)) y4 (aF (Iv lN.1) y4 (aJ (Cc (lo 22 lN.2.1.length)) y4 (aJ (Cc (lo 24 lN.2.2.length)) y4 (aJ (Iv lN.1) y4 (On (en [(4,Cc (lo 22 lN.2.1.length)),(5,Cc (lo 24 lN.2.2.length)),(6,Iv lN.1)] [(22,.ax 37 23 (af lN.2.1)),(23,.pool 3 (rowsOf aH lN.2.1)),(24,pR 3 aH lN.2.2)] z3 z3 (aC.ent (aO.mv 22 0 Q Q) (aC.ent (aO.mv 24 2 Q Q) (aC.ent (aO.mv 23 1 Q Q) (en [(4,Cc (lo 0 lN.2.1.length)),(5,Cc (lo 2 lN.2.2.length)),(6,Iv lN.1)] [(0,.ax 37 1 (af lN.2.1)),(1,.pool 3 (rowsOf aH lN.2.1)),(2,pR 3 aH lN.2.2)] z3 z3 ?_)))))))))))
  refine aC.ret (aj.mk (.inr Q) z3 z3 Q ⟨J,J,au.sc,J⟩ ⟨J,dG.xK jb _,dG.gm jb,J⟩)
theorem WX (x : Int) : FT Try.prog (EU x) 191 [.c (iC x)] [] (fun (t : Bool) => [.c (bC t)]) (fun (t : Bool) => []) [] := by
 refine FT.of [] Try.func191 Try.ntmps191 Q y2 ?_
 intro w0 U0 R0 g0
 unfold EU
 refine Ws (Wr ?_)
 refine aJ (Bv false) aX (On (Ws ?_))
 refine aC.fC (fun j2 => ([(2,Bv j2)],[])) ?_ (fun j2 _ => ?_)
 ·refine Wr (aF (Iv x) y4 (aT LT.gtr aU (aF (Bv (decide (9000000000000000000 < x))) y4 (aP.split (fun hb3 => ?_) (fun hb3 => ?_)))))
  ·refine aV hb3 y5 (aV hb3 y5 (dh (Bv true) hb3 aU (aJ (Bv true) y4 (On (aW Q z1 J)))))
  ·refine gW (Iv x) hb3 y5 (iT LT.lss hb3 kE (gY (Bv (decide (x < (-9000000000000000000)))) hb3 y5 (aJ (Bv (decide (x < (-9000000000000000000)))) y4 (On (aW Q z1 J)))))
 ·refine aC.ret (aj.mk (.inr Q) z1 J Q ⟨au.sc,J⟩ J)
theorem aJG (a : Int) (b : Int) : FT Try.prog (Lh a b) 192 [.c (iC a),.c (iC b)] [] (fun (t : Int) => [.c (iC t)]) (fun (t : Int) => []) [] := by
 refine FT.of [] Try.func192 Try.ntmps192 Q y2 ?_
 intro w0 U0 R0 g0
 unfold Lh
 refine Ws (Wr ?_)
 refine aJ (Iv 0) aX (On (Ws (Ws ?_)))
 refine aC.fC (fun j4 => ([(0,Iv a),(1,Iv b),(10,Bv j4)],[])) ?_ (fun j4 _ => ?_)
 ·refine Wr (aF (Iv a) y4 (aQ fun r5 vV => (aP.pure (bQ [.c (iC a)] (WX a r5 vV) SC (lu Q) J y3) z2 J Q Q (aF (Bv r5) y4 (aP.split (fun hb6 => ?_) (fun hb6 => ?_))))))
  ·refine aV hb6 y5 (aV hb6 y5 (dh (Bv true) hb6 aU (On (aW Q z3 J))))
  ·refine gW (Iv b) hb6 y5 (aQ fun r7 tY => (aP.pure (bQ [.c (iC b)] (WX b r7 tY) SC (lu Q) J y3) z2 J (gH hb6 Q Q) Q (gY (Bv r7) hb6 y5 (On (aW Q z3 J)))))
 ·refine aC.cond Q (fun hc8 => ?_) (fun hc8 => ?_)
  ·refine Ws (Wr ?_)
   refine aJ (Iv 0) aX (On (aC.ret (aj.mk (.inr Q) z1 J Q ⟨au.sc,J⟩ J)))
  ·refine aC.skip (Ws (Wr ?_))
   refine aF (Iv a) y4 (aF (Iv a) y4 (aS (LT.neg Q) Q Q Q (aT LT.max y5 (aF (Iv b) y4 (aF (Iv b) y4 (aS (LT.neg Q) Q Q Q (aT LT.max y5 (aJ (Iv (if a < (aA (-a)) then (aA (-a)) else a)) y4 (aJ (Iv (if b < (aA (-b)) then (aA (-b)) else b)) y4 (On (Ws (aC.block ?_))))))))))))
   refine aC.iW (id := 0) Lj (fun s9 => ([(0,Iv s9.1),(1,Iv s9.2)],[])) (fun b14 => ([(0,Iv b14)],[])) ?_ (aO.of z2 J) Q (fun b14 _ => ?_)
   ·intro s9
    unfold Lj
    refine Ws (Ws (Wr ?_))
    refine aF (Iv s9.2) y4 (aT LT.neq aU (On (aC.cond Q (fun KF => ?_) (fun KF => ?_))))
    ·refine aC.skip (aC.block (aC.draw mixed ?_))
     refine ak (Iv s9.2) y4 (ak (Iv s9.1) y4 (ak (Iv s9.2) y4 (aN.bind fun u16 Ue => (dJ (LT.rem Q (uq Ue)) Q Q Q Q (bJ (LT.assign (v := (Iv s9.2)) Q) Q Q Q (bJ (LT.assign (v := (Iv (Int.tmod s9.1 s9.2))) Q) Q Q Q (aN.nil (by kernel_rfl) (aC.blk (aW Q z2 J)))))))))
    ·refine aC.eF Q ⟨Q,aO.of z1 J⟩
   ·refine Ws (Wr ?_)
    refine aF (Iv b14) y4 (aJ (Iv b14) y4 (On (aC.ret (aj.mk (.inr Q) z1 J Q ⟨au.sc,J⟩ J))))
theorem aJJ (v : (List Int)) : FT Try.prog (Lm v) 160 [.c (xF aH v)] [] (fun (t : (List Int)) => [.c (lo 0 t.length)]) (fun (t : (List Int)) => [(0,pR 3 aH t)]) [0] := by
 refine FT.of [] Try.func160 Try.ntmps160 Q y2 ?_
 intro w0 U0 R0 g0
 unfold Lm
 refine Ws (Wr ?_)
 refine aJ (Cc (sC ah)) aX (On (Ws (Wr ?_)))
 refine aF (Cc (xF aH v)) y4 (aQ fun r1 hr1 => (aP.step (bQ [.c (xF aH v)] (Fw.Fn.ren [(0,22)] (WW v r1 hr1) Q) SN (lu Q) J y3) z2 J Q Q (aJ (Cc (lo 22 r1.length)) y4 (On (Ws (Wr ?_))))))
 refine aJ (Iv 0) aX (aJ (Iv 0) aX (On (Ws (Ws (Wr ?_)))))
 refine aF (Cc (xF aH v)) y4 (aS (LT.fA Q bZ) Q Q Q (aF (Iv 0) aX (On (aC.block ?_))))
 refine aC.nV (id := 0) (He v r1) (fun s2 => ([(3,Cc (lo 22 r1.length)),(4,Iv s2.1),(5,Iv s2.2.1),(11,Cc (xF aH v)),(12,Iv (v.length : Int)),(13,Iv s2.2.2)],[(22,pR 3 aH r1)])) (fun b19 => ([(3,Cc (lo 22 b19.2.2.length)),(4,Iv b19.1),(5,Iv b19.2.1)],[(22,pR 3 aH b19.2.2)])) (aj Try.prog Try.f160.results.toList [] [0] (fun (t : (List Int)) => [.c (lo 0 t.length)]) (fun (t : (List Int)) => [(0,pR 3 aH t)])) ?_ (aO.of z6 z1) Q (fun b19 _ => ?_) (by intro r t σ m ht hk; injection ht with ht; subst ht; exact hk)
 ·intro s2
  unfold He
  refine Ws (Wr ?_)
  refine aT LT.lss y5 (On (Ws ?_))
  refine aC.cond Q (fun Tf => ?_) (fun Tf => ?_)
  ·refine aC.skip (Ws (aC.block (Ws (Wr ?_))))
   refine aQ fun x21 yJ => (dY (LT.dH (enc := aH) Q dR yJ fM) Q Q Q Q (aS (LT.fO Q ay) Q Q Q (aJ (Iv x21) y4 (On (Ws (Ws (Wr ?_)))))))
   refine aF (Iv x21) y4 (aQ fun r22 KP => (aP.pure (bQ [.c (iC x21)] (WX x21 r22 KP) SC (lu Q) J y3) z2 J Q Q (On (aC.cond Q (fun aEd => ?_) (fun aEd => ?_)))))
   ·refine Ws (Wr ?_)
    refine aF (Cc (lo 22 r1.length)) y4 (aJ (Cc (lo 22 r1.length)) y4 (On (en [(2,Cc (lo 22 r1.length))] [(22,pR 3 aH r1)] z1 z1 (aC.ent (aO.mv 22 0 Q Q) (en [(2,Cc (lo 0 r1.length))] [(0,pR 3 aH r1)] z1 z1 (aC.ret ⟨Q,aj.mk (.inr Q) z1 z1 Q ⟨J,J⟩ ⟨dG.gm jb,J⟩⟩))))))
   ·refine aC.skip (Ws (Wr ?_))
    refine aF (Iv s2.1) y4 (aF (Iv x21) y4 (aQ fun JQ aFY => (aP.pure (bQ [.c (iC s2.1),.c (iC x21)] (aJG s2.1 x21 JQ aFY) aDG (ji y2) J y3) z3 J Q Q (aJ (Iv JQ) y4 (On (Ws (Wr ?_)))))))
    refine aF (Iv s2.2.1) y4 (aT LT.eql aU (On (aC.fC (fun j26 => ([(3,Cc (lo 22 r1.length)),(4,Iv JQ),(5,Iv j26),(11,Cc (xF aH v)),(12,Iv (v.length : Int)),(13,Iv s2.2.2)],[(22,pR 3 aH r1)])) ?_ (fun j26 _ => ?_))))
    ·refine aC.cond Q (fun hc27 => ?_) (fun hc27 => ?_)
     ·refine en [(3,Cc (lo 22 r1.length)),(4,Iv JQ),(7,Iv x21),(11,Cc (xF aH v)),(12,Iv (v.length : Int)),(13,Iv s2.2.2)] [(22,pR 3 aH r1)] z6 z1 (Wr (aF (Iv x21) y4 (aJ (Iv x21) y4 (On (aW Q z6 z1)))))
     ·refine aC.skip (aW Q z6 z1)
    ·refine aC.blk (Wr ?_)
     refine aT LT.add aU (aF (Iv (aA (s2.2.2 + 1))) y4 (On (aW Q z6 z1)))
  ·refine aC.eF Q ⟨Q,aO.of z3 z1⟩
 ·refine Ws (Ws (Wr ?_))
  refine aF (Iv b19.1) y4 (aT LT.eql aU (On (aC.cond Q (fun hc28 => ?_) (fun hc28 => ?_))))
  ·refine Ws (Wr ?_)
   refine aF (Cc (lo 22 b19.2.2.length)) y4 (aJ (Cc (lo 22 b19.2.2.length)) y4 (On (en [(2,Cc (lo 22 b19.2.2.length))] [(22,pR 3 aH b19.2.2)] z1 z1 (aC.ent (aO.mv 22 0 Q Q) (en [(2,Cc (lo 0 b19.2.2.length))] [(0,pR 3 aH b19.2.2)] z1 z1 (aC.ret (aj.mk (.inr Q) z1 z1 Q ⟨J,J⟩ ⟨dG.gm jb,J⟩)))))))
  ·refine aC.skip (Ws (Ws (Wr ?_)))
   refine aF (Iv b19.2.1) y4 (aT LT.lss aU (On (aC.fC (fun j30 => ([(3,Cc (lo 22 b19.2.2.length)),(4,Iv j30)],[(22,pR 3 aH b19.2.2)])) ?_ (fun j30 _ => ?_))))
   ·refine aC.cond Q (fun hc31 => ?_) (fun hc31 => ?_)
    ·refine Wr (aF (Iv b19.1) y4 (aS (LT.neg Q) Q Q Q (aJ (Iv (aA (-b19.1))) y4 (On (aW Q z2 z1)))))
    ·refine aC.skip (aW Q z2 z1)
   ·refine Ws (Ws (Wr ?_))
    refine aF (Cc (lo 22 b19.2.2.length)) y4 (aS (LT.jg Q bZ) Q Q Q (aF (Iv 0) aX (On (aC.block ?_))))
    refine aC.iW (id := 2) (Hf b19 j30) (fun lm => ([(3,Cc (lo 22 lm.2.length)),(4,Iv j30),(35,Iv (b19.2.2.length : Int)),(36,Iv lm.1)],[(22,pR 3 aH lm.2)])) (fun wZ => ([(3,Cc (lo 22 wZ.length))],[(22,pR 3 aH wZ)])) ?_ (aO.of z4 z1) Q (fun wZ _ => ?_)
    ·intro lm
     unfold Hf
     refine Ws (Wr ?_)
     refine aT LT.lss y5 (On (Ws ?_))
     refine aC.cond Q (fun Tm => ?_) (fun Tm => ?_)
     ·refine aC.skip (Ws (aC.block (Ws (Wr ?_))))
      refine aF (Iv lm.1) y4 (aJ (Iv lm.1) y4 (On (Wr ?_)))
      refine aF (Cc (lo 22 lm.2.length)) y4 (aF (Iv lm.1) y4 (aF (Cc (lo 22 lm.2.length)) y4 (aF (Iv lm.1) y4 (aQ fun x43 zY => (iK (LT.iG Q Q dR zY) Q Q Q Q Q (bf (LT.lU (k := 0) Q ay zY (by exact Q) (by exact Q)) Q Q Q Q (aF (Iv j30) y4 (aQ fun u44 KX => (dY (LT.quo Q (uq KX)) Q Q Q Q (aQ fun jY GZ => (iK (LT.iG Q Q dR GZ) Q Q Q Q Q ?_)))))))))))
      refine dU (LT.nN (k := 0) (v := (.c (iC (aA (Int.tdiv x43 j30))))) (b' := (aA (Int.tdiv x43 j30))) Q Q (dK nI) fM (by exact Q) GZ (by exact Q) (by exact K Q) (by exact Q)) Q Q Q Q Q (On (aC.blk ?_))
      refine en [(3,Cc (lo 22 lm.2.length)),(4,Iv j30),(35,Iv (b19.2.2.length : Int)),(36,Iv lm.1)] [(22,pR 3 aH (lm.2.set lm.1.toNat (aA (Int.tdiv x43 j30))))] z4 z1 (Wr (aT LT.add aU (aF (Iv (aA (lm.1 + 1))) y4 (On (aC.nil ⟨Q,aO.of ⟨congrArg (fun l1 => (some (AV.s (.c (lo 22 l1))) : Option AV)) (show lm.2.length = (lm.2.set lm.1.toNat (aA (Int.tdiv x43 j30))).length by simp only [List.length_set]),Q,Q,Q,J⟩ z1⟩)))))
     ·refine aC.eF Q ⟨Q,aO.of z1 z1⟩
    ·refine Ws (Wr ?_)
     refine aF (Cc (lo 22 wZ.length)) y4 (aJ (Cc (lo 22 wZ.length)) y4 (On (en [(2,Cc (lo 22 wZ.length))] [(22,pR 3 aH wZ)] z1 z1 (aC.ent (aO.mv 22 0 Q Q) (en [(2,Cc (lo 0 wZ.length))] [(0,pR 3 aH wZ)] z1 z1 (aC.ret (aj.mk (.inr Q) z1 z1 Q ⟨J,J⟩ ⟨dG.gm jb,J⟩)))))))
end Go.Proofs.Ytdmlaldifbmkpaa
end
