/- Parts of a proof that a law of the program holds: what the program computes, and why that is right. -/
import Derived.Test.YtdmlaldifbmkpaaProg
import Derived.Test.YtdmlaldifbmkpaaZFnFrameworks3
set_option linter.unusedVariables false
set_option linter.unusedSimpArgs false
set_option linter.unnecessarySimpa false
set_option maxRecDepth 100000
set_option maxHeartbeats 8000000
section
open Go Go.Fw
namespace Go.Proofs.Ytdmlaldifbmkpaa
section
theorem Q {α:Type} {a:α}:a = a:=rfl
theorem J:True:=trivial
theorem K {n m:Nat} (h:n.ble m = true):n ≤ m:=Nat.le_of_ble_eq_true h
section
variable {α0 α1 α2 α3 α4 α5 α6 α7 α8 α9 α10 α11 α12 α13 α14 α15:Type} {a0:α0} {a1:α1} {a2:α2} {a3:α3} {a4:α4} {a5:α5} {a6:α6} {a7:α7} {a8:α8} {a9:α9} {a10:α10} {a11:α11} {a12:α12} {Gi:α13} {P6:α14} {Ya:α15}
theorem z1:a0 = a0 ∧ True:=⟨rfl, trivial⟩
theorem z2:a0 = a0 ∧ a1 = a1 ∧ True:=⟨rfl, rfl, trivial⟩
theorem y2:a0 = a0 ∧ a1 = a1:=⟨rfl, rfl⟩
theorem z3:a0 = a0 ∧ a1 = a1 ∧ a2 = a2 ∧ True:=⟨rfl, rfl, rfl, trivial⟩
theorem y3:a0 = a0 ∧ a1 = a1 ∧ a2 = a2:=⟨rfl, rfl, rfl⟩
theorem z4:a0 = a0 ∧ a1 = a1 ∧ a2 = a2 ∧ a3 = a3 ∧ True:=⟨rfl, rfl, rfl, rfl, trivial⟩
theorem y4:a0 = a0 ∧ a1 = a1 ∧ a2 = a2 ∧ a3 = a3:=⟨rfl, rfl, rfl, rfl⟩
theorem z5:a0 = a0 ∧ a1 = a1 ∧ a2 = a2 ∧ a3 = a3 ∧ a4 = a4 ∧ True:=⟨rfl, rfl, rfl, rfl, rfl, trivial⟩
theorem z6:a0 = a0 ∧ a1 = a1 ∧ a2 = a2 ∧ a3 = a3 ∧ a4 = a4 ∧ a5 = a5 ∧ True:=⟨rfl, rfl, rfl, rfl, rfl, rfl, trivial⟩
theorem z7:a0 = a0 ∧ a1 = a1 ∧ a2 = a2 ∧ a3 = a3 ∧ a4 = a4 ∧ a5 = a5 ∧ a6 = a6 ∧ True:=⟨rfl, rfl, rfl, rfl, rfl, rfl, rfl, trivial⟩
theorem z8:a0 = a0 ∧ a1 = a1 ∧ a2 = a2 ∧ a3 = a3 ∧ a4 = a4 ∧ a5 = a5 ∧ a6 = a6 ∧ a7 = a7 ∧ True:=⟨rfl, rfl, rfl, rfl, rfl, rfl, rfl, rfl, trivial⟩
theorem z9:a0 = a0 ∧ a1 = a1 ∧ a2 = a2 ∧ a3 = a3 ∧ a4 = a4 ∧ a5 = a5 ∧ a6 = a6 ∧ a7 = a7 ∧ a8 = a8 ∧ True:=⟨rfl, rfl, rfl, rfl, rfl, rfl, rfl, rfl, rfl, trivial⟩
theorem z11:a0 = a0 ∧ a1 = a1 ∧ a2 = a2 ∧ a3 = a3 ∧ a4 = a4 ∧ a5 = a5 ∧ a6 = a6 ∧ a7 = a7 ∧ a8 = a8 ∧ a9 = a9 ∧ a10 = a10 ∧ True:=⟨rfl, rfl, rfl, rfl, rfl, rfl, rfl, rfl, rfl, rfl, rfl, trivial⟩
theorem z12:a0 = a0 ∧ a1 = a1 ∧ a2 = a2 ∧ a3 = a3 ∧ a4 = a4 ∧ a5 = a5 ∧ a6 = a6 ∧ a7 = a7 ∧ a8 = a8 ∧ a9 = a9 ∧ a10 = a10 ∧ a11 = a11 ∧ True:=⟨rfl, rfl, rfl, rfl, rfl, rfl, rfl, rfl, rfl, rfl, rfl, rfl, trivial⟩
theorem z13:a0 = a0 ∧ a1 = a1 ∧ a2 = a2 ∧ a3 = a3 ∧ a4 = a4 ∧ a5 = a5 ∧ a6 = a6 ∧ a7 = a7 ∧ a8 = a8 ∧ a9 = a9 ∧ a10 = a10 ∧ a11 = a11 ∧ a12 = a12 ∧ True:=⟨rfl, rfl, rfl, rfl, rfl, rfl, rfl, rfl, rfl, rfl, rfl, rfl, rfl, trivial⟩
theorem z14:a0 = a0 ∧ a1 = a1 ∧ a2 = a2 ∧ a3 = a3 ∧ a4 = a4 ∧ a5 = a5 ∧ a6 = a6 ∧ a7 = a7 ∧ a8 = a8 ∧ a9 = a9 ∧ a10 = a10 ∧ a11 = a11 ∧ a12 = a12 ∧ Gi = Gi ∧ True:=⟨rfl, rfl, rfl, rfl, rfl, rfl, rfl, rfl, rfl, rfl, rfl, rfl, rfl, rfl, trivial⟩
theorem z15:a0 = a0 ∧ a1 = a1 ∧ a2 = a2 ∧ a3 = a3 ∧ a4 = a4 ∧ a5 = a5 ∧ a6 = a6 ∧ a7 = a7 ∧ a8 = a8 ∧ a9 = a9 ∧ a10 = a10 ∧ a11 = a11 ∧ a12 = a12 ∧ Gi = Gi ∧ P6 = P6 ∧ True:=⟨rfl, rfl, rfl, rfl, rfl, rfl, rfl, rfl, rfl, rfl, rfl, rfl, rfl, rfl, rfl, trivial⟩
theorem z16:a0 = a0 ∧ a1 = a1 ∧ a2 = a2 ∧ a3 = a3 ∧ a4 = a4 ∧ a5 = a5 ∧ a6 = a6 ∧ a7 = a7 ∧ a8 = a8 ∧ a9 = a9 ∧ a10 = a10 ∧ a11 = a11 ∧ a12 = a12 ∧ Gi = Gi ∧ P6 = P6 ∧ Ya = Ya ∧ True:=⟨rfl, rfl, rfl, rfl, rfl, rfl, rfl, rfl, rfl, rfl, rfl, rfl, rfl, rfl, rfl, rfl, trivial⟩
theorem aP:a0 = a0 ∧ a1 = a1 ∧ (a2 = a2 ∧ a3 = a3) ∧ a4 = a4 ∧ a5 = a5:=⟨rfl, rfl, ⟨rfl, rfl⟩, rfl, rfl⟩
theorem kY:a0 = a0 ∧ a1 = a1 ∧ (a2 = a2 ∧ a3 = a3) ∧ a4 = a4 ∧ a5 = a5 ∧ a6 = a6:=⟨rfl, rfl, ⟨rfl, rfl⟩, rfl, rfl, rfl⟩
theorem ak:a0 = a0 ∧ (a1 = a1 ∧ a2 = a2) ∧ a3 = a3 ∧ a4 = a4:=⟨rfl, ⟨rfl, rfl⟩, rfl, rfl⟩
theorem oQ:a0 = a0 ∧ (a1 = a1 ∧ a2 = a2) ∧ a3 = a3 ∧ a4 = a4 ∧ a5 = a5:=⟨rfl, ⟨rfl, rfl⟩, rfl, rfl, rfl⟩
theorem bI:a0 = a0 ∧ a1 = a1 ∧ a2 = a2 ∧ a3 = a3 ∧ a4 = a4 ∧ a5 = a5 ∧ a6 = a6 ∧ a7 = a7 ∧ a8 = a8 ∧ a9 = a9:=⟨rfl, rfl, rfl, rfl, rfl, rfl, rfl, rfl, rfl, rfl⟩
theorem gm:a0 = a0 ∧ a1 = a1 ∧ a2 = a2 ∧ a3 = a3 ∧ a4 = a4 ∧ a5 = a5 ∧ a6 = a6 ∧ a7 = a7 ∧ a8 = a8 ∧ a9 = a9 ∧ a10 = a10 ∧ a11 = a11:=⟨rfl, rfl, rfl, rfl, rfl, rfl, rfl, rfl, rfl, rfl, rfl, rfl⟩
theorem y5:a0 = a0 ∧ a1 = a1 ∧ a2 = a2 ∧ a3 = a3 ∧ a4 = a4:=⟨rfl, rfl, rfl, rfl, rfl⟩
theorem y6:a0 = a0 ∧ a1 = a1 ∧ a2 = a2 ∧ a3 = a3 ∧ a4 = a4 ∧ a5 = a5:=⟨rfl, rfl, rfl, rfl, rfl, rfl⟩
theorem y7:a0 = a0 ∧ a1 = a1 ∧ a2 = a2 ∧ a3 = a3 ∧ a4 = a4 ∧ a5 = a5 ∧ a6 = a6:=⟨rfl, rfl, rfl, rfl, rfl, rfl, rfl⟩
end
theorem iF {sh:Mem} {x0:CV} (h:cO (keys sh) x0 = x0):qI sh [.c x0] [.c x0]:=.cons (.c (.same h)) .nil
theorem jG {sh:Mem} {x0 x1:CV} (h:cO (keys sh) x0 = x0 ∧ cO (keys sh) x1 = x1):qI sh [.c x0, .c x1] [.c x0, .c x1]:=.cons (.c (.same h.1)) (.cons (.c (.same h.2)) .nil)
theorem vV {sh:Mem} {x0 x1 x2:CV} (h:cO (keys sh) x0 = x0 ∧ cO (keys sh) x1 = x1 ∧ cO (keys sh) x2 = x2):qI sh [.c x0, .c x1, .c x2] [.c x0, .c x1, .c x2]:=.cons (.c (.same h.1)) (.cons (.c (.same h.2.1)) (.cons (.c (.same h.2.2)) .nil))
theorem aJY {sh:Mem} {x0 x1 x2 x3 x4:CV} (h:cO (keys sh) x0 = x0 ∧ cO (keys sh) x1 = x1 ∧ cO (keys sh) x2 = x2 ∧ cO (keys sh) x3 = x3 ∧ cO (keys sh) x4 = x4):qI sh [.c x0, .c x1, .agg [x2, x3], .c x4] [.c x0, .c x1, .agg [x2, x3], .c x4]:=.cons (.c (.same h.1)) (.cons (.c (.same h.2.1)) (.cons (.agg (.cons (.same h.2.2.1) (.cons (.same h.2.2.2.1) .nil))) (.cons (.c (.same h.2.2.2.2)) .nil)))
theorem qV {sh:Mem} {x0 x1:CV} (h:cO (keys sh) x0 = x0 ∧ cO (keys sh) x1 = x1):qI sh [.agg [x0, x1]] [.agg [x0, x1]]:=.cons (.agg (.cons (.same h.1) (.cons (.same h.2) .nil))) .nil
theorem aJZ {sh:Mem} {x0 x1 x2:CV} (h:cO (keys sh) x0 = x0 ∧ cO (keys sh) x1 = x1 ∧ cO (keys sh) x2 = x2):qI sh [.agg [x0, x1], .c x2] [.agg [x0, x1], .c x2]:=.cons (.agg (.cons (.same h.1) (.cons (.same h.2.1) .nil))) (.cons (.c (.same h.2.2)) .nil)
theorem DX {sh:Mem} {x0 x1 x2 x3:CV} (h:cO (keys sh) x0 = x0 ∧ cO (keys sh) x1 = x1 ∧ cO (keys sh) x2 = x2 ∧ cO (keys sh) x3 = x3):qI sh [.agg [x0, x1], .agg [x2, x3]] [.agg [x0, x1], .agg [x2, x3]]:=.cons (.agg (.cons (.same h.1) (.cons (.same h.2.1) .nil))) (.cons (.agg (.cons (.same h.2.2.1) (.cons (.same h.2.2.2) .nil))) .nil)
theorem DY {sh:Mem} {x0 x1 x2 x3 x4 x5:CV} (h:cO (keys sh) x0 = x0 ∧ cO (keys sh) x1 = x1 ∧ cO (keys sh) x2 = x2 ∧ cO (keys sh) x3 = x3 ∧ cO (keys sh) x4 = x4 ∧ cO (keys sh) x5 = x5):qI sh [.agg [x0, x1], .agg [x2, x3], .agg [x4, x5]] [.agg [x0, x1], .agg [x2, x3], .agg [x4, x5]]:=.cons (.agg (.cons (.same h.1) (.cons (.same h.2.1) .nil))) (.cons (.agg (.cons (.same h.2.2.1) (.cons (.same h.2.2.2.1) .nil))) (.cons (.agg (.cons (.same h.2.2.2.2.1) (.cons (.same h.2.2.2.2.2) .nil))) .nil))
theorem jd {sh:Mem} {x0 x1 x2:CV} (h:cO (keys sh) x0 = x0 ∧ cO (keys sh) x1 = x1 ∧ cO (keys sh) x2 = x2):qI sh [.agg [x0, x1, x2]] [.agg [x0, x1, x2]]:=.cons (.agg (.cons (.same h.1) (.cons (.same h.2.1) (.cons (.same h.2.2) .nil)))) .nil
theorem aCR {sh:Mem} {x0 x1 x2 x3:CV} (h:cO (keys sh) x0 = x0 ∧ cO (keys sh) x1 = x1 ∧ cO (keys sh) x2 = x2 ∧ cO (keys sh) x3 = x3):qI sh [.agg [x0, x1, x2], .c x3] [.agg [x0, x1, x2], .c x3]:=.cons (.agg (.cons (.same h.1) (.cons (.same h.2.1) (.cons (.same h.2.2.1) .nil)))) (.cons (.c (.same h.2.2.2)) .nil)
theorem aCS {sh:Mem} {x0 x1 x2 x3 x4:CV} (h:cO (keys sh) x0 = x0 ∧ cO (keys sh) x1 = x1 ∧ cO (keys sh) x2 = x2 ∧ cO (keys sh) x3 = x3 ∧ cO (keys sh) x4 = x4):qI sh [.agg [x0, x1, x2], .c x3, .c x4] [.agg [x0, x1, x2], .c x3, .c x4]:=.cons (.agg (.cons (.same h.1) (.cons (.same h.2.1) (.cons (.same h.2.2.1) .nil)))) (.cons (.c (.same h.2.2.2.1)) (.cons (.c (.same h.2.2.2.2)) .nil))
abbrev ay (x:aW):List CV:=[(iC x.Graph.aF), (xF aK x.Graph.aA), (xF aJ x.Places)]
abbrev fM (x:dJ):List CV:=[(xT bn x.b), (iC x.i), (iC x.h)]
abbrev dI (x:bM):List CV:=[(iC x.aF), (xF aK x.aA)]
theorem Yf:kZ Try.prog 22 = some false:=by kernel_rfl
theorem iQ:kZ Try.prog 24 = some false:=by kernel_rfl
theorem iI:kZ Try.prog 26 = some true:=by kernel_rfl
theorem fV:kZ Try.prog 27 = some false:=by kernel_rfl
theorem bP:kZ Try.prog 29 = some true:=by kernel_rfl
theorem bK:kZ Try.prog 3 = some false:=by kernel_rfl
theorem uN:kZ Try.prog 37 = some false:=by kernel_rfl
theorem P7:kZ Try.prog 5 = some false:=by kernel_rfl
theorem gI:kZ Try.prog 82 = some true:=by kernel_rfl
theorem o7:kZ Try.prog 9 = some false:=by kernel_rfl
theorem lU:kZ Try.prog 96 = some true:=by kernel_rfl
theorem KU:dL Try.prog 104 = true:=by kernel_rfl
theorem QD:dL Try.prog 107 = true:=by kernel_rfl
theorem Ud:dL Try.prog 112 = true:=by kernel_rfl
theorem EF:dL Try.prog 115 = true:=by kernel_rfl
theorem aDz:dL Try.prog 118 = true:=by kernel_rfl
theorem uO:dL Try.prog 12 = true:=by kernel_rfl
theorem Yv:dL Try.prog 124 = true:=by kernel_rfl
theorem aD0:dL Try.prog 125 = true:=by kernel_rfl
theorem aD1:dL Try.prog 126 = true:=by kernel_rfl
theorem Yw:dL Try.prog 127 = true:=by kernel_rfl
theorem Yx:dL Try.prog 128 = true:=by kernel_rfl
theorem QE:dL Try.prog 129 = true:=by kernel_rfl
theorem Yy:dL Try.prog 130 = true:=by kernel_rfl
theorem Yz:dL Try.prog 131 = true:=by kernel_rfl
theorem Y0:dL Try.prog 132 = true:=by kernel_rfl
theorem aD2:dL Try.prog 133 = true:=by kernel_rfl
theorem aD3:dL Try.prog 134 = true:=by kernel_rfl
theorem aD4:dL Try.prog 135 = true:=by kernel_rfl
theorem Y1:dL Try.prog 136 = true:=by kernel_rfl
theorem Gq:dL Try.prog 137 = true:=by kernel_rfl
theorem QF:dL Try.prog 138 = true:=by kernel_rfl
theorem aD5:dL Try.prog 139 = true:=by kernel_rfl
theorem aD6:dL Try.prog 140 = true:=by kernel_rfl
theorem aD7:dL Try.prog 141 = true:=by kernel_rfl
theorem KW:dL Try.prog 142 = true:=by kernel_rfl
theorem nK:dL Try.prog 143 = true:=by kernel_rfl
theorem aD8:dL Try.prog 144 = true:=by kernel_rfl
theorem aD9:dL Try.prog 145 = true:=by kernel_rfl
theorem QG:dL Try.prog 146 = true:=by kernel_rfl
theorem aEA:dL Try.prog 147 = true:=by kernel_rfl
theorem KX:dL Try.prog 148 = true:=by kernel_rfl
theorem aEB:dL Try.prog 149 = true:=by kernel_rfl
theorem QH:dL Try.prog 150 = true:=by kernel_rfl
theorem Ue:dL Try.prog 151 = true:=by kernel_rfl
theorem Y2:dL Try.prog 152 = true:=by kernel_rfl
theorem Y3:dL Try.prog 153 = true:=by kernel_rfl
theorem Gs:dL Try.prog 154 = true:=by kernel_rfl
theorem Y4:dL Try.prog 155 = true:=by kernel_rfl
theorem Uf:dL Try.prog 156 = true:=by kernel_rfl
theorem aEC:dL Try.prog 157 = true:=by kernel_rfl
theorem aED:dL Try.prog 158 = true:=by kernel_rfl
theorem aEE:dL Try.prog 159 = true:=by kernel_rfl
theorem Y5:dL Try.prog 162 = true:=by kernel_rfl
theorem aEF:dL Try.prog 163 = true:=by kernel_rfl
theorem Y6:dL Try.prog 164 = true:=by kernel_rfl
theorem KY:dL Try.prog 167 = true:=by kernel_rfl
theorem aEG:dL Try.prog 179 = true:=by kernel_rfl
theorem aEH:dL Try.prog 181 = true:=by kernel_rfl
theorem Y7:dL Try.prog 182 = true:=by kernel_rfl
theorem aEI:dL Try.prog 183 = true:=by kernel_rfl
theorem EG:dL Try.prog 184 = true:=by kernel_rfl
theorem aEJ:dL Try.prog 185 = true:=by kernel_rfl
theorem aEK:dL Try.prog 186 = true:=by kernel_rfl
theorem aEL:dL Try.prog 187 = true:=by kernel_rfl
theorem Y8:dL Try.prog 188 = true:=by kernel_rfl
theorem aEM:dL Try.prog 189 = true:=by kernel_rfl
theorem Y9:dL Try.prog 19 = true:=by kernel_rfl
theorem aEN:dL Try.prog 190 = true:=by kernel_rfl
theorem ZA:dL Try.prog 199 = true:=by kernel_rfl
theorem aEO:dL Try.prog 201 = true:=by kernel_rfl
theorem aEP:dL Try.prog 202 = true:=by kernel_rfl
theorem aEQ:dL Try.prog 48 = true:=by kernel_rfl
theorem aER:dL Try.prog 49 = true:=by kernel_rfl
theorem ZB:dL Try.prog 50 = true:=by kernel_rfl
theorem Bd:dL Try.prog 51 = true:=by kernel_rfl
theorem ZC:dL Try.prog 52 = true:=by kernel_rfl
theorem ZE:dL Try.prog 53 = true:=by kernel_rfl
theorem vI:dL Try.prog 54 = true:=by kernel_rfl
theorem Ug:dL Try.prog 55 = true:=by kernel_rfl
theorem Uh:dL Try.prog 56 = true:=by kernel_rfl
theorem Ui:dL Try.prog 57 = true:=by kernel_rfl
theorem Uj:dL Try.prog 58 = true:=by kernel_rfl
theorem QI:dL Try.prog 59 = true:=by kernel_rfl
theorem ZF:dL Try.prog 60 = true:=by kernel_rfl
theorem ZG:dL Try.prog 61 = true:=by kernel_rfl
theorem Uk:dL Try.prog 62 = true:=by kernel_rfl
theorem ZH:dL Try.prog 63 = true:=by kernel_rfl
theorem ZI:dL Try.prog 64 = true:=by kernel_rfl
theorem aES:dL Try.prog 65 = true:=by kernel_rfl
theorem aET:dL Try.prog 66 = true:=by kernel_rfl
theorem aEU:dL Try.prog 67 = true:=by kernel_rfl
theorem aEV:dL Try.prog 68 = true:=by kernel_rfl
theorem aEW:dL Try.prog 69 = true:=by kernel_rfl
theorem cb7:dL Try.prog 7 = true:=by kernel_rfl
theorem aEX:dL Try.prog 70 = true:=by kernel_rfl
theorem aEY:dL Try.prog 71 = true:=by kernel_rfl
theorem aEZ:dL Try.prog 72 = true:=by kernel_rfl
theorem Ul:dL Try.prog 73 = true:=by kernel_rfl
theorem ZJ:dL Try.prog 74 = true:=by kernel_rfl
theorem ZK:dL Try.prog 75 = true:=by kernel_rfl
theorem Gt:dL Try.prog 76 = true:=by kernel_rfl
theorem ZL:dL Try.prog 77 = true:=by kernel_rfl
theorem ZM:dL Try.prog 78 = true:=by kernel_rfl
theorem EH:dL Try.prog 79 = true:=by kernel_rfl
theorem Gu:dL Try.prog 80 = true:=by kernel_rfl
theorem aEa:dL Try.prog 83 = true:=by kernel_rfl
theorem QJ:dL Try.prog 86 = true:=by kernel_rfl
theorem Bf:dL Try.prog 87 = true:=by kernel_rfl
theorem aEb:dL Try.prog 91 = true:=by kernel_rfl
theorem o9:uP Try.prog 123 = some 9:=by kernel_rfl
theorem Gz:uP Try.prog 22 = some 5:=by kernel_rfl
theorem oL:uP Try.prog 24 = some 96:=by kernel_rfl
theorem jD:uP Try.prog 27 = some 82:=by kernel_rfl
theorem qK:uP Try.prog 31 = some 37:=by kernel_rfl
theorem lJ:uP Try.prog 37 = some 3:=by kernel_rfl
theorem Zy:rO Try.prog 139 0 = some 0:=by kernel_rfl
theorem Qj:rO Try.prog 139 1 = some 1:=by kernel_rfl
theorem Qk:rO Try.prog 139 2 = some 2:=by kernel_rfl
theorem lV:rO Try.prog 26 0 = some 0:=by kernel_rfl
theorem gq:rO Try.prog 26 1 = some 1:=by kernel_rfl
theorem jv:rO Try.prog 29 0 = some 0:=by kernel_rfl
theorem fJ:rO Try.prog 29 1 = some 2:=by kernel_rfl
theorem kV:rO Try.prog 82 0 = some 0:=by kernel_rfl
theorem lq:rO Try.prog 82 1 = some 1:=by kernel_rfl
theorem mZ:rO Try.prog 96 0 = some 0:=by kernel_rfl
theorem nS:rO Try.prog 96 1 = some 1:=by kernel_rfl
theorem Eo:(Try.prog.info? 24).isSome = true:=by kernel_rfl
theorem dX:(Try.prog.info? 26).isSome = true:=by kernel_rfl
theorem RH:(Try.prog.info? 27).isSome = true:=by kernel_rfl
theorem ax:(Try.prog.info? 29).isSome = true:=by kernel_rfl
theorem qh:(Try.prog.info? 3).isSome = true:=by kernel_rfl
theorem MX:(Try.prog.info? 37).isSome = true:=by kernel_rfl
theorem aAs:(Try.prog.info? 5).isSome = true:=by kernel_rfl
theorem dS:(Try.prog.info? 82).isSome = true:=by kernel_rfl
theorem WW:(Try.prog.info? 9).isSome = true:=by kernel_rfl
theorem jW:(Try.prog.info? 96).isSome = true:=by kernel_rfl
theorem Hy:Hz Try.prog 82 = some 2:=by kernel_rfl
theorem NC:Hz Try.prog 96 = some 2:=by kernel_rfl
theorem mixed:Try.prog.follows .mixedOrders = true:=by kernel_rfl
theorem aIz:Fa Try.prog 139 = some [(0, 1), (1, 1), (2, 1)]:=by kernel_rfl
theorem uy:Fa Try.prog 26 = some [(0, 1), (1, 1)]:=by kernel_rfl
theorem yN:Fa Try.prog 29 = some [(0, 2), (2, 1)]:=by kernel_rfl
theorem FZ:Fa Try.prog 82 = some [(0, 1), (1, 1)]:=by kernel_rfl
theorem zJ:Fa Try.prog 96 = some [(0, 1), (1, 1)]:=by kernel_rfl
theorem aJr:bZ Try.prog 139 = 3:=by kernel_rfl
theorem Fp:bZ Try.prog 24 = 1:=by kernel_rfl
theorem dM:bZ Try.prog 26 = 2:=by kernel_rfl
theorem TY:bZ Try.prog 27 = 1:=by kernel_rfl
theorem ai:bZ Try.prog 29 = 3:=by kernel_rfl
theorem jq:bZ Try.prog 3 = 1:=by kernel_rfl
theorem Fq:bZ Try.prog 37 = 1:=by kernel_rfl
theorem Tc:bZ Try.prog 5 = 1:=by kernel_rfl
theorem bf:bZ Try.prog 82 = 2:=by kernel_rfl
theorem Di:bZ Try.prog 9 = 1:=by kernel_rfl
theorem fG:bZ Try.prog 96 = 2:=by kernel_rfl
theorem aJz:TI Try.prog 139 (.agg #[(.slice none 0 0), (.int .i64 0), (.int .i64 0)]) 3 40:=by unfold TI; kernel_rfl
theorem lF:TI Try.prog 26 (.agg #[(.int .i64 0), (.slice none 0 0)]) 2 32:=by unfold TI; kernel_rfl
theorem iG:TI Try.prog 29 (.agg #[(.int .i64 0), (.slice none 0 0), (.slice none 0 0)]) 3 56:=by unfold TI; kernel_rfl
theorem lG:TI Try.prog 3 (.int .i64 0) 1 8:=by unfold TI; kernel_rfl
theorem xU:TI Try.prog 37 (.slice none 0 0) 1 24:=by unfold TI; kernel_rfl
theorem yR:TI Try.prog 5 (.int .u8 0) 1 1:=by unfold TI; kernel_rfl
theorem kM:TI Try.prog 82 (.agg #[(.int .i64 0), (.int .i64 0)]) 2 16:=by unfold TI; kernel_rfl
theorem yS:TI Try.prog 9 (.string ByteArray.empty) 1 16:=by unfold TI; kernel_rfl
theorem jQ:TI Try.prog 96 (.agg #[(.int .i64 0), (.int .i64 0)]) 2 16:=by unfold TI; kernel_rfl
theorem ni:Try.prog.underlying 123 = some (.slice 9):=by kernel_rfl
theorem qX:Try.prog.underlying 22 = some (.slice 5):=by kernel_rfl
theorem iU:Try.prog.underlying 24 = some (.slice 96):=by kernel_rfl
theorem lQ:Try.prog.underlying 27 = some (.slice 82):=by kernel_rfl
theorem PL:Try.prog.underlying 3 = some (.int .i64):=by kernel_rfl
theorem qH:Try.prog.underlying 31 = some (.slice 37):=by kernel_rfl
theorem iK:Try.prog.underlying 37 = some (.slice 3):=by kernel_rfl
theorem uS:Try.prog.underlying 4 = some .bool:=by kernel_rfl
theorem zT:Try.prog.underlying 5 = some (.int .u8):=by kernel_rfl
theorem jh:Try.prog.underlying 9 = some .string:=by kernel_rfl
theorem PN:(Try.prog.underlying 3).isSome = true:=by kernel_rfl
theorem PO:(Try.prog.underlying 5).isSome = true:=by kernel_rfl
end
theorem aKZ (code:(List Int)):FT Try.prog (Rt code) 7 [.c (xF bn code)] [] (fun (t:Bool) => [.c (bC t)]) (fun (t:Bool) => []) []:=by
 refine FT.of [] Try.func7 Try.ntmps7 Q y2 ?_
 intro w0 U0 R0 g0
 unfold Rt
 refine Ws (Wr ?_)
 refine aI (Bv false) ak (On (Ws (Wr ?_)))
 refine aG (Cc (xF bn code)) y4 (au (LT.gB Q qX) Q Q Q (aZ LT.gtr aP (aI (Bv (decide (1048576 < (code.length:Int)))) y4 (On (bT z1 J ⟨ah.sc,J⟩ J)))))
theorem KD (code:(List Int)):FT Try.prog (zG code) 80 [.c (xT bn code)] [] (fun (t:dJ) => [.c (.pl 0 0)]) (fun (t:dJ) => [(0,.row 139 [fM t])]) [0]:=by
 refine FT.of [] Try.func80 Try.ntmps80 Q y2 ?_
 intro w0 U0 R0 g0
 unfold zG
 refine Ws (Wr ?_)
 refine aI (Cc (sC (.pointer none))) ak (On (Ws (Wr ?_)))
 refine aG (Cc (xT bn code)) y4 (au (LT.gB Q qX) Q Q Q (aZ LT.add oQ (aI (Iv (aB (10101 + (code.length:Int)))) y4 (On (Ws (Ws (Wr ?_)))))))
 refine aI (Iv 0) ak (On (aC.block ?_))
 refine aC.jP (id:=0) (FM code) (fun s1 => ([(0,Cc (xT bn code)),(3,Iv s1.1),(4,Iv s1.2)],[])) (fun b12 => ([(0,Cc (xT bn code)),(3,Iv b12)],[])) ?_ (aj.of z3 J) Q (fun b12 _ => ?_)
 ·intro s1
  unfold FM
  refine Ws (Ws ?_)
  refine aC.eG (fun j14 => ([(0,Cc (xT bn code)),(3,Iv s1.1),(4,Iv s1.2),(15,Bv j14)],[])) ?_ (fun j14 _ => ?_)
  ·refine Wr (aG (Iv s1.2) y4 (aG (Cc (xT bn code)) y4 (au (LT.gB Q qX) Q Q Q (aZ LT.lss y5 (aG (Bv (decide (s1.2 < (code.length:Int)))) y4 (aT.split (fun qf => ?_) (fun qf => ?_)))))))
   ·refine iy (Iv s1.2) qf y5 (iV LT.lss qf kY (dn (Bv (decide (s1.2 < 4000))) qf y5 (On (aX Q z4 J))))
   ·refine af qf y5 (af qf y5 (gK (Bv false) qf aP (On (aX Q z4 J))))
  ·refine aC.cond Q (fun hc16 => ?_) (fun hc16 => ?_)
   ·refine aC.skip (Ws (aC.block (Wr ?_)))
    refine aG (Iv s1.1) y4 (aZ LT.mul aP (aG (Cc (xT bn code)) y4 (aG (Iv s1.2) y4 (aU fun x17 WN => (dU (LT.dZ (enc:=bn) Q Gz WN Tc) Q Q Q Q (au (LT.iq Q P7) Q Q Q (au (LT.yw Q PO PL) Q Q Q (aZ LT.add y5 (aZ LT.add aP (aZ LT.and aP (aI (Iv (bits .and .i64 (aB ((aB ((aB (s1.1 * 131)) + (aB x17))) + 7)) 1073741823)) y4 ?_)))))))))))
    refine On (aC.blk ?_)
    refine en [(0,Cc (xT bn code)),(3,Iv (bits .and .i64 (aB ((aB ((aB (s1.1 * 131)) + (aB x17))) + 7)) 1073741823)),(4,Iv s1.2)] [] z3 J (Wr (aG (Iv s1.2) y4 (aZ LT.add aP (aI (Iv (aB (s1.2 + 1))) y4 (On (aX Q z3 J))))))
   ·refine gJ y2 z2 J
 ·refine Ws (Wr ?_)
  refine aG (Cc (xT bn code)) y4 (aG (Iv b12) y4 (dU (LT.build [(0,.tmp 28,.c (xT bn code)),(2,.tmp 29,.c (iC b12))] Q Q aIz aJz Q Q Q) Q Q Q Q (fZ 21 (.agg [xT bn code,iC 0,iC b12]) aJr y5 (aI (Cc (.pl 21 0)) y4 (On (en [(2,Cc (.pl 21 0))] [(21,.row 139 [[xT bn code,iC 0,iC b12]])] z1 z1 (aC.ent (aj.mv 21 0 Q Q) (en [(2,Cc (.pl 0 0))] [(0,.row 139 [[xT bn code,iC 0,iC b12]])] z1 z1 (bT z1 z1 ⟨J,J⟩ ⟨bg.ou ⟨kK oh,ah.sc,ah.sc,J⟩,J⟩)))))))))
theorem F6 (c:dJ):FT Try.prog (yL c) 184 [.c (.pl 0 0)] [(0,.row 139 [fM c])] (fun (t:(Int × dJ)) => [.c (iC t.1)]) (fun (t:(Int × dJ)) => [(0,.row 139 [fM t.2])]) []:=by
 refine FT.of [0] Try.func184 Try.ntmps184 Q y2 ?_
 intro w0 U0 R0 g0
 unfold yL
 refine Ws (Wr ?_)
 refine aI (Iv 0) ak (On (Ws (Wr ?_)))
 refine aG (Cc (.pl 0 0)) y4 (aG (Cc (.pl 0 0)) y4 (au (LT.zH Q) Q Q Q (dR (iC c.h) Qk bK bI (aZ LT.mul aP (aZ LT.add aP (au (LT.zH Q) Q Q Q (au (LT.eu Q Qk) Q Q Q (dA (rD (.c (iC (aB ((aB (c.h * 6364136223846793005)) + 1442695040888963407)))) [xT bn c.b,iC c.i,iC (aB ((aB (c.h * 6364136223846793005)) + 1442695040888963407))] Q Q qh jq) Q Q Q Q Q (On (Ws ?_))))))))))
 refine en [(0,Cc (.pl 0 0))] [(0,.row 139 [[xT bn c.b,iC c.i,iC (aB ((aB (c.h * 6364136223846793005)) + 1442695040888963407))]])] z1 z1 (aC.draw mixed (aY (Cc (.pl 0 0)) y4 (bH (LT.zH Q) Q Q Q (dw (iC (aB ((aB (c.h * 6364136223846793005)) + 1442695040888963407))) Qk bK bI (bQ (LT.shr Q (by decide)) Q y2 Q Q (aY (Cc (.pl 0 0)) y4 (bH (LT.zH Q) Q Q Q (dw (iC (aB ((aB (c.h * 6364136223846793005)) + 1442695040888963407))) Qk bK bI (bQ (LT.shr Q (by decide)) Q y2 Q Q ?_)))))))))
 refine jS LT.xor y5 (jS LT.and aP (bH (LT.assign (v:=(Iv (bits .and .i64 (bits .xor .i64 (qy (aB ((aB (c.h * 6364136223846793005)) + 1442695040888963407)) 33) (qy (aB ((aB (c.h * 6364136223846793005)) + 1442695040888963407)) 45)) 255))) Q) Q Q Q (dF (Ws (Ws ?_)))))
 refine en [(0,Cc (.pl 0 0)),(3,Iv (bits .and .i64 (bits .xor .i64 (qy (aB ((aB (c.h * 6364136223846793005)) + 1442695040888963407)) 33) (qy (aB ((aB (c.h * 6364136223846793005)) + 1442695040888963407)) 45)) 255))] [(0,.row 139 [[xT bn c.b,iC c.i,iC (aB ((aB (c.h * 6364136223846793005)) + 1442695040888963407))]])] z2 z1 (aC.draw mixed (aY (Cc (.pl 0 0)) y4 (bH (LT.zH Q) Q Q Q (dw (iC c.i) Qj bK bI (aY (Cc (.pl 0 0)) y4 (bH (LT.zH Q) Q Q Q (dw (xT bn c.b) Zy Yf bI (bH (LT.gB Q qX) Q Q Q (jS LT.lss y5 ?_)))))))))
 refine dF (aC.eG (fun j3 => ([(3,Iv j3.1)],[(0,.row 139 [[xT bn c.b,iC j3.2,iC (aB ((aB (c.h * 6364136223846793005)) + 1442695040888963407))]])])) ?_ (fun j3 _ => ?_))
 ·refine aC.cond Q (fun hc4 => ?_) (fun hc4 => ?_)
  ·refine Ws (aC.draw mixed ?_)
   refine aY (Iv (bits .and .i64 (bits .xor .i64 (qy (aB ((aB (c.h * 6364136223846793005)) + 1442695040888963407)) 33) (qy (aB ((aB (c.h * 6364136223846793005)) + 1442695040888963407)) 45)) 255)) y4 (aY (Cc (.pl 0 0)) y4 (bH (LT.zH Q) Q Q Q (dw (xT bn c.b) Zy Yf bI (aY (Cc (.pl 0 0)) y4 (bH (LT.zH Q) Q Q Q (dw (iC c.i) Qj bK bI (aN.bind fun x5 hx5 => (bQ (LT.dZ (enc:=bn) Q Gz hx5 Tc) Q Q Q Q (bH (LT.iq Q P7) Q Q Q ?_)))))))))
   refine bH (LT.yw Q PO PL) Q Q Q (jS LT.add y5 (jS LT.and aP (bH (LT.assign (v:=(Iv (bits .and .i64 (aB ((bits .and .i64 (bits .xor .i64 (qy (aB ((aB (c.h * 6364136223846793005)) + 1442695040888963407)) 33) (qy (aB ((aB (c.h * 6364136223846793005)) + 1442695040888963407)) 45)) 255) + (aB x5))) 255))) Q) Q Q Q (dF (en [(0,Cc (.pl 0 0)),(3,Iv (bits .and .i64 (aB ((bits .and .i64 (bits .xor .i64 (qy (aB ((aB (c.h * 6364136223846793005)) + 1442695040888963407)) 33) (qy (aB ((aB (c.h * 6364136223846793005)) + 1442695040888963407)) 45)) 255) + (aB x5))) 255))] [(0,.row 139 [[xT bn c.b,iC c.i,iC (aB ((aB (c.h * 6364136223846793005)) + 1442695040888963407))]])] z2 z1 (Wr (aG (Cc (.pl 0 0)) y4 (aG (Cc (.pl 0 0)) y4 (au (LT.zH Q) Q Q Q (dR (iC c.i) Qj bK bI ?_))))))))))
   refine aZ LT.add aP (au (LT.zH Q) Q Q Q (au (LT.eu Q Qj) Q Q Q (dA (rD (.c (iC (aB (c.i + 1)))) [xT bn c.b,iC (aB (c.i + 1)),iC (aB ((aB (c.h * 6364136223846793005)) + 1442695040888963407))] Q Q qh jq) Q Q Q Q Q (On (aX Q z1 z1)))))
  ·refine aC.skip (aX Q z1 z1)
 ·refine Ws (Wr ?_)
  refine aG (Iv j3.1) y4 (aI (Iv j3.1) y4 (On (bT z1 z1 ⟨ah.sc,J⟩ ⟨bg.ou ⟨kK oh,ah.sc,ah.sc,J⟩,J⟩)))
theorem nP (c:dJ) (n:Int):FT Try.prog (lM c n) 143 [.c (.pl 0 0),.c (iC n)] [(0,.row 139 [fM c])] (fun (t:(Int × dJ)) => [.c (iC t.1)]) (fun (t:(Int × dJ)) => [(0,.row 139 [fM t.2])]) []:=by
 refine FT.of [0] Try.func143 Try.ntmps143 Q y2 ?_
 intro w0 U0 R0 g0
 unfold lM
 refine Ws (Wr ?_)
 refine aI (Iv 0) ak (On (Ws (Ws (Wr ?_))))
 refine aG (Iv n) y4 (aZ LT.leq aP (On (aC.cond Q (fun hc1 => ?_) (fun hc1 => ?_))))
 ·refine Ws (Wr ?_)
  refine aI (Iv 0) ak (On (bT z1 z1 ⟨ah.sc,J⟩ ⟨bg.ou ⟨kK oh,ah.sc,ah.sc,J⟩,J⟩))
 ·refine aC.skip (Ws (Ws (Wr ?_)))
  refine aG (Iv n) y4 (aZ LT.leq aP (On (aC.cond Q (fun hc2 => ?_) (fun hc2 => ?_))))
  ·refine Ws (Wr ?_)
   refine aG (Cc (.pl 0 0)) y4 (aU fun r3 hr3 => (aT.step (bU [.c (.pl 0 0)] (Fw.Fn.ren [(0,0)] (F6 c r3 hr3) Q) EG (iF Q) z1 y3) z2 z1 Q Q (aG (Iv n) y4 (aU fun u4 hu4 => (dU (LT.rem Q (DR hu4)) Q Q Q Q (aI (Iv (Int.tmod r3.1 n)) y4 (On (bT z1 z1 ⟨ah.sc,J⟩ ⟨bg.ou ⟨kK oh,ah.sc,ah.sc,J⟩,J⟩))))))))
  ·refine aC.skip (Ws (Wr ?_))
   refine aG (Cc (.pl 0 0)) y4 (aU fun r5 nU => (aT.step (bU [.c (.pl 0 0)] (Fw.Fn.ren [(0,0)] (F6 c r5 nU) Q) EG (iF Q) z1 y3) z2 z1 Q Q (aI (Iv r5.1) y4 (On (Ws (Wr ?_))))))
   refine aG (Cc (.pl 0 0)) y4 (aU fun r6 tY => (aT.step (bU [.c (.pl 0 0)] (Fw.Fn.ren [(0,0)] (F6 r5.2 r6 tY) Q) EG (iF Q) z1 y3) z2 z1 Q Q (aI (Iv r6.1) y4 (On (Ws ?_)))))
   refine en [(0,Cc (.pl 0 0)),(1,Iv n),(5,Iv r5.1),(6,Iv r6.1)] [(0,.row 139 [fM r6.2])] z4 z1 (Wr (aG (Cc (.pl 0 0)) y4 (aU fun r7 tZ => (aT.step (bU [.c (.pl 0 0)] (Fw.Fn.ren [(0,0)] (F6 r6.2 r7 tZ) Q) EG (iF Q) z1 y3) z2 z1 Q Q (aI (Iv r7.1) y4 (On (Ws (Wr ?_))))))))
   refine aG (Cc (.pl 0 0)) y4 (aU fun r8 yG => (aT.step (bU [.c (.pl 0 0)] (Fw.Fn.ren [(0,0)] (F6 r7.2 r8 yG) Q) EG (iF Q) z1 y3) z2 z1 Q Q (aI (Iv r8.1) y4 (On (Ws (Wr ?_))))))
   refine aG (Iv r5.1) y4 (aZ LT.mul aP (aG (Iv r6.1) y4 (aZ LT.mul aP (aZ LT.add y5 (aG (Iv r7.1) y4 (aZ LT.mul aP (aZ LT.add y5 (aG (Iv r8.1) y4 (aZ LT.add y5 (aG (Iv n) y4 (aU fun u9 hu9 => ?_)))))))))))
   refine dU (LT.rem Q (DR hu9)) Q Q Q Q (aI (Iv (Int.tmod (aB ((aB ((aB ((aB (r5.1 * 16777216)) + (aB (r6.1 * 65536)))) + (aB (r7.1 * 256)))) + r8.1)) n)) y4 (On (bT z1 z1 ⟨ah.sc,J⟩ ⟨bg.ou ⟨kK oh,ah.sc,ah.sc,J⟩,J⟩)))
theorem aKv (c:dJ) (n:Int) (odd:Int):FT Try.prog (N7 c n odd) 187 [.c (.pl 0 0),.c (iC n),.c (iC odd)] [(0,.row 139 [fM c])] (fun (t:(bM × dJ)) => [.agg [iC t.1.aF,lo 1 t.1.aA.length]]) (fun (t:(bM × dJ)) => [(0,.row 139 [fM t.2]),(1,pR 96 aK t.1.aA)]) [1]:=by
 refine FT.of [0] Try.func187 Try.ntmps187 Q y2 ?_
 intro w0 U0 R0 g0
 unfold N7
 refine Ws (Wr ?_)
 refine dQ 21 [iC 0,sC aO] lF y6 (On (Ws (Wr ?_)))
 refine aG (Iv n) y4 (ny (gy 22 aK [] [] iU jQ y7) Q Q (dU (LT.build [(0,.tmp 10,.c (iC n)),(1,.tmp 11,.c (lo 22 (([]:List aV).length)))] Q Q uy lF Q Q Q) Q Q Q Q (dQ 23 [iC 0,sC aO] lF y6 (dA (stA [iC n,lo 22 (([]:List aV).length)] Q Q dX dM) Q Q Q Q Q (On (Ws (Ws ?_)))))))
 refine en [(0,Cc (.pl 0 0)),(1,Iv n),(2,Iv odd),(6,Cc (.pl 21 0)),(7,Cc (.pl 23 0))] [(0,.row 139 [fM c]),(21,.row 26 [[iC 0,sC aO]]),(22,pR 96 aK ([]:List aV)),(23,.row 26 [[iC n,lo 22 (([]:List aV).length)]])] z5 z4 (Wr (aI (Iv 0) ak (On (aC.block ?_))))
 refine aC.jP (id:=0) (N8 n odd) (fun s1 => ([(0,Cc (.pl 0 0)),(1,Iv n),(2,Iv odd),(6,Cc (.pl 21 0)),(7,Cc (.pl 23 0)),(8,Iv s1.1)],[(0,.row 139 [[xT bn s1.2.1,iC s1.2.2.1,iC s1.2.2.2.1]]),(21,.row 26 [[iC 0,sC aO]]),(22,pR 96 aK s1.2.2.2.2),(23,.row 26 [[iC n,lo 22 s1.2.2.2.2.length]])])) (fun iO => ([(6,Cc (.pl 21 0)),(7,Cc (.pl 23 0))],[(0,.row 139 [[xT bn iO.1,iC iO.2.1,iC iO.2.2.1]]),(21,.row 26 [[iC 0,sC aO]]),(22,pR 96 aK iO.2.2.2),(23,.row 26 [[iC n,lo 22 iO.2.2.2.length]])])) ?_ (aj.of z6 z4) Q (fun iO _ => ?_)
 ·intro s1
  unfold N8
  refine Ws (Ws (Wr ?_))
  refine aG (Iv s1.1) y4 (aG (Iv n) y4 (aZ LT.lss y5 (On (aC.cond Q (fun VZ => ?_) (fun VZ => ?_)))))
  ·refine aC.skip (Ws (aC.block (Ws (Wr ?_))))
   refine aG (Iv s1.1) y4 (aZ LT.add aP (aI (Iv (aB (s1.1 + 1))) y4 (On (aC.block ?_))))
   refine aC.jP (id:=2) (JV n odd s1) (fun ja => ([(0,Cc (.pl 0 0)),(1,Iv n),(2,Iv odd),(6,Cc (.pl 21 0)),(7,Cc (.pl 23 0)),(8,Iv s1.1),(9,Iv ja.1)],[(0,.row 139 [[xT bn ja.2.1,iC ja.2.2.1,iC ja.2.2.2.1]]),(21,.row 26 [[iC 0,sC aO]]),(22,pR 96 aK ja.2.2.2.2),(23,.row 26 [[iC n,lo 22 ja.2.2.2.2.length]])])) (fun uY => ([(0,Cc (.pl 0 0)),(1,Iv n),(2,Iv odd),(6,Cc (.pl 21 0)),(7,Cc (.pl 23 0)),(8,Iv uY.1)],[(0,.row 139 [[xT bn uY.2.1,iC uY.2.2.1,iC uY.2.2.2.1]]),(21,.row 26 [[iC 0,sC aO]]),(22,pR 96 aK uY.2.2.2.2),(23,.row 26 [[iC n,lo 22 uY.2.2.2.2.length]])])) ?_ (aj.of z7 z4) Q (fun uY _ => ?_)
   ·intro ja
    unfold JV
    refine Ws (Ws (Wr ?_))
    refine aG (Iv ja.1) y4 (aG (Iv n) y4 (aZ LT.lss y5 (On (aC.cond Q (fun aFz => ?_) (fun aFz => ?_)))))
    ·refine aC.skip (Ws (aC.block (Ws ?_)))
     refine aC.eG (fun j81 => ([(0,Cc (.pl 0 0)),(1,Iv n),(2,Iv odd),(6,Cc (.pl 21 0)),(7,Cc (.pl 23 0)),(8,Iv s1.1),(9,Iv ja.1),(34,Bv j81.1)],[(0,.row 139 [[xT bn j81.2.1,iC j81.2.2.1,iC j81.2.2.2]]),(21,.row 26 [[iC 0,sC aO]]),(22,pR 96 aK ja.2.2.2.2),(23,.row 26 [[iC n,lo 22 ja.2.2.2.2.length]])])) ?_ (fun j81 _ => ?_)
     ·refine Wr (aG (Cc (.pl 0 0)) y4 (aU fun fU Vz => (aT.step (bU [.c (.pl 0 0),.c (iC 10)] (Fw.Fn.ren [(0,0)] (nP (dJ.mk ja.2.1 ja.2.2.1 ja.2.2.2.1) 10 fU Vz) Q) nK (jG y2) z1 y3) ⟨Q,Q,y2,J⟩ z1 Q Q (aG (Iv odd) y4 (aZ LT.lss y5 (aG (Bv (decide (fU.1 < odd))) y4 (aT.split (fun y8 => ?_) (fun y8 => ?_))))))))
      ·refine jf (lo 22 ja.2.2.2.2.length) gq iQ y8 gm (au (LT.mM Q iU) Q (gH y8 Q Q) Q (iV LT.lss y8 kY (dn (Bv (decide ((ja.2.2.2.2.length:Int) < 24))) y8 y5 (On (aX Q z8 z4)))))
      ·refine af y8 y5 (af y8 y5 (af y8 y5 (af y8 y5 (gK (Bv false) y8 aP (On (aX Q z8 z4))))))
     ·refine aC.eG (fun j86 => ([(0,Cc (.pl 0 0)),(1,Iv n),(2,Iv odd),(6,Cc (.pl 21 0)),(7,Cc (.pl 23 0)),(8,Iv s1.1),(9,Iv ja.1)],[(0,.row 139 [[xT bn j81.2.1,iC j81.2.2.1,iC j81.2.2.2]]),(21,.row 26 [[iC 0,sC aO]]),(22,pR 96 aK j86),(23,.row 26 [[iC n,lo 22 j86.length]])])) ?_ (fun j86 _ => ?_)
      ·refine aC.cond Q (fun aF2 => ?_) (fun aF2 => ?_)
       ·refine Wr (dR (lo 22 ja.2.2.2.2.length) gq iQ bI (aG (Iv s1.1) y4 (aG (Iv ja.1) y4 (dU (LT.build [(0,.tmp 37,.c (iC s1.1)),(1,.tmp 38,.c (iC ja.1))] Q Q zJ jQ Q Q Q) Q Q Q Q (oC (gy 25 aK [(0,.tmp 39,.agg [iC s1.1,iC ja.1])] [aV.mk s1.1 ja.1] iU jQ y7) Q Q Q (aU fun u88 aHi => (oW (LT.ng (enc:=aK) Q Q Q iU jQ Q (by decide) (by decide) (fun _ => Q) (jw aHi)) Q Q Q Q Q Q (au (LT.eu Q gq) Q Q Q (dA (rD (.c (lo 22 ((ja.2.2.2.2 ++ [aV.mk s1.1 ja.1]).length))) [iC n,lo 22 ((ja.2.2.2.2 ++ [aV.mk s1.1 ja.1]).length)] Q Q Eo Fp) Q Q Q Q Q (On ?_))))))))))
        refine aX Q z7 z4
       ·refine aC.skip (aX Q z7 z4)
      ·refine aC.blk (Wr ?_)
       refine aG (Iv ja.1) y4 (aZ LT.add aP (aI (Iv (aB (ja.1 + 1))) y4 (On (aX Q z7 z4))))
    ·refine gJ y2 z6 z4
   ·refine aC.blk (Wr ?_)
    refine aG (Iv uY.1) y4 (aZ LT.add aP (aI (Iv (aB (uY.1 + 1))) y4 (On (aX Q z6 z4))))
  ·refine gJ y2 z2 z4
 ·refine Ws (Wr ?_)
  refine cZ (bD [iC n,lo 22 iO.2.2.2.length] Q iI dX dM) Q Q Q Q (dA (stA [iC n,lo 22 iO.2.2.2.length] Q Q dX dM) Q Q Q Q Q (On (en [(6,Cc (.pl 21 0))] [(0,.row 139 [[xT bn iO.1,iC iO.2.1,iC iO.2.2.1]]),(21,.row 26 [[iC n,lo 22 iO.2.2.2.length]]),(22,pR 96 aK iO.2.2.2)] z1 z3 (aC.ent (aj.mv 22 1 Q Q) (en [(6,Cc (.pl 21 0))] [(0,.row 139 [[xT bn iO.1,iC iO.2.1,iC iO.2.2.1]]),(1,pR 96 aK iO.2.2.2),(21,.row 26 [[iC n,lo 1 iO.2.2.2.length]])] z1 z3 (bT ⟨⟨_,_,_,Q,Q,Q,iI,dM,_,fE dX⟩,J⟩ z2 ⟨⟨ah.sc,J,J⟩,J⟩ ⟨bg.ou ⟨kK oh,ah.sc,ah.sc,J⟩,bg.dO iP,J⟩))))))
theorem UC (c:dJ) (g:bM):FT Try.prog (DC c g) 150 [.c (.pl 0 0),.agg (dI g)] [(0,.row 139 [fM c])] (fun (t:(aW × dJ)) => [.agg [iC t.1.Graph.aF,lo 1 t.1.Graph.aA.length,lo 2 t.1.Places.length]]) (fun (t:(aW × dJ)) => [(0,.row 139 [fM t.2]),(1,pR 96 aK t.1.Graph.aA),(2,pR 82 aJ t.1.Places)]) [1,2]:=by
 refine FT.of [0] Try.func150 Try.ntmps150 Q y2 ?_
 intro w0 U0 R0 g0
 unfold DC
 refine Ws (Wr ?_)
 refine fZ 21 (.agg (dI g)) dM y5 (dQ 22 [iC 0,sC aO,sC aO] iG y6 (On (Ws (Wr ?_))))
 refine dR (iC g.aF) lV bK bI (ny (gy 23 aK [] [] iU jQ y7) Q Q (dU (LT.build [(0,.tmp 11,.c (iC g.aF)),(1,.tmp 12,.c (lo 23 (([]:List aV).length)))] Q Q uy lF Q Q Q) Q Q Q Q (au (LT.build [(0,.tmp 13,.agg [iC g.aF,lo 23 (([]:List aV).length)])] Q Q yN iG Q Q Q) Q Q Q (dQ 24 [iC 0,sC aO,sC aO] iG y6 (dA (stA [iC g.aF,lo 23 (([]:List aV).length),sC aO] Q Q ax ai) Q Q Q Q Q (On (Ws (Ws ?_))))))))
 refine en [(0,Cc (.pl 0 0)),(3,Cc (.pl 21 0)),(4,Cc (.pl 22 0)),(5,Cc (.pl 24 0))] [(0,.row 139 [fM c]),(21,.row 26 [dI g]),(22,.row 29 [[iC 0,sC aO,sC aO]]),(23,pR 96 aK ([]:List aV)),(24,.row 29 [[iC g.aF,lo 23 (([]:List aV).length),sC aO]])] z4 z5 (Wr (aI (Iv 0) ak (On (aC.block ?_))))
 refine aC.ent (aj.qp 24 2 29 82 Q Q Q Q) (aC.jP (id:=0) (Nw g) (fun s1 => ([(0,Cc (.pl 0 0)),(3,Cc (.pl 21 0)),(4,Cc (.pl 22 0)),(5,Cc (.pl 24 0)),(6,Iv s1.1)],[(0,.row 139 [[xT bn s1.2.1,iC s1.2.2.1,iC s1.2.2.2.1]]),(21,.row 26 [dI g]),(22,.row 29 [[iC 0,sC aO,sC aO]]),(23,pR 96 aK ([]:List aV)),(24,.row 29 [[iC g.aF,lo 23 (([]:List aV).length),lo 29 s1.2.2.2.2.length]]),(29,pR 82 aJ s1.2.2.2.2)])) (fun b10 => ([(3,Cc (.pl 21 0)),(4,Cc (.pl 22 0)),(5,Cc (.pl 24 0))],[(0,.row 139 [[xT bn b10.1,iC b10.2.1,iC b10.2.2.1]]),(21,.row 26 [dI g]),(22,.row 29 [[iC 0,sC aO,sC aO]]),(23,pR 96 aK ([]:List aV)),(24,.row 29 [[iC g.aF,lo 23 (([]:List aV).length),lo 29 b10.2.2.2.length]]),(29,pR 82 aJ b10.2.2.2)])) ?_ (aj.of z5 z6) Q (fun b10 _ => ?_))
 ·intro s1
  unfold Nw
  refine Ws (Ws (Wr ?_))
  refine aG (Iv s1.1) y4 (dR (iC g.aF) lV bK bI (aZ LT.lss y5 (On (aC.cond Q (fun EZ => ?_) (fun EZ => ?_)))))
  ·refine aC.skip (Ws (aC.block (Ws (Wr ?_))))
   refine aG (Cc (.pl 0 0)) y4 (aU fun r12 AX => (aT.step (bU [.c (.pl 0 0),.c (iC 5)] (Fw.Fn.ren [(0,0)] (nP (dJ.mk s1.2.1 s1.2.2.1 s1.2.2.2.1) 5 r12 AX) Q) nK (jG y2) z1 y3) ⟨Q,Q,y2,J⟩ z1 Q Q (aI (Iv r12.1) y4 (On (aC.draw mixed ?_)))))
   refine dw (lo 29 s1.2.2.2.2.length) fJ fV bI (aY (Iv r12.1) y4 (aY (Cc (.pl 0 0)) y4 (aN.bind fun r13 uo => (aN.step (bU [.c (.pl 0 0),.c (iC 5)] (Fw.Fn.ren [(0,0)] (nP r12.2 5 r13 uo) Q) nK (jG y2) z1 y3) ⟨Q,Q,y2,J⟩ z1 Q Q (bQ (LT.build [(0,.tmp 25,.c (iC r12.1)),(1,.tmp 27,.c (iC r13.1))] Q Q FZ kM Q Q Q) Q Q Q Q (Dw (gy 27 aJ [(0,.tmp 28,.agg [iC r12.1,iC r13.1])] [bG.mk r12.1 r13.1] lQ kM y7) Q Q Q (aN.bind fun u14 MF => (KI (LT.ng (enc:=aJ) Q Q Q lQ kM Q (by decide) (by decide) (fun _ => Q) (jw MF)) Q Q Q Q Q Q (bH (LT.eu Q fJ) Q Q Q (iY (rD (.c (lo 29 ((s1.2.2.2.2 ++ [bG.mk r12.1 r13.1]).length))) [iC g.aF,lo 23 (([]:List aV).length),lo 29 ((s1.2.2.2.2 ++ [bG.mk r12.1 r13.1]).length)] Q Q RH TY) Q Q Q Q Q ?_))))))))))
   refine dF (aC.blk (en [(0,Cc (.pl 0 0)),(3,Cc (.pl 21 0)),(4,Cc (.pl 22 0)),(5,Cc (.pl 24 0)),(6,Iv s1.1)] [(0,.row 139 [fM r13.2]),(21,.row 26 [dI g]),(22,.row 29 [[iC 0,sC aO,sC aO]]),(23,pR 96 aK ([]:List aV)),(24,.row 29 [[iC g.aF,lo 23 (([]:List aV).length),lo 29 ((s1.2.2.2.2 ++ [bG.mk r12.1 r13.1]).length)]]),(29,pR 82 aJ (s1.2.2.2.2 ++ [bG.mk r12.1 r13.1]))] z5 z6 (Wr (aG (Iv s1.1) y4 (aZ LT.add aP (aI (Iv (aB (s1.1 + 1))) y4 (On (aX Q z5 z6))))))))
  ·refine gJ y2 z3 z6
 ·refine Ws (Ws (Wr ?_))
  refine aI (Iv 0) ak (On (aC.block ?_))
  refine aC.jP (id:=2) (JQ g b10) (fun s15 => ([(3,Cc (.pl 21 0)),(4,Cc (.pl 22 0)),(5,Cc (.pl 24 0)),(8,Iv s15.1)],[(0,.row 139 [[xT bn b10.1,iC b10.2.1,iC b10.2.2.1]]),(21,.row 26 [dI g]),(22,.row 29 [[iC 0,sC aO,sC aO]]),(23,pR 96 aK s15.2),(24,.row 29 [[iC g.aF,lo 23 s15.2.length,lo 29 b10.2.2.2.length]]),(29,pR 82 aJ b10.2.2.2)])) (fun iO => ([(4,Cc (.pl 22 0)),(5,Cc (.pl 24 0))],[(0,.row 139 [[xT bn iO.1,iC iO.2.1,iC iO.2.2.1]]),(22,.row 29 [[iC 0,sC aO,sC aO]]),(23,pR 96 aK iO.2.2.2.1),(24,.row 29 [[iC g.aF,lo 23 iO.2.2.2.1.length,lo 29 iO.2.2.2.2.length]]),(29,pR 82 aJ iO.2.2.2.2)])) ?_ (aj.of z4 z6) Q (fun iO _ => ?_)
  ·intro s15
   unfold JQ
   refine Ws (Ws (Wr ?_))
   refine aG (Iv s15.1) y4 (dR (xF aK g.aA) gq iQ bI (au (LT.gB Q iU) Q Q Q (aZ LT.lss y5 (On (aC.cond Q (fun VZ => ?_) (fun VZ => ?_))))))
   ·refine aC.skip (Ws (aC.block (Ws (Wr ?_))))
    refine dR (xF aK g.aA) gq iQ bI (aG (Iv s15.1) y4 (aU fun x54 MV => (dU (LT.dZ (enc:=aK) Q oL MV fG) Q Q Q Q (au (kC Q lU jW fG) Q Q Q (dQ 30 [iC 0,iC 0] jQ y6 (dA (stA [iC x54.A,iC x54.B] Q Q jW fG) Q Q Q Q Q (On (Ws ?_))))))))
    refine aC.eG (fun j60 => ([(3,Cc (.pl 21 0)),(4,Cc (.pl 22 0)),(5,Cc (.pl 24 0)),(8,Iv s15.1),(9,Cc (.pl 30 0)),(70,Bv j60)],[(0,.row 139 [[xT bn b10.1,iC b10.2.1,iC b10.2.2.1]]),(21,.row 26 [dI g]),(22,.row 29 [[iC 0,sC aO,sC aO]]),(23,pR 96 aK s15.2),(24,.row 29 [[iC g.aF,lo 23 s15.2.length,lo 29 b10.2.2.2.length]]),(29,pR 82 aJ b10.2.2.2),(30,.row 96 [[iC x54.A,iC x54.B]])])) ?_ (fun j60 _ => ?_)
    ·refine en [(3,Cc (.pl 21 0)),(4,Cc (.pl 22 0)),(5,Cc (.pl 24 0)),(8,Iv s15.1),(9,Cc (.pl 30 0))] [(0,.row 139 [[xT bn b10.1,iC b10.2.1,iC b10.2.2.1]]),(21,.row 26 [dI g]),(22,.row 29 [[iC 0,sC aO,sC aO]]),(23,pR 96 aK s15.2),(24,.row 29 [[iC g.aF,lo 23 s15.2.length,lo 29 b10.2.2.2.length]]),(29,pR 82 aJ b10.2.2.2),(30,.row 96 [[iC x54.A,iC x54.B]])] z5 z7 (aC.draw mixed (dw (lo 29 b10.2.2.2.length) fJ fV bI (dw (iC x54.A) mZ bK bI (aN.bind fun GK aAn => (kJ (LT.iW Q Q jD aAn) Q Q Q Q Q (bV (LT.J3 Q gI (fE dS) bf aAn (by exact Q) (by exact Q)) Q Q Q Q (dw (lo 29 b10.2.2.2.length) fJ fV bI (bH (LT.eu Q nS) Q Q Q ?_))))))))
     refine bV (wJ (iC x54.B) Q bK) Q Q Q Q (aN.bind fun GL aAo => (kJ (LT.iW Q Q jD aAo) Q Q Q Q Q (bV (LT.J3 Q gI (fE dS) bf aAo (by exact Q) (by exact Q)) Q Q Q Q (bQ (LT.Jf [GK.X,GK.Y] [GL.X,GL.Y] Q Hy Q Q) Q Q Q Q (aY (Bv (!(jM [GK.X,GK.Y] [GL.X,GL.Y]))) y4 (aN.split (fun pJ => ?_) (fun pJ => ?_)))))))
     ·refine kD (Iv s15.1) pJ y5 (sN LT.eql pJ kY (kD (Bv (s15.1 == 0)) pJ y5 (aN.split (fun hb64 => ?_) (fun hb64 => ?_))))
      ·refine aS hb64 y3 (aS hb64 y3 (aS hb64 y3 (aS hb64 y3 (aS hb64 y3 (aS hb64 y3 (aS hb64 y3 (aS hb64 y3 (bQ (LT.pU (v:=(Bv true)) Q hb64) Q y2 (gH pJ Q Q) Q (gW (Bv true) pJ y5 (dF (aX Q z6 z7)))))))))))
      ·refine qA (xF aK g.aA) gq iQ hb64 gm (kD (Iv s15.1) hb64 y5 (sN LT.sub hb64 kY (aN.bind fun mQ WS => (bQ (LT.dZ (enc:=aK) Q oL WS fG) Q Q (gH hb64 Q Q) Q (bH (kC Q lU jW fG) Q (gH hb64 Q Q) Q (bV (bD [iC x54.A,iC x54.B] Q lU jW fG) Q Q (gH hb64 Q Q) Q (bQ (LT.Jf [mQ.A,mQ.B] [x54.A,x54.B] Q NC Q Q) Q Q (gH hb64 Q Q) Q (bQ (LT.wO (v:=(Bv (!(jM [mQ.A,mQ.B] [x54.A,x54.B])))) Q hb64) Q Q (gH pJ Q Q) Q (gW (Bv (!(jM [mQ.A,mQ.B] [x54.A,x54.B]))) pJ y5 (dF ?_))))))))))
       refine aX Q z6 z7
     ·refine aS pJ y3 (aS pJ y3 (aS pJ y3 (aH y3 (aH y3 (aH y3 (aH y3 (aH y3 (aH y3 (aH y3 (aH y3 (aS pJ y3 ?_)))))))))))
      refine dD (Bv false) pJ aP (dF (aX Q z6 z7))
    ·refine aC.eG (fun j68 => ([(3,Cc (.pl 21 0)),(4,Cc (.pl 22 0)),(5,Cc (.pl 24 0)),(8,Iv s15.1)],[(0,.row 139 [[xT bn b10.1,iC b10.2.1,iC b10.2.2.1]]),(21,.row 26 [dI g]),(22,.row 29 [[iC 0,sC aO,sC aO]]),(23,pR 96 aK j68),(24,.row 29 [[iC g.aF,lo 23 j68.length,lo 29 b10.2.2.2.length]]),(29,pR 82 aJ b10.2.2.2)])) ?_ (fun j68 _ => ?_)
     ·refine aC.cond Q (fun aFw => ?_) (fun aFw => ?_)
      ·refine Wr (au (LT.eu Q jv) Q Q Q (dR (lo 23 s15.2.length) gq iQ bI (cZ (bD [iC x54.A,iC x54.B] Q lU jW fG) Q Q Q Q (oC (gy 31 aK [(0,.tmp 74,.agg [iC x54.A,iC x54.B])] [x54] iU jQ y7) Q Q Q (aU fun u70 WH => (oW (LT.ng (enc:=aK) Q Q Q iU jQ Q (by decide) (by decide) (fun _ => Q) (jw WH)) Q Q Q Q Q Q (au (LT.eu Q jv) Q Q Q (au (LT.eu Q gq) Q Q Q (dA (rD (.c (lo 23 ((s15.2 ++ [x54]).length))) [iC g.aF,lo 23 ((s15.2 ++ [x54]).length),lo 29 b10.2.2.2.length] Q Q Eo Fp) Q Q Q Q Q (On ?_))))))))))
       refine aX Q z4 z6
      ·refine aC.skip (aX Q z4 z6)
     ·refine aC.blk (Wr ?_)
      refine aG (Iv s15.1) y4 (aZ LT.add aP (aI (Iv (aB (s15.1 + 1))) y4 (On (aX Q z4 z6))))
   ·refine gJ y2 z2 z5
  ·refine Ws (Wr ?_)
   refine cZ (bD [iC g.aF,lo 23 iO.2.2.2.1.length,lo 29 iO.2.2.2.2.length] Q bP ax ai) Q Q Q Q (dA (stA [iC g.aF,lo 23 iO.2.2.2.1.length,lo 29 iO.2.2.2.2.length] Q Q ax ai) Q Q Q Q Q (On (en [(4,Cc (.pl 22 0))] [(0,.row 139 [[xT bn iO.1,iC iO.2.1,iC iO.2.2.1]]),(22,.row 29 [[iC g.aF,lo 23 iO.2.2.2.1.length,lo 29 iO.2.2.2.2.length]]),(23,pR 96 aK iO.2.2.2.1),(29,pR 82 aJ iO.2.2.2.2)] z1 z4 (aC.ent (aj.mv 23 1 Q Q) (aC.ent (aj.mv 29 2 Q Q) (en [(4,Cc (.pl 22 0))] [(0,.row 139 [[xT bn iO.1,iC iO.2.1,iC iO.2.2.1]]),(1,pR 96 aK iO.2.2.2.1),(2,pR 82 aJ iO.2.2.2.2),(22,.row 29 [[iC g.aF,lo 1 iO.2.2.2.1.length,lo 2 iO.2.2.2.2.length]])] z1 z4 (bT ⟨⟨_,_,_,Q,Q,Q,bP,ai,_,fE ax⟩,J⟩ z3 ⟨⟨ah.sc,J,J,J⟩,J⟩ ⟨bg.ou ⟨kK oh,ah.sc,ah.sc,J⟩,bg.dO iP,bg.dO jo,J⟩)))))))
theorem YL (c:dJ) (n:Int):FT Try.prog (FN c n) 151 [.c (.pl 0 0),.c (iC n)] [(0,.row 139 [fM c])] (fun (t:(Bool × dJ)) => [.c (bC t.1)]) (fun (t:(Bool × dJ)) => [(0,.row 139 [fM t.2])]) []:=by
 refine FT.of [0] Try.func151 Try.ntmps151 Q y2 ?_
 intro w0 U0 R0 g0
 unfold FN
 refine Ws (Wr ?_)
 refine aI (Bv false) ak (On (Ws (Wr ?_)))
 refine aG (Cc (.pl 0 0)) y4 (aG (Iv n) y4 (aU fun r1 hr1 => (aT.step (bU [.c (.pl 0 0),.c (iC n)] (Fw.Fn.ren [(0,0)] (nP c n r1 hr1) Q) nK (jG y2) z1 y3) z3 z1 Q Q (aZ LT.eql aP (aI (Bv (r1.1 == 0)) y4 (On (bT z1 z1 ⟨ah.sc,J⟩ ⟨bg.ou ⟨kK oh,ah.sc,ah.sc,J⟩,J⟩)))))))
theorem aKw (c:dJ) (n:Int) (x:aV) (other:Int):FT Try.prog (OB c n x other) 201 [.c (.pl 0 0),.c (iC n),.agg [iC x.A,iC x.B],.c (iC other)] [(0,.row 139 [fM c])] (fun (t:(Int × dJ)) => [.c (iC t.1)]) (fun (t:(Int × dJ)) => [(0,.row 139 [fM t.2])]) []:=by
 refine FT.of [0] Try.func201 Try.ntmps201 Q y2 ?_
 intro w0 U0 R0 g0
 unfold OB
 refine Ws (Wr ?_)
 refine fZ 21 (.agg [iC x.A,iC x.B]) fG y5 (aI (Iv 0) ak (On (Ws (Wr ?_))))
 refine aG (Cc (.pl 0 0)) y4 (aG (Iv n) y4 (aU fun r1 hr1 => (aT.step (bU [.c (.pl 0 0),.c (iC n)] (Fw.Fn.ren [(0,0)] (nP c n r1 hr1) Q) nK (jG y2) z1 y3) z3 z1 Q Q (aI (Iv r1.1) y4 (On (Ws (Ws ?_)))))))
 refine aC.eG (fun j3 => ([(3,Iv other),(9,Iv r1.1),(22,Bv j3)],[(0,.row 139 [fM r1.2])])) ?_ (fun j3 _ => ?_)
 ·refine Wr (aG (Iv r1.1) y4 (dR (iC x.A) mZ bK bI (aZ LT.eql y5 (aG (Bv (r1.1 == x.A)) y4 (aT.split (fun hb4 => ?_) (fun hb4 => ?_))))))
  ·refine af hb4 y5 (af hb4 y5 (af hb4 y5 (af hb4 y5 (dn (Bv true) hb4 aP (On (aX Q z3 z1))))))
  ·refine iy (Iv r1.1) hb4 y5 (jf (iC x.B) nS bK hb4 gm (iV LT.eql hb4 y6 (gK (Bv (r1.1 == x.B)) hb4 y5 (On (aX Q z3 z1)))))
 ·refine aC.cond Q (fun hc5 => ?_) (fun hc5 => ?_)
  ·refine Ws (Wr ?_)
   refine aG (Iv other) y4 (aI (Iv other) y4 (On (bT z1 z1 ⟨ah.sc,J⟩ ⟨bg.ou ⟨kK oh,ah.sc,ah.sc,J⟩,J⟩)))
  ·refine aC.skip (Ws (Wr ?_))
   refine aG (Iv r1.1) y4 (aI (Iv r1.1) y4 (On (bT z1 z1 ⟨ah.sc,J⟩ ⟨bg.ou ⟨kK oh,ah.sc,ah.sc,J⟩,J⟩)))
theorem aDP (a:aV) (b:aV):FT Try.prog (FO a b) 164 [.agg [iC a.A,iC a.B],.agg [iC b.A,iC b.B]] [] (fun (t:Bool) => [.c (bC t)]) (fun (t:Bool) => []) []:=by
 refine FT.of [] Try.func164 Try.ntmps164 Q y2 ?_
 intro w0 U0 R0 g0
 unfold FO
 refine Ws (Wr ?_)
 refine fZ 21 (.agg [iC a.A,iC a.B]) fG y5 (fZ 22 (.agg [iC b.A,iC b.B]) fG y5 (aI (Bv false) ak (On (Ws ?_))))
 refine aC.eG (fun j3 => ([(4,Bv j3)],[])) ?_ (fun j3 _ => ?_)
 ·refine Wr (dR (iC a.A) mZ bK bI (dR (iC b.A) mZ bK bI (aZ LT.lss y5 (aG (Bv (decide (a.A < b.A))) y4 (aT.split (fun hb4 => ?_) (fun hb4 => ?_))))))
  ·refine af hb4 y5 (af hb4 y5 (af hb4 y5 (af hb4 y5 (af hb4 y5 (af hb4 y5 (Oj Q Q Q Q (Oj Q Q Q Q (Oj Q Q Q Q (Oj Q Q Q Q (Oj Q Q Q Q (af hb4 y5 ?_)))))))))))
   refine dn (Bv true) hb4 aP (aI (Bv true) y4 (On (aX Q z1 J)))
  ·refine jf (iC a.A) mZ bK hb4 gm (jf (iC b.A) mZ bK hb4 gm (iV LT.eql hb4 y6 (iy (Bv (a.A == b.A)) hb4 y5 (aT.split (fun hb5 => ?_) (fun hb5 => ?_)))))
   ·refine jf (iC a.B) nS bK hb5 gm (jf (iC b.B) nS bK hb5 gm (iV LT.leq hb5 y6 (dU (LT.pU (v:=(Bv (decide (a.B ≤ b.B)))) Q hb5) Q Q (gH hb4 Q Q) Q (gK (Bv (decide (a.B ≤ b.B))) hb4 y5 (aI (Bv (decide (a.B ≤ b.B))) y4 (On (aX Q z1 J)))))))
   ·refine af hb5 y5 (af hb5 y5 (af hb5 y5 (af hb5 y5 (af hb5 y5 (dU (LT.wO (v:=(Bv false)) Q hb5) Q y2 (gH hb4 Q Q) Q (gK (Bv false) hb4 y5 (aI (Bv false) y4 (On (aX Q z1 J)))))))))
 ·refine bT z1 J ⟨ah.sc,J⟩ J
theorem F7 (g:bM) (x:aV):FT Try.prog (yM g x) 115 [.agg (dI g),.agg [iC x.A,iC x.B]] [] (fun (t:bM) => [.agg [iC t.aF,lo 0 t.aA.length]]) (fun (t:bM) => [(0,pR 96 aK t.aA)]) [0]:=by
 refine FT.of [] Try.func115 Try.ntmps115 Q y2 ?_
 intro w0 U0 R0 g0
 unfold yM
 refine Ws (Wr ?_)
 refine fZ 21 (.agg (dI g)) dM y5 (fZ 22 (.agg [iC x.A,iC x.B]) fG y5 (dQ 23 [iC 0,sC aO] lF y6 (On (Ws (Wr ?_)))))
 refine dR (iC g.aF) lV bK bI (ny (gy 24 aK [] [] iU jQ y7) Q Q (dU (LT.build [(0,.tmp 9,.c (iC g.aF)),(1,.tmp 10,.c (lo 24 (([]:List aV).length)))] Q Q uy lF Q Q Q) Q Q Q Q (dQ 25 [iC 0,sC aO] lF y6 (dA (stA [iC g.aF,lo 24 (([]:List aV).length)] Q Q dX dM) Q Q Q Q Q (On (Ws ?_))))))
 refine en [(2,Cc (.pl 21 0)),(3,Cc (.pl 22 0)),(4,Cc (.pl 23 0)),(5,Cc (.pl 25 0))] [(21,.row 26 [dI g]),(22,.row 96 [[iC x.A,iC x.B]]),(23,.row 26 [[iC 0,sC aO]]),(24,pR 96 aK ([]:List aV)),(25,.row 26 [[iC g.aF,lo 24 (([]:List aV).length)]])] z4 z5 (Wr (aI (Bv false) ak (On (Ws (Ws (Wr ?_))))))
 refine aI (Iv 0) ak (On (aC.block ?_))
 refine aC.jP (id:=0) (A7 g x) (fun s1 => ([(2,Cc (.pl 21 0)),(3,Cc (.pl 22 0)),(4,Cc (.pl 23 0)),(5,Cc (.pl 25 0)),(6,Bv s1.1),(7,Iv s1.2.1)],[(21,.row 26 [dI g]),(22,.row 96 [[iC x.A,iC x.B]]),(23,.row 26 [[iC 0,sC aO]]),(24,pR 96 aK s1.2.2),(25,.row 26 [[iC g.aF,lo 24 s1.2.2.length]])])) (fun vg => ([(3,Cc (.pl 22 0)),(4,Cc (.pl 23 0)),(5,Cc (.pl 25 0)),(6,Bv vg.1)],[(22,.row 96 [[iC x.A,iC x.B]]),(23,.row 26 [[iC 0,sC aO]]),(24,pR 96 aK vg.2),(25,.row 26 [[iC g.aF,lo 24 vg.2.length]])])) ?_ (aj.of z6 z5) Q (fun vg _ => ?_)
 ·intro s1
  unfold A7
  refine Ws (Ws (Wr ?_))
  refine aG (Iv s1.2.1) y4 (dR (xF aK g.aA) gq iQ bI (au (LT.gB Q iU) Q Q Q (aZ LT.lss y5 (On (aC.cond Q (fun LZ => ?_) (fun LZ => ?_))))))
  ·refine aC.skip (Ws (aC.block (Ws (Ws ?_))))
   refine aC.eG (fun j34 => ([(2,Cc (.pl 21 0)),(3,Cc (.pl 22 0)),(4,Cc (.pl 23 0)),(5,Cc (.pl 25 0)),(6,Bv s1.1),(7,Iv s1.2.1),(30,Bv j34)],[(21,.row 26 [dI g]),(22,.row 96 [[iC x.A,iC x.B]]),(23,.row 26 [[iC 0,sC aO]]),(24,pR 96 aK s1.2.2),(25,.row 26 [[iC g.aF,lo 24 s1.2.2.length]])])) ?_ (fun j34 _ => ?_)
   ·refine aC.draw mixed (aY (Bv s1.1) y4 (bH (LT.not Q) Q Q Q (aY (Bv (!s1.1)) y4 (aN.split (fun kz => ?_) (fun kz => ?_)))))
    ·refine qA (xF aK g.aA) gq iQ kz gm (kD (Iv s1.2.1) kz y5 (aN.bind fun Pn aHm => (bQ (LT.dZ (enc:=aK) Q oL aHm fG) Q Q (gH kz Q Q) Q (bH (kC Q lU jW fG) Q (gH kz Q Q) Q (bV (bD [iC x.A,iC x.B] Q lU jW fG) Q Q (gH kz Q Q) Q (aN.bind fun sF Ei => (aN.pure (bU [.agg [iC Pn.A,iC Pn.B],.agg [iC x.A,iC x.B]] (aDP Pn x sF Ei) Y6 (DX y4) J y3) z3 J (gH kz Q Q) Q (bH (LT.not Q) Q (gH kz Q Q) Q (gW (Bv (!sF)) kz y5 (dF ?_))))))))))
     refine aX Q z7 z5
    ·refine aS kz y3 (aS kz y3 (aS kz y3 (aS kz y3 (aS kz y3 (aS kz y3 (aS kz y3 (aS kz y3 (dD (Bv false) kz aP (dF (aX Q z7 z5))))))))))
   ·refine aC.eG (fun j40 => ([(2,Cc (.pl 21 0)),(3,Cc (.pl 22 0)),(4,Cc (.pl 23 0)),(5,Cc (.pl 25 0)),(6,Bv j40.1),(7,Iv s1.2.1)],[(21,.row 26 [dI g]),(22,.row 96 [[iC x.A,iC x.B]]),(23,.row 26 [[iC 0,sC aO]]),(24,pR 96 aK j40.2),(25,.row 26 [[iC g.aF,lo 24 j40.2.length]])])) ?_ (fun j40 _ => ?_)
    ·refine aC.cond Q (fun Eb => ?_) (fun Eb => ?_)
     ·refine Ws (Wr ?_)
      refine dR (lo 24 s1.2.2.length) gq iQ bI (cZ (bD [iC x.A,iC x.B] Q lU jW fG) Q Q Q Q (oC (gy 27 aK [(0,.tmp 33,.agg [iC x.A,iC x.B])] [x] iU jQ y7) Q Q Q (aU fun u42 aHc => (oW (LT.ng (enc:=aK) Q Q Q iU jQ Q (by decide) (by decide) (fun _ => Q) (jw aHc)) Q Q Q Q Q Q (au (LT.eu Q gq) Q Q Q (dA (rD (.c (lo 24 ((s1.2.2 ++ [x]).length))) [iC g.aF,lo 24 ((s1.2.2 ++ [x]).length)] Q Q Eo Fp) Q Q Q Q Q (On (en [(2,Cc (.pl 21 0)),(3,Cc (.pl 22 0)),(4,Cc (.pl 23 0)),(5,Cc (.pl 25 0)),(7,Iv s1.2.1)] [(21,.row 26 [dI g]),(22,.row 96 [[iC x.A,iC x.B]]),(23,.row 26 [[iC 0,sC aO]]),(24,pR 96 aK (s1.2.2 ++ [x])),(25,.row 26 [[iC g.aF,lo 24 ((s1.2.2 ++ [x]).length)]])] z5 z5 (Wr (aI (Bv true) ak ?_))))))))))
      refine On (aX Q z6 z5)
     ·refine aC.skip (aX Q z6 z5)
    ·refine aC.draw mixed (dw (lo 24 j40.2.length) gq iQ bI (dw (xF aK g.aA) gq iQ bI (aY (Iv s1.2.1) y4 (aN.bind fun x43 MR => (bQ (LT.dZ (enc:=aK) Q oL MR fG) Q Q Q Q (bH (kC Q lU jW fG) Q Q Q (Dw (gy 28 aK [(0,.tmp 43,.agg [iC x43.A,iC x43.B])] [x43] iU jQ y7) Q Q Q (aN.bind fun u44 MH => (KI (LT.ng (enc:=aK) Q Q Q iU jQ Q (by decide) (by decide) (fun _ => Q) (jw MH)) Q Q Q Q Q Q ?_)))))))))
     refine bH (LT.eu Q gq) Q Q Q (iY (rD (.c (lo 24 ((j40.2 ++ [x43]).length))) [iC g.aF,lo 24 ((j40.2 ++ [x43]).length)] Q Q Eo Fp) Q Q Q Q Q (dF (aC.blk (en [(2,Cc (.pl 21 0)),(3,Cc (.pl 22 0)),(4,Cc (.pl 23 0)),(5,Cc (.pl 25 0)),(6,Bv j40.1),(7,Iv s1.2.1)] [(21,.row 26 [dI g]),(22,.row 96 [[iC x.A,iC x.B]]),(23,.row 26 [[iC 0,sC aO]]),(24,pR 96 aK (j40.2 ++ [x43])),(25,.row 26 [[iC g.aF,lo 24 ((j40.2 ++ [x43]).length)]])] z6 z5 (Wr (aG (Iv s1.2.1) y4 (aZ LT.add aP (aI (Iv (aB (s1.2.1 + 1))) y4 (On (aX Q z6 z5))))))))))
  ·refine gJ y2 z4 z4
 ·refine Ws (Ws (Wr ?_))
  refine aG (Bv vg.1) y4 (au (LT.not Q) Q Q Q (On (aC.eG (fun j47 => ([(4,Cc (.pl 23 0)),(5,Cc (.pl 25 0))],[(23,.row 26 [[iC 0,sC aO]]),(24,pR 96 aK j47),(25,.row 26 [[iC g.aF,lo 24 j47.length]])])) ?_ (fun j47 _ => ?_))))
  ·refine aC.cond Q (fun La => ?_) (fun La => ?_)
   ·refine Wr (dR (lo 24 vg.2.length) gq iQ bI (cZ (bD [iC x.A,iC x.B] Q lU jW fG) Q Q Q Q (oC (gy 29 aK [(0,.tmp 51,.agg [iC x.A,iC x.B])] [x] iU jQ y7) Q Q Q (aU fun u49 aHd => (oW (LT.ng (enc:=aK) Q Q Q iU jQ Q (by decide) (by decide) (fun _ => Q) (jw aHd)) Q Q Q Q Q Q (au (LT.eu Q gq) Q Q Q (dA (rD (.c (lo 24 ((vg.2 ++ [x]).length))) [iC g.aF,lo 24 ((vg.2 ++ [x]).length)] Q Q Eo Fp) Q Q Q Q Q (On (aX Q z2 z3)))))))))
   ·refine aC.skip (aX Q z2 z3)
  ·refine Ws (Wr ?_)
   refine cZ (bD [iC g.aF,lo 24 j47.length] Q iI dX dM) Q Q Q Q (dA (stA [iC g.aF,lo 24 j47.length] Q Q dX dM) Q Q Q Q Q (On (en [(4,Cc (.pl 23 0))] [(23,.row 26 [[iC g.aF,lo 24 j47.length]]),(24,pR 96 aK j47)] z1 z2 (aC.ent (aj.mv 24 0 Q Q) (en [(4,Cc (.pl 23 0))] [(0,pR 96 aK j47),(23,.row 26 [[iC g.aF,lo 0 j47.length]])] z1 z2 (bT ⟨⟨_,_,_,Q,Q,Q,iI,dM,_,fE dX⟩,J⟩ z1 ⟨⟨ah.sc,J,J⟩,J⟩ ⟨bg.dO iP,J⟩))))))
theorem Dl (x:Int) (low:Int) (high:Int):FT Try.prog (xH x low high) 87 [.c (iC x),.c (iC low),.c (iC high)] [] (fun (t:Bool) => [.c (bC t)]) (fun (t:Bool) => []) []:=by
 refine FT.of [] Try.func87 Try.ntmps87 Q y2 ?_
 intro w0 U0 R0 g0
 unfold xH
 refine Ws (Wr ?_)
 refine aI (Bv false) ak (On (Ws ?_))
 refine aC.eG (fun j2 => ([(6,Bv j2)],[])) ?_ (fun j2 _ => ?_)
 ·refine Wr (aG (Iv x) y4 (aG (Iv low) y4 (aZ LT.geq y5 (aG (Bv (decide (low ≤ x))) y4 (aT.split (fun hb3 => ?_) (fun hb3 => ?_))))))
  ·refine iy (Iv x) hb3 y5 (iy (Iv high) hb3 y5 (iV LT.leq hb3 y6 (dn (Bv (decide (x ≤ high))) hb3 y5 (aI (Bv (decide (x ≤ high))) y4 (On (aX Q z1 J))))))
  ·refine af hb3 y5 (af hb3 y5 (af hb3 y5 (gK (Bv false) hb3 aP (aI (Bv false) y4 (On (aX Q z1 J))))))
 ·refine bT z1 J ⟨ah.sc,J⟩ J
theorem UB (g:bM):FT Try.prog (Cb g) 86 [.agg (dI g)] [] (fun (t:Bool) => [.c (bC t)]) (fun (t:Bool) => []) []:=by
 refine FT.of [] Try.func86 Try.ntmps86 Q y2 ?_
 intro w0 U0 R0 g0
 unfold Cb
 refine Ws (Wr ?_)
 refine fZ 21 (.agg (dI g)) dM y5 (aI (Bv false) ak (On (Ws (Ws ?_))))
 refine aC.eG (fun j3 => ([(1,Cc (.pl 21 0)),(14,Bv j3)],[(21,.row 26 [dI g])])) ?_ (fun j3 _ => ?_)
 ·refine Wr (dR (iC g.aF) lV bK bI (aU fun r4 hr4 => (jC [.c (iC g.aF),.c (iC 1),.c (iC 8)] (Dl g.aF 1 8 r4 hr4) Bf (vV y3) y5 ⟨Q,Q,y2,y2,J⟩ (au (LT.not Q) Q Q Q (aG (Bv (!r4)) y4 (aT.split (fun hb5 => ?_) (fun hb5 => ?_)))))))
  ·refine af hb5 y5 (af hb5 y5 (af hb5 y5 (af hb5 y5 (dn (Bv true) hb5 aP (On (aX Q z2 z1))))))
  ·refine jf (xF aK g.aA) gq iQ hb5 gm (au (LT.gB Q iU) Q (gH hb5 Q Q) Q (iV LT.gtr hb5 kY (gK (Bv (decide (24 < (g.aA.length:Int)))) hb5 y5 (On (aX Q z2 z1)))))
 ·refine aC.cond Q (fun hc6 => ?_) (fun hc6 => ?_)
  ·refine Ws (Wr ?_)
   refine aI (Bv false) ak (On (bT z1 J ⟨ah.sc,J⟩ J))
  ·refine aC.skip (Ws (Ws (Wr ?_)))
   refine aI (Iv 0) ak (On (aC.block ?_))
   refine aC.ql (id:=0) (Np g) (fun s7 => ([(1,Cc (.pl 21 0)),(3,Iv s7)],[(21,.row 26 [dI g])])) (fun KR => ([],[])) (lI Try.prog Try.f86.results.toList [] [] (fun (t:Bool) => [.c (bC t)]) (fun (t:Bool) => [])) ?_ (aj.of z2 z1) Q (fun KR _ => ?_) qj
   ·intro s7
    unfold Np
    refine Ws (Ws (Wr ?_))
    refine aG (Iv s7) y4 (dR (xF aK g.aA) gq iQ bI (au (LT.gB Q iU) Q Q Q (aZ LT.lss y5 (On (aC.cond Q (fun Eb => ?_) (fun Eb => ?_))))))
    ·refine aC.skip (Ws (aC.block (Ws (Wr ?_))))
     refine dR (xF aK g.aA) gq iQ bI (aG (Iv s7) y4 (aU fun gu Bz => (dU (LT.dZ (enc:=aK) Q oL Bz fG) Q Q Q Q (au (kC Q lU jW fG) Q Q Q (dQ 23 [iC 0,iC 0] jQ y6 (dA (stA [iC gu.A,iC gu.B] Q Q jW fG) Q Q Q Q Q (On (Ws ?_))))))))
     refine aC.eG (fun j49 => ([(1,Cc (.pl 21 0)),(3,Iv s7),(58,Bv j49)],[(21,.row 26 [dI g])])) ?_ (fun j49 _ => ?_)
     ·refine en [(1,Cc (.pl 21 0)),(3,Iv s7),(4,Cc (.pl 23 0))] [(21,.row 26 [dI g]),(23,.row 96 [[iC gu.A,iC gu.B]])] z3 z2 (aC.draw mixed (dw (iC gu.A) mZ bK bI (jS LT.lss aP (aY (Bv (decide (gu.A < 0))) y4 (aN.split (fun pG => ?_) (fun pG => ?_))))))
      ·refine aS pG y3 (aS pG y3 (aS pG y3 (aS pG y3 (aS pG y3 (gW (Bv true) pG aP (aY (Bv true) y4 (aH y3 (aH y3 (aH y3 (aH y3 (aH y3 ?_)))))))))))
       refine gW (Bv true) Q aP (aY (Bv true) y4 (aH y3 (aH y3 (aH y3 (aH y3 (aH y3 (aH y3 (aH y3 (aH y3 (aH y3 (aH y3 ?_)))))))))))
       refine aH y3 (aH y3 (aH y3 (gW (Bv true) Q aP (dF (aX Q z3 z1)))))
      ·refine qA (iC gu.A) mZ bK pG gm (qA (iC gu.B) nS bK pG gm (sN LT.geq pG y6 (dD (Bv (decide (gu.B ≤ gu.A))) pG y5 (aY (Bv (decide (gu.B ≤ gu.A))) y4 (aN.split (fun pI => ?_) (fun pI => ?_))))))
       ·refine aS pI y3 (aS pI y3 (aS pI y3 (aS pI y3 (aS pI y3 (gW (Bv true) pI aP (aY (Bv true) y4 (aH y3 (aH y3 (aH y3 (aH y3 (aH y3 ?_)))))))))))
        refine aH y3 (aH y3 (aH y3 (aH y3 (aH y3 (aH y3 (aH y3 (aH y3 (gW (Bv true) Q aP (dF (aX Q z3 z1))))))))))
       ·refine qA (iC gu.B) nS bK pI gm (qA (iC g.aF) lV bK pI gm (sN LT.geq pI y6 (dD (Bv (decide (g.aF ≤ gu.B))) pI y5 (aY (Bv (decide (g.aF ≤ gu.B))) y4 (aN.split (fun nT => ?_) (fun nT => ?_))))))
        ·refine aS nT y3 (aS nT y3 (aS nT y3 (aH y3 (aH y3 (aH y3 (aH y3 (aH y3 (aH y3 (aH y3 (aH y3 (aH y3 ?_)))))))))))
         refine aS nT y3 (gW (Bv true) nT aP (dF (aX Q z3 z1)))
        ·refine kD (Iv s7) nT y5 (sN LT.gtr nT kY (kD (Bv (decide (0 < s7))) nT y5 (aN.split (fun jg => ?_) (fun jg => ?_))))
         ·refine qA (xF aK g.aA) gq iQ jg gm (kD (Iv s7) jg y5 (sN LT.sub jg kY (aN.bind fun x54 MV => (bQ (LT.dZ (enc:=aK) Q oL MV fG) Q Q (gH jg Q Q) Q (bH (kC Q lU jW fG) Q (gH jg Q Q) Q (bV (bD [iC gu.A,iC gu.B] Q lU jW fG) Q Q (gH jg Q Q) Q (aN.bind fun yP Vt => (aN.pure (bU [.agg [iC x54.A,iC x54.B],.agg [iC gu.A,iC gu.B]] (aDP x54 gu yP Vt) Y6 (DX y4) J y3) z3 J (gH jg Q Q) Q (bH (LT.not Q) Q (gH jg Q Q) Q (bQ (LT.pU (v:=(Bv (!yP))) Q jg) Q Q (gH nT Q Q) Q ?_))))))))))
          refine dD (Bv (!yP)) nT y5 (dF (aX Q z3 z1))
         ·refine aS jg y3 (aS jg y3 (aS jg y3 (aS jg y3 (aS jg y3 (aS jg y3 (aS jg y3 (aS jg y3 (aS jg y3 (bQ (LT.wO (v:=(Bv false)) Q jg) Q y2 (gH nT Q Q) Q (dD (Bv false) nT y5 (dF ?_)))))))))))
          refine aX Q z3 z1
     ·refine aC.cond Q (fun Va => ?_) (fun Va => ?_)
      ·refine Ws (Wr ?_)
       refine aI (Bv false) ak (On (aC.ret ⟨Q,qc z1 J ⟨ah.sc,J⟩ J⟩))
      ·refine aC.skip (aC.blk (Wr ?_))
       refine aG (Iv s7) y4 (aZ LT.add aP (aI (Iv (aB (s7 + 1))) y4 (On (aX Q z2 z1))))
    ·refine gJ y2 J J
   ·refine Ws (Wr ?_)
    refine aI (Bv true) ak (On (bT z1 J ⟨ah.sc,J⟩ J))
theorem YM (g:bM):FT Try.prog (DF g) 112 [.agg (dI g)] [] (fun (t:bM) => [.agg [iC t.aF,lo 0 t.aA.length]]) (fun (t:bM) => [(0,pR 96 aK t.aA)]) [0]:=by
 refine FT.of [] Try.func112 Try.ntmps112 Q y2 ?_
 intro w0 U0 R0 g0
 unfold DF
 refine Ws (Wr ?_)
 refine fZ 21 (.agg (dI g)) dM y5 (dQ 22 [iC 0,sC aO] lF y6 (On (Ws (aC.draw mixed ?_))))
 refine dw (iC g.aF) lV bK bI (zW (gy 23 aK [] [] iU jQ y7) Q Q (dw (xF aK g.aA) gq iQ bI (aN.bind fun u1 hu1 => (iY (LT.BM (enc:=aK) Q  Q iU jQ Q (by decide) (by decide) (fun _ => Q) (jw hu1)) Q Q Q Q Q (bQ (LT.build [(0,.tmp 4,.c (iC g.aF)),(1,.tmp 8,.c (lo 23 ((([]:List aV) ++ g.aA).length)))] Q Q uy lF Q Q Q) Q Q Q Q (iY (stA [iC g.aF,lo 23 ((([]:List aV) ++ g.aA).length)] Q Q dX dM) Q Q Q Q Q (dF (en [(2,Cc (.pl 22 0))] [(22,.row 26 [[iC g.aF,lo 23 ((([]:List aV) ++ g.aA).length)]]),(23,pR 96 aK (([]:List aV) ++ g.aA))] z1 z2 (aC.ent (aj.mv 23 0 Q Q) ?_)))))))))
 refine en [(2,Cc (.pl 22 0))] [(0,pR 96 aK (([]:List aV) ++ g.aA)),(22,.row 26 [[iC g.aF,lo 0 ((([]:List aV) ++ g.aA).length)]])] z1 z2 (bT ⟨⟨_,_,_,Q,Q,Q,iI,dM,_,fE dX⟩,J⟩ z1 ⟨⟨ah.sc,J,J⟩,J⟩ ⟨bg.dO iP,J⟩)
theorem PY (x:Int) (IE:Int) (hi:Int):FT Try.prog (Am x IE hi) 167 [.c (iC x),.c (iC IE),.c (iC hi)] [] (fun (t:Bool) => [.c (bC t)]) (fun (t:Bool) => []) []:=by
 refine FT.of [] Try.func167 Try.ntmps167 Q y2 ?_
 intro w0 U0 R0 g0
 unfold Am
 refine Ws (Wr ?_)
 refine aI (Bv false) ak (On (Ws ?_))
 refine aC.eG (fun j2 => ([(6,Bv j2)],[])) ?_ (fun j2 _ => ?_)
 ·refine Wr (aG (Iv x) y4 (aG (Iv IE) y4 (aZ LT.geq y5 (aG (Bv (decide (IE ≤ x))) y4 (aT.split (fun hb3 => ?_) (fun hb3 => ?_))))))
  ·refine iy (Iv x) hb3 y5 (iy (Iv hi) hb3 y5 (iV LT.leq hb3 y6 (dn (Bv (decide (x ≤ hi))) hb3 y5 (aI (Bv (decide (x ≤ hi))) y4 (On (aX Q z1 J))))))
  ·refine af hb3 y5 (af hb3 y5 (af hb3 y5 (gK (Bv false) hb3 aP (aI (Bv false) y4 (On (aX Q z1 J))))))
 ·refine bT z1 J ⟨ah.sc,J⟩ J
theorem aDC (a:Int) (b:Int):FT Try.prog (Ii a b) 199 [.c (iC a),.c (iC b)] [] (fun (t:Int) => [.c (iC t)]) (fun (t:Int) => []) []:=by
 refine FT.of [] Try.func199 Try.ntmps199 Q y2 ?_
 intro w0 U0 R0 g0
 unfold Ii
 refine Ws (Wr ?_)
 refine aI (Iv 0) ak (On (Ws (aC.block (Ws (Wr ?_)))))
 refine aG (Iv a) y4 (aG (Iv b) y4 (aZ LT.lss y5 (aI (Bv (decide (a < b))) y4 (On (aC.cond Q (fun hc1 => ?_) (fun hc1 => ?_))))))
 ·refine Ws (Wr ?_)
  refine aI (Iv (-1)) ak (On (bT z1 J ⟨ah.sc,J⟩ J))
 ·refine Ws (Wr ?_)
  refine aG (Iv a) y4 (aG (Iv b) y4 (aZ LT.gtr y5 (aI (Bv (decide (b < a))) y4 (On (aC.cond Q (fun hc2 => ?_) (fun hc2 => ?_))))))
  ·refine Ws (Wr ?_)
   refine aI (Iv 1) ak (On (bT z1 J ⟨ah.sc,J⟩ J))
  ·refine aC.skip (aC.blk (Ws (Wr ?_)))
   refine aI (Iv 0) ak (On (bT z1 J ⟨ah.sc,J⟩ J))
theorem aKP (x:aV) (y:aV):FT Try.prog (Ih x y) 179 [.agg [iC x.A,iC x.B],.agg [iC y.A,iC y.B]] [] (fun (t:Int) => [.c (iC t)]) (fun (t:Int) => []) []:=by
 refine FT.of [] Try.func179 Try.ntmps179 Q y2 ?_
 intro w0 U0 R0 g0
 unfold Ih
 refine Ws (Wr ?_)
 refine fZ 21 (.agg [iC x.A,iC x.B]) fG y5 (fZ 22 (.agg [iC y.A,iC y.B]) fG y5 (aI (Iv 0) ak (On (Ws (Ws (Wr ?_))))))
 refine dR (iC x.A) mZ bK bI (dR (iC y.A) mZ bK bI (aU fun r1 hr1 => (jC [.c (iC x.A),.c (iC y.A)] (aDC x.A y.A r1 hr1) ZA (jG y2) y5 z3 (aI (Iv r1) y4 (On (Ws ?_))))))
 refine en [(2,Cc (.pl 21 0)),(3,Cc (.pl 22 0)),(5,Iv r1)] [(21,.row 96 [[iC x.A,iC x.B]]),(22,.row 96 [[iC y.A,iC y.B]])] z3 z2 (Wr (aG (Iv r1) y4 (aZ LT.neq aP (On (aC.cond Q (fun hc2 => ?_) (fun hc2 => ?_))))))
 ·refine Ws (Wr ?_)
  refine aG (Iv r1) y4 (aI (Iv r1) y4 (On (bT z1 J ⟨ah.sc,J⟩ J)))
 ·refine aC.skip (Ws (Wr ?_))
  refine dR (iC x.B) nS bK bI (dR (iC y.B) nS bK bI (aU fun r3 hr3 => (jC [.c (iC x.B),.c (iC y.B)] (aDC x.B y.B r3 hr3) ZA (jG y2) y5 z3 (aI (Iv r3) y4 (On (bT z1 J ⟨ah.sc,J⟩ J))))))
theorem aKp (g:bM) (k:Int):FT Try.prog (Ns g k) 202 [.agg (dI g),.c (iC k)] [] (fun (t:(bM × Bool)) => [.agg [iC t.1.aF,lo 0 t.1.aA.length],.c (bC t.2)]) (fun (t:(bM × Bool)) => [(0,pR 96 aK t.1.aA)]) [0]:=by
 refine FT.of [] Try.func202 Try.ntmps202 Q y2 ?_
 intro w0 U0 R0 g0
 unfold Ns
 refine Ws (Wr ?_)
 refine fZ 21 (.agg (dI g)) dM y5 (dQ 22 [iC 0,sC aO] lF y6 (aI (Bv false) ak (On (Ws (Ws ?_)))))
 refine aC.eG (fun j4 => ([(1,Iv k),(2,Cc (.pl 21 0)),(4,Cc (.pl 22 0)),(19,Bv j4)],[(21,.row 26 [dI g]),(22,.row 26 [[iC 0,sC aO]])])) ?_ (fun j4 _ => ?_)
 ·refine Wr (cZ (bD (dI g) Q iI dX dM) Q Q Q Q (aU fun r5 nU => (jC [.agg (dI g)] (UB g r5 nU) QJ (qV y2) y5 z2 (au (LT.not Q) Q Q Q (aG (Bv (!r5)) y4 (aT.split (fun hb6 => ?_) (fun hb6 => ?_)))))))
  ·refine af hb6 y5 (af hb6 y5 (dn (Bv true) hb6 aP (aG (Bv true) y4 (bY y5 (bY y5 (bY y5 (bY y5 (bY y5 (dn (Bv true) Q aP (On (aX Q z4 z2)))))))))))
  ·refine iy (Iv k) hb6 y5 (iV LT.lss hb6 kY (gK (Bv (decide (k < 0))) hb6 y5 (aG (Bv (decide (k < 0))) y4 (aT.split (fun hb7 => ?_) (fun hb7 => ?_)))))
   ·refine af hb7 y5 (af hb7 y5 (af hb7 y5 (af hb7 y5 (af hb7 y5 (dn (Bv true) hb7 aP (On (aX Q z4 z2)))))))
   ·refine iy (Iv k) hb7 y5 (jf (xF aK g.aA) gq iQ hb7 gm (au (LT.gB Q iU) Q (gH hb7 Q Q) Q (iV LT.geq hb7 y6 (gK (Bv (decide ((g.aA.length:Int) ≤ k))) hb7 y5 (On (aX Q z4 z2))))))
 ·refine aC.cond Q (fun hc8 => ?_) (fun hc8 => ?_)
  ·refine Ws (Wr ?_)
   refine cZ (bD (dI g) Q iI dX dM) Q Q Q Q (aU fun r9 yH => (aT.step (bU [.agg (dI g)] (Fw.Fn.ren [(0,25)] (YM g r9 yH) Q) Ud (qV y2) J y3) z2 J Q Q (dA (stA [iC r9.aF,lo 25 r9.aA.length] Q Q dX dM) Q Q Q Q Q (aI (Bv false) ak (On (en [(4,Cc (.pl 22 0)),(5,Bv false)] [(22,.row 26 [[iC r9.aF,lo 25 r9.aA.length]]),(25,pR 96 aK r9.aA)] z2 z2 (aC.ent (aj.mv 25 0 Q Q) (en [(4,Cc (.pl 22 0)),(5,Bv false)] [(0,pR 96 aK r9.aA),(22,.row 26 [[iC r9.aF,lo 0 r9.aA.length]])] z2 z2 (bT ⟨⟨_,_,_,Q,Q,Q,iI,dM,_,fE dX⟩,Q,J⟩ z1 ⟨⟨ah.sc,J,J⟩,ah.sc,J⟩ ⟨bg.dO iP,J⟩)))))))))
  ·refine aC.skip (Ws (aC.draw mixed ?_))
   refine dw (iC g.aF) lV bK bI (zW (gy 26 aK [] [] iU jQ y7) Q Q (dw (xF aK g.aA) gq iQ bI (aY (Iv k) y4 (aN.bind fun v10 Qx => (bQ (LT.J4 (enc:=aK) (kU:=none) (kT:=(some (.tmp 27,k))) (l:=0) (h:=k.toNat) Q Q Q iU jW (fun _ => by rw [fG]; rfl) (.inr y2) (.inl ⟨_,_,Q,Int.le_trans (zO Qx).1 (zO Qx).2.1,Q⟩) (Jy Qx) (Jw Qx)) Q Q Q Q (aN.bind fun u11 aHQ => (iY (LT.BM (enc:=aK) Q  Q iU jQ Q (by decide) (by decide) (fun _ => Q) (jw aHQ)) Q Q Q Q Q (dw (xF aK g.aA) gq iQ bI ?_))))))))
   refine aY (Iv k) y4 (jS LT.add aP (aN.bind fun v12 WJ => (bQ (LT.J4 (enc:=aK) (kU:=(some (.tmp 33,aB (k + 1)))) (kT:=none) (l:=(aB (k + 1)).toNat) (h:=g.aA.length) Q Q Q iU jW (fun _ => by rw [fG]; rfl) (.inl ⟨_,_,Q,(zO WJ).1,Q⟩) (.inr y2) (Jy WJ) (Jw WJ)) Q Q Q Q (aN.bind fun u13 aHR => (iY (LT.BM (enc:=aK) Q  Q iU jQ Q (by decide) (by decide) (fun _ => Q) (jw aHR)) Q Q Q Q Q (bQ (LT.build [(0,.tmp 23,.c (iC g.aF)),(1,.tmp 35,.c (lo 26 (((([]:List aV) ++ ((g.aA.take k.toNat).drop 0)) ++ ((g.aA.take g.aA.length).drop ((aB (k + 1)).toNat))).length)))] Q Q uy lF Q Q Q) Q Q Q Q (iY (stA [iC g.aF,lo 26 (((([]:List aV) ++ ((g.aA.take k.toNat).drop 0)) ++ ((g.aA.take g.aA.length).drop ((aB (k + 1)).toNat))).length)] Q Q dX dM) Q Q Q Q Q (bH (LT.assign (v:=(Bv true)) Q) y2 Q Q (dF (en [(4,Cc (.pl 22 0)),(5,Bv true)] [(22,.row 26 [[iC g.aF,lo 26 (((([]:List aV) ++ ((g.aA.take k.toNat).drop 0)) ++ ((g.aA.take g.aA.length).drop ((aB (k + 1)).toNat))).length)]]),(26,pR 96 aK ((([]:List aV) ++ ((g.aA.take k.toNat).drop 0)) ++ ((g.aA.take g.aA.length).drop ((aB (k + 1)).toNat))))] z2 z2 (aC.ent (aj.mv 26 0 Q Q) ?_)))))))))))
   refine en [(4,Cc (.pl 22 0)),(5,Bv true)] [(0,pR 96 aK ((([]:List aV) ++ ((g.aA.take k.toNat).drop 0)) ++ ((g.aA.take g.aA.length).drop ((aB (k + 1)).toNat)))),(22,.row 26 [[iC g.aF,lo 0 (((([]:List aV) ++ ((g.aA.take k.toNat).drop 0)) ++ ((g.aA.take g.aA.length).drop ((aB (k + 1)).toNat))).length)]])] z2 z2 (bT ⟨⟨_,_,_,Q,Q,Q,iI,dM,_,fE dX⟩,Q,J⟩ z1 ⟨⟨ah.sc,J,J⟩,ah.sc,J⟩ ⟨bg.dO iP,J⟩)
theorem aDQ (c:dJ) (n:Int):FT Try.prog (JW c n) 188 [.c (.pl 0 0),.c (iC n)] [(0,.row 139 [fM c])] (fun (t:(bM × dJ)) => [.agg [iC t.1.aF,lo 1 t.1.aA.length]]) (fun (t:(bM × dJ)) => [(0,.row 139 [fM t.2]),(1,pR 96 aK t.1.aA)]) [1]:=by
 refine FT.of [0] Try.func188 Try.ntmps188 Q y2 ?_
 intro w0 U0 R0 g0
 unfold JW
 refine Ws (Wr ?_)
 refine dQ 21 [iC 0,sC aO] lF y6 (On (Ws (Wr ?_)))
 refine aG (Iv n) y4 (ny (gy 22 aK [] [] iU jQ y7) Q Q (dU (LT.build [(0,.tmp 12,.c (iC n)),(1,.tmp 13,.c (lo 22 (([]:List aV).length)))] Q Q uy lF Q Q Q) Q Q Q Q (dQ 23 [iC 0,sC aO] lF y6 (dA (stA [iC n,lo 22 (([]:List aV).length)] Q Q dX dM) Q Q Q Q Q (On (Ws (Ws ?_)))))))
 refine en [(0,Cc (.pl 0 0)),(1,Iv n),(4,Cc (.pl 21 0)),(5,Cc (.pl 23 0))] [(0,.row 139 [fM c]),(21,.row 26 [[iC 0,sC aO]]),(22,pR 96 aK ([]:List aV)),(23,.row 26 [[iC n,lo 22 (([]:List aV).length)]])] z4 z4 (Wr (aG (Iv n) y4 (aZ LT.lss aP (On (aC.cond Q (fun hc1 => ?_) (fun hc1 => ?_))))))
 ·refine Ws (Wr ?_)
  refine cZ (bD [iC n,lo 22 (([]:List aV).length)] Q iI dX dM) Q Q Q Q (dA (stA [iC n,lo 22 (([]:List aV).length)] Q Q dX dM) Q Q Q Q Q (On (en [(4,Cc (.pl 21 0))] [(0,.row 139 [fM c]),(21,.row 26 [[iC n,lo 22 (([]:List aV).length)]]),(22,pR 96 aK ([]:List aV))] z1 z3 (aC.ent (aj.mv 22 1 Q Q) (en [(4,Cc (.pl 21 0))] [(0,.row 139 [fM c]),(1,pR 96 aK ([]:List aV)),(21,.row 26 [[iC n,lo 1 (([]:List aV).length)]])] z1 z3 (bT ⟨⟨_,_,_,Q,Q,Q,iI,dM,_,fE dX⟩,J⟩ z2 ⟨⟨ah.sc,J,J⟩,J⟩ ⟨bg.ou ⟨kK oh,ah.sc,ah.sc,J⟩,bg.dO iP,J⟩))))))
 ·refine aC.skip (Ws (Wr ?_))
  refine cZ (bD [iC n,lo 22 (([]:List aV).length)] Q iI dX dM) Q Q Q Q (dU (LT.build [(0,.const (.int .i64 0),.c (iC 0)),(1,.const (.int .i64 1),.c (iC 1))] Q Q zJ jQ Q Q Q) y2 y2 Q Q (aU fun r2 hr2 => (aT.step (cF [.agg [iC n,lo 22 (([]:List aV).length)],.agg [iC 0,iC 1]] [(22,pR 96 aK ([]:List aV))] (Fw.Fn.ren [(0,25)] (F7 (bM.mk n ([]:List aV)) (aV.mk 0 1) r2 hr2) Q) EF (.cons (.agg (.cons (.same Q) (.cons (.dG Q Q) .nil))) (.cons (.agg (.cons (.same Q) (.cons (.same Q) .nil))) .nil)) J y3) z3 z1 Q Q (dA (stA [iC r2.aF,lo 25 r2.aA.length] Q Q dX dM) Q Q Q Q Q (On (Ws (Ws (Wr ?_))))))))
  refine aI (Iv 2) ak (On (aC.block ?_))
  refine aC.jP (id:=0) (JX n) (fun s3 => ([(0,Cc (.pl 0 0)),(1,Iv n),(4,Cc (.pl 21 0)),(5,Cc (.pl 23 0)),(6,Iv s3.1)],[(0,.row 139 [[xT bn s3.2.1,iC s3.2.2.1,iC s3.2.2.2.1]]),(21,.row 26 [[iC 0,sC aO]]),(23,.row 26 [[iC s3.2.2.2.2.1,lo 25 s3.2.2.2.2.2.length]]),(25,pR 96 aK s3.2.2.2.2.2)])) (fun mW => ([(4,Cc (.pl 21 0)),(5,Cc (.pl 23 0))],[(0,.row 139 [[xT bn mW.1,iC mW.2.1,iC mW.2.2.1]]),(21,.row 26 [[iC 0,sC aO]]),(23,.row 26 [[iC mW.2.2.2.1,lo 25 mW.2.2.2.2.length]]),(25,pR 96 aK mW.2.2.2.2)])) ?_ (aj.of z5 z4) Q (fun mW _ => ?_)
  ·intro s3
   unfold JX
   refine Ws (Ws (Wr ?_))
   refine aG (Iv s3.1) y4 (aG (Iv n) y4 (aZ LT.lss y5 (On (aC.cond Q (fun hc104 => ?_) (fun hc104 => ?_)))))
   ·refine aC.skip (Ws (aC.block (Ws (Wr ?_))))
    refine aG (Cc (.pl 0 0)) y4 (aG (Iv s3.1) y4 (aU fun qR aGK => (aT.step (bU [.c (.pl 0 0),.c (iC s3.1)] (Fw.Fn.ren [(0,0)] (nP (dJ.mk s3.2.1 s3.2.2.1 s3.2.2.2.1) s3.1 qR aGK) Q) nK (jG y2) z1 y3) z3 z1 Q Q (aI (Iv qR.1) y4 (On (Ws (Wr ?_)))))))
    refine aG (Iv qR.1) y4 (aZ LT.add aP (aG (Cc (.pl 0 0)) y4 (aG (Iv s3.1) y4 (aZ LT.sub aP (aU fun wQ aGL => (aT.step (bU [.c (.pl 0 0),.c (iC (aB (s3.1 - 1)))] (Fw.Fn.ren [(0,0)] (nP qR.2 (aB (s3.1 - 1)) wQ aGL) Q) nK (jG y2) z1 y3) z3 z1 Q Q (aZ LT.add y5 (aG (Iv s3.1) y4 (aU fun aKB aHP => (dU (LT.rem Q (DR aHP)) Q Q Q Q (aI (Iv (Int.tmod (aB ((aB (qR.1 + 1)) + wQ.1)) s3.1)) y4 ?_)))))))))))
    refine On (Ws ?_)
    refine aC.eG (fun j110 => ([(0,Cc (.pl 0 0)),(1,Iv n),(4,Cc (.pl 21 0)),(5,Cc (.pl 23 0)),(6,Iv s3.1),(7,Iv qR.1),(8,Iv (Int.tmod (aB ((aB (qR.1 + 1)) + wQ.1)) s3.1)),(43,Bv j110.1)],[(0,.row 139 [[xT bn j110.2.1,iC j110.2.2.1,iC j110.2.2.2]]),(21,.row 26 [[iC 0,sC aO]]),(23,.row 26 [[iC s3.2.2.2.2.1,lo 25 s3.2.2.2.2.2.length]]),(25,pR 96 aK s3.2.2.2.2.2)])) ?_ (fun j110 _ => ?_)
    ·refine en [(0,Cc (.pl 0 0)),(1,Iv n),(4,Cc (.pl 21 0)),(5,Cc (.pl 23 0)),(6,Iv s3.1),(7,Iv qR.1),(8,Iv (Int.tmod (aB ((aB (qR.1 + 1)) + wQ.1)) s3.1))] [(0,.row 139 [fM wQ.2]),(21,.row 26 [[iC 0,sC aO]]),(23,.row 26 [[iC s3.2.2.2.2.1,lo 25 s3.2.2.2.2.2.length]]),(25,pR 96 aK s3.2.2.2.2.2)] z7 z4 (Wr (aG (Cc (.pl 0 0)) y4 (aU fun zL aGM => (aT.step (bU [.c (.pl 0 0),.c (iC 2)] (Fw.Fn.ren [(0,0)] (YL wQ.2 2 zL aGM) Q) Ue (jG y2) z1 y3) ⟨Q,Q,y2,J⟩ z1 Q Q (aG (Bv zL.1) y4 (aT.split (fun ET => ?_) (fun ET => ?_)))))))
     ·refine iy (Iv s3.1) ET y5 (iV LT.gtr ET kY (dn (Bv (decide (2 < s3.1))) ET y5 (On (aX Q z8 z4))))
     ·refine af ET y5 (af ET y5 (gK (Bv false) ET aP (On (aX Q z8 z4))))
    ·refine aC.eG (fun j133 => ([(0,Cc (.pl 0 0)),(1,Iv n),(4,Cc (.pl 21 0)),(5,Cc (.pl 23 0)),(6,Iv j133.1)],[(0,.row 139 [[xT bn j133.2.1,iC j133.2.2.1,iC j133.2.2.2.1]]),(21,.row 26 [[iC 0,sC aO]]),(23,.row 26 [[iC j133.2.2.2.2.1,lo 39 j133.2.2.2.2.2.length]]),(39,pR 96 aK j133.2.2.2.2.2)])) ?_ (fun j133 _ => ?_)
     ·refine aC.cond Q (fun aFa => ?_) (fun aFa => ?_)
      ·refine Ws (Wr ?_)
       refine aG (Cc (.pl 0 0)) y4 (dR (lo 25 s3.2.2.2.2.2.length) gq iQ bI (au (LT.mM Q iU) Q Q Q (aU fun oq Vm => (aT.step (bU [.c (.pl 0 0),.c (iC (s3.2.2.2.2.2.length:Int))] (Fw.Fn.ren [(0,0)] (nP (dJ.mk j110.2.1 j110.2.2.1 j110.2.2.2) (s3.2.2.2.2.2.length:Int) oq Vm) Q) nK (jG y2) z1 y3) z3 z1 Q Q (aI (Iv oq.1) y4 (On (Ws (Wr ?_))))))))
       refine dR (lo 25 s3.2.2.2.2.2.length) gq iQ bI (aG (Iv oq.1) y4 (aU fun rE aAZ => (lS (LT.iW Q Q oL aAZ) Q Q Q Q Q (cZ (LT.J3 Q lU (fE jW) fG aAZ (by exact Q) (by exact Q)) Q Q Q Q (dQ 30 [iC 0,iC 0] jQ y6 (dA (stA [iC rE.A,iC rE.B] Q Q jW fG) Q Q Q Q Q (On (Ws ?_))))))))
       refine en [(0,Cc (.pl 0 0)),(1,Iv n),(4,Cc (.pl 21 0)),(5,Cc (.pl 23 0)),(6,Iv s3.1),(9,Iv oq.1),(10,Cc (.pl 30 0))] [(0,.row 139 [fM oq.2]),(21,.row 26 [[iC 0,sC aO]]),(23,.row 26 [[iC s3.2.2.2.2.1,lo 25 s3.2.2.2.2.2.length]]),(25,pR 96 aK s3.2.2.2.2.2),(30,.row 96 [[iC rE.A,iC rE.B]])] z7 z5 (Wr (aI (Iv 0) ak (On (Ws (aC.block ?_)))))
       refine aC.jP (id:=2) (N9 s3 oq rE) (fun vT => ([(0,Cc (.pl 0 0)),(1,Iv n),(4,Cc (.pl 21 0)),(5,Cc (.pl 23 0)),(6,Iv s3.1),(9,Iv oq.1),(10,Cc (.pl 30 0)),(11,Iv vT)],[(0,.row 139 [fM oq.2]),(21,.row 26 [[iC 0,sC aO]]),(23,.row 26 [[iC s3.2.2.2.2.1,lo 25 s3.2.2.2.2.2.length]]),(25,pR 96 aK s3.2.2.2.2.2),(30,.row 96 [[iC rE.A,iC rE.B]])])) (fun eY => ([(0,Cc (.pl 0 0)),(1,Iv n),(4,Cc (.pl 21 0)),(5,Cc (.pl 23 0)),(6,Iv eY.1),(9,Iv eY.2.1),(10,Cc (.pl 30 0)),(11,Iv eY.2.2.1)],[(0,.row 139 [[xT bn eY.2.2.2.1,iC eY.2.2.2.2.1,iC eY.2.2.2.2.2.1]]),(21,.row 26 [[iC 0,sC aO]]),(23,.row 26 [[iC eY.2.2.2.2.2.2.1,lo 25 eY.2.2.2.2.2.2.2.1.length]]),(25,pR 96 aK eY.2.2.2.2.2.2.2.1),(30,.row 96 [[iC eY.2.2.2.2.2.2.2.2.1,iC eY.2.2.2.2.2.2.2.2.2]])])) ?_ (aj.of z8 z5) Q (fun eY _ => ?_)
       ·intro vT
        unfold N9
        refine Ws (Ws ?_)
        refine aC.eG (fun RN => ([(0,Cc (.pl 0 0)),(1,Iv n),(4,Cc (.pl 21 0)),(5,Cc (.pl 23 0)),(6,Iv s3.1),(9,Iv oq.1),(10,Cc (.pl 30 0)),(11,Iv vT),(63,Bv RN)],[(0,.row 139 [fM oq.2]),(21,.row 26 [[iC 0,sC aO]]),(23,.row 26 [[iC s3.2.2.2.2.1,lo 25 s3.2.2.2.2.2.length]]),(25,pR 96 aK s3.2.2.2.2.2),(30,.row 96 [[iC rE.A,iC rE.B]])])) ?_ (fun RN _ => ?_)
        ·refine Wr (aG (Iv vT) y4 (dR (iC rE.A) mZ bK bI (aZ LT.eql y5 (aG (Bv (vT == rE.A)) y4 (aT.split (fun nM => ?_) (fun nM => ?_))))))
         ·refine af nM y5 (af nM y5 (af nM y5 (af nM y5 (dn (Bv true) nM aP (On (aX Q z9 z5))))))
         ·refine iy (Iv vT) nM y5 (jf (iC rE.B) nS bK nM gm (iV LT.eql nM y6 (gK (Bv (vT == rE.B)) nM y5 (On (aX Q z9 z5)))))
        ·refine aC.cond Q (fun hc150 => ?_) (fun hc150 => ?_)
         ·refine aC.skip (aC.block (Wr ?_))
          refine aG (Iv vT) y4 (aZ LT.add aP (aI (Iv (aB (vT + 1))) y4 (On (aC.blk ?_))))
          refine aX Q z8 z5
         ·refine gJ y2 z8 z5
       ·refine Ws (Wr ?_)
        refine aG (Cc (.pl 0 0)) y4 (aG (Iv eY.1) y4 (cZ (bD [iC eY.2.2.2.2.2.2.2.2.1,iC eY.2.2.2.2.2.2.2.2.2] Q lU jW fG) Q Q Q Q (aG (Iv eY.2.2.1) y4 (aU fun ru Vo => (aT.step (bU [.c (.pl 0 0),.c (iC eY.1),.agg [iC eY.2.2.2.2.2.2.2.2.1,iC eY.2.2.2.2.2.2.2.2.2],.c (iC eY.2.2.1)] (Fw.Fn.ren [(0,0)] (aKw (dJ.mk eY.2.2.2.1 eY.2.2.2.2.1 eY.2.2.2.2.2.1) eY.1 (aV.mk eY.2.2.2.2.2.2.2.2.1 eY.2.2.2.2.2.2.2.2.2) eY.2.2.1 ru Vo) Q) aEO (aJY y5) z1 y3) z5 z1 Q Q (aI (Iv ru.1) y4 (On (Ws (Wr ?_)))))))))
        refine cZ (bD [iC eY.2.2.2.2.2.2.1,lo 25 eY.2.2.2.2.2.2.2.1.length] Q iI dX dM) Q Q Q Q (aG (Iv eY.2.1) y4 (aU fun nX Vp => (aT.step (cF [.agg [iC eY.2.2.2.2.2.2.1,lo 25 eY.2.2.2.2.2.2.2.1.length],.c (iC eY.2.1)] [(25,pR 96 aK eY.2.2.2.2.2.2.2.1)] (Fw.Fn.ren [(0,33)] (aKp (bM.mk eY.2.2.2.2.2.2.1 eY.2.2.2.2.2.2.2.1) eY.2.1 nX Vp) Q) aEP (.cons (.agg (.cons (.same Q) (.cons (.dG Q Q) .nil))) (.cons (.c (.same Q)) .nil)) J y3) z3 z1 Q Q (aG (.dW [.agg [iC nX.1.aF,lo 33 nX.1.aA.length],.c (bC nX.2)]) y4 (jc (.agg [iC nX.1.aF,lo 33 nX.1.aA.length]) y5 (jc (.c (bC nX.2)) y5 (dA (stA [iC nX.1.aF,lo 33 nX.1.aA.length] Q Q dX dM) Q Q Q Q Q (On (en [(0,Cc (.pl 0 0)),(1,Iv n),(4,Cc (.pl 21 0)),(5,Cc (.pl 23 0)),(6,Iv eY.1),(10,Cc (.pl 30 0)),(11,Iv ru.1)] [(0,.row 139 [fM ru.2]),(21,.row 26 [[iC 0,sC aO]]),(23,.row 26 [[iC nX.1.aF,lo 33 nX.1.aA.length]]),(30,.row 96 [[iC eY.2.2.2.2.2.2.2.2.1,iC eY.2.2.2.2.2.2.2.2.2]]),(33,pR 96 aK nX.1.aA)] z7 z5 (aC.draw mixed (bV (bD [iC nX.1.aF,lo 33 nX.1.aA.length] Q iI dX dM) Q Q Q Q ?_)))))))))))
        refine dw (iC eY.2.2.2.2.2.2.2.2.1) mZ bK bI (aY (Iv eY.1) y4 (bQ (LT.build [(0,.tmp 79,.c (iC eY.2.2.2.2.2.2.2.2.1)),(1,.tmp 80,.c (iC eY.1))] Q Q zJ jQ Q Q Q) Q Q Q Q (aN.bind fun Fe aGZ => (aN.step (cF [.agg [iC nX.1.aF,lo 33 nX.1.aA.length],.agg [iC eY.2.2.2.2.2.2.2.2.1,iC eY.1]] [(33,pR 96 aK nX.1.aA)] (Fw.Fn.ren [(0,35)] (F7 nX.1 (aV.mk eY.2.2.2.2.2.2.2.2.1 eY.1) Fe aGZ) Q) EF (.cons (.agg (.cons (.same Q) (.cons (.dG Q Q) .nil))) (.cons (.agg (.cons (.same Q) (.cons (.same Q) .nil))) .nil)) J y3) z3 z1 Q Q (dw (iC eY.2.2.2.2.2.2.2.2.2) nS bK bI (aY (Iv eY.1) y4 (bQ (LT.build [(0,.tmp 84,.c (iC eY.2.2.2.2.2.2.2.2.2)),(1,.tmp 85,.c (iC eY.1))] Q Q zJ jQ Q Q Q) Q Q Q Q (aN.bind fun Fg aGa => (aN.step (cF [.agg [iC Fe.aF,lo 35 Fe.aA.length],.agg [iC eY.2.2.2.2.2.2.2.2.2,iC eY.1]] [(35,pR 96 aK Fe.aA)] (Fw.Fn.ren [(0,37)] (F7 Fe (aV.mk eY.2.2.2.2.2.2.2.2.2 eY.1) Fg aGa) Q) EF (.cons (.agg (.cons (.same Q) (.cons (.dG Q Q) .nil))) (.cons (.agg (.cons (.same Q) (.cons (.same Q) .nil))) .nil)) J y3) z3 z1 Q Q ?_)))))))))
        refine aY (Iv ru.1) y4 (aY (Iv eY.1) y4 (bQ (LT.build [(0,.tmp 88,.c (iC ru.1)),(1,.tmp 89,.c (iC eY.1))] Q Q zJ jQ Q Q Q) Q Q Q Q (aN.bind fun xM Vq => (aN.step (cF [.agg [iC Fg.aF,lo 37 Fg.aA.length],.agg [iC ru.1,iC eY.1]] [(37,pR 96 aK Fg.aA)] (Fw.Fn.ren [(0,39)] (F7 Fg (aV.mk ru.1 eY.1) xM Vq) Q) EF (.cons (.agg (.cons (.same Q) (.cons (.dG Q Q) .nil))) (.cons (.agg (.cons (.same Q) (.cons (.same Q) .nil))) .nil)) J y3) z3 z1 Q Q (iY (stA [iC xM.aF,lo 39 xM.aA.length] Q Q dX dM) Q Q Q Q Q (dF (aX Q z5 z4)))))))
      ·refine Wr (cZ (bD [iC s3.2.2.2.2.1,lo 25 s3.2.2.2.2.2.length] Q iI dX dM) Q Q Q Q (aG (Iv qR.1) y4 (aG (Iv s3.1) y4 (dU (LT.build [(0,.tmp 93,.c (iC qR.1)),(1,.tmp 94,.c (iC s3.1))] Q Q zJ jQ Q Q Q) Q Q Q Q (aU fun wR Vr => (aT.step (cF [.agg [iC s3.2.2.2.2.1,lo 25 s3.2.2.2.2.2.length],.agg [iC qR.1,iC s3.1]] [(25,pR 96 aK s3.2.2.2.2.2)] (Fw.Fn.ren [(0,41)] (F7 (bM.mk s3.2.2.2.2.1 s3.2.2.2.2.2) (aV.mk qR.1 s3.1) wR Vr) Q) EF (.cons (.agg (.cons (.same Q) (.cons (.dG Q Q) .nil))) (.cons (.agg (.cons (.same Q) (.cons (.same Q) .nil))) .nil)) J y3) z3 z1 Q Q (aG (Iv (Int.tmod (aB ((aB (qR.1 + 1)) + wQ.1)) s3.1)) y4 (aG (Iv s3.1) y4 (dU (LT.build [(0,.tmp 97,.c (iC (Int.tmod (aB ((aB (qR.1 + 1)) + wQ.1)) s3.1))),(1,.tmp 98,.c (iC s3.1))] Q Q zJ jQ Q Q Q) Q Q Q Q (aU fun BA aGb => (aT.step (cF [.agg [iC wR.aF,lo 41 wR.aA.length],.agg [iC (Int.tmod (aB ((aB (qR.1 + 1)) + wQ.1)) s3.1),iC s3.1]] [(41,pR 96 aK wR.aA)] (Fw.Fn.ren [(0,43)] (F7 wR (aV.mk (Int.tmod (aB ((aB (qR.1 + 1)) + wQ.1)) s3.1) s3.1) BA aGb) Q) EF (.cons (.agg (.cons (.same Q) (.cons (.dG Q Q) .nil))) (.cons (.agg (.cons (.same Q) (.cons (.same Q) .nil))) .nil)) J y3) z3 z1 Q Q ?_)))))))))))
       refine dA (stA [iC BA.aF,lo 43 BA.aA.length] Q Q dX dM) Q Q Q Q Q (On (en [(0,Cc (.pl 0 0)),(1,Iv n),(4,Cc (.pl 21 0)),(5,Cc (.pl 23 0)),(6,Iv s3.1)] [(0,.row 139 [[xT bn j110.2.1,iC j110.2.2.1,iC j110.2.2.2]]),(21,.row 26 [[iC 0,sC aO]]),(23,.row 26 [[iC BA.aF,lo 43 BA.aA.length]]),(43,pR 96 aK BA.aA)] z5 z4 (aC.ent (aj.mv 43 39 Q Q) (aX Q z5 z4))))
     ·refine aC.blk (Wr ?_)
      refine aG (Iv j133.1) y4 (aZ LT.add aP (aI (Iv (aB (j133.1 + 1))) y4 (On (en [(0,Cc (.pl 0 0)),(1,Iv n),(4,Cc (.pl 21 0)),(5,Cc (.pl 23 0)),(6,Iv (aB (j133.1 + 1)))] [(0,.row 139 [[xT bn j133.2.1,iC j133.2.2.1,iC j133.2.2.2.1]]),(21,.row 26 [[iC 0,sC aO]]),(23,.row 26 [[iC j133.2.2.2.2.1,lo 39 j133.2.2.2.2.2.length]]),(39,pR 96 aK j133.2.2.2.2.2)] z5 z4 (aC.ent (aj.mv 39 25 Q Q) (aX Q z5 z4))))))
   ·refine gJ y2 z2 z4
  ·refine Ws (Wr ?_)
   refine cZ (bD [iC mW.2.2.2.1,lo 25 mW.2.2.2.2.length] Q iI dX dM) Q Q Q Q (dA (stA [iC mW.2.2.2.1,lo 25 mW.2.2.2.2.length] Q Q dX dM) Q Q Q Q Q (On (en [(4,Cc (.pl 21 0))] [(0,.row 139 [[xT bn mW.1,iC mW.2.1,iC mW.2.2.1]]),(21,.row 26 [[iC mW.2.2.2.1,lo 25 mW.2.2.2.2.length]]),(25,pR 96 aK mW.2.2.2.2)] z1 z3 (aC.ent (aj.mv 25 1 Q Q) (en [(4,Cc (.pl 21 0))] [(0,.row 139 [[xT bn mW.1,iC mW.2.1,iC mW.2.2.1]]),(1,pR 96 aK mW.2.2.2.2),(21,.row 26 [[iC mW.2.2.2.1,lo 1 mW.2.2.2.2.length]])] z1 z3 (bT ⟨⟨_,_,_,Q,Q,Q,iI,dM,_,fE dX⟩,J⟩ z2 ⟨⟨ah.sc,J,J⟩,J⟩ ⟨bg.ou ⟨kK oh,ah.sc,ah.sc,J⟩,bg.dO iP,J⟩))))))
theorem aKd (g:bM) (a:Int) (b:Int):FT Try.prog (NW g a b) 189 [.agg (dI g),.c (iC a),.c (iC b)] [] (fun (t:(bM × Bool)) => [.agg [iC t.1.aF,lo 0 t.1.aA.length],.c (bC t.2)]) (fun (t:(bM × Bool)) => [(0,pR 96 aK t.1.aA)]) [0]:=by
 refine FT.of [] Try.func189 Try.ntmps189 Q y2 ?_
 intro w0 U0 R0 g0
 unfold NW
 refine Ws (Wr ?_)
 refine fZ 21 (.agg (dI g)) dM y5 (dQ 22 [iC 0,sC aO] lF y6 (aI (Bv false) ak (On (Ws (Ws ?_)))))
 refine aC.eG (fun j8 => ([(1,Iv a),(2,Iv b),(3,Cc (.pl 21 0)),(6,Cc (.pl 22 0)),(41,Bv j8)],[(21,.row 26 [dI g]),(22,.row 26 [[iC 0,sC aO]])])) ?_ (fun j8 _ => ?_)
 ·refine Wr (cZ (bD (dI g) Q iI dX dM) Q Q Q Q (aU fun r9 yH => (jC [.agg (dI g)] (UB g r9 yH) QJ (qV y2) y5 z2 (au (LT.not Q) Q Q Q (aG (Bv (!r9)) y4 (aT.split (fun tJ => ?_) (fun tJ => ?_)))))))
  ·refine af tJ y5 (af tJ y5 (dn (Bv true) tJ aP (aG (Bv true) y4 (bY y5 (bY y5 (dn (Bv true) Q aP (aG (Bv true) y4 (bY y5 (bY y5 (bY y5 (bY y5 ?_)))))))))))
   refine dn (Bv true) Q aP (aG (Bv true) y4 (bY y5 (bY y5 (bY y5 (bY y5 (dn (Bv true) Q aP (aG (Bv true) y4 (bY y5 (bY y5 (bY y5 (dn (Bv true) Q aP ?_)))))))))))
   refine aG (Bv true) y4 (bY y5 (bY y5 (bY y5 (bY y5 (dn (Bv true) Q aP (On (aX Q z5 z2)))))))
  ·refine iy (Iv a) tJ y5 (iV LT.lss tJ kY (gK (Bv (decide (a < 0))) tJ y5 (aG (Bv (decide (a < 0))) y4 (aT.split (fun lu => ?_) (fun lu => ?_)))))
   ·refine af lu y5 (af lu y5 (dn (Bv true) lu aP (aG (Bv true) y4 (bY y5 (bY y5 (bY y5 (bY y5 (dn (Bv true) Q aP (aG (Bv true) y4 (bY y5 (bY y5 ?_)))))))))))
    refine bY y5 (bY y5 (dn (Bv true) Q aP (aG (Bv true) y4 (bY y5 (bY y5 (bY y5 (dn (Bv true) Q aP (aG (Bv true) y4 (bY y5 (bY y5 (bY y5 ?_)))))))))))
    refine bY y5 (dn (Bv true) Q aP (On (aX Q z5 z2)))
   ·refine iy (Iv b) lu y5 (iV LT.lss lu kY (gK (Bv (decide (b < 0))) lu y5 (aG (Bv (decide (b < 0))) y4 (aT.split (fun oG => ?_) (fun oG => ?_)))))
    ·refine af oG y5 (af oG y5 (af oG y5 (af oG y5 (dn (Bv true) oG aP (aG (Bv true) y4 (bY y5 (bY y5 (bY y5 (bY y5 (dn (Bv true) Q aP (aG (Bv true) y4 ?_)))))))))))
     refine bY y5 (bY y5 (bY y5 (dn (Bv true) Q aP (aG (Bv true) y4 (bY y5 (bY y5 (bY y5 (bY y5 (dn (Bv true) Q aP (On (aX Q z5 z2)))))))))))
    ·refine iy (Iv a) oG y5 (jf (iC g.aF) lV bK oG gm (iV LT.geq oG y6 (gK (Bv (decide (g.aF ≤ a))) oG y5 (aG (Bv (decide (g.aF ≤ a))) y4 (aT.split (fun eF => ?_) (fun eF => ?_))))))
     ·refine af eF y5 (af eF y5 (af eF y5 (af eF y5 (dn (Bv true) eF aP (aG (Bv true) y4 (bY y5 (bY y5 (bY y5 (dn (Bv true) Q aP (aG (Bv true) y4 (bY y5 ?_)))))))))))
      refine bY y5 (bY y5 (bY y5 (dn (Bv true) Q aP (On (aX Q z5 z2)))))
     ·refine iy (Iv b) eF y5 (jf (iC g.aF) lV bK eF gm (iV LT.geq eF y6 (gK (Bv (decide (g.aF ≤ b))) eF y5 (aG (Bv (decide (g.aF ≤ b))) y4 (aT.split (fun gV => ?_) (fun gV => ?_))))))
      ·refine af gV y5 (af gV y5 (af gV y5 (dn (Bv true) gV aP (aG (Bv true) y4 (bY y5 (bY y5 (bY y5 (bY y5 (dn (Bv true) Q aP (On (aX Q z5 z2)))))))))))
      ·refine iy (Iv a) gV y5 (iy (Iv b) gV y5 (iV LT.eql gV y6 (gK (Bv (a == b)) gV y5 (aG (Bv (a == b)) y4 (aT.split (fun qf => ?_) (fun qf => ?_))))))
       ·refine af qf y5 (af qf y5 (af qf y5 (af qf y5 (dn (Bv true) qf aP (On (aX Q z5 z2))))))
       ·refine jf (xF aK g.aA) gq iQ qf gm (au (LT.gB Q iU) Q (gH qf Q Q) Q (iV LT.geq qf kY (gK (Bv (decide (24 ≤ (g.aA.length:Int)))) qf y5 (On (aX Q z5 z2)))))
 ·refine aC.cond Q (fun hc16 => ?_) (fun hc16 => ?_)
  ·refine Ws (Wr ?_)
   refine cZ (bD (dI g) Q iI dX dM) Q Q Q Q (aU fun kL AY => (aT.step (bU [.agg (dI g)] (Fw.Fn.ren [(0,25)] (YM g kL AY) Q) Ud (qV y2) J y3) z2 J Q Q (dA (stA [iC kL.aF,lo 25 kL.aA.length] Q Q dX dM) Q Q Q Q Q (aI (Bv false) ak (On (en [(6,Cc (.pl 22 0)),(7,Bv false)] [(22,.row 26 [[iC kL.aF,lo 25 kL.aA.length]]),(25,pR 96 aK kL.aA)] z2 z2 (aC.ent (aj.mv 25 0 Q Q) (en [(6,Cc (.pl 22 0)),(7,Bv false)] [(0,pR 96 aK kL.aA),(22,.row 26 [[iC kL.aF,lo 0 kL.aA.length]])] z2 z2 (bT ⟨⟨_,_,_,Q,Q,Q,iI,dM,_,fE dX⟩,Q,J⟩ z1 ⟨⟨ah.sc,J,J⟩,ah.sc,J⟩ ⟨bg.dO iP,J⟩)))))))))
  ·refine aC.skip (Ws (Wr ?_))
   refine cZ (bD (dI g) Q iI dX dM) Q Q Q Q (aG (Iv a) y4 (aG (Iv b) y4 (aZ LT.min y5 (aG (Iv a) y4 (aG (Iv b) y4 (aZ LT.max y5 (dU (LT.build [(0,.tmp 47,.c (iC (if b < a then b else a))),(1,.tmp 50,.c (iC (if a < b then b else a)))] Q Q zJ jQ Q Q Q) Q Q Q Q (aU fun oP Lm => (aT.step (bU [.agg (dI g),.agg [iC (if b < a then b else a),iC (if a < b then b else a)]] (Fw.Fn.ren [(0,27)] (F7 g (aV.mk (if b < a then b else a) (if a < b then b else a)) oP Lm) Q) EF (DX y4) J y3) z3 J Q Q (dA (stA [iC oP.aF,lo 27 oP.aA.length] Q Q dX dM) Q Q Q Q Q (aI (Bv true) ak ?_)))))))))))
   refine On (en [(6,Cc (.pl 22 0)),(7,Bv true)] [(22,.row 26 [[iC oP.aF,lo 27 oP.aA.length]]),(27,pR 96 aK oP.aA)] z2 z2 (aC.ent (aj.mv 27 0 Q Q) (en [(6,Cc (.pl 22 0)),(7,Bv true)] [(0,pR 96 aK oP.aA),(22,.row 26 [[iC oP.aF,lo 0 oP.aA.length]])] z2 z2 (bT ⟨⟨_,_,_,Q,Q,Q,iI,dM,_,fE dX⟩,Q,J⟩ z1 ⟨⟨ah.sc,J,J⟩,ah.sc,J⟩ ⟨bg.dO iP,J⟩))))
theorem aKr (c:dJ):FT Try.prog (Nv c) 158 [.c (.pl 0 0)] [(0,.row 139 [fM c])] (fun (t:(aW × dJ)) => [.agg [iC t.1.Graph.aF,lo 1 t.1.Graph.aA.length,lo 2 t.1.Places.length]]) (fun (t:(aW × dJ)) => [(0,.row 139 [fM t.2]),(1,pR 96 aK t.1.Graph.aA),(2,pR 82 aJ t.1.Places)]) [1,2]:=by
 refine FT.of [0] Try.func158 Try.ntmps158 Q y2 ?_
 intro w0 U0 R0 g0
 unfold Nv
 refine Ws (Wr ?_)
 refine dQ 21 [iC 0,sC aO,sC aO] iG y6 (On (Ws (Ws (Wr ?_))))
 refine aG (Cc (.pl 0 0)) y4 (aU fun r1 hr1 => (aT.step (bU [.c (.pl 0 0),.c (iC 3)] (Fw.Fn.ren [(0,0)] (nP c 3 r1 hr1) Q) nK (jG y2) z1 y3) ⟨Q,Q,y2,J⟩ z1 Q Q (On (aC.block (Ws (Wr ?_))))))
 refine aZ LT.eql aP (aI (Bv (r1.1 == 0)) y4 (On (aC.cond Q (fun hc2 => ?_) (fun hc2 => ?_))))
 ·refine Ws (Wr ?_)
  refine aG (Cc (.pl 0 0)) y4 (aU fun r3 hr3 => (aT.step (bU [.c (.pl 0 0),.c (iC 5)] (Fw.Fn.ren [(0,0)] (nP r1.2 5 r3 hr3) Q) nK (jG y2) z1 y3) ⟨Q,Q,y2,J⟩ z1 Q Q (aZ LT.add oQ (aI (Iv (aB (2 + r3.1))) y4 (On (Ws ?_))))))
  refine en [(0,Cc (.pl 0 0)),(2,Cc (.pl 21 0)),(3,Iv (aB (2 + r3.1)))] [(0,.row 139 [fM r3.2]),(21,.row 29 [[iC 0,sC aO,sC aO]])] z3 z2 (Wr (aG (Cc (.pl 0 0)) y4 (aG (Iv (aB (2 + r3.1))) y4 (aU fun r4 hr4 => (aT.step (bU [.c (.pl 0 0),.c (iC (aB (2 + r3.1))),.c (iC 7)] (Fw.Fn.ren [(0,0),(1,25)] (aKv r3.2 (aB (2 + r3.1)) 7 r4 hr4) Q) aEL (vV y3) z1 y3) ⟨Q,Q,Q,y2,J⟩ z1 Q Q (dQ 26 [iC 0,sC aO] lF y6 (dA (stA [iC r4.1.aF,lo 25 r4.1.aA.length] Q Q dX dM) Q Q Q Q Q (On (Ws ?_)))))))))
  refine en [(0,Cc (.pl 0 0)),(2,Cc (.pl 21 0)),(4,Cc (.pl 26 0))] [(0,.row 139 [fM r4.2]),(21,.row 29 [[iC 0,sC aO,sC aO]]),(25,pR 96 aK r4.1.aA),(26,.row 26 [[iC r4.1.aF,lo 25 r4.1.aA.length]])] z3 z4 (Wr (aG (Cc (.pl 0 0)) y4 (cZ (bD [iC r4.1.aF,lo 25 r4.1.aA.length] Q iI dX dM) Q Q Q Q (aU fun r5 nU => (aT.step (cF [.c (.pl 0 0),.agg [iC r4.1.aF,lo 25 r4.1.aA.length]] [(25,pR 96 aK r4.1.aA)] (Fw.Fn.ren [(0,0),(1,28),(2,29)] (UC r4.2 r4.1 r5 nU) Q) QH (.cons (.c (.same Q)) (.cons (.agg (.cons (.same Q) (.cons (.dG Q Q) .nil))) .nil)) z1 y3) z3 z2 Q Q (dA (stA [iC r5.1.Graph.aF,lo 28 r5.1.Graph.aA.length,lo 29 r5.1.Places.length] Q Q ax ai) Q Q Q Q Q (On (en [(2,Cc (.pl 21 0))] [(0,.row 139 [fM r5.2]),(21,.row 29 [[iC r5.1.Graph.aF,lo 28 r5.1.Graph.aA.length,lo 29 r5.1.Places.length]]),(28,pR 96 aK r5.1.Graph.aA),(29,pR 82 aJ r5.1.Places)] z1 z4 (aC.ent (aj.mv 28 1 Q Q) (aC.ent (aj.mv 29 2 Q Q) (en [(2,Cc (.pl 21 0))] [(0,.row 139 [fM r5.2]),(1,pR 96 aK r5.1.Graph.aA),(2,pR 82 aJ r5.1.Places),(21,.row 29 [[iC r5.1.Graph.aF,lo 1 r5.1.Graph.aA.length,lo 2 r5.1.Places.length]])] z1 z4 ?_)))))))))))
  refine bT ⟨⟨_,_,_,Q,Q,Q,bP,ai,_,fE ax⟩,J⟩ z3 ⟨⟨ah.sc,J,J,J⟩,J⟩ ⟨bg.ou ⟨kK oh,ah.sc,ah.sc,J⟩,bg.dO iP,bg.dO jo,J⟩
 ·refine Ws (Wr ?_)
  refine aZ LT.eql aP (aI (Bv (r1.1 == 1)) y4 (On (aC.cond Q (fun hc6 => ?_) (fun hc6 => ?_))))
  ·refine Ws (en [(0,Cc (.pl 0 0)),(2,Cc (.pl 21 0))] [(0,.row 139 [fM r1.2]),(21,.row 29 [[iC 0,sC aO,sC aO]])] z2 z2 (Wr (aG (Cc (.pl 0 0)) y4 (aU fun r7 tZ => (aT.step (bU [.c (.pl 0 0),.c (iC 4)] (Fw.Fn.ren [(0,0)] (nP r1.2 4 r7 tZ) Q) nK (jG y2) z1 y3) ⟨Q,Q,y2,J⟩ z1 Q Q (aZ LT.add oQ (aI (Iv (aB (2 + r7.1))) y4 (On (Ws (Wr ?_))))))))))
   refine aG (Cc (.pl 0 0)) y4 (aG (Iv (aB (2 + r7.1))) y4 (aU fun r8 yG => (aT.step (bU [.c (.pl 0 0),.c (iC (aB (2 + r7.1)))] (Fw.Fn.ren [(0,0),(1,32)] (aDQ r7.2 (aB (2 + r7.1)) r8 yG) Q) Y8 (jG y2) z1 y3) z3 z1 Q Q (dQ 33 [iC 0,sC aO] lF y6 (dA (stA [iC r8.1.aF,lo 32 r8.1.aA.length] Q Q dX dM) Q Q Q Q Q (On (Ws ?_)))))))
   refine en [(0,Cc (.pl 0 0)),(2,Cc (.pl 21 0)),(5,Iv (aB (2 + r7.1))),(6,Cc (.pl 33 0))] [(0,.row 139 [fM r8.2]),(21,.row 29 [[iC 0,sC aO,sC aO]]),(32,pR 96 aK r8.1.aA),(33,.row 26 [[iC r8.1.aF,lo 32 r8.1.aA.length]])] z4 z4 (Wr (aG (Cc (.pl 0 0)) y4 (aG (Iv (aB (2 + r7.1))) y4 (aU fun r9 yH => (aT.step (bU [.c (.pl 0 0),.c (iC (aB (2 + r7.1)))] (Fw.Fn.ren [(0,0)] (nP r8.2 (aB (2 + r7.1)) r9 yH) Q) nK (jG y2) z1 y3) z3 z1 Q Q (aI (Iv r9.1) y4 (On (Ws (Wr ?_)))))))))
   refine aG (Cc (.pl 0 0)) y4 (aG (Iv (aB (2 + r7.1))) y4 (aU fun r10 AU => (aT.step (bU [.c (.pl 0 0),.c (iC (aB (2 + r7.1)))] (Fw.Fn.ren [(0,0)] (nP r9.2 (aB (2 + r7.1)) r10 AU) Q) nK (jG y2) z1 y3) z3 z1 Q Q (aI (Iv r10.1) y4 (On (Ws ?_))))))
   refine en [(0,Cc (.pl 0 0)),(2,Cc (.pl 21 0)),(6,Cc (.pl 33 0)),(7,Iv r9.1),(8,Iv r10.1)] [(0,.row 139 [fM r10.2]),(21,.row 29 [[iC 0,sC aO,sC aO]]),(32,pR 96 aK r8.1.aA),(33,.row 26 [[iC r8.1.aF,lo 32 r8.1.aA.length]])] z5 z4 (Wr (cZ (bD [iC r8.1.aF,lo 32 r8.1.aA.length] Q iI dX dM) Q Q Q Q (aG (Iv r9.1) y4 (aG (Iv r10.1) y4 (aU fun r11 wH => (aT.step (cF [.agg [iC r8.1.aF,lo 32 r8.1.aA.length],.c (iC r9.1),.c (iC r10.1)] [(32,pR 96 aK r8.1.aA)] (Fw.Fn.ren [(0,37)] (aKd r8.1 r9.1 r10.1 r11 wH) Q) aEM (.cons (.agg (.cons (.same Q) (.cons (.dG Q Q) .nil))) (.cons (.c (.same Q)) (.cons (.c (.same Q)) .nil))) J y3) z4 z1 Q Q (aG (.dW [.agg [iC r11.1.aF,lo 37 r11.1.aA.length],.c (bC r11.2)]) y4 (jc (.agg [iC r11.1.aF,lo 37 r11.1.aA.length]) y5 (jc (.c (bC r11.2)) y5 (dA (stA [iC r11.1.aF,lo 37 r11.1.aA.length] Q Q dX dM) Q Q Q Q Q (On (Ws ?_))))))))))))
   refine en [(0,Cc (.pl 0 0)),(2,Cc (.pl 21 0)),(6,Cc (.pl 33 0))] [(0,.row 139 [fM r10.2]),(21,.row 29 [[iC 0,sC aO,sC aO]]),(33,.row 26 [[iC r11.1.aF,lo 37 r11.1.aA.length]]),(37,pR 96 aK r11.1.aA)] z3 z4 (Wr (aG (Cc (.pl 0 0)) y4 (cZ (bD [iC r11.1.aF,lo 37 r11.1.aA.length] Q iI dX dM) Q Q Q Q (aU fun r12 AX => (aT.step (cF [.c (.pl 0 0),.agg [iC r11.1.aF,lo 37 r11.1.aA.length]] [(37,pR 96 aK r11.1.aA)] (Fw.Fn.ren [(0,0),(1,39),(2,40)] (UC r10.2 r11.1 r12 AX) Q) QH (.cons (.c (.same Q)) (.cons (.agg (.cons (.same Q) (.cons (.dG Q Q) .nil))) .nil)) z1 y3) z3 z2 Q Q (dA (stA [iC r12.1.Graph.aF,lo 39 r12.1.Graph.aA.length,lo 40 r12.1.Places.length] Q Q ax ai) Q Q Q Q Q (On (en [(2,Cc (.pl 21 0))] [(0,.row 139 [fM r12.2]),(21,.row 29 [[iC r12.1.Graph.aF,lo 39 r12.1.Graph.aA.length,lo 40 r12.1.Places.length]]),(39,pR 96 aK r12.1.Graph.aA),(40,pR 82 aJ r12.1.Places)] z1 z4 (aC.ent (aj.mv 39 1 Q Q) (aC.ent (aj.mv 40 2 Q Q) (en [(2,Cc (.pl 21 0))] [(0,.row 139 [fM r12.2]),(1,pR 96 aK r12.1.Graph.aA),(2,pR 82 aJ r12.1.Places),(21,.row 29 [[iC r12.1.Graph.aF,lo 1 r12.1.Graph.aA.length,lo 2 r12.1.Places.length]])] z1 z4 ?_)))))))))))
   refine bT ⟨⟨_,_,_,Q,Q,Q,bP,ai,_,fE ax⟩,J⟩ z3 ⟨⟨ah.sc,J,J,J⟩,J⟩ ⟨bg.ou ⟨kK oh,ah.sc,ah.sc,J⟩,bg.dO iP,bg.dO jo,J⟩
  ·refine aC.skip (aC.blk (Ws ?_))
   refine en [(0,Cc (.pl 0 0)),(2,Cc (.pl 21 0))] [(0,.row 139 [fM r1.2]),(21,.row 29 [[iC 0,sC aO,sC aO]])] z2 z2 (Wr (aG (Cc (.pl 0 0)) y4 (aU fun r13 uo => (aT.step (bU [.c (.pl 0 0),.c (iC 5)] (Fw.Fn.ren [(0,0)] (nP r1.2 5 r13 uo) Q) nK (jG y2) z1 y3) ⟨Q,Q,y2,J⟩ z1 Q Q (aZ LT.add oQ (aI (Iv (aB (2 + r13.1))) y4 (On (Ws (Wr ?_)))))))))
   refine aG (Cc (.pl 0 0)) y4 (aG (Iv (aB (2 + r13.1))) y4 (aU fun uD aGS => (aT.step (bU [.c (.pl 0 0),.c (iC (aB (2 + r13.1)))] (Fw.Fn.ren [(0,0),(1,43)] (aDQ r13.2 (aB (2 + r13.1)) uD aGS) Q) Y8 (jG y2) z1 y3) z3 z1 Q Q (dQ 44 [iC 0,sC aO] lF y6 (dA (stA [iC uD.1.aF,lo 43 uD.1.aA.length] Q Q dX dM) Q Q Q Q Q (On (Ws ?_)))))))
   refine en [(0,Cc (.pl 0 0)),(2,Cc (.pl 21 0)),(10,Cc (.pl 44 0))] [(0,.row 139 [fM uD.2]),(21,.row 29 [[iC 0,sC aO,sC aO]]),(43,pR 96 aK uD.1.aA),(44,.row 26 [[iC uD.1.aF,lo 43 uD.1.aA.length]])] z3 z4 (Wr (aG (Cc (.pl 0 0)) y4 (cZ (bD [iC uD.1.aF,lo 43 uD.1.aA.length] Q iI dX dM) Q Q Q Q (aU fun iT yF => (aT.step (cF [.c (.pl 0 0),.agg [iC uD.1.aF,lo 43 uD.1.aA.length]] [(43,pR 96 aK uD.1.aA)] (Fw.Fn.ren [(0,0),(1,46),(2,47)] (UC uD.2 uD.1 iT yF) Q) QH (.cons (.c (.same Q)) (.cons (.agg (.cons (.same Q) (.cons (.dG Q Q) .nil))) .nil)) z1 y3) z3 z2 Q Q (dA (stA [iC iT.1.Graph.aF,lo 46 iT.1.Graph.aA.length,lo 47 iT.1.Places.length] Q Q ax ai) Q Q Q Q Q (On (en [(2,Cc (.pl 21 0))] [(0,.row 139 [fM iT.2]),(21,.row 29 [[iC iT.1.Graph.aF,lo 46 iT.1.Graph.aA.length,lo 47 iT.1.Places.length]]),(46,pR 96 aK iT.1.Graph.aA),(47,pR 82 aJ iT.1.Places)] z1 z4 (aC.ent (aj.mv 46 1 Q Q) (aC.ent (aj.mv 47 2 Q Q) (en [(2,Cc (.pl 21 0))] [(0,.row 139 [fM iT.2]),(1,pR 96 aK iT.1.Graph.aA),(2,pR 82 aJ iT.1.Places),(21,.row 29 [[iC iT.1.Graph.aF,lo 1 iT.1.Graph.aA.length,lo 2 iT.1.Places.length]])] z1 z4 ?_)))))))))))
   refine bT ⟨⟨_,_,_,Q,Q,Q,bP,ai,_,fE ax⟩,J⟩ z3 ⟨⟨ah.sc,J,J,J⟩,J⟩ ⟨bg.ou ⟨kK oh,ah.sc,ah.sc,J⟩,bg.dO iP,bg.dO jo,J⟩
theorem aDO (c:dJ) (list:(List Int)):FT Try.prog (JR c list) 152 [.c (.pl 0 0),.c (xF aQ list)] [(0,.row 139 [fM c])] (fun (t:(Int × dJ)) => [.c (iC t.1)]) (fun (t:(Int × dJ)) => [(0,.row 139 [fM t.2])]) []:=by
 refine FT.of [0] Try.func152 Try.ntmps152 Q y2 ?_
 intro w0 U0 R0 g0
 unfold JR
 refine Ws (Wr ?_)
 refine aI (Iv 0) ak (On (Ws (Wr ?_)))
 refine aG (Cc (xF aQ list)) y4 (aG (Cc (.pl 0 0)) y4 (aG (Cc (xF aQ list)) y4 (au (LT.gB Q iK) Q Q Q (aU fun r1 hr1 => (aT.step (bU [.c (.pl 0 0),.c (iC (list.length:Int))] (Fw.Fn.ren [(0,0)] (nP c (list.length:Int) r1 hr1) Q) nK (jG y2) z1 y3) z3 z1 Q Q (aU fun x2 hx2 => (dU (LT.dZ (enc:=aQ) Q lJ hx2 jq) Q Q Q Q (au (LT.iq Q bK) Q Q Q (aI (Iv x2) y4 (On (bT z1 z1 ⟨ah.sc,J⟩ ⟨bg.ou ⟨kK oh,ah.sc,ah.sc,J⟩,J⟩)))))))))))
theorem F5 (c:dJ):FT Try.prog (yK c) 79 [.c (.pl 0 0)] [(0,.row 139 [fM c])] (fun (t:(aW × dJ)) => [.agg [iC t.1.Graph.aF,lo 1 t.1.Graph.aA.length,xT aJ t.1.Places]]) (fun (t:(aW × dJ)) => [(0,.row 139 [fM t.2]),(1,pR 96 aK t.1.Graph.aA)]) [1]:=by
 refine FT.A8 [0] Try.func79 Try.ntmps79 Q y2 ?_
 intro w0 U0 R0 g0 hU
 unfold yK
 refine Ws (Wr ?_)
 refine dQ 21 [iC 0,sC aO,sC aO] iG y6 (On (Ws (Wr ?_)))
 refine aG (Cc (.pl 0 0)) y4 (aU fun r1 hr1 => (aT.step (bU [.c (.pl 0 0)] (Fw.Fn.ren [(0,0),(1,23),(2,24)] (aKr c r1 hr1) Q) aED (iF Q) z1 y3) z2 z1 Q Q (dQ 25 [iC 0,sC aO,sC aO] iG y6 (dA (stA [iC r1.1.Graph.aF,lo 23 r1.1.Graph.aA.length,lo 24 r1.1.Places.length] Q Q ax ai) Q Q Q Q Q (On (Ws (Ws ?_)))))))
 refine en [(0,Cc (.pl 0 0)),(2,Cc (.pl 21 0)),(3,Cc (.pl 25 0))] [(0,.row 139 [fM r1.2]),(21,.row 29 [[iC 0,sC aO,sC aO]]),(23,pR 96 aK r1.1.Graph.aA),(24,pR 82 aJ r1.1.Places),(25,.row 29 [[iC r1.1.Graph.aF,lo 23 r1.1.Graph.aA.length,lo 24 r1.1.Places.length]])] z3 z5 (Wr (aG (Cc (.pl 0 0)) y4 (aU fun r2 hr2 => (aT.step (bU [.c (.pl 0 0),.c (iC 14)] (Fw.Fn.ren [(0,0)] (nP r1.2 14 r2 hr2) Q) nK (jG y2) z1 y3) ⟨Q,Q,y2,J⟩ z1 Q Q (On (aC.block (Ws (Wr ?_))))))))
 refine aZ LT.eql aP (aI (Bv (r2.1 == 0)) y4 (On (aC.eG (fun j8 => ([(2,Cc (.pl 21 0)),(3,Cc (.pl 25 0))],[(0,.row 139 [[xT bn j8.1,iC j8.2.1,iC j8.2.2.1]]),(21,.row 29 [[iC 0,sC aO,sC aO]]),(23,pR 96 aK r1.1.Graph.aA),(25,.row 29 [[iC r1.1.Graph.aF,lo 23 r1.1.Graph.aA.length,xT aJ j8.2.2.2]])])) ?_ (fun j8 _ => ?_))))
 ·refine aC.cond Q (fun AO => ?_) (fun AO => ?_)
  ·refine aC.draw mixed (dw (lo 24 r1.1.Places.length) fJ fV bI (aY (Cc (.pl 0 0)) y4 (YV (gy 27 aQ [(0,.const (.int .i64 (-1)),.c (iC (-1))),(1,.const (.int .i64 5),.c (iC 5)),(2,.const (.int .i64 9),.c (iC 9))] ([-1,5,9]:List Int) iK lG y7) y2 y2 y2 Q Q (aN.bind fun r10 AU => (aN.step (cF [.c (.pl 0 0),.c (lo 27 (([-1,5,9]:List Int).length))] [(27,pR 3 aQ ([-1,5,9]:List Int))] (Fw.Fn.ren [(0,0)] (aDO r2.2 ([-1,5,9]:List Int) r10 AU) Q) Y2 (.cons (.c (.same Q)) (.cons (.c (.dG Q Q)) .nil)) z1 y3) z3 z2 Q Q (aN.bind fun x11 MJ => (kJ (LT.iW Q Q jD MJ) Q y2 Q Q Q (bH (LT.eu Q kV) Q Q Q (iY (qW 0 (.c (iC r10.1)) (bG.mk r10.1 x11.Y) Q Q qh jq MJ) Q Q Q Q Q (dF ?_))))))))))
   refine aC.ent (aj.Bo (enc:=aJ) (xs:=(r1.1.Places.set (Int.toNat 0) (bG.mk r10.1 x11.Y))) (σ':=[(0,Cc (.pl 0 0)),(2,Cc (.pl 21 0)),(3,Cc (.pl 25 0)),(6,Cc (.pl 0 0)),(7,Iv r2.1),(8,Bv (r2.1 == 0)),(9,Bv (r2.1 == 0)),(10,Cc (.pl 25 2)),(11,Cc (xT aJ (r1.1.Places.set (Int.toNat 0) (bG.mk r10.1 x11.Y)))),(12,Cc (.pl 0 0)),(13,Cc (lo 27 (([-1,5,9]:List Int).length))),(14,Iv r10.1)]) (m':=[(0,.row 139 [fM r10.2]),(21,.row 29 [[iC 0,sC aO,sC aO]]),(23,pR 96 aK r1.1.Graph.aA),(25,.row 29 [[iC r1.1.Graph.aF,lo 23 r1.1.Graph.aA.length,xT aJ (r1.1.Places.set (Int.toNat 0) (bG.mk r10.1 x11.Y))]]),(27,pR 3 aQ ([-1,5,9]:List Int))]) 24 hU Q Q ⟨⟨_,Q,.same Q⟩,⟨_,Q,.same Q⟩,⟨_,Q,.same Q⟩,⟨_,Q,.same Q⟩,⟨_,Q,.same Q⟩,⟨_,Q,.same Q⟩,⟨_,Q,.same Q⟩,⟨_,Q,.same Q⟩,⟨_,Q,.c (.fr (by simp only [List.length_map,List.length_set]))⟩,⟨_,Q,.same Q⟩,⟨_,Q,.same Q⟩,⟨_,Q,.same Q⟩,J⟩ ⟨⟨Q,_,Q,.same Q⟩,⟨Q,_,Q,.same Q⟩,⟨Q,_,Q,.same Q⟩,⟨Q,_,Q,.row (.cons (.same Q) (.cons (.same Q) (.cons (.fr (by simp only [List.length_map,List.length_set])) .nil)))⟩,⟨Q,_,Q,.same Q⟩,J⟩) (aX Q z2 z4)
  ·refine Ws (Wr ?_)
   refine aZ LT.eql aP (aI (Bv (r2.1 == 1)) y4 (On (aC.cond Q (fun hc12 => ?_) (fun hc12 => ?_))))
   ·refine Wr (dR (lo 24 r1.1.Places.length) fJ fV bI (aT.ent (aj.Bo (enc:=aJ) (xs:=r1.1.Places) (σ':=[(0,Cc (.pl 0 0)),(2,Cc (.pl 21 0)),(3,Cc (.pl 25 0)),(6,Cc (.pl 0 0)),(7,Iv r2.1),(8,Bv (r2.1 == 0)),(9,Bv (r2.1 == 0)),(17,Bv (r2.1 == 1)),(18,Bv (r2.1 == 1)),(19,Cc (.pl 25 2)),(20,Cc (xT aJ r1.1.Places))]) (m':=[(0,.row 139 [fM r2.2]),(21,.row 29 [[iC 0,sC aO,sC aO]]),(23,pR 96 aK r1.1.Graph.aA),(25,.row 29 [[iC r1.1.Graph.aF,lo 23 r1.1.Graph.aA.length,xT aJ r1.1.Places]])]) 24 hU Q Q ⟨⟨_,Q,.same Q⟩,⟨_,Q,.same Q⟩,⟨_,Q,.same Q⟩,⟨_,Q,.same Q⟩,⟨_,Q,.same Q⟩,⟨_,Q,.same Q⟩,⟨_,Q,.same Q⟩,⟨_,Q,.same Q⟩,⟨_,Q,.same Q⟩,⟨_,Q,.same Q⟩,⟨_,Q,.c (.fr (by rw [List.length_map]))⟩,J⟩ ⟨⟨Q,_,Q,.same Q⟩,⟨Q,_,Q,.same Q⟩,⟨Q,_,Q,.same Q⟩,⟨Q,_,Q,.row (.cons (.same Q) (.cons (.same Q) (.cons (.fr (by rw [List.length_map])) .nil)))⟩,J⟩) (aU fun v13 WL => (dU (LT.J4 (enc:=aJ) (kU:=(some (.const (.int .i64 1),1))) (kT:=none) (l:=(Int.toNat 1)) (h:=r1.1.Places.length) Q Q Q lQ dS (fun _ => by rw [bf]; rfl) (.inl ⟨_,_,Q,(zO WL).1,Q⟩) (.inr y2) (Jy WL) (Jw WL)) Q y2 Q Q (au (LT.eu Q fJ) Q Q Q (dA (rD (.c (xT aJ ((r1.1.Places.take r1.1.Places.length).drop (Int.toNat 1)))) [iC r1.1.Graph.aF,lo 23 r1.1.Graph.aA.length,xT aJ ((r1.1.Places.take r1.1.Places.length).drop (Int.toNat 1))] Q Q RH TY) Q Q Q Q Q (On (aX Q z2 z4))))))))
   ·refine aC.skip (aC.ent (aj.Bo (enc:=aJ) (xs:=r1.1.Places) (σ':=[(0,Cc (.pl 0 0)),(2,Cc (.pl 21 0)),(3,Cc (.pl 25 0)),(6,Cc (.pl 0 0)),(7,Iv r2.1),(8,Bv (r2.1 == 0)),(9,Bv (r2.1 == 0)),(17,Bv (r2.1 == 1)),(18,Bv (r2.1 == 1))]) (m':=[(0,.row 139 [fM r2.2]),(21,.row 29 [[iC 0,sC aO,sC aO]]),(23,pR 96 aK r1.1.Graph.aA),(25,.row 29 [[iC r1.1.Graph.aF,lo 23 r1.1.Graph.aA.length,xT aJ r1.1.Places]])]) 24 hU Q Q ⟨⟨_,Q,.same Q⟩,⟨_,Q,.same Q⟩,⟨_,Q,.same Q⟩,⟨_,Q,.same Q⟩,⟨_,Q,.same Q⟩,⟨_,Q,.same Q⟩,⟨_,Q,.same Q⟩,⟨_,Q,.same Q⟩,⟨_,Q,.same Q⟩,J⟩ ⟨⟨Q,_,Q,.same Q⟩,⟨Q,_,Q,.same Q⟩,⟨Q,_,Q,.same Q⟩,⟨Q,_,Q,.row (.cons (.same Q) (.cons (.same Q) (.cons (.fr (by rw [List.length_map])) .nil)))⟩,J⟩) (aX Q z2 z4))
 ·refine aC.blk (Ws (Wr ?_))
  refine cZ (bD [iC r1.1.Graph.aF,lo 23 r1.1.Graph.aA.length,xT aJ j8.2.2.2] Q bP ax ai) Q Q Q Q (dA (stA [iC r1.1.Graph.aF,lo 23 r1.1.Graph.aA.length,xT aJ j8.2.2.2] Q Q ax ai) Q Q Q Q Q (On (en [(2,Cc (.pl 21 0))] [(0,.row 139 [[xT bn j8.1,iC j8.2.1,iC j8.2.2.1]]),(21,.row 29 [[iC r1.1.Graph.aF,lo 23 r1.1.Graph.aA.length,xT aJ j8.2.2.2]]),(23,pR 96 aK r1.1.Graph.aA)] z1 z3 (aC.ent (aj.mv 23 1 Q Q) (en [(2,Cc (.pl 21 0))] [(0,.row 139 [[xT bn j8.1,iC j8.2.1,iC j8.2.2.1]]),(1,pR 96 aK r1.1.Graph.aA),(21,.row 29 [[iC r1.1.Graph.aF,lo 1 r1.1.Graph.aA.length,xT aJ j8.2.2.2]])] z1 z3 (bT ⟨⟨_,_,_,Q,Q,Q,bP,ai,_,fE ax⟩,J⟩ z2 ⟨⟨ah.sc,J,kK jo,J⟩,J⟩ ⟨bg.ou ⟨kK oh,ah.sc,ah.sc,J⟩,bg.dO iP,J⟩))))))
theorem UA (p:bG):FT Try.prog (CX p) 129 [.agg [iC p.X,iC p.Y]] [] (fun (t:Bool) => [.c (bC t)]) (fun (t:Bool) => []) []:=by
 refine FT.of [] Try.func129 Try.ntmps129 Q y2 ?_
 intro w0 U0 R0 g0
 unfold CX
 refine Ws (Wr ?_)
 refine fZ 21 (.agg [iC p.X,iC p.Y]) bf y5 (aI (Bv false) ak (On (Ws ?_)))
 refine aC.eG (fun j4 => ([(2,Bv j4)],[])) ?_ (fun j4 _ => ?_)
 ·refine Wr (dR (iC p.X) kV bK bI (aU fun r5 nU => (jC [.c (iC p.X),.c (iC 0),.c (iC 4)] (PY p.X 0 4 r5 nU) KY (vV y3) y5 ⟨Q,Q,y2,y2,J⟩ (aG (Bv r5) y4 (aT.split (fun hb6 => ?_) (fun hb6 => ?_))))))
  ·refine jf (iC p.Y) lq bK hb6 gm (aU fun r7 tZ => (aT.pure (bU [.c (iC p.Y),.c (iC 0),.c (iC 4)] (PY p.Y 0 4 r7 tZ) KY (vV y3) J y3) ⟨Q,Q,y2,y2,J⟩ J (gH hb6 Q Q) Q (dn (Bv r7) hb6 y5 (aI (Bv r7) y4 (On (aX Q z1 J))))))
  ·refine af hb6 y5 (af hb6 y5 (af hb6 y5 (gK (Bv false) hb6 aP (aI (Bv false) y4 (On (aX Q z1 J))))))
 ·refine bT z1 J ⟨ah.sc,J⟩ J
theorem aC9 (g:bM):FT Try.prog (Et g) 128 [.agg (dI g)] [] (fun (t:Bool) => [.c (bC t)]) (fun (t:Bool) => []) []:=by
 refine FT.of [] Try.func128 Try.ntmps128 Q y2 ?_
 intro w0 U0 R0 g0
 unfold Et
 refine Ws (Wr ?_)
 refine fZ 21 (.agg (dI g)) dM y5 (aI (Bv false) ak (On (Ws (Ws ?_))))
 refine aC.eG (fun j3 => ([(1,Cc (.pl 21 0)),(14,Bv j3)],[(21,.row 26 [dI g])])) ?_ (fun j3 _ => ?_)
 ·refine Wr (dR (iC g.aF) lV bK bI (aU fun r4 hr4 => (jC [.c (iC g.aF),.c (iC 1),.c (iC 8)] (PY g.aF 1 8 r4 hr4) KY (vV y3) y5 ⟨Q,Q,y2,y2,J⟩ (au (LT.not Q) Q Q Q (aG (Bv (!r4)) y4 (aT.split (fun hb5 => ?_) (fun hb5 => ?_)))))))
  ·refine af hb5 y5 (af hb5 y5 (af hb5 y5 (af hb5 y5 (dn (Bv true) hb5 aP (On (aX Q z2 z1))))))
  ·refine jf (xF aK g.aA) gq iQ hb5 gm (au (LT.gB Q iU) Q (gH hb5 Q Q) Q (iV LT.gtr hb5 kY (gK (Bv (decide (24 < (g.aA.length:Int)))) hb5 y5 (On (aX Q z2 z1)))))
 ·refine aC.cond Q (fun hc6 => ?_) (fun hc6 => ?_)
  ·refine Ws (Wr ?_)
   refine aI (Bv false) ak (On (bT z1 J ⟨ah.sc,J⟩ J))
  ·refine aC.skip (Ws (Ws (Wr ?_)))
   refine dR (xF aK g.aA) gq iQ bI (au (LT.gB Q iU) Q Q Q (aG (Iv 0) ak (On (aC.block ?_))))
   refine aC.ql (id:=0) (CS g) (fun s7 => ([(1,Cc (.pl 21 0)),(16,Cc (xF aK g.aA)),(17,Iv (g.aA.length:Int)),(18,Iv s7)],[(21,.row 26 [dI g])])) (fun KR => ([],[])) (lI Try.prog Try.f128.results.toList [] [] (fun (t:Bool) => [.c (bC t)]) (fun (t:Bool) => [])) ?_ (aj.of z4 z1) Q (fun KR _ => ?_) qj
   ·intro s7
    unfold CS
    refine Ws (Wr ?_)
    refine aZ LT.lss y5 (On (Ws ?_))
    refine aC.cond Q (fun Eb => ?_) (fun Eb => ?_)
    ·refine aC.skip (Ws (aC.block (Ws (Wr ?_))))
     refine aG (Iv s7) y4 (aU fun gu Bz => (dU (LT.dZ (enc:=aK) Q oL Bz fG) Q Q Q Q (au (kC Q lU jW fG) Q Q Q (dQ 23 [iC 0,iC 0] jQ y6 (aI (Iv s7) y4 (dA (stA [iC gu.A,iC gu.B] Q Q jW fG) Q Q Q Q Q (On (Ws ?_))))))))
     refine aC.eG (fun j49 => ([(1,Cc (.pl 21 0)),(16,Cc (xF aK g.aA)),(17,Iv (g.aA.length:Int)),(18,Iv s7),(54,Bv j49)],[(21,.row 26 [dI g])])) ?_ (fun j49 _ => ?_)
     ·refine en [(1,Cc (.pl 21 0)),(3,Iv s7),(4,Cc (.pl 23 0)),(16,Cc (xF aK g.aA)),(17,Iv (g.aA.length:Int)),(18,Iv s7)] [(21,.row 26 [dI g]),(23,.row 96 [[iC gu.A,iC gu.B]])] z6 z2 (aC.draw mixed (dw (iC gu.A) mZ bK bI (jS LT.lss aP (aY (Bv (decide (gu.A < 0))) y4 (aN.split (fun pG => ?_) (fun pG => ?_))))))
      ·refine aS pG y3 (aS pG y3 (aS pG y3 (aS pG y3 (aS pG y3 (gW (Bv true) pG aP (aY (Bv true) y4 (aH y3 (aH y3 (aH y3 (aH y3 (aH y3 ?_)))))))))))
       refine gW (Bv true) Q aP (aY (Bv true) y4 (aH y3 (aH y3 (aH y3 (aH y3 (aH y3 (aH y3 (aH y3 (aH y3 (aH y3 (aH y3 ?_)))))))))))
       refine aH y3 (aH y3 (aH y3 (gW (Bv true) Q aP (dF (aX Q z5 z1)))))
      ·refine qA (iC gu.A) mZ bK pG gm (qA (iC gu.B) nS bK pG gm (sN LT.geq pG y6 (dD (Bv (decide (gu.B ≤ gu.A))) pG y5 (aY (Bv (decide (gu.B ≤ gu.A))) y4 (aN.split (fun pI => ?_) (fun pI => ?_))))))
       ·refine aS pI y3 (aS pI y3 (aS pI y3 (aS pI y3 (aS pI y3 (gW (Bv true) pI aP (aY (Bv true) y4 (aH y3 (aH y3 (aH y3 (aH y3 (aH y3 ?_)))))))))))
        refine aH y3 (aH y3 (aH y3 (aH y3 (aH y3 (aH y3 (aH y3 (aH y3 (gW (Bv true) Q aP (dF (aX Q z5 z1))))))))))
       ·refine qA (iC gu.B) nS bK pI gm (qA (iC g.aF) lV bK pI gm (sN LT.geq pI y6 (dD (Bv (decide (g.aF ≤ gu.B))) pI y5 (aY (Bv (decide (g.aF ≤ gu.B))) y4 (aN.split (fun nT => ?_) (fun nT => ?_))))))
        ·refine aS nT y3 (aS nT y3 (aS nT y3 (aH y3 (aH y3 (aH y3 (aH y3 (aH y3 (aH y3 (aH y3 (aH y3 (aH y3 ?_)))))))))))
         refine aS nT y3 (gW (Bv true) nT aP (dF (aX Q z5 z1)))
        ·refine kD (Iv s7) nT y5 (sN LT.gtr nT kY (kD (Bv (decide (0 < s7))) nT y5 (aN.split (fun jg => ?_) (fun jg => ?_))))
         ·refine qA (xF aK g.aA) gq iQ jg gm (kD (Iv s7) jg y5 (sN LT.sub jg kY (aN.bind fun x54 MV => (bQ (LT.dZ (enc:=aK) Q oL MV fG) Q Q (gH jg Q Q) Q (bH (kC Q lU jW fG) Q (gH jg Q Q) Q (bV (bD [iC gu.A,iC gu.B] Q lU jW fG) Q Q (gH jg Q Q) Q (aN.bind fun yP Vt => (aN.pure (bU [.agg [iC x54.A,iC x54.B],.agg [iC gu.A,iC gu.B]] (aKP x54 gu yP Vt) aEG (DX y4) J y3) z3 J (gH jg Q Q) Q (sN LT.gtr jg kY (bQ (LT.pU (v:=(Bv (decide (0 < yP)))) Q jg) Q Q (gH nT Q Q) Q ?_))))))))))
          refine dD (Bv (decide (0 < yP))) nT y5 (dF (aX Q z5 z1))
         ·refine aS jg y3 (aS jg y3 (aS jg y3 (aS jg y3 (aS jg y3 (aS jg y3 (aS jg y3 (aS jg y3 (aS jg y3 (bQ (LT.wO (v:=(Bv false)) Q jg) Q y2 (gH nT Q Q) Q (dD (Bv false) nT y5 (dF ?_)))))))))))
          refine aX Q z5 z1
     ·refine aC.cond Q (fun Va => ?_) (fun Va => ?_)
      ·refine Ws (Wr ?_)
       refine aI (Bv false) ak (On (aC.ret ⟨Q,qc z1 J ⟨ah.sc,J⟩ J⟩))
      ·refine aC.skip (aC.blk (Wr ?_))
       refine aZ LT.add aP (aG (Iv (aB (s7 + 1))) y4 (On (aX Q z4 z1)))
    ·refine gJ y2 J J
   ·refine Ws (Wr ?_)
    refine aI (Bv true) ak (On (bT z1 J ⟨ah.sc,J⟩ J))
theorem aKR (l:(List Int)):FT Try.prog (Ij l) 91 [.c (xF aQ l)] [] (fun (t:(List Int)) => [.c (lo 0 t.length)]) (fun (t:(List Int)) => [(0,pR 3 aQ t)]) [0]:=by
 refine FT.of [] Try.func91 Try.ntmps91 Q y2 ?_
 intro w0 U0 R0 g0
 unfold Ij
 refine Ws (Wr ?_)
 refine aI (Cc (sC aO)) ak (On (Ws (Wr ?_)))
 refine ny (gy 21 aQ [] [] iK lG y7) Q Q (aG (Cc (xF aQ l)) y4 (aU fun u1 hu1 => (dA (LT.BM (enc:=aQ) Q  Q iK lG Q (by decide) (by decide) (fun _ => Q) (jw hu1)) Q Q Q Q Q (aI (Cc (lo 21 ((([]:List Int) ++ l).length))) y4 (On (en [(2,Cc (lo 21 ((([]:List Int) ++ l).length)))] [(21,pR 3 aQ (([]:List Int) ++ l))] z1 z1 (aC.ent (aj.mv 21 0 Q Q) (en [(2,Cc (lo 0 ((([]:List Int) ++ l).length)))] [(0,pR 3 aQ (([]:List Int) ++ l))] z1 z1 (bT z1 z1 ⟨J,J⟩ ⟨bg.dO rY,J⟩)))))))))
theorem vW (f:aW):FT Try.prog (sU f) 54 [.agg (ay f)] [] (fun (t:Bool) => [.c (bC t)]) (fun (t:Bool) => []) []:=by
 refine FT.of [] Try.func54 Try.ntmps54 Q y2 ?_
 intro w0 U0 R0 g0
 unfold sU
 refine Ws (Wr ?_)
 refine fZ 21 (.agg (ay f)) ai y5 (aI (Bv false) ak (On (Ws (Wr ?_))))
 refine au (LT.eu Q jv) Q Q Q (cZ (bD (dI f.Graph) Q iI dX dM) Q Q Q Q (dQ 22 [iC 0,sC aO] lF y6 (dA (stA (dI f.Graph) Q Q dX dM) Q Q Q Q Q (On (Ws (Ws ?_))))))
 refine aC.eG (fun j5 => ([(1,Cc (.pl 21 0)),(3,Cc (.pl 22 0)),(31,Bv j5)],[(21,.row 29 [ay f]),(22,.row 26 [dI f.Graph])])) ?_ (fun j5 _ => ?_)
 ·refine en [(1,Cc (.pl 21 0)),(3,Cc (.pl 22 0))] [(21,.row 29 [ay f]),(22,.row 26 [dI f.Graph])] z2 z2 (Wr (cZ (bD (dI f.Graph) Q iI dX dM) Q Q Q Q (aU fun r6 tY => (jC [.agg (dI f.Graph)] (aC9 f.Graph r6 tY) Yx (qV y2) y5 z2 (au (LT.not Q) Q Q Q (aG (Bv (!r6)) y4 (aT.split (fun hb7 => ?_) (fun hb7 => ?_))))))))
  ·refine af hb7 y5 (af hb7 y5 (af hb7 y5 (dn (Bv true) hb7 aP (aG (Bv true) y4 (bY y5 (bY y5 (bY y5 (bY y5 (dn (Bv true) Q aP (aG (Bv true) y4 (bY y5 ?_)))))))))))
   refine bY y5 (bY y5 (bY y5 (bY y5 (bY y5 (dn (Bv true) Q aP (On (aX Q z3 z2)))))))
  ·refine jf (iC f.Graph.aF) lV bK hb7 gm (iV LT.gtr hb7 kY (gK (Bv (decide (6 < f.Graph.aF))) hb7 y5 (aG (Bv (decide (6 < f.Graph.aF))) y4 (aT.split (fun hb8 => ?_) (fun hb8 => ?_)))))
   ·refine af hb8 y5 (af hb8 y5 (af hb8 y5 (af hb8 y5 (dn (Bv true) hb8 aP (aG (Bv true) y4 (bY y5 (bY y5 (bY y5 (bY y5 (bY y5 (bY y5 ?_)))))))))))
    refine dn (Bv true) Q aP (On (aX Q z3 z2))
   ·refine jf (xF aK f.Graph.aA) gq iQ hb8 gm (au (LT.gB Q iU) Q (gH hb8 Q Q) Q (iV LT.gtr hb8 kY (gK (Bv (decide (15 < (f.Graph.aA.length:Int)))) hb8 y5 (aG (Bv (decide (15 < (f.Graph.aA.length:Int)))) y4 (aT.split (fun lC => ?_) (fun lC => ?_))))))
    ·refine af lC y5 (af lC y5 (af lC y5 (af lC y5 (af lC y5 (af lC y5 (dn (Bv true) lC aP (On (aX Q z3 z2))))))))
    ·refine jf (xF aJ f.Places) fJ fV lC gm (au (LT.gB Q lQ) Q (gH lC Q Q) Q (jf (iC f.Graph.aF) lV bK lC gm (iV LT.neq lC y6 (gK (Bv ((f.Places.length:Int) != f.Graph.aF)) lC y5 (On (aX Q z3 z2))))))
 ·refine aC.cond Q (fun LY => ?_) (fun LY => ?_)
  ·refine Ws (Wr ?_)
   refine aI (Bv false) ak (On (bT z1 J ⟨ah.sc,J⟩ J))
  ·refine aC.skip (Ws (Ws (Wr ?_)))
   refine dR (xF aJ f.Places) fJ fV bI (au (LT.gB Q lQ) Q Q Q (aG (Iv 0) ak (On (aC.block ?_))))
   refine aC.ql (id:=0) (IY f) (fun s11 => ([(1,Cc (.pl 21 0)),(3,Cc (.pl 22 0)),(33,Cc (xF aJ f.Places)),(34,Iv (f.Places.length:Int)),(35,Iv s11)],[(21,.row 29 [ay f]),(22,.row 26 [dI f.Graph])])) (fun b20 => ([(1,Cc (.pl 21 0)),(3,Cc (.pl 22 0))],[(21,.row 29 [ay f]),(22,.row 26 [dI f.Graph])])) (lI Try.prog Try.f54.results.toList [] [] (fun (t:Bool) => [.c (bC t)]) (fun (t:Bool) => [])) ?_ (aj.of z5 z2) Q (fun b20 _ => ?_) qj
   ·intro s11
    unfold IY
    refine Ws (Wr ?_)
    refine aZ LT.lss y5 (On (Ws ?_))
    refine aC.cond Q (fun hc21 => ?_) (fun hc21 => ?_)
    ·refine aC.skip (Ws (aC.block (Ws (Wr ?_))))
     refine aU fun uK MN => (dU (LT.dZ (enc:=aJ) Q jD MN bf) Q Q Q Q (au (kC Q gI dS bf) Q Q Q (dQ 24 [iC 0,iC 0] kM y6 (dA (stA [iC uK.X,iC uK.Y] Q Q dS bf) Q Q Q Q Q (On (Ws (Wr ?_)))))))
     refine cZ (bD [iC uK.X,iC uK.Y] Q gI dS bf) Q Q Q Q (aU fun sD Lp => (jC [.agg [iC uK.X,iC uK.Y]] (UA uK sD Lp) QE (qV y2) y5 z2 (au (LT.not Q) Q Q Q (On (aC.cond Q (fun hc24 => ?_) (fun hc24 => ?_))))))
     ·refine Ws (en [] [] J J (Wr (aI (Bv false) ak (On (aC.ret ⟨Q,qc z1 J ⟨ah.sc,J⟩ J⟩)))))
     ·refine aC.skip (aC.blk ?_)
      refine en [(1,Cc (.pl 21 0)),(3,Cc (.pl 22 0)),(33,Cc (xF aJ f.Places)),(34,Iv (f.Places.length:Int)),(35,Iv s11)] [(21,.row 29 [ay f]),(22,.row 26 [dI f.Graph])] z5 z2 (Wr (aZ LT.add aP (aG (Iv (aB (s11 + 1))) y4 (On (aX Q z5 z2)))))
    ·refine gJ y2 z2 z2
   ·refine Ws (Ws (Wr ?_))
    refine dR (xF aK f.Graph.aA) gq iQ bI (au (LT.gB Q iU) Q Q Q (aG (Iv 0) ak (On (aC.block ?_))))
    refine aC.ql (id:=2) (IZ f) (fun nZ => ([(1,Cc (.pl 21 0)),(3,Cc (.pl 22 0)),(44,Cc (xF aK f.Graph.aA)),(45,Iv (f.Graph.aA.length:Int)),(46,Iv nZ)],[(21,.row 29 [ay f]),(22,.row 26 [dI f.Graph])])) (fun wX => ([],[])) (lI Try.prog Try.f54.results.toList [] [] (fun (t:Bool) => [.c (bC t)]) (fun (t:Bool) => [])) ?_ (aj.of z5 z2) Q (fun wX _ => ?_) qj
    ·intro nZ
     unfold IZ
     refine Ws (Wr ?_)
     refine aZ LT.lss y5 (On (Ws ?_))
     refine aC.cond Q (fun hc63 => ?_) (fun hc63 => ?_)
     ·refine aC.skip (Ws (aC.block (Ws (Wr ?_))))
      refine aG (Iv nZ) y4 (aU fun jb WR => (dU (LT.dZ (enc:=aK) Q oL WR fG) Q Q Q Q (au (kC Q lU jW fG) Q Q Q (dQ 26 [iC 0,iC 0] jQ y6 (aI (Iv nZ) y4 (dA (stA [iC jb.A,iC jb.B] Q Q jW fG) Q Q Q Q Q (On (Ws ?_))))))))
      refine aC.eG (fun j72 => ([(1,Cc (.pl 21 0)),(3,Cc (.pl 22 0)),(44,Cc (xF aK f.Graph.aA)),(45,Iv (f.Graph.aA.length:Int)),(46,Iv nZ),(77,Bv j72)],[(21,.row 29 [ay f]),(22,.row 26 [dI f.Graph])])) ?_ (fun j72 _ => ?_)
      ·refine en [(1,Cc (.pl 21 0)),(3,Cc (.pl 22 0)),(6,Iv nZ),(7,Cc (.pl 26 0)),(44,Cc (xF aK f.Graph.aA)),(45,Iv (f.Graph.aA.length:Int)),(46,Iv nZ)] [(21,.row 29 [ay f]),(22,.row 26 [dI f.Graph]),(26,.row 96 [[iC jb.A,iC jb.B]])] z7 z3 (aC.draw mixed (aY (Iv nZ) y4 (jS LT.gtr aP (aY (Bv (decide (0 < nZ))) y4 (aN.split (fun sS => ?_) (fun sS => ?_))))))
       ·refine qA (xF aK f.Graph.aA) gq iQ sS gm (kD (Iv nZ) sS y5 (sN LT.sub sS kY (aN.bind fun BR aHs => (bQ (LT.dZ (enc:=aK) Q oL aHs fG) Q Q (gH sS Q Q) Q (bH (kC Q lU jW fG) Q (gH sS Q Q) Q (bV (bD [iC jb.A,iC jb.B] Q lU jW fG) Q Q (gH sS Q Q) Q (bQ (LT.LH [BR.A,BR.B] [jb.A,jb.B] Q NC Q Q) Q Q (gH sS Q Q) Q (gW (Bv (jM [BR.A,BR.B] [jb.A,jb.B])) sS y5 (aY (Bv (jM [BR.A,BR.B] [jb.A,jb.B])) y4 (aN.split (fun oM => ?_) (fun oM => ?_)))))))))))
        ·refine aS oM y3 (aS oM y3 (aS oM y3 (aS oM y3 (aS oM y3 (aS oM y3 (aS oM y3 (aS oM y3 (aS oM y3 (aS oM y3 (aS oM y3 (aS oM y3 ?_)))))))))))
         refine aS oM y3 (gW (Bv true) oM aP (dF (aX Q z6 z2)))
        ·refine qA (xF aJ f.Places) fJ fV oM gm (qA (iC jb.A) mZ bK oM gm (aN.bind fun GN aHt => (bQ (LT.dZ (enc:=aJ) Q jD aHt bf) Q Q (gH oM Q Q) Q (bH (kC Q gI dS bf) Q (gH oM Q Q) Q (qA (xF aJ f.Places) fJ fV oM gm (qA (iC jb.B) nS bK oM gm (aN.bind fun GR aHu => ?_)))))))
         refine bQ (LT.dZ (enc:=aJ) Q jD aHu bf) Q Q (gH oM Q Q) Q (bH (kC Q gI dS bf) Q (gH oM Q Q) Q (bQ (LT.LH [GN.X,GN.Y] [GR.X,GR.Y] Q Hy Q Q) Q Q (gH oM Q Q) Q (dD (Bv (jM [GN.X,GN.Y] [GR.X,GR.Y])) oM y5 (dF (aX Q z6 z2)))))
       ·refine aS sS y3 (aS sS y3 (aS sS y3 (aS sS y3 (aS sS y3 (aS sS y3 (aS sS y3 (aS sS y3 (dD (Bv false) sS aP (aY (Bv false) y4 (bH (LT.eu Q fJ) Q (gS Q Q) Q (bV (wJ (xF aJ f.Places) Q fV) Q Q (gS Q Q) Q ?_)))))))))))
        refine bH (LT.eu Q mZ) Q (gS Q Q) Q (bV (wJ (iC jb.A) Q bK) Q Q (gS Q Q) Q (aN.bind fun GU aHv => (bQ (LT.dZ (enc:=aJ) Q jD aHv bf) Q Q (gS Q Q) Q (bH (kC Q gI dS bf) Q (gS Q Q) Q (bH (LT.eu Q fJ) Q (gS Q Q) Q (bV (wJ (xF aJ f.Places) Q fV) Q Q (gS Q Q) Q (bH (LT.eu Q nS) Q (gS Q Q) Q (bV (wJ (iC jb.B) Q bK) Q Q (gS Q Q) Q (aN.bind fun GV aHw => (bQ (LT.dZ (enc:=aJ) Q jD aHw bf) Q Q (gS Q Q) Q (bH (kC Q gI dS bf) Q (gS Q Q) Q ?_)))))))))))
        refine bQ (LT.LH [GU.X,GU.Y] [GV.X,GV.Y] Q Hy Q Q) Q Q (gS Q Q) Q (dD (Bv (jM [GU.X,GU.Y] [GV.X,GV.Y])) Q y5 (dF (aX Q z6 z2)))
      ·refine aC.cond Q (fun aF0 => ?_) (fun aF0 => ?_)
       ·refine Ws (Wr ?_)
        refine aI (Bv false) ak (On (aC.ret ⟨Q,qc z1 J ⟨ah.sc,J⟩ J⟩))
       ·refine aC.skip (aC.blk (Wr ?_))
        refine aZ LT.add aP (aG (Iv (aB (nZ + 1))) y4 (On (aX Q z5 z2)))
     ·refine gJ y2 J J
    ·refine Ws (Wr ?_)
     refine aI (Bv true) ak (On (bT z1 J ⟨ah.sc,J⟩ J))
theorem aKM (f:aW):FT Try.prog (NK f) 83 [.agg (ay f)] [] (fun (t:(List (List Int))) => [.c (lo 0 t.length)]) (fun (t:(List (List Int))) => [(0,.dh 37 1 (dV t)),(1,.pool 3 (rowsOf aQ t))]) [0,1]:=by
 refine FT.of [] Try.func83 Try.ntmps83 Q y2 ?_
 intro w0 U0 R0 g0
 unfold NK
 refine Ws (Wr ?_)
 refine fZ 21 (.agg (ay f)) ai y5 (aI (Cc (sC aO)) ak (On (Ws (Wr ?_))))
 refine ny (LT.buildSlice (n:=22) (els:=[]) [] Q Q qH xU Q Q Q Q (by decide) Q Q) Q Q (aI (Cc (lo 22 0)) y4 (On (aC.ent (aj.aB0 23 3 Q) (aC.ent (aj.dh (n:=22) (p:=23) (lens:=dV ([]:List (List Int))) (List.append_nil _) Q) (Ws (Ws (Wr ?_)))))))
 refine cZ (bD (ay f) Q bP ax ai) Q Q Q Q (aU fun r1 hr1 => (jC [.agg (ay f)] (vW f r1 hr1) vI (jd y3) y5 z2 (au (LT.not Q) Q Q Q (On (aC.cond Q (fun hc2 => ?_) (fun hc2 => ?_))))))
 ·refine Ws (Wr ?_)
  refine aG (Cc (lo 22 0)) y4 (aI (Cc (lo 22 0)) y4 (On (en [(2,Cc (lo 22 0))] [(22,.dh 37 23 (dV ([]:List (List Int)))),(23,.pool 3 (rowsOf aQ ([]:List (List Int))))] z1 z2 (aC.ent (aj.mv 22 0 Q Q) (aC.ent (aj.mv 23 1 Q Q) (en [(2,Cc (lo 0 (([]:List (List Int)).length)))] [(0,.dh 37 1 (dV ([]:List (List Int)))),(1,.pool 3 (rowsOf aQ ([]:List (List Int))))] z1 z2 (bT z1 z2 ⟨J,J⟩ ⟨J,bg.SY rY _,J⟩)))))))
 ·refine aC.skip (Ws (Ws (Wr ?_)))
  refine au (LT.eu Q jv) Q Q Q (dR (xF aK f.Graph.aA) gq iQ bI (au (LT.gB Q iU) Q Q Q (aG (Iv 0) ak (On (aC.block ?_)))))
  refine aC.jP (id:=0) (Ie f) (fun s3 => ([(1,Cc (.pl 21 0)),(3,Cc (lo 22 s3.2.length)),(16,Cc (xF aK f.Graph.aA)),(17,Iv (f.Graph.aA.length:Int)),(18,Iv s3.1)],[(21,.row 29 [ay f]),(22,.dh 37 23 (dV s3.2)),(23,.pool 3 (rowsOf aQ s3.2))])) (fun gG => ([(3,Cc (lo 22 gG.length))],[(22,.dh 37 23 (dV gG)),(23,.pool 3 (rowsOf aQ gG))])) ?_ (aj.of z5 z3) Q (fun gG _ => ?_)
  ·intro s3
   unfold Ie
   refine Ws (Wr ?_)
   refine aZ LT.lss y5 (On (Ws ?_))
   refine aC.cond Q (fun hc25 => ?_) (fun hc25 => ?_)
   ·refine aC.skip (Ws (aC.block (Ws (Wr ?_))))
    refine aU fun fH Bq => (dU (LT.dZ (enc:=aK) Q oL Bq fG) Q Q Q Q (au (kC Q lU jW fG) Q Q Q (dQ 25 [iC 0,iC 0] jQ y6 (dA (stA [iC fH.A,iC fH.B] Q Q jW fG) Q Q Q Q Q (On (Ws (Wr ?_)))))))
    refine au (LT.eu Q jv) Q Q Q (dR (iC f.Graph.aF) lV bK bI (aZ LT.mul oQ (aU fun u27 aHY => (YX (LT.aCo (n:=26) (enc:=aQ) (zc:=[iC 0]) (0:Int) Q iK lG Q Q Q (by decide) (by decide) (aA7 aHY) Q) Q Q Q Q (aI (Cc (lo 26 ((List.replicate (aB (2 * f.Graph.aF)).toNat (0:Int)).length))) y4 (On (Ws ?_)))))))
    refine en [(1,Cc (.pl 21 0)),(3,Cc (lo 22 s3.2.length)),(5,Cc (.pl 25 0)),(6,Cc (lo 26 ((List.replicate (aB (2 * f.Graph.aF)).toNat (0:Int)).length))),(16,Cc (xF aK f.Graph.aA)),(17,Iv (f.Graph.aA.length:Int)),(18,Iv s3.1)] [(21,.row 29 [ay f]),(22,.dh 37 23 (dV s3.2)),(23,.pool 3 (rowsOf aQ s3.2)),(25,.row 96 [[iC fH.A,iC fH.B]]),(26,pR 3 aQ (List.replicate (aB (2 * f.Graph.aF)).toNat (0:Int)))] z7 z5 (aC.draw mixed (dw (xF aJ f.Places) fJ fV bI (dw (iC fH.A) mZ bK bI (aN.bind fun x28 hx28 => (bQ (LT.dZ (enc:=aJ) Q jD hx28 bf) Q Q Q Q (bH (kC Q gI dS bf) Q Q Q (dw (xF aJ f.Places) fJ fV bI (bH (LT.eu Q nS) Q Q Q ?_))))))))
    refine bV (wJ (iC fH.B) Q bK) Q Q Q Q (aN.bind fun x29 hx29 => (bQ (LT.dZ (enc:=aJ) Q jD hx29 bf) Q Q Q Q (bH (kC Q gI dS bf) Q Q Q (zW (LT.alloc (n:=27) (cells:=[iC 0,iC 0]) Q kM Q Q Q) Q Q (zW (LT.alloc (n:=28) (cells:=[iC 0,iC 0]) Q kM Q Q Q) Q Q (iY (stA [iC x28.X,iC x28.Y] Q Q dS bf) Q Q Q Q Q (iY (stA [iC x29.X,iC x29.Y] Q Q dS bf) Q Q Q Q Q (dF (Ws (en [(1,Cc (.pl 21 0)),(3,Cc (lo 22 s3.2.length)),(5,Cc (.pl 25 0)),(6,Cc (lo 26 ((List.replicate (aB (2 * f.Graph.aF)).toNat (0:Int)).length))),(7,Cc (.pl 27 0)),(8,Cc (.pl 28 0)),(16,Cc (xF aK f.Graph.aA)),(17,Iv (f.Graph.aA.length:Int)),(18,Iv s3.1)] [(21,.row 29 [ay f]),(22,.dh 37 23 (dV s3.2)),(23,.pool 3 (rowsOf aQ s3.2)),(25,.row 96 [[iC fH.A,iC fH.B]]),(26,pR 3 aQ (List.replicate (aB (2 * f.Graph.aF)).toNat (0:Int))),(27,.row 82 [[iC x28.X,iC x28.Y]]),(28,.row 82 [[iC x29.X,iC x29.Y]])] z9 z7 (aC.draw mixed ?_)))))))))))
    refine aY (Cc (lo 26 ((List.replicate (aB (2 * f.Graph.aF)).toNat (0:Int)).length))) y4 (dw (iC fH.A) mZ bK bI (jS LT.mul oQ (aY (Cc (lo 26 ((List.replicate (aB (2 * f.Graph.aF)).toNat (0:Int)).length))) y4 (dw (iC fH.A) mZ bK bI (jS LT.mul oQ (jS LT.add aP (dw (iC x28.X) kV bK bI (bH (LT.eu Q kV) Q Q Q ?_))))))))
    refine bV (wJ (iC x29.X) Q bK) Q Q Q Q (jS LT.sub y5 (dw (iC x28.Y) lq bK bI (dw (iC x29.Y) lq bK bI (jS LT.sub y5 (aN.bind fun x30 MQ => (kJ (LT.iW Q Q lJ MQ) Q Q Q Q Q (iY (qW 0 (.c (iC (aB (x28.X - x29.X)))) (aB (x28.X - x29.X)) Q Q qh jq MQ) Q Q Q Q Q (aN.bind fun x31 hx31 => (kJ (LT.iW (show (List.replicate (aB (2 * f.Graph.aF)).toNat (0:Int)).length = ((List.replicate (aB (2 * f.Graph.aF)).toNat (0:Int)).set (aB (2 * fH.A)).toNat (aB (x28.X - x29.X))).length by simp only [List.length_set]) Q lJ hx31) Q Q Q Q Q ?_)))))))))
    refine iY (qW 0 (.c (iC (aB (x28.Y - x29.Y)))) (aB (x28.Y - x29.Y)) Q Q qh jq hx31) Q Q Q Q Q (dF (Ws (en [(1,Cc (.pl 21 0)),(3,Cc (lo 22 s3.2.length)),(5,Cc (.pl 25 0)),(6,Cc (lo 26 ((List.replicate (aB (2 * f.Graph.aF)).toNat (0:Int)).length))),(7,Cc (.pl 27 0)),(8,Cc (.pl 28 0)),(16,Cc (xF aK f.Graph.aA)),(17,Iv (f.Graph.aA.length:Int)),(18,Iv s3.1)] [(21,.row 29 [ay f]),(22,.dh 37 23 (dV s3.2)),(23,.pool 3 (rowsOf aQ s3.2)),(25,.row 96 [[iC fH.A,iC fH.B]]),(26,pR 3 aQ (((List.replicate (aB (2 * f.Graph.aF)).toNat (0:Int)).set (aB (2 * fH.A)).toNat (aB (x28.X - x29.X))).set (aB ((aB (2 * fH.A)) + 1)).toNat (aB (x28.Y - x29.Y)))),(27,.row 82 [[iC x28.X,iC x28.Y]]),(28,.row 82 [[iC x29.X,iC x29.Y]])] z9 z7 (aC.draw mixed (aY (Cc (lo 26 ((List.replicate (aB (2 * f.Graph.aF)).toNat (0:Int)).length))) y4 (dw (iC fH.B) nS bK bI (jS LT.mul oQ (aY (Cc (lo 26 ((List.replicate (aB (2 * f.Graph.aF)).toNat (0:Int)).length))) y4 (dw (iC fH.B) nS bK bI ?_)))))))))
    refine jS LT.mul oQ (jS LT.add aP (dw (iC x29.X) kV bK bI (dw (iC x28.X) kV bK bI (jS LT.sub y5 (dw (iC x29.Y) lq bK bI (dw (iC x28.Y) lq bK bI (jS LT.sub y5 ?_)))))))
    refine aN.bind fun x32 hx32 => (kJ (LT.iW (show (List.replicate (aB (2 * f.Graph.aF)).toNat (0:Int)).length = (((List.replicate (aB (2 * f.Graph.aF)).toNat (0:Int)).set (aB (2 * fH.A)).toNat (aB (x28.X - x29.X))).set (aB ((aB (2 * fH.A)) + 1)).toNat (aB (x28.Y - x29.Y))).length by simp only [List.length_set]) Q lJ hx32) Q Q Q Q Q (iY (qW 0 (.c (iC (aB (x29.X - x28.X)))) (aB (x29.X - x28.X)) Q Q qh jq hx32) Q Q Q Q Q (aN.bind fun UF Q8 => (kJ (LT.iW (show (List.replicate (aB (2 * f.Graph.aF)).toNat (0:Int)).length = ((((List.replicate (aB (2 * f.Graph.aF)).toNat (0:Int)).set (aB (2 * fH.A)).toNat (aB (x28.X - x29.X))).set (aB ((aB (2 * fH.A)) + 1)).toNat (aB (x28.Y - x29.Y))).set (aB (2 * fH.B)).toNat (aB (x29.X - x28.X))).length by simp only [List.length_set]) Q lJ Q8) Q Q Q Q Q (iY (qW 0 (.c (iC (aB (x29.Y - x28.Y)))) (aB (x29.Y - x28.Y)) Q Q qh jq Q8) Q Q Q Q Q (dF (en [(1,Cc (.pl 21 0)),(3,Cc (lo 22 s3.2.length)),(6,Cc (lo 26 ((List.replicate (aB (2 * f.Graph.aF)).toNat (0:Int)).length))),(16,Cc (xF aK f.Graph.aA)),(17,Iv (f.Graph.aA.length:Int)),(18,Iv s3.1)] [(21,.row 29 [ay f]),(22,.dh 37 23 (dV s3.2)),(23,.pool 3 (rowsOf aQ s3.2)),(26,pR 3 aQ (((((List.replicate (aB (2 * f.Graph.aF)).toNat (0:Int)).set (aB (2 * fH.A)).toNat (aB (x28.X - x29.X))).set (aB ((aB (2 * fH.A)) + 1)).toNat (aB (x28.Y - x29.Y))).set (aB (2 * fH.B)).toNat (aB (x29.X - x28.X))).set (aB ((aB (2 * fH.B)) + 1)).toNat (aB (x29.Y - x28.Y))))] z6 z4 (Wr (aG (Cc (lo 22 s3.2.length)) y4 (aG (Cc (lo 26 ((List.replicate (aB (2 * f.Graph.aF)).toNat (0:Int)).length))) y4 (oC (LT.buildSlice (n:=29) (els:=[[lo 26 ((List.replicate (aB (2 * f.Graph.aF)).toNat (0:Int)).length)]]) [(0,.tmp 82,.c (lo 26 ((List.replicate (aB (2 * f.Graph.aF)).toNat (0:Int)).length)))] Q Q qH xU Q Q Q Q (by decide) Q Q) Q Q Q ?_)))))))))))
    refine aU fun u34 WG => (oW (LT.aDb Q Q Q qH xU Q (by decide) (by decide) Q (jw WG)) Q Q Q Q Q Q (aI (Cc (lo 22 (s3.2.length + 1))) y4 (On (aC.ent (aj.aCf (enc:=aQ) (n:=22) (m:=26) (p:=23) (rows:=s3.2) (r:=(((((List.replicate (aB (2 * f.Graph.aF)).toNat (0:Int)).set (aB (2 * fH.A)).toNat (aB (x28.X - x29.X))).set (aB ((aB (2 * fH.A)) + 1)).toNat (aB (x28.Y - x29.Y))).set (aB (2 * fH.B)).toNat (aB (x29.X - x28.X))).set (aB ((aB (2 * fH.B)) + 1)).toNat (aB (x29.Y - x28.Y)))) (rest:=[]) (show (List.replicate (aB (2 * f.Graph.aF)).toNat (0:Int)).length = (((((List.replicate (aB (2 * f.Graph.aF)).toNat (0:Int)).set (aB (2 * fH.A)).toNat (aB (x28.X - x29.X))).set (aB ((aB (2 * fH.A)) + 1)).toNat (aB (x28.Y - x29.Y))).set (aB (2 * fH.B)).toNat (aB (x29.X - x28.X))).set (aB ((aB (2 * fH.B)) + 1)).toNat (aB (x29.Y - x28.Y))).length by simp only [List.length_set]) Q Q Q Q Q) (aC.ent (aj.dh (n:=22) (p:=23) (lens:=dV (s3.2 ++ [((((List.replicate (aB (2 * f.Graph.aF)).toNat (0:Int)).set (aB (2 * fH.A)).toNat (aB (x28.X - x29.X))).set (aB ((aB (2 * fH.A)) + 1)).toNat (aB (x28.Y - x29.Y))).set (aB (2 * fH.B)).toNat (aB (x29.X - x28.X))).set (aB ((aB (2 * fH.B)) + 1)).toNat (aB (x29.Y - x28.Y))])) (List.append_nil _) Q) (aC.blk (Wr ?_)))))))
    refine aZ LT.add aP (aG (Iv (aB (s3.1 + 1))) y4 (On (aC.nil ⟨Q,aj.of ⟨Q,congrArg (fun l1 => (some (AV.s (.c (lo 22 l1))):Option AV)) (show (s3.2.length + 1) = (s3.2 ++ [((((List.replicate (aB (2 * f.Graph.aF)).toNat (0:Int)).set (aB (2 * fH.A)).toNat (aB (x28.X - x29.X))).set (aB ((aB (2 * fH.A)) + 1)).toNat (aB (x28.Y - x29.Y))).set (aB (2 * fH.B)).toNat (aB (x29.X - x28.X))).set (aB ((aB (2 * fH.B)) + 1)).toNat (aB (x29.Y - x28.Y))]).length from aA9),Q,Q,Q,J⟩ z3⟩)))
   ·refine gJ y2 z1 z2
  ·refine Ws (Wr ?_)
   refine aG (Cc (lo 22 gG.length)) y4 (aI (Cc (lo 22 gG.length)) y4 (On (en [(2,Cc (lo 22 gG.length))] [(22,.dh 37 23 (dV gG)),(23,.pool 3 (rowsOf aQ gG))] z1 z2 (aC.ent (aj.mv 22 0 Q Q) (aC.ent (aj.mv 23 1 Q Q) (en [(2,Cc (lo 0 gG.length))] [(0,.dh 37 1 (dV gG)),(1,.pool 3 (rowsOf aQ gG))] z1 z2 (bT z1 z2 ⟨J,J⟩ ⟨J,bg.SY rY _,J⟩)))))))
theorem aKS (l:(List (List Int))):FT Try.prog (NP l) 190 [.c (xF (iR false) l)] [] (fun (t:(List (List Int))) => [.c (lo 0 t.length)]) (fun (t:(List (List Int))) => [(0,.dh 37 1 (dV t)),(1,.pool 3 (rowsOf aQ t))]) [0,1]:=by
 refine FT.of [] Try.func190 Try.ntmps190 Q y2 ?_
 intro w0 U0 R0 g0
 unfold NP
 refine Ws (Wr ?_)
 refine aI (Cc (sC aO)) ak (On (Ws (Wr ?_)))
 refine ny (LT.buildSlice (n:=21) (els:=[]) [] Q Q qH xU Q Q Q Q (by decide) Q Q) Q Q (aI (Cc (lo 21 0)) y4 (On (aC.ent (aj.aB0 22 3 Q) (aC.ent (aj.dh (n:=21) (p:=22) (lens:=dV ([]:List (List Int))) (List.append_nil _) Q) (Ws (Ws (Wr ?_)))))))
 refine aG (Cc (xF (iR false) l)) y4 (au (LT.gB Q qH) Q Q Q (aG (Iv 0) ak (On (aC.block ?_))))
 refine aC.jP (id:=0) (Ik l) (fun s1 => ([(3,Cc (lo 21 s1.2.length)),(7,Cc (xF (iR false) l)),(8,Iv (l.length:Int)),(9,Iv s1.1)],[(21,.dh 37 22 (dV s1.2)),(22,.pool 3 (rowsOf aQ s1.2))])) (fun b10 => ([(3,Cc (lo 21 b10.length))],[(21,.dh 37 22 (dV b10)),(22,.pool 3 (rowsOf aQ b10))])) ?_ (aj.of z4 z2) Q (fun b10 _ => ?_)
 ·intro s1
  unfold Ik
  refine Ws (Wr ?_)
  refine aZ LT.lss y5 (On (Ws ?_))
  refine aC.cond Q (fun EZ => ?_) (fun EZ => ?_)
  ·refine aC.skip (Ws (aC.block (Ws (Wr ?_))))
   refine aU fun x12 Hl => (dU (LT.dZ (enc:=(iR false)) Q qK Hl Fq) Q Q Q Q (au (LT.iq Q uN) Q Q Q (aI (Cc (xF aQ x12)) y4 (On (Wr ?_)))))
   refine aG (Cc (lo 21 s1.2.length)) y4 (aG (Cc (xF aQ x12)) y4 (aU fun r13 uo => (aT.step (bU [.c (xF aQ x12)] (Fw.Fn.ren [(0,24)] (aKR x12 r13 uo) Q) aEb (iF Q) J y3) z2 J Q Q (oC (LT.buildSlice (n:=25) (els:=[[lo 24 r13.length]]) [(0,.tmp 15,.c (lo 24 r13.length))] Q Q qH xU Q Q Q Q (by decide) Q Q) Q Q Q (aU fun u14 MF => (oW (LT.aDb Q Q Q qH xU Q (by decide) (by decide) Q (jw MF)) Q Q Q Q Q Q (aI (Cc (lo 21 (s1.2.length + 1))) y4 (On (aC.ent (aj.aCf (enc:=aQ) (n:=21) (m:=24) (p:=22) (rows:=s1.2) (r:=r13) (rest:=[]) Q Q Q Q Q Q) (aC.ent (aj.dh (n:=21) (p:=22) (lens:=dV (s1.2 ++ [r13])) (List.append_nil _) Q) (aC.blk (Wr ?_))))))))))))
   refine aZ LT.add aP (aG (Iv (aB (s1.1 + 1))) y4 (On (aC.nil ⟨Q,aj.of ⟨congrArg (fun l1 => (some (AV.s (.c (lo 21 l1))):Option AV)) (show (s1.2.length + 1) = (s1.2 ++ [r13]).length from aA9),Q,Q,Q,J⟩ z2⟩)))
  ·refine gJ y2 z1 z2
 ·refine Ws (Wr ?_)
  refine aG (Cc (lo 21 b10.length)) y4 (aI (Cc (lo 21 b10.length)) y4 (On (en [(2,Cc (lo 21 b10.length))] [(21,.dh 37 22 (dV b10)),(22,.pool 3 (rowsOf aQ b10))] z1 z2 (aC.ent (aj.mv 21 0 Q Q) (aC.ent (aj.mv 22 1 Q Q) (en [(2,Cc (lo 0 b10.length))] [(0,.dh 37 1 (dV b10)),(1,.pool 3 (rowsOf aQ b10))] z1 z2 (bT z1 z2 ⟨J,J⟩ ⟨J,bg.SY rY _,J⟩)))))))
theorem aKX (m:(List (List Int))) (columns:Int):FT Try.prog (NQ m columns) 159 [.c (xF (iR false) m),.c (iC columns)] [] (fun (t:((List (List Int)) × (List Int) × Int)) => [.c (lo 0 t.1.length),.c (lo 2 t.2.1.length),.c (iC t.2.2)]) (fun (t:((List (List Int)) × (List Int) × Int)) => [(0,.dh 37 1 (dV t.1)),(1,.pool 3 (rowsOf aQ t.1)),(2,pR 3 aQ t.2.1)]) [0,1,2]:=by
 refine FT.of [] Try.func159 Try.ntmps159 Q y2 ?_
 intro w0 U0 R0 g0
 unfold NQ
 refine Ws (Wr ?_)
 refine aI (Cc (sC aO)) ak (aI (Cc (sC aO)) ak (aI (Iv 0) ak (On (Ws (Wr ?_)))))
 refine aG (Cc (xF (iR false) m)) y4 (aU fun r1 hr1 => (aT.step (bU [.c (xF (iR false) m)] (Fw.Fn.ren [(0,22),(1,23)] (aKS m r1 hr1) Q) aEN (iF Q) J y3) z2 J Q Q (aI (Cc (lo 22 r1.length)) y4 (On (Ws (Wr ?_))))))
 refine ny (gy 24 aQ [] [] iK lG y7) Q Q (aI (Cc (lo 24 (([]:List Int).length))) y4 (On (Ws ?_)))
 refine en [(1,Iv columns),(7,Cc (lo 22 r1.length)),(8,Cc (lo 24 (([]:List Int).length)))] [(22,.dh 37 23 (dV r1)),(23,.pool 3 (rowsOf aQ r1)),(24,pR 3 aQ ([]:List Int))] z3 z3 (Wr (aI (Iv 1) ak (On (Ws (Ws (Wr ?_))))))
 refine aI (Iv 0) ak (On (aC.block ?_))
 refine aC.jP (id:=0) (CY columns) (fun s2 => ([(1,Iv columns),(7,Cc (lo 22 s2.2.1.length)),(8,Cc (lo 24 s2.2.2.2.length)),(9,Iv s2.2.2.1),(10,Iv s2.1)],[(22,.dh 37 23 (dV s2.2.1)),(23,.pool 3 (rowsOf aQ s2.2.1)),(24,pR 3 aQ s2.2.2.2)])) (fun mX => ([(7,Cc (lo 22 mX.2.1.length)),(8,Cc (lo 24 mX.2.2.length)),(9,Iv mX.1)],[(22,.dh 37 23 (dV mX.2.1)),(23,.pool 3 (rowsOf aQ mX.2.1)),(24,pR 3 aQ mX.2.2)])) ?_ (aj.of z5 z3) Q (fun mX _ => ?_)
 ·intro s2
  unfold CY
  refine Ws (Ws ?_)
  refine aC.eG (fun RQ => ([(1,Iv columns),(7,Cc (lo 22 s2.2.1.length)),(8,Cc (lo 24 s2.2.2.2.length)),(9,Iv s2.2.2.1),(10,Iv s2.1),(29,Bv RQ)],[(22,.dh 37 23 (dV s2.2.1)),(23,.pool 3 (rowsOf aQ s2.2.1)),(24,pR 3 aQ s2.2.2.2)])) ?_ (fun RQ _ => ?_)
  ·refine Wr (aG (Iv s2.1) y4 (aG (Iv columns) y4 (aZ LT.lss y5 (aG (Bv (decide (s2.1 < columns))) y4 (aT.split (fun l7 => ?_) (fun l7 => ?_))))))
   ·refine iy (Cc (lo 24 s2.2.2.2.length)) l7 y5 (au (LT.mM Q iK) Q (gH l7 Q Q) Q (iy (Cc (lo 22 s2.2.1.length)) l7 y5 (au (LT.mM Q qH) Q (gH l7 Q Q) Q (iV LT.lss l7 y6 (dn (Bv (decide ((s2.2.2.2.length:Int) < (s2.2.1.length:Int)))) l7 y5 (On (aX Q z6 z3)))))))
   ·refine af l7 y5 (af l7 y5 (af l7 y5 (af l7 y5 (af l7 y5 (gK (Bv false) l7 aP (On (aX Q z6 z3)))))))
  ·refine aC.cond Q (fun aFc => ?_) (fun aFc => ?_)
   ·refine aC.skip (Ws (aC.block (Ws (Wr ?_))))
    refine aG (Cc (lo 24 s2.2.2.2.length)) y4 (au (LT.mM Q iK) Q Q Q (aI (Iv (s2.2.2.2.length:Int)) y4 (On (Ws (Wr ?_)))))
    refine aG (Iv (s2.2.2.2.length:Int)) y4 (aI (Iv (s2.2.2.2.length:Int)) y4 (On (Ws (aC.block ?_))))
    refine aC.jP (id:=2) (Iq s2) (fun wU => ([(1,Iv columns),(7,Cc (lo 22 s2.2.1.length)),(8,Cc (lo 24 s2.2.2.2.length)),(9,Iv s2.2.2.1),(10,Iv s2.1),(11,Iv (s2.2.2.2.length:Int)),(12,Iv wU)],[(22,.dh 37 23 (dV s2.2.1)),(23,.pool 3 (rowsOf aQ s2.2.1)),(24,pR 3 aQ s2.2.2.2)])) (fun gZ => ([(1,Iv columns),(7,Cc (lo 22 gZ.2.2.2.2.1.length)),(8,Cc (lo 24 gZ.2.2.2.2.2.length)),(9,Iv gZ.1),(10,Iv gZ.2.1),(11,Iv gZ.2.2.1),(12,Iv gZ.2.2.2.1)],[(22,.dh 37 23 (dV gZ.2.2.2.2.1)),(23,.pool 3 (rowsOf aQ gZ.2.2.2.2.1)),(24,pR 3 aQ gZ.2.2.2.2.2)])) ?_ (aj.of z7 z3) Q (fun gZ _ => ?_)
    ·intro wU
     unfold Iq
     refine Ws (Ws ?_)
     refine aC.eG (fun RV => ([(1,Iv columns),(7,Cc (lo 22 s2.2.1.length)),(8,Cc (lo 24 s2.2.2.2.length)),(9,Iv s2.2.2.1),(10,Iv s2.1),(11,Iv (s2.2.2.2.length:Int)),(12,Iv wU),(48,Bv RV)],[(22,.dh 37 23 (dV s2.2.1)),(23,.pool 3 (rowsOf aQ s2.2.1)),(24,pR 3 aQ s2.2.2.2)])) ?_ (fun RV _ => ?_)
     ·refine Wr (aG (Iv wU) y4 (aG (Cc (lo 22 s2.2.1.length)) y4 (au (LT.mM Q qH) Q Q Q (aZ LT.lss y5 (aG (Bv (decide (wU < (s2.2.1.length:Int)))) y4 (aT.split (fun rU => ?_) (fun rU => ?_)))))))
      ·refine iy (Cc (lo 22 s2.2.1.length)) rU y5 (iy (Iv wU) rU y5 (aU fun KF Ho => (lS (LT.BV Q Q qK Ho) Q Q Q (gH rU Q Q) Q (cZ (LT.Dv Q uN Ho Q) Q Q (gH rU Q Q) Q (iy (Iv s2.1) rU y5 (aU fun YP aAb => (lS (LT.Jz Q Q lJ (qC Ho) aAb) Q Q Q (gH rU Q Q) Q (cZ (LT.PI (enc:=aQ) (j:=0) Q bK (qC Ho) aAb (by exact Q) (by exact Q)) Q Q (gH rU Q Q) Q (iV LT.eql rU kY (dn (Bv (YP == 0)) rU y5 (On ?_)))))))))))
       refine aX Q z8 z3
      ·refine af rU y5 (af rU y5 (af rU y5 (af rU y5 (af rU y5 (af rU y5 (af rU y5 (af rU y5 (gK (Bv false) rU aP (On (aX Q z8 z3))))))))))
     ·refine aC.cond Q (fun VT => ?_) (fun VT => ?_)
      ·refine aC.skip (aC.block (Wr ?_))
       refine aG (Iv wU) y4 (aZ LT.add aP (aI (Iv (aB (wU + 1))) y4 (On (aC.blk ?_))))
       refine aX Q z7 z3
      ·refine gJ y2 z7 z3
    ·refine Ws (Ws (Wr ?_))
     refine aG (Iv gZ.2.2.2.1) y4 (aG (Cc (lo 22 gZ.2.2.2.2.1.length)) y4 (au (LT.mM Q qH) Q Q Q (aZ LT.eql y5 (On (aC.cond Q (fun aFe => ?_) (fun aFe => ?_))))))
     ·refine aC.exit Q (Wr ?_)
      refine aG (Iv gZ.2.1) y4 (aZ LT.add aP (aI (Iv (aB (gZ.2.1 + 1))) y4 (On (aX Q z5 z3))))
     ·refine aC.skip (Ws (aC.draw mixed ?_))
      refine aY (Cc (lo 22 gZ.2.2.2.2.1.length)) y4 (aY (Iv gZ.2.2.1) y4 (aY (Cc (lo 22 gZ.2.2.2.2.1.length)) y4 (aY (Iv gZ.2.2.2.1) y4 (aY (Cc (lo 22 gZ.2.2.2.2.1.length)) y4 (aY (Iv gZ.2.2.2.1) y4 (aN.bind fun uV Hq => (kJ (LT.BV Q Q qK Hq) Q Q Q Q Q (bV (LT.Dv Q uN Hq Q) Q Q Q Q (aY (Cc (lo 22 gZ.2.2.2.2.1.length)) y4 (aY (Iv gZ.2.2.1) y4 (aN.bind fun F9 Hr => ?_)))))))))))
      refine kJ (LT.BV Q Q qK Hr) Q Q Q Q Q (bV (LT.Dv Q uN Hr Q) Q Q Q Q (aN.bind fun Pj ML => (kJ (LT.BV Q Q qK ML) Q Q Q Q Q (iY (LT.aLC (e:=37) (p:=23) Q Q (fE MX) Fq ML Q) Q Q Q Q Q (aN.bind fun YQ aAd => (kJ (LT.aLB Q Q qK aAd) Q Q Q Q Q (iY (LT.aLD (e:=37) (p:=23) Q Q (fE MX) Fq aAd Q) Q Q Q Q Q (dF (aC.ent (aj.aJ4 (enc:=aQ) (n:=22) (p:=23) (rows:=gZ.2.2.2.2.1) (qC Hr) (qC Hq) Q Q Q) (Ws (Wr ?_)))))))))))
      refine aG (Cc (lo 22 gZ.2.2.2.2.1.length)) y4 (aG (Iv gZ.2.2.1) y4 (aU fun aDW Qy => (lS (LT.BV (show gZ.2.2.2.2.1.length = ((gZ.2.2.2.2.1.set gZ.2.2.1.toNat uV).set gZ.2.2.2.1.toNat F9).length by simp only [List.length_set]) Q qK Qy) Q Q Q Q Q (cZ (LT.Dv Q uN Qy Q) Q Q Q Q (aG (Iv gZ.2.1) y4 (aU fun YR aAe => (lS (LT.Jz Q Q lJ (qC Qy) aAe) Q Q Q Q Q (cZ (LT.PI (enc:=aQ) (j:=0) Q bK (qC Qy) aAe (by exact Q) (by exact Q)) Q Q Q Q (aI (Iv YR) y4 (On (Ws (Ws (Wr ?_)))))))))))))
      refine aG (Cc (lo 22 gZ.2.2.2.2.1.length)) y4 (au (LT.mM Q qH) Q Q Q (aG (Iv 0) ak (On (aC.block ?_))))
      refine aC.jP (id:=4) (E8 columns) (fun dK => ([(1,Iv columns),(7,Cc (lo 22 dK.2.2.2.2.2.2.2.length)),(8,Cc (lo 24 dK.2.2.2.2.2.2.1.length)),(9,Iv dK.2.1),(10,Iv dK.2.2.1),(11,Iv dK.2.2.2.1),(13,Iv dK.2.2.2.2.1),(77,Iv dK.2.2.2.2.2.1),(78,Iv dK.1)],[(22,.dh 37 23 (dV dK.2.2.2.2.2.2.2)),(23,.pool 3 (rowsOf aQ dK.2.2.2.2.2.2.2)),(24,pR 3 aQ dK.2.2.2.2.2.2.1)])) (fun kS => ([(1,Iv columns),(7,Cc (lo 22 kS.2.2.1.length)),(8,Cc (lo 24 kS.2.2.2.length)),(10,Iv kS.1),(13,Iv kS.2.1)],[(22,.dh 37 23 (dV kS.2.2.1)),(23,.pool 3 (rowsOf aQ kS.2.2.1)),(24,pR 3 aQ kS.2.2.2)])) ?_ (aj.of ⟨Q,congrArg (fun l1 => (some (AV.s (.c (lo 22 l1))):Option AV)) (show gZ.2.2.2.2.1.length = ((gZ.2.2.2.2.1.set gZ.2.2.1.toNat uV).set gZ.2.2.2.1.toNat F9).length by simp only [List.length_set]),Q,Q,Q,Q,Q,Q,Q,J⟩ z3) Q (fun kS _ => ?_)
      ·intro dK
       unfold E8
       refine Ws (Wr ?_)
       refine aZ LT.lss y5 (On (Ws ?_))
       refine aC.cond Q (fun VW => ?_) (fun VW => ?_)
       ·refine aC.skip (Ws (aC.block (Ws (Wr ?_))))
        refine aG (Iv dK.1) y4 (aI (Iv dK.1) y4 (On (Ws (Ws (Wr ?_)))))
        refine aG (Iv dK.1) y4 (aG (Iv dK.2.2.2.1) y4 (aZ LT.eql y5 (On (aC.cond Q (fun aFg => ?_) (fun aFg => ?_)))))
        ·refine aC.exit Q (Wr ?_)
         refine aZ LT.add aP (aG (Iv (aB (dK.1 + 1))) y4 (On (aX Q z9 z3)))
        ·refine aC.skip (Ws (Wr ?_))
         refine aG (Cc (lo 22 dK.2.2.2.2.2.2.2.length)) y4 (aG (Iv dK.1) y4 (aU fun aDY Qz => (lS (LT.BV Q Q qK Qz) Q Q Q Q Q (cZ (LT.Dv Q uN Qz Q) Q Q Q Q (aG (Iv dK.2.2.1) y4 (aU fun sZ MO => (lS (LT.Jz Q Q lJ (qC Qz) MO) Q Q Q Q Q (cZ (LT.PI (enc:=aQ) (j:=0) Q bK (qC Qz) MO (by exact Q) (by exact Q)) Q Q Q Q (aI (Iv sZ) y4 (On (Ws ?_)))))))))))
         refine en [(1,Iv columns),(7,Cc (lo 22 dK.2.2.2.2.2.2.2.length)),(8,Cc (lo 24 dK.2.2.2.2.2.2.1.length)),(9,Iv dK.2.1),(10,Iv dK.2.2.1),(11,Iv dK.2.2.2.1),(13,Iv dK.2.2.2.2.1),(14,Iv dK.1),(15,Iv sZ),(77,Iv dK.2.2.2.2.2.1),(78,Iv dK.1)] [(22,.dh 37 23 (dV dK.2.2.2.2.2.2.2)),(23,.pool 3 (rowsOf aQ dK.2.2.2.2.2.2.2)),(24,pR 3 aQ dK.2.2.2.2.2.2.1)] z11 z3 (Wr (aG (Iv columns) y4 (aG (Iv 0) ak (On (aC.block ?_)))))
         refine aC.jP (id:=6) (Ir columns dK sZ) (fun kQ => ([(1,Iv columns),(7,Cc (lo 22 kQ.2.length)),(8,Cc (lo 24 dK.2.2.2.2.2.2.1.length)),(9,Iv dK.2.1),(10,Iv dK.2.2.1),(11,Iv dK.2.2.2.1),(13,Iv dK.2.2.2.2.1),(14,Iv dK.1),(15,Iv sZ),(77,Iv dK.2.2.2.2.2.1),(78,Iv dK.1),(91,Iv columns),(92,Iv kQ.1)],[(22,.dh 37 23 (dV kQ.2)),(23,.pool 3 (rowsOf aQ kQ.2)),(24,pR 3 aQ dK.2.2.2.2.2.2.1)])) (fun pz => ([(1,Iv columns),(7,Cc (lo 22 pz.2.2.2.2.2.2.1.length)),(8,Cc (lo 24 pz.2.2.2.2.2.2.2.length)),(9,Iv pz.1),(10,Iv pz.2.1),(11,Iv pz.2.2.1),(13,Iv pz.2.2.2.1),(77,Iv pz.2.2.2.2.1),(78,Iv pz.2.2.2.2.2.1)],[(22,.dh 37 23 (dV pz.2.2.2.2.2.2.1)),(23,.pool 3 (rowsOf aQ pz.2.2.2.2.2.2.1)),(24,pR 3 aQ pz.2.2.2.2.2.2.2)])) ?_ (aj.of z13 z3) Q (fun pz _ => ?_)
         ·intro kQ
          unfold Ir
          refine Ws (Wr ?_)
          refine aZ LT.lss y5 (On (Ws ?_))
          refine aC.cond Q (fun aFh => ?_) (fun aFh => ?_)
          ·refine aC.skip (Ws (aC.block (Ws (Wr ?_))))
           refine aG (Iv kQ.1) y4 (aI (Iv kQ.1) y4 (On (aC.draw mixed ?_)))
           refine aY (Cc (lo 22 kQ.2.length)) y4 (aY (Iv dK.1) y4 (aN.bind fun GH MP => (kJ (LT.BV Q Q qK MP) Q Q Q Q Q (bV (LT.Dv Q uN MP Q) Q Q Q Q (aY (Iv kQ.1) y4 (aY (Iv dK.2.2.2.2.1) y4 (aY (Cc (lo 22 kQ.2.length)) y4 (aY (Iv dK.1) y4 (aN.bind fun aDZ Q5 => (kJ (LT.BV Q Q qK Q5) Q Q Q Q Q (bV (LT.Dv Q uN Q5 Q) Q Q Q Q ?_)))))))))))
           refine aY (Iv kQ.1) y4 (aN.bind fun Dp aAh => (kJ (LT.Jz Q Q lJ (qC Q5) aAh) Q Q Q Q Q (bV (LT.PI (enc:=aQ) (j:=0) Q bK (qC Q5) aAh (by exact Q) (by exact Q)) Q Q Q Q (jS LT.mul y5 (aY (Iv sZ) y4 (aY (Cc (lo 22 kQ.2.length)) y4 (aY (Iv dK.2.2.2.1) y4 (aN.bind fun aDa Q7 => (kJ (LT.BV Q Q qK Q7) Q Q Q Q Q (bV (LT.Dv Q uN Q7 Q) Q Q Q Q (aY (Iv kQ.1) y4 ?_)))))))))))
           refine aN.bind fun Dq aAi => (kJ (LT.Jz Q Q lJ (qC Q7) aAi) Q Q Q Q Q (bV (LT.PI (enc:=aQ) (j:=0) Q bK (qC Q7) aAi (by exact Q) (by exact Q)) Q Q Q Q (jS LT.mul y5 (jS LT.sub y5 (aY (Iv dK.2.1) y4 (aN.bind fun aKD aHW => (bQ (LT.quo Q (DR aHW)) Q Q Q Q (aN.bind fun aLA aAj => (kJ (LT.Jz Q Q lJ (qC MP) aAj) Q Q Q Q Q (iY (LT.aJ1 (enc:=aQ) (j:=0) (b':=(aB (Int.tdiv (aB ((aB (dK.2.2.2.2.1 * Dp)) - (aB (sZ * Dq)))) dK.2.1))) (v:=(.int .i64 (aB (Int.tdiv (aB ((aB (dK.2.2.2.2.1 * Dp)) - (aB (sZ * Dq)))) dK.2.1)))) 25 Q Q (fE qh) jq Q (qC MP) aAj (by exact Q) (by exact K Q) (by exact Q) Q) Q Q Q Q Q (dF ?_)))))))))))
           refine aC.ent (aj.lens (n:=22) (aIO (r':=(GH.set kQ.1.toNat (aB (Int.tdiv (aB ((aB (dK.2.2.2.2.1 * Dp)) - (aB (sZ * Dq)))) dK.2.1)))) (qC MP) (List.length_set ..)) Q) (aC.blk (en [(1,Iv columns),(7,Cc (lo 22 kQ.2.length)),(8,Cc (lo 24 dK.2.2.2.2.2.2.1.length)),(9,Iv dK.2.1),(10,Iv dK.2.2.1),(11,Iv dK.2.2.2.1),(13,Iv dK.2.2.2.2.1),(14,Iv dK.1),(15,Iv sZ),(77,Iv dK.2.2.2.2.2.1),(78,Iv dK.1),(91,Iv columns),(92,Iv kQ.1)] [(22,.dh 37 23 (dV (kQ.2.set dK.1.toNat (GH.set kQ.1.toNat (aB (Int.tdiv (aB ((aB (dK.2.2.2.2.1 * Dp)) - (aB (sZ * Dq)))) dK.2.1)))))),(23,.pool 3 (rowsOf aQ (kQ.2.set dK.1.toNat (GH.set kQ.1.toNat (aB (Int.tdiv (aB ((aB (dK.2.2.2.2.1 * Dp)) - (aB (sZ * Dq)))) dK.2.1)))))),(24,pR 3 aQ dK.2.2.2.2.2.2.1)] z13 z3 (Wr (aZ LT.add aP (aG (Iv (aB (kQ.1 + 1))) y4 (On (aC.nil ⟨Q,aj.of ⟨Q,congrArg (fun l1 => (some (AV.s (.c (lo 22 l1))):Option AV)) (show kQ.2.length = (kQ.2.set dK.1.toNat (GH.set kQ.1.toNat (aB (Int.tdiv (aB ((aB (dK.2.2.2.2.1 * Dp)) - (aB (sZ * Dq)))) dK.2.1)))).length by simp only [List.length_set]),Q,Q,Q,Q,Q,Q,Q,Q,Q,Q,Q,J⟩ z3⟩)))))))
          ·refine gJ y2 z9 z3
         ·refine aC.blk (Wr ?_)
          refine aZ LT.add aP (aG (Iv (aB (pz.2.2.2.2.2.1 + 1))) y4 (On (aX Q z9 z3)))
       ·refine gJ y2 z5 z3
      ·refine Ws (Wr ?_)
       refine aG (Cc (lo 24 kS.2.2.2.length)) y4 (aG (Iv kS.1) y4 (oC (gy 26 aQ [(0,.tmp 125,.c (iC kS.1))] ([kS.1]:List Int) iK lG y7) Q Q Q (aU fun aKE aHX => (oW (LT.ng (enc:=aQ) Q Q Q iK lG Q (by decide) (by decide) (fun _ => Q) (jw aHX)) Q Q Q Q Q Q (aI (Cc (lo 24 ((kS.2.2.2 ++ ([kS.1]:List Int)).length))) y4 (On (Wr ?_)))))))
       refine aG (Iv kS.2.1) y4 (aI (Iv kS.2.1) y4 (On (aC.blk ?_)))
       refine en [(1,Iv columns),(7,Cc (lo 22 kS.2.2.1.length)),(8,Cc (lo 24 ((kS.2.2.2 ++ ([kS.1]:List Int)).length))),(9,Iv kS.2.1),(10,Iv kS.1)] [(22,.dh 37 23 (dV kS.2.2.1)),(23,.pool 3 (rowsOf aQ kS.2.2.1)),(24,pR 3 aQ (kS.2.2.2 ++ ([kS.1]:List Int)))] z5 z3 (Wr (aG (Iv kS.1) y4 (aZ LT.add aP (aI (Iv (aB (kS.1 + 1))) y4 (On (aX Q z5 z3))))))
   ·refine gJ y2 z3 z3
 ·refine Ws (Wr ?_)
  refine aG (Cc (lo 22 mX.2.1.length)) y4 (aG (Cc (lo 24 mX.2.2.length)) y4 (aG (Iv mX.1) y4 (aI (Cc (lo 22 mX.2.1.length)) y4 (aI (Cc (lo 24 mX.2.2.length)) y4 (aI (Iv mX.1) y4 (On (en [(4,Cc (lo 22 mX.2.1.length)),(5,Cc (lo 24 mX.2.2.length)),(6,Iv mX.1)] [(22,.dh 37 23 (dV mX.2.1)),(23,.pool 3 (rowsOf aQ mX.2.1)),(24,pR 3 aQ mX.2.2)] z3 z3 (aC.ent (aj.mv 22 0 Q Q) (aC.ent (aj.mv 24 2 Q Q) (aC.ent (aj.mv 23 1 Q Q) (en [(4,Cc (lo 0 mX.2.1.length)),(5,Cc (lo 2 mX.2.2.length)),(6,Iv mX.1)] [(0,.dh 37 1 (dV mX.2.1)),(1,.pool 3 (rowsOf aQ mX.2.1)),(2,pR 3 aQ mX.2.2)] z3 z3 ?_)))))))))))
  refine bT z3 z3 ⟨J,J,ah.sc,J⟩ ⟨J,bg.SY rY _,bg.dO rY,J⟩
theorem uT (f:aW):FT Try.prog (qm f) 12 [.agg (ay f)] [] (fun (t:Bool) => [.c (bC t)]) (fun (t:Bool) => []) []:=by
 refine FT.of [] Try.func12 Try.ntmps12 Q y2 ?_
 intro w0 U0 R0 g0
 unfold qm
 refine Ws (Wr ?_)
 refine fZ 21 (.agg (ay f)) ai y5 (aI (Bv false) ak (On (Ws (Ws ?_))))
 refine aC.eG (fun j5 => ([(1,Cc (.pl 21 0)),(31,Bv j5)],[(21,.row 29 [ay f])])) ?_ (fun j5 _ => ?_)
 ·refine Wr (au (LT.eu Q jv) Q Q Q (cZ (bD (dI f.Graph) Q iI dX dM) Q Q Q Q (aU fun r6 tY => (jC [.agg (dI f.Graph)] (UB f.Graph r6 tY) QJ (qV y2) y5 z2 (au (LT.not Q) Q Q Q (aG (Bv (!r6)) y4 (aT.split (fun hb7 => ?_) (fun hb7 => ?_))))))))
  ·refine af hb7 y5 (af hb7 y5 (af hb7 y5 (af hb7 y5 (dn (Bv true) hb7 aP (aG (Bv true) y4 (bY y5 (bY y5 (bY y5 (bY y5 (bY y5 (bY y5 ?_)))))))))))
   refine bY y5 (dn (Bv true) Q aP (aG (Bv true) y4 (bY y5 (bY y5 (bY y5 (bY y5 (bY y5 (dn (Bv true) Q aP (On (aX Q z2 z1))))))))))
  ·refine au (LT.eu Q jv) Q (gH hb7 Q Q) Q (jf (iC f.Graph.aF) lV bK hb7 gm (iV LT.gtr hb7 kY (gK (Bv (decide (6 < f.Graph.aF))) hb7 y5 (aG (Bv (decide (6 < f.Graph.aF))) y4 (aT.split (fun hb8 => ?_) (fun hb8 => ?_))))))
   ·refine af hb8 y5 (af hb8 y5 (af hb8 y5 (af hb8 y5 (af hb8 y5 (af hb8 y5 (af hb8 y5 (dn (Bv true) hb8 aP (aG (Bv true) y4 (bY y5 (bY y5 (bY y5 ?_)))))))))))
    refine bY y5 (bY y5 (dn (Bv true) Q aP (On (aX Q z2 z1))))
   ·refine jf (xF aJ f.Places) fJ fV hb8 gm (au (LT.gB Q lQ) Q (gH hb8 Q Q) Q (au (LT.eu Q jv) Q (gH hb8 Q Q) Q (jf (iC f.Graph.aF) lV bK hb8 gm (iV LT.neq hb8 y6 (gK (Bv ((f.Places.length:Int) != f.Graph.aF)) hb8 y5 (aG (Bv ((f.Places.length:Int) != f.Graph.aF)) y4 (aT.split (fun lC => ?_) (fun lC => ?_))))))))
    ·refine af lC y5 (af lC y5 (af lC y5 (af lC y5 (af lC y5 (dn (Bv true) lC aP (On (aX Q z2 z1)))))))
    ·refine au (LT.eu Q jv) Q (gH lC Q Q) Q (jf (xF aK f.Graph.aA) gq iQ lC gm (au (LT.gB Q iU) Q (gH lC Q Q) Q (iV LT.gtr lC kY (gK (Bv (decide (15 < (f.Graph.aA.length:Int)))) lC y5 (On (aX Q z2 z1))))))
 ·refine aC.cond Q (fun LY => ?_) (fun LY => ?_)
  ·refine Ws (Wr ?_)
   refine aI (Bv false) ak (On (bT z1 J ⟨ah.sc,J⟩ J))
  ·refine aC.skip (Ws (Ws (Wr ?_)))
   refine aI (Iv 0) ak (On (aC.block ?_))
   refine aC.ql (id:=0) (JE f) (fun s11 => ([(1,Cc (.pl 21 0)),(3,Iv s11)],[(21,.row 29 [ay f])])) (fun Ym => ([(1,Cc (.pl 21 0))],[(21,.row 29 [ay f])])) (lI Try.prog Try.f12.results.toList [] [] (fun (t:Bool) => [.c (bC t)]) (fun (t:Bool) => [])) ?_ (aj.of z2 z1) Q (fun Ym _ => ?_) qj
   ·intro s11
    unfold JE
    refine Ws (Ws (Wr ?_))
    refine aG (Iv s11) y4 (dR (xF aJ f.Places) fJ fV bI (au (LT.gB Q lQ) Q Q Q (aZ LT.lss y5 (On (aC.cond Q (fun hc39 => ?_) (fun hc39 => ?_))))))
    ·refine aC.skip (Ws (aC.block (Ws ?_)))
     refine aC.eG (fun j45 => ([(1,Cc (.pl 21 0)),(3,Iv s11),(56,Bv j45)],[(21,.row 29 [ay f])])) ?_ (fun j45 _ => ?_)
     ·refine Wr (dR (xF aJ f.Places) fJ fV bI (aG (Iv s11) y4 (aU fun jr WQ => (dU (LT.dZ (enc:=aJ) Q jD WQ bf) Q Q Q Q (au (LT.pF Q kV) Q Q Q (au (LT.iq Q bK) Q Q Q (aU fun BD hr47 => (jC [.c (iC jr.X),.c (iC 0),.c (iC 4)] (Dl jr.X 0 4 BD hr47) Bf (vV y3) y5 ⟨Q,Q,y2,y2,J⟩ (au (LT.not Q) Q Q Q (aG (Bv (!BD)) y4 ?_))))))))))
      refine aT.split (fun hb48 => ?_) (fun hb48 => ?_)
      ·refine af hb48 y5 (af hb48 y5 (af hb48 y5 (af hb48 y5 (af hb48 y5 (af hb48 y5 (af hb48 y5 (af hb48 y5 (dn (Bv true) hb48 aP (On (aX Q z3 z1))))))))))
      ·refine jf (xF aJ f.Places) fJ fV hb48 gm (iy (Iv s11) hb48 y5 (aU fun KG Q9 => (dU (LT.dZ (enc:=aJ) Q jD Q9 bf) Q Q (gH hb48 Q Q) Q (au (LT.pF Q lq) Q (gH hb48 Q Q) Q (au (LT.iq Q bK) Q (gH hb48 Q Q) Q (aU fun Sz aGu => (aT.pure (bU [.c (iC KG.Y),.c (iC 0),.c (iC 4)] (Dl KG.Y 0 4 Sz aGu) Bf (vV y3) J y3) ⟨Q,Q,y2,y2,J⟩ J (gH hb48 Q Q) Q (au (LT.not Q) Q (gH hb48 Q Q) Q (gK (Bv (!Sz)) hb48 y5 (On ?_))))))))))
       refine aX Q z3 z1
     ·refine aC.cond Q (fun aFq => ?_) (fun aFq => ?_)
      ·refine Ws (Wr ?_)
       refine aI (Bv false) ak (On (aC.ret ⟨Q,qc z1 J ⟨ah.sc,J⟩ J⟩))
      ·refine aC.skip (aC.blk (Wr ?_))
       refine aG (Iv s11) y4 (aZ LT.add aP (aI (Iv (aB (s11 + 1))) y4 (On (aX Q z2 z1))))
    ·refine gJ y2 z1 z1
   ·refine Ws (Ws (Wr ?_))
    refine aI (Iv 0) ak (On (aC.block ?_))
    refine aC.ql (id:=2) (JF f) (fun uJ => ([(1,Cc (.pl 21 0)),(4,Iv uJ)],[(21,.row 29 [ay f])])) (fun Yn => ([],[])) (lI Try.prog Try.f12.results.toList [] [] (fun (t:Bool) => [.c (bC t)]) (fun (t:Bool) => [])) ?_ (aj.of z2 z1) Q (fun Yn _ => ?_) qj
    ·intro uJ
     unfold JF
     refine Ws (Ws (Wr ?_))
     refine aG (Iv uJ) y4 (au (LT.eu Q jv) Q Q Q (dR (xF aK f.Graph.aA) gq iQ bI (au (LT.gB Q iU) Q Q Q (aZ LT.lss y5 (On (aC.cond Q (fun aF1 => ?_) (fun aF1 => ?_)))))))
     ·refine aC.skip (Ws (aC.block (Ws (Wr ?_))))
      refine au (LT.eu Q jv) Q Q Q (dR (xF aK f.Graph.aA) gq iQ bI (aG (Iv uJ) y4 (aU fun x83 aHx => (dU (LT.dZ (enc:=aK) Q oL aHx fG) Q Q Q Q (au (kC Q lU jW fG) Q Q Q (dQ 25 [iC 0,iC 0] jQ y6 (dA (stA [iC x83.A,iC x83.B] Q Q jW fG) Q Q Q Q Q (On (Ws ?_)))))))))
      refine aC.eG (fun j89 => ([(1,Cc (.pl 21 0)),(4,Iv uJ),(98,Bv j89)],[(21,.row 29 [ay f])])) ?_ (fun j89 _ => ?_)
      ·refine en [(1,Cc (.pl 21 0)),(4,Iv uJ),(5,Cc (.pl 25 0))] [(21,.row 29 [ay f]),(25,.row 96 [[iC x83.A,iC x83.B]])] z3 z2 (aC.draw mixed (dw (xF aJ f.Places) fJ fV bI (dw (iC x83.A) mZ bK bI (aN.bind fun x90 hx90 => (bQ (LT.dZ (enc:=aJ) Q jD hx90 bf) Q Q Q Q (bH (kC Q gI dS bf) Q Q Q (dw (xF aJ f.Places) fJ fV bI (bH (LT.eu Q nS) Q Q Q ?_))))))))
       refine bV (wJ (iC x83.B) Q bK) Q Q Q Q (aN.bind fun x91 hx91 => (bQ (LT.dZ (enc:=aJ) Q jD hx91 bf) Q Q Q Q (bH (kC Q gI dS bf) Q Q Q (bQ (LT.LH [x90.X,x90.Y] [x91.X,x91.Y] Q Hy Q Q) Q Q Q Q (aY (Bv (jM [x90.X,x90.Y] [x91.X,x91.Y])) y4 (aN.split (fun wG => ?_) (fun wG => ?_)))))))
       ·refine aS wG y3 (aS wG y3 (aS wG y3 (aH y3 (aH y3 (aH y3 (aH y3 (aH y3 (aH y3 (aH y3 (aH y3 (aH y3 ?_)))))))))))
        refine aS wG y3 (gW (Bv true) wG aP (dF (aX Q z3 z1)))
       ·refine kD (Iv uJ) wG y5 (sN LT.gtr wG kY (kD (Bv (decide (0 < uJ))) wG y5 (aN.split (fun qg => ?_) (fun qg => ?_))))
        ·refine bH (LT.eu Q jv) Q (gH qg Q Q) Q (qA (xF aK f.Graph.aA) gq iQ qg gm (kD (Iv uJ) qg y5 (sN LT.sub qg kY (aN.bind fun BU aHy => (bQ (LT.dZ (enc:=aK) Q oL aHy fG) Q Q (gH qg Q Q) Q (bH (kC Q lU jW fG) Q (gH qg Q Q) Q (bV (bD [iC x83.A,iC x83.B] Q lU jW fG) Q Q (gH qg Q Q) Q (bQ (LT.LH [BU.A,BU.B] [x83.A,x83.B] Q NC Q Q) Q Q (gH qg Q Q) Q (bQ (LT.pU (v:=(Bv (jM [BU.A,BU.B] [x83.A,x83.B]))) Q qg) Q Q (gH wG Q Q) Q (dD (Bv (jM [BU.A,BU.B] [x83.A,x83.B])) wG y5 ?_))))))))))
         refine dF (aX Q z3 z1)
        ·refine aS qg y3 (aS qg y3 (aS qg y3 (aS qg y3 (aS qg y3 (aS qg y3 (aS qg y3 (aS qg y3 (aS qg y3 (bQ (LT.wO (v:=(Bv false)) Q qg) Q y2 (gH wG Q Q) Q (dD (Bv false) wG y5 (dF ?_)))))))))))
         refine aX Q z3 z1
      ·refine aC.cond Q (fun hc95 => ?_) (fun hc95 => ?_)
       ·refine Ws (Wr ?_)
        refine aI (Bv false) ak (On (aC.ret ⟨Q,qc z1 J ⟨ah.sc,J⟩ J⟩))
       ·refine aC.skip (aC.blk (Wr ?_))
        refine aG (Iv uJ) y4 (aZ LT.add aP (aI (Iv (aB (uJ + 1))) y4 (On (aX Q z2 z1))))
     ·refine gJ y2 J J
    ·refine Ws (Wr ?_)
     refine aI (Bv true) ak (On (bT z1 J ⟨ah.sc,J⟩ J))
theorem aKq (f:aW):FT Try.prog (Nu f) 135 [.agg (ay f)] [] (fun (t:(List (List Int))) => [.c (lo 0 t.length)]) (fun (t:(List (List Int))) => [(0,pR 37 (iR true) t)]) [0]:=by
 refine FT.A8 [] Try.func135 Try.ntmps135 Q y2 ?_
 intro w0 U0 R0 g0 hU
 unfold Nu
 refine Ws (Wr ?_)
 refine fZ 21 (.agg (ay f)) ai y5 (aI (Cc (sC aO)) ak (On (Ws (Wr ?_))))
 refine ny (gy 22 (iR true) [] ([]:List (List Int)) qH xU y7) Q Q (aI (Cc (lo 22 (([]:List (List Int)).length))) y4 (On (Ws (Ws (Wr ?_)))))
 refine aI (Iv 0) ak (On (aC.block ?_))
 refine aC.jP (id:=0) (Cj f) (fun s1 => ([(1,Cc (.pl 21 0)),(3,Cc (lo 22 s1.2.length)),(4,Iv s1.1)],[(21,.row 29 [ay f]),(22,pR 37 (iR true) s1.2)])) (fun jT => ([(3,Cc (lo 22 jT.length))],[(22,pR 37 (iR true) jT)])) ?_ (aj.of z3 z2) Q (fun jT _ => ?_)
 ·intro s1
  unfold Cj
  refine Ws (Ws ?_)
  refine aC.eG (fun j39 => ([(1,Cc (.pl 21 0)),(3,Cc (lo 22 s1.2.length)),(4,Iv s1.1),(19,Bv j39)],[(21,.row 29 [ay f]),(22,pR 37 (iR true) s1.2)])) ?_ (fun j39 _ => ?_)
  ·refine Wr (aG (Iv s1.1) y4 (au (LT.eu Q jv) Q Q Q (dR (xF aK f.Graph.aA) gq iQ bI (au (LT.gB Q iU) Q Q Q (aZ LT.lss y5 (aG (Bv (decide (s1.1 < (f.Graph.aA.length:Int)))) y4 (aT.split (fun EX => ?_) (fun EX => ?_))))))))
   ·refine cZ (bD (ay f) Q bP ax ai) Q Q (gH EX Q Q) Q (aU fun eH L8 => (aT.pure (bU [.agg (ay f)] (uT f eH L8) uO (jd y3) J y3) z2 J (gH EX Q Q) Q (dn (Bv eH) EX y5 (On (aX Q z4 z2)))))
   ·refine af EX y5 (af EX y5 (gK (Bv false) EX aP (On (aX Q z4 z2))))
  ·refine aC.cond Q (fun aFl => ?_) (fun aFl => ?_)
   ·refine aC.skip (Ws (aC.block (Ws (Wr ?_))))
    refine au (LT.eu Q jv) Q Q Q (dR (xF aK f.Graph.aA) gq iQ bI (aG (Iv s1.1) y4 (aU fun x43 MR => (dU (LT.dZ (enc:=aK) Q oL MR fG) Q Q Q Q (au (kC Q lU jW fG) Q Q Q (dQ 24 [iC 0,iC 0] jQ y6 (dA (stA [iC x43.A,iC x43.B] Q Q jW fG) Q Q Q Q Q (On (Ws ?_)))))))))
    refine en [(1,Cc (.pl 21 0)),(3,Cc (lo 22 s1.2.length)),(4,Iv s1.1),(5,Cc (.pl 24 0))] [(21,.row 29 [ay f]),(22,pR 37 (iR true) s1.2),(24,.row 96 [[iC x43.A,iC x43.B]])] z4 z3 (Wr (au (LT.eu Q jv) Q Q Q (dR (iC f.Graph.aF) lV bK bI (aZ LT.mul oQ (aU fun u44 MH => (YX (LT.aCo (n:=25) (enc:=aQ) (zc:=[iC 0]) (0:Int) Q iK lG Q Q Q (by decide) (by decide) (aA7 MH) Q) Q Q Q Q (aI (Cc (lo 25 ((List.replicate (aB (2 * f.Graph.aF)).toNat (0:Int)).length))) y4 (On (Ws (aC.draw mixed ?_))))))))))
    refine dw (xF aJ f.Places) fJ fV bI (dw (iC x43.A) mZ bK bI (aN.bind fun je MS => (bQ (LT.dZ (enc:=aJ) Q jD MS bf) Q Q Q Q (bH (LT.pF Q kV) Q Q Q (bH (LT.iq Q bK) Q Q Q (dw (xF aJ f.Places) fJ fV bI (dw (iC x43.B) nS bK bI ?_)))))))
    refine aN.bind fun jr WQ => (bQ (LT.dZ (enc:=aJ) Q jD WQ bf) Q Q Q Q (bH (LT.pF Q kV) Q Q Q (bH (LT.iq Q bK) Q Q Q (jS LT.sub y5 (bH (LT.assign (v:=(Iv (aB (je.X - jr.X)))) Q) Q Q Q (dF (Ws (en [(1,Cc (.pl 21 0)),(3,Cc (lo 22 s1.2.length)),(4,Iv s1.1),(5,Cc (.pl 24 0)),(6,Cc (lo 25 ((List.replicate (aB (2 * f.Graph.aF)).toNat (0:Int)).length))),(7,Iv (aB (je.X - jr.X)))] [(21,.row 29 [ay f]),(22,pR 37 (iR true) s1.2),(24,.row 96 [[iC x43.A,iC x43.B]]),(25,pR 3 aQ (List.replicate (aB (2 * f.Graph.aF)).toNat (0:Int)))] z6 z4 (aC.draw mixed (dw (xF aJ f.Places) fJ fV bI ?_))))))))))
    refine dw (iC x43.A) mZ bK bI (aN.bind fun nH aHn => (bQ (LT.dZ (enc:=aJ) Q jD aHn bf) Q Q Q Q (bH (LT.pF Q lq) Q Q Q (bH (LT.iq Q bK) Q Q Q (dw (xF aJ f.Places) fJ fV bI (dw (iC x43.B) nS bK bI (aN.bind fun nI aHo => (bQ (LT.dZ (enc:=aJ) Q jD aHo bf) Q Q Q Q ?_))))))))
    refine bH (LT.pF Q lq) Q Q Q (bH (LT.iq Q bK) Q Q Q (jS LT.sub y5 (bH (LT.assign (v:=(Iv (aB (nH.Y - nI.Y)))) Q) Q Q Q (dF (Ws (en [(1,Cc (.pl 21 0)),(3,Cc (lo 22 s1.2.length)),(4,Iv s1.1),(5,Cc (.pl 24 0)),(6,Cc (lo 25 ((List.replicate (aB (2 * f.Graph.aF)).toNat (0:Int)).length))),(7,Iv (aB (je.X - jr.X))),(8,Iv (aB (nH.Y - nI.Y)))] [(21,.row 29 [ay f]),(22,pR 37 (iR true) s1.2),(24,.row 96 [[iC x43.A,iC x43.B]]),(25,pR 3 aQ (List.replicate (aB (2 * f.Graph.aF)).toNat (0:Int)))] z7 z4 (Wr (aG (Cc (lo 25 ((List.replicate (aB (2 * f.Graph.aF)).toNat (0:Int)).length))) y4 (dR (iC x43.A) mZ bK bI (aZ LT.mul oQ ?_))))))))))
    refine aG (Iv (aB (je.X - jr.X))) y4 (aU fun KG Q9 => (lS (LT.iW Q Q lJ Q9) Q Q Q Q Q (dA (qW 0 (.c (iC (aB (je.X - jr.X)))) (aB (je.X - jr.X)) Q Q qh jq Q9) Q Q Q Q Q (On (Ws (Wr ?_))))))
    refine aG (Cc (lo 25 ((List.replicate (aB (2 * f.Graph.aF)).toNat (0:Int)).length))) y4 (dR (iC x43.A) mZ bK bI (aZ LT.mul oQ (aZ LT.add aP (aG (Iv (aB (nH.Y - nI.Y))) y4 (aU fun Po RD => (lS (LT.iW (show (List.replicate (aB (2 * f.Graph.aF)).toNat (0:Int)).length = ((List.replicate (aB (2 * f.Graph.aF)).toNat (0:Int)).set (aB (2 * x43.A)).toNat (aB (je.X - jr.X))).length by simp only [List.length_set]) Q lJ RD) Q Q Q Q Q (dA (qW 0 (.c (iC (aB (nH.Y - nI.Y)))) (aB (nH.Y - nI.Y)) Q Q qh jq RD) Q Q Q Q Q (On (Ws ?_)))))))))
    refine en [(1,Cc (.pl 21 0)),(3,Cc (lo 22 s1.2.length)),(4,Iv s1.1),(5,Cc (.pl 24 0)),(6,Cc (lo 25 ((List.replicate (aB (2 * f.Graph.aF)).toNat (0:Int)).length))),(7,Iv (aB (je.X - jr.X))),(8,Iv (aB (nH.Y - nI.Y)))] [(21,.row 29 [ay f]),(22,pR 37 (iR true) s1.2),(24,.row 96 [[iC x43.A,iC x43.B]]),(25,pR 3 aQ (((List.replicate (aB (2 * f.Graph.aF)).toNat (0:Int)).set (aB (2 * x43.A)).toNat (aB (je.X - jr.X))).set (aB ((aB (2 * x43.A)) + 1)).toNat (aB (nH.Y - nI.Y))))] z7 z4 (Wr (aG (Cc (lo 25 ((List.replicate (aB (2 * f.Graph.aF)).toNat (0:Int)).length))) y4 (dR (iC x43.B) nS bK bI (aZ LT.mul oQ (aG (Iv (aB (je.X - jr.X))) y4 (au (LT.neg Q) Q Q Q (aU fun x51 aAl => (lS (LT.iW (show (List.replicate (aB (2 * f.Graph.aF)).toNat (0:Int)).length = (((List.replicate (aB (2 * f.Graph.aF)).toNat (0:Int)).set (aB (2 * x43.A)).toNat (aB (je.X - jr.X))).set (aB ((aB (2 * x43.A)) + 1)).toNat (aB (nH.Y - nI.Y))).length by simp only [List.length_set]) Q lJ aAl) Q Q Q Q Q (dA (qW 0 (.c (iC (aB (-(aB (je.X - jr.X)))))) (aB (-(aB (je.X - jr.X)))) Q Q qh jq aAl) Q Q Q Q Q (On (Ws (Wr ?_))))))))))))
    refine aG (Cc (lo 25 ((List.replicate (aB (2 * f.Graph.aF)).toNat (0:Int)).length))) y4 (dR (iC x43.B) nS bK bI (aZ LT.mul oQ (aZ LT.add aP (aG (Iv (aB (nH.Y - nI.Y))) y4 (au (LT.neg Q) Q Q Q (aU fun x52 aAm => (lS (LT.iW (show (List.replicate (aB (2 * f.Graph.aF)).toNat (0:Int)).length = ((((List.replicate (aB (2 * f.Graph.aF)).toNat (0:Int)).set (aB (2 * x43.A)).toNat (aB (je.X - jr.X))).set (aB ((aB (2 * x43.A)) + 1)).toNat (aB (nH.Y - nI.Y))).set (aB (2 * x43.B)).toNat (aB (-(aB (je.X - jr.X))))).length by simp only [List.length_set]) Q lJ aAm) Q Q Q Q Q (dA (qW 0 (.c (iC (aB (-(aB (nH.Y - nI.Y)))))) (aB (-(aB (nH.Y - nI.Y)))) Q Q qh jq aAm) Q Q Q Q Q (On (en [(1,Cc (.pl 21 0)),(3,Cc (lo 22 s1.2.length)),(4,Iv s1.1),(6,Cc (lo 25 ((List.replicate (aB (2 * f.Graph.aF)).toNat (0:Int)).length)))] [(21,.row 29 [ay f]),(22,pR 37 (iR true) s1.2),(25,pR 3 aQ (((((List.replicate (aB (2 * f.Graph.aF)).toNat (0:Int)).set (aB (2 * x43.A)).toNat (aB (je.X - jr.X))).set (aB ((aB (2 * x43.A)) + 1)).toNat (aB (nH.Y - nI.Y))).set (aB (2 * x43.B)).toNat (aB (-(aB (je.X - jr.X))))).set (aB ((aB (2 * x43.B)) + 1)).toNat (aB (-(aB (nH.Y - nI.Y))))))] z4 z3 ?_))))))))))
    refine Wr (aG (Cc (lo 22 s1.2.length)) y4 (aG (Cc (lo 25 ((List.replicate (aB (2 * f.Graph.aF)).toNat (0:Int)).length))) y4 (aT.ent (aj.VH (enc:=aQ) 92 25 hU Q (show (List.replicate (aB (2 * f.Graph.aF)).toNat (0:Int)).length = (((((List.replicate (aB (2 * f.Graph.aF)).toNat (0:Int)).set (aB (2 * x43.A)).toNat (aB (je.X - jr.X))).set (aB ((aB (2 * x43.A)) + 1)).toNat (aB (nH.Y - nI.Y))).set (aB (2 * x43.B)).toNat (aB (-(aB (je.X - jr.X))))).set (aB ((aB (2 * x43.B)) + 1)).toNat (aB (-(aB (nH.Y - nI.Y))))).length by simp only [List.length_set]) Q Q) (oC (gy 26 (iR true) [(0,.tmp 92,.c (xT aQ (((((List.replicate (aB (2 * f.Graph.aF)).toNat (0:Int)).set (aB (2 * x43.A)).toNat (aB (je.X - jr.X))).set (aB ((aB (2 * x43.A)) + 1)).toNat (aB (nH.Y - nI.Y))).set (aB (2 * x43.B)).toNat (aB (-(aB (je.X - jr.X))))).set (aB ((aB (2 * x43.B)) + 1)).toNat (aB (-(aB (nH.Y - nI.Y)))))))] [((((List.replicate (aB (2 * f.Graph.aF)).toNat (0:Int)).set (aB (2 * x43.A)).toNat (aB (je.X - jr.X))).set (aB ((aB (2 * x43.A)) + 1)).toNat (aB (nH.Y - nI.Y))).set (aB (2 * x43.B)).toNat (aB (-(aB (je.X - jr.X))))).set (aB ((aB (2 * x43.B)) + 1)).toNat (aB (-(aB (nH.Y - nI.Y))))] qH xU y7) Q Q Q (aU fun u53 aHe => (oW (LT.ng (enc:=(iR true)) Q Q Q qH xU Q (by decide) (by decide) (fun _ => Q) (jw aHe)) Q Q Q Q Q Q (aI (Cc (lo 22 ((s1.2 ++ [((((List.replicate (aB (2 * f.Graph.aF)).toNat (0:Int)).set (aB (2 * x43.A)).toNat (aB (je.X - jr.X))).set (aB ((aB (2 * x43.A)) + 1)).toNat (aB (nH.Y - nI.Y))).set (aB (2 * x43.B)).toNat (aB (-(aB (je.X - jr.X))))).set (aB ((aB (2 * x43.B)) + 1)).toNat (aB (-(aB (nH.Y - nI.Y))))]).length))) y4 (On (aC.blk (Wr ?_))))))))))
    refine aG (Iv s1.1) y4 (aZ LT.add aP (aI (Iv (aB (s1.1 + 1))) y4 (On (aX Q z3 z2))))
   ·refine gJ y2 z1 z1
 ·refine Ws (Wr ?_)
  refine aG (Cc (lo 22 jT.length)) y4 (aI (Cc (lo 22 jT.length)) y4 (On (en [(2,Cc (lo 22 jT.length))] [(22,pR 37 (iR true) jT)] z1 z1 (aC.ent (aj.mv 22 0 Q Q) (en [(2,Cc (lo 0 jT.length))] [(0,pR 37 (iR true) jT)] z1 z1 (bT z1 z1 ⟨J,J⟩ ⟨bg.dO aBv,J⟩))))))
theorem aDK (a:Int) (b:Int):FT Try.prog (JC a b) 162 [.c (iC a),.c (iC b)] [] (fun (t:Int) => [.c (iC t)]) (fun (t:Int) => []) []:=by
 refine FT.of [] Try.func162 Try.ntmps162 Q y2 ?_
 intro w0 U0 R0 g0
 unfold JC
 refine Ws (Wr ?_)
 refine aI (Iv 0) ak (On (Ws (Ws ?_)))
 refine aC.eG (fun j4 => ([(0,Iv a),(1,Iv b),(13,Bv j4)],[])) ?_ (fun j4 _ => ?_)
 ·refine Wr (aG (Iv a) y4 (aU fun r5 nU => (jC [.c (iC a),.c (iC (-9000000000000000000)),.c (iC 9000000000000000000)] (Dl a (-9000000000000000000) 9000000000000000000 r5 nU) Bf (vV y3) y5 ⟨Q,Q,y2,y2,J⟩ (au (LT.not Q) Q Q Q (aG (Bv (!r5)) y4 (aT.split (fun hb6 => ?_) (fun hb6 => ?_)))))))
  ·refine af hb6 y5 (af hb6 y5 (af hb6 y5 (dn (Bv true) hb6 aP (On (aX Q z3 J)))))
  ·refine iy (Iv b) hb6 y5 (aU fun r7 tZ => (aT.pure (bU [.c (iC b),.c (iC (-9000000000000000000)),.c (iC 9000000000000000000)] (Dl b (-9000000000000000000) 9000000000000000000 r7 tZ) Bf (vV y3) J y3) ⟨Q,Q,y2,y2,J⟩ J (gH hb6 Q Q) Q (au (LT.not Q) Q (gH hb6 Q Q) Q (gK (Bv (!r7)) hb6 y5 (On (aX Q z3 J))))))
 ·refine aC.cond Q (fun hc8 => ?_) (fun hc8 => ?_)
  ·refine Ws (Wr ?_)
   refine aI (Iv 0) ak (On (bT z1 J ⟨ah.sc,J⟩ J))
  ·refine aC.skip (Ws (Wr ?_))
   refine aG (Iv a) y4 (aG (Iv a) y4 (au (LT.neg Q) Q Q Q (aZ LT.max y5 (aI (Iv (if a < (aB (-a)) then (aB (-a)) else a)) y4 (On (Ws (Wr ?_)))))))
   refine aG (Iv b) y4 (aG (Iv b) y4 (au (LT.neg Q) Q Q Q (aZ LT.max y5 (aI (Iv (if b < (aB (-b)) then (aB (-b)) else b)) y4 (On (Ws (aC.block ?_)))))))
   refine aC.jP (id:=0) Nl (fun s9 => ([(0,Iv s9.1),(1,Iv s9.2)],[])) (fun b14 => ([(0,Iv b14)],[])) ?_ (aj.of z2 J) Q (fun b14 _ => ?_)
   ·intro s9
    unfold Nl
    refine Ws (Ws (Wr ?_))
    refine aG (Iv s9.2) y4 (aZ LT.gtr aP (On (aC.cond Q (fun rW => ?_) (fun rW => ?_))))
    ·refine aC.skip (aC.block (Ws (Wr ?_)))
     refine aG (Iv s9.1) y4 (aG (Iv s9.2) y4 (aU fun u16 WC => (dU (LT.rem Q (DR WC)) Q Q Q Q (aI (Iv (Int.tmod s9.1 s9.2)) y4 (On (Ws (Wr ?_)))))))
     refine aG (Iv s9.2) y4 (aI (Iv s9.2) y4 (On (Wr ?_)))
     refine aG (Iv (Int.tmod s9.1 s9.2)) y4 (aI (Iv (Int.tmod s9.1 s9.2)) y4 (On (aC.blk ?_)))
     refine aX Q z2 J
    ·refine gJ y2 z1 J
   ·refine Ws (Wr ?_)
    refine aG (Iv b14) y4 (aI (Iv b14) y4 (On (bT z1 J ⟨ah.sc,J⟩ J)))
theorem aKo (v:(List Int)):FT Try.prog (Nr v) 163 [.c (xF aQ v)] [] (fun (t:(List Int)) => [.c (lo 0 t.length)]) (fun (t:(List Int)) => [(0,pR 3 aQ t)]) [0]:=by
 refine FT.of [] Try.func163 Try.ntmps163 Q y2 ?_
 intro w0 U0 R0 g0
 unfold Nr
 refine Ws (Wr ?_)
 refine aI (Cc (sC aO)) ak (On (Ws (Wr ?_)))
 refine aI (Iv 0) ak (On (Ws (Ws (Wr ?_))))
 refine aI (Iv 0) ak (On (aC.block ?_))
 refine aC.ql (id:=0) (JK v) (fun s1 => ([(0,Cc (xF aQ v)),(3,Iv s1.1),(4,Iv s1.2)],[])) (fun b16 => ([(0,Cc (xF aQ v)),(3,Iv b16)],[])) (lI Try.prog Try.f163.results.toList [] [0] (fun (t:(List Int)) => [.c (lo 0 t.length)]) (fun (t:(List Int)) => [(0,pR 3 aQ t)])) ?_ (aj.of z3 J) Q (fun b16 _ => ?_) qj
 ·intro s1
  unfold JK
  refine Ws (Ws (Wr ?_))
  refine aG (Iv s1.2) y4 (aG (Cc (xF aQ v)) y4 (au (LT.gB Q iK) Q Q Q (aZ LT.lss y5 (On (aC.cond Q (fun hc17 => ?_) (fun hc17 => ?_))))))
  ·refine aC.skip (Ws (aC.block (Ws (Ws (Wr ?_)))))
   refine aG (Cc (xF aQ v)) y4 (aG (Iv s1.2) y4 (aU fun x18 MK => (dU (LT.dZ (enc:=aQ) Q lJ MK jq) Q Q Q Q (au (LT.iq Q bK) Q Q Q (aU fun pV Ed => (jC [.c (iC x18),.c (iC (-9000000000000000000)),.c (iC 9000000000000000000)] (Dl x18 (-9000000000000000000) 9000000000000000000 pV Ed) Bf (vV y3) y5 ⟨Q,Q,y2,y2,J⟩ (au (LT.not Q) Q Q Q (On (aC.cond Q (fun VU => ?_) (fun VU => ?_))))))))))
   ·refine Ws (Wr ?_)
    refine ny (gy 22 aQ [] [] iK lG y7) Q Q (aG (Cc (xF aQ v)) y4 (aU fun u21 hu21 => (dA (LT.BM (enc:=aQ) Q  Q iK lG Q (by decide) (by decide) (fun _ => Q) (jw hu21)) Q Q Q Q Q (aI (Cc (lo 22 ((([]:List Int) ++ v).length))) y4 (On (en [(2,Cc (lo 22 ((([]:List Int) ++ v).length)))] [(22,pR 3 aQ (([]:List Int) ++ v))] z1 z1 (aC.ent (aj.mv 22 0 Q Q) (en [(2,Cc (lo 0 ((([]:List Int) ++ v).length)))] [(0,pR 3 aQ (([]:List Int) ++ v))] z1 z1 (aC.ret ⟨Q,qc z1 z1 ⟨J,J⟩ ⟨bg.dO rY,J⟩⟩)))))))))
   ·refine aC.skip (Wr ?_)
    refine aG (Iv s1.1) y4 (aG (Cc (xF aQ v)) y4 (aG (Iv s1.2) y4 (aU fun uK MN => (dU (LT.dZ (enc:=aQ) Q lJ MN jq) Q Q Q Q (au (LT.iq Q bK) Q Q Q (aU fun sD Lp => (jC [.c (iC s1.1),.c (iC uK)] (aDK s1.1 uK sD Lp) Y5 (jG y2) y5 z3 (aI (Iv sD) y4 (On (aC.blk ?_))))))))))
    refine en [(0,Cc (xF aQ v)),(3,Iv sD),(4,Iv s1.2)] [] z3 J (Wr (aG (Iv s1.2) y4 (aZ LT.add aP (aI (Iv (aB (s1.2 + 1))) y4 (On (aX Q z3 J))))))
  ·refine gJ y2 z2 J
 ·refine Ws (Ws (Wr ?_))
  refine aG (Iv b16) y4 (aZ LT.eql aP (On (aC.cond Q (fun hc24 => ?_) (fun hc24 => ?_))))
  ·refine Ws (Wr ?_)
   refine ny (gy 24 aQ [] [] iK lG y7) Q Q (aG (Cc (xF aQ v)) y4 (aU fun u25 aHV => (dA (LT.BM (enc:=aQ) Q  Q iK lG Q (by decide) (by decide) (fun _ => Q) (jw aHV)) Q Q Q Q Q (aI (Cc (lo 24 ((([]:List Int) ++ v).length))) y4 (On (en [(2,Cc (lo 24 ((([]:List Int) ++ v).length)))] [(24,pR 3 aQ (([]:List Int) ++ v))] z1 z1 (aC.ent (aj.mv 24 0 Q Q) (en [(2,Cc (lo 0 ((([]:List Int) ++ v).length)))] [(0,pR 3 aQ (([]:List Int) ++ v))] z1 z1 (bT z1 z1 ⟨J,J⟩ ⟨bg.dO rY,J⟩)))))))))
  ·refine aC.skip (Ws (Wr ?_))
   refine aI (Iv 0) ak (On (Ws (Ws (Wr ?_))))
   refine aI (Iv 0) ak (On (aC.block ?_))
   refine aC.jP (id:=2) (JL v b16) (fun s26 => ([(0,Cc (xF aQ v)),(3,Iv b16),(5,Iv s26.1),(6,Iv s26.2)],[])) (fun yt => ([(0,Cc (xF aQ v)),(3,Iv yt.1),(5,Iv yt.2)],[])) ?_ (aj.of z4 J) Q (fun yt _ => ?_)
   ·intro s26
    unfold JL
    refine Ws (Ws (Wr ?_))
    refine aG (Iv s26.2) y4 (aG (Cc (xF aQ v)) y4 (au (LT.gB Q iK) Q Q Q (aZ LT.lss y5 (On (aC.cond Q (fun aFk => ?_) (fun aFk => ?_))))))
    ·refine aC.skip (Ws (aC.block (Ws (Wr ?_))))
     refine aG (Iv s26.1) y4 (aZ LT.eql aP (On (aC.eG (fun j43 => ([(0,Cc (xF aQ v)),(3,Iv b16),(5,Iv j43),(6,Iv s26.2)],[])) ?_ (fun j43 _ => ?_))))
     ·refine aC.cond Q (fun aFm => ?_) (fun aFm => ?_)
      ·refine Wr (aG (Cc (xF aQ v)) y4 (aG (Iv s26.2) y4 (aU fun je MS => (dU (LT.dZ (enc:=aQ) Q lJ MS jq) Q Q Q Q (au (LT.iq Q bK) Q Q Q (aI (Iv je) y4 (On (aX Q z4 J))))))))
      ·refine aC.skip (aX Q z4 J)
     ·refine aC.blk (Wr ?_)
      refine aG (Iv s26.2) y4 (aZ LT.add aP (aI (Iv (aB (s26.2 + 1))) y4 (On (aX Q z4 J))))
    ·refine gJ y2 z3 J
   ·refine Ws (Ws (Wr ?_))
    refine aG (Iv yt.2) y4 (aZ LT.lss aP (On (aC.eG (fun j47 => ([(0,Cc (xF aQ v)),(3,Iv j47)],[])) ?_ (fun j47 _ => ?_))))
    ·refine aC.cond Q (fun La => ?_) (fun La => ?_)
     ·refine Wr (aG (Iv yt.1) y4 (au (LT.neg Q) Q Q Q (aI (Iv (aB (-yt.1))) y4 (On (aX Q z2 J)))))
     ·refine aC.skip (aX Q z2 J)
    ·refine Ws (Wr ?_)
     refine ny (gy 25 aQ [] [] iK lG y7) Q Q (aI (Cc (lo 25 (([]:List Int).length))) y4 (On (Ws (Ws (Wr ?_)))))
     refine aI (Iv 0) ak (On (aC.block ?_))
     refine aC.jP (id:=4) (JM v j47) (fun s49 => ([(0,Cc (xF aQ v)),(3,Iv j47),(7,Cc (lo 25 s49.2.length)),(8,Iv s49.1)],[(25,pR 3 aQ s49.2)])) (fun xg => ([(7,Cc (lo 25 xg.length))],[(25,pR 3 aQ xg)])) ?_ (aj.of z4 z1) Q (fun xg _ => ?_)
     ·intro s49
      unfold JM
      refine Ws (Ws (Wr ?_))
      refine aG (Iv s49.1) y4 (aG (Cc (xF aQ v)) y4 (au (LT.gB Q iK) Q Q Q (aZ LT.lss y5 (On (aC.cond Q (fun aFs => ?_) (fun aFs => ?_))))))
      ·refine aC.skip (Ws (aC.block (Wr ?_)))
       refine aG (Cc (lo 25 s49.2.length)) y4 (aG (Cc (xF aQ v)) y4 (aG (Iv s49.1) y4 (aU fun Du aHq => (dU (LT.dZ (enc:=aQ) Q lJ aHq jq) Q Q Q Q (au (LT.iq Q bK) Q Q Q (aG (Iv j47) y4 (aU fun u61 aHf => (dU (LT.quo Q (DR aHf)) Q Q Q Q (oC (gy 26 aQ [(0,.tmp 64,.c (iC (aB (Int.tdiv Du j47))))] ([aB (Int.tdiv Du j47)]:List Int) iK lG y7) Q Q Q (aU fun u62 aHg => (oW (LT.ng (enc:=aQ) Q Q Q iK lG Q (by decide) (by decide) (fun _ => Q) (jw aHg)) Q Q Q Q Q Q ?_)))))))))))
       refine aI (Cc (lo 25 ((s49.2 ++ ([aB (Int.tdiv Du j47)]:List Int)).length))) y4 (On (aC.blk ?_))
       refine en [(0,Cc (xF aQ v)),(3,Iv j47),(7,Cc (lo 25 ((s49.2 ++ ([aB (Int.tdiv Du j47)]:List Int)).length))),(8,Iv s49.1)] [(25,pR 3 aQ (s49.2 ++ ([aB (Int.tdiv Du j47)]:List Int)))] z4 z1 (Wr (aG (Iv s49.1) y4 (aZ LT.add aP (aI (Iv (aB (s49.1 + 1))) y4 (On (aX Q z4 z1))))))
      ·refine gJ y2 z1 z1
     ·refine Ws (Wr ?_)
      refine aG (Cc (lo 25 xg.length)) y4 (aI (Cc (lo 25 xg.length)) y4 (On (en [(2,Cc (lo 25 xg.length))] [(25,pR 3 aQ xg)] z1 z1 (aC.ent (aj.mv 25 0 Q Q) (en [(2,Cc (lo 0 xg.length))] [(0,pR 3 aQ xg)] z1 z1 (bT z1 z1 ⟨J,J⟩ ⟨bg.dO rY,J⟩))))))
theorem aDS (row:(List Int)):FT Try.prog (FP row) 182 [.c (xF aQ row)] [] (fun (t:(List Int)) => [.c (lo 0 t.length)]) (fun (t:(List Int)) => [(0,pR 3 aQ t)]) [0]:=by
 refine FT.of [] Try.func182 Try.ntmps182 Q y2 ?_
 intro w0 U0 R0 g0
 unfold FP
 refine Ws (Wr ?_)
 refine aI (Cc (sC aO)) ak (On (Ws (Wr ?_)))
 refine aG (Cc (xF aQ row)) y4 (aU fun r1 hr1 => (aT.step (bU [.c (xF aQ row)] (Fw.Fn.ren [(0,22)] (aKo row r1 hr1) Q) aEF (iF Q) J y3) z2 J Q Q (aI (Cc (lo 22 r1.length)) y4 (On (en [(2,Cc (lo 22 r1.length))] [(22,pR 3 aQ r1)] z1 z1 (aC.ent (aj.mv 22 0 Q Q) (en [(2,Cc (lo 0 r1.length))] [(0,pR 3 aQ r1)] z1 z1 (bT z1 z1 ⟨J,J⟩ ⟨bg.dO rY,J⟩))))))))
theorem aKy (a:(List Int)) (row:(List Int)) (j:Int):FT Try.prog (OE a row j) 183 [.c (xF aQ a),.c (xF aQ row),.c (iC j)] [] (fun (t:(List Int)) => [.c (lo 0 t.length)]) (fun (t:(List Int)) => [(0,pR 3 aQ t)]) [0]:=by
 refine FT.of [] Try.func183 Try.ntmps183 Q y2 ?_
 intro w0 U0 R0 g0
 unfold OE
 refine Ws (Wr ?_)
 refine aI (Cc (sC aO)) ak (On (Ws (aC.draw mixed ?_)))
 refine aY (Cc (xF aQ a)) y4 (aY (Iv j) y4 (aN.bind fun x1 hx1 => (bQ (LT.dZ (enc:=aQ) Q lJ hx1 jq) Q Q Q Q (bH (LT.iq Q bK) Q Q Q (aY (Cc (xF aQ row)) y4 (aY (Iv j) y4 (aN.bind fun x2 hx2 => (bQ (LT.dZ (enc:=aQ) Q lJ hx2 jq) Q Q Q Q (bH (LT.iq Q bK) Q Q Q (aN.bind fun r3 hr3 => (aN.pure (bU [.c (iC x1),.c (iC x2)] (aDK x1 x2 r3 hr3) Y5 (jG y2) J y3) z3 J Q Q ?_)))))))))))
 refine bH (LT.assign (v:=(Iv r3)) Q) Q Q Q (dF (Ws (en [(0,Cc (xF aQ a)),(1,Cc (xF aQ row)),(2,Iv j),(7,Iv r3)] [] z4 J (Wr (aG (Cc (xF aQ row)) y4 (aG (Iv j) y4 (aU fun x4 hx4 => (dU (LT.dZ (enc:=aQ) Q lJ hx4 jq) Q Q Q Q (au (LT.iq Q bK) Q Q Q (aG (Iv r3) y4 (aU fun u5 hu5 => ?_)))))))))))
 refine dU (LT.quo Q (DR hu5)) Q Q Q Q (aI (Iv (aB (Int.tdiv x4 r3))) y4 (On (Ws (Wr ?_))))
 refine aG (Cc (xF aQ a)) y4 (aG (Iv j) y4 (aU fun x6 hx6 => (dU (LT.dZ (enc:=aQ) Q lJ hx6 jq) Q Q Q Q (au (LT.iq Q bK) Q Q Q (aG (Iv r3) y4 (aU fun u7 hu7 => (dU (LT.quo Q (DR hu7)) Q Q Q Q (aI (Iv (aB (Int.tdiv x6 r3))) y4 (On (Ws ?_))))))))))
 refine en [(0,Cc (xF aQ a)),(1,Cc (xF aQ row)),(8,Iv (aB (Int.tdiv x4 r3))),(9,Iv (aB (Int.tdiv x6 r3)))] [] z4 J (Wr (ny (gy 22 aQ [] [] iK lG y7) Q Q (aI (Cc (lo 22 (([]:List Int).length))) y4 (On (Ws (Ws (Wr ?_)))))))
 refine aI (Iv 0) ak (On (aC.block ?_))
 refine aC.jP (id:=0) (Jc a row r3 x4 x6) (fun s8 => ([(0,Cc (xF aQ a)),(1,Cc (xF aQ row)),(8,Iv (aB (Int.tdiv x4 r3))),(9,Iv (aB (Int.tdiv x6 r3))),(10,Cc (lo 22 s8.2.length)),(11,Iv s8.1)],[(22,pR 3 aQ s8.2)])) (fun b17 => ([(10,Cc (lo 22 b17.length))],[(22,pR 3 aQ b17)])) ?_ (aj.of z6 z1) Q (fun b17 _ => ?_)
 ·intro s8
  unfold Jc
  refine Ws (Ws (Wr ?_))
  refine aG (Iv s8.1) y4 (aG (Cc (xF aQ a)) y4 (au (LT.gB Q iK) Q Q Q (aZ LT.lss y5 (On (aC.cond Q (fun hc18 => ?_) (fun hc18 => ?_))))))
  ·refine aC.skip (Ws (aC.block (aC.draw mixed ?_)))
   refine aY (Cc (lo 22 s8.2.length)) y4 (aY (Cc (xF aQ a)) y4 (aY (Iv s8.1) y4 (aN.bind fun x19 WO => (bQ (LT.dZ (enc:=aQ) Q lJ WO jq) Q Q Q Q (bH (LT.iq Q bK) Q Q Q (aY (Iv (aB (Int.tdiv x4 r3))) y4 (jS LT.mul y5 (aY (Cc (xF aQ row)) y4 (aY (Iv s8.1) y4 (aN.bind fun x20 Ht => (bQ (LT.dZ (enc:=aQ) Q lJ Ht jq) Q Q Q Q ?_)))))))))))
   refine bH (LT.iq Q bK) Q Q Q (aY (Iv (aB (Int.tdiv x6 r3))) y4 (jS LT.mul y5 (jS LT.sub y5 (Dw (gy 23 aQ [(0,.tmp 53,.c (iC (aB ((aB (x19 * (aB (Int.tdiv x4 r3)))) - (aB (x20 * (aB (Int.tdiv x6 r3))))))))] ([aB ((aB (x19 * (aB (Int.tdiv x4 r3)))) - (aB (x20 * (aB (Int.tdiv x6 r3)))))]:List Int) iK lG y7) Q Q Q (aN.bind fun u21 hu21 => (KI (LT.ng (enc:=aQ) Q Q Q iK lG Q (by decide) (by decide) (fun _ => Q) (jw hu21)) Q Q Q Q Q Q (bH (LT.assign (v:=(Cc (lo 22 ((s8.2 ++ ([aB ((aB (x19 * (aB (Int.tdiv x4 r3)))) - (aB (x20 * (aB (Int.tdiv x6 r3)))))]:List Int)).length)))) Q) Q Q Q (dF (aC.blk (en [(0,Cc (xF aQ a)),(1,Cc (xF aQ row)),(8,Iv (aB (Int.tdiv x4 r3))),(9,Iv (aB (Int.tdiv x6 r3))),(10,Cc (lo 22 ((s8.2 ++ ([aB ((aB (x19 * (aB (Int.tdiv x4 r3)))) - (aB (x20 * (aB (Int.tdiv x6 r3)))))]:List Int)).length))),(11,Iv s8.1)] [(22,pR 3 aQ (s8.2 ++ ([aB ((aB (x19 * (aB (Int.tdiv x4 r3)))) - (aB (x20 * (aB (Int.tdiv x6 r3)))))]:List Int)))] z6 z1 (Wr ?_)))))))))))
   refine aG (Iv s8.1) y4 (aZ LT.add aP (aI (Iv (aB (s8.1 + 1))) y4 (On (aX Q z6 z1))))
  ·refine gJ y2 z1 z1
 ·refine Ws (Wr ?_)
  refine aG (Cc (lo 22 b17.length)) y4 (aU fun r22 aGl => (aT.step (cF [.c (lo 22 b17.length)] [(22,pR 3 aQ b17)] (Fw.Fn.ren [(0,25)] (aDS b17 r22 aGl) Q) Y7 (.cons (.c (.dG Q Q)) .nil) J y3) z2 z1 Q Q (aI (Cc (lo 25 r22.length)) y4 (On (en [(6,Cc (lo 25 r22.length))] [(25,pR 3 aQ r22)] z1 z1 (aC.ent (aj.mv 25 0 Q Q) (en [(6,Cc (lo 0 r22.length))] [(0,pR 3 aQ r22)] z1 z1 (bT z1 z1 ⟨J,J⟩ ⟨bg.dO rY,J⟩))))))))
theorem aKx (m:(List (List Int))):FT Try.prog (OD m) 134 [.c (xF (iR false) m)] [] (fun (t:((List (List Int)) × (List Int))) => [.c (lo 0 t.1.length),.c (lo 1 t.2.length)]) (fun (t:((List (List Int)) × (List Int))) => [(0,pR 37 (iR true) t.1),(1,pR 3 aQ t.2)]) [0,1]:=by
 refine FT.A8 [] Try.func134 Try.ntmps134 Q y2 ?_
 intro w0 U0 R0 g0 hU
 unfold OD
 refine Ws (Wr ?_)
 refine aI (Cc (sC aO)) ak (aI (Cc (sC aO)) ak (On (Ws (Wr ?_))))
 refine ny (gy 21 (iR true) [] ([]:List (List Int)) qH xU y7) Q Q (aI (Cc (lo 21 (([]:List (List Int)).length))) y4 (On (Ws (Ws (Wr ?_)))))
 refine aI (Iv 0) ak (On (aC.block ?_))
 refine aC.jP (id:=0) (JZ m) (fun s1 => ([(0,Cc (xF (iR false) m)),(4,Cc (lo 21 s1.2.length)),(5,Iv s1.1)],[(21,pR 37 (iR true) s1.2)])) (fun b10 => ([(4,Cc (lo 21 b10.length))],[(21,pR 37 (iR true) b10)])) ?_ (aj.of z3 z1) Q (fun b10 _ => ?_)
 ·intro s1
  unfold JZ
  refine Ws (Ws (Wr ?_))
  refine aG (Iv s1.1) y4 (aG (Cc (xF (iR false) m)) y4 (au (LT.gB Q qH) Q Q Q (aZ LT.lss y5 (On (aC.cond Q (fun EZ => ?_) (fun EZ => ?_))))))
  ·refine aC.skip (Ws (aC.block (Wr ?_)))
   refine aG (Cc (lo 21 s1.2.length)) y4 (aG (Cc (xF (iR false) m)) y4 (aG (Iv s1.1) y4 (aU fun x12 Hl => (dU (LT.dZ (enc:=(iR false)) Q qK Hl Fq) Q Q Q Q (au (LT.iq Q uN) Q Q Q (aU fun r13 uo => (aT.step (bU [.c (xF aQ x12)] (Fw.Fn.ren [(0,23)] (aDS x12 r13 uo) Q) Y7 (iF Q) J y3) z2 J Q Q (aT.ent (aj.VH (enc:=aQ) 23 23 hU Q Q Q Q) (oC (gy 24 (iR true) [(0,.tmp 23,.c (xT aQ r13))] [r13] qH xU y7) Q Q Q (aU fun u14 MF => (oW (LT.ng (enc:=(iR true)) Q Q Q qH xU Q (by decide) (by decide) (fun _ => Q) (jw MF)) Q Q Q Q Q Q ?_)))))))))))
   refine aI (Cc (lo 21 ((s1.2 ++ [r13]).length))) y4 (On (aC.blk ?_))
   refine en [(0,Cc (xF (iR false) m)),(4,Cc (lo 21 ((s1.2 ++ [r13]).length))),(5,Iv s1.1)] [(21,pR 37 (iR true) (s1.2 ++ [r13]))] z3 z1 (Wr (aG (Iv s1.1) y4 (aZ LT.add aP (aI (Iv (aB (s1.1 + 1))) y4 (On (aX Q z3 z1))))))
  ·refine gJ y2 z1 z1
 ·refine Ws (Wr ?_)
  refine ny (gy 25 aQ [] [] iK lG y7) Q Q (aI (Cc (lo 25 (([]:List Int).length))) y4 (On (Ws (Ws (Wr ?_)))))
  refine aI (Iv 0) ak (On (aC.block ?_))
  refine aC.jP (id:=2) DJ (fun s15 => ([(4,Cc (lo 21 s15.2.1.length)),(6,Cc (lo 25 s15.2.2.length)),(7,Iv s15.1)],[(21,pR 37 (iR true) s15.2.1),(25,pR 3 aQ s15.2.2)])) (fun qY => ([(4,Cc (lo 21 qY.1.length)),(6,Cc (lo 25 qY.2.length))],[(21,pR 37 (iR true) qY.1),(25,pR 3 aQ qY.2)])) ?_ (aj.of z3 z2) Q (fun qY _ => ?_)
  ·intro s15
   unfold DJ
   refine Ws (Ws ?_)
   refine aC.eG (fun RP => ([(4,Cc (lo 21 s15.2.1.length)),(6,Cc (lo 25 s15.2.2.length)),(7,Iv s15.1),(37,Bv RP)],[(21,pR 37 (iR true) s15.2.1),(25,pR 3 aQ s15.2.2)])) ?_ (fun RP _ => ?_)
   ·refine Wr (aG (Cc (lo 21 s15.2.1.length)) y4 (au (LT.mM Q qH) Q Q Q (aZ LT.gtr aP (aG (Bv (decide (0 < (s15.2.1.length:Int)))) y4 (aT.split (fun uj => ?_) (fun uj => ?_))))))
    ·refine iy (Iv s15.1) uj y5 (iy (Cc (lo 21 s15.2.1.length)) uj y5 (aU fun x153 hx153 => (lS (LT.iW Q Q qK hx153) Q y2 Q (gH uj Q Q) Q (cZ (oK 0 Q uN hx153) Q Q (gH uj Q Q) Q (au (LT.gB Q iK) Q (gH uj Q Q) Q (iV LT.lss uj y6 (dn (Bv (decide (s15.1 < (x153.length:Int)))) uj y5 (On (aX Q z4 z2)))))))))
    ·refine af uj y5 (af uj y5 (af uj y5 (af uj y5 (af uj y5 (af uj y5 (gK (Bv false) uj aP (On (aX Q z4 z2))))))))
   ·refine aC.cond Q (fun aFb => ?_) (fun aFb => ?_)
    ·refine aC.skip (Ws (aC.block (Ws (Wr ?_))))
     refine aG (Cc (lo 25 s15.2.2.length)) y4 (au (LT.mM Q iK) Q Q Q (aI (Iv (s15.2.2.length:Int)) y4 (On (Ws (aC.block ?_)))))
     refine aC.jP (id:=4) (Ja s15) (fun wS => ([(4,Cc (lo 21 s15.2.1.length)),(6,Cc (lo 25 s15.2.2.length)),(7,Iv s15.1),(8,Iv wS)],[(21,pR 37 (iR true) s15.2.1),(25,pR 3 aQ s15.2.2)])) (fun fK => ([(4,Cc (lo 21 fK.2.2.1.length)),(6,Cc (lo 25 fK.2.2.2.length)),(7,Iv fK.1),(8,Iv fK.2.1)],[(21,pR 37 (iR true) fK.2.2.1),(25,pR 3 aQ fK.2.2.2)])) ?_ (aj.of z4 z2) Q (fun fK _ => ?_)
     ·intro wS
      unfold Ja
      refine Ws (Ws ?_)
      refine aC.eG (fun RU => ([(4,Cc (lo 21 s15.2.1.length)),(6,Cc (lo 25 s15.2.2.length)),(7,Iv s15.1),(8,Iv wS),(55,Bv RU)],[(21,pR 37 (iR true) s15.2.1),(25,pR 3 aQ s15.2.2)])) ?_ (fun RU _ => ?_)
      ·refine Wr (aG (Iv wS) y4 (aG (Cc (lo 21 s15.2.1.length)) y4 (au (LT.mM Q qH) Q Q Q (aZ LT.lss y5 (aG (Bv (decide (wS < (s15.2.1.length:Int)))) y4 (aT.split (fun rQ => ?_) (fun rQ => ?_)))))))
       ·refine iy (Cc (lo 21 s15.2.1.length)) rQ y5 (iy (Iv wS) rQ y5 (aU fun aDV aAa => (lS (LT.iW Q Q qK aAa) Q Q Q (gH rQ Q Q) Q (cZ (oK 0 Q uN aAa) Q Q (gH rQ Q Q) Q (iy (Iv s15.1) rQ y5 (aU fun KF Ho => (dU (LT.dZ (enc:=aQ) Q lJ Ho jq) Q Q (gH rQ Q Q) Q (au (LT.iq Q bK) Q (gH rQ Q Q) Q (iV LT.eql rQ kY (dn (Bv (KF == 0)) rQ y5 (On ?_)))))))))))
        refine aX Q z5 z2
       ·refine af rQ y5 (af rQ y5 (af rQ y5 (af rQ y5 (af rQ y5 (af rQ y5 (af rQ y5 (af rQ y5 (gK (Bv false) rQ aP (On (aX Q z5 z2))))))))))
      ·refine aC.cond Q (fun aFd => ?_) (fun aFd => ?_)
       ·refine aC.skip (aC.block (Wr ?_))
        refine aG (Iv wS) y4 (aZ LT.add aP (aI (Iv (aB (wS + 1))) y4 (On (aC.blk ?_))))
        refine aX Q z4 z2
       ·refine gJ y2 z4 z2
     ·refine Ws (Ws (Wr ?_))
      refine aG (Iv fK.2.1) y4 (aG (Cc (lo 21 fK.2.2.1.length)) y4 (au (LT.mM Q qH) Q Q Q (aZ LT.eql y5 (On (aC.cond Q (fun VT => ?_) (fun VT => ?_))))))
      ·refine aC.exit Q (Wr ?_)
       refine aG (Iv fK.1) y4 (aZ LT.add aP (aI (Iv (aB (fK.1 + 1))) y4 (On (aX Q z3 z2))))
      ·refine aC.skip (Ws (Wr ?_))
       refine aG (Cc (lo 21 fK.2.2.1.length)) y4 (aG (Iv fK.2.1) y4 (aU fun rF aAc => (lS (LT.iW Q Q qK aAc) Q Q Q Q Q (cZ (oK 0 Q uN aAc) Q Q Q Q (aI (Cc (xT aQ rF)) y4 (On (Ws (Wr ?_))))))))
       refine aG (Cc (lo 21 fK.2.2.1.length)) y4 (aG (Iv fK.2.1) y4 (aG (Cc (lo 21 fK.2.2.1.length)) y4 (aG (Cc (lo 25 fK.2.2.2.length)) y4 (au (LT.mM Q iK) Q Q Q (aU fun uV Hq => (lS (LT.iW Q Q qK Hq) Q Q Q Q Q (cZ (oK 0 Q uN Hq) Q Q Q Q (aU fun F9 Hr => (lS (LT.iW Q Q qK Hr) Q Q Q Q Q (dA (qW 0 (.c (xT aQ uV)) uV Q Q MX Fq Hr) Q Q Q Q Q (On (Ws ?_))))))))))))
       refine en [(4,Cc (lo 21 fK.2.2.1.length)),(6,Cc (lo 25 fK.2.2.2.length)),(7,Iv fK.1),(9,Cc (xT aQ rF))] [(21,pR 37 (iR true) (fK.2.2.1.set fK.2.1.toNat uV)),(25,pR 3 aQ fK.2.2.2)] z4 z2 (Wr (aG (Cc (lo 21 fK.2.2.1.length)) y4 (aG (Cc (lo 25 fK.2.2.2.length)) y4 (au (LT.mM Q iK) Q Q Q (aG (Cc (xT aQ rF)) y4 (aU fun Pj ML => (lS (LT.iW (show fK.2.2.1.length = (fK.2.2.1.set fK.2.1.toNat uV).length by simp only [List.length_set]) Q qK ML) Q Q Q Q Q (dA (qW 0 (.c (xT aQ rF)) rF Q Q MX Fq ML) Q Q Q Q Q (On (Ws (Ws (Wr ?_))))))))))))
       refine aI (Iv 0) ak (On (aC.block ?_))
       refine aC.jP (id:=6) (Jb fK rF) (fun kE => ([(4,Cc (lo 21 kE.2.length)),(6,Cc (lo 25 fK.2.2.2.length)),(7,Iv fK.1),(9,Cc (xT aQ rF)),(10,Iv kE.1)],[(21,pR 37 (iR true) kE.2),(25,pR 3 aQ fK.2.2.2)])) (fun qJ => ([(4,Cc (lo 21 qJ.2.1.length)),(6,Cc (lo 25 qJ.2.2.length)),(7,Iv qJ.1)],[(21,pR 37 (iR true) qJ.2.1),(25,pR 3 aQ qJ.2.2)])) ?_ (aj.of ⟨congrArg (fun l1 => (some (AV.s (.c (lo 21 l1))):Option AV)) (show fK.2.2.1.length = ((fK.2.2.1.set fK.2.1.toNat uV).set (fK.2.2.2.length:Int).toNat rF).length by simp only [List.length_set]),Q,Q,Q,Q,J⟩ z2) Q (fun qJ _ => ?_)
       ·intro kE
        unfold Jb
        refine Ws (Ws (Wr ?_))
        refine aG (Iv kE.1) y4 (aG (Cc (lo 21 kE.2.length)) y4 (au (LT.mM Q qH) Q Q Q (aZ LT.lss y5 (On (aC.cond Q (fun aFf => ?_) (fun aFf => ?_))))))
        ·refine aC.skip (Ws (aC.block (Ws ?_)))
         refine aC.eG (fun RX => ([(4,Cc (lo 21 kE.2.length)),(6,Cc (lo 25 fK.2.2.2.length)),(7,Iv fK.1),(9,Cc (xT aQ rF)),(10,Iv kE.1),(98,Bv RX)],[(21,pR 37 (iR true) kE.2),(25,pR 3 aQ fK.2.2.2)])) ?_ (fun RX _ => ?_)
         ·refine Wr (aG (Iv kE.1) y4 (aG (Cc (lo 25 fK.2.2.2.length)) y4 (au (LT.mM Q iK) Q Q Q (aZ LT.neq y5 (aG (Bv (kE.1 != (fK.2.2.2.length:Int))) y4 (aT.split (fun rV => ?_) (fun rV => ?_)))))))
          ·refine iy (Cc (lo 21 kE.2.length)) rV y5 (iy (Iv kE.1) rV y5 (aU fun aDX aAf => (lS (LT.iW Q Q qK aAf) Q Q Q (gH rV Q Q) Q (cZ (oK 0 Q uN aAf) Q Q (gH rV Q Q) Q (iy (Iv fK.1) rV y5 (aU fun YT aHl => (dU (LT.dZ (enc:=aQ) Q lJ aHl jq) Q Q (gH rV Q Q) Q (au (LT.iq Q bK) Q (gH rV Q Q) Q (iV LT.neq rV kY (dn (Bv (YT != 0)) rV y5 (On ?_)))))))))))
           refine aX Q z6 z2
          ·refine af rV y5 (af rV y5 (af rV y5 (af rV y5 (af rV y5 (af rV y5 (af rV y5 (af rV y5 (gK (Bv false) rV aP (On (aX Q z6 z2))))))))))
         ·refine aC.eG (fun ND => ([(4,Cc (lo 21 ND.length)),(6,Cc (lo 25 fK.2.2.2.length)),(7,Iv fK.1),(9,Cc (xT aQ rF)),(10,Iv kE.1)],[(21,pR 37 (iR true) ND),(25,pR 3 aQ fK.2.2.2)])) ?_ (fun ND _ => ?_)
          ·refine aC.cond Q (fun VW => ?_) (fun VW => ?_)
           ·refine Wr (aG (Cc (lo 21 kE.2.length)) y4 (aG (Iv kE.1) y4 (aG (Cc (lo 21 kE.2.length)) y4 (aG (Iv kE.1) y4 (aU fun UE aAg => (lS (LT.iW Q Q qK aAg) Q Q Q Q Q (cZ (oK 0 Q uN aAg) Q Q Q Q (aG (Cc (xT aQ rF)) y4 (aG (Iv fK.1) y4 (aU fun Jp aGm => (aT.step (bU [.c (xT aQ UE),.c (xT aQ rF),.c (iC fK.1)] (Fw.Fn.ren [(0,27)] (aKy UE rF fK.1 Jp aGm) Q) aEI (.cons (.c (.weak (.same Q) (QW.iL XY (fun h => by cases h) _))) (.cons (.c (.weak (.same Q) (QW.iL XY (fun h => by cases h) _))) (.cons (.c (.same Q)) .nil))) J y3) z4 J Q Q ?_)))))))))))
            refine aU fun sZ MO => (lS (LT.iW Q Q qK MO) Q Q Q Q Q (aT.ent (aj.VH (enc:=aQ) 107 27 hU Q Q Q Q) (dA (qW 0 (.c (xT aQ Jp)) Jp Q Q MX Fq MO) Q Q Q Q Q (On (aC.nil ⟨Q,aj.of ⟨congrArg (fun l1 => (some (AV.s (.c (lo 21 l1))):Option AV)) (show kE.2.length = (kE.2.set kE.1.toNat Jp).length by simp only [List.length_set]),Q,Q,Q,Q,J⟩ z2⟩)))))
           ·refine aC.skip (aX Q z5 z2)
          ·refine aC.blk (Wr ?_)
           refine aG (Iv kE.1) y4 (aZ LT.add aP (aI (Iv (aB (kE.1 + 1))) y4 (On (aX Q z5 z2))))
        ·refine gJ y2 z3 z2
       ·refine Wr (aG (Cc (lo 25 qJ.2.2.length)) y4 (aG (Iv qJ.1) y4 (oC (gy 28 aQ [(0,.tmp 110,.c (iC qJ.1))] ([qJ.1]:List Int) iK lG y7) Q Q Q (aU fun aKC aHU => (oW (LT.ng (enc:=aQ) Q Q Q iK lG Q (by decide) (by decide) (fun _ => Q) (jw aHU)) Q Q Q Q Q Q (aI (Cc (lo 25 ((qJ.2.2 ++ ([qJ.1]:List Int)).length))) y4 (On (aC.blk (Wr ?_)))))))))
        refine aG (Iv qJ.1) y4 (aZ LT.add aP (aI (Iv (aB (qJ.1 + 1))) y4 (On (aX Q z3 z2))))
    ·refine gJ y2 z2 z2
  ·refine Ws (Wr ?_)
   refine aG (Cc (lo 21 qY.1.length)) y4 (aG (Cc (lo 25 qY.2.length)) y4 (aI (Cc (lo 21 qY.1.length)) y4 (aI (Cc (lo 25 qY.2.length)) y4 (On (en [(2,Cc (lo 21 qY.1.length)),(3,Cc (lo 25 qY.2.length))] [(21,pR 37 (iR true) qY.1),(25,pR 3 aQ qY.2)] z2 z2 (aC.ent (aj.mv 21 0 Q Q) (aC.ent (aj.mv 25 1 Q Q) (en [(2,Cc (lo 0 qY.1.length)),(3,Cc (lo 1 qY.2.length))] [(0,pR 37 (iR true) qY.1),(1,pR 3 aQ qY.2)] z2 z2 (bT z2 z2 ⟨J,J,J⟩ ⟨bg.dO aBv,bg.dO rY,J⟩)))))))))
theorem aDD (a:(List Int)) (b:(List Int)):FT Try.prog (Iu a b) 19 [.c (xF aQ a),.c (xF aQ b)] [] (fun (t:Bool) => [.c (bC t)]) (fun (t:Bool) => []) []:=by
 refine FT.of [] Try.func19 Try.ntmps19 Q y2 ?_
 intro w0 U0 R0 g0
 unfold Iu
 refine Ws (Wr ?_)
 refine aI (Bv false) ak (On (Ws (Ws (Wr ?_))))
 refine aG (Cc (xF aQ a)) y4 (au (LT.gB Q iK) Q Q Q (aG (Cc (xF aQ b)) y4 (au (LT.gB Q iK) Q Q Q (aZ LT.neq y5 (On (aC.cond Q (fun hc1 => ?_) (fun hc1 => ?_)))))))
 ·refine Ws (Wr ?_)
  refine aI (Bv false) ak (On (bT z1 J ⟨ah.sc,J⟩ J))
 ·refine aC.skip (Ws (Ws (Wr ?_)))
  refine aI (Iv 0) ak (On (aC.block ?_))
  refine aC.ql (id:=0) (Iw a b) (fun s2 => ([(0,Cc (xF aQ a)),(1,Cc (xF aQ b)),(5,Iv s2)],[])) (fun b11 => ([],[])) (lI Try.prog Try.f19.results.toList [] [] (fun (t:Bool) => [.c (bC t)]) (fun (t:Bool) => [])) ?_ (aj.of z3 J) Q (fun b11 _ => ?_) qj
  ·intro s2
   unfold Iw
   refine Ws (Ws (Wr ?_))
   refine aG (Iv s2) y4 (aG (Cc (xF aQ a)) y4 (au (LT.gB Q iK) Q Q Q (aZ LT.lss y5 (On (aC.cond Q (fun hc12 => ?_) (fun hc12 => ?_))))))
   ·refine aC.skip (Ws (aC.block (Ws (aC.draw mixed ?_))))
    refine aY (Cc (xF aQ a)) y4 (aY (Iv s2) y4 (aN.bind fun oU xA => (bQ (LT.dZ (enc:=aQ) Q lJ xA jq) Q Q Q Q (bH (LT.iq Q bK) Q Q Q (aY (Cc (xF aQ b)) y4 (aY (Iv s2) y4 (aN.bind fun x14 yI => (bQ (LT.dZ (enc:=aQ) Q lJ yI jq) Q Q Q Q (bH (LT.iq Q bK) Q Q Q (jS LT.neq y5 (dF ?_)))))))))))
    refine aC.cond Q (fun rW => ?_) (fun rW => ?_)
    ·refine Ws (en [] [] J J (Wr (aI (Bv false) ak (On (aC.ret ⟨Q,qc z1 J ⟨ah.sc,J⟩ J⟩)))))
    ·refine aC.skip (aC.blk ?_)
     refine en [(0,Cc (xF aQ a)),(1,Cc (xF aQ b)),(5,Iv s2)] [] z3 J (Wr (aG (Iv s2) y4 (aZ LT.add aP (aI (Iv (aB (s2 + 1))) y4 (On (aX Q z3 J))))))
   ·refine gJ y2 J J
  ·refine Ws (Wr ?_)
   refine aI (Bv true) ak (On (bT z1 J ⟨ah.sc,J⟩ J))
theorem aKW (m:(List (List Int))) (columns:Int):FT Try.prog (Ro m columns) 133 [.c (xF (iR false) m),.c (iC columns)] [] (fun (t:Int) => [.c (iC t)]) (fun (t:Int) => []) []:=by
 refine FT.of [] Try.func133 Try.ntmps133 Q y2 ?_
 intro w0 U0 R0 g0
 unfold Ro
 refine Ws (Wr ?_)
 refine aI (Iv 0) ak (On (Ws (Wr ?_)))
 refine aG (Cc (xF (iR false) m)) y4 (aG (Iv columns) y4 (aU fun r1 hr1 => (aT.step (bU [.c (xF (iR false) m),.c (iC columns)] (Fw.Fn.ren [(0,22),(1,23),(2,24)] (aKX m columns r1 hr1) Q) aEE (jG y2) J y3) z3 J Q Q (aG (.dW [.c (lo 22 r1.1.length),.c (lo 24 r1.2.1.length),.c (iC r1.2.2)]) y4 (jc (.c (lo 22 r1.1.length)) y5 (jc (.c (lo 24 r1.2.1.length)) y5 (jc (.c (iC r1.2.2)) y5 (aI (Cc (lo 22 r1.1.length)) y4 (aI (Cc (lo 24 r1.2.1.length)) y4 (aI (Iv r1.2.2) y4 (On (Ws ?_))))))))))))
 refine en [(6,Cc (lo 24 r1.2.1.length))] [(24,pR 3 aQ r1.2.1)] z1 z1 (Wr (aG (Cc (lo 24 r1.2.1.length)) y4 (au (LT.mM Q iK) Q Q Q (aI (Iv (r1.2.1.length:Int)) y4 (On (bT z1 J ⟨ah.sc,J⟩ J))))))
theorem aC7 (f:aW):FT Try.prog (IW f) 60 [.agg (ay f)] [] (fun (t:Int) => [.c (iC t)]) (fun (t:Int) => []) []:=by
 refine FT.of [] Try.func60 Try.ntmps60 Q y2 ?_
 intro w0 U0 R0 g0
 unfold IW
 refine Ws (Wr ?_)
 refine fZ 21 (.agg (ay f)) ai y5 (aI (Iv 0) ak (On (Ws (Ws (Wr ?_)))))
 refine cZ (bD (ay f) Q bP ax ai) Q Q Q Q (aU fun r1 hr1 => (jC [.agg (ay f)] (vW f r1 hr1) vI (jd y3) y5 z2 (au (LT.not Q) Q Q Q (On (aC.cond Q (fun hc2 => ?_) (fun hc2 => ?_))))))
 ·refine Ws (Wr ?_)
  refine aI (Iv (-1)) ak (On (bT z1 J ⟨ah.sc,J⟩ J))
 ·refine aC.skip (Ws (aC.draw mixed ?_))
  refine bV (bD (ay f) Q bP ax ai) Q Q Q Q (aN.bind fun r3 hr3 => (aN.step (bU [.agg (ay f)] (Fw.Fn.ren [(0,24),(1,25)] (aKM f r3 hr3) Q) aEa (jd y3) J y3) z2 J Q Q (bH (LT.eu Q jv) Q Q Q (dw (iC f.Graph.aF) lV bK bI (jS LT.mul oQ (aN.bind fun r4 hr4 => (aN.pure (cF [.c (lo 24 r3.length),.c (iC (aB (2 * f.Graph.aF)))] [(24,.dh 37 25 (dV r3)),(25,.pool 3 (rowsOf aQ r3))] (aKW r3 (aB (2 * f.Graph.aF)) r4 hr4) aD2 (.cons (.c (.aJ5 Q Q Q (fun _ => Q))) (.cons (.c (.same Q)) .nil)) J y3) z3 z2 Q Q (bH (LT.assign (v:=(Iv r4)) Q) Q Q Q (dF (bT z1 J ⟨ah.sc,J⟩ J))))))))))
theorem aDJ (f:aW):FT Try.prog (JB f) 61 [.agg (ay f)] [] (fun (t:Int) => [.c (iC t)]) (fun (t:Int) => []) []:=by
 refine FT.of [] Try.func61 Try.ntmps61 Q y2 ?_
 intro w0 U0 R0 g0
 unfold JB
 refine Ws (Wr ?_)
 refine fZ 21 (.agg (ay f)) ai y5 (aI (Iv 0) ak (On (Ws (Ws (Wr ?_)))))
 refine cZ (bD (ay f) Q bP ax ai) Q Q Q Q (aU fun r1 hr1 => (jC [.agg (ay f)] (uT f r1 hr1) uO (jd y3) y5 z2 (au (LT.not Q) Q Q Q (On (aC.cond Q (fun hc2 => ?_) (fun hc2 => ?_))))))
 ·refine Ws (Wr ?_)
  refine aI (Iv (-1)) ak (On (bT z1 J ⟨ah.sc,J⟩ J))
 ·refine aC.skip (Ws (Wr ?_))
  refine cZ (bD (ay f) Q bP ax ai) Q Q Q Q (aU fun r3 hr3 => (aT.step (bU [.agg (ay f)] (Fw.Fn.ren [(0,24)] (aKq f r3 hr3) Q) aD4 (jd y3) J y3) z2 J Q Q (aU fun r4 hr4 => (aT.step (cF [.c (lo 24 r3.length)] [(24,pR 37 (iR true) r3)] (Fw.Fn.ren [(0,26),(1,27)] (aKx r3 r4 hr4) Q) aD3 (.cons (.c (.weak (.dG (enc:=iR true) Q Q) (QW.iL aI7 (fun h => h) _))) .nil) J y3) z2 z1 Q Q (aG (.dW [.c (lo 26 r4.1.length),.c (lo 27 r4.2.length)]) y4 (jc (.c (lo 26 r4.1.length)) y5 (jc (.c (lo 27 r4.2.length)) y5 (aI (Cc (lo 26 r4.1.length)) y4 (aI (Cc (lo 27 r4.2.length)) y4 (On (Ws ?_)))))))))))
  refine en [(4,Cc (lo 27 r4.2.length))] [(27,pR 3 aQ r4.2)] z1 z1 (Wr (aG (Cc (lo 27 r4.2.length)) y4 (au (LT.mM Q iK) Q Q Q (aI (Iv (r4.2.length:Int)) y4 (On (bT z1 J ⟨ah.sc,J⟩ J))))))
theorem aKQ (g:bM):FT Try.prog (Rj g) 118 [.agg (dI g)] [] (fun (t:bM) => [.agg [iC t.aF,lo 0 t.aA.length]]) (fun (t:bM) => [(0,pR 96 aK t.aA)]) [0]:=by
 refine FT.of [] Try.func118 Try.ntmps118 Q y2 ?_
 intro w0 U0 R0 g0
 unfold Rj
 refine Ws (Wr ?_)
 refine fZ 21 (.agg (dI g)) dM y5 (dQ 22 [iC 0,sC aO] lF y6 (On (Ws (aC.draw mixed ?_))))
 refine dw (iC g.aF) lV bK bI (zW (gy 23 aK [] [] iU jQ y7) Q Q (dw (xF aK g.aA) gq iQ bI (aN.bind fun u1 hu1 => (iY (LT.BM (enc:=aK) Q  Q iU jQ Q (by decide) (by decide) (fun _ => Q) (jw hu1)) Q Q Q Q Q (bQ (LT.build [(0,.tmp 4,.c (iC g.aF)),(1,.tmp 8,.c (lo 23 ((([]:List aV) ++ g.aA).length)))] Q Q uy lF Q Q Q) Q Q Q Q (iY (stA [iC g.aF,lo 23 ((([]:List aV) ++ g.aA).length)] Q Q dX dM) Q Q Q Q Q (dF (en [(2,Cc (.pl 22 0))] [(22,.row 26 [[iC g.aF,lo 23 ((([]:List aV) ++ g.aA).length)]]),(23,pR 96 aK (([]:List aV) ++ g.aA))] z1 z2 (aC.ent (aj.mv 23 0 Q Q) ?_)))))))))
 refine en [(2,Cc (.pl 22 0))] [(0,pR 96 aK (([]:List aV) ++ g.aA)),(22,.row 26 [[iC g.aF,lo 0 ((([]:List aV) ++ g.aA).length)]])] z1 z2 (bT ⟨⟨_,_,_,Q,Q,Q,iI,dM,_,fE dX⟩,J⟩ z1 ⟨⟨ah.sc,J,J⟩,J⟩ ⟨bg.dO iP,J⟩)
theorem aKI (g:bM) (v:Int):FT Try.prog (NI g v) 149 [.agg (dI g),.c (iC v)] [] (fun (t:Bool) => [.c (bC t)]) (fun (t:Bool) => []) []:=by
 refine FT.of [] Try.func149 Try.ntmps149 Q y2 ?_
 intro w0 U0 R0 g0
 unfold NI
 refine Ws (Wr ?_)
 refine fZ 21 (.agg (dI g)) dM y5 (aI (Bv false) ak (On (Ws (Wr ?_))))
 refine aG (Iv v) y4 (dR (iC g.aF) lV bK bI (aZ LT.sub aP (aU fun r1 hr1 => (jC [.c (iC v),.c (iC 0),.c (iC (aB (g.aF - 1)))] (PY v 0 (aB (g.aF - 1)) r1 hr1) KY (vV y3) y5 ⟨Q,Q,y2,Q,J⟩ (aI (Bv r1) y4 (On (bT z1 J ⟨ah.sc,J⟩ J)))))))
theorem PZ (f:aW):FT Try.prog (Az f) 104 [.agg (ay f)] [] (fun (t:aW) => [.agg [iC t.Graph.aF,lo 0 t.Graph.aA.length,lo 1 t.Places.length]]) (fun (t:aW) => [(0,pR 96 aK t.Graph.aA),(1,pR 82 aJ t.Places)]) [0,1]:=by
 refine FT.of [] Try.func104 Try.ntmps104 Q y2 ?_
 intro w0 U0 R0 g0
 unfold Az
 refine Ws (Wr ?_)
 refine fZ 21 (.agg (ay f)) ai y5 (dQ 22 [iC 0,sC aO,sC aO] iG y6 (On (Ws (aC.draw mixed ?_))))
 refine bH (LT.eu Q jv) Q Q Q (bV (bD (dI f.Graph) Q iI dX dM) Q Q Q Q (aN.bind fun r1 hr1 => (aN.step (bU [.agg (dI f.Graph)] (Fw.Fn.ren [(0,24)] (YM f.Graph r1 hr1) Q) Ud (qV y2) J y3) z2 J Q Q (zW (gy 25 aJ [] [] lQ kM y7) Q Q (dw (xF aJ f.Places) fJ fV bI (aN.bind fun u2 hu2 => (iY (LT.BM (enc:=aJ) Q  Q lQ kM Q (by decide) (by decide) (fun _ => Q) (jw hu2)) Q Q Q Q Q (bQ (LT.build [(0,.tmp 5,.agg [iC r1.aF,lo 24 r1.aA.length]),(1,.tmp 9,.c (lo 25 ((([]:List bG) ++ f.Places).length)))] Q Q yN iG Q Q Q) Q Q Q Q (iY (stA [iC r1.aF,lo 24 r1.aA.length,lo 25 ((([]:List bG) ++ f.Places).length)] Q Q ax ai) Q Q Q Q Q (dF ?_))))))))))
 refine en [(2,Cc (.pl 22 0))] [(22,.row 29 [[iC r1.aF,lo 24 r1.aA.length,lo 25 ((([]:List bG) ++ f.Places).length)]]),(24,pR 96 aK r1.aA),(25,pR 82 aJ (([]:List bG) ++ f.Places))] z1 z3 (aC.ent (aj.mv 24 0 Q Q) (aC.ent (aj.mv 25 1 Q Q) (en [(2,Cc (.pl 22 0))] [(0,pR 96 aK r1.aA),(1,pR 82 aJ (([]:List bG) ++ f.Places)),(22,.row 29 [[iC r1.aF,lo 0 r1.aA.length,lo 1 ((([]:List bG) ++ f.Places).length)]])] z1 z3 (bT ⟨⟨_,_,_,Q,Q,Q,bP,ai,_,fE ax⟩,J⟩ z2 ⟨⟨ah.sc,J,J,J⟩,J⟩ ⟨bg.dO iP,bg.dO jo,J⟩))))
theorem aDH (a:bM) (b:bM):FT Try.prog (I5 a b) 127 [.agg (dI a),.agg (dI b)] [] (fun (t:Bool) => [.c (bC t)]) (fun (t:Bool) => []) []:=by
 refine FT.of [] Try.func127 Try.ntmps127 Q y2 ?_
 intro w0 U0 R0 g0
 unfold I5
 refine Ws (Wr ?_)
 refine fZ 21 (.agg (dI a)) dM y5 (fZ 22 (.agg (dI b)) dM y5 (aI (Bv false) ak (On (Ws (Ws ?_)))))
 refine aC.eG (fun j2 => ([(2,Cc (.pl 21 0)),(3,Cc (.pl 22 0)),(19,Bv j2)],[(21,.row 26 [dI a]),(22,.row 26 [dI b])])) ?_ (fun j2 _ => ?_)
 ·refine Wr (dR (iC a.aF) lV bK bI (dR (iC b.aF) lV bK bI (aZ LT.neq y5 (aG (Bv (a.aF != b.aF)) y4 (aT.split (fun hb3 => ?_) (fun hb3 => ?_))))))
  ·refine af hb3 y5 (af hb3 y5 (af hb3 y5 (af hb3 y5 (af hb3 y5 (af hb3 y5 (af hb3 y5 (dn (Bv true) hb3 aP (On (aX Q z3 z2)))))))))
  ·refine jf (xF aK a.aA) gq iQ hb3 gm (au (LT.gB Q iU) Q (gH hb3 Q Q) Q (jf (xF aK b.aA) gq iQ hb3 gm (au (LT.gB Q iU) Q (gH hb3 Q Q) Q (iV LT.neq hb3 y6 (gK (Bv ((a.aA.length:Int) != (b.aA.length:Int))) hb3 y5 (On (aX Q z3 z2)))))))
 ·refine aC.cond Q (fun hc4 => ?_) (fun hc4 => ?_)
  ·refine Ws (Wr ?_)
   refine aI (Bv false) ak (On (bT z1 J ⟨ah.sc,J⟩ J))
  ·refine aC.skip (Ws (Ws (Wr ?_)))
   refine aI (Iv 0) ak (On (aC.block ?_))
   refine aC.ql (id:=0) (Nk a b) (fun s5 => ([(2,Cc (.pl 21 0)),(3,Cc (.pl 22 0)),(5,Iv s5)],[(21,.row 26 [dI a]),(22,.row 26 [dI b])])) (fun b14 => ([],[])) (lI Try.prog Try.f127.results.toList [] [] (fun (t:Bool) => [.c (bC t)]) (fun (t:Bool) => [])) ?_ (aj.of z3 z2) Q (fun b14 _ => ?_) qj
   ·intro s5
    unfold Nk
    refine Ws (Ws (Wr ?_))
    refine aG (Iv s5) y4 (dR (xF aK a.aA) gq iQ bI (au (LT.gB Q iU) Q Q Q (aZ LT.lss y5 (On (aC.cond Q (fun rW => ?_) (fun rW => ?_))))))
    ·refine aC.skip (Ws (aC.block (Ws (aC.draw mixed ?_))))
     refine dw (xF aK a.aA) gq iQ bI (aY (Iv s5) y4 (aN.bind fun x16 hx16 => (bQ (LT.dZ (enc:=aK) Q oL hx16 fG) Q Q Q Q (bH (kC Q lU jW fG) Q Q Q (dw (xF aK b.aA) gq iQ bI (aY (Iv s5) y4 (aN.bind fun x17 WN => (bQ (LT.dZ (enc:=aK) Q oL WN fG) Q Q Q Q (bH (kC Q lU jW fG) Q Q Q ?_)))))))))
     refine bQ (LT.Jf [x16.A,x16.B] [x17.A,x17.B] Q NC Q Q) Q Q Q Q (dF (aC.cond Q (fun hc18 => ?_) (fun hc18 => ?_)))
     ·refine Ws (en [] [] J J (Wr (aI (Bv false) ak (On (aC.ret ⟨Q,qc z1 J ⟨ah.sc,J⟩ J⟩)))))
     ·refine aC.skip (aC.blk ?_)
      refine en [(2,Cc (.pl 21 0)),(3,Cc (.pl 22 0)),(5,Iv s5)] [(21,.row 26 [dI a]),(22,.row 26 [dI b])] z3 z2 (Wr (aG (Iv s5) y4 (aZ LT.add aP (aI (Iv (aB (s5 + 1))) y4 (On (aX Q z3 z2))))))
    ·refine gJ y2 J J
   ·refine Ws (Wr ?_)
    refine aI (Bv true) ak (On (bT z1 J ⟨ah.sc,J⟩ J))
theorem YJ (f:aW):FT Try.prog (FI f) 56 [.agg (ay f)] [] (fun (t:(List Int)) => [.c (lo 0 t.length)]) (fun (t:(List Int)) => [(0,pR 3 aQ t)]) [0]:=by
 refine FT.of [] Try.func56 Try.ntmps56 Q y2 ?_
 intro w0 U0 R0 g0
 unfold FI
 refine Ws (Wr ?_)
 refine fZ 21 (.agg (ay f)) ai y5 (aI (Cc (sC aO)) ak (On (Ws (Wr ?_))))
 refine ny (gy 22 aQ [] [] iK lG y7) Q Q (aI (Cc (lo 22 (([]:List Int).length))) y4 (On (Ws (Ws (Wr ?_)))))
 refine aI (Iv 0) ak (On (aC.block ?_))
 refine aC.jP (id:=0) (Cm f) (fun s1 => ([(1,Cc (.pl 21 0)),(3,Cc (lo 22 s1.2.length)),(4,Iv s1.1)],[(21,.row 29 [ay f]),(22,pR 3 aQ s1.2)])) (fun gG => ([(3,Cc (lo 22 gG.length))],[(22,pR 3 aQ gG)])) ?_ (aj.of z3 z2) Q (fun gG _ => ?_)
 ·intro s1
  unfold Cm
  refine Ws (Ws ?_)
  refine aC.eG (fun j27 => ([(1,Cc (.pl 21 0)),(3,Cc (lo 22 s1.2.length)),(4,Iv s1.1),(17,Bv j27)],[(21,.row 29 [ay f]),(22,pR 3 aQ s1.2)])) ?_ (fun j27 _ => ?_)
  ·refine Wr (aG (Iv s1.1) y4 (au (LT.eu Q jv) Q Q Q (dR (xF aK f.Graph.aA) gq iQ bI (au (LT.gB Q iU) Q Q Q (aZ LT.lss y5 (aG (Bv (decide (s1.1 < (f.Graph.aA.length:Int)))) y4 (aT.split (fun qQ => ?_) (fun qQ => ?_))))))))
   ·refine cZ (bD (ay f) Q bP ax ai) Q Q (gH qQ Q Q) Q (aU fun sV Eg => (aT.pure (bU [.agg (ay f)] (uT f sV Eg) uO (jd y3) J y3) z2 J (gH qQ Q Q) Q (dn (Bv sV) qQ y5 (On (aX Q z4 z2)))))
   ·refine af qQ y5 (af qQ y5 (gK (Bv false) qQ aP (On (aX Q z4 z2))))
  ·refine aC.cond Q (fun LZ => ?_) (fun LZ => ?_)
   ·refine aC.skip (Ws (aC.block (Ws (aC.draw mixed ?_))))
    refine dw (xF aJ f.Places) fJ fV bI (bH (LT.eu Q jv) Q Q Q (dw (xF aK f.Graph.aA) gq iQ bI (aY (Iv s1.1) y4 (aN.bind fun x31 hx31 => (bQ (LT.dZ (enc:=aK) Q oL hx31 fG) Q Q Q Q (bH (LT.pF Q mZ) Q Q Q (bH (LT.iq Q bK) Q Q Q (aN.bind fun x32 hx32 => (bQ (LT.dZ (enc:=aJ) Q jD hx32 bf) Q Q Q Q ?_)))))))))
    refine bH (kC Q gI dS bf) Q Q Q (zW (LT.alloc (n:=24) (cells:=[iC 0,iC 0]) Q kM Q Q Q) Q Q (iY (stA [iC x32.X,iC x32.Y] Q Q dS bf) Q Q Q Q Q (dF (Ws (en [(1,Cc (.pl 21 0)),(3,Cc (lo 22 s1.2.length)),(4,Iv s1.1),(5,Cc (.pl 24 0))] [(21,.row 29 [ay f]),(22,pR 3 aQ s1.2),(24,.row 82 [[iC x32.X,iC x32.Y]])] z4 z3 (aC.draw mixed (dw (xF aJ f.Places) fJ fV bI (bH (LT.eu Q jv) Q Q Q (dw (xF aK f.Graph.aA) gq iQ bI ?_)))))))))
    refine aY (Iv s1.1) y4 (aN.bind fun UF Q8 => (bQ (LT.dZ (enc:=aK) Q oL Q8 fG) Q Q Q Q (bH (LT.pF Q nS) Q Q Q (bH (LT.iq Q bK) Q Q Q (aN.bind fun x34 hx34 => (bQ (LT.dZ (enc:=aJ) Q jD hx34 bf) Q Q Q Q (bH (kC Q gI dS bf) Q Q Q (zW (LT.alloc (n:=25) (cells:=[iC 0,iC 0]) Q kM Q Q Q) Q Q (iY (stA [iC x34.X,iC x34.Y] Q Q dS bf) Q Q Q Q Q (dF (en [(1,Cc (.pl 21 0)),(3,Cc (lo 22 s1.2.length)),(4,Iv s1.1),(5,Cc (.pl 24 0)),(6,Cc (.pl 25 0))] [(21,.row 29 [ay f]),(22,pR 3 aQ s1.2),(24,.row 82 [[iC x32.X,iC x32.Y]]),(25,.row 82 [[iC x34.X,iC x34.Y]])] z5 z4 ?_)))))))))))
    refine Wr (aG (Cc (lo 22 s1.2.length)) y4 (dR (iC x32.X) kV bK bI (dR (iC x34.X) kV bK bI (aZ LT.sub y5 (dR (iC x32.X) kV bK bI (dR (iC x34.X) kV bK bI (aZ LT.sub y5 ?_)))))))
    refine aZ LT.mul y5 (dR (iC x32.Y) lq bK bI (dR (iC x34.Y) lq bK bI (aZ LT.sub y5 (dR (iC x32.Y) lq bK bI (dR (iC x34.Y) lq bK bI (aZ LT.sub y5 (aZ LT.mul y5 ?_)))))))
    refine aZ LT.add y5 (oC (gy 26 aQ [(0,.tmp 65,.c (iC (aB ((aB ((aB (x32.X - x34.X)) * (aB (x32.X - x34.X)))) + (aB ((aB (x32.Y - x34.Y)) * (aB (x32.Y - x34.Y))))))))] ([aB ((aB ((aB (x32.X - x34.X)) * (aB (x32.X - x34.X)))) + (aB ((aB (x32.Y - x34.Y)) * (aB (x32.Y - x34.Y)))))]:List Int) iK lG y7) Q Q Q (aU fun u35 aHb => (oW (LT.ng (enc:=aQ) Q Q Q iK lG Q (by decide) (by decide) (fun _ => Q) (jw aHb)) Q Q Q Q Q Q (aI (Cc (lo 22 ((s1.2 ++ ([aB ((aB ((aB (x32.X - x34.X)) * (aB (x32.X - x34.X)))) + (aB ((aB (x32.Y - x34.Y)) * (aB (x32.Y - x34.Y)))))]:List Int)).length))) y4 (On (aC.blk ?_))))))
    refine en [(1,Cc (.pl 21 0)),(3,Cc (lo 22 ((s1.2 ++ ([aB ((aB ((aB (x32.X - x34.X)) * (aB (x32.X - x34.X)))) + (aB ((aB (x32.Y - x34.Y)) * (aB (x32.Y - x34.Y)))))]:List Int)).length))),(4,Iv s1.1)] [(21,.row 29 [ay f]),(22,pR 3 aQ (s1.2 ++ ([aB ((aB ((aB (x32.X - x34.X)) * (aB (x32.X - x34.X)))) + (aB ((aB (x32.Y - x34.Y)) * (aB (x32.Y - x34.Y)))))]:List Int)))] z3 z2 (Wr (aG (Iv s1.1) y4 (aZ LT.add aP (aI (Iv (aB (s1.1 + 1))) y4 (On (aX Q z3 z2))))))
   ·refine gJ y2 z1 z1
 ·refine Ws (Wr ?_)
  refine aG (Cc (lo 22 gG.length)) y4 (aI (Cc (lo 22 gG.length)) y4 (On (en [(2,Cc (lo 22 gG.length))] [(22,pR 3 aQ gG)] z1 z1 (aC.ent (aj.mv 22 0 Q Q) (en [(2,Cc (lo 0 gG.length))] [(0,pR 3 aQ gG)] z1 z1 (bT z1 z1 ⟨J,J⟩ ⟨bg.dO rY,J⟩))))))
theorem aDR (a:(List Int)) (b:(List Int)):FT Try.prog (JY a b) 155 [.c (xF aQ a),.c (xF aQ b)] [] (fun (t:Bool) => [.c (bC t)]) (fun (t:Bool) => []) []:=by
 refine FT.of [] Try.func155 Try.ntmps155 Q y2 ?_
 intro w0 U0 R0 g0
 unfold JY
 refine Ws (Wr ?_)
 refine aI (Bv false) ak (On (Ws (Ws (Wr ?_))))
 refine aG (Cc (xF aQ a)) y4 (au (LT.gB Q iK) Q Q Q (aG (Cc (xF aQ b)) y4 (au (LT.gB Q iK) Q Q Q (aZ LT.neq y5 (On (aC.cond Q (fun hc1 => ?_) (fun hc1 => ?_)))))))
 ·refine Ws (Wr ?_)
  refine aI (Bv false) ak (On (bT z1 J ⟨ah.sc,J⟩ J))
 ·refine aC.skip (Ws (Ws (Wr ?_)))
  refine aI (Iv 0) ak (On (aC.block ?_))
  refine aC.ql (id:=0) (OA a b) (fun s2 => ([(0,Cc (xF aQ a)),(1,Cc (xF aQ b)),(5,Iv s2)],[])) (fun b11 => ([],[])) (lI Try.prog Try.f155.results.toList [] [] (fun (t:Bool) => [.c (bC t)]) (fun (t:Bool) => [])) ?_ (aj.of z3 J) Q (fun b11 _ => ?_) qj
  ·intro s2
   unfold OA
   refine Ws (Ws (Wr ?_))
   refine aG (Iv s2) y4 (aG (Cc (xF aQ a)) y4 (au (LT.gB Q iK) Q Q Q (aZ LT.lss y5 (On (aC.cond Q (fun hc12 => ?_) (fun hc12 => ?_))))))
   ·refine aC.skip (Ws (aC.block (Ws (aC.draw mixed ?_))))
    refine aY (Cc (xF aQ a)) y4 (aY (Iv s2) y4 (aN.bind fun oU xA => (bQ (LT.dZ (enc:=aQ) Q lJ xA jq) Q Q Q Q (bH (LT.iq Q bK) Q Q Q (aY (Cc (xF aQ b)) y4 (aY (Iv s2) y4 (aN.bind fun x14 yI => (bQ (LT.dZ (enc:=aQ) Q lJ yI jq) Q Q Q Q (bH (LT.iq Q bK) Q Q Q (jS LT.neq y5 (dF ?_)))))))))))
    refine aC.cond Q (fun rW => ?_) (fun rW => ?_)
    ·refine Ws (en [] [] J J (Wr (aI (Bv false) ak (On (aC.ret ⟨Q,qc z1 J ⟨ah.sc,J⟩ J⟩)))))
    ·refine aC.skip (aC.blk ?_)
     refine en [(0,Cc (xF aQ a)),(1,Cc (xF aQ b)),(5,Iv s2)] [] z3 J (Wr (aG (Iv s2) y4 (aZ LT.add aP (aI (Iv (aB (s2 + 1))) y4 (On (aX Q z3 J))))))
   ·refine gJ y2 J J
  ·refine Ws (Wr ?_)
   refine aI (Bv true) ak (On (bT z1 J ⟨ah.sc,J⟩ J))
theorem aDG (a:aW) (b:aW):FT Try.prog (I4 a b) 74 [.agg (ay a),.agg (ay b)] [] (fun (t:Bool) => [.c (bC t)]) (fun (t:Bool) => []) []:=by
 refine FT.of [] Try.func74 Try.ntmps74 Q y2 ?_
 intro w0 U0 R0 g0
 unfold I4
 refine Ws (Wr ?_)
 refine fZ 21 (.agg (ay a)) ai y5 (fZ 22 (.agg (ay b)) ai y5 (aI (Bv false) ak (On (Ws ?_))))
 refine aC.eG (fun j10 => ([(4,Bv j10)],[])) ?_ (fun j10 _ => ?_)
 ·refine aC.draw mixed (bV (bD (ay a) Q bP ax ai) Q Q Q Q (aN.bind fun r11 wH => (aN.pure (bU [.agg (ay a)] (uT a r11 wH) uO (jd y3) J y3) z2 J Q Q (aY (Bv r11) y4 (aN.split (fun oG => ?_) (fun oG => ?_))))))
  ·refine bV (bD (ay b) Q bP ax ai) Q Q (gH oG Q Q) Q (aN.bind fun r13 uo => (aN.pure (bU [.agg (ay b)] (uT b r13 uo) uO (jd y3) J y3) z2 J (gH oG Q Q) Q (gW (Bv r13) oG y5 (aY (Bv r13) y4 (aN.split (fun gV => ?_) (fun gV => ?_))))))
   ·refine bH (LT.eu Q jv) Q (gH gV Q Q) Q (bV (bD (dI a.Graph) Q iI dX dM) Q Q (gH gV Q Q) Q (bH (LT.eu Q jv) Q (gH gV Q Q) Q (bV (bD (dI b.Graph) Q iI dX dM) Q Q (gH gV Q Q) Q (aN.bind fun iT yF => (aN.pure (bU [.agg (dI a.Graph),.agg (dI b.Graph)] (aDH a.Graph b.Graph iT yF) Yw (DX y4) J y3) z3 J (gH gV Q Q) Q (gW (Bv iT) gV y5 (aY (Bv iT) y4 (aN.split (fun hb16 => ?_) (fun hb16 => ?_)))))))))
    ·refine bV (bD (ay a) Q bP ax ai) Q Q (gH hb16 Q Q) Q (aN.bind fun kL AY => (aN.step (bU [.agg (ay a)] (Fw.Fn.ren [(0,27)] (YJ a kL AY) Q) Uh (jd y3) J y3) z2 J (gH hb16 Q Q) Q (bV (bD (ay b) Q bP ax ai) Q Q (gH hb16 Q Q) Q (aN.bind fun oP Lm => (aN.step (bU [.agg (ay b)] (Fw.Fn.ren [(0,29)] (YJ b oP Lm) Q) Uh (jd y3) J y3) z2 J (gH hb16 Q Q) Q (aN.bind fun pV Ed => (aN.pure (cF [.c (lo 27 kL.length),.c (lo 29 oP.length)] [(27,pR 3 aQ kL),(29,pR 3 aQ oP)] (aDR kL oP pV Ed) Y4 (.cons (.c (.dG Q Q)) (.cons (.c (.dG Q Q)) .nil)) J y3) z3 z2 (gH hb16 Q Q) Q (gW (Bv pV) hb16 y5 (bH (LT.assign (v:=(Bv pV)) Q) Q Q Q (dF (aX Q z1 J)))))))))))
    ·refine aS hb16 y3 (aS hb16 y3 (aS hb16 y3 (aS hb16 y3 (aS hb16 y3 (dD (Bv false) hb16 aP (bH (LT.assign (v:=(Bv false)) Q) Q Q Q (dF (aX Q z1 J))))))))
   ·refine aS gV y3 (aS gV y3 (aS gV y3 (aS gV y3 (aS gV y3 (dD (Bv false) gV aP (aY (Bv false) y4 (aH y3 (aH y3 (aH y3 (aH y3 (aH y3 ?_)))))))))))
    refine dD (Bv false) Q aP (bH (LT.assign (v:=(Bv false)) Q) Q Q Q (dF (aX Q z1 J)))
  ·refine aS oG y3 (aS oG y3 (dD (Bv false) oG aP (aY (Bv false) y4 (aH y3 (aH y3 (aH y3 (aH y3 (aH y3 (dD (Bv false) Q aP (aY (Bv false) y4 (aH y3 ?_)))))))))))
   refine aH y3 (aH y3 (aH y3 (aH y3 (dD (Bv false) Q aP (bH (LT.assign (v:=(Bv false)) Q) Q Q Q (dF (aX Q z1 J)))))))
 ·refine bT z1 J ⟨ah.sc,J⟩ J
theorem Tv (f:aW):FT Try.prog (CU f) 107 [.agg (ay f)] [] (fun (t:aW) => [.agg [iC t.Graph.aF,lo 0 t.Graph.aA.length,lo 1 t.Places.length]]) (fun (t:aW) => [(0,pR 96 aK t.Graph.aA),(1,pR 82 aJ t.Places)]) [0,1]:=by
 refine FT.of [] Try.func107 Try.ntmps107 Q y2 ?_
 intro w0 U0 R0 g0
 unfold CU
 refine Ws (Wr ?_)
 refine fZ 21 (.agg (ay f)) ai y5 (dQ 22 [iC 0,sC aO,sC aO] iG y6 (On (Ws (aC.draw mixed ?_))))
 refine bH (LT.eu Q jv) Q Q Q (bV (bD (dI f.Graph) Q iI dX dM) Q Q Q Q (aN.bind fun r1 hr1 => (aN.step (bU [.agg (dI f.Graph)] (Fw.Fn.ren [(0,24)] (aKQ f.Graph r1 hr1) Q) aDz (qV y2) J y3) z2 J Q Q (zW (gy 25 aJ [] [] lQ kM y7) Q Q (dw (xF aJ f.Places) fJ fV bI (aN.bind fun u2 hu2 => (iY (LT.BM (enc:=aJ) Q  Q lQ kM Q (by decide) (by decide) (fun _ => Q) (jw hu2)) Q Q Q Q Q (bQ (LT.build [(0,.tmp 5,.agg [iC r1.aF,lo 24 r1.aA.length]),(1,.tmp 9,.c (lo 25 ((([]:List bG) ++ f.Places).length)))] Q Q yN iG Q Q Q) Q Q Q Q (iY (stA [iC r1.aF,lo 24 r1.aA.length,lo 25 ((([]:List bG) ++ f.Places).length)] Q Q ax ai) Q Q Q Q Q (dF ?_))))))))))
 refine en [(2,Cc (.pl 22 0))] [(22,.row 29 [[iC r1.aF,lo 24 r1.aA.length,lo 25 ((([]:List bG) ++ f.Places).length)]]),(24,pR 96 aK r1.aA),(25,pR 82 aJ (([]:List bG) ++ f.Places))] z1 z3 (aC.ent (aj.mv 24 0 Q Q) (aC.ent (aj.mv 25 1 Q Q) (en [(2,Cc (.pl 22 0))] [(0,pR 96 aK r1.aA),(1,pR 82 aJ (([]:List bG) ++ f.Places)),(22,.row 29 [[iC r1.aF,lo 0 r1.aA.length,lo 1 ((([]:List bG) ++ f.Places).length)]])] z1 z3 (bT ⟨⟨_,_,_,Q,Q,Q,bP,ai,_,fE ax⟩,J⟩ z2 ⟨⟨ah.sc,J,J,J⟩,J⟩ ⟨bg.dO iP,bg.dO jo,J⟩))))
theorem aKa (jF:(List aV)) (kF:(List aV)):FT Try.prog (NR jF kF) 181 [.c (xF aK jF),.c (xF aK kF)] [] (fun (t:Bool) => [.c (bC t)]) (fun (t:Bool) => []) []:=by
 refine FT.of [] Try.func181 Try.ntmps181 Q y2 ?_
 intro w0 U0 R0 g0
 unfold NR
 refine Ws (Wr ?_)
 refine aI (Bv false) ak (On (Ws (Ws (Wr ?_))))
 refine aG (Cc (xF aK jF)) y4 (au (LT.gB Q iU) Q Q Q (aG (Cc (xF aK kF)) y4 (au (LT.gB Q iU) Q Q Q (aZ LT.neq y5 (On (aC.cond Q (fun hc1 => ?_) (fun hc1 => ?_)))))))
 ·refine Ws (Wr ?_)
  refine aI (Bv false) ak (On (bT z1 J ⟨ah.sc,J⟩ J))
 ·refine aC.skip (Ws (Ws (Wr ?_)))
  refine aG (Cc (xF aK jF)) y4 (au (LT.gB Q iU) Q Q Q (aG (Iv 0) ak (On (aC.block ?_))))
  refine aC.ql (id:=0) (NS jF kF) (fun s2 => ([(0,Cc (xF aK jF)),(1,Cc (xF aK kF)),(12,Iv (jF.length:Int)),(13,Iv s2)],[])) (fun b11 => ([],[])) (lI Try.prog Try.f181.results.toList [] [] (fun (t:Bool) => [.c (bC t)]) (fun (t:Bool) => [])) ?_ (aj.of z4 J) Q (fun b11 _ => ?_) qj
  ·intro s2
   unfold NS
   refine Ws (Wr ?_)
   refine aZ LT.lss y5 (On (Ws ?_))
   refine aC.cond Q (fun hc12 => ?_) (fun hc12 => ?_)
   ·refine aC.skip (Ws (aC.block (Ws (Wr ?_))))
    refine aG (Iv s2) y4 (aI (Iv s2) y4 (On (Ws (aC.draw mixed ?_))))
    refine aY (Cc (xF aK jF)) y4 (aY (Iv s2) y4 (aN.bind fun oU xA => (bQ (LT.dZ (enc:=aK) Q oL xA fG) Q Q Q Q (bH (kC Q lU jW fG) Q Q Q (aY (Cc (xF aK kF)) y4 (aY (Iv s2) y4 (aN.bind fun x14 yI => (bQ (LT.dZ (enc:=aK) Q oL yI fG) Q Q Q Q (bH (kC Q lU jW fG) Q Q Q (bQ (LT.Jf [oU.A,oU.B] [x14.A,x14.B] Q NC Q Q) Q Q Q Q (dF ?_)))))))))))
    refine aC.cond Q (fun rW => ?_) (fun rW => ?_)
    ·refine Ws (en [] [] J J (Wr (aI (Bv false) ak (On (aC.ret ⟨Q,qc z1 J ⟨ah.sc,J⟩ J⟩)))))
    ·refine aC.skip (aC.blk ?_)
     refine en [(0,Cc (xF aK jF)),(1,Cc (xF aK kF)),(12,Iv (jF.length:Int)),(13,Iv s2)] [] z4 J (Wr (aZ LT.add aP (aG (Iv (aB (s2 + 1))) y4 (On (aX Q z4 J)))))
   ·refine gJ y2 J J
  ·refine Ws (Wr ?_)
   refine aI (Bv true) ak (On (bT z1 J ⟨ah.sc,J⟩ J))
theorem aC4 (a:bM) (b:bM):FT Try.prog (II a b) 131 [.agg (dI a),.agg (dI b)] [] (fun (t:Bool) => [.c (bC t)]) (fun (t:Bool) => []) []:=by
 refine FT.of [] Try.func131 Try.ntmps131 Q y2 ?_
 intro w0 U0 R0 g0
 unfold II
 refine Ws (Wr ?_)
 refine fZ 21 (.agg (dI a)) dM y5 (fZ 22 (.agg (dI b)) dM y5 (aI (Bv false) ak (On (Ws ?_))))
 refine aC.eG (fun j3 => ([(4,Bv j3)],[])) ?_ (fun j3 _ => ?_)
 ·refine Wr (dR (iC a.aF) lV bK bI (dR (iC b.aF) lV bK bI (aZ LT.eql y5 (aG (Bv (a.aF == b.aF)) y4 (aT.split (fun hb4 => ?_) (fun hb4 => ?_))))))
  ·refine jf (xF aK a.aA) gq iQ hb4 gm (jf (xF aK b.aA) gq iQ hb4 gm (aU fun r5 nU => (aT.pure (bU [.c (xF aK a.aA),.c (xF aK b.aA)] (aKa a.aA b.aA r5 nU) aEH (jG y2) J y3) z3 J (gH hb4 Q Q) Q (dn (Bv r5) hb4 y5 (aI (Bv r5) y4 (On (aX Q z1 J)))))))
  ·refine af hb4 y5 (af hb4 y5 (af hb4 y5 (af hb4 y5 (af hb4 y5 (gK (Bv false) hb4 aP (aI (Bv false) y4 (On (aX Q z1 J))))))))
 ·refine bT z1 J ⟨ah.sc,J⟩ J
end Go.Proofs.Ytdmlaldifbmkpaa
end
