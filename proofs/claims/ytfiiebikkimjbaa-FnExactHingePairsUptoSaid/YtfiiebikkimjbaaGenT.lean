/- Facts about the types and functions of the program. Written by a program of mine. -/
import Derived.Test.YtfiiebikkimjbaaGenM
import Derived.Test.YtfiiebikkimjbaaProg
set_option linter.unusedVariables false
set_option linter.unusedSimpArgs false
set_option linter.unnecessarySimpa false
open Go Go.Fw
namespace Go.Proofs.Ytfiiebikkimjbaa
theorem ag120 : agB Try.prog 120 = some true := by kernel_rfl
theorem ag132 : agB Try.prog 132 = some true := by kernel_rfl
theorem ag135 : agB Try.prog 135 = some true := by kernel_rfl
theorem ag139 : agB Try.prog 139 = some true := by kernel_rfl
theorem ag22 : agB Try.prog 22 = some false := by kernel_rfl
theorem ag24 : agB Try.prog 24 = some true := by kernel_rfl
theorem ag26 : agB Try.prog 26 = some false := by kernel_rfl
theorem ag28 : agB Try.prog 28 = some false := by kernel_rfl
theorem ag3 : agB Try.prog 3 = some false := by kernel_rfl
theorem ag30 : agB Try.prog 30 = some true := by kernel_rfl
theorem ag39 : agB Try.prog 39 = some false := by kernel_rfl
theorem ag4 : agB Try.prog 4 = some false := by kernel_rfl
theorem ag41 : agB Try.prog 41 = some true := by kernel_rfl
theorem ag44 : agB Try.prog 44 = some false := by kernel_rfl
theorem ag46 : agB Try.prog 46 = some true := by kernel_rfl
theorem ag5 : agB Try.prog 5 = some false := by kernel_rfl
theorem ag54 : agB Try.prog 54 = some false := by kernel_rfl
theorem ag62 : agB Try.prog 62 = some true := by kernel_rfl
theorem ag66 : agB Try.prog 66 = some true := by kernel_rfl
theorem ag75 : agB Try.prog 75 = some false := by kernel_rfl
theorem ag88 : agB Try.prog 88 = some true := by kernel_rfl
theorem cb100 : callB Try.prog 100 = true := by kernel_rfl
theorem cb101 : callB Try.prog 101 = true := by kernel_rfl
theorem cb102 : callB Try.prog 102 = true := by kernel_rfl
theorem cb103 : callB Try.prog 103 = true := by kernel_rfl
theorem cb104 : callB Try.prog 104 = true := by kernel_rfl
theorem cb105 : callB Try.prog 105 = true := by kernel_rfl
theorem cb106 : callB Try.prog 106 = true := by kernel_rfl
theorem cb107 : callB Try.prog 107 = true := by kernel_rfl
theorem cb108 : callB Try.prog 108 = true := by kernel_rfl
theorem cb109 : callB Try.prog 109 = true := by kernel_rfl
theorem cb110 : callB Try.prog 110 = true := by kernel_rfl
theorem cb111 : callB Try.prog 111 = true := by kernel_rfl
theorem cb112 : callB Try.prog 112 = true := by kernel_rfl
theorem cb113 : callB Try.prog 113 = true := by kernel_rfl
theorem cb114 : callB Try.prog 114 = true := by kernel_rfl
theorem cb115 : callB Try.prog 115 = true := by kernel_rfl
theorem cb116 : callB Try.prog 116 = true := by kernel_rfl
theorem cb117 : callB Try.prog 117 = true := by kernel_rfl
theorem cb118 : callB Try.prog 118 = true := by kernel_rfl
theorem cb119 : callB Try.prog 119 = true := by kernel_rfl
theorem cb120 : callB Try.prog 120 = true := by kernel_rfl
theorem cb121 : callB Try.prog 121 = true := by kernel_rfl
theorem cb122 : callB Try.prog 122 = true := by kernel_rfl
theorem cb123 : callB Try.prog 123 = true := by kernel_rfl
theorem cb124 : callB Try.prog 124 = true := by kernel_rfl
theorem cb125 : callB Try.prog 125 = true := by kernel_rfl
theorem cb126 : callB Try.prog 126 = true := by kernel_rfl
theorem cb127 : callB Try.prog 127 = true := by kernel_rfl
theorem cb128 : callB Try.prog 128 = true := by kernel_rfl
theorem cb129 : callB Try.prog 129 = true := by kernel_rfl
theorem cb130 : callB Try.prog 130 = true := by kernel_rfl
theorem cb131 : callB Try.prog 131 = true := by kernel_rfl
theorem cb133 : callB Try.prog 133 = true := by kernel_rfl
theorem cb134 : callB Try.prog 134 = true := by kernel_rfl
theorem cb135 : callB Try.prog 135 = true := by kernel_rfl
theorem cb136 : callB Try.prog 136 = true := by kernel_rfl
theorem cb137 : callB Try.prog 137 = true := by kernel_rfl
theorem cb138 : callB Try.prog 138 = true := by kernel_rfl
theorem cb139 : callB Try.prog 139 = true := by kernel_rfl
theorem cb141 : callB Try.prog 141 = true := by kernel_rfl
theorem cb142 : callB Try.prog 142 = true := by kernel_rfl
theorem cb144 : callB Try.prog 144 = true := by kernel_rfl
theorem cb148 : callB Try.prog 148 = true := by kernel_rfl
theorem cb149 : callB Try.prog 149 = true := by kernel_rfl
theorem cb15 : callB Try.prog 15 = true := by kernel_rfl
theorem cb150 : callB Try.prog 150 = true := by kernel_rfl
theorem cb152 : callB Try.prog 152 = true := by kernel_rfl
theorem cb153 : callB Try.prog 153 = true := by kernel_rfl
theorem cb154 : callB Try.prog 154 = true := by kernel_rfl
theorem cb155 : callB Try.prog 155 = true := by kernel_rfl
theorem cb157 : callB Try.prog 157 = true := by kernel_rfl
theorem cb158 : callB Try.prog 158 = true := by kernel_rfl
theorem cb159 : callB Try.prog 159 = true := by kernel_rfl
theorem cb16 : callB Try.prog 16 = true := by kernel_rfl
theorem cb160 : callB Try.prog 160 = true := by kernel_rfl
theorem cb161 : callB Try.prog 161 = true := by kernel_rfl
theorem cb162 : callB Try.prog 162 = true := by kernel_rfl
theorem cb163 : callB Try.prog 163 = true := by kernel_rfl
theorem cb164 : callB Try.prog 164 = true := by kernel_rfl
theorem cb165 : callB Try.prog 165 = true := by kernel_rfl
theorem cb166 : callB Try.prog 166 = true := by kernel_rfl
theorem cb167 : callB Try.prog 167 = true := by kernel_rfl
theorem cb168 : callB Try.prog 168 = true := by kernel_rfl
theorem cb169 : callB Try.prog 169 = true := by kernel_rfl
theorem cb17 : callB Try.prog 17 = true := by kernel_rfl
theorem cb170 : callB Try.prog 170 = true := by kernel_rfl
theorem cb171 : callB Try.prog 171 = true := by kernel_rfl
theorem cb172 : callB Try.prog 172 = true := by kernel_rfl
theorem cb173 : callB Try.prog 173 = true := by kernel_rfl
theorem cb174 : callB Try.prog 174 = true := by kernel_rfl
theorem cb175 : callB Try.prog 175 = true := by kernel_rfl
theorem cb176 : callB Try.prog 176 = true := by kernel_rfl
theorem cb177 : callB Try.prog 177 = true := by kernel_rfl
theorem cb178 : callB Try.prog 178 = true := by kernel_rfl
theorem cb179 : callB Try.prog 179 = true := by kernel_rfl
theorem cb18 : callB Try.prog 18 = true := by kernel_rfl
theorem cb180 : callB Try.prog 180 = true := by kernel_rfl
theorem cb181 : callB Try.prog 181 = true := by kernel_rfl
theorem cb182 : callB Try.prog 182 = true := by kernel_rfl
theorem cb183 : callB Try.prog 183 = true := by kernel_rfl
theorem cb184 : callB Try.prog 184 = true := by kernel_rfl
theorem cb185 : callB Try.prog 185 = true := by kernel_rfl
theorem cb186 : callB Try.prog 186 = true := by kernel_rfl
theorem cb187 : callB Try.prog 187 = true := by kernel_rfl
theorem cb188 : callB Try.prog 188 = true := by kernel_rfl
theorem cb189 : callB Try.prog 189 = true := by kernel_rfl
theorem cb19 : callB Try.prog 19 = true := by kernel_rfl
theorem cb190 : callB Try.prog 190 = true := by kernel_rfl
theorem cb191 : callB Try.prog 191 = true := by kernel_rfl
theorem cb192 : callB Try.prog 192 = true := by kernel_rfl
theorem cb193 : callB Try.prog 193 = true := by kernel_rfl
theorem cb194 : callB Try.prog 194 = true := by kernel_rfl
theorem cb195 : callB Try.prog 195 = true := by kernel_rfl
theorem cb196 : callB Try.prog 196 = true := by kernel_rfl
theorem cb198 : callB Try.prog 198 = true := by kernel_rfl
theorem cb199 : callB Try.prog 199 = true := by kernel_rfl
theorem cb20 : callB Try.prog 20 = true := by kernel_rfl
theorem cb200 : callB Try.prog 200 = true := by kernel_rfl
theorem cb201 : callB Try.prog 201 = true := by kernel_rfl
theorem cb202 : callB Try.prog 202 = true := by kernel_rfl
theorem cb203 : callB Try.prog 203 = true := by kernel_rfl
theorem cb204 : callB Try.prog 204 = true := by kernel_rfl
theorem cb205 : callB Try.prog 205 = true := by kernel_rfl
theorem cb206 : callB Try.prog 206 = true := by kernel_rfl
theorem cb207 : callB Try.prog 207 = true := by kernel_rfl
theorem cb208 : callB Try.prog 208 = true := by kernel_rfl
theorem cb209 : callB Try.prog 209 = true := by kernel_rfl
theorem cb21 : callB Try.prog 21 = true := by kernel_rfl
theorem cb210 : callB Try.prog 210 = true := by kernel_rfl
theorem cb211 : callB Try.prog 211 = true := by kernel_rfl
theorem cb212 : callB Try.prog 212 = true := by kernel_rfl
theorem cb213 : callB Try.prog 213 = true := by kernel_rfl
theorem cb214 : callB Try.prog 214 = true := by kernel_rfl
theorem cb215 : callB Try.prog 215 = true := by kernel_rfl
theorem cb216 : callB Try.prog 216 = true := by kernel_rfl
theorem cb217 : callB Try.prog 217 = true := by kernel_rfl
theorem cb218 : callB Try.prog 218 = true := by kernel_rfl
theorem cb219 : callB Try.prog 219 = true := by kernel_rfl
theorem cb22 : callB Try.prog 22 = true := by kernel_rfl
theorem cb220 : callB Try.prog 220 = true := by kernel_rfl
theorem cb221 : callB Try.prog 221 = true := by kernel_rfl
theorem cb222 : callB Try.prog 222 = true := by kernel_rfl
theorem cb223 : callB Try.prog 223 = true := by kernel_rfl
theorem cb224 : callB Try.prog 224 = true := by kernel_rfl
theorem cb225 : callB Try.prog 225 = true := by kernel_rfl
theorem cb226 : callB Try.prog 226 = true := by kernel_rfl
theorem cb227 : callB Try.prog 227 = true := by kernel_rfl
theorem cb228 : callB Try.prog 228 = true := by kernel_rfl
theorem cb229 : callB Try.prog 229 = true := by kernel_rfl
theorem cb23 : callB Try.prog 23 = true := by kernel_rfl
theorem cb230 : callB Try.prog 230 = true := by kernel_rfl
theorem cb231 : callB Try.prog 231 = true := by kernel_rfl
theorem cb232 : callB Try.prog 232 = true := by kernel_rfl
theorem cb24 : callB Try.prog 24 = true := by kernel_rfl
theorem cb25 : callB Try.prog 25 = true := by kernel_rfl
theorem cb26 : callB Try.prog 26 = true := by kernel_rfl
theorem cb27 : callB Try.prog 27 = true := by kernel_rfl
theorem cb28 : callB Try.prog 28 = true := by kernel_rfl
theorem cb29 : callB Try.prog 29 = true := by kernel_rfl
theorem cb30 : callB Try.prog 30 = true := by kernel_rfl
theorem cb31 : callB Try.prog 31 = true := by kernel_rfl
theorem cb32 : callB Try.prog 32 = true := by kernel_rfl
theorem cb33 : callB Try.prog 33 = true := by kernel_rfl
theorem cb34 : callB Try.prog 34 = true := by kernel_rfl
theorem cb35 : callB Try.prog 35 = true := by kernel_rfl
theorem cb36 : callB Try.prog 36 = true := by kernel_rfl
theorem cb37 : callB Try.prog 37 = true := by kernel_rfl
theorem cb38 : callB Try.prog 38 = true := by kernel_rfl
theorem cb39 : callB Try.prog 39 = true := by kernel_rfl
theorem cb40 : callB Try.prog 40 = true := by kernel_rfl
theorem cb41 : callB Try.prog 41 = true := by kernel_rfl
theorem cb42 : callB Try.prog 42 = true := by kernel_rfl
theorem cb43 : callB Try.prog 43 = true := by kernel_rfl
theorem cb44 : callB Try.prog 44 = true := by kernel_rfl
theorem cb45 : callB Try.prog 45 = true := by kernel_rfl
theorem cb46 : callB Try.prog 46 = true := by kernel_rfl
theorem cb47 : callB Try.prog 47 = true := by kernel_rfl
theorem cb48 : callB Try.prog 48 = true := by kernel_rfl
theorem cb51 : callB Try.prog 51 = true := by kernel_rfl
theorem cb52 : callB Try.prog 52 = true := by kernel_rfl
theorem cb55 : callB Try.prog 55 = true := by kernel_rfl
theorem cb57 : callB Try.prog 57 = true := by kernel_rfl
theorem cb59 : callB Try.prog 59 = true := by kernel_rfl
theorem cb60 : callB Try.prog 60 = true := by kernel_rfl
theorem cb62 : callB Try.prog 62 = true := by kernel_rfl
theorem cb65 : callB Try.prog 65 = true := by kernel_rfl
theorem cb69 : callB Try.prog 69 = true := by kernel_rfl
theorem cb70 : callB Try.prog 70 = true := by kernel_rfl
theorem cb73 : callB Try.prog 73 = true := by kernel_rfl
theorem cb74 : callB Try.prog 74 = true := by kernel_rfl
theorem cb77 : callB Try.prog 77 = true := by kernel_rfl
theorem cb78 : callB Try.prog 78 = true := by kernel_rfl
theorem cb79 : callB Try.prog 79 = true := by kernel_rfl
theorem cb80 : callB Try.prog 80 = true := by kernel_rfl
theorem cb81 : callB Try.prog 81 = true := by kernel_rfl
theorem cb84 : callB Try.prog 84 = true := by kernel_rfl
theorem cb85 : callB Try.prog 85 = true := by kernel_rfl
theorem cb90 : callB Try.prog 90 = true := by kernel_rfl
theorem cb91 : callB Try.prog 91 = true := by kernel_rfl
theorem cb92 : callB Try.prog 92 = true := by kernel_rfl
theorem cb93 : callB Try.prog 93 = true := by kernel_rfl
theorem cb94 : callB Try.prog 94 = true := by kernel_rfl
theorem cb95 : callB Try.prog 95 = true := by kernel_rfl
theorem cb96 : callB Try.prog 96 = true := by kernel_rfl
theorem cb97 : callB Try.prog 97 = true := by kernel_rfl
theorem cb98 : callB Try.prog 98 = true := by kernel_rfl
theorem cb99 : callB Try.prog 99 = true := by kernel_rfl
theorem el152 : elB Try.prog 152 = some 4 := by kernel_rfl
theorem el22 : elB Try.prog 22 = some 132 := by kernel_rfl
theorem el26 : elB Try.prog 26 = some 54 := by kernel_rfl
theorem el28 : elB Try.prog 28 = some 88 := by kernel_rfl
theorem el39 : elB Try.prog 39 = some 139 := by kernel_rfl
theorem el44 : elB Try.prog 44 = some 120 := by kernel_rfl
theorem el54 : elB Try.prog 54 = some 3 := by kernel_rfl
theorem el75 : elB Try.prog 75 = some 5 := by kernel_rfl
theorem fo120_0 : foB Try.prog 120 0 = some 0 := by kernel_rfl
theorem fo120_1 : foB Try.prog 120 1 = some 1 := by kernel_rfl
theorem fo132_0 : foB Try.prog 132 0 = some 0 := by kernel_rfl
theorem fo132_1 : foB Try.prog 132 1 = some 1 := by kernel_rfl
theorem fo135_0 : foB Try.prog 135 0 = some 0 := by kernel_rfl
theorem fo135_1 : foB Try.prog 135 1 = some 1 := by kernel_rfl
theorem fo135_2 : foB Try.prog 135 2 = some 2 := by kernel_rfl
theorem fo139_0 : foB Try.prog 139 0 = some 0 := by kernel_rfl
theorem fo139_1 : foB Try.prog 139 1 = some 1 := by kernel_rfl
theorem fo147_0 : foB Try.prog 147 0 = some 0 := by kernel_rfl
theorem fo147_1 : foB Try.prog 147 1 = some 1 := by kernel_rfl
theorem fo147_2 : foB Try.prog 147 2 = some 2 := by kernel_rfl
theorem fo24_0 : foB Try.prog 24 0 = some 0 := by kernel_rfl
theorem fo24_1 : foB Try.prog 24 1 = some 1 := by kernel_rfl
theorem fo30_0 : foB Try.prog 30 0 = some 0 := by kernel_rfl
theorem fo30_1 : foB Try.prog 30 1 = some 1 := by kernel_rfl
theorem fo41_0 : foB Try.prog 41 0 = some 0 := by kernel_rfl
theorem fo41_1 : foB Try.prog 41 1 = some 2 := by kernel_rfl
theorem fo46_0 : foB Try.prog 46 0 = some 0 := by kernel_rfl
theorem fo46_1 : foB Try.prog 46 1 = some 2 := by kernel_rfl
theorem fo62_0 : foB Try.prog 62 0 = some 0 := by kernel_rfl
theorem fo62_1 : foB Try.prog 62 1 = some 3 := by kernel_rfl
theorem fo66_0 : foB Try.prog 66 0 = some 0 := by kernel_rfl
theorem fo66_1 : foB Try.prog 66 1 = some 3 := by kernel_rfl
theorem fo88_0 : foB Try.prog 88 0 = some 0 := by kernel_rfl
theorem fo88_1 : foB Try.prog 88 1 = some 1 := by kernel_rfl
theorem inf120 : (Try.prog.info? 120).isSome = true := by kernel_rfl
theorem inf132 : (Try.prog.info? 132).isSome = true := by kernel_rfl
theorem inf135 : (Try.prog.info? 135).isSome = true := by kernel_rfl
theorem inf139 : (Try.prog.info? 139).isSome = true := by kernel_rfl
theorem inf24 : (Try.prog.info? 24).isSome = true := by kernel_rfl
theorem inf26 : (Try.prog.info? 26).isSome = true := by kernel_rfl
theorem inf28 : (Try.prog.info? 28).isSome = true := by kernel_rfl
theorem inf3 : (Try.prog.info? 3).isSome = true := by kernel_rfl
theorem inf30 : (Try.prog.info? 30).isSome = true := by kernel_rfl
theorem inf4 : (Try.prog.info? 4).isSome = true := by kernel_rfl
theorem inf41 : (Try.prog.info? 41).isSome = true := by kernel_rfl
theorem inf44 : (Try.prog.info? 44).isSome = true := by kernel_rfl
theorem inf46 : (Try.prog.info? 46).isSome = true := by kernel_rfl
theorem inf54 : (Try.prog.info? 54).isSome = true := by kernel_rfl
theorem inf62 : (Try.prog.info? 62).isSome = true := by kernel_rfl
theorem inf66 : (Try.prog.info? 66).isSome = true := by kernel_rfl
theorem inf88 : (Try.prog.info? 88).isSome = true := by kernel_rfl
theorem ist120 : istB Try.prog 120 = some 2 := by kernel_rfl
theorem ist88 : istB Try.prog 88 = some 2 := by kernel_rfl
theorem map176 : mapB Try.prog 176 = some (3, 3) := by kernel_rfl
theorem mixed : Try.prog.follows .mixedOrders = true := by kernel_rfl
theorem pl120 : plB Try.prog 120 = some [(0, 1), (1, 1)] := by kernel_rfl
theorem pl135 : plB Try.prog 135 = some [(0, 1), (1, 1), (2, 1)] := by kernel_rfl
theorem pl30 : plB Try.prog 30 = some [(0, 1), (1, 1)] := by kernel_rfl
theorem pl46 : plB Try.prog 46 = some [(0, 2), (2, 1)] := by kernel_rfl
theorem pl88 : plB Try.prog 88 = some [(0, 1), (1, 1)] := by kernel_rfl
theorem sz120 : szP Try.prog 120 = 2 := by kernel_rfl
theorem sz132 : szP Try.prog 132 = 2 := by kernel_rfl
theorem sz135 : szP Try.prog 135 = 3 := by kernel_rfl
theorem sz139 : szP Try.prog 139 = 2 := by kernel_rfl
theorem sz24 : szP Try.prog 24 = 2 := by kernel_rfl
theorem sz26 : szP Try.prog 26 = 1 := by kernel_rfl
theorem sz28 : szP Try.prog 28 = 1 := by kernel_rfl
theorem sz3 : szP Try.prog 3 = 1 := by kernel_rfl
theorem sz30 : szP Try.prog 30 = 2 := by kernel_rfl
theorem sz4 : szP Try.prog 4 = 1 := by kernel_rfl
theorem sz41 : szP Try.prog 41 = 3 := by kernel_rfl
theorem sz44 : szP Try.prog 44 = 1 := by kernel_rfl
theorem sz46 : szP Try.prog 46 = 3 := by kernel_rfl
theorem sz5 : szP Try.prog 5 = 1 := by kernel_rfl
theorem sz54 : szP Try.prog 54 = 1 := by kernel_rfl
theorem sz62 : szP Try.prog 62 = 4 := by kernel_rfl
theorem sz66 : szP Try.prog 66 = 4 := by kernel_rfl
theorem sz88 : szP Try.prog 88 = 2 := by kernel_rfl
theorem ti111 : TI Try.prog 111 .nilFunc 1 8 := by unfold TI; kernel_rfl
theorem ti120 : TI Try.prog 120 (.agg #[(.int .i64 0), (.int .i64 0)]) 2 16 := by unfold TI; kernel_rfl
theorem ti135 : TI Try.prog 135 (.agg #[(.slice none 0 0), (.slice none 0 0), (.slice none 0 0)]) 3 72 := by unfold TI; kernel_rfl
theorem ti26 : TI Try.prog 26 (.slice none 0 0) 1 24 := by unfold TI; kernel_rfl
theorem ti3 : TI Try.prog 3 (.int .i64 0) 1 8 := by unfold TI; kernel_rfl
theorem ti30 : TI Try.prog 30 (.agg #[(.int .i64 0), (.slice none 0 0)]) 2 32 := by unfold TI; kernel_rfl
theorem ti4 : TI Try.prog 4 (.bool false) 1 1 := by unfold TI; kernel_rfl
theorem ti46 : TI Try.prog 46 (.agg #[(.int .i64 0), (.slice none 0 0), (.slice none 0 0)]) 3 56 := by unfold TI; kernel_rfl
theorem ti54 : TI Try.prog 54 (.slice none 0 0) 1 24 := by unfold TI; kernel_rfl
theorem ti66 : TI Try.prog 66 (.agg #[(.int .i64 0), (.slice none 0 0), (.slice none 0 0), (.slice none 0 0)]) 4 80 := by unfold TI; kernel_rfl
theorem ti88 : TI Try.prog 88 (.agg #[(.int .i64 0), (.int .i64 0)]) 2 16 := by unfold TI; kernel_rfl
theorem und152 : Try.prog.underlying 152 = some (.slice 4) := by kernel_rfl
theorem und22 : Try.prog.underlying 22 = some (.slice 132) := by kernel_rfl
theorem und26 : Try.prog.underlying 26 = some (.slice 54) := by kernel_rfl
theorem und28 : Try.prog.underlying 28 = some (.slice 88) := by kernel_rfl
theorem und3 : Try.prog.underlying 3 = some (.int .i64) := by kernel_rfl
theorem und39 : Try.prog.underlying 39 = some (.slice 139) := by kernel_rfl
theorem und4 : Try.prog.underlying 4 = some .bool := by kernel_rfl
theorem und44 : Try.prog.underlying 44 = some (.slice 120) := by kernel_rfl
theorem und54 : Try.prog.underlying 54 = some (.slice 3) := by kernel_rfl
theorem und75 : Try.prog.underlying 75 = some (.slice 5) := by kernel_rfl
theorem undS5 : (Try.prog.underlying 5).isSome = true := by kernel_rfl
end Go.Proofs.Ytfiiebikkimjbaa
