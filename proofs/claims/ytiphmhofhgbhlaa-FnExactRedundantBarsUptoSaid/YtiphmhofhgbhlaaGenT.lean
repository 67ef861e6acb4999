/- Facts about the types and functions of the program. Written by a program of mine. -/
import Derived.Test.YtiphmhofhgbhlaaGenM
import Derived.Test.YtiphmhofhgbhlaaProg
set_option linter.unusedVariables false
set_option linter.unusedSimpArgs false
set_option linter.unnecessarySimpa false
open Go Go.Fw
namespace Go.Proofs.Ytiphmhofhgbhlaa
theorem ag22 : agB Try.prog 22 = some false := by kernel_rfl
theorem ag24 : agB Try.prog 24 = some true := by kernel_rfl
theorem ag26 : agB Try.prog 26 = some false := by kernel_rfl
theorem ag28 : agB Try.prog 28 = some false := by kernel_rfl
theorem ag3 : agB Try.prog 3 = some false := by kernel_rfl
theorem ag30 : agB Try.prog 30 = some true := by kernel_rfl
theorem ag4 : agB Try.prog 4 = some false := by kernel_rfl
theorem ag60 : agB Try.prog 60 = some true := by kernel_rfl
theorem ag63 : agB Try.prog 63 = some true := by kernel_rfl
theorem ag68 : agB Try.prog 68 = some true := by kernel_rfl
theorem cb10 : callB Try.prog 10 = true := by kernel_rfl
theorem cb11 : callB Try.prog 11 = true := by kernel_rfl
theorem cb12 : callB Try.prog 12 = true := by kernel_rfl
theorem cb13 : callB Try.prog 13 = true := by kernel_rfl
theorem cb14 : callB Try.prog 14 = true := by kernel_rfl
theorem cb15 : callB Try.prog 15 = true := by kernel_rfl
theorem cb16 : callB Try.prog 16 = true := by kernel_rfl
theorem cb17 : callB Try.prog 17 = true := by kernel_rfl
theorem cb18 : callB Try.prog 18 = true := by kernel_rfl
theorem cb19 : callB Try.prog 19 = true := by kernel_rfl
theorem cb20 : callB Try.prog 20 = true := by kernel_rfl
theorem cb21 : callB Try.prog 21 = true := by kernel_rfl
theorem cb22 : callB Try.prog 22 = true := by kernel_rfl
theorem cb23 : callB Try.prog 23 = true := by kernel_rfl
theorem cb26 : callB Try.prog 26 = true := by kernel_rfl
theorem cb27 : callB Try.prog 27 = true := by kernel_rfl
theorem cb28 : callB Try.prog 28 = true := by kernel_rfl
theorem cb29 : callB Try.prog 29 = true := by kernel_rfl
theorem cb30 : callB Try.prog 30 = true := by kernel_rfl
theorem cb31 : callB Try.prog 31 = true := by kernel_rfl
theorem cb32 : callB Try.prog 32 = true := by kernel_rfl
theorem cb33 : callB Try.prog 33 = true := by kernel_rfl
theorem cb34 : callB Try.prog 34 = true := by kernel_rfl
theorem cb35 : callB Try.prog 35 = true := by kernel_rfl
theorem cb36 : callB Try.prog 36 = true := by kernel_rfl
theorem cb37 : callB Try.prog 37 = true := by kernel_rfl
theorem cb38 : callB Try.prog 38 = true := by kernel_rfl
theorem cb39 : callB Try.prog 39 = true := by kernel_rfl
theorem cb40 : callB Try.prog 40 = true := by kernel_rfl
theorem cb41 : callB Try.prog 41 = true := by kernel_rfl
theorem cb42 : callB Try.prog 42 = true := by kernel_rfl
theorem cb43 : callB Try.prog 43 = true := by kernel_rfl
theorem cb44 : callB Try.prog 44 = true := by kernel_rfl
theorem cb45 : callB Try.prog 45 = true := by kernel_rfl
theorem cb46 : callB Try.prog 46 = true := by kernel_rfl
theorem cb47 : callB Try.prog 47 = true := by kernel_rfl
theorem cb48 : callB Try.prog 48 = true := by kernel_rfl
theorem cb49 : callB Try.prog 49 = true := by kernel_rfl
theorem cb50 : callB Try.prog 50 = true := by kernel_rfl
theorem cb51 : callB Try.prog 51 = true := by kernel_rfl
theorem cb52 : callB Try.prog 52 = true := by kernel_rfl
theorem cb53 : callB Try.prog 53 = true := by kernel_rfl
theorem cb54 : callB Try.prog 54 = true := by kernel_rfl
theorem cb55 : callB Try.prog 55 = true := by kernel_rfl
theorem cb56 : callB Try.prog 56 = true := by kernel_rfl
theorem cb57 : callB Try.prog 57 = true := by kernel_rfl
theorem cb58 : callB Try.prog 58 = true := by kernel_rfl
theorem cb59 : callB Try.prog 59 = true := by kernel_rfl
theorem cb60 : callB Try.prog 60 = true := by kernel_rfl
theorem cb61 : callB Try.prog 61 = true := by kernel_rfl
theorem cb62 : callB Try.prog 62 = true := by kernel_rfl
theorem cb63 : callB Try.prog 63 = true := by kernel_rfl
theorem cb64 : callB Try.prog 64 = true := by kernel_rfl
theorem cb65 : callB Try.prog 65 = true := by kernel_rfl
theorem cb66 : callB Try.prog 66 = true := by kernel_rfl
theorem cb67 : callB Try.prog 67 = true := by kernel_rfl
theorem cb68 : callB Try.prog 68 = true := by kernel_rfl
theorem cb69 : callB Try.prog 69 = true := by kernel_rfl
theorem cb70 : callB Try.prog 70 = true := by kernel_rfl
theorem cb71 : callB Try.prog 71 = true := by kernel_rfl
theorem cb72 : callB Try.prog 72 = true := by kernel_rfl
theorem cb73 : callB Try.prog 73 = true := by kernel_rfl
theorem cb74 : callB Try.prog 74 = true := by kernel_rfl
theorem cb75 : callB Try.prog 75 = true := by kernel_rfl
theorem cb76 : callB Try.prog 76 = true := by kernel_rfl
theorem cb77 : callB Try.prog 77 = true := by kernel_rfl
theorem cb78 : callB Try.prog 78 = true := by kernel_rfl
theorem cb79 : callB Try.prog 79 = true := by kernel_rfl
theorem cb8 : callB Try.prog 8 = true := by kernel_rfl
theorem cb80 : callB Try.prog 80 = true := by kernel_rfl
theorem cb81 : callB Try.prog 81 = true := by kernel_rfl
theorem cb82 : callB Try.prog 82 = true := by kernel_rfl
theorem cb83 : callB Try.prog 83 = true := by kernel_rfl
theorem cb84 : callB Try.prog 84 = true := by kernel_rfl
theorem cb85 : callB Try.prog 85 = true := by kernel_rfl
theorem cb86 : callB Try.prog 86 = true := by kernel_rfl
theorem cb87 : callB Try.prog 87 = true := by kernel_rfl
theorem cb88 : callB Try.prog 88 = true := by kernel_rfl
theorem cb89 : callB Try.prog 89 = true := by kernel_rfl
theorem cb9 : callB Try.prog 9 = true := by kernel_rfl
theorem cb90 : callB Try.prog 90 = true := by kernel_rfl
theorem cb91 : callB Try.prog 91 = true := by kernel_rfl
theorem cb92 : callB Try.prog 92 = true := by kernel_rfl
theorem cb93 : callB Try.prog 93 = true := by kernel_rfl
theorem cb94 : callB Try.prog 94 = true := by kernel_rfl
theorem cb95 : callB Try.prog 95 = true := by kernel_rfl
theorem el22 : elB Try.prog 22 = some 63 := by kernel_rfl
theorem el26 : elB Try.prog 26 = some 3 := by kernel_rfl
theorem el28 : elB Try.prog 28 = some 60 := by kernel_rfl
theorem el39 : elB Try.prog 39 = some 26 := by kernel_rfl
theorem el73 : elB Try.prog 73 = some 4 := by kernel_rfl
theorem fo24_0 : foB Try.prog 24 0 = some 0 := by kernel_rfl
theorem fo24_1 : foB Try.prog 24 1 = some 1 := by kernel_rfl
theorem fo30_0 : foB Try.prog 30 0 = some 0 := by kernel_rfl
theorem fo30_1 : foB Try.prog 30 1 = some 1 := by kernel_rfl
theorem fo60_0 : foB Try.prog 60 0 = some 0 := by kernel_rfl
theorem fo60_1 : foB Try.prog 60 1 = some 1 := by kernel_rfl
theorem fo63_0 : foB Try.prog 63 0 = some 0 := by kernel_rfl
theorem fo63_1 : foB Try.prog 63 1 = some 1 := by kernel_rfl
theorem fo68_0 : foB Try.prog 68 0 = some 0 := by kernel_rfl
theorem fo68_1 : foB Try.prog 68 1 = some 1 := by kernel_rfl
theorem fo68_2 : foB Try.prog 68 2 = some 2 := by kernel_rfl
theorem inf24 : (Try.prog.info? 24).isSome = true := by kernel_rfl
theorem inf26 : (Try.prog.info? 26).isSome = true := by kernel_rfl
theorem inf28 : (Try.prog.info? 28).isSome = true := by kernel_rfl
theorem inf3 : (Try.prog.info? 3).isSome = true := by kernel_rfl
theorem inf30 : (Try.prog.info? 30).isSome = true := by kernel_rfl
theorem inf4 : (Try.prog.info? 4).isSome = true := by kernel_rfl
theorem inf60 : (Try.prog.info? 60).isSome = true := by kernel_rfl
theorem inf63 : (Try.prog.info? 63).isSome = true := by kernel_rfl
theorem inf68 : (Try.prog.info? 68).isSome = true := by kernel_rfl
theorem ist60 : istB Try.prog 60 = some 2 := by kernel_rfl
theorem map92 : mapB Try.prog 92 = some (3, 3) := by kernel_rfl
theorem mixed : Try.prog.follows .mixedOrders = true := by kernel_rfl
theorem pl30 : plB Try.prog 30 = some [(0, 1), (1, 1)] := by kernel_rfl
theorem pl60 : plB Try.prog 60 = some [(0, 1), (1, 1)] := by kernel_rfl
theorem pl68 : plB Try.prog 68 = some [(0, 1), (1, 1), (2, 1)] := by kernel_rfl
theorem sz24 : szP Try.prog 24 = 2 := by kernel_rfl
theorem sz26 : szP Try.prog 26 = 1 := by kernel_rfl
theorem sz28 : szP Try.prog 28 = 1 := by kernel_rfl
theorem sz3 : szP Try.prog 3 = 1 := by kernel_rfl
theorem sz30 : szP Try.prog 30 = 2 := by kernel_rfl
theorem sz4 : szP Try.prog 4 = 1 := by kernel_rfl
theorem sz60 : szP Try.prog 60 = 2 := by kernel_rfl
theorem sz63 : szP Try.prog 63 = 2 := by kernel_rfl
theorem sz68 : szP Try.prog 68 = 3 := by kernel_rfl
theorem ti26 : TI Try.prog 26 (.slice none 0 0) 1 24 := by unfold TI; kernel_rfl
theorem ti3 : TI Try.prog 3 (.int .i64 0) 1 8 := by unfold TI; kernel_rfl
theorem ti30 : TI Try.prog 30 (.agg #[(.int .i64 0), (.slice none 0 0)]) 2 32 := by unfold TI; kernel_rfl
theorem ti4 : TI Try.prog 4 (.bool false) 1 1 := by unfold TI; kernel_rfl
theorem ti60 : TI Try.prog 60 (.agg #[(.int .i64 0), (.int .i64 0)]) 2 16 := by unfold TI; kernel_rfl
theorem ti68 : TI Try.prog 68 (.agg #[(.slice none 0 0), (.slice none 0 0), (.slice none 0 0)]) 3 72 := by unfold TI; kernel_rfl
theorem und22 : Try.prog.underlying 22 = some (.slice 63) := by kernel_rfl
theorem und26 : Try.prog.underlying 26 = some (.slice 3) := by kernel_rfl
theorem und28 : Try.prog.underlying 28 = some (.slice 60) := by kernel_rfl
theorem und39 : Try.prog.underlying 39 = some (.slice 26) := by kernel_rfl
theorem und4 : Try.prog.underlying 4 = some .bool := by kernel_rfl
theorem und73 : Try.prog.underlying 73 = some (.slice 4) := by kernel_rfl
end Go.Proofs.Ytiphmhofhgbhlaa
