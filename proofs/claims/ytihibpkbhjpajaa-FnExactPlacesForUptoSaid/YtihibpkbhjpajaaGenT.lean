/- Facts about the types and functions of the program. Written by a program of mine. -/
import Derived.Test.YtihibpkbhjpajaaGenM
import Derived.Test.YtihibpkbhjpajaaProg
set_option linter.unusedVariables false
set_option linter.unusedSimpArgs false
set_option linter.unnecessarySimpa false
open Go Go.Fw
namespace Go.Proofs.Ytihibpkbhjpajaa
theorem ag100 : agB Try.prog 100 = some true := by kernel_rfl
theorem ag105 : agB Try.prog 105 = some true := by kernel_rfl
theorem ag108 : agB Try.prog 108 = some true := by kernel_rfl
theorem ag24 : agB Try.prog 24 = some false := by kernel_rfl
theorem ag26 : agB Try.prog 26 = some true := by kernel_rfl
theorem ag28 : agB Try.prog 28 = some false := by kernel_rfl
theorem ag3 : agB Try.prog 3 = some false := by kernel_rfl
theorem ag30 : agB Try.prog 30 = some true := by kernel_rfl
theorem ag4 : agB Try.prog 4 = some false := by kernel_rfl
theorem ag40 : agB Try.prog 40 = some false := by kernel_rfl
theorem ag47 : agB Try.prog 47 = some true := by kernel_rfl
theorem ag51 : agB Try.prog 51 = some true := by kernel_rfl
theorem ag55 : agB Try.prog 55 = some false := by kernel_rfl
theorem ag57 : agB Try.prog 57 = some true := by kernel_rfl
theorem ag60 : agB Try.prog 60 = some false := by kernel_rfl
theorem ag62 : agB Try.prog 62 = some true := by kernel_rfl
theorem ag66 : agB Try.prog 66 = some true := by kernel_rfl
theorem ag70 : agB Try.prog 70 = some true := by kernel_rfl
theorem ag88 : agB Try.prog 88 = some true := by kernel_rfl
theorem cb100 : callB Try.prog 100 = true := by kernel_rfl
theorem cb101 : callB Try.prog 101 = true := by kernel_rfl
theorem cb102 : callB Try.prog 102 = true := by kernel_rfl
theorem cb103 : callB Try.prog 103 = true := by kernel_rfl
theorem cb104 : callB Try.prog 104 = true := by kernel_rfl
theorem cb105 : callB Try.prog 105 = true := by kernel_rfl
theorem cb106 : callB Try.prog 106 = true := by kernel_rfl
theorem cb15 : callB Try.prog 15 = true := by kernel_rfl
theorem cb16 : callB Try.prog 16 = true := by kernel_rfl
theorem cb17 : callB Try.prog 17 = true := by kernel_rfl
theorem cb18 : callB Try.prog 18 = true := by kernel_rfl
theorem cb19 : callB Try.prog 19 = true := by kernel_rfl
theorem cb20 : callB Try.prog 20 = true := by kernel_rfl
theorem cb21 : callB Try.prog 21 = true := by kernel_rfl
theorem cb22 : callB Try.prog 22 = true := by kernel_rfl
theorem cb23 : callB Try.prog 23 = true := by kernel_rfl
theorem cb24 : callB Try.prog 24 = true := by kernel_rfl
theorem cb25 : callB Try.prog 25 = true := by kernel_rfl
theorem cb26 : callB Try.prog 26 = true := by kernel_rfl
theorem cb27 : callB Try.prog 27 = true := by kernel_rfl
theorem cb28 : callB Try.prog 28 = true := by kernel_rfl
theorem cb29 : callB Try.prog 29 = true := by kernel_rfl
theorem cb30 : callB Try.prog 30 = true := by kernel_rfl
theorem cb31 : callB Try.prog 31 = true := by kernel_rfl
theorem cb32 : callB Try.prog 32 = true := by kernel_rfl
theorem cb33 : callB Try.prog 33 = true := by kernel_rfl
theorem cb34 : callB Try.prog 34 = true := by kernel_rfl
theorem cb35 : callB Try.prog 35 = true := by kernel_rfl
theorem cb36 : callB Try.prog 36 = true := by kernel_rfl
theorem cb37 : callB Try.prog 37 = true := by kernel_rfl
theorem cb38 : callB Try.prog 38 = true := by kernel_rfl
theorem cb39 : callB Try.prog 39 = true := by kernel_rfl
theorem cb40 : callB Try.prog 40 = true := by kernel_rfl
theorem cb41 : callB Try.prog 41 = true := by kernel_rfl
theorem cb42 : callB Try.prog 42 = true := by kernel_rfl
theorem cb43 : callB Try.prog 43 = true := by kernel_rfl
theorem cb44 : callB Try.prog 44 = true := by kernel_rfl
theorem cb45 : callB Try.prog 45 = true := by kernel_rfl
theorem cb46 : callB Try.prog 46 = true := by kernel_rfl
theorem cb47 : callB Try.prog 47 = true := by kernel_rfl
theorem cb48 : callB Try.prog 48 = true := by kernel_rfl
theorem cb49 : callB Try.prog 49 = true := by kernel_rfl
theorem cb50 : callB Try.prog 50 = true := by kernel_rfl
theorem cb51 : callB Try.prog 51 = true := by kernel_rfl
theorem cb52 : callB Try.prog 52 = true := by kernel_rfl
theorem cb53 : callB Try.prog 53 = true := by kernel_rfl
theorem cb54 : callB Try.prog 54 = true := by kernel_rfl
theorem cb55 : callB Try.prog 55 = true := by kernel_rfl
theorem cb56 : callB Try.prog 56 = true := by kernel_rfl
theorem cb57 : callB Try.prog 57 = true := by kernel_rfl
theorem cb58 : callB Try.prog 58 = true := by kernel_rfl
theorem cb59 : callB Try.prog 59 = true := by kernel_rfl
theorem cb60 : callB Try.prog 60 = true := by kernel_rfl
theorem cb61 : callB Try.prog 61 = true := by kernel_rfl
theorem cb62 : callB Try.prog 62 = true := by kernel_rfl
theorem cb63 : callB Try.prog 63 = true := by kernel_rfl
theorem cb64 : callB Try.prog 64 = true := by kernel_rfl
theorem cb65 : callB Try.prog 65 = true := by kernel_rfl
theorem cb66 : callB Try.prog 66 = true := by kernel_rfl
theorem cb67 : callB Try.prog 67 = true := by kernel_rfl
theorem cb68 : callB Try.prog 68 = true := by kernel_rfl
theorem cb69 : callB Try.prog 69 = true := by kernel_rfl
theorem cb70 : callB Try.prog 70 = true := by kernel_rfl
theorem cb71 : callB Try.prog 71 = true := by kernel_rfl
theorem cb72 : callB Try.prog 72 = true := by kernel_rfl
theorem cb73 : callB Try.prog 73 = true := by kernel_rfl
theorem cb74 : callB Try.prog 74 = true := by kernel_rfl
theorem cb75 : callB Try.prog 75 = true := by kernel_rfl
theorem cb76 : callB Try.prog 76 = true := by kernel_rfl
theorem cb77 : callB Try.prog 77 = true := by kernel_rfl
theorem cb78 : callB Try.prog 78 = true := by kernel_rfl
theorem cb79 : callB Try.prog 79 = true := by kernel_rfl
theorem cb80 : callB Try.prog 80 = true := by kernel_rfl
theorem cb81 : callB Try.prog 81 = true := by kernel_rfl
theorem cb82 : callB Try.prog 82 = true := by kernel_rfl
theorem cb83 : callB Try.prog 83 = true := by kernel_rfl
theorem cb84 : callB Try.prog 84 = true := by kernel_rfl
theorem cb85 : callB Try.prog 85 = true := by kernel_rfl
theorem cb86 : callB Try.prog 86 = true := by kernel_rfl
theorem cb87 : callB Try.prog 87 = true := by kernel_rfl
theorem cb88 : callB Try.prog 88 = true := by kernel_rfl
theorem cb89 : callB Try.prog 89 = true := by kernel_rfl
theorem cb90 : callB Try.prog 90 = true := by kernel_rfl
theorem cb91 : callB Try.prog 91 = true := by kernel_rfl
theorem cb92 : callB Try.prog 92 = true := by kernel_rfl
theorem cb93 : callB Try.prog 93 = true := by kernel_rfl
theorem cb94 : callB Try.prog 94 = true := by kernel_rfl
theorem cb95 : callB Try.prog 95 = true := by kernel_rfl
theorem cb96 : callB Try.prog 96 = true := by kernel_rfl
theorem cb97 : callB Try.prog 97 = true := by kernel_rfl
theorem cb98 : callB Try.prog 98 = true := by kernel_rfl
theorem cb99 : callB Try.prog 99 = true := by kernel_rfl
theorem el113 : elB Try.prog 113 = some 4 := by kernel_rfl
theorem el24 : elB Try.prog 24 = some 105 := by kernel_rfl
theorem el28 : elB Try.prog 28 = some 88 := by kernel_rfl
theorem el40 : elB Try.prog 40 = some 3 := by kernel_rfl
theorem el55 : elB Try.prog 55 = some 108 := by kernel_rfl
theorem el60 : elB Try.prog 60 = some 100 := by kernel_rfl
theorem fo100_0 : foB Try.prog 100 0 = some 0 := by kernel_rfl
theorem fo100_1 : foB Try.prog 100 1 = some 1 := by kernel_rfl
theorem fo105_0 : foB Try.prog 105 0 = some 0 := by kernel_rfl
theorem fo105_1 : foB Try.prog 105 1 = some 1 := by kernel_rfl
theorem fo108_0 : foB Try.prog 108 0 = some 0 := by kernel_rfl
theorem fo108_1 : foB Try.prog 108 1 = some 1 := by kernel_rfl
theorem fo26_0 : foB Try.prog 26 0 = some 0 := by kernel_rfl
theorem fo26_1 : foB Try.prog 26 1 = some 1 := by kernel_rfl
theorem fo30_0 : foB Try.prog 30 0 = some 0 := by kernel_rfl
theorem fo30_1 : foB Try.prog 30 1 = some 1 := by kernel_rfl
theorem fo47_0 : foB Try.prog 47 0 = some 0 := by kernel_rfl
theorem fo47_1 : foB Try.prog 47 1 = some 2 := by kernel_rfl
theorem fo51_0 : foB Try.prog 51 0 = some 0 := by kernel_rfl
theorem fo51_1 : foB Try.prog 51 1 = some 2 := by kernel_rfl
theorem fo57_0 : foB Try.prog 57 0 = some 0 := by kernel_rfl
theorem fo57_1 : foB Try.prog 57 1 = some 2 := by kernel_rfl
theorem fo62_0 : foB Try.prog 62 0 = some 0 := by kernel_rfl
theorem fo62_1 : foB Try.prog 62 1 = some 2 := by kernel_rfl
theorem fo66_0 : foB Try.prog 66 0 = some 0 := by kernel_rfl
theorem fo66_1 : foB Try.prog 66 1 = some 3 := by kernel_rfl
theorem fo70_0 : foB Try.prog 70 0 = some 0 := by kernel_rfl
theorem fo70_1 : foB Try.prog 70 1 = some 3 := by kernel_rfl
theorem fo88_0 : foB Try.prog 88 0 = some 0 := by kernel_rfl
theorem fo88_1 : foB Try.prog 88 1 = some 1 := by kernel_rfl
theorem inf100 : (Try.prog.info? 100).isSome = true := by kernel_rfl
theorem inf105 : (Try.prog.info? 105).isSome = true := by kernel_rfl
theorem inf108 : (Try.prog.info? 108).isSome = true := by kernel_rfl
theorem inf26 : (Try.prog.info? 26).isSome = true := by kernel_rfl
theorem inf28 : (Try.prog.info? 28).isSome = true := by kernel_rfl
theorem inf3 : (Try.prog.info? 3).isSome = true := by kernel_rfl
theorem inf30 : (Try.prog.info? 30).isSome = true := by kernel_rfl
theorem inf4 : (Try.prog.info? 4).isSome = true := by kernel_rfl
theorem inf40 : (Try.prog.info? 40).isSome = true := by kernel_rfl
theorem inf47 : (Try.prog.info? 47).isSome = true := by kernel_rfl
theorem inf51 : (Try.prog.info? 51).isSome = true := by kernel_rfl
theorem inf57 : (Try.prog.info? 57).isSome = true := by kernel_rfl
theorem inf60 : (Try.prog.info? 60).isSome = true := by kernel_rfl
theorem inf62 : (Try.prog.info? 62).isSome = true := by kernel_rfl
theorem inf66 : (Try.prog.info? 66).isSome = true := by kernel_rfl
theorem inf70 : (Try.prog.info? 70).isSome = true := by kernel_rfl
theorem inf88 : (Try.prog.info? 88).isSome = true := by kernel_rfl
theorem ist100 : istB Try.prog 100 = some 2 := by kernel_rfl
theorem ist88 : istB Try.prog 88 = some 2 := by kernel_rfl
theorem mixed : Try.prog.follows .mixedOrders = true := by kernel_rfl
theorem pl100 : plB Try.prog 100 = some [(0, 1), (1, 1)] := by kernel_rfl
theorem pl30 : plB Try.prog 30 = some [(0, 1), (1, 1)] := by kernel_rfl
theorem pl62 : plB Try.prog 62 = some [(0, 2), (2, 1)] := by kernel_rfl
theorem pl88 : plB Try.prog 88 = some [(0, 1), (1, 1)] := by kernel_rfl
theorem sz100 : szP Try.prog 100 = 2 := by kernel_rfl
theorem sz105 : szP Try.prog 105 = 2 := by kernel_rfl
theorem sz108 : szP Try.prog 108 = 2 := by kernel_rfl
theorem sz26 : szP Try.prog 26 = 2 := by kernel_rfl
theorem sz28 : szP Try.prog 28 = 1 := by kernel_rfl
theorem sz3 : szP Try.prog 3 = 1 := by kernel_rfl
theorem sz30 : szP Try.prog 30 = 2 := by kernel_rfl
theorem sz4 : szP Try.prog 4 = 1 := by kernel_rfl
theorem sz40 : szP Try.prog 40 = 1 := by kernel_rfl
theorem sz47 : szP Try.prog 47 = 3 := by kernel_rfl
theorem sz51 : szP Try.prog 51 = 3 := by kernel_rfl
theorem sz57 : szP Try.prog 57 = 3 := by kernel_rfl
theorem sz60 : szP Try.prog 60 = 1 := by kernel_rfl
theorem sz62 : szP Try.prog 62 = 3 := by kernel_rfl
theorem sz66 : szP Try.prog 66 = 4 := by kernel_rfl
theorem sz70 : szP Try.prog 70 = 4 := by kernel_rfl
theorem sz88 : szP Try.prog 88 = 2 := by kernel_rfl
theorem ti100 : TI Try.prog 100 (.agg #[(.int .i64 0), (.int .i64 0)]) 2 16 := by unfold TI; kernel_rfl
theorem ti3 : TI Try.prog 3 (.int .i64 0) 1 8 := by unfold TI; kernel_rfl
theorem ti30 : TI Try.prog 30 (.agg #[(.int .i64 0), (.slice none 0 0)]) 2 32 := by unfold TI; kernel_rfl
theorem ti4 : TI Try.prog 4 (.bool false) 1 1 := by unfold TI; kernel_rfl
theorem ti40 : TI Try.prog 40 (.slice none 0 0) 1 24 := by unfold TI; kernel_rfl
theorem ti51 : TI Try.prog 51 (.agg #[(.int .i64 0), (.slice none 0 0), (.slice none 0 0)]) 3 56 := by unfold TI; kernel_rfl
theorem ti62 : TI Try.prog 62 (.agg #[(.int .i64 0), (.slice none 0 0), (.slice none 0 0)]) 3 56 := by unfold TI; kernel_rfl
theorem ti70 : TI Try.prog 70 (.agg #[(.int .i64 0), (.slice none 0 0), (.slice none 0 0), (.slice none 0 0)]) 4 80 := by unfold TI; kernel_rfl
theorem ti88 : TI Try.prog 88 (.agg #[(.int .i64 0), (.int .i64 0)]) 2 16 := by unfold TI; kernel_rfl
theorem und113 : Try.prog.underlying 113 = some (.slice 4) := by kernel_rfl
theorem und24 : Try.prog.underlying 24 = some (.slice 105) := by kernel_rfl
theorem und28 : Try.prog.underlying 28 = some (.slice 88) := by kernel_rfl
theorem und4 : Try.prog.underlying 4 = some .bool := by kernel_rfl
theorem und40 : Try.prog.underlying 40 = some (.slice 3) := by kernel_rfl
theorem und55 : Try.prog.underlying 55 = some (.slice 108) := by kernel_rfl
theorem und60 : Try.prog.underlying 60 = some (.slice 100) := by kernel_rfl
theorem und97 : Try.prog.underlying 97 = some (.slice 40) := by kernel_rfl
end Go.Proofs.Ytihibpkbhjpajaa
