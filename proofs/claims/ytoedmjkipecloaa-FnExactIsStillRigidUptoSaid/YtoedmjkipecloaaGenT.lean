/- Facts about the types and functions of the program. Written by a program of mine. -/
import Derived.Test.YtoedmjkipecloaaGenM
import Derived.Test.YtoedmjkipecloaaProg
set_option linter.unusedVariables false
set_option linter.unusedSimpArgs false
set_option linter.unnecessarySimpa false
open Go Go.Fw
namespace Go.Proofs.Ytoedmjkipecloaa
theorem ag102 : agB Try.prog 102 = some true := by kernel_rfl
theorem ag22 : agB Try.prog 22 = some false := by kernel_rfl
theorem ag24 : agB Try.prog 24 = some true := by kernel_rfl
theorem ag25 : agB Try.prog 25 = some false := by kernel_rfl
theorem ag27 : agB Try.prog 27 = some true := by kernel_rfl
theorem ag28 : agB Try.prog 28 = some false := by kernel_rfl
theorem ag3 : agB Try.prog 3 = some false := by kernel_rfl
theorem ag30 : agB Try.prog 30 = some true := by kernel_rfl
theorem ag32 : agB Try.prog 32 = some false := by kernel_rfl
theorem ag34 : agB Try.prog 34 = some true := by kernel_rfl
theorem ag35 : agB Try.prog 35 = some false := by kernel_rfl
theorem ag37 : agB Try.prog 37 = some true := by kernel_rfl
theorem ag39 : agB Try.prog 39 = some true := by kernel_rfl
theorem ag4 : agB Try.prog 4 = some false := by kernel_rfl
theorem ag69 : agB Try.prog 69 = some true := by kernel_rfl
theorem ag88 : agB Try.prog 88 = some true := by kernel_rfl
theorem ag93 : agB Try.prog 93 = some true := by kernel_rfl
theorem ag97 : agB Try.prog 97 = some true := by kernel_rfl
theorem cb100 : callB Try.prog 100 = true := by kernel_rfl
theorem cb101 : callB Try.prog 101 = true := by kernel_rfl
theorem cb102 : callB Try.prog 102 = true := by kernel_rfl
theorem cb103 : callB Try.prog 103 = true := by kernel_rfl
theorem cb104 : callB Try.prog 104 = true := by kernel_rfl
theorem cb105 : callB Try.prog 105 = true := by kernel_rfl
theorem cb106 : callB Try.prog 106 = true := by kernel_rfl
theorem cb107 : callB Try.prog 107 = true := by kernel_rfl
theorem cb108 : callB Try.prog 108 = true := by kernel_rfl
theorem cb109 : callB Try.prog 109 = true := by kernel_rfl
theorem cb110 : callB Try.prog 110 = true := by kernel_rfl
theorem cb111 : callB Try.prog 111 = true := by kernel_rfl
theorem cb112 : callB Try.prog 112 = true := by kernel_rfl
theorem cb113 : callB Try.prog 113 = true := by kernel_rfl
theorem cb114 : callB Try.prog 114 = true := by kernel_rfl
theorem cb115 : callB Try.prog 115 = true := by kernel_rfl
theorem cb116 : callB Try.prog 116 = true := by kernel_rfl
theorem cb117 : callB Try.prog 117 = true := by kernel_rfl
theorem cb118 : callB Try.prog 118 = true := by kernel_rfl
theorem cb119 : callB Try.prog 119 = true := by kernel_rfl
theorem cb120 : callB Try.prog 120 = true := by kernel_rfl
theorem cb121 : callB Try.prog 121 = true := by kernel_rfl
theorem cb122 : callB Try.prog 122 = true := by kernel_rfl
theorem cb123 : callB Try.prog 123 = true := by kernel_rfl
theorem cb124 : callB Try.prog 124 = true := by kernel_rfl
theorem cb125 : callB Try.prog 125 = true := by kernel_rfl
theorem cb126 : callB Try.prog 126 = true := by kernel_rfl
theorem cb127 : callB Try.prog 127 = true := by kernel_rfl
theorem cb128 : callB Try.prog 128 = true := by kernel_rfl
theorem cb129 : callB Try.prog 129 = true := by kernel_rfl
theorem cb130 : callB Try.prog 130 = true := by kernel_rfl
theorem cb131 : callB Try.prog 131 = true := by kernel_rfl
theorem cb132 : callB Try.prog 132 = true := by kernel_rfl
theorem cb133 : callB Try.prog 133 = true := by kernel_rfl
theorem cb134 : callB Try.prog 134 = true := by kernel_rfl
theorem cb135 : callB Try.prog 135 = true := by kernel_rfl
theorem cb136 : callB Try.prog 136 = true := by kernel_rfl
theorem cb137 : callB Try.prog 137 = true := by kernel_rfl
theorem cb138 : callB Try.prog 138 = true := by kernel_rfl
theorem cb139 : callB Try.prog 139 = true := by kernel_rfl
theorem cb140 : callB Try.prog 140 = true := by kernel_rfl
theorem cb141 : callB Try.prog 141 = true := by kernel_rfl
theorem cb142 : callB Try.prog 142 = true := by kernel_rfl
theorem cb15 : callB Try.prog 15 = true := by kernel_rfl
theorem cb16 : callB Try.prog 16 = true := by kernel_rfl
theorem cb17 : callB Try.prog 17 = true := by kernel_rfl
theorem cb18 : callB Try.prog 18 = true := by kernel_rfl
theorem cb19 : callB Try.prog 19 = true := by kernel_rfl
theorem cb20 : callB Try.prog 20 = true := by kernel_rfl
theorem cb21 : callB Try.prog 21 = true := by kernel_rfl
theorem cb22 : callB Try.prog 22 = true := by kernel_rfl
theorem cb23 : callB Try.prog 23 = true := by kernel_rfl
theorem cb24 : callB Try.prog 24 = true := by kernel_rfl
theorem cb25 : callB Try.prog 25 = true := by kernel_rfl
theorem cb26 : callB Try.prog 26 = true := by kernel_rfl
theorem cb27 : callB Try.prog 27 = true := by kernel_rfl
theorem cb28 : callB Try.prog 28 = true := by kernel_rfl
theorem cb29 : callB Try.prog 29 = true := by kernel_rfl
theorem cb30 : callB Try.prog 30 = true := by kernel_rfl
theorem cb31 : callB Try.prog 31 = true := by kernel_rfl
theorem cb32 : callB Try.prog 32 = true := by kernel_rfl
theorem cb33 : callB Try.prog 33 = true := by kernel_rfl
theorem cb34 : callB Try.prog 34 = true := by kernel_rfl
theorem cb35 : callB Try.prog 35 = true := by kernel_rfl
theorem cb36 : callB Try.prog 36 = true := by kernel_rfl
theorem cb37 : callB Try.prog 37 = true := by kernel_rfl
theorem cb38 : callB Try.prog 38 = true := by kernel_rfl
theorem cb39 : callB Try.prog 39 = true := by kernel_rfl
theorem cb40 : callB Try.prog 40 = true := by kernel_rfl
theorem cb41 : callB Try.prog 41 = true := by kernel_rfl
theorem cb42 : callB Try.prog 42 = true := by kernel_rfl
theorem cb43 : callB Try.prog 43 = true := by kernel_rfl
theorem cb44 : callB Try.prog 44 = true := by kernel_rfl
theorem cb45 : callB Try.prog 45 = true := by kernel_rfl
theorem cb46 : callB Try.prog 46 = true := by kernel_rfl
theorem cb47 : callB Try.prog 47 = true := by kernel_rfl
theorem cb48 : callB Try.prog 48 = true := by kernel_rfl
theorem cb49 : callB Try.prog 49 = true := by kernel_rfl
theorem cb50 : callB Try.prog 50 = true := by kernel_rfl
theorem cb51 : callB Try.prog 51 = true := by kernel_rfl
theorem cb52 : callB Try.prog 52 = true := by kernel_rfl
theorem cb53 : callB Try.prog 53 = true := by kernel_rfl
theorem cb54 : callB Try.prog 54 = true := by kernel_rfl
theorem cb55 : callB Try.prog 55 = true := by kernel_rfl
theorem cb56 : callB Try.prog 56 = true := by kernel_rfl
theorem cb57 : callB Try.prog 57 = true := by kernel_rfl
theorem cb58 : callB Try.prog 58 = true := by kernel_rfl
theorem cb59 : callB Try.prog 59 = true := by kernel_rfl
theorem cb60 : callB Try.prog 60 = true := by kernel_rfl
theorem cb61 : callB Try.prog 61 = true := by kernel_rfl
theorem cb62 : callB Try.prog 62 = true := by kernel_rfl
theorem cb63 : callB Try.prog 63 = true := by kernel_rfl
theorem cb64 : callB Try.prog 64 = true := by kernel_rfl
theorem cb65 : callB Try.prog 65 = true := by kernel_rfl
theorem cb66 : callB Try.prog 66 = true := by kernel_rfl
theorem cb67 : callB Try.prog 67 = true := by kernel_rfl
theorem cb68 : callB Try.prog 68 = true := by kernel_rfl
theorem cb69 : callB Try.prog 69 = true := by kernel_rfl
theorem cb70 : callB Try.prog 70 = true := by kernel_rfl
theorem cb71 : callB Try.prog 71 = true := by kernel_rfl
theorem cb72 : callB Try.prog 72 = true := by kernel_rfl
theorem cb73 : callB Try.prog 73 = true := by kernel_rfl
theorem cb74 : callB Try.prog 74 = true := by kernel_rfl
theorem cb75 : callB Try.prog 75 = true := by kernel_rfl
theorem cb76 : callB Try.prog 76 = true := by kernel_rfl
theorem cb77 : callB Try.prog 77 = true := by kernel_rfl
theorem cb78 : callB Try.prog 78 = true := by kernel_rfl
theorem cb79 : callB Try.prog 79 = true := by kernel_rfl
theorem cb80 : callB Try.prog 80 = true := by kernel_rfl
theorem cb81 : callB Try.prog 81 = true := by kernel_rfl
theorem cb82 : callB Try.prog 82 = true := by kernel_rfl
theorem cb83 : callB Try.prog 83 = true := by kernel_rfl
theorem cb84 : callB Try.prog 84 = true := by kernel_rfl
theorem cb85 : callB Try.prog 85 = true := by kernel_rfl
theorem cb86 : callB Try.prog 86 = true := by kernel_rfl
theorem cb87 : callB Try.prog 87 = true := by kernel_rfl
theorem cb88 : callB Try.prog 88 = true := by kernel_rfl
theorem cb89 : callB Try.prog 89 = true := by kernel_rfl
theorem cb90 : callB Try.prog 90 = true := by kernel_rfl
theorem cb91 : callB Try.prog 91 = true := by kernel_rfl
theorem cb92 : callB Try.prog 92 = true := by kernel_rfl
theorem cb93 : callB Try.prog 93 = true := by kernel_rfl
theorem cb94 : callB Try.prog 94 = true := by kernel_rfl
theorem cb95 : callB Try.prog 95 = true := by kernel_rfl
theorem cb96 : callB Try.prog 96 = true := by kernel_rfl
theorem cb97 : callB Try.prog 97 = true := by kernel_rfl
theorem cb98 : callB Try.prog 98 = true := by kernel_rfl
theorem cb99 : callB Try.prog 99 = true := by kernel_rfl
theorem el120 : elB Try.prog 120 = some 4 := by kernel_rfl
theorem el22 : elB Try.prog 22 = some 97 := by kernel_rfl
theorem el25 : elB Try.prog 25 = some 102 := by kernel_rfl
theorem el28 : elB Try.prog 28 = some 3 := by kernel_rfl
theorem el32 : elB Try.prog 32 = some 69 := by kernel_rfl
theorem el35 : elB Try.prog 35 = some 88 := by kernel_rfl
theorem fo102_0 : foB Try.prog 102 0 = some 0 := by kernel_rfl
theorem fo102_1 : foB Try.prog 102 1 = some 1 := by kernel_rfl
theorem fo24_0 : foB Try.prog 24 0 = some 0 := by kernel_rfl
theorem fo24_1 : foB Try.prog 24 1 = some 1 := by kernel_rfl
theorem fo27_0 : foB Try.prog 27 0 = some 0 := by kernel_rfl
theorem fo27_1 : foB Try.prog 27 1 = some 2 := by kernel_rfl
theorem fo30_0 : foB Try.prog 30 0 = some 0 := by kernel_rfl
theorem fo30_1 : foB Try.prog 30 1 = some 3 := by kernel_rfl
theorem fo34_0 : foB Try.prog 34 0 = some 0 := by kernel_rfl
theorem fo34_1 : foB Try.prog 34 1 = some 1 := by kernel_rfl
theorem fo37_0 : foB Try.prog 37 0 = some 0 := by kernel_rfl
theorem fo37_1 : foB Try.prog 37 1 = some 2 := by kernel_rfl
theorem fo39_0 : foB Try.prog 39 0 = some 0 := by kernel_rfl
theorem fo39_1 : foB Try.prog 39 1 = some 3 := by kernel_rfl
theorem fo69_0 : foB Try.prog 69 0 = some 0 := by kernel_rfl
theorem fo69_1 : foB Try.prog 69 1 = some 1 := by kernel_rfl
theorem fo88_0 : foB Try.prog 88 0 = some 0 := by kernel_rfl
theorem fo88_1 : foB Try.prog 88 1 = some 1 := by kernel_rfl
theorem fo93_0 : foB Try.prog 93 0 = some 0 := by kernel_rfl
theorem fo93_1 : foB Try.prog 93 1 = some 1 := by kernel_rfl
theorem fo93_2 : foB Try.prog 93 2 = some 2 := by kernel_rfl
theorem fo97_0 : foB Try.prog 97 0 = some 0 := by kernel_rfl
theorem fo97_1 : foB Try.prog 97 1 = some 1 := by kernel_rfl
theorem inf102 : (Try.prog.info? 102).isSome = true := by kernel_rfl
theorem inf24 : (Try.prog.info? 24).isSome = true := by kernel_rfl
theorem inf27 : (Try.prog.info? 27).isSome = true := by kernel_rfl
theorem inf28 : (Try.prog.info? 28).isSome = true := by kernel_rfl
theorem inf3 : (Try.prog.info? 3).isSome = true := by kernel_rfl
theorem inf30 : (Try.prog.info? 30).isSome = true := by kernel_rfl
theorem inf32 : (Try.prog.info? 32).isSome = true := by kernel_rfl
theorem inf34 : (Try.prog.info? 34).isSome = true := by kernel_rfl
theorem inf35 : (Try.prog.info? 35).isSome = true := by kernel_rfl
theorem inf37 : (Try.prog.info? 37).isSome = true := by kernel_rfl
theorem inf39 : (Try.prog.info? 39).isSome = true := by kernel_rfl
theorem inf4 : (Try.prog.info? 4).isSome = true := by kernel_rfl
theorem inf69 : (Try.prog.info? 69).isSome = true := by kernel_rfl
theorem inf88 : (Try.prog.info? 88).isSome = true := by kernel_rfl
theorem inf93 : (Try.prog.info? 93).isSome = true := by kernel_rfl
theorem inf97 : (Try.prog.info? 97).isSome = true := by kernel_rfl
theorem ist69 : istB Try.prog 69 = some 2 := by kernel_rfl
theorem ist88 : istB Try.prog 88 = some 2 := by kernel_rfl
theorem map123 : mapB Try.prog 123 = some (3, 3) := by kernel_rfl
theorem mixed : Try.prog.follows .mixedOrders = true := by kernel_rfl
theorem pl34 : plB Try.prog 34 = some [(0, 1), (1, 1)] := by kernel_rfl
theorem pl37 : plB Try.prog 37 = some [(0, 2), (2, 1)] := by kernel_rfl
theorem pl39 : plB Try.prog 39 = some [(0, 3), (3, 1)] := by kernel_rfl
theorem pl93 : plB Try.prog 93 = some [(0, 1), (1, 1), (2, 1)] := by kernel_rfl
theorem sz102 : szP Try.prog 102 = 2 := by kernel_rfl
theorem sz24 : szP Try.prog 24 = 2 := by kernel_rfl
theorem sz27 : szP Try.prog 27 = 3 := by kernel_rfl
theorem sz28 : szP Try.prog 28 = 1 := by kernel_rfl
theorem sz3 : szP Try.prog 3 = 1 := by kernel_rfl
theorem sz30 : szP Try.prog 30 = 4 := by kernel_rfl
theorem sz32 : szP Try.prog 32 = 1 := by kernel_rfl
theorem sz34 : szP Try.prog 34 = 2 := by kernel_rfl
theorem sz35 : szP Try.prog 35 = 1 := by kernel_rfl
theorem sz37 : szP Try.prog 37 = 3 := by kernel_rfl
theorem sz39 : szP Try.prog 39 = 4 := by kernel_rfl
theorem sz4 : szP Try.prog 4 = 1 := by kernel_rfl
theorem sz69 : szP Try.prog 69 = 2 := by kernel_rfl
theorem sz88 : szP Try.prog 88 = 2 := by kernel_rfl
theorem sz93 : szP Try.prog 93 = 3 := by kernel_rfl
theorem sz97 : szP Try.prog 97 = 2 := by kernel_rfl
theorem ti3 : TI Try.prog 3 (.int .i64 0) 1 8 := by unfold TI; kernel_rfl
theorem ti34 : TI Try.prog 34 (.agg #[(.int .i64 0), (.slice none 0 0)]) 2 32 := by unfold TI; kernel_rfl
theorem ti37 : TI Try.prog 37 (.agg #[(.int .i64 0), (.slice none 0 0), (.slice none 0 0)]) 3 56 := by unfold TI; kernel_rfl
theorem ti39 : TI Try.prog 39 (.agg #[(.int .i64 0), (.slice none 0 0), (.slice none 0 0), (.slice none 0 0)]) 4 80 := by unfold TI; kernel_rfl
theorem ti4 : TI Try.prog 4 (.bool false) 1 1 := by unfold TI; kernel_rfl
theorem ti69 : TI Try.prog 69 (.agg #[(.int .i64 0), (.int .i64 0)]) 2 16 := by unfold TI; kernel_rfl
theorem ti88 : TI Try.prog 88 (.agg #[(.int .i64 0), (.int .i64 0)]) 2 16 := by unfold TI; kernel_rfl
theorem ti93 : TI Try.prog 93 (.agg #[(.slice none 0 0), (.slice none 0 0), (.slice none 0 0)]) 3 72 := by unfold TI; kernel_rfl
theorem und120 : Try.prog.underlying 120 = some (.slice 4) := by kernel_rfl
theorem und22 : Try.prog.underlying 22 = some (.slice 97) := by kernel_rfl
theorem und25 : Try.prog.underlying 25 = some (.slice 102) := by kernel_rfl
theorem und28 : Try.prog.underlying 28 = some (.slice 3) := by kernel_rfl
theorem und32 : Try.prog.underlying 32 = some (.slice 69) := by kernel_rfl
theorem und35 : Try.prog.underlying 35 = some (.slice 88) := by kernel_rfl
theorem und4 : Try.prog.underlying 4 = some .bool := by kernel_rfl
end Go.Proofs.Ytoedmjkipecloaa
