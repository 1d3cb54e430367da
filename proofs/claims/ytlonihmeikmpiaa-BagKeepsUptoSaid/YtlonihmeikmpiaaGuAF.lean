import Derived.Test.YtlonihmeikmpiaaGuLh
import Derived.Test.YtlonihmeikmpiaaProg
import Derived.KernelRfl
set_option linter.all false
set_option linter.unusedVariables false
set_option linter.unusedSimpArgs false
namespace Go.Proofs.Y1
open Go.Gm
theorem draws : Try.prog.follows .mixedOrders = true := by kernel_rfl
theorem ag3 : aggO Try.prog 3 = some false := by kernel_rfl
theorem ag4 : aggO Try.prog 4 = some false := by kernel_rfl
theorem ag5 : aggO Try.prog 5 = some false := by kernel_rfl
theorem ag9 : aggO Try.prog 9 = some false := by kernel_rfl
theorem ag28 : aggO Try.prog 28 = some false := by kernel_rfl
theorem ag33 : aggO Try.prog 33 = some false := by kernel_rfl
theorem ag35 : aggO Try.prog 35 = some true := by kernel_rfl
theorem ag37 : aggO Try.prog 37 = some true := by kernel_rfl
theorem ag41 : aggO Try.prog 41 = some false := by kernel_rfl
theorem ag43 : aggO Try.prog 43 = some true := by kernel_rfl
theorem ag44 : aggO Try.prog 44 = some false := by kernel_rfl
theorem ag46 : aggO Try.prog 46 = some true := by kernel_rfl
theorem ag60 : aggO Try.prog 60 = some false := by kernel_rfl
theorem ag62 : aggO Try.prog 62 = some true := by kernel_rfl
theorem ag64 : aggO Try.prog 64 = some true := by kernel_rfl
theorem ag80 : aggO Try.prog 80 = some true := by kernel_rfl
theorem ag82 : aggO Try.prog 82 = some true := by kernel_rfl
theorem ag90 : aggO Try.prog 90 = some false := by kernel_rfl
theorem ag92 : aggO Try.prog 92 = some false := by kernel_rfl
theorem ag109 : aggO Try.prog 109 = some true := by kernel_rfl
theorem ag151 : aggO Try.prog 151 = some false := by kernel_rfl
theorem ag153 : aggO Try.prog 153 = some true := by kernel_rfl
theorem ag155 : aggO Try.prog 155 = some true := by kernel_rfl
theorem ag157 : aggO Try.prog 157 = some true := by kernel_rfl
theorem ag219 : aggO Try.prog 219 = some false := by kernel_rfl
theorem ap22_22 {hp : AHeap} {id : Nat} {s x : AV} : appendA Try.prog hp id 22 22 s x = appS 3 56 hp id s (srcA Try.prog hp 3 22 x) := appendA_of (e := 35) (by kernel_rfl) (by kernel_rfl)
theorem ap25_25 {hp : AHeap} {id : Nat} {s x : AV} : appendA Try.prog hp id 25 25 s x = appS 4 64 hp id s (srcA Try.prog hp 4 25 x) := appendA_of (e := 37) (by kernel_rfl) (by kernel_rfl)
theorem ap33_3 {hp : AHeap} {id : Nat} {s x : AV} : appendA Try.prog hp id 33 3 s x = appS 1 8 hp id s (srcA Try.prog hp 1 3 x) := appendA_of (e := 3) (by kernel_rfl) (by kernel_rfl)
theorem ap33_33 {hp : AHeap} {id : Nat} {s x : AV} : appendA Try.prog hp id 33 33 s x = appS 1 8 hp id s (srcA Try.prog hp 1 33 x) := appendA_of (e := 3) (by kernel_rfl) (by kernel_rfl)
theorem ap41_9 {hp : AHeap} {id : Nat} {s x : AV} : appendA Try.prog hp id 41 9 s x = appS 1 1 hp id s (srcA Try.prog hp 1 9 x) := appendA_of (e := 5) (by kernel_rfl) (by kernel_rfl)
theorem ap41_41 {hp : AHeap} {id : Nat} {s x : AV} : appendA Try.prog hp id 41 41 s x = appS 1 1 hp id s (srcA Try.prog hp 1 41 x) := appendA_of (e := 5) (by kernel_rfl) (by kernel_rfl)
theorem ap44_44 {hp : AHeap} {id : Nat} {s x : AV} : appendA Try.prog hp id 44 44 s x = appS 5 56 hp id s (srcA Try.prog hp 5 44 x) := appendA_of (e := 109) (by kernel_rfl) (by kernel_rfl)
theorem ap60_3 {hp : AHeap} {id : Nat} {s x : AV} : appendA Try.prog hp id 60 3 s x = appS 3 40 hp id s (srcA Try.prog hp 3 3 x) := appendA_of (e := 64) (by kernel_rfl) (by kernel_rfl)
theorem ap60_60 {hp : AHeap} {id : Nat} {s x : AV} : appendA Try.prog hp id 60 60 s x = appS 3 40 hp id s (srcA Try.prog hp 3 60 x) := appendA_of (e := 64) (by kernel_rfl) (by kernel_rfl)
theorem ap90_90 {hp : AHeap} {id : Nat} {s x : AV} : appendA Try.prog hp id 90 90 s x = appS 3 64 hp id s (srcA Try.prog hp 3 90 x) := appendA_of (e := 153) (by kernel_rfl) (by kernel_rfl)
theorem ap94_94 {hp : AHeap} {id : Nat} {s x : AV} : appendA Try.prog hp id 94 94 s x = appS 1 16 hp id s (srcA Try.prog hp 1 94 x) := appendA_of (e := 9) (by kernel_rfl) (by kernel_rfl)
theorem ap151_151 {hp : AHeap} {id : Nat} {s x : AV} : appendA Try.prog hp id 151 151 s x = appS 4 40 hp id s (srcA Try.prog hp 4 151 x) := appendA_of (e := 157) (by kernel_rfl) (by kernel_rfl)
theorem ar79 : arrO Try.prog 79 = some (8, 4) := by kernel_rfl
theorem ar80 : arrO Try.prog 80 = some (3, 3) := by kernel_rfl
theorem bd35 {hp : AHeap} {parts : List (Nat × AV)} : buildA Try.prog hp 35 parts = (fillA hp (plf [(0, 1), (1, 1), (2, 1)]) [.val (.string ⟨#[]⟩), .val (.string ⟨#[]⟩), .val (.slice none 0 0)] parts).map .agg := buildA_of (by kernel_rfl) (by kernel_rfl)
theorem bd37 {hp : AHeap} {parts : List (Nat × AV)} : buildA Try.prog hp 37 parts = (fillA hp (plf [(0, 1), (1, 3)]) [.val (.int .i64 0), .val (.string ⟨#[]⟩), .val (.string ⟨#[]⟩), .val (.slice none 0 0)] parts).map .agg := buildA_of (by kernel_rfl) (by kernel_rfl)
theorem bd43 {hp : AHeap} {parts : List (Nat × AV)} : buildA Try.prog hp 43 parts = (fillA hp (plf [(0, 1), (1, 1), (2, 1), (3, 1), (4, 1)]) [.val (.int .i64 0), .val (.int .i64 0), .val (.int .i64 0), .val (.int .i64 0), .val (.int .i64 0)] parts).map .agg := buildA_of (by kernel_rfl) (by kernel_rfl)
theorem bd46 {hp : AHeap} {parts : List (Nat × AV)} : buildA Try.prog hp 46 parts = (fillA hp (plf [(0, 1), (1, 1), (2, 5), (7, 1)]) [.val (.slice none 0 0), .val (.slice none 0 0), .val (.int .i64 0), .val (.int .i64 0), .val (.int .i64 0), .val (.int .i64 0), .val (.int .i64 0), .val (.slice none 0 0)] parts).map .agg := buildA_of (by kernel_rfl) (by kernel_rfl)
theorem bd64 {hp : AHeap} {parts : List (Nat × AV)} : buildA Try.prog hp 64 parts = (fillA hp (plf [(0, 1), (1, 1), (2, 1)]) [.val (.int .i64 0), .val (.int .i64 0), .val (.slice none 0 0)] parts).map .agg := buildA_of (by kernel_rfl) (by kernel_rfl)
theorem bd80 {hp : AHeap} {parts : List (Nat × AV)} : buildA Try.prog hp 80 parts = (fillA hp pla1 [.val (.int .i64 0), .val (.int .i64 0), .val (.int .i64 0)] parts).map .agg := buildA_arr (n := 3) (e := 3) (by kernel_rfl) (by kernel_rfl) (by kernel_rfl)
theorem bd82 {hp : AHeap} {parts : List (Nat × AV)} : buildA Try.prog hp 82 parts = (fillA hp (plf [(0, 1), (1, 1), (2, 8), (10, 1), (11, 3)]) [.val (.int .i64 0), .val (.int .i64 0), .val (.bool false), .val (.bool false), .val (.bool false), .val (.bool false), .val (.bool false), .val (.bool false), .val (.bool false), .val (.bool false), .val (.slice none 0 0), .val (.int .i64 0), .val (.int .i64 0), .val (.int .i64 0)] parts).map .agg := buildA_of (by kernel_rfl) (by kernel_rfl)
theorem bd109 {hp : AHeap} {parts : List (Nat × AV)} : buildA Try.prog hp 109 parts = (fillA hp (plf [(0, 1), (1, 1), (2, 1), (3, 1), (4, 1)]) [.val (.int .i64 0), .val (.int .i64 0), .val (.int .i64 0), .val (.int .i64 0), .val (.slice none 0 0)] parts).map .agg := buildA_of (by kernel_rfl) (by kernel_rfl)
theorem bd112 {hp : AHeap} {parts : List (Nat × AV)} : buildA Try.prog hp 112 parts = (fillA hp (plf [(0, 1), (1, 1), (2, 1)]) [.val (.slice none 0 0), .val (.int .i64 0), .val (.int .i64 0)] parts).map .agg := buildA_of (by kernel_rfl) (by kernel_rfl)
theorem bd126 {hp : AHeap} {parts : List (Nat × AV)} : buildA Try.prog hp 126 parts = (fillA hp (plf [(0, 1)]) [.val (.slice none 0 0)] parts).map .agg := buildA_of (by kernel_rfl) (by kernel_rfl)
theorem bd130 {hp : AHeap} {parts : List (Nat × AV)} : buildA Try.prog hp 130 parts = (fillA hp (plf [(0, 1), (1, 1), (2, 8), (10, 1), (11, 1), (12, 1), (13, 1)]) [.val (.int .i64 0), .val (.int .i64 0), .val (.bool false), .val (.bool false), .val (.bool false), .val (.bool false), .val (.bool false), .val (.bool false), .val (.bool false), .val (.bool false), .val (.slice none 0 0), .val (.int .i64 0), .val (.int .i64 0), .val (.int .i64 0)] parts).map .agg := buildA_of (by kernel_rfl) (by kernel_rfl)
theorem bd153 {hp : AHeap} {parts : List (Nat × AV)} : buildA Try.prog hp 153 parts = (fillA hp (plf [(0, 1), (1, 1), (2, 1)]) [.val (.string ⟨#[]⟩), .val (.slice none 0 0), .val (.slice none 0 0)] parts).map .agg := buildA_of (by kernel_rfl) (by kernel_rfl)
theorem bd155 {hp : AHeap} {parts : List (Nat × AV)} : buildA Try.prog hp 155 parts = (fillA hp (plf [(0, 1), (1, 1), (2, 1)]) [.val (.int .u8 0), .val (.int .i64 0), .val (.string ⟨#[]⟩)] parts).map .agg := buildA_of (by kernel_rfl) (by kernel_rfl)
theorem bd157 {hp : AHeap} {parts : List (Nat × AV)} : buildA Try.prog hp 157 parts = (fillA hp (plf [(0, 3), (3, 1)]) [.val (.int .u8 0), .val (.int .i64 0), .val (.string ⟨#[]⟩), .val (.int .i64 0)] parts).map .agg := buildA_of (by kernel_rfl) (by kernel_rfl)
theorem el22 : elemO Try.prog 22 = some 35 := by kernel_rfl
theorem el25 : elemO Try.prog 25 = some 37 := by kernel_rfl
theorem el33 : elemO Try.prog 33 = some 3 := by kernel_rfl
theorem el41 : elemO Try.prog 41 = some 5 := by kernel_rfl
theorem el44 : elemO Try.prog 44 = some 109 := by kernel_rfl
theorem el55 : elemO Try.prog 55 = some 62 := by kernel_rfl
theorem el60 : elemO Try.prog 60 = some 64 := by kernel_rfl
theorem el90 : elemO Try.prog 90 = some 153 := by kernel_rfl
theorem el92 : elemO Try.prog 92 = some 90 := by kernel_rfl
theorem el94 : elemO Try.prog 94 = some 9 := by kernel_rfl
theorem el151 : elemO Try.prog 151 = some 157 := by kernel_rfl
theorem el209 : elemO Try.prog 209 = some 33 := by kernel_rfl
theorem en79 : elemO Try.prog 79 = none := by kernel_rfl
theorem en80 : elemO Try.prog 80 = none := by kernel_rfl
theorem eo3 : (elemO Try.prog 3).isSome = false := by kernel_rfl
theorem eo5 : (elemO Try.prog 5).isSome = false := by kernel_rfl
theorem eo9 : (elemO Try.prog 9).isSome = false := by kernel_rfl
theorem eo41 : (elemO Try.prog 41).isSome = true := by kernel_rfl
theorem eo119 : (elemO Try.prog 119).isSome = false := by kernel_rfl
theorem eo191 : (elemO Try.prog 191).isSome = false := by kernel_rfl
theorem eo206 : (elemO Try.prog 206).isSome = false := by kernel_rfl
theorem eo219 : (elemO Try.prog 219).isSome = false := by kernel_rfl
theorem fl35_0 : fieldO Try.prog 35 0 = some (0, 9) := by kernel_rfl
theorem fl35_1 : fieldO Try.prog 35 1 = some (1, 9) := by kernel_rfl
theorem fl35_2 : fieldO Try.prog 35 2 = some (2, 33) := by kernel_rfl
theorem fl37_0 : fieldO Try.prog 37 0 = some (0, 3) := by kernel_rfl
theorem fl37_1 : fieldO Try.prog 37 1 = some (1, 35) := by kernel_rfl
theorem fl43_0 : fieldO Try.prog 43 0 = some (0, 3) := by kernel_rfl
theorem fl43_1 : fieldO Try.prog 43 1 = some (1, 3) := by kernel_rfl
theorem fl43_2 : fieldO Try.prog 43 2 = some (2, 3) := by kernel_rfl
theorem fl43_3 : fieldO Try.prog 43 3 = some (3, 3) := by kernel_rfl
theorem fl43_4 : fieldO Try.prog 43 4 = some (4, 3) := by kernel_rfl
theorem fl46_0 : fieldO Try.prog 46 0 = some (0, 41) := by kernel_rfl
theorem fl46_1 : fieldO Try.prog 46 1 = some (1, 41) := by kernel_rfl
theorem fl46_2 : fieldO Try.prog 46 2 = some (2, 43) := by kernel_rfl
theorem fl46_3 : fieldO Try.prog 46 3 = some (7, 44) := by kernel_rfl
theorem fl62_0 : fieldO Try.prog 62 0 = some (0, 3) := by kernel_rfl
theorem fl62_1 : fieldO Try.prog 62 1 = some (1, 3) := by kernel_rfl
theorem fl62_2 : fieldO Try.prog 62 2 = some (2, 3) := by kernel_rfl
theorem fl62_3 : fieldO Try.prog 62 3 = some (3, 4) := by kernel_rfl
theorem fl62_4 : fieldO Try.prog 62 4 = some (4, 41) := by kernel_rfl
theorem fl64_0 : fieldO Try.prog 64 0 = some (0, 3) := by kernel_rfl
theorem fl64_1 : fieldO Try.prog 64 1 = some (1, 3) := by kernel_rfl
theorem fl64_2 : fieldO Try.prog 64 2 = some (2, 41) := by kernel_rfl
theorem fl82_0 : fieldO Try.prog 82 0 = some (0, 3) := by kernel_rfl
theorem fl82_1 : fieldO Try.prog 82 1 = some (1, 3) := by kernel_rfl
theorem fl82_2 : fieldO Try.prog 82 2 = some (2, 79) := by kernel_rfl
theorem fl82_3 : fieldO Try.prog 82 3 = some (10, 60) := by kernel_rfl
theorem fl82_4 : fieldO Try.prog 82 4 = some (11, 80) := by kernel_rfl
theorem fl109_0 : fieldO Try.prog 109 0 = some (0, 3) := by kernel_rfl
theorem fl109_1 : fieldO Try.prog 109 1 = some (1, 3) := by kernel_rfl
theorem fl109_2 : fieldO Try.prog 109 2 = some (2, 3) := by kernel_rfl
theorem fl109_3 : fieldO Try.prog 109 3 = some (3, 3) := by kernel_rfl
theorem fl109_4 : fieldO Try.prog 109 4 = some (4, 33) := by kernel_rfl
theorem fl112_0 : fieldO Try.prog 112 0 = some (0, 41) := by kernel_rfl
theorem fl112_1 : fieldO Try.prog 112 1 = some (1, 3) := by kernel_rfl
theorem fl112_2 : fieldO Try.prog 112 2 = some (2, 28) := by kernel_rfl
theorem fl126_0 : fieldO Try.prog 126 0 = some (0, 41) := by kernel_rfl
theorem fl130_0 : fieldO Try.prog 130 0 = some (0, 3) := by kernel_rfl
theorem fl130_1 : fieldO Try.prog 130 1 = some (1, 3) := by kernel_rfl
theorem fl130_2 : fieldO Try.prog 130 2 = some (2, 79) := by kernel_rfl
theorem fl130_3 : fieldO Try.prog 130 3 = some (10, 60) := by kernel_rfl
theorem fl130_4 : fieldO Try.prog 130 4 = some (11, 3) := by kernel_rfl
theorem fl130_5 : fieldO Try.prog 130 5 = some (12, 3) := by kernel_rfl
theorem fl130_6 : fieldO Try.prog 130 6 = some (13, 3) := by kernel_rfl
theorem fl153_0 : fieldO Try.prog 153 0 = some (0, 9) := by kernel_rfl
theorem fl153_1 : fieldO Try.prog 153 1 = some (1, 151) := by kernel_rfl
theorem fl153_2 : fieldO Try.prog 153 2 = some (2, 33) := by kernel_rfl
theorem fl155_0 : fieldO Try.prog 155 0 = some (0, 5) := by kernel_rfl
theorem fl155_1 : fieldO Try.prog 155 1 = some (1, 3) := by kernel_rfl
theorem fl155_2 : fieldO Try.prog 155 2 = some (2, 9) := by kernel_rfl
theorem fl157_0 : fieldO Try.prog 157 0 = some (0, 155) := by kernel_rfl
theorem fl157_1 : fieldO Try.prog 157 1 = some (3, 3) := by kernel_rfl
theorem ik3 : intKindO Try.prog 3 = some .i64 := by kernel_rfl
theorem ik5 : intKindO Try.prog 5 = some .u8 := by kernel_rfl
theorem ik9 : intKindO Try.prog 9 = none := by kernel_rfl
theorem ik41 : intKindO Try.prog 41 = none := by kernel_rfl
theorem ik119 : intKindO Try.prog 119 = some .u64 := by kernel_rfl
theorem ik191 : intKindO Try.prog 191 = some .u64 := by kernel_rfl
theorem ik206 : intKindO Try.prog 206 = some .u32 := by kernel_rfl
theorem ik219 : intKindO Try.prog 219 = some .u64 := by kernel_rfl
theorem mk22 : makeC Try.prog 22 = some (35, 3, 56, [.val (.string ⟨#[]⟩), .val (.string ⟨#[]⟩), .val (.slice none 0 0)]) := by kernel_rfl
theorem mk25 : makeC Try.prog 25 = some (37, 4, 64, [.val (.int .i64 0), .val (.string ⟨#[]⟩), .val (.string ⟨#[]⟩), .val (.slice none 0 0)]) := by kernel_rfl
theorem mk33 : makeC Try.prog 33 = some (3, 1, 8, [.val (.int .i64 0)]) := by kernel_rfl
theorem mk41 : makeC Try.prog 41 = some (5, 1, 1, [.val (.int .u8 0)]) := by kernel_rfl
theorem mk44 : makeC Try.prog 44 = some (109, 5, 56, [.val (.int .i64 0), .val (.int .i64 0), .val (.int .i64 0), .val (.int .i64 0), .val (.slice none 0 0)]) := by kernel_rfl
theorem mk60 : makeC Try.prog 60 = some (64, 3, 40, [.val (.int .i64 0), .val (.int .i64 0), .val (.slice none 0 0)]) := by kernel_rfl
theorem mk90 : makeC Try.prog 90 = some (153, 3, 64, [.val (.string ⟨#[]⟩), .val (.slice none 0 0), .val (.slice none 0 0)]) := by kernel_rfl
theorem mk92 : makeC Try.prog 92 = some (90, 1, 24, [.val (.slice none 0 0)]) := by kernel_rfl
theorem mk94 : makeC Try.prog 94 = some (9, 1, 16, [.val (.string ⟨#[]⟩)]) := by kernel_rfl
theorem mk151 : makeC Try.prog 151 = some (157, 4, 40, [.val (.int .u8 0), .val (.int .i64 0), .val (.string ⟨#[]⟩), .val (.int .i64 0)]) := by kernel_rfl
theorem mk209 : makeC Try.prog 209 = some (33, 1, 24, [.val (.slice none 0 0)]) := by kernel_rfl
theorem ni9 : isNotIface Try.prog 9 = true := by kernel_rfl
theorem nm57 {x y : Operand} : binV Try.prog .neq 57 x y (.pointer none) (.pointer none) = some (.bool false) := by kernel_rfl
theorem nn57 {x y : Operand} : binV Try.prog .eql 57 x y (.pointer none) (.pointer none) = some (.bool true) := by kernel_rfl
theorem pt57 : isPtrT Try.prog 57 = true := by kernel_rfl
theorem st9 : isStrT Try.prog 9 = true := by kernel_rfl
theorem sz3 : szO Try.prog 3 = some 1 := by kernel_rfl
theorem sz4 : szO Try.prog 4 = some 1 := by kernel_rfl
theorem sz5 : szO Try.prog 5 = some 1 := by kernel_rfl
theorem sz8 : szO Try.prog 8 = some 4 := by kernel_rfl
theorem sz9 : szO Try.prog 9 = some 1 := by kernel_rfl
theorem sz28 : szO Try.prog 28 = some 1 := by kernel_rfl
theorem sz33 : szO Try.prog 33 = some 1 := by kernel_rfl
theorem sz35 : szO Try.prog 35 = some 3 := by kernel_rfl
theorem sz37 : szO Try.prog 37 = some 4 := by kernel_rfl
theorem sz41 : szO Try.prog 41 = some 1 := by kernel_rfl
theorem sz43 : szO Try.prog 43 = some 5 := by kernel_rfl
theorem sz44 : szO Try.prog 44 = some 1 := by kernel_rfl
theorem sz46 : szO Try.prog 46 = some 8 := by kernel_rfl
theorem sz60 : szO Try.prog 60 = some 1 := by kernel_rfl
theorem sz62 : szO Try.prog 62 = some 5 := by kernel_rfl
theorem sz64 : szO Try.prog 64 = some 3 := by kernel_rfl
theorem sz79 : szO Try.prog 79 = some 8 := by kernel_rfl
theorem sz80 : szO Try.prog 80 = some 3 := by kernel_rfl
theorem sz82 : szO Try.prog 82 = some 14 := by kernel_rfl
theorem sz90 : szO Try.prog 90 = some 1 := by kernel_rfl
theorem sz92 : szO Try.prog 92 = some 1 := by kernel_rfl
theorem sz109 : szO Try.prog 109 = some 5 := by kernel_rfl
theorem sz151 : szO Try.prog 151 = some 1 := by kernel_rfl
theorem sz153 : szO Try.prog 153 = some 3 := by kernel_rfl
theorem sz155 : szO Try.prog 155 = some 3 := by kernel_rfl
theorem sz157 : szO Try.prog 157 = some 4 := by kernel_rfl
theorem sz219 : szO Try.prog 219 = some 1 := by kernel_rfl
theorem u85 : isU8 Try.prog 5 = true := by kernel_rfl
theorem un3 : (Try.prog.underlying 3).isSome = true := by kernel_rfl
theorem un5 : (Try.prog.underlying 5).isSome = true := by kernel_rfl
theorem un9 : (Try.prog.underlying 9).isSome = true := by kernel_rfl
theorem un41 : (Try.prog.underlying 41).isSome = true := by kernel_rfl
theorem un119 : (Try.prog.underlying 119).isSome = true := by kernel_rfl
theorem un191 : (Try.prog.underlying 191).isSome = true := by kernel_rfl
theorem un206 : (Try.prog.underlying 206).isSome = true := by kernel_rfl
theorem zr3 : zeroC Try.prog 3 = some [.val (.int .i64 0)] := by kernel_rfl
theorem zr35 : zeroC Try.prog 35 = some [.val (.string ⟨#[]⟩), .val (.string ⟨#[]⟩), .val (.slice none 0 0)] := by kernel_rfl
theorem zr37 : zeroC Try.prog 37 = some [.val (.int .i64 0), .val (.string ⟨#[]⟩), .val (.string ⟨#[]⟩), .val (.slice none 0 0)] := by kernel_rfl
theorem zr43 : zeroC Try.prog 43 = some [.val (.int .i64 0), .val (.int .i64 0), .val (.int .i64 0), .val (.int .i64 0), .val (.int .i64 0)] := by kernel_rfl
theorem zr46 : zeroC Try.prog 46 = some [.val (.slice none 0 0), .val (.slice none 0 0), .val (.int .i64 0), .val (.int .i64 0), .val (.int .i64 0), .val (.int .i64 0), .val (.int .i64 0), .val (.slice none 0 0)] := by kernel_rfl
theorem zr62 : zeroC Try.prog 62 = some [.val (.int .i64 0), .val (.int .i64 0), .val (.int .i64 0), .val (.bool false), .val (.slice none 0 0)] := by kernel_rfl
theorem zr64 : zeroC Try.prog 64 = some [.val (.int .i64 0), .val (.int .i64 0), .val (.slice none 0 0)] := by kernel_rfl
theorem zr82 : zeroC Try.prog 82 = some [.val (.int .i64 0), .val (.int .i64 0), .val (.bool false), .val (.bool false), .val (.bool false), .val (.bool false), .val (.bool false), .val (.bool false), .val (.bool false), .val (.bool false), .val (.slice none 0 0), .val (.int .i64 0), .val (.int .i64 0), .val (.int .i64 0)] := by kernel_rfl
theorem zr90 : zeroC Try.prog 90 = some [.val (.slice none 0 0)] := by kernel_rfl
theorem zr109 : zeroC Try.prog 109 = some [.val (.int .i64 0), .val (.int .i64 0), .val (.int .i64 0), .val (.int .i64 0), .val (.slice none 0 0)] := by kernel_rfl
theorem zr153 : zeroC Try.prog 153 = some [.val (.string ⟨#[]⟩), .val (.slice none 0 0), .val (.slice none 0 0)] := by kernel_rfl
theorem zr157 : zeroC Try.prog 157 = some [.val (.int .u8 0), .val (.int .i64 0), .val (.string ⟨#[]⟩), .val (.int .i64 0)] := by kernel_rfl
theorem zr219 : zeroC Try.prog 219 = some [.val (.int .u64 0)] := by kernel_rfl
attribute [go_sem] ag3 ag4 ag5 ag9 ag28 ag33 ag35 ag37 ag41 ag43 ag44 ag46 ag60 ag62 ag64 ag80 ag82 ag90 ag92 ag109 ag151 ag153 ag155 ag157 ag219 ap22_22 ap25_25 ap33_3 ap33_33 ap41_9 ap41_41 ap44_44 ap60_3 ap60_60 ap90_90 ap94_94 ap151_151 ar79 ar80 bd35 bd37 bd43 bd46 bd64 bd80 bd82 bd109 bd112 bd126 bd130 bd153 bd155 bd157 el22 el25 el33 el41 el44 el55 el60 el90 el92 el94 el151 el209 en79 en80 eo3 eo5 eo9 eo41 eo119 eo191 eo206 eo219 fl35_0 fl35_1 fl35_2 fl37_0 fl37_1 fl43_0 fl43_1 fl43_2 fl43_3 fl43_4 fl46_0 fl46_1 fl46_2 fl46_3 fl62_0 fl62_1 fl62_2 fl62_3 fl62_4 fl64_0 fl64_1 fl64_2 fl82_0 fl82_1 fl82_2 fl82_3 fl82_4 fl109_0 fl109_1 fl109_2 fl109_3 fl109_4 fl112_0 fl112_1 fl112_2 fl126_0 fl130_0 fl130_1 fl130_2 fl130_3 fl130_4 fl130_5 fl130_6 fl153_0 fl153_1 fl153_2 fl155_0 fl155_1 fl155_2 fl157_0 fl157_1 ik3 ik5 ik9 ik41 ik119 ik191 ik206 ik219 mk22 mk25 mk33 mk41 mk44 mk60 mk90 mk92 mk94 mk151 mk209 ni9 nm57 nn57 pt57 st9 sz3 sz4 sz5 sz8 sz9 sz28 sz33 sz35 sz37 sz41 sz43 sz44 sz46 sz60 sz62 sz64 sz79 sz80 sz82 sz90 sz92 sz109 sz151 sz153 sz155 sz157 sz219 u85 un3 un5 un9 un41 un119 un191 un206 zr3 zr35 zr37 zr43 zr46 zr62 zr64 zr82 zr90 zr109 zr153 zr157 zr219
end Go.Proofs.Y1
