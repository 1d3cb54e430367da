import Derived.Test.YtlonihmeikmpiaaDoorGfLh
import Derived.Test.YtlonihmeikmpiaaDoorProg
import Derived.KernelRfl
set_option linter.all false
set_option linter.unusedVariables false
set_option linter.unusedSimpArgs false
namespace Go.Proofs.Yd
open Go.Gm
theorem draws : Tryd.prog.follows .mixedOrders = true := by kernel_rfl
theorem ag3 : aggO Tryd.prog 3 = some false := by kernel_rfl
theorem ag5 : aggO Tryd.prog 5 = some false := by kernel_rfl
theorem ag9 : aggO Tryd.prog 9 = some false := by kernel_rfl
theorem ag22 : aggO Tryd.prog 22 = some false := by kernel_rfl
theorem ag24 : aggO Tryd.prog 24 = some true := by kernel_rfl
theorem ag25 : aggO Tryd.prog 25 = some false := by kernel_rfl
theorem ag34 : aggO Tryd.prog 34 = some false := by kernel_rfl
theorem ag36 : aggO Tryd.prog 36 = some true := by kernel_rfl
theorem ag39 : aggO Tryd.prog 39 = some true := by kernel_rfl
theorem ag46 : aggO Tryd.prog 46 = some true := by kernel_rfl
theorem ag47 : aggO Tryd.prog 47 = some true := by kernel_rfl
theorem ag54 : aggO Tryd.prog 54 = some true := by kernel_rfl
theorem ag55 : aggO Tryd.prog 55 = some false := by kernel_rfl
theorem ag61 : aggO Tryd.prog 61 = some false := by kernel_rfl
theorem ag78 : aggO Tryd.prog 78 = some false := by kernel_rfl
theorem ag104 : aggO Tryd.prog 104 = some true := by kernel_rfl
theorem ag109 : aggO Tryd.prog 109 = some true := by kernel_rfl
theorem ap25_25 {hp : AHeap} {id : Nat} {s x : AV} : appendA Tryd.prog hp id 25 25 s x = appS 1 8 hp id s (srcA Tryd.prog hp 1 25 x) := appendA_of (e := 3) (by kernel_rfl) (by kernel_rfl)
theorem ap34_9 {hp : AHeap} {id : Nat} {s x : AV} : appendA Tryd.prog hp id 34 9 s x = appS 1 1 hp id s (srcA Tryd.prog hp 1 9 x) := appendA_of (e := 5) (by kernel_rfl) (by kernel_rfl)
theorem ap34_34 {hp : AHeap} {id : Nat} {s x : AV} : appendA Tryd.prog hp id 34 34 s x = appS 1 1 hp id s (srcA Tryd.prog hp 1 34 x) := appendA_of (e := 5) (by kernel_rfl) (by kernel_rfl)
theorem ap44_44 {hp : AHeap} {id : Nat} {s x : AV} : appendA Tryd.prog hp id 44 44 s x = appS 1 16 hp id s (srcA Tryd.prog hp 1 44 x) := appendA_of (e := 9) (by kernel_rfl) (by kernel_rfl)
theorem ar46 : arrO Tryd.prog 46 = some (32, 5) := by kernel_rfl
theorem ar47 : arrO Tryd.prog 47 = some (32, 5) := by kernel_rfl
theorem ar98 : arrO Tryd.prog 98 = some (24, 5) := by kernel_rfl
theorem ar104 : arrO Tryd.prog 104 = some (20, 78) := by kernel_rfl
theorem ar106 : arrO Tryd.prog 106 = some (65, 5) := by kernel_rfl
theorem ar109 : arrO Tryd.prog 109 = some (64, 5) := by kernel_rfl
theorem bd46 {hp : AHeap} {parts : List (Nat × AV)} : buildA Tryd.prog hp 46 parts = (fillA hp pla1 [.val (.int .u8 0), .val (.int .u8 0), .val (.int .u8 0), .val (.int .u8 0), .val (.int .u8 0), .val (.int .u8 0), .val (.int .u8 0), .val (.int .u8 0), .val (.int .u8 0), .val (.int .u8 0), .val (.int .u8 0), .val (.int .u8 0), .val (.int .u8 0), .val (.int .u8 0), .val (.int .u8 0), .val (.int .u8 0), .val (.int .u8 0), .val (.int .u8 0), .val (.int .u8 0), .val (.int .u8 0), .val (.int .u8 0), .val (.int .u8 0), .val (.int .u8 0), .val (.int .u8 0), .val (.int .u8 0), .val (.int .u8 0), .val (.int .u8 0), .val (.int .u8 0), .val (.int .u8 0), .val (.int .u8 0), .val (.int .u8 0), .val (.int .u8 0)] parts).map .agg := buildA_arr (n := 32) (e := 5) (by kernel_rfl) (by kernel_rfl) (by kernel_rfl)
theorem bd54 {hp : AHeap} {parts : List (Nat × AV)} : buildA Tryd.prog hp 54 parts = (fillA hp (plf [(0, 1), (1, 1), (2, 1), (3, 1), (4, 1), (5, 1), (6, 1)]) [.val (.int .i64 0), .val (.int .i64 0), .val (.int .i64 0), .val (.int .i64 0), .val (.slice none 0 0), .val (.slice none 0 0), .val (.slice none 0 0)] parts).map .agg := buildA_of (by kernel_rfl) (by kernel_rfl)
theorem bd74 {hp : AHeap} {parts : List (Nat × AV)} : buildA Tryd.prog hp 74 parts = (fillA hp (plf [(0, 1), (1, 1), (2, 1)]) [.val (.slice none 0 0), .val (.int .i64 0), .val (.int .i64 0)] parts).map .agg := buildA_of (by kernel_rfl) (by kernel_rfl)
theorem bd104 {hp : AHeap} {parts : List (Nat × AV)} : buildA Tryd.prog hp 104 parts = (fillA hp pla1 [.val (.int .u64 0), .val (.int .u64 0), .val (.int .u64 0), .val (.int .u64 0), .val (.int .u64 0), .val (.int .u64 0), .val (.int .u64 0), .val (.int .u64 0), .val (.int .u64 0), .val (.int .u64 0), .val (.int .u64 0), .val (.int .u64 0), .val (.int .u64 0), .val (.int .u64 0), .val (.int .u64 0), .val (.int .u64 0), .val (.int .u64 0), .val (.int .u64 0), .val (.int .u64 0), .val (.int .u64 0)] parts).map .agg := buildA_arr (n := 20) (e := 78) (by kernel_rfl) (by kernel_rfl) (by kernel_rfl)
theorem bd109 {hp : AHeap} {parts : List (Nat × AV)} : buildA Tryd.prog hp 109 parts = (fillA hp pla1 [.val (.int .u8 0), .val (.int .u8 0), .val (.int .u8 0), .val (.int .u8 0), .val (.int .u8 0), .val (.int .u8 0), .val (.int .u8 0), .val (.int .u8 0), .val (.int .u8 0), .val (.int .u8 0), .val (.int .u8 0), .val (.int .u8 0), .val (.int .u8 0), .val (.int .u8 0), .val (.int .u8 0), .val (.int .u8 0), .val (.int .u8 0), .val (.int .u8 0), .val (.int .u8 0), .val (.int .u8 0), .val (.int .u8 0), .val (.int .u8 0), .val (.int .u8 0), .val (.int .u8 0), .val (.int .u8 0), .val (.int .u8 0), .val (.int .u8 0), .val (.int .u8 0), .val (.int .u8 0), .val (.int .u8 0), .val (.int .u8 0), .val (.int .u8 0), .val (.int .u8 0), .val (.int .u8 0), .val (.int .u8 0), .val (.int .u8 0), .val (.int .u8 0), .val (.int .u8 0), .val (.int .u8 0), .val (.int .u8 0), .val (.int .u8 0), .val (.int .u8 0), .val (.int .u8 0), .val (.int .u8 0), .val (.int .u8 0), .val (.int .u8 0), .val (.int .u8 0), .val (.int .u8 0), .val (.int .u8 0), .val (.int .u8 0), .val (.int .u8 0), .val (.int .u8 0), .val (.int .u8 0), .val (.int .u8 0), .val (.int .u8 0), .val (.int .u8 0), .val (.int .u8 0), .val (.int .u8 0), .val (.int .u8 0), .val (.int .u8 0), .val (.int .u8 0), .val (.int .u8 0), .val (.int .u8 0), .val (.int .u8 0)] parts).map .agg := buildA_arr (n := 64) (e := 5) (by kernel_rfl) (by kernel_rfl) (by kernel_rfl)
theorem el22 : elemO Tryd.prog 22 = some 47 := by kernel_rfl
theorem el25 : elemO Tryd.prog 25 = some 3 := by kernel_rfl
theorem el34 : elemO Tryd.prog 34 = some 5 := by kernel_rfl
theorem el37 : elemO Tryd.prog 37 = some 39 := by kernel_rfl
theorem el44 : elemO Tryd.prog 44 = some 9 := by kernel_rfl
theorem en46 : elemO Tryd.prog 46 = none := by kernel_rfl
theorem en98 : elemO Tryd.prog 98 = none := by kernel_rfl
theorem en104 : elemO Tryd.prog 104 = none := by kernel_rfl
theorem en106 : elemO Tryd.prog 106 = none := by kernel_rfl
theorem en109 : elemO Tryd.prog 109 = none := by kernel_rfl
theorem eo3 : (elemO Tryd.prog 3).isSome = false := by kernel_rfl
theorem eo5 : (elemO Tryd.prog 5).isSome = false := by kernel_rfl
theorem eo9 : (elemO Tryd.prog 9).isSome = false := by kernel_rfl
theorem eo34 : (elemO Tryd.prog 34).isSome = true := by kernel_rfl
theorem eo61 : (elemO Tryd.prog 61).isSome = false := by kernel_rfl
theorem eo70 : (elemO Tryd.prog 70).isSome = false := by kernel_rfl
theorem eo78 : (elemO Tryd.prog 78).isSome = false := by kernel_rfl
theorem eo94 : (elemO Tryd.prog 94).isSome = false := by kernel_rfl
theorem eo105 : (elemO Tryd.prog 105).isSome = false := by kernel_rfl
theorem fl24_0 : fieldO Tryd.prog 24 0 = some (0, 3) := by kernel_rfl
theorem fl24_1 : fieldO Tryd.prog 24 1 = some (1, 3) := by kernel_rfl
theorem fl24_2 : fieldO Tryd.prog 24 2 = some (2, 3) := by kernel_rfl
theorem fl24_3 : fieldO Tryd.prog 24 3 = some (3, 3) := by kernel_rfl
theorem fl24_4 : fieldO Tryd.prog 24 4 = some (4, 22) := by kernel_rfl
theorem fl36_0 : fieldO Tryd.prog 36 0 = some (0, 3) := by kernel_rfl
theorem fl36_1 : fieldO Tryd.prog 36 1 = some (1, 3) := by kernel_rfl
theorem fl36_2 : fieldO Tryd.prog 36 2 = some (2, 34) := by kernel_rfl
theorem fl39_0 : fieldO Tryd.prog 39 0 = some (0, 9) := by kernel_rfl
theorem fl39_1 : fieldO Tryd.prog 39 1 = some (1, 9) := by kernel_rfl
theorem fl39_2 : fieldO Tryd.prog 39 2 = some (2, 25) := by kernel_rfl
theorem fl54_0 : fieldO Tryd.prog 54 0 = some (0, 3) := by kernel_rfl
theorem fl54_1 : fieldO Tryd.prog 54 1 = some (1, 3) := by kernel_rfl
theorem fl54_2 : fieldO Tryd.prog 54 2 = some (2, 3) := by kernel_rfl
theorem fl54_3 : fieldO Tryd.prog 54 3 = some (3, 3) := by kernel_rfl
theorem fl54_4 : fieldO Tryd.prog 54 4 = some (4, 25) := by kernel_rfl
theorem fl54_5 : fieldO Tryd.prog 54 5 = some (5, 34) := by kernel_rfl
theorem fl54_6 : fieldO Tryd.prog 54 6 = some (6, 34) := by kernel_rfl
theorem fl63_0 : fieldO Tryd.prog 63 0 = some (0, 61) := by kernel_rfl
theorem fl63_1 : fieldO Tryd.prog 63 1 = some (1, 34) := by kernel_rfl
theorem fl74_0 : fieldO Tryd.prog 74 0 = some (0, 34) := by kernel_rfl
theorem fl74_1 : fieldO Tryd.prog 74 1 = some (1, 3) := by kernel_rfl
theorem fl74_2 : fieldO Tryd.prog 74 2 = some (2, 55) := by kernel_rfl
theorem ik3 : intKindO Tryd.prog 3 = some .i64 := by kernel_rfl
theorem ik5 : intKindO Tryd.prog 5 = some .u8 := by kernel_rfl
theorem ik9 : intKindO Tryd.prog 9 = none := by kernel_rfl
theorem ik34 : intKindO Tryd.prog 34 = none := by kernel_rfl
theorem ik61 : intKindO Tryd.prog 61 = none := by kernel_rfl
theorem ik70 : intKindO Tryd.prog 70 = some .u64 := by kernel_rfl
theorem ik78 : intKindO Tryd.prog 78 = some .u64 := by kernel_rfl
theorem ik94 : intKindO Tryd.prog 94 = none := by kernel_rfl
theorem ik105 : intKindO Tryd.prog 105 = some .u32 := by kernel_rfl
theorem mk25 : makeC Tryd.prog 25 = some (3, 1, 8, [.val (.int .i64 0)]) := by kernel_rfl
theorem mk34 : makeC Tryd.prog 34 = some (5, 1, 1, [.val (.int .u8 0)]) := by kernel_rfl
theorem mk44 : makeC Tryd.prog 44 = some (9, 1, 16, [.val (.string ⟨#[]⟩)]) := by kernel_rfl
theorem ni9 : isNotIface Tryd.prog 9 = true := by kernel_rfl
theorem nm61 {x y : Operand} : binV Tryd.prog .neq 61 x y (.pointer none) (.pointer none) = some (.bool false) := by kernel_rfl
theorem nn61 {x y : Operand} : binV Tryd.prog .eql 61 x y (.pointer none) (.pointer none) = some (.bool true) := by kernel_rfl
theorem pt61 : isPtrT Tryd.prog 61 = true := by kernel_rfl
theorem st9 : isStrT Tryd.prog 9 = true := by kernel_rfl
theorem sz3 : szO Tryd.prog 3 = some 1 := by kernel_rfl
theorem sz5 : szO Tryd.prog 5 = some 1 := by kernel_rfl
theorem sz9 : szO Tryd.prog 9 = some 1 := by kernel_rfl
theorem sz22 : szO Tryd.prog 22 = some 1 := by kernel_rfl
theorem sz24 : szO Tryd.prog 24 = some 5 := by kernel_rfl
theorem sz25 : szO Tryd.prog 25 = some 1 := by kernel_rfl
theorem sz34 : szO Tryd.prog 34 = some 1 := by kernel_rfl
theorem sz36 : szO Tryd.prog 36 = some 3 := by kernel_rfl
theorem sz39 : szO Tryd.prog 39 = some 3 := by kernel_rfl
theorem sz46 : szO Tryd.prog 46 = some 32 := by kernel_rfl
theorem sz47 : szO Tryd.prog 47 = some 32 := by kernel_rfl
theorem sz54 : szO Tryd.prog 54 = some 7 := by kernel_rfl
theorem sz55 : szO Tryd.prog 55 = some 1 := by kernel_rfl
theorem sz61 : szO Tryd.prog 61 = some 1 := by kernel_rfl
theorem sz78 : szO Tryd.prog 78 = some 1 := by kernel_rfl
theorem sz104 : szO Tryd.prog 104 = some 20 := by kernel_rfl
theorem sz109 : szO Tryd.prog 109 = some 64 := by kernel_rfl
theorem u85 : isU8 Tryd.prog 5 = true := by kernel_rfl
theorem un2 : (Tryd.prog.underlying 2).isSome = true := by kernel_rfl
theorem un3 : (Tryd.prog.underlying 3).isSome = true := by kernel_rfl
theorem un5 : (Tryd.prog.underlying 5).isSome = true := by kernel_rfl
theorem un9 : (Tryd.prog.underlying 9).isSome = true := by kernel_rfl
theorem un34 : (Tryd.prog.underlying 34).isSome = true := by kernel_rfl
theorem un61 : (Tryd.prog.underlying 61).isSome = true := by kernel_rfl
theorem un70 : (Tryd.prog.underlying 70).isSome = true := by kernel_rfl
theorem un78 : (Tryd.prog.underlying 78).isSome = true := by kernel_rfl
theorem un94 : (Tryd.prog.underlying 94).isSome = true := by kernel_rfl
theorem un105 : (Tryd.prog.underlying 105).isSome = true := by kernel_rfl
theorem zr39 : zeroC Tryd.prog 39 = some [.val (.string ⟨#[]⟩), .val (.string ⟨#[]⟩), .val (.slice none 0 0)] := by kernel_rfl
theorem zr47 : zeroC Tryd.prog 47 = some [.val (.int .u8 0), .val (.int .u8 0), .val (.int .u8 0), .val (.int .u8 0), .val (.int .u8 0), .val (.int .u8 0), .val (.int .u8 0), .val (.int .u8 0), .val (.int .u8 0), .val (.int .u8 0), .val (.int .u8 0), .val (.int .u8 0), .val (.int .u8 0), .val (.int .u8 0), .val (.int .u8 0), .val (.int .u8 0), .val (.int .u8 0), .val (.int .u8 0), .val (.int .u8 0), .val (.int .u8 0), .val (.int .u8 0), .val (.int .u8 0), .val (.int .u8 0), .val (.int .u8 0), .val (.int .u8 0), .val (.int .u8 0), .val (.int .u8 0), .val (.int .u8 0), .val (.int .u8 0), .val (.int .u8 0), .val (.int .u8 0), .val (.int .u8 0)] := by kernel_rfl
theorem zr54 : zeroC Tryd.prog 54 = some [.val (.int .i64 0), .val (.int .i64 0), .val (.int .i64 0), .val (.int .i64 0), .val (.slice none 0 0), .val (.slice none 0 0), .val (.slice none 0 0)] := by kernel_rfl
theorem zr63 : zeroC Tryd.prog 63 = some [.val (.pointer none), .val (.slice none 0 0)] := by kernel_rfl
theorem zr98 : zeroC Tryd.prog 98 = some [.val (.int .u8 0), .val (.int .u8 0), .val (.int .u8 0), .val (.int .u8 0), .val (.int .u8 0), .val (.int .u8 0), .val (.int .u8 0), .val (.int .u8 0), .val (.int .u8 0), .val (.int .u8 0), .val (.int .u8 0), .val (.int .u8 0), .val (.int .u8 0), .val (.int .u8 0), .val (.int .u8 0), .val (.int .u8 0), .val (.int .u8 0), .val (.int .u8 0), .val (.int .u8 0), .val (.int .u8 0), .val (.int .u8 0), .val (.int .u8 0), .val (.int .u8 0), .val (.int .u8 0)] := by kernel_rfl
theorem zr106 : zeroC Tryd.prog 106 = some [.val (.int .u8 0), .val (.int .u8 0), .val (.int .u8 0), .val (.int .u8 0), .val (.int .u8 0), .val (.int .u8 0), .val (.int .u8 0), .val (.int .u8 0), .val (.int .u8 0), .val (.int .u8 0), .val (.int .u8 0), .val (.int .u8 0), .val (.int .u8 0), .val (.int .u8 0), .val (.int .u8 0), .val (.int .u8 0), .val (.int .u8 0), .val (.int .u8 0), .val (.int .u8 0), .val (.int .u8 0), .val (.int .u8 0), .val (.int .u8 0), .val (.int .u8 0), .val (.int .u8 0), .val (.int .u8 0), .val (.int .u8 0), .val (.int .u8 0), .val (.int .u8 0), .val (.int .u8 0), .val (.int .u8 0), .val (.int .u8 0), .val (.int .u8 0), .val (.int .u8 0), .val (.int .u8 0), .val (.int .u8 0), .val (.int .u8 0), .val (.int .u8 0), .val (.int .u8 0), .val (.int .u8 0), .val (.int .u8 0), .val (.int .u8 0), .val (.int .u8 0), .val (.int .u8 0), .val (.int .u8 0), .val (.int .u8 0), .val (.int .u8 0), .val (.int .u8 0), .val (.int .u8 0), .val (.int .u8 0), .val (.int .u8 0), .val (.int .u8 0), .val (.int .u8 0), .val (.int .u8 0), .val (.int .u8 0), .val (.int .u8 0), .val (.int .u8 0), .val (.int .u8 0), .val (.int .u8 0), .val (.int .u8 0), .val (.int .u8 0), .val (.int .u8 0), .val (.int .u8 0), .val (.int .u8 0), .val (.int .u8 0), .val (.int .u8 0)] := by kernel_rfl
attribute [go_sem] ag3 ag5 ag9 ag22 ag24 ag25 ag34 ag36 ag39 ag46 ag47 ag54 ag55 ag61 ag78 ag104 ag109 ap25_25 ap34_9 ap34_34 ap44_44 ar46 ar47 ar98 ar104 ar106 ar109 bd46 bd54 bd74 bd104 bd109 el22 el25 el34 el37 el44 en46 en98 en104 en106 en109 eo3 eo5 eo9 eo34 eo61 eo70 eo78 eo94 eo105 fl24_0 fl24_1 fl24_2 fl24_3 fl24_4 fl36_0 fl36_1 fl36_2 fl39_0 fl39_1 fl39_2 fl54_0 fl54_1 fl54_2 fl54_3 fl54_4 fl54_5 fl54_6 fl63_0 fl63_1 fl74_0 fl74_1 fl74_2 ik3 ik5 ik9 ik34 ik61 ik70 ik78 ik94 ik105 mk25 mk34 mk44 ni9 nm61 nn61 pt61 st9 sz3 sz5 sz9 sz22 sz24 sz25 sz34 sz36 sz39 sz46 sz47 sz54 sz55 sz61 sz78 sz104 sz109 u85 un2 un3 un5 un9 un34 un61 un70 un78 un94 un105 zr39 zr47 zr54 zr63 zr98 zr106
end Go.Proofs.Yd
