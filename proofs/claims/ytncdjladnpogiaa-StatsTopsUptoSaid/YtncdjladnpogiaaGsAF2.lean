import Derived.Test.YtncdjladnpogiaaGsLh
import Derived.Test.YtncdjladnpogiaaProg
import Derived.KernelRfl
set_option linter.all false
set_option linter.unusedVariables false
set_option linter.unusedSimpArgs false
namespace Go.Proofs.Y2
open Go.Gm
theorem draws : Try.prog.follows .mixedOrders = true := by kernel_rfl
theorem ag3 : aggO Try.prog 3 = some false := by kernel_rfl
theorem ag4 : aggO Try.prog 4 = some false := by kernel_rfl
theorem ag5 : aggO Try.prog 5 = some false := by kernel_rfl
theorem ag9 : aggO Try.prog 9 = some false := by kernel_rfl
theorem ag25 : aggO Try.prog 25 = some false := by kernel_rfl
theorem ag27 : aggO Try.prog 27 = some true := by kernel_rfl
theorem ag37 : aggO Try.prog 37 = some false := by kernel_rfl
theorem ag39 : aggO Try.prog 39 = some false := by kernel_rfl
theorem ag41 : aggO Try.prog 41 = some false := by kernel_rfl
theorem ag43 : aggO Try.prog 43 = some true := by kernel_rfl
theorem ag47 : aggO Try.prog 47 = some true := by kernel_rfl
theorem ag50 : aggO Try.prog 50 = some true := by kernel_rfl
theorem ag61 : aggO Try.prog 61 = some true := by kernel_rfl
theorem ag63 : aggO Try.prog 63 = some true := by kernel_rfl
theorem ag74 : aggO Try.prog 74 = some false := by kernel_rfl
theorem ag116 : aggO Try.prog 116 = some false := by kernel_rfl
theorem ap22_22 {hp : AHeap} {id : Nat} {s x : AV} : appendA Try.prog hp id 22 22 s x = appS 3 56 hp id s (srcA Try.prog hp 3 22 x) := appendA_of (e := 27) (by kernel_rfl) (by kernel_rfl)
theorem ap25_3 {hp : AHeap} {id : Nat} {s x : AV} : appendA Try.prog hp id 25 3 s x = appS 1 8 hp id s (srcA Try.prog hp 1 3 x) := appendA_of (e := 3) (by kernel_rfl) (by kernel_rfl)
theorem ap25_25 {hp : AHeap} {id : Nat} {s x : AV} : appendA Try.prog hp id 25 25 s x = appS 1 8 hp id s (srcA Try.prog hp 1 25 x) := appendA_of (e := 3) (by kernel_rfl) (by kernel_rfl)
theorem ap28_28 {hp : AHeap} {id : Nat} {s x : AV} : appendA Try.prog hp id 28 28 s x = appS 2 24 hp id s (srcA Try.prog hp 2 28 x) := appendA_of (e := 47) (by kernel_rfl) (by kernel_rfl)
theorem ap37_37 {hp : AHeap} {id : Nat} {s x : AV} : appendA Try.prog hp id 37 37 s x = appS 3 64 hp id s (srcA Try.prog hp 3 37 x) := appendA_of (e := 43) (by kernel_rfl) (by kernel_rfl)
theorem ap39_39 {hp : AHeap} {id : Nat} {s x : AV} : appendA Try.prog hp id 39 39 s x = appS 1 24 hp id s (srcA Try.prog hp 1 39 x) := appendA_of (e := 37) (by kernel_rfl) (by kernel_rfl)
theorem ap41_41 {hp : AHeap} {id : Nat} {s x : AV} : appendA Try.prog hp id 41 41 s x = appS 4 40 hp id s (srcA Try.prog hp 4 41 x) := appendA_of (e := 63) (by kernel_rfl) (by kernel_rfl)
theorem ap48_48 {hp : AHeap} {id : Nat} {s x : AV} : appendA Try.prog hp id 48 48 s x = appS 3 56 hp id s (srcA Try.prog hp 3 48 x) := appendA_of (e := 50) (by kernel_rfl) (by kernel_rfl)
theorem ap57_57 {hp : AHeap} {id : Nat} {s x : AV} : appendA Try.prog hp id 57 57 s x = appS 1 16 hp id s (srcA Try.prog hp 1 57 x) := appendA_of (e := 9) (by kernel_rfl) (by kernel_rfl)
theorem bd43 {hp : AHeap} {parts : List (Nat × AV)} : buildA Try.prog hp 43 parts = (fillA hp (plf [(0, 1), (1, 1), (2, 1)]) [.val (.string ⟨#[]⟩), .val (.slice none 0 0), .val (.slice none 0 0)] parts).map .agg := buildA_of (by kernel_rfl) (by kernel_rfl)
theorem bd47 {hp : AHeap} {parts : List (Nat × AV)} : buildA Try.prog hp 47 parts = (fillA hp (plf [(0, 1), (1, 1)]) [.val (.int .i64 0), .val (.string ⟨#[]⟩)] parts).map .agg := buildA_of (by kernel_rfl) (by kernel_rfl)
theorem bd50 {hp : AHeap} {parts : List (Nat × AV)} : buildA Try.prog hp 50 parts = (fillA hp (plf [(0, 3)]) [.val (.string ⟨#[]⟩), .val (.string ⟨#[]⟩), .val (.slice none 0 0)] parts).map .agg := buildA_of (by kernel_rfl) (by kernel_rfl)
theorem bd61 {hp : AHeap} {parts : List (Nat × AV)} : buildA Try.prog hp 61 parts = (fillA hp (plf [(0, 1), (1, 1), (2, 1)]) [.val (.int .u8 0), .val (.int .i64 0), .val (.string ⟨#[]⟩)] parts).map .agg := buildA_of (by kernel_rfl) (by kernel_rfl)
theorem bd63 {hp : AHeap} {parts : List (Nat × AV)} : buildA Try.prog hp 63 parts = (fillA hp (plf [(0, 3), (3, 1)]) [.val (.int .u8 0), .val (.int .i64 0), .val (.string ⟨#[]⟩), .val (.int .i64 0)] parts).map .agg := buildA_of (by kernel_rfl) (by kernel_rfl)
theorem el22 : elemO Try.prog 22 = some 27 := by kernel_rfl
theorem el23 : elemO Try.prog 23 = some 5 := by kernel_rfl
theorem el25 : elemO Try.prog 25 = some 3 := by kernel_rfl
theorem el28 : elemO Try.prog 28 = some 47 := by kernel_rfl
theorem el37 : elemO Try.prog 37 = some 43 := by kernel_rfl
theorem el39 : elemO Try.prog 39 = some 37 := by kernel_rfl
theorem el41 : elemO Try.prog 41 = some 63 := by kernel_rfl
theorem el48 : elemO Try.prog 48 = some 50 := by kernel_rfl
theorem el55 : elemO Try.prog 55 = some 4 := by kernel_rfl
theorem el57 : elemO Try.prog 57 = some 9 := by kernel_rfl
theorem el100 : elemO Try.prog 100 = some 25 := by kernel_rfl
theorem eo3 : (elemO Try.prog 3).isSome = false := by kernel_rfl
theorem eo5 : (elemO Try.prog 5).isSome = false := by kernel_rfl
theorem eo9 : (elemO Try.prog 9).isSome = false := by kernel_rfl
theorem eo23 : (elemO Try.prog 23).isSome = true := by kernel_rfl
theorem eo74 : (elemO Try.prog 74).isSome = false := by kernel_rfl
theorem eo76 : (elemO Try.prog 76).isSome = false := by kernel_rfl
theorem eo96 : (elemO Try.prog 96).isSome = false := by kernel_rfl
theorem eo116 : (elemO Try.prog 116).isSome = false := by kernel_rfl
theorem fl27_0 : fieldO Try.prog 27 0 = some (0, 9) := by kernel_rfl
theorem fl27_1 : fieldO Try.prog 27 1 = some (1, 9) := by kernel_rfl
theorem fl27_2 : fieldO Try.prog 27 2 = some (2, 25) := by kernel_rfl
theorem fl43_0 : fieldO Try.prog 43 0 = some (0, 9) := by kernel_rfl
theorem fl43_1 : fieldO Try.prog 43 1 = some (1, 41) := by kernel_rfl
theorem fl43_2 : fieldO Try.prog 43 2 = some (2, 25) := by kernel_rfl
theorem fl47_0 : fieldO Try.prog 47 0 = some (0, 3) := by kernel_rfl
theorem fl50_0 : fieldO Try.prog 50 0 = some (0, 27) := by kernel_rfl
theorem fl61_0 : fieldO Try.prog 61 0 = some (0, 5) := by kernel_rfl
theorem fl61_1 : fieldO Try.prog 61 1 = some (1, 3) := by kernel_rfl
theorem fl61_2 : fieldO Try.prog 61 2 = some (2, 9) := by kernel_rfl
theorem fl63_0 : fieldO Try.prog 63 0 = some (0, 61) := by kernel_rfl
theorem fl63_1 : fieldO Try.prog 63 1 = some (3, 3) := by kernel_rfl
theorem ik3 : intKindO Try.prog 3 = some .i64 := by kernel_rfl
theorem ik5 : intKindO Try.prog 5 = some .u8 := by kernel_rfl
theorem ik9 : intKindO Try.prog 9 = none := by kernel_rfl
theorem ik23 : intKindO Try.prog 23 = none := by kernel_rfl
theorem ik74 : intKindO Try.prog 74 = some .u32 := by kernel_rfl
theorem ik76 : intKindO Try.prog 76 = some .u64 := by kernel_rfl
theorem ik96 : intKindO Try.prog 96 = some .u64 := by kernel_rfl
theorem ik116 : intKindO Try.prog 116 = some .u64 := by kernel_rfl
theorem mk22 : makeC Try.prog 22 = some (27, 3, 56, [.val (.string ⟨#[]⟩), .val (.string ⟨#[]⟩), .val (.slice none 0 0)]) := by kernel_rfl
theorem mk25 : makeC Try.prog 25 = some (3, 1, 8, [.val (.int .i64 0)]) := by kernel_rfl
theorem mk28 : makeC Try.prog 28 = some (47, 2, 24, [.val (.int .i64 0), .val (.string ⟨#[]⟩)]) := by kernel_rfl
theorem mk37 : makeC Try.prog 37 = some (43, 3, 64, [.val (.string ⟨#[]⟩), .val (.slice none 0 0), .val (.slice none 0 0)]) := by kernel_rfl
theorem mk39 : makeC Try.prog 39 = some (37, 1, 24, [.val (.slice none 0 0)]) := by kernel_rfl
theorem mk41 : makeC Try.prog 41 = some (63, 4, 40, [.val (.int .u8 0), .val (.int .i64 0), .val (.string ⟨#[]⟩), .val (.int .i64 0)]) := by kernel_rfl
theorem mk48 : makeC Try.prog 48 = some (50, 3, 56, [.val (.string ⟨#[]⟩), .val (.string ⟨#[]⟩), .val (.slice none 0 0)]) := by kernel_rfl
theorem mk55 : makeC Try.prog 55 = some (4, 1, 1, [.val (.bool false)]) := by kernel_rfl
theorem mk57 : makeC Try.prog 57 = some (9, 1, 16, [.val (.string ⟨#[]⟩)]) := by kernel_rfl
theorem mk100 : makeC Try.prog 100 = some (25, 1, 24, [.val (.slice none 0 0)]) := by kernel_rfl
theorem ni9 : isNotIface Try.prog 9 = true := by kernel_rfl
theorem st9 : isStrT Try.prog 9 = true := by kernel_rfl
theorem sz3 : szO Try.prog 3 = some 1 := by kernel_rfl
theorem sz4 : szO Try.prog 4 = some 1 := by kernel_rfl
theorem sz5 : szO Try.prog 5 = some 1 := by kernel_rfl
theorem sz9 : szO Try.prog 9 = some 1 := by kernel_rfl
theorem sz25 : szO Try.prog 25 = some 1 := by kernel_rfl
theorem sz27 : szO Try.prog 27 = some 3 := by kernel_rfl
theorem sz37 : szO Try.prog 37 = some 1 := by kernel_rfl
theorem sz39 : szO Try.prog 39 = some 1 := by kernel_rfl
theorem sz41 : szO Try.prog 41 = some 1 := by kernel_rfl
theorem sz43 : szO Try.prog 43 = some 3 := by kernel_rfl
theorem sz47 : szO Try.prog 47 = some 2 := by kernel_rfl
theorem sz50 : szO Try.prog 50 = some 3 := by kernel_rfl
theorem sz61 : szO Try.prog 61 = some 3 := by kernel_rfl
theorem sz63 : szO Try.prog 63 = some 4 := by kernel_rfl
theorem sz74 : szO Try.prog 74 = some 1 := by kernel_rfl
theorem sz116 : szO Try.prog 116 = some 1 := by kernel_rfl
theorem u85 : isU8 Try.prog 5 = true := by kernel_rfl
theorem un3 : (Try.prog.underlying 3).isSome = true := by kernel_rfl
theorem un5 : (Try.prog.underlying 5).isSome = true := by kernel_rfl
theorem un9 : (Try.prog.underlying 9).isSome = true := by kernel_rfl
theorem un23 : (Try.prog.underlying 23).isSome = true := by kernel_rfl
theorem un74 : (Try.prog.underlying 74).isSome = true := by kernel_rfl
theorem un76 : (Try.prog.underlying 76).isSome = true := by kernel_rfl
theorem un96 : (Try.prog.underlying 96).isSome = true := by kernel_rfl
theorem zr3 : zeroC Try.prog 3 = some [.val (.int .i64 0)] := by kernel_rfl
theorem zr27 : zeroC Try.prog 27 = some [.val (.string ⟨#[]⟩), .val (.string ⟨#[]⟩), .val (.slice none 0 0)] := by kernel_rfl
theorem zr37 : zeroC Try.prog 37 = some [.val (.slice none 0 0)] := by kernel_rfl
theorem zr43 : zeroC Try.prog 43 = some [.val (.string ⟨#[]⟩), .val (.slice none 0 0), .val (.slice none 0 0)] := by kernel_rfl
theorem zr47 : zeroC Try.prog 47 = some [.val (.int .i64 0), .val (.string ⟨#[]⟩)] := by kernel_rfl
theorem zr50 : zeroC Try.prog 50 = some [.val (.string ⟨#[]⟩), .val (.string ⟨#[]⟩), .val (.slice none 0 0)] := by kernel_rfl
theorem zr74 : zeroC Try.prog 74 = some [.val (.int .u32 0)] := by kernel_rfl
theorem zr116 : zeroC Try.prog 116 = some [.val (.int .u64 0)] := by kernel_rfl
attribute [go_sem] ag3 ag4 ag5 ag9 ag25 ag27 ag37 ag39 ag41 ag43 ag47 ag50 ag61 ag63 ag74 ag116 ap22_22 ap25_3 ap25_25 ap28_28 ap37_37 ap39_39 ap41_41 ap48_48 ap57_57 bd43 bd47 bd50 bd61 bd63 el22 el23 el25 el28 el37 el39 el41 el48 el55 el57 el100 eo3 eo5 eo9 eo23 eo74 eo76 eo96 eo116 fl27_0 fl27_1 fl27_2 fl43_0 fl43_1 fl43_2 fl47_0 fl50_0 fl61_0 fl61_1 fl61_2 fl63_0 fl63_1 ik3 ik5 ik9 ik23 ik74 ik76 ik96 ik116 mk22 mk25 mk28 mk37 mk39 mk41 mk48 mk55 mk57 mk100 ni9 st9 sz3 sz4 sz5 sz9 sz25 sz27 sz37 sz39 sz41 sz43 sz47 sz50 sz61 sz63 sz74 sz116 u85 un3 un5 un9 un23 un74 un76 un96 zr3 zr27 zr37 zr43 zr47 zr50 zr74 zr116
end Go.Proofs.Y2
