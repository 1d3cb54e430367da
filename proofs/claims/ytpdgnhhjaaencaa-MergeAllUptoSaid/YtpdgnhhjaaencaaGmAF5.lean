import Derived.Test.YtpdgnhhjaaencaaGmLh
import Derived.Test.YtpdgnhhjaaencaaProg
import Derived.KernelRfl
set_option linter.all false
set_option linter.unusedVariables false
set_option linter.unusedSimpArgs false
namespace Go.Proofs.Y5
open Go.Gm
theorem draws : Try.prog.follows .mixedOrders = true := by kernel_rfl
theorem ag3 : aggO Try.prog 3 = some false := by kernel_rfl
theorem ag5 : aggO Try.prog 5 = some false := by kernel_rfl
theorem ag9 : aggO Try.prog 9 = some false := by kernel_rfl
theorem ag22 : aggO Try.prog 22 = some false := by kernel_rfl
theorem ag25 : aggO Try.prog 25 = some false := by kernel_rfl
theorem ag30 : aggO Try.prog 30 = some false := by kernel_rfl
theorem ag31 : aggO Try.prog 31 = some false := by kernel_rfl
theorem ag33 : aggO Try.prog 33 = some true := by kernel_rfl
theorem ag35 : aggO Try.prog 35 = some true := by kernel_rfl
theorem ag37 : aggO Try.prog 37 = some true := by kernel_rfl
theorem ag78 : aggO Try.prog 78 = some false := by kernel_rfl
theorem ap22_22 {hp : AHeap} {id : Nat} {s x : AV} : appendA Try.prog hp id 22 22 s x = appS 3 64 hp id s (srcA Try.prog hp 3 22 x) := appendA_of (e := 33) (by kernel_rfl) (by kernel_rfl)
theorem ap25_25 {hp : AHeap} {id : Nat} {s x : AV} : appendA Try.prog hp id 25 25 s x = appS 1 24 hp id s (srcA Try.prog hp 1 25 x) := appendA_of (e := 22) (by kernel_rfl) (by kernel_rfl)
theorem ap30_30 {hp : AHeap} {id : Nat} {s x : AV} : appendA Try.prog hp id 30 30 s x = appS 4 40 hp id s (srcA Try.prog hp 4 30 x) := appendA_of (e := 37) (by kernel_rfl) (by kernel_rfl)
theorem ap31_3 {hp : AHeap} {id : Nat} {s x : AV} : appendA Try.prog hp id 31 3 s x = appS 1 8 hp id s (srcA Try.prog hp 1 3 x) := appendA_of (e := 3) (by kernel_rfl) (by kernel_rfl)
theorem ap31_31 {hp : AHeap} {id : Nat} {s x : AV} : appendA Try.prog hp id 31 31 s x = appS 1 8 hp id s (srcA Try.prog hp 1 31 x) := appendA_of (e := 3) (by kernel_rfl) (by kernel_rfl)
theorem bd33 {hp : AHeap} {parts : List (Nat × AV)} : buildA Try.prog hp 33 parts = (fillA hp (plf [(0, 1), (1, 1), (2, 1)]) [.val (.string ⟨#[]⟩), .val (.slice none 0 0), .val (.slice none 0 0)] parts).map .agg := buildA_of (by kernel_rfl) (by kernel_rfl)
theorem bd35 {hp : AHeap} {parts : List (Nat × AV)} : buildA Try.prog hp 35 parts = (fillA hp (plf [(0, 1), (1, 1), (2, 1)]) [.val (.int .u8 0), .val (.int .i64 0), .val (.string ⟨#[]⟩)] parts).map .agg := buildA_of (by kernel_rfl) (by kernel_rfl)
theorem bd37 {hp : AHeap} {parts : List (Nat × AV)} : buildA Try.prog hp 37 parts = (fillA hp (plf [(0, 3), (3, 1)]) [.val (.int .u8 0), .val (.int .i64 0), .val (.string ⟨#[]⟩), .val (.int .i64 0)] parts).map .agg := buildA_of (by kernel_rfl) (by kernel_rfl)
theorem el22 : elemO Try.prog 22 = some 33 := by kernel_rfl
theorem el25 : elemO Try.prog 25 = some 22 := by kernel_rfl
theorem el30 : elemO Try.prog 30 = some 37 := by kernel_rfl
theorem el31 : elemO Try.prog 31 = some 3 := by kernel_rfl
theorem el56 : elemO Try.prog 56 = some 31 := by kernel_rfl
theorem eo3 : (elemO Try.prog 3).isSome = false := by kernel_rfl
theorem eo5 : (elemO Try.prog 5).isSome = false := by kernel_rfl
theorem eo60 : (elemO Try.prog 60).isSome = false := by kernel_rfl
theorem eo73 : (elemO Try.prog 73).isSome = false := by kernel_rfl
theorem eo78 : (elemO Try.prog 78).isSome = false := by kernel_rfl
theorem fl33_0 : fieldO Try.prog 33 0 = some (0, 9) := by kernel_rfl
theorem fl33_1 : fieldO Try.prog 33 1 = some (1, 30) := by kernel_rfl
theorem fl33_2 : fieldO Try.prog 33 2 = some (2, 31) := by kernel_rfl
theorem fl35_0 : fieldO Try.prog 35 0 = some (0, 5) := by kernel_rfl
theorem fl35_1 : fieldO Try.prog 35 1 = some (1, 3) := by kernel_rfl
theorem fl35_2 : fieldO Try.prog 35 2 = some (2, 9) := by kernel_rfl
theorem fl37_0 : fieldO Try.prog 37 0 = some (0, 35) := by kernel_rfl
theorem fl37_1 : fieldO Try.prog 37 1 = some (3, 3) := by kernel_rfl
theorem ik3 : intKindO Try.prog 3 = some .i64 := by kernel_rfl
theorem ik5 : intKindO Try.prog 5 = some .u8 := by kernel_rfl
theorem ik60 : intKindO Try.prog 60 = some .u64 := by kernel_rfl
theorem ik73 : intKindO Try.prog 73 = some .u32 := by kernel_rfl
theorem ik78 : intKindO Try.prog 78 = some .u64 := by kernel_rfl
theorem mk22 : makeC Try.prog 22 = some (33, 3, 64, [.val (.string ⟨#[]⟩), .val (.slice none 0 0), .val (.slice none 0 0)]) := by kernel_rfl
theorem mk25 : makeC Try.prog 25 = some (22, 1, 24, [.val (.slice none 0 0)]) := by kernel_rfl
theorem mk30 : makeC Try.prog 30 = some (37, 4, 40, [.val (.int .u8 0), .val (.int .i64 0), .val (.string ⟨#[]⟩), .val (.int .i64 0)]) := by kernel_rfl
theorem mk31 : makeC Try.prog 31 = some (3, 1, 8, [.val (.int .i64 0)]) := by kernel_rfl
theorem mk56 : makeC Try.prog 56 = some (31, 1, 24, [.val (.slice none 0 0)]) := by kernel_rfl
theorem ni9 : isNotIface Try.prog 9 = true := by kernel_rfl
theorem st9 : isStrT Try.prog 9 = true := by kernel_rfl
theorem sz3 : szO Try.prog 3 = some 1 := by kernel_rfl
theorem sz5 : szO Try.prog 5 = some 1 := by kernel_rfl
theorem sz9 : szO Try.prog 9 = some 1 := by kernel_rfl
theorem sz22 : szO Try.prog 22 = some 1 := by kernel_rfl
theorem sz25 : szO Try.prog 25 = some 1 := by kernel_rfl
theorem sz30 : szO Try.prog 30 = some 1 := by kernel_rfl
theorem sz31 : szO Try.prog 31 = some 1 := by kernel_rfl
theorem sz33 : szO Try.prog 33 = some 3 := by kernel_rfl
theorem sz35 : szO Try.prog 35 = some 3 := by kernel_rfl
theorem sz37 : szO Try.prog 37 = some 4 := by kernel_rfl
theorem sz78 : szO Try.prog 78 = some 1 := by kernel_rfl
theorem un3 : (Try.prog.underlying 3).isSome = true := by kernel_rfl
theorem un5 : (Try.prog.underlying 5).isSome = true := by kernel_rfl
theorem un60 : (Try.prog.underlying 60).isSome = true := by kernel_rfl
theorem un73 : (Try.prog.underlying 73).isSome = true := by kernel_rfl
theorem un75 : (Try.prog.underlying 75).isSome = true := by kernel_rfl
theorem zr3 : zeroC Try.prog 3 = some [.val (.int .i64 0)] := by kernel_rfl
theorem zr22 : zeroC Try.prog 22 = some [.val (.slice none 0 0)] := by kernel_rfl
theorem zr33 : zeroC Try.prog 33 = some [.val (.string ⟨#[]⟩), .val (.slice none 0 0), .val (.slice none 0 0)] := by kernel_rfl
theorem zr78 : zeroC Try.prog 78 = some [.val (.int .u64 0)] := by kernel_rfl
attribute [go_sem] ag3 ag5 ag9 ag22 ag25 ag30 ag31 ag33 ag35 ag37 ag78 ap22_22 ap25_25 ap30_30 ap31_3 ap31_31 bd33 bd35 bd37 el22 el25 el30 el31 el56 eo3 eo5 eo60 eo73 eo78 fl33_0 fl33_1 fl33_2 fl35_0 fl35_1 fl35_2 fl37_0 fl37_1 ik3 ik5 ik60 ik73 ik78 mk22 mk25 mk30 mk31 mk56 ni9 st9 sz3 sz5 sz9 sz22 sz25 sz30 sz31 sz33 sz35 sz37 sz78 un3 un5 un60 un73 un75 zr3 zr22 zr33 zr78
end Go.Proofs.Y5
