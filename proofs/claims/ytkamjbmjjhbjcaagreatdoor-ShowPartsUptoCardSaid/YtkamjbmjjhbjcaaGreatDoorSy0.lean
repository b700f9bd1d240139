/- The trees' functions. Printed by Gen.lean, merge.py. -/
import Derived.Test.YtkamjbmjjhbjcaaGreatDoorBc
import Derived.Test.YtkamjbmjjhbjcaaGreatDoorProg
import Derived.KernelRfl
namespace Go.Proofs.YtkamjbmjjhbjcaaGreatDoor
open Go.RowKit
set_option linter.unusedSimpArgs false
set_option linter.unusedVariables false

theorem mixed : Tryz.prog.follows .mixedOrders = true := by kernel_rfl
def t4 : FT where
  keep := []
  kb := fun
    | _ => []
  sd := fun
    | _ => []
theorem f4_at : Tryz.prog.funcs[4]? = some Tryz.f4 := by kernel_rfl
theorem f4_body : Tryz.f4.body.isSome = true := by kernel_rfl
theorem f4_tab : tabOk t4.sd t4.sx (bodyOf Tryz.f4) = true := by kernel_rfl
def t12 : FT where
  keep := []
  kb := fun
    | 0 => [3, 1]
    | _ => []
  sd := fun
    | _ => []
theorem f12_at : Tryz.prog.funcs[12]? = some Tryz.f12 := by kernel_rfl
theorem f12_body : Tryz.f12.body.isSome = true := by kernel_rfl
theorem f12_tab : tabOk t12.sd t12.sx (bodyOf Tryz.f12) = true := by kernel_rfl
theorem f12_loop0 : isLoop1 (subs 0 (bodyOf Tryz.f12)) = true := by kernel_rfl
theorem f12_tab0 : tabOk t12.sd t12.sx (lb Tryz.f12 0) = true := by kernel_rfl
def t13 : FT where
  keep := []
  kb := fun
    | 0 => [4, 1, 3]
    | _ => []
  sd := fun
    | _ => []
theorem f13_at : Tryz.prog.funcs[13]? = some Tryz.f13 := by kernel_rfl
theorem f13_body : Tryz.f13.body.isSome = true := by kernel_rfl
theorem f13_tab : tabOk t13.sd t13.sx (bodyOf Tryz.f13) = true := by kernel_rfl
theorem f13_loop0 : isLoop1 (subs 0 (bodyOf Tryz.f13)) = true := by kernel_rfl
theorem f13_tab0 : tabOk t13.sd t13.sx (lb Tryz.f13 0) = true := by kernel_rfl
def t14 : FT where
  keep := []
  kb := fun
    | 0 => [3, 1]
    | _ => []
  sd := fun
    | _ => []
theorem f14_at : Tryz.prog.funcs[14]? = some Tryz.f14 := by kernel_rfl
theorem f14_body : Tryz.f14.body.isSome = true := by kernel_rfl
theorem f14_tab : tabOk t14.sd t14.sx (bodyOf Tryz.f14) = true := by kernel_rfl
theorem f14_loop0 : isLoop1 (subs 0 (bodyOf Tryz.f14)) = true := by kernel_rfl
theorem f14_tab0 : tabOk t14.sd t14.sx (lb Tryz.f14 0) = true := by kernel_rfl
def t15 : FT where
  keep := []
  kb := fun
    | 0 => [4, 1, 3]
    | _ => []
  sd := fun
    | 3 => [(0, true), (1, true), (2, true), (3, true), (6, true), (7, true), (8, true), (9, true), (4, false), (5, true), (10, false), (11, true), (12, true)]
    | 4 => [(0, true), (1, true), (2, true), (3, true), (6, true), (7, true), (8, true), (9, true), (4, false), (5, true), (10, false), (11, true), (12, true)]
    | _ => []
theorem f15_at : Tryz.prog.funcs[15]? = some Tryz.f15 := by kernel_rfl
theorem f15_body : Tryz.f15.body.isSome = true := by kernel_rfl
theorem f15_tab : tabOk t15.sd t15.sx (bodyOf Tryz.f15) = true := by kernel_rfl
theorem f15_loop0 : isLoop1 (subs 0 (bodyOf Tryz.f15)) = true := by kernel_rfl
theorem f15_tab0 : tabOk t15.sd t15.sx (lb Tryz.f15 0) = true := by kernel_rfl
def t16 : FT where
  keep := []
  kb := fun
    | 1 => [28, 27, 26, 3]
    | _ => []
  sd := fun
    | _ => []
theorem f16_at : Tryz.prog.funcs[16]? = some Tryz.f16 := by kernel_rfl
theorem f16_body : Tryz.f16.body.isSome = true := by kernel_rfl
theorem f16_tab : tabOk t16.sd t16.sx (bodyOf Tryz.f16) = true := by kernel_rfl
theorem f16_loop1 : isLoop1 (subs 1 (bodyOf Tryz.f16)) = true := by kernel_rfl
theorem f16_tab1 : tabOk t16.sd t16.sx (lb Tryz.f16 1) = true := by kernel_rfl
def t17 : FT where
  keep := []
  kb := fun
    | _ => []
  sd := fun
    | _ => []
theorem f17_at : Tryz.prog.funcs[17]? = some Tryz.f17 := by kernel_rfl
theorem f17_body : Tryz.f17.body.isSome = true := by kernel_rfl
theorem f17_tab : tabOk t17.sd t17.sx (bodyOf Tryz.f17) = true := by kernel_rfl
def t29 : FT where
  keep := []
  kb := fun
    | _ => []
  sd := fun
    | _ => []
theorem f29_at : Tryz.prog.funcs[29]? = some Tryz.f29 := by kernel_rfl
theorem f29_body : Tryz.f29.body.isSome = true := by kernel_rfl
theorem f29_tab : tabOk t29.sd t29.sx (bodyOf Tryz.f29) = true := by kernel_rfl
def t32 : FT where
  keep := []
  kb := fun
    | _ => []
  sd := fun
    | _ => []
theorem f32_at : Tryz.prog.funcs[32]? = some Tryz.f32 := by kernel_rfl
theorem f32_body : Tryz.f32.body.isSome = true := by kernel_rfl
theorem f32_tab : tabOk t32.sd t32.sx (bodyOf Tryz.f32) = true := by kernel_rfl
def t42 : FT where
  keep := []
  kb := fun
    | _ => []
  sd := fun
    | _ => []
theorem f42_at : Tryz.prog.funcs[42]? = some Tryz.f42 := by kernel_rfl
theorem f42_body : Tryz.f42.body.isSome = true := by kernel_rfl
theorem f42_tab : tabOk t42.sd t42.sx (bodyOf Tryz.f42) = true := by kernel_rfl
def t44 : FT where
  keep := []
  kb := fun
    | 0 => [37, 36, 35, 4]
    | _ => []
  sd := fun
    | _ => []
theorem f44_at : Tryz.prog.funcs[44]? = some Tryz.f44 := by kernel_rfl
theorem f44_body : Tryz.f44.body.isSome = true := by kernel_rfl
theorem f44_tab : tabOk t44.sd t44.sx (bodyOf Tryz.f44) = true := by kernel_rfl
theorem f44_loop0 : isLoop1 (subs 0 (bodyOf Tryz.f44)) = true := by kernel_rfl
theorem f44_tab0 : tabOk t44.sd t44.sx (lb Tryz.f44 0) = true := by kernel_rfl
def t88 : FT where
  keep := []
  kb := fun
    | _ => []
  sd := fun
    | _ => []
theorem f88_at : Tryz.prog.funcs[88]? = some Tryz.f88 := by kernel_rfl
theorem f88_body : Tryz.f88.body.isSome = true := by kernel_rfl
theorem f88_tab : tabOk t88.sd t88.sx (bodyOf Tryz.f88) = true := by kernel_rfl
def t41 : FT where
  keep := []
  kb := fun
    | _ => []
  sd := fun
    | _ => []
theorem f41_at : Tryz.prog.funcs[41]? = some Tryz.f41 := by kernel_rfl
theorem f41_body : Tryz.f41.body.isSome = true := by kernel_rfl
theorem f41_tab : tabOk t41.sd t41.sx (bodyOf Tryz.f41) = true := by kernel_rfl
def t84 : FT where
  keep := []
  kb := fun
    | _ => []
  sd := fun
    | _ => []
theorem f84_at : Tryz.prog.funcs[84]? = some Tryz.f84 := by kernel_rfl
theorem f84_body : Tryz.f84.body.isSome = true := by kernel_rfl
theorem f84_tab : tabOk t84.sd t84.sx (bodyOf Tryz.f84) = true := by kernel_rfl
def t85 : FT where
  keep := []
  kb := fun
    | 0 => [0, 3]
    | _ => []
  sd := fun
    | _ => []
theorem f85_at : Tryz.prog.funcs[85]? = some Tryz.f85 := by kernel_rfl
theorem f85_body : Tryz.f85.body.isSome = true := by kernel_rfl
theorem f85_tab : tabOk t85.sd t85.sx (bodyOf Tryz.f85) = true := by kernel_rfl
theorem f85_loop0 : isLoop1 (subs 0 (bodyOf Tryz.f85)) = true := by kernel_rfl
theorem f85_tab0 : tabOk t85.sd t85.sx (lb Tryz.f85 0) = true := by kernel_rfl
def t86 : FT where
  keep := []
  kb := fun
    | _ => []
  sd := fun
    | _ => []
theorem f86_at : Tryz.prog.funcs[86]? = some Tryz.f86 := by kernel_rfl
theorem f86_body : Tryz.f86.body.isSome = true := by kernel_rfl
theorem f86_tab : tabOk t86.sd t86.sx (bodyOf Tryz.f86) = true := by kernel_rfl
def t127 : FT where
  keep := []
  kb := fun
    | _ => []
  sd := fun
    | _ => []
theorem f127_at : Tryz.prog.funcs[127]? = some Tryz.f127 := by kernel_rfl
theorem f127_body : Tryz.f127.body.isSome = true := by kernel_rfl
theorem f127_tab : tabOk t127.sd t127.sx (bodyOf Tryz.f127) = true := by kernel_rfl
def t128 : FT where
  keep := []
  kb := fun
    | _ => []
  sd := fun
    | _ => []
theorem f128_at : Tryz.prog.funcs[128]? = some Tryz.f128 := by kernel_rfl
theorem f128_body : Tryz.f128.body.isSome = true := by kernel_rfl
theorem f128_tab : tabOk t128.sd t128.sx (bodyOf Tryz.f128) = true := by kernel_rfl
def t74 : FT where
  keep := []
  kb := fun
    | 0 => [9, 8, 7, 1]
    | _ => []
  sd := fun
    | _ => []
theorem f74_at : Tryz.prog.funcs[74]? = some Tryz.f74 := by kernel_rfl
theorem f74_body : Tryz.f74.body.isSome = true := by kernel_rfl
theorem f74_tab : tabOk t74.sd t74.sx (bodyOf Tryz.f74) = true := by kernel_rfl
theorem f74_loop0 : isLoop1 (subs 0 (bodyOf Tryz.f74)) = true := by kernel_rfl
theorem f74_tab0 : tabOk t74.sd t74.sx (lb Tryz.f74 0) = true := by kernel_rfl
def t75 : FT where
  keep := []
  kb := fun
    | 0 => [9, 8, 7, 1]
    | _ => []
  sd := fun
    | _ => []
theorem f75_at : Tryz.prog.funcs[75]? = some Tryz.f75 := by kernel_rfl
theorem f75_body : Tryz.f75.body.isSome = true := by kernel_rfl
theorem f75_tab : tabOk t75.sd t75.sx (bodyOf Tryz.f75) = true := by kernel_rfl
theorem f75_loop0 : isLoop1 (subs 0 (bodyOf Tryz.f75)) = true := by kernel_rfl
theorem f75_tab0 : tabOk t75.sd t75.sx (lb Tryz.f75 0) = true := by kernel_rfl
end Go.Proofs.YtkamjbmjjhbjcaaGreatDoor
