/- The trees' functions. Printed by Gen.lean, merge.py. -/
import Derived.Test.YtijcobeebaceoaaGreatDoorBc
import Derived.Test.YtijcobeebaceoaaGreatDoorProg
import Derived.KernelRfl
namespace Go.Proofs.YtijcobeebaceoaaGreatDoor
open Go.RowKit
set_option linter.unusedSimpArgs false
set_option linter.unusedVariables false

theorem mixed : Tryz.prog.follows .mixedOrders = true := by kernel_rfl
def t7 : FT where
  keep := []
  kb := fun
    | _ => []
  sd := fun
    | _ => []
theorem f7_at : Tryz.prog.funcs[7]? = some Tryz.f7 := by kernel_rfl
theorem f7_body : Tryz.f7.body.isSome = true := by kernel_rfl
theorem f7_tab : tabOk t7.sd t7.sx (bodyOf Tryz.f7) = true := by kernel_rfl
def t20 : FT where
  keep := []
  kb := fun
    | _ => []
  sd := fun
    | 3 => [(0, true), (1, true), (2, false), (3, false)]
    | _ => []
  rs := [4, 5]
  df := true
theorem f20_at : Tryz.prog.funcs[20]? = some Tryz.f20 := by kernel_rfl
theorem f20_body : Tryz.f20.body.isSome = true := by kernel_rfl
theorem f20_tab : tabOk t20.sd t20.sx (bodyOf Tryz.f20) = true := by kernel_rfl
def t21 : FT where
  keep := []
  kb := fun
    | _ => []
  sd := fun
    | 4 => [(0, true), (1, true), (2, false), (3, false), (4, true), (5, false)]
    | _ => []
  rs := [2]
  df := true
theorem f21_at : Tryz.prog.funcs[21]? = some Tryz.f21 := by kernel_rfl
theorem f21_body : Tryz.f21.body.isSome = true := by kernel_rfl
theorem f21_tab : tabOk t21.sd t21.sx (bodyOf Tryz.f21) = true := by kernel_rfl
def t44 : FT where
  keep := []
  kb := fun
    | _ => []
  sd := fun
    | _ => []
theorem f44_at : Tryz.prog.funcs[44]? = some Tryz.f44 := by kernel_rfl
theorem f44_body : Tryz.f44.body.isSome = true := by kernel_rfl
theorem f44_tab : tabOk t44.sd t44.sx (bodyOf Tryz.f44) = true := by kernel_rfl
def t45 : FT where
  keep := []
  kb := fun
    | _ => []
  sd := fun
    | 3 => [(0, true), (1, true), (2, true), (3, true), (4, false), (5, true), (6, false)]
    | _ => []
theorem f45_at : Tryz.prog.funcs[45]? = some Tryz.f45 := by kernel_rfl
theorem f45_body : Tryz.f45.body.isSome = true := by kernel_rfl
theorem f45_tab : tabOk t45.sd t45.sx (bodyOf Tryz.f45) = true := by kernel_rfl
def t46 : FT where
  keep := []
  kb := fun
    | 0 => [0, 3, 2]
    | _ => []
  sd := fun
    | 5 => [(0, true), (1, true), (2, true), (3, false), (4, false), (5, false), (6, true), (7, false)]
    | _ => []
theorem f46_at : Tryz.prog.funcs[46]? = some Tryz.f46 := by kernel_rfl
theorem f46_body : Tryz.f46.body.isSome = true := by kernel_rfl
theorem f46_tab : tabOk t46.sd t46.sx (bodyOf Tryz.f46) = true := by kernel_rfl
theorem f46_loop0 : isLoop1 (subs 0 (bodyOf Tryz.f46)) = true := by kernel_rfl
theorem f46_tab0 : tabOk t46.sd t46.sx (lb Tryz.f46 0) = true := by kernel_rfl
def t47 : FT where
  keep := []
  kb := fun
    | _ => []
  sd := fun
    | _ => []
theorem f47_at : Tryz.prog.funcs[47]? = some Tryz.f47 := by kernel_rfl
theorem f47_body : Tryz.f47.body.isSome = true := by kernel_rfl
theorem f47_tab : tabOk t47.sd t47.sx (bodyOf Tryz.f47) = true := by kernel_rfl
def t54 : FT where
  keep := []
  kb := fun
    | _ => []
  sd := fun
    | 1 => [(0, true), (1, true), (2, true), (3, true), (4, true), (5, true), (6, true), (7, true), (8, true), (9, true), (10, false)]
    | _ => []
theorem f54_at : Tryz.prog.funcs[54]? = some Tryz.f54 := by kernel_rfl
theorem f54_body : Tryz.f54.body.isSome = true := by kernel_rfl
theorem f54_tab : tabOk t54.sd t54.sx (bodyOf Tryz.f54) = true := by kernel_rfl
def t73 : FT where
  keep := []
  kb := fun
    | _ => []
  sd := fun
    | _ => []
theorem f73_at : Tryz.prog.funcs[73]? = some Tryz.f73 := by kernel_rfl
theorem f73_body : Tryz.f73.body.isSome = true := by kernel_rfl
theorem f73_tab : tabOk t73.sd t73.sx (bodyOf Tryz.f73) = true := by kernel_rfl
def t71 : FT where
  keep := []
  kb := fun
    | _ => []
  sd := fun
    | _ => []
theorem f71_at : Tryz.prog.funcs[71]? = some Tryz.f71 := by kernel_rfl
theorem f71_body : Tryz.f71.body.isSome = true := by kernel_rfl
theorem f71_tab : tabOk t71.sd t71.sx (bodyOf Tryz.f71) = true := by kernel_rfl
def t80 : FT where
  keep := []
  kb := fun
    | _ => []
  sd := fun
    | _ => []
theorem f80_at : Tryz.prog.funcs[80]? = some Tryz.f80 := by kernel_rfl
theorem f80_body : Tryz.f80.body.isSome = true := by kernel_rfl
theorem f80_tab : tabOk t80.sd t80.sx (bodyOf Tryz.f80) = true := by kernel_rfl
def t81 : FT where
  keep := []
  kb := fun
    | _ => []
  sd := fun
    | _ => []
theorem f81_at : Tryz.prog.funcs[81]? = some Tryz.f81 := by kernel_rfl
theorem f81_body : Tryz.f81.body.isSome = true := by kernel_rfl
theorem f81_tab : tabOk t81.sd t81.sx (bodyOf Tryz.f81) = true := by kernel_rfl
def t82 : FT where
  keep := []
  kb := fun
    | _ => []
  sd := fun
    | _ => []
theorem f82_at : Tryz.prog.funcs[82]? = some Tryz.f82 := by kernel_rfl
theorem f82_body : Tryz.f82.body.isSome = true := by kernel_rfl
theorem f82_tab : tabOk t82.sd t82.sx (bodyOf Tryz.f82) = true := by kernel_rfl
def t58 : FT where
  keep := []
  kb := fun
    | _ => []
  sd := fun
    | _ => []
theorem f58_at : Tryz.prog.funcs[58]? = some Tryz.f58 := by kernel_rfl
theorem f58_body : Tryz.f58.body.isSome = true := by kernel_rfl
theorem f58_tab : tabOk t58.sd t58.sx (bodyOf Tryz.f58) = true := by kernel_rfl
def t8 : FT where
  keep := []
  kb := fun
    | _ => []
  sd := fun
    | 5 => [(0, true), (1, true), (2, true), (3, true), (4, true), (5, true), (6, true), (7, true), (8, true), (9, false), (10, true), (11, true)]
    | _ => []
theorem f8_at : Tryz.prog.funcs[8]? = some Tryz.f8 := by kernel_rfl
theorem f8_body : Tryz.f8.body.isSome = true := by kernel_rfl
theorem f8_tab : tabOk t8.sd t8.sx (bodyOf Tryz.f8) = true := by kernel_rfl
def t23 : FT where
  keep := []
  kb := fun
    | 0 => [0, 4, 2]
    | _ => []
  sd := fun
    | 10 => [(0, true), (1, true), (2, true), (3, false), (4, false), (5, false), (6, true), (7, false)]
    | 13 => [(0, true), (1, true), (2, false), (3, false), (4, true), (5, false)]
    | _ => []
theorem f23_at : Tryz.prog.funcs[23]? = some Tryz.f23 := by kernel_rfl
theorem f23_body : Tryz.f23.body.isSome = true := by kernel_rfl
theorem f23_tab : tabOk t23.sd t23.sx (bodyOf Tryz.f23) = true := by kernel_rfl
theorem f23_loop0 : isLoop1 (subs 0 (bodyOf Tryz.f23)) = true := by kernel_rfl
theorem f23_tab0 : tabOk t23.sd t23.sx (lb Tryz.f23 0) = true := by kernel_rfl
def t24 : FT where
  keep := []
  kb := fun
    | _ => []
  sd := fun
    | _ => []
theorem f24_at : Tryz.prog.funcs[24]? = some Tryz.f24 := by kernel_rfl
theorem f24_body : Tryz.f24.body.isSome = true := by kernel_rfl
theorem f24_tab : tabOk t24.sd t24.sx (bodyOf Tryz.f24) = true := by kernel_rfl
def t50 : FT where
  keep := []
  kb := fun
    | _ => []
  sd := fun
    | _ => []
theorem f50_at : Tryz.prog.funcs[50]? = some Tryz.f50 := by kernel_rfl
theorem f50_body : Tryz.f50.body.isSome = true := by kernel_rfl
theorem f50_tab : tabOk t50.sd t50.sx (bodyOf Tryz.f50) = true := by kernel_rfl
def t28 : FT where
  keep := []
  kb := fun
    | _ => []
  sd := fun
    | 1 => [(0, true), (1, true), (2, true), (3, true), (4, true), (5, true), (6, true), (7, true), (8, true), (9, true), (10, true), (11, true), (12, true), (13, true), (14, true), (15, true), (16, true)]
    | 3 => [(0, true), (1, true), (2, true), (3, true), (4, true), (5, true), (6, true), (7, true), (8, true), (9, true), (10, false)]
    | _ => []
theorem f28_at : Tryz.prog.funcs[28]? = some Tryz.f28 := by kernel_rfl
theorem f28_body : Tryz.f28.body.isSome = true := by kernel_rfl
theorem f28_tab : tabOk t28.sd t28.sx (bodyOf Tryz.f28) = true := by kernel_rfl
def t29 : FT where
  keep := []
  kb := fun
    | _ => []
  sd := fun
    | _ => []
theorem f29_at : Tryz.prog.funcs[29]? = some Tryz.f29 := by kernel_rfl
theorem f29_body : Tryz.f29.body.isSome = true := by kernel_rfl
theorem f29_tab : tabOk t29.sd t29.sx (bodyOf Tryz.f29) = true := by kernel_rfl
def t52 : FT where
  keep := []
  kb := fun
    | _ => []
  sd := fun
    | _ => []
theorem f52_at : Tryz.prog.funcs[52]? = some Tryz.f52 := by kernel_rfl
theorem f52_body : Tryz.f52.body.isSome = true := by kernel_rfl
theorem f52_tab : tabOk t52.sd t52.sx (bodyOf Tryz.f52) = true := by kernel_rfl
def t51 : FT where
  keep := []
  kb := fun
    | _ => []
  sd := fun
    | _ => []
theorem f51_at : Tryz.prog.funcs[51]? = some Tryz.f51 := by kernel_rfl
theorem f51_body : Tryz.f51.body.isSome = true := by kernel_rfl
theorem f51_tab : tabOk t51.sd t51.sx (bodyOf Tryz.f51) = true := by kernel_rfl
def t49 : FT where
  keep := []
  kb := fun
    | _ => []
  sd := fun
    | _ => []
theorem f49_at : Tryz.prog.funcs[49]? = some Tryz.f49 := by kernel_rfl
theorem f49_body : Tryz.f49.body.isSome = true := by kernel_rfl
theorem f49_tab : tabOk t49.sd t49.sx (bodyOf Tryz.f49) = true := by kernel_rfl
def t60 : FT where
  keep := []
  kb := fun
    | _ => []
  sd := fun
    | _ => []
theorem f60_at : Tryz.prog.funcs[60]? = some Tryz.f60 := by kernel_rfl
theorem f60_body : Tryz.f60.body.isSome = true := by kernel_rfl
theorem f60_tab : tabOk t60.sd t60.sx (bodyOf Tryz.f60) = true := by kernel_rfl
def t22 : FT where
  keep := []
  kb := fun
    | _ => []
  sd := fun
    | _ => []
theorem f22_at : Tryz.prog.funcs[22]? = some Tryz.f22 := by kernel_rfl
theorem f22_body : Tryz.f22.body.isSome = true := by kernel_rfl
theorem f22_tab : tabOk t22.sd t22.sx (bodyOf Tryz.f22) = true := by kernel_rfl
def t48 : FT where
  keep := []
  kb := fun
    | 0 => [7, 0, 6]
    | _ => []
  sd := fun
    | _ => []
theorem f48_at : Tryz.prog.funcs[48]? = some Tryz.f48 := by kernel_rfl
theorem f48_body : Tryz.f48.body.isSome = true := by kernel_rfl
theorem f48_tab : tabOk t48.sd t48.sx (bodyOf Tryz.f48) = true := by kernel_rfl
theorem f48_loop0 : isLoop1 (subs 0 (bodyOf Tryz.f48)) = true := by kernel_rfl
theorem f48_tab0 : tabOk t48.sd t48.sx (lb Tryz.f48 0) = true := by kernel_rfl
def t83 : FT where
  keep := []
  kb := fun
    | 0 => [3, 0]
    | _ => []
  sd := fun
    | _ => []
theorem f83_at : Tryz.prog.funcs[83]? = some Tryz.f83 := by kernel_rfl
theorem f83_body : Tryz.f83.body.isSome = true := by kernel_rfl
theorem f83_tab : tabOk t83.sd t83.sx (bodyOf Tryz.f83) = true := by kernel_rfl
theorem f83_loop0 : isLoop1 (subs 0 (bodyOf Tryz.f83)) = true := by kernel_rfl
theorem f83_tab0 : tabOk t83.sd t83.sx (lb Tryz.f83 0) = true := by kernel_rfl
def t84 : FT where
  keep := []
  kb := fun
    | 0 => [1, 0]
    | 2 => [1, 0]
    | _ => []
  sd := fun
    | _ => []
theorem f84_at : Tryz.prog.funcs[84]? = some Tryz.f84 := by kernel_rfl
theorem f84_body : Tryz.f84.body.isSome = true := by kernel_rfl
theorem f84_tab : tabOk t84.sd t84.sx (bodyOf Tryz.f84) = true := by kernel_rfl
theorem f84_loop0 : isLoop1 (subs 0 (bodyOf Tryz.f84)) = true := by kernel_rfl
theorem f84_tab0 : tabOk t84.sd t84.sx (lb Tryz.f84 0) = true := by kernel_rfl
theorem f84_loop2 : isLoop1 (subs 2 (bodyOf Tryz.f84)) = true := by kernel_rfl
theorem f84_tab2 : tabOk t84.sd t84.sx (lb Tryz.f84 2) = true := by kernel_rfl
def t85 : FT where
  keep := []
  kb := fun
    | 0 => [13, 12, 0, 8, 4]
    | _ => []
  sd := fun
    | _ => []
theorem f85_at : Tryz.prog.funcs[85]? = some Tryz.f85 := by kernel_rfl
theorem f85_body : Tryz.f85.body.isSome = true := by kernel_rfl
theorem f85_tab : tabOk t85.sd t85.sx (bodyOf Tryz.f85) = true := by kernel_rfl
theorem f85_loop0 : isLoop1 (subs 0 (bodyOf Tryz.f85)) = true := by kernel_rfl
theorem f85_tab0 : tabOk t85.sd t85.sx (lb Tryz.f85 0) = true := by kernel_rfl
def t112 : FT where
  keep := []
  kb := fun
    | 0 => [9, 6, 0, 1, 7, 8]
    | _ => []
  sd := fun
    | _ => []
theorem f112_at : Tryz.prog.funcs[112]? = some Tryz.f112 := by kernel_rfl
theorem f112_body : Tryz.f112.body.isSome = true := by kernel_rfl
theorem f112_tab : tabOk t112.sd t112.sx (bodyOf Tryz.f112) = true := by kernel_rfl
theorem f112_loop0 : isLoop1 (subs 0 (bodyOf Tryz.f112)) = true := by kernel_rfl
theorem f112_tab0 : tabOk t112.sd t112.sx (lb Tryz.f112 0) = true := by kernel_rfl
def t113 : FT where
  keep := []
  kb := fun
    | _ => []
  sd := fun
    | _ => []
theorem f113_at : Tryz.prog.funcs[113]? = some Tryz.f113 := by kernel_rfl
theorem f113_body : Tryz.f113.body.isSome = true := by kernel_rfl
theorem f113_tab : tabOk t113.sd t113.sx (bodyOf Tryz.f113) = true := by kernel_rfl
def t114 : FT where
  keep := []
  kb := fun
    | 0 => [8, 0, 7]
    | _ => []
  sd := fun
    | _ => []
theorem f114_at : Tryz.prog.funcs[114]? = some Tryz.f114 := by kernel_rfl
theorem f114_body : Tryz.f114.body.isSome = true := by kernel_rfl
theorem f114_tab : tabOk t114.sd t114.sx (bodyOf Tryz.f114) = true := by kernel_rfl
theorem f114_loop0 : isLoop1 (subs 0 (bodyOf Tryz.f114)) = true := by kernel_rfl
theorem f114_tab0 : tabOk t114.sd t114.sx (lb Tryz.f114 0) = true := by kernel_rfl
def t115 : FT where
  keep := []
  kb := fun
    | _ => []
  sd := fun
    | _ => []
theorem f115_at : Tryz.prog.funcs[115]? = some Tryz.f115 := by kernel_rfl
theorem f115_body : Tryz.f115.body.isSome = true := by kernel_rfl
theorem f115_tab : tabOk t115.sd t115.sx (bodyOf Tryz.f115) = true := by kernel_rfl
def t116 : FT where
  keep := []
  kb := fun
    | 0 => [1, 0, 2]
    | _ => []
  sd := fun
    | _ => []
theorem f116_at : Tryz.prog.funcs[116]? = some Tryz.f116 := by kernel_rfl
theorem f116_body : Tryz.f116.body.isSome = true := by kernel_rfl
theorem f116_tab : tabOk t116.sd t116.sx (bodyOf Tryz.f116) = true := by kernel_rfl
theorem f116_loop0 : isLoop1 (subs 0 (bodyOf Tryz.f116)) = true := by kernel_rfl
theorem f116_tab0 : tabOk t116.sd t116.sx (lb Tryz.f116 0) = true := by kernel_rfl
def t117 : FT where
  keep := []
  kb := fun
    | 0 => [6, 0, 5, 4]
    | 2 => [8, 0, 7, 4]
    | _ => []
  sd := fun
    | _ => []
theorem f117_at : Tryz.prog.funcs[117]? = some Tryz.f117 := by kernel_rfl
theorem f117_body : Tryz.f117.body.isSome = true := by kernel_rfl
theorem f117_tab : tabOk t117.sd t117.sx (bodyOf Tryz.f117) = true := by kernel_rfl
theorem f117_loop0 : isLoop1 (subs 0 (bodyOf Tryz.f117)) = true := by kernel_rfl
theorem f117_tab0 : tabOk t117.sd t117.sx (lb Tryz.f117 0) = true := by kernel_rfl
theorem f117_loop2 : isLoop1 (subs 2 (bodyOf Tryz.f117)) = true := by kernel_rfl
theorem f117_tab2 : tabOk t117.sd t117.sx (lb Tryz.f117 2) = true := by kernel_rfl
def t118 : FT where
  keep := []
  kb := fun
    | _ => []
  sd := fun
    | _ => []
theorem f118_at : Tryz.prog.funcs[118]? = some Tryz.f118 := by kernel_rfl
theorem f118_body : Tryz.f118.body.isSome = true := by kernel_rfl
theorem f118_tab : tabOk t118.sd t118.sx (bodyOf Tryz.f118) = true := by kernel_rfl
def t119 : FT where
  keep := []
  kb := fun
    | _ => []
  sd := fun
    | _ => []
theorem f119_at : Tryz.prog.funcs[119]? = some Tryz.f119 := by kernel_rfl
theorem f119_body : Tryz.f119.body.isSome = true := by kernel_rfl
theorem f119_tab : tabOk t119.sd t119.sx (bodyOf Tryz.f119) = true := by kernel_rfl
def t120 : FT where
  keep := []
  kb := fun
    | _ => []
  sd := fun
    | _ => []
theorem f120_at : Tryz.prog.funcs[120]? = some Tryz.f120 := by kernel_rfl
theorem f120_body : Tryz.f120.body.isSome = true := by kernel_rfl
theorem f120_tab : tabOk t120.sd t120.sx (bodyOf Tryz.f120) = true := by kernel_rfl
def t121 : FT where
  keep := []
  kb := fun
    | _ => []
  sd := fun
    | _ => []
theorem f121_at : Tryz.prog.funcs[121]? = some Tryz.f121 := by kernel_rfl
theorem f121_body : Tryz.f121.body.isSome = true := by kernel_rfl
theorem f121_tab : tabOk t121.sd t121.sx (bodyOf Tryz.f121) = true := by kernel_rfl
def t122 : FT where
  keep := []
  kb := fun
    | _ => []
  sd := fun
    | _ => []
theorem f122_at : Tryz.prog.funcs[122]? = some Tryz.f122 := by kernel_rfl
theorem f122_body : Tryz.f122.body.isSome = true := by kernel_rfl
theorem f122_tab : tabOk t122.sd t122.sx (bodyOf Tryz.f122) = true := by kernel_rfl
def t142 : FT where
  keep := []
  kb := fun
    | 0 => [5, 0, 1]
    | _ => []
  sd := fun
    | _ => []
theorem f142_at : Tryz.prog.funcs[142]? = some Tryz.f142 := by kernel_rfl
theorem f142_body : Tryz.f142.body.isSome = true := by kernel_rfl
theorem f142_tab : tabOk t142.sd t142.sx (bodyOf Tryz.f142) = true := by kernel_rfl
theorem f142_loop0 : isLoop1 (subs 0 (bodyOf Tryz.f142)) = true := by kernel_rfl
theorem f142_tab0 : tabOk t142.sd t142.sx (lb Tryz.f142 0) = true := by kernel_rfl
def t143 : FT where
  keep := []
  kb := fun
    | _ => []
  sd := fun
    | _ => []
theorem f143_at : Tryz.prog.funcs[143]? = some Tryz.f143 := by kernel_rfl
theorem f143_body : Tryz.f143.body.isSome = true := by kernel_rfl
theorem f143_tab : tabOk t143.sd t143.sx (bodyOf Tryz.f143) = true := by kernel_rfl
def t144 : FT where
  keep := []
  kb := fun
    | _ => []
  sd := fun
    | _ => []
theorem f144_at : Tryz.prog.funcs[144]? = some Tryz.f144 := by kernel_rfl
theorem f144_body : Tryz.f144.body.isSome = true := by kernel_rfl
theorem f144_tab : tabOk t144.sd t144.sx (bodyOf Tryz.f144) = true := by kernel_rfl
def t145 : FT where
  keep := []
  kb := fun
    | 0 => [5, 1, 0]
    | _ => []
  sd := fun
    | _ => []
theorem f145_at : Tryz.prog.funcs[145]? = some Tryz.f145 := by kernel_rfl
theorem f145_body : Tryz.f145.body.isSome = true := by kernel_rfl
theorem f145_tab : tabOk t145.sd t145.sx (bodyOf Tryz.f145) = true := by kernel_rfl
theorem f145_loop0 : isLoop1 (subs 0 (bodyOf Tryz.f145)) = true := by kernel_rfl
theorem f145_tab0 : tabOk t145.sd t145.sx (lb Tryz.f145 0) = true := by kernel_rfl
def t156 : FT where
  keep := []
  kb := fun
    | _ => []
  sd := fun
    | _ => []
theorem f156_at : Tryz.prog.funcs[156]? = some Tryz.f156 := by kernel_rfl
theorem f156_body : Tryz.f156.body.isSome = true := by kernel_rfl
theorem f156_tab : tabOk t156.sd t156.sx (bodyOf Tryz.f156) = true := by kernel_rfl
def t157 : FT where
  keep := []
  kb := fun
    | _ => []
  sd := fun
    | _ => []
theorem f157_at : Tryz.prog.funcs[157]? = some Tryz.f157 := by kernel_rfl
theorem f157_body : Tryz.f157.body.isSome = true := by kernel_rfl
theorem f157_tab : tabOk t157.sd t157.sx (bodyOf Tryz.f157) = true := by kernel_rfl
def t165 : FT where
  keep := []
  kb := fun
    | _ => []
  sd := fun
    | _ => []
theorem f165_at : Tryz.prog.funcs[165]? = some Tryz.f165 := by kernel_rfl
theorem f165_body : Tryz.f165.body.isSome = true := by kernel_rfl
theorem f165_tab : tabOk t165.sd t165.sx (bodyOf Tryz.f165) = true := by kernel_rfl
def t166 : FT where
  keep := []
  kb := fun
    | _ => []
  sd := fun
    | _ => []
theorem f166_at : Tryz.prog.funcs[166]? = some Tryz.f166 := by kernel_rfl
theorem f166_body : Tryz.f166.body.isSome = true := by kernel_rfl
theorem f166_tab : tabOk t166.sd t166.sx (bodyOf Tryz.f166) = true := by kernel_rfl
def t9 : FT where
  keep := []
  kb := fun
    | _ => []
  sd := fun
    | _ => []
theorem f9_at : Tryz.prog.funcs[9]? = some Tryz.f9 := by kernel_rfl
theorem f9_body : Tryz.f9.body.isSome = true := by kernel_rfl
theorem f9_tab : tabOk t9.sd t9.sx (bodyOf Tryz.f9) = true := by kernel_rfl
def t25 : FT where
  keep := []
  kb := fun
    | 0 => [5, 0, 1]
    | _ => []
  sd := fun
    | 6 => [(0, true), (1, true), (2, true), (3, true), (4, true), (5, true), (6, true), (7, true), (8, false), (9, true)]
    | _ => []
theorem f25_at : Tryz.prog.funcs[25]? = some Tryz.f25 := by kernel_rfl
theorem f25_body : Tryz.f25.body.isSome = true := by kernel_rfl
theorem f25_tab : tabOk t25.sd t25.sx (bodyOf Tryz.f25) = true := by kernel_rfl
theorem f25_loop0 : isLoop1 (subs 0 (bodyOf Tryz.f25)) = true := by kernel_rfl
theorem f25_tab0 : tabOk t25.sd t25.sx (lb Tryz.f25 0) = true := by kernel_rfl
end Go.Proofs.YtijcobeebaceoaaGreatDoor
