/- The trees' functions. Printed by Gen.lean, merge.py. -/
import Derived.Test.YtnepapfndihalaaBc
import Derived.Test.YtnepapfndihalaaProg
import Derived.KernelRfl
set_option linter.unusedVariables false
set_option linter.unusedSimpArgs false
set_option linter.unusedSectionVars false
namespace Go.Proofs.Ytnepapfndihalaa
open Go.RowKit

theorem mixed : Try.prog.follows .mixedOrders = true := by kernel_rfl
def t3 : FT where
  keep := []
  kb := fun
    | 0 => [35, 34, 33, 5, 0, 1]
    | 2 => [85, 84, 8, 11, 0, 1, 10]
    | _ => []
  sd := fun
    | 20 => [(0, true), (1, true), (2, true), (3, true), (4, true), (5, true), (6, true), (7, true), (8, true), (9, true), (10, true), (11, true), (12, true), (13, true), (14, true), (15, true), (16, true), (17, true), (18, true), (19, true), (20, true), (21, true), (22, false), (23, true), (24, true)]
    | _ => []
theorem f3_at : Try.prog.funcs[3]? = some Try.f3 := by kernel_rfl
theorem f3_body : Try.f3.body.isSome = true := by kernel_rfl
theorem f3_tab : tabOk t3.sd t3.sx (bodyOf Try.f3) = true := by kernel_rfl
theorem f3_loop0 : isLoop1 (subs 0 (bodyOf Try.f3)) = true := by kernel_rfl
theorem f3_tab0 : tabOk t3.sd t3.sx (lb Try.f3 0) = true := by kernel_rfl
theorem f3_loop2 : isLoop1 (subs 2 (bodyOf Try.f3)) = true := by kernel_rfl
theorem f3_tab2 : tabOk t3.sd t3.sx (lb Try.f3 2) = true := by kernel_rfl
def t6 : FT where
  keep := []
  kb := fun
    | 0 => [7, 6, 5, 0]
    | _ => []
  sd := fun
    | _ => []
theorem f6_at : Try.prog.funcs[6]? = some Try.f6 := by kernel_rfl
theorem f6_body : Try.f6.body.isSome = true := by kernel_rfl
theorem f6_tab : tabOk t6.sd t6.sx (bodyOf Try.f6) = true := by kernel_rfl
theorem f6_loop0 : isLoop1 (subs 0 (bodyOf Try.f6)) = true := by kernel_rfl
theorem f6_tab0 : tabOk t6.sd t6.sx (lb Try.f6 0) = true := by kernel_rfl
def t20 : FT where
  keep := []
  kb := fun
    | 0 => [22, 21, 20]
    | _ => []
  sd := fun
    | _ => []
theorem f20_at : Try.prog.funcs[20]? = some Try.f20 := by kernel_rfl
theorem f20_body : Try.f20.body.isSome = true := by kernel_rfl
theorem f20_tab : tabOk t20.sd t20.sx (bodyOf Try.f20) = true := by kernel_rfl
theorem f20_loop0 : isLoop1 (subs 0 (bodyOf Try.f20)) = true := by kernel_rfl
theorem f20_tab0 : tabOk t20.sd t20.sx (lb Try.f20 0) = true := by kernel_rfl
def t21 : FT where
  keep := []
  kb := fun
    | _ => []
  sd := fun
    | _ => []
theorem f21_at : Try.prog.funcs[21]? = some Try.f21 := by kernel_rfl
theorem f21_body : Try.f21.body.isSome = true := by kernel_rfl
theorem f21_tab : tabOk t21.sd t21.sx (bodyOf Try.f21) = true := by kernel_rfl
def t33 : FT where
  keep := []
  kb := fun
    | 0 => [6, 2, 5, 1]
    | _ => []
  sd := fun
    | _ => []
theorem f33_at : Try.prog.funcs[33]? = some Try.f33 := by kernel_rfl
theorem f33_body : Try.f33.body.isSome = true := by kernel_rfl
theorem f33_tab : tabOk t33.sd t33.sx (bodyOf Try.f33) = true := by kernel_rfl
theorem f33_loop0 : isLoop1 (subs 0 (bodyOf Try.f33)) = true := by kernel_rfl
theorem f33_tab0 : tabOk t33.sd t33.sx (lb Try.f33 0) = true := by kernel_rfl
def t22 : FT where
  keep := []
  kb := fun
    | _ => []
  sd := fun
    | _ => []
theorem f22_at : Try.prog.funcs[22]? = some Try.f22 := by kernel_rfl
theorem f22_body : Try.f22.body.isSome = true := by kernel_rfl
theorem f22_tab : tabOk t22.sd t22.sx (bodyOf Try.f22) = true := by kernel_rfl
def t8 : FT where
  keep := []
  kb := fun
    | _ => []
  sd := fun
    | _ => []
theorem f8_at : Try.prog.funcs[8]? = some Try.f8 := by kernel_rfl
theorem f8_body : Try.f8.body.isSome = true := by kernel_rfl
theorem f8_tab : tabOk t8.sd t8.sx (bodyOf Try.f8) = true := by kernel_rfl
def t25 : FT where
  keep := []
  kb := fun
    | 0 => [5, 0, 1]
    | _ => []
  sd := fun
    | 6 => [(0, true), (1, true), (2, true), (3, true), (4, true), (5, true), (6, true), (7, true), (8, false), (9, true)]
    | _ => []
theorem f25_at : Try.prog.funcs[25]? = some Try.f25 := by kernel_rfl
theorem f25_body : Try.f25.body.isSome = true := by kernel_rfl
theorem f25_tab : tabOk t25.sd t25.sx (bodyOf Try.f25) = true := by kernel_rfl
theorem f25_loop0 : isLoop1 (subs 0 (bodyOf Try.f25)) = true := by kernel_rfl
theorem f25_tab0 : tabOk t25.sd t25.sx (lb Try.f25 0) = true := by kernel_rfl
def t36 : FT where
  keep := []
  kb := fun
    | _ => []
  sd := fun
    | _ => []
theorem f36_at : Try.prog.funcs[36]? = some Try.f36 := by kernel_rfl
theorem f36_body : Try.f36.body.isSome = true := by kernel_rfl
theorem f36_tab : tabOk t36.sd t36.sx (bodyOf Try.f36) = true := by kernel_rfl
def t45 : FT where
  keep := []
  kb := fun
    | 0 => [8, 7, 1, 0]
    | _ => []
  sd := fun
    | _ => []
theorem f45_at : Try.prog.funcs[45]? = some Try.f45 := by kernel_rfl
theorem f45_body : Try.f45.body.isSome = true := by kernel_rfl
theorem f45_tab : tabOk t45.sd t45.sx (bodyOf Try.f45) = true := by kernel_rfl
theorem f45_loop0 : isLoop1 (subs 0 (bodyOf Try.f45)) = true := by kernel_rfl
theorem f45_tab0 : tabOk t45.sd t45.sx (lb Try.f45 0) = true := by kernel_rfl
def t34 : FT where
  keep := []
  kb := fun
    | 0 => [12, 11, 10, 1]
    | _ => []
  sd := fun
    | _ => []
theorem f34_at : Try.prog.funcs[34]? = some Try.f34 := by kernel_rfl
theorem f34_body : Try.f34.body.isSome = true := by kernel_rfl
theorem f34_tab : tabOk t34.sd t34.sx (bodyOf Try.f34) = true := by kernel_rfl
theorem f34_loop0 : isLoop1 (subs 0 (bodyOf Try.f34)) = true := by kernel_rfl
theorem f34_tab0 : tabOk t34.sd t34.sx (lb Try.f34 0) = true := by kernel_rfl
def t35 : FT where
  keep := []
  kb := fun
    | _ => []
  sd := fun
    | _ => []
theorem f35_at : Try.prog.funcs[35]? = some Try.f35 := by kernel_rfl
theorem f35_body : Try.f35.body.isSome = true := by kernel_rfl
theorem f35_tab : tabOk t35.sd t35.sx (bodyOf Try.f35) = true := by kernel_rfl
def t7 : FT where
  keep := []
  kb := fun
    | 0 => [20, 19, 18, 5, 6]
    | 2 => [50, 49, 48, 5, 10]
    | _ => []
  sd := fun
    | 9 => [(0, true), (1, true), (2, true), (5, true), (6, true), (3, false), (4, false), (7, false), (8, false), (9, true)]
    | _ => []
theorem f7_at : Try.prog.funcs[7]? = some Try.f7 := by kernel_rfl
theorem f7_body : Try.f7.body.isSome = true := by kernel_rfl
theorem f7_tab : tabOk t7.sd t7.sx (bodyOf Try.f7) = true := by kernel_rfl
theorem f7_loop0 : isLoop1 (subs 0 (bodyOf Try.f7)) = true := by kernel_rfl
theorem f7_tab0 : tabOk t7.sd t7.sx (lb Try.f7 0) = true := by kernel_rfl
theorem f7_loop2 : isLoop1 (subs 2 (bodyOf Try.f7)) = true := by kernel_rfl
theorem f7_tab2 : tabOk t7.sd t7.sx (lb Try.f7 2) = true := by kernel_rfl
def t9 : FT where
  keep := []
  kb := fun
    | _ => []
  sd := fun
    | _ => []
theorem f9_at : Try.prog.funcs[9]? = some Try.f9 := by kernel_rfl
theorem f9_body : Try.f9.body.isSome = true := by kernel_rfl
theorem f9_tab : tabOk t9.sd t9.sx (bodyOf Try.f9) = true := by kernel_rfl
def t12 : FT where
  keep := []
  kb := fun
    | 0 => [42, 41, 40, 0, 7]
    | _ => []
  sd := fun
    | _ => []
theorem f12_at : Try.prog.funcs[12]? = some Try.f12 := by kernel_rfl
theorem f12_body : Try.f12.body.isSome = true := by kernel_rfl
theorem f12_tab : tabOk t12.sd t12.sx (bodyOf Try.f12) = true := by kernel_rfl
theorem f12_loop0 : isLoop1 (subs 0 (bodyOf Try.f12)) = true := by kernel_rfl
theorem f12_tab0 : tabOk t12.sd t12.sx (lb Try.f12 0) = true := by kernel_rfl
def t15 : FT where
  keep := []
  kb := fun
    | _ => []
  sd := fun
    | _ => []
theorem f15_at : Try.prog.funcs[15]? = some Try.f15 := by kernel_rfl
theorem f15_body : Try.f15.body.isSome = true := by kernel_rfl
theorem f15_tab : tabOk t15.sd t15.sx (bodyOf Try.f15) = true := by kernel_rfl
def t26 : FT where
  keep := []
  kb := fun
    | _ => []
  sd := fun
    | 1 => [(0, true), (1, true), (3, true), (4, true), (2, false), (5, false), (6, false), (7, false)]
    | _ => []
theorem f26_at : Try.prog.funcs[26]? = some Try.f26 := by kernel_rfl
theorem f26_body : Try.f26.body.isSome = true := by kernel_rfl
theorem f26_tab : tabOk t26.sd t26.sx (bodyOf Try.f26) = true := by kernel_rfl
def t31 : FT where
  keep := []
  kb := fun
    | 0 => [35, 34, 33, 7, 0, 2, 4, 6]
    | _ => []
  sd := fun
    | _ => []
theorem f31_at : Try.prog.funcs[31]? = some Try.f31 := by kernel_rfl
theorem f31_body : Try.f31.body.isSome = true := by kernel_rfl
theorem f31_tab : tabOk t31.sd t31.sx (bodyOf Try.f31) = true := by kernel_rfl
theorem f31_loop0 : isLoop1 (subs 0 (bodyOf Try.f31)) = true := by kernel_rfl
theorem f31_tab0 : tabOk t31.sd t31.sx (lb Try.f31 0) = true := by kernel_rfl
def t17 : FT where
  keep := []
  kb := fun
    | 0 => [3, 0, 4]
    | _ => []
  sd := fun
    | 4 => [(0, true), (1, true), (2, true), (3, true), (4, true), (5, true), (6, true), (7, true), (8, true), (9, true), (10, false), (11, false), (12, true)]
    | _ => []
theorem f17_at : Try.prog.funcs[17]? = some Try.f17 := by kernel_rfl
theorem f17_body : Try.f17.body.isSome = true := by kernel_rfl
theorem f17_tab : tabOk t17.sd t17.sx (bodyOf Try.f17) = true := by kernel_rfl
theorem f17_loop0 : isLoop1 (subs 0 (bodyOf Try.f17)) = true := by kernel_rfl
theorem f17_tab0 : tabOk t17.sd t17.sx (lb Try.f17 0) = true := by kernel_rfl
def t39 : FT where
  keep := []
  kb := fun
    | _ => []
  sd := fun
    | _ => []
theorem f39_at : Try.prog.funcs[39]? = some Try.f39 := by kernel_rfl
theorem f39_body : Try.f39.body.isSome = true := by kernel_rfl
theorem f39_tab : tabOk t39.sd t39.sx (bodyOf Try.f39) = true := by kernel_rfl
def t40 : FT where
  keep := []
  kb := fun
    | _ => []
  sd := fun
    | _ => []
theorem f40_at : Try.prog.funcs[40]? = some Try.f40 := by kernel_rfl
theorem f40_body : Try.f40.body.isSome = true := by kernel_rfl
theorem f40_tab : tabOk t40.sd t40.sx (bodyOf Try.f40) = true := by kernel_rfl
def t41 : FT where
  keep := []
  kb := fun
    | _ => []
  sd := fun
    | 1 => [(0, true), (1, true), (2, true), (3, true), (4, true), (5, true), (6, false)]
    | 2 => [(0, true), (1, true), (2, true), (3, true), (4, true), (5, true), (6, true), (7, true), (8, true), (9, true), (10, true), (11, true), (12, true), (13, true), (14, true), (15, true), (16, true), (17, false), (18, false), (19, true), (20, true), (21, false)]
    | _ => []
theorem f41_at : Try.prog.funcs[41]? = some Try.f41 := by kernel_rfl
theorem f41_body : Try.f41.body.isSome = true := by kernel_rfl
theorem f41_tab : tabOk t41.sd t41.sx (bodyOf Try.f41) = true := by kernel_rfl
def t42 : FT where
  keep := []
  kb := fun
    | 0 => [17, 16, 15, 1, 2]
    | _ => []
  sd := fun
    | _ => []
theorem f42_at : Try.prog.funcs[42]? = some Try.f42 := by kernel_rfl
theorem f42_body : Try.f42.body.isSome = true := by kernel_rfl
theorem f42_tab : tabOk t42.sd t42.sx (bodyOf Try.f42) = true := by kernel_rfl
theorem f42_loop0 : isLoop1 (subs 0 (bodyOf Try.f42)) = true := by kernel_rfl
theorem f42_tab0 : tabOk t42.sd t42.sx (lb Try.f42 0) = true := by kernel_rfl
def t57 : FT where
  keep := []
  kb := fun
    | _ => []
  sd := fun
    | _ => []
theorem f57_at : Try.prog.funcs[57]? = some Try.f57 := by kernel_rfl
theorem f57_body : Try.f57.body.isSome = true := by kernel_rfl
theorem f57_tab : tabOk t57.sd t57.sx (bodyOf Try.f57) = true := by kernel_rfl
def t65 : FT where
  keep := []
  kb := fun
    | 0 => [8, 7, 1, 0]
    | _ => []
  sd := fun
    | _ => []
theorem f65_at : Try.prog.funcs[65]? = some Try.f65 := by kernel_rfl
theorem f65_body : Try.f65.body.isSome = true := by kernel_rfl
theorem f65_tab : tabOk t65.sd t65.sx (bodyOf Try.f65) = true := by kernel_rfl
theorem f65_loop0 : isLoop1 (subs 0 (bodyOf Try.f65)) = true := by kernel_rfl
theorem f65_tab0 : tabOk t65.sd t65.sx (lb Try.f65 0) = true := by kernel_rfl
def t58 : FT where
  keep := []
  kb := fun
    | _ => []
  sd := fun
    | _ => []
theorem f58_at : Try.prog.funcs[58]? = some Try.f58 := by kernel_rfl
theorem f58_body : Try.f58.body.isSome = true := by kernel_rfl
theorem f58_tab : tabOk t58.sd t58.sx (bodyOf Try.f58) = true := by kernel_rfl
end Go.Proofs.Ytnepapfndihalaa
