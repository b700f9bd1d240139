/- The trees' functions. Printed by Gen.lean, merge.py. -/
import Derived.Test.YtnepapfndihalaaBc
import Derived.Test.YtnepapfndihalaaProg
import Derived.KernelRfl
set_option linter.unusedVariables false
set_option linter.unusedSimpArgs false
set_option linter.unusedSectionVars false
namespace Go.Proofs.Ytnepapfndihalaa
open Go.RowKit

theorem mixed : Try.prog.follows .mixedOrders = true := by kernel_rfl
def t16 : FT where
  keep := []
  kb := fun
    | 0 => [5, 0, 3, 4]
    | 2 => [7, 3, 6, 0, 4]
    | _ => []
  sd := fun
    | 5 => [(0, true), (1, true), (2, true), (3, true), (4, true), (5, true), (6, true), (7, true)]
    | _ => []
theorem f16_at : Try.prog.funcs[16]? = some Try.f16 := by kernel_rfl
theorem f16_body : Try.f16.body.isSome = true := by kernel_rfl
theorem f16_tab : tabOk t16.sd t16.sx (bodyOf Try.f16) = true := by kernel_rfl
theorem f16_loop0 : isLoop1 (subs 0 (bodyOf Try.f16)) = true := by kernel_rfl
theorem f16_tab0 : tabOk t16.sd t16.sx (lb Try.f16 0) = true := by kernel_rfl
theorem f16_loop2 : isLoop1 (subs 2 (bodyOf Try.f16)) = true := by kernel_rfl
theorem f16_tab2 : tabOk t16.sd t16.sx (lb Try.f16 2) = true := by kernel_rfl
def t4 : FT where
  keep := []
  kb := fun
    | 0 => [37, 36, 5, 0, 6, 1]
    | 2 => [61, 60, 59, 5, 6, 1]
    | 4 => [106, 105, 104, 5, 6, 61, 60, 59, 1]
    | _ => []
  sd := fun
    | _ => []
  sx := fun
    | 31 => some (.look 0 (.look 1 (.look 2 (.look 3 (.look 4 (.eff (.cons 5 (.eff (.cons 6 (.eff (.cons 7 (.done) (.nil))) (.nil))) (.cons 6 (.eff (.cons 5 (.eff (.cons 7 (.done) (.nil))) (.nil))) (.nil)))))))), [5, 15, 17, 16, 18, 106, 105, 104, 6, 61, 60, 59, 1])
    | _ => none
theorem f4_at : Try.prog.funcs[4]? = some Try.f4 := by kernel_rfl
theorem f4_body : Try.f4.body.isSome = true := by kernel_rfl
theorem f4_tab : tabOk t4.sd t4.sx (bodyOf Try.f4) = true := by kernel_rfl
theorem f4_loop0 : isLoop1 (subs 0 (bodyOf Try.f4)) = true := by kernel_rfl
theorem f4_tab0 : tabOk t4.sd t4.sx (lb Try.f4 0) = true := by kernel_rfl
theorem f4_loop2 : isLoop1 (subs 2 (bodyOf Try.f4)) = true := by kernel_rfl
theorem f4_tab2 : tabOk t4.sd t4.sx (lb Try.f4 2) = true := by kernel_rfl
theorem f4_loop4 : isLoop1 (subs 4 (bodyOf Try.f4)) = true := by kernel_rfl
theorem f4_tab4 : tabOk t4.sd t4.sx (lb Try.f4 4) = true := by kernel_rfl
def t11 : FT where
  keep := []
  kb := fun
    | _ => []
  sd := fun
    | _ => []
theorem f11_at : Try.prog.funcs[11]? = some Try.f11 := by kernel_rfl
theorem f11_body : Try.f11.body.isSome = true := by kernel_rfl
theorem f11_tab : tabOk t11.sd t11.sx (bodyOf Try.f11) = true := by kernel_rfl
def t10 : FT where
  keep := []
  kb := fun
    | _ => []
  sd := fun
    | _ => []
theorem f10_at : Try.prog.funcs[10]? = some Try.f10 := by kernel_rfl
theorem f10_body : Try.f10.body.isSome = true := by kernel_rfl
theorem f10_tab : tabOk t10.sd t10.sx (bodyOf Try.f10) = true := by kernel_rfl
def t12 : FT where
  keep := []
  kb := fun
    | 0 => [42, 41, 40, 0, 7]
    | _ => []
  sd := fun
    | _ => []
theorem f12_at : Try.prog.funcs[12]? = some Try.f12 := by kernel_rfl
theorem f12_body : Try.f12.body.isSome = true := by kernel_rfl
theorem f12_tab : tabOk t12.sd t12.sx (bodyOf Try.f12) = true := by kernel_rfl
theorem f12_loop0 : isLoop1 (subs 0 (bodyOf Try.f12)) = true := by kernel_rfl
theorem f12_tab0 : tabOk t12.sd t12.sx (lb Try.f12 0) = true := by kernel_rfl
def t13 : FT where
  keep := []
  kb := fun
    | _ => []
  sd := fun
    | 2 => [(0, true), (1, true), (2, true), (3, true), (4, true), (6, true), (7, true), (8, true), (9, true), (5, false), (10, true), (11, false), (12, true)]
    | _ => []
theorem f13_at : Try.prog.funcs[13]? = some Try.f13 := by kernel_rfl
theorem f13_body : Try.f13.body.isSome = true := by kernel_rfl
theorem f13_tab : tabOk t13.sd t13.sx (bodyOf Try.f13) = true := by kernel_rfl
def t14 : FT where
  keep := []
  kb := fun
    | 0 => [9, 7, 0, 8]
    | _ => []
  sd := fun
    | 11 => [(0, true), (2, true), (3, true), (1, false), (4, false)]
    | 22 => [(0, true), (1, true), (2, true), (3, true), (4, true), (5, true), (6, true), (7, true), (8, true), (9, true), (10, true), (11, false), (12, true)]
    | _ => []
  sx := fun
    | 3 => some (.look 0 (.look 1 (.look 2 (.look 3 (.look 4 (.eff (.cons 5 (.eff (.cons 6 (.eff (.cons 7 (.done) (.nil))) (.nil))) (.cons 6 (.eff (.cons 5 (.eff (.cons 7 (.done) (.nil))) (.nil))) (.nil)))))))), [0, 5, 7])
    | 4 => some (.look 0 (.look 1 (.look 2 (.look 3 (.look 4 (.eff (.cons 5 (.eff (.cons 6 (.eff (.cons 7 (.done) (.nil))) (.nil))) (.cons 6 (.eff (.cons 5 (.eff (.cons 7 (.done) (.nil))) (.nil))) (.nil)))))))), [7, 8, 0])
    | _ => none
theorem f14_at : Try.prog.funcs[14]? = some Try.f14 := by kernel_rfl
theorem f14_body : Try.f14.body.isSome = true := by kernel_rfl
theorem f14_tab : tabOk t14.sd t14.sx (bodyOf Try.f14) = true := by kernel_rfl
theorem f14_loop0 : isLoop1 (subs 0 (bodyOf Try.f14)) = true := by kernel_rfl
theorem f14_tab0 : tabOk t14.sd t14.sx (lb Try.f14 0) = true := by kernel_rfl
def t15 : FT where
  keep := []
  kb := fun
    | _ => []
  sd := fun
    | _ => []
theorem f15_at : Try.prog.funcs[15]? = some Try.f15 := by kernel_rfl
theorem f15_body : Try.f15.body.isSome = true := by kernel_rfl
theorem f15_tab : tabOk t15.sd t15.sx (bodyOf Try.f15) = true := by kernel_rfl
def t17 : FT where
  keep := []
  kb := fun
    | 0 => [3, 0, 4]
    | _ => []
  sd := fun
    | 4 => [(0, true), (1, true), (2, true), (3, true), (4, true), (5, true), (6, true), (7, true), (8, true), (9, true), (10, false), (11, false), (12, true)]
    | _ => []
theorem f17_at : Try.prog.funcs[17]? = some Try.f17 := by kernel_rfl
theorem f17_body : Try.f17.body.isSome = true := by kernel_rfl
theorem f17_tab : tabOk t17.sd t17.sx (bodyOf Try.f17) = true := by kernel_rfl
theorem f17_loop0 : isLoop1 (subs 0 (bodyOf Try.f17)) = true := by kernel_rfl
theorem f17_tab0 : tabOk t17.sd t17.sx (lb Try.f17 0) = true := by kernel_rfl
def t26 : FT where
  keep := []
  kb := fun
    | _ => []
  sd := fun
    | 1 => [(0, true), (1, true), (3, true), (4, true), (2, false), (5, false), (6, false), (7, false)]
    | _ => []
theorem f26_at : Try.prog.funcs[26]? = some Try.f26 := by kernel_rfl
theorem f26_body : Try.f26.body.isSome = true := by kernel_rfl
theorem f26_tab : tabOk t26.sd t26.sx (bodyOf Try.f26) = true := by kernel_rfl
def t30 : FT where
  keep := []
  kb := fun
    | 0 => [7, 0, 6]
    | _ => []
  sd := fun
    | 5 => [(0, true), (1, true), (2, true), (3, true), (4, true), (5, true), (6, true), (7, true), (8, true), (9, true), (10, true), (11, true), (12, true), (13, true), (14, true), (15, true), (16, true), (17, true), (18, true), (19, true), (20, true), (21, true), (22, false), (23, true), (24, true), (25, false)]
    | 7 => [(0, true), (1, true), (2, true), (3, true), (4, true), (5, true), (6, true), (7, true), (8, false), (9, false), (10, true), (11, true), (12, false)]
    | _ => []
theorem f30_at : Try.prog.funcs[30]? = some Try.f30 := by kernel_rfl
theorem f30_body : Try.f30.body.isSome = true := by kernel_rfl
theorem f30_tab : tabOk t30.sd t30.sx (bodyOf Try.f30) = true := by kernel_rfl
theorem f30_loop0 : isLoop1 (subs 0 (bodyOf Try.f30)) = true := by kernel_rfl
theorem f30_tab0 : tabOk t30.sd t30.sx (lb Try.f30 0) = true := by kernel_rfl
def t31 : FT where
  keep := []
  kb := fun
    | 0 => [35, 34, 33, 7, 0, 2, 4, 6]
    | _ => []
  sd := fun
    | _ => []
theorem f31_at : Try.prog.funcs[31]? = some Try.f31 := by kernel_rfl
theorem f31_body : Try.f31.body.isSome = true := by kernel_rfl
theorem f31_tab : tabOk t31.sd t31.sx (bodyOf Try.f31) = true := by kernel_rfl
theorem f31_loop0 : isLoop1 (subs 0 (bodyOf Try.f31)) = true := by kernel_rfl
theorem f31_tab0 : tabOk t31.sd t31.sx (lb Try.f31 0) = true := by kernel_rfl
def t39 : FT where
  keep := []
  kb := fun
    | _ => []
  sd := fun
    | _ => []
theorem f39_at : Try.prog.funcs[39]? = some Try.f39 := by kernel_rfl
theorem f39_body : Try.f39.body.isSome = true := by kernel_rfl
theorem f39_tab : tabOk t39.sd t39.sx (bodyOf Try.f39) = true := by kernel_rfl
def t40 : FT where
  keep := []
  kb := fun
    | _ => []
  sd := fun
    | _ => []
theorem f40_at : Try.prog.funcs[40]? = some Try.f40 := by kernel_rfl
theorem f40_body : Try.f40.body.isSome = true := by kernel_rfl
theorem f40_tab : tabOk t40.sd t40.sx (bodyOf Try.f40) = true := by kernel_rfl
def t41 : FT where
  keep := []
  kb := fun
    | _ => []
  sd := fun
    | 1 => [(0, true), (1, true), (2, true), (3, true), (4, true), (5, true), (6, false)]
    | 2 => [(0, true), (1, true), (2, true), (3, true), (4, true), (5, true), (6, true), (7, true), (8, true), (9, true), (10, true), (11, true), (12, true), (13, true), (14, true), (15, true), (16, true), (17, false), (18, false), (19, true), (20, true), (21, false)]
    | _ => []
theorem f41_at : Try.prog.funcs[41]? = some Try.f41 := by kernel_rfl
theorem f41_body : Try.f41.body.isSome = true := by kernel_rfl
theorem f41_tab : tabOk t41.sd t41.sx (bodyOf Try.f41) = true := by kernel_rfl
def t42 : FT where
  keep := []
  kb := fun
    | 0 => [17, 16, 15, 1, 2]
    | _ => []
  sd := fun
    | _ => []
theorem f42_at : Try.prog.funcs[42]? = some Try.f42 := by kernel_rfl
theorem f42_body : Try.f42.body.isSome = true := by kernel_rfl
theorem f42_tab : tabOk t42.sd t42.sx (bodyOf Try.f42) = true := by kernel_rfl
theorem f42_loop0 : isLoop1 (subs 0 (bodyOf Try.f42)) = true := by kernel_rfl
theorem f42_tab0 : tabOk t42.sd t42.sx (lb Try.f42 0) = true := by kernel_rfl
def t57 : FT where
  keep := []
  kb := fun
    | _ => []
  sd := fun
    | _ => []
theorem f57_at : Try.prog.funcs[57]? = some Try.f57 := by kernel_rfl
theorem f57_body : Try.f57.body.isSome = true := by kernel_rfl
theorem f57_tab : tabOk t57.sd t57.sx (bodyOf Try.f57) = true := by kernel_rfl
def t65 : FT where
  keep := []
  kb := fun
    | 0 => [8, 7, 1, 0]
    | _ => []
  sd := fun
    | _ => []
theorem f65_at : Try.prog.funcs[65]? = some Try.f65 := by kernel_rfl
theorem f65_body : Try.f65.body.isSome = true := by kernel_rfl
theorem f65_tab : tabOk t65.sd t65.sx (bodyOf Try.f65) = true := by kernel_rfl
theorem f65_loop0 : isLoop1 (subs 0 (bodyOf Try.f65)) = true := by kernel_rfl
theorem f65_tab0 : tabOk t65.sd t65.sx (lb Try.f65 0) = true := by kernel_rfl
def t58 : FT where
  keep := []
  kb := fun
    | _ => []
  sd := fun
    | _ => []
theorem f58_at : Try.prog.funcs[58]? = some Try.f58 := by kernel_rfl
theorem f58_body : Try.f58.body.isSome = true := by kernel_rfl
theorem f58_tab : tabOk t58.sd t58.sx (bodyOf Try.f58) = true := by kernel_rfl
def t27 : FT where
  keep := []
  kb := fun
    | _ => []
  sd := fun
    | _ => []
theorem f27_at : Try.prog.funcs[27]? = some Try.f27 := by kernel_rfl
theorem f27_body : Try.f27.body.isSome = true := by kernel_rfl
theorem f27_tab : tabOk t27.sd t27.sx (bodyOf Try.f27) = true := by kernel_rfl
def t28 : FT where
  keep := []
  kb := fun
    | 0 => [5, 0, 1]
    | _ => []
  sd := fun
    | _ => []
theorem f28_at : Try.prog.funcs[28]? = some Try.f28 := by kernel_rfl
theorem f28_body : Try.f28.body.isSome = true := by kernel_rfl
theorem f28_tab : tabOk t28.sd t28.sx (bodyOf Try.f28) = true := by kernel_rfl
theorem f28_loop0 : isLoop1 (subs 0 (bodyOf Try.f28)) = true := by kernel_rfl
theorem f28_tab0 : tabOk t28.sd t28.sx (lb Try.f28 0) = true := by kernel_rfl
def t29 : FT where
  keep := []
  kb := fun
    | 0 => [5, 3, 4]
    | _ => []
  sd := fun
    | _ => []
theorem f29_at : Try.prog.funcs[29]? = some Try.f29 := by kernel_rfl
theorem f29_body : Try.f29.body.isSome = true := by kernel_rfl
theorem f29_tab : tabOk t29.sd t29.sx (bodyOf Try.f29) = true := by kernel_rfl
theorem f29_loop0 : isLoop1 (subs 0 (bodyOf Try.f29)) = true := by kernel_rfl
theorem f29_tab0 : tabOk t29.sd t29.sx (lb Try.f29 0) = true := by kernel_rfl
def t43 : FT where
  keep := []
  kb := fun
    | 0 => [6, 2, 5, 1]
    | _ => []
  sd := fun
    | _ => []
theorem f43_at : Try.prog.funcs[43]? = some Try.f43 := by kernel_rfl
theorem f43_body : Try.f43.body.isSome = true := by kernel_rfl
theorem f43_tab : tabOk t43.sd t43.sx (bodyOf Try.f43) = true := by kernel_rfl
theorem f43_loop0 : isLoop1 (subs 0 (bodyOf Try.f43)) = true := by kernel_rfl
theorem f43_tab0 : tabOk t43.sd t43.sx (lb Try.f43 0) = true := by kernel_rfl
def t44 : FT where
  keep := []
  kb := fun
    | 0 => [4, 1, 3]
    | _ => []
  sd := fun
    | _ => []
theorem f44_at : Try.prog.funcs[44]? = some Try.f44 := by kernel_rfl
theorem f44_body : Try.f44.body.isSome = true := by kernel_rfl
theorem f44_tab : tabOk t44.sd t44.sx (bodyOf Try.f44) = true := by kernel_rfl
theorem f44_loop0 : isLoop1 (subs 0 (bodyOf Try.f44)) = true := by kernel_rfl
theorem f44_tab0 : tabOk t44.sd t44.sx (lb Try.f44 0) = true := by kernel_rfl
def t32 : FT where
  keep := []
  kb := fun
    | _ => []
  sd := fun
    | _ => []
theorem f32_at : Try.prog.funcs[32]? = some Try.f32 := by kernel_rfl
theorem f32_body : Try.f32.body.isSome = true := by kernel_rfl
theorem f32_tab : tabOk t32.sd t32.sx (bodyOf Try.f32) = true := by kernel_rfl
def t6 : FT where
  keep := []
  kb := fun
    | 0 => [7, 6, 5, 0]
    | _ => []
  sd := fun
    | _ => []
theorem f6_at : Try.prog.funcs[6]? = some Try.f6 := by kernel_rfl
theorem f6_body : Try.f6.body.isSome = true := by kernel_rfl
theorem f6_tab : tabOk t6.sd t6.sx (bodyOf Try.f6) = true := by kernel_rfl
theorem f6_loop0 : isLoop1 (subs 0 (bodyOf Try.f6)) = true := by kernel_rfl
theorem f6_tab0 : tabOk t6.sd t6.sx (lb Try.f6 0) = true := by kernel_rfl
def t20 : FT where
  keep := []
  kb := fun
    | 0 => [22, 21, 20]
    | _ => []
  sd := fun
    | _ => []
theorem f20_at : Try.prog.funcs[20]? = some Try.f20 := by kernel_rfl
theorem f20_body : Try.f20.body.isSome = true := by kernel_rfl
theorem f20_tab : tabOk t20.sd t20.sx (bodyOf Try.f20) = true := by kernel_rfl
theorem f20_loop0 : isLoop1 (subs 0 (bodyOf Try.f20)) = true := by kernel_rfl
theorem f20_tab0 : tabOk t20.sd t20.sx (lb Try.f20 0) = true := by kernel_rfl
def t21 : FT where
  keep := []
  kb := fun
    | _ => []
  sd := fun
    | _ => []
theorem f21_at : Try.prog.funcs[21]? = some Try.f21 := by kernel_rfl
theorem f21_body : Try.f21.body.isSome = true := by kernel_rfl
theorem f21_tab : tabOk t21.sd t21.sx (bodyOf Try.f21) = true := by kernel_rfl
def t33 : FT where
  keep := []
  kb := fun
    | 0 => [6, 2, 5, 1]
    | _ => []
  sd := fun
    | _ => []
theorem f33_at : Try.prog.funcs[33]? = some Try.f33 := by kernel_rfl
theorem f33_body : Try.f33.body.isSome = true := by kernel_rfl
theorem f33_tab : tabOk t33.sd t33.sx (bodyOf Try.f33) = true := by kernel_rfl
theorem f33_loop0 : isLoop1 (subs 0 (bodyOf Try.f33)) = true := by kernel_rfl
theorem f33_tab0 : tabOk t33.sd t33.sx (lb Try.f33 0) = true := by kernel_rfl
def t8 : FT where
  keep := []
  kb := fun
    | _ => []
  sd := fun
    | _ => []
theorem f8_at : Try.prog.funcs[8]? = some Try.f8 := by kernel_rfl
theorem f8_body : Try.f8.body.isSome = true := by kernel_rfl
theorem f8_tab : tabOk t8.sd t8.sx (bodyOf Try.f8) = true := by kernel_rfl
def t25 : FT where
  keep := []
  kb := fun
    | 0 => [5, 0, 1]
    | _ => []
  sd := fun
    | 6 => [(0, true), (1, true), (2, true), (3, true), (4, true), (5, true), (6, true), (7, true), (8, false), (9, true)]
    | _ => []
theorem f25_at : Try.prog.funcs[25]? = some Try.f25 := by kernel_rfl
theorem f25_body : Try.f25.body.isSome = true := by kernel_rfl
theorem f25_tab : tabOk t25.sd t25.sx (bodyOf Try.f25) = true := by kernel_rfl
theorem f25_loop0 : isLoop1 (subs 0 (bodyOf Try.f25)) = true := by kernel_rfl
theorem f25_tab0 : tabOk t25.sd t25.sx (lb Try.f25 0) = true := by kernel_rfl
def t9 : FT where
  keep := []
  kb := fun
    | _ => []
  sd := fun
    | _ => []
theorem f9_at : Try.prog.funcs[9]? = some Try.f9 := by kernel_rfl
theorem f9_body : Try.f9.body.isSome = true := by kernel_rfl
theorem f9_tab : tabOk t9.sd t9.sx (bodyOf Try.f9) = true := by kernel_rfl
end Go.Proofs.Ytnepapfndihalaa
