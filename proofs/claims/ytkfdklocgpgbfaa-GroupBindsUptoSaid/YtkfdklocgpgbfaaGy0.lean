/- The trees' functions. Printed by Gen.lean, merge.py. -/
import Derived.Test.YtkfdklocgpgbfaaBc
import Derived.Test.YtkfdklocgpgbfaaProg
import Derived.KernelRfl
set_option linter.unusedVariables false
set_option linter.unusedSimpArgs false
set_option linter.unusedSectionVars false
namespace Go.Proofs.Ytkfdklocgpgbfaa
open Go.RowKit

theorem mixed : Try.prog.follows .mixedOrders = true := by kernel_rfl
def t9 : FT where
  keep := []
  kb := fun
    | 0 => [15, 14, 13, 4, 0]
    | 2 => [21, 20, 19, 4, 15, 14, 13, 0]
    | 4 => [48, 47, 9]
    | _ => []
  sd := fun
    | _ => []
  sx := fun
    | 12 => some (.look 0 (.look 1 (.look 3 (.look 5 (.eff (.cons 2 (.eff (.cons 4 (.eff (.cons 6 (.look 7 (.eff (.cons 8 (.look 9 (.done)) (.nil)))) (.nil))) (.cons 6 (.eff (.cons 4 (.look 7 (.eff (.cons 8 (.look 9 (.done)) (.nil)))) (.nil))) (.nil)))) (.cons 4 (.eff (.cons 2 (.eff (.cons 6 (.look 7 (.eff (.cons 8 (.look 9 (.done)) (.nil)))) (.nil))) (.cons 6 (.eff (.cons 2 (.look 7 (.eff (.cons 8 (.look 9 (.done)) (.nil)))) (.nil))) (.nil)))) (.cons 6 (.eff (.cons 2 (.eff (.cons 4 (.look 7 (.eff (.cons 8 (.look 9 (.done)) (.nil)))) (.nil))) (.cons 4 (.eff (.cons 2 (.look 7 (.eff (.cons 8 (.look 9 (.done)) (.nil)))) (.nil))) (.nil)))) (.nil)))))))), [9])
    | _ => none
theorem f9_at : Try.prog.funcs[9]? = some Try.f9 := by kernel_rfl
theorem f9_body : Try.f9.body.isSome = true := by kernel_rfl
theorem f9_tab : tabOk t9.sd t9.sx (bodyOf Try.f9) = true := by kernel_rfl
theorem f9_loop0 : isLoop1 (subs 0 (bodyOf Try.f9)) = true := by kernel_rfl
theorem f9_tab0 : tabOk t9.sd t9.sx (lb Try.f9 0) = true := by kernel_rfl
theorem f9_loop2 : isLoop1 (subs 2 (bodyOf Try.f9)) = true := by kernel_rfl
theorem f9_tab2 : tabOk t9.sd t9.sx (lb Try.f9 2) = true := by kernel_rfl
theorem f9_loop4 : isLoop1 (subs 4 (bodyOf Try.f9)) = true := by kernel_rfl
theorem f9_tab4 : tabOk t9.sd t9.sx (lb Try.f9 4) = true := by kernel_rfl
def t17 : FT where
  keep := []
  kb := fun
    | 0 => [11, 10, 1, 3]
    | _ => []
  sd := fun
    | _ => []
theorem f17_at : Try.prog.funcs[17]? = some Try.f17 := by kernel_rfl
theorem f17_body : Try.f17.body.isSome = true := by kernel_rfl
theorem f17_tab : tabOk t17.sd t17.sx (bodyOf Try.f17) = true := by kernel_rfl
theorem f17_loop0 : isLoop1 (subs 0 (bodyOf Try.f17)) = true := by kernel_rfl
theorem f17_tab0 : tabOk t17.sd t17.sx (lb Try.f17 0) = true := by kernel_rfl
def t18 : FT where
  keep := []
  kb := fun
    | 0 => [4, 0, 3]
    | 2 => [26, 25, 0, 3, 4]
    | _ => []
  sd := fun
    | _ => []
theorem f18_at : Try.prog.funcs[18]? = some Try.f18 := by kernel_rfl
theorem f18_body : Try.f18.body.isSome = true := by kernel_rfl
theorem f18_tab : tabOk t18.sd t18.sx (bodyOf Try.f18) = true := by kernel_rfl
theorem f18_loop0 : isLoop1 (subs 0 (bodyOf Try.f18)) = true := by kernel_rfl
theorem f18_tab0 : tabOk t18.sd t18.sx (lb Try.f18 0) = true := by kernel_rfl
theorem f18_loop2 : isLoop1 (subs 2 (bodyOf Try.f18)) = true := by kernel_rfl
theorem f18_tab2 : tabOk t18.sd t18.sx (lb Try.f18 2) = true := by kernel_rfl
def t25 : FT where
  keep := []
  kb := fun
    | 0 => [45, 44, 43, 2, 3, 0]
    | 3 => [153, 152, 151, 2, 8]
    | _ => []
  sd := fun
    | 1 => [(0, true), (1, true), (2, true), (3, true), (4, true), (5, true), (6, true), (7, true), (8, true), (9, true), (10, true), (11, true), (12, true), (13, false), (14, true), (15, false)]
    | 2 => [(0, true), (1, true), (2, true), (3, true), (4, true), (5, true), (6, false), (7, false), (8, true), (9, true), (10, false)]
    | 8 => [(0, true), (1, true), (2, true), (3, true), (4, true), (5, true), (6, true), (7, true), (8, true), (9, true), (10, true), (11, true), (12, true), (13, true), (14, true), (15, true), (16, true), (17, true), (18, true), (19, true), (20, true), (21, false)]
    | 10 => [(0, true), (1, true), (2, true), (3, true), (4, true), (5, true), (6, true), (7, true), (8, true), (9, true), (10, true), (11, true), (12, true), (13, true), (14, true), (15, true), (16, true), (17, true), (18, true), (19, true), (20, true), (21, false)]
    | 12 => [(0, true), (1, true), (2, true), (3, true), (4, true), (5, true), (6, true), (7, true), (8, true), (9, true), (10, true), (11, true), (12, true), (13, true), (14, true)]
    | 15 => [(0, true), (1, true), (2, true), (3, true), (4, true), (5, true), (6, true), (7, true), (8, true), (9, false)]
    | 19 => [(0, true), (1, true), (2, true), (3, true), (4, true), (5, true), (6, true), (7, true), (8, true), (9, true), (10, true), (11, false)]
    | 21 => [(0, true), (1, true), (2, true), (3, true), (4, true), (5, true), (6, false), (7, false), (8, true), (9, true), (10, false)]
    | _ => []
theorem f25_at : Try.prog.funcs[25]? = some Try.f25 := by kernel_rfl
theorem f25_body : Try.f25.body.isSome = true := by kernel_rfl
theorem f25_tab : tabOk t25.sd t25.sx (bodyOf Try.f25) = true := by kernel_rfl
theorem f25_loop0 : isLoop1 (subs 0 (bodyOf Try.f25)) = true := by kernel_rfl
theorem f25_tab0 : tabOk t25.sd t25.sx (lb Try.f25 0) = true := by kernel_rfl
theorem f25_loop3 : isLoop1 (subs 3 (bodyOf Try.f25)) = true := by kernel_rfl
theorem f25_tab3 : tabOk t25.sd t25.sx (lb Try.f25 3) = true := by kernel_rfl
def t29 : FT where
  keep := []
  kb := fun
    | 0 => [13, 12, 11, 0, 2]
    | 2 => [25, 24, 23, 0, 8, 2, 13, 12, 11]
    | _ => []
  sd := fun
    | 7 => [(0, true), (1, true), (2, true), (3, true), (4, true), (5, true), (6, true), (7, true), (8, true), (9, true), (10, true), (11, true), (12, true), (13, true), (14, true), (15, true), (16, true), (17, true), (18, true), (19, true), (20, true), (21, true), (22, true), (23, true), (24, true), (25, true), (26, true), (27, true)]
    | _ => []
theorem f29_at : Try.prog.funcs[29]? = some Try.f29 := by kernel_rfl
theorem f29_body : Try.f29.body.isSome = true := by kernel_rfl
theorem f29_tab : tabOk t29.sd t29.sx (bodyOf Try.f29) = true := by kernel_rfl
theorem f29_loop0 : isLoop1 (subs 0 (bodyOf Try.f29)) = true := by kernel_rfl
theorem f29_tab0 : tabOk t29.sd t29.sx (lb Try.f29 0) = true := by kernel_rfl
theorem f29_loop2 : isLoop1 (subs 2 (bodyOf Try.f29)) = true := by kernel_rfl
theorem f29_tab2 : tabOk t29.sd t29.sx (lb Try.f29 2) = true := by kernel_rfl
def t26 : FT where
  keep := []
  kb := fun
    | 0 => [8, 7, 1, 0]
    | _ => []
  sd := fun
    | _ => []
theorem f26_at : Try.prog.funcs[26]? = some Try.f26 := by kernel_rfl
theorem f26_body : Try.f26.body.isSome = true := by kernel_rfl
theorem f26_tab : tabOk t26.sd t26.sx (bodyOf Try.f26) = true := by kernel_rfl
theorem f26_loop0 : isLoop1 (subs 0 (bodyOf Try.f26)) = true := by kernel_rfl
theorem f26_tab0 : tabOk t26.sd t26.sx (lb Try.f26 0) = true := by kernel_rfl
def t28 : FT where
  keep := []
  kb := fun
    | _ => []
  sd := fun
    | _ => []
theorem f28_at : Try.prog.funcs[28]? = some Try.f28 := by kernel_rfl
theorem f28_body : Try.f28.body.isSome = true := by kernel_rfl
theorem f28_tab : tabOk t28.sd t28.sx (bodyOf Try.f28) = true := by kernel_rfl
def t8 : FT where
  keep := []
  kb := fun
    | 0 => [7, 6, 5, 0]
    | _ => []
  sd := fun
    | _ => []
theorem f8_at : Try.prog.funcs[8]? = some Try.f8 := by kernel_rfl
theorem f8_body : Try.f8.body.isSome = true := by kernel_rfl
theorem f8_tab : tabOk t8.sd t8.sx (bodyOf Try.f8) = true := by kernel_rfl
theorem f8_loop0 : isLoop1 (subs 0 (bodyOf Try.f8)) = true := by kernel_rfl
theorem f8_tab0 : tabOk t8.sd t8.sx (lb Try.f8 0) = true := by kernel_rfl
def t10 : FT where
  keep := []
  kb := fun
    | 0 => [4, 0]
    | 2 => [5, 0, 4]
    | 4 => [9, 0, 7, 6, 8]
    | 6 => [11, 0, 10, 7, 6, 8, 9]
    | 8 => [13, 0, 12, 6, 11, 7, 8, 9, 10]
    | 10 => [15, 0, 6, 10, 14, 7, 8, 9]
    | _ => []
  sd := fun
    | _ => []
theorem f10_at : Try.prog.funcs[10]? = some Try.f10 := by kernel_rfl
theorem f10_body : Try.f10.body.isSome = true := by kernel_rfl
theorem f10_tab : tabOk t10.sd t10.sx (bodyOf Try.f10) = true := by kernel_rfl
theorem f10_loop0 : isLoop1 (subs 0 (bodyOf Try.f10)) = true := by kernel_rfl
theorem f10_tab0 : tabOk t10.sd t10.sx (lb Try.f10 0) = true := by kernel_rfl
theorem f10_loop2 : isLoop1 (subs 2 (bodyOf Try.f10)) = true := by kernel_rfl
theorem f10_tab2 : tabOk t10.sd t10.sx (lb Try.f10 2) = true := by kernel_rfl
theorem f10_loop4 : isLoop1 (subs 4 (bodyOf Try.f10)) = true := by kernel_rfl
theorem f10_tab4 : tabOk t10.sd t10.sx (lb Try.f10 4) = true := by kernel_rfl
theorem f10_loop6 : isLoop1 (subs 6 (bodyOf Try.f10)) = true := by kernel_rfl
theorem f10_tab6 : tabOk t10.sd t10.sx (lb Try.f10 6) = true := by kernel_rfl
theorem f10_loop8 : isLoop1 (subs 8 (bodyOf Try.f10)) = true := by kernel_rfl
theorem f10_tab8 : tabOk t10.sd t10.sx (lb Try.f10 8) = true := by kernel_rfl
theorem f10_loop10 : isLoop1 (subs 10 (bodyOf Try.f10)) = true := by kernel_rfl
theorem f10_tab10 : tabOk t10.sd t10.sx (lb Try.f10 10) = true := by kernel_rfl
def t11 : FT where
  keep := []
  kb := fun
    | 0 => [5, 0, 1]
    | 2 => [6, 0, 5, 1]
    | _ => []
  sd := fun
    | 6 => [(0, true), (1, true), (2, true), (3, true), (4, true), (5, true), (6, true), (7, true), (8, true), (9, true), (10, true)]
    | 11 => [(0, true), (1, true), (2, true), (3, true), (4, true), (5, true), (6, true), (7, true), (8, true), (9, true), (10, true), (11, true), (12, true), (13, true), (14, true)]
    | _ => []
theorem f11_at : Try.prog.funcs[11]? = some Try.f11 := by kernel_rfl
theorem f11_body : Try.f11.body.isSome = true := by kernel_rfl
theorem f11_tab : tabOk t11.sd t11.sx (bodyOf Try.f11) = true := by kernel_rfl
theorem f11_loop0 : isLoop1 (subs 0 (bodyOf Try.f11)) = true := by kernel_rfl
theorem f11_tab0 : tabOk t11.sd t11.sx (lb Try.f11 0) = true := by kernel_rfl
theorem f11_loop2 : isLoop1 (subs 2 (bodyOf Try.f11)) = true := by kernel_rfl
theorem f11_tab2 : tabOk t11.sd t11.sx (lb Try.f11 2) = true := by kernel_rfl
def t19 : FT where
  keep := []
  kb := fun
    | _ => []
  sd := fun
    | _ => []
theorem f19_at : Try.prog.funcs[19]? = some Try.f19 := by kernel_rfl
theorem f19_body : Try.f19.body.isSome = true := by kernel_rfl
theorem f19_tab : tabOk t19.sd t19.sx (bodyOf Try.f19) = true := by kernel_rfl
def t6 : FT where
  keep := []
  kb := fun
    | 0 => [15, 14, 13, 0]
    | _ => []
  sd := fun
    | _ => []
theorem f6_at : Try.prog.funcs[6]? = some Try.f6 := by kernel_rfl
theorem f6_body : Try.f6.body.isSome = true := by kernel_rfl
theorem f6_tab : tabOk t6.sd t6.sx (bodyOf Try.f6) = true := by kernel_rfl
theorem f6_loop0 : isLoop1 (subs 0 (bodyOf Try.f6)) = true := by kernel_rfl
theorem f6_tab0 : tabOk t6.sd t6.sx (lb Try.f6 0) = true := by kernel_rfl
def t13 : FT where
  keep := []
  kb := fun
    | _ => []
  sd := fun
    | _ => []
theorem f13_at : Try.prog.funcs[13]? = some Try.f13 := by kernel_rfl
theorem f13_body : Try.f13.body.isSome = true := by kernel_rfl
theorem f13_tab : tabOk t13.sd t13.sx (bodyOf Try.f13) = true := by kernel_rfl
def t20 : FT where
  keep := []
  kb := fun
    | 0 => [6, 2, 5, 1]
    | 2 => [7, 2, 5, 1]
    | 4 => [8, 2, 5, 1]
    | _ => []
  sd := fun
    | 13 => [(0, true), (1, true), (2, true), (3, true), (4, true), (5, true), (6, true), (7, true), (8, true), (9, true), (12, true), (13, true), (14, true), (15, true), (16, true), (17, true), (18, true), (19, true), (10, false), (11, true), (20, true), (21, true), (22, true)]
    | _ => []
theorem f20_at : Try.prog.funcs[20]? = some Try.f20 := by kernel_rfl
theorem f20_body : Try.f20.body.isSome = true := by kernel_rfl
theorem f20_tab : tabOk t20.sd t20.sx (bodyOf Try.f20) = true := by kernel_rfl
theorem f20_loop0 : isLoop1 (subs 0 (bodyOf Try.f20)) = true := by kernel_rfl
theorem f20_tab0 : tabOk t20.sd t20.sx (lb Try.f20 0) = true := by kernel_rfl
theorem f20_loop2 : isLoop1 (subs 2 (bodyOf Try.f20)) = true := by kernel_rfl
theorem f20_tab2 : tabOk t20.sd t20.sx (lb Try.f20 2) = true := by kernel_rfl
theorem f20_loop4 : isLoop1 (subs 4 (bodyOf Try.f20)) = true := by kernel_rfl
theorem f20_tab4 : tabOk t20.sd t20.sx (lb Try.f20 4) = true := by kernel_rfl
def t14 : FT where
  keep := []
  kb := fun
    | 0 => [4, 0, 3]
    | 2 => [7, 6, 0, 5, 3, 4]
    | 4 => [8, 0, 6, 7, 5, 3, 4]
    | _ => []
  sd := fun
    | 13 => [(0, true), (1, true), (2, true), (3, true), (4, true), (5, true), (6, true), (7, true), (8, true), (9, true)]
    | _ => []
theorem f14_at : Try.prog.funcs[14]? = some Try.f14 := by kernel_rfl
theorem f14_body : Try.f14.body.isSome = true := by kernel_rfl
theorem f14_tab : tabOk t14.sd t14.sx (bodyOf Try.f14) = true := by kernel_rfl
theorem f14_loop0 : isLoop1 (subs 0 (bodyOf Try.f14)) = true := by kernel_rfl
theorem f14_tab0 : tabOk t14.sd t14.sx (lb Try.f14 0) = true := by kernel_rfl
theorem f14_loop2 : isLoop1 (subs 2 (bodyOf Try.f14)) = true := by kernel_rfl
theorem f14_tab2 : tabOk t14.sd t14.sx (lb Try.f14 2) = true := by kernel_rfl
theorem f14_loop4 : isLoop1 (subs 4 (bodyOf Try.f14)) = true := by kernel_rfl
theorem f14_tab4 : tabOk t14.sd t14.sx (lb Try.f14 4) = true := by kernel_rfl
def t16 : FT where
  keep := []
  kb := fun
    | _ => []
  sd := fun
    | _ => []
theorem f16_at : Try.prog.funcs[16]? = some Try.f16 := by kernel_rfl
theorem f16_body : Try.f16.body.isSome = true := by kernel_rfl
theorem f16_tab : tabOk t16.sd t16.sx (bodyOf Try.f16) = true := by kernel_rfl
def t21 : FT where
  keep := []
  kb := fun
    | 0 => [4, 1, 3]
    | 3 => [8, 1, 6]
    | _ => []
  sd := fun
    | 16 => [(0, true), (1, true), (3, true), (4, true), (6, true), (2, false), (5, false), (7, false), (8, false), (9, true)]
    | 22 => [(0, true), (1, true), (2, true), (3, true), (4, true), (5, true), (6, true), (8, true), (9, true), (10, true), (11, true), (12, true), (13, true), (7, false), (14, false), (15, false), (16, false), (17, true)]
    | _ => []
  sx := fun
    | 18 => some (.look 0 (.look 1 (.look 2 (.look 4 (.look 5 (.look 9 (.eff (.cons 3 (.eff (.cons 6 (.eff (.cons 7 (.eff (.cons 8 (.eff (.cons 10 (.eff (.cons 11 (.look 12 (.done)) (.nil))) (.nil))) (.nil))) (.nil))) (.nil))) (.cons 6 (.eff (.cons 3 (.eff (.cons 7 (.eff (.cons 8 (.eff (.cons 10 (.eff (.cons 11 (.look 12 (.done)) (.nil))) (.nil))) (.nil))) (.nil))) (.nil))) (.nil))))))))), [1, 6])
    | _ => none
theorem f21_at : Try.prog.funcs[21]? = some Try.f21 := by kernel_rfl
theorem f21_body : Try.f21.body.isSome = true := by kernel_rfl
theorem f21_tab : tabOk t21.sd t21.sx (bodyOf Try.f21) = true := by kernel_rfl
theorem f21_loop0 : isLoop1 (subs 0 (bodyOf Try.f21)) = true := by kernel_rfl
theorem f21_tab0 : tabOk t21.sd t21.sx (lb Try.f21 0) = true := by kernel_rfl
theorem f21_loop3 : isLoop1 (subs 3 (bodyOf Try.f21)) = true := by kernel_rfl
theorem f21_tab3 : tabOk t21.sd t21.sx (lb Try.f21 3) = true := by kernel_rfl
def t30 : FT where
  keep := []
  kb := fun
    | 0 => [4, 0, 3]
    | _ => []
  sd := fun
    | _ => []
theorem f30_at : Try.prog.funcs[30]? = some Try.f30 := by kernel_rfl
theorem f30_body : Try.f30.body.isSome = true := by kernel_rfl
theorem f30_tab : tabOk t30.sd t30.sx (bodyOf Try.f30) = true := by kernel_rfl
theorem f30_loop0 : isLoop1 (subs 0 (bodyOf Try.f30)) = true := by kernel_rfl
theorem f30_tab0 : tabOk t30.sd t30.sx (lb Try.f30 0) = true := by kernel_rfl
def t32 : FT where
  keep := []
  kb := fun
    | 0 => [6, 0, 1, 5]
    | _ => []
  sd := fun
    | _ => []
theorem f32_at : Try.prog.funcs[32]? = some Try.f32 := by kernel_rfl
theorem f32_body : Try.f32.body.isSome = true := by kernel_rfl
theorem f32_tab : tabOk t32.sd t32.sx (bodyOf Try.f32) = true := by kernel_rfl
theorem f32_loop0 : isLoop1 (subs 0 (bodyOf Try.f32)) = true := by kernel_rfl
theorem f32_tab0 : tabOk t32.sd t32.sx (lb Try.f32 0) = true := by kernel_rfl
def t33 : FT where
  keep := []
  kb := fun
    | 0 => [6, 1, 5]
    | _ => []
  sd := fun
    | _ => []
theorem f33_at : Try.prog.funcs[33]? = some Try.f33 := by kernel_rfl
theorem f33_body : Try.f33.body.isSome = true := by kernel_rfl
theorem f33_tab : tabOk t33.sd t33.sx (bodyOf Try.f33) = true := by kernel_rfl
theorem f33_loop0 : isLoop1 (subs 0 (bodyOf Try.f33)) = true := by kernel_rfl
theorem f33_tab0 : tabOk t33.sd t33.sx (lb Try.f33 0) = true := by kernel_rfl
def t34 : FT where
  keep := []
  kb := fun
    | 0 => [4, 1, 3]
    | _ => []
  sd := fun
    | _ => []
theorem f34_at : Try.prog.funcs[34]? = some Try.f34 := by kernel_rfl
theorem f34_body : Try.f34.body.isSome = true := by kernel_rfl
theorem f34_tab : tabOk t34.sd t34.sx (bodyOf Try.f34) = true := by kernel_rfl
theorem f34_loop0 : isLoop1 (subs 0 (bodyOf Try.f34)) = true := by kernel_rfl
theorem f34_tab0 : tabOk t34.sd t34.sx (lb Try.f34 0) = true := by kernel_rfl
def t39 : FT where
  keep := []
  kb := fun
    | 0 => [5, 0, 1]
    | _ => []
  sd := fun
    | _ => []
theorem f39_at : Try.prog.funcs[39]? = some Try.f39 := by kernel_rfl
theorem f39_body : Try.f39.body.isSome = true := by kernel_rfl
theorem f39_tab : tabOk t39.sd t39.sx (bodyOf Try.f39) = true := by kernel_rfl
theorem f39_loop0 : isLoop1 (subs 0 (bodyOf Try.f39)) = true := by kernel_rfl
theorem f39_tab0 : tabOk t39.sd t39.sx (lb Try.f39 0) = true := by kernel_rfl
def t31 : FT where
  keep := []
  kb := fun
    | 0 => [4, 0, 3]
    | _ => []
  sd := fun
    | _ => []
theorem f31_at : Try.prog.funcs[31]? = some Try.f31 := by kernel_rfl
theorem f31_body : Try.f31.body.isSome = true := by kernel_rfl
theorem f31_tab : tabOk t31.sd t31.sx (bodyOf Try.f31) = true := by kernel_rfl
theorem f31_loop0 : isLoop1 (subs 0 (bodyOf Try.f31)) = true := by kernel_rfl
theorem f31_tab0 : tabOk t31.sd t31.sx (lb Try.f31 0) = true := by kernel_rfl
end Go.Proofs.Ytkfdklocgpgbfaa
