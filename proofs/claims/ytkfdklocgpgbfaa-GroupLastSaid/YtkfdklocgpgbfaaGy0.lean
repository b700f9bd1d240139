/- The trees' functions. Printed by Gen.lean, merge.py. -/
import Derived.Test.YtkfdklocgpgbfaaBc
import Derived.Test.YtkfdklocgpgbfaaProg
import Derived.KernelRfl
set_option linter.unusedVariables false
set_option linter.unusedSimpArgs false
set_option linter.unusedSectionVars false
namespace Go.Proofs.Ytkfdklocgpgbfaa
open Go.RowKit

theorem mixed : Try.prog.follows .mixedOrders = true := by kernel_rfl
def t9 : FT where
  keep := []
  kb := fun
    | 0 => [15, 14, 13, 4, 0]
    | 2 => [21, 20, 19, 4, 15, 14, 13, 0]
    | 4 => [48, 47, 9]
    | _ => []
  sd := fun
    | _ => []
  sx := fun
    | 12 => some (.look 0 (.look 1 (.look 3 (.look 5 (.eff (.cons 2 (.eff (.cons 4 (.eff (.cons 6 (.look 7 (.eff (.cons 8 (.look 9 (.done)) (.nil)))) (.nil))) (.cons 6 (.eff (.cons 4 (.look 7 (.eff (.cons 8 (.look 9 (.done)) (.nil)))) (.nil))) (.nil)))) (.cons 4 (.eff (.cons 2 (.eff (.cons 6 (.look 7 (.eff (.cons 8 (.look 9 (.done)) (.nil)))) (.nil))) (.cons 6 (.eff (.cons 2 (.look 7 (.eff (.cons 8 (.look 9 (.done)) (.nil)))) (.nil))) (.nil)))) (.cons 6 (.eff (.cons 2 (.eff (.cons 4 (.look 7 (.eff (.cons 8 (.look 9 (.done)) (.nil)))) (.nil))) (.cons 4 (.eff (.cons 2 (.look 7 (.eff (.cons 8 (.look 9 (.done)) (.nil)))) (.nil))) (.nil)))) (.nil)))))))), [9])
    | _ => none
theorem f9_at : Try.prog.funcs[9]? = some Try.f9 := by kernel_rfl
theorem f9_body : Try.f9.body.isSome = true := by kernel_rfl
theorem f9_tab : tabOk t9.sd t9.sx (bodyOf Try.f9) = true := by kernel_rfl
theorem f9_loop0 : isLoop1 (subs 0 (bodyOf Try.f9)) = true := by kernel_rfl
theorem f9_tab0 : tabOk t9.sd t9.sx (lb Try.f9 0) = true := by kernel_rfl
theorem f9_loop2 : isLoop1 (subs 2 (bodyOf Try.f9)) = true := by kernel_rfl
theorem f9_tab2 : tabOk t9.sd t9.sx (lb Try.f9 2) = true := by kernel_rfl
theorem f9_loop4 : isLoop1 (subs 4 (bodyOf Try.f9)) = true := by kernel_rfl
theorem f9_tab4 : tabOk t9.sd t9.sx (lb Try.f9 4) = true := by kernel_rfl
def t17 : FT where
  keep := []
  kb := fun
    | 0 => [11, 10, 1, 3]
    | _ => []
  sd := fun
    | _ => []
theorem f17_at : Try.prog.funcs[17]? = some Try.f17 := by kernel_rfl
theorem f17_body : Try.f17.body.isSome = true := by kernel_rfl
theorem f17_tab : tabOk t17.sd t17.sx (bodyOf Try.f17) = true := by kernel_rfl
theorem f17_loop0 : isLoop1 (subs 0 (bodyOf Try.f17)) = true := by kernel_rfl
theorem f17_tab0 : tabOk t17.sd t17.sx (lb Try.f17 0) = true := by kernel_rfl
def t18 : FT where
  keep := []
  kb := fun
    | 0 => [4, 0, 3]
    | 2 => [26, 25, 0, 3, 4]
    | _ => []
  sd := fun
    | _ => []
theorem f18_at : Try.prog.funcs[18]? = some Try.f18 := by kernel_rfl
theorem f18_body : Try.f18.body.isSome = true := by kernel_rfl
theorem f18_tab : tabOk t18.sd t18.sx (bodyOf Try.f18) = true := by kernel_rfl
theorem f18_loop0 : isLoop1 (subs 0 (bodyOf Try.f18)) = true := by kernel_rfl
theorem f18_tab0 : tabOk t18.sd t18.sx (lb Try.f18 0) = true := by kernel_rfl
theorem f18_loop2 : isLoop1 (subs 2 (bodyOf Try.f18)) = true := by kernel_rfl
theorem f18_tab2 : tabOk t18.sd t18.sx (lb Try.f18 2) = true := by kernel_rfl
def t25 : FT where
  keep := []
  kb := fun
    | 0 => [45, 44, 43, 2, 3, 0]
    | 3 => [153, 152, 151, 2, 8]
    | _ => []
  sd := fun
    | 1 => [(0, true), (1, true), (2, true), (3, true), (4, true), (5, true), (6, true), (7, true), (8, true), (9, true), (10, true), (11, true), (12, true), (13, false), (14, true), (15, false)]
    | 2 => [(0, true), (1, true), (2, true), (3, true), (4, true), (5, true), (6, false), (7, false), (8, true), (9, true), (10, false)]
    | 8 => [(0, true), (1, true), (2, true), (3, true), (4, true), (5, true), (6, true), (7, true), (8, true), (9, true), (10, true), (11, true), (12, true), (13, true), (14, true), (15, true), (16, true), (17, true), (18, true), (19, true), (20, true), (21, false)]
    | 10 => [(0, true), (1, true), (2, true), (3, true), (4, true), (5, true), (6, true), (7, true), (8, true), (9, true), (10, true), (11, true), (12, true), (13, true), (14, true), (15, true), (16, true), (17, true), (18, true), (19, true), (20, true), (21, false)]
    | 12 => [(0, true), (1, true), (2, true), (3, true), (4, true), (5, true), (6, true), (7, true), (8, true), (9, true), (10, true), (11, true), (12, true), (13, true), (14, true)]
    | 15 => [(0, true), (1, true), (2, true), (3, true), (4, true), (5, true), (6, true), (7, true), (8, true), (9, false)]
    | 19 => [(0, true), (1, true), (2, true), (3, true), (4, true), (5, true), (6, true), (7, true), (8, true), (9, true), (10, true), (11, false)]
    | 21 => [(0, true), (1, true), (2, true), (3, true), (4, true), (5, true), (6, false), (7, false), (8, true), (9, true), (10, false)]
    | _ => []
theorem f25_at : Try.prog.funcs[25]? = some Try.f25 := by kernel_rfl
theorem f25_body : Try.f25.body.isSome = true := by kernel_rfl
theorem f25_tab : tabOk t25.sd t25.sx (bodyOf Try.f25) = true := by kernel_rfl
theorem f25_loop0 : isLoop1 (subs 0 (bodyOf Try.f25)) = true := by kernel_rfl
theorem f25_tab0 : tabOk t25.sd t25.sx (lb Try.f25 0) = true := by kernel_rfl
theorem f25_loop3 : isLoop1 (subs 3 (bodyOf Try.f25)) = true := by kernel_rfl
theorem f25_tab3 : tabOk t25.sd t25.sx (lb Try.f25 3) = true := by kernel_rfl
def t29 : FT where
  keep := []
  kb := fun
    | 0 => [13, 12, 11, 0, 2]
    | 2 => [25, 24, 23, 0, 8, 2, 13, 12, 11]
    | _ => []
  sd := fun
    | 7 => [(0, true), (1, true), (2, true), (3, true), (4, true), (5, true), (6, true), (7, true), (8, true), (9, true), (10, true), (11, true), (12, true), (13, true), (14, true), (15, true), (16, true), (17, true), (18, true), (19, true), (20, true), (21, true), (22, true), (23, true), (24, true), (25, true), (26, true), (27, true)]
    | _ => []
theorem f29_at : Try.prog.funcs[29]? = some Try.f29 := by kernel_rfl
theorem f29_body : Try.f29.body.isSome = true := by kernel_rfl
theorem f29_tab : tabOk t29.sd t29.sx (bodyOf Try.f29) = true := by kernel_rfl
theorem f29_loop0 : isLoop1 (subs 0 (bodyOf Try.f29)) = true := by kernel_rfl
theorem f29_tab0 : tabOk t29.sd t29.sx (lb Try.f29 0) = true := by kernel_rfl
theorem f29_loop2 : isLoop1 (subs 2 (bodyOf Try.f29)) = true := by kernel_rfl
theorem f29_tab2 : tabOk t29.sd t29.sx (lb Try.f29 2) = true := by kernel_rfl
def t26 : FT where
  keep := []
  kb := fun
    | 0 => [8, 7, 1, 0]
    | _ => []
  sd := fun
    | _ => []
theorem f26_at : Try.prog.funcs[26]? = some Try.f26 := by kernel_rfl
theorem f26_body : Try.f26.body.isSome = true := by kernel_rfl
theorem f26_tab : tabOk t26.sd t26.sx (bodyOf Try.f26) = true := by kernel_rfl
theorem f26_loop0 : isLoop1 (subs 0 (bodyOf Try.f26)) = true := by kernel_rfl
theorem f26_tab0 : tabOk t26.sd t26.sx (lb Try.f26 0) = true := by kernel_rfl
def t28 : FT where
  keep := []
  kb := fun
    | _ => []
  sd := fun
    | _ => []
theorem f28_at : Try.prog.funcs[28]? = some Try.f28 := by kernel_rfl
theorem f28_body : Try.f28.body.isSome = true := by kernel_rfl
theorem f28_tab : tabOk t28.sd t28.sx (bodyOf Try.f28) = true := by kernel_rfl
def t8 : FT where
  keep := []
  kb := fun
    | 0 => [7, 6, 5, 0]
    | _ => []
  sd := fun
    | _ => []
theorem f8_at : Try.prog.funcs[8]? = some Try.f8 := by kernel_rfl
theorem f8_body : Try.f8.body.isSome = true := by kernel_rfl
theorem f8_tab : tabOk t8.sd t8.sx (bodyOf Try.f8) = true := by kernel_rfl
theorem f8_loop0 : isLoop1 (subs 0 (bodyOf Try.f8)) = true := by kernel_rfl
theorem f8_tab0 : tabOk t8.sd t8.sx (lb Try.f8 0) = true := by kernel_rfl
def t10 : FT where
  keep := []
  kb := fun
    | 0 => [4, 0]
    | 2 => [5, 0, 4]
    | 4 => [9, 0, 7, 6, 8]
    | 6 => [11, 0, 10, 7, 6, 8, 9]
    | 8 => [13, 0, 12, 6, 11, 7, 8, 9, 10]
    | 10 => [15, 0, 6, 10, 14, 7, 8, 9]
    | _ => []
  sd := fun
    | _ => []
theorem f10_at : Try.prog.funcs[10]? = some Try.f10 := by kernel_rfl
theorem f10_body : Try.f10.body.isSome = true := by kernel_rfl
theorem f10_tab : tabOk t10.sd t10.sx (bodyOf Try.f10) = true := by kernel_rfl
theorem f10_loop0 : isLoop1 (subs 0 (bodyOf Try.f10)) = true := by kernel_rfl
theorem f10_tab0 : tabOk t10.sd t10.sx (lb Try.f10 0) = true := by kernel_rfl
theorem f10_loop2 : isLoop1 (subs 2 (bodyOf Try.f10)) = true := by kernel_rfl
theorem f10_tab2 : tabOk t10.sd t10.sx (lb Try.f10 2) = true := by kernel_rfl
theorem f10_loop4 : isLoop1 (subs 4 (bodyOf Try.f10)) = true := by kernel_rfl
theorem f10_tab4 : tabOk t10.sd t10.sx (lb Try.f10 4) = true := by kernel_rfl
theorem f10_loop6 : isLoop1 (subs 6 (bodyOf Try.f10)) = true := by kernel_rfl
theorem f10_tab6 : tabOk t10.sd t10.sx (lb Try.f10 6) = true := by kernel_rfl
theorem f10_loop8 : isLoop1 (subs 8 (bodyOf Try.f10)) = true := by kernel_rfl
theorem f10_tab8 : tabOk t10.sd t10.sx (lb Try.f10 8) = true := by kernel_rfl
theorem f10_loop10 : isLoop1 (subs 10 (bodyOf Try.f10)) = true := by kernel_rfl
theorem f10_tab10 : tabOk t10.sd t10.sx (lb Try.f10 10) = true := by kernel_rfl
def t11 : FT where
  keep := []
  kb := fun
    | 0 => [5, 0, 1]
    | 2 => [6, 0, 5, 1]
    | _ => []
  sd := fun
    | 6 => [(0, true), (1, true), (2, true), (3, true), (4, true), (5, true), (6, true), (7, true), (8, true), (9, true), (10, true)]
    | 11 => [(0, true), (1, true), (2, true), (3, true), (4, true), (5, true), (6, true), (7, true), (8, true), (9, true), (10, true), (11, true), (12, true), (13, true), (14, true)]
    | _ => []
theorem f11_at : Try.prog.funcs[11]? = some Try.f11 := by kernel_rfl
theorem f11_body : Try.f11.body.isSome = true := by kernel_rfl
theorem f11_tab : tabOk t11.sd t11.sx (bodyOf Try.f11) = true := by kernel_rfl
theorem f11_loop0 : isLoop1 (subs 0 (bodyOf Try.f11)) = true := by kernel_rfl
theorem f11_tab0 : tabOk t11.sd t11.sx (lb Try.f11 0) = true := by kernel_rfl
theorem f11_loop2 : isLoop1 (subs 2 (bodyOf Try.f11)) = true := by kernel_rfl
theorem f11_tab2 : tabOk t11.sd t11.sx (lb Try.f11 2) = true := by kernel_rfl
def t19 : FT where
  keep := []
  kb := fun
    | _ => []
  sd := fun
    | _ => []
theorem f19_at : Try.prog.funcs[19]? = some Try.f19 := by kernel_rfl
theorem f19_body : Try.f19.body.isSome = true := by kernel_rfl
theorem f19_tab : tabOk t19.sd t19.sx (bodyOf Try.f19) = true := by kernel_rfl
def t4 : FT where
  keep := []
  kb := fun
    | 0 => [36, 35, 5, 3, 0]
    | 2 => [45, 44, 43, 5, 0]
    | 4 => [52, 51, 50, 5, 7, 45, 44, 43, 0]
    | 6 => [81, 80, 5, 0, 11]
    | 8 => [94, 93, 92, 5, 12, 11, 81, 80, 0]
    | 10 => [110, 109, 5, 12, 11, 81, 80, 0]
    | _ => []
  sd := fun
    | 34 => [(0, true), (1, true), (2, true), (3, true), (4, true), (5, true), (6, true), (7, true), (8, true)]
    | 40 => [(0, true), (1, true), (2, true), (3, true), (4, true), (5, true), (6, true), (7, true), (8, true), (9, true), (10, true), (11, true), (12, true), (13, true), (14, true), (15, true), (16, true), (17, true), (18, true), (19, true), (20, true), (21, true), (22, true), (23, true)]
    | _ => []
theorem f4_at : Try.prog.funcs[4]? = some Try.f4 := by kernel_rfl
theorem f4_body : Try.f4.body.isSome = true := by kernel_rfl
theorem f4_tab : tabOk t4.sd t4.sx (bodyOf Try.f4) = true := by kernel_rfl
theorem f4_loop0 : isLoop1 (subs 0 (bodyOf Try.f4)) = true := by kernel_rfl
theorem f4_tab0 : tabOk t4.sd t4.sx (lb Try.f4 0) = true := by kernel_rfl
theorem f4_loop2 : isLoop1 (subs 2 (bodyOf Try.f4)) = true := by kernel_rfl
theorem f4_tab2 : tabOk t4.sd t4.sx (lb Try.f4 2) = true := by kernel_rfl
theorem f4_loop4 : isLoop1 (subs 4 (bodyOf Try.f4)) = true := by kernel_rfl
theorem f4_tab4 : tabOk t4.sd t4.sx (lb Try.f4 4) = true := by kernel_rfl
theorem f4_loop6 : isLoop1 (subs 6 (bodyOf Try.f4)) = true := by kernel_rfl
theorem f4_tab6 : tabOk t4.sd t4.sx (lb Try.f4 6) = true := by kernel_rfl
theorem f4_loop8 : isLoop1 (subs 8 (bodyOf Try.f4)) = true := by kernel_rfl
theorem f4_tab8 : tabOk t4.sd t4.sx (lb Try.f4 8) = true := by kernel_rfl
theorem f4_loop10 : isLoop1 (subs 10 (bodyOf Try.f4)) = true := by kernel_rfl
theorem f4_tab10 : tabOk t4.sd t4.sx (lb Try.f4 10) = true := by kernel_rfl
def t3 : FT where
  keep := []
  kb := fun
    | _ => []
  sd := fun
    | _ => []
theorem f3_at : Try.prog.funcs[3]? = some Try.f3 := by kernel_rfl
theorem f3_body : Try.f3.body.isSome = true := by kernel_rfl
theorem f3_tab : tabOk t3.sd t3.sx (bodyOf Try.f3) = true := by kernel_rfl
def t5 : FT where
  keep := []
  kb := fun
    | 0 => [27, 26, 25, 5, 0, 1]
    | _ => []
  sd := fun
    | _ => []
theorem f5_at : Try.prog.funcs[5]? = some Try.f5 := by kernel_rfl
theorem f5_body : Try.f5.body.isSome = true := by kernel_rfl
theorem f5_tab : tabOk t5.sd t5.sx (bodyOf Try.f5) = true := by kernel_rfl
theorem f5_loop0 : isLoop1 (subs 0 (bodyOf Try.f5)) = true := by kernel_rfl
theorem f5_tab0 : tabOk t5.sd t5.sx (lb Try.f5 0) = true := by kernel_rfl
end Go.Proofs.Ytkfdklocgpgbfaa
