/- The trees' functions. Printed by Gen.lean, merge.py. -/
import Derived.Test.YtlfkefbhdmfllaaGreatDoorBc
import Derived.Test.YtlfkefbhdmfllaaGreatDoorProg
import Derived.KernelRfl
namespace Go.Proofs.YtlfkefbhdmfllaaGreatDoor
open Go.RowKit
set_option linter.unusedSimpArgs false
set_option linter.unusedVariables false

theorem mixed : Tryz.prog.follows .mixedOrders = true := by kernel_rfl
def t5 : FT where
  keep := []
  kb := fun
    | _ => []
  sd := fun
    | _ => []
theorem f5_at : Tryz.prog.funcs[5]? = some Tryz.f5 := by kernel_rfl
theorem f5_body : Tryz.f5.body.isSome = true := by kernel_rfl
theorem f5_tab : tabOk t5.sd t5.sx (bodyOf Tryz.f5) = true := by kernel_rfl
def t16 : FT where
  keep := []
  kb := fun
    | 0 => [6, 2, 5, 1]
    | 2 => [7, 2, 5, 1]
    | 4 => [8, 2, 5, 1]
    | _ => []
  sd := fun
    | 9 => [(0, true), (1, true), (2, true), (3, true), (4, true), (5, true), (6, true), (7, true), (8, true), (9, true), (12, true), (13, true), (14, true), (15, true), (16, true), (17, true), (18, true), (19, true), (10, false), (11, true), (20, true), (21, true), (22, true)]
    | 13 => [(0, true), (1, true), (2, true), (3, true), (4, true), (5, true), (6, true), (7, true), (8, true), (9, true), (12, true), (13, true), (14, true), (15, true), (16, true), (17, true), (18, true), (20, true), (21, true), (22, true), (23, true), (24, true), (25, true), (10, false), (11, true), (19, true), (26, false), (27, true), (28, true), (29, true)]
    | _ => []
  sx := fun
    | 1 => some (.look 0 (.look 1 (.look 4 (.look 5 (.eff (.cons 2 (.look 3 (.eff (.cons 6 (.eff (.cons 7 (.look 8 (.look 9 (.done))) (.nil))) (.nil)))) (.cons 6 (.eff (.cons 2 (.look 3 (.eff (.cons 7 (.look 8 (.look 9 (.done))) (.nil)))) (.nil))) (.nil))))))), [2, 5, 1])
    | _ => none
theorem f16_at : Tryz.prog.funcs[16]? = some Tryz.f16 := by kernel_rfl
theorem f16_body : Tryz.f16.body.isSome = true := by kernel_rfl
theorem f16_tab : tabOk t16.sd t16.sx (bodyOf Tryz.f16) = true := by kernel_rfl
theorem f16_loop0 : isLoop1 (subs 0 (bodyOf Tryz.f16)) = true := by kernel_rfl
theorem f16_tab0 : tabOk t16.sd t16.sx (lb Tryz.f16 0) = true := by kernel_rfl
theorem f16_loop2 : isLoop1 (subs 2 (bodyOf Tryz.f16)) = true := by kernel_rfl
theorem f16_tab2 : tabOk t16.sd t16.sx (lb Tryz.f16 2) = true := by kernel_rfl
theorem f16_loop4 : isLoop1 (subs 4 (bodyOf Tryz.f16)) = true := by kernel_rfl
theorem f16_tab4 : tabOk t16.sd t16.sx (lb Tryz.f16 4) = true := by kernel_rfl
def t27 : FT where
  keep := []
  kb := fun
    | 0 => [8, 7, 6, 3]
    | _ => []
  sd := fun
    | _ => []
theorem f27_at : Tryz.prog.funcs[27]? = some Tryz.f27 := by kernel_rfl
theorem f27_body : Tryz.f27.body.isSome = true := by kernel_rfl
theorem f27_tab : tabOk t27.sd t27.sx (bodyOf Tryz.f27) = true := by kernel_rfl
theorem f27_loop0 : isLoop1 (subs 0 (bodyOf Tryz.f27)) = true := by kernel_rfl
theorem f27_tab0 : tabOk t27.sd t27.sx (lb Tryz.f27 0) = true := by kernel_rfl
def t28 : FT where
  keep := []
  kb := fun
    | 0 => [8, 7, 6, 3]
    | _ => []
  sd := fun
    | _ => []
theorem f28_at : Tryz.prog.funcs[28]? = some Tryz.f28 := by kernel_rfl
theorem f28_body : Tryz.f28.body.isSome = true := by kernel_rfl
theorem f28_tab : tabOk t28.sd t28.sx (bodyOf Tryz.f28) = true := by kernel_rfl
theorem f28_loop0 : isLoop1 (subs 0 (bodyOf Tryz.f28)) = true := by kernel_rfl
theorem f28_tab0 : tabOk t28.sd t28.sx (lb Tryz.f28 0) = true := by kernel_rfl
def t67 : FT where
  keep := []
  kb := fun
    | _ => []
  sd := fun
    | _ => []
theorem f67_at : Tryz.prog.funcs[67]? = some Tryz.f67 := by kernel_rfl
theorem f67_body : Tryz.f67.body.isSome = true := by kernel_rfl
theorem f67_tab : tabOk t67.sd t67.sx (bodyOf Tryz.f67) = true := by kernel_rfl
def t123 : FT where
  keep := []
  kb := fun
    | 0 => [6, 2, 5, 1]
    | _ => []
  sd := fun
    | _ => []
theorem f123_at : Tryz.prog.funcs[123]? = some Tryz.f123 := by kernel_rfl
theorem f123_body : Tryz.f123.body.isSome = true := by kernel_rfl
theorem f123_tab : tabOk t123.sd t123.sx (bodyOf Tryz.f123) = true := by kernel_rfl
theorem f123_loop0 : isLoop1 (subs 0 (bodyOf Tryz.f123)) = true := by kernel_rfl
theorem f123_tab0 : tabOk t123.sd t123.sx (lb Tryz.f123 0) = true := by kernel_rfl
def t6 : FT where
  keep := []
  kb := fun
    | 0 => [29, 28, 27, 3, 1, 2]
    | 2 => [44, 43, 42, 3, 2]
    | _ => []
  sd := fun
    | 7 => [(0, true), (1, true), (2, true), (3, false), (4, false), (5, false), (6, true), (7, false)]
    | 12 => [(0, true), (1, true), (2, true), (3, true), (4, true), (5, true), (6, false), (7, true), (8, false), (9, false), (10, true), (11, false)]
    | _ => []
  sx := fun
    | 1 => some (.look 0 (.look 1 (.look 2 (.look 3 (.look 4 (.look 5 (.look 6 (.look 7 (.look 8 (.look 9 (.eff (.cons 10 (.look 11 (.eff (.cons 12 (.eff (.cons 13 (.done) (.nil))) (.nil)))) (.cons 12 (.eff (.cons 10 (.look 11 (.eff (.cons 13 (.done) (.nil)))) (.nil))) (.nil))))))))))))), [1, 3, 2])
    | _ => none
theorem f6_at : Tryz.prog.funcs[6]? = some Tryz.f6 := by kernel_rfl
theorem f6_body : Tryz.f6.body.isSome = true := by kernel_rfl
theorem f6_tab : tabOk t6.sd t6.sx (bodyOf Tryz.f6) = true := by kernel_rfl
theorem f6_loop0 : isLoop1 (subs 0 (bodyOf Tryz.f6)) = true := by kernel_rfl
theorem f6_tab0 : tabOk t6.sd t6.sx (lb Tryz.f6 0) = true := by kernel_rfl
theorem f6_loop2 : isLoop1 (subs 2 (bodyOf Tryz.f6)) = true := by kernel_rfl
theorem f6_tab2 : tabOk t6.sd t6.sx (lb Tryz.f6 2) = true := by kernel_rfl
def t10 : FT where
  keep := []
  kb := fun
    | 0 => [8, 7, 6, 3]
    | _ => []
  sd := fun
    | 5 => [(0, true), (1, true), (2, true), (3, true), (4, true), (6, true), (7, true), (5, false), (8, true), (9, false), (10, false), (11, true)]
    | _ => []
theorem f10_at : Tryz.prog.funcs[10]? = some Tryz.f10 := by kernel_rfl
theorem f10_body : Tryz.f10.body.isSome = true := by kernel_rfl
theorem f10_tab : tabOk t10.sd t10.sx (bodyOf Tryz.f10) = true := by kernel_rfl
theorem f10_loop0 : isLoop1 (subs 0 (bodyOf Tryz.f10)) = true := by kernel_rfl
theorem f10_tab0 : tabOk t10.sd t10.sx (lb Tryz.f10 0) = true := by kernel_rfl
def t7 : FT where
  keep := []
  kb := fun
    | 0 => [4, 1, 3, 2]
    | 2 => [5, 1, 3, 2]
    | _ => []
  sd := fun
    | 7 => [(0, true), (1, true), (2, true), (3, true), (4, true), (5, true), (6, true), (7, false), (8, false), (9, false), (10, true), (11, false)]
    | 11 => [(0, true), (1, true), (2, true), (3, true), (4, true), (5, true), (6, true), (7, true), (8, true), (9, true), (10, true), (11, true), (12, true), (13, true), (14, false), (15, true), (16, false), (17, false), (18, true), (19, false)]
    | _ => []
  sx := fun
    | 1 => some (.look 0 (.look 1 (.look 2 (.look 3 (.look 4 (.look 5 (.look 6 (.look 7 (.look 8 (.look 9 (.eff (.cons 10 (.look 11 (.eff (.cons 12 (.eff (.cons 13 (.done) (.nil))) (.nil)))) (.cons 12 (.eff (.cons 10 (.look 11 (.eff (.cons 13 (.done) (.nil)))) (.nil))) (.nil))))))))))))), [1, 3, 2])
    | _ => none
theorem f7_at : Tryz.prog.funcs[7]? = some Tryz.f7 := by kernel_rfl
theorem f7_body : Tryz.f7.body.isSome = true := by kernel_rfl
theorem f7_tab : tabOk t7.sd t7.sx (bodyOf Tryz.f7) = true := by kernel_rfl
theorem f7_loop0 : isLoop1 (subs 0 (bodyOf Tryz.f7)) = true := by kernel_rfl
theorem f7_tab0 : tabOk t7.sd t7.sx (lb Tryz.f7 0) = true := by kernel_rfl
theorem f7_loop2 : isLoop1 (subs 2 (bodyOf Tryz.f7)) = true := by kernel_rfl
theorem f7_tab2 : tabOk t7.sd t7.sx (lb Tryz.f7 2) = true := by kernel_rfl
def t11 : FT where
  keep := []
  kb := fun
    | 0 => [4, 0, 3]
    | _ => []
  sd := fun
    | 5 => [(0, true), (1, true), (2, true), (3, true), (4, true), (5, true), (6, true), (7, true), (8, true), (9, true), (10, true), (12, true), (13, true), (14, true), (15, true), (16, true), (11, false), (17, true), (18, false), (19, false), (20, true)]
    | _ => []
theorem f11_at : Tryz.prog.funcs[11]? = some Tryz.f11 := by kernel_rfl
theorem f11_body : Tryz.f11.body.isSome = true := by kernel_rfl
theorem f11_tab : tabOk t11.sd t11.sx (bodyOf Tryz.f11) = true := by kernel_rfl
theorem f11_loop0 : isLoop1 (subs 0 (bodyOf Tryz.f11)) = true := by kernel_rfl
theorem f11_tab0 : tabOk t11.sd t11.sx (lb Tryz.f11 0) = true := by kernel_rfl
def t3 : FT where
  keep := []
  kb := fun
    | _ => []
  sd := fun
    | 6 => [(0, true), (1, true), (2, false), (3, true), (4, true), (5, true), (6, true), (7, true), (8, true), (9, true), (10, true), (11, true), (12, true), (14, true), (15, true), (13, false), (16, false), (17, false), (18, true), (19, true)]
    | _ => []
  sx := fun
    | 5 => some (.look 0 (.look 2 (.eff (.cons 1 (.eff (.cons 3 (.eff (.cons 4 (.eff (.cons 5 (.eff (.cons 6 (.eff (.cons 7 (.done) (.nil))) (.nil))) (.nil))) (.cons 5 (.eff (.cons 4 (.eff (.cons 6 (.eff (.cons 7 (.done) (.nil))) (.nil))) (.nil))) (.nil)))) (.cons 4 (.eff (.cons 3 (.eff (.cons 5 (.eff (.cons 6 (.eff (.cons 7 (.done) (.nil))) (.nil))) (.nil))) (.cons 5 (.eff (.cons 3 (.eff (.cons 6 (.eff (.cons 7 (.done) (.nil))) (.nil))) (.nil))) (.nil)))) (.cons 5 (.eff (.cons 3 (.eff (.cons 4 (.eff (.cons 6 (.eff (.cons 7 (.done) (.nil))) (.nil))) (.nil))) (.cons 4 (.eff (.cons 3 (.eff (.cons 6 (.eff (.cons 7 (.done) (.nil))) (.nil))) (.nil))) (.nil)))) (.nil))))) (.cons 4 (.eff (.cons 1 (.eff (.cons 3 (.eff (.cons 5 (.eff (.cons 6 (.eff (.cons 7 (.done) (.nil))) (.nil))) (.nil))) (.cons 5 (.eff (.cons 3 (.eff (.cons 6 (.eff (.cons 7 (.done) (.nil))) (.nil))) (.nil))) (.nil)))) (.cons 5 (.eff (.cons 1 (.eff (.cons 3 (.eff (.cons 6 (.eff (.cons 7 (.done) (.nil))) (.nil))) (.nil))) (.nil))) (.nil)))) (.cons 5 (.eff (.cons 1 (.eff (.cons 3 (.eff (.cons 4 (.eff (.cons 6 (.eff (.cons 7 (.done) (.nil))) (.nil))) (.nil))) (.cons 4 (.eff (.cons 3 (.eff (.cons 6 (.eff (.cons 7 (.done) (.nil))) (.nil))) (.nil))) (.nil)))) (.cons 4 (.eff (.cons 1 (.eff (.cons 3 (.eff (.cons 6 (.eff (.cons 7 (.done) (.nil))) (.nil))) (.nil))) (.nil))) (.nil)))) (.nil)))))), [3, 4, 1])
    | _ => none
theorem f3_at : Tryz.prog.funcs[3]? = some Tryz.f3 := by kernel_rfl
theorem f3_body : Tryz.f3.body.isSome = true := by kernel_rfl
theorem f3_tab : tabOk t3.sd t3.sx (bodyOf Tryz.f3) = true := by kernel_rfl
def t8 : FT where
  keep := []
  kb := fun
    | 0 => [5, 2, 3]
    | 2 => [6, 2, 3]
    | _ => []
  sd := fun
    | 6 => [(0, true), (1, true), (2, true), (3, true), (4, true), (5, true), (6, true), (7, true), (8, true), (9, true), (10, false), (11, true)]
    | 11 => [(0, true), (1, true), (2, true), (3, true), (4, true), (5, true), (6, true), (7, true), (8, true), (9, true), (10, true), (11, true), (12, false), (13, true), (14, true), (15, true), (16, true), (17, true), (18, true), (19, true), (20, true), (21, true), (22, true), (23, true), (24, true), (25, true), (26, true), (27, false), (28, true), (29, true)]
    | _ => []
theorem f8_at : Tryz.prog.funcs[8]? = some Tryz.f8 := by kernel_rfl
theorem f8_body : Tryz.f8.body.isSome = true := by kernel_rfl
theorem f8_tab : tabOk t8.sd t8.sx (bodyOf Tryz.f8) = true := by kernel_rfl
theorem f8_loop0 : isLoop1 (subs 0 (bodyOf Tryz.f8)) = true := by kernel_rfl
theorem f8_tab0 : tabOk t8.sd t8.sx (lb Tryz.f8 0) = true := by kernel_rfl
theorem f8_loop2 : isLoop1 (subs 2 (bodyOf Tryz.f8)) = true := by kernel_rfl
theorem f8_tab2 : tabOk t8.sd t8.sx (lb Tryz.f8 2) = true := by kernel_rfl
def t9 : FT where
  keep := []
  kb := fun
    | 0 => [5, 0, 1]
    | _ => []
  sd := fun
    | 6 => [(0, true), (1, true), (2, true), (3, true), (4, true), (5, true), (6, true), (7, true), (8, true), (9, true), (10, true), (11, true), (12, true), (13, true), (14, true), (15, true), (16, true), (17, true), (18, true), (19, true), (20, true), (21, true), (22, false), (23, true), (24, true)]
    | _ => []
theorem f9_at : Tryz.prog.funcs[9]? = some Tryz.f9 := by kernel_rfl
theorem f9_body : Tryz.f9.body.isSome = true := by kernel_rfl
theorem f9_tab : tabOk t9.sd t9.sx (bodyOf Tryz.f9) = true := by kernel_rfl
theorem f9_loop0 : isLoop1 (subs 0 (bodyOf Tryz.f9)) = true := by kernel_rfl
theorem f9_tab0 : tabOk t9.sd t9.sx (lb Tryz.f9 0) = true := by kernel_rfl
def t17 : FT where
  keep := []
  kb := fun
    | _ => []
  sd := fun
    | _ => []
theorem f17_at : Tryz.prog.funcs[17]? = some Tryz.f17 := by kernel_rfl
theorem f17_body : Tryz.f17.body.isSome = true := by kernel_rfl
theorem f17_tab : tabOk t17.sd t17.sx (bodyOf Tryz.f17) = true := by kernel_rfl
def t18 : FT where
  keep := []
  kb := fun
    | 0 => [5, 2, 3]
    | _ => []
  sd := fun
    | 6 => [(0, true), (1, true), (2, true), (3, true), (4, true), (5, true), (6, true), (7, true), (8, true), (9, true), (10, false), (11, true)]
    | _ => []
theorem f18_at : Tryz.prog.funcs[18]? = some Tryz.f18 := by kernel_rfl
theorem f18_body : Tryz.f18.body.isSome = true := by kernel_rfl
theorem f18_tab : tabOk t18.sd t18.sx (bodyOf Tryz.f18) = true := by kernel_rfl
theorem f18_loop0 : isLoop1 (subs 0 (bodyOf Tryz.f18)) = true := by kernel_rfl
theorem f18_tab0 : tabOk t18.sd t18.sx (lb Tryz.f18 0) = true := by kernel_rfl
def t29 : FT where
  keep := []
  kb := fun
    | 0 => [5, 0, 1]
    | _ => []
  sd := fun
    | 6 => [(0, true), (1, true), (2, true), (3, true), (4, true), (5, true), (6, true), (7, true), (8, false), (9, true)]
    | _ => []
theorem f29_at : Tryz.prog.funcs[29]? = some Tryz.f29 := by kernel_rfl
theorem f29_body : Tryz.f29.body.isSome = true := by kernel_rfl
theorem f29_tab : tabOk t29.sd t29.sx (bodyOf Tryz.f29) = true := by kernel_rfl
theorem f29_loop0 : isLoop1 (subs 0 (bodyOf Tryz.f29)) = true := by kernel_rfl
theorem f29_tab0 : tabOk t29.sd t29.sx (lb Tryz.f29 0) = true := by kernel_rfl
end Go.Proofs.YtlfkefbhdmfllaaGreatDoor
