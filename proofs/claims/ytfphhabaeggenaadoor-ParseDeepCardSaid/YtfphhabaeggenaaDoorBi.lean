/- Joined texts. -/
import Derived.Test.YtfphhabaeggenaaDoorBc
import Derived.Test.YtfphhabaeggenaaDoorProg
import Derived.KernelRfl
set_option linter.all false
namespace Go.Proofs.YtfphhabaeggenaaDoor
open Go.RowKit

theorem mixed : Tryd.prog.follows .mixedOrders = true := by kernel_rfl
def t27 : FT where
  keep := []
  kb := fun
    | 0 => [17, 16, 15, 6, 0, 5]
    | 2 => [6, 0, 9, 10, 7, 17, 16, 15, 5]
    | 5 => [14, 5, 6]
    | _ => []
  sd := fun
    | _ => []
theorem f27_at : Tryd.prog.funcs[27]? = some Tryd.f27 := by kernel_rfl
theorem f27_body : Tryd.f27.body.isSome = true := by kernel_rfl
theorem f27_tab : tabOk t27.sd t27.sx (bodyOf Tryd.f27) = true := by kernel_rfl
theorem f27_loop0 : isLoop1 (subs 0 (bodyOf Tryd.f27)) = true := by kernel_rfl
theorem f27_tab0 : tabOk t27.sd t27.sx (lb Tryd.f27 0) = true := by kernel_rfl
theorem f27_loop2 : isLoop1 (subs 2 (bodyOf Tryd.f27)) = true := by kernel_rfl
theorem f27_tab2 : tabOk t27.sd t27.sx (lb Tryd.f27 2) = true := by kernel_rfl
theorem f27_loop5 : isLoop1 (subs 5 (bodyOf Tryd.f27)) = true := by kernel_rfl
theorem f27_tab5 : tabOk t27.sd t27.sx (lb Tryd.f27 5) = true := by kernel_rfl
def t49 : FT where
  keep := []
  kb := fun
    | _ => []
  sd := fun
    | _ => []
theorem f49_at : Tryd.prog.funcs[49]? = some Tryd.f49 := by kernel_rfl
theorem f49_body : Tryd.f49.body.isSome = true := by kernel_rfl
theorem f49_tab : tabOk t49.sd t49.sx (bodyOf Tryd.f49) = true := by kernel_rfl
def t29 : FT where
  keep := []
  kb := fun
    | _ => []
  sd := fun
    | _ => []
theorem f29_at : Tryd.prog.funcs[29]? = some Tryd.f29 := by kernel_rfl
theorem f29_body : Tryd.f29.body.isSome = true := by kernel_rfl
theorem f29_tab : tabOk t29.sd t29.sx (bodyOf Tryd.f29) = true := by kernel_rfl
def t7 : FT where
  keep := []
  kb := fun
    | _ => []
  sd := fun
    | _ => []
theorem f7_at : Tryd.prog.funcs[7]? = some Tryd.f7 := by kernel_rfl
theorem f7_body : Tryd.f7.body.isSome = true := by kernel_rfl
theorem f7_tab : tabOk t7.sd t7.sx (bodyOf Tryd.f7) = true := by kernel_rfl
def t6 : FT where
  keep := []
  kb := fun
    | _ => []
  sd := fun
    | _ => []
theorem f6_at : Tryd.prog.funcs[6]? = some Tryd.f6 := by kernel_rfl
theorem f6_body : Tryd.f6.body.isSome = true := by kernel_rfl
theorem f6_tab : tabOk t6.sd t6.sx (bodyOf Tryd.f6) = true := by kernel_rfl
def t12 : FT where
  keep := []
  kb := fun
    | _ => []
  sd := fun
    | 3 => [(0, true), (1, true), (2, false), (3, false)]
    | _ => []
  rs := [4, 5]
  df := true
theorem f12_at : Tryd.prog.funcs[12]? = some Tryd.f12 := by kernel_rfl
theorem f12_body : Tryd.f12.body.isSome = true := by kernel_rfl
theorem f12_tab : tabOk t12.sd t12.sx (bodyOf Tryd.f12) = true := by kernel_rfl
def t10 : FT where
  keep := []
  kb := fun
    | _ => []
  sd := fun
    | 3 => [(0, true), (1, true), (2, false), (3, false)]
    | _ => []
  rs := [4, 5]
  df := true
theorem f10_at : Tryd.prog.funcs[10]? = some Tryd.f10 := by kernel_rfl
theorem f10_body : Tryd.f10.body.isSome = true := by kernel_rfl
theorem f10_tab : tabOk t10.sd t10.sx (bodyOf Tryd.f10) = true := by kernel_rfl
def t13 : FT where
  keep := []
  kb := fun
    | 0 => [0, 3, 2]
    | _ => []
  sd := fun
    | 6 => [(0, true), (1, true), (2, true), (3, false), (4, false), (5, false), (6, true), (7, false)]
    | 8 => [(0, true), (1, true), (2, true), (3, false), (4, false), (5, false), (6, true), (7, false)]
    | 10 => [(0, true), (1, true), (2, true), (3, false), (4, false), (5, false), (6, true), (7, false)]
    | 4 => [(0, true), (1, true), (2, true), (3, false), (4, false), (5, false), (6, true), (7, false)]
    | _ => []
theorem f13_at : Tryd.prog.funcs[13]? = some Tryd.f13 := by kernel_rfl
theorem f13_body : Tryd.f13.body.isSome = true := by kernel_rfl
theorem f13_tab : tabOk t13.sd t13.sx (bodyOf Tryd.f13) = true := by kernel_rfl
theorem f13_loop0 : isLoop1 (subs 0 (bodyOf Tryd.f13)) = true := by kernel_rfl
theorem f13_tab0 : tabOk t13.sd t13.sx (lb Tryd.f13 0) = true := by kernel_rfl
def t22 : FT where
  keep := []
  kb := fun
    | _ => []
  sd := fun
    | _ => []
theorem f22_at : Tryd.prog.funcs[22]? = some Tryd.f22 := by kernel_rfl
theorem f22_body : Tryd.f22.body.isSome = true := by kernel_rfl
theorem f22_tab : tabOk t22.sd t22.sx (bodyOf Tryd.f22) = true := by kernel_rfl
def t11 : FT where
  keep := []
  kb := fun
    | 0 => [0, 4, 5, 3, 2]
    | 2 => [67, 66, 9, 6, 3, 4, 2]
    | 4 => [77, 76, 75, 9, 3, 4, 2]
    | 6 => [9, 13, 3, 4, 12, 14, 77, 76, 75, 2]
    | _ => []
  sd := fun
    | 24 => [(0, true), (1, true), (2, true), (3, true), (4, true), (5, true), (6, true), (7, true), (8, true), (9, true), (10, true), (11, true), (12, true), (13, true), (14, false), (15, true), (16, false)]
    | _ => []
  rs := [2]
  df := true
theorem f11_at : Tryd.prog.funcs[11]? = some Tryd.f11 := by kernel_rfl
theorem f11_body : Tryd.f11.body.isSome = true := by kernel_rfl
theorem f11_tab : tabOk t11.sd t11.sx (bodyOf Tryd.f11) = true := by kernel_rfl
theorem f11_loop0 : isLoop1 (subs 0 (bodyOf Tryd.f11)) = true := by kernel_rfl
theorem f11_tab0 : tabOk t11.sd t11.sx (lb Tryd.f11 0) = true := by kernel_rfl
theorem f11_loop2 : isLoop1 (subs 2 (bodyOf Tryd.f11)) = true := by kernel_rfl
theorem f11_tab2 : tabOk t11.sd t11.sx (lb Tryd.f11 2) = true := by kernel_rfl
theorem f11_loop4 : isLoop1 (subs 4 (bodyOf Tryd.f11)) = true := by kernel_rfl
theorem f11_tab4 : tabOk t11.sd t11.sx (lb Tryd.f11 4) = true := by kernel_rfl
theorem f11_loop6 : isLoop1 (subs 6 (bodyOf Tryd.f11)) = true := by kernel_rfl
theorem f11_tab6 : tabOk t11.sd t11.sx (lb Tryd.f11 6) = true := by kernel_rfl
def t25 : FT where
  keep := []
  kb := fun
    | _ => []
  sd := fun
    | 1 => [(0, true), (1, true), (2, true), (3, true), (4, true), (5, true), (6, true), (7, true), (8, true), (9, true), (10, false)]
    | _ => []
theorem f25_at : Tryd.prog.funcs[25]? = some Tryd.f25 := by kernel_rfl
theorem f25_body : Tryd.f25.body.isSome = true := by kernel_rfl
theorem f25_tab : tabOk t25.sd t25.sx (bodyOf Tryd.f25) = true := by kernel_rfl
def t31 : FT where
  keep := []
  kb := fun
    | _ => []
  sd := fun
    | _ => []
theorem f31_at : Tryd.prog.funcs[31]? = some Tryd.f31 := by kernel_rfl
theorem f31_body : Tryd.f31.body.isSome = true := by kernel_rfl
theorem f31_tab : tabOk t31.sd t31.sx (bodyOf Tryd.f31) = true := by kernel_rfl
def t32 : FT where
  keep := []
  kb := fun
    | 0 => [0, 4, 2]
    | 2 => [0, 4, 2]
    | 4 => [0, 6, 4, 2]
    | _ => []
  sd := fun
    | 4 => [(0, true), (1, true), (2, true), (3, false), (4, true), (5, false), (6, false), (7, true), (8, false)]
    | 9 => [(0, true), (1, true), (2, true), (3, false), (4, false), (5, false), (6, true), (7, false)]
    | _ => []
theorem f32_at : Tryd.prog.funcs[32]? = some Tryd.f32 := by kernel_rfl
theorem f32_body : Tryd.f32.body.isSome = true := by kernel_rfl
theorem f32_tab : tabOk t32.sd t32.sx (bodyOf Tryd.f32) = true := by kernel_rfl
theorem f32_loop0 : isLoop1 (subs 0 (bodyOf Tryd.f32)) = true := by kernel_rfl
theorem f32_tab0 : tabOk t32.sd t32.sx (lb Tryd.f32 0) = true := by kernel_rfl
theorem f32_loop2 : isLoop1 (subs 2 (bodyOf Tryd.f32)) = true := by kernel_rfl
theorem f32_tab2 : tabOk t32.sd t32.sx (lb Tryd.f32 2) = true := by kernel_rfl
theorem f32_loop4 : isLoop1 (subs 4 (bodyOf Tryd.f32)) = true := by kernel_rfl
theorem f32_tab4 : tabOk t32.sd t32.sx (lb Tryd.f32 4) = true := by kernel_rfl
def t35 : FT where
  keep := []
  kb := fun
    | _ => []
  sd := fun
    | _ => []
theorem f35_at : Tryd.prog.funcs[35]? = some Tryd.f35 := by kernel_rfl
theorem f35_body : Tryd.f35.body.isSome = true := by kernel_rfl
theorem f35_tab : tabOk t35.sd t35.sx (bodyOf Tryd.f35) = true := by kernel_rfl
def t33 : FT where
  keep := []
  kb := fun
    | 0 => [0, 4, 2]
    | _ => []
  sd := fun
    | 8 => [(0, true), (1, true), (2, true), (3, false), (4, false), (5, false), (6, true), (7, false)]
    | 11 => [(0, true), (1, true), (2, true), (3, true), (4, true), (6, true), (7, true), (5, false), (8, true), (9, false), (10, false), (11, true), (12, false)]
    | _ => []
  sx := fun
    | 2 => some (.look 0 (.look 1 (.look 2 (.look 5 (.look 6 (.eff (.cons 3 (.look 4 (.look 7 (.eff (.cons 8 (.eff (.cons 9 (.done) (.nil))) (.nil))))) (.cons 8 (.eff (.cons 3 (.look 4 (.look 7 (.eff (.cons 9 (.done) (.nil))))) (.nil))) (.nil)))))))), [0, 4, 2])
    | _ => none
theorem f33_at : Tryd.prog.funcs[33]? = some Tryd.f33 := by kernel_rfl
theorem f33_body : Tryd.f33.body.isSome = true := by kernel_rfl
theorem f33_tab : tabOk t33.sd t33.sx (bodyOf Tryd.f33) = true := by kernel_rfl
theorem f33_loop0 : isLoop1 (subs 0 (bodyOf Tryd.f33)) = true := by kernel_rfl
theorem f33_tab0 : tabOk t33.sd t33.sx (lb Tryd.f33 0) = true := by kernel_rfl
def t34 : FT where
  keep := []
  kb := fun
    | 0 => [0, 4, 2]
    | 2 => [0, 4, 2]
    | _ => []
  sd := fun
    | 5 => [(0, true), (1, true), (2, true), (3, true), (4, false), (5, true), (6, true), (7, true), (8, false), (9, false), (10, true), (11, false)]
    | 10 => [(0, true), (1, true), (2, true), (3, false), (4, false), (5, false), (6, true), (7, false)]
    | _ => []
  sx := fun
    | 2 => some (.look 0 (.look 1 (.look 2 (.look 4 (.look 5 (.eff (.cons 3 (.look 6 (.eff (.cons 7 (.eff (.cons 8 (.done) (.nil))) (.nil)))) (.cons 7 (.eff (.cons 3 (.look 6 (.eff (.cons 8 (.done) (.nil)))) (.nil))) (.nil)))))))), [0, 4, 2])
    | _ => none
theorem f34_at : Tryd.prog.funcs[34]? = some Tryd.f34 := by kernel_rfl
theorem f34_body : Tryd.f34.body.isSome = true := by kernel_rfl
theorem f34_tab : tabOk t34.sd t34.sx (bodyOf Tryd.f34) = true := by kernel_rfl
theorem f34_loop0 : isLoop1 (subs 0 (bodyOf Tryd.f34)) = true := by kernel_rfl
theorem f34_tab0 : tabOk t34.sd t34.sx (lb Tryd.f34 0) = true := by kernel_rfl
theorem f34_loop2 : isLoop1 (subs 2 (bodyOf Tryd.f34)) = true := by kernel_rfl
theorem f34_tab2 : tabOk t34.sd t34.sx (lb Tryd.f34 2) = true := by kernel_rfl
def t36 : FT where
  keep := []
  kb := fun
    | _ => []
  sd := fun
    | 3 => [(0, true), (1, true), (2, true), (4, true), (5, true), (3, false), (6, true), (7, false)]
    | _ => []
theorem f36_at : Tryd.prog.funcs[36]? = some Tryd.f36 := by kernel_rfl
theorem f36_body : Tryd.f36.body.isSome = true := by kernel_rfl
theorem f36_tab : tabOk t36.sd t36.sx (bodyOf Tryd.f36) = true := by kernel_rfl
def t28 : FT where
  keep := []
  kb := fun
    | _ => []
  sd := fun
    | _ => []
theorem f28_at : Tryd.prog.funcs[28]? = some Tryd.f28 := by kernel_rfl
theorem f28_body : Tryd.f28.body.isSome = true := by kernel_rfl
theorem f28_tab : tabOk t28.sd t28.sx (bodyOf Tryd.f28) = true := by kernel_rfl
def t26 : FT where
  keep := []
  kb := fun
    | _ => []
  sd := fun
    | _ => []
theorem f26_at : Tryd.prog.funcs[26]? = some Tryd.f26 := by kernel_rfl
theorem f26_body : Tryd.f26.body.isSome = true := by kernel_rfl
theorem f26_tab : tabOk t26.sd t26.sx (bodyOf Tryd.f26) = true := by kernel_rfl
def t23 : FT where
  keep := []
  kb := fun
    | _ => []
  sd := fun
    | 3 => [(0, true), (1, true), (2, true), (3, true), (4, false), (5, true), (6, false)]
    | _ => []
theorem f23_at : Tryd.prog.funcs[23]? = some Tryd.f23 := by kernel_rfl
theorem f23_body : Tryd.f23.body.isSome = true := by kernel_rfl
theorem f23_tab : tabOk t23.sd t23.sx (bodyOf Tryd.f23) = true := by kernel_rfl
def t24 : FT where
  keep := []
  kb := fun
    | 1 => [0, 6, 3, 2]
    | _ => []
  sd := fun
    | 13 => [(0, true), (1, true), (2, true), (5, true), (6, true), (3, false), (4, false), (7, true), (8, false)]
    | _ => []
theorem f24_at : Tryd.prog.funcs[24]? = some Tryd.f24 := by kernel_rfl
theorem f24_body : Tryd.f24.body.isSome = true := by kernel_rfl
theorem f24_tab : tabOk t24.sd t24.sx (bodyOf Tryd.f24) = true := by kernel_rfl
theorem f24_loop1 : isLoop1 (subs 1 (bodyOf Tryd.f24)) = true := by kernel_rfl
theorem f24_tab1 : tabOk t24.sd t24.sx (lb Tryd.f24 1) = true := by kernel_rfl
def t44 : FT where
  keep := []
  kb := fun
    | _ => []
  sd := fun
    | _ => []
theorem f44_at : Tryd.prog.funcs[44]? = some Tryd.f44 := by kernel_rfl
theorem f44_body : Tryd.f44.body.isSome = true := by kernel_rfl
theorem f44_tab : tabOk t44.sd t44.sx (bodyOf Tryd.f44) = true := by kernel_rfl
def t52 : FT where
  keep := []
  kb := fun
    | 0 => [0, 3]
    | _ => []
  sd := fun
    | _ => []
theorem f52_at : Tryd.prog.funcs[52]? = some Tryd.f52 := by kernel_rfl
theorem f52_body : Tryd.f52.body.isSome = true := by kernel_rfl
theorem f52_tab : tabOk t52.sd t52.sx (bodyOf Tryd.f52) = true := by kernel_rfl
theorem f52_loop0 : isLoop1 (subs 0 (bodyOf Tryd.f52)) = true := by kernel_rfl
theorem f52_tab0 : tabOk t52.sd t52.sx (lb Tryd.f52 0) = true := by kernel_rfl
def t50 : FT where
  keep := []
  kb := fun
    | _ => []
  sd := fun
    | _ => []
theorem f50_at : Tryd.prog.funcs[50]? = some Tryd.f50 := by kernel_rfl
theorem f50_body : Tryd.f50.body.isSome = true := by kernel_rfl
theorem f50_tab : tabOk t50.sd t50.sx (bodyOf Tryd.f50) = true := by kernel_rfl
def t51 : FT where
  keep := []
  kb := fun
    | _ => []
  sd := fun
    | _ => []
theorem f51_at : Tryd.prog.funcs[51]? = some Tryd.f51 := by kernel_rfl
theorem f51_body : Tryd.f51.body.isSome = true := by kernel_rfl
theorem f51_tab : tabOk t51.sd t51.sx (bodyOf Tryd.f51) = true := by kernel_rfl
def t53 : FT where
  keep := []
  kb := fun
    | _ => []
  sd := fun
    | _ => []
theorem f53_at : Tryd.prog.funcs[53]? = some Tryd.f53 := by kernel_rfl
theorem f53_body : Tryd.f53.body.isSome = true := by kernel_rfl
theorem f53_tab : tabOk t53.sd t53.sx (bodyOf Tryd.f53) = true := by kernel_rfl
def t54 : FT where
  keep := []
  kb := fun
    | _ => []
  sd := fun
    | 4 => [(0, true), (1, true), (2, false), (3, false), (4, true), (5, false)]
    | _ => []
  rs := [2]
  df := true
theorem f54_at : Tryd.prog.funcs[54]? = some Tryd.f54 := by kernel_rfl
theorem f54_body : Tryd.f54.body.isSome = true := by kernel_rfl
theorem f54_tab : tabOk t54.sd t54.sx (bodyOf Tryd.f54) = true := by kernel_rfl
def t45 : FT where
  keep := []
  kb := fun
    | 0 => [0, 5, 1, 4]
    | 2 => [7, 5, 6, 1, 4]
    | _ => []
  sd := fun
    | 9 => [(0, true), (1, true), (2, true), (3, true), (4, true), (5, true), (7, true), (8, true), (9, true), (10, true), (11, true), (6, false), (12, true), (13, false)]
    | _ => []
theorem f45_at : Tryd.prog.funcs[45]? = some Tryd.f45 := by kernel_rfl
theorem f45_body : Tryd.f45.body.isSome = true := by kernel_rfl
theorem f45_tab : tabOk t45.sd t45.sx (bodyOf Tryd.f45) = true := by kernel_rfl
theorem f45_loop0 : isLoop1 (subs 0 (bodyOf Tryd.f45)) = true := by kernel_rfl
theorem f45_tab0 : tabOk t45.sd t45.sx (lb Tryd.f45 0) = true := by kernel_rfl
theorem f45_loop2 : isLoop1 (subs 2 (bodyOf Tryd.f45)) = true := by kernel_rfl
theorem f45_tab2 : tabOk t45.sd t45.sx (lb Tryd.f45 2) = true := by kernel_rfl
def t46 : FT where
  keep := []
  kb := fun
    | 0 => [0, 3, 2]
    | _ => []
  sd := fun
    | 4 => [(0, true), (1, true), (2, true), (3, false), (4, false), (5, false), (6, true), (7, false)]
    | 6 => [(0, true), (1, true), (2, true), (3, false), (4, false), (5, false), (6, true), (7, false)]
    | _ => []
theorem f46_at : Tryd.prog.funcs[46]? = some Tryd.f46 := by kernel_rfl
theorem f46_body : Tryd.f46.body.isSome = true := by kernel_rfl
theorem f46_tab : tabOk t46.sd t46.sx (bodyOf Tryd.f46) = true := by kernel_rfl
theorem f46_loop0 : isLoop1 (subs 0 (bodyOf Tryd.f46)) = true := by kernel_rfl
theorem f46_tab0 : tabOk t46.sd t46.sx (lb Tryd.f46 0) = true := by kernel_rfl
def t47 : FT where
  keep := []
  kb := fun
    | _ => []
  sd := fun
    | _ => []
theorem f47_at : Tryd.prog.funcs[47]? = some Tryd.f47 := by kernel_rfl
theorem f47_body : Tryd.f47.body.isSome = true := by kernel_rfl
theorem f47_tab : tabOk t47.sd t47.sx (bodyOf Tryd.f47) = true := by kernel_rfl
def t48 : FT where
  keep := []
  kb := fun
    | _ => []
  sd := fun
    | _ => []
theorem f48_at : Tryd.prog.funcs[48]? = some Tryd.f48 := by kernel_rfl
theorem f48_body : Tryd.f48.body.isSome = true := by kernel_rfl
theorem f48_tab : tabOk t48.sd t48.sx (bodyOf Tryd.f48) = true := by kernel_rfl
def t69 : FT where
  keep := []
  kb := fun
    | 0 => [0, 3, 2]
    | _ => []
  sd := fun
    | 5 => [(0, true), (1, true), (2, true), (3, false), (4, false), (5, false), (6, true), (7, false)]
    | _ => []
theorem f69_at : Tryd.prog.funcs[69]? = some Tryd.f69 := by kernel_rfl
theorem f69_body : Tryd.f69.body.isSome = true := by kernel_rfl
theorem f69_tab : tabOk t69.sd t69.sx (bodyOf Tryd.f69) = true := by kernel_rfl
theorem f69_loop0 : isLoop1 (subs 0 (bodyOf Tryd.f69)) = true := by kernel_rfl
theorem f69_tab0 : tabOk t69.sd t69.sx (lb Tryd.f69 0) = true := by kernel_rfl
def t67 : FT where
  keep := []
  kb := fun
    | 0 => [0, 5, 4]
    | _ => []
  sd := fun
    | _ => []
theorem f67_at : Tryd.prog.funcs[67]? = some Tryd.f67 := by kernel_rfl
theorem f67_body : Tryd.f67.body.isSome = true := by kernel_rfl
theorem f67_tab : tabOk t67.sd t67.sx (bodyOf Tryd.f67) = true := by kernel_rfl
theorem f67_loop0 : isLoop1 (subs 0 (bodyOf Tryd.f67)) = true := by kernel_rfl
theorem f67_tab0 : tabOk t67.sd t67.sx (lb Tryd.f67 0) = true := by kernel_rfl
def t68 : FT where
  keep := []
  kb := fun
    | _ => []
  sd := fun
    | _ => []
  sx := fun
    | 9 => some (.look 0 (.look 2 (.look 4 (.eff (.cons 1 (.eff (.cons 3 (.look 5 (.eff (.cons 6 (.done) (.nil)))) (.nil))) (.cons 3 (.eff (.cons 1 (.look 5 (.eff (.cons 6 (.done) (.nil)))) (.nil))) (.nil)))))), [0, 6, 4])
    | _ => none
theorem f68_at : Tryd.prog.funcs[68]? = some Tryd.f68 := by kernel_rfl
theorem f68_body : Tryd.f68.body.isSome = true := by kernel_rfl
theorem f68_tab : tabOk t68.sd t68.sx (bodyOf Tryd.f68) = true := by kernel_rfl
def t76 : FT where
  keep := []
  kb := fun
    | 0 => [3, 0, 4, 2]
    | _ => []
  sd := fun
    | 5 => [(0, true), (1, true), (2, true), (3, false), (4, false), (5, false), (6, true), (7, false)]
    | _ => []
  rs := [2]
  df := true
theorem f76_at : Tryd.prog.funcs[76]? = some Tryd.f76 := by kernel_rfl
theorem f76_body : Tryd.f76.body.isSome = true := by kernel_rfl
theorem f76_tab : tabOk t76.sd t76.sx (bodyOf Tryd.f76) = true := by kernel_rfl
theorem f76_loop0 : isLoop1 (subs 0 (bodyOf Tryd.f76)) = true := by kernel_rfl
theorem f76_tab0 : tabOk t76.sd t76.sx (lb Tryd.f76 0) = true := by kernel_rfl
def t83 : FT where
  keep := []
  kb := fun
    | _ => []
  sd := fun
    | _ => []
theorem f83_at : Tryd.prog.funcs[83]? = some Tryd.f83 := by kernel_rfl
theorem f83_body : Tryd.f83.body.isSome = true := by kernel_rfl
theorem f83_tab : tabOk t83.sd t83.sx (bodyOf Tryd.f83) = true := by kernel_rfl
def t84 : FT where
  keep := []
  kb := fun
    | _ => []
  sd := fun
    | _ => []
theorem f84_at : Tryd.prog.funcs[84]? = some Tryd.f84 := by kernel_rfl
theorem f84_body : Tryd.f84.body.isSome = true := by kernel_rfl
theorem f84_tab : tabOk t84.sd t84.sx (bodyOf Tryd.f84) = true := by kernel_rfl
def t3 : FT where
  keep := []
  kb := fun
    | 0 => [26, 25, 5, 6, 0, 1]
    | 2 => [37, 36, 6, 5, 0, 7, 1]
    | _ => []
  sd := fun
    | _ => []
theorem f3_at : Tryd.prog.funcs[3]? = some Tryd.f3 := by kernel_rfl
theorem f3_body : Tryd.f3.body.isSome = true := by kernel_rfl
theorem f3_tab : tabOk t3.sd t3.sx (bodyOf Tryd.f3) = true := by kernel_rfl
-- paths: 9
def T3 : Tr := .alt (.call ⟨5, [], [], .pv (.lit (.bool true)), []⟩ 0 (.alt (.say (.bin .lss 3 (.pv (.sym 0)) (.pv (.lit (.int .i64 0))) (.pv (.lit (.bool true)))) 0 (.ret (.pv (.lit (.bool true))) [])) (.say (.bin .lss 3 (.pv (.sym 0)) (.pv (.lit (.int .i64 0))) (.pv (.lit (.bool false)))) 0 (.alt (.say (.bin .gtr 3 (.pv (.sym 0)) (.pv (.lit (.int .i64 600))) (.pv (.lit (.bool true)))) 0 (.ret (.pv (.lit (.bool true))) [])) (.say (.bin .gtr 3 (.pv (.sym 0)) (.pv (.lit (.int .i64 600))) (.pv (.lit (.bool false)))) 0 (.say (.conv 3 24 (.pv (.sym 1)) (.pv (.sym 2))) 1 (.say (.bin .rem 24 (.pv (.sym 2)) (.pv (.lit (.int .u64 4))) (.pv (.sym 3))) 1 (.say (.idx 23 (.pv (.rows [[.lit (.string ⟨#[40]⟩)], [.lit (.string ⟨#[92, 120, 32, 45, 62, 32]⟩)], [.lit (.string ⟨#[105, 102, 32, 97, 32, 116, 104, 101, 110, 32, 98, 32, 101, 108, 115, 101, 32]⟩)], [.lit (.string ⟨#[108, 101, 116, 32, 121, 32, 61, 32]⟩)]])) (.pv (.sym 3)) (.cptr [.sym 4])) 1 (.blk ⟨0, [(26, .pv (.lit (.int .i64 0))), (25, .pv (.sym 0)), (5, .pv (.lit (.string ⟨#[]⟩))), (6, .pv (.sym 4)), (0, .pv (.sym 0)), (1, .pv (.sym 1))], [], .normal, [(5, .pv (.sym 5)), (0, .pv (.sym 0)), (6, .pv (.sym 4)), (1, .pv (.sym 1))], []⟩ 1 (.say (.len 9 (.pv (.sym 5)) (.pv (.sym 6))) 1 (.say (.bin .add 9 (.pv (.sym 5)) (.pv (.lit (.string ⟨#[97]⟩))) (.pv (.sym 7))) 1 (.blk ⟨2, [(37, .pv (.lit (.int .i64 0))), (36, .pv (.sym 0)), (6, .pv (.sym 4)), (5, .pv (.sym 7)), (0, .pv (.sym 0)), (7, .pv (.sym 6)), (1, .pv (.sym 1))], [], .normal, [(5, .pv (.sym 8)), (0, .pv (.sym 0)), (7, .pv (.sym 6)), (6, .pv (.sym 4)), (1, .pv (.sym 1))], []⟩ 1 (.call ⟨6, [.pv (.sym 8)], [], .tup [.agg [.pv (.sym 9), .pv (.sym 10), .pv (.sym 11), .pv (.sym 12), .pv (.sym 13), .pv (.sym 14), .pv (.sym 15), .pv (.sym 16), .pv (.sym 17), .pv (.sym 18), .pv (.sym 19)], .agg [.pv (.sym 20), .pv (.sym 21)]], []⟩ 13 (.alt (.say (.bin .lss 3 (.pv (.sym 0)) (.pv (.lit (.int .i64 300))) (.pv (.lit (.bool true)))) 0 (.alt (.say (.bin .eql 35 (.agg [.pv (.sym 20), .pv (.sym 21)]) (.agg [.pv (.lit (.int .i64 0)), .pv (.lit (.int .i64 0))]) (.pv (.lit (.bool true)))) 0 (.ret (.pv (.lit (.bool true))) [])) (.say (.bin .eql 35 (.agg [.pv (.sym 20), .pv (.sym 21)]) (.agg [.pv (.lit (.int .i64 0)), .pv (.lit (.int .i64 0))]) (.pv (.lit (.bool false)))) 0 (.ret (.pv (.lit (.bool false))) [])))) (.say (.bin .lss 3 (.pv (.sym 0)) (.pv (.lit (.int .i64 300))) (.pv (.lit (.bool false)))) 0 (.say (.bin .sub 3 (.pv (.sym 0)) (.pv (.lit (.int .i64 300))) (.pv (.sym 22))) 1 (.say (.len 9 (.pv (.sym 4)) (.pv (.sym 23))) 1 (.say (.bin .mul 3 (.pv (.sym 22)) (.pv (.sym 23)) (.pv (.sym 24))) 1 (.say (.bin .sub 3 (.pv (.sym 6)) (.pv (.sym 24)) (.pv (.sym 25))) 1 (.alt (.say (.bin .eql 24 (.pv (.sym 3)) (.pv (.lit (.int .u64 2))) (.pv (.lit (.bool true)))) 0 (.say (.bin .mul 3 (.pv (.lit (.int .i64 299))) (.pv (.sym 23)) (.pv (.sym 26))) 1 (.say (.bin .add 3 (.pv (.sym 26)) (.pv (.lit (.int .i64 3))) (.pv (.sym 27))) 1 (.alt (.say (.bin .eql 35 (.agg [.pv (.sym 20), .pv (.sym 21)]) (.agg [.pv (.lit (.int .i64 111)), .pv (.sym 27)]) (.pv (.lit (.bool true)))) 0 (.ret (.pv (.lit (.bool true))) [])) (.say (.bin .eql 35 (.agg [.pv (.sym 20), .pv (.sym 21)]) (.agg [.pv (.lit (.int .i64 111)), .pv (.sym 27)]) (.pv (.lit (.bool false)))) 0 (.ret (.pv (.lit (.bool false))) [])))))) (.say (.bin .eql 24 (.pv (.sym 3)) (.pv (.lit (.int .u64 2))) (.pv (.lit (.bool false)))) 0 (.alt (.say (.bin .eql 35 (.agg [.pv (.sym 20), .pv (.sym 21)]) (.agg [.pv (.lit (.int .i64 111)), .pv (.sym 25)]) (.pv (.lit (.bool true)))) 0 (.ret (.pv (.lit (.bool true))) [])) (.say (.bin .eql 35 (.agg [.pv (.sym 20), .pv (.sym 21)]) (.agg [.pv (.lit (.int .i64 111)), .pv (.sym 25)]) (.pv (.lit (.bool false)))) 0 (.ret (.pv (.lit (.bool false))) [])))))))))))))))))))))))) (.call ⟨5, [], [], .pv (.lit (.bool false)), []⟩ 0 (.ret (.pv (.lit (.bool false))) []))
def A3 : List AV := [.pv (.sym 0), .pv (.sym 1)]
def H3 : List AObj := []
set_option maxRecDepth 100000 in
theorem c3 : chk Tryd.prog (leafF Tryd.prog t3 3 A3 H3) T3 2 [] [] [] = true := by kernel_rfl
theorem F3 (x0 : PV) (x1 : PV) (hn : NSL [x0, x1]) {v : AV} {h' : List AObj} (hd : Den Tryd.prog Tryd.f3 T3 [x0, x1] (.ret v h')) :
    Sem Tryd.prog 3 [.pv x0, .pv x1] [] v h' :=
  fun_rule f3_at f3_body mixed f3_tab (args := A3) (h := H3) (by kernel_rfl) c3 rfl hn (by simp only [A3, TsAs, TsA, nm, isRow, List.getD_cons_zero, List.getD_cons_succ, and_self, and_true]) (by trivial) hd
theorem f3_loop0 : isLoop1 (subs 0 (bodyOf Tryd.f3)) = true := by kernel_rfl
theorem f3_tab0 : tabOk t3.sd t3.sx (lb Tryd.f3 0) = true := by kernel_rfl
-- loop 0, objects before it: 0; paths: 2
def T3b0a : Tr := .alt (.say (.bin .lss 3 (.pv (.sym 0)) (.pv (.sym 1)) (.pv (.lit (.bool true)))) 0 (.say (.bin .add 9 (.pv (.sym 2)) (.pv (.sym 3)) (.pv (.sym 6))) 1 (.say (.bin .add 3 (.pv (.sym 0)) (.pv (.lit (.int .i64 1))) (.pv (.sym 7))) 1 (.code .normal [(26, .pv (.sym 7)), (25, .pv (.sym 1)), (5, .pv (.sym 6)), (6, .pv (.sym 3)), (0, .pv (.sym 4)), (1, .pv (.sym 5))] [])))) (.say (.bin .lss 3 (.pv (.sym 0)) (.pv (.sym 1)) (.pv (.lit (.bool false)))) 0 (.code (.exit 0) [(5, .pv (.sym 2)), (0, .pv (.sym 4)), (6, .pv (.sym 3)), (1, .pv (.sym 5))] []))
def E3b0a : Env := [(26, .pv (.sym 0)), (25, .pv (.sym 1)), (5, .pv (.sym 2)), (6, .pv (.sym 3)), (0, .pv (.sym 4)), (1, .pv (.sym 5))]
def H3b0a : List AObj := []
set_option maxRecDepth 100000 in
theorem c3b0a : chk Tryd.prog (leafC Tryd.prog Tryd.f3 t3 (lb Tryd.f3 0) 0 E3b0a H3b0a) T3b0a 6 [] [] [] = true := by kernel_rfl
theorem L3b0a (x0 : PV) (x1 : PV) (x2 : PV) (x3 : PV) (x4 : PV) (x5 : PV) (hn : NSL [x0, x1, x2, x3, x4, x5]) {ex : AExit} {e' : Env} {h' : List AObj} (hd : Den Tryd.prog Tryd.f3 T3b0a [x0, x1, x2, x3, x4, x5] (.code ex e' h')) (R : Nat → PV) :
    CodeB R Tryd.prog Tryd.f3.ntmps (lb Tryd.f3 0) 0 [(26, .pv x0), (25, .pv x1), (5, .pv x2), (6, .pv x3), (0, .pv x4), (1, .pv x5)] [] ex e' h' :=
  body_rule f3_loop0 mixed f3_tab0 (e := E3b0a) (h := H3b0a) (by kernel_rfl) c3b0a rfl hn (by simp only [E3b0a, TsE, TsAs, TsA, nm, isRow, List.getD_cons_zero, List.getD_cons_succ, and_self, and_true]) (by trivial) hd R
theorem f3_loop2 : isLoop1 (subs 2 (bodyOf Tryd.f3)) = true := by kernel_rfl
theorem f3_tab2 : tabOk t3.sd t3.sx (lb Tryd.f3 2) = true := by kernel_rfl
-- loop 2, objects before it: 0; paths: 4
def T3b2a : Tr := .alt (.say (.bin .lss 3 (.pv (.sym 0)) (.pv (.sym 1)) (.pv (.lit (.bool true)))) 0 (.alt (.say (.bin .eql 9 (.pv (.sym 2)) (.pv (.lit (.string ⟨#[40]⟩))) (.pv (.lit (.bool true)))) 0 (.say (.bin .add 9 (.pv (.sym 3)) (.pv (.lit (.string ⟨#[41]⟩))) (.pv (.sym 7))) 1 (.say (.bin .add 3 (.pv (.sym 0)) (.pv (.lit (.int .i64 1))) (.pv (.sym 8))) 1 (.code .normal [(37, .pv (.sym 8)), (36, .pv (.sym 1)), (6, .pv (.sym 2)), (5, .pv (.sym 7)), (0, .pv (.sym 4)), (7, .pv (.sym 5)), (1, .pv (.sym 6))] [])))) (.say (.bin .eql 9 (.pv (.sym 2)) (.pv (.lit (.string ⟨#[40]⟩))) (.pv (.lit (.bool false)))) 0 (.alt (.say (.bin .eql 9 (.pv (.sym 2)) (.pv (.lit (.string ⟨#[108, 101, 116, 32, 121, 32, 61, 32]⟩))) (.pv (.lit (.bool true)))) 0 (.say (.bin .add 9 (.pv (.sym 3)) (.pv (.lit (.string ⟨#[32, 105, 110, 32, 121]⟩))) (.pv (.sym 7))) 1 (.say (.bin .add 3 (.pv (.sym 0)) (.pv (.lit (.int .i64 1))) (.pv (.sym 8))) 1 (.code .normal [(37, .pv (.sym 8)), (36, .pv (.sym 1)), (6, .pv (.sym 2)), (5, .pv (.sym 7)), (0, .pv (.sym 4)), (7, .pv (.sym 5)), (1, .pv (.sym 6))] [])))) (.say (.bin .eql 9 (.pv (.sym 2)) (.pv (.lit (.string ⟨#[108, 101, 116, 32, 121, 32, 61, 32]⟩))) (.pv (.lit (.bool false)))) 0 (.say (.bin .add 3 (.pv (.sym 0)) (.pv (.lit (.int .i64 1))) (.pv (.sym 7))) 1 (.code .normal [(37, .pv (.sym 7)), (36, .pv (.sym 1)), (6, .pv (.sym 2)), (5, .pv (.sym 3)), (0, .pv (.sym 4)), (7, .pv (.sym 5)), (1, .pv (.sym 6))] []))))))) (.say (.bin .lss 3 (.pv (.sym 0)) (.pv (.sym 1)) (.pv (.lit (.bool false)))) 0 (.code (.exit 2) [(5, .pv (.sym 3)), (0, .pv (.sym 4)), (7, .pv (.sym 5)), (6, .pv (.sym 2)), (1, .pv (.sym 6))] []))
def E3b2a : Env := [(37, .pv (.sym 0)), (36, .pv (.sym 1)), (6, .pv (.sym 2)), (5, .pv (.sym 3)), (0, .pv (.sym 4)), (7, .pv (.sym 5)), (1, .pv (.sym 6))]
def H3b2a : List AObj := []
set_option maxRecDepth 100000 in
theorem c3b2a : chk Tryd.prog (leafC Tryd.prog Tryd.f3 t3 (lb Tryd.f3 2) 0 E3b2a H3b2a) T3b2a 7 [] [] [] = true := by kernel_rfl
theorem L3b2a (x0 : PV) (x1 : PV) (x2 : PV) (x3 : PV) (x4 : PV) (x5 : PV) (x6 : PV) (hn : NSL [x0, x1, x2, x3, x4, x5, x6]) {ex : AExit} {e' : Env} {h' : List AObj} (hd : Den Tryd.prog Tryd.f3 T3b2a [x0, x1, x2, x3, x4, x5, x6] (.code ex e' h')) (R : Nat → PV) :
    CodeB R Tryd.prog Tryd.f3.ntmps (lb Tryd.f3 2) 0 [(37, .pv x0), (36, .pv x1), (6, .pv x2), (5, .pv x3), (0, .pv x4), (7, .pv x5), (1, .pv x6)] [] ex e' h' :=
  body_rule f3_loop2 mixed f3_tab2 (e := E3b2a) (h := H3b2a) (by kernel_rfl) c3b2a rfl hn (by simp only [E3b2a, TsE, TsAs, TsA, nm, isRow, List.getD_cons_zero, List.getD_cons_succ, and_self, and_true]) (by trivial) hd R
end Go.Proofs.YtfphhabaeggenaaDoor
