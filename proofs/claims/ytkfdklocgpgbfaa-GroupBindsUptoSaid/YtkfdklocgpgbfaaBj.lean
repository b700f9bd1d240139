/- Joined texts. -/
import Derived.Test.YtkfdklocgpgbfaaBc
import Derived.Test.YtkfdklocgpgbfaaProg
import Derived.KernelRfl
import Derived.Test.YtkfdklocgpgbfaaBl
set_option linter.unusedVariables false
set_option linter.unusedSimpArgs false
set_option linter.unusedSectionVars false
namespace Go.Proofs.Ytkfdklocgpgbfaa
def keepT : Nat → List Nat
  | 4 => [17, 0, 20, 4, 27, 3, 5, 36, 35, 37, 6, 45, 44, 46, 43, 8, 52, 51, 53, 50, 10, 70, 7, 81, 80, 82, 12, 88, 94, 93, 95, 92, 14, 106, 110, 109, 111, 15, 11, 136, 2]
  | 5 => [14, 0, 1, 22, 27, 26, 28, 25, 7, 5, 37, 9, 55, 8, 11, 10, 65, 12, 4]
  | 6 => [9, 0, 12, 15, 14, 16, 13, 4, 22, 5, 6, 2]
  | 8 => [0, 7, 6, 8, 5, 4, 13, 2]
  | 9 => [0, 15, 14, 16, 13, 6, 21, 20, 22, 19, 8, 4, 31, 9, 48, 47, 49, 10, 2, 3]
  | 10 => [4, 0, 19, 5, 28, 50, 9, 59, 11, 10, 69, 7, 13, 12, 83, 6, 106, 109, 15, 113, 119, 14, 8, 2, 3]
  | 11 => [0, 1, 11, 5, 15, 28, 6, 35, 52, 4]
  | 12 => [4, 0, 13, 6, 25, 5, 3, 7, 44, 8, 50, 9, 56, 74, 2]
  | 14 => [4, 0, 12, 7, 6, 24, 8, 30, 42, 5, 3, 2]
  | 15 => [0, 14, 13, 15, 12, 5, 23, 22, 24, 21, 7, 8, 31, 3, 4, 2]
  | 17 => [0, 2, 1, 3, 11, 10, 12, 4, 21]
  | 18 => [0, 4, 20, 26, 25, 27, 5, 3, 6, 65, 2]
  | 20 => [0, 2, 6, 5, 1, 23, 7, 46, 8, 71, 4]
  | 21 => [0, 4, 1, 13, 3, 30, 35, 44, 50, 7, 5, 6, 63, 8, 81, 2]
  | 23 => [0, 8, 7, 9, 1, 5, 16, 4]
  | 25 => [1, 2, 0, 45, 44, 46, 43, 6, 49, 3, 82, 127, 7, 8, 153, 152, 154, 151, 10]
  | 26 => [0, 8, 7, 9, 1, 5, 16, 4]
  | 29 => [1, 13, 12, 14, 11, 0, 8, 25, 24, 26, 23, 10, 2, 56, 6]
  | 30 => [4, 0, 8, 3, 2]
  | 31 => [4, 0, 8, 3, 2]
  | 32 => [6, 0, 10, 1, 19, 5, 4]
  | 33 => [5, 0, 6, 1, 13, 22, 4]
  | 34 => [0, 1, 7, 3, 4, 17, 2]
  | 35 => [0, 1, 3, 2, 33, 48, 47, 49, 46, 4, 6, 64, 7, 8, 77, 87, 102, 101, 103, 100, 10]
  | 38 => [1, 7, 6, 8, 5, 0, 4, 14]
  | 39 => [5, 0, 9, 1, 17, 4]
  | 41 => [0, 7, 6, 8, 5, 1, 3]
  | 43 => [1, 8, 7, 9, 6, 0, 5]
  | 46 => [0, 1, 8, 3, 17, 16, 18, 15, 5, 2]
  | 49 => [2, 1, 10, 23, 0, 3, 29, 8, 35, 12, 50, 11, 9, 68, 72, 87, 13, 15, 14, 16, 17, 113, 18]
  | 51 => [0, 8, 7, 9, 1, 5, 16, 4]
  | 52 => [1, 6, 2, 12, 7, 0, 30]
  | 53 => [1, 2, 8, 9, 19, 0, 6, 10, 30, 7]
  | 54 => [2, 1, 6, 15, 9, 33, 7, 8, 10, 43, 0]
  | 56 => [1, 2, 6, 7, 13, 0]
  | 57 => [1, 8, 14, 7, 2, 0, 32, 37, 41, 61, 9, 65, 78, 98, 10, 103, 116, 6]
  | 59 => [0, 1, 3, 2, 9, 10, 43, 59, 64, 8]
  | 60 => [0, 1, 3, 2, 10, 11, 43, 60, 65, 112, 129, 134, 8, 9]
  | 63 => [1, 8, 9, 2, 16, 0, 3, 36, 52]
  | _ => []
def sd4 : Nat → List (Nat × Bool)
  | 34 => [(0, true), (1, true), (2, true), (3, true), (4, true), (5, true), (6, true), (7, true), (8, true)]
  | 40 => [(0, true), (1, true), (2, true), (3, true), (4, true), (5, true), (6, true), (7, true), (8, true), (9, true), (10, true), (11, true), (12, true), (13, true), (14, true), (15, true), (16, true), (17, true), (18, true), (19, true), (20, true), (21, true), (22, true), (23, true)]
  | _ => []
def sd9 : Nat → List (Nat × Bool)
  | 12 => []
  | _ => []
def sd11 : Nat → List (Nat × Bool)
  | 6 => [(0, true), (1, true), (2, true), (3, true), (4, true), (5, true), (6, true), (7, true), (8, true), (9, true), (10, true)]
  | 11 => [(0, true), (1, true), (2, true), (3, true), (4, true), (5, true), (6, true), (7, true), (8, true), (9, true), (10, true), (11, true), (12, true), (13, true), (14, true)]
  | _ => []
def sd14 : Nat → List (Nat × Bool)
  | 13 => [(0, true), (1, true), (2, true), (3, true), (4, true), (5, true), (6, true), (7, true), (8, true), (9, true)]
  | _ => []
def sd20 : Nat → List (Nat × Bool)
  | 13 => [(0, true), (1, true), (2, true), (3, true), (4, true), (5, true), (6, true), (7, true), (8, true), (9, true), (12, true), (13, true), (14, true), (15, true), (16, true), (17, true), (18, true), (19, true), (10, false), (11, true), (20, true), (21, true), (22, true)]
  | _ => []
def sd21 : Nat → List (Nat × Bool)
  | 16 => [(0, true), (1, true), (3, true), (4, true), (6, true), (2, false), (5, false), (7, false), (8, false), (9, true)]
  | 18 => []
  | 22 => [(0, true), (1, true), (2, true), (3, true), (4, true), (5, true), (6, true), (8, true), (9, true), (10, true), (11, true), (12, true), (13, true), (7, false), (14, false), (15, false), (16, false), (17, true)]
  | _ => []
def sd25 : Nat → List (Nat × Bool)
  | 1 => [(0, true), (1, true), (2, true), (3, true), (4, true), (5, true), (6, true), (7, true), (8, true), (9, true), (10, true), (11, true), (12, true), (13, false), (14, true), (15, false)]
  | 2 => [(0, true), (1, true), (2, true), (3, true), (4, true), (5, true), (6, false), (7, false), (8, true), (9, true), (10, false)]
  | 8 => [(0, true), (1, true), (2, true), (3, true), (4, true), (5, true), (6, true), (7, true), (8, true), (9, true), (10, true), (11, true), (12, true), (13, true), (14, true), (15, true), (16, true), (17, true), (18, true), (19, true), (20, true), (21, false)]
  | 10 => [(0, true), (1, true), (2, true), (3, true), (4, true), (5, true), (6, true), (7, true), (8, true), (9, true), (10, true), (11, true), (12, true), (13, true), (14, true), (15, true), (16, true), (17, true), (18, true), (19, true), (20, true), (21, false)]
  | 12 => [(0, true), (1, true), (2, true), (3, true), (4, true), (5, true), (6, true), (7, true), (8, true), (9, true), (10, true), (11, true), (12, true), (13, true), (14, true)]
  | 15 => [(0, true), (1, true), (2, true), (3, true), (4, true), (5, true), (6, true), (7, true), (8, true), (9, false)]
  | 19 => [(0, true), (1, true), (2, true), (3, true), (4, true), (5, true), (6, true), (7, true), (8, true), (9, true), (10, true), (11, false)]
  | 21 => [(0, true), (1, true), (2, true), (3, true), (4, true), (5, true), (6, false), (7, false), (8, true), (9, true), (10, false)]
  | _ => []
def sd29 : Nat → List (Nat × Bool)
  | 7 => [(0, true), (1, true), (2, true), (3, true), (4, true), (5, true), (6, true), (7, true), (8, true), (9, true), (10, true), (11, true), (12, true), (13, true), (14, true), (15, true), (16, true), (17, true), (18, true), (19, true), (20, true), (21, true), (22, true), (23, true), (24, true), (25, true), (26, true), (27, true)]
  | _ => []
def sd35 : Nat → List (Nat × Bool)
  | 1 => [(0, true), (1, true), (2, true), (3, true), (4, true), (5, true), (6, true), (7, true), (8, true), (9, true), (10, false), (11, true), (12, true), (13, true), (14, true), (15, true), (16, true), (17, true), (18, true), (19, true), (20, false), (21, true), (22, true)]
  | 2 => [(0, true), (1, true), (2, true), (3, true), (4, true), (5, true), (6, true), (7, false), (8, false), (9, true), (10, true), (11, false)]
  | 24 => [(0, true), (1, true), (2, true), (4, true), (3, false), (5, false)]
  | _ => []
def sd49 : Nat → List (Nat × Bool)
  | 17 => [(0, true), (1, true), (2, true), (3, true), (4, true), (5, true), (6, true), (7, true), (8, true), (9, true), (10, true), (11, true), (12, false), (13, true), (14, true)]
  | _ => []
def sd52 : Nat → List (Nat × Bool)
  | 4 => [(0, true), (1, true), (2, true), (3, true), (4, true), (5, true), (6, true), (7, true), (8, true), (9, true), (10, true), (11, true), (12, true), (13, false), (14, true)]
  | 6 => [(0, true), (1, true), (2, true), (3, true), (4, true), (5, true), (6, true), (7, true), (8, true), (9, true), (10, true), (11, true), (12, true), (13, true), (14, true), (15, false), (16, true), (17, false)]
  | _ => []
def sd53 : Nat → List (Nat × Bool)
  | 10 => [(0, true), (1, true), (2, true), (3, true), (4, true), (5, true), (6, true), (7, true), (8, true), (9, true), (10, true), (11, true), (12, true), (13, true), (14, true), (15, true), (16, true), (17, false), (18, true), (19, false)]
  | _ => []
def sd54 : Nat → List (Nat × Bool)
  | 10 => [(0, true), (1, true), (2, true), (3, true), (4, true), (5, true), (6, true), (7, true), (8, true), (9, true), (10, true), (11, true), (12, true), (13, true), (14, true), (15, true), (16, true), (17, false), (18, true), (19, false)]
  | _ => []
def sd56 : Nat → List (Nat × Bool)
  | 3 => [(0, true), (1, true), (2, true), (3, true), (4, true), (5, true), (6, true), (7, true), (8, true), (9, true), (10, true), (11, true), (12, true), (13, false), (14, true), (15, false)]
  | _ => []
def sd57 : Nat → List (Nat × Bool)
  | 5 => [(0, true), (1, true), (2, true), (3, true), (4, true), (5, true), (6, true), (7, true), (8, true), (9, true), (10, true), (11, true), (12, true), (13, false), (14, true), (15, true)]
  | 11 => [(0, true), (1, true), (2, true), (3, true), (4, true), (5, true), (6, true), (7, true), (8, true), (9, true), (10, true), (11, true), (12, true), (13, true), (14, true), (15, false), (16, true), (17, false)]
  | 16 => [(0, true), (1, true), (2, true), (3, true), (4, true), (5, true), (6, true), (7, true), (8, true), (9, false), (10, true)]
  | 17 => [(0, true), (1, true), (2, true), (3, true), (4, true), (5, true), (6, true), (7, true), (8, true), (9, true), (10, true), (11, true), (12, true), (13, true), (14, true), (15, false), (16, true), (17, false)]
  | 22 => [(0, true), (1, true), (2, true), (3, true), (4, true), (5, true), (6, true), (7, true), (8, true), (9, false), (10, true)]
  | 23 => [(0, true), (1, true), (2, true), (3, true), (4, true), (5, true), (6, true), (7, true), (8, true), (9, true), (10, true), (11, true), (12, true), (13, true), (14, true), (15, false), (16, true), (17, false)]
  | _ => []
def sd59 : Nat → List (Nat × Bool)
  | 1 => [(0, true), (1, true), (2, true), (3, true), (4, true), (5, true), (6, true), (7, true), (8, true), (9, true), (10, true), (11, true), (12, true), (13, false), (14, true), (15, false)]
  | 3 => [(0, true), (1, true), (2, true), (3, true), (4, true), (5, true), (6, true), (7, true), (8, true), (9, true), (10, true), (11, true), (12, false), (13, true), (14, true)]
  | 5 => [(0, true), (1, true), (2, true), (3, true), (4, true), (5, true), (6, true), (7, true), (8, true), (9, true), (10, true), (11, true), (12, false), (13, true)]
  | 8 => [(0, true), (1, true), (2, true), (3, true), (4, true), (5, true), (6, true), (7, true), (8, true), (9, true), (10, true), (11, true), (12, true), (13, false), (14, true), (15, false)]
  | _ => []
def sd60 : Nat → List (Nat × Bool)
  | 1 => [(0, true), (1, true), (2, true), (3, true), (4, true), (5, true), (6, true), (7, true), (8, true), (9, true), (10, true), (11, true), (12, true), (13, false), (14, true), (15, false)]
  | 3 => [(0, true), (1, true), (2, true), (3, true), (4, true), (5, true), (6, true), (7, true), (8, true), (9, true), (10, true), (11, true), (12, false), (13, true)]
  | 5 => [(0, true), (1, true), (2, true), (3, true), (4, true), (5, true), (6, true), (7, true), (8, true), (9, true), (10, true), (11, true), (12, false), (13, true), (14, true)]
  | 8 => [(0, true), (1, true), (2, true), (3, true), (4, true), (5, true), (6, true), (7, true), (8, true), (9, true), (10, true), (11, true), (12, true), (13, false), (14, true), (15, false)]
  | 10 => [(0, true), (1, true), (2, true), (3, true), (4, true), (5, true), (6, true), (7, true), (8, true), (9, true), (10, true), (11, true), (12, true), (13, false), (14, true), (15, false)]
  | 13 => [(0, true), (1, true), (2, true), (3, true), (4, true), (5, true), (6, true), (7, true), (8, true), (9, true), (10, true), (11, true), (12, false), (13, true)]
  | 15 => [(0, true), (1, true), (2, true), (3, true), (4, true), (5, true), (6, true), (7, true), (8, true), (9, true), (10, true), (11, true), (12, false), (13, true), (14, true)]
  | 18 => [(0, true), (1, true), (2, true), (3, true), (4, true), (5, true), (6, true), (7, true), (8, true), (9, true), (10, true), (11, true), (12, true), (13, false), (14, true), (15, false)]
  | 21 => [(0, true), (1, true), (2, true), (3, true), (4, true), (5, true), (6, true), (7, true), (8, true), (9, true), (10, true), (11, true), (12, true), (13, false), (14, true), (15, false)]
  | _ => []
def sd63 : Nat → List (Nat × Bool)
  | 3 => [(0, true), (1, true), (2, true), (3, true), (4, true), (5, true), (6, true), (7, true), (8, true), (9, true), (10, true), (11, true), (12, true), (13, true), (14, true), (15, true), (16, true), (17, true), (18, false), (19, true)]
  | 5 => [(0, true), (1, true), (2, true), (3, true), (4, true), (5, true), (6, true), (7, true), (8, true), (9, true), (10, true), (11, true), (12, false), (13, true)]
  | 6 => [(0, true), (1, true), (2, true), (3, true), (4, true), (5, true), (6, true), (7, true), (8, true), (9, true), (10, true), (11, true), (12, true), (13, true), (14, true), (15, true), (16, true), (17, true), (18, true), (19, true), (20, true), (21, false), (22, true), (23, false)]
  | _ => []
def sd65 : Nat → List (Nat × Bool)
  | 1 => [(0, true), (1, true), (2, true), (3, true), (4, true), (5, true), (6, true), (7, true), (8, true), (9, false)]
  | 2 => [(0, true), (1, true), (2, true), (3, true), (4, true), (5, true), (6, true), (7, true), (8, true), (9, false)]
  | 3 => [(0, true), (1, true), (2, true), (3, true), (4, true), (5, true), (6, true), (7, true), (8, true), (9, false)]
  | _ => []
def sd69 : Nat → List (Nat × Bool)
  | 1 => [(0, true), (1, true), (2, true), (3, true), (4, true), (5, true), (6, true), (7, true), (8, false)]
  | _ => []
def sdT : Nat → Nat → List (Nat × Bool)
  | 4 => sd4
  | 9 => sd9
  | 11 => sd11
  | 14 => sd14
  | 20 => sd20
  | 21 => sd21
  | 25 => sd25
  | 29 => sd29
  | 35 => sd35
  | 49 => sd49
  | 52 => sd52
  | 53 => sd53
  | 54 => sd54
  | 56 => sd56
  | 57 => sd57
  | 59 => sd59
  | 60 => sd60
  | 63 => sd63
  | 65 => sd65
  | 69 => sd69
  | _ => fun _ => []
def sx9 : Nat → Option (Sch × List Nat)
  | 12 => some (.look 0 (.look 1 (.look 3 (.look 5 (.eff (.cons 2 (.eff (.cons 4 (.eff (.cons 6 (.look 7 (.eff (.cons 8 (.look 9 (.done)) (.nil)))) (.nil))) (.cons 6 (.eff (.cons 4 (.look 7 (.eff (.cons 8 (.look 9 (.done)) (.nil)))) (.nil))) (.nil)))) (.cons 4 (.eff (.cons 2 (.eff (.cons 6 (.look 7 (.eff (.cons 8 (.look 9 (.done)) (.nil)))) (.nil))) (.cons 6 (.eff (.cons 2 (.look 7 (.eff (.cons 8 (.look 9 (.done)) (.nil)))) (.nil))) (.nil)))) (.cons 6 (.eff (.cons 2 (.eff (.cons 4 (.look 7 (.eff (.cons 8 (.look 9 (.done)) (.nil)))) (.nil))) (.cons 4 (.eff (.cons 2 (.look 7 (.eff (.cons 8 (.look 9 (.done)) (.nil)))) (.nil))) (.nil)))) (.nil)))))))), [9])
  | _ => none
def sx21 : Nat → Option (Sch × List Nat)
  | 18 => some (.look 0 (.look 1 (.look 2 (.look 4 (.look 5 (.look 9 (.eff (.cons 3 (.eff (.cons 6 (.eff (.cons 7 (.eff (.cons 8 (.eff (.cons 10 (.eff (.cons 11 (.look 12 (.done)) (.nil))) (.nil))) (.nil))) (.nil))) (.nil))) (.cons 6 (.eff (.cons 3 (.eff (.cons 7 (.eff (.cons 8 (.eff (.cons 10 (.eff (.cons 11 (.look 12 (.done)) (.nil))) (.nil))) (.nil))) (.nil))) (.nil))) (.nil))))))))), [1, 6])
  | _ => none
def sxT : Nat → Nat → Option (Sch × List Nat)
  | 9 => sx9
  | 21 => sx21
  | _ => fun _ => none
def rsT : Nat → List Nat
  | _ => []
def dfT (f : Nat) : Bool := ([] : List Nat).elem f
def tabT (f : Nat) : FT := { keep := keepT f, sd := sdT f, sx := sxT f, rs := rsT f, df := dfT f }
def okT (f : Nat) : Bool := ([2, 3, 4, 5, 6, 7, 8, 9, 10, 11, 12, 13, 14, 15, 16, 17, 18, 19, 20, 21, 22, 23, 24, 25, 26, 27, 28, 29, 30, 31, 32, 33, 34, 35, 36, 37, 38, 39, 40, 41, 42, 43, 44, 45, 46, 47, 48, 49, 50, 51, 52, 53, 54, 55, 56, 57, 58, 59, 60, 61, 62, 63, 64, 65, 66, 67, 68, 69] : List Nat).elem f
set_option maxRecDepth 100000 in
theorem funcs_size : Try.prog.funcs.size = 86 := by kernel_rfl
theorem all_more (p : Nat → Bool) (a b : Nat) (h : (List.range a).all p = true) (h2 : (List.range b).all (fun i => p (a + i)) = true) : (List.range (a + b)).all p = true := by
  rw [List.range_add, List.all_append, h, List.all_map]
  exact h2
set_option maxRecDepth 100000 in
theorem tab_0 : (List.range 32).all (fun i => funcOk Try.prog tabT (0 + i)) = true := by kernel_rfl
set_option maxRecDepth 100000 in
theorem tab_1 : (List.range 32).all (fun i => funcOk Try.prog tabT (32 + i)) = true := by kernel_rfl
set_option maxRecDepth 100000 in
theorem tab_2 : (List.range 22).all (fun i => funcOk Try.prog tabT (64 + i)) = true := by kernel_rfl
theorem tab_all : (List.range 86).all (funcOk Try.prog tabT) = true := by
  have h0 : (List.range 32).all (funcOk Try.prog tabT) = true := by simpa using tab_0
  have h1 := all_more (funcOk Try.prog tabT) 32 32 h0 tab_1
  have h2 := all_more (funcOk Try.prog tabT) 64 22 h1 tab_2
  exact h2
set_option maxRecDepth 100000 in
theorem ok_all : (List.range 86).all (fun f => !okT f || callable Try.prog f) = true := by kernel_rfl
theorem elem_lt (n : Nat) (L : List Nat) (h : L.all (fun x => Nat.blt x n) = true) (f : Nat) (hf : n ≤ f) : L.elem f = false := by
  cases he : L.elem f with
  | false => rfl
  | true =>
    have hm : f ∈ L := List.mem_of_elem_eq_true he
    have h1 := List.all_eq_true.1 h f hm
    have h2 : f + 1 ≤ n := Nat.le_of_ble_eq_true h1
    omega
set_option maxRecDepth 100000 in
theorem okT_last : ∀ f, 86 ≤ f → okT f = false := fun f hf => elem_lt 86 _ (by kernel_rfl) f hf
theorem okT_ok : ∀ f, okT f = true → callable Try.prog f = true := okf_of okT_last ok_all
theorem tabT_ok : tabsOk Try.prog tabT := tabsOk_of funcs_size tab_all
end Go.Proofs.Ytkfdklocgpgbfaa
namespace Go.Proofs.Ytkfdklocgpgbfaa
open Go.RowKit
def intsAt : List AV → Option (List Int)
  | [] => some []
  | .pv (.lit (.int .i64 n)) :: l => match intsAt l with
    | some r => some (n :: r)
    | none => none
  | _ :: _ => none
theorem intsAt_get : ∀ {l : List AV} {zs : List Int}, intsAt l = some zs → zs.length = l.length ∧ ∀ (j : Nat) (h : j < zs.length), l[j]? = some (.pv (.lit (.int .i64 zs[j])))
  | [], zs, h => by cases h; exact ⟨rfl, fun j hj => absurd hj (Nat.not_lt_zero _)⟩
  | a :: l, zs, h => by
    unfold intsAt at h
    split at h
    · rename_i e; cases e
    · rename_i n l' e
      cases e
      split at h
      · rename_i r hr
        cases h
        obtain ⟨h1, h2⟩ := intsAt_get hr
        refine ⟨by simp [h1], fun j hj => ?_⟩
        cases j with
        | zero => rfl
        | succ j => exact h2 j (by simpa using hj)
      · cases h
    · cases h
def insZ (x : Int) : List Int → List Int
  | [] => [x]
  | y :: l => if x ≤ y then x :: y :: l else y :: insZ x l
def isortZ : List Int → List Int
  | [] => []
  | x :: l => insZ x (isortZ l)
theorem insZ_perm (x : Int) : ∀ l, (insZ x l).Perm (x :: l)
  | [] => .refl _
  | y :: l => by
    rw [insZ]
    split
    · exact .refl _
    · exact ((insZ_perm x l).cons y).trans (.swap x y l)
theorem isortZ_perm : ∀ l, (isortZ l).Perm l
  | [] => .refl _
  | x :: l => (insZ_perm x _).trans ((isortZ_perm l).cons x)
theorem insZ_pw (x : Int) : ∀ {l : List Int}, l.Pairwise (fun a b => decide (a ≤ b) = true) → (insZ x l).Pairwise (fun a b => decide (a ≤ b) = true)
  | [], _ => List.pairwise_singleton _ _
  | y :: l, h => by
    rw [insZ]
    have h' := List.pairwise_cons.1 h
    split
    · rename_i hxy
      refine List.pairwise_cons.2 ⟨fun z hz => ?_, h⟩
      rcases List.mem_cons.1 hz with rfl | hz
      · exact decide_eq_true hxy
      · have := of_decide_eq_true (h'.1 z hz)
        exact decide_eq_true (by omega)
    · rename_i hxy
      refine List.pairwise_cons.2 ⟨fun z hz => ?_, insZ_pw x h'.2⟩
      rcases List.mem_cons.1 ((insZ_perm x l).mem_iff.1 hz) with rfl | hz
      · exact decide_eq_true (by omega)
      · exact h'.1 z hz
theorem isortZ_pw : ∀ l, (isortZ l).Pairwise (fun a b => decide (a ≤ b) = true)
  | [] => .nil
  | x :: l => insZ_pw x (isortZ_pw l)
theorem isortZ_eq (l : List Int) : isortZ l = sortZ l := by
  refine List.Perm.eq_of_pairwise (le := fun a b => decide (a ≤ b) = true) (fun a b _ _ h1 h2 => by simp only [decide_eq_true_eq] at h1 h2; omega) (isortZ_pw l) ?_ ((isortZ_perm l).trans (List.mergeSort_perm l _).symm)
  exact List.pairwise_mergeSort (fun a b c h1 h2 => by simp at *; omega) (fun a b => by simp; omega) l
def spS (f : Nat) (args : List AV) (h : List AObj) : Option (AV × List AObj) := match Nat.beq f 27, args with
  | true, [.fn 38 [.ptr b 0]] => match h[b]? with
    | some (.box _ [.sl t lo len 1]) => match h[t]? with
      | some (.box _ cells) => match intsAt ((cells.drop lo).take len), Nat.ble (lo + len) cells.length && Nat.ble len 1000000 with
        | some zs, true => some (.pv (.rows (ivs (isortZ zs))), h)
        | _, _ => none
      | _ => none
    | _ => none
  | _, _ => none
set_option maxRecDepth 100000 in
theorem awake_run : evalF Try.prog okT tabT spS 100000 60 7 [] [] = some (.pv (.lit (.bool true)), []) := by kernel_rfl
end Go.Proofs.Ytkfdklocgpgbfaa
