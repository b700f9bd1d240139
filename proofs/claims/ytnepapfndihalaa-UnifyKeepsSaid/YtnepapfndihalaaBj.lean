/- Joined texts. -/
import Derived.Test.YtnepapfndihalaaBc
import Derived.Test.YtnepapfndihalaaProg
import Derived.KernelRfl
import Derived.Test.YtnepapfndihalaaUy0
set_option linter.unusedVariables false
set_option linter.unusedSimpArgs false
set_option linter.unusedSectionVars false
namespace Go.Proofs.Ytnepapfndihalaa
def keepT : Nat → List Nat
  | 3 => [19, 0, 1, 32, 35, 34, 36, 33, 5, 7, 10, 13, 65, 9, 12, 8, 11, 82, 85, 84, 86, 14, 112, 17, 4]
  | 4 => [21, 0, 1, 32, 37, 36, 38, 5, 8, 7, 57, 61, 60, 62, 59, 10, 6, 12, 11, 86, 13, 97, 98, 106, 105, 107, 104, 15, 17, 117, 16, 18, 19, 157, 4]
  | 6 => [0, 7, 6, 8, 5, 4, 32, 2]
  | 7 => [0, 20, 19, 21, 18, 5, 8, 9, 32, 7, 6, 50, 49, 51, 48, 12, 14, 64, 16, 73, 10, 15, 2, 3, 4]
  | 12 => [1, 2, 0, 19, 4, 5, 33, 8, 34, 7, 42, 41, 43, 40, 10, 6]
  | 14 => [1, 2, 0, 13, 4, 5, 7, 8, 31, 37, 52, 57, 65, 97, 9, 102, 117, 6]
  | 16 => [1, 3, 10, 5, 0, 14, 24, 4, 7, 34, 6]
  | 17 => [1, 0, 15, 4, 3, 19, 6, 31, 5]
  | 20 => [0, 1, 18, 22, 21, 23, 20, 4, 28, 2]
  | 24 => [0, 8, 3, 13, 25, 5, 4, 32, 44, 2]
  | 25 => [0, 1, 10, 5, 14, 26, 4]
  | 28 => [5, 0, 9, 1, 17, 4]
  | 29 => [0, 1, 5, 3, 11, 4, 29, 2]
  | 30 => [2, 1, 5, 7, 0, 25, 6]
  | 31 => [1, 0, 4, 2, 26, 6, 35, 34, 36, 33, 7, 8, 9]
  | 33 => [0, 2, 20, 1, 6, 5, 31, 4]
  | 34 => [0, 1, 2, 12, 11, 13, 10, 5]
  | 37 => [2, 1, 10, 23, 0, 3, 29, 8, 35, 12, 50, 11, 9, 68, 72, 87, 13, 15, 14, 16, 17, 113, 18]
  | 42 => [0, 1, 14, 17, 16, 18, 15, 7, 2, 8, 9, 30, 6]
  | 43 => [0, 6, 2, 5, 1, 16, 4]
  | 44 => [0, 1, 4, 11, 3, 2]
  | 45 => [0, 8, 7, 9, 1, 5, 16, 4]
  | 46 => [1, 6, 2, 12, 7, 0, 30]
  | 47 => [1, 2, 8, 9, 19, 0, 6, 10, 30, 7]
  | 48 => [2, 1, 6, 15, 9, 33, 7, 8, 10, 43, 0]
  | 50 => [1, 2, 6, 7, 13, 0]
  | 51 => [1, 8, 14, 7, 2, 0, 32, 37, 41, 61, 9, 65, 78, 98, 10, 103, 116, 6]
  | 53 => [0, 1, 3, 2, 9, 10, 43, 59, 64, 8]
  | 54 => [0, 1, 3, 2, 10, 11, 43, 60, 65, 112, 129, 134, 8, 9]
  | 59 => [1, 8, 9, 2, 16, 0, 3, 36, 52]
  | 65 => [0, 8, 7, 9, 1, 5, 16, 4]
  | _ => []
def sd3 : Nat → List (Nat × Bool)
  | 20 => [(0, true), (1, true), (2, true), (3, true), (4, true), (5, true), (6, true), (7, true), (8, true), (9, true), (10, true), (11, true), (12, true), (13, true), (14, true), (15, true), (16, true), (17, true), (18, true), (19, true), (20, true), (21, true), (22, false), (23, true), (24, true)]
  | _ => []
def sd4 : Nat → List (Nat × Bool)
  | 31 => []
  | _ => []
def sd5 : Nat → List (Nat × Bool)
  | 2 => [(1, true), (6, true), (0, false), (2, false), (3, false), (4, true), (5, false), (7, true), (8, false), (9, false), (10, true), (11, true), (12, true), (13, true), (14, true), (15, true), (16, true)]
  | _ => []
def sd7 : Nat → List (Nat × Bool)
  | 9 => [(0, true), (1, true), (2, true), (5, true), (6, true), (3, false), (4, false), (7, false), (8, false), (9, true)]
  | _ => []
def sd13 : Nat → List (Nat × Bool)
  | 2 => [(0, true), (1, true), (2, true), (3, true), (4, true), (6, true), (7, true), (8, true), (9, true), (5, false), (10, true), (11, false), (12, true)]
  | _ => []
def sd14 : Nat → List (Nat × Bool)
  | 3 => []
  | 4 => []
  | 11 => [(0, true), (2, true), (3, true), (1, false), (4, false)]
  | 22 => [(0, true), (1, true), (2, true), (3, true), (4, true), (5, true), (6, true), (7, true), (8, true), (9, true), (10, true), (11, false), (12, true)]
  | _ => []
def sd16 : Nat → List (Nat × Bool)
  | 5 => [(0, true), (1, true), (2, true), (3, true), (4, true), (5, true), (6, true), (7, true)]
  | _ => []
def sd17 : Nat → List (Nat × Bool)
  | 4 => [(0, true), (1, true), (2, true), (3, true), (4, true), (5, true), (6, true), (7, true), (8, true), (9, true), (10, false), (11, false), (12, true)]
  | _ => []
def sd24 : Nat → List (Nat × Bool)
  | 6 => [(0, true), (1, true), (2, true), (3, true), (4, true), (5, true), (6, true), (7, true), (8, true), (9, true)]
  | 11 => [(0, true), (1, true), (2, true), (3, true), (4, true), (5, true), (6, true), (7, true), (8, true), (9, true)]
  | _ => []
def sd25 : Nat → List (Nat × Bool)
  | 6 => [(0, true), (1, true), (2, true), (3, true), (4, true), (5, true), (6, true), (7, true), (8, false), (9, true)]
  | _ => []
def sd26 : Nat → List (Nat × Bool)
  | 1 => [(0, true), (1, true), (3, true), (4, true), (2, false), (5, false), (6, false), (7, false)]
  | _ => []
def sd30 : Nat → List (Nat × Bool)
  | 5 => [(0, true), (1, true), (2, true), (3, true), (4, true), (5, true), (6, true), (7, true), (8, true), (9, true), (10, true), (11, true), (12, true), (13, true), (14, true), (15, true), (16, true), (17, true), (18, true), (19, true), (20, true), (21, true), (22, false), (23, true), (24, true), (25, false)]
  | 7 => [(0, true), (1, true), (2, true), (3, true), (4, true), (5, true), (6, true), (7, true), (8, false), (9, false), (10, true), (11, true), (12, false)]
  | _ => []
def sd37 : Nat → List (Nat × Bool)
  | 17 => [(0, true), (1, true), (2, true), (3, true), (4, true), (5, true), (6, true), (7, true), (8, true), (9, true), (10, true), (11, true), (12, false), (13, true), (14, true)]
  | _ => []
def sd41 : Nat → List (Nat × Bool)
  | 1 => [(0, true), (1, true), (2, true), (3, true), (4, true), (5, true), (6, false)]
  | 2 => [(0, true), (1, true), (2, true), (3, true), (4, true), (5, true), (6, true), (7, true), (8, true), (9, true), (10, true), (11, true), (12, true), (13, true), (14, true), (15, true), (16, true), (17, false), (18, false), (19, true), (20, true), (21, false)]
  | _ => []
def sd46 : Nat → List (Nat × Bool)
  | 4 => [(0, true), (1, true), (2, true), (3, true), (4, true), (5, true), (6, true), (7, true), (8, true), (9, true), (10, true), (11, true), (12, true), (13, false), (14, true)]
  | 6 => [(0, true), (1, true), (2, true), (3, true), (4, true), (5, true), (6, true), (7, true), (8, true), (9, true), (10, true), (11, true), (12, true), (13, true), (14, true), (15, false), (16, true), (17, false)]
  | _ => []
def sd47 : Nat → List (Nat × Bool)
  | 10 => [(0, true), (1, true), (2, true), (3, true), (4, true), (5, true), (6, true), (7, true), (8, true), (9, true), (10, true), (11, true), (12, true), (13, true), (14, true), (15, true), (16, true), (17, false), (18, true), (19, false)]
  | _ => []
def sd48 : Nat → List (Nat × Bool)
  | 10 => [(0, true), (1, true), (2, true), (3, true), (4, true), (5, true), (6, true), (7, true), (8, true), (9, true), (10, true), (11, true), (12, true), (13, true), (14, true), (15, true), (16, true), (17, false), (18, true), (19, false)]
  | _ => []
def sd50 : Nat → List (Nat × Bool)
  | 3 => [(0, true), (1, true), (2, true), (3, true), (4, true), (5, true), (6, true), (7, true), (8, true), (9, true), (10, true), (11, true), (12, true), (13, false), (14, true), (15, false)]
  | _ => []
def sd51 : Nat → List (Nat × Bool)
  | 5 => [(0, true), (1, true), (2, true), (3, true), (4, true), (5, true), (6, true), (7, true), (8, true), (9, true), (10, true), (11, true), (12, true), (13, false), (14, true), (15, true)]
  | 11 => [(0, true), (1, true), (2, true), (3, true), (4, true), (5, true), (6, true), (7, true), (8, true), (9, true), (10, true), (11, true), (12, true), (13, true), (14, true), (15, false), (16, true), (17, false)]
  | 16 => [(0, true), (1, true), (2, true), (3, true), (4, true), (5, true), (6, true), (7, true), (8, true), (9, false), (10, true)]
  | 17 => [(0, true), (1, true), (2, true), (3, true), (4, true), (5, true), (6, true), (7, true), (8, true), (9, true), (10, true), (11, true), (12, true), (13, true), (14, true), (15, false), (16, true), (17, false)]
  | 22 => [(0, true), (1, true), (2, true), (3, true), (4, true), (5, true), (6, true), (7, true), (8, true), (9, false), (10, true)]
  | 23 => [(0, true), (1, true), (2, true), (3, true), (4, true), (5, true), (6, true), (7, true), (8, true), (9, true), (10, true), (11, true), (12, true), (13, true), (14, true), (15, false), (16, true), (17, false)]
  | _ => []
def sd53 : Nat → List (Nat × Bool)
  | 1 => [(0, true), (1, true), (2, true), (3, true), (4, true), (5, true), (6, true), (7, true), (8, true), (9, true), (10, true), (11, true), (12, true), (13, false), (14, true), (15, false)]
  | 3 => [(0, true), (1, true), (2, true), (3, true), (4, true), (5, true), (6, true), (7, true), (8, true), (9, true), (10, true), (11, true), (12, false), (13, true), (14, true)]
  | 5 => [(0, true), (1, true), (2, true), (3, true), (4, true), (5, true), (6, true), (7, true), (8, true), (9, true), (10, true), (11, true), (12, false), (13, true)]
  | 8 => [(0, true), (1, true), (2, true), (3, true), (4, true), (5, true), (6, true), (7, true), (8, true), (9, true), (10, true), (11, true), (12, true), (13, false), (14, true), (15, false)]
  | _ => []
def sd54 : Nat → List (Nat × Bool)
  | 1 => [(0, true), (1, true), (2, true), (3, true), (4, true), (5, true), (6, true), (7, true), (8, true), (9, true), (10, true), (11, true), (12, true), (13, false), (14, true), (15, false)]
  | 3 => [(0, true), (1, true), (2, true), (3, true), (4, true), (5, true), (6, true), (7, true), (8, true), (9, true), (10, true), (11, true), (12, false), (13, true)]
  | 5 => [(0, true), (1, true), (2, true), (3, true), (4, true), (5, true), (6, true), (7, true), (8, true), (9, true), (10, true), (11, true), (12, false), (13, true), (14, true)]
  | 8 => [(0, true), (1, true), (2, true), (3, true), (4, true), (5, true), (6, true), (7, true), (8, true), (9, true), (10, true), (11, true), (12, true), (13, false), (14, true), (15, false)]
  | 10 => [(0, true), (1, true), (2, true), (3, true), (4, true), (5, true), (6, true), (7, true), (8, true), (9, true), (10, true), (11, true), (12, true), (13, false), (14, true), (15, false)]
  | 13 => [(0, true), (1, true), (2, true), (3, true), (4, true), (5, true), (6, true), (7, true), (8, true), (9, true), (10, true), (11, true), (12, false), (13, true)]
  | 15 => [(0, true), (1, true), (2, true), (3, true), (4, true), (5, true), (6, true), (7, true), (8, true), (9, true), (10, true), (11, true), (12, false), (13, true), (14, true)]
  | 18 => [(0, true), (1, true), (2, true), (3, true), (4, true), (5, true), (6, true), (7, true), (8, true), (9, true), (10, true), (11, true), (12, true), (13, false), (14, true), (15, false)]
  | 21 => [(0, true), (1, true), (2, true), (3, true), (4, true), (5, true), (6, true), (7, true), (8, true), (9, true), (10, true), (11, true), (12, true), (13, false), (14, true), (15, false)]
  | _ => []
def sd59 : Nat → List (Nat × Bool)
  | 3 => [(0, true), (1, true), (2, true), (3, true), (4, true), (5, true), (6, true), (7, true), (8, true), (9, true), (10, true), (11, true), (12, true), (13, true), (14, true), (15, true), (16, true), (17, true), (18, false), (19, true)]
  | 5 => [(0, true), (1, true), (2, true), (3, true), (4, true), (5, true), (6, true), (7, true), (8, true), (9, true), (10, true), (11, true), (12, false), (13, true)]
  | 6 => [(0, true), (1, true), (2, true), (3, true), (4, true), (5, true), (6, true), (7, true), (8, true), (9, true), (10, true), (11, true), (12, true), (13, true), (14, true), (15, true), (16, true), (17, true), (18, true), (19, true), (20, true), (21, false), (22, true), (23, false)]
  | _ => []
def sd61 : Nat → List (Nat × Bool)
  | 1 => [(0, true), (1, true), (2, true), (3, true), (4, true), (5, true), (6, true), (7, true), (8, true), (9, false)]
  | 2 => [(0, true), (1, true), (2, true), (3, true), (4, true), (5, true), (6, true), (7, true), (8, true), (9, false)]
  | 3 => [(0, true), (1, true), (2, true), (3, true), (4, true), (5, true), (6, true), (7, true), (8, true), (9, false)]
  | _ => []
def sd66 : Nat → List (Nat × Bool)
  | 1 => [(0, true), (1, true), (2, true), (3, true), (4, true), (5, true), (6, true), (7, true), (8, false)]
  | _ => []
def sdT : Nat → Nat → List (Nat × Bool)
  | 3 => sd3
  | 4 => sd4
  | 5 => sd5
  | 7 => sd7
  | 13 => sd13
  | 14 => sd14
  | 16 => sd16
  | 17 => sd17
  | 24 => sd24
  | 25 => sd25
  | 26 => sd26
  | 30 => sd30
  | 37 => sd37
  | 41 => sd41
  | 46 => sd46
  | 47 => sd47
  | 48 => sd48
  | 50 => sd50
  | 51 => sd51
  | 53 => sd53
  | 54 => sd54
  | 59 => sd59
  | 61 => sd61
  | 66 => sd66
  | _ => fun _ => []
def sx4 : Nat → Option (Sch × List Nat)
  | 31 => some (.look 0 (.look 1 (.look 2 (.look 3 (.look 4 (.eff (.cons 5 (.eff (.cons 6 (.eff (.cons 7 (.done) (.nil))) (.nil))) (.cons 6 (.eff (.cons 5 (.eff (.cons 7 (.done) (.nil))) (.nil))) (.nil)))))))), [5, 15, 17, 16, 18, 106, 105, 104, 6, 61, 60, 59, 1])
  | _ => none
def sx14 : Nat → Option (Sch × List Nat)
  | 3 => some (.look 0 (.look 1 (.look 2 (.look 3 (.look 4 (.eff (.cons 5 (.eff (.cons 6 (.eff (.cons 7 (.done) (.nil))) (.nil))) (.cons 6 (.eff (.cons 5 (.eff (.cons 7 (.done) (.nil))) (.nil))) (.nil)))))))), [0, 5, 7])
  | 4 => some (.look 0 (.look 1 (.look 2 (.look 3 (.look 4 (.eff (.cons 5 (.eff (.cons 6 (.eff (.cons 7 (.done) (.nil))) (.nil))) (.cons 6 (.eff (.cons 5 (.eff (.cons 7 (.done) (.nil))) (.nil))) (.nil)))))))), [7, 8, 0])
  | _ => none
def sxT : Nat → Nat → Option (Sch × List Nat)
  | 4 => sx4
  | 14 => sx14
  | _ => fun _ => none
def rsT : Nat → List Nat
  | _ => []
def dfT (f : Nat) : Bool := ([] : List Nat).elem f
def tabT (f : Nat) : FT := { keep := keepT f, sd := sdT f, sx := sxT f, rs := rsT f, df := dfT f }
def okT (f : Nat) : Bool := ([2, 3, 4, 5, 6, 7, 8, 9, 10, 11, 12, 13, 14, 15, 16, 17, 18, 19, 20, 21, 22, 23, 24, 25, 26, 27, 28, 29, 30, 31, 32, 33, 34, 35, 36, 37, 38, 39, 40, 41, 42, 43, 44, 45, 46, 47, 48, 49, 50, 51, 52, 53, 54, 55, 56, 57, 58, 59, 60, 61, 62, 63, 64, 65, 66] : List Nat).elem f
set_option maxRecDepth 100000 in
theorem funcs_size : Try.prog.funcs.size = 83 := by kernel_rfl
theorem all_more (p : Nat → Bool) (a b : Nat) (h : (List.range a).all p = true) (h2 : (List.range b).all (fun i => p (a + i)) = true) : (List.range (a + b)).all p = true := by
  rw [List.range_add, List.all_append, h, List.all_map]
  exact h2
set_option maxRecDepth 100000 in
theorem tab_0 : (List.range 32).all (fun i => funcOk Try.prog tabT (0 + i)) = true := by kernel_rfl
set_option maxRecDepth 100000 in
theorem tab_1 : (List.range 32).all (fun i => funcOk Try.prog tabT (32 + i)) = true := by kernel_rfl
set_option maxRecDepth 100000 in
theorem tab_2 : (List.range 19).all (fun i => funcOk Try.prog tabT (64 + i)) = true := by kernel_rfl
theorem tab_all : (List.range 83).all (funcOk Try.prog tabT) = true := by
  have h0 : (List.range 32).all (funcOk Try.prog tabT) = true := by simpa using tab_0
  have h1 := all_more (funcOk Try.prog tabT) 32 32 h0 tab_1
  have h2 := all_more (funcOk Try.prog tabT) 64 19 h1 tab_2
  exact h2
set_option maxRecDepth 100000 in
theorem ok_all : (List.range 83).all (fun f => !okT f || callable Try.prog f) = true := by kernel_rfl
theorem elem_lt (n : Nat) (L : List Nat) (h : L.all (fun x => Nat.blt x n) = true) (f : Nat) (hf : n ≤ f) : L.elem f = false := by
  cases he : L.elem f with
  | false => rfl
  | true =>
    have hm : f ∈ L := List.mem_of_elem_eq_true he
    have h1 := List.all_eq_true.1 h f hm
    have h2 : f + 1 ≤ n := Nat.le_of_ble_eq_true h1
    omega
set_option maxRecDepth 100000 in
theorem okT_last : ∀ f, 83 ≤ f → okT f = false := fun f hf => elem_lt 83 _ (by kernel_rfl) f hf
theorem okT_ok : ∀ f, okT f = true → callable Try.prog f = true := okf_of okT_last ok_all
theorem tabT_ok : tabsOk Try.prog tabT := tabsOk_of funcs_size tab_all
end Go.Proofs.Ytnepapfndihalaa
namespace Go.Proofs.Ytnepapfndihalaa
open Go.RowKit
def spN (_ : Nat) (_ : List AV) (_ : List AObj) : Option (AV × List AObj) := none
set_option maxRecDepth 100000 in
theorem awake_run : evalF Try.prog okT tabT spN 100000 60 5 [] [] = some (.pv (.lit (.bool true)), []) := by kernel_rfl
theorem awake_sem : Sem Try.prog 5 [] [] (.pv (bv true)) [] := fun R => evalF_sound (fun _ _ _ _ _ h => by cases h) okT_ok tabT_ok (fun _ => rfl) mixed 60 _ _ _ _ _ awake_run
end Go.Proofs.Ytnepapfndihalaa
