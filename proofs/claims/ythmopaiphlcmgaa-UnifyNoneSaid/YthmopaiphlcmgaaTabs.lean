/- The tables for the abstract run: which slots are kept, which order is taken. Printed by tab.py. -/
import Derived.Test.YthmopaiphlcmgaaAb17
import Derived.Test.YthmopaiphlcmgaaProg
import Derived.KernelRfl
namespace Go.Proofs.Ythmopaiphlcmgaa
def keepT : Nat → List Nat
  | 6 => [1, 2, 0, 19, 4, 5, 33, 8, 34, 7, 42, 41, 43, 40, 10, 6]
  | 8 => [1, 0, 15, 4, 3, 19, 6, 31, 5]
  | 10 => [0, 20, 19, 21, 18, 5, 8, 9, 32, 7, 6, 50, 49, 51, 48, 12, 14, 64, 16, 73, 10, 15, 2, 3, 4]
  | 13 => [1, 0, 4, 2, 26, 6, 35, 34, 36, 33, 7, 8, 9]
  | 18 => [0, 8, 3, 13, 25, 5, 4, 32, 44, 2]
  | 22 => [0, 1, 14, 17, 16, 18, 15, 7, 2, 8, 9, 30, 6]
  | 23 => [0, 1, 2, 12, 11, 13, 10, 5]
  | 26 => [2, 1, 10, 23, 0, 3, 29, 8, 35, 12, 50, 11, 9, 68, 72, 87, 13, 15, 14, 16, 17, 113, 18]
  | 30 => [0, 8, 7, 9, 1, 5, 16, 4]
  | 31 => [1, 6, 2, 12, 7, 0, 30]
  | 32 => [1, 2, 8, 9, 19, 0, 6, 10, 30, 7]
  | 33 => [2, 1, 6, 15, 9, 33, 7, 8, 10, 43, 0]
  | 35 => [1, 2, 6, 7, 13, 0]
  | 36 => [1, 8, 14, 7, 2, 0, 32, 37, 41, 61, 9, 65, 78, 98, 10, 103, 116, 6]
  | 38 => [0, 1, 3, 2, 9, 10, 43, 59, 64, 8]
  | 39 => [0, 1, 3, 2, 10, 11, 43, 60, 65, 112, 129, 134, 8, 9]
  | 42 => [0, 8, 7, 9, 1, 5, 16, 4]
  | 43 => [1, 8, 9, 2, 16, 0, 3, 36, 52]
  | _ => []
def sd3 : Nat → List (Nat × Bool)
  | 5 => [(0, true), (1, true), (2, true), (3, false), (4, true), (5, true), (6, true), (7, true), (8, true), (9, true), (10, true), (11, true), (12, true), (16, true), (17, true), (21, true), (13, false), (14, true), (15, true), (18, false), (19, true), (20, true), (22, false), (23, true), (24, true), (25, true), (26, true)]
  | _ => []
def sd4 : Nat → List (Nat × Bool)
  | 2 => [(1, true), (6, true), (0, false), (2, false), (3, false), (4, true), (5, false), (7, true), (8, false), (9, false), (10, true), (11, true), (12, true), (13, true), (14, true), (15, true), (16, true)]
  | _ => []
def sd8 : Nat → List (Nat × Bool)
  | 4 => [(0, true), (1, true), (2, true), (3, true), (4, true), (5, true), (6, true), (7, true), (8, true), (9, true), (10, false), (11, false), (12, true)]
  | _ => []
def sd10 : Nat → List (Nat × Bool)
  | 9 => [(0, true), (1, true), (2, true), (5, true), (6, true), (3, false), (4, false), (7, false), (8, false), (9, true)]
  | _ => []
def sd14 : Nat → List (Nat × Bool)
  | 1 => [(0, true), (1, true), (3, true), (4, true), (2, false), (5, false), (6, false), (7, false)]
  | _ => []
def sd18 : Nat → List (Nat × Bool)
  | 6 => [(0, true), (1, true), (2, true), (3, true), (4, true), (5, true), (6, true), (7, true), (8, true), (9, true)]
  | 11 => [(0, true), (1, true), (2, true), (3, true), (4, true), (5, true), (6, true), (7, true), (8, true), (9, true)]
  | _ => []
def sd21 : Nat → List (Nat × Bool)
  | 1 => [(0, true), (1, true), (2, true), (3, true), (4, true), (5, true), (6, false)]
  | 2 => [(0, true), (1, true), (2, true), (3, true), (4, true), (5, true), (6, true), (7, true), (8, true), (9, true), (10, true), (11, true), (12, true), (13, true), (14, true), (15, true), (16, true), (17, false), (18, false), (19, true), (20, true), (21, false)]
  | _ => []
def sd26 : Nat → List (Nat × Bool)
  | 17 => [(0, true), (1, true), (2, true), (3, true), (4, true), (5, true), (6, true), (7, true), (8, true), (9, true), (10, true), (11, true), (12, false), (13, true), (14, true)]
  | _ => []
def sd31 : Nat → List (Nat × Bool)
  | 4 => [(0, true), (1, true), (2, true), (3, true), (4, true), (5, true), (6, true), (7, true), (8, true), (9, true), (10, true), (11, true), (12, true), (13, false), (14, true)]
  | 6 => [(0, true), (1, true), (2, true), (3, true), (4, true), (5, true), (6, true), (7, true), (8, true), (9, true), (10, true), (11, true), (12, true), (13, true), (14, true), (15, false), (16, true), (17, false)]
  | _ => []
def sd32 : Nat → List (Nat × Bool)
  | 10 => [(0, true), (1, true), (2, true), (3, true), (4, true), (5, true), (6, true), (7, true), (8, true), (9, true), (10, true), (11, true), (12, true), (13, true), (14, true), (15, true), (16, true), (17, false), (18, true), (19, false)]
  | _ => []
def sd33 : Nat → List (Nat × Bool)
  | 10 => [(0, true), (1, true), (2, true), (3, true), (4, true), (5, true), (6, true), (7, true), (8, true), (9, true), (10, true), (11, true), (12, true), (13, true), (14, true), (15, true), (16, true), (17, false), (18, true), (19, false)]
  | _ => []
def sd35 : Nat → List (Nat × Bool)
  | 3 => [(0, true), (1, true), (2, true), (3, true), (4, true), (5, true), (6, true), (7, true), (8, true), (9, true), (10, true), (11, true), (12, true), (13, false), (14, true), (15, false)]
  | _ => []
def sd36 : Nat → List (Nat × Bool)
  | 5 => [(0, true), (1, true), (2, true), (3, true), (4, true), (5, true), (6, true), (7, true), (8, true), (9, true), (10, true), (11, true), (12, true), (13, false), (14, true), (15, true)]
  | 11 => [(0, true), (1, true), (2, true), (3, true), (4, true), (5, true), (6, true), (7, true), (8, true), (9, true), (10, true), (11, true), (12, true), (13, true), (14, true), (15, false), (16, true), (17, false)]
  | 16 => [(0, true), (1, true), (2, true), (3, true), (4, true), (5, true), (6, true), (7, true), (8, true), (9, false), (10, true)]
  | 17 => [(0, true), (1, true), (2, true), (3, true), (4, true), (5, true), (6, true), (7, true), (8, true), (9, true), (10, true), (11, true), (12, true), (13, true), (14, true), (15, false), (16, true), (17, false)]
  | 22 => [(0, true), (1, true), (2, true), (3, true), (4, true), (5, true), (6, true), (7, true), (8, true), (9, false), (10, true)]
  | 23 => [(0, true), (1, true), (2, true), (3, true), (4, true), (5, true), (6, true), (7, true), (8, true), (9, true), (10, true), (11, true), (12, true), (13, true), (14, true), (15, false), (16, true), (17, false)]
  | _ => []
def sd38 : Nat → List (Nat × Bool)
  | 1 => [(0, true), (1, true), (2, true), (3, true), (4, true), (5, true), (6, true), (7, true), (8, true), (9, true), (10, true), (11, true), (12, true), (13, false), (14, true), (15, false)]
  | 3 => [(0, true), (1, true), (2, true), (3, true), (4, true), (5, true), (6, true), (7, true), (8, true), (9, true), (10, true), (11, true), (12, false), (13, true), (14, true)]
  | 5 => [(0, true), (1, true), (2, true), (3, true), (4, true), (5, true), (6, true), (7, true), (8, true), (9, true), (10, true), (11, true), (12, false), (13, true)]
  | 8 => [(0, true), (1, true), (2, true), (3, true), (4, true), (5, true), (6, true), (7, true), (8, true), (9, true), (10, true), (11, true), (12, true), (13, false), (14, true), (15, false)]
  | _ => []
def sd39 : Nat → List (Nat × Bool)
  | 1 => [(0, true), (1, true), (2, true), (3, true), (4, true), (5, true), (6, true), (7, true), (8, true), (9, true), (10, true), (11, true), (12, true), (13, false), (14, true), (15, false)]
  | 3 => [(0, true), (1, true), (2, true), (3, true), (4, true), (5, true), (6, true), (7, true), (8, true), (9, true), (10, true), (11, true), (12, false), (13, true)]
  | 5 => [(0, true), (1, true), (2, true), (3, true), (4, true), (5, true), (6, true), (7, true), (8, true), (9, true), (10, true), (11, true), (12, false), (13, true), (14, true)]
  | 8 => [(0, true), (1, true), (2, true), (3, true), (4, true), (5, true), (6, true), (7, true), (8, true), (9, true), (10, true), (11, true), (12, true), (13, false), (14, true), (15, false)]
  | 10 => [(0, true), (1, true), (2, true), (3, true), (4, true), (5, true), (6, true), (7, true), (8, true), (9, true), (10, true), (11, true), (12, true), (13, false), (14, true), (15, false)]
  | 13 => [(0, true), (1, true), (2, true), (3, true), (4, true), (5, true), (6, true), (7, true), (8, true), (9, true), (10, true), (11, true), (12, false), (13, true)]
  | 15 => [(0, true), (1, true), (2, true), (3, true), (4, true), (5, true), (6, true), (7, true), (8, true), (9, true), (10, true), (11, true), (12, false), (13, true), (14, true)]
  | 18 => [(0, true), (1, true), (2, true), (3, true), (4, true), (5, true), (6, true), (7, true), (8, true), (9, true), (10, true), (11, true), (12, true), (13, false), (14, true), (15, false)]
  | 21 => [(0, true), (1, true), (2, true), (3, true), (4, true), (5, true), (6, true), (7, true), (8, true), (9, true), (10, true), (11, true), (12, true), (13, false), (14, true), (15, false)]
  | _ => []
def sd43 : Nat → List (Nat × Bool)
  | 3 => [(0, true), (1, true), (2, true), (3, true), (4, true), (5, true), (6, true), (7, true), (8, true), (9, true), (10, true), (11, true), (12, true), (13, true), (14, true), (15, true), (16, true), (17, true), (18, false), (19, true)]
  | 5 => [(0, true), (1, true), (2, true), (3, true), (4, true), (5, true), (6, true), (7, true), (8, true), (9, true), (10, true), (11, true), (12, false), (13, true)]
  | 6 => [(0, true), (1, true), (2, true), (3, true), (4, true), (5, true), (6, true), (7, true), (8, true), (9, true), (10, true), (11, true), (12, true), (13, true), (14, true), (15, true), (16, true), (17, true), (18, true), (19, true), (20, true), (21, false), (22, true), (23, false)]
  | _ => []
def sd45 : Nat → List (Nat × Bool)
  | 1 => [(0, true), (1, true), (2, true), (3, true), (4, true), (5, true), (6, true), (7, true), (8, true), (9, false)]
  | 2 => [(0, true), (1, true), (2, true), (3, true), (4, true), (5, true), (6, true), (7, true), (8, true), (9, false)]
  | 3 => [(0, true), (1, true), (2, true), (3, true), (4, true), (5, true), (6, true), (7, true), (8, true), (9, false)]
  | _ => []
def sd49 : Nat → List (Nat × Bool)
  | 1 => [(0, true), (1, true), (2, true), (3, true), (4, true), (5, true), (6, true), (7, true), (8, false)]
  | _ => []
def sdT : Nat → Nat → List (Nat × Bool)
  | 3 => sd3
  | 4 => sd4
  | 8 => sd8
  | 10 => sd10
  | 14 => sd14
  | 18 => sd18
  | 21 => sd21
  | 26 => sd26
  | 31 => sd31
  | 32 => sd32
  | 33 => sd33
  | 35 => sd35
  | 36 => sd36
  | 38 => sd38
  | 39 => sd39
  | 43 => sd43
  | 45 => sd45
  | 49 => sd49
  | _ => fun _ => []
def tabT (f : Nat) : FT := { keep := keepT f, sd := sdT f }
def okT (f : Nat) : Bool := ([2, 3, 4, 5, 6, 7, 8, 9, 10, 11, 12, 13, 14, 15, 16, 17, 18, 19, 20, 21, 22, 23, 24, 25, 26, 27, 28, 29, 30, 31, 32, 33, 34, 35, 36, 37, 38, 39, 40, 41, 42, 43, 44, 45, 46, 47, 48, 49] : List Nat).elem f
set_option maxRecDepth 100000 in
theorem funcs_size : Try.prog.funcs.size = 66 := by kernel_rfl
set_option maxRecDepth 100000 in
theorem tab_all : (List.range 66).all (funcOk Try.prog tabT) = true := by kernel_rfl
set_option maxRecDepth 100000 in
theorem ok_all : (List.range 66).all (fun f => !okT f || callable Try.prog f) = true := by kernel_rfl
theorem okT_last : ∀ f, 66 ≤ f → okT f = false := by
  intro f hf
  unfold okT
  simp
  omega
theorem okT_ok : ∀ f, okT f = true → callable Try.prog f = true := okf_of okT_last ok_all
theorem tabT_ok : tabsOk Try.prog tabT := tabsOk_of funcs_size tab_all
theorem mixed : Try.prog.follows .mixedOrders = true := by kernel_rfl
end Go.Proofs.Ythmopaiphlcmgaa
