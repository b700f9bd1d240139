/- The tables for the abstract run: which slots are kept, which order is taken. Printed by tab.py. -/
import Derived.Test.YtfekieopkahcfaaAb17
import Derived.Test.YtfekieopkahcfaaProg
import Derived.KernelRfl
namespace Go.Proofs.Ytfekieopkahcfaa
def keepT : Nat → List Nat
  | 3 => [11, 0, 14, 3, 5, 4, 29, 37, 36, 38, 9, 83, 90, 6, 97, 7, 8, 2]
  | 5 => [7, 8, 6, 3, 1, 2, 4, 0]
  | 6 => [6, 5, 7, 4, 1, 3, 0]
  | 7 => [4, 2, 14, 3, 5, 40, 8, 43, 1, 0]
  | 8 => [8, 7, 9, 6, 5, 0, 15, 2, 3]
  | 12 => [0, 1, 6, 4, 3, 2]
  | 17 => [0, 1, 10, 5, 14, 25, 4]
  | 18 => [0, 1, 10, 5, 14, 26, 4]
  | 24 => [0, 1, 2, 12, 11, 13, 10, 5]
  | 28 => [0, 9, 2, 3, 18, 4, 30, 41]
  | 31 => [0, 1, 10, 5, 14, 26, 4]
  | 33 => [0, 8, 7, 9, 1, 5, 16, 4]
  | 34 => [0, 13, 5, 17, 7, 24, 10, 33, 6, 8, 9, 2, 3, 4]
  | 41 => [3, 0, 8, 4, 13, 2]
  | 42 => [1, 0, 20, 24, 34, 4]
  | 43 => [0, 1, 7, 23, 11, 32, 8, 4, 9, 10, 40, 13, 12, 54, 15, 66, 14, 85, 90, 16, 99, 109, 113, 116, 120, 124, 5, 6]
  | 45 => [0, 1, 5, 16, 22, 30, 38, 6, 50, 9, 53, 10, 67, 7, 8, 87, 4]
  | 47 => [1, 8, 0, 15, 9, 22, 7, 28, 30, 36, 42, 44, 46, 4, 5, 6]
  | 49 => [1, 0, 2, 40, 6]
  | 50 => [0, 4, 17, 5, 37, 6, 42, 54, 8, 59, 7, 71, 77, 2, 3]
  | 56 => [5, 0, 9, 1, 16, 4]
  | 59 => [5, 1, 9, 0, 17, 4]
  | _ => []
def sd3 : Nat → List (Nat × Bool)
  | 14 => [(0, true), (1, true), (2, true), (3, true), (4, true), (5, true), (6, true), (7, true), (8, false), (9, true), (10, true), (11, true), (12, true), (13, true), (14, true), (15, true), (16, true), (17, true), (18, true), (19, true), (20, true), (21, true), (22, true), (23, true), (24, true), (25, true), (26, true), (27, true), (28, true), (29, true), (30, true), (31, true), (32, true), (33, true), (34, true), (35, true), (36, true), (37, true), (38, true), (39, true), (40, true), (41, false), (42, true), (43, true)]
  | 18 => [(0, true), (1, true), (2, true), (3, true), (4, true), (5, false), (6, true)]
  | _ => []
def sd5 : Nat → List (Nat × Bool)
  | 6 => [(0, true), (1, true), (2, true), (3, true), (4, true), (5, true), (6, true), (7, true), (8, true), (10, true), (11, true), (9, false), (12, true), (13, true), (14, false), (15, false), (16, true)]
  | _ => []
def sd7 : Nat → List (Nat × Bool)
  | 8 => [(0, true), (1, true), (2, true), (3, true), (4, true), (5, true), (6, true), (7, true), (8, true), (9, false), (10, false)]
  | _ => []
def sd11 : Nat → List (Nat × Bool)
  | 5 => [(0, true), (1, true), (2, true), (5, true), (6, true), (7, true), (10, true), (11, true), (12, true), (15, true), (16, true), (17, true), (20, true), (21, true), (22, true), (25, true), (26, true), (27, true), (30, true), (31, true), (32, true), (35, true), (36, true), (37, true), (40, true), (41, true), (42, true), (45, true), (46, true), (47, true), (50, true), (51, true), (54, true), (55, true), (58, true), (59, true), (62, true), (63, true), (66, true), (67, true), (70, true), (71, true), (74, true), (75, true), (76, true), (3, false), (4, true), (8, false), (9, true), (13, false), (14, true), (18, false), (19, true), (23, false), (24, true), (28, false), (29, true), (33, false), (34, true), (38, false), (39, true), (43, false), (44, true), (48, false), (49, true), (52, false), (53, true), (56, false), (57, true), (60, false), (61, true), (64, false), (65, true), (68, false), (69, true), (72, false), (73, true), (77, false), (78, false), (79, true), (80, true), (81, false)]
  | _ => []
def sd12 : Nat → List (Nat × Bool)
  | 5 => [(0, true), (1, true), (2, true), (3, false)]
  | _ => []
def sd16 : Nat → List (Nat × Bool)
  | 5 => [(0, true), (1, true), (2, true), (3, true), (4, true), (5, true), (6, true), (7, true), (8, true), (9, false), (10, true), (11, true)]
  | _ => []
def sd17 : Nat → List (Nat × Bool)
  | 6 => [(0, true), (1, true), (2, true), (3, true), (4, true), (5, true), (6, true), (7, true), (8, true)]
  | _ => []
def sd18 : Nat → List (Nat × Bool)
  | 6 => [(0, true), (1, true), (2, true), (3, true), (4, true), (5, true), (6, true), (7, true), (8, false), (9, true)]
  | _ => []
def sd21 : Nat → List (Nat × Bool)
  | 1 => [(0, true), (1, true), (2, true), (3, false), (4, false), (5, false)]
  | _ => []
def sd28 : Nat → List (Nat × Bool)
  | 10 => [(0, true), (1, true), (2, true), (3, false), (4, false), (5, false), (6, true), (7, false)]
  | 13 => [(0, true), (1, true), (2, false), (3, false), (4, true), (5, false)]
  | _ => []
def sd31 : Nat → List (Nat × Bool)
  | 6 => [(0, true), (1, true), (2, true), (3, true), (4, true), (5, true), (6, true), (7, true), (8, false), (9, true)]
  | _ => []
def sd37 : Nat → List (Nat × Bool)
  | 1 => [(0, true), (1, true), (2, true), (3, true), (4, true), (5, true), (6, true), (7, true), (8, true), (9, true), (10, true), (11, true), (12, true), (13, true), (14, true), (15, true), (16, true)]
  | 3 => [(0, true), (1, true), (2, true), (3, true), (4, true), (5, true), (6, true), (7, true), (8, true), (9, true), (10, false)]
  | _ => []
def sdT : Nat → Nat → List (Nat × Bool)
  | 3 => sd3
  | 5 => sd5
  | 7 => sd7
  | 11 => sd11
  | 12 => sd12
  | 16 => sd16
  | 17 => sd17
  | 18 => sd18
  | 21 => sd21
  | 28 => sd28
  | 31 => sd31
  | 37 => sd37
  | _ => fun _ => []
def tabT (f : Nat) : FT := ⟨keepT f, sdT f⟩
def okT (f : Nat) : Bool := ([2, 3, 4, 5, 6, 7, 8, 9, 10, 11, 12, 13, 14, 15, 16, 17, 18, 19, 20, 21, 22, 23, 24, 25, 26, 27, 28, 29, 30, 31, 32, 33, 34, 35, 36, 37, 38, 39, 40, 41, 42, 43, 44, 45, 46, 47, 48, 49, 50, 51, 52, 53, 54, 55, 56, 57, 58, 59, 60, 61, 62, 63] : List Nat).elem f
set_option maxRecDepth 100000 in
theorem tab_all : (List.range 80).all (funcOk Try.prog tabT) = true := by kernel_rfl
set_option maxRecDepth 100000 in
theorem ok_all : (List.range 80).all (fun f => !okT f || callable Try.prog f) = true := by kernel_rfl
theorem funcs_size : Try.prog.funcs.size = 80 := by kernel_rfl
theorem okT_last : ∀ f, 80 ≤ f → okT f = false := by
  intro f hf
  unfold okT
  simp
  omega
theorem okT_ok : ∀ f, okT f = true → callable Try.prog f = true := okf_of okT_last ok_all
theorem tabT_ok : tabsOk Try.prog tabT := tabsOk_of funcs_size tab_all
theorem mixed : Try.prog.follows .mixedOrders = true := by kernel_rfl
end Go.Proofs.Ytfekieopkahcfaa
