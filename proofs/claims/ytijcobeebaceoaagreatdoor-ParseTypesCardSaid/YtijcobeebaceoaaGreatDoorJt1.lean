/- The tables for the closed run. Printed by Tab.lean, Gen.lean and jt9.py. -/
import Derived.Test.YtijcobeebaceoaaGreatDoorBc
import Derived.Test.YtijcobeebaceoaaGreatDoorProg
import Derived.KernelRfl
namespace Go.Proofs.YtijcobeebaceoaaGreatDoor
def keepT : Nat → List Nat
  | 11 => [0, 5, 20, 22, 6, 31, 40, 63, 2, 3, 4]
  | 12 => [0, 1, 2, 3, 32, 5, 37, 51, 6, 56, 70, 7, 75, 89, 4]
  | 13 => [0, 1, 10, 13, 12, 14, 5, 24, 4]
  | 14 => [0, 1, 23, 22, 24, 21, 3, 5, 35, 34, 36, 33, 7, 49, 48, 50, 47, 9, 61, 60, 62, 59, 11, 74, 73, 75, 72, 13, 92, 91, 93, 90, 15, 104, 103, 105, 102, 17, 122, 121, 123, 120, 19, 2]
  | 23 => [0, 9, 2, 3, 18, 4, 30, 41]
  | 25 => [0, 1, 10, 5, 14, 26, 4]
  | 27 => [0, 9, 19, 3, 29, 39, 2]
  | 30 => [0, 3, 18, 4, 5, 36, 6, 45, 7, 62, 2]
  | 31 => [0, 3, 17, 4, 32, 34, 5, 2]
  | 32 => [0, 3, 18, 5, 26, 4, 6, 7, 55, 2]
  | 34 => [0, 1, 2, 3, 35, 5, 40, 71, 4]
  | 35 => [0, 1, 2, 3, 34, 5, 39, 70, 4]
  | 36 => [0, 1, 2, 3, 27, 5, 32, 63, 4]
  | 37 => [0, 1, 10, 5, 14, 41, 4]
  | 38 => [0, 1, 16, 15, 17, 14, 3, 5, 28, 27, 29, 26, 7, 41, 40, 42, 39, 9, 2]
  | 39 => [8, 7, 9, 6, 5, 0, 15, 2, 3]
  | 41 => [0, 25, 4, 5, 3, 8, 53, 7, 9, 67, 66, 68, 10, 6, 77, 76, 78, 75, 12, 13, 89, 14, 2]
  | 42 => [0, 10, 3, 4, 15, 5, 29, 7, 39, 6, 2]
  | 46 => [0, 9, 2, 17, 3]
  | 48 => [0, 13, 5, 17, 7, 24, 10, 33, 6, 8, 9, 2, 3, 4]
  | 55 => [0, 3, 19, 4, 5, 38, 6, 54, 56, 2]
  | 56 => [0, 3, 17, 4, 25, 27, 5, 2]
  | 57 => [0, 3, 16, 4, 5, 33, 38, 2]
  | 61 => [0, 9, 3, 2]
  | 63 => [0, 12, 2, 22, 4, 6, 5, 3, 43, 7, 48]
  | 64 => [0, 1, 10, 5, 14, 25, 4]
  | 65 => [0, 1, 2, 3, 59, 5, 64, 78, 6, 83, 115, 4]
  | 66 => [0, 1, 8, 3, 4, 17, 31, 5, 40, 2]
  | 67 => [0, 1, 12, 11, 13, 10, 3, 5, 2]
  | 68 => [7, 8, 6, 3, 1, 2, 4, 0]
  | 70 => [0, 12, 3, 2, 30, 37, 4, 5, 70, 6, 7]
  | 72 => [0, 17, 16, 18, 15, 8, 6, 29, 11, 12, 9, 10, 44, 57, 7, 5, 14, 84, 2, 3, 4]
  | 75 => [0, 6, 8, 7, 4, 3, 19, 2]
  | 76 => [0, 25]
  | 83 => [3, 0, 8, 4, 13, 2]
  | 84 => [1, 0, 20, 24, 34, 4]
  | 85 => [0, 1, 7, 23, 11, 32, 8, 4, 9, 10, 40, 13, 12, 54, 15, 66, 14, 85, 90, 16, 99, 109, 113, 116, 120, 124, 5, 6]
  | 86 => [0, 9, 3, 2]
  | 88 => [0, 12, 3, 2, 18, 23, 4, 33, 52, 5, 6, 7, 73, 8]
  | 89 => [3, 0, 8, 16, 4, 28, 40, 2]
  | 90 => [2, 3, 19, 0, 8, 10, 29, 1, 9, 12, 11, 56, 15, 75, 13, 14, 84, 16]
  | 91 => [0, 1, 2, 3, 33, 5, 38, 52, 4]
  | 93 => [0, 1, 6, 4, 3, 2]
  | 95 => [0, 16, 5, 7, 30, 6, 1, 4]
  | 96 => [0, 9, 3, 19, 2]
  | 101 => [0, 1, 32, 5, 4]
  | 109 => [0, 27, 5, 44, 45, 4, 3, 59, 61, 79, 6, 91, 2]
  | 112 => [0, 1, 5, 16, 22, 30, 38, 6, 50, 9, 53, 10, 67, 7, 8, 87, 4]
  | 114 => [1, 8, 0, 15, 9, 22, 7, 28, 30, 36, 42, 44, 46, 4, 5, 6]
  | 116 => [1, 0, 2, 40, 6]
  | 117 => [0, 4, 17, 5, 37, 6, 42, 54, 8, 59, 7, 71, 77, 2, 3]
  | 124 => [0, 3, 14, 4, 22, 30, 38, 48, 2, 58, 5, 76, 6, 99, 106, 7, 119, 8]
  | 125 => [4, 3, 17, 5, 26, 0, 37, 2]
  | 131 => [0, 1, 2, 12, 11, 13, 10, 5]
  | 134 => [0, 1, 6, 5, 30, 4]
  | 142 => [5, 0, 9, 1, 16, 4]
  | 145 => [5, 1, 9, 0, 17, 4]
  | 146 => [0, 9, 2, 3, 23, 4]
  | 148 => [0, 8, 7, 9, 1, 5, 16, 4]
  | 149 => [0, 3, 19, 4, 2]
  | 150 => [0, 1, 13, 4]
  | 151 => [4, 0, 9, 5, 16, 2, 3]
  | 152 => [0, 7, 1, 12, 4]
  | 153 => [0, 9, 1, 5, 18, 6, 4]
  | 154 => [0, 17, 20, 19, 21, 5, 32, 3, 34, 2, 4]
  | 168 => [1, 160, 0, 171, 175, 177, 176, 6, 181, 5, 183, 7, 8, 9, 26, 33, 11, 43, 12, 51, 64, 10, 98, 13, 108, 124, 14, 15, 139, 16, 143, 156, 4]
  | _ => []
def sd4 : Nat → List (Nat × Bool)
  | 7 => [(0, true), (1, true), (2, true), (3, true), (4, true), (5, true), (6, true), (7, true), (8, true), (9, true), (10, true), (11, true), (12, true), (13, false), (14, true), (15, true), (16, true), (18, true), (17, false), (19, false), (20, false), (21, true), (22, true)]
  | _ => []
def sd8 : Nat → List (Nat × Bool)
  | 5 => [(0, true), (1, true), (2, true), (3, true), (4, true), (5, true), (6, true), (7, true), (8, true), (9, false), (10, true), (11, true)]
  | _ => []
def sd11 : Nat → List (Nat × Bool)
  | 5 => [(0, true), (1, true), (2, true), (3, false), (4, false), (5, false), (6, true), (7, false)]
  | 7 => [(0, true), (1, true), (2, true), (3, false), (4, false), (5, false), (6, true), (7, false)]
  | 9 => [(0, true), (1, true), (2, true), (3, false), (4, false), (5, false), (6, true), (7, false)]
  | 11 => [(0, true), (1, true), (2, true), (3, false), (4, false), (5, false), (6, true), (7, false)]
  | 14 => [(0, true), (1, true), (2, true), (3, true), (4, true), (5, true), (6, true), (7, true), (8, true), (9, false), (10, true), (11, true)]
  | _ => []
def sd12 : Nat → List (Nat × Bool)
  | 6 => [(0, true), (1, true), (2, true), (3, true), (4, true), (5, true), (6, true), (7, true), (8, true), (9, true), (10, false), (11, true)]
  | 11 => [(0, true), (1, true), (2, true), (3, true), (4, true), (5, true), (6, true), (7, true), (8, true), (9, true), (10, false), (11, true)]
  | 16 => [(0, true), (1, true), (2, true), (3, true), (4, true), (5, true), (6, true), (7, true), (8, true), (9, true), (10, false), (11, true)]
  | _ => []
def sd13 : Nat → List (Nat × Bool)
  | 6 => [(0, true), (1, true), (2, true), (3, true), (4, true), (5, true), (6, true), (7, true), (8, true)]
  | _ => []
def sd14 : Nat → List (Nat × Bool)
  | 24 => [(0, true), (1, true), (2, true), (5, true), (6, true), (3, false), (4, false), (7, false), (8, false), (9, true)]
  | 34 => [(0, true), (1, true), (2, true), (5, true), (6, true), (3, false), (4, false), (7, false), (8, false), (9, true)]
  | 40 => [(0, true), (1, true), (2, true), (5, true), (6, true), (3, false), (4, false), (7, false), (8, false), (9, true)]
  | _ => []
def sd20 : Nat → List (Nat × Bool)
  | 3 => [(0, true), (1, true), (2, false), (3, false)]
  | _ => []
def sd21 : Nat → List (Nat × Bool)
  | 4 => [(0, true), (1, true), (2, false), (3, false), (4, true), (5, false)]
  | _ => []
def sd23 : Nat → List (Nat × Bool)
  | 10 => [(0, true), (1, true), (2, true), (3, false), (4, false), (5, false), (6, true), (7, false)]
  | 13 => [(0, true), (1, true), (2, false), (3, false), (4, true), (5, false)]
  | _ => []
def sd25 : Nat → List (Nat × Bool)
  | 6 => [(0, true), (1, true), (2, true), (3, true), (4, true), (5, true), (6, true), (7, true), (8, false), (9, true)]
  | _ => []
def sd26 : Nat → List (Nat × Bool)
  | 3 => [(0, true), (1, true), (2, false), (3, false)]
  | _ => []
def sd27 : Nat → List (Nat × Bool)
  | 6 => [(0, true), (1, true), (2, true), (3, false), (4, false), (5, false), (6, true), (7, false)]
  | 8 => [(0, true), (1, true), (2, true), (3, false), (4, false), (5, false), (6, true), (7, false)]
  | 10 => [(0, true), (1, true), (2, true), (3, false), (4, false), (5, false), (6, true), (7, false)]
  | 4 => [(0, true), (1, true), (2, true), (3, false), (4, false), (5, false), (6, true), (7, false)]
  | _ => []
def sd28 : Nat → List (Nat × Bool)
  | 1 => [(0, true), (1, true), (2, true), (3, true), (4, true), (5, true), (6, true), (7, true), (8, true), (9, true), (10, true), (11, true), (12, true), (13, true), (14, true), (15, true), (16, true)]
  | 3 => [(0, true), (1, true), (2, true), (3, true), (4, true), (5, true), (6, true), (7, true), (8, true), (9, true), (10, false)]
  | _ => []
def sd30 : Nat → List (Nat × Bool)
  | 4 => [(0, true), (1, true), (2, true), (3, false), (4, true), (5, false), (6, false), (7, true), (8, false)]
  | 11 => [(0, true), (1, true), (2, true), (3, false), (4, false), (5, false), (6, true), (7, false)]
  | _ => []
def sd31 : Nat → List (Nat × Bool)
  | 2 => []
  | 8 => [(0, true), (1, true), (2, true), (3, false), (4, false), (5, false), (6, true), (7, false)]
  | 11 => [(0, true), (1, true), (2, true), (3, true), (4, true), (6, true), (7, true), (5, false), (8, true), (9, false), (10, false), (11, true), (12, false)]
  | _ => []
def sd32 : Nat → List (Nat × Bool)
  | 2 => []
  | 13 => [(0, true), (1, true), (2, true), (3, false), (4, false), (5, false), (6, true), (7, false)]
  | _ => []
def sd33 : Nat → List (Nat × Bool)
  | 3 => [(0, true), (1, true), (2, true), (4, true), (5, true), (3, false), (6, true), (7, false)]
  | _ => []
def sd34 : Nat → List (Nat × Bool)
  | 6 => [(0, true), (1, true), (2, true), (3, true), (4, true), (5, true), (6, true), (7, true), (8, true), (9, true), (10, true), (11, true), (12, true), (13, true), (14, true), (15, true), (16, true), (17, true), (18, true), (19, true), (20, true), (21, true), (22, true), (23, true), (24, true), (25, true), (26, false), (27, true), (28, true)]
  | _ => []
def sd35 : Nat → List (Nat × Bool)
  | 6 => [(0, true), (1, true), (2, true), (3, true), (4, true), (5, true), (6, true), (7, true), (8, true), (9, true), (10, true), (11, true), (12, true), (13, true), (14, true), (15, true), (16, true), (17, true), (18, true), (19, true), (20, true), (21, true), (22, true), (23, true), (24, true), (25, true), (26, false), (27, true), (28, true)]
  | _ => []
def sd36 : Nat → List (Nat × Bool)
  | 6 => [(0, true), (1, true), (2, true), (3, true), (4, true), (5, true), (6, true), (7, true), (8, true), (9, true), (10, true), (11, true), (12, true), (13, true), (14, true), (15, true), (16, true), (17, true), (18, true), (19, true), (20, true), (21, true), (22, true), (23, true), (24, true), (25, true), (26, false), (27, true), (28, true)]
  | _ => []
def sd37 : Nat → List (Nat × Bool)
  | 6 => [(0, true), (1, true), (2, true), (3, true), (4, true), (5, true), (6, true), (7, true), (8, true), (9, true), (10, true), (11, true), (12, true), (13, true), (14, true), (15, true), (16, true), (17, true), (18, true), (19, true), (20, true), (21, true), (22, false), (23, true), (24, true)]
  | _ => []
def sd40 : Nat → List (Nat × Bool)
  | 3 => [(0, true), (1, true), (2, false), (3, false)]
  | _ => []
def sd41 : Nat → List (Nat × Bool)
  | 24 => [(0, true), (1, true), (2, true), (3, true), (4, true), (5, true), (6, true), (7, true), (8, true), (9, true), (10, true), (11, true), (12, true), (13, true), (14, false), (15, true), (16, false)]
  | _ => []
def sd43 : Nat → List (Nat × Bool)
  | 6 => [(0, true), (1, true), (2, false), (3, false)]
  | _ => []
def sd45 : Nat → List (Nat × Bool)
  | 3 => [(0, true), (1, true), (2, true), (3, true), (4, false), (5, true), (6, false)]
  | _ => []
def sd46 : Nat → List (Nat × Bool)
  | 5 => [(0, true), (1, true), (2, true), (3, false), (4, false), (5, false), (6, true), (7, false)]
  | _ => []
def sd53 : Nat → List (Nat × Bool)
  | 6 => [(0, true), (1, true), (2, false), (3, false)]
  | _ => []
def sd54 : Nat → List (Nat × Bool)
  | 1 => [(0, true), (1, true), (2, true), (3, true), (4, true), (5, true), (6, true), (7, true), (8, true), (9, true), (10, false)]
  | _ => []
def sd55 : Nat → List (Nat × Bool)
  | 4 => [(0, true), (1, true), (2, true), (3, false), (4, true), (5, false), (6, false), (7, true), (8, false)]
  | 9 => [(0, true), (1, true), (2, true), (3, false), (4, false), (5, false), (6, true), (7, false)]
  | _ => []
def sd56 : Nat → List (Nat × Bool)
  | 2 => []
  | 8 => [(0, true), (1, true), (2, true), (3, false), (4, false), (5, false), (6, true), (7, false)]
  | 11 => [(0, true), (1, true), (2, true), (3, true), (4, true), (6, true), (7, true), (5, false), (8, true), (9, false), (10, false), (11, true), (12, false)]
  | _ => []
def sd57 : Nat → List (Nat × Bool)
  | 2 => []
  | 5 => [(0, true), (1, true), (2, true), (3, true), (4, false), (5, true), (6, true), (7, true), (8, false), (9, false), (10, true), (11, false)]
  | 10 => [(0, true), (1, true), (2, true), (3, false), (4, false), (5, false), (6, true), (7, false)]
  | _ => []
def sd59 : Nat → List (Nat × Bool)
  | 3 => [(0, true), (1, true), (2, true), (4, true), (5, true), (3, false), (6, true), (7, false)]
  | _ => []
def sd64 : Nat → List (Nat × Bool)
  | 6 => [(0, true), (1, true), (2, true), (3, true), (4, true), (5, true), (6, true), (7, true), (8, true)]
  | _ => []
def sd65 : Nat → List (Nat × Bool)
  | 6 => [(0, true), (1, true), (2, true), (3, true), (4, true), (5, true), (6, true), (7, true), (8, true), (9, true), (10, false), (11, true)]
  | 11 => [(0, true), (1, true), (2, true), (3, true), (4, true), (5, true), (6, true), (7, true), (8, true), (9, true), (10, true), (11, true), (12, false), (13, true), (14, true), (15, true), (16, true), (17, true), (18, true), (19, true), (20, true), (21, true), (22, true), (23, true), (24, true), (25, true), (26, true), (27, false), (28, true), (29, true)]
  | _ => []
def sd68 : Nat → List (Nat × Bool)
  | 6 => [(0, true), (1, true), (2, true), (3, true), (4, true), (5, true), (6, true), (7, true), (8, true), (10, true), (11, true), (9, false), (12, true), (13, true), (14, false), (15, false), (16, true)]
  | _ => []
def sd69 : Nat → List (Nat × Bool)
  | 6 => [(0, true), (1, true), (2, false), (3, false)]
  | _ => []
def sd70 : Nat → List (Nat × Bool)
  | 13 => [(0, true), (1, true), (2, true), (5, true), (6, true), (3, false), (4, false), (7, true), (8, false)]
  | _ => []
def sd76 : Nat → List (Nat × Bool)
  | 1 => [(0, true), (1, true), (2, true), (3, true), (4, true), (5, true), (6, true), (7, true), (8, true), (9, true), (10, true), (11, true), (12, true), (13, true), (14, true), (15, true), (16, true), (17, true), (18, true), (19, true), (20, true), (21, true)]
  | _ => []
def sd77 : Nat → List (Nat × Bool)
  | 1 => [(0, true), (1, true), (2, true), (3, true), (4, true), (5, true), (6, true), (7, true), (8, true), (9, true)]
  | 14 => [(0, true), (1, true), (2, true), (3, true), (4, true), (5, true), (6, true), (7, true), (8, true), (9, true), (10, true), (11, true), (12, true), (13, true), (14, false), (15, true)]
  | 16 => [(0, true), (1, true), (2, true), (3, true), (4, true), (5, true), (6, true), (7, true), (8, true), (9, true), (10, true), (11, true), (12, true), (13, true), (14, true), (15, true), (16, true), (17, true), (18, true), (19, true), (20, false), (21, true)]
  | _ => []
def sd88 : Nat → List (Nat × Bool)
  | 8 => [(0, true), (1, true), (2, true), (3, false), (4, false), (5, false), (6, true), (7, false)]
  | 10 => [(0, true), (1, true), (2, true), (3, false), (4, false), (5, false), (6, true), (7, false)]
  | 12 => [(0, true), (1, true), (2, true), (3, false), (4, false), (5, false), (6, true), (7, false)]
  | 23 => [(0, true), (1, true), (4, true), (5, true), (2, false), (3, false), (6, true), (7, false)]
  | _ => []
def sd91 : Nat → List (Nat × Bool)
  | 6 => [(0, true), (1, true), (2, true), (3, true), (4, true), (5, true), (6, true), (7, true), (8, true), (9, true), (10, false), (11, true)]
  | _ => []
def sd92 : Nat → List (Nat × Bool)
  | 5 => [(0, true), (1, true), (2, true), (5, true), (6, true), (7, true), (10, true), (11, true), (12, true), (15, true), (16, true), (17, true), (20, true), (21, true), (22, true), (25, true), (26, true), (27, true), (30, true), (31, true), (32, true), (35, true), (36, true), (37, true), (40, true), (41, true), (42, true), (45, true), (46, true), (47, true), (50, true), (51, true), (54, true), (55, true), (58, true), (59, true), (62, true), (63, true), (66, true), (67, true), (70, true), (71, true), (74, true), (75, true), (76, true), (3, false), (4, true), (8, false), (9, true), (13, false), (14, true), (18, false), (19, true), (23, false), (24, true), (28, false), (29, true), (33, false), (34, true), (38, false), (39, true), (43, false), (44, true), (48, false), (49, true), (52, false), (53, true), (56, false), (57, true), (60, false), (61, true), (64, false), (65, true), (68, false), (69, true), (72, false), (73, true), (77, false), (78, false), (79, true), (80, true), (81, false)]
  | _ => []
def sd93 : Nat → List (Nat × Bool)
  | 5 => [(0, true), (1, true), (2, true), (3, false)]
  | _ => []
def sd95 : Nat → List (Nat × Bool)
  | 9 => [(0, true), (1, true), (2, true), (3, true), (4, true), (5, true), (7, true), (8, true), (9, true), (10, true), (11, true), (6, false), (12, true), (13, false)]
  | _ => []
def sd96 : Nat → List (Nat × Bool)
  | 4 => [(0, true), (1, true), (2, true), (3, false), (4, false), (5, false), (6, true), (7, false)]
  | 6 => [(0, true), (1, true), (2, true), (3, false), (4, false), (5, false), (6, true), (7, false)]
  | _ => []
def sd101 : Nat → List (Nat × Bool)
  | 2 => [(0, true), (1, true), (2, true), (3, true), (4, true), (5, true), (6, true), (7, true), (8, true), (9, true), (10, true), (11, true), (12, true), (13, true), (14, true), (15, true), (16, true), (17, true), (18, true), (19, true), (20, true), (21, false), (22, true)]
  | 4 => [(0, true), (1, true), (2, true), (3, true), (4, true), (5, true), (6, true), (7, true), (8, true), (9, true), (10, true)]
  | _ => []
def sd109 : Nat → List (Nat × Bool)
  | 4 => [(0, true), (1, true), (2, true), (3, true), (4, true), (5, true), (6, true), (7, true), (8, true), (9, true)]
  | 6 => [(0, true), (1, true), (2, true), (3, true), (4, true), (5, true), (6, true), (7, true), (8, true), (9, true)]
  | 15 => [(0, true), (1, true), (2, true), (3, true), (4, true), (5, true), (6, true), (7, true), (8, true), (9, true)]
  | 17 => [(0, true), (1, true), (2, true), (3, true), (4, true), (5, true), (6, true), (7, true), (8, true), (9, false), (10, true)]
  | _ => []
def sd123 : Nat → List (Nat × Bool)
  | 4 => [(0, true), (1, true), (2, true), (3, true), (4, false), (5, true), (6, false), (7, false), (8, false), (9, true), (10, false)]
  | 7 => [(0, true), (1, true), (2, true), (3, false), (4, false), (5, false), (6, true), (7, false)]
  | _ => []
def sd124 : Nat → List (Nat × Bool)
  | 20 => [(0, true), (1, true), (2, true), (3, false), (4, false), (5, false), (6, true), (7, false)]
  | 40 => []
  | _ => []
def sd128 : Nat → List (Nat × Bool)
  | 1 => [(0, true), (1, true), (2, true), (3, false), (4, false), (5, false)]
  | _ => []
def sd135 : Nat → List (Nat × Bool)
  | 9 => []
  | _ => []
def sd146 : Nat → List (Nat × Bool)
  | 7 => [(0, true), (1, true), (2, true), (3, false), (4, false), (5, false), (6, true), (7, false)]
  | _ => []
def sd149 : Nat → List (Nat × Bool)
  | 5 => [(0, true), (1, true), (2, true), (3, false), (4, false), (5, false), (6, true), (7, false)]
  | _ => []
def sd168 : Nat → List (Nat × Bool)
  | 6 => [(0, true), (1, true), (2, true), (3, true), (4, true), (5, true), (6, true)]
  | 7 => [(0, true), (1, true), (2, true), (3, true), (4, true), (5, true), (6, true), (7, false), (8, true)]
  | 14 => [(0, true), (1, true), (2, true), (3, true), (4, true), (5, true), (6, true), (7, true), (8, true), (9, true), (10, true)]
  | 31 => [(0, true), (1, true), (2, true), (3, true), (4, true), (5, true), (6, true), (7, true), (8, true), (9, true), (10, true)]
  | _ => []
def sdT : Nat → Nat → List (Nat × Bool)
  | 4 => sd4
  | 8 => sd8
  | 11 => sd11
  | 12 => sd12
  | 13 => sd13
  | 14 => sd14
  | 20 => sd20
  | 21 => sd21
  | 23 => sd23
  | 25 => sd25
  | 26 => sd26
  | 27 => sd27
  | 28 => sd28
  | 30 => sd30
  | 31 => sd31
  | 32 => sd32
  | 33 => sd33
  | 34 => sd34
  | 35 => sd35
  | 36 => sd36
  | 37 => sd37
  | 40 => sd40
  | 41 => sd41
  | 43 => sd43
  | 45 => sd45
  | 46 => sd46
  | 53 => sd53
  | 54 => sd54
  | 55 => sd55
  | 56 => sd56
  | 57 => sd57
  | 59 => sd59
  | 64 => sd64
  | 65 => sd65
  | 68 => sd68
  | 69 => sd69
  | 70 => sd70
  | 76 => sd76
  | 77 => sd77
  | 88 => sd88
  | 91 => sd91
  | 92 => sd92
  | 93 => sd93
  | 95 => sd95
  | 96 => sd96
  | 101 => sd101
  | 109 => sd109
  | 123 => sd123
  | 124 => sd124
  | 128 => sd128
  | 135 => sd135
  | 146 => sd146
  | 149 => sd149
  | 168 => sd168
  | _ => fun _ => []
def sx31 : Nat → Option (Sch × List Nat)
  | 2 => some (.look 0 (.look 1 (.look 2 (.look 5 (.look 6 (.eff (.cons 3 (.look 4 (.look 7 (.eff (.cons 8 (.eff (.cons 9 (.done) (.nil))) (.nil))))) (.cons 8 (.eff (.cons 3 (.look 4 (.look 7 (.eff (.cons 9 (.done) (.nil))))) (.nil))) (.nil)))))))), [0, 4, 2])
  | _ => none
def sx32 : Nat → Option (Sch × List Nat)
  | 2 => some (.look 0 (.look 1 (.look 2 (.look 4 (.look 5 (.eff (.cons 3 (.look 6 (.eff (.cons 7 (.eff (.cons 8 (.done) (.nil))) (.nil)))) (.cons 7 (.eff (.cons 3 (.look 6 (.eff (.cons 8 (.done) (.nil)))) (.nil))) (.nil)))))))), [0, 4, 2])
  | _ => none
def sx56 : Nat → Option (Sch × List Nat)
  | 2 => some (.look 0 (.look 1 (.look 2 (.look 5 (.look 6 (.eff (.cons 3 (.look 4 (.look 7 (.eff (.cons 8 (.eff (.cons 9 (.done) (.nil))) (.nil))))) (.cons 8 (.eff (.cons 3 (.look 4 (.look 7 (.eff (.cons 9 (.done) (.nil))))) (.nil))) (.nil)))))))), [0, 4, 2])
  | _ => none
def sx57 : Nat → Option (Sch × List Nat)
  | 2 => some (.look 0 (.look 1 (.look 2 (.look 4 (.look 5 (.eff (.cons 3 (.look 6 (.eff (.cons 7 (.eff (.cons 8 (.done) (.nil))) (.nil)))) (.cons 7 (.eff (.cons 3 (.look 6 (.eff (.cons 8 (.done) (.nil)))) (.nil))) (.nil)))))))), [0, 4, 2])
  | _ => none
def sx124 : Nat → Option (Sch × List Nat)
  | 40 => some (.look 0 (.look 2 (.look 4 (.look 5 (.eff (.cons 1 (.eff (.cons 3 (.look 6 (.eff (.cons 7 (.done) (.nil)))) (.nil))) (.cons 3 (.eff (.cons 1 (.look 6 (.eff (.cons 7 (.done) (.nil)))) (.nil))) (.nil))))))), [0, 8, 2])
  | _ => none
def sx135 : Nat → Option (Sch × List Nat)
  | 9 => some (.look 0 (.look 2 (.look 4 (.eff (.cons 1 (.eff (.cons 3 (.look 5 (.eff (.cons 6 (.done) (.nil)))) (.nil))) (.cons 3 (.eff (.cons 1 (.look 5 (.eff (.cons 6 (.done) (.nil)))) (.nil))) (.nil)))))), [0, 6, 4])
  | _ => none
def sxT : Nat → Nat → Option (Sch × List Nat)
  | 31 => sx31
  | 32 => sx32
  | 56 => sx56
  | 57 => sx57
  | 124 => sx124
  | 135 => sx135
  | _ => fun _ => none
def rsT : Nat → List Nat
  | 20 => [4, 5]
  | 21 => [2]
  | 26 => [4, 5]
  | 40 => [4, 5]
  | 41 => [2]
  | 149 => [2]
  | _ => []
def dfT (f : Nat) : Bool := ([20, 21, 26, 40, 41, 149] : List Nat).elem f
def tabT (f : Nat) : FT := { keep := keepT f, sd := sdT f, sx := sxT f, rs := rsT f, df := dfT f }
def okT (f : Nat) : Bool := ([2, 3, 4, 5, 6, 7, 8, 9, 10, 11, 12, 13, 14, 15, 16, 17, 18, 19, 20, 21, 22, 23, 24, 25, 26, 27, 28, 29, 30, 31, 32, 33, 34, 35, 36, 37, 38, 39, 40, 41, 42, 43, 44, 45, 46, 47, 48, 49, 50, 51, 52, 53, 54, 55, 56, 57, 58, 59, 60, 61, 62, 63, 64, 65, 66, 67, 68, 69, 70, 71, 72, 73, 74, 75, 76, 77, 78, 79, 80, 81, 82, 83, 84, 85, 86, 87, 88, 89, 90, 91, 92, 93, 94, 95, 96, 97, 98, 99, 100, 101, 102, 103, 104, 105, 106, 107, 108, 109, 110, 111, 112, 113, 114, 115, 116, 117, 118, 119, 120, 121, 122, 123, 124, 125, 126, 127, 128, 129, 130, 131, 132, 133, 134, 135, 136, 137, 138, 139, 140, 141, 142, 143, 144, 145, 146, 147, 148, 149, 150, 151, 152, 153, 154, 155, 156, 157, 158, 159, 160, 161, 162, 163, 165, 166, 167, 168, 169, 170, 192] : List Nat).elem f
set_option maxRecDepth 100000 in
theorem funcs_size : Tryz.prog.funcs.size = 193 := by kernel_rfl
theorem all_more (p : Nat → Bool) (a b : Nat) (h : (List.range a).all p = true) (h2 : (List.range b).all (fun i => p (a + i)) = true) : (List.range (a + b)).all p = true := by
  rw [List.range_add, List.all_append, h, List.all_map]
  exact h2
set_option maxRecDepth 100000 in
theorem tab_0 : (List.range 32).all (fun i => funcOk Tryz.prog tabT (0 + i)) = true := by kernel_rfl
set_option maxRecDepth 100000 in
theorem tab_1 : (List.range 32).all (fun i => funcOk Tryz.prog tabT (32 + i)) = true := by kernel_rfl
set_option maxRecDepth 100000 in
theorem tab_2 : (List.range 32).all (fun i => funcOk Tryz.prog tabT (64 + i)) = true := by kernel_rfl
set_option maxRecDepth 100000 in
theorem tab_3 : (List.range 32).all (fun i => funcOk Tryz.prog tabT (96 + i)) = true := by kernel_rfl
set_option maxRecDepth 100000 in
theorem tab_4 : (List.range 32).all (fun i => funcOk Tryz.prog tabT (128 + i)) = true := by kernel_rfl
set_option maxRecDepth 100000 in
theorem tab_5 : (List.range 32).all (fun i => funcOk Tryz.prog tabT (160 + i)) = true := by kernel_rfl
set_option maxRecDepth 100000 in
theorem tab_6 : (List.range 1).all (fun i => funcOk Tryz.prog tabT (192 + i)) = true := by kernel_rfl
theorem tab_all : (List.range 193).all (funcOk Tryz.prog tabT) = true := by
  have h0 : (List.range 32).all (funcOk Tryz.prog tabT) = true := by simpa using tab_0
  have h1 := all_more (funcOk Tryz.prog tabT) 32 32 h0 tab_1
  have h2 := all_more (funcOk Tryz.prog tabT) 64 32 h1 tab_2
  have h3 := all_more (funcOk Tryz.prog tabT) 96 32 h2 tab_3
  have h4 := all_more (funcOk Tryz.prog tabT) 128 32 h3 tab_4
  have h5 := all_more (funcOk Tryz.prog tabT) 160 32 h4 tab_5
  have h6 := all_more (funcOk Tryz.prog tabT) 192 1 h5 tab_6
  exact h6
set_option maxRecDepth 100000 in
theorem ok_all : (List.range 193).all (fun f => !okT f || callable Tryz.prog f) = true := by kernel_rfl
theorem elem_lt (n : Nat) (L : List Nat) (h : L.all (fun x => Nat.blt x n) = true) (f : Nat) (hf : n ≤ f) : L.elem f = false := by
  cases he : L.elem f with
  | false => rfl
  | true =>
    have hm : f ∈ L := List.mem_of_elem_eq_true he
    have h1 := List.all_eq_true.1 h f hm
    have h2 : f + 1 ≤ n := Nat.le_of_ble_eq_true h1
    omega
set_option maxRecDepth 100000 in
theorem okT_last : ∀ f, 193 ≤ f → okT f = false := fun f hf => elem_lt 193 _ (by kernel_rfl) f hf
theorem okT_ok : ∀ f, okT f = true → callable Tryz.prog f = true := okf_of okT_last ok_all
theorem tabT_ok : tabsOk Tryz.prog tabT := tabsOk_of funcs_size tab_all
end Go.Proofs.YtijcobeebaceoaaGreatDoor
