/- The tables for the closed run. Printed by Tab.lean, Gen.lean and tab.py. -/
import Derived.Test.YtlfkefbhdmfllaaGreatDoorBc
import Derived.Test.YtlfkefbhdmfllaaGreatDoorProg
import Derived.KernelRfl
namespace Go.Proofs.YtlfkefbhdmfllaaGreatDoor
def keepT : Nat → List Nat
  | 6 => [0, 1, 22, 3, 29, 28, 30, 27, 5, 44, 43, 45, 42, 7, 2]
  | 7 => [0, 1, 20, 3, 4, 28, 5, 46, 2]
  | 8 => [0, 1, 2, 3, 59, 5, 64, 78, 6, 83, 115, 4]
  | 9 => [0, 1, 10, 5, 14, 41, 4]
  | 10 => [0, 8, 7, 9, 6, 3, 5, 2]
  | 11 => [4, 0, 8, 3, 2]
  | 16 => [0, 2, 6, 5, 1, 27, 7, 50, 8, 84, 4]
  | 18 => [0, 1, 2, 3, 33, 5, 38, 52, 4]
  | 20 => [0, 1, 11, 13, 15, 5, 2, 20, 30, 4]
  | 22 => [0, 12, 2, 22, 4, 6, 5, 3, 43, 7, 48]
  | 27 => [0, 8, 7, 9, 6, 5, 14, 3, 2]
  | 28 => [0, 8, 7, 9, 6, 3, 5, 2]
  | 29 => [0, 1, 10, 5, 14, 26, 4]
  | 30 => [0, 5, 20, 22, 6, 31, 40, 63, 2, 3, 4]
  | 31 => [0, 1, 3, 4, 21, 2, 27, 5, 33, 41, 6, 47, 57, 7, 69, 8, 98]
  | 32 => [0, 13, 5, 17, 7, 24, 10, 33, 6, 8, 9, 2, 3, 4]
  | 35 => [0, 12, 3, 2, 18, 23, 4, 33, 52, 5, 6, 7, 73, 8]
  | 37 => [3, 0, 8, 16, 4, 28, 40, 2]
  | 38 => [2, 3, 19, 0, 8, 10, 29, 1, 9, 12, 11, 56, 15, 75, 13, 14, 84, 16]
  | 45 => [0, 9, 8, 10, 7, 1, 6, 16, 4]
  | 46 => [0, 9, 8, 10, 7, 1, 6, 16, 4]
  | 48 => [0, 9, 8, 10, 7, 1, 6, 16, 4]
  | 56 => [0, 1, 2, 3, 6, 5, 29, 31, 36, 35, 37, 34, 7, 8, 57, 9, 4]
  | 57 => [0, 1, 2, 3, 7, 5, 35, 8, 6, 10, 56, 9, 4]
  | 60 => [0, 1, 6, 4, 3, 2]
  | 63 => [0, 1, 3, 2, 37, 41, 40, 42, 39, 5, 7, 4]
  | 69 => [0, 3, 18, 4, 5, 36, 6, 45, 7, 62, 2]
  | 70 => [0, 3, 17, 4, 32, 34, 5, 2]
  | 71 => [0, 3, 18, 5, 26, 4, 6, 7, 55, 2]
  | 73 => [0, 3, 1, 18, 4, 43, 2, 5, 49, 60, 7, 68, 9, 8, 80, 92, 10, 100, 6, 11, 111, 123, 12, 131, 13, 144]
  | 74 => [0, 4, 1, 20, 3, 30, 2, 5, 51, 7, 6, 63, 73, 86, 8, 94, 111, 10, 123, 12, 11, 135, 9, 13, 146, 14, 170, 172, 15, 183]
  | 75 => [0, 2, 1, 5, 6, 22, 4, 7, 30, 43, 51, 8, 66, 11, 10, 88, 9, 97]
  | 76 => [0, 1, 2, 3, 6, 5, 23, 7, 36, 9, 8, 46, 10, 54, 90, 4]
  | 77 => [0, 6, 2, 12, 7, 23, 1, 37, 4, 5]
  | 78 => [5, 0, 9, 1, 17, 4]
  | 79 => [4, 0, 8, 3, 2]
  | 80 => [3, 0, 8, 4, 13, 2]
  | 81 => [1, 0, 20, 24, 34, 4]
  | 82 => [0, 1, 7, 23, 11, 32, 8, 4, 9, 10, 40, 13, 12, 54, 15, 66, 14, 85, 90, 16, 99, 109, 113, 116, 120, 124, 5, 6]
  | 84 => [0, 3, 14, 4, 22, 30, 38, 48, 2, 58, 5, 76, 6, 99, 106, 7, 119, 8]
  | 86 => [4, 3, 17, 5, 26, 0, 37, 2]
  | 88 => [0, 9, 3, 13, 24, 39, 62, 4, 5, 75, 76, 6, 94, 97, 125, 128, 166, 2]
  | 92 => [0, 9, 8, 10, 7, 1, 6, 16, 4]
  | 93 => [0, 9, 8, 10, 7, 1, 6, 16, 4]
  | 94 => [0, 2, 5, 13, 14, 1, 20, 21, 3, 8, 31, 7, 36, 40, 39, 41, 38, 10, 11, 49, 6]
  | 99 => [0, 2, 1, 5, 8, 22, 6, 3, 10, 31, 9, 40, 39, 41, 38, 13, 15, 11, 14, 62, 66, 65, 67, 64, 17, 84, 16, 7]
  | 100 => [0, 2, 6, 12, 1, 22, 4, 5]
  | 105 => [0, 1, 2, 14, 13, 15, 12, 8, 3, 10, 26, 7, 9, 4, 5, 6]
  | 108 => [0, 7, 6, 8, 5, 3, 4, 16, 2]
  | 109 => [0, 8, 7, 9, 6, 3, 5, 2]
  | 110 => [0, 1, 11, 10, 12, 9, 7, 38, 8, 5, 2, 4]
  | 116 => [0, 1, 2, 4, 18, 19, 21, 5, 28, 3, 10, 42, 8, 11, 9, 80, 84, 83, 85, 82, 14, 13, 16, 110, 12, 15, 6, 7]
  | 117 => [0, 1, 8, 3, 17, 16, 18, 15, 5, 2]
  | 120 => [0, 1, 2, 12, 11, 13, 10, 5]
  | 123 => [0, 2, 20, 1, 6, 5, 31, 4]
  | 126 => [0, 9, 3, 2]
  | 128 => [0, 9, 2, 3, 18, 4, 30, 41]
  | 129 => [0, 2, 5, 12, 1, 17, 20, 3, 7, 26, 31, 8, 36, 9, 48, 6]
  | 131 => [0, 1, 5, 3, 11, 4, 29, 2]
  | 132 => [1, 5, 0, 9, 3, 20, 4, 36, 49]
  | 133 => [0, 5, 2, 10, 1, 20, 4]
  | 134 => [0, 1, 3, 2, 24, 34, 6, 5, 40, 71, 4]
  | 135 => [0, 7, 3, 12, 1, 2, 33, 6]
  | 136 => [0, 1, 5, 3, 12, 2, 6, 24, 37, 7, 40, 64, 4]
  | 137 => [0, 4, 1, 9, 3, 2]
  | 138 => [0, 1, 9, 5, 14, 3, 2, 4, 47, 8]
  | 139 => [0, 1, 5, 16, 22, 30, 38, 6, 50, 9, 53, 10, 67, 7, 8, 87, 4]
  | 141 => [1, 8, 0, 15, 9, 22, 7, 28, 30, 36, 42, 44, 46, 4, 5, 6]
  | 143 => [1, 0, 2, 40, 6]
  | 144 => [0, 4, 17, 5, 37, 6, 42, 54, 8, 59, 7, 71, 77, 2, 3]
  | 150 => [0, 9, 2, 3, 23, 4]
  | 153 => [0, 8, 7, 9, 1, 5, 16, 4]
  | 159 => [0, 8, 7, 9, 1, 5, 16, 4]
  | 161 => [0, 1, 14, 17, 16, 18, 15, 7, 2, 8, 9, 30, 6]
  | 162 => [0, 8, 7, 9, 1, 5, 16, 4]
  | 166 => [0, 2, 1, 3, 5, 41, 7, 51, 50, 52, 49, 8, 10, 64, 63, 65, 62, 11, 13, 6]
  | 169 => [0, 1, 2, 6, 16, 5, 4, 25, 24, 26, 23, 7, 8, 9]
  | 171 => [0, 8, 7, 9, 1, 5, 16, 4]
  | 177 => [0, 1, 10, 13, 12, 14, 5, 24, 4]
  | 178 => [0, 1, 14, 17, 16, 18, 15, 7, 2, 8, 9, 30, 6]
  | 187 => [0, 8, 7, 9, 1, 5, 16, 4]
  | 188 => [0, 3, 1, 7, 14, 2, 9, 8, 25, 34, 6]
  | 189 => [0, 1, 4, 11, 3, 2]
  | 190 => [0, 4, 1, 10, 3, 2]
  | 191 => [5, 0, 9, 1, 16, 4]
  | 194 => [5, 1, 9, 0, 17, 4]
  | 203 => [1, 0, 6, 16, 5, 24, 23, 25, 22, 2, 8, 31, 3]
  | 205 => [1, 0, 2, 14, 6, 7, 3, 8, 29, 28, 30, 27, 11, 43, 4, 10]
  | 206 => [0, 8, 7, 9, 1, 5, 16, 4]
  | 207 => [0, 8, 7, 9, 1, 5, 16, 4]
  | 213 => [0, 8, 7, 9, 1, 5, 16, 4]
  | 217 => [0, 8, 7, 9, 1, 5, 16, 4]
  | 227 => [0, 8, 7, 9, 1, 5, 16, 4]
  | 228 => [0, 8, 7, 9, 1, 5, 16, 4]
  | 229 => [0, 8, 7, 9, 1, 5, 16, 4]
  | _ => []
def sd3 : Nat → List (Nat × Bool)
  | 5 => []
  | 6 => [(0, true), (1, true), (2, false), (3, true), (4, true), (5, true), (6, true), (7, true), (8, true), (9, true), (10, true), (11, true), (12, true), (14, true), (15, true), (13, false), (16, false), (17, false), (18, true), (19, true)]
  | _ => []
def sd4 : Nat → List (Nat × Bool)
  | 4 => []
  | 5 => []
  | 7 => [(0, true), (1, true), (2, true), (3, true), (4, false), (5, true), (6, true), (7, true), (8, true), (9, false), (10, true), (11, true), (12, true), (13, true), (15, true), (14, false), (16, false), (17, true), (18, true)]
  | _ => []
def sd6 : Nat → List (Nat × Bool)
  | 1 => []
  | 7 => [(0, true), (1, true), (2, true), (3, false), (4, false), (5, false), (6, true), (7, false)]
  | 12 => [(0, true), (1, true), (2, true), (3, true), (4, true), (5, true), (6, false), (7, true), (8, false), (9, false), (10, true), (11, false)]
  | _ => []
def sd7 : Nat → List (Nat × Bool)
  | 1 => []
  | 7 => [(0, true), (1, true), (2, true), (3, true), (4, true), (5, true), (6, true), (7, false), (8, false), (9, false), (10, true), (11, false)]
  | 11 => [(0, true), (1, true), (2, true), (3, true), (4, true), (5, true), (6, true), (7, true), (8, true), (9, true), (10, true), (11, true), (12, true), (13, true), (14, false), (15, true), (16, false), (17, false), (18, true), (19, false)]
  | _ => []
def sd8 : Nat → List (Nat × Bool)
  | 6 => [(0, true), (1, true), (2, true), (3, true), (4, true), (5, true), (6, true), (7, true), (8, true), (9, true), (10, false), (11, true)]
  | 11 => [(0, true), (1, true), (2, true), (3, true), (4, true), (5, true), (6, true), (7, true), (8, true), (9, true), (10, true), (11, true), (12, false), (13, true), (14, true), (15, true), (16, true), (17, true), (18, true), (19, true), (20, true), (21, true), (22, true), (23, true), (24, true), (25, true), (26, true), (27, false), (28, true), (29, true)]
  | _ => []
def sd9 : Nat → List (Nat × Bool)
  | 6 => [(0, true), (1, true), (2, true), (3, true), (4, true), (5, true), (6, true), (7, true), (8, true), (9, true), (10, true), (11, true), (12, true), (13, true), (14, true), (15, true), (16, true), (17, true), (18, true), (19, true), (20, true), (21, true), (22, false), (23, true), (24, true)]
  | _ => []
def sd10 : Nat → List (Nat × Bool)
  | 5 => [(0, true), (1, true), (2, true), (3, true), (4, true), (6, true), (7, true), (5, false), (8, true), (9, false), (10, false), (11, true)]
  | _ => []
def sd11 : Nat → List (Nat × Bool)
  | 5 => [(0, true), (1, true), (2, true), (3, true), (4, true), (5, true), (6, true), (7, true), (8, true), (9, true), (10, true), (12, true), (13, true), (14, true), (15, true), (16, true), (11, false), (17, true), (18, false), (19, false), (20, true)]
  | _ => []
def sd12 : Nat → List (Nat × Bool)
  | 2 => [(0, true), (1, true), (2, true), (3, true), (4, false), (5, true), (6, true), (7, true), (8, true), (9, false), (10, true), (11, true), (12, false), (13, true)]
  | _ => []
def sd14 : Nat → List (Nat × Bool)
  | 5 => [(0, true), (1, true), (2, true), (3, true), (4, true), (5, true), (6, true), (7, true), (8, true), (9, false), (10, true), (11, true)]
  | _ => []
def sd15 : Nat → List (Nat × Bool)
  | 1 => [(0, true), (1, false), (2, false), (3, true), (4, true), (5, true), (6, true), (7, true), (9, true), (8, false), (10, false), (11, true), (12, true)]
  | _ => []
def sd16 : Nat → List (Nat × Bool)
  | 1 => []
  | 9 => [(0, true), (1, true), (2, true), (3, true), (4, true), (5, true), (6, true), (7, true), (8, true), (9, true), (12, true), (13, true), (14, true), (15, true), (16, true), (17, true), (18, true), (19, true), (10, false), (11, true), (20, true), (21, true), (22, true)]
  | 13 => [(0, true), (1, true), (2, true), (3, true), (4, true), (5, true), (6, true), (7, true), (8, true), (9, true), (12, true), (13, true), (14, true), (15, true), (16, true), (17, true), (18, true), (20, true), (21, true), (22, true), (23, true), (24, true), (25, true), (10, false), (11, true), (19, true), (26, false), (27, true), (28, true), (29, true)]
  | _ => []
def sd18 : Nat → List (Nat × Bool)
  | 6 => [(0, true), (1, true), (2, true), (3, true), (4, true), (5, true), (6, true), (7, true), (8, true), (9, true), (10, false), (11, true)]
  | _ => []
def sd19 : Nat → List (Nat × Bool)
  | 6 => [(0, true), (1, true), (2, true), (3, true), (4, true), (5, true), (6, true), (7, true), (8, true), (9, true), (10, true), (11, true), (12, true), (13, true), (14, true), (15, true), (16, true), (17, false), (18, true)]
  | _ => []
def sd24 : Nat → List (Nat × Bool)
  | 1 => [(0, true), (2, true), (3, true), (4, true), (1, false), (5, true), (6, true), (7, true), (8, false), (9, true), (10, true), (11, true), (12, true), (13, true), (14, true), (15, true), (16, true), (17, true), (18, true), (19, true), (20, true), (21, true), (22, true), (23, true), (24, true), (25, true), (26, true), (27, true), (28, true), (29, true), (30, true)]
  | _ => []
def sd26 : Nat → List (Nat × Bool)
  | 15 => [(0, true), (1, true), (2, true), (3, true), (4, true), (5, true), (6, true), (7, true), (8, true), (9, true), (10, true), (11, true), (12, false), (13, false), (14, true), (15, true), (16, true), (17, false), (18, true), (19, true)]
  | 18 => [(0, true), (1, true), (2, true), (3, true), (4, true), (5, true), (6, true), (7, true), (8, true), (9, true), (10, true), (11, true), (12, true), (13, true), (14, false), (15, false), (16, true), (17, true), (18, true), (19, true), (20, true), (21, true), (22, true), (23, true), (27, true), (28, true), (29, true), (30, true), (24, false), (25, false), (26, false), (31, false), (32, true), (33, true)]
  | _ => []
def sd29 : Nat → List (Nat × Bool)
  | 6 => [(0, true), (1, true), (2, true), (3, true), (4, true), (5, true), (6, true), (7, true), (8, false), (9, true)]
  | _ => []
def sd30 : Nat → List (Nat × Bool)
  | 5 => [(0, true), (1, true), (2, true), (3, false), (4, false), (5, false), (6, true), (7, false)]
  | 7 => [(0, true), (1, true), (2, true), (3, false), (4, false), (5, false), (6, true), (7, false)]
  | 9 => [(0, true), (1, true), (2, true), (3, false), (4, false), (5, false), (6, true), (7, false)]
  | 11 => [(0, true), (1, true), (2, true), (3, false), (4, false), (5, false), (6, true), (7, false)]
  | 14 => [(0, true), (1, true), (2, true), (3, true), (4, true), (5, true), (6, true), (7, true), (8, true), (9, false), (10, true), (11, true)]
  | _ => []
def sd31 : Nat → List (Nat × Bool)
  | 17 => [(0, true), (1, true), (2, true), (3, true), (4, true), (5, true), (6, false), (7, true)]
  | 22 => [(0, true), (1, true), (2, true), (3, true), (4, true), (5, true), (6, true), (7, false), (8, true), (9, true), (10, true), (11, true), (12, true)]
  | 23 => [(0, true), (1, true), (2, true), (3, true), (4, true), (5, true), (6, true), (8, true), (9, true), (10, true), (11, true), (12, true), (13, true), (7, false), (14, false), (15, true)]
  | _ => []
def sd35 : Nat → List (Nat × Bool)
  | 8 => [(0, true), (1, true), (2, true), (3, false), (4, false), (5, false), (6, true), (7, false)]
  | 10 => [(0, true), (1, true), (2, true), (3, false), (4, false), (5, false), (6, true), (7, false)]
  | 12 => [(0, true), (1, true), (2, true), (3, false), (4, false), (5, false), (6, true), (7, false)]
  | 23 => [(0, true), (1, true), (4, true), (5, true), (2, false), (3, false), (6, true), (7, false)]
  | _ => []
def sd36 : Nat → List (Nat × Bool)
  | 1 => [(0, true), (1, true), (2, true), (3, true), (4, true), (5, true), (6, true), (7, true), (8, true), (9, true), (10, true), (11, true), (12, true), (13, true), (14, true), (15, true), (16, true)]
  | 3 => [(0, true), (1, true), (2, true), (3, true), (4, true), (5, true), (6, true), (7, true), (8, true), (9, true), (10, false)]
  | _ => []
def sd52 : Nat → List (Nat × Bool)
  | 1 => [(0, true), (1, true), (2, false), (3, false), (4, true)]
  | _ => []
def sd56 : Nat → List (Nat × Bool)
  | 13 => [(0, true), (1, true), (2, true), (3, true), (5, true), (6, true), (4, false), (7, false), (8, true), (9, true), (10, true), (11, true), (12, true), (13, false), (14, true), (15, true)]
  | _ => []
def sd57 : Nat → List (Nat × Bool)
  | 2 => [(0, true), (1, true), (2, true), (3, true), (4, true), (5, true), (6, true), (7, true), (8, true), (9, true), (10, true), (11, true), (12, true), (13, true), (14, true), (15, true)]
  | 9 => [(0, true), (1, true), (2, true), (3, true), (4, true), (5, true), (6, true), (7, true), (8, true), (9, true), (10, true), (11, true), (12, true), (14, true), (13, false), (15, false), (16, false)]
  | _ => []
def sd60 : Nat → List (Nat × Bool)
  | 5 => [(0, true), (1, true), (2, true), (3, false)]
  | _ => []
def sd63 : Nat → List (Nat × Bool)
  | 9 => [(0, true), (1, true), (2, true), (3, true), (4, true), (5, true), (6, true), (7, false), (8, true), (9, true), (10, true), (12, true), (13, true), (14, true), (15, true), (11, false), (16, false), (17, true), (18, true)]
  | _ => []
def sd69 : Nat → List (Nat × Bool)
  | 4 => [(0, true), (1, true), (2, true), (3, false), (4, true), (5, false), (6, false), (7, true), (8, false)]
  | 11 => [(0, true), (1, true), (2, true), (3, false), (4, false), (5, false), (6, true), (7, false)]
  | _ => []
def sd70 : Nat → List (Nat × Bool)
  | 2 => []
  | 8 => [(0, true), (1, true), (2, true), (3, false), (4, false), (5, false), (6, true), (7, false)]
  | 11 => [(0, true), (1, true), (2, true), (3, true), (4, true), (6, true), (7, true), (5, false), (8, true), (9, false), (10, false), (11, true), (12, false)]
  | _ => []
def sd71 : Nat → List (Nat × Bool)
  | 2 => []
  | 13 => [(0, true), (1, true), (2, true), (3, false), (4, false), (5, false), (6, true), (7, false)]
  | _ => []
def sd72 : Nat → List (Nat × Bool)
  | 3 => [(0, true), (1, true), (2, true), (4, true), (5, true), (3, false), (6, true), (7, false)]
  | _ => []
def sd73 : Nat → List (Nat × Bool)
  | 10 => [(0, true), (1, true), (2, true), (3, true), (4, true), (5, true), (6, true), (7, true), (8, true)]
  | 20 => [(0, true), (1, true), (2, true), (3, true), (4, true), (5, true), (6, true), (7, true), (8, true), (9, false)]
  | 34 => [(0, true), (1, true), (2, true), (3, true), (4, true), (5, true), (6, true), (7, true), (8, false), (9, true)]
  | _ => []
def sd74 : Nat → List (Nat × Bool)
  | 17 => [(0, true), (1, true), (2, true), (3, true), (4, true), (5, true), (6, true), (7, true), (8, true), (9, false)]
  | 22 => [(0, true), (1, true), (2, true), (3, true), (4, true), (5, true), (6, true), (8, true), (9, true), (10, true), (11, true), (12, true), (13, true), (7, false), (14, false)]
  | _ => []
def sd75 : Nat → List (Nat × Bool)
  | 13 => []
  | 16 => [(0, true), (1, true), (3, true), (4, true), (5, true), (6, true), (7, true), (8, true), (2, false), (9, false), (10, false), (11, true)]
  | _ => []
def sd76 : Nat → List (Nat × Bool)
  | 1 => [(0, true), (1, true), (2, true), (3, true), (4, true), (5, false), (6, true), (7, true), (8, true), (9, true)]
  | 5 => [(0, true), (1, true), (2, true), (3, true), (4, true), (5, true), (6, true), (7, true), (8, false), (9, true)]
  | 15 => [(0, true), (1, true), (2, true), (3, true), (4, true), (5, true), (6, true), (7, true), (8, true), (9, true), (10, true), (11, true), (12, true), (13, true), (14, true), (15, true), (16, true), (17, true), (18, true), (19, true), (20, true), (21, true), (22, true), (23, true), (24, true), (25, true), (26, true), (27, true), (28, true), (29, true), (30, true), (31, false), (32, true), (33, true)]
  | _ => []
def sd83 : Nat → List (Nat × Bool)
  | 4 => [(0, true), (1, true), (2, true), (3, true), (4, false), (5, true), (6, false), (7, false), (8, false), (9, true), (10, false)]
  | 7 => [(0, true), (1, true), (2, true), (3, false), (4, false), (5, false), (6, true), (7, false)]
  | _ => []
def sd84 : Nat → List (Nat × Bool)
  | 20 => [(0, true), (1, true), (2, true), (3, false), (4, false), (5, false), (6, true), (7, false)]
  | 40 => []
  | _ => []
def sd88 : Nat → List (Nat × Bool)
  | 7 => [(0, true), (1, true), (2, true), (3, true), (4, true), (6, true), (7, true), (5, false), (8, false), (9, true), (10, true), (11, true), (12, true)]
  | 9 => [(0, true), (1, true), (2, true), (3, true), (4, true), (6, true), (7, true), (10, true), (11, true), (13, true), (14, true), (5, false), (8, false), (9, true), (12, false), (15, false), (16, true), (17, true), (18, true), (19, true), (20, true)]
  | 17 => [(0, true), (1, true), (2, true), (3, true), (4, true), (5, true), (6, true), (7, true), (8, true), (9, true), (10, true), (11, true), (12, true), (13, true), (14, true), (15, true), (16, true)]
  | 21 => [(0, true), (1, true), (2, true), (3, true), (4, true), (5, true), (6, true), (7, true), (8, true), (9, true), (10, true), (11, true), (12, true), (13, true), (14, true), (15, true), (16, true), (17, true), (18, true), (19, true), (20, true), (21, true), (22, true), (23, true), (24, true), (25, true), (26, true)]
  | 25 => [(0, true), (1, true), (2, true), (3, true), (4, true), (5, true), (6, true), (7, true), (8, true), (9, true), (10, true), (11, true), (12, true), (13, true), (14, true), (15, true), (16, true), (17, true), (18, true), (19, true), (20, true), (21, true), (22, true), (23, true), (24, true), (25, true), (26, true), (27, true), (28, true), (29, true), (30, true), (31, true), (32, true), (33, true), (34, true), (35, true), (36, true)]
  | _ => []
def sd99 : Nat → List (Nat × Bool)
  | 19 => [(0, true), (1, true), (2, true), (3, true), (4, false), (5, true), (6, true), (7, true), (8, true), (10, true), (11, true), (9, false), (12, false), (13, true)]
  | _ => []
def sd104 : Nat → List (Nat × Bool)
  | 1 => [(0, true), (1, true), (2, true), (3, true), (4, true), (5, true), (6, false), (7, true), (8, false), (9, true)]
  | _ => []
def sd110 : Nat → List (Nat × Bool)
  | 5 => [(0, true), (1, true), (2, true), (3, true), (4, true), (5, true), (6, true), (7, true), (8, true), (9, true), (10, true), (11, false), (12, true), (13, true), (14, true), (15, true), (16, true), (17, true), (18, true), (19, true), (20, true), (21, false), (22, true), (23, true)]
  | _ => []
def sd112 : Nat → List (Nat × Bool)
  | 1 => [(0, true), (1, true), (2, false), (3, true), (4, true), (5, true), (6, true), (7, true), (8, true), (9, true), (10, true), (11, true), (12, true), (13, true), (14, true), (15, false), (16, false), (17, true), (18, true), (19, true), (20, true), (21, true), (23, true), (24, true), (22, false), (25, false), (26, true), (27, true)]
  | _ => []
def sd115 : Nat → List (Nat × Bool)
  | 1 => [(0, true), (1, true), (2, true), (3, true), (4, true), (5, true), (6, true), (7, true), (8, false), (9, true), (10, true), (11, true), (12, true), (13, true)]
  | 2 => [(0, true), (1, true), (2, true), (3, true), (4, false), (5, false), (6, true), (7, true), (8, true), (9, true), (10, true), (11, true), (12, true), (13, false), (14, true), (15, true), (16, true), (17, true), (19, true), (20, true), (18, false), (21, false), (22, true), (23, true)]
  | _ => []
def sd116 : Nat → List (Nat × Bool)
  | 12 => [(0, true), (1, true), (2, true), (3, true), (4, true), (5, true), (6, true), (7, true), (8, true), (9, true), (10, true), (11, true), (12, true), (13, true), (14, true), (15, true), (16, true), (17, true), (18, true), (19, true), (20, true), (21, true), (22, true), (23, true), (24, true), (25, true), (26, true), (27, true), (28, true), (29, true), (30, true), (31, true)]
  | 18 => [(0, true), (1, true), (2, true), (3, true), (4, true), (5, true), (6, true), (7, true), (8, true), (9, true), (10, true), (11, true), (12, true), (13, true), (14, true), (15, false), (16, false), (17, true), (18, true), (19, true), (20, true), (21, true)]
  | _ => []
def sd128 : Nat → List (Nat × Bool)
  | 10 => [(0, true), (1, true), (2, true), (3, false), (4, false), (5, false), (6, true), (7, false)]
  | 13 => [(0, true), (1, true), (2, false), (3, false), (4, true), (5, false)]
  | _ => []
def sd129 : Nat → List (Nat × Bool)
  | 14 => [(0, true), (1, true), (2, true), (3, true), (4, true), (5, true), (6, true), (7, false), (8, true)]
  | _ => []
def sd132 : Nat → List (Nat × Bool)
  | 4 => [(0, true), (2, true), (3, true), (4, true), (5, true), (6, true), (1, false), (7, false), (8, true)]
  | 6 => [(0, true), (1, true), (2, true), (4, true), (5, true), (6, true), (7, true), (8, true), (3, false), (9, false)]
  | _ => []
def sd134 : Nat → List (Nat × Bool)
  | 3 => [(0, true), (1, true), (2, true), (3, true), (5, true), (6, true), (7, true), (8, true), (4, false), (9, true)]
  | 9 => [(0, true), (1, true), (2, true), (3, true), (4, true), (5, true), (6, true), (7, true), (8, true), (9, true), (10, true), (11, true), (12, true), (13, true), (14, true), (15, true), (16, true), (17, true), (18, true), (19, true), (20, true), (21, true), (22, true), (23, true), (24, true), (25, true), (26, true), (27, false), (28, true)]
  | _ => []
def sd136 : Nat → List (Nat × Bool)
  | 7 => [(0, true), (1, true), (2, true), (3, true), (4, true), (5, true), (7, true), (8, true), (9, true), (6, false), (10, false), (11, true), (12, true)]
  | 12 => [(0, true), (1, true), (2, true), (3, true), (4, true), (5, true), (6, true), (7, true), (8, true), (9, true), (10, true), (11, true), (12, true), (13, true), (14, true), (15, true), (16, true), (17, true), (18, true), (19, true), (20, true), (21, true)]
  | _ => []
def sd138 : Nat → List (Nat × Bool)
  | 4 => [(0, true), (1, true), (2, true), (3, true), (4, true), (5, true), (6, true), (7, true), (8, true), (9, true), (10, true), (11, true), (12, true), (13, true), (14, true), (15, true), (16, true), (17, true), (18, true), (19, true), (20, true), (21, true), (22, true), (23, true), (24, true), (25, true), (27, true), (26, false), (28, false), (29, true), (30, true)]
  | _ => []
def sd150 : Nat → List (Nat × Bool)
  | 7 => [(0, true), (1, true), (2, true), (3, false), (4, false), (5, false), (6, true), (7, false)]
  | _ => []
def sd151 : Nat → List (Nat × Bool)
  | 1 => [(0, true), (1, true), (2, true), (3, true), (4, true), (5, true), (6, true), (7, true), (8, true), (9, true), (10, true), (11, true), (12, true), (13, true), (14, true), (15, true), (16, true), (17, true), (18, true)]
  | 2 => [(0, true), (1, true), (2, true), (3, true), (4, true), (5, true), (6, true), (7, true), (8, true), (9, true), (10, true), (11, true), (12, true), (13, true), (14, true), (15, true), (16, true), (17, true), (18, true), (19, true), (20, true), (21, true), (22, true), (23, true), (24, true), (25, true), (26, true), (27, true), (28, true), (29, true), (30, true), (31, true), (32, true), (33, true), (34, true), (35, true), (36, true), (37, true), (38, true)]
  | _ => []
def sd165 : Nat → List (Nat × Bool)
  | 2 => [(0, true), (1, true), (2, true), (3, true), (4, true), (5, true), (6, true), (7, true), (8, true), (9, true), (10, true), (11, true), (12, true), (13, true), (14, true), (15, true), (16, true), (17, true), (18, true), (19, true), (20, true), (21, true), (22, true), (23, true), (24, true)]
  | _ => []
def sd166 : Nat → List (Nat × Bool)
  | 1 => [(0, true), (1, true), (2, true), (3, true), (4, true), (5, true), (6, true), (7, true), (8, true), (9, true), (10, true), (11, true), (12, true), (13, true), (14, true), (15, true), (16, true), (17, true), (18, true), (19, true), (20, true), (21, true), (22, true), (23, true), (24, true), (25, true), (26, true), (27, true)]
  | 14 => [(0, true), (1, true), (2, true), (3, true), (4, true), (5, true), (6, true), (7, true), (8, false), (9, true), (10, false), (11, false), (12, true)]
  | _ => []
def sd177 : Nat → List (Nat × Bool)
  | 6 => [(0, true), (1, true), (2, true), (3, true), (4, true), (5, true), (6, true), (7, true), (8, true)]
  | _ => []
def sd184 : Nat → List (Nat × Bool)
  | 1 => [(0, true), (1, true), (2, true), (4, true), (5, true), (3, false), (6, false), (7, true), (8, true), (9, false)]
  | 2 => [(0, true), (1, true), (2, true), (4, true), (5, true), (3, false), (6, false), (7, true), (8, true), (9, false)]
  | _ => []
def sd188 : Nat → List (Nat × Bool)
  | 9 => [(0, true), (1, true), (2, true), (3, true), (4, true), (5, true), (6, true), (7, true), (8, true), (9, true), (10, false), (11, false), (12, false), (13, true)]
  | _ => []
def sd205 : Nat → List (Nat × Bool)
  | 7 => [(0, true), (1, true), (2, true), (3, true), (4, true), (5, true), (7, true), (6, false), (8, false), (9, true)]
  | _ => []
def sdT : Nat → Nat → List (Nat × Bool)
  | 3 => sd3
  | 4 => sd4
  | 6 => sd6
  | 7 => sd7
  | 8 => sd8
  | 9 => sd9
  | 10 => sd10
  | 11 => sd11
  | 12 => sd12
  | 14 => sd14
  | 15 => sd15
  | 16 => sd16
  | 18 => sd18
  | 19 => sd19
  | 24 => sd24
  | 26 => sd26
  | 29 => sd29
  | 30 => sd30
  | 31 => sd31
  | 35 => sd35
  | 36 => sd36
  | 52 => sd52
  | 56 => sd56
  | 57 => sd57
  | 60 => sd60
  | 63 => sd63
  | 69 => sd69
  | 70 => sd70
  | 71 => sd71
  | 72 => sd72
  | 73 => sd73
  | 74 => sd74
  | 75 => sd75
  | 76 => sd76
  | 83 => sd83
  | 84 => sd84
  | 88 => sd88
  | 99 => sd99
  | 104 => sd104
  | 110 => sd110
  | 112 => sd112
  | 115 => sd115
  | 116 => sd116
  | 128 => sd128
  | 129 => sd129
  | 132 => sd132
  | 134 => sd134
  | 136 => sd136
  | 138 => sd138
  | 150 => sd150
  | 151 => sd151
  | 165 => sd165
  | 166 => sd166
  | 177 => sd177
  | 184 => sd184
  | 188 => sd188
  | 205 => sd205
  | _ => fun _ => []
def sx3 : Nat → Option (Sch × List Nat)
  | 5 => some (.look 0 (.look 2 (.eff (.cons 1 (.eff (.cons 3 (.eff (.cons 4 (.eff (.cons 5 (.eff (.cons 6 (.eff (.cons 7 (.done) (.nil))) (.nil))) (.nil))) (.cons 5 (.eff (.cons 4 (.eff (.cons 6 (.eff (.cons 7 (.done) (.nil))) (.nil))) (.nil))) (.nil)))) (.cons 4 (.eff (.cons 3 (.eff (.cons 5 (.eff (.cons 6 (.eff (.cons 7 (.done) (.nil))) (.nil))) (.nil))) (.cons 5 (.eff (.cons 3 (.eff (.cons 6 (.eff (.cons 7 (.done) (.nil))) (.nil))) (.nil))) (.nil)))) (.cons 5 (.eff (.cons 3 (.eff (.cons 4 (.eff (.cons 6 (.eff (.cons 7 (.done) (.nil))) (.nil))) (.nil))) (.cons 4 (.eff (.cons 3 (.eff (.cons 6 (.eff (.cons 7 (.done) (.nil))) (.nil))) (.nil))) (.nil)))) (.nil))))) (.cons 4 (.eff (.cons 1 (.eff (.cons 3 (.eff (.cons 5 (.eff (.cons 6 (.eff (.cons 7 (.done) (.nil))) (.nil))) (.nil))) (.cons 5 (.eff (.cons 3 (.eff (.cons 6 (.eff (.cons 7 (.done) (.nil))) (.nil))) (.nil))) (.nil)))) (.cons 5 (.eff (.cons 1 (.eff (.cons 3 (.eff (.cons 6 (.eff (.cons 7 (.done) (.nil))) (.nil))) (.nil))) (.nil))) (.nil)))) (.cons 5 (.eff (.cons 1 (.eff (.cons 3 (.eff (.cons 4 (.eff (.cons 6 (.eff (.cons 7 (.done) (.nil))) (.nil))) (.nil))) (.cons 4 (.eff (.cons 3 (.eff (.cons 6 (.eff (.cons 7 (.done) (.nil))) (.nil))) (.nil))) (.nil)))) (.cons 4 (.eff (.cons 1 (.eff (.cons 3 (.eff (.cons 6 (.eff (.cons 7 (.done) (.nil))) (.nil))) (.nil))) (.nil))) (.nil)))) (.nil)))))), [3, 4, 1])
  | _ => none
def sx4 : Nat → Option (Sch × List Nat)
  | 4 => some (.look 0 (.look 1 (.look 3 (.eff (.cons 2 (.eff (.cons 4 (.look 5 (.eff (.cons 6 (.eff (.cons 7 (.done) (.nil))) (.nil)))) (.cons 6 (.eff (.cons 4 (.look 5 (.eff (.cons 7 (.done) (.nil)))) (.nil))) (.nil)))) (.cons 4 (.eff (.cons 2 (.look 5 (.eff (.cons 6 (.eff (.cons 7 (.done) (.nil))) (.nil)))) (.cons 6 (.eff (.cons 2 (.look 5 (.eff (.cons 7 (.done) (.nil)))) (.nil))) (.nil)))) (.cons 6 (.eff (.cons 2 (.eff (.cons 4 (.look 5 (.eff (.cons 7 (.done) (.nil)))) (.nil))) (.cons 4 (.eff (.cons 2 (.look 5 (.eff (.cons 7 (.done) (.nil)))) (.nil))) (.nil)))) (.nil))))))), [1, 2, 5, 4, 3, 6])
  | 5 => some (.look 0 (.look 1 (.look 3 (.eff (.cons 2 (.eff (.cons 4 (.look 5 (.eff (.cons 6 (.eff (.cons 7 (.done) (.nil))) (.nil)))) (.cons 6 (.eff (.cons 4 (.look 5 (.eff (.cons 7 (.done) (.nil)))) (.nil))) (.nil)))) (.cons 4 (.eff (.cons 2 (.look 5 (.eff (.cons 6 (.eff (.cons 7 (.done) (.nil))) (.nil)))) (.cons 6 (.eff (.cons 2 (.look 5 (.eff (.cons 7 (.done) (.nil)))) (.nil))) (.nil)))) (.cons 6 (.eff (.cons 2 (.eff (.cons 4 (.look 5 (.eff (.cons 7 (.done) (.nil)))) (.nil))) (.cons 4 (.eff (.cons 2 (.look 5 (.eff (.cons 7 (.done) (.nil)))) (.nil))) (.nil)))) (.nil))))))), [4, 3, 6, 7])
  | _ => none
def sx6 : Nat → Option (Sch × List Nat)
  | 1 => some (.look 0 (.look 1 (.look 2 (.look 3 (.look 4 (.look 5 (.look 6 (.look 7 (.look 8 (.look 9 (.eff (.cons 10 (.look 11 (.eff (.cons 12 (.eff (.cons 13 (.done) (.nil))) (.nil)))) (.cons 12 (.eff (.cons 10 (.look 11 (.eff (.cons 13 (.done) (.nil)))) (.nil))) (.nil))))))))))))), [1, 3, 2])
  | _ => none
def sx7 : Nat → Option (Sch × List Nat)
  | 1 => some (.look 0 (.look 1 (.look 2 (.look 3 (.look 4 (.look 5 (.look 6 (.look 7 (.look 8 (.look 9 (.eff (.cons 10 (.look 11 (.eff (.cons 12 (.eff (.cons 13 (.done) (.nil))) (.nil)))) (.cons 12 (.eff (.cons 10 (.look 11 (.eff (.cons 13 (.done) (.nil)))) (.nil))) (.nil))))))))))))), [1, 3, 2])
  | _ => none
def sx16 : Nat → Option (Sch × List Nat)
  | 1 => some (.look 0 (.look 1 (.look 4 (.look 5 (.eff (.cons 2 (.look 3 (.eff (.cons 6 (.eff (.cons 7 (.look 8 (.look 9 (.done))) (.nil))) (.nil)))) (.cons 6 (.eff (.cons 2 (.look 3 (.eff (.cons 7 (.look 8 (.look 9 (.done))) (.nil)))) (.nil))) (.nil))))))), [2, 5, 1])
  | _ => none
def sx70 : Nat → Option (Sch × List Nat)
  | 2 => some (.look 0 (.look 1 (.look 2 (.look 5 (.look 6 (.eff (.cons 3 (.look 4 (.look 7 (.eff (.cons 8 (.eff (.cons 9 (.done) (.nil))) (.nil))))) (.cons 8 (.eff (.cons 3 (.look 4 (.look 7 (.eff (.cons 9 (.done) (.nil))))) (.nil))) (.nil)))))))), [0, 4, 2])
  | _ => none
def sx71 : Nat → Option (Sch × List Nat)
  | 2 => some (.look 0 (.look 1 (.look 2 (.look 4 (.look 5 (.eff (.cons 3 (.look 6 (.eff (.cons 7 (.eff (.cons 8 (.done) (.nil))) (.nil)))) (.cons 7 (.eff (.cons 3 (.look 6 (.eff (.cons 8 (.done) (.nil)))) (.nil))) (.nil)))))))), [0, 4, 2])
  | _ => none
def sx75 : Nat → Option (Sch × List Nat)
  | 13 => some (.look 0 (.look 1 (.look 2 (.look 3 (.look 4 (.look 5 (.look 6 (.eff (.cons 7 (.eff (.cons 8 (.eff (.cons 9 (.done) (.nil))) (.nil))) (.cons 8 (.eff (.cons 7 (.eff (.cons 9 (.done) (.nil))) (.nil))) (.nil)))))))))), [8, 4, 5, 2, 6])
  | _ => none
def sx84 : Nat → Option (Sch × List Nat)
  | 40 => some (.look 0 (.look 2 (.look 4 (.look 5 (.eff (.cons 1 (.eff (.cons 3 (.look 6 (.eff (.cons 7 (.done) (.nil)))) (.nil))) (.cons 3 (.eff (.cons 1 (.look 6 (.eff (.cons 7 (.done) (.nil)))) (.nil))) (.nil))))))), [0, 8, 2])
  | _ => none
def sx56 : Nat → Option (Sch × List Nat)
  | 13 => some (.look 0 (.look 1 (.look 2 (.look 3 (.look 5 (.eff (.cons 6 (.eff (.cons 4 (.eff (.cons 7 (.look 8 (.look 9 (.look 10 (.look 11 (.look 12 (.eff (.cons 13 (.look 14 (.look 15 (.done))) (.nil)))))))) (.nil))) (.nil))) (.cons 4 (.look 6 (.eff (.cons 7 (.look 8 (.look 9 (.look 10 (.look 11 (.look 12 (.eff (.cons 13 (.look 14 (.look 15 (.done))) (.nil)))))))) (.nil)))) (.nil)))))))), [4])
  | _ => none
def sxT : Nat → Nat → Option (Sch × List Nat)
  | 3 => sx3
  | 4 => sx4
  | 6 => sx6
  | 7 => sx7
  | 16 => sx16
  | 70 => sx70
  | 71 => sx71
  | 75 => sx75
  | 84 => sx84
  | 56 => sx56
  | _ => fun _ => none
def rsT : Nat → List Nat
  | _ => []
def dfT (f : Nat) : Bool := ([] : List Nat).elem f
def tabT (f : Nat) : FT := { keep := keepT f, sd := sdT f, sx := sxT f, rs := rsT f, df := dfT f }
def okT (f : Nat) : Bool := ([2, 3, 4, 5, 6, 7, 8, 9, 10, 11, 12, 13, 14, 15, 16, 17, 18, 19, 20, 21, 22, 23, 24, 25, 26, 27, 28, 29, 30, 31, 32, 33, 34, 35, 36, 37, 38, 39, 40, 41, 42, 43, 44, 45, 46, 47, 48, 49, 50, 51, 52, 53, 54, 55, 56, 57, 58, 59, 60, 61, 62, 63, 64, 65, 66, 67, 68, 69, 70, 71, 72, 73, 74, 75, 76, 77, 78, 79, 80, 81, 82, 83, 84, 85, 86, 87, 88, 89, 90, 91, 92, 93, 94, 95, 96, 97, 98, 99, 100, 101, 102, 103, 104, 105, 106, 107, 108, 109, 110, 111, 112, 113, 114, 115, 116, 117, 118, 119, 120, 121, 122, 123, 124, 125, 126, 127, 128, 129, 130, 131, 132, 133, 134, 135, 136, 137, 138, 139, 140, 141, 142, 143, 144, 145, 146, 147, 148, 149, 150, 151, 152, 153, 154, 155, 156, 157, 158, 159, 160, 161, 162, 163, 164, 165, 166, 167, 168, 169, 170, 171, 172, 173, 174, 175, 176, 177, 178, 179, 180, 181, 182, 183, 184, 185, 186, 187, 188, 189, 190, 191, 192, 193, 194, 195, 196, 197, 198, 199, 200, 201, 202, 203, 204, 205, 206, 207, 208, 209, 210, 211, 212, 213, 214, 215, 216, 217, 218, 219, 220, 221, 222, 223, 224, 225, 226, 227, 228, 229, 251] : List Nat).elem f
set_option maxRecDepth 100000 in
theorem funcs_size : Tryz.prog.funcs.size = 252 := by kernel_rfl
theorem all_more (p : Nat → Bool) (a b : Nat) (h : (List.range a).all p = true) (h2 : (List.range b).all (fun i => p (a + i)) = true) : (List.range (a + b)).all p = true := by
  rw [List.range_add, List.all_append, h, List.all_map]
  exact h2
set_option maxRecDepth 100000 in
theorem tab_0 : (List.range 42).all (fun i => funcOk Tryz.prog tabT (0 + i)) = true := by kernel_rfl
set_option maxRecDepth 100000 in
theorem tab_1 : (List.range 42).all (fun i => funcOk Tryz.prog tabT (42 + i)) = true := by kernel_rfl
set_option maxRecDepth 100000 in
theorem tab_2 : (List.range 42).all (fun i => funcOk Tryz.prog tabT (84 + i)) = true := by kernel_rfl
set_option maxRecDepth 100000 in
theorem tab_3 : (List.range 42).all (fun i => funcOk Tryz.prog tabT (126 + i)) = true := by kernel_rfl
set_option maxRecDepth 100000 in
theorem tab_4 : (List.range 42).all (fun i => funcOk Tryz.prog tabT (168 + i)) = true := by kernel_rfl
set_option maxRecDepth 100000 in
theorem tab_5 : (List.range 42).all (fun i => funcOk Tryz.prog tabT (210 + i)) = true := by kernel_rfl
theorem tab_all : (List.range 252).all (funcOk Tryz.prog tabT) = true := by
  have h0 : (List.range 42).all (funcOk Tryz.prog tabT) = true := by simpa using tab_0
  have h1 := all_more (funcOk Tryz.prog tabT) 42 42 h0 tab_1
  have h2 := all_more (funcOk Tryz.prog tabT) 84 42 h1 tab_2
  have h3 := all_more (funcOk Tryz.prog tabT) 126 42 h2 tab_3
  have h4 := all_more (funcOk Tryz.prog tabT) 168 42 h3 tab_4
  have h5 := all_more (funcOk Tryz.prog tabT) 210 42 h4 tab_5
  exact h5
set_option maxRecDepth 100000 in
theorem ok_all : (List.range 252).all (fun f => !okT f || callable Tryz.prog f) = true := by kernel_rfl
end Go.Proofs.YtlfkefbhdmfllaaGreatDoor
