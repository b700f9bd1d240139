/- The tables for the closed run: which slots are kept, which order is taken. Printed by tab.py and Gen.lean. -/
import Derived.Test.YtmgmknpgikgnlaaGreatDe1
namespace Go.Proofs.YtmgmknpgikgnlaaGreat
def keepT : Nat → List Nat
  | 3 => [0, 1, 2, 17, 3, 20, 4, 8, 7, 9, 47, 5, 10, 12, 11, 66, 69, 68, 70, 13, 94, 99, 98, 100, 97, 15, 109, 6]
  | 5 => [0, 2, 6, 5, 1, 21, 7, 45, 4]
  | 6 => [0, 1, 2, 11, 3, 7, 20, 6, 8, 25, 34, 45, 4, 5]
  | 7 => [0, 1, 2, 11, 16, 3, 6, 25, 7, 30, 8, 5, 66, 74, 4]
  | 9 => [0, 2, 10, 5, 1, 6, 22, 7, 4]
  | 10 => [0, 1, 10, 13, 12, 14, 5, 24, 4]
  | 12 => [0, 1, 2, 3, 46, 5, 51, 6, 7, 90, 8, 95, 109, 4]
  | 13 => [0, 1, 9, 10, 15, 20, 19, 21, 18, 3, 5, 33, 32, 34, 31, 7, 2]
  | 14 => [0, 1, 8, 14, 4, 20, 3, 5, 36, 2]
  | 16 => [0, 1, 13, 12, 14, 11, 6, 8, 7, 2, 9, 33, 4, 10, 5]
  | 17 => [0, 1, 10, 9, 11, 8, 7, 2, 22, 4, 5]
  | 18 => [0, 8, 7, 9, 1, 5, 16, 4]
  | 21 => [0, 5, 11, 2, 3, 1, 24, 23, 25, 22, 4, 8, 7]
  | 24 => [0, 1, 10, 13, 12, 14, 5, 24, 4]
  | 25 => [0, 1, 14, 17, 16, 18, 15, 7, 2, 8, 9, 30, 6]
  | 26 => [0, 1, 14, 17, 16, 18, 15, 7, 2, 8, 9, 30, 6]
  | 27 => [0, 1, 10, 5, 14, 25, 4]
  | 28 => [0, 5, 20, 22, 6, 31, 40, 63, 2, 3, 4]
  | 29 => [0, 1, 3, 4, 21, 2, 27, 5, 33, 41, 6, 47, 57, 7, 69, 8, 98]
  | 30 => [0, 2, 3, 5, 32, 6, 7, 40, 1, 9, 58, 57, 59, 56, 12, 65, 64, 66, 13, 14, 10, 8, 15, 104, 16]
  | 34 => [0, 3, 18, 4, 5, 36, 6, 45, 7, 62, 2]
  | 35 => [0, 3, 17, 4, 32, 34, 5, 2]
  | 36 => [0, 3, 18, 5, 26, 4, 6, 7, 55, 2]
  | 39 => [0, 3, 1, 18, 4, 43, 2, 5, 49, 60, 7, 68, 9, 8, 80, 92, 10, 100, 6, 11, 111, 123, 12, 131, 13, 144]
  | 40 => [0, 4, 1, 20, 3, 30, 2, 5, 51, 7, 6, 63, 73, 86, 8, 94, 111, 10, 123, 12, 11, 135, 9, 13, 146, 14, 170, 172, 15, 183]
  | 41 => [0, 2, 1, 5, 6, 22, 4, 7, 30, 43, 51, 8, 66, 11, 10, 88, 9, 97]
  | 42 => [0, 1, 2, 3, 6, 5, 23, 7, 36, 9, 8, 46, 10, 54, 90, 4]
  | 43 => [0, 6, 2, 12, 7, 23, 1, 37, 4, 5]
  | 44 => [5, 0, 9, 1, 17, 4]
  | 45 => [4, 0, 8, 3, 2]
  | 47 => [0, 11, 10, 12, 9, 7, 1, 8, 5, 29, 4]
  | 48 => [2, 15, 14, 16, 13, 1, 10, 3, 12, 30, 8, 11, 4, 0, 7]
  | 53 => [0, 3, 9, 8, 10, 4, 2]
  | 57 => [0, 13, 5, 17, 7, 24, 10, 33, 6, 8, 9, 2, 3, 4]
  | 62 => [0, 9, 3, 2]
  | 64 => [0, 9, 2, 3, 18, 4, 30, 41]
  | 65 => [0, 12, 2, 22, 4, 6, 5, 3, 43, 7, 48]
  | 66 => [0, 2, 5, 12, 1, 17, 20, 3, 7, 26, 31, 8, 36, 9, 48, 6]
  | 68 => [0, 1, 5, 3, 11, 4, 29, 2]
  | 69 => [1, 5, 0, 9, 3, 20, 4, 36, 49]
  | 70 => [0, 5, 2, 10, 1, 20, 4]
  | 71 => [0, 1, 3, 2, 24, 34, 6, 5, 40, 71, 4]
  | 72 => [0, 7, 3, 12, 1, 2, 33, 6]
  | 73 => [0, 1, 5, 3, 12, 2, 6, 24, 37, 7, 40, 64, 4]
  | 74 => [0, 4, 1, 9, 3, 2]
  | 75 => [0, 1, 9, 5, 14, 3, 2, 4, 47, 8]
  | 76 => [0, 8, 7, 9, 1, 5, 16, 4]
  | 80 => [0, 11, 10, 12, 9, 3, 5, 20, 27, 26, 28, 25, 6, 8, 2]
  | 81 => [0, 11, 10, 12, 9, 3, 5, 20, 27, 26, 28, 25, 6, 8, 2]
  | 82 => [0, 1, 2, 14, 13, 15, 12, 8, 3, 10, 26, 7, 9, 4, 5, 6]
  | 83 => [3, 0, 8, 4, 13, 2]
  | 84 => [1, 0, 20, 24, 34, 4]
  | 85 => [0, 1, 7, 23, 11, 32, 8, 4, 9, 10, 40, 13, 12, 54, 15, 66, 14, 85, 90, 16, 99, 109, 113, 116, 120, 124, 5, 6]
  | 87 => [0, 12, 3, 2, 18, 23, 4, 33, 52, 5, 6, 7, 73, 8]
  | 88 => [3, 0, 8, 16, 4, 28, 40, 2]
  | 89 => [2, 3, 19, 0, 8, 10, 29, 1, 9, 12, 11, 56, 15, 75, 13, 14, 84, 16]
  | 90 => [0, 1, 11, 13, 15, 5, 2, 20, 30, 4]
  | 91 => [0, 3, 1, 7, 14, 2, 9, 8, 25, 34, 6]
  | 92 => [0, 1, 4, 11, 3, 2]
  | 93 => [0, 4, 1, 10, 3, 2]
  | 98 => [0, 1, 5, 16, 22, 30, 38, 6, 50, 9, 53, 10, 67, 7, 8, 87, 4]
  | 100 => [1, 8, 0, 15, 9, 22, 7, 28, 30, 36, 42, 44, 46, 4, 5, 6]
  | 102 => [1, 0, 2, 40, 6]
  | 103 => [0, 4, 17, 5, 37, 6, 42, 54, 8, 59, 7, 71, 77, 2, 3]
  | 110 => [0, 3, 14, 4, 22, 30, 38, 48, 2, 58, 5, 76, 6, 99, 106, 7, 119, 8]
  | 111 => [4, 3, 17, 5, 26, 0, 37, 2]
  | 113 => [0, 8, 7, 9, 1, 5, 16, 4]
  | 114 => [5, 0, 9, 1, 16, 4]
  | 117 => [5, 1, 9, 0, 17, 4]
  | 118 => [0, 9, 2, 3, 23, 4]
  | _ => []
def sd3 : Nat → List (Nat × Bool)
  | 16 => [(0, true), (1, true), (2, true), (3, true), (4, true), (5, true), (6, true), (7, true), (8, true), (9, true), (10, true), (11, true), (12, true), (13, true), (14, true), (15, true), (16, true), (17, true), (18, true), (19, true), (20, false), (21, true), (22, true)]
  | 22 => [(0, true), (1, true), (3, true), (4, true), (2, false), (5, false), (6, true)]
  | 25 => [(0, true), (2, true), (1, false), (3, false), (4, false), (5, true)]
  | _ => []
def sd7 : Nat → List (Nat × Bool)
  | 15 => [(0, true), (1, true), (2, true), (3, true), (4, true), (5, false), (6, true)]
  | _ => []
def sd8 : Nat → List (Nat × Bool)
  | 6 => [(0, true), (1, true), (2, true), (3, true)]
  | _ => []
def sd9 : Nat → List (Nat × Bool)
  | 9 => [(0, true), (1, true), (2, true), (3, true), (4, true), (5, true), (6, true), (7, true), (8, false), (9, false), (10, false), (11, false), (12, true)]
  | _ => []
def sd10 : Nat → List (Nat × Bool)
  | 6 => [(0, true), (1, true), (2, true), (3, true), (4, true), (5, true), (6, true), (7, true), (8, true)]
  | _ => []
def sd12 : Nat → List (Nat × Bool)
  | 13 => [(0, true), (1, true), (2, true), (3, true), (4, true), (5, true), (6, true), (7, true), (8, true), (9, true), (10, false), (11, true)]
  | _ => []
def sd15 : Nat → List (Nat × Bool)
  | 6 => [(0, true), (1, true), (2, true), (3, true), (4, true), (5, true), (6, true), (7, true), (8, true), (9, true), (10, true), (11, true), (12, true), (13, true), (14, true), (15, true), (16, true), (17, false), (18, true)]
  | _ => []
def sd20 : Nat → List (Nat × Bool)
  | 3 => [(0, true), (1, true), (2, true), (3, true), (4, true), (5, true), (6, true), (7, true), (8, true), (9, true), (10, true), (11, true), (12, true)]
  | 5 => [(0, true), (1, true), (2, true), (3, true), (4, true), (5, true), (6, true), (7, true), (8, true), (9, false), (10, true), (11, true), (12, false), (13, true)]
  | _ => []
def sd21 : Nat → List (Nat × Bool)
  | 2 => []
  | 6 => []
  | _ => []
def sd24 : Nat → List (Nat × Bool)
  | 6 => [(0, true), (1, true), (2, true), (3, true), (4, true), (5, true), (6, true), (7, true), (8, true)]
  | _ => []
def sd27 : Nat → List (Nat × Bool)
  | 6 => [(0, true), (1, true), (2, true), (3, true), (4, true), (5, true), (6, true), (7, true), (8, true)]
  | _ => []
def sd28 : Nat → List (Nat × Bool)
  | 5 => [(0, true), (1, true), (2, true), (3, false), (4, false), (5, false), (6, true), (7, false)]
  | 7 => [(0, true), (1, true), (2, true), (3, false), (4, false), (5, false), (6, true), (7, false)]
  | 9 => [(0, true), (1, true), (2, true), (3, false), (4, false), (5, false), (6, true), (7, false)]
  | 11 => [(0, true), (1, true), (2, true), (3, false), (4, false), (5, false), (6, true), (7, false)]
  | 14 => [(0, true), (1, true), (2, true), (3, true), (4, true), (5, true), (6, true), (7, true), (8, true), (9, false), (10, true), (11, true)]
  | _ => []
def sd29 : Nat → List (Nat × Bool)
  | 17 => [(0, true), (1, true), (2, true), (3, true), (4, true), (5, true), (6, false), (7, true)]
  | 22 => [(0, true), (1, true), (2, true), (3, true), (4, true), (5, true), (6, true), (7, false), (8, true), (9, true), (10, true), (11, true), (12, true)]
  | 23 => [(0, true), (1, true), (2, true), (3, true), (4, true), (5, true), (6, true), (8, true), (9, true), (10, true), (11, true), (12, true), (13, true), (7, false), (14, false), (15, true)]
  | _ => []
def sd32 : Nat → List (Nat × Bool)
  | 1 => [(0, true), (1, true), (2, true), (3, true), (4, true), (5, true), (6, true), (7, true), (8, true), (9, true), (10, true), (11, true), (12, true), (13, true), (14, true), (15, true), (16, true)]
  | 3 => [(0, true), (1, true), (2, true), (3, true), (4, true), (5, true), (6, true), (7, true), (8, true), (9, true), (10, false)]
  | _ => []
def sd34 : Nat → List (Nat × Bool)
  | 4 => [(0, true), (1, true), (2, true), (3, false), (4, true), (5, false), (6, false), (7, true), (8, false)]
  | 11 => [(0, true), (1, true), (2, true), (3, false), (4, false), (5, false), (6, true), (7, false)]
  | _ => []
def sd35 : Nat → List (Nat × Bool)
  | 2 => []
  | 8 => [(0, true), (1, true), (2, true), (3, false), (4, false), (5, false), (6, true), (7, false)]
  | 11 => [(0, true), (1, true), (2, true), (3, true), (4, true), (6, true), (7, true), (5, false), (8, true), (9, false), (10, false), (11, true), (12, false)]
  | _ => []
def sd36 : Nat → List (Nat × Bool)
  | 2 => []
  | 13 => [(0, true), (1, true), (2, true), (3, false), (4, false), (5, false), (6, true), (7, false)]
  | _ => []
def sd38 : Nat → List (Nat × Bool)
  | 3 => [(0, true), (1, true), (2, true), (4, true), (5, true), (3, false), (6, true), (7, false)]
  | _ => []
def sd39 : Nat → List (Nat × Bool)
  | 10 => [(0, true), (1, true), (2, true), (3, true), (4, true), (5, true), (6, true), (7, true), (8, true)]
  | 20 => [(0, true), (1, true), (2, true), (3, true), (4, true), (5, true), (6, true), (7, true), (8, true), (9, false)]
  | 34 => [(0, true), (1, true), (2, true), (3, true), (4, true), (5, true), (6, true), (7, true), (8, false), (9, true)]
  | _ => []
def sd40 : Nat → List (Nat × Bool)
  | 17 => [(0, true), (1, true), (2, true), (3, true), (4, true), (5, true), (6, true), (7, true), (8, true), (9, false)]
  | 22 => [(0, true), (1, true), (2, true), (3, true), (4, true), (5, true), (6, true), (8, true), (9, true), (10, true), (11, true), (12, true), (13, true), (7, false), (14, false)]
  | _ => []
def sd41 : Nat → List (Nat × Bool)
  | 13 => []
  | 16 => [(0, true), (1, true), (3, true), (4, true), (5, true), (6, true), (7, true), (8, true), (2, false), (9, false), (10, false), (11, true)]
  | _ => []
def sd42 : Nat → List (Nat × Bool)
  | 1 => [(0, true), (1, true), (2, true), (3, true), (4, true), (5, false), (6, true), (7, true), (8, true), (9, true)]
  | 5 => [(0, true), (1, true), (2, true), (3, true), (4, true), (5, true), (6, true), (7, true), (8, false), (9, true)]
  | 15 => [(0, true), (1, true), (2, true), (3, true), (4, true), (5, true), (6, true), (7, true), (8, true), (9, true), (10, true), (11, true), (12, true), (13, true), (14, true), (15, true), (16, true), (17, true), (18, true), (19, true), (20, true), (21, true), (22, true), (23, true), (24, true), (25, true), (26, true), (27, true), (28, true), (29, true), (30, true), (31, false), (32, true), (33, true)]
  | _ => []
def sd48 : Nat → List (Nat × Bool)
  | 7 => [(0, true), (1, true), (2, true), (3, true), (4, true), (5, true), (8, true), (9, true), (6, false), (7, true), (10, true), (11, false), (12, false), (13, true)]
  | _ => []
def sd49 : Nat → List (Nat × Bool)
  | 1 => [(0, true), (1, true), (2, true), (3, true), (4, true), (5, true), (6, true), (7, true), (8, false), (9, false), (10, true)]
  | _ => []
def sd50 : Nat → List (Nat × Bool)
  | 1 => [(0, true), (1, true), (2, true), (3, true), (4, true), (5, true), (6, true), (7, true), (8, false), (9, false), (10, true)]
  | _ => []
def sd51 : Nat → List (Nat × Bool)
  | 3 => [(0, true), (1, true), (2, true), (3, true), (4, false), (5, true), (6, true)]
  | _ => []
def sd55 : Nat → List (Nat × Bool)
  | 3 => [(0, true), (1, true), (2, true), (3, true), (4, true), (5, true), (6, false), (7, true), (8, true), (9, true), (10, true), (11, true), (12, true), (13, true)]
  | _ => []
def sd64 : Nat → List (Nat × Bool)
  | 10 => [(0, true), (1, true), (2, true), (3, false), (4, false), (5, false), (6, true), (7, false)]
  | 13 => [(0, true), (1, true), (2, false), (3, false), (4, true), (5, false)]
  | _ => []
def sd66 : Nat → List (Nat × Bool)
  | 14 => [(0, true), (1, true), (2, true), (3, true), (4, true), (5, true), (6, true), (7, false), (8, true)]
  | _ => []
def sd69 : Nat → List (Nat × Bool)
  | 4 => [(0, true), (2, true), (3, true), (4, true), (5, true), (6, true), (1, false), (7, false), (8, true)]
  | 6 => [(0, true), (1, true), (2, true), (4, true), (5, true), (6, true), (7, true), (8, true), (3, false), (9, false)]
  | _ => []
def sd71 : Nat → List (Nat × Bool)
  | 3 => [(0, true), (1, true), (2, true), (3, true), (5, true), (6, true), (7, true), (8, true), (4, false), (9, true)]
  | 9 => [(0, true), (1, true), (2, true), (3, true), (4, true), (5, true), (6, true), (7, true), (8, true), (9, true), (10, true), (11, true), (12, true), (13, true), (14, true), (15, true), (16, true), (17, true), (18, true), (19, true), (20, true), (21, true), (22, true), (23, true), (24, true), (25, true), (26, true), (27, false), (28, true)]
  | _ => []
def sd73 : Nat → List (Nat × Bool)
  | 7 => [(0, true), (1, true), (2, true), (3, true), (4, true), (5, true), (7, true), (8, true), (9, true), (6, false), (10, false), (11, true), (12, true)]
  | 12 => [(0, true), (1, true), (2, true), (3, true), (4, true), (5, true), (6, true), (7, true), (8, true), (9, true), (10, true), (11, true), (12, true), (13, true), (14, true), (15, true), (16, true), (17, true), (18, true), (19, true), (20, true), (21, true)]
  | _ => []
def sd75 : Nat → List (Nat × Bool)
  | 4 => [(0, true), (1, true), (2, true), (3, true), (4, true), (5, true), (6, true), (7, true), (8, true), (9, true), (10, true), (11, true), (12, true), (13, true), (14, true), (15, true), (16, true), (17, true), (18, true), (19, true), (20, true), (21, true), (22, true), (23, true), (24, true), (25, true), (27, true), (26, false), (28, false), (29, true), (30, true)]
  | _ => []
def sd87 : Nat → List (Nat × Bool)
  | 8 => [(0, true), (1, true), (2, true), (3, false), (4, false), (5, false), (6, true), (7, false)]
  | 10 => [(0, true), (1, true), (2, true), (3, false), (4, false), (5, false), (6, true), (7, false)]
  | 12 => [(0, true), (1, true), (2, true), (3, false), (4, false), (5, false), (6, true), (7, false)]
  | 23 => [(0, true), (1, true), (4, true), (5, true), (2, false), (3, false), (6, true), (7, false)]
  | _ => []
def sd91 : Nat → List (Nat × Bool)
  | 9 => [(0, true), (1, true), (2, true), (3, true), (4, true), (5, true), (6, true), (7, true), (8, true), (9, true), (10, false), (11, false), (12, false), (13, true)]
  | _ => []
def sd109 : Nat → List (Nat × Bool)
  | 4 => [(0, true), (1, true), (2, true), (3, true), (4, false), (5, true), (6, false), (7, false), (8, false), (9, true), (10, false)]
  | 7 => [(0, true), (1, true), (2, true), (3, false), (4, false), (5, false), (6, true), (7, false)]
  | _ => []
def sd110 : Nat → List (Nat × Bool)
  | 20 => [(0, true), (1, true), (2, true), (3, false), (4, false), (5, false), (6, true), (7, false)]
  | 40 => []
  | _ => []
def sd118 : Nat → List (Nat × Bool)
  | 7 => [(0, true), (1, true), (2, true), (3, false), (4, false), (5, false), (6, true), (7, false)]
  | _ => []
def sdT : Nat → Nat → List (Nat × Bool)
  | 3 => sd3
  | 7 => sd7
  | 8 => sd8
  | 9 => sd9
  | 10 => sd10
  | 12 => sd12
  | 15 => sd15
  | 20 => sd20
  | 21 => sd21
  | 24 => sd24
  | 27 => sd27
  | 28 => sd28
  | 29 => sd29
  | 32 => sd32
  | 34 => sd34
  | 35 => sd35
  | 36 => sd36
  | 38 => sd38
  | 39 => sd39
  | 40 => sd40
  | 41 => sd41
  | 42 => sd42
  | 48 => sd48
  | 49 => sd49
  | 50 => sd50
  | 51 => sd51
  | 55 => sd55
  | 64 => sd64
  | 66 => sd66
  | 69 => sd69
  | 71 => sd71
  | 73 => sd73
  | 75 => sd75
  | 87 => sd87
  | 91 => sd91
  | 109 => sd109
  | 110 => sd110
  | 118 => sd118
  | _ => fun _ => []
def sx21 : Nat → Option (Sch × List Nat)
  | 2 => some (.look 0 (.look 1 (.look 2 (.look 5 (.look 6 (.eff (.cons 3 (.eff (.cons 4 (.eff (.cons 7 (.eff (.cons 8 (.eff (.cons 9 (.eff (.cons 10 (.done) (.nil))) (.nil))) (.nil))) (.nil))) (.cons 7 (.eff (.cons 4 (.eff (.cons 8 (.eff (.cons 9 (.eff (.cons 10 (.done) (.nil))) (.nil))) (.nil))) (.nil))) (.nil)))) (.cons 7 (.eff (.cons 3 (.eff (.cons 4 (.eff (.cons 8 (.eff (.cons 9 (.eff (.cons 10 (.done) (.nil))) (.nil))) (.nil))) (.nil))) (.nil))) (.nil)))))))), [5, 4, 1])
  | 6 => some (.look 0 (.look 1 (.look 2 (.look 4 (.eff (.cons 3 (.eff (.cons 5 (.eff (.cons 6 (.eff (.cons 7 (.done) (.nil))) (.nil))) (.nil))) (.cons 5 (.eff (.cons 3 (.eff (.cons 6 (.eff (.cons 7 (.done) (.nil))) (.nil))) (.nil))) (.nil))))))), [24, 23, 22, 4, 1])
  | _ => none
def sx35 : Nat → Option (Sch × List Nat)
  | 2 => some (.look 0 (.look 1 (.look 2 (.look 5 (.look 6 (.eff (.cons 3 (.look 4 (.look 7 (.eff (.cons 8 (.eff (.cons 9 (.done) (.nil))) (.nil))))) (.cons 8 (.eff (.cons 3 (.look 4 (.look 7 (.eff (.cons 9 (.done) (.nil))))) (.nil))) (.nil)))))))), [0, 4, 2])
  | _ => none
def sx36 : Nat → Option (Sch × List Nat)
  | 2 => some (.look 0 (.look 1 (.look 2 (.look 4 (.look 5 (.eff (.cons 3 (.look 6 (.eff (.cons 7 (.eff (.cons 8 (.done) (.nil))) (.nil)))) (.cons 7 (.eff (.cons 3 (.look 6 (.eff (.cons 8 (.done) (.nil)))) (.nil))) (.nil)))))))), [0, 4, 2])
  | _ => none
def sx41 : Nat → Option (Sch × List Nat)
  | 13 => some (.look 0 (.look 1 (.look 2 (.look 3 (.look 4 (.look 5 (.look 6 (.eff (.cons 7 (.eff (.cons 8 (.eff (.cons 9 (.done) (.nil))) (.nil))) (.cons 8 (.eff (.cons 7 (.eff (.cons 9 (.done) (.nil))) (.nil))) (.nil)))))))))), [8, 4, 5, 2, 6])
  | _ => none
def sx110 : Nat → Option (Sch × List Nat)
  | 40 => some (.look 0 (.look 2 (.look 4 (.look 5 (.eff (.cons 1 (.eff (.cons 3 (.look 6 (.eff (.cons 7 (.done) (.nil)))) (.nil))) (.cons 3 (.eff (.cons 1 (.look 6 (.eff (.cons 7 (.done) (.nil)))) (.nil))) (.nil))))))), [0, 8, 2])
  | _ => none
def sxT : Nat → Nat → Option (Sch × List Nat)
  | 21 => sx21
  | 35 => sx35
  | 36 => sx36
  | 41 => sx41
  | 110 => sx110
  | _ => fun _ => none
def tabT (f : Nat) : FT := { keep := keepT f, sd := sdT f, sx := sxT f }
def okT (f : Nat) : Bool := ([2, 3, 4, 5, 6, 7, 8, 9, 10, 11, 12, 13, 14, 15, 16, 17, 18, 19, 20, 21, 22, 23, 24, 25, 26, 27, 28, 29, 30, 31, 32, 33, 34, 35, 36, 37, 38, 39, 40, 41, 42, 43, 44, 45, 46, 47, 48, 49, 50, 51, 52, 53, 54, 55, 56, 57, 58, 59, 60, 61, 62, 63, 64, 65, 66, 67, 68, 69, 70, 71, 72, 73, 74, 75, 76, 77, 78, 79, 80, 81, 82, 83, 84, 85, 86, 87, 88, 89, 90, 91, 92, 93, 94, 95, 96, 97, 98, 99, 100, 101, 102, 103, 104, 105, 106, 107, 108, 109, 110, 111, 112, 113, 114, 115, 116, 117, 118, 119, 120, 121, 122, 123] : List Nat).elem f
set_option maxRecDepth 100000 in
theorem funcs_size : Tryz.prog.funcs.size = 140 := by kernel_rfl
set_option maxRecDepth 100000 in
theorem tab_all : (List.range 140).all (funcOk Tryz.prog tabT) = true := by kernel_rfl
set_option maxRecDepth 100000 in
theorem ok_all : (List.range 140).all (fun f => !okT f || callable Tryz.prog f) = true := by kernel_rfl
theorem okT_last : ∀ f, 140 ≤ f → okT f = false := by
  intro f hf
  unfold okT
  simp
  omega
theorem okT_ok : ∀ f, okT f = true → callable Tryz.prog f = true := okf_of okT_last ok_all
theorem tabT_ok : tabsOk Tryz.prog tabT := tabsOk_of funcs_size tab_all
def sp0 : Nat → List AV → List AObj → Option (AV × List AObj) := fun _ _ _ => none
theorem sp0_ok (R : Nat → PV) : CallsOk R Tryz.prog sp0 := fun _ _ _ _ _ h => by cases h
end Go.Proofs.YtmgmknpgikgnlaaGreat
