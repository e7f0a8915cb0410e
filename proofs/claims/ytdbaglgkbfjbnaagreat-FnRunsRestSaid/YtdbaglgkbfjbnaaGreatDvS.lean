/- The functions of the laws on integers as trees: printed by dvgen. -/
import Derived.Test.YtdbaglgkbfjbnaaGreatProg
import Derived.KernelRfl
import Derived.Test.YtdbaglgkbfjbnaaGreatDvC
import Derived.Test.YtdbaglgkbfjbnaaGreatEvX

set_option linter.unusedVariables false
set_option maxRecDepth 100000
namespace Go.Dv
open Go.Proofs
def Sinl : List Nat := [113]
def Ssig : List (Nat × Sig) := [(34, ⟨[.one (.pv .str)], [.one (.pv .bool)]⟩),
  (28, ⟨[.one (.pv .str), .one (.pv .str)], [.one (.pv (.int .i64))]⟩),
  (39, ⟨[.one (.pv .str), .one (.pv .str)], [.one (.pv .str), .one (.pv .bool)]⟩),
  (29, ⟨[.one (.pv .str), .one (.pv .str)], [.one (.pv (.int .i64))]⟩),
  (40, ⟨[.one (.pv .str), .one (.pv .str)], [.one (.pv .str), .one (.pv .bool)]⟩),
  (27, ⟨[.one (.pv (.list 5))], [.one (.pv .str), .one (.pv .str)]⟩),
  (36, ⟨[.one (.pv .str), .one (.pv .str)], [.one (.pv .str), .one (.pv .bool)]⟩),
  (37, ⟨[.one (.pv .str), .one (.pv .str)], [.one (.pv .str), .one (.pv .bool)]⟩),
  (35, ⟨[.one (.pv (.list 5))], [.one (.pv .str), .one (.pv .str)]⟩),
  (38, ⟨[.one (.pv (.list 5))], [.one (.pv .str), .one (.pv .str)]⟩),
  (32, ⟨[.one (.pv .str), .one (.pv .str)], [.one (.pv .str), .one (.pv .bool)]⟩),
  (33, ⟨[.one (.pv .str), .one (.pv .str)], [.one (.pv .str), .one (.pv .bool)]⟩),
  (31, ⟨[.one (.pv (.list 5))], [.one (.pv .str), .one (.pv .str)]⟩),
  (42, ⟨[.one (.pv .str), .one (.pv .str)], [.one (.pv .str), .one (.pv .bool)]⟩),
  (43, ⟨[.one (.pv .str), .one (.pv .str)], [.one (.pv .str), .one (.pv .bool)]⟩),
  (41, ⟨[.one (.pv (.list 5))], [.one (.pv .str), .one (.pv .str)]⟩),
  (46, ⟨[.one (.pv .str), .one (.pv .str)], [.one (.pv .str), .one (.pv .bool)]⟩),
  (47, ⟨[.one (.pv .str), .one (.pv .str)], [.one (.pv .str), .one (.pv .bool)]⟩),
  (45, ⟨[.one (.pv (.list 5))], [.one (.pv .str), .one (.pv .str)]⟩),
  (77, ⟨[.one (.pv .str)], [.many [.pv .bool, .pv (.list 3)], .one (.pv .bool)]⟩),
  (69, ⟨[.one (.pv .str), .one (.pv .str)], [.many [.pv .bool, .pv (.list 3)], .many [.pv .bool, .pv (.list 3)], .one (.pv .bool)]⟩),
  (71, ⟨[.many [.pv .bool, .pv (.list 3)]], [.many [.pv .bool, .pv (.list 3)]]⟩),
  (70, ⟨[.many [.pv .bool, .pv (.list 3)], .many [.pv .bool, .pv (.list 3)]], [.many [.pv .bool, .pv (.list 3)]]⟩),
  (75, ⟨[.many [.pv .bool, .pv (.list 3)]], [.one (.pv .str), .one (.pv .bool)]⟩),
  (72, ⟨[.one (.pv .str)], [.one (.pv .bool)]⟩),
  (73, ⟨[.one (.pv .str), .one (.pv .str)], [.one (.pv (.int .i64))]⟩),
  (79, ⟨[.one (.pv .str)], [.one (.pv .str)]⟩),
  (78, ⟨[.one (.pv .str), .one (.pv .str)], [.one (.pv .str), .one (.pv .bool)]⟩),
  (48, ⟨[.one (.pv (.list 5))], [.ptr [.pv (.list 5), .pv (.int .i64)] 84]⟩),
  (68, ⟨[.ptr [.pv (.list 5), .pv (.int .i64)] 84], [.one (.pv .str)]⟩),
  (62, ⟨[.ptr [.pv (.list 5), .pv (.int .i64)] 84, .one (.pv (.int .i64))], [.one (.pv (.int .i64))]⟩),
  (74, ⟨[.many [.pv .bool, .pv (.list 3)], .many [.pv .bool, .pv (.list 3)]], [.many [.pv .bool, .pv (.list 3)]]⟩),
  (76, ⟨[.one (.pv .str), .one (.pv .str)], [.one (.pv .str), .one (.pv .bool)]⟩),
  (80, ⟨[.many [.pv .bool, .pv (.list 3)], .many [.pv .bool, .pv (.list 3)]], [.many [.pv .bool, .pv (.list 3)], .many [.pv .bool, .pv (.list 3)]]⟩),
  (81, ⟨[.one (.pv .str), .one (.pv .str)], [.one (.pv .str), .one (.pv .str)]⟩),
  (116, ⟨[.one (.pv .str), .one (.pv .str)], [.one (.pv .str), .one (.pv .bool)]⟩),
  (117, ⟨[.one (.pv (.list 3))], [.one (.pv (.list 3))]⟩),
  (107, ⟨[.many [.pv .bool, .pv (.list 3)]], [.many [.pv .bool, .pv (.list 3)]]⟩),
  (106, ⟨[.one (.pv (.list 3)), .one (.pv (.list 3))], [.one (.pv (.list 3))]⟩),
  (108, ⟨[.one (.pv (.list 3)), .one (.pv (.list 3))], [.one (.pv (.int .i64))]⟩),
  (109, ⟨[.one (.pv (.list 3)), .one (.pv (.list 3))], [.one (.pv (.list 3))]⟩),
  (66, ⟨[.one (.pv (.int .i64)), .one (.pv (.int .i64)), .one (.pv (.int .i64))], [.one (.pv .bool)]⟩),
  (110, ⟨[.one (.pv .str)], [.one (.pv (.list 3)), .one (.pv .bool)]⟩),
  (111, ⟨[.one (.pv (.list 3)), .one (.pv (.list 3))], [.one (.pv (.int .i64))]⟩),
  (120, ⟨[.one (.pv (.list 3)), .one (.pv .bool)], [.one (.pv .str)]⟩),
  (118, ⟨[.one (.pv (.list 3)), .one (.pv (.list 3))], [.one (.pv (.list 3))]⟩),
  (114, ⟨[.one (.pv (.list 3)), .one (.pv .bool)], [.one (.pv .str), .one (.pv .bool)]⟩),
  (119, ⟨[.one (.pv (.list 3)), .one (.pv (.list 3))], [.one (.pv (.list 3))]⟩),
  (50, ⟨[.ptr [.pv (.list 5), .pv (.int .i64)] 84, .one (.pv (.list 9))], [.one (.pv .str)]⟩),
  (65, ⟨[.one (.pv (.int .i64))], [.one (.pv .str)]⟩),
  (105, ⟨[.ptr [.pv (.list 5), .pv (.int .i64)] 84, .one (.pv (.list 3))], [.one (.pv (.int .i64))]⟩),
  (112, ⟨[.one (.pv (.list 3)), .one (.pv (.list 3))], [.one (.pv (.list 3))]⟩),
  (115, ⟨[.one (.pv (.list 3)), .one (.pv (.list 3))], [.one (.pv (.list 3))]⟩),
  (121, ⟨[.one (.pv (.list 3)), .one (.pv (.list 3))], [.one (.pv (.list 3)), .one (.pv (.list 3))]⟩),
  (122, ⟨[.one (.pv (.list 3)), .one (.pv (.list 3))], [.one (.pv (.list 3)), .one (.pv (.list 3))]⟩),
  (156, ⟨[.one (.pv .str), .one (.pv .str)], [.one (.pv .str), .one (.pv .bool)]⟩),
  (155, ⟨[.one (.pv (.list 3))], [.one (.pv (.list 3))]⟩),
  (104, ⟨[.one (.pv (.int .i64))], [.one (.pv .str)]⟩),
  (152, ⟨[.one (.pv .str), .one (.pv .str)], [.one (.pv .bool)]⟩)]
def Sann : List ((Nat × Nat) × LoopAnn) := [((104, 14), ⟨[(.tmp 0, .one (.pv (.int .i64))), (.tmp 3, .one (.pv .str))], [], [0, 3]⟩),
  ((155, 28), ⟨[(.tmp 3, .one (.pv (.int .i64)))], [], [3, 0]⟩),
  ((122, 7826), ⟨[(.tmp 7, .one (.pv (.list 3))), (.tmp 6, .one (.own 3 true))], [], [8, 6, 1, 7, 0]⟩),
  ((122, 122), ⟨[(.tmp 7, .one (.pv (.list 3))), (.tmp 8, .one (.pv (.int .i64))), (.tmp 6, .one (.own 3 true))], [], [1, 6, 8, 7, 0]⟩),
  ((121, 3730), ⟨[(.tmp 5, .one (.pv (.list 3))), (.tmp 4, .one (.own 3 true))], [], [6, 4, 1, 5, 0]⟩),
  ((121, 58), ⟨[(.tmp 5, .one (.pv (.list 3))), (.tmp 6, .one (.pv (.int .i64))), (.tmp 4, .one (.own 3 true))], [], [1, 4, 6, 5, 0]⟩),
  ((115, 250), ⟨[(.tmp 8, .one (.pv (.int .i64))), (.tmp 9, .one (.pv (.int .i64))), (.tmp 5, .one (.own 3 true))], [], [9, 5, 8]⟩),
  ((115, 3730), ⟨[(.tmp 7, .one (.pv (.int .i64))), (.tmp 5, .one (.own 3 true))], [], [7, 1, 6, 0, 5]⟩),
  ((115, 58), ⟨[(.tmp 6, .one (.pv (.int .i64))), (.tmp 5, .one (.own 3 true))], [], [5, 0, 6, 1]⟩),
  ((112, 29902), ⟨[(.tmp 8, .one (.pv (.int .i64))), (.tmp 9, .one (.pv (.int .i64))), (.tmp 5, .one (.own 3 true))], [], [9, 6, 5, 1, 7, 8, 19, 17, 18]⟩),
  ((112, 58), ⟨[(.tmp 19, .one (.pv (.int .i64))), (.tmp 5, .one (.own 3 true))], [], [19, 1, 5, 17, 18]⟩),
  ((119, 122), ⟨[(.tmp 6, .one (.pv (.int .i64))), (.tmp 7, .one (.pv (.int .i64))), (.tmp 5, .one (.own 3 true))], [], [7, 5, 1, 6, 0]⟩),
  ((118, 122), ⟨[(.tmp 6, .one (.pv (.int .i64))), (.tmp 7, .one (.pv (.int .i64))), (.tmp 5, .one (.own 3 true))], [], [7, 5, 1, 0, 6]⟩),
  ((120, 250), ⟨[(.tmp 5, .one (.pv .str)), (.tmp 6, .one (.pv (.int .i64)))], [], [6, 5, 0, 1]⟩),
  ((111, 58), ⟨[(.tmp 5, .one (.pv (.int .i64)))], [], [5, 1, 0]⟩),
  ((110, 122), ⟨[(.tmp 6, .one (.pv (.int .i64))), (.tmp 5, .one (.own 3 true))], [], [6, 0, 5, 4]⟩),
  ((109, 58), ⟨[(.tmp 11, .one (.pv (.int .i64))), (.tmp 5, .one (.own 3 true))], [], [11, 5, 1, 10]⟩),
  ((108, 58), ⟨[(.tmp 5, .one (.pv (.int .i64)))], [], [5, 1, 0]⟩),
  ((106, 122), ⟨[(.tmp 5, .one (.own 3 true)), (.tmp 6, .one (.pv (.int .i64))), (.tmp 7, .one (.pv (.int .i64)))], [], [7, 5, 1, 0, 6]⟩),
  ((117, 12), ⟨[(.tmp 0, .one (.pv (.list 3)))], [], [0]⟩),
  ((68, 250), ⟨[(.tmp 3, .one (.pv .str)), (.tmp 5, .one (.pv (.int .i64))), (.cell 0 0, .one (.pv (.list 5))), (.cell 0 1, .one (.pv (.int .i64)))], [], [5, 3, 0, 4]⟩),
  ((72, 122), ⟨[(.tmp 4, .one (.pv (.int .i64)))], [], [4, 3, 0]⟩),
  ((75, 506), ⟨[(.tmp 5, .one (.pv (.int .i64))), (.cell 1 1, .one (.own 5 true))], [(1, 0)], [5, 4, 1]⟩),
  ((77, 250), ⟨[(.tmp 7, .one (.pv (.int .i64))), (.cell 1 1, .one (.own 3 true))], [], [2, 4, 6, 7]⟩)]
def Spl28 : List (Nat × Stat) := [(4, ⟨[0, 0, 2, 7, 0, 31], [0, 0, 0, 1, 0, 2], [1, 0, 1, 2, 2, 3], [2, 3, 5], [[], [], [], [], [], []]⟩)]
def Spl39 : List (Nat × Stat) := [(4, ⟨[0, 0, 2, 7, 15, 31, 31, 127, 255], [0, 0, 0, 1, 2, 3, 3, 3, 3], [1, 0, 1, 2, 3, 3, 3, 3, 3], [2, 3, 4], [[], [], [], [], [], [], [], [], []]⟩)]
def Spl77 : List (Nat × Stat) := [(10, ⟨[0, 1, 0, 0, 12, 28, 60, 124, 255, 511, 1023], [0, 0, 0, 0, 0, 0, 0, 0, 0, 1, 1], [0, 0, 0, 0, 0, 0, 0, 0, 1, 1, 2], [8, 10], [[], [], [], [], [], [], [], [], [], [], []]⟩)]
def Spl69 : List (Nat × Stat) := [(3, ⟨[0, 0, 0, 4, 12, 28, 13, 79, 255], [0, 0, 0, 0, 0, 0, 0, 1, 2], [0, 1, 0, 0, 2, 2, 1, 2, 2], [6, 7], [[], [], [], [], [], [], [], [], []]⟩)]
def Spl70 : List (Nat × Stat) := [(2, ⟨[0, 1, 0, 4, 0, 16, 60, 127, 255, 511], [0, 0, 0, 0, 0, 0, 0, 1, 1, 2], [1, 1, 0, 0, 0, 0, 1, 1, 2, 3], [6, 8, 9], [[], [], [], [], [], [], [], [], [], []]⟩), (4, ⟨[0, 1, 0, 4, 0, 16, 60, 127, 255, 511], [0, 0, 0, 0, 0, 0, 0, 1, 1, 2], [1, 1, 0, 0, 0, 0, 1, 1, 2, 3], [6, 8, 9], [[], [], [], [], [], [], [], [], [], []]⟩), (5, ⟨[0, 1, 0, 4, 0, 16, 60, 127, 255, 511], [0, 0, 0, 0, 0, 0, 0, 1, 1, 2], [1, 1, 0, 0, 0, 0, 1, 1, 2, 3], [6, 8, 9], [[], [], [], [], [], [], [], [], [], []]⟩)]
def Spl62 : List (Nat × Stat) := [(5, ⟨[0, 1, 3, 7, 0, 16, 48, 112, 0, 256, 768, 1792, 3840, 8176, 16383, 32767, 65535, 131071], [0, 0, 0, 0, 0, 0, 0, 0, 0, 0, 0, 0, 0, 0, 0, 0, 0, 0], [0, 0, 0, 0, 0, 0, 0, 0, 0, 0, 0, 0, 0, 0, 0, 0, 0, 0], [], [[], [], [], [], [], [], [], [], [], [], [], [], [], [], [], [], [], []]⟩), (6, ⟨[0, 1, 3, 7, 15, 31, 63, 7, 135, 391, 903, 1927, 4095, 8191], [0, 0, 0, 0, 0, 0, 0, 0, 0, 0, 0, 0, 0, 0], [0, 0, 0, 0, 0, 0, 0, 0, 0, 0, 0, 0, 0, 0], [], [[], [], [], [], [], [], [], [], [], [], [], [], [], []]⟩), (7, ⟨[0, 1, 0, 4, 12, 28, 0, 64, 192, 448, 960, 1984, 0, 4096, 12288, 28672, 61440, 131008, 262140, 524284, 1048572, 2097148, 4194303, 0, 8388608, 25165824, 58720256, 125829120, 268435455, 0, 536870912, 1610612736, 3758096384, 0, 8589934592, 25769803776, 60129542144, 128849018880, 274341036032, 549218942976, 1099511627775, 2199023255551], [0, 0, 0, 0, 0, 0, 0, 0, 0, 0, 0, 0, 0, 0, 0, 0, 0, 0, 0, 0, 0, 0, 0, 0, 0, 0, 0, 0, 0, 0, 0, 0, 0, 0, 0, 0, 0, 0, 0, 0, 0, 0], [0, 0, 0, 0, 0, 0, 0, 0, 0, 0, 0, 0, 0, 0, 0, 0, 0, 0, 0, 0, 0, 0, 0, 0, 0, 0, 0, 0, 0, 0, 0, 0, 0, 0, 0, 0, 0, 0, 0, 0, 0, 0], [], [[5], [], [], [], [], [], [], [], [], [], [], [], [], [], [], [], [], [], [], [], [], [], [], [], [], [], [], [], [], [], [], [], [], [], [], [], [], [], [], [], [], []]⟩)]
def Spl74 : List (Nat × Stat) := [(1, ⟨[0, 1, 0, 4, 15, 0, 32, 0, 128, 480, 1023, 2047, 4095], [0, 0, 0, 0, 0, 0, 0, 0, 0, 0, 1, 1, 2], [1, 1, 1, 1, 1, 0, 0, 0, 0, 1, 1, 2, 3], [9, 11, 12], [[], [], [], [], [], [], [], [], [], [], [], [], []]⟩)]
def Spl80 : List (Nat × Stat) := [(2, ⟨[0, 1, 0, 4, 15, 0, 63, 127, 0, 256, 0, 1792, 4095, 8191, 16383], [0, 0, 0, 0, 0, 0, 0, 0, 0, 0, 0, 0, 1, 2, 3], [0, 0, 0, 0, 0, 0, 0, 1, 1, 1, 1, 1, 2, 3, 4], [7, 12, 13, 14], [[], [], [], [], [], [], [], [], [], [], [], [], [], [], []]⟩), (6, ⟨[0, 0, 1, 7], [0, 0, 0, 1], [0, 1, 1, 2], [2, 3], [[], [], [], []]⟩)]
def Spl108 : List (Nat × Stat) := [(8, ⟨[0, 0, 3, 7, 0, 0, 48, 112, 255], [0, 0, 0, 0, 0, 0, 0, 0, 0], [0, 0, 0, 0, 0, 0, 0, 0, 0], [], [[], [], [], [], [], [], [], [], []]⟩), (9, ⟨[0, 0, 3, 7, 0, 0, 48, 112, 255], [0, 0, 0, 0, 0, 0, 0, 0, 0], [0, 0, 0, 0, 0, 0, 0, 0, 0], [], [[], [], [], [], [], [], [], [], []]⟩)]
def Spl109 : List (Nat × Stat) := [(6, ⟨[0, 0, 3, 7, 0, 0, 48, 112, 255, 511, 1023], [0, 0, 0, 0, 0, 0, 0, 0, 0, 0, 0], [0, 0, 0, 0, 0, 0, 0, 0, 0, 0, 1], [10], [[], [], [], [], [], [], [], [], [], [], []]⟩)]
def Spl103 : List (Nat × Stat) := [(1, ⟨[0, 1, 3, 7, 15, 0, 32, 96, 224, 480, 1023, 2047], [0, 0, 0, 0, 0, 0, 0, 0, 0, 0, 1, 2], [0, 0, 0, 0, 1, 1, 1, 1, 1, 1, 2, 2], [4, 10], [[], [], [], [], [], [], [], [], [], [], [], []]⟩)]
def Spl111 : List (Nat × Stat) := [(8, ⟨[0, 0, 3, 7, 0, 0, 48, 112, 255], [0, 0, 0, 0, 0, 0, 0, 0, 0], [0, 0, 0, 0, 0, 0, 0, 0, 0], [], [[], [], [], [], [], [], [], [], []]⟩), (9, ⟨[0, 0, 3, 7, 0, 0, 48, 112, 255], [0, 0, 0, 0, 0, 0, 0, 0, 0], [0, 0, 0, 0, 0, 0, 0, 0, 0], [], [[], [], [], [], [], [], [], [], []]⟩)]
def Spl115 : List (Nat × Stat) := [(8, ⟨[0, 0, 0, 6, 0, 0, 0, 96, 240, 496, 0, 0, 3072, 7168, 0, 0, 49152, 114688, 261120, 524272, 1048575, 2097151], [0, 0, 0, 0, 0, 0, 0, 0, 0, 0, 0, 0, 0, 0, 0, 0, 0, 0, 0, 0, 0, 0], [0, 0, 0, 0, 0, 0, 0, 0, 0, 0, 0, 0, 0, 0, 0, 0, 0, 0, 0, 0, 0, 1], [21], [[], [], [], [], [], [], [], [], [], [], [], [], [], [], [], [], [], [], [], [], [], []]⟩)]
def Splans : List (Nat × List (Nat × Stat)) := [(28, Spl28), (39, Spl39), (77, Spl77), (69, Spl69), (70, Spl70), (62, Spl62), (74, Spl74), (80, Spl80), (108, Spl108), (109, Spl109), (103, Spl103), (111, Spl111), (115, Spl115)]
def Sleaf : List (Nat × Leaf) := [(103, .text), (153, .copyCheck)]
def Stab : Tab where
  bld := 143
  u8 := 5
  leaf f := Sleaf.lookup f
  sig f := Ssig.lookup f
  inl f := Sinl.contains f
  ann f p := Sann.lookup (f, p)
  plans f id := (Splans.lookup f).bind (·.lookup id)
/-! 34: impl.IntOk -/
def St34 : Tree := .call 77 (.o2 .mkS (.lit (.agg [])) (.o1 (.fld 0) (.var 0))) (.ret (.o2 .mkS (.lit (.agg [])) (.o1 (.fld 1) (.var 1))))
/-! 39: impl.IntSub -/
def St39 : Tree := .call 69 (.o2 .mkS (.o2 .mkS (.lit (.agg [])) (.o1 (.fld 0) (.var 0))) (.o1 (.fld 1) (.var 0))) (.ite (.o1 .not (.o1 (.fld 2) (.var 1))) (.ret (.o2 .mkS (.o2 .mkS (.lit (.agg [])) (.lit (.str []))) (.lit (.bool false)))) (.call 71 (.o2 .mkS (.lit (.agg [])) (.o2 .mkS (.o2 .mkS (.lit (.agg [])) (.o1 (.fld 0) (.o1 (.fld 1) (.var 1)))) (.o1 (.fld 1) (.o1 (.fld 1) (.var 1))))) (.call 70 (.o2 .mkS (.o2 .mkS (.lit (.agg [])) (.o2 .mkS (.o2 .mkS (.lit (.agg [])) (.o1 (.fld 0) (.o1 (.fld 0) (.var 1)))) (.o1 (.fld 1) (.o1 (.fld 0) (.var 1))))) (.o2 .mkS (.o2 .mkS (.lit (.agg [])) (.o1 (.fld 0) (.o1 (.fld 0) (.var 2)))) (.o1 (.fld 1) (.o1 (.fld 0) (.var 2))))) (.call 75 (.o2 .mkS (.lit (.agg [])) (.o2 .mkS (.o2 .mkS (.lit (.agg [])) (.o1 (.fld 0) (.o1 (.fld 0) (.var 3)))) (.o1 (.fld 1) (.o1 (.fld 0) (.var 3))))) (.ret (.o2 .mkS (.o2 .mkS (.lit (.agg [])) (.o1 (.fld 0) (.var 4))) (.o1 (.fld 1) (.var 4))))))))
/-! 46: impl.IntMod -/
def St46 : Tree := .call 69 (.o2 .mkS (.o2 .mkS (.lit (.agg [])) (.o1 (.fld 0) (.var 0))) (.o1 (.fld 1) (.var 0))) (.ite (.o1 .not (.o1 (.fld 2) (.var 1))) (.ret (.o2 .mkS (.o2 .mkS (.lit (.agg [])) (.lit (.str []))) (.lit (.bool false)))) (.ite (.o2 (.int .eql .i64) (.o1 .len (.o1 (.fld 1) (.o1 (.fld 1) (.var 1)))) (.lit (.int .i64 0))) (.ret (.o2 .mkS (.o2 .mkS (.lit (.agg [])) (.lit (.str []))) (.lit (.bool false)))) (.call 80 (.o2 .mkS (.o2 .mkS (.lit (.agg [])) (.o2 .mkS (.o2 .mkS (.lit (.agg [])) (.o1 (.fld 0) (.o1 (.fld 0) (.var 1)))) (.o1 (.fld 1) (.o1 (.fld 0) (.var 1))))) (.o2 .mkS (.o2 .mkS (.lit (.agg [])) (.o1 (.fld 0) (.o1 (.fld 1) (.var 1)))) (.o1 (.fld 1) (.o1 (.fld 1) (.var 1))))) (.call 75 (.o2 .mkS (.lit (.agg [])) (.o2 .mkS (.o2 .mkS (.lit (.agg [])) (.o1 (.fld 0) (.o1 (.fld 1) (.var 2)))) (.o1 (.fld 1) (.o1 (.fld 1) (.var 2))))) (.ret (.o2 .mkS (.o2 .mkS (.lit (.agg [])) (.o1 (.fld 0) (.var 3))) (.o1 (.fld 1) (.var 3))))))))
/-! 47: spec.IntMod -/
def St47 : Tree := .call 72 (.o2 .mkS (.lit (.agg [])) (.o1 (.fld 0) (.var 0))) (.ite (.o1 .not (.o1 (.fld 0) (.var 1))) (.ret (.o2 .mkS (.o2 .mkS (.lit (.agg [])) (.lit (.str []))) (.lit (.bool false)))) (.call 72 (.o2 .mkS (.lit (.agg [])) (.o1 (.fld 1) (.var 0))) (.ite (.o1 .not (.o1 (.fld 0) (.var 2))) (.ret (.o2 .mkS (.o2 .mkS (.lit (.agg [])) (.lit (.str []))) (.lit (.bool false)))) (.ite (.o2 (.str .eql) (.o1 (.fld 1) (.var 0)) (.lit (.str [48]))) (.ret (.o2 .mkS (.o2 .mkS (.lit (.agg [])) (.lit (.str []))) (.lit (.bool false)))) (.call 81 (.o2 .mkS (.o2 .mkS (.lit (.agg [])) (.o1 (.fld 0) (.var 0))) (.o1 (.fld 1) (.var 0))) (.ret (.o2 .mkS (.o2 .mkS (.lit (.agg [])) (.o1 (.fld 1) (.var 3))) (.lit (.bool true)))))))))
/-! 45: spec.DrawIntMod -/
def St45 : Tree := .call 48 (.o2 .mkS (.lit (.agg [])) (.o1 (.fld 0) (.var 0))) (.call 68 (.o2 .mkS (.lit (.agg [])) (.o2 .mkS (.o2 .mkS (.lit (.agg [])) (.o1 (.fld 0) (.o1 (.fld 0) (.var 1)))) (.o1 (.fld 1) (.o1 (.fld 0) (.var 1))))) (.call 62 (.o2 .mkS (.o2 .mkS (.lit (.agg [])) (.o2 .mkS (.o2 .mkS (.lit (.agg [])) (.o1 (.fld 0) (.o1 (.fld 1) (.var 2)))) (.o1 (.fld 1) (.o1 (.fld 1) (.var 2))))) (.lit (.int .i64 6))) (.ite (.o2 (.int .eql .i64) (.o1 (.fld 0) (.var 3)) (.lit (.int .i64 0))) (.ret (.o2 .mkS (.o2 .mkS (.lit (.agg [])) (.o1 (.fld 0) (.var 2))) (.o1 (.fld 0) (.var 2)))) (.call 68 (.o2 .mkS (.lit (.agg [])) (.o2 .mkS (.o2 .mkS (.lit (.agg [])) (.o1 (.fld 0) (.o1 (.fld 1) (.var 3)))) (.o1 (.fld 1) (.o1 (.fld 1) (.var 3))))) (.ret (.o2 .mkS (.o2 .mkS (.lit (.agg [])) (.o1 (.fld 0) (.var 2))) (.o1 (.fld 0) (.var 4))))))))
/-! 77: impl.parseNumber -/
def St77b0 : Tree := .ite (.o2 (.int .geq .i64) (.o1 (.fld 0) (.var 2)) (.lit (.int .i64 0))) (.need (.o2 (.int .leq .i64) (.lit (.int .i64 0)) (.o1 (.fld 0) (.var 2))) (.need (.o2 (.int .lss .i64) (.o1 (.fld 0) (.var 2)) (.o1 .slen (.o1 (.fld 0) (.var 1)))) (.ite (.o2 (.int .lss .u8) (.o2 .sidx (.o1 (.fld 0) (.var 1)) (.o1 (.fld 0) (.var 2))) (.lit (.int .u8 48))) (.ret (.o2 .mkS (.o2 .mkS (.lit (.agg [])) (.o2 .mkS (.o2 .mkS (.lit (.agg [])) (.lit (.bool false))) (.lit (.list 1 false [])))) (.lit (.bool false)))) (.ite (.o2 (.int .gtr .u8) (.o2 .sidx (.o1 (.fld 0) (.var 1)) (.o1 (.fld 0) (.var 2))) (.lit (.int .u8 57))) (.ret (.o2 .mkS (.o2 .mkS (.lit (.agg [])) (.o2 .mkS (.o2 .mkS (.lit (.agg [])) (.lit (.bool false))) (.lit (.list 1 false [])))) (.lit (.bool false)))) (.need (.o2 (.int .leq .i64) (.o1 .len (.o2 .snoc (.o1 (.fld 1) (.var 2)) (.o1 (.conv .i64) (.o2 (.int .sub .u8) (.o2 .sidx (.o1 (.fld 0) (.var 1)) (.o1 (.fld 0) (.var 2))) (.lit (.int .u8 48)))))) (.lit (.int .i64 16777216))) (.cont 0 (.o2 .mkS (.o2 .mkS (.lit (.agg [])) (.o2 (.int .sub .i64) (.o1 (.fld 0) (.var 2)) (.lit (.int .i64 1)))) (.o2 .snoc (.o1 (.fld 1) (.var 2)) (.o1 (.conv .i64) (.o2 (.int .sub .u8) (.o2 .sidx (.o1 (.fld 0) (.var 1)) (.o1 (.fld 0) (.var 2))) (.lit (.int .u8 48)))))))))))) (.call 117 (.o2 .mkS (.lit (.agg [])) (.o1 (.fld 1) (.var 2))) (.ret (.o2 .mkS (.o2 .mkS (.lit (.agg [])) (.o2 .mkS (.o2 .mkS (.lit (.agg [])) (.lit (.bool false))) (.o1 (.fld 0) (.var 3)))) (.lit (.bool true)))))
def St77b1 : Tree := .ite (.o2 (.int .geq .i64) (.o1 (.fld 0) (.var 2)) (.lit (.int .i64 0))) (.need (.o2 (.int .leq .i64) (.lit (.int .i64 0)) (.o1 (.fld 0) (.var 2))) (.need (.o2 (.int .lss .i64) (.o1 (.fld 0) (.var 2)) (.o1 .slen (.o1 (.fld 0) (.var 1)))) (.ite (.o2 (.int .lss .u8) (.o2 .sidx (.o1 (.fld 0) (.var 1)) (.o1 (.fld 0) (.var 2))) (.lit (.int .u8 48))) (.ret (.o2 .mkS (.o2 .mkS (.lit (.agg [])) (.o2 .mkS (.o2 .mkS (.lit (.agg [])) (.lit (.bool false))) (.lit (.list 1 false [])))) (.lit (.bool false)))) (.ite (.o2 (.int .gtr .u8) (.o2 .sidx (.o1 (.fld 0) (.var 1)) (.o1 (.fld 0) (.var 2))) (.lit (.int .u8 57))) (.ret (.o2 .mkS (.o2 .mkS (.lit (.agg [])) (.o2 .mkS (.o2 .mkS (.lit (.agg [])) (.lit (.bool false))) (.lit (.list 1 false [])))) (.lit (.bool false)))) (.need (.o2 (.int .leq .i64) (.o1 .len (.o2 .snoc (.o1 (.fld 1) (.var 2)) (.o1 (.conv .i64) (.o2 (.int .sub .u8) (.o2 .sidx (.o1 (.fld 0) (.var 1)) (.o1 (.fld 0) (.var 2))) (.lit (.int .u8 48)))))) (.lit (.int .i64 16777216))) (.cont 0 (.o2 .mkS (.o2 .mkS (.lit (.agg [])) (.o2 (.int .sub .i64) (.o1 (.fld 0) (.var 2)) (.lit (.int .i64 1)))) (.o2 .snoc (.o1 (.fld 1) (.var 2)) (.o1 (.conv .i64) (.o2 (.int .sub .u8) (.o2 .sidx (.o1 (.fld 0) (.var 1)) (.o1 (.fld 0) (.var 2))) (.lit (.int .u8 48)))))))))))) (.call 117 (.o2 .mkS (.lit (.agg [])) (.o1 (.fld 1) (.var 2))) (.ret (.o2 .mkS (.o2 .mkS (.lit (.agg [])) (.o2 .mkS (.o2 .mkS (.lit (.agg [])) (.o1 (.fld 1) (.var 1))) (.o1 (.fld 0) (.var 3)))) (.lit (.bool true)))))
def St77 : Tree := .call 116 (.o2 .mkS (.o2 .mkS (.lit (.agg [])) (.o1 (.fld 0) (.var 0))) (.lit (.str [45]))) (.ite (.o2 (.int .lss .i64) (.o1 .slen (.o1 (.fld 0) (.var 1))) (.lit (.int .i64 1))) (.ret (.o2 .mkS (.o2 .mkS (.lit (.agg [])) (.o2 .mkS (.o2 .mkS (.lit (.agg [])) (.lit (.bool false))) (.lit (.list 1 false [])))) (.lit (.bool false)))) (.ite (.o2 (.int .gtr .i64) (.o1 .slen (.o1 (.fld 0) (.var 1))) (.lit (.int .i64 40))) (.ret (.o2 .mkS (.o2 .mkS (.lit (.agg [])) (.o2 .mkS (.o2 .mkS (.lit (.agg [])) (.lit (.bool false))) (.lit (.list 1 false [])))) (.lit (.bool false)))) (.need (.o2 (.int .lss .i64) (.lit (.int .i64 0)) (.o1 .slen (.o1 (.fld 0) (.var 1)))) (.ite (.o2 (.int .eql .u8) (.o2 .sidx (.o1 (.fld 0) (.var 1)) (.lit (.int .i64 0))) (.lit (.int .u8 48))) (.ite (.o2 (.int .gtr .i64) (.o1 .slen (.o1 (.fld 0) (.var 1))) (.lit (.int .i64 1))) (.ret (.o2 .mkS (.o2 .mkS (.lit (.agg [])) (.o2 .mkS (.o2 .mkS (.lit (.agg [])) (.lit (.bool false))) (.lit (.list 1 false [])))) (.lit (.bool false)))) (.ite (.o1 (.fld 1) (.var 1)) (.ret (.o2 .mkS (.o2 .mkS (.lit (.agg [])) (.o2 .mkS (.o2 .mkS (.lit (.agg [])) (.lit (.bool false))) (.lit (.list 1 false [])))) (.lit (.bool false)))) (.loop (.o2 .mkS (.o2 .mkS (.lit (.agg [])) (.o2 (.int .sub .i64) (.o1 .slen (.o1 (.fld 0) (.var 1))) (.lit (.int .i64 1)))) (.lit (.list 1 false []))) St77b0))) (.loop (.o2 .mkS (.o2 .mkS (.lit (.agg [])) (.o2 (.int .sub .i64) (.o1 .slen (.o1 (.fld 0) (.var 1))) (.lit (.int .i64 1)))) (.lit (.list 1 false []))) St77b1)))))
/-! 69: impl.twoNumbers -/
def St69 : Tree := .call 77 (.o2 .mkS (.lit (.agg [])) (.o1 (.fld 0) (.var 0))) (.call 77 (.o2 .mkS (.lit (.agg [])) (.o1 (.fld 1) (.var 0))) (.ite (.o1 (.fld 1) (.var 1)) (.ret (.o2 .mkS (.o2 .mkS (.o2 .mkS (.lit (.agg [])) (.o2 .mkS (.o2 .mkS (.lit (.agg [])) (.o1 (.fld 0) (.o1 (.fld 0) (.var 1)))) (.o1 (.fld 1) (.o1 (.fld 0) (.var 1))))) (.o2 .mkS (.o2 .mkS (.lit (.agg [])) (.o1 (.fld 0) (.o1 (.fld 0) (.var 2)))) (.o1 (.fld 1) (.o1 (.fld 0) (.var 2))))) (.o1 (.fld 1) (.var 2)))) (.ret (.o2 .mkS (.o2 .mkS (.o2 .mkS (.lit (.agg [])) (.o2 .mkS (.o2 .mkS (.lit (.agg [])) (.o1 (.fld 0) (.o1 (.fld 0) (.var 1)))) (.o1 (.fld 1) (.o1 (.fld 0) (.var 1))))) (.o2 .mkS (.o2 .mkS (.lit (.agg [])) (.o1 (.fld 0) (.o1 (.fld 0) (.var 2)))) (.o1 (.fld 1) (.o1 (.fld 0) (.var 2))))) (.lit (.bool false))))))
/-! 71: impl.number).minus -/
def St71 : Tree := .call 107 (.o2 .mkS (.lit (.agg [])) (.o2 .mkS (.o2 .mkS (.lit (.agg [])) (.o1 .not (.o1 (.fld 0) (.o1 (.fld 0) (.var 0))))) (.o1 (.fld 1) (.o1 (.fld 0) (.var 0))))) (.ret (.o2 .mkS (.lit (.agg [])) (.o2 .mkS (.o2 .mkS (.lit (.agg [])) (.o1 (.fld 0) (.o1 (.fld 0) (.var 1)))) (.o1 (.fld 1) (.o1 (.fld 0) (.var 1))))))
/-! 70: impl.number).plus -/
def St70 : Tree := .ite (.o2 (.bool .eql) (.o1 (.fld 0) (.o1 (.fld 0) (.var 0))) (.o1 (.fld 0) (.o1 (.fld 1) (.var 0)))) (.call 106 (.o2 .mkS (.o2 .mkS (.lit (.agg [])) (.o1 (.fld 1) (.o1 (.fld 0) (.var 0)))) (.o1 (.fld 1) (.o1 (.fld 1) (.var 0)))) (.call 107 (.o2 .mkS (.lit (.agg [])) (.o2 .mkS (.o2 .mkS (.lit (.agg [])) (.o1 (.fld 0) (.o1 (.fld 0) (.var 0)))) (.o1 (.fld 0) (.var 1)))) (.ret (.o2 .mkS (.lit (.agg [])) (.o2 .mkS (.o2 .mkS (.lit (.agg [])) (.o1 (.fld 0) (.o1 (.fld 0) (.var 2)))) (.o1 (.fld 1) (.o1 (.fld 0) (.var 2)))))))) (.call 108 (.o2 .mkS (.o2 .mkS (.lit (.agg [])) (.o1 (.fld 1) (.o1 (.fld 0) (.var 0)))) (.o1 (.fld 1) (.o1 (.fld 1) (.var 0)))) (.ite (.o2 (.int .geq .i64) (.o1 (.fld 0) (.var 1)) (.lit (.int .i64 0))) (.call 109 (.o2 .mkS (.o2 .mkS (.lit (.agg [])) (.o1 (.fld 1) (.o1 (.fld 0) (.var 0)))) (.o1 (.fld 1) (.o1 (.fld 1) (.var 0)))) (.call 107 (.o2 .mkS (.lit (.agg [])) (.o2 .mkS (.o2 .mkS (.lit (.agg [])) (.o1 (.fld 0) (.o1 (.fld 0) (.var 0)))) (.o1 (.fld 0) (.var 2)))) (.ret (.o2 .mkS (.lit (.agg [])) (.o2 .mkS (.o2 .mkS (.lit (.agg [])) (.o1 (.fld 0) (.o1 (.fld 0) (.var 3)))) (.o1 (.fld 1) (.o1 (.fld 0) (.var 3)))))))) (.call 109 (.o2 .mkS (.o2 .mkS (.lit (.agg [])) (.o1 (.fld 1) (.o1 (.fld 1) (.var 0)))) (.o1 (.fld 1) (.o1 (.fld 0) (.var 0)))) (.call 107 (.o2 .mkS (.lit (.agg [])) (.o2 .mkS (.o2 .mkS (.lit (.agg [])) (.o1 (.fld 0) (.o1 (.fld 1) (.var 0)))) (.o1 (.fld 0) (.var 2)))) (.ret (.o2 .mkS (.lit (.agg [])) (.o2 .mkS (.o2 .mkS (.lit (.agg [])) (.o1 (.fld 0) (.o1 (.fld 0) (.var 3)))) (.o1 (.fld 1) (.o1 (.fld 0) (.var 3))))))))))
/-! 75: impl.number).text -/
def St75b0 : Tree := .ite (.o2 (.int .geq .i64) (.o1 (.fld 0) (.var 1)) (.lit (.int .i64 0))) (.need (.o2 (.int .leq .i64) (.lit (.int .i64 0)) (.o1 (.fld 0) (.var 1))) (.need (.o2 (.int .lss .i64) (.o1 (.fld 0) (.var 1)) (.o1 .len (.o1 (.fld 1) (.o1 (.fld 0) (.var 0))))) (.need (.o2 (.int .leq .i64) (.o1 .len (.o2 .snoc (.o1 (.fld 1) (.var 1)) (.o1 (.conv .u8) (.o2 (.int .add .i64) (.lit (.int .i64 48)) (.o2 .idx (.o1 (.fld 1) (.o1 (.fld 0) (.var 0))) (.o1 (.fld 0) (.var 1))))))) (.lit (.int .i64 16777216))) (.cont 0 (.o2 .mkS (.o2 .mkS (.lit (.agg [])) (.o2 (.int .sub .i64) (.o1 (.fld 0) (.var 1)) (.lit (.int .i64 1)))) (.o2 .snoc (.o1 (.fld 1) (.var 1)) (.o1 (.conv .u8) (.o2 (.int .add .i64) (.lit (.int .i64 48)) (.o2 .idx (.o1 (.fld 1) (.o1 (.fld 0) (.var 0))) (.o1 (.fld 0) (.var 1))))))))))) (.need (.o2 (.int .leq .i64) (.o1 .len (.o1 (.fld 1) (.var 1))) (.lit (.int .i64 16777216))) (.need (.o2 (.int .lss .i64) (.lit (.int .i64 0)) (.o1 .len (.o1 (.fld 1) (.var 1)))) (.need (.o1 .okB (.o1 (.fld 1) (.var 1))) (.ret (.o2 .mkS (.o2 .mkS (.lit (.agg [])) (.o1 .toS (.o1 (.fld 1) (.var 1)))) (.lit (.bool true)))))))
def St75b1 : Tree := .ite (.o2 (.int .geq .i64) (.o1 (.fld 0) (.var 1)) (.lit (.int .i64 0))) (.need (.o2 (.int .leq .i64) (.lit (.int .i64 0)) (.o1 (.fld 0) (.var 1))) (.need (.o2 (.int .lss .i64) (.o1 (.fld 0) (.var 1)) (.o1 .len (.o1 (.fld 1) (.o1 (.fld 0) (.var 0))))) (.need (.o2 (.int .leq .i64) (.o1 .len (.o2 .snoc (.o1 (.fld 1) (.var 1)) (.o1 (.conv .u8) (.o2 (.int .add .i64) (.lit (.int .i64 48)) (.o2 .idx (.o1 (.fld 1) (.o1 (.fld 0) (.var 0))) (.o1 (.fld 0) (.var 1))))))) (.lit (.int .i64 16777216))) (.cont 0 (.o2 .mkS (.o2 .mkS (.lit (.agg [])) (.o2 (.int .sub .i64) (.o1 (.fld 0) (.var 1)) (.lit (.int .i64 1)))) (.o2 .snoc (.o1 (.fld 1) (.var 1)) (.o1 (.conv .u8) (.o2 (.int .add .i64) (.lit (.int .i64 48)) (.o2 .idx (.o1 (.fld 1) (.o1 (.fld 0) (.var 0))) (.o1 (.fld 0) (.var 1))))))))))) (.need (.o2 (.int .leq .i64) (.o1 .len (.o1 (.fld 1) (.var 1))) (.lit (.int .i64 16777216))) (.need (.o2 (.int .lss .i64) (.lit (.int .i64 0)) (.o1 .len (.o1 (.fld 1) (.var 1)))) (.need (.o1 .okB (.o1 (.fld 1) (.var 1))) (.ret (.o2 .mkS (.o2 .mkS (.lit (.agg [])) (.o1 .toS (.o1 (.fld 1) (.var 1)))) (.lit (.bool true)))))))
def St75 : Tree := .ite (.o2 (.int .gtr .i64) (.o1 .len (.o1 (.fld 1) (.o1 (.fld 0) (.var 0)))) (.lit (.int .i64 40))) (.ret (.o2 .mkS (.o2 .mkS (.lit (.agg [])) (.lit (.str []))) (.lit (.bool false)))) (.ite (.o2 (.int .eql .i64) (.o1 .len (.o1 (.fld 1) (.o1 (.fld 0) (.var 0)))) (.lit (.int .i64 0))) (.ret (.o2 .mkS (.o2 .mkS (.lit (.agg [])) (.lit (.str [48]))) (.lit (.bool true)))) (.ite (.o1 (.fld 0) (.o1 (.fld 0) (.var 0))) (.need (.o2 (.int .leq .i64) (.o1 .len (.o2 .snoc (.lit (.list 1 false [])) (.lit (.int .u8 45)))) (.lit (.int .i64 16777216))) (.loop (.o2 .mkS (.o2 .mkS (.lit (.agg [])) (.o2 (.int .sub .i64) (.o1 .len (.o1 (.fld 1) (.o1 (.fld 0) (.var 0)))) (.lit (.int .i64 1)))) (.o2 .snoc (.lit (.list 1 false [])) (.lit (.int .u8 45)))) St75b0)) (.loop (.o2 .mkS (.o2 .mkS (.lit (.agg [])) (.o2 (.int .sub .i64) (.o1 .len (.o1 (.fld 1) (.o1 (.fld 0) (.var 0)))) (.lit (.int .i64 1)))) (.lit (.list 1 false []))) St75b1)))
/-! 72: spec.validInt -/
def St72b0 : Tree := .ite (.o2 (.int .lss .i64) (.o1 (.fld 0) (.var 1)) (.o1 .slen (.o3 .ssub (.o1 (.fld 0) (.var 0)) (.lit (.int .i64 1)) (.o1 .slen (.o1 (.fld 0) (.var 0)))))) (.need (.o2 (.int .leq .i64) (.lit (.int .i64 0)) (.o1 (.fld 0) (.var 1))) (.ite (.o2 (.int .lss .u8) (.o2 .sidx (.o3 .ssub (.o1 (.fld 0) (.var 0)) (.lit (.int .i64 1)) (.o1 .slen (.o1 (.fld 0) (.var 0)))) (.o1 (.fld 0) (.var 1))) (.lit (.int .u8 48))) (.ret (.o2 .mkS (.lit (.agg [])) (.lit (.bool false)))) (.ite (.o2 (.int .gtr .u8) (.o2 .sidx (.o3 .ssub (.o1 (.fld 0) (.var 0)) (.lit (.int .i64 1)) (.o1 .slen (.o1 (.fld 0) (.var 0)))) (.o1 (.fld 0) (.var 1))) (.lit (.int .u8 57))) (.ret (.o2 .mkS (.lit (.agg [])) (.lit (.bool false)))) (.cont 0 (.o2 .mkS (.lit (.agg [])) (.o2 (.int .add .i64) (.o1 (.fld 0) (.var 1)) (.lit (.int .i64 1)))))))) (.call 66 (.o2 .mkS (.o2 .mkS (.o2 .mkS (.lit (.agg [])) (.o1 .slen (.o3 .ssub (.o1 (.fld 0) (.var 0)) (.lit (.int .i64 1)) (.o1 .slen (.o1 (.fld 0) (.var 0)))))) (.lit (.int .i64 1))) (.lit (.int .i64 40))) (.ite (.o1 (.fld 0) (.var 2)) (.need (.o2 (.int .lss .i64) (.lit (.int .i64 0)) (.o1 .slen (.o3 .ssub (.o1 (.fld 0) (.var 0)) (.lit (.int .i64 1)) (.o1 .slen (.o1 (.fld 0) (.var 0)))))) (.ite (.o2 (.int .neq .u8) (.o2 .sidx (.o3 .ssub (.o1 (.fld 0) (.var 0)) (.lit (.int .i64 1)) (.o1 .slen (.o1 (.fld 0) (.var 0)))) (.lit (.int .i64 0))) (.lit (.int .u8 48))) (.ret (.o2 .mkS (.lit (.agg [])) (.lit (.bool true)))) (.ret (.o2 .mkS (.lit (.agg [])) (.o2 (.str .eql) (.o1 (.fld 0) (.var 0)) (.lit (.str [48]))))))) (.ret (.o2 .mkS (.lit (.agg [])) (.lit (.bool false))))))
def St72b1 : Tree := .ite (.o2 (.int .lss .i64) (.o1 (.fld 0) (.var 1)) (.o1 .slen (.o1 (.fld 0) (.var 0)))) (.need (.o2 (.int .leq .i64) (.lit (.int .i64 0)) (.o1 (.fld 0) (.var 1))) (.ite (.o2 (.int .lss .u8) (.o2 .sidx (.o1 (.fld 0) (.var 0)) (.o1 (.fld 0) (.var 1))) (.lit (.int .u8 48))) (.ret (.o2 .mkS (.lit (.agg [])) (.lit (.bool false)))) (.ite (.o2 (.int .gtr .u8) (.o2 .sidx (.o1 (.fld 0) (.var 0)) (.o1 (.fld 0) (.var 1))) (.lit (.int .u8 57))) (.ret (.o2 .mkS (.lit (.agg [])) (.lit (.bool false)))) (.cont 0 (.o2 .mkS (.lit (.agg [])) (.o2 (.int .add .i64) (.o1 (.fld 0) (.var 1)) (.lit (.int .i64 1)))))))) (.call 66 (.o2 .mkS (.o2 .mkS (.o2 .mkS (.lit (.agg [])) (.o1 .slen (.o1 (.fld 0) (.var 0)))) (.lit (.int .i64 1))) (.lit (.int .i64 40))) (.ite (.o1 (.fld 0) (.var 2)) (.ite (.o2 (.int .neq .u8) (.o2 .sidx (.o1 (.fld 0) (.var 0)) (.lit (.int .i64 0))) (.lit (.int .u8 48))) (.ret (.o2 .mkS (.lit (.agg [])) (.lit (.bool true)))) (.ret (.o2 .mkS (.lit (.agg [])) (.o2 (.str .eql) (.o1 (.fld 0) (.var 0)) (.lit (.str [48])))))) (.ret (.o2 .mkS (.lit (.agg [])) (.lit (.bool false))))))
def St72b2 : Tree := .ite (.o2 (.int .lss .i64) (.o1 (.fld 0) (.var 1)) (.o1 .slen (.o1 (.fld 0) (.var 0)))) (.need (.o2 (.int .leq .i64) (.lit (.int .i64 0)) (.o1 (.fld 0) (.var 1))) (.ite (.o2 (.int .lss .u8) (.o2 .sidx (.o1 (.fld 0) (.var 0)) (.o1 (.fld 0) (.var 1))) (.lit (.int .u8 48))) (.ret (.o2 .mkS (.lit (.agg [])) (.lit (.bool false)))) (.ite (.o2 (.int .gtr .u8) (.o2 .sidx (.o1 (.fld 0) (.var 0)) (.o1 (.fld 0) (.var 1))) (.lit (.int .u8 57))) (.ret (.o2 .mkS (.lit (.agg [])) (.lit (.bool false)))) (.cont 0 (.o2 .mkS (.lit (.agg [])) (.o2 (.int .add .i64) (.o1 (.fld 0) (.var 1)) (.lit (.int .i64 1)))))))) (.call 66 (.o2 .mkS (.o2 .mkS (.o2 .mkS (.lit (.agg [])) (.o1 .slen (.o1 (.fld 0) (.var 0)))) (.lit (.int .i64 1))) (.lit (.int .i64 40))) (.ite (.o1 (.fld 0) (.var 2)) (.need (.o2 (.int .lss .i64) (.lit (.int .i64 0)) (.o1 .slen (.o1 (.fld 0) (.var 0)))) (.ite (.o2 (.int .neq .u8) (.o2 .sidx (.o1 (.fld 0) (.var 0)) (.lit (.int .i64 0))) (.lit (.int .u8 48))) (.ret (.o2 .mkS (.lit (.agg [])) (.lit (.bool true)))) (.ret (.o2 .mkS (.lit (.agg [])) (.o2 (.str .eql) (.o1 (.fld 0) (.var 0)) (.lit (.str [48]))))))) (.ret (.o2 .mkS (.lit (.agg [])) (.lit (.bool false))))))
def St72 : Tree := .ite (.o2 (.int .gtr .i64) (.o1 .slen (.o1 (.fld 0) (.var 0))) (.lit (.int .i64 0))) (.need (.o2 (.int .lss .i64) (.lit (.int .i64 0)) (.o1 .slen (.o1 (.fld 0) (.var 0)))) (.ite (.o2 (.int .eql .u8) (.o2 .sidx (.o1 (.fld 0) (.var 0)) (.lit (.int .i64 0))) (.lit (.int .u8 45))) (.need (.o2 (.int .leq .i64) (.lit (.int .i64 1)) (.o1 .slen (.o1 (.fld 0) (.var 0)))) (.need (.o2 (.int .leq .i64) (.o1 .slen (.o1 (.fld 0) (.var 0))) (.o1 .slen (.o1 (.fld 0) (.var 0)))) (.loop (.o2 .mkS (.lit (.agg [])) (.lit (.int .i64 0))) St72b0))) (.loop (.o2 .mkS (.lit (.agg [])) (.lit (.int .i64 0))) St72b1))) (.loop (.o2 .mkS (.lit (.agg [])) (.lit (.int .i64 0))) St72b2)
/-! 48: spec.newRnd -/
def St48 : Tree := .need (.o2 (.int .leq .i64) (.lit (.int .i64 0)) (.o2 (.mn .i64) (.o1 .len (.o1 (.fld 0) (.var 0))) (.lit (.int .i64 4000)))) (.need (.o2 (.int .leq .i64) (.o2 (.mn .i64) (.o1 .len (.o1 (.fld 0) (.var 0))) (.lit (.int .i64 4000))) (.o1 .len (.o1 (.fld 0) (.var 0)))) (.ret (.o2 .mkS (.lit (.agg [])) (.o2 .mkS (.o2 .mkS (.lit (.agg [])) (.o3 .sub (.o1 (.fld 0) (.var 0)) (.lit (.int .i64 0)) (.o2 (.mn .i64) (.o1 .len (.o1 (.fld 0) (.var 0))) (.lit (.int .i64 4000))))) (.lit (.int .i64 0))))))
/-! 68: spec.rnd).integer -/
def St68b0 : Tree := .ite (.o2 (.int .lss .i64) (.o1 (.fld 1) (.var 3)) (.o1 (.fld 0) (.var 2))) (.call 62 (.o2 .mkS (.o2 .mkS (.lit (.agg [])) (.o2 .mkS (.o2 .mkS (.lit (.agg [])) (.o1 (.fld 2) (.var 3))) (.o1 (.fld 3) (.var 3)))) (.lit (.int .i64 10))) (.ite (.o2 (.int .eql .i64) (.o1 (.fld 1) (.var 3)) (.lit (.int .i64 0))) (.call 62 (.o2 .mkS (.o2 .mkS (.lit (.agg [])) (.o2 .mkS (.o2 .mkS (.lit (.agg [])) (.o1 (.fld 0) (.o1 (.fld 1) (.var 4)))) (.o1 (.fld 1) (.o1 (.fld 1) (.var 4))))) (.lit (.int .i64 9))) (.ite (.o2 (.int .eql .i64) (.o1 (.fld 0) (.var 5)) (.lit (.int .i64 0))) (.call 105 (.o2 .mkS (.o2 .mkS (.lit (.agg [])) (.o2 .mkS (.o2 .mkS (.lit (.agg [])) (.o1 (.fld 0) (.o1 (.fld 1) (.var 5)))) (.o1 (.fld 1) (.o1 (.fld 1) (.var 5))))) (.o2 .snoc (.o2 .snoc (.o2 .snoc (.lit (.list 1 false [])) (.lit (.int .i64 9))) (.lit (.int .i64 9))) (.lit (.int .i64 1)))) (.call 65 (.o2 .mkS (.lit (.agg [])) (.o1 (.fld 0) (.var 6))) (.need (.o2 (.int .leq .i64) (.o1 .slen (.o2 (.str .add) (.o1 (.fld 0) (.var 3)) (.o1 (.fld 0) (.var 7)))) (.lit (.int .i64 16777216))) (.cont 0 (.o2 .mkS (.o2 .mkS (.o2 .mkS (.o2 .mkS (.lit (.agg [])) (.o2 (.str .add) (.o1 (.fld 0) (.var 3)) (.o1 (.fld 0) (.var 7)))) (.o2 (.int .add .i64) (.o1 (.fld 1) (.var 3)) (.lit (.int .i64 1)))) (.o1 (.fld 0) (.o1 (.fld 1) (.var 6)))) (.o1 (.fld 1) (.o1 (.fld 1) (.var 6)))))))) (.call 65 (.o2 .mkS (.lit (.agg [])) (.o2 (.mx .i64) (.lit (.int .i64 1)) (.o1 (.fld 0) (.var 4)))) (.need (.o2 (.int .leq .i64) (.o1 .slen (.o2 (.str .add) (.o1 (.fld 0) (.var 3)) (.o1 (.fld 0) (.var 6)))) (.lit (.int .i64 16777216))) (.cont 0 (.o2 .mkS (.o2 .mkS (.o2 .mkS (.o2 .mkS (.lit (.agg [])) (.o2 (.str .add) (.o1 (.fld 0) (.var 3)) (.o1 (.fld 0) (.var 6)))) (.o2 (.int .add .i64) (.o1 (.fld 1) (.var 3)) (.lit (.int .i64 1)))) (.o1 (.fld 0) (.o1 (.fld 1) (.var 5)))) (.o1 (.fld 1) (.o1 (.fld 1) (.var 5))))))))) (.call 62 (.o2 .mkS (.o2 .mkS (.lit (.agg [])) (.o2 .mkS (.o2 .mkS (.lit (.agg [])) (.o1 (.fld 0) (.o1 (.fld 1) (.var 4)))) (.o1 (.fld 1) (.o1 (.fld 1) (.var 4))))) (.lit (.int .i64 9))) (.ite (.o2 (.int .eql .i64) (.o1 (.fld 0) (.var 5)) (.lit (.int .i64 0))) (.call 105 (.o2 .mkS (.o2 .mkS (.lit (.agg [])) (.o2 .mkS (.o2 .mkS (.lit (.agg [])) (.o1 (.fld 0) (.o1 (.fld 1) (.var 5)))) (.o1 (.fld 1) (.o1 (.fld 1) (.var 5))))) (.o2 .snoc (.o2 .snoc (.o2 .snoc (.lit (.list 1 false [])) (.lit (.int .i64 9))) (.lit (.int .i64 9))) (.lit (.int .i64 1)))) (.call 65 (.o2 .mkS (.lit (.agg [])) (.o1 (.fld 0) (.var 6))) (.need (.o2 (.int .leq .i64) (.o1 .slen (.o2 (.str .add) (.o1 (.fld 0) (.var 3)) (.o1 (.fld 0) (.var 7)))) (.lit (.int .i64 16777216))) (.cont 0 (.o2 .mkS (.o2 .mkS (.o2 .mkS (.o2 .mkS (.lit (.agg [])) (.o2 (.str .add) (.o1 (.fld 0) (.var 3)) (.o1 (.fld 0) (.var 7)))) (.o2 (.int .add .i64) (.o1 (.fld 1) (.var 3)) (.lit (.int .i64 1)))) (.o1 (.fld 0) (.o1 (.fld 1) (.var 6)))) (.o1 (.fld 1) (.o1 (.fld 1) (.var 6)))))))) (.call 65 (.o2 .mkS (.lit (.agg [])) (.o1 (.fld 0) (.var 4))) (.need (.o2 (.int .leq .i64) (.o1 .slen (.o2 (.str .add) (.o1 (.fld 0) (.var 3)) (.o1 (.fld 0) (.var 6)))) (.lit (.int .i64 16777216))) (.cont 0 (.o2 .mkS (.o2 .mkS (.o2 .mkS (.o2 .mkS (.lit (.agg [])) (.o2 (.str .add) (.o1 (.fld 0) (.var 3)) (.o1 (.fld 0) (.var 6)))) (.o2 (.int .add .i64) (.o1 (.fld 1) (.var 3)) (.lit (.int .i64 1)))) (.o1 (.fld 0) (.o1 (.fld 1) (.var 5)))) (.o1 (.fld 1) (.o1 (.fld 1) (.var 5))))))))))) (.call 62 (.o2 .mkS (.o2 .mkS (.lit (.agg [])) (.o2 .mkS (.o2 .mkS (.lit (.agg [])) (.o1 (.fld 2) (.var 3))) (.o1 (.fld 3) (.var 3)))) (.lit (.int .i64 2))) (.ite (.o2 (.int .eql .i64) (.o1 (.fld 0) (.var 4)) (.lit (.int .i64 0))) (.need (.o2 (.int .leq .i64) (.o1 .slen (.o2 (.str .add) (.lit (.str [45])) (.o1 (.fld 0) (.var 3)))) (.lit (.int .i64 16777216))) (.ret (.o2 .mkS (.o2 .mkS (.lit (.agg [])) (.o2 (.str .add) (.lit (.str [45])) (.o1 (.fld 0) (.var 3)))) (.o2 .mkS (.o2 .mkS (.lit (.agg [])) (.o1 (.fld 0) (.o1 (.fld 1) (.var 4)))) (.o1 (.fld 1) (.o1 (.fld 1) (.var 4))))))) (.ret (.o2 .mkS (.o2 .mkS (.lit (.agg [])) (.o1 (.fld 0) (.var 3))) (.o2 .mkS (.o2 .mkS (.lit (.agg [])) (.o1 (.fld 0) (.o1 (.fld 1) (.var 4)))) (.o1 (.fld 1) (.o1 (.fld 1) (.var 4))))))))
def St68 : Tree := .call 62 (.o2 .mkS (.o2 .mkS (.lit (.agg [])) (.o2 .mkS (.o2 .mkS (.lit (.agg [])) (.o1 (.fld 0) (.o1 (.fld 0) (.var 0)))) (.o1 (.fld 1) (.o1 (.fld 0) (.var 0))))) (.lit (.int .i64 14))) (.ite (.o2 (.int .eql .i64) (.o1 (.fld 0) (.var 1)) (.lit (.int .i64 0))) (.call 50 (.o2 .mkS (.o2 .mkS (.lit (.agg [])) (.o2 .mkS (.o2 .mkS (.lit (.agg [])) (.o1 (.fld 0) (.o1 (.fld 1) (.var 1)))) (.o1 (.fld 1) (.o1 (.fld 1) (.var 1))))) (.o2 .snoc (.o2 .snoc (.o2 .snoc (.o2 .snoc (.o2 .snoc (.o2 .snoc (.o2 .snoc (.o2 .snoc (.lit (.list 1 false [])) (.lit (.str []))) (.lit (.str [45]))) (.lit (.str [45, 48]))) (.lit (.str [48, 49]))) (.lit (.str [49, 97]))) (.lit (.str [32, 49]))) (.lit (.str [43, 49]))) (.lit (.str [48, 48])))) (.ret (.o2 .mkS (.o2 .mkS (.lit (.agg [])) (.o1 (.fld 0) (.var 2))) (.o2 .mkS (.o2 .mkS (.lit (.agg [])) (.o1 (.fld 0) (.o1 (.fld 1) (.var 2)))) (.o1 (.fld 1) (.o1 (.fld 1) (.var 2))))))) (.ite (.o2 (.int .eql .i64) (.o1 (.fld 0) (.var 1)) (.lit (.int .i64 1))) (.call 50 (.o2 .mkS (.o2 .mkS (.lit (.agg [])) (.o2 .mkS (.o2 .mkS (.lit (.agg [])) (.o1 (.fld 0) (.o1 (.fld 1) (.var 1)))) (.o1 (.fld 1) (.o1 (.fld 1) (.var 1))))) (.o2 .snoc (.o2 .snoc (.o2 .snoc (.o2 .snoc (.o2 .snoc (.o2 .snoc (.o2 .snoc (.o2 .snoc (.lit (.list 1 false [])) (.lit (.str [48]))) (.lit (.str [49]))) (.lit (.str [45, 49]))) (.lit (.str [57]))) (.lit (.str [49, 48]))) (.lit (.str [45, 49, 48]))) (.lit (.str [57, 57]))) (.lit (.str [49, 48, 48])))) (.ret (.o2 .mkS (.o2 .mkS (.lit (.agg [])) (.o1 (.fld 0) (.var 2))) (.o2 .mkS (.o2 .mkS (.lit (.agg [])) (.o1 (.fld 0) (.o1 (.fld 1) (.var 2)))) (.o1 (.fld 1) (.o1 (.fld 1) (.var 2))))))) (.ite (.o2 (.int .eql .i64) (.o1 (.fld 0) (.var 1)) (.lit (.int .i64 2))) (.call 62 (.o2 .mkS (.o2 .mkS (.lit (.agg [])) (.o2 .mkS (.o2 .mkS (.lit (.agg [])) (.o1 (.fld 0) (.o1 (.fld 1) (.var 1)))) (.o1 (.fld 1) (.o1 (.fld 1) (.var 1))))) (.lit (.int .i64 2000))) (.call 65 (.o2 .mkS (.lit (.agg [])) (.o2 (.int .sub .i64) (.o1 (.fld 0) (.var 2)) (.lit (.int .i64 1000)))) (.ret (.o2 .mkS (.o2 .mkS (.lit (.agg [])) (.o1 (.fld 0) (.var 3))) (.o2 .mkS (.o2 .mkS (.lit (.agg [])) (.o1 (.fld 0) (.o1 (.fld 1) (.var 2)))) (.o1 (.fld 1) (.o1 (.fld 1) (.var 2)))))))) (.ite (.o2 (.int .eql .i64) (.o1 (.fld 0) (.var 1)) (.lit (.int .i64 3))) (.call 62 (.o2 .mkS (.o2 .mkS (.lit (.agg [])) (.o2 .mkS (.o2 .mkS (.lit (.agg [])) (.o1 (.fld 0) (.o1 (.fld 1) (.var 1)))) (.o1 (.fld 1) (.o1 (.fld 1) (.var 1))))) (.lit (.int .i64 2000))) (.call 65 (.o2 .mkS (.lit (.agg [])) (.o2 (.int .sub .i64) (.o1 (.fld 0) (.var 2)) (.lit (.int .i64 1000)))) (.ret (.o2 .mkS (.o2 .mkS (.lit (.agg [])) (.o1 (.fld 0) (.var 3))) (.o2 .mkS (.o2 .mkS (.lit (.agg [])) (.o1 (.fld 0) (.o1 (.fld 1) (.var 2)))) (.o1 (.fld 1) (.o1 (.fld 1) (.var 2)))))))) (.ite (.o2 (.int .eql .i64) (.o1 (.fld 0) (.var 1)) (.lit (.int .i64 4))) (.call 62 (.o2 .mkS (.o2 .mkS (.lit (.agg [])) (.o2 .mkS (.o2 .mkS (.lit (.agg [])) (.o1 (.fld 0) (.o1 (.fld 1) (.var 1)))) (.o1 (.fld 1) (.o1 (.fld 1) (.var 1))))) (.lit (.int .i64 2000))) (.call 65 (.o2 .mkS (.lit (.agg [])) (.o2 (.int .sub .i64) (.o1 (.fld 0) (.var 2)) (.lit (.int .i64 1000)))) (.ret (.o2 .mkS (.o2 .mkS (.lit (.agg [])) (.o1 (.fld 0) (.var 3))) (.o2 .mkS (.o2 .mkS (.lit (.agg [])) (.o1 (.fld 0) (.o1 (.fld 1) (.var 2)))) (.o1 (.fld 1) (.o1 (.fld 1) (.var 2)))))))) (.call 105 (.o2 .mkS (.o2 .mkS (.lit (.agg [])) (.o2 .mkS (.o2 .mkS (.lit (.agg [])) (.o1 (.fld 0) (.o1 (.fld 1) (.var 1)))) (.o1 (.fld 1) (.o1 (.fld 1) (.var 1))))) (.o2 .snoc (.o2 .snoc (.o2 .snoc (.o2 .snoc (.o2 .snoc (.o2 .snoc (.o2 .snoc (.o2 .snoc (.o2 .snoc (.o2 .snoc (.lit (.list 1 false [])) (.lit (.int .i64 2))) (.lit (.int .i64 5))) (.lit (.int .i64 12))) (.lit (.int .i64 19))) (.lit (.int .i64 20))) (.lit (.int .i64 38))) (.lit (.int .i64 39))) (.lit (.int .i64 40))) (.lit (.int .i64 40))) (.lit (.int .i64 41)))) (.loop (.o2 .mkS (.o2 .mkS (.o2 .mkS (.o2 .mkS (.lit (.agg [])) (.lit (.str []))) (.lit (.int .i64 0))) (.o1 (.fld 0) (.o1 (.fld 1) (.var 2)))) (.o1 (.fld 1) (.o1 (.fld 1) (.var 2)))) St68b0)))))))
/-! 62: spec.rnd).pick -/
def St62 : Tree := .ite (.o2 (.int .lss .i64) (.o1 (.fld 1) (.var 0)) (.lit (.int .i64 2))) (.ret (.o2 .mkS (.o2 .mkS (.lit (.agg [])) (.lit (.int .i64 0))) (.o2 .mkS (.o2 .mkS (.lit (.agg [])) (.o1 (.fld 0) (.o1 (.fld 0) (.var 0)))) (.o1 (.fld 1) (.o1 (.fld 0) (.var 0)))))) (.ite (.o2 (.int .gtr .i64) (.o1 .len (.o1 (.fld 0) (.o1 (.fld 0) (.var 0)))) (.lit (.int .i64 0))) (.need (.o1 .not (.o2 (.int .eql .i64) (.o1 .len (.o1 (.fld 0) (.o1 (.fld 0) (.var 0)))) (.lit (.int .i64 0)))) (.need (.o2 (.int .leq .i64) (.lit (.int .i64 0)) (.o2 (.int .rem .i64) (.o1 (.fld 1) (.o1 (.fld 0) (.var 0))) (.o1 .len (.o1 (.fld 0) (.o1 (.fld 0) (.var 0)))))) (.need (.o2 (.int .lss .i64) (.o2 (.int .rem .i64) (.o1 (.fld 1) (.o1 (.fld 0) (.var 0))) (.o1 .len (.o1 (.fld 0) (.o1 (.fld 0) (.var 0))))) (.o1 .len (.o1 (.fld 0) (.o1 (.fld 0) (.var 0))))) (.ite (.o2 (.int .gtr .i64) (.o1 (.fld 1) (.var 0)) (.lit (.int .i64 256))) (.need (.o2 (.int .leq .i64) (.lit (.int .i64 0)) (.o2 (.int .rem .i64) (.o2 (.int .add .i64) (.o2 (.int .mul .i64) (.o1 (.fld 1) (.o1 (.fld 0) (.var 0))) (.lit (.int .i64 7))) (.lit (.int .i64 3))) (.o1 .len (.o1 (.fld 0) (.o1 (.fld 0) (.var 0)))))) (.need (.o2 (.int .lss .i64) (.o2 (.int .rem .i64) (.o2 (.int .add .i64) (.o2 (.int .mul .i64) (.o1 (.fld 1) (.o1 (.fld 0) (.var 0))) (.lit (.int .i64 7))) (.lit (.int .i64 3))) (.o1 .len (.o1 (.fld 0) (.o1 (.fld 0) (.var 0))))) (.o1 .len (.o1 (.fld 0) (.o1 (.fld 0) (.var 0))))) (.need (.o1 .not (.o2 (.int .eql .i64) (.o1 (.fld 1) (.var 0)) (.lit (.int .i64 0)))) (.ret (.o2 .mkS (.o2 .mkS (.lit (.agg [])) (.o2 (.int .rem .i64) (.o2 (.int .xor .i64) (.o2 (.int .add .i64) (.o2 (.int .add .i64) (.o2 (.int .add .i64) (.o2 (.int .mul .i64) (.o1 (.conv .i64) (.o2 .idx (.o1 (.fld 0) (.o1 (.fld 0) (.var 0))) (.o2 (.int .rem .i64) (.o1 (.fld 1) (.o1 (.fld 0) (.var 0))) (.o1 .len (.o1 (.fld 0) (.o1 (.fld 0) (.var 0))))))) (.lit (.int .i64 131))) (.o2 (.int .mul .i64) (.o1 (.conv .i64) (.o2 .idx (.o1 (.fld 0) (.o1 (.fld 0) (.var 0))) (.o2 (.int .rem .i64) (.o2 (.int .add .i64) (.o2 (.int .mul .i64) (.o1 (.fld 1) (.o1 (.fld 0) (.var 0))) (.lit (.int .i64 7))) (.lit (.int .i64 3))) (.o1 .len (.o1 (.fld 0) (.o1 (.fld 0) (.var 0))))))) (.lit (.int .i64 1117)))) (.o2 (.int .mul .i64) (.o1 (.fld 1) (.o1 (.fld 0) (.var 0))) (.lit (.int .i64 29)))) (.o2 (.int .mul .i64) (.o2 (.int .quo .i64) (.o1 (.fld 1) (.o1 (.fld 0) (.var 0))) (.o1 .len (.o1 (.fld 0) (.o1 (.fld 0) (.var 0))))) (.lit (.int .i64 53)))) (.o2 (.int .quo .i64) (.o2 (.int .add .i64) (.o2 (.int .add .i64) (.o2 (.int .add .i64) (.o2 (.int .mul .i64) (.o1 (.conv .i64) (.o2 .idx (.o1 (.fld 0) (.o1 (.fld 0) (.var 0))) (.o2 (.int .rem .i64) (.o1 (.fld 1) (.o1 (.fld 0) (.var 0))) (.o1 .len (.o1 (.fld 0) (.o1 (.fld 0) (.var 0))))))) (.lit (.int .i64 131))) (.o2 (.int .mul .i64) (.o1 (.conv .i64) (.o2 .idx (.o1 (.fld 0) (.o1 (.fld 0) (.var 0))) (.o2 (.int .rem .i64) (.o2 (.int .add .i64) (.o2 (.int .mul .i64) (.o1 (.fld 1) (.o1 (.fld 0) (.var 0))) (.lit (.int .i64 7))) (.lit (.int .i64 3))) (.o1 .len (.o1 (.fld 0) (.o1 (.fld 0) (.var 0))))))) (.lit (.int .i64 1117)))) (.o2 (.int .mul .i64) (.o1 (.fld 1) (.o1 (.fld 0) (.var 0))) (.lit (.int .i64 29)))) (.o2 (.int .mul .i64) (.o2 (.int .quo .i64) (.o1 (.fld 1) (.o1 (.fld 0) (.var 0))) (.o1 .len (.o1 (.fld 0) (.o1 (.fld 0) (.var 0))))) (.lit (.int .i64 53)))) (.lit (.int .i64 64)))) (.o1 (.fld 1) (.var 0)))) (.o2 .mkS (.o2 .mkS (.lit (.agg [])) (.o1 (.fld 0) (.o1 (.fld 0) (.var 0)))) (.o2 (.int .add .i64) (.o1 (.fld 1) (.o1 (.fld 0) (.var 0))) (.lit (.int .i64 1))))))))) (.ite (.o2 (.int .geq .i64) (.o1 (.fld 1) (.o1 (.fld 0) (.var 0))) (.o1 .len (.o1 (.fld 0) (.o1 (.fld 0) (.var 0))))) (.need (.o2 (.int .leq .i64) (.lit (.int .i64 0)) (.o2 (.int .rem .i64) (.o2 (.int .add .i64) (.o2 (.int .mul .i64) (.o1 (.fld 1) (.o1 (.fld 0) (.var 0))) (.lit (.int .i64 7))) (.lit (.int .i64 3))) (.o1 .len (.o1 (.fld 0) (.o1 (.fld 0) (.var 0)))))) (.need (.o2 (.int .lss .i64) (.o2 (.int .rem .i64) (.o2 (.int .add .i64) (.o2 (.int .mul .i64) (.o1 (.fld 1) (.o1 (.fld 0) (.var 0))) (.lit (.int .i64 7))) (.lit (.int .i64 3))) (.o1 .len (.o1 (.fld 0) (.o1 (.fld 0) (.var 0))))) (.o1 .len (.o1 (.fld 0) (.o1 (.fld 0) (.var 0))))) (.need (.o1 .not (.o2 (.int .eql .i64) (.o1 (.fld 1) (.var 0)) (.lit (.int .i64 0)))) (.ret (.o2 .mkS (.o2 .mkS (.lit (.agg [])) (.o2 (.int .rem .i64) (.o2 (.int .xor .i64) (.o2 (.int .add .i64) (.o2 (.int .add .i64) (.o2 (.int .add .i64) (.o2 (.int .mul .i64) (.o1 (.conv .i64) (.o2 .idx (.o1 (.fld 0) (.o1 (.fld 0) (.var 0))) (.o2 (.int .rem .i64) (.o1 (.fld 1) (.o1 (.fld 0) (.var 0))) (.o1 .len (.o1 (.fld 0) (.o1 (.fld 0) (.var 0))))))) (.lit (.int .i64 131))) (.o2 (.int .mul .i64) (.o1 (.conv .i64) (.o2 .idx (.o1 (.fld 0) (.o1 (.fld 0) (.var 0))) (.o2 (.int .rem .i64) (.o2 (.int .add .i64) (.o2 (.int .mul .i64) (.o1 (.fld 1) (.o1 (.fld 0) (.var 0))) (.lit (.int .i64 7))) (.lit (.int .i64 3))) (.o1 .len (.o1 (.fld 0) (.o1 (.fld 0) (.var 0))))))) (.lit (.int .i64 1117)))) (.o2 (.int .mul .i64) (.o1 (.fld 1) (.o1 (.fld 0) (.var 0))) (.lit (.int .i64 29)))) (.o2 (.int .mul .i64) (.o2 (.int .quo .i64) (.o1 (.fld 1) (.o1 (.fld 0) (.var 0))) (.o1 .len (.o1 (.fld 0) (.o1 (.fld 0) (.var 0))))) (.lit (.int .i64 53)))) (.o2 (.int .quo .i64) (.o2 (.int .add .i64) (.o2 (.int .add .i64) (.o2 (.int .add .i64) (.o2 (.int .mul .i64) (.o1 (.conv .i64) (.o2 .idx (.o1 (.fld 0) (.o1 (.fld 0) (.var 0))) (.o2 (.int .rem .i64) (.o1 (.fld 1) (.o1 (.fld 0) (.var 0))) (.o1 .len (.o1 (.fld 0) (.o1 (.fld 0) (.var 0))))))) (.lit (.int .i64 131))) (.o2 (.int .mul .i64) (.o1 (.conv .i64) (.o2 .idx (.o1 (.fld 0) (.o1 (.fld 0) (.var 0))) (.o2 (.int .rem .i64) (.o2 (.int .add .i64) (.o2 (.int .mul .i64) (.o1 (.fld 1) (.o1 (.fld 0) (.var 0))) (.lit (.int .i64 7))) (.lit (.int .i64 3))) (.o1 .len (.o1 (.fld 0) (.o1 (.fld 0) (.var 0))))))) (.lit (.int .i64 1117)))) (.o2 (.int .mul .i64) (.o1 (.fld 1) (.o1 (.fld 0) (.var 0))) (.lit (.int .i64 29)))) (.o2 (.int .mul .i64) (.o2 (.int .quo .i64) (.o1 (.fld 1) (.o1 (.fld 0) (.var 0))) (.o1 .len (.o1 (.fld 0) (.o1 (.fld 0) (.var 0))))) (.lit (.int .i64 53)))) (.lit (.int .i64 64)))) (.o1 (.fld 1) (.var 0)))) (.o2 .mkS (.o2 .mkS (.lit (.agg [])) (.o1 (.fld 0) (.o1 (.fld 0) (.var 0)))) (.o2 (.int .add .i64) (.o1 (.fld 1) (.o1 (.fld 0) (.var 0))) (.lit (.int .i64 1))))))))) (.need (.o1 .not (.o2 (.int .eql .i64) (.o1 (.fld 1) (.var 0)) (.lit (.int .i64 0)))) (.ret (.o2 .mkS (.o2 .mkS (.lit (.agg [])) (.o2 (.int .rem .i64) (.o1 (.conv .i64) (.o2 .idx (.o1 (.fld 0) (.o1 (.fld 0) (.var 0))) (.o2 (.int .rem .i64) (.o1 (.fld 1) (.o1 (.fld 0) (.var 0))) (.o1 .len (.o1 (.fld 0) (.o1 (.fld 0) (.var 0))))))) (.o1 (.fld 1) (.var 0)))) (.o2 .mkS (.o2 .mkS (.lit (.agg [])) (.o1 (.fld 0) (.o1 (.fld 0) (.var 0)))) (.o2 (.int .add .i64) (.o1 (.fld 1) (.o1 (.fld 0) (.var 0))) (.lit (.int .i64 1)))))))))))) (.need (.o1 .not (.o2 (.int .eql .i64) (.o1 (.fld 1) (.var 0)) (.lit (.int .i64 0)))) (.ret (.o2 .mkS (.o2 .mkS (.lit (.agg [])) (.o2 (.int .rem .i64) (.lit (.int .i64 0)) (.o1 (.fld 1) (.var 0)))) (.o2 .mkS (.o2 .mkS (.lit (.agg [])) (.o1 (.fld 0) (.o1 (.fld 0) (.var 0)))) (.o2 (.int .add .i64) (.o1 (.fld 1) (.o1 (.fld 0) (.var 0))) (.lit (.int .i64 1))))))))
/-! 80: impl.number).parts -/
def St80 : Tree := .call 121 (.o2 .mkS (.o2 .mkS (.lit (.agg [])) (.o1 (.fld 1) (.o1 (.fld 0) (.var 0)))) (.o1 (.fld 1) (.o1 (.fld 1) (.var 0)))) (.call 107 (.o2 .mkS (.lit (.agg [])) (.o2 .mkS (.o2 .mkS (.lit (.agg [])) (.o2 (.bool .neq) (.o1 (.fld 0) (.o1 (.fld 0) (.var 0))) (.o1 (.fld 0) (.o1 (.fld 1) (.var 0))))) (.o1 (.fld 0) (.var 1)))) (.call 107 (.o2 .mkS (.lit (.agg [])) (.o2 .mkS (.o2 .mkS (.lit (.agg [])) (.o1 (.fld 0) (.o1 (.fld 0) (.var 0)))) (.o1 (.fld 1) (.var 1)))) (.ite (.o2 (.int .gtr .i64) (.o1 .len (.o1 (.fld 1) (.o1 (.fld 0) (.var 3)))) (.lit (.int .i64 0))) (.ite (.o2 (.bool .neq) (.o1 (.fld 0) (.o1 (.fld 0) (.var 3))) (.o1 (.fld 0) (.o1 (.fld 1) (.var 0)))) (.call 70 (.o2 .mkS (.o2 .mkS (.lit (.agg [])) (.o2 .mkS (.o2 .mkS (.lit (.agg [])) (.o1 (.fld 0) (.o1 (.fld 0) (.var 2)))) (.o1 (.fld 1) (.o1 (.fld 0) (.var 2))))) (.o2 .mkS (.o2 .mkS (.lit (.agg [])) (.lit (.bool true))) (.o2 .snoc (.lit (.list 1 false [])) (.lit (.int .i64 1))))) (.call 70 (.o2 .mkS (.o2 .mkS (.lit (.agg [])) (.o2 .mkS (.o2 .mkS (.lit (.agg [])) (.o1 (.fld 0) (.o1 (.fld 0) (.var 3)))) (.o1 (.fld 1) (.o1 (.fld 0) (.var 3))))) (.o2 .mkS (.o2 .mkS (.lit (.agg [])) (.o1 (.fld 0) (.o1 (.fld 1) (.var 0)))) (.o1 (.fld 1) (.o1 (.fld 1) (.var 0))))) (.ret (.o2 .mkS (.o2 .mkS (.lit (.agg [])) (.o2 .mkS (.o2 .mkS (.lit (.agg [])) (.o1 (.fld 0) (.o1 (.fld 0) (.var 4)))) (.o1 (.fld 1) (.o1 (.fld 0) (.var 4))))) (.o2 .mkS (.o2 .mkS (.lit (.agg [])) (.o1 (.fld 0) (.o1 (.fld 0) (.var 5)))) (.o1 (.fld 1) (.o1 (.fld 0) (.var 5)))))))) (.ret (.o2 .mkS (.o2 .mkS (.lit (.agg [])) (.o2 .mkS (.o2 .mkS (.lit (.agg [])) (.o1 (.fld 0) (.o1 (.fld 0) (.var 2)))) (.o1 (.fld 1) (.o1 (.fld 0) (.var 2))))) (.o2 .mkS (.o2 .mkS (.lit (.agg [])) (.o1 (.fld 0) (.o1 (.fld 0) (.var 3)))) (.o1 (.fld 1) (.o1 (.fld 0) (.var 3))))))) (.ret (.o2 .mkS (.o2 .mkS (.lit (.agg [])) (.o2 .mkS (.o2 .mkS (.lit (.agg [])) (.o1 (.fld 0) (.o1 (.fld 0) (.var 2)))) (.o1 (.fld 1) (.o1 (.fld 0) (.var 2))))) (.o2 .mkS (.o2 .mkS (.lit (.agg [])) (.o1 (.fld 0) (.o1 (.fld 0) (.var 3)))) (.o1 (.fld 1) (.o1 (.fld 0) (.var 3)))))))))
/-! 81: spec.divInts -/
def St81 : Tree := .call 110 (.o2 .mkS (.lit (.agg [])) (.o1 (.fld 0) (.var 0))) (.call 110 (.o2 .mkS (.lit (.agg [])) (.o1 (.fld 1) (.var 0))) (.call 122 (.o2 .mkS (.o2 .mkS (.lit (.agg [])) (.o1 (.fld 0) (.var 1))) (.o1 (.fld 0) (.var 2))) (.ite (.o2 (.int .gtr .i64) (.o1 .len (.o1 (.fld 1) (.var 3))) (.lit (.int .i64 0))) (.ite (.o2 (.bool .neq) (.o1 (.fld 1) (.var 1)) (.o1 (.fld 1) (.var 2))) (.call 118 (.o2 .mkS (.o2 .mkS (.lit (.agg [])) (.o1 (.fld 0) (.var 3))) (.o2 .snoc (.lit (.list 1 false [])) (.lit (.int .i64 1)))) (.call 119 (.o2 .mkS (.o2 .mkS (.lit (.agg [])) (.o1 (.fld 0) (.var 2))) (.o1 (.fld 1) (.var 3))) (.call 120 (.o2 .mkS (.o2 .mkS (.lit (.agg [])) (.o1 (.fld 0) (.var 4))) (.lit (.bool true))) (.call 120 (.o2 .mkS (.o2 .mkS (.lit (.agg [])) (.o1 (.fld 0) (.var 5))) (.o1 (.fld 1) (.var 2))) (.ret (.o2 .mkS (.o2 .mkS (.lit (.agg [])) (.o1 (.fld 0) (.var 6))) (.o1 (.fld 0) (.var 7)))))))) (.call 120 (.o2 .mkS (.o2 .mkS (.lit (.agg [])) (.o1 (.fld 0) (.var 3))) (.lit (.bool false))) (.call 120 (.o2 .mkS (.o2 .mkS (.lit (.agg [])) (.o1 (.fld 1) (.var 3))) (.o1 (.fld 1) (.var 2))) (.ret (.o2 .mkS (.o2 .mkS (.lit (.agg [])) (.o1 (.fld 0) (.var 4))) (.o1 (.fld 0) (.var 5))))))) (.call 120 (.o2 .mkS (.o2 .mkS (.lit (.agg [])) (.o1 (.fld 0) (.var 3))) (.o2 (.bool .neq) (.o1 (.fld 1) (.var 1)) (.o1 (.fld 1) (.var 2)))) (.call 120 (.o2 .mkS (.o2 .mkS (.lit (.agg [])) (.o1 (.fld 1) (.var 3))) (.o1 (.fld 1) (.var 2))) (.ret (.o2 .mkS (.o2 .mkS (.lit (.agg [])) (.o1 (.fld 0) (.var 4))) (.o1 (.fld 0) (.var 5)))))))))
/-! 116: strings.CutPrefix -/
def St116 : Tree := .call 156 (.o2 .mkS (.o2 .mkS (.lit (.agg [])) (.o1 (.fld 0) (.var 0))) (.o1 (.fld 1) (.var 0))) (.ret (.o2 .mkS (.o2 .mkS (.lit (.agg [])) (.o1 (.fld 0) (.var 1))) (.o1 (.fld 1) (.var 1))))
/-! 117: impl.trimmed -/
def St117b0 : Tree := .ite (.o2 (.int .gtr .i64) (.o1 .len (.o1 (.fld 0) (.var 1))) (.lit (.int .i64 0))) (.need (.o2 (.int .leq .i64) (.lit (.int .i64 0)) (.o2 (.int .sub .i64) (.o1 .len (.o1 (.fld 0) (.var 1))) (.lit (.int .i64 1)))) (.need (.o2 (.int .lss .i64) (.o2 (.int .sub .i64) (.o1 .len (.o1 (.fld 0) (.var 1))) (.lit (.int .i64 1))) (.o1 .len (.o1 (.fld 0) (.var 1)))) (.ite (.o2 (.int .eql .i64) (.o2 .idx (.o1 (.fld 0) (.var 1)) (.o2 (.int .sub .i64) (.o1 .len (.o1 (.fld 0) (.var 1))) (.lit (.int .i64 1)))) (.lit (.int .i64 0))) (.need (.o2 (.int .leq .i64) (.o2 (.int .sub .i64) (.o1 .len (.o1 (.fld 0) (.var 1))) (.lit (.int .i64 1))) (.o1 .len (.o1 (.fld 0) (.var 1)))) (.cont 0 (.o2 .mkS (.lit (.agg [])) (.o3 .sub (.o1 (.fld 0) (.var 1)) (.lit (.int .i64 0)) (.o2 (.int .sub .i64) (.o1 .len (.o1 (.fld 0) (.var 1))) (.lit (.int .i64 1))))))) (.ret (.o2 .mkS (.lit (.agg [])) (.o1 (.fld 0) (.var 1))))))) (.ret (.o2 .mkS (.lit (.agg [])) (.o1 (.fld 0) (.var 1))))
def St117 : Tree := .loop (.o2 .mkS (.lit (.agg [])) (.o1 (.fld 0) (.var 0))) St117b0
/-! 107: impl.number).tidy -/
def St107 : Tree := .call 117 (.o2 .mkS (.lit (.agg [])) (.o1 (.fld 1) (.o1 (.fld 0) (.var 0)))) (.ite (.o2 (.int .eql .i64) (.o1 .len (.o1 (.fld 0) (.var 1))) (.lit (.int .i64 0))) (.ret (.o2 .mkS (.lit (.agg [])) (.o2 .mkS (.o2 .mkS (.lit (.agg [])) (.lit (.bool false))) (.o1 (.fld 0) (.var 1))))) (.ret (.o2 .mkS (.lit (.agg [])) (.o2 .mkS (.o2 .mkS (.lit (.agg [])) (.o1 (.fld 0) (.o1 (.fld 0) (.var 0)))) (.o1 (.fld 0) (.var 1))))))
/-! 106: impl.magAdd -/
def St106b0 : Tree := .ite (.o2 (.int .lss .i64) (.o1 (.fld 2) (.var 1)) (.o1 .len (.o1 (.fld 0) (.var 0)))) (.need (.o2 (.int .leq .i64) (.lit (.int .i64 0)) (.o1 (.fld 2) (.var 1))) (.ite (.o2 (.int .lss .i64) (.o1 (.fld 2) (.var 1)) (.o1 .len (.o1 (.fld 1) (.var 0)))) (.need (.o2 (.int .leq .i64) (.o1 .len (.o2 .snoc (.o1 (.fld 0) (.var 1)) (.o2 (.int .rem .i64) (.o2 (.int .add .i64) (.o2 (.int .add .i64) (.o1 (.fld 1) (.var 1)) (.o2 .idx (.o1 (.fld 0) (.var 0)) (.o1 (.fld 2) (.var 1)))) (.o2 .idx (.o1 (.fld 1) (.var 0)) (.o1 (.fld 2) (.var 1)))) (.lit (.int .i64 10))))) (.lit (.int .i64 16777216))) (.cont 0 (.o2 .mkS (.o2 .mkS (.o2 .mkS (.lit (.agg [])) (.o2 .snoc (.o1 (.fld 0) (.var 1)) (.o2 (.int .rem .i64) (.o2 (.int .add .i64) (.o2 (.int .add .i64) (.o1 (.fld 1) (.var 1)) (.o2 .idx (.o1 (.fld 0) (.var 0)) (.o1 (.fld 2) (.var 1)))) (.o2 .idx (.o1 (.fld 1) (.var 0)) (.o1 (.fld 2) (.var 1)))) (.lit (.int .i64 10))))) (.o2 (.int .quo .i64) (.o2 (.int .add .i64) (.o2 (.int .add .i64) (.o1 (.fld 1) (.var 1)) (.o2 .idx (.o1 (.fld 0) (.var 0)) (.o1 (.fld 2) (.var 1)))) (.o2 .idx (.o1 (.fld 1) (.var 0)) (.o1 (.fld 2) (.var 1)))) (.lit (.int .i64 10)))) (.o2 (.int .add .i64) (.o1 (.fld 2) (.var 1)) (.lit (.int .i64 1)))))) (.need (.o2 (.int .leq .i64) (.o1 .len (.o2 .snoc (.o1 (.fld 0) (.var 1)) (.o2 (.int .rem .i64) (.o2 (.int .add .i64) (.o1 (.fld 1) (.var 1)) (.o2 .idx (.o1 (.fld 0) (.var 0)) (.o1 (.fld 2) (.var 1)))) (.lit (.int .i64 10))))) (.lit (.int .i64 16777216))) (.cont 0 (.o2 .mkS (.o2 .mkS (.o2 .mkS (.lit (.agg [])) (.o2 .snoc (.o1 (.fld 0) (.var 1)) (.o2 (.int .rem .i64) (.o2 (.int .add .i64) (.o1 (.fld 1) (.var 1)) (.o2 .idx (.o1 (.fld 0) (.var 0)) (.o1 (.fld 2) (.var 1)))) (.lit (.int .i64 10))))) (.o2 (.int .quo .i64) (.o2 (.int .add .i64) (.o1 (.fld 1) (.var 1)) (.o2 .idx (.o1 (.fld 0) (.var 0)) (.o1 (.fld 2) (.var 1)))) (.lit (.int .i64 10)))) (.o2 (.int .add .i64) (.o1 (.fld 2) (.var 1)) (.lit (.int .i64 1)))))))) (.ite (.o2 (.int .lss .i64) (.o1 (.fld 2) (.var 1)) (.o1 .len (.o1 (.fld 1) (.var 0)))) (.need (.o2 (.int .leq .i64) (.lit (.int .i64 0)) (.o1 (.fld 2) (.var 1))) (.need (.o2 (.int .leq .i64) (.o1 .len (.o2 .snoc (.o1 (.fld 0) (.var 1)) (.o2 (.int .rem .i64) (.o2 (.int .add .i64) (.o1 (.fld 1) (.var 1)) (.o2 .idx (.o1 (.fld 1) (.var 0)) (.o1 (.fld 2) (.var 1)))) (.lit (.int .i64 10))))) (.lit (.int .i64 16777216))) (.cont 0 (.o2 .mkS (.o2 .mkS (.o2 .mkS (.lit (.agg [])) (.o2 .snoc (.o1 (.fld 0) (.var 1)) (.o2 (.int .rem .i64) (.o2 (.int .add .i64) (.o1 (.fld 1) (.var 1)) (.o2 .idx (.o1 (.fld 1) (.var 0)) (.o1 (.fld 2) (.var 1)))) (.lit (.int .i64 10))))) (.o2 (.int .quo .i64) (.o2 (.int .add .i64) (.o1 (.fld 1) (.var 1)) (.o2 .idx (.o1 (.fld 1) (.var 0)) (.o1 (.fld 2) (.var 1)))) (.lit (.int .i64 10)))) (.o2 (.int .add .i64) (.o1 (.fld 2) (.var 1)) (.lit (.int .i64 1))))))) (.ite (.o2 (.int .gtr .i64) (.o1 (.fld 1) (.var 1)) (.lit (.int .i64 0))) (.need (.o2 (.int .leq .i64) (.o1 .len (.o2 .snoc (.o1 (.fld 0) (.var 1)) (.o2 (.int .rem .i64) (.o1 (.fld 1) (.var 1)) (.lit (.int .i64 10))))) (.lit (.int .i64 16777216))) (.cont 0 (.o2 .mkS (.o2 .mkS (.o2 .mkS (.lit (.agg [])) (.o2 .snoc (.o1 (.fld 0) (.var 1)) (.o2 (.int .rem .i64) (.o1 (.fld 1) (.var 1)) (.lit (.int .i64 10))))) (.o2 (.int .quo .i64) (.o1 (.fld 1) (.var 1)) (.lit (.int .i64 10)))) (.o2 (.int .add .i64) (.o1 (.fld 2) (.var 1)) (.lit (.int .i64 1)))))) (.ret (.o2 .mkS (.lit (.agg [])) (.o1 (.fld 0) (.var 1))))))
def St106 : Tree := .loop (.o2 .mkS (.o2 .mkS (.o2 .mkS (.lit (.agg [])) (.lit (.list 1 false []))) (.lit (.int .i64 0))) (.lit (.int .i64 0))) St106b0
/-! 108: impl.magCmp -/
def St108b0 : Tree := .ite (.o2 (.int .geq .i64) (.o1 (.fld 0) (.var 1)) (.lit (.int .i64 0))) (.need (.o2 (.int .leq .i64) (.lit (.int .i64 0)) (.o1 (.fld 0) (.var 1))) (.need (.o2 (.int .lss .i64) (.o1 (.fld 0) (.var 1)) (.o1 .len (.o1 (.fld 0) (.var 0)))) (.need (.o2 (.int .lss .i64) (.o1 (.fld 0) (.var 1)) (.o1 .len (.o1 (.fld 1) (.var 0)))) (.ite (.o2 (.int .neq .i64) (.o2 .idx (.o1 (.fld 0) (.var 0)) (.o1 (.fld 0) (.var 1))) (.o2 .idx (.o1 (.fld 1) (.var 0)) (.o1 (.fld 0) (.var 1)))) (.ite (.o2 (.int .lss .i64) (.o2 .idx (.o1 (.fld 0) (.var 0)) (.o1 (.fld 0) (.var 1))) (.o2 .idx (.o1 (.fld 1) (.var 0)) (.o1 (.fld 0) (.var 1)))) (.ret (.o2 .mkS (.lit (.agg [])) (.lit (.int .i64 (-1))))) (.ret (.o2 .mkS (.lit (.agg [])) (.lit (.int .i64 1))))) (.cont 0 (.o2 .mkS (.lit (.agg [])) (.o2 (.int .sub .i64) (.o1 (.fld 0) (.var 1)) (.lit (.int .i64 1))))))))) (.ret (.o2 .mkS (.lit (.agg [])) (.lit (.int .i64 0))))
def St108 : Tree := .ite (.o2 (.int .neq .i64) (.o1 .len (.o1 (.fld 0) (.var 0))) (.o1 .len (.o1 (.fld 1) (.var 0)))) (.ite (.o2 (.int .lss .i64) (.o1 .len (.o1 (.fld 0) (.var 0))) (.o1 .len (.o1 (.fld 1) (.var 0)))) (.ret (.o2 .mkS (.lit (.agg [])) (.lit (.int .i64 (-1))))) (.ret (.o2 .mkS (.lit (.agg [])) (.lit (.int .i64 1))))) (.loop (.o2 .mkS (.lit (.agg [])) (.o2 (.int .sub .i64) (.o1 .len (.o1 (.fld 0) (.var 0))) (.lit (.int .i64 1)))) St108b0)
/-! 109: impl.magSub -/
def St109b0 : Tree := .ite (.o2 (.int .lss .i64) (.o1 (.fld 0) (.var 1)) (.o1 .len (.o2 .cat (.lit (.list 1 false [])) (.o1 (.fld 0) (.var 0))))) (.ite (.o2 (.int .lss .i64) (.o1 (.fld 0) (.var 1)) (.o1 .len (.o1 (.fld 1) (.var 0)))) (.need (.o2 (.int .leq .i64) (.lit (.int .i64 0)) (.o1 (.fld 0) (.var 1))) (.need (.o2 (.int .lss .i64) (.o1 (.fld 0) (.var 1)) (.o1 .len (.o1 (.fld 1) (.var 1)))) (.ite (.o2 (.int .lss .i64) (.o2 .idx (.o3 .upd (.o1 (.fld 1) (.var 1)) (.o1 (.fld 0) (.var 1)) (.o2 (.int .sub .i64) (.o2 .idx (.o1 (.fld 1) (.var 1)) (.o1 (.fld 0) (.var 1))) (.o2 .idx (.o1 (.fld 1) (.var 0)) (.o1 (.fld 0) (.var 1))))) (.o1 (.fld 0) (.var 1))) (.lit (.int .i64 0))) (.need (.o2 (.int .leq .i64) (.lit (.int .i64 0)) (.o2 (.int .add .i64) (.o1 (.fld 0) (.var 1)) (.lit (.int .i64 1)))) (.need (.o2 (.int .lss .i64) (.o2 (.int .add .i64) (.o1 (.fld 0) (.var 1)) (.lit (.int .i64 1))) (.o1 .len (.o1 (.fld 1) (.var 1)))) (.cont 0 (.o2 .mkS (.o2 .mkS (.lit (.agg [])) (.o2 (.int .add .i64) (.o1 (.fld 0) (.var 1)) (.lit (.int .i64 1)))) (.o3 .upd (.o3 .upd (.o3 .upd (.o1 (.fld 1) (.var 1)) (.o1 (.fld 0) (.var 1)) (.o2 (.int .sub .i64) (.o2 .idx (.o1 (.fld 1) (.var 1)) (.o1 (.fld 0) (.var 1))) (.o2 .idx (.o1 (.fld 1) (.var 0)) (.o1 (.fld 0) (.var 1))))) (.o1 (.fld 0) (.var 1)) (.o2 (.int .add .i64) (.o2 .idx (.o3 .upd (.o1 (.fld 1) (.var 1)) (.o1 (.fld 0) (.var 1)) (.o2 (.int .sub .i64) (.o2 .idx (.o1 (.fld 1) (.var 1)) (.o1 (.fld 0) (.var 1))) (.o2 .idx (.o1 (.fld 1) (.var 0)) (.o1 (.fld 0) (.var 1))))) (.o1 (.fld 0) (.var 1))) (.lit (.int .i64 10)))) (.o2 (.int .add .i64) (.o1 (.fld 0) (.var 1)) (.lit (.int .i64 1))) (.o2 (.int .sub .i64) (.o2 .idx (.o3 .upd (.o3 .upd (.o1 (.fld 1) (.var 1)) (.o1 (.fld 0) (.var 1)) (.o2 (.int .sub .i64) (.o2 .idx (.o1 (.fld 1) (.var 1)) (.o1 (.fld 0) (.var 1))) (.o2 .idx (.o1 (.fld 1) (.var 0)) (.o1 (.fld 0) (.var 1))))) (.o1 (.fld 0) (.var 1)) (.o2 (.int .add .i64) (.o2 .idx (.o3 .upd (.o1 (.fld 1) (.var 1)) (.o1 (.fld 0) (.var 1)) (.o2 (.int .sub .i64) (.o2 .idx (.o1 (.fld 1) (.var 1)) (.o1 (.fld 0) (.var 1))) (.o2 .idx (.o1 (.fld 1) (.var 0)) (.o1 (.fld 0) (.var 1))))) (.o1 (.fld 0) (.var 1))) (.lit (.int .i64 10)))) (.o2 (.int .add .i64) (.o1 (.fld 0) (.var 1)) (.lit (.int .i64 1)))) (.lit (.int .i64 1)))))))) (.cont 0 (.o2 .mkS (.o2 .mkS (.lit (.agg [])) (.o2 (.int .add .i64) (.o1 (.fld 0) (.var 1)) (.lit (.int .i64 1)))) (.o3 .upd (.o1 (.fld 1) (.var 1)) (.o1 (.fld 0) (.var 1)) (.o2 (.int .sub .i64) (.o2 .idx (.o1 (.fld 1) (.var 1)) (.o1 (.fld 0) (.var 1))) (.o2 .idx (.o1 (.fld 1) (.var 0)) (.o1 (.fld 0) (.var 1)))))))))) (.need (.o2 (.int .leq .i64) (.lit (.int .i64 0)) (.o1 (.fld 0) (.var 1))) (.need (.o2 (.int .lss .i64) (.o1 (.fld 0) (.var 1)) (.o1 .len (.o1 (.fld 1) (.var 1)))) (.ite (.o2 (.int .lss .i64) (.o2 .idx (.o1 (.fld 1) (.var 1)) (.o1 (.fld 0) (.var 1))) (.lit (.int .i64 0))) (.need (.o2 (.int .leq .i64) (.lit (.int .i64 0)) (.o2 (.int .add .i64) (.o1 (.fld 0) (.var 1)) (.lit (.int .i64 1)))) (.need (.o2 (.int .lss .i64) (.o2 (.int .add .i64) (.o1 (.fld 0) (.var 1)) (.lit (.int .i64 1))) (.o1 .len (.o1 (.fld 1) (.var 1)))) (.cont 0 (.o2 .mkS (.o2 .mkS (.lit (.agg [])) (.o2 (.int .add .i64) (.o1 (.fld 0) (.var 1)) (.lit (.int .i64 1)))) (.o3 .upd (.o3 .upd (.o1 (.fld 1) (.var 1)) (.o1 (.fld 0) (.var 1)) (.o2 (.int .add .i64) (.o2 .idx (.o1 (.fld 1) (.var 1)) (.o1 (.fld 0) (.var 1))) (.lit (.int .i64 10)))) (.o2 (.int .add .i64) (.o1 (.fld 0) (.var 1)) (.lit (.int .i64 1))) (.o2 (.int .sub .i64) (.o2 .idx (.o3 .upd (.o1 (.fld 1) (.var 1)) (.o1 (.fld 0) (.var 1)) (.o2 (.int .add .i64) (.o2 .idx (.o1 (.fld 1) (.var 1)) (.o1 (.fld 0) (.var 1))) (.lit (.int .i64 10)))) (.o2 (.int .add .i64) (.o1 (.fld 0) (.var 1)) (.lit (.int .i64 1)))) (.lit (.int .i64 1)))))))) (.cont 0 (.o2 .mkS (.o2 .mkS (.lit (.agg [])) (.o2 (.int .add .i64) (.o1 (.fld 0) (.var 1)) (.lit (.int .i64 1)))) (.o1 (.fld 1) (.var 1)))))))) (.call 117 (.o2 .mkS (.lit (.agg [])) (.o1 (.fld 1) (.var 1))) (.ret (.o2 .mkS (.lit (.agg [])) (.o1 (.fld 0) (.var 2)))))
def St109 : Tree := .need (.o2 (.int .leq .i64) (.o1 .len (.o2 .cat (.lit (.list 1 false [])) (.o1 (.fld 0) (.var 0)))) (.lit (.int .i64 16777216))) (.loop (.o2 .mkS (.o2 .mkS (.lit (.agg [])) (.lit (.int .i64 0))) (.o2 .cat (.lit (.list 1 false [])) (.o1 (.fld 0) (.var 0)))) St109b0)
/-! 66: spec.inRange -/
def St66 : Tree := .ite (.o2 (.int .geq .i64) (.o1 (.fld 0) (.var 0)) (.o1 (.fld 1) (.var 0))) (.ret (.o2 .mkS (.lit (.agg [])) (.o2 (.int .leq .i64) (.o1 (.fld 0) (.var 0)) (.o1 (.fld 2) (.var 0))))) (.ret (.o2 .mkS (.lit (.agg [])) (.lit (.bool false))))
/-! 110: spec.digitsOf -/
def St110b0 : Tree := .ite (.o2 (.int .geq .i64) (.o1 (.fld 0) (.var 1)) (.lit (.int .i64 0))) (.need (.o2 (.int .leq .i64) (.lit (.int .i64 0)) (.o1 (.fld 0) (.var 1))) (.need (.o2 (.int .lss .i64) (.o1 (.fld 0) (.var 1)) (.o1 .slen (.o1 (.fld 0) (.var 0)))) (.ite (.o2 (.int .neq .u8) (.o2 .sidx (.o1 (.fld 0) (.var 0)) (.o1 (.fld 0) (.var 1))) (.lit (.int .u8 45))) (.need (.o2 (.int .leq .i64) (.o1 .len (.o2 .snoc (.o1 (.fld 1) (.var 1)) (.o1 (.conv .i64) (.o2 (.int .sub .u8) (.o2 .sidx (.o1 (.fld 0) (.var 0)) (.o1 (.fld 0) (.var 1))) (.lit (.int .u8 48)))))) (.lit (.int .i64 16777216))) (.cont 0 (.o2 .mkS (.o2 .mkS (.lit (.agg [])) (.o2 (.int .sub .i64) (.o1 (.fld 0) (.var 1)) (.lit (.int .i64 1)))) (.o2 .snoc (.o1 (.fld 1) (.var 1)) (.o1 (.conv .i64) (.o2 (.int .sub .u8) (.o2 .sidx (.o1 (.fld 0) (.var 0)) (.o1 (.fld 0) (.var 1))) (.lit (.int .u8 48)))))))) (.call 155 (.o2 .mkS (.lit (.agg [])) (.o1 (.fld 1) (.var 1))) (.ret (.o2 .mkS (.o2 .mkS (.lit (.agg [])) (.o1 (.fld 0) (.var 2))) (.o2 (.int .eql .u8) (.o2 .sidx (.o1 (.fld 0) (.var 0)) (.lit (.int .i64 0))) (.lit (.int .u8 45))))))))) (.call 155 (.o2 .mkS (.lit (.agg [])) (.o1 (.fld 1) (.var 1))) (.ret (.o2 .mkS (.o2 .mkS (.lit (.agg [])) (.o1 (.fld 0) (.var 2))) (.o2 (.int .eql .u8) (.o2 .sidx (.o1 (.fld 0) (.var 0)) (.lit (.int .i64 0))) (.lit (.int .u8 45))))))
def St110b1 : Tree := .ite (.o2 (.int .geq .i64) (.o1 (.fld 0) (.var 1)) (.lit (.int .i64 0))) (.need (.o2 (.int .leq .i64) (.lit (.int .i64 0)) (.o1 (.fld 0) (.var 1))) (.need (.o2 (.int .lss .i64) (.o1 (.fld 0) (.var 1)) (.o1 .slen (.o1 (.fld 0) (.var 0)))) (.ite (.o2 (.int .neq .u8) (.o2 .sidx (.o1 (.fld 0) (.var 0)) (.o1 (.fld 0) (.var 1))) (.lit (.int .u8 45))) (.need (.o2 (.int .leq .i64) (.o1 .len (.o2 .snoc (.o1 (.fld 1) (.var 1)) (.o1 (.conv .i64) (.o2 (.int .sub .u8) (.o2 .sidx (.o1 (.fld 0) (.var 0)) (.o1 (.fld 0) (.var 1))) (.lit (.int .u8 48)))))) (.lit (.int .i64 16777216))) (.cont 0 (.o2 .mkS (.o2 .mkS (.lit (.agg [])) (.o2 (.int .sub .i64) (.o1 (.fld 0) (.var 1)) (.lit (.int .i64 1)))) (.o2 .snoc (.o1 (.fld 1) (.var 1)) (.o1 (.conv .i64) (.o2 (.int .sub .u8) (.o2 .sidx (.o1 (.fld 0) (.var 0)) (.o1 (.fld 0) (.var 1))) (.lit (.int .u8 48)))))))) (.call 155 (.o2 .mkS (.lit (.agg [])) (.o1 (.fld 1) (.var 1))) (.ret (.o2 .mkS (.o2 .mkS (.lit (.agg [])) (.o1 (.fld 0) (.var 2))) (.lit (.bool false)))))))) (.call 155 (.o2 .mkS (.lit (.agg [])) (.o1 (.fld 1) (.var 1))) (.ret (.o2 .mkS (.o2 .mkS (.lit (.agg [])) (.o1 (.fld 0) (.var 2))) (.lit (.bool false)))))
def St110 : Tree := .ite (.o2 (.int .gtr .i64) (.o1 .slen (.o1 (.fld 0) (.var 0))) (.lit (.int .i64 0))) (.need (.o2 (.int .lss .i64) (.lit (.int .i64 0)) (.o1 .slen (.o1 (.fld 0) (.var 0)))) (.loop (.o2 .mkS (.o2 .mkS (.lit (.agg [])) (.o2 (.int .sub .i64) (.o1 .slen (.o1 (.fld 0) (.var 0))) (.lit (.int .i64 1)))) (.lit (.list 1 false []))) St110b0)) (.loop (.o2 .mkS (.o2 .mkS (.lit (.agg [])) (.o2 (.int .sub .i64) (.o1 .slen (.o1 (.fld 0) (.var 0))) (.lit (.int .i64 1)))) (.lit (.list 1 false []))) St110b1)
/-! 111: spec.compareDigits -/
def St111b0 : Tree := .ite (.o2 (.int .geq .i64) (.o1 (.fld 0) (.var 1)) (.lit (.int .i64 0))) (.need (.o2 (.int .leq .i64) (.lit (.int .i64 0)) (.o1 (.fld 0) (.var 1))) (.need (.o2 (.int .lss .i64) (.o1 (.fld 0) (.var 1)) (.o1 .len (.o1 (.fld 0) (.var 0)))) (.need (.o2 (.int .lss .i64) (.o1 (.fld 0) (.var 1)) (.o1 .len (.o1 (.fld 1) (.var 0)))) (.ite (.o2 (.int .neq .i64) (.o2 .idx (.o1 (.fld 0) (.var 0)) (.o1 (.fld 0) (.var 1))) (.o2 .idx (.o1 (.fld 1) (.var 0)) (.o1 (.fld 0) (.var 1)))) (.ite (.o2 (.int .lss .i64) (.o2 .idx (.o1 (.fld 0) (.var 0)) (.o1 (.fld 0) (.var 1))) (.o2 .idx (.o1 (.fld 1) (.var 0)) (.o1 (.fld 0) (.var 1)))) (.ret (.o2 .mkS (.lit (.agg [])) (.lit (.int .i64 (-1))))) (.ret (.o2 .mkS (.lit (.agg [])) (.lit (.int .i64 1))))) (.cont 0 (.o2 .mkS (.lit (.agg [])) (.o2 (.int .sub .i64) (.o1 (.fld 0) (.var 1)) (.lit (.int .i64 1))))))))) (.ret (.o2 .mkS (.lit (.agg [])) (.lit (.int .i64 0))))
def St111 : Tree := .ite (.o2 (.int .neq .i64) (.o1 .len (.o1 (.fld 0) (.var 0))) (.o1 .len (.o1 (.fld 1) (.var 0)))) (.ite (.o2 (.int .lss .i64) (.o1 .len (.o1 (.fld 0) (.var 0))) (.o1 .len (.o1 (.fld 1) (.var 0)))) (.ret (.o2 .mkS (.lit (.agg [])) (.lit (.int .i64 (-1))))) (.ret (.o2 .mkS (.lit (.agg [])) (.lit (.int .i64 1))))) (.loop (.o2 .mkS (.lit (.agg [])) (.o2 (.int .sub .i64) (.o1 .len (.o1 (.fld 0) (.var 0))) (.lit (.int .i64 1)))) St111b0)
/-! 120: spec.integer -/
def St120b0 : Tree := .ite (.o2 (.int .lss .i64) (.o1 (.fld 1) (.var 2)) (.o1 .len (.o1 (.fld 0) (.var 1)))) (.need (.o2 (.int .leq .i64) (.lit (.int .i64 0)) (.o1 (.fld 1) (.var 2))) (.need (.o2 (.int .leq .i64) (.o1 .slen (.o2 (.str .add) (.o1 .toS (.o2 .snoc (.lit (.list 1 false [])) (.o1 (.conv .u8) (.o2 (.int .add .i64) (.lit (.int .i64 48)) (.o2 .idx (.o1 (.fld 0) (.var 1)) (.o1 (.fld 1) (.var 2))))))) (.o1 (.fld 0) (.var 2)))) (.lit (.int .i64 16777216))) (.cont 0 (.o2 .mkS (.o2 .mkS (.lit (.agg [])) (.o2 (.str .add) (.o1 .toS (.o2 .snoc (.lit (.list 1 false [])) (.o1 (.conv .u8) (.o2 (.int .add .i64) (.lit (.int .i64 48)) (.o2 .idx (.o1 (.fld 0) (.var 1)) (.o1 (.fld 1) (.var 2))))))) (.o1 (.fld 0) (.var 2)))) (.o2 (.int .add .i64) (.o1 (.fld 1) (.var 2)) (.lit (.int .i64 1))))))) (.ite (.o1 (.fld 1) (.var 0)) (.need (.o2 (.int .leq .i64) (.o1 .slen (.o2 (.str .add) (.lit (.str [45])) (.o1 (.fld 0) (.var 2)))) (.lit (.int .i64 16777216))) (.ret (.o2 .mkS (.lit (.agg [])) (.o2 (.str .add) (.lit (.str [45])) (.o1 (.fld 0) (.var 2)))))) (.ret (.o2 .mkS (.lit (.agg [])) (.o1 (.fld 0) (.var 2)))))
def St120 : Tree := .call 155 (.o2 .mkS (.lit (.agg [])) (.o1 (.fld 0) (.var 0))) (.ite (.o2 (.int .eql .i64) (.o1 .len (.o1 (.fld 0) (.var 1))) (.lit (.int .i64 0))) (.ret (.o2 .mkS (.lit (.agg [])) (.lit (.str [48])))) (.loop (.o2 .mkS (.o2 .mkS (.lit (.agg [])) (.lit (.str []))) (.lit (.int .i64 0))) St120b0))
/-! 118: spec.plusDigits -/
def St118b0 : Tree := .ite (.o2 (.int .lss .i64) (.o1 (.fld 1) (.var 1)) (.o1 .len (.o1 (.fld 0) (.var 0)))) (.need (.o2 (.int .leq .i64) (.lit (.int .i64 0)) (.o1 (.fld 1) (.var 1))) (.ite (.o2 (.int .lss .i64) (.o1 (.fld 1) (.var 1)) (.o1 .len (.o1 (.fld 1) (.var 0)))) (.need (.o2 (.int .leq .i64) (.o1 .len (.o2 .snoc (.o1 (.fld 2) (.var 1)) (.o2 (.int .rem .i64) (.o2 (.int .add .i64) (.o2 (.int .add .i64) (.o1 (.fld 0) (.var 1)) (.o2 .idx (.o1 (.fld 0) (.var 0)) (.o1 (.fld 1) (.var 1)))) (.o2 .idx (.o1 (.fld 1) (.var 0)) (.o1 (.fld 1) (.var 1)))) (.lit (.int .i64 10))))) (.lit (.int .i64 16777216))) (.cont 0 (.o2 .mkS (.o2 .mkS (.o2 .mkS (.lit (.agg [])) (.o2 (.int .quo .i64) (.o2 (.int .add .i64) (.o2 (.int .add .i64) (.o1 (.fld 0) (.var 1)) (.o2 .idx (.o1 (.fld 0) (.var 0)) (.o1 (.fld 1) (.var 1)))) (.o2 .idx (.o1 (.fld 1) (.var 0)) (.o1 (.fld 1) (.var 1)))) (.lit (.int .i64 10)))) (.o2 (.int .add .i64) (.o1 (.fld 1) (.var 1)) (.lit (.int .i64 1)))) (.o2 .snoc (.o1 (.fld 2) (.var 1)) (.o2 (.int .rem .i64) (.o2 (.int .add .i64) (.o2 (.int .add .i64) (.o1 (.fld 0) (.var 1)) (.o2 .idx (.o1 (.fld 0) (.var 0)) (.o1 (.fld 1) (.var 1)))) (.o2 .idx (.o1 (.fld 1) (.var 0)) (.o1 (.fld 1) (.var 1)))) (.lit (.int .i64 10))))))) (.need (.o2 (.int .leq .i64) (.o1 .len (.o2 .snoc (.o1 (.fld 2) (.var 1)) (.o2 (.int .rem .i64) (.o2 (.int .add .i64) (.o1 (.fld 0) (.var 1)) (.o2 .idx (.o1 (.fld 0) (.var 0)) (.o1 (.fld 1) (.var 1)))) (.lit (.int .i64 10))))) (.lit (.int .i64 16777216))) (.cont 0 (.o2 .mkS (.o2 .mkS (.o2 .mkS (.lit (.agg [])) (.o2 (.int .quo .i64) (.o2 (.int .add .i64) (.o1 (.fld 0) (.var 1)) (.o2 .idx (.o1 (.fld 0) (.var 0)) (.o1 (.fld 1) (.var 1)))) (.lit (.int .i64 10)))) (.o2 (.int .add .i64) (.o1 (.fld 1) (.var 1)) (.lit (.int .i64 1)))) (.o2 .snoc (.o1 (.fld 2) (.var 1)) (.o2 (.int .rem .i64) (.o2 (.int .add .i64) (.o1 (.fld 0) (.var 1)) (.o2 .idx (.o1 (.fld 0) (.var 0)) (.o1 (.fld 1) (.var 1)))) (.lit (.int .i64 10))))))))) (.ite (.o2 (.int .lss .i64) (.o1 (.fld 1) (.var 1)) (.o1 .len (.o1 (.fld 1) (.var 0)))) (.need (.o2 (.int .leq .i64) (.lit (.int .i64 0)) (.o1 (.fld 1) (.var 1))) (.need (.o2 (.int .leq .i64) (.o1 .len (.o2 .snoc (.o1 (.fld 2) (.var 1)) (.o2 (.int .rem .i64) (.o2 (.int .add .i64) (.o1 (.fld 0) (.var 1)) (.o2 .idx (.o1 (.fld 1) (.var 0)) (.o1 (.fld 1) (.var 1)))) (.lit (.int .i64 10))))) (.lit (.int .i64 16777216))) (.cont 0 (.o2 .mkS (.o2 .mkS (.o2 .mkS (.lit (.agg [])) (.o2 (.int .quo .i64) (.o2 (.int .add .i64) (.o1 (.fld 0) (.var 1)) (.o2 .idx (.o1 (.fld 1) (.var 0)) (.o1 (.fld 1) (.var 1)))) (.lit (.int .i64 10)))) (.o2 (.int .add .i64) (.o1 (.fld 1) (.var 1)) (.lit (.int .i64 1)))) (.o2 .snoc (.o1 (.fld 2) (.var 1)) (.o2 (.int .rem .i64) (.o2 (.int .add .i64) (.o1 (.fld 0) (.var 1)) (.o2 .idx (.o1 (.fld 1) (.var 0)) (.o1 (.fld 1) (.var 1)))) (.lit (.int .i64 10)))))))) (.ite (.o2 (.int .gtr .i64) (.o1 (.fld 0) (.var 1)) (.lit (.int .i64 0))) (.need (.o2 (.int .leq .i64) (.o1 .len (.o2 .snoc (.o1 (.fld 2) (.var 1)) (.o2 (.int .rem .i64) (.o1 (.fld 0) (.var 1)) (.lit (.int .i64 10))))) (.lit (.int .i64 16777216))) (.cont 0 (.o2 .mkS (.o2 .mkS (.o2 .mkS (.lit (.agg [])) (.o2 (.int .quo .i64) (.o1 (.fld 0) (.var 1)) (.lit (.int .i64 10)))) (.o2 (.int .add .i64) (.o1 (.fld 1) (.var 1)) (.lit (.int .i64 1)))) (.o2 .snoc (.o1 (.fld 2) (.var 1)) (.o2 (.int .rem .i64) (.o1 (.fld 0) (.var 1)) (.lit (.int .i64 10))))))) (.call 155 (.o2 .mkS (.lit (.agg [])) (.o1 (.fld 2) (.var 1))) (.ret (.o2 .mkS (.lit (.agg [])) (.o1 (.fld 0) (.var 2)))))))
def St118 : Tree := .loop (.o2 .mkS (.o2 .mkS (.o2 .mkS (.lit (.agg [])) (.lit (.int .i64 0))) (.lit (.int .i64 0))) (.lit (.list 1 false []))) St118b0
/-! 114: spec.fitting -/
def St114 : Tree := .call 155 (.o2 .mkS (.lit (.agg [])) (.o1 (.fld 0) (.var 0))) (.ite (.o2 (.int .gtr .i64) (.o1 .len (.o1 (.fld 0) (.var 1))) (.lit (.int .i64 40))) (.ret (.o2 .mkS (.o2 .mkS (.lit (.agg [])) (.lit (.str []))) (.lit (.bool false)))) (.call 120 (.o2 .mkS (.o2 .mkS (.lit (.agg [])) (.o1 (.fld 0) (.var 0))) (.o1 (.fld 1) (.var 0))) (.ret (.o2 .mkS (.o2 .mkS (.lit (.agg [])) (.o1 (.fld 0) (.var 2))) (.lit (.bool true))))))
/-! 119: spec.lessDigits -/
def St119b0 : Tree := .ite (.o2 (.int .lss .i64) (.o1 (.fld 1) (.var 1)) (.o1 .len (.o1 (.fld 0) (.var 0)))) (.need (.o2 (.int .leq .i64) (.lit (.int .i64 0)) (.o1 (.fld 1) (.var 1))) (.ite (.o2 (.int .lss .i64) (.o1 (.fld 1) (.var 1)) (.o1 .len (.o1 (.fld 1) (.var 0)))) (.ite (.o2 (.int .lss .i64) (.o2 (.int .sub .i64) (.o2 (.int .sub .i64) (.o2 .idx (.o1 (.fld 0) (.var 0)) (.o1 (.fld 1) (.var 1))) (.o1 (.fld 0) (.var 1))) (.o2 .idx (.o1 (.fld 1) (.var 0)) (.o1 (.fld 1) (.var 1)))) (.lit (.int .i64 0))) (.need (.o2 (.int .leq .i64) (.o1 .len (.o2 .snoc (.o1 (.fld 2) (.var 1)) (.o2 (.int .add .i64) (.o2 (.int .sub .i64) (.o2 (.int .sub .i64) (.o2 .idx (.o1 (.fld 0) (.var 0)) (.o1 (.fld 1) (.var 1))) (.o1 (.fld 0) (.var 1))) (.o2 .idx (.o1 (.fld 1) (.var 0)) (.o1 (.fld 1) (.var 1)))) (.lit (.int .i64 10))))) (.lit (.int .i64 16777216))) (.cont 0 (.o2 .mkS (.o2 .mkS (.o2 .mkS (.lit (.agg [])) (.lit (.int .i64 1))) (.o2 (.int .add .i64) (.o1 (.fld 1) (.var 1)) (.lit (.int .i64 1)))) (.o2 .snoc (.o1 (.fld 2) (.var 1)) (.o2 (.int .add .i64) (.o2 (.int .sub .i64) (.o2 (.int .sub .i64) (.o2 .idx (.o1 (.fld 0) (.var 0)) (.o1 (.fld 1) (.var 1))) (.o1 (.fld 0) (.var 1))) (.o2 .idx (.o1 (.fld 1) (.var 0)) (.o1 (.fld 1) (.var 1)))) (.lit (.int .i64 10))))))) (.need (.o2 (.int .leq .i64) (.o1 .len (.o2 .snoc (.o1 (.fld 2) (.var 1)) (.o2 (.int .sub .i64) (.o2 (.int .sub .i64) (.o2 .idx (.o1 (.fld 0) (.var 0)) (.o1 (.fld 1) (.var 1))) (.o1 (.fld 0) (.var 1))) (.o2 .idx (.o1 (.fld 1) (.var 0)) (.o1 (.fld 1) (.var 1)))))) (.lit (.int .i64 16777216))) (.cont 0 (.o2 .mkS (.o2 .mkS (.o2 .mkS (.lit (.agg [])) (.lit (.int .i64 0))) (.o2 (.int .add .i64) (.o1 (.fld 1) (.var 1)) (.lit (.int .i64 1)))) (.o2 .snoc (.o1 (.fld 2) (.var 1)) (.o2 (.int .sub .i64) (.o2 (.int .sub .i64) (.o2 .idx (.o1 (.fld 0) (.var 0)) (.o1 (.fld 1) (.var 1))) (.o1 (.fld 0) (.var 1))) (.o2 .idx (.o1 (.fld 1) (.var 0)) (.o1 (.fld 1) (.var 1))))))))) (.ite (.o2 (.int .lss .i64) (.o2 (.int .sub .i64) (.o2 .idx (.o1 (.fld 0) (.var 0)) (.o1 (.fld 1) (.var 1))) (.o1 (.fld 0) (.var 1))) (.lit (.int .i64 0))) (.need (.o2 (.int .leq .i64) (.o1 .len (.o2 .snoc (.o1 (.fld 2) (.var 1)) (.o2 (.int .add .i64) (.o2 (.int .sub .i64) (.o2 .idx (.o1 (.fld 0) (.var 0)) (.o1 (.fld 1) (.var 1))) (.o1 (.fld 0) (.var 1))) (.lit (.int .i64 10))))) (.lit (.int .i64 16777216))) (.cont 0 (.o2 .mkS (.o2 .mkS (.o2 .mkS (.lit (.agg [])) (.lit (.int .i64 1))) (.o2 (.int .add .i64) (.o1 (.fld 1) (.var 1)) (.lit (.int .i64 1)))) (.o2 .snoc (.o1 (.fld 2) (.var 1)) (.o2 (.int .add .i64) (.o2 (.int .sub .i64) (.o2 .idx (.o1 (.fld 0) (.var 0)) (.o1 (.fld 1) (.var 1))) (.o1 (.fld 0) (.var 1))) (.lit (.int .i64 10))))))) (.need (.o2 (.int .leq .i64) (.o1 .len (.o2 .snoc (.o1 (.fld 2) (.var 1)) (.o2 (.int .sub .i64) (.o2 .idx (.o1 (.fld 0) (.var 0)) (.o1 (.fld 1) (.var 1))) (.o1 (.fld 0) (.var 1))))) (.lit (.int .i64 16777216))) (.cont 0 (.o2 .mkS (.o2 .mkS (.o2 .mkS (.lit (.agg [])) (.lit (.int .i64 0))) (.o2 (.int .add .i64) (.o1 (.fld 1) (.var 1)) (.lit (.int .i64 1)))) (.o2 .snoc (.o1 (.fld 2) (.var 1)) (.o2 (.int .sub .i64) (.o2 .idx (.o1 (.fld 0) (.var 0)) (.o1 (.fld 1) (.var 1))) (.o1 (.fld 0) (.var 1)))))))))) (.call 155 (.o2 .mkS (.lit (.agg [])) (.o1 (.fld 2) (.var 1))) (.ret (.o2 .mkS (.lit (.agg [])) (.o1 (.fld 0) (.var 2)))))
def St119 : Tree := .loop (.o2 .mkS (.o2 .mkS (.o2 .mkS (.lit (.agg [])) (.lit (.int .i64 0))) (.lit (.int .i64 0))) (.lit (.list 1 false []))) St119b0
/-! 50: spec.rnd).of -/
def St50 : Tree := .call 62 (.o2 .mkS (.o2 .mkS (.lit (.agg [])) (.o2 .mkS (.o2 .mkS (.lit (.agg [])) (.o1 (.fld 0) (.o1 (.fld 0) (.var 0)))) (.o1 (.fld 1) (.o1 (.fld 0) (.var 0))))) (.o1 .len (.o1 (.fld 1) (.var 0)))) (.need (.o2 (.int .leq .i64) (.lit (.int .i64 0)) (.o1 (.fld 0) (.var 1))) (.need (.o2 (.int .lss .i64) (.o1 (.fld 0) (.var 1)) (.o1 .len (.o1 (.fld 1) (.var 0)))) (.ret (.o2 .mkS (.o2 .mkS (.lit (.agg [])) (.o2 .idx (.o1 (.fld 1) (.var 0)) (.o1 (.fld 0) (.var 1)))) (.o2 .mkS (.o2 .mkS (.lit (.agg [])) (.o1 (.fld 0) (.o1 (.fld 1) (.var 1)))) (.o1 (.fld 1) (.o1 (.fld 1) (.var 1))))))))
/-! 65: spec.decimal -/
def St65 : Tree := .ite (.o2 (.int .lss .i64) (.o1 (.fld 0) (.var 0)) (.lit (.int .i64 0))) (.call 104 (.o2 .mkS (.lit (.agg [])) (.o1 (.fld 0) (.var 0))) (.need (.o2 (.int .leq .i64) (.o1 .slen (.o2 (.str .add) (.lit (.str [45])) (.o1 (.fld 0) (.var 1)))) (.lit (.int .i64 16777216))) (.ret (.o2 .mkS (.lit (.agg [])) (.o2 (.str .add) (.lit (.str [45])) (.o1 (.fld 0) (.var 1))))))) (.call 104 (.o2 .mkS (.lit (.agg [])) (.o1 (.fld 0) (.var 0))) (.ret (.o2 .mkS (.lit (.agg [])) (.o1 (.fld 0) (.var 1)))))
/-! 105: spec.rnd).one -/
def St105 : Tree := .call 62 (.o2 .mkS (.o2 .mkS (.lit (.agg [])) (.o2 .mkS (.o2 .mkS (.lit (.agg [])) (.o1 (.fld 0) (.o1 (.fld 0) (.var 0)))) (.o1 (.fld 1) (.o1 (.fld 0) (.var 0))))) (.o1 .len (.o1 (.fld 1) (.var 0)))) (.need (.o2 (.int .leq .i64) (.lit (.int .i64 0)) (.o1 (.fld 0) (.var 1))) (.need (.o2 (.int .lss .i64) (.o1 (.fld 0) (.var 1)) (.o1 .len (.o1 (.fld 1) (.var 0)))) (.ret (.o2 .mkS (.o2 .mkS (.lit (.agg [])) (.o2 .idx (.o1 (.fld 1) (.var 0)) (.o1 (.fld 0) (.var 1)))) (.o2 .mkS (.o2 .mkS (.lit (.agg [])) (.o1 (.fld 0) (.o1 (.fld 1) (.var 1)))) (.o1 (.fld 1) (.o1 (.fld 1) (.var 1))))))))
/-! 121: impl.magDiv -/
def St121b0 : Tree := .call 108 (.o2 .mkS (.o2 .mkS (.lit (.agg [])) (.o1 (.fld 0) (.var 3))) (.o1 (.fld 1) (.var 0))) (.ite (.o2 (.int .geq .i64) (.o1 (.fld 0) (.var 4)) (.lit (.int .i64 0))) (.call 109 (.o2 .mkS (.o2 .mkS (.lit (.agg [])) (.o1 (.fld 0) (.var 3))) (.o1 (.fld 1) (.var 0))) (.need (.o2 (.int .lss .i64) (.o1 (.fld 1) (.var 1)) (.o1 .len (.o1 (.fld 1) (.var 3)))) (.cont 1 (.o2 .mkS (.o2 .mkS (.lit (.agg [])) (.o1 (.fld 0) (.var 5))) (.o3 .upd (.o1 (.fld 1) (.var 3)) (.o1 (.fld 1) (.var 1)) (.o2 (.int .add .i64) (.o2 .idx (.o1 (.fld 1) (.var 3)) (.o1 (.fld 1) (.var 1))) (.lit (.int .i64 1)))))))) (.cont 0 (.o2 .mkS (.o2 .mkS (.o2 .mkS (.lit (.agg [])) (.o1 (.fld 0) (.var 3))) (.o2 (.int .sub .i64) (.o1 (.fld 1) (.var 1)) (.lit (.int .i64 1)))) (.o1 (.fld 1) (.var 3)))))
def St121b1 : Tree := .ite (.o2 (.int .geq .i64) (.o1 (.fld 1) (.var 1)) (.lit (.int .i64 0))) (.need (.o2 (.int .leq .i64) (.lit (.int .i64 0)) (.o1 (.fld 1) (.var 1))) (.need (.o2 (.int .lss .i64) (.o1 (.fld 1) (.var 1)) (.o1 .len (.o1 (.fld 0) (.var 0)))) (.need (.o2 (.int .leq .i64) (.o1 .len (.o2 .cat (.o2 .snoc (.lit (.list 1 false [])) (.o2 .idx (.o1 (.fld 0) (.var 0)) (.o1 (.fld 1) (.var 1)))) (.o1 (.fld 0) (.var 1)))) (.lit (.int .i64 16777216))) (.call 117 (.o2 .mkS (.lit (.agg [])) (.o2 .cat (.o2 .snoc (.lit (.list 1 false [])) (.o2 .idx (.o1 (.fld 0) (.var 0)) (.o1 (.fld 1) (.var 1)))) (.o1 (.fld 0) (.var 1)))) (.loop (.o2 .mkS (.o2 .mkS (.lit (.agg [])) (.o1 (.fld 0) (.var 2))) (.o1 (.fld 2) (.var 1))) St121b0))))) (.call 117 (.o2 .mkS (.lit (.agg [])) (.o1 (.fld 2) (.var 1))) (.ret (.o2 .mkS (.o2 .mkS (.lit (.agg [])) (.o1 (.fld 0) (.var 2))) (.o1 (.fld 0) (.var 1)))))
def St121 : Tree := .need (.o2 (.int .leq .i64) (.lit (.int .i64 0)) (.o1 .len (.o1 (.fld 0) (.var 0)))) (.need (.o2 (.int .leq .i64) (.o1 .len (.o1 (.fld 0) (.var 0))) (.o1 .len (.o1 (.fld 0) (.var 0)))) (.need (.o2 (.int .leq .i64) (.o1 .len (.o1 (.fld 0) (.var 0))) (.lit (.int .i64 16777216))) (.loop (.o2 .mkS (.o2 .mkS (.o2 .mkS (.lit (.agg [])) (.lit (.list 1 false []))) (.o2 (.int .sub .i64) (.o1 .len (.o1 (.fld 0) (.var 0))) (.lit (.int .i64 1)))) (.o1 (.zeros 1 false (.int .i64 0)) (.o1 .len (.o1 (.fld 0) (.var 0))))) St121b1)))
/-! 122: spec.dividedDigits -/
def St122b0 : Tree := .call 111 (.o2 .mkS (.o2 .mkS (.lit (.agg [])) (.o1 (.fld 0) (.var 3))) (.o1 (.fld 1) (.var 0))) (.ite (.o2 (.int .geq .i64) (.o1 (.fld 0) (.var 4)) (.lit (.int .i64 0))) (.call 119 (.o2 .mkS (.o2 .mkS (.lit (.agg [])) (.o1 (.fld 0) (.var 3))) (.o1 (.fld 1) (.var 0))) (.need (.o2 (.int .lss .i64) (.o1 (.fld 1) (.var 1)) (.o1 .len (.o1 (.fld 1) (.var 3)))) (.cont 1 (.o2 .mkS (.o2 .mkS (.lit (.agg [])) (.o1 (.fld 0) (.var 5))) (.o3 .upd (.o1 (.fld 1) (.var 3)) (.o1 (.fld 1) (.var 1)) (.o2 (.int .add .i64) (.o2 .idx (.o1 (.fld 1) (.var 3)) (.o1 (.fld 1) (.var 1))) (.lit (.int .i64 1)))))))) (.cont 0 (.o2 .mkS (.o2 .mkS (.o2 .mkS (.lit (.agg [])) (.o1 (.fld 0) (.var 3))) (.o2 (.int .sub .i64) (.o1 (.fld 1) (.var 1)) (.lit (.int .i64 1)))) (.o1 (.fld 1) (.var 3)))))
def St122b1 : Tree := .ite (.o2 (.int .geq .i64) (.o1 (.fld 1) (.var 1)) (.lit (.int .i64 0))) (.need (.o2 (.int .leq .i64) (.lit (.int .i64 0)) (.o1 (.fld 1) (.var 1))) (.need (.o2 (.int .lss .i64) (.o1 (.fld 1) (.var 1)) (.o1 .len (.o1 (.fld 0) (.var 0)))) (.need (.o2 (.int .leq .i64) (.o1 .len (.o2 .cat (.o2 .snoc (.lit (.list 1 false [])) (.o2 .idx (.o1 (.fld 0) (.var 0)) (.o1 (.fld 1) (.var 1)))) (.o1 (.fld 0) (.var 1)))) (.lit (.int .i64 16777216))) (.call 155 (.o2 .mkS (.lit (.agg [])) (.o2 .cat (.o2 .snoc (.lit (.list 1 false [])) (.o2 .idx (.o1 (.fld 0) (.var 0)) (.o1 (.fld 1) (.var 1)))) (.o1 (.fld 0) (.var 1)))) (.loop (.o2 .mkS (.o2 .mkS (.lit (.agg [])) (.o1 (.fld 0) (.var 2))) (.o1 (.fld 2) (.var 1))) St122b0))))) (.call 155 (.o2 .mkS (.lit (.agg [])) (.o1 (.fld 2) (.var 1))) (.ret (.o2 .mkS (.o2 .mkS (.lit (.agg [])) (.o1 (.fld 0) (.var 2))) (.o1 (.fld 0) (.var 1)))))
def St122 : Tree := .need (.o2 (.int .leq .i64) (.lit (.int .i64 0)) (.o1 .len (.o1 (.fld 0) (.var 0)))) (.need (.o2 (.int .leq .i64) (.o1 .len (.o1 (.fld 0) (.var 0))) (.o1 .len (.o1 (.fld 0) (.var 0)))) (.need (.o2 (.int .leq .i64) (.o1 .len (.o1 (.fld 0) (.var 0))) (.lit (.int .i64 16777216))) (.loop (.o2 .mkS (.o2 .mkS (.o2 .mkS (.lit (.agg [])) (.lit (.list 1 false []))) (.o2 (.int .sub .i64) (.o1 .len (.o1 (.fld 0) (.var 0))) (.lit (.int .i64 1)))) (.o1 (.zeros 1 false (.int .i64 0)) (.o1 .len (.o1 (.fld 0) (.var 0))))) St122b1)))
/-! 156: stringslite.CutPrefix -/
def St156 : Tree := .call 152 (.o2 .mkS (.o2 .mkS (.lit (.agg [])) (.o1 (.fld 0) (.var 0))) (.o1 (.fld 1) (.var 0))) (.ite (.o1 .not (.o1 (.fld 0) (.var 1))) (.ret (.o2 .mkS (.o2 .mkS (.lit (.agg [])) (.o1 (.fld 0) (.var 0))) (.lit (.bool false)))) (.need (.o2 (.int .leq .i64) (.lit (.int .i64 0)) (.o1 .slen (.o1 (.fld 1) (.var 0)))) (.need (.o2 (.int .leq .i64) (.o1 .slen (.o1 (.fld 1) (.var 0))) (.o1 .slen (.o1 (.fld 0) (.var 0)))) (.need (.o2 (.int .leq .i64) (.o1 .slen (.o1 (.fld 0) (.var 0))) (.o1 .slen (.o1 (.fld 0) (.var 0)))) (.ret (.o2 .mkS (.o2 .mkS (.lit (.agg [])) (.o3 .ssub (.o1 (.fld 0) (.var 0)) (.o1 .slen (.o1 (.fld 1) (.var 0))) (.o1 .slen (.o1 (.fld 0) (.var 0))))) (.lit (.bool true))))))))
/-! 155: spec.trimmed -/
def St155b0 : Tree := .ite (.o2 (.int .gtr .i64) (.o1 (.fld 0) (.var 1)) (.lit (.int .i64 0))) (.need (.o2 (.int .leq .i64) (.lit (.int .i64 0)) (.o2 (.int .sub .i64) (.o1 (.fld 0) (.var 1)) (.lit (.int .i64 1)))) (.need (.o2 (.int .lss .i64) (.o2 (.int .sub .i64) (.o1 (.fld 0) (.var 1)) (.lit (.int .i64 1))) (.o1 .len (.o1 (.fld 0) (.var 0)))) (.ite (.o2 (.int .eql .i64) (.o2 .idx (.o1 (.fld 0) (.var 0)) (.o2 (.int .sub .i64) (.o1 (.fld 0) (.var 1)) (.lit (.int .i64 1)))) (.lit (.int .i64 0))) (.cont 0 (.o2 .mkS (.lit (.agg [])) (.o2 (.int .sub .i64) (.o1 (.fld 0) (.var 1)) (.lit (.int .i64 1))))) (.need (.o2 (.int .leq .i64) (.lit (.int .i64 0)) (.o1 (.fld 0) (.var 1))) (.need (.o2 (.int .leq .i64) (.o1 (.fld 0) (.var 1)) (.o1 .len (.o1 (.fld 0) (.var 0)))) (.ret (.o2 .mkS (.lit (.agg [])) (.o3 .sub (.o1 (.fld 0) (.var 0)) (.lit (.int .i64 0)) (.o1 (.fld 0) (.var 1)))))))))) (.need (.o2 (.int .leq .i64) (.lit (.int .i64 0)) (.o1 (.fld 0) (.var 1))) (.need (.o2 (.int .leq .i64) (.o1 (.fld 0) (.var 1)) (.o1 .len (.o1 (.fld 0) (.var 0)))) (.ret (.o2 .mkS (.lit (.agg [])) (.o3 .sub (.o1 (.fld 0) (.var 0)) (.lit (.int .i64 0)) (.o1 (.fld 0) (.var 1)))))))
def St155 : Tree := .loop (.o2 .mkS (.lit (.agg [])) (.o1 .len (.o1 (.fld 0) (.var 0)))) St155b0
/-! 104: spec.positive -/
def St104b0 : Tree := .ite (.o2 (.int .lss .i64) (.o2 (.int .rem .i64) (.o1 (.fld 0) (.var 1)) (.lit (.int .i64 10))) (.lit (.int .i64 0))) (.need (.o2 (.int .leq .i64) (.o1 .slen (.o2 (.str .add) (.o1 .toS (.o2 .snoc (.lit (.list 1 false [])) (.o1 (.conv .u8) (.o2 (.int .add .i64) (.lit (.int .i64 48)) (.o1 (.neg .i64) (.o2 (.int .rem .i64) (.o1 (.fld 0) (.var 1)) (.lit (.int .i64 10)))))))) (.o1 (.fld 1) (.var 1)))) (.lit (.int .i64 16777216))) (.ite (.o2 (.int .eql .i64) (.o2 (.int .quo .i64) (.o1 (.fld 0) (.var 1)) (.lit (.int .i64 10))) (.lit (.int .i64 0))) (.ret (.o2 .mkS (.lit (.agg [])) (.o2 (.str .add) (.o1 .toS (.o2 .snoc (.lit (.list 1 false [])) (.o1 (.conv .u8) (.o2 (.int .add .i64) (.lit (.int .i64 48)) (.o1 (.neg .i64) (.o2 (.int .rem .i64) (.o1 (.fld 0) (.var 1)) (.lit (.int .i64 10)))))))) (.o1 (.fld 1) (.var 1))))) (.cont 0 (.o2 .mkS (.o2 .mkS (.lit (.agg [])) (.o2 (.int .quo .i64) (.o1 (.fld 0) (.var 1)) (.lit (.int .i64 10)))) (.o2 (.str .add) (.o1 .toS (.o2 .snoc (.lit (.list 1 false [])) (.o1 (.conv .u8) (.o2 (.int .add .i64) (.lit (.int .i64 48)) (.o1 (.neg .i64) (.o2 (.int .rem .i64) (.o1 (.fld 0) (.var 1)) (.lit (.int .i64 10)))))))) (.o1 (.fld 1) (.var 1))))))) (.need (.o2 (.int .leq .i64) (.o1 .slen (.o2 (.str .add) (.o1 .toS (.o2 .snoc (.lit (.list 1 false [])) (.o1 (.conv .u8) (.o2 (.int .add .i64) (.lit (.int .i64 48)) (.o2 (.int .rem .i64) (.o1 (.fld 0) (.var 1)) (.lit (.int .i64 10))))))) (.o1 (.fld 1) (.var 1)))) (.lit (.int .i64 16777216))) (.ite (.o2 (.int .eql .i64) (.o2 (.int .quo .i64) (.o1 (.fld 0) (.var 1)) (.lit (.int .i64 10))) (.lit (.int .i64 0))) (.ret (.o2 .mkS (.lit (.agg [])) (.o2 (.str .add) (.o1 .toS (.o2 .snoc (.lit (.list 1 false [])) (.o1 (.conv .u8) (.o2 (.int .add .i64) (.lit (.int .i64 48)) (.o2 (.int .rem .i64) (.o1 (.fld 0) (.var 1)) (.lit (.int .i64 10))))))) (.o1 (.fld 1) (.var 1))))) (.cont 0 (.o2 .mkS (.o2 .mkS (.lit (.agg [])) (.o2 (.int .quo .i64) (.o1 (.fld 0) (.var 1)) (.lit (.int .i64 10)))) (.o2 (.str .add) (.o1 .toS (.o2 .snoc (.lit (.list 1 false [])) (.o1 (.conv .u8) (.o2 (.int .add .i64) (.lit (.int .i64 48)) (.o2 (.int .rem .i64) (.o1 (.fld 0) (.var 1)) (.lit (.int .i64 10))))))) (.o1 (.fld 1) (.var 1)))))))
def St104 : Tree := .loop (.o2 .mkS (.o2 .mkS (.lit (.agg [])) (.o1 (.fld 0) (.var 0))) (.lit (.str []))) St104b0
/-! 152: stringslite.HasPrefix -/
def St152 : Tree := .ite (.o2 (.int .geq .i64) (.o1 .slen (.o1 (.fld 0) (.var 0))) (.o1 .slen (.o1 (.fld 1) (.var 0)))) (.need (.o2 (.int .leq .i64) (.lit (.int .i64 0)) (.o1 .slen (.o1 (.fld 1) (.var 0)))) (.need (.o2 (.int .leq .i64) (.o1 .slen (.o1 (.fld 1) (.var 0))) (.o1 .slen (.o1 (.fld 0) (.var 0)))) (.ret (.o2 .mkS (.lit (.agg [])) (.o2 (.str .eql) (.o3 .ssub (.o1 (.fld 0) (.var 0)) (.lit (.int .i64 0)) (.o1 .slen (.o1 (.fld 1) (.var 0)))) (.o1 (.fld 1) (.var 0))))))) (.ret (.o2 .mkS (.lit (.agg [])) (.lit (.bool false))))
end Go.Dv

/- The trees are those of the functions: printed by dvgen. -/
set_option linter.unusedVariables false
set_option maxRecDepth 100000
namespace Go.Dv
open Go.Proofs
theorem Stree34 : treeOf Tryz.prog Stab 12 34 = some St34 := by kernel_rfl
theorem Stree39 : treeOf Tryz.prog Stab 12 39 = some St39 := by kernel_rfl
theorem Stree46 : treeOf Tryz.prog Stab 12 46 = some St46 := by kernel_rfl
theorem Stree47 : treeOf Tryz.prog Stab 12 47 = some St47 := by kernel_rfl
theorem Stree45 : treeOf Tryz.prog Stab 12 45 = some St45 := by kernel_rfl
theorem Stree77 : treeOf Tryz.prog Stab 12 77 = some St77 := by kernel_rfl
theorem Stree69 : treeOf Tryz.prog Stab 12 69 = some St69 := by kernel_rfl
theorem Stree71 : treeOf Tryz.prog Stab 12 71 = some St71 := by kernel_rfl
theorem Stree70 : treeOf Tryz.prog Stab 12 70 = some St70 := by kernel_rfl
theorem Stree75 : treeOf Tryz.prog Stab 12 75 = some St75 := by kernel_rfl
theorem Stree72 : treeOf Tryz.prog Stab 12 72 = some St72 := by kernel_rfl
theorem Stree48 : treeOf Tryz.prog Stab 12 48 = some St48 := by kernel_rfl
theorem Stree68 : treeOf Tryz.prog Stab 12 68 = some St68 := by kernel_rfl
theorem Stree62 : treeOf Tryz.prog Stab 12 62 = some St62 := by kernel_rfl
theorem Stree80 : treeOf Tryz.prog Stab 12 80 = some St80 := by kernel_rfl
theorem Stree81 : treeOf Tryz.prog Stab 12 81 = some St81 := by kernel_rfl
theorem Stree116 : treeOf Tryz.prog Stab 12 116 = some St116 := by kernel_rfl
theorem Stree117 : treeOf Tryz.prog Stab 12 117 = some St117 := by kernel_rfl
theorem Stree107 : treeOf Tryz.prog Stab 12 107 = some St107 := by kernel_rfl
theorem Stree106 : treeOf Tryz.prog Stab 12 106 = some St106 := by kernel_rfl
theorem Stree108 : treeOf Tryz.prog Stab 12 108 = some St108 := by kernel_rfl
theorem Stree109 : treeOf Tryz.prog Stab 12 109 = some St109 := by kernel_rfl
theorem Stree66 : treeOf Tryz.prog Stab 12 66 = some St66 := by kernel_rfl
theorem Stree110 : treeOf Tryz.prog Stab 12 110 = some St110 := by kernel_rfl
theorem Stree111 : treeOf Tryz.prog Stab 12 111 = some St111 := by kernel_rfl
theorem Stree120 : treeOf Tryz.prog Stab 12 120 = some St120 := by kernel_rfl
theorem Stree118 : treeOf Tryz.prog Stab 12 118 = some St118 := by kernel_rfl
theorem Stree114 : treeOf Tryz.prog Stab 12 114 = some St114 := by kernel_rfl
theorem Stree119 : treeOf Tryz.prog Stab 12 119 = some St119 := by kernel_rfl
theorem Stree50 : treeOf Tryz.prog Stab 12 50 = some St50 := by kernel_rfl
theorem Stree65 : treeOf Tryz.prog Stab 12 65 = some St65 := by kernel_rfl
theorem Stree105 : treeOf Tryz.prog Stab 12 105 = some St105 := by kernel_rfl
theorem Stree121 : treeOf Tryz.prog Stab 12 121 = some St121 := by kernel_rfl
theorem Stree122 : treeOf Tryz.prog Stab 12 122 = some St122 := by kernel_rfl
theorem Stree156 : treeOf Tryz.prog Stab 12 156 = some St156 := by kernel_rfl
theorem Stree155 : treeOf Tryz.prog Stab 12 155 = some St155 := by kernel_rfl
theorem Stree104 : treeOf Tryz.prog Stab 12 104 = some St104 := by kernel_rfl
theorem Stree152 : treeOf Tryz.prog Stab 12 152 = some St152 := by kernel_rfl
def Strees (f : FuncId) : Option Tree := match f with
  | 34 => some St34
  | 39 => some St39
  | 46 => some St46
  | 47 => some St47
  | 45 => some St45
  | 77 => some St77
  | 69 => some St69
  | 71 => some St71
  | 70 => some St70
  | 75 => some St75
  | 72 => some St72
  | 48 => some St48
  | 68 => some St68
  | 62 => some St62
  | 80 => some St80
  | 81 => some St81
  | 116 => some St116
  | 117 => some St117
  | 107 => some St107
  | 106 => some St106
  | 108 => some St108
  | 109 => some St109
  | 66 => some St66
  | 110 => some St110
  | 111 => some St111
  | 120 => some St120
  | 118 => some St118
  | 114 => some St114
  | 119 => some St119
  | 50 => some St50
  | 65 => some St65
  | 105 => some St105
  | 121 => some St121
  | 122 => some St122
  | 156 => some St156
  | 155 => some St155
  | 104 => some St104
  | 152 => some St152
  | _ => none
theorem Strees_ok : ∀ f t, Strees f = some t → treeOf Tryz.prog Stab 12 f = some t := by
  intro f t h
  unfold Strees at h
  split at h
  · simp only [Option.some.injEq] at h; subst h; exact Stree34
  · simp only [Option.some.injEq] at h; subst h; exact Stree39
  · simp only [Option.some.injEq] at h; subst h; exact Stree46
  · simp only [Option.some.injEq] at h; subst h; exact Stree47
  · simp only [Option.some.injEq] at h; subst h; exact Stree45
  · simp only [Option.some.injEq] at h; subst h; exact Stree77
  · simp only [Option.some.injEq] at h; subst h; exact Stree69
  · simp only [Option.some.injEq] at h; subst h; exact Stree71
  · simp only [Option.some.injEq] at h; subst h; exact Stree70
  · simp only [Option.some.injEq] at h; subst h; exact Stree75
  · simp only [Option.some.injEq] at h; subst h; exact Stree72
  · simp only [Option.some.injEq] at h; subst h; exact Stree48
  · simp only [Option.some.injEq] at h; subst h; exact Stree68
  · simp only [Option.some.injEq] at h; subst h; exact Stree62
  · simp only [Option.some.injEq] at h; subst h; exact Stree80
  · simp only [Option.some.injEq] at h; subst h; exact Stree81
  · simp only [Option.some.injEq] at h; subst h; exact Stree116
  · simp only [Option.some.injEq] at h; subst h; exact Stree117
  · simp only [Option.some.injEq] at h; subst h; exact Stree107
  · simp only [Option.some.injEq] at h; subst h; exact Stree106
  · simp only [Option.some.injEq] at h; subst h; exact Stree108
  · simp only [Option.some.injEq] at h; subst h; exact Stree109
  · simp only [Option.some.injEq] at h; subst h; exact Stree66
  · simp only [Option.some.injEq] at h; subst h; exact Stree110
  · simp only [Option.some.injEq] at h; subst h; exact Stree111
  · simp only [Option.some.injEq] at h; subst h; exact Stree120
  · simp only [Option.some.injEq] at h; subst h; exact Stree118
  · simp only [Option.some.injEq] at h; subst h; exact Stree114
  · simp only [Option.some.injEq] at h; subst h; exact Stree119
  · simp only [Option.some.injEq] at h; subst h; exact Stree50
  · simp only [Option.some.injEq] at h; subst h; exact Stree65
  · simp only [Option.some.injEq] at h; subst h; exact Stree105
  · simp only [Option.some.injEq] at h; subst h; exact Stree121
  · simp only [Option.some.injEq] at h; subst h; exact Stree122
  · simp only [Option.some.injEq] at h; subst h; exact Stree156
  · simp only [Option.some.injEq] at h; subst h; exact Stree155
  · simp only [Option.some.injEq] at h; subst h; exact Stree104
  · simp only [Option.some.injEq] at h; subst h; exact Stree152
  · simp at h
noncomputable def Schk (f : Nat) (pl : List (Nat × Stat)) : Bool := match (Tryz.prog.funcs[f]?).bind (·.body) with | some c => codeOk (fun id => pl.lookup id) c | none => true
theorem Sck28 : Schk 28 Spl28 = true := by kernel_rfl
theorem Sck39 : Schk 39 Spl39 = true := by kernel_rfl
theorem Sck77 : Schk 77 Spl77 = true := by kernel_rfl
theorem Sck69 : Schk 69 Spl69 = true := by kernel_rfl
theorem Sck70 : Schk 70 Spl70 = true := by kernel_rfl
theorem Sck62 : Schk 62 Spl62 = true := by kernel_rfl
theorem Sck74 : Schk 74 Spl74 = true := by kernel_rfl
theorem Sck80 : Schk 80 Spl80 = true := by kernel_rfl
theorem Sck108 : Schk 108 Spl108 = true := by kernel_rfl
theorem Sck109 : Schk 109 Spl109 = true := by kernel_rfl
theorem Sck103 : Schk 103 Spl103 = true := by kernel_rfl
theorem Sck111 : Schk 111 Spl111 = true := by kernel_rfl
theorem Sck115 : Schk 115 Spl115 = true := by kernel_rfl
theorem Splans_ok : ∀ (f : FuncId) (fn : Func) (c : Code), Tryz.prog.funcs[f]? = some fn → fn.body = some c → codeOk (Stab.plans f) c = true := by
  intro f fn c hf hb
  show codeOk (fun id => (Splans.lookup f).bind (·.lookup id)) c = true
  have hA : ∀ q ∈ Splans, Schk q.1 q.2 = true := by
    intro q hq
    simp only [Splans, List.mem_cons, List.not_mem_nil, or_false] at hq
    rcases hq with rfl | rfl | rfl | rfl | rfl | rfl | rfl | rfl | rfl | rfl | rfl | rfl | rfl
    · exact Sck28
    · exact Sck39
    · exact Sck77
    · exact Sck69
    · exact Sck70
    · exact Sck62
    · exact Sck74
    · exact Sck80
    · exact Sck108
    · exact Sck109
    · exact Sck103
    · exact Sck111
    · exact Sck115
  cases hp : Splans.lookup f with
  | none => exact codeOk_none c
  | some l =>
    have h := hA (f, l) (mem_of_lookup hp)
    unfold Schk at h
    rw [hf] at h
    simp only [Option.bind_some, hb] at h
    exact h
end Go.Dv

/- Builders at this program: copyCheck and String. -/
set_option linter.unusedVariables false
set_option linter.unusedSimpArgs false
namespace Go.Proofs
open Go.RowKit

theorem Y.neqSelf (b : Nat) (w : World) : (binOp .neq 141 (.pointer (some ⟨b, 0, none⟩)) (.pointer (some ⟨b, 0, none⟩))).run Tryz.prog w = .ok (.bool false) w := by
  obtain ⟨d, hd⟩ := Dv.maxDepth_succ
  have same : (sameAddr ⟨b, 0, none⟩ ⟨b, 0, none⟩).run Tryz.prog w = .ok true w := by simp [sameAddr]
  have hs : Dv.sizeA Tryz.prog 143 = some 2 := by kernel_rfl
  simp [binOp, Op.equal, hd, Op.equalIn, run_underlying Tryz.underlying141, Dv.sizeA_run hs, same]

set_option maxHeartbeats 1000000 in
set_option maxRecDepth 100000 in
theorem Y.copyCheck1 (b : Nat) (w : World) (v : Value) (hb : w.heap[b]? = some (.cells #[.pointer (some ⟨b, 0, none⟩), v] 143 (0, 0))) :
    Calls Tryz.prog 153 #[.pointer (some ⟨b, 0, none⟩)] w fun e w' => e = .returned (.tuple #[]) ∧ w' = w := by
  have h0 : w.cell? ⟨b, 0, none⟩ = some (.pointer (some ⟨b, 0, none⟩)) := by rw [Lib.cell_of_heap hb]; rfl
  go_enter Tryz.func153, Tryz.ntmps153
  go_wp2
  rw [Y.neqSelf]
  simp only [Result.andThen]
  rw [Oper.upon_value]
  go_wp2
  go_end0
  exact ⟨rfl, rfl⟩

theorem Y.sliceData (l : List UInt8) (W : World) (g cap : Nat) (cur : Array Value) (hl0 : l ≠ []) (hg : W.heap[g]? = some (.cells cur 5 (0, 0))) (hnc : l.length ≤ cur.size) (hcm : l.length ≤ 16777216) (hcap : 0 < cap)
    (htake : ∀ (j : Nat) (x : UInt8), l[j]? = some x → cur[j]? = some (Value.int .u8 x.toNat)) :
    (Builtin.unsafeSliceData_ #[22] 202 #[.slice (some ⟨g, 0, none⟩) l.length cap]).run Tryz.prog W = .ok (.pointer (some ⟨g, 0, none⟩)) W ∧
    (Builtin.unsafeString_ #[202, 3] 9 #[.pointer (some ⟨g, 0, none⟩), .int .i64 l.length]).run Tryz.prog W = .ok (.string ⟨l.toArray⟩) (W.freeze ⟨g, 0, none⟩ l.length) := by
  have hl : l.length ≠ 0 := by simpa using hl0
  refine ⟨Lib.run_unsafeSliceData_row _ _ _ _ _ _ (by omega), ?_⟩
  refine Lib.run_unsafeString_row W 202 3 9 5 Tryz.underlying202 (by kernel_rfl) g cur.size (by simp [World.shape?, hg]) l hl0 (by omega) (by omega) ?_
  intro j x hx
  have := htake j x hx
  rw [Addr.add_lit, cell_of_row W g (0 + j) cur 5 (0, 0) hg, Nat.zero_add]
  exact this

set_option maxHeartbeats 2000000 in
set_option maxRecDepth 100000 in
theorem Y.string (b g cap : Nat) (l : List UInt8) (w : World) (p1 : Value) (cur : Array Value) (hb : w.heap[b]? = some (.cells #[p1, .slice (some ⟨g, 0, none⟩) l.length cap] 143 (0, 0))) (hcap : 0 < cap) (h0 : l ≠ [])
    (hg : w.heap[g]? = some (.cells cur 5 (0, 0))) (hnc : l.length ≤ cur.size) (hcm : l.length ≤ 16777216) (htake : ∀ (j : Nat) (x : UInt8), l[j]? = some x → cur[j]? = some (Value.int .u8 x.toNat)) :
    Calls Tryz.prog 103 #[.pointer (some ⟨b, 0, none⟩)] w fun e w' => e = .returned (.string ⟨l.toArray⟩) ∧ w' = w.drew.freeze ⟨g, 0, none⟩ l.length := by
  have hl0 : l.length ≠ 0 := fun h => h0 (List.length_eq_zero_iff.1 h)
  have c1 : w.drew.cell? ⟨b, 1, none⟩ = some (.slice (some ⟨g, 0, none⟩) l.length cap) := by
    have : w.drew.heap[b]? = some (.cells #[p1, .slice (some ⟨g, 0, none⟩) l.length cap] 143 (0, 0)) := hb
    rw [Lib.cell_of_heap this]; rfl
  obtain ⟨hSD, hUS⟩ := Y.sliceData l w.drew g cap cur h0 hg hnc hcm hcap htake
  have mixed : Tryz.prog.follows .mixedOrders = true := by kernel_rfl
  go_enter Tryz.func103, Tryz.ntmps103
  go_wp2
  go_region_o
  all_goals (go_wp2; go_ret; exact ⟨rfl, rfl⟩)

theorem Y.sliceDataNil (W : World) : (Builtin.unsafeSliceData_ #[22] 202 #[.slice none 0 0]).run Tryz.prog W = .ok (.pointer none) W ∧
    (Builtin.unsafeString_ #[202, 3] 9 #[.pointer none, .int .i64 0]).run Tryz.prog W = .ok (.string .empty) W := by
  exact ⟨rfl, rfl⟩

set_option maxHeartbeats 2000000 in
set_option maxRecDepth 100000 in
theorem Y.stringNil (b : Nat) (w : World) (p1 : Value) (hb : w.heap[b]? = some (.cells #[p1, .slice none 0 0] 143 (0, 0))) :
    Calls Tryz.prog 103 #[.pointer (some ⟨b, 0, none⟩)] w fun e w' => e = .returned (.string .empty) ∧ w' = w.drew := by
  have c1 : w.drew.cell? ⟨b, 1, none⟩ = some (.slice none 0 0) := by
    have : w.drew.heap[b]? = some (.cells #[p1, .slice none 0 0] 143 (0, 0)) := hb
    rw [Lib.cell_of_heap this]; rfl
  obtain ⟨hSD, hUS⟩ := Y.sliceDataNil w.drew
  have mixed : Tryz.prog.follows .mixedOrders = true := by kernel_rfl
  go_enter Tryz.func103, Tryz.ntmps103
  go_wp2
  go_region_o
  all_goals (go_wp2; go_ret; exact ⟨rfl, rfl⟩)
end Go.Proofs

namespace Go.Dv
open Go.Proofs Go.RowKit

theorem Sleaf153 : LeafSpec Tryz.prog 143 5 153 .copyCheck := by
  simp only [LeafSpec]
  intro w b x y hb hx
  rcases hx with rfl | rfl
  · refine (X.copyCheck0 b w y hb).mono ?_
    rintro e w' ⟨rfl, rfl⟩
    refine ⟨rfl, rfl, rfl, rfl, by simp [World.setCell], ?_, fun j hj => heap_setCell_other w ⟨b, 0, none⟩ j _ hj⟩
    have hw := heap_setCell_same w b 0 _ _ (.pointer (some ⟨b, 0, none⟩)) hb
    rw [hw]
    rfl
  · refine (Y.copyCheck1 b w y hb).mono ?_
    rintro e w' ⟨rfl, rfl⟩
    exact ⟨rfl, rfl, rfl, rfl, rfl, hb, fun _ _ => rfl⟩
theorem Sleaf103 : LeafSpec Tryz.prog 143 5 103 .text := by
  simp only [LeafSpec]
  refine ⟨fun w b x hb => (Y.stringNil b w x hb).mono ?_, fun w b g c x cur l hb hg hm h0 hc hl hbg htake => ?_⟩
  · rintro e w' ⟨rfl, rfl⟩
    exact ⟨rfl, (Below.refl _ w).drew⟩
  · have hm' : l.length ≤ 16777216 := by simp only [most] at hm; omega
    refine (Y.string b g c l w x cur hb (by have := List.length_pos_iff.2 h0; omega) h0 hg hl hm' htake).mono ?_
    rintro e w' ⟨rfl, rfl⟩
    have hn : l.length ≠ 0 := fun h => h0 (List.length_eq_zero_iff.1 h)
    have hg' : w.drew.heap[g]? = some (.cells cur 5 (0, 0)) := hg
    have hlt : g < w.drew.heap.size := (Array.getElem?_eq_some_iff.1 hg').1
    have hfr : ∀ k, k ≠ g → (w.drew.freeze ⟨g, 0, none⟩ l.length).heap[k]? = w.drew.heap[k]? := by
      intro k hk
      unfold World.freeze
      rw [if_neg hn]
      simp only [Array.getElem?_modify]
      rw [if_neg (fun e => hk e.symm)]
    have hself : ∃ fr, (w.drew.freeze ⟨g, 0, none⟩ l.length).heap[g]? = some (.cells cur 5 fr) := by
      unfold World.freeze
      rw [if_neg hn]
      simp only [Array.getElem?_modify, if_true, hg', Option.map_some]
      exact ⟨_, rfl⟩
    refine ⟨rfl, ?_, ?_, ?_, ?_, fun j hj => hfr j hj, fun o => ?_⟩
    · unfold World.freeze; rw [if_neg hn]; rfl
    · unfold World.freeze; rw [if_neg hn]; rfl
    · unfold World.freeze; rw [if_neg hn]; rfl
    · unfold World.freeze; rw [if_neg hn]; simp only [Array.size_modify]; rfl
    · obtain ⟨fr, hs⟩ := hself
      unfold World.cell?
      simp only [hs, hg]
theorem Stab_ok : TabOk Tryz.prog Stab where
  mixed := by kernel_rfl
  plans := Splans_ok
  leaf f l h := by
    have h' := mem_of_lookup (l := Sleaf) h
    simp only [Sleaf, List.mem_cons, Prod.mk.injEq, List.not_mem_nil, or_false] at h'
    rcases h' with ⟨rfl, rfl⟩ | ⟨rfl, rfl⟩
    · exact Sleaf103
    · exact Sleaf153
end Go.Dv
