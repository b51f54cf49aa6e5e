import Derived.Test.YtjhiccoooaleoaaShLim
set_option linter.all false
set_option linter.unusedVariables false
set_option linter.unusedSimpArgs false
set_option autoImplicit false
set_option maxRecDepth 4096
namespace Go.Sh.T
open Go.Sh
/-- phalanx/phalanxlaw03.CellSteps -/
def s6 : SFn := ⟨3, [.t 6],
 (.seq (.region false [⟨some 3, .box true 2 (.t 0), none, false⟩,
   ⟨some 4, .box true 2 (.t 1), none, false⟩,
   ⟨some 6, .mv (.v (.bool false)), none, false⟩])
 (.seq (.region false [⟨some 18, .load (some 2) (.t 3), none, false⟩,
   ⟨some 19, .mv (.t 2), none, false⟩,
   ⟨some 20, .call 24 [(.t 18), (.t 19)], none, false⟩,
   ⟨some 17, .mv (.t 20), none, false⟩,
   ⟨some 21, .ext (.t 17) 0, none, false⟩,
   ⟨some 22, .ext (.t 17) 1, none, false⟩,
   ⟨some 7, .alloc true [(.int .i64 0), (.int .i64 0)], none, false⟩,
   ⟨none, .store 2 [] (.t 7) (.t 21), none, false⟩,
   ⟨some 8, .mv (.t 22), none, false⟩])
 (.seq (.region false [⟨some 24, .load (some 2) (.t 3), none, false⟩,
   ⟨some 25, .mv (.t 2), none, false⟩,
   ⟨some 26, .call 18 [(.t 24), (.t 25)], none, false⟩,
   ⟨some 23, .mv (.t 26), none, false⟩,
   ⟨some 27, .ext (.t 23) 0, none, false⟩,
   ⟨some 28, .ext (.t 23) 1, none, false⟩,
   ⟨some 9, .alloc true [(.int .i64 0), (.int .i64 0)], none, false⟩,
   ⟨none, .store 2 [] (.t 9) (.t 27), none, false⟩,
   ⟨some 10, .mv (.t 28), none, false⟩])
 (.seq (.region false [⟨some 30, .load (some 2) (.t 3), none, false⟩,
   ⟨some 31, .mv (.t 2), none, false⟩,
   ⟨some 32, .call 25 [(.t 30), (.t 31)], none, false⟩,
   ⟨some 29, .mv (.t 32), none, false⟩,
   ⟨some 33, .ext (.t 29) 0, none, false⟩,
   ⟨some 34, .ext (.t 29) 1, none, false⟩,
   ⟨some 35, .ext (.t 29) 2, none, false⟩,
   ⟨some 11, .alloc true [(.int .i64 0), (.int .i64 0)], none, false⟩,
   ⟨some 12, .alloc true [(.int .i64 0), (.int .i64 0)], none, false⟩,
   ⟨none, .store 2 [] (.t 11) (.t 33), none, false⟩,
   ⟨none, .store 2 [] (.t 12) (.t 34), none, false⟩,
   ⟨some 13, .mv (.t 35), none, false⟩])
 (.seq (.region false [⟨some 37, .load (some 2) (.t 3), none, false⟩,
   ⟨some 38, .mv (.t 2), none, false⟩,
   ⟨some 39, .call 26 [(.t 37), (.t 38)], none, false⟩,
   ⟨some 36, .mv (.t 39), none, false⟩,
   ⟨some 40, .ext (.t 36) 0, none, false⟩,
   ⟨some 41, .ext (.t 36) 1, none, false⟩,
   ⟨some 42, .ext (.t 36) 2, none, false⟩,
   ⟨some 14, .alloc true [(.int .i64 0), (.int .i64 0)], none, false⟩,
   ⟨some 15, .alloc true [(.int .i64 0), (.int .i64 0)], none, false⟩,
   ⟨none, .store 2 [] (.t 14) (.t 40), none, false⟩,
   ⟨none, .store 2 [] (.t 15) (.t 41), none, false⟩,
   ⟨some 16, .mv (.t 42), none, false⟩])
 (.seq (.region true [⟨some 43, .load (some 2) (.t 7), none, true⟩,
   ⟨some 44, .load (some 2) (.t 9), none, true⟩,
   ⟨some 45, .eq false true [.int, .int] (.t 43) (.t 44), none, false⟩,
   ⟨some 46, .mv (.t 45), none, false⟩,
   ⟨some 47, .mv (.t 8), (some (46, true)), false⟩,
   ⟨some 48, .mv (.t 10), (some (46, true)), false⟩,
   ⟨some 49, .eq false false [.bool] (.t 47) (.t 48), (some (46, true)), false⟩,
   ⟨some 50, .pick (.t 46) (.t 49) (.v (.bool false)), none, false⟩,
   ⟨some 51, .mv (.t 50), none, false⟩,
   ⟨some 52, .load (some 2) (.t 11), (some (51, true)), true⟩,
   ⟨some 53, .load (some 2) (.t 14), (some (51, true)), true⟩,
   ⟨some 54, .eq false true [.int, .int] (.t 52) (.t 53), (some (51, true)), false⟩,
   ⟨some 55, .pick (.t 51) (.t 54) (.v (.bool false)), none, false⟩,
   ⟨some 56, .mv (.t 55), none, false⟩,
   ⟨some 57, .load (some 2) (.t 12), (some (56, true)), true⟩,
   ⟨some 58, .load (some 2) (.t 15), (some (56, true)), true⟩,
   ⟨some 59, .eq false true [.int, .int] (.t 57) (.t 58), (some (56, true)), false⟩,
   ⟨some 60, .pick (.t 56) (.t 59) (.v (.bool false)), none, false⟩,
   ⟨some 61, .mv (.t 60), none, false⟩,
   ⟨some 62, .mv (.t 13), (some (61, true)), false⟩,
   ⟨some 63, .mv (.t 16), (some (61, true)), false⟩,
   ⟨some 64, .eq false false [.bool] (.t 62) (.t 63), (some (61, true)), false⟩,
   ⟨some 65, .pick (.t 61) (.t 64) (.v (.bool false)), none, false⟩,
   ⟨some 66, .mv (.t 65), none, false⟩,
   ⟨some 67, .load (some 2) (.t 3), (some (66, true)), true⟩,
   ⟨some 69, .load (some 2) (.t 3), (some (66, true)), true⟩,
   ⟨some 68, .call 27 [(.t 67)], (some (66, true)), true⟩,
   ⟨some 70, .call 28 [(.t 69)], (some (66, true)), false⟩,
   ⟨some 71, .eq false false [.bool] (.t 68) (.t 70), (some (66, true)), false⟩,
   ⟨some 72, .pick (.t 66) (.t 71) (.v (.bool false)), none, false⟩,
   ⟨some 73, .mv (.t 72), none, false⟩,
   ⟨some 74, .load (some 2) (.t 3), (some (73, true)), true⟩,
   ⟨some 75, .load (some 2) (.t 4), (some (73, true)), true⟩,
   ⟨some 77, .load (some 2) (.t 3), (some (73, true)), true⟩,
   ⟨some 78, .load (some 2) (.t 4), (some (73, true)), true⟩,
   ⟨some 76, .call 29 [(.t 74), (.t 75)], (some (73, true)), true⟩,
   ⟨some 79, .call 30 [(.t 77), (.t 78)], (some (73, true)), false⟩,
   ⟨some 80, .bin .eql (.t 76) (.t 79), (some (73, true)), false⟩,
   ⟨some 81, .pick (.t 73) (.t 80) (.v (.bool false)), none, false⟩,
   ⟨some 82, .mv (.t 81), none, false⟩,
   ⟨some 83, .mv (.t 2), (some (82, true)), false⟩,
   ⟨some 85, .mv (.t 2), (some (82, true)), true⟩,
   ⟨some 84, .call 31 [(.t 83)], (some (82, true)), false⟩,
   ⟨some 86, .call 32 [(.t 85)], (some (82, true)), false⟩,
   ⟨some 87, .bin .eql (.t 84) (.t 86), (some (82, true)), false⟩,
   ⟨some 88, .pick (.t 82) (.t 87) (.v (.bool false)), none, false⟩,
   ⟨some 89, .mv (.t 88), none, false⟩,
   ⟨some 90, .mv (.t 2), (some (89, true)), false⟩,
   ⟨some 92, .mv (.t 2), (some (89, true)), true⟩,
   ⟨some 91, .call 33 [(.t 90)], (some (89, true)), false⟩,
   ⟨some 93, .call 34 [(.t 92)], (some (89, true)), false⟩,
   ⟨some 94, .bin .eql (.t 91) (.t 93), (some (89, true)), false⟩,
   ⟨some 95, .pick (.t 89) (.t 94) (.v (.bool false)), none, false⟩,
   ⟨some 96, .mv (.t 95), none, false⟩,
   ⟨some 97, .call 16 [], (some (96, true)), false⟩,
   ⟨some 98, .pick (.t 96) (.t 97) (.v (.bool false)), none, false⟩,
   ⟨some 6, .mv (.t 98), none, false⟩])
 .ret))))))⟩
/-- phalanx/phalanxlaw03.awake -/
def s16 : SFn := ⟨0, [.t 0],
 (.seq (.region false [⟨some 0, .mv (.v (.bool false)), none, false⟩])
 (.seq (.region false [⟨some 4, .build [(.int .i64 0), (.int .i64 0)] [(0, 1, (.v (.int .i64 4))), (1, 1, (.v (.int .i64 4)))], none, false⟩,
   ⟨some 5, .call 24 [(.t 4), (.v (.int .i64 5))], none, false⟩,
   ⟨some 3, .mv (.t 5), none, false⟩,
   ⟨some 6, .ext (.t 3) 0, none, false⟩,
   ⟨some 7, .ext (.t 3) 1, none, false⟩,
   ⟨some 1, .alloc true [(.int .i64 0), (.int .i64 0)], none, false⟩,
   ⟨none, .store 2 [] (.t 1) (.t 6), none, false⟩,
   ⟨some 2, .mv (.t 7), none, false⟩])
 (.seq (.region false [⟨some 8, .mv (.t 2), none, false⟩,
   ⟨some 9, .mv (.t 8), none, false⟩,
   ⟨some 10, .load (some 2) (.t 1), (some (9, true)), false⟩,
   ⟨some 11, .build [(.int .i64 0), (.int .i64 0)] [(0, 1, (.v (.int .i64 3))), (1, 1, (.v (.int .i64 5)))], (some (9, true)), false⟩,
   ⟨some 12, .eq false true [.int, .int] (.t 10) (.t 11), (some (9, true)), false⟩,
   ⟨some 13, .pick (.t 9) (.t 12) (.v (.bool false)), none, false⟩,
   ⟨some 14, .mv (.t 13), none, false⟩,
   ⟨some 15, .call 33 [(.v (.int .i64 4))], (some (14, true)), false⟩,
   ⟨some 16, .bin .eql (.t 15) (.v (.int .i64 14)), (some (14, true)), false⟩,
   ⟨some 17, .pick (.t 14) (.t 16) (.v (.bool false)), none, false⟩,
   ⟨some 0, .mv (.t 17), none, false⟩])
 .ret)))⟩
/-- phalanx/phalanxref03.Step -/
def s18 : SFn := ⟨2, [.cell 4 (some 2), .t 5],
 (.seq (.region false [⟨some 2, .box true 2 (.t 0), none, false⟩,
   ⟨some 4, .alloc true [(.int .i64 0), (.int .i64 0)], none, false⟩,
   ⟨some 5, .mv (.v (.bool false)), none, false⟩])
 (.seq (.region false [⟨some 11, .mv (.t 1), none, false⟩,
   ⟨some 12, .call 76 [(.t 11)], none, false⟩,
   ⟨some 10, .mv (.t 12), none, false⟩,
   ⟨some 13, .ext (.t 10) 0, none, false⟩,
   ⟨some 14, .ext (.t 10) 1, none, false⟩,
   ⟨some 15, .ext (.t 10) 2, none, false⟩,
   ⟨some 6, .mv (.t 13), none, false⟩,
   ⟨some 7, .mv (.t 14), none, false⟩,
   ⟨some 8, .mv (.t 15), none, false⟩])
 (.seq (.seq (.region false [⟨some 16, .mv (.t 8), none, false⟩,
   ⟨some 17, .un .not (.t 16), none, false⟩,
   ⟨some 18, .mv (.t 17), none, false⟩,
   ⟨some 19, .load (some 2) (.t 2), (some (18, false)), false⟩,
   ⟨some 20, .call 28 [(.t 19)], (some (18, false)), false⟩,
   ⟨some 21, .un .not (.t 20), (some (18, false)), false⟩,
   ⟨some 22, .pick (.t 18) (.v (.bool true)) (.t 21), none, false⟩])
 (.cond (.t 22)
  (.seq (.region false [⟨some 23, .build [(.int .i64 0), (.int .i64 0)] [], none, false⟩,
    ⟨none, .store 2 [] (.t 4) (.t 23), none, false⟩,
    ⟨some 5, .mv (.v (.bool false)), none, false⟩])
  .ret)
  .skip))
 (.seq (.region false [⟨some 24, .faddr 0 (.t 2), none, false⟩,
   ⟨some 25, .load none (.t 24), none, false⟩,
   ⟨some 26, .mv (.t 6), none, false⟩,
   ⟨some 27, .bin .add (.t 25) (.t 26), none, false⟩,
   ⟨some 28, .faddr 1 (.t 2), none, false⟩,
   ⟨some 29, .load none (.t 28), none, false⟩,
   ⟨some 30, .mv (.t 7), none, false⟩,
   ⟨some 31, .bin .add (.t 29) (.t 30), none, false⟩,
   ⟨some 32, .build [(.int .i64 0), (.int .i64 0)] [(0, 1, (.t 27)), (1, 1, (.t 31))], none, false⟩,
   ⟨some 9, .alloc true [(.int .i64 0), (.int .i64 0)], none, false⟩,
   ⟨none, .store 2 [] (.t 9) (.t 32), none, false⟩])
 (.seq (.seq (.region false [⟨some 33, .load (some 2) (.t 9), none, false⟩,
   ⟨some 34, .call 28 [(.t 33)], none, false⟩,
   ⟨some 35, .un .not (.t 34), none, false⟩])
 (.cond (.t 35)
  (.seq (.region false [⟨some 36, .build [(.int .i64 0), (.int .i64 0)] [], none, false⟩,
    ⟨none, .store 2 [] (.t 4) (.t 36), none, false⟩,
    ⟨some 5, .mv (.v (.bool false)), none, false⟩])
  .ret)
  .skip))
 (.seq (.region false [⟨some 37, .load (some 2) (.t 9), none, false⟩,
   ⟨none, .store 2 [] (.t 4) (.t 37), none, false⟩,
   ⟨some 5, .mv (.v (.bool true)), none, false⟩])
 .ret))))))⟩
/-- phalanx/cell.Step -/
def s24 : SFn := ⟨2, [.cell 4 (some 2), .t 5],
 (.seq (.region false [⟨some 2, .box true 2 (.t 0), none, false⟩,
   ⟨some 4, .alloc true [(.int .i64 0), (.int .i64 0)], none, false⟩,
   ⟨some 5, .mv (.v (.bool false)), none, false⟩])
 (.seq (.region false [⟨some 7, .mv (.t 1), none, false⟩,
   ⟨some 8, .call 87 [(.t 7)], none, false⟩,
   ⟨some 6, .alloc true [(.int .i64 0), (.int .i64 0)], none, false⟩,
   ⟨none, .store 2 [] (.t 6) (.t 8), none, false⟩])
 (.seq (.seq (.region false [⟨some 9, .load (some 2) (.t 6), none, false⟩,
   ⟨some 10, .build [(.int .i64 0), (.int .i64 0)] [], none, false⟩,
   ⟨some 11, .eq false true [.int, .int] (.t 9) (.t 10), none, false⟩,
   ⟨some 12, .mv (.t 11), none, false⟩,
   ⟨some 13, .load (some 2) (.t 2), (some (12, false)), false⟩,
   ⟨some 14, .call 27 [(.t 13)], (some (12, false)), false⟩,
   ⟨some 15, .un .not (.t 14), (some (12, false)), false⟩,
   ⟨some 16, .pick (.t 12) (.v (.bool true)) (.t 15), none, false⟩,
   ⟨some 17, .mv (.t 16), none, false⟩,
   ⟨some 18, .load (some 2) (.t 2), (some (17, false)), false⟩,
   ⟨some 19, .load (some 2) (.t 6), (some (17, false)), false⟩,
   ⟨some 20, .call 88 [(.t 18), (.t 19)], (some (17, false)), false⟩,
   ⟨some 21, .call 27 [(.t 20)], (some (17, false)), false⟩,
   ⟨some 22, .un .not (.t 21), (some (17, false)), false⟩,
   ⟨some 23, .pick (.t 17) (.v (.bool true)) (.t 22), none, false⟩])
 (.cond (.t 23)
  (.seq (.region false [⟨some 24, .build [(.int .i64 0), (.int .i64 0)] [], none, false⟩,
    ⟨none, .store 2 [] (.t 4) (.t 24), none, false⟩,
    ⟨some 5, .mv (.v (.bool false)), none, false⟩])
  .ret)
  .skip))
 (.seq (.region false [⟨some 25, .load (some 2) (.t 2), none, false⟩,
   ⟨some 26, .load (some 2) (.t 6), none, false⟩,
   ⟨some 27, .call 88 [(.t 25), (.t 26)], none, false⟩,
   ⟨none, .store 2 [] (.t 4) (.t 27), none, false⟩,
   ⟨some 5, .mv (.v (.bool true)), none, false⟩])
 .ret))))⟩
/-- phalanx/cell.Sides -/
def s25 : SFn := ⟨2, [.cell 4 (some 2), .cell 5 (some 2), .t 6],
 (.seq (.region false [⟨some 2, .box true 2 (.t 0), none, false⟩,
   ⟨some 4, .alloc true [(.int .i64 0), (.int .i64 0)], none, false⟩,
   ⟨some 5, .alloc true [(.int .i64 0), (.int .i64 0)], none, false⟩,
   ⟨some 6, .mv (.v (.bool false)), none, false⟩])
 (.seq (.seq (.region false [⟨some 11, .load (some 2) (.t 2), none, false⟩,
   ⟨some 12, .mv (.t 1), none, false⟩,
   ⟨some 13, .call 24 [(.t 11), (.t 12)], none, false⟩,
   ⟨some 10, .mv (.t 13), none, false⟩,
   ⟨some 14, .ext (.t 10) 0, none, false⟩,
   ⟨some 15, .ext (.t 10) 1, none, false⟩,
   ⟨some 7, .alloc true [(.int .i64 0), (.int .i64 0)], none, false⟩,
   ⟨none, .store 2 [] (.t 7) (.t 14), none, false⟩,
   ⟨some 8, .mv (.t 15), none, false⟩])
 (.seq (.region false [⟨some 16, .mv (.t 8), none, false⟩,
   ⟨some 17, .un .not (.t 16), none, false⟩,
   ⟨some 18, .mv (.t 17), none, false⟩,
   ⟨some 19, .mv (.t 1), (some (18, false)), false⟩,
   ⟨some 20, .bin .lss (.t 19) (.v (.int .i64 4)), (some (18, false)), false⟩,
   ⟨some 21, .pick (.t 18) (.v (.bool true)) (.t 20), none, false⟩])
 (.cond (.t 21)
  (.seq (.region false [⟨some 22, .build [(.int .i64 0), (.int .i64 0)] [], none, false⟩,
    ⟨some 23, .build [(.int .i64 0), (.int .i64 0)] [], none, false⟩,
    ⟨none, .store 2 [] (.t 4) (.t 22), none, false⟩,
    ⟨none, .store 2 [] (.t 5) (.t 23), none, false⟩,
    ⟨some 6, .mv (.v (.bool false)), none, false⟩])
  .ret)
  .skip)))
 (.seq (.region false [⟨some 24, .mv (.t 1), none, false⟩,
   ⟨some 25, .call 87 [(.t 24)], none, false⟩,
   ⟨some 9, .alloc true [(.int .i64 0), (.int .i64 0)], none, false⟩,
   ⟨none, .store 2 [] (.t 9) (.t 25), none, false⟩])
 (.seq (.region true [⟨some 26, .load (some 2) (.t 2), none, true⟩,
   ⟨some 27, .faddr 0 (.t 9), none, true⟩,
   ⟨some 28, .load none (.t 27), none, true⟩,
   ⟨some 29, .build [(.int .i64 0), (.int .i64 0)] [(0, 1, (.t 28))], none, true⟩,
   ⟨some 31, .load (some 2) (.t 2), none, true⟩,
   ⟨some 32, .faddr 1 (.t 9), none, true⟩,
   ⟨some 33, .load none (.t 32), none, true⟩,
   ⟨some 34, .build [(.int .i64 0), (.int .i64 0)] [(1, 1, (.t 33))], none, true⟩,
   ⟨some 30, .call 88 [(.t 26), (.t 29)], none, true⟩,
   ⟨some 35, .call 88 [(.t 31), (.t 34)], none, false⟩,
   ⟨none, .store 2 [] (.t 4) (.t 30), none, false⟩,
   ⟨none, .store 2 [] (.t 5) (.t 35), none, false⟩,
   ⟨some 6, .mv (.v (.bool true)), none, false⟩])
 .ret))))⟩
/-- phalanx/phalanxref03.Sides -/
def s26 : SFn := ⟨2, [.cell 4 (some 2), .cell 5 (some 2), .t 6],
 (.seq (.region false [⟨some 2, .box true 2 (.t 0), none, false⟩,
   ⟨some 4, .alloc true [(.int .i64 0), (.int .i64 0)], none, false⟩,
   ⟨some 5, .alloc true [(.int .i64 0), (.int .i64 0)], none, false⟩,
   ⟨some 6, .mv (.v (.bool false)), none, false⟩])
 (.seq (.region false [⟨some 13, .load (some 2) (.t 2), none, false⟩,
   ⟨some 14, .mv (.t 1), none, false⟩,
   ⟨some 15, .call 18 [(.t 13), (.t 14)], none, false⟩,
   ⟨some 12, .mv (.t 15), none, false⟩,
   ⟨some 16, .ext (.t 12) 0, none, false⟩,
   ⟨some 17, .ext (.t 12) 1, none, false⟩,
   ⟨some 7, .alloc true [(.int .i64 0), (.int .i64 0)], none, false⟩,
   ⟨none, .store 2 [] (.t 7) (.t 16), none, false⟩,
   ⟨some 8, .mv (.t 17), none, false⟩])
 (.seq (.seq (.region false [⟨some 18, .mv (.t 8), none, false⟩,
   ⟨some 19, .un .not (.t 18), none, false⟩,
   ⟨some 20, .mv (.t 19), none, false⟩,
   ⟨some 21, .mv (.t 1), (some (20, false)), false⟩,
   ⟨some 22, .bin .lss (.t 21) (.v (.int .i64 4)), (some (20, false)), false⟩,
   ⟨some 23, .pick (.t 20) (.v (.bool true)) (.t 22), none, false⟩])
 (.cond (.t 23)
  (.seq (.region true [⟨some 24, .load (some 2) (.t 4), none, true⟩,
    ⟨some 25, .load (some 2) (.t 5), none, true⟩,
    ⟨none, .store 2 [(.t 5)] (.t 4) (.t 24), none, false⟩,
    ⟨none, .store 2 [] (.t 5) (.t 25), none, false⟩,
    ⟨some 6, .mv (.v (.bool false)), none, false⟩])
  .ret)
  .skip))
 (.seq (.region false [⟨some 27, .mv (.t 1), none, false⟩,
   ⟨some 28, .call 76 [(.t 27)], none, false⟩,
   ⟨some 26, .mv (.t 28), none, false⟩,
   ⟨some 29, .ext (.t 26) 0, none, false⟩,
   ⟨some 30, .ext (.t 26) 1, none, false⟩,
   ⟨some 31, .ext (.t 26) 2, none, false⟩,
   ⟨some 9, .mv (.t 29), none, false⟩,
   ⟨some 10, .mv (.t 30), none, false⟩,
   ⟨some 11, .mv (.t 31), none, false⟩])
 (.seq (.region true [⟨some 32, .faddr 0 (.t 2), none, true⟩,
   ⟨some 33, .load none (.t 32), none, true⟩,
   ⟨some 34, .mv (.t 9), none, true⟩,
   ⟨some 35, .bin .add (.t 33) (.t 34), none, true⟩,
   ⟨some 36, .faddr 1 (.t 2), none, true⟩,
   ⟨some 37, .load none (.t 36), none, true⟩,
   ⟨some 38, .build [(.int .i64 0), (.int .i64 0)] [(0, 1, (.t 35)), (1, 1, (.t 37))], none, true⟩,
   ⟨some 39, .faddr 0 (.t 2), none, true⟩,
   ⟨some 40, .load none (.t 39), none, true⟩,
   ⟨some 41, .faddr 1 (.t 2), none, true⟩,
   ⟨some 42, .load none (.t 41), none, true⟩,
   ⟨some 43, .mv (.t 10), none, true⟩,
   ⟨some 44, .bin .add (.t 42) (.t 43), none, true⟩,
   ⟨some 45, .build [(.int .i64 0), (.int .i64 0)] [(0, 1, (.t 40)), (1, 1, (.t 44))], none, true⟩,
   ⟨none, .store 2 [(.t 39), (.t 41)] (.t 4) (.t 38), none, false⟩,
   ⟨none, .store 2 [] (.t 5) (.t 45), none, false⟩,
   ⟨some 6, .mv (.v (.bool true)), none, false⟩])
 .ret)))))⟩
/-- phalanx/cell.Near -/
def s27 : SFn := ⟨1, [.t 2],
 (.seq (.region false [⟨some 1, .box true 2 (.t 0), none, false⟩,
   ⟨some 2, .mv (.v (.bool false)), none, false⟩])
 (.seq (.region false [⟨some 3, .faddr 0 (.t 1), none, false⟩,
   ⟨some 4, .load none (.t 3), none, false⟩,
   ⟨some 5, .call 89 [(.t 4)], none, false⟩,
   ⟨some 6, .mv (.t 5), none, false⟩,
   ⟨some 7, .faddr 1 (.t 1), (some (6, true)), false⟩,
   ⟨some 8, .load none (.t 7), (some (6, true)), false⟩,
   ⟨some 9, .call 89 [(.t 8)], (some (6, true)), false⟩,
   ⟨some 10, .pick (.t 6) (.t 9) (.v (.bool false)), none, false⟩,
   ⟨some 2, .mv (.t 10), none, false⟩])
 .ret))⟩
/-- phalanx/phalanxref03.Near -/
def s28 : SFn := ⟨1, [.t 2],
 (.seq (.region false [⟨some 1, .box true 2 (.t 0), none, false⟩,
   ⟨some 2, .mv (.v (.bool false)), none, false⟩])
 (.seq (.region false [⟨some 3, .faddr 0 (.t 1), none, false⟩,
   ⟨some 4, .load none (.t 3), none, false⟩,
   ⟨some 5, .call 90 [(.t 4)], none, false⟩,
   ⟨some 6, .mv (.t 5), none, false⟩,
   ⟨some 7, .faddr 1 (.t 1), (some (6, true)), false⟩,
   ⟨some 8, .load none (.t 7), (some (6, true)), false⟩,
   ⟨some 9, .call 90 [(.t 8)], (some (6, true)), false⟩,
   ⟨some 10, .pick (.t 6) (.t 9) (.v (.bool false)), none, false⟩,
   ⟨some 2, .mv (.t 10), none, false⟩])
 .ret))⟩
/-- phalanx/cell.Dir -/
def s29 : SFn := ⟨2, [.t 4],
 (.seq (.region false [⟨some 2, .box true 2 (.t 0), none, false⟩,
   ⟨some 3, .box true 2 (.t 1), none, false⟩,
   ⟨some 4, .mv (.v (.int .i64 0)), none, false⟩])
 (.seq (.seq (.region false [⟨some 8, .mv (.v (.int .i64 0)), none, false⟩])
 (.block 0 (.loop (some [2, 3, 8])
  (.seq (.region false [⟨some 9, .bin .lss (.t 8) (.v (.int .i64 8)), none, false⟩])
  (.seq (.cond (.t 9)
   .skip
   (.exit 0))
  (.seq (.block 1 (.seq (.region false [⟨some 10, .mv (.t 8), none, false⟩,
    ⟨some 5, .mv (.t 10), none, false⟩])
  (.seq (.region false [⟨some 12, .load (some 2) (.t 2), none, false⟩,
    ⟨some 13, .mv (.t 5), none, false⟩,
    ⟨some 14, .call 24 [(.t 12), (.t 13)], none, false⟩,
    ⟨some 11, .mv (.t 14), none, false⟩,
    ⟨some 15, .ext (.t 11) 0, none, false⟩,
    ⟨some 16, .ext (.t 11) 1, none, false⟩,
    ⟨some 6, .alloc true [(.int .i64 0), (.int .i64 0)], none, false⟩,
    ⟨none, .store 2 [] (.t 6) (.t 15), none, false⟩,
    ⟨some 7, .mv (.t 16), none, false⟩])
  (.seq (.region false [⟨some 17, .mv (.t 7), none, false⟩,
    ⟨some 18, .mv (.t 17), none, false⟩,
    ⟨some 19, .load (some 2) (.t 6), (some (18, true)), false⟩,
    ⟨some 20, .load (some 2) (.t 3), (some (18, true)), false⟩,
    ⟨some 21, .eq false true [.int, .int] (.t 19) (.t 20), (some (18, true)), false⟩,
    ⟨some 22, .pick (.t 18) (.t 21) (.v (.bool false)), none, false⟩])
  (.cond (.t 22)
   (.seq (.region false [⟨some 23, .mv (.t 5), none, false⟩,
     ⟨some 4, .mv (.t 23), none, false⟩])
   .ret)
   .skip)))))
  (.region false [⟨some 24, .bin .add (.t 8) (.v (.int .i64 1)), none, false⟩,
    ⟨some 8, .mv (.t 24), none, false⟩])))))))
 (.seq (.region false [⟨some 4, .mv (.v (.int .i64 (-1))), none, false⟩])
 .ret)))⟩
/-- phalanx/phalanxref03.Dir -/
def s30 : SFn := ⟨2, [.t 4],
 (.seq (.region false [⟨some 2, .box true 2 (.t 0), none, false⟩,
   ⟨some 3, .box true 2 (.t 1), none, false⟩,
   ⟨some 4, .mv (.v (.int .i64 0)), none, false⟩])
 (.seq (.seq (.region false [⟨some 5, .mv (.v (.int .i64 0)), none, false⟩])
 (.block 0 (.loop (some [2, 3, 5])
  (.seq (.seq (.region false [⟨some 8, .mv (.t 5), none, false⟩,
    ⟨some 9, .bin .lss (.t 8) (.v (.int .i64 8)), none, false⟩])
  (.cond (.t 9)
   .skip
   (.exit 0)))
  (.seq (.block 1 (.seq (.region false [⟨some 13, .load (some 2) (.t 2), none, false⟩,
    ⟨some 14, .mv (.t 5), none, false⟩,
    ⟨some 15, .call 18 [(.t 13), (.t 14)], none, false⟩,
    ⟨some 12, .mv (.t 15), none, false⟩,
    ⟨some 16, .ext (.t 12) 0, none, false⟩,
    ⟨some 17, .ext (.t 12) 1, none, false⟩,
    ⟨some 6, .alloc true [(.int .i64 0), (.int .i64 0)], none, false⟩,
    ⟨none, .store 2 [] (.t 6) (.t 16), none, false⟩,
    ⟨some 7, .mv (.t 17), none, false⟩])
  (.seq (.region false [⟨some 18, .mv (.t 7), none, false⟩,
    ⟨some 19, .mv (.t 18), none, false⟩,
    ⟨some 20, .load (some 2) (.t 6), (some (19, true)), false⟩,
    ⟨some 21, .load (some 2) (.t 3), (some (19, true)), false⟩,
    ⟨some 22, .eq false true [.int, .int] (.t 20) (.t 21), (some (19, true)), false⟩,
    ⟨some 23, .pick (.t 19) (.t 22) (.v (.bool false)), none, false⟩])
  (.cond (.t 23)
   (.seq (.region false [⟨some 24, .mv (.t 5), none, false⟩,
     ⟨some 4, .mv (.t 24), none, false⟩])
   .ret)
   .skip))))
  (.region false [⟨some 10, .mv (.t 5), none, false⟩,
    ⟨some 11, .bin .add (.t 10) (.v (.int .i64 1)), none, false⟩,
    ⟨some 5, .mv (.t 11), none, false⟩]))))))
 (.seq (.region false [⟨some 4, .mv (.v (.int .i64 (-1))), none, false⟩])
 .ret)))⟩
/-- phalanx/cell.Back -/
def s31 : SFn := ⟨1, [.t 2],
 (.seq (.region false [⟨some 2, .mv (.v (.int .i64 0)), none, false⟩])
 (.seq (.seq (.region false [⟨some 3, .mv (.t 0), none, false⟩,
   ⟨some 4, .bin .lss (.t 3) (.v (.int .i64 0)), none, false⟩,
   ⟨some 5, .mv (.t 4), none, false⟩,
   ⟨some 6, .mv (.t 0), (some (5, false)), false⟩,
   ⟨some 7, .bin .geq (.t 6) (.v (.int .i64 8)), (some (5, false)), false⟩,
   ⟨some 8, .pick (.t 5) (.v (.bool true)) (.t 7), none, false⟩])
 (.cond (.t 8)
  (.seq (.region false [⟨some 2, .mv (.v (.int .i64 (-1))), none, false⟩])
  .ret)
  .skip))
 (.seq (.region false [⟨some 9, .mv (.t 0), none, false⟩,
   ⟨some 10, .bin .xor (.t 9) (.v (.int .i64 2)), none, false⟩,
   ⟨some 2, .mv (.t 10), none, false⟩])
 .ret)))⟩
/-- phalanx/phalanxref03.Back -/
def s32 : SFn := ⟨1, [.t 2],
 (.seq (.region false [⟨some 2, .mv (.v (.int .i64 0)), none, false⟩])
 (.seq (.seq (.region false [⟨some 3, .mv (.t 0), none, false⟩,
   ⟨some 4, .bin .lss (.t 3) (.v (.int .i64 0)), none, false⟩,
   ⟨some 5, .mv (.t 4), none, false⟩,
   ⟨some 6, .mv (.t 0), (some (5, false)), false⟩,
   ⟨some 7, .bin .geq (.t 6) (.v (.int .i64 8)), (some (5, false)), false⟩,
   ⟨some 8, .pick (.t 5) (.v (.bool true)) (.t 7), none, false⟩])
 (.cond (.t 8)
  (.seq (.region false [⟨some 2, .mv (.v (.int .i64 (-1))), none, false⟩])
  .ret)
  .skip))
 (.seq (.seq (.region false [⟨some 9, .mv (.t 0), none, false⟩,
   ⟨some 10, .bin .lss (.t 9) (.v (.int .i64 4)), none, false⟩])
 (.cond (.t 10)
  (.seq (.region false [⟨some 11, .mv (.t 0), none, false⟩,
    ⟨some 12, .bin .add (.t 11) (.v (.int .i64 2)), none, false⟩,
    ⟨some 13, .bin .rem (.t 12) (.v (.int .i64 4)), none, false⟩,
    ⟨some 2, .mv (.t 13), none, false⟩])
  .ret)
  .skip))
 (.seq (.region false [⟨some 14, .mv (.t 0), none, false⟩,
   ⟨some 15, .bin .sub (.t 14) (.v (.int .i64 4)), none, false⟩,
   ⟨some 16, .bin .add (.t 15) (.v (.int .i64 2)), none, false⟩,
   ⟨some 17, .bin .rem (.t 16) (.v (.int .i64 4)), none, false⟩,
   ⟨some 18, .bin .add (.v (.int .i64 4)) (.t 17), none, false⟩,
   ⟨some 2, .mv (.t 18), none, false⟩])
 .ret))))⟩
/-- phalanx/cell.Cost -/
def s33 : SFn := ⟨1, [.t 2],
 (.seq (.region false [⟨some 2, .mv (.v (.int .i64 0)), none, false⟩])
 (.seq (.block 0 (.seq (.region false [⟨some 4, .mv (.t 0), none, false⟩,
   ⟨some 5, .bin .lss (.t 4) (.v (.int .i64 0)), none, false⟩,
   ⟨some 6, .mv (.t 5), none, false⟩,
   ⟨some 7, .mv (.t 0), (some (6, false)), false⟩,
   ⟨some 8, .bin .geq (.t 7) (.v (.int .i64 8)), (some (6, false)), false⟩,
   ⟨some 9, .pick (.t 6) (.v (.bool true)) (.t 8), none, false⟩,
   ⟨some 3, .mv (.t 9), none, false⟩])
 (.cond (.t 3)
  (.seq (.region false [⟨some 2, .mv (.v (.int .i64 0)), none, false⟩])
  .ret)
  (.seq (.region false [⟨some 11, .mv (.t 0), none, false⟩,
    ⟨some 12, .bin .lss (.t 11) (.v (.int .i64 4)), none, false⟩,
    ⟨some 10, .mv (.t 12), none, false⟩])
  (.cond (.t 10)
   (.seq (.region false [⟨some 2, .mv (.v (.int .i64 10)), none, false⟩])
   .ret)
   .skip)))))
 (.seq (.region false [⟨some 2, .mv (.v (.int .i64 14)), none, false⟩])
 .ret)))⟩
/-- phalanx/phalanxref03.Cost -/
def s34 : SFn := ⟨1, [.t 2],
 (.seq (.region false [⟨some 2, .mv (.v (.int .i64 0)), none, false⟩])
 (.seq (.block 0 (.seq (.region false [⟨some 4, .mv (.t 0), none, false⟩,
   ⟨some 5, .bin .lss (.t 4) (.v (.int .i64 0)), none, false⟩,
   ⟨some 6, .mv (.t 5), none, false⟩,
   ⟨some 7, .mv (.t 0), (some (6, false)), false⟩,
   ⟨some 8, .bin .geq (.t 7) (.v (.int .i64 8)), (some (6, false)), false⟩,
   ⟨some 9, .pick (.t 6) (.v (.bool true)) (.t 8), none, false⟩,
   ⟨some 3, .mv (.t 9), none, false⟩])
 (.cond (.t 3)
  (.seq (.region false [⟨some 2, .mv (.v (.int .i64 0)), none, false⟩])
  .ret)
  (.seq (.region false [⟨some 11, .mv (.t 0), none, false⟩,
    ⟨some 12, .bin .lss (.t 11) (.v (.int .i64 4)), none, false⟩,
    ⟨some 10, .mv (.t 12), none, false⟩])
  (.cond (.t 10)
   (.seq (.region false [⟨some 2, .mv (.v (.int .i64 10)), none, false⟩])
   .ret)
   .skip)))))
 (.seq (.region false [⟨some 2, .mv (.v (.int .i64 14)), none, false⟩])
 .ret)))⟩
/-- phalanx/phalanxref03.Turn -/
def s76 : SFn := ⟨1, [.t 2, .t 3, .t 4],
 (.seq (.region false [⟨some 2, .mv (.v (.int .i64 0)), none, false⟩,
   ⟨some 3, .mv (.v (.int .i64 0)), none, false⟩,
   ⟨some 4, .mv (.v (.bool false)), none, false⟩])
 (.seq (.seq (.region false [⟨some 5, .mv (.t 0), none, false⟩])
 (.block 0 (.seq (.region false [⟨some 7, .bin .eql (.t 5) (.v (.int .i64 0)), none, false⟩,
   ⟨some 6, .mv (.t 7), none, false⟩])
 (.cond (.t 6)
  (.seq (.region false [⟨some 2, .mv (.v (.int .i64 1)), none, false⟩,
    ⟨some 3, .mv (.v (.int .i64 0)), none, false⟩,
    ⟨some 4, .mv (.v (.bool true)), none, false⟩])
  .ret)
  (.seq (.region false [⟨some 9, .bin .eql (.t 5) (.v (.int .i64 1)), none, false⟩,
    ⟨some 8, .mv (.t 9), none, false⟩])
  (.cond (.t 8)
   (.seq (.region false [⟨some 2, .mv (.v (.int .i64 0)), none, false⟩,
     ⟨some 3, .mv (.v (.int .i64 1)), none, false⟩,
     ⟨some 4, .mv (.v (.bool true)), none, false⟩])
   .ret)
   (.seq (.region false [⟨some 11, .bin .eql (.t 5) (.v (.int .i64 2)), none, false⟩,
     ⟨some 10, .mv (.t 11), none, false⟩])
   (.cond (.t 10)
    (.seq (.region false [⟨some 2, .mv (.v (.int .i64 (-1))), none, false⟩,
      ⟨some 3, .mv (.v (.int .i64 0)), none, false⟩,
      ⟨some 4, .mv (.v (.bool true)), none, false⟩])
    .ret)
    (.seq (.region false [⟨some 13, .bin .eql (.t 5) (.v (.int .i64 3)), none, false⟩,
      ⟨some 12, .mv (.t 13), none, false⟩])
    (.cond (.t 12)
     (.seq (.region false [⟨some 2, .mv (.v (.int .i64 0)), none, false⟩,
       ⟨some 3, .mv (.v (.int .i64 (-1))), none, false⟩,
       ⟨some 4, .mv (.v (.bool true)), none, false⟩])
     .ret)
     (.seq (.region false [⟨some 15, .bin .eql (.t 5) (.v (.int .i64 4)), none, false⟩,
       ⟨some 14, .mv (.t 15), none, false⟩])
     (.cond (.t 14)
      (.seq (.region false [⟨some 2, .mv (.v (.int .i64 1)), none, false⟩,
        ⟨some 3, .mv (.v (.int .i64 1)), none, false⟩,
        ⟨some 4, .mv (.v (.bool true)), none, false⟩])
      .ret)
      (.seq (.region false [⟨some 17, .bin .eql (.t 5) (.v (.int .i64 5)), none, false⟩,
        ⟨some 16, .mv (.t 17), none, false⟩])
      (.cond (.t 16)
       (.seq (.region false [⟨some 2, .mv (.v (.int .i64 (-1))), none, false⟩,
         ⟨some 3, .mv (.v (.int .i64 1)), none, false⟩,
         ⟨some 4, .mv (.v (.bool true)), none, false⟩])
       .ret)
       (.seq (.region false [⟨some 19, .bin .eql (.t 5) (.v (.int .i64 6)), none, false⟩,
         ⟨some 18, .mv (.t 19), none, false⟩])
       (.cond (.t 18)
        (.seq (.region false [⟨some 2, .mv (.v (.int .i64 (-1))), none, false⟩,
          ⟨some 3, .mv (.v (.int .i64 (-1))), none, false⟩,
          ⟨some 4, .mv (.v (.bool true)), none, false⟩])
        .ret)
        (.seq (.region false [⟨some 21, .bin .eql (.t 5) (.v (.int .i64 7)), none, false⟩,
          ⟨some 20, .mv (.t 21), none, false⟩])
        (.cond (.t 20)
         (.seq (.region false [⟨some 2, .mv (.v (.int .i64 1)), none, false⟩,
           ⟨some 3, .mv (.v (.int .i64 (-1))), none, false⟩,
           ⟨some 4, .mv (.v (.bool true)), none, false⟩])
         .ret)
         .skip))))))))))))))))))
 (.seq (.region false [⟨some 2, .mv (.v (.int .i64 0)), none, false⟩,
   ⟨some 3, .mv (.v (.int .i64 0)), none, false⟩,
   ⟨some 4, .mv (.v (.bool false)), none, false⟩])
 .ret)))⟩
/-- phalanx/cell.turn -/
def s87 : SFn := ⟨1, [.cell 2 (some 2)],
 (.seq (.region false [⟨some 2, .alloc true [(.int .i64 0), (.int .i64 0)], none, false⟩])
 (.seq (.seq (.region false [⟨some 3, .mv (.t 0), none, false⟩])
 (.block 0 (.seq (.region false [⟨some 5, .bin .eql (.t 3) (.v (.int .i64 0)), none, false⟩,
   ⟨some 4, .mv (.t 5), none, false⟩])
 (.cond (.t 4)
  (.seq (.region false [⟨some 6, .build [(.int .i64 0), (.int .i64 0)] [(0, 1, (.v (.int .i64 1)))], none, false⟩,
    ⟨none, .store 2 [] (.t 2) (.t 6), none, false⟩])
  .ret)
  (.seq (.region false [⟨some 8, .bin .eql (.t 3) (.v (.int .i64 1)), none, false⟩,
    ⟨some 7, .mv (.t 8), none, false⟩])
  (.cond (.t 7)
   (.seq (.region false [⟨some 9, .build [(.int .i64 0), (.int .i64 0)] [(1, 1, (.v (.int .i64 1)))], none, false⟩,
     ⟨none, .store 2 [] (.t 2) (.t 9), none, false⟩])
   .ret)
   (.seq (.region false [⟨some 11, .bin .eql (.t 3) (.v (.int .i64 2)), none, false⟩,
     ⟨some 10, .mv (.t 11), none, false⟩])
   (.cond (.t 10)
    (.seq (.region false [⟨some 12, .build [(.int .i64 0), (.int .i64 0)] [(0, 1, (.v (.int .i64 (-1))))], none, false⟩,
      ⟨none, .store 2 [] (.t 2) (.t 12), none, false⟩])
    .ret)
    (.seq (.region false [⟨some 14, .bin .eql (.t 3) (.v (.int .i64 3)), none, false⟩,
      ⟨some 13, .mv (.t 14), none, false⟩])
    (.cond (.t 13)
     (.seq (.region false [⟨some 15, .build [(.int .i64 0), (.int .i64 0)] [(1, 1, (.v (.int .i64 (-1))))], none, false⟩,
       ⟨none, .store 2 [] (.t 2) (.t 15), none, false⟩])
     .ret)
     (.seq (.region false [⟨some 17, .bin .eql (.t 3) (.v (.int .i64 4)), none, false⟩,
       ⟨some 16, .mv (.t 17), none, false⟩])
     (.cond (.t 16)
      (.seq (.region false [⟨some 18, .build [(.int .i64 0), (.int .i64 0)] [(0, 1, (.v (.int .i64 1))), (1, 1, (.v (.int .i64 1)))], none, false⟩,
        ⟨none, .store 2 [] (.t 2) (.t 18), none, false⟩])
      .ret)
      (.seq (.region false [⟨some 20, .bin .eql (.t 3) (.v (.int .i64 5)), none, false⟩,
        ⟨some 19, .mv (.t 20), none, false⟩])
      (.cond (.t 19)
       (.seq (.region false [⟨some 21, .build [(.int .i64 0), (.int .i64 0)] [(0, 1, (.v (.int .i64 (-1)))), (1, 1, (.v (.int .i64 1)))], none, false⟩,
         ⟨none, .store 2 [] (.t 2) (.t 21), none, false⟩])
       .ret)
       (.seq (.region false [⟨some 23, .bin .eql (.t 3) (.v (.int .i64 6)), none, false⟩,
         ⟨some 22, .mv (.t 23), none, false⟩])
       (.cond (.t 22)
        (.seq (.region false [⟨some 24, .build [(.int .i64 0), (.int .i64 0)] [(0, 1, (.v (.int .i64 (-1)))), (1, 1, (.v (.int .i64 (-1))))], none, false⟩,
          ⟨none, .store 2 [] (.t 2) (.t 24), none, false⟩])
        .ret)
        (.seq (.region false [⟨some 26, .bin .eql (.t 3) (.v (.int .i64 7)), none, false⟩,
          ⟨some 25, .mv (.t 26), none, false⟩])
        (.cond (.t 25)
         (.seq (.region false [⟨some 27, .build [(.int .i64 0), (.int .i64 0)] [(0, 1, (.v (.int .i64 1))), (1, 1, (.v (.int .i64 (-1))))], none, false⟩,
           ⟨none, .store 2 [] (.t 2) (.t 27), none, false⟩])
         .ret)
         .skip))))))))))))))))))
 (.seq (.region false [⟨some 28, .build [(.int .i64 0), (.int .i64 0)] [], none, false⟩,
   ⟨none, .store 2 [] (.t 2) (.t 28), none, false⟩])
 .ret)))⟩
/-- phalanx/cell.plus -/
def s88 : SFn := ⟨2, [.cell 4 (some 2)],
 (.seq (.region false [⟨some 2, .box true 2 (.t 0), none, false⟩,
   ⟨some 3, .box true 2 (.t 1), none, false⟩,
   ⟨some 4, .alloc true [(.int .i64 0), (.int .i64 0)], none, false⟩])
 (.seq (.region false [⟨some 5, .faddr 0 (.t 2), none, false⟩,
   ⟨some 6, .load none (.t 5), none, false⟩,
   ⟨some 7, .faddr 0 (.t 3), none, false⟩,
   ⟨some 8, .load none (.t 7), none, false⟩,
   ⟨some 9, .bin .add (.t 6) (.t 8), none, false⟩,
   ⟨some 10, .faddr 1 (.t 2), none, false⟩,
   ⟨some 11, .load none (.t 10), none, false⟩,
   ⟨some 12, .faddr 1 (.t 3), none, false⟩,
   ⟨some 13, .load none (.t 12), none, false⟩,
   ⟨some 14, .bin .add (.t 11) (.t 13), none, false⟩,
   ⟨some 15, .build [(.int .i64 0), (.int .i64 0)] [(0, 1, (.t 9)), (1, 1, (.t 14))], none, false⟩,
   ⟨none, .store 2 [] (.t 4) (.t 15), none, false⟩])
 .ret))⟩
/-- phalanx/cell.near -/
def s89 : SFn := ⟨1, [.t 2],
 (.seq (.region false [⟨some 2, .mv (.v (.bool false)), none, false⟩])
 (.seq (.region false [⟨some 3, .mv (.t 0), none, false⟩,
   ⟨some 4, .bin .geq (.t 3) (.v (.int .i64 (-1048576))), none, false⟩,
   ⟨some 5, .mv (.t 4), none, false⟩,
   ⟨some 6, .mv (.t 0), (some (5, true)), false⟩,
   ⟨some 7, .bin .leq (.t 6) (.v (.int .i64 1048576)), (some (5, true)), false⟩,
   ⟨some 8, .pick (.t 5) (.t 7) (.v (.bool false)), none, false⟩,
   ⟨some 2, .mv (.t 8), none, false⟩])
 .ret))⟩
/-- phalanx/phalanxref03.near -/
def s90 : SFn := ⟨1, [.t 2],
 (.seq (.region false [⟨some 2, .mv (.v (.bool false)), none, false⟩])
 (.seq (.region false [⟨some 3, .mv (.t 0), none, false⟩,
   ⟨some 4, .bin .geq (.t 3) (.v (.int .i64 (-1048576))), none, false⟩,
   ⟨some 5, .mv (.t 4), none, false⟩,
   ⟨some 6, .mv (.t 0), (some (5, true)), false⟩,
   ⟨some 7, .bin .leq (.t 6) (.v (.int .i64 1048576)), (some (5, true)), false⟩,
   ⟨some 8, .pick (.t 5) (.t 7) (.v (.bool false)), none, false⟩,
   ⟨some 2, .mv (.t 8), none, false⟩])
 .ret))⟩
def tb : Tbl := fun f => match f with
  | 6 => some s6
  | 16 => some s16
  | 18 => some s18
  | 24 => some s24
  | 25 => some s25
  | 26 => some s26
  | 27 => some s27
  | 28 => some s28
  | 29 => some s29
  | 30 => some s30
  | 31 => some s31
  | 32 => some s32
  | 33 => some s33
  | 34 => some s34
  | 76 => some s76
  | 87 => some s87
  | 88 => some s88
  | 89 => some s89
  | 90 => some s90
  | _ => none
end Go.Sh.T
