import Derived.Test.YtjhiccoooaleoaaShIter
set_option linter.all false
set_option linter.unusedVariables false
set_option linter.unusedSimpArgs false
set_option autoImplicit false
set_option linter.all false
set_option maxRecDepth 4096
namespace Go.Sh.T
open Go.Sh
def f_law03_CellGoes : FuncId := 3
def f_law03_CellAround : FuncId := 4
def f_law03_CellSteps : FuncId := 6
def f_law03_CellRects : FuncId := 7
def f_law03_CellBack : FuncId := 12
def f_cell_Cells : FuncId := 14
def f_ref03_May : FuncId := 15
def f_law03_awake : FuncId := 16
def f_cell_Around : FuncId := 17
def f_ref03_Step : FuncId := 18
def f_ref03_Has : FuncId := 19
def f_fixed_Octile : FuncId := 20
def f_cell_Step : FuncId := 24
def f_cell_Sides : FuncId := 25
def f_ref03_Sides : FuncId := 26
def f_cell_Near : FuncId := 27
def f_ref03_Near : FuncId := 28
def f_cell_Dir : FuncId := 29
def f_ref03_Dir : FuncId := 30
def f_cell_Back : FuncId := 31
def f_ref03_Back : FuncId := 32
def f_cell_Cost : FuncId := 33
def f_ref03_Cost : FuncId := 34
def f_cell_Meet : FuncId := 35
def f_ref03_Meet : FuncId := 36
def f_cell_Hull : FuncId := 37
def f_ref03_Hull : FuncId := 38
def f_cell_May : FuncId := 39
def f_cell_Has : FuncId := 40
def f_cell_Within : FuncId := 41
def f_ref03_Within : FuncId := 42
def f_cell_Apart : FuncId := 59
def f_cell_Octile : FuncId := 61
def f_cell_Cells_1 : FuncId := 73
def f_ref03_Last : FuncId := 74
def f_cell_Around_1 : FuncId := 75
def f_ref03_Turn : FuncId := 76
def f_fixed_amount : FuncId := 77
def f_math_bits_Mul64 : FuncId := 78
def f_fixed_signed : FuncId := 80
def f_cell_turn : FuncId := 87
def f_cell_plus : FuncId := 88
def f_cell_near : FuncId := 89
def f_ref03_near : FuncId := 90
def f_cell_last : FuncId := 91
def f_cell_between : FuncId := 92
def f_cell_side : FuncId := 93
def f_cell_amount : FuncId := 96
def s_cell_near_p0 : SCode := (.region false [⟨some 3, .mv (.t 0), none, false⟩,
  ⟨some 4, .bin .geq (.t 3) (.v (.int .i64 (-1048576))), none, false⟩,
  ⟨some 5, .mv (.t 4), none, false⟩,
  ⟨some 6, .mv (.t 0), (some (5, true)), false⟩,
  ⟨some 7, .bin .leq (.t 6) (.v (.int .i64 1048576)), (some (5, true)), false⟩,
  ⟨some 8, .pick (.t 5) (.t 7) (.v (.bool false)), none, false⟩,
  ⟨some 2, .mv (.t 8), none, false⟩])
def s_cell_near : SFn := ⟨1, [.t 2], (.seq (.region false [⟨some 2, .mv (.v (.bool false)), none, false⟩]) (.seq (.kp [2] s_cell_near_p0) .ret))⟩
def s_cell_Near_p0 : SCode := (.region false [⟨some 3, .faddr 0 (.t 1), none, false⟩,
  ⟨some 4, .load none (.t 3), none, false⟩,
  ⟨some 5, .call f_cell_near [(.t 4)], none, false⟩,
  ⟨some 6, .mv (.t 5), none, false⟩,
  ⟨some 7, .faddr 1 (.t 1), (some (6, true)), false⟩,
  ⟨some 8, .load none (.t 7), (some (6, true)), false⟩,
  ⟨some 9, .call f_cell_near [(.t 8)], (some (6, true)), false⟩,
  ⟨some 10, .pick (.t 6) (.t 9) (.v (.bool false)), none, false⟩,
  ⟨some 2, .mv (.t 10), none, false⟩])
def s_cell_Near : SFn := ⟨1, [.t 2], (.seq (.region false [⟨some 1, .box true 2 (.t 0), none, false⟩,
  ⟨some 2, .mv (.v (.bool false)), none, false⟩]) (.seq (.kp [2] s_cell_Near_p0) .ret))⟩
def s_cell_last_p0 : SCode := (.region false [⟨some 3, .faddr 0 (.t 1), none, false⟩,
  ⟨some 4, .faddr 0 (.t 3), none, false⟩,
  ⟨some 5, .load none (.t 4), none, false⟩,
  ⟨some 6, .faddr 2 (.t 1), none, false⟩,
  ⟨some 7, .load none (.t 6), none, false⟩,
  ⟨some 8, .bin .add (.t 5) (.t 7), none, false⟩,
  ⟨some 9, .bin .sub (.t 8) (.v (.int .i64 1)), none, false⟩,
  ⟨some 10, .faddr 0 (.t 1), none, false⟩,
  ⟨some 11, .faddr 1 (.t 10), none, false⟩,
  ⟨some 12, .load none (.t 11), none, false⟩,
  ⟨some 13, .faddr 3 (.t 1), none, false⟩,
  ⟨some 14, .load none (.t 13), none, false⟩,
  ⟨some 15, .bin .add (.t 12) (.t 14), none, false⟩,
  ⟨some 16, .bin .sub (.t 15) (.v (.int .i64 1)), none, false⟩,
  ⟨some 17, .build [(.int .i64 0), (.int .i64 0)] [(0, 1, (.t 9)), (1, 1, (.t 16))], none, false⟩,
  ⟨none, .store 2 [] (.t 2) (.t 17), none, false⟩])
def s_cell_last : SFn := ⟨1, [.cell 2 (some 2)], (.seq (.region false [⟨some 1, .box true 4 (.t 0), none, false⟩,
  ⟨some 2, .alloc true [(.int .i64 0), (.int .i64 0)], none, false⟩]) (.seq (.kp [2] s_cell_last_p0) .ret))⟩
def s_cell_side_p0 : SCode := (.region false [⟨some 3, .mv (.t 0), none, false⟩,
  ⟨some 4, .bin .geq (.t 3) (.v (.int .i64 1)), none, false⟩,
  ⟨some 5, .mv (.t 4), none, false⟩,
  ⟨some 6, .mv (.t 0), (some (5, true)), false⟩,
  ⟨some 7, .bin .leq (.t 6) (.v (.int .i64 1048576)), (some (5, true)), false⟩,
  ⟨some 8, .pick (.t 5) (.t 7) (.v (.bool false)), none, false⟩,
  ⟨some 2, .mv (.t 8), none, false⟩])
def s_cell_side : SFn := ⟨1, [.t 2], (.seq (.region false [⟨some 2, .mv (.v (.bool false)), none, false⟩]) (.seq (.kp [2] s_cell_side_p0) .ret))⟩
def s_cell_May_p0 : SCode := (.region false [⟨some 3, .faddr 0 (.t 1), none, false⟩,
  ⟨some 4, .load (some 2) (.t 3), none, false⟩,
  ⟨some 5, .call f_cell_Near [(.t 4)], none, false⟩,
  ⟨some 6, .mv (.t 5), none, false⟩,
  ⟨some 7, .faddr 2 (.t 1), (some (6, true)), false⟩,
  ⟨some 8, .load none (.t 7), (some (6, true)), false⟩,
  ⟨some 9, .call f_cell_side [(.t 8)], (some (6, true)), false⟩,
  ⟨some 10, .pick (.t 6) (.t 9) (.v (.bool false)), none, false⟩,
  ⟨some 11, .mv (.t 10), none, false⟩,
  ⟨some 12, .faddr 3 (.t 1), (some (11, true)), false⟩,
  ⟨some 13, .load none (.t 12), (some (11, true)), false⟩,
  ⟨some 14, .call f_cell_side [(.t 13)], (some (11, true)), false⟩,
  ⟨some 15, .pick (.t 11) (.t 14) (.v (.bool false)), none, false⟩,
  ⟨some 16, .mv (.t 15), none, false⟩,
  ⟨some 17, .load (some 4) (.t 1), (some (16, true)), false⟩,
  ⟨some 18, .call f_cell_last [(.t 17)], (some (16, true)), false⟩,
  ⟨some 19, .call f_cell_Near [(.t 18)], (some (16, true)), false⟩,
  ⟨some 20, .pick (.t 16) (.t 19) (.v (.bool false)), none, false⟩,
  ⟨some 2, .mv (.t 20), none, false⟩])
def s_cell_May : SFn := ⟨1, [.t 2], (.seq (.region false [⟨some 1, .box true 4 (.t 0), none, false⟩,
  ⟨some 2, .mv (.v (.bool false)), none, false⟩]) (.seq (.kp [2] s_cell_May_p0) .ret))⟩
def s_cell_Cells_1_p0 : SCode := (.seq (.region false [⟨some 5, .load (some 4) (.t 1), none, false⟩,
  ⟨some 6, .call f_cell_May [(.t 5)], none, false⟩,
  ⟨some 7, .un .not (.t 6), none, false⟩]) (.cond (.t 7) .ret .skip))
def s_cell_Cells_1_p1 : SCode := (.kp [0, 1, 3, 9, 10, 14, 15] (.region false [⟨some 13, .faddr 2 (.t 1), none, false⟩,
  ⟨some 14, .load none (.t 13), none, false⟩,
  ⟨some 15, .mv (.v (.int .i64 0)), none, false⟩]))
def s_cell_Cells_1_p2 : SCode := (.region false [⟨some 18, .mv (.t 0), none, false⟩,
  ⟨some 19, .faddr 0 (.t 1), none, false⟩,
  ⟨some 20, .faddr 0 (.t 19), none, false⟩,
  ⟨some 21, .load none (.t 20), none, false⟩,
  ⟨some 22, .mv (.t 4), none, false⟩,
  ⟨some 23, .bin .add (.t 21) (.t 22), none, false⟩,
  ⟨some 24, .faddr 0 (.t 1), none, false⟩,
  ⟨some 25, .faddr 1 (.t 24), none, false⟩,
  ⟨some 26, .load none (.t 25), none, false⟩,
  ⟨some 27, .mv (.t 3), none, false⟩,
  ⟨some 28, .bin .add (.t 26) (.t 27), none, false⟩,
  ⟨some 29, .build [(.int .i64 0), (.int .i64 0)] [(0, 1, (.t 23)), (1, 1, (.t 28))], none, false⟩,
  ⟨some 30, .callv (.t 18) [(.t 29)], none, false⟩,
  ⟨some 31, .un .not (.t 30), none, false⟩])
def s_cell_Cells_1_p3 : SCode := (.block 3 (.seq (.region false [⟨some 17, .mv (.t 15), none, false⟩,
  ⟨some 4, .mv (.t 17), none, false⟩]) (.seq (.kp [0, 1, 3, 9, 10, 14, 15, 31] s_cell_Cells_1_p2) (.cond (.t 31) .ret .skip))))
def s_cell_Cells_1_p4 : SCode := (.seq (.kp [0, 1, 3, 9, 10, 14, 15] (.cond (.t 16) .skip (.exit 2))) (.seq (.kp [0, 1, 3, 9, 10, 14, 15] s_cell_Cells_1_p3) (.region false [⟨some 32, .bin .add (.t 15) (.v (.int .i64 1)), none, false⟩,
  ⟨some 15, .mv (.t 32), none, false⟩])))
def s_cell_Cells_1_p5 : SCode := (.seq (.region false [⟨some 16, .bin .lss (.t 15) (.t 14), none, false⟩]) s_cell_Cells_1_p4)
def s_cell_Cells_1_p6 : SCode := (.block 1 (.seq (.region false [⟨some 12, .mv (.t 10), none, false⟩,
  ⟨some 3, .mv (.t 12), none, false⟩]) (.seq s_cell_Cells_1_p1 (.block 2 (.loop (some [0, 1, 3, 9, 10, 14, 15]) s_cell_Cells_1_p5)))))
def s_cell_Cells_1_p7 : SCode := (.seq (.kp [0, 1, 9, 10] (.cond (.t 11) .skip (.exit 0))) (.seq (.kp [0, 1, 9, 10] s_cell_Cells_1_p6) (.region false [⟨some 33, .bin .add (.t 10) (.v (.int .i64 1)), none, false⟩,
  ⟨some 10, .mv (.t 33), none, false⟩])))
def s_cell_Cells_1_p8 : SCode := (.seq (.region false [⟨some 11, .bin .lss (.t 10) (.t 9), none, false⟩]) s_cell_Cells_1_p7)
def s_cell_Cells_1_p9 : SCode := (.seq (.kp [0, 1, 9, 10] (.region false [⟨some 8, .faddr 3 (.t 1), none, false⟩,
  ⟨some 9, .load none (.t 8), none, false⟩,
  ⟨some 10, .mv (.v (.int .i64 0)), none, false⟩])) (.block 0 (.loop (some [0, 1, 9, 10]) s_cell_Cells_1_p8)))
def s_cell_Cells_1 : SFn := ⟨2, [], (.seq (.kp [0, 1] s_cell_Cells_1_p0) s_cell_Cells_1_p9)⟩
def s_cell_Cells_p0 : SCode := (.seq (.region false [⟨some 1, .box false 4 (.t 0), none, false⟩,
  ⟨some 2, .mv (.v .nilf), none, false⟩]) (.seq (.region false [⟨some 3, .mkfn f_cell_Cells_1 [] [(.t 1)], none, false⟩,
  ⟨some 2, .mv (.t 3), none, false⟩]) .ret))
def s_cell_Cells : SFn := ⟨1, [.t 2], s_cell_Cells_p0⟩
def s_ref03_near_p0 : SCode := (.region false [⟨some 3, .mv (.t 0), none, false⟩,
  ⟨some 4, .bin .geq (.t 3) (.v (.int .i64 (-1048576))), none, false⟩,
  ⟨some 5, .mv (.t 4), none, false⟩,
  ⟨some 6, .mv (.t 0), (some (5, true)), false⟩,
  ⟨some 7, .bin .leq (.t 6) (.v (.int .i64 1048576)), (some (5, true)), false⟩,
  ⟨some 8, .pick (.t 5) (.t 7) (.v (.bool false)), none, false⟩,
  ⟨some 2, .mv (.t 8), none, false⟩])
def s_ref03_near : SFn := ⟨1, [.t 2], (.seq (.region false [⟨some 2, .mv (.v (.bool false)), none, false⟩]) (.seq (.kp [2] s_ref03_near_p0) .ret))⟩
def s_ref03_Near_p0 : SCode := (.region false [⟨some 3, .faddr 0 (.t 1), none, false⟩,
  ⟨some 4, .load none (.t 3), none, false⟩,
  ⟨some 5, .call f_ref03_near [(.t 4)], none, false⟩,
  ⟨some 6, .mv (.t 5), none, false⟩,
  ⟨some 7, .faddr 1 (.t 1), (some (6, true)), false⟩,
  ⟨some 8, .load none (.t 7), (some (6, true)), false⟩,
  ⟨some 9, .call f_ref03_near [(.t 8)], (some (6, true)), false⟩,
  ⟨some 10, .pick (.t 6) (.t 9) (.v (.bool false)), none, false⟩,
  ⟨some 2, .mv (.t 10), none, false⟩])
def s_ref03_Near : SFn := ⟨1, [.t 2], (.seq (.region false [⟨some 1, .box true 2 (.t 0), none, false⟩,
  ⟨some 2, .mv (.v (.bool false)), none, false⟩]) (.seq (.kp [2] s_ref03_Near_p0) .ret))⟩
def s_ref03_Last_p0 : SCode := (.region false [⟨some 3, .faddr 0 (.t 1), none, false⟩,
  ⟨some 4, .faddr 0 (.t 3), none, false⟩,
  ⟨some 5, .load none (.t 4), none, false⟩,
  ⟨some 6, .faddr 2 (.t 1), none, false⟩,
  ⟨some 7, .load none (.t 6), none, false⟩,
  ⟨some 8, .bin .add (.t 5) (.t 7), none, false⟩,
  ⟨some 9, .bin .sub (.t 8) (.v (.int .i64 1)), none, false⟩,
  ⟨some 10, .faddr 0 (.t 1), none, false⟩,
  ⟨some 11, .faddr 1 (.t 10), none, false⟩,
  ⟨some 12, .load none (.t 11), none, false⟩,
  ⟨some 13, .faddr 3 (.t 1), none, false⟩,
  ⟨some 14, .load none (.t 13), none, false⟩,
  ⟨some 15, .bin .add (.t 12) (.t 14), none, false⟩,
  ⟨some 16, .bin .sub (.t 15) (.v (.int .i64 1)), none, false⟩,
  ⟨some 17, .build [(.int .i64 0), (.int .i64 0)] [(0, 1, (.t 9)), (1, 1, (.t 16))], none, false⟩,
  ⟨none, .store 2 [] (.t 2) (.t 17), none, false⟩])
def s_ref03_Last : SFn := ⟨1, [.cell 2 (some 2)], (.seq (.region false [⟨some 1, .box true 4 (.t 0), none, false⟩,
  ⟨some 2, .alloc true [(.int .i64 0), (.int .i64 0)], none, false⟩]) (.seq (.kp [2] s_ref03_Last_p0) .ret))⟩
def s_ref03_May_p0 : SCode := (.region false [⟨some 3, .faddr 0 (.t 1), none, false⟩,
  ⟨some 4, .load (some 2) (.t 3), none, false⟩,
  ⟨some 5, .call f_ref03_Near [(.t 4)], none, false⟩,
  ⟨some 6, .mv (.t 5), none, false⟩,
  ⟨some 7, .faddr 2 (.t 1), (some (6, true)), false⟩,
  ⟨some 8, .load none (.t 7), (some (6, true)), false⟩,
  ⟨some 9, .bin .geq (.t 8) (.v (.int .i64 1)), (some (6, true)), false⟩,
  ⟨some 10, .pick (.t 6) (.t 9) (.v (.bool false)), none, false⟩,
  ⟨some 11, .mv (.t 10), none, false⟩,
  ⟨some 12, .faddr 2 (.t 1), (some (11, true)), false⟩,
  ⟨some 13, .load none (.t 12), (some (11, true)), false⟩,
  ⟨some 14, .bin .leq (.t 13) (.v (.int .i64 1048576)), (some (11, true)), false⟩,
  ⟨some 15, .pick (.t 11) (.t 14) (.v (.bool false)), none, false⟩,
  ⟨some 16, .mv (.t 15), none, false⟩,
  ⟨some 17, .faddr 3 (.t 1), (some (16, true)), false⟩,
  ⟨some 18, .load none (.t 17), (some (16, true)), false⟩,
  ⟨some 19, .bin .geq (.t 18) (.v (.int .i64 1)), (some (16, true)), false⟩,
  ⟨some 20, .pick (.t 16) (.t 19) (.v (.bool false)), none, false⟩,
  ⟨some 21, .mv (.t 20), none, false⟩,
  ⟨some 22, .faddr 3 (.t 1), (some (21, true)), false⟩,
  ⟨some 23, .load none (.t 22), (some (21, true)), false⟩,
  ⟨some 24, .bin .leq (.t 23) (.v (.int .i64 1048576)), (some (21, true)), false⟩,
  ⟨some 25, .pick (.t 21) (.t 24) (.v (.bool false)), none, false⟩,
  ⟨some 26, .mv (.t 25), none, false⟩,
  ⟨some 27, .load (some 4) (.t 1), (some (26, true)), false⟩,
  ⟨some 28, .call f_ref03_Last [(.t 27)], (some (26, true)), false⟩,
  ⟨some 29, .call f_ref03_Near [(.t 28)], (some (26, true)), false⟩,
  ⟨some 30, .pick (.t 26) (.t 29) (.v (.bool false)), none, false⟩,
  ⟨some 2, .mv (.t 30), none, false⟩])
def s_ref03_May : SFn := ⟨1, [.t 2], (.seq (.region false [⟨some 1, .box true 4 (.t 0), none, false⟩,
  ⟨some 2, .mv (.v (.bool false)), none, false⟩]) (.seq (.kp [2] s_ref03_May_p0) .ret))⟩
def s_cell_turn_p0 : SCode := (.region false [⟨some 18, .build [(.int .i64 0), (.int .i64 0)] [(0, 1, (.v (.int .i64 1))), (1, 1, (.v (.int .i64 1)))], none, false⟩,
  ⟨none, .store 2 [] (.t 2) (.t 18), none, false⟩])
def s_cell_turn_p1 : SCode := (.region false [⟨some 21, .build [(.int .i64 0), (.int .i64 0)] [(0, 1, (.v (.int .i64 (-1)))), (1, 1, (.v (.int .i64 1)))], none, false⟩,
  ⟨none, .store 2 [] (.t 2) (.t 21), none, false⟩])
def s_cell_turn_p2 : SCode := (.region false [⟨some 24, .build [(.int .i64 0), (.int .i64 0)] [(0, 1, (.v (.int .i64 (-1)))), (1, 1, (.v (.int .i64 (-1))))], none, false⟩,
  ⟨none, .store 2 [] (.t 2) (.t 24), none, false⟩])
def s_cell_turn_p3 : SCode := (.region false [⟨some 27, .build [(.int .i64 0), (.int .i64 0)] [(0, 1, (.v (.int .i64 1))), (1, 1, (.v (.int .i64 (-1))))], none, false⟩,
  ⟨none, .store 2 [] (.t 2) (.t 27), none, false⟩])
def s_cell_turn_p4 : SCode := (.cond (.t 22) (.seq s_cell_turn_p2 .ret) (.seq (.region false [⟨some 26, .bin .eql (.t 3) (.v (.int .i64 7)), none, false⟩,
  ⟨some 25, .mv (.t 26), none, false⟩]) (.cond (.t 25) (.seq s_cell_turn_p3 .ret) .skip)))
def s_cell_turn_p5 : SCode := (.seq (.region false [⟨some 20, .bin .eql (.t 3) (.v (.int .i64 5)), none, false⟩,
  ⟨some 19, .mv (.t 20), none, false⟩]) (.cond (.t 19) (.seq s_cell_turn_p1 .ret) (.seq (.region false [⟨some 23, .bin .eql (.t 3) (.v (.int .i64 6)), none, false⟩,
  ⟨some 22, .mv (.t 23), none, false⟩]) s_cell_turn_p4)))
def s_cell_turn_p6 : SCode := (.cond (.t 13) (.seq (.region false [⟨some 15, .build [(.int .i64 0), (.int .i64 0)] [(1, 1, (.v (.int .i64 (-1))))], none, false⟩,
  ⟨none, .store 2 [] (.t 2) (.t 15), none, false⟩]) .ret) (.seq (.region false [⟨some 17, .bin .eql (.t 3) (.v (.int .i64 4)), none, false⟩,
  ⟨some 16, .mv (.t 17), none, false⟩]) (.cond (.t 16) (.seq s_cell_turn_p0 .ret) s_cell_turn_p5)))
def s_cell_turn_p7 : SCode := (.cond (.t 10) (.seq (.region false [⟨some 12, .build [(.int .i64 0), (.int .i64 0)] [(0, 1, (.v (.int .i64 (-1))))], none, false⟩,
  ⟨none, .store 2 [] (.t 2) (.t 12), none, false⟩]) .ret) (.seq (.region false [⟨some 14, .bin .eql (.t 3) (.v (.int .i64 3)), none, false⟩,
  ⟨some 13, .mv (.t 14), none, false⟩]) s_cell_turn_p6))
def s_cell_turn_p8 : SCode := (.cond (.t 7) (.seq (.region false [⟨some 9, .build [(.int .i64 0), (.int .i64 0)] [(1, 1, (.v (.int .i64 1)))], none, false⟩,
  ⟨none, .store 2 [] (.t 2) (.t 9), none, false⟩]) .ret) (.seq (.region false [⟨some 11, .bin .eql (.t 3) (.v (.int .i64 2)), none, false⟩,
  ⟨some 10, .mv (.t 11), none, false⟩]) s_cell_turn_p7))
def s_cell_turn_p9 : SCode := (.cond (.t 4) (.seq (.region false [⟨some 6, .build [(.int .i64 0), (.int .i64 0)] [(0, 1, (.v (.int .i64 1)))], none, false⟩,
  ⟨none, .store 2 [] (.t 2) (.t 6), none, false⟩]) .ret) (.seq (.region false [⟨some 8, .bin .eql (.t 3) (.v (.int .i64 1)), none, false⟩,
  ⟨some 7, .mv (.t 8), none, false⟩]) s_cell_turn_p8))
def s_cell_turn_p10 : SCode := (.seq (.region false [⟨some 3, .mv (.t 0), none, false⟩]) (.block 0 (.seq (.region false [⟨some 5, .bin .eql (.t 3) (.v (.int .i64 0)), none, false⟩,
  ⟨some 4, .mv (.t 5), none, false⟩]) s_cell_turn_p9)))
def s_cell_turn_p11 : SCode := (.seq (.region false [⟨some 2, .alloc true [(.int .i64 0), (.int .i64 0)], none, false⟩]) (.seq (.kp [2] s_cell_turn_p10) (.seq (.region false [⟨some 28, .build [(.int .i64 0), (.int .i64 0)] [], none, false⟩,
  ⟨none, .store 2 [] (.t 2) (.t 28), none, false⟩]) .ret)))
def s_cell_turn : SFn := ⟨1, [.cell 2 (some 2)], s_cell_turn_p11⟩
def s_cell_plus_p0 : SCode := (.region false [⟨some 5, .faddr 0 (.t 2), none, false⟩,
  ⟨some 6, .load none (.t 5), none, false⟩,
  ⟨some 7, .faddr 0 (.t 3), none, false⟩,
  ⟨some 8, .load none (.t 7), none, false⟩,
  ⟨some 9, .bin .add (.t 6) (.t 8), none, false⟩,
  ⟨some 10, .faddr 1 (.t 2), none, false⟩,
  ⟨some 11, .load none (.t 10), none, false⟩,
  ⟨some 12, .faddr 1 (.t 3), none, false⟩,
  ⟨some 13, .load none (.t 12), none, false⟩,
  ⟨some 14, .bin .add (.t 11) (.t 13), none, false⟩,
  ⟨some 15, .build [(.int .i64 0), (.int .i64 0)] [(0, 1, (.t 9)), (1, 1, (.t 14))], none, false⟩,
  ⟨none, .store 2 [] (.t 4) (.t 15), none, false⟩])
def s_cell_plus_p1 : SCode := (.seq (.region false [⟨some 2, .box true 2 (.t 0), none, false⟩,
  ⟨some 3, .box true 2 (.t 1), none, false⟩,
  ⟨some 4, .alloc true [(.int .i64 0), (.int .i64 0)], none, false⟩]) (.seq (.kp [4] s_cell_plus_p0) .ret))
def s_cell_plus : SFn := ⟨2, [.cell 4 (some 2)], s_cell_plus_p1⟩
def s_cell_Step_p0 : SCode := (.region false [⟨some 7, .mv (.t 1), none, false⟩,
  ⟨some 8, .call f_cell_turn [(.t 7)], none, false⟩,
  ⟨some 6, .alloc true [(.int .i64 0), (.int .i64 0)], none, false⟩,
  ⟨none, .store 2 [] (.t 6) (.t 8), none, false⟩])
def s_cell_Step_p1 : SCode := (.region false [⟨some 9, .load (some 2) (.t 6), none, false⟩,
  ⟨some 10, .build [(.int .i64 0), (.int .i64 0)] [], none, false⟩,
  ⟨some 11, .eq false true [.int, .int] (.t 9) (.t 10), none, false⟩,
  ⟨some 12, .mv (.t 11), none, false⟩,
  ⟨some 13, .load (some 2) (.t 2), (some (12, false)), false⟩,
  ⟨some 14, .call f_cell_Near [(.t 13)], (some (12, false)), false⟩,
  ⟨some 15, .un .not (.t 14), (some (12, false)), false⟩,
  ⟨some 16, .pick (.t 12) (.v (.bool true)) (.t 15), none, false⟩,
  ⟨some 17, .mv (.t 16), none, false⟩,
  ⟨some 18, .load (some 2) (.t 2), (some (17, false)), false⟩,
  ⟨some 19, .load (some 2) (.t 6), (some (17, false)), false⟩,
  ⟨some 20, .call f_cell_plus [(.t 18), (.t 19)], (some (17, false)), false⟩,
  ⟨some 21, .call f_cell_Near [(.t 20)], (some (17, false)), false⟩,
  ⟨some 22, .un .not (.t 21), (some (17, false)), false⟩,
  ⟨some 23, .pick (.t 17) (.v (.bool true)) (.t 22), none, false⟩])
def s_cell_Step_p2 : SCode := (.region false [⟨some 24, .build [(.int .i64 0), (.int .i64 0)] [], none, false⟩,
  ⟨none, .store 2 [] (.t 4) (.t 24), none, false⟩,
  ⟨some 5, .mv (.v (.bool false)), none, false⟩])
def s_cell_Step_p3 : SCode := (.region false [⟨some 25, .load (some 2) (.t 2), none, false⟩,
  ⟨some 26, .load (some 2) (.t 6), none, false⟩,
  ⟨some 27, .call f_cell_plus [(.t 25), (.t 26)], none, false⟩,
  ⟨none, .store 2 [] (.t 4) (.t 27), none, false⟩,
  ⟨some 5, .mv (.v (.bool true)), none, false⟩])
def s_cell_Step_p4 : SCode := (.seq (.region false [⟨some 2, .box true 2 (.t 0), none, false⟩,
  ⟨some 4, .alloc true [(.int .i64 0), (.int .i64 0)], none, false⟩,
  ⟨some 5, .mv (.v (.bool false)), none, false⟩]) (.seq s_cell_Step_p0 (.seq (.kp [2, 4, 6] (.seq (.kp [2, 4, 6, 23] s_cell_Step_p1) (.cond (.t 23) (.seq s_cell_Step_p2 .ret) .skip))) (.seq (.kp [4, 5] s_cell_Step_p3) .ret))))
def s_cell_Step : SFn := ⟨2, [.cell 4 (some 2), .t 5], s_cell_Step_p4⟩
def s_cell_Cost_p0 : SCode := (.region false [⟨some 4, .mv (.t 0), none, false⟩,
  ⟨some 5, .bin .lss (.t 4) (.v (.int .i64 0)), none, false⟩,
  ⟨some 6, .mv (.t 5), none, false⟩,
  ⟨some 7, .mv (.t 0), (some (6, false)), false⟩,
  ⟨some 8, .bin .geq (.t 7) (.v (.int .i64 8)), (some (6, false)), false⟩,
  ⟨some 9, .pick (.t 6) (.v (.bool true)) (.t 8), none, false⟩,
  ⟨some 3, .mv (.t 9), none, false⟩])
def s_cell_Cost_p1 : SCode := (.seq (.region false [⟨some 11, .mv (.t 0), none, false⟩,
  ⟨some 12, .bin .lss (.t 11) (.v (.int .i64 4)), none, false⟩,
  ⟨some 10, .mv (.t 12), none, false⟩]) (.cond (.t 10) (.seq (.region false [⟨some 2, .mv (.v (.int .i64 10)), none, false⟩]) .ret) .skip))
def s_cell_Cost_p2 : SCode := (.seq (.kp [] (.block 0 (.seq (.kp [0, 3] s_cell_Cost_p0) (.cond (.t 3) (.seq (.region false [⟨some 2, .mv (.v (.int .i64 0)), none, false⟩]) .ret) s_cell_Cost_p1)))) (.seq (.region false [⟨some 2, .mv (.v (.int .i64 14)), none, false⟩]) .ret))
def s_cell_Cost : SFn := ⟨1, [.t 2], (.seq (.region false [⟨some 2, .mv (.v (.int .i64 0)), none, false⟩]) s_cell_Cost_p2)⟩
def s_law03_awake_p0 : SCode := (.region false [⟨some 4, .build [(.int .i64 0), (.int .i64 0)] [(0, 1, (.v (.int .i64 4))), (1, 1, (.v (.int .i64 4)))], none, false⟩,
  ⟨some 5, .call f_cell_Step [(.t 4), (.v (.int .i64 5))], none, false⟩,
  ⟨some 3, .mv (.t 5), none, false⟩,
  ⟨some 6, .ext (.t 3) 0, none, false⟩,
  ⟨some 7, .ext (.t 3) 1, none, false⟩,
  ⟨some 1, .alloc true [(.int .i64 0), (.int .i64 0)], none, false⟩,
  ⟨none, .store 2 [] (.t 1) (.t 6), none, false⟩,
  ⟨some 2, .mv (.t 7), none, false⟩])
def s_law03_awake_p1 : SCode := (.region false [⟨some 8, .mv (.t 2), none, false⟩,
  ⟨some 9, .mv (.t 8), none, false⟩,
  ⟨some 10, .load (some 2) (.t 1), (some (9, true)), false⟩,
  ⟨some 11, .build [(.int .i64 0), (.int .i64 0)] [(0, 1, (.v (.int .i64 3))), (1, 1, (.v (.int .i64 5)))], (some (9, true)), false⟩,
  ⟨some 12, .eq false true [.int, .int] (.t 10) (.t 11), (some (9, true)), false⟩,
  ⟨some 13, .pick (.t 9) (.t 12) (.v (.bool false)), none, false⟩,
  ⟨some 14, .mv (.t 13), none, false⟩,
  ⟨some 15, .call f_cell_Cost [(.v (.int .i64 4))], (some (14, true)), false⟩,
  ⟨some 16, .bin .eql (.t 15) (.v (.int .i64 14)), (some (14, true)), false⟩,
  ⟨some 17, .pick (.t 14) (.t 16) (.v (.bool false)), none, false⟩,
  ⟨some 0, .mv (.t 17), none, false⟩])
def s_law03_awake : SFn := ⟨0, [.t 0], (.seq (.region false [⟨some 0, .mv (.v (.bool false)), none, false⟩]) (.seq (.kp [1, 2] s_law03_awake_p0) (.seq (.kp [0] s_law03_awake_p1) .ret)))⟩
def s_law03_CellGoes_p0 : SCode := (.seq (.region false [⟨some 10, .mv (.t 5), none, false⟩,
  ⟨some 11, .eq false false [.func] (.t 10) (.v .nilf), none, false⟩]) (.cond (.t 11) (.seq (.region false [⟨none, .store 1 [] (.t 4) (.v (.bool false)), none, false⟩]) .ret) .skip))
def s_law03_CellGoes_p1 : SCode := (.region false [⟨some 7, .alloc true [(.int .i64 0), (.int .i64 0)], none, false⟩,
  ⟨none, .store 2 [] (.t 7) (.t 13), none, false⟩])
def s_law03_CellGoes_p2 : SCode := (.region true [⟨some 14, .load (some 4) (.t 2), none, false⟩,
  ⟨some 15, .call f_ref03_May [(.t 14)], none, false⟩,
  ⟨some 16, .un .not (.t 15), none, false⟩,
  ⟨some 17, .mv (.t 16), none, false⟩,
  ⟨some 18, .load none (.t 6), (some (17, false)), true⟩,
  ⟨some 19, .faddr 2 (.t 2), (some (17, false)), true⟩,
  ⟨some 20, .load none (.t 19), (some (17, false)), true⟩,
  ⟨some 21, .faddr 3 (.t 2), (some (17, false)), true⟩,
  ⟨some 22, .load none (.t 21), (some (17, false)), true⟩,
  ⟨some 23, .bin .mul (.t 20) (.t 22), (some (17, false)), true⟩,
  ⟨some 24, .bin .geq (.t 18) (.t 23), (some (17, false)), false⟩,
  ⟨some 25, .pick (.t 17) (.v (.bool true)) (.t 24), none, false⟩,
  ⟨some 26, .mv (.t 25), none, false⟩,
  ⟨some 27, .faddr 0 (.t 7), (some (26, false)), true⟩,
  ⟨some 28, .load none (.t 27), (some (26, false)), true⟩,
  ⟨some 29, .faddr 0 (.t 2), (some (26, false)), true⟩,
  ⟨some 30, .faddr 0 (.t 29), (some (26, false)), true⟩,
  ⟨some 31, .load none (.t 30), (some (26, false)), true⟩,
  ⟨some 32, .load none (.t 6), (some (26, false)), true⟩,
  ⟨some 33, .faddr 2 (.t 2), (some (26, false)), true⟩,
  ⟨some 34, .load none (.t 33), (some (26, false)), true⟩,
  ⟨some 35, .bin .rem (.t 32) (.t 34), (some (26, false)), true⟩,
  ⟨some 36, .bin .add (.t 31) (.t 35), (some (26, false)), true⟩,
  ⟨some 37, .bin .neq (.t 28) (.t 36), (some (26, false)), false⟩,
  ⟨some 38, .pick (.t 26) (.v (.bool true)) (.t 37), none, false⟩,
  ⟨some 39, .mv (.t 38), none, false⟩,
  ⟨some 40, .faddr 1 (.t 7), (some (39, false)), true⟩,
  ⟨some 41, .load none (.t 40), (some (39, false)), true⟩,
  ⟨some 42, .faddr 0 (.t 2), (some (39, false)), true⟩,
  ⟨some 43, .faddr 1 (.t 42), (some (39, false)), true⟩,
  ⟨some 44, .load none (.t 43), (some (39, false)), true⟩,
  ⟨some 45, .load none (.t 6), (some (39, false)), true⟩,
  ⟨some 46, .faddr 2 (.t 2), (some (39, false)), true⟩,
  ⟨some 47, .load none (.t 46), (some (39, false)), true⟩,
  ⟨some 48, .bin .quo (.t 45) (.t 47), (some (39, false)), true⟩,
  ⟨some 49, .bin .add (.t 44) (.t 48), (some (39, false)), true⟩,
  ⟨some 50, .bin .neq (.t 41) (.t 49), (some (39, false)), false⟩,
  ⟨some 51, .pick (.t 39) (.v (.bool true)) (.t 50), none, false⟩])
def s_law03_CellGoes_p3 : SCode := (.region false [⟨some 54, .load none (.t 6), none, false⟩,
  ⟨some 55, .load none (.t 3), none, false⟩,
  ⟨some 56, .conv .i64 (.t 55), none, false⟩,
  ⟨some 57, .bin .gtr (.t 54) (.t 56), none, false⟩])
def s_law03_CellGoes_p4 : SCode := (.seq (.region false [⟨some 52, .load none (.t 6), none, false⟩,
  ⟨some 53, .bin .add (.t 52) (.v (.int .i64 1)), none, false⟩,
  ⟨none, .store 1 [] (.t 6) (.t 53), none, false⟩]) (.seq s_law03_CellGoes_p3 (.cond (.t 57) (.seq (.region false [⟨some 58, .call f_law03_awake [], none, false⟩,
  ⟨none, .store 1 [] (.t 4) (.t 58), none, false⟩]) .ret) .skip)))
def s_law03_CellGoes_p5 : SCode := (.block 1 (.seq (.kp [2, 3, 4, 6] (.seq (.kp [2, 3, 4, 6, 51] s_law03_CellGoes_p2) (.cond (.t 51) (.seq (.region false [⟨none, .store 1 [] (.t 4) (.v (.bool false)), none, false⟩]) .ret) .skip))) s_law03_CellGoes_p4))
def s_law03_CellGoes_p6 : SCode := (.region false [⟨some 59, .load (some 4) (.t 2), none, false⟩,
  ⟨some 60, .call f_ref03_May [(.t 59)], none, false⟩,
  ⟨some 61, .un .not (.t 60), none, false⟩,
  ⟨some 62, .mv (.t 61), none, false⟩,
  ⟨some 63, .load none (.t 6), (some (62, true)), false⟩,
  ⟨some 64, .bin .eql (.t 63) (.v (.int .i64 0)), (some (62, true)), false⟩,
  ⟨some 65, .pick (.t 62) (.t 64) (.v (.bool false)), none, false⟩,
  ⟨some 66, .mv (.t 65), none, false⟩,
  ⟨some 67, .load (some 4) (.t 2), (some (66, false)), false⟩,
  ⟨some 68, .call f_ref03_May [(.t 67)], (some (66, false)), false⟩,
  ⟨some 69, .mv (.t 68), (some (66, false)), false⟩,
  ⟨some 70, .load none (.t 6), (some (69, true)), false⟩,
  ⟨some 71, .faddr 2 (.t 2), (some (69, true)), false⟩,
  ⟨some 72, .load none (.t 71), (some (69, true)), false⟩,
  ⟨some 73, .faddr 3 (.t 2), (some (69, true)), false⟩,
  ⟨some 74, .load none (.t 73), (some (69, true)), false⟩,
  ⟨some 75, .bin .mul (.t 72) (.t 74), (some (69, true)), false⟩,
  ⟨some 76, .bin .eql (.t 70) (.t 75), (some (69, true)), false⟩,
  ⟨some 77, .pick (.t 69) (.t 76) (.v (.bool false)), (some (66, false)), false⟩,
  ⟨some 78, .pick (.t 66) (.v (.bool true)) (.t 77), none, false⟩,
  ⟨some 79, .mv (.t 78), none, false⟩,
  ⟨some 80, .call f_law03_awake [], (some (79, true)), false⟩,
  ⟨some 81, .pick (.t 79) (.t 80) (.v (.bool false)), none, false⟩,
  ⟨none, .store 1 [] (.t 4) (.t 81), none, false⟩])
def s_law03_CellGoes_p7 : SCode := (.seq (.kp [2, 4, 6] (.seq (.kp [2, 3, 4, 6, 12] (.region false [⟨some 12, .mv (.t 5), none, false⟩])) (.block 0 (.rangef (.t 12) [13] s_law03_CellGoes_p1 s_law03_CellGoes_p5)))) (.seq (.kp [4] s_law03_CellGoes_p6) .ret))
def s_law03_CellGoes_p8 : SCode := (.seq (.region false [⟨some 8, .load (some 4) (.t 2), none, false⟩,
  ⟨some 9, .call f_cell_Cells [(.t 8)], none, false⟩,
  ⟨some 5, .mv (.t 9), none, false⟩]) (.seq (.kp [2, 3, 4, 5] s_law03_CellGoes_p0) (.seq (.region false [⟨some 6, .alloc true [(.int .i64 0)], none, false⟩,
  ⟨none, .store 1 [] (.t 6) (.v (.int .i64 0)), none, false⟩]) s_law03_CellGoes_p7)))
def s_law03_CellGoes : SFn := ⟨2, [.cell 4 none], (.seq (.region false [⟨some 2, .box true 4 (.t 0), none, false⟩,
  ⟨some 3, .box true 1 (.t 1), none, false⟩,
  ⟨some 4, .alloc true [(.bool false)], none, false⟩]) s_law03_CellGoes_p8)⟩
def s_cell_Has_p0 : SCode := (.seq (.region false [⟨some 6, .load (some 4) (.t 2), none, false⟩,
  ⟨some 7, .call f_cell_May [(.t 6)], none, false⟩,
  ⟨some 8, .un .not (.t 7), none, false⟩]) (.cond (.t 8) (.seq (.region false [⟨some 4, .mv (.v (.bool false)), none, false⟩]) .ret) .skip))
def s_cell_Has_p1 : SCode := (.region false [⟨some 9, .load (some 4) (.t 2), none, false⟩,
  ⟨some 10, .call f_cell_last [(.t 9)], none, false⟩,
  ⟨some 5, .alloc true [(.int .i64 0), (.int .i64 0)], none, false⟩,
  ⟨none, .store 2 [] (.t 5) (.t 10), none, false⟩])
def s_cell_Has_p2 : SCode := (.region false [⟨some 11, .faddr 0 (.t 3), none, false⟩,
  ⟨some 12, .load none (.t 11), none, false⟩,
  ⟨some 13, .faddr 0 (.t 2), none, false⟩,
  ⟨some 14, .faddr 0 (.t 13), none, false⟩,
  ⟨some 15, .load none (.t 14), none, false⟩,
  ⟨some 16, .bin .geq (.t 12) (.t 15), none, false⟩,
  ⟨some 17, .mv (.t 16), none, false⟩,
  ⟨some 18, .faddr 0 (.t 3), (some (17, true)), false⟩,
  ⟨some 19, .load none (.t 18), (some (17, true)), false⟩,
  ⟨some 20, .faddr 0 (.t 5), (some (17, true)), false⟩,
  ⟨some 21, .load none (.t 20), (some (17, true)), false⟩,
  ⟨some 22, .bin .leq (.t 19) (.t 21), (some (17, true)), false⟩,
  ⟨some 23, .pick (.t 17) (.t 22) (.v (.bool false)), none, false⟩,
  ⟨some 24, .mv (.t 23), none, false⟩,
  ⟨some 25, .faddr 1 (.t 3), (some (24, true)), false⟩,
  ⟨some 26, .load none (.t 25), (some (24, true)), false⟩,
  ⟨some 27, .faddr 0 (.t 2), (some (24, true)), false⟩,
  ⟨some 28, .faddr 1 (.t 27), (some (24, true)), false⟩,
  ⟨some 29, .load none (.t 28), (some (24, true)), false⟩,
  ⟨some 30, .bin .geq (.t 26) (.t 29), (some (24, true)), false⟩,
  ⟨some 31, .pick (.t 24) (.t 30) (.v (.bool false)), none, false⟩,
  ⟨some 32, .mv (.t 31), none, false⟩,
  ⟨some 33, .faddr 1 (.t 3), (some (32, true)), false⟩,
  ⟨some 34, .load none (.t 33), (some (32, true)), false⟩,
  ⟨some 35, .faddr 1 (.t 5), (some (32, true)), false⟩,
  ⟨some 36, .load none (.t 35), (some (32, true)), false⟩,
  ⟨some 37, .bin .leq (.t 34) (.t 36), (some (32, true)), false⟩,
  ⟨some 38, .pick (.t 32) (.t 37) (.v (.bool false)), none, false⟩,
  ⟨some 4, .mv (.t 38), none, false⟩])
def s_cell_Has_p3 : SCode := (.seq (.region false [⟨some 2, .box true 4 (.t 0), none, false⟩,
  ⟨some 3, .box true 2 (.t 1), none, false⟩,
  ⟨some 4, .mv (.v (.bool false)), none, false⟩]) (.seq (.kp [2, 3] s_cell_Has_p0) (.seq s_cell_Has_p1 (.seq (.kp [4] s_cell_Has_p2) .ret))))
def s_cell_Has : SFn := ⟨2, [.t 4], s_cell_Has_p3⟩
def s_cell_Around_1_p0 : SCode := (.region false [⟨some 11, .load (some 2) (.t 1), none, false⟩,
  ⟨some 12, .mv (.t 4), none, false⟩,
  ⟨some 13, .call f_cell_Step [(.t 11), (.t 12)], none, false⟩,
  ⟨some 10, .mv (.t 13), none, false⟩,
  ⟨some 14, .ext (.t 10) 0, none, false⟩,
  ⟨some 15, .ext (.t 10) 1, none, false⟩,
  ⟨some 5, .alloc true [(.int .i64 0), (.int .i64 0)], none, false⟩,
  ⟨none, .store 2 [] (.t 5) (.t 14), none, false⟩,
  ⟨some 6, .mv (.t 15), none, false⟩])
def s_cell_Around_1_p1 : SCode := (.region false [⟨some 16, .mv (.t 6), none, false⟩,
  ⟨some 17, .mv (.t 16), none, false⟩,
  ⟨some 18, .load (some 4) (.t 2), (some (17, true)), false⟩,
  ⟨some 19, .load (some 2) (.t 5), (some (17, true)), false⟩,
  ⟨some 20, .call f_cell_Has [(.t 18), (.t 19)], (some (17, true)), false⟩,
  ⟨some 21, .pick (.t 17) (.t 20) (.v (.bool false)), none, false⟩,
  ⟨some 22, .mv (.t 21), none, false⟩,
  ⟨some 23, .mv (.t 0), (some (22, true)), false⟩,
  ⟨some 24, .mv (.t 4), (some (22, true)), false⟩,
  ⟨some 25, .load (some 2) (.t 5), (some (22, true)), false⟩,
  ⟨some 26, .callv (.t 23) [(.t 24), (.t 25)], (some (22, true)), false⟩,
  ⟨some 27, .un .not (.t 26), (some (22, true)), false⟩,
  ⟨some 28, .pick (.t 22) (.t 27) (.v (.bool false)), none, false⟩])
def s_cell_Around_1_p2 : SCode := (.seq (.region false [⟨some 9, .mv (.t 7), none, false⟩,
  ⟨some 4, .mv (.t 9), none, false⟩]) (.seq (.kp [0, 1, 2, 4, 5, 6, 7] s_cell_Around_1_p0) (.seq (.kp [0, 1, 2, 7, 28] s_cell_Around_1_p1) (.cond (.t 28) .ret .skip))))
def s_cell_Around_1_p3 : SCode := (.seq (.kp [0, 1, 2, 7] (.cond (.t 8) .skip (.exit 0))) (.seq (.kp [0, 1, 2, 7] (.block 1 s_cell_Around_1_p2)) (.region false [⟨some 29, .bin .add (.t 7) (.v (.int .i64 1)), none, false⟩,
  ⟨some 7, .mv (.t 29), none, false⟩])))
def s_cell_Around_1_p4 : SCode := (.seq (.region false [⟨some 8, .bin .lss (.t 7) (.v (.int .i64 8)), none, false⟩]) s_cell_Around_1_p3)
def s_cell_Around_1 : SFn := ⟨3, [], (.seq (.kp [0, 1, 2, 7] (.region false [⟨some 7, .mv (.v (.int .i64 0)), none, false⟩])) (.block 0 (.loop (some [0, 1, 2, 7]) s_cell_Around_1_p4)))⟩
def s_cell_Around_p0 : SCode := (.seq (.region false [⟨some 2, .box false 2 (.t 0), none, false⟩,
  ⟨some 3, .box false 4 (.t 1), none, false⟩,
  ⟨some 4, .mv (.v .nilf), none, false⟩]) (.seq (.region false [⟨some 5, .mkfn f_cell_Around_1 [] [(.t 2), (.t 3)], none, false⟩,
  ⟨some 4, .mv (.t 5), none, false⟩]) .ret))
def s_cell_Around : SFn := ⟨2, [.t 4], s_cell_Around_p0⟩
def s_ref03_Turn_p0 : SCode := (.cond (.t 20) (.seq (.region false [⟨some 2, .mv (.v (.int .i64 1)), none, false⟩,
  ⟨some 3, .mv (.v (.int .i64 (-1))), none, false⟩,
  ⟨some 4, .mv (.v (.bool true)), none, false⟩]) .ret) .skip)
def s_ref03_Turn_p1 : SCode := (.cond (.t 18) (.seq (.region false [⟨some 2, .mv (.v (.int .i64 (-1))), none, false⟩,
  ⟨some 3, .mv (.v (.int .i64 (-1))), none, false⟩,
  ⟨some 4, .mv (.v (.bool true)), none, false⟩]) .ret) (.seq (.region false [⟨some 21, .bin .eql (.t 5) (.v (.int .i64 7)), none, false⟩,
  ⟨some 20, .mv (.t 21), none, false⟩]) s_ref03_Turn_p0))
def s_ref03_Turn_p2 : SCode := (.cond (.t 16) (.seq (.region false [⟨some 2, .mv (.v (.int .i64 (-1))), none, false⟩,
  ⟨some 3, .mv (.v (.int .i64 1)), none, false⟩,
  ⟨some 4, .mv (.v (.bool true)), none, false⟩]) .ret) (.seq (.region false [⟨some 19, .bin .eql (.t 5) (.v (.int .i64 6)), none, false⟩,
  ⟨some 18, .mv (.t 19), none, false⟩]) s_ref03_Turn_p1))
def s_ref03_Turn_p3 : SCode := (.cond (.t 14) (.seq (.region false [⟨some 2, .mv (.v (.int .i64 1)), none, false⟩,
  ⟨some 3, .mv (.v (.int .i64 1)), none, false⟩,
  ⟨some 4, .mv (.v (.bool true)), none, false⟩]) .ret) (.seq (.region false [⟨some 17, .bin .eql (.t 5) (.v (.int .i64 5)), none, false⟩,
  ⟨some 16, .mv (.t 17), none, false⟩]) s_ref03_Turn_p2))
def s_ref03_Turn_p4 : SCode := (.cond (.t 12) (.seq (.region false [⟨some 2, .mv (.v (.int .i64 0)), none, false⟩,
  ⟨some 3, .mv (.v (.int .i64 (-1))), none, false⟩,
  ⟨some 4, .mv (.v (.bool true)), none, false⟩]) .ret) (.seq (.region false [⟨some 15, .bin .eql (.t 5) (.v (.int .i64 4)), none, false⟩,
  ⟨some 14, .mv (.t 15), none, false⟩]) s_ref03_Turn_p3))
def s_ref03_Turn_p5 : SCode := (.cond (.t 10) (.seq (.region false [⟨some 2, .mv (.v (.int .i64 (-1))), none, false⟩,
  ⟨some 3, .mv (.v (.int .i64 0)), none, false⟩,
  ⟨some 4, .mv (.v (.bool true)), none, false⟩]) .ret) (.seq (.region false [⟨some 13, .bin .eql (.t 5) (.v (.int .i64 3)), none, false⟩,
  ⟨some 12, .mv (.t 13), none, false⟩]) s_ref03_Turn_p4))
def s_ref03_Turn_p6 : SCode := (.cond (.t 8) (.seq (.region false [⟨some 2, .mv (.v (.int .i64 0)), none, false⟩,
  ⟨some 3, .mv (.v (.int .i64 1)), none, false⟩,
  ⟨some 4, .mv (.v (.bool true)), none, false⟩]) .ret) (.seq (.region false [⟨some 11, .bin .eql (.t 5) (.v (.int .i64 2)), none, false⟩,
  ⟨some 10, .mv (.t 11), none, false⟩]) s_ref03_Turn_p5))
def s_ref03_Turn_p7 : SCode := (.cond (.t 6) (.seq (.region false [⟨some 2, .mv (.v (.int .i64 1)), none, false⟩,
  ⟨some 3, .mv (.v (.int .i64 0)), none, false⟩,
  ⟨some 4, .mv (.v (.bool true)), none, false⟩]) .ret) (.seq (.region false [⟨some 9, .bin .eql (.t 5) (.v (.int .i64 1)), none, false⟩,
  ⟨some 8, .mv (.t 9), none, false⟩]) s_ref03_Turn_p6))
def s_ref03_Turn_p8 : SCode := (.seq (.region false [⟨some 5, .mv (.t 0), none, false⟩]) (.block 0 (.seq (.region false [⟨some 7, .bin .eql (.t 5) (.v (.int .i64 0)), none, false⟩,
  ⟨some 6, .mv (.t 7), none, false⟩]) s_ref03_Turn_p7)))
def s_ref03_Turn_p9 : SCode := (.seq (.kp [] s_ref03_Turn_p8) (.seq (.region false [⟨some 2, .mv (.v (.int .i64 0)), none, false⟩,
  ⟨some 3, .mv (.v (.int .i64 0)), none, false⟩,
  ⟨some 4, .mv (.v (.bool false)), none, false⟩]) .ret))
def s_ref03_Turn : SFn := ⟨1, [.t 2, .t 3, .t 4], (.seq (.region false [⟨some 2, .mv (.v (.int .i64 0)), none, false⟩,
  ⟨some 3, .mv (.v (.int .i64 0)), none, false⟩,
  ⟨some 4, .mv (.v (.bool false)), none, false⟩]) s_ref03_Turn_p9)⟩
def s_ref03_Step_p0 : SCode := (.region false [⟨some 11, .mv (.t 1), none, false⟩,
  ⟨some 12, .call f_ref03_Turn [(.t 11)], none, false⟩,
  ⟨some 10, .mv (.t 12), none, false⟩,
  ⟨some 13, .ext (.t 10) 0, none, false⟩,
  ⟨some 14, .ext (.t 10) 1, none, false⟩,
  ⟨some 15, .ext (.t 10) 2, none, false⟩,
  ⟨some 6, .mv (.t 13), none, false⟩,
  ⟨some 7, .mv (.t 14), none, false⟩,
  ⟨some 8, .mv (.t 15), none, false⟩])
def s_ref03_Step_p1 : SCode := (.region false [⟨some 16, .mv (.t 8), none, false⟩,
  ⟨some 17, .un .not (.t 16), none, false⟩,
  ⟨some 18, .mv (.t 17), none, false⟩,
  ⟨some 19, .load (some 2) (.t 2), (some (18, false)), false⟩,
  ⟨some 20, .call f_ref03_Near [(.t 19)], (some (18, false)), false⟩,
  ⟨some 21, .un .not (.t 20), (some (18, false)), false⟩,
  ⟨some 22, .pick (.t 18) (.v (.bool true)) (.t 21), none, false⟩])
def s_ref03_Step_p2 : SCode := (.region false [⟨some 23, .build [(.int .i64 0), (.int .i64 0)] [], none, false⟩,
  ⟨none, .store 2 [] (.t 4) (.t 23), none, false⟩,
  ⟨some 5, .mv (.v (.bool false)), none, false⟩])
def s_ref03_Step_p3 : SCode := (.region false [⟨some 24, .faddr 0 (.t 2), none, false⟩,
  ⟨some 25, .load none (.t 24), none, false⟩,
  ⟨some 26, .mv (.t 6), none, false⟩,
  ⟨some 27, .bin .add (.t 25) (.t 26), none, false⟩,
  ⟨some 28, .faddr 1 (.t 2), none, false⟩,
  ⟨some 29, .load none (.t 28), none, false⟩,
  ⟨some 30, .mv (.t 7), none, false⟩,
  ⟨some 31, .bin .add (.t 29) (.t 30), none, false⟩,
  ⟨some 32, .build [(.int .i64 0), (.int .i64 0)] [(0, 1, (.t 27)), (1, 1, (.t 31))], none, false⟩,
  ⟨some 9, .alloc true [(.int .i64 0), (.int .i64 0)], none, false⟩,
  ⟨none, .store 2 [] (.t 9) (.t 32), none, false⟩])
def s_ref03_Step_p4 : SCode := (.region false [⟨some 36, .build [(.int .i64 0), (.int .i64 0)] [], none, false⟩,
  ⟨none, .store 2 [] (.t 4) (.t 36), none, false⟩,
  ⟨some 5, .mv (.v (.bool false)), none, false⟩])
def s_ref03_Step_p5 : SCode := (.seq (.region false [⟨some 33, .load (some 2) (.t 9), none, false⟩,
  ⟨some 34, .call f_ref03_Near [(.t 33)], none, false⟩,
  ⟨some 35, .un .not (.t 34), none, false⟩]) (.cond (.t 35) (.seq s_ref03_Step_p4 .ret) .skip))
def s_ref03_Step_p6 : SCode := (.seq (.kp [4, 9] s_ref03_Step_p5) (.seq (.region false [⟨some 37, .load (some 2) (.t 9), none, false⟩,
  ⟨none, .store 2 [] (.t 4) (.t 37), none, false⟩,
  ⟨some 5, .mv (.v (.bool true)), none, false⟩]) .ret))
def s_ref03_Step_p7 : SCode := (.seq (.region false [⟨some 2, .box true 2 (.t 0), none, false⟩,
  ⟨some 4, .alloc true [(.int .i64 0), (.int .i64 0)], none, false⟩,
  ⟨some 5, .mv (.v (.bool false)), none, false⟩]) (.seq (.kp [2, 4, 6, 7, 8] s_ref03_Step_p0) (.seq (.kp [2, 4, 6, 7] (.seq (.kp [2, 4, 6, 7, 22] s_ref03_Step_p1) (.cond (.t 22) (.seq s_ref03_Step_p2 .ret) .skip))) (.seq (.kp [4, 9] s_ref03_Step_p3) s_ref03_Step_p6))))
def s_ref03_Step : SFn := ⟨2, [.cell 4 (some 2), .t 5], s_ref03_Step_p7⟩
def s_ref03_Has_p0 : SCode := (.region true [⟨some 5, .load (some 4) (.t 2), none, false⟩,
  ⟨some 6, .call f_ref03_May [(.t 5)], none, false⟩,
  ⟨some 7, .mv (.t 6), none, false⟩,
  ⟨some 8, .faddr 0 (.t 3), (some (7, true)), true⟩,
  ⟨some 9, .load none (.t 8), (some (7, true)), true⟩,
  ⟨some 10, .faddr 0 (.t 2), (some (7, true)), true⟩,
  ⟨some 11, .faddr 0 (.t 10), (some (7, true)), true⟩,
  ⟨some 12, .load none (.t 11), (some (7, true)), true⟩,
  ⟨some 13, .bin .geq (.t 9) (.t 12), (some (7, true)), false⟩,
  ⟨some 14, .pick (.t 7) (.t 13) (.v (.bool false)), none, false⟩,
  ⟨some 15, .mv (.t 14), none, false⟩,
  ⟨some 16, .faddr 1 (.t 3), (some (15, true)), true⟩,
  ⟨some 17, .load none (.t 16), (some (15, true)), true⟩,
  ⟨some 18, .faddr 0 (.t 2), (some (15, true)), true⟩,
  ⟨some 19, .faddr 1 (.t 18), (some (15, true)), true⟩,
  ⟨some 20, .load none (.t 19), (some (15, true)), true⟩,
  ⟨some 21, .bin .geq (.t 17) (.t 20), (some (15, true)), false⟩,
  ⟨some 22, .pick (.t 15) (.t 21) (.v (.bool false)), none, false⟩,
  ⟨some 23, .mv (.t 22), none, false⟩,
  ⟨some 24, .faddr 0 (.t 3), (some (23, true)), true⟩,
  ⟨some 25, .load none (.t 24), (some (23, true)), true⟩,
  ⟨some 26, .load (some 4) (.t 2), (some (23, true)), true⟩,
  ⟨some 27, .call f_ref03_Last [(.t 26)], (some (23, true)), true⟩,
  ⟨some 28, .field 0 none (.t 27), (some (23, true)), true⟩,
  ⟨some 29, .bin .leq (.t 25) (.t 28), (some (23, true)), false⟩,
  ⟨some 30, .pick (.t 23) (.t 29) (.v (.bool false)), none, false⟩,
  ⟨some 31, .mv (.t 30), none, false⟩,
  ⟨some 32, .faddr 1 (.t 3), (some (31, true)), true⟩,
  ⟨some 33, .load none (.t 32), (some (31, true)), true⟩,
  ⟨some 34, .load (some 4) (.t 2), (some (31, true)), true⟩,
  ⟨some 35, .call f_ref03_Last [(.t 34)], (some (31, true)), true⟩,
  ⟨some 36, .field 1 none (.t 35), (some (31, true)), true⟩,
  ⟨some 37, .bin .leq (.t 33) (.t 36), (some (31, true)), false⟩,
  ⟨some 38, .pick (.t 31) (.t 37) (.v (.bool false)), none, false⟩,
  ⟨some 4, .mv (.t 38), none, false⟩])
def s_ref03_Has_p1 : SCode := (.seq (.region false [⟨some 2, .box true 4 (.t 0), none, false⟩,
  ⟨some 3, .box true 2 (.t 1), none, false⟩,
  ⟨some 4, .mv (.v (.bool false)), none, false⟩]) (.seq (.kp [4] s_ref03_Has_p0) .ret))
def s_ref03_Has : SFn := ⟨2, [.t 4], s_ref03_Has_p1⟩
def s_law03_CellAround_p0 : SCode := (.region false [⟨some 3, .box true 2 (.t 0), none, false⟩,
  ⟨some 4, .box true 4 (.t 1), none, false⟩,
  ⟨some 5, .box true 1 (.t 2), none, false⟩,
  ⟨some 6, .alloc true [(.bool false)], none, false⟩])
def s_law03_CellAround_p1 : SCode := (.region false [⟨some 18, .load (some 2) (.t 3), none, false⟩,
  ⟨some 19, .load (some 4) (.t 4), none, false⟩,
  ⟨some 20, .call f_cell_Around [(.t 18), (.t 19)], none, false⟩,
  ⟨some 7, .mv (.t 20), none, false⟩])
def s_law03_CellAround_p2 : SCode := (.seq (.region false [⟨some 21, .mv (.t 7), none, false⟩,
  ⟨some 22, .eq false false [.func] (.t 21) (.v .nilf), none, false⟩]) (.cond (.t 22) (.seq (.region false [⟨none, .store 1 [] (.t 6) (.v (.bool false)), none, false⟩]) .ret) .skip))
def s_law03_CellAround_p3 : SCode := (.seq (.region false [⟨some 10, .mv (.t 24), none, false⟩]) (.region false [⟨some 11, .alloc true [(.int .i64 0), (.int .i64 0)], none, false⟩,
  ⟨none, .store 2 [] (.t 11) (.t 25), none, false⟩]))
def s_law03_CellAround_p4 : SCode := (.seq (.region false [⟨some 26, .load none (.t 8), none, false⟩,
  ⟨some 27, .mv (.t 10), none, false⟩,
  ⟨some 28, .bin .lss (.t 26) (.t 27), none, false⟩]) (.cond (.t 28) .skip (.exit 2)))
def s_law03_CellAround_p5 : SCode := (.region false [⟨some 30, .load (some 2) (.t 3), none, false⟩,
  ⟨some 31, .load none (.t 8), none, false⟩,
  ⟨some 32, .call f_ref03_Step [(.t 30), (.t 31)], none, false⟩,
  ⟨some 29, .mv (.t 32), none, false⟩,
  ⟨some 33, .ext (.t 29) 0, none, false⟩,
  ⟨some 34, .ext (.t 29) 1, none, false⟩,
  ⟨some 12, .alloc true [(.int .i64 0), (.int .i64 0)], none, false⟩,
  ⟨none, .store 2 [] (.t 12) (.t 33), none, false⟩,
  ⟨some 13, .mv (.t 34), none, false⟩])
def s_law03_CellAround_p6 : SCode := (.region false [⟨some 35, .mv (.t 13), none, false⟩,
  ⟨some 36, .mv (.t 35), none, false⟩,
  ⟨some 37, .load (some 4) (.t 4), (some (36, true)), false⟩,
  ⟨some 38, .load (some 2) (.t 12), (some (36, true)), false⟩,
  ⟨some 39, .call f_ref03_Has [(.t 37), (.t 38)], (some (36, true)), false⟩,
  ⟨some 40, .pick (.t 36) (.t 39) (.v (.bool false)), none, false⟩])
def s_law03_CellAround_p7 : SCode := (.kp [3, 4, 5, 6, 8, 9, 10, 11] (.seq (.kp [3, 4, 5, 6, 8, 9, 10, 11, 40] s_law03_CellAround_p6) (.cond (.t 40) (.seq (.region false [⟨none, .store 1 [] (.t 6) (.v (.bool false)), none, false⟩]) .ret) .skip)))
def s_law03_CellAround_p8 : SCode := (.seq s_law03_CellAround_p7 (.region false [⟨some 41, .load none (.t 8), none, false⟩,
  ⟨some 42, .bin .add (.t 41) (.v (.int .i64 1)), none, false⟩,
  ⟨none, .store 1 [] (.t 8) (.t 42), none, false⟩]))
def s_law03_CellAround_p9 : SCode := (.seq (.kp [3, 4, 5, 6, 8, 9, 10, 11] s_law03_CellAround_p4) (.block 3 (.seq (.kp [3, 4, 5, 6, 8, 9, 10, 11, 12, 13] s_law03_CellAround_p5) s_law03_CellAround_p8)))
def s_law03_CellAround_p10 : SCode := (.region false [⟨some 44, .load (some 2) (.t 3), none, false⟩,
  ⟨some 45, .mv (.t 10), none, false⟩,
  ⟨some 46, .call f_ref03_Step [(.t 44), (.t 45)], none, false⟩,
  ⟨some 43, .mv (.t 46), none, false⟩,
  ⟨some 47, .ext (.t 43) 0, none, false⟩,
  ⟨some 48, .ext (.t 43) 1, none, false⟩,
  ⟨some 14, .alloc true [(.int .i64 0), (.int .i64 0)], none, false⟩,
  ⟨none, .store 2 [] (.t 14) (.t 47), none, false⟩,
  ⟨some 15, .mv (.t 48), none, false⟩])
def s_law03_CellAround_p11 : SCode := (.region false [⟨some 49, .mv (.t 10), none, false⟩,
  ⟨some 50, .load none (.t 8), none, false⟩,
  ⟨some 51, .bin .neq (.t 49) (.t 50), none, false⟩,
  ⟨some 52, .mv (.t 51), none, false⟩,
  ⟨some 53, .mv (.t 15), (some (52, false)), false⟩,
  ⟨some 54, .un .not (.t 53), (some (52, false)), false⟩,
  ⟨some 55, .pick (.t 52) (.v (.bool true)) (.t 54), none, false⟩,
  ⟨some 56, .mv (.t 55), none, false⟩,
  ⟨some 57, .load (some 2) (.t 14), (some (56, false)), false⟩,
  ⟨some 58, .load (some 2) (.t 11), (some (56, false)), false⟩,
  ⟨some 59, .eq true true [.int, .int] (.t 57) (.t 58), (some (56, false)), false⟩,
  ⟨some 60, .pick (.t 56) (.v (.bool true)) (.t 59), none, false⟩,
  ⟨some 61, .mv (.t 60), none, false⟩,
  ⟨some 62, .load (some 4) (.t 4), (some (61, false)), false⟩,
  ⟨some 63, .load (some 2) (.t 11), (some (61, false)), false⟩,
  ⟨some 64, .call f_ref03_Has [(.t 62), (.t 63)], (some (61, false)), false⟩,
  ⟨some 65, .un .not (.t 64), (some (61, false)), false⟩,
  ⟨some 66, .pick (.t 61) (.v (.bool true)) (.t 65), none, false⟩])
def s_law03_CellAround_p12 : SCode := (.region false [⟨some 71, .load none (.t 9), none, false⟩,
  ⟨some 72, .load none (.t 5), none, false⟩,
  ⟨some 73, .conv .i64 (.t 72), none, false⟩,
  ⟨some 74, .bin .gtr (.t 71) (.t 73), none, false⟩])
def s_law03_CellAround_p13 : SCode := (.seq (.region false [⟨some 69, .load none (.t 9), none, false⟩,
  ⟨some 70, .bin .add (.t 69) (.v (.int .i64 1)), none, false⟩,
  ⟨none, .store 1 [] (.t 9) (.t 70), none, false⟩]) (.seq s_law03_CellAround_p12 (.cond (.t 74) (.seq (.region false [⟨some 75, .call f_law03_awake [], none, false⟩,
  ⟨none, .store 1 [] (.t 6) (.t 75), none, false⟩]) .ret) .skip)))
def s_law03_CellAround_p14 : SCode := (.seq (.region false [⟨some 67, .load none (.t 8), none, false⟩,
  ⟨some 68, .bin .add (.t 67) (.v (.int .i64 1)), none, false⟩,
  ⟨none, .store 1 [] (.t 8) (.t 68), none, false⟩]) s_law03_CellAround_p13)
def s_law03_CellAround_p15 : SCode := (.seq (.kp [3, 4, 5, 6, 8, 9] (.seq (.kp [3, 4, 5, 6, 8, 9, 66] s_law03_CellAround_p11) (.cond (.t 66) (.seq (.region false [⟨none, .store 1 [] (.t 6) (.v (.bool false)), none, false⟩]) .ret) .skip))) s_law03_CellAround_p14)
def s_law03_CellAround_p16 : SCode := (.block 1 (.seq (.kp [3, 4, 5, 6, 8, 9, 10, 11] (.block 2 (.loop (some [3, 4, 5, 6, 8, 9, 10, 11]) s_law03_CellAround_p9))) (.seq (.kp [3, 4, 5, 6, 8, 9, 10, 11, 14, 15] s_law03_CellAround_p10) s_law03_CellAround_p15)))
def s_law03_CellAround_p17 : SCode := (.kp [3, 4, 6, 8] (.seq (.region false [⟨some 76, .load none (.t 8), none, false⟩,
  ⟨some 77, .bin .lss (.t 76) (.v (.int .i64 8)), none, false⟩]) (.cond (.t 77) .skip (.exit 4))))
def s_law03_CellAround_p18 : SCode := (.region false [⟨some 79, .load (some 2) (.t 3), none, false⟩,
  ⟨some 80, .load none (.t 8), none, false⟩,
  ⟨some 81, .call f_ref03_Step [(.t 79), (.t 80)], none, false⟩,
  ⟨some 78, .mv (.t 81), none, false⟩,
  ⟨some 82, .ext (.t 78) 0, none, false⟩,
  ⟨some 83, .ext (.t 78) 1, none, false⟩,
  ⟨some 16, .alloc true [(.int .i64 0), (.int .i64 0)], none, false⟩,
  ⟨none, .store 2 [] (.t 16) (.t 82), none, false⟩,
  ⟨some 17, .mv (.t 83), none, false⟩])
def s_law03_CellAround_p19 : SCode := (.region false [⟨some 84, .mv (.t 17), none, false⟩,
  ⟨some 85, .mv (.t 84), none, false⟩,
  ⟨some 86, .load (some 4) (.t 4), (some (85, true)), false⟩,
  ⟨some 87, .load (some 2) (.t 16), (some (85, true)), false⟩,
  ⟨some 88, .call f_ref03_Has [(.t 86), (.t 87)], (some (85, true)), false⟩,
  ⟨some 89, .pick (.t 85) (.t 88) (.v (.bool false)), none, false⟩])
def s_law03_CellAround_p20 : SCode := (.seq (.kp [3, 4, 6, 8] (.seq (.kp [3, 4, 6, 8, 89] s_law03_CellAround_p19) (.cond (.t 89) (.seq (.region false [⟨none, .store 1 [] (.t 6) (.v (.bool false)), none, false⟩]) .ret) .skip))) (.region false [⟨some 90, .load none (.t 8), none, false⟩,
  ⟨some 91, .bin .add (.t 90) (.v (.int .i64 1)), none, false⟩,
  ⟨none, .store 1 [] (.t 8) (.t 91), none, false⟩]))
def s_law03_CellAround_p21 : SCode := (.seq s_law03_CellAround_p17 (.block 5 (.seq (.kp [3, 4, 6, 8, 16, 17] s_law03_CellAround_p18) s_law03_CellAround_p20)))
def s_law03_CellAround_p22 : SCode := (.seq (.kp [6] (.block 4 (.loop (some [3, 4, 6, 8]) s_law03_CellAround_p21))) (.seq (.region false [⟨some 92, .call f_law03_awake [], none, false⟩,
  ⟨none, .store 1 [] (.t 6) (.t 92), none, false⟩]) .ret))
def s_law03_CellAround_p23 : SCode := (.seq (.region false [⟨some 9, .alloc true [(.int .i64 0)], none, false⟩,
  ⟨none, .store 1 [] (.t 9) (.v (.int .i64 0)), none, false⟩]) (.seq (.kp [3, 4, 6, 8] (.seq (.kp [3, 4, 5, 6, 8, 9, 23] (.region false [⟨some 23, .mv (.t 7), none, false⟩])) (.block 0 (.rangef (.t 23) [24, 25] s_law03_CellAround_p3 s_law03_CellAround_p16)))) s_law03_CellAround_p22))
def s_law03_CellAround_p24 : SCode := (.seq (.kp [3, 4, 5, 6, 7] s_law03_CellAround_p2) (.seq (.region false [⟨some 8, .alloc true [(.int .i64 0)], none, false⟩,
  ⟨none, .store 1 [] (.t 8) (.v (.int .i64 0)), none, false⟩]) s_law03_CellAround_p23))
def s_law03_CellAround : SFn := ⟨3, [.cell 6 none], (.seq s_law03_CellAround_p0 (.seq s_law03_CellAround_p1 s_law03_CellAround_p24))⟩
def s_cell_Sides_p0 : SCode := (.region false [⟨some 2, .box true 2 (.t 0), none, false⟩,
  ⟨some 4, .alloc true [(.int .i64 0), (.int .i64 0)], none, false⟩,
  ⟨some 5, .alloc true [(.int .i64 0), (.int .i64 0)], none, false⟩,
  ⟨some 6, .mv (.v (.bool false)), none, false⟩])
def s_cell_Sides_p1 : SCode := (.region false [⟨some 11, .load (some 2) (.t 2), none, false⟩,
  ⟨some 12, .mv (.t 1), none, false⟩,
  ⟨some 13, .call f_cell_Step [(.t 11), (.t 12)], none, false⟩,
  ⟨some 10, .mv (.t 13), none, false⟩,
  ⟨some 14, .ext (.t 10) 0, none, false⟩,
  ⟨some 15, .ext (.t 10) 1, none, false⟩,
  ⟨some 7, .alloc true [(.int .i64 0), (.int .i64 0)], none, false⟩,
  ⟨none, .store 2 [] (.t 7) (.t 14), none, false⟩,
  ⟨some 8, .mv (.t 15), none, false⟩])
def s_cell_Sides_p2 : SCode := (.region false [⟨some 16, .mv (.t 8), none, false⟩,
  ⟨some 17, .un .not (.t 16), none, false⟩,
  ⟨some 18, .mv (.t 17), none, false⟩,
  ⟨some 19, .mv (.t 1), (some (18, false)), false⟩,
  ⟨some 20, .bin .lss (.t 19) (.v (.int .i64 4)), (some (18, false)), false⟩,
  ⟨some 21, .pick (.t 18) (.v (.bool true)) (.t 20), none, false⟩])
def s_cell_Sides_p3 : SCode := (.region false [⟨some 22, .build [(.int .i64 0), (.int .i64 0)] [], none, false⟩,
  ⟨some 23, .build [(.int .i64 0), (.int .i64 0)] [], none, false⟩,
  ⟨none, .store 2 [] (.t 4) (.t 22), none, false⟩,
  ⟨none, .store 2 [] (.t 5) (.t 23), none, false⟩,
  ⟨some 6, .mv (.v (.bool false)), none, false⟩])
def s_cell_Sides_p4 : SCode := (.region false [⟨some 24, .mv (.t 1), none, false⟩,
  ⟨some 25, .call f_cell_turn [(.t 24)], none, false⟩,
  ⟨some 9, .alloc true [(.int .i64 0), (.int .i64 0)], none, false⟩,
  ⟨none, .store 2 [] (.t 9) (.t 25), none, false⟩])
def s_cell_Sides_p5 : SCode := (.region true [⟨some 26, .load (some 2) (.t 2), none, true⟩,
  ⟨some 27, .faddr 0 (.t 9), none, true⟩,
  ⟨some 28, .load none (.t 27), none, true⟩,
  ⟨some 29, .build [(.int .i64 0), (.int .i64 0)] [(0, 1, (.t 28))], none, true⟩,
  ⟨some 31, .load (some 2) (.t 2), none, true⟩,
  ⟨some 32, .faddr 1 (.t 9), none, true⟩,
  ⟨some 33, .load none (.t 32), none, true⟩,
  ⟨some 34, .build [(.int .i64 0), (.int .i64 0)] [(1, 1, (.t 33))], none, true⟩,
  ⟨some 30, .call f_cell_plus [(.t 26), (.t 29)], none, true⟩,
  ⟨some 35, .call f_cell_plus [(.t 31), (.t 34)], none, false⟩,
  ⟨none, .store 2 [] (.t 4) (.t 30), none, false⟩,
  ⟨none, .store 2 [] (.t 5) (.t 35), none, false⟩,
  ⟨some 6, .mv (.v (.bool true)), none, false⟩])
def s_cell_Sides_p6 : SCode := (.seq (.kp [1, 2, 4, 5] (.seq (.kp [1, 2, 4, 5, 8] s_cell_Sides_p1) (.seq (.kp [1, 2, 4, 5, 21] s_cell_Sides_p2) (.cond (.t 21) (.seq (.kp [4, 5, 6] s_cell_Sides_p3) .ret) .skip)))) (.seq s_cell_Sides_p4 (.seq (.kp [4, 5, 6] s_cell_Sides_p5) .ret)))
def s_cell_Sides : SFn := ⟨2, [.cell 4 (some 2), .cell 5 (some 2), .t 6], (.seq s_cell_Sides_p0 s_cell_Sides_p6)⟩
def s_ref03_Sides_p0 : SCode := (.region false [⟨some 2, .box true 2 (.t 0), none, false⟩,
  ⟨some 4, .alloc true [(.int .i64 0), (.int .i64 0)], none, false⟩,
  ⟨some 5, .alloc true [(.int .i64 0), (.int .i64 0)], none, false⟩,
  ⟨some 6, .mv (.v (.bool false)), none, false⟩])
def s_ref03_Sides_p1 : SCode := (.region false [⟨some 13, .load (some 2) (.t 2), none, false⟩,
  ⟨some 14, .mv (.t 1), none, false⟩,
  ⟨some 15, .call f_ref03_Step [(.t 13), (.t 14)], none, false⟩,
  ⟨some 12, .mv (.t 15), none, false⟩,
  ⟨some 16, .ext (.t 12) 0, none, false⟩,
  ⟨some 17, .ext (.t 12) 1, none, false⟩,
  ⟨some 7, .alloc true [(.int .i64 0), (.int .i64 0)], none, false⟩,
  ⟨none, .store 2 [] (.t 7) (.t 16), none, false⟩,
  ⟨some 8, .mv (.t 17), none, false⟩])
def s_ref03_Sides_p2 : SCode := (.region false [⟨some 18, .mv (.t 8), none, false⟩,
  ⟨some 19, .un .not (.t 18), none, false⟩,
  ⟨some 20, .mv (.t 19), none, false⟩,
  ⟨some 21, .mv (.t 1), (some (20, false)), false⟩,
  ⟨some 22, .bin .lss (.t 21) (.v (.int .i64 4)), (some (20, false)), false⟩,
  ⟨some 23, .pick (.t 20) (.v (.bool true)) (.t 22), none, false⟩])
def s_ref03_Sides_p3 : SCode := (.region true [⟨some 24, .load (some 2) (.t 4), none, true⟩,
  ⟨some 25, .load (some 2) (.t 5), none, true⟩,
  ⟨none, .store 2 [(.t 5)] (.t 4) (.t 24), none, false⟩,
  ⟨none, .store 2 [] (.t 5) (.t 25), none, false⟩,
  ⟨some 6, .mv (.v (.bool false)), none, false⟩])
def s_ref03_Sides_p4 : SCode := (.region false [⟨some 27, .mv (.t 1), none, false⟩,
  ⟨some 28, .call f_ref03_Turn [(.t 27)], none, false⟩,
  ⟨some 26, .mv (.t 28), none, false⟩,
  ⟨some 29, .ext (.t 26) 0, none, false⟩,
  ⟨some 30, .ext (.t 26) 1, none, false⟩,
  ⟨some 31, .ext (.t 26) 2, none, false⟩,
  ⟨some 9, .mv (.t 29), none, false⟩,
  ⟨some 10, .mv (.t 30), none, false⟩,
  ⟨some 11, .mv (.t 31), none, false⟩])
def s_ref03_Sides_p5 : SCode := (.region true [⟨some 32, .faddr 0 (.t 2), none, true⟩,
  ⟨some 33, .load none (.t 32), none, true⟩,
  ⟨some 34, .mv (.t 9), none, true⟩,
  ⟨some 35, .bin .add (.t 33) (.t 34), none, true⟩,
  ⟨some 36, .faddr 1 (.t 2), none, true⟩,
  ⟨some 37, .load none (.t 36), none, true⟩,
  ⟨some 38, .build [(.int .i64 0), (.int .i64 0)] [(0, 1, (.t 35)), (1, 1, (.t 37))], none, true⟩,
  ⟨some 39, .faddr 0 (.t 2), none, true⟩,
  ⟨some 40, .load none (.t 39), none, true⟩,
  ⟨some 41, .faddr 1 (.t 2), none, true⟩,
  ⟨some 42, .load none (.t 41), none, true⟩,
  ⟨some 43, .mv (.t 10), none, true⟩,
  ⟨some 44, .bin .add (.t 42) (.t 43), none, true⟩,
  ⟨some 45, .build [(.int .i64 0), (.int .i64 0)] [(0, 1, (.t 40)), (1, 1, (.t 44))], none, true⟩,
  ⟨none, .store 2 [(.t 39), (.t 41)] (.t 4) (.t 38), none, false⟩,
  ⟨none, .store 2 [] (.t 5) (.t 45), none, false⟩,
  ⟨some 6, .mv (.v (.bool true)), none, false⟩])
def s_ref03_Sides_p6 : SCode := (.seq (.kp [1, 2, 4, 5] (.seq (.kp [1, 2, 4, 5, 23] s_ref03_Sides_p2) (.cond (.t 23) (.seq (.kp [4, 5, 6] s_ref03_Sides_p3) .ret) .skip))) (.seq (.kp [2, 4, 5, 9, 10] s_ref03_Sides_p4) (.seq (.kp [4, 5, 6] s_ref03_Sides_p5) .ret)))
def s_ref03_Sides : SFn := ⟨2, [.cell 4 (some 2), .cell 5 (some 2), .t 6], (.seq s_ref03_Sides_p0 (.seq (.kp [1, 2, 4, 5, 8] s_ref03_Sides_p1) s_ref03_Sides_p6))⟩
def s_cell_Dir_p0 : SCode := (.region false [⟨some 12, .load (some 2) (.t 2), none, false⟩,
  ⟨some 13, .mv (.t 5), none, false⟩,
  ⟨some 14, .call f_cell_Step [(.t 12), (.t 13)], none, false⟩,
  ⟨some 11, .mv (.t 14), none, false⟩,
  ⟨some 15, .ext (.t 11) 0, none, false⟩,
  ⟨some 16, .ext (.t 11) 1, none, false⟩,
  ⟨some 6, .alloc true [(.int .i64 0), (.int .i64 0)], none, false⟩,
  ⟨none, .store 2 [] (.t 6) (.t 15), none, false⟩,
  ⟨some 7, .mv (.t 16), none, false⟩])
def s_cell_Dir_p1 : SCode := (.region false [⟨some 17, .mv (.t 7), none, false⟩,
  ⟨some 18, .mv (.t 17), none, false⟩,
  ⟨some 19, .load (some 2) (.t 6), (some (18, true)), false⟩,
  ⟨some 20, .load (some 2) (.t 3), (some (18, true)), false⟩,
  ⟨some 21, .eq false true [.int, .int] (.t 19) (.t 20), (some (18, true)), false⟩,
  ⟨some 22, .pick (.t 18) (.t 21) (.v (.bool false)), none, false⟩])
def s_cell_Dir_p2 : SCode := (.seq (.kp [2, 3, 5, 6, 7, 8] s_cell_Dir_p0) (.seq (.kp [2, 3, 5, 8, 22] s_cell_Dir_p1) (.cond (.t 22) (.seq (.region false [⟨some 23, .mv (.t 5), none, false⟩,
  ⟨some 4, .mv (.t 23), none, false⟩]) .ret) .skip)))
def s_cell_Dir_p3 : SCode := (.seq (.kp [2, 3, 8] (.block 1 (.seq (.region false [⟨some 10, .mv (.t 8), none, false⟩,
  ⟨some 5, .mv (.t 10), none, false⟩]) s_cell_Dir_p2))) (.region false [⟨some 24, .bin .add (.t 8) (.v (.int .i64 1)), none, false⟩,
  ⟨some 8, .mv (.t 24), none, false⟩]))
def s_cell_Dir_p4 : SCode := (.seq (.region false [⟨some 9, .bin .lss (.t 8) (.v (.int .i64 8)), none, false⟩]) (.seq (.kp [2, 3, 8] (.cond (.t 9) .skip (.exit 0))) s_cell_Dir_p3))
def s_cell_Dir_p5 : SCode := (.seq (.kp [] (.seq (.kp [2, 3, 8] (.region false [⟨some 8, .mv (.v (.int .i64 0)), none, false⟩])) (.block 0 (.loop (some [2, 3, 8]) s_cell_Dir_p4)))) (.seq (.region false [⟨some 4, .mv (.v (.int .i64 (-1))), none, false⟩]) .ret))
def s_cell_Dir : SFn := ⟨2, [.t 4], (.seq (.region false [⟨some 2, .box true 2 (.t 0), none, false⟩,
  ⟨some 3, .box true 2 (.t 1), none, false⟩,
  ⟨some 4, .mv (.v (.int .i64 0)), none, false⟩]) s_cell_Dir_p5)⟩
def s_ref03_Dir_p0 : SCode := (.region false [⟨some 13, .load (some 2) (.t 2), none, false⟩,
  ⟨some 14, .mv (.t 5), none, false⟩,
  ⟨some 15, .call f_ref03_Step [(.t 13), (.t 14)], none, false⟩,
  ⟨some 12, .mv (.t 15), none, false⟩,
  ⟨some 16, .ext (.t 12) 0, none, false⟩,
  ⟨some 17, .ext (.t 12) 1, none, false⟩,
  ⟨some 6, .alloc true [(.int .i64 0), (.int .i64 0)], none, false⟩,
  ⟨none, .store 2 [] (.t 6) (.t 16), none, false⟩,
  ⟨some 7, .mv (.t 17), none, false⟩])
def s_ref03_Dir_p1 : SCode := (.region false [⟨some 18, .mv (.t 7), none, false⟩,
  ⟨some 19, .mv (.t 18), none, false⟩,
  ⟨some 20, .load (some 2) (.t 6), (some (19, true)), false⟩,
  ⟨some 21, .load (some 2) (.t 3), (some (19, true)), false⟩,
  ⟨some 22, .eq false true [.int, .int] (.t 20) (.t 21), (some (19, true)), false⟩,
  ⟨some 23, .pick (.t 19) (.t 22) (.v (.bool false)), none, false⟩])
def s_ref03_Dir_p2 : SCode := (.seq (.kp [2, 3, 5, 6, 7] s_ref03_Dir_p0) (.seq (.kp [2, 3, 5, 23] s_ref03_Dir_p1) (.cond (.t 23) (.seq (.region false [⟨some 24, .mv (.t 5), none, false⟩,
  ⟨some 4, .mv (.t 24), none, false⟩]) .ret) .skip)))
def s_ref03_Dir_p3 : SCode := (.seq (.kp [2, 3, 5] (.block 1 s_ref03_Dir_p2)) (.region false [⟨some 10, .mv (.t 5), none, false⟩,
  ⟨some 11, .bin .add (.t 10) (.v (.int .i64 1)), none, false⟩,
  ⟨some 5, .mv (.t 11), none, false⟩]))
def s_ref03_Dir_p4 : SCode := (.seq (.kp [2, 3, 5] (.seq (.region false [⟨some 8, .mv (.t 5), none, false⟩,
  ⟨some 9, .bin .lss (.t 8) (.v (.int .i64 8)), none, false⟩]) (.cond (.t 9) .skip (.exit 0)))) s_ref03_Dir_p3)
def s_ref03_Dir_p5 : SCode := (.seq (.kp [] (.seq (.kp [2, 3, 5] (.region false [⟨some 5, .mv (.v (.int .i64 0)), none, false⟩])) (.block 0 (.loop (some [2, 3, 5]) s_ref03_Dir_p4)))) (.seq (.region false [⟨some 4, .mv (.v (.int .i64 (-1))), none, false⟩]) .ret))
def s_ref03_Dir : SFn := ⟨2, [.t 4], (.seq (.region false [⟨some 2, .box true 2 (.t 0), none, false⟩,
  ⟨some 3, .box true 2 (.t 1), none, false⟩,
  ⟨some 4, .mv (.v (.int .i64 0)), none, false⟩]) s_ref03_Dir_p5)⟩
def s_cell_Back_p0 : SCode := (.region false [⟨some 3, .mv (.t 0), none, false⟩,
  ⟨some 4, .bin .lss (.t 3) (.v (.int .i64 0)), none, false⟩,
  ⟨some 5, .mv (.t 4), none, false⟩,
  ⟨some 6, .mv (.t 0), (some (5, false)), false⟩,
  ⟨some 7, .bin .geq (.t 6) (.v (.int .i64 8)), (some (5, false)), false⟩,
  ⟨some 8, .pick (.t 5) (.v (.bool true)) (.t 7), none, false⟩])
def s_cell_Back_p1 : SCode := (.seq (.kp [0] (.seq (.kp [0, 8] s_cell_Back_p0) (.cond (.t 8) (.seq (.region false [⟨some 2, .mv (.v (.int .i64 (-1))), none, false⟩]) .ret) .skip))) (.seq (.region false [⟨some 9, .mv (.t 0), none, false⟩,
  ⟨some 10, .bin .xor (.t 9) (.v (.int .i64 2)), none, false⟩,
  ⟨some 2, .mv (.t 10), none, false⟩]) .ret))
def s_cell_Back : SFn := ⟨1, [.t 2], (.seq (.region false [⟨some 2, .mv (.v (.int .i64 0)), none, false⟩]) s_cell_Back_p1)⟩
def s_ref03_Back_p0 : SCode := (.region false [⟨some 3, .mv (.t 0), none, false⟩,
  ⟨some 4, .bin .lss (.t 3) (.v (.int .i64 0)), none, false⟩,
  ⟨some 5, .mv (.t 4), none, false⟩,
  ⟨some 6, .mv (.t 0), (some (5, false)), false⟩,
  ⟨some 7, .bin .geq (.t 6) (.v (.int .i64 8)), (some (5, false)), false⟩,
  ⟨some 8, .pick (.t 5) (.v (.bool true)) (.t 7), none, false⟩])
def s_ref03_Back_p1 : SCode := (.region false [⟨some 11, .mv (.t 0), none, false⟩,
  ⟨some 12, .bin .add (.t 11) (.v (.int .i64 2)), none, false⟩,
  ⟨some 13, .bin .rem (.t 12) (.v (.int .i64 4)), none, false⟩,
  ⟨some 2, .mv (.t 13), none, false⟩])
def s_ref03_Back_p2 : SCode := (.region false [⟨some 14, .mv (.t 0), none, false⟩,
  ⟨some 15, .bin .sub (.t 14) (.v (.int .i64 4)), none, false⟩,
  ⟨some 16, .bin .add (.t 15) (.v (.int .i64 2)), none, false⟩,
  ⟨some 17, .bin .rem (.t 16) (.v (.int .i64 4)), none, false⟩,
  ⟨some 18, .bin .add (.v (.int .i64 4)) (.t 17), none, false⟩,
  ⟨some 2, .mv (.t 18), none, false⟩])
def s_ref03_Back_p3 : SCode := (.seq (.kp [0] (.seq (.region false [⟨some 9, .mv (.t 0), none, false⟩,
  ⟨some 10, .bin .lss (.t 9) (.v (.int .i64 4)), none, false⟩]) (.cond (.t 10) (.seq s_ref03_Back_p1 .ret) .skip))) (.seq (.kp [2] s_ref03_Back_p2) .ret))
def s_ref03_Back_p4 : SCode := (.seq (.region false [⟨some 2, .mv (.v (.int .i64 0)), none, false⟩]) (.seq (.kp [0] (.seq (.kp [0, 8] s_ref03_Back_p0) (.cond (.t 8) (.seq (.region false [⟨some 2, .mv (.v (.int .i64 (-1))), none, false⟩]) .ret) .skip))) s_ref03_Back_p3))
def s_ref03_Back : SFn := ⟨1, [.t 2], s_ref03_Back_p4⟩
def s_ref03_Cost_p0 : SCode := (.region false [⟨some 4, .mv (.t 0), none, false⟩,
  ⟨some 5, .bin .lss (.t 4) (.v (.int .i64 0)), none, false⟩,
  ⟨some 6, .mv (.t 5), none, false⟩,
  ⟨some 7, .mv (.t 0), (some (6, false)), false⟩,
  ⟨some 8, .bin .geq (.t 7) (.v (.int .i64 8)), (some (6, false)), false⟩,
  ⟨some 9, .pick (.t 6) (.v (.bool true)) (.t 8), none, false⟩,
  ⟨some 3, .mv (.t 9), none, false⟩])
def s_ref03_Cost_p1 : SCode := (.seq (.region false [⟨some 11, .mv (.t 0), none, false⟩,
  ⟨some 12, .bin .lss (.t 11) (.v (.int .i64 4)), none, false⟩,
  ⟨some 10, .mv (.t 12), none, false⟩]) (.cond (.t 10) (.seq (.region false [⟨some 2, .mv (.v (.int .i64 10)), none, false⟩]) .ret) .skip))
def s_ref03_Cost_p2 : SCode := (.seq (.kp [] (.block 0 (.seq (.kp [0, 3] s_ref03_Cost_p0) (.cond (.t 3) (.seq (.region false [⟨some 2, .mv (.v (.int .i64 0)), none, false⟩]) .ret) s_ref03_Cost_p1)))) (.seq (.region false [⟨some 2, .mv (.v (.int .i64 14)), none, false⟩]) .ret))
def s_ref03_Cost : SFn := ⟨1, [.t 2], (.seq (.region false [⟨some 2, .mv (.v (.int .i64 0)), none, false⟩]) s_ref03_Cost_p2)⟩
def s_law03_CellSteps_p0 : SCode := (.region false [⟨some 18, .load (some 2) (.t 3), none, false⟩,
  ⟨some 19, .mv (.t 2), none, false⟩,
  ⟨some 20, .call f_cell_Step [(.t 18), (.t 19)], none, false⟩,
  ⟨some 17, .mv (.t 20), none, false⟩,
  ⟨some 21, .ext (.t 17) 0, none, false⟩,
  ⟨some 22, .ext (.t 17) 1, none, false⟩,
  ⟨some 7, .alloc true [(.int .i64 0), (.int .i64 0)], none, false⟩,
  ⟨none, .store 2 [] (.t 7) (.t 21), none, false⟩,
  ⟨some 8, .mv (.t 22), none, false⟩])
def s_law03_CellSteps_p1 : SCode := (.region false [⟨some 24, .load (some 2) (.t 3), none, false⟩,
  ⟨some 25, .mv (.t 2), none, false⟩,
  ⟨some 26, .call f_ref03_Step [(.t 24), (.t 25)], none, false⟩,
  ⟨some 23, .mv (.t 26), none, false⟩,
  ⟨some 27, .ext (.t 23) 0, none, false⟩,
  ⟨some 28, .ext (.t 23) 1, none, false⟩,
  ⟨some 9, .alloc true [(.int .i64 0), (.int .i64 0)], none, false⟩,
  ⟨none, .store 2 [] (.t 9) (.t 27), none, false⟩,
  ⟨some 10, .mv (.t 28), none, false⟩])
def s_law03_CellSteps_p2 : SCode := (.region false [⟨some 30, .load (some 2) (.t 3), none, false⟩,
  ⟨some 31, .mv (.t 2), none, false⟩,
  ⟨some 32, .call f_cell_Sides [(.t 30), (.t 31)], none, false⟩,
  ⟨some 29, .mv (.t 32), none, false⟩,
  ⟨some 33, .ext (.t 29) 0, none, false⟩,
  ⟨some 34, .ext (.t 29) 1, none, false⟩,
  ⟨some 35, .ext (.t 29) 2, none, false⟩,
  ⟨some 11, .alloc true [(.int .i64 0), (.int .i64 0)], none, false⟩,
  ⟨some 12, .alloc true [(.int .i64 0), (.int .i64 0)], none, false⟩,
  ⟨none, .store 2 [] (.t 11) (.t 33), none, false⟩,
  ⟨none, .store 2 [] (.t 12) (.t 34), none, false⟩,
  ⟨some 13, .mv (.t 35), none, false⟩])
def s_law03_CellSteps_p3 : SCode := (.region false [⟨some 37, .load (some 2) (.t 3), none, false⟩,
  ⟨some 38, .mv (.t 2), none, false⟩,
  ⟨some 39, .call f_ref03_Sides [(.t 37), (.t 38)], none, false⟩,
  ⟨some 36, .mv (.t 39), none, false⟩,
  ⟨some 40, .ext (.t 36) 0, none, false⟩,
  ⟨some 41, .ext (.t 36) 1, none, false⟩,
  ⟨some 42, .ext (.t 36) 2, none, false⟩,
  ⟨some 14, .alloc true [(.int .i64 0), (.int .i64 0)], none, false⟩,
  ⟨some 15, .alloc true [(.int .i64 0), (.int .i64 0)], none, false⟩,
  ⟨none, .store 2 [] (.t 14) (.t 40), none, false⟩,
  ⟨none, .store 2 [] (.t 15) (.t 41), none, false⟩,
  ⟨some 16, .mv (.t 42), none, false⟩])
def s_law03_CellSteps_p4 : SCode := (.region true [⟨some 43, .load (some 2) (.t 7), none, true⟩,
  ⟨some 44, .load (some 2) (.t 9), none, true⟩,
  ⟨some 45, .eq false true [.int, .int] (.t 43) (.t 44), none, false⟩,
  ⟨some 46, .mv (.t 45), none, false⟩,
  ⟨some 47, .mv (.t 8), (some (46, true)), false⟩,
  ⟨some 48, .mv (.t 10), (some (46, true)), false⟩,
  ⟨some 49, .eq false false [.bool] (.t 47) (.t 48), (some (46, true)), false⟩,
  ⟨some 50, .pick (.t 46) (.t 49) (.v (.bool false)), none, false⟩,
  ⟨some 51, .mv (.t 50), none, false⟩,
  ⟨some 52, .load (some 2) (.t 11), (some (51, true)), true⟩,
  ⟨some 53, .load (some 2) (.t 14), (some (51, true)), true⟩,
  ⟨some 54, .eq false true [.int, .int] (.t 52) (.t 53), (some (51, true)), false⟩,
  ⟨some 55, .pick (.t 51) (.t 54) (.v (.bool false)), none, false⟩,
  ⟨some 56, .mv (.t 55), none, false⟩,
  ⟨some 57, .load (some 2) (.t 12), (some (56, true)), true⟩,
  ⟨some 58, .load (some 2) (.t 15), (some (56, true)), true⟩,
  ⟨some 59, .eq false true [.int, .int] (.t 57) (.t 58), (some (56, true)), false⟩,
  ⟨some 60, .pick (.t 56) (.t 59) (.v (.bool false)), none, false⟩,
  ⟨some 61, .mv (.t 60), none, false⟩,
  ⟨some 62, .mv (.t 13), (some (61, true)), false⟩,
  ⟨some 63, .mv (.t 16), (some (61, true)), false⟩,
  ⟨some 64, .eq false false [.bool] (.t 62) (.t 63), (some (61, true)), false⟩,
  ⟨some 65, .pick (.t 61) (.t 64) (.v (.bool false)), none, false⟩,
  ⟨some 66, .mv (.t 65), none, false⟩,
  ⟨some 67, .load (some 2) (.t 3), (some (66, true)), true⟩,
  ⟨some 69, .load (some 2) (.t 3), (some (66, true)), true⟩,
  ⟨some 68, .call f_cell_Near [(.t 67)], (some (66, true)), true⟩,
  ⟨some 70, .call f_ref03_Near [(.t 69)], (some (66, true)), false⟩,
  ⟨some 71, .eq false false [.bool] (.t 68) (.t 70), (some (66, true)), false⟩,
  ⟨some 72, .pick (.t 66) (.t 71) (.v (.bool false)), none, false⟩,
  ⟨some 73, .mv (.t 72), none, false⟩,
  ⟨some 74, .load (some 2) (.t 3), (some (73, true)), true⟩,
  ⟨some 75, .load (some 2) (.t 4), (some (73, true)), true⟩,
  ⟨some 77, .load (some 2) (.t 3), (some (73, true)), true⟩,
  ⟨some 78, .load (some 2) (.t 4), (some (73, true)), true⟩,
  ⟨some 76, .call f_cell_Dir [(.t 74), (.t 75)], (some (73, true)), true⟩,
  ⟨some 79, .call f_ref03_Dir [(.t 77), (.t 78)], (some (73, true)), false⟩,
  ⟨some 80, .bin .eql (.t 76) (.t 79), (some (73, true)), false⟩,
  ⟨some 81, .pick (.t 73) (.t 80) (.v (.bool false)), none, false⟩,
  ⟨some 82, .mv (.t 81), none, false⟩,
  ⟨some 83, .mv (.t 2), (some (82, true)), false⟩,
  ⟨some 85, .mv (.t 2), (some (82, true)), true⟩,
  ⟨some 84, .call f_cell_Back [(.t 83)], (some (82, true)), false⟩,
  ⟨some 86, .call f_ref03_Back [(.t 85)], (some (82, true)), false⟩,
  ⟨some 87, .bin .eql (.t 84) (.t 86), (some (82, true)), false⟩,
  ⟨some 88, .pick (.t 82) (.t 87) (.v (.bool false)), none, false⟩,
  ⟨some 89, .mv (.t 88), none, false⟩,
  ⟨some 90, .mv (.t 2), (some (89, true)), false⟩,
  ⟨some 92, .mv (.t 2), (some (89, true)), true⟩,
  ⟨some 91, .call f_cell_Cost [(.t 90)], (some (89, true)), false⟩,
  ⟨some 93, .call f_ref03_Cost [(.t 92)], (some (89, true)), false⟩,
  ⟨some 94, .bin .eql (.t 91) (.t 93), (some (89, true)), false⟩,
  ⟨some 95, .pick (.t 89) (.t 94) (.v (.bool false)), none, false⟩,
  ⟨some 96, .mv (.t 95), none, false⟩,
  ⟨some 97, .call f_law03_awake [], (some (96, true)), false⟩,
  ⟨some 98, .pick (.t 96) (.t 97) (.v (.bool false)), none, false⟩,
  ⟨some 6, .mv (.t 98), none, false⟩])
def s_law03_CellSteps_p5 : SCode := (.seq (.kp [2, 3, 4, 7, 8, 9, 10] s_law03_CellSteps_p1) (.seq (.kp [2, 3, 4, 7, 8, 9, 10, 11, 12, 13] s_law03_CellSteps_p2) (.seq (.kp [2, 3, 4, 7, 8, 9, 10, 11, 12, 13, 14, 15, 16] s_law03_CellSteps_p3) (.seq (.kp [6] s_law03_CellSteps_p4) .ret))))
def s_law03_CellSteps_p6 : SCode := (.seq (.region false [⟨some 3, .box true 2 (.t 0), none, false⟩,
  ⟨some 4, .box true 2 (.t 1), none, false⟩,
  ⟨some 6, .mv (.v (.bool false)), none, false⟩]) (.seq (.kp [2, 3, 4, 7, 8] s_law03_CellSteps_p0) s_law03_CellSteps_p5))
def s_law03_CellSteps : SFn := ⟨3, [.t 6], s_law03_CellSteps_p6⟩
def s_cell_between_p0 : SCode := (.region false [⟨some 2, .box true 2 (.t 0), none, false⟩,
  ⟨some 3, .box true 2 (.t 1), none, false⟩,
  ⟨some 4, .alloc true [(.int .i64 0), (.int .i64 0), (.int .i64 0), (.int .i64 0)], none, false⟩])
def s_cell_between_p1 : SCode := (.region false [⟨some 5, .load (some 2) (.t 2), none, false⟩,
  ⟨some 6, .faddr 0 (.t 3), none, false⟩,
  ⟨some 7, .load none (.t 6), none, false⟩,
  ⟨some 8, .faddr 0 (.t 2), none, false⟩,
  ⟨some 9, .load none (.t 8), none, false⟩,
  ⟨some 10, .bin .sub (.t 7) (.t 9), none, false⟩,
  ⟨some 11, .bin .add (.t 10) (.v (.int .i64 1)), none, false⟩,
  ⟨some 12, .faddr 1 (.t 3), none, false⟩,
  ⟨some 13, .load none (.t 12), none, false⟩,
  ⟨some 14, .faddr 1 (.t 2), none, false⟩,
  ⟨some 15, .load none (.t 14), none, false⟩,
  ⟨some 16, .bin .sub (.t 13) (.t 15), none, false⟩,
  ⟨some 17, .bin .add (.t 16) (.v (.int .i64 1)), none, false⟩,
  ⟨some 18, .build [(.int .i64 0), (.int .i64 0), (.int .i64 0), (.int .i64 0)] [(0, 2, (.t 5)), (2, 1, (.t 11)), (3, 1, (.t 17))], none, false⟩,
  ⟨none, .store 4 [] (.t 4) (.t 18), none, false⟩])
def s_cell_between : SFn := ⟨2, [.cell 4 (some 4)], (.seq s_cell_between_p0 (.seq (.kp [4] s_cell_between_p1) .ret))⟩
def s_cell_Meet_p0 : SCode := (.region false [⟨some 2, .box true 4 (.t 0), none, false⟩,
  ⟨some 3, .box true 4 (.t 1), none, false⟩,
  ⟨some 4, .alloc true [(.int .i64 0), (.int .i64 0), (.int .i64 0), (.int .i64 0)], none, false⟩,
  ⟨some 5, .mv (.v (.bool false)), none, false⟩])
def s_cell_Meet_p1 : SCode := (.region false [⟨some 9, .load (some 4) (.t 2), none, false⟩,
  ⟨some 10, .call f_cell_May [(.t 9)], none, false⟩,
  ⟨some 11, .un .not (.t 10), none, false⟩,
  ⟨some 12, .mv (.t 11), none, false⟩,
  ⟨some 13, .load (some 4) (.t 3), (some (12, false)), false⟩,
  ⟨some 14, .call f_cell_May [(.t 13)], (some (12, false)), false⟩,
  ⟨some 15, .un .not (.t 14), (some (12, false)), false⟩,
  ⟨some 16, .pick (.t 12) (.v (.bool true)) (.t 15), none, false⟩])
def s_cell_Meet_p2 : SCode := (.region false [⟨some 17, .build [(.int .i64 0), (.int .i64 0), (.int .i64 0), (.int .i64 0)] [], none, false⟩,
  ⟨none, .store 4 [] (.t 4) (.t 17), none, false⟩,
  ⟨some 5, .mv (.v (.bool false)), none, false⟩])
def s_cell_Meet_p3 : SCode := (.region true [⟨some 18, .load (some 4) (.t 2), none, true⟩,
  ⟨some 20, .load (some 4) (.t 3), none, true⟩,
  ⟨some 19, .call f_cell_last [(.t 18)], none, true⟩,
  ⟨some 21, .call f_cell_last [(.t 20)], none, false⟩,
  ⟨some 6, .alloc true [(.int .i64 0), (.int .i64 0)], none, true⟩,
  ⟨some 7, .alloc true [(.int .i64 0), (.int .i64 0)], none, true⟩,
  ⟨none, .store 2 [] (.t 6) (.t 19), none, false⟩,
  ⟨none, .store 2 [] (.t 7) (.t 21), none, false⟩])
def s_cell_Meet_p4 : SCode := (.region false [⟨some 22, .faddr 0 (.t 2), none, false⟩,
  ⟨some 23, .faddr 0 (.t 22), none, false⟩,
  ⟨some 24, .load none (.t 23), none, false⟩,
  ⟨some 25, .faddr 0 (.t 3), none, false⟩,
  ⟨some 26, .faddr 0 (.t 25), none, false⟩,
  ⟨some 27, .load none (.t 26), none, false⟩,
  ⟨some 28, .mxmn true [(.t 24), (.t 27)], none, false⟩,
  ⟨some 29, .faddr 0 (.t 2), none, false⟩,
  ⟨some 30, .faddr 1 (.t 29), none, false⟩,
  ⟨some 31, .load none (.t 30), none, false⟩,
  ⟨some 32, .faddr 0 (.t 3), none, false⟩,
  ⟨some 33, .faddr 1 (.t 32), none, false⟩,
  ⟨some 34, .load none (.t 33), none, false⟩,
  ⟨some 35, .mxmn true [(.t 31), (.t 34)], none, false⟩,
  ⟨some 36, .build [(.int .i64 0), (.int .i64 0)] [(0, 1, (.t 28)), (1, 1, (.t 35))], none, false⟩,
  ⟨some 37, .faddr 0 (.t 6), none, false⟩,
  ⟨some 38, .load none (.t 37), none, false⟩,
  ⟨some 39, .faddr 0 (.t 7), none, false⟩,
  ⟨some 40, .load none (.t 39), none, false⟩,
  ⟨some 41, .mxmn false [(.t 38), (.t 40)], none, false⟩,
  ⟨some 42, .faddr 1 (.t 6), none, false⟩,
  ⟨some 43, .load none (.t 42), none, false⟩,
  ⟨some 44, .faddr 1 (.t 7), none, false⟩,
  ⟨some 45, .load none (.t 44), none, false⟩,
  ⟨some 46, .mxmn false [(.t 43), (.t 45)], none, false⟩,
  ⟨some 47, .build [(.int .i64 0), (.int .i64 0)] [(0, 1, (.t 41)), (1, 1, (.t 46))], none, false⟩,
  ⟨some 48, .call f_cell_between [(.t 36), (.t 47)], none, false⟩,
  ⟨some 8, .alloc true [(.int .i64 0), (.int .i64 0), (.int .i64 0), (.int .i64 0)], none, false⟩,
  ⟨none, .store 4 [] (.t 8) (.t 48), none, false⟩])
def s_cell_Meet_p5 : SCode := (.region false [⟨some 49, .faddr 2 (.t 8), none, false⟩,
  ⟨some 50, .load none (.t 49), none, false⟩,
  ⟨some 51, .bin .lss (.t 50) (.v (.int .i64 1)), none, false⟩,
  ⟨some 52, .mv (.t 51), none, false⟩,
  ⟨some 53, .faddr 3 (.t 8), (some (52, false)), false⟩,
  ⟨some 54, .load none (.t 53), (some (52, false)), false⟩,
  ⟨some 55, .bin .lss (.t 54) (.v (.int .i64 1)), (some (52, false)), false⟩,
  ⟨some 56, .pick (.t 52) (.v (.bool true)) (.t 55), none, false⟩])
def s_cell_Meet_p6 : SCode := (.region false [⟨some 57, .build [(.int .i64 0), (.int .i64 0), (.int .i64 0), (.int .i64 0)] [], none, false⟩,
  ⟨none, .store 4 [] (.t 4) (.t 57), none, false⟩,
  ⟨some 5, .mv (.v (.bool false)), none, false⟩])
def s_cell_Meet_p7 : SCode := (.seq (.kp [4, 8] (.seq (.kp [4, 8, 56] s_cell_Meet_p5) (.cond (.t 56) (.seq s_cell_Meet_p6 .ret) .skip))) (.seq (.region false [⟨some 58, .load (some 4) (.t 8), none, false⟩,
  ⟨none, .store 4 [] (.t 4) (.t 58), none, false⟩,
  ⟨some 5, .mv (.v (.bool true)), none, false⟩]) .ret))
def s_cell_Meet_p8 : SCode := (.seq s_cell_Meet_p0 (.seq (.kp [2, 3, 4] (.seq (.kp [2, 3, 4, 16] s_cell_Meet_p1) (.cond (.t 16) (.seq s_cell_Meet_p2 .ret) .skip))) (.seq (.kp [2, 3, 4, 6, 7] s_cell_Meet_p3) (.seq (.kp [4, 8] s_cell_Meet_p4) s_cell_Meet_p7))))
def s_cell_Meet : SFn := ⟨2, [.cell 4 (some 4), .t 5], s_cell_Meet_p8⟩
def s_ref03_Meet_p0 : SCode := (.region false [⟨some 2, .box true 4 (.t 0), none, false⟩,
  ⟨some 3, .box true 4 (.t 1), none, false⟩,
  ⟨some 4, .alloc true [(.int .i64 0), (.int .i64 0), (.int .i64 0), (.int .i64 0)], none, false⟩,
  ⟨some 5, .mv (.v (.bool false)), none, false⟩])
def s_ref03_Meet_p1 : SCode := (.region false [⟨some 10, .load (some 4) (.t 2), none, false⟩,
  ⟨some 11, .call f_ref03_May [(.t 10)], none, false⟩,
  ⟨some 12, .un .not (.t 11), none, false⟩,
  ⟨some 13, .mv (.t 12), none, false⟩,
  ⟨some 14, .load (some 4) (.t 3), (some (13, false)), false⟩,
  ⟨some 15, .call f_ref03_May [(.t 14)], (some (13, false)), false⟩,
  ⟨some 16, .un .not (.t 15), (some (13, false)), false⟩,
  ⟨some 17, .pick (.t 13) (.v (.bool true)) (.t 16), none, false⟩])
def s_ref03_Meet_p2 : SCode := (.region false [⟨some 18, .build [(.int .i64 0), (.int .i64 0), (.int .i64 0), (.int .i64 0)] [], none, false⟩,
  ⟨none, .store 4 [] (.t 4) (.t 18), none, false⟩,
  ⟨some 5, .mv (.v (.bool false)), none, false⟩])
def s_ref03_Meet_p3 : SCode := (.region true [⟨some 19, .faddr 0 (.t 2), none, true⟩,
  ⟨some 20, .faddr 0 (.t 19), none, true⟩,
  ⟨some 21, .load none (.t 20), none, true⟩,
  ⟨some 22, .faddr 0 (.t 2), none, true⟩,
  ⟨some 23, .faddr 1 (.t 22), none, true⟩,
  ⟨some 24, .load none (.t 23), none, true⟩,
  ⟨some 6, .mv (.t 21), none, true⟩,
  ⟨some 7, .mv (.t 24), none, false⟩])
def s_ref03_Meet_p4 : SCode := (.region false [⟨some 25, .faddr 0 (.t 3), none, false⟩,
  ⟨some 26, .faddr 0 (.t 25), none, false⟩,
  ⟨some 27, .load none (.t 26), none, false⟩,
  ⟨some 28, .mv (.t 6), none, false⟩,
  ⟨some 29, .bin .gtr (.t 27) (.t 28), none, false⟩])
def s_ref03_Meet_p5 : SCode := (.region false [⟨some 30, .faddr 0 (.t 3), none, false⟩,
  ⟨some 31, .faddr 0 (.t 30), none, false⟩,
  ⟨some 32, .load none (.t 31), none, false⟩,
  ⟨some 6, .mv (.t 32), none, false⟩])
def s_ref03_Meet_p6 : SCode := (.region false [⟨some 33, .faddr 0 (.t 3), none, false⟩,
  ⟨some 34, .faddr 1 (.t 33), none, false⟩,
  ⟨some 35, .load none (.t 34), none, false⟩,
  ⟨some 36, .mv (.t 7), none, false⟩,
  ⟨some 37, .bin .gtr (.t 35) (.t 36), none, false⟩])
def s_ref03_Meet_p7 : SCode := (.region false [⟨some 38, .faddr 0 (.t 3), none, false⟩,
  ⟨some 39, .faddr 1 (.t 38), none, false⟩,
  ⟨some 40, .load none (.t 39), none, false⟩,
  ⟨some 7, .mv (.t 40), none, false⟩])
def s_ref03_Meet_p8 : SCode := (.region true [⟨some 41, .load (some 4) (.t 2), none, true⟩,
  ⟨some 43, .load (some 4) (.t 3), none, true⟩,
  ⟨some 42, .call f_ref03_Last [(.t 41)], none, true⟩,
  ⟨some 44, .call f_ref03_Last [(.t 43)], none, false⟩,
  ⟨some 8, .alloc true [(.int .i64 0), (.int .i64 0)], none, true⟩,
  ⟨some 9, .alloc true [(.int .i64 0), (.int .i64 0)], none, true⟩,
  ⟨none, .store 2 [] (.t 8) (.t 42), none, false⟩,
  ⟨none, .store 2 [] (.t 9) (.t 44), none, false⟩])
def s_ref03_Meet_p9 : SCode := (.region false [⟨some 45, .faddr 0 (.t 9), none, false⟩,
  ⟨some 46, .load none (.t 45), none, false⟩,
  ⟨some 47, .faddr 0 (.t 8), none, false⟩,
  ⟨some 48, .load none (.t 47), none, false⟩,
  ⟨some 49, .bin .lss (.t 46) (.t 48), none, false⟩])
def s_ref03_Meet_p10 : SCode := (.region false [⟨some 50, .faddr 0 (.t 9), none, false⟩,
  ⟨some 51, .load none (.t 50), none, false⟩,
  ⟨some 52, .faddr 0 (.t 8), none, false⟩,
  ⟨none, .store 1 [] (.t 52) (.t 51), none, false⟩])
def s_ref03_Meet_p11 : SCode := (.region false [⟨some 53, .faddr 1 (.t 9), none, false⟩,
  ⟨some 54, .load none (.t 53), none, false⟩,
  ⟨some 55, .faddr 1 (.t 8), none, false⟩,
  ⟨some 56, .load none (.t 55), none, false⟩,
  ⟨some 57, .bin .lss (.t 54) (.t 56), none, false⟩])
def s_ref03_Meet_p12 : SCode := (.region false [⟨some 58, .faddr 1 (.t 9), none, false⟩,
  ⟨some 59, .load none (.t 58), none, false⟩,
  ⟨some 60, .faddr 1 (.t 8), none, false⟩,
  ⟨none, .store 1 [] (.t 60) (.t 59), none, false⟩])
def s_ref03_Meet_p13 : SCode := (.region false [⟨some 61, .faddr 0 (.t 8), none, false⟩,
  ⟨some 62, .load none (.t 61), none, false⟩,
  ⟨some 63, .mv (.t 6), none, false⟩,
  ⟨some 64, .bin .lss (.t 62) (.t 63), none, false⟩,
  ⟨some 65, .mv (.t 64), none, false⟩,
  ⟨some 66, .faddr 1 (.t 8), (some (65, false)), false⟩,
  ⟨some 67, .load none (.t 66), (some (65, false)), false⟩,
  ⟨some 68, .mv (.t 7), (some (65, false)), false⟩,
  ⟨some 69, .bin .lss (.t 67) (.t 68), (some (65, false)), false⟩,
  ⟨some 70, .pick (.t 65) (.v (.bool true)) (.t 69), none, false⟩])
def s_ref03_Meet_p14 : SCode := (.region false [⟨some 71, .build [(.int .i64 0), (.int .i64 0), (.int .i64 0), (.int .i64 0)] [], none, false⟩,
  ⟨none, .store 4 [] (.t 4) (.t 71), none, false⟩,
  ⟨some 5, .mv (.v (.bool false)), none, false⟩])
def s_ref03_Meet_p15 : SCode := (.region false [⟨some 72, .mv (.t 6), none, false⟩,
  ⟨some 73, .mv (.t 7), none, false⟩,
  ⟨some 74, .build [(.int .i64 0), (.int .i64 0)] [(0, 1, (.t 72)), (1, 1, (.t 73))], none, false⟩,
  ⟨some 75, .faddr 0 (.t 8), none, false⟩,
  ⟨some 76, .load none (.t 75), none, false⟩,
  ⟨some 77, .mv (.t 6), none, false⟩,
  ⟨some 78, .bin .sub (.t 76) (.t 77), none, false⟩,
  ⟨some 79, .bin .add (.t 78) (.v (.int .i64 1)), none, false⟩,
  ⟨some 80, .faddr 1 (.t 8), none, false⟩,
  ⟨some 81, .load none (.t 80), none, false⟩,
  ⟨some 82, .mv (.t 7), none, false⟩,
  ⟨some 83, .bin .sub (.t 81) (.t 82), none, false⟩,
  ⟨some 84, .bin .add (.t 83) (.v (.int .i64 1)), none, false⟩,
  ⟨some 85, .build [(.int .i64 0), (.int .i64 0), (.int .i64 0), (.int .i64 0)] [(0, 2, (.t 74)), (2, 1, (.t 79)), (3, 1, (.t 84))], none, false⟩,
  ⟨none, .store 4 [] (.t 4) (.t 85), none, false⟩,
  ⟨some 5, .mv (.v (.bool true)), none, false⟩])
def s_ref03_Meet_p16 : SCode := (.seq (.kp [4, 6, 7, 8] (.seq (.kp [4, 6, 7, 8, 9, 57] s_ref03_Meet_p11) (.cond (.t 57) s_ref03_Meet_p12 .skip))) (.seq (.kp [4, 6, 7, 8] (.seq (.kp [4, 6, 7, 8, 70] s_ref03_Meet_p13) (.cond (.t 70) (.seq s_ref03_Meet_p14 .ret) .skip))) (.seq (.kp [4, 5] s_ref03_Meet_p15) .ret)))
def s_ref03_Meet_p17 : SCode := (.seq (.kp [2, 3, 4, 6, 7] (.seq (.kp [2, 3, 4, 6, 7, 37] s_ref03_Meet_p6) (.cond (.t 37) s_ref03_Meet_p7 .skip))) (.seq (.kp [4, 6, 7, 8, 9] s_ref03_Meet_p8) (.seq (.kp [4, 6, 7, 8, 9] (.seq (.kp [4, 6, 7, 8, 9, 49] s_ref03_Meet_p9) (.cond (.t 49) s_ref03_Meet_p10 .skip))) s_ref03_Meet_p16)))
def s_ref03_Meet_p18 : SCode := (.seq (.kp [2, 3, 4] (.seq (.kp [2, 3, 4, 17] s_ref03_Meet_p1) (.cond (.t 17) (.seq s_ref03_Meet_p2 .ret) .skip))) (.seq (.kp [2, 3, 4, 6, 7] s_ref03_Meet_p3) (.seq (.kp [2, 3, 4, 6, 7] (.seq (.kp [2, 3, 4, 6, 7, 29] s_ref03_Meet_p4) (.cond (.t 29) s_ref03_Meet_p5 .skip))) s_ref03_Meet_p17)))
def s_ref03_Meet : SFn := ⟨2, [.cell 4 (some 4), .t 5], (.seq s_ref03_Meet_p0 s_ref03_Meet_p18)⟩
def s_cell_Hull_p0 : SCode := (.region false [⟨some 2, .box true 4 (.t 0), none, false⟩,
  ⟨some 3, .box true 4 (.t 1), none, false⟩,
  ⟨some 4, .alloc true [(.int .i64 0), (.int .i64 0), (.int .i64 0), (.int .i64 0)], none, false⟩])
def s_cell_Hull_p1 : SCode := (.region false [⟨some 8, .load (some 4) (.t 2), none, false⟩,
  ⟨some 9, .call f_cell_May [(.t 8)], none, false⟩,
  ⟨some 10, .un .not (.t 9), none, false⟩,
  ⟨some 11, .mv (.t 10), none, false⟩,
  ⟨some 12, .load (some 4) (.t 3), (some (11, false)), false⟩,
  ⟨some 13, .call f_cell_May [(.t 12)], (some (11, false)), false⟩,
  ⟨some 14, .un .not (.t 13), (some (11, false)), false⟩,
  ⟨some 15, .pick (.t 11) (.v (.bool true)) (.t 14), none, false⟩])
def s_cell_Hull_p2 : SCode := (.cond (.t 15) (.seq (.region false [⟨some 16, .build [(.int .i64 0), (.int .i64 0), (.int .i64 0), (.int .i64 0)] [], none, false⟩,
  ⟨none, .store 4 [] (.t 4) (.t 16), none, false⟩]) .ret) .skip)
def s_cell_Hull_p3 : SCode := (.region true [⟨some 17, .load (some 4) (.t 2), none, true⟩,
  ⟨some 19, .load (some 4) (.t 3), none, true⟩,
  ⟨some 18, .call f_cell_last [(.t 17)], none, true⟩,
  ⟨some 20, .call f_cell_last [(.t 19)], none, false⟩,
  ⟨some 5, .alloc true [(.int .i64 0), (.int .i64 0)], none, true⟩,
  ⟨some 6, .alloc true [(.int .i64 0), (.int .i64 0)], none, true⟩,
  ⟨none, .store 2 [] (.t 5) (.t 18), none, false⟩,
  ⟨none, .store 2 [] (.t 6) (.t 20), none, false⟩])
def s_cell_Hull_p4 : SCode := (.region false [⟨some 21, .faddr 0 (.t 2), none, false⟩,
  ⟨some 22, .faddr 0 (.t 21), none, false⟩,
  ⟨some 23, .load none (.t 22), none, false⟩,
  ⟨some 24, .faddr 0 (.t 3), none, false⟩,
  ⟨some 25, .faddr 0 (.t 24), none, false⟩,
  ⟨some 26, .load none (.t 25), none, false⟩,
  ⟨some 27, .mxmn false [(.t 23), (.t 26)], none, false⟩,
  ⟨some 28, .faddr 0 (.t 2), none, false⟩,
  ⟨some 29, .faddr 1 (.t 28), none, false⟩,
  ⟨some 30, .load none (.t 29), none, false⟩,
  ⟨some 31, .faddr 0 (.t 3), none, false⟩,
  ⟨some 32, .faddr 1 (.t 31), none, false⟩,
  ⟨some 33, .load none (.t 32), none, false⟩,
  ⟨some 34, .mxmn false [(.t 30), (.t 33)], none, false⟩,
  ⟨some 35, .build [(.int .i64 0), (.int .i64 0)] [(0, 1, (.t 27)), (1, 1, (.t 34))], none, false⟩,
  ⟨some 36, .faddr 0 (.t 5), none, false⟩,
  ⟨some 37, .load none (.t 36), none, false⟩,
  ⟨some 38, .faddr 0 (.t 6), none, false⟩,
  ⟨some 39, .load none (.t 38), none, false⟩,
  ⟨some 40, .mxmn true [(.t 37), (.t 39)], none, false⟩,
  ⟨some 41, .faddr 1 (.t 5), none, false⟩,
  ⟨some 42, .load none (.t 41), none, false⟩,
  ⟨some 43, .faddr 1 (.t 6), none, false⟩,
  ⟨some 44, .load none (.t 43), none, false⟩,
  ⟨some 45, .mxmn true [(.t 42), (.t 44)], none, false⟩,
  ⟨some 46, .build [(.int .i64 0), (.int .i64 0)] [(0, 1, (.t 40)), (1, 1, (.t 45))], none, false⟩,
  ⟨some 47, .call f_cell_between [(.t 35), (.t 46)], none, false⟩,
  ⟨some 7, .alloc true [(.int .i64 0), (.int .i64 0), (.int .i64 0), (.int .i64 0)], none, false⟩,
  ⟨none, .store 4 [] (.t 7) (.t 47), none, false⟩])
def s_cell_Hull_p5 : SCode := (.cond (.t 50) (.seq (.region false [⟨some 51, .build [(.int .i64 0), (.int .i64 0), (.int .i64 0), (.int .i64 0)] [], none, false⟩,
  ⟨none, .store 4 [] (.t 4) (.t 51), none, false⟩]) .ret) .skip)
def s_cell_Hull_p6 : SCode := (.kp [4, 7] (.seq (.region false [⟨some 48, .load (some 4) (.t 7), none, false⟩,
  ⟨some 49, .call f_cell_May [(.t 48)], none, false⟩,
  ⟨some 50, .un .not (.t 49), none, false⟩]) s_cell_Hull_p5))
def s_cell_Hull_p7 : SCode := (.seq (.kp [2, 3, 4, 5, 6] s_cell_Hull_p3) (.seq (.kp [4, 7] s_cell_Hull_p4) (.seq s_cell_Hull_p6 (.seq (.region false [⟨some 52, .load (some 4) (.t 7), none, false⟩,
  ⟨none, .store 4 [] (.t 4) (.t 52), none, false⟩]) .ret))))
def s_cell_Hull : SFn := ⟨2, [.cell 4 (some 4)], (.seq s_cell_Hull_p0 (.seq (.kp [2, 3, 4] (.seq (.kp [2, 3, 4, 15] s_cell_Hull_p1) s_cell_Hull_p2)) s_cell_Hull_p7))⟩
def s_ref03_Hull_p0 : SCode := (.region false [⟨some 2, .box true 4 (.t 0), none, false⟩,
  ⟨some 3, .box true 4 (.t 1), none, false⟩,
  ⟨some 4, .alloc true [(.int .i64 0), (.int .i64 0), (.int .i64 0), (.int .i64 0)], none, false⟩])
def s_ref03_Hull_p1 : SCode := (.region false [⟨some 10, .load (some 4) (.t 2), none, false⟩,
  ⟨some 11, .call f_ref03_May [(.t 10)], none, false⟩,
  ⟨some 12, .un .not (.t 11), none, false⟩,
  ⟨some 13, .mv (.t 12), none, false⟩,
  ⟨some 14, .load (some 4) (.t 3), (some (13, false)), false⟩,
  ⟨some 15, .call f_ref03_May [(.t 14)], (some (13, false)), false⟩,
  ⟨some 16, .un .not (.t 15), (some (13, false)), false⟩,
  ⟨some 17, .pick (.t 13) (.v (.bool true)) (.t 16), none, false⟩])
def s_ref03_Hull_p2 : SCode := (.cond (.t 17) (.seq (.region false [⟨some 18, .build [(.int .i64 0), (.int .i64 0), (.int .i64 0), (.int .i64 0)] [], none, false⟩,
  ⟨none, .store 4 [] (.t 4) (.t 18), none, false⟩]) .ret) .skip)
def s_ref03_Hull_p3 : SCode := (.region true [⟨some 19, .faddr 0 (.t 2), none, true⟩,
  ⟨some 20, .faddr 0 (.t 19), none, true⟩,
  ⟨some 21, .load none (.t 20), none, true⟩,
  ⟨some 22, .faddr 0 (.t 2), none, true⟩,
  ⟨some 23, .faddr 1 (.t 22), none, true⟩,
  ⟨some 24, .load none (.t 23), none, true⟩,
  ⟨some 5, .mv (.t 21), none, true⟩,
  ⟨some 6, .mv (.t 24), none, false⟩])
def s_ref03_Hull_p4 : SCode := (.region false [⟨some 25, .faddr 0 (.t 3), none, false⟩,
  ⟨some 26, .faddr 0 (.t 25), none, false⟩,
  ⟨some 27, .load none (.t 26), none, false⟩,
  ⟨some 28, .mv (.t 5), none, false⟩,
  ⟨some 29, .bin .lss (.t 27) (.t 28), none, false⟩])
def s_ref03_Hull_p5 : SCode := (.region false [⟨some 30, .faddr 0 (.t 3), none, false⟩,
  ⟨some 31, .faddr 0 (.t 30), none, false⟩,
  ⟨some 32, .load none (.t 31), none, false⟩,
  ⟨some 5, .mv (.t 32), none, false⟩])
def s_ref03_Hull_p6 : SCode := (.region false [⟨some 33, .faddr 0 (.t 3), none, false⟩,
  ⟨some 34, .faddr 1 (.t 33), none, false⟩,
  ⟨some 35, .load none (.t 34), none, false⟩,
  ⟨some 36, .mv (.t 6), none, false⟩,
  ⟨some 37, .bin .lss (.t 35) (.t 36), none, false⟩])
def s_ref03_Hull_p7 : SCode := (.region false [⟨some 38, .faddr 0 (.t 3), none, false⟩,
  ⟨some 39, .faddr 1 (.t 38), none, false⟩,
  ⟨some 40, .load none (.t 39), none, false⟩,
  ⟨some 6, .mv (.t 40), none, false⟩])
def s_ref03_Hull_p8 : SCode := (.region true [⟨some 41, .load (some 4) (.t 2), none, true⟩,
  ⟨some 43, .load (some 4) (.t 3), none, true⟩,
  ⟨some 42, .call f_ref03_Last [(.t 41)], none, true⟩,
  ⟨some 44, .call f_ref03_Last [(.t 43)], none, false⟩,
  ⟨some 7, .alloc true [(.int .i64 0), (.int .i64 0)], none, true⟩,
  ⟨some 8, .alloc true [(.int .i64 0), (.int .i64 0)], none, true⟩,
  ⟨none, .store 2 [] (.t 7) (.t 42), none, false⟩,
  ⟨none, .store 2 [] (.t 8) (.t 44), none, false⟩])
def s_ref03_Hull_p9 : SCode := (.region false [⟨some 45, .faddr 0 (.t 8), none, false⟩,
  ⟨some 46, .load none (.t 45), none, false⟩,
  ⟨some 47, .faddr 0 (.t 7), none, false⟩,
  ⟨some 48, .load none (.t 47), none, false⟩,
  ⟨some 49, .bin .gtr (.t 46) (.t 48), none, false⟩])
def s_ref03_Hull_p10 : SCode := (.region false [⟨some 50, .faddr 0 (.t 8), none, false⟩,
  ⟨some 51, .load none (.t 50), none, false⟩,
  ⟨some 52, .faddr 0 (.t 7), none, false⟩,
  ⟨none, .store 1 [] (.t 52) (.t 51), none, false⟩])
def s_ref03_Hull_p11 : SCode := (.region false [⟨some 53, .faddr 1 (.t 8), none, false⟩,
  ⟨some 54, .load none (.t 53), none, false⟩,
  ⟨some 55, .faddr 1 (.t 7), none, false⟩,
  ⟨some 56, .load none (.t 55), none, false⟩,
  ⟨some 57, .bin .gtr (.t 54) (.t 56), none, false⟩])
def s_ref03_Hull_p12 : SCode := (.region false [⟨some 58, .faddr 1 (.t 8), none, false⟩,
  ⟨some 59, .load none (.t 58), none, false⟩,
  ⟨some 60, .faddr 1 (.t 7), none, false⟩,
  ⟨none, .store 1 [] (.t 60) (.t 59), none, false⟩])
def s_ref03_Hull_p13 : SCode := (.region false [⟨some 61, .mv (.t 5), none, false⟩,
  ⟨some 62, .mv (.t 6), none, false⟩,
  ⟨some 63, .build [(.int .i64 0), (.int .i64 0)] [(0, 1, (.t 61)), (1, 1, (.t 62))], none, false⟩,
  ⟨some 64, .faddr 0 (.t 7), none, false⟩,
  ⟨some 65, .load none (.t 64), none, false⟩,
  ⟨some 66, .mv (.t 5), none, false⟩,
  ⟨some 67, .bin .sub (.t 65) (.t 66), none, false⟩,
  ⟨some 68, .bin .add (.t 67) (.v (.int .i64 1)), none, false⟩,
  ⟨some 69, .faddr 1 (.t 7), none, false⟩,
  ⟨some 70, .load none (.t 69), none, false⟩,
  ⟨some 71, .mv (.t 6), none, false⟩,
  ⟨some 72, .bin .sub (.t 70) (.t 71), none, false⟩,
  ⟨some 73, .bin .add (.t 72) (.v (.int .i64 1)), none, false⟩,
  ⟨some 74, .build [(.int .i64 0), (.int .i64 0), (.int .i64 0), (.int .i64 0)] [(0, 2, (.t 63)), (2, 1, (.t 68)), (3, 1, (.t 73))], none, false⟩,
  ⟨some 9, .alloc true [(.int .i64 0), (.int .i64 0), (.int .i64 0), (.int .i64 0)], none, false⟩,
  ⟨none, .store 4 [] (.t 9) (.t 74), none, false⟩])
def s_ref03_Hull_p14 : SCode := (.cond (.t 77) (.seq (.region false [⟨some 78, .build [(.int .i64 0), (.int .i64 0), (.int .i64 0), (.int .i64 0)] [], none, false⟩,
  ⟨none, .store 4 [] (.t 4) (.t 78), none, false⟩]) .ret) .skip)
def s_ref03_Hull_p15 : SCode := (.kp [4, 9] (.seq (.region false [⟨some 75, .load (some 4) (.t 9), none, false⟩,
  ⟨some 76, .call f_ref03_May [(.t 75)], none, false⟩,
  ⟨some 77, .un .not (.t 76), none, false⟩]) s_ref03_Hull_p14))
def s_ref03_Hull_p16 : SCode := (.seq (.kp [4, 5, 6, 7] (.seq (.kp [4, 5, 6, 7, 8, 57] s_ref03_Hull_p11) (.cond (.t 57) s_ref03_Hull_p12 .skip))) (.seq (.kp [4, 9] s_ref03_Hull_p13) (.seq s_ref03_Hull_p15 (.seq (.region false [⟨some 79, .load (some 4) (.t 9), none, false⟩,
  ⟨none, .store 4 [] (.t 4) (.t 79), none, false⟩]) .ret))))
def s_ref03_Hull_p17 : SCode := (.seq (.kp [2, 3, 4, 5, 6] (.seq (.kp [2, 3, 4, 5, 6, 37] s_ref03_Hull_p6) (.cond (.t 37) s_ref03_Hull_p7 .skip))) (.seq (.kp [4, 5, 6, 7, 8] s_ref03_Hull_p8) (.seq (.kp [4, 5, 6, 7, 8] (.seq (.kp [4, 5, 6, 7, 8, 49] s_ref03_Hull_p9) (.cond (.t 49) s_ref03_Hull_p10 .skip))) s_ref03_Hull_p16)))
def s_ref03_Hull_p18 : SCode := (.seq (.kp [2, 3, 4] (.seq (.kp [2, 3, 4, 17] s_ref03_Hull_p1) s_ref03_Hull_p2)) (.seq (.kp [2, 3, 4, 5, 6] s_ref03_Hull_p3) (.seq (.kp [2, 3, 4, 5, 6] (.seq (.kp [2, 3, 4, 5, 6, 29] s_ref03_Hull_p4) (.cond (.t 29) s_ref03_Hull_p5 .skip))) s_ref03_Hull_p17)))
def s_ref03_Hull : SFn := ⟨2, [.cell 4 (some 4)], (.seq s_ref03_Hull_p0 s_ref03_Hull_p18)⟩
def s_cell_Within_p0 : SCode := (.region true [⟨some 5, .load (some 4) (.t 2), none, false⟩,
  ⟨some 6, .call f_cell_May [(.t 5)], none, false⟩,
  ⟨some 7, .mv (.t 6), none, false⟩,
  ⟨some 8, .load (some 4) (.t 3), (some (7, true)), true⟩,
  ⟨some 9, .faddr 0 (.t 2), (some (7, true)), true⟩,
  ⟨some 10, .load (some 2) (.t 9), (some (7, true)), true⟩,
  ⟨some 11, .call f_cell_Has [(.t 8), (.t 10)], (some (7, true)), false⟩,
  ⟨some 12, .pick (.t 7) (.t 11) (.v (.bool false)), none, false⟩,
  ⟨some 13, .mv (.t 12), none, false⟩,
  ⟨some 14, .load (some 4) (.t 3), (some (13, true)), true⟩,
  ⟨some 15, .load (some 4) (.t 2), (some (13, true)), true⟩,
  ⟨some 16, .call f_cell_last [(.t 15)], (some (13, true)), true⟩,
  ⟨some 17, .call f_cell_Has [(.t 14), (.t 16)], (some (13, true)), false⟩,
  ⟨some 18, .pick (.t 13) (.t 17) (.v (.bool false)), none, false⟩,
  ⟨some 4, .mv (.t 18), none, false⟩])
def s_cell_Within_p1 : SCode := (.seq (.region false [⟨some 2, .box true 4 (.t 0), none, false⟩,
  ⟨some 3, .box true 4 (.t 1), none, false⟩,
  ⟨some 4, .mv (.v (.bool false)), none, false⟩]) (.seq (.kp [4] s_cell_Within_p0) .ret))
def s_cell_Within : SFn := ⟨2, [.t 4], s_cell_Within_p1⟩
def s_ref03_Within_p0 : SCode := (.region true [⟨some 5, .load (some 4) (.t 2), none, false⟩,
  ⟨some 6, .call f_ref03_May [(.t 5)], none, false⟩,
  ⟨some 7, .mv (.t 6), none, false⟩,
  ⟨some 8, .load (some 4) (.t 3), (some (7, true)), true⟩,
  ⟨some 9, .faddr 0 (.t 2), (some (7, true)), true⟩,
  ⟨some 10, .load (some 2) (.t 9), (some (7, true)), true⟩,
  ⟨some 11, .call f_ref03_Has [(.t 8), (.t 10)], (some (7, true)), false⟩,
  ⟨some 12, .pick (.t 7) (.t 11) (.v (.bool false)), none, false⟩,
  ⟨some 13, .mv (.t 12), none, false⟩,
  ⟨some 14, .load (some 4) (.t 3), (some (13, true)), true⟩,
  ⟨some 15, .load (some 4) (.t 2), (some (13, true)), true⟩,
  ⟨some 16, .call f_ref03_Last [(.t 15)], (some (13, true)), true⟩,
  ⟨some 17, .call f_ref03_Has [(.t 14), (.t 16)], (some (13, true)), false⟩,
  ⟨some 18, .pick (.t 13) (.t 17) (.v (.bool false)), none, false⟩,
  ⟨some 4, .mv (.t 18), none, false⟩])
def s_ref03_Within_p1 : SCode := (.seq (.region false [⟨some 2, .box true 4 (.t 0), none, false⟩,
  ⟨some 3, .box true 4 (.t 1), none, false⟩,
  ⟨some 4, .mv (.v (.bool false)), none, false⟩]) (.seq (.kp [4] s_ref03_Within_p0) .ret))
def s_ref03_Within : SFn := ⟨2, [.t 4], s_ref03_Within_p1⟩
def s_law03_CellRects_p0 : SCode := (.region false [⟨some 3, .box true 4 (.t 0), none, false⟩,
  ⟨some 4, .box true 4 (.t 1), none, false⟩,
  ⟨some 5, .box true 2 (.t 2), none, false⟩,
  ⟨some 6, .mv (.v (.bool false)), none, false⟩])
def s_law03_CellRects_p1 : SCode := (.region false [⟨some 12, .load (some 4) (.t 3), none, false⟩,
  ⟨some 13, .load (some 4) (.t 4), none, false⟩,
  ⟨some 14, .call f_cell_Meet [(.t 12), (.t 13)], none, false⟩,
  ⟨some 11, .mv (.t 14), none, false⟩,
  ⟨some 15, .ext (.t 11) 0, none, false⟩,
  ⟨some 16, .ext (.t 11) 1, none, false⟩,
  ⟨some 7, .alloc true [(.int .i64 0), (.int .i64 0), (.int .i64 0), (.int .i64 0)], none, false⟩,
  ⟨none, .store 4 [] (.t 7) (.t 15), none, false⟩,
  ⟨some 8, .mv (.t 16), none, false⟩])
def s_law03_CellRects_p2 : SCode := (.region false [⟨some 18, .load (some 4) (.t 3), none, false⟩,
  ⟨some 19, .load (some 4) (.t 4), none, false⟩,
  ⟨some 20, .call f_ref03_Meet [(.t 18), (.t 19)], none, false⟩,
  ⟨some 17, .mv (.t 20), none, false⟩,
  ⟨some 21, .ext (.t 17) 0, none, false⟩,
  ⟨some 22, .ext (.t 17) 1, none, false⟩,
  ⟨some 9, .alloc true [(.int .i64 0), (.int .i64 0), (.int .i64 0), (.int .i64 0)], none, false⟩,
  ⟨none, .store 4 [] (.t 9) (.t 21), none, false⟩,
  ⟨some 10, .mv (.t 22), none, false⟩])
def s_law03_CellRects_p3 : SCode := (.region true [⟨some 23, .load (some 4) (.t 7), none, true⟩,
  ⟨some 24, .load (some 4) (.t 9), none, true⟩,
  ⟨some 25, .eq false true [.int, .int, .int, .int] (.t 23) (.t 24), none, false⟩,
  ⟨some 26, .mv (.t 25), none, false⟩,
  ⟨some 27, .mv (.t 8), (some (26, true)), false⟩,
  ⟨some 28, .mv (.t 10), (some (26, true)), false⟩,
  ⟨some 29, .eq false false [.bool] (.t 27) (.t 28), (some (26, true)), false⟩,
  ⟨some 30, .pick (.t 26) (.t 29) (.v (.bool false)), none, false⟩,
  ⟨some 31, .mv (.t 30), none, false⟩,
  ⟨some 32, .load (some 4) (.t 3), (some (31, true)), true⟩,
  ⟨some 33, .load (some 4) (.t 4), (some (31, true)), true⟩,
  ⟨some 35, .load (some 4) (.t 3), (some (31, true)), true⟩,
  ⟨some 36, .load (some 4) (.t 4), (some (31, true)), true⟩,
  ⟨some 34, .call f_cell_Hull [(.t 32), (.t 33)], (some (31, true)), true⟩,
  ⟨some 37, .call f_ref03_Hull [(.t 35), (.t 36)], (some (31, true)), false⟩,
  ⟨some 38, .eq false true [.int, .int, .int, .int] (.t 34) (.t 37), (some (31, true)), false⟩,
  ⟨some 39, .pick (.t 31) (.t 38) (.v (.bool false)), none, false⟩,
  ⟨some 40, .mv (.t 39), none, false⟩,
  ⟨some 41, .load (some 4) (.t 3), (some (40, true)), true⟩,
  ⟨some 43, .load (some 4) (.t 3), (some (40, true)), true⟩,
  ⟨some 42, .call f_cell_May [(.t 41)], (some (40, true)), true⟩,
  ⟨some 44, .call f_ref03_May [(.t 43)], (some (40, true)), false⟩,
  ⟨some 45, .eq false false [.bool] (.t 42) (.t 44), (some (40, true)), false⟩,
  ⟨some 46, .pick (.t 40) (.t 45) (.v (.bool false)), none, false⟩,
  ⟨some 47, .mv (.t 46), none, false⟩,
  ⟨some 48, .load (some 4) (.t 3), (some (47, true)), true⟩,
  ⟨some 49, .load (some 2) (.t 5), (some (47, true)), true⟩,
  ⟨some 51, .load (some 4) (.t 3), (some (47, true)), true⟩,
  ⟨some 52, .load (some 2) (.t 5), (some (47, true)), true⟩,
  ⟨some 50, .call f_cell_Has [(.t 48), (.t 49)], (some (47, true)), true⟩,
  ⟨some 53, .call f_ref03_Has [(.t 51), (.t 52)], (some (47, true)), false⟩,
  ⟨some 54, .eq false false [.bool] (.t 50) (.t 53), (some (47, true)), false⟩,
  ⟨some 55, .pick (.t 47) (.t 54) (.v (.bool false)), none, false⟩,
  ⟨some 56, .mv (.t 55), none, false⟩,
  ⟨some 57, .load (some 4) (.t 3), (some (56, true)), true⟩,
  ⟨some 58, .load (some 4) (.t 4), (some (56, true)), true⟩,
  ⟨some 60, .load (some 4) (.t 3), (some (56, true)), true⟩,
  ⟨some 61, .load (some 4) (.t 4), (some (56, true)), true⟩,
  ⟨some 59, .call f_cell_Within [(.t 57), (.t 58)], (some (56, true)), true⟩,
  ⟨some 62, .call f_ref03_Within [(.t 60), (.t 61)], (some (56, true)), false⟩,
  ⟨some 63, .eq false false [.bool] (.t 59) (.t 62), (some (56, true)), false⟩,
  ⟨some 64, .pick (.t 56) (.t 63) (.v (.bool false)), none, false⟩,
  ⟨some 65, .mv (.t 64), none, false⟩,
  ⟨some 66, .call f_law03_awake [], (some (65, true)), false⟩,
  ⟨some 67, .pick (.t 65) (.t 66) (.v (.bool false)), none, false⟩,
  ⟨some 6, .mv (.t 67), none, false⟩])
def s_law03_CellRects : SFn := ⟨3, [.t 6], (.seq s_law03_CellRects_p0 (.seq (.kp [3, 4, 5, 7, 8] s_law03_CellRects_p1) (.seq (.kp [3, 4, 5, 7, 8, 9, 10] s_law03_CellRects_p2) (.seq (.kp [6] s_law03_CellRects_p3) .ret))))⟩
def s_cell_amount_p0 : SCode := (.region false [⟨some 5, .mv (.t 0), none, false⟩,
  ⟨some 6, .mv (.t 1), none, false⟩,
  ⟨some 7, .bin .sub (.t 5) (.t 6), none, false⟩,
  ⟨some 8, .mv (.t 1), none, false⟩,
  ⟨some 9, .mv (.t 0), none, false⟩,
  ⟨some 10, .bin .sub (.t 8) (.t 9), none, false⟩,
  ⟨some 11, .mxmn true [(.t 7), (.t 10)], none, false⟩,
  ⟨some 4, .mv (.t 11), none, false⟩])
def s_cell_amount : SFn := ⟨2, [.t 4], (.seq (.region false [⟨some 4, .mv (.v (.int .i64 0)), none, false⟩]) (.seq (.kp [4] s_cell_amount_p0) .ret))⟩
def s_cell_Apart_p0 : SCode := (.region false [⟨some 5, .load (some 2) (.t 2), none, false⟩,
  ⟨some 6, .call f_cell_Near [(.t 5)], none, false⟩,
  ⟨some 7, .un .not (.t 6), none, false⟩,
  ⟨some 8, .mv (.t 7), none, false⟩,
  ⟨some 9, .load (some 2) (.t 3), (some (8, false)), false⟩,
  ⟨some 10, .call f_cell_Near [(.t 9)], (some (8, false)), false⟩,
  ⟨some 11, .un .not (.t 10), (some (8, false)), false⟩,
  ⟨some 12, .pick (.t 8) (.v (.bool true)) (.t 11), none, false⟩])
def s_cell_Apart_p1 : SCode := (.region true [⟨some 13, .faddr 0 (.t 2), none, true⟩,
  ⟨some 14, .load none (.t 13), none, true⟩,
  ⟨some 15, .faddr 0 (.t 3), none, true⟩,
  ⟨some 16, .load none (.t 15), none, true⟩,
  ⟨some 18, .faddr 1 (.t 2), none, true⟩,
  ⟨some 19, .load none (.t 18), none, true⟩,
  ⟨some 20, .faddr 1 (.t 3), none, true⟩,
  ⟨some 21, .load none (.t 20), none, true⟩,
  ⟨some 17, .call f_cell_amount [(.t 14), (.t 16)], none, true⟩,
  ⟨some 22, .call f_cell_amount [(.t 19), (.t 21)], none, false⟩,
  ⟨some 23, .mxmn true [(.t 17), (.t 22)], none, false⟩,
  ⟨some 4, .mv (.t 23), none, false⟩])
def s_cell_Apart_p2 : SCode := (.seq (.region false [⟨some 2, .box true 2 (.t 0), none, false⟩,
  ⟨some 3, .box true 2 (.t 1), none, false⟩,
  ⟨some 4, .mv (.v (.int .i64 0)), none, false⟩]) (.seq (.kp [2, 3] (.seq (.kp [2, 3, 12] s_cell_Apart_p0) (.cond (.t 12) (.seq (.region false [⟨some 4, .mv (.v (.int .i64 0)), none, false⟩]) .ret) .skip))) (.seq (.kp [4] s_cell_Apart_p1) .ret)))
def s_cell_Apart : SFn := ⟨2, [.t 4], s_cell_Apart_p2⟩
def s_fixed_amount_p0 : SCode := (.seq (.region false [⟨some 5, .mv (.t 0), none, false⟩,
  ⟨some 6, .conv .u64 (.t 5), none, false⟩,
  ⟨some 7, .un .neg (.t 6), none, false⟩,
  ⟨some 2, .mv (.t 7), none, false⟩]) .ret)
def s_fixed_amount_p1 : SCode := (.seq (.kp [0] (.seq (.region false [⟨some 3, .mv (.t 0), none, false⟩,
  ⟨some 4, .bin .lss (.t 3) (.v (.int .i64 0)), none, false⟩]) (.cond (.t 4) s_fixed_amount_p0 .skip))) (.seq (.region false [⟨some 8, .mv (.t 0), none, false⟩,
  ⟨some 9, .conv .u64 (.t 8), none, false⟩,
  ⟨some 2, .mv (.t 9), none, false⟩]) .ret))
def s_fixed_amount : SFn := ⟨1, [.t 2], (.seq (.region false [⟨some 2, .mv (.v (.int .u64 0)), none, false⟩]) s_fixed_amount_p1)⟩
def s_math_bits_Mul64_p0 : SCode := (.region false [⟨some 22, .mv (.t 6), none, false⟩,
  ⟨some 23, .mv (.t 8), none, false⟩,
  ⟨some 24, .bin .mul (.t 22) (.t 23), none, false⟩,
  ⟨some 10, .mv (.t 24), none, false⟩])
def s_math_bits_Mul64_p1 : SCode := (.region false [⟨some 25, .mv (.t 7), none, false⟩,
  ⟨some 26, .mv (.t 8), none, false⟩,
  ⟨some 27, .bin .mul (.t 25) (.t 26), none, false⟩,
  ⟨some 28, .mv (.t 10), none, false⟩,
  ⟨some 29, .bin .shr (.t 28) (.v (.int .u64 32)), none, false⟩,
  ⟨some 30, .bin .add (.t 27) (.t 29), none, false⟩,
  ⟨some 11, .mv (.t 30), none, false⟩])
def s_math_bits_Mul64_p2 : SCode := (.region false [⟨some 35, .mv (.t 12), none, false⟩,
  ⟨some 36, .mv (.t 6), none, false⟩,
  ⟨some 37, .mv (.t 9), none, false⟩,
  ⟨some 38, .bin .mul (.t 36) (.t 37), none, false⟩,
  ⟨some 39, .bin .add (.t 35) (.t 38), none, false⟩,
  ⟨some 12, .mv (.t 39), none, false⟩])
def s_math_bits_Mul64_p3 : SCode := (.region false [⟨some 40, .mv (.t 7), none, false⟩,
  ⟨some 41, .mv (.t 9), none, false⟩,
  ⟨some 42, .bin .mul (.t 40) (.t 41), none, false⟩,
  ⟨some 43, .mv (.t 13), none, false⟩,
  ⟨some 44, .bin .add (.t 42) (.t 43), none, false⟩,
  ⟨some 45, .mv (.t 12), none, false⟩,
  ⟨some 46, .bin .shr (.t 45) (.v (.int .u64 32)), none, false⟩,
  ⟨some 47, .bin .add (.t 44) (.t 46), none, false⟩,
  ⟨some 4, .mv (.t 47), none, false⟩])
def s_math_bits_Mul64_p4 : SCode := (.region false [⟨some 48, .mv (.t 0), none, false⟩,
  ⟨some 49, .mv (.t 1), none, false⟩,
  ⟨some 50, .bin .mul (.t 48) (.t 49), none, false⟩,
  ⟨some 5, .mv (.t 50), none, false⟩])
def s_math_bits_Mul64_p5 : SCode := (.seq (.region false [⟨some 33, .mv (.t 11), none, false⟩,
  ⟨some 34, .bin .shr (.t 33) (.v (.int .u64 32)), none, false⟩,
  ⟨some 13, .mv (.t 34), none, false⟩]) (.seq (.kp [0, 1, 7, 9, 12, 13] s_math_bits_Mul64_p2) (.seq (.kp [0, 1, 4] s_math_bits_Mul64_p3) (.seq s_math_bits_Mul64_p4 .ret))))
def s_math_bits_Mul64_p6 : SCode := (.seq (.kp [0, 1, 6, 7, 9, 11] s_math_bits_Mul64_p1) (.seq (.region false [⟨some 31, .mv (.t 11), none, false⟩,
  ⟨some 32, .bin .and (.t 31) (.v (.int .u64 4294967295)), none, false⟩,
  ⟨some 12, .mv (.t 32), none, false⟩]) s_math_bits_Mul64_p5))
def s_math_bits_Mul64_p7 : SCode := (.seq (.region false [⟨some 20, .mv (.t 1), none, false⟩,
  ⟨some 21, .bin .shr (.t 20) (.v (.int .u64 32)), none, false⟩,
  ⟨some 9, .mv (.t 21), none, false⟩]) (.seq s_math_bits_Mul64_p0 s_math_bits_Mul64_p6))
def s_math_bits_Mul64_p8 : SCode := (.seq (.region false [⟨some 16, .mv (.t 0), none, false⟩,
  ⟨some 17, .bin .shr (.t 16) (.v (.int .u64 32)), none, false⟩,
  ⟨some 7, .mv (.t 17), none, false⟩]) (.seq (.region false [⟨some 18, .mv (.t 1), none, false⟩,
  ⟨some 19, .bin .and (.t 18) (.v (.int .u64 4294967295)), none, false⟩,
  ⟨some 8, .mv (.t 19), none, false⟩]) s_math_bits_Mul64_p7))
def s_math_bits_Mul64_p9 : SCode := (.seq (.region false [⟨some 4, .mv (.v (.int .u64 0)), none, false⟩,
  ⟨some 5, .mv (.v (.int .u64 0)), none, false⟩]) (.seq (.region false [⟨some 14, .mv (.t 0), none, false⟩,
  ⟨some 15, .bin .and (.t 14) (.v (.int .u64 4294967295)), none, false⟩,
  ⟨some 6, .mv (.t 15), none, false⟩]) s_math_bits_Mul64_p8))
def s_math_bits_Mul64 : SFn := ⟨2, [.t 4, .t 5], s_math_bits_Mul64_p9⟩
def s_fixed_signed_p0 : SCode := (.region false [⟨some 7, .mv (.t 1), none, false⟩,
  ⟨some 8, .mv (.t 7), none, false⟩,
  ⟨some 9, .mv (.t 0), (some (8, true)), false⟩,
  ⟨some 10, .bin .leq (.t 9) (.v (.int .u64 9223372036854775808)), (some (8, true)), false⟩,
  ⟨some 11, .pick (.t 8) (.t 10) (.v (.bool false)), none, false⟩,
  ⟨some 6, .mv (.t 11), none, false⟩])
def s_fixed_signed_p1 : SCode := (.region false [⟨some 12, .mv (.t 0), none, false⟩,
  ⟨some 13, .un .neg (.t 12), none, false⟩,
  ⟨some 14, .conv .i64 (.t 13), none, false⟩,
  ⟨some 4, .mv (.t 14), none, false⟩,
  ⟨some 5, .mv (.v (.bool true)), none, false⟩])
def s_fixed_signed_p2 : SCode := (.region false [⟨some 16, .mv (.t 1), none, false⟩,
  ⟨some 17, .un .not (.t 16), none, false⟩,
  ⟨some 18, .mv (.t 17), none, false⟩,
  ⟨some 19, .mv (.t 0), (some (18, true)), false⟩,
  ⟨some 20, .bin .lss (.t 19) (.v (.int .u64 9223372036854775808)), (some (18, true)), false⟩,
  ⟨some 21, .pick (.t 18) (.t 20) (.v (.bool false)), none, false⟩,
  ⟨some 15, .mv (.t 21), none, false⟩])
def s_fixed_signed_p3 : SCode := (.region false [⟨some 22, .mv (.t 0), none, false⟩,
  ⟨some 23, .conv .i64 (.t 22), none, false⟩,
  ⟨some 4, .mv (.t 23), none, false⟩,
  ⟨some 5, .mv (.v (.bool true)), none, false⟩])
def s_fixed_signed_p4 : SCode := (.seq (.kp [] (.block 0 (.seq (.kp [0, 1, 6] s_fixed_signed_p0) (.cond (.t 6) (.seq (.kp [4, 5] s_fixed_signed_p1) .ret) (.seq (.kp [0, 15] s_fixed_signed_p2) (.cond (.t 15) (.seq s_fixed_signed_p3 .ret) .skip)))))) (.seq (.region false [⟨some 4, .mv (.v (.int .i64 0)), none, false⟩,
  ⟨some 5, .mv (.v (.bool false)), none, false⟩]) .ret))
def s_fixed_signed : SFn := ⟨2, [.t 4, .t 5], (.seq (.region false [⟨some 4, .mv (.v (.int .i64 0)), none, false⟩,
  ⟨some 5, .mv (.v (.bool false)), none, false⟩]) s_fixed_signed_p4)⟩
def s_fixed_Octile_p0 : SCode := (.region false [⟨some 14, .mv (.t 0), none, false⟩,
  ⟨some 15, .call f_fixed_amount [(.t 14)], none, false⟩,
  ⟨some 16, .mv (.t 1), none, false⟩,
  ⟨some 17, .call f_fixed_amount [(.t 16)], none, false⟩,
  ⟨some 6, .mv (.t 15), none, false⟩,
  ⟨some 7, .mv (.t 17), none, false⟩])
def s_fixed_Octile_p1 : SCode := (.cond (.t 20) (.region false [⟨some 21, .mv (.t 7), none, false⟩,
  ⟨some 22, .mv (.t 6), none, false⟩,
  ⟨some 6, .mv (.t 21), none, false⟩,
  ⟨some 7, .mv (.t 22), none, false⟩]) .skip)
def s_fixed_Octile_p2 : SCode := (.region false [⟨some 24, .mv (.t 7), none, false⟩,
  ⟨some 25, .call f_math_bits_Mul64 [(.t 24), (.v (.int .u64 14))], none, false⟩,
  ⟨some 23, .mv (.t 25), none, false⟩,
  ⟨some 26, .ext (.t 23) 0, none, false⟩,
  ⟨some 27, .ext (.t 23) 1, none, false⟩,
  ⟨some 8, .mv (.t 26), none, false⟩,
  ⟨some 9, .mv (.t 27), none, false⟩])
def s_fixed_Octile_p3 : SCode := (.region false [⟨some 29, .mv (.t 6), none, false⟩,
  ⟨some 30, .mv (.t 7), none, false⟩,
  ⟨some 31, .bin .sub (.t 29) (.t 30), none, false⟩,
  ⟨some 32, .call f_math_bits_Mul64 [(.t 31), (.v (.int .u64 10))], none, false⟩,
  ⟨some 28, .mv (.t 32), none, false⟩,
  ⟨some 33, .ext (.t 28) 0, none, false⟩,
  ⟨some 34, .ext (.t 28) 1, none, false⟩,
  ⟨some 10, .mv (.t 33), none, false⟩,
  ⟨some 11, .mv (.t 34), none, false⟩])
def s_fixed_Octile_p4 : SCode := (.region false [⟨some 36, .mv (.t 9), none, false⟩,
  ⟨some 37, .mv (.t 11), none, false⟩,
  ⟨some 38, .add64 (.t 36) (.t 37) (.v (.int .u64 0)), none, false⟩,
  ⟨some 35, .mv (.t 38), none, false⟩,
  ⟨some 39, .ext (.t 35) 0, none, false⟩,
  ⟨some 40, .ext (.t 35) 1, none, false⟩,
  ⟨some 12, .mv (.t 39), none, false⟩,
  ⟨some 13, .mv (.t 40), none, false⟩])
def s_fixed_Octile_p5 : SCode := (.region false [⟨some 41, .mv (.t 8), none, false⟩,
  ⟨some 42, .bin .neq (.t 41) (.v (.int .u64 0)), none, false⟩,
  ⟨some 43, .mv (.t 42), none, false⟩,
  ⟨some 44, .mv (.t 10), (some (43, false)), false⟩,
  ⟨some 45, .bin .neq (.t 44) (.v (.int .u64 0)), (some (43, false)), false⟩,
  ⟨some 46, .pick (.t 43) (.v (.bool true)) (.t 45), none, false⟩,
  ⟨some 47, .mv (.t 46), none, false⟩,
  ⟨some 48, .mv (.t 13), (some (47, false)), false⟩,
  ⟨some 49, .bin .neq (.t 48) (.v (.int .u64 0)), (some (47, false)), false⟩,
  ⟨some 50, .pick (.t 47) (.v (.bool true)) (.t 49), none, false⟩])
def s_fixed_Octile_p6 : SCode := (.kp [12] (.seq (.kp [12, 50] s_fixed_Octile_p5) (.cond (.t 50) (.seq (.region false [⟨some 4, .mv (.v (.int .i64 0)), none, false⟩,
  ⟨some 5, .mv (.v (.bool false)), none, false⟩]) .ret) .skip)))
def s_fixed_Octile_p7 : SCode := (.region false [⟨some 51, .mv (.t 12), none, false⟩,
  ⟨some 52, .call f_fixed_signed [(.t 51), (.v (.bool false))], none, false⟩,
  ⟨some 53, .ext (.t 52) 0, none, false⟩,
  ⟨some 54, .ext (.t 52) 1, none, false⟩,
  ⟨some 4, .mv (.t 53), none, false⟩,
  ⟨some 5, .mv (.t 54), none, false⟩])
def s_fixed_Octile_p8 : SCode := (.seq (.kp [6, 7] (.seq (.region false [⟨some 18, .mv (.t 6), none, false⟩,
  ⟨some 19, .mv (.t 7), none, false⟩,
  ⟨some 20, .bin .lss (.t 18) (.t 19), none, false⟩]) s_fixed_Octile_p1)) (.seq (.kp [6, 7, 8, 9] s_fixed_Octile_p2) (.seq (.kp [8, 9, 10, 11] s_fixed_Octile_p3) (.seq (.kp [8, 10, 12, 13] s_fixed_Octile_p4) (.seq s_fixed_Octile_p6 (.seq (.kp [4, 5] s_fixed_Octile_p7) .ret))))))
def s_fixed_Octile : SFn := ⟨2, [.t 4, .t 5], (.seq (.region false [⟨some 4, .mv (.v (.int .i64 0)), none, false⟩,
  ⟨some 5, .mv (.v (.bool false)), none, false⟩]) (.seq (.kp [6, 7] s_fixed_Octile_p0) s_fixed_Octile_p8))⟩
def s_cell_Octile_p0 : SCode := (.region false [⟨some 7, .load (some 2) (.t 2), none, false⟩,
  ⟨some 8, .call f_cell_Near [(.t 7)], none, false⟩,
  ⟨some 9, .un .not (.t 8), none, false⟩,
  ⟨some 10, .mv (.t 9), none, false⟩,
  ⟨some 11, .load (some 2) (.t 3), (some (10, false)), false⟩,
  ⟨some 12, .call f_cell_Near [(.t 11)], (some (10, false)), false⟩,
  ⟨some 13, .un .not (.t 12), (some (10, false)), false⟩,
  ⟨some 14, .pick (.t 10) (.v (.bool true)) (.t 13), none, false⟩])
def s_cell_Octile_p1 : SCode := (.region false [⟨some 16, .faddr 0 (.t 2), none, false⟩,
  ⟨some 17, .load none (.t 16), none, false⟩,
  ⟨some 18, .faddr 0 (.t 3), none, false⟩,
  ⟨some 19, .load none (.t 18), none, false⟩,
  ⟨some 20, .bin .sub (.t 17) (.t 19), none, false⟩,
  ⟨some 21, .faddr 1 (.t 2), none, false⟩,
  ⟨some 22, .load none (.t 21), none, false⟩,
  ⟨some 23, .faddr 1 (.t 3), none, false⟩,
  ⟨some 24, .load none (.t 23), none, false⟩,
  ⟨some 25, .bin .sub (.t 22) (.t 24), none, false⟩,
  ⟨some 26, .call f_fixed_Octile [(.t 20), (.t 25)], none, false⟩,
  ⟨some 15, .mv (.t 26), none, false⟩,
  ⟨some 27, .ext (.t 15) 0, none, false⟩,
  ⟨some 28, .ext (.t 15) 1, none, false⟩,
  ⟨some 5, .mv (.t 27), none, false⟩,
  ⟨some 6, .mv (.t 28), none, false⟩])
def s_cell_Octile_p2 : SCode := (.seq (.kp [2, 3] (.seq (.kp [2, 3, 14] s_cell_Octile_p0) (.cond (.t 14) (.seq (.region false [⟨some 4, .mv (.v (.int .i64 0)), none, false⟩]) .ret) .skip))) (.seq (.kp [5] s_cell_Octile_p1) (.seq (.region false [⟨some 29, .mv (.t 5), none, false⟩,
  ⟨some 4, .mv (.t 29), none, false⟩]) .ret)))
def s_cell_Octile : SFn := ⟨2, [.t 4], (.seq (.region false [⟨some 2, .box true 2 (.t 0), none, false⟩,
  ⟨some 3, .box true 2 (.t 1), none, false⟩,
  ⟨some 4, .mv (.v (.int .i64 0)), none, false⟩]) s_cell_Octile_p2)⟩
def s_law03_CellBack_p0 : SCode := (.region false [⟨some 3, .box true 2 (.t 0), none, false⟩,
  ⟨some 4, .box true 2 (.t 1), none, false⟩,
  ⟨some 5, .box true 8 (.t 2), none, false⟩,
  ⟨some 6, .mv (.v (.bool false)), none, false⟩])
def s_law03_CellBack_p1 : SCode := (.region false [⟨some 25, .load (some 2) (.t 3), none, false⟩,
  ⟨some 26, .mv (.t 7), none, false⟩,
  ⟨some 27, .call f_cell_Step [(.t 25), (.t 26)], none, false⟩,
  ⟨some 24, .mv (.t 27), none, false⟩,
  ⟨some 28, .ext (.t 24) 0, none, false⟩,
  ⟨some 29, .ext (.t 24) 1, none, false⟩,
  ⟨some 8, .alloc true [(.int .i64 0), (.int .i64 0)], none, false⟩,
  ⟨none, .store 2 [] (.t 8) (.t 28), none, false⟩,
  ⟨some 9, .mv (.t 29), none, false⟩])
def s_law03_CellBack_p2 : SCode := (.region true [⟨some 33, .load (some 2) (.t 8), none, true⟩,
  ⟨some 34, .mv (.t 7), none, true⟩,
  ⟨some 35, .call f_cell_Back [(.t 34)], none, true⟩,
  ⟨some 36, .call f_cell_Step [(.t 33), (.t 35)], none, false⟩,
  ⟨some 32, .mv (.t 36), none, false⟩,
  ⟨some 37, .ext (.t 32) 0, none, false⟩,
  ⟨some 38, .ext (.t 32) 1, none, true⟩,
  ⟨some 10, .alloc true [(.int .i64 0), (.int .i64 0)], none, true⟩,
  ⟨none, .store 2 [] (.t 10) (.t 37), none, false⟩,
  ⟨some 11, .mv (.t 38), none, false⟩])
def s_law03_CellBack_p3 : SCode := (.region false [⟨some 39, .mv (.t 11), none, false⟩,
  ⟨some 40, .un .not (.t 39), none, false⟩,
  ⟨some 41, .mv (.t 40), none, false⟩,
  ⟨some 42, .load (some 2) (.t 10), (some (41, false)), false⟩,
  ⟨some 43, .load (some 2) (.t 3), (some (41, false)), false⟩,
  ⟨some 44, .eq true true [.int, .int] (.t 42) (.t 43), (some (41, false)), false⟩,
  ⟨some 45, .pick (.t 41) (.v (.bool true)) (.t 44), none, false⟩,
  ⟨some 46, .mv (.t 45), none, false⟩,
  ⟨some 47, .load (some 2) (.t 3), (some (46, false)), false⟩,
  ⟨some 48, .load (some 2) (.t 8), (some (46, false)), false⟩,
  ⟨some 49, .call f_cell_Dir [(.t 47), (.t 48)], (some (46, false)), false⟩,
  ⟨some 50, .mv (.t 7), (some (46, false)), false⟩,
  ⟨some 51, .bin .neq (.t 49) (.t 50), (some (46, false)), false⟩,
  ⟨some 52, .pick (.t 46) (.v (.bool true)) (.t 51), none, false⟩])
def s_law03_CellBack_p4 : SCode := (.seq (.kp [3, 4, 5, 7, 8] (.seq (.region false [⟨some 30, .mv (.t 9), none, false⟩,
  ⟨some 31, .un .not (.t 30), none, false⟩]) (.cond (.t 31) (.exit 1) .skip))) (.seq (.kp [3, 4, 5, 7, 8, 10, 11] s_law03_CellBack_p2) (.seq (.kp [3, 4, 5, 7, 52] s_law03_CellBack_p3) (.cond (.t 52) (.seq (.region false [⟨some 6, .mv (.v (.bool false)), none, false⟩]) .ret) .skip))))
def s_law03_CellBack_p5 : SCode := (.seq (.kp [3, 4, 5, 7] (.block 1 (.seq (.kp [3, 4, 5, 7, 8, 9] s_law03_CellBack_p1) s_law03_CellBack_p4))) (.region false [⟨some 22, .mv (.t 7), none, false⟩,
  ⟨some 23, .bin .add (.t 22) (.v (.int .i64 1)), none, false⟩,
  ⟨some 7, .mv (.t 23), none, false⟩]))
def s_law03_CellBack_p6 : SCode := (.seq (.kp [3, 4, 5, 7] (.seq (.region false [⟨some 20, .mv (.t 7), none, false⟩,
  ⟨some 21, .bin .lss (.t 20) (.v (.int .i64 8)), none, false⟩]) (.cond (.t 21) .skip (.exit 0)))) s_law03_CellBack_p5)
def s_law03_CellBack_p7 : SCode := (.region false [⟨some 53, .load (some 2) (.t 3), none, false⟩,
  ⟨some 54, .load (some 2) (.t 4), none, false⟩,
  ⟨some 55, .call f_cell_Apart [(.t 53), (.t 54)], none, false⟩,
  ⟨some 12, .mv (.t 55), none, false⟩])
def s_law03_CellBack_p8 : SCode := (.region false [⟨some 56, .load (some 2) (.t 3), none, false⟩,
  ⟨some 57, .load (some 2) (.t 4), none, false⟩,
  ⟨some 58, .call f_cell_Octile [(.t 56), (.t 57)], none, false⟩,
  ⟨some 13, .mv (.t 58), none, false⟩])
def s_law03_CellBack_p9 : SCode := (.region false [⟨some 59, .load (some 2) (.t 4), none, false⟩,
  ⟨some 60, .load (some 2) (.t 3), none, false⟩,
  ⟨some 61, .call f_cell_Apart [(.t 59), (.t 60)], none, false⟩,
  ⟨some 62, .mv (.t 12), none, false⟩,
  ⟨some 63, .bin .neq (.t 61) (.t 62), none, false⟩,
  ⟨some 64, .mv (.t 63), none, false⟩,
  ⟨some 65, .load (some 2) (.t 4), (some (64, false)), false⟩,
  ⟨some 66, .load (some 2) (.t 3), (some (64, false)), false⟩,
  ⟨some 67, .call f_cell_Octile [(.t 65), (.t 66)], (some (64, false)), false⟩,
  ⟨some 68, .mv (.t 13), (some (64, false)), false⟩,
  ⟨some 69, .bin .neq (.t 67) (.t 68), (some (64, false)), false⟩,
  ⟨some 70, .pick (.t 64) (.v (.bool true)) (.t 69), none, false⟩,
  ⟨some 71, .mv (.t 70), none, false⟩,
  ⟨some 72, .mv (.t 13), (some (71, false)), false⟩,
  ⟨some 73, .mv (.t 12), (some (71, false)), false⟩,
  ⟨some 74, .bin .mul (.v (.int .i64 10)) (.t 73), (some (71, false)), false⟩,
  ⟨some 75, .bin .lss (.t 72) (.t 74), (some (71, false)), false⟩,
  ⟨some 76, .pick (.t 71) (.v (.bool true)) (.t 75), none, false⟩,
  ⟨some 77, .mv (.t 76), none, false⟩,
  ⟨some 78, .mv (.t 13), (some (77, false)), false⟩,
  ⟨some 79, .mv (.t 12), (some (77, false)), false⟩,
  ⟨some 80, .bin .mul (.v (.int .i64 14)) (.t 79), (some (77, false)), false⟩,
  ⟨some 81, .bin .gtr (.t 78) (.t 80), (some (77, false)), false⟩,
  ⟨some 82, .pick (.t 77) (.v (.bool true)) (.t 81), none, false⟩])
def s_law03_CellBack_p10 : SCode := (.region true [⟨some 83, .iaddrA 2 4 (.t 5) (.v (.int .i64 0)), none, true⟩,
  ⟨some 84, .load (some 4) (.t 83), none, true⟩,
  ⟨some 85, .iaddrA 2 4 (.t 5) (.v (.int .i64 1)), none, true⟩,
  ⟨some 86, .load (some 4) (.t 85), none, true⟩,
  ⟨some 14, .alloc true [(.int .i64 0), (.int .i64 0), (.int .i64 0), (.int .i64 0)], none, true⟩,
  ⟨some 15, .alloc true [(.int .i64 0), (.int .i64 0), (.int .i64 0), (.int .i64 0)], none, true⟩,
  ⟨none, .store 4 [(.t 85)] (.t 14) (.t 84), none, false⟩,
  ⟨none, .store 4 [] (.t 15) (.t 86), none, false⟩])
def s_law03_CellBack_p11 : SCode := (.region false [⟨some 88, .load (some 4) (.t 14), none, false⟩,
  ⟨some 89, .load (some 4) (.t 15), none, false⟩,
  ⟨some 90, .call f_cell_Meet [(.t 88), (.t 89)], none, false⟩,
  ⟨some 87, .mv (.t 90), none, false⟩,
  ⟨some 91, .ext (.t 87) 0, none, false⟩,
  ⟨some 92, .ext (.t 87) 1, none, false⟩,
  ⟨some 16, .alloc true [(.int .i64 0), (.int .i64 0), (.int .i64 0), (.int .i64 0)], none, false⟩,
  ⟨none, .store 4 [] (.t 16) (.t 91), none, false⟩,
  ⟨some 17, .mv (.t 92), none, false⟩])
def s_law03_CellBack_p12 : SCode := (.region false [⟨some 94, .load (some 4) (.t 15), none, false⟩,
  ⟨some 95, .load (some 4) (.t 14), none, false⟩,
  ⟨some 96, .call f_cell_Meet [(.t 94), (.t 95)], none, false⟩,
  ⟨some 93, .mv (.t 96), none, false⟩,
  ⟨some 97, .ext (.t 93) 0, none, false⟩,
  ⟨some 98, .ext (.t 93) 1, none, false⟩,
  ⟨some 18, .alloc true [(.int .i64 0), (.int .i64 0), (.int .i64 0), (.int .i64 0)], none, false⟩,
  ⟨none, .store 4 [] (.t 18) (.t 97), none, false⟩,
  ⟨some 19, .mv (.t 98), none, false⟩])
def s_law03_CellBack_p13 : SCode := (.region true [⟨some 99, .load (some 4) (.t 16), none, true⟩,
  ⟨some 100, .load (some 4) (.t 18), none, true⟩,
  ⟨some 101, .eq false true [.int, .int, .int, .int] (.t 99) (.t 100), none, false⟩,
  ⟨some 102, .mv (.t 101), none, false⟩,
  ⟨some 103, .mv (.t 17), (some (102, true)), false⟩,
  ⟨some 104, .mv (.t 19), (some (102, true)), false⟩,
  ⟨some 105, .eq false false [.bool] (.t 103) (.t 104), (some (102, true)), false⟩,
  ⟨some 106, .pick (.t 102) (.t 105) (.v (.bool false)), none, false⟩,
  ⟨some 107, .mv (.t 106), none, false⟩,
  ⟨some 108, .mv (.t 17), (some (107, true)), true⟩,
  ⟨some 109, .mv (.t 108), (some (107, true)), true⟩,
  ⟨some 110, .load (some 4) (.t 16), (some (109, true)), true⟩,
  ⟨some 111, .load (some 2) (.t 4), (some (109, true)), true⟩,
  ⟨some 114, .load (some 4) (.t 14), (some (107, true)), true⟩,
  ⟨some 115, .load (some 2) (.t 4), (some (107, true)), true⟩,
  ⟨some 112, .call f_cell_Has [(.t 110), (.t 111)], (some (109, true)), true⟩,
  ⟨some 113, .pick (.t 109) (.t 112) (.v (.bool false)), (some (107, true)), true⟩,
  ⟨some 116, .call f_cell_Has [(.t 114), (.t 115)], (some (107, true)), false⟩,
  ⟨some 117, .mv (.t 116), (some (107, true)), false⟩,
  ⟨some 118, .load (some 4) (.t 15), (some (117, true)), true⟩,
  ⟨some 119, .load (some 2) (.t 4), (some (117, true)), true⟩,
  ⟨some 120, .call f_cell_Has [(.t 118), (.t 119)], (some (117, true)), false⟩,
  ⟨some 121, .pick (.t 117) (.t 120) (.v (.bool false)), (some (107, true)), false⟩,
  ⟨some 122, .eq false false [.bool] (.t 113) (.t 121), (some (107, true)), false⟩,
  ⟨some 123, .pick (.t 107) (.t 122) (.v (.bool false)), none, false⟩,
  ⟨some 124, .mv (.t 123), none, false⟩,
  ⟨some 125, .call f_law03_awake [], (some (124, true)), false⟩,
  ⟨some 126, .pick (.t 124) (.t 125) (.v (.bool false)), none, false⟩,
  ⟨some 6, .mv (.t 126), none, false⟩])
def s_law03_CellBack_p14 : SCode := (.seq (.kp [4, 5] (.seq (.kp [4, 5, 82] s_law03_CellBack_p9) (.cond (.t 82) (.seq (.region false [⟨some 6, .mv (.v (.bool false)), none, false⟩]) .ret) .skip))) (.seq (.kp [4, 14, 15] s_law03_CellBack_p10) (.seq (.kp [4, 14, 15, 16, 17] s_law03_CellBack_p11) (.seq (.kp [4, 14, 15, 16, 17, 18, 19] s_law03_CellBack_p12) (.seq (.kp [6] s_law03_CellBack_p13) .ret)))))
def s_law03_CellBack_p15 : SCode := (.seq (.kp [3, 4, 5] (.seq (.kp [3, 4, 5, 7] (.region false [⟨some 7, .mv (.v (.int .i64 0)), none, false⟩])) (.block 0 (.loop (some [3, 4, 5, 7]) s_law03_CellBack_p6)))) (.seq s_law03_CellBack_p7 (.seq s_law03_CellBack_p8 s_law03_CellBack_p14)))
def s_law03_CellBack : SFn := ⟨3, [.t 6], (.seq s_law03_CellBack_p0 s_law03_CellBack_p15)⟩
def tb : Tbl := fun f => match f with
  | 3 => some s_law03_CellGoes
  | 4 => some s_law03_CellAround
  | 6 => some s_law03_CellSteps
  | 7 => some s_law03_CellRects
  | 12 => some s_law03_CellBack
  | 14 => some s_cell_Cells
  | 15 => some s_ref03_May
  | 16 => some s_law03_awake
  | 17 => some s_cell_Around
  | 18 => some s_ref03_Step
  | 19 => some s_ref03_Has
  | 20 => some s_fixed_Octile
  | 24 => some s_cell_Step
  | 25 => some s_cell_Sides
  | 26 => some s_ref03_Sides
  | 27 => some s_cell_Near
  | 28 => some s_ref03_Near
  | 29 => some s_cell_Dir
  | 30 => some s_ref03_Dir
  | 31 => some s_cell_Back
  | 32 => some s_ref03_Back
  | 33 => some s_cell_Cost
  | 34 => some s_ref03_Cost
  | 35 => some s_cell_Meet
  | 36 => some s_ref03_Meet
  | 37 => some s_cell_Hull
  | 38 => some s_ref03_Hull
  | 39 => some s_cell_May
  | 40 => some s_cell_Has
  | 41 => some s_cell_Within
  | 42 => some s_ref03_Within
  | 59 => some s_cell_Apart
  | 61 => some s_cell_Octile
  | 73 => some s_cell_Cells_1
  | 74 => some s_ref03_Last
  | 75 => some s_cell_Around_1
  | 76 => some s_ref03_Turn
  | 77 => some s_fixed_amount
  | 78 => some s_math_bits_Mul64
  | 80 => some s_fixed_signed
  | 87 => some s_cell_turn
  | 88 => some s_cell_plus
  | 89 => some s_cell_near
  | 90 => some s_ref03_near
  | 91 => some s_cell_last
  | 92 => some s_cell_between
  | 93 => some s_cell_side
  | 96 => some s_cell_amount
  | _ => none
@[go_sem] def u_cell_near_p0 {F K fr m} := @RK_unf F K fr m _ _ s_cell_near_p0.eq_1
theorem t_cell_near : tb f_cell_near = some s_cell_near := rfl
@[go_sem] def u_cell_Near_p0 {F K fr m} := @RK_unf F K fr m _ _ s_cell_Near_p0.eq_1
theorem t_cell_Near : tb f_cell_Near = some s_cell_Near := rfl
@[go_sem] def u_cell_last_p0 {F K fr m} := @RK_unf F K fr m _ _ s_cell_last_p0.eq_1
theorem t_cell_last : tb f_cell_last = some s_cell_last := rfl
@[go_sem] def u_cell_side_p0 {F K fr m} := @RK_unf F K fr m _ _ s_cell_side_p0.eq_1
theorem t_cell_side : tb f_cell_side = some s_cell_side := rfl
@[go_sem] def u_cell_May_p0 {F K fr m} := @RK_unf F K fr m _ _ s_cell_May_p0.eq_1
theorem t_cell_May : tb f_cell_May = some s_cell_May := rfl
@[go_sem] def u_cell_Cells_1_p0 {F K fr m} := @RK_unf F K fr m _ _ s_cell_Cells_1_p0.eq_1
@[go_sem] def u_cell_Cells_1_p1 {F K fr m} := @RK_unf F K fr m _ _ s_cell_Cells_1_p1.eq_1
@[go_sem] def u_cell_Cells_1_p2 {F K fr m} := @RK_unf F K fr m _ _ s_cell_Cells_1_p2.eq_1
@[go_sem] def u_cell_Cells_1_p3 {F K fr m} := @RK_unf F K fr m _ _ s_cell_Cells_1_p3.eq_1
@[go_sem] def u_cell_Cells_1_p4 {F K fr m} := @RK_unf F K fr m _ _ s_cell_Cells_1_p4.eq_1
@[go_sem] def u_cell_Cells_1_p5 {F K fr m} := @RK_unf F K fr m _ _ s_cell_Cells_1_p5.eq_1
@[go_sem] def u_cell_Cells_1_p6 {F K fr m} := @RK_unf F K fr m _ _ s_cell_Cells_1_p6.eq_1
@[go_sem] def u_cell_Cells_1_p7 {F K fr m} := @RK_unf F K fr m _ _ s_cell_Cells_1_p7.eq_1
@[go_sem] def u_cell_Cells_1_p8 {F K fr m} := @RK_unf F K fr m _ _ s_cell_Cells_1_p8.eq_1
@[go_sem] def u_cell_Cells_1_p9 {F K fr m} := @RK_unf F K fr m _ _ s_cell_Cells_1_p9.eq_1
theorem t_cell_Cells_1 : tb f_cell_Cells_1 = some s_cell_Cells_1 := rfl
@[go_sem] def u_cell_Cells_p0 {F K fr m} := @RK_unf F K fr m _ _ s_cell_Cells_p0.eq_1
theorem t_cell_Cells : tb f_cell_Cells = some s_cell_Cells := rfl
@[go_sem] def u_ref03_near_p0 {F K fr m} := @RK_unf F K fr m _ _ s_ref03_near_p0.eq_1
theorem t_ref03_near : tb f_ref03_near = some s_ref03_near := rfl
@[go_sem] def u_ref03_Near_p0 {F K fr m} := @RK_unf F K fr m _ _ s_ref03_Near_p0.eq_1
theorem t_ref03_Near : tb f_ref03_Near = some s_ref03_Near := rfl
@[go_sem] def u_ref03_Last_p0 {F K fr m} := @RK_unf F K fr m _ _ s_ref03_Last_p0.eq_1
theorem t_ref03_Last : tb f_ref03_Last = some s_ref03_Last := rfl
@[go_sem] def u_ref03_May_p0 {F K fr m} := @RK_unf F K fr m _ _ s_ref03_May_p0.eq_1
theorem t_ref03_May : tb f_ref03_May = some s_ref03_May := rfl
@[go_sem] def u_cell_turn_p0 {F K fr m} := @RK_unf F K fr m _ _ s_cell_turn_p0.eq_1
@[go_sem] def u_cell_turn_p1 {F K fr m} := @RK_unf F K fr m _ _ s_cell_turn_p1.eq_1
@[go_sem] def u_cell_turn_p2 {F K fr m} := @RK_unf F K fr m _ _ s_cell_turn_p2.eq_1
@[go_sem] def u_cell_turn_p3 {F K fr m} := @RK_unf F K fr m _ _ s_cell_turn_p3.eq_1
@[go_sem] def u_cell_turn_p4 {F K fr m} := @RK_unf F K fr m _ _ s_cell_turn_p4.eq_1
@[go_sem] def u_cell_turn_p5 {F K fr m} := @RK_unf F K fr m _ _ s_cell_turn_p5.eq_1
@[go_sem] def u_cell_turn_p6 {F K fr m} := @RK_unf F K fr m _ _ s_cell_turn_p6.eq_1
@[go_sem] def u_cell_turn_p7 {F K fr m} := @RK_unf F K fr m _ _ s_cell_turn_p7.eq_1
@[go_sem] def u_cell_turn_p8 {F K fr m} := @RK_unf F K fr m _ _ s_cell_turn_p8.eq_1
@[go_sem] def u_cell_turn_p9 {F K fr m} := @RK_unf F K fr m _ _ s_cell_turn_p9.eq_1
@[go_sem] def u_cell_turn_p10 {F K fr m} := @RK_unf F K fr m _ _ s_cell_turn_p10.eq_1
@[go_sem] def u_cell_turn_p11 {F K fr m} := @RK_unf F K fr m _ _ s_cell_turn_p11.eq_1
theorem t_cell_turn : tb f_cell_turn = some s_cell_turn := rfl
@[go_sem] def u_cell_plus_p0 {F K fr m} := @RK_unf F K fr m _ _ s_cell_plus_p0.eq_1
@[go_sem] def u_cell_plus_p1 {F K fr m} := @RK_unf F K fr m _ _ s_cell_plus_p1.eq_1
theorem t_cell_plus : tb f_cell_plus = some s_cell_plus := rfl
@[go_sem] def u_cell_Step_p0 {F K fr m} := @RK_unf F K fr m _ _ s_cell_Step_p0.eq_1
@[go_sem] def u_cell_Step_p1 {F K fr m} := @RK_unf F K fr m _ _ s_cell_Step_p1.eq_1
@[go_sem] def u_cell_Step_p2 {F K fr m} := @RK_unf F K fr m _ _ s_cell_Step_p2.eq_1
@[go_sem] def u_cell_Step_p3 {F K fr m} := @RK_unf F K fr m _ _ s_cell_Step_p3.eq_1
@[go_sem] def u_cell_Step_p4 {F K fr m} := @RK_unf F K fr m _ _ s_cell_Step_p4.eq_1
theorem t_cell_Step : tb f_cell_Step = some s_cell_Step := rfl
@[go_sem] def u_cell_Cost_p0 {F K fr m} := @RK_unf F K fr m _ _ s_cell_Cost_p0.eq_1
@[go_sem] def u_cell_Cost_p1 {F K fr m} := @RK_unf F K fr m _ _ s_cell_Cost_p1.eq_1
@[go_sem] def u_cell_Cost_p2 {F K fr m} := @RK_unf F K fr m _ _ s_cell_Cost_p2.eq_1
theorem t_cell_Cost : tb f_cell_Cost = some s_cell_Cost := rfl
@[go_sem] def u_law03_awake_p0 {F K fr m} := @RK_unf F K fr m _ _ s_law03_awake_p0.eq_1
@[go_sem] def u_law03_awake_p1 {F K fr m} := @RK_unf F K fr m _ _ s_law03_awake_p1.eq_1
theorem t_law03_awake : tb f_law03_awake = some s_law03_awake := rfl
@[go_sem] def u_law03_CellGoes_p0 {F K fr m} := @RK_unf F K fr m _ _ s_law03_CellGoes_p0.eq_1
@[go_sem] def u_law03_CellGoes_p1 {F K fr m} := @RK_unf F K fr m _ _ s_law03_CellGoes_p1.eq_1
@[go_sem] def u_law03_CellGoes_p2 {F K fr m} := @RK_unf F K fr m _ _ s_law03_CellGoes_p2.eq_1
@[go_sem] def u_law03_CellGoes_p3 {F K fr m} := @RK_unf F K fr m _ _ s_law03_CellGoes_p3.eq_1
@[go_sem] def u_law03_CellGoes_p4 {F K fr m} := @RK_unf F K fr m _ _ s_law03_CellGoes_p4.eq_1
@[go_sem] def u_law03_CellGoes_p5 {F K fr m} := @RK_unf F K fr m _ _ s_law03_CellGoes_p5.eq_1
@[go_sem] def u_law03_CellGoes_p6 {F K fr m} := @RK_unf F K fr m _ _ s_law03_CellGoes_p6.eq_1
@[go_sem] def u_law03_CellGoes_p7 {F K fr m} := @RK_unf F K fr m _ _ s_law03_CellGoes_p7.eq_1
@[go_sem] def u_law03_CellGoes_p8 {F K fr m} := @RK_unf F K fr m _ _ s_law03_CellGoes_p8.eq_1
theorem t_law03_CellGoes : tb f_law03_CellGoes = some s_law03_CellGoes := rfl
@[go_sem] def u_cell_Has_p0 {F K fr m} := @RK_unf F K fr m _ _ s_cell_Has_p0.eq_1
@[go_sem] def u_cell_Has_p1 {F K fr m} := @RK_unf F K fr m _ _ s_cell_Has_p1.eq_1
@[go_sem] def u_cell_Has_p2 {F K fr m} := @RK_unf F K fr m _ _ s_cell_Has_p2.eq_1
@[go_sem] def u_cell_Has_p3 {F K fr m} := @RK_unf F K fr m _ _ s_cell_Has_p3.eq_1
theorem t_cell_Has : tb f_cell_Has = some s_cell_Has := rfl
@[go_sem] def u_cell_Around_1_p0 {F K fr m} := @RK_unf F K fr m _ _ s_cell_Around_1_p0.eq_1
@[go_sem] def u_cell_Around_1_p1 {F K fr m} := @RK_unf F K fr m _ _ s_cell_Around_1_p1.eq_1
@[go_sem] def u_cell_Around_1_p2 {F K fr m} := @RK_unf F K fr m _ _ s_cell_Around_1_p2.eq_1
@[go_sem] def u_cell_Around_1_p3 {F K fr m} := @RK_unf F K fr m _ _ s_cell_Around_1_p3.eq_1
@[go_sem] def u_cell_Around_1_p4 {F K fr m} := @RK_unf F K fr m _ _ s_cell_Around_1_p4.eq_1
theorem t_cell_Around_1 : tb f_cell_Around_1 = some s_cell_Around_1 := rfl
@[go_sem] def u_cell_Around_p0 {F K fr m} := @RK_unf F K fr m _ _ s_cell_Around_p0.eq_1
theorem t_cell_Around : tb f_cell_Around = some s_cell_Around := rfl
@[go_sem] def u_ref03_Turn_p0 {F K fr m} := @RK_unf F K fr m _ _ s_ref03_Turn_p0.eq_1
@[go_sem] def u_ref03_Turn_p1 {F K fr m} := @RK_unf F K fr m _ _ s_ref03_Turn_p1.eq_1
@[go_sem] def u_ref03_Turn_p2 {F K fr m} := @RK_unf F K fr m _ _ s_ref03_Turn_p2.eq_1
@[go_sem] def u_ref03_Turn_p3 {F K fr m} := @RK_unf F K fr m _ _ s_ref03_Turn_p3.eq_1
@[go_sem] def u_ref03_Turn_p4 {F K fr m} := @RK_unf F K fr m _ _ s_ref03_Turn_p4.eq_1
@[go_sem] def u_ref03_Turn_p5 {F K fr m} := @RK_unf F K fr m _ _ s_ref03_Turn_p5.eq_1
@[go_sem] def u_ref03_Turn_p6 {F K fr m} := @RK_unf F K fr m _ _ s_ref03_Turn_p6.eq_1
@[go_sem] def u_ref03_Turn_p7 {F K fr m} := @RK_unf F K fr m _ _ s_ref03_Turn_p7.eq_1
@[go_sem] def u_ref03_Turn_p8 {F K fr m} := @RK_unf F K fr m _ _ s_ref03_Turn_p8.eq_1
@[go_sem] def u_ref03_Turn_p9 {F K fr m} := @RK_unf F K fr m _ _ s_ref03_Turn_p9.eq_1
theorem t_ref03_Turn : tb f_ref03_Turn = some s_ref03_Turn := rfl
@[go_sem] def u_ref03_Step_p0 {F K fr m} := @RK_unf F K fr m _ _ s_ref03_Step_p0.eq_1
@[go_sem] def u_ref03_Step_p1 {F K fr m} := @RK_unf F K fr m _ _ s_ref03_Step_p1.eq_1
@[go_sem] def u_ref03_Step_p2 {F K fr m} := @RK_unf F K fr m _ _ s_ref03_Step_p2.eq_1
@[go_sem] def u_ref03_Step_p3 {F K fr m} := @RK_unf F K fr m _ _ s_ref03_Step_p3.eq_1
@[go_sem] def u_ref03_Step_p4 {F K fr m} := @RK_unf F K fr m _ _ s_ref03_Step_p4.eq_1
@[go_sem] def u_ref03_Step_p5 {F K fr m} := @RK_unf F K fr m _ _ s_ref03_Step_p5.eq_1
@[go_sem] def u_ref03_Step_p6 {F K fr m} := @RK_unf F K fr m _ _ s_ref03_Step_p6.eq_1
@[go_sem] def u_ref03_Step_p7 {F K fr m} := @RK_unf F K fr m _ _ s_ref03_Step_p7.eq_1
theorem t_ref03_Step : tb f_ref03_Step = some s_ref03_Step := rfl
@[go_sem] def u_ref03_Has_p0 {F K fr m} := @RK_unf F K fr m _ _ s_ref03_Has_p0.eq_1
@[go_sem] def u_ref03_Has_p1 {F K fr m} := @RK_unf F K fr m _ _ s_ref03_Has_p1.eq_1
theorem t_ref03_Has : tb f_ref03_Has = some s_ref03_Has := rfl
@[go_sem] def u_law03_CellAround_p0 {F K fr m} := @RK_unf F K fr m _ _ s_law03_CellAround_p0.eq_1
@[go_sem] def u_law03_CellAround_p1 {F K fr m} := @RK_unf F K fr m _ _ s_law03_CellAround_p1.eq_1
@[go_sem] def u_law03_CellAround_p2 {F K fr m} := @RK_unf F K fr m _ _ s_law03_CellAround_p2.eq_1
@[go_sem] def u_law03_CellAround_p3 {F K fr m} := @RK_unf F K fr m _ _ s_law03_CellAround_p3.eq_1
@[go_sem] def u_law03_CellAround_p4 {F K fr m} := @RK_unf F K fr m _ _ s_law03_CellAround_p4.eq_1
@[go_sem] def u_law03_CellAround_p5 {F K fr m} := @RK_unf F K fr m _ _ s_law03_CellAround_p5.eq_1
@[go_sem] def u_law03_CellAround_p6 {F K fr m} := @RK_unf F K fr m _ _ s_law03_CellAround_p6.eq_1
@[go_sem] def u_law03_CellAround_p7 {F K fr m} := @RK_unf F K fr m _ _ s_law03_CellAround_p7.eq_1
@[go_sem] def u_law03_CellAround_p8 {F K fr m} := @RK_unf F K fr m _ _ s_law03_CellAround_p8.eq_1
@[go_sem] def u_law03_CellAround_p9 {F K fr m} := @RK_unf F K fr m _ _ s_law03_CellAround_p9.eq_1
@[go_sem] def u_law03_CellAround_p10 {F K fr m} := @RK_unf F K fr m _ _ s_law03_CellAround_p10.eq_1
@[go_sem] def u_law03_CellAround_p11 {F K fr m} := @RK_unf F K fr m _ _ s_law03_CellAround_p11.eq_1
@[go_sem] def u_law03_CellAround_p12 {F K fr m} := @RK_unf F K fr m _ _ s_law03_CellAround_p12.eq_1
@[go_sem] def u_law03_CellAround_p13 {F K fr m} := @RK_unf F K fr m _ _ s_law03_CellAround_p13.eq_1
@[go_sem] def u_law03_CellAround_p14 {F K fr m} := @RK_unf F K fr m _ _ s_law03_CellAround_p14.eq_1
@[go_sem] def u_law03_CellAround_p15 {F K fr m} := @RK_unf F K fr m _ _ s_law03_CellAround_p15.eq_1
@[go_sem] def u_law03_CellAround_p16 {F K fr m} := @RK_unf F K fr m _ _ s_law03_CellAround_p16.eq_1
@[go_sem] def u_law03_CellAround_p17 {F K fr m} := @RK_unf F K fr m _ _ s_law03_CellAround_p17.eq_1
@[go_sem] def u_law03_CellAround_p18 {F K fr m} := @RK_unf F K fr m _ _ s_law03_CellAround_p18.eq_1
@[go_sem] def u_law03_CellAround_p19 {F K fr m} := @RK_unf F K fr m _ _ s_law03_CellAround_p19.eq_1
@[go_sem] def u_law03_CellAround_p20 {F K fr m} := @RK_unf F K fr m _ _ s_law03_CellAround_p20.eq_1
@[go_sem] def u_law03_CellAround_p21 {F K fr m} := @RK_unf F K fr m _ _ s_law03_CellAround_p21.eq_1
@[go_sem] def u_law03_CellAround_p22 {F K fr m} := @RK_unf F K fr m _ _ s_law03_CellAround_p22.eq_1
@[go_sem] def u_law03_CellAround_p23 {F K fr m} := @RK_unf F K fr m _ _ s_law03_CellAround_p23.eq_1
@[go_sem] def u_law03_CellAround_p24 {F K fr m} := @RK_unf F K fr m _ _ s_law03_CellAround_p24.eq_1
theorem t_law03_CellAround : tb f_law03_CellAround = some s_law03_CellAround := rfl
@[go_sem] def u_cell_Sides_p0 {F K fr m} := @RK_unf F K fr m _ _ s_cell_Sides_p0.eq_1
@[go_sem] def u_cell_Sides_p1 {F K fr m} := @RK_unf F K fr m _ _ s_cell_Sides_p1.eq_1
@[go_sem] def u_cell_Sides_p2 {F K fr m} := @RK_unf F K fr m _ _ s_cell_Sides_p2.eq_1
@[go_sem] def u_cell_Sides_p3 {F K fr m} := @RK_unf F K fr m _ _ s_cell_Sides_p3.eq_1
@[go_sem] def u_cell_Sides_p4 {F K fr m} := @RK_unf F K fr m _ _ s_cell_Sides_p4.eq_1
@[go_sem] def u_cell_Sides_p5 {F K fr m} := @RK_unf F K fr m _ _ s_cell_Sides_p5.eq_1
@[go_sem] def u_cell_Sides_p6 {F K fr m} := @RK_unf F K fr m _ _ s_cell_Sides_p6.eq_1
theorem t_cell_Sides : tb f_cell_Sides = some s_cell_Sides := rfl
@[go_sem] def u_ref03_Sides_p0 {F K fr m} := @RK_unf F K fr m _ _ s_ref03_Sides_p0.eq_1
@[go_sem] def u_ref03_Sides_p1 {F K fr m} := @RK_unf F K fr m _ _ s_ref03_Sides_p1.eq_1
@[go_sem] def u_ref03_Sides_p2 {F K fr m} := @RK_unf F K fr m _ _ s_ref03_Sides_p2.eq_1
@[go_sem] def u_ref03_Sides_p3 {F K fr m} := @RK_unf F K fr m _ _ s_ref03_Sides_p3.eq_1
@[go_sem] def u_ref03_Sides_p4 {F K fr m} := @RK_unf F K fr m _ _ s_ref03_Sides_p4.eq_1
@[go_sem] def u_ref03_Sides_p5 {F K fr m} := @RK_unf F K fr m _ _ s_ref03_Sides_p5.eq_1
@[go_sem] def u_ref03_Sides_p6 {F K fr m} := @RK_unf F K fr m _ _ s_ref03_Sides_p6.eq_1
theorem t_ref03_Sides : tb f_ref03_Sides = some s_ref03_Sides := rfl
@[go_sem] def u_cell_Dir_p0 {F K fr m} := @RK_unf F K fr m _ _ s_cell_Dir_p0.eq_1
@[go_sem] def u_cell_Dir_p1 {F K fr m} := @RK_unf F K fr m _ _ s_cell_Dir_p1.eq_1
@[go_sem] def u_cell_Dir_p2 {F K fr m} := @RK_unf F K fr m _ _ s_cell_Dir_p2.eq_1
@[go_sem] def u_cell_Dir_p3 {F K fr m} := @RK_unf F K fr m _ _ s_cell_Dir_p3.eq_1
@[go_sem] def u_cell_Dir_p4 {F K fr m} := @RK_unf F K fr m _ _ s_cell_Dir_p4.eq_1
@[go_sem] def u_cell_Dir_p5 {F K fr m} := @RK_unf F K fr m _ _ s_cell_Dir_p5.eq_1
theorem t_cell_Dir : tb f_cell_Dir = some s_cell_Dir := rfl
@[go_sem] def u_ref03_Dir_p0 {F K fr m} := @RK_unf F K fr m _ _ s_ref03_Dir_p0.eq_1
@[go_sem] def u_ref03_Dir_p1 {F K fr m} := @RK_unf F K fr m _ _ s_ref03_Dir_p1.eq_1
@[go_sem] def u_ref03_Dir_p2 {F K fr m} := @RK_unf F K fr m _ _ s_ref03_Dir_p2.eq_1
@[go_sem] def u_ref03_Dir_p3 {F K fr m} := @RK_unf F K fr m _ _ s_ref03_Dir_p3.eq_1
@[go_sem] def u_ref03_Dir_p4 {F K fr m} := @RK_unf F K fr m _ _ s_ref03_Dir_p4.eq_1
@[go_sem] def u_ref03_Dir_p5 {F K fr m} := @RK_unf F K fr m _ _ s_ref03_Dir_p5.eq_1
theorem t_ref03_Dir : tb f_ref03_Dir = some s_ref03_Dir := rfl
@[go_sem] def u_cell_Back_p0 {F K fr m} := @RK_unf F K fr m _ _ s_cell_Back_p0.eq_1
@[go_sem] def u_cell_Back_p1 {F K fr m} := @RK_unf F K fr m _ _ s_cell_Back_p1.eq_1
theorem t_cell_Back : tb f_cell_Back = some s_cell_Back := rfl
@[go_sem] def u_ref03_Back_p0 {F K fr m} := @RK_unf F K fr m _ _ s_ref03_Back_p0.eq_1
@[go_sem] def u_ref03_Back_p1 {F K fr m} := @RK_unf F K fr m _ _ s_ref03_Back_p1.eq_1
@[go_sem] def u_ref03_Back_p2 {F K fr m} := @RK_unf F K fr m _ _ s_ref03_Back_p2.eq_1
@[go_sem] def u_ref03_Back_p3 {F K fr m} := @RK_unf F K fr m _ _ s_ref03_Back_p3.eq_1
@[go_sem] def u_ref03_Back_p4 {F K fr m} := @RK_unf F K fr m _ _ s_ref03_Back_p4.eq_1
theorem t_ref03_Back : tb f_ref03_Back = some s_ref03_Back := rfl
@[go_sem] def u_ref03_Cost_p0 {F K fr m} := @RK_unf F K fr m _ _ s_ref03_Cost_p0.eq_1
@[go_sem] def u_ref03_Cost_p1 {F K fr m} := @RK_unf F K fr m _ _ s_ref03_Cost_p1.eq_1
@[go_sem] def u_ref03_Cost_p2 {F K fr m} := @RK_unf F K fr m _ _ s_ref03_Cost_p2.eq_1
theorem t_ref03_Cost : tb f_ref03_Cost = some s_ref03_Cost := rfl
@[go_sem] def u_law03_CellSteps_p0 {F K fr m} := @RK_unf F K fr m _ _ s_law03_CellSteps_p0.eq_1
@[go_sem] def u_law03_CellSteps_p1 {F K fr m} := @RK_unf F K fr m _ _ s_law03_CellSteps_p1.eq_1
@[go_sem] def u_law03_CellSteps_p2 {F K fr m} := @RK_unf F K fr m _ _ s_law03_CellSteps_p2.eq_1
@[go_sem] def u_law03_CellSteps_p3 {F K fr m} := @RK_unf F K fr m _ _ s_law03_CellSteps_p3.eq_1
@[go_sem] def u_law03_CellSteps_p4 {F K fr m} := @RK_unf F K fr m _ _ s_law03_CellSteps_p4.eq_1
@[go_sem] def u_law03_CellSteps_p5 {F K fr m} := @RK_unf F K fr m _ _ s_law03_CellSteps_p5.eq_1
@[go_sem] def u_law03_CellSteps_p6 {F K fr m} := @RK_unf F K fr m _ _ s_law03_CellSteps_p6.eq_1
theorem t_law03_CellSteps : tb f_law03_CellSteps = some s_law03_CellSteps := rfl
@[go_sem] def u_cell_between_p0 {F K fr m} := @RK_unf F K fr m _ _ s_cell_between_p0.eq_1
@[go_sem] def u_cell_between_p1 {F K fr m} := @RK_unf F K fr m _ _ s_cell_between_p1.eq_1
theorem t_cell_between : tb f_cell_between = some s_cell_between := rfl
@[go_sem] def u_cell_Meet_p0 {F K fr m} := @RK_unf F K fr m _ _ s_cell_Meet_p0.eq_1
@[go_sem] def u_cell_Meet_p1 {F K fr m} := @RK_unf F K fr m _ _ s_cell_Meet_p1.eq_1
@[go_sem] def u_cell_Meet_p2 {F K fr m} := @RK_unf F K fr m _ _ s_cell_Meet_p2.eq_1
@[go_sem] def u_cell_Meet_p3 {F K fr m} := @RK_unf F K fr m _ _ s_cell_Meet_p3.eq_1
@[go_sem] def u_cell_Meet_p4 {F K fr m} := @RK_unf F K fr m _ _ s_cell_Meet_p4.eq_1
@[go_sem] def u_cell_Meet_p5 {F K fr m} := @RK_unf F K fr m _ _ s_cell_Meet_p5.eq_1
@[go_sem] def u_cell_Meet_p6 {F K fr m} := @RK_unf F K fr m _ _ s_cell_Meet_p6.eq_1
@[go_sem] def u_cell_Meet_p7 {F K fr m} := @RK_unf F K fr m _ _ s_cell_Meet_p7.eq_1
@[go_sem] def u_cell_Meet_p8 {F K fr m} := @RK_unf F K fr m _ _ s_cell_Meet_p8.eq_1
theorem t_cell_Meet : tb f_cell_Meet = some s_cell_Meet := rfl
@[go_sem] def u_ref03_Meet_p0 {F K fr m} := @RK_unf F K fr m _ _ s_ref03_Meet_p0.eq_1
@[go_sem] def u_ref03_Meet_p1 {F K fr m} := @RK_unf F K fr m _ _ s_ref03_Meet_p1.eq_1
@[go_sem] def u_ref03_Meet_p2 {F K fr m} := @RK_unf F K fr m _ _ s_ref03_Meet_p2.eq_1
@[go_sem] def u_ref03_Meet_p3 {F K fr m} := @RK_unf F K fr m _ _ s_ref03_Meet_p3.eq_1
@[go_sem] def u_ref03_Meet_p4 {F K fr m} := @RK_unf F K fr m _ _ s_ref03_Meet_p4.eq_1
@[go_sem] def u_ref03_Meet_p5 {F K fr m} := @RK_unf F K fr m _ _ s_ref03_Meet_p5.eq_1
@[go_sem] def u_ref03_Meet_p6 {F K fr m} := @RK_unf F K fr m _ _ s_ref03_Meet_p6.eq_1
@[go_sem] def u_ref03_Meet_p7 {F K fr m} := @RK_unf F K fr m _ _ s_ref03_Meet_p7.eq_1
@[go_sem] def u_ref03_Meet_p8 {F K fr m} := @RK_unf F K fr m _ _ s_ref03_Meet_p8.eq_1
@[go_sem] def u_ref03_Meet_p9 {F K fr m} := @RK_unf F K fr m _ _ s_ref03_Meet_p9.eq_1
@[go_sem] def u_ref03_Meet_p10 {F K fr m} := @RK_unf F K fr m _ _ s_ref03_Meet_p10.eq_1
@[go_sem] def u_ref03_Meet_p11 {F K fr m} := @RK_unf F K fr m _ _ s_ref03_Meet_p11.eq_1
@[go_sem] def u_ref03_Meet_p12 {F K fr m} := @RK_unf F K fr m _ _ s_ref03_Meet_p12.eq_1
@[go_sem] def u_ref03_Meet_p13 {F K fr m} := @RK_unf F K fr m _ _ s_ref03_Meet_p13.eq_1
@[go_sem] def u_ref03_Meet_p14 {F K fr m} := @RK_unf F K fr m _ _ s_ref03_Meet_p14.eq_1
@[go_sem] def u_ref03_Meet_p15 {F K fr m} := @RK_unf F K fr m _ _ s_ref03_Meet_p15.eq_1
@[go_sem] def u_ref03_Meet_p16 {F K fr m} := @RK_unf F K fr m _ _ s_ref03_Meet_p16.eq_1
@[go_sem] def u_ref03_Meet_p17 {F K fr m} := @RK_unf F K fr m _ _ s_ref03_Meet_p17.eq_1
@[go_sem] def u_ref03_Meet_p18 {F K fr m} := @RK_unf F K fr m _ _ s_ref03_Meet_p18.eq_1
theorem t_ref03_Meet : tb f_ref03_Meet = some s_ref03_Meet := rfl
@[go_sem] def u_cell_Hull_p0 {F K fr m} := @RK_unf F K fr m _ _ s_cell_Hull_p0.eq_1
@[go_sem] def u_cell_Hull_p1 {F K fr m} := @RK_unf F K fr m _ _ s_cell_Hull_p1.eq_1
@[go_sem] def u_cell_Hull_p2 {F K fr m} := @RK_unf F K fr m _ _ s_cell_Hull_p2.eq_1
@[go_sem] def u_cell_Hull_p3 {F K fr m} := @RK_unf F K fr m _ _ s_cell_Hull_p3.eq_1
@[go_sem] def u_cell_Hull_p4 {F K fr m} := @RK_unf F K fr m _ _ s_cell_Hull_p4.eq_1
@[go_sem] def u_cell_Hull_p5 {F K fr m} := @RK_unf F K fr m _ _ s_cell_Hull_p5.eq_1
@[go_sem] def u_cell_Hull_p6 {F K fr m} := @RK_unf F K fr m _ _ s_cell_Hull_p6.eq_1
@[go_sem] def u_cell_Hull_p7 {F K fr m} := @RK_unf F K fr m _ _ s_cell_Hull_p7.eq_1
theorem t_cell_Hull : tb f_cell_Hull = some s_cell_Hull := rfl
@[go_sem] def u_ref03_Hull_p0 {F K fr m} := @RK_unf F K fr m _ _ s_ref03_Hull_p0.eq_1
@[go_sem] def u_ref03_Hull_p1 {F K fr m} := @RK_unf F K fr m _ _ s_ref03_Hull_p1.eq_1
@[go_sem] def u_ref03_Hull_p2 {F K fr m} := @RK_unf F K fr m _ _ s_ref03_Hull_p2.eq_1
@[go_sem] def u_ref03_Hull_p3 {F K fr m} := @RK_unf F K fr m _ _ s_ref03_Hull_p3.eq_1
@[go_sem] def u_ref03_Hull_p4 {F K fr m} := @RK_unf F K fr m _ _ s_ref03_Hull_p4.eq_1
@[go_sem] def u_ref03_Hull_p5 {F K fr m} := @RK_unf F K fr m _ _ s_ref03_Hull_p5.eq_1
@[go_sem] def u_ref03_Hull_p6 {F K fr m} := @RK_unf F K fr m _ _ s_ref03_Hull_p6.eq_1
@[go_sem] def u_ref03_Hull_p7 {F K fr m} := @RK_unf F K fr m _ _ s_ref03_Hull_p7.eq_1
@[go_sem] def u_ref03_Hull_p8 {F K fr m} := @RK_unf F K fr m _ _ s_ref03_Hull_p8.eq_1
@[go_sem] def u_ref03_Hull_p9 {F K fr m} := @RK_unf F K fr m _ _ s_ref03_Hull_p9.eq_1
@[go_sem] def u_ref03_Hull_p10 {F K fr m} := @RK_unf F K fr m _ _ s_ref03_Hull_p10.eq_1
@[go_sem] def u_ref03_Hull_p11 {F K fr m} := @RK_unf F K fr m _ _ s_ref03_Hull_p11.eq_1
@[go_sem] def u_ref03_Hull_p12 {F K fr m} := @RK_unf F K fr m _ _ s_ref03_Hull_p12.eq_1
@[go_sem] def u_ref03_Hull_p13 {F K fr m} := @RK_unf F K fr m _ _ s_ref03_Hull_p13.eq_1
@[go_sem] def u_ref03_Hull_p14 {F K fr m} := @RK_unf F K fr m _ _ s_ref03_Hull_p14.eq_1
@[go_sem] def u_ref03_Hull_p15 {F K fr m} := @RK_unf F K fr m _ _ s_ref03_Hull_p15.eq_1
@[go_sem] def u_ref03_Hull_p16 {F K fr m} := @RK_unf F K fr m _ _ s_ref03_Hull_p16.eq_1
@[go_sem] def u_ref03_Hull_p17 {F K fr m} := @RK_unf F K fr m _ _ s_ref03_Hull_p17.eq_1
@[go_sem] def u_ref03_Hull_p18 {F K fr m} := @RK_unf F K fr m _ _ s_ref03_Hull_p18.eq_1
theorem t_ref03_Hull : tb f_ref03_Hull = some s_ref03_Hull := rfl
@[go_sem] def u_cell_Within_p0 {F K fr m} := @RK_unf F K fr m _ _ s_cell_Within_p0.eq_1
@[go_sem] def u_cell_Within_p1 {F K fr m} := @RK_unf F K fr m _ _ s_cell_Within_p1.eq_1
theorem t_cell_Within : tb f_cell_Within = some s_cell_Within := rfl
@[go_sem] def u_ref03_Within_p0 {F K fr m} := @RK_unf F K fr m _ _ s_ref03_Within_p0.eq_1
@[go_sem] def u_ref03_Within_p1 {F K fr m} := @RK_unf F K fr m _ _ s_ref03_Within_p1.eq_1
theorem t_ref03_Within : tb f_ref03_Within = some s_ref03_Within := rfl
@[go_sem] def u_law03_CellRects_p0 {F K fr m} := @RK_unf F K fr m _ _ s_law03_CellRects_p0.eq_1
@[go_sem] def u_law03_CellRects_p1 {F K fr m} := @RK_unf F K fr m _ _ s_law03_CellRects_p1.eq_1
@[go_sem] def u_law03_CellRects_p2 {F K fr m} := @RK_unf F K fr m _ _ s_law03_CellRects_p2.eq_1
@[go_sem] def u_law03_CellRects_p3 {F K fr m} := @RK_unf F K fr m _ _ s_law03_CellRects_p3.eq_1
theorem t_law03_CellRects : tb f_law03_CellRects = some s_law03_CellRects := rfl
@[go_sem] def u_cell_amount_p0 {F K fr m} := @RK_unf F K fr m _ _ s_cell_amount_p0.eq_1
theorem t_cell_amount : tb f_cell_amount = some s_cell_amount := rfl
@[go_sem] def u_cell_Apart_p0 {F K fr m} := @RK_unf F K fr m _ _ s_cell_Apart_p0.eq_1
@[go_sem] def u_cell_Apart_p1 {F K fr m} := @RK_unf F K fr m _ _ s_cell_Apart_p1.eq_1
@[go_sem] def u_cell_Apart_p2 {F K fr m} := @RK_unf F K fr m _ _ s_cell_Apart_p2.eq_1
theorem t_cell_Apart : tb f_cell_Apart = some s_cell_Apart := rfl
@[go_sem] def u_fixed_amount_p0 {F K fr m} := @RK_unf F K fr m _ _ s_fixed_amount_p0.eq_1
@[go_sem] def u_fixed_amount_p1 {F K fr m} := @RK_unf F K fr m _ _ s_fixed_amount_p1.eq_1
theorem t_fixed_amount : tb f_fixed_amount = some s_fixed_amount := rfl
@[go_sem] def u_math_bits_Mul64_p0 {F K fr m} := @RK_unf F K fr m _ _ s_math_bits_Mul64_p0.eq_1
@[go_sem] def u_math_bits_Mul64_p1 {F K fr m} := @RK_unf F K fr m _ _ s_math_bits_Mul64_p1.eq_1
@[go_sem] def u_math_bits_Mul64_p2 {F K fr m} := @RK_unf F K fr m _ _ s_math_bits_Mul64_p2.eq_1
@[go_sem] def u_math_bits_Mul64_p3 {F K fr m} := @RK_unf F K fr m _ _ s_math_bits_Mul64_p3.eq_1
@[go_sem] def u_math_bits_Mul64_p4 {F K fr m} := @RK_unf F K fr m _ _ s_math_bits_Mul64_p4.eq_1
@[go_sem] def u_math_bits_Mul64_p5 {F K fr m} := @RK_unf F K fr m _ _ s_math_bits_Mul64_p5.eq_1
@[go_sem] def u_math_bits_Mul64_p6 {F K fr m} := @RK_unf F K fr m _ _ s_math_bits_Mul64_p6.eq_1
@[go_sem] def u_math_bits_Mul64_p7 {F K fr m} := @RK_unf F K fr m _ _ s_math_bits_Mul64_p7.eq_1
@[go_sem] def u_math_bits_Mul64_p8 {F K fr m} := @RK_unf F K fr m _ _ s_math_bits_Mul64_p8.eq_1
@[go_sem] def u_math_bits_Mul64_p9 {F K fr m} := @RK_unf F K fr m _ _ s_math_bits_Mul64_p9.eq_1
theorem t_math_bits_Mul64 : tb f_math_bits_Mul64 = some s_math_bits_Mul64 := rfl
@[go_sem] def u_fixed_signed_p0 {F K fr m} := @RK_unf F K fr m _ _ s_fixed_signed_p0.eq_1
@[go_sem] def u_fixed_signed_p1 {F K fr m} := @RK_unf F K fr m _ _ s_fixed_signed_p1.eq_1
@[go_sem] def u_fixed_signed_p2 {F K fr m} := @RK_unf F K fr m _ _ s_fixed_signed_p2.eq_1
@[go_sem] def u_fixed_signed_p3 {F K fr m} := @RK_unf F K fr m _ _ s_fixed_signed_p3.eq_1
@[go_sem] def u_fixed_signed_p4 {F K fr m} := @RK_unf F K fr m _ _ s_fixed_signed_p4.eq_1
theorem t_fixed_signed : tb f_fixed_signed = some s_fixed_signed := rfl
@[go_sem] def u_fixed_Octile_p0 {F K fr m} := @RK_unf F K fr m _ _ s_fixed_Octile_p0.eq_1
@[go_sem] def u_fixed_Octile_p1 {F K fr m} := @RK_unf F K fr m _ _ s_fixed_Octile_p1.eq_1
@[go_sem] def u_fixed_Octile_p2 {F K fr m} := @RK_unf F K fr m _ _ s_fixed_Octile_p2.eq_1
@[go_sem] def u_fixed_Octile_p3 {F K fr m} := @RK_unf F K fr m _ _ s_fixed_Octile_p3.eq_1
@[go_sem] def u_fixed_Octile_p4 {F K fr m} := @RK_unf F K fr m _ _ s_fixed_Octile_p4.eq_1
@[go_sem] def u_fixed_Octile_p5 {F K fr m} := @RK_unf F K fr m _ _ s_fixed_Octile_p5.eq_1
@[go_sem] def u_fixed_Octile_p6 {F K fr m} := @RK_unf F K fr m _ _ s_fixed_Octile_p6.eq_1
@[go_sem] def u_fixed_Octile_p7 {F K fr m} := @RK_unf F K fr m _ _ s_fixed_Octile_p7.eq_1
@[go_sem] def u_fixed_Octile_p8 {F K fr m} := @RK_unf F K fr m _ _ s_fixed_Octile_p8.eq_1
theorem t_fixed_Octile : tb f_fixed_Octile = some s_fixed_Octile := rfl
@[go_sem] def u_cell_Octile_p0 {F K fr m} := @RK_unf F K fr m _ _ s_cell_Octile_p0.eq_1
@[go_sem] def u_cell_Octile_p1 {F K fr m} := @RK_unf F K fr m _ _ s_cell_Octile_p1.eq_1
@[go_sem] def u_cell_Octile_p2 {F K fr m} := @RK_unf F K fr m _ _ s_cell_Octile_p2.eq_1
theorem t_cell_Octile : tb f_cell_Octile = some s_cell_Octile := rfl
@[go_sem] def u_law03_CellBack_p0 {F K fr m} := @RK_unf F K fr m _ _ s_law03_CellBack_p0.eq_1
@[go_sem] def u_law03_CellBack_p1 {F K fr m} := @RK_unf F K fr m _ _ s_law03_CellBack_p1.eq_1
@[go_sem] def u_law03_CellBack_p2 {F K fr m} := @RK_unf F K fr m _ _ s_law03_CellBack_p2.eq_1
@[go_sem] def u_law03_CellBack_p3 {F K fr m} := @RK_unf F K fr m _ _ s_law03_CellBack_p3.eq_1
@[go_sem] def u_law03_CellBack_p4 {F K fr m} := @RK_unf F K fr m _ _ s_law03_CellBack_p4.eq_1
@[go_sem] def u_law03_CellBack_p5 {F K fr m} := @RK_unf F K fr m _ _ s_law03_CellBack_p5.eq_1
@[go_sem] def u_law03_CellBack_p6 {F K fr m} := @RK_unf F K fr m _ _ s_law03_CellBack_p6.eq_1
@[go_sem] def u_law03_CellBack_p7 {F K fr m} := @RK_unf F K fr m _ _ s_law03_CellBack_p7.eq_1
@[go_sem] def u_law03_CellBack_p8 {F K fr m} := @RK_unf F K fr m _ _ s_law03_CellBack_p8.eq_1
@[go_sem] def u_law03_CellBack_p9 {F K fr m} := @RK_unf F K fr m _ _ s_law03_CellBack_p9.eq_1
@[go_sem] def u_law03_CellBack_p10 {F K fr m} := @RK_unf F K fr m _ _ s_law03_CellBack_p10.eq_1
@[go_sem] def u_law03_CellBack_p11 {F K fr m} := @RK_unf F K fr m _ _ s_law03_CellBack_p11.eq_1
@[go_sem] def u_law03_CellBack_p12 {F K fr m} := @RK_unf F K fr m _ _ s_law03_CellBack_p12.eq_1
@[go_sem] def u_law03_CellBack_p13 {F K fr m} := @RK_unf F K fr m _ _ s_law03_CellBack_p13.eq_1
@[go_sem] def u_law03_CellBack_p14 {F K fr m} := @RK_unf F K fr m _ _ s_law03_CellBack_p14.eq_1
@[go_sem] def u_law03_CellBack_p15 {F K fr m} := @RK_unf F K fr m _ _ s_law03_CellBack_p15.eq_1
theorem t_law03_CellBack : tb f_law03_CellBack = some s_law03_CellBack := rfl
end Go.Sh.T
