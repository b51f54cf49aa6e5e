import Derived.Test.YtmejoegppiilmaaShH
set_option linter.all false
set_option linter.unusedVariables false
set_option linter.unusedSimpArgs false
set_option autoImplicit false
set_option linter.all false
set_option maxRecDepth 4096
namespace Go.Sh.T
open Go.Sh
def f_law19_SettleNearest : FuncId := 5
def f_law06_Both : FuncId := 11
def f_ref03_Within : FuncId := 18
def f_ref04_All : FuncId := 19
def f_ref03_Has : FuncId := 20
def f_ref08_Of : FuncId := 21
def f_parts_New : FuncId := 23
def f_law19_awake : FuncId := 24
def f_settle_Nearest : FuncId := 25
def f_ref19_Nearest : FuncId := 26
def f_settle_Will : FuncId := 27
def f_ref03_Octile : FuncId := 29
def f_ref06_May : FuncId := 31
def f_grid_New : FuncId := 36
def f_ref04_New : FuncId := 37
def f_cell_Has : FuncId := 38
def f_class_Stands : FuncId := 39
def f_cell_Octile : FuncId := 42
def f_ref03_Step : FuncId := 44
def f_cell_Within : FuncId := 45
def f_grid_World_All : FuncId := 46
def f_cell_Cells : FuncId := 48
def f_ref03_May : FuncId := 49
def f_ref03_Last : FuncId := 50
def f_ref06_Stands : FuncId := 51
def f_ref08_Ground_Stands : FuncId := 52
def f_ref08_Ground_Steps : FuncId := 53
def f_clear_New : FuncId := 54
def f_class_May : FuncId := 55
def f_parts_Parts_label : FuncId := 56
def f_cell_Near : FuncId := 57
def f_ref03_Near : FuncId := 58
def f_ref08_Ground_Labels : FuncId := 59
def f_ref19_will : FuncId := 60
def f_parts_Parts_Joined : FuncId := 61
def f_class_Foot : FuncId := 62
def f_slices_ContainsFunc_api_Rect_api_Rect : FuncId := 63
def f_settle_Will_1 : FuncId := 64
def f_cell_Meet : FuncId := 65
def f_ref03_abs : FuncId := 66
def f_ref03_Meet : FuncId := 67
def f_slices_Clone_byte_byte : FuncId := 70
def f_grid_World_Place : FuncId := 71
def f_ref04_Check : FuncId := 72
def f_cell_May : FuncId := 73
def f_cell_last : FuncId := 74
def f_grid_World_Terrain : FuncId := 75
def f_grid_World_At : FuncId := 76
def f_class_On : FuncId := 77
def f_fixed_Octile : FuncId := 84
def f_ref03_Turn : FuncId := 85
def f_grid_World_is : FuncId := 86
def f_cell_Cells_1 : FuncId := 87
def f_ref06_Foot : FuncId := 88
def f_ref04_Terrain : FuncId := 89
def f_ref04_At : FuncId := 90
def f_ref06_On : FuncId := 91
def f_ref03_Sides : FuncId := 92
def f_grid_World_Epoch : FuncId := 93
def f_clear_Field_reckon : FuncId := 94
def f_parts_Parts_stands : FuncId := 95
def f_parts_root : FuncId := 96
def f_cell_near : FuncId := 97
def f_ref03_near : FuncId := 98
def f_ref19_joined : FuncId := 99
def f_parts_Parts_At : FuncId := 100
def f_slices_IndexFunc_api_Rect_api_Rect : FuncId := 101
def f_cell_between : FuncId := 102
def f_grid_World_May : FuncId := 103
def f_ref04_MayBe : FuncId := 104
def f_ref04_share : FuncId := 105
def f_cell_side : FuncId := 106
def f_fixed_amount : FuncId := 113
def f_math_bits_Mul64 : FuncId := 114
def f_fixed_signed : FuncId := 116
def f_clear_Field_tile : FuncId := 117
def f_clear_Field_At : FuncId := 118
def f_parts_Parts_is : FuncId := 119
def f_grid_may : FuncId := 120
def s_cell_near_p0 : SCode := (.region false [⟨some 3, .mv (.t 0), none, false⟩,
  ⟨some 4, .bin .geq (.t 3) (.v (.int .i64 (-1048576))), none, false⟩,
  ⟨some 5, .mv (.t 4), none, false⟩,
  ⟨some 6, .mv (.t 0), (some (5, true)), false⟩,
  ⟨some 7, .bin .leq (.t 6) (.v (.int .i64 1048576)), (some (5, true)), false⟩,
  ⟨some 8, .pick (.t 5) (.t 7) (.v (.bool false)), none, false⟩,
  ⟨some 2, .mv (.t 8), none, false⟩])
def s_cell_near : SFn := ⟨1, [.t 2], (.seq (.region false [⟨some 2, .mv (.v (.bool false)), none, false⟩]) (.seq (.kp [2] s_cell_near_p0) .ret))⟩
def s_cell_Near_p0 : SCode := (.region false [⟨some 3, .faddr 0 (.t 1), none, false⟩,
  ⟨some 4, .load none (.t 3), none, false⟩,
  ⟨some 5, .call f_cell_near [(.t 4)], none, false⟩,
  ⟨some 6, .mv (.t 5), none, false⟩,
  ⟨some 7, .faddr 1 (.t 1), (some (6, true)), false⟩,
  ⟨some 8, .load none (.t 7), (some (6, true)), false⟩,
  ⟨some 9, .call f_cell_near [(.t 8)], (some (6, true)), false⟩,
  ⟨some 10, .pick (.t 6) (.t 9) (.v (.bool false)), none, false⟩,
  ⟨some 2, .mv (.t 10), none, false⟩])
def s_cell_Near : SFn := ⟨1, [.t 2], (.seq (.region false [⟨some 1, .box true 2 (.t 0), none, false⟩,
  ⟨some 2, .mv (.v (.bool false)), none, false⟩]) (.seq (.kp [2] s_cell_Near_p0) .ret))⟩
def s_cell_last_p0 : SCode := (.region false [⟨some 3, .faddr 0 (.t 1), none, false⟩,
  ⟨some 4, .faddr 0 (.t 3), none, false⟩,
  ⟨some 5, .load none (.t 4), none, false⟩,
  ⟨some 6, .faddr 2 (.t 1), none, false⟩,
  ⟨some 7, .load none (.t 6), none, false⟩,
  ⟨some 8, .bin .add (.t 5) (.t 7), none, false⟩,
  ⟨some 9, .bin .sub (.t 8) (.v (.int .i64 1)), none, false⟩,
  ⟨some 10, .faddr 0 (.t 1), none, false⟩,
  ⟨some 11, .faddr 1 (.t 10), none, false⟩,
  ⟨some 12, .load none (.t 11), none, false⟩,
  ⟨some 13, .faddr 3 (.t 1), none, false⟩,
  ⟨some 14, .load none (.t 13), none, false⟩,
  ⟨some 15, .bin .add (.t 12) (.t 14), none, false⟩,
  ⟨some 16, .bin .sub (.t 15) (.v (.int .i64 1)), none, false⟩,
  ⟨some 17, .build [(.int .i64 0), (.int .i64 0)] [(0, 1, (.t 9)), (1, 1, (.t 16))], none, false⟩,
  ⟨none, .store 2 [] (.t 2) (.t 17), none, false⟩])
def s_cell_last : SFn := ⟨1, [.cell 2 (some 2)], (.seq (.region false [⟨some 1, .box true 4 (.t 0), none, false⟩,
  ⟨some 2, .alloc true [(.int .i64 0), (.int .i64 0)], none, false⟩]) (.seq (.kp [2] s_cell_last_p0) .ret))⟩
def s_cell_side_p0 : SCode := (.region false [⟨some 3, .mv (.t 0), none, false⟩,
  ⟨some 4, .bin .geq (.t 3) (.v (.int .i64 1)), none, false⟩,
  ⟨some 5, .mv (.t 4), none, false⟩,
  ⟨some 6, .mv (.t 0), (some (5, true)), false⟩,
  ⟨some 7, .bin .leq (.t 6) (.v (.int .i64 1048576)), (some (5, true)), false⟩,
  ⟨some 8, .pick (.t 5) (.t 7) (.v (.bool false)), none, false⟩,
  ⟨some 2, .mv (.t 8), none, false⟩])
def s_cell_side : SFn := ⟨1, [.t 2], (.seq (.region false [⟨some 2, .mv (.v (.bool false)), none, false⟩]) (.seq (.kp [2] s_cell_side_p0) .ret))⟩
def s_cell_May_p0 : SCode := (.region false [⟨some 3, .faddr 0 (.t 1), none, false⟩,
  ⟨some 4, .load (some 2) (.t 3), none, false⟩,
  ⟨some 5, .call f_cell_Near [(.t 4)], none, false⟩,
  ⟨some 6, .mv (.t 5), none, false⟩,
  ⟨some 7, .faddr 2 (.t 1), (some (6, true)), false⟩,
  ⟨some 8, .load none (.t 7), (some (6, true)), false⟩,
  ⟨some 9, .call f_cell_side [(.t 8)], (some (6, true)), false⟩,
  ⟨some 10, .pick (.t 6) (.t 9) (.v (.bool false)), none, false⟩,
  ⟨some 11, .mv (.t 10), none, false⟩,
  ⟨some 12, .faddr 3 (.t 1), (some (11, true)), false⟩,
  ⟨some 13, .load none (.t 12), (some (11, true)), false⟩,
  ⟨some 14, .call f_cell_side [(.t 13)], (some (11, true)), false⟩,
  ⟨some 15, .pick (.t 11) (.t 14) (.v (.bool false)), none, false⟩,
  ⟨some 16, .mv (.t 15), none, false⟩,
  ⟨some 17, .load (some 4) (.t 1), (some (16, true)), false⟩,
  ⟨some 18, .call f_cell_last [(.t 17)], (some (16, true)), false⟩,
  ⟨some 19, .call f_cell_Near [(.t 18)], (some (16, true)), false⟩,
  ⟨some 20, .pick (.t 16) (.t 19) (.v (.bool false)), none, false⟩,
  ⟨some 2, .mv (.t 20), none, false⟩])
def s_cell_May : SFn := ⟨1, [.t 2], (.seq (.region false [⟨some 1, .box true 4 (.t 0), none, false⟩,
  ⟨some 2, .mv (.v (.bool false)), none, false⟩]) (.seq (.kp [2] s_cell_May_p0) .ret))⟩
def s_cell_Cells_1_p0 : SCode := (.seq (.region false [⟨some 5, .load (some 4) (.t 1), none, false⟩,
  ⟨some 6, .call f_cell_May [(.t 5)], none, false⟩,
  ⟨some 7, .un .not (.t 6), none, false⟩]) (.cond (.t 7) .ret .skip))
def s_cell_Cells_1_p1 : SCode := (.kp [0, 1, 3, 9, 10, 14, 15] (.region false [⟨some 13, .faddr 2 (.t 1), none, false⟩,
  ⟨some 14, .load none (.t 13), none, false⟩,
  ⟨some 15, .mv (.v (.int .i64 0)), none, false⟩]))
def s_cell_Cells_1_p2 : SCode := (.region false [⟨some 18, .mv (.t 0), none, false⟩,
  ⟨some 19, .faddr 0 (.t 1), none, false⟩,
  ⟨some 20, .faddr 0 (.t 19), none, false⟩,
  ⟨some 21, .load none (.t 20), none, false⟩,
  ⟨some 22, .mv (.t 4), none, false⟩,
  ⟨some 23, .bin .add (.t 21) (.t 22), none, false⟩,
  ⟨some 24, .faddr 0 (.t 1), none, false⟩,
  ⟨some 25, .faddr 1 (.t 24), none, false⟩,
  ⟨some 26, .load none (.t 25), none, false⟩,
  ⟨some 27, .mv (.t 3), none, false⟩,
  ⟨some 28, .bin .add (.t 26) (.t 27), none, false⟩,
  ⟨some 29, .build [(.int .i64 0), (.int .i64 0)] [(0, 1, (.t 23)), (1, 1, (.t 28))], none, false⟩,
  ⟨some 30, .callv (.t 18) [(.t 29)], none, false⟩,
  ⟨some 31, .un .not (.t 30), none, false⟩])
def s_cell_Cells_1_p3 : SCode := (.block 3 (.seq (.region false [⟨some 17, .mv (.t 15), none, false⟩,
  ⟨some 4, .mv (.t 17), none, false⟩]) (.seq (.kp [0, 1, 3, 9, 10, 14, 15, 31] s_cell_Cells_1_p2) (.cond (.t 31) .ret .skip))))
def s_cell_Cells_1_p4 : SCode := (.seq (.kp [0, 1, 3, 9, 10, 14, 15] (.cond (.t 16) .skip (.exit 2))) (.seq (.kp [0, 1, 3, 9, 10, 14, 15] s_cell_Cells_1_p3) (.region false [⟨some 32, .bin .add (.t 15) (.v (.int .i64 1)), none, false⟩,
  ⟨some 15, .mv (.t 32), none, false⟩])))
def s_cell_Cells_1_p5 : SCode := (.seq (.region false [⟨some 16, .bin .lss (.t 15) (.t 14), none, false⟩]) s_cell_Cells_1_p4)
def s_cell_Cells_1_p6 : SCode := (.block 1 (.seq (.region false [⟨some 12, .mv (.t 10), none, false⟩,
  ⟨some 3, .mv (.t 12), none, false⟩]) (.seq s_cell_Cells_1_p1 (.block 2 (.loop (some [0, 1, 3, 9, 10, 14, 15]) s_cell_Cells_1_p5)))))
def s_cell_Cells_1_p7 : SCode := (.seq (.kp [0, 1, 9, 10] (.cond (.t 11) .skip (.exit 0))) (.seq (.kp [0, 1, 9, 10] s_cell_Cells_1_p6) (.region false [⟨some 33, .bin .add (.t 10) (.v (.int .i64 1)), none, false⟩,
  ⟨some 10, .mv (.t 33), none, false⟩])))
def s_cell_Cells_1_p8 : SCode := (.seq (.region false [⟨some 11, .bin .lss (.t 10) (.t 9), none, false⟩]) s_cell_Cells_1_p7)
def s_cell_Cells_1_p9 : SCode := (.seq (.kp [0, 1, 9, 10] (.region false [⟨some 8, .faddr 3 (.t 1), none, false⟩,
  ⟨some 9, .load none (.t 8), none, false⟩,
  ⟨some 10, .mv (.v (.int .i64 0)), none, false⟩])) (.block 0 (.loop (some [0, 1, 9, 10]) s_cell_Cells_1_p8)))
def s_cell_Cells_1 : SFn := ⟨2, [], (.seq (.kp [0, 1] s_cell_Cells_1_p0) s_cell_Cells_1_p9)⟩
def s_cell_Cells_p0 : SCode := (.seq (.region false [⟨some 1, .box false 4 (.t 0), none, false⟩,
  ⟨some 2, .mv (.v .nilf), none, false⟩]) (.seq (.region false [⟨some 3, .mkfn f_cell_Cells_1 [] [(.t 1)], none, false⟩,
  ⟨some 2, .mv (.t 3), none, false⟩]) .ret))
def s_cell_Cells : SFn := ⟨1, [.t 2], s_cell_Cells_p0⟩
def s_grid_World_is_p0 : SCode := (.region false [⟨some 3, .mv (.t 0), none, false⟩,
  ⟨some 4, .eq true false [.ptr] (.t 3) (.v .nilp), none, false⟩,
  ⟨some 5, .mv (.t 4), none, false⟩,
  ⟨some 6, .mv (.t 0), (some (5, true)), false⟩,
  ⟨some 7, .nilck (.t 6), (some (5, true)), false⟩,
  ⟨some 8, .faddr 3 (.t 7), (some (5, true)), false⟩,
  ⟨some 9, .load none (.t 8), (some (5, true)), false⟩,
  ⟨some 10, .eq true false [.map] (.t 9) (.v .nilm), (some (5, true)), false⟩,
  ⟨some 11, .pick (.t 5) (.t 10) (.v (.bool false)), none, false⟩,
  ⟨some 2, .mv (.t 11), none, false⟩])
def s_grid_World_is : SFn := ⟨1, [.t 2], (.seq (.region false [⟨some 2, .mv (.v (.bool false)), none, false⟩]) (.seq (.kp [2] s_grid_World_is_p0) .ret))⟩
def s_grid_World_All_p0 : SCode := (.cond (.t 5) (.seq (.region false [⟨some 6, .build [(.int .i64 0), (.int .i64 0), (.int .i64 0), (.int .i64 0)] [], none, false⟩,
  ⟨none, .store 4 [] (.t 2) (.t 6), none, false⟩]) .ret) .skip)
def s_grid_World_All_p1 : SCode := (.region true [⟨some 7, .mv (.t 0), none, true⟩,
  ⟨some 8, .nilck (.t 7), none, true⟩,
  ⟨some 9, .faddr 0 (.t 8), none, true⟩,
  ⟨some 10, .load none (.t 9), none, true⟩,
  ⟨some 11, .mv (.t 0), none, true⟩,
  ⟨some 12, .nilck (.t 11), none, true⟩,
  ⟨some 13, .faddr 1 (.t 12), none, true⟩,
  ⟨some 14, .load none (.t 13), none, true⟩,
  ⟨some 15, .build [(.int .i64 0), (.int .i64 0), (.int .i64 0), (.int .i64 0)] [(2, 1, (.t 10)), (3, 1, (.t 14))], none, false⟩,
  ⟨none, .store 4 [] (.t 2) (.t 15), none, false⟩])
def s_grid_World_All_p2 : SCode := (.seq (.kp [0, 2] (.seq (.region false [⟨some 3, .mv (.t 0), none, false⟩,
  ⟨some 4, .call f_grid_World_is [(.t 3)], none, false⟩,
  ⟨some 5, .un .not (.t 4), none, false⟩]) s_grid_World_All_p0)) (.seq (.kp [2] s_grid_World_All_p1) .ret))
def s_grid_World_All : SFn := ⟨1, [.cell 2 (some 4)], (.seq (.region false [⟨some 2, .alloc true [(.int .i64 0), (.int .i64 0), (.int .i64 0), (.int .i64 0)], none, false⟩]) s_grid_World_All_p2)⟩
def s_cell_Has_p0 : SCode := (.seq (.region false [⟨some 6, .load (some 4) (.t 2), none, false⟩,
  ⟨some 7, .call f_cell_May [(.t 6)], none, false⟩,
  ⟨some 8, .un .not (.t 7), none, false⟩]) (.cond (.t 8) (.seq (.region false [⟨some 4, .mv (.v (.bool false)), none, false⟩]) .ret) .skip))
def s_cell_Has_p1 : SCode := (.region false [⟨some 9, .load (some 4) (.t 2), none, false⟩,
  ⟨some 10, .call f_cell_last [(.t 9)], none, false⟩,
  ⟨some 5, .alloc true [(.int .i64 0), (.int .i64 0)], none, false⟩,
  ⟨none, .store 2 [] (.t 5) (.t 10), none, false⟩])
def s_cell_Has_p2 : SCode := (.region false [⟨some 11, .faddr 0 (.t 3), none, false⟩,
  ⟨some 12, .load none (.t 11), none, false⟩,
  ⟨some 13, .faddr 0 (.t 2), none, false⟩,
  ⟨some 14, .faddr 0 (.t 13), none, false⟩,
  ⟨some 15, .load none (.t 14), none, false⟩,
  ⟨some 16, .bin .geq (.t 12) (.t 15), none, false⟩,
  ⟨some 17, .mv (.t 16), none, false⟩,
  ⟨some 18, .faddr 0 (.t 3), (some (17, true)), false⟩,
  ⟨some 19, .load none (.t 18), (some (17, true)), false⟩,
  ⟨some 20, .faddr 0 (.t 5), (some (17, true)), false⟩,
  ⟨some 21, .load none (.t 20), (some (17, true)), false⟩,
  ⟨some 22, .bin .leq (.t 19) (.t 21), (some (17, true)), false⟩,
  ⟨some 23, .pick (.t 17) (.t 22) (.v (.bool false)), none, false⟩,
  ⟨some 24, .mv (.t 23), none, false⟩,
  ⟨some 25, .faddr 1 (.t 3), (some (24, true)), false⟩,
  ⟨some 26, .load none (.t 25), (some (24, true)), false⟩,
  ⟨some 27, .faddr 0 (.t 2), (some (24, true)), false⟩,
  ⟨some 28, .faddr 1 (.t 27), (some (24, true)), false⟩,
  ⟨some 29, .load none (.t 28), (some (24, true)), false⟩,
  ⟨some 30, .bin .geq (.t 26) (.t 29), (some (24, true)), false⟩,
  ⟨some 31, .pick (.t 24) (.t 30) (.v (.bool false)), none, false⟩,
  ⟨some 32, .mv (.t 31), none, false⟩,
  ⟨some 33, .faddr 1 (.t 3), (some (32, true)), false⟩,
  ⟨some 34, .load none (.t 33), (some (32, true)), false⟩,
  ⟨some 35, .faddr 1 (.t 5), (some (32, true)), false⟩,
  ⟨some 36, .load none (.t 35), (some (32, true)), false⟩,
  ⟨some 37, .bin .leq (.t 34) (.t 36), (some (32, true)), false⟩,
  ⟨some 38, .pick (.t 32) (.t 37) (.v (.bool false)), none, false⟩,
  ⟨some 4, .mv (.t 38), none, false⟩])
def s_cell_Has_p3 : SCode := (.seq (.region false [⟨some 2, .box true 4 (.t 0), none, false⟩,
  ⟨some 3, .box true 2 (.t 1), none, false⟩,
  ⟨some 4, .mv (.v (.bool false)), none, false⟩]) (.seq (.kp [2, 3] s_cell_Has_p0) (.seq s_cell_Has_p1 (.seq (.kp [4] s_cell_Has_p2) .ret))))
def s_cell_Has : SFn := ⟨2, [.t 4], s_cell_Has_p3⟩
def s_cell_Within_p0 : SCode := (.region true [⟨some 5, .load (some 4) (.t 2), none, false⟩,
  ⟨some 6, .call f_cell_May [(.t 5)], none, false⟩,
  ⟨some 7, .mv (.t 6), none, false⟩,
  ⟨some 8, .load (some 4) (.t 3), (some (7, true)), true⟩,
  ⟨some 9, .faddr 0 (.t 2), (some (7, true)), true⟩,
  ⟨some 10, .load (some 2) (.t 9), (some (7, true)), true⟩,
  ⟨some 11, .call f_cell_Has [(.t 8), (.t 10)], (some (7, true)), false⟩,
  ⟨some 12, .pick (.t 7) (.t 11) (.v (.bool false)), none, false⟩,
  ⟨some 13, .mv (.t 12), none, false⟩,
  ⟨some 14, .load (some 4) (.t 3), (some (13, true)), true⟩,
  ⟨some 15, .load (some 4) (.t 2), (some (13, true)), true⟩,
  ⟨some 16, .call f_cell_last [(.t 15)], (some (13, true)), true⟩,
  ⟨some 17, .call f_cell_Has [(.t 14), (.t 16)], (some (13, true)), false⟩,
  ⟨some 18, .pick (.t 13) (.t 17) (.v (.bool false)), none, false⟩,
  ⟨some 4, .mv (.t 18), none, false⟩])
def s_cell_Within_p1 : SCode := (.seq (.region false [⟨some 2, .box true 4 (.t 0), none, false⟩,
  ⟨some 3, .box true 4 (.t 1), none, false⟩,
  ⟨some 4, .mv (.v (.bool false)), none, false⟩]) (.seq (.kp [4] s_cell_Within_p0) .ret))
def s_cell_Within : SFn := ⟨2, [.t 4], s_cell_Within_p1⟩
def s_grid_may_p0 : SCode := (.region false [⟨some 5, .faddr 0 (.t 2), none, false⟩,
  ⟨some 6, .load none (.t 5), none, false⟩,
  ⟨some 7, .bin .geq (.t 6) (.v (.int .i64 1)), none, false⟩,
  ⟨some 8, .mv (.t 7), none, false⟩,
  ⟨some 9, .faddr 0 (.t 2), (some (8, true)), false⟩,
  ⟨some 10, .load none (.t 9), (some (8, true)), false⟩,
  ⟨some 11, .bin .leq (.t 10) (.v (.int .i64 2147483647)), (some (8, true)), false⟩,
  ⟨some 12, .pick (.t 8) (.t 11) (.v (.bool false)), none, false⟩,
  ⟨some 13, .mv (.t 12), none, false⟩,
  ⟨some 14, .faddr 1 (.t 2), (some (13, true)), false⟩,
  ⟨some 15, .faddr 2 (.t 14), (some (13, true)), false⟩,
  ⟨some 16, .load none (.t 15), (some (13, true)), false⟩,
  ⟨some 17, .bin .leq (.t 16) (.v (.int .i64 8)), (some (13, true)), false⟩,
  ⟨some 18, .pick (.t 13) (.t 17) (.v (.bool false)), none, false⟩,
  ⟨some 19, .mv (.t 18), none, false⟩,
  ⟨some 20, .faddr 1 (.t 2), (some (19, true)), false⟩,
  ⟨some 21, .faddr 3 (.t 20), (some (19, true)), false⟩,
  ⟨some 22, .load none (.t 21), (some (19, true)), false⟩,
  ⟨some 23, .bin .leq (.t 22) (.v (.int .i64 8)), (some (19, true)), false⟩,
  ⟨some 24, .pick (.t 19) (.t 23) (.v (.bool false)), none, false⟩,
  ⟨some 25, .mv (.t 24), none, false⟩,
  ⟨some 26, .faddr 1 (.t 2), (some (25, true)), false⟩,
  ⟨some 27, .load (some 4) (.t 26), (some (25, true)), false⟩,
  ⟨some 28, .load (some 4) (.t 3), (some (25, true)), false⟩,
  ⟨some 29, .call f_cell_Within [(.t 27), (.t 28)], (some (25, true)), false⟩,
  ⟨some 30, .pick (.t 25) (.t 29) (.v (.bool false)), none, false⟩,
  ⟨some 4, .mv (.t 30), none, false⟩])
def s_grid_may_p1 : SCode := (.seq (.region false [⟨some 2, .box true 5 (.t 0), none, false⟩,
  ⟨some 3, .box true 4 (.t 1), none, false⟩,
  ⟨some 4, .mv (.v (.bool false)), none, false⟩]) (.seq (.kp [4] s_grid_may_p0) .ret))
def s_grid_may : SFn := ⟨2, [.t 4], s_grid_may_p1⟩
def s_grid_World_May_p0 : SCode := (.region true [⟨some 10, .load none (.t 2), none, false⟩,
  ⟨some 11, .call f_grid_World_is [(.t 10)], none, false⟩,
  ⟨some 12, .un .not (.t 11), none, false⟩,
  ⟨some 13, .mv (.t 12), none, false⟩,
  ⟨some 14, .load (some 5) (.t 3), (some (13, false)), true⟩,
  ⟨some 15, .load none (.t 2), (some (13, false)), true⟩,
  ⟨some 16, .call f_grid_World_All [(.t 15)], (some (13, false)), true⟩,
  ⟨some 17, .call f_grid_may [(.t 14), (.t 16)], (some (13, false)), false⟩,
  ⟨some 18, .un .not (.t 17), (some (13, false)), false⟩,
  ⟨some 19, .pick (.t 13) (.v (.bool true)) (.t 18), none, false⟩])
def s_grid_World_May_p1 : SCode := (.region true [⟨some 21, .load none (.t 2), none, true⟩,
  ⟨some 22, .nilck (.t 21), none, true⟩,
  ⟨some 23, .faddr 3 (.t 22), none, true⟩,
  ⟨some 24, .load none (.t 23), none, true⟩,
  ⟨some 25, .faddr 0 (.t 3), none, true⟩,
  ⟨some 26, .load none (.t 25), none, true⟩,
  ⟨some 27, .lookup false [.int] (.agg [(.int .i64 0), (.int .i64 0), (.int .i64 0), (.int .i64 0)]) true (.t 24) (.t 26), none, false⟩,
  ⟨some 20, .mv (.t 27), none, false⟩,
  ⟨some 28, .ext (.t 20) 0, none, false⟩,
  ⟨some 29, .ext (.t 20) 1, none, true⟩,
  ⟨some 5, .alloc true [(.int .i64 0), (.int .i64 0), (.int .i64 0), (.int .i64 0)], none, true⟩,
  ⟨none, .store 4 [] (.t 5) (.t 28), none, false⟩,
  ⟨some 6, .mv (.t 29), none, false⟩])
def s_grid_World_May_p2 : SCode := (.seq (.kp [2, 3, 4, 6] s_grid_World_May_p1) (.seq (.region false [⟨some 30, .mv (.t 6), none, false⟩]) (.cond (.t 30) (.seq (.region false [⟨none, .store 1 [] (.t 4) (.v (.int .i64 8)), none, false⟩]) .ret) .skip)))
def s_grid_World_May_p3 : SCode := (.region false [⟨some 31, .load none (.t 2), none, false⟩,
  ⟨some 32, .nilck (.t 31), none, false⟩,
  ⟨some 33, .faddr 3 (.t 32), none, false⟩,
  ⟨some 34, .load none (.t 33), none, false⟩,
  ⟨some 35, .mlen (.t 34), none, false⟩,
  ⟨some 36, .bin .geq (.t 35) (.v (.int .i64 256)), none, false⟩])
def s_grid_World_May_p4 : SCode := (.region false [⟨some 7, .alloc true [(.int .i64 0), (.int .i64 0)], none, false⟩,
  ⟨none, .store 2 [] (.t 7) (.t 40), none, false⟩])
def s_grid_World_May_p5 : SCode := (.region true [⟨some 42, .load none (.t 2), none, true⟩,
  ⟨some 43, .nilck (.t 42), none, true⟩,
  ⟨some 44, .faddr 4 (.t 43), none, true⟩,
  ⟨some 45, .load none (.t 44), none, true⟩,
  ⟨some 46, .load (some 2) (.t 7), none, true⟩,
  ⟨some 47, .lookup true [.int, .int] (.int .i64 0) true (.t 45) (.t 46), none, false⟩,
  ⟨some 41, .mv (.t 47), none, false⟩,
  ⟨some 48, .ext (.t 41) 0, none, false⟩,
  ⟨some 49, .ext (.t 41) 1, none, false⟩,
  ⟨some 8, .mv (.t 48), none, false⟩,
  ⟨some 9, .mv (.t 49), none, false⟩])
def s_grid_World_May_p6 : SCode := (.seq (.kp [4, 9] s_grid_World_May_p5) (.seq (.region false [⟨some 50, .mv (.t 9), none, false⟩]) (.cond (.t 50) (.seq (.region false [⟨none, .store 1 [] (.t 4) (.v (.int .i64 6)), none, false⟩]) .ret) .skip)))
def s_grid_World_May_p7 : SCode := (.block 1 s_grid_World_May_p6)
def s_grid_World_May_p8 : SCode := (.seq (.kp [2, 4, 39] (.region false [⟨some 37, .faddr 1 (.t 3), none, false⟩,
  ⟨some 38, .load (some 4) (.t 37), none, false⟩,
  ⟨some 39, .call f_cell_Cells [(.t 38)], none, false⟩])) (.block 0 (.rangef (.t 39) [40] s_grid_World_May_p4 s_grid_World_May_p7)))
def s_grid_World_May_p9 : SCode := (.seq (.kp [2, 3, 4] (.seq (.kp [2, 3, 4, 36] s_grid_World_May_p3) (.cond (.t 36) (.seq (.region false [⟨none, .store 1 [] (.t 4) (.v (.int .i64 2)), none, false⟩]) .ret) .skip))) (.seq (.kp [4] s_grid_World_May_p8) (.seq (.region false [⟨none, .store 1 [] (.t 4) (.v (.int .i64 0)), none, false⟩]) .ret)))
def s_grid_World_May_p10 : SCode := (.seq (.kp [2, 3, 4] (.seq (.kp [2, 3, 4, 19] s_grid_World_May_p0) (.cond (.t 19) (.seq (.region false [⟨none, .store 1 [] (.t 4) (.v (.int .i64 1)), none, false⟩]) .ret) .skip))) (.seq (.kp [2, 3, 4] s_grid_World_May_p2) s_grid_World_May_p9))
def s_grid_World_May : SFn := ⟨2, [.cell 4 none], (.seq (.region false [⟨some 2, .box true 1 (.t 0), none, false⟩,
  ⟨some 3, .box true 5 (.t 1), none, false⟩,
  ⟨some 4, .alloc true [(.int .i64 0)], none, false⟩]) s_grid_World_May_p10)⟩
def s_grid_World_Place_p0 : SCode := (.region false [⟨some 7, .load none (.t 2), none, false⟩,
  ⟨some 8, .load (some 5) (.t 3), none, false⟩,
  ⟨some 9, .call f_grid_World_May [(.t 7), (.t 8)], none, false⟩,
  ⟨some 5, .mv (.t 9), none, false⟩])
def s_grid_World_Place_p1 : SCode := (.seq (.region false [⟨some 10, .mv (.t 5), none, false⟩,
  ⟨some 11, .bin .neq (.t 10) (.v (.int .i64 0)), none, false⟩]) (.cond (.t 11) (.seq (.region false [⟨some 12, .mv (.t 5), none, false⟩,
  ⟨some 4, .mv (.t 12), none, false⟩]) .ret) .skip))
def s_grid_World_Place_p2 : SCode := (.region true [⟨some 13, .load none (.t 2), none, true⟩,
  ⟨some 14, .nilck (.t 13), none, true⟩,
  ⟨some 15, .faddr 3 (.t 14), none, true⟩,
  ⟨some 16, .load none (.t 15), none, true⟩,
  ⟨some 17, .faddr 0 (.t 3), none, true⟩,
  ⟨some 18, .load none (.t 17), none, true⟩,
  ⟨some 19, .faddr 1 (.t 3), none, true⟩,
  ⟨some 20, .load (some 4) (.t 19), none, true⟩,
  ⟨none, .mapset false [.int] (.t 16) (.t 18) (.t 20), none, false⟩])
def s_grid_World_Place_p3 : SCode := (.region false [⟨some 6, .alloc true [(.int .i64 0), (.int .i64 0)], none, false⟩,
  ⟨none, .store 2 [] (.t 6) (.t 24), none, false⟩])
def s_grid_World_Place_p4 : SCode := (.region true [⟨some 25, .load none (.t 2), none, true⟩,
  ⟨some 26, .nilck (.t 25), none, true⟩,
  ⟨some 27, .faddr 4 (.t 26), none, true⟩,
  ⟨some 28, .load none (.t 27), none, true⟩,
  ⟨some 29, .load (some 2) (.t 6), none, true⟩,
  ⟨some 30, .faddr 0 (.t 3), none, true⟩,
  ⟨some 31, .load none (.t 30), none, true⟩,
  ⟨none, .mapset true [.int, .int] (.t 28) (.t 29) (.t 31), none, false⟩])
def s_grid_World_Place_p5 : SCode := (.block 1 s_grid_World_Place_p4)
def s_grid_World_Place_p6 : SCode := (.seq (.kp [2, 3, 23] (.region false [⟨some 21, .faddr 1 (.t 3), none, false⟩,
  ⟨some 22, .load (some 4) (.t 21), none, false⟩,
  ⟨some 23, .call f_cell_Cells [(.t 22)], none, false⟩])) (.block 0 (.rangef (.t 23) [24] s_grid_World_Place_p3 s_grid_World_Place_p5)))
def s_grid_World_Place_p7 : SCode := (.region true [⟨some 32, .load none (.t 2), none, true⟩,
  ⟨some 33, .load none (.t 2), none, true⟩,
  ⟨some 34, .nilck (.t 33), none, true⟩,
  ⟨some 35, .faddr 5 (.t 34), none, true⟩,
  ⟨some 36, .load none (.t 35), none, true⟩,
  ⟨some 37, .faddr 1 (.t 3), none, true⟩,
  ⟨some 38, .load (some 4) (.t 37), none, true⟩,
  ⟨some 39, .bslice [(.int .i64 0), (.int .i64 0), (.int .i64 0), (.int .i64 0)] 1 4 [(0, 4, (.t 38))], none, true⟩,
  ⟨some 40, .append 4 32 [(.int .i64 0), (.int .i64 0), (.int .i64 0), (.int .i64 0)] [(.t 2)] (.t 36) (.t 39), none, false⟩,
  ⟨some 41, .nilck (.t 32), none, false⟩,
  ⟨some 42, .faddr 5 (.t 41), none, false⟩,
  ⟨none, .store 1 [] (.t 42) (.t 40), none, false⟩])
def s_grid_World_Place_p8 : SCode := (.seq (.kp [2, 3] (.seq s_grid_World_Place_p0 s_grid_World_Place_p1)) (.seq (.kp [2, 3] s_grid_World_Place_p2) (.seq (.kp [2, 3] s_grid_World_Place_p6) (.seq (.kp [] s_grid_World_Place_p7) (.seq (.region false [⟨some 4, .mv (.v (.int .i64 0)), none, false⟩]) .ret)))))
def s_grid_World_Place : SFn := ⟨2, [.t 4], (.seq (.region false [⟨some 2, .box true 1 (.t 0), none, false⟩,
  ⟨some 3, .box true 5 (.t 1), none, false⟩,
  ⟨some 4, .mv (.v (.int .i64 0)), none, false⟩]) s_grid_World_Place_p8)⟩
def s_slices_Clone_byte_byte_p0 : SCode := (.seq (.region false [⟨some 3, .mv (.t 0), none, false⟩,
  ⟨some 4, .eq false false [.slice] (.t 3) (.v .nils), none, false⟩]) (.cond (.t 4) (.seq (.region false [⟨some 2, .mv (.v .nils), none, false⟩]) .ret) .skip))
def s_slices_Clone_byte_byte_p1 : SCode := (.region false [⟨some 5, .bslice [] 0 1 [], none, false⟩,
  ⟨some 6, .mv (.t 0), none, false⟩,
  ⟨some 7, .append 1 1 [(.int .u8 0)] [] (.t 5) (.t 6), none, false⟩,
  ⟨some 2, .mv (.t 7), none, false⟩])
def s_slices_Clone_byte_byte : SFn := ⟨1, [.t 2], (.seq (.region false [⟨some 2, .mv (.v .nils), none, false⟩]) (.seq (.kp [0] s_slices_Clone_byte_byte_p0) (.seq s_slices_Clone_byte_byte_p1 .ret)))⟩
def s_grid_New_p0 : SCode := (.region false [⟨some 10, .faddr 0 (.t 1), none, false⟩,
  ⟨some 11, .load none (.t 10), none, false⟩,
  ⟨some 12, .bin .lss (.t 11) (.v (.int .i64 1)), none, false⟩,
  ⟨some 13, .mv (.t 12), none, false⟩,
  ⟨some 14, .faddr 0 (.t 1), (some (13, false)), false⟩,
  ⟨some 15, .load none (.t 14), (some (13, false)), false⟩,
  ⟨some 16, .bin .gtr (.t 15) (.v (.int .i64 128)), (some (13, false)), false⟩,
  ⟨some 17, .pick (.t 13) (.v (.bool true)) (.t 16), none, false⟩,
  ⟨some 18, .mv (.t 17), none, false⟩,
  ⟨some 19, .faddr 1 (.t 1), (some (18, false)), false⟩,
  ⟨some 20, .load none (.t 19), (some (18, false)), false⟩,
  ⟨some 21, .bin .lss (.t 20) (.v (.int .i64 1)), (some (18, false)), false⟩,
  ⟨some 22, .pick (.t 18) (.v (.bool true)) (.t 21), none, false⟩,
  ⟨some 23, .mv (.t 22), none, false⟩,
  ⟨some 24, .faddr 1 (.t 1), (some (23, false)), false⟩,
  ⟨some 25, .load none (.t 24), (some (23, false)), false⟩,
  ⟨some 26, .bin .gtr (.t 25) (.v (.int .i64 128)), (some (23, false)), false⟩,
  ⟨some 27, .pick (.t 23) (.v (.bool true)) (.t 26), none, false⟩,
  ⟨some 28, .mv (.t 27), none, false⟩,
  ⟨some 29, .faddr 2 (.t 1), (some (28, false)), false⟩,
  ⟨some 30, .load none (.t 29), (some (28, false)), false⟩,
  ⟨some 31, .len (.t 30), (some (28, false)), false⟩,
  ⟨some 32, .faddr 0 (.t 1), (some (28, false)), false⟩,
  ⟨some 33, .load none (.t 32), (some (28, false)), false⟩,
  ⟨some 34, .faddr 1 (.t 1), (some (28, false)), false⟩,
  ⟨some 35, .load none (.t 34), (some (28, false)), false⟩,
  ⟨some 36, .bin .mul (.t 33) (.t 35), (some (28, false)), false⟩,
  ⟨some 37, .bin .neq (.t 31) (.t 36), (some (28, false)), false⟩,
  ⟨some 38, .pick (.t 28) (.v (.bool true)) (.t 37), none, false⟩])
def s_grid_New_p1 : SCode := (.region false [⟨some 39, .faddr 2 (.t 1), none, false⟩,
  ⟨some 40, .load none (.t 39), none, false⟩,
  ⟨some 41, .len (.t 40), none, false⟩,
  ⟨some 42, .mv (.v (.int .i64 0)), none, false⟩])
def s_grid_New_p2 : SCode := (.seq (.region false [⟨some 46, .mv (.t 5), none, false⟩,
  ⟨some 47, .bin .geq (.t 46) (.v (.int .u8 4)), none, false⟩]) (.cond (.t 47) (.seq (.region false [⟨some 2, .mv (.v .nilp), none, false⟩,
  ⟨some 3, .mv (.v (.int .i64 1)), none, false⟩]) .ret) .skip))
def s_grid_New_p3 : SCode := (.kp [1, 40, 41, 42] (.block 1 (.seq (.region false [⟨some 44, .iaddr 1 (.t 40) (.t 42), none, false⟩,
  ⟨some 45, .load none (.t 44), none, false⟩,
  ⟨some 5, .mv (.t 45), none, false⟩]) s_grid_New_p2)))
def s_grid_New_p4 : SCode := (.seq (.kp [1, 40, 41, 42] (.cond (.t 43) .skip (.exit 0))) (.seq s_grid_New_p3 (.region false [⟨some 48, .bin .add (.t 42) (.v (.int .i64 1)), none, false⟩,
  ⟨some 42, .mv (.t 48), none, false⟩])))
def s_grid_New_p5 : SCode := (.seq (.region false [⟨some 43, .bin .lss (.t 42) (.t 41), none, false⟩]) s_grid_New_p4)
def s_grid_New_p6 : SCode := (.region true [⟨some 49, .faddr 0 (.t 1), none, true⟩,
  ⟨some 50, .load none (.t 49), none, true⟩,
  ⟨some 51, .faddr 1 (.t 1), none, true⟩,
  ⟨some 52, .load none (.t 51), none, true⟩,
  ⟨some 53, .faddr 2 (.t 1), none, true⟩,
  ⟨some 54, .load none (.t 53), none, true⟩,
  ⟨some 55, .call f_slices_Clone_byte_byte [(.t 54)], none, true⟩,
  ⟨some 56, .mkmap, none, true⟩,
  ⟨some 57, .mkmap, none, true⟩,
  ⟨some 58, .build [(.int .i64 0), (.int .i64 0), .nils, .nilm, .nilm, .nils] [(0, 1, (.t 50)), (1, 1, (.t 52)), (2, 1, (.t 55)), (3, 1, (.t 56)), (4, 1, (.t 57)), (5, 1, (.v .nils))], none, false⟩,
  ⟨some 59, .box false 6 (.t 58), none, false⟩,
  ⟨some 6, .mv (.t 59), none, false⟩])
def s_grid_New_p7 : SCode := (.region false [⟨some 60, .faddr 3 (.t 1), none, false⟩,
  ⟨some 61, .load none (.t 60), none, false⟩,
  ⟨some 62, .len (.t 61), none, false⟩,
  ⟨some 63, .mv (.v (.int .i64 0)), none, false⟩])
def s_grid_New_p8 : SCode := (.region false [⟨some 65, .iaddr 5 (.t 61) (.t 63), none, false⟩,
  ⟨some 66, .load (some 5) (.t 65), none, false⟩,
  ⟨some 9, .alloc true [(.int .i64 0), (.int .i64 0), (.int .i64 0), (.int .i64 0), (.int .i64 0)], none, false⟩,
  ⟨none, .store 5 [] (.t 9) (.t 66), none, false⟩])
def s_grid_New_p9 : SCode := (.region false [⟨some 67, .faddr 0 (.t 9), none, false⟩,
  ⟨some 68, .load none (.t 67), none, false⟩,
  ⟨some 69, .mv (.t 7), none, false⟩,
  ⟨some 70, .bin .leq (.t 68) (.t 69), none, false⟩,
  ⟨some 71, .mv (.t 70), none, false⟩,
  ⟨some 72, .mv (.t 6), (some (71, false)), false⟩,
  ⟨some 73, .load (some 5) (.t 9), (some (71, false)), false⟩,
  ⟨some 74, .call f_grid_World_Place [(.t 72), (.t 73)], (some (71, false)), false⟩,
  ⟨some 75, .bin .neq (.t 74) (.v (.int .i64 0)), (some (71, false)), false⟩,
  ⟨some 76, .pick (.t 71) (.v (.bool true)) (.t 75), none, false⟩])
def s_grid_New_p10 : SCode := (.seq (.kp [6, 9, 61, 62, 63, 76] s_grid_New_p9) (.cond (.t 76) (.seq (.region false [⟨some 2, .mv (.v .nilp), none, false⟩,
  ⟨some 3, .mv (.v (.int .i64 1)), none, false⟩]) .ret) .skip))
def s_grid_New_p11 : SCode := (.seq (.kp [6, 9, 61, 62, 63] s_grid_New_p10) (.region false [⟨some 77, .faddr 0 (.t 9), none, false⟩,
  ⟨some 78, .load none (.t 77), none, false⟩,
  ⟨some 7, .mv (.t 78), none, false⟩]))
def s_grid_New_p12 : SCode := (.seq (.kp [6, 7, 61, 62, 63] (.block 3 (.seq s_grid_New_p8 s_grid_New_p11))) (.region false [⟨some 79, .bin .add (.t 63) (.v (.int .i64 1)), none, false⟩,
  ⟨some 63, .mv (.t 79), none, false⟩]))
def s_grid_New_p13 : SCode := (.seq (.region false [⟨some 64, .bin .lss (.t 63) (.t 62), none, false⟩]) (.seq (.kp [6, 7, 61, 62, 63] (.cond (.t 64) .skip (.exit 2))) s_grid_New_p12))
def s_grid_New_p14 : SCode := (.region false [⟨some 80, .mv (.t 6), none, false⟩,
  ⟨some 81, .nilck (.t 80), none, false⟩,
  ⟨some 82, .faddr 5 (.t 81), none, false⟩,
  ⟨none, .store 1 [] (.t 82) (.v .nils), none, false⟩])
def s_grid_New_p15 : SCode := (.seq (.kp [6] (.seq (.kp [6, 7, 61, 62, 63] s_grid_New_p7) (.block 2 (.loop (some [6, 7, 61, 62, 63]) s_grid_New_p13)))) (.seq s_grid_New_p14 (.seq (.region false [⟨some 83, .mv (.t 6), none, false⟩,
  ⟨some 2, .mv (.t 83), none, false⟩,
  ⟨some 3, .mv (.v (.int .i64 0)), none, false⟩]) .ret)))
def s_grid_New_p16 : SCode := (.seq (.kp [1] (.seq (.kp [1, 40, 41, 42] s_grid_New_p1) (.block 0 (.loop (some [1, 40, 41, 42]) s_grid_New_p5)))) (.seq (.kp [1, 6] s_grid_New_p6) (.seq (.region false [⟨some 7, .mv (.v (.int .i64 0)), none, false⟩]) s_grid_New_p15)))
def s_grid_New_p17 : SCode := (.seq (.kp [1] (.seq (.kp [1, 38] s_grid_New_p0) (.cond (.t 38) (.seq (.region false [⟨some 2, .mv (.v .nilp), none, false⟩,
  ⟨some 3, .mv (.v (.int .i64 1)), none, false⟩]) .ret) .skip))) s_grid_New_p16)
def s_grid_New : SFn := ⟨1, [.t 2, .t 3], (.seq (.region false [⟨some 1, .box true 4 (.t 0), none, false⟩,
  ⟨some 2, .mv (.v .nilp), none, false⟩,
  ⟨some 3, .mv (.v (.int .i64 0)), none, false⟩]) s_grid_New_p17)⟩
def s_ref03_Last_p0 : SCode := (.region false [⟨some 3, .faddr 0 (.t 1), none, false⟩,
  ⟨some 4, .faddr 0 (.t 3), none, false⟩,
  ⟨some 5, .load none (.t 4), none, false⟩,
  ⟨some 6, .faddr 2 (.t 1), none, false⟩,
  ⟨some 7, .load none (.t 6), none, false⟩,
  ⟨some 8, .bin .add (.t 5) (.t 7), none, false⟩,
  ⟨some 9, .bin .sub (.t 8) (.v (.int .i64 1)), none, false⟩,
  ⟨some 10, .faddr 0 (.t 1), none, false⟩,
  ⟨some 11, .faddr 1 (.t 10), none, false⟩,
  ⟨some 12, .load none (.t 11), none, false⟩,
  ⟨some 13, .faddr 3 (.t 1), none, false⟩,
  ⟨some 14, .load none (.t 13), none, false⟩,
  ⟨some 15, .bin .add (.t 12) (.t 14), none, false⟩,
  ⟨some 16, .bin .sub (.t 15) (.v (.int .i64 1)), none, false⟩,
  ⟨some 17, .build [(.int .i64 0), (.int .i64 0)] [(0, 1, (.t 9)), (1, 1, (.t 16))], none, false⟩,
  ⟨none, .store 2 [] (.t 2) (.t 17), none, false⟩])
def s_ref03_Last : SFn := ⟨1, [.cell 2 (some 2)], (.seq (.region false [⟨some 1, .box true 4 (.t 0), none, false⟩,
  ⟨some 2, .alloc true [(.int .i64 0), (.int .i64 0)], none, false⟩]) (.seq (.kp [2] s_ref03_Last_p0) .ret))⟩
def s_ref03_near_p0 : SCode := (.region false [⟨some 3, .mv (.t 0), none, false⟩,
  ⟨some 4, .bin .geq (.t 3) (.v (.int .i64 (-1048576))), none, false⟩,
  ⟨some 5, .mv (.t 4), none, false⟩,
  ⟨some 6, .mv (.t 0), (some (5, true)), false⟩,
  ⟨some 7, .bin .leq (.t 6) (.v (.int .i64 1048576)), (some (5, true)), false⟩,
  ⟨some 8, .pick (.t 5) (.t 7) (.v (.bool false)), none, false⟩,
  ⟨some 2, .mv (.t 8), none, false⟩])
def s_ref03_near : SFn := ⟨1, [.t 2], (.seq (.region false [⟨some 2, .mv (.v (.bool false)), none, false⟩]) (.seq (.kp [2] s_ref03_near_p0) .ret))⟩
def s_ref03_Near_p0 : SCode := (.region false [⟨some 3, .faddr 0 (.t 1), none, false⟩,
  ⟨some 4, .load none (.t 3), none, false⟩,
  ⟨some 5, .call f_ref03_near [(.t 4)], none, false⟩,
  ⟨some 6, .mv (.t 5), none, false⟩,
  ⟨some 7, .faddr 1 (.t 1), (some (6, true)), false⟩,
  ⟨some 8, .load none (.t 7), (some (6, true)), false⟩,
  ⟨some 9, .call f_ref03_near [(.t 8)], (some (6, true)), false⟩,
  ⟨some 10, .pick (.t 6) (.t 9) (.v (.bool false)), none, false⟩,
  ⟨some 2, .mv (.t 10), none, false⟩])
def s_ref03_Near : SFn := ⟨1, [.t 2], (.seq (.region false [⟨some 1, .box true 2 (.t 0), none, false⟩,
  ⟨some 2, .mv (.v (.bool false)), none, false⟩]) (.seq (.kp [2] s_ref03_Near_p0) .ret))⟩
def s_ref03_May_p0 : SCode := (.region false [⟨some 3, .faddr 0 (.t 1), none, false⟩,
  ⟨some 4, .load (some 2) (.t 3), none, false⟩,
  ⟨some 5, .call f_ref03_Near [(.t 4)], none, false⟩,
  ⟨some 6, .mv (.t 5), none, false⟩,
  ⟨some 7, .faddr 2 (.t 1), (some (6, true)), false⟩,
  ⟨some 8, .load none (.t 7), (some (6, true)), false⟩,
  ⟨some 9, .bin .geq (.t 8) (.v (.int .i64 1)), (some (6, true)), false⟩,
  ⟨some 10, .pick (.t 6) (.t 9) (.v (.bool false)), none, false⟩,
  ⟨some 11, .mv (.t 10), none, false⟩,
  ⟨some 12, .faddr 2 (.t 1), (some (11, true)), false⟩,
  ⟨some 13, .load none (.t 12), (some (11, true)), false⟩,
  ⟨some 14, .bin .leq (.t 13) (.v (.int .i64 1048576)), (some (11, true)), false⟩,
  ⟨some 15, .pick (.t 11) (.t 14) (.v (.bool false)), none, false⟩,
  ⟨some 16, .mv (.t 15), none, false⟩,
  ⟨some 17, .faddr 3 (.t 1), (some (16, true)), false⟩,
  ⟨some 18, .load none (.t 17), (some (16, true)), false⟩,
  ⟨some 19, .bin .geq (.t 18) (.v (.int .i64 1)), (some (16, true)), false⟩,
  ⟨some 20, .pick (.t 16) (.t 19) (.v (.bool false)), none, false⟩,
  ⟨some 21, .mv (.t 20), none, false⟩,
  ⟨some 22, .faddr 3 (.t 1), (some (21, true)), false⟩,
  ⟨some 23, .load none (.t 22), (some (21, true)), false⟩,
  ⟨some 24, .bin .leq (.t 23) (.v (.int .i64 1048576)), (some (21, true)), false⟩,
  ⟨some 25, .pick (.t 21) (.t 24) (.v (.bool false)), none, false⟩,
  ⟨some 26, .mv (.t 25), none, false⟩,
  ⟨some 27, .load (some 4) (.t 1), (some (26, true)), false⟩,
  ⟨some 28, .call f_ref03_Last [(.t 27)], (some (26, true)), false⟩,
  ⟨some 29, .call f_ref03_Near [(.t 28)], (some (26, true)), false⟩,
  ⟨some 30, .pick (.t 26) (.t 29) (.v (.bool false)), none, false⟩,
  ⟨some 2, .mv (.t 30), none, false⟩])
def s_ref03_May : SFn := ⟨1, [.t 2], (.seq (.region false [⟨some 1, .box true 4 (.t 0), none, false⟩,
  ⟨some 2, .mv (.v (.bool false)), none, false⟩]) (.seq (.kp [2] s_ref03_May_p0) .ret))⟩
def s_ref03_Has_p0 : SCode := (.region true [⟨some 5, .load (some 4) (.t 2), none, false⟩,
  ⟨some 6, .call f_ref03_May [(.t 5)], none, false⟩,
  ⟨some 7, .mv (.t 6), none, false⟩,
  ⟨some 8, .faddr 0 (.t 3), (some (7, true)), true⟩,
  ⟨some 9, .load none (.t 8), (some (7, true)), true⟩,
  ⟨some 10, .faddr 0 (.t 2), (some (7, true)), true⟩,
  ⟨some 11, .faddr 0 (.t 10), (some (7, true)), true⟩,
  ⟨some 12, .load none (.t 11), (some (7, true)), true⟩,
  ⟨some 13, .bin .geq (.t 9) (.t 12), (some (7, true)), false⟩,
  ⟨some 14, .pick (.t 7) (.t 13) (.v (.bool false)), none, false⟩,
  ⟨some 15, .mv (.t 14), none, false⟩,
  ⟨some 16, .faddr 1 (.t 3), (some (15, true)), true⟩,
  ⟨some 17, .load none (.t 16), (some (15, true)), true⟩,
  ⟨some 18, .faddr 0 (.t 2), (some (15, true)), true⟩,
  ⟨some 19, .faddr 1 (.t 18), (some (15, true)), true⟩,
  ⟨some 20, .load none (.t 19), (some (15, true)), true⟩,
  ⟨some 21, .bin .geq (.t 17) (.t 20), (some (15, true)), false⟩,
  ⟨some 22, .pick (.t 15) (.t 21) (.v (.bool false)), none, false⟩,
  ⟨some 23, .mv (.t 22), none, false⟩,
  ⟨some 24, .faddr 0 (.t 3), (some (23, true)), true⟩,
  ⟨some 25, .load none (.t 24), (some (23, true)), true⟩,
  ⟨some 26, .load (some 4) (.t 2), (some (23, true)), true⟩,
  ⟨some 27, .call f_ref03_Last [(.t 26)], (some (23, true)), true⟩,
  ⟨some 28, .field 0 none (.t 27), (some (23, true)), true⟩,
  ⟨some 29, .bin .leq (.t 25) (.t 28), (some (23, true)), false⟩,
  ⟨some 30, .pick (.t 23) (.t 29) (.v (.bool false)), none, false⟩,
  ⟨some 31, .mv (.t 30), none, false⟩,
  ⟨some 32, .faddr 1 (.t 3), (some (31, true)), true⟩,
  ⟨some 33, .load none (.t 32), (some (31, true)), true⟩,
  ⟨some 34, .load (some 4) (.t 2), (some (31, true)), true⟩,
  ⟨some 35, .call f_ref03_Last [(.t 34)], (some (31, true)), true⟩,
  ⟨some 36, .field 1 none (.t 35), (some (31, true)), true⟩,
  ⟨some 37, .bin .leq (.t 33) (.t 36), (some (31, true)), false⟩,
  ⟨some 38, .pick (.t 31) (.t 37) (.v (.bool false)), none, false⟩,
  ⟨some 4, .mv (.t 38), none, false⟩])
def s_ref03_Has_p1 : SCode := (.seq (.region false [⟨some 2, .box true 4 (.t 0), none, false⟩,
  ⟨some 3, .box true 2 (.t 1), none, false⟩,
  ⟨some 4, .mv (.v (.bool false)), none, false⟩]) (.seq (.kp [4] s_ref03_Has_p0) .ret))
def s_ref03_Has : SFn := ⟨2, [.t 4], s_ref03_Has_p1⟩
def s_ref03_Within_p0 : SCode := (.region true [⟨some 5, .load (some 4) (.t 2), none, false⟩,
  ⟨some 6, .call f_ref03_May [(.t 5)], none, false⟩,
  ⟨some 7, .mv (.t 6), none, false⟩,
  ⟨some 8, .load (some 4) (.t 3), (some (7, true)), true⟩,
  ⟨some 9, .faddr 0 (.t 2), (some (7, true)), true⟩,
  ⟨some 10, .load (some 2) (.t 9), (some (7, true)), true⟩,
  ⟨some 11, .call f_ref03_Has [(.t 8), (.t 10)], (some (7, true)), false⟩,
  ⟨some 12, .pick (.t 7) (.t 11) (.v (.bool false)), none, false⟩,
  ⟨some 13, .mv (.t 12), none, false⟩,
  ⟨some 14, .load (some 4) (.t 3), (some (13, true)), true⟩,
  ⟨some 15, .load (some 4) (.t 2), (some (13, true)), true⟩,
  ⟨some 16, .call f_ref03_Last [(.t 15)], (some (13, true)), true⟩,
  ⟨some 17, .call f_ref03_Has [(.t 14), (.t 16)], (some (13, true)), false⟩,
  ⟨some 18, .pick (.t 13) (.t 17) (.v (.bool false)), none, false⟩,
  ⟨some 4, .mv (.t 18), none, false⟩])
def s_ref03_Within_p1 : SCode := (.seq (.region false [⟨some 2, .box true 4 (.t 0), none, false⟩,
  ⟨some 3, .box true 4 (.t 1), none, false⟩,
  ⟨some 4, .mv (.v (.bool false)), none, false⟩]) (.seq (.kp [4] s_ref03_Within_p0) .ret))
def s_ref03_Within : SFn := ⟨2, [.t 4], s_ref03_Within_p1⟩
def s_ref04_MayBe_p0 : SCode := (.region false [⟨some 5, .faddr 0 (.t 2), none, false⟩,
  ⟨some 6, .load none (.t 5), none, false⟩,
  ⟨some 7, .bin .geq (.t 6) (.v (.int .i64 1)), none, false⟩,
  ⟨some 8, .mv (.t 7), none, false⟩,
  ⟨some 9, .faddr 0 (.t 2), (some (8, true)), false⟩,
  ⟨some 10, .load none (.t 9), (some (8, true)), false⟩,
  ⟨some 11, .bin .leq (.t 10) (.v (.int .i64 2147483647)), (some (8, true)), false⟩,
  ⟨some 12, .pick (.t 8) (.t 11) (.v (.bool false)), none, false⟩,
  ⟨some 13, .mv (.t 12), none, false⟩,
  ⟨some 14, .faddr 1 (.t 2), (some (13, true)), false⟩,
  ⟨some 15, .faddr 2 (.t 14), (some (13, true)), false⟩,
  ⟨some 16, .load none (.t 15), (some (13, true)), false⟩,
  ⟨some 17, .bin .geq (.t 16) (.v (.int .i64 1)), (some (13, true)), false⟩,
  ⟨some 18, .pick (.t 13) (.t 17) (.v (.bool false)), none, false⟩,
  ⟨some 19, .mv (.t 18), none, false⟩,
  ⟨some 20, .faddr 1 (.t 2), (some (19, true)), false⟩,
  ⟨some 21, .faddr 2 (.t 20), (some (19, true)), false⟩,
  ⟨some 22, .load none (.t 21), (some (19, true)), false⟩,
  ⟨some 23, .bin .leq (.t 22) (.v (.int .i64 8)), (some (19, true)), false⟩,
  ⟨some 24, .pick (.t 19) (.t 23) (.v (.bool false)), none, false⟩,
  ⟨some 25, .mv (.t 24), none, false⟩,
  ⟨some 26, .faddr 1 (.t 2), (some (25, true)), false⟩,
  ⟨some 27, .faddr 3 (.t 26), (some (25, true)), false⟩,
  ⟨some 28, .load none (.t 27), (some (25, true)), false⟩,
  ⟨some 29, .bin .geq (.t 28) (.v (.int .i64 1)), (some (25, true)), false⟩,
  ⟨some 30, .pick (.t 25) (.t 29) (.v (.bool false)), none, false⟩,
  ⟨some 31, .mv (.t 30), none, false⟩,
  ⟨some 32, .faddr 1 (.t 2), (some (31, true)), false⟩,
  ⟨some 33, .faddr 3 (.t 32), (some (31, true)), false⟩,
  ⟨some 34, .load none (.t 33), (some (31, true)), false⟩,
  ⟨some 35, .bin .leq (.t 34) (.v (.int .i64 8)), (some (31, true)), false⟩,
  ⟨some 36, .pick (.t 31) (.t 35) (.v (.bool false)), none, false⟩,
  ⟨some 37, .mv (.t 36), none, false⟩,
  ⟨some 38, .faddr 1 (.t 2), (some (37, true)), false⟩,
  ⟨some 39, .load (some 4) (.t 38), (some (37, true)), false⟩,
  ⟨some 40, .load (some 4) (.t 3), (some (37, true)), false⟩,
  ⟨some 41, .call f_ref03_Within [(.t 39), (.t 40)], (some (37, true)), false⟩,
  ⟨some 42, .pick (.t 37) (.t 41) (.v (.bool false)), none, false⟩,
  ⟨some 4, .mv (.t 42), none, false⟩])
def s_ref04_MayBe_p1 : SCode := (.seq (.region false [⟨some 2, .box true 5 (.t 0), none, false⟩,
  ⟨some 3, .box true 4 (.t 1), none, false⟩,
  ⟨some 4, .mv (.v (.bool false)), none, false⟩]) (.seq (.kp [4] s_ref04_MayBe_p0) .ret))
def s_ref04_MayBe : SFn := ⟨2, [.t 4], s_ref04_MayBe_p1⟩
def s_ref03_Meet_p0 : SCode := (.region false [⟨some 2, .box true 4 (.t 0), none, false⟩,
  ⟨some 3, .box true 4 (.t 1), none, false⟩,
  ⟨some 4, .alloc true [(.int .i64 0), (.int .i64 0), (.int .i64 0), (.int .i64 0)], none, false⟩,
  ⟨some 5, .mv (.v (.bool false)), none, false⟩])
def s_ref03_Meet_p1 : SCode := (.region false [⟨some 10, .load (some 4) (.t 2), none, false⟩,
  ⟨some 11, .call f_ref03_May [(.t 10)], none, false⟩,
  ⟨some 12, .un .not (.t 11), none, false⟩,
  ⟨some 13, .mv (.t 12), none, false⟩,
  ⟨some 14, .load (some 4) (.t 3), (some (13, false)), false⟩,
  ⟨some 15, .call f_ref03_May [(.t 14)], (some (13, false)), false⟩,
  ⟨some 16, .un .not (.t 15), (some (13, false)), false⟩,
  ⟨some 17, .pick (.t 13) (.v (.bool true)) (.t 16), none, false⟩])
def s_ref03_Meet_p2 : SCode := (.region false [⟨some 18, .build [(.int .i64 0), (.int .i64 0), (.int .i64 0), (.int .i64 0)] [], none, false⟩,
  ⟨none, .store 4 [] (.t 4) (.t 18), none, false⟩,
  ⟨some 5, .mv (.v (.bool false)), none, false⟩])
def s_ref03_Meet_p3 : SCode := (.region true [⟨some 19, .faddr 0 (.t 2), none, true⟩,
  ⟨some 20, .faddr 0 (.t 19), none, true⟩,
  ⟨some 21, .load none (.t 20), none, true⟩,
  ⟨some 22, .faddr 0 (.t 2), none, true⟩,
  ⟨some 23, .faddr 1 (.t 22), none, true⟩,
  ⟨some 24, .load none (.t 23), none, true⟩,
  ⟨some 6, .mv (.t 21), none, true⟩,
  ⟨some 7, .mv (.t 24), none, false⟩])
def s_ref03_Meet_p4 : SCode := (.region false [⟨some 25, .faddr 0 (.t 3), none, false⟩,
  ⟨some 26, .faddr 0 (.t 25), none, false⟩,
  ⟨some 27, .load none (.t 26), none, false⟩,
  ⟨some 28, .mv (.t 6), none, false⟩,
  ⟨some 29, .bin .gtr (.t 27) (.t 28), none, false⟩])
def s_ref03_Meet_p5 : SCode := (.region false [⟨some 30, .faddr 0 (.t 3), none, false⟩,
  ⟨some 31, .faddr 0 (.t 30), none, false⟩,
  ⟨some 32, .load none (.t 31), none, false⟩,
  ⟨some 6, .mv (.t 32), none, false⟩])
def s_ref03_Meet_p6 : SCode := (.region false [⟨some 33, .faddr 0 (.t 3), none, false⟩,
  ⟨some 34, .faddr 1 (.t 33), none, false⟩,
  ⟨some 35, .load none (.t 34), none, false⟩,
  ⟨some 36, .mv (.t 7), none, false⟩,
  ⟨some 37, .bin .gtr (.t 35) (.t 36), none, false⟩])
def s_ref03_Meet_p7 : SCode := (.region false [⟨some 38, .faddr 0 (.t 3), none, false⟩,
  ⟨some 39, .faddr 1 (.t 38), none, false⟩,
  ⟨some 40, .load none (.t 39), none, false⟩,
  ⟨some 7, .mv (.t 40), none, false⟩])
def s_ref03_Meet_p8 : SCode := (.region true [⟨some 41, .load (some 4) (.t 2), none, true⟩,
  ⟨some 43, .load (some 4) (.t 3), none, true⟩,
  ⟨some 42, .call f_ref03_Last [(.t 41)], none, true⟩,
  ⟨some 44, .call f_ref03_Last [(.t 43)], none, false⟩,
  ⟨some 8, .alloc true [(.int .i64 0), (.int .i64 0)], none, true⟩,
  ⟨some 9, .alloc true [(.int .i64 0), (.int .i64 0)], none, true⟩,
  ⟨none, .store 2 [] (.t 8) (.t 42), none, false⟩,
  ⟨none, .store 2 [] (.t 9) (.t 44), none, false⟩])
def s_ref03_Meet_p9 : SCode := (.region false [⟨some 45, .faddr 0 (.t 9), none, false⟩,
  ⟨some 46, .load none (.t 45), none, false⟩,
  ⟨some 47, .faddr 0 (.t 8), none, false⟩,
  ⟨some 48, .load none (.t 47), none, false⟩,
  ⟨some 49, .bin .lss (.t 46) (.t 48), none, false⟩])
def s_ref03_Meet_p10 : SCode := (.region false [⟨some 50, .faddr 0 (.t 9), none, false⟩,
  ⟨some 51, .load none (.t 50), none, false⟩,
  ⟨some 52, .faddr 0 (.t 8), none, false⟩,
  ⟨none, .store 1 [] (.t 52) (.t 51), none, false⟩])
def s_ref03_Meet_p11 : SCode := (.region false [⟨some 53, .faddr 1 (.t 9), none, false⟩,
  ⟨some 54, .load none (.t 53), none, false⟩,
  ⟨some 55, .faddr 1 (.t 8), none, false⟩,
  ⟨some 56, .load none (.t 55), none, false⟩,
  ⟨some 57, .bin .lss (.t 54) (.t 56), none, false⟩])
def s_ref03_Meet_p12 : SCode := (.region false [⟨some 58, .faddr 1 (.t 9), none, false⟩,
  ⟨some 59, .load none (.t 58), none, false⟩,
  ⟨some 60, .faddr 1 (.t 8), none, false⟩,
  ⟨none, .store 1 [] (.t 60) (.t 59), none, false⟩])
def s_ref03_Meet_p13 : SCode := (.region false [⟨some 61, .faddr 0 (.t 8), none, false⟩,
  ⟨some 62, .load none (.t 61), none, false⟩,
  ⟨some 63, .mv (.t 6), none, false⟩,
  ⟨some 64, .bin .lss (.t 62) (.t 63), none, false⟩,
  ⟨some 65, .mv (.t 64), none, false⟩,
  ⟨some 66, .faddr 1 (.t 8), (some (65, false)), false⟩,
  ⟨some 67, .load none (.t 66), (some (65, false)), false⟩,
  ⟨some 68, .mv (.t 7), (some (65, false)), false⟩,
  ⟨some 69, .bin .lss (.t 67) (.t 68), (some (65, false)), false⟩,
  ⟨some 70, .pick (.t 65) (.v (.bool true)) (.t 69), none, false⟩])
def s_ref03_Meet_p14 : SCode := (.region false [⟨some 71, .build [(.int .i64 0), (.int .i64 0), (.int .i64 0), (.int .i64 0)] [], none, false⟩,
  ⟨none, .store 4 [] (.t 4) (.t 71), none, false⟩,
  ⟨some 5, .mv (.v (.bool false)), none, false⟩])
def s_ref03_Meet_p15 : SCode := (.region false [⟨some 72, .mv (.t 6), none, false⟩,
  ⟨some 73, .mv (.t 7), none, false⟩,
  ⟨some 74, .build [(.int .i64 0), (.int .i64 0)] [(0, 1, (.t 72)), (1, 1, (.t 73))], none, false⟩,
  ⟨some 75, .faddr 0 (.t 8), none, false⟩,
  ⟨some 76, .load none (.t 75), none, false⟩,
  ⟨some 77, .mv (.t 6), none, false⟩,
  ⟨some 78, .bin .sub (.t 76) (.t 77), none, false⟩,
  ⟨some 79, .bin .add (.t 78) (.v (.int .i64 1)), none, false⟩,
  ⟨some 80, .faddr 1 (.t 8), none, false⟩,
  ⟨some 81, .load none (.t 80), none, false⟩,
  ⟨some 82, .mv (.t 7), none, false⟩,
  ⟨some 83, .bin .sub (.t 81) (.t 82), none, false⟩,
  ⟨some 84, .bin .add (.t 83) (.v (.int .i64 1)), none, false⟩,
  ⟨some 85, .build [(.int .i64 0), (.int .i64 0), (.int .i64 0), (.int .i64 0)] [(0, 2, (.t 74)), (2, 1, (.t 79)), (3, 1, (.t 84))], none, false⟩,
  ⟨none, .store 4 [] (.t 4) (.t 85), none, false⟩,
  ⟨some 5, .mv (.v (.bool true)), none, false⟩])
def s_ref03_Meet_p16 : SCode := (.seq (.kp [4, 6, 7, 8] (.seq (.kp [4, 6, 7, 8, 9, 57] s_ref03_Meet_p11) (.cond (.t 57) s_ref03_Meet_p12 .skip))) (.seq (.kp [4, 6, 7, 8] (.seq (.kp [4, 6, 7, 8, 70] s_ref03_Meet_p13) (.cond (.t 70) (.seq s_ref03_Meet_p14 .ret) .skip))) (.seq (.kp [4, 5] s_ref03_Meet_p15) .ret)))
def s_ref03_Meet_p17 : SCode := (.seq (.kp [2, 3, 4, 6, 7] (.seq (.kp [2, 3, 4, 6, 7, 37] s_ref03_Meet_p6) (.cond (.t 37) s_ref03_Meet_p7 .skip))) (.seq (.kp [4, 6, 7, 8, 9] s_ref03_Meet_p8) (.seq (.kp [4, 6, 7, 8, 9] (.seq (.kp [4, 6, 7, 8, 9, 49] s_ref03_Meet_p9) (.cond (.t 49) s_ref03_Meet_p10 .skip))) s_ref03_Meet_p16)))
def s_ref03_Meet_p18 : SCode := (.seq (.kp [2, 3, 4] (.seq (.kp [2, 3, 4, 17] s_ref03_Meet_p1) (.cond (.t 17) (.seq s_ref03_Meet_p2 .ret) .skip))) (.seq (.kp [2, 3, 4, 6, 7] s_ref03_Meet_p3) (.seq (.kp [2, 3, 4, 6, 7] (.seq (.kp [2, 3, 4, 6, 7, 29] s_ref03_Meet_p4) (.cond (.t 29) s_ref03_Meet_p5 .skip))) s_ref03_Meet_p17)))
def s_ref03_Meet : SFn := ⟨2, [.cell 4 (some 4), .t 5], (.seq s_ref03_Meet_p0 s_ref03_Meet_p18)⟩
def s_ref04_share_p0 : SCode := (.region false [⟨some 8, .load (some 4) (.t 2), none, false⟩,
  ⟨some 9, .load (some 4) (.t 3), none, false⟩,
  ⟨some 10, .call f_ref03_Meet [(.t 8), (.t 9)], none, false⟩,
  ⟨some 7, .mv (.t 10), none, false⟩,
  ⟨some 11, .ext (.t 7) 0, none, false⟩,
  ⟨some 12, .ext (.t 7) 1, none, false⟩,
  ⟨some 5, .alloc true [(.int .i64 0), (.int .i64 0), (.int .i64 0), (.int .i64 0)], none, false⟩,
  ⟨none, .store 4 [] (.t 5) (.t 11), none, false⟩,
  ⟨some 6, .mv (.t 12), none, false⟩])
def s_ref04_share_p1 : SCode := (.seq (.region false [⟨some 2, .box true 4 (.t 0), none, false⟩,
  ⟨some 3, .box true 4 (.t 1), none, false⟩,
  ⟨some 4, .mv (.v (.bool false)), none, false⟩]) (.seq (.kp [6] s_ref04_share_p0) (.seq (.region false [⟨some 13, .mv (.t 6), none, false⟩,
  ⟨some 4, .mv (.t 13), none, false⟩]) .ret)))
def s_ref04_share : SFn := ⟨2, [.t 4], s_ref04_share_p1⟩
def s_ref04_Check_p0 : SCode := (.region false [⟨some 6, .faddr 0 (.t 1), none, false⟩,
  ⟨some 7, .load none (.t 6), none, false⟩,
  ⟨some 8, .bin .lss (.t 7) (.v (.int .i64 1)), none, false⟩,
  ⟨some 9, .mv (.t 8), none, false⟩,
  ⟨some 10, .faddr 0 (.t 1), (some (9, false)), false⟩,
  ⟨some 11, .load none (.t 10), (some (9, false)), false⟩,
  ⟨some 12, .bin .gtr (.t 11) (.v (.int .i64 128)), (some (9, false)), false⟩,
  ⟨some 13, .pick (.t 9) (.v (.bool true)) (.t 12), none, false⟩,
  ⟨some 14, .mv (.t 13), none, false⟩,
  ⟨some 15, .faddr 1 (.t 1), (some (14, false)), false⟩,
  ⟨some 16, .load none (.t 15), (some (14, false)), false⟩,
  ⟨some 17, .bin .lss (.t 16) (.v (.int .i64 1)), (some (14, false)), false⟩,
  ⟨some 18, .pick (.t 14) (.v (.bool true)) (.t 17), none, false⟩,
  ⟨some 19, .mv (.t 18), none, false⟩,
  ⟨some 20, .faddr 1 (.t 1), (some (19, false)), false⟩,
  ⟨some 21, .load none (.t 20), (some (19, false)), false⟩,
  ⟨some 22, .bin .gtr (.t 21) (.v (.int .i64 128)), (some (19, false)), false⟩,
  ⟨some 23, .pick (.t 19) (.v (.bool true)) (.t 22), none, false⟩,
  ⟨some 24, .mv (.t 23), none, false⟩,
  ⟨some 25, .faddr 2 (.t 1), (some (24, false)), false⟩,
  ⟨some 26, .load none (.t 25), (some (24, false)), false⟩,
  ⟨some 27, .len (.t 26), (some (24, false)), false⟩,
  ⟨some 28, .faddr 0 (.t 1), (some (24, false)), false⟩,
  ⟨some 29, .load none (.t 28), (some (24, false)), false⟩,
  ⟨some 30, .faddr 1 (.t 1), (some (24, false)), false⟩,
  ⟨some 31, .load none (.t 30), (some (24, false)), false⟩,
  ⟨some 32, .bin .mul (.t 29) (.t 31), (some (24, false)), false⟩,
  ⟨some 33, .bin .neq (.t 27) (.t 32), (some (24, false)), false⟩,
  ⟨some 34, .pick (.t 24) (.v (.bool true)) (.t 33), none, false⟩,
  ⟨some 35, .mv (.t 34), none, false⟩,
  ⟨some 36, .faddr 3 (.t 1), (some (35, false)), false⟩,
  ⟨some 37, .load none (.t 36), (some (35, false)), false⟩,
  ⟨some 38, .len (.t 37), (some (35, false)), false⟩,
  ⟨some 39, .bin .gtr (.t 38) (.v (.int .i64 256)), (some (35, false)), false⟩,
  ⟨some 40, .pick (.t 35) (.v (.bool true)) (.t 39), none, false⟩])
def s_ref04_Check_p1 : SCode := (.region false [⟨some 41, .mv (.t 3), none, false⟩,
  ⟨some 42, .faddr 2 (.t 1), none, false⟩,
  ⟨some 43, .load none (.t 42), none, false⟩,
  ⟨some 44, .len (.t 43), none, false⟩,
  ⟨some 45, .bin .lss (.t 41) (.t 44), none, false⟩])
def s_ref04_Check_p2 : SCode := (.region false [⟨some 48, .faddr 2 (.t 1), none, false⟩,
  ⟨some 49, .load none (.t 48), none, false⟩,
  ⟨some 50, .mv (.t 3), none, false⟩,
  ⟨some 51, .iaddr 1 (.t 49) (.t 50), none, false⟩,
  ⟨some 52, .load none (.t 51), none, false⟩,
  ⟨some 53, .conv .i64 (.t 52), none, false⟩,
  ⟨some 54, .bin .geq (.t 53) (.v (.int .i64 4)), none, false⟩])
def s_ref04_Check_p3 : SCode := (.seq (.kp [1, 3] (.block 1 (.seq (.kp [1, 3, 54] s_ref04_Check_p2) (.cond (.t 54) (.seq (.region false [⟨some 2, .mv (.v (.int .i64 1)), none, false⟩]) .ret) .skip)))) (.region false [⟨some 46, .mv (.t 3), none, false⟩,
  ⟨some 47, .bin .add (.t 46) (.v (.int .i64 1)), none, false⟩,
  ⟨some 3, .mv (.t 47), none, false⟩]))
def s_ref04_Check_p4 : SCode := (.seq (.kp [1, 3] (.seq (.kp [1, 3, 45] s_ref04_Check_p1) (.cond (.t 45) .skip (.exit 0)))) s_ref04_Check_p3)
def s_ref04_Check_p5 : SCode := (.region false [⟨some 55, .mv (.t 4), none, false⟩,
  ⟨some 56, .faddr 3 (.t 1), none, false⟩,
  ⟨some 57, .load none (.t 56), none, false⟩,
  ⟨some 58, .len (.t 57), none, false⟩,
  ⟨some 59, .bin .lss (.t 55) (.t 58), none, false⟩])
def s_ref04_Check_p6 : SCode := (.region true [⟨some 62, .faddr 3 (.t 1), none, true⟩,
  ⟨some 63, .load none (.t 62), none, true⟩,
  ⟨some 64, .mv (.t 4), none, true⟩,
  ⟨some 65, .iaddr 5 (.t 63) (.t 64), none, true⟩,
  ⟨some 66, .load (some 5) (.t 65), none, true⟩,
  ⟨some 67, .faddr 0 (.t 1), none, true⟩,
  ⟨some 68, .load none (.t 67), none, true⟩,
  ⟨some 69, .faddr 1 (.t 1), none, true⟩,
  ⟨some 70, .load none (.t 69), none, true⟩,
  ⟨some 71, .build [(.int .i64 0), (.int .i64 0), (.int .i64 0), (.int .i64 0)] [(2, 1, (.t 68)), (3, 1, (.t 70))], none, true⟩,
  ⟨some 72, .call f_ref04_MayBe [(.t 66), (.t 71)], none, false⟩,
  ⟨some 73, .un .not (.t 72), none, false⟩])
def s_ref04_Check_p7 : SCode := (.seq (.region false [⟨some 74, .mv (.t 5), none, false⟩,
  ⟨some 75, .mv (.t 4), none, false⟩,
  ⟨some 76, .bin .lss (.t 74) (.t 75), none, false⟩]) (.cond (.t 76) .skip (.exit 4)))
def s_ref04_Check_p8 : SCode := (.region true [⟨some 79, .faddr 3 (.t 1), none, true⟩,
  ⟨some 80, .load none (.t 79), none, true⟩,
  ⟨some 81, .mv (.t 5), none, true⟩,
  ⟨some 82, .iaddr 5 (.t 80) (.t 81), none, true⟩,
  ⟨some 83, .faddr 0 (.t 82), none, true⟩,
  ⟨some 84, .load none (.t 83), none, true⟩,
  ⟨some 85, .faddr 3 (.t 1), none, true⟩,
  ⟨some 86, .load none (.t 85), none, true⟩,
  ⟨some 87, .mv (.t 4), none, true⟩,
  ⟨some 88, .iaddr 5 (.t 86) (.t 87), none, true⟩,
  ⟨some 89, .faddr 0 (.t 88), none, true⟩,
  ⟨some 90, .load none (.t 89), none, true⟩,
  ⟨some 91, .bin .geq (.t 84) (.t 90), none, false⟩,
  ⟨some 92, .mv (.t 91), none, false⟩,
  ⟨some 93, .faddr 3 (.t 1), (some (92, false)), true⟩,
  ⟨some 94, .load none (.t 93), (some (92, false)), true⟩,
  ⟨some 95, .mv (.t 5), (some (92, false)), true⟩,
  ⟨some 96, .iaddr 5 (.t 94) (.t 95), (some (92, false)), true⟩,
  ⟨some 97, .faddr 1 (.t 96), (some (92, false)), true⟩,
  ⟨some 98, .load (some 4) (.t 97), (some (92, false)), true⟩,
  ⟨some 99, .faddr 3 (.t 1), (some (92, false)), true⟩,
  ⟨some 100, .load none (.t 99), (some (92, false)), true⟩,
  ⟨some 101, .mv (.t 4), (some (92, false)), true⟩,
  ⟨some 102, .iaddr 5 (.t 100) (.t 101), (some (92, false)), true⟩,
  ⟨some 103, .faddr 1 (.t 102), (some (92, false)), true⟩,
  ⟨some 104, .load (some 4) (.t 103), (some (92, false)), true⟩,
  ⟨some 105, .call f_ref04_share [(.t 98), (.t 104)], (some (92, false)), false⟩,
  ⟨some 106, .pick (.t 92) (.v (.bool true)) (.t 105), none, false⟩])
def s_ref04_Check_p9 : SCode := (.seq (.kp [1, 4, 5] (.block 5 (.seq (.kp [1, 4, 5, 106] s_ref04_Check_p8) (.cond (.t 106) (.seq (.region false [⟨some 2, .mv (.v (.int .i64 1)), none, false⟩]) .ret) .skip)))) (.region false [⟨some 77, .mv (.t 5), none, false⟩,
  ⟨some 78, .bin .add (.t 77) (.v (.int .i64 1)), none, false⟩,
  ⟨some 5, .mv (.t 78), none, false⟩]))
def s_ref04_Check_p10 : SCode := (.seq (.kp [1, 4, 5] s_ref04_Check_p7) s_ref04_Check_p9)
def s_ref04_Check_p11 : SCode := (.seq (.kp [1, 4] (.seq (.kp [1, 4, 73] s_ref04_Check_p6) (.cond (.t 73) (.seq (.region false [⟨some 2, .mv (.v (.int .i64 1)), none, false⟩]) .ret) .skip))) (.seq (.kp [1, 4, 5] (.region false [⟨some 5, .mv (.v (.int .i64 0)), none, false⟩])) (.block 4 (.loop (some [1, 4, 5]) s_ref04_Check_p10))))
def s_ref04_Check_p12 : SCode := (.seq (.kp [1, 4] (.block 3 s_ref04_Check_p11)) (.region false [⟨some 60, .mv (.t 4), none, false⟩,
  ⟨some 61, .bin .add (.t 60) (.v (.int .i64 1)), none, false⟩,
  ⟨some 4, .mv (.t 61), none, false⟩]))
def s_ref04_Check_p13 : SCode := (.seq (.kp [1, 4] (.seq (.kp [1, 4, 59] s_ref04_Check_p5) (.cond (.t 59) .skip (.exit 2)))) s_ref04_Check_p12)
def s_ref04_Check_p14 : SCode := (.seq (.kp [] (.seq (.kp [1, 4] (.region false [⟨some 4, .mv (.v (.int .i64 0)), none, false⟩])) (.block 2 (.loop (some [1, 4]) s_ref04_Check_p13)))) (.seq (.region false [⟨some 2, .mv (.v (.int .i64 0)), none, false⟩]) .ret))
def s_ref04_Check_p15 : SCode := (.seq (.kp [1] (.seq (.kp [1, 40] s_ref04_Check_p0) (.cond (.t 40) (.seq (.region false [⟨some 2, .mv (.v (.int .i64 1)), none, false⟩]) .ret) .skip))) (.seq (.kp [1] (.seq (.kp [1, 3] (.region false [⟨some 3, .mv (.v (.int .i64 0)), none, false⟩])) (.block 0 (.loop (some [1, 3]) s_ref04_Check_p4)))) s_ref04_Check_p14))
def s_ref04_Check : SFn := ⟨1, [.t 2], (.seq (.region false [⟨some 1, .box true 4 (.t 0), none, false⟩,
  ⟨some 2, .mv (.v (.int .i64 0)), none, false⟩]) s_ref04_Check_p15)⟩
def s_ref04_New_p0 : SCode := (.seq (.region false [⟨some 5, .load (some 4) (.t 1), none, false⟩,
  ⟨some 6, .call f_ref04_Check [(.t 5)], none, false⟩,
  ⟨some 7, .bin .neq (.t 6) (.v (.int .i64 0)), none, false⟩]) (.cond (.t 7) (.seq (.region false [⟨some 2, .mv (.v .nilp), none, false⟩,
  ⟨some 3, .mv (.v (.int .i64 1)), none, false⟩]) .ret) .skip))
def s_ref04_New_p1 : SCode := (.region false [⟨some 8, .faddr 0 (.t 1), none, false⟩,
  ⟨some 9, .load none (.t 8), none, false⟩,
  ⟨some 10, .faddr 1 (.t 1), none, false⟩,
  ⟨some 11, .load none (.t 10), none, false⟩,
  ⟨some 12, .build [(.int .i64 0), (.int .i64 0), .nils, .nils, .nils] [(0, 1, (.t 9)), (1, 1, (.t 11))], none, false⟩,
  ⟨some 13, .box false 5 (.t 12), none, false⟩,
  ⟨some 4, .mv (.t 13), none, false⟩])
def s_ref04_New_p2 : SCode := (.region true [⟨some 14, .mv (.t 4), none, true⟩,
  ⟨some 15, .mv (.t 4), none, true⟩,
  ⟨some 16, .nilck (.t 15), none, true⟩,
  ⟨some 17, .faddr 2 (.t 16), none, true⟩,
  ⟨some 18, .load none (.t 17), none, true⟩,
  ⟨some 19, .faddr 2 (.t 1), none, true⟩,
  ⟨some 20, .load none (.t 19), none, true⟩,
  ⟨some 21, .append 1 1 [(.int .u8 0)] [] (.t 18) (.t 20), none, false⟩,
  ⟨some 22, .nilck (.t 14), none, false⟩,
  ⟨some 23, .faddr 2 (.t 22), none, false⟩,
  ⟨none, .store 1 [] (.t 23) (.t 21), none, false⟩])
def s_ref04_New_p3 : SCode := (.region true [⟨some 24, .mv (.t 4), none, true⟩,
  ⟨some 25, .mv (.t 4), none, true⟩,
  ⟨some 26, .nilck (.t 25), none, true⟩,
  ⟨some 27, .faddr 3 (.t 26), none, true⟩,
  ⟨some 28, .load none (.t 27), none, true⟩,
  ⟨some 29, .faddr 3 (.t 1), none, true⟩,
  ⟨some 30, .load none (.t 29), none, true⟩,
  ⟨some 31, .append 5 40 [(.int .i64 0), (.int .i64 0), (.int .i64 0), (.int .i64 0), (.int .i64 0)] [] (.t 28) (.t 30), none, false⟩,
  ⟨some 32, .nilck (.t 24), none, false⟩,
  ⟨some 33, .faddr 3 (.t 32), none, false⟩,
  ⟨none, .store 1 [] (.t 33) (.t 31), none, false⟩])
def s_ref04_New_p4 : SCode := (.seq (.kp [1, 4] s_ref04_New_p2) (.seq (.kp [4] s_ref04_New_p3) (.seq (.region false [⟨some 34, .mv (.t 4), none, false⟩,
  ⟨some 2, .mv (.t 34), none, false⟩,
  ⟨some 3, .mv (.v (.int .i64 0)), none, false⟩]) .ret)))
def s_ref04_New_p5 : SCode := (.seq (.region false [⟨some 1, .box true 4 (.t 0), none, false⟩,
  ⟨some 2, .mv (.v .nilp), none, false⟩,
  ⟨some 3, .mv (.v (.int .i64 0)), none, false⟩]) (.seq (.kp [1] s_ref04_New_p0) (.seq (.kp [1, 4] s_ref04_New_p1) s_ref04_New_p4)))
def s_ref04_New : SFn := ⟨1, [.t 2, .t 3], s_ref04_New_p5⟩
def s_law06_Both_p0 : SCode := (.region false [⟨some 1, .box true 4 (.t 0), none, false⟩,
  ⟨some 2, .mv (.v .nilp), none, false⟩,
  ⟨some 3, .mv (.v .nilp), none, false⟩,
  ⟨some 4, .mv (.v (.bool false)), none, false⟩])
def s_law06_Both_p1 : SCode := (.region false [⟨some 10, .load (some 4) (.t 1), none, false⟩,
  ⟨some 11, .call f_grid_New [(.t 10)], none, false⟩,
  ⟨some 9, .mv (.t 11), none, false⟩,
  ⟨some 12, .ext (.t 9) 0, none, false⟩,
  ⟨some 13, .ext (.t 9) 1, none, false⟩,
  ⟨some 5, .mv (.t 12), none, false⟩,
  ⟨some 6, .mv (.t 13), none, false⟩])
def s_law06_Both_p2 : SCode := (.region false [⟨some 15, .load (some 4) (.t 1), none, false⟩,
  ⟨some 16, .call f_ref04_New [(.t 15)], none, false⟩,
  ⟨some 14, .mv (.t 16), none, false⟩,
  ⟨some 17, .ext (.t 14) 0, none, false⟩,
  ⟨some 18, .ext (.t 14) 1, none, false⟩,
  ⟨some 7, .mv (.t 17), none, false⟩,
  ⟨some 8, .mv (.t 18), none, false⟩])
def s_law06_Both_p3 : SCode := (.region false [⟨some 19, .mv (.t 5), none, false⟩,
  ⟨some 20, .mv (.t 7), none, false⟩,
  ⟨some 21, .mv (.t 6), none, false⟩,
  ⟨some 22, .bin .eql (.t 21) (.v (.int .i64 0)), none, false⟩,
  ⟨some 23, .mv (.t 22), none, false⟩,
  ⟨some 24, .mv (.t 8), (some (23, true)), false⟩,
  ⟨some 25, .bin .eql (.t 24) (.v (.int .i64 0)), (some (23, true)), false⟩,
  ⟨some 26, .pick (.t 23) (.t 25) (.v (.bool false)), none, false⟩,
  ⟨some 2, .mv (.t 19), none, false⟩,
  ⟨some 3, .mv (.t 20), none, false⟩,
  ⟨some 4, .mv (.t 26), none, false⟩])
def s_law06_Both : SFn := ⟨1, [.t 2, .t 3, .t 4], (.seq s_law06_Both_p0 (.seq (.kp [1, 5, 6] s_law06_Both_p1) (.seq (.kp [5, 6, 7, 8] s_law06_Both_p2) (.seq (.kp [2, 3, 4] s_law06_Both_p3) .ret))))⟩
def s_class_May_p0 : SCode := (.region false [⟨some 3, .faddr 0 (.t 1), none, false⟩,
  ⟨some 4, .load none (.t 3), none, false⟩,
  ⟨some 5, .bin .geq (.t 4) (.v (.int .i64 0)), none, false⟩,
  ⟨some 6, .mv (.t 5), none, false⟩,
  ⟨some 7, .faddr 0 (.t 1), (some (6, true)), false⟩,
  ⟨some 8, .load none (.t 7), (some (6, true)), false⟩,
  ⟨some 9, .bin .lss (.t 8) (.v (.int .i64 4)), (some (6, true)), false⟩,
  ⟨some 10, .pick (.t 6) (.t 9) (.v (.bool false)), none, false⟩,
  ⟨some 11, .mv (.t 10), none, false⟩,
  ⟨some 12, .faddr 1 (.t 1), (some (11, true)), false⟩,
  ⟨some 13, .load none (.t 12), (some (11, true)), false⟩,
  ⟨some 14, .bin .geq (.t 13) (.v (.int .i64 1)), (some (11, true)), false⟩,
  ⟨some 15, .pick (.t 11) (.t 14) (.v (.bool false)), none, false⟩,
  ⟨some 16, .mv (.t 15), none, false⟩,
  ⟨some 17, .faddr 1 (.t 1), (some (16, true)), false⟩,
  ⟨some 18, .load none (.t 17), (some (16, true)), false⟩,
  ⟨some 19, .bin .leq (.t 18) (.v (.int .i64 4)), (some (16, true)), false⟩,
  ⟨some 20, .pick (.t 16) (.t 19) (.v (.bool false)), none, false⟩,
  ⟨some 2, .mv (.t 20), none, false⟩])
def s_class_May : SFn := ⟨1, [.t 2], (.seq (.region false [⟨some 1, .box true 2 (.t 0), none, false⟩,
  ⟨some 2, .mv (.v (.bool false)), none, false⟩]) (.seq (.kp [2] s_class_May_p0) .ret))⟩
def s_clear_Field_At_p0 : SCode := (.region true [⟨some 5, .mv (.t 0), none, false⟩,
  ⟨some 6, .eq false false [.ptr] (.t 5) (.v .nilp), none, false⟩,
  ⟨some 7, .mv (.t 6), none, false⟩,
  ⟨some 8, .mv (.t 0), (some (7, false)), true⟩,
  ⟨some 9, .nilck (.t 8), (some (7, false)), true⟩,
  ⟨some 10, .faddr 2 (.t 9), (some (7, false)), true⟩,
  ⟨some 11, .load (some 4) (.t 10), (some (7, false)), true⟩,
  ⟨some 12, .load (some 2) (.t 3), (some (7, false)), true⟩,
  ⟨some 13, .call f_cell_Has [(.t 11), (.t 12)], (some (7, false)), false⟩,
  ⟨some 14, .un .not (.t 13), (some (7, false)), false⟩,
  ⟨some 15, .pick (.t 7) (.v (.bool true)) (.t 14), none, false⟩])
def s_clear_Field_At_p1 : SCode := (.region true [⟨some 16, .mv (.t 0), none, true⟩,
  ⟨some 17, .nilck (.t 16), none, true⟩,
  ⟨some 18, .faddr 6 (.t 17), none, true⟩,
  ⟨some 19, .load none (.t 18), none, true⟩,
  ⟨some 20, .faddr 1 (.t 3), none, true⟩,
  ⟨some 21, .load none (.t 20), none, true⟩,
  ⟨some 22, .mv (.t 0), none, true⟩,
  ⟨some 23, .nilck (.t 22), none, true⟩,
  ⟨some 24, .faddr 2 (.t 23), none, true⟩,
  ⟨some 25, .faddr 2 (.t 24), none, true⟩,
  ⟨some 26, .load none (.t 25), none, true⟩,
  ⟨some 27, .bin .mul (.t 21) (.t 26), none, true⟩,
  ⟨some 28, .faddr 0 (.t 3), none, true⟩,
  ⟨some 29, .load none (.t 28), none, true⟩,
  ⟨some 30, .bin .add (.t 27) (.t 29), none, true⟩,
  ⟨some 31, .iaddr 1 (.t 19) (.t 30), none, false⟩,
  ⟨some 32, .load none (.t 31), none, false⟩,
  ⟨some 4, .mv (.t 32), none, false⟩])
def s_clear_Field_At_p2 : SCode := (.seq (.region false [⟨some 3, .box true 2 (.t 1), none, false⟩,
  ⟨some 4, .mv (.v (.int .i64 0)), none, false⟩]) (.seq (.kp [0, 3] (.seq (.kp [0, 3, 15] s_clear_Field_At_p0) (.cond (.t 15) (.seq (.region false [⟨some 4, .mv (.v (.int .i64 0)), none, false⟩]) .ret) .skip))) (.seq (.kp [4] s_clear_Field_At_p1) .ret)))
def s_clear_Field_At : SFn := ⟨2, [.t 4], s_clear_Field_At_p2⟩
def s_class_Foot_p0 : SCode := (.region false [⟨some 2, .box true 2 (.t 0), none, false⟩,
  ⟨some 3, .box true 2 (.t 1), none, false⟩,
  ⟨some 4, .alloc true [(.int .i64 0), (.int .i64 0), (.int .i64 0), (.int .i64 0)], none, false⟩])
def s_class_Foot_p1 : SCode := (.region false [⟨some 6, .load (some 2) (.t 3), none, false⟩,
  ⟨some 7, .faddr 1 (.t 2), none, false⟩,
  ⟨some 8, .load none (.t 7), none, false⟩,
  ⟨some 9, .faddr 1 (.t 2), none, false⟩,
  ⟨some 10, .load none (.t 9), none, false⟩,
  ⟨some 11, .build [(.int .i64 0), (.int .i64 0), (.int .i64 0), (.int .i64 0)] [(0, 2, (.t 6)), (2, 1, (.t 8)), (3, 1, (.t 10))], none, false⟩,
  ⟨some 5, .alloc true [(.int .i64 0), (.int .i64 0), (.int .i64 0), (.int .i64 0)], none, false⟩,
  ⟨none, .store 4 [] (.t 5) (.t 11), none, false⟩])
def s_class_Foot_p2 : SCode := (.region false [⟨some 12, .load (some 2) (.t 2), none, false⟩,
  ⟨some 13, .call f_class_May [(.t 12)], none, false⟩,
  ⟨some 14, .un .not (.t 13), none, false⟩,
  ⟨some 15, .mv (.t 14), none, false⟩,
  ⟨some 16, .load (some 4) (.t 5), (some (15, false)), false⟩,
  ⟨some 17, .call f_cell_May [(.t 16)], (some (15, false)), false⟩,
  ⟨some 18, .un .not (.t 17), (some (15, false)), false⟩,
  ⟨some 19, .pick (.t 15) (.v (.bool true)) (.t 18), none, false⟩])
def s_class_Foot_p3 : SCode := (.cond (.t 19) (.seq (.region false [⟨some 20, .build [(.int .i64 0), (.int .i64 0), (.int .i64 0), (.int .i64 0)] [], none, false⟩,
  ⟨none, .store 4 [] (.t 4) (.t 20), none, false⟩]) .ret) .skip)
def s_class_Foot_p4 : SCode := (.seq (.kp [4, 5] (.seq (.kp [4, 5, 19] s_class_Foot_p2) s_class_Foot_p3)) (.seq (.region false [⟨some 21, .load (some 4) (.t 5), none, false⟩,
  ⟨none, .store 4 [] (.t 4) (.t 21), none, false⟩]) .ret))
def s_class_Foot : SFn := ⟨2, [.cell 4 (some 4)], (.seq s_class_Foot_p0 (.seq (.kp [2, 4, 5] s_class_Foot_p1) s_class_Foot_p4))⟩
def s_class_On_p0 : SCode := (.region false [⟨some 6, .build [(.int .i64 0), (.int .i64 0), (.int .i64 0), (.int .i64 0)] [(0, 1, (.v (.int .i64 3))), (1, 1, (.v (.int .i64 1))), (2, 1, (.v (.int .i64 4))), (3, 1, (.v (.int .i64 5)))], none, false⟩,
  ⟨some 5, .alloc true [(.int .i64 0), (.int .i64 0), (.int .i64 0), (.int .i64 0)], none, false⟩,
  ⟨none, .store 4 [] (.t 5) (.t 6), none, false⟩])
def s_class_On_p1 : SCode := (.region false [⟨some 7, .mv (.t 0), none, false⟩,
  ⟨some 8, .bin .geq (.t 7) (.v (.int .i64 0)), none, false⟩,
  ⟨some 9, .mv (.t 8), none, false⟩,
  ⟨some 10, .mv (.t 0), (some (9, true)), false⟩,
  ⟨some 11, .bin .lss (.t 10) (.v (.int .i64 4)), (some (9, true)), false⟩,
  ⟨some 12, .pick (.t 9) (.t 11) (.v (.bool false)), none, false⟩,
  ⟨some 13, .mv (.t 12), none, false⟩,
  ⟨some 14, .mv (.t 1), (some (13, true)), false⟩,
  ⟨some 15, .bin .geq (.t 14) (.v (.int .i64 0)), (some (13, true)), false⟩,
  ⟨some 16, .pick (.t 13) (.t 15) (.v (.bool false)), none, false⟩,
  ⟨some 17, .mv (.t 16), none, false⟩,
  ⟨some 18, .mv (.t 1), (some (17, true)), false⟩,
  ⟨some 19, .bin .lss (.t 18) (.v (.int .i64 4)), (some (17, true)), false⟩,
  ⟨some 20, .pick (.t 17) (.t 19) (.v (.bool false)), none, false⟩,
  ⟨some 21, .mv (.t 20), none, false⟩,
  ⟨some 22, .mv (.t 0), (some (21, true)), false⟩,
  ⟨some 23, .iaddrA 4 1 (.t 5) (.t 22), (some (21, true)), false⟩,
  ⟨some 24, .load none (.t 23), (some (21, true)), false⟩,
  ⟨some 25, .mv (.t 1), (some (21, true)), false⟩,
  ⟨some 26, .bin .shr (.t 24) (.t 25), (some (21, true)), false⟩,
  ⟨some 27, .bin .and (.t 26) (.v (.int .i64 1)), (some (21, true)), false⟩,
  ⟨some 28, .bin .eql (.t 27) (.v (.int .i64 1)), (some (21, true)), false⟩,
  ⟨some 29, .pick (.t 21) (.t 28) (.v (.bool false)), none, false⟩,
  ⟨some 4, .mv (.t 29), none, false⟩])
def s_class_On : SFn := ⟨2, [.t 4], (.seq (.region false [⟨some 4, .mv (.v (.bool false)), none, false⟩]) (.seq s_class_On_p0 (.seq (.kp [4] s_class_On_p1) .ret)))⟩
def s_grid_World_At_p0 : SCode := (.seq (.region false [⟨some 8, .mv (.t 0), none, false⟩,
  ⟨some 9, .call f_grid_World_is [(.t 8)], none, false⟩,
  ⟨some 10, .un .not (.t 9), none, false⟩]) (.cond (.t 10) (.seq (.region false [⟨some 4, .mv (.v (.int .i64 0)), none, false⟩,
  ⟨some 5, .mv (.v (.bool false)), none, false⟩]) .ret) .skip))
def s_grid_World_At_p1 : SCode := (.region true [⟨some 12, .mv (.t 0), none, true⟩,
  ⟨some 13, .nilck (.t 12), none, true⟩,
  ⟨some 14, .faddr 4 (.t 13), none, true⟩,
  ⟨some 15, .load none (.t 14), none, true⟩,
  ⟨some 16, .load (some 2) (.t 3), none, true⟩,
  ⟨some 17, .lookup true [.int, .int] (.int .i64 0) true (.t 15) (.t 16), none, false⟩,
  ⟨some 11, .mv (.t 17), none, false⟩,
  ⟨some 18, .ext (.t 11) 0, none, false⟩,
  ⟨some 19, .ext (.t 11) 1, none, false⟩,
  ⟨some 6, .mv (.t 18), none, false⟩,
  ⟨some 7, .mv (.t 19), none, false⟩])
def s_grid_World_At_p2 : SCode := (.seq (.kp [6, 7] s_grid_World_At_p1) (.seq (.region false [⟨some 20, .mv (.t 6), none, false⟩,
  ⟨some 21, .mv (.t 7), none, false⟩,
  ⟨some 4, .mv (.t 20), none, false⟩,
  ⟨some 5, .mv (.t 21), none, false⟩]) .ret))
def s_grid_World_At_p3 : SCode := (.seq (.region false [⟨some 3, .box true 2 (.t 1), none, false⟩,
  ⟨some 4, .mv (.v (.int .i64 0)), none, false⟩,
  ⟨some 5, .mv (.v (.bool false)), none, false⟩]) (.seq (.kp [0, 3] s_grid_World_At_p0) s_grid_World_At_p2))
def s_grid_World_At : SFn := ⟨2, [.t 4, .t 5], s_grid_World_At_p3⟩
def s_grid_World_Terrain_p0 : SCode := (.region true [⟨some 6, .mv (.t 0), none, true⟩,
  ⟨some 8, .load (some 2) (.t 3), none, true⟩,
  ⟨some 7, .call f_grid_World_All [(.t 6)], none, true⟩,
  ⟨some 9, .call f_cell_Has [(.t 7), (.t 8)], none, false⟩,
  ⟨some 10, .un .not (.t 9), none, false⟩])
def s_grid_World_Terrain_p1 : SCode := (.kp [0, 3] (.seq (.kp [0, 3, 10] s_grid_World_Terrain_p0) (.cond (.t 10) (.seq (.region false [⟨some 4, .mv (.v (.int .i64 0)), none, false⟩,
  ⟨some 5, .mv (.v (.bool false)), none, false⟩]) .ret) .skip)))
def s_grid_World_Terrain_p2 : SCode := (.region true [⟨some 11, .mv (.t 0), none, true⟩,
  ⟨some 12, .nilck (.t 11), none, true⟩,
  ⟨some 13, .faddr 2 (.t 12), none, true⟩,
  ⟨some 14, .load none (.t 13), none, true⟩,
  ⟨some 15, .faddr 1 (.t 3), none, true⟩,
  ⟨some 16, .load none (.t 15), none, true⟩,
  ⟨some 17, .mv (.t 0), none, true⟩,
  ⟨some 18, .nilck (.t 17), none, true⟩,
  ⟨some 19, .faddr 0 (.t 18), none, true⟩,
  ⟨some 20, .load none (.t 19), none, true⟩,
  ⟨some 21, .bin .mul (.t 16) (.t 20), none, true⟩,
  ⟨some 22, .faddr 0 (.t 3), none, true⟩,
  ⟨some 23, .load none (.t 22), none, true⟩,
  ⟨some 24, .bin .add (.t 21) (.t 23), none, true⟩,
  ⟨some 25, .iaddr 1 (.t 14) (.t 24), none, false⟩,
  ⟨some 26, .load none (.t 25), none, false⟩,
  ⟨some 27, .conv .i64 (.t 26), none, false⟩,
  ⟨some 4, .mv (.t 27), none, false⟩,
  ⟨some 5, .mv (.v (.bool true)), none, false⟩])
def s_grid_World_Terrain_p3 : SCode := (.seq (.region false [⟨some 3, .box true 2 (.t 1), none, false⟩,
  ⟨some 4, .mv (.v (.int .i64 0)), none, false⟩,
  ⟨some 5, .mv (.v (.bool false)), none, false⟩]) (.seq s_grid_World_Terrain_p1 (.seq (.kp [4, 5] s_grid_World_Terrain_p2) .ret)))
def s_grid_World_Terrain : SFn := ⟨2, [.t 4, .t 5], s_grid_World_Terrain_p3⟩
def s_class_Stands_p0 : SCode := (.region false [⟨some 3, .box true 1 (.t 0), none, false⟩,
  ⟨some 4, .box true 2 (.t 1), none, false⟩,
  ⟨some 5, .box true 2 (.t 2), none, false⟩,
  ⟨some 6, .alloc true [(.bool false)], none, false⟩])
def s_class_Stands_p1 : SCode := (.region false [⟨some 13, .load (some 2) (.t 4), none, false⟩,
  ⟨some 14, .load (some 2) (.t 5), none, false⟩,
  ⟨some 15, .call f_class_Foot [(.t 13), (.t 14)], none, false⟩,
  ⟨some 7, .alloc true [(.int .i64 0), (.int .i64 0), (.int .i64 0), (.int .i64 0)], none, false⟩,
  ⟨none, .store 4 [] (.t 7) (.t 15), none, false⟩])
def s_class_Stands_p2 : SCode := (.region true [⟨some 16, .load (some 4) (.t 7), none, true⟩,
  ⟨some 17, .load none (.t 3), none, true⟩,
  ⟨some 18, .call f_grid_World_All [(.t 17)], none, true⟩,
  ⟨some 19, .call f_cell_Within [(.t 16), (.t 18)], none, false⟩,
  ⟨some 20, .un .not (.t 19), none, false⟩])
def s_class_Stands_p3 : SCode := (.region false [⟨some 8, .alloc true [(.int .i64 0), (.int .i64 0)], none, false⟩,
  ⟨none, .store 2 [] (.t 8) (.t 23), none, false⟩])
def s_class_Stands_p4 : SCode := (.region false [⟨some 25, .load none (.t 3), none, false⟩,
  ⟨some 26, .load (some 2) (.t 8), none, false⟩,
  ⟨some 27, .call f_grid_World_Terrain [(.t 25), (.t 26)], none, false⟩,
  ⟨some 24, .mv (.t 27), none, false⟩,
  ⟨some 28, .ext (.t 24) 0, none, false⟩,
  ⟨some 29, .ext (.t 24) 1, none, false⟩,
  ⟨some 9, .mv (.t 28), none, false⟩,
  ⟨some 10, .mv (.t 29), none, false⟩])
def s_class_Stands_p5 : SCode := (.region false [⟨some 31, .load none (.t 3), none, false⟩,
  ⟨some 32, .load (some 2) (.t 8), none, false⟩,
  ⟨some 33, .call f_grid_World_At [(.t 31), (.t 32)], none, false⟩,
  ⟨some 30, .mv (.t 33), none, false⟩,
  ⟨some 34, .ext (.t 30) 0, none, false⟩,
  ⟨some 35, .ext (.t 30) 1, none, false⟩,
  ⟨some 11, .mv (.t 34), none, false⟩,
  ⟨some 12, .mv (.t 35), none, false⟩])
def s_class_Stands_p6 : SCode := (.region false [⟨some 36, .mv (.t 12), none, false⟩,
  ⟨some 37, .mv (.t 36), none, false⟩,
  ⟨some 38, .faddr 0 (.t 4), (some (37, false)), false⟩,
  ⟨some 39, .load none (.t 38), (some (37, false)), false⟩,
  ⟨some 40, .mv (.t 9), (some (37, false)), false⟩,
  ⟨some 41, .call f_class_On [(.t 39), (.t 40)], (some (37, false)), false⟩,
  ⟨some 42, .un .not (.t 41), (some (37, false)), false⟩,
  ⟨some 43, .pick (.t 37) (.v (.bool true)) (.t 42), none, false⟩])
def s_class_Stands_p7 : SCode := (.seq (.kp [3, 4, 6, 8, 9] s_class_Stands_p4) (.seq (.kp [4, 6, 9, 12] s_class_Stands_p5) (.seq (.kp [6, 43] s_class_Stands_p6) (.cond (.t 43) (.seq (.region false [⟨none, .store 1 [] (.t 6) (.v (.bool false)), none, false⟩]) .ret) .skip))))
def s_class_Stands_p8 : SCode := (.block 1 s_class_Stands_p7)
def s_class_Stands_p9 : SCode := (.seq (.kp [3, 4, 6, 22] (.region false [⟨some 21, .load (some 4) (.t 7), none, false⟩,
  ⟨some 22, .call f_cell_Cells [(.t 21)], none, false⟩])) (.block 0 (.rangef (.t 22) [23] s_class_Stands_p3 s_class_Stands_p8)))
def s_class_Stands_p10 : SCode := (.seq (.kp [3, 4, 6, 7] (.seq (.kp [3, 4, 6, 7, 20] s_class_Stands_p2) (.cond (.t 20) (.seq (.region false [⟨none, .store 1 [] (.t 6) (.v (.bool false)), none, false⟩]) .ret) .skip))) (.seq (.kp [6] s_class_Stands_p9) (.seq (.region false [⟨none, .store 1 [] (.t 6) (.v (.bool true)), none, false⟩]) .ret)))
def s_class_Stands : SFn := ⟨3, [.cell 6 none], (.seq s_class_Stands_p0 (.seq (.kp [3, 4, 6, 7] s_class_Stands_p1) s_class_Stands_p10))⟩
def s_clear_Field_tile_p0 : SCode := (.region true [⟨some 5, .mv (.t 0), none, true⟩,
  ⟨some 6, .nilck (.t 5), none, true⟩,
  ⟨some 7, .faddr 0 (.t 6), none, true⟩,
  ⟨some 8, .load none (.t 7), none, true⟩,
  ⟨some 9, .mv (.t 0), none, true⟩,
  ⟨some 10, .nilck (.t 9), none, true⟩,
  ⟨some 11, .faddr 1 (.t 10), none, true⟩,
  ⟨some 12, .load none (.t 11), none, true⟩,
  ⟨some 13, .build [(.int .i64 0), (.int .i64 0)] [(0, 1, (.t 12)), (1, 1, (.v (.int .i64 1)))], none, true⟩,
  ⟨some 14, .load (some 2) (.t 3), none, true⟩,
  ⟨some 15, .call f_class_Stands [(.t 8), (.t 13), (.t 14)], none, false⟩,
  ⟨some 4, .mv (.t 15), none, false⟩])
def s_clear_Field_tile : SFn := ⟨2, [.t 4], (.seq (.region false [⟨some 3, .box true 2 (.t 1), none, false⟩,
  ⟨some 4, .mv (.v (.bool false)), none, false⟩]) (.seq (.kp [4] s_clear_Field_tile_p0) .ret))⟩
def s_clear_Field_reckon_p0 : SCode := (.region false [⟨some 11, .faddr 0 (.t 3), none, false⟩,
  ⟨some 12, .faddr 1 (.t 11), none, false⟩,
  ⟨some 13, .load none (.t 12), none, false⟩,
  ⟨some 14, .faddr 3 (.t 3), none, false⟩,
  ⟨some 15, .load none (.t 14), none, false⟩,
  ⟨some 16, .bin .add (.t 13) (.t 15), none, false⟩,
  ⟨some 17, .bin .sub (.t 16) (.v (.int .i64 1)), none, false⟩,
  ⟨some 6, .mv (.t 17), none, false⟩])
def s_clear_Field_reckon_p1 : SCode := (.region false [⟨some 18, .mv (.t 6), none, false⟩,
  ⟨some 19, .faddr 0 (.t 3), none, false⟩,
  ⟨some 20, .faddr 1 (.t 19), none, false⟩,
  ⟨some 21, .load none (.t 20), none, false⟩,
  ⟨some 22, .bin .geq (.t 18) (.t 21), none, false⟩])
def s_clear_Field_reckon_p2 : SCode := (.region false [⟨some 25, .faddr 0 (.t 3), none, false⟩,
  ⟨some 26, .faddr 0 (.t 25), none, false⟩,
  ⟨some 27, .load none (.t 26), none, false⟩,
  ⟨some 28, .faddr 2 (.t 3), none, false⟩,
  ⟨some 29, .load none (.t 28), none, false⟩,
  ⟨some 30, .bin .add (.t 27) (.t 29), none, false⟩,
  ⟨some 31, .bin .sub (.t 30) (.v (.int .i64 1)), none, false⟩,
  ⟨some 7, .mv (.t 31), none, false⟩])
def s_clear_Field_reckon_p3 : SCode := (.region false [⟨some 32, .mv (.t 7), none, false⟩,
  ⟨some 33, .faddr 0 (.t 3), none, false⟩,
  ⟨some 34, .faddr 0 (.t 33), none, false⟩,
  ⟨some 35, .load none (.t 34), none, false⟩,
  ⟨some 36, .bin .geq (.t 32) (.t 35), none, false⟩])
def s_clear_Field_reckon_p4 : SCode := (.region false [⟨some 39, .mv (.t 7), none, false⟩,
  ⟨some 40, .mv (.t 6), none, false⟩,
  ⟨some 41, .build [(.int .i64 0), (.int .i64 0)] [(0, 1, (.t 39)), (1, 1, (.t 40))], none, false⟩,
  ⟨some 8, .alloc true [(.int .i64 0), (.int .i64 0)], none, false⟩,
  ⟨none, .store 2 [] (.t 8) (.t 41), none, false⟩])
def s_clear_Field_reckon_p5 : SCode := (.region false [⟨some 45, .mv (.t 0), none, false⟩,
  ⟨some 46, .mv (.t 7), none, false⟩,
  ⟨some 47, .bin .add (.t 46) (.v (.int .i64 1)), none, false⟩,
  ⟨some 48, .mv (.t 6), none, false⟩,
  ⟨some 49, .build [(.int .i64 0), (.int .i64 0)] [(0, 1, (.t 47)), (1, 1, (.t 48))], none, false⟩,
  ⟨some 50, .call f_clear_Field_At [(.t 45), (.t 49)], none, false⟩,
  ⟨some 51, .mv (.t 0), none, false⟩,
  ⟨some 52, .mv (.t 7), none, false⟩,
  ⟨some 53, .mv (.t 6), none, false⟩,
  ⟨some 54, .bin .add (.t 53) (.v (.int .i64 1)), none, false⟩,
  ⟨some 55, .build [(.int .i64 0), (.int .i64 0)] [(0, 1, (.t 52)), (1, 1, (.t 54))], none, false⟩,
  ⟨some 56, .call f_clear_Field_At [(.t 51), (.t 55)], none, false⟩,
  ⟨some 57, .mv (.t 0), none, false⟩,
  ⟨some 58, .mv (.t 7), none, false⟩,
  ⟨some 59, .bin .add (.t 58) (.v (.int .i64 1)), none, false⟩,
  ⟨some 60, .mv (.t 6), none, false⟩,
  ⟨some 61, .bin .add (.t 60) (.v (.int .i64 1)), none, false⟩,
  ⟨some 62, .build [(.int .i64 0), (.int .i64 0)] [(0, 1, (.t 59)), (1, 1, (.t 61))], none, false⟩,
  ⟨some 63, .call f_clear_Field_At [(.t 57), (.t 62)], none, false⟩,
  ⟨some 64, .mxmn false [(.t 50), (.t 56), (.t 63), (.v (.int .i64 3))], none, false⟩,
  ⟨some 65, .bin .add (.v (.int .i64 1)) (.t 64), none, false⟩,
  ⟨some 9, .mv (.t 65), none, false⟩])
def s_clear_Field_reckon_p6 : SCode := (.seq (.region false [⟨some 42, .mv (.t 0), none, false⟩,
  ⟨some 43, .load (some 2) (.t 8), none, false⟩,
  ⟨some 44, .call f_clear_Field_tile [(.t 42), (.t 43)], none, false⟩]) (.cond (.t 44) s_clear_Field_reckon_p5 .skip))
def s_clear_Field_reckon_p7 : SCode := (.region false [⟨some 66, .mv (.t 6), none, false⟩,
  ⟨some 67, .mv (.t 0), none, false⟩,
  ⟨some 68, .nilck (.t 67), none, false⟩,
  ⟨some 69, .faddr 2 (.t 68), none, false⟩,
  ⟨some 70, .faddr 2 (.t 69), none, false⟩,
  ⟨some 71, .load none (.t 70), none, false⟩,
  ⟨some 72, .bin .mul (.t 66) (.t 71), none, false⟩,
  ⟨some 73, .mv (.t 7), none, false⟩,
  ⟨some 74, .bin .add (.t 72) (.t 73), none, false⟩,
  ⟨some 10, .mv (.t 74), none, false⟩])
def s_clear_Field_reckon_p8 : SCode := (.region false [⟨some 75, .mv (.t 0), none, false⟩,
  ⟨some 76, .nilck (.t 75), none, false⟩,
  ⟨some 77, .faddr 6 (.t 76), none, false⟩,
  ⟨some 78, .load none (.t 77), none, false⟩,
  ⟨some 79, .mv (.t 10), none, false⟩,
  ⟨some 80, .iaddr 1 (.t 78) (.t 79), none, false⟩,
  ⟨some 81, .load none (.t 80), none, false⟩,
  ⟨some 82, .mv (.t 9), none, false⟩,
  ⟨some 83, .bin .neq (.t 81) (.t 82), none, false⟩])
def s_clear_Field_reckon_p9 : SCode := (.region false [⟨some 84, .mv (.t 0), none, false⟩,
  ⟨some 85, .nilck (.t 84), none, false⟩,
  ⟨some 86, .faddr 6 (.t 85), none, false⟩,
  ⟨some 87, .load none (.t 86), none, false⟩,
  ⟨some 88, .mv (.t 10), none, false⟩,
  ⟨some 89, .mv (.t 9), none, false⟩,
  ⟨some 90, .iaddr 1 (.t 87) (.t 88), none, false⟩,
  ⟨none, .store 1 [] (.t 90) (.t 89), none, false⟩])
def s_clear_Field_reckon_p10 : SCode := (.seq (.kp [0, 3, 5, 6, 7] s_clear_Field_reckon_p9) (.region false [⟨some 91, .mv (.t 5), none, false⟩,
  ⟨some 92, .bin .add (.t 91) (.v (.int .i64 1)), none, false⟩,
  ⟨some 5, .mv (.t 92), none, false⟩]))
def s_clear_Field_reckon_p11 : SCode := (.seq (.region false [⟨some 9, .mv (.v (.int .i64 0)), none, false⟩]) (.seq (.kp [0, 3, 5, 6, 7, 9] s_clear_Field_reckon_p6) (.seq (.kp [0, 3, 5, 6, 7, 9, 10] s_clear_Field_reckon_p7) (.seq (.kp [0, 3, 5, 6, 7, 9, 10, 83] s_clear_Field_reckon_p8) (.cond (.t 83) s_clear_Field_reckon_p10 .skip)))))
def s_clear_Field_reckon_p12 : SCode := (.seq (.kp [0, 3, 5, 6, 7] (.block 3 (.seq (.kp [0, 3, 5, 6, 7, 8] s_clear_Field_reckon_p4) s_clear_Field_reckon_p11))) (.region false [⟨some 37, .mv (.t 7), none, false⟩,
  ⟨some 38, .bin .sub (.t 37) (.v (.int .i64 1)), none, false⟩,
  ⟨some 7, .mv (.t 38), none, false⟩]))
def s_clear_Field_reckon_p13 : SCode := (.seq (.kp [0, 3, 5, 6, 7] (.seq (.kp [0, 3, 5, 6, 7, 36] s_clear_Field_reckon_p3) (.cond (.t 36) .skip (.exit 2)))) s_clear_Field_reckon_p12)
def s_clear_Field_reckon_p14 : SCode := (.seq (.kp [0, 3, 5, 6] (.block 1 (.seq (.kp [0, 3, 5, 6, 7] s_clear_Field_reckon_p2) (.block 2 (.loop (some [0, 3, 5, 6, 7]) s_clear_Field_reckon_p13))))) (.region false [⟨some 23, .mv (.t 6), none, false⟩,
  ⟨some 24, .bin .sub (.t 23) (.v (.int .i64 1)), none, false⟩,
  ⟨some 6, .mv (.t 24), none, false⟩]))
def s_clear_Field_reckon_p15 : SCode := (.seq (.kp [0, 3, 5, 6] (.seq (.kp [0, 3, 5, 6, 22] s_clear_Field_reckon_p1) (.cond (.t 22) .skip (.exit 0)))) s_clear_Field_reckon_p14)
def s_clear_Field_reckon_p16 : SCode := (.seq (.kp [5] (.seq (.kp [0, 3, 5, 6] s_clear_Field_reckon_p0) (.block 0 (.loop (some [0, 3, 5, 6]) s_clear_Field_reckon_p15)))) (.seq (.region false [⟨some 93, .mv (.t 5), none, false⟩,
  ⟨some 4, .mv (.t 93), none, false⟩]) .ret))
def s_clear_Field_reckon_p17 : SCode := (.seq (.region false [⟨some 3, .box true 4 (.t 1), none, false⟩,
  ⟨some 4, .mv (.v (.int .i64 0)), none, false⟩]) (.seq (.region false [⟨some 5, .mv (.v (.int .i64 0)), none, false⟩]) s_clear_Field_reckon_p16))
def s_clear_Field_reckon : SFn := ⟨2, [.t 4], s_clear_Field_reckon_p17⟩
def s_grid_World_Epoch_p0 : SCode := (.seq (.region false [⟨some 3, .mv (.t 0), none, false⟩,
  ⟨some 4, .call f_grid_World_is [(.t 3)], none, false⟩,
  ⟨some 5, .un .not (.t 4), none, false⟩]) (.cond (.t 5) (.seq (.region false [⟨some 2, .mv (.v (.int .i64 0)), none, false⟩]) .ret) .skip))
def s_grid_World_Epoch_p1 : SCode := (.region false [⟨some 6, .mv (.t 0), none, false⟩,
  ⟨some 7, .nilck (.t 6), none, false⟩,
  ⟨some 8, .faddr 5 (.t 7), none, false⟩,
  ⟨some 9, .load none (.t 8), none, false⟩,
  ⟨some 10, .len (.t 9), none, false⟩,
  ⟨some 2, .mv (.t 10), none, false⟩])
def s_grid_World_Epoch : SFn := ⟨1, [.t 2], (.seq (.region false [⟨some 2, .mv (.v (.int .i64 0)), none, false⟩]) (.seq (.kp [0] s_grid_World_Epoch_p0) (.seq (.kp [2] s_grid_World_Epoch_p1) .ret)))⟩
def s_clear_New_p0 : SCode := (.region false [⟨some 8, .mv (.t 0), none, false⟩,
  ⟨some 9, .call f_grid_World_All [(.t 8)], none, false⟩,
  ⟨some 6, .alloc true [(.int .i64 0), (.int .i64 0), (.int .i64 0), (.int .i64 0)], none, false⟩,
  ⟨none, .store 4 [] (.t 6) (.t 9), none, false⟩])
def s_clear_New_p1 : SCode := (.region false [⟨some 10, .load (some 4) (.t 6), none, false⟩,
  ⟨some 11, .call f_cell_May [(.t 10)], none, false⟩,
  ⟨some 12, .un .not (.t 11), none, false⟩,
  ⟨some 13, .mv (.t 12), none, false⟩,
  ⟨some 14, .mv (.t 1), (some (13, false)), false⟩,
  ⟨some 15, .bin .lss (.t 14) (.v (.int .i64 0)), (some (13, false)), false⟩,
  ⟨some 16, .pick (.t 13) (.v (.bool true)) (.t 15), none, false⟩,
  ⟨some 17, .mv (.t 16), none, false⟩,
  ⟨some 18, .mv (.t 1), (some (17, false)), false⟩,
  ⟨some 19, .bin .geq (.t 18) (.v (.int .i64 4)), (some (17, false)), false⟩,
  ⟨some 20, .pick (.t 17) (.v (.bool true)) (.t 19), none, false⟩])
def s_clear_New_p2 : SCode := (.kp [0, 1, 6] (.seq (.kp [0, 1, 6, 20] s_clear_New_p1) (.cond (.t 20) (.seq (.region false [⟨some 4, .mv (.v .nilp), none, false⟩,
  ⟨some 5, .mv (.v (.int .i64 1)), none, false⟩]) .ret) .skip)))
def s_clear_New_p3 : SCode := (.region true [⟨some 21, .mv (.t 0), none, true⟩,
  ⟨some 22, .mv (.t 1), none, true⟩,
  ⟨some 23, .load (some 4) (.t 6), none, true⟩,
  ⟨some 24, .faddr 2 (.t 6), none, true⟩,
  ⟨some 25, .load none (.t 24), none, true⟩,
  ⟨some 26, .faddr 3 (.t 6), none, true⟩,
  ⟨some 27, .load none (.t 26), none, true⟩,
  ⟨some 28, .bin .mul (.t 25) (.t 27), none, true⟩,
  ⟨some 30, .mv (.t 0), none, true⟩,
  ⟨some 31, .call f_grid_World_Epoch [(.t 30)], none, true⟩,
  ⟨some 29, .mkslice [(.int .i64 0)] 8 (.t 28) (.t 28), none, true⟩,
  ⟨some 32, .build [.nilp, (.int .i64 0), (.int .i64 0), (.int .i64 0), (.int .i64 0), (.int .i64 0), .nils, (.int .i64 0)] [(0, 1, (.t 21)), (1, 1, (.t 22)), (2, 4, (.t 23)), (6, 1, (.t 29)), (7, 1, (.t 31))], none, false⟩,
  ⟨some 33, .box false 8 (.t 32), none, false⟩,
  ⟨some 7, .mv (.t 33), none, false⟩])
def s_clear_New_p4 : SCode := (.seq (.region false [⟨some 34, .mv (.t 7), none, false⟩,
  ⟨some 35, .load (some 4) (.t 6), none, false⟩,
  ⟨some 36, .call f_clear_Field_reckon [(.t 34), (.t 35)], none, false⟩]) (.seq (.region false [⟨some 37, .mv (.t 7), none, false⟩,
  ⟨some 4, .mv (.t 37), none, false⟩,
  ⟨some 5, .mv (.v (.int .i64 0)), none, false⟩]) .ret))
def s_clear_New : SFn := ⟨2, [.t 4, .t 5], (.seq (.region false [⟨some 4, .mv (.v .nilp), none, false⟩,
  ⟨some 5, .mv (.v (.int .i64 0)), none, false⟩]) (.seq s_clear_New_p0 (.seq s_clear_New_p2 (.seq (.kp [6, 7] s_clear_New_p3) s_clear_New_p4))))⟩
def s_parts_Parts_stands_p0 : SCode := (.region true [⟨some 5, .mv (.t 0), none, true⟩,
  ⟨some 6, .nilck (.t 5), none, true⟩,
  ⟨some 7, .faddr 7 (.t 6), none, true⟩,
  ⟨some 8, .load none (.t 7), none, true⟩,
  ⟨some 9, .load (some 2) (.t 3), none, true⟩,
  ⟨some 11, .mv (.t 0), none, true⟩,
  ⟨some 12, .nilck (.t 11), none, true⟩,
  ⟨some 13, .faddr 1 (.t 12), none, true⟩,
  ⟨some 14, .faddr 1 (.t 13), none, true⟩,
  ⟨some 15, .load none (.t 14), none, true⟩,
  ⟨some 10, .call f_clear_Field_At [(.t 8), (.t 9)], none, true⟩,
  ⟨some 16, .bin .geq (.t 10) (.t 15), none, false⟩,
  ⟨some 4, .mv (.t 16), none, false⟩])
def s_parts_Parts_stands : SFn := ⟨2, [.t 4], (.seq (.region false [⟨some 3, .box true 2 (.t 1), none, false⟩,
  ⟨some 4, .mv (.v (.bool false)), none, false⟩]) (.seq (.kp [4] s_parts_Parts_stands_p0) .ret))⟩
def s_parts_root_p0 : SCode := (.region false [⟨some 5, .mv (.t 0), none, false⟩,
  ⟨some 6, .mv (.t 1), none, false⟩,
  ⟨some 7, .iaddr 1 (.t 5) (.t 6), none, false⟩,
  ⟨some 8, .load none (.t 7), none, false⟩,
  ⟨some 9, .mv (.t 1), none, false⟩,
  ⟨some 10, .bin .neq (.t 8) (.t 9), none, false⟩])
def s_parts_root_p1 : SCode := (.region false [⟨some 11, .mv (.t 0), none, false⟩,
  ⟨some 12, .mv (.t 1), none, false⟩,
  ⟨some 13, .mv (.t 0), none, false⟩,
  ⟨some 14, .mv (.t 0), none, false⟩,
  ⟨some 15, .mv (.t 1), none, false⟩,
  ⟨some 16, .iaddr 1 (.t 14) (.t 15), none, false⟩,
  ⟨some 17, .load none (.t 16), none, false⟩,
  ⟨some 18, .iaddr 1 (.t 13) (.t 17), none, false⟩,
  ⟨some 19, .load none (.t 18), none, false⟩,
  ⟨some 20, .iaddr 1 (.t 11) (.t 12), none, false⟩,
  ⟨none, .store 1 [] (.t 20) (.t 19), none, false⟩])
def s_parts_root_p2 : SCode := (.region false [⟨some 21, .mv (.t 0), none, false⟩,
  ⟨some 22, .mv (.t 1), none, false⟩,
  ⟨some 23, .iaddr 1 (.t 21) (.t 22), none, false⟩,
  ⟨some 24, .load none (.t 23), none, false⟩,
  ⟨some 1, .mv (.t 24), none, false⟩])
def s_parts_root_p3 : SCode := (.seq (.kp [0, 1] (.seq (.kp [0, 1, 10] s_parts_root_p0) (.cond (.t 10) .skip (.exit 0)))) (.block 1 (.seq (.kp [0, 1] s_parts_root_p1) s_parts_root_p2)))
def s_parts_root_p4 : SCode := (.seq (.kp [0, 1] (.region false [⟨some 4, .mv (.v (.int .i64 0)), none, false⟩])) (.seq (.kp [1] (.block 0 (.loop (some [0, 1]) s_parts_root_p3))) (.seq (.region false [⟨some 25, .mv (.t 1), none, false⟩,
  ⟨some 4, .mv (.t 25), none, false⟩]) .ret)))
def s_parts_root : SFn := ⟨2, [.t 4], s_parts_root_p4⟩
def s_parts_Parts_label_p0 : SCode := (.region true [⟨some 11, .load none (.t 1), none, true⟩,
  ⟨some 12, .nilck (.t 11), none, true⟩,
  ⟨some 13, .faddr 3 (.t 12), none, true⟩,
  ⟨some 14, .faddr 2 (.t 13), none, true⟩,
  ⟨some 15, .load none (.t 14), none, true⟩,
  ⟨some 16, .load none (.t 1), none, true⟩,
  ⟨some 17, .nilck (.t 16), none, true⟩,
  ⟨some 18, .faddr 3 (.t 17), none, true⟩,
  ⟨some 19, .faddr 3 (.t 18), none, true⟩,
  ⟨some 20, .load none (.t 19), none, true⟩,
  ⟨some 21, .bin .mul (.t 15) (.t 20), none, false⟩,
  ⟨some 2, .mv (.t 21), none, false⟩])
def s_parts_Parts_label_p1 : SCode := (.region false [⟨some 22, .mv (.t 2), none, false⟩,
  ⟨some 23, .mkslice [(.int .i64 0)] 8 (.t 22) (.t 22), none, false⟩,
  ⟨some 3, .alloc true [.nils], none, false⟩,
  ⟨none, .store 1 [] (.t 3) (.t 23), none, false⟩])
def s_parts_Parts_label_p2 : SCode := (.region false [⟨some 29, .load none (.t 3), none, false⟩,
  ⟨some 30, .mv (.t 4), none, false⟩,
  ⟨some 31, .mv (.t 4), none, false⟩,
  ⟨some 32, .iaddr 1 (.t 29) (.t 30), none, false⟩,
  ⟨none, .store 1 [] (.t 32) (.t 31), none, false⟩])
def s_parts_Parts_label_p3 : SCode := (.seq (.kp [1, 2, 3, 25, 26] (.block 1 (.seq (.region false [⟨some 28, .mv (.t 26), none, false⟩,
  ⟨some 4, .mv (.t 28), none, false⟩]) s_parts_Parts_label_p2))) (.region false [⟨some 33, .bin .add (.t 26) (.v (.int .i64 1)), none, false⟩,
  ⟨some 26, .mv (.t 33), none, false⟩]))
def s_parts_Parts_label_p4 : SCode := (.seq (.region false [⟨some 27, .bin .lss (.t 26) (.t 25), none, false⟩]) (.seq (.kp [1, 2, 3, 25, 26] (.cond (.t 27) .skip (.exit 0))) s_parts_Parts_label_p3))
def s_parts_Parts_label_p5 : SCode := (.seq (.kp [1, 2, 3, 25, 26] (.region false [⟨some 24, .load none (.t 3), none, false⟩,
  ⟨some 25, .len (.t 24), none, false⟩,
  ⟨some 26, .mv (.v (.int .i64 0)), none, false⟩])) (.block 0 (.loop (some [1, 2, 3, 25, 26]) s_parts_Parts_label_p4)))
def s_parts_Parts_label_p6 : SCode := (.region false [⟨some 34, .load none (.t 1), none, false⟩,
  ⟨some 35, .nilck (.t 34), none, false⟩,
  ⟨some 36, .faddr 3 (.t 35), none, false⟩,
  ⟨some 37, .load (some 4) (.t 36), none, false⟩,
  ⟨some 38, .call f_cell_Cells [(.t 37)], none, false⟩])
def s_parts_Parts_label_p7 : SCode := (.region false [⟨some 5, .alloc true [(.int .i64 0), (.int .i64 0)], none, false⟩,
  ⟨none, .store 2 [] (.t 5) (.t 39), none, false⟩])
def s_parts_Parts_label_p8 : SCode := (.region false [⟨some 40, .load none (.t 1), none, false⟩,
  ⟨some 41, .load (some 2) (.t 5), none, false⟩,
  ⟨some 42, .call f_parts_Parts_stands [(.t 40), (.t 41)], none, false⟩,
  ⟨some 43, .un .not (.t 42), none, false⟩])
def s_parts_Parts_label_p9 : SCode := (.region true [⟨some 44, .faddr 1 (.t 5), none, true⟩,
  ⟨some 45, .load none (.t 44), none, true⟩,
  ⟨some 46, .load none (.t 1), none, true⟩,
  ⟨some 47, .nilck (.t 46), none, true⟩,
  ⟨some 48, .faddr 3 (.t 47), none, true⟩,
  ⟨some 49, .faddr 2 (.t 48), none, true⟩,
  ⟨some 50, .load none (.t 49), none, true⟩,
  ⟨some 51, .bin .mul (.t 45) (.t 50), none, true⟩,
  ⟨some 52, .faddr 0 (.t 5), none, true⟩,
  ⟨some 53, .load none (.t 52), none, true⟩,
  ⟨some 54, .bin .add (.t 51) (.t 53), none, false⟩,
  ⟨some 6, .mv (.t 54), none, false⟩])
def s_parts_Parts_label_p10 : SCode := (.region false [⟨some 55, .load none (.t 1), none, false⟩,
  ⟨some 56, .faddr 0 (.t 5), none, false⟩,
  ⟨some 57, .load none (.t 56), none, false⟩,
  ⟨some 58, .bin .sub (.t 57) (.v (.int .i64 1)), none, false⟩,
  ⟨some 59, .faddr 1 (.t 5), none, false⟩,
  ⟨some 60, .load none (.t 59), none, false⟩,
  ⟨some 61, .build [(.int .i64 0), (.int .i64 0)] [(0, 1, (.t 58)), (1, 1, (.t 60))], none, false⟩,
  ⟨some 62, .call f_parts_Parts_stands [(.t 55), (.t 61)], none, false⟩])
def s_parts_Parts_label_p11 : SCode := (.region true [⟨some 63, .load none (.t 3), none, true⟩,
  ⟨some 64, .load none (.t 3), none, true⟩,
  ⟨some 65, .mv (.t 6), none, true⟩,
  ⟨some 67, .load none (.t 3), none, true⟩,
  ⟨some 68, .mv (.t 6), none, true⟩,
  ⟨some 69, .bin .sub (.t 68) (.v (.int .i64 1)), none, true⟩,
  ⟨some 66, .callL [(.t 3), (.t 3)] f_parts_root [(.t 64), (.t 65)], none, false⟩,
  ⟨some 70, .callL [(.t 3)] f_parts_root [(.t 67), (.t 69)], none, false⟩,
  ⟨some 71, .iaddr 1 (.t 63) (.t 66), none, false⟩,
  ⟨none, .store 1 [] (.t 71) (.t 70), none, false⟩])
def s_parts_Parts_label_p12 : SCode := (.region false [⟨some 72, .load none (.t 1), none, false⟩,
  ⟨some 73, .faddr 0 (.t 5), none, false⟩,
  ⟨some 74, .load none (.t 73), none, false⟩,
  ⟨some 75, .faddr 1 (.t 5), none, false⟩,
  ⟨some 76, .load none (.t 75), none, false⟩,
  ⟨some 77, .bin .sub (.t 76) (.v (.int .i64 1)), none, false⟩,
  ⟨some 78, .build [(.int .i64 0), (.int .i64 0)] [(0, 1, (.t 74)), (1, 1, (.t 77))], none, false⟩,
  ⟨some 79, .call f_parts_Parts_stands [(.t 72), (.t 78)], none, false⟩])
def s_parts_Parts_label_p13 : SCode := (.region true [⟨some 80, .load none (.t 3), none, true⟩,
  ⟨some 81, .load none (.t 3), none, true⟩,
  ⟨some 82, .mv (.t 6), none, true⟩,
  ⟨some 84, .load none (.t 3), none, true⟩,
  ⟨some 85, .mv (.t 6), none, true⟩,
  ⟨some 86, .load none (.t 1), none, true⟩,
  ⟨some 87, .nilck (.t 86), none, true⟩,
  ⟨some 88, .faddr 3 (.t 87), none, true⟩,
  ⟨some 89, .faddr 2 (.t 88), none, true⟩,
  ⟨some 90, .load none (.t 89), none, true⟩,
  ⟨some 91, .bin .sub (.t 85) (.t 90), none, true⟩,
  ⟨some 83, .callL [(.t 3), (.t 3), (.t 1), (.t 89)] f_parts_root [(.t 81), (.t 82)], none, false⟩,
  ⟨some 92, .callL [(.t 3)] f_parts_root [(.t 84), (.t 91)], none, false⟩,
  ⟨some 93, .iaddr 1 (.t 80) (.t 83), none, false⟩,
  ⟨none, .store 1 [] (.t 93) (.t 92), none, false⟩])
def s_parts_Parts_label_p14 : SCode := (.seq (.kp [1, 2, 3, 5, 6] s_parts_Parts_label_p9) (.seq (.kp [1, 2, 3, 5, 6] (.seq (.kp [1, 2, 3, 5, 6, 62] s_parts_Parts_label_p10) (.cond (.t 62) s_parts_Parts_label_p11 .skip))) (.seq (.kp [1, 2, 3, 6, 79] s_parts_Parts_label_p12) (.cond (.t 79) s_parts_Parts_label_p13 .skip))))
def s_parts_Parts_label_p15 : SCode := (.block 3 (.seq (.kp [1, 2, 3, 5] (.seq s_parts_Parts_label_p8 (.cond (.t 43) (.exit 3) .skip))) s_parts_Parts_label_p14))
def s_parts_Parts_label_p16 : SCode := (.region true [⟨some 94, .load none (.t 1), none, true⟩,
  ⟨some 95, .load none (.t 1), none, true⟩,
  ⟨some 96, .load none (.t 1), none, true⟩,
  ⟨some 97, .mv (.t 2), none, true⟩,
  ⟨some 98, .mkslice [(.int .i64 0)] 8 (.t 97) (.t 97), none, true⟩,
  ⟨some 99, .nilck (.t 94), none, true⟩,
  ⟨some 100, .faddr 8 (.t 99), none, true⟩,
  ⟨none, .store 1 [(.t 1), (.t 1)] (.t 100) (.t 98), none, false⟩,
  ⟨some 101, .nilck (.t 95), none, true⟩,
  ⟨some 102, .faddr 9 (.t 101), none, true⟩,
  ⟨none, .store 1 [(.t 1)] (.t 102) (.v .nils), none, false⟩,
  ⟨some 103, .nilck (.t 96), none, false⟩,
  ⟨some 104, .faddr 10 (.t 103), none, false⟩,
  ⟨none, .store 1 [] (.t 104) (.v .nils), none, false⟩])
def s_parts_Parts_label_p17 : SCode := (.region false [⟨some 106, .load none (.t 1), none, false⟩,
  ⟨some 107, .nilck (.t 106), none, false⟩,
  ⟨some 108, .faddr 3 (.t 107), none, false⟩,
  ⟨some 109, .load (some 4) (.t 108), none, false⟩,
  ⟨some 110, .call f_cell_Cells [(.t 109)], none, false⟩])
def s_parts_Parts_label_p18 : SCode := (.region false [⟨some 8, .alloc true [(.int .i64 0), (.int .i64 0)], none, false⟩,
  ⟨none, .store 2 [] (.t 8) (.t 111), none, false⟩])
def s_parts_Parts_label_p19 : SCode := (.region true [⟨some 112, .faddr 1 (.t 8), none, true⟩,
  ⟨some 113, .load none (.t 112), none, true⟩,
  ⟨some 114, .load none (.t 1), none, true⟩,
  ⟨some 115, .nilck (.t 114), none, true⟩,
  ⟨some 116, .faddr 3 (.t 115), none, true⟩,
  ⟨some 117, .faddr 2 (.t 116), none, true⟩,
  ⟨some 118, .load none (.t 117), none, true⟩,
  ⟨some 119, .bin .mul (.t 113) (.t 118), none, true⟩,
  ⟨some 120, .faddr 0 (.t 8), none, true⟩,
  ⟨some 121, .load none (.t 120), none, true⟩,
  ⟨some 122, .bin .add (.t 119) (.t 121), none, false⟩,
  ⟨some 9, .mv (.t 122), none, false⟩])
def s_parts_Parts_label_p20 : SCode := (.region false [⟨some 123, .load none (.t 1), none, false⟩,
  ⟨some 124, .load (some 2) (.t 8), none, false⟩,
  ⟨some 125, .call f_parts_Parts_stands [(.t 123), (.t 124)], none, false⟩,
  ⟨some 126, .un .not (.t 125), none, false⟩])
def s_parts_Parts_label_p21 : SCode := (.region false [⟨some 127, .load none (.t 3), none, false⟩,
  ⟨some 128, .mv (.t 9), none, false⟩,
  ⟨some 129, .call f_parts_root [(.t 127), (.t 128)], none, false⟩,
  ⟨some 10, .mv (.t 129), none, false⟩])
def s_parts_Parts_label_p22 : SCode := (.region false [⟨some 130, .load none (.t 7), none, false⟩,
  ⟨some 131, .mv (.t 10), none, false⟩,
  ⟨some 132, .lookup false [.int] (.int .i64 0) false (.t 130) (.t 131), none, false⟩,
  ⟨some 133, .bin .eql (.t 132) (.v (.int .i64 0)), none, false⟩])
def s_parts_Parts_label_p23 : SCode := (.region true [⟨some 134, .load none (.t 1), none, true⟩,
  ⟨some 135, .load none (.t 1), none, true⟩,
  ⟨some 136, .load none (.t 1), none, true⟩,
  ⟨some 137, .nilck (.t 136), none, true⟩,
  ⟨some 138, .faddr 9 (.t 137), none, true⟩,
  ⟨some 139, .load none (.t 138), none, true⟩,
  ⟨some 140, .load (some 2) (.t 8), none, true⟩,
  ⟨some 143, .load none (.t 1), none, true⟩,
  ⟨some 144, .nilck (.t 143), none, true⟩,
  ⟨some 145, .faddr 10 (.t 144), none, true⟩,
  ⟨some 146, .load none (.t 145), none, true⟩,
  ⟨some 141, .bslice [(.int .i64 0), (.int .i64 0)] 1 2 [(0, 2, (.t 140))], none, true⟩,
  ⟨some 142, .append 2 16 [(.int .i64 0), (.int .i64 0)] [(.t 1), (.t 1), (.t 1), (.t 145)] (.t 139) (.t 141), none, false⟩,
  ⟨some 147, .bslice [(.int .i64 0)] 1 1 [(0, 1, (.v (.int .i64 0)))], none, true⟩,
  ⟨some 148, .append 1 8 [(.int .i64 0)] [(.t 1), (.t 1)] (.t 146) (.t 147), none, false⟩,
  ⟨some 149, .nilck (.t 134), none, true⟩,
  ⟨some 150, .faddr 9 (.t 149), none, true⟩,
  ⟨none, .store 1 [(.t 1)] (.t 150) (.t 142), none, false⟩,
  ⟨some 151, .nilck (.t 135), none, false⟩,
  ⟨some 152, .faddr 10 (.t 151), none, false⟩,
  ⟨none, .store 1 [] (.t 152) (.t 148), none, false⟩])
def s_parts_Parts_label_p24 : SCode := (.region true [⟨some 153, .load none (.t 7), none, true⟩,
  ⟨some 154, .mv (.t 10), none, true⟩,
  ⟨some 155, .load none (.t 1), none, true⟩,
  ⟨some 156, .nilck (.t 155), none, true⟩,
  ⟨some 157, .faddr 9 (.t 156), none, true⟩,
  ⟨some 158, .load none (.t 157), none, true⟩,
  ⟨some 159, .len (.t 158), none, true⟩,
  ⟨none, .mapset false [.int] (.t 153) (.t 154) (.t 159), none, false⟩])
def s_parts_Parts_label_p25 : SCode := (.region true [⟨some 160, .load none (.t 1), none, true⟩,
  ⟨some 161, .nilck (.t 160), none, true⟩,
  ⟨some 162, .faddr 8 (.t 161), none, true⟩,
  ⟨some 163, .load none (.t 162), none, true⟩,
  ⟨some 164, .mv (.t 9), none, true⟩,
  ⟨some 165, .load none (.t 7), none, true⟩,
  ⟨some 166, .mv (.t 10), none, true⟩,
  ⟨some 167, .lookup false [.int] (.int .i64 0) false (.t 165) (.t 166), none, true⟩,
  ⟨some 168, .iaddr 1 (.t 163) (.t 164), none, false⟩,
  ⟨none, .store 1 [] (.t 168) (.t 167), none, false⟩])
def s_parts_Parts_label_p26 : SCode := (.region true [⟨some 169, .load none (.t 1), none, true⟩,
  ⟨some 170, .nilck (.t 169), none, true⟩,
  ⟨some 171, .faddr 10 (.t 170), none, true⟩,
  ⟨some 172, .load none (.t 171), none, true⟩,
  ⟨some 173, .load none (.t 7), none, true⟩,
  ⟨some 174, .mv (.t 10), none, true⟩,
  ⟨some 175, .lookup false [.int] (.int .i64 0) false (.t 173) (.t 174), none, true⟩,
  ⟨some 176, .bin .sub (.t 175) (.v (.int .i64 1)), none, true⟩,
  ⟨some 177, .iaddr 1 (.t 172) (.t 176), none, false⟩,
  ⟨some 178, .load none (.t 177), none, false⟩,
  ⟨some 179, .bin .add (.t 178) (.v (.int .i64 1)), none, false⟩,
  ⟨some 180, .iaddr 1 (.t 172) (.t 176), none, false⟩,
  ⟨none, .store 1 [] (.t 180) (.t 179), none, false⟩])
def s_parts_Parts_label_p27 : SCode := (.seq (.kp [1, 3, 7, 8, 9] (.seq s_parts_Parts_label_p20 (.cond (.t 126) (.exit 5) .skip))) (.seq s_parts_Parts_label_p21 (.seq (.kp [1, 7, 9, 10] (.seq s_parts_Parts_label_p22 (.cond (.t 133) (.seq (.kp [1, 7, 9, 10] s_parts_Parts_label_p23) s_parts_Parts_label_p24) .skip))) (.seq (.kp [1, 7, 10] s_parts_Parts_label_p25) s_parts_Parts_label_p26))))
def s_parts_Parts_label_p28 : SCode := (.block 5 (.seq (.kp [1, 3, 7, 8, 9] s_parts_Parts_label_p19) s_parts_Parts_label_p27))
def s_parts_Parts_label_p29 : SCode := (.region true [⟨some 181, .load none (.t 1), none, true⟩,
  ⟨some 182, .load none (.t 1), none, true⟩,
  ⟨some 183, .nilck (.t 182), none, true⟩,
  ⟨some 184, .faddr 0 (.t 183), none, true⟩,
  ⟨some 185, .load none (.t 184), none, true⟩,
  ⟨some 186, .callL [(.t 1)] f_grid_World_Epoch [(.t 185)], none, false⟩,
  ⟨some 187, .nilck (.t 181), none, false⟩,
  ⟨some 188, .faddr 11 (.t 187), none, false⟩,
  ⟨none, .store 1 [] (.t 188) (.t 186), none, false⟩])
def s_parts_Parts_label_p30 : SCode := (.seq (.region false [⟨some 105, .mkmap, none, false⟩,
  ⟨some 7, .alloc true [.nilm], none, false⟩,
  ⟨none, .store 1 [] (.t 7) (.t 105), none, false⟩]) (.seq (.kp [1] (.seq (.kp [1, 3, 7, 110] s_parts_Parts_label_p17) (.block 4 (.rangef (.t 110) [111] s_parts_Parts_label_p18 s_parts_Parts_label_p28)))) s_parts_Parts_label_p29))
def s_parts_Parts_label_p31 : SCode := (.seq s_parts_Parts_label_p1 (.seq (.kp [1, 2, 3] s_parts_Parts_label_p5) (.seq (.kp [1, 2, 3] (.seq (.kp [1, 2, 3, 38] s_parts_Parts_label_p6) (.block 2 (.rangef (.t 38) [39] s_parts_Parts_label_p7 s_parts_Parts_label_p15)))) (.seq (.kp [1, 3] s_parts_Parts_label_p16) s_parts_Parts_label_p30))))
def s_parts_Parts_label : SFn := ⟨1, [], (.seq (.region false [⟨some 1, .box true 1 (.t 0), none, false⟩]) (.seq (.kp [1, 2] s_parts_Parts_label_p0) s_parts_Parts_label_p31))⟩
def s_parts_New_p0 : SCode := (.region false [⟨some 10, .mv (.t 0), none, false⟩,
  ⟨some 11, .faddr 0 (.t 3), none, false⟩,
  ⟨some 12, .load none (.t 11), none, false⟩,
  ⟨some 13, .call f_clear_New [(.t 10), (.t 12)], none, false⟩,
  ⟨some 9, .mv (.t 13), none, false⟩,
  ⟨some 14, .ext (.t 9) 0, none, false⟩,
  ⟨some 15, .ext (.t 9) 1, none, false⟩,
  ⟨some 6, .mv (.t 14), none, false⟩,
  ⟨some 7, .mv (.t 15), none, false⟩])
def s_parts_New_p1 : SCode := (.region false [⟨some 16, .mv (.t 7), none, false⟩,
  ⟨some 17, .bin .neq (.t 16) (.v (.int .i64 0)), none, false⟩,
  ⟨some 18, .mv (.t 17), none, false⟩,
  ⟨some 19, .load (some 2) (.t 3), (some (18, false)), false⟩,
  ⟨some 20, .call f_class_May [(.t 19)], (some (18, false)), false⟩,
  ⟨some 21, .un .not (.t 20), (some (18, false)), false⟩,
  ⟨some 22, .pick (.t 18) (.v (.bool true)) (.t 21), none, false⟩])
def s_parts_New_p2 : SCode := (.kp [0, 3, 6] (.seq (.kp [0, 3, 6, 22] s_parts_New_p1) (.cond (.t 22) (.seq (.region false [⟨some 4, .mv (.v .nilp), none, false⟩,
  ⟨some 5, .mv (.v (.int .i64 1)), none, false⟩]) .ret) .skip)))
def s_parts_New_p3 : SCode := (.region true [⟨some 23, .mv (.t 0), none, true⟩,
  ⟨some 24, .load (some 2) (.t 3), none, true⟩,
  ⟨some 25, .mv (.t 0), none, true⟩,
  ⟨some 27, .mv (.t 6), none, true⟩,
  ⟨some 26, .call f_grid_World_All [(.t 25)], none, true⟩,
  ⟨some 28, .build [.nilp, (.int .i64 0), (.int .i64 0), (.int .i64 0), (.int .i64 0), (.int .i64 0), (.int .i64 0), .nilp, .nils, .nils, .nils, (.int .i64 0)] [(0, 1, (.t 23)), (1, 2, (.t 24)), (3, 4, (.t 26)), (7, 1, (.t 27))], none, false⟩,
  ⟨some 29, .box false 12 (.t 28), none, false⟩,
  ⟨some 8, .mv (.t 29), none, false⟩])
def s_parts_New_p4 : SCode := (.seq (.region false [⟨some 30, .mv (.t 8), none, false⟩,
  ⟨some 31, .call f_parts_Parts_label [(.t 30)], none, false⟩]) (.seq (.region false [⟨some 32, .mv (.t 8), none, false⟩,
  ⟨some 4, .mv (.t 32), none, false⟩,
  ⟨some 5, .mv (.v (.int .i64 0)), none, false⟩]) .ret))
def s_parts_New_p5 : SCode := (.seq (.region false [⟨some 3, .box true 2 (.t 1), none, false⟩,
  ⟨some 4, .mv (.v .nilp), none, false⟩,
  ⟨some 5, .mv (.v (.int .i64 0)), none, false⟩]) (.seq (.kp [0, 3, 6, 7] s_parts_New_p0) (.seq s_parts_New_p2 (.seq (.kp [8] s_parts_New_p3) s_parts_New_p4))))
def s_parts_New : SFn := ⟨2, [.t 4, .t 5], s_parts_New_p5⟩
def s_fixed_amount_p0 : SCode := (.seq (.region false [⟨some 5, .mv (.t 0), none, false⟩,
  ⟨some 6, .conv .u64 (.t 5), none, false⟩,
  ⟨some 7, .un .neg (.t 6), none, false⟩,
  ⟨some 2, .mv (.t 7), none, false⟩]) .ret)
def s_fixed_amount_p1 : SCode := (.seq (.kp [0] (.seq (.region false [⟨some 3, .mv (.t 0), none, false⟩,
  ⟨some 4, .bin .lss (.t 3) (.v (.int .i64 0)), none, false⟩]) (.cond (.t 4) s_fixed_amount_p0 .skip))) (.seq (.region false [⟨some 8, .mv (.t 0), none, false⟩,
  ⟨some 9, .conv .u64 (.t 8), none, false⟩,
  ⟨some 2, .mv (.t 9), none, false⟩]) .ret))
def s_fixed_amount : SFn := ⟨1, [.t 2], (.seq (.region false [⟨some 2, .mv (.v (.int .u64 0)), none, false⟩]) s_fixed_amount_p1)⟩
def s_fixed_signed_p0 : SCode := (.region false [⟨some 7, .mv (.t 1), none, false⟩,
  ⟨some 8, .mv (.t 7), none, false⟩,
  ⟨some 9, .mv (.t 0), (some (8, true)), false⟩,
  ⟨some 10, .bin .leq (.t 9) (.v (.int .u64 9223372036854775808)), (some (8, true)), false⟩,
  ⟨some 11, .pick (.t 8) (.t 10) (.v (.bool false)), none, false⟩,
  ⟨some 6, .mv (.t 11), none, false⟩])
def s_fixed_signed_p1 : SCode := (.region false [⟨some 12, .mv (.t 0), none, false⟩,
  ⟨some 13, .un .neg (.t 12), none, false⟩,
  ⟨some 14, .conv .i64 (.t 13), none, false⟩,
  ⟨some 4, .mv (.t 14), none, false⟩,
  ⟨some 5, .mv (.v (.bool true)), none, false⟩])
def s_fixed_signed_p2 : SCode := (.region false [⟨some 16, .mv (.t 1), none, false⟩,
  ⟨some 17, .un .not (.t 16), none, false⟩,
  ⟨some 18, .mv (.t 17), none, false⟩,
  ⟨some 19, .mv (.t 0), (some (18, true)), false⟩,
  ⟨some 20, .bin .lss (.t 19) (.v (.int .u64 9223372036854775808)), (some (18, true)), false⟩,
  ⟨some 21, .pick (.t 18) (.t 20) (.v (.bool false)), none, false⟩,
  ⟨some 15, .mv (.t 21), none, false⟩])
def s_fixed_signed_p3 : SCode := (.region false [⟨some 22, .mv (.t 0), none, false⟩,
  ⟨some 23, .conv .i64 (.t 22), none, false⟩,
  ⟨some 4, .mv (.t 23), none, false⟩,
  ⟨some 5, .mv (.v (.bool true)), none, false⟩])
def s_fixed_signed_p4 : SCode := (.seq (.kp [] (.block 0 (.seq (.kp [0, 1, 6] s_fixed_signed_p0) (.cond (.t 6) (.seq (.kp [4, 5] s_fixed_signed_p1) .ret) (.seq (.kp [0, 15] s_fixed_signed_p2) (.cond (.t 15) (.seq s_fixed_signed_p3 .ret) .skip)))))) (.seq (.region false [⟨some 4, .mv (.v (.int .i64 0)), none, false⟩,
  ⟨some 5, .mv (.v (.bool false)), none, false⟩]) .ret))
def s_fixed_signed : SFn := ⟨2, [.t 4, .t 5], (.seq (.region false [⟨some 4, .mv (.v (.int .i64 0)), none, false⟩,
  ⟨some 5, .mv (.v (.bool false)), none, false⟩]) s_fixed_signed_p4)⟩
def s_math_bits_Mul64_p0 : SCode := (.region false [⟨some 22, .mv (.t 6), none, false⟩,
  ⟨some 23, .mv (.t 8), none, false⟩,
  ⟨some 24, .bin .mul (.t 22) (.t 23), none, false⟩,
  ⟨some 10, .mv (.t 24), none, false⟩])
def s_math_bits_Mul64_p1 : SCode := (.region false [⟨some 25, .mv (.t 7), none, false⟩,
  ⟨some 26, .mv (.t 8), none, false⟩,
  ⟨some 27, .bin .mul (.t 25) (.t 26), none, false⟩,
  ⟨some 28, .mv (.t 10), none, false⟩,
  ⟨some 29, .bin .shr (.t 28) (.v (.int .u64 32)), none, false⟩,
  ⟨some 30, .bin .add (.t 27) (.t 29), none, false⟩,
  ⟨some 11, .mv (.t 30), none, false⟩])
def s_math_bits_Mul64_p2 : SCode := (.region false [⟨some 35, .mv (.t 12), none, false⟩,
  ⟨some 36, .mv (.t 6), none, false⟩,
  ⟨some 37, .mv (.t 9), none, false⟩,
  ⟨some 38, .bin .mul (.t 36) (.t 37), none, false⟩,
  ⟨some 39, .bin .add (.t 35) (.t 38), none, false⟩,
  ⟨some 12, .mv (.t 39), none, false⟩])
def s_math_bits_Mul64_p3 : SCode := (.region false [⟨some 40, .mv (.t 7), none, false⟩,
  ⟨some 41, .mv (.t 9), none, false⟩,
  ⟨some 42, .bin .mul (.t 40) (.t 41), none, false⟩,
  ⟨some 43, .mv (.t 13), none, false⟩,
  ⟨some 44, .bin .add (.t 42) (.t 43), none, false⟩,
  ⟨some 45, .mv (.t 12), none, false⟩,
  ⟨some 46, .bin .shr (.t 45) (.v (.int .u64 32)), none, false⟩,
  ⟨some 47, .bin .add (.t 44) (.t 46), none, false⟩,
  ⟨some 4, .mv (.t 47), none, false⟩])
def s_math_bits_Mul64_p4 : SCode := (.region false [⟨some 48, .mv (.t 0), none, false⟩,
  ⟨some 49, .mv (.t 1), none, false⟩,
  ⟨some 50, .bin .mul (.t 48) (.t 49), none, false⟩,
  ⟨some 5, .mv (.t 50), none, false⟩])
def s_math_bits_Mul64_p5 : SCode := (.seq (.region false [⟨some 33, .mv (.t 11), none, false⟩,
  ⟨some 34, .bin .shr (.t 33) (.v (.int .u64 32)), none, false⟩,
  ⟨some 13, .mv (.t 34), none, false⟩]) (.seq (.kp [0, 1, 7, 9, 12, 13] s_math_bits_Mul64_p2) (.seq (.kp [0, 1, 4] s_math_bits_Mul64_p3) (.seq s_math_bits_Mul64_p4 .ret))))
def s_math_bits_Mul64_p6 : SCode := (.seq (.kp [0, 1, 6, 7, 9, 11] s_math_bits_Mul64_p1) (.seq (.region false [⟨some 31, .mv (.t 11), none, false⟩,
  ⟨some 32, .bin .and (.t 31) (.v (.int .u64 4294967295)), none, false⟩,
  ⟨some 12, .mv (.t 32), none, false⟩]) s_math_bits_Mul64_p5))
def s_math_bits_Mul64_p7 : SCode := (.seq (.region false [⟨some 20, .mv (.t 1), none, false⟩,
  ⟨some 21, .bin .shr (.t 20) (.v (.int .u64 32)), none, false⟩,
  ⟨some 9, .mv (.t 21), none, false⟩]) (.seq s_math_bits_Mul64_p0 s_math_bits_Mul64_p6))
def s_math_bits_Mul64_p8 : SCode := (.seq (.region false [⟨some 16, .mv (.t 0), none, false⟩,
  ⟨some 17, .bin .shr (.t 16) (.v (.int .u64 32)), none, false⟩,
  ⟨some 7, .mv (.t 17), none, false⟩]) (.seq (.region false [⟨some 18, .mv (.t 1), none, false⟩,
  ⟨some 19, .bin .and (.t 18) (.v (.int .u64 4294967295)), none, false⟩,
  ⟨some 8, .mv (.t 19), none, false⟩]) s_math_bits_Mul64_p7))
def s_math_bits_Mul64_p9 : SCode := (.seq (.region false [⟨some 4, .mv (.v (.int .u64 0)), none, false⟩,
  ⟨some 5, .mv (.v (.int .u64 0)), none, false⟩]) (.seq (.region false [⟨some 14, .mv (.t 0), none, false⟩,
  ⟨some 15, .bin .and (.t 14) (.v (.int .u64 4294967295)), none, false⟩,
  ⟨some 6, .mv (.t 15), none, false⟩]) s_math_bits_Mul64_p8))
def s_math_bits_Mul64 : SFn := ⟨2, [.t 4, .t 5], s_math_bits_Mul64_p9⟩
def s_fixed_Octile_p0 : SCode := (.region false [⟨some 14, .mv (.t 0), none, false⟩,
  ⟨some 15, .call f_fixed_amount [(.t 14)], none, false⟩,
  ⟨some 16, .mv (.t 1), none, false⟩,
  ⟨some 17, .call f_fixed_amount [(.t 16)], none, false⟩,
  ⟨some 6, .mv (.t 15), none, false⟩,
  ⟨some 7, .mv (.t 17), none, false⟩])
def s_fixed_Octile_p1 : SCode := (.cond (.t 20) (.region false [⟨some 21, .mv (.t 7), none, false⟩,
  ⟨some 22, .mv (.t 6), none, false⟩,
  ⟨some 6, .mv (.t 21), none, false⟩,
  ⟨some 7, .mv (.t 22), none, false⟩]) .skip)
def s_fixed_Octile_p2 : SCode := (.region false [⟨some 24, .mv (.t 7), none, false⟩,
  ⟨some 25, .call f_math_bits_Mul64 [(.t 24), (.v (.int .u64 14))], none, false⟩,
  ⟨some 23, .mv (.t 25), none, false⟩,
  ⟨some 26, .ext (.t 23) 0, none, false⟩,
  ⟨some 27, .ext (.t 23) 1, none, false⟩,
  ⟨some 8, .mv (.t 26), none, false⟩,
  ⟨some 9, .mv (.t 27), none, false⟩])
def s_fixed_Octile_p3 : SCode := (.region false [⟨some 29, .mv (.t 6), none, false⟩,
  ⟨some 30, .mv (.t 7), none, false⟩,
  ⟨some 31, .bin .sub (.t 29) (.t 30), none, false⟩,
  ⟨some 32, .call f_math_bits_Mul64 [(.t 31), (.v (.int .u64 10))], none, false⟩,
  ⟨some 28, .mv (.t 32), none, false⟩,
  ⟨some 33, .ext (.t 28) 0, none, false⟩,
  ⟨some 34, .ext (.t 28) 1, none, false⟩,
  ⟨some 10, .mv (.t 33), none, false⟩,
  ⟨some 11, .mv (.t 34), none, false⟩])
def s_fixed_Octile_p4 : SCode := (.region false [⟨some 36, .mv (.t 9), none, false⟩,
  ⟨some 37, .mv (.t 11), none, false⟩,
  ⟨some 38, .add64 (.t 36) (.t 37) (.v (.int .u64 0)), none, false⟩,
  ⟨some 35, .mv (.t 38), none, false⟩,
  ⟨some 39, .ext (.t 35) 0, none, false⟩,
  ⟨some 40, .ext (.t 35) 1, none, false⟩,
  ⟨some 12, .mv (.t 39), none, false⟩,
  ⟨some 13, .mv (.t 40), none, false⟩])
def s_fixed_Octile_p5 : SCode := (.region false [⟨some 41, .mv (.t 8), none, false⟩,
  ⟨some 42, .bin .neq (.t 41) (.v (.int .u64 0)), none, false⟩,
  ⟨some 43, .mv (.t 42), none, false⟩,
  ⟨some 44, .mv (.t 10), (some (43, false)), false⟩,
  ⟨some 45, .bin .neq (.t 44) (.v (.int .u64 0)), (some (43, false)), false⟩,
  ⟨some 46, .pick (.t 43) (.v (.bool true)) (.t 45), none, false⟩,
  ⟨some 47, .mv (.t 46), none, false⟩,
  ⟨some 48, .mv (.t 13), (some (47, false)), false⟩,
  ⟨some 49, .bin .neq (.t 48) (.v (.int .u64 0)), (some (47, false)), false⟩,
  ⟨some 50, .pick (.t 47) (.v (.bool true)) (.t 49), none, false⟩])
def s_fixed_Octile_p6 : SCode := (.kp [12] (.seq (.kp [12, 50] s_fixed_Octile_p5) (.cond (.t 50) (.seq (.region false [⟨some 4, .mv (.v (.int .i64 0)), none, false⟩,
  ⟨some 5, .mv (.v (.bool false)), none, false⟩]) .ret) .skip)))
def s_fixed_Octile_p7 : SCode := (.region false [⟨some 51, .mv (.t 12), none, false⟩,
  ⟨some 52, .call f_fixed_signed [(.t 51), (.v (.bool false))], none, false⟩,
  ⟨some 53, .ext (.t 52) 0, none, false⟩,
  ⟨some 54, .ext (.t 52) 1, none, false⟩,
  ⟨some 4, .mv (.t 53), none, false⟩,
  ⟨some 5, .mv (.t 54), none, false⟩])
def s_fixed_Octile_p8 : SCode := (.seq (.kp [6, 7] (.seq (.region false [⟨some 18, .mv (.t 6), none, false⟩,
  ⟨some 19, .mv (.t 7), none, false⟩,
  ⟨some 20, .bin .lss (.t 18) (.t 19), none, false⟩]) s_fixed_Octile_p1)) (.seq (.kp [6, 7, 8, 9] s_fixed_Octile_p2) (.seq (.kp [8, 9, 10, 11] s_fixed_Octile_p3) (.seq (.kp [8, 10, 12, 13] s_fixed_Octile_p4) (.seq s_fixed_Octile_p6 (.seq (.kp [4, 5] s_fixed_Octile_p7) .ret))))))
def s_fixed_Octile : SFn := ⟨2, [.t 4, .t 5], (.seq (.region false [⟨some 4, .mv (.v (.int .i64 0)), none, false⟩,
  ⟨some 5, .mv (.v (.bool false)), none, false⟩]) (.seq (.kp [6, 7] s_fixed_Octile_p0) s_fixed_Octile_p8))⟩
def s_cell_Octile_p0 : SCode := (.region false [⟨some 7, .load (some 2) (.t 2), none, false⟩,
  ⟨some 8, .call f_cell_Near [(.t 7)], none, false⟩,
  ⟨some 9, .un .not (.t 8), none, false⟩,
  ⟨some 10, .mv (.t 9), none, false⟩,
  ⟨some 11, .load (some 2) (.t 3), (some (10, false)), false⟩,
  ⟨some 12, .call f_cell_Near [(.t 11)], (some (10, false)), false⟩,
  ⟨some 13, .un .not (.t 12), (some (10, false)), false⟩,
  ⟨some 14, .pick (.t 10) (.v (.bool true)) (.t 13), none, false⟩])
def s_cell_Octile_p1 : SCode := (.region false [⟨some 16, .faddr 0 (.t 2), none, false⟩,
  ⟨some 17, .load none (.t 16), none, false⟩,
  ⟨some 18, .faddr 0 (.t 3), none, false⟩,
  ⟨some 19, .load none (.t 18), none, false⟩,
  ⟨some 20, .bin .sub (.t 17) (.t 19), none, false⟩,
  ⟨some 21, .faddr 1 (.t 2), none, false⟩,
  ⟨some 22, .load none (.t 21), none, false⟩,
  ⟨some 23, .faddr 1 (.t 3), none, false⟩,
  ⟨some 24, .load none (.t 23), none, false⟩,
  ⟨some 25, .bin .sub (.t 22) (.t 24), none, false⟩,
  ⟨some 26, .call f_fixed_Octile [(.t 20), (.t 25)], none, false⟩,
  ⟨some 15, .mv (.t 26), none, false⟩,
  ⟨some 27, .ext (.t 15) 0, none, false⟩,
  ⟨some 28, .ext (.t 15) 1, none, false⟩,
  ⟨some 5, .mv (.t 27), none, false⟩,
  ⟨some 6, .mv (.t 28), none, false⟩])
def s_cell_Octile_p2 : SCode := (.seq (.kp [2, 3] (.seq (.kp [2, 3, 14] s_cell_Octile_p0) (.cond (.t 14) (.seq (.region false [⟨some 4, .mv (.v (.int .i64 0)), none, false⟩]) .ret) .skip))) (.seq (.kp [5] s_cell_Octile_p1) (.seq (.region false [⟨some 29, .mv (.t 5), none, false⟩,
  ⟨some 4, .mv (.t 29), none, false⟩]) .ret)))
def s_cell_Octile : SFn := ⟨2, [.t 4], (.seq (.region false [⟨some 2, .box true 2 (.t 0), none, false⟩,
  ⟨some 3, .box true 2 (.t 1), none, false⟩,
  ⟨some 4, .mv (.v (.int .i64 0)), none, false⟩]) s_cell_Octile_p2)⟩
def s_parts_Parts_is_p0 : SCode := (.region false [⟨some 3, .mv (.t 0), none, false⟩,
  ⟨some 4, .eq true false [.ptr] (.t 3) (.v .nilp), none, false⟩,
  ⟨some 5, .mv (.t 4), none, false⟩,
  ⟨some 6, .mv (.t 0), (some (5, true)), false⟩,
  ⟨some 7, .nilck (.t 6), (some (5, true)), false⟩,
  ⟨some 8, .faddr 0 (.t 7), (some (5, true)), false⟩,
  ⟨some 9, .load none (.t 8), (some (5, true)), false⟩,
  ⟨some 10, .eq true false [.ptr] (.t 9) (.v .nilp), (some (5, true)), false⟩,
  ⟨some 11, .pick (.t 5) (.t 10) (.v (.bool false)), none, false⟩,
  ⟨some 2, .mv (.t 11), none, false⟩])
def s_parts_Parts_is : SFn := ⟨1, [.t 2], (.seq (.region false [⟨some 2, .mv (.v (.bool false)), none, false⟩]) (.seq (.kp [2] s_parts_Parts_is_p0) .ret))⟩
def s_parts_Parts_At_p0 : SCode := (.region true [⟨some 5, .mv (.t 0), none, false⟩,
  ⟨some 6, .call f_parts_Parts_is [(.t 5)], none, false⟩,
  ⟨some 7, .un .not (.t 6), none, false⟩,
  ⟨some 8, .mv (.t 7), none, false⟩,
  ⟨some 9, .mv (.t 0), (some (8, false)), true⟩,
  ⟨some 10, .nilck (.t 9), (some (8, false)), true⟩,
  ⟨some 11, .faddr 3 (.t 10), (some (8, false)), true⟩,
  ⟨some 12, .load (some 4) (.t 11), (some (8, false)), true⟩,
  ⟨some 13, .load (some 2) (.t 3), (some (8, false)), true⟩,
  ⟨some 14, .call f_cell_Has [(.t 12), (.t 13)], (some (8, false)), false⟩,
  ⟨some 15, .un .not (.t 14), (some (8, false)), false⟩,
  ⟨some 16, .pick (.t 8) (.v (.bool true)) (.t 15), none, false⟩])
def s_parts_Parts_At_p1 : SCode := (.region true [⟨some 17, .mv (.t 0), none, true⟩,
  ⟨some 18, .nilck (.t 17), none, true⟩,
  ⟨some 19, .faddr 8 (.t 18), none, true⟩,
  ⟨some 20, .load none (.t 19), none, true⟩,
  ⟨some 21, .faddr 1 (.t 3), none, true⟩,
  ⟨some 22, .load none (.t 21), none, true⟩,
  ⟨some 23, .mv (.t 0), none, true⟩,
  ⟨some 24, .nilck (.t 23), none, true⟩,
  ⟨some 25, .faddr 3 (.t 24), none, true⟩,
  ⟨some 26, .faddr 2 (.t 25), none, true⟩,
  ⟨some 27, .load none (.t 26), none, true⟩,
  ⟨some 28, .bin .mul (.t 22) (.t 27), none, true⟩,
  ⟨some 29, .faddr 0 (.t 3), none, true⟩,
  ⟨some 30, .load none (.t 29), none, true⟩,
  ⟨some 31, .bin .add (.t 28) (.t 30), none, true⟩,
  ⟨some 32, .iaddr 1 (.t 20) (.t 31), none, false⟩,
  ⟨some 33, .load none (.t 32), none, false⟩,
  ⟨some 4, .mv (.t 33), none, false⟩])
def s_parts_Parts_At_p2 : SCode := (.seq (.region false [⟨some 3, .box true 2 (.t 1), none, false⟩,
  ⟨some 4, .mv (.v (.int .i64 0)), none, false⟩]) (.seq (.kp [0, 3] (.seq (.kp [0, 3, 16] s_parts_Parts_At_p0) (.cond (.t 16) (.seq (.region false [⟨some 4, .mv (.v (.int .i64 0)), none, false⟩]) .ret) .skip))) (.seq (.kp [4] s_parts_Parts_At_p1) .ret)))
def s_parts_Parts_At : SFn := ⟨2, [.t 4], s_parts_Parts_At_p2⟩
def s_parts_Parts_Joined_p0 : SCode := (.region true [⟨some 7, .mv (.t 0), none, true⟩,
  ⟨some 8, .load (some 2) (.t 4), none, false⟩,
  ⟨some 9, .call f_parts_Parts_At [(.t 7), (.t 8)], none, false⟩,
  ⟨some 10, .bin .gtr (.t 9) (.v (.int .i64 0)), none, false⟩,
  ⟨some 11, .mv (.t 10), none, false⟩,
  ⟨some 12, .mv (.t 0), (some (11, true)), true⟩,
  ⟨some 13, .load (some 2) (.t 4), (some (11, true)), true⟩,
  ⟨some 15, .mv (.t 0), (some (11, true)), true⟩,
  ⟨some 16, .load (some 2) (.t 5), (some (11, true)), true⟩,
  ⟨some 14, .call f_parts_Parts_At [(.t 12), (.t 13)], (some (11, true)), true⟩,
  ⟨some 17, .call f_parts_Parts_At [(.t 15), (.t 16)], (some (11, true)), false⟩,
  ⟨some 18, .bin .eql (.t 14) (.t 17), (some (11, true)), false⟩,
  ⟨some 19, .pick (.t 11) (.t 18) (.v (.bool false)), none, false⟩,
  ⟨some 6, .mv (.t 19), none, false⟩])
def s_parts_Parts_Joined_p1 : SCode := (.seq (.region false [⟨some 4, .box true 2 (.t 1), none, false⟩,
  ⟨some 5, .box true 2 (.t 2), none, false⟩,
  ⟨some 6, .mv (.v (.bool false)), none, false⟩]) (.seq (.kp [6] s_parts_Parts_Joined_p0) .ret))
def s_parts_Parts_Joined : SFn := ⟨3, [.t 6], s_parts_Parts_Joined_p1⟩
def s_cell_between_p0 : SCode := (.region false [⟨some 2, .box true 2 (.t 0), none, false⟩,
  ⟨some 3, .box true 2 (.t 1), none, false⟩,
  ⟨some 4, .alloc true [(.int .i64 0), (.int .i64 0), (.int .i64 0), (.int .i64 0)], none, false⟩])
def s_cell_between_p1 : SCode := (.region false [⟨some 5, .load (some 2) (.t 2), none, false⟩,
  ⟨some 6, .faddr 0 (.t 3), none, false⟩,
  ⟨some 7, .load none (.t 6), none, false⟩,
  ⟨some 8, .faddr 0 (.t 2), none, false⟩,
  ⟨some 9, .load none (.t 8), none, false⟩,
  ⟨some 10, .bin .sub (.t 7) (.t 9), none, false⟩,
  ⟨some 11, .bin .add (.t 10) (.v (.int .i64 1)), none, false⟩,
  ⟨some 12, .faddr 1 (.t 3), none, false⟩,
  ⟨some 13, .load none (.t 12), none, false⟩,
  ⟨some 14, .faddr 1 (.t 2), none, false⟩,
  ⟨some 15, .load none (.t 14), none, false⟩,
  ⟨some 16, .bin .sub (.t 13) (.t 15), none, false⟩,
  ⟨some 17, .bin .add (.t 16) (.v (.int .i64 1)), none, false⟩,
  ⟨some 18, .build [(.int .i64 0), (.int .i64 0), (.int .i64 0), (.int .i64 0)] [(0, 2, (.t 5)), (2, 1, (.t 11)), (3, 1, (.t 17))], none, false⟩,
  ⟨none, .store 4 [] (.t 4) (.t 18), none, false⟩])
def s_cell_between : SFn := ⟨2, [.cell 4 (some 4)], (.seq s_cell_between_p0 (.seq (.kp [4] s_cell_between_p1) .ret))⟩
def s_cell_Meet_p0 : SCode := (.region false [⟨some 2, .box true 4 (.t 0), none, false⟩,
  ⟨some 3, .box true 4 (.t 1), none, false⟩,
  ⟨some 4, .alloc true [(.int .i64 0), (.int .i64 0), (.int .i64 0), (.int .i64 0)], none, false⟩,
  ⟨some 5, .mv (.v (.bool false)), none, false⟩])
def s_cell_Meet_p1 : SCode := (.region false [⟨some 9, .load (some 4) (.t 2), none, false⟩,
  ⟨some 10, .call f_cell_May [(.t 9)], none, false⟩,
  ⟨some 11, .un .not (.t 10), none, false⟩,
  ⟨some 12, .mv (.t 11), none, false⟩,
  ⟨some 13, .load (some 4) (.t 3), (some (12, false)), false⟩,
  ⟨some 14, .call f_cell_May [(.t 13)], (some (12, false)), false⟩,
  ⟨some 15, .un .not (.t 14), (some (12, false)), false⟩,
  ⟨some 16, .pick (.t 12) (.v (.bool true)) (.t 15), none, false⟩])
def s_cell_Meet_p2 : SCode := (.region false [⟨some 17, .build [(.int .i64 0), (.int .i64 0), (.int .i64 0), (.int .i64 0)] [], none, false⟩,
  ⟨none, .store 4 [] (.t 4) (.t 17), none, false⟩,
  ⟨some 5, .mv (.v (.bool false)), none, false⟩])
def s_cell_Meet_p3 : SCode := (.region true [⟨some 18, .load (some 4) (.t 2), none, true⟩,
  ⟨some 20, .load (some 4) (.t 3), none, true⟩,
  ⟨some 19, .call f_cell_last [(.t 18)], none, true⟩,
  ⟨some 21, .call f_cell_last [(.t 20)], none, false⟩,
  ⟨some 6, .alloc true [(.int .i64 0), (.int .i64 0)], none, true⟩,
  ⟨some 7, .alloc true [(.int .i64 0), (.int .i64 0)], none, true⟩,
  ⟨none, .store 2 [] (.t 6) (.t 19), none, false⟩,
  ⟨none, .store 2 [] (.t 7) (.t 21), none, false⟩])
def s_cell_Meet_p4 : SCode := (.region false [⟨some 22, .faddr 0 (.t 2), none, false⟩,
  ⟨some 23, .faddr 0 (.t 22), none, false⟩,
  ⟨some 24, .load none (.t 23), none, false⟩,
  ⟨some 25, .faddr 0 (.t 3), none, false⟩,
  ⟨some 26, .faddr 0 (.t 25), none, false⟩,
  ⟨some 27, .load none (.t 26), none, false⟩,
  ⟨some 28, .mxmn true [(.t 24), (.t 27)], none, false⟩,
  ⟨some 29, .faddr 0 (.t 2), none, false⟩,
  ⟨some 30, .faddr 1 (.t 29), none, false⟩,
  ⟨some 31, .load none (.t 30), none, false⟩,
  ⟨some 32, .faddr 0 (.t 3), none, false⟩,
  ⟨some 33, .faddr 1 (.t 32), none, false⟩,
  ⟨some 34, .load none (.t 33), none, false⟩,
  ⟨some 35, .mxmn true [(.t 31), (.t 34)], none, false⟩,
  ⟨some 36, .build [(.int .i64 0), (.int .i64 0)] [(0, 1, (.t 28)), (1, 1, (.t 35))], none, false⟩,
  ⟨some 37, .faddr 0 (.t 6), none, false⟩,
  ⟨some 38, .load none (.t 37), none, false⟩,
  ⟨some 39, .faddr 0 (.t 7), none, false⟩,
  ⟨some 40, .load none (.t 39), none, false⟩,
  ⟨some 41, .mxmn false [(.t 38), (.t 40)], none, false⟩,
  ⟨some 42, .faddr 1 (.t 6), none, false⟩,
  ⟨some 43, .load none (.t 42), none, false⟩,
  ⟨some 44, .faddr 1 (.t 7), none, false⟩,
  ⟨some 45, .load none (.t 44), none, false⟩,
  ⟨some 46, .mxmn false [(.t 43), (.t 45)], none, false⟩,
  ⟨some 47, .build [(.int .i64 0), (.int .i64 0)] [(0, 1, (.t 41)), (1, 1, (.t 46))], none, false⟩,
  ⟨some 48, .call f_cell_between [(.t 36), (.t 47)], none, false⟩,
  ⟨some 8, .alloc true [(.int .i64 0), (.int .i64 0), (.int .i64 0), (.int .i64 0)], none, false⟩,
  ⟨none, .store 4 [] (.t 8) (.t 48), none, false⟩])
def s_cell_Meet_p5 : SCode := (.region false [⟨some 49, .faddr 2 (.t 8), none, false⟩,
  ⟨some 50, .load none (.t 49), none, false⟩,
  ⟨some 51, .bin .lss (.t 50) (.v (.int .i64 1)), none, false⟩,
  ⟨some 52, .mv (.t 51), none, false⟩,
  ⟨some 53, .faddr 3 (.t 8), (some (52, false)), false⟩,
  ⟨some 54, .load none (.t 53), (some (52, false)), false⟩,
  ⟨some 55, .bin .lss (.t 54) (.v (.int .i64 1)), (some (52, false)), false⟩,
  ⟨some 56, .pick (.t 52) (.v (.bool true)) (.t 55), none, false⟩])
def s_cell_Meet_p6 : SCode := (.region false [⟨some 57, .build [(.int .i64 0), (.int .i64 0), (.int .i64 0), (.int .i64 0)] [], none, false⟩,
  ⟨none, .store 4 [] (.t 4) (.t 57), none, false⟩,
  ⟨some 5, .mv (.v (.bool false)), none, false⟩])
def s_cell_Meet_p7 : SCode := (.seq (.kp [4, 8] (.seq (.kp [4, 8, 56] s_cell_Meet_p5) (.cond (.t 56) (.seq s_cell_Meet_p6 .ret) .skip))) (.seq (.region false [⟨some 58, .load (some 4) (.t 8), none, false⟩,
  ⟨none, .store 4 [] (.t 4) (.t 58), none, false⟩,
  ⟨some 5, .mv (.v (.bool true)), none, false⟩]) .ret))
def s_cell_Meet_p8 : SCode := (.seq s_cell_Meet_p0 (.seq (.kp [2, 3, 4] (.seq (.kp [2, 3, 4, 16] s_cell_Meet_p1) (.cond (.t 16) (.seq s_cell_Meet_p2 .ret) .skip))) (.seq (.kp [2, 3, 4, 6, 7] s_cell_Meet_p3) (.seq (.kp [4, 8] s_cell_Meet_p4) s_cell_Meet_p7))))
def s_cell_Meet : SFn := ⟨2, [.cell 4 (some 4), .t 5], s_cell_Meet_p8⟩
def s_settle_Will_1_p0 : SCode := (.region false [⟨some 7, .load (some 4) (.t 1), none, false⟩,
  ⟨some 8, .load (some 4) (.t 2), none, false⟩,
  ⟨some 9, .call f_cell_Meet [(.t 7), (.t 8)], none, false⟩,
  ⟨some 6, .mv (.t 9), none, false⟩,
  ⟨some 10, .ext (.t 6) 0, none, false⟩,
  ⟨some 11, .ext (.t 6) 1, none, false⟩,
  ⟨some 4, .alloc true [(.int .i64 0), (.int .i64 0), (.int .i64 0), (.int .i64 0)], none, false⟩,
  ⟨none, .store 4 [] (.t 4) (.t 10), none, false⟩,
  ⟨some 5, .mv (.t 11), none, false⟩])
def s_settle_Will_1_p1 : SCode := (.seq (.region false [⟨some 2, .box true 4 (.t 0), none, false⟩,
  ⟨some 3, .mv (.v (.bool false)), none, false⟩]) (.seq (.kp [5] s_settle_Will_1_p0) (.seq (.region false [⟨some 12, .mv (.t 5), none, false⟩,
  ⟨some 3, .mv (.t 12), none, false⟩]) .ret)))
def s_settle_Will_1 : SFn := ⟨2, [.t 3], s_settle_Will_1_p1⟩
def s_slices_IndexFunc_api_Rect_api_Rect_p0 : SCode := (.region false [⟨some 11, .mv (.t 1), none, false⟩,
  ⟨some 12, .mv (.t 0), none, false⟩,
  ⟨some 13, .mv (.t 5), none, false⟩,
  ⟨some 14, .iaddr 4 (.t 12) (.t 13), none, false⟩,
  ⟨some 15, .load (some 4) (.t 14), none, false⟩,
  ⟨some 16, .callv (.t 11) [(.t 15)], none, false⟩])
def s_slices_IndexFunc_api_Rect_api_Rect_p1 : SCode := (.seq (.region false [⟨some 10, .mv (.t 8), none, false⟩,
  ⟨some 5, .mv (.t 10), none, false⟩]) (.seq (.kp [0, 1, 5, 7, 8, 16] s_slices_IndexFunc_api_Rect_api_Rect_p0) (.cond (.t 16) (.seq (.region false [⟨some 17, .mv (.t 5), none, false⟩,
  ⟨some 4, .mv (.t 17), none, false⟩]) .ret) .skip)))
def s_slices_IndexFunc_api_Rect_api_Rect_p2 : SCode := (.seq (.kp [0, 1, 7, 8] (.cond (.t 9) .skip (.exit 0))) (.seq (.kp [0, 1, 7, 8] (.block 1 s_slices_IndexFunc_api_Rect_api_Rect_p1)) (.region false [⟨some 18, .bin .add (.t 8) (.v (.int .i64 1)), none, false⟩,
  ⟨some 8, .mv (.t 18), none, false⟩])))
def s_slices_IndexFunc_api_Rect_api_Rect_p3 : SCode := (.seq (.region false [⟨some 9, .bin .lss (.t 8) (.t 7), none, false⟩]) s_slices_IndexFunc_api_Rect_api_Rect_p2)
def s_slices_IndexFunc_api_Rect_api_Rect_p4 : SCode := (.seq (.kp [0, 1, 7, 8] (.region false [⟨some 6, .mv (.t 0), none, false⟩,
  ⟨some 7, .len (.t 6), none, false⟩,
  ⟨some 8, .mv (.v (.int .i64 0)), none, false⟩])) (.block 0 (.loop (some [0, 1, 7, 8]) s_slices_IndexFunc_api_Rect_api_Rect_p3)))
def s_slices_IndexFunc_api_Rect_api_Rect : SFn := ⟨2, [.t 4], (.seq (.region false [⟨some 4, .mv (.v (.int .i64 0)), none, false⟩]) (.seq (.kp [] s_slices_IndexFunc_api_Rect_api_Rect_p4) (.seq (.region false [⟨some 4, .mv (.v (.int .i64 (-1))), none, false⟩]) .ret)))⟩
def s_slices_ContainsFunc_api_Rect_api_Rect_p0 : SCode := (.region false [⟨some 5, .mv (.t 0), none, false⟩,
  ⟨some 6, .mv (.t 1), none, false⟩,
  ⟨some 7, .call f_slices_IndexFunc_api_Rect_api_Rect [(.t 5), (.t 6)], none, false⟩,
  ⟨some 8, .bin .geq (.t 7) (.v (.int .i64 0)), none, false⟩,
  ⟨some 4, .mv (.t 8), none, false⟩])
def s_slices_ContainsFunc_api_Rect_api_Rect : SFn := ⟨2, [.t 4], (.seq (.region false [⟨some 4, .mv (.v (.bool false)), none, false⟩]) (.seq (.kp [4] s_slices_ContainsFunc_api_Rect_api_Rect_p0) .ret))⟩
def s_settle_Will_p0 : SCode := (.region false [⟨some 8, .box true 2 (.t 2), none, false⟩,
  ⟨some 9, .box true 2 (.t 3), none, false⟩,
  ⟨some 10, .box true 2 (.t 4), none, false⟩,
  ⟨some 12, .mv (.v (.bool false)), none, false⟩])
def s_settle_Will_p1 : SCode := (.region false [⟨some 14, .mv (.t 1), none, false⟩,
  ⟨some 15, .load (some 2) (.t 9), none, false⟩,
  ⟨some 16, .load (some 2) (.t 10), none, false⟩,
  ⟨some 17, .call f_parts_Parts_Joined [(.t 14), (.t 15), (.t 16)], none, false⟩,
  ⟨some 18, .un .not (.t 17), none, false⟩])
def s_settle_Will_p2 : SCode := (.region false [⟨some 19, .load (some 2) (.t 8), none, false⟩,
  ⟨some 20, .load (some 2) (.t 10), none, false⟩,
  ⟨some 21, .call f_class_Foot [(.t 19), (.t 20)], none, false⟩,
  ⟨some 13, .alloc true [(.int .i64 0), (.int .i64 0), (.int .i64 0), (.int .i64 0)], none, false⟩,
  ⟨none, .store 4 [] (.t 13) (.t 21), none, false⟩])
def s_settle_Will_p3 : SCode := (.region false [⟨some 22, .mv (.t 5), none, false⟩,
  ⟨some 23, .mkfn f_settle_Will_1 [] [(.t 13)], none, false⟩,
  ⟨some 24, .call f_slices_ContainsFunc_api_Rect_api_Rect [(.t 22), (.t 23)], none, false⟩,
  ⟨some 25, .un .not (.t 24), none, false⟩,
  ⟨some 12, .mv (.t 25), none, false⟩])
def s_settle_Will_p4 : SCode := (.seq (.kp [5, 8, 10] (.seq (.kp [5, 8, 10, 18] s_settle_Will_p1) (.cond (.t 18) (.seq (.region false [⟨some 12, .mv (.v (.bool false)), none, false⟩]) .ret) .skip))) (.seq (.kp [5, 13] s_settle_Will_p2) (.seq (.kp [12] s_settle_Will_p3) .ret)))
def s_settle_Will : SFn := ⟨6, [.t 12], (.seq s_settle_Will_p0 s_settle_Will_p4)⟩
def s_settle_Nearest_p0 : SCode := (.region false [⟨some 6, .box true 1 (.t 0), none, false⟩,
  ⟨some 7, .box true 1 (.t 1), none, false⟩,
  ⟨some 8, .box true 2 (.t 2), none, false⟩,
  ⟨some 9, .box true 2 (.t 3), none, false⟩,
  ⟨some 10, .box true 2 (.t 4), none, false⟩,
  ⟨some 11, .box true 1 (.t 5), none, false⟩,
  ⟨some 12, .alloc true [(.int .i64 0), (.int .i64 0)], none, false⟩,
  ⟨some 13, .mv (.v (.int .i64 0)), none, false⟩])
def s_settle_Nearest_p1 : SCode := (.region false [⟨some 18, .load (some 2) (.t 8), none, false⟩,
  ⟨some 19, .call f_class_May [(.t 18)], none, false⟩,
  ⟨some 20, .un .not (.t 19), none, false⟩,
  ⟨some 21, .mv (.t 20), none, false⟩,
  ⟨some 22, .load (some 2) (.t 10), (some (21, false)), false⟩,
  ⟨some 23, .call f_cell_Near [(.t 22)], (some (21, false)), false⟩,
  ⟨some 24, .un .not (.t 23), (some (21, false)), false⟩,
  ⟨some 25, .pick (.t 21) (.v (.bool true)) (.t 24), none, false⟩])
def s_settle_Nearest_p2 : SCode := (.region false [⟨some 26, .build [(.int .i64 0), (.int .i64 0)] [], none, false⟩,
  ⟨none, .store 2 [] (.t 12) (.t 26), none, false⟩,
  ⟨some 13, .mv (.v (.int .i64 1)), none, false⟩])
def s_settle_Nearest_p3 : SCode := (.region false [⟨some 27, .build [(.int .i64 0), (.int .i64 0)] [], none, false⟩,
  ⟨some 14, .alloc true [(.int .i64 0), (.int .i64 0)], none, false⟩,
  ⟨some 15, .alloc true [(.int .i64 0)], none, false⟩,
  ⟨none, .store 2 [] (.t 14) (.t 27), none, false⟩,
  ⟨none, .store 1 [] (.t 15) (.v (.int .i64 (-1))), none, false⟩])
def s_settle_Nearest_p4 : SCode := (.kp [6, 7, 8, 9, 10, 11, 12, 14, 15, 30] (.region false [⟨some 28, .load none (.t 6), none, false⟩,
  ⟨some 29, .call f_grid_World_All [(.t 28)], none, false⟩,
  ⟨some 30, .call f_cell_Cells [(.t 29)], none, false⟩]))
def s_settle_Nearest_p5 : SCode := (.region false [⟨some 16, .alloc true [(.int .i64 0), (.int .i64 0)], none, false⟩,
  ⟨none, .store 2 [] (.t 16) (.t 31), none, false⟩])
def s_settle_Nearest_p6 : SCode := (.region false [⟨some 32, .load (some 2) (.t 10), none, false⟩,
  ⟨some 33, .load (some 2) (.t 16), none, false⟩,
  ⟨some 34, .call f_cell_Octile [(.t 32), (.t 33)], none, false⟩,
  ⟨some 17, .mv (.t 34), none, false⟩])
def s_settle_Nearest_p7 : SCode := (.region false [⟨some 35, .load none (.t 15), none, false⟩,
  ⟨some 36, .bin .lss (.t 35) (.v (.int .i64 0)), none, false⟩,
  ⟨some 37, .mv (.t 36), none, false⟩,
  ⟨some 38, .mv (.t 17), (some (37, false)), false⟩,
  ⟨some 39, .load none (.t 15), (some (37, false)), false⟩,
  ⟨some 40, .bin .lss (.t 38) (.t 39), (some (37, false)), false⟩,
  ⟨some 41, .pick (.t 37) (.v (.bool true)) (.t 40), none, false⟩,
  ⟨some 42, .mv (.t 41), none, false⟩,
  ⟨some 43, .load none (.t 6), (some (42, true)), false⟩,
  ⟨some 44, .load none (.t 7), (some (42, true)), false⟩,
  ⟨some 45, .load (some 2) (.t 8), (some (42, true)), false⟩,
  ⟨some 46, .load (some 2) (.t 9), (some (42, true)), false⟩,
  ⟨some 47, .load (some 2) (.t 16), (some (42, true)), false⟩,
  ⟨some 48, .load none (.t 11), (some (42, true)), false⟩,
  ⟨some 49, .call f_settle_Will [(.t 43), (.t 44), (.t 45), (.t 46), (.t 47), (.t 48)], (some (42, true)), false⟩,
  ⟨some 50, .pick (.t 42) (.t 49) (.v (.bool false)), none, false⟩])
def s_settle_Nearest_p8 : SCode := (.region false [⟨some 51, .load (some 2) (.t 16), none, false⟩,
  ⟨some 52, .mv (.t 17), none, false⟩,
  ⟨none, .store 2 [] (.t 14) (.t 51), none, false⟩,
  ⟨none, .store 1 [] (.t 15) (.t 52), none, false⟩])
def s_settle_Nearest_p9 : SCode := (.block 1 (.seq s_settle_Nearest_p6 (.seq (.kp [12, 14, 15, 16, 17, 50] s_settle_Nearest_p7) (.cond (.t 50) s_settle_Nearest_p8 .skip))))
def s_settle_Nearest_p10 : SCode := (.region false [⟨some 55, .build [(.int .i64 0), (.int .i64 0)] [], none, false⟩,
  ⟨none, .store 2 [] (.t 12) (.t 55), none, false⟩,
  ⟨some 13, .mv (.v (.int .i64 4)), none, false⟩])
def s_settle_Nearest_p11 : SCode := (.kp [12, 14] (.seq (.region false [⟨some 53, .load none (.t 15), none, false⟩,
  ⟨some 54, .bin .lss (.t 53) (.v (.int .i64 0)), none, false⟩]) (.cond (.t 54) (.seq s_settle_Nearest_p10 .ret) .skip)))
def s_settle_Nearest_p12 : SCode := (.seq s_settle_Nearest_p11 (.seq (.region false [⟨some 56, .load (some 2) (.t 14), none, false⟩,
  ⟨none, .store 2 [] (.t 12) (.t 56), none, false⟩,
  ⟨some 13, .mv (.v (.int .i64 0)), none, false⟩]) .ret))
def s_settle_Nearest_p13 : SCode := (.seq (.kp [6, 7, 8, 9, 10, 11, 12] (.seq (.kp [6, 7, 8, 9, 10, 11, 12, 25] s_settle_Nearest_p1) (.cond (.t 25) (.seq s_settle_Nearest_p2 .ret) .skip))) (.seq (.kp [6, 7, 8, 9, 10, 11, 12, 14, 15] s_settle_Nearest_p3) (.seq (.kp [12, 14, 15] (.seq s_settle_Nearest_p4 (.block 0 (.rangef (.t 30) [31] s_settle_Nearest_p5 s_settle_Nearest_p9)))) s_settle_Nearest_p12)))
def s_settle_Nearest : SFn := ⟨6, [.cell 12 (some 2), .t 13], (.seq (.kp [6, 7, 8, 9, 10, 11, 12] s_settle_Nearest_p0) s_settle_Nearest_p13)⟩
def s_law19_awake_p0 : SCode := (.region false [⟨some 9, .mkslice [(.int .u8 0)] 1 (.v (.int .i64 5)) (.v (.int .i64 5)), none, false⟩,
  ⟨some 10, .build [(.int .i64 0), (.int .i64 0), .nils, .nils] [(0, 1, (.v (.int .i64 5))), (1, 1, (.v (.int .i64 1))), (2, 1, (.t 9))], none, false⟩,
  ⟨some 11, .call f_grid_New [(.t 10)], none, false⟩,
  ⟨some 8, .mv (.t 11), none, false⟩,
  ⟨some 12, .ext (.t 8) 0, none, false⟩,
  ⟨some 13, .ext (.t 8) 1, none, false⟩,
  ⟨some 1, .mv (.t 12), none, false⟩,
  ⟨some 2, .mv (.t 13), none, false⟩])
def s_law19_awake_p1 : SCode := (.region false [⟨some 14, .build [(.int .i64 0), (.int .i64 0)] [(1, 1, (.v (.int .i64 1)))], none, false⟩,
  ⟨some 3, .alloc true [(.int .i64 0), (.int .i64 0)], none, false⟩,
  ⟨none, .store 2 [] (.t 3) (.t 14), none, false⟩])
def s_law19_awake_p2 : SCode := (.region false [⟨some 16, .mv (.t 1), none, false⟩,
  ⟨some 17, .load (some 2) (.t 3), none, false⟩,
  ⟨some 18, .call f_parts_New [(.t 16), (.t 17)], none, false⟩,
  ⟨some 15, .mv (.t 18), none, false⟩,
  ⟨some 19, .ext (.t 15) 0, none, false⟩,
  ⟨some 20, .ext (.t 15) 1, none, false⟩,
  ⟨some 4, .mv (.t 19), none, false⟩,
  ⟨some 5, .mv (.t 20), none, false⟩])
def s_law19_awake_p3 : SCode := (.region false [⟨some 22, .mv (.t 1), none, false⟩,
  ⟨some 23, .mv (.t 4), none, false⟩,
  ⟨some 24, .load (some 2) (.t 3), none, false⟩,
  ⟨some 25, .build [(.int .i64 0), (.int .i64 0)] [], none, false⟩,
  ⟨some 26, .build [(.int .i64 0), (.int .i64 0)] [(0, 1, (.v (.int .i64 4)))], none, false⟩,
  ⟨some 27, .build [(.int .i64 0), (.int .i64 0)] [(0, 1, (.v (.int .i64 3)))], none, false⟩,
  ⟨some 28, .build [(.int .i64 0), (.int .i64 0), (.int .i64 0), (.int .i64 0)] [(0, 2, (.t 27)), (2, 1, (.v (.int .i64 2))), (3, 1, (.v (.int .i64 1)))], none, false⟩,
  ⟨some 29, .bslice [(.int .i64 0), (.int .i64 0), (.int .i64 0), (.int .i64 0)] 1 4 [(0, 4, (.t 28))], none, false⟩,
  ⟨some 30, .call f_settle_Nearest [(.t 22), (.t 23), (.t 24), (.t 25), (.t 26), (.t 29)], none, false⟩,
  ⟨some 21, .mv (.t 30), none, false⟩,
  ⟨some 31, .ext (.t 21) 0, none, false⟩,
  ⟨some 32, .ext (.t 21) 1, none, false⟩,
  ⟨some 6, .alloc true [(.int .i64 0), (.int .i64 0)], none, false⟩,
  ⟨none, .store 2 [] (.t 6) (.t 31), none, false⟩,
  ⟨some 7, .mv (.t 32), none, false⟩])
def s_law19_awake_p4 : SCode := (.region false [⟨some 33, .mv (.t 2), none, false⟩,
  ⟨some 34, .bin .eql (.t 33) (.v (.int .i64 0)), none, false⟩,
  ⟨some 35, .mv (.t 34), none, false⟩,
  ⟨some 36, .mv (.t 5), (some (35, true)), false⟩,
  ⟨some 37, .bin .eql (.t 36) (.v (.int .i64 0)), (some (35, true)), false⟩,
  ⟨some 38, .pick (.t 35) (.t 37) (.v (.bool false)), none, false⟩,
  ⟨some 39, .mv (.t 38), none, false⟩,
  ⟨some 40, .mv (.t 7), (some (39, true)), false⟩,
  ⟨some 41, .bin .eql (.t 40) (.v (.int .i64 0)), (some (39, true)), false⟩,
  ⟨some 42, .pick (.t 39) (.t 41) (.v (.bool false)), none, false⟩,
  ⟨some 43, .mv (.t 42), none, false⟩,
  ⟨some 44, .load (some 2) (.t 6), (some (43, true)), false⟩,
  ⟨some 45, .build [(.int .i64 0), (.int .i64 0)] [(0, 1, (.v (.int .i64 2)))], (some (43, true)), false⟩,
  ⟨some 46, .eq false true [.int, .int] (.t 44) (.t 45), (some (43, true)), false⟩,
  ⟨some 47, .pick (.t 43) (.t 46) (.v (.bool false)), none, false⟩,
  ⟨some 0, .mv (.t 47), none, false⟩])
def s_law19_awake_p5 : SCode := (.seq (.region false [⟨some 0, .mv (.v (.bool false)), none, false⟩]) (.seq (.kp [1, 2] s_law19_awake_p0) (.seq s_law19_awake_p1 (.seq (.kp [1, 2, 3, 4, 5] s_law19_awake_p2) (.seq (.kp [2, 5, 6, 7] s_law19_awake_p3) (.seq (.kp [0] s_law19_awake_p4) .ret))))))
def s_law19_awake : SFn := ⟨0, [.t 0], s_law19_awake_p5⟩
def s_ref04_All_p0 : SCode := (.region true [⟨some 3, .mv (.t 0), none, true⟩,
  ⟨some 4, .nilck (.t 3), none, true⟩,
  ⟨some 5, .faddr 0 (.t 4), none, true⟩,
  ⟨some 6, .load none (.t 5), none, true⟩,
  ⟨some 7, .mv (.t 0), none, true⟩,
  ⟨some 8, .nilck (.t 7), none, true⟩,
  ⟨some 9, .faddr 1 (.t 8), none, true⟩,
  ⟨some 10, .load none (.t 9), none, true⟩,
  ⟨some 11, .build [(.int .i64 0), (.int .i64 0), (.int .i64 0), (.int .i64 0)] [(2, 1, (.t 6)), (3, 1, (.t 10))], none, false⟩,
  ⟨none, .store 4 [] (.t 2) (.t 11), none, false⟩])
def s_ref04_All : SFn := ⟨1, [.cell 2 (some 4)], (.seq (.region false [⟨some 2, .alloc true [(.int .i64 0), (.int .i64 0), (.int .i64 0), (.int .i64 0)], none, false⟩]) (.seq (.kp [2] s_ref04_All_p0) .ret))⟩
def s_ref04_At_p0 : SCode := (.region false [⟨some 7, .mv (.t 6), none, false⟩,
  ⟨some 8, .mv (.t 0), none, false⟩,
  ⟨some 9, .nilck (.t 8), none, false⟩,
  ⟨some 10, .faddr 3 (.t 9), none, false⟩,
  ⟨some 11, .load none (.t 10), none, false⟩,
  ⟨some 12, .len (.t 11), none, false⟩,
  ⟨some 13, .bin .lss (.t 7) (.t 12), none, false⟩])
def s_ref04_At_p1 : SCode := (.region true [⟨some 16, .mv (.t 0), none, true⟩,
  ⟨some 17, .nilck (.t 16), none, true⟩,
  ⟨some 18, .faddr 3 (.t 17), none, true⟩,
  ⟨some 19, .load none (.t 18), none, true⟩,
  ⟨some 20, .mv (.t 6), none, true⟩,
  ⟨some 21, .iaddr 5 (.t 19) (.t 20), none, true⟩,
  ⟨some 22, .faddr 1 (.t 21), none, true⟩,
  ⟨some 23, .load (some 4) (.t 22), none, true⟩,
  ⟨some 24, .load (some 2) (.t 3), none, true⟩,
  ⟨some 25, .call f_ref03_Has [(.t 23), (.t 24)], none, false⟩])
def s_ref04_At_p2 : SCode := (.region false [⟨some 26, .mv (.t 0), none, false⟩,
  ⟨some 27, .nilck (.t 26), none, false⟩,
  ⟨some 28, .faddr 3 (.t 27), none, false⟩,
  ⟨some 29, .load none (.t 28), none, false⟩,
  ⟨some 30, .mv (.t 6), none, false⟩,
  ⟨some 31, .iaddr 5 (.t 29) (.t 30), none, false⟩,
  ⟨some 32, .faddr 0 (.t 31), none, false⟩,
  ⟨some 33, .load none (.t 32), none, false⟩,
  ⟨some 4, .mv (.t 33), none, false⟩,
  ⟨some 5, .mv (.v (.bool true)), none, false⟩])
def s_ref04_At_p3 : SCode := (.seq (.kp [0, 3, 6] (.block 1 (.seq (.kp [0, 3, 6, 25] s_ref04_At_p1) (.cond (.t 25) (.seq (.kp [4, 5] s_ref04_At_p2) .ret) .skip)))) (.region false [⟨some 14, .mv (.t 6), none, false⟩,
  ⟨some 15, .bin .add (.t 14) (.v (.int .i64 1)), none, false⟩,
  ⟨some 6, .mv (.t 15), none, false⟩]))
def s_ref04_At_p4 : SCode := (.seq (.kp [0, 3, 6] (.seq (.kp [0, 3, 6, 13] s_ref04_At_p0) (.cond (.t 13) .skip (.exit 0)))) s_ref04_At_p3)
def s_ref04_At_p5 : SCode := (.seq (.kp [] (.seq (.kp [0, 3, 6] (.region false [⟨some 6, .mv (.v (.int .i64 0)), none, false⟩])) (.block 0 (.loop (some [0, 3, 6]) s_ref04_At_p4)))) (.seq (.region false [⟨some 4, .mv (.v (.int .i64 0)), none, false⟩,
  ⟨some 5, .mv (.v (.bool false)), none, false⟩]) .ret))
def s_ref04_At : SFn := ⟨2, [.t 4, .t 5], (.seq (.region false [⟨some 3, .box true 2 (.t 1), none, false⟩,
  ⟨some 4, .mv (.v (.int .i64 0)), none, false⟩,
  ⟨some 5, .mv (.v (.bool false)), none, false⟩]) s_ref04_At_p5)⟩
def s_ref04_Terrain_p0 : SCode := (.region true [⟨some 6, .mv (.t 0), none, true⟩,
  ⟨some 8, .load (some 2) (.t 3), none, true⟩,
  ⟨some 7, .call f_ref04_All [(.t 6)], none, true⟩,
  ⟨some 9, .call f_ref03_Has [(.t 7), (.t 8)], none, false⟩,
  ⟨some 10, .un .not (.t 9), none, false⟩])
def s_ref04_Terrain_p1 : SCode := (.kp [0, 3] (.seq (.kp [0, 3, 10] s_ref04_Terrain_p0) (.cond (.t 10) (.seq (.region false [⟨some 4, .mv (.v (.int .i64 0)), none, false⟩,
  ⟨some 5, .mv (.v (.bool false)), none, false⟩]) .ret) .skip)))
def s_ref04_Terrain_p2 : SCode := (.region true [⟨some 11, .mv (.t 0), none, true⟩,
  ⟨some 12, .nilck (.t 11), none, true⟩,
  ⟨some 13, .faddr 2 (.t 12), none, true⟩,
  ⟨some 14, .load none (.t 13), none, true⟩,
  ⟨some 15, .faddr 1 (.t 3), none, true⟩,
  ⟨some 16, .load none (.t 15), none, true⟩,
  ⟨some 17, .mv (.t 0), none, true⟩,
  ⟨some 18, .nilck (.t 17), none, true⟩,
  ⟨some 19, .faddr 0 (.t 18), none, true⟩,
  ⟨some 20, .load none (.t 19), none, true⟩,
  ⟨some 21, .bin .mul (.t 16) (.t 20), none, true⟩,
  ⟨some 22, .faddr 0 (.t 3), none, true⟩,
  ⟨some 23, .load none (.t 22), none, true⟩,
  ⟨some 24, .bin .add (.t 21) (.t 23), none, true⟩,
  ⟨some 25, .iaddr 1 (.t 14) (.t 24), none, false⟩,
  ⟨some 26, .load none (.t 25), none, false⟩,
  ⟨some 27, .conv .i64 (.t 26), none, false⟩,
  ⟨some 4, .mv (.t 27), none, false⟩,
  ⟨some 5, .mv (.v (.bool true)), none, false⟩])
def s_ref04_Terrain_p3 : SCode := (.seq (.region false [⟨some 3, .box true 2 (.t 1), none, false⟩,
  ⟨some 4, .mv (.v (.int .i64 0)), none, false⟩,
  ⟨some 5, .mv (.v (.bool false)), none, false⟩]) (.seq s_ref04_Terrain_p1 (.seq (.kp [4, 5] s_ref04_Terrain_p2) .ret)))
def s_ref04_Terrain : SFn := ⟨2, [.t 4, .t 5], s_ref04_Terrain_p3⟩
def s_ref06_May_p0 : SCode := (.region false [⟨some 3, .faddr 0 (.t 1), none, false⟩,
  ⟨some 4, .load none (.t 3), none, false⟩,
  ⟨some 5, .bin .geq (.t 4) (.v (.int .i64 0)), none, false⟩,
  ⟨some 6, .mv (.t 5), none, false⟩,
  ⟨some 7, .faddr 0 (.t 1), (some (6, true)), false⟩,
  ⟨some 8, .load none (.t 7), (some (6, true)), false⟩,
  ⟨some 9, .bin .lss (.t 8) (.v (.int .i64 4)), (some (6, true)), false⟩,
  ⟨some 10, .pick (.t 6) (.t 9) (.v (.bool false)), none, false⟩,
  ⟨some 11, .mv (.t 10), none, false⟩,
  ⟨some 12, .faddr 1 (.t 1), (some (11, true)), false⟩,
  ⟨some 13, .load none (.t 12), (some (11, true)), false⟩,
  ⟨some 14, .bin .geq (.t 13) (.v (.int .i64 1)), (some (11, true)), false⟩,
  ⟨some 15, .pick (.t 11) (.t 14) (.v (.bool false)), none, false⟩,
  ⟨some 16, .mv (.t 15), none, false⟩,
  ⟨some 17, .faddr 1 (.t 1), (some (16, true)), false⟩,
  ⟨some 18, .load none (.t 17), (some (16, true)), false⟩,
  ⟨some 19, .bin .leq (.t 18) (.v (.int .i64 4)), (some (16, true)), false⟩,
  ⟨some 20, .pick (.t 16) (.t 19) (.v (.bool false)), none, false⟩,
  ⟨some 2, .mv (.t 20), none, false⟩])
def s_ref06_May : SFn := ⟨1, [.t 2], (.seq (.region false [⟨some 1, .box true 2 (.t 0), none, false⟩,
  ⟨some 2, .mv (.v (.bool false)), none, false⟩]) (.seq (.kp [2] s_ref06_May_p0) .ret))⟩
def s_ref06_Foot_p0 : SCode := (.region false [⟨some 2, .box true 2 (.t 0), none, false⟩,
  ⟨some 3, .box true 2 (.t 1), none, false⟩,
  ⟨some 4, .alloc true [(.int .i64 0), (.int .i64 0), (.int .i64 0), (.int .i64 0)], none, false⟩])
def s_ref06_Foot_p1 : SCode := (.region false [⟨some 6, .load (some 2) (.t 3), none, false⟩,
  ⟨some 7, .faddr 1 (.t 2), none, false⟩,
  ⟨some 8, .load none (.t 7), none, false⟩,
  ⟨some 9, .faddr 1 (.t 2), none, false⟩,
  ⟨some 10, .load none (.t 9), none, false⟩,
  ⟨some 11, .build [(.int .i64 0), (.int .i64 0), (.int .i64 0), (.int .i64 0)] [(0, 2, (.t 6)), (2, 1, (.t 8)), (3, 1, (.t 10))], none, false⟩,
  ⟨some 5, .alloc true [(.int .i64 0), (.int .i64 0), (.int .i64 0), (.int .i64 0)], none, false⟩,
  ⟨none, .store 4 [] (.t 5) (.t 11), none, false⟩])
def s_ref06_Foot_p2 : SCode := (.region false [⟨some 12, .load (some 2) (.t 2), none, false⟩,
  ⟨some 13, .call f_ref06_May [(.t 12)], none, false⟩,
  ⟨some 14, .un .not (.t 13), none, false⟩,
  ⟨some 15, .mv (.t 14), none, false⟩,
  ⟨some 16, .load (some 4) (.t 5), (some (15, false)), false⟩,
  ⟨some 17, .call f_ref03_May [(.t 16)], (some (15, false)), false⟩,
  ⟨some 18, .un .not (.t 17), (some (15, false)), false⟩,
  ⟨some 19, .pick (.t 15) (.v (.bool true)) (.t 18), none, false⟩])
def s_ref06_Foot_p3 : SCode := (.cond (.t 19) (.seq (.region false [⟨some 20, .build [(.int .i64 0), (.int .i64 0), (.int .i64 0), (.int .i64 0)] [], none, false⟩,
  ⟨none, .store 4 [] (.t 4) (.t 20), none, false⟩]) .ret) .skip)
def s_ref06_Foot_p4 : SCode := (.seq (.kp [4, 5] (.seq (.kp [4, 5, 19] s_ref06_Foot_p2) s_ref06_Foot_p3)) (.seq (.region false [⟨some 21, .load (some 4) (.t 5), none, false⟩,
  ⟨none, .store 4 [] (.t 4) (.t 21), none, false⟩]) .ret))
def s_ref06_Foot : SFn := ⟨2, [.cell 4 (some 4)], (.seq s_ref06_Foot_p0 (.seq (.kp [2, 4, 5] s_ref06_Foot_p1) s_ref06_Foot_p4))⟩
def s_ref06_On_p0 : SCode := (.region false [⟨some 8, .mv (.t 1), none, false⟩,
  ⟨some 9, .bin .eql (.t 8) (.v (.int .i64 0)), none, false⟩,
  ⟨some 10, .mv (.t 9), none, false⟩,
  ⟨some 11, .mv (.t 1), (some (10, false)), false⟩,
  ⟨some 12, .bin .eql (.t 11) (.v (.int .i64 1)), (some (10, false)), false⟩,
  ⟨some 13, .pick (.t 10) (.v (.bool true)) (.t 12), none, false⟩,
  ⟨some 4, .mv (.t 13), none, false⟩])
def s_ref06_On_p1 : SCode := (.region false [⟨some 24, .mv (.t 1), none, false⟩,
  ⟨some 25, .bin .eql (.t 24) (.v (.int .i64 0)), none, false⟩,
  ⟨some 26, .mv (.t 25), none, false⟩,
  ⟨some 27, .mv (.t 1), (some (26, false)), false⟩,
  ⟨some 28, .bin .eql (.t 27) (.v (.int .i64 2)), (some (26, false)), false⟩,
  ⟨some 29, .pick (.t 26) (.v (.bool true)) (.t 28), none, false⟩,
  ⟨some 4, .mv (.t 29), none, false⟩])
def s_ref06_On_p2 : SCode := (.cond (.t 18) (.seq (.region false [⟨some 20, .mv (.t 1), none, false⟩,
  ⟨some 21, .bin .eql (.t 20) (.v (.int .i64 2)), none, false⟩,
  ⟨some 4, .mv (.t 21), none, false⟩]) .ret) (.seq (.region false [⟨some 23, .bin .eql (.t 5) (.v (.int .i64 3)), none, false⟩,
  ⟨some 22, .mv (.t 23), none, false⟩]) (.cond (.t 22) (.seq (.kp [4] s_ref06_On_p1) .ret) .skip)))
def s_ref06_On_p3 : SCode := (.cond (.t 14) (.seq (.region false [⟨some 16, .mv (.t 1), none, false⟩,
  ⟨some 17, .bin .eql (.t 16) (.v (.int .i64 0)), none, false⟩,
  ⟨some 4, .mv (.t 17), none, false⟩]) .ret) (.seq (.region false [⟨some 19, .bin .eql (.t 5) (.v (.int .i64 2)), none, false⟩,
  ⟨some 18, .mv (.t 19), none, false⟩]) s_ref06_On_p2))
def s_ref06_On_p4 : SCode := (.seq (.region false [⟨some 7, .bin .eql (.t 5) (.v (.int .i64 0)), none, false⟩,
  ⟨some 6, .mv (.t 7), none, false⟩]) (.cond (.t 6) (.seq (.kp [4] s_ref06_On_p0) .ret) (.seq (.region false [⟨some 15, .bin .eql (.t 5) (.v (.int .i64 1)), none, false⟩,
  ⟨some 14, .mv (.t 15), none, false⟩]) s_ref06_On_p3)))
def s_ref06_On_p5 : SCode := (.seq (.region false [⟨some 4, .mv (.v (.bool false)), none, false⟩]) (.seq (.kp [] (.seq (.region false [⟨some 5, .mv (.t 0), none, false⟩]) (.block 0 s_ref06_On_p4))) (.seq (.region false [⟨some 4, .mv (.v (.bool false)), none, false⟩]) .ret)))
def s_ref06_On : SFn := ⟨2, [.t 4], s_ref06_On_p5⟩
def s_ref06_Stands_p0 : SCode := (.region false [⟨some 14, .load (some 2) (.t 4), none, false⟩,
  ⟨some 15, .load (some 2) (.t 5), none, false⟩,
  ⟨some 16, .call f_ref06_Foot [(.t 14), (.t 15)], none, false⟩,
  ⟨some 7, .alloc true [(.int .i64 0), (.int .i64 0), (.int .i64 0), (.int .i64 0)], none, false⟩,
  ⟨none, .store 4 [] (.t 7) (.t 16), none, false⟩])
def s_ref06_Stands_p1 : SCode := (.region true [⟨some 17, .load (some 4) (.t 7), none, true⟩,
  ⟨some 18, .mv (.t 0), none, true⟩,
  ⟨some 19, .call f_ref04_All [(.t 18)], none, true⟩,
  ⟨some 20, .call f_ref03_Within [(.t 17), (.t 19)], none, false⟩,
  ⟨some 21, .un .not (.t 20), none, false⟩])
def s_ref06_Stands_p2 : SCode := (.region false [⟨some 22, .faddr 0 (.t 7), none, false⟩,
  ⟨some 23, .faddr 1 (.t 22), none, false⟩,
  ⟨some 24, .load none (.t 23), none, false⟩,
  ⟨some 8, .mv (.t 24), none, false⟩])
def s_ref06_Stands_p3 : SCode := (.region false [⟨some 25, .mv (.t 8), none, false⟩,
  ⟨some 26, .faddr 0 (.t 7), none, false⟩,
  ⟨some 27, .faddr 1 (.t 26), none, false⟩,
  ⟨some 28, .load none (.t 27), none, false⟩,
  ⟨some 29, .faddr 3 (.t 7), none, false⟩,
  ⟨some 30, .load none (.t 29), none, false⟩,
  ⟨some 31, .bin .add (.t 28) (.t 30), none, false⟩,
  ⟨some 32, .bin .lss (.t 25) (.t 31), none, false⟩])
def s_ref06_Stands_p4 : SCode := (.region false [⟨some 35, .faddr 0 (.t 7), none, false⟩,
  ⟨some 36, .faddr 0 (.t 35), none, false⟩,
  ⟨some 37, .load none (.t 36), none, false⟩,
  ⟨some 9, .mv (.t 37), none, false⟩])
def s_ref06_Stands_p5 : SCode := (.region false [⟨some 38, .mv (.t 9), none, false⟩,
  ⟨some 39, .faddr 0 (.t 7), none, false⟩,
  ⟨some 40, .faddr 0 (.t 39), none, false⟩,
  ⟨some 41, .load none (.t 40), none, false⟩,
  ⟨some 42, .faddr 2 (.t 7), none, false⟩,
  ⟨some 43, .load none (.t 42), none, false⟩,
  ⟨some 44, .bin .add (.t 41) (.t 43), none, false⟩,
  ⟨some 45, .bin .lss (.t 38) (.t 44), none, false⟩])
def s_ref06_Stands_p6 : SCode := (.region false [⟨some 49, .mv (.t 0), none, false⟩,
  ⟨some 50, .mv (.t 9), none, false⟩,
  ⟨some 51, .mv (.t 8), none, false⟩,
  ⟨some 52, .build [(.int .i64 0), (.int .i64 0)] [(0, 1, (.t 50)), (1, 1, (.t 51))], none, false⟩,
  ⟨some 53, .call f_ref04_Terrain [(.t 49), (.t 52)], none, false⟩,
  ⟨some 48, .mv (.t 53), none, false⟩,
  ⟨some 54, .ext (.t 48) 0, none, false⟩,
  ⟨some 55, .ext (.t 48) 1, none, false⟩,
  ⟨some 10, .mv (.t 54), none, false⟩,
  ⟨some 11, .mv (.t 55), none, false⟩])
def s_ref06_Stands_p7 : SCode := (.region false [⟨some 57, .mv (.t 0), none, false⟩,
  ⟨some 58, .mv (.t 9), none, false⟩,
  ⟨some 59, .mv (.t 8), none, false⟩,
  ⟨some 60, .build [(.int .i64 0), (.int .i64 0)] [(0, 1, (.t 58)), (1, 1, (.t 59))], none, false⟩,
  ⟨some 61, .call f_ref04_At [(.t 57), (.t 60)], none, false⟩,
  ⟨some 56, .mv (.t 61), none, false⟩,
  ⟨some 62, .ext (.t 56) 0, none, false⟩,
  ⟨some 63, .ext (.t 56) 1, none, false⟩,
  ⟨some 12, .mv (.t 62), none, false⟩,
  ⟨some 13, .mv (.t 63), none, false⟩])
def s_ref06_Stands_p8 : SCode := (.region false [⟨some 64, .mv (.t 13), none, false⟩,
  ⟨some 65, .mv (.t 64), none, false⟩,
  ⟨some 66, .faddr 0 (.t 4), (some (65, false)), false⟩,
  ⟨some 67, .load none (.t 66), (some (65, false)), false⟩,
  ⟨some 68, .mv (.t 10), (some (65, false)), false⟩,
  ⟨some 69, .call f_ref06_On [(.t 67), (.t 68)], (some (65, false)), false⟩,
  ⟨some 70, .un .not (.t 69), (some (65, false)), false⟩,
  ⟨some 71, .pick (.t 65) (.v (.bool true)) (.t 70), none, false⟩])
def s_ref06_Stands_p9 : SCode := (.seq (.kp [0, 4, 7, 8, 9, 10, 13] s_ref06_Stands_p7) (.seq (.kp [0, 4, 7, 8, 9, 71] s_ref06_Stands_p8) (.cond (.t 71) (.seq (.region false [⟨some 6, .mv (.v (.bool false)), none, false⟩]) .ret) .skip)))
def s_ref06_Stands_p10 : SCode := (.seq (.kp [0, 4, 7, 8, 9] (.block 3 (.seq (.kp [0, 4, 7, 8, 9, 10] s_ref06_Stands_p6) s_ref06_Stands_p9))) (.region false [⟨some 46, .mv (.t 9), none, false⟩,
  ⟨some 47, .bin .add (.t 46) (.v (.int .i64 1)), none, false⟩,
  ⟨some 9, .mv (.t 47), none, false⟩]))
def s_ref06_Stands_p11 : SCode := (.seq (.kp [0, 4, 7, 8, 9] (.seq (.kp [0, 4, 7, 8, 9, 45] s_ref06_Stands_p5) (.cond (.t 45) .skip (.exit 2)))) s_ref06_Stands_p10)
def s_ref06_Stands_p12 : SCode := (.seq (.kp [0, 4, 7, 8] (.block 1 (.seq (.kp [0, 4, 7, 8, 9] s_ref06_Stands_p4) (.block 2 (.loop (some [0, 4, 7, 8, 9]) s_ref06_Stands_p11))))) (.region false [⟨some 33, .mv (.t 8), none, false⟩,
  ⟨some 34, .bin .add (.t 33) (.v (.int .i64 1)), none, false⟩,
  ⟨some 8, .mv (.t 34), none, false⟩]))
def s_ref06_Stands_p13 : SCode := (.seq (.kp [0, 4, 7, 8] (.seq (.kp [0, 4, 7, 8, 32] s_ref06_Stands_p3) (.cond (.t 32) .skip (.exit 0)))) s_ref06_Stands_p12)
def s_ref06_Stands_p14 : SCode := (.seq (.kp [0, 4, 7] (.seq (.kp [0, 4, 7, 21] s_ref06_Stands_p1) (.cond (.t 21) (.seq (.region false [⟨some 6, .mv (.v (.bool false)), none, false⟩]) .ret) .skip))) (.seq (.kp [] (.seq (.kp [0, 4, 7, 8] s_ref06_Stands_p2) (.block 0 (.loop (some [0, 4, 7, 8]) s_ref06_Stands_p13)))) (.seq (.region false [⟨some 6, .mv (.v (.bool true)), none, false⟩]) .ret)))
def s_ref06_Stands_p15 : SCode := (.seq (.region false [⟨some 4, .box true 2 (.t 1), none, false⟩,
  ⟨some 5, .box true 2 (.t 2), none, false⟩,
  ⟨some 6, .mv (.v (.bool false)), none, false⟩]) (.seq (.kp [0, 4, 7] s_ref06_Stands_p0) s_ref06_Stands_p14))
def s_ref06_Stands : SFn := ⟨3, [.t 6], s_ref06_Stands_p15⟩
def s_ref08_Of_p0 : SCode := (.region false [⟨some 9, .mv (.t 0), none, false⟩,
  ⟨some 10, .call f_ref04_All [(.t 9)], none, false⟩,
  ⟨some 5, .alloc true [(.int .i64 0), (.int .i64 0), (.int .i64 0), (.int .i64 0)], none, false⟩,
  ⟨none, .store 4 [] (.t 5) (.t 10), none, false⟩])
def s_ref08_Of_p1 : SCode := (.region false [⟨some 11, .faddr 2 (.t 5), none, false⟩,
  ⟨some 12, .load none (.t 11), none, false⟩,
  ⟨some 13, .faddr 3 (.t 5), none, false⟩,
  ⟨some 14, .load none (.t 13), none, false⟩,
  ⟨some 15, .build [(.int .i64 0), (.int .i64 0), .nils] [(0, 1, (.t 12)), (1, 1, (.t 14))], none, false⟩,
  ⟨some 6, .alloc true [(.int .i64 0), (.int .i64 0), .nils], none, false⟩,
  ⟨none, .store 3 [] (.t 6) (.t 15), none, false⟩])
def s_ref08_Of_p2 : SCode := (.region false [⟨some 16, .mv (.t 7), none, false⟩,
  ⟨some 17, .faddr 1 (.t 6), none, false⟩,
  ⟨some 18, .load none (.t 17), none, false⟩,
  ⟨some 19, .bin .lss (.t 16) (.t 18), none, false⟩])
def s_ref08_Of_p3 : SCode := (.region false [⟨some 22, .mv (.t 8), none, false⟩,
  ⟨some 23, .faddr 0 (.t 6), none, false⟩,
  ⟨some 24, .load none (.t 23), none, false⟩,
  ⟨some 25, .bin .lss (.t 22) (.t 24), none, false⟩])
def s_ref08_Of_p4 : SCode := (.region true [⟨some 28, .faddr 2 (.t 6), none, true⟩,
  ⟨some 29, .load none (.t 28), none, true⟩,
  ⟨some 30, .mv (.t 0), none, true⟩,
  ⟨some 31, .load (some 2) (.t 3), none, true⟩,
  ⟨some 32, .mv (.t 8), none, true⟩,
  ⟨some 33, .mv (.t 7), none, true⟩,
  ⟨some 34, .build [(.int .i64 0), (.int .i64 0)] [(0, 1, (.t 32)), (1, 1, (.t 33))], none, true⟩,
  ⟨some 35, .call f_ref06_Stands [(.t 30), (.t 31), (.t 34)], none, true⟩,
  ⟨some 36, .bslice [(.bool false)] 1 1 [(0, 1, (.t 35))], none, true⟩,
  ⟨some 37, .append 1 1 [(.bool false)] [] (.t 29) (.t 36), none, false⟩,
  ⟨some 38, .faddr 2 (.t 6), none, false⟩,
  ⟨none, .store 1 [] (.t 38) (.t 37), none, false⟩])
def s_ref08_Of_p5 : SCode := (.seq (.kp [0, 3, 4, 6, 7, 8] (.block 3 s_ref08_Of_p4)) (.region false [⟨some 26, .mv (.t 8), none, false⟩,
  ⟨some 27, .bin .add (.t 26) (.v (.int .i64 1)), none, false⟩,
  ⟨some 8, .mv (.t 27), none, false⟩]))
def s_ref08_Of_p6 : SCode := (.seq (.kp [0, 3, 4, 6, 7, 8] (.seq s_ref08_Of_p3 (.cond (.t 25) .skip (.exit 2)))) s_ref08_Of_p5)
def s_ref08_Of_p7 : SCode := (.seq (.kp [0, 3, 4, 6, 7] (.block 1 (.seq (.kp [0, 3, 4, 6, 7, 8] (.region false [⟨some 8, .mv (.v (.int .i64 0)), none, false⟩])) (.block 2 (.loop (some [0, 3, 4, 6, 7, 8]) s_ref08_Of_p6))))) (.region false [⟨some 20, .mv (.t 7), none, false⟩,
  ⟨some 21, .bin .add (.t 20) (.v (.int .i64 1)), none, false⟩,
  ⟨some 7, .mv (.t 21), none, false⟩]))
def s_ref08_Of_p8 : SCode := (.seq (.kp [0, 3, 4, 6, 7] (.seq s_ref08_Of_p2 (.cond (.t 19) .skip (.exit 0)))) s_ref08_Of_p7)
def s_ref08_Of_p9 : SCode := (.seq (.kp [4, 6] (.seq (.kp [0, 3, 4, 6, 7] (.region false [⟨some 7, .mv (.v (.int .i64 0)), none, false⟩])) (.block 0 (.loop (some [0, 3, 4, 6, 7]) s_ref08_Of_p8)))) (.seq (.region false [⟨some 39, .load (some 3) (.t 6), none, false⟩,
  ⟨none, .store 3 [] (.t 4) (.t 39), none, false⟩]) .ret))
def s_ref08_Of_p10 : SCode := (.seq (.region false [⟨some 3, .box true 2 (.t 1), none, false⟩,
  ⟨some 4, .alloc true [(.int .i64 0), (.int .i64 0), .nils], none, false⟩]) (.seq s_ref08_Of_p0 (.seq (.kp [0, 3, 4, 6] s_ref08_Of_p1) s_ref08_Of_p9)))
def s_ref08_Of : SFn := ⟨2, [.cell 4 (some 3)], s_ref08_Of_p10⟩
def s_ref03_abs_p0 : SCode := (.seq (.region false [⟨some 3, .mv (.t 0), none, false⟩,
  ⟨some 4, .bin .lss (.t 3) (.v (.int .i64 0)), none, false⟩]) (.cond (.t 4) (.seq (.region false [⟨some 5, .mv (.t 0), none, false⟩,
  ⟨some 6, .un .neg (.t 5), none, false⟩,
  ⟨some 2, .mv (.t 6), none, false⟩]) .ret) .skip))
def s_ref03_abs_p1 : SCode := (.seq (.region false [⟨some 2, .mv (.v (.int .i64 0)), none, false⟩]) (.seq (.kp [0] s_ref03_abs_p0) (.seq (.region false [⟨some 7, .mv (.t 0), none, false⟩,
  ⟨some 2, .mv (.t 7), none, false⟩]) .ret)))
def s_ref03_abs : SFn := ⟨1, [.t 2], s_ref03_abs_p1⟩
def s_ref03_Octile_p0 : SCode := (.region false [⟨some 7, .load (some 2) (.t 2), none, false⟩,
  ⟨some 8, .call f_ref03_Near [(.t 7)], none, false⟩,
  ⟨some 9, .un .not (.t 8), none, false⟩,
  ⟨some 10, .mv (.t 9), none, false⟩,
  ⟨some 11, .load (some 2) (.t 3), (some (10, false)), false⟩,
  ⟨some 12, .call f_ref03_Near [(.t 11)], (some (10, false)), false⟩,
  ⟨some 13, .un .not (.t 12), (some (10, false)), false⟩,
  ⟨some 14, .pick (.t 10) (.v (.bool true)) (.t 13), none, false⟩])
def s_ref03_Octile_p1 : SCode := (.region true [⟨some 15, .faddr 0 (.t 2), none, true⟩,
  ⟨some 16, .load none (.t 15), none, true⟩,
  ⟨some 17, .faddr 0 (.t 3), none, true⟩,
  ⟨some 18, .load none (.t 17), none, true⟩,
  ⟨some 19, .bin .sub (.t 16) (.t 18), none, true⟩,
  ⟨some 21, .faddr 1 (.t 2), none, true⟩,
  ⟨some 22, .load none (.t 21), none, true⟩,
  ⟨some 23, .faddr 1 (.t 3), none, true⟩,
  ⟨some 24, .load none (.t 23), none, true⟩,
  ⟨some 25, .bin .sub (.t 22) (.t 24), none, true⟩,
  ⟨some 20, .call f_ref03_abs [(.t 19)], none, true⟩,
  ⟨some 26, .call f_ref03_abs [(.t 25)], none, false⟩,
  ⟨some 5, .mv (.t 20), none, false⟩,
  ⟨some 6, .mv (.t 26), none, false⟩])
def s_ref03_Octile_p2 : SCode := (.cond (.t 29) (.region false [⟨some 30, .mv (.t 6), none, false⟩,
  ⟨some 31, .mv (.t 5), none, false⟩,
  ⟨some 5, .mv (.t 30), none, false⟩,
  ⟨some 6, .mv (.t 31), none, false⟩]) .skip)
def s_ref03_Octile_p3 : SCode := (.region false [⟨some 32, .mv (.t 5), none, false⟩,
  ⟨some 33, .bin .mul (.v (.int .i64 14)) (.t 32), none, false⟩,
  ⟨some 34, .mv (.t 6), none, false⟩,
  ⟨some 35, .mv (.t 5), none, false⟩,
  ⟨some 36, .bin .sub (.t 34) (.t 35), none, false⟩,
  ⟨some 37, .bin .mul (.v (.int .i64 10)) (.t 36), none, false⟩,
  ⟨some 38, .bin .add (.t 33) (.t 37), none, false⟩,
  ⟨some 4, .mv (.t 38), none, false⟩])
def s_ref03_Octile_p4 : SCode := (.seq (.kp [5, 6] (.seq (.region false [⟨some 27, .mv (.t 5), none, false⟩,
  ⟨some 28, .mv (.t 6), none, false⟩,
  ⟨some 29, .bin .gtr (.t 27) (.t 28), none, false⟩]) s_ref03_Octile_p2)) (.seq (.kp [4] s_ref03_Octile_p3) .ret))
def s_ref03_Octile_p5 : SCode := (.seq (.kp [2, 3] (.seq (.kp [2, 3, 14] s_ref03_Octile_p0) (.cond (.t 14) (.seq (.region false [⟨some 4, .mv (.v (.int .i64 0)), none, false⟩]) .ret) .skip))) (.seq (.kp [5, 6] s_ref03_Octile_p1) s_ref03_Octile_p4))
def s_ref03_Octile : SFn := ⟨2, [.t 4], (.seq (.region false [⟨some 2, .box true 2 (.t 0), none, false⟩,
  ⟨some 3, .box true 2 (.t 1), none, false⟩,
  ⟨some 4, .mv (.v (.int .i64 0)), none, false⟩]) s_ref03_Octile_p5)⟩
def s_ref03_Turn_p0 : SCode := (.cond (.t 20) (.seq (.region false [⟨some 2, .mv (.v (.int .i64 1)), none, false⟩,
  ⟨some 3, .mv (.v (.int .i64 (-1))), none, false⟩,
  ⟨some 4, .mv (.v (.bool true)), none, false⟩]) .ret) .skip)
def s_ref03_Turn_p1 : SCode := (.cond (.t 18) (.seq (.region false [⟨some 2, .mv (.v (.int .i64 (-1))), none, false⟩,
  ⟨some 3, .mv (.v (.int .i64 (-1))), none, false⟩,
  ⟨some 4, .mv (.v (.bool true)), none, false⟩]) .ret) (.seq (.region false [⟨some 21, .bin .eql (.t 5) (.v (.int .i64 7)), none, false⟩,
  ⟨some 20, .mv (.t 21), none, false⟩]) s_ref03_Turn_p0))
def s_ref03_Turn_p2 : SCode := (.cond (.t 16) (.seq (.region false [⟨some 2, .mv (.v (.int .i64 (-1))), none, false⟩,
  ⟨some 3, .mv (.v (.int .i64 1)), none, false⟩,
  ⟨some 4, .mv (.v (.bool true)), none, false⟩]) .ret) (.seq (.region false [⟨some 19, .bin .eql (.t 5) (.v (.int .i64 6)), none, false⟩,
  ⟨some 18, .mv (.t 19), none, false⟩]) s_ref03_Turn_p1))
def s_ref03_Turn_p3 : SCode := (.cond (.t 14) (.seq (.region false [⟨some 2, .mv (.v (.int .i64 1)), none, false⟩,
  ⟨some 3, .mv (.v (.int .i64 1)), none, false⟩,
  ⟨some 4, .mv (.v (.bool true)), none, false⟩]) .ret) (.seq (.region false [⟨some 17, .bin .eql (.t 5) (.v (.int .i64 5)), none, false⟩,
  ⟨some 16, .mv (.t 17), none, false⟩]) s_ref03_Turn_p2))
def s_ref03_Turn_p4 : SCode := (.cond (.t 12) (.seq (.region false [⟨some 2, .mv (.v (.int .i64 0)), none, false⟩,
  ⟨some 3, .mv (.v (.int .i64 (-1))), none, false⟩,
  ⟨some 4, .mv (.v (.bool true)), none, false⟩]) .ret) (.seq (.region false [⟨some 15, .bin .eql (.t 5) (.v (.int .i64 4)), none, false⟩,
  ⟨some 14, .mv (.t 15), none, false⟩]) s_ref03_Turn_p3))
def s_ref03_Turn_p5 : SCode := (.cond (.t 10) (.seq (.region false [⟨some 2, .mv (.v (.int .i64 (-1))), none, false⟩,
  ⟨some 3, .mv (.v (.int .i64 0)), none, false⟩,
  ⟨some 4, .mv (.v (.bool true)), none, false⟩]) .ret) (.seq (.region false [⟨some 13, .bin .eql (.t 5) (.v (.int .i64 3)), none, false⟩,
  ⟨some 12, .mv (.t 13), none, false⟩]) s_ref03_Turn_p4))
def s_ref03_Turn_p6 : SCode := (.cond (.t 8) (.seq (.region false [⟨some 2, .mv (.v (.int .i64 0)), none, false⟩,
  ⟨some 3, .mv (.v (.int .i64 1)), none, false⟩,
  ⟨some 4, .mv (.v (.bool true)), none, false⟩]) .ret) (.seq (.region false [⟨some 11, .bin .eql (.t 5) (.v (.int .i64 2)), none, false⟩,
  ⟨some 10, .mv (.t 11), none, false⟩]) s_ref03_Turn_p5))
def s_ref03_Turn_p7 : SCode := (.cond (.t 6) (.seq (.region false [⟨some 2, .mv (.v (.int .i64 1)), none, false⟩,
  ⟨some 3, .mv (.v (.int .i64 0)), none, false⟩,
  ⟨some 4, .mv (.v (.bool true)), none, false⟩]) .ret) (.seq (.region false [⟨some 9, .bin .eql (.t 5) (.v (.int .i64 1)), none, false⟩,
  ⟨some 8, .mv (.t 9), none, false⟩]) s_ref03_Turn_p6))
def s_ref03_Turn_p8 : SCode := (.seq (.region false [⟨some 5, .mv (.t 0), none, false⟩]) (.block 0 (.seq (.region false [⟨some 7, .bin .eql (.t 5) (.v (.int .i64 0)), none, false⟩,
  ⟨some 6, .mv (.t 7), none, false⟩]) s_ref03_Turn_p7)))
def s_ref03_Turn_p9 : SCode := (.seq (.kp [] s_ref03_Turn_p8) (.seq (.region false [⟨some 2, .mv (.v (.int .i64 0)), none, false⟩,
  ⟨some 3, .mv (.v (.int .i64 0)), none, false⟩,
  ⟨some 4, .mv (.v (.bool false)), none, false⟩]) .ret))
def s_ref03_Turn : SFn := ⟨1, [.t 2, .t 3, .t 4], (.seq (.region false [⟨some 2, .mv (.v (.int .i64 0)), none, false⟩,
  ⟨some 3, .mv (.v (.int .i64 0)), none, false⟩,
  ⟨some 4, .mv (.v (.bool false)), none, false⟩]) s_ref03_Turn_p9)⟩
def s_ref03_Step_p0 : SCode := (.region false [⟨some 11, .mv (.t 1), none, false⟩,
  ⟨some 12, .call f_ref03_Turn [(.t 11)], none, false⟩,
  ⟨some 10, .mv (.t 12), none, false⟩,
  ⟨some 13, .ext (.t 10) 0, none, false⟩,
  ⟨some 14, .ext (.t 10) 1, none, false⟩,
  ⟨some 15, .ext (.t 10) 2, none, false⟩,
  ⟨some 6, .mv (.t 13), none, false⟩,
  ⟨some 7, .mv (.t 14), none, false⟩,
  ⟨some 8, .mv (.t 15), none, false⟩])
def s_ref03_Step_p1 : SCode := (.region false [⟨some 16, .mv (.t 8), none, false⟩,
  ⟨some 17, .un .not (.t 16), none, false⟩,
  ⟨some 18, .mv (.t 17), none, false⟩,
  ⟨some 19, .load (some 2) (.t 2), (some (18, false)), false⟩,
  ⟨some 20, .call f_ref03_Near [(.t 19)], (some (18, false)), false⟩,
  ⟨some 21, .un .not (.t 20), (some (18, false)), false⟩,
  ⟨some 22, .pick (.t 18) (.v (.bool true)) (.t 21), none, false⟩])
def s_ref03_Step_p2 : SCode := (.region false [⟨some 23, .build [(.int .i64 0), (.int .i64 0)] [], none, false⟩,
  ⟨none, .store 2 [] (.t 4) (.t 23), none, false⟩,
  ⟨some 5, .mv (.v (.bool false)), none, false⟩])
def s_ref03_Step_p3 : SCode := (.region false [⟨some 24, .faddr 0 (.t 2), none, false⟩,
  ⟨some 25, .load none (.t 24), none, false⟩,
  ⟨some 26, .mv (.t 6), none, false⟩,
  ⟨some 27, .bin .add (.t 25) (.t 26), none, false⟩,
  ⟨some 28, .faddr 1 (.t 2), none, false⟩,
  ⟨some 29, .load none (.t 28), none, false⟩,
  ⟨some 30, .mv (.t 7), none, false⟩,
  ⟨some 31, .bin .add (.t 29) (.t 30), none, false⟩,
  ⟨some 32, .build [(.int .i64 0), (.int .i64 0)] [(0, 1, (.t 27)), (1, 1, (.t 31))], none, false⟩,
  ⟨some 9, .alloc true [(.int .i64 0), (.int .i64 0)], none, false⟩,
  ⟨none, .store 2 [] (.t 9) (.t 32), none, false⟩])
def s_ref03_Step_p4 : SCode := (.region false [⟨some 36, .build [(.int .i64 0), (.int .i64 0)] [], none, false⟩,
  ⟨none, .store 2 [] (.t 4) (.t 36), none, false⟩,
  ⟨some 5, .mv (.v (.bool false)), none, false⟩])
def s_ref03_Step_p5 : SCode := (.seq (.region false [⟨some 33, .load (some 2) (.t 9), none, false⟩,
  ⟨some 34, .call f_ref03_Near [(.t 33)], none, false⟩,
  ⟨some 35, .un .not (.t 34), none, false⟩]) (.cond (.t 35) (.seq s_ref03_Step_p4 .ret) .skip))
def s_ref03_Step_p6 : SCode := (.seq (.kp [4, 9] s_ref03_Step_p5) (.seq (.region false [⟨some 37, .load (some 2) (.t 9), none, false⟩,
  ⟨none, .store 2 [] (.t 4) (.t 37), none, false⟩,
  ⟨some 5, .mv (.v (.bool true)), none, false⟩]) .ret))
def s_ref03_Step_p7 : SCode := (.seq (.region false [⟨some 2, .box true 2 (.t 0), none, false⟩,
  ⟨some 4, .alloc true [(.int .i64 0), (.int .i64 0)], none, false⟩,
  ⟨some 5, .mv (.v (.bool false)), none, false⟩]) (.seq (.kp [2, 4, 6, 7, 8] s_ref03_Step_p0) (.seq (.kp [2, 4, 6, 7] (.seq (.kp [2, 4, 6, 7, 22] s_ref03_Step_p1) (.cond (.t 22) (.seq s_ref03_Step_p2 .ret) .skip))) (.seq (.kp [4, 9] s_ref03_Step_p3) s_ref03_Step_p6))))
def s_ref03_Step : SFn := ⟨2, [.cell 4 (some 2), .t 5], s_ref03_Step_p7⟩
def s_ref03_Sides_p0 : SCode := (.region false [⟨some 2, .box true 2 (.t 0), none, false⟩,
  ⟨some 4, .alloc true [(.int .i64 0), (.int .i64 0)], none, false⟩,
  ⟨some 5, .alloc true [(.int .i64 0), (.int .i64 0)], none, false⟩,
  ⟨some 6, .mv (.v (.bool false)), none, false⟩])
def s_ref03_Sides_p1 : SCode := (.region false [⟨some 13, .load (some 2) (.t 2), none, false⟩,
  ⟨some 14, .mv (.t 1), none, false⟩,
  ⟨some 15, .call f_ref03_Step [(.t 13), (.t 14)], none, false⟩,
  ⟨some 12, .mv (.t 15), none, false⟩,
  ⟨some 16, .ext (.t 12) 0, none, false⟩,
  ⟨some 17, .ext (.t 12) 1, none, false⟩,
  ⟨some 7, .alloc true [(.int .i64 0), (.int .i64 0)], none, false⟩,
  ⟨none, .store 2 [] (.t 7) (.t 16), none, false⟩,
  ⟨some 8, .mv (.t 17), none, false⟩])
def s_ref03_Sides_p2 : SCode := (.region false [⟨some 18, .mv (.t 8), none, false⟩,
  ⟨some 19, .un .not (.t 18), none, false⟩,
  ⟨some 20, .mv (.t 19), none, false⟩,
  ⟨some 21, .mv (.t 1), (some (20, false)), false⟩,
  ⟨some 22, .bin .lss (.t 21) (.v (.int .i64 4)), (some (20, false)), false⟩,
  ⟨some 23, .pick (.t 20) (.v (.bool true)) (.t 22), none, false⟩])
def s_ref03_Sides_p3 : SCode := (.region true [⟨some 24, .load (some 2) (.t 4), none, true⟩,
  ⟨some 25, .load (some 2) (.t 5), none, true⟩,
  ⟨none, .store 2 [(.t 5)] (.t 4) (.t 24), none, false⟩,
  ⟨none, .store 2 [] (.t 5) (.t 25), none, false⟩,
  ⟨some 6, .mv (.v (.bool false)), none, false⟩])
def s_ref03_Sides_p4 : SCode := (.region false [⟨some 27, .mv (.t 1), none, false⟩,
  ⟨some 28, .call f_ref03_Turn [(.t 27)], none, false⟩,
  ⟨some 26, .mv (.t 28), none, false⟩,
  ⟨some 29, .ext (.t 26) 0, none, false⟩,
  ⟨some 30, .ext (.t 26) 1, none, false⟩,
  ⟨some 31, .ext (.t 26) 2, none, false⟩,
  ⟨some 9, .mv (.t 29), none, false⟩,
  ⟨some 10, .mv (.t 30), none, false⟩,
  ⟨some 11, .mv (.t 31), none, false⟩])
def s_ref03_Sides_p5 : SCode := (.region true [⟨some 32, .faddr 0 (.t 2), none, true⟩,
  ⟨some 33, .load none (.t 32), none, true⟩,
  ⟨some 34, .mv (.t 9), none, true⟩,
  ⟨some 35, .bin .add (.t 33) (.t 34), none, true⟩,
  ⟨some 36, .faddr 1 (.t 2), none, true⟩,
  ⟨some 37, .load none (.t 36), none, true⟩,
  ⟨some 38, .build [(.int .i64 0), (.int .i64 0)] [(0, 1, (.t 35)), (1, 1, (.t 37))], none, true⟩,
  ⟨some 39, .faddr 0 (.t 2), none, true⟩,
  ⟨some 40, .load none (.t 39), none, true⟩,
  ⟨some 41, .faddr 1 (.t 2), none, true⟩,
  ⟨some 42, .load none (.t 41), none, true⟩,
  ⟨some 43, .mv (.t 10), none, true⟩,
  ⟨some 44, .bin .add (.t 42) (.t 43), none, true⟩,
  ⟨some 45, .build [(.int .i64 0), (.int .i64 0)] [(0, 1, (.t 40)), (1, 1, (.t 44))], none, true⟩,
  ⟨none, .store 2 [(.t 39), (.t 41)] (.t 4) (.t 38), none, false⟩,
  ⟨none, .store 2 [] (.t 5) (.t 45), none, false⟩,
  ⟨some 6, .mv (.v (.bool true)), none, false⟩])
def s_ref03_Sides_p6 : SCode := (.seq (.kp [1, 2, 4, 5] (.seq (.kp [1, 2, 4, 5, 23] s_ref03_Sides_p2) (.cond (.t 23) (.seq (.kp [4, 5, 6] s_ref03_Sides_p3) .ret) .skip))) (.seq (.kp [2, 4, 5, 9, 10] s_ref03_Sides_p4) (.seq (.kp [4, 5, 6] s_ref03_Sides_p5) .ret)))
def s_ref03_Sides : SFn := ⟨2, [.cell 4 (some 2), .cell 5 (some 2), .t 6], (.seq s_ref03_Sides_p0 (.seq (.kp [1, 2, 4, 5, 8] s_ref03_Sides_p1) s_ref03_Sides_p6))⟩
def s_ref08_Ground_Stands_p0 : SCode := (.region false [⟨some 5, .faddr 0 (.t 3), none, false⟩,
  ⟨some 6, .load none (.t 5), none, false⟩,
  ⟨some 7, .bin .geq (.t 6) (.v (.int .i64 0)), none, false⟩,
  ⟨some 8, .mv (.t 7), none, false⟩,
  ⟨some 9, .faddr 0 (.t 3), (some (8, true)), false⟩,
  ⟨some 10, .load none (.t 9), (some (8, true)), false⟩,
  ⟨some 11, .faddr 0 (.t 2), (some (8, true)), false⟩,
  ⟨some 12, .load none (.t 11), (some (8, true)), false⟩,
  ⟨some 13, .bin .lss (.t 10) (.t 12), (some (8, true)), false⟩,
  ⟨some 14, .pick (.t 8) (.t 13) (.v (.bool false)), none, false⟩,
  ⟨some 15, .mv (.t 14), none, false⟩,
  ⟨some 16, .faddr 1 (.t 3), (some (15, true)), false⟩,
  ⟨some 17, .load none (.t 16), (some (15, true)), false⟩,
  ⟨some 18, .bin .geq (.t 17) (.v (.int .i64 0)), (some (15, true)), false⟩,
  ⟨some 19, .pick (.t 15) (.t 18) (.v (.bool false)), none, false⟩,
  ⟨some 20, .mv (.t 19), none, false⟩,
  ⟨some 21, .faddr 1 (.t 3), (some (20, true)), false⟩,
  ⟨some 22, .load none (.t 21), (some (20, true)), false⟩,
  ⟨some 23, .faddr 1 (.t 2), (some (20, true)), false⟩,
  ⟨some 24, .load none (.t 23), (some (20, true)), false⟩,
  ⟨some 25, .bin .lss (.t 22) (.t 24), (some (20, true)), false⟩,
  ⟨some 26, .pick (.t 20) (.t 25) (.v (.bool false)), none, false⟩,
  ⟨some 27, .mv (.t 26), none, false⟩,
  ⟨some 28, .faddr 2 (.t 2), (some (27, true)), false⟩,
  ⟨some 29, .load none (.t 28), (some (27, true)), false⟩,
  ⟨some 30, .faddr 1 (.t 3), (some (27, true)), false⟩,
  ⟨some 31, .load none (.t 30), (some (27, true)), false⟩,
  ⟨some 32, .faddr 0 (.t 2), (some (27, true)), false⟩,
  ⟨some 33, .load none (.t 32), (some (27, true)), false⟩,
  ⟨some 34, .bin .mul (.t 31) (.t 33), (some (27, true)), false⟩,
  ⟨some 35, .faddr 0 (.t 3), (some (27, true)), false⟩,
  ⟨some 36, .load none (.t 35), (some (27, true)), false⟩,
  ⟨some 37, .bin .add (.t 34) (.t 36), (some (27, true)), false⟩,
  ⟨some 38, .iaddr 1 (.t 29) (.t 37), (some (27, true)), false⟩,
  ⟨some 39, .load none (.t 38), (some (27, true)), false⟩,
  ⟨some 40, .pick (.t 27) (.t 39) (.v (.bool false)), none, false⟩,
  ⟨some 4, .mv (.t 40), none, false⟩])
def s_ref08_Ground_Stands_p1 : SCode := (.seq (.region false [⟨some 2, .box true 3 (.t 0), none, false⟩,
  ⟨some 3, .box true 2 (.t 1), none, false⟩,
  ⟨some 4, .mv (.v (.bool false)), none, false⟩]) (.seq (.kp [4] s_ref08_Ground_Stands_p0) .ret))
def s_ref08_Ground_Stands : SFn := ⟨2, [.t 4], s_ref08_Ground_Stands_p1⟩
def s_ref08_Ground_Steps_p0 : SCode := (.region false [⟨some 3, .box true 3 (.t 0), none, false⟩,
  ⟨some 4, .box true 2 (.t 1), none, false⟩,
  ⟨some 6, .alloc true [(.int .i64 0), (.int .i64 0)], none, false⟩,
  ⟨some 7, .mv (.v (.bool false)), none, false⟩])
def s_ref08_Ground_Steps_p1 : SCode := (.region false [⟨some 14, .load (some 2) (.t 4), none, false⟩,
  ⟨some 15, .mv (.t 2), none, false⟩,
  ⟨some 16, .call f_ref03_Step [(.t 14), (.t 15)], none, false⟩,
  ⟨some 13, .mv (.t 16), none, false⟩,
  ⟨some 17, .ext (.t 13) 0, none, false⟩,
  ⟨some 18, .ext (.t 13) 1, none, false⟩,
  ⟨some 8, .alloc true [(.int .i64 0), (.int .i64 0)], none, false⟩,
  ⟨none, .store 2 [] (.t 8) (.t 17), none, false⟩,
  ⟨some 9, .mv (.t 18), none, false⟩])
def s_ref08_Ground_Steps_p2 : SCode := (.region false [⟨some 19, .mv (.t 9), none, false⟩,
  ⟨some 20, .un .not (.t 19), none, false⟩,
  ⟨some 21, .mv (.t 20), none, false⟩,
  ⟨some 22, .load (some 3) (.t 3), (some (21, false)), false⟩,
  ⟨some 23, .load (some 2) (.t 4), (some (21, false)), false⟩,
  ⟨some 24, .call f_ref08_Ground_Stands [(.t 22), (.t 23)], (some (21, false)), false⟩,
  ⟨some 25, .un .not (.t 24), (some (21, false)), false⟩,
  ⟨some 26, .pick (.t 21) (.v (.bool true)) (.t 25), none, false⟩,
  ⟨some 27, .mv (.t 26), none, false⟩,
  ⟨some 28, .load (some 3) (.t 3), (some (27, false)), false⟩,
  ⟨some 29, .load (some 2) (.t 8), (some (27, false)), false⟩,
  ⟨some 30, .call f_ref08_Ground_Stands [(.t 28), (.t 29)], (some (27, false)), false⟩,
  ⟨some 31, .un .not (.t 30), (some (27, false)), false⟩,
  ⟨some 32, .pick (.t 27) (.v (.bool true)) (.t 31), none, false⟩])
def s_ref08_Ground_Steps_p3 : SCode := (.region false [⟨some 33, .build [(.int .i64 0), (.int .i64 0)] [], none, false⟩,
  ⟨none, .store 2 [] (.t 6) (.t 33), none, false⟩,
  ⟨some 7, .mv (.v (.bool false)), none, false⟩])
def s_ref08_Ground_Steps_p4 : SCode := (.region false [⟨some 35, .load (some 2) (.t 4), none, false⟩,
  ⟨some 36, .mv (.t 2), none, false⟩,
  ⟨some 37, .call f_ref03_Sides [(.t 35), (.t 36)], none, false⟩,
  ⟨some 34, .mv (.t 37), none, false⟩,
  ⟨some 38, .ext (.t 34) 0, none, false⟩,
  ⟨some 39, .ext (.t 34) 1, none, false⟩,
  ⟨some 40, .ext (.t 34) 2, none, false⟩,
  ⟨some 10, .alloc true [(.int .i64 0), (.int .i64 0)], none, false⟩,
  ⟨some 11, .alloc true [(.int .i64 0), (.int .i64 0)], none, false⟩,
  ⟨none, .store 2 [] (.t 10) (.t 38), none, false⟩,
  ⟨none, .store 2 [] (.t 11) (.t 39), none, false⟩,
  ⟨some 12, .mv (.t 40), none, false⟩])
def s_ref08_Ground_Steps_p5 : SCode := (.region false [⟨some 41, .mv (.t 12), none, false⟩,
  ⟨some 42, .mv (.t 41), none, false⟩,
  ⟨some 43, .load (some 3) (.t 3), (some (42, true)), false⟩,
  ⟨some 44, .load (some 2) (.t 10), (some (42, true)), false⟩,
  ⟨some 45, .call f_ref08_Ground_Stands [(.t 43), (.t 44)], (some (42, true)), false⟩,
  ⟨some 46, .un .not (.t 45), (some (42, true)), false⟩,
  ⟨some 47, .mv (.t 46), (some (42, true)), false⟩,
  ⟨some 48, .load (some 3) (.t 3), (some (47, false)), false⟩,
  ⟨some 49, .load (some 2) (.t 11), (some (47, false)), false⟩,
  ⟨some 50, .call f_ref08_Ground_Stands [(.t 48), (.t 49)], (some (47, false)), false⟩,
  ⟨some 51, .un .not (.t 50), (some (47, false)), false⟩,
  ⟨some 52, .pick (.t 47) (.v (.bool true)) (.t 51), (some (42, true)), false⟩,
  ⟨some 53, .pick (.t 42) (.t 52) (.v (.bool false)), none, false⟩])
def s_ref08_Ground_Steps_p6 : SCode := (.region false [⟨some 54, .build [(.int .i64 0), (.int .i64 0)] [], none, false⟩,
  ⟨none, .store 2 [] (.t 6) (.t 54), none, false⟩,
  ⟨some 7, .mv (.v (.bool false)), none, false⟩])
def s_ref08_Ground_Steps_p7 : SCode := (.seq (.kp [6, 8] (.seq (.kp [6, 8, 53] s_ref08_Ground_Steps_p5) (.cond (.t 53) (.seq s_ref08_Ground_Steps_p6 .ret) .skip))) (.seq (.region false [⟨some 55, .load (some 2) (.t 8), none, false⟩,
  ⟨none, .store 2 [] (.t 6) (.t 55), none, false⟩,
  ⟨some 7, .mv (.v (.bool true)), none, false⟩]) .ret))
def s_ref08_Ground_Steps_p8 : SCode := (.seq (.kp [2, 3, 4, 6, 8, 9] s_ref08_Ground_Steps_p1) (.seq (.kp [2, 3, 4, 6, 8] (.seq (.kp [2, 3, 4, 6, 8, 32] s_ref08_Ground_Steps_p2) (.cond (.t 32) (.seq s_ref08_Ground_Steps_p3 .ret) .skip))) (.seq (.kp [3, 6, 8, 10, 11, 12] s_ref08_Ground_Steps_p4) s_ref08_Ground_Steps_p7)))
def s_ref08_Ground_Steps : SFn := ⟨3, [.cell 6 (some 2), .t 7], (.seq s_ref08_Ground_Steps_p0 s_ref08_Ground_Steps_p8)⟩
def s_ref08_Ground_Labels_p0 : SCode := (.region false [⟨some 11, .faddr 0 (.t 1), none, false⟩,
  ⟨some 12, .load none (.t 11), none, false⟩,
  ⟨some 13, .faddr 1 (.t 1), none, false⟩,
  ⟨some 14, .load none (.t 13), none, false⟩,
  ⟨some 15, .bin .mul (.t 12) (.t 14), none, false⟩,
  ⟨some 16, .mkslice [(.int .i64 0)] 8 (.t 15) (.t 15), none, false⟩,
  ⟨some 3, .mv (.t 16), none, false⟩])
def s_ref08_Ground_Labels_p1 : SCode := (.region false [⟨some 17, .mv (.t 5), none, false⟩,
  ⟨some 18, .mv (.t 3), none, false⟩,
  ⟨some 19, .len (.t 18), none, false⟩,
  ⟨some 20, .bin .lss (.t 17) (.t 19), none, false⟩])
def s_ref08_Ground_Labels_p2 : SCode := (.region false [⟨some 23, .faddr 2 (.t 1), none, false⟩,
  ⟨some 24, .load none (.t 23), none, false⟩,
  ⟨some 25, .mv (.t 5), none, false⟩,
  ⟨some 26, .iaddr 1 (.t 24) (.t 25), none, false⟩,
  ⟨some 27, .load none (.t 26), none, false⟩,
  ⟨some 28, .un .not (.t 27), none, false⟩,
  ⟨some 29, .mv (.t 28), none, false⟩,
  ⟨some 30, .mv (.t 3), (some (29, false)), false⟩,
  ⟨some 31, .mv (.t 5), (some (29, false)), false⟩,
  ⟨some 32, .iaddr 1 (.t 30) (.t 31), (some (29, false)), false⟩,
  ⟨some 33, .load none (.t 32), (some (29, false)), false⟩,
  ⟨some 34, .bin .gtr (.t 33) (.v (.int .i64 0)), (some (29, false)), false⟩,
  ⟨some 35, .pick (.t 29) (.v (.bool true)) (.t 34), none, false⟩])
def s_ref08_Ground_Labels_p3 : SCode := (.region false [⟨some 38, .mv (.t 3), none, false⟩,
  ⟨some 39, .mv (.t 5), none, false⟩,
  ⟨some 40, .mv (.t 4), none, false⟩,
  ⟨some 41, .iaddr 1 (.t 38) (.t 39), none, false⟩,
  ⟨none, .store 1 [] (.t 41) (.t 40), none, false⟩])
def s_ref08_Ground_Labels_p4 : SCode := (.region true [⟨some 42, .mv (.t 5), none, true⟩,
  ⟨some 43, .faddr 0 (.t 1), none, true⟩,
  ⟨some 44, .load none (.t 43), none, true⟩,
  ⟨some 45, .bin .rem (.t 42) (.t 44), none, true⟩,
  ⟨some 46, .mv (.t 5), none, true⟩,
  ⟨some 47, .faddr 0 (.t 1), none, true⟩,
  ⟨some 48, .load none (.t 47), none, true⟩,
  ⟨some 49, .bin .quo (.t 46) (.t 48), none, true⟩,
  ⟨some 50, .build [(.int .i64 0), (.int .i64 0)] [(0, 1, (.t 45)), (1, 1, (.t 49))], none, false⟩,
  ⟨some 51, .bslice [(.int .i64 0), (.int .i64 0)] 1 2 [(0, 2, (.t 50))], none, false⟩,
  ⟨some 6, .mv (.t 51), none, false⟩])
def s_ref08_Ground_Labels_p5 : SCode := (.seq (.region false [⟨some 52, .mv (.t 6), none, false⟩,
  ⟨some 53, .len (.t 52), none, false⟩,
  ⟨some 54, .bin .gtr (.t 53) (.v (.int .i64 0)), none, false⟩]) (.cond (.t 54) .skip (.exit 2)))
def s_ref08_Ground_Labels_p6 : SCode := (.region false [⟨some 55, .mv (.t 6), none, false⟩,
  ⟨some 56, .mv (.t 6), none, false⟩,
  ⟨some 57, .len (.t 56), none, false⟩,
  ⟨some 58, .bin .sub (.t 57) (.v (.int .i64 1)), none, false⟩,
  ⟨some 59, .iaddr 2 (.t 55) (.t 58), none, false⟩,
  ⟨some 60, .load (some 2) (.t 59), none, false⟩,
  ⟨some 7, .alloc true [(.int .i64 0), (.int .i64 0)], none, false⟩,
  ⟨none, .store 2 [] (.t 7) (.t 60), none, false⟩])
def s_ref08_Ground_Labels_p7 : SCode := (.region false [⟨some 61, .mv (.t 6), none, false⟩,
  ⟨some 62, .mv (.t 6), none, false⟩,
  ⟨some 63, .len (.t 62), none, false⟩,
  ⟨some 64, .bin .sub (.t 63) (.v (.int .i64 1)), none, false⟩,
  ⟨some 65, .slice 2 (.t 61) none (some (.t 64)) none, none, false⟩,
  ⟨some 6, .mv (.t 65), none, false⟩])
def s_ref08_Ground_Labels_p8 : SCode := (.kp [1, 3, 4, 5, 6, 7, 8] (.seq (.region false [⟨some 66, .mv (.t 8), none, false⟩,
  ⟨some 67, .bin .lss (.t 66) (.v (.int .i64 8)), none, false⟩]) (.cond (.t 67) .skip (.exit 4))))
def s_ref08_Ground_Labels_p9 : SCode := (.region false [⟨some 71, .load (some 3) (.t 1), none, false⟩,
  ⟨some 72, .load (some 2) (.t 7), none, false⟩,
  ⟨some 73, .mv (.t 8), none, false⟩,
  ⟨some 74, .call f_ref08_Ground_Steps [(.t 71), (.t 72), (.t 73)], none, false⟩,
  ⟨some 70, .mv (.t 74), none, false⟩,
  ⟨some 75, .ext (.t 70) 0, none, false⟩,
  ⟨some 76, .ext (.t 70) 1, none, false⟩,
  ⟨some 9, .alloc true [(.int .i64 0), (.int .i64 0)], none, false⟩,
  ⟨none, .store 2 [] (.t 9) (.t 75), none, false⟩,
  ⟨some 10, .mv (.t 76), none, false⟩])
def s_ref08_Ground_Labels_p10 : SCode := (.region false [⟨some 77, .mv (.t 10), none, false⟩,
  ⟨some 78, .mv (.t 77), none, false⟩,
  ⟨some 79, .mv (.t 3), (some (78, true)), false⟩,
  ⟨some 80, .faddr 1 (.t 9), (some (78, true)), false⟩,
  ⟨some 81, .load none (.t 80), (some (78, true)), false⟩,
  ⟨some 82, .faddr 0 (.t 1), (some (78, true)), false⟩,
  ⟨some 83, .load none (.t 82), (some (78, true)), false⟩,
  ⟨some 84, .bin .mul (.t 81) (.t 83), (some (78, true)), false⟩,
  ⟨some 85, .faddr 0 (.t 9), (some (78, true)), false⟩,
  ⟨some 86, .load none (.t 85), (some (78, true)), false⟩,
  ⟨some 87, .bin .add (.t 84) (.t 86), (some (78, true)), false⟩,
  ⟨some 88, .iaddr 1 (.t 79) (.t 87), (some (78, true)), false⟩,
  ⟨some 89, .load none (.t 88), (some (78, true)), false⟩,
  ⟨some 90, .bin .eql (.t 89) (.v (.int .i64 0)), (some (78, true)), false⟩,
  ⟨some 91, .pick (.t 78) (.t 90) (.v (.bool false)), none, false⟩])
def s_ref08_Ground_Labels_p11 : SCode := (.region false [⟨some 92, .mv (.t 3), none, false⟩,
  ⟨some 93, .faddr 1 (.t 9), none, false⟩,
  ⟨some 94, .load none (.t 93), none, false⟩,
  ⟨some 95, .faddr 0 (.t 1), none, false⟩,
  ⟨some 96, .load none (.t 95), none, false⟩,
  ⟨some 97, .bin .mul (.t 94) (.t 96), none, false⟩,
  ⟨some 98, .faddr 0 (.t 9), none, false⟩,
  ⟨some 99, .load none (.t 98), none, false⟩,
  ⟨some 100, .bin .add (.t 97) (.t 99), none, false⟩,
  ⟨some 101, .mv (.t 4), none, false⟩,
  ⟨some 102, .iaddr 1 (.t 92) (.t 100), none, false⟩,
  ⟨none, .store 1 [] (.t 102) (.t 101), none, false⟩])
def s_ref08_Ground_Labels_p12 : SCode := (.region false [⟨some 103, .mv (.t 6), none, false⟩,
  ⟨some 104, .load (some 2) (.t 9), none, false⟩,
  ⟨some 105, .bslice [(.int .i64 0), (.int .i64 0)] 1 2 [(0, 2, (.t 104))], none, false⟩,
  ⟨some 106, .append 2 16 [(.int .i64 0), (.int .i64 0)] [] (.t 103) (.t 105), none, false⟩,
  ⟨some 6, .mv (.t 106), none, false⟩])
def s_ref08_Ground_Labels_p13 : SCode := (.block 5 (.seq (.kp [1, 3, 4, 5, 6, 7, 8, 9, 10] s_ref08_Ground_Labels_p9) (.seq (.kp [1, 3, 4, 5, 6, 7, 8, 9, 91] s_ref08_Ground_Labels_p10) (.cond (.t 91) (.seq (.kp [1, 3, 4, 5, 6, 7, 8, 9] s_ref08_Ground_Labels_p11) s_ref08_Ground_Labels_p12) .skip))))
def s_ref08_Ground_Labels_p14 : SCode := (.seq (.kp [1, 3, 4, 5, 6, 7, 8] s_ref08_Ground_Labels_p13) (.region false [⟨some 68, .mv (.t 8), none, false⟩,
  ⟨some 69, .bin .add (.t 68) (.v (.int .i64 1)), none, false⟩,
  ⟨some 8, .mv (.t 69), none, false⟩]))
def s_ref08_Ground_Labels_p15 : SCode := (.seq s_ref08_Ground_Labels_p8 s_ref08_Ground_Labels_p14)
def s_ref08_Ground_Labels_p16 : SCode := (.seq (.kp [1, 3, 4, 5, 6, 7] s_ref08_Ground_Labels_p7) (.seq (.kp [1, 3, 4, 5, 6, 7, 8] (.region false [⟨some 8, .mv (.v (.int .i64 0)), none, false⟩])) (.block 4 (.loop (some [1, 3, 4, 5, 6, 7, 8]) s_ref08_Ground_Labels_p15))))
def s_ref08_Ground_Labels_p17 : SCode := (.seq (.kp [1, 3, 4, 5, 6] s_ref08_Ground_Labels_p5) (.block 3 (.seq (.kp [1, 3, 4, 5, 6, 7] s_ref08_Ground_Labels_p6) s_ref08_Ground_Labels_p16)))
def s_ref08_Ground_Labels_p18 : SCode := (.seq (.region false [⟨some 36, .mv (.t 4), none, false⟩,
  ⟨some 37, .bin .add (.t 36) (.v (.int .i64 1)), none, false⟩,
  ⟨some 4, .mv (.t 37), none, false⟩]) (.seq (.kp [1, 3, 4, 5] s_ref08_Ground_Labels_p3) (.seq (.kp [1, 3, 4, 5, 6] s_ref08_Ground_Labels_p4) (.block 2 (.loop (some [1, 3, 4, 5, 6]) s_ref08_Ground_Labels_p17)))))
def s_ref08_Ground_Labels_p19 : SCode := (.seq (.kp [1, 3, 4, 5] (.block 1 (.seq (.kp [1, 3, 4, 5] (.seq (.kp [1, 3, 4, 5, 35] s_ref08_Ground_Labels_p2) (.cond (.t 35) (.exit 1) .skip))) s_ref08_Ground_Labels_p18))) (.region false [⟨some 21, .mv (.t 5), none, false⟩,
  ⟨some 22, .bin .add (.t 21) (.v (.int .i64 1)), none, false⟩,
  ⟨some 5, .mv (.t 22), none, false⟩]))
def s_ref08_Ground_Labels_p20 : SCode := (.seq (.kp [1, 3, 4, 5] (.seq s_ref08_Ground_Labels_p1 (.cond (.t 20) .skip (.exit 0)))) s_ref08_Ground_Labels_p19)
def s_ref08_Ground_Labels_p21 : SCode := (.seq (.kp [3] (.seq (.kp [1, 3, 4, 5] (.region false [⟨some 5, .mv (.v (.int .i64 0)), none, false⟩])) (.block 0 (.loop (some [1, 3, 4, 5]) s_ref08_Ground_Labels_p20)))) (.seq (.region false [⟨some 107, .mv (.t 3), none, false⟩,
  ⟨some 2, .mv (.t 107), none, false⟩]) .ret))
def s_ref08_Ground_Labels_p22 : SCode := (.seq (.region false [⟨some 1, .box true 3 (.t 0), none, false⟩,
  ⟨some 2, .mv (.v .nils), none, false⟩]) (.seq (.kp [1, 3] s_ref08_Ground_Labels_p0) (.seq (.region false [⟨some 4, .mv (.v (.int .i64 0)), none, false⟩]) s_ref08_Ground_Labels_p21)))
def s_ref08_Ground_Labels : SFn := ⟨1, [.t 2], s_ref08_Ground_Labels_p22⟩
def s_ref19_joined_p0 : SCode := (.region false [⟨some 4, .box true 3 (.t 0), none, false⟩,
  ⟨some 6, .box true 2 (.t 2), none, false⟩,
  ⟨some 7, .box true 2 (.t 3), none, false⟩,
  ⟨some 8, .mv (.v (.bool false)), none, false⟩])
def s_ref19_joined_p1 : SCode := (.region true [⟨some 9, .load (some 3) (.t 4), none, true⟩,
  ⟨some 10, .load (some 2) (.t 6), none, true⟩,
  ⟨some 11, .call f_ref08_Ground_Stands [(.t 9), (.t 10)], none, false⟩,
  ⟨some 12, .mv (.t 11), none, false⟩,
  ⟨some 13, .load (some 3) (.t 4), (some (12, true)), true⟩,
  ⟨some 14, .load (some 2) (.t 7), (some (12, true)), true⟩,
  ⟨some 15, .call f_ref08_Ground_Stands [(.t 13), (.t 14)], (some (12, true)), false⟩,
  ⟨some 16, .pick (.t 12) (.t 15) (.v (.bool false)), none, false⟩,
  ⟨some 17, .mv (.t 16), none, false⟩,
  ⟨some 18, .mv (.t 1), (some (17, true)), true⟩,
  ⟨some 19, .faddr 1 (.t 6), (some (17, true)), true⟩,
  ⟨some 20, .load none (.t 19), (some (17, true)), true⟩,
  ⟨some 21, .faddr 0 (.t 4), (some (17, true)), true⟩,
  ⟨some 22, .load none (.t 21), (some (17, true)), true⟩,
  ⟨some 23, .bin .mul (.t 20) (.t 22), (some (17, true)), true⟩,
  ⟨some 24, .faddr 0 (.t 6), (some (17, true)), true⟩,
  ⟨some 25, .load none (.t 24), (some (17, true)), true⟩,
  ⟨some 26, .bin .add (.t 23) (.t 25), (some (17, true)), true⟩,
  ⟨some 27, .iaddr 1 (.t 18) (.t 26), (some (17, true)), true⟩,
  ⟨some 28, .load none (.t 27), (some (17, true)), true⟩,
  ⟨some 29, .mv (.t 1), (some (17, true)), true⟩,
  ⟨some 30, .faddr 1 (.t 7), (some (17, true)), true⟩,
  ⟨some 31, .load none (.t 30), (some (17, true)), true⟩,
  ⟨some 32, .faddr 0 (.t 4), (some (17, true)), true⟩,
  ⟨some 33, .load none (.t 32), (some (17, true)), true⟩,
  ⟨some 34, .bin .mul (.t 31) (.t 33), (some (17, true)), true⟩,
  ⟨some 35, .faddr 0 (.t 7), (some (17, true)), true⟩,
  ⟨some 36, .load none (.t 35), (some (17, true)), true⟩,
  ⟨some 37, .bin .add (.t 34) (.t 36), (some (17, true)), true⟩,
  ⟨some 38, .iaddr 1 (.t 29) (.t 37), (some (17, true)), true⟩,
  ⟨some 39, .load none (.t 38), (some (17, true)), true⟩,
  ⟨some 40, .bin .eql (.t 28) (.t 39), (some (17, true)), false⟩,
  ⟨some 41, .pick (.t 17) (.t 40) (.v (.bool false)), none, false⟩,
  ⟨some 8, .mv (.t 41), none, false⟩])
def s_ref19_joined : SFn := ⟨4, [.t 8], (.seq s_ref19_joined_p0 (.seq (.kp [8] s_ref19_joined_p1) .ret))⟩
def s_ref19_will_p0 : SCode := (.region false [⟨some 6, .box true 3 (.t 0), none, false⟩,
  ⟨some 8, .box true 2 (.t 2), none, false⟩,
  ⟨some 9, .box true 2 (.t 3), none, false⟩,
  ⟨some 10, .box true 2 (.t 4), none, false⟩,
  ⟨some 12, .mv (.v (.bool false)), none, false⟩])
def s_ref19_will_p1 : SCode := (.region false [⟨some 16, .load (some 3) (.t 6), none, false⟩,
  ⟨some 17, .mv (.t 1), none, false⟩,
  ⟨some 18, .load (some 2) (.t 9), none, false⟩,
  ⟨some 19, .load (some 2) (.t 10), none, false⟩,
  ⟨some 20, .call f_ref19_joined [(.t 16), (.t 17), (.t 18), (.t 19)], none, false⟩,
  ⟨some 21, .un .not (.t 20), none, false⟩])
def s_ref19_will_p2 : SCode := (.region false [⟨some 22, .mv (.t 13), none, false⟩,
  ⟨some 23, .mv (.t 5), none, false⟩,
  ⟨some 24, .len (.t 23), none, false⟩,
  ⟨some 25, .bin .lss (.t 22) (.t 24), none, false⟩])
def s_ref19_will_p3 : SCode := (.region true [⟨some 29, .load (some 2) (.t 8), none, true⟩,
  ⟨some 30, .load (some 2) (.t 10), none, true⟩,
  ⟨some 32, .mv (.t 5), none, true⟩,
  ⟨some 33, .mv (.t 13), none, true⟩,
  ⟨some 34, .iaddr 4 (.t 32) (.t 33), none, true⟩,
  ⟨some 35, .load (some 4) (.t 34), none, true⟩,
  ⟨some 31, .call f_ref06_Foot [(.t 29), (.t 30)], none, true⟩,
  ⟨some 36, .call f_ref03_Meet [(.t 31), (.t 35)], none, false⟩,
  ⟨some 28, .mv (.t 36), none, false⟩,
  ⟨some 37, .ext (.t 28) 0, none, false⟩,
  ⟨some 38, .ext (.t 28) 1, none, true⟩,
  ⟨some 14, .alloc true [(.int .i64 0), (.int .i64 0), (.int .i64 0), (.int .i64 0)], none, true⟩,
  ⟨none, .store 4 [] (.t 14) (.t 37), none, false⟩,
  ⟨some 15, .mv (.t 38), none, false⟩])
def s_ref19_will_p4 : SCode := (.seq (.kp [5, 8, 10, 13, 15] s_ref19_will_p3) (.seq (.region false [⟨some 39, .mv (.t 15), none, false⟩]) (.cond (.t 39) (.seq (.region false [⟨some 12, .mv (.v (.bool false)), none, false⟩]) .ret) .skip)))
def s_ref19_will_p5 : SCode := (.seq (.kp [5, 8, 10, 13] (.block 1 s_ref19_will_p4)) (.region false [⟨some 26, .mv (.t 13), none, false⟩,
  ⟨some 27, .bin .add (.t 26) (.v (.int .i64 1)), none, false⟩,
  ⟨some 13, .mv (.t 27), none, false⟩]))
def s_ref19_will_p6 : SCode := (.seq (.kp [5, 8, 10, 13] (.seq s_ref19_will_p2 (.cond (.t 25) .skip (.exit 0)))) s_ref19_will_p5)
def s_ref19_will_p7 : SCode := (.seq (.kp [] (.seq (.kp [5, 8, 10, 13] (.region false [⟨some 13, .mv (.v (.int .i64 0)), none, false⟩])) (.block 0 (.loop (some [5, 8, 10, 13]) s_ref19_will_p6)))) (.seq (.region false [⟨some 12, .mv (.v (.bool true)), none, false⟩]) .ret))
def s_ref19_will_p8 : SCode := (.seq (.kp [1, 5, 6, 8, 9, 10] s_ref19_will_p0) (.seq (.kp [5, 8, 10] (.seq (.kp [5, 8, 10, 21] s_ref19_will_p1) (.cond (.t 21) (.seq (.region false [⟨some 12, .mv (.v (.bool false)), none, false⟩]) .ret) .skip))) s_ref19_will_p7))
def s_ref19_will : SFn := ⟨6, [.t 12], s_ref19_will_p8⟩
def s_ref19_Nearest_p0 : SCode := (.region false [⟨some 5, .box true 3 (.t 0), none, false⟩,
  ⟨some 6, .box true 2 (.t 1), none, false⟩,
  ⟨some 7, .box true 2 (.t 2), none, false⟩,
  ⟨some 8, .box true 2 (.t 3), none, false⟩,
  ⟨some 10, .alloc true [(.int .i64 0), (.int .i64 0)], none, false⟩,
  ⟨some 11, .mv (.v (.int .i64 0)), none, false⟩])
def s_ref19_Nearest_p1 : SCode := (.region false [⟨some 18, .load (some 2) (.t 6), none, false⟩,
  ⟨some 19, .call f_ref06_May [(.t 18)], none, false⟩,
  ⟨some 20, .un .not (.t 19), none, false⟩,
  ⟨some 21, .mv (.t 20), none, false⟩,
  ⟨some 22, .load (some 2) (.t 8), (some (21, false)), false⟩,
  ⟨some 23, .call f_ref03_Near [(.t 22)], (some (21, false)), false⟩,
  ⟨some 24, .un .not (.t 23), (some (21, false)), false⟩,
  ⟨some 25, .pick (.t 21) (.v (.bool true)) (.t 24), none, false⟩])
def s_ref19_Nearest_p2 : SCode := (.region false [⟨some 26, .build [(.int .i64 0), (.int .i64 0)] [], none, false⟩,
  ⟨none, .store 2 [] (.t 10) (.t 26), none, false⟩,
  ⟨some 11, .mv (.v (.int .i64 1)), none, false⟩])
def s_ref19_Nearest_p3 : SCode := (.region false [⟨some 29, .build [(.int .i64 0), (.int .i64 0)] [], none, false⟩,
  ⟨some 13, .alloc true [(.int .i64 0), (.int .i64 0)], none, false⟩,
  ⟨none, .store 2 [] (.t 13) (.t 29), none, false⟩,
  ⟨some 14, .mv (.v (.bool false)), none, false⟩])
def s_ref19_Nearest_p4 : SCode := (.region false [⟨some 30, .mv (.t 15), none, false⟩,
  ⟨some 31, .faddr 1 (.t 5), none, false⟩,
  ⟨some 32, .load none (.t 31), none, false⟩,
  ⟨some 33, .bin .lss (.t 30) (.t 32), none, false⟩])
def s_ref19_Nearest_p5 : SCode := (.region false [⟨some 36, .mv (.t 16), none, false⟩,
  ⟨some 37, .faddr 0 (.t 5), none, false⟩,
  ⟨some 38, .load none (.t 37), none, false⟩,
  ⟨some 39, .bin .lss (.t 36) (.t 38), none, false⟩])
def s_ref19_Nearest_p6 : SCode := (.region false [⟨some 42, .mv (.t 16), none, false⟩,
  ⟨some 43, .mv (.t 15), none, false⟩,
  ⟨some 44, .build [(.int .i64 0), (.int .i64 0)] [(0, 1, (.t 42)), (1, 1, (.t 43))], none, false⟩,
  ⟨some 17, .alloc true [(.int .i64 0), (.int .i64 0)], none, false⟩,
  ⟨none, .store 2 [] (.t 17) (.t 44), none, false⟩])
def s_ref19_Nearest_p7 : SCode := (.region true [⟨some 45, .load (some 3) (.t 5), none, true⟩,
  ⟨some 46, .mv (.t 12), none, true⟩,
  ⟨some 47, .load (some 2) (.t 6), none, true⟩,
  ⟨some 48, .load (some 2) (.t 7), none, true⟩,
  ⟨some 49, .load (some 2) (.t 17), none, true⟩,
  ⟨some 50, .mv (.t 4), none, true⟩,
  ⟨some 51, .call f_ref19_will [(.t 45), (.t 46), (.t 47), (.t 48), (.t 49), (.t 50)], none, false⟩,
  ⟨some 52, .mv (.t 51), none, false⟩,
  ⟨some 53, .mv (.t 14), (some (52, true)), false⟩,
  ⟨some 54, .un .not (.t 53), (some (52, true)), false⟩,
  ⟨some 55, .mv (.t 54), (some (52, true)), false⟩,
  ⟨some 56, .load (some 2) (.t 8), (some (55, false)), true⟩,
  ⟨some 57, .load (some 2) (.t 17), (some (55, false)), true⟩,
  ⟨some 59, .load (some 2) (.t 8), (some (55, false)), true⟩,
  ⟨some 60, .load (some 2) (.t 13), (some (55, false)), true⟩,
  ⟨some 58, .call f_ref03_Octile [(.t 56), (.t 57)], (some (55, false)), true⟩,
  ⟨some 61, .call f_ref03_Octile [(.t 59), (.t 60)], (some (55, false)), false⟩,
  ⟨some 62, .bin .lss (.t 58) (.t 61), (some (55, false)), false⟩,
  ⟨some 63, .pick (.t 55) (.v (.bool true)) (.t 62), (some (52, true)), false⟩,
  ⟨some 64, .pick (.t 52) (.t 63) (.v (.bool false)), none, false⟩])
def s_ref19_Nearest_p8 : SCode := (.cond (.t 64) (.region false [⟨some 65, .load (some 2) (.t 17), none, false⟩,
  ⟨none, .store 2 [] (.t 13) (.t 65), none, false⟩,
  ⟨some 14, .mv (.v (.bool true)), none, false⟩]) .skip)
def s_ref19_Nearest_p9 : SCode := (.kp [4, 5, 6, 7, 8, 10, 12, 13, 14, 15, 16] (.block 3 (.seq (.kp [4, 5, 6, 7, 8, 10, 12, 13, 14, 15, 16, 17] s_ref19_Nearest_p6) (.seq (.kp [4, 5, 6, 7, 8, 10, 12, 13, 14, 15, 16, 17, 64] s_ref19_Nearest_p7) s_ref19_Nearest_p8))))
def s_ref19_Nearest_p10 : SCode := (.seq (.kp [4, 5, 6, 7, 8, 10, 12, 13, 14, 15, 16] (.seq s_ref19_Nearest_p5 (.cond (.t 39) .skip (.exit 2)))) (.seq s_ref19_Nearest_p9 (.region false [⟨some 40, .mv (.t 16), none, false⟩,
  ⟨some 41, .bin .add (.t 40) (.v (.int .i64 1)), none, false⟩,
  ⟨some 16, .mv (.t 41), none, false⟩])))
def s_ref19_Nearest_p11 : SCode := (.seq (.kp [4, 5, 6, 7, 8, 10, 12, 13, 14, 15, 16] (.region false [⟨some 16, .mv (.v (.int .i64 0)), none, false⟩])) (.block 2 (.loop (some [4, 5, 6, 7, 8, 10, 12, 13, 14, 15, 16]) s_ref19_Nearest_p10)))
def s_ref19_Nearest_p12 : SCode := (.seq (.kp [4, 5, 6, 7, 8, 10, 12, 13, 14, 15] (.block 1 s_ref19_Nearest_p11)) (.region false [⟨some 34, .mv (.t 15), none, false⟩,
  ⟨some 35, .bin .add (.t 34) (.v (.int .i64 1)), none, false⟩,
  ⟨some 15, .mv (.t 35), none, false⟩]))
def s_ref19_Nearest_p13 : SCode := (.seq (.kp [4, 5, 6, 7, 8, 10, 12, 13, 14, 15] (.seq s_ref19_Nearest_p4 (.cond (.t 33) .skip (.exit 0)))) s_ref19_Nearest_p12)
def s_ref19_Nearest_p14 : SCode := (.seq (.kp [4, 5, 6, 7, 8, 10, 12, 13, 14, 15] (.region false [⟨some 15, .mv (.v (.int .i64 0)), none, false⟩])) (.block 0 (.loop (some [4, 5, 6, 7, 8, 10, 12, 13, 14, 15]) s_ref19_Nearest_p13)))
def s_ref19_Nearest_p15 : SCode := (.region false [⟨some 68, .build [(.int .i64 0), (.int .i64 0)] [], none, false⟩,
  ⟨none, .store 2 [] (.t 10) (.t 68), none, false⟩,
  ⟨some 11, .mv (.v (.int .i64 4)), none, false⟩])
def s_ref19_Nearest_p16 : SCode := (.seq (.kp [10, 13] (.seq (.region false [⟨some 66, .mv (.t 14), none, false⟩,
  ⟨some 67, .un .not (.t 66), none, false⟩]) (.cond (.t 67) (.seq s_ref19_Nearest_p15 .ret) .skip))) (.seq (.region false [⟨some 69, .load (some 2) (.t 13), none, false⟩,
  ⟨none, .store 2 [] (.t 10) (.t 69), none, false⟩,
  ⟨some 11, .mv (.v (.int .i64 0)), none, false⟩]) .ret))
def s_ref19_Nearest_p17 : SCode := (.seq (.region false [⟨some 27, .load (some 3) (.t 5), none, false⟩,
  ⟨some 28, .call f_ref08_Ground_Labels [(.t 27)], none, false⟩,
  ⟨some 12, .mv (.t 28), none, false⟩]) (.seq s_ref19_Nearest_p3 (.seq (.kp [10, 13, 14] s_ref19_Nearest_p14) s_ref19_Nearest_p16)))
def s_ref19_Nearest : SFn := ⟨5, [.cell 10 (some 2), .t 11], (.seq (.kp [4, 5, 6, 7, 8, 10] s_ref19_Nearest_p0) (.seq (.kp [4, 5, 6, 7, 8, 10] (.seq (.kp [4, 5, 6, 7, 8, 10, 25] s_ref19_Nearest_p1) (.cond (.t 25) (.seq s_ref19_Nearest_p2 .ret) .skip))) s_ref19_Nearest_p17))⟩
def s_law19_SettleNearest_p0 : SCode := (.region false [⟨some 15, .load (some 4) (.t 2), none, false⟩,
  ⟨some 16, .call f_law06_Both [(.t 15)], none, false⟩,
  ⟨some 14, .mv (.t 16), none, false⟩,
  ⟨some 17, .ext (.t 14) 0, none, false⟩,
  ⟨some 18, .ext (.t 14) 1, none, false⟩,
  ⟨some 19, .ext (.t 14) 2, none, false⟩,
  ⟨some 5, .mv (.t 17), none, false⟩,
  ⟨some 6, .mv (.t 18), none, false⟩,
  ⟨some 7, .mv (.t 19), none, false⟩])
def s_law19_SettleNearest_p1 : SCode := (.region false [⟨some 21, .mv (.t 5), none, false⟩,
  ⟨some 22, .faddr 0 (.t 3), none, false⟩,
  ⟨some 23, .load (some 2) (.t 22), none, false⟩,
  ⟨some 24, .call f_parts_New [(.t 21), (.t 23)], none, false⟩,
  ⟨some 20, .mv (.t 24), none, false⟩,
  ⟨some 25, .ext (.t 20) 0, none, false⟩,
  ⟨some 26, .ext (.t 20) 1, none, false⟩,
  ⟨some 8, .mv (.t 25), none, false⟩,
  ⟨some 9, .mv (.t 26), none, false⟩])
def s_law19_SettleNearest_p2 : SCode := (.region false [⟨some 27, .mv (.t 7), none, false⟩,
  ⟨some 28, .un .not (.t 27), none, false⟩,
  ⟨some 29, .mv (.t 28), none, false⟩,
  ⟨some 30, .mv (.t 9), (some (29, false)), false⟩,
  ⟨some 31, .bin .neq (.t 30) (.v (.int .i64 0)), (some (29, false)), false⟩,
  ⟨some 32, .pick (.t 29) (.v (.bool true)) (.t 31), none, false⟩])
def s_law19_SettleNearest_p3 : SCode := (.kp [3, 5, 6, 8] (.seq (.kp [3, 5, 6, 8, 32] s_law19_SettleNearest_p2) (.cond (.t 32) (.seq (.region false [⟨some 33, .call f_law19_awake [], none, false⟩,
  ⟨some 4, .mv (.t 33), none, false⟩]) .ret) .skip)))
def s_law19_SettleNearest_p4 : SCode := (.region true [⟨some 35, .mv (.t 5), none, true⟩,
  ⟨some 36, .mv (.t 8), none, true⟩,
  ⟨some 37, .faddr 0 (.t 3), none, true⟩,
  ⟨some 38, .load (some 2) (.t 37), none, true⟩,
  ⟨some 39, .faddr 2 (.t 3), none, true⟩,
  ⟨some 40, .load (some 2) (.t 39), none, true⟩,
  ⟨some 41, .faddr 4 (.t 3), none, true⟩,
  ⟨some 42, .load (some 2) (.t 41), none, true⟩,
  ⟨some 44, .faddr 6 (.t 3), none, true⟩,
  ⟨some 45, .load none (.t 44), none, true⟩,
  ⟨some 43, .bslice [] 0 4 [], none, true⟩,
  ⟨some 46, .append 4 32 [(.int .i64 0), (.int .i64 0), (.int .i64 0), (.int .i64 0)] [(.t 37), (.t 39), (.t 41)] (.t 43) (.t 45), none, false⟩,
  ⟨some 47, .call f_settle_Nearest [(.t 35), (.t 36), (.t 38), (.t 40), (.t 42), (.t 46)], none, false⟩,
  ⟨some 34, .mv (.t 47), none, false⟩,
  ⟨some 48, .ext (.t 34) 0, none, false⟩,
  ⟨some 49, .ext (.t 34) 1, none, true⟩,
  ⟨some 10, .alloc true [(.int .i64 0), (.int .i64 0)], none, true⟩,
  ⟨none, .store 2 [] (.t 10) (.t 48), none, false⟩,
  ⟨some 11, .mv (.t 49), none, false⟩])
def s_law19_SettleNearest_p5 : SCode := (.region true [⟨some 51, .mv (.t 6), none, true⟩,
  ⟨some 52, .faddr 0 (.t 3), none, true⟩,
  ⟨some 53, .load (some 2) (.t 52), none, true⟩,
  ⟨some 55, .faddr 0 (.t 3), none, true⟩,
  ⟨some 56, .load (some 2) (.t 55), none, true⟩,
  ⟨some 57, .faddr 2 (.t 3), none, true⟩,
  ⟨some 58, .load (some 2) (.t 57), none, true⟩,
  ⟨some 59, .faddr 4 (.t 3), none, true⟩,
  ⟨some 60, .load (some 2) (.t 59), none, true⟩,
  ⟨some 61, .faddr 6 (.t 3), none, true⟩,
  ⟨some 62, .load none (.t 61), none, true⟩,
  ⟨some 54, .call f_ref08_Of [(.t 51), (.t 53)], none, true⟩,
  ⟨some 63, .call f_ref19_Nearest [(.t 54), (.t 56), (.t 58), (.t 60), (.t 62)], none, false⟩,
  ⟨some 50, .mv (.t 63), none, false⟩,
  ⟨some 64, .ext (.t 50) 0, none, false⟩,
  ⟨some 65, .ext (.t 50) 1, none, true⟩,
  ⟨some 12, .alloc true [(.int .i64 0), (.int .i64 0)], none, true⟩,
  ⟨none, .store 2 [] (.t 12) (.t 64), none, false⟩,
  ⟨some 13, .mv (.t 65), none, false⟩])
def s_law19_SettleNearest_p6 : SCode := (.region false [⟨some 66, .load (some 2) (.t 10), none, false⟩,
  ⟨some 67, .load (some 2) (.t 12), none, false⟩,
  ⟨some 68, .eq false true [.int, .int] (.t 66) (.t 67), none, false⟩,
  ⟨some 69, .mv (.t 68), none, false⟩,
  ⟨some 70, .mv (.t 11), (some (69, true)), false⟩,
  ⟨some 71, .mv (.t 13), (some (69, true)), false⟩,
  ⟨some 72, .bin .eql (.t 70) (.t 71), (some (69, true)), false⟩,
  ⟨some 73, .pick (.t 69) (.t 72) (.v (.bool false)), none, false⟩,
  ⟨some 74, .mv (.t 73), none, false⟩,
  ⟨some 75, .call f_law19_awake [], (some (74, true)), false⟩,
  ⟨some 76, .pick (.t 74) (.t 75) (.v (.bool false)), none, false⟩,
  ⟨some 4, .mv (.t 76), none, false⟩])
def s_law19_SettleNearest_p7 : SCode := (.seq (.kp [3, 5, 6, 7] s_law19_SettleNearest_p0) (.seq (.kp [3, 5, 6, 7, 8, 9] s_law19_SettleNearest_p1) (.seq s_law19_SettleNearest_p3 (.seq (.kp [3, 6, 10, 11] s_law19_SettleNearest_p4) (.seq (.kp [10, 11, 12, 13] s_law19_SettleNearest_p5) (.seq (.kp [4] s_law19_SettleNearest_p6) .ret))))))
def s_law19_SettleNearest : SFn := ⟨2, [.t 4], (.seq (.region false [⟨some 2, .box true 4 (.t 0), none, false⟩,
  ⟨some 3, .box true 7 (.t 1), none, false⟩,
  ⟨some 4, .mv (.v (.bool false)), none, false⟩]) s_law19_SettleNearest_p7)⟩
def tb : Tbl := fun f => match f with
  | 5 => some s_law19_SettleNearest
  | 11 => some s_law06_Both
  | 18 => some s_ref03_Within
  | 19 => some s_ref04_All
  | 20 => some s_ref03_Has
  | 21 => some s_ref08_Of
  | 23 => some s_parts_New
  | 24 => some s_law19_awake
  | 25 => some s_settle_Nearest
  | 26 => some s_ref19_Nearest
  | 27 => some s_settle_Will
  | 29 => some s_ref03_Octile
  | 31 => some s_ref06_May
  | 36 => some s_grid_New
  | 37 => some s_ref04_New
  | 38 => some s_cell_Has
  | 39 => some s_class_Stands
  | 42 => some s_cell_Octile
  | 44 => some s_ref03_Step
  | 45 => some s_cell_Within
  | 46 => some s_grid_World_All
  | 48 => some s_cell_Cells
  | 49 => some s_ref03_May
  | 50 => some s_ref03_Last
  | 51 => some s_ref06_Stands
  | 52 => some s_ref08_Ground_Stands
  | 53 => some s_ref08_Ground_Steps
  | 54 => some s_clear_New
  | 55 => some s_class_May
  | 56 => some s_parts_Parts_label
  | 57 => some s_cell_Near
  | 58 => some s_ref03_Near
  | 59 => some s_ref08_Ground_Labels
  | 60 => some s_ref19_will
  | 61 => some s_parts_Parts_Joined
  | 62 => some s_class_Foot
  | 63 => some s_slices_ContainsFunc_api_Rect_api_Rect
  | 64 => some s_settle_Will_1
  | 65 => some s_cell_Meet
  | 66 => some s_ref03_abs
  | 67 => some s_ref03_Meet
  | 70 => some s_slices_Clone_byte_byte
  | 71 => some s_grid_World_Place
  | 72 => some s_ref04_Check
  | 73 => some s_cell_May
  | 74 => some s_cell_last
  | 75 => some s_grid_World_Terrain
  | 76 => some s_grid_World_At
  | 77 => some s_class_On
  | 84 => some s_fixed_Octile
  | 85 => some s_ref03_Turn
  | 86 => some s_grid_World_is
  | 87 => some s_cell_Cells_1
  | 88 => some s_ref06_Foot
  | 89 => some s_ref04_Terrain
  | 90 => some s_ref04_At
  | 91 => some s_ref06_On
  | 92 => some s_ref03_Sides
  | 93 => some s_grid_World_Epoch
  | 94 => some s_clear_Field_reckon
  | 95 => some s_parts_Parts_stands
  | 96 => some s_parts_root
  | 97 => some s_cell_near
  | 98 => some s_ref03_near
  | 99 => some s_ref19_joined
  | 100 => some s_parts_Parts_At
  | 101 => some s_slices_IndexFunc_api_Rect_api_Rect
  | 102 => some s_cell_between
  | 103 => some s_grid_World_May
  | 104 => some s_ref04_MayBe
  | 105 => some s_ref04_share
  | 106 => some s_cell_side
  | 113 => some s_fixed_amount
  | 114 => some s_math_bits_Mul64
  | 116 => some s_fixed_signed
  | 117 => some s_clear_Field_tile
  | 118 => some s_clear_Field_At
  | 119 => some s_parts_Parts_is
  | 120 => some s_grid_may
  | _ => none
@[go_sem] def u_cell_near_p0 {F K fr m} := @RK_unf F K fr m _ _ s_cell_near_p0.eq_1
theorem t_cell_near : tb f_cell_near = some s_cell_near := rfl
@[go_sem] def u_cell_Near_p0 {F K fr m} := @RK_unf F K fr m _ _ s_cell_Near_p0.eq_1
theorem t_cell_Near : tb f_cell_Near = some s_cell_Near := rfl
@[go_sem] def u_cell_last_p0 {F K fr m} := @RK_unf F K fr m _ _ s_cell_last_p0.eq_1
theorem t_cell_last : tb f_cell_last = some s_cell_last := rfl
@[go_sem] def u_cell_side_p0 {F K fr m} := @RK_unf F K fr m _ _ s_cell_side_p0.eq_1
theorem t_cell_side : tb f_cell_side = some s_cell_side := rfl
@[go_sem] def u_cell_May_p0 {F K fr m} := @RK_unf F K fr m _ _ s_cell_May_p0.eq_1
theorem t_cell_May : tb f_cell_May = some s_cell_May := rfl
@[go_sem] def u_cell_Cells_1_p0 {F K fr m} := @RK_unf F K fr m _ _ s_cell_Cells_1_p0.eq_1
@[go_sem] def u_cell_Cells_1_p1 {F K fr m} := @RK_unf F K fr m _ _ s_cell_Cells_1_p1.eq_1
@[go_sem] def u_cell_Cells_1_p2 {F K fr m} := @RK_unf F K fr m _ _ s_cell_Cells_1_p2.eq_1
@[go_sem] def u_cell_Cells_1_p3 {F K fr m} := @RK_unf F K fr m _ _ s_cell_Cells_1_p3.eq_1
@[go_sem] def u_cell_Cells_1_p4 {F K fr m} := @RK_unf F K fr m _ _ s_cell_Cells_1_p4.eq_1
@[go_sem] def u_cell_Cells_1_p5 {F K fr m} := @RK_unf F K fr m _ _ s_cell_Cells_1_p5.eq_1
@[go_sem] def u_cell_Cells_1_p6 {F K fr m} := @RK_unf F K fr m _ _ s_cell_Cells_1_p6.eq_1
@[go_sem] def u_cell_Cells_1_p7 {F K fr m} := @RK_unf F K fr m _ _ s_cell_Cells_1_p7.eq_1
@[go_sem] def u_cell_Cells_1_p8 {F K fr m} := @RK_unf F K fr m _ _ s_cell_Cells_1_p8.eq_1
@[go_sem] def u_cell_Cells_1_p9 {F K fr m} := @RK_unf F K fr m _ _ s_cell_Cells_1_p9.eq_1
theorem t_cell_Cells_1 : tb f_cell_Cells_1 = some s_cell_Cells_1 := rfl
@[go_sem] def u_cell_Cells_p0 {F K fr m} := @RK_unf F K fr m _ _ s_cell_Cells_p0.eq_1
theorem t_cell_Cells : tb f_cell_Cells = some s_cell_Cells := rfl
@[go_sem] def u_grid_World_is_p0 {F K fr m} := @RK_unf F K fr m _ _ s_grid_World_is_p0.eq_1
theorem t_grid_World_is : tb f_grid_World_is = some s_grid_World_is := rfl
@[go_sem] def u_grid_World_All_p0 {F K fr m} := @RK_unf F K fr m _ _ s_grid_World_All_p0.eq_1
@[go_sem] def u_grid_World_All_p1 {F K fr m} := @RK_unf F K fr m _ _ s_grid_World_All_p1.eq_1
@[go_sem] def u_grid_World_All_p2 {F K fr m} := @RK_unf F K fr m _ _ s_grid_World_All_p2.eq_1
theorem t_grid_World_All : tb f_grid_World_All = some s_grid_World_All := rfl
@[go_sem] def u_cell_Has_p0 {F K fr m} := @RK_unf F K fr m _ _ s_cell_Has_p0.eq_1
@[go_sem] def u_cell_Has_p1 {F K fr m} := @RK_unf F K fr m _ _ s_cell_Has_p1.eq_1
@[go_sem] def u_cell_Has_p2 {F K fr m} := @RK_unf F K fr m _ _ s_cell_Has_p2.eq_1
@[go_sem] def u_cell_Has_p3 {F K fr m} := @RK_unf F K fr m _ _ s_cell_Has_p3.eq_1
theorem t_cell_Has : tb f_cell_Has = some s_cell_Has := rfl
@[go_sem] def u_cell_Within_p0 {F K fr m} := @RK_unf F K fr m _ _ s_cell_Within_p0.eq_1
@[go_sem] def u_cell_Within_p1 {F K fr m} := @RK_unf F K fr m _ _ s_cell_Within_p1.eq_1
theorem t_cell_Within : tb f_cell_Within = some s_cell_Within := rfl
@[go_sem] def u_grid_may_p0 {F K fr m} := @RK_unf F K fr m _ _ s_grid_may_p0.eq_1
@[go_sem] def u_grid_may_p1 {F K fr m} := @RK_unf F K fr m _ _ s_grid_may_p1.eq_1
theorem t_grid_may : tb f_grid_may = some s_grid_may := rfl
@[go_sem] def u_grid_World_May_p0 {F K fr m} := @RK_unf F K fr m _ _ s_grid_World_May_p0.eq_1
@[go_sem] def u_grid_World_May_p1 {F K fr m} := @RK_unf F K fr m _ _ s_grid_World_May_p1.eq_1
@[go_sem] def u_grid_World_May_p2 {F K fr m} := @RK_unf F K fr m _ _ s_grid_World_May_p2.eq_1
@[go_sem] def u_grid_World_May_p3 {F K fr m} := @RK_unf F K fr m _ _ s_grid_World_May_p3.eq_1
@[go_sem] def u_grid_World_May_p4 {F K fr m} := @RK_unf F K fr m _ _ s_grid_World_May_p4.eq_1
@[go_sem] def u_grid_World_May_p5 {F K fr m} := @RK_unf F K fr m _ _ s_grid_World_May_p5.eq_1
@[go_sem] def u_grid_World_May_p6 {F K fr m} := @RK_unf F K fr m _ _ s_grid_World_May_p6.eq_1
@[go_sem] def u_grid_World_May_p7 {F K fr m} := @RK_unf F K fr m _ _ s_grid_World_May_p7.eq_1
@[go_sem] def u_grid_World_May_p8 {F K fr m} := @RK_unf F K fr m _ _ s_grid_World_May_p8.eq_1
@[go_sem] def u_grid_World_May_p9 {F K fr m} := @RK_unf F K fr m _ _ s_grid_World_May_p9.eq_1
@[go_sem] def u_grid_World_May_p10 {F K fr m} := @RK_unf F K fr m _ _ s_grid_World_May_p10.eq_1
theorem t_grid_World_May : tb f_grid_World_May = some s_grid_World_May := rfl
@[go_sem] def u_grid_World_Place_p0 {F K fr m} := @RK_unf F K fr m _ _ s_grid_World_Place_p0.eq_1
@[go_sem] def u_grid_World_Place_p1 {F K fr m} := @RK_unf F K fr m _ _ s_grid_World_Place_p1.eq_1
@[go_sem] def u_grid_World_Place_p2 {F K fr m} := @RK_unf F K fr m _ _ s_grid_World_Place_p2.eq_1
@[go_sem] def u_grid_World_Place_p3 {F K fr m} := @RK_unf F K fr m _ _ s_grid_World_Place_p3.eq_1
@[go_sem] def u_grid_World_Place_p4 {F K fr m} := @RK_unf F K fr m _ _ s_grid_World_Place_p4.eq_1
@[go_sem] def u_grid_World_Place_p5 {F K fr m} := @RK_unf F K fr m _ _ s_grid_World_Place_p5.eq_1
@[go_sem] def u_grid_World_Place_p6 {F K fr m} := @RK_unf F K fr m _ _ s_grid_World_Place_p6.eq_1
@[go_sem] def u_grid_World_Place_p7 {F K fr m} := @RK_unf F K fr m _ _ s_grid_World_Place_p7.eq_1
@[go_sem] def u_grid_World_Place_p8 {F K fr m} := @RK_unf F K fr m _ _ s_grid_World_Place_p8.eq_1
theorem t_grid_World_Place : tb f_grid_World_Place = some s_grid_World_Place := rfl
@[go_sem] def u_slices_Clone_byte_byte_p0 {F K fr m} := @RK_unf F K fr m _ _ s_slices_Clone_byte_byte_p0.eq_1
@[go_sem] def u_slices_Clone_byte_byte_p1 {F K fr m} := @RK_unf F K fr m _ _ s_slices_Clone_byte_byte_p1.eq_1
theorem t_slices_Clone_byte_byte : tb f_slices_Clone_byte_byte = some s_slices_Clone_byte_byte := rfl
@[go_sem] def u_grid_New_p0 {F K fr m} := @RK_unf F K fr m _ _ s_grid_New_p0.eq_1
@[go_sem] def u_grid_New_p1 {F K fr m} := @RK_unf F K fr m _ _ s_grid_New_p1.eq_1
@[go_sem] def u_grid_New_p2 {F K fr m} := @RK_unf F K fr m _ _ s_grid_New_p2.eq_1
@[go_sem] def u_grid_New_p3 {F K fr m} := @RK_unf F K fr m _ _ s_grid_New_p3.eq_1
@[go_sem] def u_grid_New_p4 {F K fr m} := @RK_unf F K fr m _ _ s_grid_New_p4.eq_1
@[go_sem] def u_grid_New_p5 {F K fr m} := @RK_unf F K fr m _ _ s_grid_New_p5.eq_1
@[go_sem] def u_grid_New_p6 {F K fr m} := @RK_unf F K fr m _ _ s_grid_New_p6.eq_1
@[go_sem] def u_grid_New_p7 {F K fr m} := @RK_unf F K fr m _ _ s_grid_New_p7.eq_1
@[go_sem] def u_grid_New_p8 {F K fr m} := @RK_unf F K fr m _ _ s_grid_New_p8.eq_1
@[go_sem] def u_grid_New_p9 {F K fr m} := @RK_unf F K fr m _ _ s_grid_New_p9.eq_1
@[go_sem] def u_grid_New_p10 {F K fr m} := @RK_unf F K fr m _ _ s_grid_New_p10.eq_1
@[go_sem] def u_grid_New_p11 {F K fr m} := @RK_unf F K fr m _ _ s_grid_New_p11.eq_1
@[go_sem] def u_grid_New_p12 {F K fr m} := @RK_unf F K fr m _ _ s_grid_New_p12.eq_1
@[go_sem] def u_grid_New_p13 {F K fr m} := @RK_unf F K fr m _ _ s_grid_New_p13.eq_1
@[go_sem] def u_grid_New_p14 {F K fr m} := @RK_unf F K fr m _ _ s_grid_New_p14.eq_1
@[go_sem] def u_grid_New_p15 {F K fr m} := @RK_unf F K fr m _ _ s_grid_New_p15.eq_1
@[go_sem] def u_grid_New_p16 {F K fr m} := @RK_unf F K fr m _ _ s_grid_New_p16.eq_1
@[go_sem] def u_grid_New_p17 {F K fr m} := @RK_unf F K fr m _ _ s_grid_New_p17.eq_1
theorem t_grid_New : tb f_grid_New = some s_grid_New := rfl
@[go_sem] def u_ref03_Last_p0 {F K fr m} := @RK_unf F K fr m _ _ s_ref03_Last_p0.eq_1
theorem t_ref03_Last : tb f_ref03_Last = some s_ref03_Last := rfl
@[go_sem] def u_ref03_near_p0 {F K fr m} := @RK_unf F K fr m _ _ s_ref03_near_p0.eq_1
theorem t_ref03_near : tb f_ref03_near = some s_ref03_near := rfl
@[go_sem] def u_ref03_Near_p0 {F K fr m} := @RK_unf F K fr m _ _ s_ref03_Near_p0.eq_1
theorem t_ref03_Near : tb f_ref03_Near = some s_ref03_Near := rfl
@[go_sem] def u_ref03_May_p0 {F K fr m} := @RK_unf F K fr m _ _ s_ref03_May_p0.eq_1
theorem t_ref03_May : tb f_ref03_May = some s_ref03_May := rfl
@[go_sem] def u_ref03_Has_p0 {F K fr m} := @RK_unf F K fr m _ _ s_ref03_Has_p0.eq_1
@[go_sem] def u_ref03_Has_p1 {F K fr m} := @RK_unf F K fr m _ _ s_ref03_Has_p1.eq_1
theorem t_ref03_Has : tb f_ref03_Has = some s_ref03_Has := rfl
@[go_sem] def u_ref03_Within_p0 {F K fr m} := @RK_unf F K fr m _ _ s_ref03_Within_p0.eq_1
@[go_sem] def u_ref03_Within_p1 {F K fr m} := @RK_unf F K fr m _ _ s_ref03_Within_p1.eq_1
theorem t_ref03_Within : tb f_ref03_Within = some s_ref03_Within := rfl
@[go_sem] def u_ref04_MayBe_p0 {F K fr m} := @RK_unf F K fr m _ _ s_ref04_MayBe_p0.eq_1
@[go_sem] def u_ref04_MayBe_p1 {F K fr m} := @RK_unf F K fr m _ _ s_ref04_MayBe_p1.eq_1
theorem t_ref04_MayBe : tb f_ref04_MayBe = some s_ref04_MayBe := rfl
@[go_sem] def u_ref03_Meet_p0 {F K fr m} := @RK_unf F K fr m _ _ s_ref03_Meet_p0.eq_1
@[go_sem] def u_ref03_Meet_p1 {F K fr m} := @RK_unf F K fr m _ _ s_ref03_Meet_p1.eq_1
@[go_sem] def u_ref03_Meet_p2 {F K fr m} := @RK_unf F K fr m _ _ s_ref03_Meet_p2.eq_1
@[go_sem] def u_ref03_Meet_p3 {F K fr m} := @RK_unf F K fr m _ _ s_ref03_Meet_p3.eq_1
@[go_sem] def u_ref03_Meet_p4 {F K fr m} := @RK_unf F K fr m _ _ s_ref03_Meet_p4.eq_1
@[go_sem] def u_ref03_Meet_p5 {F K fr m} := @RK_unf F K fr m _ _ s_ref03_Meet_p5.eq_1
@[go_sem] def u_ref03_Meet_p6 {F K fr m} := @RK_unf F K fr m _ _ s_ref03_Meet_p6.eq_1
@[go_sem] def u_ref03_Meet_p7 {F K fr m} := @RK_unf F K fr m _ _ s_ref03_Meet_p7.eq_1
@[go_sem] def u_ref03_Meet_p8 {F K fr m} := @RK_unf F K fr m _ _ s_ref03_Meet_p8.eq_1
@[go_sem] def u_ref03_Meet_p9 {F K fr m} := @RK_unf F K fr m _ _ s_ref03_Meet_p9.eq_1
@[go_sem] def u_ref03_Meet_p10 {F K fr m} := @RK_unf F K fr m _ _ s_ref03_Meet_p10.eq_1
@[go_sem] def u_ref03_Meet_p11 {F K fr m} := @RK_unf F K fr m _ _ s_ref03_Meet_p11.eq_1
@[go_sem] def u_ref03_Meet_p12 {F K fr m} := @RK_unf F K fr m _ _ s_ref03_Meet_p12.eq_1
@[go_sem] def u_ref03_Meet_p13 {F K fr m} := @RK_unf F K fr m _ _ s_ref03_Meet_p13.eq_1
@[go_sem] def u_ref03_Meet_p14 {F K fr m} := @RK_unf F K fr m _ _ s_ref03_Meet_p14.eq_1
@[go_sem] def u_ref03_Meet_p15 {F K fr m} := @RK_unf F K fr m _ _ s_ref03_Meet_p15.eq_1
@[go_sem] def u_ref03_Meet_p16 {F K fr m} := @RK_unf F K fr m _ _ s_ref03_Meet_p16.eq_1
@[go_sem] def u_ref03_Meet_p17 {F K fr m} := @RK_unf F K fr m _ _ s_ref03_Meet_p17.eq_1
@[go_sem] def u_ref03_Meet_p18 {F K fr m} := @RK_unf F K fr m _ _ s_ref03_Meet_p18.eq_1
theorem t_ref03_Meet : tb f_ref03_Meet = some s_ref03_Meet := rfl
@[go_sem] def u_ref04_share_p0 {F K fr m} := @RK_unf F K fr m _ _ s_ref04_share_p0.eq_1
@[go_sem] def u_ref04_share_p1 {F K fr m} := @RK_unf F K fr m _ _ s_ref04_share_p1.eq_1
theorem t_ref04_share : tb f_ref04_share = some s_ref04_share := rfl
@[go_sem] def u_ref04_Check_p0 {F K fr m} := @RK_unf F K fr m _ _ s_ref04_Check_p0.eq_1
@[go_sem] def u_ref04_Check_p1 {F K fr m} := @RK_unf F K fr m _ _ s_ref04_Check_p1.eq_1
@[go_sem] def u_ref04_Check_p2 {F K fr m} := @RK_unf F K fr m _ _ s_ref04_Check_p2.eq_1
@[go_sem] def u_ref04_Check_p3 {F K fr m} := @RK_unf F K fr m _ _ s_ref04_Check_p3.eq_1
@[go_sem] def u_ref04_Check_p4 {F K fr m} := @RK_unf F K fr m _ _ s_ref04_Check_p4.eq_1
@[go_sem] def u_ref04_Check_p5 {F K fr m} := @RK_unf F K fr m _ _ s_ref04_Check_p5.eq_1
@[go_sem] def u_ref04_Check_p6 {F K fr m} := @RK_unf F K fr m _ _ s_ref04_Check_p6.eq_1
@[go_sem] def u_ref04_Check_p7 {F K fr m} := @RK_unf F K fr m _ _ s_ref04_Check_p7.eq_1
@[go_sem] def u_ref04_Check_p8 {F K fr m} := @RK_unf F K fr m _ _ s_ref04_Check_p8.eq_1
@[go_sem] def u_ref04_Check_p9 {F K fr m} := @RK_unf F K fr m _ _ s_ref04_Check_p9.eq_1
@[go_sem] def u_ref04_Check_p10 {F K fr m} := @RK_unf F K fr m _ _ s_ref04_Check_p10.eq_1
@[go_sem] def u_ref04_Check_p11 {F K fr m} := @RK_unf F K fr m _ _ s_ref04_Check_p11.eq_1
@[go_sem] def u_ref04_Check_p12 {F K fr m} := @RK_unf F K fr m _ _ s_ref04_Check_p12.eq_1
@[go_sem] def u_ref04_Check_p13 {F K fr m} := @RK_unf F K fr m _ _ s_ref04_Check_p13.eq_1
@[go_sem] def u_ref04_Check_p14 {F K fr m} := @RK_unf F K fr m _ _ s_ref04_Check_p14.eq_1
@[go_sem] def u_ref04_Check_p15 {F K fr m} := @RK_unf F K fr m _ _ s_ref04_Check_p15.eq_1
theorem t_ref04_Check : tb f_ref04_Check = some s_ref04_Check := rfl
@[go_sem] def u_ref04_New_p0 {F K fr m} := @RK_unf F K fr m _ _ s_ref04_New_p0.eq_1
@[go_sem] def u_ref04_New_p1 {F K fr m} := @RK_unf F K fr m _ _ s_ref04_New_p1.eq_1
@[go_sem] def u_ref04_New_p2 {F K fr m} := @RK_unf F K fr m _ _ s_ref04_New_p2.eq_1
@[go_sem] def u_ref04_New_p3 {F K fr m} := @RK_unf F K fr m _ _ s_ref04_New_p3.eq_1
@[go_sem] def u_ref04_New_p4 {F K fr m} := @RK_unf F K fr m _ _ s_ref04_New_p4.eq_1
@[go_sem] def u_ref04_New_p5 {F K fr m} := @RK_unf F K fr m _ _ s_ref04_New_p5.eq_1
theorem t_ref04_New : tb f_ref04_New = some s_ref04_New := rfl
@[go_sem] def u_law06_Both_p0 {F K fr m} := @RK_unf F K fr m _ _ s_law06_Both_p0.eq_1
@[go_sem] def u_law06_Both_p1 {F K fr m} := @RK_unf F K fr m _ _ s_law06_Both_p1.eq_1
@[go_sem] def u_law06_Both_p2 {F K fr m} := @RK_unf F K fr m _ _ s_law06_Both_p2.eq_1
@[go_sem] def u_law06_Both_p3 {F K fr m} := @RK_unf F K fr m _ _ s_law06_Both_p3.eq_1
theorem t_law06_Both : tb f_law06_Both = some s_law06_Both := rfl
@[go_sem] def u_class_May_p0 {F K fr m} := @RK_unf F K fr m _ _ s_class_May_p0.eq_1
theorem t_class_May : tb f_class_May = some s_class_May := rfl
@[go_sem] def u_clear_Field_At_p0 {F K fr m} := @RK_unf F K fr m _ _ s_clear_Field_At_p0.eq_1
@[go_sem] def u_clear_Field_At_p1 {F K fr m} := @RK_unf F K fr m _ _ s_clear_Field_At_p1.eq_1
@[go_sem] def u_clear_Field_At_p2 {F K fr m} := @RK_unf F K fr m _ _ s_clear_Field_At_p2.eq_1
theorem t_clear_Field_At : tb f_clear_Field_At = some s_clear_Field_At := rfl
@[go_sem] def u_class_Foot_p0 {F K fr m} := @RK_unf F K fr m _ _ s_class_Foot_p0.eq_1
@[go_sem] def u_class_Foot_p1 {F K fr m} := @RK_unf F K fr m _ _ s_class_Foot_p1.eq_1
@[go_sem] def u_class_Foot_p2 {F K fr m} := @RK_unf F K fr m _ _ s_class_Foot_p2.eq_1
@[go_sem] def u_class_Foot_p3 {F K fr m} := @RK_unf F K fr m _ _ s_class_Foot_p3.eq_1
@[go_sem] def u_class_Foot_p4 {F K fr m} := @RK_unf F K fr m _ _ s_class_Foot_p4.eq_1
theorem t_class_Foot : tb f_class_Foot = some s_class_Foot := rfl
@[go_sem] def u_class_On_p0 {F K fr m} := @RK_unf F K fr m _ _ s_class_On_p0.eq_1
@[go_sem] def u_class_On_p1 {F K fr m} := @RK_unf F K fr m _ _ s_class_On_p1.eq_1
theorem t_class_On : tb f_class_On = some s_class_On := rfl
@[go_sem] def u_grid_World_At_p0 {F K fr m} := @RK_unf F K fr m _ _ s_grid_World_At_p0.eq_1
@[go_sem] def u_grid_World_At_p1 {F K fr m} := @RK_unf F K fr m _ _ s_grid_World_At_p1.eq_1
@[go_sem] def u_grid_World_At_p2 {F K fr m} := @RK_unf F K fr m _ _ s_grid_World_At_p2.eq_1
@[go_sem] def u_grid_World_At_p3 {F K fr m} := @RK_unf F K fr m _ _ s_grid_World_At_p3.eq_1
theorem t_grid_World_At : tb f_grid_World_At = some s_grid_World_At := rfl
@[go_sem] def u_grid_World_Terrain_p0 {F K fr m} := @RK_unf F K fr m _ _ s_grid_World_Terrain_p0.eq_1
@[go_sem] def u_grid_World_Terrain_p1 {F K fr m} := @RK_unf F K fr m _ _ s_grid_World_Terrain_p1.eq_1
@[go_sem] def u_grid_World_Terrain_p2 {F K fr m} := @RK_unf F K fr m _ _ s_grid_World_Terrain_p2.eq_1
@[go_sem] def u_grid_World_Terrain_p3 {F K fr m} := @RK_unf F K fr m _ _ s_grid_World_Terrain_p3.eq_1
theorem t_grid_World_Terrain : tb f_grid_World_Terrain = some s_grid_World_Terrain := rfl
@[go_sem] def u_class_Stands_p0 {F K fr m} := @RK_unf F K fr m _ _ s_class_Stands_p0.eq_1
@[go_sem] def u_class_Stands_p1 {F K fr m} := @RK_unf F K fr m _ _ s_class_Stands_p1.eq_1
@[go_sem] def u_class_Stands_p2 {F K fr m} := @RK_unf F K fr m _ _ s_class_Stands_p2.eq_1
@[go_sem] def u_class_Stands_p3 {F K fr m} := @RK_unf F K fr m _ _ s_class_Stands_p3.eq_1
@[go_sem] def u_class_Stands_p4 {F K fr m} := @RK_unf F K fr m _ _ s_class_Stands_p4.eq_1
@[go_sem] def u_class_Stands_p5 {F K fr m} := @RK_unf F K fr m _ _ s_class_Stands_p5.eq_1
@[go_sem] def u_class_Stands_p6 {F K fr m} := @RK_unf F K fr m _ _ s_class_Stands_p6.eq_1
@[go_sem] def u_class_Stands_p7 {F K fr m} := @RK_unf F K fr m _ _ s_class_Stands_p7.eq_1
@[go_sem] def u_class_Stands_p8 {F K fr m} := @RK_unf F K fr m _ _ s_class_Stands_p8.eq_1
@[go_sem] def u_class_Stands_p9 {F K fr m} := @RK_unf F K fr m _ _ s_class_Stands_p9.eq_1
@[go_sem] def u_class_Stands_p10 {F K fr m} := @RK_unf F K fr m _ _ s_class_Stands_p10.eq_1
theorem t_class_Stands : tb f_class_Stands = some s_class_Stands := rfl
@[go_sem] def u_clear_Field_tile_p0 {F K fr m} := @RK_unf F K fr m _ _ s_clear_Field_tile_p0.eq_1
theorem t_clear_Field_tile : tb f_clear_Field_tile = some s_clear_Field_tile := rfl
@[go_sem] def u_clear_Field_reckon_p0 {F K fr m} := @RK_unf F K fr m _ _ s_clear_Field_reckon_p0.eq_1
@[go_sem] def u_clear_Field_reckon_p1 {F K fr m} := @RK_unf F K fr m _ _ s_clear_Field_reckon_p1.eq_1
@[go_sem] def u_clear_Field_reckon_p2 {F K fr m} := @RK_unf F K fr m _ _ s_clear_Field_reckon_p2.eq_1
@[go_sem] def u_clear_Field_reckon_p3 {F K fr m} := @RK_unf F K fr m _ _ s_clear_Field_reckon_p3.eq_1
@[go_sem] def u_clear_Field_reckon_p4 {F K fr m} := @RK_unf F K fr m _ _ s_clear_Field_reckon_p4.eq_1
@[go_sem] def u_clear_Field_reckon_p5 {F K fr m} := @RK_unf F K fr m _ _ s_clear_Field_reckon_p5.eq_1
@[go_sem] def u_clear_Field_reckon_p6 {F K fr m} := @RK_unf F K fr m _ _ s_clear_Field_reckon_p6.eq_1
@[go_sem] def u_clear_Field_reckon_p7 {F K fr m} := @RK_unf F K fr m _ _ s_clear_Field_reckon_p7.eq_1
@[go_sem] def u_clear_Field_reckon_p8 {F K fr m} := @RK_unf F K fr m _ _ s_clear_Field_reckon_p8.eq_1
@[go_sem] def u_clear_Field_reckon_p9 {F K fr m} := @RK_unf F K fr m _ _ s_clear_Field_reckon_p9.eq_1
@[go_sem] def u_clear_Field_reckon_p10 {F K fr m} := @RK_unf F K fr m _ _ s_clear_Field_reckon_p10.eq_1
@[go_sem] def u_clear_Field_reckon_p11 {F K fr m} := @RK_unf F K fr m _ _ s_clear_Field_reckon_p11.eq_1
@[go_sem] def u_clear_Field_reckon_p12 {F K fr m} := @RK_unf F K fr m _ _ s_clear_Field_reckon_p12.eq_1
@[go_sem] def u_clear_Field_reckon_p13 {F K fr m} := @RK_unf F K fr m _ _ s_clear_Field_reckon_p13.eq_1
@[go_sem] def u_clear_Field_reckon_p14 {F K fr m} := @RK_unf F K fr m _ _ s_clear_Field_reckon_p14.eq_1
@[go_sem] def u_clear_Field_reckon_p15 {F K fr m} := @RK_unf F K fr m _ _ s_clear_Field_reckon_p15.eq_1
@[go_sem] def u_clear_Field_reckon_p16 {F K fr m} := @RK_unf F K fr m _ _ s_clear_Field_reckon_p16.eq_1
@[go_sem] def u_clear_Field_reckon_p17 {F K fr m} := @RK_unf F K fr m _ _ s_clear_Field_reckon_p17.eq_1
theorem t_clear_Field_reckon : tb f_clear_Field_reckon = some s_clear_Field_reckon := rfl
@[go_sem] def u_grid_World_Epoch_p0 {F K fr m} := @RK_unf F K fr m _ _ s_grid_World_Epoch_p0.eq_1
@[go_sem] def u_grid_World_Epoch_p1 {F K fr m} := @RK_unf F K fr m _ _ s_grid_World_Epoch_p1.eq_1
theorem t_grid_World_Epoch : tb f_grid_World_Epoch = some s_grid_World_Epoch := rfl
@[go_sem] def u_clear_New_p0 {F K fr m} := @RK_unf F K fr m _ _ s_clear_New_p0.eq_1
@[go_sem] def u_clear_New_p1 {F K fr m} := @RK_unf F K fr m _ _ s_clear_New_p1.eq_1
@[go_sem] def u_clear_New_p2 {F K fr m} := @RK_unf F K fr m _ _ s_clear_New_p2.eq_1
@[go_sem] def u_clear_New_p3 {F K fr m} := @RK_unf F K fr m _ _ s_clear_New_p3.eq_1
@[go_sem] def u_clear_New_p4 {F K fr m} := @RK_unf F K fr m _ _ s_clear_New_p4.eq_1
theorem t_clear_New : tb f_clear_New = some s_clear_New := rfl
@[go_sem] def u_parts_Parts_stands_p0 {F K fr m} := @RK_unf F K fr m _ _ s_parts_Parts_stands_p0.eq_1
theorem t_parts_Parts_stands : tb f_parts_Parts_stands = some s_parts_Parts_stands := rfl
@[go_sem] def u_parts_root_p0 {F K fr m} := @RK_unf F K fr m _ _ s_parts_root_p0.eq_1
@[go_sem] def u_parts_root_p1 {F K fr m} := @RK_unf F K fr m _ _ s_parts_root_p1.eq_1
@[go_sem] def u_parts_root_p2 {F K fr m} := @RK_unf F K fr m _ _ s_parts_root_p2.eq_1
@[go_sem] def u_parts_root_p3 {F K fr m} := @RK_unf F K fr m _ _ s_parts_root_p3.eq_1
@[go_sem] def u_parts_root_p4 {F K fr m} := @RK_unf F K fr m _ _ s_parts_root_p4.eq_1
theorem t_parts_root : tb f_parts_root = some s_parts_root := rfl
@[go_sem] def u_parts_Parts_label_p0 {F K fr m} := @RK_unf F K fr m _ _ s_parts_Parts_label_p0.eq_1
@[go_sem] def u_parts_Parts_label_p1 {F K fr m} := @RK_unf F K fr m _ _ s_parts_Parts_label_p1.eq_1
@[go_sem] def u_parts_Parts_label_p2 {F K fr m} := @RK_unf F K fr m _ _ s_parts_Parts_label_p2.eq_1
@[go_sem] def u_parts_Parts_label_p3 {F K fr m} := @RK_unf F K fr m _ _ s_parts_Parts_label_p3.eq_1
@[go_sem] def u_parts_Parts_label_p4 {F K fr m} := @RK_unf F K fr m _ _ s_parts_Parts_label_p4.eq_1
@[go_sem] def u_parts_Parts_label_p5 {F K fr m} := @RK_unf F K fr m _ _ s_parts_Parts_label_p5.eq_1
@[go_sem] def u_parts_Parts_label_p6 {F K fr m} := @RK_unf F K fr m _ _ s_parts_Parts_label_p6.eq_1
@[go_sem] def u_parts_Parts_label_p7 {F K fr m} := @RK_unf F K fr m _ _ s_parts_Parts_label_p7.eq_1
@[go_sem] def u_parts_Parts_label_p8 {F K fr m} := @RK_unf F K fr m _ _ s_parts_Parts_label_p8.eq_1
@[go_sem] def u_parts_Parts_label_p9 {F K fr m} := @RK_unf F K fr m _ _ s_parts_Parts_label_p9.eq_1
@[go_sem] def u_parts_Parts_label_p10 {F K fr m} := @RK_unf F K fr m _ _ s_parts_Parts_label_p10.eq_1
@[go_sem] def u_parts_Parts_label_p11 {F K fr m} := @RK_unf F K fr m _ _ s_parts_Parts_label_p11.eq_1
@[go_sem] def u_parts_Parts_label_p12 {F K fr m} := @RK_unf F K fr m _ _ s_parts_Parts_label_p12.eq_1
@[go_sem] def u_parts_Parts_label_p13 {F K fr m} := @RK_unf F K fr m _ _ s_parts_Parts_label_p13.eq_1
@[go_sem] def u_parts_Parts_label_p14 {F K fr m} := @RK_unf F K fr m _ _ s_parts_Parts_label_p14.eq_1
@[go_sem] def u_parts_Parts_label_p15 {F K fr m} := @RK_unf F K fr m _ _ s_parts_Parts_label_p15.eq_1
@[go_sem] def u_parts_Parts_label_p16 {F K fr m} := @RK_unf F K fr m _ _ s_parts_Parts_label_p16.eq_1
@[go_sem] def u_parts_Parts_label_p17 {F K fr m} := @RK_unf F K fr m _ _ s_parts_Parts_label_p17.eq_1
@[go_sem] def u_parts_Parts_label_p18 {F K fr m} := @RK_unf F K fr m _ _ s_parts_Parts_label_p18.eq_1
@[go_sem] def u_parts_Parts_label_p19 {F K fr m} := @RK_unf F K fr m _ _ s_parts_Parts_label_p19.eq_1
@[go_sem] def u_parts_Parts_label_p20 {F K fr m} := @RK_unf F K fr m _ _ s_parts_Parts_label_p20.eq_1
@[go_sem] def u_parts_Parts_label_p21 {F K fr m} := @RK_unf F K fr m _ _ s_parts_Parts_label_p21.eq_1
@[go_sem] def u_parts_Parts_label_p22 {F K fr m} := @RK_unf F K fr m _ _ s_parts_Parts_label_p22.eq_1
@[go_sem] def u_parts_Parts_label_p23 {F K fr m} := @RK_unf F K fr m _ _ s_parts_Parts_label_p23.eq_1
@[go_sem] def u_parts_Parts_label_p24 {F K fr m} := @RK_unf F K fr m _ _ s_parts_Parts_label_p24.eq_1
@[go_sem] def u_parts_Parts_label_p25 {F K fr m} := @RK_unf F K fr m _ _ s_parts_Parts_label_p25.eq_1
@[go_sem] def u_parts_Parts_label_p26 {F K fr m} := @RK_unf F K fr m _ _ s_parts_Parts_label_p26.eq_1
@[go_sem] def u_parts_Parts_label_p27 {F K fr m} := @RK_unf F K fr m _ _ s_parts_Parts_label_p27.eq_1
@[go_sem] def u_parts_Parts_label_p28 {F K fr m} := @RK_unf F K fr m _ _ s_parts_Parts_label_p28.eq_1
@[go_sem] def u_parts_Parts_label_p29 {F K fr m} := @RK_unf F K fr m _ _ s_parts_Parts_label_p29.eq_1
@[go_sem] def u_parts_Parts_label_p30 {F K fr m} := @RK_unf F K fr m _ _ s_parts_Parts_label_p30.eq_1
@[go_sem] def u_parts_Parts_label_p31 {F K fr m} := @RK_unf F K fr m _ _ s_parts_Parts_label_p31.eq_1
theorem t_parts_Parts_label : tb f_parts_Parts_label = some s_parts_Parts_label := rfl
@[go_sem] def u_parts_New_p0 {F K fr m} := @RK_unf F K fr m _ _ s_parts_New_p0.eq_1
@[go_sem] def u_parts_New_p1 {F K fr m} := @RK_unf F K fr m _ _ s_parts_New_p1.eq_1
@[go_sem] def u_parts_New_p2 {F K fr m} := @RK_unf F K fr m _ _ s_parts_New_p2.eq_1
@[go_sem] def u_parts_New_p3 {F K fr m} := @RK_unf F K fr m _ _ s_parts_New_p3.eq_1
@[go_sem] def u_parts_New_p4 {F K fr m} := @RK_unf F K fr m _ _ s_parts_New_p4.eq_1
@[go_sem] def u_parts_New_p5 {F K fr m} := @RK_unf F K fr m _ _ s_parts_New_p5.eq_1
theorem t_parts_New : tb f_parts_New = some s_parts_New := rfl
@[go_sem] def u_fixed_amount_p0 {F K fr m} := @RK_unf F K fr m _ _ s_fixed_amount_p0.eq_1
@[go_sem] def u_fixed_amount_p1 {F K fr m} := @RK_unf F K fr m _ _ s_fixed_amount_p1.eq_1
theorem t_fixed_amount : tb f_fixed_amount = some s_fixed_amount := rfl
@[go_sem] def u_fixed_signed_p0 {F K fr m} := @RK_unf F K fr m _ _ s_fixed_signed_p0.eq_1
@[go_sem] def u_fixed_signed_p1 {F K fr m} := @RK_unf F K fr m _ _ s_fixed_signed_p1.eq_1
@[go_sem] def u_fixed_signed_p2 {F K fr m} := @RK_unf F K fr m _ _ s_fixed_signed_p2.eq_1
@[go_sem] def u_fixed_signed_p3 {F K fr m} := @RK_unf F K fr m _ _ s_fixed_signed_p3.eq_1
@[go_sem] def u_fixed_signed_p4 {F K fr m} := @RK_unf F K fr m _ _ s_fixed_signed_p4.eq_1
theorem t_fixed_signed : tb f_fixed_signed = some s_fixed_signed := rfl
@[go_sem] def u_math_bits_Mul64_p0 {F K fr m} := @RK_unf F K fr m _ _ s_math_bits_Mul64_p0.eq_1
@[go_sem] def u_math_bits_Mul64_p1 {F K fr m} := @RK_unf F K fr m _ _ s_math_bits_Mul64_p1.eq_1
@[go_sem] def u_math_bits_Mul64_p2 {F K fr m} := @RK_unf F K fr m _ _ s_math_bits_Mul64_p2.eq_1
@[go_sem] def u_math_bits_Mul64_p3 {F K fr m} := @RK_unf F K fr m _ _ s_math_bits_Mul64_p3.eq_1
@[go_sem] def u_math_bits_Mul64_p4 {F K fr m} := @RK_unf F K fr m _ _ s_math_bits_Mul64_p4.eq_1
@[go_sem] def u_math_bits_Mul64_p5 {F K fr m} := @RK_unf F K fr m _ _ s_math_bits_Mul64_p5.eq_1
@[go_sem] def u_math_bits_Mul64_p6 {F K fr m} := @RK_unf F K fr m _ _ s_math_bits_Mul64_p6.eq_1
@[go_sem] def u_math_bits_Mul64_p7 {F K fr m} := @RK_unf F K fr m _ _ s_math_bits_Mul64_p7.eq_1
@[go_sem] def u_math_bits_Mul64_p8 {F K fr m} := @RK_unf F K fr m _ _ s_math_bits_Mul64_p8.eq_1
@[go_sem] def u_math_bits_Mul64_p9 {F K fr m} := @RK_unf F K fr m _ _ s_math_bits_Mul64_p9.eq_1
theorem t_math_bits_Mul64 : tb f_math_bits_Mul64 = some s_math_bits_Mul64 := rfl
@[go_sem] def u_fixed_Octile_p0 {F K fr m} := @RK_unf F K fr m _ _ s_fixed_Octile_p0.eq_1
@[go_sem] def u_fixed_Octile_p1 {F K fr m} := @RK_unf F K fr m _ _ s_fixed_Octile_p1.eq_1
@[go_sem] def u_fixed_Octile_p2 {F K fr m} := @RK_unf F K fr m _ _ s_fixed_Octile_p2.eq_1
@[go_sem] def u_fixed_Octile_p3 {F K fr m} := @RK_unf F K fr m _ _ s_fixed_Octile_p3.eq_1
@[go_sem] def u_fixed_Octile_p4 {F K fr m} := @RK_unf F K fr m _ _ s_fixed_Octile_p4.eq_1
@[go_sem] def u_fixed_Octile_p5 {F K fr m} := @RK_unf F K fr m _ _ s_fixed_Octile_p5.eq_1
@[go_sem] def u_fixed_Octile_p6 {F K fr m} := @RK_unf F K fr m _ _ s_fixed_Octile_p6.eq_1
@[go_sem] def u_fixed_Octile_p7 {F K fr m} := @RK_unf F K fr m _ _ s_fixed_Octile_p7.eq_1
@[go_sem] def u_fixed_Octile_p8 {F K fr m} := @RK_unf F K fr m _ _ s_fixed_Octile_p8.eq_1
theorem t_fixed_Octile : tb f_fixed_Octile = some s_fixed_Octile := rfl
@[go_sem] def u_cell_Octile_p0 {F K fr m} := @RK_unf F K fr m _ _ s_cell_Octile_p0.eq_1
@[go_sem] def u_cell_Octile_p1 {F K fr m} := @RK_unf F K fr m _ _ s_cell_Octile_p1.eq_1
@[go_sem] def u_cell_Octile_p2 {F K fr m} := @RK_unf F K fr m _ _ s_cell_Octile_p2.eq_1
theorem t_cell_Octile : tb f_cell_Octile = some s_cell_Octile := rfl
@[go_sem] def u_parts_Parts_is_p0 {F K fr m} := @RK_unf F K fr m _ _ s_parts_Parts_is_p0.eq_1
theorem t_parts_Parts_is : tb f_parts_Parts_is = some s_parts_Parts_is := rfl
@[go_sem] def u_parts_Parts_At_p0 {F K fr m} := @RK_unf F K fr m _ _ s_parts_Parts_At_p0.eq_1
@[go_sem] def u_parts_Parts_At_p1 {F K fr m} := @RK_unf F K fr m _ _ s_parts_Parts_At_p1.eq_1
@[go_sem] def u_parts_Parts_At_p2 {F K fr m} := @RK_unf F K fr m _ _ s_parts_Parts_At_p2.eq_1
theorem t_parts_Parts_At : tb f_parts_Parts_At = some s_parts_Parts_At := rfl
@[go_sem] def u_parts_Parts_Joined_p0 {F K fr m} := @RK_unf F K fr m _ _ s_parts_Parts_Joined_p0.eq_1
@[go_sem] def u_parts_Parts_Joined_p1 {F K fr m} := @RK_unf F K fr m _ _ s_parts_Parts_Joined_p1.eq_1
theorem t_parts_Parts_Joined : tb f_parts_Parts_Joined = some s_parts_Parts_Joined := rfl
@[go_sem] def u_cell_between_p0 {F K fr m} := @RK_unf F K fr m _ _ s_cell_between_p0.eq_1
@[go_sem] def u_cell_between_p1 {F K fr m} := @RK_unf F K fr m _ _ s_cell_between_p1.eq_1
theorem t_cell_between : tb f_cell_between = some s_cell_between := rfl
@[go_sem] def u_cell_Meet_p0 {F K fr m} := @RK_unf F K fr m _ _ s_cell_Meet_p0.eq_1
@[go_sem] def u_cell_Meet_p1 {F K fr m} := @RK_unf F K fr m _ _ s_cell_Meet_p1.eq_1
@[go_sem] def u_cell_Meet_p2 {F K fr m} := @RK_unf F K fr m _ _ s_cell_Meet_p2.eq_1
@[go_sem] def u_cell_Meet_p3 {F K fr m} := @RK_unf F K fr m _ _ s_cell_Meet_p3.eq_1
@[go_sem] def u_cell_Meet_p4 {F K fr m} := @RK_unf F K fr m _ _ s_cell_Meet_p4.eq_1
@[go_sem] def u_cell_Meet_p5 {F K fr m} := @RK_unf F K fr m _ _ s_cell_Meet_p5.eq_1
@[go_sem] def u_cell_Meet_p6 {F K fr m} := @RK_unf F K fr m _ _ s_cell_Meet_p6.eq_1
@[go_sem] def u_cell_Meet_p7 {F K fr m} := @RK_unf F K fr m _ _ s_cell_Meet_p7.eq_1
@[go_sem] def u_cell_Meet_p8 {F K fr m} := @RK_unf F K fr m _ _ s_cell_Meet_p8.eq_1
theorem t_cell_Meet : tb f_cell_Meet = some s_cell_Meet := rfl
@[go_sem] def u_settle_Will_1_p0 {F K fr m} := @RK_unf F K fr m _ _ s_settle_Will_1_p0.eq_1
@[go_sem] def u_settle_Will_1_p1 {F K fr m} := @RK_unf F K fr m _ _ s_settle_Will_1_p1.eq_1
theorem t_settle_Will_1 : tb f_settle_Will_1 = some s_settle_Will_1 := rfl
@[go_sem] def u_slices_IndexFunc_api_Rect_api_Rect_p0 {F K fr m} := @RK_unf F K fr m _ _ s_slices_IndexFunc_api_Rect_api_Rect_p0.eq_1
@[go_sem] def u_slices_IndexFunc_api_Rect_api_Rect_p1 {F K fr m} := @RK_unf F K fr m _ _ s_slices_IndexFunc_api_Rect_api_Rect_p1.eq_1
@[go_sem] def u_slices_IndexFunc_api_Rect_api_Rect_p2 {F K fr m} := @RK_unf F K fr m _ _ s_slices_IndexFunc_api_Rect_api_Rect_p2.eq_1
@[go_sem] def u_slices_IndexFunc_api_Rect_api_Rect_p3 {F K fr m} := @RK_unf F K fr m _ _ s_slices_IndexFunc_api_Rect_api_Rect_p3.eq_1
@[go_sem] def u_slices_IndexFunc_api_Rect_api_Rect_p4 {F K fr m} := @RK_unf F K fr m _ _ s_slices_IndexFunc_api_Rect_api_Rect_p4.eq_1
theorem t_slices_IndexFunc_api_Rect_api_Rect : tb f_slices_IndexFunc_api_Rect_api_Rect = some s_slices_IndexFunc_api_Rect_api_Rect := rfl
@[go_sem] def u_slices_ContainsFunc_api_Rect_api_Rect_p0 {F K fr m} := @RK_unf F K fr m _ _ s_slices_ContainsFunc_api_Rect_api_Rect_p0.eq_1
theorem t_slices_ContainsFunc_api_Rect_api_Rect : tb f_slices_ContainsFunc_api_Rect_api_Rect = some s_slices_ContainsFunc_api_Rect_api_Rect := rfl
@[go_sem] def u_settle_Will_p0 {F K fr m} := @RK_unf F K fr m _ _ s_settle_Will_p0.eq_1
@[go_sem] def u_settle_Will_p1 {F K fr m} := @RK_unf F K fr m _ _ s_settle_Will_p1.eq_1
@[go_sem] def u_settle_Will_p2 {F K fr m} := @RK_unf F K fr m _ _ s_settle_Will_p2.eq_1
@[go_sem] def u_settle_Will_p3 {F K fr m} := @RK_unf F K fr m _ _ s_settle_Will_p3.eq_1
@[go_sem] def u_settle_Will_p4 {F K fr m} := @RK_unf F K fr m _ _ s_settle_Will_p4.eq_1
theorem t_settle_Will : tb f_settle_Will = some s_settle_Will := rfl
@[go_sem] def u_settle_Nearest_p0 {F K fr m} := @RK_unf F K fr m _ _ s_settle_Nearest_p0.eq_1
@[go_sem] def u_settle_Nearest_p1 {F K fr m} := @RK_unf F K fr m _ _ s_settle_Nearest_p1.eq_1
@[go_sem] def u_settle_Nearest_p2 {F K fr m} := @RK_unf F K fr m _ _ s_settle_Nearest_p2.eq_1
@[go_sem] def u_settle_Nearest_p3 {F K fr m} := @RK_unf F K fr m _ _ s_settle_Nearest_p3.eq_1
@[go_sem] def u_settle_Nearest_p4 {F K fr m} := @RK_unf F K fr m _ _ s_settle_Nearest_p4.eq_1
@[go_sem] def u_settle_Nearest_p5 {F K fr m} := @RK_unf F K fr m _ _ s_settle_Nearest_p5.eq_1
@[go_sem] def u_settle_Nearest_p6 {F K fr m} := @RK_unf F K fr m _ _ s_settle_Nearest_p6.eq_1
@[go_sem] def u_settle_Nearest_p7 {F K fr m} := @RK_unf F K fr m _ _ s_settle_Nearest_p7.eq_1
@[go_sem] def u_settle_Nearest_p8 {F K fr m} := @RK_unf F K fr m _ _ s_settle_Nearest_p8.eq_1
@[go_sem] def u_settle_Nearest_p9 {F K fr m} := @RK_unf F K fr m _ _ s_settle_Nearest_p9.eq_1
@[go_sem] def u_settle_Nearest_p10 {F K fr m} := @RK_unf F K fr m _ _ s_settle_Nearest_p10.eq_1
@[go_sem] def u_settle_Nearest_p11 {F K fr m} := @RK_unf F K fr m _ _ s_settle_Nearest_p11.eq_1
@[go_sem] def u_settle_Nearest_p12 {F K fr m} := @RK_unf F K fr m _ _ s_settle_Nearest_p12.eq_1
@[go_sem] def u_settle_Nearest_p13 {F K fr m} := @RK_unf F K fr m _ _ s_settle_Nearest_p13.eq_1
theorem t_settle_Nearest : tb f_settle_Nearest = some s_settle_Nearest := rfl
@[go_sem] def u_law19_awake_p0 {F K fr m} := @RK_unf F K fr m _ _ s_law19_awake_p0.eq_1
@[go_sem] def u_law19_awake_p1 {F K fr m} := @RK_unf F K fr m _ _ s_law19_awake_p1.eq_1
@[go_sem] def u_law19_awake_p2 {F K fr m} := @RK_unf F K fr m _ _ s_law19_awake_p2.eq_1
@[go_sem] def u_law19_awake_p3 {F K fr m} := @RK_unf F K fr m _ _ s_law19_awake_p3.eq_1
@[go_sem] def u_law19_awake_p4 {F K fr m} := @RK_unf F K fr m _ _ s_law19_awake_p4.eq_1
@[go_sem] def u_law19_awake_p5 {F K fr m} := @RK_unf F K fr m _ _ s_law19_awake_p5.eq_1
theorem t_law19_awake : tb f_law19_awake = some s_law19_awake := rfl
@[go_sem] def u_ref04_All_p0 {F K fr m} := @RK_unf F K fr m _ _ s_ref04_All_p0.eq_1
theorem t_ref04_All : tb f_ref04_All = some s_ref04_All := rfl
@[go_sem] def u_ref04_At_p0 {F K fr m} := @RK_unf F K fr m _ _ s_ref04_At_p0.eq_1
@[go_sem] def u_ref04_At_p1 {F K fr m} := @RK_unf F K fr m _ _ s_ref04_At_p1.eq_1
@[go_sem] def u_ref04_At_p2 {F K fr m} := @RK_unf F K fr m _ _ s_ref04_At_p2.eq_1
@[go_sem] def u_ref04_At_p3 {F K fr m} := @RK_unf F K fr m _ _ s_ref04_At_p3.eq_1
@[go_sem] def u_ref04_At_p4 {F K fr m} := @RK_unf F K fr m _ _ s_ref04_At_p4.eq_1
@[go_sem] def u_ref04_At_p5 {F K fr m} := @RK_unf F K fr m _ _ s_ref04_At_p5.eq_1
theorem t_ref04_At : tb f_ref04_At = some s_ref04_At := rfl
@[go_sem] def u_ref04_Terrain_p0 {F K fr m} := @RK_unf F K fr m _ _ s_ref04_Terrain_p0.eq_1
@[go_sem] def u_ref04_Terrain_p1 {F K fr m} := @RK_unf F K fr m _ _ s_ref04_Terrain_p1.eq_1
@[go_sem] def u_ref04_Terrain_p2 {F K fr m} := @RK_unf F K fr m _ _ s_ref04_Terrain_p2.eq_1
@[go_sem] def u_ref04_Terrain_p3 {F K fr m} := @RK_unf F K fr m _ _ s_ref04_Terrain_p3.eq_1
theorem t_ref04_Terrain : tb f_ref04_Terrain = some s_ref04_Terrain := rfl
@[go_sem] def u_ref06_May_p0 {F K fr m} := @RK_unf F K fr m _ _ s_ref06_May_p0.eq_1
theorem t_ref06_May : tb f_ref06_May = some s_ref06_May := rfl
@[go_sem] def u_ref06_Foot_p0 {F K fr m} := @RK_unf F K fr m _ _ s_ref06_Foot_p0.eq_1
@[go_sem] def u_ref06_Foot_p1 {F K fr m} := @RK_unf F K fr m _ _ s_ref06_Foot_p1.eq_1
@[go_sem] def u_ref06_Foot_p2 {F K fr m} := @RK_unf F K fr m _ _ s_ref06_Foot_p2.eq_1
@[go_sem] def u_ref06_Foot_p3 {F K fr m} := @RK_unf F K fr m _ _ s_ref06_Foot_p3.eq_1
@[go_sem] def u_ref06_Foot_p4 {F K fr m} := @RK_unf F K fr m _ _ s_ref06_Foot_p4.eq_1
theorem t_ref06_Foot : tb f_ref06_Foot = some s_ref06_Foot := rfl
@[go_sem] def u_ref06_On_p0 {F K fr m} := @RK_unf F K fr m _ _ s_ref06_On_p0.eq_1
@[go_sem] def u_ref06_On_p1 {F K fr m} := @RK_unf F K fr m _ _ s_ref06_On_p1.eq_1
@[go_sem] def u_ref06_On_p2 {F K fr m} := @RK_unf F K fr m _ _ s_ref06_On_p2.eq_1
@[go_sem] def u_ref06_On_p3 {F K fr m} := @RK_unf F K fr m _ _ s_ref06_On_p3.eq_1
@[go_sem] def u_ref06_On_p4 {F K fr m} := @RK_unf F K fr m _ _ s_ref06_On_p4.eq_1
@[go_sem] def u_ref06_On_p5 {F K fr m} := @RK_unf F K fr m _ _ s_ref06_On_p5.eq_1
theorem t_ref06_On : tb f_ref06_On = some s_ref06_On := rfl
@[go_sem] def u_ref06_Stands_p0 {F K fr m} := @RK_unf F K fr m _ _ s_ref06_Stands_p0.eq_1
@[go_sem] def u_ref06_Stands_p1 {F K fr m} := @RK_unf F K fr m _ _ s_ref06_Stands_p1.eq_1
@[go_sem] def u_ref06_Stands_p2 {F K fr m} := @RK_unf F K fr m _ _ s_ref06_Stands_p2.eq_1
@[go_sem] def u_ref06_Stands_p3 {F K fr m} := @RK_unf F K fr m _ _ s_ref06_Stands_p3.eq_1
@[go_sem] def u_ref06_Stands_p4 {F K fr m} := @RK_unf F K fr m _ _ s_ref06_Stands_p4.eq_1
@[go_sem] def u_ref06_Stands_p5 {F K fr m} := @RK_unf F K fr m _ _ s_ref06_Stands_p5.eq_1
@[go_sem] def u_ref06_Stands_p6 {F K fr m} := @RK_unf F K fr m _ _ s_ref06_Stands_p6.eq_1
@[go_sem] def u_ref06_Stands_p7 {F K fr m} := @RK_unf F K fr m _ _ s_ref06_Stands_p7.eq_1
@[go_sem] def u_ref06_Stands_p8 {F K fr m} := @RK_unf F K fr m _ _ s_ref06_Stands_p8.eq_1
@[go_sem] def u_ref06_Stands_p9 {F K fr m} := @RK_unf F K fr m _ _ s_ref06_Stands_p9.eq_1
@[go_sem] def u_ref06_Stands_p10 {F K fr m} := @RK_unf F K fr m _ _ s_ref06_Stands_p10.eq_1
@[go_sem] def u_ref06_Stands_p11 {F K fr m} := @RK_unf F K fr m _ _ s_ref06_Stands_p11.eq_1
@[go_sem] def u_ref06_Stands_p12 {F K fr m} := @RK_unf F K fr m _ _ s_ref06_Stands_p12.eq_1
@[go_sem] def u_ref06_Stands_p13 {F K fr m} := @RK_unf F K fr m _ _ s_ref06_Stands_p13.eq_1
@[go_sem] def u_ref06_Stands_p14 {F K fr m} := @RK_unf F K fr m _ _ s_ref06_Stands_p14.eq_1
@[go_sem] def u_ref06_Stands_p15 {F K fr m} := @RK_unf F K fr m _ _ s_ref06_Stands_p15.eq_1
theorem t_ref06_Stands : tb f_ref06_Stands = some s_ref06_Stands := rfl
@[go_sem] def u_ref08_Of_p0 {F K fr m} := @RK_unf F K fr m _ _ s_ref08_Of_p0.eq_1
@[go_sem] def u_ref08_Of_p1 {F K fr m} := @RK_unf F K fr m _ _ s_ref08_Of_p1.eq_1
@[go_sem] def u_ref08_Of_p2 {F K fr m} := @RK_unf F K fr m _ _ s_ref08_Of_p2.eq_1
@[go_sem] def u_ref08_Of_p3 {F K fr m} := @RK_unf F K fr m _ _ s_ref08_Of_p3.eq_1
@[go_sem] def u_ref08_Of_p4 {F K fr m} := @RK_unf F K fr m _ _ s_ref08_Of_p4.eq_1
@[go_sem] def u_ref08_Of_p5 {F K fr m} := @RK_unf F K fr m _ _ s_ref08_Of_p5.eq_1
@[go_sem] def u_ref08_Of_p6 {F K fr m} := @RK_unf F K fr m _ _ s_ref08_Of_p6.eq_1
@[go_sem] def u_ref08_Of_p7 {F K fr m} := @RK_unf F K fr m _ _ s_ref08_Of_p7.eq_1
@[go_sem] def u_ref08_Of_p8 {F K fr m} := @RK_unf F K fr m _ _ s_ref08_Of_p8.eq_1
@[go_sem] def u_ref08_Of_p9 {F K fr m} := @RK_unf F K fr m _ _ s_ref08_Of_p9.eq_1
@[go_sem] def u_ref08_Of_p10 {F K fr m} := @RK_unf F K fr m _ _ s_ref08_Of_p10.eq_1
theorem t_ref08_Of : tb f_ref08_Of = some s_ref08_Of := rfl
@[go_sem] def u_ref03_abs_p0 {F K fr m} := @RK_unf F K fr m _ _ s_ref03_abs_p0.eq_1
@[go_sem] def u_ref03_abs_p1 {F K fr m} := @RK_unf F K fr m _ _ s_ref03_abs_p1.eq_1
theorem t_ref03_abs : tb f_ref03_abs = some s_ref03_abs := rfl
@[go_sem] def u_ref03_Octile_p0 {F K fr m} := @RK_unf F K fr m _ _ s_ref03_Octile_p0.eq_1
@[go_sem] def u_ref03_Octile_p1 {F K fr m} := @RK_unf F K fr m _ _ s_ref03_Octile_p1.eq_1
@[go_sem] def u_ref03_Octile_p2 {F K fr m} := @RK_unf F K fr m _ _ s_ref03_Octile_p2.eq_1
@[go_sem] def u_ref03_Octile_p3 {F K fr m} := @RK_unf F K fr m _ _ s_ref03_Octile_p3.eq_1
@[go_sem] def u_ref03_Octile_p4 {F K fr m} := @RK_unf F K fr m _ _ s_ref03_Octile_p4.eq_1
@[go_sem] def u_ref03_Octile_p5 {F K fr m} := @RK_unf F K fr m _ _ s_ref03_Octile_p5.eq_1
theorem t_ref03_Octile : tb f_ref03_Octile = some s_ref03_Octile := rfl
@[go_sem] def u_ref03_Turn_p0 {F K fr m} := @RK_unf F K fr m _ _ s_ref03_Turn_p0.eq_1
@[go_sem] def u_ref03_Turn_p1 {F K fr m} := @RK_unf F K fr m _ _ s_ref03_Turn_p1.eq_1
@[go_sem] def u_ref03_Turn_p2 {F K fr m} := @RK_unf F K fr m _ _ s_ref03_Turn_p2.eq_1
@[go_sem] def u_ref03_Turn_p3 {F K fr m} := @RK_unf F K fr m _ _ s_ref03_Turn_p3.eq_1
@[go_sem] def u_ref03_Turn_p4 {F K fr m} := @RK_unf F K fr m _ _ s_ref03_Turn_p4.eq_1
@[go_sem] def u_ref03_Turn_p5 {F K fr m} := @RK_unf F K fr m _ _ s_ref03_Turn_p5.eq_1
@[go_sem] def u_ref03_Turn_p6 {F K fr m} := @RK_unf F K fr m _ _ s_ref03_Turn_p6.eq_1
@[go_sem] def u_ref03_Turn_p7 {F K fr m} := @RK_unf F K fr m _ _ s_ref03_Turn_p7.eq_1
@[go_sem] def u_ref03_Turn_p8 {F K fr m} := @RK_unf F K fr m _ _ s_ref03_Turn_p8.eq_1
@[go_sem] def u_ref03_Turn_p9 {F K fr m} := @RK_unf F K fr m _ _ s_ref03_Turn_p9.eq_1
theorem t_ref03_Turn : tb f_ref03_Turn = some s_ref03_Turn := rfl
@[go_sem] def u_ref03_Step_p0 {F K fr m} := @RK_unf F K fr m _ _ s_ref03_Step_p0.eq_1
@[go_sem] def u_ref03_Step_p1 {F K fr m} := @RK_unf F K fr m _ _ s_ref03_Step_p1.eq_1
@[go_sem] def u_ref03_Step_p2 {F K fr m} := @RK_unf F K fr m _ _ s_ref03_Step_p2.eq_1
@[go_sem] def u_ref03_Step_p3 {F K fr m} := @RK_unf F K fr m _ _ s_ref03_Step_p3.eq_1
@[go_sem] def u_ref03_Step_p4 {F K fr m} := @RK_unf F K fr m _ _ s_ref03_Step_p4.eq_1
@[go_sem] def u_ref03_Step_p5 {F K fr m} := @RK_unf F K fr m _ _ s_ref03_Step_p5.eq_1
@[go_sem] def u_ref03_Step_p6 {F K fr m} := @RK_unf F K fr m _ _ s_ref03_Step_p6.eq_1
@[go_sem] def u_ref03_Step_p7 {F K fr m} := @RK_unf F K fr m _ _ s_ref03_Step_p7.eq_1
theorem t_ref03_Step : tb f_ref03_Step = some s_ref03_Step := rfl
@[go_sem] def u_ref03_Sides_p0 {F K fr m} := @RK_unf F K fr m _ _ s_ref03_Sides_p0.eq_1
@[go_sem] def u_ref03_Sides_p1 {F K fr m} := @RK_unf F K fr m _ _ s_ref03_Sides_p1.eq_1
@[go_sem] def u_ref03_Sides_p2 {F K fr m} := @RK_unf F K fr m _ _ s_ref03_Sides_p2.eq_1
@[go_sem] def u_ref03_Sides_p3 {F K fr m} := @RK_unf F K fr m _ _ s_ref03_Sides_p3.eq_1
@[go_sem] def u_ref03_Sides_p4 {F K fr m} := @RK_unf F K fr m _ _ s_ref03_Sides_p4.eq_1
@[go_sem] def u_ref03_Sides_p5 {F K fr m} := @RK_unf F K fr m _ _ s_ref03_Sides_p5.eq_1
@[go_sem] def u_ref03_Sides_p6 {F K fr m} := @RK_unf F K fr m _ _ s_ref03_Sides_p6.eq_1
theorem t_ref03_Sides : tb f_ref03_Sides = some s_ref03_Sides := rfl
@[go_sem] def u_ref08_Ground_Stands_p0 {F K fr m} := @RK_unf F K fr m _ _ s_ref08_Ground_Stands_p0.eq_1
@[go_sem] def u_ref08_Ground_Stands_p1 {F K fr m} := @RK_unf F K fr m _ _ s_ref08_Ground_Stands_p1.eq_1
theorem t_ref08_Ground_Stands : tb f_ref08_Ground_Stands = some s_ref08_Ground_Stands := rfl
@[go_sem] def u_ref08_Ground_Steps_p0 {F K fr m} := @RK_unf F K fr m _ _ s_ref08_Ground_Steps_p0.eq_1
@[go_sem] def u_ref08_Ground_Steps_p1 {F K fr m} := @RK_unf F K fr m _ _ s_ref08_Ground_Steps_p1.eq_1
@[go_sem] def u_ref08_Ground_Steps_p2 {F K fr m} := @RK_unf F K fr m _ _ s_ref08_Ground_Steps_p2.eq_1
@[go_sem] def u_ref08_Ground_Steps_p3 {F K fr m} := @RK_unf F K fr m _ _ s_ref08_Ground_Steps_p3.eq_1
@[go_sem] def u_ref08_Ground_Steps_p4 {F K fr m} := @RK_unf F K fr m _ _ s_ref08_Ground_Steps_p4.eq_1
@[go_sem] def u_ref08_Ground_Steps_p5 {F K fr m} := @RK_unf F K fr m _ _ s_ref08_Ground_Steps_p5.eq_1
@[go_sem] def u_ref08_Ground_Steps_p6 {F K fr m} := @RK_unf F K fr m _ _ s_ref08_Ground_Steps_p6.eq_1
@[go_sem] def u_ref08_Ground_Steps_p7 {F K fr m} := @RK_unf F K fr m _ _ s_ref08_Ground_Steps_p7.eq_1
@[go_sem] def u_ref08_Ground_Steps_p8 {F K fr m} := @RK_unf F K fr m _ _ s_ref08_Ground_Steps_p8.eq_1
theorem t_ref08_Ground_Steps : tb f_ref08_Ground_Steps = some s_ref08_Ground_Steps := rfl
@[go_sem] def u_ref08_Ground_Labels_p0 {F K fr m} := @RK_unf F K fr m _ _ s_ref08_Ground_Labels_p0.eq_1
@[go_sem] def u_ref08_Ground_Labels_p1 {F K fr m} := @RK_unf F K fr m _ _ s_ref08_Ground_Labels_p1.eq_1
@[go_sem] def u_ref08_Ground_Labels_p2 {F K fr m} := @RK_unf F K fr m _ _ s_ref08_Ground_Labels_p2.eq_1
@[go_sem] def u_ref08_Ground_Labels_p3 {F K fr m} := @RK_unf F K fr m _ _ s_ref08_Ground_Labels_p3.eq_1
@[go_sem] def u_ref08_Ground_Labels_p4 {F K fr m} := @RK_unf F K fr m _ _ s_ref08_Ground_Labels_p4.eq_1
@[go_sem] def u_ref08_Ground_Labels_p5 {F K fr m} := @RK_unf F K fr m _ _ s_ref08_Ground_Labels_p5.eq_1
@[go_sem] def u_ref08_Ground_Labels_p6 {F K fr m} := @RK_unf F K fr m _ _ s_ref08_Ground_Labels_p6.eq_1
@[go_sem] def u_ref08_Ground_Labels_p7 {F K fr m} := @RK_unf F K fr m _ _ s_ref08_Ground_Labels_p7.eq_1
@[go_sem] def u_ref08_Ground_Labels_p8 {F K fr m} := @RK_unf F K fr m _ _ s_ref08_Ground_Labels_p8.eq_1
@[go_sem] def u_ref08_Ground_Labels_p9 {F K fr m} := @RK_unf F K fr m _ _ s_ref08_Ground_Labels_p9.eq_1
@[go_sem] def u_ref08_Ground_Labels_p10 {F K fr m} := @RK_unf F K fr m _ _ s_ref08_Ground_Labels_p10.eq_1
@[go_sem] def u_ref08_Ground_Labels_p11 {F K fr m} := @RK_unf F K fr m _ _ s_ref08_Ground_Labels_p11.eq_1
@[go_sem] def u_ref08_Ground_Labels_p12 {F K fr m} := @RK_unf F K fr m _ _ s_ref08_Ground_Labels_p12.eq_1
@[go_sem] def u_ref08_Ground_Labels_p13 {F K fr m} := @RK_unf F K fr m _ _ s_ref08_Ground_Labels_p13.eq_1
@[go_sem] def u_ref08_Ground_Labels_p14 {F K fr m} := @RK_unf F K fr m _ _ s_ref08_Ground_Labels_p14.eq_1
@[go_sem] def u_ref08_Ground_Labels_p15 {F K fr m} := @RK_unf F K fr m _ _ s_ref08_Ground_Labels_p15.eq_1
@[go_sem] def u_ref08_Ground_Labels_p16 {F K fr m} := @RK_unf F K fr m _ _ s_ref08_Ground_Labels_p16.eq_1
@[go_sem] def u_ref08_Ground_Labels_p17 {F K fr m} := @RK_unf F K fr m _ _ s_ref08_Ground_Labels_p17.eq_1
@[go_sem] def u_ref08_Ground_Labels_p18 {F K fr m} := @RK_unf F K fr m _ _ s_ref08_Ground_Labels_p18.eq_1
@[go_sem] def u_ref08_Ground_Labels_p19 {F K fr m} := @RK_unf F K fr m _ _ s_ref08_Ground_Labels_p19.eq_1
@[go_sem] def u_ref08_Ground_Labels_p20 {F K fr m} := @RK_unf F K fr m _ _ s_ref08_Ground_Labels_p20.eq_1
@[go_sem] def u_ref08_Ground_Labels_p21 {F K fr m} := @RK_unf F K fr m _ _ s_ref08_Ground_Labels_p21.eq_1
@[go_sem] def u_ref08_Ground_Labels_p22 {F K fr m} := @RK_unf F K fr m _ _ s_ref08_Ground_Labels_p22.eq_1
theorem t_ref08_Ground_Labels : tb f_ref08_Ground_Labels = some s_ref08_Ground_Labels := rfl
@[go_sem] def u_ref19_joined_p0 {F K fr m} := @RK_unf F K fr m _ _ s_ref19_joined_p0.eq_1
@[go_sem] def u_ref19_joined_p1 {F K fr m} := @RK_unf F K fr m _ _ s_ref19_joined_p1.eq_1
theorem t_ref19_joined : tb f_ref19_joined = some s_ref19_joined := rfl
@[go_sem] def u_ref19_will_p0 {F K fr m} := @RK_unf F K fr m _ _ s_ref19_will_p0.eq_1
@[go_sem] def u_ref19_will_p1 {F K fr m} := @RK_unf F K fr m _ _ s_ref19_will_p1.eq_1
@[go_sem] def u_ref19_will_p2 {F K fr m} := @RK_unf F K fr m _ _ s_ref19_will_p2.eq_1
@[go_sem] def u_ref19_will_p3 {F K fr m} := @RK_unf F K fr m _ _ s_ref19_will_p3.eq_1
@[go_sem] def u_ref19_will_p4 {F K fr m} := @RK_unf F K fr m _ _ s_ref19_will_p4.eq_1
@[go_sem] def u_ref19_will_p5 {F K fr m} := @RK_unf F K fr m _ _ s_ref19_will_p5.eq_1
@[go_sem] def u_ref19_will_p6 {F K fr m} := @RK_unf F K fr m _ _ s_ref19_will_p6.eq_1
@[go_sem] def u_ref19_will_p7 {F K fr m} := @RK_unf F K fr m _ _ s_ref19_will_p7.eq_1
@[go_sem] def u_ref19_will_p8 {F K fr m} := @RK_unf F K fr m _ _ s_ref19_will_p8.eq_1
theorem t_ref19_will : tb f_ref19_will = some s_ref19_will := rfl
@[go_sem] def u_ref19_Nearest_p0 {F K fr m} := @RK_unf F K fr m _ _ s_ref19_Nearest_p0.eq_1
@[go_sem] def u_ref19_Nearest_p1 {F K fr m} := @RK_unf F K fr m _ _ s_ref19_Nearest_p1.eq_1
@[go_sem] def u_ref19_Nearest_p2 {F K fr m} := @RK_unf F K fr m _ _ s_ref19_Nearest_p2.eq_1
@[go_sem] def u_ref19_Nearest_p3 {F K fr m} := @RK_unf F K fr m _ _ s_ref19_Nearest_p3.eq_1
@[go_sem] def u_ref19_Nearest_p4 {F K fr m} := @RK_unf F K fr m _ _ s_ref19_Nearest_p4.eq_1
@[go_sem] def u_ref19_Nearest_p5 {F K fr m} := @RK_unf F K fr m _ _ s_ref19_Nearest_p5.eq_1
@[go_sem] def u_ref19_Nearest_p6 {F K fr m} := @RK_unf F K fr m _ _ s_ref19_Nearest_p6.eq_1
@[go_sem] def u_ref19_Nearest_p7 {F K fr m} := @RK_unf F K fr m _ _ s_ref19_Nearest_p7.eq_1
@[go_sem] def u_ref19_Nearest_p8 {F K fr m} := @RK_unf F K fr m _ _ s_ref19_Nearest_p8.eq_1
@[go_sem] def u_ref19_Nearest_p9 {F K fr m} := @RK_unf F K fr m _ _ s_ref19_Nearest_p9.eq_1
@[go_sem] def u_ref19_Nearest_p10 {F K fr m} := @RK_unf F K fr m _ _ s_ref19_Nearest_p10.eq_1
@[go_sem] def u_ref19_Nearest_p11 {F K fr m} := @RK_unf F K fr m _ _ s_ref19_Nearest_p11.eq_1
@[go_sem] def u_ref19_Nearest_p12 {F K fr m} := @RK_unf F K fr m _ _ s_ref19_Nearest_p12.eq_1
@[go_sem] def u_ref19_Nearest_p13 {F K fr m} := @RK_unf F K fr m _ _ s_ref19_Nearest_p13.eq_1
@[go_sem] def u_ref19_Nearest_p14 {F K fr m} := @RK_unf F K fr m _ _ s_ref19_Nearest_p14.eq_1
@[go_sem] def u_ref19_Nearest_p15 {F K fr m} := @RK_unf F K fr m _ _ s_ref19_Nearest_p15.eq_1
@[go_sem] def u_ref19_Nearest_p16 {F K fr m} := @RK_unf F K fr m _ _ s_ref19_Nearest_p16.eq_1
@[go_sem] def u_ref19_Nearest_p17 {F K fr m} := @RK_unf F K fr m _ _ s_ref19_Nearest_p17.eq_1
theorem t_ref19_Nearest : tb f_ref19_Nearest = some s_ref19_Nearest := rfl
@[go_sem] def u_law19_SettleNearest_p0 {F K fr m} := @RK_unf F K fr m _ _ s_law19_SettleNearest_p0.eq_1
@[go_sem] def u_law19_SettleNearest_p1 {F K fr m} := @RK_unf F K fr m _ _ s_law19_SettleNearest_p1.eq_1
@[go_sem] def u_law19_SettleNearest_p2 {F K fr m} := @RK_unf F K fr m _ _ s_law19_SettleNearest_p2.eq_1
@[go_sem] def u_law19_SettleNearest_p3 {F K fr m} := @RK_unf F K fr m _ _ s_law19_SettleNearest_p3.eq_1
@[go_sem] def u_law19_SettleNearest_p4 {F K fr m} := @RK_unf F K fr m _ _ s_law19_SettleNearest_p4.eq_1
@[go_sem] def u_law19_SettleNearest_p5 {F K fr m} := @RK_unf F K fr m _ _ s_law19_SettleNearest_p5.eq_1
@[go_sem] def u_law19_SettleNearest_p6 {F K fr m} := @RK_unf F K fr m _ _ s_law19_SettleNearest_p6.eq_1
@[go_sem] def u_law19_SettleNearest_p7 {F K fr m} := @RK_unf F K fr m _ _ s_law19_SettleNearest_p7.eq_1
theorem t_law19_SettleNearest : tb f_law19_SettleNearest = some s_law19_SettleNearest := rfl
end Go.Sh.T
